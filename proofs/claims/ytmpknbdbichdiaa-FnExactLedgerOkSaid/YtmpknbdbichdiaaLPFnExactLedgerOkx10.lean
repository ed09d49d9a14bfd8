import Derived.Test.YtmpknbdbichdiaaLPFnExactLedgerOkx0
import Derived.Test.YtmpknbdbichdiaaLPFnExactLedgerOkx9
import Derived.Test.YtmpknbdbichdiaaLSlimWords
namespace Go.Proofs.Ytmpknbdbichdiaa.PFnExactLedgerOk
open Go.Proofs.Ytmpknbdbichdiaa.SlimWords
open Go.RowKit Go.Proofs.YtmpknbdbichdiaaW.PrintWords Go.Proofs.YtmpknbdbichdiaaW.PrintLast Go.Proofs.YtmpknbdbichdiaaW.PrintMore Go.Proofs.Ytmpknbdbichdiaa.MapWords Go.Proofs.Ytmpknbdbichdiaa.IterWords Go.Proofs.Ytmpknbdbichdiaa.MarkWords
attribute [local go_sem] max2_int min2_int max_two min_two max_three min_three max_four min_four
set_option linter.unusedVariables false
set_option linter.unusedSimpArgs false
mutual
def impl_depths.j0 : Nat → List (S222) → Bool → Option (List Int × Bool)
  | 0, _, _ => none
  | k + 1, x0, x18 => if x18 = true then (some (([] : List Int), false)) else (if 0 ≤ (x0.length : Int) then (if ((x0.length : Int) : Int).toNat ≤ 35184372088832 then (impl_depths.l0 k x0 (([] : List ((ByteArray × Int)))) (List.replicate ((x0.length : Int) : Int).toNat 0) x0 (x0.length : Int) 0) else (none)) else (none))
def impl_depths.l0 : Nat → List (S222) → List ((ByteArray × Int)) → List Int → List (S222) → Int → Int → Option (List Int × Bool)
  | 0, _, _, _, _, _, _ => none
  | k + 1, x0, x4, x5, x23, x24, x25 => if x25 < x24 then (if 0 ≤ x25 then (if x25 < (x23.length : Int) then (if ((rd_T222 x23 x25).f0).size ≤ 9223372036854775807 then (if (mhas x4 ((rd_T222 x23 x25).f0)) = true then (impl_depths.j2 k x0 x4 x5 x25 x23 x24 x25 true ((rd_T222 x23 x25).f0) ((rd_T222 x23 x25).f1) ((rd_T222 x23 x25).f2)) else ((impl_NameOk.f k ((rd_T222 x23 x25).f0)).bind fun t257 => (if t257 = true then ((impl_kindOk.f ((rd_T222 x23 x25).f2)).bind fun t258 => (impl_depths.j2 k x0 x4 x5 x25 x23 x24 x25 (!t258) ((rd_T222 x23 x25).f0) ((rd_T222 x23 x25).f1) ((rd_T222 x23 x25).f2))) else (impl_depths.j2 k x0 x4 x5 x25 x23 x24 x25 true ((rd_T222 x23 x25).f0) ((rd_T222 x23 x25).f1) ((rd_T222 x23 x25).f2))))) else (none)) else (none)) else (none)) else (some (x5, true))
def impl_depths.j2 : Nat → List (S222) → List ((ByteArray × Int)) → List Int → Int → List (S222) → Int → Int → Bool → ByteArray → Int → Int → Option (List Int × Bool)
  | 0, _, _, _, _, _, _, _, _, _, _, _ => none
  | k + 1, x0, x4, x5, x6, x23, x24, x25, x49, x256000, x256001, x256002 => if x49 = true then (some (([] : List Int), false)) else (if x256000.size ≤ 9223372036854775807 then (if -9223372036854775808 ≤ x6 then (if x6 ≤ 9223372036854775807 then (if x4.length < 140737488355328 then ((some ((x256000, x6) :: x4 : List ((ByteArray × Int)))).bind fun y259 => (if x256001 = (-1) then (impl_depths.l0 k x0 y259 x5 x23 x24 (wrap64 (x25 + 1))) else (impl_depths.l1 k x0 y259 x5 x6 (wrap64 (x6 - 1)) x23 x24 x25 x256000 x256001 x256002))) else (none)) else (none)) else (none)) else (none))
def impl_depths.l1 : Nat → List (S222) → List ((ByteArray × Int)) → List Int → Int → Int → List (S222) → Int → Int → ByteArray → Int → Int → Option (List Int × Bool)
  | 0, _, _, _, _, _, _, _, _, _, _, _ => none
  | k + 1, x0, x4, x5, x6, x10, x23, x24, x25, x256000, x256001, x256002 => if x10 ≥ 0 then (if x10 = x256001 then (if x10 < 0 then (some (([] : List Int), false)) else (if 0 ≤ x10 then (if x10 < (x0.length : Int) then (if ((rd_T222 x0 x10).f2) = x256002 then (if x10 < (x5.length : Int) then (if (rd x5 x10) ≥ 8 then (some (([] : List Int), false)) else (if 0 ≤ x6 then (if x6 < (x5.length : Int) then (impl_depths.l0 k x0 x4 (x5.set (x6 : Int).toNat (wrap64 ((rd x5 x10) + 1))) x23 x24 (wrap64 (x25 + 1))) else (none)) else (none))) else (none)) else (some (([] : List Int), false))) else (none)) else (none))) else (if 0 ≤ x10 then (if x10 < (x0.length : Int) then (impl_depths.l1 k x0 x4 x5 x6 ((rd_T222 x0 x10).f1) x23 x24 x25 x256000 x256001 x256002) else (none)) else (none))) else (if x10 < 0 then (some (([] : List Int), false)) else (if 0 ≤ x10 then (none) else (none)))
end
def impl_depths.f (k : Nat) (l0 : List (S222)) : Option (List Int × Bool) := if (l0.length : Int) < 1 then (impl_depths.j0 k l0 true) else (impl_depths.j0 k l0 (decide ((l0.length : Int) > 120)))
theorem impl_depths.mono_l : ∀ k, (∀ y0 y1, LeO (impl_depths.j0 k y0 y1) (impl_depths.j0 (k + 1) y0 y1)) ∧ (∀ y0 y1 y2 y3 y4 y5, LeO (impl_depths.l0 k y0 y1 y2 y3 y4 y5) (impl_depths.l0 (k + 1) y0 y1 y2 y3 y4 y5)) ∧ (∀ y0 y1 y2 y3 y4 y5 y6 y7 y8 y9 y10, LeO (impl_depths.j2 k y0 y1 y2 y3 y4 y5 y6 y7 y8 y9 y10) (impl_depths.j2 (k + 1) y0 y1 y2 y3 y4 y5 y6 y7 y8 y9 y10)) ∧ (∀ y0 y1 y2 y3 y4 y5 y6 y7 y8 y9 y10, LeO (impl_depths.l1 k y0 y1 y2 y3 y4 y5 y6 y7 y8 y9 y10) (impl_depths.l1 (k + 1) y0 y1 y2 y3 y4 y5 y6 y7 y8 y9 y10))
  | 0 => ⟨fun _ _ r h => by simp [impl_depths.j0] at h, fun _ _ _ _ _ _ r h => by simp [impl_depths.l0] at h, fun _ _ _ _ _ _ _ _ _ _ _ r h => by simp [impl_depths.j2] at h, fun _ _ _ _ _ _ _ _ _ _ _ r h => by simp [impl_depths.l1] at h⟩
  | k + 1 => by
    obtain ⟨ih0, ih1, ih2, ih3⟩ := impl_depths.mono_l k
    refine ⟨?_, ?_, ?_, ?_⟩
    · intro y0 y1
      unfold impl_depths.j0
      repeat' first
      | (with_reducible exact ih0 _ _)
      | (with_reducible exact ih1 _ _ _ _ _ _)
      | (with_reducible exact ih2 _ _ _ _ _ _ _ _ _ _ _)
      | (with_reducible exact ih3 _ _ _ _ _ _ _ _ _ _ _)
      | (with_reducible exact impl_NameOk.mono _ _)
      | (with_reducible exact LeO.refl _)
      | (with_reducible exact LeO.none _)
      | (with_reducible refine LeO.ite ?_ ?_)
      | (with_reducible refine LeO.bind ?_ (fun _ => ?_))
      | exact ih0 _ _
      | exact ih1 _ _ _ _ _ _
      | exact ih2 _ _ _ _ _ _ _ _ _ _ _
      | exact ih3 _ _ _ _ _ _ _ _ _ _ _
      | exact impl_NameOk.mono _ _
      | exact LeO.none _
      | refine LeO.ite ?_ ?_
      | refine LeO.bind ?_ (fun _ => ?_)
    · intro y0 y1 y2 y3 y4 y5
      unfold impl_depths.l0
      repeat' first
      | (with_reducible exact ih0 _ _)
      | (with_reducible exact ih1 _ _ _ _ _ _)
      | (with_reducible exact ih2 _ _ _ _ _ _ _ _ _ _ _)
      | (with_reducible exact ih3 _ _ _ _ _ _ _ _ _ _ _)
      | (with_reducible exact impl_NameOk.mono _ _)
      | (with_reducible exact LeO.refl _)
      | (with_reducible exact LeO.none _)
      | (with_reducible refine LeO.ite ?_ ?_)
      | (with_reducible refine LeO.bind ?_ (fun _ => ?_))
      | exact ih0 _ _
      | exact ih1 _ _ _ _ _ _
      | exact ih2 _ _ _ _ _ _ _ _ _ _ _
      | exact ih3 _ _ _ _ _ _ _ _ _ _ _
      | exact impl_NameOk.mono _ _
      | exact LeO.none _
      | refine LeO.ite ?_ ?_
      | refine LeO.bind ?_ (fun _ => ?_)
    · intro y0 y1 y2 y3 y4 y5 y6 y7 y8 y9 y10
      unfold impl_depths.j2
      repeat' first
      | (with_reducible exact ih0 _ _)
      | (with_reducible exact ih1 _ _ _ _ _ _)
      | (with_reducible exact ih2 _ _ _ _ _ _ _ _ _ _ _)
      | (with_reducible exact ih3 _ _ _ _ _ _ _ _ _ _ _)
      | (with_reducible exact impl_NameOk.mono _ _)
      | (with_reducible exact LeO.refl _)
      | (with_reducible exact LeO.none _)
      | (with_reducible refine LeO.ite ?_ ?_)
      | (with_reducible refine LeO.bind ?_ (fun _ => ?_))
      | exact ih0 _ _
      | exact ih1 _ _ _ _ _ _
      | exact ih2 _ _ _ _ _ _ _ _ _ _ _
      | exact ih3 _ _ _ _ _ _ _ _ _ _ _
      | exact impl_NameOk.mono _ _
      | exact LeO.none _
      | refine LeO.ite ?_ ?_
      | refine LeO.bind ?_ (fun _ => ?_)
    · intro y0 y1 y2 y3 y4 y5 y6 y7 y8 y9 y10
      unfold impl_depths.l1
      repeat' first
      | (with_reducible exact ih0 _ _)
      | (with_reducible exact ih1 _ _ _ _ _ _)
      | (with_reducible exact ih2 _ _ _ _ _ _ _ _ _ _ _)
      | (with_reducible exact ih3 _ _ _ _ _ _ _ _ _ _ _)
      | (with_reducible exact impl_NameOk.mono _ _)
      | (with_reducible exact LeO.refl _)
      | (with_reducible exact LeO.none _)
      | (with_reducible refine LeO.ite ?_ ?_)
      | (with_reducible refine LeO.bind ?_ (fun _ => ?_))
      | exact ih0 _ _
      | exact ih1 _ _ _ _ _ _
      | exact ih2 _ _ _ _ _ _ _ _ _ _ _
      | exact ih3 _ _ _ _ _ _ _ _ _ _ _
      | exact impl_NameOk.mono _ _
      | exact LeO.none _
      | refine LeO.ite ?_ ?_
      | refine LeO.bind ?_ (fun _ => ?_)
theorem impl_depths.mono : ∀ a0 k, LeO (impl_depths.f k a0) (impl_depths.f (k + 1) a0) := by
 intro a0 k
 obtain ⟨ih0, ih1, ih2, ih3⟩ := impl_depths.mono_l k
 unfold impl_depths.f
 repeat' first
     | (with_reducible exact ih0 _ _)
     | (with_reducible exact ih1 _ _ _ _ _ _)
     | (with_reducible exact ih2 _ _ _ _ _ _ _ _ _ _ _)
     | (with_reducible exact ih3 _ _ _ _ _ _ _ _ _ _ _)
     | (with_reducible exact impl_NameOk.mono _ _)
     | (with_reducible exact LeO.refl _)
     | (with_reducible exact LeO.none _)
     | (with_reducible refine LeO.ite ?_ ?_)
     | (with_reducible refine LeO.bind ?_ (fun _ => ?_))
     | exact ih0 _ _
     | exact ih1 _ _ _ _ _ _
     | exact ih2 _ _ _ _ _ _ _ _ _ _ _
     | exact ih3 _ _ _ _ _ _ _ _ _ _ _
     | exact impl_NameOk.mono _ _
     | exact LeO.none _
     | refine LeO.ite ?_ ?_
     | refine LeO.bind ?_ (fun _ => ?_)
set_option maxHeartbeats 8000000 in
set_option maxRecDepth 100000 in
theorem impl_depths.calls (k : Nat) (A0 : Option Addr) (c0 : Nat) (l0 : List (S222)) (r1 : List Int) (r2 : Bool) (w : World) (hr0 : Kd.C k222 w A0 l0.length l0) (hc0 : l0.length ≤ c0) (h : impl_depths.f k l0 = some (r1, r2)) :
    Calls Try.prog 200 #[.slice A0 l0.length c0] w fun e w' => ∃ v0_ : Value, e = .returned (.tuple #[v0_, .bool r2]) ∧ Kd.R (Kd.int .i64) 3 w' w.heap.size (fun _ => True) v0_ r1 ∧ Below w.heap.size w w' := by
 have hu222 := Try.underlying222; have HR0 := Aside0.mk hr0; have HC0 := Aside0.mk hc0; clear hr0 hc0; have HB := aZ (Below.refl w.heap.size w); have H : (if (l0.length : Int) < 1 then (impl_depths.j0 k l0 true) else (impl_depths.j0 k l0 (decide ((l0.length : Int) > 120)))) = some (r1, r2) := h; clear h; have HC2 := Aside0.mk H; clear H; go_enter Try.func200, Try.ntmps200
 go_upto_region 1 with (fail)
 repeat (go_quiet (fail); go_upto_region 1 with (fail))
 go_cut [18] (fun v18 wc => ∃ (kq : Nat) (x18_1 : Bool), v18 = .bool x18_1 ∧ Aside0 (impl_depths.j0 kq l0 x18_1 = some (r1, r2)) ∧ Aside0 (kq ≤ k) ∧ Aside0 (Below w.heap.size w wc))
 case first =>
  have H := HC2.out; clear HC2
  by_cases c3 : (l0.length : Int) < 1
  ·rw [if_pos c3] at H; have c3b0 := decide_eq_true c3; have c3b1 : decide (l0.length < 1) = true := decide_eq_true (by omega); clear c3; (first | rw [c3b0] | (simp only [i64_w, i32_w]; rw [c3b0]) | skip); have H' := Aside0.mk H; clear H; go_wp2
   repeat (go_quiet (fail); try go_wp2)
   go_meet
   case rel => exact ⟨_, (true), tZB, H', ⟨by first | omega | exact Nat.le_refl _⟩, ⟨bZ⟩⟩
  rw [if_neg c3] at H; have c3b0 := decide_eq_false c3; have c3b1 : decide (l0.length < 1) = false := decide_eq_false (by omega); clear c3; (first | rw [c3b0] | (simp only [i64_w, i32_w]; rw [c3b0]) | skip); have H' := Aside0.mk H; clear H; go_wp2
  repeat (go_quiet (fail); try go_wp2)
  go_meet
  case rel => exact ⟨_, (decide ((l0.length : Int) > 120)), tZB, H', ⟨by first | omega | exact Nat.le_refl _⟩, ⟨bZ⟩⟩
 case rest =>
  clear HC2; obtain ⟨kq, x18_1, rfl, HA, HJ1, HB⟩ := hcut
  cases kq with
  | zero => exact absurd HA.out (by simp [impl_depths.j0])
  | succ kj1 =>
   have H := HA.out; clear HA; simp only [impl_depths.j0] at H
   by_cases c4 : x18_1 = true
   ·subst c4; rw [if_pos rfl] at H; simp only [Option.some.injEq, Prod.mk.injEq] at H; obtain ⟨rfl, rfl⟩ := H; go_wp2
    repeat (go_quiet (fail); try go_wp2)
    go_ret2; exact ⟨_, tZC, by first | exact Kd.R_nil _ _ _ _ _ | exact Kd.N_nil _ _ _ _ _ | exact Kd.V_nil _ _ _ _ _ | exact Kd.Q_nil _ _ _ _ _ | exact Kd.S_nil _ _ _ _ _, bZ⟩
   replace c4 := Bool.eq_false_iff.mpr c4; subst c4; rw [if_neg Bool.false_ne_true] at H; obtain ⟨y248, hy248⟩ : ∃ y_ : List ((ByteArray × Int)), y_ = (([] : List ((ByteArray × Int)))) := ⟨_, rfl⟩; replace H : (if 0 ≤ (l0.length : Int) then (if ((l0.length : Int) : Int).toNat ≤ 35184372088832 then (impl_depths.l0 kj1 l0 y248 (List.replicate ((l0.length : Int) : Int).toNat 0) l0 (l0.length : Int) 0) else (none)) else (none)) = some (r1, r2) := by first | (rw [hy248]; with_reducible exact H) | (have H2_ := (Option.bind_some _ _).symm.trans H; rw [hy248]; with_reducible exact H2_) | (have H2_ := (Option.bind_some _ _).symm.trans H; with_reducible exact H2_) | with_reducible exact H | (rw [hy248]; exact H) | exact H
   have Ny248 := Aside0.mk hy248; clear hy248
   by_cases c5 : 0 ≤ (l0.length : Int)
   rotate_left
   ·rw [if_neg c5] at H; exact absurd H (by simp)
   rw [if_pos c5] at H; have c5b0 := eq_true c5; have c5b1 := decide_eq_true c5; clear c5
   by_cases c6 : ((l0.length : Int) : Int).toNat ≤ 35184372088832
   rotate_left
   ·rw [if_neg c6] at H; exact absurd H (by simp)
   rw [if_pos c6] at H; have c6b0 := eq_true c6; have c6b1 := decide_eq_true c6; clear c6; obtain ⟨y251, hy251⟩ : ∃ y_ : List Int, y_ = (List.replicate ((l0.length : Int) : Int).toNat 0) := ⟨_, rfl⟩; replace H : (impl_depths.l0 kj1 l0 y248 y251 l0 (l0.length : Int) 0) = some (r1, r2) := by first | (rw [hy251]; with_reducible exact H) | (have H2_ := (Option.bind_some _ _).symm.trans H; rw [hy251]; with_reducible exact H2_) | (have H2_ := (Option.bind_some _ _).symm.trans H; with_reducible exact H2_) | with_reducible exact H | (rw [hy251]; exact H) | exact H
   have Ny251 := Aside0.mk hy251; clear hy251; have H' := Aside0.mk H; clear H
   go_wp2_with (first | ((with_reducible refine gate_dst (N := 19) rfl ?_); (try (refine gate_guard (by rfl) ?_; dsimp only)); refine Kd.Y_make my264 264 rfl rfl rfl ?_; intro v249 w7 ho8 hb; rw [← Ny248.out] at ho8; have HO250 := aZ (Kd.Y_lower ho8 (below_size (lZB HB.out))); replace HB := aZ (below_step (lZB HB.out) hb); clear hb ho8) | ((with_reducible refine gate_dst (N := 22) rfl ?_); (try (refine gate_guard (by rfl) ?_; dsimp only)); refine Kd.R_make (Kd.int .i64) _ 3 rfl (N := 22) rfl 24 _ _ rfl (l0.length : Int) rfl rfl Try.underlying24 (.int .i64 0) 8 info3 rfl (by decide) (by omega) 0 (ok := fun _ => True) (okp := fun _ => True) rfl (fun _ hk => hk) trivial (of_decide_eq_true tZE) (Nat.le_trans (Nat.mul_le_mul_right _ (of_decide_eq_true tZE : (l0.length : Int).toNat ≤ 35184372088832)) (by omega)) (Below.refl _ _) (Nat.le_refl _) ?_; intro v252 w9 ho10 hb hg_ hnew_; clear hg_ hnew_; (first | rw [← Ny251.out] at ho10 | (simp only [Int.reduceToNat] at ho10; rw [← Ny251.out] at ho10)); replace HO250 := aZ (Kd.Y_below (lZY HO250.out) hb); have HO253 := aZ (Kd.R_lower ho10 (below_size (lZB HB.out))); replace HB := aZ (below_step (lZB HB.out) hb); clear hb ho10))
   repeat (go_quiet (first | ((with_reducible refine gate_dst (N := 19) rfl ?_); (try (refine gate_guard (by rfl) ?_; dsimp only)); refine Kd.Y_make my264 264 rfl rfl rfl ?_; intro v249 w7 ho8 hb; rw [← Ny248.out] at ho8; have HO250 := aZ (Kd.Y_lower ho8 (below_size (lZB HB.out))); replace HB := aZ (below_step (lZB HB.out) hb); clear hb ho8) | ((with_reducible refine gate_dst (N := 22) rfl ?_); (try (refine gate_guard (by rfl) ?_; dsimp only)); refine Kd.R_make (Kd.int .i64) _ 3 rfl (N := 22) rfl 24 _ _ rfl (l0.length : Int) rfl rfl Try.underlying24 (.int .i64 0) 8 info3 rfl (by decide) (by omega) 0 (ok := fun _ => True) (okp := fun _ => True) rfl (fun _ hk => hk) trivial (of_decide_eq_true tZE) (Nat.le_trans (Nat.mul_le_mul_right _ (of_decide_eq_true tZE : (l0.length : Int).toNat ≤ 35184372088832)) (by omega)) (Below.refl _ _) (Nat.le_refl _) ?_; intro v252 w9 ho10 hb hg_ hnew_; clear hg_ hnew_; (first | rw [← Ny251.out] at ho10 | (simp only [Int.reduceToNat] at ho10; rw [← Ny251.out] at ho10)); replace HO250 := aZ (Kd.Y_below (lZY HO250.out) hb); have HO253 := aZ (Kd.R_lower ho10 (below_size (lZB HB.out))); replace HB := aZ (below_step (lZB HB.out) hb); clear hb ho10)); try go_wp2_with (first | ((with_reducible refine gate_dst (N := 19) rfl ?_); (try (refine gate_guard (by rfl) ?_; dsimp only)); refine Kd.Y_make my264 264 rfl rfl rfl ?_; intro v249 w7 ho8 hb; rw [← Ny248.out] at ho8; have HO250 := aZ (Kd.Y_lower ho8 (below_size (lZB HB.out))); replace HB := aZ (below_step (lZB HB.out) hb); clear hb ho8) | ((with_reducible refine gate_dst (N := 22) rfl ?_); (try (refine gate_guard (by rfl) ?_; dsimp only)); refine Kd.R_make (Kd.int .i64) _ 3 rfl (N := 22) rfl 24 _ _ rfl (l0.length : Int) rfl rfl Try.underlying24 (.int .i64 0) 8 info3 rfl (by decide) (by omega) 0 (ok := fun _ => True) (okp := fun _ => True) rfl (fun _ hk => hk) trivial (of_decide_eq_true tZE) (Nat.le_trans (Nat.mul_le_mul_right _ (of_decide_eq_true tZE : (l0.length : Int).toNat ≤ 35184372088832)) (by omega)) (Below.refl _ _) (Nat.le_refl _) ?_; intro v252 w9 ho10 hb hg_ hnew_; clear hg_ hnew_; (first | rw [← Ny251.out] at ho10 | (simp only [Int.reduceToNat] at ho10; rw [← Ny251.out] at ho10)); replace HO250 := aZ (Kd.Y_below (lZY HO250.out) hb); have HO253 := aZ (Kd.R_lower ho10 (below_size (lZB HB.out))); replace HB := aZ (below_step (lZB HB.out) hb); clear hb ho10)))
   go_loopg [25] kj1 (fun kq v25 w' => ∃ (x4_2 : List ((ByteArray × Int))) (x5_2 : List Int) (x25_2 : Int), v25 = .int .i64 x25_2 ∧ Aside0 (impl_depths.l0 kq l0 x4_2 x5_2 l0 (l0.length : Int) x25_2 = some (r1, r2)) ∧ Aside0 (kq ≤ kj1) ∧ Aside0 (Kd.Y my264 264 w' w.heap.size (fun _ => True) v249 x4_2) ∧ Aside0 (Kd.R (Kd.int .i64) 3 w' w.heap.size (fun _ => True) v252 x5_2) ∧ Aside0 (Below w.heap.size w w'))
   case atStart => exact ⟨(y248), (y251), (0), tZB, H', ⟨Nat.le_refl _⟩, ⟨lZY HO250.out⟩, ⟨lZR HO253.out⟩, ⟨bZ⟩⟩
   case round =>
    clear H'; (try clear c4 c5 c5b0 c5b1 c6 c6b0 c6b1); obtain ⟨x4_2, x5_2, x25_2, rfl, HA, HK2, HO_4, HO_5, HB⟩ := hrel
    cases gk with
    | zero => exact absurd HA.out (by simp [impl_depths.l0])
    | succ k2 =>
     have H := HA.out; clear HA; simp only [impl_depths.l0] at H
     by_cases c11 : x25_2 < (l0.length : Int)
     rotate_left
     ·rw [if_neg c11] at H; have c11b0 := decide_eq_false c11; clear c11; simp only [Option.some.injEq, Prod.mk.injEq] at H; obtain ⟨rfl, rfl⟩ := H; go_wp2
      repeat (go_quiet (fail); try go_wp2)
      go_ret2; exact ⟨_, tZC, lZR HO_5.out, bZ⟩
     rw [if_pos c11] at H; have c11b0 := decide_eq_true c11; clear c11
     by_cases c12 : 0 ≤ x25_2
     rotate_left
     ·rw [if_neg c12] at H; exact absurd H (by simp)
     rw [if_pos c12] at H; have c12b0 := decide_eq_true c12; clear c12
     by_cases c13 : x25_2 < (l0.length : Int)
     rotate_left
     ·rw [if_neg c13] at H; exact absurd H (by simp)
     rw [if_pos c13] at H; have c13b0 := decide_eq_true c13; clear c13
     by_cases c14 : ((rd_T222 l0 x25_2).f0).size ≤ 9223372036854775807
     rotate_left
     ·rw [if_neg c14] at H; exact absurd H (by simp)
     rw [if_pos c14] at H; have c14b0 := eq_true c14; have c14b1 := decide_eq_true c14
     try have c14b2 := eq_false (Nat.not_lt.2 c14)
     clear c14; obtain ⟨y256, hy256⟩ : ∃ y_ : Bool, y_ = (mhas x4_2 ((rd_T222 l0 x25_2).f0)) := ⟨_, rfl⟩
     replace H : (if y256 = true then (impl_depths.j2 k2 l0 x4_2 x5_2 x25_2 l0 (l0.length : Int) x25_2 true ((rd_T222 l0 x25_2).f0) ((rd_T222 l0 x25_2).f1) ((rd_T222 l0 x25_2).f2)) else ((impl_NameOk.f k2 ((rd_T222 l0 x25_2).f0)).bind fun t257 => (if t257 = true then ((impl_kindOk.f ((rd_T222 l0 x25_2).f2)).bind fun t258 => (impl_depths.j2 k2 l0 x4_2 x5_2 x25_2 l0 (l0.length : Int) x25_2 (!t258) ((rd_T222 l0 x25_2).f0) ((rd_T222 l0 x25_2).f1) ((rd_T222 l0 x25_2).f2))) else (impl_depths.j2 k2 l0 x4_2 x5_2 x25_2 l0 (l0.length : Int) x25_2 true ((rd_T222 l0 x25_2).f0) ((rd_T222 l0 x25_2).f1) ((rd_T222 l0 x25_2).f2))))) = some (r1, r2) := by first | (rw [hy256]; with_reducible exact H) | (have H2_ := (Option.bind_some _ _).symm.trans H; rw [hy256]; with_reducible exact H2_) | (have H2_ := (Option.bind_some _ _).symm.trans H; with_reducible exact H2_) | with_reducible exact H | (rw [hy256]; exact H) | exact H
     have Ny256 := Aside0.mk hy256; clear hy256; have HC15 := Aside0.mk H; clear H; have p254 : 0 ≤ (x25_2 : Int) := of_decide_eq_true tZE; have q254 : x25_2 < (l0.length : Int) := of_decide_eq_true tZE; obtain ⟨ad254, e254, hx254_0, hx254_1, hx254_2⟩ := at_T222 HR0.out x25_2 p254 q254
     cases e254
     replace hx254_0 := cZ HB hx254_0; replace hx254_1 := cZ HB hx254_1; replace hx254_2 := cZ HB hx254_2; replace p254 := eq_true p254; replace q254 := eq_true q254
     go_upto_region 9 with (first | ((with_reducible refine gate_dst (N := 7) rfl ?_); (try (refine gate_guard (by rfl) ?_; dsimp only)); refine box_event tZR (N := 7) tZR (cs := #[.string (⟨#[]⟩ : ByteArray), .int .i64 0, .int .i64 0]) (t := 222) tZS ?_; intro gb255 hg w16 hbox hb; replace HO_4 := aZ (Kd.Y_below (lZY HO_4.out) hb); replace HO_5 := aZ (Kd.R_below (lZR HO_5.out) hb); have BK255 := aZ (hbox); have GW255 := aZ ((by rw [hg]; exact (below_size (lZB HB.out)) : w.heap.size ≤ gb255)); have GE255 := GW255; replace HB := aZ (below_step (lZB HB.out) hb); clear hb hbox hg; obtain ⟨hcz17_0, hcz17_1, hcz17_2, hfz17_0, hfz17_1, hfz17_2⟩ := bc3 BK255.out) | ((with_reducible refine gate_store (t := 222) (p := 7) rfl ?_); (try (rw [drewN_self w16]; generalize hq_ : World.drewN w16 _ = w16; replace HO_4 := aZ (Kd.Y_at hq_ HO_4.out); replace HO_5 := aZ (Kd.R_at hq_ HO_5.out); replace BK255 := aZ (blk_at hq_ BK255.out); replace HB := aZ (below_at hq_ HB.out); clear hq_)); refine store_event (t := 222) (p := 7) (v := ?vo_w18) (w1 := (((w16.setCell ⟨gb255, 0, none⟩ (.string ((rd_T222 l0 x25_2).f0))).setCell ⟨gb255, 1, none⟩ (.int .i64 ((rd_T222 l0 x25_2).f1))).setCell ⟨gb255, 2, none⟩ (.int .i64 ((rd_T222 l0 x25_2).f2)))) ?hg ?ho ?hn ?hr ?_; (case ho => rfl); (case hg => rfl); (case hn => rfl); (case hr => first | (go_simp; done) | (go_simp; rfl)); intro w18 hw; replace HO_4 : Aside0 (Kd.Y my264 264 w18 w.heap.size (fun _ => True) v249 x4_2) := ⟨(by rw [hw]; exact (by (with_reducible repeat (first | apply Kd.Y_alloc | apply Kd.Y_drewN | apply Kd.Y_drew)); exact Kd.Y_mono (Kd.Y_far (p := ⟨gb255, 2, none⟩) (Kd.Y_far (p := ⟨gb255, 1, none⟩) (Kd.Y_far (p := ⟨gb255, 0, none⟩) (Kd.Y_types HO_4.out BK255.out (by decide)) (fun _ hk => hk.2) (.string ((rd_T222 l0 x25_2).f0))) (fun _ hk => hk.2) (.int .i64 ((rd_T222 l0 x25_2).f1))) (fun _ hk => hk.2) (.int .i64 ((rd_T222 l0 x25_2).f2))) (fun _ hk => trivial)))⟩; replace HO_5 : Aside0 (Kd.R (Kd.int .i64) 3 w18 w.heap.size (fun _ => True) v252 x5_2) := ⟨(by rw [hw]; exact (by (with_reducible repeat (first | apply Kd.R_alloc | apply Kd.R_drewN | apply Kd.R_drew)); exact Kd.R_mono (Kd.R_far (p := ⟨gb255, 2, none⟩) (Kd.R_far (p := ⟨gb255, 1, none⟩) (Kd.R_far (p := ⟨gb255, 0, none⟩) (Kd.R_types HO_5.out BK255.out (by decide)) (fun _ hk => hk.2) (.string ((rd_T222 l0 x25_2).f0))) (fun _ hk => hk.2) (.int .i64 ((rd_T222 l0 x25_2).f1))) (fun _ hk => hk.2) (.int .i64 ((rd_T222 l0 x25_2).f2))) (fun _ hk => trivial)))⟩; replace BK255 : Aside0 (w18.heap[gb255]? = some (.cells #[.string ((rd_T222 l0 x25_2).f0), .int .i64 ((rd_T222 l0 x25_2).f1), .int .i64 ((rd_T222 l0 x25_2).f2)] 222 (0, 0))) := ⟨(by rw [hw]; exact (by (with_reducible repeat (first | refine blk_drewN ?_ _ | refine blk_drew ?_ | refine blk_alloc ?_ _)); refine blk_put (cs := #[.string ((rd_T222 l0 x25_2).f0), .int .i64 ((rd_T222 l0 x25_2).f1), .int .i64 0]) ?_ 2 _ rfl; (with_reducible repeat (first | refine blk_drewN ?_ _ | refine blk_drew ?_ | refine blk_alloc ?_ _)); refine blk_put (cs := #[.string ((rd_T222 l0 x25_2).f0), .int .i64 0, .int .i64 0]) ?_ 1 _ rfl; (with_reducible repeat (first | refine blk_drewN ?_ _ | refine blk_drew ?_ | refine blk_alloc ?_ _)); refine blk_put (cs := #[.string (⟨#[]⟩ : ByteArray), .int .i64 0, .int .i64 0]) ?_ 0 _ rfl; (with_reducible repeat (first | refine blk_drewN ?_ _ | refine blk_drew ?_ | refine blk_alloc ?_ _)); exact BK255.out))⟩; replace HB : Aside0 (Below w.heap.size w w18) := ⟨(by rw [hw]; exact bZ)⟩; clear hw; obtain ⟨hcz19_0, hcz19_1, hcz19_2, hfz19_0, hfz19_1, hfz19_2⟩ := bc3 BK255.out; have hcv20 := Kd.Y_look (e := 264) (HO_4.out) ((rd_T222 l0 x25_2).f0) (show okS _ from ((of_decide_eq_true tZE) : ((rd_T222 l0 x25_2).f0).size ≤ 9223372036854775807)); have hcv20d := fun n_ => Kd.Y_look (e := 264) (Kd.Y_drewN (HO_4.out) n_) ((rd_T222 l0 x25_2).f0) (show okS _ from ((of_decide_eq_true tZE) : ((rd_T222 l0 x25_2).f0).size ≤ 9223372036854775807)); have hcv20e := fun m_ n_ => Kd.Y_look (e := 264) (Kd.Y_drewN (Kd.Y_drewN (HO_4.out) m_) n_) ((rd_T222 l0 x25_2).f0) (show okS _ from ((of_decide_eq_true tZE) : ((rd_T222 l0 x25_2).f0).size ≤ 9223372036854775807)); simp only [my264, mkSB, mkSI, mkIB, mkII, mkPI, encPI] at hcv20 hcv20d hcv20e; rw [← Ny256.out] at hcv20 hcv20d hcv20e))
     repeat (go_quiet (first | ((with_reducible refine gate_dst (N := 7) rfl ?_); (try (refine gate_guard (by rfl) ?_; dsimp only)); refine box_event tZR (N := 7) tZR (cs := #[.string (⟨#[]⟩ : ByteArray), .int .i64 0, .int .i64 0]) (t := 222) tZS ?_; intro gb255 hg w16 hbox hb; replace HO_4 := aZ (Kd.Y_below (lZY HO_4.out) hb); replace HO_5 := aZ (Kd.R_below (lZR HO_5.out) hb); have BK255 := aZ (hbox); have GW255 := aZ ((by rw [hg]; exact (below_size (lZB HB.out)) : w.heap.size ≤ gb255)); have GE255 := GW255; replace HB := aZ (below_step (lZB HB.out) hb); clear hb hbox hg; obtain ⟨hcz17_0, hcz17_1, hcz17_2, hfz17_0, hfz17_1, hfz17_2⟩ := bc3 BK255.out) | ((with_reducible refine gate_store (t := 222) (p := 7) rfl ?_); (try (rw [drewN_self w16]; generalize hq_ : World.drewN w16 _ = w16; replace HO_4 := aZ (Kd.Y_at hq_ HO_4.out); replace HO_5 := aZ (Kd.R_at hq_ HO_5.out); replace BK255 := aZ (blk_at hq_ BK255.out); replace HB := aZ (below_at hq_ HB.out); clear hq_)); refine store_event (t := 222) (p := 7) (v := ?vo_w18) (w1 := (((w16.setCell ⟨gb255, 0, none⟩ (.string ((rd_T222 l0 x25_2).f0))).setCell ⟨gb255, 1, none⟩ (.int .i64 ((rd_T222 l0 x25_2).f1))).setCell ⟨gb255, 2, none⟩ (.int .i64 ((rd_T222 l0 x25_2).f2)))) ?hg ?ho ?hn ?hr ?_; (case ho => rfl); (case hg => rfl); (case hn => rfl); (case hr => first | (go_simp; done) | (go_simp; rfl)); intro w18 hw; replace HO_4 : Aside0 (Kd.Y my264 264 w18 w.heap.size (fun _ => True) v249 x4_2) := ⟨(by rw [hw]; exact (by (with_reducible repeat (first | apply Kd.Y_alloc | apply Kd.Y_drewN | apply Kd.Y_drew)); exact Kd.Y_mono (Kd.Y_far (p := ⟨gb255, 2, none⟩) (Kd.Y_far (p := ⟨gb255, 1, none⟩) (Kd.Y_far (p := ⟨gb255, 0, none⟩) (Kd.Y_types HO_4.out BK255.out (by decide)) (fun _ hk => hk.2) (.string ((rd_T222 l0 x25_2).f0))) (fun _ hk => hk.2) (.int .i64 ((rd_T222 l0 x25_2).f1))) (fun _ hk => hk.2) (.int .i64 ((rd_T222 l0 x25_2).f2))) (fun _ hk => trivial)))⟩; replace HO_5 : Aside0 (Kd.R (Kd.int .i64) 3 w18 w.heap.size (fun _ => True) v252 x5_2) := ⟨(by rw [hw]; exact (by (with_reducible repeat (first | apply Kd.R_alloc | apply Kd.R_drewN | apply Kd.R_drew)); exact Kd.R_mono (Kd.R_far (p := ⟨gb255, 2, none⟩) (Kd.R_far (p := ⟨gb255, 1, none⟩) (Kd.R_far (p := ⟨gb255, 0, none⟩) (Kd.R_types HO_5.out BK255.out (by decide)) (fun _ hk => hk.2) (.string ((rd_T222 l0 x25_2).f0))) (fun _ hk => hk.2) (.int .i64 ((rd_T222 l0 x25_2).f1))) (fun _ hk => hk.2) (.int .i64 ((rd_T222 l0 x25_2).f2))) (fun _ hk => trivial)))⟩; replace BK255 : Aside0 (w18.heap[gb255]? = some (.cells #[.string ((rd_T222 l0 x25_2).f0), .int .i64 ((rd_T222 l0 x25_2).f1), .int .i64 ((rd_T222 l0 x25_2).f2)] 222 (0, 0))) := ⟨(by rw [hw]; exact (by (with_reducible repeat (first | refine blk_drewN ?_ _ | refine blk_drew ?_ | refine blk_alloc ?_ _)); refine blk_put (cs := #[.string ((rd_T222 l0 x25_2).f0), .int .i64 ((rd_T222 l0 x25_2).f1), .int .i64 0]) ?_ 2 _ rfl; (with_reducible repeat (first | refine blk_drewN ?_ _ | refine blk_drew ?_ | refine blk_alloc ?_ _)); refine blk_put (cs := #[.string ((rd_T222 l0 x25_2).f0), .int .i64 0, .int .i64 0]) ?_ 1 _ rfl; (with_reducible repeat (first | refine blk_drewN ?_ _ | refine blk_drew ?_ | refine blk_alloc ?_ _)); refine blk_put (cs := #[.string (⟨#[]⟩ : ByteArray), .int .i64 0, .int .i64 0]) ?_ 0 _ rfl; (with_reducible repeat (first | refine blk_drewN ?_ _ | refine blk_drew ?_ | refine blk_alloc ?_ _)); exact BK255.out))⟩; replace HB : Aside0 (Below w.heap.size w w18) := ⟨(by rw [hw]; exact bZ)⟩; clear hw; obtain ⟨hcz19_0, hcz19_1, hcz19_2, hfz19_0, hfz19_1, hfz19_2⟩ := bc3 BK255.out; have hcv20 := Kd.Y_look (e := 264) (HO_4.out) ((rd_T222 l0 x25_2).f0) (show okS _ from ((of_decide_eq_true tZE) : ((rd_T222 l0 x25_2).f0).size ≤ 9223372036854775807)); have hcv20d := fun n_ => Kd.Y_look (e := 264) (Kd.Y_drewN (HO_4.out) n_) ((rd_T222 l0 x25_2).f0) (show okS _ from ((of_decide_eq_true tZE) : ((rd_T222 l0 x25_2).f0).size ≤ 9223372036854775807)); have hcv20e := fun m_ n_ => Kd.Y_look (e := 264) (Kd.Y_drewN (Kd.Y_drewN (HO_4.out) m_) n_) ((rd_T222 l0 x25_2).f0) (show okS _ from ((of_decide_eq_true tZE) : ((rd_T222 l0 x25_2).f0).size ≤ 9223372036854775807)); simp only [my264, mkSB, mkSI, mkIB, mkII, mkPI, encPI] at hcv20 hcv20d hcv20e; rw [← Ny256.out] at hcv20 hcv20d hcv20e)); go_upto_region 9 with (first | ((with_reducible refine gate_dst (N := 7) rfl ?_); (try (refine gate_guard (by rfl) ?_; dsimp only)); refine box_event tZR (N := 7) tZR (cs := #[.string (⟨#[]⟩ : ByteArray), .int .i64 0, .int .i64 0]) (t := 222) tZS ?_; intro gb255 hg w16 hbox hb; replace HO_4 := aZ (Kd.Y_below (lZY HO_4.out) hb); replace HO_5 := aZ (Kd.R_below (lZR HO_5.out) hb); have BK255 := aZ (hbox); have GW255 := aZ ((by rw [hg]; exact (below_size (lZB HB.out)) : w.heap.size ≤ gb255)); have GE255 := GW255; replace HB := aZ (below_step (lZB HB.out) hb); clear hb hbox hg; obtain ⟨hcz17_0, hcz17_1, hcz17_2, hfz17_0, hfz17_1, hfz17_2⟩ := bc3 BK255.out) | ((with_reducible refine gate_store (t := 222) (p := 7) rfl ?_); (try (rw [drewN_self w16]; generalize hq_ : World.drewN w16 _ = w16; replace HO_4 := aZ (Kd.Y_at hq_ HO_4.out); replace HO_5 := aZ (Kd.R_at hq_ HO_5.out); replace BK255 := aZ (blk_at hq_ BK255.out); replace HB := aZ (below_at hq_ HB.out); clear hq_)); refine store_event (t := 222) (p := 7) (v := ?vo_w18) (w1 := (((w16.setCell ⟨gb255, 0, none⟩ (.string ((rd_T222 l0 x25_2).f0))).setCell ⟨gb255, 1, none⟩ (.int .i64 ((rd_T222 l0 x25_2).f1))).setCell ⟨gb255, 2, none⟩ (.int .i64 ((rd_T222 l0 x25_2).f2)))) ?hg ?ho ?hn ?hr ?_; (case ho => rfl); (case hg => rfl); (case hn => rfl); (case hr => first | (go_simp; done) | (go_simp; rfl)); intro w18 hw; replace HO_4 : Aside0 (Kd.Y my264 264 w18 w.heap.size (fun _ => True) v249 x4_2) := ⟨(by rw [hw]; exact (by (with_reducible repeat (first | apply Kd.Y_alloc | apply Kd.Y_drewN | apply Kd.Y_drew)); exact Kd.Y_mono (Kd.Y_far (p := ⟨gb255, 2, none⟩) (Kd.Y_far (p := ⟨gb255, 1, none⟩) (Kd.Y_far (p := ⟨gb255, 0, none⟩) (Kd.Y_types HO_4.out BK255.out (by decide)) (fun _ hk => hk.2) (.string ((rd_T222 l0 x25_2).f0))) (fun _ hk => hk.2) (.int .i64 ((rd_T222 l0 x25_2).f1))) (fun _ hk => hk.2) (.int .i64 ((rd_T222 l0 x25_2).f2))) (fun _ hk => trivial)))⟩; replace HO_5 : Aside0 (Kd.R (Kd.int .i64) 3 w18 w.heap.size (fun _ => True) v252 x5_2) := ⟨(by rw [hw]; exact (by (with_reducible repeat (first | apply Kd.R_alloc | apply Kd.R_drewN | apply Kd.R_drew)); exact Kd.R_mono (Kd.R_far (p := ⟨gb255, 2, none⟩) (Kd.R_far (p := ⟨gb255, 1, none⟩) (Kd.R_far (p := ⟨gb255, 0, none⟩) (Kd.R_types HO_5.out BK255.out (by decide)) (fun _ hk => hk.2) (.string ((rd_T222 l0 x25_2).f0))) (fun _ hk => hk.2) (.int .i64 ((rd_T222 l0 x25_2).f1))) (fun _ hk => hk.2) (.int .i64 ((rd_T222 l0 x25_2).f2))) (fun _ hk => trivial)))⟩; replace BK255 : Aside0 (w18.heap[gb255]? = some (.cells #[.string ((rd_T222 l0 x25_2).f0), .int .i64 ((rd_T222 l0 x25_2).f1), .int .i64 ((rd_T222 l0 x25_2).f2)] 222 (0, 0))) := ⟨(by rw [hw]; exact (by (with_reducible repeat (first | refine blk_drewN ?_ _ | refine blk_drew ?_ | refine blk_alloc ?_ _)); refine blk_put (cs := #[.string ((rd_T222 l0 x25_2).f0), .int .i64 ((rd_T222 l0 x25_2).f1), .int .i64 0]) ?_ 2 _ rfl; (with_reducible repeat (first | refine blk_drewN ?_ _ | refine blk_drew ?_ | refine blk_alloc ?_ _)); refine blk_put (cs := #[.string ((rd_T222 l0 x25_2).f0), .int .i64 0, .int .i64 0]) ?_ 1 _ rfl; (with_reducible repeat (first | refine blk_drewN ?_ _ | refine blk_drew ?_ | refine blk_alloc ?_ _)); refine blk_put (cs := #[.string (⟨#[]⟩ : ByteArray), .int .i64 0, .int .i64 0]) ?_ 0 _ rfl; (with_reducible repeat (first | refine blk_drewN ?_ _ | refine blk_drew ?_ | refine blk_alloc ?_ _)); exact BK255.out))⟩; replace HB : Aside0 (Below w.heap.size w w18) := ⟨(by rw [hw]; exact bZ)⟩; clear hw; obtain ⟨hcz19_0, hcz19_1, hcz19_2, hfz19_0, hfz19_1, hfz19_2⟩ := bc3 BK255.out; have hcv20 := Kd.Y_look (e := 264) (HO_4.out) ((rd_T222 l0 x25_2).f0) (show okS _ from ((of_decide_eq_true tZE) : ((rd_T222 l0 x25_2).f0).size ≤ 9223372036854775807)); have hcv20d := fun n_ => Kd.Y_look (e := 264) (Kd.Y_drewN (HO_4.out) n_) ((rd_T222 l0 x25_2).f0) (show okS _ from ((of_decide_eq_true tZE) : ((rd_T222 l0 x25_2).f0).size ≤ 9223372036854775807)); have hcv20e := fun m_ n_ => Kd.Y_look (e := 264) (Kd.Y_drewN (Kd.Y_drewN (HO_4.out) m_) n_) ((rd_T222 l0 x25_2).f0) (show okS _ from ((of_decide_eq_true tZE) : ((rd_T222 l0 x25_2).f0).size ≤ 9223372036854775807)); simp only [my264, mkSB, mkSI, mkIB, mkII, mkPI, encPI] at hcv20 hcv20d hcv20e; rw [← Ny256.out] at hcv20 hcv20d hcv20e)))
     (try simp only [Act.put, sZ1, sZ2, sZ3])
     go_cut [49] (fun v49 wc => ∃ (kq : Nat) (x49_14 : Bool), v49 = .bool x49_14 ∧ Aside0 (impl_depths.j2 kq l0 x4_2 x5_2 x25_2 l0 (l0.length : Int) x25_2 x49_14 ((rd_T222 l0 x25_2).f0) ((rd_T222 l0 x25_2).f1) ((rd_T222 l0 x25_2).f2) = some (r1, r2)) ∧ Aside0 (kq ≤ k2) ∧ Aside0 (Kd.Y my264 264 wc w.heap.size (fun _ => True) v249 x4_2) ∧ Aside0 (Kd.R (Kd.int .i64) 3 wc w.heap.size (fun _ => True) v252 x5_2) ∧ Aside0 (wc.heap[gb255]? = some (.cells #[.string ((rd_T222 l0 x25_2).f0), .int .i64 ((rd_T222 l0 x25_2).f1), .int .i64 ((rd_T222 l0 x25_2).f2)] 222 (0, 0))) ∧ Aside0 (Below w.heap.size w wc))
     case first =>
      have H := HC15.out; clear HC15
      by_cases c21 : y256 = true
      ·subst c21; rw [if_pos rfl] at H; have H' := Aside0.mk H; clear H; go_wp2
       repeat (go_quiet (fail); try go_wp2)
       go_meet
       case rel => exact ⟨_, (true), tZB, H', ⟨by have := HJ1.out; have := HK2.out; first | omega | exact Nat.le_refl _⟩, ⟨lZY HO_4.out⟩, ⟨lZR HO_5.out⟩, ⟨bkZ BK255.out⟩, ⟨bZ⟩⟩
      replace c21 := Bool.eq_false_iff.mpr c21; subst c21; rw [if_neg Bool.false_ne_true] at H; replace H := Option.bind_eq_some_iff.mp H; obtain ⟨t257, A220, H⟩ := H; replace H : (if t257 = true then ((impl_kindOk.f ((rd_T222 l0 x25_2).f2)).bind fun t258 => (impl_depths.j2 k2 l0 x4_2 x5_2 x25_2 l0 (l0.length : Int) x25_2 (!t258) ((rd_T222 l0 x25_2).f0) ((rd_T222 l0 x25_2).f1) ((rd_T222 l0 x25_2).f2))) else (impl_depths.j2 k2 l0 x4_2 x5_2 x25_2 l0 (l0.length : Int) x25_2 true ((rd_T222 l0 x25_2).f0) ((rd_T222 l0 x25_2).f1) ((rd_T222 l0 x25_2).f2))) = some (r1, r2) := H; have A22 := Aside0.mk A220; clear A220
      by_cases c23 : t257 = true
      rotate_left
      ·replace c23 := Bool.eq_false_iff.mpr c23; subst c23; rw [if_neg Bool.false_ne_true] at H; have H' := Aside0.mk H; clear H; obtain ⟨hcz26_0, hcz26_1, hcz26_2, hfz26_0, hfz26_1, hfz26_2⟩ := bc3 BK255.out
       go_wp2_with (first | (go_at_call 129; (with_reducible refine (impl_NameOk.calls k2 ((rd_T222 l0 x25_2).f0) false _ A22.out).mono ?_); rintro e w' ⟨rfl, ⟨nd, rfl⟩⟩; (try first | exact ⟨rfl, _, World.drewN_drewN _ _ _⟩ | exact ⟨rfl, _, Eq.trans (World.drewN_drewN _ _ _) (congrArg (World.drewN _) (Nat.add_assoc _ _ _))⟩)))
       repeat (go_quiet (first | (go_at_call 129; (with_reducible refine (impl_NameOk.calls k2 ((rd_T222 l0 x25_2).f0) false _ A22.out).mono ?_); rintro e w' ⟨rfl, ⟨nd, rfl⟩⟩; (try first | exact ⟨rfl, _, World.drewN_drewN _ _ _⟩ | exact ⟨rfl, _, Eq.trans (World.drewN_drewN _ _ _) (congrArg (World.drewN _) (Nat.add_assoc _ _ _))⟩))); try go_wp2_with (first | (go_at_call 129; (with_reducible refine (impl_NameOk.calls k2 ((rd_T222 l0 x25_2).f0) false _ A22.out).mono ?_); rintro e w' ⟨rfl, ⟨nd, rfl⟩⟩; (try first | exact ⟨rfl, _, World.drewN_drewN _ _ _⟩ | exact ⟨rfl, _, Eq.trans (World.drewN_drewN _ _ _) (congrArg (World.drewN _) (Nat.add_assoc _ _ _))⟩))))
       go_meet
       case rel => exact ⟨_, (true), tZB, H', ⟨by have := HJ1.out; have := HK2.out; first | omega | exact Nat.le_refl _⟩, ⟨lZY HO_4.out⟩, ⟨lZR HO_5.out⟩, ⟨bkZ BK255.out⟩, ⟨bZ⟩⟩
      subst c23; rw [if_pos rfl] at H; replace H := Option.bind_eq_some_iff.mp H; obtain ⟨t258, A240, H⟩ := H; replace H : (impl_depths.j2 k2 l0 x4_2 x5_2 x25_2 l0 (l0.length : Int) x25_2 (!t258) ((rd_T222 l0 x25_2).f0) ((rd_T222 l0 x25_2).f1) ((rd_T222 l0 x25_2).f2)) = some (r1, r2) := H; have A24 := Aside0.mk A240; clear A240; have H' := Aside0.mk H; clear H; obtain ⟨hcz25_0, hcz25_1, hcz25_2, hfz25_0, hfz25_1, hfz25_2⟩ := bc3 BK255.out
      go_wp2_with (first | (go_at_call 129; (with_reducible refine (impl_NameOk.calls k2 ((rd_T222 l0 x25_2).f0) true _ A22.out).mono ?_); rintro e w' ⟨rfl, ⟨nd, rfl⟩⟩; (try first | exact ⟨rfl, _, World.drewN_drewN _ _ _⟩ | exact ⟨rfl, _, Eq.trans (World.drewN_drewN _ _ _) (congrArg (World.drewN _) (Nat.add_assoc _ _ _))⟩)) | (go_at_call 211; (with_reducible refine (impl_kindOk.calls ((rd_T222 l0 x25_2).f2) t258 _ A24.out).mono ?_); rintro e w' ⟨rfl, ⟨nd, rfl⟩⟩; (try first | exact ⟨rfl, _, World.drewN_drewN _ _ _⟩ | exact ⟨rfl, _, Eq.trans (World.drewN_drewN _ _ _) (congrArg (World.drewN _) (Nat.add_assoc _ _ _))⟩)))
      repeat (go_quiet (first | (go_at_call 129; (with_reducible refine (impl_NameOk.calls k2 ((rd_T222 l0 x25_2).f0) true _ A22.out).mono ?_); rintro e w' ⟨rfl, ⟨nd, rfl⟩⟩; (try first | exact ⟨rfl, _, World.drewN_drewN _ _ _⟩ | exact ⟨rfl, _, Eq.trans (World.drewN_drewN _ _ _) (congrArg (World.drewN _) (Nat.add_assoc _ _ _))⟩)) | (go_at_call 211; (with_reducible refine (impl_kindOk.calls ((rd_T222 l0 x25_2).f2) t258 _ A24.out).mono ?_); rintro e w' ⟨rfl, ⟨nd, rfl⟩⟩; (try first | exact ⟨rfl, _, World.drewN_drewN _ _ _⟩ | exact ⟨rfl, _, Eq.trans (World.drewN_drewN _ _ _) (congrArg (World.drewN _) (Nat.add_assoc _ _ _))⟩))); try go_wp2_with (first | (go_at_call 129; (with_reducible refine (impl_NameOk.calls k2 ((rd_T222 l0 x25_2).f0) true _ A22.out).mono ?_); rintro e w' ⟨rfl, ⟨nd, rfl⟩⟩; (try first | exact ⟨rfl, _, World.drewN_drewN _ _ _⟩ | exact ⟨rfl, _, Eq.trans (World.drewN_drewN _ _ _) (congrArg (World.drewN _) (Nat.add_assoc _ _ _))⟩)) | (go_at_call 211; (with_reducible refine (impl_kindOk.calls ((rd_T222 l0 x25_2).f2) t258 _ A24.out).mono ?_); rintro e w' ⟨rfl, ⟨nd, rfl⟩⟩; (try first | exact ⟨rfl, _, World.drewN_drewN _ _ _⟩ | exact ⟨rfl, _, Eq.trans (World.drewN_drewN _ _ _) (congrArg (World.drewN _) (Nat.add_assoc _ _ _))⟩))))
      go_meet
      case rel => exact ⟨_, (!t258), tZB, H', ⟨by have := HJ1.out; have := HK2.out; first | omega | exact Nat.le_refl _⟩, ⟨lZY HO_4.out⟩, ⟨lZR HO_5.out⟩, ⟨bkZ BK255.out⟩, ⟨bZ⟩⟩
     case rest =>
      clear HC15; (try clear c4 c5 c5b0 c5b1 c6 c6b0 c6b1 c11 c11b0 c12 c12b0 c13 c13b0 c14 c14b0 c14b1 c14b2 hcv20 hcz17_0 hcz17_1 hcz17_2 hcz19_0 hcz19_1 hcz19_2 hfz17_0 hfz17_1 hfz17_2 hfz19_0 hfz19_1 hfz19_2 hx254_0 hx254_1 hx254_2 p254 q254); obtain ⟨kq, x49_14, rfl, HA, HJ14, HO_4, HO_5, BK255, HB⟩ := hcut
      cases kq with
      | zero => exact absurd HA.out (by simp [impl_depths.j2])
      | succ kj14 =>
       have H := HA.out; clear HA; simp only [impl_depths.j2] at H
       by_cases c27 : x49_14 = true
       ·subst c27; rw [if_pos rfl] at H; simp only [Option.some.injEq, Prod.mk.injEq] at H; obtain ⟨rfl, rfl⟩ := H; go_wp2
        repeat (go_quiet (fail); try go_wp2)
        go_ret2; exact ⟨_, tZC, by first | exact Kd.R_nil _ _ _ _ _ | exact Kd.N_nil _ _ _ _ _ | exact Kd.V_nil _ _ _ _ _ | exact Kd.Q_nil _ _ _ _ _ | exact Kd.S_nil _ _ _ _ _, bZ⟩
       replace c27 := Bool.eq_false_iff.mpr c27; subst c27; rw [if_neg Bool.false_ne_true] at H
       by_cases c28 : ((rd_T222 l0 x25_2).f0).size ≤ 9223372036854775807
       rotate_left
       ·rw [if_neg c28] at H; exact absurd H (by simp)
       rw [if_pos c28] at H; have c28b0 := eq_true c28; have c28b1 := decide_eq_true c28
       try have c28b2 := eq_false (Nat.not_lt.2 c28)
       clear c28
       by_cases c29 : -9223372036854775808 ≤ x25_2
       rotate_left
       ·rw [if_neg c29] at H; exact absurd H (by simp)
       rw [if_pos c29] at H; have c29b0 := eq_true c29; have c29b1 := decide_eq_true c29; clear c29
       by_cases c30 : x25_2 ≤ 9223372036854775807
       rotate_left
       ·rw [if_neg c30] at H; exact absurd H (by simp)
       rw [if_pos c30] at H; have c30b0 := eq_true c30; have c30b1 := decide_eq_true c30
       try have c30b2 := eq_false (Nat.not_lt.2 c30)
       clear c30
       by_cases c31 : x4_2.length < 140737488355328
       rotate_left
       ·rw [if_neg c31] at H; exact absurd H (by simp)
       rw [if_pos c31] at H; have LMc31 := Aside0.mk c31; clear c31; obtain ⟨y259, hy259⟩ : ∃ y_ : List ((ByteArray × Int)), y_ = ((((rd_T222 l0 x25_2).f0), x25_2) :: x4_2) := ⟨_, rfl⟩; replace H : (if ((rd_T222 l0 x25_2).f1) = (-1) then (impl_depths.l0 kj14 l0 y259 x5_2 l0 (l0.length : Int) (wrap64 (x25_2 + 1))) else (impl_depths.l1 kj14 l0 y259 x5_2 x25_2 (wrap64 (x25_2 - 1)) l0 (l0.length : Int) x25_2 ((rd_T222 l0 x25_2).f0) ((rd_T222 l0 x25_2).f1) ((rd_T222 l0 x25_2).f2))) = some (r1, r2) := by first | (rw [hy259]; with_reducible exact H) | (have H2_ := (Option.bind_some _ _).symm.trans H; rw [hy259]; with_reducible exact H2_) | (have H2_ := (Option.bind_some _ _).symm.trans H; with_reducible exact H2_) | with_reducible exact H | (rw [hy259]; exact H) | exact H
       have Ny259 := Aside0.mk hy259; clear hy259
       by_cases c32 : ((rd_T222 l0 x25_2).f1) = (-1)
       ·rw [if_pos c32] at H; have c32b0 : (((rd_T222 l0 x25_2).f1) == (-1)) = true := beq_iff_eq.mpr c32; have c32b1 : (((rd_T222 l0 x25_2).f1) != (-1)) = false := bne_eq_false_iff_eq.mpr c32; clear c32; have H' := Aside0.mk H; clear H; obtain ⟨hcz33_0, hcz33_1, hcz33_2, hfz33_0, hfz33_1, hfz33_2⟩ := bc3 BK255.out
        go_wp2_with (first | ((with_reducible refine Kd.gate_mupd (t := 264) (p := (.tmp 50)) (x := (.tmp 52)) (y := (.tmp 53)) rfl ?_); refine Kd.Y_put my264 (t := 264) (base := w.heap.size) (ok := (fun _ => True)) rfl rfl (.tmp 50) (.tmp 52) (.tmp 53) rfl rfl v249 x4_2 ((rd_T222 l0 x25_2).f0) x25_2 rfl (by first | rfl | (go_simp; done) | (go_simp; rfl)) (by first | rfl | (go_simp; done) | (go_simp; rfl)) ?aO (show okS _ from ((of_decide_eq_true tZE) : ((rd_T222 l0 x25_2).f0).size ≤ 9223372036854775807)) (show okI _ from ⟨((of_decide_eq_true tZE) : -9223372036854775808 ≤ x25_2), ((of_decide_eq_true tZE) : x25_2 ≤ 9223372036854775807)⟩) LMc31.out ?_; (case aO => exact (lZY HO_4.out)); intro w34 ho hg; rw [← Ny259.out] at ho; replace HO_5 := aZ (Kd.R_turn (e := 264) (lZR HO_5.out) (lZY HO_4.out) hg); replace BK255 := aZ (Kd.blk_turn (e := 264) (bkZ BK255.out) (lZY HO_4.out) hg); replace HB := aZ (Kd.below_turn (e := 264) (lZY HO_4.out) bZ (Nat.le_refl _) hg); have HO260 := aZ (ho); clear HO_4; clear ho hg; obtain ⟨hcz35_0, hcz35_1, hcz35_2, hfz35_0, hfz35_1, hfz35_2⟩ := bc3 BK255.out))
        repeat (go_quiet (first | ((with_reducible refine Kd.gate_mupd (t := 264) (p := (.tmp 50)) (x := (.tmp 52)) (y := (.tmp 53)) rfl ?_); refine Kd.Y_put my264 (t := 264) (base := w.heap.size) (ok := (fun _ => True)) rfl rfl (.tmp 50) (.tmp 52) (.tmp 53) rfl rfl v249 x4_2 ((rd_T222 l0 x25_2).f0) x25_2 rfl (by first | rfl | (go_simp; done) | (go_simp; rfl)) (by first | rfl | (go_simp; done) | (go_simp; rfl)) ?aO (show okS _ from ((of_decide_eq_true tZE) : ((rd_T222 l0 x25_2).f0).size ≤ 9223372036854775807)) (show okI _ from ⟨((of_decide_eq_true tZE) : -9223372036854775808 ≤ x25_2), ((of_decide_eq_true tZE) : x25_2 ≤ 9223372036854775807)⟩) LMc31.out ?_; (case aO => exact (lZY HO_4.out)); intro w34 ho hg; rw [← Ny259.out] at ho; replace HO_5 := aZ (Kd.R_turn (e := 264) (lZR HO_5.out) (lZY HO_4.out) hg); replace BK255 := aZ (Kd.blk_turn (e := 264) (bkZ BK255.out) (lZY HO_4.out) hg); replace HB := aZ (Kd.below_turn (e := 264) (lZY HO_4.out) bZ (Nat.le_refl _) hg); have HO260 := aZ (ho); clear HO_4; clear ho hg; obtain ⟨hcz35_0, hcz35_1, hcz35_2, hfz35_0, hfz35_1, hfz35_2⟩ := bc3 BK255.out)); try go_wp2_with (first | ((with_reducible refine Kd.gate_mupd (t := 264) (p := (.tmp 50)) (x := (.tmp 52)) (y := (.tmp 53)) rfl ?_); refine Kd.Y_put my264 (t := 264) (base := w.heap.size) (ok := (fun _ => True)) rfl rfl (.tmp 50) (.tmp 52) (.tmp 53) rfl rfl v249 x4_2 ((rd_T222 l0 x25_2).f0) x25_2 rfl (by first | rfl | (go_simp; done) | (go_simp; rfl)) (by first | rfl | (go_simp; done) | (go_simp; rfl)) ?aO (show okS _ from ((of_decide_eq_true tZE) : ((rd_T222 l0 x25_2).f0).size ≤ 9223372036854775807)) (show okI _ from ⟨((of_decide_eq_true tZE) : -9223372036854775808 ≤ x25_2), ((of_decide_eq_true tZE) : x25_2 ≤ 9223372036854775807)⟩) LMc31.out ?_; (case aO => exact (lZY HO_4.out)); intro w34 ho hg; rw [← Ny259.out] at ho; replace HO_5 := aZ (Kd.R_turn (e := 264) (lZR HO_5.out) (lZY HO_4.out) hg); replace BK255 := aZ (Kd.blk_turn (e := 264) (bkZ BK255.out) (lZY HO_4.out) hg); replace HB := aZ (Kd.below_turn (e := 264) (lZY HO_4.out) bZ (Nat.le_refl _) hg); have HO260 := aZ (ho); clear HO_4; clear ho hg; obtain ⟨hcz35_0, hcz35_1, hcz35_2, hfz35_0, hfz35_1, hfz35_2⟩ := bc3 BK255.out)))
        go_roundg kj14
        case measure => have := HJ1.out; have := HK2.out; have := HJ14.out; omega
        case rel => exact ⟨(y259), (x5_2), (wrap64 (x25_2 + 1)), tZB, H', ⟨by have := HJ1.out; have := HK2.out; have := HJ14.out; omega⟩, ⟨lZY HO260.out⟩, ⟨lZR HO_5.out⟩, ⟨bZ⟩⟩
       rw [if_neg c32] at H; have c32b0 : (((rd_T222 l0 x25_2).f1) == (-1)) = false := beq_eq_false_iff_ne.mpr c32; have c32b1 : (((rd_T222 l0 x25_2).f1) != (-1)) = true := bne_iff_ne.mpr c32; have H' := Aside0.mk H; clear H; obtain ⟨hcz36_0, hcz36_1, hcz36_2, hfz36_0, hfz36_1, hfz36_2⟩ := bc3 BK255.out
       go_wp2_with (first | ((with_reducible refine Kd.gate_mupd (t := 264) (p := (.tmp 50)) (x := (.tmp 52)) (y := (.tmp 53)) rfl ?_); refine Kd.Y_put my264 (t := 264) (base := w.heap.size) (ok := (fun _ => True)) rfl rfl (.tmp 50) (.tmp 52) (.tmp 53) rfl rfl v249 x4_2 ((rd_T222 l0 x25_2).f0) x25_2 rfl (by first | rfl | (go_simp; done) | (go_simp; rfl)) (by first | rfl | (go_simp; done) | (go_simp; rfl)) ?aO (show okS _ from ((of_decide_eq_true tZE) : ((rd_T222 l0 x25_2).f0).size ≤ 9223372036854775807)) (show okI _ from ⟨((of_decide_eq_true tZE) : -9223372036854775808 ≤ x25_2), ((of_decide_eq_true tZE) : x25_2 ≤ 9223372036854775807)⟩) LMc31.out ?_; (case aO => exact (lZY HO_4.out)); intro w37 ho hg; rw [← Ny259.out] at ho; replace HO_5 := aZ (Kd.R_turn (e := 264) (lZR HO_5.out) (lZY HO_4.out) hg); replace BK255 := aZ (Kd.blk_turn (e := 264) (bkZ BK255.out) (lZY HO_4.out) hg); replace HB := aZ (Kd.below_turn (e := 264) (lZY HO_4.out) bZ (Nat.le_refl _) hg); have HO260 := aZ (ho); clear HO_4; clear ho hg; obtain ⟨hcz38_0, hcz38_1, hcz38_2, hfz38_0, hfz38_1, hfz38_2⟩ := bc3 BK255.out))
       repeat (go_quiet (first | ((with_reducible refine Kd.gate_mupd (t := 264) (p := (.tmp 50)) (x := (.tmp 52)) (y := (.tmp 53)) rfl ?_); refine Kd.Y_put my264 (t := 264) (base := w.heap.size) (ok := (fun _ => True)) rfl rfl (.tmp 50) (.tmp 52) (.tmp 53) rfl rfl v249 x4_2 ((rd_T222 l0 x25_2).f0) x25_2 rfl (by first | rfl | (go_simp; done) | (go_simp; rfl)) (by first | rfl | (go_simp; done) | (go_simp; rfl)) ?aO (show okS _ from ((of_decide_eq_true tZE) : ((rd_T222 l0 x25_2).f0).size ≤ 9223372036854775807)) (show okI _ from ⟨((of_decide_eq_true tZE) : -9223372036854775808 ≤ x25_2), ((of_decide_eq_true tZE) : x25_2 ≤ 9223372036854775807)⟩) LMc31.out ?_; (case aO => exact (lZY HO_4.out)); intro w37 ho hg; rw [← Ny259.out] at ho; replace HO_5 := aZ (Kd.R_turn (e := 264) (lZR HO_5.out) (lZY HO_4.out) hg); replace BK255 := aZ (Kd.blk_turn (e := 264) (bkZ BK255.out) (lZY HO_4.out) hg); replace HB := aZ (Kd.below_turn (e := 264) (lZY HO_4.out) bZ (Nat.le_refl _) hg); have HO260 := aZ (ho); clear HO_4; clear ho hg; obtain ⟨hcz38_0, hcz38_1, hcz38_2, hfz38_0, hfz38_1, hfz38_2⟩ := bc3 BK255.out)); try go_wp2_with (first | ((with_reducible refine Kd.gate_mupd (t := 264) (p := (.tmp 50)) (x := (.tmp 52)) (y := (.tmp 53)) rfl ?_); refine Kd.Y_put my264 (t := 264) (base := w.heap.size) (ok := (fun _ => True)) rfl rfl (.tmp 50) (.tmp 52) (.tmp 53) rfl rfl v249 x4_2 ((rd_T222 l0 x25_2).f0) x25_2 rfl (by first | rfl | (go_simp; done) | (go_simp; rfl)) (by first | rfl | (go_simp; done) | (go_simp; rfl)) ?aO (show okS _ from ((of_decide_eq_true tZE) : ((rd_T222 l0 x25_2).f0).size ≤ 9223372036854775807)) (show okI _ from ⟨((of_decide_eq_true tZE) : -9223372036854775808 ≤ x25_2), ((of_decide_eq_true tZE) : x25_2 ≤ 9223372036854775807)⟩) LMc31.out ?_; (case aO => exact (lZY HO_4.out)); intro w37 ho hg; rw [← Ny259.out] at ho; replace HO_5 := aZ (Kd.R_turn (e := 264) (lZR HO_5.out) (lZY HO_4.out) hg); replace BK255 := aZ (Kd.blk_turn (e := 264) (bkZ BK255.out) (lZY HO_4.out) hg); replace HB := aZ (Kd.below_turn (e := 264) (lZY HO_4.out) bZ (Nat.le_refl _) hg); have HO260 := aZ (ho); clear HO_4; clear ho hg; obtain ⟨hcz38_0, hcz38_1, hcz38_2, hfz38_0, hfz38_1, hfz38_2⟩ := bc3 BK255.out)))
       go_loopg [10] kj14 (fun kq v10 w' => ∃ (x10_4 : Int), v10 = .int .i64 x10_4 ∧ Aside0 (impl_depths.l1 kq l0 y259 x5_2 x25_2 x10_4 l0 (l0.length : Int) x25_2 ((rd_T222 l0 x25_2).f0) ((rd_T222 l0 x25_2).f1) ((rd_T222 l0 x25_2).f2) = some (r1, r2)) ∧ Aside0 (kq ≤ kj14) ∧ Aside0 (Kd.Y my264 264 w' w.heap.size (fun _ => True) v249 y259) ∧ Aside0 (Kd.R (Kd.int .i64) 3 w' w.heap.size (fun _ => True) v252 x5_2) ∧ Aside0 (w'.heap[gb255]? = some (.cells #[.string ((rd_T222 l0 x25_2).f0), .int .i64 ((rd_T222 l0 x25_2).f1), .int .i64 ((rd_T222 l0 x25_2).f2)] 222 (0, 0))) ∧ Aside0 (Below w.heap.size w w'))
       case atStart => exact ⟨(wrap64 (x25_2 - 1)), tZB, H', ⟨Nat.le_refl _⟩, ⟨lZY HO260.out⟩, ⟨lZR HO_5.out⟩, ⟨bkZ BK255.out⟩, ⟨bZ⟩⟩
       case round =>
        clear H'; (try clear c4 c5 c5b0 c5b1 c6 c6b0 c6b1 c11 c11b0 c12 c12b0 c13 c13b0 c14 c14b0 c14b1 c14b2 hcv20 c27 c28 c28b0 c28b1 c28b2 c29 c29b0 c29b1 c30 c30b0 c30b1 c30b2 c31 c32 c32b0 c32b1 hcz17_0 hcz17_1 hcz17_2 hcz19_0 hcz19_1 hcz19_2 hcz36_0 hcz36_1 hcz36_2 hcz38_0 hcz38_1 hcz38_2 hfz17_0 hfz17_1 hfz17_2 hfz19_0 hfz19_1 hfz19_2 hfz36_0 hfz36_1 hfz36_2 hfz38_0 hfz38_1 hfz38_2 hx254_0 hx254_1 hx254_2 p254 q254); obtain ⟨x10_4, rfl, HA, HK4, HO_4, HO_5, BK255, HB⟩ := hrel
        cases gk with
        | zero => exact absurd HA.out (by simp [impl_depths.l1])
        | succ k4 =>
         have H := HA.out; clear HA; simp only [impl_depths.l1] at H
         by_cases c39 : x10_4 ≥ 0
         rotate_left
         ·rw [if_neg c39] at H; have c39b0 : decide (0 ≤ x10_4) = false := decide_eq_false c39; clear c39
          by_cases c61 : x10_4 < 0
          rotate_left
          ·rw [if_neg c61] at H; have c61b0 := decide_eq_false c61; clear c61
           by_cases c62 : 0 ≤ x10_4
           ·rw [if_pos c62] at H; exact absurd H (by simp)
           rw [if_neg c62] at H; exact absurd H (by simp)
          rw [if_pos c61] at H; have c61b0 := decide_eq_true c61; clear c61; simp only [Option.some.injEq, Prod.mk.injEq] at H; obtain ⟨rfl, rfl⟩ := H; go_wp2
          repeat (go_quiet (fail); try go_wp2)
          go_ret2; exact ⟨_, tZC, by first | exact Kd.R_nil _ _ _ _ _ | exact Kd.N_nil _ _ _ _ _ | exact Kd.V_nil _ _ _ _ _ | exact Kd.Q_nil _ _ _ _ _ | exact Kd.S_nil _ _ _ _ _, bZ⟩
         rw [if_pos c39] at H; have c39b0 : decide (0 ≤ x10_4) = true := decide_eq_true c39; clear c39
         by_cases c40 : x10_4 = ((rd_T222 l0 x25_2).f1)
         rotate_left
         ·rw [if_neg c40] at H; have c40b0 : (x10_4 == ((rd_T222 l0 x25_2).f1)) = false := beq_eq_false_iff_ne.mpr c40; have c40b1 : (x10_4 != ((rd_T222 l0 x25_2).f1)) = true := bne_iff_ne.mpr c40
          by_cases c58 : 0 ≤ x10_4
          rotate_left
          ·rw [if_neg c58] at H; exact absurd H (by simp)
          rw [if_pos c58] at H; have c58b0 := decide_eq_true c58; clear c58
          by_cases c59 : x10_4 < (l0.length : Int)
          rotate_left
          ·rw [if_neg c59] at H; exact absurd H (by simp)
          rw [if_pos c59] at H; have c59b0 := decide_eq_true c59; clear c59; have H' := Aside0.mk H; clear H; obtain ⟨hcz60_0, hcz60_1, hcz60_2, hfz60_0, hfz60_1, hfz60_2⟩ := bc3 BK255.out; have p265 : 0 ≤ (x10_4 : Int) := of_decide_eq_true tZE; have q265 : x10_4 < (l0.length : Int) := of_decide_eq_true tZE; obtain ⟨ad265, e265, hx265_0, hx265_1, hx265_2⟩ := at_T222 HR0.out x10_4 p265 q265; obtain rfl : ad254 = ad265 := (by injection e265); replace hx265_0 := cZ HB hx265_0; replace hx265_1 := cZ HB hx265_1; replace hx265_2 := cZ HB hx265_2; replace p265 := eq_true p265; replace q265 := eq_true q265; go_wp2
          repeat (go_quiet (fail); try go_wp2)
          go_roundg k4
          case measure => have := HJ1.out; have := HK2.out; have := HJ14.out; have := HK4.out; omega
          case rel => exact ⟨((rd_T222 l0 x10_4).f1), tZB, H', ⟨by have := HJ1.out; have := HK2.out; have := HJ14.out; have := HK4.out; omega⟩, ⟨lZY HO_4.out⟩, ⟨lZR HO_5.out⟩, ⟨bkZ BK255.out⟩, ⟨bZ⟩⟩
         rw [if_pos c40] at H; have c40b0 : (x10_4 == ((rd_T222 l0 x25_2).f1)) = true := beq_iff_eq.mpr c40; have c40b1 : (x10_4 != ((rd_T222 l0 x25_2).f1)) = false := bne_eq_false_iff_eq.mpr c40; clear c40
         by_cases c41 : x10_4 < 0
         ·rw [if_pos c41] at H; have c41b0 := decide_eq_true c41; clear c41; simp only [Option.some.injEq, Prod.mk.injEq] at H; obtain ⟨rfl, rfl⟩ := H; obtain ⟨hcz42_0, hcz42_1, hcz42_2, hfz42_0, hfz42_1, hfz42_2⟩ := bc3 BK255.out; go_wp2
          repeat (go_quiet (fail); try go_wp2)
          go_ret2; exact ⟨_, tZC, by first | exact Kd.R_nil _ _ _ _ _ | exact Kd.N_nil _ _ _ _ _ | exact Kd.V_nil _ _ _ _ _ | exact Kd.Q_nil _ _ _ _ _ | exact Kd.S_nil _ _ _ _ _, bZ⟩
         rw [if_neg c41] at H; have c41b0 := decide_eq_false c41; clear c41
         by_cases c43 : 0 ≤ x10_4
         rotate_left
         ·rw [if_neg c43] at H; exact absurd H (by simp)
         rw [if_pos c43] at H; have c43b0 := decide_eq_true c43; clear c43
         by_cases c44 : x10_4 < (l0.length : Int)
         rotate_left
         ·rw [if_neg c44] at H; exact absurd H (by simp)
         rw [if_pos c44] at H; have c44b0 := decide_eq_true c44; clear c44
         by_cases c45 : ((rd_T222 l0 x10_4).f2) = ((rd_T222 l0 x25_2).f2)
         rotate_left
         ·rw [if_neg c45] at H; have c45b0 : (((rd_T222 l0 x10_4).f2) == ((rd_T222 l0 x25_2).f2)) = false := beq_eq_false_iff_ne.mpr c45; have c45b1 : (((rd_T222 l0 x10_4).f2) != ((rd_T222 l0 x25_2).f2)) = true := bne_iff_ne.mpr c45; simp only [Option.some.injEq, Prod.mk.injEq] at H; obtain ⟨rfl, rfl⟩ := H; obtain ⟨hcz57_0, hcz57_1, hcz57_2, hfz57_0, hfz57_1, hfz57_2⟩ := bc3 BK255.out; have p261 : 0 ≤ (x10_4 : Int) := of_decide_eq_true tZE; have q261 : x10_4 < (l0.length : Int) := of_decide_eq_true tZE; obtain ⟨ad261, e261, hx261_0, hx261_1, hx261_2⟩ := at_T222 HR0.out x10_4 p261 q261; obtain rfl : ad254 = ad261 := (by injection e261); replace hx261_0 := cZ HB hx261_0; replace hx261_1 := cZ HB hx261_1; replace hx261_2 := cZ HB hx261_2; replace p261 := eq_true p261; replace q261 := eq_true q261; go_wp2
          repeat (go_quiet (fail); try go_wp2)
          go_ret2; exact ⟨_, tZC, by first | exact Kd.R_nil _ _ _ _ _ | exact Kd.N_nil _ _ _ _ _ | exact Kd.V_nil _ _ _ _ _ | exact Kd.Q_nil _ _ _ _ _ | exact Kd.S_nil _ _ _ _ _, bZ⟩
         rw [if_pos c45] at H; have c45b0 : (((rd_T222 l0 x10_4).f2) == ((rd_T222 l0 x25_2).f2)) = true := beq_iff_eq.mpr c45; have c45b1 : (((rd_T222 l0 x10_4).f2) != ((rd_T222 l0 x25_2).f2)) = false := bne_eq_false_iff_eq.mpr c45; clear c45
         by_cases c46 : x10_4 < (x5_2.length : Int)
         rotate_left
         ·rw [if_neg c46] at H; exact absurd H (by simp)
         rw [if_pos c46] at H; have c46b0 := decide_eq_true c46; clear c46
         by_cases c47 : (rd x5_2 x10_4) ≥ 8
         ·rw [if_pos c47] at H; have c47b0 : decide (8 ≤ (rd x5_2 x10_4)) = true := decide_eq_true c47; clear c47; simp only [Option.some.injEq, Prod.mk.injEq] at H; obtain ⟨rfl, rfl⟩ := H; obtain ⟨hcz48_0, hcz48_1, hcz48_2, hfz48_0, hfz48_1, hfz48_2⟩ := bc3 BK255.out; have p261 : 0 ≤ (x10_4 : Int) := of_decide_eq_true tZE; have q261 : x10_4 < (l0.length : Int) := of_decide_eq_true tZE; obtain ⟨ad261, e261, hx261_0, hx261_1, hx261_2⟩ := at_T222 HR0.out x10_4 p261 q261; obtain rfl : ad254 = ad261 := (by injection e261); replace hx261_0 := cZ HB hx261_0; replace hx261_1 := cZ HB hx261_1; replace hx261_2 := cZ HB hx261_2; replace p261 := eq_true p261; replace q261 := eq_true q261; obtain ⟨Ao49, co49, eo49⟩ := Kd.R_slice HO_5.out; subst eo49; have p262 : 0 ≤ (x10_4 : Int) := of_decide_eq_true tZE; have q262 : x10_4 < (x5_2.length : Int) := of_decide_eq_true tZE
          obtain ⟨ad262, e262, hx262_0⟩ := Kd.at_int (Kd.R_reads' HO_5.out).2.2 x10_4 p262 q262
          cases e262
          replace p262 := eq_true p262; replace q262 := eq_true q262; go_wp2
          repeat (go_quiet (fail); try go_wp2)
          go_ret2; exact ⟨_, tZC, by first | exact Kd.R_nil _ _ _ _ _ | exact Kd.N_nil _ _ _ _ _ | exact Kd.V_nil _ _ _ _ _ | exact Kd.Q_nil _ _ _ _ _ | exact Kd.S_nil _ _ _ _ _, bZ⟩
         rw [if_neg c47] at H; have c47b0 : decide (8 ≤ (rd x5_2 x10_4)) = false := decide_eq_false c47; clear c47
         by_cases c50 : 0 ≤ x25_2
         rotate_left
         ·rw [if_neg c50] at H; exact absurd H (by simp)
         rw [if_pos c50] at H; have c50b0 := decide_eq_true c50; clear c50
         by_cases c51 : x25_2 < (x5_2.length : Int)
         rotate_left
         ·rw [if_neg c51] at H; exact absurd H (by simp)
         rw [if_pos c51] at H; have c51b0 := decide_eq_true c51; clear c51; obtain ⟨y264, hy264⟩ : ∃ y_ : List Int, y_ = (x5_2.set (x25_2 : Int).toNat (wrap64 ((rd x5_2 x10_4) + 1))) := ⟨_, rfl⟩; replace H : (impl_depths.l0 k4 l0 y259 y264 l0 (l0.length : Int) (wrap64 (x25_2 + 1))) = some (r1, r2) := by first | (rw [hy264]; with_reducible exact H) | (have H2_ := (Option.bind_some _ _).symm.trans H; rw [hy264]; with_reducible exact H2_) | (have H2_ := (Option.bind_some _ _).symm.trans H; with_reducible exact H2_) | with_reducible exact H | (rw [hy264]; exact H) | exact H
         have Ny264 := Aside0.mk hy264; clear hy264; have H' := Aside0.mk H; clear H; obtain ⟨hcz53_0, hcz53_1, hcz53_2, hfz53_0, hfz53_1, hfz53_2⟩ := bc3 BK255.out; have p261 : 0 ≤ (x10_4 : Int) := of_decide_eq_true tZE; have q261 : x10_4 < (l0.length : Int) := of_decide_eq_true tZE; obtain ⟨ad261, e261, hx261_0, hx261_1, hx261_2⟩ := at_T222 HR0.out x10_4 p261 q261; obtain rfl : ad254 = ad261 := (by injection e261); replace hx261_0 := cZ HB hx261_0; replace hx261_1 := cZ HB hx261_1; replace hx261_2 := cZ HB hx261_2; replace p261 := eq_true p261; replace q261 := eq_true q261; obtain ⟨Ao54, co54, eo54⟩ := Kd.R_slice HO_5.out; subst eo54; have p262 : 0 ≤ (x10_4 : Int) := of_decide_eq_true tZE; have q262 : x10_4 < (x5_2.length : Int) := of_decide_eq_true tZE; obtain ⟨ad262, e262, hx262_0⟩ := Kd.at_int (Kd.R_reads' HO_5.out).2.2 x10_4 p262 q262
         cases e262
         replace p262 := eq_true p262; replace q262 := eq_true q262; have p263 : 0 ≤ (x10_4 : Int) := of_decide_eq_true tZE; have q263 : x10_4 < (x5_2.length : Int) := of_decide_eq_true tZE; obtain ⟨ad263, e263, hx263_0⟩ := Kd.at_int (Kd.R_reads' HO_5.out).2.2 x10_4 p263 q263; obtain rfl : ad262 = ad263 := (by injection e263); replace p263 := eq_true p263; replace q263 := eq_true q263; have p52 : 0 ≤ (x25_2 : Int) := of_decide_eq_true tZE; have q52 : (x25_2 : Int) < ((x5_2.length : Int) : Int) := of_decide_eq_true tZE; obtain ⟨go52, co52, eo52, gb52, gl52, cl52, HG52⟩ := Kd.R_form HO_5.out (by omega); (first | cases eo52 | (injection eo52 with ea_ en_ ec_; (first | subst ea_ | (injection ea_ with ea_; subst ea_)); subst ec_; clear en_)); have GB52 := Aside0.mk gb52; have GG52 := Aside0.mk HG52; clear gb52 gl52 HG52; (first | simp only [add_plain] at hx262_0 | skip)
         (first | simp only [add_plain] at hx263_0 | skip); obtain ⟨hx52_0, hf52_0⟩ := Kd.R_celln 0 HO_5.out (x25_2 : Int) p52 q52; replace p52 := eq_true p52; replace q52 := eq_true q52; have HP55 := Kd.R_putg HO_5.out (x25_2 : Int) (wrap64 ((rd x5_2 x10_4) + 1))
         go_wp2_with (first | ((with_reducible refine gate_store (t := 3) (p := 98) rfl ?_); (try (rw [drewN_self wr]; generalize hq_ : World.drewN wr _ = wr; replace HO_4 := aZ (Kd.Y_at hq_ HO_4.out); replace HO_5 := aZ (Kd.R_at hq_ HO_5.out); replace BK255 := aZ (blk_at hq_ BK255.out); replace HB := aZ (below_at hq_ HB.out); clear hq_; (try (have p52 : 0 ≤ (x25_2 : Int) := of_decide_eq_true tZE)); (try (have q52 : (x25_2 : Int) < ((x5_2.length : Int) : Int) := of_decide_eq_true tZE)); (try (obtain ⟨go52, co52, eo52, gb52, gl52, cl52, HG52⟩ := Kd.R_form HO_5.out (by omega))); (try (first | cases eo52 | (injection eo52 with ea_ en_ ec_; (first | subst ea_ | (injection ea_ with ea_; subst ea_)); subst ec_; clear en_))); (try (have GB52 := Aside0.mk gb52)); (try (have GG52 := Aside0.mk HG52)); (try (clear gb52 gl52 HG52)); (try (first | simp only [add_plain] at hx262_0 | skip)); (try (first | simp only [add_plain] at hx263_0 | skip)); (try (obtain ⟨hx52_0, hf52_0⟩ := Kd.R_celln 0 HO_5.out (x25_2 : Int) p52 q52)); (try (replace p52 := eq_true p52)); (try (replace q52 := eq_true q52)); (try (have HP55 := Kd.R_putg HO_5.out (x25_2 : Int) (wrap64 ((rd x5_2 x10_4) + 1)))))); refine store_event (t := 3) (p := 98) (v := ?vo_w56) (w1 := (wr.setCell ⟨go52, (x25_2 : Int).toNat, none⟩ (.int .i64 (wrap64 ((rd x5_2 x10_4) + 1))))) ?hg ?ho ?hn ?hr ?_; (case ho => rfl); (case hg => rfl); (case hn => rfl); (case hr => first | (go_simp; done) | (go_simp; rfl)); intro w56 hw; have hg : wr.grownBy w56 (some go52) := (by rw [hw]; exact HP55.2); have hp_ : Kd.R (Kd.int .i64) 3 w56 w.heap.size (fun _ => True) (.slice (some ⟨go52, 0, none⟩) x5_2.length co54) y264 := (by rw [hw, Ny264.out]; exact HP55.1); clear HP55; replace HO_4 := aZ (Kd.Y_over' (v := (.slice (some ⟨go52, 0, none⟩) x5_2.length co54)) (lZY HO_4.out) (Kd.R_typed HO_5.out) (by decide) hg); replace BK255 := aZ (blk_grown (bkZ BK255.out) hg (Kd.R_ne HO_5.out BK255.out (by decide))); replace HO_5 := aZ (hp_); replace HB := aZ ((by rw [hw]; exact below_set (HB.out) GB52.out : Below w.heap.size w w56)); clear hg hw hp_))
         repeat (go_quiet (first | ((with_reducible refine gate_store (t := 3) (p := 98) rfl ?_); (try (rw [drewN_self wr]; generalize hq_ : World.drewN wr _ = wr; replace HO_4 := aZ (Kd.Y_at hq_ HO_4.out); replace HO_5 := aZ (Kd.R_at hq_ HO_5.out); replace BK255 := aZ (blk_at hq_ BK255.out); replace HB := aZ (below_at hq_ HB.out); clear hq_; (try (have p52 : 0 ≤ (x25_2 : Int) := of_decide_eq_true tZE)); (try (have q52 : (x25_2 : Int) < ((x5_2.length : Int) : Int) := of_decide_eq_true tZE)); (try (obtain ⟨go52, co52, eo52, gb52, gl52, cl52, HG52⟩ := Kd.R_form HO_5.out (by omega))); (try (first | cases eo52 | (injection eo52 with ea_ en_ ec_; (first | subst ea_ | (injection ea_ with ea_; subst ea_)); subst ec_; clear en_))); (try (have GB52 := Aside0.mk gb52)); (try (have GG52 := Aside0.mk HG52)); (try (clear gb52 gl52 HG52)); (try (first | simp only [add_plain] at hx262_0 | skip)); (try (first | simp only [add_plain] at hx263_0 | skip)); (try (obtain ⟨hx52_0, hf52_0⟩ := Kd.R_celln 0 HO_5.out (x25_2 : Int) p52 q52)); (try (replace p52 := eq_true p52)); (try (replace q52 := eq_true q52)); (try (have HP55 := Kd.R_putg HO_5.out (x25_2 : Int) (wrap64 ((rd x5_2 x10_4) + 1)))))); refine store_event (t := 3) (p := 98) (v := ?vo_w56) (w1 := (wr.setCell ⟨go52, (x25_2 : Int).toNat, none⟩ (.int .i64 (wrap64 ((rd x5_2 x10_4) + 1))))) ?hg ?ho ?hn ?hr ?_; (case ho => rfl); (case hg => rfl); (case hn => rfl); (case hr => first | (go_simp; done) | (go_simp; rfl)); intro w56 hw; have hg : wr.grownBy w56 (some go52) := (by rw [hw]; exact HP55.2); have hp_ : Kd.R (Kd.int .i64) 3 w56 w.heap.size (fun _ => True) (.slice (some ⟨go52, 0, none⟩) x5_2.length co54) y264 := (by rw [hw, Ny264.out]; exact HP55.1); clear HP55; replace HO_4 := aZ (Kd.Y_over' (v := (.slice (some ⟨go52, 0, none⟩) x5_2.length co54)) (lZY HO_4.out) (Kd.R_typed HO_5.out) (by decide) hg); replace BK255 := aZ (blk_grown (bkZ BK255.out) hg (Kd.R_ne HO_5.out BK255.out (by decide))); replace HO_5 := aZ (hp_); replace HB := aZ ((by rw [hw]; exact below_set (HB.out) GB52.out : Below w.heap.size w w56)); clear hg hw hp_)); try go_wp2_with (first | ((with_reducible refine gate_store (t := 3) (p := 98) rfl ?_); (try (rw [drewN_self wr]; generalize hq_ : World.drewN wr _ = wr; replace HO_4 := aZ (Kd.Y_at hq_ HO_4.out); replace HO_5 := aZ (Kd.R_at hq_ HO_5.out); replace BK255 := aZ (blk_at hq_ BK255.out); replace HB := aZ (below_at hq_ HB.out); clear hq_; (try (have p52 : 0 ≤ (x25_2 : Int) := of_decide_eq_true tZE)); (try (have q52 : (x25_2 : Int) < ((x5_2.length : Int) : Int) := of_decide_eq_true tZE)); (try (obtain ⟨go52, co52, eo52, gb52, gl52, cl52, HG52⟩ := Kd.R_form HO_5.out (by omega))); (try (first | cases eo52 | (injection eo52 with ea_ en_ ec_; (first | subst ea_ | (injection ea_ with ea_; subst ea_)); subst ec_; clear en_))); (try (have GB52 := Aside0.mk gb52)); (try (have GG52 := Aside0.mk HG52)); (try (clear gb52 gl52 HG52)); (try (first | simp only [add_plain] at hx262_0 | skip)); (try (first | simp only [add_plain] at hx263_0 | skip)); (try (obtain ⟨hx52_0, hf52_0⟩ := Kd.R_celln 0 HO_5.out (x25_2 : Int) p52 q52)); (try (replace p52 := eq_true p52)); (try (replace q52 := eq_true q52)); (try (have HP55 := Kd.R_putg HO_5.out (x25_2 : Int) (wrap64 ((rd x5_2 x10_4) + 1)))))); refine store_event (t := 3) (p := 98) (v := ?vo_w56) (w1 := (wr.setCell ⟨go52, (x25_2 : Int).toNat, none⟩ (.int .i64 (wrap64 ((rd x5_2 x10_4) + 1))))) ?hg ?ho ?hn ?hr ?_; (case ho => rfl); (case hg => rfl); (case hn => rfl); (case hr => first | (go_simp; done) | (go_simp; rfl)); intro w56 hw; have hg : wr.grownBy w56 (some go52) := (by rw [hw]; exact HP55.2); have hp_ : Kd.R (Kd.int .i64) 3 w56 w.heap.size (fun _ => True) (.slice (some ⟨go52, 0, none⟩) x5_2.length co54) y264 := (by rw [hw, Ny264.out]; exact HP55.1); clear HP55; replace HO_4 := aZ (Kd.Y_over' (v := (.slice (some ⟨go52, 0, none⟩) x5_2.length co54)) (lZY HO_4.out) (Kd.R_typed HO_5.out) (by decide) hg); replace BK255 := aZ (blk_grown (bkZ BK255.out) hg (Kd.R_ne HO_5.out BK255.out (by decide))); replace HO_5 := aZ (hp_); replace HB := aZ ((by rw [hw]; exact below_set (HB.out) GB52.out : Below w.heap.size w w56)); clear hg hw hp_)))
         go_roundg k4
         case measure => have := HJ1.out; have := HK2.out; have := HJ14.out; have := HK4.out; omega
         case rel => exact ⟨(y259), (y264), (wrap64 (x25_2 + 1)), tZB, H', ⟨by have := HJ1.out; have := HK2.out; have := HJ14.out; have := HK4.out; omega⟩, ⟨lZY HO_4.out⟩, ⟨lZR HO_5.out⟩, ⟨bZ⟩⟩
end Go.Proofs.Ytmpknbdbichdiaa.PFnExactLedgerOk
