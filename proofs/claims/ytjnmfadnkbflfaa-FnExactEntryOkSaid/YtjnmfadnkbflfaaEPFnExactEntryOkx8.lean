import Derived.Test.YtjnmfadnkbflfaaEPFnExactEntryOkx0
import Derived.Test.YtjnmfadnkbflfaaEPFnExactEntryOkx7
import Derived.Test.YtjnmfadnkbflfaaESlimWords
namespace Go.Proofs.Ytjnmfadnkbflfaa.PFnExactEntryOk
open Go.Proofs.Ytjnmfadnkbflfaa.SlimWords
open Go.RowKit Go.Proofs.YtjnmfadnkbflfaaW.PrintWords Go.Proofs.YtjnmfadnkbflfaaW.PrintLast Go.Proofs.YtjnmfadnkbflfaaW.PrintMore Go.Proofs.Ytjnmfadnkbflfaa.MapWords Go.Proofs.Ytjnmfadnkbflfaa.IterWords Go.Proofs.Ytjnmfadnkbflfaa.MarkWords
attribute [local go_sem] max2_int min2_int max_two min_two max_three min_three max_four min_four
set_option linter.unusedVariables false
set_option linter.unusedSimpArgs false
mutual
def impl_depths.j0 : Nat → List (S188) → Bool → Option (List Int × Bool)
  | 0, _, _ => none
  | k + 1, x0, x18 => if x18 = true then (some (([] : List Int), false)) else (if 0 ≤ (x0.length : Int) then (if ((x0.length : Int) : Int).toNat ≤ 35184372088832 then (impl_depths.l0 k x0 (([] : List ((ByteArray × Int)))) (List.replicate ((x0.length : Int) : Int).toNat 0) x0 (x0.length : Int) 0) else (none)) else (none))
def impl_depths.l0 : Nat → List (S188) → List ((ByteArray × Int)) → List Int → List (S188) → Int → Int → Option (List Int × Bool)
  | 0, _, _, _, _, _, _ => none
  | k + 1, x0, x4, x5, x23, x24, x25 => if x25 < x24 then (if 0 ≤ x25 then (if x25 < (x23.length : Int) then (if ((rd_T188 x23 x25).f0).size ≤ 9223372036854775807 then (if (mhas x4 ((rd_T188 x23 x25).f0)) = true then (impl_depths.j2 k x0 x4 x5 x25 x23 x24 x25 true ((rd_T188 x23 x25).f0) ((rd_T188 x23 x25).f1) ((rd_T188 x23 x25).f2)) else ((impl_NameOk.f k ((rd_T188 x23 x25).f0)).bind fun t203 => (if t203 = true then ((impl_kindOk.f ((rd_T188 x23 x25).f2)).bind fun t204 => (impl_depths.j2 k x0 x4 x5 x25 x23 x24 x25 (!t204) ((rd_T188 x23 x25).f0) ((rd_T188 x23 x25).f1) ((rd_T188 x23 x25).f2))) else (impl_depths.j2 k x0 x4 x5 x25 x23 x24 x25 true ((rd_T188 x23 x25).f0) ((rd_T188 x23 x25).f1) ((rd_T188 x23 x25).f2))))) else (none)) else (none)) else (none)) else (some (x5, true))
def impl_depths.j2 : Nat → List (S188) → List ((ByteArray × Int)) → List Int → Int → List (S188) → Int → Int → Bool → ByteArray → Int → Int → Option (List Int × Bool)
  | 0, _, _, _, _, _, _, _, _, _, _, _ => none
  | k + 1, x0, x4, x5, x6, x23, x24, x25, x49, x202000, x202001, x202002 => if x49 = true then (some (([] : List Int), false)) else (if x202000.size ≤ 9223372036854775807 then (if -9223372036854775808 ≤ x6 then (if x6 ≤ 9223372036854775807 then (if x4.length < 140737488355328 then ((some ((x202000, x6) :: x4 : List ((ByteArray × Int)))).bind fun y205 => (if x202001 = (-1) then (impl_depths.l0 k x0 y205 x5 x23 x24 (wrap64 (x25 + 1))) else (impl_depths.l1 k x0 y205 x5 x6 (wrap64 (x6 - 1)) x23 x24 x25 x202000 x202001 x202002))) else (none)) else (none)) else (none)) else (none))
def impl_depths.l1 : Nat → List (S188) → List ((ByteArray × Int)) → List Int → Int → Int → List (S188) → Int → Int → ByteArray → Int → Int → Option (List Int × Bool)
  | 0, _, _, _, _, _, _, _, _, _, _, _ => none
  | k + 1, x0, x4, x5, x6, x10, x23, x24, x25, x202000, x202001, x202002 => if x10 ≥ 0 then (if x10 = x202001 then (if x10 < 0 then (some (([] : List Int), false)) else (if 0 ≤ x10 then (if x10 < (x0.length : Int) then (if ((rd_T188 x0 x10).f2) = x202002 then (if x10 < (x5.length : Int) then (if (rd x5 x10) ≥ 8 then (some (([] : List Int), false)) else (if 0 ≤ x6 then (if x6 < (x5.length : Int) then (impl_depths.l0 k x0 x4 (x5.set (x6 : Int).toNat (wrap64 ((rd x5 x10) + 1))) x23 x24 (wrap64 (x25 + 1))) else (none)) else (none))) else (none)) else (some (([] : List Int), false))) else (none)) else (none))) else (if 0 ≤ x10 then (if x10 < (x0.length : Int) then (impl_depths.l1 k x0 x4 x5 x6 ((rd_T188 x0 x10).f1) x23 x24 x25 x202000 x202001 x202002) else (none)) else (none))) else (if x10 < 0 then (some (([] : List Int), false)) else (if 0 ≤ x10 then (none) else (none)))
end
def impl_depths.f (k : Nat) (l0 : List (S188)) : Option (List Int × Bool) := if (l0.length : Int) < 1 then (impl_depths.j0 k l0 true) else (impl_depths.j0 k l0 (decide ((l0.length : Int) > 120)))
theorem impl_depths.mono_l : ∀ k, (∀ y0 y1, LeO (impl_depths.j0 k y0 y1) (impl_depths.j0 (k + 1) y0 y1)) ∧ (∀ y0 y1 y2 y3 y4 y5, LeO (impl_depths.l0 k y0 y1 y2 y3 y4 y5) (impl_depths.l0 (k + 1) y0 y1 y2 y3 y4 y5)) ∧ (∀ y0 y1 y2 y3 y4 y5 y6 y7 y8 y9 y10, LeO (impl_depths.j2 k y0 y1 y2 y3 y4 y5 y6 y7 y8 y9 y10) (impl_depths.j2 (k + 1) y0 y1 y2 y3 y4 y5 y6 y7 y8 y9 y10)) ∧ (∀ y0 y1 y2 y3 y4 y5 y6 y7 y8 y9 y10, LeO (impl_depths.l1 k y0 y1 y2 y3 y4 y5 y6 y7 y8 y9 y10) (impl_depths.l1 (k + 1) y0 y1 y2 y3 y4 y5 y6 y7 y8 y9 y10))
  | 0 => ⟨fun _ _ r h => by simp [impl_depths.j0] at h, fun _ _ _ _ _ _ r h => by simp [impl_depths.l0] at h, fun _ _ _ _ _ _ _ _ _ _ _ r h => by simp [impl_depths.j2] at h, fun _ _ _ _ _ _ _ _ _ _ _ r h => by simp [impl_depths.l1] at h⟩
  | k + 1 => by
    obtain ⟨ih0, ih1, ih2, ih3⟩ := impl_depths.mono_l k
    refine ⟨?_, ?_, ?_, ?_⟩
    · intro y0 y1
      unfold impl_depths.j0
      repeat' first
      | (with_reducible exact ih0 _ _)
      | (with_reducible exact ih1 _ _ _ _ _ _)
      | (with_reducible exact ih2 _ _ _ _ _ _ _ _ _ _ _)
      | (with_reducible exact ih3 _ _ _ _ _ _ _ _ _ _ _)
      | (with_reducible exact impl_NameOk.mono _ _)
      | (with_reducible exact LeO.refl _)
      | (with_reducible exact LeO.none _)
      | (with_reducible refine LeO.ite ?_ ?_)
      | (with_reducible refine LeO.bind ?_ (fun _ => ?_))
      | exact ih0 _ _
      | exact ih1 _ _ _ _ _ _
      | exact ih2 _ _ _ _ _ _ _ _ _ _ _
      | exact ih3 _ _ _ _ _ _ _ _ _ _ _
      | exact impl_NameOk.mono _ _
      | exact LeO.none _
      | refine LeO.ite ?_ ?_
      | refine LeO.bind ?_ (fun _ => ?_)
    · intro y0 y1 y2 y3 y4 y5
      unfold impl_depths.l0
      repeat' first
      | (with_reducible exact ih0 _ _)
      | (with_reducible exact ih1 _ _ _ _ _ _)
      | (with_reducible exact ih2 _ _ _ _ _ _ _ _ _ _ _)
      | (with_reducible exact ih3 _ _ _ _ _ _ _ _ _ _ _)
      | (with_reducible exact impl_NameOk.mono _ _)
      | (with_reducible exact LeO.refl _)
      | (with_reducible exact LeO.none _)
      | (with_reducible refine LeO.ite ?_ ?_)
      | (with_reducible refine LeO.bind ?_ (fun _ => ?_))
      | exact ih0 _ _
      | exact ih1 _ _ _ _ _ _
      | exact ih2 _ _ _ _ _ _ _ _ _ _ _
      | exact ih3 _ _ _ _ _ _ _ _ _ _ _
      | exact impl_NameOk.mono _ _
      | exact LeO.none _
      | refine LeO.ite ?_ ?_
      | refine LeO.bind ?_ (fun _ => ?_)
    · intro y0 y1 y2 y3 y4 y5 y6 y7 y8 y9 y10
      unfold impl_depths.j2
      repeat' first
      | (with_reducible exact ih0 _ _)
      | (with_reducible exact ih1 _ _ _ _ _ _)
      | (with_reducible exact ih2 _ _ _ _ _ _ _ _ _ _ _)
      | (with_reducible exact ih3 _ _ _ _ _ _ _ _ _ _ _)
      | (with_reducible exact impl_NameOk.mono _ _)
      | (with_reducible exact LeO.refl _)
      | (with_reducible exact LeO.none _)
      | (with_reducible refine LeO.ite ?_ ?_)
      | (with_reducible refine LeO.bind ?_ (fun _ => ?_))
      | exact ih0 _ _
      | exact ih1 _ _ _ _ _ _
      | exact ih2 _ _ _ _ _ _ _ _ _ _ _
      | exact ih3 _ _ _ _ _ _ _ _ _ _ _
      | exact impl_NameOk.mono _ _
      | exact LeO.none _
      | refine LeO.ite ?_ ?_
      | refine LeO.bind ?_ (fun _ => ?_)
    · intro y0 y1 y2 y3 y4 y5 y6 y7 y8 y9 y10
      unfold impl_depths.l1
      repeat' first
      | (with_reducible exact ih0 _ _)
      | (with_reducible exact ih1 _ _ _ _ _ _)
      | (with_reducible exact ih2 _ _ _ _ _ _ _ _ _ _ _)
      | (with_reducible exact ih3 _ _ _ _ _ _ _ _ _ _ _)
      | (with_reducible exact impl_NameOk.mono _ _)
      | (with_reducible exact LeO.refl _)
      | (with_reducible exact LeO.none _)
      | (with_reducible refine LeO.ite ?_ ?_)
      | (with_reducible refine LeO.bind ?_ (fun _ => ?_))
      | exact ih0 _ _
      | exact ih1 _ _ _ _ _ _
      | exact ih2 _ _ _ _ _ _ _ _ _ _ _
      | exact ih3 _ _ _ _ _ _ _ _ _ _ _
      | exact impl_NameOk.mono _ _
      | exact LeO.none _
      | refine LeO.ite ?_ ?_
      | refine LeO.bind ?_ (fun _ => ?_)
theorem impl_depths.mono : ∀ a0 k, LeO (impl_depths.f k a0) (impl_depths.f (k + 1) a0) := by
 intro a0 k
 obtain ⟨ih0, ih1, ih2, ih3⟩ := impl_depths.mono_l k
 unfold impl_depths.f
 repeat' first
     | (with_reducible exact ih0 _ _)
     | (with_reducible exact ih1 _ _ _ _ _ _)
     | (with_reducible exact ih2 _ _ _ _ _ _ _ _ _ _ _)
     | (with_reducible exact ih3 _ _ _ _ _ _ _ _ _ _ _)
     | (with_reducible exact impl_NameOk.mono _ _)
     | (with_reducible exact LeO.refl _)
     | (with_reducible exact LeO.none _)
     | (with_reducible refine LeO.ite ?_ ?_)
     | (with_reducible refine LeO.bind ?_ (fun _ => ?_))
     | exact ih0 _ _
     | exact ih1 _ _ _ _ _ _
     | exact ih2 _ _ _ _ _ _ _ _ _ _ _
     | exact ih3 _ _ _ _ _ _ _ _ _ _ _
     | exact impl_NameOk.mono _ _
     | exact LeO.none _
     | refine LeO.ite ?_ ?_
     | refine LeO.bind ?_ (fun _ => ?_)
set_option maxHeartbeats 8000000 in
set_option maxRecDepth 100000 in
theorem impl_depths.calls (k : Nat) (A0 : Option Addr) (c0 : Nat) (l0 : List (S188)) (r1 : List Int) (r2 : Bool) (w : World) (hr0 : Kd.C k188 w A0 l0.length l0) (hc0 : l0.length ≤ c0) (h : impl_depths.f k l0 = some (r1, r2)) :
    Calls Try.prog 195 #[.slice A0 l0.length c0] w fun e w' => ∃ v0_ : Value, e = .returned (.tuple #[v0_, .bool r2]) ∧ Kd.R (Kd.int .i64) 3 w' w.heap.size (fun _ => True) v0_ r1 ∧ Below w.heap.size w w' := by
 have hu188 := Try.underlying188
 have HR0 := Aside0.mk hr0
 have HC0 := Aside0.mk hc0
 clear hr0 hc0
 have HB := aZ (Below.refl w.heap.size w)
 have H : (if (l0.length : Int) < 1 then (impl_depths.j0 k l0 true) else (impl_depths.j0 k l0 (decide ((l0.length : Int) > 120)))) = some (r1, r2) := h
 clear h
 have HC2 := Aside0.mk H
 clear H
 go_enter Try.func195, Try.ntmps195
 go_upto_region 1 with (fail)
 repeat (go_quiet (fail); go_upto_region 1 with (fail))
 go_cut [18] (fun v18 wc => ∃ (kq : Nat) (x18_1 : Bool), v18 = .bool x18_1 ∧ Aside0 (impl_depths.j0 kq l0 x18_1 = some (r1, r2)) ∧ Aside0 (kq ≤ k) ∧ Aside0 (Below w.heap.size w wc))
 case first =>
  have H := HC2.out
  clear HC2
  by_cases c3 : (l0.length : Int) < 1
  ·rw [if_pos c3] at H
   have c3b0 := decide_eq_true c3
   have c3b1 : decide (l0.length < 1) = true := decide_eq_true (by omega)
   clear c3
   (first | rw [c3b0] | (simp only [i64_w, i32_w]; rw [c3b0]) | skip)
   have H' := Aside0.mk H
   clear H
   go_wp2
   repeat (go_quiet (fail); try go_wp2)
   go_meet
   case rel => exact ⟨_, (true), tZB, H', ⟨by first | omega | exact Nat.le_refl _⟩, ⟨bZ⟩⟩
  rw [if_neg c3] at H
  have c3b0 := decide_eq_false c3
  have c3b1 : decide (l0.length < 1) = false := decide_eq_false (by omega)
  clear c3
  (first | rw [c3b0] | (simp only [i64_w, i32_w]; rw [c3b0]) | skip)
  have H' := Aside0.mk H
  clear H
  go_wp2
  repeat (go_quiet (fail); try go_wp2)
  go_meet
  case rel => exact ⟨_, (decide ((l0.length : Int) > 120)), tZB, H', ⟨by first | omega | exact Nat.le_refl _⟩, ⟨bZ⟩⟩
 case rest =>
  clear HC2
  try clear c1
  try clear p2
  try clear c3
  try clear c3b0
  try clear c3b1
  obtain ⟨kq, x18_1, rfl, HA, HJ1, HB⟩ := hcut
  cases kq with
  | zero => exact absurd HA.out (by simp [impl_depths.j0])
  | succ kj1 =>
   have H := HA.out
   clear HA
   simp only [impl_depths.j0] at H
   by_cases c4 : x18_1 = true
   ·subst c4
    have H1 : (some (([] : List Int), false)) = some (r1, r2) := by rw [if_pos rfl] at H; exact H
    clear H
    have H := H1
    clear H1
    simp only [Option.some.injEq, Prod.mk.injEq] at H
    obtain ⟨rfl, rfl⟩ := H
    go_wp2
    repeat (go_quiet (fail); try go_wp2)
    go_ret2
    exact ⟨_, tZC, by first | exact Kd.R_nil _ _ _ _ _ | exact Kd.N_nil _ _ _ _ _ | exact Kd.V_nil _ _ _ _ _ | exact Kd.Q_nil _ _ _ _ _ | exact Kd.S_nil _ _ _ _ _, bZ⟩
   replace c4 := Bool.eq_false_iff.mpr c4
   subst c4
   have H1 : (if 0 ≤ (l0.length : Int) then (if ((l0.length : Int) : Int).toNat ≤ 35184372088832 then (impl_depths.l0 kj1 l0 (([] : List ((ByteArray × Int)))) (List.replicate ((l0.length : Int) : Int).toNat 0) l0 (l0.length : Int) 0) else (none)) else (none)) = some (r1, r2) := by rw [if_neg (show ¬ (false = true) by decide)] at H; exact H
   clear H
   have H := H1
   clear H1
   obtain ⟨y194, hy194⟩ : ∃ y_ : List ((ByteArray × Int)), y_ = (([] : List ((ByteArray × Int)))) := ⟨_, rfl⟩
   replace H : (if 0 ≤ (l0.length : Int) then (if ((l0.length : Int) : Int).toNat ≤ 35184372088832 then (impl_depths.l0 kj1 l0 y194 (List.replicate ((l0.length : Int) : Int).toNat 0) l0 (l0.length : Int) 0) else (none)) else (none)) = some (r1, r2) := by first | (rw [hy194]; with_reducible exact H) | (have H2_ := (Option.bind_some _ _).symm.trans H; rw [hy194]; with_reducible exact H2_) | (have H2_ := (Option.bind_some _ _).symm.trans H; with_reducible exact H2_) | with_reducible exact H | (rw [hy194]; exact H) | exact H
   have Ny194 := Aside0.mk hy194
   clear hy194
   by_cases c5 : 0 ≤ (l0.length : Int)
   rotate_left
   ·rw [if_neg c5] at H
    exact absurd H (by simp)
   rw [if_pos c5] at H
   have c5b0 := eq_true c5
   have c5b1 := decide_eq_true c5
   clear c5
   by_cases c6 : ((l0.length : Int) : Int).toNat ≤ 35184372088832
   rotate_left
   ·rw [if_neg c6] at H
    exact absurd H (by simp)
   rw [if_pos c6] at H
   have c6b0 := eq_true c6
   have c6b1 := decide_eq_true c6
   clear c6
   obtain ⟨y197, hy197⟩ : ∃ y_ : List Int, y_ = (List.replicate ((l0.length : Int) : Int).toNat 0) := ⟨_, rfl⟩
   replace H : (impl_depths.l0 kj1 l0 y194 y197 l0 (l0.length : Int) 0) = some (r1, r2) := by first | (rw [hy197]; with_reducible exact H) | (have H2_ := (Option.bind_some _ _).symm.trans H; rw [hy197]; with_reducible exact H2_) | (have H2_ := (Option.bind_some _ _).symm.trans H; with_reducible exact H2_) | with_reducible exact H | (rw [hy197]; exact H) | exact H
   have Ny197 := Aside0.mk hy197
   clear hy197
   have H' := Aside0.mk H
   clear H
   go_wp2_with (first | ((with_reducible refine gate_dst (N := 19) rfl ?_); (try (refine gate_guard (by rfl) ?_; dsimp only)); refine Kd.Y_make my158 158 rfl rfl rfl ?_; intro v195 w7 ho8 hb; rw [← Ny194.out] at ho8; have HO196 := aZ (Kd.Y_lower ho8 (below_size (lZB HB.out))); replace HB := aZ (below_step (lZB HB.out) hb); clear hb ho8) | ((with_reducible refine gate_dst (N := 22) rfl ?_); (try (refine gate_guard (by rfl) ?_; dsimp only)); refine Kd.R_make (Kd.int .i64) _ 3 rfl (N := 22) rfl 51 _ _ rfl (l0.length : Int) rfl rfl Try.underlying51 (.int .i64 0) 8 info3 rfl (by decide) (by omega) 0 (ok := fun _ => True) (okp := fun _ => True) rfl (fun _ hk => hk) trivial (of_decide_eq_true tZE) (Nat.le_trans (Nat.mul_le_mul_right _ (of_decide_eq_true tZE : (l0.length : Int).toNat ≤ 35184372088832)) (by omega)) (Below.refl _ _) (Nat.le_refl _) ?_; intro v198 w9 ho10 hb hg_ hnew_; clear hg_ hnew_; (first | rw [← Ny197.out] at ho10 | (simp only [Int.reduceToNat] at ho10; rw [← Ny197.out] at ho10)); replace HO196 := aZ (Kd.Y_below (lZY HO196.out) hb); have HO199 := aZ (Kd.R_lower ho10 (below_size (lZB HB.out))); replace HB := aZ (below_step (lZB HB.out) hb); clear hb ho10))
   repeat (go_quiet (first | ((with_reducible refine gate_dst (N := 19) rfl ?_); (try (refine gate_guard (by rfl) ?_; dsimp only)); refine Kd.Y_make my158 158 rfl rfl rfl ?_; intro v195 w7 ho8 hb; rw [← Ny194.out] at ho8; have HO196 := aZ (Kd.Y_lower ho8 (below_size (lZB HB.out))); replace HB := aZ (below_step (lZB HB.out) hb); clear hb ho8) | ((with_reducible refine gate_dst (N := 22) rfl ?_); (try (refine gate_guard (by rfl) ?_; dsimp only)); refine Kd.R_make (Kd.int .i64) _ 3 rfl (N := 22) rfl 51 _ _ rfl (l0.length : Int) rfl rfl Try.underlying51 (.int .i64 0) 8 info3 rfl (by decide) (by omega) 0 (ok := fun _ => True) (okp := fun _ => True) rfl (fun _ hk => hk) trivial (of_decide_eq_true tZE) (Nat.le_trans (Nat.mul_le_mul_right _ (of_decide_eq_true tZE : (l0.length : Int).toNat ≤ 35184372088832)) (by omega)) (Below.refl _ _) (Nat.le_refl _) ?_; intro v198 w9 ho10 hb hg_ hnew_; clear hg_ hnew_; (first | rw [← Ny197.out] at ho10 | (simp only [Int.reduceToNat] at ho10; rw [← Ny197.out] at ho10)); replace HO196 := aZ (Kd.Y_below (lZY HO196.out) hb); have HO199 := aZ (Kd.R_lower ho10 (below_size (lZB HB.out))); replace HB := aZ (below_step (lZB HB.out) hb); clear hb ho10)); try go_wp2_with (first | ((with_reducible refine gate_dst (N := 19) rfl ?_); (try (refine gate_guard (by rfl) ?_; dsimp only)); refine Kd.Y_make my158 158 rfl rfl rfl ?_; intro v195 w7 ho8 hb; rw [← Ny194.out] at ho8; have HO196 := aZ (Kd.Y_lower ho8 (below_size (lZB HB.out))); replace HB := aZ (below_step (lZB HB.out) hb); clear hb ho8) | ((with_reducible refine gate_dst (N := 22) rfl ?_); (try (refine gate_guard (by rfl) ?_; dsimp only)); refine Kd.R_make (Kd.int .i64) _ 3 rfl (N := 22) rfl 51 _ _ rfl (l0.length : Int) rfl rfl Try.underlying51 (.int .i64 0) 8 info3 rfl (by decide) (by omega) 0 (ok := fun _ => True) (okp := fun _ => True) rfl (fun _ hk => hk) trivial (of_decide_eq_true tZE) (Nat.le_trans (Nat.mul_le_mul_right _ (of_decide_eq_true tZE : (l0.length : Int).toNat ≤ 35184372088832)) (by omega)) (Below.refl _ _) (Nat.le_refl _) ?_; intro v198 w9 ho10 hb hg_ hnew_; clear hg_ hnew_; (first | rw [← Ny197.out] at ho10 | (simp only [Int.reduceToNat] at ho10; rw [← Ny197.out] at ho10)); replace HO196 := aZ (Kd.Y_below (lZY HO196.out) hb); have HO199 := aZ (Kd.R_lower ho10 (below_size (lZB HB.out))); replace HB := aZ (below_step (lZB HB.out) hb); clear hb ho10)))
   go_loopg [25] kj1 (fun kq v25 w' => ∃ (x4_2 : List ((ByteArray × Int))) (x5_2 : List Int) (x25_2 : Int), v25 = .int .i64 x25_2 ∧ Aside0 (impl_depths.l0 kq l0 x4_2 x5_2 l0 (l0.length : Int) x25_2 = some (r1, r2)) ∧ Aside0 (kq ≤ kj1) ∧ Aside0 (Kd.Y my158 158 w' w.heap.size (fun _ => True) v195 x4_2) ∧ Aside0 (Kd.R (Kd.int .i64) 3 w' w.heap.size (fun _ => True) v198 x5_2) ∧ Aside0 (Below w.heap.size w w'))
   case atStart => exact ⟨(y194), (y197), (0), tZB, H', ⟨Nat.le_refl _⟩, ⟨lZY HO196.out⟩, ⟨lZR HO199.out⟩, ⟨bZ⟩⟩
   case round =>
    clear H'
    try clear c1
    try clear p2
    try clear c3
    try clear c3b0
    try clear c3b1
    try clear c4
    try clear c5
    try clear c5b0
    try clear c5b1
    try clear c6
    try clear c6b0
    try clear c6b1
    try clear p2
    obtain ⟨x4_2, x5_2, x25_2, rfl, HA, HK2, HO_4, HO_5, HB⟩ := hrel
    cases gk with
    | zero => exact absurd HA.out (by simp [impl_depths.l0])
    | succ k2 =>
     have H := HA.out
     clear HA
     simp only [impl_depths.l0] at H
     by_cases c11 : x25_2 < (l0.length : Int)
     rotate_left
     ·rw [if_neg c11] at H
      have c11b0 := decide_eq_false c11
      clear c11
      simp only [Option.some.injEq, Prod.mk.injEq] at H
      obtain ⟨rfl, rfl⟩ := H
      go_wp2
      repeat (go_quiet (fail); try go_wp2)
      go_ret2
      exact ⟨_, tZC, lZR HO_5.out, bZ⟩
     rw [if_pos c11] at H
     have c11b0 := decide_eq_true c11
     clear c11
     by_cases c12 : 0 ≤ x25_2
     rotate_left
     ·rw [if_neg c12] at H
      exact absurd H (by simp)
     rw [if_pos c12] at H
     have c12b0 := decide_eq_true c12
     clear c12
     by_cases c13 : x25_2 < (l0.length : Int)
     rotate_left
     ·rw [if_neg c13] at H
      exact absurd H (by simp)
     rw [if_pos c13] at H
     have c13b0 := decide_eq_true c13
     clear c13
     by_cases c14 : ((rd_T188 l0 x25_2).f0).size ≤ 9223372036854775807
     rotate_left
     ·rw [if_neg c14] at H
      exact absurd H (by simp)
     rw [if_pos c14] at H
     have c14b0 := eq_true c14
     have c14b1 := decide_eq_true c14
     try have c14b2 := eq_false (Nat.not_lt.2 c14)
     clear c14
     obtain ⟨y202, hy202⟩ : ∃ y_ : Bool, y_ = (mhas x4_2 ((rd_T188 l0 x25_2).f0)) := ⟨_, rfl⟩
     replace H : (if y202 = true then (impl_depths.j2 k2 l0 x4_2 x5_2 x25_2 l0 (l0.length : Int) x25_2 true ((rd_T188 l0 x25_2).f0) ((rd_T188 l0 x25_2).f1) ((rd_T188 l0 x25_2).f2)) else ((impl_NameOk.f k2 ((rd_T188 l0 x25_2).f0)).bind fun t203 => (if t203 = true then ((impl_kindOk.f ((rd_T188 l0 x25_2).f2)).bind fun t204 => (impl_depths.j2 k2 l0 x4_2 x5_2 x25_2 l0 (l0.length : Int) x25_2 (!t204) ((rd_T188 l0 x25_2).f0) ((rd_T188 l0 x25_2).f1) ((rd_T188 l0 x25_2).f2))) else (impl_depths.j2 k2 l0 x4_2 x5_2 x25_2 l0 (l0.length : Int) x25_2 true ((rd_T188 l0 x25_2).f0) ((rd_T188 l0 x25_2).f1) ((rd_T188 l0 x25_2).f2))))) = some (r1, r2) := by first | (rw [hy202]; with_reducible exact H) | (have H2_ := (Option.bind_some _ _).symm.trans H; rw [hy202]; with_reducible exact H2_) | (have H2_ := (Option.bind_some _ _).symm.trans H; with_reducible exact H2_) | with_reducible exact H | (rw [hy202]; exact H) | exact H
     have Ny202 := Aside0.mk hy202
     clear hy202
     have HC15 := Aside0.mk H
     clear H
     have p200 : 0 ≤ (x25_2 : Int) := of_decide_eq_true tZE
     have q200 : x25_2 < (l0.length : Int) := of_decide_eq_true tZE
     obtain ⟨ad200, e200, hx200_0, hx200_1, hx200_2⟩ := at_T188 HR0.out x25_2 p200 q200
     cases e200
     replace hx200_0 := cZ HB hx200_0
     replace hx200_1 := cZ HB hx200_1
     replace hx200_2 := cZ HB hx200_2
     replace p200 := eq_true p200
     replace q200 := eq_true q200
     go_upto_region 9 with (first | ((with_reducible refine gate_dst (N := 7) rfl ?_); (try (refine gate_guard (by rfl) ?_; dsimp only)); refine box_event ?hg (N := 7) ?hd (cs := #[.string (⟨#[]⟩ : ByteArray), .int .i64 0, .int .i64 0]) (t := 188) ?hr ?_; (case hd => rfl); (case hg => rfl); (case hr => first | (go_simp; done) | (go_simp; rfl)); intro gb201 hg w16 hbox hb; replace HO_4 := aZ (Kd.Y_below (lZY HO_4.out) hb); replace HO_5 := aZ (Kd.R_below (lZR HO_5.out) hb); have BK201 := aZ (hbox); have GW201 := aZ ((by rw [hg]; exact (below_size (lZB HB.out)) : w.heap.size ≤ gb201)); have GE201 := aZ ((by rw [hg]; exact (below_size (lZB HB.out)) : w.heap.size ≤ gb201)); replace HB := aZ (below_step (lZB HB.out) hb); clear hb hbox hg; have hcz17_0 : w16.cell? ⟨gb201, 0, none⟩ = some (.string (⟨#[]⟩ : ByteArray)) := (blk_cell BK201.out 0).trans rfl; have hcz17_1 : w16.cell? ⟨gb201, 1, none⟩ = some (.int .i64 0) := (blk_cell BK201.out 1).trans rfl; have hcz17_2 : w16.cell? ⟨gb201, 2, none⟩ = some (.int .i64 0) := (blk_cell BK201.out 2).trans rfl; have hfz17_0 := blk_frozen BK201.out 0; have hfz17_1 := blk_frozen BK201.out 1; have hfz17_2 := blk_frozen BK201.out 2) | ((with_reducible refine gate_store (t := 188) (p := 7) rfl ?_); (try (rw [drewN_self w16]; generalize hq_ : World.drewN w16 _ = w16; replace HO_4 := aZ (Kd.Y_at hq_ HO_4.out); replace HO_5 := aZ (Kd.R_at hq_ HO_5.out); replace BK201 := aZ (blk_at hq_ BK201.out); replace HB := aZ (below_at hq_ HB.out); clear hq_)); refine store_event (t := 188) (p := 7) (v := ?vo_w18) (w1 := (((w16.setCell ⟨gb201, 0, none⟩ (.string ((rd_T188 l0 x25_2).f0))).setCell ⟨gb201, 1, none⟩ (.int .i64 ((rd_T188 l0 x25_2).f1))).setCell ⟨gb201, 2, none⟩ (.int .i64 ((rd_T188 l0 x25_2).f2)))) ?hg ?ho ?hn ?hr ?_; (case ho => rfl); (case hg => rfl); (case hn => rfl); (case hr => first | (go_simp; done) | (go_simp; rfl)); intro w18 hw; replace HO_4 : Aside0 (Kd.Y my158 158 w18 w.heap.size (fun _ => True) v195 x4_2) := ⟨(by rw [hw]; exact (by (with_reducible repeat (first | apply Kd.Y_alloc | apply Kd.Y_drewN | apply Kd.Y_drew)); exact Kd.Y_mono (Kd.Y_far (p := ⟨gb201, 2, none⟩) (Kd.Y_far (p := ⟨gb201, 1, none⟩) (Kd.Y_far (p := ⟨gb201, 0, none⟩) (Kd.Y_types HO_4.out BK201.out (by decide)) (fun _ hk => hk.2) (.string ((rd_T188 l0 x25_2).f0))) (fun _ hk => hk.2) (.int .i64 ((rd_T188 l0 x25_2).f1))) (fun _ hk => hk.2) (.int .i64 ((rd_T188 l0 x25_2).f2))) (fun _ hk => trivial)))⟩; replace HO_5 : Aside0 (Kd.R (Kd.int .i64) 3 w18 w.heap.size (fun _ => True) v198 x5_2) := ⟨(by rw [hw]; exact (by (with_reducible repeat (first | apply Kd.R_alloc | apply Kd.R_drewN | apply Kd.R_drew)); exact Kd.R_mono (Kd.R_far (p := ⟨gb201, 2, none⟩) (Kd.R_far (p := ⟨gb201, 1, none⟩) (Kd.R_far (p := ⟨gb201, 0, none⟩) (Kd.R_types HO_5.out BK201.out (by decide)) (fun _ hk => hk.2) (.string ((rd_T188 l0 x25_2).f0))) (fun _ hk => hk.2) (.int .i64 ((rd_T188 l0 x25_2).f1))) (fun _ hk => hk.2) (.int .i64 ((rd_T188 l0 x25_2).f2))) (fun _ hk => trivial)))⟩; replace BK201 : Aside0 (w18.heap[gb201]? = some (.cells #[.string ((rd_T188 l0 x25_2).f0), .int .i64 ((rd_T188 l0 x25_2).f1), .int .i64 ((rd_T188 l0 x25_2).f2)] 188 (0, 0))) := ⟨(by rw [hw]; exact (by (with_reducible repeat (first | refine blk_drewN ?_ _ | refine blk_drew ?_ | refine blk_alloc ?_ _)); refine blk_put (cs := #[.string ((rd_T188 l0 x25_2).f0), .int .i64 ((rd_T188 l0 x25_2).f1), .int .i64 0]) ?_ 2 _ rfl; (with_reducible repeat (first | refine blk_drewN ?_ _ | refine blk_drew ?_ | refine blk_alloc ?_ _)); refine blk_put (cs := #[.string ((rd_T188 l0 x25_2).f0), .int .i64 0, .int .i64 0]) ?_ 1 _ rfl; (with_reducible repeat (first | refine blk_drewN ?_ _ | refine blk_drew ?_ | refine blk_alloc ?_ _)); refine blk_put (cs := #[.string (⟨#[]⟩ : ByteArray), .int .i64 0, .int .i64 0]) ?_ 0 _ rfl; (with_reducible repeat (first | refine blk_drewN ?_ _ | refine blk_drew ?_ | refine blk_alloc ?_ _)); exact BK201.out))⟩; replace HB : Aside0 (Below w.heap.size w w18) := ⟨(by rw [hw]; exact bZ)⟩; clear hw; have hcz19_0 : w18.cell? ⟨gb201, 0, none⟩ = some (.string ((rd_T188 l0 x25_2).f0)) := (blk_cell BK201.out 0).trans rfl; have hcz19_1 : w18.cell? ⟨gb201, 1, none⟩ = some (.int .i64 ((rd_T188 l0 x25_2).f1)) := (blk_cell BK201.out 1).trans rfl; have hcz19_2 : w18.cell? ⟨gb201, 2, none⟩ = some (.int .i64 ((rd_T188 l0 x25_2).f2)) := (blk_cell BK201.out 2).trans rfl; have hfz19_0 := blk_frozen BK201.out 0; have hfz19_1 := blk_frozen BK201.out 1; have hfz19_2 := blk_frozen BK201.out 2; have hcv20 := Kd.Y_look (e := 158) (HO_4.out) ((rd_T188 l0 x25_2).f0) (show okS _ from ((of_decide_eq_true tZE) : ((rd_T188 l0 x25_2).f0).size ≤ 9223372036854775807)); have hcv20d := fun n_ => Kd.Y_look (e := 158) (Kd.Y_drewN (HO_4.out) n_) ((rd_T188 l0 x25_2).f0) (show okS _ from ((of_decide_eq_true tZE) : ((rd_T188 l0 x25_2).f0).size ≤ 9223372036854775807)); have hcv20e := fun m_ n_ => Kd.Y_look (e := 158) (Kd.Y_drewN (Kd.Y_drewN (HO_4.out) m_) n_) ((rd_T188 l0 x25_2).f0) (show okS _ from ((of_decide_eq_true tZE) : ((rd_T188 l0 x25_2).f0).size ≤ 9223372036854775807)); simp only [my158, mkSB, mkSI, mkIB, mkII, mkPI, encPI] at hcv20 hcv20d hcv20e; rw [← Ny202.out] at hcv20 hcv20d hcv20e))
     repeat (go_quiet (first | ((with_reducible refine gate_dst (N := 7) rfl ?_); (try (refine gate_guard (by rfl) ?_; dsimp only)); refine box_event ?hg (N := 7) ?hd (cs := #[.string (⟨#[]⟩ : ByteArray), .int .i64 0, .int .i64 0]) (t := 188) ?hr ?_; (case hd => rfl); (case hg => rfl); (case hr => first | (go_simp; done) | (go_simp; rfl)); intro gb201 hg w16 hbox hb; replace HO_4 := aZ (Kd.Y_below (lZY HO_4.out) hb); replace HO_5 := aZ (Kd.R_below (lZR HO_5.out) hb); have BK201 := aZ (hbox); have GW201 := aZ ((by rw [hg]; exact (below_size (lZB HB.out)) : w.heap.size ≤ gb201)); have GE201 := aZ ((by rw [hg]; exact (below_size (lZB HB.out)) : w.heap.size ≤ gb201)); replace HB := aZ (below_step (lZB HB.out) hb); clear hb hbox hg; have hcz17_0 : w16.cell? ⟨gb201, 0, none⟩ = some (.string (⟨#[]⟩ : ByteArray)) := (blk_cell BK201.out 0).trans rfl; have hcz17_1 : w16.cell? ⟨gb201, 1, none⟩ = some (.int .i64 0) := (blk_cell BK201.out 1).trans rfl; have hcz17_2 : w16.cell? ⟨gb201, 2, none⟩ = some (.int .i64 0) := (blk_cell BK201.out 2).trans rfl; have hfz17_0 := blk_frozen BK201.out 0; have hfz17_1 := blk_frozen BK201.out 1; have hfz17_2 := blk_frozen BK201.out 2) | ((with_reducible refine gate_store (t := 188) (p := 7) rfl ?_); (try (rw [drewN_self w16]; generalize hq_ : World.drewN w16 _ = w16; replace HO_4 := aZ (Kd.Y_at hq_ HO_4.out); replace HO_5 := aZ (Kd.R_at hq_ HO_5.out); replace BK201 := aZ (blk_at hq_ BK201.out); replace HB := aZ (below_at hq_ HB.out); clear hq_)); refine store_event (t := 188) (p := 7) (v := ?vo_w18) (w1 := (((w16.setCell ⟨gb201, 0, none⟩ (.string ((rd_T188 l0 x25_2).f0))).setCell ⟨gb201, 1, none⟩ (.int .i64 ((rd_T188 l0 x25_2).f1))).setCell ⟨gb201, 2, none⟩ (.int .i64 ((rd_T188 l0 x25_2).f2)))) ?hg ?ho ?hn ?hr ?_; (case ho => rfl); (case hg => rfl); (case hn => rfl); (case hr => first | (go_simp; done) | (go_simp; rfl)); intro w18 hw; replace HO_4 : Aside0 (Kd.Y my158 158 w18 w.heap.size (fun _ => True) v195 x4_2) := ⟨(by rw [hw]; exact (by (with_reducible repeat (first | apply Kd.Y_alloc | apply Kd.Y_drewN | apply Kd.Y_drew)); exact Kd.Y_mono (Kd.Y_far (p := ⟨gb201, 2, none⟩) (Kd.Y_far (p := ⟨gb201, 1, none⟩) (Kd.Y_far (p := ⟨gb201, 0, none⟩) (Kd.Y_types HO_4.out BK201.out (by decide)) (fun _ hk => hk.2) (.string ((rd_T188 l0 x25_2).f0))) (fun _ hk => hk.2) (.int .i64 ((rd_T188 l0 x25_2).f1))) (fun _ hk => hk.2) (.int .i64 ((rd_T188 l0 x25_2).f2))) (fun _ hk => trivial)))⟩; replace HO_5 : Aside0 (Kd.R (Kd.int .i64) 3 w18 w.heap.size (fun _ => True) v198 x5_2) := ⟨(by rw [hw]; exact (by (with_reducible repeat (first | apply Kd.R_alloc | apply Kd.R_drewN | apply Kd.R_drew)); exact Kd.R_mono (Kd.R_far (p := ⟨gb201, 2, none⟩) (Kd.R_far (p := ⟨gb201, 1, none⟩) (Kd.R_far (p := ⟨gb201, 0, none⟩) (Kd.R_types HO_5.out BK201.out (by decide)) (fun _ hk => hk.2) (.string ((rd_T188 l0 x25_2).f0))) (fun _ hk => hk.2) (.int .i64 ((rd_T188 l0 x25_2).f1))) (fun _ hk => hk.2) (.int .i64 ((rd_T188 l0 x25_2).f2))) (fun _ hk => trivial)))⟩; replace BK201 : Aside0 (w18.heap[gb201]? = some (.cells #[.string ((rd_T188 l0 x25_2).f0), .int .i64 ((rd_T188 l0 x25_2).f1), .int .i64 ((rd_T188 l0 x25_2).f2)] 188 (0, 0))) := ⟨(by rw [hw]; exact (by (with_reducible repeat (first | refine blk_drewN ?_ _ | refine blk_drew ?_ | refine blk_alloc ?_ _)); refine blk_put (cs := #[.string ((rd_T188 l0 x25_2).f0), .int .i64 ((rd_T188 l0 x25_2).f1), .int .i64 0]) ?_ 2 _ rfl; (with_reducible repeat (first | refine blk_drewN ?_ _ | refine blk_drew ?_ | refine blk_alloc ?_ _)); refine blk_put (cs := #[.string ((rd_T188 l0 x25_2).f0), .int .i64 0, .int .i64 0]) ?_ 1 _ rfl; (with_reducible repeat (first | refine blk_drewN ?_ _ | refine blk_drew ?_ | refine blk_alloc ?_ _)); refine blk_put (cs := #[.string (⟨#[]⟩ : ByteArray), .int .i64 0, .int .i64 0]) ?_ 0 _ rfl; (with_reducible repeat (first | refine blk_drewN ?_ _ | refine blk_drew ?_ | refine blk_alloc ?_ _)); exact BK201.out))⟩; replace HB : Aside0 (Below w.heap.size w w18) := ⟨(by rw [hw]; exact bZ)⟩; clear hw; have hcz19_0 : w18.cell? ⟨gb201, 0, none⟩ = some (.string ((rd_T188 l0 x25_2).f0)) := (blk_cell BK201.out 0).trans rfl; have hcz19_1 : w18.cell? ⟨gb201, 1, none⟩ = some (.int .i64 ((rd_T188 l0 x25_2).f1)) := (blk_cell BK201.out 1).trans rfl; have hcz19_2 : w18.cell? ⟨gb201, 2, none⟩ = some (.int .i64 ((rd_T188 l0 x25_2).f2)) := (blk_cell BK201.out 2).trans rfl; have hfz19_0 := blk_frozen BK201.out 0; have hfz19_1 := blk_frozen BK201.out 1; have hfz19_2 := blk_frozen BK201.out 2; have hcv20 := Kd.Y_look (e := 158) (HO_4.out) ((rd_T188 l0 x25_2).f0) (show okS _ from ((of_decide_eq_true tZE) : ((rd_T188 l0 x25_2).f0).size ≤ 9223372036854775807)); have hcv20d := fun n_ => Kd.Y_look (e := 158) (Kd.Y_drewN (HO_4.out) n_) ((rd_T188 l0 x25_2).f0) (show okS _ from ((of_decide_eq_true tZE) : ((rd_T188 l0 x25_2).f0).size ≤ 9223372036854775807)); have hcv20e := fun m_ n_ => Kd.Y_look (e := 158) (Kd.Y_drewN (Kd.Y_drewN (HO_4.out) m_) n_) ((rd_T188 l0 x25_2).f0) (show okS _ from ((of_decide_eq_true tZE) : ((rd_T188 l0 x25_2).f0).size ≤ 9223372036854775807)); simp only [my158, mkSB, mkSI, mkIB, mkII, mkPI, encPI] at hcv20 hcv20d hcv20e; rw [← Ny202.out] at hcv20 hcv20d hcv20e)); go_upto_region 9 with (first | ((with_reducible refine gate_dst (N := 7) rfl ?_); (try (refine gate_guard (by rfl) ?_; dsimp only)); refine box_event ?hg (N := 7) ?hd (cs := #[.string (⟨#[]⟩ : ByteArray), .int .i64 0, .int .i64 0]) (t := 188) ?hr ?_; (case hd => rfl); (case hg => rfl); (case hr => first | (go_simp; done) | (go_simp; rfl)); intro gb201 hg w16 hbox hb; replace HO_4 := aZ (Kd.Y_below (lZY HO_4.out) hb); replace HO_5 := aZ (Kd.R_below (lZR HO_5.out) hb); have BK201 := aZ (hbox); have GW201 := aZ ((by rw [hg]; exact (below_size (lZB HB.out)) : w.heap.size ≤ gb201)); have GE201 := aZ ((by rw [hg]; exact (below_size (lZB HB.out)) : w.heap.size ≤ gb201)); replace HB := aZ (below_step (lZB HB.out) hb); clear hb hbox hg; have hcz17_0 : w16.cell? ⟨gb201, 0, none⟩ = some (.string (⟨#[]⟩ : ByteArray)) := (blk_cell BK201.out 0).trans rfl; have hcz17_1 : w16.cell? ⟨gb201, 1, none⟩ = some (.int .i64 0) := (blk_cell BK201.out 1).trans rfl; have hcz17_2 : w16.cell? ⟨gb201, 2, none⟩ = some (.int .i64 0) := (blk_cell BK201.out 2).trans rfl; have hfz17_0 := blk_frozen BK201.out 0; have hfz17_1 := blk_frozen BK201.out 1; have hfz17_2 := blk_frozen BK201.out 2) | ((with_reducible refine gate_store (t := 188) (p := 7) rfl ?_); (try (rw [drewN_self w16]; generalize hq_ : World.drewN w16 _ = w16; replace HO_4 := aZ (Kd.Y_at hq_ HO_4.out); replace HO_5 := aZ (Kd.R_at hq_ HO_5.out); replace BK201 := aZ (blk_at hq_ BK201.out); replace HB := aZ (below_at hq_ HB.out); clear hq_)); refine store_event (t := 188) (p := 7) (v := ?vo_w18) (w1 := (((w16.setCell ⟨gb201, 0, none⟩ (.string ((rd_T188 l0 x25_2).f0))).setCell ⟨gb201, 1, none⟩ (.int .i64 ((rd_T188 l0 x25_2).f1))).setCell ⟨gb201, 2, none⟩ (.int .i64 ((rd_T188 l0 x25_2).f2)))) ?hg ?ho ?hn ?hr ?_; (case ho => rfl); (case hg => rfl); (case hn => rfl); (case hr => first | (go_simp; done) | (go_simp; rfl)); intro w18 hw; replace HO_4 : Aside0 (Kd.Y my158 158 w18 w.heap.size (fun _ => True) v195 x4_2) := ⟨(by rw [hw]; exact (by (with_reducible repeat (first | apply Kd.Y_alloc | apply Kd.Y_drewN | apply Kd.Y_drew)); exact Kd.Y_mono (Kd.Y_far (p := ⟨gb201, 2, none⟩) (Kd.Y_far (p := ⟨gb201, 1, none⟩) (Kd.Y_far (p := ⟨gb201, 0, none⟩) (Kd.Y_types HO_4.out BK201.out (by decide)) (fun _ hk => hk.2) (.string ((rd_T188 l0 x25_2).f0))) (fun _ hk => hk.2) (.int .i64 ((rd_T188 l0 x25_2).f1))) (fun _ hk => hk.2) (.int .i64 ((rd_T188 l0 x25_2).f2))) (fun _ hk => trivial)))⟩; replace HO_5 : Aside0 (Kd.R (Kd.int .i64) 3 w18 w.heap.size (fun _ => True) v198 x5_2) := ⟨(by rw [hw]; exact (by (with_reducible repeat (first | apply Kd.R_alloc | apply Kd.R_drewN | apply Kd.R_drew)); exact Kd.R_mono (Kd.R_far (p := ⟨gb201, 2, none⟩) (Kd.R_far (p := ⟨gb201, 1, none⟩) (Kd.R_far (p := ⟨gb201, 0, none⟩) (Kd.R_types HO_5.out BK201.out (by decide)) (fun _ hk => hk.2) (.string ((rd_T188 l0 x25_2).f0))) (fun _ hk => hk.2) (.int .i64 ((rd_T188 l0 x25_2).f1))) (fun _ hk => hk.2) (.int .i64 ((rd_T188 l0 x25_2).f2))) (fun _ hk => trivial)))⟩; replace BK201 : Aside0 (w18.heap[gb201]? = some (.cells #[.string ((rd_T188 l0 x25_2).f0), .int .i64 ((rd_T188 l0 x25_2).f1), .int .i64 ((rd_T188 l0 x25_2).f2)] 188 (0, 0))) := ⟨(by rw [hw]; exact (by (with_reducible repeat (first | refine blk_drewN ?_ _ | refine blk_drew ?_ | refine blk_alloc ?_ _)); refine blk_put (cs := #[.string ((rd_T188 l0 x25_2).f0), .int .i64 ((rd_T188 l0 x25_2).f1), .int .i64 0]) ?_ 2 _ rfl; (with_reducible repeat (first | refine blk_drewN ?_ _ | refine blk_drew ?_ | refine blk_alloc ?_ _)); refine blk_put (cs := #[.string ((rd_T188 l0 x25_2).f0), .int .i64 0, .int .i64 0]) ?_ 1 _ rfl; (with_reducible repeat (first | refine blk_drewN ?_ _ | refine blk_drew ?_ | refine blk_alloc ?_ _)); refine blk_put (cs := #[.string (⟨#[]⟩ : ByteArray), .int .i64 0, .int .i64 0]) ?_ 0 _ rfl; (with_reducible repeat (first | refine blk_drewN ?_ _ | refine blk_drew ?_ | refine blk_alloc ?_ _)); exact BK201.out))⟩; replace HB : Aside0 (Below w.heap.size w w18) := ⟨(by rw [hw]; exact bZ)⟩; clear hw; have hcz19_0 : w18.cell? ⟨gb201, 0, none⟩ = some (.string ((rd_T188 l0 x25_2).f0)) := (blk_cell BK201.out 0).trans rfl; have hcz19_1 : w18.cell? ⟨gb201, 1, none⟩ = some (.int .i64 ((rd_T188 l0 x25_2).f1)) := (blk_cell BK201.out 1).trans rfl; have hcz19_2 : w18.cell? ⟨gb201, 2, none⟩ = some (.int .i64 ((rd_T188 l0 x25_2).f2)) := (blk_cell BK201.out 2).trans rfl; have hfz19_0 := blk_frozen BK201.out 0; have hfz19_1 := blk_frozen BK201.out 1; have hfz19_2 := blk_frozen BK201.out 2; have hcv20 := Kd.Y_look (e := 158) (HO_4.out) ((rd_T188 l0 x25_2).f0) (show okS _ from ((of_decide_eq_true tZE) : ((rd_T188 l0 x25_2).f0).size ≤ 9223372036854775807)); have hcv20d := fun n_ => Kd.Y_look (e := 158) (Kd.Y_drewN (HO_4.out) n_) ((rd_T188 l0 x25_2).f0) (show okS _ from ((of_decide_eq_true tZE) : ((rd_T188 l0 x25_2).f0).size ≤ 9223372036854775807)); have hcv20e := fun m_ n_ => Kd.Y_look (e := 158) (Kd.Y_drewN (Kd.Y_drewN (HO_4.out) m_) n_) ((rd_T188 l0 x25_2).f0) (show okS _ from ((of_decide_eq_true tZE) : ((rd_T188 l0 x25_2).f0).size ≤ 9223372036854775807)); simp only [my158, mkSB, mkSI, mkIB, mkII, mkPI, encPI] at hcv20 hcv20d hcv20e; rw [← Ny202.out] at hcv20 hcv20d hcv20e)))
     (try simp only [Act.put, sZ1, sZ2, sZ3])
     go_cut [49] (fun v49 wc => ∃ (kq : Nat) (x49_14 : Bool), v49 = .bool x49_14 ∧ Aside0 (impl_depths.j2 kq l0 x4_2 x5_2 x25_2 l0 (l0.length : Int) x25_2 x49_14 ((rd_T188 l0 x25_2).f0) ((rd_T188 l0 x25_2).f1) ((rd_T188 l0 x25_2).f2) = some (r1, r2)) ∧ Aside0 (kq ≤ k2) ∧ Aside0 (Kd.Y my158 158 wc w.heap.size (fun _ => True) v195 x4_2) ∧ Aside0 (Kd.R (Kd.int .i64) 3 wc w.heap.size (fun _ => True) v198 x5_2) ∧ Aside0 (wc.heap[gb201]? = some (.cells #[.string ((rd_T188 l0 x25_2).f0), .int .i64 ((rd_T188 l0 x25_2).f1), .int .i64 ((rd_T188 l0 x25_2).f2)] 188 (0, 0))) ∧ Aside0 (Below w.heap.size w wc))
     case first =>
      have H := HC15.out
      clear HC15
      by_cases c21 : y202 = true
      ·subst c21
       have H1 : (impl_depths.j2 k2 l0 x4_2 x5_2 x25_2 l0 (l0.length : Int) x25_2 true ((rd_T188 l0 x25_2).f0) ((rd_T188 l0 x25_2).f1) ((rd_T188 l0 x25_2).f2)) = some (r1, r2) := by rw [if_pos rfl] at H; exact H
       clear H
       have H := H1
       clear H1
       have H' := Aside0.mk H
       clear H
       go_wp2
       repeat (go_quiet (fail); try go_wp2)
       go_meet
       case rel => exact ⟨_, (true), tZB, H', ⟨by have := HJ1.out; have := HK2.out; first | omega | exact Nat.le_refl _⟩, ⟨lZY HO_4.out⟩, ⟨lZR HO_5.out⟩, ⟨bkZ BK201.out⟩, ⟨bZ⟩⟩
      replace c21 := Bool.eq_false_iff.mpr c21
      subst c21
      have H1 : ((impl_NameOk.f k2 ((rd_T188 l0 x25_2).f0)).bind fun t203 => (if t203 = true then ((impl_kindOk.f ((rd_T188 l0 x25_2).f2)).bind fun t204 => (impl_depths.j2 k2 l0 x4_2 x5_2 x25_2 l0 (l0.length : Int) x25_2 (!t204) ((rd_T188 l0 x25_2).f0) ((rd_T188 l0 x25_2).f1) ((rd_T188 l0 x25_2).f2))) else (impl_depths.j2 k2 l0 x4_2 x5_2 x25_2 l0 (l0.length : Int) x25_2 true ((rd_T188 l0 x25_2).f0) ((rd_T188 l0 x25_2).f1) ((rd_T188 l0 x25_2).f2)))) = some (r1, r2) := by rw [if_neg (show ¬ (false = true) by decide)] at H; exact H
      clear H
      have H := H1
      clear H1
      replace H := Option.bind_eq_some_iff.mp H
      obtain ⟨t203, A220, H⟩ := H
      replace H : (if t203 = true then ((impl_kindOk.f ((rd_T188 l0 x25_2).f2)).bind fun t204 => (impl_depths.j2 k2 l0 x4_2 x5_2 x25_2 l0 (l0.length : Int) x25_2 (!t204) ((rd_T188 l0 x25_2).f0) ((rd_T188 l0 x25_2).f1) ((rd_T188 l0 x25_2).f2))) else (impl_depths.j2 k2 l0 x4_2 x5_2 x25_2 l0 (l0.length : Int) x25_2 true ((rd_T188 l0 x25_2).f0) ((rd_T188 l0 x25_2).f1) ((rd_T188 l0 x25_2).f2))) = some (r1, r2) := H
      have A22 := Aside0.mk A220
      clear A220
      by_cases c23 : t203 = true
      rotate_left
      ·replace c23 := Bool.eq_false_iff.mpr c23
       subst c23
       have H1 : (impl_depths.j2 k2 l0 x4_2 x5_2 x25_2 l0 (l0.length : Int) x25_2 true ((rd_T188 l0 x25_2).f0) ((rd_T188 l0 x25_2).f1) ((rd_T188 l0 x25_2).f2)) = some (r1, r2) := by rw [if_neg (show ¬ (false = true) by decide)] at H; exact H
       clear H
       have H := H1
       clear H1
       have H' := Aside0.mk H
       clear H
       have hcz26_0 : w18.cell? ⟨gb201, 0, none⟩ = some (.string ((rd_T188 l0 x25_2).f0)) := (blk_cell BK201.out 0).trans rfl
       have hcz26_1 : w18.cell? ⟨gb201, 1, none⟩ = some (.int .i64 ((rd_T188 l0 x25_2).f1)) := (blk_cell BK201.out 1).trans rfl
       have hcz26_2 : w18.cell? ⟨gb201, 2, none⟩ = some (.int .i64 ((rd_T188 l0 x25_2).f2)) := (blk_cell BK201.out 2).trans rfl
       have hfz26_0 := blk_frozen BK201.out 0
       have hfz26_1 := blk_frozen BK201.out 1
       have hfz26_2 := blk_frozen BK201.out 2
       go_wp2_with (first | (go_at_call 119; (with_reducible refine (impl_NameOk.calls k2 ((rd_T188 l0 x25_2).f0) false _ A22.out).mono ?_); rintro e w' ⟨rfl, ⟨nd, rfl⟩⟩; (try first | exact ⟨rfl, _, World.drewN_drewN _ _ _⟩ | exact ⟨rfl, _, Eq.trans (World.drewN_drewN _ _ _) (congrArg (World.drewN _) (Nat.add_assoc _ _ _))⟩)))
       repeat (go_quiet (first | (go_at_call 119; (with_reducible refine (impl_NameOk.calls k2 ((rd_T188 l0 x25_2).f0) false _ A22.out).mono ?_); rintro e w' ⟨rfl, ⟨nd, rfl⟩⟩; (try first | exact ⟨rfl, _, World.drewN_drewN _ _ _⟩ | exact ⟨rfl, _, Eq.trans (World.drewN_drewN _ _ _) (congrArg (World.drewN _) (Nat.add_assoc _ _ _))⟩))); try go_wp2_with (first | (go_at_call 119; (with_reducible refine (impl_NameOk.calls k2 ((rd_T188 l0 x25_2).f0) false _ A22.out).mono ?_); rintro e w' ⟨rfl, ⟨nd, rfl⟩⟩; (try first | exact ⟨rfl, _, World.drewN_drewN _ _ _⟩ | exact ⟨rfl, _, Eq.trans (World.drewN_drewN _ _ _) (congrArg (World.drewN _) (Nat.add_assoc _ _ _))⟩))))
       go_meet
       case rel => exact ⟨_, (true), tZB, H', ⟨by have := HJ1.out; have := HK2.out; first | omega | exact Nat.le_refl _⟩, ⟨lZY HO_4.out⟩, ⟨lZR HO_5.out⟩, ⟨bkZ BK201.out⟩, ⟨bZ⟩⟩
      subst c23
      have H1 : ((impl_kindOk.f ((rd_T188 l0 x25_2).f2)).bind fun t204 => (impl_depths.j2 k2 l0 x4_2 x5_2 x25_2 l0 (l0.length : Int) x25_2 (!t204) ((rd_T188 l0 x25_2).f0) ((rd_T188 l0 x25_2).f1) ((rd_T188 l0 x25_2).f2))) = some (r1, r2) := by rw [if_pos rfl] at H; exact H
      clear H
      have H := H1
      clear H1
      replace H := Option.bind_eq_some_iff.mp H
      obtain ⟨t204, A240, H⟩ := H
      replace H : (impl_depths.j2 k2 l0 x4_2 x5_2 x25_2 l0 (l0.length : Int) x25_2 (!t204) ((rd_T188 l0 x25_2).f0) ((rd_T188 l0 x25_2).f1) ((rd_T188 l0 x25_2).f2)) = some (r1, r2) := H
      have A24 := Aside0.mk A240
      clear A240
      have H' := Aside0.mk H
      clear H
      have hcz25_0 : w18.cell? ⟨gb201, 0, none⟩ = some (.string ((rd_T188 l0 x25_2).f0)) := (blk_cell BK201.out 0).trans rfl
      have hcz25_1 : w18.cell? ⟨gb201, 1, none⟩ = some (.int .i64 ((rd_T188 l0 x25_2).f1)) := (blk_cell BK201.out 1).trans rfl
      have hcz25_2 : w18.cell? ⟨gb201, 2, none⟩ = some (.int .i64 ((rd_T188 l0 x25_2).f2)) := (blk_cell BK201.out 2).trans rfl
      have hfz25_0 := blk_frozen BK201.out 0
      have hfz25_1 := blk_frozen BK201.out 1
      have hfz25_2 := blk_frozen BK201.out 2
      go_wp2_with (first | (go_at_call 119; (with_reducible refine (impl_NameOk.calls k2 ((rd_T188 l0 x25_2).f0) true _ A22.out).mono ?_); rintro e w' ⟨rfl, ⟨nd, rfl⟩⟩; (try first | exact ⟨rfl, _, World.drewN_drewN _ _ _⟩ | exact ⟨rfl, _, Eq.trans (World.drewN_drewN _ _ _) (congrArg (World.drewN _) (Nat.add_assoc _ _ _))⟩)) | (go_at_call 212; (with_reducible refine (impl_kindOk.calls ((rd_T188 l0 x25_2).f2) t204 _ A24.out).mono ?_); rintro e w' ⟨rfl, ⟨nd, rfl⟩⟩; (try first | exact ⟨rfl, _, World.drewN_drewN _ _ _⟩ | exact ⟨rfl, _, Eq.trans (World.drewN_drewN _ _ _) (congrArg (World.drewN _) (Nat.add_assoc _ _ _))⟩)))
      repeat (go_quiet (first | (go_at_call 119; (with_reducible refine (impl_NameOk.calls k2 ((rd_T188 l0 x25_2).f0) true _ A22.out).mono ?_); rintro e w' ⟨rfl, ⟨nd, rfl⟩⟩; (try first | exact ⟨rfl, _, World.drewN_drewN _ _ _⟩ | exact ⟨rfl, _, Eq.trans (World.drewN_drewN _ _ _) (congrArg (World.drewN _) (Nat.add_assoc _ _ _))⟩)) | (go_at_call 212; (with_reducible refine (impl_kindOk.calls ((rd_T188 l0 x25_2).f2) t204 _ A24.out).mono ?_); rintro e w' ⟨rfl, ⟨nd, rfl⟩⟩; (try first | exact ⟨rfl, _, World.drewN_drewN _ _ _⟩ | exact ⟨rfl, _, Eq.trans (World.drewN_drewN _ _ _) (congrArg (World.drewN _) (Nat.add_assoc _ _ _))⟩))); try go_wp2_with (first | (go_at_call 119; (with_reducible refine (impl_NameOk.calls k2 ((rd_T188 l0 x25_2).f0) true _ A22.out).mono ?_); rintro e w' ⟨rfl, ⟨nd, rfl⟩⟩; (try first | exact ⟨rfl, _, World.drewN_drewN _ _ _⟩ | exact ⟨rfl, _, Eq.trans (World.drewN_drewN _ _ _) (congrArg (World.drewN _) (Nat.add_assoc _ _ _))⟩)) | (go_at_call 212; (with_reducible refine (impl_kindOk.calls ((rd_T188 l0 x25_2).f2) t204 _ A24.out).mono ?_); rintro e w' ⟨rfl, ⟨nd, rfl⟩⟩; (try first | exact ⟨rfl, _, World.drewN_drewN _ _ _⟩ | exact ⟨rfl, _, Eq.trans (World.drewN_drewN _ _ _) (congrArg (World.drewN _) (Nat.add_assoc _ _ _))⟩))))
      go_meet
      case rel => exact ⟨_, (!t204), tZB, H', ⟨by have := HJ1.out; have := HK2.out; first | omega | exact Nat.le_refl _⟩, ⟨lZY HO_4.out⟩, ⟨lZR HO_5.out⟩, ⟨bkZ BK201.out⟩, ⟨bZ⟩⟩
     case rest =>
      clear HC15
      try clear c1
      try clear c2
      try clear p2
      try clear q2
      try clear hx2
      try clear hcv2
      try clear c3
      try clear c3b0
      try clear c3b1
      try clear c4
      try clear c5
      try clear c5b0
      try clear c5b1
      try clear c6
      try clear c6b0
      try clear c6b1
      try clear c11
      try clear c11b0
      try clear c12
      try clear c12b0
      try clear c13
      try clear c13b0
      try clear c14
      try clear c14b0
      try clear c14b1
      try clear c14b2
      try clear c19
      try clear p20
      try clear q20
      try clear hx20
      try clear hcv20
      try clear c21
      try clear c23
      try clear hcz17_0
      try clear hcz17_1
      try clear hcz17_2
      try clear hcz19_0
      try clear hcz19_1
      try clear hcz19_2
      try clear hcz25_0
      try clear hcz25_1
      try clear hcz25_2
      try clear hcz26_0
      try clear hcz26_1
      try clear hcz26_2
      try clear hfz17_0
      try clear hfz17_1
      try clear hfz17_2
      try clear hfz19_0
      try clear hfz19_1
      try clear hfz19_2
      try clear hfz25_0
      try clear hfz25_1
      try clear hfz25_2
      try clear hfz26_0
      try clear hfz26_1
      try clear hfz26_2
      try clear hx200_0
      try clear hx200_1
      try clear hx200_2
      try clear p2
      try clear p200
      try clear q200
      obtain ⟨kq, x49_14, rfl, HA, HJ14, HO_4, HO_5, BK201, HB⟩ := hcut
      cases kq with
      | zero => exact absurd HA.out (by simp [impl_depths.j2])
      | succ kj14 =>
       have H := HA.out
       clear HA
       simp only [impl_depths.j2] at H
       by_cases c27 : x49_14 = true
       ·subst c27
        have H1 : (some (([] : List Int), false)) = some (r1, r2) := by rw [if_pos rfl] at H; exact H
        clear H
        have H := H1
        clear H1
        simp only [Option.some.injEq, Prod.mk.injEq] at H
        obtain ⟨rfl, rfl⟩ := H
        go_wp2
        repeat (go_quiet (fail); try go_wp2)
        go_ret2
        exact ⟨_, tZC, by first | exact Kd.R_nil _ _ _ _ _ | exact Kd.N_nil _ _ _ _ _ | exact Kd.V_nil _ _ _ _ _ | exact Kd.Q_nil _ _ _ _ _ | exact Kd.S_nil _ _ _ _ _, bZ⟩
       replace c27 := Bool.eq_false_iff.mpr c27
       subst c27
       have H1 : (if ((rd_T188 l0 x25_2).f0).size ≤ 9223372036854775807 then (if -9223372036854775808 ≤ x25_2 then (if x25_2 ≤ 9223372036854775807 then (if x4_2.length < 140737488355328 then ((some ((((rd_T188 l0 x25_2).f0), x25_2) :: x4_2 : List ((ByteArray × Int)))).bind fun y205 => (if ((rd_T188 l0 x25_2).f1) = (-1) then (impl_depths.l0 kj14 l0 y205 x5_2 l0 (l0.length : Int) (wrap64 (x25_2 + 1))) else (impl_depths.l1 kj14 l0 y205 x5_2 x25_2 (wrap64 (x25_2 - 1)) l0 (l0.length : Int) x25_2 ((rd_T188 l0 x25_2).f0) ((rd_T188 l0 x25_2).f1) ((rd_T188 l0 x25_2).f2)))) else (none)) else (none)) else (none)) else (none)) = some (r1, r2) := by rw [if_neg (show ¬ (false = true) by decide)] at H; exact H
       clear H
       have H := H1
       clear H1
       by_cases c28 : ((rd_T188 l0 x25_2).f0).size ≤ 9223372036854775807
       rotate_left
       ·rw [if_neg c28] at H
        exact absurd H (by simp)
       rw [if_pos c28] at H
       have c28b0 := eq_true c28
       have c28b1 := decide_eq_true c28
       try have c28b2 := eq_false (Nat.not_lt.2 c28)
       clear c28
       by_cases c29 : -9223372036854775808 ≤ x25_2
       rotate_left
       ·rw [if_neg c29] at H
        exact absurd H (by simp)
       rw [if_pos c29] at H
       have c29b0 := eq_true c29
       have c29b1 := decide_eq_true c29
       clear c29
       by_cases c30 : x25_2 ≤ 9223372036854775807
       rotate_left
       ·rw [if_neg c30] at H
        exact absurd H (by simp)
       rw [if_pos c30] at H
       have c30b0 := eq_true c30
       have c30b1 := decide_eq_true c30
       try have c30b2 := eq_false (Nat.not_lt.2 c30)
       clear c30
       by_cases c31 : x4_2.length < 140737488355328
       rotate_left
       ·rw [if_neg c31] at H
        exact absurd H (by simp)
       rw [if_pos c31] at H
       have LMc31 := Aside0.mk c31
       clear c31
       obtain ⟨y205, hy205⟩ : ∃ y_ : List ((ByteArray × Int)), y_ = ((((rd_T188 l0 x25_2).f0), x25_2) :: x4_2) := ⟨_, rfl⟩
       replace H : (if ((rd_T188 l0 x25_2).f1) = (-1) then (impl_depths.l0 kj14 l0 y205 x5_2 l0 (l0.length : Int) (wrap64 (x25_2 + 1))) else (impl_depths.l1 kj14 l0 y205 x5_2 x25_2 (wrap64 (x25_2 - 1)) l0 (l0.length : Int) x25_2 ((rd_T188 l0 x25_2).f0) ((rd_T188 l0 x25_2).f1) ((rd_T188 l0 x25_2).f2))) = some (r1, r2) := by first | (rw [hy205]; with_reducible exact H) | (have H2_ := (Option.bind_some _ _).symm.trans H; rw [hy205]; with_reducible exact H2_) | (have H2_ := (Option.bind_some _ _).symm.trans H; with_reducible exact H2_) | with_reducible exact H | (rw [hy205]; exact H) | exact H
       have Ny205 := Aside0.mk hy205
       clear hy205
       by_cases c32 : ((rd_T188 l0 x25_2).f1) = (-1)
       ·rw [if_pos c32] at H
        have c32b0 : (((rd_T188 l0 x25_2).f1) == (-1)) = true := beq_iff_eq.mpr c32
        have c32b1 : (((rd_T188 l0 x25_2).f1) != (-1)) = false := bne_eq_false_iff_eq.mpr c32
        clear c32
        have H' := Aside0.mk H
        clear H
        have hcz33_0 : wc.cell? ⟨gb201, 0, none⟩ = some (.string ((rd_T188 l0 x25_2).f0)) := (blk_cell BK201.out 0).trans rfl
        have hcz33_1 : wc.cell? ⟨gb201, 1, none⟩ = some (.int .i64 ((rd_T188 l0 x25_2).f1)) := (blk_cell BK201.out 1).trans rfl
        have hcz33_2 : wc.cell? ⟨gb201, 2, none⟩ = some (.int .i64 ((rd_T188 l0 x25_2).f2)) := (blk_cell BK201.out 2).trans rfl
        have hfz33_0 := blk_frozen BK201.out 0
        have hfz33_1 := blk_frozen BK201.out 1
        have hfz33_2 := blk_frozen BK201.out 2
        go_wp2_with (first | ((with_reducible refine Kd.gate_mupd (t := 158) (p := (.tmp 50)) (x := (.tmp 52)) (y := (.tmp 53)) rfl ?_); refine Kd.Y_put my158 (t := 158) (base := w.heap.size) (ok := (fun _ => True)) rfl rfl (.tmp 50) (.tmp 52) (.tmp 53) rfl rfl v195 x4_2 ((rd_T188 l0 x25_2).f0) x25_2 rfl (by first | rfl | (go_simp; done) | (go_simp; rfl)) (by first | rfl | (go_simp; done) | (go_simp; rfl)) ?aO (show okS _ from ((of_decide_eq_true tZE) : ((rd_T188 l0 x25_2).f0).size ≤ 9223372036854775807)) (show okI _ from ⟨((of_decide_eq_true tZE) : -9223372036854775808 ≤ x25_2), ((of_decide_eq_true tZE) : x25_2 ≤ 9223372036854775807)⟩) LMc31.out ?_; (case aO => exact (lZY HO_4.out)); intro w34 ho hg; rw [← Ny205.out] at ho; replace HO_5 := aZ (Kd.R_turn (e := 158) (lZR HO_5.out) (lZY HO_4.out) hg); replace BK201 := aZ (Kd.blk_turn (e := 158) (bkZ BK201.out) (lZY HO_4.out) hg); replace HB := aZ (Kd.below_turn (e := 158) (lZY HO_4.out) bZ (Nat.le_refl _) hg); have HO206 := aZ (ho); clear HO_4; clear ho hg; have hcz35_0 : w34.cell? ⟨gb201, 0, none⟩ = some (.string ((rd_T188 l0 x25_2).f0)) := (blk_cell BK201.out 0).trans rfl; have hcz35_1 : w34.cell? ⟨gb201, 1, none⟩ = some (.int .i64 ((rd_T188 l0 x25_2).f1)) := (blk_cell BK201.out 1).trans rfl; have hcz35_2 : w34.cell? ⟨gb201, 2, none⟩ = some (.int .i64 ((rd_T188 l0 x25_2).f2)) := (blk_cell BK201.out 2).trans rfl; have hfz35_0 := blk_frozen BK201.out 0; have hfz35_1 := blk_frozen BK201.out 1; have hfz35_2 := blk_frozen BK201.out 2))
        repeat (go_quiet (first | ((with_reducible refine Kd.gate_mupd (t := 158) (p := (.tmp 50)) (x := (.tmp 52)) (y := (.tmp 53)) rfl ?_); refine Kd.Y_put my158 (t := 158) (base := w.heap.size) (ok := (fun _ => True)) rfl rfl (.tmp 50) (.tmp 52) (.tmp 53) rfl rfl v195 x4_2 ((rd_T188 l0 x25_2).f0) x25_2 rfl (by first | rfl | (go_simp; done) | (go_simp; rfl)) (by first | rfl | (go_simp; done) | (go_simp; rfl)) ?aO (show okS _ from ((of_decide_eq_true tZE) : ((rd_T188 l0 x25_2).f0).size ≤ 9223372036854775807)) (show okI _ from ⟨((of_decide_eq_true tZE) : -9223372036854775808 ≤ x25_2), ((of_decide_eq_true tZE) : x25_2 ≤ 9223372036854775807)⟩) LMc31.out ?_; (case aO => exact (lZY HO_4.out)); intro w34 ho hg; rw [← Ny205.out] at ho; replace HO_5 := aZ (Kd.R_turn (e := 158) (lZR HO_5.out) (lZY HO_4.out) hg); replace BK201 := aZ (Kd.blk_turn (e := 158) (bkZ BK201.out) (lZY HO_4.out) hg); replace HB := aZ (Kd.below_turn (e := 158) (lZY HO_4.out) bZ (Nat.le_refl _) hg); have HO206 := aZ (ho); clear HO_4; clear ho hg; have hcz35_0 : w34.cell? ⟨gb201, 0, none⟩ = some (.string ((rd_T188 l0 x25_2).f0)) := (blk_cell BK201.out 0).trans rfl; have hcz35_1 : w34.cell? ⟨gb201, 1, none⟩ = some (.int .i64 ((rd_T188 l0 x25_2).f1)) := (blk_cell BK201.out 1).trans rfl; have hcz35_2 : w34.cell? ⟨gb201, 2, none⟩ = some (.int .i64 ((rd_T188 l0 x25_2).f2)) := (blk_cell BK201.out 2).trans rfl; have hfz35_0 := blk_frozen BK201.out 0; have hfz35_1 := blk_frozen BK201.out 1; have hfz35_2 := blk_frozen BK201.out 2)); try go_wp2_with (first | ((with_reducible refine Kd.gate_mupd (t := 158) (p := (.tmp 50)) (x := (.tmp 52)) (y := (.tmp 53)) rfl ?_); refine Kd.Y_put my158 (t := 158) (base := w.heap.size) (ok := (fun _ => True)) rfl rfl (.tmp 50) (.tmp 52) (.tmp 53) rfl rfl v195 x4_2 ((rd_T188 l0 x25_2).f0) x25_2 rfl (by first | rfl | (go_simp; done) | (go_simp; rfl)) (by first | rfl | (go_simp; done) | (go_simp; rfl)) ?aO (show okS _ from ((of_decide_eq_true tZE) : ((rd_T188 l0 x25_2).f0).size ≤ 9223372036854775807)) (show okI _ from ⟨((of_decide_eq_true tZE) : -9223372036854775808 ≤ x25_2), ((of_decide_eq_true tZE) : x25_2 ≤ 9223372036854775807)⟩) LMc31.out ?_; (case aO => exact (lZY HO_4.out)); intro w34 ho hg; rw [← Ny205.out] at ho; replace HO_5 := aZ (Kd.R_turn (e := 158) (lZR HO_5.out) (lZY HO_4.out) hg); replace BK201 := aZ (Kd.blk_turn (e := 158) (bkZ BK201.out) (lZY HO_4.out) hg); replace HB := aZ (Kd.below_turn (e := 158) (lZY HO_4.out) bZ (Nat.le_refl _) hg); have HO206 := aZ (ho); clear HO_4; clear ho hg; have hcz35_0 : w34.cell? ⟨gb201, 0, none⟩ = some (.string ((rd_T188 l0 x25_2).f0)) := (blk_cell BK201.out 0).trans rfl; have hcz35_1 : w34.cell? ⟨gb201, 1, none⟩ = some (.int .i64 ((rd_T188 l0 x25_2).f1)) := (blk_cell BK201.out 1).trans rfl; have hcz35_2 : w34.cell? ⟨gb201, 2, none⟩ = some (.int .i64 ((rd_T188 l0 x25_2).f2)) := (blk_cell BK201.out 2).trans rfl; have hfz35_0 := blk_frozen BK201.out 0; have hfz35_1 := blk_frozen BK201.out 1; have hfz35_2 := blk_frozen BK201.out 2)))
        go_roundg kj14
        case measure => have := HJ1.out; have := HK2.out; have := HJ14.out; omega
        case rel => exact ⟨(y205), (x5_2), (wrap64 (x25_2 + 1)), tZB, H', ⟨by have := HJ1.out; have := HK2.out; have := HJ14.out; omega⟩, ⟨lZY HO206.out⟩, ⟨lZR HO_5.out⟩, ⟨bZ⟩⟩
       rw [if_neg c32] at H
       have c32b0 : (((rd_T188 l0 x25_2).f1) == (-1)) = false := beq_eq_false_iff_ne.mpr c32
       have c32b1 : (((rd_T188 l0 x25_2).f1) != (-1)) = true := bne_iff_ne.mpr c32
       have H' := Aside0.mk H
       clear H
       have hcz36_0 : wc.cell? ⟨gb201, 0, none⟩ = some (.string ((rd_T188 l0 x25_2).f0)) := (blk_cell BK201.out 0).trans rfl
       have hcz36_1 : wc.cell? ⟨gb201, 1, none⟩ = some (.int .i64 ((rd_T188 l0 x25_2).f1)) := (blk_cell BK201.out 1).trans rfl
       have hcz36_2 : wc.cell? ⟨gb201, 2, none⟩ = some (.int .i64 ((rd_T188 l0 x25_2).f2)) := (blk_cell BK201.out 2).trans rfl
       have hfz36_0 := blk_frozen BK201.out 0
       have hfz36_1 := blk_frozen BK201.out 1
       have hfz36_2 := blk_frozen BK201.out 2
       go_wp2_with (first | ((with_reducible refine Kd.gate_mupd (t := 158) (p := (.tmp 50)) (x := (.tmp 52)) (y := (.tmp 53)) rfl ?_); refine Kd.Y_put my158 (t := 158) (base := w.heap.size) (ok := (fun _ => True)) rfl rfl (.tmp 50) (.tmp 52) (.tmp 53) rfl rfl v195 x4_2 ((rd_T188 l0 x25_2).f0) x25_2 rfl (by first | rfl | (go_simp; done) | (go_simp; rfl)) (by first | rfl | (go_simp; done) | (go_simp; rfl)) ?aO (show okS _ from ((of_decide_eq_true tZE) : ((rd_T188 l0 x25_2).f0).size ≤ 9223372036854775807)) (show okI _ from ⟨((of_decide_eq_true tZE) : -9223372036854775808 ≤ x25_2), ((of_decide_eq_true tZE) : x25_2 ≤ 9223372036854775807)⟩) LMc31.out ?_; (case aO => exact (lZY HO_4.out)); intro w37 ho hg; rw [← Ny205.out] at ho; replace HO_5 := aZ (Kd.R_turn (e := 158) (lZR HO_5.out) (lZY HO_4.out) hg); replace BK201 := aZ (Kd.blk_turn (e := 158) (bkZ BK201.out) (lZY HO_4.out) hg); replace HB := aZ (Kd.below_turn (e := 158) (lZY HO_4.out) bZ (Nat.le_refl _) hg); have HO206 := aZ (ho); clear HO_4; clear ho hg; have hcz38_0 : w37.cell? ⟨gb201, 0, none⟩ = some (.string ((rd_T188 l0 x25_2).f0)) := (blk_cell BK201.out 0).trans rfl; have hcz38_1 : w37.cell? ⟨gb201, 1, none⟩ = some (.int .i64 ((rd_T188 l0 x25_2).f1)) := (blk_cell BK201.out 1).trans rfl; have hcz38_2 : w37.cell? ⟨gb201, 2, none⟩ = some (.int .i64 ((rd_T188 l0 x25_2).f2)) := (blk_cell BK201.out 2).trans rfl; have hfz38_0 := blk_frozen BK201.out 0; have hfz38_1 := blk_frozen BK201.out 1; have hfz38_2 := blk_frozen BK201.out 2))
       repeat (go_quiet (first | ((with_reducible refine Kd.gate_mupd (t := 158) (p := (.tmp 50)) (x := (.tmp 52)) (y := (.tmp 53)) rfl ?_); refine Kd.Y_put my158 (t := 158) (base := w.heap.size) (ok := (fun _ => True)) rfl rfl (.tmp 50) (.tmp 52) (.tmp 53) rfl rfl v195 x4_2 ((rd_T188 l0 x25_2).f0) x25_2 rfl (by first | rfl | (go_simp; done) | (go_simp; rfl)) (by first | rfl | (go_simp; done) | (go_simp; rfl)) ?aO (show okS _ from ((of_decide_eq_true tZE) : ((rd_T188 l0 x25_2).f0).size ≤ 9223372036854775807)) (show okI _ from ⟨((of_decide_eq_true tZE) : -9223372036854775808 ≤ x25_2), ((of_decide_eq_true tZE) : x25_2 ≤ 9223372036854775807)⟩) LMc31.out ?_; (case aO => exact (lZY HO_4.out)); intro w37 ho hg; rw [← Ny205.out] at ho; replace HO_5 := aZ (Kd.R_turn (e := 158) (lZR HO_5.out) (lZY HO_4.out) hg); replace BK201 := aZ (Kd.blk_turn (e := 158) (bkZ BK201.out) (lZY HO_4.out) hg); replace HB := aZ (Kd.below_turn (e := 158) (lZY HO_4.out) bZ (Nat.le_refl _) hg); have HO206 := aZ (ho); clear HO_4; clear ho hg; have hcz38_0 : w37.cell? ⟨gb201, 0, none⟩ = some (.string ((rd_T188 l0 x25_2).f0)) := (blk_cell BK201.out 0).trans rfl; have hcz38_1 : w37.cell? ⟨gb201, 1, none⟩ = some (.int .i64 ((rd_T188 l0 x25_2).f1)) := (blk_cell BK201.out 1).trans rfl; have hcz38_2 : w37.cell? ⟨gb201, 2, none⟩ = some (.int .i64 ((rd_T188 l0 x25_2).f2)) := (blk_cell BK201.out 2).trans rfl; have hfz38_0 := blk_frozen BK201.out 0; have hfz38_1 := blk_frozen BK201.out 1; have hfz38_2 := blk_frozen BK201.out 2)); try go_wp2_with (first | ((with_reducible refine Kd.gate_mupd (t := 158) (p := (.tmp 50)) (x := (.tmp 52)) (y := (.tmp 53)) rfl ?_); refine Kd.Y_put my158 (t := 158) (base := w.heap.size) (ok := (fun _ => True)) rfl rfl (.tmp 50) (.tmp 52) (.tmp 53) rfl rfl v195 x4_2 ((rd_T188 l0 x25_2).f0) x25_2 rfl (by first | rfl | (go_simp; done) | (go_simp; rfl)) (by first | rfl | (go_simp; done) | (go_simp; rfl)) ?aO (show okS _ from ((of_decide_eq_true tZE) : ((rd_T188 l0 x25_2).f0).size ≤ 9223372036854775807)) (show okI _ from ⟨((of_decide_eq_true tZE) : -9223372036854775808 ≤ x25_2), ((of_decide_eq_true tZE) : x25_2 ≤ 9223372036854775807)⟩) LMc31.out ?_; (case aO => exact (lZY HO_4.out)); intro w37 ho hg; rw [← Ny205.out] at ho; replace HO_5 := aZ (Kd.R_turn (e := 158) (lZR HO_5.out) (lZY HO_4.out) hg); replace BK201 := aZ (Kd.blk_turn (e := 158) (bkZ BK201.out) (lZY HO_4.out) hg); replace HB := aZ (Kd.below_turn (e := 158) (lZY HO_4.out) bZ (Nat.le_refl _) hg); have HO206 := aZ (ho); clear HO_4; clear ho hg; have hcz38_0 : w37.cell? ⟨gb201, 0, none⟩ = some (.string ((rd_T188 l0 x25_2).f0)) := (blk_cell BK201.out 0).trans rfl; have hcz38_1 : w37.cell? ⟨gb201, 1, none⟩ = some (.int .i64 ((rd_T188 l0 x25_2).f1)) := (blk_cell BK201.out 1).trans rfl; have hcz38_2 : w37.cell? ⟨gb201, 2, none⟩ = some (.int .i64 ((rd_T188 l0 x25_2).f2)) := (blk_cell BK201.out 2).trans rfl; have hfz38_0 := blk_frozen BK201.out 0; have hfz38_1 := blk_frozen BK201.out 1; have hfz38_2 := blk_frozen BK201.out 2)))
       go_loopg [10] kj14 (fun kq v10 w' => ∃ (x10_4 : Int), v10 = .int .i64 x10_4 ∧ Aside0 (impl_depths.l1 kq l0 y205 x5_2 x25_2 x10_4 l0 (l0.length : Int) x25_2 ((rd_T188 l0 x25_2).f0) ((rd_T188 l0 x25_2).f1) ((rd_T188 l0 x25_2).f2) = some (r1, r2)) ∧ Aside0 (kq ≤ kj14) ∧ Aside0 (Kd.Y my158 158 w' w.heap.size (fun _ => True) v195 y205) ∧ Aside0 (Kd.R (Kd.int .i64) 3 w' w.heap.size (fun _ => True) v198 x5_2) ∧ Aside0 (w'.heap[gb201]? = some (.cells #[.string ((rd_T188 l0 x25_2).f0), .int .i64 ((rd_T188 l0 x25_2).f1), .int .i64 ((rd_T188 l0 x25_2).f2)] 188 (0, 0))) ∧ Aside0 (Below w.heap.size w w'))
       case atStart => exact ⟨(wrap64 (x25_2 - 1)), tZB, H', ⟨Nat.le_refl _⟩, ⟨lZY HO206.out⟩, ⟨lZR HO_5.out⟩, ⟨bkZ BK201.out⟩, ⟨bZ⟩⟩
       case round =>
        clear H'
        try clear c1
        try clear c2
        try clear p2
        try clear q2
        try clear hx2
        try clear hcv2
        try clear c3
        try clear c3b0
        try clear c3b1
        try clear c4
        try clear c5
        try clear c5b0
        try clear c5b1
        try clear c6
        try clear c6b0
        try clear c6b1
        try clear p6
        try clear c11
        try clear c11b0
        try clear c12
        try clear c12b0
        try clear c13
        try clear c13b0
        try clear c14
        try clear c14b0
        try clear c14b1
        try clear c14b2
        try clear c19
        try clear p20
        try clear q20
        try clear hx20
        try clear hcv20
        try clear c21
        try clear c23
        try clear c27
        try clear c28
        try clear c28b0
        try clear c28b1
        try clear c28b2
        try clear c29
        try clear c29b0
        try clear c29b1
        try clear c30
        try clear c30b0
        try clear c30b1
        try clear c30b2
        try clear c31
        try clear c32
        try clear c32b0
        try clear c32b1
        try clear hcz17_0
        try clear hcz17_1
        try clear hcz17_2
        try clear hcz19_0
        try clear hcz19_1
        try clear hcz19_2
        try clear hcz25_0
        try clear hcz25_1
        try clear hcz25_2
        try clear hcz26_0
        try clear hcz26_1
        try clear hcz26_2
        try clear hcz33_0
        try clear hcz33_1
        try clear hcz33_2
        try clear hcz35_0
        try clear hcz35_1
        try clear hcz35_2
        try clear hcz36_0
        try clear hcz36_1
        try clear hcz36_2
        try clear hcz38_0
        try clear hcz38_1
        try clear hcz38_2
        try clear hfz17_0
        try clear hfz17_1
        try clear hfz17_2
        try clear hfz19_0
        try clear hfz19_1
        try clear hfz19_2
        try clear hfz25_0
        try clear hfz25_1
        try clear hfz25_2
        try clear hfz26_0
        try clear hfz26_1
        try clear hfz26_2
        try clear hfz33_0
        try clear hfz33_1
        try clear hfz33_2
        try clear hfz35_0
        try clear hfz35_1
        try clear hfz35_2
        try clear hfz36_0
        try clear hfz36_1
        try clear hfz36_2
        try clear hfz38_0
        try clear hfz38_1
        try clear hfz38_2
        try clear hx200_0
        try clear hx200_1
        try clear hx200_2
        try clear p2
        try clear p20
        try clear p200
        try clear q2
        try clear q20
        try clear q200
        obtain ⟨x10_4, rfl, HA, HK4, HO_4, HO_5, BK201, HB⟩ := hrel
        cases gk with
        | zero => exact absurd HA.out (by simp [impl_depths.l1])
        | succ k4 =>
         have H := HA.out
         clear HA
         simp only [impl_depths.l1] at H
         by_cases c39 : x10_4 ≥ 0
         rotate_left
         ·rw [if_neg c39] at H
          have c39b0 : decide (0 ≤ x10_4) = false := decide_eq_false c39
          clear c39
          by_cases c61 : x10_4 < 0
          rotate_left
          ·rw [if_neg c61] at H
           have c61b0 := decide_eq_false c61
           clear c61
           by_cases c62 : 0 ≤ x10_4
           ·rw [if_pos c62] at H
            exact absurd H (by simp)
           rw [if_neg c62] at H
           exact absurd H (by simp)
          rw [if_pos c61] at H
          have c61b0 := decide_eq_true c61
          clear c61
          simp only [Option.some.injEq, Prod.mk.injEq] at H
          obtain ⟨rfl, rfl⟩ := H
          go_wp2
          repeat (go_quiet (fail); try go_wp2)
          go_ret2
          exact ⟨_, tZC, by first | exact Kd.R_nil _ _ _ _ _ | exact Kd.N_nil _ _ _ _ _ | exact Kd.V_nil _ _ _ _ _ | exact Kd.Q_nil _ _ _ _ _ | exact Kd.S_nil _ _ _ _ _, bZ⟩
         rw [if_pos c39] at H
         have c39b0 : decide (0 ≤ x10_4) = true := decide_eq_true c39
         clear c39
         by_cases c40 : x10_4 = ((rd_T188 l0 x25_2).f1)
         rotate_left
         ·rw [if_neg c40] at H
          have c40b0 : (x10_4 == ((rd_T188 l0 x25_2).f1)) = false := beq_eq_false_iff_ne.mpr c40
          have c40b1 : (x10_4 != ((rd_T188 l0 x25_2).f1)) = true := bne_iff_ne.mpr c40
          by_cases c58 : 0 ≤ x10_4
          rotate_left
          ·rw [if_neg c58] at H
           exact absurd H (by simp)
          rw [if_pos c58] at H
          have c58b0 := decide_eq_true c58
          clear c58
          by_cases c59 : x10_4 < (l0.length : Int)
          rotate_left
          ·rw [if_neg c59] at H
           exact absurd H (by simp)
          rw [if_pos c59] at H
          have c59b0 := decide_eq_true c59
          clear c59
          have H' := Aside0.mk H
          clear H
          have hcz60_0 : wr.cell? ⟨gb201, 0, none⟩ = some (.string ((rd_T188 l0 x25_2).f0)) := (blk_cell BK201.out 0).trans rfl
          have hcz60_1 : wr.cell? ⟨gb201, 1, none⟩ = some (.int .i64 ((rd_T188 l0 x25_2).f1)) := (blk_cell BK201.out 1).trans rfl
          have hcz60_2 : wr.cell? ⟨gb201, 2, none⟩ = some (.int .i64 ((rd_T188 l0 x25_2).f2)) := (blk_cell BK201.out 2).trans rfl
          have hfz60_0 := blk_frozen BK201.out 0
          have hfz60_1 := blk_frozen BK201.out 1
          have hfz60_2 := blk_frozen BK201.out 2
          have p211 : 0 ≤ (x10_4 : Int) := of_decide_eq_true tZE
          have q211 : x10_4 < (l0.length : Int) := of_decide_eq_true tZE
          obtain ⟨ad211, e211, hx211_0, hx211_1, hx211_2⟩ := at_T188 HR0.out x10_4 p211 q211
          obtain rfl : ad200 = ad211 := (by injection e211)
          replace hx211_0 := cZ HB hx211_0
          replace hx211_1 := cZ HB hx211_1
          replace hx211_2 := cZ HB hx211_2
          replace p211 := eq_true p211
          replace q211 := eq_true q211
          go_wp2
          repeat (go_quiet (fail); try go_wp2)
          go_roundg k4
          case measure => have := HJ1.out; have := HK2.out; have := HJ14.out; have := HK4.out; omega
          case rel => exact ⟨((rd_T188 l0 x10_4).f1), tZB, H', ⟨by have := HJ1.out; have := HK2.out; have := HJ14.out; have := HK4.out; omega⟩, ⟨lZY HO_4.out⟩, ⟨lZR HO_5.out⟩, ⟨bkZ BK201.out⟩, ⟨bZ⟩⟩
         rw [if_pos c40] at H
         have c40b0 : (x10_4 == ((rd_T188 l0 x25_2).f1)) = true := beq_iff_eq.mpr c40
         have c40b1 : (x10_4 != ((rd_T188 l0 x25_2).f1)) = false := bne_eq_false_iff_eq.mpr c40
         clear c40
         by_cases c41 : x10_4 < 0
         ·rw [if_pos c41] at H
          have c41b0 := decide_eq_true c41
          clear c41
          simp only [Option.some.injEq, Prod.mk.injEq] at H
          obtain ⟨rfl, rfl⟩ := H
          have hcz42_0 : wr.cell? ⟨gb201, 0, none⟩ = some (.string ((rd_T188 l0 x25_2).f0)) := (blk_cell BK201.out 0).trans rfl
          have hcz42_1 : wr.cell? ⟨gb201, 1, none⟩ = some (.int .i64 ((rd_T188 l0 x25_2).f1)) := (blk_cell BK201.out 1).trans rfl
          have hcz42_2 : wr.cell? ⟨gb201, 2, none⟩ = some (.int .i64 ((rd_T188 l0 x25_2).f2)) := (blk_cell BK201.out 2).trans rfl
          have hfz42_0 := blk_frozen BK201.out 0
          have hfz42_1 := blk_frozen BK201.out 1
          have hfz42_2 := blk_frozen BK201.out 2
          go_wp2
          repeat (go_quiet (fail); try go_wp2)
          go_ret2
          exact ⟨_, tZC, by first | exact Kd.R_nil _ _ _ _ _ | exact Kd.N_nil _ _ _ _ _ | exact Kd.V_nil _ _ _ _ _ | exact Kd.Q_nil _ _ _ _ _ | exact Kd.S_nil _ _ _ _ _, bZ⟩
         rw [if_neg c41] at H
         have c41b0 := decide_eq_false c41
         clear c41
         by_cases c43 : 0 ≤ x10_4
         rotate_left
         ·rw [if_neg c43] at H
          exact absurd H (by simp)
         rw [if_pos c43] at H
         have c43b0 := decide_eq_true c43
         clear c43
         by_cases c44 : x10_4 < (l0.length : Int)
         rotate_left
         ·rw [if_neg c44] at H
          exact absurd H (by simp)
         rw [if_pos c44] at H
         have c44b0 := decide_eq_true c44
         clear c44
         by_cases c45 : ((rd_T188 l0 x10_4).f2) = ((rd_T188 l0 x25_2).f2)
         rotate_left
         ·rw [if_neg c45] at H
          have c45b0 : (((rd_T188 l0 x10_4).f2) == ((rd_T188 l0 x25_2).f2)) = false := beq_eq_false_iff_ne.mpr c45
          have c45b1 : (((rd_T188 l0 x10_4).f2) != ((rd_T188 l0 x25_2).f2)) = true := bne_iff_ne.mpr c45
          simp only [Option.some.injEq, Prod.mk.injEq] at H
          obtain ⟨rfl, rfl⟩ := H
          have hcz57_0 : wr.cell? ⟨gb201, 0, none⟩ = some (.string ((rd_T188 l0 x25_2).f0)) := (blk_cell BK201.out 0).trans rfl
          have hcz57_1 : wr.cell? ⟨gb201, 1, none⟩ = some (.int .i64 ((rd_T188 l0 x25_2).f1)) := (blk_cell BK201.out 1).trans rfl
          have hcz57_2 : wr.cell? ⟨gb201, 2, none⟩ = some (.int .i64 ((rd_T188 l0 x25_2).f2)) := (blk_cell BK201.out 2).trans rfl
          have hfz57_0 := blk_frozen BK201.out 0
          have hfz57_1 := blk_frozen BK201.out 1
          have hfz57_2 := blk_frozen BK201.out 2
          have p207 : 0 ≤ (x10_4 : Int) := of_decide_eq_true tZE
          have q207 : x10_4 < (l0.length : Int) := of_decide_eq_true tZE
          obtain ⟨ad207, e207, hx207_0, hx207_1, hx207_2⟩ := at_T188 HR0.out x10_4 p207 q207
          obtain rfl : ad200 = ad207 := (by injection e207)
          replace hx207_0 := cZ HB hx207_0
          replace hx207_1 := cZ HB hx207_1
          replace hx207_2 := cZ HB hx207_2
          replace p207 := eq_true p207
          replace q207 := eq_true q207
          go_wp2
          repeat (go_quiet (fail); try go_wp2)
          go_ret2
          exact ⟨_, tZC, by first | exact Kd.R_nil _ _ _ _ _ | exact Kd.N_nil _ _ _ _ _ | exact Kd.V_nil _ _ _ _ _ | exact Kd.Q_nil _ _ _ _ _ | exact Kd.S_nil _ _ _ _ _, bZ⟩
         rw [if_pos c45] at H
         have c45b0 : (((rd_T188 l0 x10_4).f2) == ((rd_T188 l0 x25_2).f2)) = true := beq_iff_eq.mpr c45
         have c45b1 : (((rd_T188 l0 x10_4).f2) != ((rd_T188 l0 x25_2).f2)) = false := bne_eq_false_iff_eq.mpr c45
         clear c45
         by_cases c46 : x10_4 < (x5_2.length : Int)
         rotate_left
         ·rw [if_neg c46] at H
          exact absurd H (by simp)
         rw [if_pos c46] at H
         have c46b0 := decide_eq_true c46
         clear c46
         by_cases c47 : (rd x5_2 x10_4) ≥ 8
         ·rw [if_pos c47] at H
          have c47b0 : decide (8 ≤ (rd x5_2 x10_4)) = true := decide_eq_true c47
          clear c47
          simp only [Option.some.injEq, Prod.mk.injEq] at H
          obtain ⟨rfl, rfl⟩ := H
          have hcz48_0 : wr.cell? ⟨gb201, 0, none⟩ = some (.string ((rd_T188 l0 x25_2).f0)) := (blk_cell BK201.out 0).trans rfl
          have hcz48_1 : wr.cell? ⟨gb201, 1, none⟩ = some (.int .i64 ((rd_T188 l0 x25_2).f1)) := (blk_cell BK201.out 1).trans rfl
          have hcz48_2 : wr.cell? ⟨gb201, 2, none⟩ = some (.int .i64 ((rd_T188 l0 x25_2).f2)) := (blk_cell BK201.out 2).trans rfl
          have hfz48_0 := blk_frozen BK201.out 0
          have hfz48_1 := blk_frozen BK201.out 1
          have hfz48_2 := blk_frozen BK201.out 2
          have p207 : 0 ≤ (x10_4 : Int) := of_decide_eq_true tZE
          have q207 : x10_4 < (l0.length : Int) := of_decide_eq_true tZE
          obtain ⟨ad207, e207, hx207_0, hx207_1, hx207_2⟩ := at_T188 HR0.out x10_4 p207 q207
          obtain rfl : ad200 = ad207 := (by injection e207)
          replace hx207_0 := cZ HB hx207_0
          replace hx207_1 := cZ HB hx207_1
          replace hx207_2 := cZ HB hx207_2
          replace p207 := eq_true p207
          replace q207 := eq_true q207
          obtain ⟨Ao49, co49, eo49⟩ := Kd.R_slice HO_5.out
          subst eo49
          have p208 : 0 ≤ (x10_4 : Int) := of_decide_eq_true tZE
          have q208 : x10_4 < (x5_2.length : Int) := of_decide_eq_true tZE
          obtain ⟨ad208, e208, hx208_0⟩ := Kd.at_int (Kd.R_reads' HO_5.out).2.2 x10_4 p208 q208
          cases e208
          replace p208 := eq_true p208
          replace q208 := eq_true q208
          go_wp2
          repeat (go_quiet (fail); try go_wp2)
          go_ret2
          exact ⟨_, tZC, by first | exact Kd.R_nil _ _ _ _ _ | exact Kd.N_nil _ _ _ _ _ | exact Kd.V_nil _ _ _ _ _ | exact Kd.Q_nil _ _ _ _ _ | exact Kd.S_nil _ _ _ _ _, bZ⟩
         rw [if_neg c47] at H
         have c47b0 : decide (8 ≤ (rd x5_2 x10_4)) = false := decide_eq_false c47
         clear c47
         by_cases c50 : 0 ≤ x25_2
         rotate_left
         ·rw [if_neg c50] at H
          exact absurd H (by simp)
         rw [if_pos c50] at H
         have c50b0 := decide_eq_true c50
         clear c50
         by_cases c51 : x25_2 < (x5_2.length : Int)
         rotate_left
         ·rw [if_neg c51] at H
          exact absurd H (by simp)
         rw [if_pos c51] at H
         have c51b0 := decide_eq_true c51
         clear c51
         obtain ⟨y210, hy210⟩ : ∃ y_ : List Int, y_ = (x5_2.set (x25_2 : Int).toNat (wrap64 ((rd x5_2 x10_4) + 1))) := ⟨_, rfl⟩
         replace H : (impl_depths.l0 k4 l0 y205 y210 l0 (l0.length : Int) (wrap64 (x25_2 + 1))) = some (r1, r2) := by first | (rw [hy210]; with_reducible exact H) | (have H2_ := (Option.bind_some _ _).symm.trans H; rw [hy210]; with_reducible exact H2_) | (have H2_ := (Option.bind_some _ _).symm.trans H; with_reducible exact H2_) | with_reducible exact H | (rw [hy210]; exact H) | exact H
         have Ny210 := Aside0.mk hy210
         clear hy210
         have H' := Aside0.mk H
         clear H
         have hcz53_0 : wr.cell? ⟨gb201, 0, none⟩ = some (.string ((rd_T188 l0 x25_2).f0)) := (blk_cell BK201.out 0).trans rfl
         have hcz53_1 : wr.cell? ⟨gb201, 1, none⟩ = some (.int .i64 ((rd_T188 l0 x25_2).f1)) := (blk_cell BK201.out 1).trans rfl
         have hcz53_2 : wr.cell? ⟨gb201, 2, none⟩ = some (.int .i64 ((rd_T188 l0 x25_2).f2)) := (blk_cell BK201.out 2).trans rfl
         have hfz53_0 := blk_frozen BK201.out 0
         have hfz53_1 := blk_frozen BK201.out 1
         have hfz53_2 := blk_frozen BK201.out 2
         have p207 : 0 ≤ (x10_4 : Int) := of_decide_eq_true tZE
         have q207 : x10_4 < (l0.length : Int) := of_decide_eq_true tZE
         obtain ⟨ad207, e207, hx207_0, hx207_1, hx207_2⟩ := at_T188 HR0.out x10_4 p207 q207
         obtain rfl : ad200 = ad207 := (by injection e207)
         replace hx207_0 := cZ HB hx207_0
         replace hx207_1 := cZ HB hx207_1
         replace hx207_2 := cZ HB hx207_2
         replace p207 := eq_true p207
         replace q207 := eq_true q207
         obtain ⟨Ao54, co54, eo54⟩ := Kd.R_slice HO_5.out
         subst eo54
         have p208 : 0 ≤ (x10_4 : Int) := of_decide_eq_true tZE
         have q208 : x10_4 < (x5_2.length : Int) := of_decide_eq_true tZE
         obtain ⟨ad208, e208, hx208_0⟩ := Kd.at_int (Kd.R_reads' HO_5.out).2.2 x10_4 p208 q208
         cases e208
         replace p208 := eq_true p208
         replace q208 := eq_true q208
         have p209 : 0 ≤ (x10_4 : Int) := of_decide_eq_true tZE
         have q209 : x10_4 < (x5_2.length : Int) := of_decide_eq_true tZE
         obtain ⟨ad209, e209, hx209_0⟩ := Kd.at_int (Kd.R_reads' HO_5.out).2.2 x10_4 p209 q209
         obtain rfl : ad208 = ad209 := (by injection e209)
         replace p209 := eq_true p209
         replace q209 := eq_true q209
         have p52 : 0 ≤ (x25_2 : Int) := of_decide_eq_true tZE
         have q52 : (x25_2 : Int) < ((x5_2.length : Int) : Int) := of_decide_eq_true tZE
         obtain ⟨go52, co52, eo52, gb52, gl52, cl52, HG52⟩ := Kd.R_form HO_5.out (by omega)
         (first | cases eo52 | (injection eo52 with ea_ en_ ec_; (first | subst ea_ | (injection ea_ with ea_; subst ea_)); subst ec_; clear en_))
         have GB52 := Aside0.mk gb52
         have GG52 := Aside0.mk HG52
         clear gb52 gl52 HG52
         (first | simp only [add_plain] at hx208_0 | skip)
         (first | simp only [add_plain] at hx209_0 | skip)
         obtain ⟨hx52_0, hf52_0⟩ := Kd.R_celln 0 HO_5.out (x25_2 : Int) p52 q52
         replace p52 := eq_true p52
         replace q52 := eq_true q52
         have HP55 := Kd.R_putg HO_5.out (x25_2 : Int) (wrap64 ((rd x5_2 x10_4) + 1))
         go_wp2_with (first | ((with_reducible refine gate_store (t := 3) (p := 98) rfl ?_); (try (rw [drewN_self wr]; generalize hq_ : World.drewN wr _ = wr; replace HO_4 := aZ (Kd.Y_at hq_ HO_4.out); replace HO_5 := aZ (Kd.R_at hq_ HO_5.out); replace BK201 := aZ (blk_at hq_ BK201.out); replace HB := aZ (below_at hq_ HB.out); clear hq_; (try (have p52 : 0 ≤ (x25_2 : Int) := of_decide_eq_true tZE)); (try (have q52 : (x25_2 : Int) < ((x5_2.length : Int) : Int) := of_decide_eq_true tZE)); (try (obtain ⟨go52, co52, eo52, gb52, gl52, cl52, HG52⟩ := Kd.R_form HO_5.out (by omega))); (try (first | cases eo52 | (injection eo52 with ea_ en_ ec_; (first | subst ea_ | (injection ea_ with ea_; subst ea_)); subst ec_; clear en_))); (try (have GB52 := Aside0.mk gb52)); (try (have GG52 := Aside0.mk HG52)); (try (clear gb52 gl52 HG52)); (try (first | simp only [add_plain] at hx208_0 | skip)); (try (first | simp only [add_plain] at hx209_0 | skip)); (try (obtain ⟨hx52_0, hf52_0⟩ := Kd.R_celln 0 HO_5.out (x25_2 : Int) p52 q52)); (try (replace p52 := eq_true p52)); (try (replace q52 := eq_true q52)); (try (have HP55 := Kd.R_putg HO_5.out (x25_2 : Int) (wrap64 ((rd x5_2 x10_4) + 1)))))); refine store_event (t := 3) (p := 98) (v := ?vo_w56) (w1 := (wr.setCell ⟨go52, (x25_2 : Int).toNat, none⟩ (.int .i64 (wrap64 ((rd x5_2 x10_4) + 1))))) ?hg ?ho ?hn ?hr ?_; (case ho => rfl); (case hg => rfl); (case hn => rfl); (case hr => first | (go_simp; done) | (go_simp; rfl)); intro w56 hw; have hg : wr.grownBy w56 (some go52) := (by rw [hw]; exact HP55.2); have hp_ : Kd.R (Kd.int .i64) 3 w56 w.heap.size (fun _ => True) (.slice (some ⟨go52, 0, none⟩) x5_2.length co54) y210 := (by rw [hw, Ny210.out]; exact HP55.1); clear HP55; replace HO_4 := aZ (Kd.Y_over' (v := (.slice (some ⟨go52, 0, none⟩) x5_2.length co54)) (lZY HO_4.out) (Kd.R_typed HO_5.out) (by decide) hg); replace BK201 := aZ (blk_grown (bkZ BK201.out) hg (Kd.R_ne HO_5.out BK201.out (by decide))); replace HO_5 := aZ (hp_); replace HB := aZ ((by rw [hw]; exact below_set (HB.out) GB52.out : Below w.heap.size w w56)); clear hg hw hp_))
         repeat (go_quiet (first | ((with_reducible refine gate_store (t := 3) (p := 98) rfl ?_); (try (rw [drewN_self wr]; generalize hq_ : World.drewN wr _ = wr; replace HO_4 := aZ (Kd.Y_at hq_ HO_4.out); replace HO_5 := aZ (Kd.R_at hq_ HO_5.out); replace BK201 := aZ (blk_at hq_ BK201.out); replace HB := aZ (below_at hq_ HB.out); clear hq_; (try (have p52 : 0 ≤ (x25_2 : Int) := of_decide_eq_true tZE)); (try (have q52 : (x25_2 : Int) < ((x5_2.length : Int) : Int) := of_decide_eq_true tZE)); (try (obtain ⟨go52, co52, eo52, gb52, gl52, cl52, HG52⟩ := Kd.R_form HO_5.out (by omega))); (try (first | cases eo52 | (injection eo52 with ea_ en_ ec_; (first | subst ea_ | (injection ea_ with ea_; subst ea_)); subst ec_; clear en_))); (try (have GB52 := Aside0.mk gb52)); (try (have GG52 := Aside0.mk HG52)); (try (clear gb52 gl52 HG52)); (try (first | simp only [add_plain] at hx208_0 | skip)); (try (first | simp only [add_plain] at hx209_0 | skip)); (try (obtain ⟨hx52_0, hf52_0⟩ := Kd.R_celln 0 HO_5.out (x25_2 : Int) p52 q52)); (try (replace p52 := eq_true p52)); (try (replace q52 := eq_true q52)); (try (have HP55 := Kd.R_putg HO_5.out (x25_2 : Int) (wrap64 ((rd x5_2 x10_4) + 1)))))); refine store_event (t := 3) (p := 98) (v := ?vo_w56) (w1 := (wr.setCell ⟨go52, (x25_2 : Int).toNat, none⟩ (.int .i64 (wrap64 ((rd x5_2 x10_4) + 1))))) ?hg ?ho ?hn ?hr ?_; (case ho => rfl); (case hg => rfl); (case hn => rfl); (case hr => first | (go_simp; done) | (go_simp; rfl)); intro w56 hw; have hg : wr.grownBy w56 (some go52) := (by rw [hw]; exact HP55.2); have hp_ : Kd.R (Kd.int .i64) 3 w56 w.heap.size (fun _ => True) (.slice (some ⟨go52, 0, none⟩) x5_2.length co54) y210 := (by rw [hw, Ny210.out]; exact HP55.1); clear HP55; replace HO_4 := aZ (Kd.Y_over' (v := (.slice (some ⟨go52, 0, none⟩) x5_2.length co54)) (lZY HO_4.out) (Kd.R_typed HO_5.out) (by decide) hg); replace BK201 := aZ (blk_grown (bkZ BK201.out) hg (Kd.R_ne HO_5.out BK201.out (by decide))); replace HO_5 := aZ (hp_); replace HB := aZ ((by rw [hw]; exact below_set (HB.out) GB52.out : Below w.heap.size w w56)); clear hg hw hp_)); try go_wp2_with (first | ((with_reducible refine gate_store (t := 3) (p := 98) rfl ?_); (try (rw [drewN_self wr]; generalize hq_ : World.drewN wr _ = wr; replace HO_4 := aZ (Kd.Y_at hq_ HO_4.out); replace HO_5 := aZ (Kd.R_at hq_ HO_5.out); replace BK201 := aZ (blk_at hq_ BK201.out); replace HB := aZ (below_at hq_ HB.out); clear hq_; (try (have p52 : 0 ≤ (x25_2 : Int) := of_decide_eq_true tZE)); (try (have q52 : (x25_2 : Int) < ((x5_2.length : Int) : Int) := of_decide_eq_true tZE)); (try (obtain ⟨go52, co52, eo52, gb52, gl52, cl52, HG52⟩ := Kd.R_form HO_5.out (by omega))); (try (first | cases eo52 | (injection eo52 with ea_ en_ ec_; (first | subst ea_ | (injection ea_ with ea_; subst ea_)); subst ec_; clear en_))); (try (have GB52 := Aside0.mk gb52)); (try (have GG52 := Aside0.mk HG52)); (try (clear gb52 gl52 HG52)); (try (first | simp only [add_plain] at hx208_0 | skip)); (try (first | simp only [add_plain] at hx209_0 | skip)); (try (obtain ⟨hx52_0, hf52_0⟩ := Kd.R_celln 0 HO_5.out (x25_2 : Int) p52 q52)); (try (replace p52 := eq_true p52)); (try (replace q52 := eq_true q52)); (try (have HP55 := Kd.R_putg HO_5.out (x25_2 : Int) (wrap64 ((rd x5_2 x10_4) + 1)))))); refine store_event (t := 3) (p := 98) (v := ?vo_w56) (w1 := (wr.setCell ⟨go52, (x25_2 : Int).toNat, none⟩ (.int .i64 (wrap64 ((rd x5_2 x10_4) + 1))))) ?hg ?ho ?hn ?hr ?_; (case ho => rfl); (case hg => rfl); (case hn => rfl); (case hr => first | (go_simp; done) | (go_simp; rfl)); intro w56 hw; have hg : wr.grownBy w56 (some go52) := (by rw [hw]; exact HP55.2); have hp_ : Kd.R (Kd.int .i64) 3 w56 w.heap.size (fun _ => True) (.slice (some ⟨go52, 0, none⟩) x5_2.length co54) y210 := (by rw [hw, Ny210.out]; exact HP55.1); clear HP55; replace HO_4 := aZ (Kd.Y_over' (v := (.slice (some ⟨go52, 0, none⟩) x5_2.length co54)) (lZY HO_4.out) (Kd.R_typed HO_5.out) (by decide) hg); replace BK201 := aZ (blk_grown (bkZ BK201.out) hg (Kd.R_ne HO_5.out BK201.out (by decide))); replace HO_5 := aZ (hp_); replace HB := aZ ((by rw [hw]; exact below_set (HB.out) GB52.out : Below w.heap.size w w56)); clear hg hw hp_)))
         go_roundg k4
         case measure => have := HJ1.out; have := HK2.out; have := HJ14.out; have := HK4.out; omega
         case rel => exact ⟨(y205), (y210), (wrap64 (x25_2 + 1)), tZB, H', ⟨by have := HJ1.out; have := HK2.out; have := HJ14.out; have := HK4.out; omega⟩, ⟨lZY HO_4.out⟩, ⟨lZR HO_5.out⟩, ⟨bZ⟩⟩
end Go.Proofs.Ytjnmfadnkbflfaa.PFnExactEntryOk
