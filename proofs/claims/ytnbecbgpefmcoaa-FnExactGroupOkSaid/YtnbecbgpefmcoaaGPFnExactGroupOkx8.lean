import Derived.Test.YtnbecbgpefmcoaaGPFnExactGroupOkx0
import Derived.Test.YtnbecbgpefmcoaaGPFnExactGroupOkx7
namespace Go.Proofs.Ytnbecbgpefmcoaa.PFnExactGroupOk
open Go.RowKit Go.Proofs.YtnbecbgpefmcoaaW.PrintWords Go.Proofs.YtnbecbgpefmcoaaW.PrintLast Go.Proofs.YtnbecbgpefmcoaaW.PrintMore Go.Proofs.Ytnbecbgpefmcoaa.MapWords
attribute [local go_sem] max2_int min2_int max_two min_two max_three min_three max_four min_four
set_option linter.unusedVariables false
set_option linter.unusedSimpArgs false
mutual
def impl_depths.j0 : Nat → List (S251) → Bool → Option (List Int × Bool)
  | 0, _, _ => none
  | k + 1, x0, x18 => if x18 = true then (some (([] : List Int), false)) else (if 0 ≤ (x0.length : Int) then (if ((x0.length : Int) : Int).toNat ≤ 35184372088832 then (impl_depths.l0 k x0 (([] : List ((ByteArray × Int)))) (List.replicate ((x0.length : Int) : Int).toNat 0) x0 (x0.length : Int) 0) else (none)) else (none))
def impl_depths.l0 : Nat → List (S251) → List ((ByteArray × Int)) → List Int → List (S251) → Int → Int → Option (List Int × Bool)
  | 0, _, _, _, _, _, _ => none
  | k + 1, x0, x4, x5, x23, x24, x25 => if x25 < x24 then (if 0 ≤ x25 then (if x25 < (x23.length : Int) then (if ((rd_T251 x23 x25).f0).size ≤ 9223372036854775807 then (if (mhas x4 ((rd_T251 x23 x25).f0)) = true then (impl_depths.j2 k x0 x4 x5 x25 x23 x24 x25 true ((rd_T251 x23 x25).f0) ((rd_T251 x23 x25).f1) ((rd_T251 x23 x25).f2)) else ((impl_NameOk.f k ((rd_T251 x23 x25).f0)).bind fun t204 => (if t204 = true then ((impl_kindOk.f ((rd_T251 x23 x25).f2)).bind fun t205 => (impl_depths.j2 k x0 x4 x5 x25 x23 x24 x25 (!t205) ((rd_T251 x23 x25).f0) ((rd_T251 x23 x25).f1) ((rd_T251 x23 x25).f2))) else (impl_depths.j2 k x0 x4 x5 x25 x23 x24 x25 true ((rd_T251 x23 x25).f0) ((rd_T251 x23 x25).f1) ((rd_T251 x23 x25).f2))))) else (none)) else (none)) else (none)) else (some (x5, true))
def impl_depths.j2 : Nat → List (S251) → List ((ByteArray × Int)) → List Int → Int → List (S251) → Int → Int → Bool → ByteArray → Int → Int → Option (List Int × Bool)
  | 0, _, _, _, _, _, _, _, _, _, _, _ => none
  | k + 1, x0, x4, x5, x6, x23, x24, x25, x49, x203000, x203001, x203002 => if x49 = true then (some (([] : List Int), false)) else (if x203000.size ≤ 9223372036854775807 then (if -9223372036854775808 ≤ x6 then (if x6 ≤ 9223372036854775807 then (if x4.length < 140737488355328 then ((some ((x203000, x6) :: x4 : List ((ByteArray × Int)))).bind fun y206 => (if x203001 = (-1) then (impl_depths.l0 k x0 y206 x5 x23 x24 (wrap64 (x25 + 1))) else (impl_depths.l1 k x0 y206 x5 x6 (wrap64 (x6 - 1)) x23 x24 x25 x203000 x203001 x203002))) else (none)) else (none)) else (none)) else (none))
def impl_depths.l1 : Nat → List (S251) → List ((ByteArray × Int)) → List Int → Int → Int → List (S251) → Int → Int → ByteArray → Int → Int → Option (List Int × Bool)
  | 0, _, _, _, _, _, _, _, _, _, _, _ => none
  | k + 1, x0, x4, x5, x6, x10, x23, x24, x25, x203000, x203001, x203002 => if x10 ≥ 0 then (if x10 = x203001 then (if x10 < 0 then (some (([] : List Int), false)) else (if 0 ≤ x10 then (if x10 < (x0.length : Int) then (if ((rd_T251 x0 x10).f2) = x203002 then (if x10 < (x5.length : Int) then (if (rd x5 x10) ≥ 8 then (some (([] : List Int), false)) else (if 0 ≤ x6 then (if x6 < (x5.length : Int) then (impl_depths.l0 k x0 x4 (x5.set (x6 : Int).toNat (wrap64 ((rd x5 x10) + 1))) x23 x24 (wrap64 (x25 + 1))) else (none)) else (none))) else (none)) else (some (([] : List Int), false))) else (none)) else (none))) else (if 0 ≤ x10 then (if x10 < (x0.length : Int) then (impl_depths.l1 k x0 x4 x5 x6 ((rd_T251 x0 x10).f1) x23 x24 x25 x203000 x203001 x203002) else (none)) else (none))) else (if x10 < 0 then (some (([] : List Int), false)) else (if 0 ≤ x10 then (none) else (none)))
end
def impl_depths.f (k : Nat) (l0 : List (S251)) : Option (List Int × Bool) := if (l0.length : Int) < 1 then (impl_depths.j0 k l0 true) else (impl_depths.j0 k l0 (decide ((l0.length : Int) > 120)))
theorem impl_depths.mono_l : ∀ k, (∀ y0 y1, LeO (impl_depths.j0 k y0 y1) (impl_depths.j0 (k + 1) y0 y1)) ∧ (∀ y0 y1 y2 y3 y4 y5, LeO (impl_depths.l0 k y0 y1 y2 y3 y4 y5) (impl_depths.l0 (k + 1) y0 y1 y2 y3 y4 y5)) ∧ (∀ y0 y1 y2 y3 y4 y5 y6 y7 y8 y9 y10, LeO (impl_depths.j2 k y0 y1 y2 y3 y4 y5 y6 y7 y8 y9 y10) (impl_depths.j2 (k + 1) y0 y1 y2 y3 y4 y5 y6 y7 y8 y9 y10)) ∧ (∀ y0 y1 y2 y3 y4 y5 y6 y7 y8 y9 y10, LeO (impl_depths.l1 k y0 y1 y2 y3 y4 y5 y6 y7 y8 y9 y10) (impl_depths.l1 (k + 1) y0 y1 y2 y3 y4 y5 y6 y7 y8 y9 y10))
  | 0 => ⟨fun _ _ r h => by simp [impl_depths.j0] at h, fun _ _ _ _ _ _ r h => by simp [impl_depths.l0] at h, fun _ _ _ _ _ _ _ _ _ _ _ r h => by simp [impl_depths.j2] at h, fun _ _ _ _ _ _ _ _ _ _ _ r h => by simp [impl_depths.l1] at h⟩
  | k + 1 => by
    obtain ⟨ih0, ih1, ih2, ih3⟩ := impl_depths.mono_l k
    refine ⟨?_, ?_, ?_, ?_⟩
    · intro y0 y1
      unfold impl_depths.j0
      repeat' first
      | (with_reducible exact ih0 _ _)
      | (with_reducible exact ih1 _ _ _ _ _ _)
      | (with_reducible exact ih2 _ _ _ _ _ _ _ _ _ _ _)
      | (with_reducible exact ih3 _ _ _ _ _ _ _ _ _ _ _)
      | (with_reducible exact impl_NameOk.mono _ _)
      | (with_reducible exact LeO.refl _)
      | (with_reducible exact LeO.none _)
      | (with_reducible refine LeO.ite ?_ ?_)
      | (with_reducible refine LeO.bind ?_ (fun _ => ?_))
      | exact ih0 _ _
      | exact ih1 _ _ _ _ _ _
      | exact ih2 _ _ _ _ _ _ _ _ _ _ _
      | exact ih3 _ _ _ _ _ _ _ _ _ _ _
      | exact impl_NameOk.mono _ _
      | exact LeO.none _
      | refine LeO.ite ?_ ?_
      | refine LeO.bind ?_ (fun _ => ?_)
    · intro y0 y1 y2 y3 y4 y5
      unfold impl_depths.l0
      repeat' first
      | (with_reducible exact ih0 _ _)
      | (with_reducible exact ih1 _ _ _ _ _ _)
      | (with_reducible exact ih2 _ _ _ _ _ _ _ _ _ _ _)
      | (with_reducible exact ih3 _ _ _ _ _ _ _ _ _ _ _)
      | (with_reducible exact impl_NameOk.mono _ _)
      | (with_reducible exact LeO.refl _)
      | (with_reducible exact LeO.none _)
      | (with_reducible refine LeO.ite ?_ ?_)
      | (with_reducible refine LeO.bind ?_ (fun _ => ?_))
      | exact ih0 _ _
      | exact ih1 _ _ _ _ _ _
      | exact ih2 _ _ _ _ _ _ _ _ _ _ _
      | exact ih3 _ _ _ _ _ _ _ _ _ _ _
      | exact impl_NameOk.mono _ _
      | exact LeO.none _
      | refine LeO.ite ?_ ?_
      | refine LeO.bind ?_ (fun _ => ?_)
    · intro y0 y1 y2 y3 y4 y5 y6 y7 y8 y9 y10
      unfold impl_depths.j2
      repeat' first
      | (with_reducible exact ih0 _ _)
      | (with_reducible exact ih1 _ _ _ _ _ _)
      | (with_reducible exact ih2 _ _ _ _ _ _ _ _ _ _ _)
      | (with_reducible exact ih3 _ _ _ _ _ _ _ _ _ _ _)
      | (with_reducible exact impl_NameOk.mono _ _)
      | (with_reducible exact LeO.refl _)
      | (with_reducible exact LeO.none _)
      | (with_reducible refine LeO.ite ?_ ?_)
      | (with_reducible refine LeO.bind ?_ (fun _ => ?_))
      | exact ih0 _ _
      | exact ih1 _ _ _ _ _ _
      | exact ih2 _ _ _ _ _ _ _ _ _ _ _
      | exact ih3 _ _ _ _ _ _ _ _ _ _ _
      | exact impl_NameOk.mono _ _
      | exact LeO.none _
      | refine LeO.ite ?_ ?_
      | refine LeO.bind ?_ (fun _ => ?_)
    · intro y0 y1 y2 y3 y4 y5 y6 y7 y8 y9 y10
      unfold impl_depths.l1
      repeat' first
      | (with_reducible exact ih0 _ _)
      | (with_reducible exact ih1 _ _ _ _ _ _)
      | (with_reducible exact ih2 _ _ _ _ _ _ _ _ _ _ _)
      | (with_reducible exact ih3 _ _ _ _ _ _ _ _ _ _ _)
      | (with_reducible exact impl_NameOk.mono _ _)
      | (with_reducible exact LeO.refl _)
      | (with_reducible exact LeO.none _)
      | (with_reducible refine LeO.ite ?_ ?_)
      | (with_reducible refine LeO.bind ?_ (fun _ => ?_))
      | exact ih0 _ _
      | exact ih1 _ _ _ _ _ _
      | exact ih2 _ _ _ _ _ _ _ _ _ _ _
      | exact ih3 _ _ _ _ _ _ _ _ _ _ _
      | exact impl_NameOk.mono _ _
      | exact LeO.none _
      | refine LeO.ite ?_ ?_
      | refine LeO.bind ?_ (fun _ => ?_)
theorem impl_depths.mono : ∀ a0 k, LeO (impl_depths.f k a0) (impl_depths.f (k + 1) a0) := by
  intro a0 k
  obtain ⟨ih0, ih1, ih2, ih3⟩ := impl_depths.mono_l k
  unfold impl_depths.f
  repeat' first
      | (with_reducible exact ih0 _ _)
      | (with_reducible exact ih1 _ _ _ _ _ _)
      | (with_reducible exact ih2 _ _ _ _ _ _ _ _ _ _ _)
      | (with_reducible exact ih3 _ _ _ _ _ _ _ _ _ _ _)
      | (with_reducible exact impl_NameOk.mono _ _)
      | (with_reducible exact LeO.refl _)
      | (with_reducible exact LeO.none _)
      | (with_reducible refine LeO.ite ?_ ?_)
      | (with_reducible refine LeO.bind ?_ (fun _ => ?_))
      | exact ih0 _ _
      | exact ih1 _ _ _ _ _ _
      | exact ih2 _ _ _ _ _ _ _ _ _ _ _
      | exact ih3 _ _ _ _ _ _ _ _ _ _ _
      | exact impl_NameOk.mono _ _
      | exact LeO.none _
      | refine LeO.ite ?_ ?_
      | refine LeO.bind ?_ (fun _ => ?_)
set_option maxHeartbeats 8000000 in
set_option maxRecDepth 100000 in
theorem impl_depths.calls (k : Nat) (A0 : Option Addr) (c0 : Nat) (l0 : List (S251)) (r1 : List Int) (r2 : Bool) (w : World) (hr0 : Kd.C k251 w A0 l0.length l0) (hc0 : l0.length ≤ c0) (h : impl_depths.f k l0 = some (r1, r2)) :
    Calls Try.prog 238 #[.slice A0 l0.length c0] w fun e w' => ∃ v0_ : Value, e = .returned (.tuple #[v0_, .bool r2]) ∧ Kd.R (Kd.int .i64) 3 w' w.heap.size (fun _ => True) v0_ r1 ∧ Below w.heap.size w w' := by
  have hu251 := Try.underlying251
  have HR0 := Aside0.mk hr0
  have HC0 := Aside0.mk hc0
  clear hr0 hc0
  have HB := Aside0.mk (Below.refl w.heap.size w)
  have H : (if (l0.length : Int) < 1 then (impl_depths.j0 k l0 true) else (impl_depths.j0 k l0 (decide ((l0.length : Int) > 120)))) = some (r1, r2) := h
  clear h
  have HC2 := Aside0.mk H
  clear H
  go_enter Try.func238, Try.ntmps238
  go_upto_region 1 with (fail)
  repeat (go_quiet (fail); go_upto_region 1 with (fail))
  go_cut [18] (fun v18 wc => ∃ (kq : Nat) (x18_1 : Bool), v18 = .bool x18_1 ∧ Aside0 (impl_depths.j0 kq l0 x18_1 = some (r1, r2)) ∧ Aside0 (kq ≤ k) ∧ Aside0 (Below w.heap.size w wc))
  case first =>
    have H := HC2.out
    clear HC2
    by_cases c3 : (l0.length : Int) < 1
    · rw [if_pos c3] at H
      have c3b0 : decide ((l0.length : Int) < 1) = true := decide_eq_true c3
      have c3b1 : decide (l0.length < 1) = true := decide_eq_true (by omega)
      clear c3
      (first | rw [c3b0] | (simp only [i64_w, i32_w]; rw [c3b0]) | skip)
      have H' := Aside0.mk H
      clear H
      go_wp2
      repeat (go_quiet (fail); try go_wp2)
      go_meet
      case rel => exact ⟨_, (true), (by first | rfl | (simp; done) | (simp [*]; done)), H', ⟨by first | omega | exact Nat.le_refl _⟩, ⟨by repeat (first | (with_reducible first | exact HB.out | apply below_alloc | apply pw_below_drewN | apply below_drew1) | exact HB.out)⟩⟩
    · rw [if_neg c3] at H
      have c3b0 : decide ((l0.length : Int) < 1) = false := decide_eq_false c3
      have c3b1 : decide (l0.length < 1) = false := decide_eq_false (by omega)
      clear c3
      (first | rw [c3b0] | (simp only [i64_w, i32_w]; rw [c3b0]) | skip)
      have H' := Aside0.mk H
      clear H
      go_wp2
      repeat (go_quiet (fail); try go_wp2)
      go_meet
      case rel => exact ⟨_, (decide ((l0.length : Int) > 120)), (by first | rfl | (simp; done) | (simp [*]; done)), H', ⟨by first | omega | exact Nat.le_refl _⟩, ⟨by repeat (first | (with_reducible first | exact HB.out | apply below_alloc | apply pw_below_drewN | apply below_drew1) | exact HB.out)⟩⟩
  case rest =>
    clear HC2
    try clear c2
    try clear p2
    try clear c3
    try clear c3b0
    try clear c3b1
    obtain ⟨kq, x18_1, rfl, HA, HJ1, HB⟩ := hcut
    cases kq with
    | zero => exact absurd HA.out (by simp [impl_depths.j0])
    | succ kj1 =>
      have H := HA.out
      clear HA
      simp only [impl_depths.j0] at H
      by_cases c4 : x18_1 = true
      · subst c4
        have H1 : (some (([] : List Int), false)) = some (r1, r2) := by rw [if_pos rfl] at H; exact H
        clear H
        have H := H1
        clear H1
        simp only [Option.some.injEq, Prod.mk.injEq] at H
        obtain ⟨rfl, rfl⟩ := H
        go_wp2
        repeat (go_quiet (fail); try go_wp2)
        go_ret2
        exact ⟨_, by first | rfl | (simp [errW_none, errW_some] <;> rfl) | (simp [*, errW_none, errW_some] <;> rfl), by first | exact Kd.R_nil _ _ _ _ _ | exact Kd.N_nil _ _ _ _ _ | exact Kd.V_nil _ _ _ _ _ | exact Kd.Q_nil _ _ _ _ _ | exact Kd.S_nil _ _ _ _ _, by repeat (first | (with_reducible first | exact HB.out | apply below_alloc | apply pw_below_drewN | apply below_drew1) | exact HB.out)⟩
      · replace c4 := Bool.eq_false_iff.mpr c4
        subst c4
        have H1 : (if 0 ≤ (l0.length : Int) then (if ((l0.length : Int) : Int).toNat ≤ 35184372088832 then (impl_depths.l0 kj1 l0 (([] : List ((ByteArray × Int)))) (List.replicate ((l0.length : Int) : Int).toNat 0) l0 (l0.length : Int) 0) else (none)) else (none)) = some (r1, r2) := by rw [if_neg (show ¬ (false = true) by decide)] at H; exact H
        clear H
        have H := H1
        clear H1
        obtain ⟨y195, hy195⟩ : ∃ y_ : List ((ByteArray × Int)), y_ = (([] : List ((ByteArray × Int)))) := ⟨_, rfl⟩
        replace H : (if 0 ≤ (l0.length : Int) then (if ((l0.length : Int) : Int).toNat ≤ 35184372088832 then (impl_depths.l0 kj1 l0 y195 (List.replicate ((l0.length : Int) : Int).toNat 0) l0 (l0.length : Int) 0) else (none)) else (none)) = some (r1, r2) := by first | (rw [hy195]; with_reducible exact H) | (have H2_ := (Option.bind_some _ _).symm.trans H; rw [hy195]; with_reducible exact H2_) | (have H2_ := (Option.bind_some _ _).symm.trans H; with_reducible exact H2_) | with_reducible exact H | (rw [hy195]; exact H) | exact H
        have Ny195 := Aside0.mk hy195
        clear hy195
        by_cases c5 : 0 ≤ (l0.length : Int)
        · rw [if_pos c5] at H
          have c5b0 := eq_true c5
          have c5b1 : decide (0 ≤ (l0.length : Int)) = true := decide_eq_true c5
          clear c5
          by_cases c6 : ((l0.length : Int) : Int).toNat ≤ 35184372088832
          · rw [if_pos c6] at H
            have c6b0 := eq_true c6
            have c6b1 : decide (((l0.length : Int) : Int).toNat ≤ 35184372088832) = true := decide_eq_true c6
            clear c6
            obtain ⟨y198, hy198⟩ : ∃ y_ : List Int, y_ = (List.replicate ((l0.length : Int) : Int).toNat 0) := ⟨_, rfl⟩
            replace H : (impl_depths.l0 kj1 l0 y195 y198 l0 (l0.length : Int) 0) = some (r1, r2) := by first | (rw [hy198]; with_reducible exact H) | (have H2_ := (Option.bind_some _ _).symm.trans H; rw [hy198]; with_reducible exact H2_) | (have H2_ := (Option.bind_some _ _).symm.trans H; with_reducible exact H2_) | with_reducible exact H | (rw [hy198]; exact H) | exact H
            have Ny198 := Aside0.mk hy198
            clear hy198
            have H' := Aside0.mk H
            clear H
            go_wp2_with (first | ((with_reducible refine gate_dst (N := 19) rfl ?_); (try (refine gate_guard (by rfl) ?_; dsimp only)); refine Kd.Y_make my348 348 rfl rfl rfl ?_; intro v196 w7 ho8 hb; rw [← Ny195.out] at ho8; have n0_ := Aside0.mk (Kd.Y_lower ho8 (below_size (by repeat (first | (with_reducible first | exact HB.out | apply below_alloc | apply pw_below_drewN | apply below_drew1) | exact HB.out)))); have n1_ := Aside0.mk (below_step (by repeat (first | (with_reducible first | exact HB.out | apply below_alloc | apply pw_below_drewN | apply below_drew1) | exact HB.out)) hb); clear HB; have HO197 := n0_; have HB := n1_; clear n0_ n1_; clear hb ho8) | ((with_reducible refine gate_dst (N := 22) rfl ?_); (try (refine gate_guard (by rfl) ?_; dsimp only)); refine Kd.R_make (Kd.int .i64) _ 3 rfl (N := 22) rfl 35 _ _ rfl (l0.length : Int) rfl rfl Try.underlying35 (.int .i64 0) 8 info3 rfl (by decide) (by omega) 0 (ok := fun _ => True) (okp := fun _ => True) rfl (fun _ hk => hk) trivial (of_decide_eq_true (by first | (with_reducible assumption) | assumption)) (Nat.le_trans (Nat.mul_le_mul_right _ (of_decide_eq_true (by first | (with_reducible assumption) | assumption) : (l0.length : Int).toNat ≤ 35184372088832)) (by omega)) (Below.refl _ _) (Nat.le_refl _) ?_; intro v199 w9 ho10 hb hg_ hnew_; clear hg_ hnew_; (first | rw [← Ny198.out] at ho10 | (simp only [Int.reduceToNat] at ho10; rw [← Ny198.out] at ho10)); have n0_ := Aside0.mk (Kd.Y_below (by (with_reducible repeat (first | apply Kd.Y_alloc | apply Kd.Y_drewN | apply Kd.Y_drew)); exact HO197.out) hb); have n1_ := Aside0.mk (Kd.R_lower ho10 (below_size (by repeat (first | (with_reducible first | exact HB.out | apply below_alloc | apply pw_below_drewN | apply below_drew1) | exact HB.out)))); have n2_ := Aside0.mk (below_step (by repeat (first | (with_reducible first | exact HB.out | apply below_alloc | apply pw_below_drewN | apply below_drew1) | exact HB.out)) hb); clear HO197; clear HB; have HO197 := n0_; have HO200 := n1_; have HB := n2_; clear n0_ n1_ n2_; clear hb ho10))
            repeat (go_quiet (first | ((with_reducible refine gate_dst (N := 19) rfl ?_); (try (refine gate_guard (by rfl) ?_; dsimp only)); refine Kd.Y_make my348 348 rfl rfl rfl ?_; intro v196 w7 ho8 hb; rw [← Ny195.out] at ho8; have n0_ := Aside0.mk (Kd.Y_lower ho8 (below_size (by repeat (first | (with_reducible first | exact HB.out | apply below_alloc | apply pw_below_drewN | apply below_drew1) | exact HB.out)))); have n1_ := Aside0.mk (below_step (by repeat (first | (with_reducible first | exact HB.out | apply below_alloc | apply pw_below_drewN | apply below_drew1) | exact HB.out)) hb); clear HB; have HO197 := n0_; have HB := n1_; clear n0_ n1_; clear hb ho8) | ((with_reducible refine gate_dst (N := 22) rfl ?_); (try (refine gate_guard (by rfl) ?_; dsimp only)); refine Kd.R_make (Kd.int .i64) _ 3 rfl (N := 22) rfl 35 _ _ rfl (l0.length : Int) rfl rfl Try.underlying35 (.int .i64 0) 8 info3 rfl (by decide) (by omega) 0 (ok := fun _ => True) (okp := fun _ => True) rfl (fun _ hk => hk) trivial (of_decide_eq_true (by first | (with_reducible assumption) | assumption)) (Nat.le_trans (Nat.mul_le_mul_right _ (of_decide_eq_true (by first | (with_reducible assumption) | assumption) : (l0.length : Int).toNat ≤ 35184372088832)) (by omega)) (Below.refl _ _) (Nat.le_refl _) ?_; intro v199 w9 ho10 hb hg_ hnew_; clear hg_ hnew_; (first | rw [← Ny198.out] at ho10 | (simp only [Int.reduceToNat] at ho10; rw [← Ny198.out] at ho10)); have n0_ := Aside0.mk (Kd.Y_below (by (with_reducible repeat (first | apply Kd.Y_alloc | apply Kd.Y_drewN | apply Kd.Y_drew)); exact HO197.out) hb); have n1_ := Aside0.mk (Kd.R_lower ho10 (below_size (by repeat (first | (with_reducible first | exact HB.out | apply below_alloc | apply pw_below_drewN | apply below_drew1) | exact HB.out)))); have n2_ := Aside0.mk (below_step (by repeat (first | (with_reducible first | exact HB.out | apply below_alloc | apply pw_below_drewN | apply below_drew1) | exact HB.out)) hb); clear HO197; clear HB; have HO197 := n0_; have HO200 := n1_; have HB := n2_; clear n0_ n1_ n2_; clear hb ho10)); try go_wp2_with (first | ((with_reducible refine gate_dst (N := 19) rfl ?_); (try (refine gate_guard (by rfl) ?_; dsimp only)); refine Kd.Y_make my348 348 rfl rfl rfl ?_; intro v196 w7 ho8 hb; rw [← Ny195.out] at ho8; have n0_ := Aside0.mk (Kd.Y_lower ho8 (below_size (by repeat (first | (with_reducible first | exact HB.out | apply below_alloc | apply pw_below_drewN | apply below_drew1) | exact HB.out)))); have n1_ := Aside0.mk (below_step (by repeat (first | (with_reducible first | exact HB.out | apply below_alloc | apply pw_below_drewN | apply below_drew1) | exact HB.out)) hb); clear HB; have HO197 := n0_; have HB := n1_; clear n0_ n1_; clear hb ho8) | ((with_reducible refine gate_dst (N := 22) rfl ?_); (try (refine gate_guard (by rfl) ?_; dsimp only)); refine Kd.R_make (Kd.int .i64) _ 3 rfl (N := 22) rfl 35 _ _ rfl (l0.length : Int) rfl rfl Try.underlying35 (.int .i64 0) 8 info3 rfl (by decide) (by omega) 0 (ok := fun _ => True) (okp := fun _ => True) rfl (fun _ hk => hk) trivial (of_decide_eq_true (by first | (with_reducible assumption) | assumption)) (Nat.le_trans (Nat.mul_le_mul_right _ (of_decide_eq_true (by first | (with_reducible assumption) | assumption) : (l0.length : Int).toNat ≤ 35184372088832)) (by omega)) (Below.refl _ _) (Nat.le_refl _) ?_; intro v199 w9 ho10 hb hg_ hnew_; clear hg_ hnew_; (first | rw [← Ny198.out] at ho10 | (simp only [Int.reduceToNat] at ho10; rw [← Ny198.out] at ho10)); have n0_ := Aside0.mk (Kd.Y_below (by (with_reducible repeat (first | apply Kd.Y_alloc | apply Kd.Y_drewN | apply Kd.Y_drew)); exact HO197.out) hb); have n1_ := Aside0.mk (Kd.R_lower ho10 (below_size (by repeat (first | (with_reducible first | exact HB.out | apply below_alloc | apply pw_below_drewN | apply below_drew1) | exact HB.out)))); have n2_ := Aside0.mk (below_step (by repeat (first | (with_reducible first | exact HB.out | apply below_alloc | apply pw_below_drewN | apply below_drew1) | exact HB.out)) hb); clear HO197; clear HB; have HO197 := n0_; have HO200 := n1_; have HB := n2_; clear n0_ n1_ n2_; clear hb ho10)))
            go_loopg [25] kj1 (fun kq v25 w' => ∃ (x4_2 : List ((ByteArray × Int))) (x5_2 : List Int) (x25_2 : Int), v25 = .int .i64 x25_2 ∧ Aside0 (impl_depths.l0 kq l0 x4_2 x5_2 l0 (l0.length : Int) x25_2 = some (r1, r2)) ∧ Aside0 (kq ≤ kj1) ∧ Aside0 (Kd.Y my348 348 w' w.heap.size (fun _ => True) v196 x4_2) ∧ Aside0 (Kd.R (Kd.int .i64) 3 w' w.heap.size (fun _ => True) v199 x5_2) ∧ Aside0 (Below w.heap.size w w'))
            case atStart => exact ⟨(y195), (y198), (0), (by first | rfl | (simp; done) | (simp [*]; done)), H', ⟨Nat.le_refl _⟩, ⟨by (with_reducible repeat (first | apply Kd.Y_alloc | apply Kd.Y_drewN | apply Kd.Y_drew)); exact HO197.out⟩, ⟨by (with_reducible repeat (first | apply Kd.R_alloc | apply Kd.R_drewN | apply Kd.R_drew)); exact HO200.out⟩, ⟨by repeat (first | (with_reducible first | exact HB.out | apply below_alloc | apply pw_below_drewN | apply below_drew1) | exact HB.out)⟩⟩
            case round =>
              clear H'
              try clear c2
              try clear p2
              try clear c3
              try clear c3b0
              try clear c3b1
              try clear c4
              try clear c5
              try clear c5b0
              try clear c5b1
              try clear c6
              try clear c6b0
              try clear c6b1
              try clear p2
              obtain ⟨x4_2, x5_2, x25_2, rfl, HA, HK2, HO_4, HO_5, HB⟩ := hrel
              cases gk with
              | zero => exact absurd HA.out (by simp [impl_depths.l0])
              | succ k2 =>
                have H := HA.out
                clear HA
                simp only [impl_depths.l0] at H
                by_cases c11 : x25_2 < (l0.length : Int)
                · rw [if_pos c11] at H
                  have c11b0 : decide (x25_2 < (l0.length : Int)) = true := decide_eq_true c11
                  clear c11
                  by_cases c12 : 0 ≤ x25_2
                  · rw [if_pos c12] at H
                    have c12b0 : decide (0 ≤ x25_2) = true := decide_eq_true c12
                    clear c12
                    by_cases c13 : x25_2 < (l0.length : Int)
                    · rw [if_pos c13] at H
                      have c13b0 : decide (x25_2 < (l0.length : Int)) = true := decide_eq_true c13
                      clear c13
                      by_cases c14 : ((rd_T251 l0 x25_2).f0).size ≤ 9223372036854775807
                      · rw [if_pos c14] at H
                        have c14b0 := eq_true c14
                        have c14b1 : decide (((rd_T251 l0 x25_2).f0).size ≤ 9223372036854775807) = true := decide_eq_true c14
                        try have c14b2 : (9223372036854775807 < ((rd_T251 l0 x25_2).f0).size) = False := eq_false (Nat.not_lt.2 c14)
                        clear c14
                        obtain ⟨y203, hy203⟩ : ∃ y_ : Bool, y_ = (mhas x4_2 ((rd_T251 l0 x25_2).f0)) := ⟨_, rfl⟩
                        replace H : (if y203 = true then (impl_depths.j2 k2 l0 x4_2 x5_2 x25_2 l0 (l0.length : Int) x25_2 true ((rd_T251 l0 x25_2).f0) ((rd_T251 l0 x25_2).f1) ((rd_T251 l0 x25_2).f2)) else ((impl_NameOk.f k2 ((rd_T251 l0 x25_2).f0)).bind fun t204 => (if t204 = true then ((impl_kindOk.f ((rd_T251 l0 x25_2).f2)).bind fun t205 => (impl_depths.j2 k2 l0 x4_2 x5_2 x25_2 l0 (l0.length : Int) x25_2 (!t205) ((rd_T251 l0 x25_2).f0) ((rd_T251 l0 x25_2).f1) ((rd_T251 l0 x25_2).f2))) else (impl_depths.j2 k2 l0 x4_2 x5_2 x25_2 l0 (l0.length : Int) x25_2 true ((rd_T251 l0 x25_2).f0) ((rd_T251 l0 x25_2).f1) ((rd_T251 l0 x25_2).f2))))) = some (r1, r2) := by first | (rw [hy203]; with_reducible exact H) | (have H2_ := (Option.bind_some _ _).symm.trans H; rw [hy203]; with_reducible exact H2_) | (have H2_ := (Option.bind_some _ _).symm.trans H; with_reducible exact H2_) | with_reducible exact H | (rw [hy203]; exact H) | exact H
                        have Ny203 := Aside0.mk hy203
                        clear hy203
                        have HC15 := Aside0.mk H
                        clear H
                        have p201 : 0 ≤ (x25_2 : Int) := of_decide_eq_true (by first | (with_reducible assumption) | assumption)
                        have q201 : x25_2 < (l0.length : Int) := of_decide_eq_true (by first | (with_reducible assumption) | assumption)
                        obtain ⟨ad201, e201, hx201_0, hx201_1, hx201_2⟩ := at_T251 HR0.out x25_2 p201 q201
                        cases e201
                        replace hx201_0 := (HB.out.cell (World.block_lt_of_cell? w _ hx201_0)).trans hx201_0
                        replace hx201_1 := (HB.out.cell (World.block_lt_of_cell? w _ hx201_1)).trans hx201_1
                        replace hx201_2 := (HB.out.cell (World.block_lt_of_cell? w _ hx201_2)).trans hx201_2
                        replace p201 := eq_true p201
                        replace q201 := eq_true q201
                        go_upto_region 9 with (first | ((with_reducible refine gate_dst (N := 7) rfl ?_); (try (refine gate_guard (by rfl) ?_; dsimp only)); refine box_event ?hg (N := 7) ?hd (cs := #[.string (⟨#[]⟩ : ByteArray), .int .i64 0, .int .i64 0]) (t := 251) ?hr ?_; (case hd => rfl); (case hg => rfl); (case hr => first | (go_simp; done) | (go_simp; rfl)); intro gb202 hg w16 hbox hb; have n0_ := Aside0.mk (Kd.Y_below (by (with_reducible repeat (first | apply Kd.Y_alloc | apply Kd.Y_drewN | apply Kd.Y_drew)); exact HO_4.out) hb); have n1_ := Aside0.mk (Kd.R_below (by (with_reducible repeat (first | apply Kd.R_alloc | apply Kd.R_drewN | apply Kd.R_drew)); exact HO_5.out) hb); have n2_ := Aside0.mk (below_step (by repeat (first | (with_reducible first | exact HB.out | apply below_alloc | apply pw_below_drewN | apply below_drew1) | exact HB.out)) hb); have n3_ := Aside0.mk (hbox); have n4_ := Aside0.mk ((by rw [hg]; exact (below_size (by repeat (first | (with_reducible first | exact HB.out | apply below_alloc | apply pw_below_drewN | apply below_drew1) | exact HB.out))) : w.heap.size ≤ gb202)); have n5_ := Aside0.mk ((by rw [hg]; exact (below_size (by repeat (first | (with_reducible first | exact HB.out | apply below_alloc | apply pw_below_drewN | apply below_drew1) | exact HB.out))) : w.heap.size ≤ gb202)); clear HO_4; clear HO_5; clear HB; have HO_4 := n0_; have HO_5 := n1_; have HB := n2_; have BK202 := n3_; have GW202 := n4_; have GE202 := n5_; clear n0_ n1_ n2_ n3_ n4_ n5_; clear hb hbox hg; have hcz17_0 : w16.cell? ⟨gb202, 0, none⟩ = some (.string (⟨#[]⟩ : ByteArray)) := (blk_cell BK202.out 0).trans rfl; have hcz17_1 : w16.cell? ⟨gb202, 1, none⟩ = some (.int .i64 0) := (blk_cell BK202.out 1).trans rfl; have hcz17_2 : w16.cell? ⟨gb202, 2, none⟩ = some (.int .i64 0) := (blk_cell BK202.out 2).trans rfl; have hfz17_0 := blk_frozen BK202.out 0; have hfz17_1 := blk_frozen BK202.out 1; have hfz17_2 := blk_frozen BK202.out 2) | ((with_reducible refine gate_store (t := 251) (p := 7) rfl ?_); (try (rw [drewN_self w16]; generalize hq_ : World.drewN w16 _ = w16; have n0_ := Aside0.mk (Kd.Y_at hq_ HO_4.out); have n1_ := Aside0.mk (Kd.R_at hq_ HO_5.out); have n2_ := Aside0.mk (blk_at hq_ BK202.out); have n3_ := Aside0.mk (below_at hq_ HB.out); clear hq_ HO_4 HO_5 BK202 HB; have HO_4 := n0_; have HO_5 := n1_; have BK202 := n2_; have HB := n3_; clear n0_ n1_ n2_ n3_)); refine store_event (t := 251) (p := 7) (v := ?vo_w18) (w1 := (((w16.setCell ⟨gb202, 0, none⟩ (.string ((rd_T251 l0 x25_2).f0))).setCell ⟨gb202, 1, none⟩ (.int .i64 ((rd_T251 l0 x25_2).f1))).setCell ⟨gb202, 2, none⟩ (.int .i64 ((rd_T251 l0 x25_2).f2)))) ?hg ?ho ?hn ?hr ?_; (case ho => rfl); (case hg => rfl); (case hn => rfl); (case hr => first | (go_simp; done) | (go_simp; rfl)); intro w18 hw; have n0_ : Aside0 (Kd.Y my348 348 w18 w.heap.size (fun _ => True) v196 x4_2) := ⟨(by rw [hw]; exact (by (with_reducible repeat (first | apply Kd.Y_alloc | apply Kd.Y_drewN | apply Kd.Y_drew)); exact Kd.Y_mono (Kd.Y_far (p := ⟨gb202, 2, none⟩) (Kd.Y_far (p := ⟨gb202, 1, none⟩) (Kd.Y_far (p := ⟨gb202, 0, none⟩) (Kd.Y_types HO_4.out BK202.out (by decide)) (fun _ hk => hk.2) (.string ((rd_T251 l0 x25_2).f0))) (fun _ hk => hk.2) (.int .i64 ((rd_T251 l0 x25_2).f1))) (fun _ hk => hk.2) (.int .i64 ((rd_T251 l0 x25_2).f2))) (fun _ hk => trivial)))⟩; have n1_ : Aside0 (Kd.R (Kd.int .i64) 3 w18 w.heap.size (fun _ => True) v199 x5_2) := ⟨(by rw [hw]; exact (by (with_reducible repeat (first | apply Kd.R_alloc | apply Kd.R_drewN | apply Kd.R_drew)); exact Kd.R_mono (Kd.R_far (p := ⟨gb202, 2, none⟩) (Kd.R_far (p := ⟨gb202, 1, none⟩) (Kd.R_far (p := ⟨gb202, 0, none⟩) (Kd.R_types HO_5.out BK202.out (by decide)) (fun _ hk => hk.2) (.string ((rd_T251 l0 x25_2).f0))) (fun _ hk => hk.2) (.int .i64 ((rd_T251 l0 x25_2).f1))) (fun _ hk => hk.2) (.int .i64 ((rd_T251 l0 x25_2).f2))) (fun _ hk => trivial)))⟩; have n2_ : Aside0 (w18.heap[gb202]? = some (.cells #[.string ((rd_T251 l0 x25_2).f0), .int .i64 ((rd_T251 l0 x25_2).f1), .int .i64 ((rd_T251 l0 x25_2).f2)] 251 (0, 0))) := ⟨(by rw [hw]; exact (by (with_reducible repeat (first | refine blk_drewN ?_ _ | refine blk_drew ?_ | refine blk_alloc ?_ _)); refine blk_put (cs := #[.string ((rd_T251 l0 x25_2).f0), .int .i64 ((rd_T251 l0 x25_2).f1), .int .i64 0]) ?_ 2 _ rfl; (with_reducible repeat (first | refine blk_drewN ?_ _ | refine blk_drew ?_ | refine blk_alloc ?_ _)); refine blk_put (cs := #[.string ((rd_T251 l0 x25_2).f0), .int .i64 0, .int .i64 0]) ?_ 1 _ rfl; (with_reducible repeat (first | refine blk_drewN ?_ _ | refine blk_drew ?_ | refine blk_alloc ?_ _)); refine blk_put (cs := #[.string (⟨#[]⟩ : ByteArray), .int .i64 0, .int .i64 0]) ?_ 0 _ rfl; (with_reducible repeat (first | refine blk_drewN ?_ _ | refine blk_drew ?_ | refine blk_alloc ?_ _)); exact BK202.out))⟩; have n3_ : Aside0 (Below w.heap.size w w18) := ⟨(by rw [hw]; exact (by repeat (first | (with_reducible first | exact HB.out | apply below_alloc | apply pw_below_drewN | apply below_drew1 | refine below_set ?_ GE202.out) | exact HB.out)))⟩; clear hw; clear HO_4; clear HO_5; clear BK202; clear HB; have HO_4 := n0_; have HO_5 := n1_; have BK202 := n2_; have HB := n3_; clear n0_ n1_ n2_ n3_; have hcz19_0 : w18.cell? ⟨gb202, 0, none⟩ = some (.string ((rd_T251 l0 x25_2).f0)) := (blk_cell BK202.out 0).trans rfl; have hcz19_1 : w18.cell? ⟨gb202, 1, none⟩ = some (.int .i64 ((rd_T251 l0 x25_2).f1)) := (blk_cell BK202.out 1).trans rfl; have hcz19_2 : w18.cell? ⟨gb202, 2, none⟩ = some (.int .i64 ((rd_T251 l0 x25_2).f2)) := (blk_cell BK202.out 2).trans rfl; have hfz19_0 := blk_frozen BK202.out 0; have hfz19_1 := blk_frozen BK202.out 1; have hfz19_2 := blk_frozen BK202.out 2; have hcv20 := Kd.Y_look (HO_4.out) ((rd_T251 l0 x25_2).f0) (show okS _ from ((of_decide_eq_true (by first | (with_reducible assumption) | assumption)) : ((rd_T251 l0 x25_2).f0).size ≤ 9223372036854775807)); simp only [my348, mkSB, mkSI, mkIB, mkII] at hcv20; rw [← Ny203.out] at hcv20))
                        repeat (go_quiet (first | ((with_reducible refine gate_dst (N := 7) rfl ?_); (try (refine gate_guard (by rfl) ?_; dsimp only)); refine box_event ?hg (N := 7) ?hd (cs := #[.string (⟨#[]⟩ : ByteArray), .int .i64 0, .int .i64 0]) (t := 251) ?hr ?_; (case hd => rfl); (case hg => rfl); (case hr => first | (go_simp; done) | (go_simp; rfl)); intro gb202 hg w16 hbox hb; have n0_ := Aside0.mk (Kd.Y_below (by (with_reducible repeat (first | apply Kd.Y_alloc | apply Kd.Y_drewN | apply Kd.Y_drew)); exact HO_4.out) hb); have n1_ := Aside0.mk (Kd.R_below (by (with_reducible repeat (first | apply Kd.R_alloc | apply Kd.R_drewN | apply Kd.R_drew)); exact HO_5.out) hb); have n2_ := Aside0.mk (below_step (by repeat (first | (with_reducible first | exact HB.out | apply below_alloc | apply pw_below_drewN | apply below_drew1) | exact HB.out)) hb); have n3_ := Aside0.mk (hbox); have n4_ := Aside0.mk ((by rw [hg]; exact (below_size (by repeat (first | (with_reducible first | exact HB.out | apply below_alloc | apply pw_below_drewN | apply below_drew1) | exact HB.out))) : w.heap.size ≤ gb202)); have n5_ := Aside0.mk ((by rw [hg]; exact (below_size (by repeat (first | (with_reducible first | exact HB.out | apply below_alloc | apply pw_below_drewN | apply below_drew1) | exact HB.out))) : w.heap.size ≤ gb202)); clear HO_4; clear HO_5; clear HB; have HO_4 := n0_; have HO_5 := n1_; have HB := n2_; have BK202 := n3_; have GW202 := n4_; have GE202 := n5_; clear n0_ n1_ n2_ n3_ n4_ n5_; clear hb hbox hg; have hcz17_0 : w16.cell? ⟨gb202, 0, none⟩ = some (.string (⟨#[]⟩ : ByteArray)) := (blk_cell BK202.out 0).trans rfl; have hcz17_1 : w16.cell? ⟨gb202, 1, none⟩ = some (.int .i64 0) := (blk_cell BK202.out 1).trans rfl; have hcz17_2 : w16.cell? ⟨gb202, 2, none⟩ = some (.int .i64 0) := (blk_cell BK202.out 2).trans rfl; have hfz17_0 := blk_frozen BK202.out 0; have hfz17_1 := blk_frozen BK202.out 1; have hfz17_2 := blk_frozen BK202.out 2) | ((with_reducible refine gate_store (t := 251) (p := 7) rfl ?_); (try (rw [drewN_self w16]; generalize hq_ : World.drewN w16 _ = w16; have n0_ := Aside0.mk (Kd.Y_at hq_ HO_4.out); have n1_ := Aside0.mk (Kd.R_at hq_ HO_5.out); have n2_ := Aside0.mk (blk_at hq_ BK202.out); have n3_ := Aside0.mk (below_at hq_ HB.out); clear hq_ HO_4 HO_5 BK202 HB; have HO_4 := n0_; have HO_5 := n1_; have BK202 := n2_; have HB := n3_; clear n0_ n1_ n2_ n3_)); refine store_event (t := 251) (p := 7) (v := ?vo_w18) (w1 := (((w16.setCell ⟨gb202, 0, none⟩ (.string ((rd_T251 l0 x25_2).f0))).setCell ⟨gb202, 1, none⟩ (.int .i64 ((rd_T251 l0 x25_2).f1))).setCell ⟨gb202, 2, none⟩ (.int .i64 ((rd_T251 l0 x25_2).f2)))) ?hg ?ho ?hn ?hr ?_; (case ho => rfl); (case hg => rfl); (case hn => rfl); (case hr => first | (go_simp; done) | (go_simp; rfl)); intro w18 hw; have n0_ : Aside0 (Kd.Y my348 348 w18 w.heap.size (fun _ => True) v196 x4_2) := ⟨(by rw [hw]; exact (by (with_reducible repeat (first | apply Kd.Y_alloc | apply Kd.Y_drewN | apply Kd.Y_drew)); exact Kd.Y_mono (Kd.Y_far (p := ⟨gb202, 2, none⟩) (Kd.Y_far (p := ⟨gb202, 1, none⟩) (Kd.Y_far (p := ⟨gb202, 0, none⟩) (Kd.Y_types HO_4.out BK202.out (by decide)) (fun _ hk => hk.2) (.string ((rd_T251 l0 x25_2).f0))) (fun _ hk => hk.2) (.int .i64 ((rd_T251 l0 x25_2).f1))) (fun _ hk => hk.2) (.int .i64 ((rd_T251 l0 x25_2).f2))) (fun _ hk => trivial)))⟩; have n1_ : Aside0 (Kd.R (Kd.int .i64) 3 w18 w.heap.size (fun _ => True) v199 x5_2) := ⟨(by rw [hw]; exact (by (with_reducible repeat (first | apply Kd.R_alloc | apply Kd.R_drewN | apply Kd.R_drew)); exact Kd.R_mono (Kd.R_far (p := ⟨gb202, 2, none⟩) (Kd.R_far (p := ⟨gb202, 1, none⟩) (Kd.R_far (p := ⟨gb202, 0, none⟩) (Kd.R_types HO_5.out BK202.out (by decide)) (fun _ hk => hk.2) (.string ((rd_T251 l0 x25_2).f0))) (fun _ hk => hk.2) (.int .i64 ((rd_T251 l0 x25_2).f1))) (fun _ hk => hk.2) (.int .i64 ((rd_T251 l0 x25_2).f2))) (fun _ hk => trivial)))⟩; have n2_ : Aside0 (w18.heap[gb202]? = some (.cells #[.string ((rd_T251 l0 x25_2).f0), .int .i64 ((rd_T251 l0 x25_2).f1), .int .i64 ((rd_T251 l0 x25_2).f2)] 251 (0, 0))) := ⟨(by rw [hw]; exact (by (with_reducible repeat (first | refine blk_drewN ?_ _ | refine blk_drew ?_ | refine blk_alloc ?_ _)); refine blk_put (cs := #[.string ((rd_T251 l0 x25_2).f0), .int .i64 ((rd_T251 l0 x25_2).f1), .int .i64 0]) ?_ 2 _ rfl; (with_reducible repeat (first | refine blk_drewN ?_ _ | refine blk_drew ?_ | refine blk_alloc ?_ _)); refine blk_put (cs := #[.string ((rd_T251 l0 x25_2).f0), .int .i64 0, .int .i64 0]) ?_ 1 _ rfl; (with_reducible repeat (first | refine blk_drewN ?_ _ | refine blk_drew ?_ | refine blk_alloc ?_ _)); refine blk_put (cs := #[.string (⟨#[]⟩ : ByteArray), .int .i64 0, .int .i64 0]) ?_ 0 _ rfl; (with_reducible repeat (first | refine blk_drewN ?_ _ | refine blk_drew ?_ | refine blk_alloc ?_ _)); exact BK202.out))⟩; have n3_ : Aside0 (Below w.heap.size w w18) := ⟨(by rw [hw]; exact (by repeat (first | (with_reducible first | exact HB.out | apply below_alloc | apply pw_below_drewN | apply below_drew1 | refine below_set ?_ GE202.out) | exact HB.out)))⟩; clear hw; clear HO_4; clear HO_5; clear BK202; clear HB; have HO_4 := n0_; have HO_5 := n1_; have BK202 := n2_; have HB := n3_; clear n0_ n1_ n2_ n3_; have hcz19_0 : w18.cell? ⟨gb202, 0, none⟩ = some (.string ((rd_T251 l0 x25_2).f0)) := (blk_cell BK202.out 0).trans rfl; have hcz19_1 : w18.cell? ⟨gb202, 1, none⟩ = some (.int .i64 ((rd_T251 l0 x25_2).f1)) := (blk_cell BK202.out 1).trans rfl; have hcz19_2 : w18.cell? ⟨gb202, 2, none⟩ = some (.int .i64 ((rd_T251 l0 x25_2).f2)) := (blk_cell BK202.out 2).trans rfl; have hfz19_0 := blk_frozen BK202.out 0; have hfz19_1 := blk_frozen BK202.out 1; have hfz19_2 := blk_frozen BK202.out 2; have hcv20 := Kd.Y_look (HO_4.out) ((rd_T251 l0 x25_2).f0) (show okS _ from ((of_decide_eq_true (by first | (with_reducible assumption) | assumption)) : ((rd_T251 l0 x25_2).f0).size ≤ 9223372036854775807)); simp only [my348, mkSB, mkSI, mkIB, mkII] at hcv20; rw [← Ny203.out] at hcv20)); go_upto_region 9 with (first | ((with_reducible refine gate_dst (N := 7) rfl ?_); (try (refine gate_guard (by rfl) ?_; dsimp only)); refine box_event ?hg (N := 7) ?hd (cs := #[.string (⟨#[]⟩ : ByteArray), .int .i64 0, .int .i64 0]) (t := 251) ?hr ?_; (case hd => rfl); (case hg => rfl); (case hr => first | (go_simp; done) | (go_simp; rfl)); intro gb202 hg w16 hbox hb; have n0_ := Aside0.mk (Kd.Y_below (by (with_reducible repeat (first | apply Kd.Y_alloc | apply Kd.Y_drewN | apply Kd.Y_drew)); exact HO_4.out) hb); have n1_ := Aside0.mk (Kd.R_below (by (with_reducible repeat (first | apply Kd.R_alloc | apply Kd.R_drewN | apply Kd.R_drew)); exact HO_5.out) hb); have n2_ := Aside0.mk (below_step (by repeat (first | (with_reducible first | exact HB.out | apply below_alloc | apply pw_below_drewN | apply below_drew1) | exact HB.out)) hb); have n3_ := Aside0.mk (hbox); have n4_ := Aside0.mk ((by rw [hg]; exact (below_size (by repeat (first | (with_reducible first | exact HB.out | apply below_alloc | apply pw_below_drewN | apply below_drew1) | exact HB.out))) : w.heap.size ≤ gb202)); have n5_ := Aside0.mk ((by rw [hg]; exact (below_size (by repeat (first | (with_reducible first | exact HB.out | apply below_alloc | apply pw_below_drewN | apply below_drew1) | exact HB.out))) : w.heap.size ≤ gb202)); clear HO_4; clear HO_5; clear HB; have HO_4 := n0_; have HO_5 := n1_; have HB := n2_; have BK202 := n3_; have GW202 := n4_; have GE202 := n5_; clear n0_ n1_ n2_ n3_ n4_ n5_; clear hb hbox hg; have hcz17_0 : w16.cell? ⟨gb202, 0, none⟩ = some (.string (⟨#[]⟩ : ByteArray)) := (blk_cell BK202.out 0).trans rfl; have hcz17_1 : w16.cell? ⟨gb202, 1, none⟩ = some (.int .i64 0) := (blk_cell BK202.out 1).trans rfl; have hcz17_2 : w16.cell? ⟨gb202, 2, none⟩ = some (.int .i64 0) := (blk_cell BK202.out 2).trans rfl; have hfz17_0 := blk_frozen BK202.out 0; have hfz17_1 := blk_frozen BK202.out 1; have hfz17_2 := blk_frozen BK202.out 2) | ((with_reducible refine gate_store (t := 251) (p := 7) rfl ?_); (try (rw [drewN_self w16]; generalize hq_ : World.drewN w16 _ = w16; have n0_ := Aside0.mk (Kd.Y_at hq_ HO_4.out); have n1_ := Aside0.mk (Kd.R_at hq_ HO_5.out); have n2_ := Aside0.mk (blk_at hq_ BK202.out); have n3_ := Aside0.mk (below_at hq_ HB.out); clear hq_ HO_4 HO_5 BK202 HB; have HO_4 := n0_; have HO_5 := n1_; have BK202 := n2_; have HB := n3_; clear n0_ n1_ n2_ n3_)); refine store_event (t := 251) (p := 7) (v := ?vo_w18) (w1 := (((w16.setCell ⟨gb202, 0, none⟩ (.string ((rd_T251 l0 x25_2).f0))).setCell ⟨gb202, 1, none⟩ (.int .i64 ((rd_T251 l0 x25_2).f1))).setCell ⟨gb202, 2, none⟩ (.int .i64 ((rd_T251 l0 x25_2).f2)))) ?hg ?ho ?hn ?hr ?_; (case ho => rfl); (case hg => rfl); (case hn => rfl); (case hr => first | (go_simp; done) | (go_simp; rfl)); intro w18 hw; have n0_ : Aside0 (Kd.Y my348 348 w18 w.heap.size (fun _ => True) v196 x4_2) := ⟨(by rw [hw]; exact (by (with_reducible repeat (first | apply Kd.Y_alloc | apply Kd.Y_drewN | apply Kd.Y_drew)); exact Kd.Y_mono (Kd.Y_far (p := ⟨gb202, 2, none⟩) (Kd.Y_far (p := ⟨gb202, 1, none⟩) (Kd.Y_far (p := ⟨gb202, 0, none⟩) (Kd.Y_types HO_4.out BK202.out (by decide)) (fun _ hk => hk.2) (.string ((rd_T251 l0 x25_2).f0))) (fun _ hk => hk.2) (.int .i64 ((rd_T251 l0 x25_2).f1))) (fun _ hk => hk.2) (.int .i64 ((rd_T251 l0 x25_2).f2))) (fun _ hk => trivial)))⟩; have n1_ : Aside0 (Kd.R (Kd.int .i64) 3 w18 w.heap.size (fun _ => True) v199 x5_2) := ⟨(by rw [hw]; exact (by (with_reducible repeat (first | apply Kd.R_alloc | apply Kd.R_drewN | apply Kd.R_drew)); exact Kd.R_mono (Kd.R_far (p := ⟨gb202, 2, none⟩) (Kd.R_far (p := ⟨gb202, 1, none⟩) (Kd.R_far (p := ⟨gb202, 0, none⟩) (Kd.R_types HO_5.out BK202.out (by decide)) (fun _ hk => hk.2) (.string ((rd_T251 l0 x25_2).f0))) (fun _ hk => hk.2) (.int .i64 ((rd_T251 l0 x25_2).f1))) (fun _ hk => hk.2) (.int .i64 ((rd_T251 l0 x25_2).f2))) (fun _ hk => trivial)))⟩; have n2_ : Aside0 (w18.heap[gb202]? = some (.cells #[.string ((rd_T251 l0 x25_2).f0), .int .i64 ((rd_T251 l0 x25_2).f1), .int .i64 ((rd_T251 l0 x25_2).f2)] 251 (0, 0))) := ⟨(by rw [hw]; exact (by (with_reducible repeat (first | refine blk_drewN ?_ _ | refine blk_drew ?_ | refine blk_alloc ?_ _)); refine blk_put (cs := #[.string ((rd_T251 l0 x25_2).f0), .int .i64 ((rd_T251 l0 x25_2).f1), .int .i64 0]) ?_ 2 _ rfl; (with_reducible repeat (first | refine blk_drewN ?_ _ | refine blk_drew ?_ | refine blk_alloc ?_ _)); refine blk_put (cs := #[.string ((rd_T251 l0 x25_2).f0), .int .i64 0, .int .i64 0]) ?_ 1 _ rfl; (with_reducible repeat (first | refine blk_drewN ?_ _ | refine blk_drew ?_ | refine blk_alloc ?_ _)); refine blk_put (cs := #[.string (⟨#[]⟩ : ByteArray), .int .i64 0, .int .i64 0]) ?_ 0 _ rfl; (with_reducible repeat (first | refine blk_drewN ?_ _ | refine blk_drew ?_ | refine blk_alloc ?_ _)); exact BK202.out))⟩; have n3_ : Aside0 (Below w.heap.size w w18) := ⟨(by rw [hw]; exact (by repeat (first | (with_reducible first | exact HB.out | apply below_alloc | apply pw_below_drewN | apply below_drew1 | refine below_set ?_ GE202.out) | exact HB.out)))⟩; clear hw; clear HO_4; clear HO_5; clear BK202; clear HB; have HO_4 := n0_; have HO_5 := n1_; have BK202 := n2_; have HB := n3_; clear n0_ n1_ n2_ n3_; have hcz19_0 : w18.cell? ⟨gb202, 0, none⟩ = some (.string ((rd_T251 l0 x25_2).f0)) := (blk_cell BK202.out 0).trans rfl; have hcz19_1 : w18.cell? ⟨gb202, 1, none⟩ = some (.int .i64 ((rd_T251 l0 x25_2).f1)) := (blk_cell BK202.out 1).trans rfl; have hcz19_2 : w18.cell? ⟨gb202, 2, none⟩ = some (.int .i64 ((rd_T251 l0 x25_2).f2)) := (blk_cell BK202.out 2).trans rfl; have hfz19_0 := blk_frozen BK202.out 0; have hfz19_1 := blk_frozen BK202.out 1; have hfz19_2 := blk_frozen BK202.out 2; have hcv20 := Kd.Y_look (HO_4.out) ((rd_T251 l0 x25_2).f0) (show okS _ from ((of_decide_eq_true (by first | (with_reducible assumption) | assumption)) : ((rd_T251 l0 x25_2).f0).size ≤ 9223372036854775807)); simp only [my348, mkSB, mkSI, mkIB, mkII] at hcv20; rw [← Ny203.out] at hcv20)))
                        (try simp only [Act.put, List.setIfInBounds_toArray, List.set_cons_zero, List.set_cons_succ])
                        go_cut [49] (fun v49 wc => ∃ (kq : Nat) (x49_14 : Bool), v49 = .bool x49_14 ∧ Aside0 (impl_depths.j2 kq l0 x4_2 x5_2 x25_2 l0 (l0.length : Int) x25_2 x49_14 ((rd_T251 l0 x25_2).f0) ((rd_T251 l0 x25_2).f1) ((rd_T251 l0 x25_2).f2) = some (r1, r2)) ∧ Aside0 (kq ≤ k2) ∧ Aside0 (Kd.Y my348 348 wc w.heap.size (fun _ => True) v196 x4_2) ∧ Aside0 (Kd.R (Kd.int .i64) 3 wc w.heap.size (fun _ => True) v199 x5_2) ∧ Aside0 (wc.heap[gb202]? = some (.cells #[.string ((rd_T251 l0 x25_2).f0), .int .i64 ((rd_T251 l0 x25_2).f1), .int .i64 ((rd_T251 l0 x25_2).f2)] 251 (0, 0))) ∧ Aside0 (Below w.heap.size w wc))
                        case first =>
                          have H := HC15.out
                          clear HC15
                          by_cases c21 : y203 = true
                          · subst c21
                            have H1 : (impl_depths.j2 k2 l0 x4_2 x5_2 x25_2 l0 (l0.length : Int) x25_2 true ((rd_T251 l0 x25_2).f0) ((rd_T251 l0 x25_2).f1) ((rd_T251 l0 x25_2).f2)) = some (r1, r2) := by rw [if_pos rfl] at H; exact H
                            clear H
                            have H := H1
                            clear H1
                            have H' := Aside0.mk H
                            clear H
                            go_wp2
                            repeat (go_quiet (fail); try go_wp2)
                            go_meet
                            case rel => exact ⟨_, (true), (by first | rfl | (simp; done) | (simp [*]; done)), H', ⟨by have := HJ1.out; have := HK2.out; first | omega | exact Nat.le_refl _⟩, ⟨by (with_reducible repeat (first | apply Kd.Y_alloc | apply Kd.Y_drewN | apply Kd.Y_drew)); exact HO_4.out⟩, ⟨by (with_reducible repeat (first | apply Kd.R_alloc | apply Kd.R_drewN | apply Kd.R_drew)); exact HO_5.out⟩, ⟨by (with_reducible repeat (first | refine blk_drewN ?_ _ | refine blk_drew ?_ | refine blk_alloc ?_ _)); exact BK202.out⟩, ⟨by repeat (first | (with_reducible first | exact HB.out | apply below_alloc | apply pw_below_drewN | apply below_drew1 | refine below_set ?_ GE202.out) | exact HB.out)⟩⟩
                          · replace c21 := Bool.eq_false_iff.mpr c21
                            subst c21
                            have H1 : ((impl_NameOk.f k2 ((rd_T251 l0 x25_2).f0)).bind fun t204 => (if t204 = true then ((impl_kindOk.f ((rd_T251 l0 x25_2).f2)).bind fun t205 => (impl_depths.j2 k2 l0 x4_2 x5_2 x25_2 l0 (l0.length : Int) x25_2 (!t205) ((rd_T251 l0 x25_2).f0) ((rd_T251 l0 x25_2).f1) ((rd_T251 l0 x25_2).f2))) else (impl_depths.j2 k2 l0 x4_2 x5_2 x25_2 l0 (l0.length : Int) x25_2 true ((rd_T251 l0 x25_2).f0) ((rd_T251 l0 x25_2).f1) ((rd_T251 l0 x25_2).f2)))) = some (r1, r2) := by rw [if_neg (show ¬ (false = true) by decide)] at H; exact H
                            clear H
                            have H := H1
                            clear H1
                            replace H := Option.bind_eq_some_iff.mp H
                            obtain ⟨t204, A220, H⟩ := H
                            replace H : (if t204 = true then ((impl_kindOk.f ((rd_T251 l0 x25_2).f2)).bind fun t205 => (impl_depths.j2 k2 l0 x4_2 x5_2 x25_2 l0 (l0.length : Int) x25_2 (!t205) ((rd_T251 l0 x25_2).f0) ((rd_T251 l0 x25_2).f1) ((rd_T251 l0 x25_2).f2))) else (impl_depths.j2 k2 l0 x4_2 x5_2 x25_2 l0 (l0.length : Int) x25_2 true ((rd_T251 l0 x25_2).f0) ((rd_T251 l0 x25_2).f1) ((rd_T251 l0 x25_2).f2))) = some (r1, r2) := H
                            have A22 := Aside0.mk A220
                            clear A220
                            by_cases c23 : t204 = true
                            · subst c23
                              have H1 : ((impl_kindOk.f ((rd_T251 l0 x25_2).f2)).bind fun t205 => (impl_depths.j2 k2 l0 x4_2 x5_2 x25_2 l0 (l0.length : Int) x25_2 (!t205) ((rd_T251 l0 x25_2).f0) ((rd_T251 l0 x25_2).f1) ((rd_T251 l0 x25_2).f2))) = some (r1, r2) := by rw [if_pos rfl] at H; exact H
                              clear H
                              have H := H1
                              clear H1
                              replace H := Option.bind_eq_some_iff.mp H
                              obtain ⟨t205, A240, H⟩ := H
                              replace H : (impl_depths.j2 k2 l0 x4_2 x5_2 x25_2 l0 (l0.length : Int) x25_2 (!t205) ((rd_T251 l0 x25_2).f0) ((rd_T251 l0 x25_2).f1) ((rd_T251 l0 x25_2).f2)) = some (r1, r2) := H
                              have A24 := Aside0.mk A240
                              clear A240
                              have H' := Aside0.mk H
                              clear H
                              have hcz25_0 : w18.cell? ⟨gb202, 0, none⟩ = some (.string ((rd_T251 l0 x25_2).f0)) := (blk_cell BK202.out 0).trans rfl
                              have hcz25_1 : w18.cell? ⟨gb202, 1, none⟩ = some (.int .i64 ((rd_T251 l0 x25_2).f1)) := (blk_cell BK202.out 1).trans rfl
                              have hcz25_2 : w18.cell? ⟨gb202, 2, none⟩ = some (.int .i64 ((rd_T251 l0 x25_2).f2)) := (blk_cell BK202.out 2).trans rfl
                              have hfz25_0 := blk_frozen BK202.out 0
                              have hfz25_1 := blk_frozen BK202.out 1
                              have hfz25_2 := blk_frozen BK202.out 2
                              go_wp2_with (first | (go_at_call 194; (with_reducible refine (impl_NameOk.calls k2 ((rd_T251 l0 x25_2).f0) true _ A22.out).mono ?_); rintro e w' ⟨rfl, ⟨nd, rfl⟩⟩; (try first | exact ⟨rfl, _, World.drewN_drewN _ _ _⟩ | exact ⟨rfl, _, Eq.trans (World.drewN_drewN _ _ _) (congrArg (World.drewN _) (Nat.add_assoc _ _ _))⟩)) | (go_at_call 263; (with_reducible refine (impl_kindOk.calls ((rd_T251 l0 x25_2).f2) t205 _ A24.out).mono ?_); rintro e w' ⟨rfl, ⟨nd, rfl⟩⟩; (try first | exact ⟨rfl, _, World.drewN_drewN _ _ _⟩ | exact ⟨rfl, _, Eq.trans (World.drewN_drewN _ _ _) (congrArg (World.drewN _) (Nat.add_assoc _ _ _))⟩)))
                              repeat (go_quiet (first | (go_at_call 194; (with_reducible refine (impl_NameOk.calls k2 ((rd_T251 l0 x25_2).f0) true _ A22.out).mono ?_); rintro e w' ⟨rfl, ⟨nd, rfl⟩⟩; (try first | exact ⟨rfl, _, World.drewN_drewN _ _ _⟩ | exact ⟨rfl, _, Eq.trans (World.drewN_drewN _ _ _) (congrArg (World.drewN _) (Nat.add_assoc _ _ _))⟩)) | (go_at_call 263; (with_reducible refine (impl_kindOk.calls ((rd_T251 l0 x25_2).f2) t205 _ A24.out).mono ?_); rintro e w' ⟨rfl, ⟨nd, rfl⟩⟩; (try first | exact ⟨rfl, _, World.drewN_drewN _ _ _⟩ | exact ⟨rfl, _, Eq.trans (World.drewN_drewN _ _ _) (congrArg (World.drewN _) (Nat.add_assoc _ _ _))⟩))); try go_wp2_with (first | (go_at_call 194; (with_reducible refine (impl_NameOk.calls k2 ((rd_T251 l0 x25_2).f0) true _ A22.out).mono ?_); rintro e w' ⟨rfl, ⟨nd, rfl⟩⟩; (try first | exact ⟨rfl, _, World.drewN_drewN _ _ _⟩ | exact ⟨rfl, _, Eq.trans (World.drewN_drewN _ _ _) (congrArg (World.drewN _) (Nat.add_assoc _ _ _))⟩)) | (go_at_call 263; (with_reducible refine (impl_kindOk.calls ((rd_T251 l0 x25_2).f2) t205 _ A24.out).mono ?_); rintro e w' ⟨rfl, ⟨nd, rfl⟩⟩; (try first | exact ⟨rfl, _, World.drewN_drewN _ _ _⟩ | exact ⟨rfl, _, Eq.trans (World.drewN_drewN _ _ _) (congrArg (World.drewN _) (Nat.add_assoc _ _ _))⟩))))
                              go_meet
                              case rel => exact ⟨_, (!t205), (by first | rfl | (simp; done) | (simp [*]; done)), H', ⟨by have := HJ1.out; have := HK2.out; first | omega | exact Nat.le_refl _⟩, ⟨by (with_reducible repeat (first | apply Kd.Y_alloc | apply Kd.Y_drewN | apply Kd.Y_drew)); exact HO_4.out⟩, ⟨by (with_reducible repeat (first | apply Kd.R_alloc | apply Kd.R_drewN | apply Kd.R_drew)); exact HO_5.out⟩, ⟨by (with_reducible repeat (first | refine blk_drewN ?_ _ | refine blk_drew ?_ | refine blk_alloc ?_ _)); exact BK202.out⟩, ⟨by repeat (first | (with_reducible first | exact HB.out | apply below_alloc | apply pw_below_drewN | apply below_drew1 | refine below_set ?_ GE202.out) | exact HB.out)⟩⟩
                            · replace c23 := Bool.eq_false_iff.mpr c23
                              subst c23
                              have H1 : (impl_depths.j2 k2 l0 x4_2 x5_2 x25_2 l0 (l0.length : Int) x25_2 true ((rd_T251 l0 x25_2).f0) ((rd_T251 l0 x25_2).f1) ((rd_T251 l0 x25_2).f2)) = some (r1, r2) := by rw [if_neg (show ¬ (false = true) by decide)] at H; exact H
                              clear H
                              have H := H1
                              clear H1
                              have H' := Aside0.mk H
                              clear H
                              have hcz26_0 : w18.cell? ⟨gb202, 0, none⟩ = some (.string ((rd_T251 l0 x25_2).f0)) := (blk_cell BK202.out 0).trans rfl
                              have hcz26_1 : w18.cell? ⟨gb202, 1, none⟩ = some (.int .i64 ((rd_T251 l0 x25_2).f1)) := (blk_cell BK202.out 1).trans rfl
                              have hcz26_2 : w18.cell? ⟨gb202, 2, none⟩ = some (.int .i64 ((rd_T251 l0 x25_2).f2)) := (blk_cell BK202.out 2).trans rfl
                              have hfz26_0 := blk_frozen BK202.out 0
                              have hfz26_1 := blk_frozen BK202.out 1
                              have hfz26_2 := blk_frozen BK202.out 2
                              go_wp2_with (first | (go_at_call 194; (with_reducible refine (impl_NameOk.calls k2 ((rd_T251 l0 x25_2).f0) false _ A22.out).mono ?_); rintro e w' ⟨rfl, ⟨nd, rfl⟩⟩; (try first | exact ⟨rfl, _, World.drewN_drewN _ _ _⟩ | exact ⟨rfl, _, Eq.trans (World.drewN_drewN _ _ _) (congrArg (World.drewN _) (Nat.add_assoc _ _ _))⟩)))
                              repeat (go_quiet (first | (go_at_call 194; (with_reducible refine (impl_NameOk.calls k2 ((rd_T251 l0 x25_2).f0) false _ A22.out).mono ?_); rintro e w' ⟨rfl, ⟨nd, rfl⟩⟩; (try first | exact ⟨rfl, _, World.drewN_drewN _ _ _⟩ | exact ⟨rfl, _, Eq.trans (World.drewN_drewN _ _ _) (congrArg (World.drewN _) (Nat.add_assoc _ _ _))⟩))); try go_wp2_with (first | (go_at_call 194; (with_reducible refine (impl_NameOk.calls k2 ((rd_T251 l0 x25_2).f0) false _ A22.out).mono ?_); rintro e w' ⟨rfl, ⟨nd, rfl⟩⟩; (try first | exact ⟨rfl, _, World.drewN_drewN _ _ _⟩ | exact ⟨rfl, _, Eq.trans (World.drewN_drewN _ _ _) (congrArg (World.drewN _) (Nat.add_assoc _ _ _))⟩))))
                              go_meet
                              case rel => exact ⟨_, (true), (by first | rfl | (simp; done) | (simp [*]; done)), H', ⟨by have := HJ1.out; have := HK2.out; first | omega | exact Nat.le_refl _⟩, ⟨by (with_reducible repeat (first | apply Kd.Y_alloc | apply Kd.Y_drewN | apply Kd.Y_drew)); exact HO_4.out⟩, ⟨by (with_reducible repeat (first | apply Kd.R_alloc | apply Kd.R_drewN | apply Kd.R_drew)); exact HO_5.out⟩, ⟨by (with_reducible repeat (first | refine blk_drewN ?_ _ | refine blk_drew ?_ | refine blk_alloc ?_ _)); exact BK202.out⟩, ⟨by repeat (first | (with_reducible first | exact HB.out | apply below_alloc | apply pw_below_drewN | apply below_drew1 | refine below_set ?_ GE202.out) | exact HB.out)⟩⟩
                        case rest =>
                          clear HC15
                          try clear c1
                          try clear c2
                          try clear p2
                          try clear q2
                          try clear hx2
                          try clear hcv2
                          try clear c3
                          try clear c3b0
                          try clear c3b1
                          try clear c4
                          try clear c5
                          try clear c5b0
                          try clear c5b1
                          try clear c6
                          try clear c6b0
                          try clear c6b1
                          try clear c11
                          try clear c11b0
                          try clear c12
                          try clear c12b0
                          try clear c13
                          try clear c13b0
                          try clear c14
                          try clear c14b0
                          try clear c14b1
                          try clear c14b2
                          try clear p20
                          try clear q20
                          try clear hx20
                          try clear hcv20
                          try clear c21
                          try clear c23
                          try clear hcz17_0
                          try clear hcz17_1
                          try clear hcz17_2
                          try clear hcz19_0
                          try clear hcz19_1
                          try clear hcz19_2
                          try clear hcz25_0
                          try clear hcz25_1
                          try clear hcz25_2
                          try clear hcz26_0
                          try clear hcz26_1
                          try clear hcz26_2
                          try clear hfz17_0
                          try clear hfz17_1
                          try clear hfz17_2
                          try clear hfz19_0
                          try clear hfz19_1
                          try clear hfz19_2
                          try clear hfz25_0
                          try clear hfz25_1
                          try clear hfz25_2
                          try clear hfz26_0
                          try clear hfz26_1
                          try clear hfz26_2
                          try clear hx201_0
                          try clear hx201_1
                          try clear hx201_2
                          try clear p2
                          try clear p201
                          try clear q201
                          obtain ⟨kq, x49_14, rfl, HA, HJ14, HO_4, HO_5, BK202, HB⟩ := hcut
                          cases kq with
                          | zero => exact absurd HA.out (by simp [impl_depths.j2])
                          | succ kj14 =>
                            have H := HA.out
                            clear HA
                            simp only [impl_depths.j2] at H
                            by_cases c27 : x49_14 = true
                            · subst c27
                              have H1 : (some (([] : List Int), false)) = some (r1, r2) := by rw [if_pos rfl] at H; exact H
                              clear H
                              have H := H1
                              clear H1
                              simp only [Option.some.injEq, Prod.mk.injEq] at H
                              obtain ⟨rfl, rfl⟩ := H
                              go_wp2
                              repeat (go_quiet (fail); try go_wp2)
                              go_ret2
                              exact ⟨_, by first | rfl | (simp [errW_none, errW_some] <;> rfl) | (simp [*, errW_none, errW_some] <;> rfl), by first | exact Kd.R_nil _ _ _ _ _ | exact Kd.N_nil _ _ _ _ _ | exact Kd.V_nil _ _ _ _ _ | exact Kd.Q_nil _ _ _ _ _ | exact Kd.S_nil _ _ _ _ _, by repeat (first | (with_reducible first | exact HB.out | apply below_alloc | apply pw_below_drewN | apply below_drew1 | refine below_set ?_ GE202.out) | exact HB.out)⟩
                            · replace c27 := Bool.eq_false_iff.mpr c27
                              subst c27
                              have H1 : (if ((rd_T251 l0 x25_2).f0).size ≤ 9223372036854775807 then (if -9223372036854775808 ≤ x25_2 then (if x25_2 ≤ 9223372036854775807 then (if x4_2.length < 140737488355328 then ((some ((((rd_T251 l0 x25_2).f0), x25_2) :: x4_2 : List ((ByteArray × Int)))).bind fun y206 => (if ((rd_T251 l0 x25_2).f1) = (-1) then (impl_depths.l0 kj14 l0 y206 x5_2 l0 (l0.length : Int) (wrap64 (x25_2 + 1))) else (impl_depths.l1 kj14 l0 y206 x5_2 x25_2 (wrap64 (x25_2 - 1)) l0 (l0.length : Int) x25_2 ((rd_T251 l0 x25_2).f0) ((rd_T251 l0 x25_2).f1) ((rd_T251 l0 x25_2).f2)))) else (none)) else (none)) else (none)) else (none)) = some (r1, r2) := by rw [if_neg (show ¬ (false = true) by decide)] at H; exact H
                              clear H
                              have H := H1
                              clear H1
                              by_cases c28 : ((rd_T251 l0 x25_2).f0).size ≤ 9223372036854775807
                              · rw [if_pos c28] at H
                                have c28b0 := eq_true c28
                                have c28b1 : decide (((rd_T251 l0 x25_2).f0).size ≤ 9223372036854775807) = true := decide_eq_true c28
                                try have c28b2 : (9223372036854775807 < ((rd_T251 l0 x25_2).f0).size) = False := eq_false (Nat.not_lt.2 c28)
                                clear c28
                                by_cases c29 : -9223372036854775808 ≤ x25_2
                                · rw [if_pos c29] at H
                                  have c29b0 := eq_true c29
                                  have c29b1 : decide (-9223372036854775808 ≤ x25_2) = true := decide_eq_true c29
                                  clear c29
                                  by_cases c30 : x25_2 ≤ 9223372036854775807
                                  · rw [if_pos c30] at H
                                    have c30b0 := eq_true c30
                                    have c30b1 : decide (x25_2 ≤ 9223372036854775807) = true := decide_eq_true c30
                                    try have c30b2 : (9223372036854775807 < x25_2) = False := eq_false (Nat.not_lt.2 c30)
                                    clear c30
                                    by_cases c31 : x4_2.length < 140737488355328
                                    · rw [if_pos c31] at H
                                      have LMc31 := Aside0.mk c31
                                      clear c31
                                      obtain ⟨y206, hy206⟩ : ∃ y_ : List ((ByteArray × Int)), y_ = ((((rd_T251 l0 x25_2).f0), x25_2) :: x4_2) := ⟨_, rfl⟩
                                      replace H : (if ((rd_T251 l0 x25_2).f1) = (-1) then (impl_depths.l0 kj14 l0 y206 x5_2 l0 (l0.length : Int) (wrap64 (x25_2 + 1))) else (impl_depths.l1 kj14 l0 y206 x5_2 x25_2 (wrap64 (x25_2 - 1)) l0 (l0.length : Int) x25_2 ((rd_T251 l0 x25_2).f0) ((rd_T251 l0 x25_2).f1) ((rd_T251 l0 x25_2).f2))) = some (r1, r2) := by first | (rw [hy206]; with_reducible exact H) | (have H2_ := (Option.bind_some _ _).symm.trans H; rw [hy206]; with_reducible exact H2_) | (have H2_ := (Option.bind_some _ _).symm.trans H; with_reducible exact H2_) | with_reducible exact H | (rw [hy206]; exact H) | exact H
                                      have Ny206 := Aside0.mk hy206
                                      clear hy206
                                      by_cases c32 : ((rd_T251 l0 x25_2).f1) = (-1)
                                      · rw [if_pos c32] at H
                                        have c32b0 : (((rd_T251 l0 x25_2).f1) == (-1)) = true := beq_iff_eq.mpr c32
                                        have c32b1 : (((rd_T251 l0 x25_2).f1) != (-1)) = false := bne_eq_false_iff_eq.mpr c32
                                        clear c32
                                        have H' := Aside0.mk H
                                        clear H
                                        have hcz33_0 : wc.cell? ⟨gb202, 0, none⟩ = some (.string ((rd_T251 l0 x25_2).f0)) := (blk_cell BK202.out 0).trans rfl
                                        have hcz33_1 : wc.cell? ⟨gb202, 1, none⟩ = some (.int .i64 ((rd_T251 l0 x25_2).f1)) := (blk_cell BK202.out 1).trans rfl
                                        have hcz33_2 : wc.cell? ⟨gb202, 2, none⟩ = some (.int .i64 ((rd_T251 l0 x25_2).f2)) := (blk_cell BK202.out 2).trans rfl
                                        have hfz33_0 := blk_frozen BK202.out 0
                                        have hfz33_1 := blk_frozen BK202.out 1
                                        have hfz33_2 := blk_frozen BK202.out 2
                                        go_wp2_with (first | ((with_reducible refine Kd.gate_mupd (t := 348) (p := (.tmp 50)) (x := (.tmp 52)) (y := (.tmp 53)) rfl ?_); refine Kd.Y_put my348 (t := 348) (base := w.heap.size) (ok := (fun _ => True)) rfl rfl (.tmp 50) (.tmp 52) (.tmp 53) rfl rfl v196 x4_2 ((rd_T251 l0 x25_2).f0) x25_2 rfl (by first | rfl | (go_simp; done) | (go_simp; rfl)) (by first | rfl | (go_simp; done) | (go_simp; rfl)) ?aO (show okS _ from ((of_decide_eq_true (by first | (with_reducible assumption) | assumption)) : ((rd_T251 l0 x25_2).f0).size ≤ 9223372036854775807)) (show okI _ from ⟨((of_decide_eq_true (by first | (with_reducible assumption) | assumption)) : -9223372036854775808 ≤ x25_2), ((of_decide_eq_true (by first | (with_reducible assumption) | assumption)) : x25_2 ≤ 9223372036854775807)⟩) LMc31.out ?_; (case aO => exact (by (with_reducible repeat (first | apply Kd.Y_alloc | apply Kd.Y_drewN | apply Kd.Y_drew)); exact HO_4.out)); intro w34 ho hg; rw [← Ny206.out] at ho; have n0_ := Aside0.mk (Kd.R_turn (by (with_reducible repeat (first | apply Kd.R_alloc | apply Kd.R_drewN | apply Kd.R_drew)); exact HO_5.out) (by (with_reducible repeat (first | apply Kd.Y_alloc | apply Kd.Y_drewN | apply Kd.Y_drew)); exact HO_4.out) hg); have n1_ := Aside0.mk (Kd.blk_turn (by (with_reducible repeat (first | refine blk_drewN ?_ _ | refine blk_drew ?_ | refine blk_alloc ?_ _)); exact BK202.out) (by (with_reducible repeat (first | apply Kd.Y_alloc | apply Kd.Y_drewN | apply Kd.Y_drew)); exact HO_4.out) hg); have n2_ := Aside0.mk (Kd.below_turn (by (with_reducible repeat (first | apply Kd.Y_alloc | apply Kd.Y_drewN | apply Kd.Y_drew)); exact HO_4.out) (by repeat (first | (with_reducible first | exact HB.out | apply below_alloc | apply pw_below_drewN | apply below_drew1 | refine below_set ?_ GE202.out) | exact HB.out)) (Nat.le_refl _) hg); have n3_ := Aside0.mk (ho); clear HO_5; clear BK202; clear HB; clear HO_4; have HO_5 := n0_; have BK202 := n1_; have HB := n2_; have HO207 := n3_; clear n0_ n1_ n2_ n3_; clear ho hg; have hcz35_0 : w34.cell? ⟨gb202, 0, none⟩ = some (.string ((rd_T251 l0 x25_2).f0)) := (blk_cell BK202.out 0).trans rfl; have hcz35_1 : w34.cell? ⟨gb202, 1, none⟩ = some (.int .i64 ((rd_T251 l0 x25_2).f1)) := (blk_cell BK202.out 1).trans rfl; have hcz35_2 : w34.cell? ⟨gb202, 2, none⟩ = some (.int .i64 ((rd_T251 l0 x25_2).f2)) := (blk_cell BK202.out 2).trans rfl; have hfz35_0 := blk_frozen BK202.out 0; have hfz35_1 := blk_frozen BK202.out 1; have hfz35_2 := blk_frozen BK202.out 2))
                                        repeat (go_quiet (first | ((with_reducible refine Kd.gate_mupd (t := 348) (p := (.tmp 50)) (x := (.tmp 52)) (y := (.tmp 53)) rfl ?_); refine Kd.Y_put my348 (t := 348) (base := w.heap.size) (ok := (fun _ => True)) rfl rfl (.tmp 50) (.tmp 52) (.tmp 53) rfl rfl v196 x4_2 ((rd_T251 l0 x25_2).f0) x25_2 rfl (by first | rfl | (go_simp; done) | (go_simp; rfl)) (by first | rfl | (go_simp; done) | (go_simp; rfl)) ?aO (show okS _ from ((of_decide_eq_true (by first | (with_reducible assumption) | assumption)) : ((rd_T251 l0 x25_2).f0).size ≤ 9223372036854775807)) (show okI _ from ⟨((of_decide_eq_true (by first | (with_reducible assumption) | assumption)) : -9223372036854775808 ≤ x25_2), ((of_decide_eq_true (by first | (with_reducible assumption) | assumption)) : x25_2 ≤ 9223372036854775807)⟩) LMc31.out ?_; (case aO => exact (by (with_reducible repeat (first | apply Kd.Y_alloc | apply Kd.Y_drewN | apply Kd.Y_drew)); exact HO_4.out)); intro w34 ho hg; rw [← Ny206.out] at ho; have n0_ := Aside0.mk (Kd.R_turn (by (with_reducible repeat (first | apply Kd.R_alloc | apply Kd.R_drewN | apply Kd.R_drew)); exact HO_5.out) (by (with_reducible repeat (first | apply Kd.Y_alloc | apply Kd.Y_drewN | apply Kd.Y_drew)); exact HO_4.out) hg); have n1_ := Aside0.mk (Kd.blk_turn (by (with_reducible repeat (first | refine blk_drewN ?_ _ | refine blk_drew ?_ | refine blk_alloc ?_ _)); exact BK202.out) (by (with_reducible repeat (first | apply Kd.Y_alloc | apply Kd.Y_drewN | apply Kd.Y_drew)); exact HO_4.out) hg); have n2_ := Aside0.mk (Kd.below_turn (by (with_reducible repeat (first | apply Kd.Y_alloc | apply Kd.Y_drewN | apply Kd.Y_drew)); exact HO_4.out) (by repeat (first | (with_reducible first | exact HB.out | apply below_alloc | apply pw_below_drewN | apply below_drew1 | refine below_set ?_ GE202.out) | exact HB.out)) (Nat.le_refl _) hg); have n3_ := Aside0.mk (ho); clear HO_5; clear BK202; clear HB; clear HO_4; have HO_5 := n0_; have BK202 := n1_; have HB := n2_; have HO207 := n3_; clear n0_ n1_ n2_ n3_; clear ho hg; have hcz35_0 : w34.cell? ⟨gb202, 0, none⟩ = some (.string ((rd_T251 l0 x25_2).f0)) := (blk_cell BK202.out 0).trans rfl; have hcz35_1 : w34.cell? ⟨gb202, 1, none⟩ = some (.int .i64 ((rd_T251 l0 x25_2).f1)) := (blk_cell BK202.out 1).trans rfl; have hcz35_2 : w34.cell? ⟨gb202, 2, none⟩ = some (.int .i64 ((rd_T251 l0 x25_2).f2)) := (blk_cell BK202.out 2).trans rfl; have hfz35_0 := blk_frozen BK202.out 0; have hfz35_1 := blk_frozen BK202.out 1; have hfz35_2 := blk_frozen BK202.out 2)); try go_wp2_with (first | ((with_reducible refine Kd.gate_mupd (t := 348) (p := (.tmp 50)) (x := (.tmp 52)) (y := (.tmp 53)) rfl ?_); refine Kd.Y_put my348 (t := 348) (base := w.heap.size) (ok := (fun _ => True)) rfl rfl (.tmp 50) (.tmp 52) (.tmp 53) rfl rfl v196 x4_2 ((rd_T251 l0 x25_2).f0) x25_2 rfl (by first | rfl | (go_simp; done) | (go_simp; rfl)) (by first | rfl | (go_simp; done) | (go_simp; rfl)) ?aO (show okS _ from ((of_decide_eq_true (by first | (with_reducible assumption) | assumption)) : ((rd_T251 l0 x25_2).f0).size ≤ 9223372036854775807)) (show okI _ from ⟨((of_decide_eq_true (by first | (with_reducible assumption) | assumption)) : -9223372036854775808 ≤ x25_2), ((of_decide_eq_true (by first | (with_reducible assumption) | assumption)) : x25_2 ≤ 9223372036854775807)⟩) LMc31.out ?_; (case aO => exact (by (with_reducible repeat (first | apply Kd.Y_alloc | apply Kd.Y_drewN | apply Kd.Y_drew)); exact HO_4.out)); intro w34 ho hg; rw [← Ny206.out] at ho; have n0_ := Aside0.mk (Kd.R_turn (by (with_reducible repeat (first | apply Kd.R_alloc | apply Kd.R_drewN | apply Kd.R_drew)); exact HO_5.out) (by (with_reducible repeat (first | apply Kd.Y_alloc | apply Kd.Y_drewN | apply Kd.Y_drew)); exact HO_4.out) hg); have n1_ := Aside0.mk (Kd.blk_turn (by (with_reducible repeat (first | refine blk_drewN ?_ _ | refine blk_drew ?_ | refine blk_alloc ?_ _)); exact BK202.out) (by (with_reducible repeat (first | apply Kd.Y_alloc | apply Kd.Y_drewN | apply Kd.Y_drew)); exact HO_4.out) hg); have n2_ := Aside0.mk (Kd.below_turn (by (with_reducible repeat (first | apply Kd.Y_alloc | apply Kd.Y_drewN | apply Kd.Y_drew)); exact HO_4.out) (by repeat (first | (with_reducible first | exact HB.out | apply below_alloc | apply pw_below_drewN | apply below_drew1 | refine below_set ?_ GE202.out) | exact HB.out)) (Nat.le_refl _) hg); have n3_ := Aside0.mk (ho); clear HO_5; clear BK202; clear HB; clear HO_4; have HO_5 := n0_; have BK202 := n1_; have HB := n2_; have HO207 := n3_; clear n0_ n1_ n2_ n3_; clear ho hg; have hcz35_0 : w34.cell? ⟨gb202, 0, none⟩ = some (.string ((rd_T251 l0 x25_2).f0)) := (blk_cell BK202.out 0).trans rfl; have hcz35_1 : w34.cell? ⟨gb202, 1, none⟩ = some (.int .i64 ((rd_T251 l0 x25_2).f1)) := (blk_cell BK202.out 1).trans rfl; have hcz35_2 : w34.cell? ⟨gb202, 2, none⟩ = some (.int .i64 ((rd_T251 l0 x25_2).f2)) := (blk_cell BK202.out 2).trans rfl; have hfz35_0 := blk_frozen BK202.out 0; have hfz35_1 := blk_frozen BK202.out 1; have hfz35_2 := blk_frozen BK202.out 2)))
                                        go_roundg kj14
                                        case measure => have := HJ1.out; have := HK2.out; have := HJ14.out; omega
                                        case rel => exact ⟨(y206), (x5_2), (wrap64 (x25_2 + 1)), (by first | rfl | (simp; done) | (simp [*]; done)), H', ⟨by have := HJ1.out; have := HK2.out; have := HJ14.out; omega⟩, ⟨by (with_reducible repeat (first | apply Kd.Y_alloc | apply Kd.Y_drewN | apply Kd.Y_drew)); exact HO207.out⟩, ⟨by (with_reducible repeat (first | apply Kd.R_alloc | apply Kd.R_drewN | apply Kd.R_drew)); exact HO_5.out⟩, ⟨by repeat (first | (with_reducible first | exact HB.out | apply below_alloc | apply pw_below_drewN | apply below_drew1 | refine below_set ?_ GE202.out) | exact HB.out)⟩⟩
                                      · rw [if_neg c32] at H
                                        have c32b0 : (((rd_T251 l0 x25_2).f1) == (-1)) = false := beq_eq_false_iff_ne.mpr c32
                                        have c32b1 : (((rd_T251 l0 x25_2).f1) != (-1)) = true := bne_iff_ne.mpr c32
                                        have H' := Aside0.mk H
                                        clear H
                                        have hcz36_0 : wc.cell? ⟨gb202, 0, none⟩ = some (.string ((rd_T251 l0 x25_2).f0)) := (blk_cell BK202.out 0).trans rfl
                                        have hcz36_1 : wc.cell? ⟨gb202, 1, none⟩ = some (.int .i64 ((rd_T251 l0 x25_2).f1)) := (blk_cell BK202.out 1).trans rfl
                                        have hcz36_2 : wc.cell? ⟨gb202, 2, none⟩ = some (.int .i64 ((rd_T251 l0 x25_2).f2)) := (blk_cell BK202.out 2).trans rfl
                                        have hfz36_0 := blk_frozen BK202.out 0
                                        have hfz36_1 := blk_frozen BK202.out 1
                                        have hfz36_2 := blk_frozen BK202.out 2
                                        go_wp2_with (first | ((with_reducible refine Kd.gate_mupd (t := 348) (p := (.tmp 50)) (x := (.tmp 52)) (y := (.tmp 53)) rfl ?_); refine Kd.Y_put my348 (t := 348) (base := w.heap.size) (ok := (fun _ => True)) rfl rfl (.tmp 50) (.tmp 52) (.tmp 53) rfl rfl v196 x4_2 ((rd_T251 l0 x25_2).f0) x25_2 rfl (by first | rfl | (go_simp; done) | (go_simp; rfl)) (by first | rfl | (go_simp; done) | (go_simp; rfl)) ?aO (show okS _ from ((of_decide_eq_true (by first | (with_reducible assumption) | assumption)) : ((rd_T251 l0 x25_2).f0).size ≤ 9223372036854775807)) (show okI _ from ⟨((of_decide_eq_true (by first | (with_reducible assumption) | assumption)) : -9223372036854775808 ≤ x25_2), ((of_decide_eq_true (by first | (with_reducible assumption) | assumption)) : x25_2 ≤ 9223372036854775807)⟩) LMc31.out ?_; (case aO => exact (by (with_reducible repeat (first | apply Kd.Y_alloc | apply Kd.Y_drewN | apply Kd.Y_drew)); exact HO_4.out)); intro w37 ho hg; rw [← Ny206.out] at ho; have n0_ := Aside0.mk (Kd.R_turn (by (with_reducible repeat (first | apply Kd.R_alloc | apply Kd.R_drewN | apply Kd.R_drew)); exact HO_5.out) (by (with_reducible repeat (first | apply Kd.Y_alloc | apply Kd.Y_drewN | apply Kd.Y_drew)); exact HO_4.out) hg); have n1_ := Aside0.mk (Kd.blk_turn (by (with_reducible repeat (first | refine blk_drewN ?_ _ | refine blk_drew ?_ | refine blk_alloc ?_ _)); exact BK202.out) (by (with_reducible repeat (first | apply Kd.Y_alloc | apply Kd.Y_drewN | apply Kd.Y_drew)); exact HO_4.out) hg); have n2_ := Aside0.mk (Kd.below_turn (by (with_reducible repeat (first | apply Kd.Y_alloc | apply Kd.Y_drewN | apply Kd.Y_drew)); exact HO_4.out) (by repeat (first | (with_reducible first | exact HB.out | apply below_alloc | apply pw_below_drewN | apply below_drew1 | refine below_set ?_ GE202.out) | exact HB.out)) (Nat.le_refl _) hg); have n3_ := Aside0.mk (ho); clear HO_5; clear BK202; clear HB; clear HO_4; have HO_5 := n0_; have BK202 := n1_; have HB := n2_; have HO207 := n3_; clear n0_ n1_ n2_ n3_; clear ho hg; have hcz38_0 : w37.cell? ⟨gb202, 0, none⟩ = some (.string ((rd_T251 l0 x25_2).f0)) := (blk_cell BK202.out 0).trans rfl; have hcz38_1 : w37.cell? ⟨gb202, 1, none⟩ = some (.int .i64 ((rd_T251 l0 x25_2).f1)) := (blk_cell BK202.out 1).trans rfl; have hcz38_2 : w37.cell? ⟨gb202, 2, none⟩ = some (.int .i64 ((rd_T251 l0 x25_2).f2)) := (blk_cell BK202.out 2).trans rfl; have hfz38_0 := blk_frozen BK202.out 0; have hfz38_1 := blk_frozen BK202.out 1; have hfz38_2 := blk_frozen BK202.out 2))
                                        repeat (go_quiet (first | ((with_reducible refine Kd.gate_mupd (t := 348) (p := (.tmp 50)) (x := (.tmp 52)) (y := (.tmp 53)) rfl ?_); refine Kd.Y_put my348 (t := 348) (base := w.heap.size) (ok := (fun _ => True)) rfl rfl (.tmp 50) (.tmp 52) (.tmp 53) rfl rfl v196 x4_2 ((rd_T251 l0 x25_2).f0) x25_2 rfl (by first | rfl | (go_simp; done) | (go_simp; rfl)) (by first | rfl | (go_simp; done) | (go_simp; rfl)) ?aO (show okS _ from ((of_decide_eq_true (by first | (with_reducible assumption) | assumption)) : ((rd_T251 l0 x25_2).f0).size ≤ 9223372036854775807)) (show okI _ from ⟨((of_decide_eq_true (by first | (with_reducible assumption) | assumption)) : -9223372036854775808 ≤ x25_2), ((of_decide_eq_true (by first | (with_reducible assumption) | assumption)) : x25_2 ≤ 9223372036854775807)⟩) LMc31.out ?_; (case aO => exact (by (with_reducible repeat (first | apply Kd.Y_alloc | apply Kd.Y_drewN | apply Kd.Y_drew)); exact HO_4.out)); intro w37 ho hg; rw [← Ny206.out] at ho; have n0_ := Aside0.mk (Kd.R_turn (by (with_reducible repeat (first | apply Kd.R_alloc | apply Kd.R_drewN | apply Kd.R_drew)); exact HO_5.out) (by (with_reducible repeat (first | apply Kd.Y_alloc | apply Kd.Y_drewN | apply Kd.Y_drew)); exact HO_4.out) hg); have n1_ := Aside0.mk (Kd.blk_turn (by (with_reducible repeat (first | refine blk_drewN ?_ _ | refine blk_drew ?_ | refine blk_alloc ?_ _)); exact BK202.out) (by (with_reducible repeat (first | apply Kd.Y_alloc | apply Kd.Y_drewN | apply Kd.Y_drew)); exact HO_4.out) hg); have n2_ := Aside0.mk (Kd.below_turn (by (with_reducible repeat (first | apply Kd.Y_alloc | apply Kd.Y_drewN | apply Kd.Y_drew)); exact HO_4.out) (by repeat (first | (with_reducible first | exact HB.out | apply below_alloc | apply pw_below_drewN | apply below_drew1 | refine below_set ?_ GE202.out) | exact HB.out)) (Nat.le_refl _) hg); have n3_ := Aside0.mk (ho); clear HO_5; clear BK202; clear HB; clear HO_4; have HO_5 := n0_; have BK202 := n1_; have HB := n2_; have HO207 := n3_; clear n0_ n1_ n2_ n3_; clear ho hg; have hcz38_0 : w37.cell? ⟨gb202, 0, none⟩ = some (.string ((rd_T251 l0 x25_2).f0)) := (blk_cell BK202.out 0).trans rfl; have hcz38_1 : w37.cell? ⟨gb202, 1, none⟩ = some (.int .i64 ((rd_T251 l0 x25_2).f1)) := (blk_cell BK202.out 1).trans rfl; have hcz38_2 : w37.cell? ⟨gb202, 2, none⟩ = some (.int .i64 ((rd_T251 l0 x25_2).f2)) := (blk_cell BK202.out 2).trans rfl; have hfz38_0 := blk_frozen BK202.out 0; have hfz38_1 := blk_frozen BK202.out 1; have hfz38_2 := blk_frozen BK202.out 2)); try go_wp2_with (first | ((with_reducible refine Kd.gate_mupd (t := 348) (p := (.tmp 50)) (x := (.tmp 52)) (y := (.tmp 53)) rfl ?_); refine Kd.Y_put my348 (t := 348) (base := w.heap.size) (ok := (fun _ => True)) rfl rfl (.tmp 50) (.tmp 52) (.tmp 53) rfl rfl v196 x4_2 ((rd_T251 l0 x25_2).f0) x25_2 rfl (by first | rfl | (go_simp; done) | (go_simp; rfl)) (by first | rfl | (go_simp; done) | (go_simp; rfl)) ?aO (show okS _ from ((of_decide_eq_true (by first | (with_reducible assumption) | assumption)) : ((rd_T251 l0 x25_2).f0).size ≤ 9223372036854775807)) (show okI _ from ⟨((of_decide_eq_true (by first | (with_reducible assumption) | assumption)) : -9223372036854775808 ≤ x25_2), ((of_decide_eq_true (by first | (with_reducible assumption) | assumption)) : x25_2 ≤ 9223372036854775807)⟩) LMc31.out ?_; (case aO => exact (by (with_reducible repeat (first | apply Kd.Y_alloc | apply Kd.Y_drewN | apply Kd.Y_drew)); exact HO_4.out)); intro w37 ho hg; rw [← Ny206.out] at ho; have n0_ := Aside0.mk (Kd.R_turn (by (with_reducible repeat (first | apply Kd.R_alloc | apply Kd.R_drewN | apply Kd.R_drew)); exact HO_5.out) (by (with_reducible repeat (first | apply Kd.Y_alloc | apply Kd.Y_drewN | apply Kd.Y_drew)); exact HO_4.out) hg); have n1_ := Aside0.mk (Kd.blk_turn (by (with_reducible repeat (first | refine blk_drewN ?_ _ | refine blk_drew ?_ | refine blk_alloc ?_ _)); exact BK202.out) (by (with_reducible repeat (first | apply Kd.Y_alloc | apply Kd.Y_drewN | apply Kd.Y_drew)); exact HO_4.out) hg); have n2_ := Aside0.mk (Kd.below_turn (by (with_reducible repeat (first | apply Kd.Y_alloc | apply Kd.Y_drewN | apply Kd.Y_drew)); exact HO_4.out) (by repeat (first | (with_reducible first | exact HB.out | apply below_alloc | apply pw_below_drewN | apply below_drew1 | refine below_set ?_ GE202.out) | exact HB.out)) (Nat.le_refl _) hg); have n3_ := Aside0.mk (ho); clear HO_5; clear BK202; clear HB; clear HO_4; have HO_5 := n0_; have BK202 := n1_; have HB := n2_; have HO207 := n3_; clear n0_ n1_ n2_ n3_; clear ho hg; have hcz38_0 : w37.cell? ⟨gb202, 0, none⟩ = some (.string ((rd_T251 l0 x25_2).f0)) := (blk_cell BK202.out 0).trans rfl; have hcz38_1 : w37.cell? ⟨gb202, 1, none⟩ = some (.int .i64 ((rd_T251 l0 x25_2).f1)) := (blk_cell BK202.out 1).trans rfl; have hcz38_2 : w37.cell? ⟨gb202, 2, none⟩ = some (.int .i64 ((rd_T251 l0 x25_2).f2)) := (blk_cell BK202.out 2).trans rfl; have hfz38_0 := blk_frozen BK202.out 0; have hfz38_1 := blk_frozen BK202.out 1; have hfz38_2 := blk_frozen BK202.out 2)))
                                        go_loopg [10] kj14 (fun kq v10 w' => ∃ (x10_4 : Int), v10 = .int .i64 x10_4 ∧ Aside0 (impl_depths.l1 kq l0 y206 x5_2 x25_2 x10_4 l0 (l0.length : Int) x25_2 ((rd_T251 l0 x25_2).f0) ((rd_T251 l0 x25_2).f1) ((rd_T251 l0 x25_2).f2) = some (r1, r2)) ∧ Aside0 (kq ≤ kj14) ∧ Aside0 (Kd.Y my348 348 w' w.heap.size (fun _ => True) v196 y206) ∧ Aside0 (Kd.R (Kd.int .i64) 3 w' w.heap.size (fun _ => True) v199 x5_2) ∧ Aside0 (w'.heap[gb202]? = some (.cells #[.string ((rd_T251 l0 x25_2).f0), .int .i64 ((rd_T251 l0 x25_2).f1), .int .i64 ((rd_T251 l0 x25_2).f2)] 251 (0, 0))) ∧ Aside0 (Below w.heap.size w w'))
                                        case atStart => exact ⟨(wrap64 (x25_2 - 1)), (by first | rfl | (simp; done) | (simp [*]; done)), H', ⟨Nat.le_refl _⟩, ⟨by (with_reducible repeat (first | apply Kd.Y_alloc | apply Kd.Y_drewN | apply Kd.Y_drew)); exact HO207.out⟩, ⟨by (with_reducible repeat (first | apply Kd.R_alloc | apply Kd.R_drewN | apply Kd.R_drew)); exact HO_5.out⟩, ⟨by (with_reducible repeat (first | refine blk_drewN ?_ _ | refine blk_drew ?_ | refine blk_alloc ?_ _)); exact BK202.out⟩, ⟨by repeat (first | (with_reducible first | exact HB.out | apply below_alloc | apply pw_below_drewN | apply below_drew1 | refine below_set ?_ GE202.out) | exact HB.out)⟩⟩
                                        case round =>
                                          clear H'
                                          try clear c1
                                          try clear c2
                                          try clear p2
                                          try clear q2
                                          try clear hx2
                                          try clear hcv2
                                          try clear c3
                                          try clear c3b0
                                          try clear c3b1
                                          try clear c4
                                          try clear c5
                                          try clear c5b0
                                          try clear c5b1
                                          try clear c6
                                          try clear c6b0
                                          try clear c6b1
                                          try clear p6
                                          try clear c11
                                          try clear c11b0
                                          try clear c12
                                          try clear c12b0
                                          try clear c13
                                          try clear c13b0
                                          try clear c14
                                          try clear c14b0
                                          try clear c14b1
                                          try clear c14b2
                                          try clear p20
                                          try clear q20
                                          try clear hx20
                                          try clear hcv20
                                          try clear c21
                                          try clear c23
                                          try clear c27
                                          try clear c28
                                          try clear c28b0
                                          try clear c28b1
                                          try clear c28b2
                                          try clear c29
                                          try clear c29b0
                                          try clear c29b1
                                          try clear c30
                                          try clear c30b0
                                          try clear c30b1
                                          try clear c30b2
                                          try clear c31
                                          try clear c32
                                          try clear c32b0
                                          try clear c32b1
                                          try clear hcz17_0
                                          try clear hcz17_1
                                          try clear hcz17_2
                                          try clear hcz19_0
                                          try clear hcz19_1
                                          try clear hcz19_2
                                          try clear hcz25_0
                                          try clear hcz25_1
                                          try clear hcz25_2
                                          try clear hcz26_0
                                          try clear hcz26_1
                                          try clear hcz26_2
                                          try clear hcz33_0
                                          try clear hcz33_1
                                          try clear hcz33_2
                                          try clear hcz35_0
                                          try clear hcz35_1
                                          try clear hcz35_2
                                          try clear hcz36_0
                                          try clear hcz36_1
                                          try clear hcz36_2
                                          try clear hcz38_0
                                          try clear hcz38_1
                                          try clear hcz38_2
                                          try clear hfz17_0
                                          try clear hfz17_1
                                          try clear hfz17_2
                                          try clear hfz19_0
                                          try clear hfz19_1
                                          try clear hfz19_2
                                          try clear hfz25_0
                                          try clear hfz25_1
                                          try clear hfz25_2
                                          try clear hfz26_0
                                          try clear hfz26_1
                                          try clear hfz26_2
                                          try clear hfz33_0
                                          try clear hfz33_1
                                          try clear hfz33_2
                                          try clear hfz35_0
                                          try clear hfz35_1
                                          try clear hfz35_2
                                          try clear hfz36_0
                                          try clear hfz36_1
                                          try clear hfz36_2
                                          try clear hfz38_0
                                          try clear hfz38_1
                                          try clear hfz38_2
                                          try clear hx201_0
                                          try clear hx201_1
                                          try clear hx201_2
                                          try clear p2
                                          try clear p20
                                          try clear p201
                                          try clear q2
                                          try clear q20
                                          try clear q201
                                          obtain ⟨x10_4, rfl, HA, HK4, HO_4, HO_5, BK202, HB⟩ := hrel
                                          cases gk with
                                          | zero => exact absurd HA.out (by simp [impl_depths.l1])
                                          | succ k4 =>
                                            have H := HA.out
                                            clear HA
                                            simp only [impl_depths.l1] at H
                                            by_cases c39 : x10_4 ≥ 0
                                            · rw [if_pos c39] at H
                                              have c39b0 : decide (0 ≤ x10_4) = true := decide_eq_true c39
                                              clear c39
                                              by_cases c40 : x10_4 = ((rd_T251 l0 x25_2).f1)
                                              · rw [if_pos c40] at H
                                                have c40b0 : (x10_4 == ((rd_T251 l0 x25_2).f1)) = true := beq_iff_eq.mpr c40
                                                have c40b1 : (x10_4 != ((rd_T251 l0 x25_2).f1)) = false := bne_eq_false_iff_eq.mpr c40
                                                clear c40
                                                by_cases c41 : x10_4 < 0
                                                · rw [if_pos c41] at H
                                                  have c41b0 : decide (x10_4 < 0) = true := decide_eq_true c41
                                                  clear c41
                                                  simp only [Option.some.injEq, Prod.mk.injEq] at H
                                                  obtain ⟨rfl, rfl⟩ := H
                                                  have hcz42_0 : wr.cell? ⟨gb202, 0, none⟩ = some (.string ((rd_T251 l0 x25_2).f0)) := (blk_cell BK202.out 0).trans rfl
                                                  have hcz42_1 : wr.cell? ⟨gb202, 1, none⟩ = some (.int .i64 ((rd_T251 l0 x25_2).f1)) := (blk_cell BK202.out 1).trans rfl
                                                  have hcz42_2 : wr.cell? ⟨gb202, 2, none⟩ = some (.int .i64 ((rd_T251 l0 x25_2).f2)) := (blk_cell BK202.out 2).trans rfl
                                                  have hfz42_0 := blk_frozen BK202.out 0
                                                  have hfz42_1 := blk_frozen BK202.out 1
                                                  have hfz42_2 := blk_frozen BK202.out 2
                                                  go_wp2
                                                  repeat (go_quiet (fail); try go_wp2)
                                                  go_ret2
                                                  exact ⟨_, by first | rfl | (simp [errW_none, errW_some] <;> rfl) | (simp [*, errW_none, errW_some] <;> rfl), by first | exact Kd.R_nil _ _ _ _ _ | exact Kd.N_nil _ _ _ _ _ | exact Kd.V_nil _ _ _ _ _ | exact Kd.Q_nil _ _ _ _ _ | exact Kd.S_nil _ _ _ _ _, by repeat (first | (with_reducible first | exact HB.out | apply below_alloc | apply pw_below_drewN | apply below_drew1 | refine below_set ?_ GE202.out) | exact HB.out)⟩
                                                · rw [if_neg c41] at H
                                                  have c41b0 : decide (x10_4 < 0) = false := decide_eq_false c41
                                                  clear c41
                                                  by_cases c43 : 0 ≤ x10_4
                                                  · rw [if_pos c43] at H
                                                    have c43b0 : decide (0 ≤ x10_4) = true := decide_eq_true c43
                                                    clear c43
                                                    by_cases c44 : x10_4 < (l0.length : Int)
                                                    · rw [if_pos c44] at H
                                                      have c44b0 : decide (x10_4 < (l0.length : Int)) = true := decide_eq_true c44
                                                      clear c44
                                                      by_cases c45 : ((rd_T251 l0 x10_4).f2) = ((rd_T251 l0 x25_2).f2)
                                                      · rw [if_pos c45] at H
                                                        have c45b0 : (((rd_T251 l0 x10_4).f2) == ((rd_T251 l0 x25_2).f2)) = true := beq_iff_eq.mpr c45
                                                        have c45b1 : (((rd_T251 l0 x10_4).f2) != ((rd_T251 l0 x25_2).f2)) = false := bne_eq_false_iff_eq.mpr c45
                                                        clear c45
                                                        by_cases c46 : x10_4 < (x5_2.length : Int)
                                                        · rw [if_pos c46] at H
                                                          have c46b0 : decide (x10_4 < (x5_2.length : Int)) = true := decide_eq_true c46
                                                          clear c46
                                                          by_cases c47 : (rd x5_2 x10_4) ≥ 8
                                                          · rw [if_pos c47] at H
                                                            have c47b0 : decide (8 ≤ (rd x5_2 x10_4)) = true := decide_eq_true c47
                                                            clear c47
                                                            simp only [Option.some.injEq, Prod.mk.injEq] at H
                                                            obtain ⟨rfl, rfl⟩ := H
                                                            have hcz48_0 : wr.cell? ⟨gb202, 0, none⟩ = some (.string ((rd_T251 l0 x25_2).f0)) := (blk_cell BK202.out 0).trans rfl
                                                            have hcz48_1 : wr.cell? ⟨gb202, 1, none⟩ = some (.int .i64 ((rd_T251 l0 x25_2).f1)) := (blk_cell BK202.out 1).trans rfl
                                                            have hcz48_2 : wr.cell? ⟨gb202, 2, none⟩ = some (.int .i64 ((rd_T251 l0 x25_2).f2)) := (blk_cell BK202.out 2).trans rfl
                                                            have hfz48_0 := blk_frozen BK202.out 0
                                                            have hfz48_1 := blk_frozen BK202.out 1
                                                            have hfz48_2 := blk_frozen BK202.out 2
                                                            have p208 : 0 ≤ (x10_4 : Int) := of_decide_eq_true (by first | (with_reducible assumption) | assumption)
                                                            have q208 : x10_4 < (l0.length : Int) := of_decide_eq_true (by first | (with_reducible assumption) | assumption)
                                                            obtain ⟨ad208, e208, hx208_0, hx208_1, hx208_2⟩ := at_T251 HR0.out x10_4 p208 q208
                                                            obtain rfl : ad201 = ad208 := (by injection e208)
                                                            replace hx208_0 := (HB.out.cell (World.block_lt_of_cell? w _ hx208_0)).trans hx208_0
                                                            replace hx208_1 := (HB.out.cell (World.block_lt_of_cell? w _ hx208_1)).trans hx208_1
                                                            replace hx208_2 := (HB.out.cell (World.block_lt_of_cell? w _ hx208_2)).trans hx208_2
                                                            replace p208 := eq_true p208
                                                            replace q208 := eq_true q208
                                                            obtain ⟨Ao49, co49, eo49⟩ := Kd.R_slice HO_5.out
                                                            subst eo49
                                                            have p209 : 0 ≤ (x10_4 : Int) := of_decide_eq_true (by first | (with_reducible assumption) | assumption)
                                                            have q209 : x10_4 < (x5_2.length : Int) := of_decide_eq_true (by first | (with_reducible assumption) | assumption)
                                                            obtain ⟨ad209, e209, hx209_0⟩ := Kd.at_int (Kd.R_reads' HO_5.out).2.2 x10_4 p209 q209
                                                            cases e209
                                                            replace p209 := eq_true p209
                                                            replace q209 := eq_true q209
                                                            go_wp2
                                                            repeat (go_quiet (fail); try go_wp2)
                                                            go_ret2
                                                            exact ⟨_, by first | rfl | (simp [errW_none, errW_some] <;> rfl) | (simp [*, errW_none, errW_some] <;> rfl), by first | exact Kd.R_nil _ _ _ _ _ | exact Kd.N_nil _ _ _ _ _ | exact Kd.V_nil _ _ _ _ _ | exact Kd.Q_nil _ _ _ _ _ | exact Kd.S_nil _ _ _ _ _, by repeat (first | (with_reducible first | exact HB.out | apply below_alloc | apply pw_below_drewN | apply below_drew1 | refine below_set ?_ GE202.out) | exact HB.out)⟩
                                                          · rw [if_neg c47] at H
                                                            have c47b0 : decide (8 ≤ (rd x5_2 x10_4)) = false := decide_eq_false c47
                                                            clear c47
                                                            by_cases c50 : 0 ≤ x25_2
                                                            · rw [if_pos c50] at H
                                                              have c50b0 : decide (0 ≤ x25_2) = true := decide_eq_true c50
                                                              clear c50
                                                              by_cases c51 : x25_2 < (x5_2.length : Int)
                                                              · rw [if_pos c51] at H
                                                                have c51b0 : decide (x25_2 < (x5_2.length : Int)) = true := decide_eq_true c51
                                                                clear c51
                                                                obtain ⟨y211, hy211⟩ : ∃ y_ : List Int, y_ = (x5_2.set (x25_2 : Int).toNat (wrap64 ((rd x5_2 x10_4) + 1))) := ⟨_, rfl⟩
                                                                replace H : (impl_depths.l0 k4 l0 y206 y211 l0 (l0.length : Int) (wrap64 (x25_2 + 1))) = some (r1, r2) := by first | (rw [hy211]; with_reducible exact H) | (have H2_ := (Option.bind_some _ _).symm.trans H; rw [hy211]; with_reducible exact H2_) | (have H2_ := (Option.bind_some _ _).symm.trans H; with_reducible exact H2_) | with_reducible exact H | (rw [hy211]; exact H) | exact H
                                                                have Ny211 := Aside0.mk hy211
                                                                clear hy211
                                                                have H' := Aside0.mk H
                                                                clear H
                                                                have hcz53_0 : wr.cell? ⟨gb202, 0, none⟩ = some (.string ((rd_T251 l0 x25_2).f0)) := (blk_cell BK202.out 0).trans rfl
                                                                have hcz53_1 : wr.cell? ⟨gb202, 1, none⟩ = some (.int .i64 ((rd_T251 l0 x25_2).f1)) := (blk_cell BK202.out 1).trans rfl
                                                                have hcz53_2 : wr.cell? ⟨gb202, 2, none⟩ = some (.int .i64 ((rd_T251 l0 x25_2).f2)) := (blk_cell BK202.out 2).trans rfl
                                                                have hfz53_0 := blk_frozen BK202.out 0
                                                                have hfz53_1 := blk_frozen BK202.out 1
                                                                have hfz53_2 := blk_frozen BK202.out 2
                                                                have p208 : 0 ≤ (x10_4 : Int) := of_decide_eq_true (by first | (with_reducible assumption) | assumption)
                                                                have q208 : x10_4 < (l0.length : Int) := of_decide_eq_true (by first | (with_reducible assumption) | assumption)
                                                                obtain ⟨ad208, e208, hx208_0, hx208_1, hx208_2⟩ := at_T251 HR0.out x10_4 p208 q208
                                                                obtain rfl : ad201 = ad208 := (by injection e208)
                                                                replace hx208_0 := (HB.out.cell (World.block_lt_of_cell? w _ hx208_0)).trans hx208_0
                                                                replace hx208_1 := (HB.out.cell (World.block_lt_of_cell? w _ hx208_1)).trans hx208_1
                                                                replace hx208_2 := (HB.out.cell (World.block_lt_of_cell? w _ hx208_2)).trans hx208_2
                                                                replace p208 := eq_true p208
                                                                replace q208 := eq_true q208
                                                                obtain ⟨Ao54, co54, eo54⟩ := Kd.R_slice HO_5.out
                                                                subst eo54
                                                                have p209 : 0 ≤ (x10_4 : Int) := of_decide_eq_true (by first | (with_reducible assumption) | assumption)
                                                                have q209 : x10_4 < (x5_2.length : Int) := of_decide_eq_true (by first | (with_reducible assumption) | assumption)
                                                                obtain ⟨ad209, e209, hx209_0⟩ := Kd.at_int (Kd.R_reads' HO_5.out).2.2 x10_4 p209 q209
                                                                cases e209
                                                                replace p209 := eq_true p209
                                                                replace q209 := eq_true q209
                                                                have p210 : 0 ≤ (x10_4 : Int) := of_decide_eq_true (by first | (with_reducible assumption) | assumption)
                                                                have q210 : x10_4 < (x5_2.length : Int) := of_decide_eq_true (by first | (with_reducible assumption) | assumption)
                                                                obtain ⟨ad210, e210, hx210_0⟩ := Kd.at_int (Kd.R_reads' HO_5.out).2.2 x10_4 p210 q210
                                                                obtain rfl : ad209 = ad210 := (by injection e210)
                                                                replace p210 := eq_true p210
                                                                replace q210 := eq_true q210
                                                                have p52 : 0 ≤ (x25_2 : Int) := of_decide_eq_true (by first | (with_reducible assumption) | assumption)
                                                                have q52 : (x25_2 : Int) < ((x5_2.length : Int) : Int) := of_decide_eq_true (by first | (with_reducible assumption) | assumption)
                                                                obtain ⟨go52, co52, eo52, gb52, gl52, cl52, HG52⟩ := Kd.R_form HO_5.out (by omega)
                                                                (first | cases eo52 | (injection eo52 with ea_ en_ ec_; (first | subst ea_ | (injection ea_ with ea_; subst ea_)); subst ec_; clear en_))
                                                                have GB52 := Aside0.mk gb52
                                                                have GG52 := Aside0.mk HG52
                                                                clear gb52 gl52 HG52
                                                                (first | simp only [add_plain] at hx209_0 | skip)
                                                                (first | simp only [add_plain] at hx210_0 | skip)
                                                                obtain ⟨hx52_0, hf52_0⟩ := Kd.R_celln 0 HO_5.out (x25_2 : Int) p52 q52
                                                                replace p52 := eq_true p52
                                                                replace q52 := eq_true q52
                                                                have HP55 := Kd.R_putg HO_5.out (x25_2 : Int) (wrap64 ((rd x5_2 x10_4) + 1))
                                                                go_wp2_with (first | ((with_reducible refine gate_store (t := 3) (p := 98) rfl ?_); (try (rw [drewN_self wr]; generalize hq_ : World.drewN wr _ = wr; have n0_ := Aside0.mk (Kd.Y_at hq_ HO_4.out); have n1_ := Aside0.mk (Kd.R_at hq_ HO_5.out); have n2_ := Aside0.mk (blk_at hq_ BK202.out); have n3_ := Aside0.mk (below_at hq_ HB.out); clear hq_ HO_4 HO_5 BK202 HB; have HO_4 := n0_; have HO_5 := n1_; have BK202 := n2_; have HB := n3_; clear n0_ n1_ n2_ n3_; (try (have p52 : 0 ≤ (x25_2 : Int) := of_decide_eq_true (by first | (with_reducible assumption) | assumption))); (try (have q52 : (x25_2 : Int) < ((x5_2.length : Int) : Int) := of_decide_eq_true (by first | (with_reducible assumption) | assumption))); (try (obtain ⟨go52, co52, eo52, gb52, gl52, cl52, HG52⟩ := Kd.R_form HO_5.out (by omega))); (try (first | cases eo52 | (injection eo52 with ea_ en_ ec_; (first | subst ea_ | (injection ea_ with ea_; subst ea_)); subst ec_; clear en_))); (try (have GB52 := Aside0.mk gb52)); (try (have GG52 := Aside0.mk HG52)); (try (clear gb52 gl52 HG52)); (try (first | simp only [add_plain] at hx209_0 | skip)); (try (first | simp only [add_plain] at hx210_0 | skip)); (try (obtain ⟨hx52_0, hf52_0⟩ := Kd.R_celln 0 HO_5.out (x25_2 : Int) p52 q52)); (try (replace p52 := eq_true p52)); (try (replace q52 := eq_true q52)); (try (have HP55 := Kd.R_putg HO_5.out (x25_2 : Int) (wrap64 ((rd x5_2 x10_4) + 1)))))); refine store_event (t := 3) (p := 98) (v := ?vo_w56) (w1 := (wr.setCell ⟨go52, (x25_2 : Int).toNat, none⟩ (.int .i64 (wrap64 ((rd x5_2 x10_4) + 1))))) ?hg ?ho ?hn ?hr ?_; (case ho => rfl); (case hg => rfl); (case hn => rfl); (case hr => first | (go_simp; done) | (go_simp; rfl)); intro w56 hw; have hg : wr.grownBy w56 (some go52) := (by rw [hw]; exact HP55.2); have hp_ : Kd.R (Kd.int .i64) 3 w56 w.heap.size (fun _ => True) (.slice (some ⟨go52, 0, none⟩) x5_2.length co54) y211 := (by rw [hw, Ny211.out]; exact HP55.1); clear HP55; have n0_ := Aside0.mk (Kd.Y_over' (v := (.slice (some ⟨go52, 0, none⟩) x5_2.length co54)) (by (with_reducible repeat (first | apply Kd.Y_alloc | apply Kd.Y_drewN | apply Kd.Y_drew)); exact HO_4.out) (Kd.R_typed HO_5.out) (by decide) hg); have n1_ := Aside0.mk (hp_); have n2_ := Aside0.mk (blk_grown (g := gb202) (o := .cells #[.string ((rd_T251 l0 x25_2).f0), .int .i64 ((rd_T251 l0 x25_2).f1), .int .i64 ((rd_T251 l0 x25_2).f2)] 251 (0, 0)) (by (with_reducible repeat (first | refine blk_drewN ?_ _ | refine blk_drew ?_ | refine blk_alloc ?_ _)); exact BK202.out) hg (Kd.R_ne HO_5.out BK202.out (by decide))); have n3_ := Aside0.mk ((by rw [hw]; exact below_set (HB.out) GB52.out : Below w.heap.size w w56)); clear HO_4; clear HO_5; clear BK202; clear HB; have HO_4 := n0_; have HO_5 := n1_; have BK202 := n2_; have HB := n3_; clear n0_ n1_ n2_ n3_; clear hg hw hp_))
                                                                repeat (go_quiet (first | ((with_reducible refine gate_store (t := 3) (p := 98) rfl ?_); (try (rw [drewN_self wr]; generalize hq_ : World.drewN wr _ = wr; have n0_ := Aside0.mk (Kd.Y_at hq_ HO_4.out); have n1_ := Aside0.mk (Kd.R_at hq_ HO_5.out); have n2_ := Aside0.mk (blk_at hq_ BK202.out); have n3_ := Aside0.mk (below_at hq_ HB.out); clear hq_ HO_4 HO_5 BK202 HB; have HO_4 := n0_; have HO_5 := n1_; have BK202 := n2_; have HB := n3_; clear n0_ n1_ n2_ n3_; (try (have p52 : 0 ≤ (x25_2 : Int) := of_decide_eq_true (by first | (with_reducible assumption) | assumption))); (try (have q52 : (x25_2 : Int) < ((x5_2.length : Int) : Int) := of_decide_eq_true (by first | (with_reducible assumption) | assumption))); (try (obtain ⟨go52, co52, eo52, gb52, gl52, cl52, HG52⟩ := Kd.R_form HO_5.out (by omega))); (try (first | cases eo52 | (injection eo52 with ea_ en_ ec_; (first | subst ea_ | (injection ea_ with ea_; subst ea_)); subst ec_; clear en_))); (try (have GB52 := Aside0.mk gb52)); (try (have GG52 := Aside0.mk HG52)); (try (clear gb52 gl52 HG52)); (try (first | simp only [add_plain] at hx209_0 | skip)); (try (first | simp only [add_plain] at hx210_0 | skip)); (try (obtain ⟨hx52_0, hf52_0⟩ := Kd.R_celln 0 HO_5.out (x25_2 : Int) p52 q52)); (try (replace p52 := eq_true p52)); (try (replace q52 := eq_true q52)); (try (have HP55 := Kd.R_putg HO_5.out (x25_2 : Int) (wrap64 ((rd x5_2 x10_4) + 1)))))); refine store_event (t := 3) (p := 98) (v := ?vo_w56) (w1 := (wr.setCell ⟨go52, (x25_2 : Int).toNat, none⟩ (.int .i64 (wrap64 ((rd x5_2 x10_4) + 1))))) ?hg ?ho ?hn ?hr ?_; (case ho => rfl); (case hg => rfl); (case hn => rfl); (case hr => first | (go_simp; done) | (go_simp; rfl)); intro w56 hw; have hg : wr.grownBy w56 (some go52) := (by rw [hw]; exact HP55.2); have hp_ : Kd.R (Kd.int .i64) 3 w56 w.heap.size (fun _ => True) (.slice (some ⟨go52, 0, none⟩) x5_2.length co54) y211 := (by rw [hw, Ny211.out]; exact HP55.1); clear HP55; have n0_ := Aside0.mk (Kd.Y_over' (v := (.slice (some ⟨go52, 0, none⟩) x5_2.length co54)) (by (with_reducible repeat (first | apply Kd.Y_alloc | apply Kd.Y_drewN | apply Kd.Y_drew)); exact HO_4.out) (Kd.R_typed HO_5.out) (by decide) hg); have n1_ := Aside0.mk (hp_); have n2_ := Aside0.mk (blk_grown (g := gb202) (o := .cells #[.string ((rd_T251 l0 x25_2).f0), .int .i64 ((rd_T251 l0 x25_2).f1), .int .i64 ((rd_T251 l0 x25_2).f2)] 251 (0, 0)) (by (with_reducible repeat (first | refine blk_drewN ?_ _ | refine blk_drew ?_ | refine blk_alloc ?_ _)); exact BK202.out) hg (Kd.R_ne HO_5.out BK202.out (by decide))); have n3_ := Aside0.mk ((by rw [hw]; exact below_set (HB.out) GB52.out : Below w.heap.size w w56)); clear HO_4; clear HO_5; clear BK202; clear HB; have HO_4 := n0_; have HO_5 := n1_; have BK202 := n2_; have HB := n3_; clear n0_ n1_ n2_ n3_; clear hg hw hp_)); try go_wp2_with (first | ((with_reducible refine gate_store (t := 3) (p := 98) rfl ?_); (try (rw [drewN_self wr]; generalize hq_ : World.drewN wr _ = wr; have n0_ := Aside0.mk (Kd.Y_at hq_ HO_4.out); have n1_ := Aside0.mk (Kd.R_at hq_ HO_5.out); have n2_ := Aside0.mk (blk_at hq_ BK202.out); have n3_ := Aside0.mk (below_at hq_ HB.out); clear hq_ HO_4 HO_5 BK202 HB; have HO_4 := n0_; have HO_5 := n1_; have BK202 := n2_; have HB := n3_; clear n0_ n1_ n2_ n3_; (try (have p52 : 0 ≤ (x25_2 : Int) := of_decide_eq_true (by first | (with_reducible assumption) | assumption))); (try (have q52 : (x25_2 : Int) < ((x5_2.length : Int) : Int) := of_decide_eq_true (by first | (with_reducible assumption) | assumption))); (try (obtain ⟨go52, co52, eo52, gb52, gl52, cl52, HG52⟩ := Kd.R_form HO_5.out (by omega))); (try (first | cases eo52 | (injection eo52 with ea_ en_ ec_; (first | subst ea_ | (injection ea_ with ea_; subst ea_)); subst ec_; clear en_))); (try (have GB52 := Aside0.mk gb52)); (try (have GG52 := Aside0.mk HG52)); (try (clear gb52 gl52 HG52)); (try (first | simp only [add_plain] at hx209_0 | skip)); (try (first | simp only [add_plain] at hx210_0 | skip)); (try (obtain ⟨hx52_0, hf52_0⟩ := Kd.R_celln 0 HO_5.out (x25_2 : Int) p52 q52)); (try (replace p52 := eq_true p52)); (try (replace q52 := eq_true q52)); (try (have HP55 := Kd.R_putg HO_5.out (x25_2 : Int) (wrap64 ((rd x5_2 x10_4) + 1)))))); refine store_event (t := 3) (p := 98) (v := ?vo_w56) (w1 := (wr.setCell ⟨go52, (x25_2 : Int).toNat, none⟩ (.int .i64 (wrap64 ((rd x5_2 x10_4) + 1))))) ?hg ?ho ?hn ?hr ?_; (case ho => rfl); (case hg => rfl); (case hn => rfl); (case hr => first | (go_simp; done) | (go_simp; rfl)); intro w56 hw; have hg : wr.grownBy w56 (some go52) := (by rw [hw]; exact HP55.2); have hp_ : Kd.R (Kd.int .i64) 3 w56 w.heap.size (fun _ => True) (.slice (some ⟨go52, 0, none⟩) x5_2.length co54) y211 := (by rw [hw, Ny211.out]; exact HP55.1); clear HP55; have n0_ := Aside0.mk (Kd.Y_over' (v := (.slice (some ⟨go52, 0, none⟩) x5_2.length co54)) (by (with_reducible repeat (first | apply Kd.Y_alloc | apply Kd.Y_drewN | apply Kd.Y_drew)); exact HO_4.out) (Kd.R_typed HO_5.out) (by decide) hg); have n1_ := Aside0.mk (hp_); have n2_ := Aside0.mk (blk_grown (g := gb202) (o := .cells #[.string ((rd_T251 l0 x25_2).f0), .int .i64 ((rd_T251 l0 x25_2).f1), .int .i64 ((rd_T251 l0 x25_2).f2)] 251 (0, 0)) (by (with_reducible repeat (first | refine blk_drewN ?_ _ | refine blk_drew ?_ | refine blk_alloc ?_ _)); exact BK202.out) hg (Kd.R_ne HO_5.out BK202.out (by decide))); have n3_ := Aside0.mk ((by rw [hw]; exact below_set (HB.out) GB52.out : Below w.heap.size w w56)); clear HO_4; clear HO_5; clear BK202; clear HB; have HO_4 := n0_; have HO_5 := n1_; have BK202 := n2_; have HB := n3_; clear n0_ n1_ n2_ n3_; clear hg hw hp_)))
                                                                go_roundg k4
                                                                case measure => have := HJ1.out; have := HK2.out; have := HJ14.out; have := HK4.out; omega
                                                                case rel => exact ⟨(y206), (y211), (wrap64 (x25_2 + 1)), (by first | rfl | (simp; done) | (simp [*]; done)), H', ⟨by have := HJ1.out; have := HK2.out; have := HJ14.out; have := HK4.out; omega⟩, ⟨by (with_reducible repeat (first | apply Kd.Y_alloc | apply Kd.Y_drewN | apply Kd.Y_drew)); exact HO_4.out⟩, ⟨by (with_reducible repeat (first | apply Kd.R_alloc | apply Kd.R_drewN | apply Kd.R_drew)); exact HO_5.out⟩, ⟨by repeat (first | (with_reducible first | exact HB.out | apply below_alloc | apply pw_below_drewN | apply below_drew1 | refine below_set ?_ GE202.out) | exact HB.out)⟩⟩
                                                              · rw [if_neg c51] at H
                                                                exact absurd H (by simp)
                                                            · rw [if_neg c50] at H
                                                              exact absurd H (by simp)
                                                        · rw [if_neg c46] at H
                                                          exact absurd H (by simp)
                                                      · rw [if_neg c45] at H
                                                        have c45b0 : (((rd_T251 l0 x10_4).f2) == ((rd_T251 l0 x25_2).f2)) = false := beq_eq_false_iff_ne.mpr c45
                                                        have c45b1 : (((rd_T251 l0 x10_4).f2) != ((rd_T251 l0 x25_2).f2)) = true := bne_iff_ne.mpr c45
                                                        simp only [Option.some.injEq, Prod.mk.injEq] at H
                                                        obtain ⟨rfl, rfl⟩ := H
                                                        have hcz57_0 : wr.cell? ⟨gb202, 0, none⟩ = some (.string ((rd_T251 l0 x25_2).f0)) := (blk_cell BK202.out 0).trans rfl
                                                        have hcz57_1 : wr.cell? ⟨gb202, 1, none⟩ = some (.int .i64 ((rd_T251 l0 x25_2).f1)) := (blk_cell BK202.out 1).trans rfl
                                                        have hcz57_2 : wr.cell? ⟨gb202, 2, none⟩ = some (.int .i64 ((rd_T251 l0 x25_2).f2)) := (blk_cell BK202.out 2).trans rfl
                                                        have hfz57_0 := blk_frozen BK202.out 0
                                                        have hfz57_1 := blk_frozen BK202.out 1
                                                        have hfz57_2 := blk_frozen BK202.out 2
                                                        have p208 : 0 ≤ (x10_4 : Int) := of_decide_eq_true (by first | (with_reducible assumption) | assumption)
                                                        have q208 : x10_4 < (l0.length : Int) := of_decide_eq_true (by first | (with_reducible assumption) | assumption)
                                                        obtain ⟨ad208, e208, hx208_0, hx208_1, hx208_2⟩ := at_T251 HR0.out x10_4 p208 q208
                                                        obtain rfl : ad201 = ad208 := (by injection e208)
                                                        replace hx208_0 := (HB.out.cell (World.block_lt_of_cell? w _ hx208_0)).trans hx208_0
                                                        replace hx208_1 := (HB.out.cell (World.block_lt_of_cell? w _ hx208_1)).trans hx208_1
                                                        replace hx208_2 := (HB.out.cell (World.block_lt_of_cell? w _ hx208_2)).trans hx208_2
                                                        replace p208 := eq_true p208
                                                        replace q208 := eq_true q208
                                                        go_wp2
                                                        repeat (go_quiet (fail); try go_wp2)
                                                        go_ret2
                                                        exact ⟨_, by first | rfl | (simp [errW_none, errW_some] <;> rfl) | (simp [*, errW_none, errW_some] <;> rfl), by first | exact Kd.R_nil _ _ _ _ _ | exact Kd.N_nil _ _ _ _ _ | exact Kd.V_nil _ _ _ _ _ | exact Kd.Q_nil _ _ _ _ _ | exact Kd.S_nil _ _ _ _ _, by repeat (first | (with_reducible first | exact HB.out | apply below_alloc | apply pw_below_drewN | apply below_drew1 | refine below_set ?_ GE202.out) | exact HB.out)⟩
                                                    · rw [if_neg c44] at H
                                                      exact absurd H (by simp)
                                                  · rw [if_neg c43] at H
                                                    exact absurd H (by simp)
                                              · rw [if_neg c40] at H
                                                have c40b0 : (x10_4 == ((rd_T251 l0 x25_2).f1)) = false := beq_eq_false_iff_ne.mpr c40
                                                have c40b1 : (x10_4 != ((rd_T251 l0 x25_2).f1)) = true := bne_iff_ne.mpr c40
                                                by_cases c58 : 0 ≤ x10_4
                                                · rw [if_pos c58] at H
                                                  have c58b0 : decide (0 ≤ x10_4) = true := decide_eq_true c58
                                                  clear c58
                                                  by_cases c59 : x10_4 < (l0.length : Int)
                                                  · rw [if_pos c59] at H
                                                    have c59b0 : decide (x10_4 < (l0.length : Int)) = true := decide_eq_true c59
                                                    clear c59
                                                    have H' := Aside0.mk H
                                                    clear H
                                                    have hcz60_0 : wr.cell? ⟨gb202, 0, none⟩ = some (.string ((rd_T251 l0 x25_2).f0)) := (blk_cell BK202.out 0).trans rfl
                                                    have hcz60_1 : wr.cell? ⟨gb202, 1, none⟩ = some (.int .i64 ((rd_T251 l0 x25_2).f1)) := (blk_cell BK202.out 1).trans rfl
                                                    have hcz60_2 : wr.cell? ⟨gb202, 2, none⟩ = some (.int .i64 ((rd_T251 l0 x25_2).f2)) := (blk_cell BK202.out 2).trans rfl
                                                    have hfz60_0 := blk_frozen BK202.out 0
                                                    have hfz60_1 := blk_frozen BK202.out 1
                                                    have hfz60_2 := blk_frozen BK202.out 2
                                                    have p212 : 0 ≤ (x10_4 : Int) := of_decide_eq_true (by first | (with_reducible assumption) | assumption)
                                                    have q212 : x10_4 < (l0.length : Int) := of_decide_eq_true (by first | (with_reducible assumption) | assumption)
                                                    obtain ⟨ad212, e212, hx212_0, hx212_1, hx212_2⟩ := at_T251 HR0.out x10_4 p212 q212
                                                    obtain rfl : ad201 = ad212 := (by injection e212)
                                                    replace hx212_0 := (HB.out.cell (World.block_lt_of_cell? w _ hx212_0)).trans hx212_0
                                                    replace hx212_1 := (HB.out.cell (World.block_lt_of_cell? w _ hx212_1)).trans hx212_1
                                                    replace hx212_2 := (HB.out.cell (World.block_lt_of_cell? w _ hx212_2)).trans hx212_2
                                                    replace p212 := eq_true p212
                                                    replace q212 := eq_true q212
                                                    go_wp2
                                                    repeat (go_quiet (fail); try go_wp2)
                                                    go_roundg k4
                                                    case measure => have := HJ1.out; have := HK2.out; have := HJ14.out; have := HK4.out; omega
                                                    case rel => exact ⟨((rd_T251 l0 x10_4).f1), (by first | rfl | (simp; done) | (simp [*]; done)), H', ⟨by have := HJ1.out; have := HK2.out; have := HJ14.out; have := HK4.out; omega⟩, ⟨by (with_reducible repeat (first | apply Kd.Y_alloc | apply Kd.Y_drewN | apply Kd.Y_drew)); exact HO_4.out⟩, ⟨by (with_reducible repeat (first | apply Kd.R_alloc | apply Kd.R_drewN | apply Kd.R_drew)); exact HO_5.out⟩, ⟨by (with_reducible repeat (first | refine blk_drewN ?_ _ | refine blk_drew ?_ | refine blk_alloc ?_ _)); exact BK202.out⟩, ⟨by repeat (first | (with_reducible first | exact HB.out | apply below_alloc | apply pw_below_drewN | apply below_drew1 | refine below_set ?_ GE202.out) | exact HB.out)⟩⟩
                                                  · rw [if_neg c59] at H
                                                    exact absurd H (by simp)
                                                · rw [if_neg c58] at H
                                                  exact absurd H (by simp)
                                            · rw [if_neg c39] at H
                                              have c39b0 : decide (0 ≤ x10_4) = false := decide_eq_false c39
                                              clear c39
                                              by_cases c61 : x10_4 < 0
                                              · rw [if_pos c61] at H
                                                have c61b0 : decide (x10_4 < 0) = true := decide_eq_true c61
                                                clear c61
                                                simp only [Option.some.injEq, Prod.mk.injEq] at H
                                                obtain ⟨rfl, rfl⟩ := H
                                                go_wp2
                                                repeat (go_quiet (fail); try go_wp2)
                                                go_ret2
                                                exact ⟨_, by first | rfl | (simp [errW_none, errW_some] <;> rfl) | (simp [*, errW_none, errW_some] <;> rfl), by first | exact Kd.R_nil _ _ _ _ _ | exact Kd.N_nil _ _ _ _ _ | exact Kd.V_nil _ _ _ _ _ | exact Kd.Q_nil _ _ _ _ _ | exact Kd.S_nil _ _ _ _ _, by repeat (first | (with_reducible first | exact HB.out | apply below_alloc | apply pw_below_drewN | apply below_drew1 | refine below_set ?_ GE202.out) | exact HB.out)⟩
                                              · rw [if_neg c61] at H
                                                have c61b0 : decide (x10_4 < 0) = false := decide_eq_false c61
                                                clear c61
                                                by_cases c62 : 0 ≤ x10_4
                                                · rw [if_pos c62] at H
                                                  exact absurd H (by simp)
                                                · rw [if_neg c62] at H
                                                  exact absurd H (by simp)
                                    · rw [if_neg c31] at H
                                      exact absurd H (by simp)
                                  · rw [if_neg c30] at H
                                    exact absurd H (by simp)
                                · rw [if_neg c29] at H
                                  exact absurd H (by simp)
                              · rw [if_neg c28] at H
                                exact absurd H (by simp)
                      · rw [if_neg c14] at H
                        exact absurd H (by simp)
                    · rw [if_neg c13] at H
                      exact absurd H (by simp)
                  · rw [if_neg c12] at H
                    exact absurd H (by simp)
                · rw [if_neg c11] at H
                  have c11b0 : decide (x25_2 < (l0.length : Int)) = false := decide_eq_false c11
                  clear c11
                  simp only [Option.some.injEq, Prod.mk.injEq] at H
                  obtain ⟨rfl, rfl⟩ := H
                  go_wp2
                  repeat (go_quiet (fail); try go_wp2)
                  go_ret2
                  exact ⟨_, by first | rfl | (simp [errW_none, errW_some] <;> rfl) | (simp [*, errW_none, errW_some] <;> rfl), by (with_reducible repeat (first | apply Kd.R_alloc | apply Kd.R_drewN | apply Kd.R_drew)); exact HO_5.out, by repeat (first | (with_reducible first | exact HB.out | apply below_alloc | apply pw_below_drewN | apply below_drew1) | exact HB.out)⟩
          · rw [if_neg c6] at H
            exact absurd H (by simp)
        · rw [if_neg c5] at H
          exact absurd H (by simp)
end Go.Proofs.Ytnbecbgpefmcoaa.PFnExactGroupOk
