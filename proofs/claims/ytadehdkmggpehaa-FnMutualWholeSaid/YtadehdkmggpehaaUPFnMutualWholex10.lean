import Derived.Test.YtadehdkmggpehaaUPFnMutualWholex0
import Derived.Test.YtadehdkmggpehaaUPFnMutualWholex1
import Derived.Test.YtadehdkmggpehaaUPFnMutualWholex9
import Derived.Test.YtadehdkmggpehaaUSlimWords
namespace Go.Proofs.Ytadehdkmggpehaa.PFnMutualWhole
open Go.Proofs.Ytadehdkmggpehaa.SlimWords
open Go.RowKit Go.Proofs.YtadehdkmggpehaaW.PrintWords Go.Proofs.YtadehdkmggpehaaW.PrintLast Go.Proofs.YtadehdkmggpehaaW.PrintMore Go.Proofs.Ytadehdkmggpehaa.MapWords Go.Proofs.Ytadehdkmggpehaa.IterWords Go.Proofs.Ytadehdkmggpehaa.MarkWords Go.Proofs.Ytadehdkmggpehaa.ArrWords
attribute [local go_sem] ptrOf_slice max2_int min2_int max_two min_two max_three min_three max_four min_four
set_option linter.unusedVariables false
set_option linter.unusedSimpArgs false
private abbrev I' := true
private abbrev O' := false
private abbrev L0' : Array Bool := #[O',O',O',O',O',O',O',O',O',O',O',O',O',O',O',O']
private abbrev L1' : Array Bool := #[I',O',O',O',O',O',O',O',O',O',O',O',O',O',O',O']
private abbrev L2' : Array Bool := #[I',I',O',O',O',O',O',O',O',O',O',O',O',O',O',O']
private abbrev L3' : Array Bool := #[I',I',I',O',O',O',O',O',O',O',O',O',O',O',O',O']
private abbrev L4' : Array Bool := #[I',I',I',O',I',O',O',O',O',O',O',O',O',O',O',O']
private abbrev L5' : Array Bool := #[I',I',I',O',I',I',O',O',O',O',O',O',O',O',O',O']
private abbrev L6' : Array Bool := #[I',I',I',O',I',I',I',O',O',O',O',O',O',O',O',O']
private abbrev L7' : Array Bool := #[I',I',I',O',I',I',I',O',I',O',O',O',O',O',O',O']
private abbrev L8' : Array Bool := #[I',I',I',O',I',I',I',O',I',I',O',O',O',O',O',O']
private abbrev L9' : Array Bool := #[I',I',I',O',I',I',I',O',I',I',I',O',O',O',O',O']
private abbrev L10' : Array Bool := #[I',I',I',I',I',I',I',O',I',I',I',O',O',O',O',O']
private abbrev L11' : Array Bool := #[I',I',I',I',I',I',I',I',I',I',I',O',O',O',O',O']
private abbrev L12' : Array Bool := #[I',I',I',I',I',I',I',I',I',I',I',I',O',O',O',O']
private abbrev L13' : Array Bool := #[I',I',I',I',I',I',I',I',I',I',I',I',I',O',O',O']
private abbrev L14' : Array Bool := #[I',I',I',I',I',I',I',I',I',I',I',I',I',I',O',O']
private abbrev L15' : Array Bool := #[I',I',I',I',I',I',I',I',I',I',I',I',I',I',I',O']
private abbrev L16' : Array Bool := #[I',I',I',I',I',I',I',I',I',I',I',I',I',I',I',I']
mutual
def impl_Mutual.l0 : Nat → List Int → Int → List (List Int) → List Int → Int → Option (List Int × Bool)
  | 0, _, _, _, _, _ => none
  | k + 1, x0, x1, x8, x10, x11 => if x11 < (x0.length : Int) then (if 0 ≤ x11 then (if x11 < (x10.length : Int) then (impl_Mutual.l1 k x0 x1 x8 (x10.set (x11 : Int).toNat (rd x0 x11)) x11 (x8.length : Int) 0) else (none)) else (none)) else (some (x10, true))
def impl_Mutual.l1 : Nat → List Int → Int → List (List Int) → List Int → Int → Int → Int → Option (List Int × Bool)
  | 0, _, _, _, _, _, _, _ => none
  | k + 1, x0, x1, x8, x10, x11, x40, x41 => if x41 < x40 then (if 0 ≤ x11 then (if x11 < (x10.length : Int) then (if 0 ≤ x41 then (if x41 < (x8.length : Int) then (if 0 ≤ (wrap64 (x11 - x1)) then (if (wrap64 (x11 - x1)) < ((rd_L2 x8 x41).length : Int) then (impl_Mutual.l1 k x0 x1 x8 (x10.set (x11 : Int).toNat (wrap64 ((rd x10 x11) + (rd (rd_L2 x8 x41) (wrap64 (x11 - x1)))))) x11 x40 (wrap64 (x41 + 1))) else (none)) else (none)) else (none)) else (none)) else (none)) else (none)) else (impl_Mutual.l0 k x0 x1 x8 x10 (wrap64 (x11 + 1)))
end
def impl_Mutual.f (k : Nat) (l0 : List Int) (a1 : Int) (l2 : List (List Int)) : Option (List Int × Bool) := (impl_mutual.f k l0 a1 l2).bind fun bt439 => (if bt439.2 = true then (if 0 ≤ (l0.length : Int) then (if ((l0.length : Int) : Int).toNat ≤ 35184372088832 then (impl_Mutual.l0 k l0 a1 bt439.1 (List.replicate ((l0.length : Int) : Int).toNat 0) a1) else (none)) else (none)) else (some (([] : List Int), false)))
theorem impl_Mutual.mono_l : ∀ k, (∀ y0 y1 y2 y3 y4, LeO (impl_Mutual.l0 k y0 y1 y2 y3 y4) (impl_Mutual.l0 (k + 1) y0 y1 y2 y3 y4)) ∧ (∀ y0 y1 y2 y3 y4 y5 y6, LeO (impl_Mutual.l1 k y0 y1 y2 y3 y4 y5 y6) (impl_Mutual.l1 (k + 1) y0 y1 y2 y3 y4 y5 y6))
  | 0 => ⟨fun _ _ _ _ _ r h => by simp [impl_Mutual.l0] at h, fun _ _ _ _ _ _ _ r h => by simp [impl_Mutual.l1] at h⟩
  | k + 1 => by
    obtain ⟨ih0, ih1⟩ := impl_Mutual.mono_l k
    refine ⟨?_, ?_⟩
    · intro y0 y1 y2 y3 y4
      unfold impl_Mutual.l0
      repeat' first
      | (with_reducible exact ih0 _ _ _ _ _)
      | (with_reducible exact ih1 _ _ _ _ _ _ _)
      | (with_reducible exact impl_mutual.mono _ _ _ _)
      | (with_reducible exact LeO.refl _)
      | (with_reducible exact LeO.none _)
      | (with_reducible refine LeO.ite ?_ ?_)
      | (with_reducible refine LeO.bind ?_ (fun _ => ?_))
      | exact ih0 _ _ _ _ _
      | exact ih1 _ _ _ _ _ _ _
      | exact impl_mutual.mono _ _ _ _
      | exact LeO.none _
      | refine LeO.ite ?_ ?_
      | refine LeO.bind ?_ (fun _ => ?_)
    · intro y0 y1 y2 y3 y4 y5 y6
      unfold impl_Mutual.l1
      repeat' first
      | (with_reducible exact ih0 _ _ _ _ _)
      | (with_reducible exact ih1 _ _ _ _ _ _ _)
      | (with_reducible exact impl_mutual.mono _ _ _ _)
      | (with_reducible exact LeO.refl _)
      | (with_reducible exact LeO.none _)
      | (with_reducible refine LeO.ite ?_ ?_)
      | (with_reducible refine LeO.bind ?_ (fun _ => ?_))
      | exact ih0 _ _ _ _ _
      | exact ih1 _ _ _ _ _ _ _
      | exact impl_mutual.mono _ _ _ _
      | exact LeO.none _
      | refine LeO.ite ?_ ?_
      | refine LeO.bind ?_ (fun _ => ?_)
theorem impl_Mutual.mono : ∀ a0 a1 a2 k, LeO (impl_Mutual.f k a0 a1 a2) (impl_Mutual.f (k + 1) a0 a1 a2) := by
 intro a0 a1 a2 k
 obtain ⟨ih0, ih1⟩ := impl_Mutual.mono_l k
 unfold impl_Mutual.f
 repeat' first
     | (with_reducible exact ih0 _ _ _ _ _)
     | (with_reducible exact ih1 _ _ _ _ _ _ _)
     | (with_reducible exact impl_mutual.mono _ _ _ _)
     | (with_reducible exact LeO.refl _)
     | (with_reducible exact LeO.none _)
     | (with_reducible refine LeO.ite ?_ ?_)
     | (with_reducible refine LeO.bind ?_ (fun _ => ?_))
     | exact ih0 _ _ _ _ _
     | exact ih1 _ _ _ _ _ _ _
     | exact impl_mutual.mono _ _ _ _
     | exact LeO.none _
     | refine LeO.ite ?_ ?_
     | refine LeO.bind ?_ (fun _ => ?_)
def impl_Mutual.T12 : Bool × List (List Nat × List Nat) := (true, [([], []), ([], []), ([0, 1], [0, 1]), ([2], [2]), ([], []), ([], []), ([4, 5], [4, 5]), ([6], [6]), ([], []), ([], []), ([8, 9], [8, 9]), ([7, 10], [7, 10]), ([11], [11]), ([3, 12], [3, 12]), ([0, 1, 0, 1, 2, 3, 4, 5, 6, 7, 8, 9, 10, 11, 12, 13], [0, 1]), ([14, 13, 0, 1, 2, 3, 4, 5, 6, 7, 8, 9, 10, 11, 12, 13], [13, 14])])
def impl_Mutual.B12 : List Nat := [0, 0, 3, 7, 0, 0, 48, 112, 0, 0, 768, 2032, 4080, 8191, 16383, 32767]
theorem impl_Mutual.tab12 : rtab .any (opsOf Try.f9 12) = impl_Mutual.T12 := by kernel_rfl
theorem impl_Mutual.bits12 : waitsOk impl_Mutual.T12.2 impl_Mutual.B12 = true := by kernel_rfl
set_option maxHeartbeats 8000000 in
set_option maxRecDepth 100000 in
theorem impl_Mutual.calls (k : Nat) (A0 : Option Addr) (c0 : Nat) (l0 : List Int) (a1 : Int) (A2 : Option Addr) (c2 : Nat) (l2 : List (List Int)) (r1 : List Int) (r2 : Bool) (w : World) (hr0 : Kd.C (Kd.int .i64) w A0 l0.length l0) (hc0 : l0.length ≤ c0) (hr2 : Kd.C (Kd.slice 3 (Kd.int .i64)) w A2 l2.length l2) (hc2 : l2.length ≤ c2) (h : impl_Mutual.f k l0 a1 l2 = some (r1, r2)) :
    Calls Try.prog 9 #[.slice A0 l0.length c0, .int .i64 a1, .slice A2 l2.length c2] w fun e w' => ∃ v0_ : Value, e = .returned (.tuple #[v0_, .bool r2]) ∧ Kd.R (Kd.int .i64) 3 w' w.heap.size (fun _ => True) v0_ r1 ∧ Below w.heap.size w w' := by
 have HR0 := Aside0.mk hr0; have HC0 := Aside0.mk hc0; clear hr0 hc0; have HR2 := Aside0.mk hr2; have HC2 := Aside0.mk hc2; clear hr2 hc2; have HB := aZ (Below.refl w.heap.size w); have H : ((impl_mutual.f k l0 a1 l2).bind fun bt439 => (if bt439.2 = true then (if 0 ≤ (l0.length : Int) then (if ((l0.length : Int) : Int).toNat ≤ 35184372088832 then (impl_Mutual.l0 k l0 a1 bt439.1 (List.replicate ((l0.length : Int) : Int).toNat 0) a1) else (none)) else (none)) else (some (([] : List Int), false)))) = some (r1, r2) := h; clear h; replace H := Option.bind_eq_some_iff.mp H; obtain ⟨⟨t439, t440⟩, A40, H⟩ := H; replace H : (if t440 = true then (if 0 ≤ (l0.length : Int) then (if ((l0.length : Int) : Int).toNat ≤ 35184372088832 then (impl_Mutual.l0 k l0 a1 t439 (List.replicate ((l0.length : Int) : Int).toNat 0) a1) else (none)) else (none)) else (some (([] : List Int), false))) = some (r1, r2) := H
 have A4 := Aside0.mk A40; clear A40
 by_cases c5 : t440 = true
 rotate_left
 ·replace c5 := Bool.eq_false_iff.mpr c5; subst c5; rw [if_neg Bool.false_ne_true] at H; simp only [Option.some.injEq, Prod.mk.injEq] at H; obtain ⟨rfl, rfl⟩ := H; go_enter Try.func9, Try.ntmps9
  go_wp2_with (first | ((with_reducible refine gate_callee (f := 28) rfl ?_); refine goesL_ (some 17) rfl rfl Try.func28 kZ rfl #[.slice A0 l0.length c0, .int .i64 a1, .slice A2 l2.length c2] rfl tZA ?_; (with_reducible refine (impl_mutual.calls k _ _ l0 a1 _ _ l2 t439 false _ ?side1 ?side2 ?side3 ?side4 A4.out).mono ?_); (case side1 => repeat (first | exact HR0.out | (with_reducible refine Kd.C_alloc ?_ _) | (with_reducible refine Kd.C_drewN ?_ _) | (with_reducible refine Kd.C_drew ?_))); (case side2 => exact HC0.out); (case side3 => repeat (first | exact HR2.out | (with_reducible refine Kd.C_alloc ?_ _) | (with_reducible refine Kd.C_drewN ?_ _) | (with_reducible refine Kd.C_drew ?_))); (case side4 => exact HC2.out); rintro e w29 ⟨v441, rfl, ho0, hb⟩; refine ⟨_, rfl, ?_⟩; have HO442 := aZ (Kd.S_lower ho0 (below_size (lZB HB.out))); replace HB := aZ (below_step (lZB HB.out) hb); (try clear hb); (try clear hb2); (try clear hk); (try clear hi); (try clear ho0)))
  go_ret2; exact ⟨_, tZC, by first | exact Kd.R_nil _ _ _ _ _ | exact Kd.N_nil _ _ _ _ _ | exact Kd.V_nil _ _ _ _ _ | exact Kd.Q_nil _ _ _ _ _ | exact Kd.S_nil _ _ _ _ _, bZ⟩
 subst c5; rw [if_pos rfl] at H
 by_cases c6 : 0 ≤ (l0.length : Int)
 rotate_left
 ·rw [if_neg c6] at H; exact absurd H (by simp)
 rw [if_pos c6] at H; have c6b0 := eq_true c6; have c6b1 := decide_eq_true c6; clear c6
 by_cases c7 : ((l0.length : Int) : Int).toNat ≤ 35184372088832
 rotate_left
 ·rw [if_neg c7] at H; exact absurd H (by simp)
 rw [if_pos c7] at H; have c7b0 := eq_true c7; have c7b1 := decide_eq_true c7; clear c7; obtain ⟨y443, hy443⟩ : ∃ y_ : List Int, y_ = (List.replicate ((l0.length : Int) : Int).toNat 0) := ⟨_, rfl⟩; replace H : (impl_Mutual.l0 k l0 a1 t439 y443 a1) = some (r1, r2) := by first | (rw [hy443]; with_reducible exact H) | (have H2_ := (Option.bind_some _ _).symm.trans H; rw [hy443]; with_reducible exact H2_) | (have H2_ := (Option.bind_some _ _).symm.trans H; with_reducible exact H2_) | with_reducible exact H | (rw [hy443]; exact H) | exact H
 have Ny443 := Aside0.mk hy443; clear hy443; have H' := Aside0.mk H; clear H; go_enter Try.func9, Try.ntmps9
 go_wp2_with (first | ((with_reducible refine gate_callee (f := 28) rfl ?_); refine goesL_ (some 17) rfl rfl Try.func28 kZ rfl #[.slice A0 l0.length c0, .int .i64 a1, .slice A2 l2.length c2] rfl tZA ?_; (with_reducible refine (impl_mutual.calls k _ _ l0 a1 _ _ l2 t439 true _ ?side1 ?side2 ?side3 ?side4 A4.out).mono ?_); (case side1 => repeat (first | exact HR0.out | (with_reducible refine Kd.C_alloc ?_ _) | (with_reducible refine Kd.C_drewN ?_ _) | (with_reducible refine Kd.C_drew ?_))); (case side2 => exact HC0.out); (case side3 => repeat (first | exact HR2.out | (with_reducible refine Kd.C_alloc ?_ _) | (with_reducible refine Kd.C_drewN ?_ _) | (with_reducible refine Kd.C_drew ?_))); (case side4 => exact HC2.out); rintro e w8 ⟨v441, rfl, ho0, hb⟩; refine ⟨_, rfl, ?_⟩; have HO442 := aZ (Kd.S_lower ho0 (below_size (lZB HB.out))); replace HB := aZ (below_step (lZB HB.out) hb); (try clear hb); (try clear hb2); (try clear hk); (try clear hi); (try clear ho0)) | ((with_reducible refine gate_dst (N := 24) rfl ?_); refine Kd.R_make (Kd.int .i64) _ 3 rfl (N := 24) rfl 24 _ _ rfl (l0.length : Int) rfl rfl Try.underlying24 (.int .i64 0) 8 info3 rfl (by decide) (by omega) 0 (ok := fun _ => True) (okp := fun _ => True) rfl (fun _ hk => hk) trivial (of_decide_eq_true tZE) (Nat.le_trans (Nat.mul_le_mul_right _ (of_decide_eq_true tZE : (l0.length : Int).toNat ≤ 35184372088832)) (by omega)) (Below.refl _ _) (Nat.le_refl _) ?_; intro v444 w9 ho10 hb hg_ hnew_; clear hg_ hnew_; (first | rw [← Ny443.out] at ho10 | (simp only [Int.reduceToNat] at ho10; rw [← Ny443.out] at ho10)); replace HO442 := aZ (Kd.S_elder' (lZS HO442.out) (Kd.R_base ho10) hb); have HO445 := aZ (Kd.R_lower ho10 (below_size (lZB HB.out))); replace HB := aZ (below_step (lZB HB.out) hb); clear hb ho10))
 go_loopg [11] k (fun kq v11 w' => ∃ (x10_1 : List Int) (x11_1 : Int), v11 = .int .i64 x11_1 ∧ Aside0 (impl_Mutual.l0 kq l0 a1 t439 x10_1 x11_1 = some (r1, r2)) ∧ Aside0 (kq ≤ k) ∧ Aside0 (Kd.S (Kd.slice 3 (Kd.int .i64)) 24 w' w.heap.size (fun k_ => some k_ ≠ (v444 : Value).ownBlock) v441 t439) ∧ Aside0 (Kd.R (Kd.int .i64) 3 w' w.heap.size (fun _ => True) v444 x10_1) ∧ Aside0 (Below w.heap.size w w'))
 case atStart => exact ⟨(y443), (a1), tZB, H', ⟨Nat.le_refl _⟩, ⟨by (with_reducible repeat (first | apply Kd.S_alloc | apply Kd.S_drewN | apply Kd.S_drew)); exact Kd.S_mono HO442.out (fun _ hk => hk.2)⟩, ⟨lZR HO445.out⟩, ⟨bZ⟩⟩
 case round =>
  clear H'; (try clear c2 c6b0 c6b1 c7b0 c7b1); obtain ⟨x10_1, x11_1, rfl, HA, HK1, HO_8, HO_10, HB⟩ := hrel
  cases gk with
  | zero => exact absurd HA.out (by simp [impl_Mutual.l0])
  | succ k1 =>
   have H := HA.out; clear HA; simp only [impl_Mutual.l0] at H
   by_cases c11 : x11_1 < (l0.length : Int)
   rotate_left
   ·rw [if_neg c11] at H; have c11b0 := decide_eq_false c11; clear c11; simp only [Option.some.injEq, Prod.mk.injEq] at H; obtain ⟨rfl, rfl⟩ := H; go_wp2; go_ret2; exact ⟨_, tZC, lZR HO_10.out, bZ⟩
   rw [if_pos c11] at H; have c11b0 := decide_eq_true c11; clear c11
   by_cases c12 : 0 ≤ x11_1
   rotate_left
   ·rw [if_neg c12] at H; exact absurd H (by simp)
   rw [if_pos c12] at H; have c12b0 := decide_eq_true c12; clear c12
   by_cases c13 : x11_1 < (x10_1.length : Int)
   rotate_left
   ·rw [if_neg c13] at H; exact absurd H (by simp)
   rw [if_pos c13] at H; have c13b0 := decide_eq_true c13; clear c13; obtain ⟨y447, hy447⟩ : ∃ y_ : List Int, y_ = (x10_1.set (x11_1 : Int).toNat (rd l0 x11_1)) := ⟨_, rfl⟩; replace H : (impl_Mutual.l1 k1 l0 a1 t439 y447 x11_1 (t439.length : Int) 0) = some (r1, r2) := by first | (rw [hy447]; with_reducible exact H) | (have H2_ := (Option.bind_some _ _).symm.trans H; rw [hy447]; with_reducible exact H2_) | (have H2_ := (Option.bind_some _ _).symm.trans H; with_reducible exact H2_) | with_reducible exact H | (rw [hy447]; exact H) | exact H
   have Ny447 := Aside0.mk hy447; clear hy447; have H' := Aside0.mk H; clear H; have p446 : 0 ≤ (x11_1 : Int) := of_decide_eq_true tZE; have q446 : x11_1 < (l0.length : Int) := of_decide_eq_true tZE; obtain ⟨ad446, e446, hx446_0⟩ := Kd.at_int HR0.out x11_1 p446 q446
   cases e446
   replace hx446_0 := cZ HB hx446_0; replace p446 := eq_true p446; replace q446 := eq_true q446; have p14 : 0 ≤ (x11_1 : Int) := of_decide_eq_true tZE; have q14 : (x11_1 : Int) < ((x10_1.length : Int) : Int) := of_decide_eq_true tZE; obtain ⟨go14, co14, eo14, gb14, gl14, cl14, HG14⟩ := Kd.R_form HO_10.out (by omega); (first | cases eo14 | (injection eo14 with ea_ en_ ec_; (first | subst ea_ | (injection ea_ with ea_; subst ea_)); subst ec_; clear en_)); have GB14 := Aside0.mk gb14; have GG14 := Aside0.mk HG14; clear gb14 gl14 HG14; obtain ⟨hx14_0, hf14_0⟩ := Kd.R_celln 0 HO_10.out (x11_1 : Int) p14 q14; replace p14 := eq_true p14; replace q14 := eq_true q14; have HP15 := Kd.R_putg HO_10.out (x11_1 : Int) (rd l0 x11_1)
   go_wp2_with (first | ((with_reducible refine gate_store (t := 3) (p := 38) rfl ?_); refine store_event (t := 3) (p := 38) (v := ?vo_w16) (w1 := (wr.setCell ⟨go14, (x11_1 : Int).toNat, none⟩ (.int .i64 (rd l0 x11_1)))) ?hg ?ho ?hn ?hr ?_; (case ho => rfl); (case hg => rfl); (case hn => rfl); (case hr => first | (go_simp; done) | (go_simp; rfl)); intro w16 hw; have hg : wr.grownBy w16 (some go14) := (by rw [hw]; exact HP15.2); have hp_ : Kd.R (Kd.int .i64) 3 w16 w.heap.size (fun _ => True) (.slice (some ⟨go14, 0, none⟩) x10_1.length co14) y447 := (by rw [hw, Ny447.out]; exact HP15.1); clear HP15; replace HO_8 := aZ (Kd.S_after (v := (.slice (some ⟨go14, 0, none⟩) x10_1.length co14)) (v1 := (.slice (some ⟨go14, 0, none⟩) x10_1.length co14)) (ok := (fun _ => True)) (by (with_reducible repeat (first | apply Kd.S_alloc | apply Kd.S_drewN | apply Kd.S_drew)); exact Kd.S_mono HO_8.out (fun _ hk => ⟨trivial, hk⟩)) hg (.inl rfl)); replace HO_10 := aZ (hp_); replace HB := aZ ((by rw [hw]; exact below_set (HB.out) GB14.out : Below w.heap.size w w16)); clear hg hw hp_; obtain ⟨Ao17, co17, eo17⟩ := Kd.S_slice HO_8.out; subst eo17))
   go_loopg [41] k1 (fun kq v41 w' => ∃ (x10_2 : List Int) (x41_2 : Int), v41 = .int .i64 x41_2 ∧ Aside0 (impl_Mutual.l1 kq l0 a1 t439 x10_2 x11_1 (t439.length : Int) x41_2 = some (r1, r2)) ∧ Aside0 (kq ≤ k1) ∧ Aside0 (Kd.S (Kd.slice 3 (Kd.int .i64)) 24 w' w.heap.size (fun k_ => some k_ ≠ ((.slice (some ⟨go14, 0, none⟩) x10_1.length co14) : Value).ownBlock) (.slice Ao17 t439.length co17) t439) ∧ Aside0 (Kd.R (Kd.int .i64) 3 w' w.heap.size (fun _ => True) (.slice (some ⟨go14, 0, none⟩) x10_1.length co14) x10_2) ∧ Aside0 (Below w.heap.size w w'))
   case atStart => exact ⟨(y447), (0), tZB, H', ⟨Nat.le_refl _⟩, ⟨by (with_reducible repeat (first | apply Kd.S_alloc | apply Kd.S_drewN | apply Kd.S_drew)); exact Kd.S_mono HO_8.out (fun _ hk => hk.2)⟩, ⟨lZR HO_10.out⟩, ⟨bZ⟩⟩
   case round =>
    clear H'; (try clear c2 c6b0 c6b1 c7b0 c7b1 c11b0 c12b0 c13b0 p14 q14 hx14_0 hx446_0 p14 p446 q14 q446); obtain ⟨x10_2, x41_2, rfl, HA, HK2, HO_8, HO_10, HB⟩ := hrel; have hl10_2 := (Kd.R_reads' HO_10.out).1; rw [hl10_2] at HO_10; (try simp only [hl10_2]); (try simp only [hl10_2] at HO_8)
    cases gk with
    | zero => exact absurd HA.out (by simp [impl_Mutual.l1])
    | succ k2 =>
     have H := HA.out; clear HA; simp only [impl_Mutual.l1] at H
     by_cases c18 : x41_2 < (t439.length : Int)
     rotate_left
     ·rw [if_neg c18] at H; have c18b0 := decide_eq_false c18; clear c18; have H' := Aside0.mk H; clear H; go_wp2; (try simp only [← hl10_2])
      go_roundg k2
      case measure => have := HK1.out; have := HK2.out; omega
      case rel => exact ⟨(x10_2), (wrap64 (x11_1 + 1)), tZB, H', ⟨by have := HK1.out; have := HK2.out; omega⟩, ⟨by (try simp only [hl10_2]); (with_reducible repeat (first | apply Kd.S_alloc | apply Kd.S_drewN | apply Kd.S_drew)); exact HO_8.out⟩, ⟨by (try simp only [hl10_2]); (with_reducible repeat (first | apply Kd.R_alloc | apply Kd.R_drewN | apply Kd.R_drew)); exact HO_10.out⟩, ⟨bZ⟩⟩
     rw [if_pos c18] at H; have c18b0 := decide_eq_true c18; clear c18
     by_cases c19 : 0 ≤ x11_1
     rotate_left
     ·rw [if_neg c19] at H; exact absurd H (by simp)
     rw [if_pos c19] at H; have c19b0 := decide_eq_true c19; clear c19
     by_cases c20 : x11_1 < (x10_2.length : Int)
     rotate_left
     ·rw [if_neg c20] at H; exact absurd H (by simp)
     rw [if_pos c20] at H; have c20b0 := decide_eq_true c20; clear c20
     by_cases c21 : 0 ≤ x41_2
     rotate_left
     ·rw [if_neg c21] at H; exact absurd H (by simp)
     rw [if_pos c21] at H; have c21b0 := decide_eq_true c21; clear c21
     by_cases c22 : x41_2 < (t439.length : Int)
     rotate_left
     ·rw [if_neg c22] at H; exact absurd H (by simp)
     rw [if_pos c22] at H; have c22b0 := decide_eq_true c22; clear c22; obtain ⟨ji23, hji23⟩ : ∃ j_ : Int, (wrap64 (x11_1 - a1)) = j_ := ⟨_, rfl⟩; replace H : (if 0 ≤ (ji23) then (if (ji23) < ((rd_L2 t439 x41_2).length : Int) then (impl_Mutual.l1 k2 l0 a1 t439 (x10_2.set (x11_1 : Int).toNat (wrap64 ((rd x10_2 x11_1) + (rd (rd_L2 t439 x41_2) (ji23))))) x11_1 (t439.length : Int) (wrap64 (x41_2 + 1))) else (none)) else (none)) = some (r1, r2) := by first | (rw [hji23] at H; exact H) | (simp only [hji23] at H ⊢; exact H)
     have hji23w : (IntKind.i64.wrap (x11_1 - a1)) = ji23 := (i64_w _).trans hji23
     by_cases c24 : 0 ≤ (ji23)
     rotate_left
     ·rw [if_neg c24] at H; exact absurd H (by simp)
     rw [if_pos c24] at H; have c24b0 := decide_eq_true c24; clear c24
     by_cases c25 : (ji23) < ((rd_L2 t439 x41_2).length : Int)
     rotate_left
     ·rw [if_neg c25] at H; exact absurd H (by simp)
     rw [if_pos c25] at H; have c25b0 := decide_eq_true c25; clear c25; obtain ⟨y451, hy451⟩ : ∃ y_ : List Int, y_ = (x10_2.set (x11_1 : Int).toNat (wrap64 ((rd x10_2 x11_1) + (rd (rd_L2 t439 x41_2) (ji23))))) := ⟨_, rfl⟩; replace H : (impl_Mutual.l1 k2 l0 a1 t439 y451 x11_1 (t439.length : Int) (wrap64 (x41_2 + 1))) = some (r1, r2) := by first | (rw [hy451]; with_reducible exact H) | (have H2_ := (Option.bind_some _ _).symm.trans H; rw [hy451]; with_reducible exact H2_) | (have H2_ := (Option.bind_some _ _).symm.trans H; with_reducible exact H2_) | with_reducible exact H | (rw [hy451]; exact H) | exact H
     have Ny451 := Aside0.mk hy451; clear hy451; have H' := Aside0.mk H; clear H
     try go_wp2
     replace HO_8 := aZ (Kd.S_drew HO_8.out); replace HO_10 := aZ (Kd.R_drew HO_10.out); replace HB := aZ (below_drew1 HB.out); have p448 : 0 ≤ (x11_1 : Int) := of_decide_eq_true tZE; have q448 : x11_1 < (x10_2.length : Int) := of_decide_eq_true tZE; obtain ⟨ad448, e448, hx448_0⟩ := Kd.at_int (Kd.R_reads' HO_10.out).2.2 x11_1 p448 q448; obtain rfl : (⟨go14, 0, none⟩ : Addr) = ad448 := (by injection e448); (first | simp only [add_plain] at hx448_0 | simp only [add_at] at hx448_0 | simp only [Addr.add, Nat.zero_add] at hx448_0 | skip); replace p448 := eq_true p448; replace q448 := eq_true q448; have p449 : 0 ≤ (x41_2 : Int) := of_decide_eq_true tZE; have q449 : x41_2 < (t439.length : Int) := of_decide_eq_true tZE; obtain ⟨ad449, A449_0, c449_0, e449, hx449_0, hl449_0, hi449_0⟩ := at_L2 (Kd.S_reads' HO_8.out).2.2 x41_2 p449 q449
     cases e449
     obtain ⟨ce449, hce449, hMe449, hcc449⟩ := Kd.S_get HO_8.out [] x41_2 p449 (by first | exact q449 | exact of_decide_eq_true tZE | (have e_ := (Kd.S_reads' HO_8.out).1; omega)); obtain ⟨ve449_0, rfl, ge449_0⟩ := hMe449; have hv449_0 := hcc449 0 _ rfl; rw [Nat.add_zero, show ((Kd.slice 3 (Kd.int .i64))).sz = 1 from rfl, Nat.mul_one] at hv449_0; replace hv449_0 := Option.some.inj (hv449_0.symm.trans hx449_0); rw [hv449_0] at ge449_0; have HL449_0 := aZ (show Kd.R (Kd.int .i64) 3 _ _ _ _ (rd_L2 t439 x41_2) from ge449_0); clear hv449_0 ge449_0; clear hcc449 hce449; have HR449_0 := Aside0.mk hi449_0; have HC449_0 := Aside0.mk hl449_0; clear hi449_0 hl449_0; replace p449 := eq_true p449; replace q449 := eq_true q449; have p450 : 0 ≤ ((ji23) : Int) := of_decide_eq_true tZE; have q450 : (ji23) < ((rd_L2 t439 x41_2).length : Int) := of_decide_eq_true tZE
     obtain ⟨ad450, e450, hx450_0⟩ := Kd.at_int (by repeat (first | (with_reducible exact HR449_0.out) | (with_reducible refine Kd.C_alloc ?_ _) | (with_reducible refine Kd.C_drewN ?_ _) | (with_reducible refine Kd.C_drew ?_) | exact HR449_0.out)) (ji23) p450 q450
     cases e450
     replace p450 := eq_true p450; replace q450 := eq_true q450; have p26 : 0 ≤ (x11_1 : Int) := of_decide_eq_true tZE; have q26 : (x11_1 : Int) < ((x10_2.length : Int) : Int) := of_decide_eq_true tZE; obtain ⟨hx26_0, hf26_0⟩ := Kd.R_celln 0 HO_10.out (x11_1 : Int) p26 q26; replace p26 := eq_true p26; replace q26 := eq_true q26; (try clear GG14); obtain ⟨cl28_, hgg28_⟩ := Kd.R_typed (HO_10.out) go14 rfl; have GG14 := Aside0.mk hgg28_; clear hgg28_; have HP28 := Kd.R_putn HO_10.out (x11_1 : Int) (wrap64 ((rd x10_2 x11_1) + (rd (rd_L2 t439 x41_2) (ji23)))); rw [← Ny451.out] at HP28; have HQ28 := Aside0.mk HP28; clear HP28
     refine start_ (n := 16) (S := fun w' => w'.cell? ⟨go14, (x11_1).toNat, none⟩ = some (.int .i64 (rd x10_2 x11_1)) ∧ w'.cell? (ad449.add (x41_2).toNat) = some (.slice (some ad450) (rd_L2 t439 x41_2).length c449_0) ∧ w'.cell? (ad450.add ((ji23)).toNat) = some (.int .i64 (rd (rd_L2 t439 x41_2) (ji23)))) (ds := [15]) L0' kZ rfl rfl ⟨hx448_0, hx449_0, hx450_0⟩ (fun hHeld => ?_); refine with_tabW impl_Mutual.tab12 impl_Mutual.bits12 (fun HT_ HW_ => ?_); generalize wr.drew = w27 at HO_8 HO_10 HB GG14 HL449_0 HQ28 HR449_0 hf26_0 hx26_0 hx448_0 hx449_0 hx450_0 hHeld ⊢; refine pure_ (i := 0) (N := some 44) (v := ?_) (a' := ?_) L1' rfl rfl (any_of HT_.out kZ) (fun _ _ _ h => h) (Or.inl ⟨by rfl, ?_⟩) ?_ ?_; rotate_left
     ·intro w'; go_simp; with_reducible rfl
     rotate_left
     ·simp only [Act.put, sZ1, sZ2, sZ3, i64_w, i32_w]; rfl
     refine pure_ (i := 1) (N := some 45) (v := ?_) (a' := ?_) L2' rfl rfl (any_of HT_.out kZ) (fun _ _ _ h => h) (Or.inl ⟨by rfl, ?_⟩) ?_ ?_; rotate_left
     ·intro w'; go_simp; with_reducible rfl
     rotate_left
     ·simp only [Act.put, sZ1, sZ2, sZ3, i64_w, i32_w]; rfl
     refine pure_ (i := 2) (N := some 46) (v := ?_) (a' := ?_) L3' rfl rfl (any_of HT_.out kZ) (fun _ _ _ h => h) (Or.inl ⟨by rfl, ?_⟩) ?_ ?_; rotate_left
     ·intro w'; go_simp; with_reducible rfl
     rotate_left
     ·simp only [Act.put, sZ1, sZ2, sZ3, i64_w, i32_w]; rfl
     refine pure_ (i := 4) (N := some 48) (v := ?_) (a' := ?_) L4' rfl rfl (any_of HT_.out kZ) (fun _ _ _ h => h) (Or.inl ⟨by rfl, ?_⟩) ?_ ?_; rotate_left
     ·intro w'; go_simp; with_reducible rfl
     rotate_left
     ·simp only [Act.put, sZ1, sZ2, sZ3, i64_w, i32_w]; rfl
     refine pure_ (i := 5) (N := some 49) (v := ?_) (a' := ?_) L5' rfl rfl (any_of HT_.out kZ) (fun _ _ _ h => h) (Or.inl ⟨by rfl, ?_⟩) ?_ ?_; rotate_left
     ·intro w'; go_simp; with_reducible rfl
     rotate_left
     ·simp only [Act.put, sZ1, sZ2, sZ3, i64_w, i32_w]; rfl
     refine pure_ (i := 6) (N := some 50) (v := ?_) (a' := ?_) L6' rfl rfl (any_of HT_.out kZ) (fun _ _ _ h => h) (Or.inl ⟨by rfl, ?_⟩) ?_ ?_; rotate_left
     ·intro w'; go_simp; with_reducible rfl
     rotate_left
     ·simp only [Act.put, sZ1, sZ2, sZ3, i64_w, i32_w]; rfl
     refine pure_ (i := 8) (N := some 52) (v := ?_) (a' := ?_) L7' rfl rfl (any_of HT_.out kZ) (fun _ _ _ h => h) (Or.inl ⟨by rfl, ?_⟩) ?_ ?_; rotate_left
     ·intro w'; go_simp; with_reducible rfl
     rotate_left
     ·simp only [Act.put, sZ1, sZ2, sZ3, i64_w, i32_w]; rfl
     refine pure_ (i := 9) (N := some 53) (v := ?_) (a' := ?_) L8' rfl rfl (any_of HT_.out kZ) (fun _ _ _ h => h) (Or.inl ⟨by rfl, ?_⟩) ?_ ?_; rotate_left
     ·intro w'; go_simp; with_reducible rfl
     rotate_left
     ·simp only [Act.put, sZ1, sZ2, sZ3, i64_w, i32_w]; rfl
     refine pure_ (i := 10) (N := some 54) (v := ?_) (a' := ?_) L9' rfl rfl (any_of HT_.out kZ) (fun _ _ _ h => h) (Or.inl ⟨by rfl, ?_⟩) ?_ ?_; rotate_left
     ·intro w'; go_simp; with_reducible rfl
     rotate_left
     ·simp only [Act.put, sZ1, sZ2, sZ3, i64_w, i32_w]; rfl
     refine take_ (i := 3) (N := some 47) (v := ?_) (a' := ?_) L10' rfl rfl (take_ofW HT_.out HW_.out kZ) (fun _ _ _ h => h) (Or.inl ⟨by rfl, ?_⟩) hHeld ?_ ?_; rotate_left
     ·rintro w' ⟨s0, s1, s2⟩
      go_simp; with_reducible rfl
     rotate_left
     ·simp only [Act.put, sZ1, sZ2, sZ3, i64_w, i32_w]; rfl
     refine take_ (i := 7) (N := some 51) (v := ?_) (a' := ?_) L11' rfl rfl (take_ofW HT_.out HW_.out kZ) (fun _ _ _ h => h) (Or.inl ⟨by rfl, ?_⟩) hHeld ?_ ?_; rotate_left
     ·rintro w' ⟨s0, s1, s2⟩
      go_simp; with_reducible rfl
     rotate_left
     ·simp only [Act.put, sZ1, sZ2, sZ3, i64_w, i32_w]; rfl
     refine pure_ (i := 11) (N := some 55) (v := ?_) (a' := ?_) L12' rfl rfl (any_of HT_.out kZ) (fun _ _ _ h => h) (Or.inl ⟨by rfl, ?_⟩) ?_ ?_; rotate_left
     ·intro w'; go_simp; with_reducible rfl
     rotate_left
     ·simp only [Act.put, sZ1, sZ2, sZ3, i64_w, i32_w]; rfl
     refine take_ (i := 12) (N := some 56) (v := ?_) (a' := ?_) L13' rfl rfl (take_ofW HT_.out HW_.out kZ) (fun _ _ _ h => h) (Or.inl ⟨by rfl, ?_⟩) hHeld ?_ ?_; rotate_left
     ·rintro w' ⟨s0, s1, s2⟩
      go_simp; with_reducible rfl
     rotate_left
     ·simp only [Act.put, sZ1, sZ2, sZ3, i64_w, i32_w]; rfl
     refine pure_ (i := 13) (N := some 57) (v := ?_) (a' := ?_) L14' rfl rfl (any_of HT_.out kZ) (fun _ _ _ h => h) (Or.inl ⟨by rfl, ?_⟩) ?_ ?_; rotate_left
     ·intro w'; go_simp; with_reducible rfl
     rotate_left
     ·simp only [Act.put, sZ1, sZ2, sZ3, i64_w, i32_w]; rfl
     refine pure_ (i := 14) (N := some 58) (v := ?_) (a' := ?_) L15' rfl rfl (any_of HT_.out kZ) (fun _ _ _ h => h) (Or.inl ⟨by rfl, ?_⟩) ?_ ?_; rotate_left
     ·intro w'; go_simp; with_reducible rfl
     rotate_left
     ·simp only [Act.put, sZ1, sZ2, sZ3, i64_w, i32_w]; rfl
     refine last_ (i := 15) (N := none) L16' rfl rfl (one_of HT_.out kZ) (by decide) (fun K hK => ?_); refine skip_ (w1 := ?_) (by rfl) rfl ?_ ?_; rotate_left
     ·go_simp; rfl
     refine hK.out _ _ ?_; clear hK K; refine done_ (done_of HT_.out kZ) ?_
     try go_wp2
     (try simp only [← hl10_2])
     go_roundg k2
     case measure => have := HK1.out; have := HK2.out; omega
     case rel => exact ⟨(y451), (wrap64 (x41_2 + 1)), tZB, H', ⟨by have := HK1.out; have := HK2.out; omega⟩, ⟨by (try simp only [hl10_2]); (with_reducible repeat (first | apply Kd.S_alloc | apply Kd.S_drewN | apply Kd.S_drew)); exact Kd.S_mono (Kd.S_far (p := ⟨go14, (x11_1 : Int).toNat, none⟩) (Kd.S_mono HO_8.out (fun k_ hk => (⟨hk, fun e_ => hk (by rw [e_]; rfl)⟩ : _ ∧ k_ ≠ go14))) (fun _ hk => hk.2) (.int .i64 (wrap64 ((rd x10_2 x11_1) + (rd (rd_L2 t439 x41_2) (ji23)))))) (fun _ hk => hk.1)⟩, ⟨by (try simp only [hl10_2]); (with_reducible repeat (first | apply Kd.R_alloc | apply Kd.R_drewN | apply Kd.R_drew)); exact HQ28.out⟩, ⟨bZ⟩⟩
def spec_l7Costs.l0 : Nat → List Int → Int → Option (Bool)
  | 0, _, _ => none
  | k + 1, x0, x3 => if x3 < (x0.length : Int) then (if 0 ≤ x3 then ((spec_l1Amount.f (rd x0 x3)).bind fun t453 => (if t453 = true then (spec_l7Costs.l0 k x0 (wrap64 (x3 + 1))) else (some false))) else (none)) else ((spec_l1In.f (x0.length : Int) 1 200).bind fun t454 => (some t454))
def spec_l7Costs.f (k : Nat) (l0 : List Int) : Option (Bool) := spec_l7Costs.l0 k l0 0
theorem spec_l7Costs.mono_l : ∀ k, (∀ y0 y1, LeO (spec_l7Costs.l0 k y0 y1) (spec_l7Costs.l0 (k + 1) y0 y1))
  | 0 => fun _ _ r h => by simp [spec_l7Costs.l0] at h
  | k + 1 => by
    have ih0 := spec_l7Costs.mono_l k
    · intro y0 y1
      unfold spec_l7Costs.l0
      repeat' first
      | (with_reducible exact ih0 _ _)
      | (with_reducible exact LeO.refl _)
      | (with_reducible exact LeO.none _)
      | (with_reducible refine LeO.ite ?_ ?_)
      | (with_reducible refine LeO.bind ?_ (fun _ => ?_))
      | exact ih0 _ _
      | exact LeO.none _
      | refine LeO.ite ?_ ?_
      | refine LeO.bind ?_ (fun _ => ?_)
theorem spec_l7Costs.mono : ∀ a0 k, LeO (spec_l7Costs.f k a0) (spec_l7Costs.f (k + 1) a0) := by
 intro a0 k
 have ih0 := spec_l7Costs.mono_l k
 unfold spec_l7Costs.f
 repeat' first
     | (with_reducible exact ih0 _ _)
     | (with_reducible exact LeO.refl _)
     | (with_reducible exact LeO.none _)
     | (with_reducible refine LeO.ite ?_ ?_)
     | (with_reducible refine LeO.bind ?_ (fun _ => ?_))
     | exact ih0 _ _
     | exact LeO.none _
     | refine LeO.ite ?_ ?_
     | refine LeO.bind ?_ (fun _ => ?_)
set_option maxHeartbeats 8000000 in
set_option maxRecDepth 100000 in
theorem spec_l7Costs.calls (k : Nat) (A0 : Option Addr) (c0 : Nat) (l0 : List Int) (r : Bool) (w : World) (hr0 : Kd.C (Kd.int .i64) w A0 l0.length l0) (hc0 : l0.length ≤ c0) (h : spec_l7Costs.f k l0 = some r) :
    Calls Try.prog 30 #[.slice A0 l0.length c0] w fun e w' => e = .returned (.bool r) ∧ Drawn0 w w' := by
 have HR0 := Aside0.mk hr0; have HC0 := Aside0.mk hc0; clear hr0 hc0; have H : (spec_l7Costs.l0 k l0 0) = some r := h; clear h; have H' := Aside0.mk H; clear H; go_enter Try.func30, Try.ntmps30; go_wp2
 go_loopg [3] k (fun kq v3 w' => ∃ (x3_1 : Int), v3 = .int .i64 x3_1 ∧ Aside0 (spec_l7Costs.l0 kq l0 x3_1 = some r) ∧ Aside0 (kq ≤ k) ∧ Drawn0 w w')
 case atStart => exact ⟨(0), tZB, H', ⟨Nat.le_refl _⟩, tZD⟩
 case round =>
  clear H'; obtain ⟨x3_1, rfl, HA, HK1, ⟨m1, rfl⟩⟩ := hrel
  cases gk with
  | zero => exact absurd HA.out (by simp [spec_l7Costs.l0])
  | succ k1 =>
   have H := HA.out; clear HA; simp only [spec_l7Costs.l0] at H
   by_cases c2 : x3_1 < (l0.length : Int)
   rotate_left
   ·rw [if_neg c2] at H; have c2b0 := decide_eq_false c2; clear c2; replace H := Option.bind_eq_some_iff.mp H; obtain ⟨t454, A60, H⟩ := H; replace H : (some t454) = some r := H; have A6 := Aside0.mk A60; clear A60; obtain rfl := Option.some.inj H
    go_wp2_with (first | ((with_reducible refine gate_callee (f := 32) rfl ?_); refine goesL_ (some 18) rfl rfl Try.func32 kZ rfl #[.int .i64 (l0.length : Int), .int .i64 1, .int .i64 200] rfl tZA ?_; (with_reducible refine (spec_l1In.calls (l0.length : Int) 1 200 t454 _ A6.out).mono ?_); rintro e w' ⟨rfl, ⟨nd, rfl⟩⟩; refine ⟨_, rfl, ?_⟩))
    go_ret; exact ⟨tZB, tZD⟩
   rw [if_pos c2] at H; have c2b0 := decide_eq_true c2; clear c2
   by_cases c3 : 0 ≤ x3_1
   rotate_left
   ·rw [if_neg c3] at H; exact absurd H (by simp)
   rw [if_pos c3] at H; have c3b0 := decide_eq_true c3; clear c3; replace H := Option.bind_eq_some_iff.mp H; obtain ⟨t453, A40, H⟩ := H; replace H : (if t453 = true then (spec_l7Costs.l0 k1 l0 (wrap64 (x3_1 + 1))) else (some false)) = some r := H; have A4 := Aside0.mk A40; clear A40
   by_cases c5 : t453 = true
   rotate_left
   ·replace c5 := Bool.eq_false_iff.mpr c5; subst c5; rw [if_neg Bool.false_ne_true] at H; obtain rfl := Option.some.inj H; have p452 : 0 ≤ (x3_1 : Int) := of_decide_eq_true tZE; have q452 : x3_1 < (l0.length : Int) := of_decide_eq_true tZE; obtain ⟨ad452, e452, hx452_0⟩ := Kd.at_int HR0.out x3_1 p452 q452
    cases e452
    replace p452 := eq_true p452; replace q452 := eq_true q452
    go_wp2_with (first | ((with_reducible refine gate_callee (f := 57) rfl ?_); refine goesL_ (some 14) rfl rfl Try.func57 kZ rfl #[.int .i64 (rd l0 x3_1)] rfl tZA ?_; (with_reducible refine (spec_l1Amount.calls (rd l0 x3_1) false _ A4.out).mono ?_); rintro e w' ⟨rfl, ⟨nd, rfl⟩⟩; refine ⟨_, rfl, ?_⟩))
    go_ret; exact ⟨tZB, tZD⟩
   subst c5; rw [if_pos rfl] at H; have H' := Aside0.mk H; clear H; have p452 : 0 ≤ (x3_1 : Int) := of_decide_eq_true tZE; have q452 : x3_1 < (l0.length : Int) := of_decide_eq_true tZE; obtain ⟨ad452, e452, hx452_0⟩ := Kd.at_int HR0.out x3_1 p452 q452
   cases e452
   replace p452 := eq_true p452; replace q452 := eq_true q452
   go_wp2_with (first | ((with_reducible refine gate_callee (f := 57) rfl ?_); refine goesL_ (some 14) rfl rfl Try.func57 kZ rfl #[.int .i64 (rd l0 x3_1)] rfl tZA ?_; (with_reducible refine (spec_l1Amount.calls (rd l0 x3_1) true _ A4.out).mono ?_); rintro e w' ⟨rfl, ⟨nd, rfl⟩⟩; refine ⟨_, rfl, ?_⟩))
   go_roundg k1
   case measure => have := HK1.out; omega
   case rel => exact ⟨(wrap64 (x3_1 + 1)), tZB, H', ⟨by have := HK1.out; omega⟩, tZD⟩
end Go.Proofs.Ytadehdkmggpehaa.PFnMutualWhole
