import Derived.Test.YtadehdkmggpehaaUPFnMutualWholex0
import Derived.Test.YtadehdkmggpehaaUPFnMutualWholex10
import Derived.Test.YtadehdkmggpehaaUPFnMutualWholex12
import Derived.Test.YtadehdkmggpehaaUSlimWords
namespace Go.Proofs.Ytadehdkmggpehaa.PFnMutualWhole
open Go.Proofs.Ytadehdkmggpehaa.SlimWords
open Go.RowKit Go.Proofs.YtadehdkmggpehaaW.PrintWords Go.Proofs.YtadehdkmggpehaaW.PrintLast Go.Proofs.YtadehdkmggpehaaW.PrintMore Go.Proofs.Ytadehdkmggpehaa.MapWords Go.Proofs.Ytadehdkmggpehaa.IterWords Go.Proofs.Ytadehdkmggpehaa.MarkWords Go.Proofs.Ytadehdkmggpehaa.ArrWords
attribute [local go_sem] ptrOf_slice max2_int min2_int max_two min_two max_three min_three max_four min_four
set_option linter.unusedVariables false
set_option linter.unusedSimpArgs false
private abbrev I' := true
private abbrev O' := false
private abbrev L0' : Array Bool := #[O',O',O',O',O',O',O',O',O',O',O',O',O',O',O',O',O',O',O',O']
private abbrev L1' : Array Bool := #[I',O',O',O',O',O',O',O',O',O',O',O',O',O',O',O',O',O',O',O']
private abbrev L2' : Array Bool := #[I',I',O',O',O',O',O',O',O',O',O',O',O',O',O',O',O',O',O',O']
private abbrev L3' : Array Bool := #[I',I',I',O',O',O',O',O',O',O',O',O',O',O',O',O',O',O',O',O']
private abbrev L4' : Array Bool := #[I',I',I',I',O',O',O',O',O',O',O',O',O',O',O',O',O',O',O',O']
private abbrev L5' : Array Bool := #[I',I',I',I',I',O',O',O',O',O',O',O',O',O',O',O',O',O',O',O']
private abbrev L6' : Array Bool := #[I',I',I',I',I',I',O',O',O',O',O',O',O',O',O',O',O',O',O',O']
private abbrev L7' : Array Bool := #[I',I',I',I',I',I',I',O',O',O',O',O',O',O',O',O',O',O',O',O']
private abbrev L8' : Array Bool := #[I',I',I',I',I',I',I',I',O',O',O',O',O',O',O',O',O',O',O',O']
private abbrev L9' : Array Bool := #[I',I',I',I',I',I',I',I',I',O',O',O',O',O',O',O',O',O',O',O']
private abbrev L10' : Array Bool := #[I',I',I',I',I',I',I',I',I',O',I',O',O',O',O',O',O',O',O',O']
private abbrev L11' : Array Bool := #[I',I',I',I',I',I',I',I',I',O',I',I',O',O',O',O',O',O',O',O']
private abbrev L12' : Array Bool := #[I',I',I',I',I',I',I',I',I',O',I',I',I',O',O',O',O',O',O',O']
private abbrev L13' : Array Bool := #[I',I',I',I',I',I',I',I',I',O',I',I',I',O',I',O',O',O',O',O']
private abbrev L14' : Array Bool := #[I',I',I',I',I',I',I',I',I',I',I',I',I',O',I',O',O',O',O',O']
private abbrev L15' : Array Bool := #[I',I',I',I',I',I',I',I',I',I',I',I',I',I',I',O',O',O',O',O']
private abbrev L16' : Array Bool := #[I',I',I',I',I',I',I',I',I',I',I',I',I',I',I',I',O',O',O',O']
private abbrev L17' : Array Bool := #[I',I',I',I',I',I',I',I',I',I',I',I',I',I',I',I',I',O',O',O']
private abbrev L18' : Array Bool := #[I',I',I',I',I',I',I',I',I',I',I',I',I',I',I',I',I',I',O',O']
private abbrev L19' : Array Bool := #[I',I',I',I',I',I',I',I',I',I',I',I',I',I',I',I',I',I',I',O']
private abbrev L20' : Array Bool := #[I',I',I',I',I',I',I',I',I',I',I',I',I',I',I',I',I',I',I',I']
mutual
def spec_Mutual.l0 : Nat → Int → List (List Int) → List Int → Int → Option (List Int × Bool)
  | 0, _, _, _, _ => none
  | k + 1, x1, x8, x10, x11 => if x11 < x1 then (if 0 ≤ x11 then (if x11 < (x10.length : Int) then (spec_Mutual.l1 k x1 x8 (x10.set (x11 : Int).toNat 0) x11 0) else (none)) else (none)) else ((spec_l7Costs.f k x10).bind fun t559 => (if t559 = true then (some (x10, true)) else (some ((([] : List Int)), false))))
def spec_Mutual.l1 : Nat → Int → List (List Int) → List Int → Int → Int → Option (List Int × Bool)
  | 0, _, _, _, _, _ => none
  | k + 1, x1, x8, x10, x11, x12 => if 0 ≤ x11 then (if x11 < (x8.length : Int) then (if x12 < ((rd_L2 x8 x11).length : Int) then (if 0 ≤ (wrap64 (x1 + x12)) then (if (wrap64 (x1 + x12)) < (x10.length : Int) then (if 0 ≤ x12 then (spec_Mutual.l1 k x1 x8 (x10.set ((wrap64 (x1 + x12)) : Int).toNat (wrap64 ((rd x10 (wrap64 (x1 + x12))) + (rd (rd_L2 x8 x11) x12)))) x11 (wrap64 (x12 + 1))) else (none)) else (none)) else (none)) else (spec_Mutual.l0 k x1 x8 x10 (wrap64 (x11 + 1)))) else (none)) else (none)
end
def spec_Mutual.f (k : Nat) (l0 : List Int) (a1 : Int) (l2 : List (List Int)) : Option (List Int × Bool) := (spec_l7Parts.f k l0 a1 l2).bind fun bt546 => (if bt546.2 = true then ((some (([] : List Int) : List Int)).bind fun y553 => (if y553.length + l0.length < 17592186044416 then (spec_Mutual.l0 k a1 bt546.1 (y553 ++ l0) 0) else (none))) else (some ((([] : List Int)), false)))
theorem spec_Mutual.mono_l : ∀ k, (∀ y0 y1 y2 y3, LeO (spec_Mutual.l0 k y0 y1 y2 y3) (spec_Mutual.l0 (k + 1) y0 y1 y2 y3)) ∧ (∀ y0 y1 y2 y3 y4, LeO (spec_Mutual.l1 k y0 y1 y2 y3 y4) (spec_Mutual.l1 (k + 1) y0 y1 y2 y3 y4))
  | 0 => ⟨fun _ _ _ _ r h => by simp [spec_Mutual.l0] at h, fun _ _ _ _ _ r h => by simp [spec_Mutual.l1] at h⟩
  | k + 1 => by
    obtain ⟨ih0, ih1⟩ := spec_Mutual.mono_l k
    refine ⟨?_, ?_⟩
    · intro y0 y1 y2 y3
      unfold spec_Mutual.l0
      repeat' first
      | (with_reducible exact ih0 _ _ _ _)
      | (with_reducible exact ih1 _ _ _ _ _)
      | (with_reducible exact spec_l7Costs.mono _ _)
      | (with_reducible exact spec_l7Parts.mono _ _ _ _)
      | (with_reducible exact LeO.refl _)
      | (with_reducible exact LeO.none _)
      | (with_reducible refine LeO.ite ?_ ?_)
      | (with_reducible refine LeO.bind ?_ (fun _ => ?_))
      | exact ih0 _ _ _ _
      | exact ih1 _ _ _ _ _
      | exact spec_l7Costs.mono _ _
      | exact spec_l7Parts.mono _ _ _ _
      | exact LeO.none _
      | refine LeO.ite ?_ ?_
      | refine LeO.bind ?_ (fun _ => ?_)
    · intro y0 y1 y2 y3 y4
      unfold spec_Mutual.l1
      repeat' first
      | (with_reducible exact ih0 _ _ _ _)
      | (with_reducible exact ih1 _ _ _ _ _)
      | (with_reducible exact spec_l7Costs.mono _ _)
      | (with_reducible exact spec_l7Parts.mono _ _ _ _)
      | (with_reducible exact LeO.refl _)
      | (with_reducible exact LeO.none _)
      | (with_reducible refine LeO.ite ?_ ?_)
      | (with_reducible refine LeO.bind ?_ (fun _ => ?_))
      | exact ih0 _ _ _ _
      | exact ih1 _ _ _ _ _
      | exact spec_l7Costs.mono _ _
      | exact spec_l7Parts.mono _ _ _ _
      | exact LeO.none _
      | refine LeO.ite ?_ ?_
      | refine LeO.bind ?_ (fun _ => ?_)
theorem spec_Mutual.mono : ∀ a0 a1 a2 k, LeO (spec_Mutual.f k a0 a1 a2) (spec_Mutual.f (k + 1) a0 a1 a2) := by
 intro a0 a1 a2 k
 obtain ⟨ih0, ih1⟩ := spec_Mutual.mono_l k
 unfold spec_Mutual.f
 repeat' first
     | (with_reducible exact ih0 _ _ _ _)
     | (with_reducible exact ih1 _ _ _ _ _)
     | (with_reducible exact spec_l7Costs.mono _ _)
     | (with_reducible exact spec_l7Parts.mono _ _ _ _)
     | (with_reducible exact LeO.refl _)
     | (with_reducible exact LeO.none _)
     | (with_reducible refine LeO.ite ?_ ?_)
     | (with_reducible refine LeO.bind ?_ (fun _ => ?_))
     | exact ih0 _ _ _ _
     | exact ih1 _ _ _ _ _
     | exact spec_l7Costs.mono _ _
     | exact spec_l7Parts.mono _ _ _ _
     | exact LeO.none _
     | refine LeO.ite ?_ ?_
     | refine LeO.bind ?_ (fun _ => ?_)
def spec_Mutual.T12 : Bool × List (List Nat × List Nat) := (true, [([], []), ([], []), ([], []), ([1, 2], [1, 2]), ([], []), ([], []), ([], []), ([5, 6], [5, 6]), ([4, 7], [4, 7]), ([8], [8]), ([], []), ([], []), ([10, 11], [10, 11]), ([12], [12]), ([], []), ([13, 14], [13, 14]), ([15], [15]), ([9, 16], [9, 16]), ([0, 3, 0, 1, 2, 3, 4, 5, 6, 7, 8, 9, 10, 11, 12, 13, 14, 15, 16, 17], [0, 3]), ([18, 17, 0, 1, 2, 3, 4, 5, 6, 7, 8, 9, 10, 11, 12, 13, 14, 15, 16, 17], [17, 18])])
def spec_Mutual.B12 : List Nat := [0, 0, 0, 6, 0, 0, 0, 96, 240, 496, 0, 0, 3072, 7168, 0, 31744, 64512, 131056, 262143, 524287]
theorem spec_Mutual.tab12 : rtab .any (opsOf Try.f10 12) = spec_Mutual.T12 := by kernel_rfl
theorem spec_Mutual.bits12 : waitsOk spec_Mutual.T12.2 spec_Mutual.B12 = true := by kernel_rfl
set_option maxHeartbeats 8000000 in
set_option maxRecDepth 100000 in
theorem spec_Mutual.calls (k : Nat) (A0 : Option Addr) (c0 : Nat) (l0 : List Int) (a1 : Int) (A2 : Option Addr) (c2 : Nat) (l2 : List (List Int)) (r1 : List Int) (r2 : Bool) (w : World) (hr0 : Kd.C (Kd.int .i64) w A0 l0.length l0) (hc0 : l0.length ≤ c0) (hr2 : Kd.C (Kd.slice 3 (Kd.int .i64)) w A2 l2.length l2) (hc2 : l2.length ≤ c2) (h : spec_Mutual.f k l0 a1 l2 = some (r1, r2)) :
    Calls Try.prog 10 #[.slice A0 l0.length c0, .int .i64 a1, .slice A2 l2.length c2] w fun e w' => ∃ v0_ : Value, e = .returned (.tuple #[v0_, .bool r2]) ∧ Kd.R (Kd.int .i64) 3 w' w.heap.size (fun _ => True) v0_ r1 ∧ Below w.heap.size w w' := by
 have HR0 := Aside0.mk hr0; have HC0 := Aside0.mk hc0; clear hr0 hc0; have HR2 := Aside0.mk hr2; have HC2 := Aside0.mk hc2; clear hr2 hc2; have HB := aZ (Below.refl w.heap.size w); have H : ((spec_l7Parts.f k l0 a1 l2).bind fun bt546 => (if bt546.2 = true then ((some (([] : List Int) : List Int)).bind fun y553 => (if y553.length + l0.length < 17592186044416 then (spec_Mutual.l0 k a1 bt546.1 (y553 ++ l0) 0) else (none))) else (some ((([] : List Int)), false)))) = some (r1, r2) := h; clear h; replace H := Option.bind_eq_some_iff.mp H; obtain ⟨⟨t546, t547⟩, A40, H⟩ := H; replace H : (if t547 = true then ((some (([] : List Int) : List Int)).bind fun y553 => (if y553.length + l0.length < 17592186044416 then (spec_Mutual.l0 k a1 t546 (y553 ++ l0) 0) else (none))) else (some ((([] : List Int)), false))) = some (r1, r2) := H; have A4 := Aside0.mk A40; clear A40
 by_cases c5 : t547 = true
 rotate_left
 ·replace c5 := Bool.eq_false_iff.mpr c5; subst c5; rw [if_neg Bool.false_ne_true] at H; obtain ⟨y550, hy550⟩ : ∃ y_ : List Int, y_ = (([] : List Int)) := ⟨_, rfl⟩; replace H : (some (y550, false)) = some (r1, r2) := by first | (rw [hy550]; with_reducible exact H) | (have H2_ := (Option.bind_some _ _).symm.trans H; rw [hy550]; with_reducible exact H2_) | (have H2_ := (Option.bind_some _ _).symm.trans H; with_reducible exact H2_) | with_reducible exact H | (rw [hy550]; exact H) | exact H
  have Ny550 := Aside0.mk hy550; clear hy550; simp only [Option.some.injEq, Prod.mk.injEq] at H; obtain ⟨rfl, rfl⟩ := H; go_enter Try.func10, Try.ntmps10
  go_wp2_with (first | ((with_reducible refine gate_callee (f := 29) rfl ?_); refine goesL_ (some 17) rfl rfl Try.func29 kZ rfl #[.slice A0 l0.length c0, .int .i64 a1, .slice A2 l2.length c2] rfl tZA ?_; (with_reducible refine (spec_l7Parts.calls k _ _ l0 a1 _ _ l2 t546 false _ ?side1 ?side2 ?side3 ?side4 A4.out).mono ?_); (case side1 => repeat (first | exact HR0.out | (with_reducible refine Kd.C_alloc ?_ _) | (with_reducible refine Kd.C_drewN ?_ _) | (with_reducible refine Kd.C_drew ?_))); (case side2 => exact HC0.out); (case side3 => repeat (first | exact HR2.out | (with_reducible refine Kd.C_alloc ?_ _) | (with_reducible refine Kd.C_drewN ?_ _) | (with_reducible refine Kd.C_drew ?_))); (case side4 => exact HC2.out); rintro e w35 ⟨v548, rfl, ho0, hb⟩; refine ⟨_, rfl, ?_⟩; have HO549 := aZ (Kd.S_lower ho0 (below_size (lZB HB.out))); replace HB := aZ (below_step (lZB HB.out) hb); (try clear hb); (try clear hb2); (try clear hk); (try clear hi); (try clear ho0)) | ((with_reducible refine gate_dst (N := 22) rfl ?_); refine Kd.R_lit (Kd.int .i64) _ 3 ?hg (N := 22) ?hd (xs := ([] : List Int)) (inner := []) (ok := fun _ => True) (okp := fun _ => True) ?hr ?hp (fun _ hk => hk) trivial (Below.refl _ _) (Nat.le_refl _) (by simp) ?_; (case hd => rfl); (case hg => rfl); (case hr => first | (go_simp; done) | (go_simp; rfl)); (case hp => exact (Reps.none _ _)); intro v551 w36 ho37 hb hg_ hnew_; clear hg_ hnew_; (first | rw [← Ny550.out] at ho37 | (simp only [Int.reduceToNat] at ho37; rw [← Ny550.out] at ho37)); replace HO549 := aZ (Kd.S_elder' (lZS HO549.out) (Kd.R_base ho37) hb); have HO552 := aZ (Kd.R_lower ho37 (below_size (lZB HB.out))); replace HB := aZ (below_step (lZB HB.out) hb); clear hb ho37))
  go_ret2; exact ⟨_, tZC, lZR HO552.out, bZ⟩
 subst c5; rw [if_pos rfl] at H; obtain ⟨y553, hy553⟩ : ∃ y_ : List Int, y_ = (([] : List Int)) := ⟨_, rfl⟩; replace H : (if y553.length + l0.length < 17592186044416 then (spec_Mutual.l0 k a1 t546 (y553 ++ l0) 0) else (none)) = some (r1, r2) := by first | (rw [hy553]; with_reducible exact H) | (have H2_ := (Option.bind_some _ _).symm.trans H; rw [hy553]; with_reducible exact H2_) | (have H2_ := (Option.bind_some _ _).symm.trans H; with_reducible exact H2_) | with_reducible exact H | (rw [hy553]; exact H) | exact H
 have Ny553 := Aside0.mk hy553; clear hy553
 by_cases c6 : y553.length + l0.length < 17592186044416
 rotate_left
 ·rw [if_neg c6] at H; exact absurd H (by simp)
 rw [if_pos c6] at H; have LMc6 := Aside0.mk c6; clear c6; obtain ⟨y556, hy556⟩ : ∃ y_ : List Int, y_ = (y553 ++ l0) := ⟨_, rfl⟩; replace H : (spec_Mutual.l0 k a1 t546 y556 0) = some (r1, r2) := by first | (rw [hy556]; with_reducible exact H) | (have H2_ := (Option.bind_some _ _).symm.trans H; rw [hy556]; with_reducible exact H2_) | (have H2_ := (Option.bind_some _ _).symm.trans H; with_reducible exact H2_) | with_reducible exact H | (rw [hy556]; exact H) | exact H
 have Ny556 := Aside0.mk hy556; clear hy556; have H' := Aside0.mk H; clear H; go_enter Try.func10, Try.ntmps10
 go_wp2_with (first | ((with_reducible refine gate_callee (f := 29) rfl ?_); refine goesL_ (some 17) rfl rfl Try.func29 kZ rfl #[.slice A0 l0.length c0, .int .i64 a1, .slice A2 l2.length c2] rfl tZA ?_; (with_reducible refine (spec_l7Parts.calls k _ _ l0 a1 _ _ l2 t546 true _ ?side1 ?side2 ?side3 ?side4 A4.out).mono ?_); (case side1 => repeat (first | exact HR0.out | (with_reducible refine Kd.C_alloc ?_ _) | (with_reducible refine Kd.C_drewN ?_ _) | (with_reducible refine Kd.C_drew ?_))); (case side2 => exact HC0.out); (case side3 => repeat (first | exact HR2.out | (with_reducible refine Kd.C_alloc ?_ _) | (with_reducible refine Kd.C_drewN ?_ _) | (with_reducible refine Kd.C_drew ?_))); (case side4 => exact HC2.out); rintro e w7 ⟨v548, rfl, ho0, hb⟩; refine ⟨_, rfl, ?_⟩; have HO549 := aZ (Kd.S_lower ho0 (below_size (lZB HB.out))); replace HB := aZ (below_step (lZB HB.out) hb); (try clear hb); (try clear hb2); (try clear hk); (try clear hi); (try clear ho0)) | ((with_reducible refine gate_dst (N := 23) rfl ?_); refine Kd.R_lit (Kd.int .i64) _ 3 ?hg (N := 23) ?hd (xs := ([] : List Int)) (inner := []) (ok := fun _ => True) (okp := fun _ => True) ?hr ?hp (fun _ hk => hk) trivial (Below.refl _ _) (Nat.le_refl _) (by simp) ?_; (case hd => rfl); (case hg => rfl); (case hr => first | (go_simp; done) | (go_simp; rfl)); (case hp => exact (Reps.none _ _)); intro v554 w8 ho9 hb hg_ hnew_; clear hg_ hnew_; (first | rw [← Ny553.out] at ho9 | (simp only [Int.reduceToNat] at ho9; rw [← Ny553.out] at ho9)); replace HO549 := aZ (Kd.S_elder' (lZS HO549.out) (Kd.R_base ho9) hb); have HO555 := aZ (Kd.R_lower ho9 (below_size (lZB HB.out))); replace HB := aZ (below_step (lZB HB.out) hb); clear hb ho9) | ((with_reducible refine gate_builtin (b := .append) (xs := #[.tmp 23, .tmp 24]) rfl ?_); at_builtin; refine Kd.R_append_rows (Kd.int .i64) (w0 := w) w.heap.size rfl (.tmp 23) (.tmp 24) 24 3 (.int .i64 0) 8 rfl Try.underlying24 info3 rfl (by decide) (by omega) v554 y553 l0 _ _ _ (fun _ => True) (fun _ => False) rfl rfl ?aO ?aR (fun _ _ h => h) (fun _ h => h.elim) ?aF ?aB ?aS ?aL ?_; (case aR => repeat (first | exact (Kd.C_below HR0.out HB.out) | (with_reducible refine Kd.C_alloc ?_ _) | (with_reducible refine Kd.C_drewN ?_ _) | (with_reducible refine Kd.C_drew ?_))); (case aB => exact (lZB HB.out)); (case aF => exact (fun _ _ => trivial)); (case aO => exact (lZR HO555.out)); (case aS => exact (below_size (lZB HB.out))); (case aL => have := LMc6.out; omega); intro v557 w10 ho hb hg hat; rw [← Ny556.out] at ho; replace HO549 := aZ (Kd.S_after (ok := (fun _ => True)) (lZS HO549.out) hg hat); replace HB := aZ (hb); have HO558 := aZ (ho); clear HO555; clear ho hb hg hat))
 go_loopg [11] k (fun kq v11 w' => ∃ (x10_1 : List Int) (x11_1 : Int), v11 = .int .i64 x11_1 ∧ Aside0 (spec_Mutual.l0 kq a1 t546 x10_1 x11_1 = some (r1, r2)) ∧ Aside0 (kq ≤ k) ∧ Aside0 (Kd.S (Kd.slice 3 (Kd.int .i64)) 24 w' w.heap.size (fun k_ => some k_ ≠ (v557 : Value).ownBlock) v548 t546) ∧ Aside0 (Kd.R (Kd.int .i64) 3 w' w.heap.size (fun _ => True) v557 x10_1) ∧ Aside0 (Below w.heap.size w w'))
 case atStart => exact ⟨(y556), (0), tZB, H', ⟨Nat.le_refl _⟩, ⟨by (with_reducible repeat (first | apply Kd.S_alloc | apply Kd.S_drewN | apply Kd.S_drew)); exact Kd.S_mono HO549.out (fun _ hk => hk.2)⟩, ⟨lZR HO558.out⟩, ⟨bZ⟩⟩
 case round =>
  clear H'; (try clear c2); obtain ⟨x10_1, x11_1, rfl, HA, HK1, HO_8, HO_10, HB⟩ := hrel
  cases gk with
  | zero => exact absurd HA.out (by simp [spec_Mutual.l0])
  | succ k1 =>
   have H := HA.out; clear HA; simp only [spec_Mutual.l0] at H
   by_cases c11 : x11_1 < a1
   rotate_left
   ·rw [if_neg c11] at H; have c11b0 := decide_eq_false c11; clear c11; replace H := Option.bind_eq_some_iff.mp H; obtain ⟨t559, A290, H⟩ := H; replace H : (if t559 = true then (some (x10_1, true)) else (some ((([] : List Int)), false))) = some (r1, r2) := H; have A29 := Aside0.mk A290; clear A290
    by_cases c30 : t559 = true
    ·subst c30; rw [if_pos rfl] at H; simp only [Option.some.injEq, Prod.mk.injEq] at H; obtain ⟨rfl, rfl⟩ := H; obtain ⟨Ao31, co31, eo31⟩ := Kd.R_slice HO_10.out; subst eo31
     go_wp2_with (first | ((with_reducible refine gate_callee (f := 30) rfl ?_); refine goesL_ (some 63) rfl rfl Try.func30 kZ rfl #[.slice Ao31 x10_1.length co31] rfl tZA ?_; (with_reducible refine (spec_l7Costs.calls k1 _ _ x10_1 true _ ?side1 ?side2 A29.out).mono ?_); (case side1 => repeat (first | exact (Kd.R_reads' HO_10.out).2.2 | (with_reducible refine Kd.C_alloc ?_ _) | (with_reducible refine Kd.C_drewN ?_ _) | (with_reducible refine Kd.C_drew ?_))); (case side2 => exact (Kd.R_reads' HO_10.out).2.1); rintro e w' ⟨rfl, ⟨nd, rfl⟩⟩; refine ⟨_, rfl, ?_⟩))
     go_ret2; exact ⟨_, tZC, lZR HO_10.out, bZ⟩
    replace c30 := Bool.eq_false_iff.mpr c30; subst c30; rw [if_neg Bool.false_ne_true] at H; obtain ⟨y560, hy560⟩ : ∃ y_ : List Int, y_ = (([] : List Int)) := ⟨_, rfl⟩; replace H : (some (y560, false)) = some (r1, r2) := by first | (rw [hy560]; with_reducible exact H) | (have H2_ := (Option.bind_some _ _).symm.trans H; rw [hy560]; with_reducible exact H2_) | (have H2_ := (Option.bind_some _ _).symm.trans H; with_reducible exact H2_) | with_reducible exact H | (rw [hy560]; exact H) | exact H
    have Ny560 := Aside0.mk hy560; clear hy560; simp only [Option.some.injEq, Prod.mk.injEq] at H; obtain ⟨rfl, rfl⟩ := H; obtain ⟨Ao32, co32, eo32⟩ := Kd.R_slice HO_10.out; subst eo32
    go_wp2_with (first | ((with_reducible refine gate_callee (f := 30) rfl ?_); refine goesL_ (some 63) rfl rfl Try.func30 kZ rfl #[.slice Ao32 x10_1.length co32] rfl tZA ?_; (with_reducible refine (spec_l7Costs.calls k1 _ _ x10_1 false _ ?side1 ?side2 A29.out).mono ?_); (case side1 => repeat (first | exact (Kd.R_reads' HO_10.out).2.2 | (with_reducible refine Kd.C_alloc ?_ _) | (with_reducible refine Kd.C_drewN ?_ _) | (with_reducible refine Kd.C_drew ?_))); (case side2 => exact (Kd.R_reads' HO_10.out).2.1); rintro e w' ⟨rfl, ⟨nd, rfl⟩⟩; refine ⟨_, rfl, ?_⟩) | ((with_reducible refine gate_dst (N := 65) rfl ?_); refine Kd.R_lit (Kd.int .i64) _ 3 ?hg (N := 65) ?hd (xs := ([] : List Int)) (inner := []) (ok := fun _ => True) (okp := fun _ => True) ?hr ?hp (fun _ hk => hk) trivial (Below.refl _ _) (Nat.le_refl _) (by simp) ?_; (case hd => rfl); (case hg => rfl); (case hr => first | (go_simp; done) | (go_simp; rfl)); (case hp => exact (Reps.none _ _)); intro v561 w33 ho34 hb hg_ hnew_; clear hg_ hnew_; (first | rw [← Ny560.out] at ho34 | (simp only [Int.reduceToNat] at ho34; rw [← Ny560.out] at ho34)); replace HO_8 := aZ (Kd.S_elder' (lZS HO_8.out) (Kd.R_base ho34) hb); have HO562 := aZ (Kd.R_lower (Kd.R_new' ho34 (Kd.R_lt (lZR HO_10.out))) (below_size (lZB HB.out))); replace HO_10 := aZ (Kd.R_elder' (lZR HO_10.out) (Kd.R_base ho34) hb); replace HB := aZ (below_step (lZB HB.out) hb); clear hb ho34))
    go_ret2; exact ⟨_, tZC, by (with_reducible repeat (first | apply Kd.R_alloc | apply Kd.R_drewN | apply Kd.R_drew)); exact Kd.R_mono HO562.out (fun _ hk => trivial), bZ⟩
   rw [if_pos c11] at H; have c11b0 := decide_eq_true c11; clear c11
   by_cases c12 : 0 ≤ x11_1
   rotate_left
   ·rw [if_neg c12] at H; exact absurd H (by simp)
   rw [if_pos c12] at H; have c12b0 := decide_eq_true c12; clear c12
   by_cases c13 : x11_1 < (x10_1.length : Int)
   rotate_left
   ·rw [if_neg c13] at H; exact absurd H (by simp)
   rw [if_pos c13] at H; have c13b0 := decide_eq_true c13; clear c13; obtain ⟨y563, hy563⟩ : ∃ y_ : List Int, y_ = (x10_1.set (x11_1 : Int).toNat 0) := ⟨_, rfl⟩; replace H : (spec_Mutual.l1 k1 a1 t546 y563 x11_1 0) = some (r1, r2) := by first | (rw [hy563]; with_reducible exact H) | (have H2_ := (Option.bind_some _ _).symm.trans H; rw [hy563]; with_reducible exact H2_) | (have H2_ := (Option.bind_some _ _).symm.trans H; with_reducible exact H2_) | with_reducible exact H | (rw [hy563]; exact H) | exact H
   have Ny563 := Aside0.mk hy563; clear hy563; have H' := Aside0.mk H; clear H; have p14 : 0 ≤ (x11_1 : Int) := of_decide_eq_true tZE; have q14 : (x11_1 : Int) < ((x10_1.length : Int) : Int) := of_decide_eq_true tZE; obtain ⟨go14, co14, eo14, gb14, gl14, cl14, HG14⟩ := Kd.R_form HO_10.out (by omega); (first | cases eo14 | (injection eo14 with ea_ en_ ec_; (first | subst ea_ | (injection ea_ with ea_; subst ea_)); subst ec_; clear en_)); have GB14 := Aside0.mk gb14; have GG14 := Aside0.mk HG14; clear gb14 gl14 HG14; obtain ⟨hx14_0, hf14_0⟩ := Kd.R_celln 0 HO_10.out (x11_1 : Int) p14 q14; replace p14 := eq_true p14; replace q14 := eq_true q14; have HP15 := Kd.R_putg HO_10.out (x11_1 : Int) 0
   go_wp2_with (first | ((with_reducible refine gate_store (t := 3) (p := 33) rfl ?_); refine store_event (t := 3) (p := 33) (v := ?vo_w16) (w1 := (wr.setCell ⟨go14, (x11_1 : Int).toNat, none⟩ (.int .i64 0))) ?hg ?ho ?hn ?hr ?_; (case ho => rfl); (case hg => rfl); (case hn => rfl); (case hr => first | (go_simp; done) | (go_simp; rfl)); intro w16 hw; have hg : wr.grownBy w16 (some go14) := (by rw [hw]; exact HP15.2); have hp_ : Kd.R (Kd.int .i64) 3 w16 w.heap.size (fun _ => True) (.slice (some ⟨go14, 0, none⟩) x10_1.length co14) y563 := (by rw [hw, Ny563.out]; exact HP15.1); clear HP15; replace HO_8 := aZ (Kd.S_after (v := (.slice (some ⟨go14, 0, none⟩) x10_1.length co14)) (v1 := (.slice (some ⟨go14, 0, none⟩) x10_1.length co14)) (ok := (fun _ => True)) (by (with_reducible repeat (first | apply Kd.S_alloc | apply Kd.S_drewN | apply Kd.S_drew)); exact Kd.S_mono HO_8.out (fun _ hk => ⟨trivial, hk⟩)) hg (.inl rfl)); replace HO_10 := aZ (hp_); replace HB := aZ ((by rw [hw]; exact below_set (HB.out) GB14.out : Below w.heap.size w w16)); clear hg hw hp_))
   go_loopg [12] k1 (fun kq v12 w' => ∃ (x10_2 : List Int) (x12_2 : Int), v12 = .int .i64 x12_2 ∧ Aside0 (spec_Mutual.l1 kq a1 t546 x10_2 x11_1 x12_2 = some (r1, r2)) ∧ Aside0 (kq ≤ k1) ∧ Aside0 (Kd.S (Kd.slice 3 (Kd.int .i64)) 24 w' w.heap.size (fun k_ => some k_ ≠ ((.slice (some ⟨go14, 0, none⟩) x10_1.length co14) : Value).ownBlock) v548 t546) ∧ Aside0 (Kd.R (Kd.int .i64) 3 w' w.heap.size (fun _ => True) (.slice (some ⟨go14, 0, none⟩) x10_1.length co14) x10_2) ∧ Aside0 (Below w.heap.size w w'))
   case atStart => exact ⟨(y563), (0), tZB, H', ⟨Nat.le_refl _⟩, ⟨by (with_reducible repeat (first | apply Kd.S_alloc | apply Kd.S_drewN | apply Kd.S_drew)); exact Kd.S_mono HO_8.out (fun _ hk => hk.2)⟩, ⟨lZR HO_10.out⟩, ⟨bZ⟩⟩
   case round =>
    clear H'; (try clear c2 c11b0 c12b0 c13b0 p14 q14 hx14_0 p14 q14); obtain ⟨x10_2, x12_2, rfl, HA, HK2, HO_8, HO_10, HB⟩ := hrel; have hl10_2 := (Kd.R_reads' HO_10.out).1; rw [hl10_2] at HO_10; (try simp only [hl10_2]); (try simp only [hl10_2] at HO_8)
    cases gk with
    | zero => exact absurd HA.out (by simp [spec_Mutual.l1])
    | succ k2 =>
     have H := HA.out; clear HA; simp only [spec_Mutual.l1] at H
     by_cases c17 : 0 ≤ x11_1
     rotate_left
     ·rw [if_neg c17] at H; exact absurd H (by simp)
     rw [if_pos c17] at H; have c17b0 := decide_eq_true c17; clear c17
     by_cases c18 : x11_1 < (t546.length : Int)
     rotate_left
     ·rw [if_neg c18] at H; exact absurd H (by simp)
     rw [if_pos c18] at H; have c18b0 := decide_eq_true c18; clear c18
     by_cases c19 : x12_2 < ((rd_L2 t546 x11_1).length : Int)
     rotate_left
     ·rw [if_neg c19] at H; have c19b0 := decide_eq_false c19; clear c19; have H' := Aside0.mk H; clear H; obtain ⟨Ao28, co28, eo28⟩ := Kd.S_slice HO_8.out; subst eo28; have p564 : 0 ≤ (x11_1 : Int) := of_decide_eq_true tZE; have q564 : x11_1 < (t546.length : Int) := of_decide_eq_true tZE; obtain ⟨ad564, A564_0, c564_0, e564, hx564_0, hl564_0, hi564_0⟩ := at_L2 (Kd.S_reads' HO_8.out).2.2 x11_1 p564 q564
      cases e564
      obtain ⟨ce564, hce564, hMe564, hcc564⟩ := Kd.S_get HO_8.out [] x11_1 p564 (by first | exact q564 | exact of_decide_eq_true tZE | (have e_ := (Kd.S_reads' HO_8.out).1; omega)); obtain ⟨ve564_0, rfl, ge564_0⟩ := hMe564; have hv564_0 := hcc564 0 _ rfl; rw [Nat.add_zero, show ((Kd.slice 3 (Kd.int .i64))).sz = 1 from rfl, Nat.mul_one] at hv564_0; replace hv564_0 := Option.some.inj (hv564_0.symm.trans hx564_0); rw [hv564_0] at ge564_0; have HL564_0 := aZ (show Kd.R (Kd.int .i64) 3 _ _ _ _ (rd_L2 t546 x11_1) from ge564_0); clear hv564_0 ge564_0; clear hcc564 hce564; have HR564_0 := Aside0.mk hi564_0; have HC564_0 := Aside0.mk hl564_0; clear hi564_0 hl564_0; replace p564 := eq_true p564; replace q564 := eq_true q564; go_wp2; (try simp only [← hl10_2])
      go_roundg k2
      case measure => have := HK1.out; have := HK2.out; omega
      case rel => exact ⟨(x10_2), (wrap64 (x11_1 + 1)), tZB, H', ⟨by have := HK1.out; have := HK2.out; omega⟩, ⟨by (try simp only [hl10_2]); (with_reducible repeat (first | apply Kd.S_alloc | apply Kd.S_drewN | apply Kd.S_drew)); exact HO_8.out⟩, ⟨by (try simp only [hl10_2]); (with_reducible repeat (first | apply Kd.R_alloc | apply Kd.R_drewN | apply Kd.R_drew)); exact HO_10.out⟩, ⟨bZ⟩⟩
     rw [if_pos c19] at H; have c19b0 := decide_eq_true c19; clear c19; obtain ⟨ji20, hji20⟩ : ∃ j_ : Int, (wrap64 (a1 + x12_2)) = j_ := ⟨_, rfl⟩; replace H : (if 0 ≤ (ji20) then (if (ji20) < (x10_2.length : Int) then (if 0 ≤ x12_2 then (spec_Mutual.l1 k2 a1 t546 (x10_2.set ((ji20) : Int).toNat (wrap64 ((rd x10_2 (ji20)) + (rd (rd_L2 t546 x11_1) x12_2)))) x11_1 (wrap64 (x12_2 + 1))) else (none)) else (none)) else (none)) = some (r1, r2) := by first | (rw [hji20] at H; exact H) | (simp only [hji20] at H ⊢; exact H)
     have hji20w : (IntKind.i64.wrap (a1 + x12_2)) = ji20 := (i64_w _).trans hji20
     by_cases c21 : 0 ≤ (ji20)
     rotate_left
     ·rw [if_neg c21] at H; exact absurd H (by simp)
     rw [if_pos c21] at H; have c21b0 := decide_eq_true c21; clear c21
     by_cases c22 : (ji20) < (x10_2.length : Int)
     rotate_left
     ·rw [if_neg c22] at H; exact absurd H (by simp)
     rw [if_pos c22] at H; have c22b0 := decide_eq_true c22; clear c22
     by_cases c23 : 0 ≤ x12_2
     rotate_left
     ·rw [if_neg c23] at H; exact absurd H (by simp)
     rw [if_pos c23] at H; have c23b0 := decide_eq_true c23; clear c23; obtain ⟨y568, hy568⟩ : ∃ y_ : List Int, y_ = (x10_2.set ((ji20) : Int).toNat (wrap64 ((rd x10_2 (ji20)) + (rd (rd_L2 t546 x11_1) x12_2)))) := ⟨_, rfl⟩; replace H : (spec_Mutual.l1 k2 a1 t546 y568 x11_1 (wrap64 (x12_2 + 1))) = some (r1, r2) := by first | (rw [hy568]; with_reducible exact H) | (have H2_ := (Option.bind_some _ _).symm.trans H; rw [hy568]; with_reducible exact H2_) | (have H2_ := (Option.bind_some _ _).symm.trans H; with_reducible exact H2_) | with_reducible exact H | (rw [hy568]; exact H) | exact H
     have Ny568 := Aside0.mk hy568; clear hy568; have H' := Aside0.mk H; clear H; obtain ⟨Ao25, co25, eo25⟩ := Kd.S_slice HO_8.out; subst eo25; have p564 : 0 ≤ (x11_1 : Int) := of_decide_eq_true tZE; have q564 : x11_1 < (t546.length : Int) := of_decide_eq_true tZE; obtain ⟨ad564, A564_0, c564_0, e564, hx564_0, hl564_0, hi564_0⟩ := at_L2 (Kd.S_reads' HO_8.out).2.2 x11_1 p564 q564
     cases e564
     obtain ⟨ce564, hce564, hMe564, hcc564⟩ := Kd.S_get HO_8.out [] x11_1 p564 (by first | exact q564 | exact of_decide_eq_true tZE | (have e_ := (Kd.S_reads' HO_8.out).1; omega)); obtain ⟨ve564_0, rfl, ge564_0⟩ := hMe564; have hv564_0 := hcc564 0 _ rfl; rw [Nat.add_zero, show ((Kd.slice 3 (Kd.int .i64))).sz = 1 from rfl, Nat.mul_one] at hv564_0; replace hv564_0 := Option.some.inj (hv564_0.symm.trans hx564_0); rw [hv564_0] at ge564_0; have HL564_0 := aZ (show Kd.R (Kd.int .i64) 3 _ _ _ _ (rd_L2 t546 x11_1) from ge564_0); clear hv564_0 ge564_0; clear hcc564 hce564; have HR564_0 := Aside0.mk hi564_0; have HC564_0 := Aside0.mk hl564_0; clear hi564_0 hl564_0; replace p564 := eq_true p564; replace q564 := eq_true q564
     try go_wp2
     replace HO_8 := aZ (Kd.S_drew HO_8.out); replace HO_10 := aZ (Kd.R_drew HO_10.out); replace HL564_0 := aZ (Kd.R_drew HL564_0.out); replace HR564_0 := aZ (Kd.C_drew HR564_0.out); replace HB := aZ (below_drew1 HB.out); have p565 : 0 ≤ ((ji20) : Int) := of_decide_eq_true tZE; have q565 : (ji20) < (x10_2.length : Int) := of_decide_eq_true tZE; obtain ⟨ad565, e565, hx565_0⟩ := Kd.at_int (Kd.R_reads' HO_10.out).2.2 (ji20) p565 q565; obtain rfl : (⟨go14, 0, none⟩ : Addr) = ad565 := (by injection e565); (first | simp only [add_plain] at hx565_0 | simp only [add_at] at hx565_0 | simp only [Addr.add, Nat.zero_add] at hx565_0 | skip); replace p565 := eq_true p565; replace q565 := eq_true q565; have p566 : 0 ≤ (x11_1 : Int) := of_decide_eq_true tZE; have q566 : x11_1 < (t546.length : Int) := of_decide_eq_true tZE
     obtain ⟨ad566, A566_0, c566_0, e566, hx566_0, hl566_0, hi566_0⟩ := at_L2 (Kd.S_reads' HO_8.out).2.2 x11_1 p566 q566; obtain rfl : ad564 = ad566 := (by injection e566); obtain ⟨ce566, hce566, hMe566, hcc566⟩ := Kd.S_get HO_8.out [] x11_1 p566 (by first | exact q566 | exact of_decide_eq_true tZE | (have e_ := (Kd.S_reads' HO_8.out).1; omega)); obtain ⟨ve566_0, rfl, ge566_0⟩ := hMe566; have hv566_0 := hcc566 0 _ rfl; rw [Nat.add_zero, show ((Kd.slice 3 (Kd.int .i64))).sz = 1 from rfl, Nat.mul_one] at hv566_0; replace hv566_0 := Option.some.inj (hv566_0.symm.trans hx566_0); rw [hv566_0] at ge566_0; have HL566_0 := aZ (show Kd.R (Kd.int .i64) 3 _ _ _ _ (rd_L2 t546 x11_1) from ge566_0); clear hv566_0 ge566_0; clear hcc566 hce566; have HR566_0 := Aside0.mk hi566_0; have HC566_0 := Aside0.mk hl566_0; clear hi566_0 hl566_0; replace p566 := eq_true p566; replace q566 := eq_true q566
     have p567 : 0 ≤ (x12_2 : Int) := of_decide_eq_true tZE; have q567 : x12_2 < ((rd_L2 t546 x11_1).length : Int) := of_decide_eq_true tZE; obtain ⟨ad567, e567, hx567_0⟩ := Kd.at_int (by repeat (first | (with_reducible exact HR566_0.out) | (with_reducible refine Kd.C_alloc ?_ _) | (with_reducible refine Kd.C_drewN ?_ _) | (with_reducible refine Kd.C_drew ?_) | exact HR566_0.out)) x12_2 p567 q567
     cases e567
     replace p567 := eq_true p567; replace q567 := eq_true q567; have p24 : 0 ≤ ((ji20) : Int) := of_decide_eq_true tZE; have q24 : ((ji20) : Int) < ((x10_2.length : Int) : Int) := of_decide_eq_true tZE; obtain ⟨hx24_0, hf24_0⟩ := Kd.R_celln 0 HO_10.out ((ji20) : Int) p24 q24; replace p24 := eq_true p24; replace q24 := eq_true q24; (try clear GG14); obtain ⟨cl27_, hgg27_⟩ := Kd.R_typed (HO_10.out) go14 rfl; have GG14 := Aside0.mk hgg27_; clear hgg27_; have HP27 := Kd.R_putn HO_10.out ((ji20) : Int) (wrap64 ((rd x10_2 (ji20)) + (rd (rd_L2 t546 x11_1) x12_2))); rw [← Ny568.out] at HP27; have HQ27 := Aside0.mk HP27; clear HP27
     refine start_ (n := 20) (S := fun w' => w'.cell? ⟨go14, ((ji20)).toNat, none⟩ = some (.int .i64 (rd x10_2 (ji20))) ∧ w'.cell? (ad564.add (x11_1).toNat) = some (.slice (some ad567) (rd_L2 t546 x11_1).length c566_0) ∧ w'.cell? (ad567.add (x12_2).toNat) = some (.int .i64 (rd (rd_L2 t546 x11_1) x12_2))) (ds := [19]) L0' kZ rfl rfl ⟨hx565_0, hx566_0, hx567_0⟩ (fun hHeld => ?_); refine with_tabW spec_Mutual.tab12 spec_Mutual.bits12 (fun HT_ HW_ => ?_); generalize wr.drew = w26 at HO_8 HO_10 HL564_0 HR564_0 HB GG14 HL566_0 HQ27 HR566_0 hf24_0 hx24_0 hx565_0 hx566_0 hx567_0 hHeld ⊢; refine pure_ (i := 0) (N := some 43) (v := ?_) (a' := ?_) L1' rfl rfl (any_of HT_.out kZ) (fun _ _ _ h => h) (Or.inl ⟨by rfl, ?_⟩) ?_ ?_; rotate_left
     ·intro w'; go_simp; with_reducible rfl
     rotate_left
     ·simp only [Act.put, sZ1, sZ2, sZ3, i64_w, i32_w]; rfl
     refine pure_ (i := 1) (N := some 44) (v := ?_) (a' := ?_) L2' rfl rfl (any_of HT_.out kZ) (fun _ _ _ h => h) (Or.inl ⟨by rfl, ?_⟩) ?_ ?_; rotate_left
     ·intro w'; go_simp; with_reducible rfl
     rotate_left
     ·simp only [Act.put, sZ1, sZ2, sZ3, i64_w, i32_w]; rfl
     refine pure_ (i := 2) (N := some 45) (v := ?_) (a' := ?_) L3' rfl rfl (any_of HT_.out kZ) (fun _ _ _ h => h) (Or.inl ⟨by rfl, ?_⟩) ?_ ?_; rotate_left
     ·intro w'; go_simp; with_reducible rfl
     rotate_left
     ·simp only [Act.put, sZ1, sZ2, sZ3, i64_w, i32_w]; rfl
     refine pure_ (i := 3) (N := some 46) (v := ?_) (a' := ?_) L4' rfl rfl (any_of HT_.out kZ) (fun _ _ _ h => h) (Or.inl ⟨by rfl, ?_⟩) ?_ ?_; rotate_left
     ·intro w'; go_simp; with_reducible rfl
     rotate_left
     ·simp only [Act.put, sZ1, sZ2, sZ3, i64_w, i32_w]; rfl
     refine pure_ (i := 4) (N := some 47) (v := ?_) (a' := ?_) L5' rfl rfl (any_of HT_.out kZ) (fun _ _ _ h => h) (Or.inl ⟨by rfl, ?_⟩) ?_ ?_; rotate_left
     ·intro w'; go_simp; with_reducible rfl
     rotate_left
     ·simp only [Act.put, sZ1, sZ2, sZ3, i64_w, i32_w]; rfl
     refine pure_ (i := 5) (N := some 48) (v := ?_) (a' := ?_) L6' rfl rfl (any_of HT_.out kZ) (fun _ _ _ h => h) (Or.inl ⟨by rfl, ?_⟩) ?_ ?_; rotate_left
     ·intro w'; go_simp; with_reducible rfl
     rotate_left
     ·simp only [Act.put, sZ1, sZ2, sZ3, i64_w, i32_w]; rfl
     refine pure_ (i := 6) (N := some 49) (v := ?_) (a' := ?_) L7' rfl rfl (any_of HT_.out kZ) (fun _ _ _ h => h) (Or.inl ⟨by rfl, ?_⟩) ?_ ?_; rotate_left
     ·intro w'; go_simp; with_reducible rfl
     rotate_left
     ·simp only [Act.put, sZ1, sZ2, sZ3, i64_w, i32_w]; rfl
     refine pure_ (i := 7) (N := some 50) (v := ?_) (a' := ?_) L8' rfl rfl (any_of HT_.out kZ) (fun _ _ _ h => h) (Or.inl ⟨by rfl, ?_⟩) ?_ ?_; rotate_left
     ·intro w'; go_simp; with_reducible rfl
     rotate_left
     ·simp only [Act.put, sZ1, sZ2, sZ3, i64_w, i32_w]; rfl
     refine pure_ (i := 8) (N := some 51) (v := ?_) (a' := ?_) L9' rfl rfl (any_of HT_.out kZ) (fun _ _ _ h => h) (Or.inl ⟨by rfl, ?_⟩) ?_ ?_; rotate_left
     ·intro w'; go_simp; with_reducible rfl
     rotate_left
     ·simp only [Act.put, sZ1, sZ2, sZ3, i64_w, i32_w]; rfl
     refine pure_ (i := 10) (N := some 53) (v := ?_) (a' := ?_) L10' rfl rfl (any_of HT_.out kZ) (fun _ _ _ h => h) (Or.inl ⟨by rfl, ?_⟩) ?_ ?_; rotate_left
     ·intro w'; go_simp; with_reducible rfl
     rotate_left
     ·simp only [Act.put, sZ1, sZ2, sZ3, i64_w, i32_w]; rfl
     refine pure_ (i := 11) (N := some 54) (v := ?_) (a' := ?_) L11' rfl rfl (any_of HT_.out kZ) (fun _ _ _ h => h) (Or.inl ⟨by rfl, ?_⟩) ?_ ?_; rotate_left
     ·intro w'; go_simp; with_reducible rfl
     rotate_left
     ·simp only [Act.put, sZ1, sZ2, sZ3, i64_w, i32_w]; rfl
     refine pure_ (i := 12) (N := some 55) (v := ?_) (a' := ?_) L12' rfl rfl (any_of HT_.out kZ) (fun _ _ _ h => h) (Or.inl ⟨by rfl, ?_⟩) ?_ ?_; rotate_left
     ·intro w'; go_simp; with_reducible rfl
     rotate_left
     ·simp only [Act.put, sZ1, sZ2, sZ3, i64_w, i32_w]; rfl
     refine pure_ (i := 14) (N := some 57) (v := ?_) (a' := ?_) L13' rfl rfl (any_of HT_.out kZ) (fun _ _ _ h => h) (Or.inl ⟨by rfl, ?_⟩) ?_ ?_; rotate_left
     ·intro w'; go_simp; with_reducible rfl
     rotate_left
     ·simp only [Act.put, sZ1, sZ2, sZ3, i64_w, i32_w]; rfl
     refine take_ (i := 9) (N := some 52) (v := ?_) (a' := ?_) L14' rfl rfl (take_ofW HT_.out HW_.out kZ) (fun _ _ _ h => h) (Or.inl ⟨by rfl, ?_⟩) hHeld ?_ ?_; rotate_left
     ·rintro w' ⟨s0, s1, s2⟩
      go_simp; with_reducible rfl
     rotate_left
     ·simp only [Act.put, sZ1, sZ2, sZ3, i64_w, i32_w]; rfl
     refine take_ (i := 13) (N := some 56) (v := ?_) (a' := ?_) L15' rfl rfl (take_ofW HT_.out HW_.out kZ) (fun _ _ _ h => h) (Or.inl ⟨by rfl, ?_⟩) hHeld ?_ ?_; rotate_left
     ·rintro w' ⟨s0, s1, s2⟩
      go_simp; with_reducible rfl
     rotate_left
     ·simp only [Act.put, sZ1, sZ2, sZ3, i64_w, i32_w]; rfl
     refine pure_ (i := 15) (N := some 58) (v := ?_) (a' := ?_) L16' rfl rfl (any_of HT_.out kZ) (fun _ _ _ h => h) (Or.inl ⟨by rfl, ?_⟩) ?_ ?_; rotate_left
     ·intro w'; go_simp; with_reducible rfl
     rotate_left
     ·simp only [Act.put, sZ1, sZ2, sZ3, i64_w, i32_w]; rfl
     refine take_ (i := 16) (N := some 59) (v := ?_) (a' := ?_) L17' rfl rfl (take_ofW HT_.out HW_.out kZ) (fun _ _ _ h => h) (Or.inl ⟨by rfl, ?_⟩) hHeld ?_ ?_; rotate_left
     ·rintro w' ⟨s0, s1, s2⟩
      go_simp; with_reducible rfl
     rotate_left
     ·simp only [Act.put, sZ1, sZ2, sZ3, i64_w, i32_w]; rfl
     refine pure_ (i := 17) (N := some 60) (v := ?_) (a' := ?_) L18' rfl rfl (any_of HT_.out kZ) (fun _ _ _ h => h) (Or.inl ⟨by rfl, ?_⟩) ?_ ?_; rotate_left
     ·intro w'; go_simp; with_reducible rfl
     rotate_left
     ·simp only [Act.put, sZ1, sZ2, sZ3, i64_w, i32_w]; rfl
     refine pure_ (i := 18) (N := some 61) (v := ?_) (a' := ?_) L19' rfl rfl (any_of HT_.out kZ) (fun _ _ _ h => h) (Or.inl ⟨by rfl, ?_⟩) ?_ ?_; rotate_left
     ·intro w'; go_simp; with_reducible rfl
     rotate_left
     ·simp only [Act.put, sZ1, sZ2, sZ3, i64_w, i32_w]; rfl
     refine last_ (i := 19) (N := none) L20' rfl rfl (one_of HT_.out kZ) (by decide) (fun K hK => ?_); refine skip_ (w1 := ?_) (by rfl) rfl ?_ ?_; rotate_left
     ·go_simp; rfl
     refine hK.out _ _ ?_; clear hK K; refine done_ (done_of HT_.out kZ) ?_
     try go_wp2
     (try simp only [← hl10_2])
     go_roundg k2
     case measure => have := HK1.out; have := HK2.out; omega
     case rel => exact ⟨(y568), (wrap64 (x12_2 + 1)), tZB, H', ⟨by have := HK1.out; have := HK2.out; omega⟩, ⟨by (try simp only [hl10_2]); (with_reducible repeat (first | apply Kd.S_alloc | apply Kd.S_drewN | apply Kd.S_drew)); exact Kd.S_mono (Kd.S_far (p := ⟨go14, ((ji20) : Int).toNat, none⟩) (Kd.S_mono HO_8.out (fun k_ hk => (⟨hk, fun e_ => hk (by rw [e_]; rfl)⟩ : _ ∧ k_ ≠ go14))) (fun _ hk => hk.2) (.int .i64 (wrap64 ((rd x10_2 (ji20)) + (rd (rd_L2 t546 x11_1) x12_2))))) (fun _ hk => hk.1)⟩, ⟨by (try simp only [hl10_2]); (with_reducible repeat (first | apply Kd.R_alloc | apply Kd.R_drewN | apply Kd.R_drew)); exact HQ27.out⟩, ⟨bZ⟩⟩
def laws_sum.l0 : Nat → List Int → Int → Int → Option (Int)
  | 0, _, _, _ => none
  | k + 1, x0, x3, x4 => if x4 < (x0.length : Int) then (if 0 ≤ x4 then (laws_sum.l0 k x0 (wrap64 (x3 + (rd x0 x4))) (wrap64 (x4 + 1))) else (none)) else (some x3)
def laws_sum.f (k : Nat) (l0 : List Int) : Option (Int) := laws_sum.l0 k l0 0 0
theorem laws_sum.mono_l : ∀ k, (∀ y0 y1 y2, LeO (laws_sum.l0 k y0 y1 y2) (laws_sum.l0 (k + 1) y0 y1 y2))
  | 0 => fun _ _ _ r h => by simp [laws_sum.l0] at h
  | k + 1 => by
    have ih0 := laws_sum.mono_l k
    · intro y0 y1 y2
      unfold laws_sum.l0
      repeat' first
      | (with_reducible exact ih0 _ _ _)
      | (with_reducible exact LeO.refl _)
      | (with_reducible exact LeO.none _)
      | (with_reducible refine LeO.ite ?_ ?_)
      | (with_reducible refine LeO.bind ?_ (fun _ => ?_))
      | exact ih0 _ _ _
      | exact LeO.none _
      | refine LeO.ite ?_ ?_
      | refine LeO.bind ?_ (fun _ => ?_)
theorem laws_sum.mono : ∀ a0 k, LeO (laws_sum.f k a0) (laws_sum.f (k + 1) a0) := by
 intro a0 k
 have ih0 := laws_sum.mono_l k
 unfold laws_sum.f
 repeat' first
     | (with_reducible exact ih0 _ _ _)
     | (with_reducible exact LeO.refl _)
     | (with_reducible exact LeO.none _)
     | (with_reducible refine LeO.ite ?_ ?_)
     | (with_reducible refine LeO.bind ?_ (fun _ => ?_))
     | exact ih0 _ _ _
     | exact LeO.none _
     | refine LeO.ite ?_ ?_
     | refine LeO.bind ?_ (fun _ => ?_)
set_option maxHeartbeats 8000000 in
set_option maxRecDepth 100000 in
theorem laws_sum.calls (k : Nat) (A0 : Option Addr) (c0 : Nat) (l0 : List Int) (r : Int) (w : World) (hr0 : Kd.C (Kd.int .i64) w A0 l0.length l0) (hc0 : l0.length ≤ c0) (h : laws_sum.f k l0 = some r) :
    Calls Try.prog 11 #[.slice A0 l0.length c0] w fun e w' => e = .returned (.int .i64 r) ∧ Drawn0 w w' := by
 have HR0 := Aside0.mk hr0; have HC0 := Aside0.mk hc0; clear hr0 hc0; have H : (laws_sum.l0 k l0 0 0) = some r := h; clear h; have H' := Aside0.mk H; clear H; go_enter Try.func11, Try.ntmps11; go_wp2
 go_loopg [3, 4] k (fun kq v3 v4 w' => ∃ (x3_1 : Int) (x4_1 : Int), v3 = .int .i64 x3_1 ∧ v4 = .int .i64 x4_1 ∧ Aside0 (laws_sum.l0 kq l0 x3_1 x4_1 = some r) ∧ Aside0 (kq ≤ k) ∧ Drawn0 w w')
 case atStart => exact ⟨(0), (0), tZB, tZB, H', ⟨Nat.le_refl _⟩, tZD⟩
 case round =>
  clear H'; obtain ⟨x3_1, x4_1, rfl, rfl, HA, HK1, ⟨m1, rfl⟩⟩ := hrel
  cases gk with
  | zero => exact absurd HA.out (by simp [laws_sum.l0])
  | succ k1 =>
   have H := HA.out; clear HA; simp only [laws_sum.l0] at H
   by_cases c2 : x4_1 < (l0.length : Int)
   rotate_left
   ·rw [if_neg c2] at H; have c2b0 := decide_eq_false c2; clear c2; obtain rfl := Option.some.inj H; go_wp2; go_ret; exact ⟨tZB, tZD⟩
   rw [if_pos c2] at H; have c2b0 := decide_eq_true c2; clear c2
   by_cases c3 : 0 ≤ x4_1
   rotate_left
   ·rw [if_neg c3] at H; exact absurd H (by simp)
   rw [if_pos c3] at H; have c3b0 := decide_eq_true c3; clear c3; have H' := Aside0.mk H; clear H; have p569 : 0 ≤ (x4_1 : Int) := of_decide_eq_true tZE; have q569 : x4_1 < (l0.length : Int) := of_decide_eq_true tZE; obtain ⟨ad569, e569, hx569_0⟩ := Kd.at_int HR0.out x4_1 p569 q569
   cases e569
   replace p569 := eq_true p569; replace q569 := eq_true q569; go_wp2
   go_roundg k1
   case measure => have := HK1.out; omega
   case rel => exact ⟨(wrap64 (x3_1 + (rd l0 x4_1))), (wrap64 (x4_1 + 1)), tZB, tZB, H', ⟨by have := HK1.out; omega⟩, tZD⟩
end Go.Proofs.Ytadehdkmggpehaa.PFnMutualWhole
