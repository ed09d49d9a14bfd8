import Derived.Test.YtjnmfadnkbflfaaOPFnExactOutputx0
import Derived.Test.YtjnmfadnkbflfaaOPFnExactOutputx8
import Derived.Test.YtjnmfadnkbflfaaOSlimWords
namespace Go.Proofs.Ytjnmfadnkbflfaa.PFnExactOutput
open Go.Proofs.Ytjnmfadnkbflfaa.SlimWords
open Go.RowKit Go.Proofs.YtjnmfadnkbflfaaW.PrintWords Go.Proofs.YtjnmfadnkbflfaaW.PrintLast Go.Proofs.YtjnmfadnkbflfaaW.PrintMore Go.Proofs.Ytjnmfadnkbflfaa.MapWords Go.Proofs.Ytjnmfadnkbflfaa.IterWords Go.Proofs.Ytjnmfadnkbflfaa.MarkWords Go.Proofs.Ytjnmfadnkbflfaa.ArrWords
attribute [local go_sem] ptrOf_slice max2_int min2_int max_two min_two max_three min_three max_four min_four
set_option linter.unusedVariables false
set_option linter.unusedSimpArgs false
private abbrev I' := true
private abbrev O' := false
private abbrev L0' : Array Bool := #[O',O',O',O',O',O',O',O',O',O',O',O',O',O',O',O',O',O',O',O',O',O',O',O']
private abbrev L1' : Array Bool := #[I',O',O',O',O',O',O',O',O',O',O',O',O',O',O',O',O',O',O',O',O',O',O',O']
private abbrev L2' : Array Bool := #[I',I',O',O',O',O',O',O',O',O',O',O',O',O',O',O',O',O',O',O',O',O',O',O']
private abbrev L3' : Array Bool := #[I',I',I',O',O',O',O',O',O',O',O',O',O',O',O',O',O',O',O',O',O',O',O',O']
private abbrev L4' : Array Bool := #[I',I',I',I',O',O',O',O',O',O',O',O',O',O',O',O',O',O',O',O',O',O',O',O']
private abbrev L5' : Array Bool := #[I',I',I',I',I',O',O',O',O',O',O',O',O',O',O',O',O',O',O',O',O',O',O',O']
private abbrev L6' : Array Bool := #[I',I',I',I',I',O',I',O',O',O',O',O',O',O',O',O',O',O',O',O',O',O',O',O']
private abbrev L7' : Array Bool := #[I',I',I',I',I',O',I',I',O',O',O',O',O',O',O',O',O',O',O',O',O',O',O',O']
private abbrev L8' : Array Bool := #[I',I',I',I',I',O',I',I',I',O',O',O',O',O',O',O',O',O',O',O',O',O',O',O']
private abbrev L9' : Array Bool := #[I',I',I',I',I',O',I',I',I',I',O',O',O',O',O',O',O',O',O',O',O',O',O',O']
private abbrev L10' : Array Bool := #[I',I',I',I',I',O',I',I',I',I',I',O',O',O',O',O',O',O',O',O',O',O',O',O']
private abbrev L11' : Array Bool := #[I',I',I',I',I',O',I',I',I',I',I',O',O',O',I',O',O',O',O',O',O',O',O',O']
private abbrev L12' : Array Bool := #[I',I',I',I',I',O',I',I',I',I',I',O',O',O',I',I',O',O',O',O',O',O',O',O']
private abbrev L13' : Array Bool := #[I',I',I',I',I',O',I',I',I',I',I',O',O',O',I',I',I',O',O',O',O',O',O',O']
private abbrev L14' : Array Bool := #[I',I',I',I',I',O',I',I',I',I',I',O',O',O',I',I',I',I',O',O',O',O',O',O']
private abbrev L15' : Array Bool := #[I',I',I',I',I',O',I',I',I',I',I',O',O',O',I',I',I',I',I',O',O',O',O',O']
private abbrev L16' : Array Bool := #[I',I',I',I',I',I',I',I',I',I',I',O',O',O',I',I',I',I',I',O',O',O',O',O']
private abbrev L17' : Array Bool := #[I',I',I',I',I',I',I',I',I',I',I',I',O',O',I',I',I',I',I',O',O',O',O',O']
private abbrev L18' : Array Bool := #[I',I',I',I',I',I',I',I',I',I',I',I',I',O',I',I',I',I',I',O',O',O',O',O']
private abbrev L19' : Array Bool := #[I',I',I',I',I',I',I',I',I',I',I',I',I',I',I',I',I',I',I',O',O',O',O',O']
private abbrev L20' : Array Bool := #[I',I',I',I',I',I',I',I',I',I',I',I',I',I',I',I',I',I',I',I',O',O',O',O']
private abbrev L21' : Array Bool := #[I',I',I',I',I',I',I',I',I',I',I',I',I',I',I',I',I',I',I',I',I',O',O',O']
private abbrev L22' : Array Bool := #[I',I',I',I',I',I',I',I',I',I',I',I',I',I',I',I',I',I',I',I',I',I',O',O']
private abbrev L23' : Array Bool := #[I',I',I',I',I',I',I',I',I',I',I',I',I',I',I',I',I',I',I',I',I',I',I',O']
private abbrev L24' : Array Bool := #[I',I',I',I',I',I',I',I',I',I',I',I',I',I',I',I',I',I',I',I',I',I',I',I']
def spec_Output.l0 : Nat → Int → List Int → Int → List (S149) → Int → Option (List Int × Bool)
  | 0, _, _, _, _, _ => none
  | k + 1, x1, x10, x11, x12, x13 => if x13 < (x12.length : Int) then (if 0 ≤ x13 then (if 0 ≤ ((rd_T149 x12 x13).f0) then (if ((rd_T149 x12 x13).f0) < (x10.length : Int) then ((spec_l12Qty.f (wrap64 (x11 * ((rd_T149 x12 x13).f1)))).bind fun t255 => (if t255 = true then ((spec_l12Qty.f (wrap64 ((rd x10 ((rd_T149 x12 x13).f0)) + (wrap64 (x11 * ((rd_T149 x12 x13).f1)))))).bind fun t258 => (if t258 = true then (spec_Output.l0 k x1 (x10.set (((rd_T149 x12 x13).f0) : Int).toNat (wrap64 ((rd x10 ((rd_T149 x12 x13).f0)) + (wrap64 (x11 * ((rd_T149 x12 x13).f1)))))) x11 x12 (wrap64 (x13 + 1))) else (some ((([] : List Int)), false)))) else (some ((([] : List Int)), false)))) else (none)) else (none)) else (none)) else (if 0 ≤ x1 then (if x1 < (x10.length : Int) then ((spec_l12Qty.f (rd x10 x1)).bind fun t245 => (if t245 = true then (some (x10, true)) else (some ((([] : List Int)), false)))) else (none)) else (none))
def spec_Output.f (k : Nat) (l0 : List (S130)) (a1 : Int) (a2 : Int) (a3 : Int) : Option (List Int × Bool) := (spec_l17Asked.f k l0 a1 a2 a3).bind fun t229 => (if t229 = true then (if 0 ≤ (l0.length : Int) then (if ((l0.length : Int) : Int).toNat ≤ 35184372088832 then ((some (List.replicate ((l0.length : Int) : Int).toNat 0 : List Int)).bind fun y233 => (if 0 ≤ a1 then (if a1 < (l0.length : Int) then ((spec_l17Batches.f ((rd_T130 l0 a1).f0) ((rd_T130 l0 a1).f1) ((rd_T130 l0 a1).f2) ((rd_T130 l0 a1).f3) ((rd_T130 l0 a1).f4) a2).bind fun t237 => (if a1 < (y233.length : Int) then ((spec_l17Counting.f k ((rd_T130 l0 a1).f4) a3).bind fun t241 => (spec_Output.l0 k a1 (y233.set (a1 : Int).toNat (wrap64 (t237 * ((rd_T130 l0 a1).f1)))) t237 t241 0)) else (none))) else (none)) else (none))) else (none)) else (none)) else (some ((([] : List Int)), false)))
theorem spec_Output.mono_l : ∀ k, (∀ y0 y1 y2 y3 y4, LeO (spec_Output.l0 k y0 y1 y2 y3 y4) (spec_Output.l0 (k + 1) y0 y1 y2 y3 y4))
  | 0 => fun _ _ _ _ _ r h => by simp [spec_Output.l0] at h
  | k + 1 => by
    have ih0 := spec_Output.mono_l k
    · intro y0 y1 y2 y3 y4
      unfold spec_Output.l0
      repeat' first
      | (with_reducible exact ih0 _ _ _ _ _)
      | (with_reducible exact spec_l17Asked.mono _ _ _ _ _)
      | (with_reducible exact spec_l17Counting.mono _ _ _)
      | (with_reducible exact LeO.refl _)
      | (with_reducible exact LeO.none _)
      | (with_reducible refine LeO.ite ?_ ?_)
      | (with_reducible refine LeO.bind ?_ (fun _ => ?_))
      | exact ih0 _ _ _ _ _
      | exact spec_l17Asked.mono _ _ _ _ _
      | exact spec_l17Counting.mono _ _ _
      | exact LeO.none _
      | refine LeO.ite ?_ ?_
      | refine LeO.bind ?_ (fun _ => ?_)
theorem spec_Output.mono : ∀ a0 a1 a2 a3 k, LeO (spec_Output.f k a0 a1 a2 a3) (spec_Output.f (k + 1) a0 a1 a2 a3) := by
 intro a0 a1 a2 a3 k
 have ih0 := spec_Output.mono_l k
 unfold spec_Output.f
 repeat' first
     | (with_reducible exact ih0 _ _ _ _ _)
     | (with_reducible exact spec_l17Asked.mono _ _ _ _ _)
     | (with_reducible exact spec_l17Counting.mono _ _ _)
     | (with_reducible exact LeO.refl _)
     | (with_reducible exact LeO.none _)
     | (with_reducible refine LeO.ite ?_ ?_)
     | (with_reducible refine LeO.bind ?_ (fun _ => ?_))
     | exact ih0 _ _ _ _ _
     | exact spec_l17Asked.mono _ _ _ _ _
     | exact spec_l17Counting.mono _ _ _
     | exact LeO.none _
     | refine LeO.ite ?_ ?_
     | refine LeO.bind ?_ (fun _ => ?_)
def spec_Output.T10 : Bool × List (List Nat × List Nat) := (true, [([], []), ([], []), ([], []), ([1, 2], [1, 2]), ([3], [3]), ([4], [4]), ([], []), ([], []), ([], []), ([7, 8], [7, 8]), ([9], [9]), ([10], [10]), ([6, 11], [6, 11]), ([12], [12]), ([], []), ([], []), ([], []), ([15, 16], [15, 16]), ([17], [17]), ([18], [18]), ([14, 19], [14, 19]), ([13, 20], [13, 20]), ([0, 5, 0, 1, 2, 3, 4, 5, 6, 7, 8, 9, 10, 11, 12, 13, 14, 15, 16, 17, 18, 19, 20, 21], [0, 5]), ([22, 21, 0, 1, 2, 3, 4, 5, 6, 7, 8, 9, 10, 11, 12, 13, 14, 15, 16, 17, 18, 19, 20, 21], [21, 22])])
def spec_Output.B10 : List Nat := [0, 0, 0, 6, 14, 30, 0, 0, 0, 384, 896, 1920, 4032, 8128, 0, 0, 0, 98304, 229376, 491520, 1032192, 2097088, 4194303, 8388607]
theorem spec_Output.tab10 : rtab .any (opsOf Try.f45 10) = spec_Output.T10 := by kernel_rfl
theorem spec_Output.bits10 : waitsOk spec_Output.T10.2 spec_Output.B10 = true := by kernel_rfl
set_option maxHeartbeats 8000000 in
set_option maxRecDepth 100000 in
theorem spec_Output.calls (k : Nat) (A0 : Option Addr) (c0 : Nat) (l0 : List (S130)) (a1 : Int) (a2 : Int) (a3 : Int) (r1 : List Int) (r2 : Bool) (w : World) (hr0 : Kd.C k130 w A0 l0.length l0) (hc0 : l0.length ≤ c0) (h : spec_Output.f k l0 a1 a2 a3 = some (r1, r2)) :
    Calls Try.prog 45 #[.slice A0 l0.length c0, .int .i64 a1, .int .i64 a2, .int .i64 a3] w fun e w' => ∃ v0_ : Value, e = .returned (.tuple #[v0_, .bool r2]) ∧ Kd.R (Kd.int .i64) 3 w' w.heap.size (fun _ => True) v0_ r1 ∧ Below w.heap.size w w' := by
 have hu130 := Try.underlying130
 have HR0 := Aside0.mk hr0
 have HC0 := Aside0.mk hc0
 clear hr0 hc0
 have HB := aZ (Below.refl w.heap.size w)
 have H : ((spec_l17Asked.f k l0 a1 a2 a3).bind fun t229 => (if t229 = true then (if 0 ≤ (l0.length : Int) then (if ((l0.length : Int) : Int).toNat ≤ 35184372088832 then ((some (List.replicate ((l0.length : Int) : Int).toNat 0 : List Int)).bind fun y233 => (if 0 ≤ a1 then (if a1 < (l0.length : Int) then ((spec_l17Batches.f ((rd_T130 l0 a1).f0) ((rd_T130 l0 a1).f1) ((rd_T130 l0 a1).f2) ((rd_T130 l0 a1).f3) ((rd_T130 l0 a1).f4) a2).bind fun t237 => (if a1 < (y233.length : Int) then ((spec_l17Counting.f k ((rd_T130 l0 a1).f4) a3).bind fun t241 => (spec_Output.l0 k a1 (y233.set (a1 : Int).toNat (wrap64 (t237 * ((rd_T130 l0 a1).f1)))) t237 t241 0)) else (none))) else (none)) else (none))) else (none)) else (none)) else (some ((([] : List Int)), false)))) = some (r1, r2) := h
 clear h
 replace H := Option.bind_eq_some_iff.mp H
 obtain ⟨t229, A50, H⟩ := H
 replace H : (if t229 = true then (if 0 ≤ (l0.length : Int) then (if ((l0.length : Int) : Int).toNat ≤ 35184372088832 then ((some (List.replicate ((l0.length : Int) : Int).toNat 0 : List Int)).bind fun y233 => (if 0 ≤ a1 then (if a1 < (l0.length : Int) then ((spec_l17Batches.f ((rd_T130 l0 a1).f0) ((rd_T130 l0 a1).f1) ((rd_T130 l0 a1).f2) ((rd_T130 l0 a1).f3) ((rd_T130 l0 a1).f4) a2).bind fun t237 => (if a1 < (y233.length : Int) then ((spec_l17Counting.f k ((rd_T130 l0 a1).f4) a3).bind fun t241 => (spec_Output.l0 k a1 (y233.set (a1 : Int).toNat (wrap64 (t237 * ((rd_T130 l0 a1).f1)))) t237 t241 0)) else (none))) else (none)) else (none))) else (none)) else (none)) else (some ((([] : List Int)), false))) = some (r1, r2) := H
 have A5 := Aside0.mk A50
 clear A50
 by_cases c6 : t229 = true
 rotate_left
 ·replace c6 := Bool.eq_false_iff.mpr c6
  subst c6
  have H1 : (some ((([] : List Int)), false)) = some (r1, r2) := by rw [if_neg (show ¬ (false = true) by decide)] at H; exact H
  clear H
  have H := H1
  clear H1
  obtain ⟨y230, hy230⟩ : ∃ y_ : List Int, y_ = (([] : List Int)) := ⟨_, rfl⟩
  replace H : (some (y230, false)) = some (r1, r2) := by first | (rw [hy230]; with_reducible exact H) | (have H2_ := (Option.bind_some _ _).symm.trans H; rw [hy230]; with_reducible exact H2_) | (have H2_ := (Option.bind_some _ _).symm.trans H; with_reducible exact H2_) | with_reducible exact H | (rw [hy230]; exact H) | exact H
  have Ny230 := Aside0.mk hy230
  clear hy230
  simp only [Option.some.injEq, Prod.mk.injEq] at H
  obtain ⟨rfl, rfl⟩ := H
  go_enter Try.func45, Try.ntmps45
  go_wp2_with (first | ((with_reducible refine gate_callee (f := 104) rfl ?_); refine goesL_ (some 18) rfl rfl Try.func104 kZ rfl #[.slice A0 l0.length c0, .int .i64 a1, .int .i64 a2, .int .i64 a3] rfl tZA ?_; (with_reducible refine (spec_l17Asked.calls k _ _ l0 a1 a2 a3 false _ ?side1 ?side2 A5.out).mono ?_); (case side1 => repeat (first | exact HR0.out | (with_reducible refine Kd.C_alloc ?_ _) | (with_reducible refine Kd.C_drewN ?_ _) | (with_reducible refine Kd.C_drew ?_))); (case side2 => exact HC0.out); rintro e w53 ⟨rfl, hb⟩; refine ⟨_, rfl, ?_⟩; replace HB := aZ (below_step (lZB HB.out) hb); (try clear hb); (try clear hb2); (try clear hk); (try clear hi)) | ((with_reducible refine gate_dst (N := 20) rfl ?_); refine Kd.R_lit (Kd.int .i64) _ 3 ?hg (N := 20) ?hd (xs := ([] : List Int)) (inner := []) (ok := fun _ => True) (okp := fun _ => True) ?hr ?hp (fun _ hk => hk) trivial (Below.refl _ _) (Nat.le_refl _) (by simp) ?_; (case hd => rfl); (case hg => rfl); (case hr => first | (go_simp; done) | (go_simp; rfl)); (case hp => exact (Reps.none _ _)); intro v231 w54 ho55 hb hg_ hnew_; clear hg_ hnew_; (first | rw [← Ny230.out] at ho55 | (simp only [Int.reduceToNat] at ho55; rw [← Ny230.out] at ho55)); have HO232 := aZ (Kd.R_lower ho55 (below_size (lZB HB.out))); replace HB := aZ (below_step (lZB HB.out) hb); clear hb ho55))
  go_ret2
  exact ⟨_, tZC, lZR HO232.out, bZ⟩
 subst c6
 have H1 : (if 0 ≤ (l0.length : Int) then (if ((l0.length : Int) : Int).toNat ≤ 35184372088832 then ((some (List.replicate ((l0.length : Int) : Int).toNat 0 : List Int)).bind fun y233 => (if 0 ≤ a1 then (if a1 < (l0.length : Int) then ((spec_l17Batches.f ((rd_T130 l0 a1).f0) ((rd_T130 l0 a1).f1) ((rd_T130 l0 a1).f2) ((rd_T130 l0 a1).f3) ((rd_T130 l0 a1).f4) a2).bind fun t237 => (if a1 < (y233.length : Int) then ((spec_l17Counting.f k ((rd_T130 l0 a1).f4) a3).bind fun t241 => (spec_Output.l0 k a1 (y233.set (a1 : Int).toNat (wrap64 (t237 * ((rd_T130 l0 a1).f1)))) t237 t241 0)) else (none))) else (none)) else (none))) else (none)) else (none)) = some (r1, r2) := by rw [if_pos rfl] at H; exact H
 clear H
 have H := H1
 clear H1
 by_cases c7 : 0 ≤ (l0.length : Int)
 rotate_left
 ·rw [if_neg c7] at H
  exact absurd H (by simp)
 rw [if_pos c7] at H
 have c7b0 := eq_true c7
 have c7b1 := decide_eq_true c7
 clear c7
 by_cases c8 : ((l0.length : Int) : Int).toNat ≤ 35184372088832
 rotate_left
 ·rw [if_neg c8] at H
  exact absurd H (by simp)
 rw [if_pos c8] at H
 have c8b0 := eq_true c8
 have c8b1 := decide_eq_true c8
 clear c8
 obtain ⟨y233, hy233⟩ : ∃ y_ : List Int, y_ = (List.replicate ((l0.length : Int) : Int).toNat 0) := ⟨_, rfl⟩
 replace H : (if 0 ≤ a1 then (if a1 < (l0.length : Int) then ((spec_l17Batches.f ((rd_T130 l0 a1).f0) ((rd_T130 l0 a1).f1) ((rd_T130 l0 a1).f2) ((rd_T130 l0 a1).f3) ((rd_T130 l0 a1).f4) a2).bind fun t237 => (if a1 < (y233.length : Int) then ((spec_l17Counting.f k ((rd_T130 l0 a1).f4) a3).bind fun t241 => (spec_Output.l0 k a1 (y233.set (a1 : Int).toNat (wrap64 (t237 * ((rd_T130 l0 a1).f1)))) t237 t241 0)) else (none))) else (none)) else (none)) = some (r1, r2) := by first | (rw [hy233]; with_reducible exact H) | (have H2_ := (Option.bind_some _ _).symm.trans H; rw [hy233]; with_reducible exact H2_) | (have H2_ := (Option.bind_some _ _).symm.trans H; with_reducible exact H2_) | with_reducible exact H | (rw [hy233]; exact H) | exact H
 have Ny233 := Aside0.mk hy233
 clear hy233
 by_cases c9 : 0 ≤ a1
 rotate_left
 ·rw [if_neg c9] at H
  exact absurd H (by simp)
 rw [if_pos c9] at H
 have c9b0 := decide_eq_true c9
 clear c9
 by_cases c10 : a1 < (l0.length : Int)
 rotate_left
 ·rw [if_neg c10] at H
  exact absurd H (by simp)
 rw [if_pos c10] at H
 have c10b0 := decide_eq_true c10
 clear c10
 replace H := Option.bind_eq_some_iff.mp H
 obtain ⟨t237, A110, H⟩ := H
 replace H : (if a1 < (y233.length : Int) then ((spec_l17Counting.f k ((rd_T130 l0 a1).f4) a3).bind fun t241 => (spec_Output.l0 k a1 (y233.set (a1 : Int).toNat (wrap64 (t237 * ((rd_T130 l0 a1).f1)))) t237 t241 0)) else (none)) = some (r1, r2) := H
 have A11 := Aside0.mk A110
 clear A110
 by_cases c12 : a1 < (y233.length : Int)
 rotate_left
 ·rw [if_neg c12] at H
  exact absurd H (by simp)
 rw [if_pos c12] at H
 have c12b0 := decide_eq_true c12
 clear c12
 obtain ⟨y239, hy239⟩ : ∃ y_ : List Int, y_ = (y233.set (a1 : Int).toNat (wrap64 (t237 * ((rd_T130 l0 a1).f1)))) := ⟨_, rfl⟩
 replace H : ((spec_l17Counting.f k ((rd_T130 l0 a1).f4) a3).bind fun t241 => (spec_Output.l0 k a1 y239 t237 t241 0)) = some (r1, r2) := by first | (rw [hy239]; with_reducible exact H) | (have H2_ := (Option.bind_some _ _).symm.trans H; rw [hy239]; with_reducible exact H2_) | (have H2_ := (Option.bind_some _ _).symm.trans H; with_reducible exact H2_) | with_reducible exact H | (rw [hy239]; exact H) | exact H
 have Ny239 := Aside0.mk hy239
 clear hy239
 replace H := Option.bind_eq_some_iff.mp H
 obtain ⟨t241, A140, H⟩ := H
 replace H : (spec_Output.l0 k a1 y239 t237 t241 0) = some (r1, r2) := H
 have A14 := Aside0.mk A140
 clear A140
 have H' := Aside0.mk H
 clear H
 go_enter Try.func45, Try.ntmps45
 go_wp2_with (first | ((with_reducible refine gate_callee (f := 104) rfl ?_); refine goesL_ (some 18) rfl rfl Try.func104 kZ rfl #[.slice A0 l0.length c0, .int .i64 a1, .int .i64 a2, .int .i64 a3] rfl tZA ?_; (with_reducible refine (spec_l17Asked.calls k _ _ l0 a1 a2 a3 true _ ?side1 ?side2 A5.out).mono ?_); (case side1 => repeat (first | exact HR0.out | (with_reducible refine Kd.C_alloc ?_ _) | (with_reducible refine Kd.C_drewN ?_ _) | (with_reducible refine Kd.C_drew ?_))); (case side2 => exact HC0.out); rintro e w15 ⟨rfl, hb⟩; refine ⟨_, rfl, ?_⟩; replace HB := aZ (below_step (lZB HB.out) hb); (try clear hb); (try clear hb2); (try clear hk); (try clear hi)) | ((with_reducible refine gate_dst (N := 23) rfl ?_); refine Kd.R_make (Kd.int .i64) _ 3 rfl (N := 23) rfl 51 _ _ rfl (l0.length : Int) rfl rfl Try.underlying51 (.int .i64 0) 8 info3 rfl (by decide) (by omega) 0 (ok := fun _ => True) (okp := fun _ => True) rfl (fun _ hk => hk) trivial (of_decide_eq_true tZE) (Nat.le_trans (Nat.mul_le_mul_right _ (of_decide_eq_true tZE : (l0.length : Int).toNat ≤ 35184372088832)) (by omega)) (Below.refl _ _) (Nat.le_refl _) ?_; intro v234 w16 ho17 hb hg_ hnew_; clear hg_ hnew_; (first | rw [← Ny233.out] at ho17 | (simp only [Int.reduceToNat] at ho17; rw [← Ny233.out] at ho17)); have HO235 := aZ (Kd.R_lower ho17 (below_size (lZB HB.out))); replace HB := aZ (below_step (lZB HB.out) hb); clear hb ho17; have p236 : 0 ≤ (a1 : Int) := of_decide_eq_true tZE; have q236 : a1 < (l0.length : Int) := of_decide_eq_true tZE; obtain ⟨ad236, A236_3, c236_3, A236_4, c236_4, e236, hx236_0, hx236_1, hx236_2, hx236_3, hx236_4, hl236_3, hi236_3, hl236_4, hi236_4⟩ := at_T130 HR0.out a1 p236 q236; have hz236_3 := hx236_3; have hz236_4 := hx236_4; cases e236; replace hx236_0 := cZ HB hx236_0; replace hx236_1 := cZ HB hx236_1; replace hx236_2 := cZ HB hx236_2; replace hx236_3 := cZ HB hx236_3; replace hx236_4 := cZ HB hx236_4; have HR236_3 := Aside0.mk hi236_3; have HC236_3 := Aside0.mk hl236_3; clear hi236_3 hl236_3; have HR236_4 := Aside0.mk hi236_4; have HC236_4 := Aside0.mk hl236_4; clear hi236_4 hl236_4; replace p236 := eq_true p236; replace q236 := eq_true q236) | ((with_reducible refine gate_callee (f := 105) rfl ?_); refine goesL_ (some 29) rfl rfl Try.func105 kZ rfl #[.agg #[.string ((rd_T130 l0 a1).f0), .int .i64 ((rd_T130 l0 a1).f1), .bool ((rd_T130 l0 a1).f2), .slice A236_3 ((rd_T130 l0 a1).f3).length c236_3, .slice A236_4 ((rd_T130 l0 a1).f4).length c236_4], .int .i64 a2] rfl tZA ?_; (with_reducible refine (spec_l17Batches.calls ((rd_T130 l0 a1).f0) ((rd_T130 l0 a1).f1) ((rd_T130 l0 a1).f2) _ _ ((rd_T130 l0 a1).f3) _ _ ((rd_T130 l0 a1).f4) a2 t237 _ ?side1 ?side2 ?side3 ?side4 A11.out).mono ?_); (case side1 => repeat (first | exact (Kd.C_below HR236_3.out HB.out) | (with_reducible refine Kd.C_alloc ?_ _) | (with_reducible refine Kd.C_drewN ?_ _) | (with_reducible refine Kd.C_drew ?_))); (case side2 => exact HC236_3.out); (case side3 => repeat (first | exact (Kd.C_below HR236_4.out HB.out) | (with_reducible refine Kd.C_alloc ?_ _) | (with_reducible refine Kd.C_drewN ?_ _) | (with_reducible refine Kd.C_drew ?_))); (case side4 => exact HC236_4.out); rintro e w18 ⟨rfl, hb⟩; refine ⟨_, rfl, ?_⟩; replace HO235 := aZ (Kd.R_below (lZR HO235.out) hb); replace HB := aZ (below_step (lZB HB.out) hb); (try clear hb); (try clear hb2); (try clear hk); (try clear hi); have p238 : 0 ≤ (a1 : Int) := of_decide_eq_true tZE; have q238 : a1 < (l0.length : Int) := of_decide_eq_true tZE; obtain ⟨ad238, A238_3, c238_3, A238_4, c238_4, e238, hx238_0, hx238_1, hx238_2, hx238_3, hx238_4, hl238_3, hi238_3, hl238_4, hi238_4⟩ := at_T130 HR0.out a1 p238 q238; have hz238_3 := hx238_3; have hz238_4 := hx238_4; obtain rfl : ad236 = ad238 := (by injection e238); replace hx238_0 := cZ HB hx238_0; replace hx238_1 := cZ HB hx238_1; replace hx238_2 := cZ HB hx238_2; replace hx238_3 := cZ HB hx238_3; replace hx238_4 := cZ HB hx238_4; have HR238_3 := Aside0.mk hi238_3; have HC238_3 := Aside0.mk hl238_3; clear hi238_3 hl238_3; have HR238_4 := Aside0.mk hi238_4; have HC238_4 := Aside0.mk hl238_4; clear hi238_4 hl238_4; replace p238 := eq_true p238; replace q238 := eq_true q238; have p13 : 0 ≤ (a1 : Int) := of_decide_eq_true tZE; have q13 : (a1 : Int) < ((y233.length : Int) : Int) := of_decide_eq_true tZE; obtain ⟨go13, co13, eo13, gb13, gl13, cl13, HG13⟩ := Kd.R_form HO235.out (by omega); (first | cases eo13 | (injection eo13 with ea_ en_ ec_; (first | subst ea_ | (injection ea_ with ea_; subst ea_)); subst ec_; clear en_)); have GB13 := Aside0.mk gb13; have GG13 := Aside0.mk HG13; clear gb13 gl13 HG13; obtain ⟨hx13_0, hf13_0⟩ := Kd.R_celln 0 HO235.out (a1 : Int) p13 q13; replace p13 := eq_true p13; replace q13 := eq_true q13; obtain ⟨hy19_, hz19_⟩ := Kd.R_celln 0 HO235.out (a1 : Int) (of_decide_eq_true tZE) (of_decide_eq_true tZE); have HP19 := Kd.R_putg HO235.out (a1 : Int) (wrap64 (t237 * ((rd_T130 l0 a1).f1)))) | ((with_reducible refine gate_store (t := 3) (p := 39) rfl ?_); refine store_event (t := 3) (p := 39) (v := ?vo_w20) (w1 := (w18.setCell ⟨go13, (a1 : Int).toNat, none⟩ (.int .i64 (wrap64 (t237 * ((rd_T130 l0 a1).f1)))))) ?hg ?ho ?hn ?hr ?_; (case ho => rfl); (case hg => rfl); (case hn => rfl); (case hr => first | (go_simp; done) | (go_simp; rfl)); intro w20 hw; have hg : w18.grownBy w20 (some go13) := (by rw [hw]; exact HP19.2); have hp_ : Kd.R (Kd.int .i64) 3 w20 w.heap.size (fun _ => True) (.slice (some ⟨go13, 0, none⟩) y233.length co13) y239 := (by rw [hw, Ny239.out]; exact HP19.1); clear HP19; replace HO235 := aZ (hp_); replace HB := aZ ((by rw [hw]; exact below_set (HB.out) GB13.out : Below w.heap.size w w20)); clear hg hw hp_; have p240 : 0 ≤ (a1 : Int) := of_decide_eq_true tZE; have q240 : a1 < (l0.length : Int) := of_decide_eq_true tZE; obtain ⟨ad240, A240_3, c240_3, A240_4, c240_4, e240, hx240_0, hx240_1, hx240_2, hx240_3, hx240_4, hl240_3, hi240_3, hl240_4, hi240_4⟩ := at_T130 HR0.out a1 p240 q240; have hz240_3 := hx240_3; have hz240_4 := hx240_4; obtain rfl : ad236 = ad240 := (by injection e240); replace hx240_0 := cZ HB hx240_0; replace hx240_1 := cZ HB hx240_1; replace hx240_2 := cZ HB hx240_2; replace hx240_3 := cZ HB hx240_3; replace hx240_4 := cZ HB hx240_4; have HR240_3 := Aside0.mk hi240_3; have HC240_3 := Aside0.mk hl240_3; clear hi240_3 hl240_3; have HR240_4 := Aside0.mk hi240_4; have HC240_4 := Aside0.mk hl240_4; clear hi240_4 hl240_4; replace p240 := eq_true p240; replace q240 := eq_true q240) | ((with_reducible refine gate_callee (f := 106) rfl ?_); refine goesL_ (some 46) rfl rfl Try.func106 kZ rfl #[.slice A240_4 ((rd_T130 l0 a1).f4).length c240_4, .int .i64 a3] rfl tZA ?_; (with_reducible refine (spec_l17Counting.calls k _ _ ((rd_T130 l0 a1).f4) a3 t241 _ ?side1 ?side2 A14.out).mono ?_); (case side1 => repeat (first | exact (Kd.C_below HR240_4.out HB.out) | (with_reducible refine Kd.C_alloc ?_ _) | (with_reducible refine Kd.C_drewN ?_ _) | (with_reducible refine Kd.C_drew ?_))); (case side2 => exact HC240_4.out); rintro e w21 ⟨v242, rfl, ho0, hb⟩; refine ⟨_, rfl, ?_⟩; replace HO235 := aZ (Kd.R_below (lZR HO235.out) hb); have HO243 := aZ (Kd.R_lower ho0 (below_size (lZB HB.out))); replace HB := aZ (below_step (lZB HB.out) hb); (try clear hb); (try clear hb2); (try clear hk); (try clear hi); (try clear ho0)))
 go_loopg [13] k (fun kq v13 w' => ∃ (x10_1 : List Int) (x13_1 : Int), v13 = .int .i64 x13_1 ∧ Aside0 (spec_Output.l0 kq a1 x10_1 t237 t241 x13_1 = some (r1, r2)) ∧ Aside0 (kq ≤ k) ∧ Aside0 (Kd.R (Kd.int .i64) 3 w' w.heap.size (fun _ => True) (.slice (some ⟨go13, 0, none⟩) y233.length co13) x10_1) ∧ Aside0 (Kd.R k149 149 w' w.heap.size (fun _ => True) v242 t241) ∧ Aside0 (Below w.heap.size w w'))
 case atStart => exact ⟨(y239), (0), tZB, H', ⟨Nat.le_refl _⟩, ⟨lZR HO235.out⟩, ⟨lZR HO243.out⟩, ⟨bZ⟩⟩
 case round =>
  clear H'
  try clear c1
  try clear p1
  try clear q1
  try clear hx1
  try clear c2
  try clear p2
  try clear q2
  try clear hx2
  try clear c4
  try clear c6
  try clear p6
  try clear c7
  try clear c7b0
  try clear c7b1
  try clear c8
  try clear c8b0
  try clear c8b1
  try clear c9
  try clear c9b0
  try clear c10
  try clear c10b0
  try clear c12
  try clear c12b0
  try clear p13
  try clear q13
  try clear hx13
  try clear hf13
  try clear hx13_0
  try clear hx236_0
  try clear hx236_1
  try clear hx236_2
  try clear hx236_3
  try clear hx236_4
  try clear hx238_0
  try clear hx238_1
  try clear hx238_2
  try clear hx238_3
  try clear hx238_4
  try clear hx240_0
  try clear hx240_1
  try clear hx240_2
  try clear hx240_3
  try clear hx240_4
  try clear p13
  try clear p236
  try clear p238
  try clear p240
  try clear q13
  try clear q236
  try clear q238
  try clear q240
  obtain ⟨x10_1, x13_1, rfl, HA, HK1, HO_10, HO_12, HB⟩ := hrel
  have hl10_1 := (Kd.R_reads' HO_10.out).1
  rw [hl10_1] at HO_10
  (try simp only [hl10_1])
  (try simp only [hl10_1] at HO_12)
  cases gk with
  | zero => exact absurd HA.out (by simp [spec_Output.l0])
  | succ k1 =>
   have H := HA.out
   clear HA
   simp only [spec_Output.l0] at H
   by_cases c22 : x13_1 < (t241.length : Int)
   rotate_left
   ·rw [if_neg c22] at H
    have c22b0 := decide_eq_false c22
    clear c22
    by_cases c45 : 0 ≤ a1
    rotate_left
    ·rw [if_neg c45] at H
     exact absurd H (by simp)
    rw [if_pos c45] at H
    have c45b0 := decide_eq_true c45
    clear c45
    by_cases c46 : a1 < (x10_1.length : Int)
    rotate_left
    ·rw [if_neg c46] at H
     exact absurd H (by simp)
    rw [if_pos c46] at H
    have c46b0 := decide_eq_true c46
    clear c46
    replace H := Option.bind_eq_some_iff.mp H
    obtain ⟨t245, A470, H⟩ := H
    replace H : (if t245 = true then (some (x10_1, true)) else (some ((([] : List Int)), false))) = some (r1, r2) := H
    have A47 := Aside0.mk A470
    clear A470
    by_cases c48 : t245 = true
    ·subst c48
     have H1 : (some (x10_1, true)) = some (r1, r2) := by rw [if_pos rfl] at H; exact H
     clear H
     have H := H1
     clear H1
     simp only [Option.some.injEq, Prod.mk.injEq] at H
     obtain ⟨rfl, rfl⟩ := H
     obtain ⟨Ao49, co49, eo49⟩ := Kd.R_slice HO_12.out
     subst eo49
     have p244 : 0 ≤ (a1 : Int) := of_decide_eq_true tZE
     have q244 : a1 < (x10_1.length : Int) := of_decide_eq_true tZE
     obtain ⟨ad244, e244, hx244_0⟩ := Kd.at_int (Kd.R_reads' HO_10.out).2.2 a1 p244 q244
     obtain rfl : (⟨go13, 0, none⟩ : Addr) = ad244 := (by injection e244)
     (first | simp only [add_plain] at hx244_0 | simp only [add_at] at hx244_0 | simp only [Addr.add, Nat.zero_add] at hx244_0 | skip)
     replace p244 := eq_true p244
     replace q244 := eq_true q244
     go_wp2_with (first | ((with_reducible refine gate_callee (f := 107) rfl ?_); refine goesL_ (some 102) rfl rfl Try.func107 kZ rfl #[.int .i64 (rd x10_1 a1)] rfl tZA ?_; (with_reducible refine (spec_l12Qty.calls (rd x10_1 a1) true _ A47.out).mono ?_); rintro e w' ⟨rfl, ⟨nd, rfl⟩⟩; refine ⟨_, rfl, ?_⟩))
     go_ret2
     exact ⟨_, tZC, lZR HO_10.out, bZ⟩
    replace c48 := Bool.eq_false_iff.mpr c48
    subst c48
    have H1 : (some ((([] : List Int)), false)) = some (r1, r2) := by rw [if_neg (show ¬ (false = true) by decide)] at H; exact H
    clear H
    have H := H1
    clear H1
    obtain ⟨y246, hy246⟩ : ∃ y_ : List Int, y_ = (([] : List Int)) := ⟨_, rfl⟩
    replace H : (some (y246, false)) = some (r1, r2) := by first | (rw [hy246]; with_reducible exact H) | (have H2_ := (Option.bind_some _ _).symm.trans H; rw [hy246]; with_reducible exact H2_) | (have H2_ := (Option.bind_some _ _).symm.trans H; with_reducible exact H2_) | with_reducible exact H | (rw [hy246]; exact H) | exact H
    have Ny246 := Aside0.mk hy246
    clear hy246
    simp only [Option.some.injEq, Prod.mk.injEq] at H
    obtain ⟨rfl, rfl⟩ := H
    obtain ⟨Ao50, co50, eo50⟩ := Kd.R_slice HO_12.out
    subst eo50
    have p244 : 0 ≤ (a1 : Int) := of_decide_eq_true tZE
    have q244 : a1 < (x10_1.length : Int) := of_decide_eq_true tZE
    obtain ⟨ad244, e244, hx244_0⟩ := Kd.at_int (Kd.R_reads' HO_10.out).2.2 a1 p244 q244
    obtain rfl : (⟨go13, 0, none⟩ : Addr) = ad244 := (by injection e244)
    (first | simp only [add_plain] at hx244_0 | simp only [add_at] at hx244_0 | simp only [Addr.add, Nat.zero_add] at hx244_0 | skip)
    replace p244 := eq_true p244
    replace q244 := eq_true q244
    go_wp2_with (first | ((with_reducible refine gate_callee (f := 107) rfl ?_); refine goesL_ (some 102) rfl rfl Try.func107 kZ rfl #[.int .i64 (rd x10_1 a1)] rfl tZA ?_; (with_reducible refine (spec_l12Qty.calls (rd x10_1 a1) false _ A47.out).mono ?_); rintro e w' ⟨rfl, ⟨nd, rfl⟩⟩; refine ⟨_, rfl, ?_⟩) | ((with_reducible refine gate_dst (N := 104) rfl ?_); refine Kd.R_lit (Kd.int .i64) _ 3 ?hg (N := 104) ?hd (xs := ([] : List Int)) (inner := []) (ok := fun _ => True) (okp := fun _ => True) ?hr ?hp (fun _ hk => hk) trivial (Below.refl _ _) (Nat.le_refl _) (by simp) ?_; (case hd => rfl); (case hg => rfl); (case hr => first | (go_simp; done) | (go_simp; rfl)); (case hp => exact (Reps.none _ _)); intro v247 w51 ho52 hb hg_ hnew_; clear hg_ hnew_; (first | rw [← Ny246.out] at ho52 | (simp only [Int.reduceToNat] at ho52; rw [← Ny246.out] at ho52)); replace HO_12 := aZ (Kd.R_below (lZR HO_12.out) hb); have HO248 := aZ (Kd.R_lower (Kd.R_new' ho52 (Kd.R_lt (lZR HO_10.out))) (below_size (lZB HB.out))); replace HO_10 := aZ (Kd.R_elder' (lZR HO_10.out) (Kd.R_base ho52) hb); replace HB := aZ (below_step (lZB HB.out) hb); clear hb ho52))
    go_ret2
    exact ⟨_, tZC, by (with_reducible repeat (first | apply Kd.R_alloc | apply Kd.R_drewN | apply Kd.R_drew)); exact Kd.R_mono HO248.out (fun _ hk => trivial), bZ⟩
   rw [if_pos c22] at H
   have c22b0 := decide_eq_true c22
   clear c22
   by_cases c23 : 0 ≤ x13_1
   rotate_left
   ·rw [if_neg c23] at H
    exact absurd H (by simp)
   rw [if_pos c23] at H
   have c23b0 := decide_eq_true c23
   clear c23
   by_cases c24 : 0 ≤ ((rd_T149 t241 x13_1).f0)
   rotate_left
   ·rw [if_neg c24] at H
    exact absurd H (by simp)
   rw [if_pos c24] at H
   have c24b0 := decide_eq_true c24
   clear c24
   by_cases c25 : ((rd_T149 t241 x13_1).f0) < (x10_1.length : Int)
   rotate_left
   ·rw [if_neg c25] at H
    exact absurd H (by simp)
   rw [if_pos c25] at H
   have c25b0 := decide_eq_true c25
   clear c25
   obtain ⟨y253, hy253⟩ : ∃ y_ : List Int, y_ = (x10_1.set (((rd_T149 t241 x13_1).f0) : Int).toNat (wrap64 ((rd x10_1 ((rd_T149 t241 x13_1).f0)) + (wrap64 (t237 * ((rd_T149 t241 x13_1).f1)))))) := ⟨_, rfl⟩
   replace H : ((spec_l12Qty.f (wrap64 (t237 * ((rd_T149 t241 x13_1).f1)))).bind fun t255 => (if t255 = true then ((spec_l12Qty.f (wrap64 ((rd x10_1 ((rd_T149 t241 x13_1).f0)) + (wrap64 (t237 * ((rd_T149 t241 x13_1).f1)))))).bind fun t258 => (if t258 = true then (spec_Output.l0 k1 a1 y253 t237 t241 (wrap64 (x13_1 + 1))) else (some ((([] : List Int)), false)))) else (some ((([] : List Int)), false)))) = some (r1, r2) := by first | (rw [hy253]; with_reducible exact H) | (have H2_ := (Option.bind_some _ _).symm.trans H; rw [hy253]; with_reducible exact H2_) | (have H2_ := (Option.bind_some _ _).symm.trans H; with_reducible exact H2_) | with_reducible exact H | (rw [hy253]; exact H) | exact H
   have Ny253 := Aside0.mk hy253
   clear hy253
   replace H := Option.bind_eq_some_iff.mp H
   obtain ⟨t255, A270, H⟩ := H
   replace H : (if t255 = true then ((spec_l12Qty.f (wrap64 ((rd x10_1 ((rd_T149 t241 x13_1).f0)) + (wrap64 (t237 * ((rd_T149 t241 x13_1).f1)))))).bind fun t258 => (if t258 = true then (spec_Output.l0 k1 a1 y253 t237 t241 (wrap64 (x13_1 + 1))) else (some ((([] : List Int)), false)))) else (some ((([] : List Int)), false))) = some (r1, r2) := H
   have A27 := Aside0.mk A270
   clear A270
   by_cases c28 : t255 = true
   rotate_left
   ·replace c28 := Bool.eq_false_iff.mpr c28
    subst c28
    have H1 : (some ((([] : List Int)), false)) = some (r1, r2) := by rw [if_neg (show ¬ (false = true) by decide)] at H; exact H
    clear H
    have H := H1
    clear H1
    obtain ⟨y262, hy262⟩ : ∃ y_ : List Int, y_ = (([] : List Int)) := ⟨_, rfl⟩
    replace H : (some (y262, false)) = some (r1, r2) := by first | (rw [hy262]; with_reducible exact H) | (have H2_ := (Option.bind_some _ _).symm.trans H; rw [hy262]; with_reducible exact H2_) | (have H2_ := (Option.bind_some _ _).symm.trans H; with_reducible exact H2_) | with_reducible exact H | (rw [hy262]; exact H) | exact H
    have Ny262 := Aside0.mk hy262
    clear hy262
    simp only [Option.some.injEq, Prod.mk.injEq] at H
    obtain ⟨rfl, rfl⟩ := H
    obtain ⟨Ao40, co40, eo40⟩ := Kd.R_slice HO_12.out
    subst eo40
    try go_wp2
    replace HO_10 := aZ (Kd.R_drew HO_10.out)
    replace HO_12 := aZ (Kd.R_drew HO_12.out)
    replace HB := aZ (below_drew1 HB.out)
    have p249 : 0 ≤ (x13_1 : Int) := of_decide_eq_true tZE
    have q249 : x13_1 < (t241.length : Int) := of_decide_eq_true tZE
    obtain ⟨ad249, e249, hx249_0, hx249_1, hx249_2, hx249_3, hx249_4, hx249_5⟩ := at_T149 (Kd.R_reads' HO_12.out).2.2 x13_1 p249 q249
    cases e249
    replace p249 := eq_true p249
    replace q249 := eq_true q249
    have p250 : 0 ≤ (x13_1 : Int) := of_decide_eq_true tZE
    have q250 : x13_1 < (t241.length : Int) := of_decide_eq_true tZE
    obtain ⟨ad250, e250, hx250_0, hx250_1, hx250_2, hx250_3, hx250_4, hx250_5⟩ := at_T149 (Kd.R_reads' HO_12.out).2.2 x13_1 p250 q250
    obtain rfl : ad249 = ad250 := (by injection e250)
    replace p250 := eq_true p250
    replace q250 := eq_true q250
    have p251 : 0 ≤ (((rd_T149 t241 x13_1).f0) : Int) := of_decide_eq_true tZE
    have q251 : ((rd_T149 t241 x13_1).f0) < (x10_1.length : Int) := of_decide_eq_true tZE
    obtain ⟨ad251, e251, hx251_0⟩ := Kd.at_int (Kd.R_reads' HO_10.out).2.2 ((rd_T149 t241 x13_1).f0) p251 q251
    obtain rfl : (⟨go13, 0, none⟩ : Addr) = ad251 := (by injection e251)
    (first | simp only [add_plain] at hx251_0 | simp only [add_at] at hx251_0 | simp only [Addr.add, Nat.zero_add] at hx251_0 | skip)
    replace p251 := eq_true p251
    replace q251 := eq_true q251
    have p252 : 0 ≤ (x13_1 : Int) := of_decide_eq_true tZE
    have q252 : x13_1 < (t241.length : Int) := of_decide_eq_true tZE
    obtain ⟨ad252, e252, hx252_0, hx252_1, hx252_2, hx252_3, hx252_4, hx252_5⟩ := at_T149 (Kd.R_reads' HO_12.out).2.2 x13_1 p252 q252
    obtain rfl : ad249 = ad252 := (by injection e252)
    replace p252 := eq_true p252
    replace q252 := eq_true q252
    have p26 : 0 ≤ (((rd_T149 t241 x13_1).f0) : Int) := of_decide_eq_true tZE
    have q26 : (((rd_T149 t241 x13_1).f0) : Int) < ((x10_1.length : Int) : Int) := of_decide_eq_true tZE
    obtain ⟨hx26_0, hf26_0⟩ := Kd.R_celln 0 HO_10.out (((rd_T149 t241 x13_1).f0) : Int) p26 q26
    replace p26 := eq_true p26
    replace q26 := eq_true q26
    (try clear GG13)
    obtain ⟨cl42_, hgg42_⟩ := Kd.R_typed (HO_10.out) go13 rfl
    have GG13 := Aside0.mk hgg42_
    clear hgg42_
    have HP42 := Kd.R_putn HO_10.out (((rd_T149 t241 x13_1).f0) : Int) (wrap64 ((rd x10_1 ((rd_T149 t241 x13_1).f0)) + (wrap64 (t237 * ((rd_T149 t241 x13_1).f1)))))
    rw [← Ny253.out] at HP42
    have HQ42 := Aside0.mk HP42
    clear HP42
    refine start_ (n := 24) (S := fun w' => w'.cell? (ad249.add ((x13_1).toNat * 6)) = some (.int .i64 ((rd_T149 t241 x13_1).f0)) ∧ w'.cell? ⟨(ad249.add ((x13_1).toNat * 6)).block, (ad249.add ((x13_1).toNat * 6)).off + 1, none⟩ = some (.int .i64 ((rd_T149 t241 x13_1).f1)) ∧ w'.cell? ⟨(ad249.add ((x13_1).toNat * 6)).block, (ad249.add ((x13_1).toNat * 6)).off + 2, none⟩ = some (.int .i64 ((rd_T149 t241 x13_1).f2)) ∧ w'.cell? ⟨(ad249.add ((x13_1).toNat * 6)).block, (ad249.add ((x13_1).toNat * 6)).off + 3, none⟩ = some (.int .i64 ((rd_T149 t241 x13_1).f3)) ∧ w'.cell? ⟨(ad249.add ((x13_1).toNat * 6)).block, (ad249.add ((x13_1).toNat * 6)).off + 4, none⟩ = some (.int .i64 ((rd_T149 t241 x13_1).f4)) ∧ w'.cell? ⟨(ad249.add ((x13_1).toNat * 6)).block, (ad249.add ((x13_1).toNat * 6)).off + 5, none⟩ = some (.int .i64 ((rd_T149 t241 x13_1).f5)) ∧ w'.cell? (ad249.add ((x13_1).toNat * 6)) = some (.int .i64 ((rd_T149 t241 x13_1).f0)) ∧ w'.cell? ⟨(ad249.add ((x13_1).toNat * 6)).block, (ad249.add ((x13_1).toNat * 6)).off + 1, none⟩ = some (.int .i64 ((rd_T149 t241 x13_1).f1)) ∧ w'.cell? ⟨(ad249.add ((x13_1).toNat * 6)).block, (ad249.add ((x13_1).toNat * 6)).off + 2, none⟩ = some (.int .i64 ((rd_T149 t241 x13_1).f2)) ∧ w'.cell? ⟨(ad249.add ((x13_1).toNat * 6)).block, (ad249.add ((x13_1).toNat * 6)).off + 3, none⟩ = some (.int .i64 ((rd_T149 t241 x13_1).f3)) ∧ w'.cell? ⟨(ad249.add ((x13_1).toNat * 6)).block, (ad249.add ((x13_1).toNat * 6)).off + 4, none⟩ = some (.int .i64 ((rd_T149 t241 x13_1).f4)) ∧ w'.cell? ⟨(ad249.add ((x13_1).toNat * 6)).block, (ad249.add ((x13_1).toNat * 6)).off + 5, none⟩ = some (.int .i64 ((rd_T149 t241 x13_1).f5)) ∧ w'.cell? ⟨go13, (((rd_T149 t241 x13_1).f0)).toNat, none⟩ = some (.int .i64 (rd x10_1 ((rd_T149 t241 x13_1).f0))) ∧ w'.cell? (ad249.add ((x13_1).toNat * 6)) = some (.int .i64 ((rd_T149 t241 x13_1).f0)) ∧ w'.cell? ⟨(ad249.add ((x13_1).toNat * 6)).block, (ad249.add ((x13_1).toNat * 6)).off + 1, none⟩ = some (.int .i64 ((rd_T149 t241 x13_1).f1)) ∧ w'.cell? ⟨(ad249.add ((x13_1).toNat * 6)).block, (ad249.add ((x13_1).toNat * 6)).off + 2, none⟩ = some (.int .i64 ((rd_T149 t241 x13_1).f2)) ∧ w'.cell? ⟨(ad249.add ((x13_1).toNat * 6)).block, (ad249.add ((x13_1).toNat * 6)).off + 3, none⟩ = some (.int .i64 ((rd_T149 t241 x13_1).f3)) ∧ w'.cell? ⟨(ad249.add ((x13_1).toNat * 6)).block, (ad249.add ((x13_1).toNat * 6)).off + 4, none⟩ = some (.int .i64 ((rd_T149 t241 x13_1).f4)) ∧ w'.cell? ⟨(ad249.add ((x13_1).toNat * 6)).block, (ad249.add ((x13_1).toNat * 6)).off + 5, none⟩ = some (.int .i64 ((rd_T149 t241 x13_1).f5))) (ds := [23]) L0' kZ rfl rfl ⟨hx249_0, hx249_1, hx249_2, hx249_3, hx249_4, hx249_5, hx250_0, hx250_1, hx250_2, hx250_3, hx250_4, hx250_5, hx251_0, hx252_0, hx252_1, hx252_2, hx252_3, hx252_4, hx252_5⟩ (fun hHeld => ?_); refine with_tabW spec_Output.tab10 spec_Output.bits10 (fun HT_ HW_ => ?_)
    generalize wr.drew = w41 at HO_10 HO_12 HB GG13 HQ42 hf26_0 hx249_0 hx249_1 hx249_2 hx249_3 hx249_4 hx249_5 hx250_0 hx250_1 hx250_2 hx250_3 hx250_4 hx250_5 hx251_0 hx252_0 hx252_1 hx252_2 hx252_3 hx252_4 hx252_5 hx26_0 hHeld ⊢
    refine pure_ (i := 0) (N := some 53) (v := ?_) (a' := ?_) L1' rfl rfl (any_of HT_.out kZ) (fun _ _ _ h => h) (Or.inl ⟨by rfl, ?_⟩) ?_ ?_
    rotate_left
    ·intro w'
     go_simp
     with_reducible rfl
    rotate_left
    ·simp only [Act.put, sZ1, sZ2, sZ3, i64_w, i32_w]
     rfl
    refine pure_ (i := 1) (N := some 54) (v := ?_) (a' := ?_) L2' rfl rfl (any_of HT_.out kZ) (fun _ _ _ h => h) (Or.inl ⟨by rfl, ?_⟩) ?_ ?_
    rotate_left
    ·intro w'
     go_simp
     with_reducible rfl
    rotate_left
    ·simp only [Act.put, sZ1, sZ2, sZ3, i64_w, i32_w]
     rfl
    refine pure_ (i := 2) (N := some 55) (v := ?_) (a' := ?_) L3' rfl rfl (any_of HT_.out kZ) (fun _ _ _ h => h) (Or.inl ⟨by rfl, ?_⟩) ?_ ?_
    rotate_left
    ·intro w'
     go_simp
     with_reducible rfl
    rotate_left
    ·simp only [Act.put, sZ1, sZ2, sZ3, i64_w, i32_w]
     rfl
    refine pure_ (i := 3) (N := some 56) (v := ?_) (a' := ?_) L4' rfl rfl (any_of HT_.out kZ) (fun _ _ _ h => h) (Or.inl ⟨by rfl, ?_⟩) ?_ ?_
    rotate_left
    ·intro w'
     go_simp
     with_reducible rfl
    rotate_left
    ·simp only [Act.put, sZ1, sZ2, sZ3, i64_w, i32_w]
     rfl
    refine pure_ (i := 4) (N := some 57) (v := ?_) (a' := ?_) L5' rfl rfl (any_of HT_.out kZ) (fun _ _ _ h => h) (Or.inl ⟨by rfl, ?_⟩) ?_ ?_
    rotate_left
    ·intro w'
     go_simp
     with_reducible rfl
    rotate_left
    ·simp only [Act.put, sZ1, sZ2, sZ3, i64_w, i32_w]
     rfl
    refine pure_ (i := 6) (N := some 59) (v := ?_) (a' := ?_) L6' rfl rfl (any_of HT_.out kZ) (fun _ _ _ h => h) (Or.inl ⟨by rfl, ?_⟩) ?_ ?_
    rotate_left
    ·intro w'
     go_simp
     with_reducible rfl
    rotate_left
    ·simp only [Act.put, sZ1, sZ2, sZ3, i64_w, i32_w]
     rfl
    refine pure_ (i := 7) (N := some 60) (v := ?_) (a' := ?_) L7' rfl rfl (any_of HT_.out kZ) (fun _ _ _ h => h) (Or.inl ⟨by rfl, ?_⟩) ?_ ?_
    rotate_left
    ·intro w'
     go_simp
     with_reducible rfl
    rotate_left
    ·simp only [Act.put, sZ1, sZ2, sZ3, i64_w, i32_w]
     rfl
    refine pure_ (i := 8) (N := some 61) (v := ?_) (a' := ?_) L8' rfl rfl (any_of HT_.out kZ) (fun _ _ _ h => h) (Or.inl ⟨by rfl, ?_⟩) ?_ ?_
    rotate_left
    ·intro w'
     go_simp
     with_reducible rfl
    rotate_left
    ·simp only [Act.put, sZ1, sZ2, sZ3, i64_w, i32_w]
     rfl
    refine pure_ (i := 9) (N := some 62) (v := ?_) (a' := ?_) L9' rfl rfl (any_of HT_.out kZ) (fun _ _ _ h => h) (Or.inl ⟨by rfl, ?_⟩) ?_ ?_
    rotate_left
    ·intro w'
     go_simp
     with_reducible rfl
    rotate_left
    ·simp only [Act.put, sZ1, sZ2, sZ3, i64_w, i32_w]
     rfl
    refine pure_ (i := 10) (N := some 63) (v := ?_) (a' := ?_) L10' rfl rfl (any_of HT_.out kZ) (fun _ _ _ h => h) (Or.inl ⟨by rfl, ?_⟩) ?_ ?_
    rotate_left
    ·intro w'
     go_simp
     with_reducible rfl
    rotate_left
    ·simp only [Act.put, sZ1, sZ2, sZ3, i64_w, i32_w]
     rfl
    refine pure_ (i := 14) (N := some 67) (v := ?_) (a' := ?_) L11' rfl rfl (any_of HT_.out kZ) (fun _ _ _ h => h) (Or.inl ⟨by rfl, ?_⟩) ?_ ?_
    rotate_left
    ·intro w'
     go_simp
     with_reducible rfl
    rotate_left
    ·simp only [Act.put, sZ1, sZ2, sZ3, i64_w, i32_w]
     rfl
    refine pure_ (i := 15) (N := some 68) (v := ?_) (a' := ?_) L12' rfl rfl (any_of HT_.out kZ) (fun _ _ _ h => h) (Or.inl ⟨by rfl, ?_⟩) ?_ ?_
    rotate_left
    ·intro w'
     go_simp
     with_reducible rfl
    rotate_left
    ·simp only [Act.put, sZ1, sZ2, sZ3, i64_w, i32_w]
     rfl
    refine pure_ (i := 16) (N := some 69) (v := ?_) (a' := ?_) L13' rfl rfl (any_of HT_.out kZ) (fun _ _ _ h => h) (Or.inl ⟨by rfl, ?_⟩) ?_ ?_
    rotate_left
    ·intro w'
     go_simp
     with_reducible rfl
    rotate_left
    ·simp only [Act.put, sZ1, sZ2, sZ3, i64_w, i32_w]
     rfl
    refine pure_ (i := 17) (N := some 70) (v := ?_) (a' := ?_) L14' rfl rfl (any_of HT_.out kZ) (fun _ _ _ h => h) (Or.inl ⟨by rfl, ?_⟩) ?_ ?_
    rotate_left
    ·intro w'
     go_simp
     with_reducible rfl
    rotate_left
    ·simp only [Act.put, sZ1, sZ2, sZ3, i64_w, i32_w]
     rfl
    refine pure_ (i := 18) (N := some 71) (v := ?_) (a' := ?_) L15' rfl rfl (any_of HT_.out kZ) (fun _ _ _ h => h) (Or.inl ⟨by rfl, ?_⟩) ?_ ?_
    rotate_left
    ·intro w'
     go_simp
     with_reducible rfl
    rotate_left
    ·simp only [Act.put, sZ1, sZ2, sZ3, i64_w, i32_w]
     rfl
    refine take_ (i := 5) (N := some 58) (v := ?_) (a' := ?_) L16' rfl rfl (take_ofW HT_.out HW_.out kZ) (fun _ _ _ h => h) (Or.inl ⟨by rfl, ?_⟩) hHeld ?_ ?_
    rotate_left
    ·rintro w' ⟨s0, s1, s2, s3, s4, s5, s6, s7, s8, s9, s10, s11, s12, s13, s14, s15, s16, s17, s18⟩
     go_simp
     with_reducible rfl
    rotate_left
    ·simp only [Act.put, sZ1, sZ2, sZ3, i64_w, i32_w]
     rfl
    refine take_ (i := 11) (N := some 64) (v := ?_) (a' := ?_) L17' rfl rfl (take_ofW HT_.out HW_.out kZ) (fun _ _ _ h => h) (Or.inl ⟨by rfl, ?_⟩) hHeld ?_ ?_
    rotate_left
    ·rintro w' ⟨s0, s1, s2, s3, s4, s5, s6, s7, s8, s9, s10, s11, s12, s13, s14, s15, s16, s17, s18⟩
     go_simp
     with_reducible rfl
    rotate_left
    ·simp only [Act.put, sZ1, sZ2, sZ3, i64_w, i32_w]
     rfl
    refine pure_ (i := 12) (N := some 65) (v := ?_) (a' := ?_) L18' rfl rfl (any_of HT_.out kZ) (fun _ _ _ h => h) (Or.inl ⟨by rfl, ?_⟩) ?_ ?_
    rotate_left
    ·intro w'
     go_simp
     with_reducible rfl
    rotate_left
    ·simp only [Act.put, sZ1, sZ2, sZ3, i64_w, i32_w]
     rfl
    refine take_ (i := 13) (N := some 66) (v := ?_) (a' := ?_) L19' rfl rfl (take_ofW HT_.out HW_.out kZ) (fun _ _ _ h => h) (Or.inl ⟨by rfl, ?_⟩) hHeld ?_ ?_
    rotate_left
    ·rintro w' ⟨s0, s1, s2, s3, s4, s5, s6, s7, s8, s9, s10, s11, s12, s13, s14, s15, s16, s17, s18⟩
     go_simp
     with_reducible rfl
    rotate_left
    ·simp only [Act.put, sZ1, sZ2, sZ3, i64_w, i32_w]
     rfl
    refine take_ (i := 19) (N := some 72) (v := ?_) (a' := ?_) L20' rfl rfl (take_ofW HT_.out HW_.out kZ) (fun _ _ _ h => h) (Or.inl ⟨by rfl, ?_⟩) hHeld ?_ ?_
    rotate_left
    ·rintro w' ⟨s0, s1, s2, s3, s4, s5, s6, s7, s8, s9, s10, s11, s12, s13, s14, s15, s16, s17, s18⟩
     go_simp
     with_reducible rfl
    rotate_left
    ·simp only [Act.put, sZ1, sZ2, sZ3, i64_w, i32_w]
     rfl
    refine pure_ (i := 20) (N := some 73) (v := ?_) (a' := ?_) L21' rfl rfl (any_of HT_.out kZ) (fun _ _ _ h => h) (Or.inl ⟨by rfl, ?_⟩) ?_ ?_
    rotate_left
    ·intro w'
     go_simp
     with_reducible rfl
    rotate_left
    ·simp only [Act.put, sZ1, sZ2, sZ3, i64_w, i32_w]
     rfl
    refine pure_ (i := 21) (N := some 74) (v := ?_) (a' := ?_) L22' rfl rfl (any_of HT_.out kZ) (fun _ _ _ h => h) (Or.inl ⟨by rfl, ?_⟩) ?_ ?_
    rotate_left
    ·intro w'
     go_simp
     with_reducible rfl
    rotate_left
    ·simp only [Act.put, sZ1, sZ2, sZ3, i64_w, i32_w]
     rfl
    refine pure_ (i := 22) (N := some 75) (v := ?_) (a' := ?_) L23' rfl rfl (any_of HT_.out kZ) (fun _ _ _ h => h) (Or.inl ⟨by rfl, ?_⟩) ?_ ?_
    rotate_left
    ·intro w'
     go_simp
     with_reducible rfl
    rotate_left
    ·simp only [Act.put, sZ1, sZ2, sZ3, i64_w, i32_w]
     rfl
    refine last_ (i := 23) (N := none) L24' rfl rfl (one_of HT_.out kZ) (by decide) (fun K hK => ?_)
    refine skip_ (w1 := ?_) (by rfl) rfl ?_ ?_
    rotate_left
    ·go_simp
     rfl
    refine hK.out _ _ ?_
    clear hK K
    refine done_ (done_of HT_.out kZ) ?_
    have p254 : 0 ≤ (x13_1 : Int) := of_decide_eq_true tZE
    have q254 : x13_1 < (t241.length : Int) := of_decide_eq_true tZE
    obtain ⟨ad254, e254, hx254_0, hx254_1, hx254_2, hx254_3, hx254_4, hx254_5⟩ := at_T149 (Kd.R_reads' HO_12.out).2.2 x13_1 p254 q254
    obtain rfl : ad249 = ad254 := (by injection e254)
    have hn254_0 : ad249.block ≠ go13 := (fun he_ => by obtain ⟨c_, h_⟩ := Kd.R_typed HO_12.out _ rfl; have h2_ := GG13.out; rw [← he_] at h2_; have h3_ := h_.symm.trans h2_; injection h3_ with h3_; injection h3_ with _ h4_ _; exact absurd h4_ (by decide))
    replace hx254_0 := (cell_far (p := ⟨go13, (((rd_T149 t241 x13_1).f0) : Int).toNat, none⟩) (by first | (rw [add_block]; exact hn254_0) | (show (Addr.add _ _).block ≠ _; rw [add_block]; exact hn254_0) | exact hn254_0) (.int .i64 (wrap64 ((rd x10_1 ((rd_T149 t241 x13_1).f0)) + (wrap64 (t237 * ((rd_T149 t241 x13_1).f1))))))).trans hx254_0
    replace hx254_1 := (cell_far (p := ⟨go13, (((rd_T149 t241 x13_1).f0) : Int).toNat, none⟩) (by first | (rw [add_block]; exact hn254_0) | (show (Addr.add _ _).block ≠ _; rw [add_block]; exact hn254_0) | exact hn254_0) (.int .i64 (wrap64 ((rd x10_1 ((rd_T149 t241 x13_1).f0)) + (wrap64 (t237 * ((rd_T149 t241 x13_1).f1))))))).trans hx254_1
    replace hx254_2 := (cell_far (p := ⟨go13, (((rd_T149 t241 x13_1).f0) : Int).toNat, none⟩) (by first | (rw [add_block]; exact hn254_0) | (show (Addr.add _ _).block ≠ _; rw [add_block]; exact hn254_0) | exact hn254_0) (.int .i64 (wrap64 ((rd x10_1 ((rd_T149 t241 x13_1).f0)) + (wrap64 (t237 * ((rd_T149 t241 x13_1).f1))))))).trans hx254_2
    replace hx254_3 := (cell_far (p := ⟨go13, (((rd_T149 t241 x13_1).f0) : Int).toNat, none⟩) (by first | (rw [add_block]; exact hn254_0) | (show (Addr.add _ _).block ≠ _; rw [add_block]; exact hn254_0) | exact hn254_0) (.int .i64 (wrap64 ((rd x10_1 ((rd_T149 t241 x13_1).f0)) + (wrap64 (t237 * ((rd_T149 t241 x13_1).f1))))))).trans hx254_3
    replace hx254_4 := (cell_far (p := ⟨go13, (((rd_T149 t241 x13_1).f0) : Int).toNat, none⟩) (by first | (rw [add_block]; exact hn254_0) | (show (Addr.add _ _).block ≠ _; rw [add_block]; exact hn254_0) | exact hn254_0) (.int .i64 (wrap64 ((rd x10_1 ((rd_T149 t241 x13_1).f0)) + (wrap64 (t237 * ((rd_T149 t241 x13_1).f1))))))).trans hx254_4
    replace hx254_5 := (cell_far (p := ⟨go13, (((rd_T149 t241 x13_1).f0) : Int).toNat, none⟩) (by first | (rw [add_block]; exact hn254_0) | (show (Addr.add _ _).block ≠ _; rw [add_block]; exact hn254_0) | exact hn254_0) (.int .i64 (wrap64 ((rd x10_1 ((rd_T149 t241 x13_1).f0)) + (wrap64 (t237 * ((rd_T149 t241 x13_1).f1))))))).trans hx254_5
    clear hn254_0
    replace p254 := eq_true p254
    replace q254 := eq_true q254
    try go_wp2_with (first | ((with_reducible refine gate_callee (f := 107) rfl ?_); refine goesL_ (some 83) rfl rfl Try.func107 kZ rfl #[.int .i64 (wrap64 (t237 * ((rd_T149 t241 x13_1).f1)))] rfl tZA ?_; (with_reducible refine (spec_l12Qty.calls (wrap64 (t237 * ((rd_T149 t241 x13_1).f1))) false _ A27.out).mono ?_); rintro e w' ⟨rfl, ⟨nd, rfl⟩⟩; refine ⟨_, rfl, ?_⟩) | ((with_reducible refine gate_dst (N := 97) rfl ?_); refine Kd.R_lit (Kd.int .i64) _ 3 ?hg (N := 97) ?hd (xs := ([] : List Int)) (inner := []) (ok := fun _ => True) (okp := fun _ => True) ?hr ?hp (fun _ hk => hk) trivial (Below.refl _ _) (Nat.le_refl _) (by simp) ?_; (case hd => rfl); (case hg => rfl); (case hr => first | (go_simp; done) | (go_simp; rfl)); (case hp => exact (Reps.none _ _)); intro v263 w43 ho44 hb hg_ hnew_; clear hg_ hnew_; (first | rw [← Ny262.out] at ho44 | (simp only [Int.reduceToNat] at ho44; rw [← Ny262.out] at ho44)); replace HO_10 := aZ (Kd.R_elder' (by exact HQ42.out) (Kd.R_base ho44) hb); replace HO_12 := aZ (Kd.R_below (by (with_reducible repeat (first | apply Kd.R_alloc | apply Kd.R_drewN | apply Kd.R_drew)); exact (Kd.R_mono (Kd.R_far (p := ⟨go13, (((rd_T149 t241 x13_1).f0) : Int).toNat, none⟩) (Kd.R_types HO_12.out GG13.out (by decide)) (fun _ hk => hk.2) (.int .i64 (wrap64 ((rd x10_1 ((rd_T149 t241 x13_1).f0)) + (wrap64 (t237 * ((rd_T149 t241 x13_1).f1))))))) (fun _ h_ => h_.1))) hb); have HO264 := aZ (Kd.R_lower (Kd.R_new' ho44 (Kd.R_lt (by exact HQ42.out))) (below_size bZ)); replace HB := aZ (below_step bZ hb); clear hb ho44))
    go_ret2
    exact ⟨_, tZC, by (with_reducible repeat (first | apply Kd.R_alloc | apply Kd.R_drewN | apply Kd.R_drew)); exact Kd.R_mono HO264.out (fun _ hk => trivial), bZ⟩
   subst c28
   have H1 : ((spec_l12Qty.f (wrap64 ((rd x10_1 ((rd_T149 t241 x13_1).f0)) + (wrap64 (t237 * ((rd_T149 t241 x13_1).f1)))))).bind fun t258 => (if t258 = true then (spec_Output.l0 k1 a1 y253 t237 t241 (wrap64 (x13_1 + 1))) else (some ((([] : List Int)), false)))) = some (r1, r2) := by rw [if_pos rfl] at H; exact H
   clear H
   have H := H1
   clear H1
   replace H := Option.bind_eq_some_iff.mp H
   obtain ⟨t258, A300, H⟩ := H
   replace H : (if t258 = true then (spec_Output.l0 k1 a1 y253 t237 t241 (wrap64 (x13_1 + 1))) else (some ((([] : List Int)), false))) = some (r1, r2) := H
   have A30 := Aside0.mk A300
   clear A300
   by_cases c31 : t258 = true
   ·subst c31
    have H1 : (spec_Output.l0 k1 a1 y253 t237 t241 (wrap64 (x13_1 + 1))) = some (r1, r2) := by rw [if_pos rfl] at H; exact H
    clear H
    have H := H1
    clear H1
    have H' := Aside0.mk H
    clear H
    obtain ⟨Ao32, co32, eo32⟩ := Kd.R_slice HO_12.out
    subst eo32
    try go_wp2
    replace HO_10 := aZ (Kd.R_drew HO_10.out)
    replace HO_12 := aZ (Kd.R_drew HO_12.out)
    replace HB := aZ (below_drew1 HB.out)
    have p249 : 0 ≤ (x13_1 : Int) := of_decide_eq_true tZE
    have q249 : x13_1 < (t241.length : Int) := of_decide_eq_true tZE
    obtain ⟨ad249, e249, hx249_0, hx249_1, hx249_2, hx249_3, hx249_4, hx249_5⟩ := at_T149 (Kd.R_reads' HO_12.out).2.2 x13_1 p249 q249
    cases e249
    replace p249 := eq_true p249
    replace q249 := eq_true q249
    have p250 : 0 ≤ (x13_1 : Int) := of_decide_eq_true tZE
    have q250 : x13_1 < (t241.length : Int) := of_decide_eq_true tZE
    obtain ⟨ad250, e250, hx250_0, hx250_1, hx250_2, hx250_3, hx250_4, hx250_5⟩ := at_T149 (Kd.R_reads' HO_12.out).2.2 x13_1 p250 q250
    obtain rfl : ad249 = ad250 := (by injection e250)
    replace p250 := eq_true p250
    replace q250 := eq_true q250
    have p251 : 0 ≤ (((rd_T149 t241 x13_1).f0) : Int) := of_decide_eq_true tZE
    have q251 : ((rd_T149 t241 x13_1).f0) < (x10_1.length : Int) := of_decide_eq_true tZE
    obtain ⟨ad251, e251, hx251_0⟩ := Kd.at_int (Kd.R_reads' HO_10.out).2.2 ((rd_T149 t241 x13_1).f0) p251 q251
    obtain rfl : (⟨go13, 0, none⟩ : Addr) = ad251 := (by injection e251)
    (first | simp only [add_plain] at hx251_0 | simp only [add_at] at hx251_0 | simp only [Addr.add, Nat.zero_add] at hx251_0 | skip)
    replace p251 := eq_true p251
    replace q251 := eq_true q251
    have p252 : 0 ≤ (x13_1 : Int) := of_decide_eq_true tZE
    have q252 : x13_1 < (t241.length : Int) := of_decide_eq_true tZE
    obtain ⟨ad252, e252, hx252_0, hx252_1, hx252_2, hx252_3, hx252_4, hx252_5⟩ := at_T149 (Kd.R_reads' HO_12.out).2.2 x13_1 p252 q252
    obtain rfl : ad249 = ad252 := (by injection e252)
    replace p252 := eq_true p252
    replace q252 := eq_true q252
    have p26 : 0 ≤ (((rd_T149 t241 x13_1).f0) : Int) := of_decide_eq_true tZE
    have q26 : (((rd_T149 t241 x13_1).f0) : Int) < ((x10_1.length : Int) : Int) := of_decide_eq_true tZE
    obtain ⟨hx26_0, hf26_0⟩ := Kd.R_celln 0 HO_10.out (((rd_T149 t241 x13_1).f0) : Int) p26 q26
    replace p26 := eq_true p26
    replace q26 := eq_true q26
    (try clear GG13)
    obtain ⟨cl34_, hgg34_⟩ := Kd.R_typed (HO_10.out) go13 rfl
    have GG13 := Aside0.mk hgg34_
    clear hgg34_
    have HP34 := Kd.R_putn HO_10.out (((rd_T149 t241 x13_1).f0) : Int) (wrap64 ((rd x10_1 ((rd_T149 t241 x13_1).f0)) + (wrap64 (t237 * ((rd_T149 t241 x13_1).f1)))))
    rw [← Ny253.out] at HP34
    have HQ34 := Aside0.mk HP34
    clear HP34
    refine start_ (n := 24) (S := fun w' => w'.cell? (ad249.add ((x13_1).toNat * 6)) = some (.int .i64 ((rd_T149 t241 x13_1).f0)) ∧ w'.cell? ⟨(ad249.add ((x13_1).toNat * 6)).block, (ad249.add ((x13_1).toNat * 6)).off + 1, none⟩ = some (.int .i64 ((rd_T149 t241 x13_1).f1)) ∧ w'.cell? ⟨(ad249.add ((x13_1).toNat * 6)).block, (ad249.add ((x13_1).toNat * 6)).off + 2, none⟩ = some (.int .i64 ((rd_T149 t241 x13_1).f2)) ∧ w'.cell? ⟨(ad249.add ((x13_1).toNat * 6)).block, (ad249.add ((x13_1).toNat * 6)).off + 3, none⟩ = some (.int .i64 ((rd_T149 t241 x13_1).f3)) ∧ w'.cell? ⟨(ad249.add ((x13_1).toNat * 6)).block, (ad249.add ((x13_1).toNat * 6)).off + 4, none⟩ = some (.int .i64 ((rd_T149 t241 x13_1).f4)) ∧ w'.cell? ⟨(ad249.add ((x13_1).toNat * 6)).block, (ad249.add ((x13_1).toNat * 6)).off + 5, none⟩ = some (.int .i64 ((rd_T149 t241 x13_1).f5)) ∧ w'.cell? (ad249.add ((x13_1).toNat * 6)) = some (.int .i64 ((rd_T149 t241 x13_1).f0)) ∧ w'.cell? ⟨(ad249.add ((x13_1).toNat * 6)).block, (ad249.add ((x13_1).toNat * 6)).off + 1, none⟩ = some (.int .i64 ((rd_T149 t241 x13_1).f1)) ∧ w'.cell? ⟨(ad249.add ((x13_1).toNat * 6)).block, (ad249.add ((x13_1).toNat * 6)).off + 2, none⟩ = some (.int .i64 ((rd_T149 t241 x13_1).f2)) ∧ w'.cell? ⟨(ad249.add ((x13_1).toNat * 6)).block, (ad249.add ((x13_1).toNat * 6)).off + 3, none⟩ = some (.int .i64 ((rd_T149 t241 x13_1).f3)) ∧ w'.cell? ⟨(ad249.add ((x13_1).toNat * 6)).block, (ad249.add ((x13_1).toNat * 6)).off + 4, none⟩ = some (.int .i64 ((rd_T149 t241 x13_1).f4)) ∧ w'.cell? ⟨(ad249.add ((x13_1).toNat * 6)).block, (ad249.add ((x13_1).toNat * 6)).off + 5, none⟩ = some (.int .i64 ((rd_T149 t241 x13_1).f5)) ∧ w'.cell? ⟨go13, (((rd_T149 t241 x13_1).f0)).toNat, none⟩ = some (.int .i64 (rd x10_1 ((rd_T149 t241 x13_1).f0))) ∧ w'.cell? (ad249.add ((x13_1).toNat * 6)) = some (.int .i64 ((rd_T149 t241 x13_1).f0)) ∧ w'.cell? ⟨(ad249.add ((x13_1).toNat * 6)).block, (ad249.add ((x13_1).toNat * 6)).off + 1, none⟩ = some (.int .i64 ((rd_T149 t241 x13_1).f1)) ∧ w'.cell? ⟨(ad249.add ((x13_1).toNat * 6)).block, (ad249.add ((x13_1).toNat * 6)).off + 2, none⟩ = some (.int .i64 ((rd_T149 t241 x13_1).f2)) ∧ w'.cell? ⟨(ad249.add ((x13_1).toNat * 6)).block, (ad249.add ((x13_1).toNat * 6)).off + 3, none⟩ = some (.int .i64 ((rd_T149 t241 x13_1).f3)) ∧ w'.cell? ⟨(ad249.add ((x13_1).toNat * 6)).block, (ad249.add ((x13_1).toNat * 6)).off + 4, none⟩ = some (.int .i64 ((rd_T149 t241 x13_1).f4)) ∧ w'.cell? ⟨(ad249.add ((x13_1).toNat * 6)).block, (ad249.add ((x13_1).toNat * 6)).off + 5, none⟩ = some (.int .i64 ((rd_T149 t241 x13_1).f5))) (ds := [23]) L0' kZ rfl rfl ⟨hx249_0, hx249_1, hx249_2, hx249_3, hx249_4, hx249_5, hx250_0, hx250_1, hx250_2, hx250_3, hx250_4, hx250_5, hx251_0, hx252_0, hx252_1, hx252_2, hx252_3, hx252_4, hx252_5⟩ (fun hHeld => ?_); refine with_tabW spec_Output.tab10 spec_Output.bits10 (fun HT_ HW_ => ?_)
    generalize wr.drew = w33 at HO_10 HO_12 HB GG13 HQ34 hf26_0 hx249_0 hx249_1 hx249_2 hx249_3 hx249_4 hx249_5 hx250_0 hx250_1 hx250_2 hx250_3 hx250_4 hx250_5 hx251_0 hx252_0 hx252_1 hx252_2 hx252_3 hx252_4 hx252_5 hx26_0 hHeld ⊢
    refine pure_ (i := 0) (N := some 53) (v := ?_) (a' := ?_) L1' rfl rfl (any_of HT_.out kZ) (fun _ _ _ h => h) (Or.inl ⟨by rfl, ?_⟩) ?_ ?_
    rotate_left
    ·intro w'
     go_simp
     with_reducible rfl
    rotate_left
    ·simp only [Act.put, sZ1, sZ2, sZ3, i64_w, i32_w]
     rfl
    refine pure_ (i := 1) (N := some 54) (v := ?_) (a' := ?_) L2' rfl rfl (any_of HT_.out kZ) (fun _ _ _ h => h) (Or.inl ⟨by rfl, ?_⟩) ?_ ?_
    rotate_left
    ·intro w'
     go_simp
     with_reducible rfl
    rotate_left
    ·simp only [Act.put, sZ1, sZ2, sZ3, i64_w, i32_w]
     rfl
    refine pure_ (i := 2) (N := some 55) (v := ?_) (a' := ?_) L3' rfl rfl (any_of HT_.out kZ) (fun _ _ _ h => h) (Or.inl ⟨by rfl, ?_⟩) ?_ ?_
    rotate_left
    ·intro w'
     go_simp
     with_reducible rfl
    rotate_left
    ·simp only [Act.put, sZ1, sZ2, sZ3, i64_w, i32_w]
     rfl
    refine pure_ (i := 3) (N := some 56) (v := ?_) (a' := ?_) L4' rfl rfl (any_of HT_.out kZ) (fun _ _ _ h => h) (Or.inl ⟨by rfl, ?_⟩) ?_ ?_
    rotate_left
    ·intro w'
     go_simp
     with_reducible rfl
    rotate_left
    ·simp only [Act.put, sZ1, sZ2, sZ3, i64_w, i32_w]
     rfl
    refine pure_ (i := 4) (N := some 57) (v := ?_) (a' := ?_) L5' rfl rfl (any_of HT_.out kZ) (fun _ _ _ h => h) (Or.inl ⟨by rfl, ?_⟩) ?_ ?_
    rotate_left
    ·intro w'
     go_simp
     with_reducible rfl
    rotate_left
    ·simp only [Act.put, sZ1, sZ2, sZ3, i64_w, i32_w]
     rfl
    refine pure_ (i := 6) (N := some 59) (v := ?_) (a' := ?_) L6' rfl rfl (any_of HT_.out kZ) (fun _ _ _ h => h) (Or.inl ⟨by rfl, ?_⟩) ?_ ?_
    rotate_left
    ·intro w'
     go_simp
     with_reducible rfl
    rotate_left
    ·simp only [Act.put, sZ1, sZ2, sZ3, i64_w, i32_w]
     rfl
    refine pure_ (i := 7) (N := some 60) (v := ?_) (a' := ?_) L7' rfl rfl (any_of HT_.out kZ) (fun _ _ _ h => h) (Or.inl ⟨by rfl, ?_⟩) ?_ ?_
    rotate_left
    ·intro w'
     go_simp
     with_reducible rfl
    rotate_left
    ·simp only [Act.put, sZ1, sZ2, sZ3, i64_w, i32_w]
     rfl
    refine pure_ (i := 8) (N := some 61) (v := ?_) (a' := ?_) L8' rfl rfl (any_of HT_.out kZ) (fun _ _ _ h => h) (Or.inl ⟨by rfl, ?_⟩) ?_ ?_
    rotate_left
    ·intro w'
     go_simp
     with_reducible rfl
    rotate_left
    ·simp only [Act.put, sZ1, sZ2, sZ3, i64_w, i32_w]
     rfl
    refine pure_ (i := 9) (N := some 62) (v := ?_) (a' := ?_) L9' rfl rfl (any_of HT_.out kZ) (fun _ _ _ h => h) (Or.inl ⟨by rfl, ?_⟩) ?_ ?_
    rotate_left
    ·intro w'
     go_simp
     with_reducible rfl
    rotate_left
    ·simp only [Act.put, sZ1, sZ2, sZ3, i64_w, i32_w]
     rfl
    refine pure_ (i := 10) (N := some 63) (v := ?_) (a' := ?_) L10' rfl rfl (any_of HT_.out kZ) (fun _ _ _ h => h) (Or.inl ⟨by rfl, ?_⟩) ?_ ?_
    rotate_left
    ·intro w'
     go_simp
     with_reducible rfl
    rotate_left
    ·simp only [Act.put, sZ1, sZ2, sZ3, i64_w, i32_w]
     rfl
    refine pure_ (i := 14) (N := some 67) (v := ?_) (a' := ?_) L11' rfl rfl (any_of HT_.out kZ) (fun _ _ _ h => h) (Or.inl ⟨by rfl, ?_⟩) ?_ ?_
    rotate_left
    ·intro w'
     go_simp
     with_reducible rfl
    rotate_left
    ·simp only [Act.put, sZ1, sZ2, sZ3, i64_w, i32_w]
     rfl
    refine pure_ (i := 15) (N := some 68) (v := ?_) (a' := ?_) L12' rfl rfl (any_of HT_.out kZ) (fun _ _ _ h => h) (Or.inl ⟨by rfl, ?_⟩) ?_ ?_
    rotate_left
    ·intro w'
     go_simp
     with_reducible rfl
    rotate_left
    ·simp only [Act.put, sZ1, sZ2, sZ3, i64_w, i32_w]
     rfl
    refine pure_ (i := 16) (N := some 69) (v := ?_) (a' := ?_) L13' rfl rfl (any_of HT_.out kZ) (fun _ _ _ h => h) (Or.inl ⟨by rfl, ?_⟩) ?_ ?_
    rotate_left
    ·intro w'
     go_simp
     with_reducible rfl
    rotate_left
    ·simp only [Act.put, sZ1, sZ2, sZ3, i64_w, i32_w]
     rfl
    refine pure_ (i := 17) (N := some 70) (v := ?_) (a' := ?_) L14' rfl rfl (any_of HT_.out kZ) (fun _ _ _ h => h) (Or.inl ⟨by rfl, ?_⟩) ?_ ?_
    rotate_left
    ·intro w'
     go_simp
     with_reducible rfl
    rotate_left
    ·simp only [Act.put, sZ1, sZ2, sZ3, i64_w, i32_w]
     rfl
    refine pure_ (i := 18) (N := some 71) (v := ?_) (a' := ?_) L15' rfl rfl (any_of HT_.out kZ) (fun _ _ _ h => h) (Or.inl ⟨by rfl, ?_⟩) ?_ ?_
    rotate_left
    ·intro w'
     go_simp
     with_reducible rfl
    rotate_left
    ·simp only [Act.put, sZ1, sZ2, sZ3, i64_w, i32_w]
     rfl
    refine take_ (i := 5) (N := some 58) (v := ?_) (a' := ?_) L16' rfl rfl (take_ofW HT_.out HW_.out kZ) (fun _ _ _ h => h) (Or.inl ⟨by rfl, ?_⟩) hHeld ?_ ?_
    rotate_left
    ·rintro w' ⟨s0, s1, s2, s3, s4, s5, s6, s7, s8, s9, s10, s11, s12, s13, s14, s15, s16, s17, s18⟩
     go_simp
     with_reducible rfl
    rotate_left
    ·simp only [Act.put, sZ1, sZ2, sZ3, i64_w, i32_w]
     rfl
    refine take_ (i := 11) (N := some 64) (v := ?_) (a' := ?_) L17' rfl rfl (take_ofW HT_.out HW_.out kZ) (fun _ _ _ h => h) (Or.inl ⟨by rfl, ?_⟩) hHeld ?_ ?_
    rotate_left
    ·rintro w' ⟨s0, s1, s2, s3, s4, s5, s6, s7, s8, s9, s10, s11, s12, s13, s14, s15, s16, s17, s18⟩
     go_simp
     with_reducible rfl
    rotate_left
    ·simp only [Act.put, sZ1, sZ2, sZ3, i64_w, i32_w]
     rfl
    refine pure_ (i := 12) (N := some 65) (v := ?_) (a' := ?_) L18' rfl rfl (any_of HT_.out kZ) (fun _ _ _ h => h) (Or.inl ⟨by rfl, ?_⟩) ?_ ?_
    rotate_left
    ·intro w'
     go_simp
     with_reducible rfl
    rotate_left
    ·simp only [Act.put, sZ1, sZ2, sZ3, i64_w, i32_w]
     rfl
    refine take_ (i := 13) (N := some 66) (v := ?_) (a' := ?_) L19' rfl rfl (take_ofW HT_.out HW_.out kZ) (fun _ _ _ h => h) (Or.inl ⟨by rfl, ?_⟩) hHeld ?_ ?_
    rotate_left
    ·rintro w' ⟨s0, s1, s2, s3, s4, s5, s6, s7, s8, s9, s10, s11, s12, s13, s14, s15, s16, s17, s18⟩
     go_simp
     with_reducible rfl
    rotate_left
    ·simp only [Act.put, sZ1, sZ2, sZ3, i64_w, i32_w]
     rfl
    refine take_ (i := 19) (N := some 72) (v := ?_) (a' := ?_) L20' rfl rfl (take_ofW HT_.out HW_.out kZ) (fun _ _ _ h => h) (Or.inl ⟨by rfl, ?_⟩) hHeld ?_ ?_
    rotate_left
    ·rintro w' ⟨s0, s1, s2, s3, s4, s5, s6, s7, s8, s9, s10, s11, s12, s13, s14, s15, s16, s17, s18⟩
     go_simp
     with_reducible rfl
    rotate_left
    ·simp only [Act.put, sZ1, sZ2, sZ3, i64_w, i32_w]
     rfl
    refine pure_ (i := 20) (N := some 73) (v := ?_) (a' := ?_) L21' rfl rfl (any_of HT_.out kZ) (fun _ _ _ h => h) (Or.inl ⟨by rfl, ?_⟩) ?_ ?_
    rotate_left
    ·intro w'
     go_simp
     with_reducible rfl
    rotate_left
    ·simp only [Act.put, sZ1, sZ2, sZ3, i64_w, i32_w]
     rfl
    refine pure_ (i := 21) (N := some 74) (v := ?_) (a' := ?_) L22' rfl rfl (any_of HT_.out kZ) (fun _ _ _ h => h) (Or.inl ⟨by rfl, ?_⟩) ?_ ?_
    rotate_left
    ·intro w'
     go_simp
     with_reducible rfl
    rotate_left
    ·simp only [Act.put, sZ1, sZ2, sZ3, i64_w, i32_w]
     rfl
    refine pure_ (i := 22) (N := some 75) (v := ?_) (a' := ?_) L23' rfl rfl (any_of HT_.out kZ) (fun _ _ _ h => h) (Or.inl ⟨by rfl, ?_⟩) ?_ ?_
    rotate_left
    ·intro w'
     go_simp
     with_reducible rfl
    rotate_left
    ·simp only [Act.put, sZ1, sZ2, sZ3, i64_w, i32_w]
     rfl
    refine last_ (i := 23) (N := none) L24' rfl rfl (one_of HT_.out kZ) (by decide) (fun K hK => ?_)
    refine skip_ (w1 := ?_) (by rfl) rfl ?_ ?_
    rotate_left
    ·go_simp
     rfl
    refine hK.out _ _ ?_
    clear hK K
    refine done_ (done_of HT_.out kZ) ?_
    have p254 : 0 ≤ (x13_1 : Int) := of_decide_eq_true tZE
    have q254 : x13_1 < (t241.length : Int) := of_decide_eq_true tZE
    obtain ⟨ad254, e254, hx254_0, hx254_1, hx254_2, hx254_3, hx254_4, hx254_5⟩ := at_T149 (Kd.R_reads' HO_12.out).2.2 x13_1 p254 q254
    obtain rfl : ad249 = ad254 := (by injection e254)
    have hn254_0 : ad249.block ≠ go13 := (fun he_ => by obtain ⟨c_, h_⟩ := Kd.R_typed HO_12.out _ rfl; have h2_ := GG13.out; rw [← he_] at h2_; have h3_ := h_.symm.trans h2_; injection h3_ with h3_; injection h3_ with _ h4_ _; exact absurd h4_ (by decide))
    replace hx254_0 := (cell_far (p := ⟨go13, (((rd_T149 t241 x13_1).f0) : Int).toNat, none⟩) (by first | (rw [add_block]; exact hn254_0) | (show (Addr.add _ _).block ≠ _; rw [add_block]; exact hn254_0) | exact hn254_0) (.int .i64 (wrap64 ((rd x10_1 ((rd_T149 t241 x13_1).f0)) + (wrap64 (t237 * ((rd_T149 t241 x13_1).f1))))))).trans hx254_0
    replace hx254_1 := (cell_far (p := ⟨go13, (((rd_T149 t241 x13_1).f0) : Int).toNat, none⟩) (by first | (rw [add_block]; exact hn254_0) | (show (Addr.add _ _).block ≠ _; rw [add_block]; exact hn254_0) | exact hn254_0) (.int .i64 (wrap64 ((rd x10_1 ((rd_T149 t241 x13_1).f0)) + (wrap64 (t237 * ((rd_T149 t241 x13_1).f1))))))).trans hx254_1
    replace hx254_2 := (cell_far (p := ⟨go13, (((rd_T149 t241 x13_1).f0) : Int).toNat, none⟩) (by first | (rw [add_block]; exact hn254_0) | (show (Addr.add _ _).block ≠ _; rw [add_block]; exact hn254_0) | exact hn254_0) (.int .i64 (wrap64 ((rd x10_1 ((rd_T149 t241 x13_1).f0)) + (wrap64 (t237 * ((rd_T149 t241 x13_1).f1))))))).trans hx254_2
    replace hx254_3 := (cell_far (p := ⟨go13, (((rd_T149 t241 x13_1).f0) : Int).toNat, none⟩) (by first | (rw [add_block]; exact hn254_0) | (show (Addr.add _ _).block ≠ _; rw [add_block]; exact hn254_0) | exact hn254_0) (.int .i64 (wrap64 ((rd x10_1 ((rd_T149 t241 x13_1).f0)) + (wrap64 (t237 * ((rd_T149 t241 x13_1).f1))))))).trans hx254_3
    replace hx254_4 := (cell_far (p := ⟨go13, (((rd_T149 t241 x13_1).f0) : Int).toNat, none⟩) (by first | (rw [add_block]; exact hn254_0) | (show (Addr.add _ _).block ≠ _; rw [add_block]; exact hn254_0) | exact hn254_0) (.int .i64 (wrap64 ((rd x10_1 ((rd_T149 t241 x13_1).f0)) + (wrap64 (t237 * ((rd_T149 t241 x13_1).f1))))))).trans hx254_4
    replace hx254_5 := (cell_far (p := ⟨go13, (((rd_T149 t241 x13_1).f0) : Int).toNat, none⟩) (by first | (rw [add_block]; exact hn254_0) | (show (Addr.add _ _).block ≠ _; rw [add_block]; exact hn254_0) | exact hn254_0) (.int .i64 (wrap64 ((rd x10_1 ((rd_T149 t241 x13_1).f0)) + (wrap64 (t237 * ((rd_T149 t241 x13_1).f1))))))).trans hx254_5
    clear hn254_0
    replace p254 := eq_true p254
    replace q254 := eq_true q254
    try go_wp2_with (first | ((with_reducible refine gate_callee (f := 107) rfl ?_); refine goesL_ (some 83) rfl rfl Try.func107 kZ rfl #[.int .i64 (wrap64 (t237 * ((rd_T149 t241 x13_1).f1)))] rfl tZA ?_; (with_reducible refine (spec_l12Qty.calls (wrap64 (t237 * ((rd_T149 t241 x13_1).f1))) true _ A27.out).mono ?_); rintro e w' ⟨rfl, ⟨nd, rfl⟩⟩; refine ⟨_, rfl, ?_⟩; have p256 : 0 ≤ (x13_1 : Int) := of_decide_eq_true tZE; have q256 : x13_1 < (t241.length : Int) := of_decide_eq_true tZE; obtain ⟨ad256, e256, hx256_0, hx256_1, hx256_2, hx256_3, hx256_4, hx256_5⟩ := at_T149 (Kd.R_reads' HO_12.out).2.2 x13_1 p256 q256; obtain rfl : ad249 = ad256 := (by injection e256); have hn256_0 : ad249.block ≠ go13 := (fun he_ => by obtain ⟨c_, h_⟩ := Kd.R_typed HO_12.out _ rfl; have h2_ := GG13.out; rw [← he_] at h2_; have h3_ := h_.symm.trans h2_; injection h3_ with h3_; injection h3_ with _ h4_ _; exact absurd h4_ (by decide)); replace hx256_0 := (cell_far (p := ⟨go13, (((rd_T149 t241 x13_1).f0) : Int).toNat, none⟩) (by first | (rw [add_block]; exact hn256_0) | (show (Addr.add _ _).block ≠ _; rw [add_block]; exact hn256_0) | exact hn256_0) (.int .i64 (wrap64 ((rd x10_1 ((rd_T149 t241 x13_1).f0)) + (wrap64 (t237 * ((rd_T149 t241 x13_1).f1))))))).trans hx256_0; replace hx256_1 := (cell_far (p := ⟨go13, (((rd_T149 t241 x13_1).f0) : Int).toNat, none⟩) (by first | (rw [add_block]; exact hn256_0) | (show (Addr.add _ _).block ≠ _; rw [add_block]; exact hn256_0) | exact hn256_0) (.int .i64 (wrap64 ((rd x10_1 ((rd_T149 t241 x13_1).f0)) + (wrap64 (t237 * ((rd_T149 t241 x13_1).f1))))))).trans hx256_1; replace hx256_2 := (cell_far (p := ⟨go13, (((rd_T149 t241 x13_1).f0) : Int).toNat, none⟩) (by first | (rw [add_block]; exact hn256_0) | (show (Addr.add _ _).block ≠ _; rw [add_block]; exact hn256_0) | exact hn256_0) (.int .i64 (wrap64 ((rd x10_1 ((rd_T149 t241 x13_1).f0)) + (wrap64 (t237 * ((rd_T149 t241 x13_1).f1))))))).trans hx256_2; replace hx256_3 := (cell_far (p := ⟨go13, (((rd_T149 t241 x13_1).f0) : Int).toNat, none⟩) (by first | (rw [add_block]; exact hn256_0) | (show (Addr.add _ _).block ≠ _; rw [add_block]; exact hn256_0) | exact hn256_0) (.int .i64 (wrap64 ((rd x10_1 ((rd_T149 t241 x13_1).f0)) + (wrap64 (t237 * ((rd_T149 t241 x13_1).f1))))))).trans hx256_3; replace hx256_4 := (cell_far (p := ⟨go13, (((rd_T149 t241 x13_1).f0) : Int).toNat, none⟩) (by first | (rw [add_block]; exact hn256_0) | (show (Addr.add _ _).block ≠ _; rw [add_block]; exact hn256_0) | exact hn256_0) (.int .i64 (wrap64 ((rd x10_1 ((rd_T149 t241 x13_1).f0)) + (wrap64 (t237 * ((rd_T149 t241 x13_1).f1))))))).trans hx256_4; replace hx256_5 := (cell_far (p := ⟨go13, (((rd_T149 t241 x13_1).f0) : Int).toNat, none⟩) (by first | (rw [add_block]; exact hn256_0) | (show (Addr.add _ _).block ≠ _; rw [add_block]; exact hn256_0) | exact hn256_0) (.int .i64 (wrap64 ((rd x10_1 ((rd_T149 t241 x13_1).f0)) + (wrap64 (t237 * ((rd_T149 t241 x13_1).f1))))))).trans hx256_5; clear hn256_0; replace p256 := eq_true p256; replace q256 := eq_true q256; have p29 : 0 ≤ (((rd_T149 t241 x13_1).f0) : Int) := of_decide_eq_true tZE; have q29 : (((rd_T149 t241 x13_1).f0) : Int) < ((x10_1.length : Int) : Int) := of_decide_eq_true tZE; replace p29 := eq_true p29; replace q29 := eq_true q29) | (go_at_call 107; (with_reducible refine (spec_l12Qty.calls (wrap64 ((rd x10_1 ((rd_T149 t241 x13_1).f0)) + (wrap64 (t237 * ((rd_T149 t241 x13_1).f1))))) true _ A30.out).mono ?_); rintro e w' ⟨rfl, ⟨nd, rfl⟩⟩))
    (try simp only [← hl10_1])
    go_roundg k1
    case measure => have := HK1.out; omega
    case rel => exact ⟨(y253), (wrap64 (x13_1 + 1)), tZB, H', ⟨by have := HK1.out; omega⟩, ⟨by (try simp only [hl10_1]); (with_reducible repeat (first | apply Kd.R_alloc | apply Kd.R_drewN | apply Kd.R_drew)); exact HQ34.out⟩, ⟨by (try simp only [hl10_1]); (with_reducible repeat (first | apply Kd.R_alloc | apply Kd.R_drewN | apply Kd.R_drew)); exact Kd.R_mono (Kd.R_far (p := ⟨go13, (((rd_T149 t241 x13_1).f0) : Int).toNat, none⟩) (Kd.R_types HO_12.out GG13.out (by decide)) (fun _ hk => hk.2) (.int .i64 (wrap64 ((rd x10_1 ((rd_T149 t241 x13_1).f0)) + (wrap64 (t237 * ((rd_T149 t241 x13_1).f1))))))) (fun _ hk => trivial)⟩, ⟨bZ⟩⟩
   replace c31 := Bool.eq_false_iff.mpr c31
   subst c31
   have H1 : (some ((([] : List Int)), false)) = some (r1, r2) := by rw [if_neg (show ¬ (false = true) by decide)] at H; exact H
   clear H
   have H := H1
   clear H1
   obtain ⟨y259, hy259⟩ : ∃ y_ : List Int, y_ = (([] : List Int)) := ⟨_, rfl⟩
   replace H : (some (y259, false)) = some (r1, r2) := by first | (rw [hy259]; with_reducible exact H) | (have H2_ := (Option.bind_some _ _).symm.trans H; rw [hy259]; with_reducible exact H2_) | (have H2_ := (Option.bind_some _ _).symm.trans H; with_reducible exact H2_) | with_reducible exact H | (rw [hy259]; exact H) | exact H
   have Ny259 := Aside0.mk hy259
   clear hy259
   simp only [Option.some.injEq, Prod.mk.injEq] at H
   obtain ⟨rfl, rfl⟩ := H
   obtain ⟨Ao35, co35, eo35⟩ := Kd.R_slice HO_12.out
   subst eo35
   try go_wp2
   replace HO_10 := aZ (Kd.R_drew HO_10.out)
   replace HO_12 := aZ (Kd.R_drew HO_12.out)
   replace HB := aZ (below_drew1 HB.out)
   have p249 : 0 ≤ (x13_1 : Int) := of_decide_eq_true tZE
   have q249 : x13_1 < (t241.length : Int) := of_decide_eq_true tZE
   obtain ⟨ad249, e249, hx249_0, hx249_1, hx249_2, hx249_3, hx249_4, hx249_5⟩ := at_T149 (Kd.R_reads' HO_12.out).2.2 x13_1 p249 q249
   cases e249
   replace p249 := eq_true p249
   replace q249 := eq_true q249
   have p250 : 0 ≤ (x13_1 : Int) := of_decide_eq_true tZE
   have q250 : x13_1 < (t241.length : Int) := of_decide_eq_true tZE
   obtain ⟨ad250, e250, hx250_0, hx250_1, hx250_2, hx250_3, hx250_4, hx250_5⟩ := at_T149 (Kd.R_reads' HO_12.out).2.2 x13_1 p250 q250
   obtain rfl : ad249 = ad250 := (by injection e250)
   replace p250 := eq_true p250
   replace q250 := eq_true q250
   have p251 : 0 ≤ (((rd_T149 t241 x13_1).f0) : Int) := of_decide_eq_true tZE
   have q251 : ((rd_T149 t241 x13_1).f0) < (x10_1.length : Int) := of_decide_eq_true tZE
   obtain ⟨ad251, e251, hx251_0⟩ := Kd.at_int (Kd.R_reads' HO_10.out).2.2 ((rd_T149 t241 x13_1).f0) p251 q251
   obtain rfl : (⟨go13, 0, none⟩ : Addr) = ad251 := (by injection e251)
   (first | simp only [add_plain] at hx251_0 | simp only [add_at] at hx251_0 | simp only [Addr.add, Nat.zero_add] at hx251_0 | skip)
   replace p251 := eq_true p251
   replace q251 := eq_true q251
   have p252 : 0 ≤ (x13_1 : Int) := of_decide_eq_true tZE
   have q252 : x13_1 < (t241.length : Int) := of_decide_eq_true tZE
   obtain ⟨ad252, e252, hx252_0, hx252_1, hx252_2, hx252_3, hx252_4, hx252_5⟩ := at_T149 (Kd.R_reads' HO_12.out).2.2 x13_1 p252 q252
   obtain rfl : ad249 = ad252 := (by injection e252)
   replace p252 := eq_true p252
   replace q252 := eq_true q252
   have p26 : 0 ≤ (((rd_T149 t241 x13_1).f0) : Int) := of_decide_eq_true tZE
   have q26 : (((rd_T149 t241 x13_1).f0) : Int) < ((x10_1.length : Int) : Int) := of_decide_eq_true tZE
   obtain ⟨hx26_0, hf26_0⟩ := Kd.R_celln 0 HO_10.out (((rd_T149 t241 x13_1).f0) : Int) p26 q26
   replace p26 := eq_true p26
   replace q26 := eq_true q26
   (try clear GG13)
   obtain ⟨cl37_, hgg37_⟩ := Kd.R_typed (HO_10.out) go13 rfl
   have GG13 := Aside0.mk hgg37_
   clear hgg37_
   have HP37 := Kd.R_putn HO_10.out (((rd_T149 t241 x13_1).f0) : Int) (wrap64 ((rd x10_1 ((rd_T149 t241 x13_1).f0)) + (wrap64 (t237 * ((rd_T149 t241 x13_1).f1)))))
   rw [← Ny253.out] at HP37
   have HQ37 := Aside0.mk HP37
   clear HP37
   refine start_ (n := 24) (S := fun w' => w'.cell? (ad249.add ((x13_1).toNat * 6)) = some (.int .i64 ((rd_T149 t241 x13_1).f0)) ∧ w'.cell? ⟨(ad249.add ((x13_1).toNat * 6)).block, (ad249.add ((x13_1).toNat * 6)).off + 1, none⟩ = some (.int .i64 ((rd_T149 t241 x13_1).f1)) ∧ w'.cell? ⟨(ad249.add ((x13_1).toNat * 6)).block, (ad249.add ((x13_1).toNat * 6)).off + 2, none⟩ = some (.int .i64 ((rd_T149 t241 x13_1).f2)) ∧ w'.cell? ⟨(ad249.add ((x13_1).toNat * 6)).block, (ad249.add ((x13_1).toNat * 6)).off + 3, none⟩ = some (.int .i64 ((rd_T149 t241 x13_1).f3)) ∧ w'.cell? ⟨(ad249.add ((x13_1).toNat * 6)).block, (ad249.add ((x13_1).toNat * 6)).off + 4, none⟩ = some (.int .i64 ((rd_T149 t241 x13_1).f4)) ∧ w'.cell? ⟨(ad249.add ((x13_1).toNat * 6)).block, (ad249.add ((x13_1).toNat * 6)).off + 5, none⟩ = some (.int .i64 ((rd_T149 t241 x13_1).f5)) ∧ w'.cell? (ad249.add ((x13_1).toNat * 6)) = some (.int .i64 ((rd_T149 t241 x13_1).f0)) ∧ w'.cell? ⟨(ad249.add ((x13_1).toNat * 6)).block, (ad249.add ((x13_1).toNat * 6)).off + 1, none⟩ = some (.int .i64 ((rd_T149 t241 x13_1).f1)) ∧ w'.cell? ⟨(ad249.add ((x13_1).toNat * 6)).block, (ad249.add ((x13_1).toNat * 6)).off + 2, none⟩ = some (.int .i64 ((rd_T149 t241 x13_1).f2)) ∧ w'.cell? ⟨(ad249.add ((x13_1).toNat * 6)).block, (ad249.add ((x13_1).toNat * 6)).off + 3, none⟩ = some (.int .i64 ((rd_T149 t241 x13_1).f3)) ∧ w'.cell? ⟨(ad249.add ((x13_1).toNat * 6)).block, (ad249.add ((x13_1).toNat * 6)).off + 4, none⟩ = some (.int .i64 ((rd_T149 t241 x13_1).f4)) ∧ w'.cell? ⟨(ad249.add ((x13_1).toNat * 6)).block, (ad249.add ((x13_1).toNat * 6)).off + 5, none⟩ = some (.int .i64 ((rd_T149 t241 x13_1).f5)) ∧ w'.cell? ⟨go13, (((rd_T149 t241 x13_1).f0)).toNat, none⟩ = some (.int .i64 (rd x10_1 ((rd_T149 t241 x13_1).f0))) ∧ w'.cell? (ad249.add ((x13_1).toNat * 6)) = some (.int .i64 ((rd_T149 t241 x13_1).f0)) ∧ w'.cell? ⟨(ad249.add ((x13_1).toNat * 6)).block, (ad249.add ((x13_1).toNat * 6)).off + 1, none⟩ = some (.int .i64 ((rd_T149 t241 x13_1).f1)) ∧ w'.cell? ⟨(ad249.add ((x13_1).toNat * 6)).block, (ad249.add ((x13_1).toNat * 6)).off + 2, none⟩ = some (.int .i64 ((rd_T149 t241 x13_1).f2)) ∧ w'.cell? ⟨(ad249.add ((x13_1).toNat * 6)).block, (ad249.add ((x13_1).toNat * 6)).off + 3, none⟩ = some (.int .i64 ((rd_T149 t241 x13_1).f3)) ∧ w'.cell? ⟨(ad249.add ((x13_1).toNat * 6)).block, (ad249.add ((x13_1).toNat * 6)).off + 4, none⟩ = some (.int .i64 ((rd_T149 t241 x13_1).f4)) ∧ w'.cell? ⟨(ad249.add ((x13_1).toNat * 6)).block, (ad249.add ((x13_1).toNat * 6)).off + 5, none⟩ = some (.int .i64 ((rd_T149 t241 x13_1).f5))) (ds := [23]) L0' kZ rfl rfl ⟨hx249_0, hx249_1, hx249_2, hx249_3, hx249_4, hx249_5, hx250_0, hx250_1, hx250_2, hx250_3, hx250_4, hx250_5, hx251_0, hx252_0, hx252_1, hx252_2, hx252_3, hx252_4, hx252_5⟩ (fun hHeld => ?_); refine with_tabW spec_Output.tab10 spec_Output.bits10 (fun HT_ HW_ => ?_)
   generalize wr.drew = w36 at HO_10 HO_12 HB GG13 HQ37 hf26_0 hx249_0 hx249_1 hx249_2 hx249_3 hx249_4 hx249_5 hx250_0 hx250_1 hx250_2 hx250_3 hx250_4 hx250_5 hx251_0 hx252_0 hx252_1 hx252_2 hx252_3 hx252_4 hx252_5 hx26_0 hHeld ⊢
   refine pure_ (i := 0) (N := some 53) (v := ?_) (a' := ?_) L1' rfl rfl (any_of HT_.out kZ) (fun _ _ _ h => h) (Or.inl ⟨by rfl, ?_⟩) ?_ ?_
   rotate_left
   ·intro w'
    go_simp
    with_reducible rfl
   rotate_left
   ·simp only [Act.put, sZ1, sZ2, sZ3, i64_w, i32_w]
    rfl
   refine pure_ (i := 1) (N := some 54) (v := ?_) (a' := ?_) L2' rfl rfl (any_of HT_.out kZ) (fun _ _ _ h => h) (Or.inl ⟨by rfl, ?_⟩) ?_ ?_
   rotate_left
   ·intro w'
    go_simp
    with_reducible rfl
   rotate_left
   ·simp only [Act.put, sZ1, sZ2, sZ3, i64_w, i32_w]
    rfl
   refine pure_ (i := 2) (N := some 55) (v := ?_) (a' := ?_) L3' rfl rfl (any_of HT_.out kZ) (fun _ _ _ h => h) (Or.inl ⟨by rfl, ?_⟩) ?_ ?_
   rotate_left
   ·intro w'
    go_simp
    with_reducible rfl
   rotate_left
   ·simp only [Act.put, sZ1, sZ2, sZ3, i64_w, i32_w]
    rfl
   refine pure_ (i := 3) (N := some 56) (v := ?_) (a' := ?_) L4' rfl rfl (any_of HT_.out kZ) (fun _ _ _ h => h) (Or.inl ⟨by rfl, ?_⟩) ?_ ?_
   rotate_left
   ·intro w'
    go_simp
    with_reducible rfl
   rotate_left
   ·simp only [Act.put, sZ1, sZ2, sZ3, i64_w, i32_w]
    rfl
   refine pure_ (i := 4) (N := some 57) (v := ?_) (a' := ?_) L5' rfl rfl (any_of HT_.out kZ) (fun _ _ _ h => h) (Or.inl ⟨by rfl, ?_⟩) ?_ ?_
   rotate_left
   ·intro w'
    go_simp
    with_reducible rfl
   rotate_left
   ·simp only [Act.put, sZ1, sZ2, sZ3, i64_w, i32_w]
    rfl
   refine pure_ (i := 6) (N := some 59) (v := ?_) (a' := ?_) L6' rfl rfl (any_of HT_.out kZ) (fun _ _ _ h => h) (Or.inl ⟨by rfl, ?_⟩) ?_ ?_
   rotate_left
   ·intro w'
    go_simp
    with_reducible rfl
   rotate_left
   ·simp only [Act.put, sZ1, sZ2, sZ3, i64_w, i32_w]
    rfl
   refine pure_ (i := 7) (N := some 60) (v := ?_) (a' := ?_) L7' rfl rfl (any_of HT_.out kZ) (fun _ _ _ h => h) (Or.inl ⟨by rfl, ?_⟩) ?_ ?_
   rotate_left
   ·intro w'
    go_simp
    with_reducible rfl
   rotate_left
   ·simp only [Act.put, sZ1, sZ2, sZ3, i64_w, i32_w]
    rfl
   refine pure_ (i := 8) (N := some 61) (v := ?_) (a' := ?_) L8' rfl rfl (any_of HT_.out kZ) (fun _ _ _ h => h) (Or.inl ⟨by rfl, ?_⟩) ?_ ?_
   rotate_left
   ·intro w'
    go_simp
    with_reducible rfl
   rotate_left
   ·simp only [Act.put, sZ1, sZ2, sZ3, i64_w, i32_w]
    rfl
   refine pure_ (i := 9) (N := some 62) (v := ?_) (a' := ?_) L9' rfl rfl (any_of HT_.out kZ) (fun _ _ _ h => h) (Or.inl ⟨by rfl, ?_⟩) ?_ ?_
   rotate_left
   ·intro w'
    go_simp
    with_reducible rfl
   rotate_left
   ·simp only [Act.put, sZ1, sZ2, sZ3, i64_w, i32_w]
    rfl
   refine pure_ (i := 10) (N := some 63) (v := ?_) (a' := ?_) L10' rfl rfl (any_of HT_.out kZ) (fun _ _ _ h => h) (Or.inl ⟨by rfl, ?_⟩) ?_ ?_
   rotate_left
   ·intro w'
    go_simp
    with_reducible rfl
   rotate_left
   ·simp only [Act.put, sZ1, sZ2, sZ3, i64_w, i32_w]
    rfl
   refine pure_ (i := 14) (N := some 67) (v := ?_) (a' := ?_) L11' rfl rfl (any_of HT_.out kZ) (fun _ _ _ h => h) (Or.inl ⟨by rfl, ?_⟩) ?_ ?_
   rotate_left
   ·intro w'
    go_simp
    with_reducible rfl
   rotate_left
   ·simp only [Act.put, sZ1, sZ2, sZ3, i64_w, i32_w]
    rfl
   refine pure_ (i := 15) (N := some 68) (v := ?_) (a' := ?_) L12' rfl rfl (any_of HT_.out kZ) (fun _ _ _ h => h) (Or.inl ⟨by rfl, ?_⟩) ?_ ?_
   rotate_left
   ·intro w'
    go_simp
    with_reducible rfl
   rotate_left
   ·simp only [Act.put, sZ1, sZ2, sZ3, i64_w, i32_w]
    rfl
   refine pure_ (i := 16) (N := some 69) (v := ?_) (a' := ?_) L13' rfl rfl (any_of HT_.out kZ) (fun _ _ _ h => h) (Or.inl ⟨by rfl, ?_⟩) ?_ ?_
   rotate_left
   ·intro w'
    go_simp
    with_reducible rfl
   rotate_left
   ·simp only [Act.put, sZ1, sZ2, sZ3, i64_w, i32_w]
    rfl
   refine pure_ (i := 17) (N := some 70) (v := ?_) (a' := ?_) L14' rfl rfl (any_of HT_.out kZ) (fun _ _ _ h => h) (Or.inl ⟨by rfl, ?_⟩) ?_ ?_
   rotate_left
   ·intro w'
    go_simp
    with_reducible rfl
   rotate_left
   ·simp only [Act.put, sZ1, sZ2, sZ3, i64_w, i32_w]
    rfl
   refine pure_ (i := 18) (N := some 71) (v := ?_) (a' := ?_) L15' rfl rfl (any_of HT_.out kZ) (fun _ _ _ h => h) (Or.inl ⟨by rfl, ?_⟩) ?_ ?_
   rotate_left
   ·intro w'
    go_simp
    with_reducible rfl
   rotate_left
   ·simp only [Act.put, sZ1, sZ2, sZ3, i64_w, i32_w]
    rfl
   refine take_ (i := 5) (N := some 58) (v := ?_) (a' := ?_) L16' rfl rfl (take_ofW HT_.out HW_.out kZ) (fun _ _ _ h => h) (Or.inl ⟨by rfl, ?_⟩) hHeld ?_ ?_
   rotate_left
   ·rintro w' ⟨s0, s1, s2, s3, s4, s5, s6, s7, s8, s9, s10, s11, s12, s13, s14, s15, s16, s17, s18⟩
    go_simp
    with_reducible rfl
   rotate_left
   ·simp only [Act.put, sZ1, sZ2, sZ3, i64_w, i32_w]
    rfl
   refine take_ (i := 11) (N := some 64) (v := ?_) (a' := ?_) L17' rfl rfl (take_ofW HT_.out HW_.out kZ) (fun _ _ _ h => h) (Or.inl ⟨by rfl, ?_⟩) hHeld ?_ ?_
   rotate_left
   ·rintro w' ⟨s0, s1, s2, s3, s4, s5, s6, s7, s8, s9, s10, s11, s12, s13, s14, s15, s16, s17, s18⟩
    go_simp
    with_reducible rfl
   rotate_left
   ·simp only [Act.put, sZ1, sZ2, sZ3, i64_w, i32_w]
    rfl
   refine pure_ (i := 12) (N := some 65) (v := ?_) (a' := ?_) L18' rfl rfl (any_of HT_.out kZ) (fun _ _ _ h => h) (Or.inl ⟨by rfl, ?_⟩) ?_ ?_
   rotate_left
   ·intro w'
    go_simp
    with_reducible rfl
   rotate_left
   ·simp only [Act.put, sZ1, sZ2, sZ3, i64_w, i32_w]
    rfl
   refine take_ (i := 13) (N := some 66) (v := ?_) (a' := ?_) L19' rfl rfl (take_ofW HT_.out HW_.out kZ) (fun _ _ _ h => h) (Or.inl ⟨by rfl, ?_⟩) hHeld ?_ ?_
   rotate_left
   ·rintro w' ⟨s0, s1, s2, s3, s4, s5, s6, s7, s8, s9, s10, s11, s12, s13, s14, s15, s16, s17, s18⟩
    go_simp
    with_reducible rfl
   rotate_left
   ·simp only [Act.put, sZ1, sZ2, sZ3, i64_w, i32_w]
    rfl
   refine take_ (i := 19) (N := some 72) (v := ?_) (a' := ?_) L20' rfl rfl (take_ofW HT_.out HW_.out kZ) (fun _ _ _ h => h) (Or.inl ⟨by rfl, ?_⟩) hHeld ?_ ?_
   rotate_left
   ·rintro w' ⟨s0, s1, s2, s3, s4, s5, s6, s7, s8, s9, s10, s11, s12, s13, s14, s15, s16, s17, s18⟩
    go_simp
    with_reducible rfl
   rotate_left
   ·simp only [Act.put, sZ1, sZ2, sZ3, i64_w, i32_w]
    rfl
   refine pure_ (i := 20) (N := some 73) (v := ?_) (a' := ?_) L21' rfl rfl (any_of HT_.out kZ) (fun _ _ _ h => h) (Or.inl ⟨by rfl, ?_⟩) ?_ ?_
   rotate_left
   ·intro w'
    go_simp
    with_reducible rfl
   rotate_left
   ·simp only [Act.put, sZ1, sZ2, sZ3, i64_w, i32_w]
    rfl
   refine pure_ (i := 21) (N := some 74) (v := ?_) (a' := ?_) L22' rfl rfl (any_of HT_.out kZ) (fun _ _ _ h => h) (Or.inl ⟨by rfl, ?_⟩) ?_ ?_
   rotate_left
   ·intro w'
    go_simp
    with_reducible rfl
   rotate_left
   ·simp only [Act.put, sZ1, sZ2, sZ3, i64_w, i32_w]
    rfl
   refine pure_ (i := 22) (N := some 75) (v := ?_) (a' := ?_) L23' rfl rfl (any_of HT_.out kZ) (fun _ _ _ h => h) (Or.inl ⟨by rfl, ?_⟩) ?_ ?_
   rotate_left
   ·intro w'
    go_simp
    with_reducible rfl
   rotate_left
   ·simp only [Act.put, sZ1, sZ2, sZ3, i64_w, i32_w]
    rfl
   refine last_ (i := 23) (N := none) L24' rfl rfl (one_of HT_.out kZ) (by decide) (fun K hK => ?_)
   refine skip_ (w1 := ?_) (by rfl) rfl ?_ ?_
   rotate_left
   ·go_simp
    rfl
   refine hK.out _ _ ?_
   clear hK K
   refine done_ (done_of HT_.out kZ) ?_
   have p254 : 0 ≤ (x13_1 : Int) := of_decide_eq_true tZE
   have q254 : x13_1 < (t241.length : Int) := of_decide_eq_true tZE
   obtain ⟨ad254, e254, hx254_0, hx254_1, hx254_2, hx254_3, hx254_4, hx254_5⟩ := at_T149 (Kd.R_reads' HO_12.out).2.2 x13_1 p254 q254
   obtain rfl : ad249 = ad254 := (by injection e254)
   have hn254_0 : ad249.block ≠ go13 := (fun he_ => by obtain ⟨c_, h_⟩ := Kd.R_typed HO_12.out _ rfl; have h2_ := GG13.out; rw [← he_] at h2_; have h3_ := h_.symm.trans h2_; injection h3_ with h3_; injection h3_ with _ h4_ _; exact absurd h4_ (by decide))
   replace hx254_0 := (cell_far (p := ⟨go13, (((rd_T149 t241 x13_1).f0) : Int).toNat, none⟩) (by first | (rw [add_block]; exact hn254_0) | (show (Addr.add _ _).block ≠ _; rw [add_block]; exact hn254_0) | exact hn254_0) (.int .i64 (wrap64 ((rd x10_1 ((rd_T149 t241 x13_1).f0)) + (wrap64 (t237 * ((rd_T149 t241 x13_1).f1))))))).trans hx254_0
   replace hx254_1 := (cell_far (p := ⟨go13, (((rd_T149 t241 x13_1).f0) : Int).toNat, none⟩) (by first | (rw [add_block]; exact hn254_0) | (show (Addr.add _ _).block ≠ _; rw [add_block]; exact hn254_0) | exact hn254_0) (.int .i64 (wrap64 ((rd x10_1 ((rd_T149 t241 x13_1).f0)) + (wrap64 (t237 * ((rd_T149 t241 x13_1).f1))))))).trans hx254_1
   replace hx254_2 := (cell_far (p := ⟨go13, (((rd_T149 t241 x13_1).f0) : Int).toNat, none⟩) (by first | (rw [add_block]; exact hn254_0) | (show (Addr.add _ _).block ≠ _; rw [add_block]; exact hn254_0) | exact hn254_0) (.int .i64 (wrap64 ((rd x10_1 ((rd_T149 t241 x13_1).f0)) + (wrap64 (t237 * ((rd_T149 t241 x13_1).f1))))))).trans hx254_2
   replace hx254_3 := (cell_far (p := ⟨go13, (((rd_T149 t241 x13_1).f0) : Int).toNat, none⟩) (by first | (rw [add_block]; exact hn254_0) | (show (Addr.add _ _).block ≠ _; rw [add_block]; exact hn254_0) | exact hn254_0) (.int .i64 (wrap64 ((rd x10_1 ((rd_T149 t241 x13_1).f0)) + (wrap64 (t237 * ((rd_T149 t241 x13_1).f1))))))).trans hx254_3
   replace hx254_4 := (cell_far (p := ⟨go13, (((rd_T149 t241 x13_1).f0) : Int).toNat, none⟩) (by first | (rw [add_block]; exact hn254_0) | (show (Addr.add _ _).block ≠ _; rw [add_block]; exact hn254_0) | exact hn254_0) (.int .i64 (wrap64 ((rd x10_1 ((rd_T149 t241 x13_1).f0)) + (wrap64 (t237 * ((rd_T149 t241 x13_1).f1))))))).trans hx254_4
   replace hx254_5 := (cell_far (p := ⟨go13, (((rd_T149 t241 x13_1).f0) : Int).toNat, none⟩) (by first | (rw [add_block]; exact hn254_0) | (show (Addr.add _ _).block ≠ _; rw [add_block]; exact hn254_0) | exact hn254_0) (.int .i64 (wrap64 ((rd x10_1 ((rd_T149 t241 x13_1).f0)) + (wrap64 (t237 * ((rd_T149 t241 x13_1).f1))))))).trans hx254_5
   clear hn254_0
   replace p254 := eq_true p254
   replace q254 := eq_true q254
   try go_wp2_with (first | ((with_reducible refine gate_callee (f := 107) rfl ?_); refine goesL_ (some 83) rfl rfl Try.func107 kZ rfl #[.int .i64 (wrap64 (t237 * ((rd_T149 t241 x13_1).f1)))] rfl tZA ?_; (with_reducible refine (spec_l12Qty.calls (wrap64 (t237 * ((rd_T149 t241 x13_1).f1))) true _ A27.out).mono ?_); rintro e w' ⟨rfl, ⟨nd, rfl⟩⟩; refine ⟨_, rfl, ?_⟩; have p256 : 0 ≤ (x13_1 : Int) := of_decide_eq_true tZE; have q256 : x13_1 < (t241.length : Int) := of_decide_eq_true tZE; obtain ⟨ad256, e256, hx256_0, hx256_1, hx256_2, hx256_3, hx256_4, hx256_5⟩ := at_T149 (Kd.R_reads' HO_12.out).2.2 x13_1 p256 q256; obtain rfl : ad249 = ad256 := (by injection e256); have hn256_0 : ad249.block ≠ go13 := (fun he_ => by obtain ⟨c_, h_⟩ := Kd.R_typed HO_12.out _ rfl; have h2_ := GG13.out; rw [← he_] at h2_; have h3_ := h_.symm.trans h2_; injection h3_ with h3_; injection h3_ with _ h4_ _; exact absurd h4_ (by decide)); replace hx256_0 := (cell_far (p := ⟨go13, (((rd_T149 t241 x13_1).f0) : Int).toNat, none⟩) (by first | (rw [add_block]; exact hn256_0) | (show (Addr.add _ _).block ≠ _; rw [add_block]; exact hn256_0) | exact hn256_0) (.int .i64 (wrap64 ((rd x10_1 ((rd_T149 t241 x13_1).f0)) + (wrap64 (t237 * ((rd_T149 t241 x13_1).f1))))))).trans hx256_0; replace hx256_1 := (cell_far (p := ⟨go13, (((rd_T149 t241 x13_1).f0) : Int).toNat, none⟩) (by first | (rw [add_block]; exact hn256_0) | (show (Addr.add _ _).block ≠ _; rw [add_block]; exact hn256_0) | exact hn256_0) (.int .i64 (wrap64 ((rd x10_1 ((rd_T149 t241 x13_1).f0)) + (wrap64 (t237 * ((rd_T149 t241 x13_1).f1))))))).trans hx256_1; replace hx256_2 := (cell_far (p := ⟨go13, (((rd_T149 t241 x13_1).f0) : Int).toNat, none⟩) (by first | (rw [add_block]; exact hn256_0) | (show (Addr.add _ _).block ≠ _; rw [add_block]; exact hn256_0) | exact hn256_0) (.int .i64 (wrap64 ((rd x10_1 ((rd_T149 t241 x13_1).f0)) + (wrap64 (t237 * ((rd_T149 t241 x13_1).f1))))))).trans hx256_2; replace hx256_3 := (cell_far (p := ⟨go13, (((rd_T149 t241 x13_1).f0) : Int).toNat, none⟩) (by first | (rw [add_block]; exact hn256_0) | (show (Addr.add _ _).block ≠ _; rw [add_block]; exact hn256_0) | exact hn256_0) (.int .i64 (wrap64 ((rd x10_1 ((rd_T149 t241 x13_1).f0)) + (wrap64 (t237 * ((rd_T149 t241 x13_1).f1))))))).trans hx256_3; replace hx256_4 := (cell_far (p := ⟨go13, (((rd_T149 t241 x13_1).f0) : Int).toNat, none⟩) (by first | (rw [add_block]; exact hn256_0) | (show (Addr.add _ _).block ≠ _; rw [add_block]; exact hn256_0) | exact hn256_0) (.int .i64 (wrap64 ((rd x10_1 ((rd_T149 t241 x13_1).f0)) + (wrap64 (t237 * ((rd_T149 t241 x13_1).f1))))))).trans hx256_4; replace hx256_5 := (cell_far (p := ⟨go13, (((rd_T149 t241 x13_1).f0) : Int).toNat, none⟩) (by first | (rw [add_block]; exact hn256_0) | (show (Addr.add _ _).block ≠ _; rw [add_block]; exact hn256_0) | exact hn256_0) (.int .i64 (wrap64 ((rd x10_1 ((rd_T149 t241 x13_1).f0)) + (wrap64 (t237 * ((rd_T149 t241 x13_1).f1))))))).trans hx256_5; clear hn256_0; replace p256 := eq_true p256; replace q256 := eq_true q256; have p29 : 0 ≤ (((rd_T149 t241 x13_1).f0) : Int) := of_decide_eq_true tZE; have q29 : (((rd_T149 t241 x13_1).f0) : Int) < ((x10_1.length : Int) : Int) := of_decide_eq_true tZE; replace p29 := eq_true p29; replace q29 := eq_true q29) | (go_at_call 107; (with_reducible refine (spec_l12Qty.calls (wrap64 ((rd x10_1 ((rd_T149 t241 x13_1).f0)) + (wrap64 (t237 * ((rd_T149 t241 x13_1).f1))))) false _ A30.out).mono ?_); rintro e w' ⟨rfl, ⟨nd, rfl⟩⟩) | ((with_reducible refine gate_dst (N := 97) rfl ?_); refine Kd.R_lit (Kd.int .i64) _ 3 ?hg (N := 97) ?hd (xs := ([] : List Int)) (inner := []) (ok := fun _ => True) (okp := fun _ => True) ?hr ?hp (fun _ hk => hk) trivial (Below.refl _ _) (Nat.le_refl _) (by simp) ?_; (case hd => rfl); (case hg => rfl); (case hr => first | (go_simp; done) | (go_simp; rfl)); (case hp => exact (Reps.none _ _)); intro v260 w38 ho39 hb hg_ hnew_; clear hg_ hnew_; (first | rw [← Ny259.out] at ho39 | (simp only [Int.reduceToNat] at ho39; rw [← Ny259.out] at ho39)); replace HO_10 := aZ (Kd.R_elder' (by exact HQ37.out) (Kd.R_base ho39) hb); replace HO_12 := aZ (Kd.R_below (by (with_reducible repeat (first | apply Kd.R_alloc | apply Kd.R_drewN | apply Kd.R_drew)); exact (Kd.R_mono (Kd.R_far (p := ⟨go13, (((rd_T149 t241 x13_1).f0) : Int).toNat, none⟩) (Kd.R_types HO_12.out GG13.out (by decide)) (fun _ hk => hk.2) (.int .i64 (wrap64 ((rd x10_1 ((rd_T149 t241 x13_1).f0)) + (wrap64 (t237 * ((rd_T149 t241 x13_1).f1))))))) (fun _ h_ => h_.1))) hb); have HO261 := aZ (Kd.R_lower (Kd.R_new' ho39 (Kd.R_lt (by exact HQ37.out))) (below_size bZ)); replace HB := aZ (below_step bZ hb); clear hb ho39))
   go_ret2
   exact ⟨_, tZC, by (with_reducible repeat (first | apply Kd.R_alloc | apply Kd.R_drewN | apply Kd.R_drew)); exact Kd.R_mono HO261.out (fun _ hk => trivial), bZ⟩
end Go.Proofs.Ytjnmfadnkbflfaa.PFnExactOutput
