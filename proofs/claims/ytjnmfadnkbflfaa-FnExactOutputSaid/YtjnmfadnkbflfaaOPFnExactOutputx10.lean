import Derived.Test.YtjnmfadnkbflfaaOPFnExactOutputx0
import Derived.Test.YtjnmfadnkbflfaaOSlimWords
namespace Go.Proofs.Ytjnmfadnkbflfaa.PFnExactOutput
open Go.Proofs.Ytjnmfadnkbflfaa.SlimWords
open Go.RowKit Go.Proofs.YtjnmfadnkbflfaaW.PrintWords Go.Proofs.YtjnmfadnkbflfaaW.PrintLast Go.Proofs.YtjnmfadnkbflfaaW.PrintMore Go.Proofs.Ytjnmfadnkbflfaa.MapWords Go.Proofs.Ytjnmfadnkbflfaa.IterWords Go.Proofs.Ytjnmfadnkbflfaa.MarkWords Go.Proofs.Ytjnmfadnkbflfaa.ArrWords
attribute [local go_sem] ptrOf_slice max2_int min2_int max_two min_two max_three min_three max_four min_four
set_option linter.unusedVariables false
set_option linter.unusedSimpArgs false
private abbrev I' := true
private abbrev O' := false
private abbrev L0' : Array Bool := #[O',O',O',O',O',O',O',O',O',O',O']
private abbrev L1' : Array Bool := #[I',O',O',O',O',O',O',O',O',O',O']
private abbrev L2' : Array Bool := #[I',I',O',O',O',O',O',O',O',O',O']
private abbrev L3' : Array Bool := #[I',I',O',O',O',I',O',O',O',O',O']
private abbrev L4' : Array Bool := #[I',I',O',O',O',I',I',O',O',O',O']
private abbrev L5' : Array Bool := #[I',I',O',O',O',I',I',I',O',O',O']
private abbrev L6' : Array Bool := #[I',I',I',O',O',I',I',I',O',O',O']
private abbrev L7' : Array Bool := #[I',I',I',I',O',I',I',I',O',O',O']
private abbrev L8' : Array Bool := #[I',I',I',I',I',I',I',I',O',O',O']
private abbrev L9' : Array Bool := #[I',I',I',I',I',I',I',I',I',O',O']
private abbrev L10' : Array Bool := #[I',I',I',I',I',I',I',I',I',I',O']
private abbrev L11' : Array Bool := #[I',I',I',I',I',I',I',I',I',I',I']
private abbrev L12' : Array Bool := #[O',O',O',O',O',O',O',O',O',O']
private abbrev L13' : Array Bool := #[I',O',O',O',O',O',O',O',O',O']
private abbrev L14' : Array Bool := #[I',I',O',O',O',O',O',O',O',O']
private abbrev L15' : Array Bool := #[I',I',O',I',O',O',O',O',O',O']
private abbrev L16' : Array Bool := #[I',I',O',I',I',O',O',O',O',O']
private abbrev L17' : Array Bool := #[I',I',O',I',I',I',O',O',O',O']
private abbrev L18' : Array Bool := #[I',I',I',I',I',I',O',O',O',O']
private abbrev L19' : Array Bool := #[I',I',I',I',I',I',I',O',O',O']
private abbrev L20' : Array Bool := #[I',I',I',I',I',I',I',I',O',O']
private abbrev L21' : Array Bool := #[I',I',I',I',I',I',I',I',I',O']
private abbrev L22' : Array Bool := #[I',I',I',I',I',I',I',I',I',I']
mutual
def impl_levels.l0 : Nat → List Int → List (S130) → Int → Int → Option (List Int)
  | 0, _, _, _, _ => none
  | k + 1, x3, x11, x12, x13 => if x13 < x12 then (if 0 ≤ x13 then (if x13 < (x11.length : Int) then (impl_levels.l1 k x3 x13 x11 x12 x13 ((rd_T130 x11 x13).f3) (((rd_T130 x11 x13).f3).length : Int) 0) else (none)) else (none)) else (some x3)
def impl_levels.l1 : Nat → List Int → Int → List (S130) → Int → Int → List (S149) → Int → Int → Option (List Int)
  | 0, _, _, _, _, _, _, _, _ => none
  | k + 1, x3, x4, x11, x12, x13, x19, x20, x21 => if x21 < x20 then (if 0 ≤ x21 then (if x21 < (x19.length : Int) then (if 0 ≤ ((rd_T149 x19 x21).f0) then (if ((rd_T149 x19 x21).f0) < (x3.length : Int) then (if 0 ≤ x4 then (if x4 < (x3.length : Int) then (if (rd x3 ((rd_T149 x19 x21).f0)) < (wrap64 ((rd x3 x4) + 1)) then (impl_levels.l1 k (x3.set (((rd_T149 x19 x21).f0) : Int).toNat (wrap64 ((rd x3 x4) + 1))) x4 x11 x12 x13 x19 x20 (wrap64 (x21 + 1))) else (impl_levels.l1 k x3 x4 x11 x12 x13 x19 x20 (wrap64 (x21 + 1)))) else (none)) else (none)) else (none)) else (none)) else (none)) else (none)) else (impl_levels.l0 k x3 x11 x12 (wrap64 (x13 + 1)))
end
def impl_levels.f (k : Nat) (l0 : List (S130)) : Option (List Int) := if 0 ≤ (l0.length : Int) then (if ((l0.length : Int) : Int).toNat ≤ 35184372088832 then (impl_levels.l0 k (List.replicate ((l0.length : Int) : Int).toNat 0) l0 (l0.length : Int) 0) else (none)) else (none)
theorem impl_levels.mono_l : ∀ k, (∀ y0 y1 y2 y3, LeO (impl_levels.l0 k y0 y1 y2 y3) (impl_levels.l0 (k + 1) y0 y1 y2 y3)) ∧ (∀ y0 y1 y2 y3 y4 y5 y6 y7, LeO (impl_levels.l1 k y0 y1 y2 y3 y4 y5 y6 y7) (impl_levels.l1 (k + 1) y0 y1 y2 y3 y4 y5 y6 y7))
  | 0 => ⟨fun _ _ _ _ r h => by simp [impl_levels.l0] at h, fun _ _ _ _ _ _ _ _ r h => by simp [impl_levels.l1] at h⟩
  | k + 1 => by
    obtain ⟨ih0, ih1⟩ := impl_levels.mono_l k
    refine ⟨?_, ?_⟩
    · intro y0 y1 y2 y3
      unfold impl_levels.l0
      repeat' first
      | (with_reducible exact ih0 _ _ _ _)
      | (with_reducible exact ih1 _ _ _ _ _ _ _ _)
      | (with_reducible exact LeO.refl _)
      | (with_reducible exact LeO.none _)
      | (with_reducible refine LeO.ite ?_ ?_)
      | (with_reducible refine LeO.bind ?_ (fun _ => ?_))
      | exact ih0 _ _ _ _
      | exact ih1 _ _ _ _ _ _ _ _
      | exact LeO.none _
      | refine LeO.ite ?_ ?_
      | refine LeO.bind ?_ (fun _ => ?_)
    · intro y0 y1 y2 y3 y4 y5 y6 y7
      unfold impl_levels.l1
      repeat' first
      | (with_reducible exact ih0 _ _ _ _)
      | (with_reducible exact ih1 _ _ _ _ _ _ _ _)
      | (with_reducible exact LeO.refl _)
      | (with_reducible exact LeO.none _)
      | (with_reducible refine LeO.ite ?_ ?_)
      | (with_reducible refine LeO.bind ?_ (fun _ => ?_))
      | exact ih0 _ _ _ _
      | exact ih1 _ _ _ _ _ _ _ _
      | exact LeO.none _
      | refine LeO.ite ?_ ?_
      | refine LeO.bind ?_ (fun _ => ?_)
theorem impl_levels.mono : ∀ a0 k, LeO (impl_levels.f k a0) (impl_levels.f (k + 1) a0) := by
 intro a0 k
 obtain ⟨ih0, ih1⟩ := impl_levels.mono_l k
 unfold impl_levels.f
 repeat' first
     | (with_reducible exact ih0 _ _ _ _)
     | (with_reducible exact ih1 _ _ _ _ _ _ _ _)
     | (with_reducible exact LeO.refl _)
     | (with_reducible exact LeO.none _)
     | (with_reducible refine LeO.ite ?_ ?_)
     | (with_reducible refine LeO.bind ?_ (fun _ => ?_))
     | exact ih0 _ _ _ _
     | exact ih1 _ _ _ _ _ _ _ _
     | exact LeO.none _
     | refine LeO.ite ?_ ?_
     | refine LeO.bind ?_ (fun _ => ?_)
def impl_levels.T8 : Bool × List (List Nat × List Nat) := (true, [([], []), ([], []), ([1], [1]), ([0, 2], [0, 2]), ([3], [3]), ([], []), ([], []), ([5, 6], [5, 6]), ([7], [7]), ([8], [8]), ([4, 9], [4, 9])])
def impl_levels.B8 : List Nat := [0, 0, 2, 7, 15, 0, 0, 96, 224, 480, 1023]
theorem impl_levels.tab8 : rtab .any (opsOf Try.f92 8) = impl_levels.T8 := by kernel_rfl
theorem impl_levels.bits8 : waitsOk impl_levels.T8.2 impl_levels.B8 = true := by kernel_rfl
def impl_levels.T9 : Bool × List (List Nat × List Nat) := (true, [([], []), ([], []), ([1], [1]), ([], []), ([], []), ([3, 4], [3, 4]), ([5], [5]), ([6], [6]), ([0, 2, 0, 1, 2, 3, 4, 5, 6, 7], [0, 2]), ([8, 7, 0, 1, 2, 3, 4, 5, 6, 7], [7, 8])])
def impl_levels.B9 : List Nat := [0, 0, 2, 0, 0, 24, 56, 120, 255, 511]
theorem impl_levels.tab9 : rtab .any (opsOf Try.f92 9) = impl_levels.T9 := by kernel_rfl
theorem impl_levels.bits9 : waitsOk impl_levels.T9.2 impl_levels.B9 = true := by kernel_rfl
set_option maxHeartbeats 8000000 in
set_option maxRecDepth 100000 in
theorem impl_levels.calls (k : Nat) (A0 : Option Addr) (c0 : Nat) (l0 : List (S130)) (r : List Int) (w : World) (hr0 : Kd.C k130 w A0 l0.length l0) (hc0 : l0.length ≤ c0) (h : impl_levels.f k l0 = some r) :
    Calls Try.prog 92 #[.slice A0 l0.length c0] w fun e w' => ∃ v0_ : Value, e = .returned (v0_) ∧ Kd.R (Kd.int .i64) 3 w' w.heap.size (fun _ => True) v0_ r ∧ Below w.heap.size w w' := by
 have hu130 := Try.underlying130
 have hu149 := Try.underlying149
 have HR0 := Aside0.mk hr0
 have HC0 := Aside0.mk hc0
 clear hr0 hc0
 have HB := aZ (Below.refl w.heap.size w)
 have H : (if 0 ≤ (l0.length : Int) then (if ((l0.length : Int) : Int).toNat ≤ 35184372088832 then (impl_levels.l0 k (List.replicate ((l0.length : Int) : Int).toNat 0) l0 (l0.length : Int) 0) else (none)) else (none)) = some r := h
 clear h
 by_cases c2 : 0 ≤ (l0.length : Int)
 rotate_left
 ·rw [if_neg c2] at H
  exact absurd H (by simp)
 rw [if_pos c2] at H
 have c2b0 := eq_true c2
 have c2b1 := decide_eq_true c2
 clear c2
 by_cases c3 : ((l0.length : Int) : Int).toNat ≤ 35184372088832
 rotate_left
 ·rw [if_neg c3] at H
  exact absurd H (by simp)
 rw [if_pos c3] at H
 have c3b0 := eq_true c3
 have c3b1 := decide_eq_true c3
 clear c3
 obtain ⟨y265, hy265⟩ : ∃ y_ : List Int, y_ = (List.replicate ((l0.length : Int) : Int).toNat 0) := ⟨_, rfl⟩
 replace H : (impl_levels.l0 k y265 l0 (l0.length : Int) 0) = some r := by first | (rw [hy265]; with_reducible exact H) | (have H2_ := (Option.bind_some _ _).symm.trans H; rw [hy265]; with_reducible exact H2_) | (have H2_ := (Option.bind_some _ _).symm.trans H; with_reducible exact H2_) | with_reducible exact H | (rw [hy265]; exact H) | exact H
 have Ny265 := Aside0.mk hy265
 clear hy265
 have H' := Aside0.mk H
 clear H
 go_enter Try.func92, Try.ntmps92
 go_wp2_with (first | ((with_reducible refine gate_dst (N := 10) rfl ?_); refine Kd.R_make (Kd.int .i64) _ 3 rfl (N := 10) rfl 51 _ _ rfl (l0.length : Int) rfl rfl Try.underlying51 (.int .i64 0) 8 info3 rfl (by decide) (by omega) 0 (ok := fun _ => True) (okp := fun _ => True) rfl (fun _ hk => hk) trivial (of_decide_eq_true tZE) (Nat.le_trans (Nat.mul_le_mul_right _ (of_decide_eq_true tZE : (l0.length : Int).toNat ≤ 35184372088832)) (by omega)) (Below.refl _ _) (Nat.le_refl _) ?_; intro v266 w4 ho5 hb hg_ hnew_; clear hg_ hnew_; (first | rw [← Ny265.out] at ho5 | (simp only [Int.reduceToNat] at ho5; rw [← Ny265.out] at ho5)); have HO267 := aZ (Kd.R_lower ho5 (below_size (lZB HB.out))); replace HB := aZ (below_step (lZB HB.out) hb); clear hb ho5))
 go_loopg [13] k (fun kq v13 w' => ∃ (x3_1 : List Int) (x13_1 : Int), v13 = .int .i64 x13_1 ∧ Aside0 (impl_levels.l0 kq x3_1 l0 (l0.length : Int) x13_1 = some r) ∧ Aside0 (kq ≤ k) ∧ Aside0 (Kd.R (Kd.int .i64) 3 w' w.heap.size (fun _ => True) v266 x3_1) ∧ Aside0 (Below w.heap.size w w'))
 case atStart => exact ⟨(y265), (0), tZB, H', ⟨Nat.le_refl _⟩, ⟨lZR HO267.out⟩, ⟨bZ⟩⟩
 case round =>
  clear H'
  try clear c2
  try clear c2b0
  try clear c2b1
  try clear p2
  try clear c3
  try clear c3b0
  try clear c3b1
  obtain ⟨x3_1, x13_1, rfl, HA, HK1, HO_3, HB⟩ := hrel
  cases gk with
  | zero => exact absurd HA.out (by simp [impl_levels.l0])
  | succ k1 =>
   have H := HA.out
   clear HA
   simp only [impl_levels.l0] at H
   by_cases c6 : x13_1 < (l0.length : Int)
   rotate_left
   ·rw [if_neg c6] at H
    have c6b0 := decide_eq_false c6
    clear c6
    obtain rfl := Option.some.inj H
    go_wp2
    go_ret
    exact ⟨_, tZC, lZR HO_3.out, bZ⟩
   rw [if_pos c6] at H
   have c6b0 := decide_eq_true c6
   clear c6
   by_cases c7 : 0 ≤ x13_1
   rotate_left
   ·rw [if_neg c7] at H
    exact absurd H (by simp)
   rw [if_pos c7] at H
   have c7b0 := decide_eq_true c7
   clear c7
   by_cases c8 : x13_1 < (l0.length : Int)
   rotate_left
   ·rw [if_neg c8] at H
    exact absurd H (by simp)
   rw [if_pos c8] at H
   have c8b0 := decide_eq_true c8
   clear c8
   have H' := Aside0.mk H
   clear H
   have p268 : 0 ≤ (x13_1 : Int) := of_decide_eq_true tZE
   have q268 : x13_1 < (l0.length : Int) := of_decide_eq_true tZE
   obtain ⟨ad268, A268_3, c268_3, A268_4, c268_4, e268, hx268_0, hx268_1, hx268_2, hx268_3, hx268_4, hl268_3, hi268_3, hl268_4, hi268_4⟩ := at_T130 HR0.out x13_1 p268 q268
   have hz268_3 := hx268_3
   have hz268_4 := hx268_4
   cases e268
   replace hx268_0 := cZ HB hx268_0
   replace hx268_1 := cZ HB hx268_1
   replace hx268_2 := cZ HB hx268_2
   replace hx268_3 := cZ HB hx268_3
   replace hx268_4 := cZ HB hx268_4
   have HR268_3 := Aside0.mk hi268_3
   have HC268_3 := Aside0.mk hl268_3
   clear hi268_3 hl268_3
   have HR268_4 := Aside0.mk hi268_4
   have HC268_4 := Aside0.mk hl268_4
   clear hi268_4 hl268_4
   replace p268 := eq_true p268
   replace q268 := eq_true q268
   go_wp2_with (first | ((with_reducible refine gate_dst (N := 5) rfl ?_); refine box_event ?hg (N := 5) ?hd (cs := #[.string (⟨#[]⟩ : ByteArray), .int .i64 0, .bool false, .slice none 0 0, .slice none 0 0]) (t := 130) ?hr ?_; (case hd => rfl); (case hg => rfl); (case hr => first | (go_simp; done) | (go_simp; rfl)); intro gb269 hg w9 hbox hb; replace HO_3 := aZ (Kd.R_below (lZR HO_3.out) hb); have BK269 := aZ (hbox); have GW269 := aZ ((by rw [hg]; exact (below_size (lZB HB.out)) : w.heap.size ≤ gb269)); have GE269 := aZ ((by rw [hg]; exact (below_size (lZB HB.out)) : w.heap.size ≤ gb269)); replace HB := aZ (below_step (lZB HB.out) hb); clear hb hbox hg; have hcz10_0 : w9.cell? ⟨gb269, 0, none⟩ = some (.string (⟨#[]⟩ : ByteArray)) := (blk_cell BK269.out 0).trans rfl; have hcz10_1 : w9.cell? ⟨gb269, 1, none⟩ = some (.int .i64 0) := (blk_cell BK269.out 1).trans rfl; have hcz10_2 : w9.cell? ⟨gb269, 2, none⟩ = some (.bool false) := (blk_cell BK269.out 2).trans rfl; have hcz10_3 : w9.cell? ⟨gb269, 3, none⟩ = some (.slice none 0 0) := (blk_cell BK269.out 3).trans rfl; have hcz10_4 : w9.cell? ⟨gb269, 4, none⟩ = some (.slice none 0 0) := (blk_cell BK269.out 4).trans rfl; have hfz10_0 := blk_frozen BK269.out 0; have hfz10_1 := blk_frozen BK269.out 1; have hfz10_2 := blk_frozen BK269.out 2; have hfz10_3 := blk_frozen BK269.out 3; have hfz10_4 := blk_frozen BK269.out 4))
   go_loopg [21] k1 (fun kq v21 w' => ∃ (x3_2 : List Int) (x21_2 : Int), v21 = .int .i64 x21_2 ∧ Aside0 (impl_levels.l1 kq x3_2 x13_1 l0 (l0.length : Int) x13_1 ((rd_T130 l0 x13_1).f3) (((rd_T130 l0 x13_1).f3).length : Int) x21_2 = some r) ∧ Aside0 (kq ≤ k1) ∧ Aside0 (Kd.R (Kd.int .i64) 3 w' w.heap.size (fun _ => True) v266 x3_2) ∧ Aside0 (w'.heap[gb269]? = some (.cells #[.string ((rd_T130 l0 x13_1).f0), .int .i64 ((rd_T130 l0 x13_1).f1), .bool ((rd_T130 l0 x13_1).f2), (.slice A268_3 ((rd_T130 l0 x13_1).f3).length c268_3), (.slice A268_4 ((rd_T130 l0 x13_1).f4).length c268_4)] 130 (0, 0))) ∧ Aside0 (Below w.heap.size w w'))
   case atStart => exact ⟨(x3_1), (0), tZB, H', ⟨Nat.le_refl _⟩, ⟨by (with_reducible repeat (first | apply Kd.R_alloc | apply Kd.R_drewN | apply Kd.R_drew)); exact Kd.R_mono (Kd.R_far (p := ⟨gb269, 4, none⟩) (Kd.R_far (p := ⟨gb269, 3, none⟩) (Kd.R_far (p := ⟨gb269, 2, none⟩) (Kd.R_far (p := ⟨gb269, 1, none⟩) (Kd.R_far (p := ⟨gb269, 0, none⟩) (Kd.R_types HO_3.out BK269.out (by decide)) (fun _ hk => hk.2) (.string ((rd_T130 l0 x13_1).f0))) (fun _ hk => hk.2) (.int .i64 ((rd_T130 l0 x13_1).f1))) (fun _ hk => hk.2) (.bool ((rd_T130 l0 x13_1).f2))) (fun _ hk => hk.2) (.slice A268_3 ((rd_T130 l0 x13_1).f3).length c268_3)) (fun _ hk => hk.2) (.slice A268_4 ((rd_T130 l0 x13_1).f4).length c268_4)) (fun _ hk => trivial)⟩, ⟨by (with_reducible repeat (first | refine blk_drewN ?_ _ | refine blk_drew ?_ | refine blk_alloc ?_ _)); refine blk_put (cs := #[.string ((rd_T130 l0 x13_1).f0), .int .i64 ((rd_T130 l0 x13_1).f1), .bool ((rd_T130 l0 x13_1).f2), .slice A268_3 ((rd_T130 l0 x13_1).f3).length c268_3, .slice none 0 0]) ?_ 4 _ rfl; (with_reducible repeat (first | refine blk_drewN ?_ _ | refine blk_drew ?_ | refine blk_alloc ?_ _)); refine blk_put (cs := #[.string ((rd_T130 l0 x13_1).f0), .int .i64 ((rd_T130 l0 x13_1).f1), .bool ((rd_T130 l0 x13_1).f2), .slice none 0 0, .slice none 0 0]) ?_ 3 _ rfl; (with_reducible repeat (first | refine blk_drewN ?_ _ | refine blk_drew ?_ | refine blk_alloc ?_ _)); refine blk_put (cs := #[.string ((rd_T130 l0 x13_1).f0), .int .i64 ((rd_T130 l0 x13_1).f1), .bool false, .slice none 0 0, .slice none 0 0]) ?_ 2 _ rfl; (with_reducible repeat (first | refine blk_drewN ?_ _ | refine blk_drew ?_ | refine blk_alloc ?_ _)); refine blk_put (cs := #[.string ((rd_T130 l0 x13_1).f0), .int .i64 0, .bool false, .slice none 0 0, .slice none 0 0]) ?_ 1 _ rfl; (with_reducible repeat (first | refine blk_drewN ?_ _ | refine blk_drew ?_ | refine blk_alloc ?_ _)); refine blk_put (cs := #[.string (⟨#[]⟩ : ByteArray), .int .i64 0, .bool false, .slice none 0 0, .slice none 0 0]) ?_ 0 _ rfl; (with_reducible repeat (first | refine blk_drewN ?_ _ | refine blk_drew ?_ | refine blk_alloc ?_ _)); exact BK269.out⟩, ⟨bZ⟩⟩
   case round =>
    clear H'
    try clear c2
    try clear c2b0
    try clear c2b1
    try clear p2
    try clear q2
    try clear hx2
    try clear c3
    try clear c3b0
    try clear c3b1
    try clear c6
    try clear c6b0
    try clear c7
    try clear c7b0
    try clear c8
    try clear c8b0
    try clear c9
    try clear hcz10_0
    try clear hcz10_1
    try clear hcz10_2
    try clear hcz10_3
    try clear hcz10_4
    try clear hfz10_0
    try clear hfz10_1
    try clear hfz10_2
    try clear hfz10_3
    try clear hfz10_4
    try clear hx268_0
    try clear hx268_1
    try clear hx268_2
    try clear hx268_3
    try clear hx268_4
    try clear p2
    try clear p268
    try clear q268
    obtain ⟨x3_2, x21_2, rfl, HA, HK2, HO_3, BK269, HB⟩ := hrel
    cases gk with
    | zero => exact absurd HA.out (by simp [impl_levels.l1])
    | succ k2 =>
     have H := HA.out
     clear HA
     simp only [impl_levels.l1] at H
     by_cases c11 : x21_2 < (((rd_T130 l0 x13_1).f3).length : Int)
     rotate_left
     ·rw [if_neg c11] at H
      have c11b0 := decide_eq_false c11
      clear c11
      have H' := Aside0.mk H
      clear H
      go_wp2
      go_roundg k2
      case measure => have := HK1.out; have := HK2.out; omega
      case rel => exact ⟨(x3_2), (wrap64 (x13_1 + 1)), tZB, H', ⟨by have := HK1.out; have := HK2.out; omega⟩, ⟨lZR HO_3.out⟩, ⟨bZ⟩⟩
     rw [if_pos c11] at H
     have c11b0 := decide_eq_true c11
     clear c11
     by_cases c12 : 0 ≤ x21_2
     rotate_left
     ·rw [if_neg c12] at H
      exact absurd H (by simp)
     rw [if_pos c12] at H
     have c12b0 := decide_eq_true c12
     clear c12
     by_cases c13 : x21_2 < (((rd_T130 l0 x13_1).f3).length : Int)
     rotate_left
     ·rw [if_neg c13] at H
      exact absurd H (by simp)
     rw [if_pos c13] at H
     have c13b0 := decide_eq_true c13
     clear c13
     by_cases c14 : 0 ≤ ((rd_T149 ((rd_T130 l0 x13_1).f3) x21_2).f0)
     rotate_left
     ·rw [if_neg c14] at H
      exact absurd H (by simp)
     rw [if_pos c14] at H
     have c14b0 := decide_eq_true c14
     clear c14
     by_cases c15 : ((rd_T149 ((rd_T130 l0 x13_1).f3) x21_2).f0) < (x3_2.length : Int)
     rotate_left
     ·rw [if_neg c15] at H
      exact absurd H (by simp)
     rw [if_pos c15] at H
     have c15b0 := decide_eq_true c15
     clear c15
     by_cases c16 : 0 ≤ x13_1
     rotate_left
     ·rw [if_neg c16] at H
      exact absurd H (by simp)
     rw [if_pos c16] at H
     have c16b0 := decide_eq_true c16
     clear c16
     by_cases c17 : x13_1 < (x3_2.length : Int)
     rotate_left
     ·rw [if_neg c17] at H
      exact absurd H (by simp)
     rw [if_pos c17] at H
     have c17b0 := decide_eq_true c17
     clear c17
     by_cases c18 : (rd x3_2 ((rd_T149 ((rd_T130 l0 x13_1).f3) x21_2).f0)) < (wrap64 ((rd x3_2 x13_1) + 1))
     rotate_left
     ·rw [if_neg c18] at H
      have c18b0 := decide_eq_false c18
      clear c18
      have H' := Aside0.mk H
      clear H
      have p270 : 0 ≤ (x21_2 : Int) := of_decide_eq_true tZE
      have q270 : x21_2 < (((rd_T130 l0 x13_1).f3).length : Int) := of_decide_eq_true tZE
      obtain ⟨ad270, e270, hx270_0, hx270_1, hx270_2, hx270_3, hx270_4, hx270_5⟩ := at_T149 HR268_3.out x21_2 p270 q270
      cases e270
      replace hx270_0 := cZ HB hx270_0
      replace hx270_1 := cZ HB hx270_1
      replace hx270_2 := cZ HB hx270_2
      replace hx270_3 := cZ HB hx270_3
      replace hx270_4 := cZ HB hx270_4
      replace hx270_5 := cZ HB hx270_5
      replace p270 := eq_true p270
      replace q270 := eq_true q270
      try go_wp2_with (first | ((with_reducible refine gate_dst (N := 7) rfl ?_); refine box_event ?hg (N := 7) ?hd (cs := #[.int .i64 0, .int .i64 0, .int .i64 0, .int .i64 0, .int .i64 0, .int .i64 0]) (t := 149) ?hr ?_; (case hd => rfl); (case hg => rfl); (case hr => first | (go_simp; done) | (go_simp; rfl)); intro gb271 hg w28 hbox hb; replace HO_3 := aZ (Kd.R_below (lZR HO_3.out) hb); have BK271 := aZ (hbox); have GW271 := aZ ((by rw [hg]; exact (below_size bZ) : w.heap.size ≤ gb271)); have GE271 := aZ ((by rw [hg]; exact (below_size bZ) : w.heap.size ≤ gb271)); replace HB := aZ (below_step bZ hb); have NB269_271 := aZ ((by rw [hg]; exact Nat.ne_of_lt (blk_lt (bkZ BK269.out)) : gb269 ≠ gb271)); have NB271_269 := aZ ((by rw [hg]; exact Nat.ne_of_gt (blk_lt (bkZ BK269.out)) : gb271 ≠ gb269)); replace BK269 := aZ (blk_below (bkZ BK269.out) hb); clear hb hbox hg; have hnb29 := NB271_269.out; have hnc29 := NB269_271.out; have hcz30_0 : w28.cell? ⟨gb271, 0, none⟩ = some (.int .i64 0) := (blk_cell BK271.out 0).trans rfl; have hcz30_1 : w28.cell? ⟨gb271, 1, none⟩ = some (.int .i64 0) := (blk_cell BK271.out 1).trans rfl; have hcz30_2 : w28.cell? ⟨gb271, 2, none⟩ = some (.int .i64 0) := (blk_cell BK271.out 2).trans rfl; have hcz30_3 : w28.cell? ⟨gb271, 3, none⟩ = some (.int .i64 0) := (blk_cell BK271.out 3).trans rfl; have hcz30_4 : w28.cell? ⟨gb271, 4, none⟩ = some (.int .i64 0) := (blk_cell BK271.out 4).trans rfl; have hcz30_5 : w28.cell? ⟨gb271, 5, none⟩ = some (.int .i64 0) := (blk_cell BK271.out 5).trans rfl; have hfz30_0 := blk_frozen BK271.out 0; have hfz30_1 := blk_frozen BK271.out 1; have hfz30_2 := blk_frozen BK271.out 2; have hfz30_3 := blk_frozen BK271.out 3; have hfz30_4 := blk_frozen BK271.out 4; have hfz30_5 := blk_frozen BK271.out 5))
      have n0_ : Aside0 (Kd.R (Kd.int .i64) 3 ((((((w28.setCell ⟨gb271, 0, none⟩ (.int .i64 ((rd_T149 ((rd_T130 l0 x13_1).f3) x21_2).f0))).setCell ⟨gb271, 1, none⟩ (.int .i64 ((rd_T149 ((rd_T130 l0 x13_1).f3) x21_2).f1))).setCell ⟨gb271, 2, none⟩ (.int .i64 ((rd_T149 ((rd_T130 l0 x13_1).f3) x21_2).f2))).setCell ⟨gb271, 3, none⟩ (.int .i64 ((rd_T149 ((rd_T130 l0 x13_1).f3) x21_2).f3))).setCell ⟨gb271, 4, none⟩ (.int .i64 ((rd_T149 ((rd_T130 l0 x13_1).f3) x21_2).f4))).setCell ⟨gb271, 5, none⟩ (.int .i64 ((rd_T149 ((rd_T130 l0 x13_1).f3) x21_2).f5))) w.heap.size (fun _ => True) v266 x3_2) := ⟨by (with_reducible repeat (first | apply Kd.R_alloc | apply Kd.R_drewN | apply Kd.R_drew)); exact Kd.R_mono (Kd.R_far (p := ⟨gb271, 5, none⟩) (Kd.R_far (p := ⟨gb271, 4, none⟩) (Kd.R_far (p := ⟨gb271, 3, none⟩) (Kd.R_far (p := ⟨gb271, 2, none⟩) (Kd.R_far (p := ⟨gb271, 1, none⟩) (Kd.R_far (p := ⟨gb271, 0, none⟩) (Kd.R_types HO_3.out BK271.out (by decide)) (fun _ hk => hk.2) (.int .i64 ((rd_T149 ((rd_T130 l0 x13_1).f3) x21_2).f0))) (fun _ hk => hk.2) (.int .i64 ((rd_T149 ((rd_T130 l0 x13_1).f3) x21_2).f1))) (fun _ hk => hk.2) (.int .i64 ((rd_T149 ((rd_T130 l0 x13_1).f3) x21_2).f2))) (fun _ hk => hk.2) (.int .i64 ((rd_T149 ((rd_T130 l0 x13_1).f3) x21_2).f3))) (fun _ hk => hk.2) (.int .i64 ((rd_T149 ((rd_T130 l0 x13_1).f3) x21_2).f4))) (fun _ hk => hk.2) (.int .i64 ((rd_T149 ((rd_T130 l0 x13_1).f3) x21_2).f5))) (fun _ hk => trivial)⟩
      have n1_ : Aside0 (((((((w28.setCell ⟨gb271, 0, none⟩ (.int .i64 ((rd_T149 ((rd_T130 l0 x13_1).f3) x21_2).f0))).setCell ⟨gb271, 1, none⟩ (.int .i64 ((rd_T149 ((rd_T130 l0 x13_1).f3) x21_2).f1))).setCell ⟨gb271, 2, none⟩ (.int .i64 ((rd_T149 ((rd_T130 l0 x13_1).f3) x21_2).f2))).setCell ⟨gb271, 3, none⟩ (.int .i64 ((rd_T149 ((rd_T130 l0 x13_1).f3) x21_2).f3))).setCell ⟨gb271, 4, none⟩ (.int .i64 ((rd_T149 ((rd_T130 l0 x13_1).f3) x21_2).f4))).setCell ⟨gb271, 5, none⟩ (.int .i64 ((rd_T149 ((rd_T130 l0 x13_1).f3) x21_2).f5))).heap[gb269]? = some (.cells #[.string ((rd_T130 l0 x13_1).f0), .int .i64 ((rd_T130 l0 x13_1).f1), .bool ((rd_T130 l0 x13_1).f2), .slice (some ad270) ((rd_T130 l0 x13_1).f3).length c268_3, .slice A268_4 ((rd_T130 l0 x13_1).f4).length c268_4] 130 (0, 0))) := ⟨by (with_reducible repeat (first | refine blk_drewN ?_ _ | refine blk_drew ?_ | refine blk_alloc ?_ _)); refine blk_far ?_ NB269_271.out _; (with_reducible repeat (first | refine blk_drewN ?_ _ | refine blk_drew ?_ | refine blk_alloc ?_ _)); refine blk_far ?_ NB269_271.out _; (with_reducible repeat (first | refine blk_drewN ?_ _ | refine blk_drew ?_ | refine blk_alloc ?_ _)); refine blk_far ?_ NB269_271.out _; (with_reducible repeat (first | refine blk_drewN ?_ _ | refine blk_drew ?_ | refine blk_alloc ?_ _)); refine blk_far ?_ NB269_271.out _; (with_reducible repeat (first | refine blk_drewN ?_ _ | refine blk_drew ?_ | refine blk_alloc ?_ _)); refine blk_far ?_ NB269_271.out _; (with_reducible repeat (first | refine blk_drewN ?_ _ | refine blk_drew ?_ | refine blk_alloc ?_ _)); refine blk_far ?_ NB269_271.out _; (with_reducible repeat (first | refine blk_drewN ?_ _ | refine blk_drew ?_ | refine blk_alloc ?_ _)); exact BK269.out⟩
      have n2_ : Aside0 (((((((w28.setCell ⟨gb271, 0, none⟩ (.int .i64 ((rd_T149 ((rd_T130 l0 x13_1).f3) x21_2).f0))).setCell ⟨gb271, 1, none⟩ (.int .i64 ((rd_T149 ((rd_T130 l0 x13_1).f3) x21_2).f1))).setCell ⟨gb271, 2, none⟩ (.int .i64 ((rd_T149 ((rd_T130 l0 x13_1).f3) x21_2).f2))).setCell ⟨gb271, 3, none⟩ (.int .i64 ((rd_T149 ((rd_T130 l0 x13_1).f3) x21_2).f3))).setCell ⟨gb271, 4, none⟩ (.int .i64 ((rd_T149 ((rd_T130 l0 x13_1).f3) x21_2).f4))).setCell ⟨gb271, 5, none⟩ (.int .i64 ((rd_T149 ((rd_T130 l0 x13_1).f3) x21_2).f5))).heap[gb271]? = some (.cells #[.int .i64 ((rd_T149 ((rd_T130 l0 x13_1).f3) x21_2).f0), .int .i64 ((rd_T149 ((rd_T130 l0 x13_1).f3) x21_2).f1), .int .i64 ((rd_T149 ((rd_T130 l0 x13_1).f3) x21_2).f2), .int .i64 ((rd_T149 ((rd_T130 l0 x13_1).f3) x21_2).f3), .int .i64 ((rd_T149 ((rd_T130 l0 x13_1).f3) x21_2).f4), .int .i64 ((rd_T149 ((rd_T130 l0 x13_1).f3) x21_2).f5)] 149 (0, 0))) := ⟨by (with_reducible repeat (first | refine blk_drewN ?_ _ | refine blk_drew ?_ | refine blk_alloc ?_ _)); refine blk_put (cs := #[.int .i64 ((rd_T149 ((rd_T130 l0 x13_1).f3) x21_2).f0), .int .i64 ((rd_T149 ((rd_T130 l0 x13_1).f3) x21_2).f1), .int .i64 ((rd_T149 ((rd_T130 l0 x13_1).f3) x21_2).f2), .int .i64 ((rd_T149 ((rd_T130 l0 x13_1).f3) x21_2).f3), .int .i64 ((rd_T149 ((rd_T130 l0 x13_1).f3) x21_2).f4), .int .i64 0]) ?_ 5 _ rfl; (with_reducible repeat (first | refine blk_drewN ?_ _ | refine blk_drew ?_ | refine blk_alloc ?_ _)); refine blk_put (cs := #[.int .i64 ((rd_T149 ((rd_T130 l0 x13_1).f3) x21_2).f0), .int .i64 ((rd_T149 ((rd_T130 l0 x13_1).f3) x21_2).f1), .int .i64 ((rd_T149 ((rd_T130 l0 x13_1).f3) x21_2).f2), .int .i64 ((rd_T149 ((rd_T130 l0 x13_1).f3) x21_2).f3), .int .i64 0, .int .i64 0]) ?_ 4 _ rfl; (with_reducible repeat (first | refine blk_drewN ?_ _ | refine blk_drew ?_ | refine blk_alloc ?_ _)); refine blk_put (cs := #[.int .i64 ((rd_T149 ((rd_T130 l0 x13_1).f3) x21_2).f0), .int .i64 ((rd_T149 ((rd_T130 l0 x13_1).f3) x21_2).f1), .int .i64 ((rd_T149 ((rd_T130 l0 x13_1).f3) x21_2).f2), .int .i64 0, .int .i64 0, .int .i64 0]) ?_ 3 _ rfl; (with_reducible repeat (first | refine blk_drewN ?_ _ | refine blk_drew ?_ | refine blk_alloc ?_ _)); refine blk_put (cs := #[.int .i64 ((rd_T149 ((rd_T130 l0 x13_1).f3) x21_2).f0), .int .i64 ((rd_T149 ((rd_T130 l0 x13_1).f3) x21_2).f1), .int .i64 0, .int .i64 0, .int .i64 0, .int .i64 0]) ?_ 2 _ rfl; (with_reducible repeat (first | refine blk_drewN ?_ _ | refine blk_drew ?_ | refine blk_alloc ?_ _)); refine blk_put (cs := #[.int .i64 ((rd_T149 ((rd_T130 l0 x13_1).f3) x21_2).f0), .int .i64 0, .int .i64 0, .int .i64 0, .int .i64 0, .int .i64 0]) ?_ 1 _ rfl; (with_reducible repeat (first | refine blk_drewN ?_ _ | refine blk_drew ?_ | refine blk_alloc ?_ _)); refine blk_put (cs := #[.int .i64 0, .int .i64 0, .int .i64 0, .int .i64 0, .int .i64 0, .int .i64 0]) ?_ 0 _ rfl; (with_reducible repeat (first | refine blk_drewN ?_ _ | refine blk_drew ?_ | refine blk_alloc ?_ _)); exact BK271.out⟩
      have n3_ : Aside0 (Below w.heap.size w ((((((w28.setCell ⟨gb271, 0, none⟩ (.int .i64 ((rd_T149 ((rd_T130 l0 x13_1).f3) x21_2).f0))).setCell ⟨gb271, 1, none⟩ (.int .i64 ((rd_T149 ((rd_T130 l0 x13_1).f3) x21_2).f1))).setCell ⟨gb271, 2, none⟩ (.int .i64 ((rd_T149 ((rd_T130 l0 x13_1).f3) x21_2).f2))).setCell ⟨gb271, 3, none⟩ (.int .i64 ((rd_T149 ((rd_T130 l0 x13_1).f3) x21_2).f3))).setCell ⟨gb271, 4, none⟩ (.int .i64 ((rd_T149 ((rd_T130 l0 x13_1).f3) x21_2).f4))).setCell ⟨gb271, 5, none⟩ (.int .i64 ((rd_T149 ((rd_T130 l0 x13_1).f3) x21_2).f5)))) := ⟨bZ⟩
      (try clear HO_3)
      (try clear BK269)
      (try clear BK271)
      (try clear HB)
      generalize ((((((w28.setCell ⟨gb271, 0, none⟩ (.int .i64 ((rd_T149 ((rd_T130 l0 x13_1).f3) x21_2).f0))).setCell ⟨gb271, 1, none⟩ (.int .i64 ((rd_T149 ((rd_T130 l0 x13_1).f3) x21_2).f1))).setCell ⟨gb271, 2, none⟩ (.int .i64 ((rd_T149 ((rd_T130 l0 x13_1).f3) x21_2).f2))).setCell ⟨gb271, 3, none⟩ (.int .i64 ((rd_T149 ((rd_T130 l0 x13_1).f3) x21_2).f3))).setCell ⟨gb271, 4, none⟩ (.int .i64 ((rd_T149 ((rd_T130 l0 x13_1).f3) x21_2).f4))).setCell ⟨gb271, 5, none⟩ (.int .i64 ((rd_T149 ((rd_T130 l0 x13_1).f3) x21_2).f5))) = w31 at n0_ n1_ n2_ n3_ ⊢
      have HO_3 := n0_
      have BK269 := n1_
      have BK271 := n2_
      have HB := n3_
      clear n0_ n1_ n2_ n3_
      replace HO_3 := aZ (Kd.R_drew HO_3.out)
      replace BK269 := aZ (blk_drew BK269.out)
      replace BK271 := aZ (blk_drew BK271.out)
      replace HB := aZ (below_drew1 HB.out)
      obtain ⟨Ao33, co33, eo33⟩ := Kd.R_slice HO_3.out
      (first | subst eo33 | (injection eo33 with f1_ f2_ f3_; have f4_ := f1_.symm; have f5_ := f3_.symm; clear f1_ f2_ f3_; subst f4_; subst f5_))
      have p272 : 0 ≤ (((rd_T149 ((rd_T130 l0 x13_1).f3) x21_2).f0) : Int) := of_decide_eq_true tZE
      have q272 : ((rd_T149 ((rd_T130 l0 x13_1).f3) x21_2).f0) < (x3_2.length : Int) := of_decide_eq_true tZE
      obtain ⟨ad272, e272, hx272_0⟩ := Kd.at_int (Kd.R_reads' HO_3.out).2.2 ((rd_T149 ((rd_T130 l0 x13_1).f3) x21_2).f0) p272 q272
      cases e272
      replace p272 := eq_true p272
      replace q272 := eq_true q272
      have p273 : 0 ≤ (x13_1 : Int) := of_decide_eq_true tZE
      have q273 : x13_1 < (x3_2.length : Int) := of_decide_eq_true tZE
      obtain ⟨ad273, e273, hx273_0⟩ := Kd.at_int (Kd.R_reads' HO_3.out).2.2 x13_1 p273 q273
      obtain rfl : ad272 = ad273 := (by injection e273)
      replace p273 := eq_true p273
      replace q273 := eq_true q273
      refine start_ (n := 11) (S := fun w' => w'.cell? ⟨gb271, 0, none⟩ = some (.int .i64 ((rd_T149 ((rd_T130 l0 x13_1).f3) x21_2).f0)) ∧ w'.cell? ⟨gb271, 1, none⟩ = some (.int .i64 ((rd_T149 ((rd_T130 l0 x13_1).f3) x21_2).f1)) ∧ w'.cell? ⟨gb271, 2, none⟩ = some (.int .i64 ((rd_T149 ((rd_T130 l0 x13_1).f3) x21_2).f2)) ∧ w'.cell? ⟨gb271, 3, none⟩ = some (.int .i64 ((rd_T149 ((rd_T130 l0 x13_1).f3) x21_2).f3)) ∧ w'.cell? ⟨gb271, 4, none⟩ = some (.int .i64 ((rd_T149 ((rd_T130 l0 x13_1).f3) x21_2).f4)) ∧ w'.cell? ⟨gb271, 5, none⟩ = some (.int .i64 ((rd_T149 ((rd_T130 l0 x13_1).f3) x21_2).f5)) ∧ w'.cell? (ad272.add (((rd_T149 ((rd_T130 l0 x13_1).f3) x21_2).f0)).toNat) = some (.int .i64 (rd x3_2 ((rd_T149 ((rd_T130 l0 x13_1).f3) x21_2).f0))) ∧ w'.cell? (ad272.add (x13_1).toNat) = some (.int .i64 (rd x3_2 x13_1))) (ds := []) L0' kZ rfl rfl ⟨(blk_cell BK271.out 0).trans rfl, (blk_cell BK271.out 1).trans rfl, (blk_cell BK271.out 2).trans rfl, (blk_cell BK271.out 3).trans rfl, (blk_cell BK271.out 4).trans rfl, (blk_cell BK271.out 5).trans rfl, hx272_0, hx273_0⟩ (fun hHeld => ?_); refine with_tabW impl_levels.tab8 impl_levels.bits8 (fun HT_ HW_ => ?_)
      generalize w31.drew = w32 at HO_3 BK269 BK271 HB hx272_0 hx273_0 hHeld ⊢
      refine pure_ (i := 0) (N := some 25) (v := ?_) (a' := ?_) L1' rfl rfl (any_of HT_.out kZ) (fun _ _ _ h => h) (Or.inl ⟨by rfl, ?_⟩) ?_ ?_
      rotate_left
      ·intro w'
       go_simp
       with_reducible rfl
      rotate_left
      ·simp only [Act.put, sZ1, sZ2, sZ3, i64_w, i32_w]
       rfl
      refine pure_ (i := 1) (N := some 26) (v := ?_) (a' := ?_) L2' rfl rfl (any_of HT_.out kZ) (fun _ _ _ h => h) (Or.inl ⟨by rfl, ?_⟩) ?_ ?_
      rotate_left
      ·intro w'
       go_simp
       with_reducible rfl
      rotate_left
      ·simp only [Act.put, sZ1, sZ2, sZ3, i64_w, i32_w]
       rfl
      refine pure_ (i := 5) (N := some 30) (v := ?_) (a' := ?_) L3' rfl rfl (any_of HT_.out kZ) (fun _ _ _ h => h) (Or.inl ⟨by rfl, ?_⟩) ?_ ?_
      rotate_left
      ·intro w'
       go_simp
       with_reducible rfl
      rotate_left
      ·simp only [Act.put, sZ1, sZ2, sZ3, i64_w, i32_w]
       rfl
      refine pure_ (i := 6) (N := some 31) (v := ?_) (a' := ?_) L4' rfl rfl (any_of HT_.out kZ) (fun _ _ _ h => h) (Or.inl ⟨by rfl, ?_⟩) ?_ ?_
      rotate_left
      ·intro w'
       go_simp
       with_reducible rfl
      rotate_left
      ·simp only [Act.put, sZ1, sZ2, sZ3, i64_w, i32_w]
       rfl
      refine pure_ (i := 7) (N := some 32) (v := ?_) (a' := ?_) L5' rfl rfl (any_of HT_.out kZ) (fun _ _ _ h => h) (Or.inl ⟨by rfl, ?_⟩) ?_ ?_
      rotate_left
      ·intro w'
       go_simp
       with_reducible rfl
      rotate_left
      ·simp only [Act.put, sZ1, sZ2, sZ3, i64_w, i32_w]
       rfl
      refine take_ (i := 2) (N := some 27) (v := ?_) (a' := ?_) L6' rfl rfl (take_ofW HT_.out HW_.out kZ) (fun _ _ _ h => h) (Or.inl ⟨by rfl, ?_⟩) hHeld ?_ ?_
      rotate_left
      ·rintro w' ⟨s0, s1, s2, s3, s4, s5, s6, s7⟩
       go_simp
       with_reducible rfl
      rotate_left
      ·simp only [Act.put, sZ1, sZ2, sZ3, i64_w, i32_w]
       rfl
      refine pure_ (i := 3) (N := some 28) (v := ?_) (a' := ?_) L7' rfl rfl (any_of HT_.out kZ) (fun _ _ _ h => h) (Or.inl ⟨by rfl, ?_⟩) ?_ ?_
      rotate_left
      ·intro w'
       go_simp
       with_reducible rfl
      rotate_left
      ·simp only [Act.put, sZ1, sZ2, sZ3, i64_w, i32_w]
       rfl
      refine take_ (i := 4) (N := some 29) (v := ?_) (a' := ?_) L8' rfl rfl (take_ofW HT_.out HW_.out kZ) (fun _ _ _ h => h) (Or.inl ⟨by rfl, ?_⟩) hHeld ?_ ?_
      rotate_left
      ·rintro w' ⟨s0, s1, s2, s3, s4, s5, s6, s7⟩
       go_simp
       with_reducible rfl
      rotate_left
      ·simp only [Act.put, sZ1, sZ2, sZ3, i64_w, i32_w]
       rfl
      refine take_ (i := 8) (N := some 33) (v := ?_) (a' := ?_) L9' rfl rfl (take_ofW HT_.out HW_.out kZ) (fun _ _ _ h => h) (Or.inl ⟨by rfl, ?_⟩) hHeld ?_ ?_
      rotate_left
      ·rintro w' ⟨s0, s1, s2, s3, s4, s5, s6, s7⟩
       go_simp
       with_reducible rfl
      rotate_left
      ·simp only [Act.put, sZ1, sZ2, sZ3, i64_w, i32_w]
       rfl
      refine pure_ (i := 9) (N := some 34) (v := ?_) (a' := ?_) L10' rfl rfl (any_of HT_.out kZ) (fun _ _ _ h => h) (Or.inl ⟨by rfl, ?_⟩) ?_ ?_
      rotate_left
      ·intro w'
       go_simp
       with_reducible rfl
      rotate_left
      ·simp only [Act.put, sZ1, sZ2, sZ3, i64_w, i32_w]
       rfl
      refine pure_ (i := 10) (N := some 35) (v := ?_) (a' := ?_) L11' rfl rfl (any_of HT_.out kZ) (fun _ _ _ h => h) (Or.inl ⟨by rfl, ?_⟩) ?_ ?_
      rotate_left
      ·intro w'
       go_simp
       with_reducible rfl
      rotate_left
      ·simp only [Act.put, sZ1, sZ2, sZ3, i64_w, i32_w]
       rfl
      refine done_ (done_of HT_.out kZ) ?_
      try go_wp2
      go_roundg k2
      case measure => have := HK1.out; have := HK2.out; omega
      case rel => exact ⟨(x3_2), (wrap64 (x21_2 + 1)), tZB, H', ⟨by have := HK1.out; have := HK2.out; omega⟩, ⟨lZR HO_3.out⟩, ⟨bkZ BK269.out⟩, ⟨bZ⟩⟩
     rw [if_pos c18] at H
     have c18b0 := decide_eq_true c18
     clear c18
     obtain ⟨y275, hy275⟩ : ∃ y_ : List Int, y_ = (x3_2.set (((rd_T149 ((rd_T130 l0 x13_1).f3) x21_2).f0) : Int).toNat (wrap64 ((rd x3_2 x13_1) + 1))) := ⟨_, rfl⟩
     replace H : (impl_levels.l1 k2 y275 x13_1 l0 (l0.length : Int) x13_1 ((rd_T130 l0 x13_1).f3) (((rd_T130 l0 x13_1).f3).length : Int) (wrap64 (x21_2 + 1))) = some r := by first | (rw [hy275]; with_reducible exact H) | (have H2_ := (Option.bind_some _ _).symm.trans H; rw [hy275]; with_reducible exact H2_) | (have H2_ := (Option.bind_some _ _).symm.trans H; with_reducible exact H2_) | with_reducible exact H | (rw [hy275]; exact H) | exact H
     have Ny275 := Aside0.mk hy275
     clear hy275
     have H' := Aside0.mk H
     clear H
     have p270 : 0 ≤ (x21_2 : Int) := of_decide_eq_true tZE
     have q270 : x21_2 < (((rd_T130 l0 x13_1).f3).length : Int) := of_decide_eq_true tZE
     obtain ⟨ad270, e270, hx270_0, hx270_1, hx270_2, hx270_3, hx270_4, hx270_5⟩ := at_T149 HR268_3.out x21_2 p270 q270
     cases e270
     replace hx270_0 := cZ HB hx270_0
     replace hx270_1 := cZ HB hx270_1
     replace hx270_2 := cZ HB hx270_2
     replace hx270_3 := cZ HB hx270_3
     replace hx270_4 := cZ HB hx270_4
     replace hx270_5 := cZ HB hx270_5
     replace p270 := eq_true p270
     replace q270 := eq_true q270
     try go_wp2_with (first | ((with_reducible refine gate_dst (N := 7) rfl ?_); refine box_event ?hg (N := 7) ?hd (cs := #[.int .i64 0, .int .i64 0, .int .i64 0, .int .i64 0, .int .i64 0, .int .i64 0]) (t := 149) ?hr ?_; (case hd => rfl); (case hg => rfl); (case hr => first | (go_simp; done) | (go_simp; rfl)); intro gb271 hg w20 hbox hb; replace HO_3 := aZ (Kd.R_below (lZR HO_3.out) hb); have BK271 := aZ (hbox); have GW271 := aZ ((by rw [hg]; exact (below_size bZ) : w.heap.size ≤ gb271)); have GE271 := aZ ((by rw [hg]; exact (below_size bZ) : w.heap.size ≤ gb271)); replace HB := aZ (below_step bZ hb); have NB269_271 := aZ ((by rw [hg]; exact Nat.ne_of_lt (blk_lt (bkZ BK269.out)) : gb269 ≠ gb271)); have NB271_269 := aZ ((by rw [hg]; exact Nat.ne_of_gt (blk_lt (bkZ BK269.out)) : gb271 ≠ gb269)); replace BK269 := aZ (blk_below (bkZ BK269.out) hb); clear hb hbox hg; have hnb21 := NB271_269.out; have hnc21 := NB269_271.out; have hcz22_0 : w20.cell? ⟨gb271, 0, none⟩ = some (.int .i64 0) := (blk_cell BK271.out 0).trans rfl; have hcz22_1 : w20.cell? ⟨gb271, 1, none⟩ = some (.int .i64 0) := (blk_cell BK271.out 1).trans rfl; have hcz22_2 : w20.cell? ⟨gb271, 2, none⟩ = some (.int .i64 0) := (blk_cell BK271.out 2).trans rfl; have hcz22_3 : w20.cell? ⟨gb271, 3, none⟩ = some (.int .i64 0) := (blk_cell BK271.out 3).trans rfl; have hcz22_4 : w20.cell? ⟨gb271, 4, none⟩ = some (.int .i64 0) := (blk_cell BK271.out 4).trans rfl; have hcz22_5 : w20.cell? ⟨gb271, 5, none⟩ = some (.int .i64 0) := (blk_cell BK271.out 5).trans rfl; have hfz22_0 := blk_frozen BK271.out 0; have hfz22_1 := blk_frozen BK271.out 1; have hfz22_2 := blk_frozen BK271.out 2; have hfz22_3 := blk_frozen BK271.out 3; have hfz22_4 := blk_frozen BK271.out 4; have hfz22_5 := blk_frozen BK271.out 5))
     have n0_ : Aside0 (Kd.R (Kd.int .i64) 3 ((((((w20.setCell ⟨gb271, 0, none⟩ (.int .i64 ((rd_T149 ((rd_T130 l0 x13_1).f3) x21_2).f0))).setCell ⟨gb271, 1, none⟩ (.int .i64 ((rd_T149 ((rd_T130 l0 x13_1).f3) x21_2).f1))).setCell ⟨gb271, 2, none⟩ (.int .i64 ((rd_T149 ((rd_T130 l0 x13_1).f3) x21_2).f2))).setCell ⟨gb271, 3, none⟩ (.int .i64 ((rd_T149 ((rd_T130 l0 x13_1).f3) x21_2).f3))).setCell ⟨gb271, 4, none⟩ (.int .i64 ((rd_T149 ((rd_T130 l0 x13_1).f3) x21_2).f4))).setCell ⟨gb271, 5, none⟩ (.int .i64 ((rd_T149 ((rd_T130 l0 x13_1).f3) x21_2).f5))) w.heap.size (fun _ => True) v266 x3_2) := ⟨by (with_reducible repeat (first | apply Kd.R_alloc | apply Kd.R_drewN | apply Kd.R_drew)); exact Kd.R_mono (Kd.R_far (p := ⟨gb271, 5, none⟩) (Kd.R_far (p := ⟨gb271, 4, none⟩) (Kd.R_far (p := ⟨gb271, 3, none⟩) (Kd.R_far (p := ⟨gb271, 2, none⟩) (Kd.R_far (p := ⟨gb271, 1, none⟩) (Kd.R_far (p := ⟨gb271, 0, none⟩) (Kd.R_types HO_3.out BK271.out (by decide)) (fun _ hk => hk.2) (.int .i64 ((rd_T149 ((rd_T130 l0 x13_1).f3) x21_2).f0))) (fun _ hk => hk.2) (.int .i64 ((rd_T149 ((rd_T130 l0 x13_1).f3) x21_2).f1))) (fun _ hk => hk.2) (.int .i64 ((rd_T149 ((rd_T130 l0 x13_1).f3) x21_2).f2))) (fun _ hk => hk.2) (.int .i64 ((rd_T149 ((rd_T130 l0 x13_1).f3) x21_2).f3))) (fun _ hk => hk.2) (.int .i64 ((rd_T149 ((rd_T130 l0 x13_1).f3) x21_2).f4))) (fun _ hk => hk.2) (.int .i64 ((rd_T149 ((rd_T130 l0 x13_1).f3) x21_2).f5))) (fun _ hk => trivial)⟩
     have n1_ : Aside0 (((((((w20.setCell ⟨gb271, 0, none⟩ (.int .i64 ((rd_T149 ((rd_T130 l0 x13_1).f3) x21_2).f0))).setCell ⟨gb271, 1, none⟩ (.int .i64 ((rd_T149 ((rd_T130 l0 x13_1).f3) x21_2).f1))).setCell ⟨gb271, 2, none⟩ (.int .i64 ((rd_T149 ((rd_T130 l0 x13_1).f3) x21_2).f2))).setCell ⟨gb271, 3, none⟩ (.int .i64 ((rd_T149 ((rd_T130 l0 x13_1).f3) x21_2).f3))).setCell ⟨gb271, 4, none⟩ (.int .i64 ((rd_T149 ((rd_T130 l0 x13_1).f3) x21_2).f4))).setCell ⟨gb271, 5, none⟩ (.int .i64 ((rd_T149 ((rd_T130 l0 x13_1).f3) x21_2).f5))).heap[gb269]? = some (.cells #[.string ((rd_T130 l0 x13_1).f0), .int .i64 ((rd_T130 l0 x13_1).f1), .bool ((rd_T130 l0 x13_1).f2), .slice (some ad270) ((rd_T130 l0 x13_1).f3).length c268_3, .slice A268_4 ((rd_T130 l0 x13_1).f4).length c268_4] 130 (0, 0))) := ⟨by (with_reducible repeat (first | refine blk_drewN ?_ _ | refine blk_drew ?_ | refine blk_alloc ?_ _)); refine blk_far ?_ NB269_271.out _; (with_reducible repeat (first | refine blk_drewN ?_ _ | refine blk_drew ?_ | refine blk_alloc ?_ _)); refine blk_far ?_ NB269_271.out _; (with_reducible repeat (first | refine blk_drewN ?_ _ | refine blk_drew ?_ | refine blk_alloc ?_ _)); refine blk_far ?_ NB269_271.out _; (with_reducible repeat (first | refine blk_drewN ?_ _ | refine blk_drew ?_ | refine blk_alloc ?_ _)); refine blk_far ?_ NB269_271.out _; (with_reducible repeat (first | refine blk_drewN ?_ _ | refine blk_drew ?_ | refine blk_alloc ?_ _)); refine blk_far ?_ NB269_271.out _; (with_reducible repeat (first | refine blk_drewN ?_ _ | refine blk_drew ?_ | refine blk_alloc ?_ _)); refine blk_far ?_ NB269_271.out _; (with_reducible repeat (first | refine blk_drewN ?_ _ | refine blk_drew ?_ | refine blk_alloc ?_ _)); exact BK269.out⟩
     have n2_ : Aside0 (((((((w20.setCell ⟨gb271, 0, none⟩ (.int .i64 ((rd_T149 ((rd_T130 l0 x13_1).f3) x21_2).f0))).setCell ⟨gb271, 1, none⟩ (.int .i64 ((rd_T149 ((rd_T130 l0 x13_1).f3) x21_2).f1))).setCell ⟨gb271, 2, none⟩ (.int .i64 ((rd_T149 ((rd_T130 l0 x13_1).f3) x21_2).f2))).setCell ⟨gb271, 3, none⟩ (.int .i64 ((rd_T149 ((rd_T130 l0 x13_1).f3) x21_2).f3))).setCell ⟨gb271, 4, none⟩ (.int .i64 ((rd_T149 ((rd_T130 l0 x13_1).f3) x21_2).f4))).setCell ⟨gb271, 5, none⟩ (.int .i64 ((rd_T149 ((rd_T130 l0 x13_1).f3) x21_2).f5))).heap[gb271]? = some (.cells #[.int .i64 ((rd_T149 ((rd_T130 l0 x13_1).f3) x21_2).f0), .int .i64 ((rd_T149 ((rd_T130 l0 x13_1).f3) x21_2).f1), .int .i64 ((rd_T149 ((rd_T130 l0 x13_1).f3) x21_2).f2), .int .i64 ((rd_T149 ((rd_T130 l0 x13_1).f3) x21_2).f3), .int .i64 ((rd_T149 ((rd_T130 l0 x13_1).f3) x21_2).f4), .int .i64 ((rd_T149 ((rd_T130 l0 x13_1).f3) x21_2).f5)] 149 (0, 0))) := ⟨by (with_reducible repeat (first | refine blk_drewN ?_ _ | refine blk_drew ?_ | refine blk_alloc ?_ _)); refine blk_put (cs := #[.int .i64 ((rd_T149 ((rd_T130 l0 x13_1).f3) x21_2).f0), .int .i64 ((rd_T149 ((rd_T130 l0 x13_1).f3) x21_2).f1), .int .i64 ((rd_T149 ((rd_T130 l0 x13_1).f3) x21_2).f2), .int .i64 ((rd_T149 ((rd_T130 l0 x13_1).f3) x21_2).f3), .int .i64 ((rd_T149 ((rd_T130 l0 x13_1).f3) x21_2).f4), .int .i64 0]) ?_ 5 _ rfl; (with_reducible repeat (first | refine blk_drewN ?_ _ | refine blk_drew ?_ | refine blk_alloc ?_ _)); refine blk_put (cs := #[.int .i64 ((rd_T149 ((rd_T130 l0 x13_1).f3) x21_2).f0), .int .i64 ((rd_T149 ((rd_T130 l0 x13_1).f3) x21_2).f1), .int .i64 ((rd_T149 ((rd_T130 l0 x13_1).f3) x21_2).f2), .int .i64 ((rd_T149 ((rd_T130 l0 x13_1).f3) x21_2).f3), .int .i64 0, .int .i64 0]) ?_ 4 _ rfl; (with_reducible repeat (first | refine blk_drewN ?_ _ | refine blk_drew ?_ | refine blk_alloc ?_ _)); refine blk_put (cs := #[.int .i64 ((rd_T149 ((rd_T130 l0 x13_1).f3) x21_2).f0), .int .i64 ((rd_T149 ((rd_T130 l0 x13_1).f3) x21_2).f1), .int .i64 ((rd_T149 ((rd_T130 l0 x13_1).f3) x21_2).f2), .int .i64 0, .int .i64 0, .int .i64 0]) ?_ 3 _ rfl; (with_reducible repeat (first | refine blk_drewN ?_ _ | refine blk_drew ?_ | refine blk_alloc ?_ _)); refine blk_put (cs := #[.int .i64 ((rd_T149 ((rd_T130 l0 x13_1).f3) x21_2).f0), .int .i64 ((rd_T149 ((rd_T130 l0 x13_1).f3) x21_2).f1), .int .i64 0, .int .i64 0, .int .i64 0, .int .i64 0]) ?_ 2 _ rfl; (with_reducible repeat (first | refine blk_drewN ?_ _ | refine blk_drew ?_ | refine blk_alloc ?_ _)); refine blk_put (cs := #[.int .i64 ((rd_T149 ((rd_T130 l0 x13_1).f3) x21_2).f0), .int .i64 0, .int .i64 0, .int .i64 0, .int .i64 0, .int .i64 0]) ?_ 1 _ rfl; (with_reducible repeat (first | refine blk_drewN ?_ _ | refine blk_drew ?_ | refine blk_alloc ?_ _)); refine blk_put (cs := #[.int .i64 0, .int .i64 0, .int .i64 0, .int .i64 0, .int .i64 0, .int .i64 0]) ?_ 0 _ rfl; (with_reducible repeat (first | refine blk_drewN ?_ _ | refine blk_drew ?_ | refine blk_alloc ?_ _)); exact BK271.out⟩
     have n3_ : Aside0 (Below w.heap.size w ((((((w20.setCell ⟨gb271, 0, none⟩ (.int .i64 ((rd_T149 ((rd_T130 l0 x13_1).f3) x21_2).f0))).setCell ⟨gb271, 1, none⟩ (.int .i64 ((rd_T149 ((rd_T130 l0 x13_1).f3) x21_2).f1))).setCell ⟨gb271, 2, none⟩ (.int .i64 ((rd_T149 ((rd_T130 l0 x13_1).f3) x21_2).f2))).setCell ⟨gb271, 3, none⟩ (.int .i64 ((rd_T149 ((rd_T130 l0 x13_1).f3) x21_2).f3))).setCell ⟨gb271, 4, none⟩ (.int .i64 ((rd_T149 ((rd_T130 l0 x13_1).f3) x21_2).f4))).setCell ⟨gb271, 5, none⟩ (.int .i64 ((rd_T149 ((rd_T130 l0 x13_1).f3) x21_2).f5)))) := ⟨bZ⟩
     (try clear HO_3)
     (try clear BK269)
     (try clear BK271)
     (try clear HB)
     generalize ((((((w20.setCell ⟨gb271, 0, none⟩ (.int .i64 ((rd_T149 ((rd_T130 l0 x13_1).f3) x21_2).f0))).setCell ⟨gb271, 1, none⟩ (.int .i64 ((rd_T149 ((rd_T130 l0 x13_1).f3) x21_2).f1))).setCell ⟨gb271, 2, none⟩ (.int .i64 ((rd_T149 ((rd_T130 l0 x13_1).f3) x21_2).f2))).setCell ⟨gb271, 3, none⟩ (.int .i64 ((rd_T149 ((rd_T130 l0 x13_1).f3) x21_2).f3))).setCell ⟨gb271, 4, none⟩ (.int .i64 ((rd_T149 ((rd_T130 l0 x13_1).f3) x21_2).f4))).setCell ⟨gb271, 5, none⟩ (.int .i64 ((rd_T149 ((rd_T130 l0 x13_1).f3) x21_2).f5))) = w23 at n0_ n1_ n2_ n3_ ⊢
     have HO_3 := n0_
     have BK269 := n1_
     have BK271 := n2_
     have HB := n3_
     clear n0_ n1_ n2_ n3_
     replace HO_3 := aZ (Kd.R_drew HO_3.out)
     replace BK269 := aZ (blk_drew BK269.out)
     replace BK271 := aZ (blk_drew BK271.out)
     replace HB := aZ (below_drew1 HB.out)
     obtain ⟨Ao25, co25, eo25⟩ := Kd.R_slice HO_3.out
     (first | subst eo25 | (injection eo25 with f1_ f2_ f3_; have f4_ := f1_.symm; have f5_ := f3_.symm; clear f1_ f2_ f3_; subst f4_; subst f5_))
     have p272 : 0 ≤ (((rd_T149 ((rd_T130 l0 x13_1).f3) x21_2).f0) : Int) := of_decide_eq_true tZE
     have q272 : ((rd_T149 ((rd_T130 l0 x13_1).f3) x21_2).f0) < (x3_2.length : Int) := of_decide_eq_true tZE
     obtain ⟨ad272, e272, hx272_0⟩ := Kd.at_int (Kd.R_reads' HO_3.out).2.2 ((rd_T149 ((rd_T130 l0 x13_1).f3) x21_2).f0) p272 q272
     cases e272
     replace p272 := eq_true p272
     replace q272 := eq_true q272
     have p273 : 0 ≤ (x13_1 : Int) := of_decide_eq_true tZE
     have q273 : x13_1 < (x3_2.length : Int) := of_decide_eq_true tZE
     obtain ⟨ad273, e273, hx273_0⟩ := Kd.at_int (Kd.R_reads' HO_3.out).2.2 x13_1 p273 q273
     obtain rfl : ad272 = ad273 := (by injection e273)
     replace p273 := eq_true p273
     replace q273 := eq_true q273
     refine start_ (n := 11) (S := fun w' => w'.cell? ⟨gb271, 0, none⟩ = some (.int .i64 ((rd_T149 ((rd_T130 l0 x13_1).f3) x21_2).f0)) ∧ w'.cell? ⟨gb271, 1, none⟩ = some (.int .i64 ((rd_T149 ((rd_T130 l0 x13_1).f3) x21_2).f1)) ∧ w'.cell? ⟨gb271, 2, none⟩ = some (.int .i64 ((rd_T149 ((rd_T130 l0 x13_1).f3) x21_2).f2)) ∧ w'.cell? ⟨gb271, 3, none⟩ = some (.int .i64 ((rd_T149 ((rd_T130 l0 x13_1).f3) x21_2).f3)) ∧ w'.cell? ⟨gb271, 4, none⟩ = some (.int .i64 ((rd_T149 ((rd_T130 l0 x13_1).f3) x21_2).f4)) ∧ w'.cell? ⟨gb271, 5, none⟩ = some (.int .i64 ((rd_T149 ((rd_T130 l0 x13_1).f3) x21_2).f5)) ∧ w'.cell? (ad272.add (((rd_T149 ((rd_T130 l0 x13_1).f3) x21_2).f0)).toNat) = some (.int .i64 (rd x3_2 ((rd_T149 ((rd_T130 l0 x13_1).f3) x21_2).f0))) ∧ w'.cell? (ad272.add (x13_1).toNat) = some (.int .i64 (rd x3_2 x13_1))) (ds := []) L0' kZ rfl rfl ⟨(blk_cell BK271.out 0).trans rfl, (blk_cell BK271.out 1).trans rfl, (blk_cell BK271.out 2).trans rfl, (blk_cell BK271.out 3).trans rfl, (blk_cell BK271.out 4).trans rfl, (blk_cell BK271.out 5).trans rfl, hx272_0, hx273_0⟩ (fun hHeld => ?_); refine with_tabW impl_levels.tab8 impl_levels.bits8 (fun HT_ HW_ => ?_)
     generalize w23.drew = w24 at HO_3 BK269 BK271 HB hx272_0 hx273_0 hHeld ⊢
     refine pure_ (i := 0) (N := some 25) (v := ?_) (a' := ?_) L1' rfl rfl (any_of HT_.out kZ) (fun _ _ _ h => h) (Or.inl ⟨by rfl, ?_⟩) ?_ ?_
     rotate_left
     ·intro w'
      go_simp
      with_reducible rfl
     rotate_left
     ·simp only [Act.put, sZ1, sZ2, sZ3, i64_w, i32_w]
      rfl
     refine pure_ (i := 1) (N := some 26) (v := ?_) (a' := ?_) L2' rfl rfl (any_of HT_.out kZ) (fun _ _ _ h => h) (Or.inl ⟨by rfl, ?_⟩) ?_ ?_
     rotate_left
     ·intro w'
      go_simp
      with_reducible rfl
     rotate_left
     ·simp only [Act.put, sZ1, sZ2, sZ3, i64_w, i32_w]
      rfl
     refine pure_ (i := 5) (N := some 30) (v := ?_) (a' := ?_) L3' rfl rfl (any_of HT_.out kZ) (fun _ _ _ h => h) (Or.inl ⟨by rfl, ?_⟩) ?_ ?_
     rotate_left
     ·intro w'
      go_simp
      with_reducible rfl
     rotate_left
     ·simp only [Act.put, sZ1, sZ2, sZ3, i64_w, i32_w]
      rfl
     refine pure_ (i := 6) (N := some 31) (v := ?_) (a' := ?_) L4' rfl rfl (any_of HT_.out kZ) (fun _ _ _ h => h) (Or.inl ⟨by rfl, ?_⟩) ?_ ?_
     rotate_left
     ·intro w'
      go_simp
      with_reducible rfl
     rotate_left
     ·simp only [Act.put, sZ1, sZ2, sZ3, i64_w, i32_w]
      rfl
     refine pure_ (i := 7) (N := some 32) (v := ?_) (a' := ?_) L5' rfl rfl (any_of HT_.out kZ) (fun _ _ _ h => h) (Or.inl ⟨by rfl, ?_⟩) ?_ ?_
     rotate_left
     ·intro w'
      go_simp
      with_reducible rfl
     rotate_left
     ·simp only [Act.put, sZ1, sZ2, sZ3, i64_w, i32_w]
      rfl
     refine take_ (i := 2) (N := some 27) (v := ?_) (a' := ?_) L6' rfl rfl (take_ofW HT_.out HW_.out kZ) (fun _ _ _ h => h) (Or.inl ⟨by rfl, ?_⟩) hHeld ?_ ?_
     rotate_left
     ·rintro w' ⟨s0, s1, s2, s3, s4, s5, s6, s7⟩
      go_simp
      with_reducible rfl
     rotate_left
     ·simp only [Act.put, sZ1, sZ2, sZ3, i64_w, i32_w]
      rfl
     refine pure_ (i := 3) (N := some 28) (v := ?_) (a' := ?_) L7' rfl rfl (any_of HT_.out kZ) (fun _ _ _ h => h) (Or.inl ⟨by rfl, ?_⟩) ?_ ?_
     rotate_left
     ·intro w'
      go_simp
      with_reducible rfl
     rotate_left
     ·simp only [Act.put, sZ1, sZ2, sZ3, i64_w, i32_w]
      rfl
     refine take_ (i := 4) (N := some 29) (v := ?_) (a' := ?_) L8' rfl rfl (take_ofW HT_.out HW_.out kZ) (fun _ _ _ h => h) (Or.inl ⟨by rfl, ?_⟩) hHeld ?_ ?_
     rotate_left
     ·rintro w' ⟨s0, s1, s2, s3, s4, s5, s6, s7⟩
      go_simp
      with_reducible rfl
     rotate_left
     ·simp only [Act.put, sZ1, sZ2, sZ3, i64_w, i32_w]
      rfl
     refine take_ (i := 8) (N := some 33) (v := ?_) (a' := ?_) L9' rfl rfl (take_ofW HT_.out HW_.out kZ) (fun _ _ _ h => h) (Or.inl ⟨by rfl, ?_⟩) hHeld ?_ ?_
     rotate_left
     ·rintro w' ⟨s0, s1, s2, s3, s4, s5, s6, s7⟩
      go_simp
      with_reducible rfl
     rotate_left
     ·simp only [Act.put, sZ1, sZ2, sZ3, i64_w, i32_w]
      rfl
     refine pure_ (i := 9) (N := some 34) (v := ?_) (a' := ?_) L10' rfl rfl (any_of HT_.out kZ) (fun _ _ _ h => h) (Or.inl ⟨by rfl, ?_⟩) ?_ ?_
     rotate_left
     ·intro w'
      go_simp
      with_reducible rfl
     rotate_left
     ·simp only [Act.put, sZ1, sZ2, sZ3, i64_w, i32_w]
      rfl
     refine pure_ (i := 10) (N := some 35) (v := ?_) (a' := ?_) L11' rfl rfl (any_of HT_.out kZ) (fun _ _ _ h => h) (Or.inl ⟨by rfl, ?_⟩) ?_ ?_
     rotate_left
     ·intro w'
      go_simp
      with_reducible rfl
     rotate_left
     ·simp only [Act.put, sZ1, sZ2, sZ3, i64_w, i32_w]
      rfl
     refine done_ (done_of HT_.out kZ) ?_
     try go_wp2
     replace HO_3 := aZ (Kd.R_drew HO_3.out)
     replace BK269 := aZ (blk_drew BK269.out)
     replace BK271 := aZ (blk_drew BK271.out)
     replace HB := aZ (below_drew1 HB.out)
     have p274 : 0 ≤ (x13_1 : Int) := of_decide_eq_true tZE
     have q274 : x13_1 < (x3_2.length : Int) := of_decide_eq_true tZE
     obtain ⟨ad274, e274, hx274_0⟩ := Kd.at_int (Kd.R_reads' HO_3.out).2.2 x13_1 p274 q274
     obtain rfl : ad272 = ad274 := (by injection e274)
     replace p274 := eq_true p274
     replace q274 := eq_true q274
     have p19 : 0 ≤ (((rd_T149 ((rd_T130 l0 x13_1).f3) x21_2).f0) : Int) := of_decide_eq_true tZE
     have q19 : (((rd_T149 ((rd_T130 l0 x13_1).f3) x21_2).f0) : Int) < ((x3_2.length : Int) : Int) := of_decide_eq_true tZE
     obtain ⟨go19, co19, eo19, gb19, gl19, cl19, HG19⟩ := Kd.R_form HO_3.out (by omega)
     (first | cases eo19 | (injection eo19 with ea_ en_ ec_; (first | subst ea_ | (injection ea_ with ea_; subst ea_)); subst ec_; clear en_))
     have GB19 := Aside0.mk gb19
     have GG19 := Aside0.mk HG19
     clear gb19 gl19 HG19
     (first | simp only [add_plain] at hx272_0 | skip)
     (first | simp only [add_plain] at hx273_0 | skip)
     (first | simp only [add_plain] at hx274_0 | skip)
     obtain ⟨hx19_0, hf19_0⟩ := Kd.R_celln 0 HO_3.out (((rd_T149 ((rd_T130 l0 x13_1).f3) x21_2).f0) : Int) p19 q19
     replace p19 := eq_true p19
     replace q19 := eq_true q19
     (try clear GG19)
     obtain ⟨cl27_, hgg27_⟩ := Kd.R_typed (HO_3.out) go19 rfl
     have GG19 := Aside0.mk hgg27_
     clear hgg27_
     have HP27 := Kd.R_putn HO_3.out (((rd_T149 ((rd_T130 l0 x13_1).f3) x21_2).f0) : Int) (wrap64 ((rd x3_2 x13_1) + 1))
     rw [← Ny275.out] at HP27
     have HQ27 := Aside0.mk HP27
     clear HP27
     refine start_ (n := 10) (S := fun w' => w'.cell? ⟨gb271, 0, none⟩ = some (.int .i64 ((rd_T149 ((rd_T130 l0 x13_1).f3) x21_2).f0)) ∧ w'.cell? ⟨gb271, 1, none⟩ = some (.int .i64 ((rd_T149 ((rd_T130 l0 x13_1).f3) x21_2).f1)) ∧ w'.cell? ⟨gb271, 2, none⟩ = some (.int .i64 ((rd_T149 ((rd_T130 l0 x13_1).f3) x21_2).f2)) ∧ w'.cell? ⟨gb271, 3, none⟩ = some (.int .i64 ((rd_T149 ((rd_T130 l0 x13_1).f3) x21_2).f3)) ∧ w'.cell? ⟨gb271, 4, none⟩ = some (.int .i64 ((rd_T149 ((rd_T130 l0 x13_1).f3) x21_2).f4)) ∧ w'.cell? ⟨gb271, 5, none⟩ = some (.int .i64 ((rd_T149 ((rd_T130 l0 x13_1).f3) x21_2).f5)) ∧ w'.cell? ⟨go19, (x13_1).toNat, none⟩ = some (.int .i64 (rd x3_2 x13_1))) (ds := [9]) L12' kZ rfl rfl ⟨(blk_cell BK271.out 0).trans rfl, (blk_cell BK271.out 1).trans rfl, (blk_cell BK271.out 2).trans rfl, (blk_cell BK271.out 3).trans rfl, (blk_cell BK271.out 4).trans rfl, (blk_cell BK271.out 5).trans rfl, hx274_0⟩ (fun hHeld => ?_); refine with_tabW impl_levels.tab9 impl_levels.bits9 (fun HT_ HW_ => ?_)
     generalize w24.drew = w26 at HO_3 BK269 BK271 HB GG19 HQ27 hf19_0 hx19_0 hx272_0 hx273_0 hx274_0 hHeld ⊢
     refine pure_ (i := 0) (N := some 36) (v := ?_) (a' := ?_) L13' rfl rfl (any_of HT_.out kZ) (fun _ _ _ h => h) (Or.inl ⟨by rfl, ?_⟩) ?_ ?_
     rotate_left
     ·intro w'
      go_simp
      with_reducible rfl
     rotate_left
     ·simp only [Act.put, sZ1, sZ2, sZ3, i64_w, i32_w]
      rfl
     refine pure_ (i := 1) (N := some 37) (v := ?_) (a' := ?_) L14' rfl rfl (any_of HT_.out kZ) (fun _ _ _ h => h) (Or.inl ⟨by rfl, ?_⟩) ?_ ?_
     rotate_left
     ·intro w'
      go_simp
      with_reducible rfl
     rotate_left
     ·simp only [Act.put, sZ1, sZ2, sZ3, i64_w, i32_w]
      rfl
     refine pure_ (i := 3) (N := some 39) (v := ?_) (a' := ?_) L15' rfl rfl (any_of HT_.out kZ) (fun _ _ _ h => h) (Or.inl ⟨by rfl, ?_⟩) ?_ ?_
     rotate_left
     ·intro w'
      go_simp
      with_reducible rfl
     rotate_left
     ·simp only [Act.put, sZ1, sZ2, sZ3, i64_w, i32_w]
      rfl
     refine pure_ (i := 4) (N := some 40) (v := ?_) (a' := ?_) L16' rfl rfl (any_of HT_.out kZ) (fun _ _ _ h => h) (Or.inl ⟨by rfl, ?_⟩) ?_ ?_
     rotate_left
     ·intro w'
      go_simp
      with_reducible rfl
     rotate_left
     ·simp only [Act.put, sZ1, sZ2, sZ3, i64_w, i32_w]
      rfl
     refine pure_ (i := 5) (N := some 41) (v := ?_) (a' := ?_) L17' rfl rfl (any_of HT_.out kZ) (fun _ _ _ h => h) (Or.inl ⟨by rfl, ?_⟩) ?_ ?_
     rotate_left
     ·intro w'
      go_simp
      with_reducible rfl
     rotate_left
     ·simp only [Act.put, sZ1, sZ2, sZ3, i64_w, i32_w]
      rfl
     refine take_ (i := 2) (N := some 38) (v := ?_) (a' := ?_) L18' rfl rfl (take_ofW HT_.out HW_.out kZ) (fun _ _ _ h => h) (Or.inl ⟨by rfl, ?_⟩) hHeld ?_ ?_
     rotate_left
     ·rintro w' ⟨s0, s1, s2, s3, s4, s5, s6⟩
      go_simp
      with_reducible rfl
     rotate_left
     ·simp only [Act.put, sZ1, sZ2, sZ3, i64_w, i32_w]
      rfl
     refine take_ (i := 6) (N := some 42) (v := ?_) (a' := ?_) L19' rfl rfl (take_ofW HT_.out HW_.out kZ) (fun _ _ _ h => h) (Or.inl ⟨by rfl, ?_⟩) hHeld ?_ ?_
     rotate_left
     ·rintro w' ⟨s0, s1, s2, s3, s4, s5, s6⟩
      go_simp
      with_reducible rfl
     rotate_left
     ·simp only [Act.put, sZ1, sZ2, sZ3, i64_w, i32_w]
      rfl
     refine pure_ (i := 7) (N := some 43) (v := ?_) (a' := ?_) L20' rfl rfl (any_of HT_.out kZ) (fun _ _ _ h => h) (Or.inl ⟨by rfl, ?_⟩) ?_ ?_
     rotate_left
     ·intro w'
      go_simp
      with_reducible rfl
     rotate_left
     ·simp only [Act.put, sZ1, sZ2, sZ3, i64_w, i32_w]
      rfl
     refine pure_ (i := 8) (N := some 44) (v := ?_) (a' := ?_) L21' rfl rfl (any_of HT_.out kZ) (fun _ _ _ h => h) (Or.inl ⟨by rfl, ?_⟩) ?_ ?_
     rotate_left
     ·intro w'
      go_simp
      with_reducible rfl
     rotate_left
     ·simp only [Act.put, sZ1, sZ2, sZ3, i64_w, i32_w]
      rfl
     refine last_ (i := 9) (N := none) L22' rfl rfl (one_of HT_.out kZ) (by decide) (fun K hK => ?_)
     refine skip_ (w1 := ?_) (by rfl) rfl ?_ ?_
     rotate_left
     ·go_simp
      rfl
     refine hK.out _ _ ?_
     clear hK K
     refine done_ (done_of HT_.out kZ) ?_
     try go_wp2
     go_roundg k2
     case measure => have := HK1.out; have := HK2.out; omega
     case rel => exact ⟨(y275), (wrap64 (x21_2 + 1)), tZB, H', ⟨by have := HK1.out; have := HK2.out; omega⟩, ⟨by exact HQ27.out⟩, ⟨by (with_reducible repeat (first | refine blk_drewN ?_ _ | refine blk_drew ?_ | refine blk_alloc ?_ _)); refine blk_far ?_ (by have h_ := Kd.R_ne HO_3.out BK269.out (by decide); intro e_; exact h_ (by rw [e_]; rfl)) _; (with_reducible repeat (first | refine blk_drewN ?_ _ | refine blk_drew ?_ | refine blk_alloc ?_ _)); exact BK269.out⟩, ⟨bZ⟩⟩
end Go.Proofs.Ytjnmfadnkbflfaa.PFnExactOutput
