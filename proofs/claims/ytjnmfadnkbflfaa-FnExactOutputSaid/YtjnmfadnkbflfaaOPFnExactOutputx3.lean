import Derived.Test.YtjnmfadnkbflfaaOPFnExactOutputx0
import Derived.Test.YtjnmfadnkbflfaaOPFnExactOutputx2
import Derived.Test.YtjnmfadnkbflfaaOSlimWords
namespace Go.Proofs.Ytjnmfadnkbflfaa.PFnExactOutput
open Go.Proofs.Ytjnmfadnkbflfaa.SlimWords
open Go.RowKit Go.Proofs.YtjnmfadnkbflfaaW.PrintWords Go.Proofs.YtjnmfadnkbflfaaW.PrintLast Go.Proofs.YtjnmfadnkbflfaaW.PrintMore Go.Proofs.Ytjnmfadnkbflfaa.MapWords Go.Proofs.Ytjnmfadnkbflfaa.IterWords Go.Proofs.Ytjnmfadnkbflfaa.MarkWords Go.Proofs.Ytjnmfadnkbflfaa.ArrWords
attribute [local go_sem] ptrOf_slice max2_int min2_int max_two min_two max_three min_three max_four min_four
set_option linter.unusedVariables false
set_option linter.unusedSimpArgs false
private abbrev I' := true
private abbrev O' := false
private abbrev L0' : Array Bool := #[O',O',O',O',O',O',O',O',O',O']
private abbrev L1' : Array Bool := #[I',O',O',O',O',O',O',O',O',O']
private abbrev L2' : Array Bool := #[I',I',O',O',O',O',O',O',O',O']
private abbrev L3' : Array Bool := #[I',I',I',O',O',O',O',O',O',O']
private abbrev L4' : Array Bool := #[I',I',I',O',I',O',O',O',O',O']
private abbrev L5' : Array Bool := #[I',I',I',O',I',I',O',O',O',O']
private abbrev L6' : Array Bool := #[I',I',I',O',I',I',I',O',O',O']
private abbrev L7' : Array Bool := #[I',I',I',I',I',I',I',O',O',O']
private abbrev L8' : Array Bool := #[I',I',I',I',I',I',I',I',O',O']
private abbrev L9' : Array Bool := #[I',I',I',I',I',I',I',I',I',O']
private abbrev L10' : Array Bool := #[I',I',I',I',I',I',I',I',I',I']
def laws_eqItemS.l0 : Nat → List (S130) → List (S130) → Int → Option (Bool)
  | 0, _, _, _ => none
  | k + 1, x0, x1, x5 => if x5 < (x0.length : Int) then (if 0 ≤ x5 then (if x5 < (x1.length : Int) then ((laws_eqItem.f k ((rd_T130 x0 x5).f0) ((rd_T130 x0 x5).f1) ((rd_T130 x0 x5).f2) ((rd_T130 x0 x5).f3) ((rd_T130 x0 x5).f4) ((rd_T130 x1 x5).f0) ((rd_T130 x1 x5).f1) ((rd_T130 x1 x5).f2) ((rd_T130 x1 x5).f3) ((rd_T130 x1 x5).f4)).bind fun t156 => (if t156 = true then (laws_eqItemS.l0 k x0 x1 (wrap64 (x5 + 1))) else (some false))) else (none)) else (none)) else (some true)
def laws_eqItemS.f (k : Nat) (l0 : List (S130)) (l1 : List (S130)) : Option (Bool) := if (l0.length : Int) = (l1.length : Int) then (laws_eqItemS.l0 k l0 l1 0) else (some false)
theorem laws_eqItemS.mono_l : ∀ k, (∀ y0 y1 y2, LeO (laws_eqItemS.l0 k y0 y1 y2) (laws_eqItemS.l0 (k + 1) y0 y1 y2))
  | 0 => fun _ _ _ r h => by simp [laws_eqItemS.l0] at h
  | k + 1 => by
    have ih0 := laws_eqItemS.mono_l k
    · intro y0 y1 y2
      unfold laws_eqItemS.l0
      repeat' first
      | (with_reducible exact ih0 _ _ _)
      | (with_reducible exact laws_eqItem.mono _ _ _ _ _ _ _ _ _ _ _)
      | (with_reducible exact LeO.refl _)
      | (with_reducible exact LeO.none _)
      | (with_reducible refine LeO.ite ?_ ?_)
      | (with_reducible refine LeO.bind ?_ (fun _ => ?_))
      | exact ih0 _ _ _
      | exact laws_eqItem.mono _ _ _ _ _ _ _ _ _ _ _
      | exact LeO.none _
      | refine LeO.ite ?_ ?_
      | refine LeO.bind ?_ (fun _ => ?_)
theorem laws_eqItemS.mono : ∀ a0 a1 k, LeO (laws_eqItemS.f k a0 a1) (laws_eqItemS.f (k + 1) a0 a1) := by
 intro a0 a1 k
 have ih0 := laws_eqItemS.mono_l k
 unfold laws_eqItemS.f
 repeat' first
     | (with_reducible exact ih0 _ _ _)
     | (with_reducible exact laws_eqItem.mono _ _ _ _ _ _ _ _ _ _ _)
     | (with_reducible exact LeO.refl _)
     | (with_reducible exact LeO.none _)
     | (with_reducible refine LeO.ite ?_ ?_)
     | (with_reducible refine LeO.bind ?_ (fun _ => ?_))
     | exact ih0 _ _ _
     | exact laws_eqItem.mono _ _ _ _ _ _ _ _ _ _ _
     | exact LeO.none _
     | refine LeO.ite ?_ ?_
     | refine LeO.bind ?_ (fun _ => ?_)
def laws_eqItemS.T6 : Bool × List (List Nat × List Nat) := (true, [([], []), ([], []), ([0, 1], [0, 1]), ([2], [2]), ([], []), ([], []), ([4, 5], [4, 5]), ([6], [6]), ([3, 7], [3, 7]), ([8], [8])])
def laws_eqItemS.B6 : List Nat := [0, 0, 3, 7, 0, 0, 48, 112, 255, 511]
theorem laws_eqItemS.tab6 : rtab .any (opsOf Try.f32 6) = laws_eqItemS.T6 := by kernel_rfl
theorem laws_eqItemS.bits6 : waitsOk laws_eqItemS.T6.2 laws_eqItemS.B6 = true := by kernel_rfl
set_option maxHeartbeats 8000000 in
set_option maxRecDepth 100000 in
theorem laws_eqItemS.calls (k : Nat) (A0 : Option Addr) (c0 : Nat) (l0 : List (S130)) (A1 : Option Addr) (c1 : Nat) (l1 : List (S130)) (r : Bool) (w : World) (hr0 : Kd.C k130 w A0 l0.length l0) (hc0 : l0.length ≤ c0) (hr1 : Kd.C k130 w A1 l1.length l1) (hc1 : l1.length ≤ c1) (h : laws_eqItemS.f k l0 l1 = some r) :
    Calls Try.prog 32 #[.slice A0 l0.length c0, .slice A1 l1.length c1] w fun e w' => e = .returned (.bool r) ∧ Below w.heap.size w w' := by
 have hu130 := Try.underlying130
 have HR0 := Aside0.mk hr0
 have HC0 := Aside0.mk hc0
 clear hr0 hc0
 have HR1 := Aside0.mk hr1
 have HC1 := Aside0.mk hc1
 clear hr1 hc1
 have HB := aZ (Below.refl w.heap.size w)
 have H : (if (l0.length : Int) = (l1.length : Int) then (laws_eqItemS.l0 k l0 l1 0) else (some false)) = some r := h
 clear h
 by_cases c3 : (l0.length : Int) = (l1.length : Int)
 rotate_left
 ·rw [if_neg c3] at H
  have c3b0 : ((l0.length : Int) == (l1.length : Int)) = false := beq_eq_false_iff_ne.mpr c3
  have c3b1 : ((l0.length : Int) != (l1.length : Int)) = true := bne_iff_ne.mpr c3
  have c3b2 : (l0.length == l1.length) = false := by first | simpa using c3 | (simp at c3 ⊢; omega)
  obtain rfl := Option.some.inj H
  go_enter Try.func32, Try.ntmps32
  go_wp2
  go_ret
  exact ⟨tZC, bZ⟩
 rw [if_pos c3] at H
 have c3b0 : ((l0.length : Int) == (l1.length : Int)) = true := beq_iff_eq.mpr c3
 have c3b1 : ((l0.length : Int) != (l1.length : Int)) = false := bne_eq_false_iff_eq.mpr c3
 have c3b2 : (l0.length == l1.length) = true := by first | simpa using c3 | (simp at c3 ⊢; omega)
 clear c3
 have H' := Aside0.mk H
 clear H
 go_enter Try.func32, Try.ntmps32
 go_wp2
 go_loopg [5] k (fun kq v5 w' => ∃ (x5_1 : Int), v5 = .int .i64 x5_1 ∧ Aside0 (laws_eqItemS.l0 kq l0 l1 x5_1 = some r) ∧ Aside0 (kq ≤ k) ∧ Aside0 (Below w.heap.size w w'))
 case atStart => exact ⟨(0), tZB, H', ⟨Nat.le_refl _⟩, ⟨bZ⟩⟩
 case round =>
  clear H'
  try clear c1
  try clear p2
  try clear c3
  try clear c3b0
  try clear c3b1
  try clear c3b2
  obtain ⟨x5_1, rfl, HA, HK1, HB⟩ := hrel
  cases gk with
  | zero => exact absurd HA.out (by simp [laws_eqItemS.l0])
  | succ k1 =>
   have H := HA.out
   clear HA
   simp only [laws_eqItemS.l0] at H
   by_cases c4 : x5_1 < (l0.length : Int)
   rotate_left
   ·rw [if_neg c4] at H
    have c4b0 := decide_eq_false c4
    clear c4
    obtain rfl := Option.some.inj H
    go_wp2
    go_ret
    exact ⟨tZC, bZ⟩
   rw [if_pos c4] at H
   have c4b0 := decide_eq_true c4
   clear c4
   by_cases c5 : 0 ≤ x5_1
   rotate_left
   ·rw [if_neg c5] at H
    exact absurd H (by simp)
   rw [if_pos c5] at H
   have c5b0 := decide_eq_true c5
   clear c5
   by_cases c6 : x5_1 < (l1.length : Int)
   rotate_left
   ·rw [if_neg c6] at H
    exact absurd H (by simp)
   rw [if_pos c6] at H
   have c6b0 := decide_eq_true c6
   clear c6
   replace H := Option.bind_eq_some_iff.mp H
   obtain ⟨t156, A70, H⟩ := H
   replace H : (if t156 = true then (laws_eqItemS.l0 k1 l0 l1 (wrap64 (x5_1 + 1))) else (some false)) = some r := H
   have A7 := Aside0.mk A70
   clear A70
   by_cases c8 : t156 = true
   rotate_left
   ·replace c8 := Bool.eq_false_iff.mpr c8
    subst c8
    have H1 : (some false) = some r := by rw [if_neg (show ¬ (false = true) by decide)] at H; exact H
    clear H
    have H := H1
    clear H1
    obtain rfl := Option.some.inj H
    try go_wp2
    replace HB := aZ (below_drew1 HB.out)
    have p154 : 0 ≤ (x5_1 : Int) := of_decide_eq_true tZE
    have q154 : x5_1 < (l0.length : Int) := of_decide_eq_true tZE
    obtain ⟨ad154, A154_3, c154_3, A154_4, c154_4, e154, hx154_0, hx154_1, hx154_2, hx154_3, hx154_4, hl154_3, hi154_3, hl154_4, hi154_4⟩ := at_T130 HR0.out x5_1 p154 q154
    have hw154_4 := hx154_4
    have hw154_3 := hx154_3
    have hw154_2 := hx154_2
    have hw154_1 := hx154_1
    have hw154_0 := hx154_0
    have hz154_3 := hx154_3
    have hz154_4 := hx154_4
    cases e154
    replace hx154_0 := cZ HB hx154_0
    replace hx154_1 := cZ HB hx154_1
    replace hx154_2 := cZ HB hx154_2
    replace hx154_3 := cZ HB hx154_3
    replace hx154_4 := cZ HB hx154_4
    have HR154_3 := Aside0.mk hi154_3
    have HC154_3 := Aside0.mk hl154_3
    clear hi154_3 hl154_3
    have HR154_4 := Aside0.mk hi154_4
    have HC154_4 := Aside0.mk hl154_4
    clear hi154_4 hl154_4
    replace p154 := eq_true p154
    replace q154 := eq_true q154
    have p155 : 0 ≤ (x5_1 : Int) := of_decide_eq_true tZE
    have q155 : x5_1 < (l1.length : Int) := of_decide_eq_true tZE
    obtain ⟨ad155, A155_3, c155_3, A155_4, c155_4, e155, hx155_0, hx155_1, hx155_2, hx155_3, hx155_4, hl155_3, hi155_3, hl155_4, hi155_4⟩ := at_T130 HR1.out x5_1 p155 q155
    have hw155_4 := hx155_4
    have hw155_3 := hx155_3
    have hw155_2 := hx155_2
    have hw155_1 := hx155_1
    have hw155_0 := hx155_0
    have hz155_3 := hx155_3
    have hz155_4 := hx155_4
    cases e155
    replace hx155_0 := cZ HB hx155_0
    replace hx155_1 := cZ HB hx155_1
    replace hx155_2 := cZ HB hx155_2
    replace hx155_3 := cZ HB hx155_3
    replace hx155_4 := cZ HB hx155_4
    have HR155_3 := Aside0.mk hi155_3
    have HC155_3 := Aside0.mk hl155_3
    clear hi155_3 hl155_3
    have HR155_4 := Aside0.mk hi155_4
    have HC155_4 := Aside0.mk hl155_4
    clear hi155_4 hl155_4
    replace p155 := eq_true p155
    replace q155 := eq_true q155
    refine start_ (n := 10) (S := fun w' => w'.cell? (ad154.add ((x5_1).toNat * 5)) = some (.string ((rd_T130 l0 x5_1).f0)) ∧ w'.cell? ⟨(ad154.add ((x5_1).toNat * 5)).block, (ad154.add ((x5_1).toNat * 5)).off + 1, none⟩ = some (.int .i64 ((rd_T130 l0 x5_1).f1)) ∧ w'.cell? ⟨(ad154.add ((x5_1).toNat * 5)).block, (ad154.add ((x5_1).toNat * 5)).off + 2, none⟩ = some (.bool ((rd_T130 l0 x5_1).f2)) ∧ w'.cell? ⟨(ad154.add ((x5_1).toNat * 5)).block, (ad154.add ((x5_1).toNat * 5)).off + 3, none⟩ = some (.slice A154_3 ((rd_T130 l0 x5_1).f3).length c154_3) ∧ w'.cell? ⟨(ad154.add ((x5_1).toNat * 5)).block, (ad154.add ((x5_1).toNat * 5)).off + 4, none⟩ = some (.slice A154_4 ((rd_T130 l0 x5_1).f4).length c154_4) ∧ w'.cell? (ad155.add ((x5_1).toNat * 5)) = some (.string ((rd_T130 l1 x5_1).f0)) ∧ w'.cell? ⟨(ad155.add ((x5_1).toNat * 5)).block, (ad155.add ((x5_1).toNat * 5)).off + 1, none⟩ = some (.int .i64 ((rd_T130 l1 x5_1).f1)) ∧ w'.cell? ⟨(ad155.add ((x5_1).toNat * 5)).block, (ad155.add ((x5_1).toNat * 5)).off + 2, none⟩ = some (.bool ((rd_T130 l1 x5_1).f2)) ∧ w'.cell? ⟨(ad155.add ((x5_1).toNat * 5)).block, (ad155.add ((x5_1).toNat * 5)).off + 3, none⟩ = some (.slice A155_3 ((rd_T130 l1 x5_1).f3).length c155_3) ∧ w'.cell? ⟨(ad155.add ((x5_1).toNat * 5)).block, (ad155.add ((x5_1).toNat * 5)).off + 4, none⟩ = some (.slice A155_4 ((rd_T130 l1 x5_1).f4).length c155_4)) (ds := []) L0' kZ rfl rfl ⟨((HB.out.cell (World.block_lt_of_cell? w _ hw154_0)).trans hw154_0), ((HB.out.cell (World.block_lt_of_cell? w _ hw154_1)).trans hw154_1), ((HB.out.cell (World.block_lt_of_cell? w _ hw154_2)).trans hw154_2), ((HB.out.cell (World.block_lt_of_cell? w _ hw154_3)).trans hw154_3), ((HB.out.cell (World.block_lt_of_cell? w _ hw154_4)).trans hw154_4), ((HB.out.cell (World.block_lt_of_cell? w _ hw155_0)).trans hw155_0), ((HB.out.cell (World.block_lt_of_cell? w _ hw155_1)).trans hw155_1), ((HB.out.cell (World.block_lt_of_cell? w _ hw155_2)).trans hw155_2), ((HB.out.cell (World.block_lt_of_cell? w _ hw155_3)).trans hw155_3), ((HB.out.cell (World.block_lt_of_cell? w _ hw155_4)).trans hw155_4)⟩ (fun hHeld => ?_); refine with_tabW laws_eqItemS.tab6 laws_eqItemS.bits6 (fun HT_ HW_ => ?_)
    generalize wr.drew = w11 at HB HR154_3 HR154_4 HR155_3 HR155_4 hx154_0 hx154_1 hx154_2 hx154_3 hx154_4 hx155_0 hx155_1 hx155_2 hx155_3 hx155_4 hHeld ⊢
    refine pure_ (i := 0) (N := some 17) (v := ?_) (a' := ?_) L1' rfl rfl (any_of HT_.out kZ) (fun _ _ _ h => h) (Or.inl ⟨by rfl, ?_⟩) ?_ ?_
    rotate_left
    ·intro w'
     go_simp
     with_reducible rfl
    rotate_left
    ·simp only [Act.put, sZ1, sZ2, sZ3, i64_w, i32_w]
     rfl
    refine pure_ (i := 1) (N := some 18) (v := ?_) (a' := ?_) L2' rfl rfl (any_of HT_.out kZ) (fun _ _ _ h => h) (Or.inl ⟨by rfl, ?_⟩) ?_ ?_
    rotate_left
    ·intro w'
     go_simp
     with_reducible rfl
    rotate_left
    ·simp only [Act.put, sZ1, sZ2, sZ3, i64_w, i32_w]
     rfl
    refine pure_ (i := 2) (N := some 19) (v := ?_) (a' := ?_) L3' rfl rfl (any_of HT_.out kZ) (fun _ _ _ h => h) (Or.inl ⟨by rfl, ?_⟩) ?_ ?_
    rotate_left
    ·intro w'
     go_simp
     with_reducible rfl
    rotate_left
    ·simp only [Act.put, sZ1, sZ2, sZ3, i64_w, i32_w]
     rfl
    refine pure_ (i := 4) (N := some 21) (v := ?_) (a' := ?_) L4' rfl rfl (any_of HT_.out kZ) (fun _ _ _ h => h) (Or.inl ⟨by rfl, ?_⟩) ?_ ?_
    rotate_left
    ·intro w'
     go_simp
     with_reducible rfl
    rotate_left
    ·simp only [Act.put, sZ1, sZ2, sZ3, i64_w, i32_w]
     rfl
    refine pure_ (i := 5) (N := some 22) (v := ?_) (a' := ?_) L5' rfl rfl (any_of HT_.out kZ) (fun _ _ _ h => h) (Or.inl ⟨by rfl, ?_⟩) ?_ ?_
    rotate_left
    ·intro w'
     go_simp
     with_reducible rfl
    rotate_left
    ·simp only [Act.put, sZ1, sZ2, sZ3, i64_w, i32_w]
     rfl
    refine pure_ (i := 6) (N := some 23) (v := ?_) (a' := ?_) L6' rfl rfl (any_of HT_.out kZ) (fun _ _ _ h => h) (Or.inl ⟨by rfl, ?_⟩) ?_ ?_
    rotate_left
    ·intro w'
     go_simp
     with_reducible rfl
    rotate_left
    ·simp only [Act.put, sZ1, sZ2, sZ3, i64_w, i32_w]
     rfl
    refine take_ (i := 3) (N := some 20) (v := ?_) (a' := ?_) L7' rfl rfl (take_ofW HT_.out HW_.out kZ) (fun _ _ _ h => h) (Or.inl ⟨by rfl, ?_⟩) hHeld ?_ ?_
    rotate_left
    ·rintro w' ⟨s0, s1, s2, s3, s4, s5, s6, s7, s8, s9⟩
     go_simp
     with_reducible rfl
    rotate_left
    ·simp only [Act.put, sZ1, sZ2, sZ3, i64_w, i32_w]
     rfl
    refine take_ (i := 7) (N := some 24) (v := ?_) (a' := ?_) L8' rfl rfl (take_ofW HT_.out HW_.out kZ) (fun _ _ _ h => h) (Or.inl ⟨by rfl, ?_⟩) hHeld ?_ ?_
    rotate_left
    ·rintro w' ⟨s0, s1, s2, s3, s4, s5, s6, s7, s8, s9⟩
     go_simp
     with_reducible rfl
    rotate_left
    ·simp only [Act.put, sZ1, sZ2, sZ3, i64_w, i32_w]
     rfl
    refine one_ (i := 8) (N := some 25) L9' rfl rfl (one_of HT_.out kZ) (by decide) (fun K hK => ?_)
    refine goes_ Try.func93 kZ rfl #[.agg #[.string ((rd_T130 l0 x5_1).f0), .int .i64 ((rd_T130 l0 x5_1).f1), .bool ((rd_T130 l0 x5_1).f2), .slice A154_3 ((rd_T130 l0 x5_1).f3).length c154_3, .slice A154_4 ((rd_T130 l0 x5_1).f4).length c154_4], .agg #[.string ((rd_T130 l1 x5_1).f0), .int .i64 ((rd_T130 l1 x5_1).f1), .bool ((rd_T130 l1 x5_1).f2), .slice A155_3 ((rd_T130 l1 x5_1).f3).length c155_3, .slice A155_4 ((rd_T130 l1 x5_1).f4).length c155_4]] (by rfl) rfl rfl tZA ?_
    with_reducible refine (laws_eqItem.calls k1 ((rd_T130 l0 x5_1).f0) ((rd_T130 l0 x5_1).f1) ((rd_T130 l0 x5_1).f2) _ _ ((rd_T130 l0 x5_1).f3) _ _ ((rd_T130 l0 x5_1).f4) ((rd_T130 l1 x5_1).f0) ((rd_T130 l1 x5_1).f1) ((rd_T130 l1 x5_1).f2) _ _ ((rd_T130 l1 x5_1).f3) _ _ ((rd_T130 l1 x5_1).f4) false _ ?side1 ?side2 ?side3 ?side4 ?side5 ?side6 ?side7 ?side8 A7.out).mono ?_
    (case side1 => repeat (first | exact (Kd.C_below HR154_3.out HB.out) | (with_reducible refine Kd.C_alloc ?_ _) | (with_reducible refine Kd.C_drewN ?_ _) | (with_reducible refine Kd.C_drew ?_)))
    (case side2 => exact HC154_3.out)
    (case side3 => repeat (first | exact (Kd.C_below HR154_4.out HB.out) | (with_reducible refine Kd.C_alloc ?_ _) | (with_reducible refine Kd.C_drewN ?_ _) | (with_reducible refine Kd.C_drew ?_)))
    (case side4 => exact HC154_4.out)
    (case side5 => repeat (first | exact (Kd.C_below HR155_3.out HB.out) | (with_reducible refine Kd.C_alloc ?_ _) | (with_reducible refine Kd.C_drewN ?_ _) | (with_reducible refine Kd.C_drew ?_)))
    (case side6 => exact HC155_3.out)
    (case side7 => repeat (first | exact (Kd.C_below HR155_4.out HB.out) | (with_reducible refine Kd.C_alloc ?_ _) | (with_reducible refine Kd.C_drewN ?_ _) | (with_reducible refine Kd.C_drew ?_)))
    (case side8 => exact HC155_4.out)
    rintro e w12 ⟨rfl, hb⟩
    refine ⟨_, rfl, ?_⟩
    replace HB := aZ (below_step (lZB HB.out) hb)
    (try clear hb)
    (try clear hb2)
    (try clear hk)
    (try clear hi)
    refine hK.out _ _ ⟨((HB.out.cell (World.block_lt_of_cell? w _ hw154_0)).trans hw154_0), ((HB.out.cell (World.block_lt_of_cell? w _ hw154_1)).trans hw154_1), ((HB.out.cell (World.block_lt_of_cell? w _ hw154_2)).trans hw154_2), ((HB.out.cell (World.block_lt_of_cell? w _ hw154_3)).trans hw154_3), ((HB.out.cell (World.block_lt_of_cell? w _ hw154_4)).trans hw154_4), ((HB.out.cell (World.block_lt_of_cell? w _ hw155_0)).trans hw155_0), ((HB.out.cell (World.block_lt_of_cell? w _ hw155_1)).trans hw155_1), ((HB.out.cell (World.block_lt_of_cell? w _ hw155_2)).trans hw155_2), ((HB.out.cell (World.block_lt_of_cell? w _ hw155_3)).trans hw155_3), ((HB.out.cell (World.block_lt_of_cell? w _ hw155_4)).trans hw155_4)⟩ (fun hHeld => ?_)
    clear hK K
    refine norm_ (a' := ?_) ?_ ?_
    rotate_left
    ·show Act.put _ (some 25) _ = _
     simp only [Act.put, sZ1, sZ2, sZ3, i64_w, i32_w]
     rfl
    refine pure_ (i := 9) (N := some 26) (v := ?_) (a' := ?_) L10' rfl rfl (any_of HT_.out kZ) (fun _ _ _ h => h) (Or.inl ⟨by rfl, ?_⟩) ?_ ?_
    rotate_left
    ·intro w'
     go_simp
     with_reducible rfl
    rotate_left
    ·simp only [Act.put, sZ1, sZ2, sZ3, i64_w, i32_w]
     rfl
    refine done_ (done_of HT_.out kZ) ?_
    try go_wp2
    go_ret
    exact ⟨tZC, bZ⟩
   subst c8
   have H1 : (laws_eqItemS.l0 k1 l0 l1 (wrap64 (x5_1 + 1))) = some r := by rw [if_pos rfl] at H; exact H
   clear H
   have H := H1
   clear H1
   have H' := Aside0.mk H
   clear H
   try go_wp2
   replace HB := aZ (below_drew1 HB.out)
   have p154 : 0 ≤ (x5_1 : Int) := of_decide_eq_true tZE
   have q154 : x5_1 < (l0.length : Int) := of_decide_eq_true tZE
   obtain ⟨ad154, A154_3, c154_3, A154_4, c154_4, e154, hx154_0, hx154_1, hx154_2, hx154_3, hx154_4, hl154_3, hi154_3, hl154_4, hi154_4⟩ := at_T130 HR0.out x5_1 p154 q154
   have hw154_4 := hx154_4
   have hw154_3 := hx154_3
   have hw154_2 := hx154_2
   have hw154_1 := hx154_1
   have hw154_0 := hx154_0
   have hz154_3 := hx154_3
   have hz154_4 := hx154_4
   cases e154
   replace hx154_0 := cZ HB hx154_0
   replace hx154_1 := cZ HB hx154_1
   replace hx154_2 := cZ HB hx154_2
   replace hx154_3 := cZ HB hx154_3
   replace hx154_4 := cZ HB hx154_4
   have HR154_3 := Aside0.mk hi154_3
   have HC154_3 := Aside0.mk hl154_3
   clear hi154_3 hl154_3
   have HR154_4 := Aside0.mk hi154_4
   have HC154_4 := Aside0.mk hl154_4
   clear hi154_4 hl154_4
   replace p154 := eq_true p154
   replace q154 := eq_true q154
   have p155 : 0 ≤ (x5_1 : Int) := of_decide_eq_true tZE
   have q155 : x5_1 < (l1.length : Int) := of_decide_eq_true tZE
   obtain ⟨ad155, A155_3, c155_3, A155_4, c155_4, e155, hx155_0, hx155_1, hx155_2, hx155_3, hx155_4, hl155_3, hi155_3, hl155_4, hi155_4⟩ := at_T130 HR1.out x5_1 p155 q155
   have hw155_4 := hx155_4
   have hw155_3 := hx155_3
   have hw155_2 := hx155_2
   have hw155_1 := hx155_1
   have hw155_0 := hx155_0
   have hz155_3 := hx155_3
   have hz155_4 := hx155_4
   cases e155
   replace hx155_0 := cZ HB hx155_0
   replace hx155_1 := cZ HB hx155_1
   replace hx155_2 := cZ HB hx155_2
   replace hx155_3 := cZ HB hx155_3
   replace hx155_4 := cZ HB hx155_4
   have HR155_3 := Aside0.mk hi155_3
   have HC155_3 := Aside0.mk hl155_3
   clear hi155_3 hl155_3
   have HR155_4 := Aside0.mk hi155_4
   have HC155_4 := Aside0.mk hl155_4
   clear hi155_4 hl155_4
   replace p155 := eq_true p155
   replace q155 := eq_true q155
   refine start_ (n := 10) (S := fun w' => w'.cell? (ad154.add ((x5_1).toNat * 5)) = some (.string ((rd_T130 l0 x5_1).f0)) ∧ w'.cell? ⟨(ad154.add ((x5_1).toNat * 5)).block, (ad154.add ((x5_1).toNat * 5)).off + 1, none⟩ = some (.int .i64 ((rd_T130 l0 x5_1).f1)) ∧ w'.cell? ⟨(ad154.add ((x5_1).toNat * 5)).block, (ad154.add ((x5_1).toNat * 5)).off + 2, none⟩ = some (.bool ((rd_T130 l0 x5_1).f2)) ∧ w'.cell? ⟨(ad154.add ((x5_1).toNat * 5)).block, (ad154.add ((x5_1).toNat * 5)).off + 3, none⟩ = some (.slice A154_3 ((rd_T130 l0 x5_1).f3).length c154_3) ∧ w'.cell? ⟨(ad154.add ((x5_1).toNat * 5)).block, (ad154.add ((x5_1).toNat * 5)).off + 4, none⟩ = some (.slice A154_4 ((rd_T130 l0 x5_1).f4).length c154_4) ∧ w'.cell? (ad155.add ((x5_1).toNat * 5)) = some (.string ((rd_T130 l1 x5_1).f0)) ∧ w'.cell? ⟨(ad155.add ((x5_1).toNat * 5)).block, (ad155.add ((x5_1).toNat * 5)).off + 1, none⟩ = some (.int .i64 ((rd_T130 l1 x5_1).f1)) ∧ w'.cell? ⟨(ad155.add ((x5_1).toNat * 5)).block, (ad155.add ((x5_1).toNat * 5)).off + 2, none⟩ = some (.bool ((rd_T130 l1 x5_1).f2)) ∧ w'.cell? ⟨(ad155.add ((x5_1).toNat * 5)).block, (ad155.add ((x5_1).toNat * 5)).off + 3, none⟩ = some (.slice A155_3 ((rd_T130 l1 x5_1).f3).length c155_3) ∧ w'.cell? ⟨(ad155.add ((x5_1).toNat * 5)).block, (ad155.add ((x5_1).toNat * 5)).off + 4, none⟩ = some (.slice A155_4 ((rd_T130 l1 x5_1).f4).length c155_4)) (ds := []) L0' kZ rfl rfl ⟨((HB.out.cell (World.block_lt_of_cell? w _ hw154_0)).trans hw154_0), ((HB.out.cell (World.block_lt_of_cell? w _ hw154_1)).trans hw154_1), ((HB.out.cell (World.block_lt_of_cell? w _ hw154_2)).trans hw154_2), ((HB.out.cell (World.block_lt_of_cell? w _ hw154_3)).trans hw154_3), ((HB.out.cell (World.block_lt_of_cell? w _ hw154_4)).trans hw154_4), ((HB.out.cell (World.block_lt_of_cell? w _ hw155_0)).trans hw155_0), ((HB.out.cell (World.block_lt_of_cell? w _ hw155_1)).trans hw155_1), ((HB.out.cell (World.block_lt_of_cell? w _ hw155_2)).trans hw155_2), ((HB.out.cell (World.block_lt_of_cell? w _ hw155_3)).trans hw155_3), ((HB.out.cell (World.block_lt_of_cell? w _ hw155_4)).trans hw155_4)⟩ (fun hHeld => ?_); refine with_tabW laws_eqItemS.tab6 laws_eqItemS.bits6 (fun HT_ HW_ => ?_)
   generalize wr.drew = w9 at HB HR154_3 HR154_4 HR155_3 HR155_4 hx154_0 hx154_1 hx154_2 hx154_3 hx154_4 hx155_0 hx155_1 hx155_2 hx155_3 hx155_4 hHeld ⊢
   refine pure_ (i := 0) (N := some 17) (v := ?_) (a' := ?_) L1' rfl rfl (any_of HT_.out kZ) (fun _ _ _ h => h) (Or.inl ⟨by rfl, ?_⟩) ?_ ?_
   rotate_left
   ·intro w'
    go_simp
    with_reducible rfl
   rotate_left
   ·simp only [Act.put, sZ1, sZ2, sZ3, i64_w, i32_w]
    rfl
   refine pure_ (i := 1) (N := some 18) (v := ?_) (a' := ?_) L2' rfl rfl (any_of HT_.out kZ) (fun _ _ _ h => h) (Or.inl ⟨by rfl, ?_⟩) ?_ ?_
   rotate_left
   ·intro w'
    go_simp
    with_reducible rfl
   rotate_left
   ·simp only [Act.put, sZ1, sZ2, sZ3, i64_w, i32_w]
    rfl
   refine pure_ (i := 2) (N := some 19) (v := ?_) (a' := ?_) L3' rfl rfl (any_of HT_.out kZ) (fun _ _ _ h => h) (Or.inl ⟨by rfl, ?_⟩) ?_ ?_
   rotate_left
   ·intro w'
    go_simp
    with_reducible rfl
   rotate_left
   ·simp only [Act.put, sZ1, sZ2, sZ3, i64_w, i32_w]
    rfl
   refine pure_ (i := 4) (N := some 21) (v := ?_) (a' := ?_) L4' rfl rfl (any_of HT_.out kZ) (fun _ _ _ h => h) (Or.inl ⟨by rfl, ?_⟩) ?_ ?_
   rotate_left
   ·intro w'
    go_simp
    with_reducible rfl
   rotate_left
   ·simp only [Act.put, sZ1, sZ2, sZ3, i64_w, i32_w]
    rfl
   refine pure_ (i := 5) (N := some 22) (v := ?_) (a' := ?_) L5' rfl rfl (any_of HT_.out kZ) (fun _ _ _ h => h) (Or.inl ⟨by rfl, ?_⟩) ?_ ?_
   rotate_left
   ·intro w'
    go_simp
    with_reducible rfl
   rotate_left
   ·simp only [Act.put, sZ1, sZ2, sZ3, i64_w, i32_w]
    rfl
   refine pure_ (i := 6) (N := some 23) (v := ?_) (a' := ?_) L6' rfl rfl (any_of HT_.out kZ) (fun _ _ _ h => h) (Or.inl ⟨by rfl, ?_⟩) ?_ ?_
   rotate_left
   ·intro w'
    go_simp
    with_reducible rfl
   rotate_left
   ·simp only [Act.put, sZ1, sZ2, sZ3, i64_w, i32_w]
    rfl
   refine take_ (i := 3) (N := some 20) (v := ?_) (a' := ?_) L7' rfl rfl (take_ofW HT_.out HW_.out kZ) (fun _ _ _ h => h) (Or.inl ⟨by rfl, ?_⟩) hHeld ?_ ?_
   rotate_left
   ·rintro w' ⟨s0, s1, s2, s3, s4, s5, s6, s7, s8, s9⟩
    go_simp
    with_reducible rfl
   rotate_left
   ·simp only [Act.put, sZ1, sZ2, sZ3, i64_w, i32_w]
    rfl
   refine take_ (i := 7) (N := some 24) (v := ?_) (a' := ?_) L8' rfl rfl (take_ofW HT_.out HW_.out kZ) (fun _ _ _ h => h) (Or.inl ⟨by rfl, ?_⟩) hHeld ?_ ?_
   rotate_left
   ·rintro w' ⟨s0, s1, s2, s3, s4, s5, s6, s7, s8, s9⟩
    go_simp
    with_reducible rfl
   rotate_left
   ·simp only [Act.put, sZ1, sZ2, sZ3, i64_w, i32_w]
    rfl
   refine one_ (i := 8) (N := some 25) L9' rfl rfl (one_of HT_.out kZ) (by decide) (fun K hK => ?_)
   refine goes_ Try.func93 kZ rfl #[.agg #[.string ((rd_T130 l0 x5_1).f0), .int .i64 ((rd_T130 l0 x5_1).f1), .bool ((rd_T130 l0 x5_1).f2), .slice A154_3 ((rd_T130 l0 x5_1).f3).length c154_3, .slice A154_4 ((rd_T130 l0 x5_1).f4).length c154_4], .agg #[.string ((rd_T130 l1 x5_1).f0), .int .i64 ((rd_T130 l1 x5_1).f1), .bool ((rd_T130 l1 x5_1).f2), .slice A155_3 ((rd_T130 l1 x5_1).f3).length c155_3, .slice A155_4 ((rd_T130 l1 x5_1).f4).length c155_4]] (by rfl) rfl rfl tZA ?_
   with_reducible refine (laws_eqItem.calls k1 ((rd_T130 l0 x5_1).f0) ((rd_T130 l0 x5_1).f1) ((rd_T130 l0 x5_1).f2) _ _ ((rd_T130 l0 x5_1).f3) _ _ ((rd_T130 l0 x5_1).f4) ((rd_T130 l1 x5_1).f0) ((rd_T130 l1 x5_1).f1) ((rd_T130 l1 x5_1).f2) _ _ ((rd_T130 l1 x5_1).f3) _ _ ((rd_T130 l1 x5_1).f4) true _ ?side1 ?side2 ?side3 ?side4 ?side5 ?side6 ?side7 ?side8 A7.out).mono ?_
   (case side1 => repeat (first | exact (Kd.C_below HR154_3.out HB.out) | (with_reducible refine Kd.C_alloc ?_ _) | (with_reducible refine Kd.C_drewN ?_ _) | (with_reducible refine Kd.C_drew ?_)))
   (case side2 => exact HC154_3.out)
   (case side3 => repeat (first | exact (Kd.C_below HR154_4.out HB.out) | (with_reducible refine Kd.C_alloc ?_ _) | (with_reducible refine Kd.C_drewN ?_ _) | (with_reducible refine Kd.C_drew ?_)))
   (case side4 => exact HC154_4.out)
   (case side5 => repeat (first | exact (Kd.C_below HR155_3.out HB.out) | (with_reducible refine Kd.C_alloc ?_ _) | (with_reducible refine Kd.C_drewN ?_ _) | (with_reducible refine Kd.C_drew ?_)))
   (case side6 => exact HC155_3.out)
   (case side7 => repeat (first | exact (Kd.C_below HR155_4.out HB.out) | (with_reducible refine Kd.C_alloc ?_ _) | (with_reducible refine Kd.C_drewN ?_ _) | (with_reducible refine Kd.C_drew ?_)))
   (case side8 => exact HC155_4.out)
   rintro e w10 ⟨rfl, hb⟩
   refine ⟨_, rfl, ?_⟩
   replace HB := aZ (below_step (lZB HB.out) hb)
   (try clear hb)
   (try clear hb2)
   (try clear hk)
   (try clear hi)
   refine hK.out _ _ ⟨((HB.out.cell (World.block_lt_of_cell? w _ hw154_0)).trans hw154_0), ((HB.out.cell (World.block_lt_of_cell? w _ hw154_1)).trans hw154_1), ((HB.out.cell (World.block_lt_of_cell? w _ hw154_2)).trans hw154_2), ((HB.out.cell (World.block_lt_of_cell? w _ hw154_3)).trans hw154_3), ((HB.out.cell (World.block_lt_of_cell? w _ hw154_4)).trans hw154_4), ((HB.out.cell (World.block_lt_of_cell? w _ hw155_0)).trans hw155_0), ((HB.out.cell (World.block_lt_of_cell? w _ hw155_1)).trans hw155_1), ((HB.out.cell (World.block_lt_of_cell? w _ hw155_2)).trans hw155_2), ((HB.out.cell (World.block_lt_of_cell? w _ hw155_3)).trans hw155_3), ((HB.out.cell (World.block_lt_of_cell? w _ hw155_4)).trans hw155_4)⟩ (fun hHeld => ?_)
   clear hK K
   refine norm_ (a' := ?_) ?_ ?_
   rotate_left
   ·show Act.put _ (some 25) _ = _
    simp only [Act.put, sZ1, sZ2, sZ3, i64_w, i32_w]
    rfl
   refine pure_ (i := 9) (N := some 26) (v := ?_) (a' := ?_) L10' rfl rfl (any_of HT_.out kZ) (fun _ _ _ h => h) (Or.inl ⟨by rfl, ?_⟩) ?_ ?_
   rotate_left
   ·intro w'
    go_simp
    with_reducible rfl
   rotate_left
   ·simp only [Act.put, sZ1, sZ2, sZ3, i64_w, i32_w]
    rfl
   refine done_ (done_of HT_.out kZ) ?_
   try go_wp2
   go_roundg k1
   case measure => have := HK1.out; omega
   case rel => exact ⟨(wrap64 (x5_1 + 1)), tZB, H', ⟨by have := HK1.out; omega⟩, ⟨bZ⟩⟩
def laws_markText.l0 : Nat → Int → ByteArray → Option (ByteArray)
  | 0, _, _ => none
  | k + 1, x0, x3 => if x0 > 0 then ((some (([(wrap64 (48 + (Int.tmod x0 10))) % 256] : List Int) : List Int)).bind fun y157 => (if (strOfNums y157).size + x3.size ≤ 9223372036854775807 then (laws_markText.l0 k (wrap64 (Int.tdiv x0 10)) ((strOfNums y157) ++ x3)) else (none))) else (if 1 + x3.size ≤ 9223372036854775807 then (some ((⟨#[109]⟩ : ByteArray) ++ x3)) else (none))
def laws_markText.f (k : Nat) (a0 : Int) : Option (ByteArray) := if a0 ≤ 0 then (some (⟨#[109, 48]⟩ : ByteArray)) else (laws_markText.l0 k a0 (⟨#[]⟩ : ByteArray))
theorem laws_markText.mono_l : ∀ k, (∀ y0 y1, LeO (laws_markText.l0 k y0 y1) (laws_markText.l0 (k + 1) y0 y1))
  | 0 => fun _ _ r h => by simp [laws_markText.l0] at h
  | k + 1 => by
    have ih0 := laws_markText.mono_l k
    · intro y0 y1
      unfold laws_markText.l0
      repeat' first
      | (with_reducible exact ih0 _ _)
      | (with_reducible exact LeO.refl _)
      | (with_reducible exact LeO.none _)
      | (with_reducible refine LeO.ite ?_ ?_)
      | (with_reducible refine LeO.bind ?_ (fun _ => ?_))
      | exact ih0 _ _
      | exact LeO.none _
      | refine LeO.ite ?_ ?_
      | refine LeO.bind ?_ (fun _ => ?_)
theorem laws_markText.mono : ∀ a0 k, LeO (laws_markText.f k a0) (laws_markText.f (k + 1) a0) := by
 intro a0 k
 have ih0 := laws_markText.mono_l k
 unfold laws_markText.f
 repeat' first
     | (with_reducible exact ih0 _ _)
     | (with_reducible exact LeO.refl _)
     | (with_reducible exact LeO.none _)
     | (with_reducible refine LeO.ite ?_ ?_)
     | (with_reducible refine LeO.bind ?_ (fun _ => ?_))
     | exact ih0 _ _
     | exact LeO.none _
     | refine LeO.ite ?_ ?_
     | refine LeO.bind ?_ (fun _ => ?_)
set_option maxHeartbeats 8000000 in
set_option maxRecDepth 100000 in
theorem laws_markText.calls (k : Nat) (a0 : Int) (r : ByteArray) (w : World) (h : laws_markText.f k a0 = some r) :
    Calls Try.prog 94 #[.int .i64 a0] w fun e w' => e = .returned (.string r) ∧ Below w.heap.size w w' := by
 have HB := aZ (Below.refl w.heap.size w)
 have H : (if a0 ≤ 0 then (some (⟨#[109, 48]⟩ : ByteArray)) else (laws_markText.l0 k a0 (⟨#[]⟩ : ByteArray))) = some r := h
 clear h
 by_cases c2 : a0 ≤ 0
 ·rw [if_pos c2] at H
  have c2b0 := decide_eq_true c2
  clear c2
  obtain rfl := Option.some.inj H
  go_enter Try.func94, Try.ntmps94
  go_wp2
  go_ret
  exact ⟨tZC, bZ⟩
 rw [if_neg c2] at H
 have c2b0 := decide_eq_false c2
 clear c2
 have H' := Aside0.mk H
 clear H
 go_enter Try.func94, Try.ntmps94
 go_wp2
 go_loopg [0, 3] k (fun kq v0 v3 w' => ∃ (x0_1 : Int) (x3_1 : ByteArray), v0 = .int .i64 x0_1 ∧ v3 = .string x3_1 ∧ Aside0 (laws_markText.l0 kq x0_1 x3_1 = some r) ∧ Aside0 (kq ≤ k) ∧ Aside0 (Below w.heap.size w w'))
 case atStart => exact ⟨(a0), ((⟨#[]⟩ : ByteArray)), tZB, tZB, H', ⟨Nat.le_refl _⟩, ⟨bZ⟩⟩
 case round =>
  clear H'
  try clear c2
  try clear c2b0
  try clear p2
  obtain ⟨x0_1, x3_1, rfl, rfl, HA, HK1, HB⟩ := hrel
  cases gk with
  | zero => exact absurd HA.out (by simp [laws_markText.l0])
  | succ k1 =>
   have H := HA.out
   clear HA
   simp only [laws_markText.l0] at H
   by_cases c3 : x0_1 > 0
   rotate_left
   ·rw [if_neg c3] at H
    have c3b0 : decide (0 < x0_1) = false := decide_eq_false c3
    clear c3
    by_cases c8 : 1 + x3_1.size ≤ 9223372036854775807
    rotate_left
    ·rw [if_neg c8] at H
     exact absurd H (by simp)
    rw [if_pos c8] at H
    have c8b0 := eq_true c8
    have c8b1 := decide_eq_true c8
    try have c8b2 := eq_false (Nat.not_lt.2 c8)
    obtain rfl := Option.some.inj H
    go_wp2
    go_ret
    exact ⟨tZC, bZ⟩
   rw [if_pos c3] at H
   have c3b0 : decide (0 < x0_1) = true := decide_eq_true c3
   clear c3
   obtain ⟨y157, hy157⟩ : ∃ y_ : List Int, y_ = (([(wrap64 (48 + (Int.tmod x0_1 10))) % 256] : List Int)) := ⟨_, rfl⟩
   replace H : (if (strOfNums y157).size + x3_1.size ≤ 9223372036854775807 then (laws_markText.l0 k1 (wrap64 (Int.tdiv x0_1 10)) ((strOfNums y157) ++ x3_1)) else (none)) = some r := by first | (rw [hy157]; with_reducible exact H) | (have H2_ := (Option.bind_some _ _).symm.trans H; rw [hy157]; with_reducible exact H2_) | (have H2_ := (Option.bind_some _ _).symm.trans H; with_reducible exact H2_) | with_reducible exact H | (rw [hy157]; exact H) | exact H
   have Ny157 := Aside0.mk hy157
   clear hy157
   by_cases c4 : (strOfNums y157).size + x3_1.size ≤ 9223372036854775807
   rotate_left
   ·rw [if_neg c4] at H
    exact absurd H (by simp)
   rw [if_pos c4] at H
   have c4b0 := eq_true c4
   have c4b1 := decide_eq_true c4
   try have c4b2 := eq_false (Nat.not_lt.2 c4)
   have H' := Aside0.mk H
   clear H
   go_wp2_with (first | ((with_reducible refine gate_dst (N := 12) rfl ?_); refine Kd.R_lit (Kd.int .u8) _ 5 ?hg (N := 12) ?hd (xs := ([(wrap64 (48 + (Int.tmod x0_1 10))) % 256] : List Int)) (inner := [.int .u8 ((wrap64 (48 + (Int.tmod x0_1 10))) % 256)]) (ok := fun _ => True) (okp := fun _ => True) ?hr ?hp (fun _ hk => hk) trivial (Below.refl _ _) (Nat.le_refl _) (by simp) ?_; (case hd => rfl); (case hg => rfl); (case hr => first | (go_simp; done) | (go_simp; rfl)); (case hp => exact (Reps.one (show Kd.M (Kd.int .u8) _ _ _ ((wrap64 (48 + (Int.tmod x0_1 10))) % 256) [.int .u8 ((wrap64 (48 + (Int.tmod x0_1 10))) % 256)] from rfl) (Reps.none _ _))); intro v158 w5 ho6 hb hg_ hnew_; clear hg_ hnew_; (first | rw [← Ny157.out] at ho6 | (simp only [Int.reduceToNat] at ho6; rw [← Ny157.out] at ho6)); have HO159 := aZ (Kd.R_lower ho6 (below_size (lZB HB.out))); replace HB := aZ (below_step (lZB HB.out) hb); clear hb ho6; have hcv7 := own_string (P := Try.prog) Try.underlying204 Try.underlying5 Try.underlying9 (Kd.own_of_R HO159.out)))
   go_roundg k1
   case measure => have := HK1.out; omega
   case rel => exact ⟨(wrap64 (Int.tdiv x0_1 10)), ((strOfNums y157) ++ x3_1), tZB, tZB, H', ⟨by have := HK1.out; omega⟩, ⟨bZ⟩⟩
def laws_markPartS.l0 : Nat → List (S149) → Int → Int → Option (Int × (List (S149)))
  | 0, _, _, _ => none
  | k + 1, x0, x1, x5 => if x5 < (x0.length : Int) then (if 0 ≤ x5 then ((some (x0.set (x5 : Int).toNat (⟨x1, (rd_T149 x0 x5).f1, (rd_T149 x0 x5).f2, (rd_T149 x0 x5).f3, (rd_T149 x0 x5).f4, (rd_T149 x0 x5).f5⟩ : S149) : List (S149))).bind fun y160 => ((some (y160.set (x5 : Int).toNat (⟨(rd_T149 y160 x5).f0, wrap64 (x1 + 1), (rd_T149 y160 x5).f2, (rd_T149 y160 x5).f3, (rd_T149 y160 x5).f4, (rd_T149 y160 x5).f5⟩ : S149) : List (S149))).bind fun y161 => ((some (y161.set (x5 : Int).toNat (⟨(rd_T149 y161 x5).f0, (rd_T149 y161 x5).f1, wrap64 ((wrap64 (x1 + 1)) + 1), (rd_T149 y161 x5).f3, (rd_T149 y161 x5).f4, (rd_T149 y161 x5).f5⟩ : S149) : List (S149))).bind fun y162 => ((some (y162.set (x5 : Int).toNat (⟨(rd_T149 y162 x5).f0, (rd_T149 y162 x5).f1, (rd_T149 y162 x5).f2, wrap64 ((wrap64 ((wrap64 (x1 + 1)) + 1)) + 1), (rd_T149 y162 x5).f4, (rd_T149 y162 x5).f5⟩ : S149) : List (S149))).bind fun y163 => ((some (y163.set (x5 : Int).toNat (⟨(rd_T149 y163 x5).f0, (rd_T149 y163 x5).f1, (rd_T149 y163 x5).f2, (rd_T149 y163 x5).f3, wrap64 ((wrap64 ((wrap64 ((wrap64 (x1 + 1)) + 1)) + 1)) + 1), (rd_T149 y163 x5).f5⟩ : S149) : List (S149))).bind fun y164 => (laws_markPartS.l0 k (y164.set (x5 : Int).toNat (⟨(rd_T149 y164 x5).f0, (rd_T149 y164 x5).f1, (rd_T149 y164 x5).f2, (rd_T149 y164 x5).f3, (rd_T149 y164 x5).f4, wrap64 ((wrap64 ((wrap64 ((wrap64 ((wrap64 (x1 + 1)) + 1)) + 1)) + 1)) + 1)⟩ : S149)) (wrap64 ((wrap64 ((wrap64 ((wrap64 ((wrap64 ((wrap64 (x1 + 1)) + 1)) + 1)) + 1)) + 1)) + 1)) (wrap64 (x5 + 1)))))))) else (none)) else (some (x1, x0))
def laws_markPartS.f (k : Nat) (l0 : List (S149)) (a1 : Int) : Option (Int × (List (S149))) := laws_markPartS.l0 k l0 a1 0
theorem laws_markPartS.mono_l : ∀ k, (∀ y0 y1 y2, LeO (laws_markPartS.l0 k y0 y1 y2) (laws_markPartS.l0 (k + 1) y0 y1 y2))
  | 0 => fun _ _ _ r h => by simp [laws_markPartS.l0] at h
  | k + 1 => by
    have ih0 := laws_markPartS.mono_l k
    · intro y0 y1 y2
      unfold laws_markPartS.l0
      repeat' first
      | (with_reducible exact ih0 _ _ _)
      | (with_reducible exact LeO.refl _)
      | (with_reducible exact LeO.none _)
      | (with_reducible refine LeO.ite ?_ ?_)
      | (with_reducible refine LeO.bind ?_ (fun _ => ?_))
      | exact ih0 _ _ _
      | exact LeO.none _
      | refine LeO.ite ?_ ?_
      | refine LeO.bind ?_ (fun _ => ?_)
theorem laws_markPartS.mono : ∀ a0 a1 k, LeO (laws_markPartS.f k a0 a1) (laws_markPartS.f (k + 1) a0 a1) := by
 intro a0 a1 k
 have ih0 := laws_markPartS.mono_l k
 unfold laws_markPartS.f
 repeat' first
     | (with_reducible exact ih0 _ _ _)
     | (with_reducible exact LeO.refl _)
     | (with_reducible exact LeO.none _)
     | (with_reducible refine LeO.ite ?_ ?_)
     | (with_reducible refine LeO.bind ?_ (fun _ => ?_))
     | exact ih0 _ _ _
     | exact LeO.none _
     | refine LeO.ite ?_ ?_
     | refine LeO.bind ?_ (fun _ => ?_)
set_option maxHeartbeats 8000000 in
set_option maxRecDepth 100000 in
theorem laws_markPartS.calls (k : Nat) (P0_ : Nat → Prop) (u9000_ : Value) (l0 : List (S149)) (a1 : Int) (r1 : Int) (r2 : List (S149)) (w0 w : World) (hB : Below w0.heap.size w0 w) (ho0 : Kd.R k149 149 w w0.heap.size P0_ u9000_ l0) (h : laws_markPartS.f k l0 a1 = some (r1, r2)) :
    Calls Try.prog 95 #[u9000_, .int .i64 a1] w fun e w' => e = .returned (.int .i64 r1) ∧ Kd.R k149 149 w' w0.heap.size (fun k_ => (P0_ k_ ∨ w.heap.size ≤ k_)) u9000_ r2 ∧ Below w0.heap.size w0 w' ∧ Kept w w' (fun k_ => P0_ k_) := by
 have HO0 := aZ (show Kd.R k149 149 w w0.heap.size (fun k_ => (P0_ k_ ∨ w.heap.size ≤ k_)) u9000_ l0 from Kd.R_mono ho0 (fun k_ hk => (.inl hk)))
 have HK := aZ (Kept.refl w (fun k_ => P0_ k_))
 have HW0 := Aside0.mk hB.size
 have HB := Aside0.mk hB
 clear hB
 have H : (laws_markPartS.l0 k l0 a1 0) = some (r1, r2) := h
 clear h
 have H' := Aside0.mk H
 clear H
 go_enter Try.func95, Try.ntmps95
 go_wp2
 go_loopg [1, 5] k (fun kq v1 v5 w' => ∃ (x0_1 : List (S149)) (x1_1 : Int) (x5_1 : Int), v1 = .int .i64 x1_1 ∧ v5 = .int .i64 x5_1 ∧ Aside0 (laws_markPartS.l0 kq x0_1 x1_1 x5_1 = some (r1, r2)) ∧ Aside0 (kq ≤ k) ∧ Aside0 (Kd.R k149 149 w' w0.heap.size (fun k_ => (P0_ k_ ∨ w.heap.size ≤ k_)) u9000_ x0_1) ∧ Aside0 (Kept w w' (fun k_ => P0_ k_)) ∧ Aside0 (Below w0.heap.size w0 w'))
 case atStart => exact ⟨(l0), (a1), (0), tZB, tZB, H', ⟨Nat.le_refl _⟩, ⟨lZR HO0.out⟩, ⟨by repeat (first | (with_reducible first | exact HK.out | apply Kept.alloc | apply Kept.drewN | apply Kept.drew) | exact HK.out)⟩, ⟨bZ⟩⟩
 case round =>
  clear H'
  try clear p2
  obtain ⟨x0_1, x1_1, x5_1, rfl, rfl, HA, HK1, HO_0, HK, HB⟩ := hrel
  cases gk with
  | zero => exact absurd HA.out (by simp [laws_markPartS.l0])
  | succ k1 =>
   have H := HA.out
   clear HA
   simp only [laws_markPartS.l0] at H
   by_cases c3 : x5_1 < (x0_1.length : Int)
   rotate_left
   ·rw [if_neg c3] at H
    have c3b0 := decide_eq_false c3
    clear c3
    simp only [Option.some.injEq, Prod.mk.injEq] at H
    obtain ⟨rfl, rfl⟩ := H
    obtain ⟨Ao24, co24, eo24⟩ := Kd.R_slice HO_0.out
    subst eo24
    go_wp2
    go_ret
    exact ⟨tZC, lZR HO_0.out, by repeat (first | (with_reducible first | exact HB.out | apply below_alloc | apply pw_below_drewN | apply below_drew1) | exact HB.out), by repeat (first | (with_reducible first | exact HK.out | apply Kept.alloc | apply Kept.drewN | apply Kept.drew) | exact HK.out)⟩
   rw [if_pos c3] at H
   have c3b0 := decide_eq_true c3
   clear c3
   by_cases c4 : 0 ≤ x5_1
   rotate_left
   ·rw [if_neg c4] at H
    exact absurd H (by simp)
   rw [if_pos c4] at H
   have c4b0 := decide_eq_true c4
   clear c4
   obtain ⟨y160, hy160⟩ : ∃ y_ : List (S149), y_ = (x0_1.set (x5_1 : Int).toNat (⟨x1_1, (rd_T149 x0_1 x5_1).f1, (rd_T149 x0_1 x5_1).f2, (rd_T149 x0_1 x5_1).f3, (rd_T149 x0_1 x5_1).f4, (rd_T149 x0_1 x5_1).f5⟩ : S149)) := ⟨_, rfl⟩
   replace H : ((some (y160.set (x5_1 : Int).toNat (⟨(rd_T149 y160 x5_1).f0, wrap64 (x1_1 + 1), (rd_T149 y160 x5_1).f2, (rd_T149 y160 x5_1).f3, (rd_T149 y160 x5_1).f4, (rd_T149 y160 x5_1).f5⟩ : S149) : List (S149))).bind fun y161 => ((some (y161.set (x5_1 : Int).toNat (⟨(rd_T149 y161 x5_1).f0, (rd_T149 y161 x5_1).f1, wrap64 ((wrap64 (x1_1 + 1)) + 1), (rd_T149 y161 x5_1).f3, (rd_T149 y161 x5_1).f4, (rd_T149 y161 x5_1).f5⟩ : S149) : List (S149))).bind fun y162 => ((some (y162.set (x5_1 : Int).toNat (⟨(rd_T149 y162 x5_1).f0, (rd_T149 y162 x5_1).f1, (rd_T149 y162 x5_1).f2, wrap64 ((wrap64 ((wrap64 (x1_1 + 1)) + 1)) + 1), (rd_T149 y162 x5_1).f4, (rd_T149 y162 x5_1).f5⟩ : S149) : List (S149))).bind fun y163 => ((some (y163.set (x5_1 : Int).toNat (⟨(rd_T149 y163 x5_1).f0, (rd_T149 y163 x5_1).f1, (rd_T149 y163 x5_1).f2, (rd_T149 y163 x5_1).f3, wrap64 ((wrap64 ((wrap64 ((wrap64 (x1_1 + 1)) + 1)) + 1)) + 1), (rd_T149 y163 x5_1).f5⟩ : S149) : List (S149))).bind fun y164 => (laws_markPartS.l0 k1 (y164.set (x5_1 : Int).toNat (⟨(rd_T149 y164 x5_1).f0, (rd_T149 y164 x5_1).f1, (rd_T149 y164 x5_1).f2, (rd_T149 y164 x5_1).f3, (rd_T149 y164 x5_1).f4, wrap64 ((wrap64 ((wrap64 ((wrap64 ((wrap64 (x1_1 + 1)) + 1)) + 1)) + 1)) + 1)⟩ : S149)) (wrap64 ((wrap64 ((wrap64 ((wrap64 ((wrap64 ((wrap64 (x1_1 + 1)) + 1)) + 1)) + 1)) + 1)) + 1)) (wrap64 (x5_1 + 1))))))) = some (r1, r2) := by first | (rw [hy160]; with_reducible exact H) | (have H2_ := (Option.bind_some _ _).symm.trans H; rw [hy160]; with_reducible exact H2_) | (have H2_ := (Option.bind_some _ _).symm.trans H; with_reducible exact H2_) | with_reducible exact H | (rw [hy160]; exact H) | exact H
   have Ny160 := Aside0.mk hy160
   clear hy160
   obtain ⟨y161, hy161⟩ : ∃ y_ : List (S149), y_ = (y160.set (x5_1 : Int).toNat (⟨(rd_T149 y160 x5_1).f0, wrap64 (x1_1 + 1), (rd_T149 y160 x5_1).f2, (rd_T149 y160 x5_1).f3, (rd_T149 y160 x5_1).f4, (rd_T149 y160 x5_1).f5⟩ : S149)) := ⟨_, rfl⟩
   replace H : ((some (y161.set (x5_1 : Int).toNat (⟨(rd_T149 y161 x5_1).f0, (rd_T149 y161 x5_1).f1, wrap64 ((wrap64 (x1_1 + 1)) + 1), (rd_T149 y161 x5_1).f3, (rd_T149 y161 x5_1).f4, (rd_T149 y161 x5_1).f5⟩ : S149) : List (S149))).bind fun y162 => ((some (y162.set (x5_1 : Int).toNat (⟨(rd_T149 y162 x5_1).f0, (rd_T149 y162 x5_1).f1, (rd_T149 y162 x5_1).f2, wrap64 ((wrap64 ((wrap64 (x1_1 + 1)) + 1)) + 1), (rd_T149 y162 x5_1).f4, (rd_T149 y162 x5_1).f5⟩ : S149) : List (S149))).bind fun y163 => ((some (y163.set (x5_1 : Int).toNat (⟨(rd_T149 y163 x5_1).f0, (rd_T149 y163 x5_1).f1, (rd_T149 y163 x5_1).f2, (rd_T149 y163 x5_1).f3, wrap64 ((wrap64 ((wrap64 ((wrap64 (x1_1 + 1)) + 1)) + 1)) + 1), (rd_T149 y163 x5_1).f5⟩ : S149) : List (S149))).bind fun y164 => (laws_markPartS.l0 k1 (y164.set (x5_1 : Int).toNat (⟨(rd_T149 y164 x5_1).f0, (rd_T149 y164 x5_1).f1, (rd_T149 y164 x5_1).f2, (rd_T149 y164 x5_1).f3, (rd_T149 y164 x5_1).f4, wrap64 ((wrap64 ((wrap64 ((wrap64 ((wrap64 (x1_1 + 1)) + 1)) + 1)) + 1)) + 1)⟩ : S149)) (wrap64 ((wrap64 ((wrap64 ((wrap64 ((wrap64 ((wrap64 (x1_1 + 1)) + 1)) + 1)) + 1)) + 1)) + 1)) (wrap64 (x5_1 + 1)))))) = some (r1, r2) := by first | (rw [hy161]; with_reducible exact H) | (have H2_ := (Option.bind_some _ _).symm.trans H; rw [hy161]; with_reducible exact H2_) | (have H2_ := (Option.bind_some _ _).symm.trans H; with_reducible exact H2_) | with_reducible exact H | (rw [hy161]; exact H) | exact H
   have Ny161 := Aside0.mk hy161
   clear hy161
   obtain ⟨y162, hy162⟩ : ∃ y_ : List (S149), y_ = (y161.set (x5_1 : Int).toNat (⟨(rd_T149 y161 x5_1).f0, (rd_T149 y161 x5_1).f1, wrap64 ((wrap64 (x1_1 + 1)) + 1), (rd_T149 y161 x5_1).f3, (rd_T149 y161 x5_1).f4, (rd_T149 y161 x5_1).f5⟩ : S149)) := ⟨_, rfl⟩
   replace H : ((some (y162.set (x5_1 : Int).toNat (⟨(rd_T149 y162 x5_1).f0, (rd_T149 y162 x5_1).f1, (rd_T149 y162 x5_1).f2, wrap64 ((wrap64 ((wrap64 (x1_1 + 1)) + 1)) + 1), (rd_T149 y162 x5_1).f4, (rd_T149 y162 x5_1).f5⟩ : S149) : List (S149))).bind fun y163 => ((some (y163.set (x5_1 : Int).toNat (⟨(rd_T149 y163 x5_1).f0, (rd_T149 y163 x5_1).f1, (rd_T149 y163 x5_1).f2, (rd_T149 y163 x5_1).f3, wrap64 ((wrap64 ((wrap64 ((wrap64 (x1_1 + 1)) + 1)) + 1)) + 1), (rd_T149 y163 x5_1).f5⟩ : S149) : List (S149))).bind fun y164 => (laws_markPartS.l0 k1 (y164.set (x5_1 : Int).toNat (⟨(rd_T149 y164 x5_1).f0, (rd_T149 y164 x5_1).f1, (rd_T149 y164 x5_1).f2, (rd_T149 y164 x5_1).f3, (rd_T149 y164 x5_1).f4, wrap64 ((wrap64 ((wrap64 ((wrap64 ((wrap64 (x1_1 + 1)) + 1)) + 1)) + 1)) + 1)⟩ : S149)) (wrap64 ((wrap64 ((wrap64 ((wrap64 ((wrap64 ((wrap64 (x1_1 + 1)) + 1)) + 1)) + 1)) + 1)) + 1)) (wrap64 (x5_1 + 1))))) = some (r1, r2) := by first | (rw [hy162]; with_reducible exact H) | (have H2_ := (Option.bind_some _ _).symm.trans H; rw [hy162]; with_reducible exact H2_) | (have H2_ := (Option.bind_some _ _).symm.trans H; with_reducible exact H2_) | with_reducible exact H | (rw [hy162]; exact H) | exact H
   have Ny162 := Aside0.mk hy162
   clear hy162
   obtain ⟨y163, hy163⟩ : ∃ y_ : List (S149), y_ = (y162.set (x5_1 : Int).toNat (⟨(rd_T149 y162 x5_1).f0, (rd_T149 y162 x5_1).f1, (rd_T149 y162 x5_1).f2, wrap64 ((wrap64 ((wrap64 (x1_1 + 1)) + 1)) + 1), (rd_T149 y162 x5_1).f4, (rd_T149 y162 x5_1).f5⟩ : S149)) := ⟨_, rfl⟩
   replace H : ((some (y163.set (x5_1 : Int).toNat (⟨(rd_T149 y163 x5_1).f0, (rd_T149 y163 x5_1).f1, (rd_T149 y163 x5_1).f2, (rd_T149 y163 x5_1).f3, wrap64 ((wrap64 ((wrap64 ((wrap64 (x1_1 + 1)) + 1)) + 1)) + 1), (rd_T149 y163 x5_1).f5⟩ : S149) : List (S149))).bind fun y164 => (laws_markPartS.l0 k1 (y164.set (x5_1 : Int).toNat (⟨(rd_T149 y164 x5_1).f0, (rd_T149 y164 x5_1).f1, (rd_T149 y164 x5_1).f2, (rd_T149 y164 x5_1).f3, (rd_T149 y164 x5_1).f4, wrap64 ((wrap64 ((wrap64 ((wrap64 ((wrap64 (x1_1 + 1)) + 1)) + 1)) + 1)) + 1)⟩ : S149)) (wrap64 ((wrap64 ((wrap64 ((wrap64 ((wrap64 ((wrap64 (x1_1 + 1)) + 1)) + 1)) + 1)) + 1)) + 1)) (wrap64 (x5_1 + 1)))) = some (r1, r2) := by first | (rw [hy163]; with_reducible exact H) | (have H2_ := (Option.bind_some _ _).symm.trans H; rw [hy163]; with_reducible exact H2_) | (have H2_ := (Option.bind_some _ _).symm.trans H; with_reducible exact H2_) | with_reducible exact H | (rw [hy163]; exact H) | exact H
   have Ny163 := Aside0.mk hy163
   clear hy163
   obtain ⟨y164, hy164⟩ : ∃ y_ : List (S149), y_ = (y163.set (x5_1 : Int).toNat (⟨(rd_T149 y163 x5_1).f0, (rd_T149 y163 x5_1).f1, (rd_T149 y163 x5_1).f2, (rd_T149 y163 x5_1).f3, wrap64 ((wrap64 ((wrap64 ((wrap64 (x1_1 + 1)) + 1)) + 1)) + 1), (rd_T149 y163 x5_1).f5⟩ : S149)) := ⟨_, rfl⟩
   replace H : (laws_markPartS.l0 k1 (y164.set (x5_1 : Int).toNat (⟨(rd_T149 y164 x5_1).f0, (rd_T149 y164 x5_1).f1, (rd_T149 y164 x5_1).f2, (rd_T149 y164 x5_1).f3, (rd_T149 y164 x5_1).f4, wrap64 ((wrap64 ((wrap64 ((wrap64 ((wrap64 (x1_1 + 1)) + 1)) + 1)) + 1)) + 1)⟩ : S149)) (wrap64 ((wrap64 ((wrap64 ((wrap64 ((wrap64 ((wrap64 (x1_1 + 1)) + 1)) + 1)) + 1)) + 1)) + 1)) (wrap64 (x5_1 + 1))) = some (r1, r2) := by first | (rw [hy164]; with_reducible exact H) | (have H2_ := (Option.bind_some _ _).symm.trans H; rw [hy164]; with_reducible exact H2_) | (have H2_ := (Option.bind_some _ _).symm.trans H; with_reducible exact H2_) | with_reducible exact H | (rw [hy164]; exact H) | exact H
   have Ny164 := Aside0.mk hy164
   clear hy164
   obtain ⟨y165, hy165⟩ : ∃ y_ : List (S149), y_ = (y164.set (x5_1 : Int).toNat (⟨(rd_T149 y164 x5_1).f0, (rd_T149 y164 x5_1).f1, (rd_T149 y164 x5_1).f2, (rd_T149 y164 x5_1).f3, (rd_T149 y164 x5_1).f4, wrap64 ((wrap64 ((wrap64 ((wrap64 ((wrap64 (x1_1 + 1)) + 1)) + 1)) + 1)) + 1)⟩ : S149)) := ⟨_, rfl⟩
   replace H : (laws_markPartS.l0 k1 y165 (wrap64 ((wrap64 ((wrap64 ((wrap64 ((wrap64 ((wrap64 (x1_1 + 1)) + 1)) + 1)) + 1)) + 1)) + 1)) (wrap64 (x5_1 + 1))) = some (r1, r2) := by first | (rw [hy165]; with_reducible exact H) | (have H2_ := (Option.bind_some _ _).symm.trans H; rw [hy165]; with_reducible exact H2_) | (have H2_ := (Option.bind_some _ _).symm.trans H; with_reducible exact H2_) | with_reducible exact H | (rw [hy165]; exact H) | exact H
   have Ny165 := Aside0.mk hy165
   clear hy165
   have H' := Aside0.mk H
   clear H
   obtain ⟨Ao11, co11, eo11⟩ := Kd.R_slice HO_0.out
   subst eo11
   have p5 : 0 ≤ (x5_1 : Int) := of_decide_eq_true tZE
   have q5 : (x5_1 : Int) < ((x0_1.length : Int) : Int) := of_decide_eq_true tZE
   obtain ⟨go5, co5, eo5, gb5, gl5, cl5, HG5⟩ := Kd.R_form HO_0.out (by omega)
   (first | cases eo5 | (injection eo5 with ea_ en_ ec_; (first | subst ea_ | (injection ea_ with ea_; subst ea_)); subst ec_; clear en_))
   have GB5 := Aside0.mk gb5
   have GG5 := Aside0.mk HG5
   clear gb5 gl5 HG5
   have HMgo5 := aZ (show (P0_ go5 ∨ w.heap.size ≤ go5) from (HO_0.out.1 _ rfl))
   obtain ⟨ce5, hcl5, hM5, hcc5, hfr5⟩ := Kd.R_elem HO_0.out z149 (x5_1 : Int) p5 q5
   obtain rfl := k149_openM hM5
   have hx5_0 : wr.cell? ⟨go5, (x5_1 : Int).toNat * 6, none⟩ = some (.int .i64 ((rd_T149 x0_1 x5_1).f0)) := hcc5 0 _ rfl
   have hx5_1 : wr.cell? ⟨go5, (x5_1 : Int).toNat * 6 + 1, none⟩ = some (.int .i64 ((rd_T149 x0_1 x5_1).f1)) := hcc5 1 _ rfl
   have hx5_2 : wr.cell? ⟨go5, (x5_1 : Int).toNat * 6 + 2, none⟩ = some (.int .i64 ((rd_T149 x0_1 x5_1).f2)) := hcc5 2 _ rfl
   have hx5_3 : wr.cell? ⟨go5, (x5_1 : Int).toNat * 6 + 3, none⟩ = some (.int .i64 ((rd_T149 x0_1 x5_1).f3)) := hcc5 3 _ rfl
   have hx5_4 : wr.cell? ⟨go5, (x5_1 : Int).toNat * 6 + 4, none⟩ = some (.int .i64 ((rd_T149 x0_1 x5_1).f4)) := hcc5 4 _ rfl
   have hx5_5 : wr.cell? ⟨go5, (x5_1 : Int).toNat * 6 + 5, none⟩ = some (.int .i64 ((rd_T149 x0_1 x5_1).f5)) := hcc5 5 _ rfl
   have hf5_0 : wr.frozen? ⟨go5, (x5_1 : Int).toNat * 6, none⟩ = false := hfr5 0
   have hf5_1 : wr.frozen? ⟨go5, (x5_1 : Int).toNat * 6 + 1, none⟩ = false := hfr5 1
   have hf5_2 : wr.frozen? ⟨go5, (x5_1 : Int).toNat * 6 + 2, none⟩ = false := hfr5 2
   have hf5_3 : wr.frozen? ⟨go5, (x5_1 : Int).toNat * 6 + 3, none⟩ = false := hfr5 3
   have hf5_4 : wr.frozen? ⟨go5, (x5_1 : Int).toNat * 6 + 4, none⟩ = false := hfr5 4
   have hf5_5 : wr.frozen? ⟨go5, (x5_1 : Int).toNat * 6 + 5, none⟩ = false := hfr5 5
   clear hcl5 hcc5 hfr5 hM5
   replace p5 := eq_true p5
   replace q5 := eq_true q5
   have HX12 := aZ (show Kd.R k149 149 wr w0.heap.size (fun k_ => (P0_ k_ ∨ w.heap.size ≤ k_)) (.slice (some ⟨go5, 0, none⟩) x0_1.length co11) x0_1 from (lZR HO_0.out))
   obtain ⟨ce12, hcl12, hM12, hcc12, hfr12⟩ := Kd.R_elem HX12.out z149 (x5_1 : Int) (of_decide_eq_true tZE) (by have h_ : (x5_1 : Int) < ((x0_1.length : Int) : Int) := of_decide_eq_true tZE; first | exact h_ | (have e_ := (Kd.R_reads' HO_0.out).1; omega) | simpa using h_)
   obtain rfl := k149_openM hM12
   have HP12 := Kd.R_seg HX12.out (x5_1 : Int) (of_decide_eq_true tZE) (by have h_ : (x5_1 : Int) < ((x0_1.length : Int) : Int) := of_decide_eq_true tZE; first | exact h_ | (have e_ := (Kd.R_reads' HO_0.out).1; omega) | simpa using h_) (seg := [.int .i64 x1_1]) (j := 0) hcl12 hcc12 (show 1 ≤ 6 from by decide) (x' := (⟨x1_1, (rd_T149 x0_1 x5_1).f1, (rd_T149 x0_1 x5_1).f2, (rd_T149 x0_1 x5_1).f3, (rd_T149 x0_1 x5_1).f4, (rd_T149 x0_1 x5_1).f5⟩ : S149)) (k149_mkM _ _ _ (⟨x1_1, (rd_T149 x0_1 x5_1).f1, (rd_T149 x0_1 x5_1).f2, (rd_T149 x0_1 x5_1).f3, (rd_T149 x0_1 x5_1).f4, (rd_T149 x0_1 x5_1).f5⟩ : S149) ) (fun _ hk => hk)
   have hx12_0 := hcc12 0 _ rfl
   (try simp only [show (k149).sz = 6 from rfl, Nat.mul_one, Nat.add_zero] at hx12_0)
   have hf12_0 := hfr12 0
   (try simp only [show (k149).sz = 6 from rfl, Nat.mul_one, Nat.add_zero] at hf12_0)
   clear hcl12 hcc12 hfr12 hM12
   go_wp2_with (first | ((with_reducible refine gate_store (t := 3) (p := 16) rfl ?_); refine store_event (t := 3) (p := 16) (v := ?vo_w13) (w1 := (wr.setCell ⟨go5, (x5_1 : Int).toNat * 6, none⟩ (.int .i64 x1_1))) ?hg ?ho ?hn ?hr ?_; (case ho => rfl); (case hg => rfl); (case hn => rfl); (case hr => first | (go_simp; done) | (go_simp; rfl)); intro w13 hw; have hg : wr.grownBy w13 (some go5) := (by rw [hw]; exact HP12.2); have hp_ : Kd.R k149 149 w13 w0.heap.size (fun k_ => (P0_ k_ ∨ w.heap.size ≤ k_)) (.slice (some ⟨go5, 0, none⟩) x0_1.length co11) y160 := (by rw [hw, Ny160.out]; exact HP12.1); clear HP12; replace HB := aZ ((by rw [hw]; exact below_set (HB.out) GB5.out : Below w0.heap.size w0 w13)); replace HK := aZ (Kept.of_grown (S := (fun k_ => P0_ k_)) hg (by repeat (first | (with_reducible first | exact HK.out | apply Kept.alloc | apply Kept.drewN | apply Kept.drew) | exact HK.out)) (fun k_ e_ => (HO_0.out.1 k_ e_))); replace HO_0 := aZ (hp_); clear hg hw hp_; have p6 : 0 ≤ (x5_1 : Int) := of_decide_eq_true tZE; have q6 : (x5_1 : Int) < ((x0_1.length : Int) : Int) := of_decide_eq_true tZE; obtain ⟨ce6, hcl6, hM6, hcc6, hfr6⟩ := Kd.R_elem HO_0.out z149 (x5_1 : Int) p6 q6; obtain rfl := k149_openM hM6; have hx6_0 : w13.cell? ⟨go5, (x5_1 : Int).toNat * 6, none⟩ = some (.int .i64 ((rd_T149 y160 x5_1).f0)) := hcc6 0 _ rfl; have hx6_1 : w13.cell? ⟨go5, (x5_1 : Int).toNat * 6 + 1, none⟩ = some (.int .i64 ((rd_T149 y160 x5_1).f1)) := hcc6 1 _ rfl; have hx6_2 : w13.cell? ⟨go5, (x5_1 : Int).toNat * 6 + 2, none⟩ = some (.int .i64 ((rd_T149 y160 x5_1).f2)) := hcc6 2 _ rfl; have hx6_3 : w13.cell? ⟨go5, (x5_1 : Int).toNat * 6 + 3, none⟩ = some (.int .i64 ((rd_T149 y160 x5_1).f3)) := hcc6 3 _ rfl; have hx6_4 : w13.cell? ⟨go5, (x5_1 : Int).toNat * 6 + 4, none⟩ = some (.int .i64 ((rd_T149 y160 x5_1).f4)) := hcc6 4 _ rfl; have hx6_5 : w13.cell? ⟨go5, (x5_1 : Int).toNat * 6 + 5, none⟩ = some (.int .i64 ((rd_T149 y160 x5_1).f5)) := hcc6 5 _ rfl; have hf6_0 : w13.frozen? ⟨go5, (x5_1 : Int).toNat * 6, none⟩ = false := hfr6 0; have hf6_1 : w13.frozen? ⟨go5, (x5_1 : Int).toNat * 6 + 1, none⟩ = false := hfr6 1; have hf6_2 : w13.frozen? ⟨go5, (x5_1 : Int).toNat * 6 + 2, none⟩ = false := hfr6 2; have hf6_3 : w13.frozen? ⟨go5, (x5_1 : Int).toNat * 6 + 3, none⟩ = false := hfr6 3; have hf6_4 : w13.frozen? ⟨go5, (x5_1 : Int).toNat * 6 + 4, none⟩ = false := hfr6 4; have hf6_5 : w13.frozen? ⟨go5, (x5_1 : Int).toNat * 6 + 5, none⟩ = false := hfr6 5; clear hcl6 hcc6 hfr6 hM6; replace p6 := eq_true p6; replace q6 := eq_true q6; have HX14 := aZ (show Kd.R k149 149 w13 w0.heap.size (fun k_ => (P0_ k_ ∨ w.heap.size ≤ k_)) (.slice (some ⟨go5, 0, none⟩) x0_1.length co11) y160 from (lZR HO_0.out)); obtain ⟨ce14, hcl14, hM14, hcc14, hfr14⟩ := Kd.R_elem HX14.out z149 (x5_1 : Int) (of_decide_eq_true tZE) (by have h_ : (x5_1 : Int) < ((x0_1.length : Int) : Int) := of_decide_eq_true tZE; first | exact h_ | (have e_ := (Kd.R_reads' HO_0.out).1; omega) | simpa using h_); obtain rfl := k149_openM hM14; have HP14 := Kd.R_seg HX14.out (x5_1 : Int) (of_decide_eq_true tZE) (by have h_ : (x5_1 : Int) < ((x0_1.length : Int) : Int) := of_decide_eq_true tZE; first | exact h_ | (have e_ := (Kd.R_reads' HO_0.out).1; omega) | simpa using h_) (seg := [.int .i64 (wrap64 (x1_1 + 1))]) (j := 1) hcl14 hcc14 (show 2 ≤ 6 from by decide) (x' := (⟨(rd_T149 y160 x5_1).f0, wrap64 (x1_1 + 1), (rd_T149 y160 x5_1).f2, (rd_T149 y160 x5_1).f3, (rd_T149 y160 x5_1).f4, (rd_T149 y160 x5_1).f5⟩ : S149)) (k149_mkM _ _ _ (⟨(rd_T149 y160 x5_1).f0, wrap64 (x1_1 + 1), (rd_T149 y160 x5_1).f2, (rd_T149 y160 x5_1).f3, (rd_T149 y160 x5_1).f4, (rd_T149 y160 x5_1).f5⟩ : S149) ) (fun _ hk => hk); have hx14_1 := hcc14 1 _ rfl; (try simp only [show (k149).sz = 6 from rfl, Nat.mul_one, Nat.add_zero] at hx14_1); have hf14_1 := hfr14 1; (try simp only [show (k149).sz = 6 from rfl, Nat.mul_one, Nat.add_zero] at hf14_1); clear hcl14 hcc14 hfr14 hM14) | ((with_reducible refine gate_store (t := 3) (p := 23) rfl ?_); refine store_event (t := 3) (p := 23) (v := ?vo_w15) (w1 := (w13.setCell ⟨go5, (x5_1 : Int).toNat * 6 + 1, none⟩ (.int .i64 (wrap64 (x1_1 + 1))))) ?hg ?ho ?hn ?hr ?_; (case ho => rfl); (case hg => rfl); (case hn => rfl); (case hr => first | (go_simp; done) | (go_simp; rfl)); intro w15 hw; have hg : w13.grownBy w15 (some go5) := (by rw [hw]; exact HP14.2); have hp_ : Kd.R k149 149 w15 w0.heap.size (fun k_ => (P0_ k_ ∨ w.heap.size ≤ k_)) (.slice (some ⟨go5, 0, none⟩) x0_1.length co11) y161 := (by rw [hw, Ny161.out]; exact HP14.1); clear HP14; replace HB := aZ ((by rw [hw]; exact below_set (HB.out) GB5.out : Below w0.heap.size w0 w15)); replace HK := aZ (Kept.of_grown (S := (fun k_ => P0_ k_)) hg (by repeat (first | (with_reducible first | exact HK.out | apply Kept.alloc | apply Kept.drewN | apply Kept.drew) | exact HK.out)) (fun k_ e_ => (HO_0.out.1 k_ e_))); replace HO_0 := aZ (hp_); clear hg hw hp_; have p7 : 0 ≤ (x5_1 : Int) := of_decide_eq_true tZE; have q7 : (x5_1 : Int) < ((x0_1.length : Int) : Int) := of_decide_eq_true tZE; obtain ⟨ce7, hcl7, hM7, hcc7, hfr7⟩ := Kd.R_elem HO_0.out z149 (x5_1 : Int) p7 q7; obtain rfl := k149_openM hM7; have hx7_0 : w15.cell? ⟨go5, (x5_1 : Int).toNat * 6, none⟩ = some (.int .i64 ((rd_T149 y161 x5_1).f0)) := hcc7 0 _ rfl; have hx7_1 : w15.cell? ⟨go5, (x5_1 : Int).toNat * 6 + 1, none⟩ = some (.int .i64 ((rd_T149 y161 x5_1).f1)) := hcc7 1 _ rfl; have hx7_2 : w15.cell? ⟨go5, (x5_1 : Int).toNat * 6 + 2, none⟩ = some (.int .i64 ((rd_T149 y161 x5_1).f2)) := hcc7 2 _ rfl; have hx7_3 : w15.cell? ⟨go5, (x5_1 : Int).toNat * 6 + 3, none⟩ = some (.int .i64 ((rd_T149 y161 x5_1).f3)) := hcc7 3 _ rfl; have hx7_4 : w15.cell? ⟨go5, (x5_1 : Int).toNat * 6 + 4, none⟩ = some (.int .i64 ((rd_T149 y161 x5_1).f4)) := hcc7 4 _ rfl; have hx7_5 : w15.cell? ⟨go5, (x5_1 : Int).toNat * 6 + 5, none⟩ = some (.int .i64 ((rd_T149 y161 x5_1).f5)) := hcc7 5 _ rfl; have hf7_0 : w15.frozen? ⟨go5, (x5_1 : Int).toNat * 6, none⟩ = false := hfr7 0; have hf7_1 : w15.frozen? ⟨go5, (x5_1 : Int).toNat * 6 + 1, none⟩ = false := hfr7 1; have hf7_2 : w15.frozen? ⟨go5, (x5_1 : Int).toNat * 6 + 2, none⟩ = false := hfr7 2; have hf7_3 : w15.frozen? ⟨go5, (x5_1 : Int).toNat * 6 + 3, none⟩ = false := hfr7 3; have hf7_4 : w15.frozen? ⟨go5, (x5_1 : Int).toNat * 6 + 4, none⟩ = false := hfr7 4; have hf7_5 : w15.frozen? ⟨go5, (x5_1 : Int).toNat * 6 + 5, none⟩ = false := hfr7 5; clear hcl7 hcc7 hfr7 hM7; replace p7 := eq_true p7; replace q7 := eq_true q7; have HX16 := aZ (show Kd.R k149 149 w15 w0.heap.size (fun k_ => (P0_ k_ ∨ w.heap.size ≤ k_)) (.slice (some ⟨go5, 0, none⟩) x0_1.length co11) y161 from (lZR HO_0.out)); obtain ⟨ce16, hcl16, hM16, hcc16, hfr16⟩ := Kd.R_elem HX16.out z149 (x5_1 : Int) (of_decide_eq_true tZE) (by have h_ : (x5_1 : Int) < ((x0_1.length : Int) : Int) := of_decide_eq_true tZE; first | exact h_ | (have e_ := (Kd.R_reads' HO_0.out).1; omega) | simpa using h_); obtain rfl := k149_openM hM16; have HP16 := Kd.R_seg HX16.out (x5_1 : Int) (of_decide_eq_true tZE) (by have h_ : (x5_1 : Int) < ((x0_1.length : Int) : Int) := of_decide_eq_true tZE; first | exact h_ | (have e_ := (Kd.R_reads' HO_0.out).1; omega) | simpa using h_) (seg := [.int .i64 (wrap64 ((wrap64 (x1_1 + 1)) + 1))]) (j := 2) hcl16 hcc16 (show 3 ≤ 6 from by decide) (x' := (⟨(rd_T149 y161 x5_1).f0, (rd_T149 y161 x5_1).f1, wrap64 ((wrap64 (x1_1 + 1)) + 1), (rd_T149 y161 x5_1).f3, (rd_T149 y161 x5_1).f4, (rd_T149 y161 x5_1).f5⟩ : S149)) (k149_mkM _ _ _ (⟨(rd_T149 y161 x5_1).f0, (rd_T149 y161 x5_1).f1, wrap64 ((wrap64 (x1_1 + 1)) + 1), (rd_T149 y161 x5_1).f3, (rd_T149 y161 x5_1).f4, (rd_T149 y161 x5_1).f5⟩ : S149) ) (fun _ hk => hk); have hx16_2 := hcc16 2 _ rfl; (try simp only [show (k149).sz = 6 from rfl, Nat.mul_one, Nat.add_zero] at hx16_2); have hf16_2 := hfr16 2; (try simp only [show (k149).sz = 6 from rfl, Nat.mul_one, Nat.add_zero] at hf16_2); clear hcl16 hcc16 hfr16 hM16) | ((with_reducible refine gate_store (t := 3) (p := 30) rfl ?_); refine store_event (t := 3) (p := 30) (v := ?vo_w17) (w1 := (w15.setCell ⟨go5, (x5_1 : Int).toNat * 6 + 2, none⟩ (.int .i64 (wrap64 ((wrap64 (x1_1 + 1)) + 1))))) ?hg ?ho ?hn ?hr ?_; (case ho => rfl); (case hg => rfl); (case hn => rfl); (case hr => first | (go_simp; done) | (go_simp; rfl)); intro w17 hw; have hg : w15.grownBy w17 (some go5) := (by rw [hw]; exact HP16.2); have hp_ : Kd.R k149 149 w17 w0.heap.size (fun k_ => (P0_ k_ ∨ w.heap.size ≤ k_)) (.slice (some ⟨go5, 0, none⟩) x0_1.length co11) y162 := (by rw [hw, Ny162.out]; exact HP16.1); clear HP16; replace HB := aZ ((by rw [hw]; exact below_set (HB.out) GB5.out : Below w0.heap.size w0 w17)); replace HK := aZ (Kept.of_grown (S := (fun k_ => P0_ k_)) hg (by repeat (first | (with_reducible first | exact HK.out | apply Kept.alloc | apply Kept.drewN | apply Kept.drew) | exact HK.out)) (fun k_ e_ => (HO_0.out.1 k_ e_))); replace HO_0 := aZ (hp_); clear hg hw hp_; have p8 : 0 ≤ (x5_1 : Int) := of_decide_eq_true tZE; have q8 : (x5_1 : Int) < ((x0_1.length : Int) : Int) := of_decide_eq_true tZE; obtain ⟨ce8, hcl8, hM8, hcc8, hfr8⟩ := Kd.R_elem HO_0.out z149 (x5_1 : Int) p8 q8; obtain rfl := k149_openM hM8; have hx8_0 : w17.cell? ⟨go5, (x5_1 : Int).toNat * 6, none⟩ = some (.int .i64 ((rd_T149 y162 x5_1).f0)) := hcc8 0 _ rfl; have hx8_1 : w17.cell? ⟨go5, (x5_1 : Int).toNat * 6 + 1, none⟩ = some (.int .i64 ((rd_T149 y162 x5_1).f1)) := hcc8 1 _ rfl; have hx8_2 : w17.cell? ⟨go5, (x5_1 : Int).toNat * 6 + 2, none⟩ = some (.int .i64 ((rd_T149 y162 x5_1).f2)) := hcc8 2 _ rfl; have hx8_3 : w17.cell? ⟨go5, (x5_1 : Int).toNat * 6 + 3, none⟩ = some (.int .i64 ((rd_T149 y162 x5_1).f3)) := hcc8 3 _ rfl; have hx8_4 : w17.cell? ⟨go5, (x5_1 : Int).toNat * 6 + 4, none⟩ = some (.int .i64 ((rd_T149 y162 x5_1).f4)) := hcc8 4 _ rfl; have hx8_5 : w17.cell? ⟨go5, (x5_1 : Int).toNat * 6 + 5, none⟩ = some (.int .i64 ((rd_T149 y162 x5_1).f5)) := hcc8 5 _ rfl; have hf8_0 : w17.frozen? ⟨go5, (x5_1 : Int).toNat * 6, none⟩ = false := hfr8 0; have hf8_1 : w17.frozen? ⟨go5, (x5_1 : Int).toNat * 6 + 1, none⟩ = false := hfr8 1; have hf8_2 : w17.frozen? ⟨go5, (x5_1 : Int).toNat * 6 + 2, none⟩ = false := hfr8 2; have hf8_3 : w17.frozen? ⟨go5, (x5_1 : Int).toNat * 6 + 3, none⟩ = false := hfr8 3; have hf8_4 : w17.frozen? ⟨go5, (x5_1 : Int).toNat * 6 + 4, none⟩ = false := hfr8 4; have hf8_5 : w17.frozen? ⟨go5, (x5_1 : Int).toNat * 6 + 5, none⟩ = false := hfr8 5; clear hcl8 hcc8 hfr8 hM8; replace p8 := eq_true p8; replace q8 := eq_true q8; have HX18 := aZ (show Kd.R k149 149 w17 w0.heap.size (fun k_ => (P0_ k_ ∨ w.heap.size ≤ k_)) (.slice (some ⟨go5, 0, none⟩) x0_1.length co11) y162 from (lZR HO_0.out)); obtain ⟨ce18, hcl18, hM18, hcc18, hfr18⟩ := Kd.R_elem HX18.out z149 (x5_1 : Int) (of_decide_eq_true tZE) (by have h_ : (x5_1 : Int) < ((x0_1.length : Int) : Int) := of_decide_eq_true tZE; first | exact h_ | (have e_ := (Kd.R_reads' HO_0.out).1; omega) | simpa using h_); obtain rfl := k149_openM hM18; have HP18 := Kd.R_seg HX18.out (x5_1 : Int) (of_decide_eq_true tZE) (by have h_ : (x5_1 : Int) < ((x0_1.length : Int) : Int) := of_decide_eq_true tZE; first | exact h_ | (have e_ := (Kd.R_reads' HO_0.out).1; omega) | simpa using h_) (seg := [.int .i64 (wrap64 ((wrap64 ((wrap64 (x1_1 + 1)) + 1)) + 1))]) (j := 3) hcl18 hcc18 (show 4 ≤ 6 from by decide) (x' := (⟨(rd_T149 y162 x5_1).f0, (rd_T149 y162 x5_1).f1, (rd_T149 y162 x5_1).f2, wrap64 ((wrap64 ((wrap64 (x1_1 + 1)) + 1)) + 1), (rd_T149 y162 x5_1).f4, (rd_T149 y162 x5_1).f5⟩ : S149)) (k149_mkM _ _ _ (⟨(rd_T149 y162 x5_1).f0, (rd_T149 y162 x5_1).f1, (rd_T149 y162 x5_1).f2, wrap64 ((wrap64 ((wrap64 (x1_1 + 1)) + 1)) + 1), (rd_T149 y162 x5_1).f4, (rd_T149 y162 x5_1).f5⟩ : S149) ) (fun _ hk => hk); have hx18_3 := hcc18 3 _ rfl; (try simp only [show (k149).sz = 6 from rfl, Nat.mul_one, Nat.add_zero] at hx18_3); have hf18_3 := hfr18 3; (try simp only [show (k149).sz = 6 from rfl, Nat.mul_one, Nat.add_zero] at hf18_3); clear hcl18 hcc18 hfr18 hM18) | ((with_reducible refine gate_store (t := 3) (p := 37) rfl ?_); refine store_event (t := 3) (p := 37) (v := ?vo_w19) (w1 := (w17.setCell ⟨go5, (x5_1 : Int).toNat * 6 + 3, none⟩ (.int .i64 (wrap64 ((wrap64 ((wrap64 (x1_1 + 1)) + 1)) + 1))))) ?hg ?ho ?hn ?hr ?_; (case ho => rfl); (case hg => rfl); (case hn => rfl); (case hr => first | (go_simp; done) | (go_simp; rfl)); intro w19 hw; have hg : w17.grownBy w19 (some go5) := (by rw [hw]; exact HP18.2); have hp_ : Kd.R k149 149 w19 w0.heap.size (fun k_ => (P0_ k_ ∨ w.heap.size ≤ k_)) (.slice (some ⟨go5, 0, none⟩) x0_1.length co11) y163 := (by rw [hw, Ny163.out]; exact HP18.1); clear HP18; replace HB := aZ ((by rw [hw]; exact below_set (HB.out) GB5.out : Below w0.heap.size w0 w19)); replace HK := aZ (Kept.of_grown (S := (fun k_ => P0_ k_)) hg (by repeat (first | (with_reducible first | exact HK.out | apply Kept.alloc | apply Kept.drewN | apply Kept.drew) | exact HK.out)) (fun k_ e_ => (HO_0.out.1 k_ e_))); replace HO_0 := aZ (hp_); clear hg hw hp_; have p9 : 0 ≤ (x5_1 : Int) := of_decide_eq_true tZE; have q9 : (x5_1 : Int) < ((x0_1.length : Int) : Int) := of_decide_eq_true tZE; obtain ⟨ce9, hcl9, hM9, hcc9, hfr9⟩ := Kd.R_elem HO_0.out z149 (x5_1 : Int) p9 q9; obtain rfl := k149_openM hM9; have hx9_0 : w19.cell? ⟨go5, (x5_1 : Int).toNat * 6, none⟩ = some (.int .i64 ((rd_T149 y163 x5_1).f0)) := hcc9 0 _ rfl; have hx9_1 : w19.cell? ⟨go5, (x5_1 : Int).toNat * 6 + 1, none⟩ = some (.int .i64 ((rd_T149 y163 x5_1).f1)) := hcc9 1 _ rfl; have hx9_2 : w19.cell? ⟨go5, (x5_1 : Int).toNat * 6 + 2, none⟩ = some (.int .i64 ((rd_T149 y163 x5_1).f2)) := hcc9 2 _ rfl; have hx9_3 : w19.cell? ⟨go5, (x5_1 : Int).toNat * 6 + 3, none⟩ = some (.int .i64 ((rd_T149 y163 x5_1).f3)) := hcc9 3 _ rfl; have hx9_4 : w19.cell? ⟨go5, (x5_1 : Int).toNat * 6 + 4, none⟩ = some (.int .i64 ((rd_T149 y163 x5_1).f4)) := hcc9 4 _ rfl; have hx9_5 : w19.cell? ⟨go5, (x5_1 : Int).toNat * 6 + 5, none⟩ = some (.int .i64 ((rd_T149 y163 x5_1).f5)) := hcc9 5 _ rfl; have hf9_0 : w19.frozen? ⟨go5, (x5_1 : Int).toNat * 6, none⟩ = false := hfr9 0; have hf9_1 : w19.frozen? ⟨go5, (x5_1 : Int).toNat * 6 + 1, none⟩ = false := hfr9 1; have hf9_2 : w19.frozen? ⟨go5, (x5_1 : Int).toNat * 6 + 2, none⟩ = false := hfr9 2; have hf9_3 : w19.frozen? ⟨go5, (x5_1 : Int).toNat * 6 + 3, none⟩ = false := hfr9 3; have hf9_4 : w19.frozen? ⟨go5, (x5_1 : Int).toNat * 6 + 4, none⟩ = false := hfr9 4; have hf9_5 : w19.frozen? ⟨go5, (x5_1 : Int).toNat * 6 + 5, none⟩ = false := hfr9 5; clear hcl9 hcc9 hfr9 hM9; replace p9 := eq_true p9; replace q9 := eq_true q9; have HX20 := aZ (show Kd.R k149 149 w19 w0.heap.size (fun k_ => (P0_ k_ ∨ w.heap.size ≤ k_)) (.slice (some ⟨go5, 0, none⟩) x0_1.length co11) y163 from (lZR HO_0.out)); obtain ⟨ce20, hcl20, hM20, hcc20, hfr20⟩ := Kd.R_elem HX20.out z149 (x5_1 : Int) (of_decide_eq_true tZE) (by have h_ : (x5_1 : Int) < ((x0_1.length : Int) : Int) := of_decide_eq_true tZE; first | exact h_ | (have e_ := (Kd.R_reads' HO_0.out).1; omega) | simpa using h_); obtain rfl := k149_openM hM20; have HP20 := Kd.R_seg HX20.out (x5_1 : Int) (of_decide_eq_true tZE) (by have h_ : (x5_1 : Int) < ((x0_1.length : Int) : Int) := of_decide_eq_true tZE; first | exact h_ | (have e_ := (Kd.R_reads' HO_0.out).1; omega) | simpa using h_) (seg := [.int .i64 (wrap64 ((wrap64 ((wrap64 ((wrap64 (x1_1 + 1)) + 1)) + 1)) + 1))]) (j := 4) hcl20 hcc20 (show 5 ≤ 6 from by decide) (x' := (⟨(rd_T149 y163 x5_1).f0, (rd_T149 y163 x5_1).f1, (rd_T149 y163 x5_1).f2, (rd_T149 y163 x5_1).f3, wrap64 ((wrap64 ((wrap64 ((wrap64 (x1_1 + 1)) + 1)) + 1)) + 1), (rd_T149 y163 x5_1).f5⟩ : S149)) (k149_mkM _ _ _ (⟨(rd_T149 y163 x5_1).f0, (rd_T149 y163 x5_1).f1, (rd_T149 y163 x5_1).f2, (rd_T149 y163 x5_1).f3, wrap64 ((wrap64 ((wrap64 ((wrap64 (x1_1 + 1)) + 1)) + 1)) + 1), (rd_T149 y163 x5_1).f5⟩ : S149) ) (fun _ hk => hk); have hx20_4 := hcc20 4 _ rfl; (try simp only [show (k149).sz = 6 from rfl, Nat.mul_one, Nat.add_zero] at hx20_4); have hf20_4 := hfr20 4; (try simp only [show (k149).sz = 6 from rfl, Nat.mul_one, Nat.add_zero] at hf20_4); clear hcl20 hcc20 hfr20 hM20) | ((with_reducible refine gate_store (t := 3) (p := 44) rfl ?_); refine store_event (t := 3) (p := 44) (v := ?vo_w21) (w1 := (w19.setCell ⟨go5, (x5_1 : Int).toNat * 6 + 4, none⟩ (.int .i64 (wrap64 ((wrap64 ((wrap64 ((wrap64 (x1_1 + 1)) + 1)) + 1)) + 1))))) ?hg ?ho ?hn ?hr ?_; (case ho => rfl); (case hg => rfl); (case hn => rfl); (case hr => first | (go_simp; done) | (go_simp; rfl)); intro w21 hw; have hg : w19.grownBy w21 (some go5) := (by rw [hw]; exact HP20.2); have hp_ : Kd.R k149 149 w21 w0.heap.size (fun k_ => (P0_ k_ ∨ w.heap.size ≤ k_)) (.slice (some ⟨go5, 0, none⟩) x0_1.length co11) y164 := (by rw [hw, Ny164.out]; exact HP20.1); clear HP20; replace HB := aZ ((by rw [hw]; exact below_set (HB.out) GB5.out : Below w0.heap.size w0 w21)); replace HK := aZ (Kept.of_grown (S := (fun k_ => P0_ k_)) hg (by repeat (first | (with_reducible first | exact HK.out | apply Kept.alloc | apply Kept.drewN | apply Kept.drew) | exact HK.out)) (fun k_ e_ => (HO_0.out.1 k_ e_))); replace HO_0 := aZ (hp_); clear hg hw hp_; have p10 : 0 ≤ (x5_1 : Int) := of_decide_eq_true tZE; have q10 : (x5_1 : Int) < ((x0_1.length : Int) : Int) := of_decide_eq_true tZE; obtain ⟨ce10, hcl10, hM10, hcc10, hfr10⟩ := Kd.R_elem HO_0.out z149 (x5_1 : Int) p10 q10; obtain rfl := k149_openM hM10; have hx10_0 : w21.cell? ⟨go5, (x5_1 : Int).toNat * 6, none⟩ = some (.int .i64 ((rd_T149 y164 x5_1).f0)) := hcc10 0 _ rfl; have hx10_1 : w21.cell? ⟨go5, (x5_1 : Int).toNat * 6 + 1, none⟩ = some (.int .i64 ((rd_T149 y164 x5_1).f1)) := hcc10 1 _ rfl; have hx10_2 : w21.cell? ⟨go5, (x5_1 : Int).toNat * 6 + 2, none⟩ = some (.int .i64 ((rd_T149 y164 x5_1).f2)) := hcc10 2 _ rfl; have hx10_3 : w21.cell? ⟨go5, (x5_1 : Int).toNat * 6 + 3, none⟩ = some (.int .i64 ((rd_T149 y164 x5_1).f3)) := hcc10 3 _ rfl; have hx10_4 : w21.cell? ⟨go5, (x5_1 : Int).toNat * 6 + 4, none⟩ = some (.int .i64 ((rd_T149 y164 x5_1).f4)) := hcc10 4 _ rfl; have hx10_5 : w21.cell? ⟨go5, (x5_1 : Int).toNat * 6 + 5, none⟩ = some (.int .i64 ((rd_T149 y164 x5_1).f5)) := hcc10 5 _ rfl; have hf10_0 : w21.frozen? ⟨go5, (x5_1 : Int).toNat * 6, none⟩ = false := hfr10 0; have hf10_1 : w21.frozen? ⟨go5, (x5_1 : Int).toNat * 6 + 1, none⟩ = false := hfr10 1; have hf10_2 : w21.frozen? ⟨go5, (x5_1 : Int).toNat * 6 + 2, none⟩ = false := hfr10 2; have hf10_3 : w21.frozen? ⟨go5, (x5_1 : Int).toNat * 6 + 3, none⟩ = false := hfr10 3; have hf10_4 : w21.frozen? ⟨go5, (x5_1 : Int).toNat * 6 + 4, none⟩ = false := hfr10 4; have hf10_5 : w21.frozen? ⟨go5, (x5_1 : Int).toNat * 6 + 5, none⟩ = false := hfr10 5; clear hcl10 hcc10 hfr10 hM10; replace p10 := eq_true p10; replace q10 := eq_true q10; have HX22 := aZ (show Kd.R k149 149 w21 w0.heap.size (fun k_ => (P0_ k_ ∨ w.heap.size ≤ k_)) (.slice (some ⟨go5, 0, none⟩) x0_1.length co11) y164 from (lZR HO_0.out)); obtain ⟨ce22, hcl22, hM22, hcc22, hfr22⟩ := Kd.R_elem HX22.out z149 (x5_1 : Int) (of_decide_eq_true tZE) (by have h_ : (x5_1 : Int) < ((x0_1.length : Int) : Int) := of_decide_eq_true tZE; first | exact h_ | (have e_ := (Kd.R_reads' HO_0.out).1; omega) | simpa using h_); obtain rfl := k149_openM hM22; have HP22 := Kd.R_seg HX22.out (x5_1 : Int) (of_decide_eq_true tZE) (by have h_ : (x5_1 : Int) < ((x0_1.length : Int) : Int) := of_decide_eq_true tZE; first | exact h_ | (have e_ := (Kd.R_reads' HO_0.out).1; omega) | simpa using h_) (seg := [.int .i64 (wrap64 ((wrap64 ((wrap64 ((wrap64 ((wrap64 (x1_1 + 1)) + 1)) + 1)) + 1)) + 1))]) (j := 5) hcl22 hcc22 (show 6 ≤ 6 from by decide) (x' := (⟨(rd_T149 y164 x5_1).f0, (rd_T149 y164 x5_1).f1, (rd_T149 y164 x5_1).f2, (rd_T149 y164 x5_1).f3, (rd_T149 y164 x5_1).f4, wrap64 ((wrap64 ((wrap64 ((wrap64 ((wrap64 (x1_1 + 1)) + 1)) + 1)) + 1)) + 1)⟩ : S149)) (k149_mkM _ _ _ (⟨(rd_T149 y164 x5_1).f0, (rd_T149 y164 x5_1).f1, (rd_T149 y164 x5_1).f2, (rd_T149 y164 x5_1).f3, (rd_T149 y164 x5_1).f4, wrap64 ((wrap64 ((wrap64 ((wrap64 ((wrap64 (x1_1 + 1)) + 1)) + 1)) + 1)) + 1)⟩ : S149) ) (fun _ hk => hk); have hx22_5 := hcc22 5 _ rfl; (try simp only [show (k149).sz = 6 from rfl, Nat.mul_one, Nat.add_zero] at hx22_5); have hf22_5 := hfr22 5; (try simp only [show (k149).sz = 6 from rfl, Nat.mul_one, Nat.add_zero] at hf22_5); clear hcl22 hcc22 hfr22 hM22) | ((with_reducible refine gate_store (t := 3) (p := 51) rfl ?_); refine store_event (t := 3) (p := 51) (v := ?vo_w23) (w1 := (w21.setCell ⟨go5, (x5_1 : Int).toNat * 6 + 5, none⟩ (.int .i64 (wrap64 ((wrap64 ((wrap64 ((wrap64 ((wrap64 (x1_1 + 1)) + 1)) + 1)) + 1)) + 1))))) ?hg ?ho ?hn ?hr ?_; (case ho => rfl); (case hg => rfl); (case hn => rfl); (case hr => first | (go_simp; done) | (go_simp; rfl)); intro w23 hw; have hg : w21.grownBy w23 (some go5) := (by rw [hw]; exact HP22.2); have hp_ : Kd.R k149 149 w23 w0.heap.size (fun k_ => (P0_ k_ ∨ w.heap.size ≤ k_)) (.slice (some ⟨go5, 0, none⟩) x0_1.length co11) y165 := (by rw [hw, Ny165.out]; exact HP22.1); clear HP22; replace HB := aZ ((by rw [hw]; exact below_set (HB.out) GB5.out : Below w0.heap.size w0 w23)); replace HK := aZ (Kept.of_grown (S := (fun k_ => P0_ k_)) hg (by repeat (first | (with_reducible first | exact HK.out | apply Kept.alloc | apply Kept.drewN | apply Kept.drew) | exact HK.out)) (fun k_ e_ => (HO_0.out.1 k_ e_))); replace HO_0 := aZ (hp_); clear hg hw hp_))
   go_roundg k1
   case measure => have := HK1.out; omega
   case rel => exact ⟨(y165), (wrap64 ((wrap64 ((wrap64 ((wrap64 ((wrap64 ((wrap64 (x1_1 + 1)) + 1)) + 1)) + 1)) + 1)) + 1)), (wrap64 (x5_1 + 1)), tZB, tZB, H', ⟨by have := HK1.out; omega⟩, ⟨lZR HO_0.out⟩, ⟨by repeat (first | (with_reducible first | exact HK.out | apply Kept.alloc | apply Kept.drewN | apply Kept.drew) | exact HK.out)⟩, ⟨bZ⟩⟩
def laws_markPartS.q : Nat → Int → Int → Int → Option Int
  | 0, _, _, _ => none
  | k + 1, n, x1, x5 => if x5 < n then (if 0 ≤ x5 then (laws_markPartS.q k n (wrap64 ((wrap64 ((wrap64 ((wrap64 ((wrap64 ((wrap64 (x1 + 1)) + 1)) + 1)) + 1)) + 1)) + 1)) (wrap64 (x5 + 1))) else none) else some x1
theorem laws_markPartS.q.mono_q : ∀ k, ∀ y0 y1 y2, LeO (laws_markPartS.q k y0 y1 y2) (laws_markPartS.q (k + 1) y0 y1 y2)
  | 0 => fun _ _ _ r h => by simp [laws_markPartS.q] at h
  | k + 1 => by
    have ih0 := laws_markPartS.q.mono_q k
    intro y0 y1 y2
    unfold laws_markPartS.q
    repeat' first
      | (with_reducible exact ih0 _ _ _)
      | (with_reducible exact LeO.refl _)
      | (with_reducible exact LeO.none _)
      | (with_reducible refine LeO.ite ?_ ?_)
      | (with_reducible refine LeO.bind ?_ (fun _ => ?_))
      | exact LeO.none _
      | refine LeO.ite ?_ ?_
      | refine LeO.bind ?_ (fun _ => ?_)
set_option maxHeartbeats 8000000 in
set_option maxRecDepth 100000 in
theorem laws_markPartS.sh (k : Nat) (P0_ : Nat → Prop) (A_ : Option Addr) (n c_ : Nat) (a1 r : Int) (w0 W w : World) (hB : Below w0.heap.size w0 w) (hP : ∀ k_, P0_ k_ → w0.heap.size ≤ k_) (hS : Sim P0_ W w) (hF : Flat P0_ W isInt A_ (n * 6)) (h : laws_markPartS.q k n a1 0 = some r) :
    Calls Try.prog 95 #[.slice A_ n c_, .int .i64 a1] w fun e w' => e = .returned (.int .i64 r) ∧ Below w0.heap.size w0 w' ∧ Sim P0_ W w' := by
 have HS := Aside0.mk hS
 have HB := Aside0.mk hB
 clear hB hS
 have H' := Aside0.mk h
 clear h
 go_enter Try.func95, Try.ntmps95
 go_wp2
 go_loopg [1, 5] k (fun kq v1 v5 w' => ∃ (x1_1 : Int) (x5_1 : Int), v1 = .int .i64 x1_1 ∧ v5 = .int .i64 x5_1 ∧ Aside0 (laws_markPartS.q kq n x1_1 x5_1 = some r) ∧ Aside0 (kq ≤ k) ∧ Aside0 (Sim P0_ W w') ∧ Aside0 (Below w0.heap.size w0 w'))
 case atStart => exact ⟨a1, 0, (by first | rfl | (simp; done)), (by first | rfl | (simp; done)), H', ⟨Nat.le_refl _⟩, HS, HB⟩
 case round =>
  clear H'
  clear HS HB
  obtain ⟨x1_1, x5_1, rfl, rfl, HA, HK1, HS, HB⟩ := hrel
  cases gk with
  | zero => exact absurd HA.out (by simp [laws_markPartS.q])
  | succ k1 =>
   have H := HA.out
   clear HA
   simp only [laws_markPartS.q] at H
   by_cases c3 : x5_1 < (n : Int)
   rotate_left
   ·rw [if_neg c3] at H
    have c3b0 := decide_eq_false c3
    obtain rfl := Option.some.inj H
    go_wp2
    go_ret
    exact ⟨tZB, HB.out, HS.out⟩
   rw [if_pos c3] at H
   have c3b0 := decide_eq_true c3
   by_cases c5 : 0 ≤ x5_1
   rotate_left
   ·rw [if_neg c5] at H
    exact absurd H (by simp)
   rw [if_pos c5] at H
   have H' := Aside0.mk H
   clear H
   obtain ⟨g, rfl, hC⟩ := Flat.pos hF (by omega)
   obtain ⟨u0_, a0, b0_, hb0_⟩ := hC ((x5_1 : Int).toNat * 6) (by omega)
   subst hb0_
   obtain ⟨u1_, a1, b1_, hb1_⟩ := hC ((x5_1 : Int).toNat * 6 + 1) (by omega)
   subst hb1_
   obtain ⟨u2_, a2, b2_, hb2_⟩ := hC ((x5_1 : Int).toNat * 6 + 2) (by omega)
   subst hb2_
   obtain ⟨u3_, a3, b3_, hb3_⟩ := hC ((x5_1 : Int).toNat * 6 + 3) (by omega)
   subst hb3_
   obtain ⟨u4_, a4, b4_, hb4_⟩ := hC ((x5_1 : Int).toNat * 6 + 4) (by omega)
   subst hb4_
   obtain ⟨u5_, a5, b5_, hb5_⟩ := hC ((x5_1 : Int).toNat * 6 + 5) (by omega)
   subst hb5_
   have HGB := aZ (hP g a0.1)
   have p6 := eq_true c5
   have q6 := eq_true c3
   obtain ⟨hv0_, hx0_, _⟩ := a0.cell HS.out
   have hf0_ := a0.frozen HS.out
   go_wp2_with (first | ((with_reducible refine gate_store (t := 3) (p := 16) rfl ?_); refine store_event (t := 3) (p := 16) (v := ?vo_wm1) (w1 := (wr.setCell ⟨g, (x5_1 : Int).toNat * 6, none⟩ (.int .i64 x1_1))) ?hg ?ho ?hn ?hr ?_; (case ho => rfl); (case hg => rfl); (case hn => rfl); (case hr => first | (go_simp; done) | (go_simp; rfl)); intro wm1 hw; replace HS := aZ (show Sim P0_ W wm1 from (by rw [hw]; exact a0.set HS.out (SimV.int _ _))); replace HB := aZ ((by rw [hw]; exact below_set HB.out HGB.out : Below w0.heap.size w0 wm1)); clear hw; obtain ⟨hv1_, hx1_, _⟩ := a1.cell HS.out; have hf1_ := a1.frozen HS.out) | ((with_reducible refine gate_store (t := 3) (p := 23) rfl ?_); refine store_event (t := 3) (p := 23) (v := ?vo_wm2) (w1 := (wm1.setCell ⟨g, (x5_1 : Int).toNat * 6 + 1, none⟩ (.int .i64 (wrap64 (x1_1 + 1))))) ?hg ?ho ?hn ?hr ?_; (case ho => rfl); (case hg => rfl); (case hn => rfl); (case hr => first | (go_simp; done) | (go_simp; rfl)); intro wm2 hw; replace HS := aZ (show Sim P0_ W wm2 from (by rw [hw]; exact a1.set HS.out (SimV.int _ _))); replace HB := aZ ((by rw [hw]; exact below_set HB.out HGB.out : Below w0.heap.size w0 wm2)); clear hw; obtain ⟨hv2_, hx2_, _⟩ := a2.cell HS.out; have hf2_ := a2.frozen HS.out) | ((with_reducible refine gate_store (t := 3) (p := 30) rfl ?_); refine store_event (t := 3) (p := 30) (v := ?vo_wm3) (w1 := (wm2.setCell ⟨g, (x5_1 : Int).toNat * 6 + 2, none⟩ (.int .i64 (wrap64 ((wrap64 (x1_1 + 1)) + 1))))) ?hg ?ho ?hn ?hr ?_; (case ho => rfl); (case hg => rfl); (case hn => rfl); (case hr => first | (go_simp; done) | (go_simp; rfl)); intro wm3 hw; replace HS := aZ (show Sim P0_ W wm3 from (by rw [hw]; exact a2.set HS.out (SimV.int _ _))); replace HB := aZ ((by rw [hw]; exact below_set HB.out HGB.out : Below w0.heap.size w0 wm3)); clear hw; obtain ⟨hv3_, hx3_, _⟩ := a3.cell HS.out; have hf3_ := a3.frozen HS.out) | ((with_reducible refine gate_store (t := 3) (p := 37) rfl ?_); refine store_event (t := 3) (p := 37) (v := ?vo_wm4) (w1 := (wm3.setCell ⟨g, (x5_1 : Int).toNat * 6 + 3, none⟩ (.int .i64 (wrap64 ((wrap64 ((wrap64 (x1_1 + 1)) + 1)) + 1))))) ?hg ?ho ?hn ?hr ?_; (case ho => rfl); (case hg => rfl); (case hn => rfl); (case hr => first | (go_simp; done) | (go_simp; rfl)); intro wm4 hw; replace HS := aZ (show Sim P0_ W wm4 from (by rw [hw]; exact a3.set HS.out (SimV.int _ _))); replace HB := aZ ((by rw [hw]; exact below_set HB.out HGB.out : Below w0.heap.size w0 wm4)); clear hw; obtain ⟨hv4_, hx4_, _⟩ := a4.cell HS.out; have hf4_ := a4.frozen HS.out) | ((with_reducible refine gate_store (t := 3) (p := 44) rfl ?_); refine store_event (t := 3) (p := 44) (v := ?vo_wm5) (w1 := (wm4.setCell ⟨g, (x5_1 : Int).toNat * 6 + 4, none⟩ (.int .i64 (wrap64 ((wrap64 ((wrap64 ((wrap64 (x1_1 + 1)) + 1)) + 1)) + 1))))) ?hg ?ho ?hn ?hr ?_; (case ho => rfl); (case hg => rfl); (case hn => rfl); (case hr => first | (go_simp; done) | (go_simp; rfl)); intro wm5 hw; replace HS := aZ (show Sim P0_ W wm5 from (by rw [hw]; exact a4.set HS.out (SimV.int _ _))); replace HB := aZ ((by rw [hw]; exact below_set HB.out HGB.out : Below w0.heap.size w0 wm5)); clear hw; obtain ⟨hv5_, hx5_, _⟩ := a5.cell HS.out; have hf5_ := a5.frozen HS.out) | ((with_reducible refine gate_store (t := 3) (p := 51) rfl ?_); refine store_event (t := 3) (p := 51) (v := ?vo_wm6) (w1 := (wm5.setCell ⟨g, (x5_1 : Int).toNat * 6 + 5, none⟩ (.int .i64 (wrap64 ((wrap64 ((wrap64 ((wrap64 ((wrap64 (x1_1 + 1)) + 1)) + 1)) + 1)) + 1))))) ?hg ?ho ?hn ?hr ?_; (case ho => rfl); (case hg => rfl); (case hn => rfl); (case hr => first | (go_simp; done) | (go_simp; rfl)); intro wm6 hw; replace HS := aZ (show Sim P0_ W wm6 from (by rw [hw]; exact a5.set HS.out (SimV.int _ _))); replace HB := aZ ((by rw [hw]; exact below_set HB.out HGB.out : Below w0.heap.size w0 wm6)); clear hw))
   go_roundg k1
   case measure => have := HK1.out; omega
   case rel => exact ⟨(wrap64 ((wrap64 ((wrap64 ((wrap64 ((wrap64 ((wrap64 (x1_1 + 1)) + 1)) + 1)) + 1)) + 1)) + 1)), wrap64 (x5_1 + 1), tZB, tZB, H', ⟨by have := HK1.out; omega⟩, HS, HB⟩
def laws_markItemS.l0 : Nat → List (S130) → Int → Int → Option Int
  | 0, _, _, _ => none
  | k + 1, l, x1, x5 => if x5 < (l.length : Int) then (if 0 ≤ x5 then ((laws_markText.f k x1).bind fun t0 => ((laws_markPartS.q k (((rd_T130 l x5).f3).length : Int) (wrap64 ((wrap64 ((wrap64 (x1 + 1)) + 1)) + 1)) 0).bind fun y1 => ((laws_markPartS.q k (((rd_T130 l x5).f4).length : Int) y1 0).bind fun y2 => (laws_markItemS.l0 k l y2 (wrap64 (x5 + 1)))))) else none) else some x1
theorem laws_markItemS.l0.mono_q : ∀ k, ∀ y0 y1 y2, LeO (laws_markItemS.l0 k y0 y1 y2) (laws_markItemS.l0 (k + 1) y0 y1 y2)
  | 0 => fun _ _ _ r h => by simp [laws_markItemS.l0] at h
  | k + 1 => by
    have ih0 := laws_markItemS.l0.mono_q k
    intro y0 y1 y2
    unfold laws_markItemS.l0
    repeat' first
      | (with_reducible exact ih0 _ _ _)
      | (with_reducible exact laws_markPartS.q.mono_q _ _ _ _)
      | (with_reducible exact laws_markText.mono _ _)
      | (with_reducible exact LeO.refl _)
      | (with_reducible exact LeO.none _)
      | (with_reducible refine LeO.ite ?_ ?_)
      | (with_reducible refine LeO.bind ?_ (fun _ => ?_))
      | exact LeO.none _
      | refine LeO.ite ?_ ?_
      | refine LeO.bind ?_ (fun _ => ?_)
def laws_markItemS.f (k : Nat) (l0 : List (S130)) (a1 : Int) : Option Int := laws_markItemS.l0 k l0 a1 0
theorem laws_markItemS.mono : ∀ a0 a1 k, LeO (laws_markItemS.f k a0 a1) (laws_markItemS.f (k + 1) a0 a1) := fun a0 a1 k => laws_markItemS.l0.mono_q k a0 a1 0
set_option maxHeartbeats 8000000 in
set_option maxRecDepth 100000 in
theorem laws_markItemS.calls (k : Nat) (P0_ : Nat → Prop) (u_ : Value) (l0 : List (S130)) (a1 r : Int) (base : Nat) (w0 w : World) (hB : Below w0.heap.size w0 w) (hP : ∀ k_, P0_ k_ → w0.heap.size ≤ k_) (ho : Kd.R k130 130 w base P0_ u_ l0) (h : laws_markItemS.f k l0 a1 = some r) :
    Calls Try.prog 33 #[u_, .int .i64 a1] w fun e w' => e = .returned (.int .i64 r) ∧ Below w0.heap.size w0 w' ∧ Sim P0_ w w' := by
 obtain ⟨A_, c_, rfl⟩ := Kd.R_slice ho
 have HO := Aside0.mk ho
 clear ho
 have HS := aZ (Sim.refl P0_ w)
 have HB := Aside0.mk hB
 clear hB
 have H : laws_markItemS.l0 k l0 a1 0 = some r := h
 clear h
 have H' := Aside0.mk H
 clear H
 go_enter Try.func33, Try.ntmps33
 go_wp2
 go_loopg [1, 5] k (fun kq v1 v5 w' => ∃ (x1_1 : Int) (x5_1 : Int), v1 = .int .i64 x1_1 ∧ v5 = .int .i64 x5_1 ∧ Aside0 (laws_markItemS.l0 kq l0 x1_1 x5_1 = some r) ∧ Aside0 (kq ≤ k) ∧ Aside0 (Sim P0_ w w') ∧ Aside0 (Below w0.heap.size w0 w'))
 case atStart => exact ⟨a1, 0, (by first | rfl | (simp; done)), (by first | rfl | (simp; done)), H', ⟨Nat.le_refl _⟩, HS, HB⟩
 case round =>
  clear H'
  clear HS HB
  obtain ⟨x1_1, x5_1, rfl, rfl, HA, HK1, HS, HB⟩ := hrel
  cases gk with
  | zero => exact absurd HA.out (by simp [laws_markItemS.l0])
  | succ k1 =>
   have H := HA.out
   clear HA
   simp only [laws_markItemS.l0] at H
   by_cases c3 : x5_1 < (l0.length : Int)
   rotate_left
   ·rw [if_neg c3] at H
    have c3b0 := decide_eq_false c3
    obtain rfl := Option.some.inj H
    go_wp2
    go_ret
    exact ⟨tZB, HB.out, HS.out⟩
   rw [if_pos c3] at H
   have c3b0 := decide_eq_true c3
   by_cases c5 : 0 ≤ x5_1
   rotate_left
   ·rw [if_neg c5] at H
    exact absurd H (by simp)
   rw [if_pos c5] at H
   replace H := Option.bind_eq_some_iff.mp H
   obtain ⟨t0, ht0, H⟩ := H
   have At0 := Aside0.mk ht0
   clear ht0
   replace H := Option.bind_eq_some_iff.mp H
   obtain ⟨y1, hy1, H⟩ := H
   have Ay1 := Aside0.mk hy1
   clear hy1
   replace H := Option.bind_eq_some_iff.mp H
   obtain ⟨y2, hy2, H⟩ := H
   have Ay2 := Aside0.mk hy2
   clear hy2
   have H' := Aside0.mk H
   clear H
   obtain ⟨g, cap_, he_, gb_, gl_, cl_, HG_⟩ := Kd.R_form HO.out (by omega)
   injection he_ with e1_ e2_ e3_
   subst e1_
   subst e3_
   have hPg := HO.out.1 g (by simp [Value.ownBlock])
   have HGB := aZ (hP g hPg)
   obtain ⟨ce, hcl, hM, hcc, hfr⟩ := Kd.R_elem HO.out z130 x5_1 c5 c3
   obtain ⟨v3_, v4_, rfl, g3_, g4_⟩ := k130_openM hM
   obtain ⟨A3_, c3_, rfl⟩ := Kd.R_slice g3_
   obtain ⟨N3_, hN3_⟩ : ∃ m_ : Nat, m_ = ((rd_T130 l0 x5_1).f3).length := ⟨_, rfl⟩
   obtain ⟨A4_, c4_, rfl⟩ := Kd.R_slice g4_
   obtain ⟨N4_, hN4_⟩ : ∃ m_ : Nat, m_ = ((rd_T130 l0 x5_1).f4).length := ⟨_, rfl⟩
   have a0 : At P0_ w g ((x5_1 : Int).toNat * 5) _ := At.of hPg HG_ (hcc 0 _ rfl)
   have a1 : At P0_ w g ((x5_1 : Int).toNat * 5 + 1) _ := At.of hPg HG_ (hcc 1 _ rfl)
   have a2 : At P0_ w g ((x5_1 : Int).toNat * 5 + 2) _ := At.of hPg HG_ (hcc 2 _ rfl)
   have a3 : At P0_ w g ((x5_1 : Int).toNat * 5 + 3) (.slice A3_ N3_ c3_) := by rw [hN3_]; exact At.of hPg HG_ (hcc 3 _ rfl)
   have a4 : At P0_ w g ((x5_1 : Int).toNat * 5 + 4) (.slice A4_ N4_ c4_) := by rw [hN4_]; exact At.of hPg HG_ (hcc 4 _ rfl)
   have By1 := aZ (show laws_markPartS.q k1 (N3_ : Int) (wrap64 ((wrap64 ((wrap64 (x1_1 + 1)) + 1)) + 1)) 0 = some y1 from by rw [hN3_]; exact Ay1.out)
   have By2 := aZ (show laws_markPartS.q k1 (N4_ : Int) y1 0 = some y2 from by rw [hN4_]; exact Ay2.out)
   have F3 := aZ (show Flat P0_ w isInt A3_ (N3_ * 6) from by rw [hN3_]; exact flat_of_R isInt z149 g3_ (fun k_ hk => hk.1) (by decide) (fun ok' x cs hM2 u hu => (by have e_ := k149_openM hM2; subst e_; simp only [List.mem_cons, List.not_mem_nil, or_false] at hu; rcases hu with rfl | rfl | rfl | rfl | rfl | rfl <;> exact ⟨_, rfl⟩)))
   have F4 := aZ (show Flat P0_ w isInt A4_ (N4_ * 6) from by rw [hN4_]; exact flat_of_R isInt z149 g4_ (fun k_ hk => hk.1) (by decide) (fun ok' x cs hM2 u hu => (by have e_ := k149_openM hM2; subst e_; simp only [List.mem_cons, List.not_mem_nil, or_false] at hu; rcases hu with rfl | rfl | rfl | rfl | rfl | rfl <;> exact ⟨_, rfl⟩)))
   clear hN3_ hN4_
   have p6 := eq_true c5
   have q6 := eq_true c3
   obtain ⟨hv0_, hx0_, _⟩ := a0.cell HS.out
   have hf0_ := a0.frozen HS.out
   go_wp2_with (first | ((with_reducible refine gate_callee (f := 94) rfl ?_); refine goesL_ (some 15) rfl rfl Try.func94 kZ rfl #[.int .i64 x1_1] rfl (by (try simp only [List.map_toArray, List.map_cons, List.map_nil]); first | done | rfl) ?_; (with_reducible refine (laws_markText.calls k1 x1_1 t0 _ At0.out).mono ?_); rintro e wm1 ⟨rfl, hb_⟩; refine ⟨_, rfl, ?_⟩; replace HS := aZ (Sim.below HS.out hb_); replace HB := aZ (below_step HB.out hb_); clear hb_; obtain ⟨hv1_, hx1_, _⟩ := a0.cell HS.out; have hf1_ := a0.frozen HS.out) | ((with_reducible refine gate_store (t := 9) (p := 17) rfl ?_); refine store_event (t := 9) (p := 17) (v := ?vo_wm2) (w1 := (wm1.setCell ⟨g, (x5_1 : Int).toNat * 5, none⟩ (.string t0))) ?hg ?ho ?hn ?hr ?_; (case ho => rfl); (case hg => rfl); (case hn => rfl); (case hr => first | (go_simp; done) | (go_simp; rfl)); intro wm2 hw; replace HS := aZ (show Sim P0_ w wm2 from (by rw [hw]; exact a0.set HS.out (SimV.str _ _))); replace HB := aZ ((by rw [hw]; exact below_set HB.out HGB.out : Below w0.heap.size w0 wm2)); clear hw; obtain ⟨hv2_, hx2_, _⟩ := a1.cell HS.out; have hf2_ := a1.frozen HS.out) | ((with_reducible refine gate_store (t := 3) (p := 24) rfl ?_); refine store_event (t := 3) (p := 24) (v := ?vo_wm3) (w1 := (wm2.setCell ⟨g, (x5_1 : Int).toNat * 5 + 1, none⟩ (.int .i64 (wrap64 (x1_1 + 1))))) ?hg ?ho ?hn ?hr ?_; (case ho => rfl); (case hg => rfl); (case hn => rfl); (case hr => first | (go_simp; done) | (go_simp; rfl)); intro wm3 hw; replace HS := aZ (show Sim P0_ w wm3 from (by rw [hw]; exact a1.set HS.out (SimV.int _ _))); replace HB := aZ ((by rw [hw]; exact below_set HB.out HGB.out : Below w0.heap.size w0 wm3)); clear hw; obtain ⟨hv3_, hx3_, _⟩ := a2.cell HS.out; have hf3_ := a2.frozen HS.out) | ((with_reducible refine gate_store (t := 4) (p := 33) rfl ?_); refine store_event (t := 4) (p := 33) (v := ?vo_wm4) (w1 := ?wn_wm4) ?hg ?ho ?hn ?hr ?_; (case ho => rfl); (case hg => rfl); (case hn => rfl); (case hr => first | (go_simp; done) | (go_simp; rfl)); intro wm4 hw; replace HS := aZ (show Sim P0_ w wm4 from (by rw [hw]; exact a2.set HS.out (SimV.bool _ _))); replace HB := aZ ((by rw [hw]; exact below_set HB.out HGB.out : Below w0.heap.size w0 wm4)); clear hw; have hx4_ := a3.slice HS.out) | ((with_reducible refine gate_callee (f := 95) rfl ?_); refine goesL_ (some 42) rfl rfl Try.func95 kZ rfl #[.slice A3_ N3_ c3_, .int .i64 (wrap64 ((wrap64 ((wrap64 (x1_1 + 1)) + 1)) + 1))] rfl (by (try simp only [List.map_toArray, List.map_cons, List.map_nil]); first | done | rfl) ?_; (refine (laws_markPartS.sh k1 P0_ A3_ N3_ c3_ (wrap64 ((wrap64 ((wrap64 (x1_1 + 1)) + 1)) + 1)) y1 w0 w _ HB.out hP HS.out F3.out By1.out).mono ?_); rintro e wm5 ⟨rfl, hb_, hs_⟩; refine ⟨_, rfl, ?_⟩; replace HS := Aside0.mk hs_; replace HB := Aside0.mk hb_; clear hb_ hs_; have hx5_ := a4.slice HS.out) | ((with_reducible refine gate_callee (f := 95) rfl ?_); refine goesL_ (some 49) rfl rfl Try.func95 kZ rfl #[.slice A4_ N4_ c4_, .int .i64 y1] rfl (by (try simp only [List.map_toArray, List.map_cons, List.map_nil]); first | done | rfl) ?_; (refine (laws_markPartS.sh k1 P0_ A4_ N4_ c4_ y1 y2 w0 w _ HB.out hP HS.out F4.out By2.out).mono ?_); rintro e wm6 ⟨rfl, hb_, hs_⟩; refine ⟨_, rfl, ?_⟩; replace HS := Aside0.mk hs_; replace HB := Aside0.mk hb_; clear hb_ hs_))
   go_roundg k1
   case measure => have := HK1.out; omega
   case rel => exact ⟨y2, wrap64 (x5_1 + 1), tZB, tZB, H', ⟨by have := HK1.out; omega⟩, HS, HB⟩
end Go.Proofs.Ytjnmfadnkbflfaa.PFnExactOutput
