import Derived.Test.YtmpknbdbichdiaaBPFnExactReadBankx0
import Derived.Test.YtmpknbdbichdiaaBPFnExactReadBankx16
import Derived.Test.YtmpknbdbichdiaaBSlimWords
namespace Go.Proofs.Ytmpknbdbichdiaa.PFnExactReadBank
open Go.Proofs.Ytmpknbdbichdiaa.SlimWords
open Go.RowKit Go.Proofs.YtmpknbdbichdiaaW.PrintWords Go.Proofs.YtmpknbdbichdiaaW.PrintLast Go.Proofs.YtmpknbdbichdiaaW.PrintMore Go.Proofs.Ytmpknbdbichdiaa.MapWords Go.Proofs.Ytmpknbdbichdiaa.IterWords Go.Proofs.Ytmpknbdbichdiaa.MarkWords
attribute [local go_sem] max2_int min2_int max_two min_two max_three min_three max_four min_four
set_option linter.unusedVariables false
set_option linter.unusedSimpArgs false
private abbrev I' := true
private abbrev O' := false
private abbrev L0' : Array Bool := #[O',O',O',O',O',O',O',O']
private abbrev L1' : Array Bool := #[I',O',O',O',O',O',O',O']
private abbrev L2' : Array Bool := #[I',I',O',O',O',O',O',O']
private abbrev L3' : Array Bool := #[I',I',I',O',O',O',O',O']
private abbrev L4' : Array Bool := #[I',I',I',I',O',O',O',O']
private abbrev L5' : Array Bool := #[I',I',I',I',O',I',O',O']
private abbrev L6' : Array Bool := #[I',I',I',I',I',I',O',O']
private abbrev L7' : Array Bool := #[I',I',I',I',I',I',I',O']
private abbrev L8' : Array Bool := #[I',I',I',I',I',I',I',I']
def laws_heldPaymentS.l0 : Nat → List (S174) → Int → Int → Option (Int)
  | 0, _, _, _ => none
  | k + 1, x0, x1, x5 => if x5 < (x0.length : Int) then (if 0 ≤ x5 then ((laws_markText.f k x1).bind fun t313 => (if ((rd_T174 x0 x5).f0).toList = t313.toList then ((laws_markText.f k (wrap64 (x1 + 1))).bind fun t315 => (if ((rd_T174 x0 x5).f1).toList = t315.toList then (if ((rd_T174 x0 x5).f2) = (wrap64 ((wrap64 (x1 + 1)) + 1)) then (laws_heldPaymentS.l0 k x0 (wrap64 ((wrap64 ((wrap64 (x1 + 1)) + 1)) + 1)) (wrap64 (x5 + 1))) else (some (-1))) else (some (-1)))) else (some (-1)))) else (none)) else (some x1)
def laws_heldPaymentS.f (k : Nat) (l0 : List (S174)) (a1 : Int) : Option (Int) := laws_heldPaymentS.l0 k l0 a1 0
theorem laws_heldPaymentS.mono_l : ∀ k, (∀ y0 y1 y2, LeO (laws_heldPaymentS.l0 k y0 y1 y2) (laws_heldPaymentS.l0 (k + 1) y0 y1 y2))
  | 0 => fun _ _ _ r h => by simp [laws_heldPaymentS.l0] at h
  | k + 1 => by
    have ih0 := laws_heldPaymentS.mono_l k
    · intro y0 y1 y2
      unfold laws_heldPaymentS.l0
      repeat' first
      | (with_reducible exact ih0 _ _ _)
      | (with_reducible exact laws_markText.mono _ _)
      | (with_reducible exact LeO.refl _)
      | (with_reducible exact LeO.none _)
      | (with_reducible refine LeO.ite ?_ ?_)
      | (with_reducible refine LeO.bind ?_ (fun _ => ?_))
      | exact ih0 _ _ _
      | exact laws_markText.mono _ _
      | exact LeO.none _
      | refine LeO.ite ?_ ?_
      | refine LeO.bind ?_ (fun _ => ?_)
theorem laws_heldPaymentS.mono : ∀ a0 a1 k, LeO (laws_heldPaymentS.f k a0 a1) (laws_heldPaymentS.f (k + 1) a0 a1) := by
 intro a0 a1 k
 have ih0 := laws_heldPaymentS.mono_l k
 unfold laws_heldPaymentS.f
 repeat' first
     | (with_reducible exact ih0 _ _ _)
     | (with_reducible exact laws_markText.mono _ _)
     | (with_reducible exact LeO.refl _)
     | (with_reducible exact LeO.none _)
     | (with_reducible refine LeO.ite ?_ ?_)
     | (with_reducible refine LeO.bind ?_ (fun _ => ?_))
     | exact ih0 _ _ _
     | exact laws_markText.mono _ _
     | exact LeO.none _
     | refine LeO.ite ?_ ?_
     | refine LeO.bind ?_ (fun _ => ?_)
def laws_heldPaymentS.T4 : Bool × List (List Nat × List Nat) := (true, [([], []), ([], []), ([0, 1], [0, 1]), ([2], [2]), ([3], [3]), ([], []), ([5], [5]), ([4, 6], [4, 6])])
def laws_heldPaymentS.B4 : List Nat := [0, 0, 3, 7, 15, 0, 32, 127]
theorem laws_heldPaymentS.tab4 : rtab .any (opsOf Try.f51 4) = laws_heldPaymentS.T4 := by kernel_rfl
theorem laws_heldPaymentS.bits4 : waitsOk laws_heldPaymentS.T4.2 laws_heldPaymentS.B4 = true := by kernel_rfl
def laws_heldPaymentS.T7 : Bool × List (List Nat × List Nat) := (true, [([], []), ([], []), ([0, 1], [0, 1]), ([2], [2]), ([3], [3]), ([], []), ([5], [5]), ([4, 6], [4, 6])])
def laws_heldPaymentS.B7 : List Nat := [0, 0, 3, 7, 15, 0, 32, 127]
theorem laws_heldPaymentS.tab7 : rtab .any (opsOf Try.f51 7) = laws_heldPaymentS.T7 := by kernel_rfl
theorem laws_heldPaymentS.bits7 : waitsOk laws_heldPaymentS.T7.2 laws_heldPaymentS.B7 = true := by kernel_rfl
set_option maxHeartbeats 8000000 in
set_option maxRecDepth 100000 in
theorem laws_heldPaymentS.calls (k : Nat) (A0 : Option Addr) (c0 : Nat) (l0 : List (S174)) (a1 : Int) (r : Int) (w : World) (hr0 : Kd.C k174 w A0 l0.length l0) (hc0 : l0.length ≤ c0) (h : laws_heldPaymentS.f k l0 a1 = some r) :
    Calls Try.prog 51 #[.slice A0 l0.length c0, .int .i64 a1] w fun e w' => e = .returned (.int .i64 r) ∧ Below w.heap.size w w' := by
 have HR0 := Aside0.mk hr0
 have HC0 := Aside0.mk hc0
 clear hr0 hc0
 have HB := aZ (Below.refl w.heap.size w)
 have H : (laws_heldPaymentS.l0 k l0 a1 0) = some r := h
 clear h
 have H' := Aside0.mk H
 clear H
 go_enter Try.func51, Try.ntmps51
 go_wp2
 go_loopg [1, 5] k (fun kq v1 v5 w' => ∃ (x1_1 : Int) (x5_1 : Int), v1 = .int .i64 x1_1 ∧ v5 = .int .i64 x5_1 ∧ Aside0 (laws_heldPaymentS.l0 kq l0 x1_1 x5_1 = some r) ∧ Aside0 (kq ≤ k) ∧ Aside0 (Below w.heap.size w w'))
 case atStart => exact ⟨(a1), (0), tZB, tZB, H', ⟨Nat.le_refl _⟩, ⟨bZ⟩⟩
 case round =>
  clear H'
  try clear p2
  obtain ⟨x1_1, x5_1, rfl, rfl, HA, HK1, HB⟩ := hrel
  cases gk with
  | zero => exact absurd HA.out (by simp [laws_heldPaymentS.l0])
  | succ k1 =>
   have H := HA.out
   clear HA
   simp only [laws_heldPaymentS.l0] at H
   by_cases c3 : x5_1 < (l0.length : Int)
   rotate_left
   ·rw [if_neg c3] at H
    have c3b0 := decide_eq_false c3
    clear c3
    obtain rfl := Option.some.inj H
    go_wp2
    go_ret
    exact ⟨tZC, bZ⟩
   rw [if_pos c3] at H
   have c3b0 := decide_eq_true c3
   clear c3
   by_cases c4 : 0 ≤ x5_1
   rotate_left
   ·rw [if_neg c4] at H
    exact absurd H (by simp)
   rw [if_pos c4] at H
   have c4b0 := decide_eq_true c4
   clear c4
   replace H := Option.bind_eq_some_iff.mp H
   obtain ⟨t313, A50, H⟩ := H
   replace H : (if ((rd_T174 l0 x5_1).f0).toList = t313.toList then ((laws_markText.f k1 (wrap64 (x1_1 + 1))).bind fun t315 => (if ((rd_T174 l0 x5_1).f1).toList = t315.toList then (if ((rd_T174 l0 x5_1).f2) = (wrap64 ((wrap64 (x1_1 + 1)) + 1)) then (laws_heldPaymentS.l0 k1 l0 (wrap64 ((wrap64 ((wrap64 (x1_1 + 1)) + 1)) + 1)) (wrap64 (x5_1 + 1))) else (some (-1))) else (some (-1)))) else (some (-1))) = some r := H
   have A5 := Aside0.mk A50
   clear A50
   by_cases c6 : ((rd_T174 l0 x5_1).f0).toList = t313.toList
   rotate_left
   ·rw [if_neg c6] at H
    have c6b0 : (((rd_T174 l0 x5_1).f0).toList == t313.toList) = false := beq_eq_false_iff_ne.mpr c6
    have c6b1 : (((rd_T174 l0 x5_1).f0).toList != t313.toList) = true := bne_iff_ne.mpr c6
    obtain rfl := Option.some.inj H
    try go_wp2
    replace HB := aZ (below_drew1 HB.out)
    have p312 : 0 ≤ (x5_1 : Int) := of_decide_eq_true tZE
    have q312 : x5_1 < (l0.length : Int) := of_decide_eq_true tZE
    obtain ⟨ad312, e312, hx312_0, hx312_1, hx312_2⟩ := at_T174 HR0.out x5_1 p312 q312
    have hw312_2 := hx312_2
    have hw312_1 := hx312_1
    have hw312_0 := hx312_0
    cases e312
    replace hx312_0 := cZ HB hx312_0
    replace hx312_1 := cZ HB hx312_1
    replace hx312_2 := cZ HB hx312_2
    replace p312 := eq_true p312
    replace q312 := eq_true q312
    refine start_ (n := 8) (S := fun w' => w'.cell? (ad312.add ((x5_1).toNat * 3)) = some (.string ((rd_T174 l0 x5_1).f0)) ∧ w'.cell? ⟨(ad312.add ((x5_1).toNat * 3)).block, (ad312.add ((x5_1).toNat * 3)).off + 1, none⟩ = some (.string ((rd_T174 l0 x5_1).f1)) ∧ w'.cell? ⟨(ad312.add ((x5_1).toNat * 3)).block, (ad312.add ((x5_1).toNat * 3)).off + 2, none⟩ = some (.int .i64 ((rd_T174 l0 x5_1).f2))) (ds := []) L0' kZ rfl rfl ⟨((HB.out.cell (World.block_lt_of_cell? w _ hw312_0)).trans hw312_0), ((HB.out.cell (World.block_lt_of_cell? w _ hw312_1)).trans hw312_1), ((HB.out.cell (World.block_lt_of_cell? w _ hw312_2)).trans hw312_2)⟩ (fun hHeld => ?_); refine with_tabW laws_heldPaymentS.tab4 laws_heldPaymentS.bits4 (fun HT_ HW_ => ?_)
    generalize wr.drew = w22 at HB hx312_0 hx312_1 hx312_2 hHeld ⊢
    refine pure_ (i := 0) (N := some 12) (v := ?_) (a' := ?_) L1' rfl rfl (any_of HT_.out kZ) (fun _ _ _ h => h) (Or.inl ⟨by rfl, ?_⟩) ?_ ?_
    rotate_left
    ·intro w'
     go_simp
     with_reducible rfl
    rotate_left
    ·simp only [Act.put, sZ1, sZ2, sZ3, i64_w, i32_w]
     rfl
    refine pure_ (i := 1) (N := some 13) (v := ?_) (a' := ?_) L2' rfl rfl (any_of HT_.out kZ) (fun _ _ _ h => h) (Or.inl ⟨by rfl, ?_⟩) ?_ ?_
    rotate_left
    ·intro w'
     go_simp
     with_reducible rfl
    rotate_left
    ·simp only [Act.put, sZ1, sZ2, sZ3, i64_w, i32_w]
     rfl
    refine pure_ (i := 2) (N := some 14) (v := ?_) (a' := ?_) L3' rfl rfl (any_of HT_.out kZ) (fun _ _ _ h => h) (Or.inl ⟨by rfl, ?_⟩) ?_ ?_
    rotate_left
    ·intro w'
     go_simp
     with_reducible rfl
    rotate_left
    ·simp only [Act.put, sZ1, sZ2, sZ3, i64_w, i32_w]
     rfl
    refine pure_ (i := 3) (N := some 15) (v := ?_) (a' := ?_) L4' rfl rfl (any_of HT_.out kZ) (fun _ _ _ h => h) (Or.inl ⟨by rfl, ?_⟩) ?_ ?_
    rotate_left
    ·intro w'
     go_simp
     with_reducible rfl
    rotate_left
    ·simp only [Act.put, sZ1, sZ2, sZ3, i64_w, i32_w]
     rfl
    refine pure_ (i := 5) (N := some 17) (v := ?_) (a' := ?_) L5' rfl rfl (any_of HT_.out kZ) (fun _ _ _ h => h) (Or.inl ⟨by rfl, ?_⟩) ?_ ?_
    rotate_left
    ·intro w'
     go_simp
     with_reducible rfl
    rotate_left
    ·simp only [Act.put, sZ1, sZ2, sZ3, i64_w, i32_w]
     rfl
    refine take_ (i := 4) (N := some 16) (v := ?_) (a' := ?_) L6' rfl rfl (take_ofW HT_.out HW_.out kZ) (fun _ _ _ h => h) (Or.inl ⟨by rfl, ?_⟩) hHeld ?_ ?_
    rotate_left
    ·rintro w' ⟨s0, s1, s2⟩
     go_simp
     with_reducible rfl
    rotate_left
    ·simp only [Act.put, sZ1, sZ2, sZ3, i64_w, i32_w]
     rfl
    refine one_ (i := 6) (N := some 18) L7' rfl rfl (one_of HT_.out kZ) (by decide) (fun K hK => ?_)
    refine goes_ Try.func97 kZ rfl #[.int .i64 x1_1] (by rfl) rfl rfl tZA ?_
    with_reducible refine (laws_markText.calls k1 x1_1 t313 _ A5.out).mono ?_
    rintro e w23 ⟨rfl, hb⟩
    refine ⟨_, rfl, ?_⟩
    replace HB := aZ (below_step (lZB HB.out) hb)
    (try clear hb)
    (try clear hb2)
    (try clear hk)
    (try clear hi)
    refine hK.out _ _ ⟨((HB.out.cell (World.block_lt_of_cell? w _ hw312_0)).trans hw312_0), ((HB.out.cell (World.block_lt_of_cell? w _ hw312_1)).trans hw312_1), ((HB.out.cell (World.block_lt_of_cell? w _ hw312_2)).trans hw312_2)⟩ (fun hHeld => ?_)
    clear hK K
    refine norm_ (a' := ?_) ?_ ?_
    rotate_left
    ·show Act.put _ (some 18) _ = _
     simp only [Act.put, sZ1, sZ2, sZ3, i64_w, i32_w]
     rfl
    refine pure_ (i := 7) (N := some 19) (v := ?_) (a' := ?_) L8' rfl rfl (any_of HT_.out kZ) (fun _ _ _ h => h) (Or.inl ⟨by rfl, ?_⟩) ?_ ?_
    rotate_left
    ·intro w'
     go_simp
     with_reducible rfl
    rotate_left
    ·simp only [Act.put, sZ1, sZ2, sZ3, i64_w, i32_w]
     rfl
    refine done_ (done_of HT_.out kZ) ?_
    try go_wp2
    go_ret
    exact ⟨tZC, bZ⟩
   rw [if_pos c6] at H
   have c6b0 : (((rd_T174 l0 x5_1).f0).toList == t313.toList) = true := beq_iff_eq.mpr c6
   have c6b1 : (((rd_T174 l0 x5_1).f0).toList != t313.toList) = false := bne_eq_false_iff_eq.mpr c6
   clear c6
   replace H := Option.bind_eq_some_iff.mp H
   obtain ⟨t315, A70, H⟩ := H
   replace H : (if ((rd_T174 l0 x5_1).f1).toList = t315.toList then (if ((rd_T174 l0 x5_1).f2) = (wrap64 ((wrap64 (x1_1 + 1)) + 1)) then (laws_heldPaymentS.l0 k1 l0 (wrap64 ((wrap64 ((wrap64 (x1_1 + 1)) + 1)) + 1)) (wrap64 (x5_1 + 1))) else (some (-1))) else (some (-1))) = some r := H
   have A7 := Aside0.mk A70
   clear A70
   by_cases c8 : ((rd_T174 l0 x5_1).f1).toList = t315.toList
   rotate_left
   ·rw [if_neg c8] at H
    have c8b0 : (((rd_T174 l0 x5_1).f1).toList == t315.toList) = false := beq_eq_false_iff_ne.mpr c8
    have c8b1 : (((rd_T174 l0 x5_1).f1).toList != t315.toList) = true := bne_iff_ne.mpr c8
    obtain rfl := Option.some.inj H
    try go_wp2
    replace HB := aZ (below_drew1 HB.out)
    have p312 : 0 ≤ (x5_1 : Int) := of_decide_eq_true tZE
    have q312 : x5_1 < (l0.length : Int) := of_decide_eq_true tZE
    obtain ⟨ad312, e312, hx312_0, hx312_1, hx312_2⟩ := at_T174 HR0.out x5_1 p312 q312
    have hw312_2 := hx312_2
    have hw312_1 := hx312_1
    have hw312_0 := hx312_0
    cases e312
    replace hx312_0 := cZ HB hx312_0
    replace hx312_1 := cZ HB hx312_1
    replace hx312_2 := cZ HB hx312_2
    replace p312 := eq_true p312
    replace q312 := eq_true q312
    refine start_ (n := 8) (S := fun w' => w'.cell? (ad312.add ((x5_1).toNat * 3)) = some (.string ((rd_T174 l0 x5_1).f0)) ∧ w'.cell? ⟨(ad312.add ((x5_1).toNat * 3)).block, (ad312.add ((x5_1).toNat * 3)).off + 1, none⟩ = some (.string ((rd_T174 l0 x5_1).f1)) ∧ w'.cell? ⟨(ad312.add ((x5_1).toNat * 3)).block, (ad312.add ((x5_1).toNat * 3)).off + 2, none⟩ = some (.int .i64 ((rd_T174 l0 x5_1).f2))) (ds := []) L0' kZ rfl rfl ⟨((HB.out.cell (World.block_lt_of_cell? w _ hw312_0)).trans hw312_0), ((HB.out.cell (World.block_lt_of_cell? w _ hw312_1)).trans hw312_1), ((HB.out.cell (World.block_lt_of_cell? w _ hw312_2)).trans hw312_2)⟩ (fun hHeld => ?_); refine with_tabW laws_heldPaymentS.tab4 laws_heldPaymentS.bits4 (fun HT_ HW_ => ?_)
    generalize wr.drew = w18 at HB hx312_0 hx312_1 hx312_2 hHeld ⊢
    refine pure_ (i := 0) (N := some 12) (v := ?_) (a' := ?_) L1' rfl rfl (any_of HT_.out kZ) (fun _ _ _ h => h) (Or.inl ⟨by rfl, ?_⟩) ?_ ?_
    rotate_left
    ·intro w'
     go_simp
     with_reducible rfl
    rotate_left
    ·simp only [Act.put, sZ1, sZ2, sZ3, i64_w, i32_w]
     rfl
    refine pure_ (i := 1) (N := some 13) (v := ?_) (a' := ?_) L2' rfl rfl (any_of HT_.out kZ) (fun _ _ _ h => h) (Or.inl ⟨by rfl, ?_⟩) ?_ ?_
    rotate_left
    ·intro w'
     go_simp
     with_reducible rfl
    rotate_left
    ·simp only [Act.put, sZ1, sZ2, sZ3, i64_w, i32_w]
     rfl
    refine pure_ (i := 2) (N := some 14) (v := ?_) (a' := ?_) L3' rfl rfl (any_of HT_.out kZ) (fun _ _ _ h => h) (Or.inl ⟨by rfl, ?_⟩) ?_ ?_
    rotate_left
    ·intro w'
     go_simp
     with_reducible rfl
    rotate_left
    ·simp only [Act.put, sZ1, sZ2, sZ3, i64_w, i32_w]
     rfl
    refine pure_ (i := 3) (N := some 15) (v := ?_) (a' := ?_) L4' rfl rfl (any_of HT_.out kZ) (fun _ _ _ h => h) (Or.inl ⟨by rfl, ?_⟩) ?_ ?_
    rotate_left
    ·intro w'
     go_simp
     with_reducible rfl
    rotate_left
    ·simp only [Act.put, sZ1, sZ2, sZ3, i64_w, i32_w]
     rfl
    refine pure_ (i := 5) (N := some 17) (v := ?_) (a' := ?_) L5' rfl rfl (any_of HT_.out kZ) (fun _ _ _ h => h) (Or.inl ⟨by rfl, ?_⟩) ?_ ?_
    rotate_left
    ·intro w'
     go_simp
     with_reducible rfl
    rotate_left
    ·simp only [Act.put, sZ1, sZ2, sZ3, i64_w, i32_w]
     rfl
    refine take_ (i := 4) (N := some 16) (v := ?_) (a' := ?_) L6' rfl rfl (take_ofW HT_.out HW_.out kZ) (fun _ _ _ h => h) (Or.inl ⟨by rfl, ?_⟩) hHeld ?_ ?_
    rotate_left
    ·rintro w' ⟨s0, s1, s2⟩
     go_simp
     with_reducible rfl
    rotate_left
    ·simp only [Act.put, sZ1, sZ2, sZ3, i64_w, i32_w]
     rfl
    refine one_ (i := 6) (N := some 18) L7' rfl rfl (one_of HT_.out kZ) (by decide) (fun K hK => ?_)
    refine goes_ Try.func97 kZ rfl #[.int .i64 x1_1] (by rfl) rfl rfl tZA ?_
    with_reducible refine (laws_markText.calls k1 x1_1 t313 _ A5.out).mono ?_
    rintro e w19 ⟨rfl, hb⟩
    refine ⟨_, rfl, ?_⟩
    replace HB := aZ (below_step (lZB HB.out) hb)
    (try clear hb)
    (try clear hb2)
    (try clear hk)
    (try clear hi)
    refine hK.out _ _ ⟨((HB.out.cell (World.block_lt_of_cell? w _ hw312_0)).trans hw312_0), ((HB.out.cell (World.block_lt_of_cell? w _ hw312_1)).trans hw312_1), ((HB.out.cell (World.block_lt_of_cell? w _ hw312_2)).trans hw312_2)⟩ (fun hHeld => ?_)
    clear hK K
    refine norm_ (a' := ?_) ?_ ?_
    rotate_left
    ·show Act.put _ (some 18) _ = _
     simp only [Act.put, sZ1, sZ2, sZ3, i64_w, i32_w]
     rfl
    refine pure_ (i := 7) (N := some 19) (v := ?_) (a' := ?_) L8' rfl rfl (any_of HT_.out kZ) (fun _ _ _ h => h) (Or.inl ⟨by rfl, ?_⟩) ?_ ?_
    rotate_left
    ·intro w'
     go_simp
     with_reducible rfl
    rotate_left
    ·simp only [Act.put, sZ1, sZ2, sZ3, i64_w, i32_w]
     rfl
    refine done_ (done_of HT_.out kZ) ?_
    try go_wp2
    replace HB := aZ (below_drew1 HB.out)
    have p314 : 0 ≤ (x5_1 : Int) := of_decide_eq_true tZE
    have q314 : x5_1 < (l0.length : Int) := of_decide_eq_true tZE
    obtain ⟨ad314, e314, hx314_0, hx314_1, hx314_2⟩ := at_T174 HR0.out x5_1 p314 q314
    have hw314_2 := hx314_2
    have hw314_1 := hx314_1
    have hw314_0 := hx314_0
    obtain rfl : ad312 = ad314 := (by injection e314)
    replace hx314_0 := cZ HB hx314_0
    replace hx314_1 := cZ HB hx314_1
    replace hx314_2 := cZ HB hx314_2
    replace p314 := eq_true p314
    replace q314 := eq_true q314
    refine start_ (n := 8) (S := fun w' => w'.cell? (ad312.add ((x5_1).toNat * 3)) = some (.string ((rd_T174 l0 x5_1).f0)) ∧ w'.cell? ⟨(ad312.add ((x5_1).toNat * 3)).block, (ad312.add ((x5_1).toNat * 3)).off + 1, none⟩ = some (.string ((rd_T174 l0 x5_1).f1)) ∧ w'.cell? ⟨(ad312.add ((x5_1).toNat * 3)).block, (ad312.add ((x5_1).toNat * 3)).off + 2, none⟩ = some (.int .i64 ((rd_T174 l0 x5_1).f2))) (ds := []) L0' kZ rfl rfl ⟨((HB.out.cell (World.block_lt_of_cell? w _ hw314_0)).trans hw314_0), ((HB.out.cell (World.block_lt_of_cell? w _ hw314_1)).trans hw314_1), ((HB.out.cell (World.block_lt_of_cell? w _ hw314_2)).trans hw314_2)⟩ (fun hHeld => ?_); refine with_tabW laws_heldPaymentS.tab7 laws_heldPaymentS.bits7 (fun HT_ HW_ => ?_)
    generalize w19.drew = w20 at HB hx314_0 hx314_1 hx314_2 hHeld ⊢
    refine pure_ (i := 0) (N := some 22) (v := ?_) (a' := ?_) L1' rfl rfl (any_of HT_.out kZ) (fun _ _ _ h => h) (Or.inl ⟨by rfl, ?_⟩) ?_ ?_
    rotate_left
    ·intro w'
     go_simp
     with_reducible rfl
    rotate_left
    ·simp only [Act.put, sZ1, sZ2, sZ3, i64_w, i32_w]
     rfl
    refine pure_ (i := 1) (N := some 23) (v := ?_) (a' := ?_) L2' rfl rfl (any_of HT_.out kZ) (fun _ _ _ h => h) (Or.inl ⟨by rfl, ?_⟩) ?_ ?_
    rotate_left
    ·intro w'
     go_simp
     with_reducible rfl
    rotate_left
    ·simp only [Act.put, sZ1, sZ2, sZ3, i64_w, i32_w]
     rfl
    refine pure_ (i := 2) (N := some 24) (v := ?_) (a' := ?_) L3' rfl rfl (any_of HT_.out kZ) (fun _ _ _ h => h) (Or.inl ⟨by rfl, ?_⟩) ?_ ?_
    rotate_left
    ·intro w'
     go_simp
     with_reducible rfl
    rotate_left
    ·simp only [Act.put, sZ1, sZ2, sZ3, i64_w, i32_w]
     rfl
    refine pure_ (i := 3) (N := some 25) (v := ?_) (a' := ?_) L4' rfl rfl (any_of HT_.out kZ) (fun _ _ _ h => h) (Or.inl ⟨by rfl, ?_⟩) ?_ ?_
    rotate_left
    ·intro w'
     go_simp
     with_reducible rfl
    rotate_left
    ·simp only [Act.put, sZ1, sZ2, sZ3, i64_w, i32_w]
     rfl
    refine pure_ (i := 5) (N := some 27) (v := ?_) (a' := ?_) L5' rfl rfl (any_of HT_.out kZ) (fun _ _ _ h => h) (Or.inl ⟨by rfl, ?_⟩) ?_ ?_
    rotate_left
    ·intro w'
     go_simp
     with_reducible rfl
    rotate_left
    ·simp only [Act.put, sZ1, sZ2, sZ3, i64_w, i32_w]
     rfl
    refine take_ (i := 4) (N := some 26) (v := ?_) (a' := ?_) L6' rfl rfl (take_ofW HT_.out HW_.out kZ) (fun _ _ _ h => h) (Or.inl ⟨by rfl, ?_⟩) hHeld ?_ ?_
    rotate_left
    ·rintro w' ⟨s0, s1, s2⟩
     go_simp
     with_reducible rfl
    rotate_left
    ·simp only [Act.put, sZ1, sZ2, sZ3, i64_w, i32_w]
     rfl
    refine one_ (i := 6) (N := some 28) L7' rfl rfl (one_of HT_.out kZ) (by decide) (fun K hK => ?_)
    refine goes_ Try.func97 kZ rfl #[.int .i64 (wrap64 (x1_1 + 1))] (by rfl) rfl rfl tZA ?_
    with_reducible refine (laws_markText.calls k1 (wrap64 (x1_1 + 1)) t315 _ A7.out).mono ?_
    rintro e w21 ⟨rfl, hb⟩
    refine ⟨_, rfl, ?_⟩
    replace HB := aZ (below_step (lZB HB.out) hb)
    (try clear hb)
    (try clear hb2)
    (try clear hk)
    (try clear hi)
    refine hK.out _ _ ⟨((HB.out.cell (World.block_lt_of_cell? w _ hw314_0)).trans hw314_0), ((HB.out.cell (World.block_lt_of_cell? w _ hw314_1)).trans hw314_1), ((HB.out.cell (World.block_lt_of_cell? w _ hw314_2)).trans hw314_2)⟩ (fun hHeld => ?_)
    clear hK K
    refine norm_ (a' := ?_) ?_ ?_
    rotate_left
    ·show Act.put _ (some 28) _ = _
     simp only [Act.put, sZ1, sZ2, sZ3, i64_w, i32_w]
     rfl
    refine pure_ (i := 7) (N := some 29) (v := ?_) (a' := ?_) L8' rfl rfl (any_of HT_.out kZ) (fun _ _ _ h => h) (Or.inl ⟨by rfl, ?_⟩) ?_ ?_
    rotate_left
    ·intro w'
     go_simp
     with_reducible rfl
    rotate_left
    ·simp only [Act.put, sZ1, sZ2, sZ3, i64_w, i32_w]
     rfl
    refine done_ (done_of HT_.out kZ) ?_
    try go_wp2
    go_ret
    exact ⟨tZC, bZ⟩
   rw [if_pos c8] at H
   have c8b0 : (((rd_T174 l0 x5_1).f1).toList == t315.toList) = true := beq_iff_eq.mpr c8
   have c8b1 : (((rd_T174 l0 x5_1).f1).toList != t315.toList) = false := bne_eq_false_iff_eq.mpr c8
   clear c8
   by_cases c9 : ((rd_T174 l0 x5_1).f2) = (wrap64 ((wrap64 (x1_1 + 1)) + 1))
   rotate_left
   ·rw [if_neg c9] at H
    have c9b0 : (((rd_T174 l0 x5_1).f2) == (wrap64 ((wrap64 (x1_1 + 1)) + 1))) = false := beq_eq_false_iff_ne.mpr c9
    have c9b1 : (((rd_T174 l0 x5_1).f2) != (wrap64 ((wrap64 (x1_1 + 1)) + 1))) = true := bne_iff_ne.mpr c9
    obtain rfl := Option.some.inj H
    try go_wp2
    replace HB := aZ (below_drew1 HB.out)
    have p312 : 0 ≤ (x5_1 : Int) := of_decide_eq_true tZE
    have q312 : x5_1 < (l0.length : Int) := of_decide_eq_true tZE
    obtain ⟨ad312, e312, hx312_0, hx312_1, hx312_2⟩ := at_T174 HR0.out x5_1 p312 q312
    have hw312_2 := hx312_2
    have hw312_1 := hx312_1
    have hw312_0 := hx312_0
    cases e312
    replace hx312_0 := cZ HB hx312_0
    replace hx312_1 := cZ HB hx312_1
    replace hx312_2 := cZ HB hx312_2
    replace p312 := eq_true p312
    replace q312 := eq_true q312
    refine start_ (n := 8) (S := fun w' => w'.cell? (ad312.add ((x5_1).toNat * 3)) = some (.string ((rd_T174 l0 x5_1).f0)) ∧ w'.cell? ⟨(ad312.add ((x5_1).toNat * 3)).block, (ad312.add ((x5_1).toNat * 3)).off + 1, none⟩ = some (.string ((rd_T174 l0 x5_1).f1)) ∧ w'.cell? ⟨(ad312.add ((x5_1).toNat * 3)).block, (ad312.add ((x5_1).toNat * 3)).off + 2, none⟩ = some (.int .i64 ((rd_T174 l0 x5_1).f2))) (ds := []) L0' kZ rfl rfl ⟨((HB.out.cell (World.block_lt_of_cell? w _ hw312_0)).trans hw312_0), ((HB.out.cell (World.block_lt_of_cell? w _ hw312_1)).trans hw312_1), ((HB.out.cell (World.block_lt_of_cell? w _ hw312_2)).trans hw312_2)⟩ (fun hHeld => ?_); refine with_tabW laws_heldPaymentS.tab4 laws_heldPaymentS.bits4 (fun HT_ HW_ => ?_)
    generalize wr.drew = w14 at HB hx312_0 hx312_1 hx312_2 hHeld ⊢
    refine pure_ (i := 0) (N := some 12) (v := ?_) (a' := ?_) L1' rfl rfl (any_of HT_.out kZ) (fun _ _ _ h => h) (Or.inl ⟨by rfl, ?_⟩) ?_ ?_
    rotate_left
    ·intro w'
     go_simp
     with_reducible rfl
    rotate_left
    ·simp only [Act.put, sZ1, sZ2, sZ3, i64_w, i32_w]
     rfl
    refine pure_ (i := 1) (N := some 13) (v := ?_) (a' := ?_) L2' rfl rfl (any_of HT_.out kZ) (fun _ _ _ h => h) (Or.inl ⟨by rfl, ?_⟩) ?_ ?_
    rotate_left
    ·intro w'
     go_simp
     with_reducible rfl
    rotate_left
    ·simp only [Act.put, sZ1, sZ2, sZ3, i64_w, i32_w]
     rfl
    refine pure_ (i := 2) (N := some 14) (v := ?_) (a' := ?_) L3' rfl rfl (any_of HT_.out kZ) (fun _ _ _ h => h) (Or.inl ⟨by rfl, ?_⟩) ?_ ?_
    rotate_left
    ·intro w'
     go_simp
     with_reducible rfl
    rotate_left
    ·simp only [Act.put, sZ1, sZ2, sZ3, i64_w, i32_w]
     rfl
    refine pure_ (i := 3) (N := some 15) (v := ?_) (a' := ?_) L4' rfl rfl (any_of HT_.out kZ) (fun _ _ _ h => h) (Or.inl ⟨by rfl, ?_⟩) ?_ ?_
    rotate_left
    ·intro w'
     go_simp
     with_reducible rfl
    rotate_left
    ·simp only [Act.put, sZ1, sZ2, sZ3, i64_w, i32_w]
     rfl
    refine pure_ (i := 5) (N := some 17) (v := ?_) (a' := ?_) L5' rfl rfl (any_of HT_.out kZ) (fun _ _ _ h => h) (Or.inl ⟨by rfl, ?_⟩) ?_ ?_
    rotate_left
    ·intro w'
     go_simp
     with_reducible rfl
    rotate_left
    ·simp only [Act.put, sZ1, sZ2, sZ3, i64_w, i32_w]
     rfl
    refine take_ (i := 4) (N := some 16) (v := ?_) (a' := ?_) L6' rfl rfl (take_ofW HT_.out HW_.out kZ) (fun _ _ _ h => h) (Or.inl ⟨by rfl, ?_⟩) hHeld ?_ ?_
    rotate_left
    ·rintro w' ⟨s0, s1, s2⟩
     go_simp
     with_reducible rfl
    rotate_left
    ·simp only [Act.put, sZ1, sZ2, sZ3, i64_w, i32_w]
     rfl
    refine one_ (i := 6) (N := some 18) L7' rfl rfl (one_of HT_.out kZ) (by decide) (fun K hK => ?_)
    refine goes_ Try.func97 kZ rfl #[.int .i64 x1_1] (by rfl) rfl rfl tZA ?_
    with_reducible refine (laws_markText.calls k1 x1_1 t313 _ A5.out).mono ?_
    rintro e w15 ⟨rfl, hb⟩
    refine ⟨_, rfl, ?_⟩
    replace HB := aZ (below_step (lZB HB.out) hb)
    (try clear hb)
    (try clear hb2)
    (try clear hk)
    (try clear hi)
    refine hK.out _ _ ⟨((HB.out.cell (World.block_lt_of_cell? w _ hw312_0)).trans hw312_0), ((HB.out.cell (World.block_lt_of_cell? w _ hw312_1)).trans hw312_1), ((HB.out.cell (World.block_lt_of_cell? w _ hw312_2)).trans hw312_2)⟩ (fun hHeld => ?_)
    clear hK K
    refine norm_ (a' := ?_) ?_ ?_
    rotate_left
    ·show Act.put _ (some 18) _ = _
     simp only [Act.put, sZ1, sZ2, sZ3, i64_w, i32_w]
     rfl
    refine pure_ (i := 7) (N := some 19) (v := ?_) (a' := ?_) L8' rfl rfl (any_of HT_.out kZ) (fun _ _ _ h => h) (Or.inl ⟨by rfl, ?_⟩) ?_ ?_
    rotate_left
    ·intro w'
     go_simp
     with_reducible rfl
    rotate_left
    ·simp only [Act.put, sZ1, sZ2, sZ3, i64_w, i32_w]
     rfl
    refine done_ (done_of HT_.out kZ) ?_
    try go_wp2
    replace HB := aZ (below_drew1 HB.out)
    have p314 : 0 ≤ (x5_1 : Int) := of_decide_eq_true tZE
    have q314 : x5_1 < (l0.length : Int) := of_decide_eq_true tZE
    obtain ⟨ad314, e314, hx314_0, hx314_1, hx314_2⟩ := at_T174 HR0.out x5_1 p314 q314
    have hw314_2 := hx314_2
    have hw314_1 := hx314_1
    have hw314_0 := hx314_0
    obtain rfl : ad312 = ad314 := (by injection e314)
    replace hx314_0 := cZ HB hx314_0
    replace hx314_1 := cZ HB hx314_1
    replace hx314_2 := cZ HB hx314_2
    replace p314 := eq_true p314
    replace q314 := eq_true q314
    refine start_ (n := 8) (S := fun w' => w'.cell? (ad312.add ((x5_1).toNat * 3)) = some (.string ((rd_T174 l0 x5_1).f0)) ∧ w'.cell? ⟨(ad312.add ((x5_1).toNat * 3)).block, (ad312.add ((x5_1).toNat * 3)).off + 1, none⟩ = some (.string ((rd_T174 l0 x5_1).f1)) ∧ w'.cell? ⟨(ad312.add ((x5_1).toNat * 3)).block, (ad312.add ((x5_1).toNat * 3)).off + 2, none⟩ = some (.int .i64 ((rd_T174 l0 x5_1).f2))) (ds := []) L0' kZ rfl rfl ⟨((HB.out.cell (World.block_lt_of_cell? w _ hw314_0)).trans hw314_0), ((HB.out.cell (World.block_lt_of_cell? w _ hw314_1)).trans hw314_1), ((HB.out.cell (World.block_lt_of_cell? w _ hw314_2)).trans hw314_2)⟩ (fun hHeld => ?_); refine with_tabW laws_heldPaymentS.tab7 laws_heldPaymentS.bits7 (fun HT_ HW_ => ?_)
    generalize w15.drew = w16 at HB hx314_0 hx314_1 hx314_2 hHeld ⊢
    refine pure_ (i := 0) (N := some 22) (v := ?_) (a' := ?_) L1' rfl rfl (any_of HT_.out kZ) (fun _ _ _ h => h) (Or.inl ⟨by rfl, ?_⟩) ?_ ?_
    rotate_left
    ·intro w'
     go_simp
     with_reducible rfl
    rotate_left
    ·simp only [Act.put, sZ1, sZ2, sZ3, i64_w, i32_w]
     rfl
    refine pure_ (i := 1) (N := some 23) (v := ?_) (a' := ?_) L2' rfl rfl (any_of HT_.out kZ) (fun _ _ _ h => h) (Or.inl ⟨by rfl, ?_⟩) ?_ ?_
    rotate_left
    ·intro w'
     go_simp
     with_reducible rfl
    rotate_left
    ·simp only [Act.put, sZ1, sZ2, sZ3, i64_w, i32_w]
     rfl
    refine pure_ (i := 2) (N := some 24) (v := ?_) (a' := ?_) L3' rfl rfl (any_of HT_.out kZ) (fun _ _ _ h => h) (Or.inl ⟨by rfl, ?_⟩) ?_ ?_
    rotate_left
    ·intro w'
     go_simp
     with_reducible rfl
    rotate_left
    ·simp only [Act.put, sZ1, sZ2, sZ3, i64_w, i32_w]
     rfl
    refine pure_ (i := 3) (N := some 25) (v := ?_) (a' := ?_) L4' rfl rfl (any_of HT_.out kZ) (fun _ _ _ h => h) (Or.inl ⟨by rfl, ?_⟩) ?_ ?_
    rotate_left
    ·intro w'
     go_simp
     with_reducible rfl
    rotate_left
    ·simp only [Act.put, sZ1, sZ2, sZ3, i64_w, i32_w]
     rfl
    refine pure_ (i := 5) (N := some 27) (v := ?_) (a' := ?_) L5' rfl rfl (any_of HT_.out kZ) (fun _ _ _ h => h) (Or.inl ⟨by rfl, ?_⟩) ?_ ?_
    rotate_left
    ·intro w'
     go_simp
     with_reducible rfl
    rotate_left
    ·simp only [Act.put, sZ1, sZ2, sZ3, i64_w, i32_w]
     rfl
    refine take_ (i := 4) (N := some 26) (v := ?_) (a' := ?_) L6' rfl rfl (take_ofW HT_.out HW_.out kZ) (fun _ _ _ h => h) (Or.inl ⟨by rfl, ?_⟩) hHeld ?_ ?_
    rotate_left
    ·rintro w' ⟨s0, s1, s2⟩
     go_simp
     with_reducible rfl
    rotate_left
    ·simp only [Act.put, sZ1, sZ2, sZ3, i64_w, i32_w]
     rfl
    refine one_ (i := 6) (N := some 28) L7' rfl rfl (one_of HT_.out kZ) (by decide) (fun K hK => ?_)
    refine goes_ Try.func97 kZ rfl #[.int .i64 (wrap64 (x1_1 + 1))] (by rfl) rfl rfl tZA ?_
    with_reducible refine (laws_markText.calls k1 (wrap64 (x1_1 + 1)) t315 _ A7.out).mono ?_
    rintro e w17 ⟨rfl, hb⟩
    refine ⟨_, rfl, ?_⟩
    replace HB := aZ (below_step (lZB HB.out) hb)
    (try clear hb)
    (try clear hb2)
    (try clear hk)
    (try clear hi)
    refine hK.out _ _ ⟨((HB.out.cell (World.block_lt_of_cell? w _ hw314_0)).trans hw314_0), ((HB.out.cell (World.block_lt_of_cell? w _ hw314_1)).trans hw314_1), ((HB.out.cell (World.block_lt_of_cell? w _ hw314_2)).trans hw314_2)⟩ (fun hHeld => ?_)
    clear hK K
    refine norm_ (a' := ?_) ?_ ?_
    rotate_left
    ·show Act.put _ (some 28) _ = _
     simp only [Act.put, sZ1, sZ2, sZ3, i64_w, i32_w]
     rfl
    refine pure_ (i := 7) (N := some 29) (v := ?_) (a' := ?_) L8' rfl rfl (any_of HT_.out kZ) (fun _ _ _ h => h) (Or.inl ⟨by rfl, ?_⟩) ?_ ?_
    rotate_left
    ·intro w'
     go_simp
     with_reducible rfl
    rotate_left
    ·simp only [Act.put, sZ1, sZ2, sZ3, i64_w, i32_w]
     rfl
    refine done_ (done_of HT_.out kZ) ?_
    have p316 : 0 ≤ (x5_1 : Int) := of_decide_eq_true tZE
    have q316 : x5_1 < (l0.length : Int) := of_decide_eq_true tZE
    obtain ⟨ad316, e316, hx316_0, hx316_1, hx316_2⟩ := at_T174 HR0.out x5_1 p316 q316
    obtain rfl : ad312 = ad316 := (by injection e316)
    replace hx316_0 := cZ HB hx316_0
    replace hx316_1 := cZ HB hx316_1
    replace hx316_2 := cZ HB hx316_2
    replace p316 := eq_true p316
    replace q316 := eq_true q316
    try go_wp2
    go_ret
    exact ⟨tZC, bZ⟩
   rw [if_pos c9] at H
   have c9b0 : (((rd_T174 l0 x5_1).f2) == (wrap64 ((wrap64 (x1_1 + 1)) + 1))) = true := beq_iff_eq.mpr c9
   have c9b1 : (((rd_T174 l0 x5_1).f2) != (wrap64 ((wrap64 (x1_1 + 1)) + 1))) = false := bne_eq_false_iff_eq.mpr c9
   clear c9
   have H' := Aside0.mk H
   clear H
   try go_wp2
   replace HB := aZ (below_drew1 HB.out)
   have p312 : 0 ≤ (x5_1 : Int) := of_decide_eq_true tZE
   have q312 : x5_1 < (l0.length : Int) := of_decide_eq_true tZE
   obtain ⟨ad312, e312, hx312_0, hx312_1, hx312_2⟩ := at_T174 HR0.out x5_1 p312 q312
   have hw312_2 := hx312_2
   have hw312_1 := hx312_1
   have hw312_0 := hx312_0
   cases e312
   replace hx312_0 := cZ HB hx312_0
   replace hx312_1 := cZ HB hx312_1
   replace hx312_2 := cZ HB hx312_2
   replace p312 := eq_true p312
   replace q312 := eq_true q312
   refine start_ (n := 8) (S := fun w' => w'.cell? (ad312.add ((x5_1).toNat * 3)) = some (.string ((rd_T174 l0 x5_1).f0)) ∧ w'.cell? ⟨(ad312.add ((x5_1).toNat * 3)).block, (ad312.add ((x5_1).toNat * 3)).off + 1, none⟩ = some (.string ((rd_T174 l0 x5_1).f1)) ∧ w'.cell? ⟨(ad312.add ((x5_1).toNat * 3)).block, (ad312.add ((x5_1).toNat * 3)).off + 2, none⟩ = some (.int .i64 ((rd_T174 l0 x5_1).f2))) (ds := []) L0' kZ rfl rfl ⟨((HB.out.cell (World.block_lt_of_cell? w _ hw312_0)).trans hw312_0), ((HB.out.cell (World.block_lt_of_cell? w _ hw312_1)).trans hw312_1), ((HB.out.cell (World.block_lt_of_cell? w _ hw312_2)).trans hw312_2)⟩ (fun hHeld => ?_); refine with_tabW laws_heldPaymentS.tab4 laws_heldPaymentS.bits4 (fun HT_ HW_ => ?_)
   generalize wr.drew = w10 at HB hx312_0 hx312_1 hx312_2 hHeld ⊢
   refine pure_ (i := 0) (N := some 12) (v := ?_) (a' := ?_) L1' rfl rfl (any_of HT_.out kZ) (fun _ _ _ h => h) (Or.inl ⟨by rfl, ?_⟩) ?_ ?_
   rotate_left
   ·intro w'
    go_simp
    with_reducible rfl
   rotate_left
   ·simp only [Act.put, sZ1, sZ2, sZ3, i64_w, i32_w]
    rfl
   refine pure_ (i := 1) (N := some 13) (v := ?_) (a' := ?_) L2' rfl rfl (any_of HT_.out kZ) (fun _ _ _ h => h) (Or.inl ⟨by rfl, ?_⟩) ?_ ?_
   rotate_left
   ·intro w'
    go_simp
    with_reducible rfl
   rotate_left
   ·simp only [Act.put, sZ1, sZ2, sZ3, i64_w, i32_w]
    rfl
   refine pure_ (i := 2) (N := some 14) (v := ?_) (a' := ?_) L3' rfl rfl (any_of HT_.out kZ) (fun _ _ _ h => h) (Or.inl ⟨by rfl, ?_⟩) ?_ ?_
   rotate_left
   ·intro w'
    go_simp
    with_reducible rfl
   rotate_left
   ·simp only [Act.put, sZ1, sZ2, sZ3, i64_w, i32_w]
    rfl
   refine pure_ (i := 3) (N := some 15) (v := ?_) (a' := ?_) L4' rfl rfl (any_of HT_.out kZ) (fun _ _ _ h => h) (Or.inl ⟨by rfl, ?_⟩) ?_ ?_
   rotate_left
   ·intro w'
    go_simp
    with_reducible rfl
   rotate_left
   ·simp only [Act.put, sZ1, sZ2, sZ3, i64_w, i32_w]
    rfl
   refine pure_ (i := 5) (N := some 17) (v := ?_) (a' := ?_) L5' rfl rfl (any_of HT_.out kZ) (fun _ _ _ h => h) (Or.inl ⟨by rfl, ?_⟩) ?_ ?_
   rotate_left
   ·intro w'
    go_simp
    with_reducible rfl
   rotate_left
   ·simp only [Act.put, sZ1, sZ2, sZ3, i64_w, i32_w]
    rfl
   refine take_ (i := 4) (N := some 16) (v := ?_) (a' := ?_) L6' rfl rfl (take_ofW HT_.out HW_.out kZ) (fun _ _ _ h => h) (Or.inl ⟨by rfl, ?_⟩) hHeld ?_ ?_
   rotate_left
   ·rintro w' ⟨s0, s1, s2⟩
    go_simp
    with_reducible rfl
   rotate_left
   ·simp only [Act.put, sZ1, sZ2, sZ3, i64_w, i32_w]
    rfl
   refine one_ (i := 6) (N := some 18) L7' rfl rfl (one_of HT_.out kZ) (by decide) (fun K hK => ?_)
   refine goes_ Try.func97 kZ rfl #[.int .i64 x1_1] (by rfl) rfl rfl tZA ?_
   with_reducible refine (laws_markText.calls k1 x1_1 t313 _ A5.out).mono ?_
   rintro e w11 ⟨rfl, hb⟩
   refine ⟨_, rfl, ?_⟩
   replace HB := aZ (below_step (lZB HB.out) hb)
   (try clear hb)
   (try clear hb2)
   (try clear hk)
   (try clear hi)
   refine hK.out _ _ ⟨((HB.out.cell (World.block_lt_of_cell? w _ hw312_0)).trans hw312_0), ((HB.out.cell (World.block_lt_of_cell? w _ hw312_1)).trans hw312_1), ((HB.out.cell (World.block_lt_of_cell? w _ hw312_2)).trans hw312_2)⟩ (fun hHeld => ?_)
   clear hK K
   refine norm_ (a' := ?_) ?_ ?_
   rotate_left
   ·show Act.put _ (some 18) _ = _
    simp only [Act.put, sZ1, sZ2, sZ3, i64_w, i32_w]
    rfl
   refine pure_ (i := 7) (N := some 19) (v := ?_) (a' := ?_) L8' rfl rfl (any_of HT_.out kZ) (fun _ _ _ h => h) (Or.inl ⟨by rfl, ?_⟩) ?_ ?_
   rotate_left
   ·intro w'
    go_simp
    with_reducible rfl
   rotate_left
   ·simp only [Act.put, sZ1, sZ2, sZ3, i64_w, i32_w]
    rfl
   refine done_ (done_of HT_.out kZ) ?_
   try go_wp2
   replace HB := aZ (below_drew1 HB.out)
   have p314 : 0 ≤ (x5_1 : Int) := of_decide_eq_true tZE
   have q314 : x5_1 < (l0.length : Int) := of_decide_eq_true tZE
   obtain ⟨ad314, e314, hx314_0, hx314_1, hx314_2⟩ := at_T174 HR0.out x5_1 p314 q314
   have hw314_2 := hx314_2
   have hw314_1 := hx314_1
   have hw314_0 := hx314_0
   obtain rfl : ad312 = ad314 := (by injection e314)
   replace hx314_0 := cZ HB hx314_0
   replace hx314_1 := cZ HB hx314_1
   replace hx314_2 := cZ HB hx314_2
   replace p314 := eq_true p314
   replace q314 := eq_true q314
   refine start_ (n := 8) (S := fun w' => w'.cell? (ad312.add ((x5_1).toNat * 3)) = some (.string ((rd_T174 l0 x5_1).f0)) ∧ w'.cell? ⟨(ad312.add ((x5_1).toNat * 3)).block, (ad312.add ((x5_1).toNat * 3)).off + 1, none⟩ = some (.string ((rd_T174 l0 x5_1).f1)) ∧ w'.cell? ⟨(ad312.add ((x5_1).toNat * 3)).block, (ad312.add ((x5_1).toNat * 3)).off + 2, none⟩ = some (.int .i64 ((rd_T174 l0 x5_1).f2))) (ds := []) L0' kZ rfl rfl ⟨((HB.out.cell (World.block_lt_of_cell? w _ hw314_0)).trans hw314_0), ((HB.out.cell (World.block_lt_of_cell? w _ hw314_1)).trans hw314_1), ((HB.out.cell (World.block_lt_of_cell? w _ hw314_2)).trans hw314_2)⟩ (fun hHeld => ?_); refine with_tabW laws_heldPaymentS.tab7 laws_heldPaymentS.bits7 (fun HT_ HW_ => ?_)
   generalize w11.drew = w12 at HB hx314_0 hx314_1 hx314_2 hHeld ⊢
   refine pure_ (i := 0) (N := some 22) (v := ?_) (a' := ?_) L1' rfl rfl (any_of HT_.out kZ) (fun _ _ _ h => h) (Or.inl ⟨by rfl, ?_⟩) ?_ ?_
   rotate_left
   ·intro w'
    go_simp
    with_reducible rfl
   rotate_left
   ·simp only [Act.put, sZ1, sZ2, sZ3, i64_w, i32_w]
    rfl
   refine pure_ (i := 1) (N := some 23) (v := ?_) (a' := ?_) L2' rfl rfl (any_of HT_.out kZ) (fun _ _ _ h => h) (Or.inl ⟨by rfl, ?_⟩) ?_ ?_
   rotate_left
   ·intro w'
    go_simp
    with_reducible rfl
   rotate_left
   ·simp only [Act.put, sZ1, sZ2, sZ3, i64_w, i32_w]
    rfl
   refine pure_ (i := 2) (N := some 24) (v := ?_) (a' := ?_) L3' rfl rfl (any_of HT_.out kZ) (fun _ _ _ h => h) (Or.inl ⟨by rfl, ?_⟩) ?_ ?_
   rotate_left
   ·intro w'
    go_simp
    with_reducible rfl
   rotate_left
   ·simp only [Act.put, sZ1, sZ2, sZ3, i64_w, i32_w]
    rfl
   refine pure_ (i := 3) (N := some 25) (v := ?_) (a' := ?_) L4' rfl rfl (any_of HT_.out kZ) (fun _ _ _ h => h) (Or.inl ⟨by rfl, ?_⟩) ?_ ?_
   rotate_left
   ·intro w'
    go_simp
    with_reducible rfl
   rotate_left
   ·simp only [Act.put, sZ1, sZ2, sZ3, i64_w, i32_w]
    rfl
   refine pure_ (i := 5) (N := some 27) (v := ?_) (a' := ?_) L5' rfl rfl (any_of HT_.out kZ) (fun _ _ _ h => h) (Or.inl ⟨by rfl, ?_⟩) ?_ ?_
   rotate_left
   ·intro w'
    go_simp
    with_reducible rfl
   rotate_left
   ·simp only [Act.put, sZ1, sZ2, sZ3, i64_w, i32_w]
    rfl
   refine take_ (i := 4) (N := some 26) (v := ?_) (a' := ?_) L6' rfl rfl (take_ofW HT_.out HW_.out kZ) (fun _ _ _ h => h) (Or.inl ⟨by rfl, ?_⟩) hHeld ?_ ?_
   rotate_left
   ·rintro w' ⟨s0, s1, s2⟩
    go_simp
    with_reducible rfl
   rotate_left
   ·simp only [Act.put, sZ1, sZ2, sZ3, i64_w, i32_w]
    rfl
   refine one_ (i := 6) (N := some 28) L7' rfl rfl (one_of HT_.out kZ) (by decide) (fun K hK => ?_)
   refine goes_ Try.func97 kZ rfl #[.int .i64 (wrap64 (x1_1 + 1))] (by rfl) rfl rfl tZA ?_
   with_reducible refine (laws_markText.calls k1 (wrap64 (x1_1 + 1)) t315 _ A7.out).mono ?_
   rintro e w13 ⟨rfl, hb⟩
   refine ⟨_, rfl, ?_⟩
   replace HB := aZ (below_step (lZB HB.out) hb)
   (try clear hb)
   (try clear hb2)
   (try clear hk)
   (try clear hi)
   refine hK.out _ _ ⟨((HB.out.cell (World.block_lt_of_cell? w _ hw314_0)).trans hw314_0), ((HB.out.cell (World.block_lt_of_cell? w _ hw314_1)).trans hw314_1), ((HB.out.cell (World.block_lt_of_cell? w _ hw314_2)).trans hw314_2)⟩ (fun hHeld => ?_)
   clear hK K
   refine norm_ (a' := ?_) ?_ ?_
   rotate_left
   ·show Act.put _ (some 28) _ = _
    simp only [Act.put, sZ1, sZ2, sZ3, i64_w, i32_w]
    rfl
   refine pure_ (i := 7) (N := some 29) (v := ?_) (a' := ?_) L8' rfl rfl (any_of HT_.out kZ) (fun _ _ _ h => h) (Or.inl ⟨by rfl, ?_⟩) ?_ ?_
   rotate_left
   ·intro w'
    go_simp
    with_reducible rfl
   rotate_left
   ·simp only [Act.put, sZ1, sZ2, sZ3, i64_w, i32_w]
    rfl
   refine done_ (done_of HT_.out kZ) ?_
   have p316 : 0 ≤ (x5_1 : Int) := of_decide_eq_true tZE
   have q316 : x5_1 < (l0.length : Int) := of_decide_eq_true tZE
   obtain ⟨ad316, e316, hx316_0, hx316_1, hx316_2⟩ := at_T174 HR0.out x5_1 p316 q316
   obtain rfl : ad312 = ad316 := (by injection e316)
   replace hx316_0 := cZ HB hx316_0
   replace hx316_1 := cZ HB hx316_1
   replace hx316_2 := cZ HB hx316_2
   replace p316 := eq_true p316
   replace q316 := eq_true q316
   try go_wp2
   go_roundg k1
   case measure => have := HK1.out; omega
   case rel => exact ⟨(wrap64 ((wrap64 ((wrap64 (x1_1 + 1)) + 1)) + 1)), (wrap64 (x5_1 + 1)), tZB, tZB, H', ⟨by have := HK1.out; omega⟩, ⟨bZ⟩⟩
end Go.Proofs.Ytmpknbdbichdiaa.PFnExactReadBank
