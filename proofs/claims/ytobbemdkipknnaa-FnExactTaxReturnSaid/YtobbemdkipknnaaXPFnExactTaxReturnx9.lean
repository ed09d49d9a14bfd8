import Derived.Test.YtobbemdkipknnaaXPFnExactTaxReturnx0
import Derived.Test.YtobbemdkipknnaaXPFnExactTaxReturnx8
import Derived.Test.YtobbemdkipknnaaXSlimWords
namespace Go.Proofs.Ytobbemdkipknnaa.PFnExactTaxReturn
open Go.Proofs.Ytobbemdkipknnaa.SlimWords
open Go.RowKit Go.Proofs.YtobbemdkipknnaaW.PrintWords Go.Proofs.YtobbemdkipknnaaW.PrintLast Go.Proofs.YtobbemdkipknnaaW.PrintMore Go.Proofs.Ytobbemdkipknnaa.MapWords Go.Proofs.Ytobbemdkipknnaa.IterWords Go.Proofs.Ytobbemdkipknnaa.MarkWords
attribute [local go_sem] max2_int min2_int max_two min_two max_three min_three max_four min_four
set_option linter.unusedVariables false
set_option linter.unusedSimpArgs false
private abbrev I' := true
private abbrev O' := false
private abbrev L0' : Array Bool := #[O',O',O',O',O',O',O',O']
private abbrev L1' : Array Bool := #[I',O',O',O',O',O',O',O']
private abbrev L2' : Array Bool := #[I',I',O',O',O',O',O',O']
private abbrev L3' : Array Bool := #[I',I',I',O',O',O',O',O']
private abbrev L4' : Array Bool := #[I',I',I',I',O',O',O',O']
private abbrev L5' : Array Bool := #[I',I',I',I',O',I',O',O']
private abbrev L6' : Array Bool := #[I',I',I',I',I',I',O',O']
private abbrev L7' : Array Bool := #[I',I',I',I',I',I',I',O']
private abbrev L8' : Array Bool := #[I',I',I',I',I',I',I',I']
def laws_heldTaxLineS.l0 : Nat → List (S59) → Int → Int → Option (Int)
  | 0, _, _, _ => none
  | k + 1, x0, x1, x5 => if x5 < (x0.length : Int) then (if 0 ≤ x5 then ((laws_markText.f k x1).bind fun t276 => (if ((rd_T59 x0 x5).f0).toList = t276.toList then (if ((rd_T59 x0 x5).f1) = (wrap64 (x1 + 1)) then (if ((rd_T59 x0 x5).f2) = (wrap64 ((wrap64 (x1 + 1)) + 1)) then (if ((rd_T59 x0 x5).f3) = (wrap64 ((wrap64 ((wrap64 (x1 + 1)) + 1)) + 1)) then (laws_heldTaxLineS.l0 k x0 (wrap64 ((wrap64 ((wrap64 ((wrap64 (x1 + 1)) + 1)) + 1)) + 1)) (wrap64 (x5 + 1))) else (some (-1))) else (some (-1))) else (some (-1))) else (some (-1)))) else (none)) else (some x1)
def laws_heldTaxLineS.f (k : Nat) (l0 : List (S59)) (a1 : Int) : Option (Int) := laws_heldTaxLineS.l0 k l0 a1 0
theorem laws_heldTaxLineS.mono_l : ∀ k, (∀ y0 y1 y2, LeO (laws_heldTaxLineS.l0 k y0 y1 y2) (laws_heldTaxLineS.l0 (k + 1) y0 y1 y2))
  | 0 => fun _ _ _ r h => by simp [laws_heldTaxLineS.l0] at h
  | k + 1 => by
    have ih0 := laws_heldTaxLineS.mono_l k
    · intro y0 y1 y2
      unfold laws_heldTaxLineS.l0
      repeat' first
      | (with_reducible exact ih0 _ _ _)
      | (with_reducible exact laws_markText.mono _ _)
      | (with_reducible exact LeO.refl _)
      | (with_reducible exact LeO.none _)
      | (with_reducible refine LeO.ite ?_ ?_)
      | (with_reducible refine LeO.bind ?_ (fun _ => ?_))
      | exact ih0 _ _ _
      | exact laws_markText.mono _ _
      | exact LeO.none _
      | refine LeO.ite ?_ ?_
      | refine LeO.bind ?_ (fun _ => ?_)
theorem laws_heldTaxLineS.mono : ∀ a0 a1 k, LeO (laws_heldTaxLineS.f k a0 a1) (laws_heldTaxLineS.f (k + 1) a0 a1) := by
 intro a0 a1 k
 have ih0 := laws_heldTaxLineS.mono_l k
 unfold laws_heldTaxLineS.f
 repeat' first
     | (with_reducible exact ih0 _ _ _)
     | (with_reducible exact laws_markText.mono _ _)
     | (with_reducible exact LeO.refl _)
     | (with_reducible exact LeO.none _)
     | (with_reducible refine LeO.ite ?_ ?_)
     | (with_reducible refine LeO.bind ?_ (fun _ => ?_))
     | exact ih0 _ _ _
     | exact laws_markText.mono _ _
     | exact LeO.none _
     | refine LeO.ite ?_ ?_
     | refine LeO.bind ?_ (fun _ => ?_)
def laws_heldTaxLineS.T4 : Bool × List (List Nat × List Nat) := (true, [([], []), ([], []), ([0, 1], [0, 1]), ([2], [2]), ([3], [3]), ([], []), ([5], [5]), ([4, 6], [4, 6])])
def laws_heldTaxLineS.B4 : List Nat := [0, 0, 3, 7, 15, 0, 32, 127]
theorem laws_heldTaxLineS.tab4 : rtab .any (opsOf Try.f16 4) = laws_heldTaxLineS.T4 := by kernel_rfl
theorem laws_heldTaxLineS.bits4 : waitsOk laws_heldTaxLineS.T4.2 laws_heldTaxLineS.B4 = true := by kernel_rfl
set_option maxHeartbeats 8000000 in
set_option maxRecDepth 100000 in
theorem laws_heldTaxLineS.calls (k : Nat) (A0 : Option Addr) (c0 : Nat) (l0 : List (S59)) (a1 : Int) (r : Int) (w : World) (hr0 : Kd.C k59 w A0 l0.length l0) (hc0 : l0.length ≤ c0) (h : laws_heldTaxLineS.f k l0 a1 = some r) :
    Calls Try.prog 16 #[.slice A0 l0.length c0, .int .i64 a1] w fun e w' => e = .returned (.int .i64 r) ∧ Below w.heap.size w w' := by
 have HR0 := Aside0.mk hr0; have HC0 := Aside0.mk hc0; clear hr0 hc0; have HB := aZ (Below.refl w.heap.size w); have H : (laws_heldTaxLineS.l0 k l0 a1 0) = some r := h; clear h; have H' := Aside0.mk H; clear H; go_enter Try.func16, Try.ntmps16; go_wp2
 go_loopg [1, 5] k (fun kq v1 v5 w' => ∃ (x1_1 : Int) (x5_1 : Int), v1 = .int .i64 x1_1 ∧ v5 = .int .i64 x5_1 ∧ Aside0 (laws_heldTaxLineS.l0 kq l0 x1_1 x5_1 = some r) ∧ Aside0 (kq ≤ k) ∧ Aside0 (Below w.heap.size w w'))
 case atStart => exact ⟨(a1), (0), tZB, tZB, H', ⟨Nat.le_refl _⟩, ⟨bZ⟩⟩
 case round =>
  clear H'; obtain ⟨x1_1, x5_1, rfl, rfl, HA, HK1, HB⟩ := hrel
  cases gk with
  | zero => exact absurd HA.out (by simp [laws_heldTaxLineS.l0])
  | succ k1 =>
   have H := HA.out; clear HA; simp only [laws_heldTaxLineS.l0] at H
   by_cases c3 : x5_1 < (l0.length : Int)
   rotate_left
   ·rw [if_neg c3] at H; have c3b0 := decide_eq_false c3; clear c3; obtain rfl := Option.some.inj H; go_wp2; go_ret; exact ⟨tZC, bZ⟩
   rw [if_pos c3] at H; have c3b0 := decide_eq_true c3; clear c3
   by_cases c4 : 0 ≤ x5_1
   rotate_left
   ·rw [if_neg c4] at H; exact absurd H (by simp)
   rw [if_pos c4] at H; have c4b0 := decide_eq_true c4; clear c4; replace H := Option.bind_eq_some_iff.mp H; obtain ⟨t276, A50, H⟩ := H; replace H : (if ((rd_T59 l0 x5_1).f0).toList = t276.toList then (if ((rd_T59 l0 x5_1).f1) = (wrap64 (x1_1 + 1)) then (if ((rd_T59 l0 x5_1).f2) = (wrap64 ((wrap64 (x1_1 + 1)) + 1)) then (if ((rd_T59 l0 x5_1).f3) = (wrap64 ((wrap64 ((wrap64 (x1_1 + 1)) + 1)) + 1)) then (laws_heldTaxLineS.l0 k1 l0 (wrap64 ((wrap64 ((wrap64 ((wrap64 (x1_1 + 1)) + 1)) + 1)) + 1)) (wrap64 (x5_1 + 1))) else (some (-1))) else (some (-1))) else (some (-1))) else (some (-1))) = some r := H; have A5 := Aside0.mk A50; clear A50
   by_cases c6 : ((rd_T59 l0 x5_1).f0).toList = t276.toList
   rotate_left
   ·rw [if_neg c6] at H; have c6b0 : (((rd_T59 l0 x5_1).f0).toList == t276.toList) = false := beq_eq_false_iff_ne.mpr c6; have c6b1 : (((rd_T59 l0 x5_1).f0).toList != t276.toList) = true := bne_iff_ne.mpr c6; obtain rfl := Option.some.inj H
    try go_wp2
    replace HB := aZ (below_drew1 HB.out); have p275 : 0 ≤ (x5_1 : Int) := of_decide_eq_true tZE; have q275 : x5_1 < (l0.length : Int) := of_decide_eq_true tZE; obtain ⟨ad275, e275, hx275_0, hx275_1, hx275_2, hx275_3⟩ := at_T59 HR0.out x5_1 p275 q275; have hw275_3 := hx275_3; have hw275_2 := hx275_2; have hw275_1 := hx275_1; have hw275_0 := hx275_0
    cases e275
    replace hx275_0 := cZ HB hx275_0; replace hx275_1 := cZ HB hx275_1; replace hx275_2 := cZ HB hx275_2; replace hx275_3 := cZ HB hx275_3; replace p275 := eq_true p275; replace q275 := eq_true q275
    refine start_ (n := 8) (S := fun w' => w'.cell? (ad275.add ((x5_1).toNat * 4)) = some (.string ((rd_T59 l0 x5_1).f0)) ∧ w'.cell? ⟨(ad275.add ((x5_1).toNat * 4)).block, (ad275.add ((x5_1).toNat * 4)).off + 1, none⟩ = some (.int .i64 ((rd_T59 l0 x5_1).f1)) ∧ w'.cell? ⟨(ad275.add ((x5_1).toNat * 4)).block, (ad275.add ((x5_1).toNat * 4)).off + 2, none⟩ = some (.int .i64 ((rd_T59 l0 x5_1).f2)) ∧ w'.cell? ⟨(ad275.add ((x5_1).toNat * 4)).block, (ad275.add ((x5_1).toNat * 4)).off + 3, none⟩ = some (.int .i64 ((rd_T59 l0 x5_1).f3))) (ds := []) L0' kZ rfl rfl ⟨((HB.out.cell (World.block_lt_of_cell? w _ hw275_0)).trans hw275_0), ((HB.out.cell (World.block_lt_of_cell? w _ hw275_1)).trans hw275_1), ((HB.out.cell (World.block_lt_of_cell? w _ hw275_2)).trans hw275_2), ((HB.out.cell (World.block_lt_of_cell? w _ hw275_3)).trans hw275_3)⟩ (fun hHeld => ?_); refine with_tabW laws_heldTaxLineS.tab4 laws_heldTaxLineS.bits4 (fun HT_ HW_ => ?_)
    generalize wr.drew = w18 at HB hx275_0 hx275_1 hx275_2 hx275_3 hHeld ⊢; refine pure_ (i := 0) (N := some 12) (v := ?_) (a' := ?_) L1' rfl rfl (any_of HT_.out kZ) (fun _ _ _ h => h) (Or.inl ⟨by rfl, ?_⟩) ?_ ?_; rotate_left
    ·intro w'; go_simp; with_reducible rfl
    rotate_left
    ·simp only [Act.put, sZ1, sZ2, sZ3, i64_w, i32_w]; rfl
    refine pure_ (i := 1) (N := some 13) (v := ?_) (a' := ?_) L2' rfl rfl (any_of HT_.out kZ) (fun _ _ _ h => h) (Or.inl ⟨by rfl, ?_⟩) ?_ ?_; rotate_left
    ·intro w'; go_simp; with_reducible rfl
    rotate_left
    ·simp only [Act.put, sZ1, sZ2, sZ3, i64_w, i32_w]; rfl
    refine pure_ (i := 2) (N := some 14) (v := ?_) (a' := ?_) L3' rfl rfl (any_of HT_.out kZ) (fun _ _ _ h => h) (Or.inl ⟨by rfl, ?_⟩) ?_ ?_; rotate_left
    ·intro w'; go_simp; with_reducible rfl
    rotate_left
    ·simp only [Act.put, sZ1, sZ2, sZ3, i64_w, i32_w]; rfl
    refine pure_ (i := 3) (N := some 15) (v := ?_) (a' := ?_) L4' rfl rfl (any_of HT_.out kZ) (fun _ _ _ h => h) (Or.inl ⟨by rfl, ?_⟩) ?_ ?_; rotate_left
    ·intro w'; go_simp; with_reducible rfl
    rotate_left
    ·simp only [Act.put, sZ1, sZ2, sZ3, i64_w, i32_w]; rfl
    refine pure_ (i := 5) (N := some 17) (v := ?_) (a' := ?_) L5' rfl rfl (any_of HT_.out kZ) (fun _ _ _ h => h) (Or.inl ⟨by rfl, ?_⟩) ?_ ?_; rotate_left
    ·intro w'; go_simp; with_reducible rfl
    rotate_left
    ·simp only [Act.put, sZ1, sZ2, sZ3, i64_w, i32_w]; rfl
    refine take_ (i := 4) (N := some 16) (v := ?_) (a' := ?_) L6' rfl rfl (take_ofW HT_.out HW_.out kZ) (fun _ _ _ h => h) (Or.inl ⟨by rfl, ?_⟩) hHeld ?_ ?_; rotate_left
    ·rintro w' ⟨s0, s1, s2, s3⟩
     go_simp; with_reducible rfl
    rotate_left
    ·simp only [Act.put, sZ1, sZ2, sZ3, i64_w, i32_w]; rfl
    refine one_ (i := 6) (N := some 18) L7' rfl rfl (one_of HT_.out kZ) (by decide) (fun K hK => ?_); refine goes_ Try.func50 kZ rfl #[.int .i64 x1_1] (by rfl) rfl rfl tZA ?_
    with_reducible refine (laws_markText.calls k1 x1_1 t276 _ A5.out).mono ?_
    rintro e w19 ⟨rfl, hb⟩
    refine ⟨_, rfl, ?_⟩; replace HB := aZ (below_step (lZB HB.out) hb); (try clear hb); (try clear hb2); (try clear hk); (try clear hi); refine hK.out _ _ ⟨((HB.out.cell (World.block_lt_of_cell? w _ hw275_0)).trans hw275_0), ((HB.out.cell (World.block_lt_of_cell? w _ hw275_1)).trans hw275_1), ((HB.out.cell (World.block_lt_of_cell? w _ hw275_2)).trans hw275_2), ((HB.out.cell (World.block_lt_of_cell? w _ hw275_3)).trans hw275_3)⟩ (fun hHeld => ?_); clear hK K; refine norm_ (a' := ?_) ?_ ?_; rotate_left
    ·show Act.put _ (some 18) _ = _
     simp only [Act.put, sZ1, sZ2, sZ3, i64_w, i32_w]; rfl
    refine pure_ (i := 7) (N := some 19) (v := ?_) (a' := ?_) L8' rfl rfl (any_of HT_.out kZ) (fun _ _ _ h => h) (Or.inl ⟨by rfl, ?_⟩) ?_ ?_; rotate_left
    ·intro w'; go_simp; with_reducible rfl
    rotate_left
    ·simp only [Act.put, sZ1, sZ2, sZ3, i64_w, i32_w]; rfl
    refine done_ (done_of HT_.out kZ) ?_
    try go_wp2
    go_ret; exact ⟨tZC, bZ⟩
   rw [if_pos c6] at H; have c6b0 : (((rd_T59 l0 x5_1).f0).toList == t276.toList) = true := beq_iff_eq.mpr c6; have c6b1 : (((rd_T59 l0 x5_1).f0).toList != t276.toList) = false := bne_eq_false_iff_eq.mpr c6; clear c6
   by_cases c7 : ((rd_T59 l0 x5_1).f1) = (wrap64 (x1_1 + 1))
   rotate_left
   ·rw [if_neg c7] at H; have c7b0 : (((rd_T59 l0 x5_1).f1) == (wrap64 (x1_1 + 1))) = false := beq_eq_false_iff_ne.mpr c7; have c7b1 : (((rd_T59 l0 x5_1).f1) != (wrap64 (x1_1 + 1))) = true := bne_iff_ne.mpr c7; obtain rfl := Option.some.inj H
    try go_wp2
    replace HB := aZ (below_drew1 HB.out); have p275 : 0 ≤ (x5_1 : Int) := of_decide_eq_true tZE; have q275 : x5_1 < (l0.length : Int) := of_decide_eq_true tZE; obtain ⟨ad275, e275, hx275_0, hx275_1, hx275_2, hx275_3⟩ := at_T59 HR0.out x5_1 p275 q275; have hw275_3 := hx275_3; have hw275_2 := hx275_2; have hw275_1 := hx275_1; have hw275_0 := hx275_0
    cases e275
    replace hx275_0 := cZ HB hx275_0; replace hx275_1 := cZ HB hx275_1; replace hx275_2 := cZ HB hx275_2; replace hx275_3 := cZ HB hx275_3; replace p275 := eq_true p275; replace q275 := eq_true q275
    refine start_ (n := 8) (S := fun w' => w'.cell? (ad275.add ((x5_1).toNat * 4)) = some (.string ((rd_T59 l0 x5_1).f0)) ∧ w'.cell? ⟨(ad275.add ((x5_1).toNat * 4)).block, (ad275.add ((x5_1).toNat * 4)).off + 1, none⟩ = some (.int .i64 ((rd_T59 l0 x5_1).f1)) ∧ w'.cell? ⟨(ad275.add ((x5_1).toNat * 4)).block, (ad275.add ((x5_1).toNat * 4)).off + 2, none⟩ = some (.int .i64 ((rd_T59 l0 x5_1).f2)) ∧ w'.cell? ⟨(ad275.add ((x5_1).toNat * 4)).block, (ad275.add ((x5_1).toNat * 4)).off + 3, none⟩ = some (.int .i64 ((rd_T59 l0 x5_1).f3))) (ds := []) L0' kZ rfl rfl ⟨((HB.out.cell (World.block_lt_of_cell? w _ hw275_0)).trans hw275_0), ((HB.out.cell (World.block_lt_of_cell? w _ hw275_1)).trans hw275_1), ((HB.out.cell (World.block_lt_of_cell? w _ hw275_2)).trans hw275_2), ((HB.out.cell (World.block_lt_of_cell? w _ hw275_3)).trans hw275_3)⟩ (fun hHeld => ?_); refine with_tabW laws_heldTaxLineS.tab4 laws_heldTaxLineS.bits4 (fun HT_ HW_ => ?_)
    generalize wr.drew = w16 at HB hx275_0 hx275_1 hx275_2 hx275_3 hHeld ⊢; refine pure_ (i := 0) (N := some 12) (v := ?_) (a' := ?_) L1' rfl rfl (any_of HT_.out kZ) (fun _ _ _ h => h) (Or.inl ⟨by rfl, ?_⟩) ?_ ?_; rotate_left
    ·intro w'; go_simp; with_reducible rfl
    rotate_left
    ·simp only [Act.put, sZ1, sZ2, sZ3, i64_w, i32_w]; rfl
    refine pure_ (i := 1) (N := some 13) (v := ?_) (a' := ?_) L2' rfl rfl (any_of HT_.out kZ) (fun _ _ _ h => h) (Or.inl ⟨by rfl, ?_⟩) ?_ ?_; rotate_left
    ·intro w'; go_simp; with_reducible rfl
    rotate_left
    ·simp only [Act.put, sZ1, sZ2, sZ3, i64_w, i32_w]; rfl
    refine pure_ (i := 2) (N := some 14) (v := ?_) (a' := ?_) L3' rfl rfl (any_of HT_.out kZ) (fun _ _ _ h => h) (Or.inl ⟨by rfl, ?_⟩) ?_ ?_; rotate_left
    ·intro w'; go_simp; with_reducible rfl
    rotate_left
    ·simp only [Act.put, sZ1, sZ2, sZ3, i64_w, i32_w]; rfl
    refine pure_ (i := 3) (N := some 15) (v := ?_) (a' := ?_) L4' rfl rfl (any_of HT_.out kZ) (fun _ _ _ h => h) (Or.inl ⟨by rfl, ?_⟩) ?_ ?_; rotate_left
    ·intro w'; go_simp; with_reducible rfl
    rotate_left
    ·simp only [Act.put, sZ1, sZ2, sZ3, i64_w, i32_w]; rfl
    refine pure_ (i := 5) (N := some 17) (v := ?_) (a' := ?_) L5' rfl rfl (any_of HT_.out kZ) (fun _ _ _ h => h) (Or.inl ⟨by rfl, ?_⟩) ?_ ?_; rotate_left
    ·intro w'; go_simp; with_reducible rfl
    rotate_left
    ·simp only [Act.put, sZ1, sZ2, sZ3, i64_w, i32_w]; rfl
    refine take_ (i := 4) (N := some 16) (v := ?_) (a' := ?_) L6' rfl rfl (take_ofW HT_.out HW_.out kZ) (fun _ _ _ h => h) (Or.inl ⟨by rfl, ?_⟩) hHeld ?_ ?_; rotate_left
    ·rintro w' ⟨s0, s1, s2, s3⟩
     go_simp; with_reducible rfl
    rotate_left
    ·simp only [Act.put, sZ1, sZ2, sZ3, i64_w, i32_w]; rfl
    refine one_ (i := 6) (N := some 18) L7' rfl rfl (one_of HT_.out kZ) (by decide) (fun K hK => ?_); refine goes_ Try.func50 kZ rfl #[.int .i64 x1_1] (by rfl) rfl rfl tZA ?_
    with_reducible refine (laws_markText.calls k1 x1_1 t276 _ A5.out).mono ?_
    rintro e w17 ⟨rfl, hb⟩
    refine ⟨_, rfl, ?_⟩; replace HB := aZ (below_step (lZB HB.out) hb); (try clear hb); (try clear hb2); (try clear hk); (try clear hi); refine hK.out _ _ ⟨((HB.out.cell (World.block_lt_of_cell? w _ hw275_0)).trans hw275_0), ((HB.out.cell (World.block_lt_of_cell? w _ hw275_1)).trans hw275_1), ((HB.out.cell (World.block_lt_of_cell? w _ hw275_2)).trans hw275_2), ((HB.out.cell (World.block_lt_of_cell? w _ hw275_3)).trans hw275_3)⟩ (fun hHeld => ?_); clear hK K; refine norm_ (a' := ?_) ?_ ?_; rotate_left
    ·show Act.put _ (some 18) _ = _
     simp only [Act.put, sZ1, sZ2, sZ3, i64_w, i32_w]; rfl
    refine pure_ (i := 7) (N := some 19) (v := ?_) (a' := ?_) L8' rfl rfl (any_of HT_.out kZ) (fun _ _ _ h => h) (Or.inl ⟨by rfl, ?_⟩) ?_ ?_; rotate_left
    ·intro w'; go_simp; with_reducible rfl
    rotate_left
    ·simp only [Act.put, sZ1, sZ2, sZ3, i64_w, i32_w]; rfl
    refine done_ (done_of HT_.out kZ) ?_; have p277 : 0 ≤ (x5_1 : Int) := of_decide_eq_true tZE; have q277 : x5_1 < (l0.length : Int) := of_decide_eq_true tZE; obtain ⟨ad277, e277, hx277_0, hx277_1, hx277_2, hx277_3⟩ := at_T59 HR0.out x5_1 p277 q277; obtain rfl : ad275 = ad277 := (by injection e277); replace hx277_0 := cZ HB hx277_0; replace hx277_1 := cZ HB hx277_1; replace hx277_2 := cZ HB hx277_2; replace hx277_3 := cZ HB hx277_3; replace p277 := eq_true p277; replace q277 := eq_true q277
    try go_wp2
    go_ret; exact ⟨tZC, bZ⟩
   rw [if_pos c7] at H; have c7b0 : (((rd_T59 l0 x5_1).f1) == (wrap64 (x1_1 + 1))) = true := beq_iff_eq.mpr c7; have c7b1 : (((rd_T59 l0 x5_1).f1) != (wrap64 (x1_1 + 1))) = false := bne_eq_false_iff_eq.mpr c7; clear c7
   by_cases c8 : ((rd_T59 l0 x5_1).f2) = (wrap64 ((wrap64 (x1_1 + 1)) + 1))
   rotate_left
   ·rw [if_neg c8] at H; have c8b0 : (((rd_T59 l0 x5_1).f2) == (wrap64 ((wrap64 (x1_1 + 1)) + 1))) = false := beq_eq_false_iff_ne.mpr c8; have c8b1 : (((rd_T59 l0 x5_1).f2) != (wrap64 ((wrap64 (x1_1 + 1)) + 1))) = true := bne_iff_ne.mpr c8; obtain rfl := Option.some.inj H
    try go_wp2
    replace HB := aZ (below_drew1 HB.out); have p275 : 0 ≤ (x5_1 : Int) := of_decide_eq_true tZE; have q275 : x5_1 < (l0.length : Int) := of_decide_eq_true tZE; obtain ⟨ad275, e275, hx275_0, hx275_1, hx275_2, hx275_3⟩ := at_T59 HR0.out x5_1 p275 q275; have hw275_3 := hx275_3; have hw275_2 := hx275_2; have hw275_1 := hx275_1; have hw275_0 := hx275_0
    cases e275
    replace hx275_0 := cZ HB hx275_0; replace hx275_1 := cZ HB hx275_1; replace hx275_2 := cZ HB hx275_2; replace hx275_3 := cZ HB hx275_3; replace p275 := eq_true p275; replace q275 := eq_true q275
    refine start_ (n := 8) (S := fun w' => w'.cell? (ad275.add ((x5_1).toNat * 4)) = some (.string ((rd_T59 l0 x5_1).f0)) ∧ w'.cell? ⟨(ad275.add ((x5_1).toNat * 4)).block, (ad275.add ((x5_1).toNat * 4)).off + 1, none⟩ = some (.int .i64 ((rd_T59 l0 x5_1).f1)) ∧ w'.cell? ⟨(ad275.add ((x5_1).toNat * 4)).block, (ad275.add ((x5_1).toNat * 4)).off + 2, none⟩ = some (.int .i64 ((rd_T59 l0 x5_1).f2)) ∧ w'.cell? ⟨(ad275.add ((x5_1).toNat * 4)).block, (ad275.add ((x5_1).toNat * 4)).off + 3, none⟩ = some (.int .i64 ((rd_T59 l0 x5_1).f3))) (ds := []) L0' kZ rfl rfl ⟨((HB.out.cell (World.block_lt_of_cell? w _ hw275_0)).trans hw275_0), ((HB.out.cell (World.block_lt_of_cell? w _ hw275_1)).trans hw275_1), ((HB.out.cell (World.block_lt_of_cell? w _ hw275_2)).trans hw275_2), ((HB.out.cell (World.block_lt_of_cell? w _ hw275_3)).trans hw275_3)⟩ (fun hHeld => ?_); refine with_tabW laws_heldTaxLineS.tab4 laws_heldTaxLineS.bits4 (fun HT_ HW_ => ?_)
    generalize wr.drew = w14 at HB hx275_0 hx275_1 hx275_2 hx275_3 hHeld ⊢; refine pure_ (i := 0) (N := some 12) (v := ?_) (a' := ?_) L1' rfl rfl (any_of HT_.out kZ) (fun _ _ _ h => h) (Or.inl ⟨by rfl, ?_⟩) ?_ ?_; rotate_left
    ·intro w'; go_simp; with_reducible rfl
    rotate_left
    ·simp only [Act.put, sZ1, sZ2, sZ3, i64_w, i32_w]; rfl
    refine pure_ (i := 1) (N := some 13) (v := ?_) (a' := ?_) L2' rfl rfl (any_of HT_.out kZ) (fun _ _ _ h => h) (Or.inl ⟨by rfl, ?_⟩) ?_ ?_; rotate_left
    ·intro w'; go_simp; with_reducible rfl
    rotate_left
    ·simp only [Act.put, sZ1, sZ2, sZ3, i64_w, i32_w]; rfl
    refine pure_ (i := 2) (N := some 14) (v := ?_) (a' := ?_) L3' rfl rfl (any_of HT_.out kZ) (fun _ _ _ h => h) (Or.inl ⟨by rfl, ?_⟩) ?_ ?_; rotate_left
    ·intro w'; go_simp; with_reducible rfl
    rotate_left
    ·simp only [Act.put, sZ1, sZ2, sZ3, i64_w, i32_w]; rfl
    refine pure_ (i := 3) (N := some 15) (v := ?_) (a' := ?_) L4' rfl rfl (any_of HT_.out kZ) (fun _ _ _ h => h) (Or.inl ⟨by rfl, ?_⟩) ?_ ?_; rotate_left
    ·intro w'; go_simp; with_reducible rfl
    rotate_left
    ·simp only [Act.put, sZ1, sZ2, sZ3, i64_w, i32_w]; rfl
    refine pure_ (i := 5) (N := some 17) (v := ?_) (a' := ?_) L5' rfl rfl (any_of HT_.out kZ) (fun _ _ _ h => h) (Or.inl ⟨by rfl, ?_⟩) ?_ ?_; rotate_left
    ·intro w'; go_simp; with_reducible rfl
    rotate_left
    ·simp only [Act.put, sZ1, sZ2, sZ3, i64_w, i32_w]; rfl
    refine take_ (i := 4) (N := some 16) (v := ?_) (a' := ?_) L6' rfl rfl (take_ofW HT_.out HW_.out kZ) (fun _ _ _ h => h) (Or.inl ⟨by rfl, ?_⟩) hHeld ?_ ?_; rotate_left
    ·rintro w' ⟨s0, s1, s2, s3⟩
     go_simp; with_reducible rfl
    rotate_left
    ·simp only [Act.put, sZ1, sZ2, sZ3, i64_w, i32_w]; rfl
    refine one_ (i := 6) (N := some 18) L7' rfl rfl (one_of HT_.out kZ) (by decide) (fun K hK => ?_); refine goes_ Try.func50 kZ rfl #[.int .i64 x1_1] (by rfl) rfl rfl tZA ?_
    with_reducible refine (laws_markText.calls k1 x1_1 t276 _ A5.out).mono ?_
    rintro e w15 ⟨rfl, hb⟩
    refine ⟨_, rfl, ?_⟩; replace HB := aZ (below_step (lZB HB.out) hb); (try clear hb); (try clear hb2); (try clear hk); (try clear hi); refine hK.out _ _ ⟨((HB.out.cell (World.block_lt_of_cell? w _ hw275_0)).trans hw275_0), ((HB.out.cell (World.block_lt_of_cell? w _ hw275_1)).trans hw275_1), ((HB.out.cell (World.block_lt_of_cell? w _ hw275_2)).trans hw275_2), ((HB.out.cell (World.block_lt_of_cell? w _ hw275_3)).trans hw275_3)⟩ (fun hHeld => ?_); clear hK K; refine norm_ (a' := ?_) ?_ ?_; rotate_left
    ·show Act.put _ (some 18) _ = _
     simp only [Act.put, sZ1, sZ2, sZ3, i64_w, i32_w]; rfl
    refine pure_ (i := 7) (N := some 19) (v := ?_) (a' := ?_) L8' rfl rfl (any_of HT_.out kZ) (fun _ _ _ h => h) (Or.inl ⟨by rfl, ?_⟩) ?_ ?_; rotate_left
    ·intro w'; go_simp; with_reducible rfl
    rotate_left
    ·simp only [Act.put, sZ1, sZ2, sZ3, i64_w, i32_w]; rfl
    refine done_ (done_of HT_.out kZ) ?_; have p277 : 0 ≤ (x5_1 : Int) := of_decide_eq_true tZE; have q277 : x5_1 < (l0.length : Int) := of_decide_eq_true tZE; obtain ⟨ad277, e277, hx277_0, hx277_1, hx277_2, hx277_3⟩ := at_T59 HR0.out x5_1 p277 q277; obtain rfl : ad275 = ad277 := (by injection e277); replace hx277_0 := cZ HB hx277_0; replace hx277_1 := cZ HB hx277_1; replace hx277_2 := cZ HB hx277_2; replace hx277_3 := cZ HB hx277_3; replace p277 := eq_true p277; replace q277 := eq_true q277; have p278 : 0 ≤ (x5_1 : Int) := of_decide_eq_true tZE; have q278 : x5_1 < (l0.length : Int) := of_decide_eq_true tZE; obtain ⟨ad278, e278, hx278_0, hx278_1, hx278_2, hx278_3⟩ := at_T59 HR0.out x5_1 p278 q278; obtain rfl : ad275 = ad278 := (by injection e278); replace hx278_0 := cZ HB hx278_0; replace hx278_1 := cZ HB hx278_1; replace hx278_2 := cZ HB hx278_2; replace hx278_3 := cZ HB hx278_3
    replace p278 := eq_true p278; replace q278 := eq_true q278
    try go_wp2
    go_ret; exact ⟨tZC, bZ⟩
   rw [if_pos c8] at H; have c8b0 : (((rd_T59 l0 x5_1).f2) == (wrap64 ((wrap64 (x1_1 + 1)) + 1))) = true := beq_iff_eq.mpr c8; have c8b1 : (((rd_T59 l0 x5_1).f2) != (wrap64 ((wrap64 (x1_1 + 1)) + 1))) = false := bne_eq_false_iff_eq.mpr c8; clear c8
   by_cases c9 : ((rd_T59 l0 x5_1).f3) = (wrap64 ((wrap64 ((wrap64 (x1_1 + 1)) + 1)) + 1))
   rotate_left
   ·rw [if_neg c9] at H; have c9b0 : (((rd_T59 l0 x5_1).f3) == (wrap64 ((wrap64 ((wrap64 (x1_1 + 1)) + 1)) + 1))) = false := beq_eq_false_iff_ne.mpr c9; have c9b1 : (((rd_T59 l0 x5_1).f3) != (wrap64 ((wrap64 ((wrap64 (x1_1 + 1)) + 1)) + 1))) = true := bne_iff_ne.mpr c9; obtain rfl := Option.some.inj H
    try go_wp2
    replace HB := aZ (below_drew1 HB.out); have p275 : 0 ≤ (x5_1 : Int) := of_decide_eq_true tZE; have q275 : x5_1 < (l0.length : Int) := of_decide_eq_true tZE; obtain ⟨ad275, e275, hx275_0, hx275_1, hx275_2, hx275_3⟩ := at_T59 HR0.out x5_1 p275 q275; have hw275_3 := hx275_3; have hw275_2 := hx275_2; have hw275_1 := hx275_1; have hw275_0 := hx275_0
    cases e275
    replace hx275_0 := cZ HB hx275_0; replace hx275_1 := cZ HB hx275_1; replace hx275_2 := cZ HB hx275_2; replace hx275_3 := cZ HB hx275_3; replace p275 := eq_true p275; replace q275 := eq_true q275
    refine start_ (n := 8) (S := fun w' => w'.cell? (ad275.add ((x5_1).toNat * 4)) = some (.string ((rd_T59 l0 x5_1).f0)) ∧ w'.cell? ⟨(ad275.add ((x5_1).toNat * 4)).block, (ad275.add ((x5_1).toNat * 4)).off + 1, none⟩ = some (.int .i64 ((rd_T59 l0 x5_1).f1)) ∧ w'.cell? ⟨(ad275.add ((x5_1).toNat * 4)).block, (ad275.add ((x5_1).toNat * 4)).off + 2, none⟩ = some (.int .i64 ((rd_T59 l0 x5_1).f2)) ∧ w'.cell? ⟨(ad275.add ((x5_1).toNat * 4)).block, (ad275.add ((x5_1).toNat * 4)).off + 3, none⟩ = some (.int .i64 ((rd_T59 l0 x5_1).f3))) (ds := []) L0' kZ rfl rfl ⟨((HB.out.cell (World.block_lt_of_cell? w _ hw275_0)).trans hw275_0), ((HB.out.cell (World.block_lt_of_cell? w _ hw275_1)).trans hw275_1), ((HB.out.cell (World.block_lt_of_cell? w _ hw275_2)).trans hw275_2), ((HB.out.cell (World.block_lt_of_cell? w _ hw275_3)).trans hw275_3)⟩ (fun hHeld => ?_); refine with_tabW laws_heldTaxLineS.tab4 laws_heldTaxLineS.bits4 (fun HT_ HW_ => ?_)
    generalize wr.drew = w12 at HB hx275_0 hx275_1 hx275_2 hx275_3 hHeld ⊢; refine pure_ (i := 0) (N := some 12) (v := ?_) (a' := ?_) L1' rfl rfl (any_of HT_.out kZ) (fun _ _ _ h => h) (Or.inl ⟨by rfl, ?_⟩) ?_ ?_; rotate_left
    ·intro w'; go_simp; with_reducible rfl
    rotate_left
    ·simp only [Act.put, sZ1, sZ2, sZ3, i64_w, i32_w]; rfl
    refine pure_ (i := 1) (N := some 13) (v := ?_) (a' := ?_) L2' rfl rfl (any_of HT_.out kZ) (fun _ _ _ h => h) (Or.inl ⟨by rfl, ?_⟩) ?_ ?_; rotate_left
    ·intro w'; go_simp; with_reducible rfl
    rotate_left
    ·simp only [Act.put, sZ1, sZ2, sZ3, i64_w, i32_w]; rfl
    refine pure_ (i := 2) (N := some 14) (v := ?_) (a' := ?_) L3' rfl rfl (any_of HT_.out kZ) (fun _ _ _ h => h) (Or.inl ⟨by rfl, ?_⟩) ?_ ?_; rotate_left
    ·intro w'; go_simp; with_reducible rfl
    rotate_left
    ·simp only [Act.put, sZ1, sZ2, sZ3, i64_w, i32_w]; rfl
    refine pure_ (i := 3) (N := some 15) (v := ?_) (a' := ?_) L4' rfl rfl (any_of HT_.out kZ) (fun _ _ _ h => h) (Or.inl ⟨by rfl, ?_⟩) ?_ ?_; rotate_left
    ·intro w'; go_simp; with_reducible rfl
    rotate_left
    ·simp only [Act.put, sZ1, sZ2, sZ3, i64_w, i32_w]; rfl
    refine pure_ (i := 5) (N := some 17) (v := ?_) (a' := ?_) L5' rfl rfl (any_of HT_.out kZ) (fun _ _ _ h => h) (Or.inl ⟨by rfl, ?_⟩) ?_ ?_; rotate_left
    ·intro w'; go_simp; with_reducible rfl
    rotate_left
    ·simp only [Act.put, sZ1, sZ2, sZ3, i64_w, i32_w]; rfl
    refine take_ (i := 4) (N := some 16) (v := ?_) (a' := ?_) L6' rfl rfl (take_ofW HT_.out HW_.out kZ) (fun _ _ _ h => h) (Or.inl ⟨by rfl, ?_⟩) hHeld ?_ ?_; rotate_left
    ·rintro w' ⟨s0, s1, s2, s3⟩
     go_simp; with_reducible rfl
    rotate_left
    ·simp only [Act.put, sZ1, sZ2, sZ3, i64_w, i32_w]; rfl
    refine one_ (i := 6) (N := some 18) L7' rfl rfl (one_of HT_.out kZ) (by decide) (fun K hK => ?_); refine goes_ Try.func50 kZ rfl #[.int .i64 x1_1] (by rfl) rfl rfl tZA ?_
    with_reducible refine (laws_markText.calls k1 x1_1 t276 _ A5.out).mono ?_
    rintro e w13 ⟨rfl, hb⟩
    refine ⟨_, rfl, ?_⟩; replace HB := aZ (below_step (lZB HB.out) hb); (try clear hb); (try clear hb2); (try clear hk); (try clear hi); refine hK.out _ _ ⟨((HB.out.cell (World.block_lt_of_cell? w _ hw275_0)).trans hw275_0), ((HB.out.cell (World.block_lt_of_cell? w _ hw275_1)).trans hw275_1), ((HB.out.cell (World.block_lt_of_cell? w _ hw275_2)).trans hw275_2), ((HB.out.cell (World.block_lt_of_cell? w _ hw275_3)).trans hw275_3)⟩ (fun hHeld => ?_); clear hK K; refine norm_ (a' := ?_) ?_ ?_; rotate_left
    ·show Act.put _ (some 18) _ = _
     simp only [Act.put, sZ1, sZ2, sZ3, i64_w, i32_w]; rfl
    refine pure_ (i := 7) (N := some 19) (v := ?_) (a' := ?_) L8' rfl rfl (any_of HT_.out kZ) (fun _ _ _ h => h) (Or.inl ⟨by rfl, ?_⟩) ?_ ?_; rotate_left
    ·intro w'; go_simp; with_reducible rfl
    rotate_left
    ·simp only [Act.put, sZ1, sZ2, sZ3, i64_w, i32_w]; rfl
    refine done_ (done_of HT_.out kZ) ?_; have p277 : 0 ≤ (x5_1 : Int) := of_decide_eq_true tZE; have q277 : x5_1 < (l0.length : Int) := of_decide_eq_true tZE; obtain ⟨ad277, e277, hx277_0, hx277_1, hx277_2, hx277_3⟩ := at_T59 HR0.out x5_1 p277 q277; obtain rfl : ad275 = ad277 := (by injection e277); replace hx277_0 := cZ HB hx277_0; replace hx277_1 := cZ HB hx277_1; replace hx277_2 := cZ HB hx277_2; replace hx277_3 := cZ HB hx277_3; replace p277 := eq_true p277; replace q277 := eq_true q277; have p278 : 0 ≤ (x5_1 : Int) := of_decide_eq_true tZE; have q278 : x5_1 < (l0.length : Int) := of_decide_eq_true tZE; obtain ⟨ad278, e278, hx278_0, hx278_1, hx278_2, hx278_3⟩ := at_T59 HR0.out x5_1 p278 q278; obtain rfl : ad275 = ad278 := (by injection e278); replace hx278_0 := cZ HB hx278_0; replace hx278_1 := cZ HB hx278_1; replace hx278_2 := cZ HB hx278_2; replace hx278_3 := cZ HB hx278_3
    replace p278 := eq_true p278; replace q278 := eq_true q278; have p279 : 0 ≤ (x5_1 : Int) := of_decide_eq_true tZE; have q279 : x5_1 < (l0.length : Int) := of_decide_eq_true tZE; obtain ⟨ad279, e279, hx279_0, hx279_1, hx279_2, hx279_3⟩ := at_T59 HR0.out x5_1 p279 q279; obtain rfl : ad275 = ad279 := (by injection e279); replace hx279_0 := cZ HB hx279_0; replace hx279_1 := cZ HB hx279_1; replace hx279_2 := cZ HB hx279_2; replace hx279_3 := cZ HB hx279_3; replace p279 := eq_true p279; replace q279 := eq_true q279
    try go_wp2
    go_ret; exact ⟨tZC, bZ⟩
   rw [if_pos c9] at H; have c9b0 : (((rd_T59 l0 x5_1).f3) == (wrap64 ((wrap64 ((wrap64 (x1_1 + 1)) + 1)) + 1))) = true := beq_iff_eq.mpr c9; have c9b1 : (((rd_T59 l0 x5_1).f3) != (wrap64 ((wrap64 ((wrap64 (x1_1 + 1)) + 1)) + 1))) = false := bne_eq_false_iff_eq.mpr c9; clear c9; have H' := Aside0.mk H; clear H
   try go_wp2
   replace HB := aZ (below_drew1 HB.out); have p275 : 0 ≤ (x5_1 : Int) := of_decide_eq_true tZE; have q275 : x5_1 < (l0.length : Int) := of_decide_eq_true tZE; obtain ⟨ad275, e275, hx275_0, hx275_1, hx275_2, hx275_3⟩ := at_T59 HR0.out x5_1 p275 q275; have hw275_3 := hx275_3; have hw275_2 := hx275_2; have hw275_1 := hx275_1; have hw275_0 := hx275_0
   cases e275
   replace hx275_0 := cZ HB hx275_0; replace hx275_1 := cZ HB hx275_1; replace hx275_2 := cZ HB hx275_2; replace hx275_3 := cZ HB hx275_3; replace p275 := eq_true p275; replace q275 := eq_true q275
   refine start_ (n := 8) (S := fun w' => w'.cell? (ad275.add ((x5_1).toNat * 4)) = some (.string ((rd_T59 l0 x5_1).f0)) ∧ w'.cell? ⟨(ad275.add ((x5_1).toNat * 4)).block, (ad275.add ((x5_1).toNat * 4)).off + 1, none⟩ = some (.int .i64 ((rd_T59 l0 x5_1).f1)) ∧ w'.cell? ⟨(ad275.add ((x5_1).toNat * 4)).block, (ad275.add ((x5_1).toNat * 4)).off + 2, none⟩ = some (.int .i64 ((rd_T59 l0 x5_1).f2)) ∧ w'.cell? ⟨(ad275.add ((x5_1).toNat * 4)).block, (ad275.add ((x5_1).toNat * 4)).off + 3, none⟩ = some (.int .i64 ((rd_T59 l0 x5_1).f3))) (ds := []) L0' kZ rfl rfl ⟨((HB.out.cell (World.block_lt_of_cell? w _ hw275_0)).trans hw275_0), ((HB.out.cell (World.block_lt_of_cell? w _ hw275_1)).trans hw275_1), ((HB.out.cell (World.block_lt_of_cell? w _ hw275_2)).trans hw275_2), ((HB.out.cell (World.block_lt_of_cell? w _ hw275_3)).trans hw275_3)⟩ (fun hHeld => ?_); refine with_tabW laws_heldTaxLineS.tab4 laws_heldTaxLineS.bits4 (fun HT_ HW_ => ?_)
   generalize wr.drew = w10 at HB hx275_0 hx275_1 hx275_2 hx275_3 hHeld ⊢; refine pure_ (i := 0) (N := some 12) (v := ?_) (a' := ?_) L1' rfl rfl (any_of HT_.out kZ) (fun _ _ _ h => h) (Or.inl ⟨by rfl, ?_⟩) ?_ ?_; rotate_left
   ·intro w'; go_simp; with_reducible rfl
   rotate_left
   ·simp only [Act.put, sZ1, sZ2, sZ3, i64_w, i32_w]; rfl
   refine pure_ (i := 1) (N := some 13) (v := ?_) (a' := ?_) L2' rfl rfl (any_of HT_.out kZ) (fun _ _ _ h => h) (Or.inl ⟨by rfl, ?_⟩) ?_ ?_; rotate_left
   ·intro w'; go_simp; with_reducible rfl
   rotate_left
   ·simp only [Act.put, sZ1, sZ2, sZ3, i64_w, i32_w]; rfl
   refine pure_ (i := 2) (N := some 14) (v := ?_) (a' := ?_) L3' rfl rfl (any_of HT_.out kZ) (fun _ _ _ h => h) (Or.inl ⟨by rfl, ?_⟩) ?_ ?_; rotate_left
   ·intro w'; go_simp; with_reducible rfl
   rotate_left
   ·simp only [Act.put, sZ1, sZ2, sZ3, i64_w, i32_w]; rfl
   refine pure_ (i := 3) (N := some 15) (v := ?_) (a' := ?_) L4' rfl rfl (any_of HT_.out kZ) (fun _ _ _ h => h) (Or.inl ⟨by rfl, ?_⟩) ?_ ?_; rotate_left
   ·intro w'; go_simp; with_reducible rfl
   rotate_left
   ·simp only [Act.put, sZ1, sZ2, sZ3, i64_w, i32_w]; rfl
   refine pure_ (i := 5) (N := some 17) (v := ?_) (a' := ?_) L5' rfl rfl (any_of HT_.out kZ) (fun _ _ _ h => h) (Or.inl ⟨by rfl, ?_⟩) ?_ ?_; rotate_left
   ·intro w'; go_simp; with_reducible rfl
   rotate_left
   ·simp only [Act.put, sZ1, sZ2, sZ3, i64_w, i32_w]; rfl
   refine take_ (i := 4) (N := some 16) (v := ?_) (a' := ?_) L6' rfl rfl (take_ofW HT_.out HW_.out kZ) (fun _ _ _ h => h) (Or.inl ⟨by rfl, ?_⟩) hHeld ?_ ?_; rotate_left
   ·rintro w' ⟨s0, s1, s2, s3⟩
    go_simp; with_reducible rfl
   rotate_left
   ·simp only [Act.put, sZ1, sZ2, sZ3, i64_w, i32_w]; rfl
   refine one_ (i := 6) (N := some 18) L7' rfl rfl (one_of HT_.out kZ) (by decide) (fun K hK => ?_); refine goes_ Try.func50 kZ rfl #[.int .i64 x1_1] (by rfl) rfl rfl tZA ?_
   with_reducible refine (laws_markText.calls k1 x1_1 t276 _ A5.out).mono ?_
   rintro e w11 ⟨rfl, hb⟩
   refine ⟨_, rfl, ?_⟩; replace HB := aZ (below_step (lZB HB.out) hb); (try clear hb); (try clear hb2); (try clear hk); (try clear hi); refine hK.out _ _ ⟨((HB.out.cell (World.block_lt_of_cell? w _ hw275_0)).trans hw275_0), ((HB.out.cell (World.block_lt_of_cell? w _ hw275_1)).trans hw275_1), ((HB.out.cell (World.block_lt_of_cell? w _ hw275_2)).trans hw275_2), ((HB.out.cell (World.block_lt_of_cell? w _ hw275_3)).trans hw275_3)⟩ (fun hHeld => ?_); clear hK K; refine norm_ (a' := ?_) ?_ ?_; rotate_left
   ·show Act.put _ (some 18) _ = _
    simp only [Act.put, sZ1, sZ2, sZ3, i64_w, i32_w]; rfl
   refine pure_ (i := 7) (N := some 19) (v := ?_) (a' := ?_) L8' rfl rfl (any_of HT_.out kZ) (fun _ _ _ h => h) (Or.inl ⟨by rfl, ?_⟩) ?_ ?_; rotate_left
   ·intro w'; go_simp; with_reducible rfl
   rotate_left
   ·simp only [Act.put, sZ1, sZ2, sZ3, i64_w, i32_w]; rfl
   refine done_ (done_of HT_.out kZ) ?_; have p277 : 0 ≤ (x5_1 : Int) := of_decide_eq_true tZE; have q277 : x5_1 < (l0.length : Int) := of_decide_eq_true tZE; obtain ⟨ad277, e277, hx277_0, hx277_1, hx277_2, hx277_3⟩ := at_T59 HR0.out x5_1 p277 q277; obtain rfl : ad275 = ad277 := (by injection e277); replace hx277_0 := cZ HB hx277_0; replace hx277_1 := cZ HB hx277_1; replace hx277_2 := cZ HB hx277_2; replace hx277_3 := cZ HB hx277_3; replace p277 := eq_true p277; replace q277 := eq_true q277; have p278 : 0 ≤ (x5_1 : Int) := of_decide_eq_true tZE; have q278 : x5_1 < (l0.length : Int) := of_decide_eq_true tZE; obtain ⟨ad278, e278, hx278_0, hx278_1, hx278_2, hx278_3⟩ := at_T59 HR0.out x5_1 p278 q278; obtain rfl : ad275 = ad278 := (by injection e278); replace hx278_0 := cZ HB hx278_0; replace hx278_1 := cZ HB hx278_1; replace hx278_2 := cZ HB hx278_2; replace hx278_3 := cZ HB hx278_3
   replace p278 := eq_true p278; replace q278 := eq_true q278; have p279 : 0 ≤ (x5_1 : Int) := of_decide_eq_true tZE; have q279 : x5_1 < (l0.length : Int) := of_decide_eq_true tZE; obtain ⟨ad279, e279, hx279_0, hx279_1, hx279_2, hx279_3⟩ := at_T59 HR0.out x5_1 p279 q279; obtain rfl : ad275 = ad279 := (by injection e279); replace hx279_0 := cZ HB hx279_0; replace hx279_1 := cZ HB hx279_1; replace hx279_2 := cZ HB hx279_2; replace hx279_3 := cZ HB hx279_3; replace p279 := eq_true p279; replace q279 := eq_true q279
   try go_wp2
   go_roundg k1
   case measure => have := HK1.out; omega
   case rel => exact ⟨(wrap64 ((wrap64 ((wrap64 ((wrap64 (x1_1 + 1)) + 1)) + 1)) + 1)), (wrap64 (x5_1 + 1)), tZB, tZB, H', ⟨by have := HK1.out; omega⟩, ⟨bZ⟩⟩
end Go.Proofs.Ytobbemdkipknnaa.PFnExactTaxReturn
