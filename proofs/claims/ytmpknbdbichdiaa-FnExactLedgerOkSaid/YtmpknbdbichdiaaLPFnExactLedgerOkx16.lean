import Derived.Test.YtmpknbdbichdiaaLPFnExactLedgerOkx0
import Derived.Test.YtmpknbdbichdiaaLPFnExactLedgerOkx15
import Derived.Test.YtmpknbdbichdiaaLSlimWords
namespace Go.Proofs.Ytmpknbdbichdiaa.PFnExactLedgerOk
open Go.Proofs.Ytmpknbdbichdiaa.SlimWords
open Go.RowKit Go.Proofs.YtmpknbdbichdiaaW.PrintWords Go.Proofs.YtmpknbdbichdiaaW.PrintLast Go.Proofs.YtmpknbdbichdiaaW.PrintMore Go.Proofs.Ytmpknbdbichdiaa.MapWords Go.Proofs.Ytmpknbdbichdiaa.IterWords Go.Proofs.Ytmpknbdbichdiaa.MarkWords
attribute [local go_sem] max2_int min2_int max_two min_two max_three min_three max_four min_four
set_option linter.unusedVariables false
set_option linter.unusedSimpArgs false
private abbrev I' := true
private abbrev O' := false
private abbrev L0' : Array Bool := #[O',O',O',O',O',O',O',O',O',O']
private abbrev L1' : Array Bool := #[I',O',O',O',O',O',O',O',O',O']
private abbrev L2' : Array Bool := #[I',I',O',O',O',O',O',O',O',O']
private abbrev L3' : Array Bool := #[I',I',I',O',O',O',O',O',O',O']
private abbrev L4' : Array Bool := #[I',I',I',O',I',O',O',O',O',O']
private abbrev L5' : Array Bool := #[I',I',I',O',I',I',O',O',O',O']
private abbrev L6' : Array Bool := #[I',I',I',O',I',I',I',O',O',O']
private abbrev L7' : Array Bool := #[I',I',I',I',I',I',I',O',O',O']
private abbrev L8' : Array Bool := #[I',I',I',I',I',I',I',I',O',O']
private abbrev L9' : Array Bool := #[I',I',I',I',I',I',I',I',I',O']
private abbrev L10' : Array Bool := #[I',I',I',I',I',I',I',I',I',I']
def laws_eqEntryS.l0 : Nat → List (S103) → List (S103) → Int → Option (Bool)
  | 0, _, _, _ => none
  | k + 1, x0, x1, x5 => if x5 < (x0.length : Int) then (if 0 ≤ x5 then (if x5 < (x1.length : Int) then ((laws_eqEntry.f k ((rd_T103 x0 x5).f0) ((rd_T103 x0 x5).f1) ((rd_T103 x0 x5).f2) ((rd_T103 x0 x5).f3) ((rd_T103 x1 x5).f0) ((rd_T103 x1 x5).f1) ((rd_T103 x1 x5).f2) ((rd_T103 x1 x5).f3)).bind fun t357 => (if t357 = true then (laws_eqEntryS.l0 k x0 x1 (wrap64 (x5 + 1))) else (some false))) else (none)) else (none)) else (some true)
def laws_eqEntryS.f (k : Nat) (l0 : List (S103)) (l1 : List (S103)) : Option (Bool) := if (l0.length : Int) = (l1.length : Int) then (laws_eqEntryS.l0 k l0 l1 0) else (some false)
theorem laws_eqEntryS.mono_l : ∀ k, (∀ y0 y1 y2, LeO (laws_eqEntryS.l0 k y0 y1 y2) (laws_eqEntryS.l0 (k + 1) y0 y1 y2))
  | 0 => fun _ _ _ r h => by simp [laws_eqEntryS.l0] at h
  | k + 1 => by
    have ih0 := laws_eqEntryS.mono_l k
    · intro y0 y1 y2
      unfold laws_eqEntryS.l0
      repeat' first
      | (with_reducible exact ih0 _ _ _)
      | (with_reducible exact laws_eqEntry.mono _ _ _ _ _ _ _ _ _)
      | (with_reducible exact LeO.refl _)
      | (with_reducible exact LeO.none _)
      | (with_reducible refine LeO.ite ?_ ?_)
      | (with_reducible refine LeO.bind ?_ (fun _ => ?_))
      | exact ih0 _ _ _
      | exact laws_eqEntry.mono _ _ _ _ _ _ _ _ _
      | exact LeO.none _
      | refine LeO.ite ?_ ?_
      | refine LeO.bind ?_ (fun _ => ?_)
theorem laws_eqEntryS.mono : ∀ a0 a1 k, LeO (laws_eqEntryS.f k a0 a1) (laws_eqEntryS.f (k + 1) a0 a1) := by
 intro a0 a1 k
 have ih0 := laws_eqEntryS.mono_l k
 unfold laws_eqEntryS.f
 repeat' first
     | (with_reducible exact ih0 _ _ _)
     | (with_reducible exact laws_eqEntry.mono _ _ _ _ _ _ _ _ _)
     | (with_reducible exact LeO.refl _)
     | (with_reducible exact LeO.none _)
     | (with_reducible refine LeO.ite ?_ ?_)
     | (with_reducible refine LeO.bind ?_ (fun _ => ?_))
     | exact ih0 _ _ _
     | exact laws_eqEntry.mono _ _ _ _ _ _ _ _ _
     | exact LeO.none _
     | refine LeO.ite ?_ ?_
     | refine LeO.bind ?_ (fun _ => ?_)
def laws_eqEntryS.T6 : Bool × List (List Nat × List Nat) := (true, [([], []), ([], []), ([0, 1], [0, 1]), ([2], [2]), ([], []), ([], []), ([4, 5], [4, 5]), ([6], [6]), ([3, 7], [3, 7]), ([8], [8])])
def laws_eqEntryS.B6 : List Nat := [0, 0, 3, 7, 0, 0, 48, 112, 255, 511]
theorem laws_eqEntryS.tab6 : rtab .any (opsOf Try.f117 6) = laws_eqEntryS.T6 := by kernel_rfl
theorem laws_eqEntryS.bits6 : waitsOk laws_eqEntryS.T6.2 laws_eqEntryS.B6 = true := by kernel_rfl
set_option maxHeartbeats 8000000 in
set_option maxRecDepth 100000 in
theorem laws_eqEntryS.calls (k : Nat) (A0 : Option Addr) (c0 : Nat) (l0 : List (S103)) (A1 : Option Addr) (c1 : Nat) (l1 : List (S103)) (r : Bool) (w : World) (hr0 : Kd.C k103 w A0 l0.length l0) (hc0 : l0.length ≤ c0) (hr1 : Kd.C k103 w A1 l1.length l1) (hc1 : l1.length ≤ c1) (h : laws_eqEntryS.f k l0 l1 = some r) :
    Calls Try.prog 117 #[.slice A0 l0.length c0, .slice A1 l1.length c1] w fun e w' => e = .returned (.bool r) ∧ Below w.heap.size w w' := by
 have hu103 := Try.underlying103; have HR0 := Aside0.mk hr0; have HC0 := Aside0.mk hc0; clear hr0 hc0; have HR1 := Aside0.mk hr1; have HC1 := Aside0.mk hc1; clear hr1 hc1; have HB := aZ (Below.refl w.heap.size w); have H : (if (l0.length : Int) = (l1.length : Int) then (laws_eqEntryS.l0 k l0 l1 0) else (some false)) = some r := h; clear h
 by_cases c3 : (l0.length : Int) = (l1.length : Int)
 rotate_left
 ·rw [if_neg c3] at H; have c3b0 : ((l0.length : Int) == (l1.length : Int)) = false := beq_eq_false_iff_ne.mpr c3; have c3b1 : ((l0.length : Int) != (l1.length : Int)) = true := bne_iff_ne.mpr c3; have c3b2 : (l0.length == l1.length) = false := by first | simpa using c3 | (simp at c3 ⊢; omega)
  obtain rfl := Option.some.inj H; go_enter Try.func117, Try.ntmps117; go_wp2; go_ret; exact ⟨tZC, bZ⟩
 rw [if_pos c3] at H; have c3b0 : ((l0.length : Int) == (l1.length : Int)) = true := beq_iff_eq.mpr c3; have c3b1 : ((l0.length : Int) != (l1.length : Int)) = false := bne_eq_false_iff_eq.mpr c3; have c3b2 : (l0.length == l1.length) = true := by first | simpa using c3 | (simp at c3 ⊢; omega)
 clear c3; have H' := Aside0.mk H; clear H; go_enter Try.func117, Try.ntmps117; go_wp2
 go_loopg [5] k (fun kq v5 w' => ∃ (x5_1 : Int), v5 = .int .i64 x5_1 ∧ Aside0 (laws_eqEntryS.l0 kq l0 l1 x5_1 = some r) ∧ Aside0 (kq ≤ k) ∧ Aside0 (Below w.heap.size w w'))
 case atStart => exact ⟨(0), tZB, H', ⟨Nat.le_refl _⟩, ⟨bZ⟩⟩
 case round =>
  clear H'; (try clear c3 c3b0 c3b1 c3b2); obtain ⟨x5_1, rfl, HA, HK1, HB⟩ := hrel
  cases gk with
  | zero => exact absurd HA.out (by simp [laws_eqEntryS.l0])
  | succ k1 =>
   have H := HA.out; clear HA; simp only [laws_eqEntryS.l0] at H
   by_cases c4 : x5_1 < (l0.length : Int)
   rotate_left
   ·rw [if_neg c4] at H; have c4b0 := decide_eq_false c4; clear c4; obtain rfl := Option.some.inj H; go_wp2; go_ret; exact ⟨tZC, bZ⟩
   rw [if_pos c4] at H; have c4b0 := decide_eq_true c4; clear c4
   by_cases c5 : 0 ≤ x5_1
   rotate_left
   ·rw [if_neg c5] at H; exact absurd H (by simp)
   rw [if_pos c5] at H; have c5b0 := decide_eq_true c5; clear c5
   by_cases c6 : x5_1 < (l1.length : Int)
   rotate_left
   ·rw [if_neg c6] at H; exact absurd H (by simp)
   rw [if_pos c6] at H; have c6b0 := decide_eq_true c6; clear c6; replace H := Option.bind_eq_some_iff.mp H; obtain ⟨t357, A70, H⟩ := H; replace H : (if t357 = true then (laws_eqEntryS.l0 k1 l0 l1 (wrap64 (x5_1 + 1))) else (some false)) = some r := H; have A7 := Aside0.mk A70; clear A70
   by_cases c8 : t357 = true
   rotate_left
   ·replace c8 := Bool.eq_false_iff.mpr c8; subst c8; rw [if_neg Bool.false_ne_true] at H; obtain rfl := Option.some.inj H
    try go_wp2
    replace HB := aZ (below_drew1 HB.out); have p355 : 0 ≤ (x5_1 : Int) := of_decide_eq_true tZE; have q355 : x5_1 < (l0.length : Int) := of_decide_eq_true tZE; obtain ⟨ad355, A355_3, c355_3, e355, hx355_0, hx355_1, hx355_2, hx355_3, hl355_3, hi355_3⟩ := at_T103 HR0.out x5_1 p355 q355; have hw355_3 := hx355_3; have hw355_2 := hx355_2; have hw355_1 := hx355_1; have hw355_0 := hx355_0; have hz355_3 := hx355_3
    cases e355
    replace hx355_0 := cZ HB hx355_0; replace hx355_1 := cZ HB hx355_1; replace hx355_2 := cZ HB hx355_2; replace hx355_3 := cZ HB hx355_3; have HR355_3 := Aside0.mk hi355_3; have HC355_3 := Aside0.mk hl355_3; clear hi355_3 hl355_3; replace p355 := eq_true p355; replace q355 := eq_true q355; have p356 : 0 ≤ (x5_1 : Int) := of_decide_eq_true tZE; have q356 : x5_1 < (l1.length : Int) := of_decide_eq_true tZE; obtain ⟨ad356, A356_3, c356_3, e356, hx356_0, hx356_1, hx356_2, hx356_3, hl356_3, hi356_3⟩ := at_T103 HR1.out x5_1 p356 q356; have hw356_3 := hx356_3; have hw356_2 := hx356_2; have hw356_1 := hx356_1; have hw356_0 := hx356_0; have hz356_3 := hx356_3
    cases e356
    replace hx356_0 := cZ HB hx356_0; replace hx356_1 := cZ HB hx356_1; replace hx356_2 := cZ HB hx356_2; replace hx356_3 := cZ HB hx356_3; have HR356_3 := Aside0.mk hi356_3; have HC356_3 := Aside0.mk hl356_3; clear hi356_3 hl356_3; replace p356 := eq_true p356; replace q356 := eq_true q356
    refine start_ (n := 10) (S := fun w' => w'.cell? (ad355.add ((x5_1).toNat * 4)) = some (.int .i64 ((rd_T103 l0 x5_1).f0)) ∧ w'.cell? ⟨(ad355.add ((x5_1).toNat * 4)).block, (ad355.add ((x5_1).toNat * 4)).off + 1, none⟩ = some (.int .i64 ((rd_T103 l0 x5_1).f1)) ∧ w'.cell? ⟨(ad355.add ((x5_1).toNat * 4)).block, (ad355.add ((x5_1).toNat * 4)).off + 2, none⟩ = some (.string ((rd_T103 l0 x5_1).f2)) ∧ w'.cell? ⟨(ad355.add ((x5_1).toNat * 4)).block, (ad355.add ((x5_1).toNat * 4)).off + 3, none⟩ = some (.slice A355_3 ((rd_T103 l0 x5_1).f3).length c355_3) ∧ w'.cell? (ad356.add ((x5_1).toNat * 4)) = some (.int .i64 ((rd_T103 l1 x5_1).f0)) ∧ w'.cell? ⟨(ad356.add ((x5_1).toNat * 4)).block, (ad356.add ((x5_1).toNat * 4)).off + 1, none⟩ = some (.int .i64 ((rd_T103 l1 x5_1).f1)) ∧ w'.cell? ⟨(ad356.add ((x5_1).toNat * 4)).block, (ad356.add ((x5_1).toNat * 4)).off + 2, none⟩ = some (.string ((rd_T103 l1 x5_1).f2)) ∧ w'.cell? ⟨(ad356.add ((x5_1).toNat * 4)).block, (ad356.add ((x5_1).toNat * 4)).off + 3, none⟩ = some (.slice A356_3 ((rd_T103 l1 x5_1).f3).length c356_3)) (ds := []) L0' kZ rfl rfl ⟨((HB.out.cell (World.block_lt_of_cell? w _ hw355_0)).trans hw355_0), ((HB.out.cell (World.block_lt_of_cell? w _ hw355_1)).trans hw355_1), ((HB.out.cell (World.block_lt_of_cell? w _ hw355_2)).trans hw355_2), ((HB.out.cell (World.block_lt_of_cell? w _ hw355_3)).trans hw355_3), ((HB.out.cell (World.block_lt_of_cell? w _ hw356_0)).trans hw356_0), ((HB.out.cell (World.block_lt_of_cell? w _ hw356_1)).trans hw356_1), ((HB.out.cell (World.block_lt_of_cell? w _ hw356_2)).trans hw356_2), ((HB.out.cell (World.block_lt_of_cell? w _ hw356_3)).trans hw356_3)⟩ (fun hHeld => ?_); refine with_tabW laws_eqEntryS.tab6 laws_eqEntryS.bits6 (fun HT_ HW_ => ?_)
    generalize wr.drew = w11 at HB HR355_3 HR356_3 hx355_0 hx355_1 hx355_2 hx355_3 hx356_0 hx356_1 hx356_2 hx356_3 hHeld ⊢; refine pure_ (i := 0) (N := some 17) (v := ?_) (a' := ?_) L1' rfl rfl (any_of HT_.out kZ) (fun _ _ _ h => h) (Or.inl ⟨by rfl, ?_⟩) ?_ ?_; rotate_left
    ·intro w'; go_simp; with_reducible rfl
    rotate_left
    ·simp only [Act.put, sZ1, sZ2, sZ3, i64_w, i32_w]; rfl
    refine pure_ (i := 1) (N := some 18) (v := ?_) (a' := ?_) L2' rfl rfl (any_of HT_.out kZ) (fun _ _ _ h => h) (Or.inl ⟨by rfl, ?_⟩) ?_ ?_; rotate_left
    ·intro w'; go_simp; with_reducible rfl
    rotate_left
    ·simp only [Act.put, sZ1, sZ2, sZ3, i64_w, i32_w]; rfl
    refine pure_ (i := 2) (N := some 19) (v := ?_) (a' := ?_) L3' rfl rfl (any_of HT_.out kZ) (fun _ _ _ h => h) (Or.inl ⟨by rfl, ?_⟩) ?_ ?_; rotate_left
    ·intro w'; go_simp; with_reducible rfl
    rotate_left
    ·simp only [Act.put, sZ1, sZ2, sZ3, i64_w, i32_w]; rfl
    refine pure_ (i := 4) (N := some 21) (v := ?_) (a' := ?_) L4' rfl rfl (any_of HT_.out kZ) (fun _ _ _ h => h) (Or.inl ⟨by rfl, ?_⟩) ?_ ?_; rotate_left
    ·intro w'; go_simp; with_reducible rfl
    rotate_left
    ·simp only [Act.put, sZ1, sZ2, sZ3, i64_w, i32_w]; rfl
    refine pure_ (i := 5) (N := some 22) (v := ?_) (a' := ?_) L5' rfl rfl (any_of HT_.out kZ) (fun _ _ _ h => h) (Or.inl ⟨by rfl, ?_⟩) ?_ ?_; rotate_left
    ·intro w'; go_simp; with_reducible rfl
    rotate_left
    ·simp only [Act.put, sZ1, sZ2, sZ3, i64_w, i32_w]; rfl
    refine pure_ (i := 6) (N := some 23) (v := ?_) (a' := ?_) L6' rfl rfl (any_of HT_.out kZ) (fun _ _ _ h => h) (Or.inl ⟨by rfl, ?_⟩) ?_ ?_; rotate_left
    ·intro w'; go_simp; with_reducible rfl
    rotate_left
    ·simp only [Act.put, sZ1, sZ2, sZ3, i64_w, i32_w]; rfl
    refine take_ (i := 3) (N := some 20) (v := ?_) (a' := ?_) L7' rfl rfl (take_ofW HT_.out HW_.out kZ) (fun _ _ _ h => h) (Or.inl ⟨by rfl, ?_⟩) hHeld ?_ ?_; rotate_left
    ·rintro w' ⟨s0, s1, s2, s3, s4, s5, s6, s7⟩
     go_simp; with_reducible rfl
    rotate_left
    ·simp only [Act.put, sZ1, sZ2, sZ3, i64_w, i32_w]; rfl
    refine take_ (i := 7) (N := some 24) (v := ?_) (a' := ?_) L8' rfl rfl (take_ofW HT_.out HW_.out kZ) (fun _ _ _ h => h) (Or.inl ⟨by rfl, ?_⟩) hHeld ?_ ?_; rotate_left
    ·rintro w' ⟨s0, s1, s2, s3, s4, s5, s6, s7⟩
     go_simp; with_reducible rfl
    rotate_left
    ·simp only [Act.put, sZ1, sZ2, sZ3, i64_w, i32_w]; rfl
    refine one_ (i := 8) (N := some 25) L9' rfl rfl (one_of HT_.out kZ) (by decide) (fun K hK => ?_); refine goes_ Try.func173 kZ rfl #[.agg #[.int .i64 ((rd_T103 l0 x5_1).f0), .int .i64 ((rd_T103 l0 x5_1).f1), .string ((rd_T103 l0 x5_1).f2), .slice A355_3 ((rd_T103 l0 x5_1).f3).length c355_3], .agg #[.int .i64 ((rd_T103 l1 x5_1).f0), .int .i64 ((rd_T103 l1 x5_1).f1), .string ((rd_T103 l1 x5_1).f2), .slice A356_3 ((rd_T103 l1 x5_1).f3).length c356_3]] (by rfl) rfl rfl tZA ?_
    with_reducible refine (laws_eqEntry.calls k1 ((rd_T103 l0 x5_1).f0) ((rd_T103 l0 x5_1).f1) ((rd_T103 l0 x5_1).f2) _ _ ((rd_T103 l0 x5_1).f3) ((rd_T103 l1 x5_1).f0) ((rd_T103 l1 x5_1).f1) ((rd_T103 l1 x5_1).f2) _ _ ((rd_T103 l1 x5_1).f3) false _ ?side1 ?side2 ?side3 ?side4 A7.out).mono ?_
    (case side1 => repeat (first | exact (Kd.C_below HR355_3.out HB.out) | (with_reducible refine Kd.C_alloc ?_ _) | (with_reducible refine Kd.C_drewN ?_ _) | (with_reducible refine Kd.C_drew ?_)))
    (case side2 => exact HC355_3.out)
    (case side3 => repeat (first | exact (Kd.C_below HR356_3.out HB.out) | (with_reducible refine Kd.C_alloc ?_ _) | (with_reducible refine Kd.C_drewN ?_ _) | (with_reducible refine Kd.C_drew ?_)))
    (case side4 => exact HC356_3.out)
    rintro e w12 ⟨rfl, hb⟩
    refine ⟨_, rfl, ?_⟩; replace HB := aZ (below_step (lZB HB.out) hb); (try clear hb); (try clear hb2); (try clear hk); (try clear hi); refine hK.out _ _ ⟨((HB.out.cell (World.block_lt_of_cell? w _ hw355_0)).trans hw355_0), ((HB.out.cell (World.block_lt_of_cell? w _ hw355_1)).trans hw355_1), ((HB.out.cell (World.block_lt_of_cell? w _ hw355_2)).trans hw355_2), ((HB.out.cell (World.block_lt_of_cell? w _ hw355_3)).trans hw355_3), ((HB.out.cell (World.block_lt_of_cell? w _ hw356_0)).trans hw356_0), ((HB.out.cell (World.block_lt_of_cell? w _ hw356_1)).trans hw356_1), ((HB.out.cell (World.block_lt_of_cell? w _ hw356_2)).trans hw356_2), ((HB.out.cell (World.block_lt_of_cell? w _ hw356_3)).trans hw356_3)⟩ (fun hHeld => ?_); clear hK K; refine norm_ (a' := ?_) ?_ ?_; rotate_left
    ·show Act.put _ (some 25) _ = _
     simp only [Act.put, sZ1, sZ2, sZ3, i64_w, i32_w]; rfl
    refine pure_ (i := 9) (N := some 26) (v := ?_) (a' := ?_) L10' rfl rfl (any_of HT_.out kZ) (fun _ _ _ h => h) (Or.inl ⟨by rfl, ?_⟩) ?_ ?_; rotate_left
    ·intro w'; go_simp; with_reducible rfl
    rotate_left
    ·simp only [Act.put, sZ1, sZ2, sZ3, i64_w, i32_w]; rfl
    refine done_ (done_of HT_.out kZ) ?_
    try go_wp2
    go_ret; exact ⟨tZC, bZ⟩
   subst c8; rw [if_pos rfl] at H; have H' := Aside0.mk H; clear H
   try go_wp2
   replace HB := aZ (below_drew1 HB.out); have p355 : 0 ≤ (x5_1 : Int) := of_decide_eq_true tZE; have q355 : x5_1 < (l0.length : Int) := of_decide_eq_true tZE; obtain ⟨ad355, A355_3, c355_3, e355, hx355_0, hx355_1, hx355_2, hx355_3, hl355_3, hi355_3⟩ := at_T103 HR0.out x5_1 p355 q355; have hw355_3 := hx355_3; have hw355_2 := hx355_2; have hw355_1 := hx355_1; have hw355_0 := hx355_0; have hz355_3 := hx355_3
   cases e355
   replace hx355_0 := cZ HB hx355_0; replace hx355_1 := cZ HB hx355_1; replace hx355_2 := cZ HB hx355_2; replace hx355_3 := cZ HB hx355_3; have HR355_3 := Aside0.mk hi355_3; have HC355_3 := Aside0.mk hl355_3; clear hi355_3 hl355_3; replace p355 := eq_true p355; replace q355 := eq_true q355; have p356 : 0 ≤ (x5_1 : Int) := of_decide_eq_true tZE; have q356 : x5_1 < (l1.length : Int) := of_decide_eq_true tZE; obtain ⟨ad356, A356_3, c356_3, e356, hx356_0, hx356_1, hx356_2, hx356_3, hl356_3, hi356_3⟩ := at_T103 HR1.out x5_1 p356 q356; have hw356_3 := hx356_3; have hw356_2 := hx356_2; have hw356_1 := hx356_1; have hw356_0 := hx356_0; have hz356_3 := hx356_3
   cases e356
   replace hx356_0 := cZ HB hx356_0; replace hx356_1 := cZ HB hx356_1; replace hx356_2 := cZ HB hx356_2; replace hx356_3 := cZ HB hx356_3; have HR356_3 := Aside0.mk hi356_3; have HC356_3 := Aside0.mk hl356_3; clear hi356_3 hl356_3; replace p356 := eq_true p356; replace q356 := eq_true q356
   refine start_ (n := 10) (S := fun w' => w'.cell? (ad355.add ((x5_1).toNat * 4)) = some (.int .i64 ((rd_T103 l0 x5_1).f0)) ∧ w'.cell? ⟨(ad355.add ((x5_1).toNat * 4)).block, (ad355.add ((x5_1).toNat * 4)).off + 1, none⟩ = some (.int .i64 ((rd_T103 l0 x5_1).f1)) ∧ w'.cell? ⟨(ad355.add ((x5_1).toNat * 4)).block, (ad355.add ((x5_1).toNat * 4)).off + 2, none⟩ = some (.string ((rd_T103 l0 x5_1).f2)) ∧ w'.cell? ⟨(ad355.add ((x5_1).toNat * 4)).block, (ad355.add ((x5_1).toNat * 4)).off + 3, none⟩ = some (.slice A355_3 ((rd_T103 l0 x5_1).f3).length c355_3) ∧ w'.cell? (ad356.add ((x5_1).toNat * 4)) = some (.int .i64 ((rd_T103 l1 x5_1).f0)) ∧ w'.cell? ⟨(ad356.add ((x5_1).toNat * 4)).block, (ad356.add ((x5_1).toNat * 4)).off + 1, none⟩ = some (.int .i64 ((rd_T103 l1 x5_1).f1)) ∧ w'.cell? ⟨(ad356.add ((x5_1).toNat * 4)).block, (ad356.add ((x5_1).toNat * 4)).off + 2, none⟩ = some (.string ((rd_T103 l1 x5_1).f2)) ∧ w'.cell? ⟨(ad356.add ((x5_1).toNat * 4)).block, (ad356.add ((x5_1).toNat * 4)).off + 3, none⟩ = some (.slice A356_3 ((rd_T103 l1 x5_1).f3).length c356_3)) (ds := []) L0' kZ rfl rfl ⟨((HB.out.cell (World.block_lt_of_cell? w _ hw355_0)).trans hw355_0), ((HB.out.cell (World.block_lt_of_cell? w _ hw355_1)).trans hw355_1), ((HB.out.cell (World.block_lt_of_cell? w _ hw355_2)).trans hw355_2), ((HB.out.cell (World.block_lt_of_cell? w _ hw355_3)).trans hw355_3), ((HB.out.cell (World.block_lt_of_cell? w _ hw356_0)).trans hw356_0), ((HB.out.cell (World.block_lt_of_cell? w _ hw356_1)).trans hw356_1), ((HB.out.cell (World.block_lt_of_cell? w _ hw356_2)).trans hw356_2), ((HB.out.cell (World.block_lt_of_cell? w _ hw356_3)).trans hw356_3)⟩ (fun hHeld => ?_); refine with_tabW laws_eqEntryS.tab6 laws_eqEntryS.bits6 (fun HT_ HW_ => ?_)
   generalize wr.drew = w9 at HB HR355_3 HR356_3 hx355_0 hx355_1 hx355_2 hx355_3 hx356_0 hx356_1 hx356_2 hx356_3 hHeld ⊢; refine pure_ (i := 0) (N := some 17) (v := ?_) (a' := ?_) L1' rfl rfl (any_of HT_.out kZ) (fun _ _ _ h => h) (Or.inl ⟨by rfl, ?_⟩) ?_ ?_; rotate_left
   ·intro w'; go_simp; with_reducible rfl
   rotate_left
   ·simp only [Act.put, sZ1, sZ2, sZ3, i64_w, i32_w]; rfl
   refine pure_ (i := 1) (N := some 18) (v := ?_) (a' := ?_) L2' rfl rfl (any_of HT_.out kZ) (fun _ _ _ h => h) (Or.inl ⟨by rfl, ?_⟩) ?_ ?_; rotate_left
   ·intro w'; go_simp; with_reducible rfl
   rotate_left
   ·simp only [Act.put, sZ1, sZ2, sZ3, i64_w, i32_w]; rfl
   refine pure_ (i := 2) (N := some 19) (v := ?_) (a' := ?_) L3' rfl rfl (any_of HT_.out kZ) (fun _ _ _ h => h) (Or.inl ⟨by rfl, ?_⟩) ?_ ?_; rotate_left
   ·intro w'; go_simp; with_reducible rfl
   rotate_left
   ·simp only [Act.put, sZ1, sZ2, sZ3, i64_w, i32_w]; rfl
   refine pure_ (i := 4) (N := some 21) (v := ?_) (a' := ?_) L4' rfl rfl (any_of HT_.out kZ) (fun _ _ _ h => h) (Or.inl ⟨by rfl, ?_⟩) ?_ ?_; rotate_left
   ·intro w'; go_simp; with_reducible rfl
   rotate_left
   ·simp only [Act.put, sZ1, sZ2, sZ3, i64_w, i32_w]; rfl
   refine pure_ (i := 5) (N := some 22) (v := ?_) (a' := ?_) L5' rfl rfl (any_of HT_.out kZ) (fun _ _ _ h => h) (Or.inl ⟨by rfl, ?_⟩) ?_ ?_; rotate_left
   ·intro w'; go_simp; with_reducible rfl
   rotate_left
   ·simp only [Act.put, sZ1, sZ2, sZ3, i64_w, i32_w]; rfl
   refine pure_ (i := 6) (N := some 23) (v := ?_) (a' := ?_) L6' rfl rfl (any_of HT_.out kZ) (fun _ _ _ h => h) (Or.inl ⟨by rfl, ?_⟩) ?_ ?_; rotate_left
   ·intro w'; go_simp; with_reducible rfl
   rotate_left
   ·simp only [Act.put, sZ1, sZ2, sZ3, i64_w, i32_w]; rfl
   refine take_ (i := 3) (N := some 20) (v := ?_) (a' := ?_) L7' rfl rfl (take_ofW HT_.out HW_.out kZ) (fun _ _ _ h => h) (Or.inl ⟨by rfl, ?_⟩) hHeld ?_ ?_; rotate_left
   ·rintro w' ⟨s0, s1, s2, s3, s4, s5, s6, s7⟩
    go_simp; with_reducible rfl
   rotate_left
   ·simp only [Act.put, sZ1, sZ2, sZ3, i64_w, i32_w]; rfl
   refine take_ (i := 7) (N := some 24) (v := ?_) (a' := ?_) L8' rfl rfl (take_ofW HT_.out HW_.out kZ) (fun _ _ _ h => h) (Or.inl ⟨by rfl, ?_⟩) hHeld ?_ ?_; rotate_left
   ·rintro w' ⟨s0, s1, s2, s3, s4, s5, s6, s7⟩
    go_simp; with_reducible rfl
   rotate_left
   ·simp only [Act.put, sZ1, sZ2, sZ3, i64_w, i32_w]; rfl
   refine one_ (i := 8) (N := some 25) L9' rfl rfl (one_of HT_.out kZ) (by decide) (fun K hK => ?_); refine goes_ Try.func173 kZ rfl #[.agg #[.int .i64 ((rd_T103 l0 x5_1).f0), .int .i64 ((rd_T103 l0 x5_1).f1), .string ((rd_T103 l0 x5_1).f2), .slice A355_3 ((rd_T103 l0 x5_1).f3).length c355_3], .agg #[.int .i64 ((rd_T103 l1 x5_1).f0), .int .i64 ((rd_T103 l1 x5_1).f1), .string ((rd_T103 l1 x5_1).f2), .slice A356_3 ((rd_T103 l1 x5_1).f3).length c356_3]] (by rfl) rfl rfl tZA ?_
   with_reducible refine (laws_eqEntry.calls k1 ((rd_T103 l0 x5_1).f0) ((rd_T103 l0 x5_1).f1) ((rd_T103 l0 x5_1).f2) _ _ ((rd_T103 l0 x5_1).f3) ((rd_T103 l1 x5_1).f0) ((rd_T103 l1 x5_1).f1) ((rd_T103 l1 x5_1).f2) _ _ ((rd_T103 l1 x5_1).f3) true _ ?side1 ?side2 ?side3 ?side4 A7.out).mono ?_
   (case side1 => repeat (first | exact (Kd.C_below HR355_3.out HB.out) | (with_reducible refine Kd.C_alloc ?_ _) | (with_reducible refine Kd.C_drewN ?_ _) | (with_reducible refine Kd.C_drew ?_)))
   (case side2 => exact HC355_3.out)
   (case side3 => repeat (first | exact (Kd.C_below HR356_3.out HB.out) | (with_reducible refine Kd.C_alloc ?_ _) | (with_reducible refine Kd.C_drewN ?_ _) | (with_reducible refine Kd.C_drew ?_)))
   (case side4 => exact HC356_3.out)
   rintro e w10 ⟨rfl, hb⟩
   refine ⟨_, rfl, ?_⟩; replace HB := aZ (below_step (lZB HB.out) hb); (try clear hb); (try clear hb2); (try clear hk); (try clear hi); refine hK.out _ _ ⟨((HB.out.cell (World.block_lt_of_cell? w _ hw355_0)).trans hw355_0), ((HB.out.cell (World.block_lt_of_cell? w _ hw355_1)).trans hw355_1), ((HB.out.cell (World.block_lt_of_cell? w _ hw355_2)).trans hw355_2), ((HB.out.cell (World.block_lt_of_cell? w _ hw355_3)).trans hw355_3), ((HB.out.cell (World.block_lt_of_cell? w _ hw356_0)).trans hw356_0), ((HB.out.cell (World.block_lt_of_cell? w _ hw356_1)).trans hw356_1), ((HB.out.cell (World.block_lt_of_cell? w _ hw356_2)).trans hw356_2), ((HB.out.cell (World.block_lt_of_cell? w _ hw356_3)).trans hw356_3)⟩ (fun hHeld => ?_); clear hK K; refine norm_ (a' := ?_) ?_ ?_; rotate_left
   ·show Act.put _ (some 25) _ = _
    simp only [Act.put, sZ1, sZ2, sZ3, i64_w, i32_w]; rfl
   refine pure_ (i := 9) (N := some 26) (v := ?_) (a' := ?_) L10' rfl rfl (any_of HT_.out kZ) (fun _ _ _ h => h) (Or.inl ⟨by rfl, ?_⟩) ?_ ?_; rotate_left
   ·intro w'; go_simp; with_reducible rfl
   rotate_left
   ·simp only [Act.put, sZ1, sZ2, sZ3, i64_w, i32_w]; rfl
   refine done_ (done_of HT_.out kZ) ?_
   try go_wp2
   go_roundg k1
   case measure => have := HK1.out; omega
   case rel => exact ⟨(wrap64 (x5_1 + 1)), tZB, H', ⟨by have := HK1.out; omega⟩, ⟨bZ⟩⟩
def laws_eqLedger.f (k : Nat) (l0_0 : List (S103)) (a0_1 : Int) (l1_0 : List (S103)) (a1_1 : Int) : Option (Bool) := (laws_eqEntryS.f k l0_0 l1_0).bind fun t360 => (if t360 = true then (if a0_1 = a1_1 then (some true) else (some false)) else (some false))
theorem laws_eqLedger.mono : ∀ a0 a1 a2 a3 k, LeO (laws_eqLedger.f k a0 a1 a2 a3) (laws_eqLedger.f (k + 1) a0 a1 a2 a3) := by
 intro a0 a1 a2 a3 k
 unfold laws_eqLedger.f
 repeat' first
     | (with_reducible exact laws_eqEntryS.mono _ _ _)
     | (with_reducible exact LeO.refl _)
     | (with_reducible exact LeO.none _)
     | (with_reducible refine LeO.ite ?_ ?_)
     | (with_reducible refine LeO.bind ?_ (fun _ => ?_))
     | exact laws_eqEntryS.mono _ _ _
     | exact LeO.none _
     | refine LeO.ite ?_ ?_
     | refine LeO.bind ?_ (fun _ => ?_)
set_option maxHeartbeats 8000000 in
set_option maxRecDepth 100000 in
theorem laws_eqLedger.calls (k : Nat) (A0_0 : Option Addr) (c0_0 : Nat) (l0_0 : List (S103)) (a0_1 : Int) (A1_0 : Option Addr) (c1_0 : Nat) (l1_0 : List (S103)) (a1_1 : Int) (r : Bool) (w : World) (hr0_0 : Kd.C k103 w A0_0 l0_0.length l0_0) (hc0_0 : l0_0.length ≤ c0_0) (hr1_0 : Kd.C k103 w A1_0 l1_0.length l1_0) (hc1_0 : l1_0.length ≤ c1_0) (h : laws_eqLedger.f k l0_0 a0_1 l1_0 a1_1 = some r) :
    Calls Try.prog 46 #[.agg #[.slice A0_0 l0_0.length c0_0, .int .i64 a0_1], .agg #[.slice A1_0 l1_0.length c1_0, .int .i64 a1_1]] w fun e w' => e = .returned (.bool r) ∧ Below w.heap.size w w' := by
 have hu85 := Try.underlying85; have HR0_0 := Aside0.mk hr0_0; have HC0_0 := Aside0.mk hc0_0; clear hr0_0 hc0_0; have HR1_0 := Aside0.mk hr1_0; have HC1_0 := Aside0.mk hc1_0; clear hr1_0 hc1_0; have HB := aZ (Below.refl w.heap.size w); have H : ((laws_eqEntryS.f k l0_0 l1_0).bind fun t360 => (if t360 = true then (if a0_1 = a1_1 then (some true) else (some false)) else (some false))) = some r := h; clear h; replace H := Option.bind_eq_some_iff.mp H; obtain ⟨t360, A30, H⟩ := H; replace H : (if t360 = true then (if a0_1 = a1_1 then (some true) else (some false)) else (some false)) = some r := H; have A3 := Aside0.mk A30; clear A30
 by_cases c4 : t360 = true
 rotate_left
 ·replace c4 := Bool.eq_false_iff.mpr c4; subst c4; rw [if_neg Bool.false_ne_true] at H; obtain rfl := Option.some.inj H; go_enter Try.func46, Try.ntmps46
  go_wp2_with (first | ((with_reducible refine gate_dst (N := 2) rfl ?_); refine box_event tZR (N := 2) tZR (cs := #[.slice A0_0 l0_0.length c0_0, .int .i64 a0_1]) (t := 85) tZS ?_; intro gb358 hg w22 hbox hb; have BK358 := aZ (hbox); have GW358 := aZ ((by rw [hg]; exact (below_size (lZB HB.out)) : w.heap.size ≤ gb358)); have GE358 := GW358; replace HB := aZ (below_step (lZB HB.out) hb); clear hb hbox hg) | ((with_reducible refine gate_dst (N := 3) rfl ?_); refine box_event tZR (N := 3) tZR (cs := #[.slice A1_0 l1_0.length c1_0, .int .i64 a1_1]) (t := 85) tZS ?_; intro gb359 hg w23 hbox hb; have BK359 := aZ (hbox); have GW359 := aZ ((by rw [hg]; exact (below_size bZ) : w.heap.size ≤ gb359)); have GE359 := GW359; replace HB := aZ (below_step bZ hb); have NB358_359 := aZ ((nLt hg (bkZ BK358.out) : gb358 ≠ gb359)); have NB359_358 := aZ ((nGt hg (bkZ BK358.out) : gb359 ≠ gb358)); replace BK358 := aZ (blk_below (bkZ BK358.out) hb); clear hb hbox hg; have hnb24 := NB358_359.out; have hnc24 := NB359_358.out; obtain ⟨hcz25_0, hcz25_1, hfz25_0, hfz25_1⟩ := bc2 BK358.out; obtain ⟨hcz26_0, hcz26_1, hfz26_0, hfz26_1⟩ := bc2 BK359.out) | ((with_reducible refine gate_callee (f := 117) rfl ?_); refine goesL_ (some 9) rfl rfl Try.func117 kZ rfl #[.slice A0_0 l0_0.length c0_0, .slice A1_0 l1_0.length c1_0] rfl tZA ?_; (with_reducible refine (laws_eqEntryS.calls k _ _ l0_0 _ _ l1_0 false _ ?side1 ?side2 ?side3 ?side4 A3.out).mono ?_); (case side1 => repeat (first | exact (Kd.C_below HR0_0.out HB.out) | (with_reducible refine Kd.C_alloc ?_ _) | (with_reducible refine Kd.C_drewN ?_ _) | (with_reducible refine Kd.C_drew ?_))); (case side2 => exact HC0_0.out); (case side3 => repeat (first | exact (Kd.C_below HR1_0.out HB.out) | (with_reducible refine Kd.C_alloc ?_ _) | (with_reducible refine Kd.C_drewN ?_ _) | (with_reducible refine Kd.C_drew ?_))); (case side4 => exact HC1_0.out); rintro e w27 ⟨rfl, hb⟩; refine ⟨_, rfl, ?_⟩; replace BK358 := aZ (blk_below (bkZ BK358.out) hb); replace BK359 := aZ (blk_below (bkZ BK359.out) hb); replace HB := aZ (below_step bZ hb); (try clear hb); (try clear hb2); (try clear hk); (try clear hi)))
  go_ret; exact ⟨tZC, bZ⟩
 subst c4; rw [if_pos rfl] at H
 by_cases c5 : a0_1 = a1_1
 ·rw [if_pos c5] at H; have c5b0 : (a0_1 == a1_1) = true := beq_iff_eq.mpr c5; have c5b1 : (a0_1 != a1_1) = false := bne_eq_false_iff_eq.mpr c5; clear c5; obtain rfl := Option.some.inj H; go_enter Try.func46, Try.ntmps46
  go_wp2_with (first | ((with_reducible refine gate_dst (N := 2) rfl ?_); refine box_event tZR (N := 2) tZR (cs := #[.slice A0_0 l0_0.length c0_0, .int .i64 a0_1]) (t := 85) tZS ?_; intro gb358 hg w6 hbox hb; have BK358 := aZ (hbox); have GW358 := aZ ((by rw [hg]; exact (below_size (lZB HB.out)) : w.heap.size ≤ gb358)); have GE358 := GW358; replace HB := aZ (below_step (lZB HB.out) hb); clear hb hbox hg) | ((with_reducible refine gate_dst (N := 3) rfl ?_); refine box_event tZR (N := 3) tZR (cs := #[.slice A1_0 l1_0.length c1_0, .int .i64 a1_1]) (t := 85) tZS ?_; intro gb359 hg w7 hbox hb; have BK359 := aZ (hbox); have GW359 := aZ ((by rw [hg]; exact (below_size bZ) : w.heap.size ≤ gb359)); have GE359 := GW359; replace HB := aZ (below_step bZ hb); have NB358_359 := aZ ((nLt hg (bkZ BK358.out) : gb358 ≠ gb359)); have NB359_358 := aZ ((nGt hg (bkZ BK358.out) : gb359 ≠ gb358)); replace BK358 := aZ (blk_below (bkZ BK358.out) hb); clear hb hbox hg; have hnb8 := NB358_359.out; have hnc8 := NB359_358.out; obtain ⟨hcz9_0, hcz9_1, hfz9_0, hfz9_1⟩ := bc2 BK358.out; obtain ⟨hcz10_0, hcz10_1, hfz10_0, hfz10_1⟩ := bc2 BK359.out) | ((with_reducible refine gate_callee (f := 117) rfl ?_); refine goesL_ (some 9) rfl rfl Try.func117 kZ rfl #[.slice A0_0 l0_0.length c0_0, .slice A1_0 l1_0.length c1_0] rfl tZA ?_; (with_reducible refine (laws_eqEntryS.calls k _ _ l0_0 _ _ l1_0 true _ ?side1 ?side2 ?side3 ?side4 A3.out).mono ?_); (case side1 => repeat (first | exact (Kd.C_below HR0_0.out HB.out) | (with_reducible refine Kd.C_alloc ?_ _) | (with_reducible refine Kd.C_drewN ?_ _) | (with_reducible refine Kd.C_drew ?_))); (case side2 => exact HC0_0.out); (case side3 => repeat (first | exact (Kd.C_below HR1_0.out HB.out) | (with_reducible refine Kd.C_alloc ?_ _) | (with_reducible refine Kd.C_drewN ?_ _) | (with_reducible refine Kd.C_drew ?_))); (case side4 => exact HC1_0.out); rintro e w11 ⟨rfl, hb⟩; refine ⟨_, rfl, ?_⟩; replace BK358 := aZ (blk_below (bkZ BK358.out) hb); replace BK359 := aZ (blk_below (bkZ BK359.out) hb); replace HB := aZ (below_step bZ hb); (try clear hb); (try clear hb2); (try clear hk); (try clear hi); obtain ⟨hcz12_0, hcz12_1, hfz12_0, hfz12_1⟩ := bc2 BK358.out; obtain ⟨hcz13_0, hcz13_1, hfz13_0, hfz13_1⟩ := bc2 BK359.out))
  go_ret; exact ⟨tZC, bZ⟩
 rw [if_neg c5] at H; have c5b0 : (a0_1 == a1_1) = false := beq_eq_false_iff_ne.mpr c5; have c5b1 : (a0_1 != a1_1) = true := bne_iff_ne.mpr c5; obtain rfl := Option.some.inj H; go_enter Try.func46, Try.ntmps46
 go_wp2_with (first | ((with_reducible refine gate_dst (N := 2) rfl ?_); refine box_event tZR (N := 2) tZR (cs := #[.slice A0_0 l0_0.length c0_0, .int .i64 a0_1]) (t := 85) tZS ?_; intro gb358 hg w14 hbox hb; have BK358 := aZ (hbox); have GW358 := aZ ((by rw [hg]; exact (below_size (lZB HB.out)) : w.heap.size ≤ gb358)); have GE358 := GW358; replace HB := aZ (below_step (lZB HB.out) hb); clear hb hbox hg) | ((with_reducible refine gate_dst (N := 3) rfl ?_); refine box_event tZR (N := 3) tZR (cs := #[.slice A1_0 l1_0.length c1_0, .int .i64 a1_1]) (t := 85) tZS ?_; intro gb359 hg w15 hbox hb; have BK359 := aZ (hbox); have GW359 := aZ ((by rw [hg]; exact (below_size bZ) : w.heap.size ≤ gb359)); have GE359 := GW359; replace HB := aZ (below_step bZ hb); have NB358_359 := aZ ((nLt hg (bkZ BK358.out) : gb358 ≠ gb359)); have NB359_358 := aZ ((nGt hg (bkZ BK358.out) : gb359 ≠ gb358)); replace BK358 := aZ (blk_below (bkZ BK358.out) hb); clear hb hbox hg; have hnb16 := NB358_359.out; have hnc16 := NB359_358.out; obtain ⟨hcz17_0, hcz17_1, hfz17_0, hfz17_1⟩ := bc2 BK358.out; obtain ⟨hcz18_0, hcz18_1, hfz18_0, hfz18_1⟩ := bc2 BK359.out) | ((with_reducible refine gate_callee (f := 117) rfl ?_); refine goesL_ (some 9) rfl rfl Try.func117 kZ rfl #[.slice A0_0 l0_0.length c0_0, .slice A1_0 l1_0.length c1_0] rfl tZA ?_; (with_reducible refine (laws_eqEntryS.calls k _ _ l0_0 _ _ l1_0 true _ ?side1 ?side2 ?side3 ?side4 A3.out).mono ?_); (case side1 => repeat (first | exact (Kd.C_below HR0_0.out HB.out) | (with_reducible refine Kd.C_alloc ?_ _) | (with_reducible refine Kd.C_drewN ?_ _) | (with_reducible refine Kd.C_drew ?_))); (case side2 => exact HC0_0.out); (case side3 => repeat (first | exact (Kd.C_below HR1_0.out HB.out) | (with_reducible refine Kd.C_alloc ?_ _) | (with_reducible refine Kd.C_drewN ?_ _) | (with_reducible refine Kd.C_drew ?_))); (case side4 => exact HC1_0.out); rintro e w19 ⟨rfl, hb⟩; refine ⟨_, rfl, ?_⟩; replace BK358 := aZ (blk_below (bkZ BK358.out) hb); replace BK359 := aZ (blk_below (bkZ BK359.out) hb); replace HB := aZ (below_step bZ hb); (try clear hb); (try clear hb2); (try clear hk); (try clear hi); obtain ⟨hcz20_0, hcz20_1, hfz20_0, hfz20_1⟩ := bc2 BK358.out; obtain ⟨hcz21_0, hcz21_1, hfz21_0, hfz21_1⟩ := bc2 BK359.out))
 go_ret; exact ⟨tZC, bZ⟩
end Go.Proofs.Ytmpknbdbichdiaa.PFnExactLedgerOk
