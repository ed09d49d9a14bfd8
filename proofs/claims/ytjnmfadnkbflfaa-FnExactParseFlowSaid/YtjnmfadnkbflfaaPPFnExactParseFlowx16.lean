import Derived.Test.YtjnmfadnkbflfaaPPFnExactParseFlowx0
import Derived.Test.YtjnmfadnkbflfaaPPFnExactParseFlowx1
import Derived.Test.YtjnmfadnkbflfaaPPFnExactParseFlowx9
import Derived.Test.YtjnmfadnkbflfaaPPFnExactParseFlowx15
import Derived.Test.YtjnmfadnkbflfaaPSlimWords
namespace Go.Proofs.Ytjnmfadnkbflfaa.PFnExactParseFlow
open Go.Proofs.Ytjnmfadnkbflfaa.SlimWords
open Go.RowKit Go.Proofs.YtjnmfadnkbflfaaW.PrintWords Go.Proofs.YtjnmfadnkbflfaaW.PrintLast Go.Proofs.YtjnmfadnkbflfaaW.PrintMore Go.Proofs.Ytjnmfadnkbflfaa.MapWords Go.Proofs.Ytjnmfadnkbflfaa.IterWords Go.Proofs.Ytjnmfadnkbflfaa.MarkWords
attribute [local go_sem] max2_int min2_int max_two min_two max_three min_three max_four min_four
set_option linter.unusedVariables false
set_option linter.unusedSimpArgs false
private abbrev I' := true
private abbrev O' := false
private abbrev L0' : Array Bool := #[O',O',O',O',O',O',O']
private abbrev L1' : Array Bool := #[I',O',O',O',O',O',O']
private abbrev L2' : Array Bool := #[I',I',O',O',O',O',O']
private abbrev L3' : Array Bool := #[I',I',I',O',O',O',O']
private abbrev L4' : Array Bool := #[I',I',I',O',I',O',O']
private abbrev L5' : Array Bool := #[I',I',I',I',I',O',O']
private abbrev L6' : Array Bool := #[I',I',I',I',I',I',O']
private abbrev L7' : Array Bool := #[I',I',I',I',I',I',I']
def laws_heldStringS.l0 : Nat → List ByteArray → Int → Int → Option (Int)
  | 0, _, _, _ => none
  | k + 1, x0, x1, x5 => if x5 < (x0.length : Int) then (if 0 ≤ x5 then ((laws_markText.f k x1).bind fun t281 => (if (rdOf ByteArray.empty x0 x5).toList = t281.toList then (laws_heldStringS.l0 k x0 (wrap64 (x1 + 1)) (wrap64 (x5 + 1))) else (some (-1)))) else (none)) else (some x1)
def laws_heldStringS.f (k : Nat) (l0 : List ByteArray) (a1 : Int) : Option (Int) := laws_heldStringS.l0 k l0 a1 0
theorem laws_heldStringS.mono_l : ∀ k, (∀ y0 y1 y2, LeO (laws_heldStringS.l0 k y0 y1 y2) (laws_heldStringS.l0 (k + 1) y0 y1 y2))
  | 0 => fun _ _ _ r h => by simp [laws_heldStringS.l0] at h
  | k + 1 => by
    have ih0 := laws_heldStringS.mono_l k
    · intro y0 y1 y2
      unfold laws_heldStringS.l0
      repeat' first
      | (with_reducible exact ih0 _ _ _)
      | (with_reducible exact laws_markText.mono _ _)
      | (with_reducible exact LeO.refl _)
      | (with_reducible exact LeO.none _)
      | (with_reducible refine LeO.ite ?_ ?_)
      | (with_reducible refine LeO.bind ?_ (fun _ => ?_))
      | exact ih0 _ _ _
      | exact laws_markText.mono _ _
      | exact LeO.none _
      | refine LeO.ite ?_ ?_
      | refine LeO.bind ?_ (fun _ => ?_)
theorem laws_heldStringS.mono : ∀ a0 a1 k, LeO (laws_heldStringS.f k a0 a1) (laws_heldStringS.f (k + 1) a0 a1) := by
 intro a0 a1 k
 have ih0 := laws_heldStringS.mono_l k
 unfold laws_heldStringS.f
 repeat' first
     | (with_reducible exact ih0 _ _ _)
     | (with_reducible exact laws_markText.mono _ _)
     | (with_reducible exact LeO.refl _)
     | (with_reducible exact LeO.none _)
     | (with_reducible refine LeO.ite ?_ ?_)
     | (with_reducible refine LeO.bind ?_ (fun _ => ?_))
     | exact ih0 _ _ _
     | exact laws_markText.mono _ _
     | exact LeO.none _
     | refine LeO.ite ?_ ?_
     | refine LeO.bind ?_ (fun _ => ?_)
set_option maxHeartbeats 8000000 in
set_option maxRecDepth 100000 in
theorem laws_heldStringS.calls (k : Nat) (A0 : Option Addr) (c0 : Nat) (l0 : List ByteArray) (a1 : Int) (r : Int) (w : World) (hr0 : Kd.C Kd.string w A0 l0.length l0) (hc0 : l0.length ≤ c0) (h : laws_heldStringS.f k l0 a1 = some r) :
    Calls Try.prog 44 #[.slice A0 l0.length c0, .int .i64 a1] w fun e w' => e = .returned (.int .i64 r) ∧ Below w.heap.size w w' := by
 have HR0 := Aside0.mk hr0; have HC0 := Aside0.mk hc0; clear hr0 hc0; have HB := aZ (Below.refl w.heap.size w); have H : (laws_heldStringS.l0 k l0 a1 0) = some r := h; clear h; have H' := Aside0.mk H; clear H; go_enter Try.func44, Try.ntmps44; go_wp2
 go_loopg [1, 5] k (fun kq v1 v5 w' => ∃ (x1_1 : Int) (x5_1 : Int), v1 = .int .i64 x1_1 ∧ v5 = .int .i64 x5_1 ∧ Aside0 (laws_heldStringS.l0 kq l0 x1_1 x5_1 = some r) ∧ Aside0 (kq ≤ k) ∧ Aside0 (Below w.heap.size w w'))
 case atStart => exact ⟨(a1), (0), tZB, tZB, H', ⟨Nat.le_refl _⟩, ⟨bZ⟩⟩
 case round =>
  clear H'; obtain ⟨x1_1, x5_1, rfl, rfl, HA, HK1, HB⟩ := hrel
  cases gk with
  | zero => exact absurd HA.out (by simp [laws_heldStringS.l0])
  | succ k1 =>
   have H := HA.out; clear HA; simp only [laws_heldStringS.l0] at H
   by_cases c3 : x5_1 < (l0.length : Int)
   rotate_left
   ·rw [if_neg c3] at H; have c3b0 := decide_eq_false c3; clear c3; obtain rfl := Option.some.inj H; go_wp2; go_ret; exact ⟨tZC, bZ⟩
   rw [if_pos c3] at H; have c3b0 := decide_eq_true c3; clear c3
   by_cases c4 : 0 ≤ x5_1
   rotate_left
   ·rw [if_neg c4] at H; exact absurd H (by simp)
   rw [if_pos c4] at H; have c4b0 := decide_eq_true c4; clear c4; replace H := Option.bind_eq_some_iff.mp H; obtain ⟨t281, A50, H⟩ := H; replace H : (if (rdOf ByteArray.empty l0 x5_1).toList = t281.toList then (laws_heldStringS.l0 k1 l0 (wrap64 (x1_1 + 1)) (wrap64 (x5_1 + 1))) else (some (-1))) = some r := H; have A5 := Aside0.mk A50; clear A50
   by_cases c6 : (rdOf ByteArray.empty l0 x5_1).toList = t281.toList
   rotate_left
   ·rw [if_neg c6] at H; have c6b0 : ((rdOf ByteArray.empty l0 x5_1).toList == t281.toList) = false := beq_eq_false_iff_ne.mpr c6; have c6b1 : ((rdOf ByteArray.empty l0 x5_1).toList != t281.toList) = true := bne_iff_ne.mpr c6; obtain rfl := Option.some.inj H
    try go_wp2
    replace HB := aZ (below_drew1 HB.out); have p280 : 0 ≤ (x5_1 : Int) := of_decide_eq_true tZE; have q280 : x5_1 < (l0.length : Int) := of_decide_eq_true tZE; obtain ⟨ad280, e280, hx280_0⟩ := Kd.at_string HR0.out x5_1 p280 q280; have hw280_0 := hx280_0
    cases e280
    replace hx280_0 := cZ HB hx280_0; replace p280 := eq_true p280; replace q280 := eq_true q280; refine start_ (n := 7) (S := fun w' => w'.cell? (ad280.add (x5_1).toNat) = some (.string (rdOf ByteArray.empty l0 x5_1))) (ds := []) L0' kZ rfl rfl (((HB.out.cell (World.block_lt_of_cell? w _ hw280_0)).trans hw280_0)) (fun hHeld => ?_); generalize wr.drew = w9 at HB hx280_0 hHeld ⊢; refine pure_ (i := 0) (N := some 12) (v := ?_) (a' := ?_) L1' rfl rfl kZ (fun _ _ _ h => h) (Or.inl ⟨by rfl, ?_⟩) ?_ ?_; rotate_left
    ·intro w'; go_simp; with_reducible rfl
    rotate_left
    ·simp only [Act.put, sZ1, sZ2, sZ3, i64_w, i32_w]; rfl
    refine pure_ (i := 1) (N := some 13) (v := ?_) (a' := ?_) L2' rfl rfl kZ (fun _ _ _ h => h) (Or.inl ⟨by rfl, ?_⟩) ?_ ?_; rotate_left
    ·intro w'; go_simp; with_reducible rfl
    rotate_left
    ·simp only [Act.put, sZ1, sZ2, sZ3, i64_w, i32_w]; rfl
    refine pure_ (i := 2) (N := some 14) (v := ?_) (a' := ?_) L3' rfl rfl kZ (fun _ _ _ h => h) (Or.inl ⟨by rfl, ?_⟩) ?_ ?_; rotate_left
    ·intro w'; go_simp; with_reducible rfl
    rotate_left
    ·simp only [Act.put, sZ1, sZ2, sZ3, i64_w, i32_w]; rfl
    refine pure_ (i := 4) (N := some 16) (v := ?_) (a' := ?_) L4' rfl rfl kZ (fun _ _ _ h => h) (Or.inl ⟨by rfl, ?_⟩) ?_ ?_; rotate_left
    ·intro w'; go_simp; with_reducible rfl
    rotate_left
    ·simp only [Act.put, sZ1, sZ2, sZ3, i64_w, i32_w]; rfl
    refine take_ (i := 3) (N := some 15) (v := ?_) (a' := ?_) L5' rfl rfl kZ (fun _ _ _ h => h) (Or.inl ⟨by rfl, ?_⟩) hHeld ?_ ?_; rotate_left
    ·intro w' s0; go_simp; with_reducible rfl
    rotate_left
    ·simp only [Act.put, sZ1, sZ2, sZ3, i64_w, i32_w]; rfl
    refine one_ (i := 5) (N := some 17) L6' rfl rfl kZ (by decide) (fun K hK => ?_); refine goes_ Try.func94 kZ rfl #[.int .i64 x1_1] (by rfl) rfl rfl tZA ?_
    with_reducible refine (laws_markText.calls k1 x1_1 t281 _ A5.out).mono ?_
    rintro e w10 ⟨rfl, hb⟩
    refine ⟨_, rfl, ?_⟩; replace HB := aZ (below_step (lZB HB.out) hb); (try clear hb); (try clear hb2); (try clear hk); (try clear hi); refine hK.out _ _ (((HB.out.cell (World.block_lt_of_cell? w _ hw280_0)).trans hw280_0)) (fun hHeld => ?_); clear hK K; refine norm_ (a' := ?_) ?_ ?_; rotate_left
    ·show Act.put _ (some 17) _ = _
     simp only [Act.put, sZ1, sZ2, sZ3, i64_w, i32_w]; rfl
    refine pure_ (i := 6) (N := some 18) (v := ?_) (a' := ?_) L7' rfl rfl kZ (fun _ _ _ h => h) (Or.inl ⟨by rfl, ?_⟩) ?_ ?_; rotate_left
    ·intro w'; go_simp; with_reducible rfl
    rotate_left
    ·simp only [Act.put, sZ1, sZ2, sZ3, i64_w, i32_w]; rfl
    refine done_ kZ ?_
    try go_wp2
    go_ret; exact ⟨tZC, bZ⟩
   rw [if_pos c6] at H; have c6b0 : ((rdOf ByteArray.empty l0 x5_1).toList == t281.toList) = true := beq_iff_eq.mpr c6; have c6b1 : ((rdOf ByteArray.empty l0 x5_1).toList != t281.toList) = false := bne_eq_false_iff_eq.mpr c6; clear c6; have H' := Aside0.mk H; clear H
   try go_wp2
   replace HB := aZ (below_drew1 HB.out); have p280 : 0 ≤ (x5_1 : Int) := of_decide_eq_true tZE; have q280 : x5_1 < (l0.length : Int) := of_decide_eq_true tZE; obtain ⟨ad280, e280, hx280_0⟩ := Kd.at_string HR0.out x5_1 p280 q280; have hw280_0 := hx280_0
   cases e280
   replace hx280_0 := cZ HB hx280_0; replace p280 := eq_true p280; replace q280 := eq_true q280; refine start_ (n := 7) (S := fun w' => w'.cell? (ad280.add (x5_1).toNat) = some (.string (rdOf ByteArray.empty l0 x5_1))) (ds := []) L0' kZ rfl rfl (((HB.out.cell (World.block_lt_of_cell? w _ hw280_0)).trans hw280_0)) (fun hHeld => ?_); generalize wr.drew = w7 at HB hx280_0 hHeld ⊢; refine pure_ (i := 0) (N := some 12) (v := ?_) (a' := ?_) L1' rfl rfl kZ (fun _ _ _ h => h) (Or.inl ⟨by rfl, ?_⟩) ?_ ?_; rotate_left
   ·intro w'; go_simp; with_reducible rfl
   rotate_left
   ·simp only [Act.put, sZ1, sZ2, sZ3, i64_w, i32_w]; rfl
   refine pure_ (i := 1) (N := some 13) (v := ?_) (a' := ?_) L2' rfl rfl kZ (fun _ _ _ h => h) (Or.inl ⟨by rfl, ?_⟩) ?_ ?_; rotate_left
   ·intro w'; go_simp; with_reducible rfl
   rotate_left
   ·simp only [Act.put, sZ1, sZ2, sZ3, i64_w, i32_w]; rfl
   refine pure_ (i := 2) (N := some 14) (v := ?_) (a' := ?_) L3' rfl rfl kZ (fun _ _ _ h => h) (Or.inl ⟨by rfl, ?_⟩) ?_ ?_; rotate_left
   ·intro w'; go_simp; with_reducible rfl
   rotate_left
   ·simp only [Act.put, sZ1, sZ2, sZ3, i64_w, i32_w]; rfl
   refine pure_ (i := 4) (N := some 16) (v := ?_) (a' := ?_) L4' rfl rfl kZ (fun _ _ _ h => h) (Or.inl ⟨by rfl, ?_⟩) ?_ ?_; rotate_left
   ·intro w'; go_simp; with_reducible rfl
   rotate_left
   ·simp only [Act.put, sZ1, sZ2, sZ3, i64_w, i32_w]; rfl
   refine take_ (i := 3) (N := some 15) (v := ?_) (a' := ?_) L5' rfl rfl kZ (fun _ _ _ h => h) (Or.inl ⟨by rfl, ?_⟩) hHeld ?_ ?_; rotate_left
   ·intro w' s0; go_simp; with_reducible rfl
   rotate_left
   ·simp only [Act.put, sZ1, sZ2, sZ3, i64_w, i32_w]; rfl
   refine one_ (i := 5) (N := some 17) L6' rfl rfl kZ (by decide) (fun K hK => ?_); refine goes_ Try.func94 kZ rfl #[.int .i64 x1_1] (by rfl) rfl rfl tZA ?_
   with_reducible refine (laws_markText.calls k1 x1_1 t281 _ A5.out).mono ?_
   rintro e w8 ⟨rfl, hb⟩
   refine ⟨_, rfl, ?_⟩; replace HB := aZ (below_step (lZB HB.out) hb); (try clear hb); (try clear hb2); (try clear hk); (try clear hi); refine hK.out _ _ (((HB.out.cell (World.block_lt_of_cell? w _ hw280_0)).trans hw280_0)) (fun hHeld => ?_); clear hK K; refine norm_ (a' := ?_) ?_ ?_; rotate_left
   ·show Act.put _ (some 17) _ = _
    simp only [Act.put, sZ1, sZ2, sZ3, i64_w, i32_w]; rfl
   refine pure_ (i := 6) (N := some 18) (v := ?_) (a' := ?_) L7' rfl rfl kZ (fun _ _ _ h => h) (Or.inl ⟨by rfl, ?_⟩) ?_ ?_; rotate_left
   ·intro w'; go_simp; with_reducible rfl
   rotate_left
   ·simp only [Act.put, sZ1, sZ2, sZ3, i64_w, i32_w]; rfl
   refine done_ kZ ?_
   try go_wp2
   go_roundg k1
   case measure => have := HK1.out; omega
   case rel => exact ⟨(wrap64 (x1_1 + 1)), (wrap64 (x5_1 + 1)), tZB, tZB, H', ⟨by have := HK1.out; omega⟩, ⟨bZ⟩⟩
def laws_heldStepS.l0 : Nat → List (S119) → Int → Int → Option (Int)
  | 0, _, _, _ => none
  | k + 1, x0, x1, x5 => if x5 < (x0.length : Int) then (if 0 ≤ x5 then (if ((rd_T119 x0 x5).f0) = x1 then ((laws_heldStringS.f k ((rd_T119 x0 x5).f1) (wrap64 (x1 + 1))).bind fun t284 => (if t284 < 0 then (some (-1)) else (laws_heldStepS.l0 k x0 t284 (wrap64 (x5 + 1))))) else (some (-1))) else (none)) else (some x1)
def laws_heldStepS.f (k : Nat) (l0 : List (S119)) (a1 : Int) : Option (Int) := laws_heldStepS.l0 k l0 a1 0
theorem laws_heldStepS.mono_l : ∀ k, (∀ y0 y1 y2, LeO (laws_heldStepS.l0 k y0 y1 y2) (laws_heldStepS.l0 (k + 1) y0 y1 y2))
  | 0 => fun _ _ _ r h => by simp [laws_heldStepS.l0] at h
  | k + 1 => by
    have ih0 := laws_heldStepS.mono_l k
    · intro y0 y1 y2
      unfold laws_heldStepS.l0
      repeat' first
      | (with_reducible exact ih0 _ _ _)
      | (with_reducible exact laws_heldStringS.mono _ _ _)
      | (with_reducible exact LeO.refl _)
      | (with_reducible exact LeO.none _)
      | (with_reducible refine LeO.ite ?_ ?_)
      | (with_reducible refine LeO.bind ?_ (fun _ => ?_))
      | exact ih0 _ _ _
      | exact laws_heldStringS.mono _ _ _
      | exact LeO.none _
      | refine LeO.ite ?_ ?_
      | refine LeO.bind ?_ (fun _ => ?_)
theorem laws_heldStepS.mono : ∀ a0 a1 k, LeO (laws_heldStepS.f k a0 a1) (laws_heldStepS.f (k + 1) a0 a1) := by
 intro a0 a1 k
 have ih0 := laws_heldStepS.mono_l k
 unfold laws_heldStepS.f
 repeat' first
     | (with_reducible exact ih0 _ _ _)
     | (with_reducible exact laws_heldStringS.mono _ _ _)
     | (with_reducible exact LeO.refl _)
     | (with_reducible exact LeO.none _)
     | (with_reducible refine LeO.ite ?_ ?_)
     | (with_reducible refine LeO.bind ?_ (fun _ => ?_))
     | exact ih0 _ _ _
     | exact laws_heldStringS.mono _ _ _
     | exact LeO.none _
     | refine LeO.ite ?_ ?_
     | refine LeO.bind ?_ (fun _ => ?_)
set_option maxHeartbeats 8000000 in
set_option maxRecDepth 100000 in
theorem laws_heldStepS.calls (k : Nat) (A0 : Option Addr) (c0 : Nat) (l0 : List (S119)) (a1 : Int) (r : Int) (w : World) (hr0 : Kd.C k119 w A0 l0.length l0) (hc0 : l0.length ≤ c0) (h : laws_heldStepS.f k l0 a1 = some r) :
    Calls Try.prog 39 #[.slice A0 l0.length c0, .int .i64 a1] w fun e w' => e = .returned (.int .i64 r) ∧ Below w.heap.size w w' := by
 have HR0 := Aside0.mk hr0; have HC0 := Aside0.mk hc0; clear hr0 hc0; have HB := aZ (Below.refl w.heap.size w); have H : (laws_heldStepS.l0 k l0 a1 0) = some r := h; clear h; have H' := Aside0.mk H; clear H; go_enter Try.func39, Try.ntmps39; go_wp2
 go_loopg [1, 5] k (fun kq v1 v5 w' => ∃ (x1_1 : Int) (x5_1 : Int), v1 = .int .i64 x1_1 ∧ v5 = .int .i64 x5_1 ∧ Aside0 (laws_heldStepS.l0 kq l0 x1_1 x5_1 = some r) ∧ Aside0 (kq ≤ k) ∧ Aside0 (Below w.heap.size w w'))
 case atStart => exact ⟨(a1), (0), tZB, tZB, H', ⟨Nat.le_refl _⟩, ⟨bZ⟩⟩
 case round =>
  clear H'; obtain ⟨x1_1, x5_1, rfl, rfl, HA, HK1, HB⟩ := hrel
  cases gk with
  | zero => exact absurd HA.out (by simp [laws_heldStepS.l0])
  | succ k1 =>
   have H := HA.out; clear HA; simp only [laws_heldStepS.l0] at H
   by_cases c3 : x5_1 < (l0.length : Int)
   rotate_left
   ·rw [if_neg c3] at H; have c3b0 := decide_eq_false c3; clear c3; obtain rfl := Option.some.inj H; go_wp2; go_ret; exact ⟨tZC, bZ⟩
   rw [if_pos c3] at H; have c3b0 := decide_eq_true c3; clear c3
   by_cases c4 : 0 ≤ x5_1
   rotate_left
   ·rw [if_neg c4] at H; exact absurd H (by simp)
   rw [if_pos c4] at H; have c4b0 := decide_eq_true c4; clear c4
   by_cases c5 : ((rd_T119 l0 x5_1).f0) = x1_1
   rotate_left
   ·rw [if_neg c5] at H; have c5b0 : (((rd_T119 l0 x5_1).f0) == x1_1) = false := beq_eq_false_iff_ne.mpr c5; have c5b1 : (((rd_T119 l0 x5_1).f0) != x1_1) = true := bne_iff_ne.mpr c5; obtain rfl := Option.some.inj H; have p282 : 0 ≤ (x5_1 : Int) := of_decide_eq_true tZE; have q282 : x5_1 < (l0.length : Int) := of_decide_eq_true tZE; obtain ⟨ad282, A282_1, c282_1, e282, hx282_0, hx282_1, hl282_1, hi282_1⟩ := at_T119 HR0.out x5_1 p282 q282; have hz282_1 := hx282_1
    cases e282
    replace hx282_0 := cZ HB hx282_0; replace hx282_1 := cZ HB hx282_1; have HR282_1 := Aside0.mk hi282_1; have HC282_1 := Aside0.mk hl282_1; clear hi282_1 hl282_1; replace p282 := eq_true p282; replace q282 := eq_true q282; go_wp2; go_ret; exact ⟨tZC, bZ⟩
   rw [if_pos c5] at H; have c5b0 : (((rd_T119 l0 x5_1).f0) == x1_1) = true := beq_iff_eq.mpr c5; have c5b1 : (((rd_T119 l0 x5_1).f0) != x1_1) = false := bne_eq_false_iff_eq.mpr c5; clear c5; replace H := Option.bind_eq_some_iff.mp H; obtain ⟨t284, A60, H⟩ := H; replace H : (if t284 < 0 then (some (-1)) else (laws_heldStepS.l0 k1 l0 t284 (wrap64 (x5_1 + 1)))) = some r := H; have A6 := Aside0.mk A60; clear A60
   by_cases c7 : t284 < 0
   ·rw [if_pos c7] at H; have c7b0 := decide_eq_true c7; clear c7; obtain rfl := Option.some.inj H; have p282 : 0 ≤ (x5_1 : Int) := of_decide_eq_true tZE; have q282 : x5_1 < (l0.length : Int) := of_decide_eq_true tZE; obtain ⟨ad282, A282_1, c282_1, e282, hx282_0, hx282_1, hl282_1, hi282_1⟩ := at_T119 HR0.out x5_1 p282 q282; have hz282_1 := hx282_1
    cases e282
    replace hx282_0 := cZ HB hx282_0; replace hx282_1 := cZ HB hx282_1; have HR282_1 := Aside0.mk hi282_1; have HC282_1 := Aside0.mk hl282_1; clear hi282_1 hl282_1; replace p282 := eq_true p282; replace q282 := eq_true q282; have p283 : 0 ≤ (x5_1 : Int) := of_decide_eq_true tZE; have q283 : x5_1 < (l0.length : Int) := of_decide_eq_true tZE; obtain ⟨ad283, A283_1, c283_1, e283, hx283_0, hx283_1, hl283_1, hi283_1⟩ := at_T119 HR0.out x5_1 p283 q283; have hz283_1 := hx283_1; obtain rfl : ad282 = ad283 := (by injection e283); replace hx283_0 := cZ HB hx283_0; replace hx283_1 := cZ HB hx283_1; have HR283_1 := Aside0.mk hi283_1; have HC283_1 := Aside0.mk hl283_1; clear hi283_1 hl283_1; replace p283 := eq_true p283; replace q283 := eq_true q283; have ea_ := Option.some.inj (hz282_1.symm.trans hz283_1)
    injection ea_ with ea_ en_ ec_
    subst ea_; subst ec_; clear en_
    go_wp2_with (first | ((with_reducible refine gate_callee (f := 44) rfl ?_); refine goesL_ (some 27) rfl rfl Try.func44 kZ rfl #[.slice A282_1 ((rd_T119 l0 x5_1).f1).length c282_1, .int .i64 (wrap64 (x1_1 + 1))] rfl tZA ?_; (with_reducible refine (laws_heldStringS.calls k1 _ _ ((rd_T119 l0 x5_1).f1) (wrap64 (x1_1 + 1)) t284 _ ?side1 ?side2 A6.out).mono ?_); (case side1 => repeat (first | exact (Kd.C_below HR283_1.out HB.out) | (with_reducible refine Kd.C_alloc ?_ _) | (with_reducible refine Kd.C_drewN ?_ _) | (with_reducible refine Kd.C_drew ?_))); (case side2 => exact HC283_1.out); rintro e w8 ⟨rfl, hb⟩; refine ⟨_, rfl, ?_⟩; replace HB := aZ (below_step (lZB HB.out) hb); (try clear hb); (try clear hb2); (try clear hk); (try clear hi)))
    go_ret; exact ⟨tZC, bZ⟩
   rw [if_neg c7] at H; have c7b0 := decide_eq_false c7; clear c7; have H' := Aside0.mk H; clear H; have p282 : 0 ≤ (x5_1 : Int) := of_decide_eq_true tZE; have q282 : x5_1 < (l0.length : Int) := of_decide_eq_true tZE; obtain ⟨ad282, A282_1, c282_1, e282, hx282_0, hx282_1, hl282_1, hi282_1⟩ := at_T119 HR0.out x5_1 p282 q282; have hz282_1 := hx282_1
   cases e282
   replace hx282_0 := cZ HB hx282_0; replace hx282_1 := cZ HB hx282_1; have HR282_1 := Aside0.mk hi282_1; have HC282_1 := Aside0.mk hl282_1; clear hi282_1 hl282_1; replace p282 := eq_true p282; replace q282 := eq_true q282; have p283 : 0 ≤ (x5_1 : Int) := of_decide_eq_true tZE; have q283 : x5_1 < (l0.length : Int) := of_decide_eq_true tZE; obtain ⟨ad283, A283_1, c283_1, e283, hx283_0, hx283_1, hl283_1, hi283_1⟩ := at_T119 HR0.out x5_1 p283 q283; have hz283_1 := hx283_1; obtain rfl : ad282 = ad283 := (by injection e283); replace hx283_0 := cZ HB hx283_0; replace hx283_1 := cZ HB hx283_1; have HR283_1 := Aside0.mk hi283_1; have HC283_1 := Aside0.mk hl283_1; clear hi283_1 hl283_1; replace p283 := eq_true p283; replace q283 := eq_true q283; have ea_ := Option.some.inj (hz282_1.symm.trans hz283_1)
   injection ea_ with ea_ en_ ec_
   subst ea_; subst ec_; clear en_
   go_wp2_with (first | ((with_reducible refine gate_callee (f := 44) rfl ?_); refine goesL_ (some 27) rfl rfl Try.func44 kZ rfl #[.slice A282_1 ((rd_T119 l0 x5_1).f1).length c282_1, .int .i64 (wrap64 (x1_1 + 1))] rfl tZA ?_; (with_reducible refine (laws_heldStringS.calls k1 _ _ ((rd_T119 l0 x5_1).f1) (wrap64 (x1_1 + 1)) t284 _ ?side1 ?side2 A6.out).mono ?_); (case side1 => repeat (first | exact (Kd.C_below HR283_1.out HB.out) | (with_reducible refine Kd.C_alloc ?_ _) | (with_reducible refine Kd.C_drewN ?_ _) | (with_reducible refine Kd.C_drew ?_))); (case side2 => exact HC283_1.out); rintro e w9 ⟨rfl, hb⟩; refine ⟨_, rfl, ?_⟩; replace HB := aZ (below_step (lZB HB.out) hb); (try clear hb); (try clear hb2); (try clear hk); (try clear hi)))
   go_roundg k1
   case measure => have := HK1.out; omega
   case rel => exact ⟨(t284), (wrap64 (x5_1 + 1)), tZB, tZB, H', ⟨by have := HK1.out; omega⟩, ⟨bZ⟩⟩
mutual
def laws_FnExactParseFlow.j0 : Nat → ByteArray → List (S119) → Int → List (S119) → Bool → Option (Bool)
  | 0, _, _, _, _, _ => none
  | k + 1, x0, x3, x4, x5, x32 => if x32 = true then (some false) else ((laws_markStepS.f k x5 1).bind fun bt295 => ((laws_heldStepS.f k bt295.2 1).bind fun t297 => (if t297 < 0 then (some false) else (if t297 = bt295.1 then ((impl_ParseFlow.f k x0).bind fun bt298 => ((laws_eqStepS.f k bt298.1 x3).bind fun t302 => (if t302 = true then (laws_FnExactParseFlow.j1 k bt295.2 bt295.1 (bt298.2 != x4)) else (laws_FnExactParseFlow.j1 k bt295.2 bt295.1 true)))) else (some false)))))
def laws_FnExactParseFlow.j1 : Nat → List (S119) → Int → Bool → Option (Bool)
  | 0, _, _, _ => none
  | k + 1, x5, x7, x57 => if x57 = true then (some false) else ((laws_heldStepS.f k x5 1).bind fun t303 => (if t303 < 0 then (some false) else (if t303 = x7 then (some true) else (some false))))
end
def laws_FnExactParseFlow.f (k : Nat) (a0 : ByteArray) : Option (Bool) := if (a0.size : Int) > 1048576 then (some true) else ((spec_ParseFlow.f k a0).bind fun bt285 => ((impl_ParseFlow.f k a0).bind fun bt290 => ((laws_eqStepS.f k bt290.1 bt285.1).bind fun t294 => (if t294 = true then (laws_FnExactParseFlow.j0 k a0 bt285.1 bt285.2 bt290.1 (bt290.2 != bt285.2)) else (laws_FnExactParseFlow.j0 k a0 bt285.1 bt285.2 bt290.1 true)))))
theorem laws_FnExactParseFlow.mono_l : ∀ k, (∀ y0 y1 y2 y3 y4, LeO (laws_FnExactParseFlow.j0 k y0 y1 y2 y3 y4) (laws_FnExactParseFlow.j0 (k + 1) y0 y1 y2 y3 y4)) ∧ (∀ y0 y1 y2, LeO (laws_FnExactParseFlow.j1 k y0 y1 y2) (laws_FnExactParseFlow.j1 (k + 1) y0 y1 y2))
  | 0 => ⟨fun _ _ _ _ _ r h => by simp [laws_FnExactParseFlow.j0] at h, fun _ _ _ r h => by simp [laws_FnExactParseFlow.j1] at h⟩
  | k + 1 => by
    obtain ⟨ih0, ih1⟩ := laws_FnExactParseFlow.mono_l k
    refine ⟨?_, ?_⟩
    · intro y0 y1 y2 y3 y4
      unfold laws_FnExactParseFlow.j0
      repeat' first
      | (with_reducible exact ih0 _ _ _ _ _)
      | (with_reducible exact ih1 _ _ _)
      | (with_reducible exact impl_ParseFlow.mono _ _)
      | (with_reducible exact laws_eqStepS.mono _ _ _)
      | (with_reducible exact laws_heldStepS.mono _ _ _)
      | (with_reducible exact laws_markStepS.mono _ _ _)
      | (with_reducible exact spec_ParseFlow.mono _ _)
      | (with_reducible exact LeO.refl _)
      | (with_reducible exact LeO.none _)
      | (with_reducible refine LeO.ite ?_ ?_)
      | (with_reducible refine LeO.bind ?_ (fun _ => ?_))
      | exact ih0 _ _ _ _ _
      | exact ih1 _ _ _
      | exact impl_ParseFlow.mono _ _
      | exact laws_eqStepS.mono _ _ _
      | exact laws_heldStepS.mono _ _ _
      | exact laws_markStepS.mono _ _ _
      | exact spec_ParseFlow.mono _ _
      | exact LeO.none _
      | refine LeO.ite ?_ ?_
      | refine LeO.bind ?_ (fun _ => ?_)
    · intro y0 y1 y2
      unfold laws_FnExactParseFlow.j1
      repeat' first
      | (with_reducible exact ih0 _ _ _ _ _)
      | (with_reducible exact ih1 _ _ _)
      | (with_reducible exact impl_ParseFlow.mono _ _)
      | (with_reducible exact laws_eqStepS.mono _ _ _)
      | (with_reducible exact laws_heldStepS.mono _ _ _)
      | (with_reducible exact laws_markStepS.mono _ _ _)
      | (with_reducible exact spec_ParseFlow.mono _ _)
      | (with_reducible exact LeO.refl _)
      | (with_reducible exact LeO.none _)
      | (with_reducible refine LeO.ite ?_ ?_)
      | (with_reducible refine LeO.bind ?_ (fun _ => ?_))
      | exact ih0 _ _ _ _ _
      | exact ih1 _ _ _
      | exact impl_ParseFlow.mono _ _
      | exact laws_eqStepS.mono _ _ _
      | exact laws_heldStepS.mono _ _ _
      | exact laws_markStepS.mono _ _ _
      | exact spec_ParseFlow.mono _ _
      | exact LeO.none _
      | refine LeO.ite ?_ ?_
      | refine LeO.bind ?_ (fun _ => ?_)
theorem laws_FnExactParseFlow.mono : ∀ a0 k, LeO (laws_FnExactParseFlow.f k a0) (laws_FnExactParseFlow.f (k + 1) a0) := by
 intro a0 k
 obtain ⟨ih0, ih1⟩ := laws_FnExactParseFlow.mono_l k
 unfold laws_FnExactParseFlow.f
 repeat' first
     | (with_reducible exact ih0 _ _ _ _ _)
     | (with_reducible exact ih1 _ _ _)
     | (with_reducible exact impl_ParseFlow.mono _ _)
     | (with_reducible exact laws_eqStepS.mono _ _ _)
     | (with_reducible exact laws_heldStepS.mono _ _ _)
     | (with_reducible exact laws_markStepS.mono _ _ _)
     | (with_reducible exact spec_ParseFlow.mono _ _)
     | (with_reducible exact LeO.refl _)
     | (with_reducible exact LeO.none _)
     | (with_reducible refine LeO.ite ?_ ?_)
     | (with_reducible refine LeO.bind ?_ (fun _ => ?_))
     | exact ih0 _ _ _ _ _
     | exact ih1 _ _ _
     | exact impl_ParseFlow.mono _ _
     | exact laws_eqStepS.mono _ _ _
     | exact laws_heldStepS.mono _ _ _
     | exact laws_markStepS.mono _ _ _
     | exact spec_ParseFlow.mono _ _
     | exact LeO.none _
     | refine LeO.ite ?_ ?_
     | refine LeO.bind ?_ (fun _ => ?_)
set_option maxHeartbeats 8000000 in
set_option maxRecDepth 100000 in
theorem laws_FnExactParseFlow.calls (k : Nat) (a0 : ByteArray) (r : Bool) (w : World) (h : laws_FnExactParseFlow.f k a0 = some r) :
    Calls Try.prog 6 #[.string a0] w fun e w' => e = .returned (.bool r) ∧ Below w.heap.size w w' := by
 have HB := aZ (Below.refl w.heap.size w); have H : (if (a0.size : Int) > 1048576 then (some true) else ((spec_ParseFlow.f k a0).bind fun bt285 => ((impl_ParseFlow.f k a0).bind fun bt290 => ((laws_eqStepS.f k bt290.1 bt285.1).bind fun t294 => (if t294 = true then (laws_FnExactParseFlow.j0 k a0 bt285.1 bt285.2 bt290.1 (bt290.2 != bt285.2)) else (laws_FnExactParseFlow.j0 k a0 bt285.1 bt285.2 bt290.1 true)))))) = some r := h; clear h
 by_cases c2 : (a0.size : Int) > 1048576
 ·rw [if_pos c2] at H; have c2b0 : decide (1048576 < (a0.size : Int)) = true := decide_eq_true c2; have c2b1 : decide (1048576 < a0.size) = true := decide_eq_true (by omega); clear c2; obtain rfl := Option.some.inj H; go_enter Try.func6, Try.ntmps6; go_wp2; go_ret; exact ⟨tZC, bZ⟩
 rw [if_neg c2] at H; have c2b0 : decide (1048576 < (a0.size : Int)) = false := decide_eq_false c2; have c2b1 : decide (1048576 < a0.size) = false := decide_eq_false (by omega); clear c2; replace H := Option.bind_eq_some_iff.mp H; obtain ⟨⟨t285, t288⟩, A30, H⟩ := H; replace H : ((impl_ParseFlow.f k a0).bind fun bt290 => ((laws_eqStepS.f k bt290.1 t285).bind fun t294 => (if t294 = true then (laws_FnExactParseFlow.j0 k a0 t285 t288 bt290.1 (bt290.2 != t288)) else (laws_FnExactParseFlow.j0 k a0 t285 t288 bt290.1 true)))) = some r := H; have A3 := Aside0.mk A30; clear A30; replace H := Option.bind_eq_some_iff.mp H; obtain ⟨⟨t290, t291⟩, A40, H⟩ := H; replace H : ((laws_eqStepS.f k t290 t285).bind fun t294 => (if t294 = true then (laws_FnExactParseFlow.j0 k a0 t285 t288 t290 (t291 != t288)) else (laws_FnExactParseFlow.j0 k a0 t285 t288 t290 true))) = some r := H; have A4 := Aside0.mk A40
 clear A40; have HC5 := Aside0.mk H; clear H; go_enter Try.func6, Try.ntmps6
 go_upto_region 5 with (first | ((with_reducible refine gate_callee (f := 36) rfl ?_); refine goesL_ (some 16) rfl rfl Try.func36 kZ rfl #[.string a0] rfl tZA ?_; (with_reducible refine (spec_ParseFlow.calls k a0 t285 t288 _ A3.out).mono ?_); rintro e w6 ⟨v286, rfl, ho0, hb⟩; refine ⟨_, rfl, ?_⟩; have HO287 := aZ (Kd.N_lower (Kd.N_mono (ok' := fun k_ => True) ho0 (fun k_ hk_ => trivial)) (below_size (lZB HB.out))); replace HB := aZ (below_step (lZB HB.out) hb); (try clear hb); (try clear hb2); (try clear hk); (try clear hi); (try clear ho0); obtain ⟨Aq289, cq289, eq289⟩ := Kd.N_slice HO287.out; subst eq289; have HRq289 := aZ (Kd.N_reads' HO287.out).2.2; have HCq289 := aZ (Kd.N_reads' HO287.out).2.1; have HB0_ := HB; clear HB HO287; generalize w6 = w at *; have HB := aZ (Below.refl w.heap.size w)) | ((with_reducible refine gate_callee (f := 37) rfl ?_); refine goesL_ (some 21) rfl rfl Try.func37 kZ rfl #[.string a0] rfl tZA ?_; (with_reducible refine (impl_ParseFlow.calls k a0 t290 t291 _ A4.out).mono ?_); rintro e w7 ⟨v292, rfl, ho0, hb⟩; refine ⟨_, rfl, ?_⟩; have HO293 := aZ (Kd.S_lower ho0 (below_size (lZB HB.out))); replace HB := aZ (below_step (lZB HB.out) hb); (try clear hb); (try clear hb2); (try clear hk); (try clear hi); (try clear ho0)))
 (try simp only [Act.put, sZ1, sZ2, sZ3])
 go_cut [32] (fun v32 wc => ∃ (kq : Nat) (x32_4 : Bool), v32 = .bool x32_4 ∧ Aside0 (laws_FnExactParseFlow.j0 kq a0 t285 t288 t290 x32_4 = some r) ∧ Aside0 (kq ≤ k) ∧ Aside0 (Kd.S k119 119 wc w.heap.size (fun _ => True) v292 t290) ∧ Aside0 (Below w.heap.size w wc))
 case first =>
  have H := HC5.out; clear HC5; replace H := Option.bind_eq_some_iff.mp H; obtain ⟨t294, A80, H⟩ := H; replace H : (if t294 = true then (laws_FnExactParseFlow.j0 k a0 t285 t288 t290 (t291 != t288)) else (laws_FnExactParseFlow.j0 k a0 t285 t288 t290 true)) = some r := H; have A8 := Aside0.mk A80; clear A80
  by_cases c9 : t294 = true
  ·subst c9; rw [if_pos rfl] at H; have H' := Aside0.mk H; clear H; obtain ⟨Ao10, co10, eo10⟩ := Kd.S_slice HO293.out; subst eo10
   go_wp2_with (first | ((with_reducible refine gate_callee (f := 26) rfl ?_); refine goesL_ (some 26) rfl rfl Try.func26 kZ rfl #[.slice Ao10 t290.length co10, .slice Aq289 t285.length cq289] rfl tZA ?_; (with_reducible refine (laws_eqStepS.calls k _ _ t290 _ _ t285 true _ ?side1 ?side2 ?side3 ?side4 A8.out).mono ?_); (case side1 => repeat (first | exact (Kd.S_reads' HO293.out).2.2 | (with_reducible refine Kd.C_alloc ?_ _) | (with_reducible refine Kd.C_drewN ?_ _) | (with_reducible refine Kd.C_drew ?_))); (case side2 => exact (Kd.S_reads' HO293.out).2.1); (case side3 => repeat (first | exact (Kd.C_below HRq289.out HB.out) | (with_reducible refine Kd.C_alloc ?_ _) | (with_reducible refine Kd.C_drewN ?_ _) | (with_reducible refine Kd.C_drew ?_))); (case side4 => exact HCq289.out); rintro e w11 ⟨rfl, hb⟩; refine ⟨_, rfl, ?_⟩; replace HO293 := aZ (Kd.S_below (lZS HO293.out) hb); replace HB := aZ (below_step (lZB HB.out) hb); (try clear hb); (try clear hb2); (try clear hk); (try clear hi)))
   go_meet
   case rel => exact ⟨_, ((t291 != t288)), tZB, H', ⟨by first | omega | exact Nat.le_refl _⟩, ⟨lZS HO293.out⟩, ⟨bZ⟩⟩
  replace c9 := Bool.eq_false_iff.mpr c9; subst c9; rw [if_neg Bool.false_ne_true] at H; have H' := Aside0.mk H; clear H; obtain ⟨Ao12, co12, eo12⟩ := Kd.S_slice HO293.out; subst eo12
  go_wp2_with (first | ((with_reducible refine gate_callee (f := 26) rfl ?_); refine goesL_ (some 26) rfl rfl Try.func26 kZ rfl #[.slice Ao12 t290.length co12, .slice Aq289 t285.length cq289] rfl tZA ?_; (with_reducible refine (laws_eqStepS.calls k _ _ t290 _ _ t285 false _ ?side1 ?side2 ?side3 ?side4 A8.out).mono ?_); (case side1 => repeat (first | exact (Kd.S_reads' HO293.out).2.2 | (with_reducible refine Kd.C_alloc ?_ _) | (with_reducible refine Kd.C_drewN ?_ _) | (with_reducible refine Kd.C_drew ?_))); (case side2 => exact (Kd.S_reads' HO293.out).2.1); (case side3 => repeat (first | exact (Kd.C_below HRq289.out HB.out) | (with_reducible refine Kd.C_alloc ?_ _) | (with_reducible refine Kd.C_drewN ?_ _) | (with_reducible refine Kd.C_drew ?_))); (case side4 => exact HCq289.out); rintro e w13 ⟨rfl, hb⟩; refine ⟨_, rfl, ?_⟩; replace HO293 := aZ (Kd.S_below (lZS HO293.out) hb); replace HB := aZ (below_step (lZB HB.out) hb); (try clear hb); (try clear hb2); (try clear hk); (try clear hi)))
  go_meet
  case rel => exact ⟨_, (true), tZB, H', ⟨by first | omega | exact Nat.le_refl _⟩, ⟨lZS HO293.out⟩, ⟨bZ⟩⟩
 case rest =>
  clear HC5; (try clear c2 c2b0 c2b1); obtain ⟨kq, x32_4, rfl, HA, HJ4, HO_5, HB⟩ := hcut
  cases kq with
  | zero => exact absurd HA.out (by simp [laws_FnExactParseFlow.j0])
  | succ kj4 =>
   have H := HA.out; clear HA; simp only [laws_FnExactParseFlow.j0] at H
   by_cases c14 : x32_4 = true
   ·subst c14; rw [if_pos rfl] at H; obtain rfl := Option.some.inj H; go_wp2; go_ret; exact ⟨tZC, below_step HB0_.out (lZB HB.out)⟩
   replace c14 := Bool.eq_false_iff.mpr c14; subst c14; rw [if_neg Bool.false_ne_true] at H; replace H := Option.bind_eq_some_iff.mp H; obtain ⟨⟨t295, t296⟩, A150, H⟩ := H; replace H : ((laws_heldStepS.f kj4 t296 1).bind fun t297 => (if t297 < 0 then (some false) else (if t297 = t295 then ((impl_ParseFlow.f kj4 a0).bind fun bt298 => ((laws_eqStepS.f kj4 bt298.1 t285).bind fun t302 => (if t302 = true then (laws_FnExactParseFlow.j1 kj4 t296 t295 (bt298.2 != t288)) else (laws_FnExactParseFlow.j1 kj4 t296 t295 true)))) else (some false)))) = some r := H; have A15 := Aside0.mk A150; clear A150; replace H := Option.bind_eq_some_iff.mp H; obtain ⟨t297, A160, H⟩ := H
   replace H : (if t297 < 0 then (some false) else (if t297 = t295 then ((impl_ParseFlow.f kj4 a0).bind fun bt298 => ((laws_eqStepS.f kj4 bt298.1 t285).bind fun t302 => (if t302 = true then (laws_FnExactParseFlow.j1 kj4 t296 t295 (bt298.2 != t288)) else (laws_FnExactParseFlow.j1 kj4 t296 t295 true)))) else (some false))) = some r := H; have A16 := Aside0.mk A160; clear A160
   by_cases c17 : t297 < 0
   ·rw [if_pos c17] at H; have c17b0 := decide_eq_true c17; clear c17; obtain rfl := Option.some.inj H; obtain ⟨Ao18, co18, eo18⟩ := Kd.S_slice HO_5.out; subst eo18
    go_wp2_with (first | ((with_reducible refine gate_callee (f := 38) rfl ?_); refine goesL_ (some 35) rfl rfl Try.func38 kZ rfl #[.slice Ao18 t290.length co18, .int .i64 1] rfl (by (try simp only [List.map_toArray, List.map_cons, List.map_nil]); first | done | rfl) ?_; (refine (laws_markStepS.calls kj4 _ (.slice Ao18 t290.length co18) t290 1 t295 t296 w _ (lZB HB.out) (fun _ hk_ => hk_.2.1) (Kd.S_bound (lZS HO_5.out)) A15.out).mono ?_); rintro e w19 ⟨rfl, hs_, hb, hk_⟩; refine ⟨_, rfl, ?_⟩; replace HO_5 := aZ (Kd.S_mono hs_ (fun _ hk_ => hk_.1)); replace HB := aZ (hb); clear hb hs_ hk_) | ((with_reducible refine gate_callee (f := 39) rfl ?_); refine goesL_ (some 38) rfl rfl Try.func39 kZ rfl #[.slice Ao18 t296.length co18, .int .i64 1] rfl (by (try simp only [List.map_toArray, List.map_cons, List.map_nil]); first | done | (rw [show t296.length = t290.length from (Kd.S_reads' HO_5.out).1.symm] <;> rfl) | rfl | (simp only [List.length_drop, List.length_take]; rfl)) ?_; (with_reducible refine (laws_heldStepS.calls kj4 _ _ t296 1 t297 _ ?side1 ?side2 A16.out).mono ?_); (case side1 => repeat (first | exact (Kd.S_reads' HO_5.out).2.2 | (with_reducible refine Kd.C_alloc ?_ _) | (with_reducible refine Kd.C_drewN ?_ _) | (with_reducible refine Kd.C_drew ?_))); (case side2 => rw [show t296.length = t290.length from (Kd.S_reads' HO_5.out).1.symm]; exact (Kd.S_reads' HO_5.out).2.1); rintro e w20 ⟨rfl, hb⟩; refine ⟨_, rfl, ?_⟩; replace HO_5 := aZ (Kd.S_below (lZS HO_5.out) hb); replace HB := aZ (below_step (lZB HB.out) hb); (try clear hb); (try clear hb2); (try clear hk); (try clear hi)))
    go_ret; exact ⟨tZC, below_step HB0_.out (lZB HB.out)⟩
   rw [if_neg c17] at H; have c17b0 := decide_eq_false c17; clear c17
   by_cases c21 : t297 = t295
   rotate_left
   ·rw [if_neg c21] at H; have c21b0 : (t297 == t295) = false := beq_eq_false_iff_ne.mpr c21; have c21b1 : (t297 != t295) = true := bne_iff_ne.mpr c21; obtain rfl := Option.some.inj H; obtain ⟨Ao41, co41, eo41⟩ := Kd.S_slice HO_5.out; subst eo41
    go_wp2_with (first | ((with_reducible refine gate_callee (f := 38) rfl ?_); refine goesL_ (some 35) rfl rfl Try.func38 kZ rfl #[.slice Ao41 t290.length co41, .int .i64 1] rfl (by (try simp only [List.map_toArray, List.map_cons, List.map_nil]); first | done | rfl) ?_; (refine (laws_markStepS.calls kj4 _ (.slice Ao41 t290.length co41) t290 1 t295 t296 w _ (lZB HB.out) (fun _ hk_ => hk_.2.1) (Kd.S_bound (lZS HO_5.out)) A15.out).mono ?_); rintro e w42 ⟨rfl, hs_, hb, hk_⟩; refine ⟨_, rfl, ?_⟩; replace HO_5 := aZ (Kd.S_mono hs_ (fun _ hk_ => hk_.1)); replace HB := aZ (hb); clear hb hs_ hk_) | ((with_reducible refine gate_callee (f := 39) rfl ?_); refine goesL_ (some 38) rfl rfl Try.func39 kZ rfl #[.slice Ao41 t296.length co41, .int .i64 1] rfl (by (try simp only [List.map_toArray, List.map_cons, List.map_nil]); first | done | (rw [show t296.length = t290.length from (Kd.S_reads' HO_5.out).1.symm] <;> rfl) | rfl | (simp only [List.length_drop, List.length_take]; rfl)) ?_; (with_reducible refine (laws_heldStepS.calls kj4 _ _ t296 1 t297 _ ?side1 ?side2 A16.out).mono ?_); (case side1 => repeat (first | exact (Kd.S_reads' HO_5.out).2.2 | (with_reducible refine Kd.C_alloc ?_ _) | (with_reducible refine Kd.C_drewN ?_ _) | (with_reducible refine Kd.C_drew ?_))); (case side2 => rw [show t296.length = t290.length from (Kd.S_reads' HO_5.out).1.symm]; exact (Kd.S_reads' HO_5.out).2.1); rintro e w43 ⟨rfl, hb⟩; refine ⟨_, rfl, ?_⟩; replace HO_5 := aZ (Kd.S_below (lZS HO_5.out) hb); replace HB := aZ (below_step (lZB HB.out) hb); (try clear hb); (try clear hb2); (try clear hk); (try clear hi)))
    go_ret; exact ⟨tZC, below_step HB0_.out (lZB HB.out)⟩
   rw [if_pos c21] at H; have c21b0 : (t297 == t295) = true := beq_iff_eq.mpr c21; have c21b1 : (t297 != t295) = false := bne_eq_false_iff_eq.mpr c21; clear c21; replace H := Option.bind_eq_some_iff.mp H; obtain ⟨⟨t298, t299⟩, A220, H⟩ := H; replace H : ((laws_eqStepS.f kj4 t298 t285).bind fun t302 => (if t302 = true then (laws_FnExactParseFlow.j1 kj4 t296 t295 (t299 != t288)) else (laws_FnExactParseFlow.j1 kj4 t296 t295 true))) = some r := H; have A22 := Aside0.mk A220; clear A220; have HC23 := Aside0.mk H; clear H; obtain ⟨Ao24, co24, eo24⟩ := Kd.S_slice HO_5.out; subst eo24
   go_upto_region 16 with (first | ((with_reducible refine gate_callee (f := 38) rfl ?_); refine goesL_ (some 35) rfl rfl Try.func38 kZ rfl #[.slice Ao24 t290.length co24, .int .i64 1] rfl (by (try simp only [List.map_toArray, List.map_cons, List.map_nil]); first | done | rfl) ?_; (refine (laws_markStepS.calls kj4 _ (.slice Ao24 t290.length co24) t290 1 t295 t296 w _ (lZB HB.out) (fun _ hk_ => hk_.2.1) (Kd.S_bound (lZS HO_5.out)) A15.out).mono ?_); rintro e w25 ⟨rfl, hs_, hb, hk_⟩; refine ⟨_, rfl, ?_⟩; replace HO_5 := aZ (Kd.S_mono hs_ (fun _ hk_ => hk_.1)); replace HB := aZ (hb); clear hb hs_ hk_) | ((with_reducible refine gate_callee (f := 39) rfl ?_); refine goesL_ (some 38) rfl rfl Try.func39 kZ rfl #[.slice Ao24 t296.length co24, .int .i64 1] rfl (by (try simp only [List.map_toArray, List.map_cons, List.map_nil]); first | done | (rw [show t296.length = t290.length from (Kd.S_reads' HO_5.out).1.symm] <;> rfl) | rfl | (simp only [List.length_drop, List.length_take]; rfl)) ?_; (with_reducible refine (laws_heldStepS.calls kj4 _ _ t296 1 t297 _ ?side1 ?side2 A16.out).mono ?_); (case side1 => repeat (first | exact (Kd.S_reads' HO_5.out).2.2 | (with_reducible refine Kd.C_alloc ?_ _) | (with_reducible refine Kd.C_drewN ?_ _) | (with_reducible refine Kd.C_drew ?_))); (case side2 => rw [show t296.length = t290.length from (Kd.S_reads' HO_5.out).1.symm]; exact (Kd.S_reads' HO_5.out).2.1); rintro e w26 ⟨rfl, hb⟩; refine ⟨_, rfl, ?_⟩; replace HO_5 := aZ (Kd.S_below (lZS HO_5.out) hb); replace HB := aZ (below_step (lZB HB.out) hb); (try clear hb); (try clear hb2); (try clear hk); (try clear hi)) | ((with_reducible refine gate_callee (f := 37) rfl ?_); refine goesL_ (some 46) rfl rfl Try.func37 kZ rfl #[.string a0] rfl tZA ?_; (with_reducible refine (impl_ParseFlow.calls kj4 a0 t298 t299 _ A22.out).mono ?_); rintro e w27 ⟨v300, rfl, ho0, hb⟩; refine ⟨_, rfl, ?_⟩; have HO301 := aZ (Kd.S_lower (Kd.S_new' ho0 (Kd.S_lt (lZS HO_5.out))) (below_size (lZB HB.out))); replace HO_5 := aZ (Kd.S_elder' (lZS HO_5.out) (Kd.S_base ho0) hb); replace HB := aZ (below_step (lZB HB.out) hb); (try clear hb); (try clear hb2); (try clear hk); (try clear hi); (try clear ho0)))
   (try simp only [Act.put, sZ1, sZ2, sZ3])
   go_cut [57] (fun v57 wc => ∃ (kq : Nat) (x57_22 : Bool), v57 = .bool x57_22 ∧ Aside0 (laws_FnExactParseFlow.j1 kq t296 t295 x57_22 = some r) ∧ Aside0 (kq ≤ kj4) ∧ Aside0 (Kd.S k119 119 wc w.heap.size (fun _ => True) (.slice Ao24 t290.length co24) t296) ∧ Aside0 (Below w.heap.size w wc))
   case first =>
    have H := HC23.out; clear HC23; replace H := Option.bind_eq_some_iff.mp H; obtain ⟨t302, A280, H⟩ := H; replace H : (if t302 = true then (laws_FnExactParseFlow.j1 kj4 t296 t295 (t299 != t288)) else (laws_FnExactParseFlow.j1 kj4 t296 t295 true)) = some r := H; have A28 := Aside0.mk A280; clear A280
    by_cases c29 : t302 = true
    ·subst c29; rw [if_pos rfl] at H; have H' := Aside0.mk H; clear H; obtain ⟨Ao30, co30, eo30⟩ := Kd.S_slice HO301.out; subst eo30
     go_wp2_with (first | ((with_reducible refine gate_callee (f := 26) rfl ?_); refine goesL_ (some 51) rfl rfl Try.func26 kZ rfl #[.slice Ao30 t298.length co30, .slice Aq289 t285.length cq289] rfl tZA ?_; (with_reducible refine (laws_eqStepS.calls kj4 _ _ t298 _ _ t285 true _ ?side1 ?side2 ?side3 ?side4 A28.out).mono ?_); (case side1 => repeat (first | exact (Kd.S_reads' HO301.out).2.2 | (with_reducible refine Kd.C_alloc ?_ _) | (with_reducible refine Kd.C_drewN ?_ _) | (with_reducible refine Kd.C_drew ?_))); (case side2 => exact (Kd.S_reads' HO301.out).2.1); (case side3 => repeat (first | exact (Kd.C_below HRq289.out HB.out) | (with_reducible refine Kd.C_alloc ?_ _) | (with_reducible refine Kd.C_drewN ?_ _) | (with_reducible refine Kd.C_drew ?_))); (case side4 => exact HCq289.out); rintro e w31 ⟨rfl, hb⟩; refine ⟨_, rfl, ?_⟩; replace HO_5 := aZ (Kd.S_below (lZS HO_5.out) hb); replace HO301 := aZ (Kd.S_below (lZS HO301.out) hb); replace HB := aZ (below_step (lZB HB.out) hb); (try clear hb); (try clear hb2); (try clear hk); (try clear hi)))
     go_meet
     case rel => exact ⟨_, ((t299 != t288)), tZB, H', ⟨by have := HJ4.out; first | omega | exact Nat.le_refl _⟩, ⟨by (with_reducible repeat (first | apply Kd.S_alloc | apply Kd.S_drewN | apply Kd.S_drew)); exact Kd.S_mono HO_5.out (fun _ hk => trivial)⟩, ⟨bZ⟩⟩
    replace c29 := Bool.eq_false_iff.mpr c29; subst c29; rw [if_neg Bool.false_ne_true] at H; have H' := Aside0.mk H; clear H; obtain ⟨Ao32, co32, eo32⟩ := Kd.S_slice HO301.out; subst eo32
    go_wp2_with (first | ((with_reducible refine gate_callee (f := 26) rfl ?_); refine goesL_ (some 51) rfl rfl Try.func26 kZ rfl #[.slice Ao32 t298.length co32, .slice Aq289 t285.length cq289] rfl tZA ?_; (with_reducible refine (laws_eqStepS.calls kj4 _ _ t298 _ _ t285 false _ ?side1 ?side2 ?side3 ?side4 A28.out).mono ?_); (case side1 => repeat (first | exact (Kd.S_reads' HO301.out).2.2 | (with_reducible refine Kd.C_alloc ?_ _) | (with_reducible refine Kd.C_drewN ?_ _) | (with_reducible refine Kd.C_drew ?_))); (case side2 => exact (Kd.S_reads' HO301.out).2.1); (case side3 => repeat (first | exact (Kd.C_below HRq289.out HB.out) | (with_reducible refine Kd.C_alloc ?_ _) | (with_reducible refine Kd.C_drewN ?_ _) | (with_reducible refine Kd.C_drew ?_))); (case side4 => exact HCq289.out); rintro e w33 ⟨rfl, hb⟩; refine ⟨_, rfl, ?_⟩; replace HO_5 := aZ (Kd.S_below (lZS HO_5.out) hb); replace HO301 := aZ (Kd.S_below (lZS HO301.out) hb); replace HB := aZ (below_step (lZB HB.out) hb); (try clear hb); (try clear hb2); (try clear hk); (try clear hi)))
    go_meet
    case rel => exact ⟨_, (true), tZB, H', ⟨by have := HJ4.out; first | omega | exact Nat.le_refl _⟩, ⟨by (with_reducible repeat (first | apply Kd.S_alloc | apply Kd.S_drewN | apply Kd.S_drew)); exact Kd.S_mono HO_5.out (fun _ hk => trivial)⟩, ⟨bZ⟩⟩
   case rest =>
    clear HC23; (try clear c2 c2b0 c2b1 c14 c17 c17b0 c21 c21b0 c21b1); obtain ⟨kq, x57_22, rfl, HA, HJ22, HO_5, HB⟩ := hcut; have hl5_22 := (Kd.S_reads' HO_5.out).1; rw [hl5_22] at HO_5; (try simp only [hl5_22])
    cases kq with
    | zero => exact absurd HA.out (by simp [laws_FnExactParseFlow.j1])
    | succ kj22 =>
     have H := HA.out; clear HA; simp only [laws_FnExactParseFlow.j1] at H
     by_cases c34 : x57_22 = true
     ·subst c34; rw [if_pos rfl] at H; obtain rfl := Option.some.inj H; go_wp2; go_ret; exact ⟨tZC, below_step HB0_.out (lZB HB.out)⟩
     replace c34 := Bool.eq_false_iff.mpr c34; subst c34; rw [if_neg Bool.false_ne_true] at H; replace H := Option.bind_eq_some_iff.mp H; obtain ⟨t303, A350, H⟩ := H; replace H : (if t303 < 0 then (some false) else (if t303 = t295 then (some true) else (some false))) = some r := H; have A35 := Aside0.mk A350; clear A350
     by_cases c36 : t303 < 0
     ·rw [if_pos c36] at H; have c36b0 := decide_eq_true c36; clear c36; obtain rfl := Option.some.inj H
      go_wp2_with (first | ((with_reducible refine gate_callee (f := 39) rfl ?_); refine goesL_ (some 60) rfl rfl Try.func39 kZ rfl #[.slice Ao24 t296.length co24, .int .i64 1] rfl tZA ?_; (with_reducible refine (laws_heldStepS.calls kj22 _ _ t296 1 t303 _ ?side1 ?side2 A35.out).mono ?_); (case side1 => repeat (first | exact (Kd.S_reads' HO_5.out).2.2 | (with_reducible refine Kd.C_alloc ?_ _) | (with_reducible refine Kd.C_drewN ?_ _) | (with_reducible refine Kd.C_drew ?_))); (case side2 => exact (Kd.S_reads' HO_5.out).2.1); rintro e w37 ⟨rfl, hb⟩; refine ⟨_, rfl, ?_⟩; replace HO_5 := aZ (Kd.S_below (lZS HO_5.out) hb); replace HB := aZ (below_step (lZB HB.out) hb); (try clear hb); (try clear hb2); (try clear hk); (try clear hi)))
      go_ret; exact ⟨tZC, below_step HB0_.out (lZB HB.out)⟩
     rw [if_neg c36] at H; have c36b0 := decide_eq_false c36; clear c36
     by_cases c38 : t303 = t295
     rotate_left
     ·rw [if_neg c38] at H; have c38b0 : (t303 == t295) = false := beq_eq_false_iff_ne.mpr c38; have c38b1 : (t303 != t295) = true := bne_iff_ne.mpr c38; obtain rfl := Option.some.inj H
      go_wp2_with (first | ((with_reducible refine gate_callee (f := 39) rfl ?_); refine goesL_ (some 60) rfl rfl Try.func39 kZ rfl #[.slice Ao24 t296.length co24, .int .i64 1] rfl tZA ?_; (with_reducible refine (laws_heldStepS.calls kj22 _ _ t296 1 t303 _ ?side1 ?side2 A35.out).mono ?_); (case side1 => repeat (first | exact (Kd.S_reads' HO_5.out).2.2 | (with_reducible refine Kd.C_alloc ?_ _) | (with_reducible refine Kd.C_drewN ?_ _) | (with_reducible refine Kd.C_drew ?_))); (case side2 => exact (Kd.S_reads' HO_5.out).2.1); rintro e w40 ⟨rfl, hb⟩; refine ⟨_, rfl, ?_⟩; replace HO_5 := aZ (Kd.S_below (lZS HO_5.out) hb); replace HB := aZ (below_step (lZB HB.out) hb); (try clear hb); (try clear hb2); (try clear hk); (try clear hi)))
      go_ret; exact ⟨tZC, below_step HB0_.out (lZB HB.out)⟩
     rw [if_pos c38] at H; have c38b0 : (t303 == t295) = true := beq_iff_eq.mpr c38; have c38b1 : (t303 != t295) = false := bne_eq_false_iff_eq.mpr c38; clear c38; obtain rfl := Option.some.inj H
     go_wp2_with (first | ((with_reducible refine gate_callee (f := 39) rfl ?_); refine goesL_ (some 60) rfl rfl Try.func39 kZ rfl #[.slice Ao24 t296.length co24, .int .i64 1] rfl tZA ?_; (with_reducible refine (laws_heldStepS.calls kj22 _ _ t296 1 t303 _ ?side1 ?side2 A35.out).mono ?_); (case side1 => repeat (first | exact (Kd.S_reads' HO_5.out).2.2 | (with_reducible refine Kd.C_alloc ?_ _) | (with_reducible refine Kd.C_drewN ?_ _) | (with_reducible refine Kd.C_drew ?_))); (case side2 => exact (Kd.S_reads' HO_5.out).2.1); rintro e w39 ⟨rfl, hb⟩; refine ⟨_, rfl, ?_⟩; replace HO_5 := aZ (Kd.S_below (lZS HO_5.out) hb); replace HB := aZ (below_step (lZB HB.out) hb); (try clear hb); (try clear hb2); (try clear hk); (try clear hi)))
     go_ret; exact ⟨tZC, below_step HB0_.out (lZB HB.out)⟩
def laws_FnExactParseFlow.Pure : Prop := ∀ (a0 : ByteArray), a0.size ≤ 140737488351232 → ∃ k, laws_FnExactParseFlow.f k a0 = some true
theorem laws_FnExactParseFlow.walk (P : laws_FnExactParseFlow.Pure) (a0 : ByteArray) (w : World) (w0 : a0.size ≤ 140737488351232) :
    Calls Try.prog 6 #[.string a0] w fun e w' => e = .returned (.bool true) ∧ Below w.heap.size w w' := by
 obtain ⟨k, h⟩ := P a0 w0
 refine (laws_FnExactParseFlow.calls k a0 true w h).mono ?_
 rintro e w' ⟨rfl, hd⟩
 exact ⟨rfl, hd⟩
end Go.Proofs.Ytjnmfadnkbflfaa.PFnExactParseFlow
