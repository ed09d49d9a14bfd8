import Derived.Test.YtjnmfadnkbflfaaEPFnExactEntryOkx0
import Derived.Test.YtjnmfadnkbflfaaEPFnExactEntryOkx1
import Derived.Test.YtjnmfadnkbflfaaEPFnExactEntryOkx3
import Derived.Test.YtjnmfadnkbflfaaESlimWords
namespace Go.Proofs.Ytjnmfadnkbflfaa.PFnExactEntryOk
open Go.Proofs.Ytjnmfadnkbflfaa.SlimWords
open Go.RowKit Go.Proofs.YtjnmfadnkbflfaaW.PrintWords Go.Proofs.YtjnmfadnkbflfaaW.PrintLast Go.Proofs.YtjnmfadnkbflfaaW.PrintMore Go.Proofs.Ytjnmfadnkbflfaa.MapWords Go.Proofs.Ytjnmfadnkbflfaa.IterWords Go.Proofs.Ytjnmfadnkbflfaa.MarkWords
attribute [local go_sem] max2_int min2_int max_two min_two max_three min_three max_four min_four
set_option linter.unusedVariables false
set_option linter.unusedSimpArgs false
def spec_l2Day.f (a0 : Int) : Option (Bool) := (spec_l1In.f a0 0 40000).bind fun t125 => (some t125)
set_option maxHeartbeats 8000000 in
set_option maxRecDepth 100000 in
theorem spec_l2Day.calls (a0 : Int) (r : Bool) (w : World) (h : spec_l2Day.f a0 = some r) :
    Calls Try.prog 71 #[.int .i64 a0] w fun e w' => e = .returned (.bool r) ∧ Drawn0 w w' := by
 have H : ((spec_l1In.f a0 0 40000).bind fun t125 => (some t125)) = some r := h
 clear h
 replace H := Option.bind_eq_some_iff.mp H
 obtain ⟨t125, A20, H⟩ := H
 replace H : (some t125) = some r := H
 have A2 := Aside0.mk A20
 clear A20
 obtain rfl := Option.some.inj H
 go_enter Try.func71, Try.ntmps71
 go_wp2_with (first | ((with_reducible refine gate_callee (f := 72) rfl ?_); refine goesL_ (some 4) rfl rfl Try.func72 kZ rfl #[.int .i64 a0, .int .i64 0, .int .i64 40000] rfl tZA ?_; (with_reducible refine (spec_l1In.calls a0 0 40000 t125 _ A2.out).mono ?_); rintro e w' ⟨rfl, ⟨nd, rfl⟩⟩; refine ⟨_, rfl, ?_⟩))
 go_ret
 exact ⟨tZB, tZD⟩
def spec_l5TextOk.l0 : Nat → ByteArray → Int → Option (Bool)
  | 0, _, _ => none
  | k + 1, x0, x3 => if x3 < (x0.size : Int) then (if 0 ≤ x3 then (if (bt x0 x3) < 32 then (some false) else (spec_l5TextOk.l0 k x0 (wrap64 (x3 + 1)))) else (none)) else (some (decide ((x0.size : Int) ≤ 40)))
def spec_l5TextOk.f (k : Nat) (a0 : ByteArray) : Option (Bool) := spec_l5TextOk.l0 k a0 0
theorem spec_l5TextOk.mono_l : ∀ k, (∀ y0 y1, LeO (spec_l5TextOk.l0 k y0 y1) (spec_l5TextOk.l0 (k + 1) y0 y1))
  | 0 => fun _ _ r h => by simp [spec_l5TextOk.l0] at h
  | k + 1 => by
    have ih0 := spec_l5TextOk.mono_l k
    · intro y0 y1
      unfold spec_l5TextOk.l0
      repeat' first
      | (with_reducible exact ih0 _ _)
      | (with_reducible exact LeO.refl _)
      | (with_reducible exact LeO.none _)
      | (with_reducible refine LeO.ite ?_ ?_)
      | (with_reducible refine LeO.bind ?_ (fun _ => ?_))
      | exact ih0 _ _
      | exact LeO.none _
      | refine LeO.ite ?_ ?_
      | refine LeO.bind ?_ (fun _ => ?_)
theorem spec_l5TextOk.mono : ∀ a0 k, LeO (spec_l5TextOk.f k a0) (spec_l5TextOk.f (k + 1) a0) := by
 intro a0 k
 have ih0 := spec_l5TextOk.mono_l k
 unfold spec_l5TextOk.f
 repeat' first
     | (with_reducible exact ih0 _ _)
     | (with_reducible exact LeO.refl _)
     | (with_reducible exact LeO.none _)
     | (with_reducible refine LeO.ite ?_ ?_)
     | (with_reducible refine LeO.bind ?_ (fun _ => ?_))
     | exact ih0 _ _
     | exact LeO.none _
     | refine LeO.ite ?_ ?_
     | refine LeO.bind ?_ (fun _ => ?_)
set_option maxHeartbeats 8000000 in
set_option maxRecDepth 100000 in
theorem spec_l5TextOk.calls (k : Nat) (a0 : ByteArray) (r : Bool) (w : World) (h : spec_l5TextOk.f k a0 = some r) :
    Calls Try.prog 73 #[.string a0] w fun e w' => e = .returned (.bool r) ∧ Drawn0 w w' := by
 have H : (spec_l5TextOk.l0 k a0 0) = some r := h
 clear h
 have H' := Aside0.mk H
 clear H
 go_enter Try.func73, Try.ntmps73
 go_wp2
 go_loopg [3] k (fun kq v3 w' => ∃ (x3_1 : Int), v3 = .int .i64 x3_1 ∧ Aside0 (spec_l5TextOk.l0 kq a0 x3_1 = some r) ∧ Aside0 (kq ≤ k) ∧ Drawn0 w w')
 case atStart => exact ⟨(0), tZB, H', ⟨Nat.le_refl _⟩, tZD⟩
 case round =>
  clear H'
  obtain ⟨x3_1, rfl, HA, HK1, ⟨m1, rfl⟩⟩ := hrel
  cases gk with
  | zero => exact absurd HA.out (by simp [spec_l5TextOk.l0])
  | succ k1 =>
   have H := HA.out
   clear HA
   simp only [spec_l5TextOk.l0] at H
   by_cases c2 : x3_1 < (a0.size : Int)
   rotate_left
   ·rw [if_neg c2] at H
    have c2b0 := decide_eq_false c2
    clear c2
    obtain rfl := Option.some.inj H
    go_wp2
    go_ret
    exact ⟨tZB, tZD⟩
   rw [if_pos c2] at H
   have c2b0 := decide_eq_true c2
   clear c2
   by_cases c3 : 0 ≤ x3_1
   rotate_left
   ·rw [if_neg c3] at H
    exact absurd H (by simp)
   rw [if_pos c3] at H
   have c3b0 := decide_eq_true c3
   clear c3
   by_cases c5 : (bt a0 x3_1) < 32
   ·rw [if_pos c5] at H
    have c5b0 := decide_eq_true c5
    clear c5
    obtain rfl := Option.some.inj H
    have p4 : 0 ≤ (x3_1 : Int) := of_decide_eq_true tZE
    have q4 : x3_1 < (a0.size : Int) := of_decide_eq_true tZE
    have hx4 := bt_at a0 x3_1
    replace p4 := eq_true p4
    replace q4 := eq_true q4
    go_wp2
    go_ret
    exact ⟨tZB, tZD⟩
   rw [if_neg c5] at H
   have c5b0 := decide_eq_false c5
   clear c5
   have H' := Aside0.mk H
   clear H
   have p4 : 0 ≤ (x3_1 : Int) := of_decide_eq_true tZE
   have q4 : x3_1 < (a0.size : Int) := of_decide_eq_true tZE
   have hx4 := bt_at a0 x3_1
   replace p4 := eq_true p4
   replace q4 := eq_true q4
   go_wp2
   go_roundg k1
   case measure => have := HK1.out; omega
   case rel => exact ⟨(wrap64 (x3_1 + 1)), tZB, H', ⟨by have := HK1.out; omega⟩, tZD⟩
def spec_l1Amount.f (a0 : Int) : Option (Bool) := (spec_l1In.f a0 (-100000000000) 100000000000).bind fun t126 => (some t126)
set_option maxHeartbeats 8000000 in
set_option maxRecDepth 100000 in
theorem spec_l1Amount.calls (a0 : Int) (r : Bool) (w : World) (h : spec_l1Amount.f a0 = some r) :
    Calls Try.prog 101 #[.int .i64 a0] w fun e w' => e = .returned (.bool r) ∧ Drawn0 w w' := by
 have H : ((spec_l1In.f a0 (-100000000000) 100000000000).bind fun t126 => (some t126)) = some r := h
 clear h
 replace H := Option.bind_eq_some_iff.mp H
 obtain ⟨t126, A20, H⟩ := H
 replace H : (some t126) = some r := H
 have A2 := Aside0.mk A20
 clear A20
 obtain rfl := Option.some.inj H
 go_enter Try.func101, Try.ntmps101
 go_wp2_with (first | ((with_reducible refine gate_callee (f := 72) rfl ?_); refine goesL_ (some 4) rfl rfl Try.func72 kZ rfl #[.int .i64 a0, .int .i64 (-100000000000), .int .i64 100000000000] rfl tZA ?_; (with_reducible refine (spec_l1In.calls a0 (-100000000000) 100000000000 t126 _ A2.out).mono ?_); rintro e w' ⟨rfl, ⟨nd, rfl⟩⟩; refine ⟨_, rfl, ?_⟩))
 go_ret
 exact ⟨tZB, tZD⟩
mutual
def spec_Leaf.j0 : Nat → List (S188) → Int → Bool → Option (Bool)
  | 0, _, _, _ => none
  | k + 1, x0, x1, x16 => if x16 = true then (some false) else (spec_Leaf.l0 k x0 x1 0)
def spec_Leaf.l0 : Nat → List (S188) → Int → Int → Option (Bool)
  | 0, _, _, _ => none
  | k + 1, x0, x1, x5 => if x5 < (x0.length : Int) then (if 0 ≤ x5 then (if ((rd_T188 x0 x5).f1) = x1 then (some false) else (spec_Leaf.l0 k x0 x1 (wrap64 (x5 + 1)))) else (none)) else (some true)
end
def spec_Leaf.f (k : Nat) (l0 : List (S188)) (a1 : Int) : Option (Bool) := (spec_ChartOk.f k l0).bind fun t127 => (if t127 = true then ((spec_l1In.f a1 0 (wrap64 ((l0.length : Int) - 1))).bind fun t128 => (spec_Leaf.j0 k l0 a1 (!t128))) else (spec_Leaf.j0 k l0 a1 true))
theorem spec_Leaf.mono_l : ∀ k, (∀ y0 y1 y2, LeO (spec_Leaf.j0 k y0 y1 y2) (spec_Leaf.j0 (k + 1) y0 y1 y2)) ∧ (∀ y0 y1 y2, LeO (spec_Leaf.l0 k y0 y1 y2) (spec_Leaf.l0 (k + 1) y0 y1 y2))
  | 0 => ⟨fun _ _ _ r h => by simp [spec_Leaf.j0] at h, fun _ _ _ r h => by simp [spec_Leaf.l0] at h⟩
  | k + 1 => by
    obtain ⟨ih0, ih1⟩ := spec_Leaf.mono_l k
    refine ⟨?_, ?_⟩
    · intro y0 y1 y2
      unfold spec_Leaf.j0
      repeat' first
      | (with_reducible exact ih0 _ _ _)
      | (with_reducible exact ih1 _ _ _)
      | (with_reducible exact spec_ChartOk.mono _ _)
      | (with_reducible exact LeO.refl _)
      | (with_reducible exact LeO.none _)
      | (with_reducible refine LeO.ite ?_ ?_)
      | (with_reducible refine LeO.bind ?_ (fun _ => ?_))
      | exact ih0 _ _ _
      | exact ih1 _ _ _
      | exact spec_ChartOk.mono _ _
      | exact LeO.none _
      | refine LeO.ite ?_ ?_
      | refine LeO.bind ?_ (fun _ => ?_)
    · intro y0 y1 y2
      unfold spec_Leaf.l0
      repeat' first
      | (with_reducible exact ih0 _ _ _)
      | (with_reducible exact ih1 _ _ _)
      | (with_reducible exact spec_ChartOk.mono _ _)
      | (with_reducible exact LeO.refl _)
      | (with_reducible exact LeO.none _)
      | (with_reducible refine LeO.ite ?_ ?_)
      | (with_reducible refine LeO.bind ?_ (fun _ => ?_))
      | exact ih0 _ _ _
      | exact ih1 _ _ _
      | exact spec_ChartOk.mono _ _
      | exact LeO.none _
      | refine LeO.ite ?_ ?_
      | refine LeO.bind ?_ (fun _ => ?_)
theorem spec_Leaf.mono : ∀ a0 a1 k, LeO (spec_Leaf.f k a0 a1) (spec_Leaf.f (k + 1) a0 a1) := by
 intro a0 a1 k
 obtain ⟨ih0, ih1⟩ := spec_Leaf.mono_l k
 unfold spec_Leaf.f
 repeat' first
     | (with_reducible exact ih0 _ _ _)
     | (with_reducible exact ih1 _ _ _)
     | (with_reducible exact spec_ChartOk.mono _ _)
     | (with_reducible exact LeO.refl _)
     | (with_reducible exact LeO.none _)
     | (with_reducible refine LeO.ite ?_ ?_)
     | (with_reducible refine LeO.bind ?_ (fun _ => ?_))
     | exact ih0 _ _ _
     | exact ih1 _ _ _
     | exact spec_ChartOk.mono _ _
     | exact LeO.none _
     | refine LeO.ite ?_ ?_
     | refine LeO.bind ?_ (fun _ => ?_)
set_option maxHeartbeats 8000000 in
set_option maxRecDepth 100000 in
theorem spec_Leaf.calls (k : Nat) (A0 : Option Addr) (c0 : Nat) (l0 : List (S188)) (a1 : Int) (r : Bool) (w : World) (hr0 : Kd.C k188 w A0 l0.length l0) (hc0 : l0.length ≤ c0) (h : spec_Leaf.f k l0 a1 = some r) :
    Calls Try.prog 139 #[.slice A0 l0.length c0, .int .i64 a1] w fun e w' => e = .returned (.bool r) ∧ Below w.heap.size w w' := by
 have HR0 := Aside0.mk hr0
 have HC0 := Aside0.mk hc0
 clear hr0 hc0
 have HB := aZ (Below.refl w.heap.size w)
 have H : ((spec_ChartOk.f k l0).bind fun t127 => (if t127 = true then ((spec_l1In.f a1 0 (wrap64 ((l0.length : Int) - 1))).bind fun t128 => (spec_Leaf.j0 k l0 a1 (!t128))) else (spec_Leaf.j0 k l0 a1 true))) = some r := h
 clear h
 have HC3 := Aside0.mk H
 clear H
 go_enter Try.func139, Try.ntmps139
 go_upto_region 1 with (fail)
 go_cut [16] (fun v16 wc => ∃ (kq : Nat) (x16_2 : Bool), v16 = .bool x16_2 ∧ Aside0 (spec_Leaf.j0 kq l0 a1 x16_2 = some r) ∧ Aside0 (kq ≤ k) ∧ Aside0 (Below w.heap.size w wc))
 case first =>
  have H := HC3.out
  clear HC3
  replace H := Option.bind_eq_some_iff.mp H
  obtain ⟨t127, A40, H⟩ := H
  replace H : (if t127 = true then ((spec_l1In.f a1 0 (wrap64 ((l0.length : Int) - 1))).bind fun t128 => (spec_Leaf.j0 k l0 a1 (!t128))) else (spec_Leaf.j0 k l0 a1 true)) = some r := H
  have A4 := Aside0.mk A40
  clear A40
  by_cases c5 : t127 = true
  rotate_left
  ·replace c5 := Bool.eq_false_iff.mpr c5
   subst c5
   have H1 : (spec_Leaf.j0 k l0 a1 true) = some r := by rw [if_neg (show ¬ (false = true) by decide)] at H; exact H
   clear H
   have H := H1
   clear H1
   have H' := Aside0.mk H
   clear H
   go_wp2_with (first | ((with_reducible refine gate_callee (f := 138) rfl ?_); refine goesL_ (some 7) rfl rfl Try.func138 kZ rfl #[.slice A0 l0.length c0] rfl tZA ?_; (with_reducible refine (spec_ChartOk.calls k _ _ l0 false _ ?side1 ?side2 A4.out).mono ?_); (case side1 => repeat (first | exact (Kd.C_below HR0.out HB.out) | (with_reducible refine Kd.C_alloc ?_ _) | (with_reducible refine Kd.C_drewN ?_ _) | (with_reducible refine Kd.C_drew ?_))); (case side2 => exact HC0.out); rintro e w8 ⟨rfl, hb⟩; refine ⟨_, rfl, ?_⟩; replace HB := aZ (below_step (lZB HB.out) hb); (try clear hb); (try clear hb2); (try clear hk); (try clear hi)))
   go_meet
   case rel => exact ⟨_, (true), tZB, H', ⟨by first | omega | exact Nat.le_refl _⟩, ⟨bZ⟩⟩
  subst c5
  have H1 : ((spec_l1In.f a1 0 (wrap64 ((l0.length : Int) - 1))).bind fun t128 => (spec_Leaf.j0 k l0 a1 (!t128))) = some r := by rw [if_pos rfl] at H; exact H
  clear H
  have H := H1
  clear H1
  replace H := Option.bind_eq_some_iff.mp H
  obtain ⟨t128, A60, H⟩ := H
  replace H : (spec_Leaf.j0 k l0 a1 (!t128)) = some r := H
  have A6 := Aside0.mk A60
  clear A60
  have H' := Aside0.mk H
  clear H
  go_wp2_with (first | ((with_reducible refine gate_callee (f := 138) rfl ?_); refine goesL_ (some 7) rfl rfl Try.func138 kZ rfl #[.slice A0 l0.length c0] rfl tZA ?_; (with_reducible refine (spec_ChartOk.calls k _ _ l0 true _ ?side1 ?side2 A4.out).mono ?_); (case side1 => repeat (first | exact (Kd.C_below HR0.out HB.out) | (with_reducible refine Kd.C_alloc ?_ _) | (with_reducible refine Kd.C_drewN ?_ _) | (with_reducible refine Kd.C_drew ?_))); (case side2 => exact HC0.out); rintro e w7 ⟨rfl, hb⟩; refine ⟨_, rfl, ?_⟩; replace HB := aZ (below_step (lZB HB.out) hb); (try clear hb); (try clear hb2); (try clear hk); (try clear hi)) | (go_at_call 72; (with_reducible refine (spec_l1In.calls a1 0 (wrap64 ((l0.length : Int) - 1)) t128 _ A6.out).mono ?_); rintro e w' ⟨rfl, ⟨nd, rfl⟩⟩))
  go_meet
  case rel => exact ⟨_, (!t128), tZB, H', ⟨by first | omega | exact Nat.le_refl _⟩, ⟨bZ⟩⟩
 case rest =>
  clear HC3
  try clear c1
  try clear p2
  try clear c5
  try clear p6
  obtain ⟨kq, x16_2, rfl, HA, HJ2, HB⟩ := hcut
  cases kq with
  | zero => exact absurd HA.out (by simp [spec_Leaf.j0])
  | succ kj2 =>
   have H := HA.out
   clear HA
   simp only [spec_Leaf.j0] at H
   by_cases c9 : x16_2 = true
   ·subst c9
    have H1 : (some false) = some r := by rw [if_pos rfl] at H; exact H
    clear H
    have H := H1
    clear H1
    obtain rfl := Option.some.inj H
    go_wp2
    go_ret
    exact ⟨tZC, bZ⟩
   replace c9 := Bool.eq_false_iff.mpr c9
   subst c9
   have H1 : (spec_Leaf.l0 kj2 l0 a1 0) = some r := by rw [if_neg (show ¬ (false = true) by decide)] at H; exact H
   clear H
   have H := H1
   clear H1
   have H' := Aside0.mk H
   clear H
   go_wp2
   go_loopg [5] kj2 (fun kq v5 w' => ∃ (x5_2 : Int), v5 = .int .i64 x5_2 ∧ Aside0 (spec_Leaf.l0 kq l0 a1 x5_2 = some r) ∧ Aside0 (kq ≤ kj2) ∧ Aside0 (Below w.heap.size w w'))
   case atStart => exact ⟨(0), tZB, H', ⟨Nat.le_refl _⟩, ⟨bZ⟩⟩
   case round =>
    clear H'
    try clear c1
    try clear p2
    try clear c5
    try clear p6
    try clear c9
    try clear p2
    try clear p6
    obtain ⟨x5_2, rfl, HA, HK2, HB⟩ := hrel
    cases gk with
    | zero => exact absurd HA.out (by simp [spec_Leaf.l0])
    | succ k2 =>
     have H := HA.out
     clear HA
     simp only [spec_Leaf.l0] at H
     by_cases c10 : x5_2 < (l0.length : Int)
     rotate_left
     ·rw [if_neg c10] at H
      have c10b0 := decide_eq_false c10
      clear c10
      obtain rfl := Option.some.inj H
      go_wp2
      go_ret
      exact ⟨tZC, bZ⟩
     rw [if_pos c10] at H
     have c10b0 := decide_eq_true c10
     clear c10
     by_cases c11 : 0 ≤ x5_2
     rotate_left
     ·rw [if_neg c11] at H
      exact absurd H (by simp)
     rw [if_pos c11] at H
     have c11b0 := decide_eq_true c11
     clear c11
     by_cases c12 : ((rd_T188 l0 x5_2).f1) = a1
     ·rw [if_pos c12] at H
      have c12b0 : (((rd_T188 l0 x5_2).f1) == a1) = true := beq_iff_eq.mpr c12
      have c12b1 : (((rd_T188 l0 x5_2).f1) != a1) = false := bne_eq_false_iff_eq.mpr c12
      clear c12
      obtain rfl := Option.some.inj H
      have p129 : 0 ≤ (x5_2 : Int) := of_decide_eq_true tZE
      have q129 : x5_2 < (l0.length : Int) := of_decide_eq_true tZE
      obtain ⟨ad129, e129, hx129_0, hx129_1, hx129_2⟩ := at_T188 HR0.out x5_2 p129 q129
      cases e129
      replace hx129_0 := cZ HB hx129_0
      replace hx129_1 := cZ HB hx129_1
      replace hx129_2 := cZ HB hx129_2
      replace p129 := eq_true p129
      replace q129 := eq_true q129
      go_wp2
      go_ret
      exact ⟨tZC, bZ⟩
     rw [if_neg c12] at H
     have c12b0 : (((rd_T188 l0 x5_2).f1) == a1) = false := beq_eq_false_iff_ne.mpr c12
     have c12b1 : (((rd_T188 l0 x5_2).f1) != a1) = true := bne_iff_ne.mpr c12
     have H' := Aside0.mk H
     clear H
     have p129 : 0 ≤ (x5_2 : Int) := of_decide_eq_true tZE
     have q129 : x5_2 < (l0.length : Int) := of_decide_eq_true tZE
     obtain ⟨ad129, e129, hx129_0, hx129_1, hx129_2⟩ := at_T188 HR0.out x5_2 p129 q129
     cases e129
     replace hx129_0 := cZ HB hx129_0
     replace hx129_1 := cZ HB hx129_1
     replace hx129_2 := cZ HB hx129_2
     replace p129 := eq_true p129
     replace q129 := eq_true q129
     go_wp2
     go_roundg k2
     case measure => have := HJ2.out; have := HK2.out; omega
     case rel => exact ⟨(wrap64 (x5_2 + 1)), tZB, H', ⟨by have := HJ2.out; have := HK2.out; omega⟩, ⟨bZ⟩⟩
def spec_l5LineOk.f (k : Nat) (l0_0 : List (S188)) (a0_1 : Int) (a0_2 : Int) (a1_0 : Int) (a1_1 : Int) (a1_2 : Int) (a1_3 : Int) (a1_4 : Int) : Option (Bool) := (spec_l1In.f a1_0 0 (wrap64 ((l0_0.length : Int) - 1))).bind fun t132 => (if t132 = true then ((spec_Leaf.f k l0_0 a1_0).bind fun t133 => (if t133 = true then ((spec_l1In.f a1_1 0 (wrap64 (a0_1 - 1))).bind fun t134 => (if t134 = true then ((spec_l1In.f a1_2 0 (wrap64 (a0_2 - 1))).bind fun t135 => (if t135 = true then ((spec_l1Amount.f a1_3).bind fun t136 => (if t136 = true then ((spec_l1Amount.f a1_4).bind fun t137 => (if t137 = true then (if a1_2 = 0 then (some (a1_3 == a1_4)) else (some true)) else (some false))) else (some false))) else (some false))) else (some false))) else (some false))) else (some false))
theorem spec_l5LineOk.mono : ∀ a0 a1 a2 a3 a4 a5 a6 a7 k, LeO (spec_l5LineOk.f k a0 a1 a2 a3 a4 a5 a6 a7) (spec_l5LineOk.f (k + 1) a0 a1 a2 a3 a4 a5 a6 a7) := by
 intro a0 a1 a2 a3 a4 a5 a6 a7 k
 unfold spec_l5LineOk.f
 repeat' first
     | (with_reducible exact spec_Leaf.mono _ _ _)
     | (with_reducible exact LeO.refl _)
     | (with_reducible exact LeO.none _)
     | (with_reducible refine LeO.ite ?_ ?_)
     | (with_reducible refine LeO.bind ?_ (fun _ => ?_))
     | exact spec_Leaf.mono _ _ _
     | exact LeO.none _
     | refine LeO.ite ?_ ?_
     | refine LeO.bind ?_ (fun _ => ?_)
set_option maxHeartbeats 8000000 in
set_option maxRecDepth 100000 in
theorem spec_l5LineOk.calls (k : Nat) (A0_0 : Option Addr) (c0_0 : Nat) (l0_0 : List (S188)) (a0_1 : Int) (a0_2 : Int) (a1_0 : Int) (a1_1 : Int) (a1_2 : Int) (a1_3 : Int) (a1_4 : Int) (r : Bool) (w : World) (hr0_0 : Kd.C k188 w A0_0 l0_0.length l0_0) (hc0_0 : l0_0.length ≤ c0_0) (h : spec_l5LineOk.f k l0_0 a0_1 a0_2 a1_0 a1_1 a1_2 a1_3 a1_4 = some r) :
    Calls Try.prog 74 #[.agg #[.slice A0_0 l0_0.length c0_0, .int .i64 a0_1, .int .i64 a0_2], .agg #[.int .i64 a1_0, .int .i64 a1_1, .int .i64 a1_2, .int .i64 a1_3, .int .i64 a1_4]] w fun e w' => e = .returned (.bool r) ∧ Below w.heap.size w w' := by
 have hu33 := Try.underlying33
 have hu109 := Try.underlying109
 have HR0_0 := Aside0.mk hr0_0
 have HC0_0 := Aside0.mk hc0_0
 clear hr0_0 hc0_0
 have HB := aZ (Below.refl w.heap.size w)
 have H : ((spec_l1In.f a1_0 0 (wrap64 ((l0_0.length : Int) - 1))).bind fun t132 => (if t132 = true then ((spec_Leaf.f k l0_0 a1_0).bind fun t133 => (if t133 = true then ((spec_l1In.f a1_1 0 (wrap64 (a0_1 - 1))).bind fun t134 => (if t134 = true then ((spec_l1In.f a1_2 0 (wrap64 (a0_2 - 1))).bind fun t135 => (if t135 = true then ((spec_l1Amount.f a1_3).bind fun t136 => (if t136 = true then ((spec_l1Amount.f a1_4).bind fun t137 => (if t137 = true then (if a1_2 = 0 then (some (a1_3 == a1_4)) else (some true)) else (some false))) else (some false))) else (some false))) else (some false))) else (some false))) else (some false))) = some r := h
 clear h
 replace H := Option.bind_eq_some_iff.mp H
 obtain ⟨t132, A30, H⟩ := H
 replace H : (if t132 = true then ((spec_Leaf.f k l0_0 a1_0).bind fun t133 => (if t133 = true then ((spec_l1In.f a1_1 0 (wrap64 (a0_1 - 1))).bind fun t134 => (if t134 = true then ((spec_l1In.f a1_2 0 (wrap64 (a0_2 - 1))).bind fun t135 => (if t135 = true then ((spec_l1Amount.f a1_3).bind fun t136 => (if t136 = true then ((spec_l1Amount.f a1_4).bind fun t137 => (if t137 = true then (if a1_2 = 0 then (some (a1_3 == a1_4)) else (some true)) else (some false))) else (some false))) else (some false))) else (some false))) else (some false))) else (some false)) = some r := H
 have A3 := Aside0.mk A30
 clear A30
 by_cases c4 : t132 = true
 rotate_left
 ·replace c4 := Bool.eq_false_iff.mpr c4
  subst c4
  have H1 : (some false) = some r := by rw [if_neg (show ¬ (false = true) by decide)] at H; exact H
  clear H
  have H := H1
  clear H1
  obtain rfl := Option.some.inj H
  go_enter Try.func74, Try.ntmps74
  go_wp2_with (first | ((with_reducible refine gate_dst (N := 2) rfl ?_); refine box_event ?hg (N := 2) ?hd (cs := #[.slice A0_0 l0_0.length c0_0, .int .i64 a0_1, .int .i64 a0_2]) (t := 33) ?hr ?_; (case hd => rfl); (case hg => rfl); (case hr => first | (go_simp; done) | (go_simp; rfl)); intro gb130 hg w70 hbox hb; have BK130 := aZ (hbox); have GW130 := aZ ((by rw [hg]; exact (below_size (lZB HB.out)) : w.heap.size ≤ gb130)); have GE130 := aZ ((by rw [hg]; exact (below_size (lZB HB.out)) : w.heap.size ≤ gb130)); replace HB := aZ (below_step (lZB HB.out) hb); clear hb hbox hg) | ((with_reducible refine gate_dst (N := 3) rfl ?_); refine box_event ?hg (N := 3) ?hd (cs := #[.int .i64 a1_0, .int .i64 a1_1, .int .i64 a1_2, .int .i64 a1_3, .int .i64 a1_4]) (t := 109) ?hr ?_; (case hd => rfl); (case hg => rfl); (case hr => first | (go_simp; done) | (go_simp; rfl)); intro gb131 hg w71 hbox hb; have BK131 := aZ (hbox); have GW131 := aZ ((by rw [hg]; exact (below_size bZ) : w.heap.size ≤ gb131)); have GE131 := aZ ((by rw [hg]; exact (below_size bZ) : w.heap.size ≤ gb131)); replace HB := aZ (below_step bZ hb); have NB130_131 := aZ ((by rw [hg]; exact Nat.ne_of_lt (blk_lt (bkZ BK130.out)) : gb130 ≠ gb131)); have NB131_130 := aZ ((by rw [hg]; exact Nat.ne_of_gt (blk_lt (bkZ BK130.out)) : gb131 ≠ gb130)); replace BK130 := aZ (blk_below (bkZ BK130.out) hb); clear hb hbox hg; have hnb72 := NB131_130.out; have hnc72 := NB130_131.out; have hcz73_0 : w71.cell? ⟨gb131, 0, none⟩ = some (.int .i64 a1_0) := (blk_cell BK131.out 0).trans rfl; have hcz73_1 : w71.cell? ⟨gb131, 1, none⟩ = some (.int .i64 a1_1) := (blk_cell BK131.out 1).trans rfl; have hcz73_2 : w71.cell? ⟨gb131, 2, none⟩ = some (.int .i64 a1_2) := (blk_cell BK131.out 2).trans rfl; have hcz73_3 : w71.cell? ⟨gb131, 3, none⟩ = some (.int .i64 a1_3) := (blk_cell BK131.out 3).trans rfl; have hcz73_4 : w71.cell? ⟨gb131, 4, none⟩ = some (.int .i64 a1_4) := (blk_cell BK131.out 4).trans rfl; have hfz73_0 := blk_frozen BK131.out 0; have hfz73_1 := blk_frozen BK131.out 1; have hfz73_2 := blk_frozen BK131.out 2; have hfz73_3 := blk_frozen BK131.out 3; have hfz73_4 := blk_frozen BK131.out 4; have hcz74_0 : w71.cell? ⟨gb130, 0, none⟩ = some (.slice A0_0 l0_0.length c0_0) := (blk_cell BK130.out 0).trans rfl; have hcz74_1 : w71.cell? ⟨gb130, 1, none⟩ = some (.int .i64 a0_1) := (blk_cell BK130.out 1).trans rfl; have hcz74_2 : w71.cell? ⟨gb130, 2, none⟩ = some (.int .i64 a0_2) := (blk_cell BK130.out 2).trans rfl; have hfz74_0 := blk_frozen BK130.out 0; have hfz74_1 := blk_frozen BK130.out 1; have hfz74_2 := blk_frozen BK130.out 2) | ((with_reducible refine gate_callee (f := 72) rfl ?_); refine goesL_ (some 11) rfl rfl Try.func72 kZ rfl #[.int .i64 a1_0, .int .i64 0, .int .i64 (wrap64 ((l0_0.length : Int) - 1))] rfl tZA ?_; (with_reducible refine (spec_l1In.calls a1_0 0 (wrap64 ((l0_0.length : Int) - 1)) false _ A3.out).mono ?_); rintro e w' ⟨rfl, ⟨nd, rfl⟩⟩; refine ⟨_, rfl, ?_⟩))
  go_ret
  exact ⟨tZC, bZ⟩
 subst c4
 have H1 : ((spec_Leaf.f k l0_0 a1_0).bind fun t133 => (if t133 = true then ((spec_l1In.f a1_1 0 (wrap64 (a0_1 - 1))).bind fun t134 => (if t134 = true then ((spec_l1In.f a1_2 0 (wrap64 (a0_2 - 1))).bind fun t135 => (if t135 = true then ((spec_l1Amount.f a1_3).bind fun t136 => (if t136 = true then ((spec_l1Amount.f a1_4).bind fun t137 => (if t137 = true then (if a1_2 = 0 then (some (a1_3 == a1_4)) else (some true)) else (some false))) else (some false))) else (some false))) else (some false))) else (some false))) = some r := by rw [if_pos rfl] at H; exact H
 clear H
 have H := H1
 clear H1
 replace H := Option.bind_eq_some_iff.mp H
 obtain ⟨t133, A50, H⟩ := H
 replace H : (if t133 = true then ((spec_l1In.f a1_1 0 (wrap64 (a0_1 - 1))).bind fun t134 => (if t134 = true then ((spec_l1In.f a1_2 0 (wrap64 (a0_2 - 1))).bind fun t135 => (if t135 = true then ((spec_l1Amount.f a1_3).bind fun t136 => (if t136 = true then ((spec_l1Amount.f a1_4).bind fun t137 => (if t137 = true then (if a1_2 = 0 then (some (a1_3 == a1_4)) else (some true)) else (some false))) else (some false))) else (some false))) else (some false))) else (some false)) = some r := H
 have A5 := Aside0.mk A50
 clear A50
 by_cases c6 : t133 = true
 rotate_left
 ·replace c6 := Bool.eq_false_iff.mpr c6
  subst c6
  have H1 : (some false) = some r := by rw [if_neg (show ¬ (false = true) by decide)] at H; exact H
  clear H
  have H := H1
  clear H1
  obtain rfl := Option.some.inj H
  go_enter Try.func74, Try.ntmps74
  go_wp2_with (first | ((with_reducible refine gate_dst (N := 2) rfl ?_); refine box_event ?hg (N := 2) ?hd (cs := #[.slice A0_0 l0_0.length c0_0, .int .i64 a0_1, .int .i64 a0_2]) (t := 33) ?hr ?_; (case hd => rfl); (case hg => rfl); (case hr => first | (go_simp; done) | (go_simp; rfl)); intro gb130 hg w64 hbox hb; have BK130 := aZ (hbox); have GW130 := aZ ((by rw [hg]; exact (below_size (lZB HB.out)) : w.heap.size ≤ gb130)); have GE130 := aZ ((by rw [hg]; exact (below_size (lZB HB.out)) : w.heap.size ≤ gb130)); replace HB := aZ (below_step (lZB HB.out) hb); clear hb hbox hg) | ((with_reducible refine gate_dst (N := 3) rfl ?_); refine box_event ?hg (N := 3) ?hd (cs := #[.int .i64 a1_0, .int .i64 a1_1, .int .i64 a1_2, .int .i64 a1_3, .int .i64 a1_4]) (t := 109) ?hr ?_; (case hd => rfl); (case hg => rfl); (case hr => first | (go_simp; done) | (go_simp; rfl)); intro gb131 hg w65 hbox hb; have BK131 := aZ (hbox); have GW131 := aZ ((by rw [hg]; exact (below_size bZ) : w.heap.size ≤ gb131)); have GE131 := aZ ((by rw [hg]; exact (below_size bZ) : w.heap.size ≤ gb131)); replace HB := aZ (below_step bZ hb); have NB130_131 := aZ ((by rw [hg]; exact Nat.ne_of_lt (blk_lt (bkZ BK130.out)) : gb130 ≠ gb131)); have NB131_130 := aZ ((by rw [hg]; exact Nat.ne_of_gt (blk_lt (bkZ BK130.out)) : gb131 ≠ gb130)); replace BK130 := aZ (blk_below (bkZ BK130.out) hb); clear hb hbox hg; have hnb66 := NB131_130.out; have hnc66 := NB130_131.out; have hcz67_0 : w65.cell? ⟨gb131, 0, none⟩ = some (.int .i64 a1_0) := (blk_cell BK131.out 0).trans rfl; have hcz67_1 : w65.cell? ⟨gb131, 1, none⟩ = some (.int .i64 a1_1) := (blk_cell BK131.out 1).trans rfl; have hcz67_2 : w65.cell? ⟨gb131, 2, none⟩ = some (.int .i64 a1_2) := (blk_cell BK131.out 2).trans rfl; have hcz67_3 : w65.cell? ⟨gb131, 3, none⟩ = some (.int .i64 a1_3) := (blk_cell BK131.out 3).trans rfl; have hcz67_4 : w65.cell? ⟨gb131, 4, none⟩ = some (.int .i64 a1_4) := (blk_cell BK131.out 4).trans rfl; have hfz67_0 := blk_frozen BK131.out 0; have hfz67_1 := blk_frozen BK131.out 1; have hfz67_2 := blk_frozen BK131.out 2; have hfz67_3 := blk_frozen BK131.out 3; have hfz67_4 := blk_frozen BK131.out 4; have hcz68_0 : w65.cell? ⟨gb130, 0, none⟩ = some (.slice A0_0 l0_0.length c0_0) := (blk_cell BK130.out 0).trans rfl; have hcz68_1 : w65.cell? ⟨gb130, 1, none⟩ = some (.int .i64 a0_1) := (blk_cell BK130.out 1).trans rfl; have hcz68_2 : w65.cell? ⟨gb130, 2, none⟩ = some (.int .i64 a0_2) := (blk_cell BK130.out 2).trans rfl; have hfz68_0 := blk_frozen BK130.out 0; have hfz68_1 := blk_frozen BK130.out 1; have hfz68_2 := blk_frozen BK130.out 2) | ((with_reducible refine gate_callee (f := 72) rfl ?_); refine goesL_ (some 11) rfl rfl Try.func72 kZ rfl #[.int .i64 a1_0, .int .i64 0, .int .i64 (wrap64 ((l0_0.length : Int) - 1))] rfl tZA ?_; (with_reducible refine (spec_l1In.calls a1_0 0 (wrap64 ((l0_0.length : Int) - 1)) true _ A3.out).mono ?_); rintro e w' ⟨rfl, ⟨nd, rfl⟩⟩; refine ⟨_, rfl, ?_⟩) | (go_at_call 139; (with_reducible refine (spec_Leaf.calls k _ _ l0_0 a1_0 false _ ?side1 ?side2 A5.out).mono ?_); (case side1 => repeat (first | exact (Kd.C_below HR0_0.out bZ) | (with_reducible refine Kd.C_alloc ?_ _) | (with_reducible refine Kd.C_drewN ?_ _) | (with_reducible refine Kd.C_drew ?_))); (case side2 => exact HC0_0.out); rintro e w69 ⟨rfl, hb⟩; replace BK130 := aZ (blk_below (bkZ BK130.out) hb); replace BK131 := aZ (blk_below (bkZ BK131.out) hb); replace HB := aZ (below_step bZ hb); (try clear hb); (try clear hb2); (try clear hk); (try clear hi)))
  go_ret
  exact ⟨tZC, bZ⟩
 subst c6
 have H1 : ((spec_l1In.f a1_1 0 (wrap64 (a0_1 - 1))).bind fun t134 => (if t134 = true then ((spec_l1In.f a1_2 0 (wrap64 (a0_2 - 1))).bind fun t135 => (if t135 = true then ((spec_l1Amount.f a1_3).bind fun t136 => (if t136 = true then ((spec_l1Amount.f a1_4).bind fun t137 => (if t137 = true then (if a1_2 = 0 then (some (a1_3 == a1_4)) else (some true)) else (some false))) else (some false))) else (some false))) else (some false))) = some r := by rw [if_pos rfl] at H; exact H
 clear H
 have H := H1
 clear H1
 replace H := Option.bind_eq_some_iff.mp H
 obtain ⟨t134, A70, H⟩ := H
 replace H : (if t134 = true then ((spec_l1In.f a1_2 0 (wrap64 (a0_2 - 1))).bind fun t135 => (if t135 = true then ((spec_l1Amount.f a1_3).bind fun t136 => (if t136 = true then ((spec_l1Amount.f a1_4).bind fun t137 => (if t137 = true then (if a1_2 = 0 then (some (a1_3 == a1_4)) else (some true)) else (some false))) else (some false))) else (some false))) else (some false)) = some r := H
 have A7 := Aside0.mk A70
 clear A70
 by_cases c8 : t134 = true
 rotate_left
 ·replace c8 := Bool.eq_false_iff.mpr c8
  subst c8
  have H1 : (some false) = some r := by rw [if_neg (show ¬ (false = true) by decide)] at H; exact H
  clear H
  have H := H1
  clear H1
  obtain rfl := Option.some.inj H
  go_enter Try.func74, Try.ntmps74
  go_wp2_with (first | ((with_reducible refine gate_dst (N := 2) rfl ?_); refine box_event ?hg (N := 2) ?hd (cs := #[.slice A0_0 l0_0.length c0_0, .int .i64 a0_1, .int .i64 a0_2]) (t := 33) ?hr ?_; (case hd => rfl); (case hg => rfl); (case hr => first | (go_simp; done) | (go_simp; rfl)); intro gb130 hg w56 hbox hb; have BK130 := aZ (hbox); have GW130 := aZ ((by rw [hg]; exact (below_size (lZB HB.out)) : w.heap.size ≤ gb130)); have GE130 := aZ ((by rw [hg]; exact (below_size (lZB HB.out)) : w.heap.size ≤ gb130)); replace HB := aZ (below_step (lZB HB.out) hb); clear hb hbox hg) | ((with_reducible refine gate_dst (N := 3) rfl ?_); refine box_event ?hg (N := 3) ?hd (cs := #[.int .i64 a1_0, .int .i64 a1_1, .int .i64 a1_2, .int .i64 a1_3, .int .i64 a1_4]) (t := 109) ?hr ?_; (case hd => rfl); (case hg => rfl); (case hr => first | (go_simp; done) | (go_simp; rfl)); intro gb131 hg w57 hbox hb; have BK131 := aZ (hbox); have GW131 := aZ ((by rw [hg]; exact (below_size bZ) : w.heap.size ≤ gb131)); have GE131 := aZ ((by rw [hg]; exact (below_size bZ) : w.heap.size ≤ gb131)); replace HB := aZ (below_step bZ hb); have NB130_131 := aZ ((by rw [hg]; exact Nat.ne_of_lt (blk_lt (bkZ BK130.out)) : gb130 ≠ gb131)); have NB131_130 := aZ ((by rw [hg]; exact Nat.ne_of_gt (blk_lt (bkZ BK130.out)) : gb131 ≠ gb130)); replace BK130 := aZ (blk_below (bkZ BK130.out) hb); clear hb hbox hg; have hnb58 := NB131_130.out; have hnc58 := NB130_131.out; have hcz59_0 : w57.cell? ⟨gb131, 0, none⟩ = some (.int .i64 a1_0) := (blk_cell BK131.out 0).trans rfl; have hcz59_1 : w57.cell? ⟨gb131, 1, none⟩ = some (.int .i64 a1_1) := (blk_cell BK131.out 1).trans rfl; have hcz59_2 : w57.cell? ⟨gb131, 2, none⟩ = some (.int .i64 a1_2) := (blk_cell BK131.out 2).trans rfl; have hcz59_3 : w57.cell? ⟨gb131, 3, none⟩ = some (.int .i64 a1_3) := (blk_cell BK131.out 3).trans rfl; have hcz59_4 : w57.cell? ⟨gb131, 4, none⟩ = some (.int .i64 a1_4) := (blk_cell BK131.out 4).trans rfl; have hfz59_0 := blk_frozen BK131.out 0; have hfz59_1 := blk_frozen BK131.out 1; have hfz59_2 := blk_frozen BK131.out 2; have hfz59_3 := blk_frozen BK131.out 3; have hfz59_4 := blk_frozen BK131.out 4; have hcz60_0 : w57.cell? ⟨gb130, 0, none⟩ = some (.slice A0_0 l0_0.length c0_0) := (blk_cell BK130.out 0).trans rfl; have hcz60_1 : w57.cell? ⟨gb130, 1, none⟩ = some (.int .i64 a0_1) := (blk_cell BK130.out 1).trans rfl; have hcz60_2 : w57.cell? ⟨gb130, 2, none⟩ = some (.int .i64 a0_2) := (blk_cell BK130.out 2).trans rfl; have hfz60_0 := blk_frozen BK130.out 0; have hfz60_1 := blk_frozen BK130.out 1; have hfz60_2 := blk_frozen BK130.out 2) | ((with_reducible refine gate_callee (f := 72) rfl ?_); refine goesL_ (some 11) rfl rfl Try.func72 kZ rfl #[.int .i64 a1_0, .int .i64 0, .int .i64 (wrap64 ((l0_0.length : Int) - 1))] rfl tZA ?_; (with_reducible refine (spec_l1In.calls a1_0 0 (wrap64 ((l0_0.length : Int) - 1)) true _ A3.out).mono ?_); rintro e w' ⟨rfl, ⟨nd, rfl⟩⟩; refine ⟨_, rfl, ?_⟩) | (go_at_call 139; (with_reducible refine (spec_Leaf.calls k _ _ l0_0 a1_0 true _ ?side1 ?side2 A5.out).mono ?_); (case side1 => repeat (first | exact (Kd.C_below HR0_0.out bZ) | (with_reducible refine Kd.C_alloc ?_ _) | (with_reducible refine Kd.C_drewN ?_ _) | (with_reducible refine Kd.C_drew ?_))); (case side2 => exact HC0_0.out); rintro e w61 ⟨rfl, hb⟩; replace BK130 := aZ (blk_below (bkZ BK130.out) hb); replace BK131 := aZ (blk_below (bkZ BK131.out) hb); replace HB := aZ (below_step bZ hb); (try clear hb); (try clear hb2); (try clear hk); (try clear hi); have hcz62_0 : w61.cell? ⟨gb131, 0, none⟩ = some (.int .i64 a1_0) := (blk_cell BK131.out 0).trans rfl; have hcz62_1 : w61.cell? ⟨gb131, 1, none⟩ = some (.int .i64 a1_1) := (blk_cell BK131.out 1).trans rfl; have hcz62_2 : w61.cell? ⟨gb131, 2, none⟩ = some (.int .i64 a1_2) := (blk_cell BK131.out 2).trans rfl; have hcz62_3 : w61.cell? ⟨gb131, 3, none⟩ = some (.int .i64 a1_3) := (blk_cell BK131.out 3).trans rfl; have hcz62_4 : w61.cell? ⟨gb131, 4, none⟩ = some (.int .i64 a1_4) := (blk_cell BK131.out 4).trans rfl; have hfz62_0 := blk_frozen BK131.out 0; have hfz62_1 := blk_frozen BK131.out 1; have hfz62_2 := blk_frozen BK131.out 2; have hfz62_3 := blk_frozen BK131.out 3; have hfz62_4 := blk_frozen BK131.out 4; have hcz63_0 : w61.cell? ⟨gb130, 0, none⟩ = some (.slice A0_0 l0_0.length c0_0) := (blk_cell BK130.out 0).trans rfl; have hcz63_1 : w61.cell? ⟨gb130, 1, none⟩ = some (.int .i64 a0_1) := (blk_cell BK130.out 1).trans rfl; have hcz63_2 : w61.cell? ⟨gb130, 2, none⟩ = some (.int .i64 a0_2) := (blk_cell BK130.out 2).trans rfl; have hfz63_0 := blk_frozen BK130.out 0; have hfz63_1 := blk_frozen BK130.out 1; have hfz63_2 := blk_frozen BK130.out 2) | (go_at_call 72; (with_reducible refine (spec_l1In.calls a1_1 0 (wrap64 (a0_1 - 1)) false _ A7.out).mono ?_); rintro e w' ⟨rfl, ⟨nd, rfl⟩⟩))
  go_ret
  exact ⟨tZC, bZ⟩
 subst c8
 have H1 : ((spec_l1In.f a1_2 0 (wrap64 (a0_2 - 1))).bind fun t135 => (if t135 = true then ((spec_l1Amount.f a1_3).bind fun t136 => (if t136 = true then ((spec_l1Amount.f a1_4).bind fun t137 => (if t137 = true then (if a1_2 = 0 then (some (a1_3 == a1_4)) else (some true)) else (some false))) else (some false))) else (some false))) = some r := by rw [if_pos rfl] at H; exact H
 clear H
 have H := H1
 clear H1
 replace H := Option.bind_eq_some_iff.mp H
 obtain ⟨t135, A90, H⟩ := H
 replace H : (if t135 = true then ((spec_l1Amount.f a1_3).bind fun t136 => (if t136 = true then ((spec_l1Amount.f a1_4).bind fun t137 => (if t137 = true then (if a1_2 = 0 then (some (a1_3 == a1_4)) else (some true)) else (some false))) else (some false))) else (some false)) = some r := H
 have A9 := Aside0.mk A90
 clear A90
 by_cases c10 : t135 = true
 rotate_left
 ·replace c10 := Bool.eq_false_iff.mpr c10
  subst c10
  have H1 : (some false) = some r := by rw [if_neg (show ¬ (false = true) by decide)] at H; exact H
  clear H
  have H := H1
  clear H1
  obtain rfl := Option.some.inj H
  go_enter Try.func74, Try.ntmps74
  go_wp2_with (first | ((with_reducible refine gate_dst (N := 2) rfl ?_); refine box_event ?hg (N := 2) ?hd (cs := #[.slice A0_0 l0_0.length c0_0, .int .i64 a0_1, .int .i64 a0_2]) (t := 33) ?hr ?_; (case hd => rfl); (case hg => rfl); (case hr => first | (go_simp; done) | (go_simp; rfl)); intro gb130 hg w48 hbox hb; have BK130 := aZ (hbox); have GW130 := aZ ((by rw [hg]; exact (below_size (lZB HB.out)) : w.heap.size ≤ gb130)); have GE130 := aZ ((by rw [hg]; exact (below_size (lZB HB.out)) : w.heap.size ≤ gb130)); replace HB := aZ (below_step (lZB HB.out) hb); clear hb hbox hg) | ((with_reducible refine gate_dst (N := 3) rfl ?_); refine box_event ?hg (N := 3) ?hd (cs := #[.int .i64 a1_0, .int .i64 a1_1, .int .i64 a1_2, .int .i64 a1_3, .int .i64 a1_4]) (t := 109) ?hr ?_; (case hd => rfl); (case hg => rfl); (case hr => first | (go_simp; done) | (go_simp; rfl)); intro gb131 hg w49 hbox hb; have BK131 := aZ (hbox); have GW131 := aZ ((by rw [hg]; exact (below_size bZ) : w.heap.size ≤ gb131)); have GE131 := aZ ((by rw [hg]; exact (below_size bZ) : w.heap.size ≤ gb131)); replace HB := aZ (below_step bZ hb); have NB130_131 := aZ ((by rw [hg]; exact Nat.ne_of_lt (blk_lt (bkZ BK130.out)) : gb130 ≠ gb131)); have NB131_130 := aZ ((by rw [hg]; exact Nat.ne_of_gt (blk_lt (bkZ BK130.out)) : gb131 ≠ gb130)); replace BK130 := aZ (blk_below (bkZ BK130.out) hb); clear hb hbox hg; have hnb50 := NB131_130.out; have hnc50 := NB130_131.out; have hcz51_0 : w49.cell? ⟨gb131, 0, none⟩ = some (.int .i64 a1_0) := (blk_cell BK131.out 0).trans rfl; have hcz51_1 : w49.cell? ⟨gb131, 1, none⟩ = some (.int .i64 a1_1) := (blk_cell BK131.out 1).trans rfl; have hcz51_2 : w49.cell? ⟨gb131, 2, none⟩ = some (.int .i64 a1_2) := (blk_cell BK131.out 2).trans rfl; have hcz51_3 : w49.cell? ⟨gb131, 3, none⟩ = some (.int .i64 a1_3) := (blk_cell BK131.out 3).trans rfl; have hcz51_4 : w49.cell? ⟨gb131, 4, none⟩ = some (.int .i64 a1_4) := (blk_cell BK131.out 4).trans rfl; have hfz51_0 := blk_frozen BK131.out 0; have hfz51_1 := blk_frozen BK131.out 1; have hfz51_2 := blk_frozen BK131.out 2; have hfz51_3 := blk_frozen BK131.out 3; have hfz51_4 := blk_frozen BK131.out 4; have hcz52_0 : w49.cell? ⟨gb130, 0, none⟩ = some (.slice A0_0 l0_0.length c0_0) := (blk_cell BK130.out 0).trans rfl; have hcz52_1 : w49.cell? ⟨gb130, 1, none⟩ = some (.int .i64 a0_1) := (blk_cell BK130.out 1).trans rfl; have hcz52_2 : w49.cell? ⟨gb130, 2, none⟩ = some (.int .i64 a0_2) := (blk_cell BK130.out 2).trans rfl; have hfz52_0 := blk_frozen BK130.out 0; have hfz52_1 := blk_frozen BK130.out 1; have hfz52_2 := blk_frozen BK130.out 2) | ((with_reducible refine gate_callee (f := 72) rfl ?_); refine goesL_ (some 11) rfl rfl Try.func72 kZ rfl #[.int .i64 a1_0, .int .i64 0, .int .i64 (wrap64 ((l0_0.length : Int) - 1))] rfl tZA ?_; (with_reducible refine (spec_l1In.calls a1_0 0 (wrap64 ((l0_0.length : Int) - 1)) true _ A3.out).mono ?_); rintro e w' ⟨rfl, ⟨nd, rfl⟩⟩; refine ⟨_, rfl, ?_⟩) | (go_at_call 139; (with_reducible refine (spec_Leaf.calls k _ _ l0_0 a1_0 true _ ?side1 ?side2 A5.out).mono ?_); (case side1 => repeat (first | exact (Kd.C_below HR0_0.out bZ) | (with_reducible refine Kd.C_alloc ?_ _) | (with_reducible refine Kd.C_drewN ?_ _) | (with_reducible refine Kd.C_drew ?_))); (case side2 => exact HC0_0.out); rintro e w53 ⟨rfl, hb⟩; replace BK130 := aZ (blk_below (bkZ BK130.out) hb); replace BK131 := aZ (blk_below (bkZ BK131.out) hb); replace HB := aZ (below_step bZ hb); (try clear hb); (try clear hb2); (try clear hk); (try clear hi); have hcz54_0 : w53.cell? ⟨gb131, 0, none⟩ = some (.int .i64 a1_0) := (blk_cell BK131.out 0).trans rfl; have hcz54_1 : w53.cell? ⟨gb131, 1, none⟩ = some (.int .i64 a1_1) := (blk_cell BK131.out 1).trans rfl; have hcz54_2 : w53.cell? ⟨gb131, 2, none⟩ = some (.int .i64 a1_2) := (blk_cell BK131.out 2).trans rfl; have hcz54_3 : w53.cell? ⟨gb131, 3, none⟩ = some (.int .i64 a1_3) := (blk_cell BK131.out 3).trans rfl; have hcz54_4 : w53.cell? ⟨gb131, 4, none⟩ = some (.int .i64 a1_4) := (blk_cell BK131.out 4).trans rfl; have hfz54_0 := blk_frozen BK131.out 0; have hfz54_1 := blk_frozen BK131.out 1; have hfz54_2 := blk_frozen BK131.out 2; have hfz54_3 := blk_frozen BK131.out 3; have hfz54_4 := blk_frozen BK131.out 4; have hcz55_0 : w53.cell? ⟨gb130, 0, none⟩ = some (.slice A0_0 l0_0.length c0_0) := (blk_cell BK130.out 0).trans rfl; have hcz55_1 : w53.cell? ⟨gb130, 1, none⟩ = some (.int .i64 a0_1) := (blk_cell BK130.out 1).trans rfl; have hcz55_2 : w53.cell? ⟨gb130, 2, none⟩ = some (.int .i64 a0_2) := (blk_cell BK130.out 2).trans rfl; have hfz55_0 := blk_frozen BK130.out 0; have hfz55_1 := blk_frozen BK130.out 1; have hfz55_2 := blk_frozen BK130.out 2) | (go_at_call 72; (with_reducible refine (spec_l1In.calls a1_1 0 (wrap64 (a0_1 - 1)) true _ A7.out).mono ?_); rintro e w' ⟨rfl, ⟨nd, rfl⟩⟩) | (go_at_call 72; (with_reducible refine (spec_l1In.calls a1_2 0 (wrap64 (a0_2 - 1)) false _ A9.out).mono ?_); rintro e w' ⟨rfl, ⟨nd, rfl⟩⟩))
  go_ret
  exact ⟨tZC, bZ⟩
 subst c10
 have H1 : ((spec_l1Amount.f a1_3).bind fun t136 => (if t136 = true then ((spec_l1Amount.f a1_4).bind fun t137 => (if t137 = true then (if a1_2 = 0 then (some (a1_3 == a1_4)) else (some true)) else (some false))) else (some false))) = some r := by rw [if_pos rfl] at H; exact H
 clear H
 have H := H1
 clear H1
 replace H := Option.bind_eq_some_iff.mp H
 obtain ⟨t136, A110, H⟩ := H
 replace H : (if t136 = true then ((spec_l1Amount.f a1_4).bind fun t137 => (if t137 = true then (if a1_2 = 0 then (some (a1_3 == a1_4)) else (some true)) else (some false))) else (some false)) = some r := H
 have A11 := Aside0.mk A110
 clear A110
 by_cases c12 : t136 = true
 rotate_left
 ·replace c12 := Bool.eq_false_iff.mpr c12
  subst c12
  have H1 : (some false) = some r := by rw [if_neg (show ¬ (false = true) by decide)] at H; exact H
  clear H
  have H := H1
  clear H1
  obtain rfl := Option.some.inj H
  go_enter Try.func74, Try.ntmps74
  go_wp2_with (first | ((with_reducible refine gate_dst (N := 2) rfl ?_); refine box_event ?hg (N := 2) ?hd (cs := #[.slice A0_0 l0_0.length c0_0, .int .i64 a0_1, .int .i64 a0_2]) (t := 33) ?hr ?_; (case hd => rfl); (case hg => rfl); (case hr => first | (go_simp; done) | (go_simp; rfl)); intro gb130 hg w40 hbox hb; have BK130 := aZ (hbox); have GW130 := aZ ((by rw [hg]; exact (below_size (lZB HB.out)) : w.heap.size ≤ gb130)); have GE130 := aZ ((by rw [hg]; exact (below_size (lZB HB.out)) : w.heap.size ≤ gb130)); replace HB := aZ (below_step (lZB HB.out) hb); clear hb hbox hg) | ((with_reducible refine gate_dst (N := 3) rfl ?_); refine box_event ?hg (N := 3) ?hd (cs := #[.int .i64 a1_0, .int .i64 a1_1, .int .i64 a1_2, .int .i64 a1_3, .int .i64 a1_4]) (t := 109) ?hr ?_; (case hd => rfl); (case hg => rfl); (case hr => first | (go_simp; done) | (go_simp; rfl)); intro gb131 hg w41 hbox hb; have BK131 := aZ (hbox); have GW131 := aZ ((by rw [hg]; exact (below_size bZ) : w.heap.size ≤ gb131)); have GE131 := aZ ((by rw [hg]; exact (below_size bZ) : w.heap.size ≤ gb131)); replace HB := aZ (below_step bZ hb); have NB130_131 := aZ ((by rw [hg]; exact Nat.ne_of_lt (blk_lt (bkZ BK130.out)) : gb130 ≠ gb131)); have NB131_130 := aZ ((by rw [hg]; exact Nat.ne_of_gt (blk_lt (bkZ BK130.out)) : gb131 ≠ gb130)); replace BK130 := aZ (blk_below (bkZ BK130.out) hb); clear hb hbox hg; have hnb42 := NB131_130.out; have hnc42 := NB130_131.out; have hcz43_0 : w41.cell? ⟨gb131, 0, none⟩ = some (.int .i64 a1_0) := (blk_cell BK131.out 0).trans rfl; have hcz43_1 : w41.cell? ⟨gb131, 1, none⟩ = some (.int .i64 a1_1) := (blk_cell BK131.out 1).trans rfl; have hcz43_2 : w41.cell? ⟨gb131, 2, none⟩ = some (.int .i64 a1_2) := (blk_cell BK131.out 2).trans rfl; have hcz43_3 : w41.cell? ⟨gb131, 3, none⟩ = some (.int .i64 a1_3) := (blk_cell BK131.out 3).trans rfl; have hcz43_4 : w41.cell? ⟨gb131, 4, none⟩ = some (.int .i64 a1_4) := (blk_cell BK131.out 4).trans rfl; have hfz43_0 := blk_frozen BK131.out 0; have hfz43_1 := blk_frozen BK131.out 1; have hfz43_2 := blk_frozen BK131.out 2; have hfz43_3 := blk_frozen BK131.out 3; have hfz43_4 := blk_frozen BK131.out 4; have hcz44_0 : w41.cell? ⟨gb130, 0, none⟩ = some (.slice A0_0 l0_0.length c0_0) := (blk_cell BK130.out 0).trans rfl; have hcz44_1 : w41.cell? ⟨gb130, 1, none⟩ = some (.int .i64 a0_1) := (blk_cell BK130.out 1).trans rfl; have hcz44_2 : w41.cell? ⟨gb130, 2, none⟩ = some (.int .i64 a0_2) := (blk_cell BK130.out 2).trans rfl; have hfz44_0 := blk_frozen BK130.out 0; have hfz44_1 := blk_frozen BK130.out 1; have hfz44_2 := blk_frozen BK130.out 2) | ((with_reducible refine gate_callee (f := 72) rfl ?_); refine goesL_ (some 11) rfl rfl Try.func72 kZ rfl #[.int .i64 a1_0, .int .i64 0, .int .i64 (wrap64 ((l0_0.length : Int) - 1))] rfl tZA ?_; (with_reducible refine (spec_l1In.calls a1_0 0 (wrap64 ((l0_0.length : Int) - 1)) true _ A3.out).mono ?_); rintro e w' ⟨rfl, ⟨nd, rfl⟩⟩; refine ⟨_, rfl, ?_⟩) | (go_at_call 139; (with_reducible refine (spec_Leaf.calls k _ _ l0_0 a1_0 true _ ?side1 ?side2 A5.out).mono ?_); (case side1 => repeat (first | exact (Kd.C_below HR0_0.out bZ) | (with_reducible refine Kd.C_alloc ?_ _) | (with_reducible refine Kd.C_drewN ?_ _) | (with_reducible refine Kd.C_drew ?_))); (case side2 => exact HC0_0.out); rintro e w45 ⟨rfl, hb⟩; replace BK130 := aZ (blk_below (bkZ BK130.out) hb); replace BK131 := aZ (blk_below (bkZ BK131.out) hb); replace HB := aZ (below_step bZ hb); (try clear hb); (try clear hb2); (try clear hk); (try clear hi); have hcz46_0 : w45.cell? ⟨gb131, 0, none⟩ = some (.int .i64 a1_0) := (blk_cell BK131.out 0).trans rfl; have hcz46_1 : w45.cell? ⟨gb131, 1, none⟩ = some (.int .i64 a1_1) := (blk_cell BK131.out 1).trans rfl; have hcz46_2 : w45.cell? ⟨gb131, 2, none⟩ = some (.int .i64 a1_2) := (blk_cell BK131.out 2).trans rfl; have hcz46_3 : w45.cell? ⟨gb131, 3, none⟩ = some (.int .i64 a1_3) := (blk_cell BK131.out 3).trans rfl; have hcz46_4 : w45.cell? ⟨gb131, 4, none⟩ = some (.int .i64 a1_4) := (blk_cell BK131.out 4).trans rfl; have hfz46_0 := blk_frozen BK131.out 0; have hfz46_1 := blk_frozen BK131.out 1; have hfz46_2 := blk_frozen BK131.out 2; have hfz46_3 := blk_frozen BK131.out 3; have hfz46_4 := blk_frozen BK131.out 4; have hcz47_0 : w45.cell? ⟨gb130, 0, none⟩ = some (.slice A0_0 l0_0.length c0_0) := (blk_cell BK130.out 0).trans rfl; have hcz47_1 : w45.cell? ⟨gb130, 1, none⟩ = some (.int .i64 a0_1) := (blk_cell BK130.out 1).trans rfl; have hcz47_2 : w45.cell? ⟨gb130, 2, none⟩ = some (.int .i64 a0_2) := (blk_cell BK130.out 2).trans rfl; have hfz47_0 := blk_frozen BK130.out 0; have hfz47_1 := blk_frozen BK130.out 1; have hfz47_2 := blk_frozen BK130.out 2) | (go_at_call 72; (with_reducible refine (spec_l1In.calls a1_1 0 (wrap64 (a0_1 - 1)) true _ A7.out).mono ?_); rintro e w' ⟨rfl, ⟨nd, rfl⟩⟩) | (go_at_call 72; (with_reducible refine (spec_l1In.calls a1_2 0 (wrap64 (a0_2 - 1)) true _ A9.out).mono ?_); rintro e w' ⟨rfl, ⟨nd, rfl⟩⟩) | (go_at_call 101; (with_reducible refine (spec_l1Amount.calls a1_3 false _ A11.out).mono ?_); rintro e w' ⟨rfl, ⟨nd, rfl⟩⟩))
  go_ret
  exact ⟨tZC, bZ⟩
 subst c12
 have H1 : ((spec_l1Amount.f a1_4).bind fun t137 => (if t137 = true then (if a1_2 = 0 then (some (a1_3 == a1_4)) else (some true)) else (some false))) = some r := by rw [if_pos rfl] at H; exact H
 clear H
 have H := H1
 clear H1
 replace H := Option.bind_eq_some_iff.mp H
 obtain ⟨t137, A130, H⟩ := H
 replace H : (if t137 = true then (if a1_2 = 0 then (some (a1_3 == a1_4)) else (some true)) else (some false)) = some r := H
 have A13 := Aside0.mk A130
 clear A130
 by_cases c14 : t137 = true
 rotate_left
 ·replace c14 := Bool.eq_false_iff.mpr c14
  subst c14
  have H1 : (some false) = some r := by rw [if_neg (show ¬ (false = true) by decide)] at H; exact H
  clear H
  have H := H1
  clear H1
  obtain rfl := Option.some.inj H
  go_enter Try.func74, Try.ntmps74
  go_wp2_with (first | ((with_reducible refine gate_dst (N := 2) rfl ?_); refine box_event ?hg (N := 2) ?hd (cs := #[.slice A0_0 l0_0.length c0_0, .int .i64 a0_1, .int .i64 a0_2]) (t := 33) ?hr ?_; (case hd => rfl); (case hg => rfl); (case hr => first | (go_simp; done) | (go_simp; rfl)); intro gb130 hg w32 hbox hb; have BK130 := aZ (hbox); have GW130 := aZ ((by rw [hg]; exact (below_size (lZB HB.out)) : w.heap.size ≤ gb130)); have GE130 := aZ ((by rw [hg]; exact (below_size (lZB HB.out)) : w.heap.size ≤ gb130)); replace HB := aZ (below_step (lZB HB.out) hb); clear hb hbox hg) | ((with_reducible refine gate_dst (N := 3) rfl ?_); refine box_event ?hg (N := 3) ?hd (cs := #[.int .i64 a1_0, .int .i64 a1_1, .int .i64 a1_2, .int .i64 a1_3, .int .i64 a1_4]) (t := 109) ?hr ?_; (case hd => rfl); (case hg => rfl); (case hr => first | (go_simp; done) | (go_simp; rfl)); intro gb131 hg w33 hbox hb; have BK131 := aZ (hbox); have GW131 := aZ ((by rw [hg]; exact (below_size bZ) : w.heap.size ≤ gb131)); have GE131 := aZ ((by rw [hg]; exact (below_size bZ) : w.heap.size ≤ gb131)); replace HB := aZ (below_step bZ hb); have NB130_131 := aZ ((by rw [hg]; exact Nat.ne_of_lt (blk_lt (bkZ BK130.out)) : gb130 ≠ gb131)); have NB131_130 := aZ ((by rw [hg]; exact Nat.ne_of_gt (blk_lt (bkZ BK130.out)) : gb131 ≠ gb130)); replace BK130 := aZ (blk_below (bkZ BK130.out) hb); clear hb hbox hg; have hnb34 := NB131_130.out; have hnc34 := NB130_131.out; have hcz35_0 : w33.cell? ⟨gb131, 0, none⟩ = some (.int .i64 a1_0) := (blk_cell BK131.out 0).trans rfl; have hcz35_1 : w33.cell? ⟨gb131, 1, none⟩ = some (.int .i64 a1_1) := (blk_cell BK131.out 1).trans rfl; have hcz35_2 : w33.cell? ⟨gb131, 2, none⟩ = some (.int .i64 a1_2) := (blk_cell BK131.out 2).trans rfl; have hcz35_3 : w33.cell? ⟨gb131, 3, none⟩ = some (.int .i64 a1_3) := (blk_cell BK131.out 3).trans rfl; have hcz35_4 : w33.cell? ⟨gb131, 4, none⟩ = some (.int .i64 a1_4) := (blk_cell BK131.out 4).trans rfl; have hfz35_0 := blk_frozen BK131.out 0; have hfz35_1 := blk_frozen BK131.out 1; have hfz35_2 := blk_frozen BK131.out 2; have hfz35_3 := blk_frozen BK131.out 3; have hfz35_4 := blk_frozen BK131.out 4; have hcz36_0 : w33.cell? ⟨gb130, 0, none⟩ = some (.slice A0_0 l0_0.length c0_0) := (blk_cell BK130.out 0).trans rfl; have hcz36_1 : w33.cell? ⟨gb130, 1, none⟩ = some (.int .i64 a0_1) := (blk_cell BK130.out 1).trans rfl; have hcz36_2 : w33.cell? ⟨gb130, 2, none⟩ = some (.int .i64 a0_2) := (blk_cell BK130.out 2).trans rfl; have hfz36_0 := blk_frozen BK130.out 0; have hfz36_1 := blk_frozen BK130.out 1; have hfz36_2 := blk_frozen BK130.out 2) | ((with_reducible refine gate_callee (f := 72) rfl ?_); refine goesL_ (some 11) rfl rfl Try.func72 kZ rfl #[.int .i64 a1_0, .int .i64 0, .int .i64 (wrap64 ((l0_0.length : Int) - 1))] rfl tZA ?_; (with_reducible refine (spec_l1In.calls a1_0 0 (wrap64 ((l0_0.length : Int) - 1)) true _ A3.out).mono ?_); rintro e w' ⟨rfl, ⟨nd, rfl⟩⟩; refine ⟨_, rfl, ?_⟩) | (go_at_call 139; (with_reducible refine (spec_Leaf.calls k _ _ l0_0 a1_0 true _ ?side1 ?side2 A5.out).mono ?_); (case side1 => repeat (first | exact (Kd.C_below HR0_0.out bZ) | (with_reducible refine Kd.C_alloc ?_ _) | (with_reducible refine Kd.C_drewN ?_ _) | (with_reducible refine Kd.C_drew ?_))); (case side2 => exact HC0_0.out); rintro e w37 ⟨rfl, hb⟩; replace BK130 := aZ (blk_below (bkZ BK130.out) hb); replace BK131 := aZ (blk_below (bkZ BK131.out) hb); replace HB := aZ (below_step bZ hb); (try clear hb); (try clear hb2); (try clear hk); (try clear hi); have hcz38_0 : w37.cell? ⟨gb131, 0, none⟩ = some (.int .i64 a1_0) := (blk_cell BK131.out 0).trans rfl; have hcz38_1 : w37.cell? ⟨gb131, 1, none⟩ = some (.int .i64 a1_1) := (blk_cell BK131.out 1).trans rfl; have hcz38_2 : w37.cell? ⟨gb131, 2, none⟩ = some (.int .i64 a1_2) := (blk_cell BK131.out 2).trans rfl; have hcz38_3 : w37.cell? ⟨gb131, 3, none⟩ = some (.int .i64 a1_3) := (blk_cell BK131.out 3).trans rfl; have hcz38_4 : w37.cell? ⟨gb131, 4, none⟩ = some (.int .i64 a1_4) := (blk_cell BK131.out 4).trans rfl; have hfz38_0 := blk_frozen BK131.out 0; have hfz38_1 := blk_frozen BK131.out 1; have hfz38_2 := blk_frozen BK131.out 2; have hfz38_3 := blk_frozen BK131.out 3; have hfz38_4 := blk_frozen BK131.out 4; have hcz39_0 : w37.cell? ⟨gb130, 0, none⟩ = some (.slice A0_0 l0_0.length c0_0) := (blk_cell BK130.out 0).trans rfl; have hcz39_1 : w37.cell? ⟨gb130, 1, none⟩ = some (.int .i64 a0_1) := (blk_cell BK130.out 1).trans rfl; have hcz39_2 : w37.cell? ⟨gb130, 2, none⟩ = some (.int .i64 a0_2) := (blk_cell BK130.out 2).trans rfl; have hfz39_0 := blk_frozen BK130.out 0; have hfz39_1 := blk_frozen BK130.out 1; have hfz39_2 := blk_frozen BK130.out 2) | (go_at_call 72; (with_reducible refine (spec_l1In.calls a1_1 0 (wrap64 (a0_1 - 1)) true _ A7.out).mono ?_); rintro e w' ⟨rfl, ⟨nd, rfl⟩⟩) | (go_at_call 72; (with_reducible refine (spec_l1In.calls a1_2 0 (wrap64 (a0_2 - 1)) true _ A9.out).mono ?_); rintro e w' ⟨rfl, ⟨nd, rfl⟩⟩) | (go_at_call 101; (with_reducible refine (spec_l1Amount.calls a1_3 true _ A11.out).mono ?_); rintro e w' ⟨rfl, ⟨nd, rfl⟩⟩) | (go_at_call 101; (with_reducible refine (spec_l1Amount.calls a1_4 false _ A13.out).mono ?_); rintro e w' ⟨rfl, ⟨nd, rfl⟩⟩))
  go_ret
  exact ⟨tZC, bZ⟩
 subst c14
 have H1 : (if a1_2 = 0 then (some (a1_3 == a1_4)) else (some true)) = some r := by rw [if_pos rfl] at H; exact H
 clear H
 have H := H1
 clear H1
 by_cases c15 : a1_2 = 0
 rotate_left
 ·rw [if_neg c15] at H
  have c15b0 : (a1_2 == 0) = false := beq_eq_false_iff_ne.mpr c15
  have c15b1 : (a1_2 != 0) = true := bne_iff_ne.mpr c15
  obtain rfl := Option.some.inj H
  go_enter Try.func74, Try.ntmps74
  go_wp2_with (first | ((with_reducible refine gate_dst (N := 2) rfl ?_); refine box_event ?hg (N := 2) ?hd (cs := #[.slice A0_0 l0_0.length c0_0, .int .i64 a0_1, .int .i64 a0_2]) (t := 33) ?hr ?_; (case hd => rfl); (case hg => rfl); (case hr => first | (go_simp; done) | (go_simp; rfl)); intro gb130 hg w24 hbox hb; have BK130 := aZ (hbox); have GW130 := aZ ((by rw [hg]; exact (below_size (lZB HB.out)) : w.heap.size ≤ gb130)); have GE130 := aZ ((by rw [hg]; exact (below_size (lZB HB.out)) : w.heap.size ≤ gb130)); replace HB := aZ (below_step (lZB HB.out) hb); clear hb hbox hg) | ((with_reducible refine gate_dst (N := 3) rfl ?_); refine box_event ?hg (N := 3) ?hd (cs := #[.int .i64 a1_0, .int .i64 a1_1, .int .i64 a1_2, .int .i64 a1_3, .int .i64 a1_4]) (t := 109) ?hr ?_; (case hd => rfl); (case hg => rfl); (case hr => first | (go_simp; done) | (go_simp; rfl)); intro gb131 hg w25 hbox hb; have BK131 := aZ (hbox); have GW131 := aZ ((by rw [hg]; exact (below_size bZ) : w.heap.size ≤ gb131)); have GE131 := aZ ((by rw [hg]; exact (below_size bZ) : w.heap.size ≤ gb131)); replace HB := aZ (below_step bZ hb); have NB130_131 := aZ ((by rw [hg]; exact Nat.ne_of_lt (blk_lt (bkZ BK130.out)) : gb130 ≠ gb131)); have NB131_130 := aZ ((by rw [hg]; exact Nat.ne_of_gt (blk_lt (bkZ BK130.out)) : gb131 ≠ gb130)); replace BK130 := aZ (blk_below (bkZ BK130.out) hb); clear hb hbox hg; have hnb26 := NB131_130.out; have hnc26 := NB130_131.out; have hcz27_0 : w25.cell? ⟨gb131, 0, none⟩ = some (.int .i64 a1_0) := (blk_cell BK131.out 0).trans rfl; have hcz27_1 : w25.cell? ⟨gb131, 1, none⟩ = some (.int .i64 a1_1) := (blk_cell BK131.out 1).trans rfl; have hcz27_2 : w25.cell? ⟨gb131, 2, none⟩ = some (.int .i64 a1_2) := (blk_cell BK131.out 2).trans rfl; have hcz27_3 : w25.cell? ⟨gb131, 3, none⟩ = some (.int .i64 a1_3) := (blk_cell BK131.out 3).trans rfl; have hcz27_4 : w25.cell? ⟨gb131, 4, none⟩ = some (.int .i64 a1_4) := (blk_cell BK131.out 4).trans rfl; have hfz27_0 := blk_frozen BK131.out 0; have hfz27_1 := blk_frozen BK131.out 1; have hfz27_2 := blk_frozen BK131.out 2; have hfz27_3 := blk_frozen BK131.out 3; have hfz27_4 := blk_frozen BK131.out 4; have hcz28_0 : w25.cell? ⟨gb130, 0, none⟩ = some (.slice A0_0 l0_0.length c0_0) := (blk_cell BK130.out 0).trans rfl; have hcz28_1 : w25.cell? ⟨gb130, 1, none⟩ = some (.int .i64 a0_1) := (blk_cell BK130.out 1).trans rfl; have hcz28_2 : w25.cell? ⟨gb130, 2, none⟩ = some (.int .i64 a0_2) := (blk_cell BK130.out 2).trans rfl; have hfz28_0 := blk_frozen BK130.out 0; have hfz28_1 := blk_frozen BK130.out 1; have hfz28_2 := blk_frozen BK130.out 2) | ((with_reducible refine gate_callee (f := 72) rfl ?_); refine goesL_ (some 11) rfl rfl Try.func72 kZ rfl #[.int .i64 a1_0, .int .i64 0, .int .i64 (wrap64 ((l0_0.length : Int) - 1))] rfl tZA ?_; (with_reducible refine (spec_l1In.calls a1_0 0 (wrap64 ((l0_0.length : Int) - 1)) true _ A3.out).mono ?_); rintro e w' ⟨rfl, ⟨nd, rfl⟩⟩; refine ⟨_, rfl, ?_⟩) | (go_at_call 139; (with_reducible refine (spec_Leaf.calls k _ _ l0_0 a1_0 true _ ?side1 ?side2 A5.out).mono ?_); (case side1 => repeat (first | exact (Kd.C_below HR0_0.out bZ) | (with_reducible refine Kd.C_alloc ?_ _) | (with_reducible refine Kd.C_drewN ?_ _) | (with_reducible refine Kd.C_drew ?_))); (case side2 => exact HC0_0.out); rintro e w29 ⟨rfl, hb⟩; replace BK130 := aZ (blk_below (bkZ BK130.out) hb); replace BK131 := aZ (blk_below (bkZ BK131.out) hb); replace HB := aZ (below_step bZ hb); (try clear hb); (try clear hb2); (try clear hk); (try clear hi); have hcz30_0 : w29.cell? ⟨gb131, 0, none⟩ = some (.int .i64 a1_0) := (blk_cell BK131.out 0).trans rfl; have hcz30_1 : w29.cell? ⟨gb131, 1, none⟩ = some (.int .i64 a1_1) := (blk_cell BK131.out 1).trans rfl; have hcz30_2 : w29.cell? ⟨gb131, 2, none⟩ = some (.int .i64 a1_2) := (blk_cell BK131.out 2).trans rfl; have hcz30_3 : w29.cell? ⟨gb131, 3, none⟩ = some (.int .i64 a1_3) := (blk_cell BK131.out 3).trans rfl; have hcz30_4 : w29.cell? ⟨gb131, 4, none⟩ = some (.int .i64 a1_4) := (blk_cell BK131.out 4).trans rfl; have hfz30_0 := blk_frozen BK131.out 0; have hfz30_1 := blk_frozen BK131.out 1; have hfz30_2 := blk_frozen BK131.out 2; have hfz30_3 := blk_frozen BK131.out 3; have hfz30_4 := blk_frozen BK131.out 4; have hcz31_0 : w29.cell? ⟨gb130, 0, none⟩ = some (.slice A0_0 l0_0.length c0_0) := (blk_cell BK130.out 0).trans rfl; have hcz31_1 : w29.cell? ⟨gb130, 1, none⟩ = some (.int .i64 a0_1) := (blk_cell BK130.out 1).trans rfl; have hcz31_2 : w29.cell? ⟨gb130, 2, none⟩ = some (.int .i64 a0_2) := (blk_cell BK130.out 2).trans rfl; have hfz31_0 := blk_frozen BK130.out 0; have hfz31_1 := blk_frozen BK130.out 1; have hfz31_2 := blk_frozen BK130.out 2) | (go_at_call 72; (with_reducible refine (spec_l1In.calls a1_1 0 (wrap64 (a0_1 - 1)) true _ A7.out).mono ?_); rintro e w' ⟨rfl, ⟨nd, rfl⟩⟩) | (go_at_call 72; (with_reducible refine (spec_l1In.calls a1_2 0 (wrap64 (a0_2 - 1)) true _ A9.out).mono ?_); rintro e w' ⟨rfl, ⟨nd, rfl⟩⟩) | (go_at_call 101; (with_reducible refine (spec_l1Amount.calls a1_3 true _ A11.out).mono ?_); rintro e w' ⟨rfl, ⟨nd, rfl⟩⟩) | (go_at_call 101; (with_reducible refine (spec_l1Amount.calls a1_4 true _ A13.out).mono ?_); rintro e w' ⟨rfl, ⟨nd, rfl⟩⟩))
  go_ret
  exact ⟨tZC, bZ⟩
 rw [if_pos c15] at H
 have c15b0 : (a1_2 == 0) = true := beq_iff_eq.mpr c15
 have c15b1 : (a1_2 != 0) = false := bne_eq_false_iff_eq.mpr c15
 clear c15
 obtain rfl := Option.some.inj H
 go_enter Try.func74, Try.ntmps74
 go_wp2_with (first | ((with_reducible refine gate_dst (N := 2) rfl ?_); refine box_event ?hg (N := 2) ?hd (cs := #[.slice A0_0 l0_0.length c0_0, .int .i64 a0_1, .int .i64 a0_2]) (t := 33) ?hr ?_; (case hd => rfl); (case hg => rfl); (case hr => first | (go_simp; done) | (go_simp; rfl)); intro gb130 hg w16 hbox hb; have BK130 := aZ (hbox); have GW130 := aZ ((by rw [hg]; exact (below_size (lZB HB.out)) : w.heap.size ≤ gb130)); have GE130 := aZ ((by rw [hg]; exact (below_size (lZB HB.out)) : w.heap.size ≤ gb130)); replace HB := aZ (below_step (lZB HB.out) hb); clear hb hbox hg) | ((with_reducible refine gate_dst (N := 3) rfl ?_); refine box_event ?hg (N := 3) ?hd (cs := #[.int .i64 a1_0, .int .i64 a1_1, .int .i64 a1_2, .int .i64 a1_3, .int .i64 a1_4]) (t := 109) ?hr ?_; (case hd => rfl); (case hg => rfl); (case hr => first | (go_simp; done) | (go_simp; rfl)); intro gb131 hg w17 hbox hb; have BK131 := aZ (hbox); have GW131 := aZ ((by rw [hg]; exact (below_size bZ) : w.heap.size ≤ gb131)); have GE131 := aZ ((by rw [hg]; exact (below_size bZ) : w.heap.size ≤ gb131)); replace HB := aZ (below_step bZ hb); have NB130_131 := aZ ((by rw [hg]; exact Nat.ne_of_lt (blk_lt (bkZ BK130.out)) : gb130 ≠ gb131)); have NB131_130 := aZ ((by rw [hg]; exact Nat.ne_of_gt (blk_lt (bkZ BK130.out)) : gb131 ≠ gb130)); replace BK130 := aZ (blk_below (bkZ BK130.out) hb); clear hb hbox hg; have hnb18 := NB131_130.out; have hnc18 := NB130_131.out; have hcz19_0 : w17.cell? ⟨gb131, 0, none⟩ = some (.int .i64 a1_0) := (blk_cell BK131.out 0).trans rfl; have hcz19_1 : w17.cell? ⟨gb131, 1, none⟩ = some (.int .i64 a1_1) := (blk_cell BK131.out 1).trans rfl; have hcz19_2 : w17.cell? ⟨gb131, 2, none⟩ = some (.int .i64 a1_2) := (blk_cell BK131.out 2).trans rfl; have hcz19_3 : w17.cell? ⟨gb131, 3, none⟩ = some (.int .i64 a1_3) := (blk_cell BK131.out 3).trans rfl; have hcz19_4 : w17.cell? ⟨gb131, 4, none⟩ = some (.int .i64 a1_4) := (blk_cell BK131.out 4).trans rfl; have hfz19_0 := blk_frozen BK131.out 0; have hfz19_1 := blk_frozen BK131.out 1; have hfz19_2 := blk_frozen BK131.out 2; have hfz19_3 := blk_frozen BK131.out 3; have hfz19_4 := blk_frozen BK131.out 4; have hcz20_0 : w17.cell? ⟨gb130, 0, none⟩ = some (.slice A0_0 l0_0.length c0_0) := (blk_cell BK130.out 0).trans rfl; have hcz20_1 : w17.cell? ⟨gb130, 1, none⟩ = some (.int .i64 a0_1) := (blk_cell BK130.out 1).trans rfl; have hcz20_2 : w17.cell? ⟨gb130, 2, none⟩ = some (.int .i64 a0_2) := (blk_cell BK130.out 2).trans rfl; have hfz20_0 := blk_frozen BK130.out 0; have hfz20_1 := blk_frozen BK130.out 1; have hfz20_2 := blk_frozen BK130.out 2) | ((with_reducible refine gate_callee (f := 72) rfl ?_); refine goesL_ (some 11) rfl rfl Try.func72 kZ rfl #[.int .i64 a1_0, .int .i64 0, .int .i64 (wrap64 ((l0_0.length : Int) - 1))] rfl tZA ?_; (with_reducible refine (spec_l1In.calls a1_0 0 (wrap64 ((l0_0.length : Int) - 1)) true _ A3.out).mono ?_); rintro e w' ⟨rfl, ⟨nd, rfl⟩⟩; refine ⟨_, rfl, ?_⟩) | (go_at_call 139; (with_reducible refine (spec_Leaf.calls k _ _ l0_0 a1_0 true _ ?side1 ?side2 A5.out).mono ?_); (case side1 => repeat (first | exact (Kd.C_below HR0_0.out bZ) | (with_reducible refine Kd.C_alloc ?_ _) | (with_reducible refine Kd.C_drewN ?_ _) | (with_reducible refine Kd.C_drew ?_))); (case side2 => exact HC0_0.out); rintro e w21 ⟨rfl, hb⟩; replace BK130 := aZ (blk_below (bkZ BK130.out) hb); replace BK131 := aZ (blk_below (bkZ BK131.out) hb); replace HB := aZ (below_step bZ hb); (try clear hb); (try clear hb2); (try clear hk); (try clear hi); have hcz22_0 : w21.cell? ⟨gb131, 0, none⟩ = some (.int .i64 a1_0) := (blk_cell BK131.out 0).trans rfl; have hcz22_1 : w21.cell? ⟨gb131, 1, none⟩ = some (.int .i64 a1_1) := (blk_cell BK131.out 1).trans rfl; have hcz22_2 : w21.cell? ⟨gb131, 2, none⟩ = some (.int .i64 a1_2) := (blk_cell BK131.out 2).trans rfl; have hcz22_3 : w21.cell? ⟨gb131, 3, none⟩ = some (.int .i64 a1_3) := (blk_cell BK131.out 3).trans rfl; have hcz22_4 : w21.cell? ⟨gb131, 4, none⟩ = some (.int .i64 a1_4) := (blk_cell BK131.out 4).trans rfl; have hfz22_0 := blk_frozen BK131.out 0; have hfz22_1 := blk_frozen BK131.out 1; have hfz22_2 := blk_frozen BK131.out 2; have hfz22_3 := blk_frozen BK131.out 3; have hfz22_4 := blk_frozen BK131.out 4; have hcz23_0 : w21.cell? ⟨gb130, 0, none⟩ = some (.slice A0_0 l0_0.length c0_0) := (blk_cell BK130.out 0).trans rfl; have hcz23_1 : w21.cell? ⟨gb130, 1, none⟩ = some (.int .i64 a0_1) := (blk_cell BK130.out 1).trans rfl; have hcz23_2 : w21.cell? ⟨gb130, 2, none⟩ = some (.int .i64 a0_2) := (blk_cell BK130.out 2).trans rfl; have hfz23_0 := blk_frozen BK130.out 0; have hfz23_1 := blk_frozen BK130.out 1; have hfz23_2 := blk_frozen BK130.out 2) | (go_at_call 72; (with_reducible refine (spec_l1In.calls a1_1 0 (wrap64 (a0_1 - 1)) true _ A7.out).mono ?_); rintro e w' ⟨rfl, ⟨nd, rfl⟩⟩) | (go_at_call 72; (with_reducible refine (spec_l1In.calls a1_2 0 (wrap64 (a0_2 - 1)) true _ A9.out).mono ?_); rintro e w' ⟨rfl, ⟨nd, rfl⟩⟩) | (go_at_call 101; (with_reducible refine (spec_l1Amount.calls a1_3 true _ A11.out).mono ?_); rintro e w' ⟨rfl, ⟨nd, rfl⟩⟩) | (go_at_call 101; (with_reducible refine (spec_l1Amount.calls a1_4 true _ A13.out).mono ?_); rintro e w' ⟨rfl, ⟨nd, rfl⟩⟩))
 go_ret
 exact ⟨tZC, bZ⟩
end Go.Proofs.Ytjnmfadnkbflfaa.PFnExactEntryOk
