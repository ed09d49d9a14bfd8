import Derived.Test.YtjnmfadnkbflfaaDPFnExactNeededx0
import Derived.Test.YtjnmfadnkbflfaaDPFnExactNeededx3
import Derived.Test.YtjnmfadnkbflfaaDPFnExactNeededx5
import Derived.Test.YtjnmfadnkbflfaaDPFnExactNeededx6
import Derived.Test.YtjnmfadnkbflfaaDSlimWords
namespace Go.Proofs.Ytjnmfadnkbflfaa.PFnExactNeeded
open Go.Proofs.Ytjnmfadnkbflfaa.SlimWords
open Go.RowKit Go.Proofs.YtjnmfadnkbflfaaW.PrintWords Go.Proofs.YtjnmfadnkbflfaaW.PrintLast Go.Proofs.YtjnmfadnkbflfaaW.PrintMore Go.Proofs.Ytjnmfadnkbflfaa.MapWords Go.Proofs.Ytjnmfadnkbflfaa.IterWords Go.Proofs.Ytjnmfadnkbflfaa.MarkWords
attribute [local go_sem] max2_int min2_int max_two min_two max_three min_three max_four min_four
set_option linter.unusedVariables false
set_option linter.unusedSimpArgs false
def spec_ShowFlow.l0 : Nat → List (S119) → ByteArray → Int → Option (ByteArray)
  | 0, _, _, _ => none
  | k + 1, x0, x3, x4 => if x4 < (x0.length : Int) then ((spec_l11FlowOk.f k x0).bind fun t166 => (if t166 = true then (if 0 ≤ x4 then ((spec_l11Step.f k ((rd_T119 x0 x4).f0) ((rd_T119 x0 x4).f1)).bind fun t168 => (if x3.size + t168.size ≤ 9223372036854775807 then (spec_ShowFlow.l0 k x0 (x3 ++ t168) (wrap64 (x4 + 1))) else (none))) else (none)) else (if (x3.size : Int) > 2000 then (some (⟨#[]⟩ : ByteArray)) else (some x3)))) else (if (x3.size : Int) > 2000 then (some (⟨#[]⟩ : ByteArray)) else (some x3))
def spec_ShowFlow.f (k : Nat) (l0 : List (S119)) : Option (ByteArray) := spec_ShowFlow.l0 k l0 (⟨#[]⟩ : ByteArray) 0
theorem spec_ShowFlow.mono_l : ∀ k, (∀ y0 y1 y2, LeO (spec_ShowFlow.l0 k y0 y1 y2) (spec_ShowFlow.l0 (k + 1) y0 y1 y2))
  | 0 => fun _ _ _ r h => by simp [spec_ShowFlow.l0] at h
  | k + 1 => by
    have ih0 := spec_ShowFlow.mono_l k
    · intro y0 y1 y2
      unfold spec_ShowFlow.l0
      repeat' first
      | (with_reducible exact ih0 _ _ _)
      | (with_reducible exact spec_l11FlowOk.mono _ _)
      | (with_reducible exact spec_l11Step.mono _ _ _)
      | (with_reducible exact LeO.refl _)
      | (with_reducible exact LeO.none _)
      | (with_reducible refine LeO.ite ?_ ?_)
      | (with_reducible refine LeO.bind ?_ (fun _ => ?_))
      | exact ih0 _ _ _
      | exact spec_l11FlowOk.mono _ _
      | exact spec_l11Step.mono _ _ _
      | exact LeO.none _
      | refine LeO.ite ?_ ?_
      | refine LeO.bind ?_ (fun _ => ?_)
theorem spec_ShowFlow.mono : ∀ a0 k, LeO (spec_ShowFlow.f k a0) (spec_ShowFlow.f (k + 1) a0) := by
 intro a0 k
 have ih0 := spec_ShowFlow.mono_l k
 unfold spec_ShowFlow.f
 repeat' first
     | (with_reducible exact ih0 _ _ _)
     | (with_reducible exact spec_l11FlowOk.mono _ _)
     | (with_reducible exact spec_l11Step.mono _ _ _)
     | (with_reducible exact LeO.refl _)
     | (with_reducible exact LeO.none _)
     | (with_reducible refine LeO.ite ?_ ?_)
     | (with_reducible refine LeO.bind ?_ (fun _ => ?_))
     | exact ih0 _ _ _
     | exact spec_l11FlowOk.mono _ _
     | exact spec_l11Step.mono _ _ _
     | exact LeO.none _
     | refine LeO.ite ?_ ?_
     | refine LeO.bind ?_ (fun _ => ?_)
set_option maxHeartbeats 8000000 in
set_option maxRecDepth 100000 in
theorem spec_ShowFlow.calls (k : Nat) (A0 : Option Addr) (c0 : Nat) (l0 : List (S119)) (r : ByteArray) (w : World) (hr0 : Kd.C k119 w A0 l0.length l0) (hc0 : l0.length ≤ c0) (h : spec_ShowFlow.f k l0 = some r) :
    Calls Try.prog 23 #[.slice A0 l0.length c0] w fun e w' => e = .returned (.string r) ∧ Below w.heap.size w w' := by
 have hu119 := Try.underlying119
 have HR0 := Aside0.mk hr0
 have HC0 := Aside0.mk hc0
 clear hr0 hc0
 have HB := aZ (Below.refl w.heap.size w)
 have H : (spec_ShowFlow.l0 k l0 (⟨#[]⟩ : ByteArray) 0) = some r := h
 clear h
 have H' := Aside0.mk H
 clear H
 go_enter Try.func23, Try.ntmps23
 go_wp2
 go_loopg [3, 4] k (fun kq v3 v4 w' => ∃ (x3_1 : ByteArray) (x4_1 : Int), v3 = .string x3_1 ∧ v4 = .int .i64 x4_1 ∧ Aside0 (spec_ShowFlow.l0 kq l0 x3_1 x4_1 = some r) ∧ Aside0 (kq ≤ k) ∧ Aside0 (Below w.heap.size w w'))
 case atStart => exact ⟨((⟨#[]⟩ : ByteArray)), (0), tZB, tZB, H', ⟨Nat.le_refl _⟩, ⟨bZ⟩⟩
 case round =>
  clear H'
  obtain ⟨x3_1, x4_1, rfl, rfl, HA, HK1, HB⟩ := hrel
  cases gk with
  | zero => exact absurd HA.out (by simp [spec_ShowFlow.l0])
  | succ k1 =>
   have H := HA.out
   clear HA
   simp only [spec_ShowFlow.l0] at H
   by_cases c2 : x4_1 < (l0.length : Int)
   rotate_left
   ·rw [if_neg c2] at H
    have c2b0 := decide_eq_false c2
    clear c2
    by_cases c13 : (x3_1.size : Int) > 2000
    ·rw [if_pos c13] at H
     have c13b0 : decide (2000 < (x3_1.size : Int)) = true := decide_eq_true c13
     have c13b1 : decide (2000 < x3_1.size) = true := decide_eq_true (by omega)
     clear c13
     obtain rfl := Option.some.inj H
     go_wp2
     go_ret
     exact ⟨tZC, bZ⟩
    rw [if_neg c13] at H
    have c13b0 : decide (2000 < (x3_1.size : Int)) = false := decide_eq_false c13
    have c13b1 : decide (2000 < x3_1.size) = false := decide_eq_false (by omega)
    clear c13
    obtain rfl := Option.some.inj H
    go_wp2
    go_ret
    exact ⟨tZC, bZ⟩
   rw [if_pos c2] at H
   have c2b0 := decide_eq_true c2
   clear c2
   replace H := Option.bind_eq_some_iff.mp H
   obtain ⟨t166, A30, H⟩ := H
   replace H : (if t166 = true then (if 0 ≤ x4_1 then ((spec_l11Step.f k1 ((rd_T119 l0 x4_1).f0) ((rd_T119 l0 x4_1).f1)).bind fun t168 => (if x3_1.size + t168.size ≤ 9223372036854775807 then (spec_ShowFlow.l0 k1 l0 (x3_1 ++ t168) (wrap64 (x4_1 + 1))) else (none))) else (none)) else (if (x3_1.size : Int) > 2000 then (some (⟨#[]⟩ : ByteArray)) else (some x3_1))) = some r := H
   have A3 := Aside0.mk A30
   clear A30
   by_cases c4 : t166 = true
   rotate_left
   ·replace c4 := Bool.eq_false_iff.mpr c4
    subst c4
    have H1 : (if (x3_1.size : Int) > 2000 then (some (⟨#[]⟩ : ByteArray)) else (some x3_1)) = some r := by rw [if_neg (show ¬ (false = true) by decide)] at H; exact H
    clear H
    have H := H1
    clear H1
    by_cases c10 : (x3_1.size : Int) > 2000
    ·rw [if_pos c10] at H
     have c10b0 : decide (2000 < (x3_1.size : Int)) = true := decide_eq_true c10
     have c10b1 : decide (2000 < x3_1.size) = true := decide_eq_true (by omega)
     clear c10
     obtain rfl := Option.some.inj H
     go_wp2_with (first | (go_at_call 82; (with_reducible refine (spec_l11FlowOk.calls k1 _ _ l0 false _ ?side1 ?side2 A3.out).mono ?_); (case side1 => repeat (first | exact (Kd.C_below HR0.out HB.out) | (with_reducible refine Kd.C_alloc ?_ _) | (with_reducible refine Kd.C_drewN ?_ _) | (with_reducible refine Kd.C_drew ?_))); (case side2 => exact HC0.out); rintro e w11 ⟨rfl, hb⟩; replace HB := aZ (below_step (lZB HB.out) hb); (try clear hb); (try clear hb2); (try clear hk); (try clear hi)))
     go_ret
     exact ⟨tZC, bZ⟩
    rw [if_neg c10] at H
    have c10b0 : decide (2000 < (x3_1.size : Int)) = false := decide_eq_false c10
    have c10b1 : decide (2000 < x3_1.size) = false := decide_eq_false (by omega)
    clear c10
    obtain rfl := Option.some.inj H
    go_wp2_with (first | (go_at_call 82; (with_reducible refine (spec_l11FlowOk.calls k1 _ _ l0 false _ ?side1 ?side2 A3.out).mono ?_); (case side1 => repeat (first | exact (Kd.C_below HR0.out HB.out) | (with_reducible refine Kd.C_alloc ?_ _) | (with_reducible refine Kd.C_drewN ?_ _) | (with_reducible refine Kd.C_drew ?_))); (case side2 => exact HC0.out); rintro e w12 ⟨rfl, hb⟩; replace HB := aZ (below_step (lZB HB.out) hb); (try clear hb); (try clear hb2); (try clear hk); (try clear hi)))
    go_ret
    exact ⟨tZC, bZ⟩
   subst c4
   have H1 : (if 0 ≤ x4_1 then ((spec_l11Step.f k1 ((rd_T119 l0 x4_1).f0) ((rd_T119 l0 x4_1).f1)).bind fun t168 => (if x3_1.size + t168.size ≤ 9223372036854775807 then (spec_ShowFlow.l0 k1 l0 (x3_1 ++ t168) (wrap64 (x4_1 + 1))) else (none))) else (none)) = some r := by rw [if_pos rfl] at H; exact H
   clear H
   have H := H1
   clear H1
   by_cases c5 : 0 ≤ x4_1
   rotate_left
   ·rw [if_neg c5] at H
    exact absurd H (by simp)
   rw [if_pos c5] at H
   have c5b0 := decide_eq_true c5
   clear c5
   replace H := Option.bind_eq_some_iff.mp H
   obtain ⟨t168, A60, H⟩ := H
   replace H : (if x3_1.size + t168.size ≤ 9223372036854775807 then (spec_ShowFlow.l0 k1 l0 (x3_1 ++ t168) (wrap64 (x4_1 + 1))) else (none)) = some r := H
   have A6 := Aside0.mk A60
   clear A60
   by_cases c7 : x3_1.size + t168.size ≤ 9223372036854775807
   rotate_left
   ·rw [if_neg c7] at H
    exact absurd H (by simp)
   rw [if_pos c7] at H
   have c7b0 := eq_true c7
   have c7b1 := decide_eq_true c7
   try have c7b2 := eq_false (Nat.not_lt.2 c7)
   have H' := Aside0.mk H
   clear H
   go_wp2_with (first | (go_at_call 82; (with_reducible refine (spec_l11FlowOk.calls k1 _ _ l0 true _ ?side1 ?side2 A3.out).mono ?_); (case side1 => repeat (first | exact (Kd.C_below HR0.out HB.out) | (with_reducible refine Kd.C_alloc ?_ _) | (with_reducible refine Kd.C_drewN ?_ _) | (with_reducible refine Kd.C_drew ?_))); (case side2 => exact HC0.out); rintro e w8 ⟨rfl, hb⟩; replace HB := aZ (below_step (lZB HB.out) hb); (try clear hb); (try clear hb2); (try clear hk); (try clear hi); have p167 : 0 ≤ (x4_1 : Int) := of_decide_eq_true tZE; have q167 : x4_1 < (l0.length : Int) := of_decide_eq_true tZE; obtain ⟨ad167, A167_1, c167_1, e167, hx167_0, hx167_1, hl167_1, hi167_1⟩ := at_T119 HR0.out x4_1 p167 q167; cases e167; replace hx167_0 := cZ HB hx167_0; replace hx167_1 := cZ HB hx167_1; have HR167_1 := Aside0.mk hi167_1; have HC167_1 := Aside0.mk hl167_1; clear hi167_1 hl167_1; replace p167 := eq_true p167; replace q167 := eq_true q167) | ((with_reducible refine gate_callee (f := 83) rfl ?_); refine goesL_ (some 20) rfl rfl Try.func83 kZ rfl #[.agg #[.int .i64 ((rd_T119 l0 x4_1).f0), .slice A167_1 ((rd_T119 l0 x4_1).f1).length c167_1]] rfl tZA ?_; (with_reducible refine (spec_l11Step.calls k1 ((rd_T119 l0 x4_1).f0) _ _ ((rd_T119 l0 x4_1).f1) t168 _ ?side1 ?side2 A6.out).mono ?_); (case side1 => repeat (first | exact (Kd.C_below HR167_1.out HB.out) | (with_reducible refine Kd.C_alloc ?_ _) | (with_reducible refine Kd.C_drewN ?_ _) | (with_reducible refine Kd.C_drew ?_))); (case side2 => exact HC167_1.out); rintro e w9 ⟨rfl, hb⟩; refine ⟨_, rfl, ?_⟩; replace HB := aZ (below_step (lZB HB.out) hb); (try clear hb); (try clear hb2); (try clear hk); (try clear hi)))
   go_roundg k1
   case measure => have := HK1.out; omega
   case rel => exact ⟨(x3_1 ++ t168), (wrap64 (x4_1 + 1)), tZB, tZB, H', ⟨by have := HK1.out; omega⟩, ⟨bZ⟩⟩
mutual
def spec_Needed.j0 : Nat → List (S119) → Int → List ByteArray → Bool → Option (List ByteArray)
  | 0, _, _, _, _ => none
  | k + 1, x0, x1, x5, x16 => if x16 = true then (some x5) else (spec_Needed.l0 k x0 x1 x5 0)
def spec_Needed.l0 : Nat → List (S119) → Int → List ByteArray → Int → Option (List ByteArray)
  | 0, _, _, _, _ => none
  | k + 1, x0, x1, x5, x6 => if x6 < (x0.length : Int) then (spec_Needed.l1 k x0 x1 x5 x6 0) else (some x5)
def spec_Needed.l1 : Nat → List (S119) → Int → List ByteArray → Int → Int → Option (List ByteArray)
  | 0, _, _, _, _, _ => none
  | k + 1, x0, x1, x5, x6, x7 => if 0 ≤ x6 then (if x6 < (x0.length : Int) then (if x7 < (((rd_T119 x0 x6).f1).length : Int) then (spec_Needed.j3 k x0 x1 x5 x6 x7 (decide (((rd_T119 x0 x6).f0) < x1))) else (spec_Needed.j3 k x0 x1 x5 x6 x7 false)) else (none)) else (none)
def spec_Needed.j3 : Nat → List (S119) → Int → List ByteArray → Int → Int → Bool → Option (List ByteArray)
  | 0, _, _, _, _, _, _ => none
  | k + 1, x0, x1, x5, x6, x7, x40 => if x40 = true then (if 0 ≤ x6 then (if x6 < (x0.length : Int) then (if 0 ≤ x7 then (if x7 < (((rd_T119 x0 x6).f1).length : Int) then ((spec_l10Has.f k x5 (rdOf ByteArray.empty ((rd_T119 x0 x6).f1) x7)).bind fun t178 => (if t178 = true then (spec_Needed.l1 k x0 x1 x5 x6 (wrap64 (x7 + 1))) else (if x5.length < 8796093022208 then (spec_Needed.l1 k x0 x1 (x5 ++ [rdOf ByteArray.empty ((rd_T119 x0 x6).f1) x7]) x6 (wrap64 (x7 + 1))) else (none)))) else (none)) else (none)) else (none)) else (none)) else (spec_Needed.l0 k x0 x1 x5 (wrap64 (x6 + 1)))
end
def spec_Needed.f (k : Nat) (l0 : List (S119)) (a1 : Int) : Option (List ByteArray) := (some (([] : List ByteArray) : List ByteArray)).bind fun y169 => ((spec_ShowFlow.f k l0).bind fun t172 => (if t172.toList = ([] : List UInt8) then (spec_Needed.j0 k l0 a1 y169 true) else ((spec_l1Amount.f a1).bind fun t173 => (spec_Needed.j0 k l0 a1 y169 (!t173)))))
theorem spec_Needed.mono_l : ∀ k, (∀ y0 y1 y2 y3, LeO (spec_Needed.j0 k y0 y1 y2 y3) (spec_Needed.j0 (k + 1) y0 y1 y2 y3)) ∧ (∀ y0 y1 y2 y3, LeO (spec_Needed.l0 k y0 y1 y2 y3) (spec_Needed.l0 (k + 1) y0 y1 y2 y3)) ∧ (∀ y0 y1 y2 y3 y4, LeO (spec_Needed.l1 k y0 y1 y2 y3 y4) (spec_Needed.l1 (k + 1) y0 y1 y2 y3 y4)) ∧ (∀ y0 y1 y2 y3 y4 y5, LeO (spec_Needed.j3 k y0 y1 y2 y3 y4 y5) (spec_Needed.j3 (k + 1) y0 y1 y2 y3 y4 y5))
  | 0 => ⟨fun _ _ _ _ r h => by simp [spec_Needed.j0] at h, fun _ _ _ _ r h => by simp [spec_Needed.l0] at h, fun _ _ _ _ _ r h => by simp [spec_Needed.l1] at h, fun _ _ _ _ _ _ r h => by simp [spec_Needed.j3] at h⟩
  | k + 1 => by
    obtain ⟨ih0, ih1, ih2, ih3⟩ := spec_Needed.mono_l k
    refine ⟨?_, ?_, ?_, ?_⟩
    · intro y0 y1 y2 y3
      unfold spec_Needed.j0
      repeat' first
      | (with_reducible exact ih0 _ _ _ _)
      | (with_reducible exact ih1 _ _ _ _)
      | (with_reducible exact ih2 _ _ _ _ _)
      | (with_reducible exact ih3 _ _ _ _ _ _)
      | (with_reducible exact spec_ShowFlow.mono _ _)
      | (with_reducible exact spec_l10Has.mono _ _ _)
      | (with_reducible exact LeO.refl _)
      | (with_reducible exact LeO.none _)
      | (with_reducible refine LeO.ite ?_ ?_)
      | (with_reducible refine LeO.bind ?_ (fun _ => ?_))
      | exact ih0 _ _ _ _
      | exact ih1 _ _ _ _
      | exact ih2 _ _ _ _ _
      | exact ih3 _ _ _ _ _ _
      | exact spec_ShowFlow.mono _ _
      | exact spec_l10Has.mono _ _ _
      | exact LeO.none _
      | refine LeO.ite ?_ ?_
      | refine LeO.bind ?_ (fun _ => ?_)
    · intro y0 y1 y2 y3
      unfold spec_Needed.l0
      repeat' first
      | (with_reducible exact ih0 _ _ _ _)
      | (with_reducible exact ih1 _ _ _ _)
      | (with_reducible exact ih2 _ _ _ _ _)
      | (with_reducible exact ih3 _ _ _ _ _ _)
      | (with_reducible exact spec_ShowFlow.mono _ _)
      | (with_reducible exact spec_l10Has.mono _ _ _)
      | (with_reducible exact LeO.refl _)
      | (with_reducible exact LeO.none _)
      | (with_reducible refine LeO.ite ?_ ?_)
      | (with_reducible refine LeO.bind ?_ (fun _ => ?_))
      | exact ih0 _ _ _ _
      | exact ih1 _ _ _ _
      | exact ih2 _ _ _ _ _
      | exact ih3 _ _ _ _ _ _
      | exact spec_ShowFlow.mono _ _
      | exact spec_l10Has.mono _ _ _
      | exact LeO.none _
      | refine LeO.ite ?_ ?_
      | refine LeO.bind ?_ (fun _ => ?_)
    · intro y0 y1 y2 y3 y4
      unfold spec_Needed.l1
      repeat' first
      | (with_reducible exact ih0 _ _ _ _)
      | (with_reducible exact ih1 _ _ _ _)
      | (with_reducible exact ih2 _ _ _ _ _)
      | (with_reducible exact ih3 _ _ _ _ _ _)
      | (with_reducible exact spec_ShowFlow.mono _ _)
      | (with_reducible exact spec_l10Has.mono _ _ _)
      | (with_reducible exact LeO.refl _)
      | (with_reducible exact LeO.none _)
      | (with_reducible refine LeO.ite ?_ ?_)
      | (with_reducible refine LeO.bind ?_ (fun _ => ?_))
      | exact ih0 _ _ _ _
      | exact ih1 _ _ _ _
      | exact ih2 _ _ _ _ _
      | exact ih3 _ _ _ _ _ _
      | exact spec_ShowFlow.mono _ _
      | exact spec_l10Has.mono _ _ _
      | exact LeO.none _
      | refine LeO.ite ?_ ?_
      | refine LeO.bind ?_ (fun _ => ?_)
    · intro y0 y1 y2 y3 y4 y5
      unfold spec_Needed.j3
      repeat' first
      | (with_reducible exact ih0 _ _ _ _)
      | (with_reducible exact ih1 _ _ _ _)
      | (with_reducible exact ih2 _ _ _ _ _)
      | (with_reducible exact ih3 _ _ _ _ _ _)
      | (with_reducible exact spec_ShowFlow.mono _ _)
      | (with_reducible exact spec_l10Has.mono _ _ _)
      | (with_reducible exact LeO.refl _)
      | (with_reducible exact LeO.none _)
      | (with_reducible refine LeO.ite ?_ ?_)
      | (with_reducible refine LeO.bind ?_ (fun _ => ?_))
      | exact ih0 _ _ _ _
      | exact ih1 _ _ _ _
      | exact ih2 _ _ _ _ _
      | exact ih3 _ _ _ _ _ _
      | exact spec_ShowFlow.mono _ _
      | exact spec_l10Has.mono _ _ _
      | exact LeO.none _
      | refine LeO.ite ?_ ?_
      | refine LeO.bind ?_ (fun _ => ?_)
theorem spec_Needed.mono : ∀ a0 a1 k, LeO (spec_Needed.f k a0 a1) (spec_Needed.f (k + 1) a0 a1) := by
 intro a0 a1 k
 obtain ⟨ih0, ih1, ih2, ih3⟩ := spec_Needed.mono_l k
 unfold spec_Needed.f
 repeat' first
     | (with_reducible exact ih0 _ _ _ _)
     | (with_reducible exact ih1 _ _ _ _)
     | (with_reducible exact ih2 _ _ _ _ _)
     | (with_reducible exact ih3 _ _ _ _ _ _)
     | (with_reducible exact spec_ShowFlow.mono _ _)
     | (with_reducible exact spec_l10Has.mono _ _ _)
     | (with_reducible exact LeO.refl _)
     | (with_reducible exact LeO.none _)
     | (with_reducible refine LeO.ite ?_ ?_)
     | (with_reducible refine LeO.bind ?_ (fun _ => ?_))
     | exact ih0 _ _ _ _
     | exact ih1 _ _ _ _
     | exact ih2 _ _ _ _ _
     | exact ih3 _ _ _ _ _ _
     | exact spec_ShowFlow.mono _ _
     | exact spec_l10Has.mono _ _ _
     | exact LeO.none _
     | refine LeO.ite ?_ ?_
     | refine LeO.bind ?_ (fun _ => ?_)
set_option maxHeartbeats 8000000 in
set_option maxRecDepth 100000 in
theorem spec_Needed.calls (k : Nat) (A0 : Option Addr) (c0 : Nat) (l0 : List (S119)) (a1 : Int) (r : List ByteArray) (w : World) (hr0 : Kd.C k119 w A0 l0.length l0) (hc0 : l0.length ≤ c0) (h : spec_Needed.f k l0 a1 = some r) :
    Calls Try.prog 40 #[.slice A0 l0.length c0, .int .i64 a1] w fun e w' => ∃ v0_ : Value, e = .returned (v0_) ∧ Kd.R Kd.string 9 w' w.heap.size (fun _ => True) v0_ r ∧ Below w.heap.size w w' := by
 have HR0 := Aside0.mk hr0
 have HC0 := Aside0.mk hc0
 clear hr0 hc0
 have HB := aZ (Below.refl w.heap.size w)
 have H : ((some (([] : List ByteArray) : List ByteArray)).bind fun y169 => ((spec_ShowFlow.f k l0).bind fun t172 => (if t172.toList = ([] : List UInt8) then (spec_Needed.j0 k l0 a1 y169 true) else ((spec_l1Amount.f a1).bind fun t173 => (spec_Needed.j0 k l0 a1 y169 (!t173)))))) = some r := h
 clear h
 obtain ⟨y169, hy169⟩ : ∃ y_ : List ByteArray, y_ = (([] : List ByteArray)) := ⟨_, rfl⟩
 replace H : ((spec_ShowFlow.f k l0).bind fun t172 => (if t172.toList = ([] : List UInt8) then (spec_Needed.j0 k l0 a1 y169 true) else ((spec_l1Amount.f a1).bind fun t173 => (spec_Needed.j0 k l0 a1 y169 (!t173))))) = some r := by first | (rw [hy169]; with_reducible exact H) | (have H2_ := (Option.bind_some _ _).symm.trans H; rw [hy169]; with_reducible exact H2_) | (have H2_ := (Option.bind_some _ _).symm.trans H; with_reducible exact H2_) | with_reducible exact H | (rw [hy169]; exact H) | exact H
 have Ny169 := Aside0.mk hy169
 clear hy169
 have HC3 := Aside0.mk H
 clear H
 go_enter Try.func40, Try.ntmps40
 go_upto_region 2 with (first | ((with_reducible refine gate_dst (N := 8) rfl ?_); refine Kd.R_lit Kd.string _ 9 ?hg (N := 8) ?hd (xs := ([] : List ByteArray)) (inner := []) (ok := fun _ => True) (okp := fun _ => True) ?hr ?hp (fun _ hk => hk) trivial (Below.refl _ _) (Nat.le_refl _) (by simp) ?_; (case hd => rfl); (case hg => rfl); (case hr => first | (go_simp; done) | (go_simp; rfl)); (case hp => exact (Reps.none _ _)); intro v170 w4 ho5 hb hg_ hnew_; clear hg_ hnew_; (first | rw [← Ny169.out] at ho5 | (simp only [Int.reduceToNat] at ho5; rw [← Ny169.out] at ho5)); have HO171 := aZ (Kd.R_lower ho5 (below_size (lZB HB.out))); replace HB := aZ (below_step (lZB HB.out) hb); clear hb ho5))
 (try simp only [Act.put, sZ1, sZ2, sZ3])
 go_cut [16] (fun v16 wc => ∃ (kq : Nat) (x16_2 : Bool), v16 = .bool x16_2 ∧ Aside0 (spec_Needed.j0 kq l0 a1 y169 x16_2 = some r) ∧ Aside0 (kq ≤ k) ∧ Aside0 (Kd.R Kd.string 9 wc w.heap.size (fun _ => True) v170 y169) ∧ Aside0 (Below w.heap.size w wc))
 case first =>
  have H := HC3.out
  clear HC3
  replace H := Option.bind_eq_some_iff.mp H
  obtain ⟨t172, A60, H⟩ := H
  replace H : (if t172.toList = ([] : List UInt8) then (spec_Needed.j0 k l0 a1 y169 true) else ((spec_l1Amount.f a1).bind fun t173 => (spec_Needed.j0 k l0 a1 y169 (!t173)))) = some r := H
  have A6 := Aside0.mk A60
  clear A60
  by_cases c7 : t172.toList = ([] : List UInt8)
  ·rw [if_pos c7] at H
   have c7b0 : (t172.toList == ([] : List UInt8)) = true := beq_iff_eq.mpr c7
   have c7b1 : (t172.toList != ([] : List UInt8)) = false := bne_eq_false_iff_eq.mpr c7
   clear c7
   (first | rw [c7b0] | (simp only [i64_w, i32_w]; rw [c7b0]) | skip)
   have H' := Aside0.mk H
   clear H
   go_wp2_with (first | ((with_reducible refine gate_callee (f := 23) rfl ?_); refine goesL_ (some 10) rfl rfl Try.func23 kZ rfl #[.slice A0 l0.length c0] rfl tZA ?_; (with_reducible refine (spec_ShowFlow.calls k _ _ l0 t172 _ ?side1 ?side2 A6.out).mono ?_); (case side1 => repeat (first | exact (Kd.C_below HR0.out HB.out) | (with_reducible refine Kd.C_alloc ?_ _) | (with_reducible refine Kd.C_drewN ?_ _) | (with_reducible refine Kd.C_drew ?_))); (case side2 => exact HC0.out); rintro e w8 ⟨rfl, hb⟩; refine ⟨_, rfl, ?_⟩; replace HO171 := aZ (Kd.R_below (lZR HO171.out) hb); replace HB := aZ (below_step (lZB HB.out) hb); (try clear hb); (try clear hb2); (try clear hk); (try clear hi)))
   go_meet
   case rel => exact ⟨_, (true), tZB, H', ⟨by first | omega | exact Nat.le_refl _⟩, ⟨lZR HO171.out⟩, ⟨bZ⟩⟩
  rw [if_neg c7] at H
  have c7b0 : (t172.toList == ([] : List UInt8)) = false := beq_eq_false_iff_ne.mpr c7
  have c7b1 : (t172.toList != ([] : List UInt8)) = true := bne_iff_ne.mpr c7
  (first | rw [c7b0] | (simp only [i64_w, i32_w]; rw [c7b0]) | skip)
  replace H := Option.bind_eq_some_iff.mp H
  obtain ⟨t173, A90, H⟩ := H
  replace H : (spec_Needed.j0 k l0 a1 y169 (!t173)) = some r := H
  have A9 := Aside0.mk A90
  clear A90
  have H' := Aside0.mk H
  clear H
  go_wp2_with (first | ((with_reducible refine gate_callee (f := 23) rfl ?_); refine goesL_ (some 10) rfl rfl Try.func23 kZ rfl #[.slice A0 l0.length c0] rfl tZA ?_; (with_reducible refine (spec_ShowFlow.calls k _ _ l0 t172 _ ?side1 ?side2 A6.out).mono ?_); (case side1 => repeat (first | exact (Kd.C_below HR0.out HB.out) | (with_reducible refine Kd.C_alloc ?_ _) | (with_reducible refine Kd.C_drewN ?_ _) | (with_reducible refine Kd.C_drew ?_))); (case side2 => exact HC0.out); rintro e w10 ⟨rfl, hb⟩; refine ⟨_, rfl, ?_⟩; replace HO171 := aZ (Kd.R_below (lZR HO171.out) hb); replace HB := aZ (below_step (lZB HB.out) hb); (try clear hb); (try clear hb2); (try clear hk); (try clear hi)) | (go_at_call 101; (with_reducible refine (spec_l1Amount.calls a1 t173 _ A9.out).mono ?_); rintro e w' ⟨rfl, ⟨nd, rfl⟩⟩))
  go_meet
  case rel => exact ⟨_, (!t173), tZB, H', ⟨by first | omega | exact Nat.le_refl _⟩, ⟨lZR HO171.out⟩, ⟨bZ⟩⟩
 case rest =>
  clear HC3
  try clear c2
  try clear p2
  try clear c4
  try clear c7
  try clear c7b0
  try clear c7b1
  obtain ⟨kq, x16_2, rfl, HA, HJ2, HO_5, HB⟩ := hcut
  cases kq with
  | zero => exact absurd HA.out (by simp [spec_Needed.j0])
  | succ kj2 =>
   have H := HA.out
   clear HA
   simp only [spec_Needed.j0] at H
   by_cases c11 : x16_2 = true
   ·subst c11
    have H1 : (some y169) = some r := by rw [if_pos rfl] at H; exact H
    clear H
    have H := H1
    clear H1
    obtain rfl := Option.some.inj H
    go_wp2
    go_ret
    exact ⟨_, tZC, lZR HO_5.out, bZ⟩
   replace c11 := Bool.eq_false_iff.mpr c11
   subst c11
   have H1 : (spec_Needed.l0 kj2 l0 a1 y169 0) = some r := by rw [if_neg (show ¬ (false = true) by decide)] at H; exact H
   clear H
   have H := H1
   clear H1
   have H' := Aside0.mk H
   clear H
   go_wp2
   go_loopg [5, 6] kj2 (fun kq v5 v6 w' => ∃ (x5_2 : List ByteArray) (x6_2 : Int), v6 = .int .i64 x6_2 ∧ Aside0 (spec_Needed.l0 kq l0 a1 x5_2 x6_2 = some r) ∧ Aside0 (kq ≤ kj2) ∧ Aside0 (Kd.R Kd.string 9 w' w.heap.size (fun _ => True) v5 x5_2) ∧ Aside0 (Below w.heap.size w w'))
   case atStart => exact ⟨(y169), (0), tZB, H', ⟨Nat.le_refl _⟩, ⟨lZR HO_5.out⟩, ⟨bZ⟩⟩
   case round =>
    clear H'
    try clear c1
    try clear c2
    try clear p2
    try clear c4
    try clear c7
    try clear c7b0
    try clear c7b1
    try clear c11
    try clear p2
    obtain ⟨x5_2, x6_2, rfl, HA, HK2, HO_5, HB⟩ := hrel
    cases gk with
    | zero => exact absurd HA.out (by simp [spec_Needed.l0])
    | succ k2 =>
     have H := HA.out
     clear HA
     simp only [spec_Needed.l0] at H
     by_cases c12 : x6_2 < (l0.length : Int)
     rotate_left
     ·rw [if_neg c12] at H
      have c12b0 := decide_eq_false c12
      clear c12
      obtain rfl := Option.some.inj H
      go_wp2
      go_ret
      exact ⟨_, tZC, lZR HO_5.out, bZ⟩
     rw [if_pos c12] at H
     have c12b0 := decide_eq_true c12
     clear c12
     have H' := Aside0.mk H
     clear H
     go_wp2
     go_loopg [5, 7] k2 (fun kq v5 v7 w' => ∃ (x5_3 : List ByteArray) (x7_3 : Int), v7 = .int .i64 x7_3 ∧ Aside0 (spec_Needed.l1 kq l0 a1 x5_3 x6_2 x7_3 = some r) ∧ Aside0 (kq ≤ k2) ∧ Aside0 (Kd.R Kd.string 9 w' w.heap.size (fun _ => True) v5 x5_3) ∧ Aside0 (Below w.heap.size w w'))
     case atStart => exact ⟨(x5_2), (0), tZB, H', ⟨Nat.le_refl _⟩, ⟨lZR HO_5.out⟩, ⟨bZ⟩⟩
     case round =>
      clear H'
      try clear c1
      try clear c2
      try clear p2
      try clear c4
      try clear c7
      try clear c7b0
      try clear c7b1
      try clear c11
      try clear c12
      try clear c12b0
      try clear p2
      obtain ⟨x5_3, x7_3, rfl, HA, HK3, HO_5, HB⟩ := hrel
      cases gk with
      | zero => exact absurd HA.out (by simp [spec_Needed.l1])
      | succ k3 =>
       have H := HA.out
       clear HA
       simp only [spec_Needed.l1] at H
       have HC13 := Aside0.mk H
       clear H
       go_upto_region 8 with (fail)
       go_cut [40] (fun v40 wc => ∃ (kq : Nat) (x40_12 : Bool), v40 = .bool x40_12 ∧ Aside0 (spec_Needed.j3 kq l0 a1 x5_3 x6_2 x7_3 x40_12 = some r) ∧ Aside0 (kq ≤ k3) ∧ Aside0 (Kd.R Kd.string 9 wc w.heap.size (fun _ => True) u5 x5_3) ∧ Aside0 (Below w.heap.size w wc))
       case first =>
        have H := HC13.out
        clear HC13
        by_cases c14 : 0 ≤ x6_2
        rotate_left
        ·rw [if_neg c14] at H
         exact absurd H (by simp)
        rw [if_pos c14] at H
        have c14b0 := decide_eq_true c14
        clear c14
        (first | rw [c14b0] | (simp only [i64_w, i32_w]; rw [c14b0]) | skip)
        by_cases c15 : x6_2 < (l0.length : Int)
        rotate_left
        ·rw [if_neg c15] at H
         exact absurd H (by simp)
        rw [if_pos c15] at H
        have c15b0 := decide_eq_true c15
        clear c15
        by_cases c16 : x7_3 < (((rd_T119 l0 x6_2).f1).length : Int)
        rotate_left
        ·rw [if_neg c16] at H
         have c16b0 := decide_eq_false c16
         clear c16
         have H' := Aside0.mk H
         clear H
         have p174 : 0 ≤ (x6_2 : Int) := of_decide_eq_true tZE
         have q174 : x6_2 < (l0.length : Int) := of_decide_eq_true tZE
         obtain ⟨ad174, A174_1, c174_1, e174, hx174_0, hx174_1, hl174_1, hi174_1⟩ := at_T119 HR0.out x6_2 p174 q174
         cases e174
         replace hx174_0 := cZ HB hx174_0
         replace hx174_1 := cZ HB hx174_1
         have HR174_1 := Aside0.mk hi174_1
         have HC174_1 := Aside0.mk hl174_1
         clear hi174_1 hl174_1
         replace p174 := eq_true p174
         replace q174 := eq_true q174
         go_wp2
         go_meet
         case rel => exact ⟨_, (false), tZB, H', ⟨by have := HJ2.out; have := HK2.out; have := HK3.out; first | omega | exact Nat.le_refl _⟩, ⟨lZR HO_5.out⟩, ⟨bZ⟩⟩
        rw [if_pos c16] at H
        have c16b0 := decide_eq_true c16
        clear c16
        have H' := Aside0.mk H
        clear H
        have p174 : 0 ≤ (x6_2 : Int) := of_decide_eq_true tZE
        have q174 : x6_2 < (l0.length : Int) := of_decide_eq_true tZE
        obtain ⟨ad174, A174_1, c174_1, e174, hx174_0, hx174_1, hl174_1, hi174_1⟩ := at_T119 HR0.out x6_2 p174 q174
        cases e174
        replace hx174_0 := cZ HB hx174_0
        replace hx174_1 := cZ HB hx174_1
        have HR174_1 := Aside0.mk hi174_1
        have HC174_1 := Aside0.mk hl174_1
        clear hi174_1 hl174_1
        replace p174 := eq_true p174
        replace q174 := eq_true q174
        have p175 : 0 ≤ (x6_2 : Int) := of_decide_eq_true tZE
        have q175 : x6_2 < (l0.length : Int) := of_decide_eq_true tZE
        obtain ⟨ad175, A175_1, c175_1, e175, hx175_0, hx175_1, hl175_1, hi175_1⟩ := at_T119 HR0.out x6_2 p175 q175
        obtain rfl : ad174 = ad175 := (by injection e175)
        replace hx175_0 := cZ HB hx175_0
        replace hx175_1 := cZ HB hx175_1
        have HR175_1 := Aside0.mk hi175_1
        have HC175_1 := Aside0.mk hl175_1
        clear hi175_1 hl175_1
        replace p175 := eq_true p175
        replace q175 := eq_true q175
        have ea_ := Option.some.inj (hx174_1.symm.trans hx175_1)
        injection ea_ with ea_ en_ ec_
        subst ea_
        subst ec_
        clear en_
        go_wp2
        go_meet
        case rel => exact ⟨_, (decide (((rd_T119 l0 x6_2).f0) < a1)), tZB, H', ⟨by have := HJ2.out; have := HK2.out; have := HK3.out; first | omega | exact Nat.le_refl _⟩, ⟨lZR HO_5.out⟩, ⟨bZ⟩⟩
       case rest =>
        clear HC13
        try clear c1
        try clear p1
        try clear q1
        try clear hx1
        try clear c2
        try clear p2
        try clear c4
        try clear c7
        try clear c7b0
        try clear c7b1
        try clear c11
        try clear c12
        try clear c12b0
        try clear c14
        try clear c14b0
        try clear c15
        try clear c15b0
        try clear c16
        try clear c16b0
        try clear hx174_0
        try clear hx174_1
        try clear hx175_0
        try clear hx175_1
        try clear p174
        try clear p175
        try clear p2
        try clear q174
        try clear q175
        obtain ⟨kq, x40_12, rfl, HA, HJ12, HO_5, HB⟩ := hcut
        cases kq with
        | zero => exact absurd HA.out (by simp [spec_Needed.j3])
        | succ kj12 =>
         have H := HA.out
         clear HA
         simp only [spec_Needed.j3] at H
         by_cases c17 : x40_12 = true
         rotate_left
         ·replace c17 := Bool.eq_false_iff.mpr c17
          subst c17
          have H1 : (spec_Needed.l0 kj12 l0 a1 x5_3 (wrap64 (x6_2 + 1))) = some r := by rw [if_neg (show ¬ (false = true) by decide)] at H; exact H
          clear H
          have H := H1
          clear H1
          have H' := Aside0.mk H
          clear H
          go_wp2
          go_roundg kj12
          case measure => have := HJ2.out; have := HK2.out; have := HK3.out; have := HJ12.out; omega
          case rel => exact ⟨(x5_3), (wrap64 (x6_2 + 1)), tZB, H', ⟨by have := HJ2.out; have := HK2.out; have := HK3.out; have := HJ12.out; omega⟩, ⟨lZR HO_5.out⟩, ⟨bZ⟩⟩
         subst c17
         have H1 : (if 0 ≤ x6_2 then (if x6_2 < (l0.length : Int) then (if 0 ≤ x7_3 then (if x7_3 < (((rd_T119 l0 x6_2).f1).length : Int) then ((spec_l10Has.f kj12 x5_3 (rdOf ByteArray.empty ((rd_T119 l0 x6_2).f1) x7_3)).bind fun t178 => (if t178 = true then (spec_Needed.l1 kj12 l0 a1 x5_3 x6_2 (wrap64 (x7_3 + 1))) else (if x5_3.length < 8796093022208 then (spec_Needed.l1 kj12 l0 a1 (x5_3 ++ [rdOf ByteArray.empty ((rd_T119 l0 x6_2).f1) x7_3]) x6_2 (wrap64 (x7_3 + 1))) else (none)))) else (none)) else (none)) else (none)) else (none)) = some r := by rw [if_pos rfl] at H; exact H
         clear H
         have H := H1
         clear H1
         by_cases c18 : 0 ≤ x6_2
         rotate_left
         ·rw [if_neg c18] at H
          exact absurd H (by simp)
         rw [if_pos c18] at H
         have c18b0 := decide_eq_true c18
         clear c18
         by_cases c19 : x6_2 < (l0.length : Int)
         rotate_left
         ·rw [if_neg c19] at H
          exact absurd H (by simp)
         rw [if_pos c19] at H
         have c19b0 := decide_eq_true c19
         clear c19
         by_cases c20 : 0 ≤ x7_3
         rotate_left
         ·rw [if_neg c20] at H
          exact absurd H (by simp)
         rw [if_pos c20] at H
         have c20b0 := decide_eq_true c20
         clear c20
         by_cases c21 : x7_3 < (((rd_T119 l0 x6_2).f1).length : Int)
         rotate_left
         ·rw [if_neg c21] at H
          exact absurd H (by simp)
         rw [if_pos c21] at H
         have c21b0 := decide_eq_true c21
         clear c21
         replace H := Option.bind_eq_some_iff.mp H
         obtain ⟨t178, A220, H⟩ := H
         replace H : (if t178 = true then (spec_Needed.l1 kj12 l0 a1 x5_3 x6_2 (wrap64 (x7_3 + 1))) else (if x5_3.length < 8796093022208 then (spec_Needed.l1 kj12 l0 a1 (x5_3 ++ [rdOf ByteArray.empty ((rd_T119 l0 x6_2).f1) x7_3]) x6_2 (wrap64 (x7_3 + 1))) else (none))) = some r := H
         have A22 := Aside0.mk A220
         clear A220
         by_cases c23 : t178 = true
         ·subst c23
          have H1 : (spec_Needed.l1 kj12 l0 a1 x5_3 x6_2 (wrap64 (x7_3 + 1))) = some r := by rw [if_pos rfl] at H; exact H
          clear H
          have H := H1
          clear H1
          have H' := Aside0.mk H
          clear H
          have p176 : 0 ≤ (x6_2 : Int) := of_decide_eq_true tZE
          have q176 : x6_2 < (l0.length : Int) := of_decide_eq_true tZE
          obtain ⟨ad176, A176_1, c176_1, e176, hx176_0, hx176_1, hl176_1, hi176_1⟩ := at_T119 HR0.out x6_2 p176 q176
          cases e176
          replace hx176_0 := cZ HB hx176_0
          replace hx176_1 := cZ HB hx176_1
          have HR176_1 := Aside0.mk hi176_1
          have HC176_1 := Aside0.mk hl176_1
          clear hi176_1 hl176_1
          replace p176 := eq_true p176
          replace q176 := eq_true q176
          have p177 : 0 ≤ (x7_3 : Int) := of_decide_eq_true tZE
          have q177 : x7_3 < (((rd_T119 l0 x6_2).f1).length : Int) := of_decide_eq_true tZE
          obtain ⟨ad177, e177, hx177_0⟩ := Kd.at_string HR176_1.out x7_3 p177 q177
          cases e177
          replace hx177_0 := cZ HB hx177_0
          replace p177 := eq_true p177
          replace q177 := eq_true q177
          obtain ⟨Ao24, co24, eo24⟩ := Kd.R_slice HO_5.out
          subst eo24
          go_wp2_with (first | ((with_reducible refine gate_callee (f := 102) rfl ?_); refine goesL_ (some 52) rfl rfl Try.func102 kZ rfl #[.slice Ao24 x5_3.length co24, .string (rdOf ByteArray.empty ((rd_T119 l0 x6_2).f1) x7_3)] rfl tZA ?_; (with_reducible refine (spec_l10Has.calls kj12 _ _ x5_3 (rdOf ByteArray.empty ((rd_T119 l0 x6_2).f1) x7_3) true _ ?side1 ?side2 A22.out).mono ?_); (case side1 => repeat (first | exact (Kd.R_reads' HO_5.out).2.2 | (with_reducible refine Kd.C_alloc ?_ _) | (with_reducible refine Kd.C_drewN ?_ _) | (with_reducible refine Kd.C_drew ?_))); (case side2 => exact (Kd.R_reads' HO_5.out).2.1); rintro e w' ⟨rfl, ⟨nd, rfl⟩⟩; refine ⟨_, rfl, ?_⟩))
          go_roundg kj12
          case measure => have := HJ2.out; have := HK2.out; have := HK3.out; have := HJ12.out; omega
          case rel => exact ⟨(x5_3), (wrap64 (x7_3 + 1)), tZB, H', ⟨by have := HJ2.out; have := HK2.out; have := HK3.out; have := HJ12.out; omega⟩, ⟨lZR HO_5.out⟩, ⟨bZ⟩⟩
         replace c23 := Bool.eq_false_iff.mpr c23
         subst c23
         have H1 : (if x5_3.length < 8796093022208 then (spec_Needed.l1 kj12 l0 a1 (x5_3 ++ [rdOf ByteArray.empty ((rd_T119 l0 x6_2).f1) x7_3]) x6_2 (wrap64 (x7_3 + 1))) else (none)) = some r := by rw [if_neg (show ¬ (false = true) by decide)] at H; exact H
         clear H
         have H := H1
         clear H1
         by_cases c25 : x5_3.length < 8796093022208
         rotate_left
         ·rw [if_neg c25] at H
          exact absurd H (by simp)
         rw [if_pos c25] at H
         have LMc25 := Aside0.mk c25
         clear c25
         obtain ⟨y181, hy181⟩ : ∃ y_ : List ByteArray, y_ = (x5_3 ++ [rdOf ByteArray.empty ((rd_T119 l0 x6_2).f1) x7_3]) := ⟨_, rfl⟩
         replace H : (spec_Needed.l1 kj12 l0 a1 y181 x6_2 (wrap64 (x7_3 + 1))) = some r := by first | (rw [hy181]; with_reducible exact H) | (have H2_ := (Option.bind_some _ _).symm.trans H; rw [hy181]; with_reducible exact H2_) | (have H2_ := (Option.bind_some _ _).symm.trans H; with_reducible exact H2_) | with_reducible exact H | (rw [hy181]; exact H) | exact H
         have Ny181 := Aside0.mk hy181
         clear hy181
         have H' := Aside0.mk H
         clear H
         have p176 : 0 ≤ (x6_2 : Int) := of_decide_eq_true tZE
         have q176 : x6_2 < (l0.length : Int) := of_decide_eq_true tZE
         obtain ⟨ad176, A176_1, c176_1, e176, hx176_0, hx176_1, hl176_1, hi176_1⟩ := at_T119 HR0.out x6_2 p176 q176
         cases e176
         replace hx176_0 := cZ HB hx176_0
         replace hx176_1 := cZ HB hx176_1
         have HR176_1 := Aside0.mk hi176_1
         have HC176_1 := Aside0.mk hl176_1
         clear hi176_1 hl176_1
         replace p176 := eq_true p176
         replace q176 := eq_true q176
         have p177 : 0 ≤ (x7_3 : Int) := of_decide_eq_true tZE
         have q177 : x7_3 < (((rd_T119 l0 x6_2).f1).length : Int) := of_decide_eq_true tZE
         obtain ⟨ad177, e177, hx177_0⟩ := Kd.at_string HR176_1.out x7_3 p177 q177
         cases e177
         replace hx177_0 := cZ HB hx177_0
         replace p177 := eq_true p177
         replace q177 := eq_true q177
         obtain ⟨Ao26, co26, eo26⟩ := Kd.R_slice HO_5.out
         subst eo26
         go_wp2_with (first | ((with_reducible refine gate_callee (f := 102) rfl ?_); refine goesL_ (some 52) rfl rfl Try.func102 kZ rfl #[.slice Ao26 x5_3.length co26, .string (rdOf ByteArray.empty ((rd_T119 l0 x6_2).f1) x7_3)] rfl tZA ?_; (with_reducible refine (spec_l10Has.calls kj12 _ _ x5_3 (rdOf ByteArray.empty ((rd_T119 l0 x6_2).f1) x7_3) false _ ?side1 ?side2 A22.out).mono ?_); (case side1 => repeat (first | exact (Kd.R_reads' HO_5.out).2.2 | (with_reducible refine Kd.C_alloc ?_ _) | (with_reducible refine Kd.C_drewN ?_ _) | (with_reducible refine Kd.C_drew ?_))); (case side2 => exact (Kd.R_reads' HO_5.out).2.1); rintro e w' ⟨rfl, ⟨nd, rfl⟩⟩; refine ⟨_, rfl, ?_⟩; have p179 : 0 ≤ (x6_2 : Int) := of_decide_eq_true tZE; have q179 : x6_2 < (l0.length : Int) := of_decide_eq_true tZE; obtain ⟨ad179, A179_1, c179_1, e179, hx179_0, hx179_1, hl179_1, hi179_1⟩ := at_T119 HR0.out x6_2 p179 q179; obtain rfl : ad176 = ad179 := (by injection e179); replace hx179_0 := cZ HB hx179_0; replace hx179_1 := cZ HB hx179_1; have HR179_1 := Aside0.mk hi179_1; have HC179_1 := Aside0.mk hl179_1; clear hi179_1 hl179_1; replace p179 := eq_true p179; replace q179 := eq_true q179; have ea_ := Option.some.inj (hx176_1.symm.trans hx179_1); injection ea_ with ea_ en_ ec_; subst ea_; subst ec_; clear en_; have p180 : 0 ≤ (x7_3 : Int) := of_decide_eq_true tZE; have q180 : x7_3 < (((rd_T119 l0 x6_2).f1).length : Int) := of_decide_eq_true tZE; obtain ⟨ad180, e180, hx180_0⟩ := Kd.at_string HR179_1.out x7_3 p180 q180; cases e180; replace hx180_0 := cZ HB hx180_0; replace p180 := eq_true p180; replace q180 := eq_true q180) | ((with_reducible refine gate_builtin (b := .append) (xs := #[.tmp 54, .tmp 63]) rfl ?_); at_builtin; refine Kd.R_append Kd.string (w0 := w) w.heap.size rfl (.tmp 54) (.tmp 63) 64 9 (.string ⟨#[]⟩) 16 rfl Try.underlying64 info9 rfl (by decide) (by omega) (.slice Ao26 x5_3.length co26) x5_3 (rdOf ByteArray.empty ((rd_T119 l0 x6_2).f1) x7_3) [.string (rdOf ByteArray.empty ((rd_T119 l0 x6_2).f1) x7_3)] (fun _ => True) (fun _ => False) rfl rfl ?aP (fun _ hk => hk.elim) ?aF ?aO ?aB ?aS ?aL ?_; (case aP => exact rfl); (case aB => exact (lZB HB.out)); (case aF => exact (fun _ _ => trivial)); (case aO => exact (lZR HO_5.out)); (case aS => exact (below_size (lZB HB.out))); (case aL => have := LMc25.out; omega); intro v182 w27 ho hb hg hat; rw [← Ny181.out] at ho; replace HB := aZ (hb); have HO183 := aZ (ho); clear HO_5; clear ho hb hg hat))
         go_roundg kj12
         case measure => have := HJ2.out; have := HK2.out; have := HK3.out; have := HJ12.out; omega
         case rel => exact ⟨(y181), (wrap64 (x7_3 + 1)), tZB, H', ⟨by have := HJ2.out; have := HK2.out; have := HK3.out; have := HJ12.out; omega⟩, ⟨lZR HO183.out⟩, ⟨bZ⟩⟩
def impl_linesOf.l0 : Nat → ByteArray → List ByteArray → Int → Int → Option (List ByteArray × Bool)
  | 0, _, _, _, _ => none
  | k + 1, x0, x4, x5, x6 => if x6 < (x0.size : Int) then (if 0 ≤ x6 then (if (bt x0 x6) = 10 then (if 0 ≤ x5 then (if x5 ≤ x6 then (if x6 ≤ (x0.size : Int) then (if x4.length < 8796093022208 then (impl_linesOf.l0 k x0 (x4 ++ [x0.extract (x5 : Int).toNat (x6 : Int).toNat]) (wrap64 (x6 + 1)) (wrap64 (x6 + 1))) else (none)) else (none)) else (none)) else (none)) else (impl_linesOf.l0 k x0 x4 x5 (wrap64 (x6 + 1)))) else (none)) else (if x5 < (x0.size : Int) then (if 0 ≤ x5 then (if x5 ≤ (x0.size : Int) then (if x4.length < 8796093022208 then (some ((x4 ++ [x0.extract (x5 : Int).toNat x0.size]), false)) else (none)) else (none)) else (none)) else (some (x4, true)))
def impl_linesOf.f (k : Nat) (a0 : ByteArray) : Option (List ByteArray × Bool) := impl_linesOf.l0 k a0 (([] : List ByteArray)) 0 0
theorem impl_linesOf.mono_l : ∀ k, (∀ y0 y1 y2 y3, LeO (impl_linesOf.l0 k y0 y1 y2 y3) (impl_linesOf.l0 (k + 1) y0 y1 y2 y3))
  | 0 => fun _ _ _ _ r h => by simp [impl_linesOf.l0] at h
  | k + 1 => by
    have ih0 := impl_linesOf.mono_l k
    · intro y0 y1 y2 y3
      unfold impl_linesOf.l0
      repeat' first
      | (with_reducible exact ih0 _ _ _ _)
      | (with_reducible exact LeO.refl _)
      | (with_reducible exact LeO.none _)
      | (with_reducible refine LeO.ite ?_ ?_)
      | (with_reducible refine LeO.bind ?_ (fun _ => ?_))
      | exact ih0 _ _ _ _
      | exact LeO.none _
      | refine LeO.ite ?_ ?_
      | refine LeO.bind ?_ (fun _ => ?_)
theorem impl_linesOf.mono : ∀ a0 k, LeO (impl_linesOf.f k a0) (impl_linesOf.f (k + 1) a0) := by
 intro a0 k
 have ih0 := impl_linesOf.mono_l k
 unfold impl_linesOf.f
 repeat' first
     | (with_reducible exact ih0 _ _ _ _)
     | (with_reducible exact LeO.refl _)
     | (with_reducible exact LeO.none _)
     | (with_reducible refine LeO.ite ?_ ?_)
     | (with_reducible refine LeO.bind ?_ (fun _ => ?_))
     | exact ih0 _ _ _ _
     | exact LeO.none _
     | refine LeO.ite ?_ ?_
     | refine LeO.bind ?_ (fun _ => ?_)
set_option maxHeartbeats 8000000 in
set_option maxRecDepth 100000 in
theorem impl_linesOf.calls (k : Nat) (a0 : ByteArray) (r1 : List ByteArray) (r2 : Bool) (w : World) (h : impl_linesOf.f k a0 = some (r1, r2)) :
    Calls Try.prog 99 #[.string a0] w fun e w' => ∃ v0_ : Value, e = .returned (.tuple #[v0_, .bool r2]) ∧ Kd.R Kd.string 9 w' w.heap.size (fun _ => True) v0_ r1 ∧ Below w.heap.size w w' := by
 have HB := aZ (Below.refl w.heap.size w)
 have H : (impl_linesOf.l0 k a0 (([] : List ByteArray)) 0 0) = some (r1, r2) := h
 clear h
 obtain ⟨y184, hy184⟩ : ∃ y_ : List ByteArray, y_ = (([] : List ByteArray)) := ⟨_, rfl⟩
 replace H : (impl_linesOf.l0 k a0 y184 0 0) = some (r1, r2) := by first | (rw [hy184]; with_reducible exact H) | (have H2_ := (Option.bind_some _ _).symm.trans H; rw [hy184]; with_reducible exact H2_) | (have H2_ := (Option.bind_some _ _).symm.trans H; with_reducible exact H2_) | with_reducible exact H | (rw [hy184]; exact H) | exact H
 have Ny184 := Aside0.mk hy184
 clear hy184
 have H' := Aside0.mk H
 clear H
 go_enter Try.func99, Try.ntmps99
 go_wp2_with (first | ((with_reducible refine gate_dst (N := 7) rfl ?_); refine Kd.R_lit Kd.string _ 9 ?hg (N := 7) ?hd (xs := ([] : List ByteArray)) (inner := []) (ok := fun _ => True) (okp := fun _ => True) ?hr ?hp (fun _ hk => hk) trivial (Below.refl _ _) (Nat.le_refl _) (by simp) ?_; (case hd => rfl); (case hg => rfl); (case hr => first | (go_simp; done) | (go_simp; rfl)); (case hp => exact (Reps.none _ _)); intro v185 w2 ho3 hb hg_ hnew_; clear hg_ hnew_; (first | rw [← Ny184.out] at ho3 | (simp only [Int.reduceToNat] at ho3; rw [← Ny184.out] at ho3)); have HO186 := aZ (Kd.R_lower ho3 (below_size (lZB HB.out))); replace HB := aZ (below_step (lZB HB.out) hb); clear hb ho3))
 go_loopg [4, 5, 6] k (fun kq v4 v5 v6 w' => ∃ (x4_1 : List ByteArray) (x5_1 : Int) (x6_1 : Int), v5 = .int .i64 x5_1 ∧ v6 = .int .i64 x6_1 ∧ Aside0 (impl_linesOf.l0 kq a0 x4_1 x5_1 x6_1 = some (r1, r2)) ∧ Aside0 (kq ≤ k) ∧ Aside0 (Kd.R Kd.string 9 w' w.heap.size (fun _ => True) v4 x4_1) ∧ Aside0 (Below w.heap.size w w'))
 case atStart => exact ⟨(y184), (0), (0), tZB, tZB, H', ⟨Nat.le_refl _⟩, ⟨lZR HO186.out⟩, ⟨bZ⟩⟩
 case round =>
  clear H'
  try clear p2
  obtain ⟨x4_1, x5_1, x6_1, rfl, rfl, HA, HK1, HO_4, HB⟩ := hrel
  cases gk with
  | zero => exact absurd HA.out (by simp [impl_linesOf.l0])
  | succ k1 =>
   have H := HA.out
   clear HA
   simp only [impl_linesOf.l0] at H
   by_cases c4 : x6_1 < (a0.size : Int)
   rotate_left
   ·rw [if_neg c4] at H
    have c4b0 := decide_eq_false c4
    clear c4
    by_cases c13 : x5_1 < (a0.size : Int)
    rotate_left
    ·rw [if_neg c13] at H
     have c13b0 := decide_eq_false c13
     clear c13
     simp only [Option.some.injEq, Prod.mk.injEq] at H
     obtain ⟨rfl, rfl⟩ := H
     go_wp2
     go_ret2
     exact ⟨_, tZC, lZR HO_4.out, bZ⟩
    rw [if_pos c13] at H
    have c13b0 := decide_eq_true c13
    clear c13
    by_cases c14 : 0 ≤ x5_1
    rotate_left
    ·rw [if_neg c14] at H
     exact absurd H (by simp)
    rw [if_pos c14] at H
    have c14b0 := eq_true c14
    have c14b1 := decide_eq_true c14
    clear c14
    by_cases c15 : x5_1 ≤ (a0.size : Int)
    rotate_left
    ·rw [if_neg c15] at H
     exact absurd H (by simp)
    rw [if_pos c15] at H
    have c15b0 := eq_true c15
    have c15b1 := decide_eq_true c15
    clear c15
    by_cases c16 : x4_1.length < 8796093022208
    rotate_left
    ·rw [if_neg c16] at H
     exact absurd H (by simp)
    rw [if_pos c16] at H
    have LMc16 := Aside0.mk c16
    clear c16
    obtain ⟨y190, hy190⟩ : ∃ y_ : List ByteArray, y_ = (x4_1 ++ [a0.extract (x5_1 : Int).toNat a0.size]) := ⟨_, rfl⟩
    replace H : (some (y190, false)) = some (r1, r2) := by first | (rw [hy190]; with_reducible exact H) | (have H2_ := (Option.bind_some _ _).symm.trans H; rw [hy190]; with_reducible exact H2_) | (have H2_ := (Option.bind_some _ _).symm.trans H; with_reducible exact H2_) | with_reducible exact H | (rw [hy190]; exact H) | exact H
    have Ny190 := Aside0.mk hy190
    clear hy190
    simp only [Option.some.injEq, Prod.mk.injEq] at H
    obtain ⟨rfl, rfl⟩ := H
    go_wp2_with (first | ((with_reducible refine gate_builtin (b := .append) (xs := #[.tmp 31, .tmp 35]) rfl ?_); at_builtin; refine Kd.R_append Kd.string (w0 := w) w.heap.size rfl (.tmp 31) (.tmp 35) 64 9 (.string ⟨#[]⟩) 16 rfl Try.underlying64 info9 rfl (by decide) (by omega) u4 x4_1 (a0.extract (x5_1 : Int).toNat a0.size) [.string (a0.extract (x5_1 : Int).toNat a0.size)] (fun _ => True) (fun _ => False) rfl rfl ?aP (fun _ hk => hk.elim) ?aF ?aO ?aB ?aS ?aL ?_; (case aP => exact rfl); (case aB => exact (lZB HB.out)); (case aF => exact (fun _ _ => trivial)); (case aO => exact (lZR HO_4.out)); (case aS => exact (below_size (lZB HB.out))); (case aL => have := LMc16.out; omega); intro v191 w17 ho hb hg hat; rw [← Ny190.out] at ho; replace HB := aZ (hb); have HO192 := aZ (ho); clear HO_4; clear ho hb hg hat))
    go_ret2
    exact ⟨_, tZC, lZR HO192.out, bZ⟩
   rw [if_pos c4] at H
   have c4b0 := decide_eq_true c4
   clear c4
   by_cases c5 : 0 ≤ x6_1
   rotate_left
   ·rw [if_neg c5] at H
    exact absurd H (by simp)
   rw [if_pos c5] at H
   have c5b0 := decide_eq_true c5
   clear c5
   by_cases c7 : (bt a0 x6_1) = 10
   rotate_left
   ·rw [if_neg c7] at H
    have c7b0 : ((bt a0 x6_1) == 10) = false := beq_eq_false_iff_ne.mpr c7
    have c7b1 : ((bt a0 x6_1) != 10) = true := bne_iff_ne.mpr c7
    have H' := Aside0.mk H
    clear H
    have p6 : 0 ≤ (x6_1 : Int) := of_decide_eq_true tZE
    have q6 : x6_1 < (a0.size : Int) := of_decide_eq_true tZE
    have hx6 := bt_at a0 x6_1
    replace p6 := eq_true p6
    replace q6 := eq_true q6
    go_wp2
    go_roundg k1
    case measure => have := HK1.out; omega
    case rel => exact ⟨(x4_1), (x5_1), (wrap64 (x6_1 + 1)), tZB, tZB, H', ⟨by have := HK1.out; omega⟩, ⟨lZR HO_4.out⟩, ⟨bZ⟩⟩
   rw [if_pos c7] at H
   have c7b0 : ((bt a0 x6_1) == 10) = true := beq_iff_eq.mpr c7
   have c7b1 : ((bt a0 x6_1) != 10) = false := bne_eq_false_iff_eq.mpr c7
   clear c7
   by_cases c8 : 0 ≤ x5_1
   rotate_left
   ·rw [if_neg c8] at H
    exact absurd H (by simp)
   rw [if_pos c8] at H
   have c8b0 := eq_true c8
   have c8b1 := decide_eq_true c8
   clear c8
   by_cases c9 : x5_1 ≤ x6_1
   rotate_left
   ·rw [if_neg c9] at H
    exact absurd H (by simp)
   rw [if_pos c9] at H
   have c9b0 := eq_true c9
   have c9b1 := decide_eq_true c9
   clear c9
   by_cases c10 : x6_1 ≤ (a0.size : Int)
   rotate_left
   ·rw [if_neg c10] at H
    exact absurd H (by simp)
   rw [if_pos c10] at H
   have c10b0 := eq_true c10
   have c10b1 := decide_eq_true c10
   clear c10
   by_cases c11 : x4_1.length < 8796093022208
   rotate_left
   ·rw [if_neg c11] at H
    exact absurd H (by simp)
   rw [if_pos c11] at H
   have LMc11 := Aside0.mk c11
   clear c11
   obtain ⟨y187, hy187⟩ : ∃ y_ : List ByteArray, y_ = (x4_1 ++ [a0.extract (x5_1 : Int).toNat (x6_1 : Int).toNat]) := ⟨_, rfl⟩
   replace H : (impl_linesOf.l0 k1 a0 y187 (wrap64 (x6_1 + 1)) (wrap64 (x6_1 + 1))) = some (r1, r2) := by first | (rw [hy187]; with_reducible exact H) | (have H2_ := (Option.bind_some _ _).symm.trans H; rw [hy187]; with_reducible exact H2_) | (have H2_ := (Option.bind_some _ _).symm.trans H; with_reducible exact H2_) | with_reducible exact H | (rw [hy187]; exact H) | exact H
   have Ny187 := Aside0.mk hy187
   clear hy187
   have H' := Aside0.mk H
   clear H
   have p6 : 0 ≤ (x6_1 : Int) := of_decide_eq_true tZE
   have q6 : x6_1 < (a0.size : Int) := of_decide_eq_true tZE
   have hx6 := bt_at a0 x6_1
   replace p6 := eq_true p6
   replace q6 := eq_true q6
   go_wp2_with (first | ((with_reducible refine gate_builtin (b := .append) (xs := #[.tmp 18, .tmp 23]) rfl ?_); at_builtin; refine Kd.R_append Kd.string (w0 := w) w.heap.size rfl (.tmp 18) (.tmp 23) 64 9 (.string ⟨#[]⟩) 16 rfl Try.underlying64 info9 rfl (by decide) (by omega) u4 x4_1 (a0.extract (x5_1 : Int).toNat (x6_1 : Int).toNat) [.string (a0.extract (x5_1 : Int).toNat (x6_1 : Int).toNat)] (fun _ => True) (fun _ => False) rfl rfl ?aP (fun _ hk => hk.elim) ?aF ?aO ?aB ?aS ?aL ?_; (case aP => exact rfl); (case aB => exact (lZB HB.out)); (case aF => exact (fun _ _ => trivial)); (case aO => exact (lZR HO_4.out)); (case aS => exact (below_size (lZB HB.out))); (case aL => have := LMc11.out; omega); intro v188 w12 ho hb hg hat; rw [← Ny187.out] at ho; replace HB := aZ (hb); have HO189 := aZ (ho); clear HO_4; clear ho hb hg hat))
   go_roundg k1
   case measure => have := HK1.out; omega
   case rel => exact ⟨(y187), (wrap64 (x6_1 + 1)), (wrap64 (x6_1 + 1)), tZB, tZB, H', ⟨by have := HK1.out; omega⟩, ⟨lZR HO189.out⟩, ⟨bZ⟩⟩
def impl_between.f (a0 : Int) (a1 : Int) (a2 : Int) : Option (Bool) := if a0 ≥ a1 then (some (decide (a0 ≤ a2))) else (some false)
set_option maxHeartbeats 8000000 in
set_option maxRecDepth 100000 in
theorem impl_between.calls (a0 : Int) (a1 : Int) (a2 : Int) (r : Bool) (w : World) (h : impl_between.f a0 a1 a2 = some r) :
    Calls Try.prog 120 #[.int .i64 a0, .int .i64 a1, .int .i64 a2] w fun e w' => e = .returned (.bool r) ∧ Drawn0 w w' := by
 have H : (if a0 ≥ a1 then (some (decide (a0 ≤ a2))) else (some false)) = some r := h
 clear h
 by_cases c4 : a0 ≥ a1
 ·rw [if_pos c4] at H
  have c4b0 : decide (a1 ≤ a0) = true := decide_eq_true c4
  clear c4
  obtain rfl := Option.some.inj H
  go_enter Try.func120, Try.ntmps120
  go_wp2
  go_ret
  exact ⟨tZB, tZD⟩
 rw [if_neg c4] at H
 have c4b0 : decide (a1 ≤ a0) = false := decide_eq_false c4
 clear c4
 obtain rfl := Option.some.inj H
 go_enter Try.func120, Try.ntmps120
 go_wp2
 go_ret
 exact ⟨tZB, tZD⟩
def impl_amount.f (a0 : Int) : Option (Bool) := (impl_between.f a0 (-100000000000) 100000000000).bind fun t193 => (some t193)
set_option maxHeartbeats 8000000 in
set_option maxRecDepth 100000 in
theorem impl_amount.calls (a0 : Int) (r : Bool) (w : World) (h : impl_amount.f a0 = some r) :
    Calls Try.prog 103 #[.int .i64 a0] w fun e w' => e = .returned (.bool r) ∧ Drawn0 w w' := by
 have H : ((impl_between.f a0 (-100000000000) 100000000000).bind fun t193 => (some t193)) = some r := h
 clear h
 replace H := Option.bind_eq_some_iff.mp H
 obtain ⟨t193, A20, H⟩ := H
 replace H : (some t193) = some r := H
 have A2 := Aside0.mk A20
 clear A20
 obtain rfl := Option.some.inj H
 go_enter Try.func103, Try.ntmps103
 go_wp2_with (first | ((with_reducible refine gate_callee (f := 120) rfl ?_); refine goesL_ (some 4) rfl rfl Try.func120 kZ rfl #[.int .i64 a0, .int .i64 (-100000000000), .int .i64 100000000000] rfl tZA ?_; (with_reducible refine (impl_between.calls a0 (-100000000000) 100000000000 t193 _ A2.out).mono ?_); rintro e w' ⟨rfl, ⟨nd, rfl⟩⟩; refine ⟨_, rfl, ?_⟩))
 go_ret
 exact ⟨tZB, tZD⟩
end Go.Proofs.Ytjnmfadnkbflfaa.PFnExactNeeded
