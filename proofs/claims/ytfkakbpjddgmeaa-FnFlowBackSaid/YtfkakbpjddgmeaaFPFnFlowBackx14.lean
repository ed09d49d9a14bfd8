import Derived.Test.YtfkakbpjddgmeaaFPFnFlowBackx0
import Derived.Test.YtfkakbpjddgmeaaFPFnFlowBackx12
import Derived.Test.YtfkakbpjddgmeaaFPFnFlowBackx13
import Derived.Test.YtfkakbpjddgmeaaFSlimWords
namespace Go.Proofs.Ytfkakbpjddgmeaa.PFnFlowBack
open Go.Proofs.Ytfkakbpjddgmeaa.SlimWords
open Go.RowKit Go.Proofs.YtfkakbpjddgmeaaW.PrintWords Go.Proofs.YtfkakbpjddgmeaaW.PrintLast Go.Proofs.YtfkakbpjddgmeaaW.PrintMore Go.Proofs.Ytfkakbpjddgmeaa.MapWords Go.Proofs.Ytfkakbpjddgmeaa.IterWords Go.Proofs.Ytfkakbpjddgmeaa.MarkWords
attribute [local go_sem] max2_int min2_int max_two min_two max_three min_three max_four min_four
set_option linter.unusedVariables false
set_option linter.unusedSimpArgs false
def spec_ShowFlow.l0 : Nat → List (S51) → ByteArray → Int → Option (ByteArray)
  | 0, _, _, _ => none
  | k + 1, x0, x3, x4 => if x4 < (x0.length : Int) then ((spec_l11FlowOk.f k x0).bind fun t356 => (if t356 = true then (if 0 ≤ x4 then ((spec_l11Step.f k ((rd_T51 x0 x4).f0) ((rd_T51 x0 x4).f1)).bind fun t358 => (if x3.size + t358.size ≤ 9223372036854775807 then (spec_ShowFlow.l0 k x0 (x3 ++ t358) (wrap64 (x4 + 1))) else (none))) else (none)) else (if (x3.size : Int) > 2000 then (some (⟨#[]⟩ : ByteArray)) else (some x3)))) else (if (x3.size : Int) > 2000 then (some (⟨#[]⟩ : ByteArray)) else (some x3))
def spec_ShowFlow.f (k : Nat) (l0 : List (S51)) : Option (ByteArray) := spec_ShowFlow.l0 k l0 (⟨#[]⟩ : ByteArray) 0
theorem spec_ShowFlow.mono_l : ∀ k, (∀ y0 y1 y2, LeO (spec_ShowFlow.l0 k y0 y1 y2) (spec_ShowFlow.l0 (k + 1) y0 y1 y2))
  | 0 => fun _ _ _ r h => by simp [spec_ShowFlow.l0] at h
  | k + 1 => by
    have ih0 := spec_ShowFlow.mono_l k
    · intro y0 y1 y2
      unfold spec_ShowFlow.l0
      repeat' first
      | (with_reducible exact ih0 _ _ _)
      | (with_reducible exact spec_l11FlowOk.mono _ _)
      | (with_reducible exact spec_l11Step.mono _ _ _)
      | (with_reducible exact LeO.refl _)
      | (with_reducible exact LeO.none _)
      | (with_reducible refine LeO.ite ?_ ?_)
      | (with_reducible refine LeO.bind ?_ (fun _ => ?_))
      | exact ih0 _ _ _
      | exact spec_l11FlowOk.mono _ _
      | exact spec_l11Step.mono _ _ _
      | exact LeO.none _
      | refine LeO.ite ?_ ?_
      | refine LeO.bind ?_ (fun _ => ?_)
theorem spec_ShowFlow.mono : ∀ a0 k, LeO (spec_ShowFlow.f k a0) (spec_ShowFlow.f (k + 1) a0) := by
 intro a0 k
 have ih0 := spec_ShowFlow.mono_l k
 unfold spec_ShowFlow.f
 repeat' first
     | (with_reducible exact ih0 _ _ _)
     | (with_reducible exact spec_l11FlowOk.mono _ _)
     | (with_reducible exact spec_l11Step.mono _ _ _)
     | (with_reducible exact LeO.refl _)
     | (with_reducible exact LeO.none _)
     | (with_reducible refine LeO.ite ?_ ?_)
     | (with_reducible refine LeO.bind ?_ (fun _ => ?_))
     | exact ih0 _ _ _
     | exact spec_l11FlowOk.mono _ _
     | exact spec_l11Step.mono _ _ _
     | exact LeO.none _
     | refine LeO.ite ?_ ?_
     | refine LeO.bind ?_ (fun _ => ?_)
set_option maxHeartbeats 8000000 in
set_option maxRecDepth 100000 in
theorem spec_ShowFlow.calls (k : Nat) (A0 : Option Addr) (c0 : Nat) (l0 : List (S51)) (r : ByteArray) (w : World) (hr0 : Kd.C k51 w A0 l0.length l0) (hc0 : l0.length ≤ c0) (h : spec_ShowFlow.f k l0 = some r) :
    Calls Try.prog 23 #[.slice A0 l0.length c0] w fun e w' => e = .returned (.string r) ∧ Below w.heap.size w w' := by
 have hu51 := Try.underlying51; have HR0 := Aside0.mk hr0; have HC0 := Aside0.mk hc0; clear hr0 hc0; have HB := aZ (Below.refl w.heap.size w); have H : (spec_ShowFlow.l0 k l0 (⟨#[]⟩ : ByteArray) 0) = some r := h; clear h; have H' := Aside0.mk H; clear H; go_enter Try.func23, Try.ntmps23; go_wp2
 go_loopg [3, 4] k (fun kq v3 v4 w' => ∃ (x3_1 : ByteArray) (x4_1 : Int), v3 = .string x3_1 ∧ v4 = .int .i64 x4_1 ∧ Aside0 (spec_ShowFlow.l0 kq l0 x3_1 x4_1 = some r) ∧ Aside0 (kq ≤ k) ∧ Aside0 (Below w.heap.size w w'))
 case atStart => exact ⟨((⟨#[]⟩ : ByteArray)), (0), tZB, tZB, H', ⟨Nat.le_refl _⟩, ⟨bZ⟩⟩
 case round =>
  clear H'; obtain ⟨x3_1, x4_1, rfl, rfl, HA, HK1, HB⟩ := hrel
  cases gk with
  | zero => exact absurd HA.out (by simp [spec_ShowFlow.l0])
  | succ k1 =>
   have H := HA.out; clear HA; simp only [spec_ShowFlow.l0] at H
   by_cases c2 : x4_1 < (l0.length : Int)
   rotate_left
   ·rw [if_neg c2] at H; have c2b0 := decide_eq_false c2; clear c2
    by_cases c13 : (x3_1.size : Int) > 2000
    ·rw [if_pos c13] at H; have c13b0 : decide (2000 < (x3_1.size : Int)) = true := decide_eq_true c13; have c13b1 : decide (2000 < x3_1.size) = true := decide_eq_true (by omega); clear c13; obtain rfl := Option.some.inj H; go_wp2; go_ret; exact ⟨tZC, bZ⟩
    rw [if_neg c13] at H; have c13b0 : decide (2000 < (x3_1.size : Int)) = false := decide_eq_false c13; have c13b1 : decide (2000 < x3_1.size) = false := decide_eq_false (by omega); clear c13; obtain rfl := Option.some.inj H; go_wp2; go_ret; exact ⟨tZC, bZ⟩
   rw [if_pos c2] at H; have c2b0 := decide_eq_true c2; clear c2; replace H := Option.bind_eq_some_iff.mp H; obtain ⟨t356, A30, H⟩ := H; replace H : (if t356 = true then (if 0 ≤ x4_1 then ((spec_l11Step.f k1 ((rd_T51 l0 x4_1).f0) ((rd_T51 l0 x4_1).f1)).bind fun t358 => (if x3_1.size + t358.size ≤ 9223372036854775807 then (spec_ShowFlow.l0 k1 l0 (x3_1 ++ t358) (wrap64 (x4_1 + 1))) else (none))) else (none)) else (if (x3_1.size : Int) > 2000 then (some (⟨#[]⟩ : ByteArray)) else (some x3_1))) = some r := H; have A3 := Aside0.mk A30; clear A30
   by_cases c4 : t356 = true
   rotate_left
   ·replace c4 := Bool.eq_false_iff.mpr c4; subst c4; rw [if_neg Bool.false_ne_true] at H
    by_cases c10 : (x3_1.size : Int) > 2000
    ·rw [if_pos c10] at H; have c10b0 : decide (2000 < (x3_1.size : Int)) = true := decide_eq_true c10; have c10b1 : decide (2000 < x3_1.size) = true := decide_eq_true (by omega); clear c10; obtain rfl := Option.some.inj H
     go_wp2_with (first | (go_at_call 54; (with_reducible refine (spec_l11FlowOk.calls k1 _ _ l0 false _ ?side1 ?side2 A3.out).mono ?_); (case side1 => repeat (first | exact (Kd.C_below HR0.out HB.out) | (with_reducible refine Kd.C_alloc ?_ _) | (with_reducible refine Kd.C_drewN ?_ _) | (with_reducible refine Kd.C_drew ?_))); (case side2 => exact HC0.out); rintro e w11 ⟨rfl, hb⟩; replace HB := aZ (below_step (lZB HB.out) hb); (try clear hb); (try clear hb2); (try clear hk); (try clear hi)))
     go_ret; exact ⟨tZC, bZ⟩
    rw [if_neg c10] at H; have c10b0 : decide (2000 < (x3_1.size : Int)) = false := decide_eq_false c10; have c10b1 : decide (2000 < x3_1.size) = false := decide_eq_false (by omega); clear c10; obtain rfl := Option.some.inj H
    go_wp2_with (first | (go_at_call 54; (with_reducible refine (spec_l11FlowOk.calls k1 _ _ l0 false _ ?side1 ?side2 A3.out).mono ?_); (case side1 => repeat (first | exact (Kd.C_below HR0.out HB.out) | (with_reducible refine Kd.C_alloc ?_ _) | (with_reducible refine Kd.C_drewN ?_ _) | (with_reducible refine Kd.C_drew ?_))); (case side2 => exact HC0.out); rintro e w12 ⟨rfl, hb⟩; replace HB := aZ (below_step (lZB HB.out) hb); (try clear hb); (try clear hb2); (try clear hk); (try clear hi)))
    go_ret; exact ⟨tZC, bZ⟩
   subst c4; rw [if_pos rfl] at H
   by_cases c5 : 0 ≤ x4_1
   rotate_left
   ·rw [if_neg c5] at H; exact absurd H (by simp)
   rw [if_pos c5] at H; have c5b0 := decide_eq_true c5; clear c5; replace H := Option.bind_eq_some_iff.mp H; obtain ⟨t358, A60, H⟩ := H; replace H : (if x3_1.size + t358.size ≤ 9223372036854775807 then (spec_ShowFlow.l0 k1 l0 (x3_1 ++ t358) (wrap64 (x4_1 + 1))) else (none)) = some r := H; have A6 := Aside0.mk A60; clear A60
   by_cases c7 : x3_1.size + t358.size ≤ 9223372036854775807
   rotate_left
   ·rw [if_neg c7] at H; exact absurd H (by simp)
   rw [if_pos c7] at H; have c7b0 := eq_true c7; have c7b1 := decide_eq_true c7
   try have c7b2 := eq_false (Nat.not_lt.2 c7)
   have H' := Aside0.mk H; clear H
   go_wp2_with (first | (go_at_call 54; (with_reducible refine (spec_l11FlowOk.calls k1 _ _ l0 true _ ?side1 ?side2 A3.out).mono ?_); (case side1 => repeat (first | exact (Kd.C_below HR0.out HB.out) | (with_reducible refine Kd.C_alloc ?_ _) | (with_reducible refine Kd.C_drewN ?_ _) | (with_reducible refine Kd.C_drew ?_))); (case side2 => exact HC0.out); rintro e w8 ⟨rfl, hb⟩; replace HB := aZ (below_step (lZB HB.out) hb); (try clear hb); (try clear hb2); (try clear hk); (try clear hi); have p357 : 0 ≤ (x4_1 : Int) := of_decide_eq_true tZE; have q357 : x4_1 < (l0.length : Int) := of_decide_eq_true tZE; obtain ⟨ad357, A357_1, c357_1, e357, hx357_0, hx357_1, hl357_1, hi357_1⟩ := at_T51 HR0.out x4_1 p357 q357; have hz357_1 := hx357_1; cases e357; replace hx357_0 := cZ HB hx357_0; replace hx357_1 := cZ HB hx357_1; have HR357_1 := Aside0.mk hi357_1; have HC357_1 := Aside0.mk hl357_1; clear hi357_1 hl357_1; replace p357 := eq_true p357; replace q357 := eq_true q357) | ((with_reducible refine gate_callee (f := 55) rfl ?_); refine goesL_ (some 20) rfl rfl Try.func55 kZ rfl #[.agg #[.int .i64 ((rd_T51 l0 x4_1).f0), .slice A357_1 ((rd_T51 l0 x4_1).f1).length c357_1]] rfl tZA ?_; (with_reducible refine (spec_l11Step.calls k1 ((rd_T51 l0 x4_1).f0) _ _ ((rd_T51 l0 x4_1).f1) t358 _ ?side1 ?side2 A6.out).mono ?_); (case side1 => repeat (first | exact (Kd.C_below HR357_1.out HB.out) | (with_reducible refine Kd.C_alloc ?_ _) | (with_reducible refine Kd.C_drewN ?_ _) | (with_reducible refine Kd.C_drew ?_))); (case side2 => exact HC357_1.out); rintro e w9 ⟨rfl, hb⟩; refine ⟨_, rfl, ?_⟩; replace HB := aZ (below_step (lZB HB.out) hb); (try clear hb); (try clear hb2); (try clear hk); (try clear hi)))
   go_roundg k1
   case measure => have := HK1.out; omega
   case rel => exact ⟨(x3_1 ++ t358), (wrap64 (x4_1 + 1)), tZB, tZB, H', ⟨by have := HK1.out; omega⟩, ⟨bZ⟩⟩
end Go.Proofs.Ytfkakbpjddgmeaa.PFnFlowBack
