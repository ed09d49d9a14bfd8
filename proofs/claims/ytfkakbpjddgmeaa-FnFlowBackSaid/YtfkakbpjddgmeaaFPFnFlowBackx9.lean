import Derived.Test.YtfkakbpjddgmeaaFPFnFlowBackx0
import Derived.Test.YtfkakbpjddgmeaaFPFnFlowBackx4
import Derived.Test.YtfkakbpjddgmeaaFPFnFlowBackx8
import Derived.Test.YtfkakbpjddgmeaaFSlimWords
namespace Go.Proofs.Ytfkakbpjddgmeaa.PFnFlowBack
open Go.Proofs.Ytfkakbpjddgmeaa.SlimWords
open Go.RowKit Go.Proofs.YtfkakbpjddgmeaaW.PrintWords Go.Proofs.YtfkakbpjddgmeaaW.PrintLast Go.Proofs.YtfkakbpjddgmeaaW.PrintMore Go.Proofs.Ytfkakbpjddgmeaa.MapWords Go.Proofs.Ytfkakbpjddgmeaa.IterWords Go.Proofs.Ytfkakbpjddgmeaa.MarkWords
attribute [local go_sem] max2_int min2_int max_two min_two max_three min_three max_four min_four
set_option linter.unusedVariables false
set_option linter.unusedSimpArgs false
mutual
def impl_ShowFlow.l0 : Nat → List (S51) → ByteArray → List (S51) → Int → Int → Option (ByteArray)
  | 0, _, _, _, _, _ => none
  | k + 1, x0, x3, x17, x18, x19 => if x19 < x18 then (if 0 ≤ x19 then (if x19 < (x17.length : Int) then ((impl_ShowMoney.f k ((rd_T51 x17 x19).f0) 2).bind fun t317 => (if 5 + t317.size ≤ 9223372036854775807 then (if ((⟨#[111, 118, 101, 114, 32]⟩ : ByteArray) ++ t317).size + 2 ≤ 9223372036854775807 then (if x3.size + (((⟨#[111, 118, 101, 114, 32]⟩ : ByteArray) ++ t317) ++ (⟨#[58, 32]⟩ : ByteArray)).size ≤ 9223372036854775807 then (impl_ShowFlow.l1 k x0 (x3 ++ (((⟨#[111, 118, 101, 114, 32]⟩ : ByteArray) ++ t317) ++ (⟨#[58, 32]⟩ : ByteArray))) x17 x18 x19 ((rd_T51 x17 x19).f1) (((rd_T51 x17 x19).f1).length : Int) 0) else (none)) else (none)) else (none))) else (none)) else (none)) else ((impl_ParseFlow.f k x3).bind fun bt319 => (if bt319.2 = 0 then (impl_ShowFlow.j2 k x0 x3 bt319.1 ((bt319.1.length : Int) != (x0.length : Int))) else (impl_ShowFlow.j2 k x0 x3 bt319.1 true)))
def impl_ShowFlow.l1 : Nat → List (S51) → ByteArray → List (S51) → Int → Int → List ByteArray → Int → Int → Option (ByteArray)
  | 0, _, _, _, _, _, _, _, _ => none
  | k + 1, x0, x3, x17, x18, x19, x31, x32, x33 => if x33 < x32 then (if 0 ≤ x33 then (if x33 < (x31.length : Int) then (if x33 > 0 then (if x3.size + 2 ≤ 9223372036854775807 then (if (x3 ++ (⟨#[44, 32]⟩ : ByteArray)).size + (rdOf ByteArray.empty x31 x33).size ≤ 9223372036854775807 then (impl_ShowFlow.l1 k x0 ((x3 ++ (⟨#[44, 32]⟩ : ByteArray)) ++ (rdOf ByteArray.empty x31 x33)) x17 x18 x19 x31 x32 (wrap64 (x33 + 1))) else (none)) else (none)) else (if x3.size + (rdOf ByteArray.empty x31 x33).size ≤ 9223372036854775807 then (impl_ShowFlow.l1 k x0 (x3 ++ (rdOf ByteArray.empty x31 x33)) x17 x18 x19 x31 x32 (wrap64 (x33 + 1))) else (none))) else (none)) else (none)) else (if x3.size + 1 ≤ 9223372036854775807 then (if ((x3 ++ (⟨#[10]⟩ : ByteArray)).size : Int) > 2000 then (some (⟨#[]⟩ : ByteArray)) else (impl_ShowFlow.l0 k x0 (x3 ++ (⟨#[10]⟩ : ByteArray)) x17 x18 (wrap64 (x19 + 1)))) else (none))
def impl_ShowFlow.j2 : Nat → List (S51) → ByteArray → List (S51) → Bool → Option (ByteArray)
  | 0, _, _, _, _ => none
  | k + 1, x0, x3, x8, x65 => if x65 = true then (some (⟨#[]⟩ : ByteArray)) else (impl_ShowFlow.l2 k x3 x8 x0 (x0.length : Int) 0)
def impl_ShowFlow.l2 : Nat → ByteArray → List (S51) → List (S51) → Int → Int → Option (ByteArray)
  | 0, _, _, _, _, _ => none
  | k + 1, x3, x8, x66, x67, x68 => if x68 < x67 then (if 0 ≤ x68 then (if x68 < (x66.length : Int) then (if x68 < (x8.length : Int) then (if ((rd_T51 x8 x68).f0) = ((rd_T51 x66 x68).f0) then (impl_ShowFlow.j4 k x3 x8 x68 x66 x67 x68 ((((rd_T51 x8 x68).f1).length : Int) != (((rd_T51 x66 x68).f1).length : Int)) ((rd_T51 x66 x68).f0) ((rd_T51 x66 x68).f1)) else (impl_ShowFlow.j4 k x3 x8 x68 x66 x67 x68 true ((rd_T51 x66 x68).f0) ((rd_T51 x66 x68).f1))) else (none)) else (none)) else (none)) else (some x3)
def impl_ShowFlow.j4 : Nat → ByteArray → List (S51) → Int → List (S51) → Int → Int → Bool → Int → List ByteArray → Option (ByteArray)
  | 0, _, _, _, _, _, _, _, _, _ => none
  | k + 1, x3, x8, x10, x66, x67, x68, x92, x325000, x325001 => if x92 = true then (some (⟨#[]⟩ : ByteArray)) else (impl_ShowFlow.l3 k x3 x8 x10 x66 x67 x68 x325001 (x325001.length : Int) 0)
def impl_ShowFlow.l3 : Nat → ByteArray → List (S51) → Int → List (S51) → Int → Int → List ByteArray → Int → Int → Option (ByteArray)
  | 0, _, _, _, _, _, _, _, _, _ => none
  | k + 1, x3, x8, x10, x66, x67, x68, x94, x95, x96 => if x96 < x95 then (if 0 ≤ x96 then (if x96 < (x94.length : Int) then (if 0 ≤ x10 then (if x10 < (x8.length : Int) then (if x96 < (((rd_T51 x8 x10).f1).length : Int) then (if (rdOf ByteArray.empty ((rd_T51 x8 x10).f1) x96).toList = (rdOf ByteArray.empty x94 x96).toList then (impl_ShowFlow.l3 k x3 x8 x10 x66 x67 x68 x94 x95 (wrap64 (x96 + 1))) else (some (⟨#[]⟩ : ByteArray))) else (none)) else (none)) else (none)) else (none)) else (none)) else (impl_ShowFlow.l2 k x3 x8 x66 x67 (wrap64 (x68 + 1)))
end
def impl_ShowFlow.f (k : Nat) (l0 : List (S51)) : Option (ByteArray) := if (l0.length : Int) > 20 then (some (⟨#[]⟩ : ByteArray)) else (impl_ShowFlow.l0 k l0 (⟨#[]⟩ : ByteArray) l0 (l0.length : Int) 0)
theorem impl_ShowFlow.mono_l : ∀ k, (∀ y0 y1 y2 y3 y4, LeO (impl_ShowFlow.l0 k y0 y1 y2 y3 y4) (impl_ShowFlow.l0 (k + 1) y0 y1 y2 y3 y4)) ∧ (∀ y0 y1 y2 y3 y4 y5 y6 y7, LeO (impl_ShowFlow.l1 k y0 y1 y2 y3 y4 y5 y6 y7) (impl_ShowFlow.l1 (k + 1) y0 y1 y2 y3 y4 y5 y6 y7)) ∧ (∀ y0 y1 y2 y3, LeO (impl_ShowFlow.j2 k y0 y1 y2 y3) (impl_ShowFlow.j2 (k + 1) y0 y1 y2 y3)) ∧ (∀ y0 y1 y2 y3 y4, LeO (impl_ShowFlow.l2 k y0 y1 y2 y3 y4) (impl_ShowFlow.l2 (k + 1) y0 y1 y2 y3 y4)) ∧ (∀ y0 y1 y2 y3 y4 y5 y6 y7 y8, LeO (impl_ShowFlow.j4 k y0 y1 y2 y3 y4 y5 y6 y7 y8) (impl_ShowFlow.j4 (k + 1) y0 y1 y2 y3 y4 y5 y6 y7 y8)) ∧ (∀ y0 y1 y2 y3 y4 y5 y6 y7 y8, LeO (impl_ShowFlow.l3 k y0 y1 y2 y3 y4 y5 y6 y7 y8) (impl_ShowFlow.l3 (k + 1) y0 y1 y2 y3 y4 y5 y6 y7 y8))
  | 0 => ⟨fun _ _ _ _ _ r h => by simp [impl_ShowFlow.l0] at h, fun _ _ _ _ _ _ _ _ r h => by simp [impl_ShowFlow.l1] at h, fun _ _ _ _ r h => by simp [impl_ShowFlow.j2] at h, fun _ _ _ _ _ r h => by simp [impl_ShowFlow.l2] at h, fun _ _ _ _ _ _ _ _ _ r h => by simp [impl_ShowFlow.j4] at h, fun _ _ _ _ _ _ _ _ _ r h => by simp [impl_ShowFlow.l3] at h⟩
  | k + 1 => by
    obtain ⟨ih0, ih1, ih2, ih3, ih4, ih5⟩ := impl_ShowFlow.mono_l k
    refine ⟨?_, ?_, ?_, ?_, ?_, ?_⟩
    · intro y0 y1 y2 y3 y4
      unfold impl_ShowFlow.l0
      repeat' first
      | (with_reducible exact ih0 _ _ _ _ _)
      | (with_reducible exact ih1 _ _ _ _ _ _ _ _)
      | (with_reducible exact ih2 _ _ _ _)
      | (with_reducible exact ih3 _ _ _ _ _)
      | (with_reducible exact ih4 _ _ _ _ _ _ _ _ _)
      | (with_reducible exact ih5 _ _ _ _ _ _ _ _ _)
      | (with_reducible exact impl_ParseFlow.mono _ _)
      | (with_reducible exact impl_ShowMoney.mono _ _ _)
      | (with_reducible exact LeO.refl _)
      | (with_reducible exact LeO.none _)
      | (with_reducible refine LeO.ite ?_ ?_)
      | (with_reducible refine LeO.bind ?_ (fun _ => ?_))
      | exact ih0 _ _ _ _ _
      | exact ih1 _ _ _ _ _ _ _ _
      | exact ih2 _ _ _ _
      | exact ih3 _ _ _ _ _
      | exact ih4 _ _ _ _ _ _ _ _ _
      | exact ih5 _ _ _ _ _ _ _ _ _
      | exact impl_ParseFlow.mono _ _
      | exact impl_ShowMoney.mono _ _ _
      | exact LeO.none _
      | refine LeO.ite ?_ ?_
      | refine LeO.bind ?_ (fun _ => ?_)
    · intro y0 y1 y2 y3 y4 y5 y6 y7
      unfold impl_ShowFlow.l1
      repeat' first
      | (with_reducible exact ih0 _ _ _ _ _)
      | (with_reducible exact ih1 _ _ _ _ _ _ _ _)
      | (with_reducible exact ih2 _ _ _ _)
      | (with_reducible exact ih3 _ _ _ _ _)
      | (with_reducible exact ih4 _ _ _ _ _ _ _ _ _)
      | (with_reducible exact ih5 _ _ _ _ _ _ _ _ _)
      | (with_reducible exact impl_ParseFlow.mono _ _)
      | (with_reducible exact impl_ShowMoney.mono _ _ _)
      | (with_reducible exact LeO.refl _)
      | (with_reducible exact LeO.none _)
      | (with_reducible refine LeO.ite ?_ ?_)
      | (with_reducible refine LeO.bind ?_ (fun _ => ?_))
      | exact ih0 _ _ _ _ _
      | exact ih1 _ _ _ _ _ _ _ _
      | exact ih2 _ _ _ _
      | exact ih3 _ _ _ _ _
      | exact ih4 _ _ _ _ _ _ _ _ _
      | exact ih5 _ _ _ _ _ _ _ _ _
      | exact impl_ParseFlow.mono _ _
      | exact impl_ShowMoney.mono _ _ _
      | exact LeO.none _
      | refine LeO.ite ?_ ?_
      | refine LeO.bind ?_ (fun _ => ?_)
    · intro y0 y1 y2 y3
      unfold impl_ShowFlow.j2
      repeat' first
      | (with_reducible exact ih0 _ _ _ _ _)
      | (with_reducible exact ih1 _ _ _ _ _ _ _ _)
      | (with_reducible exact ih2 _ _ _ _)
      | (with_reducible exact ih3 _ _ _ _ _)
      | (with_reducible exact ih4 _ _ _ _ _ _ _ _ _)
      | (with_reducible exact ih5 _ _ _ _ _ _ _ _ _)
      | (with_reducible exact impl_ParseFlow.mono _ _)
      | (with_reducible exact impl_ShowMoney.mono _ _ _)
      | (with_reducible exact LeO.refl _)
      | (with_reducible exact LeO.none _)
      | (with_reducible refine LeO.ite ?_ ?_)
      | (with_reducible refine LeO.bind ?_ (fun _ => ?_))
      | exact ih0 _ _ _ _ _
      | exact ih1 _ _ _ _ _ _ _ _
      | exact ih2 _ _ _ _
      | exact ih3 _ _ _ _ _
      | exact ih4 _ _ _ _ _ _ _ _ _
      | exact ih5 _ _ _ _ _ _ _ _ _
      | exact impl_ParseFlow.mono _ _
      | exact impl_ShowMoney.mono _ _ _
      | exact LeO.none _
      | refine LeO.ite ?_ ?_
      | refine LeO.bind ?_ (fun _ => ?_)
    · intro y0 y1 y2 y3 y4
      unfold impl_ShowFlow.l2
      repeat' first
      | (with_reducible exact ih0 _ _ _ _ _)
      | (with_reducible exact ih1 _ _ _ _ _ _ _ _)
      | (with_reducible exact ih2 _ _ _ _)
      | (with_reducible exact ih3 _ _ _ _ _)
      | (with_reducible exact ih4 _ _ _ _ _ _ _ _ _)
      | (with_reducible exact ih5 _ _ _ _ _ _ _ _ _)
      | (with_reducible exact impl_ParseFlow.mono _ _)
      | (with_reducible exact impl_ShowMoney.mono _ _ _)
      | (with_reducible exact LeO.refl _)
      | (with_reducible exact LeO.none _)
      | (with_reducible refine LeO.ite ?_ ?_)
      | (with_reducible refine LeO.bind ?_ (fun _ => ?_))
      | exact ih0 _ _ _ _ _
      | exact ih1 _ _ _ _ _ _ _ _
      | exact ih2 _ _ _ _
      | exact ih3 _ _ _ _ _
      | exact ih4 _ _ _ _ _ _ _ _ _
      | exact ih5 _ _ _ _ _ _ _ _ _
      | exact impl_ParseFlow.mono _ _
      | exact impl_ShowMoney.mono _ _ _
      | exact LeO.none _
      | refine LeO.ite ?_ ?_
      | refine LeO.bind ?_ (fun _ => ?_)
    · intro y0 y1 y2 y3 y4 y5 y6 y7 y8
      unfold impl_ShowFlow.j4
      repeat' first
      | (with_reducible exact ih0 _ _ _ _ _)
      | (with_reducible exact ih1 _ _ _ _ _ _ _ _)
      | (with_reducible exact ih2 _ _ _ _)
      | (with_reducible exact ih3 _ _ _ _ _)
      | (with_reducible exact ih4 _ _ _ _ _ _ _ _ _)
      | (with_reducible exact ih5 _ _ _ _ _ _ _ _ _)
      | (with_reducible exact impl_ParseFlow.mono _ _)
      | (with_reducible exact impl_ShowMoney.mono _ _ _)
      | (with_reducible exact LeO.refl _)
      | (with_reducible exact LeO.none _)
      | (with_reducible refine LeO.ite ?_ ?_)
      | (with_reducible refine LeO.bind ?_ (fun _ => ?_))
      | exact ih0 _ _ _ _ _
      | exact ih1 _ _ _ _ _ _ _ _
      | exact ih2 _ _ _ _
      | exact ih3 _ _ _ _ _
      | exact ih4 _ _ _ _ _ _ _ _ _
      | exact ih5 _ _ _ _ _ _ _ _ _
      | exact impl_ParseFlow.mono _ _
      | exact impl_ShowMoney.mono _ _ _
      | exact LeO.none _
      | refine LeO.ite ?_ ?_
      | refine LeO.bind ?_ (fun _ => ?_)
    · intro y0 y1 y2 y3 y4 y5 y6 y7 y8
      unfold impl_ShowFlow.l3
      repeat' first
      | (with_reducible exact ih0 _ _ _ _ _)
      | (with_reducible exact ih1 _ _ _ _ _ _ _ _)
      | (with_reducible exact ih2 _ _ _ _)
      | (with_reducible exact ih3 _ _ _ _ _)
      | (with_reducible exact ih4 _ _ _ _ _ _ _ _ _)
      | (with_reducible exact ih5 _ _ _ _ _ _ _ _ _)
      | (with_reducible exact impl_ParseFlow.mono _ _)
      | (with_reducible exact impl_ShowMoney.mono _ _ _)
      | (with_reducible exact LeO.refl _)
      | (with_reducible exact LeO.none _)
      | (with_reducible refine LeO.ite ?_ ?_)
      | (with_reducible refine LeO.bind ?_ (fun _ => ?_))
      | exact ih0 _ _ _ _ _
      | exact ih1 _ _ _ _ _ _ _ _
      | exact ih2 _ _ _ _
      | exact ih3 _ _ _ _ _
      | exact ih4 _ _ _ _ _ _ _ _ _
      | exact ih5 _ _ _ _ _ _ _ _ _
      | exact impl_ParseFlow.mono _ _
      | exact impl_ShowMoney.mono _ _ _
      | exact LeO.none _
      | refine LeO.ite ?_ ?_
      | refine LeO.bind ?_ (fun _ => ?_)
theorem impl_ShowFlow.mono : ∀ a0 k, LeO (impl_ShowFlow.f k a0) (impl_ShowFlow.f (k + 1) a0) := by
 intro a0 k
 obtain ⟨ih0, ih1, ih2, ih3, ih4, ih5⟩ := impl_ShowFlow.mono_l k
 unfold impl_ShowFlow.f
 repeat' first
     | (with_reducible exact ih0 _ _ _ _ _)
     | (with_reducible exact ih1 _ _ _ _ _ _ _ _)
     | (with_reducible exact ih2 _ _ _ _)
     | (with_reducible exact ih3 _ _ _ _ _)
     | (with_reducible exact ih4 _ _ _ _ _ _ _ _ _)
     | (with_reducible exact ih5 _ _ _ _ _ _ _ _ _)
     | (with_reducible exact impl_ParseFlow.mono _ _)
     | (with_reducible exact impl_ShowMoney.mono _ _ _)
     | (with_reducible exact LeO.refl _)
     | (with_reducible exact LeO.none _)
     | (with_reducible refine LeO.ite ?_ ?_)
     | (with_reducible refine LeO.bind ?_ (fun _ => ?_))
     | exact ih0 _ _ _ _ _
     | exact ih1 _ _ _ _ _ _ _ _
     | exact ih2 _ _ _ _
     | exact ih3 _ _ _ _ _
     | exact ih4 _ _ _ _ _ _ _ _ _
     | exact ih5 _ _ _ _ _ _ _ _ _
     | exact impl_ParseFlow.mono _ _
     | exact impl_ShowMoney.mono _ _ _
     | exact LeO.none _
     | refine LeO.ite ?_ ?_
     | refine LeO.bind ?_ (fun _ => ?_)
set_option maxHeartbeats 8000000 in
set_option maxRecDepth 100000 in
theorem impl_ShowFlow.calls (k : Nat) (A0 : Option Addr) (c0 : Nat) (l0 : List (S51)) (r : ByteArray) (w : World) (hr0 : Kd.C k51 w A0 l0.length l0) (hc0 : l0.length ≤ c0) (h : impl_ShowFlow.f k l0 = some r) :
    Calls Try.prog 22 #[.slice A0 l0.length c0] w fun e w' => e = .returned (.string r) ∧ Below w.heap.size w w' := by
 have hu51 := Try.underlying51; have HR0 := Aside0.mk hr0; have HC0 := Aside0.mk hc0; clear hr0 hc0; have HB := aZ (Below.refl w.heap.size w); have H : (if (l0.length : Int) > 20 then (some (⟨#[]⟩ : ByteArray)) else (impl_ShowFlow.l0 k l0 (⟨#[]⟩ : ByteArray) l0 (l0.length : Int) 0)) = some r := h; clear h
 by_cases c2 : (l0.length : Int) > 20
 ·rw [if_pos c2] at H; have c2b0 : decide (20 < (l0.length : Int)) = true := decide_eq_true c2; have c2b1 : decide (20 < l0.length) = true := decide_eq_true (by omega); clear c2; obtain rfl := Option.some.inj H; go_enter Try.func22, Try.ntmps22; go_wp2
  repeat (go_quiet (fail); try go_wp2)
  go_ret; exact ⟨tZC, bZ⟩
 rw [if_neg c2] at H; have c2b0 : decide (20 < (l0.length : Int)) = false := decide_eq_false c2; have c2b1 : decide (20 < l0.length) = false := decide_eq_false (by omega); clear c2; have H' := Aside0.mk H; clear H; go_enter Try.func22, Try.ntmps22; go_wp2
 repeat (go_quiet (fail); try go_wp2)
 go_loopg [3, 19] k (fun kq v3 v19 w' => ∃ (x3_1 : ByteArray) (x19_1 : Int), v3 = .string x3_1 ∧ v19 = .int .i64 x19_1 ∧ Aside0 (impl_ShowFlow.l0 kq l0 x3_1 l0 (l0.length : Int) x19_1 = some r) ∧ Aside0 (kq ≤ k) ∧ Aside0 (Below w.heap.size w w'))
 case atStart => exact ⟨((⟨#[]⟩ : ByteArray)), (0), tZB, tZB, H', ⟨Nat.le_refl _⟩, ⟨bZ⟩⟩
 case round =>
  clear H'; (try clear c2 c2b0 c2b1); obtain ⟨x3_1, x19_1, rfl, rfl, HA, HK1, HB⟩ := hrel
  cases gk with
  | zero => exact absurd HA.out (by simp [impl_ShowFlow.l0])
  | succ k1 =>
   have H := HA.out; clear HA; simp only [impl_ShowFlow.l0] at H
   by_cases c3 : x19_1 < (l0.length : Int)
   ·rw [if_pos c3] at H; have c3b0 := decide_eq_true c3; clear c3
    by_cases c4 : 0 ≤ x19_1
    rotate_left
    ·rw [if_neg c4] at H; exact absurd H (by simp)
    rw [if_pos c4] at H; have c4b0 := decide_eq_true c4; clear c4
    by_cases c5 : x19_1 < (l0.length : Int)
    rotate_left
    ·rw [if_neg c5] at H; exact absurd H (by simp)
    rw [if_pos c5] at H; have c5b0 := decide_eq_true c5; clear c5; replace H := Option.bind_eq_some_iff.mp H; obtain ⟨t317, A60, H⟩ := H; replace H : (if 5 + t317.size ≤ 9223372036854775807 then (if ((⟨#[111, 118, 101, 114, 32]⟩ : ByteArray) ++ t317).size + 2 ≤ 9223372036854775807 then (if x3_1.size + (((⟨#[111, 118, 101, 114, 32]⟩ : ByteArray) ++ t317) ++ (⟨#[58, 32]⟩ : ByteArray)).size ≤ 9223372036854775807 then (impl_ShowFlow.l1 k1 l0 (x3_1 ++ (((⟨#[111, 118, 101, 114, 32]⟩ : ByteArray) ++ t317) ++ (⟨#[58, 32]⟩ : ByteArray))) l0 (l0.length : Int) x19_1 ((rd_T51 l0 x19_1).f1) (((rd_T51 l0 x19_1).f1).length : Int) 0) else (none)) else (none)) else (none)) = some r := H; have A6 := Aside0.mk A60; clear A60
    by_cases c7 : 5 + t317.size ≤ 9223372036854775807
    rotate_left
    ·rw [if_neg c7] at H; exact absurd H (by simp)
    rw [if_pos c7] at H; have c7b0 := eq_true c7; have c7b1 := decide_eq_true c7
    try have c7b2 := eq_false (Nat.not_lt.2 c7)
    by_cases c8 : ((⟨#[111, 118, 101, 114, 32]⟩ : ByteArray) ++ t317).size + 2 ≤ 9223372036854775807
    rotate_left
    ·rw [if_neg c8] at H; exact absurd H (by simp)
    rw [if_pos c8] at H; have c8b0 := eq_true c8; have c8b1 := decide_eq_true c8
    try have c8b2 := eq_false (Nat.not_lt.2 c8)
    try have c8b5 : (9223372036854775807 < 5 + t317.size + 2) = False := eq_false (by have h_ := c8; have e0_ : (⟨#[111, 118, 101, 114, 32]⟩ : ByteArray).size = 5 := rfl; simp only [ByteArray.size_append, ByteArray.size_extract] at h_; omega)
    by_cases c9 : x3_1.size + (((⟨#[111, 118, 101, 114, 32]⟩ : ByteArray) ++ t317) ++ (⟨#[58, 32]⟩ : ByteArray)).size ≤ 9223372036854775807
    rotate_left
    ·rw [if_neg c9] at H; exact absurd H (by simp)
    rw [if_pos c9] at H; have c9b0 := eq_true c9; have c9b1 := decide_eq_true c9
    try have c9b2 := eq_false (Nat.not_lt.2 c9)
    try have c9b5 : (9223372036854775807 < x3_1.size + 5 + t317.size + 2) = False := eq_false (by have h_ := c9; have e0_ : (⟨#[111, 118, 101, 114, 32]⟩ : ByteArray).size = 5 := rfl; have e1_ : (⟨#[58, 32]⟩ : ByteArray).size = 2 := rfl; simp only [ByteArray.size_append, ByteArray.size_extract] at h_; omega)
    have H' := Aside0.mk H; clear H; have p315 : 0 ≤ (x19_1 : Int) := of_decide_eq_true tZE; have q315 : x19_1 < (l0.length : Int) := of_decide_eq_true tZE; obtain ⟨ad315, A315_1, c315_1, e315, hx315_0, hx315_1, hl315_1, hi315_1⟩ := at_T51 HR0.out x19_1 p315 q315; have hz315_1 := hx315_1
    cases e315
    replace hx315_0 := cZ HB hx315_0; replace hx315_1 := cZ HB hx315_1; have HR315_1 := Aside0.mk hi315_1; have HC315_1 := Aside0.mk hl315_1; clear hi315_1 hl315_1; replace p315 := eq_true p315; replace q315 := eq_true q315
    go_wp2_with (first | ((with_reducible refine gate_dst (N := 5) rfl ?_); (try (refine gate_guard (by rfl) ?_; dsimp only)); refine box_event tZR (N := 5) tZR (cs := #[.int .i64 0, .slice none 0 0]) (t := 51) tZS ?_; intro gb316 hg w10 hbox hb; have BK316 := aZ (hbox); have GW316 := aZ ((by rw [hg]; exact (below_size (lZB HB.out)) : w.heap.size ≤ gb316)); have GE316 := GW316; replace HB := aZ (below_step (lZB HB.out) hb); clear hb hbox hg; obtain ⟨hcz11_0, hcz11_1, hfz11_0, hfz11_1⟩ := bc2 BK316.out) | (go_at_call 53; (with_reducible refine (impl_ShowMoney.calls k1 ((rd_T51 l0 x19_1).f0) 2 t317 _ A6.out).mono ?_); rintro e w12 ⟨rfl, hb⟩; replace BK316 := aZ (blk_below (g := gb316) (o := .cells #[.int .i64 ((rd_T51 l0 x19_1).f0), .slice A315_1 ((rd_T51 l0 x19_1).f1).length c315_1] 51 (0, 0)) (by (with_reducible repeat (first | refine blk_drewN ?_ _ | refine blk_drew ?_ | refine blk_alloc ?_ _)); refine blk_put (cs := #[.int .i64 ((rd_T51 l0 x19_1).f0), .slice none 0 0]) ?_ 1 _ rfl; (with_reducible repeat (first | refine blk_drewN ?_ _ | refine blk_drew ?_ | refine blk_alloc ?_ _)); refine blk_put (cs := #[.int .i64 0, .slice none 0 0]) ?_ 0 _ rfl; (with_reducible repeat (first | refine blk_drewN ?_ _ | refine blk_drew ?_ | refine blk_alloc ?_ _)); exact BK316.out) hb); replace HB := aZ (below_step bZ hb); (try clear hb); (try clear hb2); (try clear hk); (try clear hi); obtain ⟨hcz13_0, hcz13_1, hfz13_0, hfz13_1⟩ := bc2 BK316.out))
    repeat (go_quiet (first | ((with_reducible refine gate_dst (N := 5) rfl ?_); (try (refine gate_guard (by rfl) ?_; dsimp only)); refine box_event tZR (N := 5) tZR (cs := #[.int .i64 0, .slice none 0 0]) (t := 51) tZS ?_; intro gb316 hg w10 hbox hb; have BK316 := aZ (hbox); have GW316 := aZ ((by rw [hg]; exact (below_size (lZB HB.out)) : w.heap.size ≤ gb316)); have GE316 := GW316; replace HB := aZ (below_step (lZB HB.out) hb); clear hb hbox hg; obtain ⟨hcz11_0, hcz11_1, hfz11_0, hfz11_1⟩ := bc2 BK316.out) | (go_at_call 53; (with_reducible refine (impl_ShowMoney.calls k1 ((rd_T51 l0 x19_1).f0) 2 t317 _ A6.out).mono ?_); rintro e w12 ⟨rfl, hb⟩; replace BK316 := aZ (blk_below (g := gb316) (o := .cells #[.int .i64 ((rd_T51 l0 x19_1).f0), .slice A315_1 ((rd_T51 l0 x19_1).f1).length c315_1] 51 (0, 0)) (by (with_reducible repeat (first | refine blk_drewN ?_ _ | refine blk_drew ?_ | refine blk_alloc ?_ _)); refine blk_put (cs := #[.int .i64 ((rd_T51 l0 x19_1).f0), .slice none 0 0]) ?_ 1 _ rfl; (with_reducible repeat (first | refine blk_drewN ?_ _ | refine blk_drew ?_ | refine blk_alloc ?_ _)); refine blk_put (cs := #[.int .i64 0, .slice none 0 0]) ?_ 0 _ rfl; (with_reducible repeat (first | refine blk_drewN ?_ _ | refine blk_drew ?_ | refine blk_alloc ?_ _)); exact BK316.out) hb); replace HB := aZ (below_step bZ hb); (try clear hb); (try clear hb2); (try clear hk); (try clear hi); obtain ⟨hcz13_0, hcz13_1, hfz13_0, hfz13_1⟩ := bc2 BK316.out)); try go_wp2_with (first | ((with_reducible refine gate_dst (N := 5) rfl ?_); (try (refine gate_guard (by rfl) ?_; dsimp only)); refine box_event tZR (N := 5) tZR (cs := #[.int .i64 0, .slice none 0 0]) (t := 51) tZS ?_; intro gb316 hg w10 hbox hb; have BK316 := aZ (hbox); have GW316 := aZ ((by rw [hg]; exact (below_size (lZB HB.out)) : w.heap.size ≤ gb316)); have GE316 := GW316; replace HB := aZ (below_step (lZB HB.out) hb); clear hb hbox hg; obtain ⟨hcz11_0, hcz11_1, hfz11_0, hfz11_1⟩ := bc2 BK316.out) | (go_at_call 53; (with_reducible refine (impl_ShowMoney.calls k1 ((rd_T51 l0 x19_1).f0) 2 t317 _ A6.out).mono ?_); rintro e w12 ⟨rfl, hb⟩; replace BK316 := aZ (blk_below (g := gb316) (o := .cells #[.int .i64 ((rd_T51 l0 x19_1).f0), .slice A315_1 ((rd_T51 l0 x19_1).f1).length c315_1] 51 (0, 0)) (by (with_reducible repeat (first | refine blk_drewN ?_ _ | refine blk_drew ?_ | refine blk_alloc ?_ _)); refine blk_put (cs := #[.int .i64 ((rd_T51 l0 x19_1).f0), .slice none 0 0]) ?_ 1 _ rfl; (with_reducible repeat (first | refine blk_drewN ?_ _ | refine blk_drew ?_ | refine blk_alloc ?_ _)); refine blk_put (cs := #[.int .i64 0, .slice none 0 0]) ?_ 0 _ rfl; (with_reducible repeat (first | refine blk_drewN ?_ _ | refine blk_drew ?_ | refine blk_alloc ?_ _)); exact BK316.out) hb); replace HB := aZ (below_step bZ hb); (try clear hb); (try clear hb2); (try clear hk); (try clear hi); obtain ⟨hcz13_0, hcz13_1, hfz13_0, hfz13_1⟩ := bc2 BK316.out)))
    go_loopg [3, 33] k1 (fun kq v3 v33 w' => ∃ (x3_2 : ByteArray) (x33_2 : Int), v3 = .string x3_2 ∧ v33 = .int .i64 x33_2 ∧ Aside0 (impl_ShowFlow.l1 kq l0 x3_2 l0 (l0.length : Int) x19_1 ((rd_T51 l0 x19_1).f1) (((rd_T51 l0 x19_1).f1).length : Int) x33_2 = some r) ∧ Aside0 (kq ≤ k1) ∧ Aside0 (w'.heap[gb316]? = some (.cells #[.int .i64 ((rd_T51 l0 x19_1).f0), (.slice A315_1 ((rd_T51 l0 x19_1).f1).length c315_1)] 51 (0, 0))) ∧ Aside0 (Below w.heap.size w w'))
    case atStart => exact ⟨(x3_1 ++ (((⟨#[111, 118, 101, 114, 32]⟩ : ByteArray) ++ t317) ++ (⟨#[58, 32]⟩ : ByteArray))), (0), tZB, tZB, H', ⟨Nat.le_refl _⟩, ⟨bkZ BK316.out⟩, ⟨bZ⟩⟩
    case round =>
     clear H'; (try clear c2 c2b0 c2b1 c3 c3b0 c4 c4b0 c5 c5b0 c7 c7b0 c7b1 c7b2 c8 c8b0 c8b1 c8b2 c9 c9b0 c9b1 c9b2 hcz11_0 hcz11_1 hcz13_0 hcz13_1 hfz11_0 hfz11_1 hfz13_0 hfz13_1 hx315_0 hx315_1 p315 q315); obtain ⟨x3_2, x33_2, rfl, rfl, HA, HK2, BK316, HB⟩ := hrel
     cases gk with
     | zero => exact absurd HA.out (by simp [impl_ShowFlow.l1])
     | succ k2 =>
      have H := HA.out; clear HA; simp only [impl_ShowFlow.l1] at H
      by_cases c14 : x33_2 < (((rd_T51 l0 x19_1).f1).length : Int)
      rotate_left
      ·rw [if_neg c14] at H; have c14b0 := decide_eq_false c14; clear c14
       by_cases c21 : x3_2.size + 1 ≤ 9223372036854775807
       rotate_left
       ·rw [if_neg c21] at H; exact absurd H (by simp)
       rw [if_pos c21] at H; have c21b0 := eq_true c21; have c21b1 := decide_eq_true c21
       try have c21b2 := eq_false (Nat.not_lt.2 c21)
       by_cases c22 : ((x3_2 ++ (⟨#[10]⟩ : ByteArray)).size : Int) > 2000
       ·rw [if_pos c22] at H; (try (have c22b7 : decide (2000 < x3_2.size + 1) = true := decide_eq_true (by have h_ := c22; have e0_ : (⟨#[10]⟩ : ByteArray).size = 1 := rfl; simp only [ByteArray.size_append, ByteArray.size_extract] at h_; omega))); (try (have c22b8 : decide (2000 < (x3_2.size : Int) + 1) = true := decide_eq_true (by have h_ := c22; have e0_ : (⟨#[10]⟩ : ByteArray).size = 1 := rfl; simp only [ByteArray.size_append, ByteArray.size_extract] at h_; omega))); have c22b0 : decide (2000 < ((x3_2 ++ (⟨#[10]⟩ : ByteArray)).size : Int)) = true := decide_eq_true c22; have c22b1 : decide (2000 < (x3_2 ++ (⟨#[10]⟩ : ByteArray)).size) = true := decide_eq_true (by omega); clear c22; obtain rfl := Option.some.inj H; go_wp2
        repeat (go_quiet (fail); try go_wp2)
        go_ret; exact ⟨tZC, bZ⟩
       rw [if_neg c22] at H; (try (have c22b7 : decide (2000 < x3_2.size + 1) = false := decide_eq_false (by have h_ := c22; have e0_ : (⟨#[10]⟩ : ByteArray).size = 1 := rfl; simp only [ByteArray.size_append, ByteArray.size_extract] at h_; omega))); (try (have c22b8 : decide (2000 < (x3_2.size : Int) + 1) = false := decide_eq_false (by have h_ := c22; have e0_ : (⟨#[10]⟩ : ByteArray).size = 1 := rfl; simp only [ByteArray.size_append, ByteArray.size_extract] at h_; omega))); have c22b0 : decide (2000 < ((x3_2 ++ (⟨#[10]⟩ : ByteArray)).size : Int)) = false := decide_eq_false c22; have c22b1 : decide (2000 < (x3_2 ++ (⟨#[10]⟩ : ByteArray)).size) = false := decide_eq_false (by omega); clear c22; have H' := Aside0.mk H; clear H; go_wp2
       repeat (go_quiet (fail); try go_wp2)
       go_roundg k2
       case measure => have := HK1.out; have := HK2.out; omega
       case rel => exact ⟨(x3_2 ++ (⟨#[10]⟩ : ByteArray)), (wrap64 (x19_1 + 1)), tZB, tZB, H', ⟨by have := HK1.out; have := HK2.out; omega⟩, ⟨bZ⟩⟩
      rw [if_pos c14] at H; have c14b0 := decide_eq_true c14; clear c14
      by_cases c15 : 0 ≤ x33_2
      rotate_left
      ·rw [if_neg c15] at H; exact absurd H (by simp)
      rw [if_pos c15] at H; have c15b0 := decide_eq_true c15; clear c15
      by_cases c16 : x33_2 < (((rd_T51 l0 x19_1).f1).length : Int)
      rotate_left
      ·rw [if_neg c16] at H; exact absurd H (by simp)
      rw [if_pos c16] at H; have c16b0 := decide_eq_true c16; clear c16
      by_cases c17 : x33_2 > 0
      rotate_left
      ·rw [if_neg c17] at H; have c17b0 : decide (0 < x33_2) = false := decide_eq_false c17; clear c17
       by_cases c20 : x3_2.size + (rdOf ByteArray.empty ((rd_T51 l0 x19_1).f1) x33_2).size ≤ 9223372036854775807
       rotate_left
       ·rw [if_neg c20] at H; exact absurd H (by simp)
       rw [if_pos c20] at H; have c20b0 := eq_true c20; have c20b1 := decide_eq_true c20
       try have c20b2 := eq_false (Nat.not_lt.2 c20)
       have H' := Aside0.mk H; clear H; have p318 : 0 ≤ (x33_2 : Int) := of_decide_eq_true tZE; have q318 : x33_2 < (((rd_T51 l0 x19_1).f1).length : Int) := of_decide_eq_true tZE; obtain ⟨ad318, e318, hx318_0⟩ := Kd.at_string HR315_1.out x33_2 p318 q318
       cases e318
       replace hx318_0 := cZ HB hx318_0; replace p318 := eq_true p318; replace q318 := eq_true q318; go_wp2
       repeat (go_quiet (fail); try go_wp2)
       go_roundg k2
       case measure => have := HK1.out; have := HK2.out; omega
       case rel => exact ⟨(x3_2 ++ (rdOf ByteArray.empty ((rd_T51 l0 x19_1).f1) x33_2)), (wrap64 (x33_2 + 1)), tZB, tZB, H', ⟨by have := HK1.out; have := HK2.out; omega⟩, ⟨bkZ BK316.out⟩, ⟨bZ⟩⟩
      rw [if_pos c17] at H; have c17b0 : decide (0 < x33_2) = true := decide_eq_true c17; clear c17
      by_cases c18 : x3_2.size + 2 ≤ 9223372036854775807
      rotate_left
      ·rw [if_neg c18] at H; exact absurd H (by simp)
      rw [if_pos c18] at H; have c18b0 := eq_true c18; have c18b1 := decide_eq_true c18
      try have c18b2 := eq_false (Nat.not_lt.2 c18)
      by_cases c19 : (x3_2 ++ (⟨#[44, 32]⟩ : ByteArray)).size + (rdOf ByteArray.empty ((rd_T51 l0 x19_1).f1) x33_2).size ≤ 9223372036854775807
      rotate_left
      ·rw [if_neg c19] at H; exact absurd H (by simp)
      rw [if_pos c19] at H; have c19b0 := eq_true c19; have c19b1 := decide_eq_true c19
      try have c19b2 := eq_false (Nat.not_lt.2 c19)
      try have c19b5 : (9223372036854775807 < x3_2.size + 2 + (rdOf ByteArray.empty ((rd_T51 l0 x19_1).f1) x33_2).size) = False := eq_false (by have h_ := c19; have e0_ : (⟨#[44, 32]⟩ : ByteArray).size = 2 := rfl; simp only [ByteArray.size_append, ByteArray.size_extract] at h_; omega)
      have H' := Aside0.mk H; clear H; have p318 : 0 ≤ (x33_2 : Int) := of_decide_eq_true tZE; have q318 : x33_2 < (((rd_T51 l0 x19_1).f1).length : Int) := of_decide_eq_true tZE; obtain ⟨ad318, e318, hx318_0⟩ := Kd.at_string HR315_1.out x33_2 p318 q318
      cases e318
      replace hx318_0 := cZ HB hx318_0; replace p318 := eq_true p318; replace q318 := eq_true q318; go_wp2
      repeat (go_quiet (fail); try go_wp2)
      go_roundg k2
      case measure => have := HK1.out; have := HK2.out; omega
      case rel => exact ⟨((x3_2 ++ (⟨#[44, 32]⟩ : ByteArray)) ++ (rdOf ByteArray.empty ((rd_T51 l0 x19_1).f1) x33_2)), (wrap64 (x33_2 + 1)), tZB, tZB, H', ⟨by have := HK1.out; have := HK2.out; omega⟩, ⟨bkZ BK316.out⟩, ⟨bZ⟩⟩
   rw [if_neg c3] at H; have c3b0 := decide_eq_false c3; clear c3; replace H := Option.bind_eq_some_iff.mp H; obtain ⟨⟨t319, t320⟩, A230, H⟩ := H; replace H : (if t320 = 0 then (impl_ShowFlow.j2 k1 l0 x3_1 t319 ((t319.length : Int) != (l0.length : Int))) else (impl_ShowFlow.j2 k1 l0 x3_1 t319 true)) = some r := H; have A23 := Aside0.mk A230; clear A230; have HC24 := Aside0.mk H; clear H
   go_upto_region 20 with (first | (go_at_call 24; (with_reducible refine (impl_ParseFlow.calls k1 x3_1 t319 t320 _ A23.out).mono ?_); rintro e w25 ⟨v321, rfl, ho0, hb⟩; have HO322 := aZ (Kd.S_lower ho0 (below_size (lZB HB.out))); replace HB := aZ (below_step (lZB HB.out) hb); (try clear hb); (try clear hb2); (try clear hk); (try clear hi); (try clear ho0)))
   repeat (go_quiet (first | (go_at_call 24; (with_reducible refine (impl_ParseFlow.calls k1 x3_1 t319 t320 _ A23.out).mono ?_); rintro e w25 ⟨v321, rfl, ho0, hb⟩; have HO322 := aZ (Kd.S_lower ho0 (below_size (lZB HB.out))); replace HB := aZ (below_step (lZB HB.out) hb); (try clear hb); (try clear hb2); (try clear hk); (try clear hi); (try clear ho0))); go_upto_region 20 with (first | (go_at_call 24; (with_reducible refine (impl_ParseFlow.calls k1 x3_1 t319 t320 _ A23.out).mono ?_); rintro e w25 ⟨v321, rfl, ho0, hb⟩; have HO322 := aZ (Kd.S_lower ho0 (below_size (lZB HB.out))); replace HB := aZ (below_step (lZB HB.out) hb); (try clear hb); (try clear hb2); (try clear hk); (try clear hi); (try clear ho0))))
   (try simp only [Act.put, sZ1, sZ2, sZ3])
   go_cut [65] (fun v65 wc => ∃ (kq : Nat) (x65_23 : Bool), v65 = .bool x65_23 ∧ Aside0 (impl_ShowFlow.j2 kq l0 x3_1 t319 x65_23 = some r) ∧ Aside0 (kq ≤ k1) ∧ Aside0 (Kd.S k51 51 wc w.heap.size (fun _ => True) v321 t319) ∧ Aside0 (Below w.heap.size w wc))
   case first =>
    have H := HC24.out; clear HC24
    by_cases c26 : t320 = 0
    rotate_left
    ·rw [if_neg c26] at H; have c26b0 : (t320 == 0) = false := beq_eq_false_iff_ne.mpr c26; have c26b1 : (t320 != 0) = true := bne_iff_ne.mpr c26; (first | rw [c26b0] | (simp only [i64_w, i32_w]; rw [c26b0]) | skip); have H' := Aside0.mk H; clear H; go_wp2
     repeat (go_quiet (fail); try go_wp2)
     go_meet
     case rel => exact ⟨_, (true), tZB, H', ⟨by have := HK1.out; first | omega | exact Nat.le_refl _⟩, ⟨lZS HO322.out⟩, ⟨bZ⟩⟩
    rw [if_pos c26] at H; have c26b0 : (t320 == 0) = true := beq_iff_eq.mpr c26; have c26b1 : (t320 != 0) = false := bne_eq_false_iff_eq.mpr c26; clear c26; (first | rw [c26b0] | (simp only [i64_w, i32_w]; rw [c26b0]) | skip); have H' := Aside0.mk H; clear H; obtain ⟨Ao27, co27, eo27⟩ := Kd.S_slice HO322.out; subst eo27; go_wp2
    repeat (go_quiet (fail); try go_wp2)
    go_meet
    case rel => exact ⟨_, (((t319.length : Int) != (l0.length : Int))), tZB, H', ⟨by have := HK1.out; first | omega | exact Nat.le_refl _⟩, ⟨lZS HO322.out⟩, ⟨bZ⟩⟩
   case rest =>
    clear HC24; (try clear c2 c2b0 c2b1 c3 c3b0); obtain ⟨kq, x65_23, rfl, HA, HJ23, HO_8, HB⟩ := hcut
    cases kq with
    | zero => exact absurd HA.out (by simp [impl_ShowFlow.j2])
    | succ kj23 =>
     have H := HA.out; clear HA; simp only [impl_ShowFlow.j2] at H
     by_cases c28 : x65_23 = true
     ·subst c28; rw [if_pos rfl] at H; obtain rfl := Option.some.inj H; go_wp2
      repeat (go_quiet (fail); try go_wp2)
      go_ret; exact ⟨tZC, bZ⟩
     replace c28 := Bool.eq_false_iff.mpr c28; subst c28; rw [if_neg Bool.false_ne_true] at H; have H' := Aside0.mk H; clear H; go_wp2
     repeat (go_quiet (fail); try go_wp2)
     go_loopg [68] kj23 (fun kq v68 w' => ∃ (x68_3 : Int), v68 = .int .i64 x68_3 ∧ Aside0 (impl_ShowFlow.l2 kq x3_1 t319 l0 (l0.length : Int) x68_3 = some r) ∧ Aside0 (kq ≤ kj23) ∧ Aside0 (Kd.S k51 51 w' w.heap.size (fun _ => True) v321 t319) ∧ Aside0 (Below w.heap.size w w'))
     case atStart => exact ⟨(0), tZB, H', ⟨Nat.le_refl _⟩, ⟨lZS HO_8.out⟩, ⟨bZ⟩⟩
     case round =>
      clear H'; (try clear c2 c2b0 c2b1 c3 c3b0 c28); obtain ⟨x68_3, rfl, HA, HK3, HO_8, HB⟩ := hrel
      cases gk with
      | zero => exact absurd HA.out (by simp [impl_ShowFlow.l2])
      | succ k3 =>
       have H := HA.out; clear HA; simp only [impl_ShowFlow.l2] at H
       by_cases c29 : x68_3 < (l0.length : Int)
       rotate_left
       ·rw [if_neg c29] at H; have c29b0 := decide_eq_false c29; clear c29; obtain rfl := Option.some.inj H; go_wp2
        repeat (go_quiet (fail); try go_wp2)
        go_ret; exact ⟨tZC, bZ⟩
       rw [if_pos c29] at H; have c29b0 := decide_eq_true c29; clear c29
       by_cases c30 : 0 ≤ x68_3
       rotate_left
       ·rw [if_neg c30] at H; exact absurd H (by simp)
       rw [if_pos c30] at H; have c30b0 := decide_eq_true c30; clear c30
       by_cases c31 : x68_3 < (l0.length : Int)
       rotate_left
       ·rw [if_neg c31] at H; exact absurd H (by simp)
       rw [if_pos c31] at H; have c31b0 := decide_eq_true c31; clear c31; have HC32 := Aside0.mk H; clear H; have p323 : 0 ≤ (x68_3 : Int) := of_decide_eq_true tZE; have q323 : x68_3 < (l0.length : Int) := of_decide_eq_true tZE; obtain ⟨ad323, A323_1, c323_1, e323, hx323_0, hx323_1, hl323_1, hi323_1⟩ := at_T51 HR0.out x68_3 p323 q323; have hz323_1 := hx323_1
       cases e323
       replace hx323_0 := cZ HB hx323_0; replace hx323_1 := cZ HB hx323_1; have HR323_1 := Aside0.mk hi323_1; have HC323_1 := Aside0.mk hl323_1; clear hi323_1 hl323_1; replace p323 := eq_true p323; replace q323 := eq_true q323
       go_upto_region 25 with (first | ((with_reducible refine gate_dst (N := 11) rfl ?_); (try (refine gate_guard (by rfl) ?_; dsimp only)); refine box_event tZR (N := 11) tZR (cs := #[.int .i64 0, .slice none 0 0]) (t := 51) tZS ?_; intro gb324 hg w33 hbox hb; replace HO_8 := aZ (Kd.S_below (Kd.S_elderB (lZS HO_8.out) gb324 (Nat.le_of_eq hg.symm)) hb); have BK324 := aZ (hbox); have GW324 := aZ ((by rw [hg]; exact (below_size (lZB HB.out)) : w.heap.size ≤ gb324)); have GE324 := GW324; replace HB := aZ (below_step (lZB HB.out) hb); clear hb hbox hg; obtain ⟨hcz34_0, hcz34_1, hfz34_0, hfz34_1⟩ := bc2 BK324.out))
       repeat (go_quiet (first | ((with_reducible refine gate_dst (N := 11) rfl ?_); (try (refine gate_guard (by rfl) ?_; dsimp only)); refine box_event tZR (N := 11) tZR (cs := #[.int .i64 0, .slice none 0 0]) (t := 51) tZS ?_; intro gb324 hg w33 hbox hb; replace HO_8 := aZ (Kd.S_below (Kd.S_elderB (lZS HO_8.out) gb324 (Nat.le_of_eq hg.symm)) hb); have BK324 := aZ (hbox); have GW324 := aZ ((by rw [hg]; exact (below_size (lZB HB.out)) : w.heap.size ≤ gb324)); have GE324 := GW324; replace HB := aZ (below_step (lZB HB.out) hb); clear hb hbox hg; obtain ⟨hcz34_0, hcz34_1, hfz34_0, hfz34_1⟩ := bc2 BK324.out)); go_upto_region 25 with (first | ((with_reducible refine gate_dst (N := 11) rfl ?_); (try (refine gate_guard (by rfl) ?_; dsimp only)); refine box_event tZR (N := 11) tZR (cs := #[.int .i64 0, .slice none 0 0]) (t := 51) tZS ?_; intro gb324 hg w33 hbox hb; replace HO_8 := aZ (Kd.S_below (Kd.S_elderB (lZS HO_8.out) gb324 (Nat.le_of_eq hg.symm)) hb); have BK324 := aZ (hbox); have GW324 := aZ ((by rw [hg]; exact (below_size (lZB HB.out)) : w.heap.size ≤ gb324)); have GE324 := GW324; replace HB := aZ (below_step (lZB HB.out) hb); clear hb hbox hg; obtain ⟨hcz34_0, hcz34_1, hfz34_0, hfz34_1⟩ := bc2 BK324.out)))
       (try simp only [Act.put, sZ1, sZ2, sZ3])
       go_cut [92] (fun v92 wc => ∃ (kq : Nat) (x92_31 : Bool), v92 = .bool x92_31 ∧ Aside0 (impl_ShowFlow.j4 kq x3_1 t319 x68_3 l0 (l0.length : Int) x68_3 x92_31 ((rd_T51 l0 x68_3).f0) ((rd_T51 l0 x68_3).f1) = some r) ∧ Aside0 (kq ≤ k3) ∧ Aside0 (Kd.S k51 51 wc w.heap.size (fun k_ => k_ ≠ gb324) v321 t319) ∧ Aside0 (wc.heap[gb324]? = some (.cells #[.int .i64 ((rd_T51 l0 x68_3).f0), (.slice A323_1 ((rd_T51 l0 x68_3).f1).length c323_1)] 51 (0, 0))) ∧ Aside0 (Below w.heap.size w wc))
       case first =>
        have H := HC32.out; clear HC32
        by_cases c35 : x68_3 < (t319.length : Int)
        rotate_left
        ·rw [if_neg c35] at H; exact absurd H (by simp)
        rw [if_pos c35] at H; have c35b0 := decide_eq_true c35; clear c35; (first | rw [c35b0] | (simp only [i64_w, i32_w]; rw [c35b0]) | skip)
        by_cases c36 : ((rd_T51 t319 x68_3).f0) = ((rd_T51 l0 x68_3).f0)
        rotate_left
        ·rw [if_neg c36] at H; have c36b0 : (((rd_T51 t319 x68_3).f0) == ((rd_T51 l0 x68_3).f0)) = false := beq_eq_false_iff_ne.mpr c36; have c36b1 : (((rd_T51 t319 x68_3).f0) != ((rd_T51 l0 x68_3).f0)) = true := bne_iff_ne.mpr c36; have H' := Aside0.mk H; clear H; obtain ⟨Ao39, co39, eo39⟩ := Kd.S_slice HO_8.out; subst eo39; have p325 : 0 ≤ (x68_3 : Int) := of_decide_eq_true tZE; have q325 : x68_3 < (t319.length : Int) := of_decide_eq_true tZE; obtain ⟨ad325, A325_1, c325_1, e325, hx325_0, hx325_1, hl325_1, hi325_1⟩ := at_T51 (Kd.S_reads' HO_8.out).2.2 x68_3 p325 q325
         cases e325
         have hn325_0 : ad325.block ≠ gb324 := Kd.own_blk (Kd.S_away HO_8.out (fun _ hk => hk.2)); have hn325_1 : ad325.block ≠ gb324 := Kd.own_blk (Kd.S_away HO_8.out (fun _ hk => hk.2)); have HR325_1 := Aside0.mk hi325_1; have HC325_1 := Aside0.mk hl325_1; clear hi325_1 hl325_1; replace hx325_0 := (cell_far (p := ⟨gb324, 0, none⟩) (by first | (rw [add_block]; exact hn325_0) | (show (Addr.add _ _).block ≠ _; rw [add_block]; exact hn325_0) | exact hn325_0) (.int .i64 ((rd_T51 l0 x68_3).f0))).trans hx325_0; replace hx325_1 := (cell_far (p := ⟨gb324, 0, none⟩) (by first | (rw [add_block]; exact hn325_0) | (show (Addr.add _ _).block ≠ _; rw [add_block]; exact hn325_0) | exact hn325_0) (.int .i64 ((rd_T51 l0 x68_3).f0))).trans hx325_1
         replace hx325_0 := (cell_far (p := ⟨gb324, 1, none⟩) (by first | (rw [add_block]; exact hn325_1) | (show (Addr.add _ _).block ≠ _; rw [add_block]; exact hn325_1) | exact hn325_1) (.slice A323_1 ((rd_T51 l0 x68_3).f1).length c323_1)).trans hx325_0; replace hx325_1 := (cell_far (p := ⟨gb324, 1, none⟩) (by first | (rw [add_block]; exact hn325_1) | (show (Addr.add _ _).block ≠ _; rw [add_block]; exact hn325_1) | exact hn325_1) (.slice A323_1 ((rd_T51 l0 x68_3).f1).length c323_1)).trans hx325_1; (try have hy325_0 := fun (n_ : Nat) => (show ((((w33.drewN n_).setCell ⟨gb324, 0, none⟩ (.int .i64 ((rd_T51 l0 x68_3).f0))).setCell ⟨gb324, 1, none⟩ (.slice A323_1 ((rd_T51 l0 x68_3).f1).length c323_1))).cell? _ = some _ from hx325_0))
         (try have hy325_1 := fun (n_ : Nat) => (show ((((w33.drewN n_).setCell ⟨gb324, 0, none⟩ (.int .i64 ((rd_T51 l0 x68_3).f0))).setCell ⟨gb324, 1, none⟩ (.slice A323_1 ((rd_T51 l0 x68_3).f1).length c323_1))).cell? _ = some _ from hx325_1)); clear hn325_0; clear hn325_1; replace p325 := eq_true p325; replace q325 := eq_true q325; obtain ⟨hcz40_0, hcz40_1, hfz40_0, hfz40_1⟩ := bc2 BK324.out; go_wp2
         repeat (go_quiet (fail); try go_wp2)
         go_meet
         case rel => exact ⟨_, (true), tZB, H', ⟨by have := HK1.out; have := HJ23.out; have := HK3.out; first | omega | exact Nat.le_refl _⟩, ⟨by (with_reducible repeat (first | apply Kd.S_alloc | apply Kd.S_drewN | apply Kd.S_drew)); exact Kd.S_mono (Kd.S_far (p := ⟨gb324, 1, none⟩) (Kd.S_far (p := ⟨gb324, 0, none⟩) (Kd.S_mono HO_8.out (fun k_ hk => (⟨hk, hk.2⟩ : _ ∧ k_ ≠ gb324))) (fun _ hk => hk.2) (.int .i64 ((rd_T51 l0 x68_3).f0))) (fun _ hk => hk.2) (.slice A323_1 ((rd_T51 l0 x68_3).f1).length c323_1)) (fun _ hk => hk.1.2)⟩, ⟨by (with_reducible repeat (first | refine blk_drewN ?_ _ | refine blk_drew ?_ | refine blk_alloc ?_ _)); refine blk_put (cs := #[.int .i64 ((rd_T51 l0 x68_3).f0), .slice none 0 0]) ?_ 1 _ rfl; (with_reducible repeat (first | refine blk_drewN ?_ _ | refine blk_drew ?_ | refine blk_alloc ?_ _)); refine blk_put (cs := #[.int .i64 0, .slice none 0 0]) ?_ 0 _ rfl; (with_reducible repeat (first | refine blk_drewN ?_ _ | refine blk_drew ?_ | refine blk_alloc ?_ _)); exact BK324.out⟩, ⟨bZ⟩⟩
        rw [if_pos c36] at H; have c36b0 : (((rd_T51 t319 x68_3).f0) == ((rd_T51 l0 x68_3).f0)) = true := beq_iff_eq.mpr c36; have c36b1 : (((rd_T51 t319 x68_3).f0) != ((rd_T51 l0 x68_3).f0)) = false := bne_eq_false_iff_eq.mpr c36; clear c36; have H' := Aside0.mk H; clear H; obtain ⟨Ao37, co37, eo37⟩ := Kd.S_slice HO_8.out; subst eo37; have p325 : 0 ≤ (x68_3 : Int) := of_decide_eq_true tZE; have q325 : x68_3 < (t319.length : Int) := of_decide_eq_true tZE; obtain ⟨ad325, A325_1, c325_1, e325, hx325_0, hx325_1, hl325_1, hi325_1⟩ := at_T51 (Kd.S_reads' HO_8.out).2.2 x68_3 p325 q325
        cases e325
        have hn325_0 : ad325.block ≠ gb324 := Kd.own_blk (Kd.S_away HO_8.out (fun _ hk => hk.2)); have hn325_1 : ad325.block ≠ gb324 := Kd.own_blk (Kd.S_away HO_8.out (fun _ hk => hk.2)); have HR325_1 := Aside0.mk hi325_1; have HC325_1 := Aside0.mk hl325_1; clear hi325_1 hl325_1; replace hx325_0 := (cell_far (p := ⟨gb324, 0, none⟩) (by first | (rw [add_block]; exact hn325_0) | (show (Addr.add _ _).block ≠ _; rw [add_block]; exact hn325_0) | exact hn325_0) (.int .i64 ((rd_T51 l0 x68_3).f0))).trans hx325_0; replace hx325_1 := (cell_far (p := ⟨gb324, 0, none⟩) (by first | (rw [add_block]; exact hn325_0) | (show (Addr.add _ _).block ≠ _; rw [add_block]; exact hn325_0) | exact hn325_0) (.int .i64 ((rd_T51 l0 x68_3).f0))).trans hx325_1
        replace hx325_0 := (cell_far (p := ⟨gb324, 1, none⟩) (by first | (rw [add_block]; exact hn325_1) | (show (Addr.add _ _).block ≠ _; rw [add_block]; exact hn325_1) | exact hn325_1) (.slice A323_1 ((rd_T51 l0 x68_3).f1).length c323_1)).trans hx325_0; replace hx325_1 := (cell_far (p := ⟨gb324, 1, none⟩) (by first | (rw [add_block]; exact hn325_1) | (show (Addr.add _ _).block ≠ _; rw [add_block]; exact hn325_1) | exact hn325_1) (.slice A323_1 ((rd_T51 l0 x68_3).f1).length c323_1)).trans hx325_1; (try have hy325_0 := fun (n_ : Nat) => (show ((((w33.drewN n_).setCell ⟨gb324, 0, none⟩ (.int .i64 ((rd_T51 l0 x68_3).f0))).setCell ⟨gb324, 1, none⟩ (.slice A323_1 ((rd_T51 l0 x68_3).f1).length c323_1))).cell? _ = some _ from hx325_0))
        (try have hy325_1 := fun (n_ : Nat) => (show ((((w33.drewN n_).setCell ⟨gb324, 0, none⟩ (.int .i64 ((rd_T51 l0 x68_3).f0))).setCell ⟨gb324, 1, none⟩ (.slice A323_1 ((rd_T51 l0 x68_3).f1).length c323_1))).cell? _ = some _ from hx325_1)); clear hn325_0; clear hn325_1; replace p325 := eq_true p325; replace q325 := eq_true q325; obtain ⟨hcz38_0, hcz38_1, hfz38_0, hfz38_1⟩ := bc2 BK324.out; have p326 : 0 ≤ (x68_3 : Int) := of_decide_eq_true tZE; have q326 : x68_3 < (t319.length : Int) := of_decide_eq_true tZE; obtain ⟨ad326, A326_1, c326_1, e326, hx326_0, hx326_1, hl326_1, hi326_1⟩ := at_T51 (Kd.S_reads' HO_8.out).2.2 x68_3 p326 q326; obtain rfl : ad325 = ad326 := (by injection e326); have hn326_0 : ad325.block ≠ gb324 := Kd.own_blk (Kd.S_away HO_8.out (fun _ hk => hk.2)); have hn326_1 : ad325.block ≠ gb324 := Kd.own_blk (Kd.S_away HO_8.out (fun _ hk => hk.2))
        have HR326_1 := Aside0.mk hi326_1; have HC326_1 := Aside0.mk hl326_1; clear hi326_1 hl326_1; replace hx326_0 := (cell_far (p := ⟨gb324, 0, none⟩) (by first | (rw [add_block]; exact hn326_0) | (show (Addr.add _ _).block ≠ _; rw [add_block]; exact hn326_0) | exact hn326_0) (.int .i64 ((rd_T51 l0 x68_3).f0))).trans hx326_0; replace hx326_1 := (cell_far (p := ⟨gb324, 0, none⟩) (by first | (rw [add_block]; exact hn326_0) | (show (Addr.add _ _).block ≠ _; rw [add_block]; exact hn326_0) | exact hn326_0) (.int .i64 ((rd_T51 l0 x68_3).f0))).trans hx326_1; replace hx326_0 := (cell_far (p := ⟨gb324, 1, none⟩) (by first | (rw [add_block]; exact hn326_1) | (show (Addr.add _ _).block ≠ _; rw [add_block]; exact hn326_1) | exact hn326_1) (.slice A323_1 ((rd_T51 l0 x68_3).f1).length c323_1)).trans hx326_0
        replace hx326_1 := (cell_far (p := ⟨gb324, 1, none⟩) (by first | (rw [add_block]; exact hn326_1) | (show (Addr.add _ _).block ≠ _; rw [add_block]; exact hn326_1) | exact hn326_1) (.slice A323_1 ((rd_T51 l0 x68_3).f1).length c323_1)).trans hx326_1; (try have hy326_0 := fun (n_ : Nat) => (show ((((w33.drewN n_).setCell ⟨gb324, 0, none⟩ (.int .i64 ((rd_T51 l0 x68_3).f0))).setCell ⟨gb324, 1, none⟩ (.slice A323_1 ((rd_T51 l0 x68_3).f1).length c323_1))).cell? _ = some _ from hx326_0)); (try have hy326_1 := fun (n_ : Nat) => (show ((((w33.drewN n_).setCell ⟨gb324, 0, none⟩ (.int .i64 ((rd_T51 l0 x68_3).f0))).setCell ⟨gb324, 1, none⟩ (.slice A323_1 ((rd_T51 l0 x68_3).f1).length c323_1))).cell? _ = some _ from hx326_1)); clear hn326_0; clear hn326_1; replace p326 := eq_true p326; replace q326 := eq_true q326; go_wp2
        repeat (go_quiet (fail); try go_wp2)
        go_meet
        case rel => exact ⟨_, (((((rd_T51 t319 x68_3).f1).length : Int) != (((rd_T51 l0 x68_3).f1).length : Int))), tZB, H', ⟨by have := HK1.out; have := HJ23.out; have := HK3.out; first | omega | exact Nat.le_refl _⟩, ⟨by (with_reducible repeat (first | apply Kd.S_alloc | apply Kd.S_drewN | apply Kd.S_drew)); exact Kd.S_mono (Kd.S_far (p := ⟨gb324, 1, none⟩) (Kd.S_far (p := ⟨gb324, 0, none⟩) (Kd.S_mono HO_8.out (fun k_ hk => (⟨hk, hk.2⟩ : _ ∧ k_ ≠ gb324))) (fun _ hk => hk.2) (.int .i64 ((rd_T51 l0 x68_3).f0))) (fun _ hk => hk.2) (.slice A323_1 ((rd_T51 l0 x68_3).f1).length c323_1)) (fun _ hk => hk.1.2)⟩, ⟨by (with_reducible repeat (first | refine blk_drewN ?_ _ | refine blk_drew ?_ | refine blk_alloc ?_ _)); refine blk_put (cs := #[.int .i64 ((rd_T51 l0 x68_3).f0), .slice none 0 0]) ?_ 1 _ rfl; (with_reducible repeat (first | refine blk_drewN ?_ _ | refine blk_drew ?_ | refine blk_alloc ?_ _)); refine blk_put (cs := #[.int .i64 0, .slice none 0 0]) ?_ 0 _ rfl; (with_reducible repeat (first | refine blk_drewN ?_ _ | refine blk_drew ?_ | refine blk_alloc ?_ _)); exact BK324.out⟩, ⟨bZ⟩⟩
       case rest =>
        clear HC32; (try clear c2 c2b0 c2b1 c3 c3b0 c28 c29 c29b0 c30 c30b0 c31 c31b0 hcz34_0 hcz34_1 hfz34_0 hfz34_1 hx323_0 hx323_1 p323 q323); obtain ⟨kq, x92_31, rfl, HA, HJ31, HO_8, BK324, HB⟩ := hcut
        cases kq with
        | zero => exact absurd HA.out (by simp [impl_ShowFlow.j4])
        | succ kj31 =>
         have H := HA.out; clear HA; simp only [impl_ShowFlow.j4] at H
         by_cases c41 : x92_31 = true
         ·subst c41; rw [if_pos rfl] at H; obtain rfl := Option.some.inj H; go_wp2
          repeat (go_quiet (fail); try go_wp2)
          go_ret; exact ⟨tZC, bZ⟩
         replace c41 := Bool.eq_false_iff.mpr c41; subst c41; rw [if_neg Bool.false_ne_true] at H; have H' := Aside0.mk H; clear H; obtain ⟨hcz42_0, hcz42_1, hfz42_0, hfz42_1⟩ := bc2 BK324.out; go_wp2
         repeat (go_quiet (fail); try go_wp2)
         go_loopg [96] kj31 (fun kq v96 w' => ∃ (x96_5 : Int), v96 = .int .i64 x96_5 ∧ Aside0 (impl_ShowFlow.l3 kq x3_1 t319 x68_3 l0 (l0.length : Int) x68_3 ((rd_T51 l0 x68_3).f1) (((rd_T51 l0 x68_3).f1).length : Int) x96_5 = some r) ∧ Aside0 (kq ≤ kj31) ∧ Aside0 (Kd.S k51 51 w' w.heap.size (fun k_ => k_ ≠ gb324) v321 t319) ∧ Aside0 (w'.heap[gb324]? = some (.cells #[.int .i64 ((rd_T51 l0 x68_3).f0), (.slice A323_1 ((rd_T51 l0 x68_3).f1).length c323_1)] 51 (0, 0))) ∧ Aside0 (Below w.heap.size w w'))
         case atStart => exact ⟨(0), tZB, H', ⟨Nat.le_refl _⟩, ⟨lZS HO_8.out⟩, ⟨bkZ BK324.out⟩, ⟨bZ⟩⟩
         case round =>
          clear H'; (try clear c2 c2b0 c2b1 c3 c3b0 c28 c29 c29b0 c30 c30b0 c31 c31b0 c41 hcz34_0 hcz34_1 hcz42_0 hcz42_1 hfz34_0 hfz34_1 hfz42_0 hfz42_1 hx323_0 hx323_1 p323 q323); obtain ⟨x96_5, rfl, HA, HK5, HO_8, BK324, HB⟩ := hrel
          cases gk with
          | zero => exact absurd HA.out (by simp [impl_ShowFlow.l3])
          | succ k5 =>
           have H := HA.out; clear HA; simp only [impl_ShowFlow.l3] at H
           by_cases c43 : x96_5 < (((rd_T51 l0 x68_3).f1).length : Int)
           rotate_left
           ·rw [if_neg c43] at H; have c43b0 := decide_eq_false c43; clear c43; have H' := Aside0.mk H; clear H; go_wp2
            repeat (go_quiet (fail); try go_wp2)
            go_roundg k5
            case measure => have := HK1.out; have := HJ23.out; have := HK3.out; have := HJ31.out; have := HK5.out; omega
            case rel => exact ⟨(wrap64 (x68_3 + 1)), tZB, H', ⟨by have := HK1.out; have := HJ23.out; have := HK3.out; have := HJ31.out; have := HK5.out; omega⟩, ⟨by (with_reducible repeat (first | apply Kd.S_alloc | apply Kd.S_drewN | apply Kd.S_drew)); exact Kd.S_mono HO_8.out (fun _ hk => trivial)⟩, ⟨bZ⟩⟩
           rw [if_pos c43] at H; have c43b0 := decide_eq_true c43; clear c43
           by_cases c44 : 0 ≤ x96_5
           rotate_left
           ·rw [if_neg c44] at H; exact absurd H (by simp)
           rw [if_pos c44] at H; have c44b0 := decide_eq_true c44; clear c44
           by_cases c45 : x96_5 < (((rd_T51 l0 x68_3).f1).length : Int)
           rotate_left
           ·rw [if_neg c45] at H; exact absurd H (by simp)
           rw [if_pos c45] at H; have c45b0 := decide_eq_true c45; clear c45
           by_cases c46 : 0 ≤ x68_3
           rotate_left
           ·rw [if_neg c46] at H; exact absurd H (by simp)
           rw [if_pos c46] at H; have c46b0 := decide_eq_true c46; clear c46
           by_cases c47 : x68_3 < (t319.length : Int)
           rotate_left
           ·rw [if_neg c47] at H; exact absurd H (by simp)
           rw [if_pos c47] at H; have c47b0 := decide_eq_true c47; clear c47
           by_cases c48 : x96_5 < (((rd_T51 t319 x68_3).f1).length : Int)
           rotate_left
           ·rw [if_neg c48] at H; exact absurd H (by simp)
           rw [if_pos c48] at H; have c48b0 := decide_eq_true c48; clear c48
           by_cases c49 : (rdOf ByteArray.empty ((rd_T51 t319 x68_3).f1) x96_5).toList = (rdOf ByteArray.empty ((rd_T51 l0 x68_3).f1) x96_5).toList
           rotate_left
           ·rw [if_neg c49] at H; have c49b0 : ((rdOf ByteArray.empty ((rd_T51 t319 x68_3).f1) x96_5).toList == (rdOf ByteArray.empty ((rd_T51 l0 x68_3).f1) x96_5).toList) = false := beq_eq_false_iff_ne.mpr c49; have c49b1 : ((rdOf ByteArray.empty ((rd_T51 t319 x68_3).f1) x96_5).toList != (rdOf ByteArray.empty ((rd_T51 l0 x68_3).f1) x96_5).toList) = true := bne_iff_ne.mpr c49; obtain rfl := Option.some.inj H; have p327 : 0 ≤ (x96_5 : Int) := of_decide_eq_true tZE; have q327 : x96_5 < (((rd_T51 l0 x68_3).f1).length : Int) := of_decide_eq_true tZE; obtain ⟨ad327, e327, hx327_0⟩ := Kd.at_string HR323_1.out x96_5 p327 q327
            cases e327
            replace hx327_0 := cZ HB hx327_0; replace p327 := eq_true p327; replace q327 := eq_true q327; obtain ⟨Ao51, co51, eo51⟩ := Kd.S_slice HO_8.out; subst eo51; have p328 : 0 ≤ (x68_3 : Int) := of_decide_eq_true tZE; have q328 : x68_3 < (t319.length : Int) := of_decide_eq_true tZE; obtain ⟨ad328, A328_1, c328_1, e328, hx328_0, hx328_1, hl328_1, hi328_1⟩ := at_T51 (Kd.S_reads' HO_8.out).2.2 x68_3 p328 q328
            cases e328
            obtain ⟨ce328, hce328, hMe328, hcc328⟩ := Kd.S_get HO_8.out z51 x68_3 p328 (by first | exact q328 | exact of_decide_eq_true tZE | (have e_ := (Kd.S_reads' HO_8.out).1; omega)); obtain ⟨ve328_1, rfl, ge328_1⟩ := k51_openM hMe328; have hv328_1 := hcc328 1 _ rfl; rw [add_field _ _ 1 (by omega)] at hv328_1; replace hv328_1 := Option.some.inj (hv328_1.symm.trans hx328_1); rw [hv328_1] at ge328_1; have HL328_1 := aZ (show Kd.R Kd.string 9 _ _ _ _ ((rd_T51 t319 x68_3).f1) from ge328_1); clear hv328_1 ge328_1; clear hcc328 hce328; have HR328_1 := Aside0.mk hi328_1; have HC328_1 := Aside0.mk hl328_1; clear hi328_1 hl328_1; replace p328 := eq_true p328; replace q328 := eq_true q328; have p329 : 0 ≤ (x96_5 : Int) := of_decide_eq_true tZE; have q329 : x96_5 < (((rd_T51 t319 x68_3).f1).length : Int) := of_decide_eq_true tZE
            obtain ⟨ad329, e329, hx329_0⟩ := Kd.at_string (by repeat (first | (with_reducible exact HR328_1.out) | (with_reducible refine Kd.C_alloc ?_ _) | (with_reducible refine Kd.C_drewN ?_ _) | (with_reducible refine Kd.C_drew ?_) | exact HR328_1.out)) x96_5 p329 q329
            cases e329
            replace p329 := eq_true p329; replace q329 := eq_true q329; go_wp2
            repeat (go_quiet (fail); try go_wp2)
            go_ret; exact ⟨tZC, bZ⟩
           rw [if_pos c49] at H; have c49b0 : ((rdOf ByteArray.empty ((rd_T51 t319 x68_3).f1) x96_5).toList == (rdOf ByteArray.empty ((rd_T51 l0 x68_3).f1) x96_5).toList) = true := beq_iff_eq.mpr c49; have c49b1 : ((rdOf ByteArray.empty ((rd_T51 t319 x68_3).f1) x96_5).toList != (rdOf ByteArray.empty ((rd_T51 l0 x68_3).f1) x96_5).toList) = false := bne_eq_false_iff_eq.mpr c49; clear c49; have H' := Aside0.mk H; clear H; have p327 : 0 ≤ (x96_5 : Int) := of_decide_eq_true tZE; have q327 : x96_5 < (((rd_T51 l0 x68_3).f1).length : Int) := of_decide_eq_true tZE; obtain ⟨ad327, e327, hx327_0⟩ := Kd.at_string HR323_1.out x96_5 p327 q327
           cases e327
           replace hx327_0 := cZ HB hx327_0; replace p327 := eq_true p327; replace q327 := eq_true q327; obtain ⟨Ao50, co50, eo50⟩ := Kd.S_slice HO_8.out; subst eo50; have p328 : 0 ≤ (x68_3 : Int) := of_decide_eq_true tZE; have q328 : x68_3 < (t319.length : Int) := of_decide_eq_true tZE; obtain ⟨ad328, A328_1, c328_1, e328, hx328_0, hx328_1, hl328_1, hi328_1⟩ := at_T51 (Kd.S_reads' HO_8.out).2.2 x68_3 p328 q328
           cases e328
           obtain ⟨ce328, hce328, hMe328, hcc328⟩ := Kd.S_get HO_8.out z51 x68_3 p328 (by first | exact q328 | exact of_decide_eq_true tZE | (have e_ := (Kd.S_reads' HO_8.out).1; omega)); obtain ⟨ve328_1, rfl, ge328_1⟩ := k51_openM hMe328; have hv328_1 := hcc328 1 _ rfl; rw [add_field _ _ 1 (by omega)] at hv328_1; replace hv328_1 := Option.some.inj (hv328_1.symm.trans hx328_1); rw [hv328_1] at ge328_1; have HL328_1 := aZ (show Kd.R Kd.string 9 _ _ _ _ ((rd_T51 t319 x68_3).f1) from ge328_1); clear hv328_1 ge328_1; clear hcc328 hce328; have HR328_1 := Aside0.mk hi328_1; have HC328_1 := Aside0.mk hl328_1; clear hi328_1 hl328_1; replace p328 := eq_true p328; replace q328 := eq_true q328; have p329 : 0 ≤ (x96_5 : Int) := of_decide_eq_true tZE; have q329 : x96_5 < (((rd_T51 t319 x68_3).f1).length : Int) := of_decide_eq_true tZE
           obtain ⟨ad329, e329, hx329_0⟩ := Kd.at_string (by repeat (first | (with_reducible exact HR328_1.out) | (with_reducible refine Kd.C_alloc ?_ _) | (with_reducible refine Kd.C_drewN ?_ _) | (with_reducible refine Kd.C_drew ?_) | exact HR328_1.out)) x96_5 p329 q329
           cases e329
           replace p329 := eq_true p329; replace q329 := eq_true q329; go_wp2
           repeat (go_quiet (fail); try go_wp2)
           go_roundg k5
           case measure => have := HK1.out; have := HJ23.out; have := HK3.out; have := HJ31.out; have := HK5.out; omega
           case rel => exact ⟨(wrap64 (x96_5 + 1)), tZB, H', ⟨by have := HK1.out; have := HJ23.out; have := HK3.out; have := HJ31.out; have := HK5.out; omega⟩, ⟨lZS HO_8.out⟩, ⟨bkZ BK324.out⟩, ⟨bZ⟩⟩
end Go.Proofs.Ytfkakbpjddgmeaa.PFnFlowBack
