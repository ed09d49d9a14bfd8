import Derived.Test.YtjnmfadnkbflfaaDPFnExactNeededx0
import Derived.Test.YtjnmfadnkbflfaaDPFnExactNeededx8
import Derived.Test.YtjnmfadnkbflfaaDPFnExactNeededx12
import Derived.Test.YtjnmfadnkbflfaaDSlimWords
namespace Go.Proofs.Ytjnmfadnkbflfaa.PFnExactNeeded
open Go.Proofs.Ytjnmfadnkbflfaa.SlimWords
open Go.RowKit Go.Proofs.YtjnmfadnkbflfaaW.PrintWords Go.Proofs.YtjnmfadnkbflfaaW.PrintLast Go.Proofs.YtjnmfadnkbflfaaW.PrintMore Go.Proofs.Ytjnmfadnkbflfaa.MapWords Go.Proofs.Ytjnmfadnkbflfaa.IterWords Go.Proofs.Ytjnmfadnkbflfaa.MarkWords
attribute [local go_sem] max2_int min2_int max_two min_two max_three min_three max_four min_four
set_option linter.unusedVariables false
set_option linter.unusedSimpArgs false
mutual
def impl_ShowFlow.l0 : Nat → List (S119) → ByteArray → List (S119) → Int → Int → Option (ByteArray)
  | 0, _, _, _, _, _ => none
  | k + 1, x0, x3, x17, x18, x19 => if x19 < x18 then (if 0 ≤ x19 then (if x19 < (x17.length : Int) then ((impl_ShowMoney.f k ((rd_T119 x17 x19).f0) 2).bind fun t271 => (if 5 + t271.size ≤ 9223372036854775807 then (if ((⟨#[111, 118, 101, 114, 32]⟩ : ByteArray) ++ t271).size + 2 ≤ 9223372036854775807 then (if x3.size + (((⟨#[111, 118, 101, 114, 32]⟩ : ByteArray) ++ t271) ++ (⟨#[58, 32]⟩ : ByteArray)).size ≤ 9223372036854775807 then (impl_ShowFlow.l1 k x0 (x3 ++ (((⟨#[111, 118, 101, 114, 32]⟩ : ByteArray) ++ t271) ++ (⟨#[58, 32]⟩ : ByteArray))) x17 x18 x19 ((rd_T119 x17 x19).f1) (((rd_T119 x17 x19).f1).length : Int) 0) else (none)) else (none)) else (none))) else (none)) else (none)) else ((impl_ParseFlow.f k x3).bind fun bt273 => (if bt273.2 = 0 then (impl_ShowFlow.j2 k x0 x3 bt273.1 ((bt273.1.length : Int) != (x0.length : Int))) else (impl_ShowFlow.j2 k x0 x3 bt273.1 true)))
def impl_ShowFlow.l1 : Nat → List (S119) → ByteArray → List (S119) → Int → Int → List ByteArray → Int → Int → Option (ByteArray)
  | 0, _, _, _, _, _, _, _, _ => none
  | k + 1, x0, x3, x17, x18, x19, x31, x32, x33 => if x33 < x32 then (if 0 ≤ x33 then (if x33 < (x31.length : Int) then (if x33 > 0 then (if x3.size + 2 ≤ 9223372036854775807 then (if (x3 ++ (⟨#[44, 32]⟩ : ByteArray)).size + (rdOf ByteArray.empty x31 x33).size ≤ 9223372036854775807 then (impl_ShowFlow.l1 k x0 ((x3 ++ (⟨#[44, 32]⟩ : ByteArray)) ++ (rdOf ByteArray.empty x31 x33)) x17 x18 x19 x31 x32 (wrap64 (x33 + 1))) else (none)) else (none)) else (if x3.size + (rdOf ByteArray.empty x31 x33).size ≤ 9223372036854775807 then (impl_ShowFlow.l1 k x0 (x3 ++ (rdOf ByteArray.empty x31 x33)) x17 x18 x19 x31 x32 (wrap64 (x33 + 1))) else (none))) else (none)) else (none)) else (if x3.size + 1 ≤ 9223372036854775807 then (if ((x3 ++ (⟨#[10]⟩ : ByteArray)).size : Int) > 2000 then (some (⟨#[]⟩ : ByteArray)) else (impl_ShowFlow.l0 k x0 (x3 ++ (⟨#[10]⟩ : ByteArray)) x17 x18 (wrap64 (x19 + 1)))) else (none))
def impl_ShowFlow.j2 : Nat → List (S119) → ByteArray → List (S119) → Bool → Option (ByteArray)
  | 0, _, _, _, _ => none
  | k + 1, x0, x3, x8, x65 => if x65 = true then (some (⟨#[]⟩ : ByteArray)) else (impl_ShowFlow.l2 k x3 x8 x0 (x0.length : Int) 0)
def impl_ShowFlow.l2 : Nat → ByteArray → List (S119) → List (S119) → Int → Int → Option (ByteArray)
  | 0, _, _, _, _, _ => none
  | k + 1, x3, x8, x66, x67, x68 => if x68 < x67 then (if 0 ≤ x68 then (if x68 < (x66.length : Int) then (if x68 < (x8.length : Int) then (if ((rd_T119 x8 x68).f0) = ((rd_T119 x66 x68).f0) then (impl_ShowFlow.j4 k x3 x8 x68 x66 x67 x68 ((((rd_T119 x8 x68).f1).length : Int) != (((rd_T119 x66 x68).f1).length : Int)) ((rd_T119 x66 x68).f0) ((rd_T119 x66 x68).f1)) else (impl_ShowFlow.j4 k x3 x8 x68 x66 x67 x68 true ((rd_T119 x66 x68).f0) ((rd_T119 x66 x68).f1))) else (none)) else (none)) else (none)) else (some x3)
def impl_ShowFlow.j4 : Nat → ByteArray → List (S119) → Int → List (S119) → Int → Int → Bool → Int → List ByteArray → Option (ByteArray)
  | 0, _, _, _, _, _, _, _, _, _ => none
  | k + 1, x3, x8, x10, x66, x67, x68, x92, x279000, x279001 => if x92 = true then (some (⟨#[]⟩ : ByteArray)) else (impl_ShowFlow.l3 k x3 x8 x10 x66 x67 x68 x279001 (x279001.length : Int) 0)
def impl_ShowFlow.l3 : Nat → ByteArray → List (S119) → Int → List (S119) → Int → Int → List ByteArray → Int → Int → Option (ByteArray)
  | 0, _, _, _, _, _, _, _, _, _ => none
  | k + 1, x3, x8, x10, x66, x67, x68, x94, x95, x96 => if x96 < x95 then (if 0 ≤ x96 then (if x96 < (x94.length : Int) then (if 0 ≤ x10 then (if x10 < (x8.length : Int) then (if x96 < (((rd_T119 x8 x10).f1).length : Int) then (if (rdOf ByteArray.empty ((rd_T119 x8 x10).f1) x96).toList = (rdOf ByteArray.empty x94 x96).toList then (impl_ShowFlow.l3 k x3 x8 x10 x66 x67 x68 x94 x95 (wrap64 (x96 + 1))) else (some (⟨#[]⟩ : ByteArray))) else (none)) else (none)) else (none)) else (none)) else (none)) else (impl_ShowFlow.l2 k x3 x8 x66 x67 (wrap64 (x68 + 1)))
end
def impl_ShowFlow.f (k : Nat) (l0 : List (S119)) : Option (ByteArray) := if (l0.length : Int) > 20 then (some (⟨#[]⟩ : ByteArray)) else (impl_ShowFlow.l0 k l0 (⟨#[]⟩ : ByteArray) l0 (l0.length : Int) 0)
theorem impl_ShowFlow.mono_l : ∀ k, (∀ y0 y1 y2 y3 y4, LeO (impl_ShowFlow.l0 k y0 y1 y2 y3 y4) (impl_ShowFlow.l0 (k + 1) y0 y1 y2 y3 y4)) ∧ (∀ y0 y1 y2 y3 y4 y5 y6 y7, LeO (impl_ShowFlow.l1 k y0 y1 y2 y3 y4 y5 y6 y7) (impl_ShowFlow.l1 (k + 1) y0 y1 y2 y3 y4 y5 y6 y7)) ∧ (∀ y0 y1 y2 y3, LeO (impl_ShowFlow.j2 k y0 y1 y2 y3) (impl_ShowFlow.j2 (k + 1) y0 y1 y2 y3)) ∧ (∀ y0 y1 y2 y3 y4, LeO (impl_ShowFlow.l2 k y0 y1 y2 y3 y4) (impl_ShowFlow.l2 (k + 1) y0 y1 y2 y3 y4)) ∧ (∀ y0 y1 y2 y3 y4 y5 y6 y7 y8, LeO (impl_ShowFlow.j4 k y0 y1 y2 y3 y4 y5 y6 y7 y8) (impl_ShowFlow.j4 (k + 1) y0 y1 y2 y3 y4 y5 y6 y7 y8)) ∧ (∀ y0 y1 y2 y3 y4 y5 y6 y7 y8, LeO (impl_ShowFlow.l3 k y0 y1 y2 y3 y4 y5 y6 y7 y8) (impl_ShowFlow.l3 (k + 1) y0 y1 y2 y3 y4 y5 y6 y7 y8))
  | 0 => ⟨fun _ _ _ _ _ r h => by simp [impl_ShowFlow.l0] at h, fun _ _ _ _ _ _ _ _ r h => by simp [impl_ShowFlow.l1] at h, fun _ _ _ _ r h => by simp [impl_ShowFlow.j2] at h, fun _ _ _ _ _ r h => by simp [impl_ShowFlow.l2] at h, fun _ _ _ _ _ _ _ _ _ r h => by simp [impl_ShowFlow.j4] at h, fun _ _ _ _ _ _ _ _ _ r h => by simp [impl_ShowFlow.l3] at h⟩
  | k + 1 => by
    obtain ⟨ih0, ih1, ih2, ih3, ih4, ih5⟩ := impl_ShowFlow.mono_l k
    refine ⟨?_, ?_, ?_, ?_, ?_, ?_⟩
    · intro y0 y1 y2 y3 y4
      unfold impl_ShowFlow.l0
      repeat' first
      | (with_reducible exact ih0 _ _ _ _ _)
      | (with_reducible exact ih1 _ _ _ _ _ _ _ _)
      | (with_reducible exact ih2 _ _ _ _)
      | (with_reducible exact ih3 _ _ _ _ _)
      | (with_reducible exact ih4 _ _ _ _ _ _ _ _ _)
      | (with_reducible exact ih5 _ _ _ _ _ _ _ _ _)
      | (with_reducible exact impl_ParseFlow.mono _ _)
      | (with_reducible exact impl_ShowMoney.mono _ _ _)
      | (with_reducible exact LeO.refl _)
      | (with_reducible exact LeO.none _)
      | (with_reducible refine LeO.ite ?_ ?_)
      | (with_reducible refine LeO.bind ?_ (fun _ => ?_))
      | exact ih0 _ _ _ _ _
      | exact ih1 _ _ _ _ _ _ _ _
      | exact ih2 _ _ _ _
      | exact ih3 _ _ _ _ _
      | exact ih4 _ _ _ _ _ _ _ _ _
      | exact ih5 _ _ _ _ _ _ _ _ _
      | exact impl_ParseFlow.mono _ _
      | exact impl_ShowMoney.mono _ _ _
      | exact LeO.none _
      | refine LeO.ite ?_ ?_
      | refine LeO.bind ?_ (fun _ => ?_)
    · intro y0 y1 y2 y3 y4 y5 y6 y7
      unfold impl_ShowFlow.l1
      repeat' first
      | (with_reducible exact ih0 _ _ _ _ _)
      | (with_reducible exact ih1 _ _ _ _ _ _ _ _)
      | (with_reducible exact ih2 _ _ _ _)
      | (with_reducible exact ih3 _ _ _ _ _)
      | (with_reducible exact ih4 _ _ _ _ _ _ _ _ _)
      | (with_reducible exact ih5 _ _ _ _ _ _ _ _ _)
      | (with_reducible exact impl_ParseFlow.mono _ _)
      | (with_reducible exact impl_ShowMoney.mono _ _ _)
      | (with_reducible exact LeO.refl _)
      | (with_reducible exact LeO.none _)
      | (with_reducible refine LeO.ite ?_ ?_)
      | (with_reducible refine LeO.bind ?_ (fun _ => ?_))
      | exact ih0 _ _ _ _ _
      | exact ih1 _ _ _ _ _ _ _ _
      | exact ih2 _ _ _ _
      | exact ih3 _ _ _ _ _
      | exact ih4 _ _ _ _ _ _ _ _ _
      | exact ih5 _ _ _ _ _ _ _ _ _
      | exact impl_ParseFlow.mono _ _
      | exact impl_ShowMoney.mono _ _ _
      | exact LeO.none _
      | refine LeO.ite ?_ ?_
      | refine LeO.bind ?_ (fun _ => ?_)
    · intro y0 y1 y2 y3
      unfold impl_ShowFlow.j2
      repeat' first
      | (with_reducible exact ih0 _ _ _ _ _)
      | (with_reducible exact ih1 _ _ _ _ _ _ _ _)
      | (with_reducible exact ih2 _ _ _ _)
      | (with_reducible exact ih3 _ _ _ _ _)
      | (with_reducible exact ih4 _ _ _ _ _ _ _ _ _)
      | (with_reducible exact ih5 _ _ _ _ _ _ _ _ _)
      | (with_reducible exact impl_ParseFlow.mono _ _)
      | (with_reducible exact impl_ShowMoney.mono _ _ _)
      | (with_reducible exact LeO.refl _)
      | (with_reducible exact LeO.none _)
      | (with_reducible refine LeO.ite ?_ ?_)
      | (with_reducible refine LeO.bind ?_ (fun _ => ?_))
      | exact ih0 _ _ _ _ _
      | exact ih1 _ _ _ _ _ _ _ _
      | exact ih2 _ _ _ _
      | exact ih3 _ _ _ _ _
      | exact ih4 _ _ _ _ _ _ _ _ _
      | exact ih5 _ _ _ _ _ _ _ _ _
      | exact impl_ParseFlow.mono _ _
      | exact impl_ShowMoney.mono _ _ _
      | exact LeO.none _
      | refine LeO.ite ?_ ?_
      | refine LeO.bind ?_ (fun _ => ?_)
    · intro y0 y1 y2 y3 y4
      unfold impl_ShowFlow.l2
      repeat' first
      | (with_reducible exact ih0 _ _ _ _ _)
      | (with_reducible exact ih1 _ _ _ _ _ _ _ _)
      | (with_reducible exact ih2 _ _ _ _)
      | (with_reducible exact ih3 _ _ _ _ _)
      | (with_reducible exact ih4 _ _ _ _ _ _ _ _ _)
      | (with_reducible exact ih5 _ _ _ _ _ _ _ _ _)
      | (with_reducible exact impl_ParseFlow.mono _ _)
      | (with_reducible exact impl_ShowMoney.mono _ _ _)
      | (with_reducible exact LeO.refl _)
      | (with_reducible exact LeO.none _)
      | (with_reducible refine LeO.ite ?_ ?_)
      | (with_reducible refine LeO.bind ?_ (fun _ => ?_))
      | exact ih0 _ _ _ _ _
      | exact ih1 _ _ _ _ _ _ _ _
      | exact ih2 _ _ _ _
      | exact ih3 _ _ _ _ _
      | exact ih4 _ _ _ _ _ _ _ _ _
      | exact ih5 _ _ _ _ _ _ _ _ _
      | exact impl_ParseFlow.mono _ _
      | exact impl_ShowMoney.mono _ _ _
      | exact LeO.none _
      | refine LeO.ite ?_ ?_
      | refine LeO.bind ?_ (fun _ => ?_)
    · intro y0 y1 y2 y3 y4 y5 y6 y7 y8
      unfold impl_ShowFlow.j4
      repeat' first
      | (with_reducible exact ih0 _ _ _ _ _)
      | (with_reducible exact ih1 _ _ _ _ _ _ _ _)
      | (with_reducible exact ih2 _ _ _ _)
      | (with_reducible exact ih3 _ _ _ _ _)
      | (with_reducible exact ih4 _ _ _ _ _ _ _ _ _)
      | (with_reducible exact ih5 _ _ _ _ _ _ _ _ _)
      | (with_reducible exact impl_ParseFlow.mono _ _)
      | (with_reducible exact impl_ShowMoney.mono _ _ _)
      | (with_reducible exact LeO.refl _)
      | (with_reducible exact LeO.none _)
      | (with_reducible refine LeO.ite ?_ ?_)
      | (with_reducible refine LeO.bind ?_ (fun _ => ?_))
      | exact ih0 _ _ _ _ _
      | exact ih1 _ _ _ _ _ _ _ _
      | exact ih2 _ _ _ _
      | exact ih3 _ _ _ _ _
      | exact ih4 _ _ _ _ _ _ _ _ _
      | exact ih5 _ _ _ _ _ _ _ _ _
      | exact impl_ParseFlow.mono _ _
      | exact impl_ShowMoney.mono _ _ _
      | exact LeO.none _
      | refine LeO.ite ?_ ?_
      | refine LeO.bind ?_ (fun _ => ?_)
    · intro y0 y1 y2 y3 y4 y5 y6 y7 y8
      unfold impl_ShowFlow.l3
      repeat' first
      | (with_reducible exact ih0 _ _ _ _ _)
      | (with_reducible exact ih1 _ _ _ _ _ _ _ _)
      | (with_reducible exact ih2 _ _ _ _)
      | (with_reducible exact ih3 _ _ _ _ _)
      | (with_reducible exact ih4 _ _ _ _ _ _ _ _ _)
      | (with_reducible exact ih5 _ _ _ _ _ _ _ _ _)
      | (with_reducible exact impl_ParseFlow.mono _ _)
      | (with_reducible exact impl_ShowMoney.mono _ _ _)
      | (with_reducible exact LeO.refl _)
      | (with_reducible exact LeO.none _)
      | (with_reducible refine LeO.ite ?_ ?_)
      | (with_reducible refine LeO.bind ?_ (fun _ => ?_))
      | exact ih0 _ _ _ _ _
      | exact ih1 _ _ _ _ _ _ _ _
      | exact ih2 _ _ _ _
      | exact ih3 _ _ _ _ _
      | exact ih4 _ _ _ _ _ _ _ _ _
      | exact ih5 _ _ _ _ _ _ _ _ _
      | exact impl_ParseFlow.mono _ _
      | exact impl_ShowMoney.mono _ _ _
      | exact LeO.none _
      | refine LeO.ite ?_ ?_
      | refine LeO.bind ?_ (fun _ => ?_)
theorem impl_ShowFlow.mono : ∀ a0 k, LeO (impl_ShowFlow.f k a0) (impl_ShowFlow.f (k + 1) a0) := by
 intro a0 k
 obtain ⟨ih0, ih1, ih2, ih3, ih4, ih5⟩ := impl_ShowFlow.mono_l k
 unfold impl_ShowFlow.f
 repeat' first
     | (with_reducible exact ih0 _ _ _ _ _)
     | (with_reducible exact ih1 _ _ _ _ _ _ _ _)
     | (with_reducible exact ih2 _ _ _ _)
     | (with_reducible exact ih3 _ _ _ _ _)
     | (with_reducible exact ih4 _ _ _ _ _ _ _ _ _)
     | (with_reducible exact ih5 _ _ _ _ _ _ _ _ _)
     | (with_reducible exact impl_ParseFlow.mono _ _)
     | (with_reducible exact impl_ShowMoney.mono _ _ _)
     | (with_reducible exact LeO.refl _)
     | (with_reducible exact LeO.none _)
     | (with_reducible refine LeO.ite ?_ ?_)
     | (with_reducible refine LeO.bind ?_ (fun _ => ?_))
     | exact ih0 _ _ _ _ _
     | exact ih1 _ _ _ _ _ _ _ _
     | exact ih2 _ _ _ _
     | exact ih3 _ _ _ _ _
     | exact ih4 _ _ _ _ _ _ _ _ _
     | exact ih5 _ _ _ _ _ _ _ _ _
     | exact impl_ParseFlow.mono _ _
     | exact impl_ShowMoney.mono _ _ _
     | exact LeO.none _
     | refine LeO.ite ?_ ?_
     | refine LeO.bind ?_ (fun _ => ?_)
set_option maxHeartbeats 8000000 in
set_option maxRecDepth 100000 in
theorem impl_ShowFlow.calls (k : Nat) (A0 : Option Addr) (c0 : Nat) (l0 : List (S119)) (r : ByteArray) (w : World) (hr0 : Kd.C k119 w A0 l0.length l0) (hc0 : l0.length ≤ c0) (h : impl_ShowFlow.f k l0 = some r) :
    Calls Try.prog 25 #[.slice A0 l0.length c0] w fun e w' => e = .returned (.string r) ∧ Below w.heap.size w w' := by
 have hu119 := Try.underlying119
 have HR0 := Aside0.mk hr0
 have HC0 := Aside0.mk hc0
 clear hr0 hc0
 have HB := aZ (Below.refl w.heap.size w)
 have H : (if (l0.length : Int) > 20 then (some (⟨#[]⟩ : ByteArray)) else (impl_ShowFlow.l0 k l0 (⟨#[]⟩ : ByteArray) l0 (l0.length : Int) 0)) = some r := h
 clear h
 by_cases c2 : (l0.length : Int) > 20
 ·rw [if_pos c2] at H
  have c2b0 : decide (20 < (l0.length : Int)) = true := decide_eq_true c2
  have c2b1 : decide (20 < l0.length) = true := decide_eq_true (by omega)
  clear c2
  obtain rfl := Option.some.inj H
  go_enter Try.func25, Try.ntmps25
  go_wp2
  repeat (go_quiet (fail); try go_wp2)
  go_ret
  exact ⟨tZC, bZ⟩
 rw [if_neg c2] at H
 have c2b0 : decide (20 < (l0.length : Int)) = false := decide_eq_false c2
 have c2b1 : decide (20 < l0.length) = false := decide_eq_false (by omega)
 clear c2
 have H' := Aside0.mk H
 clear H
 go_enter Try.func25, Try.ntmps25
 go_wp2
 repeat (go_quiet (fail); try go_wp2)
 go_loopg [3, 19] k (fun kq v3 v19 w' => ∃ (x3_1 : ByteArray) (x19_1 : Int), v3 = .string x3_1 ∧ v19 = .int .i64 x19_1 ∧ Aside0 (impl_ShowFlow.l0 kq l0 x3_1 l0 (l0.length : Int) x19_1 = some r) ∧ Aside0 (kq ≤ k) ∧ Aside0 (Below w.heap.size w w'))
 case atStart => exact ⟨((⟨#[]⟩ : ByteArray)), (0), tZB, tZB, H', ⟨Nat.le_refl _⟩, ⟨bZ⟩⟩
 case round =>
  clear H'
  try clear c2
  try clear c2b0
  try clear c2b1
  try clear p2
  obtain ⟨x3_1, x19_1, rfl, rfl, HA, HK1, HB⟩ := hrel
  cases gk with
  | zero => exact absurd HA.out (by simp [impl_ShowFlow.l0])
  | succ k1 =>
   have H := HA.out
   clear HA
   simp only [impl_ShowFlow.l0] at H
   by_cases c3 : x19_1 < (l0.length : Int)
   ·rw [if_pos c3] at H
    have c3b0 := decide_eq_true c3
    clear c3
    by_cases c4 : 0 ≤ x19_1
    rotate_left
    ·rw [if_neg c4] at H
     exact absurd H (by simp)
    rw [if_pos c4] at H
    have c4b0 := decide_eq_true c4
    clear c4
    by_cases c5 : x19_1 < (l0.length : Int)
    rotate_left
    ·rw [if_neg c5] at H
     exact absurd H (by simp)
    rw [if_pos c5] at H
    have c5b0 := decide_eq_true c5
    clear c5
    replace H := Option.bind_eq_some_iff.mp H
    obtain ⟨t271, A60, H⟩ := H
    replace H : (if 5 + t271.size ≤ 9223372036854775807 then (if ((⟨#[111, 118, 101, 114, 32]⟩ : ByteArray) ++ t271).size + 2 ≤ 9223372036854775807 then (if x3_1.size + (((⟨#[111, 118, 101, 114, 32]⟩ : ByteArray) ++ t271) ++ (⟨#[58, 32]⟩ : ByteArray)).size ≤ 9223372036854775807 then (impl_ShowFlow.l1 k1 l0 (x3_1 ++ (((⟨#[111, 118, 101, 114, 32]⟩ : ByteArray) ++ t271) ++ (⟨#[58, 32]⟩ : ByteArray))) l0 (l0.length : Int) x19_1 ((rd_T119 l0 x19_1).f1) (((rd_T119 l0 x19_1).f1).length : Int) 0) else (none)) else (none)) else (none)) = some r := H
    have A6 := Aside0.mk A60
    clear A60
    by_cases c7 : 5 + t271.size ≤ 9223372036854775807
    rotate_left
    ·rw [if_neg c7] at H
     exact absurd H (by simp)
    rw [if_pos c7] at H
    have c7b0 := eq_true c7
    have c7b1 := decide_eq_true c7
    try have c7b2 := eq_false (Nat.not_lt.2 c7)
    by_cases c8 : ((⟨#[111, 118, 101, 114, 32]⟩ : ByteArray) ++ t271).size + 2 ≤ 9223372036854775807
    rotate_left
    ·rw [if_neg c8] at H
     exact absurd H (by simp)
    rw [if_pos c8] at H
    have c8b0 := eq_true c8
    have c8b1 := decide_eq_true c8
    try have c8b2 := eq_false (Nat.not_lt.2 c8)
    try have c8b5 : (9223372036854775807 < 5 + t271.size + 2) = False := eq_false (by have h_ := c8; have e0_ : (⟨#[111, 118, 101, 114, 32]⟩ : ByteArray).size = 5 := rfl; simp only [ByteArray.size_append, ByteArray.size_extract] at h_; omega)
    by_cases c9 : x3_1.size + (((⟨#[111, 118, 101, 114, 32]⟩ : ByteArray) ++ t271) ++ (⟨#[58, 32]⟩ : ByteArray)).size ≤ 9223372036854775807
    rotate_left
    ·rw [if_neg c9] at H
     exact absurd H (by simp)
    rw [if_pos c9] at H
    have c9b0 := eq_true c9
    have c9b1 := decide_eq_true c9
    try have c9b2 := eq_false (Nat.not_lt.2 c9)
    try have c9b5 : (9223372036854775807 < x3_1.size + 5 + t271.size + 2) = False := eq_false (by have h_ := c9; have e0_ : (⟨#[111, 118, 101, 114, 32]⟩ : ByteArray).size = 5 := rfl; have e1_ : (⟨#[58, 32]⟩ : ByteArray).size = 2 := rfl; simp only [ByteArray.size_append, ByteArray.size_extract] at h_; omega)
    have H' := Aside0.mk H
    clear H
    have p269 : 0 ≤ (x19_1 : Int) := of_decide_eq_true tZE
    have q269 : x19_1 < (l0.length : Int) := of_decide_eq_true tZE
    obtain ⟨ad269, A269_1, c269_1, e269, hx269_0, hx269_1, hl269_1, hi269_1⟩ := at_T119 HR0.out x19_1 p269 q269
    cases e269
    replace hx269_0 := cZ HB hx269_0
    replace hx269_1 := cZ HB hx269_1
    have HR269_1 := Aside0.mk hi269_1
    have HC269_1 := Aside0.mk hl269_1
    clear hi269_1 hl269_1
    replace p269 := eq_true p269
    replace q269 := eq_true q269
    go_wp2_with (first | ((with_reducible refine gate_dst (N := 5) rfl ?_); (try (refine gate_guard (by rfl) ?_; dsimp only)); refine box_event ?hg (N := 5) ?hd (cs := #[.int .i64 0, .slice none 0 0]) (t := 119) ?hr ?_; (case hd => rfl); (case hg => rfl); (case hr => first | (go_simp; done) | (go_simp; rfl)); intro gb270 hg w10 hbox hb; have BK270 := aZ (hbox); have GW270 := aZ ((by rw [hg]; exact (below_size (lZB HB.out)) : w.heap.size ≤ gb270)); have GE270 := aZ ((by rw [hg]; exact (below_size (lZB HB.out)) : w.heap.size ≤ gb270)); replace HB := aZ (below_step (lZB HB.out) hb); clear hb hbox hg; have hcz11_0 : w10.cell? ⟨gb270, 0, none⟩ = some (.int .i64 0) := (blk_cell BK270.out 0).trans rfl; have hcz11_1 : w10.cell? ⟨gb270, 1, none⟩ = some (.slice none 0 0) := (blk_cell BK270.out 1).trans rfl; have hfz11_0 := blk_frozen BK270.out 0; have hfz11_1 := blk_frozen BK270.out 1) | (go_at_call 85; (with_reducible refine (impl_ShowMoney.calls k1 ((rd_T119 l0 x19_1).f0) 2 t271 _ A6.out).mono ?_); rintro e w12 ⟨rfl, hb⟩; replace BK270 := aZ (blk_below (g := gb270) (o := .cells #[.int .i64 ((rd_T119 l0 x19_1).f0), .slice A269_1 ((rd_T119 l0 x19_1).f1).length c269_1] 119 (0, 0)) (by (with_reducible repeat (first | refine blk_drewN ?_ _ | refine blk_drew ?_ | refine blk_alloc ?_ _)); refine blk_put (cs := #[.int .i64 ((rd_T119 l0 x19_1).f0), .slice none 0 0]) ?_ 1 _ rfl; (with_reducible repeat (first | refine blk_drewN ?_ _ | refine blk_drew ?_ | refine blk_alloc ?_ _)); refine blk_put (cs := #[.int .i64 0, .slice none 0 0]) ?_ 0 _ rfl; (with_reducible repeat (first | refine blk_drewN ?_ _ | refine blk_drew ?_ | refine blk_alloc ?_ _)); exact BK270.out) hb); replace HB := aZ (below_step bZ hb); (try clear hb); (try clear hb2); (try clear hk); (try clear hi); have hcz13_0 : w12.cell? ⟨gb270, 0, none⟩ = some (.int .i64 ((rd_T119 l0 x19_1).f0)) := (blk_cell BK270.out 0).trans rfl; have hcz13_1 : w12.cell? ⟨gb270, 1, none⟩ = some (.slice A269_1 ((rd_T119 l0 x19_1).f1).length c269_1) := (blk_cell BK270.out 1).trans rfl; have hfz13_0 := blk_frozen BK270.out 0; have hfz13_1 := blk_frozen BK270.out 1))
    repeat (go_quiet (first | ((with_reducible refine gate_dst (N := 5) rfl ?_); (try (refine gate_guard (by rfl) ?_; dsimp only)); refine box_event ?hg (N := 5) ?hd (cs := #[.int .i64 0, .slice none 0 0]) (t := 119) ?hr ?_; (case hd => rfl); (case hg => rfl); (case hr => first | (go_simp; done) | (go_simp; rfl)); intro gb270 hg w10 hbox hb; have BK270 := aZ (hbox); have GW270 := aZ ((by rw [hg]; exact (below_size (lZB HB.out)) : w.heap.size ≤ gb270)); have GE270 := aZ ((by rw [hg]; exact (below_size (lZB HB.out)) : w.heap.size ≤ gb270)); replace HB := aZ (below_step (lZB HB.out) hb); clear hb hbox hg; have hcz11_0 : w10.cell? ⟨gb270, 0, none⟩ = some (.int .i64 0) := (blk_cell BK270.out 0).trans rfl; have hcz11_1 : w10.cell? ⟨gb270, 1, none⟩ = some (.slice none 0 0) := (blk_cell BK270.out 1).trans rfl; have hfz11_0 := blk_frozen BK270.out 0; have hfz11_1 := blk_frozen BK270.out 1) | (go_at_call 85; (with_reducible refine (impl_ShowMoney.calls k1 ((rd_T119 l0 x19_1).f0) 2 t271 _ A6.out).mono ?_); rintro e w12 ⟨rfl, hb⟩; replace BK270 := aZ (blk_below (g := gb270) (o := .cells #[.int .i64 ((rd_T119 l0 x19_1).f0), .slice A269_1 ((rd_T119 l0 x19_1).f1).length c269_1] 119 (0, 0)) (by (with_reducible repeat (first | refine blk_drewN ?_ _ | refine blk_drew ?_ | refine blk_alloc ?_ _)); refine blk_put (cs := #[.int .i64 ((rd_T119 l0 x19_1).f0), .slice none 0 0]) ?_ 1 _ rfl; (with_reducible repeat (first | refine blk_drewN ?_ _ | refine blk_drew ?_ | refine blk_alloc ?_ _)); refine blk_put (cs := #[.int .i64 0, .slice none 0 0]) ?_ 0 _ rfl; (with_reducible repeat (first | refine blk_drewN ?_ _ | refine blk_drew ?_ | refine blk_alloc ?_ _)); exact BK270.out) hb); replace HB := aZ (below_step bZ hb); (try clear hb); (try clear hb2); (try clear hk); (try clear hi); have hcz13_0 : w12.cell? ⟨gb270, 0, none⟩ = some (.int .i64 ((rd_T119 l0 x19_1).f0)) := (blk_cell BK270.out 0).trans rfl; have hcz13_1 : w12.cell? ⟨gb270, 1, none⟩ = some (.slice A269_1 ((rd_T119 l0 x19_1).f1).length c269_1) := (blk_cell BK270.out 1).trans rfl; have hfz13_0 := blk_frozen BK270.out 0; have hfz13_1 := blk_frozen BK270.out 1)); try go_wp2_with (first | ((with_reducible refine gate_dst (N := 5) rfl ?_); (try (refine gate_guard (by rfl) ?_; dsimp only)); refine box_event ?hg (N := 5) ?hd (cs := #[.int .i64 0, .slice none 0 0]) (t := 119) ?hr ?_; (case hd => rfl); (case hg => rfl); (case hr => first | (go_simp; done) | (go_simp; rfl)); intro gb270 hg w10 hbox hb; have BK270 := aZ (hbox); have GW270 := aZ ((by rw [hg]; exact (below_size (lZB HB.out)) : w.heap.size ≤ gb270)); have GE270 := aZ ((by rw [hg]; exact (below_size (lZB HB.out)) : w.heap.size ≤ gb270)); replace HB := aZ (below_step (lZB HB.out) hb); clear hb hbox hg; have hcz11_0 : w10.cell? ⟨gb270, 0, none⟩ = some (.int .i64 0) := (blk_cell BK270.out 0).trans rfl; have hcz11_1 : w10.cell? ⟨gb270, 1, none⟩ = some (.slice none 0 0) := (blk_cell BK270.out 1).trans rfl; have hfz11_0 := blk_frozen BK270.out 0; have hfz11_1 := blk_frozen BK270.out 1) | (go_at_call 85; (with_reducible refine (impl_ShowMoney.calls k1 ((rd_T119 l0 x19_1).f0) 2 t271 _ A6.out).mono ?_); rintro e w12 ⟨rfl, hb⟩; replace BK270 := aZ (blk_below (g := gb270) (o := .cells #[.int .i64 ((rd_T119 l0 x19_1).f0), .slice A269_1 ((rd_T119 l0 x19_1).f1).length c269_1] 119 (0, 0)) (by (with_reducible repeat (first | refine blk_drewN ?_ _ | refine blk_drew ?_ | refine blk_alloc ?_ _)); refine blk_put (cs := #[.int .i64 ((rd_T119 l0 x19_1).f0), .slice none 0 0]) ?_ 1 _ rfl; (with_reducible repeat (first | refine blk_drewN ?_ _ | refine blk_drew ?_ | refine blk_alloc ?_ _)); refine blk_put (cs := #[.int .i64 0, .slice none 0 0]) ?_ 0 _ rfl; (with_reducible repeat (first | refine blk_drewN ?_ _ | refine blk_drew ?_ | refine blk_alloc ?_ _)); exact BK270.out) hb); replace HB := aZ (below_step bZ hb); (try clear hb); (try clear hb2); (try clear hk); (try clear hi); have hcz13_0 : w12.cell? ⟨gb270, 0, none⟩ = some (.int .i64 ((rd_T119 l0 x19_1).f0)) := (blk_cell BK270.out 0).trans rfl; have hcz13_1 : w12.cell? ⟨gb270, 1, none⟩ = some (.slice A269_1 ((rd_T119 l0 x19_1).f1).length c269_1) := (blk_cell BK270.out 1).trans rfl; have hfz13_0 := blk_frozen BK270.out 0; have hfz13_1 := blk_frozen BK270.out 1)))
    go_loopg [3, 33] k1 (fun kq v3 v33 w' => ∃ (x3_2 : ByteArray) (x33_2 : Int), v3 = .string x3_2 ∧ v33 = .int .i64 x33_2 ∧ Aside0 (impl_ShowFlow.l1 kq l0 x3_2 l0 (l0.length : Int) x19_1 ((rd_T119 l0 x19_1).f1) (((rd_T119 l0 x19_1).f1).length : Int) x33_2 = some r) ∧ Aside0 (kq ≤ k1) ∧ Aside0 (w'.heap[gb270]? = some (.cells #[.int .i64 ((rd_T119 l0 x19_1).f0), (.slice A269_1 ((rd_T119 l0 x19_1).f1).length c269_1)] 119 (0, 0))) ∧ Aside0 (Below w.heap.size w w'))
    case atStart => exact ⟨(x3_1 ++ (((⟨#[111, 118, 101, 114, 32]⟩ : ByteArray) ++ t271) ++ (⟨#[58, 32]⟩ : ByteArray))), (0), tZB, tZB, H', ⟨Nat.le_refl _⟩, ⟨bkZ BK270.out⟩, ⟨bZ⟩⟩
    case round =>
     clear H'
     try clear c2
     try clear c2b0
     try clear c2b1
     try clear p2
     try clear q2
     try clear hx2
     try clear c3
     try clear c3b0
     try clear c4
     try clear c4b0
     try clear c5
     try clear c5b0
     try clear c7
     try clear c7b0
     try clear c7b1
     try clear c7b2
     try clear c8
     try clear c8b0
     try clear c8b1
     try clear c8b2
     try clear c9
     try clear c9b0
     try clear c9b1
     try clear c9b2
     try clear hcz11_0
     try clear hcz11_1
     try clear hcz13_0
     try clear hcz13_1
     try clear hfz11_0
     try clear hfz11_1
     try clear hfz13_0
     try clear hfz13_1
     try clear hx269_0
     try clear hx269_1
     try clear p2
     try clear p269
     try clear q269
     obtain ⟨x3_2, x33_2, rfl, rfl, HA, HK2, BK270, HB⟩ := hrel
     cases gk with
     | zero => exact absurd HA.out (by simp [impl_ShowFlow.l1])
     | succ k2 =>
      have H := HA.out
      clear HA
      simp only [impl_ShowFlow.l1] at H
      by_cases c14 : x33_2 < (((rd_T119 l0 x19_1).f1).length : Int)
      rotate_left
      ·rw [if_neg c14] at H
       have c14b0 := decide_eq_false c14
       clear c14
       by_cases c21 : x3_2.size + 1 ≤ 9223372036854775807
       rotate_left
       ·rw [if_neg c21] at H
        exact absurd H (by simp)
       rw [if_pos c21] at H
       have c21b0 := eq_true c21
       have c21b1 := decide_eq_true c21
       try have c21b2 := eq_false (Nat.not_lt.2 c21)
       by_cases c22 : ((x3_2 ++ (⟨#[10]⟩ : ByteArray)).size : Int) > 2000
       ·rw [if_pos c22] at H
        (try (have c22b7 : decide (2000 < x3_2.size + 1) = true := decide_eq_true (by have h_ := c22; have e0_ : (⟨#[10]⟩ : ByteArray).size = 1 := rfl; simp only [ByteArray.size_append, ByteArray.size_extract] at h_; omega)))
        (try (have c22b8 : decide (2000 < (x3_2.size : Int) + 1) = true := decide_eq_true (by have h_ := c22; have e0_ : (⟨#[10]⟩ : ByteArray).size = 1 := rfl; simp only [ByteArray.size_append, ByteArray.size_extract] at h_; omega)))
        have c22b0 : decide (2000 < ((x3_2 ++ (⟨#[10]⟩ : ByteArray)).size : Int)) = true := decide_eq_true c22
        have c22b1 : decide (2000 < (x3_2 ++ (⟨#[10]⟩ : ByteArray)).size) = true := decide_eq_true (by omega)
        clear c22
        obtain rfl := Option.some.inj H
        go_wp2
        repeat (go_quiet (fail); try go_wp2)
        go_ret
        exact ⟨tZC, bZ⟩
       rw [if_neg c22] at H
       (try (have c22b7 : decide (2000 < x3_2.size + 1) = false := decide_eq_false (by have h_ := c22; have e0_ : (⟨#[10]⟩ : ByteArray).size = 1 := rfl; simp only [ByteArray.size_append, ByteArray.size_extract] at h_; omega)))
       (try (have c22b8 : decide (2000 < (x3_2.size : Int) + 1) = false := decide_eq_false (by have h_ := c22; have e0_ : (⟨#[10]⟩ : ByteArray).size = 1 := rfl; simp only [ByteArray.size_append, ByteArray.size_extract] at h_; omega)))
       have c22b0 : decide (2000 < ((x3_2 ++ (⟨#[10]⟩ : ByteArray)).size : Int)) = false := decide_eq_false c22
       have c22b1 : decide (2000 < (x3_2 ++ (⟨#[10]⟩ : ByteArray)).size) = false := decide_eq_false (by omega)
       clear c22
       have H' := Aside0.mk H
       clear H
       go_wp2
       repeat (go_quiet (fail); try go_wp2)
       go_roundg k2
       case measure => have := HK1.out; have := HK2.out; omega
       case rel => exact ⟨(x3_2 ++ (⟨#[10]⟩ : ByteArray)), (wrap64 (x19_1 + 1)), tZB, tZB, H', ⟨by have := HK1.out; have := HK2.out; omega⟩, ⟨bZ⟩⟩
      rw [if_pos c14] at H
      have c14b0 := decide_eq_true c14
      clear c14
      by_cases c15 : 0 ≤ x33_2
      rotate_left
      ·rw [if_neg c15] at H
       exact absurd H (by simp)
      rw [if_pos c15] at H
      have c15b0 := decide_eq_true c15
      clear c15
      by_cases c16 : x33_2 < (((rd_T119 l0 x19_1).f1).length : Int)
      rotate_left
      ·rw [if_neg c16] at H
       exact absurd H (by simp)
      rw [if_pos c16] at H
      have c16b0 := decide_eq_true c16
      clear c16
      by_cases c17 : x33_2 > 0
      rotate_left
      ·rw [if_neg c17] at H
       have c17b0 : decide (0 < x33_2) = false := decide_eq_false c17
       clear c17
       by_cases c20 : x3_2.size + (rdOf ByteArray.empty ((rd_T119 l0 x19_1).f1) x33_2).size ≤ 9223372036854775807
       rotate_left
       ·rw [if_neg c20] at H
        exact absurd H (by simp)
       rw [if_pos c20] at H
       have c20b0 := eq_true c20
       have c20b1 := decide_eq_true c20
       try have c20b2 := eq_false (Nat.not_lt.2 c20)
       have H' := Aside0.mk H
       clear H
       have p272 : 0 ≤ (x33_2 : Int) := of_decide_eq_true tZE
       have q272 : x33_2 < (((rd_T119 l0 x19_1).f1).length : Int) := of_decide_eq_true tZE
       obtain ⟨ad272, e272, hx272_0⟩ := Kd.at_string HR269_1.out x33_2 p272 q272
       cases e272
       replace hx272_0 := cZ HB hx272_0
       replace p272 := eq_true p272
       replace q272 := eq_true q272
       go_wp2
       repeat (go_quiet (fail); try go_wp2)
       go_roundg k2
       case measure => have := HK1.out; have := HK2.out; omega
       case rel => exact ⟨(x3_2 ++ (rdOf ByteArray.empty ((rd_T119 l0 x19_1).f1) x33_2)), (wrap64 (x33_2 + 1)), tZB, tZB, H', ⟨by have := HK1.out; have := HK2.out; omega⟩, ⟨bkZ BK270.out⟩, ⟨bZ⟩⟩
      rw [if_pos c17] at H
      have c17b0 : decide (0 < x33_2) = true := decide_eq_true c17
      clear c17
      by_cases c18 : x3_2.size + 2 ≤ 9223372036854775807
      rotate_left
      ·rw [if_neg c18] at H
       exact absurd H (by simp)
      rw [if_pos c18] at H
      have c18b0 := eq_true c18
      have c18b1 := decide_eq_true c18
      try have c18b2 := eq_false (Nat.not_lt.2 c18)
      by_cases c19 : (x3_2 ++ (⟨#[44, 32]⟩ : ByteArray)).size + (rdOf ByteArray.empty ((rd_T119 l0 x19_1).f1) x33_2).size ≤ 9223372036854775807
      rotate_left
      ·rw [if_neg c19] at H
       exact absurd H (by simp)
      rw [if_pos c19] at H
      have c19b0 := eq_true c19
      have c19b1 := decide_eq_true c19
      try have c19b2 := eq_false (Nat.not_lt.2 c19)
      try have c19b5 : (9223372036854775807 < x3_2.size + 2 + (rdOf ByteArray.empty ((rd_T119 l0 x19_1).f1) x33_2).size) = False := eq_false (by have h_ := c19; have e0_ : (⟨#[44, 32]⟩ : ByteArray).size = 2 := rfl; simp only [ByteArray.size_append, ByteArray.size_extract] at h_; omega)
      have H' := Aside0.mk H
      clear H
      have p272 : 0 ≤ (x33_2 : Int) := of_decide_eq_true tZE
      have q272 : x33_2 < (((rd_T119 l0 x19_1).f1).length : Int) := of_decide_eq_true tZE
      obtain ⟨ad272, e272, hx272_0⟩ := Kd.at_string HR269_1.out x33_2 p272 q272
      cases e272
      replace hx272_0 := cZ HB hx272_0
      replace p272 := eq_true p272
      replace q272 := eq_true q272
      go_wp2
      repeat (go_quiet (fail); try go_wp2)
      go_roundg k2
      case measure => have := HK1.out; have := HK2.out; omega
      case rel => exact ⟨((x3_2 ++ (⟨#[44, 32]⟩ : ByteArray)) ++ (rdOf ByteArray.empty ((rd_T119 l0 x19_1).f1) x33_2)), (wrap64 (x33_2 + 1)), tZB, tZB, H', ⟨by have := HK1.out; have := HK2.out; omega⟩, ⟨bkZ BK270.out⟩, ⟨bZ⟩⟩
   rw [if_neg c3] at H
   have c3b0 := decide_eq_false c3
   clear c3
   replace H := Option.bind_eq_some_iff.mp H
   obtain ⟨⟨t273, t274⟩, A230, H⟩ := H
   replace H : (if t274 = 0 then (impl_ShowFlow.j2 k1 l0 x3_1 t273 ((t273.length : Int) != (l0.length : Int))) else (impl_ShowFlow.j2 k1 l0 x3_1 t273 true)) = some r := H
   have A23 := Aside0.mk A230
   clear A230
   have HC24 := Aside0.mk H
   clear H
   go_upto_region 20 with (first | (go_at_call 37; (with_reducible refine (impl_ParseFlow.calls k1 x3_1 t273 t274 _ A23.out).mono ?_); rintro e w25 ⟨v275, rfl, ho0, hb⟩; have HO276 := aZ (Kd.S_lower ho0 (below_size (lZB HB.out))); replace HB := aZ (below_step (lZB HB.out) hb); (try clear hb); (try clear hb2); (try clear hk); (try clear hi); (try clear ho0)))
   repeat (go_quiet (first | (go_at_call 37; (with_reducible refine (impl_ParseFlow.calls k1 x3_1 t273 t274 _ A23.out).mono ?_); rintro e w25 ⟨v275, rfl, ho0, hb⟩; have HO276 := aZ (Kd.S_lower ho0 (below_size (lZB HB.out))); replace HB := aZ (below_step (lZB HB.out) hb); (try clear hb); (try clear hb2); (try clear hk); (try clear hi); (try clear ho0))); go_upto_region 20 with (first | (go_at_call 37; (with_reducible refine (impl_ParseFlow.calls k1 x3_1 t273 t274 _ A23.out).mono ?_); rintro e w25 ⟨v275, rfl, ho0, hb⟩; have HO276 := aZ (Kd.S_lower ho0 (below_size (lZB HB.out))); replace HB := aZ (below_step (lZB HB.out) hb); (try clear hb); (try clear hb2); (try clear hk); (try clear hi); (try clear ho0))))
   (try simp only [Act.put, sZ1, sZ2, sZ3])
   go_cut [65] (fun v65 wc => ∃ (kq : Nat) (x65_23 : Bool), v65 = .bool x65_23 ∧ Aside0 (impl_ShowFlow.j2 kq l0 x3_1 t273 x65_23 = some r) ∧ Aside0 (kq ≤ k1) ∧ Aside0 (Kd.S k119 119 wc w.heap.size (fun _ => True) v275 t273) ∧ Aside0 (Below w.heap.size w wc))
   case first =>
    have H := HC24.out
    clear HC24
    by_cases c26 : t274 = 0
    rotate_left
    ·rw [if_neg c26] at H
     have c26b0 : (t274 == 0) = false := beq_eq_false_iff_ne.mpr c26
     have c26b1 : (t274 != 0) = true := bne_iff_ne.mpr c26
     (first | rw [c26b0] | (simp only [i64_w, i32_w]; rw [c26b0]) | skip)
     have H' := Aside0.mk H
     clear H
     go_wp2
     repeat (go_quiet (fail); try go_wp2)
     go_meet
     case rel => exact ⟨_, (true), tZB, H', ⟨by have := HK1.out; first | omega | exact Nat.le_refl _⟩, ⟨lZS HO276.out⟩, ⟨bZ⟩⟩
    rw [if_pos c26] at H
    have c26b0 : (t274 == 0) = true := beq_iff_eq.mpr c26
    have c26b1 : (t274 != 0) = false := bne_eq_false_iff_eq.mpr c26
    clear c26
    (first | rw [c26b0] | (simp only [i64_w, i32_w]; rw [c26b0]) | skip)
    have H' := Aside0.mk H
    clear H
    obtain ⟨Ao27, co27, eo27⟩ := Kd.S_slice HO276.out
    subst eo27
    go_wp2
    repeat (go_quiet (fail); try go_wp2)
    go_meet
    case rel => exact ⟨_, (((t273.length : Int) != (l0.length : Int))), tZB, H', ⟨by have := HK1.out; first | omega | exact Nat.le_refl _⟩, ⟨lZS HO276.out⟩, ⟨bZ⟩⟩
   case rest =>
    clear HC24
    try clear c1
    try clear c2
    try clear c2b0
    try clear c2b1
    try clear p2
    try clear q2
    try clear hx2
    try clear c3
    try clear c3b0
    try clear c4
    try clear c4b0
    try clear c5
    try clear c5b0
    try clear p6
    try clear c7
    try clear c7b0
    try clear c7b1
    try clear c7b2
    try clear c8
    try clear c8b0
    try clear c8b1
    try clear c8b2
    try clear c9
    try clear c9b0
    try clear c9b1
    try clear c9b2
    try clear c14
    try clear c14b0
    try clear c15
    try clear c15b0
    try clear c16
    try clear c16b0
    try clear c17
    try clear c17b0
    try clear c18
    try clear c18b0
    try clear c18b1
    try clear c18b2
    try clear c19
    try clear c19b0
    try clear c19b1
    try clear c19b2
    try clear c20
    try clear c20b0
    try clear c20b1
    try clear c20b2
    try clear c21
    try clear c21b0
    try clear c21b1
    try clear c21b2
    try clear c22
    try clear c22b0
    try clear c22b1
    try clear c25
    try clear c26
    try clear c26b0
    try clear c26b1
    try clear p26
    try clear q26
    try clear hx26
    try clear p27
    try clear q27
    try clear hx27
    try clear hcz11_0
    try clear hcz11_1
    try clear hcz13_0
    try clear hcz13_1
    try clear hfz11_0
    try clear hfz11_1
    try clear hfz13_0
    try clear hfz13_1
    try clear hx269_0
    try clear hx269_1
    try clear hx272_0
    try clear p2
    try clear p269
    try clear p272
    try clear q2
    try clear q269
    try clear q272
    obtain ⟨kq, x65_23, rfl, HA, HJ23, HO_8, HB⟩ := hcut
    cases kq with
    | zero => exact absurd HA.out (by simp [impl_ShowFlow.j2])
    | succ kj23 =>
     have H := HA.out
     clear HA
     simp only [impl_ShowFlow.j2] at H
     by_cases c28 : x65_23 = true
     ·subst c28
      have H1 : (some (⟨#[]⟩ : ByteArray)) = some r := by rw [if_pos rfl] at H; exact H
      clear H
      have H := H1
      clear H1
      obtain rfl := Option.some.inj H
      go_wp2
      repeat (go_quiet (fail); try go_wp2)
      go_ret
      exact ⟨tZC, bZ⟩
     replace c28 := Bool.eq_false_iff.mpr c28
     subst c28
     have H1 : (impl_ShowFlow.l2 kj23 x3_1 t273 l0 (l0.length : Int) 0) = some r := by rw [if_neg (show ¬ (false = true) by decide)] at H; exact H
     clear H
     have H := H1
     clear H1
     have H' := Aside0.mk H
     clear H
     go_wp2
     repeat (go_quiet (fail); try go_wp2)
     go_loopg [68] kj23 (fun kq v68 w' => ∃ (x68_3 : Int), v68 = .int .i64 x68_3 ∧ Aside0 (impl_ShowFlow.l2 kq x3_1 t273 l0 (l0.length : Int) x68_3 = some r) ∧ Aside0 (kq ≤ kj23) ∧ Aside0 (Kd.S k119 119 w' w.heap.size (fun _ => True) v275 t273) ∧ Aside0 (Below w.heap.size w w'))
     case atStart => exact ⟨(0), tZB, H', ⟨Nat.le_refl _⟩, ⟨lZS HO_8.out⟩, ⟨bZ⟩⟩
     case round =>
      clear H'
      try clear c1
      try clear c2
      try clear c2b0
      try clear c2b1
      try clear p2
      try clear q2
      try clear hx2
      try clear c3
      try clear c3b0
      try clear c4
      try clear c4b0
      try clear c5
      try clear c5b0
      try clear p6
      try clear c7
      try clear c7b0
      try clear c7b1
      try clear c7b2
      try clear c8
      try clear c8b0
      try clear c8b1
      try clear c8b2
      try clear c9
      try clear c9b0
      try clear c9b1
      try clear c9b2
      try clear c14
      try clear c14b0
      try clear c15
      try clear c15b0
      try clear c16
      try clear c16b0
      try clear c17
      try clear c17b0
      try clear c18
      try clear c18b0
      try clear c18b1
      try clear c18b2
      try clear c19
      try clear c19b0
      try clear c19b1
      try clear c19b2
      try clear c20
      try clear c20b0
      try clear c20b1
      try clear c20b2
      try clear c21
      try clear c21b0
      try clear c21b1
      try clear c21b2
      try clear c22
      try clear c22b0
      try clear c22b1
      try clear c25
      try clear c26
      try clear c26b0
      try clear c26b1
      try clear p26
      try clear q26
      try clear hx26
      try clear p27
      try clear q27
      try clear hx27
      try clear c28
      try clear hcz11_0
      try clear hcz11_1
      try clear hcz13_0
      try clear hcz13_1
      try clear hfz11_0
      try clear hfz11_1
      try clear hfz13_0
      try clear hfz13_1
      try clear hx269_0
      try clear hx269_1
      try clear hx272_0
      try clear p2
      try clear p26
      try clear p269
      try clear p27
      try clear p272
      try clear p6
      try clear q2
      try clear q26
      try clear q269
      try clear q27
      try clear q272
      obtain ⟨x68_3, rfl, HA, HK3, HO_8, HB⟩ := hrel
      cases gk with
      | zero => exact absurd HA.out (by simp [impl_ShowFlow.l2])
      | succ k3 =>
       have H := HA.out
       clear HA
       simp only [impl_ShowFlow.l2] at H
       by_cases c29 : x68_3 < (l0.length : Int)
       rotate_left
       ·rw [if_neg c29] at H
        have c29b0 := decide_eq_false c29
        clear c29
        obtain rfl := Option.some.inj H
        go_wp2
        repeat (go_quiet (fail); try go_wp2)
        go_ret
        exact ⟨tZC, bZ⟩
       rw [if_pos c29] at H
       have c29b0 := decide_eq_true c29
       clear c29
       by_cases c30 : 0 ≤ x68_3
       rotate_left
       ·rw [if_neg c30] at H
        exact absurd H (by simp)
       rw [if_pos c30] at H
       have c30b0 := decide_eq_true c30
       clear c30
       by_cases c31 : x68_3 < (l0.length : Int)
       rotate_left
       ·rw [if_neg c31] at H
        exact absurd H (by simp)
       rw [if_pos c31] at H
       have c31b0 := decide_eq_true c31
       clear c31
       have HC32 := Aside0.mk H
       clear H
       have p277 : 0 ≤ (x68_3 : Int) := of_decide_eq_true tZE
       have q277 : x68_3 < (l0.length : Int) := of_decide_eq_true tZE
       obtain ⟨ad277, A277_1, c277_1, e277, hx277_0, hx277_1, hl277_1, hi277_1⟩ := at_T119 HR0.out x68_3 p277 q277
       cases e277
       replace hx277_0 := cZ HB hx277_0
       replace hx277_1 := cZ HB hx277_1
       have HR277_1 := Aside0.mk hi277_1
       have HC277_1 := Aside0.mk hl277_1
       clear hi277_1 hl277_1
       replace p277 := eq_true p277
       replace q277 := eq_true q277
       go_upto_region 25 with (first | ((with_reducible refine gate_dst (N := 11) rfl ?_); (try (refine gate_guard (by rfl) ?_; dsimp only)); refine box_event ?hg (N := 11) ?hd (cs := #[.int .i64 0, .slice none 0 0]) (t := 119) ?hr ?_; (case hd => rfl); (case hg => rfl); (case hr => first | (go_simp; done) | (go_simp; rfl)); intro gb278 hg w33 hbox hb; replace HO_8 := aZ (Kd.S_below (Kd.S_elderB (lZS HO_8.out) gb278 (Nat.le_of_eq hg.symm)) hb); have BK278 := aZ (hbox); have GW278 := aZ ((by rw [hg]; exact (below_size (lZB HB.out)) : w.heap.size ≤ gb278)); have GE278 := aZ ((by rw [hg]; exact (below_size (lZB HB.out)) : w.heap.size ≤ gb278)); replace HB := aZ (below_step (lZB HB.out) hb); clear hb hbox hg; have hcz34_0 : w33.cell? ⟨gb278, 0, none⟩ = some (.int .i64 0) := (blk_cell BK278.out 0).trans rfl; have hcz34_1 : w33.cell? ⟨gb278, 1, none⟩ = some (.slice none 0 0) := (blk_cell BK278.out 1).trans rfl; have hfz34_0 := blk_frozen BK278.out 0; have hfz34_1 := blk_frozen BK278.out 1))
       repeat (go_quiet (first | ((with_reducible refine gate_dst (N := 11) rfl ?_); (try (refine gate_guard (by rfl) ?_; dsimp only)); refine box_event ?hg (N := 11) ?hd (cs := #[.int .i64 0, .slice none 0 0]) (t := 119) ?hr ?_; (case hd => rfl); (case hg => rfl); (case hr => first | (go_simp; done) | (go_simp; rfl)); intro gb278 hg w33 hbox hb; replace HO_8 := aZ (Kd.S_below (Kd.S_elderB (lZS HO_8.out) gb278 (Nat.le_of_eq hg.symm)) hb); have BK278 := aZ (hbox); have GW278 := aZ ((by rw [hg]; exact (below_size (lZB HB.out)) : w.heap.size ≤ gb278)); have GE278 := aZ ((by rw [hg]; exact (below_size (lZB HB.out)) : w.heap.size ≤ gb278)); replace HB := aZ (below_step (lZB HB.out) hb); clear hb hbox hg; have hcz34_0 : w33.cell? ⟨gb278, 0, none⟩ = some (.int .i64 0) := (blk_cell BK278.out 0).trans rfl; have hcz34_1 : w33.cell? ⟨gb278, 1, none⟩ = some (.slice none 0 0) := (blk_cell BK278.out 1).trans rfl; have hfz34_0 := blk_frozen BK278.out 0; have hfz34_1 := blk_frozen BK278.out 1)); go_upto_region 25 with (first | ((with_reducible refine gate_dst (N := 11) rfl ?_); (try (refine gate_guard (by rfl) ?_; dsimp only)); refine box_event ?hg (N := 11) ?hd (cs := #[.int .i64 0, .slice none 0 0]) (t := 119) ?hr ?_; (case hd => rfl); (case hg => rfl); (case hr => first | (go_simp; done) | (go_simp; rfl)); intro gb278 hg w33 hbox hb; replace HO_8 := aZ (Kd.S_below (Kd.S_elderB (lZS HO_8.out) gb278 (Nat.le_of_eq hg.symm)) hb); have BK278 := aZ (hbox); have GW278 := aZ ((by rw [hg]; exact (below_size (lZB HB.out)) : w.heap.size ≤ gb278)); have GE278 := aZ ((by rw [hg]; exact (below_size (lZB HB.out)) : w.heap.size ≤ gb278)); replace HB := aZ (below_step (lZB HB.out) hb); clear hb hbox hg; have hcz34_0 : w33.cell? ⟨gb278, 0, none⟩ = some (.int .i64 0) := (blk_cell BK278.out 0).trans rfl; have hcz34_1 : w33.cell? ⟨gb278, 1, none⟩ = some (.slice none 0 0) := (blk_cell BK278.out 1).trans rfl; have hfz34_0 := blk_frozen BK278.out 0; have hfz34_1 := blk_frozen BK278.out 1)))
       (try simp only [Act.put, sZ1, sZ2, sZ3])
       go_cut [92] (fun v92 wc => ∃ (kq : Nat) (x92_31 : Bool), v92 = .bool x92_31 ∧ Aside0 (impl_ShowFlow.j4 kq x3_1 t273 x68_3 l0 (l0.length : Int) x68_3 x92_31 ((rd_T119 l0 x68_3).f0) ((rd_T119 l0 x68_3).f1) = some r) ∧ Aside0 (kq ≤ k3) ∧ Aside0 (Kd.S k119 119 wc w.heap.size (fun k_ => k_ ≠ gb278) v275 t273) ∧ Aside0 (wc.heap[gb278]? = some (.cells #[.int .i64 ((rd_T119 l0 x68_3).f0), (.slice A277_1 ((rd_T119 l0 x68_3).f1).length c277_1)] 119 (0, 0))) ∧ Aside0 (Below w.heap.size w wc))
       case first =>
        have H := HC32.out
        clear HC32
        by_cases c35 : x68_3 < (t273.length : Int)
        rotate_left
        ·rw [if_neg c35] at H
         exact absurd H (by simp)
        rw [if_pos c35] at H
        have c35b0 := decide_eq_true c35
        clear c35
        (first | rw [c35b0] | (simp only [i64_w, i32_w]; rw [c35b0]) | skip)
        by_cases c36 : ((rd_T119 t273 x68_3).f0) = ((rd_T119 l0 x68_3).f0)
        rotate_left
        ·rw [if_neg c36] at H
         have c36b0 : (((rd_T119 t273 x68_3).f0) == ((rd_T119 l0 x68_3).f0)) = false := beq_eq_false_iff_ne.mpr c36
         have c36b1 : (((rd_T119 t273 x68_3).f0) != ((rd_T119 l0 x68_3).f0)) = true := bne_iff_ne.mpr c36
         have H' := Aside0.mk H
         clear H
         obtain ⟨Ao39, co39, eo39⟩ := Kd.S_slice HO_8.out
         subst eo39
         have p279 : 0 ≤ (x68_3 : Int) := of_decide_eq_true tZE
         have q279 : x68_3 < (t273.length : Int) := of_decide_eq_true tZE
         obtain ⟨ad279, A279_1, c279_1, e279, hx279_0, hx279_1, hl279_1, hi279_1⟩ := at_T119 (Kd.S_reads' HO_8.out).2.2 x68_3 p279 q279
         cases e279
         have hn279_0 : ad279.block ≠ gb278 := Kd.own_blk (Kd.S_away HO_8.out (fun _ hk => hk.2))
         have hn279_1 : ad279.block ≠ gb278 := Kd.own_blk (Kd.S_away HO_8.out (fun _ hk => hk.2))
         have HR279_1 := Aside0.mk hi279_1
         have HC279_1 := Aside0.mk hl279_1
         clear hi279_1 hl279_1
         replace hx279_0 := (cell_far (p := ⟨gb278, 0, none⟩) (by first | (rw [add_block]; exact hn279_0) | (show (Addr.add _ _).block ≠ _; rw [add_block]; exact hn279_0) | exact hn279_0) (.int .i64 ((rd_T119 l0 x68_3).f0))).trans hx279_0
         replace hx279_1 := (cell_far (p := ⟨gb278, 0, none⟩) (by first | (rw [add_block]; exact hn279_0) | (show (Addr.add _ _).block ≠ _; rw [add_block]; exact hn279_0) | exact hn279_0) (.int .i64 ((rd_T119 l0 x68_3).f0))).trans hx279_1
         replace hx279_0 := (cell_far (p := ⟨gb278, 1, none⟩) (by first | (rw [add_block]; exact hn279_1) | (show (Addr.add _ _).block ≠ _; rw [add_block]; exact hn279_1) | exact hn279_1) (.slice A277_1 ((rd_T119 l0 x68_3).f1).length c277_1)).trans hx279_0
         replace hx279_1 := (cell_far (p := ⟨gb278, 1, none⟩) (by first | (rw [add_block]; exact hn279_1) | (show (Addr.add _ _).block ≠ _; rw [add_block]; exact hn279_1) | exact hn279_1) (.slice A277_1 ((rd_T119 l0 x68_3).f1).length c277_1)).trans hx279_1
         (try have hy279_0 := fun (n_ : Nat) => (show ((((w33.drewN n_).setCell ⟨gb278, 0, none⟩ (.int .i64 ((rd_T119 l0 x68_3).f0))).setCell ⟨gb278, 1, none⟩ (.slice A277_1 ((rd_T119 l0 x68_3).f1).length c277_1))).cell? _ = some _ from hx279_0))
         (try have hy279_1 := fun (n_ : Nat) => (show ((((w33.drewN n_).setCell ⟨gb278, 0, none⟩ (.int .i64 ((rd_T119 l0 x68_3).f0))).setCell ⟨gb278, 1, none⟩ (.slice A277_1 ((rd_T119 l0 x68_3).f1).length c277_1))).cell? _ = some _ from hx279_1))
         clear hn279_0
         clear hn279_1
         replace p279 := eq_true p279
         replace q279 := eq_true q279
         have hcz40_0 : w33.cell? ⟨gb278, 0, none⟩ = some (.int .i64 0) := (blk_cell BK278.out 0).trans rfl
         have hcz40_1 : w33.cell? ⟨gb278, 1, none⟩ = some (.slice none 0 0) := (blk_cell BK278.out 1).trans rfl
         have hfz40_0 := blk_frozen BK278.out 0
         have hfz40_1 := blk_frozen BK278.out 1
         go_wp2
         repeat (go_quiet (fail); try go_wp2)
         go_meet
         case rel => exact ⟨_, (true), tZB, H', ⟨by have := HK1.out; have := HJ23.out; have := HK3.out; first | omega | exact Nat.le_refl _⟩, ⟨by (with_reducible repeat (first | apply Kd.S_alloc | apply Kd.S_drewN | apply Kd.S_drew)); exact Kd.S_mono (Kd.S_far (p := ⟨gb278, 1, none⟩) (Kd.S_far (p := ⟨gb278, 0, none⟩) (Kd.S_mono HO_8.out (fun k_ hk => (⟨hk, hk.2⟩ : _ ∧ k_ ≠ gb278))) (fun _ hk => hk.2) (.int .i64 ((rd_T119 l0 x68_3).f0))) (fun _ hk => hk.2) (.slice A277_1 ((rd_T119 l0 x68_3).f1).length c277_1)) (fun _ hk => hk.1.2)⟩, ⟨by (with_reducible repeat (first | refine blk_drewN ?_ _ | refine blk_drew ?_ | refine blk_alloc ?_ _)); refine blk_put (cs := #[.int .i64 ((rd_T119 l0 x68_3).f0), .slice none 0 0]) ?_ 1 _ rfl; (with_reducible repeat (first | refine blk_drewN ?_ _ | refine blk_drew ?_ | refine blk_alloc ?_ _)); refine blk_put (cs := #[.int .i64 0, .slice none 0 0]) ?_ 0 _ rfl; (with_reducible repeat (first | refine blk_drewN ?_ _ | refine blk_drew ?_ | refine blk_alloc ?_ _)); exact BK278.out⟩, ⟨bZ⟩⟩
        rw [if_pos c36] at H
        have c36b0 : (((rd_T119 t273 x68_3).f0) == ((rd_T119 l0 x68_3).f0)) = true := beq_iff_eq.mpr c36
        have c36b1 : (((rd_T119 t273 x68_3).f0) != ((rd_T119 l0 x68_3).f0)) = false := bne_eq_false_iff_eq.mpr c36
        clear c36
        have H' := Aside0.mk H
        clear H
        obtain ⟨Ao37, co37, eo37⟩ := Kd.S_slice HO_8.out
        subst eo37
        have p279 : 0 ≤ (x68_3 : Int) := of_decide_eq_true tZE
        have q279 : x68_3 < (t273.length : Int) := of_decide_eq_true tZE
        obtain ⟨ad279, A279_1, c279_1, e279, hx279_0, hx279_1, hl279_1, hi279_1⟩ := at_T119 (Kd.S_reads' HO_8.out).2.2 x68_3 p279 q279
        cases e279
        have hn279_0 : ad279.block ≠ gb278 := Kd.own_blk (Kd.S_away HO_8.out (fun _ hk => hk.2))
        have hn279_1 : ad279.block ≠ gb278 := Kd.own_blk (Kd.S_away HO_8.out (fun _ hk => hk.2))
        have HR279_1 := Aside0.mk hi279_1
        have HC279_1 := Aside0.mk hl279_1
        clear hi279_1 hl279_1
        replace hx279_0 := (cell_far (p := ⟨gb278, 0, none⟩) (by first | (rw [add_block]; exact hn279_0) | (show (Addr.add _ _).block ≠ _; rw [add_block]; exact hn279_0) | exact hn279_0) (.int .i64 ((rd_T119 l0 x68_3).f0))).trans hx279_0
        replace hx279_1 := (cell_far (p := ⟨gb278, 0, none⟩) (by first | (rw [add_block]; exact hn279_0) | (show (Addr.add _ _).block ≠ _; rw [add_block]; exact hn279_0) | exact hn279_0) (.int .i64 ((rd_T119 l0 x68_3).f0))).trans hx279_1
        replace hx279_0 := (cell_far (p := ⟨gb278, 1, none⟩) (by first | (rw [add_block]; exact hn279_1) | (show (Addr.add _ _).block ≠ _; rw [add_block]; exact hn279_1) | exact hn279_1) (.slice A277_1 ((rd_T119 l0 x68_3).f1).length c277_1)).trans hx279_0
        replace hx279_1 := (cell_far (p := ⟨gb278, 1, none⟩) (by first | (rw [add_block]; exact hn279_1) | (show (Addr.add _ _).block ≠ _; rw [add_block]; exact hn279_1) | exact hn279_1) (.slice A277_1 ((rd_T119 l0 x68_3).f1).length c277_1)).trans hx279_1
        (try have hy279_0 := fun (n_ : Nat) => (show ((((w33.drewN n_).setCell ⟨gb278, 0, none⟩ (.int .i64 ((rd_T119 l0 x68_3).f0))).setCell ⟨gb278, 1, none⟩ (.slice A277_1 ((rd_T119 l0 x68_3).f1).length c277_1))).cell? _ = some _ from hx279_0))
        (try have hy279_1 := fun (n_ : Nat) => (show ((((w33.drewN n_).setCell ⟨gb278, 0, none⟩ (.int .i64 ((rd_T119 l0 x68_3).f0))).setCell ⟨gb278, 1, none⟩ (.slice A277_1 ((rd_T119 l0 x68_3).f1).length c277_1))).cell? _ = some _ from hx279_1))
        clear hn279_0
        clear hn279_1
        replace p279 := eq_true p279
        replace q279 := eq_true q279
        have hcz38_0 : w33.cell? ⟨gb278, 0, none⟩ = some (.int .i64 0) := (blk_cell BK278.out 0).trans rfl
        have hcz38_1 : w33.cell? ⟨gb278, 1, none⟩ = some (.slice none 0 0) := (blk_cell BK278.out 1).trans rfl
        have hfz38_0 := blk_frozen BK278.out 0
        have hfz38_1 := blk_frozen BK278.out 1
        have p280 : 0 ≤ (x68_3 : Int) := of_decide_eq_true tZE
        have q280 : x68_3 < (t273.length : Int) := of_decide_eq_true tZE
        obtain ⟨ad280, A280_1, c280_1, e280, hx280_0, hx280_1, hl280_1, hi280_1⟩ := at_T119 (Kd.S_reads' HO_8.out).2.2 x68_3 p280 q280
        obtain rfl : ad279 = ad280 := (by injection e280)
        have hn280_0 : ad279.block ≠ gb278 := Kd.own_blk (Kd.S_away HO_8.out (fun _ hk => hk.2))
        have hn280_1 : ad279.block ≠ gb278 := Kd.own_blk (Kd.S_away HO_8.out (fun _ hk => hk.2))
        have HR280_1 := Aside0.mk hi280_1
        have HC280_1 := Aside0.mk hl280_1
        clear hi280_1 hl280_1
        replace hx280_0 := (cell_far (p := ⟨gb278, 0, none⟩) (by first | (rw [add_block]; exact hn280_0) | (show (Addr.add _ _).block ≠ _; rw [add_block]; exact hn280_0) | exact hn280_0) (.int .i64 ((rd_T119 l0 x68_3).f0))).trans hx280_0
        replace hx280_1 := (cell_far (p := ⟨gb278, 0, none⟩) (by first | (rw [add_block]; exact hn280_0) | (show (Addr.add _ _).block ≠ _; rw [add_block]; exact hn280_0) | exact hn280_0) (.int .i64 ((rd_T119 l0 x68_3).f0))).trans hx280_1
        replace hx280_0 := (cell_far (p := ⟨gb278, 1, none⟩) (by first | (rw [add_block]; exact hn280_1) | (show (Addr.add _ _).block ≠ _; rw [add_block]; exact hn280_1) | exact hn280_1) (.slice A277_1 ((rd_T119 l0 x68_3).f1).length c277_1)).trans hx280_0
        replace hx280_1 := (cell_far (p := ⟨gb278, 1, none⟩) (by first | (rw [add_block]; exact hn280_1) | (show (Addr.add _ _).block ≠ _; rw [add_block]; exact hn280_1) | exact hn280_1) (.slice A277_1 ((rd_T119 l0 x68_3).f1).length c277_1)).trans hx280_1
        (try have hy280_0 := fun (n_ : Nat) => (show ((((w33.drewN n_).setCell ⟨gb278, 0, none⟩ (.int .i64 ((rd_T119 l0 x68_3).f0))).setCell ⟨gb278, 1, none⟩ (.slice A277_1 ((rd_T119 l0 x68_3).f1).length c277_1))).cell? _ = some _ from hx280_0))
        (try have hy280_1 := fun (n_ : Nat) => (show ((((w33.drewN n_).setCell ⟨gb278, 0, none⟩ (.int .i64 ((rd_T119 l0 x68_3).f0))).setCell ⟨gb278, 1, none⟩ (.slice A277_1 ((rd_T119 l0 x68_3).f1).length c277_1))).cell? _ = some _ from hx280_1))
        clear hn280_0
        clear hn280_1
        replace p280 := eq_true p280
        replace q280 := eq_true q280
        go_wp2
        repeat (go_quiet (fail); try go_wp2)
        go_meet
        case rel => exact ⟨_, (((((rd_T119 t273 x68_3).f1).length : Int) != (((rd_T119 l0 x68_3).f1).length : Int))), tZB, H', ⟨by have := HK1.out; have := HJ23.out; have := HK3.out; first | omega | exact Nat.le_refl _⟩, ⟨by (with_reducible repeat (first | apply Kd.S_alloc | apply Kd.S_drewN | apply Kd.S_drew)); exact Kd.S_mono (Kd.S_far (p := ⟨gb278, 1, none⟩) (Kd.S_far (p := ⟨gb278, 0, none⟩) (Kd.S_mono HO_8.out (fun k_ hk => (⟨hk, hk.2⟩ : _ ∧ k_ ≠ gb278))) (fun _ hk => hk.2) (.int .i64 ((rd_T119 l0 x68_3).f0))) (fun _ hk => hk.2) (.slice A277_1 ((rd_T119 l0 x68_3).f1).length c277_1)) (fun _ hk => hk.1.2)⟩, ⟨by (with_reducible repeat (first | refine blk_drewN ?_ _ | refine blk_drew ?_ | refine blk_alloc ?_ _)); refine blk_put (cs := #[.int .i64 ((rd_T119 l0 x68_3).f0), .slice none 0 0]) ?_ 1 _ rfl; (with_reducible repeat (first | refine blk_drewN ?_ _ | refine blk_drew ?_ | refine blk_alloc ?_ _)); refine blk_put (cs := #[.int .i64 0, .slice none 0 0]) ?_ 0 _ rfl; (with_reducible repeat (first | refine blk_drewN ?_ _ | refine blk_drew ?_ | refine blk_alloc ?_ _)); exact BK278.out⟩, ⟨bZ⟩⟩
       case rest =>
        clear HC32
        try clear c1
        try clear c2
        try clear c2b0
        try clear c2b1
        try clear p2
        try clear q2
        try clear hx2
        try clear c3
        try clear c3b0
        try clear c4
        try clear c4b0
        try clear c5
        try clear c5b0
        try clear p6
        try clear c7
        try clear c7b0
        try clear c7b1
        try clear c7b2
        try clear c8
        try clear c8b0
        try clear c8b1
        try clear c8b2
        try clear c9
        try clear c9b0
        try clear c9b1
        try clear c9b2
        try clear c14
        try clear c14b0
        try clear c15
        try clear c15b0
        try clear c16
        try clear c16b0
        try clear c17
        try clear c17b0
        try clear c18
        try clear c18b0
        try clear c18b1
        try clear c18b2
        try clear c19
        try clear c19b0
        try clear c19b1
        try clear c19b2
        try clear c20
        try clear c20b0
        try clear c20b1
        try clear c20b2
        try clear c21
        try clear c21b0
        try clear c21b1
        try clear c21b2
        try clear c22
        try clear c22b0
        try clear c22b1
        try clear c25
        try clear c26
        try clear c26b0
        try clear c26b1
        try clear p26
        try clear q26
        try clear hx26
        try clear c27
        try clear p27
        try clear q27
        try clear hx27
        try clear c28
        try clear p28
        try clear q28
        try clear hx28
        try clear c29
        try clear c29b0
        try clear c30
        try clear c30b0
        try clear c31
        try clear c31b0
        try clear c35
        try clear c35b0
        try clear c36
        try clear c36b0
        try clear c36b1
        try clear hcz11_0
        try clear hcz11_1
        try clear hcz13_0
        try clear hcz13_1
        try clear hcz34_0
        try clear hcz34_1
        try clear hcz38_0
        try clear hcz38_1
        try clear hcz40_0
        try clear hcz40_1
        try clear hfz11_0
        try clear hfz11_1
        try clear hfz13_0
        try clear hfz13_1
        try clear hfz34_0
        try clear hfz34_1
        try clear hfz38_0
        try clear hfz38_1
        try clear hfz40_0
        try clear hfz40_1
        try clear hx269_0
        try clear hx269_1
        try clear hx272_0
        try clear hx277_0
        try clear hx277_1
        try clear hx279_0
        try clear hx279_1
        try clear hx280_0
        try clear hx280_1
        try clear p2
        try clear p26
        try clear p269
        try clear p27
        try clear p272
        try clear p277
        try clear p279
        try clear p280
        try clear p6
        try clear q2
        try clear q26
        try clear q269
        try clear q27
        try clear q272
        try clear q277
        try clear q279
        try clear q280
        obtain ⟨kq, x92_31, rfl, HA, HJ31, HO_8, BK278, HB⟩ := hcut
        cases kq with
        | zero => exact absurd HA.out (by simp [impl_ShowFlow.j4])
        | succ kj31 =>
         have H := HA.out
         clear HA
         simp only [impl_ShowFlow.j4] at H
         by_cases c41 : x92_31 = true
         ·subst c41
          have H1 : (some (⟨#[]⟩ : ByteArray)) = some r := by rw [if_pos rfl] at H; exact H
          clear H
          have H := H1
          clear H1
          obtain rfl := Option.some.inj H
          go_wp2
          repeat (go_quiet (fail); try go_wp2)
          go_ret
          exact ⟨tZC, bZ⟩
         replace c41 := Bool.eq_false_iff.mpr c41
         subst c41
         have H1 : (impl_ShowFlow.l3 kj31 x3_1 t273 x68_3 l0 (l0.length : Int) x68_3 ((rd_T119 l0 x68_3).f1) (((rd_T119 l0 x68_3).f1).length : Int) 0) = some r := by rw [if_neg (show ¬ (false = true) by decide)] at H; exact H
         clear H
         have H := H1
         clear H1
         have H' := Aside0.mk H
         clear H
         have hcz42_0 : wc.cell? ⟨gb278, 0, none⟩ = some (.int .i64 ((rd_T119 l0 x68_3).f0)) := (blk_cell BK278.out 0).trans rfl
         have hcz42_1 : wc.cell? ⟨gb278, 1, none⟩ = some (.slice A277_1 ((rd_T119 l0 x68_3).f1).length c277_1) := (blk_cell BK278.out 1).trans rfl
         have hfz42_0 := blk_frozen BK278.out 0
         have hfz42_1 := blk_frozen BK278.out 1
         go_wp2
         repeat (go_quiet (fail); try go_wp2)
         go_loopg [96] kj31 (fun kq v96 w' => ∃ (x96_5 : Int), v96 = .int .i64 x96_5 ∧ Aside0 (impl_ShowFlow.l3 kq x3_1 t273 x68_3 l0 (l0.length : Int) x68_3 ((rd_T119 l0 x68_3).f1) (((rd_T119 l0 x68_3).f1).length : Int) x96_5 = some r) ∧ Aside0 (kq ≤ kj31) ∧ Aside0 (Kd.S k119 119 w' w.heap.size (fun k_ => k_ ≠ gb278) v275 t273) ∧ Aside0 (w'.heap[gb278]? = some (.cells #[.int .i64 ((rd_T119 l0 x68_3).f0), (.slice A277_1 ((rd_T119 l0 x68_3).f1).length c277_1)] 119 (0, 0))) ∧ Aside0 (Below w.heap.size w w'))
         case atStart => exact ⟨(0), tZB, H', ⟨Nat.le_refl _⟩, ⟨lZS HO_8.out⟩, ⟨bkZ BK278.out⟩, ⟨bZ⟩⟩
         case round =>
          clear H'
          try clear c1
          try clear c2
          try clear c2b0
          try clear c2b1
          try clear p2
          try clear q2
          try clear hx2
          try clear c3
          try clear c3b0
          try clear c4
          try clear c4b0
          try clear c5
          try clear c5b0
          try clear p6
          try clear c7
          try clear c7b0
          try clear c7b1
          try clear c7b2
          try clear c8
          try clear c8b0
          try clear c8b1
          try clear c8b2
          try clear c9
          try clear c9b0
          try clear c9b1
          try clear c9b2
          try clear c14
          try clear c14b0
          try clear c15
          try clear c15b0
          try clear c16
          try clear c16b0
          try clear c17
          try clear c17b0
          try clear c18
          try clear c18b0
          try clear c18b1
          try clear c18b2
          try clear c19
          try clear c19b0
          try clear c19b1
          try clear c19b2
          try clear c20
          try clear c20b0
          try clear c20b1
          try clear c20b2
          try clear c21
          try clear c21b0
          try clear c21b1
          try clear c21b2
          try clear c22
          try clear c22b0
          try clear c22b1
          try clear c25
          try clear c26
          try clear c26b0
          try clear c26b1
          try clear p26
          try clear q26
          try clear hx26
          try clear c27
          try clear p27
          try clear q27
          try clear hx27
          try clear c28
          try clear p28
          try clear q28
          try clear hx28
          try clear c29
          try clear c29b0
          try clear c30
          try clear c30b0
          try clear c31
          try clear c31b0
          try clear c35
          try clear c35b0
          try clear c36
          try clear c36b0
          try clear c36b1
          try clear c41
          try clear hcz11_0
          try clear hcz11_1
          try clear hcz13_0
          try clear hcz13_1
          try clear hcz34_0
          try clear hcz34_1
          try clear hcz38_0
          try clear hcz38_1
          try clear hcz40_0
          try clear hcz40_1
          try clear hcz42_0
          try clear hcz42_1
          try clear hfz11_0
          try clear hfz11_1
          try clear hfz13_0
          try clear hfz13_1
          try clear hfz34_0
          try clear hfz34_1
          try clear hfz38_0
          try clear hfz38_1
          try clear hfz40_0
          try clear hfz40_1
          try clear hfz42_0
          try clear hfz42_1
          try clear hx269_0
          try clear hx269_1
          try clear hx272_0
          try clear hx277_0
          try clear hx277_1
          try clear hx279_0
          try clear hx279_1
          try clear hx280_0
          try clear hx280_1
          try clear p2
          try clear p26
          try clear p269
          try clear p27
          try clear p272
          try clear p277
          try clear p279
          try clear p28
          try clear p280
          try clear p6
          try clear q2
          try clear q26
          try clear q269
          try clear q27
          try clear q272
          try clear q277
          try clear q279
          try clear q28
          try clear q280
          obtain ⟨x96_5, rfl, HA, HK5, HO_8, BK278, HB⟩ := hrel
          cases gk with
          | zero => exact absurd HA.out (by simp [impl_ShowFlow.l3])
          | succ k5 =>
           have H := HA.out
           clear HA
           simp only [impl_ShowFlow.l3] at H
           by_cases c43 : x96_5 < (((rd_T119 l0 x68_3).f1).length : Int)
           rotate_left
           ·rw [if_neg c43] at H
            have c43b0 := decide_eq_false c43
            clear c43
            have H' := Aside0.mk H
            clear H
            go_wp2
            repeat (go_quiet (fail); try go_wp2)
            go_roundg k5
            case measure => have := HK1.out; have := HJ23.out; have := HK3.out; have := HJ31.out; have := HK5.out; omega
            case rel => exact ⟨(wrap64 (x68_3 + 1)), tZB, H', ⟨by have := HK1.out; have := HJ23.out; have := HK3.out; have := HJ31.out; have := HK5.out; omega⟩, ⟨by (with_reducible repeat (first | apply Kd.S_alloc | apply Kd.S_drewN | apply Kd.S_drew)); exact Kd.S_mono HO_8.out (fun _ hk => trivial)⟩, ⟨bZ⟩⟩
           rw [if_pos c43] at H
           have c43b0 := decide_eq_true c43
           clear c43
           by_cases c44 : 0 ≤ x96_5
           rotate_left
           ·rw [if_neg c44] at H
            exact absurd H (by simp)
           rw [if_pos c44] at H
           have c44b0 := decide_eq_true c44
           clear c44
           by_cases c45 : x96_5 < (((rd_T119 l0 x68_3).f1).length : Int)
           rotate_left
           ·rw [if_neg c45] at H
            exact absurd H (by simp)
           rw [if_pos c45] at H
           have c45b0 := decide_eq_true c45
           clear c45
           by_cases c46 : 0 ≤ x68_3
           rotate_left
           ·rw [if_neg c46] at H
            exact absurd H (by simp)
           rw [if_pos c46] at H
           have c46b0 := decide_eq_true c46
           clear c46
           by_cases c47 : x68_3 < (t273.length : Int)
           rotate_left
           ·rw [if_neg c47] at H
            exact absurd H (by simp)
           rw [if_pos c47] at H
           have c47b0 := decide_eq_true c47
           clear c47
           by_cases c48 : x96_5 < (((rd_T119 t273 x68_3).f1).length : Int)
           rotate_left
           ·rw [if_neg c48] at H
            exact absurd H (by simp)
           rw [if_pos c48] at H
           have c48b0 := decide_eq_true c48
           clear c48
           by_cases c49 : (rdOf ByteArray.empty ((rd_T119 t273 x68_3).f1) x96_5).toList = (rdOf ByteArray.empty ((rd_T119 l0 x68_3).f1) x96_5).toList
           rotate_left
           ·rw [if_neg c49] at H
            have c49b0 : ((rdOf ByteArray.empty ((rd_T119 t273 x68_3).f1) x96_5).toList == (rdOf ByteArray.empty ((rd_T119 l0 x68_3).f1) x96_5).toList) = false := beq_eq_false_iff_ne.mpr c49
            have c49b1 : ((rdOf ByteArray.empty ((rd_T119 t273 x68_3).f1) x96_5).toList != (rdOf ByteArray.empty ((rd_T119 l0 x68_3).f1) x96_5).toList) = true := bne_iff_ne.mpr c49
            obtain rfl := Option.some.inj H
            have p281 : 0 ≤ (x96_5 : Int) := of_decide_eq_true tZE
            have q281 : x96_5 < (((rd_T119 l0 x68_3).f1).length : Int) := of_decide_eq_true tZE
            obtain ⟨ad281, e281, hx281_0⟩ := Kd.at_string HR277_1.out x96_5 p281 q281
            cases e281
            replace hx281_0 := cZ HB hx281_0
            replace p281 := eq_true p281
            replace q281 := eq_true q281
            obtain ⟨Ao51, co51, eo51⟩ := Kd.S_slice HO_8.out
            subst eo51
            have p282 : 0 ≤ (x68_3 : Int) := of_decide_eq_true tZE
            have q282 : x68_3 < (t273.length : Int) := of_decide_eq_true tZE
            obtain ⟨ad282, A282_1, c282_1, e282, hx282_0, hx282_1, hl282_1, hi282_1⟩ := at_T119 (Kd.S_reads' HO_8.out).2.2 x68_3 p282 q282
            cases e282
            obtain ⟨ce282, hce282, hMe282, hcc282⟩ := Kd.S_get HO_8.out z119 x68_3 p282 (by first | exact q282 | exact of_decide_eq_true tZE | (have e_ := (Kd.S_reads' HO_8.out).1; omega))
            obtain ⟨ve282_1, rfl, ge282_1⟩ := k119_openM hMe282
            have hv282_1 := hcc282 1 _ rfl
            rw [add_field _ _ 1 (by omega)] at hv282_1
            replace hv282_1 := Option.some.inj (hv282_1.symm.trans hx282_1)
            rw [hv282_1] at ge282_1
            have HL282_1 := aZ (show Kd.R Kd.string 9 _ _ _ _ ((rd_T119 t273 x68_3).f1) from ge282_1)
            clear hv282_1 ge282_1
            clear hcc282 hce282
            have HR282_1 := Aside0.mk hi282_1
            have HC282_1 := Aside0.mk hl282_1
            clear hi282_1 hl282_1
            replace p282 := eq_true p282
            replace q282 := eq_true q282
            have p283 : 0 ≤ (x96_5 : Int) := of_decide_eq_true tZE
            have q283 : x96_5 < (((rd_T119 t273 x68_3).f1).length : Int) := of_decide_eq_true tZE
            obtain ⟨ad283, e283, hx283_0⟩ := Kd.at_string (by repeat (first | (with_reducible exact HR282_1.out) | (with_reducible refine Kd.C_alloc ?_ _) | (with_reducible refine Kd.C_drewN ?_ _) | (with_reducible refine Kd.C_drew ?_) | exact HR282_1.out)) x96_5 p283 q283
            cases e283
            replace p283 := eq_true p283
            replace q283 := eq_true q283
            go_wp2
            repeat (go_quiet (fail); try go_wp2)
            go_ret
            exact ⟨tZC, bZ⟩
           rw [if_pos c49] at H
           have c49b0 : ((rdOf ByteArray.empty ((rd_T119 t273 x68_3).f1) x96_5).toList == (rdOf ByteArray.empty ((rd_T119 l0 x68_3).f1) x96_5).toList) = true := beq_iff_eq.mpr c49
           have c49b1 : ((rdOf ByteArray.empty ((rd_T119 t273 x68_3).f1) x96_5).toList != (rdOf ByteArray.empty ((rd_T119 l0 x68_3).f1) x96_5).toList) = false := bne_eq_false_iff_eq.mpr c49
           clear c49
           have H' := Aside0.mk H
           clear H
           have p281 : 0 ≤ (x96_5 : Int) := of_decide_eq_true tZE
           have q281 : x96_5 < (((rd_T119 l0 x68_3).f1).length : Int) := of_decide_eq_true tZE
           obtain ⟨ad281, e281, hx281_0⟩ := Kd.at_string HR277_1.out x96_5 p281 q281
           cases e281
           replace hx281_0 := cZ HB hx281_0
           replace p281 := eq_true p281
           replace q281 := eq_true q281
           obtain ⟨Ao50, co50, eo50⟩ := Kd.S_slice HO_8.out
           subst eo50
           have p282 : 0 ≤ (x68_3 : Int) := of_decide_eq_true tZE
           have q282 : x68_3 < (t273.length : Int) := of_decide_eq_true tZE
           obtain ⟨ad282, A282_1, c282_1, e282, hx282_0, hx282_1, hl282_1, hi282_1⟩ := at_T119 (Kd.S_reads' HO_8.out).2.2 x68_3 p282 q282
           cases e282
           obtain ⟨ce282, hce282, hMe282, hcc282⟩ := Kd.S_get HO_8.out z119 x68_3 p282 (by first | exact q282 | exact of_decide_eq_true tZE | (have e_ := (Kd.S_reads' HO_8.out).1; omega))
           obtain ⟨ve282_1, rfl, ge282_1⟩ := k119_openM hMe282
           have hv282_1 := hcc282 1 _ rfl
           rw [add_field _ _ 1 (by omega)] at hv282_1
           replace hv282_1 := Option.some.inj (hv282_1.symm.trans hx282_1)
           rw [hv282_1] at ge282_1
           have HL282_1 := aZ (show Kd.R Kd.string 9 _ _ _ _ ((rd_T119 t273 x68_3).f1) from ge282_1)
           clear hv282_1 ge282_1
           clear hcc282 hce282
           have HR282_1 := Aside0.mk hi282_1
           have HC282_1 := Aside0.mk hl282_1
           clear hi282_1 hl282_1
           replace p282 := eq_true p282
           replace q282 := eq_true q282
           have p283 : 0 ≤ (x96_5 : Int) := of_decide_eq_true tZE
           have q283 : x96_5 < (((rd_T119 t273 x68_3).f1).length : Int) := of_decide_eq_true tZE
           obtain ⟨ad283, e283, hx283_0⟩ := Kd.at_string (by repeat (first | (with_reducible exact HR282_1.out) | (with_reducible refine Kd.C_alloc ?_ _) | (with_reducible refine Kd.C_drewN ?_ _) | (with_reducible refine Kd.C_drew ?_) | exact HR282_1.out)) x96_5 p283 q283
           cases e283
           replace p283 := eq_true p283
           replace q283 := eq_true q283
           go_wp2
           repeat (go_quiet (fail); try go_wp2)
           go_roundg k5
           case measure => have := HK1.out; have := HJ23.out; have := HK3.out; have := HJ31.out; have := HK5.out; omega
           case rel => exact ⟨(wrap64 (x96_5 + 1)), tZB, H', ⟨by have := HK1.out; have := HJ23.out; have := HK3.out; have := HJ31.out; have := HK5.out; omega⟩, ⟨lZS HO_8.out⟩, ⟨bkZ BK278.out⟩, ⟨bZ⟩⟩
end Go.Proofs.Ytjnmfadnkbflfaa.PFnExactNeeded
