import Derived.Test.YtfkakbpjddgmeaaFPFnFlowBackx0
import Derived.Test.YtfkakbpjddgmeaaFPFnFlowBackx3
import Derived.Test.YtfkakbpjddgmeaaFPFnFlowBackx4
import Derived.Test.YtfkakbpjddgmeaaFSlimWords
namespace Go.Proofs.Ytfkakbpjddgmeaa.PFnFlowBack
open Go.Proofs.Ytfkakbpjddgmeaa.SlimWords
open Go.RowKit Go.Proofs.YtfkakbpjddgmeaaW.PrintWords Go.Proofs.YtfkakbpjddgmeaaW.PrintLast Go.Proofs.YtfkakbpjddgmeaaW.PrintMore Go.Proofs.Ytfkakbpjddgmeaa.MapWords Go.Proofs.Ytfkakbpjddgmeaa.IterWords Go.Proofs.Ytfkakbpjddgmeaa.MarkWords
attribute [local go_sem] max2_int min2_int max_two min_two max_three min_three max_four min_four
set_option linter.unusedVariables false
set_option linter.unusedSimpArgs false
mutual
def impl_ReadMoney.j0 : Nat → ByteArray → Int → Int → Int → Bool → Option (Int × Bool)
  | 0, _, _, _, _, _ => none
  | k + 1, x0, x1, x6, x7, x25 => if x25 = true then (impl_ReadMoney.j1 k x0 x1 (-1) 1) else (impl_ReadMoney.j1 k x0 x1 x6 x7)
def impl_ReadMoney.j1 : Nat → ByteArray → Int → Int → Int → Option (Int × Bool)
  | 0, _, _, _, _ => none
  | k + 1, x0, x1, x6, x7 => (impl_digits.f k x0 x7).bind fun bt261 => (if bt261.2 = x7 then (impl_ReadMoney.j2 k x0 x1 x6 bt261.1 bt261.2 true) else (if (wrap64 (bt261.2 - x7)) > 12 then (impl_ReadMoney.j2 k x0 x1 x6 bt261.1 bt261.2 true) else (if (wrap64 (bt261.2 - x7)) > 1 then (if 0 ≤ x7 then (if x7 < (x0.size : Int) then (impl_ReadMoney.j2 k x0 x1 x6 bt261.1 bt261.2 ((bt x0 x7) == 48)) else (none)) else (none)) else (impl_ReadMoney.j2 k x0 x1 x6 bt261.1 bt261.2 false))))
def impl_ReadMoney.j2 : Nat → ByteArray → Int → Int → Int → Int → Bool → Option (Int × Bool)
  | 0, _, _, _, _, _, _ => none
  | k + 1, x0, x1, x6, x8, x9, x52 => if x52 = true then (some (0, false)) else (if x9 < (x0.size : Int) then (if 0 ≤ x9 then (if (bt x0 x9) = 46 then (impl_ReadMoney.j3 k x0 x1 x6 x8 x9 (x1 == 0)) else (impl_ReadMoney.j3 k x0 x1 x6 x8 x9 true)) else (none)) else (impl_ReadMoney.j6 k x1 x6 x8 0))
def impl_ReadMoney.j6 : Nat → Int → Int → Int → Int → Option (Int × Bool)
  | 0, _, _, _, _ => none
  | k + 1, x1, x6, x8, x10 => impl_ReadMoney.l1 k x1 x6 x8 x10
def impl_ReadMoney.l1 : Nat → Int → Int → Int → Int → Option (Int × Bool)
  | 0, _, _, _, _ => none
  | k + 1, x1, x6, x8, x10 => if x10 < x1 then (impl_ReadMoney.l1 k x1 x6 (wrap64 (x8 * 10)) (wrap64 (x10 + 1))) else (if x8 > 100000000000 then (some (0, false)) else (if x8 = 0 then (if x6 < 0 then (some (0, false)) else (some (wrap64 (x6 * x8), true))) else (some (wrap64 (x6 * x8), true))))
def impl_ReadMoney.j3 : Nat → ByteArray → Int → Int → Int → Int → Bool → Option (Int × Bool)
  | 0, _, _, _, _, _, _ => none
  | k + 1, x0, x1, x6, x8, x9, x64 => if x64 = true then (some (0, false)) else ((impl_digits.f k x0 (wrap64 (x9 + 1))).bind fun bt263 => (if (wrap64 (bt263.2 - (wrap64 (x9 + 1)))) < 1 then (impl_ReadMoney.j4 k x1 x6 x8 (wrap64 (bt263.2 - (wrap64 (x9 + 1)))) bt263.1 true) else (if (wrap64 (bt263.2 - (wrap64 (x9 + 1)))) > x1 then (impl_ReadMoney.j4 k x1 x6 x8 (wrap64 (bt263.2 - (wrap64 (x9 + 1)))) bt263.1 true) else (impl_ReadMoney.j4 k x1 x6 x8 (wrap64 (bt263.2 - (wrap64 (x9 + 1)))) bt263.1 (bt263.2 != (x0.size : Int))))))
def impl_ReadMoney.j4 : Nat → Int → Int → Int → Int → Int → Bool → Option (Int × Bool)
  | 0, _, _, _, _, _, _ => none
  | k + 1, x1, x6, x8, x10, x12, x88 => if x88 = true then (some (0, false)) else (impl_ReadMoney.l0 k x1 x6 x8 x10 x12 0)
def impl_ReadMoney.l0 : Nat → Int → Int → Int → Int → Int → Int → Option (Int × Bool)
  | 0, _, _, _, _, _, _ => none
  | k + 1, x1, x6, x8, x10, x12, x14 => if x14 < x10 then (impl_ReadMoney.l0 k x1 x6 (wrap64 (x8 * 10)) x10 x12 (wrap64 (x14 + 1))) else (impl_ReadMoney.j6 k x1 x6 (wrap64 (x8 + x12)) x10)
end
def impl_ReadMoney.f (k : Nat) (a0 : ByteArray) (a1 : Int) : Option (Int × Bool) := (impl_between.f a1 0 6).bind fun t260 => (if t260 = true then (if (a0.size : Int) > 0 then (if 0 < (a0.size : Int) then (impl_ReadMoney.j0 k a0 a1 1 0 ((bt a0 0) == 45)) else (none)) else (impl_ReadMoney.j0 k a0 a1 1 0 false)) else (some (0, false)))
theorem impl_ReadMoney.mono_l : ∀ k, (∀ y0 y1 y2 y3 y4, LeO (impl_ReadMoney.j0 k y0 y1 y2 y3 y4) (impl_ReadMoney.j0 (k + 1) y0 y1 y2 y3 y4)) ∧ (∀ y0 y1 y2 y3, LeO (impl_ReadMoney.j1 k y0 y1 y2 y3) (impl_ReadMoney.j1 (k + 1) y0 y1 y2 y3)) ∧ (∀ y0 y1 y2 y3 y4 y5, LeO (impl_ReadMoney.j2 k y0 y1 y2 y3 y4 y5) (impl_ReadMoney.j2 (k + 1) y0 y1 y2 y3 y4 y5)) ∧ (∀ y0 y1 y2 y3, LeO (impl_ReadMoney.j6 k y0 y1 y2 y3) (impl_ReadMoney.j6 (k + 1) y0 y1 y2 y3)) ∧ (∀ y0 y1 y2 y3, LeO (impl_ReadMoney.l1 k y0 y1 y2 y3) (impl_ReadMoney.l1 (k + 1) y0 y1 y2 y3)) ∧ (∀ y0 y1 y2 y3 y4 y5, LeO (impl_ReadMoney.j3 k y0 y1 y2 y3 y4 y5) (impl_ReadMoney.j3 (k + 1) y0 y1 y2 y3 y4 y5)) ∧ (∀ y0 y1 y2 y3 y4 y5, LeO (impl_ReadMoney.j4 k y0 y1 y2 y3 y4 y5) (impl_ReadMoney.j4 (k + 1) y0 y1 y2 y3 y4 y5)) ∧ (∀ y0 y1 y2 y3 y4 y5, LeO (impl_ReadMoney.l0 k y0 y1 y2 y3 y4 y5) (impl_ReadMoney.l0 (k + 1) y0 y1 y2 y3 y4 y5))
  | 0 => ⟨fun _ _ _ _ _ r h => by simp [impl_ReadMoney.j0] at h, fun _ _ _ _ r h => by simp [impl_ReadMoney.j1] at h, fun _ _ _ _ _ _ r h => by simp [impl_ReadMoney.j2] at h, fun _ _ _ _ r h => by simp [impl_ReadMoney.j6] at h, fun _ _ _ _ r h => by simp [impl_ReadMoney.l1] at h, fun _ _ _ _ _ _ r h => by simp [impl_ReadMoney.j3] at h, fun _ _ _ _ _ _ r h => by simp [impl_ReadMoney.j4] at h, fun _ _ _ _ _ _ r h => by simp [impl_ReadMoney.l0] at h⟩
  | k + 1 => by
    obtain ⟨ih0, ih1, ih2, ih3, ih4, ih5, ih6, ih7⟩ := impl_ReadMoney.mono_l k
    refine ⟨?_, ?_, ?_, ?_, ?_, ?_, ?_, ?_⟩
    · intro y0 y1 y2 y3 y4
      unfold impl_ReadMoney.j0
      repeat' first
      | (with_reducible exact ih0 _ _ _ _ _)
      | (with_reducible exact ih1 _ _ _ _)
      | (with_reducible exact ih2 _ _ _ _ _ _)
      | (with_reducible exact ih3 _ _ _ _)
      | (with_reducible exact ih4 _ _ _ _)
      | (with_reducible exact ih5 _ _ _ _ _ _)
      | (with_reducible exact ih6 _ _ _ _ _ _)
      | (with_reducible exact ih7 _ _ _ _ _ _)
      | (with_reducible exact impl_digits.mono _ _ _)
      | (with_reducible exact LeO.refl _)
      | (with_reducible exact LeO.none _)
      | (with_reducible refine LeO.ite ?_ ?_)
      | (with_reducible refine LeO.bind ?_ (fun _ => ?_))
      | exact ih0 _ _ _ _ _
      | exact ih1 _ _ _ _
      | exact ih2 _ _ _ _ _ _
      | exact ih3 _ _ _ _
      | exact ih4 _ _ _ _
      | exact ih5 _ _ _ _ _ _
      | exact ih6 _ _ _ _ _ _
      | exact ih7 _ _ _ _ _ _
      | exact impl_digits.mono _ _ _
      | exact LeO.none _
      | refine LeO.ite ?_ ?_
      | refine LeO.bind ?_ (fun _ => ?_)
    · intro y0 y1 y2 y3
      unfold impl_ReadMoney.j1
      repeat' first
      | (with_reducible exact ih0 _ _ _ _ _)
      | (with_reducible exact ih1 _ _ _ _)
      | (with_reducible exact ih2 _ _ _ _ _ _)
      | (with_reducible exact ih3 _ _ _ _)
      | (with_reducible exact ih4 _ _ _ _)
      | (with_reducible exact ih5 _ _ _ _ _ _)
      | (with_reducible exact ih6 _ _ _ _ _ _)
      | (with_reducible exact ih7 _ _ _ _ _ _)
      | (with_reducible exact impl_digits.mono _ _ _)
      | (with_reducible exact LeO.refl _)
      | (with_reducible exact LeO.none _)
      | (with_reducible refine LeO.ite ?_ ?_)
      | (with_reducible refine LeO.bind ?_ (fun _ => ?_))
      | exact ih0 _ _ _ _ _
      | exact ih1 _ _ _ _
      | exact ih2 _ _ _ _ _ _
      | exact ih3 _ _ _ _
      | exact ih4 _ _ _ _
      | exact ih5 _ _ _ _ _ _
      | exact ih6 _ _ _ _ _ _
      | exact ih7 _ _ _ _ _ _
      | exact impl_digits.mono _ _ _
      | exact LeO.none _
      | refine LeO.ite ?_ ?_
      | refine LeO.bind ?_ (fun _ => ?_)
    · intro y0 y1 y2 y3 y4 y5
      unfold impl_ReadMoney.j2
      repeat' first
      | (with_reducible exact ih0 _ _ _ _ _)
      | (with_reducible exact ih1 _ _ _ _)
      | (with_reducible exact ih2 _ _ _ _ _ _)
      | (with_reducible exact ih3 _ _ _ _)
      | (with_reducible exact ih4 _ _ _ _)
      | (with_reducible exact ih5 _ _ _ _ _ _)
      | (with_reducible exact ih6 _ _ _ _ _ _)
      | (with_reducible exact ih7 _ _ _ _ _ _)
      | (with_reducible exact impl_digits.mono _ _ _)
      | (with_reducible exact LeO.refl _)
      | (with_reducible exact LeO.none _)
      | (with_reducible refine LeO.ite ?_ ?_)
      | (with_reducible refine LeO.bind ?_ (fun _ => ?_))
      | exact ih0 _ _ _ _ _
      | exact ih1 _ _ _ _
      | exact ih2 _ _ _ _ _ _
      | exact ih3 _ _ _ _
      | exact ih4 _ _ _ _
      | exact ih5 _ _ _ _ _ _
      | exact ih6 _ _ _ _ _ _
      | exact ih7 _ _ _ _ _ _
      | exact impl_digits.mono _ _ _
      | exact LeO.none _
      | refine LeO.ite ?_ ?_
      | refine LeO.bind ?_ (fun _ => ?_)
    · intro y0 y1 y2 y3
      unfold impl_ReadMoney.j6
      repeat' first
      | (with_reducible exact ih0 _ _ _ _ _)
      | (with_reducible exact ih1 _ _ _ _)
      | (with_reducible exact ih2 _ _ _ _ _ _)
      | (with_reducible exact ih3 _ _ _ _)
      | (with_reducible exact ih4 _ _ _ _)
      | (with_reducible exact ih5 _ _ _ _ _ _)
      | (with_reducible exact ih6 _ _ _ _ _ _)
      | (with_reducible exact ih7 _ _ _ _ _ _)
      | (with_reducible exact impl_digits.mono _ _ _)
      | (with_reducible exact LeO.refl _)
      | (with_reducible exact LeO.none _)
      | (with_reducible refine LeO.ite ?_ ?_)
      | (with_reducible refine LeO.bind ?_ (fun _ => ?_))
      | exact ih0 _ _ _ _ _
      | exact ih1 _ _ _ _
      | exact ih2 _ _ _ _ _ _
      | exact ih3 _ _ _ _
      | exact ih4 _ _ _ _
      | exact ih5 _ _ _ _ _ _
      | exact ih6 _ _ _ _ _ _
      | exact ih7 _ _ _ _ _ _
      | exact impl_digits.mono _ _ _
      | exact LeO.none _
      | refine LeO.ite ?_ ?_
      | refine LeO.bind ?_ (fun _ => ?_)
    · intro y0 y1 y2 y3
      unfold impl_ReadMoney.l1
      repeat' first
      | (with_reducible exact ih0 _ _ _ _ _)
      | (with_reducible exact ih1 _ _ _ _)
      | (with_reducible exact ih2 _ _ _ _ _ _)
      | (with_reducible exact ih3 _ _ _ _)
      | (with_reducible exact ih4 _ _ _ _)
      | (with_reducible exact ih5 _ _ _ _ _ _)
      | (with_reducible exact ih6 _ _ _ _ _ _)
      | (with_reducible exact ih7 _ _ _ _ _ _)
      | (with_reducible exact impl_digits.mono _ _ _)
      | (with_reducible exact LeO.refl _)
      | (with_reducible exact LeO.none _)
      | (with_reducible refine LeO.ite ?_ ?_)
      | (with_reducible refine LeO.bind ?_ (fun _ => ?_))
      | exact ih0 _ _ _ _ _
      | exact ih1 _ _ _ _
      | exact ih2 _ _ _ _ _ _
      | exact ih3 _ _ _ _
      | exact ih4 _ _ _ _
      | exact ih5 _ _ _ _ _ _
      | exact ih6 _ _ _ _ _ _
      | exact ih7 _ _ _ _ _ _
      | exact impl_digits.mono _ _ _
      | exact LeO.none _
      | refine LeO.ite ?_ ?_
      | refine LeO.bind ?_ (fun _ => ?_)
    · intro y0 y1 y2 y3 y4 y5
      unfold impl_ReadMoney.j3
      repeat' first
      | (with_reducible exact ih0 _ _ _ _ _)
      | (with_reducible exact ih1 _ _ _ _)
      | (with_reducible exact ih2 _ _ _ _ _ _)
      | (with_reducible exact ih3 _ _ _ _)
      | (with_reducible exact ih4 _ _ _ _)
      | (with_reducible exact ih5 _ _ _ _ _ _)
      | (with_reducible exact ih6 _ _ _ _ _ _)
      | (with_reducible exact ih7 _ _ _ _ _ _)
      | (with_reducible exact impl_digits.mono _ _ _)
      | (with_reducible exact LeO.refl _)
      | (with_reducible exact LeO.none _)
      | (with_reducible refine LeO.ite ?_ ?_)
      | (with_reducible refine LeO.bind ?_ (fun _ => ?_))
      | exact ih0 _ _ _ _ _
      | exact ih1 _ _ _ _
      | exact ih2 _ _ _ _ _ _
      | exact ih3 _ _ _ _
      | exact ih4 _ _ _ _
      | exact ih5 _ _ _ _ _ _
      | exact ih6 _ _ _ _ _ _
      | exact ih7 _ _ _ _ _ _
      | exact impl_digits.mono _ _ _
      | exact LeO.none _
      | refine LeO.ite ?_ ?_
      | refine LeO.bind ?_ (fun _ => ?_)
    · intro y0 y1 y2 y3 y4 y5
      unfold impl_ReadMoney.j4
      repeat' first
      | (with_reducible exact ih0 _ _ _ _ _)
      | (with_reducible exact ih1 _ _ _ _)
      | (with_reducible exact ih2 _ _ _ _ _ _)
      | (with_reducible exact ih3 _ _ _ _)
      | (with_reducible exact ih4 _ _ _ _)
      | (with_reducible exact ih5 _ _ _ _ _ _)
      | (with_reducible exact ih6 _ _ _ _ _ _)
      | (with_reducible exact ih7 _ _ _ _ _ _)
      | (with_reducible exact impl_digits.mono _ _ _)
      | (with_reducible exact LeO.refl _)
      | (with_reducible exact LeO.none _)
      | (with_reducible refine LeO.ite ?_ ?_)
      | (with_reducible refine LeO.bind ?_ (fun _ => ?_))
      | exact ih0 _ _ _ _ _
      | exact ih1 _ _ _ _
      | exact ih2 _ _ _ _ _ _
      | exact ih3 _ _ _ _
      | exact ih4 _ _ _ _
      | exact ih5 _ _ _ _ _ _
      | exact ih6 _ _ _ _ _ _
      | exact ih7 _ _ _ _ _ _
      | exact impl_digits.mono _ _ _
      | exact LeO.none _
      | refine LeO.ite ?_ ?_
      | refine LeO.bind ?_ (fun _ => ?_)
    · intro y0 y1 y2 y3 y4 y5
      unfold impl_ReadMoney.l0
      repeat' first
      | (with_reducible exact ih0 _ _ _ _ _)
      | (with_reducible exact ih1 _ _ _ _)
      | (with_reducible exact ih2 _ _ _ _ _ _)
      | (with_reducible exact ih3 _ _ _ _)
      | (with_reducible exact ih4 _ _ _ _)
      | (with_reducible exact ih5 _ _ _ _ _ _)
      | (with_reducible exact ih6 _ _ _ _ _ _)
      | (with_reducible exact ih7 _ _ _ _ _ _)
      | (with_reducible exact impl_digits.mono _ _ _)
      | (with_reducible exact LeO.refl _)
      | (with_reducible exact LeO.none _)
      | (with_reducible refine LeO.ite ?_ ?_)
      | (with_reducible refine LeO.bind ?_ (fun _ => ?_))
      | exact ih0 _ _ _ _ _
      | exact ih1 _ _ _ _
      | exact ih2 _ _ _ _ _ _
      | exact ih3 _ _ _ _
      | exact ih4 _ _ _ _
      | exact ih5 _ _ _ _ _ _
      | exact ih6 _ _ _ _ _ _
      | exact ih7 _ _ _ _ _ _
      | exact impl_digits.mono _ _ _
      | exact LeO.none _
      | refine LeO.ite ?_ ?_
      | refine LeO.bind ?_ (fun _ => ?_)
theorem impl_ReadMoney.mono : ∀ a0 a1 k, LeO (impl_ReadMoney.f k a0 a1) (impl_ReadMoney.f (k + 1) a0 a1) := by
 intro a0 a1 k
 obtain ⟨ih0, ih1, ih2, ih3, ih4, ih5, ih6, ih7⟩ := impl_ReadMoney.mono_l k
 unfold impl_ReadMoney.f
 repeat' first
     | (with_reducible exact ih0 _ _ _ _ _)
     | (with_reducible exact ih1 _ _ _ _)
     | (with_reducible exact ih2 _ _ _ _ _ _)
     | (with_reducible exact ih3 _ _ _ _)
     | (with_reducible exact ih4 _ _ _ _)
     | (with_reducible exact ih5 _ _ _ _ _ _)
     | (with_reducible exact ih6 _ _ _ _ _ _)
     | (with_reducible exact ih7 _ _ _ _ _ _)
     | (with_reducible exact impl_digits.mono _ _ _)
     | (with_reducible exact LeO.refl _)
     | (with_reducible exact LeO.none _)
     | (with_reducible refine LeO.ite ?_ ?_)
     | (with_reducible refine LeO.bind ?_ (fun _ => ?_))
     | exact ih0 _ _ _ _ _
     | exact ih1 _ _ _ _
     | exact ih2 _ _ _ _ _ _
     | exact ih3 _ _ _ _
     | exact ih4 _ _ _ _
     | exact ih5 _ _ _ _ _ _
     | exact ih6 _ _ _ _ _ _
     | exact ih7 _ _ _ _ _ _
     | exact impl_digits.mono _ _ _
     | exact LeO.none _
     | refine LeO.ite ?_ ?_
     | refine LeO.bind ?_ (fun _ => ?_)
set_option maxHeartbeats 8000000 in
set_option maxRecDepth 100000 in
theorem impl_ReadMoney.calls (k : Nat) (a0 : ByteArray) (a1 : Int) (r1 : Int) (r2 : Bool) (w : World) (h : impl_ReadMoney.f k a0 a1 = some (r1, r2)) :
    Calls Try.prog 79 #[.string a0, .int .i64 a1] w fun e w' => e = .returned (.tuple #[.int .i64 r1, .bool r2]) ∧ Drawn0 w w' := by
 have H : ((impl_between.f a1 0 6).bind fun t260 => (if t260 = true then (if (a0.size : Int) > 0 then (if 0 < (a0.size : Int) then (impl_ReadMoney.j0 k a0 a1 1 0 ((bt a0 0) == 45)) else (none)) else (impl_ReadMoney.j0 k a0 a1 1 0 false)) else (some (0, false)))) = some (r1, r2) := h; clear h; replace H := Option.bind_eq_some_iff.mp H; obtain ⟨t260, A30, H⟩ := H; replace H : (if t260 = true then (if (a0.size : Int) > 0 then (if 0 < (a0.size : Int) then (impl_ReadMoney.j0 k a0 a1 1 0 ((bt a0 0) == 45)) else (none)) else (impl_ReadMoney.j0 k a0 a1 1 0 false)) else (some (0, false))) = some (r1, r2) := H; have A3 := Aside0.mk A30; clear A30
 by_cases c4 : t260 = true
 rotate_left
 ·replace c4 := Bool.eq_false_iff.mpr c4; subst c4; rw [if_neg Bool.false_ne_true] at H; simp only [Option.some.injEq, Prod.mk.injEq] at H; obtain ⟨rfl, rfl⟩ := H; go_enter Try.func79, Try.ntmps79
  go_wp2_with (first | ((with_reducible refine gate_callee (f := 67) rfl ?_); refine goesL_ (some 16) rfl rfl Try.func67 kZ rfl #[.int .i64 a1, .int .i64 0, .int .i64 6] rfl tZA ?_; (with_reducible refine (impl_between.calls a1 0 6 false _ A3.out).mono ?_); rintro e w' ⟨rfl, ⟨nd, rfl⟩⟩; refine ⟨_, rfl, ?_⟩))
  go_ret2; exact ⟨tZB, tZD⟩
 subst c4; rw [if_pos rfl] at H; have HC5 := Aside0.mk H; clear H; go_enter Try.func79, Try.ntmps79
 go_upto_region 4 with (first | ((with_reducible refine gate_callee (f := 67) rfl ?_); refine goesL_ (some 16) rfl rfl Try.func67 kZ rfl #[.int .i64 a1, .int .i64 0, .int .i64 6] rfl tZA ?_; (with_reducible refine (impl_between.calls a1 0 6 true _ A3.out).mono ?_); rintro e w' ⟨rfl, ⟨nd, rfl⟩⟩; refine ⟨_, rfl, ?_⟩))
 (try simp only [Act.put, sZ1, sZ2, sZ3])
 go_cut [25] (fun v25 wc => ∃ (kq : Nat) (x25_4 : Bool), v25 = .bool x25_4 ∧ Aside0 (impl_ReadMoney.j0 kq a0 a1 1 0 x25_4 = some (r1, r2)) ∧ Aside0 (kq ≤ k) ∧ Drawn0 w wc)
 case first =>
  have H := HC5.out; clear HC5
  by_cases c6 : (a0.size : Int) > 0
  rotate_left
  ·rw [if_neg c6] at H; have c6b0 : decide (0 < (a0.size : Int)) = false := decide_eq_false c6; have c6b1 : decide (0 < a0.size) = false := decide_eq_false (by omega); clear c6; (first | rw [c6b0] | (simp only [i64_w, i32_w]; rw [c6b0]) | skip); have H' := Aside0.mk H; clear H; go_wp2; go_meet
   case rel => exact ⟨_, (false), tZB, H', ⟨by first | omega | exact Nat.le_refl _⟩, tZD⟩
  rw [if_pos c6] at H; have c6b0 : decide (0 < (a0.size : Int)) = true := decide_eq_true c6; have c6b1 : decide (0 < a0.size) = true := decide_eq_true (by omega); clear c6; (first | rw [c6b0] | (simp only [i64_w, i32_w]; rw [c6b0]) | skip)
  by_cases c7 : 0 < (a0.size : Int)
  rotate_left
  ·rw [if_neg c7] at H; exact absurd H (by simp)
  rw [if_pos c7] at H; have c7b0 := decide_eq_true c7; have c7b1 : decide (0 < a0.size) = true := decide_eq_true (by omega); clear c7; have H' := Aside0.mk H; clear H; have p8 : 0 ≤ (0 : Int) := (by omega); have q8 : 0 < a0.size := (by have : (0 : Int) < (a0.size : Int) := of_decide_eq_true tZE; omega); have hx8 : ∀ h : 0 < a0.size, ((a0[0]'h).toNat : Int) = bt a0 0 := bt_at a0 0; clear p8; have qi8 : (0 < (a0.size : Int)) = True := eq_true (of_decide_eq_true tZE); replace q8 := eq_true q8; go_wp2; go_meet
  case rel => exact ⟨_, (((bt a0 0) == 45)), tZB, H', ⟨by first | omega | exact Nat.le_refl _⟩, tZD⟩
 case rest =>
  clear HC5; (try clear c4); obtain ⟨kq, x25_4, rfl, HA, HJ4, ⟨mc4, rfl⟩⟩ := hcut
  cases kq with
  | zero => exact absurd HA.out (by simp [impl_ReadMoney.j0])
  | succ kj4 =>
   have H := HA.out; clear HA; simp only [impl_ReadMoney.j0] at H; have HC9 := Aside0.mk H; clear H
   go_upto_if 25 with (fail)
   go_cut [6, 7] (fun v6 v7 wc => ∃ (kq : Nat) (x6_8 : Int) (x7_8 : Int), v6 = .int .i64 x6_8 ∧ v7 = .int .i64 x7_8 ∧ Aside0 (impl_ReadMoney.j1 kq a0 a1 x6_8 x7_8 = some (r1, r2)) ∧ Aside0 (kq ≤ kj4) ∧ Drawn0 w wc)
   case first =>
    have H := HC9.out; clear HC9
    by_cases c10 : x25_4 = true
    ·subst c10; rw [if_pos rfl] at H; have H' := Aside0.mk H; clear H; go_wp2; go_meet
     case rel => exact ⟨_, ((-1)), (1), tZB, tZB, H', ⟨by have := HJ4.out; first | omega | exact Nat.le_refl _⟩, tZD⟩
    replace c10 := Bool.eq_false_iff.mpr c10; subst c10; rw [if_neg Bool.false_ne_true] at H; have H' := Aside0.mk H; clear H; go_wp2; go_meet
    case rel => exact ⟨_, (1), (0), tZB, tZB, H', ⟨by have := HJ4.out; first | omega | exact Nat.le_refl _⟩, tZD⟩
   case rest =>
    clear HC9; (try clear c4); obtain ⟨kq, x6_8, x7_8, rfl, rfl, HA, HJ8, ⟨mc8, rfl⟩⟩ := hcut
    cases kq with
    | zero => exact absurd HA.out (by simp [impl_ReadMoney.j1])
    | succ kj8 =>
     have H := HA.out; clear HA; simp only [impl_ReadMoney.j1] at H; replace H := Option.bind_eq_some_iff.mp H; obtain ⟨⟨t261, t262⟩, A110, H⟩ := H; replace H : (if t262 = x7_8 then (impl_ReadMoney.j2 kj8 a0 a1 x6_8 t261 t262 true) else (if (wrap64 (t262 - x7_8)) > 12 then (impl_ReadMoney.j2 kj8 a0 a1 x6_8 t261 t262 true) else (if (wrap64 (t262 - x7_8)) > 1 then (if 0 ≤ x7_8 then (if x7_8 < (a0.size : Int) then (impl_ReadMoney.j2 kj8 a0 a1 x6_8 t261 t262 ((bt a0 x7_8) == 48)) else (none)) else (none)) else (impl_ReadMoney.j2 kj8 a0 a1 x6_8 t261 t262 false)))) = some (r1, r2) := H; have A11 := Aside0.mk A110; clear A110; have HC12 := Aside0.mk H; clear H
     go_upto_region 7 with (first | ((with_reducible refine gate_callee (f := 91) rfl ?_); refine goesL_ (some 29) rfl rfl Try.func91 kZ rfl #[.string a0, .int .i64 x7_8] rfl tZA ?_; (with_reducible refine (impl_digits.calls kj8 a0 x7_8 t261 t262 _ A11.out).mono ?_); rintro e w' ⟨rfl, ⟨nd, rfl⟩⟩; refine ⟨_, rfl, ?_⟩))
     (try simp only [Act.put, sZ1, sZ2, sZ3])
     go_cut [52] (fun v52 wc => ∃ (kq : Nat) (x52_11 : Bool), v52 = .bool x52_11 ∧ Aside0 (impl_ReadMoney.j2 kq a0 a1 x6_8 t261 t262 x52_11 = some (r1, r2)) ∧ Aside0 (kq ≤ kj8) ∧ Drawn0 w wc)
     case first =>
      have H := HC12.out; clear HC12
      by_cases c13 : t262 = x7_8
      ·rw [if_pos c13] at H; have c13b0 : (t262 == x7_8) = true := beq_iff_eq.mpr c13; have c13b1 : (t262 != x7_8) = false := bne_eq_false_iff_eq.mpr c13; clear c13; (first | rw [c13b0] | (simp only [i64_w, i32_w]; rw [c13b0]) | skip); have H' := Aside0.mk H; clear H; go_wp2; go_meet
       case rel => exact ⟨_, (true), tZB, H', ⟨by have := HJ4.out; have := HJ8.out; first | omega | exact Nat.le_refl _⟩, tZD⟩
      rw [if_neg c13] at H; have c13b0 : (t262 == x7_8) = false := beq_eq_false_iff_ne.mpr c13; have c13b1 : (t262 != x7_8) = true := bne_iff_ne.mpr c13; (first | rw [c13b0] | (simp only [i64_w, i32_w]; rw [c13b0]) | skip)
      by_cases c14 : (wrap64 (t262 - x7_8)) > 12
      ·rw [if_pos c14] at H; have c14b0 : decide (12 < (wrap64 (t262 - x7_8))) = true := decide_eq_true c14; clear c14; have H' := Aside0.mk H; clear H; go_wp2; go_meet
       case rel => exact ⟨_, (true), tZB, H', ⟨by have := HJ4.out; have := HJ8.out; first | omega | exact Nat.le_refl _⟩, tZD⟩
      rw [if_neg c14] at H; have c14b0 : decide (12 < (wrap64 (t262 - x7_8))) = false := decide_eq_false c14; clear c14
      by_cases c15 : (wrap64 (t262 - x7_8)) > 1
      rotate_left
      ·rw [if_neg c15] at H; have c15b0 : decide (1 < (wrap64 (t262 - x7_8))) = false := decide_eq_false c15; clear c15; have H' := Aside0.mk H; clear H; go_wp2; go_meet
       case rel => exact ⟨_, (false), tZB, H', ⟨by have := HJ4.out; have := HJ8.out; first | omega | exact Nat.le_refl _⟩, tZD⟩
      rw [if_pos c15] at H; have c15b0 : decide (1 < (wrap64 (t262 - x7_8))) = true := decide_eq_true c15; clear c15
      by_cases c16 : 0 ≤ x7_8
      rotate_left
      ·rw [if_neg c16] at H; exact absurd H (by simp)
      rw [if_pos c16] at H; have c16b0 := decide_eq_true c16; clear c16
      by_cases c17 : x7_8 < (a0.size : Int)
      rotate_left
      ·rw [if_neg c17] at H; exact absurd H (by simp)
      rw [if_pos c17] at H; have c17b0 := decide_eq_true c17; clear c17; have H' := Aside0.mk H; clear H; have p18 : 0 ≤ (x7_8 : Int) := of_decide_eq_true tZE; have q18 : x7_8 < (a0.size : Int) := of_decide_eq_true tZE; have hx18 := bt_at a0 x7_8; replace p18 := eq_true p18; replace q18 := eq_true q18; go_wp2; go_meet
      case rel => exact ⟨_, (((bt a0 x7_8) == 48)), tZB, H', ⟨by have := HJ4.out; have := HJ8.out; first | omega | exact Nat.le_refl _⟩, tZD⟩
     case rest =>
      clear HC12; (try clear c4); obtain ⟨kq, x52_11, rfl, HA, HJ11, ⟨mc11, rfl⟩⟩ := hcut
      cases kq with
      | zero => exact absurd HA.out (by simp [impl_ReadMoney.j2])
      | succ kj11 =>
       have H := HA.out; clear HA; simp only [impl_ReadMoney.j2] at H
       by_cases c19 : x52_11 = true
       ·subst c19; rw [if_pos rfl] at H; simp only [Option.some.injEq, Prod.mk.injEq] at H; obtain ⟨rfl, rfl⟩ := H; go_wp2; go_ret2; exact ⟨tZB, tZD⟩
       replace c19 := Bool.eq_false_iff.mpr c19; subst c19; rw [if_neg Bool.false_ne_true] at H; have HC20 := Aside0.mk H; clear H
       go_upto_if 56 with (fail)
       go_cut [8, 10] (fun v8 v10 wc => ∃ (kq : Nat) (x8_19 : Int) (x10_19 : Int), v8 = .int .i64 x8_19 ∧ v10 = .int .i64 x10_19 ∧ Aside0 (impl_ReadMoney.j6 kq a1 x6_8 x8_19 x10_19 = some (r1, r2)) ∧ Aside0 (kq ≤ kj11) ∧ Drawn0 w wc)
       case first =>
        have H := HC20.out; clear HC20
        by_cases c21 : t262 < (a0.size : Int)
        rotate_left
        ·rw [if_neg c21] at H; have c21b0 := decide_eq_false c21; clear c21; (first | rw [c21b0] | (simp only [i64_w, i32_w]; rw [c21b0]) | skip); have H' := Aside0.mk H; clear H; go_wp2; go_meet
         case rel => exact ⟨_, (t261), (0), tZB, tZB, H', ⟨by have := HJ4.out; have := HJ8.out; have := HJ11.out; first | omega | exact Nat.le_refl _⟩, tZD⟩
        rw [if_pos c21] at H; have c21b0 := decide_eq_true c21; clear c21; (first | rw [c21b0] | (simp only [i64_w, i32_w]; rw [c21b0]) | skip); have HC22 := Aside0.mk H; clear H
        go_upto_region 11 with (fail)
        go_cut [64] (fun v64 wc => ∃ (kq : Nat) (x64_21 : Bool), v64 = .bool x64_21 ∧ Aside0 (impl_ReadMoney.j3 kq a0 a1 x6_8 t261 t262 x64_21 = some (r1, r2)) ∧ Aside0 (kq ≤ kj11) ∧ Drawn0 w wc)
        case first =>
         have H := HC22.out; clear HC22
         by_cases c23 : 0 ≤ t262
         rotate_left
         ·rw [if_neg c23] at H; exact absurd H (by simp)
         rw [if_pos c23] at H; have c23b0 := decide_eq_true c23; clear c23; (first | rw [c23b0] | (simp only [i64_w, i32_w]; rw [c23b0]) | skip)
         by_cases c25 : (bt a0 t262) = 46
         rotate_left
         ·rw [if_neg c25] at H; have c25b0 : ((bt a0 t262) == 46) = false := beq_eq_false_iff_ne.mpr c25; have c25b1 : ((bt a0 t262) != 46) = true := bne_iff_ne.mpr c25; have H' := Aside0.mk H; clear H; have p24 : 0 ≤ (t262 : Int) := of_decide_eq_true tZE; have q24 : t262 < (a0.size : Int) := of_decide_eq_true tZE; have hx24 := bt_at a0 t262; replace p24 := eq_true p24; replace q24 := eq_true q24; go_wp2; go_meet
          case rel => exact ⟨_, (true), tZB, H', ⟨by have := HJ4.out; have := HJ8.out; have := HJ11.out; first | omega | exact Nat.le_refl _⟩, tZD⟩
         rw [if_pos c25] at H; have c25b0 : ((bt a0 t262) == 46) = true := beq_iff_eq.mpr c25; have c25b1 : ((bt a0 t262) != 46) = false := bne_eq_false_iff_eq.mpr c25; clear c25; have H' := Aside0.mk H; clear H; have p24 : 0 ≤ (t262 : Int) := of_decide_eq_true tZE; have q24 : t262 < (a0.size : Int) := of_decide_eq_true tZE; have hx24 := bt_at a0 t262; replace p24 := eq_true p24; replace q24 := eq_true q24; go_wp2; go_meet
         case rel => exact ⟨_, ((a1 == 0)), tZB, H', ⟨by have := HJ4.out; have := HJ8.out; have := HJ11.out; first | omega | exact Nat.le_refl _⟩, tZD⟩
        case rest =>
         clear HC22; (try clear c4 c19 c21 c21b0); obtain ⟨kq, x64_21, rfl, HA, HJ21, ⟨mc21, rfl⟩⟩ := hcut
         cases kq with
         | zero => exact absurd HA.out (by simp [impl_ReadMoney.j3])
         | succ kj21 =>
          have H := HA.out; clear HA; simp only [impl_ReadMoney.j3] at H
          by_cases c26 : x64_21 = true
          ·subst c26; rw [if_pos rfl] at H; simp only [Option.some.injEq, Prod.mk.injEq] at H; obtain ⟨rfl, rfl⟩ := H; go_wp2; go_ret2; exact ⟨tZB, tZD⟩
          replace c26 := Bool.eq_false_iff.mpr c26; subst c26; rw [if_neg Bool.false_ne_true] at H; replace H := Option.bind_eq_some_iff.mp H; obtain ⟨⟨t263, t264⟩, A270, H⟩ := H; replace H : (if (wrap64 (t264 - (wrap64 (t262 + 1)))) < 1 then (impl_ReadMoney.j4 kj21 a1 x6_8 t261 (wrap64 (t264 - (wrap64 (t262 + 1)))) t263 true) else (if (wrap64 (t264 - (wrap64 (t262 + 1)))) > a1 then (impl_ReadMoney.j4 kj21 a1 x6_8 t261 (wrap64 (t264 - (wrap64 (t262 + 1)))) t263 true) else (impl_ReadMoney.j4 kj21 a1 x6_8 t261 (wrap64 (t264 - (wrap64 (t262 + 1)))) t263 (t264 != (a0.size : Int))))) = some (r1, r2) := H; have A27 := Aside0.mk A270; clear A270; have HC28 := Aside0.mk H; clear H
          go_upto_region 16 with (first | ((with_reducible refine gate_callee (f := 91) rfl ?_); refine goesL_ (some 70) rfl rfl Try.func91 kZ rfl #[.string a0, .int .i64 (wrap64 (t262 + 1))] rfl tZA ?_; (with_reducible refine (impl_digits.calls kj21 a0 (wrap64 (t262 + 1)) t263 t264 _ A27.out).mono ?_); rintro e w' ⟨rfl, ⟨nd, rfl⟩⟩; refine ⟨_, rfl, ?_⟩))
          (try simp only [Act.put, sZ1, sZ2, sZ3])
          go_cut [88] (fun v88 wc => ∃ (kq : Nat) (x88_27 : Bool), v88 = .bool x88_27 ∧ Aside0 (impl_ReadMoney.j4 kq a1 x6_8 t261 (wrap64 (t264 - (wrap64 (t262 + 1)))) t263 x88_27 = some (r1, r2)) ∧ Aside0 (kq ≤ kj21) ∧ Drawn0 w wc)
          case first =>
           have H := HC28.out; clear HC28
           by_cases c29 : (wrap64 (t264 - (wrap64 (t262 + 1)))) < 1
           ·rw [if_pos c29] at H; have c29b0 := decide_eq_true c29; clear c29; (first | rw [c29b0] | (simp only [i64_w, i32_w]; rw [c29b0]) | skip); have H' := Aside0.mk H; clear H; go_wp2; go_meet
            case rel => exact ⟨_, (true), tZB, H', ⟨by have := HJ4.out; have := HJ8.out; have := HJ11.out; have := HJ21.out; first | omega | exact Nat.le_refl _⟩, tZD⟩
           rw [if_neg c29] at H; have c29b0 := decide_eq_false c29; clear c29; (first | rw [c29b0] | (simp only [i64_w, i32_w]; rw [c29b0]) | skip)
           by_cases c30 : (wrap64 (t264 - (wrap64 (t262 + 1)))) > a1
           ·rw [if_pos c30] at H; have c30b0 : decide (a1 < (wrap64 (t264 - (wrap64 (t262 + 1))))) = true := decide_eq_true c30; clear c30; have H' := Aside0.mk H; clear H; go_wp2; go_meet
            case rel => exact ⟨_, (true), tZB, H', ⟨by have := HJ4.out; have := HJ8.out; have := HJ11.out; have := HJ21.out; first | omega | exact Nat.le_refl _⟩, tZD⟩
           rw [if_neg c30] at H; have c30b0 : decide (a1 < (wrap64 (t264 - (wrap64 (t262 + 1))))) = false := decide_eq_false c30; clear c30; have H' := Aside0.mk H; clear H; go_wp2; go_meet
           case rel => exact ⟨_, ((t264 != (a0.size : Int))), tZB, H', ⟨by have := HJ4.out; have := HJ8.out; have := HJ11.out; have := HJ21.out; first | omega | exact Nat.le_refl _⟩, tZD⟩
          case rest =>
           clear HC28; (try clear c4 c19 c21 c21b0 c26); obtain ⟨kq, x88_27, rfl, HA, HJ27, ⟨mc27, rfl⟩⟩ := hcut
           cases kq with
           | zero => exact absurd HA.out (by simp [impl_ReadMoney.j4])
           | succ kj27 =>
            have H := HA.out; clear HA; simp only [impl_ReadMoney.j4] at H
            by_cases c31 : x88_27 = true
            ·subst c31; rw [if_pos rfl] at H; simp only [Option.some.injEq, Prod.mk.injEq] at H; obtain ⟨rfl, rfl⟩ := H; go_wp2; go_ret2; exact ⟨tZB, tZD⟩
            replace c31 := Bool.eq_false_iff.mpr c31; subst c31; rw [if_neg Bool.false_ne_true] at H; have H' := Aside0.mk H; clear H; go_wp2
            go_loopg [8, 14] kj27 (fun kq v8 v14 w' => ∃ (x8_6 : Int) (x14_6 : Int), v8 = .int .i64 x8_6 ∧ v14 = .int .i64 x14_6 ∧ Aside0 (impl_ReadMoney.l0 kq a1 x6_8 x8_6 (wrap64 (t264 - (wrap64 (t262 + 1)))) t263 x14_6 = some (r1, r2)) ∧ Aside0 (kq ≤ kj27) ∧ Drawn0 w w')
            case atStart => exact ⟨(t261), (0), tZB, tZB, H', ⟨Nat.le_refl _⟩, tZD⟩
            case round =>
             clear H'; (try clear c4 c19 c21 c21b0 c26 c31); obtain ⟨x8_6, x14_6, rfl, rfl, HA, HK6, ⟨m6, rfl⟩⟩ := hrel
             cases gk with
             | zero => exact absurd HA.out (by simp [impl_ReadMoney.l0])
             | succ k6 =>
              have H := HA.out; clear HA; simp only [impl_ReadMoney.l0] at H
              by_cases c32 : x14_6 < (wrap64 (t264 - (wrap64 (t262 + 1))))
              rotate_left
              ·rw [if_neg c32] at H; have c32b0 := decide_eq_false c32; clear c32; have H' := Aside0.mk H; clear H; go_wp2; go_meet
               case rel => exact ⟨_, (wrap64 (x8_6 + t263)), ((wrap64 (t264 - (wrap64 (t262 + 1))))), tZB, tZB, H', ⟨by have := HJ4.out; have := HJ8.out; have := HJ11.out; have := HJ21.out; have := HJ27.out; have := HK6.out; first | omega | exact Nat.le_refl _⟩, tZD⟩
              rw [if_pos c32] at H; have c32b0 := decide_eq_true c32; clear c32; have H' := Aside0.mk H; clear H; go_wp2
              go_roundg k6
              case measure => have := HJ4.out; have := HJ8.out; have := HJ11.out; have := HJ21.out; have := HJ27.out; have := HK6.out; omega
              case rel => exact ⟨(wrap64 (x8_6 * 10)), (wrap64 (x14_6 + 1)), tZB, tZB, H', ⟨by have := HJ4.out; have := HJ8.out; have := HJ11.out; have := HJ21.out; have := HJ27.out; have := HK6.out; omega⟩, tZD⟩
       case rest =>
        clear HC20; (try clear c4 c19); obtain ⟨kq, x8_19, x10_19, rfl, rfl, HA, HJ19, ⟨mc19, rfl⟩⟩ := hcut
        cases kq with
        | zero => exact absurd HA.out (by simp [impl_ReadMoney.j6])
        | succ kj19 =>
         have H := HA.out; clear HA; simp only [impl_ReadMoney.j6] at H; have H' := Aside0.mk H; clear H; go_wp2
         go_loopg [8, 10] kj19 (fun kq v8 v10 w' => ∃ (x8_5 : Int) (x10_5 : Int), v8 = .int .i64 x8_5 ∧ v10 = .int .i64 x10_5 ∧ Aside0 (impl_ReadMoney.l1 kq a1 x6_8 x8_5 x10_5 = some (r1, r2)) ∧ Aside0 (kq ≤ kj19) ∧ Drawn0 w w')
         case atStart => exact ⟨(x8_19), (x10_19), tZB, tZB, H', ⟨Nat.le_refl _⟩, tZD⟩
         case round =>
          clear H'; (try clear c4 c19); obtain ⟨x8_5, x10_5, rfl, rfl, HA, HK5, ⟨m5, rfl⟩⟩ := hrel
          cases gk with
          | zero => exact absurd HA.out (by simp [impl_ReadMoney.l1])
          | succ k5 =>
           have H := HA.out; clear HA; simp only [impl_ReadMoney.l1] at H
           by_cases c33 : x10_5 < a1
           ·rw [if_pos c33] at H; have c33b0 := decide_eq_true c33; clear c33; have H' := Aside0.mk H; clear H; go_wp2
            go_roundg k5
            case measure => have := HJ4.out; have := HJ8.out; have := HJ11.out; have := HJ19.out; have := HK5.out; omega
            case rel => exact ⟨(wrap64 (x8_5 * 10)), (wrap64 (x10_5 + 1)), tZB, tZB, H', ⟨by have := HJ4.out; have := HJ8.out; have := HJ11.out; have := HJ19.out; have := HK5.out; omega⟩, tZD⟩
           rw [if_neg c33] at H; have c33b0 := decide_eq_false c33; clear c33
           by_cases c34 : x8_5 > 100000000000
           ·rw [if_pos c34] at H; have c34b0 : decide (100000000000 < x8_5) = true := decide_eq_true c34; clear c34; simp only [Option.some.injEq, Prod.mk.injEq] at H; obtain ⟨rfl, rfl⟩ := H; go_wp2; go_ret2; exact ⟨tZB, tZD⟩
           rw [if_neg c34] at H; have c34b0 : decide (100000000000 < x8_5) = false := decide_eq_false c34; clear c34
           by_cases c35 : x8_5 = 0
           rotate_left
           ·rw [if_neg c35] at H; have c35b0 : (x8_5 == 0) = false := beq_eq_false_iff_ne.mpr c35; have c35b1 : (x8_5 != 0) = true := bne_iff_ne.mpr c35; simp only [Option.some.injEq, Prod.mk.injEq] at H; obtain ⟨rfl, rfl⟩ := H; go_wp2; go_ret2; exact ⟨tZB, tZD⟩
           rw [if_pos c35] at H; have c35b0 : (x8_5 == 0) = true := beq_iff_eq.mpr c35; have c35b1 : (x8_5 != 0) = false := bne_eq_false_iff_eq.mpr c35; clear c35
           by_cases c36 : x6_8 < 0
           ·rw [if_pos c36] at H; have c36b0 := decide_eq_true c36; clear c36; simp only [Option.some.injEq, Prod.mk.injEq] at H; obtain ⟨rfl, rfl⟩ := H; go_wp2; go_ret2; exact ⟨tZB, tZD⟩
           rw [if_neg c36] at H; have c36b0 := decide_eq_false c36; clear c36; simp only [Option.some.injEq, Prod.mk.injEq] at H; obtain ⟨rfl, rfl⟩ := H; go_wp2; go_ret2; exact ⟨tZB, tZD⟩
end Go.Proofs.Ytfkakbpjddgmeaa.PFnFlowBack
