import Derived.Test.YtjnmfadnkbflfaaPPFnExactParseFlowx0
import Derived.Test.YtjnmfadnkbflfaaPPFnExactParseFlowx1
import Derived.Test.YtjnmfadnkbflfaaPPFnExactParseFlowx5
import Derived.Test.YtjnmfadnkbflfaaPSlimWords
namespace Go.Proofs.Ytjnmfadnkbflfaa.PFnExactParseFlow
open Go.Proofs.Ytjnmfadnkbflfaa.SlimWords
open Go.RowKit Go.Proofs.YtjnmfadnkbflfaaW.PrintWords Go.Proofs.YtjnmfadnkbflfaaW.PrintLast Go.Proofs.YtjnmfadnkbflfaaW.PrintMore Go.Proofs.Ytjnmfadnkbflfaa.MapWords Go.Proofs.Ytjnmfadnkbflfaa.IterWords Go.Proofs.Ytjnmfadnkbflfaa.MarkWords
attribute [local go_sem] max2_int min2_int max_two min_two max_three min_three max_four min_four
set_option linter.unusedVariables false
set_option linter.unusedSimpArgs false
mutual
def spec_ReadMoney.j0 : Nat → ByteArray → Int → Bool → Option (Int × Bool)
  | 0, _, _, _ => none
  | k + 1, x0, x1, x17 => if x17 = true then (some (0, false)) else (spec_ReadMoney.l0 k x0 x1 0 (-1) 0)
def spec_ReadMoney.l0 : Nat → ByteArray → Int → Int → Int → Int → Option (Int × Bool)
  | 0, _, _, _, _, _ => none
  | k + 1, x0, x1, x6, x7, x8 => if x8 < (x0.size : Int) then (if 0 ≤ x8 then (if (bt x0 x8) ≥ 48 then (spec_ReadMoney.j2 k x0 x1 x6 x7 x8 (decide ((bt x0 x8) ≤ 57))) else (spec_ReadMoney.j2 k x0 x1 x6 x7 x8 false)) else (none)) else (if x7 < 0 then (if x1 > 0 then (if x0.size + 1 ≤ 9223372036854775807 then (spec_ReadMoney.j4 k x0 x1 x6 0 (x0 ++ (⟨#[46]⟩ : ByteArray))) else (none)) else (spec_ReadMoney.j4 k x0 x1 x6 0 x0)) else (if x7 = 0 then (some (0, false)) else (spec_ReadMoney.j4 k x0 x1 x6 x7 x0)))
def spec_ReadMoney.j2 : Nat → ByteArray → Int → Int → Int → Int → Bool → Option (Int × Bool)
  | 0, _, _, _, _, _, _ => none
  | k + 1, x0, x1, x6, x7, x8, x24 => if x24 = true then (if 0 ≤ x8 then (if x8 < (x0.size : Int) then (if x7 ≥ 0 then (if (wrap64 ((wrap64 (x6 * 10)) + (((bt x0 x8) - 48) % 256))) > 100000000000 then (some (0, false)) else (spec_ReadMoney.l0 k x0 x1 (wrap64 ((wrap64 (x6 * 10)) + (((bt x0 x8) - 48) % 256))) (wrap64 (x7 + 1)) (wrap64 (x8 + 1)))) else (if (wrap64 ((wrap64 (x6 * 10)) + (((bt x0 x8) - 48) % 256))) > 100000000000 then (some (0, false)) else (spec_ReadMoney.l0 k x0 x1 (wrap64 ((wrap64 (x6 * 10)) + (((bt x0 x8) - 48) % 256))) x7 (wrap64 (x8 + 1))))) else (none)) else (none)) else (if 0 ≤ x8 then (if x8 < (x0.size : Int) then (if (bt x0 x8) = 46 then (spec_ReadMoney.j3 k x0 x1 x6 x7 x8 (decide (x7 < 0))) else (spec_ReadMoney.j3 k x0 x1 x6 x7 x8 false)) else (none)) else (none))
def spec_ReadMoney.j3 : Nat → ByteArray → Int → Int → Int → Int → Bool → Option (Int × Bool)
  | 0, _, _, _, _, _, _ => none
  | k + 1, x0, x1, x6, x7, x8, x49 => if x49 = true then (spec_ReadMoney.l0 k x0 x1 x6 0 (wrap64 (x8 + 1))) else (if 0 ≤ x8 then (if x8 < (x0.size : Int) then (if (bt x0 x8) = 45 then (if x8 = 0 then (spec_ReadMoney.l0 k x0 x1 x6 x7 (wrap64 (x8 + 1))) else (some (0, false))) else (some (0, false))) else (none)) else (none))
def spec_ReadMoney.j4 : Nat → ByteArray → Int → Int → Int → ByteArray → Option (Int × Bool)
  | 0, _, _, _, _, _ => none
  | k + 1, x0, x1, x6, x7, x9 => if x7 > x1 then (some (0, false)) else (spec_ReadMoney.l1 k x0 x1 x6 x7 x9)
def spec_ReadMoney.l1 : Nat → ByteArray → Int → Int → Int → ByteArray → Option (Int × Bool)
  | 0, _, _, _, _, _ => none
  | k + 1, x0, x1, x6, x7, x9 => if x7 < x1 then (if x9.size + 1 ≤ 9223372036854775807 then (spec_ReadMoney.l1 k x0 x1 (wrap64 (x6 * 10)) (wrap64 (x7 + 1)) (x9 ++ (⟨#[48]⟩ : ByteArray))) else (none)) else (if x6 > 100000000000 then (some (0, false)) else (if (x0.size : Int) > 0 then (if 0 < (x0.size : Int) then (spec_ReadMoney.j6 k x1 x6 x9 ((bt x0 0) == 45)) else (none)) else (spec_ReadMoney.j6 k x1 x6 x9 false)))
def spec_ReadMoney.j6 : Nat → Int → Int → ByteArray → Bool → Option (Int × Bool)
  | 0, _, _, _, _ => none
  | k + 1, x1, x6, x9, x97 => if x97 = true then ((spec_ShowMoney.f k (wrap64 (-x6)) x1).bind fun t146 => (if t146.toList = x9.toList then (some (wrap64 (-x6), true)) else (some (0, false)))) else ((spec_ShowMoney.f k x6 x1).bind fun t147 => (if t147.toList = x9.toList then (some (x6, true)) else (some (0, false))))
end
def spec_ReadMoney.f (k : Nat) (a0 : ByteArray) (a1 : Int) : Option (Int × Bool) := (spec_l1In.f a1 0 6).bind fun t145 => (if t145 = true then (spec_ReadMoney.j0 k a0 a1 (decide ((a0.size : Int) > 20))) else (spec_ReadMoney.j0 k a0 a1 true))
theorem spec_ReadMoney.mono_l : ∀ k, (∀ y0 y1 y2, LeO (spec_ReadMoney.j0 k y0 y1 y2) (spec_ReadMoney.j0 (k + 1) y0 y1 y2)) ∧ (∀ y0 y1 y2 y3 y4, LeO (spec_ReadMoney.l0 k y0 y1 y2 y3 y4) (spec_ReadMoney.l0 (k + 1) y0 y1 y2 y3 y4)) ∧ (∀ y0 y1 y2 y3 y4 y5, LeO (spec_ReadMoney.j2 k y0 y1 y2 y3 y4 y5) (spec_ReadMoney.j2 (k + 1) y0 y1 y2 y3 y4 y5)) ∧ (∀ y0 y1 y2 y3 y4 y5, LeO (spec_ReadMoney.j3 k y0 y1 y2 y3 y4 y5) (spec_ReadMoney.j3 (k + 1) y0 y1 y2 y3 y4 y5)) ∧ (∀ y0 y1 y2 y3 y4, LeO (spec_ReadMoney.j4 k y0 y1 y2 y3 y4) (spec_ReadMoney.j4 (k + 1) y0 y1 y2 y3 y4)) ∧ (∀ y0 y1 y2 y3 y4, LeO (spec_ReadMoney.l1 k y0 y1 y2 y3 y4) (spec_ReadMoney.l1 (k + 1) y0 y1 y2 y3 y4)) ∧ (∀ y0 y1 y2 y3, LeO (spec_ReadMoney.j6 k y0 y1 y2 y3) (spec_ReadMoney.j6 (k + 1) y0 y1 y2 y3))
  | 0 => ⟨fun _ _ _ r h => by simp [spec_ReadMoney.j0] at h, fun _ _ _ _ _ r h => by simp [spec_ReadMoney.l0] at h, fun _ _ _ _ _ _ r h => by simp [spec_ReadMoney.j2] at h, fun _ _ _ _ _ _ r h => by simp [spec_ReadMoney.j3] at h, fun _ _ _ _ _ r h => by simp [spec_ReadMoney.j4] at h, fun _ _ _ _ _ r h => by simp [spec_ReadMoney.l1] at h, fun _ _ _ _ r h => by simp [spec_ReadMoney.j6] at h⟩
  | k + 1 => by
    obtain ⟨ih0, ih1, ih2, ih3, ih4, ih5, ih6⟩ := spec_ReadMoney.mono_l k
    refine ⟨?_, ?_, ?_, ?_, ?_, ?_, ?_⟩
    · intro y0 y1 y2
      unfold spec_ReadMoney.j0
      repeat' first
      | (with_reducible exact ih0 _ _ _)
      | (with_reducible exact ih1 _ _ _ _ _)
      | (with_reducible exact ih2 _ _ _ _ _ _)
      | (with_reducible exact ih3 _ _ _ _ _ _)
      | (with_reducible exact ih4 _ _ _ _ _)
      | (with_reducible exact ih5 _ _ _ _ _)
      | (with_reducible exact ih6 _ _ _ _)
      | (with_reducible exact spec_ShowMoney.mono _ _ _)
      | (with_reducible exact LeO.refl _)
      | (with_reducible exact LeO.none _)
      | (with_reducible refine LeO.ite ?_ ?_)
      | (with_reducible refine LeO.bind ?_ (fun _ => ?_))
      | exact ih0 _ _ _
      | exact ih1 _ _ _ _ _
      | exact ih2 _ _ _ _ _ _
      | exact ih3 _ _ _ _ _ _
      | exact ih4 _ _ _ _ _
      | exact ih5 _ _ _ _ _
      | exact ih6 _ _ _ _
      | exact spec_ShowMoney.mono _ _ _
      | exact LeO.none _
      | refine LeO.ite ?_ ?_
      | refine LeO.bind ?_ (fun _ => ?_)
    · intro y0 y1 y2 y3 y4
      unfold spec_ReadMoney.l0
      repeat' first
      | (with_reducible exact ih0 _ _ _)
      | (with_reducible exact ih1 _ _ _ _ _)
      | (with_reducible exact ih2 _ _ _ _ _ _)
      | (with_reducible exact ih3 _ _ _ _ _ _)
      | (with_reducible exact ih4 _ _ _ _ _)
      | (with_reducible exact ih5 _ _ _ _ _)
      | (with_reducible exact ih6 _ _ _ _)
      | (with_reducible exact spec_ShowMoney.mono _ _ _)
      | (with_reducible exact LeO.refl _)
      | (with_reducible exact LeO.none _)
      | (with_reducible refine LeO.ite ?_ ?_)
      | (with_reducible refine LeO.bind ?_ (fun _ => ?_))
      | exact ih0 _ _ _
      | exact ih1 _ _ _ _ _
      | exact ih2 _ _ _ _ _ _
      | exact ih3 _ _ _ _ _ _
      | exact ih4 _ _ _ _ _
      | exact ih5 _ _ _ _ _
      | exact ih6 _ _ _ _
      | exact spec_ShowMoney.mono _ _ _
      | exact LeO.none _
      | refine LeO.ite ?_ ?_
      | refine LeO.bind ?_ (fun _ => ?_)
    · intro y0 y1 y2 y3 y4 y5
      unfold spec_ReadMoney.j2
      repeat' first
      | (with_reducible exact ih0 _ _ _)
      | (with_reducible exact ih1 _ _ _ _ _)
      | (with_reducible exact ih2 _ _ _ _ _ _)
      | (with_reducible exact ih3 _ _ _ _ _ _)
      | (with_reducible exact ih4 _ _ _ _ _)
      | (with_reducible exact ih5 _ _ _ _ _)
      | (with_reducible exact ih6 _ _ _ _)
      | (with_reducible exact spec_ShowMoney.mono _ _ _)
      | (with_reducible exact LeO.refl _)
      | (with_reducible exact LeO.none _)
      | (with_reducible refine LeO.ite ?_ ?_)
      | (with_reducible refine LeO.bind ?_ (fun _ => ?_))
      | exact ih0 _ _ _
      | exact ih1 _ _ _ _ _
      | exact ih2 _ _ _ _ _ _
      | exact ih3 _ _ _ _ _ _
      | exact ih4 _ _ _ _ _
      | exact ih5 _ _ _ _ _
      | exact ih6 _ _ _ _
      | exact spec_ShowMoney.mono _ _ _
      | exact LeO.none _
      | refine LeO.ite ?_ ?_
      | refine LeO.bind ?_ (fun _ => ?_)
    · intro y0 y1 y2 y3 y4 y5
      unfold spec_ReadMoney.j3
      repeat' first
      | (with_reducible exact ih0 _ _ _)
      | (with_reducible exact ih1 _ _ _ _ _)
      | (with_reducible exact ih2 _ _ _ _ _ _)
      | (with_reducible exact ih3 _ _ _ _ _ _)
      | (with_reducible exact ih4 _ _ _ _ _)
      | (with_reducible exact ih5 _ _ _ _ _)
      | (with_reducible exact ih6 _ _ _ _)
      | (with_reducible exact spec_ShowMoney.mono _ _ _)
      | (with_reducible exact LeO.refl _)
      | (with_reducible exact LeO.none _)
      | (with_reducible refine LeO.ite ?_ ?_)
      | (with_reducible refine LeO.bind ?_ (fun _ => ?_))
      | exact ih0 _ _ _
      | exact ih1 _ _ _ _ _
      | exact ih2 _ _ _ _ _ _
      | exact ih3 _ _ _ _ _ _
      | exact ih4 _ _ _ _ _
      | exact ih5 _ _ _ _ _
      | exact ih6 _ _ _ _
      | exact spec_ShowMoney.mono _ _ _
      | exact LeO.none _
      | refine LeO.ite ?_ ?_
      | refine LeO.bind ?_ (fun _ => ?_)
    · intro y0 y1 y2 y3 y4
      unfold spec_ReadMoney.j4
      repeat' first
      | (with_reducible exact ih0 _ _ _)
      | (with_reducible exact ih1 _ _ _ _ _)
      | (with_reducible exact ih2 _ _ _ _ _ _)
      | (with_reducible exact ih3 _ _ _ _ _ _)
      | (with_reducible exact ih4 _ _ _ _ _)
      | (with_reducible exact ih5 _ _ _ _ _)
      | (with_reducible exact ih6 _ _ _ _)
      | (with_reducible exact spec_ShowMoney.mono _ _ _)
      | (with_reducible exact LeO.refl _)
      | (with_reducible exact LeO.none _)
      | (with_reducible refine LeO.ite ?_ ?_)
      | (with_reducible refine LeO.bind ?_ (fun _ => ?_))
      | exact ih0 _ _ _
      | exact ih1 _ _ _ _ _
      | exact ih2 _ _ _ _ _ _
      | exact ih3 _ _ _ _ _ _
      | exact ih4 _ _ _ _ _
      | exact ih5 _ _ _ _ _
      | exact ih6 _ _ _ _
      | exact spec_ShowMoney.mono _ _ _
      | exact LeO.none _
      | refine LeO.ite ?_ ?_
      | refine LeO.bind ?_ (fun _ => ?_)
    · intro y0 y1 y2 y3 y4
      unfold spec_ReadMoney.l1
      repeat' first
      | (with_reducible exact ih0 _ _ _)
      | (with_reducible exact ih1 _ _ _ _ _)
      | (with_reducible exact ih2 _ _ _ _ _ _)
      | (with_reducible exact ih3 _ _ _ _ _ _)
      | (with_reducible exact ih4 _ _ _ _ _)
      | (with_reducible exact ih5 _ _ _ _ _)
      | (with_reducible exact ih6 _ _ _ _)
      | (with_reducible exact spec_ShowMoney.mono _ _ _)
      | (with_reducible exact LeO.refl _)
      | (with_reducible exact LeO.none _)
      | (with_reducible refine LeO.ite ?_ ?_)
      | (with_reducible refine LeO.bind ?_ (fun _ => ?_))
      | exact ih0 _ _ _
      | exact ih1 _ _ _ _ _
      | exact ih2 _ _ _ _ _ _
      | exact ih3 _ _ _ _ _ _
      | exact ih4 _ _ _ _ _
      | exact ih5 _ _ _ _ _
      | exact ih6 _ _ _ _
      | exact spec_ShowMoney.mono _ _ _
      | exact LeO.none _
      | refine LeO.ite ?_ ?_
      | refine LeO.bind ?_ (fun _ => ?_)
    · intro y0 y1 y2 y3
      unfold spec_ReadMoney.j6
      repeat' first
      | (with_reducible exact ih0 _ _ _)
      | (with_reducible exact ih1 _ _ _ _ _)
      | (with_reducible exact ih2 _ _ _ _ _ _)
      | (with_reducible exact ih3 _ _ _ _ _ _)
      | (with_reducible exact ih4 _ _ _ _ _)
      | (with_reducible exact ih5 _ _ _ _ _)
      | (with_reducible exact ih6 _ _ _ _)
      | (with_reducible exact spec_ShowMoney.mono _ _ _)
      | (with_reducible exact LeO.refl _)
      | (with_reducible exact LeO.none _)
      | (with_reducible refine LeO.ite ?_ ?_)
      | (with_reducible refine LeO.bind ?_ (fun _ => ?_))
      | exact ih0 _ _ _
      | exact ih1 _ _ _ _ _
      | exact ih2 _ _ _ _ _ _
      | exact ih3 _ _ _ _ _ _
      | exact ih4 _ _ _ _ _
      | exact ih5 _ _ _ _ _
      | exact ih6 _ _ _ _
      | exact spec_ShowMoney.mono _ _ _
      | exact LeO.none _
      | refine LeO.ite ?_ ?_
      | refine LeO.bind ?_ (fun _ => ?_)
theorem spec_ReadMoney.mono : ∀ a0 a1 k, LeO (spec_ReadMoney.f k a0 a1) (spec_ReadMoney.f (k + 1) a0 a1) := by
 intro a0 a1 k
 obtain ⟨ih0, ih1, ih2, ih3, ih4, ih5, ih6⟩ := spec_ReadMoney.mono_l k
 unfold spec_ReadMoney.f
 repeat' first
     | (with_reducible exact ih0 _ _ _)
     | (with_reducible exact ih1 _ _ _ _ _)
     | (with_reducible exact ih2 _ _ _ _ _ _)
     | (with_reducible exact ih3 _ _ _ _ _ _)
     | (with_reducible exact ih4 _ _ _ _ _)
     | (with_reducible exact ih5 _ _ _ _ _)
     | (with_reducible exact ih6 _ _ _ _)
     | (with_reducible exact spec_ShowMoney.mono _ _ _)
     | (with_reducible exact LeO.refl _)
     | (with_reducible exact LeO.none _)
     | (with_reducible refine LeO.ite ?_ ?_)
     | (with_reducible refine LeO.bind ?_ (fun _ => ?_))
     | exact ih0 _ _ _
     | exact ih1 _ _ _ _ _
     | exact ih2 _ _ _ _ _ _
     | exact ih3 _ _ _ _ _ _
     | exact ih4 _ _ _ _ _
     | exact ih5 _ _ _ _ _
     | exact ih6 _ _ _ _
     | exact spec_ShowMoney.mono _ _ _
     | exact LeO.none _
     | refine LeO.ite ?_ ?_
     | refine LeO.bind ?_ (fun _ => ?_)
set_option maxHeartbeats 8000000 in
set_option maxRecDepth 100000 in
theorem spec_ReadMoney.calls (k : Nat) (a0 : ByteArray) (a1 : Int) (r1 : Int) (r2 : Bool) (w : World) (h : spec_ReadMoney.f k a0 a1 = some (r1, r2)) :
    Calls Try.prog 97 #[.string a0, .int .i64 a1] w fun e w' => e = .returned (.tuple #[.int .i64 r1, .bool r2]) ∧ Below w.heap.size w w' := by
 have HB := aZ (Below.refl w.heap.size w); have H : ((spec_l1In.f a1 0 6).bind fun t145 => (if t145 = true then (spec_ReadMoney.j0 k a0 a1 (decide ((a0.size : Int) > 20))) else (spec_ReadMoney.j0 k a0 a1 true))) = some (r1, r2) := h; clear h; have HC3 := Aside0.mk H; clear H; go_enter Try.func97, Try.ntmps97
 go_upto_region 1 with (fail)
 go_cut [17] (fun v17 wc => ∃ (kq : Nat) (x17_2 : Bool), v17 = .bool x17_2 ∧ Aside0 (spec_ReadMoney.j0 kq a0 a1 x17_2 = some (r1, r2)) ∧ Aside0 (kq ≤ k) ∧ Aside0 (Below w.heap.size w wc))
 case first =>
  have H := HC3.out; clear HC3; replace H := Option.bind_eq_some_iff.mp H; obtain ⟨t145, A40, H⟩ := H; replace H : (if t145 = true then (spec_ReadMoney.j0 k a0 a1 (decide ((a0.size : Int) > 20))) else (spec_ReadMoney.j0 k a0 a1 true)) = some (r1, r2) := H; have A4 := Aside0.mk A40; clear A40
  by_cases c5 : t145 = true
  ·subst c5; rw [if_pos rfl] at H; have H' := Aside0.mk H; clear H
   go_wp2_with (first | ((with_reducible refine gate_callee (f := 72) rfl ?_); refine goesL_ (some 11) rfl rfl Try.func72 kZ rfl #[.int .i64 a1, .int .i64 0, .int .i64 6] rfl tZA ?_; (with_reducible refine (spec_l1In.calls a1 0 6 true _ A4.out).mono ?_); rintro e w' ⟨rfl, ⟨nd, rfl⟩⟩; refine ⟨_, rfl, ?_⟩))
   go_meet
   case rel => exact ⟨_, (decide ((a0.size : Int) > 20)), tZB, H', ⟨by first | omega | exact Nat.le_refl _⟩, ⟨bZ⟩⟩
  replace c5 := Bool.eq_false_iff.mpr c5; subst c5; rw [if_neg Bool.false_ne_true] at H; have H' := Aside0.mk H; clear H
  go_wp2_with (first | ((with_reducible refine gate_callee (f := 72) rfl ?_); refine goesL_ (some 11) rfl rfl Try.func72 kZ rfl #[.int .i64 a1, .int .i64 0, .int .i64 6] rfl tZA ?_; (with_reducible refine (spec_l1In.calls a1 0 6 false _ A4.out).mono ?_); rintro e w' ⟨rfl, ⟨nd, rfl⟩⟩; refine ⟨_, rfl, ?_⟩))
  go_meet
  case rel => exact ⟨_, (true), tZB, H', ⟨by first | omega | exact Nat.le_refl _⟩, ⟨bZ⟩⟩
 case rest =>
  clear HC3; obtain ⟨kq, x17_2, rfl, HA, HJ2, HB⟩ := hcut
  cases kq with
  | zero => exact absurd HA.out (by simp [spec_ReadMoney.j0])
  | succ kj2 =>
   have H := HA.out; clear HA; simp only [spec_ReadMoney.j0] at H
   by_cases c6 : x17_2 = true
   ·subst c6; rw [if_pos rfl] at H; simp only [Option.some.injEq, Prod.mk.injEq] at H; obtain ⟨rfl, rfl⟩ := H; go_wp2; go_ret2; exact ⟨tZC, bZ⟩
   replace c6 := Bool.eq_false_iff.mpr c6; subst c6; rw [if_neg Bool.false_ne_true] at H; have H' := Aside0.mk H; clear H; go_wp2
   go_loopg [6, 7, 8] kj2 (fun kq v6 v7 v8 w' => ∃ (x6_2 : Int) (x7_2 : Int) (x8_2 : Int), v6 = .int .i64 x6_2 ∧ v7 = .int .i64 x7_2 ∧ v8 = .int .i64 x8_2 ∧ Aside0 (spec_ReadMoney.l0 kq a0 a1 x6_2 x7_2 x8_2 = some (r1, r2)) ∧ Aside0 (kq ≤ kj2) ∧ Aside0 (Below w.heap.size w w'))
   case atStart => exact ⟨(0), ((-1)), (0), tZB, tZB, tZB, H', ⟨Nat.le_refl _⟩, ⟨bZ⟩⟩
   case round =>
    clear H'; (try clear c6); obtain ⟨x6_2, x7_2, x8_2, rfl, rfl, rfl, HA, HK2, HB⟩ := hrel
    cases gk with
    | zero => exact absurd HA.out (by simp [spec_ReadMoney.l0])
    | succ k2 =>
     have H := HA.out; clear HA; simp only [spec_ReadMoney.l0] at H
     by_cases c7 : x8_2 < (a0.size : Int)
     ·rw [if_pos c7] at H; have c7b0 := decide_eq_true c7; clear c7; have HC8 := Aside0.mk H; clear H
      go_upto_region 9 with (fail)
      go_cut [24] (fun v24 wc => ∃ (kq : Nat) (x24_7 : Bool), v24 = .bool x24_7 ∧ Aside0 (spec_ReadMoney.j2 kq a0 a1 x6_2 x7_2 x8_2 x24_7 = some (r1, r2)) ∧ Aside0 (kq ≤ k2) ∧ Aside0 (Below w.heap.size w wc))
      case first =>
       have H := HC8.out; clear HC8
       by_cases c9 : 0 ≤ x8_2
       rotate_left
       ·rw [if_neg c9] at H; exact absurd H (by simp)
       rw [if_pos c9] at H; have c9b0 := decide_eq_true c9; clear c9; (first | rw [c9b0] | (simp only [i64_w, i32_w]; rw [c9b0]) | skip)
       by_cases c11 : (bt a0 x8_2) ≥ 48
       rotate_left
       ·rw [if_neg c11] at H; have c11b0 : decide (48 ≤ (bt a0 x8_2)) = false := decide_eq_false c11; clear c11; have H' := Aside0.mk H; clear H; have p10 : 0 ≤ (x8_2 : Int) := of_decide_eq_true tZE; have q10 : x8_2 < (a0.size : Int) := of_decide_eq_true tZE; have hx10 := bt_at a0 x8_2; replace p10 := eq_true p10; replace q10 := eq_true q10; go_wp2; go_meet
        case rel => exact ⟨_, (false), tZB, H', ⟨by have := HJ2.out; have := HK2.out; first | omega | exact Nat.le_refl _⟩, ⟨bZ⟩⟩
       rw [if_pos c11] at H; have c11b0 : decide (48 ≤ (bt a0 x8_2)) = true := decide_eq_true c11; clear c11; have H' := Aside0.mk H; clear H; have p10 : 0 ≤ (x8_2 : Int) := of_decide_eq_true tZE; have q10 : x8_2 < (a0.size : Int) := of_decide_eq_true tZE; have hx10 := bt_at a0 x8_2; replace p10 := eq_true p10; replace q10 := eq_true q10; have p12 : 0 ≤ (x8_2 : Int) := of_decide_eq_true tZE; have q12 : x8_2 < (a0.size : Int) := of_decide_eq_true tZE; have hx12 := bt_at a0 x8_2; replace p12 := eq_true p12; replace q12 := eq_true q12; go_wp2; go_meet
       case rel => exact ⟨_, (decide ((bt a0 x8_2) ≤ 57)), tZB, H', ⟨by have := HJ2.out; have := HK2.out; first | omega | exact Nat.le_refl _⟩, ⟨bZ⟩⟩
      case rest =>
       clear HC8; (try clear c6 c7 c7b0); obtain ⟨kq, x24_7, rfl, HA, HJ7, HB⟩ := hcut
       cases kq with
       | zero => exact absurd HA.out (by simp [spec_ReadMoney.j2])
       | succ kj7 =>
        have H := HA.out; clear HA; simp only [spec_ReadMoney.j2] at H
        by_cases c13 : x24_7 = true
        ·subst c13; rw [if_pos rfl] at H
         by_cases c14 : 0 ≤ x8_2
         rotate_left
         ·rw [if_neg c14] at H; exact absurd H (by simp)
         rw [if_pos c14] at H; have c14b0 := decide_eq_true c14; clear c14
         by_cases c15 : x8_2 < (a0.size : Int)
         rotate_left
         ·rw [if_neg c15] at H; exact absurd H (by simp)
         rw [if_pos c15] at H; have c15b0 := decide_eq_true c15; clear c15
         by_cases c17 : x7_2 ≥ 0
         rotate_left
         ·rw [if_neg c17] at H; have c17b0 : decide (0 ≤ x7_2) = false := decide_eq_false c17; clear c17
          by_cases c19 : (wrap64 ((wrap64 (x6_2 * 10)) + (((bt a0 x8_2) - 48) % 256))) > 100000000000
          ·rw [if_pos c19] at H; have c19b0 : decide (100000000000 < (wrap64 ((wrap64 (x6_2 * 10)) + (((bt a0 x8_2) - 48) % 256)))) = true := decide_eq_true c19; clear c19; simp only [Option.some.injEq, Prod.mk.injEq] at H; obtain ⟨rfl, rfl⟩ := H; have p16 : 0 ≤ (x8_2 : Int) := of_decide_eq_true tZE; have q16 : x8_2 < (a0.size : Int) := of_decide_eq_true tZE; have hx16 := bt_at a0 x8_2; replace p16 := eq_true p16; replace q16 := eq_true q16; go_wp2; go_ret2; exact ⟨tZC, bZ⟩
          rw [if_neg c19] at H; have c19b0 : decide (100000000000 < (wrap64 ((wrap64 (x6_2 * 10)) + (((bt a0 x8_2) - 48) % 256)))) = false := decide_eq_false c19; clear c19; have H' := Aside0.mk H; clear H; have p16 : 0 ≤ (x8_2 : Int) := of_decide_eq_true tZE; have q16 : x8_2 < (a0.size : Int) := of_decide_eq_true tZE; have hx16 := bt_at a0 x8_2; replace p16 := eq_true p16; replace q16 := eq_true q16; go_wp2
          go_roundg kj7
          case measure => have := HJ2.out; have := HK2.out; have := HJ7.out; omega
          case rel => exact ⟨(wrap64 ((wrap64 (x6_2 * 10)) + (((bt a0 x8_2) - 48) % 256))), (x7_2), (wrap64 (x8_2 + 1)), tZB, tZB, tZB, H', ⟨by have := HJ2.out; have := HK2.out; have := HJ7.out; omega⟩, ⟨bZ⟩⟩
         rw [if_pos c17] at H; have c17b0 : decide (0 ≤ x7_2) = true := decide_eq_true c17; clear c17
         by_cases c18 : (wrap64 ((wrap64 (x6_2 * 10)) + (((bt a0 x8_2) - 48) % 256))) > 100000000000
         ·rw [if_pos c18] at H; have c18b0 : decide (100000000000 < (wrap64 ((wrap64 (x6_2 * 10)) + (((bt a0 x8_2) - 48) % 256)))) = true := decide_eq_true c18; clear c18; simp only [Option.some.injEq, Prod.mk.injEq] at H; obtain ⟨rfl, rfl⟩ := H; have p16 : 0 ≤ (x8_2 : Int) := of_decide_eq_true tZE; have q16 : x8_2 < (a0.size : Int) := of_decide_eq_true tZE; have hx16 := bt_at a0 x8_2; replace p16 := eq_true p16; replace q16 := eq_true q16; go_wp2; go_ret2; exact ⟨tZC, bZ⟩
         rw [if_neg c18] at H; have c18b0 : decide (100000000000 < (wrap64 ((wrap64 (x6_2 * 10)) + (((bt a0 x8_2) - 48) % 256)))) = false := decide_eq_false c18; clear c18; have H' := Aside0.mk H; clear H; have p16 : 0 ≤ (x8_2 : Int) := of_decide_eq_true tZE; have q16 : x8_2 < (a0.size : Int) := of_decide_eq_true tZE; have hx16 := bt_at a0 x8_2; replace p16 := eq_true p16; replace q16 := eq_true q16; go_wp2
         go_roundg kj7
         case measure => have := HJ2.out; have := HK2.out; have := HJ7.out; omega
         case rel => exact ⟨(wrap64 ((wrap64 (x6_2 * 10)) + (((bt a0 x8_2) - 48) % 256))), (wrap64 (x7_2 + 1)), (wrap64 (x8_2 + 1)), tZB, tZB, tZB, H', ⟨by have := HJ2.out; have := HK2.out; have := HJ7.out; omega⟩, ⟨bZ⟩⟩
        replace c13 := Bool.eq_false_iff.mpr c13; subst c13; rw [if_neg Bool.false_ne_true] at H; have HC20 := Aside0.mk H; clear H
        go_upto_region 15 with (fail)
        go_cut [49] (fun v49 wc => ∃ (kq : Nat) (x49_19 : Bool), v49 = .bool x49_19 ∧ Aside0 (spec_ReadMoney.j3 kq a0 a1 x6_2 x7_2 x8_2 x49_19 = some (r1, r2)) ∧ Aside0 (kq ≤ kj7) ∧ Aside0 (Below w.heap.size w wc))
        case first =>
         have H := HC20.out; clear HC20
         by_cases c21 : 0 ≤ x8_2
         rotate_left
         ·rw [if_neg c21] at H; exact absurd H (by simp)
         rw [if_pos c21] at H; have c21b0 := decide_eq_true c21; clear c21; (first | rw [c21b0] | (simp only [i64_w, i32_w]; rw [c21b0]) | skip)
         by_cases c22 : x8_2 < (a0.size : Int)
         rotate_left
         ·rw [if_neg c22] at H; exact absurd H (by simp)
         rw [if_pos c22] at H; have c22b0 := decide_eq_true c22; clear c22
         by_cases c24 : (bt a0 x8_2) = 46
         rotate_left
         ·rw [if_neg c24] at H; have c24b0 : ((bt a0 x8_2) == 46) = false := beq_eq_false_iff_ne.mpr c24; have c24b1 : ((bt a0 x8_2) != 46) = true := bne_iff_ne.mpr c24; have H' := Aside0.mk H; clear H; have p23 : 0 ≤ (x8_2 : Int) := of_decide_eq_true tZE; have q23 : x8_2 < (a0.size : Int) := of_decide_eq_true tZE; have hx23 := bt_at a0 x8_2; replace p23 := eq_true p23; replace q23 := eq_true q23; go_wp2; go_meet
          case rel => exact ⟨_, (false), tZB, H', ⟨by have := HJ2.out; have := HK2.out; have := HJ7.out; first | omega | exact Nat.le_refl _⟩, ⟨bZ⟩⟩
         rw [if_pos c24] at H; have c24b0 : ((bt a0 x8_2) == 46) = true := beq_iff_eq.mpr c24; have c24b1 : ((bt a0 x8_2) != 46) = false := bne_eq_false_iff_eq.mpr c24; clear c24; have H' := Aside0.mk H; clear H; have p23 : 0 ≤ (x8_2 : Int) := of_decide_eq_true tZE; have q23 : x8_2 < (a0.size : Int) := of_decide_eq_true tZE; have hx23 := bt_at a0 x8_2; replace p23 := eq_true p23; replace q23 := eq_true q23; go_wp2; go_meet
         case rel => exact ⟨_, (decide (x7_2 < 0)), tZB, H', ⟨by have := HJ2.out; have := HK2.out; have := HJ7.out; first | omega | exact Nat.le_refl _⟩, ⟨bZ⟩⟩
        case rest =>
         clear HC20; (try clear c6 c7 c7b0 c13); obtain ⟨kq, x49_19, rfl, HA, HJ19, HB⟩ := hcut
         cases kq with
         | zero => exact absurd HA.out (by simp [spec_ReadMoney.j3])
         | succ kj19 =>
          have H := HA.out; clear HA; simp only [spec_ReadMoney.j3] at H
          by_cases c25 : x49_19 = true
          ·subst c25; rw [if_pos rfl] at H; have H' := Aside0.mk H; clear H; go_wp2
           go_roundg kj19
           case measure => have := HJ2.out; have := HK2.out; have := HJ7.out; have := HJ19.out; omega
           case rel => exact ⟨(x6_2), (0), (wrap64 (x8_2 + 1)), tZB, tZB, tZB, H', ⟨by have := HJ2.out; have := HK2.out; have := HJ7.out; have := HJ19.out; omega⟩, ⟨bZ⟩⟩
          replace c25 := Bool.eq_false_iff.mpr c25; subst c25; rw [if_neg Bool.false_ne_true] at H
          by_cases c26 : 0 ≤ x8_2
          rotate_left
          ·rw [if_neg c26] at H; exact absurd H (by simp)
          rw [if_pos c26] at H; have c26b0 := decide_eq_true c26; clear c26
          by_cases c27 : x8_2 < (a0.size : Int)
          rotate_left
          ·rw [if_neg c27] at H; exact absurd H (by simp)
          rw [if_pos c27] at H; have c27b0 := decide_eq_true c27; clear c27
          by_cases c29 : (bt a0 x8_2) = 45
          rotate_left
          ·rw [if_neg c29] at H; have c29b0 : ((bt a0 x8_2) == 45) = false := beq_eq_false_iff_ne.mpr c29; have c29b1 : ((bt a0 x8_2) != 45) = true := bne_iff_ne.mpr c29; simp only [Option.some.injEq, Prod.mk.injEq] at H; obtain ⟨rfl, rfl⟩ := H; have p28 : 0 ≤ (x8_2 : Int) := of_decide_eq_true tZE; have q28 : x8_2 < (a0.size : Int) := of_decide_eq_true tZE; have hx28 := bt_at a0 x8_2; replace p28 := eq_true p28; replace q28 := eq_true q28; go_wp2; go_ret2; exact ⟨tZC, bZ⟩
          rw [if_pos c29] at H; have c29b0 : ((bt a0 x8_2) == 45) = true := beq_iff_eq.mpr c29; have c29b1 : ((bt a0 x8_2) != 45) = false := bne_eq_false_iff_eq.mpr c29; clear c29
          by_cases c30 : x8_2 = 0
          rotate_left
          ·rw [if_neg c30] at H; have c30b0 : (x8_2 == 0) = false := beq_eq_false_iff_ne.mpr c30; have c30b1 : (x8_2 != 0) = true := bne_iff_ne.mpr c30; simp only [Option.some.injEq, Prod.mk.injEq] at H; obtain ⟨rfl, rfl⟩ := H; have p28 : 0 ≤ (x8_2 : Int) := of_decide_eq_true tZE; have q28 : x8_2 < (a0.size : Int) := of_decide_eq_true tZE; have hx28 := bt_at a0 x8_2; replace p28 := eq_true p28; replace q28 := eq_true q28; go_wp2; go_ret2; exact ⟨tZC, bZ⟩
          rw [if_pos c30] at H; have c30b0 : (x8_2 == 0) = true := beq_iff_eq.mpr c30; have c30b1 : (x8_2 != 0) = false := bne_eq_false_iff_eq.mpr c30; clear c30; have H' := Aside0.mk H; clear H; have p28 : 0 ≤ (x8_2 : Int) := of_decide_eq_true tZE; have q28 : x8_2 < (a0.size : Int) := of_decide_eq_true tZE; have hx28 := bt_at a0 x8_2; replace p28 := eq_true p28; replace q28 := eq_true q28; go_wp2
          go_roundg kj19
          case measure => have := HJ2.out; have := HK2.out; have := HJ7.out; have := HJ19.out; omega
          case rel => exact ⟨(x6_2), (x7_2), (wrap64 (x8_2 + 1)), tZB, tZB, tZB, H', ⟨by have := HJ2.out; have := HK2.out; have := HJ7.out; have := HJ19.out; omega⟩, ⟨bZ⟩⟩
     rw [if_neg c7] at H; have c7b0 := decide_eq_false c7; clear c7; have HC31 := Aside0.mk H; clear H
     go_upto_if 69 with (fail)
     go_cut [7, 9] (fun v7 v9 wc => ∃ (kq : Nat) (x7_30 : Int) (x9_30 : ByteArray), v7 = .int .i64 x7_30 ∧ v9 = .string x9_30 ∧ Aside0 (spec_ReadMoney.j4 kq a0 a1 x6_2 x7_30 x9_30 = some (r1, r2)) ∧ Aside0 (kq ≤ k2) ∧ Aside0 (Below w.heap.size w wc))
     case first =>
      have H := HC31.out; clear HC31
      by_cases c32 : x7_2 < 0
      rotate_left
      ·rw [if_neg c32] at H; have c32b0 := decide_eq_false c32; clear c32; (first | rw [c32b0] | (simp only [i64_w, i32_w]; rw [c32b0]) | skip)
       by_cases c35 : x7_2 = 0
       ·rw [if_pos c35] at H; have c35b0 : (x7_2 == 0) = true := beq_iff_eq.mpr c35; have c35b1 : (x7_2 != 0) = false := bne_eq_false_iff_eq.mpr c35; clear c35; simp only [Option.some.injEq, Prod.mk.injEq] at H; obtain ⟨rfl, rfl⟩ := H; go_wp2; go_ret2; exact ⟨tZC, bZ⟩
       rw [if_neg c35] at H; have c35b0 : (x7_2 == 0) = false := beq_eq_false_iff_ne.mpr c35; have c35b1 : (x7_2 != 0) = true := bne_iff_ne.mpr c35; have H' := Aside0.mk H; clear H; go_wp2; go_meet
       case rel => exact ⟨_, (x7_2), (a0), tZB, tZB, H', ⟨by have := HJ2.out; have := HK2.out; first | omega | exact Nat.le_refl _⟩, ⟨bZ⟩⟩
      rw [if_pos c32] at H; have c32b0 := decide_eq_true c32; clear c32; (first | rw [c32b0] | (simp only [i64_w, i32_w]; rw [c32b0]) | skip)
      by_cases c33 : a1 > 0
      rotate_left
      ·rw [if_neg c33] at H; have c33b0 : decide (0 < a1) = false := decide_eq_false c33; clear c33; have H' := Aside0.mk H; clear H; go_wp2; go_meet
       case rel => exact ⟨_, (0), (a0), tZB, tZB, H', ⟨by have := HJ2.out; have := HK2.out; first | omega | exact Nat.le_refl _⟩, ⟨bZ⟩⟩
      rw [if_pos c33] at H; have c33b0 : decide (0 < a1) = true := decide_eq_true c33; clear c33
      by_cases c34 : a0.size + 1 ≤ 9223372036854775807
      rotate_left
      ·rw [if_neg c34] at H; exact absurd H (by simp)
      rw [if_pos c34] at H; have c34b0 := eq_true c34; have c34b1 := decide_eq_true c34
      try have c34b2 := eq_false (Nat.not_lt.2 c34)
      have H' := Aside0.mk H; clear H; go_wp2; go_meet
      case rel => exact ⟨_, (0), (a0 ++ (⟨#[46]⟩ : ByteArray)), tZB, tZB, H', ⟨by have := HJ2.out; have := HK2.out; first | omega | exact Nat.le_refl _⟩, ⟨bZ⟩⟩
     case rest =>
      clear HC31; (try clear c6 c7 c7b0); obtain ⟨kq, x7_30, x9_30, rfl, rfl, HA, HJ30, HB⟩ := hcut
      cases kq with
      | zero => exact absurd HA.out (by simp [spec_ReadMoney.j4])
      | succ kj30 =>
       have H := HA.out; clear HA; simp only [spec_ReadMoney.j4] at H
       by_cases c36 : x7_30 > a1
       ·rw [if_pos c36] at H; have c36b0 : decide (a1 < x7_30) = true := decide_eq_true c36; clear c36; simp only [Option.some.injEq, Prod.mk.injEq] at H; obtain ⟨rfl, rfl⟩ := H; go_wp2; go_ret2; exact ⟨tZC, bZ⟩
       rw [if_neg c36] at H; have c36b0 : decide (a1 < x7_30) = false := decide_eq_false c36; clear c36; have H' := Aside0.mk H; clear H; go_wp2
       go_loopg [6, 7, 9] kj30 (fun kq v6 v7 v9 w' => ∃ (x6_4 : Int) (x7_4 : Int) (x9_4 : ByteArray), v6 = .int .i64 x6_4 ∧ v7 = .int .i64 x7_4 ∧ v9 = .string x9_4 ∧ Aside0 (spec_ReadMoney.l1 kq a0 a1 x6_4 x7_4 x9_4 = some (r1, r2)) ∧ Aside0 (kq ≤ kj30) ∧ Aside0 (Below w.heap.size w w'))
       case atStart => exact ⟨(x6_2), (x7_30), (x9_30), tZB, tZB, tZB, H', ⟨Nat.le_refl _⟩, ⟨bZ⟩⟩
       case round =>
        clear H'; (try clear c6 c7 c7b0 c36 c36b0); obtain ⟨x6_4, x7_4, x9_4, rfl, rfl, rfl, HA, HK4, HB⟩ := hrel
        cases gk with
        | zero => exact absurd HA.out (by simp [spec_ReadMoney.l1])
        | succ k4 =>
         have H := HA.out; clear HA; simp only [spec_ReadMoney.l1] at H
         by_cases c37 : x7_4 < a1
         ·rw [if_pos c37] at H; have c37b0 := decide_eq_true c37; clear c37
          by_cases c38 : x9_4.size + 1 ≤ 9223372036854775807
          rotate_left
          ·rw [if_neg c38] at H; exact absurd H (by simp)
          rw [if_pos c38] at H; have c38b0 := eq_true c38; have c38b1 := decide_eq_true c38
          try have c38b2 := eq_false (Nat.not_lt.2 c38)
          have H' := Aside0.mk H; clear H; go_wp2
          go_roundg k4
          case measure => have := HJ2.out; have := HK2.out; have := HJ30.out; have := HK4.out; omega
          case rel => exact ⟨(wrap64 (x6_4 * 10)), (wrap64 (x7_4 + 1)), (x9_4 ++ (⟨#[48]⟩ : ByteArray)), tZB, tZB, tZB, H', ⟨by have := HJ2.out; have := HK2.out; have := HJ30.out; have := HK4.out; omega⟩, ⟨bZ⟩⟩
         rw [if_neg c37] at H; have c37b0 := decide_eq_false c37; clear c37
         by_cases c39 : x6_4 > 100000000000
         ·rw [if_pos c39] at H; have c39b0 : decide (100000000000 < x6_4) = true := decide_eq_true c39; clear c39; simp only [Option.some.injEq, Prod.mk.injEq] at H; obtain ⟨rfl, rfl⟩ := H; go_wp2; go_ret2; exact ⟨tZC, bZ⟩
         rw [if_neg c39] at H; have c39b0 : decide (100000000000 < x6_4) = false := decide_eq_false c39; clear c39; have HC40 := Aside0.mk H; clear H
         go_upto_region 33 with (fail)
         go_cut [97] (fun v97 wc => ∃ (kq : Nat) (x97_39 : Bool), v97 = .bool x97_39 ∧ Aside0 (spec_ReadMoney.j6 kq a1 x6_4 x9_4 x97_39 = some (r1, r2)) ∧ Aside0 (kq ≤ k4) ∧ Aside0 (Below w.heap.size w wc))
         case first =>
          have H := HC40.out; clear HC40
          by_cases c41 : (a0.size : Int) > 0
          rotate_left
          ·rw [if_neg c41] at H; have c41b0 : decide (0 < (a0.size : Int)) = false := decide_eq_false c41; have c41b1 : decide (0 < a0.size) = false := decide_eq_false (by omega); clear c41; (first | rw [c41b0] | (simp only [i64_w, i32_w]; rw [c41b0]) | skip); have H' := Aside0.mk H; clear H; go_wp2; go_meet
           case rel => exact ⟨_, (false), tZB, H', ⟨by have := HJ2.out; have := HK2.out; have := HJ30.out; have := HK4.out; first | omega | exact Nat.le_refl _⟩, ⟨bZ⟩⟩
          rw [if_pos c41] at H; have c41b0 : decide (0 < (a0.size : Int)) = true := decide_eq_true c41; have c41b1 : decide (0 < a0.size) = true := decide_eq_true (by omega); clear c41; (first | rw [c41b0] | (simp only [i64_w, i32_w]; rw [c41b0]) | skip)
          by_cases c42 : 0 < (a0.size : Int)
          rotate_left
          ·rw [if_neg c42] at H; exact absurd H (by simp)
          rw [if_pos c42] at H; have c42b0 := decide_eq_true c42; have c42b1 : decide (0 < a0.size) = true := decide_eq_true (by omega); clear c42; have H' := Aside0.mk H; clear H; have p43 : 0 ≤ (0 : Int) := (by omega); have q43 : 0 < a0.size := (by have : (0 : Int) < (a0.size : Int) := of_decide_eq_true tZE; omega); have hx43 : ∀ h : 0 < a0.size, ((a0[0]'h).toNat : Int) = bt a0 0 := bt_at a0 0; clear p43; have qi43 : (0 < (a0.size : Int)) = True := eq_true (of_decide_eq_true tZE); replace q43 := eq_true q43; go_wp2; go_meet
          case rel => exact ⟨_, (((bt a0 0) == 45)), tZB, H', ⟨by have := HJ2.out; have := HK2.out; have := HJ30.out; have := HK4.out; first | omega | exact Nat.le_refl _⟩, ⟨bZ⟩⟩
         case rest =>
          clear HC40; (try clear c6 c7 c7b0 c36 c36b0 c37 c37b0 c39 c39b0); obtain ⟨kq, x97_39, rfl, HA, HJ39, HB⟩ := hcut
          cases kq with
          | zero => exact absurd HA.out (by simp [spec_ReadMoney.j6])
          | succ kj39 =>
           have H := HA.out; clear HA; simp only [spec_ReadMoney.j6] at H
           by_cases c44 : x97_39 = true
           rotate_left
           ·replace c44 := Bool.eq_false_iff.mpr c44; subst c44; rw [if_neg Bool.false_ne_true] at H; replace H := Option.bind_eq_some_iff.mp H; obtain ⟨t147, A490, H⟩ := H; replace H : (if t147.toList = x9_4.toList then (some (x6_4, true)) else (some (0, false))) = some (r1, r2) := H; have A49 := Aside0.mk A490; clear A490
            by_cases c50 : t147.toList = x9_4.toList
            rotate_left
            ·rw [if_neg c50] at H; have c50b0 : (t147.toList == x9_4.toList) = false := beq_eq_false_iff_ne.mpr c50; have c50b1 : (t147.toList != x9_4.toList) = true := bne_iff_ne.mpr c50; simp only [Option.some.injEq, Prod.mk.injEq] at H; obtain ⟨rfl, rfl⟩ := H
             go_wp2_with (first | ((with_reducible refine gate_callee (f := 149) rfl ?_); refine goesL_ (some 102) rfl rfl Try.func149 kZ rfl #[.int .i64 x6_4, .int .i64 a1] rfl tZA ?_; (with_reducible refine (spec_ShowMoney.calls kj39 x6_4 a1 t147 _ A49.out).mono ?_); rintro e w52 ⟨rfl, hb⟩; refine ⟨_, rfl, ?_⟩; replace HB := aZ (below_step (lZB HB.out) hb); (try clear hb); (try clear hb2); (try clear hk); (try clear hi)))
             go_ret2; exact ⟨tZC, bZ⟩
            rw [if_pos c50] at H; have c50b0 : (t147.toList == x9_4.toList) = true := beq_iff_eq.mpr c50; have c50b1 : (t147.toList != x9_4.toList) = false := bne_eq_false_iff_eq.mpr c50; clear c50; simp only [Option.some.injEq, Prod.mk.injEq] at H; obtain ⟨rfl, rfl⟩ := H
            go_wp2_with (first | ((with_reducible refine gate_callee (f := 149) rfl ?_); refine goesL_ (some 102) rfl rfl Try.func149 kZ rfl #[.int .i64 x6_4, .int .i64 a1] rfl tZA ?_; (with_reducible refine (spec_ShowMoney.calls kj39 x6_4 a1 t147 _ A49.out).mono ?_); rintro e w51 ⟨rfl, hb⟩; refine ⟨_, rfl, ?_⟩; replace HB := aZ (below_step (lZB HB.out) hb); (try clear hb); (try clear hb2); (try clear hk); (try clear hi)))
            go_ret2; exact ⟨tZC, bZ⟩
           subst c44; rw [if_pos rfl] at H; replace H := Option.bind_eq_some_iff.mp H; obtain ⟨t146, A450, H⟩ := H; replace H : (if t146.toList = x9_4.toList then (some (wrap64 (-x6_4), true)) else (some (0, false))) = some (r1, r2) := H; have A45 := Aside0.mk A450; clear A450
           by_cases c46 : t146.toList = x9_4.toList
           rotate_left
           ·rw [if_neg c46] at H; have c46b0 : (t146.toList == x9_4.toList) = false := beq_eq_false_iff_ne.mpr c46; have c46b1 : (t146.toList != x9_4.toList) = true := bne_iff_ne.mpr c46; simp only [Option.some.injEq, Prod.mk.injEq] at H; obtain ⟨rfl, rfl⟩ := H
            go_wp2_with (first | ((with_reducible refine gate_callee (f := 149) rfl ?_); refine goesL_ (some 102) rfl rfl Try.func149 kZ rfl #[.int .i64 (wrap64 (-x6_4)), .int .i64 a1] rfl tZA ?_; (with_reducible refine (spec_ShowMoney.calls kj39 (wrap64 (-x6_4)) a1 t146 _ A45.out).mono ?_); rintro e w48 ⟨rfl, hb⟩; refine ⟨_, rfl, ?_⟩; replace HB := aZ (below_step (lZB HB.out) hb); (try clear hb); (try clear hb2); (try clear hk); (try clear hi)))
            go_ret2; exact ⟨tZC, bZ⟩
           rw [if_pos c46] at H; have c46b0 : (t146.toList == x9_4.toList) = true := beq_iff_eq.mpr c46; have c46b1 : (t146.toList != x9_4.toList) = false := bne_eq_false_iff_eq.mpr c46; clear c46; simp only [Option.some.injEq, Prod.mk.injEq] at H; obtain ⟨rfl, rfl⟩ := H
           go_wp2_with (first | ((with_reducible refine gate_callee (f := 149) rfl ?_); refine goesL_ (some 102) rfl rfl Try.func149 kZ rfl #[.int .i64 (wrap64 (-x6_4)), .int .i64 a1] rfl tZA ?_; (with_reducible refine (spec_ShowMoney.calls kj39 (wrap64 (-x6_4)) a1 t146 _ A45.out).mono ?_); rintro e w47 ⟨rfl, hb⟩; refine ⟨_, rfl, ?_⟩; replace HB := aZ (below_step (lZB HB.out) hb); (try clear hb); (try clear hb2); (try clear hk); (try clear hi)))
           go_ret2; exact ⟨tZC, bZ⟩
end Go.Proofs.Ytjnmfadnkbflfaa.PFnExactParseFlow
