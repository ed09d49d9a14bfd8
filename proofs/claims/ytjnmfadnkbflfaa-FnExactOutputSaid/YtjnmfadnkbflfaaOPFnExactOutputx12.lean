import Derived.Test.YtjnmfadnkbflfaaOPFnExactOutputx0
import Derived.Test.YtjnmfadnkbflfaaOPFnExactOutputx10
import Derived.Test.YtjnmfadnkbflfaaOPFnExactOutputx11
import Derived.Test.YtjnmfadnkbflfaaOSlimWords
namespace Go.Proofs.Ytjnmfadnkbflfaa.PFnExactOutput
open Go.Proofs.Ytjnmfadnkbflfaa.SlimWords
open Go.RowKit Go.Proofs.YtjnmfadnkbflfaaW.PrintWords Go.Proofs.YtjnmfadnkbflfaaW.PrintLast Go.Proofs.YtjnmfadnkbflfaaW.PrintMore Go.Proofs.Ytjnmfadnkbflfaa.MapWords Go.Proofs.Ytjnmfadnkbflfaa.IterWords Go.Proofs.Ytjnmfadnkbflfaa.MarkWords Go.Proofs.Ytjnmfadnkbflfaa.ArrWords
attribute [local go_sem] ptrOf_slice max2_int min2_int max_two min_two max_three min_three max_four min_four
set_option linter.unusedVariables false
set_option linter.unusedSimpArgs false
mutual
def impl_ItemsOk.j0 : Nat → List (S130) → Bool → Option (Bool)
  | 0, _, _ => none
  | k + 1, x0, x19 => if x19 = true then (some false) else (impl_ItemsOk.l0 k x0 (([] : List ((ByteArray × Bool)))) x0 (x0.length : Int) 0)
def impl_ItemsOk.l0 : Nat → List (S130) → List ((ByteArray × Bool)) → List (S130) → Int → Int → Option (Bool)
  | 0, _, _, _, _, _ => none
  | k + 1, x0, x3, x21, x22, x23 => if x23 < x22 then (if 0 ≤ x23 then (if x23 < (x21.length : Int) then ((impl_NameOk.f k ((rd_T130 x21 x23).f0)).bind fun t290 => (if t290 = true then (if ((rd_T130 x21 x23).f0).size ≤ 9223372036854775807 then (if (mget false x3 ((rd_T130 x21 x23).f0)) = true then (impl_ItemsOk.j2 k x0 x3 x23 x21 x22 x23 true ((rd_T130 x21 x23).f0) ((rd_T130 x21 x23).f1) ((rd_T130 x21 x23).f2) ((rd_T130 x21 x23).f3) ((rd_T130 x21 x23).f4)) else ((impl_between.f ((rd_T130 x21 x23).f1) 1 1000000).bind fun t292 => (if t292 = true then (if (((rd_T130 x21 x23).f3).length : Int) > 30 then (impl_ItemsOk.j2 k x0 x3 x23 x21 x22 x23 true ((rd_T130 x21 x23).f0) ((rd_T130 x21 x23).f1) ((rd_T130 x21 x23).f2) ((rd_T130 x21 x23).f3) ((rd_T130 x21 x23).f4)) else (if (((rd_T130 x21 x23).f4).length : Int) > 30 then (impl_ItemsOk.j2 k x0 x3 x23 x21 x22 x23 true ((rd_T130 x21 x23).f0) ((rd_T130 x21 x23).f1) ((rd_T130 x21 x23).f2) ((rd_T130 x21 x23).f3) ((rd_T130 x21 x23).f4)) else (if (rd_T130 x21 x23).f2 = true then (if (((rd_T130 x21 x23).f3).length : Int) = 0 then (impl_ItemsOk.j2 k x0 x3 x23 x21 x22 x23 true ((rd_T130 x21 x23).f0) ((rd_T130 x21 x23).f1) ((rd_T130 x21 x23).f2) ((rd_T130 x21 x23).f3) ((rd_T130 x21 x23).f4)) else (impl_ItemsOk.j2 k x0 x3 x23 x21 x22 x23 (decide ((((rd_T130 x21 x23).f4).length : Int) > 0)) ((rd_T130 x21 x23).f0) ((rd_T130 x21 x23).f1) ((rd_T130 x21 x23).f2) ((rd_T130 x21 x23).f3) ((rd_T130 x21 x23).f4))) else (impl_ItemsOk.j2 k x0 x3 x23 x21 x22 x23 false ((rd_T130 x21 x23).f0) ((rd_T130 x21 x23).f1) ((rd_T130 x21 x23).f2) ((rd_T130 x21 x23).f3) ((rd_T130 x21 x23).f4))))) else (impl_ItemsOk.j2 k x0 x3 x23 x21 x22 x23 true ((rd_T130 x21 x23).f0) ((rd_T130 x21 x23).f1) ((rd_T130 x21 x23).f2) ((rd_T130 x21 x23).f3) ((rd_T130 x21 x23).f4))))) else (none)) else (impl_ItemsOk.j2 k x0 x3 x23 x21 x22 x23 true ((rd_T130 x21 x23).f0) ((rd_T130 x21 x23).f1) ((rd_T130 x21 x23).f2) ((rd_T130 x21 x23).f3) ((rd_T130 x21 x23).f4)))) else (none)) else (none)) else ((impl_levels.f k x0).bind fun t301 => (impl_ItemsOk.l3 k t301 (t301.length : Int) 0))
def impl_ItemsOk.j2 : Nat → List (S130) → List ((ByteArray × Bool)) → Int → List (S130) → Int → Int → Bool → ByteArray → Int → Bool → List (S149) → List (S149) → Option (Bool)
  | 0, _, _, _, _, _, _, _, _, _, _, _, _ => none
  | k + 1, x0, x3, x4, x21, x22, x23, x71, x290000, x290001, x290002, x290003, x290004 => if x71 = true then (some false) else (if x290000.size ≤ 9223372036854775807 then (if x3.length < 140737488355328 then (impl_ItemsOk.l1 k x0 ((x290000, true) :: x3) x4 x21 x22 x23 x290003 (x290003.length : Int) 0 x290000 x290001 x290002 x290003 x290004) else (none)) else (none))
def impl_ItemsOk.l1 : Nat → List (S130) → List ((ByteArray × Bool)) → Int → List (S130) → Int → Int → List (S149) → Int → Int → ByteArray → Int → Bool → List (S149) → List (S149) → Option (Bool)
  | 0, _, _, _, _, _, _, _, _, _, _, _, _, _, _ => none
  | k + 1, x0, x3, x4, x21, x22, x23, x76, x77, x78, x290000, x290001, x290002, x290003, x290004 => if x78 < x77 then (if 0 ≤ x78 then (if x78 < (x76.length : Int) then ((impl_partOk.f ((rd_T149 x76 x78).f0) ((rd_T149 x76 x78).f1) ((rd_T149 x76 x78).f2) ((rd_T149 x76 x78).f3) ((rd_T149 x76 x78).f4) ((rd_T149 x76 x78).f5) x4 (x0.length : Int) false).bind fun t297 => (if t297 = true then (impl_ItemsOk.l1 k x0 x3 x4 x21 x22 x23 x76 x77 (wrap64 (x78 + 1)) x290000 x290001 x290002 x290003 x290004) else (some false))) else (none)) else (none)) else (impl_ItemsOk.l2 k x0 x3 x4 x21 x22 x23 x290004 (x290004.length : Int) 0)
def impl_ItemsOk.l2 : Nat → List (S130) → List ((ByteArray × Bool)) → Int → List (S130) → Int → Int → List (S149) → Int → Int → Option (Bool)
  | 0, _, _, _, _, _, _, _, _, _ => none
  | k + 1, x0, x3, x4, x21, x22, x23, x90, x91, x92 => if x92 < x91 then (if 0 ≤ x92 then (if x92 < (x90.length : Int) then ((impl_partOk.f ((rd_T149 x90 x92).f0) ((rd_T149 x90 x92).f1) ((rd_T149 x90 x92).f2) ((rd_T149 x90 x92).f3) ((rd_T149 x90 x92).f4) ((rd_T149 x90 x92).f5) x4 (x0.length : Int) true).bind fun t300 => (if t300 = true then (impl_ItemsOk.l2 k x0 x3 x4 x21 x22 x23 x90 x91 (wrap64 (x92 + 1))) else (some false))) else (none)) else (none)) else (impl_ItemsOk.l0 k x0 x3 x21 x22 (wrap64 (x23 + 1)))
def impl_ItemsOk.l3 : Nat → List Int → Int → Int → Option (Bool)
  | 0, _, _, _ => none
  | k + 1, x105, x106, x107 => if x107 < x106 then (if 0 ≤ x107 then (if x107 < (x105.length : Int) then (if (rd x105 x107) > 20 then (some false) else (impl_ItemsOk.l3 k x105 x106 (wrap64 (x107 + 1)))) else (none)) else (none)) else (some true)
end
def impl_ItemsOk.f (k : Nat) (l0 : List (S130)) : Option (Bool) := if (l0.length : Int) < 1 then (impl_ItemsOk.j0 k l0 true) else (impl_ItemsOk.j0 k l0 (decide ((l0.length : Int) > 60)))
theorem impl_ItemsOk.mono_l : ∀ k, (∀ y0 y1, LeO (impl_ItemsOk.j0 k y0 y1) (impl_ItemsOk.j0 (k + 1) y0 y1)) ∧ (∀ y0 y1 y2 y3 y4, LeO (impl_ItemsOk.l0 k y0 y1 y2 y3 y4) (impl_ItemsOk.l0 (k + 1) y0 y1 y2 y3 y4)) ∧ (∀ y0 y1 y2 y3 y4 y5 y6 y7 y8 y9 y10 y11, LeO (impl_ItemsOk.j2 k y0 y1 y2 y3 y4 y5 y6 y7 y8 y9 y10 y11) (impl_ItemsOk.j2 (k + 1) y0 y1 y2 y3 y4 y5 y6 y7 y8 y9 y10 y11)) ∧ (∀ y0 y1 y2 y3 y4 y5 y6 y7 y8 y9 y10 y11 y12 y13, LeO (impl_ItemsOk.l1 k y0 y1 y2 y3 y4 y5 y6 y7 y8 y9 y10 y11 y12 y13) (impl_ItemsOk.l1 (k + 1) y0 y1 y2 y3 y4 y5 y6 y7 y8 y9 y10 y11 y12 y13)) ∧ (∀ y0 y1 y2 y3 y4 y5 y6 y7 y8, LeO (impl_ItemsOk.l2 k y0 y1 y2 y3 y4 y5 y6 y7 y8) (impl_ItemsOk.l2 (k + 1) y0 y1 y2 y3 y4 y5 y6 y7 y8)) ∧ (∀ y0 y1 y2, LeO (impl_ItemsOk.l3 k y0 y1 y2) (impl_ItemsOk.l3 (k + 1) y0 y1 y2))
  | 0 => ⟨fun _ _ r h => by simp [impl_ItemsOk.j0] at h, fun _ _ _ _ _ r h => by simp [impl_ItemsOk.l0] at h, fun _ _ _ _ _ _ _ _ _ _ _ _ r h => by simp [impl_ItemsOk.j2] at h, fun _ _ _ _ _ _ _ _ _ _ _ _ _ _ r h => by simp [impl_ItemsOk.l1] at h, fun _ _ _ _ _ _ _ _ _ r h => by simp [impl_ItemsOk.l2] at h, fun _ _ _ r h => by simp [impl_ItemsOk.l3] at h⟩
  | k + 1 => by
    obtain ⟨ih0, ih1, ih2, ih3, ih4, ih5⟩ := impl_ItemsOk.mono_l k
    refine ⟨?_, ?_, ?_, ?_, ?_, ?_⟩
    · intro y0 y1
      unfold impl_ItemsOk.j0
      repeat' first
      | (with_reducible exact ih0 _ _)
      | (with_reducible exact ih1 _ _ _ _ _)
      | (with_reducible exact ih2 _ _ _ _ _ _ _ _ _ _ _ _)
      | (with_reducible exact ih3 _ _ _ _ _ _ _ _ _ _ _ _ _ _)
      | (with_reducible exact ih4 _ _ _ _ _ _ _ _ _)
      | (with_reducible exact ih5 _ _ _)
      | (with_reducible exact impl_NameOk.mono _ _)
      | (with_reducible exact impl_levels.mono _ _)
      | (with_reducible exact LeO.refl _)
      | (with_reducible exact LeO.none _)
      | (with_reducible refine LeO.ite ?_ ?_)
      | (with_reducible refine LeO.bind ?_ (fun _ => ?_))
      | exact ih0 _ _
      | exact ih1 _ _ _ _ _
      | exact ih2 _ _ _ _ _ _ _ _ _ _ _ _
      | exact ih3 _ _ _ _ _ _ _ _ _ _ _ _ _ _
      | exact ih4 _ _ _ _ _ _ _ _ _
      | exact ih5 _ _ _
      | exact impl_NameOk.mono _ _
      | exact impl_levels.mono _ _
      | exact LeO.none _
      | refine LeO.ite ?_ ?_
      | refine LeO.bind ?_ (fun _ => ?_)
    · intro y0 y1 y2 y3 y4
      unfold impl_ItemsOk.l0
      repeat' first
      | (with_reducible exact ih0 _ _)
      | (with_reducible exact ih1 _ _ _ _ _)
      | (with_reducible exact ih2 _ _ _ _ _ _ _ _ _ _ _ _)
      | (with_reducible exact ih3 _ _ _ _ _ _ _ _ _ _ _ _ _ _)
      | (with_reducible exact ih4 _ _ _ _ _ _ _ _ _)
      | (with_reducible exact ih5 _ _ _)
      | (with_reducible exact impl_NameOk.mono _ _)
      | (with_reducible exact impl_levels.mono _ _)
      | (with_reducible exact LeO.refl _)
      | (with_reducible exact LeO.none _)
      | (with_reducible refine LeO.ite ?_ ?_)
      | (with_reducible refine LeO.bind ?_ (fun _ => ?_))
      | exact ih0 _ _
      | exact ih1 _ _ _ _ _
      | exact ih2 _ _ _ _ _ _ _ _ _ _ _ _
      | exact ih3 _ _ _ _ _ _ _ _ _ _ _ _ _ _
      | exact ih4 _ _ _ _ _ _ _ _ _
      | exact ih5 _ _ _
      | exact impl_NameOk.mono _ _
      | exact impl_levels.mono _ _
      | exact LeO.none _
      | refine LeO.ite ?_ ?_
      | refine LeO.bind ?_ (fun _ => ?_)
    · intro y0 y1 y2 y3 y4 y5 y6 y7 y8 y9 y10 y11
      unfold impl_ItemsOk.j2
      repeat' first
      | (with_reducible exact ih0 _ _)
      | (with_reducible exact ih1 _ _ _ _ _)
      | (with_reducible exact ih2 _ _ _ _ _ _ _ _ _ _ _ _)
      | (with_reducible exact ih3 _ _ _ _ _ _ _ _ _ _ _ _ _ _)
      | (with_reducible exact ih4 _ _ _ _ _ _ _ _ _)
      | (with_reducible exact ih5 _ _ _)
      | (with_reducible exact impl_NameOk.mono _ _)
      | (with_reducible exact impl_levels.mono _ _)
      | (with_reducible exact LeO.refl _)
      | (with_reducible exact LeO.none _)
      | (with_reducible refine LeO.ite ?_ ?_)
      | (with_reducible refine LeO.bind ?_ (fun _ => ?_))
      | exact ih0 _ _
      | exact ih1 _ _ _ _ _
      | exact ih2 _ _ _ _ _ _ _ _ _ _ _ _
      | exact ih3 _ _ _ _ _ _ _ _ _ _ _ _ _ _
      | exact ih4 _ _ _ _ _ _ _ _ _
      | exact ih5 _ _ _
      | exact impl_NameOk.mono _ _
      | exact impl_levels.mono _ _
      | exact LeO.none _
      | refine LeO.ite ?_ ?_
      | refine LeO.bind ?_ (fun _ => ?_)
    · intro y0 y1 y2 y3 y4 y5 y6 y7 y8 y9 y10 y11 y12 y13
      unfold impl_ItemsOk.l1
      repeat' first
      | (with_reducible exact ih0 _ _)
      | (with_reducible exact ih1 _ _ _ _ _)
      | (with_reducible exact ih2 _ _ _ _ _ _ _ _ _ _ _ _)
      | (with_reducible exact ih3 _ _ _ _ _ _ _ _ _ _ _ _ _ _)
      | (with_reducible exact ih4 _ _ _ _ _ _ _ _ _)
      | (with_reducible exact ih5 _ _ _)
      | (with_reducible exact impl_NameOk.mono _ _)
      | (with_reducible exact impl_levels.mono _ _)
      | (with_reducible exact LeO.refl _)
      | (with_reducible exact LeO.none _)
      | (with_reducible refine LeO.ite ?_ ?_)
      | (with_reducible refine LeO.bind ?_ (fun _ => ?_))
      | exact ih0 _ _
      | exact ih1 _ _ _ _ _
      | exact ih2 _ _ _ _ _ _ _ _ _ _ _ _
      | exact ih3 _ _ _ _ _ _ _ _ _ _ _ _ _ _
      | exact ih4 _ _ _ _ _ _ _ _ _
      | exact ih5 _ _ _
      | exact impl_NameOk.mono _ _
      | exact impl_levels.mono _ _
      | exact LeO.none _
      | refine LeO.ite ?_ ?_
      | refine LeO.bind ?_ (fun _ => ?_)
    · intro y0 y1 y2 y3 y4 y5 y6 y7 y8
      unfold impl_ItemsOk.l2
      repeat' first
      | (with_reducible exact ih0 _ _)
      | (with_reducible exact ih1 _ _ _ _ _)
      | (with_reducible exact ih2 _ _ _ _ _ _ _ _ _ _ _ _)
      | (with_reducible exact ih3 _ _ _ _ _ _ _ _ _ _ _ _ _ _)
      | (with_reducible exact ih4 _ _ _ _ _ _ _ _ _)
      | (with_reducible exact ih5 _ _ _)
      | (with_reducible exact impl_NameOk.mono _ _)
      | (with_reducible exact impl_levels.mono _ _)
      | (with_reducible exact LeO.refl _)
      | (with_reducible exact LeO.none _)
      | (with_reducible refine LeO.ite ?_ ?_)
      | (with_reducible refine LeO.bind ?_ (fun _ => ?_))
      | exact ih0 _ _
      | exact ih1 _ _ _ _ _
      | exact ih2 _ _ _ _ _ _ _ _ _ _ _ _
      | exact ih3 _ _ _ _ _ _ _ _ _ _ _ _ _ _
      | exact ih4 _ _ _ _ _ _ _ _ _
      | exact ih5 _ _ _
      | exact impl_NameOk.mono _ _
      | exact impl_levels.mono _ _
      | exact LeO.none _
      | refine LeO.ite ?_ ?_
      | refine LeO.bind ?_ (fun _ => ?_)
    · intro y0 y1 y2
      unfold impl_ItemsOk.l3
      repeat' first
      | (with_reducible exact ih0 _ _)
      | (with_reducible exact ih1 _ _ _ _ _)
      | (with_reducible exact ih2 _ _ _ _ _ _ _ _ _ _ _ _)
      | (with_reducible exact ih3 _ _ _ _ _ _ _ _ _ _ _ _ _ _)
      | (with_reducible exact ih4 _ _ _ _ _ _ _ _ _)
      | (with_reducible exact ih5 _ _ _)
      | (with_reducible exact impl_NameOk.mono _ _)
      | (with_reducible exact impl_levels.mono _ _)
      | (with_reducible exact LeO.refl _)
      | (with_reducible exact LeO.none _)
      | (with_reducible refine LeO.ite ?_ ?_)
      | (with_reducible refine LeO.bind ?_ (fun _ => ?_))
      | exact ih0 _ _
      | exact ih1 _ _ _ _ _
      | exact ih2 _ _ _ _ _ _ _ _ _ _ _ _
      | exact ih3 _ _ _ _ _ _ _ _ _ _ _ _ _ _
      | exact ih4 _ _ _ _ _ _ _ _ _
      | exact ih5 _ _ _
      | exact impl_NameOk.mono _ _
      | exact impl_levels.mono _ _
      | exact LeO.none _
      | refine LeO.ite ?_ ?_
      | refine LeO.bind ?_ (fun _ => ?_)
theorem impl_ItemsOk.mono : ∀ a0 k, LeO (impl_ItemsOk.f k a0) (impl_ItemsOk.f (k + 1) a0) := by
 intro a0 k
 obtain ⟨ih0, ih1, ih2, ih3, ih4, ih5⟩ := impl_ItemsOk.mono_l k
 unfold impl_ItemsOk.f
 repeat' first
     | (with_reducible exact ih0 _ _)
     | (with_reducible exact ih1 _ _ _ _ _)
     | (with_reducible exact ih2 _ _ _ _ _ _ _ _ _ _ _ _)
     | (with_reducible exact ih3 _ _ _ _ _ _ _ _ _ _ _ _ _ _)
     | (with_reducible exact ih4 _ _ _ _ _ _ _ _ _)
     | (with_reducible exact ih5 _ _ _)
     | (with_reducible exact impl_NameOk.mono _ _)
     | (with_reducible exact impl_levels.mono _ _)
     | (with_reducible exact LeO.refl _)
     | (with_reducible exact LeO.none _)
     | (with_reducible refine LeO.ite ?_ ?_)
     | (with_reducible refine LeO.bind ?_ (fun _ => ?_))
     | exact ih0 _ _
     | exact ih1 _ _ _ _ _
     | exact ih2 _ _ _ _ _ _ _ _ _ _ _ _
     | exact ih3 _ _ _ _ _ _ _ _ _ _ _ _ _ _
     | exact ih4 _ _ _ _ _ _ _ _ _
     | exact ih5 _ _ _
     | exact impl_NameOk.mono _ _
     | exact impl_levels.mono _ _
     | exact LeO.none _
     | refine LeO.ite ?_ ?_
     | refine LeO.bind ?_ (fun _ => ?_)
set_option maxHeartbeats 8000000 in
set_option maxRecDepth 100000 in
theorem impl_ItemsOk.calls (k : Nat) (A0 : Option Addr) (c0 : Nat) (l0 : List (S130)) (r : Bool) (w : World) (hr0 : Kd.C k130 w A0 l0.length l0) (hc0 : l0.length ≤ c0) (h : impl_ItemsOk.f k l0 = some r) :
    Calls Try.prog 91 #[.slice A0 l0.length c0] w fun e w' => e = .returned (.bool r) ∧ Below w.heap.size w w' := by
 have hu130 := Try.underlying130
 have hu149 := Try.underlying149
 have HR0 := Aside0.mk hr0
 have HC0 := Aside0.mk hc0
 clear hr0 hc0
 have HB := aZ (Below.refl w.heap.size w)
 have H : (if (l0.length : Int) < 1 then (impl_ItemsOk.j0 k l0 true) else (impl_ItemsOk.j0 k l0 (decide ((l0.length : Int) > 60)))) = some r := h
 clear h
 have HC2 := Aside0.mk H
 clear H
 go_enter Try.func91, Try.ntmps91
 go_upto_region 1 with (fail)
 go_cut [19] (fun v19 wc => ∃ (kq : Nat) (x19_1 : Bool), v19 = .bool x19_1 ∧ Aside0 (impl_ItemsOk.j0 kq l0 x19_1 = some r) ∧ Aside0 (kq ≤ k) ∧ Aside0 (Below w.heap.size w wc))
 case first =>
  have H := HC2.out
  clear HC2
  by_cases c3 : (l0.length : Int) < 1
  ·rw [if_pos c3] at H
   have c3b0 := decide_eq_true c3
   have c3b1 : decide (l0.length < 1) = true := decide_eq_true (by omega)
   clear c3
   (first | rw [c3b0] | (simp only [i64_w, i32_w]; rw [c3b0]) | skip)
   have H' := Aside0.mk H
   clear H
   go_wp2
   go_meet
   case rel => exact ⟨_, (true), tZB, H', ⟨by first | omega | exact Nat.le_refl _⟩, ⟨bZ⟩⟩
  rw [if_neg c3] at H
  have c3b0 := decide_eq_false c3
  have c3b1 : decide (l0.length < 1) = false := decide_eq_false (by omega)
  clear c3
  (first | rw [c3b0] | (simp only [i64_w, i32_w]; rw [c3b0]) | skip)
  have H' := Aside0.mk H
  clear H
  go_wp2
  go_meet
  case rel => exact ⟨_, (decide ((l0.length : Int) > 60)), tZB, H', ⟨by first | omega | exact Nat.le_refl _⟩, ⟨bZ⟩⟩
 case rest =>
  clear HC2
  try clear p2
  try clear c3
  try clear c3b0
  try clear c3b1
  obtain ⟨kq, x19_1, rfl, HA, HJ1, HB⟩ := hcut
  cases kq with
  | zero => exact absurd HA.out (by simp [impl_ItemsOk.j0])
  | succ kj1 =>
   have H := HA.out
   clear HA
   simp only [impl_ItemsOk.j0] at H
   by_cases c4 : x19_1 = true
   ·subst c4
    have H1 : (some false) = some r := by rw [if_pos rfl] at H; exact H
    clear H
    have H := H1
    clear H1
    obtain rfl := Option.some.inj H
    go_wp2
    go_ret
    exact ⟨tZC, bZ⟩
   replace c4 := Bool.eq_false_iff.mpr c4
   subst c4
   have H1 : (impl_ItemsOk.l0 kj1 l0 (([] : List ((ByteArray × Bool)))) l0 (l0.length : Int) 0) = some r := by rw [if_neg (show ¬ (false = true) by decide)] at H; exact H
   clear H
   have H := H1
   clear H1
   obtain ⟨y285, hy285⟩ : ∃ y_ : List ((ByteArray × Bool)), y_ = (([] : List ((ByteArray × Bool)))) := ⟨_, rfl⟩
   replace H : (impl_ItemsOk.l0 kj1 l0 y285 l0 (l0.length : Int) 0) = some r := by first | (rw [hy285]; with_reducible exact H) | (have H2_ := (Option.bind_some _ _).symm.trans H; rw [hy285]; with_reducible exact H2_) | (have H2_ := (Option.bind_some _ _).symm.trans H; with_reducible exact H2_) | with_reducible exact H | (rw [hy285]; exact H) | exact H
   have Ny285 := Aside0.mk hy285
   clear hy285
   have H' := Aside0.mk H
   clear H
   go_wp2_with (first | ((with_reducible refine gate_dst (N := 20) rfl ?_); (try (refine gate_guard (by rfl) ?_; dsimp only)); refine Kd.Y_make my144 144 rfl rfl rfl ?_; intro v286 w5 ho6 hb; rw [← Ny285.out] at ho6; have HO287 := aZ (Kd.Y_lower ho6 (below_size (lZB HB.out))); replace HB := aZ (below_step (lZB HB.out) hb); clear hb ho6))
   go_loopg [23] kj1 (fun kq v23 w' => ∃ (x3_2 : List ((ByteArray × Bool))) (x23_2 : Int), v23 = .int .i64 x23_2 ∧ Aside0 (impl_ItemsOk.l0 kq l0 x3_2 l0 (l0.length : Int) x23_2 = some r) ∧ Aside0 (kq ≤ kj1) ∧ Aside0 (Kd.Y my144 144 w' w.heap.size (fun _ => True) v286 x3_2) ∧ Aside0 (Below w.heap.size w w'))
   case atStart => exact ⟨(y285), (0), tZB, H', ⟨Nat.le_refl _⟩, ⟨lZY HO287.out⟩, ⟨bZ⟩⟩
   case round =>
    clear H'
    try clear p2
    try clear c3
    try clear c3b0
    try clear c3b1
    try clear c4
    try clear p2
    obtain ⟨x3_2, x23_2, rfl, HA, HK2, HO_3, HB⟩ := hrel
    cases gk with
    | zero => exact absurd HA.out (by simp [impl_ItemsOk.l0])
    | succ k2 =>
     have H := HA.out
     clear HA
     simp only [impl_ItemsOk.l0] at H
     by_cases c7 : x23_2 < (l0.length : Int)
     rotate_left
     ·rw [if_neg c7] at H
      have c7b0 := decide_eq_false c7
      clear c7
      replace H := Option.bind_eq_some_iff.mp H
      obtain ⟨t301, A720, H⟩ := H
      replace H : (impl_ItemsOk.l3 k2 t301 (t301.length : Int) 0) = some r := H
      have A72 := Aside0.mk A720
      clear A720
      have H' := Aside0.mk H
      clear H
      go_wp2_with (first | ((with_reducible refine gate_callee (f := 92) rfl ?_); refine goesL_ (some 105) rfl rfl Try.func92 kZ rfl #[.slice A0 l0.length c0] rfl tZA ?_; (with_reducible refine (impl_levels.calls k2 _ _ l0 t301 _ ?side1 ?side2 A72.out).mono ?_); (case side1 => repeat (first | exact (Kd.C_below HR0.out HB.out) | (with_reducible refine Kd.C_alloc ?_ _) | (with_reducible refine Kd.C_drewN ?_ _) | (with_reducible refine Kd.C_drew ?_))); (case side2 => exact HC0.out); rintro e w73 ⟨v302, rfl, ho0, hb⟩; refine ⟨_, rfl, ?_⟩; replace HO_3 := aZ (Kd.Y_below (lZY HO_3.out) hb); have HO303 := aZ (Kd.R_lower ho0 (below_size (lZB HB.out))); replace HB := aZ (below_step (lZB HB.out) hb); (try clear hb); (try clear hb2); (try clear hk); (try clear hi); (try clear ho0); obtain ⟨Ao74, co74, eo74⟩ := Kd.R_slice HO303.out; subst eo74))
      go_loopg [107] k2 (fun kq v107 w' => ∃ (x107_3 : Int), v107 = .int .i64 x107_3 ∧ Aside0 (impl_ItemsOk.l3 kq t301 (t301.length : Int) x107_3 = some r) ∧ Aside0 (kq ≤ k2) ∧ Aside0 (Kd.R (Kd.int .i64) 3 w' w.heap.size (fun _ => True) (.slice Ao74 t301.length co74) t301) ∧ Aside0 (Below w.heap.size w w'))
      case atStart => exact ⟨(0), tZB, H', ⟨Nat.le_refl _⟩, ⟨lZR HO303.out⟩, ⟨bZ⟩⟩
      case round =>
       clear H'
       try clear c1
       try clear hcv1
       try clear c2
       try clear p2
       try clear q2
       try clear hx2
       try clear hcv2
       try clear c3
       try clear c3b0
       try clear c3b1
       try clear hcv3
       try clear c4
       try clear c5
       try clear c6
       try clear p6
       try clear c7
       try clear c7b0
       try clear c8
       try clear c8b0
       try clear c9
       try clear c9b0
       try clear c11
       try clear c14
       try clear c15
       try clear c15b0
       try clear c15b1
       try clear c15b2
       try clear c16
       try clear hcv18
       try clear c20
       try clear c21
       try clear c21b0
       try clear c21b1
       try clear hcv23
       try clear c24
       try clear c24b0
       try clear c24b1
       try clear hcv26
       try clear q27
       try clear c28
       try clear p28
       try clear q28
       try clear hx28
       try clear c29
       try clear c29b0
       try clear c29b1
       try clear c29b2
       try clear p29
       try clear q29
       try clear hx29
       try clear hcv31
       try clear hcv33
       try clear hcv35
       try clear hcv37
       try clear c39
       try clear c40
       try clear c40b0
       try clear c40b1
       try clear c40b2
       try clear c41
       try clear c45
       try clear c45b0
       try clear c46
       try clear c46b0
       try clear c47
       try clear c47b0
       try clear c49
       try clear c51
       try clear c55
       try clear c59
       try clear c59b0
       try clear c60
       try clear c60b0
       try clear c61
       try clear c61b0
       try clear c63
       try clear p64
       try clear c65
       try clear c69
       try clear hcz12_0
       try clear hcz12_1
       try clear hcz12_2
       try clear hcz12_3
       try clear hcz12_4
       try clear hcz17_0
       try clear hcz17_1
       try clear hcz17_2
       try clear hcz17_3
       try clear hcz17_4
       try clear hcz22_0
       try clear hcz22_1
       try clear hcz22_2
       try clear hcz22_3
       try clear hcz22_4
       try clear hcz25_0
       try clear hcz25_1
       try clear hcz25_2
       try clear hcz25_3
       try clear hcz25_4
       try clear hcz30_0
       try clear hcz30_1
       try clear hcz30_2
       try clear hcz30_3
       try clear hcz30_4
       try clear hcz32_0
       try clear hcz32_1
       try clear hcz32_2
       try clear hcz32_3
       try clear hcz32_4
       try clear hcz34_0
       try clear hcz34_1
       try clear hcz34_2
       try clear hcz34_3
       try clear hcz34_4
       try clear hcz36_0
       try clear hcz36_1
       try clear hcz36_2
       try clear hcz36_3
       try clear hcz36_4
       try clear hcz38_0
       try clear hcz38_1
       try clear hcz38_2
       try clear hcz38_3
       try clear hcz38_4
       try clear hcz42_0
       try clear hcz42_1
       try clear hcz42_2
       try clear hcz42_3
       try clear hcz42_4
       try clear hcz44_0
       try clear hcz44_1
       try clear hcz44_2
       try clear hcz44_3
       try clear hcz44_4
       try clear hcz52_0
       try clear hcz52_1
       try clear hcz52_2
       try clear hcz52_3
       try clear hcz52_4
       try clear hcz52_5
       try clear hcz56_0
       try clear hcz56_1
       try clear hcz56_2
       try clear hcz56_3
       try clear hcz56_4
       try clear hcz56_5
       try clear hcz58_0
       try clear hcz58_1
       try clear hcz58_2
       try clear hcz58_3
       try clear hcz58_4
       try clear hcz66_0
       try clear hcz66_1
       try clear hcz66_2
       try clear hcz66_3
       try clear hcz66_4
       try clear hcz66_5
       try clear hcz70_0
       try clear hcz70_1
       try clear hcz70_2
       try clear hcz70_3
       try clear hcz70_4
       try clear hcz70_5
       try clear hfz12_0
       try clear hfz12_1
       try clear hfz12_2
       try clear hfz12_3
       try clear hfz12_4
       try clear hfz17_0
       try clear hfz17_1
       try clear hfz17_2
       try clear hfz17_3
       try clear hfz17_4
       try clear hfz22_0
       try clear hfz22_1
       try clear hfz22_2
       try clear hfz22_3
       try clear hfz22_4
       try clear hfz25_0
       try clear hfz25_1
       try clear hfz25_2
       try clear hfz25_3
       try clear hfz25_4
       try clear hfz30_0
       try clear hfz30_1
       try clear hfz30_2
       try clear hfz30_3
       try clear hfz30_4
       try clear hfz32_0
       try clear hfz32_1
       try clear hfz32_2
       try clear hfz32_3
       try clear hfz32_4
       try clear hfz34_0
       try clear hfz34_1
       try clear hfz34_2
       try clear hfz34_3
       try clear hfz34_4
       try clear hfz36_0
       try clear hfz36_1
       try clear hfz36_2
       try clear hfz36_3
       try clear hfz36_4
       try clear hfz38_0
       try clear hfz38_1
       try clear hfz38_2
       try clear hfz38_3
       try clear hfz38_4
       try clear hfz42_0
       try clear hfz42_1
       try clear hfz42_2
       try clear hfz42_3
       try clear hfz42_4
       try clear hfz44_0
       try clear hfz44_1
       try clear hfz44_2
       try clear hfz44_3
       try clear hfz44_4
       try clear hfz52_0
       try clear hfz52_1
       try clear hfz52_2
       try clear hfz52_3
       try clear hfz52_4
       try clear hfz52_5
       try clear hfz56_0
       try clear hfz56_1
       try clear hfz56_2
       try clear hfz56_3
       try clear hfz56_4
       try clear hfz56_5
       try clear hfz58_0
       try clear hfz58_1
       try clear hfz58_2
       try clear hfz58_3
       try clear hfz58_4
       try clear hfz66_0
       try clear hfz66_1
       try clear hfz66_2
       try clear hfz66_3
       try clear hfz66_4
       try clear hfz66_5
       try clear hfz70_0
       try clear hfz70_1
       try clear hfz70_2
       try clear hfz70_3
       try clear hfz70_4
       try clear hfz70_5
       try clear hx288_0
       try clear hx288_1
       try clear hx288_2
       try clear hx288_3
       try clear hx288_4
       try clear hx295_0
       try clear hx295_1
       try clear hx295_2
       try clear hx295_3
       try clear hx295_4
       try clear hx295_5
       try clear hx298_0
       try clear hx298_1
       try clear hx298_2
       try clear hx298_3
       try clear hx298_4
       try clear hx298_5
       try clear p2
       try clear p28
       try clear p288
       try clear p29
       try clear p295
       try clear p298
       try clear p6
       try clear q2
       try clear q27
       try clear q28
       try clear q288
       try clear q29
       try clear q295
       try clear q298
       obtain ⟨x107_3, rfl, HA, HK3, HO_105, HB⟩ := hrel
       cases gk with
       | zero => exact absurd HA.out (by simp [impl_ItemsOk.l3])
       | succ k3 =>
        have H := HA.out
        clear HA
        simp only [impl_ItemsOk.l3] at H
        by_cases c75 : x107_3 < (t301.length : Int)
        rotate_left
        ·rw [if_neg c75] at H
         have c75b0 := decide_eq_false c75
         clear c75
         obtain rfl := Option.some.inj H
         go_wp2
         go_ret
         exact ⟨tZC, bZ⟩
        rw [if_pos c75] at H
        have c75b0 := decide_eq_true c75
        clear c75
        by_cases c76 : 0 ≤ x107_3
        rotate_left
        ·rw [if_neg c76] at H
         exact absurd H (by simp)
        rw [if_pos c76] at H
        have c76b0 := decide_eq_true c76
        clear c76
        by_cases c77 : x107_3 < (t301.length : Int)
        rotate_left
        ·rw [if_neg c77] at H
         exact absurd H (by simp)
        rw [if_pos c77] at H
        have c77b0 := decide_eq_true c77
        clear c77
        by_cases c78 : (rd t301 x107_3) > 20
        ·rw [if_pos c78] at H
         have c78b0 : decide (20 < (rd t301 x107_3)) = true := decide_eq_true c78
         clear c78
         obtain rfl := Option.some.inj H
         have p304 : 0 ≤ (x107_3 : Int) := of_decide_eq_true tZE
         have q304 : x107_3 < (t301.length : Int) := of_decide_eq_true tZE
         obtain ⟨ad304, e304, hx304_0⟩ := Kd.at_int (Kd.R_reads' HO_105.out).2.2 x107_3 p304 q304
         cases e304
         replace p304 := eq_true p304
         replace q304 := eq_true q304
         go_wp2
         go_ret
         exact ⟨tZC, bZ⟩
        rw [if_neg c78] at H
        have c78b0 : decide (20 < (rd t301 x107_3)) = false := decide_eq_false c78
        clear c78
        have H' := Aside0.mk H
        clear H
        have p304 : 0 ≤ (x107_3 : Int) := of_decide_eq_true tZE
        have q304 : x107_3 < (t301.length : Int) := of_decide_eq_true tZE
        obtain ⟨ad304, e304, hx304_0⟩ := Kd.at_int (Kd.R_reads' HO_105.out).2.2 x107_3 p304 q304
        cases e304
        replace p304 := eq_true p304
        replace q304 := eq_true q304
        go_wp2
        go_roundg k3
        case measure => have := HJ1.out; have := HK2.out; have := HK3.out; omega
        case rel => exact ⟨(wrap64 (x107_3 + 1)), tZB, H', ⟨by have := HJ1.out; have := HK2.out; have := HK3.out; omega⟩, ⟨lZR HO_105.out⟩, ⟨bZ⟩⟩
     rw [if_pos c7] at H
     have c7b0 := decide_eq_true c7
     clear c7
     by_cases c8 : 0 ≤ x23_2
     rotate_left
     ·rw [if_neg c8] at H
      exact absurd H (by simp)
     rw [if_pos c8] at H
     have c8b0 := decide_eq_true c8
     clear c8
     by_cases c9 : x23_2 < (l0.length : Int)
     rotate_left
     ·rw [if_neg c9] at H
      exact absurd H (by simp)
     rw [if_pos c9] at H
     have c9b0 := decide_eq_true c9
     clear c9
     have HC10 := Aside0.mk H
     clear H
     have p288 : 0 ≤ (x23_2 : Int) := of_decide_eq_true tZE
     have q288 : x23_2 < (l0.length : Int) := of_decide_eq_true tZE
     obtain ⟨ad288, A288_3, c288_3, A288_4, c288_4, e288, hx288_0, hx288_1, hx288_2, hx288_3, hx288_4, hl288_3, hi288_3, hl288_4, hi288_4⟩ := at_T130 HR0.out x23_2 p288 q288
     have hz288_3 := hx288_3
     have hz288_4 := hx288_4
     cases e288
     replace hx288_0 := cZ HB hx288_0
     replace hx288_1 := cZ HB hx288_1
     replace hx288_2 := cZ HB hx288_2
     replace hx288_3 := cZ HB hx288_3
     replace hx288_4 := cZ HB hx288_4
     have HR288_3 := Aside0.mk hi288_3
     have HC288_3 := Aside0.mk hl288_3
     clear hi288_3 hl288_3
     have HR288_4 := Aside0.mk hi288_4
     have HC288_4 := Aside0.mk hl288_4
     clear hi288_4 hl288_4
     replace p288 := eq_true p288
     replace q288 := eq_true q288
     go_upto_region 7 with (first | ((with_reducible refine gate_dst (N := 5) rfl ?_); (try (refine gate_guard (by rfl) ?_; dsimp only)); refine box_event ?hg (N := 5) ?hd (cs := #[.string (⟨#[]⟩ : ByteArray), .int .i64 0, .bool false, .slice none 0 0, .slice none 0 0]) (t := 130) ?hr ?_; (case hd => rfl); (case hg => rfl); (case hr => first | (go_simp; done) | (go_simp; rfl)); intro gb289 hg w11 hbox hb; replace HO_3 := aZ (Kd.Y_below (lZY HO_3.out) hb); have BK289 := aZ (hbox); have GW289 := aZ ((by rw [hg]; exact (below_size (lZB HB.out)) : w.heap.size ≤ gb289)); have GE289 := aZ ((by rw [hg]; exact (below_size (lZB HB.out)) : w.heap.size ≤ gb289)); replace HB := aZ (below_step (lZB HB.out) hb); clear hb hbox hg; have hcz12_0 : w11.cell? ⟨gb289, 0, none⟩ = some (.string (⟨#[]⟩ : ByteArray)) := (blk_cell BK289.out 0).trans rfl; have hcz12_1 : w11.cell? ⟨gb289, 1, none⟩ = some (.int .i64 0) := (blk_cell BK289.out 1).trans rfl; have hcz12_2 : w11.cell? ⟨gb289, 2, none⟩ = some (.bool false) := (blk_cell BK289.out 2).trans rfl; have hcz12_3 : w11.cell? ⟨gb289, 3, none⟩ = some (.slice none 0 0) := (blk_cell BK289.out 3).trans rfl; have hcz12_4 : w11.cell? ⟨gb289, 4, none⟩ = some (.slice none 0 0) := (blk_cell BK289.out 4).trans rfl; have hfz12_0 := blk_frozen BK289.out 0; have hfz12_1 := blk_frozen BK289.out 1; have hfz12_2 := blk_frozen BK289.out 2; have hfz12_3 := blk_frozen BK289.out 3; have hfz12_4 := blk_frozen BK289.out 4))
     (try simp only [Act.put, sZ1, sZ2, sZ3])
     go_cut [71] (fun v71 wc => ∃ (kq : Nat) (x71_9 : Bool), v71 = .bool x71_9 ∧ Aside0 (impl_ItemsOk.j2 kq l0 x3_2 x23_2 l0 (l0.length : Int) x23_2 x71_9 ((rd_T130 l0 x23_2).f0) ((rd_T130 l0 x23_2).f1) ((rd_T130 l0 x23_2).f2) ((rd_T130 l0 x23_2).f3) ((rd_T130 l0 x23_2).f4) = some r) ∧ Aside0 (kq ≤ k2) ∧ Aside0 (Kd.Y my144 144 wc w.heap.size (fun _ => True) v286 x3_2) ∧ Aside0 (wc.heap[gb289]? = some (.cells #[.string ((rd_T130 l0 x23_2).f0), .int .i64 ((rd_T130 l0 x23_2).f1), .bool ((rd_T130 l0 x23_2).f2), (.slice A288_3 ((rd_T130 l0 x23_2).f3).length c288_3), (.slice A288_4 ((rd_T130 l0 x23_2).f4).length c288_4)] 130 (0, 0))) ∧ Aside0 (Below w.heap.size w wc))
     case first =>
      have H := HC10.out
      clear HC10
      replace H := Option.bind_eq_some_iff.mp H
      obtain ⟨t290, A130, H⟩ := H
      replace H : (if t290 = true then (if ((rd_T130 l0 x23_2).f0).size ≤ 9223372036854775807 then (if (mget false x3_2 ((rd_T130 l0 x23_2).f0)) = true then (impl_ItemsOk.j2 k2 l0 x3_2 x23_2 l0 (l0.length : Int) x23_2 true ((rd_T130 l0 x23_2).f0) ((rd_T130 l0 x23_2).f1) ((rd_T130 l0 x23_2).f2) ((rd_T130 l0 x23_2).f3) ((rd_T130 l0 x23_2).f4)) else ((impl_between.f ((rd_T130 l0 x23_2).f1) 1 1000000).bind fun t292 => (if t292 = true then (if (((rd_T130 l0 x23_2).f3).length : Int) > 30 then (impl_ItemsOk.j2 k2 l0 x3_2 x23_2 l0 (l0.length : Int) x23_2 true ((rd_T130 l0 x23_2).f0) ((rd_T130 l0 x23_2).f1) ((rd_T130 l0 x23_2).f2) ((rd_T130 l0 x23_2).f3) ((rd_T130 l0 x23_2).f4)) else (if (((rd_T130 l0 x23_2).f4).length : Int) > 30 then (impl_ItemsOk.j2 k2 l0 x3_2 x23_2 l0 (l0.length : Int) x23_2 true ((rd_T130 l0 x23_2).f0) ((rd_T130 l0 x23_2).f1) ((rd_T130 l0 x23_2).f2) ((rd_T130 l0 x23_2).f3) ((rd_T130 l0 x23_2).f4)) else (if (rd_T130 l0 x23_2).f2 = true then (if (((rd_T130 l0 x23_2).f3).length : Int) = 0 then (impl_ItemsOk.j2 k2 l0 x3_2 x23_2 l0 (l0.length : Int) x23_2 true ((rd_T130 l0 x23_2).f0) ((rd_T130 l0 x23_2).f1) ((rd_T130 l0 x23_2).f2) ((rd_T130 l0 x23_2).f3) ((rd_T130 l0 x23_2).f4)) else (impl_ItemsOk.j2 k2 l0 x3_2 x23_2 l0 (l0.length : Int) x23_2 (decide ((((rd_T130 l0 x23_2).f4).length : Int) > 0)) ((rd_T130 l0 x23_2).f0) ((rd_T130 l0 x23_2).f1) ((rd_T130 l0 x23_2).f2) ((rd_T130 l0 x23_2).f3) ((rd_T130 l0 x23_2).f4))) else (impl_ItemsOk.j2 k2 l0 x3_2 x23_2 l0 (l0.length : Int) x23_2 false ((rd_T130 l0 x23_2).f0) ((rd_T130 l0 x23_2).f1) ((rd_T130 l0 x23_2).f2) ((rd_T130 l0 x23_2).f3) ((rd_T130 l0 x23_2).f4))))) else (impl_ItemsOk.j2 k2 l0 x3_2 x23_2 l0 (l0.length : Int) x23_2 true ((rd_T130 l0 x23_2).f0) ((rd_T130 l0 x23_2).f1) ((rd_T130 l0 x23_2).f2) ((rd_T130 l0 x23_2).f3) ((rd_T130 l0 x23_2).f4))))) else (none)) else (impl_ItemsOk.j2 k2 l0 x3_2 x23_2 l0 (l0.length : Int) x23_2 true ((rd_T130 l0 x23_2).f0) ((rd_T130 l0 x23_2).f1) ((rd_T130 l0 x23_2).f2) ((rd_T130 l0 x23_2).f3) ((rd_T130 l0 x23_2).f4))) = some r := H
      have A13 := Aside0.mk A130
      clear A130
      by_cases c14 : t290 = true
      rotate_left
      ·replace c14 := Bool.eq_false_iff.mpr c14
       subst c14
       have H1 : (impl_ItemsOk.j2 k2 l0 x3_2 x23_2 l0 (l0.length : Int) x23_2 true ((rd_T130 l0 x23_2).f0) ((rd_T130 l0 x23_2).f1) ((rd_T130 l0 x23_2).f2) ((rd_T130 l0 x23_2).f3) ((rd_T130 l0 x23_2).f4)) = some r := by rw [if_neg (show ¬ (false = true) by decide)] at H; exact H
       clear H
       have H := H1
       clear H1
       have H' := Aside0.mk H
       clear H
       have hcz38_0 : w11.cell? ⟨gb289, 0, none⟩ = some (.string (⟨#[]⟩ : ByteArray)) := (blk_cell BK289.out 0).trans rfl
       have hcz38_1 : w11.cell? ⟨gb289, 1, none⟩ = some (.int .i64 0) := (blk_cell BK289.out 1).trans rfl
       have hcz38_2 : w11.cell? ⟨gb289, 2, none⟩ = some (.bool false) := (blk_cell BK289.out 2).trans rfl
       have hcz38_3 : w11.cell? ⟨gb289, 3, none⟩ = some (.slice none 0 0) := (blk_cell BK289.out 3).trans rfl
       have hcz38_4 : w11.cell? ⟨gb289, 4, none⟩ = some (.slice none 0 0) := (blk_cell BK289.out 4).trans rfl
       have hfz38_0 := blk_frozen BK289.out 0
       have hfz38_1 := blk_frozen BK289.out 1
       have hfz38_2 := blk_frozen BK289.out 2
       have hfz38_3 := blk_frozen BK289.out 3
       have hfz38_4 := blk_frozen BK289.out 4
       go_wp2_with (first | ((with_reducible refine gate_callee (f := 119) rfl ?_); refine goesL_ (some 30) rfl rfl Try.func119 kZ rfl #[.string ((rd_T130 l0 x23_2).f0)] rfl tZA ?_; (with_reducible refine (impl_NameOk.calls k2 ((rd_T130 l0 x23_2).f0) false _ A13.out).mono ?_); rintro e w' ⟨rfl, ⟨nd, rfl⟩⟩; refine ⟨_, rfl, ?_⟩))
       go_meet
       case rel => exact ⟨_, (true), tZB, H', ⟨by have := HJ1.out; have := HK2.out; first | omega | exact Nat.le_refl _⟩, ⟨by (with_reducible repeat (first | apply Kd.Y_alloc | apply Kd.Y_drewN | apply Kd.Y_drew)); exact Kd.Y_mono (Kd.Y_far (p := ⟨gb289, 4, none⟩) (Kd.Y_far (p := ⟨gb289, 3, none⟩) (Kd.Y_far (p := ⟨gb289, 2, none⟩) (Kd.Y_far (p := ⟨gb289, 1, none⟩) (Kd.Y_far (p := ⟨gb289, 0, none⟩) (Kd.Y_types HO_3.out BK289.out (by decide)) (fun _ hk => hk.2) (.string ((rd_T130 l0 x23_2).f0))) (fun _ hk => hk.2) (.int .i64 ((rd_T130 l0 x23_2).f1))) (fun _ hk => hk.2) (.bool ((rd_T130 l0 x23_2).f2))) (fun _ hk => hk.2) (.slice A288_3 ((rd_T130 l0 x23_2).f3).length c288_3)) (fun _ hk => hk.2) (.slice A288_4 ((rd_T130 l0 x23_2).f4).length c288_4)) (fun _ hk => trivial)⟩, ⟨by (with_reducible repeat (first | refine blk_drewN ?_ _ | refine blk_drew ?_ | refine blk_alloc ?_ _)); refine blk_put (cs := #[.string ((rd_T130 l0 x23_2).f0), .int .i64 ((rd_T130 l0 x23_2).f1), .bool ((rd_T130 l0 x23_2).f2), .slice A288_3 ((rd_T130 l0 x23_2).f3).length c288_3, .slice none 0 0]) ?_ 4 _ rfl; (with_reducible repeat (first | refine blk_drewN ?_ _ | refine blk_drew ?_ | refine blk_alloc ?_ _)); refine blk_put (cs := #[.string ((rd_T130 l0 x23_2).f0), .int .i64 ((rd_T130 l0 x23_2).f1), .bool ((rd_T130 l0 x23_2).f2), .slice none 0 0, .slice none 0 0]) ?_ 3 _ rfl; (with_reducible repeat (first | refine blk_drewN ?_ _ | refine blk_drew ?_ | refine blk_alloc ?_ _)); refine blk_put (cs := #[.string ((rd_T130 l0 x23_2).f0), .int .i64 ((rd_T130 l0 x23_2).f1), .bool false, .slice none 0 0, .slice none 0 0]) ?_ 2 _ rfl; (with_reducible repeat (first | refine blk_drewN ?_ _ | refine blk_drew ?_ | refine blk_alloc ?_ _)); refine blk_put (cs := #[.string ((rd_T130 l0 x23_2).f0), .int .i64 0, .bool false, .slice none 0 0, .slice none 0 0]) ?_ 1 _ rfl; (with_reducible repeat (first | refine blk_drewN ?_ _ | refine blk_drew ?_ | refine blk_alloc ?_ _)); refine blk_put (cs := #[.string (⟨#[]⟩ : ByteArray), .int .i64 0, .bool false, .slice none 0 0, .slice none 0 0]) ?_ 0 _ rfl; (with_reducible repeat (first | refine blk_drewN ?_ _ | refine blk_drew ?_ | refine blk_alloc ?_ _)); exact BK289.out⟩, ⟨bZ⟩⟩
      subst c14
      have H1 : (if ((rd_T130 l0 x23_2).f0).size ≤ 9223372036854775807 then (if (mget false x3_2 ((rd_T130 l0 x23_2).f0)) = true then (impl_ItemsOk.j2 k2 l0 x3_2 x23_2 l0 (l0.length : Int) x23_2 true ((rd_T130 l0 x23_2).f0) ((rd_T130 l0 x23_2).f1) ((rd_T130 l0 x23_2).f2) ((rd_T130 l0 x23_2).f3) ((rd_T130 l0 x23_2).f4)) else ((impl_between.f ((rd_T130 l0 x23_2).f1) 1 1000000).bind fun t292 => (if t292 = true then (if (((rd_T130 l0 x23_2).f3).length : Int) > 30 then (impl_ItemsOk.j2 k2 l0 x3_2 x23_2 l0 (l0.length : Int) x23_2 true ((rd_T130 l0 x23_2).f0) ((rd_T130 l0 x23_2).f1) ((rd_T130 l0 x23_2).f2) ((rd_T130 l0 x23_2).f3) ((rd_T130 l0 x23_2).f4)) else (if (((rd_T130 l0 x23_2).f4).length : Int) > 30 then (impl_ItemsOk.j2 k2 l0 x3_2 x23_2 l0 (l0.length : Int) x23_2 true ((rd_T130 l0 x23_2).f0) ((rd_T130 l0 x23_2).f1) ((rd_T130 l0 x23_2).f2) ((rd_T130 l0 x23_2).f3) ((rd_T130 l0 x23_2).f4)) else (if (rd_T130 l0 x23_2).f2 = true then (if (((rd_T130 l0 x23_2).f3).length : Int) = 0 then (impl_ItemsOk.j2 k2 l0 x3_2 x23_2 l0 (l0.length : Int) x23_2 true ((rd_T130 l0 x23_2).f0) ((rd_T130 l0 x23_2).f1) ((rd_T130 l0 x23_2).f2) ((rd_T130 l0 x23_2).f3) ((rd_T130 l0 x23_2).f4)) else (impl_ItemsOk.j2 k2 l0 x3_2 x23_2 l0 (l0.length : Int) x23_2 (decide ((((rd_T130 l0 x23_2).f4).length : Int) > 0)) ((rd_T130 l0 x23_2).f0) ((rd_T130 l0 x23_2).f1) ((rd_T130 l0 x23_2).f2) ((rd_T130 l0 x23_2).f3) ((rd_T130 l0 x23_2).f4))) else (impl_ItemsOk.j2 k2 l0 x3_2 x23_2 l0 (l0.length : Int) x23_2 false ((rd_T130 l0 x23_2).f0) ((rd_T130 l0 x23_2).f1) ((rd_T130 l0 x23_2).f2) ((rd_T130 l0 x23_2).f3) ((rd_T130 l0 x23_2).f4))))) else (impl_ItemsOk.j2 k2 l0 x3_2 x23_2 l0 (l0.length : Int) x23_2 true ((rd_T130 l0 x23_2).f0) ((rd_T130 l0 x23_2).f1) ((rd_T130 l0 x23_2).f2) ((rd_T130 l0 x23_2).f3) ((rd_T130 l0 x23_2).f4))))) else (none)) = some r := by rw [if_pos rfl] at H; exact H
      clear H
      have H := H1
      clear H1
      by_cases c15 : ((rd_T130 l0 x23_2).f0).size ≤ 9223372036854775807
      rotate_left
      ·rw [if_neg c15] at H
       exact absurd H (by simp)
      rw [if_pos c15] at H
      have c15b0 := eq_true c15
      have c15b1 := decide_eq_true c15
      try have c15b2 := eq_false (Nat.not_lt.2 c15)
      clear c15
      obtain ⟨y291, hy291⟩ : ∃ y_ : Bool, y_ = (mget false x3_2 ((rd_T130 l0 x23_2).f0)) := ⟨_, rfl⟩
      replace H : (if y291 = true then (impl_ItemsOk.j2 k2 l0 x3_2 x23_2 l0 (l0.length : Int) x23_2 true ((rd_T130 l0 x23_2).f0) ((rd_T130 l0 x23_2).f1) ((rd_T130 l0 x23_2).f2) ((rd_T130 l0 x23_2).f3) ((rd_T130 l0 x23_2).f4)) else ((impl_between.f ((rd_T130 l0 x23_2).f1) 1 1000000).bind fun t292 => (if t292 = true then (if (((rd_T130 l0 x23_2).f3).length : Int) > 30 then (impl_ItemsOk.j2 k2 l0 x3_2 x23_2 l0 (l0.length : Int) x23_2 true ((rd_T130 l0 x23_2).f0) ((rd_T130 l0 x23_2).f1) ((rd_T130 l0 x23_2).f2) ((rd_T130 l0 x23_2).f3) ((rd_T130 l0 x23_2).f4)) else (if (((rd_T130 l0 x23_2).f4).length : Int) > 30 then (impl_ItemsOk.j2 k2 l0 x3_2 x23_2 l0 (l0.length : Int) x23_2 true ((rd_T130 l0 x23_2).f0) ((rd_T130 l0 x23_2).f1) ((rd_T130 l0 x23_2).f2) ((rd_T130 l0 x23_2).f3) ((rd_T130 l0 x23_2).f4)) else (if (rd_T130 l0 x23_2).f2 = true then (if (((rd_T130 l0 x23_2).f3).length : Int) = 0 then (impl_ItemsOk.j2 k2 l0 x3_2 x23_2 l0 (l0.length : Int) x23_2 true ((rd_T130 l0 x23_2).f0) ((rd_T130 l0 x23_2).f1) ((rd_T130 l0 x23_2).f2) ((rd_T130 l0 x23_2).f3) ((rd_T130 l0 x23_2).f4)) else (impl_ItemsOk.j2 k2 l0 x3_2 x23_2 l0 (l0.length : Int) x23_2 (decide ((((rd_T130 l0 x23_2).f4).length : Int) > 0)) ((rd_T130 l0 x23_2).f0) ((rd_T130 l0 x23_2).f1) ((rd_T130 l0 x23_2).f2) ((rd_T130 l0 x23_2).f3) ((rd_T130 l0 x23_2).f4))) else (impl_ItemsOk.j2 k2 l0 x3_2 x23_2 l0 (l0.length : Int) x23_2 false ((rd_T130 l0 x23_2).f0) ((rd_T130 l0 x23_2).f1) ((rd_T130 l0 x23_2).f2) ((rd_T130 l0 x23_2).f3) ((rd_T130 l0 x23_2).f4))))) else (impl_ItemsOk.j2 k2 l0 x3_2 x23_2 l0 (l0.length : Int) x23_2 true ((rd_T130 l0 x23_2).f0) ((rd_T130 l0 x23_2).f1) ((rd_T130 l0 x23_2).f2) ((rd_T130 l0 x23_2).f3) ((rd_T130 l0 x23_2).f4))))) = some r := by first | (rw [hy291]; with_reducible exact H) | (have H2_ := (Option.bind_some _ _).symm.trans H; rw [hy291]; with_reducible exact H2_) | (have H2_ := (Option.bind_some _ _).symm.trans H; with_reducible exact H2_) | with_reducible exact H | (rw [hy291]; exact H) | exact H
      have Ny291 := Aside0.mk hy291
      clear hy291
      by_cases c16 : y291 = true
      ·subst c16
       have H1 : (impl_ItemsOk.j2 k2 l0 x3_2 x23_2 l0 (l0.length : Int) x23_2 true ((rd_T130 l0 x23_2).f0) ((rd_T130 l0 x23_2).f1) ((rd_T130 l0 x23_2).f2) ((rd_T130 l0 x23_2).f3) ((rd_T130 l0 x23_2).f4)) = some r := by rw [if_pos rfl] at H; exact H
       clear H
       have H := H1
       clear H1
       have H' := Aside0.mk H
       clear H
       have hcz17_0 : w11.cell? ⟨gb289, 0, none⟩ = some (.string (⟨#[]⟩ : ByteArray)) := (blk_cell BK289.out 0).trans rfl
       have hcz17_1 : w11.cell? ⟨gb289, 1, none⟩ = some (.int .i64 0) := (blk_cell BK289.out 1).trans rfl
       have hcz17_2 : w11.cell? ⟨gb289, 2, none⟩ = some (.bool false) := (blk_cell BK289.out 2).trans rfl
       have hcz17_3 : w11.cell? ⟨gb289, 3, none⟩ = some (.slice none 0 0) := (blk_cell BK289.out 3).trans rfl
       have hcz17_4 : w11.cell? ⟨gb289, 4, none⟩ = some (.slice none 0 0) := (blk_cell BK289.out 4).trans rfl
       have hfz17_0 := blk_frozen BK289.out 0
       have hfz17_1 := blk_frozen BK289.out 1
       have hfz17_2 := blk_frozen BK289.out 2
       have hfz17_3 := blk_frozen BK289.out 3
       have hfz17_4 := blk_frozen BK289.out 4
       go_wp2_with (first | ((with_reducible refine gate_callee (f := 119) rfl ?_); refine goesL_ (some 30) rfl rfl Try.func119 kZ rfl #[.string ((rd_T130 l0 x23_2).f0)] rfl tZA ?_; (with_reducible refine (impl_NameOk.calls k2 ((rd_T130 l0 x23_2).f0) true _ A13.out).mono ?_); rintro e w' ⟨rfl, ⟨nd, rfl⟩⟩; refine ⟨_, rfl, ?_⟩; have hcv18 := Kd.Y_get (e := 144) ((Kd.Y_far (p := ⟨gb289, 4, none⟩) (Kd.Y_far (p := ⟨gb289, 3, none⟩) (Kd.Y_far (p := ⟨gb289, 2, none⟩) (Kd.Y_far (p := ⟨gb289, 1, none⟩) (Kd.Y_far (p := ⟨gb289, 0, none⟩) (Kd.Y_types HO_3.out BK289.out (by decide)) (fun _ hk => hk.2) (.string ((rd_T130 l0 x23_2).f0))) (fun _ hk => hk.2) (.int .i64 ((rd_T130 l0 x23_2).f1))) (fun _ hk => hk.2) (.bool ((rd_T130 l0 x23_2).f2))) (fun _ hk => hk.2) (.slice A288_3 ((rd_T130 l0 x23_2).f3).length c288_3)) (fun _ hk => hk.2) (.slice A288_4 ((rd_T130 l0 x23_2).f4).length c288_4))) ((rd_T130 l0 x23_2).f0) (show okS _ from ((of_decide_eq_true tZE) : ((rd_T130 l0 x23_2).f0).size ≤ 9223372036854775807)); have hcv18d := fun n_ => Kd.Y_get (e := 144) (Kd.Y_drewN ((Kd.Y_far (p := ⟨gb289, 4, none⟩) (Kd.Y_far (p := ⟨gb289, 3, none⟩) (Kd.Y_far (p := ⟨gb289, 2, none⟩) (Kd.Y_far (p := ⟨gb289, 1, none⟩) (Kd.Y_far (p := ⟨gb289, 0, none⟩) (Kd.Y_types HO_3.out BK289.out (by decide)) (fun _ hk => hk.2) (.string ((rd_T130 l0 x23_2).f0))) (fun _ hk => hk.2) (.int .i64 ((rd_T130 l0 x23_2).f1))) (fun _ hk => hk.2) (.bool ((rd_T130 l0 x23_2).f2))) (fun _ hk => hk.2) (.slice A288_3 ((rd_T130 l0 x23_2).f3).length c288_3)) (fun _ hk => hk.2) (.slice A288_4 ((rd_T130 l0 x23_2).f4).length c288_4))) n_) ((rd_T130 l0 x23_2).f0) (show okS _ from ((of_decide_eq_true tZE) : ((rd_T130 l0 x23_2).f0).size ≤ 9223372036854775807)); have hcv18e := fun m_ n_ => Kd.Y_get (e := 144) (Kd.Y_drewN (Kd.Y_drewN ((Kd.Y_far (p := ⟨gb289, 4, none⟩) (Kd.Y_far (p := ⟨gb289, 3, none⟩) (Kd.Y_far (p := ⟨gb289, 2, none⟩) (Kd.Y_far (p := ⟨gb289, 1, none⟩) (Kd.Y_far (p := ⟨gb289, 0, none⟩) (Kd.Y_types HO_3.out BK289.out (by decide)) (fun _ hk => hk.2) (.string ((rd_T130 l0 x23_2).f0))) (fun _ hk => hk.2) (.int .i64 ((rd_T130 l0 x23_2).f1))) (fun _ hk => hk.2) (.bool ((rd_T130 l0 x23_2).f2))) (fun _ hk => hk.2) (.slice A288_3 ((rd_T130 l0 x23_2).f3).length c288_3)) (fun _ hk => hk.2) (.slice A288_4 ((rd_T130 l0 x23_2).f4).length c288_4))) m_) n_) ((rd_T130 l0 x23_2).f0) (show okS _ from ((of_decide_eq_true tZE) : ((rd_T130 l0 x23_2).f0).size ≤ 9223372036854775807)); simp only [my144, mkSB, mkSI, mkIB, mkII] at hcv18 hcv18d hcv18e; rw [← Ny291.out] at hcv18 hcv18d hcv18e))
       go_meet
       case rel => exact ⟨_, (true), tZB, H', ⟨by have := HJ1.out; have := HK2.out; first | omega | exact Nat.le_refl _⟩, ⟨by (with_reducible repeat (first | apply Kd.Y_alloc | apply Kd.Y_drewN | apply Kd.Y_drew)); exact Kd.Y_mono (Kd.Y_far (p := ⟨gb289, 4, none⟩) (Kd.Y_far (p := ⟨gb289, 3, none⟩) (Kd.Y_far (p := ⟨gb289, 2, none⟩) (Kd.Y_far (p := ⟨gb289, 1, none⟩) (Kd.Y_far (p := ⟨gb289, 0, none⟩) (Kd.Y_types HO_3.out BK289.out (by decide)) (fun _ hk => hk.2) (.string ((rd_T130 l0 x23_2).f0))) (fun _ hk => hk.2) (.int .i64 ((rd_T130 l0 x23_2).f1))) (fun _ hk => hk.2) (.bool ((rd_T130 l0 x23_2).f2))) (fun _ hk => hk.2) (.slice A288_3 ((rd_T130 l0 x23_2).f3).length c288_3)) (fun _ hk => hk.2) (.slice A288_4 ((rd_T130 l0 x23_2).f4).length c288_4)) (fun _ hk => trivial)⟩, ⟨by (with_reducible repeat (first | refine blk_drewN ?_ _ | refine blk_drew ?_ | refine blk_alloc ?_ _)); refine blk_put (cs := #[.string ((rd_T130 l0 x23_2).f0), .int .i64 ((rd_T130 l0 x23_2).f1), .bool ((rd_T130 l0 x23_2).f2), .slice A288_3 ((rd_T130 l0 x23_2).f3).length c288_3, .slice none 0 0]) ?_ 4 _ rfl; (with_reducible repeat (first | refine blk_drewN ?_ _ | refine blk_drew ?_ | refine blk_alloc ?_ _)); refine blk_put (cs := #[.string ((rd_T130 l0 x23_2).f0), .int .i64 ((rd_T130 l0 x23_2).f1), .bool ((rd_T130 l0 x23_2).f2), .slice none 0 0, .slice none 0 0]) ?_ 3 _ rfl; (with_reducible repeat (first | refine blk_drewN ?_ _ | refine blk_drew ?_ | refine blk_alloc ?_ _)); refine blk_put (cs := #[.string ((rd_T130 l0 x23_2).f0), .int .i64 ((rd_T130 l0 x23_2).f1), .bool false, .slice none 0 0, .slice none 0 0]) ?_ 2 _ rfl; (with_reducible repeat (first | refine blk_drewN ?_ _ | refine blk_drew ?_ | refine blk_alloc ?_ _)); refine blk_put (cs := #[.string ((rd_T130 l0 x23_2).f0), .int .i64 0, .bool false, .slice none 0 0, .slice none 0 0]) ?_ 1 _ rfl; (with_reducible repeat (first | refine blk_drewN ?_ _ | refine blk_drew ?_ | refine blk_alloc ?_ _)); refine blk_put (cs := #[.string (⟨#[]⟩ : ByteArray), .int .i64 0, .bool false, .slice none 0 0, .slice none 0 0]) ?_ 0 _ rfl; (with_reducible repeat (first | refine blk_drewN ?_ _ | refine blk_drew ?_ | refine blk_alloc ?_ _)); exact BK289.out⟩, ⟨bZ⟩⟩
      replace c16 := Bool.eq_false_iff.mpr c16
      subst c16
      have H1 : ((impl_between.f ((rd_T130 l0 x23_2).f1) 1 1000000).bind fun t292 => (if t292 = true then (if (((rd_T130 l0 x23_2).f3).length : Int) > 30 then (impl_ItemsOk.j2 k2 l0 x3_2 x23_2 l0 (l0.length : Int) x23_2 true ((rd_T130 l0 x23_2).f0) ((rd_T130 l0 x23_2).f1) ((rd_T130 l0 x23_2).f2) ((rd_T130 l0 x23_2).f3) ((rd_T130 l0 x23_2).f4)) else (if (((rd_T130 l0 x23_2).f4).length : Int) > 30 then (impl_ItemsOk.j2 k2 l0 x3_2 x23_2 l0 (l0.length : Int) x23_2 true ((rd_T130 l0 x23_2).f0) ((rd_T130 l0 x23_2).f1) ((rd_T130 l0 x23_2).f2) ((rd_T130 l0 x23_2).f3) ((rd_T130 l0 x23_2).f4)) else (if (rd_T130 l0 x23_2).f2 = true then (if (((rd_T130 l0 x23_2).f3).length : Int) = 0 then (impl_ItemsOk.j2 k2 l0 x3_2 x23_2 l0 (l0.length : Int) x23_2 true ((rd_T130 l0 x23_2).f0) ((rd_T130 l0 x23_2).f1) ((rd_T130 l0 x23_2).f2) ((rd_T130 l0 x23_2).f3) ((rd_T130 l0 x23_2).f4)) else (impl_ItemsOk.j2 k2 l0 x3_2 x23_2 l0 (l0.length : Int) x23_2 (decide ((((rd_T130 l0 x23_2).f4).length : Int) > 0)) ((rd_T130 l0 x23_2).f0) ((rd_T130 l0 x23_2).f1) ((rd_T130 l0 x23_2).f2) ((rd_T130 l0 x23_2).f3) ((rd_T130 l0 x23_2).f4))) else (impl_ItemsOk.j2 k2 l0 x3_2 x23_2 l0 (l0.length : Int) x23_2 false ((rd_T130 l0 x23_2).f0) ((rd_T130 l0 x23_2).f1) ((rd_T130 l0 x23_2).f2) ((rd_T130 l0 x23_2).f3) ((rd_T130 l0 x23_2).f4))))) else (impl_ItemsOk.j2 k2 l0 x3_2 x23_2 l0 (l0.length : Int) x23_2 true ((rd_T130 l0 x23_2).f0) ((rd_T130 l0 x23_2).f1) ((rd_T130 l0 x23_2).f2) ((rd_T130 l0 x23_2).f3) ((rd_T130 l0 x23_2).f4)))) = some r := by rw [if_neg (show ¬ (false = true) by decide)] at H; exact H
      clear H
      have H := H1
      clear H1
      replace H := Option.bind_eq_some_iff.mp H
      obtain ⟨t292, A190, H⟩ := H
      replace H : (if t292 = true then (if (((rd_T130 l0 x23_2).f3).length : Int) > 30 then (impl_ItemsOk.j2 k2 l0 x3_2 x23_2 l0 (l0.length : Int) x23_2 true ((rd_T130 l0 x23_2).f0) ((rd_T130 l0 x23_2).f1) ((rd_T130 l0 x23_2).f2) ((rd_T130 l0 x23_2).f3) ((rd_T130 l0 x23_2).f4)) else (if (((rd_T130 l0 x23_2).f4).length : Int) > 30 then (impl_ItemsOk.j2 k2 l0 x3_2 x23_2 l0 (l0.length : Int) x23_2 true ((rd_T130 l0 x23_2).f0) ((rd_T130 l0 x23_2).f1) ((rd_T130 l0 x23_2).f2) ((rd_T130 l0 x23_2).f3) ((rd_T130 l0 x23_2).f4)) else (if (rd_T130 l0 x23_2).f2 = true then (if (((rd_T130 l0 x23_2).f3).length : Int) = 0 then (impl_ItemsOk.j2 k2 l0 x3_2 x23_2 l0 (l0.length : Int) x23_2 true ((rd_T130 l0 x23_2).f0) ((rd_T130 l0 x23_2).f1) ((rd_T130 l0 x23_2).f2) ((rd_T130 l0 x23_2).f3) ((rd_T130 l0 x23_2).f4)) else (impl_ItemsOk.j2 k2 l0 x3_2 x23_2 l0 (l0.length : Int) x23_2 (decide ((((rd_T130 l0 x23_2).f4).length : Int) > 0)) ((rd_T130 l0 x23_2).f0) ((rd_T130 l0 x23_2).f1) ((rd_T130 l0 x23_2).f2) ((rd_T130 l0 x23_2).f3) ((rd_T130 l0 x23_2).f4))) else (impl_ItemsOk.j2 k2 l0 x3_2 x23_2 l0 (l0.length : Int) x23_2 false ((rd_T130 l0 x23_2).f0) ((rd_T130 l0 x23_2).f1) ((rd_T130 l0 x23_2).f2) ((rd_T130 l0 x23_2).f3) ((rd_T130 l0 x23_2).f4))))) else (impl_ItemsOk.j2 k2 l0 x3_2 x23_2 l0 (l0.length : Int) x23_2 true ((rd_T130 l0 x23_2).f0) ((rd_T130 l0 x23_2).f1) ((rd_T130 l0 x23_2).f2) ((rd_T130 l0 x23_2).f3) ((rd_T130 l0 x23_2).f4))) = some r := H
      have A19 := Aside0.mk A190
      clear A190
      by_cases c20 : t292 = true
      rotate_left
      ·replace c20 := Bool.eq_false_iff.mpr c20
       subst c20
       have H1 : (impl_ItemsOk.j2 k2 l0 x3_2 x23_2 l0 (l0.length : Int) x23_2 true ((rd_T130 l0 x23_2).f0) ((rd_T130 l0 x23_2).f1) ((rd_T130 l0 x23_2).f2) ((rd_T130 l0 x23_2).f3) ((rd_T130 l0 x23_2).f4)) = some r := by rw [if_neg (show ¬ (false = true) by decide)] at H; exact H
       clear H
       have H := H1
       clear H1
       have H' := Aside0.mk H
       clear H
       have hcz36_0 : w11.cell? ⟨gb289, 0, none⟩ = some (.string (⟨#[]⟩ : ByteArray)) := (blk_cell BK289.out 0).trans rfl
       have hcz36_1 : w11.cell? ⟨gb289, 1, none⟩ = some (.int .i64 0) := (blk_cell BK289.out 1).trans rfl
       have hcz36_2 : w11.cell? ⟨gb289, 2, none⟩ = some (.bool false) := (blk_cell BK289.out 2).trans rfl
       have hcz36_3 : w11.cell? ⟨gb289, 3, none⟩ = some (.slice none 0 0) := (blk_cell BK289.out 3).trans rfl
       have hcz36_4 : w11.cell? ⟨gb289, 4, none⟩ = some (.slice none 0 0) := (blk_cell BK289.out 4).trans rfl
       have hfz36_0 := blk_frozen BK289.out 0
       have hfz36_1 := blk_frozen BK289.out 1
       have hfz36_2 := blk_frozen BK289.out 2
       have hfz36_3 := blk_frozen BK289.out 3
       have hfz36_4 := blk_frozen BK289.out 4
       go_wp2_with (first | ((with_reducible refine gate_callee (f := 119) rfl ?_); refine goesL_ (some 30) rfl rfl Try.func119 kZ rfl #[.string ((rd_T130 l0 x23_2).f0)] rfl tZA ?_; (with_reducible refine (impl_NameOk.calls k2 ((rd_T130 l0 x23_2).f0) true _ A13.out).mono ?_); rintro e w' ⟨rfl, ⟨nd, rfl⟩⟩; refine ⟨_, rfl, ?_⟩; have hcv37 := Kd.Y_get (e := 144) ((Kd.Y_far (p := ⟨gb289, 4, none⟩) (Kd.Y_far (p := ⟨gb289, 3, none⟩) (Kd.Y_far (p := ⟨gb289, 2, none⟩) (Kd.Y_far (p := ⟨gb289, 1, none⟩) (Kd.Y_far (p := ⟨gb289, 0, none⟩) (Kd.Y_types HO_3.out BK289.out (by decide)) (fun _ hk => hk.2) (.string ((rd_T130 l0 x23_2).f0))) (fun _ hk => hk.2) (.int .i64 ((rd_T130 l0 x23_2).f1))) (fun _ hk => hk.2) (.bool ((rd_T130 l0 x23_2).f2))) (fun _ hk => hk.2) (.slice A288_3 ((rd_T130 l0 x23_2).f3).length c288_3)) (fun _ hk => hk.2) (.slice A288_4 ((rd_T130 l0 x23_2).f4).length c288_4))) ((rd_T130 l0 x23_2).f0) (show okS _ from ((of_decide_eq_true tZE) : ((rd_T130 l0 x23_2).f0).size ≤ 9223372036854775807)); have hcv37d := fun n_ => Kd.Y_get (e := 144) (Kd.Y_drewN ((Kd.Y_far (p := ⟨gb289, 4, none⟩) (Kd.Y_far (p := ⟨gb289, 3, none⟩) (Kd.Y_far (p := ⟨gb289, 2, none⟩) (Kd.Y_far (p := ⟨gb289, 1, none⟩) (Kd.Y_far (p := ⟨gb289, 0, none⟩) (Kd.Y_types HO_3.out BK289.out (by decide)) (fun _ hk => hk.2) (.string ((rd_T130 l0 x23_2).f0))) (fun _ hk => hk.2) (.int .i64 ((rd_T130 l0 x23_2).f1))) (fun _ hk => hk.2) (.bool ((rd_T130 l0 x23_2).f2))) (fun _ hk => hk.2) (.slice A288_3 ((rd_T130 l0 x23_2).f3).length c288_3)) (fun _ hk => hk.2) (.slice A288_4 ((rd_T130 l0 x23_2).f4).length c288_4))) n_) ((rd_T130 l0 x23_2).f0) (show okS _ from ((of_decide_eq_true tZE) : ((rd_T130 l0 x23_2).f0).size ≤ 9223372036854775807)); have hcv37e := fun m_ n_ => Kd.Y_get (e := 144) (Kd.Y_drewN (Kd.Y_drewN ((Kd.Y_far (p := ⟨gb289, 4, none⟩) (Kd.Y_far (p := ⟨gb289, 3, none⟩) (Kd.Y_far (p := ⟨gb289, 2, none⟩) (Kd.Y_far (p := ⟨gb289, 1, none⟩) (Kd.Y_far (p := ⟨gb289, 0, none⟩) (Kd.Y_types HO_3.out BK289.out (by decide)) (fun _ hk => hk.2) (.string ((rd_T130 l0 x23_2).f0))) (fun _ hk => hk.2) (.int .i64 ((rd_T130 l0 x23_2).f1))) (fun _ hk => hk.2) (.bool ((rd_T130 l0 x23_2).f2))) (fun _ hk => hk.2) (.slice A288_3 ((rd_T130 l0 x23_2).f3).length c288_3)) (fun _ hk => hk.2) (.slice A288_4 ((rd_T130 l0 x23_2).f4).length c288_4))) m_) n_) ((rd_T130 l0 x23_2).f0) (show okS _ from ((of_decide_eq_true tZE) : ((rd_T130 l0 x23_2).f0).size ≤ 9223372036854775807)); simp only [my144, mkSB, mkSI, mkIB, mkII] at hcv37 hcv37d hcv37e; rw [← Ny291.out] at hcv37 hcv37d hcv37e) | (go_at_call 120; (with_reducible refine (impl_between.calls ((rd_T130 l0 x23_2).f1) 1 1000000 false _ A19.out).mono ?_); rintro e w' ⟨rfl, ⟨nd, rfl⟩⟩))
       go_meet
       case rel => exact ⟨_, (true), tZB, H', ⟨by have := HJ1.out; have := HK2.out; first | omega | exact Nat.le_refl _⟩, ⟨by (with_reducible repeat (first | apply Kd.Y_alloc | apply Kd.Y_drewN | apply Kd.Y_drew)); exact Kd.Y_mono (Kd.Y_far (p := ⟨gb289, 4, none⟩) (Kd.Y_far (p := ⟨gb289, 3, none⟩) (Kd.Y_far (p := ⟨gb289, 2, none⟩) (Kd.Y_far (p := ⟨gb289, 1, none⟩) (Kd.Y_far (p := ⟨gb289, 0, none⟩) (Kd.Y_types HO_3.out BK289.out (by decide)) (fun _ hk => hk.2) (.string ((rd_T130 l0 x23_2).f0))) (fun _ hk => hk.2) (.int .i64 ((rd_T130 l0 x23_2).f1))) (fun _ hk => hk.2) (.bool ((rd_T130 l0 x23_2).f2))) (fun _ hk => hk.2) (.slice A288_3 ((rd_T130 l0 x23_2).f3).length c288_3)) (fun _ hk => hk.2) (.slice A288_4 ((rd_T130 l0 x23_2).f4).length c288_4)) (fun _ hk => trivial)⟩, ⟨by (with_reducible repeat (first | refine blk_drewN ?_ _ | refine blk_drew ?_ | refine blk_alloc ?_ _)); refine blk_put (cs := #[.string ((rd_T130 l0 x23_2).f0), .int .i64 ((rd_T130 l0 x23_2).f1), .bool ((rd_T130 l0 x23_2).f2), .slice A288_3 ((rd_T130 l0 x23_2).f3).length c288_3, .slice none 0 0]) ?_ 4 _ rfl; (with_reducible repeat (first | refine blk_drewN ?_ _ | refine blk_drew ?_ | refine blk_alloc ?_ _)); refine blk_put (cs := #[.string ((rd_T130 l0 x23_2).f0), .int .i64 ((rd_T130 l0 x23_2).f1), .bool ((rd_T130 l0 x23_2).f2), .slice none 0 0, .slice none 0 0]) ?_ 3 _ rfl; (with_reducible repeat (first | refine blk_drewN ?_ _ | refine blk_drew ?_ | refine blk_alloc ?_ _)); refine blk_put (cs := #[.string ((rd_T130 l0 x23_2).f0), .int .i64 ((rd_T130 l0 x23_2).f1), .bool false, .slice none 0 0, .slice none 0 0]) ?_ 2 _ rfl; (with_reducible repeat (first | refine blk_drewN ?_ _ | refine blk_drew ?_ | refine blk_alloc ?_ _)); refine blk_put (cs := #[.string ((rd_T130 l0 x23_2).f0), .int .i64 0, .bool false, .slice none 0 0, .slice none 0 0]) ?_ 1 _ rfl; (with_reducible repeat (first | refine blk_drewN ?_ _ | refine blk_drew ?_ | refine blk_alloc ?_ _)); refine blk_put (cs := #[.string (⟨#[]⟩ : ByteArray), .int .i64 0, .bool false, .slice none 0 0, .slice none 0 0]) ?_ 0 _ rfl; (with_reducible repeat (first | refine blk_drewN ?_ _ | refine blk_drew ?_ | refine blk_alloc ?_ _)); exact BK289.out⟩, ⟨bZ⟩⟩
      subst c20
      have H1 : (if (((rd_T130 l0 x23_2).f3).length : Int) > 30 then (impl_ItemsOk.j2 k2 l0 x3_2 x23_2 l0 (l0.length : Int) x23_2 true ((rd_T130 l0 x23_2).f0) ((rd_T130 l0 x23_2).f1) ((rd_T130 l0 x23_2).f2) ((rd_T130 l0 x23_2).f3) ((rd_T130 l0 x23_2).f4)) else (if (((rd_T130 l0 x23_2).f4).length : Int) > 30 then (impl_ItemsOk.j2 k2 l0 x3_2 x23_2 l0 (l0.length : Int) x23_2 true ((rd_T130 l0 x23_2).f0) ((rd_T130 l0 x23_2).f1) ((rd_T130 l0 x23_2).f2) ((rd_T130 l0 x23_2).f3) ((rd_T130 l0 x23_2).f4)) else (if (rd_T130 l0 x23_2).f2 = true then (if (((rd_T130 l0 x23_2).f3).length : Int) = 0 then (impl_ItemsOk.j2 k2 l0 x3_2 x23_2 l0 (l0.length : Int) x23_2 true ((rd_T130 l0 x23_2).f0) ((rd_T130 l0 x23_2).f1) ((rd_T130 l0 x23_2).f2) ((rd_T130 l0 x23_2).f3) ((rd_T130 l0 x23_2).f4)) else (impl_ItemsOk.j2 k2 l0 x3_2 x23_2 l0 (l0.length : Int) x23_2 (decide ((((rd_T130 l0 x23_2).f4).length : Int) > 0)) ((rd_T130 l0 x23_2).f0) ((rd_T130 l0 x23_2).f1) ((rd_T130 l0 x23_2).f2) ((rd_T130 l0 x23_2).f3) ((rd_T130 l0 x23_2).f4))) else (impl_ItemsOk.j2 k2 l0 x3_2 x23_2 l0 (l0.length : Int) x23_2 false ((rd_T130 l0 x23_2).f0) ((rd_T130 l0 x23_2).f1) ((rd_T130 l0 x23_2).f2) ((rd_T130 l0 x23_2).f3) ((rd_T130 l0 x23_2).f4))))) = some r := by rw [if_pos rfl] at H; exact H
      clear H
      have H := H1
      clear H1
      by_cases c21 : (((rd_T130 l0 x23_2).f3).length : Int) > 30
      ·rw [if_pos c21] at H
       have c21b0 : decide (30 < (((rd_T130 l0 x23_2).f3).length : Int)) = true := decide_eq_true c21
       have c21b1 : decide (30 < ((rd_T130 l0 x23_2).f3).length) = true := decide_eq_true (by omega)
       clear c21
       (first | rw [c21b0] | (simp only [i64_w, i32_w]; rw [c21b0]) | skip)
       have H' := Aside0.mk H
       clear H
       have hcz22_0 : w11.cell? ⟨gb289, 0, none⟩ = some (.string (⟨#[]⟩ : ByteArray)) := (blk_cell BK289.out 0).trans rfl
       have hcz22_1 : w11.cell? ⟨gb289, 1, none⟩ = some (.int .i64 0) := (blk_cell BK289.out 1).trans rfl
       have hcz22_2 : w11.cell? ⟨gb289, 2, none⟩ = some (.bool false) := (blk_cell BK289.out 2).trans rfl
       have hcz22_3 : w11.cell? ⟨gb289, 3, none⟩ = some (.slice none 0 0) := (blk_cell BK289.out 3).trans rfl
       have hcz22_4 : w11.cell? ⟨gb289, 4, none⟩ = some (.slice none 0 0) := (blk_cell BK289.out 4).trans rfl
       have hfz22_0 := blk_frozen BK289.out 0
       have hfz22_1 := blk_frozen BK289.out 1
       have hfz22_2 := blk_frozen BK289.out 2
       have hfz22_3 := blk_frozen BK289.out 3
       have hfz22_4 := blk_frozen BK289.out 4
       go_wp2_with (first | ((with_reducible refine gate_callee (f := 119) rfl ?_); refine goesL_ (some 30) rfl rfl Try.func119 kZ rfl #[.string ((rd_T130 l0 x23_2).f0)] rfl tZA ?_; (with_reducible refine (impl_NameOk.calls k2 ((rd_T130 l0 x23_2).f0) true _ A13.out).mono ?_); rintro e w' ⟨rfl, ⟨nd, rfl⟩⟩; refine ⟨_, rfl, ?_⟩; have hcv23 := Kd.Y_get (e := 144) ((Kd.Y_far (p := ⟨gb289, 4, none⟩) (Kd.Y_far (p := ⟨gb289, 3, none⟩) (Kd.Y_far (p := ⟨gb289, 2, none⟩) (Kd.Y_far (p := ⟨gb289, 1, none⟩) (Kd.Y_far (p := ⟨gb289, 0, none⟩) (Kd.Y_types HO_3.out BK289.out (by decide)) (fun _ hk => hk.2) (.string ((rd_T130 l0 x23_2).f0))) (fun _ hk => hk.2) (.int .i64 ((rd_T130 l0 x23_2).f1))) (fun _ hk => hk.2) (.bool ((rd_T130 l0 x23_2).f2))) (fun _ hk => hk.2) (.slice A288_3 ((rd_T130 l0 x23_2).f3).length c288_3)) (fun _ hk => hk.2) (.slice A288_4 ((rd_T130 l0 x23_2).f4).length c288_4))) ((rd_T130 l0 x23_2).f0) (show okS _ from ((of_decide_eq_true tZE) : ((rd_T130 l0 x23_2).f0).size ≤ 9223372036854775807)); have hcv23d := fun n_ => Kd.Y_get (e := 144) (Kd.Y_drewN ((Kd.Y_far (p := ⟨gb289, 4, none⟩) (Kd.Y_far (p := ⟨gb289, 3, none⟩) (Kd.Y_far (p := ⟨gb289, 2, none⟩) (Kd.Y_far (p := ⟨gb289, 1, none⟩) (Kd.Y_far (p := ⟨gb289, 0, none⟩) (Kd.Y_types HO_3.out BK289.out (by decide)) (fun _ hk => hk.2) (.string ((rd_T130 l0 x23_2).f0))) (fun _ hk => hk.2) (.int .i64 ((rd_T130 l0 x23_2).f1))) (fun _ hk => hk.2) (.bool ((rd_T130 l0 x23_2).f2))) (fun _ hk => hk.2) (.slice A288_3 ((rd_T130 l0 x23_2).f3).length c288_3)) (fun _ hk => hk.2) (.slice A288_4 ((rd_T130 l0 x23_2).f4).length c288_4))) n_) ((rd_T130 l0 x23_2).f0) (show okS _ from ((of_decide_eq_true tZE) : ((rd_T130 l0 x23_2).f0).size ≤ 9223372036854775807)); have hcv23e := fun m_ n_ => Kd.Y_get (e := 144) (Kd.Y_drewN (Kd.Y_drewN ((Kd.Y_far (p := ⟨gb289, 4, none⟩) (Kd.Y_far (p := ⟨gb289, 3, none⟩) (Kd.Y_far (p := ⟨gb289, 2, none⟩) (Kd.Y_far (p := ⟨gb289, 1, none⟩) (Kd.Y_far (p := ⟨gb289, 0, none⟩) (Kd.Y_types HO_3.out BK289.out (by decide)) (fun _ hk => hk.2) (.string ((rd_T130 l0 x23_2).f0))) (fun _ hk => hk.2) (.int .i64 ((rd_T130 l0 x23_2).f1))) (fun _ hk => hk.2) (.bool ((rd_T130 l0 x23_2).f2))) (fun _ hk => hk.2) (.slice A288_3 ((rd_T130 l0 x23_2).f3).length c288_3)) (fun _ hk => hk.2) (.slice A288_4 ((rd_T130 l0 x23_2).f4).length c288_4))) m_) n_) ((rd_T130 l0 x23_2).f0) (show okS _ from ((of_decide_eq_true tZE) : ((rd_T130 l0 x23_2).f0).size ≤ 9223372036854775807)); simp only [my144, mkSB, mkSI, mkIB, mkII] at hcv23 hcv23d hcv23e; rw [← Ny291.out] at hcv23 hcv23d hcv23e) | (go_at_call 120; (with_reducible refine (impl_between.calls ((rd_T130 l0 x23_2).f1) 1 1000000 true _ A19.out).mono ?_); rintro e w' ⟨rfl, ⟨nd, rfl⟩⟩))
       go_meet
       case rel => exact ⟨_, (true), tZB, H', ⟨by have := HJ1.out; have := HK2.out; first | omega | exact Nat.le_refl _⟩, ⟨by (with_reducible repeat (first | apply Kd.Y_alloc | apply Kd.Y_drewN | apply Kd.Y_drew)); exact Kd.Y_mono (Kd.Y_far (p := ⟨gb289, 4, none⟩) (Kd.Y_far (p := ⟨gb289, 3, none⟩) (Kd.Y_far (p := ⟨gb289, 2, none⟩) (Kd.Y_far (p := ⟨gb289, 1, none⟩) (Kd.Y_far (p := ⟨gb289, 0, none⟩) (Kd.Y_types HO_3.out BK289.out (by decide)) (fun _ hk => hk.2) (.string ((rd_T130 l0 x23_2).f0))) (fun _ hk => hk.2) (.int .i64 ((rd_T130 l0 x23_2).f1))) (fun _ hk => hk.2) (.bool ((rd_T130 l0 x23_2).f2))) (fun _ hk => hk.2) (.slice A288_3 ((rd_T130 l0 x23_2).f3).length c288_3)) (fun _ hk => hk.2) (.slice A288_4 ((rd_T130 l0 x23_2).f4).length c288_4)) (fun _ hk => trivial)⟩, ⟨by (with_reducible repeat (first | refine blk_drewN ?_ _ | refine blk_drew ?_ | refine blk_alloc ?_ _)); refine blk_put (cs := #[.string ((rd_T130 l0 x23_2).f0), .int .i64 ((rd_T130 l0 x23_2).f1), .bool ((rd_T130 l0 x23_2).f2), .slice A288_3 ((rd_T130 l0 x23_2).f3).length c288_3, .slice none 0 0]) ?_ 4 _ rfl; (with_reducible repeat (first | refine blk_drewN ?_ _ | refine blk_drew ?_ | refine blk_alloc ?_ _)); refine blk_put (cs := #[.string ((rd_T130 l0 x23_2).f0), .int .i64 ((rd_T130 l0 x23_2).f1), .bool ((rd_T130 l0 x23_2).f2), .slice none 0 0, .slice none 0 0]) ?_ 3 _ rfl; (with_reducible repeat (first | refine blk_drewN ?_ _ | refine blk_drew ?_ | refine blk_alloc ?_ _)); refine blk_put (cs := #[.string ((rd_T130 l0 x23_2).f0), .int .i64 ((rd_T130 l0 x23_2).f1), .bool false, .slice none 0 0, .slice none 0 0]) ?_ 2 _ rfl; (with_reducible repeat (first | refine blk_drewN ?_ _ | refine blk_drew ?_ | refine blk_alloc ?_ _)); refine blk_put (cs := #[.string ((rd_T130 l0 x23_2).f0), .int .i64 0, .bool false, .slice none 0 0, .slice none 0 0]) ?_ 1 _ rfl; (with_reducible repeat (first | refine blk_drewN ?_ _ | refine blk_drew ?_ | refine blk_alloc ?_ _)); refine blk_put (cs := #[.string (⟨#[]⟩ : ByteArray), .int .i64 0, .bool false, .slice none 0 0, .slice none 0 0]) ?_ 0 _ rfl; (with_reducible repeat (first | refine blk_drewN ?_ _ | refine blk_drew ?_ | refine blk_alloc ?_ _)); exact BK289.out⟩, ⟨bZ⟩⟩
      rw [if_neg c21] at H
      have c21b0 : decide (30 < (((rd_T130 l0 x23_2).f3).length : Int)) = false := decide_eq_false c21
      have c21b1 : decide (30 < ((rd_T130 l0 x23_2).f3).length) = false := decide_eq_false (by omega)
      clear c21
      (first | rw [c21b0] | (simp only [i64_w, i32_w]; rw [c21b0]) | skip)
      by_cases c24 : (((rd_T130 l0 x23_2).f4).length : Int) > 30
      ·rw [if_pos c24] at H
       have c24b0 : decide (30 < (((rd_T130 l0 x23_2).f4).length : Int)) = true := decide_eq_true c24
       have c24b1 : decide (30 < ((rd_T130 l0 x23_2).f4).length) = true := decide_eq_true (by omega)
       clear c24
       have H' := Aside0.mk H
       clear H
       have hcz25_0 : w11.cell? ⟨gb289, 0, none⟩ = some (.string (⟨#[]⟩ : ByteArray)) := (blk_cell BK289.out 0).trans rfl
       have hcz25_1 : w11.cell? ⟨gb289, 1, none⟩ = some (.int .i64 0) := (blk_cell BK289.out 1).trans rfl
       have hcz25_2 : w11.cell? ⟨gb289, 2, none⟩ = some (.bool false) := (blk_cell BK289.out 2).trans rfl
       have hcz25_3 : w11.cell? ⟨gb289, 3, none⟩ = some (.slice none 0 0) := (blk_cell BK289.out 3).trans rfl
       have hcz25_4 : w11.cell? ⟨gb289, 4, none⟩ = some (.slice none 0 0) := (blk_cell BK289.out 4).trans rfl
       have hfz25_0 := blk_frozen BK289.out 0
       have hfz25_1 := blk_frozen BK289.out 1
       have hfz25_2 := blk_frozen BK289.out 2
       have hfz25_3 := blk_frozen BK289.out 3
       have hfz25_4 := blk_frozen BK289.out 4
       go_wp2_with (first | ((with_reducible refine gate_callee (f := 119) rfl ?_); refine goesL_ (some 30) rfl rfl Try.func119 kZ rfl #[.string ((rd_T130 l0 x23_2).f0)] rfl tZA ?_; (with_reducible refine (impl_NameOk.calls k2 ((rd_T130 l0 x23_2).f0) true _ A13.out).mono ?_); rintro e w' ⟨rfl, ⟨nd, rfl⟩⟩; refine ⟨_, rfl, ?_⟩; have hcv26 := Kd.Y_get (e := 144) ((Kd.Y_far (p := ⟨gb289, 4, none⟩) (Kd.Y_far (p := ⟨gb289, 3, none⟩) (Kd.Y_far (p := ⟨gb289, 2, none⟩) (Kd.Y_far (p := ⟨gb289, 1, none⟩) (Kd.Y_far (p := ⟨gb289, 0, none⟩) (Kd.Y_types HO_3.out BK289.out (by decide)) (fun _ hk => hk.2) (.string ((rd_T130 l0 x23_2).f0))) (fun _ hk => hk.2) (.int .i64 ((rd_T130 l0 x23_2).f1))) (fun _ hk => hk.2) (.bool ((rd_T130 l0 x23_2).f2))) (fun _ hk => hk.2) (.slice A288_3 ((rd_T130 l0 x23_2).f3).length c288_3)) (fun _ hk => hk.2) (.slice A288_4 ((rd_T130 l0 x23_2).f4).length c288_4))) ((rd_T130 l0 x23_2).f0) (show okS _ from ((of_decide_eq_true tZE) : ((rd_T130 l0 x23_2).f0).size ≤ 9223372036854775807)); have hcv26d := fun n_ => Kd.Y_get (e := 144) (Kd.Y_drewN ((Kd.Y_far (p := ⟨gb289, 4, none⟩) (Kd.Y_far (p := ⟨gb289, 3, none⟩) (Kd.Y_far (p := ⟨gb289, 2, none⟩) (Kd.Y_far (p := ⟨gb289, 1, none⟩) (Kd.Y_far (p := ⟨gb289, 0, none⟩) (Kd.Y_types HO_3.out BK289.out (by decide)) (fun _ hk => hk.2) (.string ((rd_T130 l0 x23_2).f0))) (fun _ hk => hk.2) (.int .i64 ((rd_T130 l0 x23_2).f1))) (fun _ hk => hk.2) (.bool ((rd_T130 l0 x23_2).f2))) (fun _ hk => hk.2) (.slice A288_3 ((rd_T130 l0 x23_2).f3).length c288_3)) (fun _ hk => hk.2) (.slice A288_4 ((rd_T130 l0 x23_2).f4).length c288_4))) n_) ((rd_T130 l0 x23_2).f0) (show okS _ from ((of_decide_eq_true tZE) : ((rd_T130 l0 x23_2).f0).size ≤ 9223372036854775807)); have hcv26e := fun m_ n_ => Kd.Y_get (e := 144) (Kd.Y_drewN (Kd.Y_drewN ((Kd.Y_far (p := ⟨gb289, 4, none⟩) (Kd.Y_far (p := ⟨gb289, 3, none⟩) (Kd.Y_far (p := ⟨gb289, 2, none⟩) (Kd.Y_far (p := ⟨gb289, 1, none⟩) (Kd.Y_far (p := ⟨gb289, 0, none⟩) (Kd.Y_types HO_3.out BK289.out (by decide)) (fun _ hk => hk.2) (.string ((rd_T130 l0 x23_2).f0))) (fun _ hk => hk.2) (.int .i64 ((rd_T130 l0 x23_2).f1))) (fun _ hk => hk.2) (.bool ((rd_T130 l0 x23_2).f2))) (fun _ hk => hk.2) (.slice A288_3 ((rd_T130 l0 x23_2).f3).length c288_3)) (fun _ hk => hk.2) (.slice A288_4 ((rd_T130 l0 x23_2).f4).length c288_4))) m_) n_) ((rd_T130 l0 x23_2).f0) (show okS _ from ((of_decide_eq_true tZE) : ((rd_T130 l0 x23_2).f0).size ≤ 9223372036854775807)); simp only [my144, mkSB, mkSI, mkIB, mkII] at hcv26 hcv26d hcv26e; rw [← Ny291.out] at hcv26 hcv26d hcv26e) | (go_at_call 120; (with_reducible refine (impl_between.calls ((rd_T130 l0 x23_2).f1) 1 1000000 true _ A19.out).mono ?_); rintro e w' ⟨rfl, ⟨nd, rfl⟩⟩))
       go_meet
       case rel => exact ⟨_, (true), tZB, H', ⟨by have := HJ1.out; have := HK2.out; first | omega | exact Nat.le_refl _⟩, ⟨by (with_reducible repeat (first | apply Kd.Y_alloc | apply Kd.Y_drewN | apply Kd.Y_drew)); exact Kd.Y_mono (Kd.Y_far (p := ⟨gb289, 4, none⟩) (Kd.Y_far (p := ⟨gb289, 3, none⟩) (Kd.Y_far (p := ⟨gb289, 2, none⟩) (Kd.Y_far (p := ⟨gb289, 1, none⟩) (Kd.Y_far (p := ⟨gb289, 0, none⟩) (Kd.Y_types HO_3.out BK289.out (by decide)) (fun _ hk => hk.2) (.string ((rd_T130 l0 x23_2).f0))) (fun _ hk => hk.2) (.int .i64 ((rd_T130 l0 x23_2).f1))) (fun _ hk => hk.2) (.bool ((rd_T130 l0 x23_2).f2))) (fun _ hk => hk.2) (.slice A288_3 ((rd_T130 l0 x23_2).f3).length c288_3)) (fun _ hk => hk.2) (.slice A288_4 ((rd_T130 l0 x23_2).f4).length c288_4)) (fun _ hk => trivial)⟩, ⟨by (with_reducible repeat (first | refine blk_drewN ?_ _ | refine blk_drew ?_ | refine blk_alloc ?_ _)); refine blk_put (cs := #[.string ((rd_T130 l0 x23_2).f0), .int .i64 ((rd_T130 l0 x23_2).f1), .bool ((rd_T130 l0 x23_2).f2), .slice A288_3 ((rd_T130 l0 x23_2).f3).length c288_3, .slice none 0 0]) ?_ 4 _ rfl; (with_reducible repeat (first | refine blk_drewN ?_ _ | refine blk_drew ?_ | refine blk_alloc ?_ _)); refine blk_put (cs := #[.string ((rd_T130 l0 x23_2).f0), .int .i64 ((rd_T130 l0 x23_2).f1), .bool ((rd_T130 l0 x23_2).f2), .slice none 0 0, .slice none 0 0]) ?_ 3 _ rfl; (with_reducible repeat (first | refine blk_drewN ?_ _ | refine blk_drew ?_ | refine blk_alloc ?_ _)); refine blk_put (cs := #[.string ((rd_T130 l0 x23_2).f0), .int .i64 ((rd_T130 l0 x23_2).f1), .bool false, .slice none 0 0, .slice none 0 0]) ?_ 2 _ rfl; (with_reducible repeat (first | refine blk_drewN ?_ _ | refine blk_drew ?_ | refine blk_alloc ?_ _)); refine blk_put (cs := #[.string ((rd_T130 l0 x23_2).f0), .int .i64 0, .bool false, .slice none 0 0, .slice none 0 0]) ?_ 1 _ rfl; (with_reducible repeat (first | refine blk_drewN ?_ _ | refine blk_drew ?_ | refine blk_alloc ?_ _)); refine blk_put (cs := #[.string (⟨#[]⟩ : ByteArray), .int .i64 0, .bool false, .slice none 0 0, .slice none 0 0]) ?_ 0 _ rfl; (with_reducible repeat (first | refine blk_drewN ?_ _ | refine blk_drew ?_ | refine blk_alloc ?_ _)); exact BK289.out⟩, ⟨bZ⟩⟩
      rw [if_neg c24] at H
      have c24b0 : decide (30 < (((rd_T130 l0 x23_2).f4).length : Int)) = false := decide_eq_false c24
      have c24b1 : decide (30 < ((rd_T130 l0 x23_2).f4).length) = false := decide_eq_false (by omega)
      clear c24
      obtain ⟨bq27, hbq27⟩ : ∃ b_ : Bool, b_ = ((rd_T130 l0 x23_2).f2) := ⟨_, rfl⟩
      replace H : (if bq27 = true then (if (((rd_T130 l0 x23_2).f3).length : Int) = 0 then (impl_ItemsOk.j2 k2 l0 x3_2 x23_2 l0 (l0.length : Int) x23_2 true ((rd_T130 l0 x23_2).f0) ((rd_T130 l0 x23_2).f1) bq27 ((rd_T130 l0 x23_2).f3) ((rd_T130 l0 x23_2).f4)) else (impl_ItemsOk.j2 k2 l0 x3_2 x23_2 l0 (l0.length : Int) x23_2 (decide ((((rd_T130 l0 x23_2).f4).length : Int) > 0)) ((rd_T130 l0 x23_2).f0) ((rd_T130 l0 x23_2).f1) bq27 ((rd_T130 l0 x23_2).f3) ((rd_T130 l0 x23_2).f4))) else (impl_ItemsOk.j2 k2 l0 x3_2 x23_2 l0 (l0.length : Int) x23_2 false ((rd_T130 l0 x23_2).f0) ((rd_T130 l0 x23_2).f1) bq27 ((rd_T130 l0 x23_2).f3) ((rd_T130 l0 x23_2).f4))) = some r := by rw [← hbq27] at H; exact H
      have Nbq27 := Aside0.mk hbq27
      clear hbq27
      (try rw [← Nbq27.out] at hx288_2)
      (try rw [← Nbq27.out])
      by_cases c28 : bq27 = true
      rotate_left
      ·replace c28 := Bool.eq_false_iff.mpr c28
       subst c28
       have H1 : (impl_ItemsOk.j2 k2 l0 x3_2 x23_2 l0 (l0.length : Int) x23_2 false ((rd_T130 l0 x23_2).f0) ((rd_T130 l0 x23_2).f1) false ((rd_T130 l0 x23_2).f3) ((rd_T130 l0 x23_2).f4)) = some r := by rw [if_neg (show ¬ (false = true) by decide)] at H; exact H
       clear H
       have H := H1
       clear H1
       have H' := Aside0.mk H
       clear H
       have hcz34_0 : w11.cell? ⟨gb289, 0, none⟩ = some (.string (⟨#[]⟩ : ByteArray)) := (blk_cell BK289.out 0).trans rfl
       have hcz34_1 : w11.cell? ⟨gb289, 1, none⟩ = some (.int .i64 0) := (blk_cell BK289.out 1).trans rfl
       have hcz34_2 : w11.cell? ⟨gb289, 2, none⟩ = some (.bool false) := (blk_cell BK289.out 2).trans rfl
       have hcz34_3 : w11.cell? ⟨gb289, 3, none⟩ = some (.slice none 0 0) := (blk_cell BK289.out 3).trans rfl
       have hcz34_4 : w11.cell? ⟨gb289, 4, none⟩ = some (.slice none 0 0) := (blk_cell BK289.out 4).trans rfl
       have hfz34_0 := blk_frozen BK289.out 0
       have hfz34_1 := blk_frozen BK289.out 1
       have hfz34_2 := blk_frozen BK289.out 2
       have hfz34_3 := blk_frozen BK289.out 3
       have hfz34_4 := blk_frozen BK289.out 4
       go_wp2_with (first | ((with_reducible refine gate_callee (f := 119) rfl ?_); refine goesL_ (some 30) rfl rfl Try.func119 kZ rfl #[.string ((rd_T130 l0 x23_2).f0)] rfl tZA ?_; (with_reducible refine (impl_NameOk.calls k2 ((rd_T130 l0 x23_2).f0) true _ A13.out).mono ?_); rintro e w' ⟨rfl, ⟨nd, rfl⟩⟩; refine ⟨_, rfl, ?_⟩; have hcv35 := Kd.Y_get (e := 144) ((Kd.Y_far (p := ⟨gb289, 4, none⟩) (Kd.Y_far (p := ⟨gb289, 3, none⟩) (Kd.Y_far (p := ⟨gb289, 2, none⟩) (Kd.Y_far (p := ⟨gb289, 1, none⟩) (Kd.Y_far (p := ⟨gb289, 0, none⟩) (Kd.Y_types HO_3.out BK289.out (by decide)) (fun _ hk => hk.2) (.string ((rd_T130 l0 x23_2).f0))) (fun _ hk => hk.2) (.int .i64 ((rd_T130 l0 x23_2).f1))) (fun _ hk => hk.2) (.bool (false))) (fun _ hk => hk.2) (.slice A288_3 ((rd_T130 l0 x23_2).f3).length c288_3)) (fun _ hk => hk.2) (.slice A288_4 ((rd_T130 l0 x23_2).f4).length c288_4))) ((rd_T130 l0 x23_2).f0) (show okS _ from ((of_decide_eq_true tZE) : ((rd_T130 l0 x23_2).f0).size ≤ 9223372036854775807)); have hcv35d := fun n_ => Kd.Y_get (e := 144) (Kd.Y_drewN ((Kd.Y_far (p := ⟨gb289, 4, none⟩) (Kd.Y_far (p := ⟨gb289, 3, none⟩) (Kd.Y_far (p := ⟨gb289, 2, none⟩) (Kd.Y_far (p := ⟨gb289, 1, none⟩) (Kd.Y_far (p := ⟨gb289, 0, none⟩) (Kd.Y_types HO_3.out BK289.out (by decide)) (fun _ hk => hk.2) (.string ((rd_T130 l0 x23_2).f0))) (fun _ hk => hk.2) (.int .i64 ((rd_T130 l0 x23_2).f1))) (fun _ hk => hk.2) (.bool (false))) (fun _ hk => hk.2) (.slice A288_3 ((rd_T130 l0 x23_2).f3).length c288_3)) (fun _ hk => hk.2) (.slice A288_4 ((rd_T130 l0 x23_2).f4).length c288_4))) n_) ((rd_T130 l0 x23_2).f0) (show okS _ from ((of_decide_eq_true tZE) : ((rd_T130 l0 x23_2).f0).size ≤ 9223372036854775807)); have hcv35e := fun m_ n_ => Kd.Y_get (e := 144) (Kd.Y_drewN (Kd.Y_drewN ((Kd.Y_far (p := ⟨gb289, 4, none⟩) (Kd.Y_far (p := ⟨gb289, 3, none⟩) (Kd.Y_far (p := ⟨gb289, 2, none⟩) (Kd.Y_far (p := ⟨gb289, 1, none⟩) (Kd.Y_far (p := ⟨gb289, 0, none⟩) (Kd.Y_types HO_3.out BK289.out (by decide)) (fun _ hk => hk.2) (.string ((rd_T130 l0 x23_2).f0))) (fun _ hk => hk.2) (.int .i64 ((rd_T130 l0 x23_2).f1))) (fun _ hk => hk.2) (.bool (false))) (fun _ hk => hk.2) (.slice A288_3 ((rd_T130 l0 x23_2).f3).length c288_3)) (fun _ hk => hk.2) (.slice A288_4 ((rd_T130 l0 x23_2).f4).length c288_4))) m_) n_) ((rd_T130 l0 x23_2).f0) (show okS _ from ((of_decide_eq_true tZE) : ((rd_T130 l0 x23_2).f0).size ≤ 9223372036854775807)); simp only [my144, mkSB, mkSI, mkIB, mkII] at hcv35 hcv35d hcv35e; rw [← Ny291.out] at hcv35 hcv35d hcv35e) | (go_at_call 120; (with_reducible refine (impl_between.calls ((rd_T130 l0 x23_2).f1) 1 1000000 true _ A19.out).mono ?_); rintro e w' ⟨rfl, ⟨nd, rfl⟩⟩))
       go_meet
       case rel => (try rw [← Nbq27.out]); exact ⟨_, (false), tZB, H', ⟨by have := HJ1.out; have := HK2.out; first | omega | exact Nat.le_refl _⟩, ⟨by (with_reducible repeat (first | apply Kd.Y_alloc | apply Kd.Y_drewN | apply Kd.Y_drew)); exact Kd.Y_mono (Kd.Y_far (p := ⟨gb289, 4, none⟩) (Kd.Y_far (p := ⟨gb289, 3, none⟩) (Kd.Y_far (p := ⟨gb289, 2, none⟩) (Kd.Y_far (p := ⟨gb289, 1, none⟩) (Kd.Y_far (p := ⟨gb289, 0, none⟩) (Kd.Y_types HO_3.out BK289.out (by decide)) (fun _ hk => hk.2) (.string ((rd_T130 l0 x23_2).f0))) (fun _ hk => hk.2) (.int .i64 ((rd_T130 l0 x23_2).f1))) (fun _ hk => hk.2) (.bool (false))) (fun _ hk => hk.2) (.slice A288_3 ((rd_T130 l0 x23_2).f3).length c288_3)) (fun _ hk => hk.2) (.slice A288_4 ((rd_T130 l0 x23_2).f4).length c288_4)) (fun _ hk => trivial)⟩, ⟨by (with_reducible repeat (first | refine blk_drewN ?_ _ | refine blk_drew ?_ | refine blk_alloc ?_ _)); refine blk_put (cs := #[.string ((rd_T130 l0 x23_2).f0), .int .i64 ((rd_T130 l0 x23_2).f1), .bool (false), .slice A288_3 ((rd_T130 l0 x23_2).f3).length c288_3, .slice none 0 0]) ?_ 4 _ rfl; (with_reducible repeat (first | refine blk_drewN ?_ _ | refine blk_drew ?_ | refine blk_alloc ?_ _)); refine blk_put (cs := #[.string ((rd_T130 l0 x23_2).f0), .int .i64 ((rd_T130 l0 x23_2).f1), .bool (false), .slice none 0 0, .slice none 0 0]) ?_ 3 _ rfl; (with_reducible repeat (first | refine blk_drewN ?_ _ | refine blk_drew ?_ | refine blk_alloc ?_ _)); refine blk_put (cs := #[.string ((rd_T130 l0 x23_2).f0), .int .i64 ((rd_T130 l0 x23_2).f1), .bool false, .slice none 0 0, .slice none 0 0]) ?_ 2 _ rfl; (with_reducible repeat (first | refine blk_drewN ?_ _ | refine blk_drew ?_ | refine blk_alloc ?_ _)); refine blk_put (cs := #[.string ((rd_T130 l0 x23_2).f0), .int .i64 0, .bool false, .slice none 0 0, .slice none 0 0]) ?_ 1 _ rfl; (with_reducible repeat (first | refine blk_drewN ?_ _ | refine blk_drew ?_ | refine blk_alloc ?_ _)); refine blk_put (cs := #[.string (⟨#[]⟩ : ByteArray), .int .i64 0, .bool false, .slice none 0 0, .slice none 0 0]) ?_ 0 _ rfl; (with_reducible repeat (first | refine blk_drewN ?_ _ | refine blk_drew ?_ | refine blk_alloc ?_ _)); exact BK289.out⟩, ⟨bZ⟩⟩
      subst c28
      have H1 : (if (((rd_T130 l0 x23_2).f3).length : Int) = 0 then (impl_ItemsOk.j2 k2 l0 x3_2 x23_2 l0 (l0.length : Int) x23_2 true ((rd_T130 l0 x23_2).f0) ((rd_T130 l0 x23_2).f1) true ((rd_T130 l0 x23_2).f3) ((rd_T130 l0 x23_2).f4)) else (impl_ItemsOk.j2 k2 l0 x3_2 x23_2 l0 (l0.length : Int) x23_2 (decide ((((rd_T130 l0 x23_2).f4).length : Int) > 0)) ((rd_T130 l0 x23_2).f0) ((rd_T130 l0 x23_2).f1) true ((rd_T130 l0 x23_2).f3) ((rd_T130 l0 x23_2).f4))) = some r := by rw [if_pos rfl] at H; exact H
      clear H
      have H := H1
      clear H1
      by_cases c29 : (((rd_T130 l0 x23_2).f3).length : Int) = 0
      ·rw [if_pos c29] at H
       have c29b0 : ((((rd_T130 l0 x23_2).f3).length : Int) == 0) = true := beq_iff_eq.mpr c29
       have c29b1 : ((((rd_T130 l0 x23_2).f3).length : Int) != 0) = false := bne_eq_false_iff_eq.mpr c29
       clear c29
       have H' := Aside0.mk H
       clear H
       have hcz30_0 : w11.cell? ⟨gb289, 0, none⟩ = some (.string (⟨#[]⟩ : ByteArray)) := (blk_cell BK289.out 0).trans rfl
       have hcz30_1 : w11.cell? ⟨gb289, 1, none⟩ = some (.int .i64 0) := (blk_cell BK289.out 1).trans rfl
       have hcz30_2 : w11.cell? ⟨gb289, 2, none⟩ = some (.bool false) := (blk_cell BK289.out 2).trans rfl
       have hcz30_3 : w11.cell? ⟨gb289, 3, none⟩ = some (.slice none 0 0) := (blk_cell BK289.out 3).trans rfl
       have hcz30_4 : w11.cell? ⟨gb289, 4, none⟩ = some (.slice none 0 0) := (blk_cell BK289.out 4).trans rfl
       have hfz30_0 := blk_frozen BK289.out 0
       have hfz30_1 := blk_frozen BK289.out 1
       have hfz30_2 := blk_frozen BK289.out 2
       have hfz30_3 := blk_frozen BK289.out 3
       have hfz30_4 := blk_frozen BK289.out 4
       go_wp2_with (first | ((with_reducible refine gate_callee (f := 119) rfl ?_); refine goesL_ (some 30) rfl rfl Try.func119 kZ rfl #[.string ((rd_T130 l0 x23_2).f0)] rfl tZA ?_; (with_reducible refine (impl_NameOk.calls k2 ((rd_T130 l0 x23_2).f0) true _ A13.out).mono ?_); rintro e w' ⟨rfl, ⟨nd, rfl⟩⟩; refine ⟨_, rfl, ?_⟩; have hcv31 := Kd.Y_get (e := 144) ((Kd.Y_far (p := ⟨gb289, 4, none⟩) (Kd.Y_far (p := ⟨gb289, 3, none⟩) (Kd.Y_far (p := ⟨gb289, 2, none⟩) (Kd.Y_far (p := ⟨gb289, 1, none⟩) (Kd.Y_far (p := ⟨gb289, 0, none⟩) (Kd.Y_types HO_3.out BK289.out (by decide)) (fun _ hk => hk.2) (.string ((rd_T130 l0 x23_2).f0))) (fun _ hk => hk.2) (.int .i64 ((rd_T130 l0 x23_2).f1))) (fun _ hk => hk.2) (.bool (true))) (fun _ hk => hk.2) (.slice A288_3 ((rd_T130 l0 x23_2).f3).length c288_3)) (fun _ hk => hk.2) (.slice A288_4 ((rd_T130 l0 x23_2).f4).length c288_4))) ((rd_T130 l0 x23_2).f0) (show okS _ from ((of_decide_eq_true tZE) : ((rd_T130 l0 x23_2).f0).size ≤ 9223372036854775807)); have hcv31d := fun n_ => Kd.Y_get (e := 144) (Kd.Y_drewN ((Kd.Y_far (p := ⟨gb289, 4, none⟩) (Kd.Y_far (p := ⟨gb289, 3, none⟩) (Kd.Y_far (p := ⟨gb289, 2, none⟩) (Kd.Y_far (p := ⟨gb289, 1, none⟩) (Kd.Y_far (p := ⟨gb289, 0, none⟩) (Kd.Y_types HO_3.out BK289.out (by decide)) (fun _ hk => hk.2) (.string ((rd_T130 l0 x23_2).f0))) (fun _ hk => hk.2) (.int .i64 ((rd_T130 l0 x23_2).f1))) (fun _ hk => hk.2) (.bool (true))) (fun _ hk => hk.2) (.slice A288_3 ((rd_T130 l0 x23_2).f3).length c288_3)) (fun _ hk => hk.2) (.slice A288_4 ((rd_T130 l0 x23_2).f4).length c288_4))) n_) ((rd_T130 l0 x23_2).f0) (show okS _ from ((of_decide_eq_true tZE) : ((rd_T130 l0 x23_2).f0).size ≤ 9223372036854775807)); have hcv31e := fun m_ n_ => Kd.Y_get (e := 144) (Kd.Y_drewN (Kd.Y_drewN ((Kd.Y_far (p := ⟨gb289, 4, none⟩) (Kd.Y_far (p := ⟨gb289, 3, none⟩) (Kd.Y_far (p := ⟨gb289, 2, none⟩) (Kd.Y_far (p := ⟨gb289, 1, none⟩) (Kd.Y_far (p := ⟨gb289, 0, none⟩) (Kd.Y_types HO_3.out BK289.out (by decide)) (fun _ hk => hk.2) (.string ((rd_T130 l0 x23_2).f0))) (fun _ hk => hk.2) (.int .i64 ((rd_T130 l0 x23_2).f1))) (fun _ hk => hk.2) (.bool (true))) (fun _ hk => hk.2) (.slice A288_3 ((rd_T130 l0 x23_2).f3).length c288_3)) (fun _ hk => hk.2) (.slice A288_4 ((rd_T130 l0 x23_2).f4).length c288_4))) m_) n_) ((rd_T130 l0 x23_2).f0) (show okS _ from ((of_decide_eq_true tZE) : ((rd_T130 l0 x23_2).f0).size ≤ 9223372036854775807)); simp only [my144, mkSB, mkSI, mkIB, mkII] at hcv31 hcv31d hcv31e; rw [← Ny291.out] at hcv31 hcv31d hcv31e) | (go_at_call 120; (with_reducible refine (impl_between.calls ((rd_T130 l0 x23_2).f1) 1 1000000 true _ A19.out).mono ?_); rintro e w' ⟨rfl, ⟨nd, rfl⟩⟩))
       go_meet
       case rel => (try rw [← Nbq27.out]); exact ⟨_, (true), tZB, H', ⟨by have := HJ1.out; have := HK2.out; first | omega | exact Nat.le_refl _⟩, ⟨by (with_reducible repeat (first | apply Kd.Y_alloc | apply Kd.Y_drewN | apply Kd.Y_drew)); exact Kd.Y_mono (Kd.Y_far (p := ⟨gb289, 4, none⟩) (Kd.Y_far (p := ⟨gb289, 3, none⟩) (Kd.Y_far (p := ⟨gb289, 2, none⟩) (Kd.Y_far (p := ⟨gb289, 1, none⟩) (Kd.Y_far (p := ⟨gb289, 0, none⟩) (Kd.Y_types HO_3.out BK289.out (by decide)) (fun _ hk => hk.2) (.string ((rd_T130 l0 x23_2).f0))) (fun _ hk => hk.2) (.int .i64 ((rd_T130 l0 x23_2).f1))) (fun _ hk => hk.2) (.bool (true))) (fun _ hk => hk.2) (.slice A288_3 ((rd_T130 l0 x23_2).f3).length c288_3)) (fun _ hk => hk.2) (.slice A288_4 ((rd_T130 l0 x23_2).f4).length c288_4)) (fun _ hk => trivial)⟩, ⟨by (with_reducible repeat (first | refine blk_drewN ?_ _ | refine blk_drew ?_ | refine blk_alloc ?_ _)); refine blk_put (cs := #[.string ((rd_T130 l0 x23_2).f0), .int .i64 ((rd_T130 l0 x23_2).f1), .bool (true), .slice A288_3 ((rd_T130 l0 x23_2).f3).length c288_3, .slice none 0 0]) ?_ 4 _ rfl; (with_reducible repeat (first | refine blk_drewN ?_ _ | refine blk_drew ?_ | refine blk_alloc ?_ _)); refine blk_put (cs := #[.string ((rd_T130 l0 x23_2).f0), .int .i64 ((rd_T130 l0 x23_2).f1), .bool (true), .slice none 0 0, .slice none 0 0]) ?_ 3 _ rfl; (with_reducible repeat (first | refine blk_drewN ?_ _ | refine blk_drew ?_ | refine blk_alloc ?_ _)); refine blk_put (cs := #[.string ((rd_T130 l0 x23_2).f0), .int .i64 ((rd_T130 l0 x23_2).f1), .bool false, .slice none 0 0, .slice none 0 0]) ?_ 2 _ rfl; (with_reducible repeat (first | refine blk_drewN ?_ _ | refine blk_drew ?_ | refine blk_alloc ?_ _)); refine blk_put (cs := #[.string ((rd_T130 l0 x23_2).f0), .int .i64 0, .bool false, .slice none 0 0, .slice none 0 0]) ?_ 1 _ rfl; (with_reducible repeat (first | refine blk_drewN ?_ _ | refine blk_drew ?_ | refine blk_alloc ?_ _)); refine blk_put (cs := #[.string (⟨#[]⟩ : ByteArray), .int .i64 0, .bool false, .slice none 0 0, .slice none 0 0]) ?_ 0 _ rfl; (with_reducible repeat (first | refine blk_drewN ?_ _ | refine blk_drew ?_ | refine blk_alloc ?_ _)); exact BK289.out⟩, ⟨bZ⟩⟩
      rw [if_neg c29] at H
      have c29b0 : ((((rd_T130 l0 x23_2).f3).length : Int) == 0) = false := beq_eq_false_iff_ne.mpr c29
      have c29b1 : ((((rd_T130 l0 x23_2).f3).length : Int) != 0) = true := bne_iff_ne.mpr c29
      have c29b2 : ¬ (((rd_T130 l0 x23_2).f3) = []) := fun h_ => c29 (by rw [h_]; rfl)
      have H' := Aside0.mk H
      clear H
      have hcz32_0 : w11.cell? ⟨gb289, 0, none⟩ = some (.string (⟨#[]⟩ : ByteArray)) := (blk_cell BK289.out 0).trans rfl
      have hcz32_1 : w11.cell? ⟨gb289, 1, none⟩ = some (.int .i64 0) := (blk_cell BK289.out 1).trans rfl
      have hcz32_2 : w11.cell? ⟨gb289, 2, none⟩ = some (.bool false) := (blk_cell BK289.out 2).trans rfl
      have hcz32_3 : w11.cell? ⟨gb289, 3, none⟩ = some (.slice none 0 0) := (blk_cell BK289.out 3).trans rfl
      have hcz32_4 : w11.cell? ⟨gb289, 4, none⟩ = some (.slice none 0 0) := (blk_cell BK289.out 4).trans rfl
      have hfz32_0 := blk_frozen BK289.out 0
      have hfz32_1 := blk_frozen BK289.out 1
      have hfz32_2 := blk_frozen BK289.out 2
      have hfz32_3 := blk_frozen BK289.out 3
      have hfz32_4 := blk_frozen BK289.out 4
      go_wp2_with (first | ((with_reducible refine gate_callee (f := 119) rfl ?_); refine goesL_ (some 30) rfl rfl Try.func119 kZ rfl #[.string ((rd_T130 l0 x23_2).f0)] rfl tZA ?_; (with_reducible refine (impl_NameOk.calls k2 ((rd_T130 l0 x23_2).f0) true _ A13.out).mono ?_); rintro e w' ⟨rfl, ⟨nd, rfl⟩⟩; refine ⟨_, rfl, ?_⟩; have hcv33 := Kd.Y_get (e := 144) ((Kd.Y_far (p := ⟨gb289, 4, none⟩) (Kd.Y_far (p := ⟨gb289, 3, none⟩) (Kd.Y_far (p := ⟨gb289, 2, none⟩) (Kd.Y_far (p := ⟨gb289, 1, none⟩) (Kd.Y_far (p := ⟨gb289, 0, none⟩) (Kd.Y_types HO_3.out BK289.out (by decide)) (fun _ hk => hk.2) (.string ((rd_T130 l0 x23_2).f0))) (fun _ hk => hk.2) (.int .i64 ((rd_T130 l0 x23_2).f1))) (fun _ hk => hk.2) (.bool (true))) (fun _ hk => hk.2) (.slice A288_3 ((rd_T130 l0 x23_2).f3).length c288_3)) (fun _ hk => hk.2) (.slice A288_4 ((rd_T130 l0 x23_2).f4).length c288_4))) ((rd_T130 l0 x23_2).f0) (show okS _ from ((of_decide_eq_true tZE) : ((rd_T130 l0 x23_2).f0).size ≤ 9223372036854775807)); have hcv33d := fun n_ => Kd.Y_get (e := 144) (Kd.Y_drewN ((Kd.Y_far (p := ⟨gb289, 4, none⟩) (Kd.Y_far (p := ⟨gb289, 3, none⟩) (Kd.Y_far (p := ⟨gb289, 2, none⟩) (Kd.Y_far (p := ⟨gb289, 1, none⟩) (Kd.Y_far (p := ⟨gb289, 0, none⟩) (Kd.Y_types HO_3.out BK289.out (by decide)) (fun _ hk => hk.2) (.string ((rd_T130 l0 x23_2).f0))) (fun _ hk => hk.2) (.int .i64 ((rd_T130 l0 x23_2).f1))) (fun _ hk => hk.2) (.bool (true))) (fun _ hk => hk.2) (.slice A288_3 ((rd_T130 l0 x23_2).f3).length c288_3)) (fun _ hk => hk.2) (.slice A288_4 ((rd_T130 l0 x23_2).f4).length c288_4))) n_) ((rd_T130 l0 x23_2).f0) (show okS _ from ((of_decide_eq_true tZE) : ((rd_T130 l0 x23_2).f0).size ≤ 9223372036854775807)); have hcv33e := fun m_ n_ => Kd.Y_get (e := 144) (Kd.Y_drewN (Kd.Y_drewN ((Kd.Y_far (p := ⟨gb289, 4, none⟩) (Kd.Y_far (p := ⟨gb289, 3, none⟩) (Kd.Y_far (p := ⟨gb289, 2, none⟩) (Kd.Y_far (p := ⟨gb289, 1, none⟩) (Kd.Y_far (p := ⟨gb289, 0, none⟩) (Kd.Y_types HO_3.out BK289.out (by decide)) (fun _ hk => hk.2) (.string ((rd_T130 l0 x23_2).f0))) (fun _ hk => hk.2) (.int .i64 ((rd_T130 l0 x23_2).f1))) (fun _ hk => hk.2) (.bool (true))) (fun _ hk => hk.2) (.slice A288_3 ((rd_T130 l0 x23_2).f3).length c288_3)) (fun _ hk => hk.2) (.slice A288_4 ((rd_T130 l0 x23_2).f4).length c288_4))) m_) n_) ((rd_T130 l0 x23_2).f0) (show okS _ from ((of_decide_eq_true tZE) : ((rd_T130 l0 x23_2).f0).size ≤ 9223372036854775807)); simp only [my144, mkSB, mkSI, mkIB, mkII] at hcv33 hcv33d hcv33e; rw [← Ny291.out] at hcv33 hcv33d hcv33e) | (go_at_call 120; (with_reducible refine (impl_between.calls ((rd_T130 l0 x23_2).f1) 1 1000000 true _ A19.out).mono ?_); rintro e w' ⟨rfl, ⟨nd, rfl⟩⟩))
      go_meet
      case rel => (try rw [← Nbq27.out]); exact ⟨_, (decide ((((rd_T130 l0 x23_2).f4).length : Int) > 0)), tZB, H', ⟨by have := HJ1.out; have := HK2.out; first | omega | exact Nat.le_refl _⟩, ⟨by (with_reducible repeat (first | apply Kd.Y_alloc | apply Kd.Y_drewN | apply Kd.Y_drew)); exact Kd.Y_mono (Kd.Y_far (p := ⟨gb289, 4, none⟩) (Kd.Y_far (p := ⟨gb289, 3, none⟩) (Kd.Y_far (p := ⟨gb289, 2, none⟩) (Kd.Y_far (p := ⟨gb289, 1, none⟩) (Kd.Y_far (p := ⟨gb289, 0, none⟩) (Kd.Y_types HO_3.out BK289.out (by decide)) (fun _ hk => hk.2) (.string ((rd_T130 l0 x23_2).f0))) (fun _ hk => hk.2) (.int .i64 ((rd_T130 l0 x23_2).f1))) (fun _ hk => hk.2) (.bool (true))) (fun _ hk => hk.2) (.slice A288_3 ((rd_T130 l0 x23_2).f3).length c288_3)) (fun _ hk => hk.2) (.slice A288_4 ((rd_T130 l0 x23_2).f4).length c288_4)) (fun _ hk => trivial)⟩, ⟨by (with_reducible repeat (first | refine blk_drewN ?_ _ | refine blk_drew ?_ | refine blk_alloc ?_ _)); refine blk_put (cs := #[.string ((rd_T130 l0 x23_2).f0), .int .i64 ((rd_T130 l0 x23_2).f1), .bool (true), .slice A288_3 ((rd_T130 l0 x23_2).f3).length c288_3, .slice none 0 0]) ?_ 4 _ rfl; (with_reducible repeat (first | refine blk_drewN ?_ _ | refine blk_drew ?_ | refine blk_alloc ?_ _)); refine blk_put (cs := #[.string ((rd_T130 l0 x23_2).f0), .int .i64 ((rd_T130 l0 x23_2).f1), .bool (true), .slice none 0 0, .slice none 0 0]) ?_ 3 _ rfl; (with_reducible repeat (first | refine blk_drewN ?_ _ | refine blk_drew ?_ | refine blk_alloc ?_ _)); refine blk_put (cs := #[.string ((rd_T130 l0 x23_2).f0), .int .i64 ((rd_T130 l0 x23_2).f1), .bool false, .slice none 0 0, .slice none 0 0]) ?_ 2 _ rfl; (with_reducible repeat (first | refine blk_drewN ?_ _ | refine blk_drew ?_ | refine blk_alloc ?_ _)); refine blk_put (cs := #[.string ((rd_T130 l0 x23_2).f0), .int .i64 0, .bool false, .slice none 0 0, .slice none 0 0]) ?_ 1 _ rfl; (with_reducible repeat (first | refine blk_drewN ?_ _ | refine blk_drew ?_ | refine blk_alloc ?_ _)); refine blk_put (cs := #[.string (⟨#[]⟩ : ByteArray), .int .i64 0, .bool false, .slice none 0 0, .slice none 0 0]) ?_ 0 _ rfl; (with_reducible repeat (first | refine blk_drewN ?_ _ | refine blk_drew ?_ | refine blk_alloc ?_ _)); exact BK289.out⟩, ⟨bZ⟩⟩
     case rest =>
      clear HC10
      try clear c1
      try clear hcv1
      try clear c2
      try clear p2
      try clear q2
      try clear hx2
      try clear hcv2
      try clear c3
      try clear c3b0
      try clear c3b1
      try clear hcv3
      try clear c4
      try clear c7
      try clear c7b0
      try clear c8
      try clear c8b0
      try clear c9
      try clear c9b0
      try clear c11
      try clear c14
      try clear c15
      try clear c15b0
      try clear c15b1
      try clear c15b2
      try clear c16
      try clear hcv18
      try clear c20
      try clear c21
      try clear c21b0
      try clear c21b1
      try clear hcv23
      try clear c24
      try clear c24b0
      try clear c24b1
      try clear hcv26
      try clear q27
      try clear c28
      try clear p28
      try clear q28
      try clear hx28
      try clear c29
      try clear c29b0
      try clear c29b1
      try clear c29b2
      try clear hcv31
      try clear hcv33
      try clear hcv35
      try clear hcv37
      try clear hcz12_0
      try clear hcz12_1
      try clear hcz12_2
      try clear hcz12_3
      try clear hcz12_4
      try clear hcz17_0
      try clear hcz17_1
      try clear hcz17_2
      try clear hcz17_3
      try clear hcz17_4
      try clear hcz22_0
      try clear hcz22_1
      try clear hcz22_2
      try clear hcz22_3
      try clear hcz22_4
      try clear hcz25_0
      try clear hcz25_1
      try clear hcz25_2
      try clear hcz25_3
      try clear hcz25_4
      try clear hcz30_0
      try clear hcz30_1
      try clear hcz30_2
      try clear hcz30_3
      try clear hcz30_4
      try clear hcz32_0
      try clear hcz32_1
      try clear hcz32_2
      try clear hcz32_3
      try clear hcz32_4
      try clear hcz34_0
      try clear hcz34_1
      try clear hcz34_2
      try clear hcz34_3
      try clear hcz34_4
      try clear hcz36_0
      try clear hcz36_1
      try clear hcz36_2
      try clear hcz36_3
      try clear hcz36_4
      try clear hcz38_0
      try clear hcz38_1
      try clear hcz38_2
      try clear hcz38_3
      try clear hcz38_4
      try clear hfz12_0
      try clear hfz12_1
      try clear hfz12_2
      try clear hfz12_3
      try clear hfz12_4
      try clear hfz17_0
      try clear hfz17_1
      try clear hfz17_2
      try clear hfz17_3
      try clear hfz17_4
      try clear hfz22_0
      try clear hfz22_1
      try clear hfz22_2
      try clear hfz22_3
      try clear hfz22_4
      try clear hfz25_0
      try clear hfz25_1
      try clear hfz25_2
      try clear hfz25_3
      try clear hfz25_4
      try clear hfz30_0
      try clear hfz30_1
      try clear hfz30_2
      try clear hfz30_3
      try clear hfz30_4
      try clear hfz32_0
      try clear hfz32_1
      try clear hfz32_2
      try clear hfz32_3
      try clear hfz32_4
      try clear hfz34_0
      try clear hfz34_1
      try clear hfz34_2
      try clear hfz34_3
      try clear hfz34_4
      try clear hfz36_0
      try clear hfz36_1
      try clear hfz36_2
      try clear hfz36_3
      try clear hfz36_4
      try clear hfz38_0
      try clear hfz38_1
      try clear hfz38_2
      try clear hfz38_3
      try clear hfz38_4
      try clear hx288_0
      try clear hx288_1
      try clear hx288_2
      try clear hx288_3
      try clear hx288_4
      try clear p2
      try clear p288
      try clear q288
      obtain ⟨kq, x71_9, rfl, HA, HJ9, HO_3, BK289, HB⟩ := hcut
      cases kq with
      | zero => exact absurd HA.out (by simp [impl_ItemsOk.j2])
      | succ kj9 =>
       have H := HA.out
       clear HA
       simp only [impl_ItemsOk.j2] at H
       by_cases c39 : x71_9 = true
       ·subst c39
        have H1 : (some false) = some r := by rw [if_pos rfl] at H; exact H
        clear H
        have H := H1
        clear H1
        obtain rfl := Option.some.inj H
        go_wp2
        go_ret
        exact ⟨tZC, bZ⟩
       replace c39 := Bool.eq_false_iff.mpr c39
       subst c39
       have H1 : (if ((rd_T130 l0 x23_2).f0).size ≤ 9223372036854775807 then (if x3_2.length < 140737488355328 then (impl_ItemsOk.l1 kj9 l0 ((((rd_T130 l0 x23_2).f0), true) :: x3_2) x23_2 l0 (l0.length : Int) x23_2 ((rd_T130 l0 x23_2).f3) (((rd_T130 l0 x23_2).f3).length : Int) 0 ((rd_T130 l0 x23_2).f0) ((rd_T130 l0 x23_2).f1) ((rd_T130 l0 x23_2).f2) ((rd_T130 l0 x23_2).f3) ((rd_T130 l0 x23_2).f4)) else (none)) else (none)) = some r := by rw [if_neg (show ¬ (false = true) by decide)] at H; exact H
       clear H
       have H := H1
       clear H1
       by_cases c40 : ((rd_T130 l0 x23_2).f0).size ≤ 9223372036854775807
       rotate_left
       ·rw [if_neg c40] at H
        exact absurd H (by simp)
       rw [if_pos c40] at H
       have c40b0 := eq_true c40
       have c40b1 := decide_eq_true c40
       try have c40b2 := eq_false (Nat.not_lt.2 c40)
       clear c40
       by_cases c41 : x3_2.length < 140737488355328
       rotate_left
       ·rw [if_neg c41] at H
        exact absurd H (by simp)
       rw [if_pos c41] at H
       have LMc41 := Aside0.mk c41
       clear c41
       obtain ⟨y293, hy293⟩ : ∃ y_ : List ((ByteArray × Bool)), y_ = ((((rd_T130 l0 x23_2).f0), true) :: x3_2) := ⟨_, rfl⟩
       replace H : (impl_ItemsOk.l1 kj9 l0 y293 x23_2 l0 (l0.length : Int) x23_2 ((rd_T130 l0 x23_2).f3) (((rd_T130 l0 x23_2).f3).length : Int) 0 ((rd_T130 l0 x23_2).f0) ((rd_T130 l0 x23_2).f1) ((rd_T130 l0 x23_2).f2) ((rd_T130 l0 x23_2).f3) ((rd_T130 l0 x23_2).f4)) = some r := by first | (rw [hy293]; with_reducible exact H) | (have H2_ := (Option.bind_some _ _).symm.trans H; rw [hy293]; with_reducible exact H2_) | (have H2_ := (Option.bind_some _ _).symm.trans H; with_reducible exact H2_) | with_reducible exact H | (rw [hy293]; exact H) | exact H
       have Ny293 := Aside0.mk hy293
       clear hy293
       have H' := Aside0.mk H
       clear H
       have hcz42_0 : wc.cell? ⟨gb289, 0, none⟩ = some (.string ((rd_T130 l0 x23_2).f0)) := (blk_cell BK289.out 0).trans rfl
       have hcz42_1 : wc.cell? ⟨gb289, 1, none⟩ = some (.int .i64 ((rd_T130 l0 x23_2).f1)) := (blk_cell BK289.out 1).trans rfl
       have hcz42_2 : wc.cell? ⟨gb289, 2, none⟩ = some (.bool ((rd_T130 l0 x23_2).f2)) := (blk_cell BK289.out 2).trans rfl
       have hcz42_3 : wc.cell? ⟨gb289, 3, none⟩ = some (.slice A288_3 ((rd_T130 l0 x23_2).f3).length c288_3) := (blk_cell BK289.out 3).trans rfl
       have hcz42_4 : wc.cell? ⟨gb289, 4, none⟩ = some (.slice A288_4 ((rd_T130 l0 x23_2).f4).length c288_4) := (blk_cell BK289.out 4).trans rfl
       have hfz42_0 := blk_frozen BK289.out 0
       have hfz42_1 := blk_frozen BK289.out 1
       have hfz42_2 := blk_frozen BK289.out 2
       have hfz42_3 := blk_frozen BK289.out 3
       have hfz42_4 := blk_frozen BK289.out 4
       go_wp2_with (first | ((with_reducible refine Kd.gate_mupd (t := 144) (p := (.tmp 72)) (x := (.tmp 74)) (y := (.const (.bool true))) rfl ?_); refine Kd.Y_put my144 (t := 144) (base := w.heap.size) (ok := (fun _ => True)) rfl rfl (.tmp 72) (.tmp 74) (.const (.bool true)) rfl rfl v286 x3_2 ((rd_T130 l0 x23_2).f0) true rfl (by first | rfl | (go_simp; done) | (go_simp; rfl)) (by first | rfl | (go_simp; done) | (go_simp; rfl)) ?aO (show okS _ from ((of_decide_eq_true tZE) : ((rd_T130 l0 x23_2).f0).size ≤ 9223372036854775807)) trivial LMc41.out ?_; (case aO => exact (lZY HO_3.out)); intro w43 ho hg; rw [← Ny293.out] at ho; replace BK289 := aZ (Kd.blk_turn (e := 144) (bkZ BK289.out) (lZY HO_3.out) hg); replace HB := aZ (Kd.below_turn (e := 144) (lZY HO_3.out) bZ (Nat.le_refl _) hg); have HO294 := aZ (ho); clear HO_3; clear ho hg; have hcz44_0 : w43.cell? ⟨gb289, 0, none⟩ = some (.string ((rd_T130 l0 x23_2).f0)) := (blk_cell BK289.out 0).trans rfl; have hcz44_1 : w43.cell? ⟨gb289, 1, none⟩ = some (.int .i64 ((rd_T130 l0 x23_2).f1)) := (blk_cell BK289.out 1).trans rfl; have hcz44_2 : w43.cell? ⟨gb289, 2, none⟩ = some (.bool ((rd_T130 l0 x23_2).f2)) := (blk_cell BK289.out 2).trans rfl; have hcz44_3 : w43.cell? ⟨gb289, 3, none⟩ = some (.slice A288_3 ((rd_T130 l0 x23_2).f3).length c288_3) := (blk_cell BK289.out 3).trans rfl; have hcz44_4 : w43.cell? ⟨gb289, 4, none⟩ = some (.slice A288_4 ((rd_T130 l0 x23_2).f4).length c288_4) := (blk_cell BK289.out 4).trans rfl; have hfz44_0 := blk_frozen BK289.out 0; have hfz44_1 := blk_frozen BK289.out 1; have hfz44_2 := blk_frozen BK289.out 2; have hfz44_3 := blk_frozen BK289.out 3; have hfz44_4 := blk_frozen BK289.out 4))
       go_loopg [78] kj9 (fun kq v78 w' => ∃ (x78_4 : Int), v78 = .int .i64 x78_4 ∧ Aside0 (impl_ItemsOk.l1 kq l0 y293 x23_2 l0 (l0.length : Int) x23_2 ((rd_T130 l0 x23_2).f3) (((rd_T130 l0 x23_2).f3).length : Int) x78_4 ((rd_T130 l0 x23_2).f0) ((rd_T130 l0 x23_2).f1) ((rd_T130 l0 x23_2).f2) ((rd_T130 l0 x23_2).f3) ((rd_T130 l0 x23_2).f4) = some r) ∧ Aside0 (kq ≤ kj9) ∧ Aside0 (Kd.Y my144 144 w' w.heap.size (fun _ => True) v286 y293) ∧ Aside0 (w'.heap[gb289]? = some (.cells #[.string ((rd_T130 l0 x23_2).f0), .int .i64 ((rd_T130 l0 x23_2).f1), .bool ((rd_T130 l0 x23_2).f2), (.slice A288_3 ((rd_T130 l0 x23_2).f3).length c288_3), (.slice A288_4 ((rd_T130 l0 x23_2).f4).length c288_4)] 130 (0, 0))) ∧ Aside0 (Below w.heap.size w w'))
       case atStart => exact ⟨(0), tZB, H', ⟨Nat.le_refl _⟩, ⟨lZY HO294.out⟩, ⟨bkZ BK289.out⟩, ⟨bZ⟩⟩
       case round =>
        clear H'
        try clear c1
        try clear hcv1
        try clear c2
        try clear p2
        try clear q2
        try clear hx2
        try clear hcv2
        try clear c3
        try clear c3b0
        try clear c3b1
        try clear hcv3
        try clear c4
        try clear c7
        try clear c7b0
        try clear c8
        try clear c8b0
        try clear c9
        try clear c9b0
        try clear c11
        try clear c14
        try clear c15
        try clear c15b0
        try clear c15b1
        try clear c15b2
        try clear c16
        try clear hcv18
        try clear c20
        try clear c21
        try clear c21b0
        try clear c21b1
        try clear hcv23
        try clear c24
        try clear c24b0
        try clear c24b1
        try clear hcv26
        try clear q27
        try clear c28
        try clear p28
        try clear q28
        try clear hx28
        try clear c29
        try clear c29b0
        try clear c29b1
        try clear c29b2
        try clear hcv31
        try clear hcv33
        try clear hcv35
        try clear hcv37
        try clear c39
        try clear c40
        try clear c40b0
        try clear c40b1
        try clear c40b2
        try clear c41
        try clear hcz12_0
        try clear hcz12_1
        try clear hcz12_2
        try clear hcz12_3
        try clear hcz12_4
        try clear hcz17_0
        try clear hcz17_1
        try clear hcz17_2
        try clear hcz17_3
        try clear hcz17_4
        try clear hcz22_0
        try clear hcz22_1
        try clear hcz22_2
        try clear hcz22_3
        try clear hcz22_4
        try clear hcz25_0
        try clear hcz25_1
        try clear hcz25_2
        try clear hcz25_3
        try clear hcz25_4
        try clear hcz30_0
        try clear hcz30_1
        try clear hcz30_2
        try clear hcz30_3
        try clear hcz30_4
        try clear hcz32_0
        try clear hcz32_1
        try clear hcz32_2
        try clear hcz32_3
        try clear hcz32_4
        try clear hcz34_0
        try clear hcz34_1
        try clear hcz34_2
        try clear hcz34_3
        try clear hcz34_4
        try clear hcz36_0
        try clear hcz36_1
        try clear hcz36_2
        try clear hcz36_3
        try clear hcz36_4
        try clear hcz38_0
        try clear hcz38_1
        try clear hcz38_2
        try clear hcz38_3
        try clear hcz38_4
        try clear hcz42_0
        try clear hcz42_1
        try clear hcz42_2
        try clear hcz42_3
        try clear hcz42_4
        try clear hcz44_0
        try clear hcz44_1
        try clear hcz44_2
        try clear hcz44_3
        try clear hcz44_4
        try clear hfz12_0
        try clear hfz12_1
        try clear hfz12_2
        try clear hfz12_3
        try clear hfz12_4
        try clear hfz17_0
        try clear hfz17_1
        try clear hfz17_2
        try clear hfz17_3
        try clear hfz17_4
        try clear hfz22_0
        try clear hfz22_1
        try clear hfz22_2
        try clear hfz22_3
        try clear hfz22_4
        try clear hfz25_0
        try clear hfz25_1
        try clear hfz25_2
        try clear hfz25_3
        try clear hfz25_4
        try clear hfz30_0
        try clear hfz30_1
        try clear hfz30_2
        try clear hfz30_3
        try clear hfz30_4
        try clear hfz32_0
        try clear hfz32_1
        try clear hfz32_2
        try clear hfz32_3
        try clear hfz32_4
        try clear hfz34_0
        try clear hfz34_1
        try clear hfz34_2
        try clear hfz34_3
        try clear hfz34_4
        try clear hfz36_0
        try clear hfz36_1
        try clear hfz36_2
        try clear hfz36_3
        try clear hfz36_4
        try clear hfz38_0
        try clear hfz38_1
        try clear hfz38_2
        try clear hfz38_3
        try clear hfz38_4
        try clear hfz42_0
        try clear hfz42_1
        try clear hfz42_2
        try clear hfz42_3
        try clear hfz42_4
        try clear hfz44_0
        try clear hfz44_1
        try clear hfz44_2
        try clear hfz44_3
        try clear hfz44_4
        try clear hx288_0
        try clear hx288_1
        try clear hx288_2
        try clear hx288_3
        try clear hx288_4
        try clear p2
        try clear p28
        try clear p288
        try clear q2
        try clear q27
        try clear q28
        try clear q288
        obtain ⟨x78_4, rfl, HA, HK4, HO_3, BK289, HB⟩ := hrel
        cases gk with
        | zero => exact absurd HA.out (by simp [impl_ItemsOk.l1])
        | succ k4 =>
         have H := HA.out
         clear HA
         simp only [impl_ItemsOk.l1] at H
         by_cases c45 : x78_4 < (((rd_T130 l0 x23_2).f3).length : Int)
         ·rw [if_pos c45] at H
          have c45b0 := decide_eq_true c45
          clear c45
          by_cases c46 : 0 ≤ x78_4
          rotate_left
          ·rw [if_neg c46] at H
           exact absurd H (by simp)
          rw [if_pos c46] at H
          have c46b0 := decide_eq_true c46
          clear c46
          by_cases c47 : x78_4 < (((rd_T130 l0 x23_2).f3).length : Int)
          rotate_left
          ·rw [if_neg c47] at H
           exact absurd H (by simp)
          rw [if_pos c47] at H
          have c47b0 := decide_eq_true c47
          clear c47
          replace H := Option.bind_eq_some_iff.mp H
          obtain ⟨t297, A480, H⟩ := H
          replace H : (if t297 = true then (impl_ItemsOk.l1 k4 l0 y293 x23_2 l0 (l0.length : Int) x23_2 ((rd_T130 l0 x23_2).f3) (((rd_T130 l0 x23_2).f3).length : Int) (wrap64 (x78_4 + 1)) ((rd_T130 l0 x23_2).f0) ((rd_T130 l0 x23_2).f1) ((rd_T130 l0 x23_2).f2) ((rd_T130 l0 x23_2).f3) ((rd_T130 l0 x23_2).f4)) else (some false)) = some r := H
          have A48 := Aside0.mk A480
          clear A480
          by_cases c49 : t297 = true
          rotate_left
          ·replace c49 := Bool.eq_false_iff.mpr c49
           subst c49
           have H1 : (some false) = some r := by rw [if_neg (show ¬ (false = true) by decide)] at H; exact H
           clear H
           have H := H1
           clear H1
           obtain rfl := Option.some.inj H
           have p295 : 0 ≤ (x78_4 : Int) := of_decide_eq_true tZE
           have q295 : x78_4 < (((rd_T130 l0 x23_2).f3).length : Int) := of_decide_eq_true tZE
           obtain ⟨ad295, e295, hx295_0, hx295_1, hx295_2, hx295_3, hx295_4, hx295_5⟩ := at_T149 HR288_3.out x78_4 p295 q295
           cases e295
           replace hx295_0 := cZ HB hx295_0
           replace hx295_1 := cZ HB hx295_1
           replace hx295_2 := cZ HB hx295_2
           replace hx295_3 := cZ HB hx295_3
           replace hx295_4 := cZ HB hx295_4
           replace hx295_5 := cZ HB hx295_5
           replace p295 := eq_true p295
           replace q295 := eq_true q295
           go_wp2_with (first | ((with_reducible refine gate_dst (N := 7) rfl ?_); (try (refine gate_guard (by rfl) ?_; dsimp only)); refine box_event ?hg (N := 7) ?hd (cs := #[.int .i64 0, .int .i64 0, .int .i64 0, .int .i64 0, .int .i64 0, .int .i64 0]) (t := 149) ?hr ?_; (case hd => rfl); (case hg => rfl); (case hr => first | (go_simp; done) | (go_simp; rfl)); intro gb296 hg w54 hbox hb; replace HO_3 := aZ (Kd.Y_below (lZY HO_3.out) hb); have BK296 := aZ (hbox); have GW296 := aZ ((by rw [hg]; exact (below_size bZ) : w.heap.size ≤ gb296)); have GE296 := aZ ((by rw [hg]; exact (below_size bZ) : w.heap.size ≤ gb296)); replace HB := aZ (below_step bZ hb); have NB289_296 := aZ ((by rw [hg]; exact Nat.ne_of_lt (blk_lt (bkZ BK289.out)) : gb289 ≠ gb296)); have NB296_289 := aZ ((by rw [hg]; exact Nat.ne_of_gt (blk_lt (bkZ BK289.out)) : gb296 ≠ gb289)); replace BK289 := aZ (blk_below (bkZ BK289.out) hb); clear hb hbox hg; have hnb55 := NB296_289.out; have hnc55 := NB289_296.out; have hcz56_0 : w54.cell? ⟨gb296, 0, none⟩ = some (.int .i64 0) := (blk_cell BK296.out 0).trans rfl; have hcz56_1 : w54.cell? ⟨gb296, 1, none⟩ = some (.int .i64 0) := (blk_cell BK296.out 1).trans rfl; have hcz56_2 : w54.cell? ⟨gb296, 2, none⟩ = some (.int .i64 0) := (blk_cell BK296.out 2).trans rfl; have hcz56_3 : w54.cell? ⟨gb296, 3, none⟩ = some (.int .i64 0) := (blk_cell BK296.out 3).trans rfl; have hcz56_4 : w54.cell? ⟨gb296, 4, none⟩ = some (.int .i64 0) := (blk_cell BK296.out 4).trans rfl; have hcz56_5 : w54.cell? ⟨gb296, 5, none⟩ = some (.int .i64 0) := (blk_cell BK296.out 5).trans rfl; have hfz56_0 := blk_frozen BK296.out 0; have hfz56_1 := blk_frozen BK296.out 1; have hfz56_2 := blk_frozen BK296.out 2; have hfz56_3 := blk_frozen BK296.out 3; have hfz56_4 := blk_frozen BK296.out 4; have hfz56_5 := blk_frozen BK296.out 5) | ((with_reducible refine gate_callee (f := 157) rfl ?_); refine goesL_ (some 86) rfl rfl Try.func157 kZ rfl #[.agg #[.int .i64 ((rd_T149 ((rd_T130 l0 x23_2).f3) x78_4).f0), .int .i64 ((rd_T149 ((rd_T130 l0 x23_2).f3) x78_4).f1), .int .i64 ((rd_T149 ((rd_T130 l0 x23_2).f3) x78_4).f2), .int .i64 ((rd_T149 ((rd_T130 l0 x23_2).f3) x78_4).f3), .int .i64 ((rd_T149 ((rd_T130 l0 x23_2).f3) x78_4).f4), .int .i64 ((rd_T149 ((rd_T130 l0 x23_2).f3) x78_4).f5)], .int .i64 x23_2, .int .i64 (l0.length : Int), .bool false] rfl tZA ?_; (with_reducible refine (impl_partOk.calls ((rd_T149 ((rd_T130 l0 x23_2).f3) x78_4).f0) ((rd_T149 ((rd_T130 l0 x23_2).f3) x78_4).f1) ((rd_T149 ((rd_T130 l0 x23_2).f3) x78_4).f2) ((rd_T149 ((rd_T130 l0 x23_2).f3) x78_4).f3) ((rd_T149 ((rd_T130 l0 x23_2).f3) x78_4).f4) ((rd_T149 ((rd_T130 l0 x23_2).f3) x78_4).f5) x23_2 (l0.length : Int) false false _ A48.out).mono ?_); rintro e w57 ⟨rfl, hb⟩; refine ⟨_, rfl, ?_⟩; replace HO_3 := aZ (Kd.Y_below (by (with_reducible repeat (first | apply Kd.Y_alloc | apply Kd.Y_drewN | apply Kd.Y_drew)); exact (Kd.Y_mono (Kd.Y_far (p := ⟨gb296, 5, none⟩) (Kd.Y_far (p := ⟨gb296, 4, none⟩) (Kd.Y_far (p := ⟨gb296, 3, none⟩) (Kd.Y_far (p := ⟨gb296, 2, none⟩) (Kd.Y_far (p := ⟨gb296, 1, none⟩) (Kd.Y_far (p := ⟨gb296, 0, none⟩) (Kd.Y_types HO_3.out BK296.out (by decide)) (fun _ hk => hk.2) (.int .i64 ((rd_T149 ((rd_T130 l0 x23_2).f3) x78_4).f0))) (fun _ hk => hk.2) (.int .i64 ((rd_T149 ((rd_T130 l0 x23_2).f3) x78_4).f1))) (fun _ hk => hk.2) (.int .i64 ((rd_T149 ((rd_T130 l0 x23_2).f3) x78_4).f2))) (fun _ hk => hk.2) (.int .i64 ((rd_T149 ((rd_T130 l0 x23_2).f3) x78_4).f3))) (fun _ hk => hk.2) (.int .i64 ((rd_T149 ((rd_T130 l0 x23_2).f3) x78_4).f4))) (fun _ hk => hk.2) (.int .i64 ((rd_T149 ((rd_T130 l0 x23_2).f3) x78_4).f5))) (fun _ h_ => h_.1))) hb); replace BK289 := aZ (blk_below (g := gb289) (o := .cells #[.string ((rd_T130 l0 x23_2).f0), .int .i64 ((rd_T130 l0 x23_2).f1), .bool ((rd_T130 l0 x23_2).f2), .slice (some ad295) ((rd_T130 l0 x23_2).f3).length c288_3, .slice A288_4 ((rd_T130 l0 x23_2).f4).length c288_4] 130 (0, 0)) (by (with_reducible repeat (first | refine blk_drewN ?_ _ | refine blk_drew ?_ | refine blk_alloc ?_ _)); refine blk_far ?_ NB289_296.out _; (with_reducible repeat (first | refine blk_drewN ?_ _ | refine blk_drew ?_ | refine blk_alloc ?_ _)); refine blk_far ?_ NB289_296.out _; (with_reducible repeat (first | refine blk_drewN ?_ _ | refine blk_drew ?_ | refine blk_alloc ?_ _)); refine blk_far ?_ NB289_296.out _; (with_reducible repeat (first | refine blk_drewN ?_ _ | refine blk_drew ?_ | refine blk_alloc ?_ _)); refine blk_far ?_ NB289_296.out _; (with_reducible repeat (first | refine blk_drewN ?_ _ | refine blk_drew ?_ | refine blk_alloc ?_ _)); refine blk_far ?_ NB289_296.out _; (with_reducible repeat (first | refine blk_drewN ?_ _ | refine blk_drew ?_ | refine blk_alloc ?_ _)); refine blk_far ?_ NB289_296.out _; (with_reducible repeat (first | refine blk_drewN ?_ _ | refine blk_drew ?_ | refine blk_alloc ?_ _)); exact BK289.out) hb); replace BK296 := aZ (blk_below (g := gb296) (o := .cells #[.int .i64 ((rd_T149 ((rd_T130 l0 x23_2).f3) x78_4).f0), .int .i64 ((rd_T149 ((rd_T130 l0 x23_2).f3) x78_4).f1), .int .i64 ((rd_T149 ((rd_T130 l0 x23_2).f3) x78_4).f2), .int .i64 ((rd_T149 ((rd_T130 l0 x23_2).f3) x78_4).f3), .int .i64 ((rd_T149 ((rd_T130 l0 x23_2).f3) x78_4).f4), .int .i64 ((rd_T149 ((rd_T130 l0 x23_2).f3) x78_4).f5)] 149 (0, 0)) (by (with_reducible repeat (first | refine blk_drewN ?_ _ | refine blk_drew ?_ | refine blk_alloc ?_ _)); refine blk_put (cs := #[.int .i64 ((rd_T149 ((rd_T130 l0 x23_2).f3) x78_4).f0), .int .i64 ((rd_T149 ((rd_T130 l0 x23_2).f3) x78_4).f1), .int .i64 ((rd_T149 ((rd_T130 l0 x23_2).f3) x78_4).f2), .int .i64 ((rd_T149 ((rd_T130 l0 x23_2).f3) x78_4).f3), .int .i64 ((rd_T149 ((rd_T130 l0 x23_2).f3) x78_4).f4), .int .i64 0]) ?_ 5 _ rfl; (with_reducible repeat (first | refine blk_drewN ?_ _ | refine blk_drew ?_ | refine blk_alloc ?_ _)); refine blk_put (cs := #[.int .i64 ((rd_T149 ((rd_T130 l0 x23_2).f3) x78_4).f0), .int .i64 ((rd_T149 ((rd_T130 l0 x23_2).f3) x78_4).f1), .int .i64 ((rd_T149 ((rd_T130 l0 x23_2).f3) x78_4).f2), .int .i64 ((rd_T149 ((rd_T130 l0 x23_2).f3) x78_4).f3), .int .i64 0, .int .i64 0]) ?_ 4 _ rfl; (with_reducible repeat (first | refine blk_drewN ?_ _ | refine blk_drew ?_ | refine blk_alloc ?_ _)); refine blk_put (cs := #[.int .i64 ((rd_T149 ((rd_T130 l0 x23_2).f3) x78_4).f0), .int .i64 ((rd_T149 ((rd_T130 l0 x23_2).f3) x78_4).f1), .int .i64 ((rd_T149 ((rd_T130 l0 x23_2).f3) x78_4).f2), .int .i64 0, .int .i64 0, .int .i64 0]) ?_ 3 _ rfl; (with_reducible repeat (first | refine blk_drewN ?_ _ | refine blk_drew ?_ | refine blk_alloc ?_ _)); refine blk_put (cs := #[.int .i64 ((rd_T149 ((rd_T130 l0 x23_2).f3) x78_4).f0), .int .i64 ((rd_T149 ((rd_T130 l0 x23_2).f3) x78_4).f1), .int .i64 0, .int .i64 0, .int .i64 0, .int .i64 0]) ?_ 2 _ rfl; (with_reducible repeat (first | refine blk_drewN ?_ _ | refine blk_drew ?_ | refine blk_alloc ?_ _)); refine blk_put (cs := #[.int .i64 ((rd_T149 ((rd_T130 l0 x23_2).f3) x78_4).f0), .int .i64 0, .int .i64 0, .int .i64 0, .int .i64 0, .int .i64 0]) ?_ 1 _ rfl; (with_reducible repeat (first | refine blk_drewN ?_ _ | refine blk_drew ?_ | refine blk_alloc ?_ _)); refine blk_put (cs := #[.int .i64 0, .int .i64 0, .int .i64 0, .int .i64 0, .int .i64 0, .int .i64 0]) ?_ 0 _ rfl; (with_reducible repeat (first | refine blk_drewN ?_ _ | refine blk_drew ?_ | refine blk_alloc ?_ _)); exact BK296.out) hb); replace HB := aZ (below_step bZ hb); (try clear hb); (try clear hb2); (try clear hk); (try clear hi)))
           go_ret
           exact ⟨tZC, bZ⟩
          subst c49
          have H1 : (impl_ItemsOk.l1 k4 l0 y293 x23_2 l0 (l0.length : Int) x23_2 ((rd_T130 l0 x23_2).f3) (((rd_T130 l0 x23_2).f3).length : Int) (wrap64 (x78_4 + 1)) ((rd_T130 l0 x23_2).f0) ((rd_T130 l0 x23_2).f1) ((rd_T130 l0 x23_2).f2) ((rd_T130 l0 x23_2).f3) ((rd_T130 l0 x23_2).f4)) = some r := by rw [if_pos rfl] at H; exact H
          clear H
          have H := H1
          clear H1
          have H' := Aside0.mk H
          clear H
          have p295 : 0 ≤ (x78_4 : Int) := of_decide_eq_true tZE
          have q295 : x78_4 < (((rd_T130 l0 x23_2).f3).length : Int) := of_decide_eq_true tZE
          obtain ⟨ad295, e295, hx295_0, hx295_1, hx295_2, hx295_3, hx295_4, hx295_5⟩ := at_T149 HR288_3.out x78_4 p295 q295
          cases e295
          replace hx295_0 := cZ HB hx295_0
          replace hx295_1 := cZ HB hx295_1
          replace hx295_2 := cZ HB hx295_2
          replace hx295_3 := cZ HB hx295_3
          replace hx295_4 := cZ HB hx295_4
          replace hx295_5 := cZ HB hx295_5
          replace p295 := eq_true p295
          replace q295 := eq_true q295
          go_wp2_with (first | ((with_reducible refine gate_dst (N := 7) rfl ?_); (try (refine gate_guard (by rfl) ?_; dsimp only)); refine box_event ?hg (N := 7) ?hd (cs := #[.int .i64 0, .int .i64 0, .int .i64 0, .int .i64 0, .int .i64 0, .int .i64 0]) (t := 149) ?hr ?_; (case hd => rfl); (case hg => rfl); (case hr => first | (go_simp; done) | (go_simp; rfl)); intro gb296 hg w50 hbox hb; replace HO_3 := aZ (Kd.Y_below (lZY HO_3.out) hb); have BK296 := aZ (hbox); have GW296 := aZ ((by rw [hg]; exact (below_size bZ) : w.heap.size ≤ gb296)); have GE296 := aZ ((by rw [hg]; exact (below_size bZ) : w.heap.size ≤ gb296)); replace HB := aZ (below_step bZ hb); have NB289_296 := aZ ((by rw [hg]; exact Nat.ne_of_lt (blk_lt (bkZ BK289.out)) : gb289 ≠ gb296)); have NB296_289 := aZ ((by rw [hg]; exact Nat.ne_of_gt (blk_lt (bkZ BK289.out)) : gb296 ≠ gb289)); replace BK289 := aZ (blk_below (bkZ BK289.out) hb); clear hb hbox hg; have hnb51 := NB296_289.out; have hnc51 := NB289_296.out; have hcz52_0 : w50.cell? ⟨gb296, 0, none⟩ = some (.int .i64 0) := (blk_cell BK296.out 0).trans rfl; have hcz52_1 : w50.cell? ⟨gb296, 1, none⟩ = some (.int .i64 0) := (blk_cell BK296.out 1).trans rfl; have hcz52_2 : w50.cell? ⟨gb296, 2, none⟩ = some (.int .i64 0) := (blk_cell BK296.out 2).trans rfl; have hcz52_3 : w50.cell? ⟨gb296, 3, none⟩ = some (.int .i64 0) := (blk_cell BK296.out 3).trans rfl; have hcz52_4 : w50.cell? ⟨gb296, 4, none⟩ = some (.int .i64 0) := (blk_cell BK296.out 4).trans rfl; have hcz52_5 : w50.cell? ⟨gb296, 5, none⟩ = some (.int .i64 0) := (blk_cell BK296.out 5).trans rfl; have hfz52_0 := blk_frozen BK296.out 0; have hfz52_1 := blk_frozen BK296.out 1; have hfz52_2 := blk_frozen BK296.out 2; have hfz52_3 := blk_frozen BK296.out 3; have hfz52_4 := blk_frozen BK296.out 4; have hfz52_5 := blk_frozen BK296.out 5) | ((with_reducible refine gate_callee (f := 157) rfl ?_); refine goesL_ (some 86) rfl rfl Try.func157 kZ rfl #[.agg #[.int .i64 ((rd_T149 ((rd_T130 l0 x23_2).f3) x78_4).f0), .int .i64 ((rd_T149 ((rd_T130 l0 x23_2).f3) x78_4).f1), .int .i64 ((rd_T149 ((rd_T130 l0 x23_2).f3) x78_4).f2), .int .i64 ((rd_T149 ((rd_T130 l0 x23_2).f3) x78_4).f3), .int .i64 ((rd_T149 ((rd_T130 l0 x23_2).f3) x78_4).f4), .int .i64 ((rd_T149 ((rd_T130 l0 x23_2).f3) x78_4).f5)], .int .i64 x23_2, .int .i64 (l0.length : Int), .bool false] rfl tZA ?_; (with_reducible refine (impl_partOk.calls ((rd_T149 ((rd_T130 l0 x23_2).f3) x78_4).f0) ((rd_T149 ((rd_T130 l0 x23_2).f3) x78_4).f1) ((rd_T149 ((rd_T130 l0 x23_2).f3) x78_4).f2) ((rd_T149 ((rd_T130 l0 x23_2).f3) x78_4).f3) ((rd_T149 ((rd_T130 l0 x23_2).f3) x78_4).f4) ((rd_T149 ((rd_T130 l0 x23_2).f3) x78_4).f5) x23_2 (l0.length : Int) false true _ A48.out).mono ?_); rintro e w53 ⟨rfl, hb⟩; refine ⟨_, rfl, ?_⟩; replace HO_3 := aZ (Kd.Y_below (by (with_reducible repeat (first | apply Kd.Y_alloc | apply Kd.Y_drewN | apply Kd.Y_drew)); exact (Kd.Y_mono (Kd.Y_far (p := ⟨gb296, 5, none⟩) (Kd.Y_far (p := ⟨gb296, 4, none⟩) (Kd.Y_far (p := ⟨gb296, 3, none⟩) (Kd.Y_far (p := ⟨gb296, 2, none⟩) (Kd.Y_far (p := ⟨gb296, 1, none⟩) (Kd.Y_far (p := ⟨gb296, 0, none⟩) (Kd.Y_types HO_3.out BK296.out (by decide)) (fun _ hk => hk.2) (.int .i64 ((rd_T149 ((rd_T130 l0 x23_2).f3) x78_4).f0))) (fun _ hk => hk.2) (.int .i64 ((rd_T149 ((rd_T130 l0 x23_2).f3) x78_4).f1))) (fun _ hk => hk.2) (.int .i64 ((rd_T149 ((rd_T130 l0 x23_2).f3) x78_4).f2))) (fun _ hk => hk.2) (.int .i64 ((rd_T149 ((rd_T130 l0 x23_2).f3) x78_4).f3))) (fun _ hk => hk.2) (.int .i64 ((rd_T149 ((rd_T130 l0 x23_2).f3) x78_4).f4))) (fun _ hk => hk.2) (.int .i64 ((rd_T149 ((rd_T130 l0 x23_2).f3) x78_4).f5))) (fun _ h_ => h_.1))) hb); replace BK289 := aZ (blk_below (g := gb289) (o := .cells #[.string ((rd_T130 l0 x23_2).f0), .int .i64 ((rd_T130 l0 x23_2).f1), .bool ((rd_T130 l0 x23_2).f2), .slice (some ad295) ((rd_T130 l0 x23_2).f3).length c288_3, .slice A288_4 ((rd_T130 l0 x23_2).f4).length c288_4] 130 (0, 0)) (by (with_reducible repeat (first | refine blk_drewN ?_ _ | refine blk_drew ?_ | refine blk_alloc ?_ _)); refine blk_far ?_ NB289_296.out _; (with_reducible repeat (first | refine blk_drewN ?_ _ | refine blk_drew ?_ | refine blk_alloc ?_ _)); refine blk_far ?_ NB289_296.out _; (with_reducible repeat (first | refine blk_drewN ?_ _ | refine blk_drew ?_ | refine blk_alloc ?_ _)); refine blk_far ?_ NB289_296.out _; (with_reducible repeat (first | refine blk_drewN ?_ _ | refine blk_drew ?_ | refine blk_alloc ?_ _)); refine blk_far ?_ NB289_296.out _; (with_reducible repeat (first | refine blk_drewN ?_ _ | refine blk_drew ?_ | refine blk_alloc ?_ _)); refine blk_far ?_ NB289_296.out _; (with_reducible repeat (first | refine blk_drewN ?_ _ | refine blk_drew ?_ | refine blk_alloc ?_ _)); refine blk_far ?_ NB289_296.out _; (with_reducible repeat (first | refine blk_drewN ?_ _ | refine blk_drew ?_ | refine blk_alloc ?_ _)); exact BK289.out) hb); replace BK296 := aZ (blk_below (g := gb296) (o := .cells #[.int .i64 ((rd_T149 ((rd_T130 l0 x23_2).f3) x78_4).f0), .int .i64 ((rd_T149 ((rd_T130 l0 x23_2).f3) x78_4).f1), .int .i64 ((rd_T149 ((rd_T130 l0 x23_2).f3) x78_4).f2), .int .i64 ((rd_T149 ((rd_T130 l0 x23_2).f3) x78_4).f3), .int .i64 ((rd_T149 ((rd_T130 l0 x23_2).f3) x78_4).f4), .int .i64 ((rd_T149 ((rd_T130 l0 x23_2).f3) x78_4).f5)] 149 (0, 0)) (by (with_reducible repeat (first | refine blk_drewN ?_ _ | refine blk_drew ?_ | refine blk_alloc ?_ _)); refine blk_put (cs := #[.int .i64 ((rd_T149 ((rd_T130 l0 x23_2).f3) x78_4).f0), .int .i64 ((rd_T149 ((rd_T130 l0 x23_2).f3) x78_4).f1), .int .i64 ((rd_T149 ((rd_T130 l0 x23_2).f3) x78_4).f2), .int .i64 ((rd_T149 ((rd_T130 l0 x23_2).f3) x78_4).f3), .int .i64 ((rd_T149 ((rd_T130 l0 x23_2).f3) x78_4).f4), .int .i64 0]) ?_ 5 _ rfl; (with_reducible repeat (first | refine blk_drewN ?_ _ | refine blk_drew ?_ | refine blk_alloc ?_ _)); refine blk_put (cs := #[.int .i64 ((rd_T149 ((rd_T130 l0 x23_2).f3) x78_4).f0), .int .i64 ((rd_T149 ((rd_T130 l0 x23_2).f3) x78_4).f1), .int .i64 ((rd_T149 ((rd_T130 l0 x23_2).f3) x78_4).f2), .int .i64 ((rd_T149 ((rd_T130 l0 x23_2).f3) x78_4).f3), .int .i64 0, .int .i64 0]) ?_ 4 _ rfl; (with_reducible repeat (first | refine blk_drewN ?_ _ | refine blk_drew ?_ | refine blk_alloc ?_ _)); refine blk_put (cs := #[.int .i64 ((rd_T149 ((rd_T130 l0 x23_2).f3) x78_4).f0), .int .i64 ((rd_T149 ((rd_T130 l0 x23_2).f3) x78_4).f1), .int .i64 ((rd_T149 ((rd_T130 l0 x23_2).f3) x78_4).f2), .int .i64 0, .int .i64 0, .int .i64 0]) ?_ 3 _ rfl; (with_reducible repeat (first | refine blk_drewN ?_ _ | refine blk_drew ?_ | refine blk_alloc ?_ _)); refine blk_put (cs := #[.int .i64 ((rd_T149 ((rd_T130 l0 x23_2).f3) x78_4).f0), .int .i64 ((rd_T149 ((rd_T130 l0 x23_2).f3) x78_4).f1), .int .i64 0, .int .i64 0, .int .i64 0, .int .i64 0]) ?_ 2 _ rfl; (with_reducible repeat (first | refine blk_drewN ?_ _ | refine blk_drew ?_ | refine blk_alloc ?_ _)); refine blk_put (cs := #[.int .i64 ((rd_T149 ((rd_T130 l0 x23_2).f3) x78_4).f0), .int .i64 0, .int .i64 0, .int .i64 0, .int .i64 0, .int .i64 0]) ?_ 1 _ rfl; (with_reducible repeat (first | refine blk_drewN ?_ _ | refine blk_drew ?_ | refine blk_alloc ?_ _)); refine blk_put (cs := #[.int .i64 0, .int .i64 0, .int .i64 0, .int .i64 0, .int .i64 0, .int .i64 0]) ?_ 0 _ rfl; (with_reducible repeat (first | refine blk_drewN ?_ _ | refine blk_drew ?_ | refine blk_alloc ?_ _)); exact BK296.out) hb); replace HB := aZ (below_step bZ hb); (try clear hb); (try clear hb2); (try clear hk); (try clear hi)))
          go_roundg k4
          case measure => have := HJ1.out; have := HK2.out; have := HJ9.out; have := HK4.out; omega
          case rel => exact ⟨(wrap64 (x78_4 + 1)), tZB, H', ⟨by have := HJ1.out; have := HK2.out; have := HJ9.out; have := HK4.out; omega⟩, ⟨lZY HO_3.out⟩, ⟨bkZ BK289.out⟩, ⟨bZ⟩⟩
         rw [if_neg c45] at H
         have c45b0 := decide_eq_false c45
         clear c45
         have H' := Aside0.mk H
         clear H
         have hcz58_0 : wr.cell? ⟨gb289, 0, none⟩ = some (.string ((rd_T130 l0 x23_2).f0)) := (blk_cell BK289.out 0).trans rfl
         have hcz58_1 : wr.cell? ⟨gb289, 1, none⟩ = some (.int .i64 ((rd_T130 l0 x23_2).f1)) := (blk_cell BK289.out 1).trans rfl
         have hcz58_2 : wr.cell? ⟨gb289, 2, none⟩ = some (.bool ((rd_T130 l0 x23_2).f2)) := (blk_cell BK289.out 2).trans rfl
         have hcz58_3 : wr.cell? ⟨gb289, 3, none⟩ = some (.slice A288_3 ((rd_T130 l0 x23_2).f3).length c288_3) := (blk_cell BK289.out 3).trans rfl
         have hcz58_4 : wr.cell? ⟨gb289, 4, none⟩ = some (.slice A288_4 ((rd_T130 l0 x23_2).f4).length c288_4) := (blk_cell BK289.out 4).trans rfl
         have hfz58_0 := blk_frozen BK289.out 0
         have hfz58_1 := blk_frozen BK289.out 1
         have hfz58_2 := blk_frozen BK289.out 2
         have hfz58_3 := blk_frozen BK289.out 3
         have hfz58_4 := blk_frozen BK289.out 4
         go_wp2
         go_loopg [92] k4 (fun kq v92 w' => ∃ (x92_5 : Int), v92 = .int .i64 x92_5 ∧ Aside0 (impl_ItemsOk.l2 kq l0 y293 x23_2 l0 (l0.length : Int) x23_2 ((rd_T130 l0 x23_2).f4) (((rd_T130 l0 x23_2).f4).length : Int) x92_5 = some r) ∧ Aside0 (kq ≤ k4) ∧ Aside0 (Kd.Y my144 144 w' w.heap.size (fun _ => True) v286 y293) ∧ Aside0 (w'.heap[gb289]? = some (.cells #[.string ((rd_T130 l0 x23_2).f0), .int .i64 ((rd_T130 l0 x23_2).f1), .bool ((rd_T130 l0 x23_2).f2), (.slice A288_3 ((rd_T130 l0 x23_2).f3).length c288_3), (.slice A288_4 ((rd_T130 l0 x23_2).f4).length c288_4)] 130 (0, 0))) ∧ Aside0 (Below w.heap.size w w'))
         case atStart => exact ⟨(0), tZB, H', ⟨Nat.le_refl _⟩, ⟨lZY HO_3.out⟩, ⟨bkZ BK289.out⟩, ⟨bZ⟩⟩
         case round =>
          clear H'
          try clear c1
          try clear hcv1
          try clear c2
          try clear p2
          try clear q2
          try clear hx2
          try clear hcv2
          try clear c3
          try clear c3b0
          try clear c3b1
          try clear hcv3
          try clear c4
          try clear c5
          try clear p6
          try clear c7
          try clear c7b0
          try clear c8
          try clear c8b0
          try clear c9
          try clear c9b0
          try clear c11
          try clear c14
          try clear c15
          try clear c15b0
          try clear c15b1
          try clear c15b2
          try clear c16
          try clear hcv18
          try clear c20
          try clear c21
          try clear c21b0
          try clear c21b1
          try clear hcv23
          try clear c24
          try clear c24b0
          try clear c24b1
          try clear hcv26
          try clear q27
          try clear c28
          try clear p28
          try clear q28
          try clear hx28
          try clear c29
          try clear c29b0
          try clear c29b1
          try clear c29b2
          try clear p29
          try clear q29
          try clear hx29
          try clear hcv31
          try clear hcv33
          try clear hcv35
          try clear hcv37
          try clear c39
          try clear c40
          try clear c40b0
          try clear c40b1
          try clear c40b2
          try clear c41
          try clear c45
          try clear c45b0
          try clear c46
          try clear c46b0
          try clear c47
          try clear c47b0
          try clear c49
          try clear c51
          try clear c55
          try clear hcz12_0
          try clear hcz12_1
          try clear hcz12_2
          try clear hcz12_3
          try clear hcz12_4
          try clear hcz17_0
          try clear hcz17_1
          try clear hcz17_2
          try clear hcz17_3
          try clear hcz17_4
          try clear hcz22_0
          try clear hcz22_1
          try clear hcz22_2
          try clear hcz22_3
          try clear hcz22_4
          try clear hcz25_0
          try clear hcz25_1
          try clear hcz25_2
          try clear hcz25_3
          try clear hcz25_4
          try clear hcz30_0
          try clear hcz30_1
          try clear hcz30_2
          try clear hcz30_3
          try clear hcz30_4
          try clear hcz32_0
          try clear hcz32_1
          try clear hcz32_2
          try clear hcz32_3
          try clear hcz32_4
          try clear hcz34_0
          try clear hcz34_1
          try clear hcz34_2
          try clear hcz34_3
          try clear hcz34_4
          try clear hcz36_0
          try clear hcz36_1
          try clear hcz36_2
          try clear hcz36_3
          try clear hcz36_4
          try clear hcz38_0
          try clear hcz38_1
          try clear hcz38_2
          try clear hcz38_3
          try clear hcz38_4
          try clear hcz42_0
          try clear hcz42_1
          try clear hcz42_2
          try clear hcz42_3
          try clear hcz42_4
          try clear hcz44_0
          try clear hcz44_1
          try clear hcz44_2
          try clear hcz44_3
          try clear hcz44_4
          try clear hcz52_0
          try clear hcz52_1
          try clear hcz52_2
          try clear hcz52_3
          try clear hcz52_4
          try clear hcz52_5
          try clear hcz56_0
          try clear hcz56_1
          try clear hcz56_2
          try clear hcz56_3
          try clear hcz56_4
          try clear hcz56_5
          try clear hcz58_0
          try clear hcz58_1
          try clear hcz58_2
          try clear hcz58_3
          try clear hcz58_4
          try clear hfz12_0
          try clear hfz12_1
          try clear hfz12_2
          try clear hfz12_3
          try clear hfz12_4
          try clear hfz17_0
          try clear hfz17_1
          try clear hfz17_2
          try clear hfz17_3
          try clear hfz17_4
          try clear hfz22_0
          try clear hfz22_1
          try clear hfz22_2
          try clear hfz22_3
          try clear hfz22_4
          try clear hfz25_0
          try clear hfz25_1
          try clear hfz25_2
          try clear hfz25_3
          try clear hfz25_4
          try clear hfz30_0
          try clear hfz30_1
          try clear hfz30_2
          try clear hfz30_3
          try clear hfz30_4
          try clear hfz32_0
          try clear hfz32_1
          try clear hfz32_2
          try clear hfz32_3
          try clear hfz32_4
          try clear hfz34_0
          try clear hfz34_1
          try clear hfz34_2
          try clear hfz34_3
          try clear hfz34_4
          try clear hfz36_0
          try clear hfz36_1
          try clear hfz36_2
          try clear hfz36_3
          try clear hfz36_4
          try clear hfz38_0
          try clear hfz38_1
          try clear hfz38_2
          try clear hfz38_3
          try clear hfz38_4
          try clear hfz42_0
          try clear hfz42_1
          try clear hfz42_2
          try clear hfz42_3
          try clear hfz42_4
          try clear hfz44_0
          try clear hfz44_1
          try clear hfz44_2
          try clear hfz44_3
          try clear hfz44_4
          try clear hfz52_0
          try clear hfz52_1
          try clear hfz52_2
          try clear hfz52_3
          try clear hfz52_4
          try clear hfz52_5
          try clear hfz56_0
          try clear hfz56_1
          try clear hfz56_2
          try clear hfz56_3
          try clear hfz56_4
          try clear hfz56_5
          try clear hfz58_0
          try clear hfz58_1
          try clear hfz58_2
          try clear hfz58_3
          try clear hfz58_4
          try clear hx288_0
          try clear hx288_1
          try clear hx288_2
          try clear hx288_3
          try clear hx288_4
          try clear hx295_0
          try clear hx295_1
          try clear hx295_2
          try clear hx295_3
          try clear hx295_4
          try clear hx295_5
          try clear p2
          try clear p28
          try clear p288
          try clear p295
          try clear q2
          try clear q27
          try clear q28
          try clear q288
          try clear q295
          obtain ⟨x92_5, rfl, HA, HK5, HO_3, BK289, HB⟩ := hrel
          cases gk with
          | zero => exact absurd HA.out (by simp [impl_ItemsOk.l2])
          | succ k5 =>
           have H := HA.out
           clear HA
           simp only [impl_ItemsOk.l2] at H
           by_cases c59 : x92_5 < (((rd_T130 l0 x23_2).f4).length : Int)
           rotate_left
           ·rw [if_neg c59] at H
            have c59b0 := decide_eq_false c59
            clear c59
            have H' := Aside0.mk H
            clear H
            go_wp2
            go_roundg k5
            case measure => have := HJ1.out; have := HK2.out; have := HJ9.out; have := HK4.out; have := HK5.out; omega
            case rel => exact ⟨(y293), (wrap64 (x23_2 + 1)), tZB, H', ⟨by have := HJ1.out; have := HK2.out; have := HJ9.out; have := HK4.out; have := HK5.out; omega⟩, ⟨lZY HO_3.out⟩, ⟨bZ⟩⟩
           rw [if_pos c59] at H
           have c59b0 := decide_eq_true c59
           clear c59
           by_cases c60 : 0 ≤ x92_5
           rotate_left
           ·rw [if_neg c60] at H
            exact absurd H (by simp)
           rw [if_pos c60] at H
           have c60b0 := decide_eq_true c60
           clear c60
           by_cases c61 : x92_5 < (((rd_T130 l0 x23_2).f4).length : Int)
           rotate_left
           ·rw [if_neg c61] at H
            exact absurd H (by simp)
           rw [if_pos c61] at H
           have c61b0 := decide_eq_true c61
           clear c61
           replace H := Option.bind_eq_some_iff.mp H
           obtain ⟨t300, A620, H⟩ := H
           replace H : (if t300 = true then (impl_ItemsOk.l2 k5 l0 y293 x23_2 l0 (l0.length : Int) x23_2 ((rd_T130 l0 x23_2).f4) (((rd_T130 l0 x23_2).f4).length : Int) (wrap64 (x92_5 + 1))) else (some false)) = some r := H
           have A62 := Aside0.mk A620
           clear A620
           by_cases c63 : t300 = true
           rotate_left
           ·replace c63 := Bool.eq_false_iff.mpr c63
            subst c63
            have H1 : (some false) = some r := by rw [if_neg (show ¬ (false = true) by decide)] at H; exact H
            clear H
            have H := H1
            clear H1
            obtain rfl := Option.some.inj H
            have p298 : 0 ≤ (x92_5 : Int) := of_decide_eq_true tZE
            have q298 : x92_5 < (((rd_T130 l0 x23_2).f4).length : Int) := of_decide_eq_true tZE
            obtain ⟨ad298, e298, hx298_0, hx298_1, hx298_2, hx298_3, hx298_4, hx298_5⟩ := at_T149 HR288_4.out x92_5 p298 q298
            cases e298
            replace hx298_0 := cZ HB hx298_0
            replace hx298_1 := cZ HB hx298_1
            replace hx298_2 := cZ HB hx298_2
            replace hx298_3 := cZ HB hx298_3
            replace hx298_4 := cZ HB hx298_4
            replace hx298_5 := cZ HB hx298_5
            replace p298 := eq_true p298
            replace q298 := eq_true q298
            go_wp2_with (first | ((with_reducible refine gate_dst (N := 9) rfl ?_); (try (refine gate_guard (by rfl) ?_; dsimp only)); refine box_event ?hg (N := 9) ?hd (cs := #[.int .i64 0, .int .i64 0, .int .i64 0, .int .i64 0, .int .i64 0, .int .i64 0]) (t := 149) ?hr ?_; (case hd => rfl); (case hg => rfl); (case hr => first | (go_simp; done) | (go_simp; rfl)); intro gb299 hg w68 hbox hb; replace HO_3 := aZ (Kd.Y_below (lZY HO_3.out) hb); have BK299 := aZ (hbox); have GW299 := aZ ((by rw [hg]; exact (below_size bZ) : w.heap.size ≤ gb299)); have GE299 := aZ ((by rw [hg]; exact (below_size bZ) : w.heap.size ≤ gb299)); replace HB := aZ (below_step bZ hb); have NB289_299 := aZ ((by rw [hg]; exact Nat.ne_of_lt (blk_lt (bkZ BK289.out)) : gb289 ≠ gb299)); have NB299_289 := aZ ((by rw [hg]; exact Nat.ne_of_gt (blk_lt (bkZ BK289.out)) : gb299 ≠ gb289)); replace BK289 := aZ (blk_below (bkZ BK289.out) hb); clear hb hbox hg; have hnb69 := NB299_289.out; have hnc69 := NB289_299.out; have hcz70_0 : w68.cell? ⟨gb299, 0, none⟩ = some (.int .i64 0) := (blk_cell BK299.out 0).trans rfl; have hcz70_1 : w68.cell? ⟨gb299, 1, none⟩ = some (.int .i64 0) := (blk_cell BK299.out 1).trans rfl; have hcz70_2 : w68.cell? ⟨gb299, 2, none⟩ = some (.int .i64 0) := (blk_cell BK299.out 2).trans rfl; have hcz70_3 : w68.cell? ⟨gb299, 3, none⟩ = some (.int .i64 0) := (blk_cell BK299.out 3).trans rfl; have hcz70_4 : w68.cell? ⟨gb299, 4, none⟩ = some (.int .i64 0) := (blk_cell BK299.out 4).trans rfl; have hcz70_5 : w68.cell? ⟨gb299, 5, none⟩ = some (.int .i64 0) := (blk_cell BK299.out 5).trans rfl; have hfz70_0 := blk_frozen BK299.out 0; have hfz70_1 := blk_frozen BK299.out 1; have hfz70_2 := blk_frozen BK299.out 2; have hfz70_3 := blk_frozen BK299.out 3; have hfz70_4 := blk_frozen BK299.out 4; have hfz70_5 := blk_frozen BK299.out 5) | ((with_reducible refine gate_callee (f := 157) rfl ?_); refine goesL_ (some 100) rfl rfl Try.func157 kZ rfl #[.agg #[.int .i64 ((rd_T149 ((rd_T130 l0 x23_2).f4) x92_5).f0), .int .i64 ((rd_T149 ((rd_T130 l0 x23_2).f4) x92_5).f1), .int .i64 ((rd_T149 ((rd_T130 l0 x23_2).f4) x92_5).f2), .int .i64 ((rd_T149 ((rd_T130 l0 x23_2).f4) x92_5).f3), .int .i64 ((rd_T149 ((rd_T130 l0 x23_2).f4) x92_5).f4), .int .i64 ((rd_T149 ((rd_T130 l0 x23_2).f4) x92_5).f5)], .int .i64 x23_2, .int .i64 (l0.length : Int), .bool true] rfl tZA ?_; (with_reducible refine (impl_partOk.calls ((rd_T149 ((rd_T130 l0 x23_2).f4) x92_5).f0) ((rd_T149 ((rd_T130 l0 x23_2).f4) x92_5).f1) ((rd_T149 ((rd_T130 l0 x23_2).f4) x92_5).f2) ((rd_T149 ((rd_T130 l0 x23_2).f4) x92_5).f3) ((rd_T149 ((rd_T130 l0 x23_2).f4) x92_5).f4) ((rd_T149 ((rd_T130 l0 x23_2).f4) x92_5).f5) x23_2 (l0.length : Int) true false _ A62.out).mono ?_); rintro e w71 ⟨rfl, hb⟩; refine ⟨_, rfl, ?_⟩; replace HO_3 := aZ (Kd.Y_below (by (with_reducible repeat (first | apply Kd.Y_alloc | apply Kd.Y_drewN | apply Kd.Y_drew)); exact (Kd.Y_mono (Kd.Y_far (p := ⟨gb299, 5, none⟩) (Kd.Y_far (p := ⟨gb299, 4, none⟩) (Kd.Y_far (p := ⟨gb299, 3, none⟩) (Kd.Y_far (p := ⟨gb299, 2, none⟩) (Kd.Y_far (p := ⟨gb299, 1, none⟩) (Kd.Y_far (p := ⟨gb299, 0, none⟩) (Kd.Y_types HO_3.out BK299.out (by decide)) (fun _ hk => hk.2) (.int .i64 ((rd_T149 ((rd_T130 l0 x23_2).f4) x92_5).f0))) (fun _ hk => hk.2) (.int .i64 ((rd_T149 ((rd_T130 l0 x23_2).f4) x92_5).f1))) (fun _ hk => hk.2) (.int .i64 ((rd_T149 ((rd_T130 l0 x23_2).f4) x92_5).f2))) (fun _ hk => hk.2) (.int .i64 ((rd_T149 ((rd_T130 l0 x23_2).f4) x92_5).f3))) (fun _ hk => hk.2) (.int .i64 ((rd_T149 ((rd_T130 l0 x23_2).f4) x92_5).f4))) (fun _ hk => hk.2) (.int .i64 ((rd_T149 ((rd_T130 l0 x23_2).f4) x92_5).f5))) (fun _ h_ => h_.1))) hb); replace BK289 := aZ (blk_below (g := gb289) (o := .cells #[.string ((rd_T130 l0 x23_2).f0), .int .i64 ((rd_T130 l0 x23_2).f1), .bool ((rd_T130 l0 x23_2).f2), .slice A288_3 ((rd_T130 l0 x23_2).f3).length c288_3, .slice (some ad298) ((rd_T130 l0 x23_2).f4).length c288_4] 130 (0, 0)) (by (with_reducible repeat (first | refine blk_drewN ?_ _ | refine blk_drew ?_ | refine blk_alloc ?_ _)); refine blk_far ?_ NB289_299.out _; (with_reducible repeat (first | refine blk_drewN ?_ _ | refine blk_drew ?_ | refine blk_alloc ?_ _)); refine blk_far ?_ NB289_299.out _; (with_reducible repeat (first | refine blk_drewN ?_ _ | refine blk_drew ?_ | refine blk_alloc ?_ _)); refine blk_far ?_ NB289_299.out _; (with_reducible repeat (first | refine blk_drewN ?_ _ | refine blk_drew ?_ | refine blk_alloc ?_ _)); refine blk_far ?_ NB289_299.out _; (with_reducible repeat (first | refine blk_drewN ?_ _ | refine blk_drew ?_ | refine blk_alloc ?_ _)); refine blk_far ?_ NB289_299.out _; (with_reducible repeat (first | refine blk_drewN ?_ _ | refine blk_drew ?_ | refine blk_alloc ?_ _)); refine blk_far ?_ NB289_299.out _; (with_reducible repeat (first | refine blk_drewN ?_ _ | refine blk_drew ?_ | refine blk_alloc ?_ _)); exact BK289.out) hb); replace BK299 := aZ (blk_below (g := gb299) (o := .cells #[.int .i64 ((rd_T149 ((rd_T130 l0 x23_2).f4) x92_5).f0), .int .i64 ((rd_T149 ((rd_T130 l0 x23_2).f4) x92_5).f1), .int .i64 ((rd_T149 ((rd_T130 l0 x23_2).f4) x92_5).f2), .int .i64 ((rd_T149 ((rd_T130 l0 x23_2).f4) x92_5).f3), .int .i64 ((rd_T149 ((rd_T130 l0 x23_2).f4) x92_5).f4), .int .i64 ((rd_T149 ((rd_T130 l0 x23_2).f4) x92_5).f5)] 149 (0, 0)) (by (with_reducible repeat (first | refine blk_drewN ?_ _ | refine blk_drew ?_ | refine blk_alloc ?_ _)); refine blk_put (cs := #[.int .i64 ((rd_T149 ((rd_T130 l0 x23_2).f4) x92_5).f0), .int .i64 ((rd_T149 ((rd_T130 l0 x23_2).f4) x92_5).f1), .int .i64 ((rd_T149 ((rd_T130 l0 x23_2).f4) x92_5).f2), .int .i64 ((rd_T149 ((rd_T130 l0 x23_2).f4) x92_5).f3), .int .i64 ((rd_T149 ((rd_T130 l0 x23_2).f4) x92_5).f4), .int .i64 0]) ?_ 5 _ rfl; (with_reducible repeat (first | refine blk_drewN ?_ _ | refine blk_drew ?_ | refine blk_alloc ?_ _)); refine blk_put (cs := #[.int .i64 ((rd_T149 ((rd_T130 l0 x23_2).f4) x92_5).f0), .int .i64 ((rd_T149 ((rd_T130 l0 x23_2).f4) x92_5).f1), .int .i64 ((rd_T149 ((rd_T130 l0 x23_2).f4) x92_5).f2), .int .i64 ((rd_T149 ((rd_T130 l0 x23_2).f4) x92_5).f3), .int .i64 0, .int .i64 0]) ?_ 4 _ rfl; (with_reducible repeat (first | refine blk_drewN ?_ _ | refine blk_drew ?_ | refine blk_alloc ?_ _)); refine blk_put (cs := #[.int .i64 ((rd_T149 ((rd_T130 l0 x23_2).f4) x92_5).f0), .int .i64 ((rd_T149 ((rd_T130 l0 x23_2).f4) x92_5).f1), .int .i64 ((rd_T149 ((rd_T130 l0 x23_2).f4) x92_5).f2), .int .i64 0, .int .i64 0, .int .i64 0]) ?_ 3 _ rfl; (with_reducible repeat (first | refine blk_drewN ?_ _ | refine blk_drew ?_ | refine blk_alloc ?_ _)); refine blk_put (cs := #[.int .i64 ((rd_T149 ((rd_T130 l0 x23_2).f4) x92_5).f0), .int .i64 ((rd_T149 ((rd_T130 l0 x23_2).f4) x92_5).f1), .int .i64 0, .int .i64 0, .int .i64 0, .int .i64 0]) ?_ 2 _ rfl; (with_reducible repeat (first | refine blk_drewN ?_ _ | refine blk_drew ?_ | refine blk_alloc ?_ _)); refine blk_put (cs := #[.int .i64 ((rd_T149 ((rd_T130 l0 x23_2).f4) x92_5).f0), .int .i64 0, .int .i64 0, .int .i64 0, .int .i64 0, .int .i64 0]) ?_ 1 _ rfl; (with_reducible repeat (first | refine blk_drewN ?_ _ | refine blk_drew ?_ | refine blk_alloc ?_ _)); refine blk_put (cs := #[.int .i64 0, .int .i64 0, .int .i64 0, .int .i64 0, .int .i64 0, .int .i64 0]) ?_ 0 _ rfl; (with_reducible repeat (first | refine blk_drewN ?_ _ | refine blk_drew ?_ | refine blk_alloc ?_ _)); exact BK299.out) hb); replace HB := aZ (below_step bZ hb); (try clear hb); (try clear hb2); (try clear hk); (try clear hi)))
            go_ret
            exact ⟨tZC, bZ⟩
           subst c63
           have H1 : (impl_ItemsOk.l2 k5 l0 y293 x23_2 l0 (l0.length : Int) x23_2 ((rd_T130 l0 x23_2).f4) (((rd_T130 l0 x23_2).f4).length : Int) (wrap64 (x92_5 + 1))) = some r := by rw [if_pos rfl] at H; exact H
           clear H
           have H := H1
           clear H1
           have H' := Aside0.mk H
           clear H
           have p298 : 0 ≤ (x92_5 : Int) := of_decide_eq_true tZE
           have q298 : x92_5 < (((rd_T130 l0 x23_2).f4).length : Int) := of_decide_eq_true tZE
           obtain ⟨ad298, e298, hx298_0, hx298_1, hx298_2, hx298_3, hx298_4, hx298_5⟩ := at_T149 HR288_4.out x92_5 p298 q298
           cases e298
           replace hx298_0 := cZ HB hx298_0
           replace hx298_1 := cZ HB hx298_1
           replace hx298_2 := cZ HB hx298_2
           replace hx298_3 := cZ HB hx298_3
           replace hx298_4 := cZ HB hx298_4
           replace hx298_5 := cZ HB hx298_5
           replace p298 := eq_true p298
           replace q298 := eq_true q298
           go_wp2_with (first | ((with_reducible refine gate_dst (N := 9) rfl ?_); (try (refine gate_guard (by rfl) ?_; dsimp only)); refine box_event ?hg (N := 9) ?hd (cs := #[.int .i64 0, .int .i64 0, .int .i64 0, .int .i64 0, .int .i64 0, .int .i64 0]) (t := 149) ?hr ?_; (case hd => rfl); (case hg => rfl); (case hr => first | (go_simp; done) | (go_simp; rfl)); intro gb299 hg w64 hbox hb; replace HO_3 := aZ (Kd.Y_below (lZY HO_3.out) hb); have BK299 := aZ (hbox); have GW299 := aZ ((by rw [hg]; exact (below_size bZ) : w.heap.size ≤ gb299)); have GE299 := aZ ((by rw [hg]; exact (below_size bZ) : w.heap.size ≤ gb299)); replace HB := aZ (below_step bZ hb); have NB289_299 := aZ ((by rw [hg]; exact Nat.ne_of_lt (blk_lt (bkZ BK289.out)) : gb289 ≠ gb299)); have NB299_289 := aZ ((by rw [hg]; exact Nat.ne_of_gt (blk_lt (bkZ BK289.out)) : gb299 ≠ gb289)); replace BK289 := aZ (blk_below (bkZ BK289.out) hb); clear hb hbox hg; have hnb65 := NB299_289.out; have hnc65 := NB289_299.out; have hcz66_0 : w64.cell? ⟨gb299, 0, none⟩ = some (.int .i64 0) := (blk_cell BK299.out 0).trans rfl; have hcz66_1 : w64.cell? ⟨gb299, 1, none⟩ = some (.int .i64 0) := (blk_cell BK299.out 1).trans rfl; have hcz66_2 : w64.cell? ⟨gb299, 2, none⟩ = some (.int .i64 0) := (blk_cell BK299.out 2).trans rfl; have hcz66_3 : w64.cell? ⟨gb299, 3, none⟩ = some (.int .i64 0) := (blk_cell BK299.out 3).trans rfl; have hcz66_4 : w64.cell? ⟨gb299, 4, none⟩ = some (.int .i64 0) := (blk_cell BK299.out 4).trans rfl; have hcz66_5 : w64.cell? ⟨gb299, 5, none⟩ = some (.int .i64 0) := (blk_cell BK299.out 5).trans rfl; have hfz66_0 := blk_frozen BK299.out 0; have hfz66_1 := blk_frozen BK299.out 1; have hfz66_2 := blk_frozen BK299.out 2; have hfz66_3 := blk_frozen BK299.out 3; have hfz66_4 := blk_frozen BK299.out 4; have hfz66_5 := blk_frozen BK299.out 5) | ((with_reducible refine gate_callee (f := 157) rfl ?_); refine goesL_ (some 100) rfl rfl Try.func157 kZ rfl #[.agg #[.int .i64 ((rd_T149 ((rd_T130 l0 x23_2).f4) x92_5).f0), .int .i64 ((rd_T149 ((rd_T130 l0 x23_2).f4) x92_5).f1), .int .i64 ((rd_T149 ((rd_T130 l0 x23_2).f4) x92_5).f2), .int .i64 ((rd_T149 ((rd_T130 l0 x23_2).f4) x92_5).f3), .int .i64 ((rd_T149 ((rd_T130 l0 x23_2).f4) x92_5).f4), .int .i64 ((rd_T149 ((rd_T130 l0 x23_2).f4) x92_5).f5)], .int .i64 x23_2, .int .i64 (l0.length : Int), .bool true] rfl tZA ?_; (with_reducible refine (impl_partOk.calls ((rd_T149 ((rd_T130 l0 x23_2).f4) x92_5).f0) ((rd_T149 ((rd_T130 l0 x23_2).f4) x92_5).f1) ((rd_T149 ((rd_T130 l0 x23_2).f4) x92_5).f2) ((rd_T149 ((rd_T130 l0 x23_2).f4) x92_5).f3) ((rd_T149 ((rd_T130 l0 x23_2).f4) x92_5).f4) ((rd_T149 ((rd_T130 l0 x23_2).f4) x92_5).f5) x23_2 (l0.length : Int) true true _ A62.out).mono ?_); rintro e w67 ⟨rfl, hb⟩; refine ⟨_, rfl, ?_⟩; replace HO_3 := aZ (Kd.Y_below (by (with_reducible repeat (first | apply Kd.Y_alloc | apply Kd.Y_drewN | apply Kd.Y_drew)); exact (Kd.Y_mono (Kd.Y_far (p := ⟨gb299, 5, none⟩) (Kd.Y_far (p := ⟨gb299, 4, none⟩) (Kd.Y_far (p := ⟨gb299, 3, none⟩) (Kd.Y_far (p := ⟨gb299, 2, none⟩) (Kd.Y_far (p := ⟨gb299, 1, none⟩) (Kd.Y_far (p := ⟨gb299, 0, none⟩) (Kd.Y_types HO_3.out BK299.out (by decide)) (fun _ hk => hk.2) (.int .i64 ((rd_T149 ((rd_T130 l0 x23_2).f4) x92_5).f0))) (fun _ hk => hk.2) (.int .i64 ((rd_T149 ((rd_T130 l0 x23_2).f4) x92_5).f1))) (fun _ hk => hk.2) (.int .i64 ((rd_T149 ((rd_T130 l0 x23_2).f4) x92_5).f2))) (fun _ hk => hk.2) (.int .i64 ((rd_T149 ((rd_T130 l0 x23_2).f4) x92_5).f3))) (fun _ hk => hk.2) (.int .i64 ((rd_T149 ((rd_T130 l0 x23_2).f4) x92_5).f4))) (fun _ hk => hk.2) (.int .i64 ((rd_T149 ((rd_T130 l0 x23_2).f4) x92_5).f5))) (fun _ h_ => h_.1))) hb); replace BK289 := aZ (blk_below (g := gb289) (o := .cells #[.string ((rd_T130 l0 x23_2).f0), .int .i64 ((rd_T130 l0 x23_2).f1), .bool ((rd_T130 l0 x23_2).f2), .slice A288_3 ((rd_T130 l0 x23_2).f3).length c288_3, .slice (some ad298) ((rd_T130 l0 x23_2).f4).length c288_4] 130 (0, 0)) (by (with_reducible repeat (first | refine blk_drewN ?_ _ | refine blk_drew ?_ | refine blk_alloc ?_ _)); refine blk_far ?_ NB289_299.out _; (with_reducible repeat (first | refine blk_drewN ?_ _ | refine blk_drew ?_ | refine blk_alloc ?_ _)); refine blk_far ?_ NB289_299.out _; (with_reducible repeat (first | refine blk_drewN ?_ _ | refine blk_drew ?_ | refine blk_alloc ?_ _)); refine blk_far ?_ NB289_299.out _; (with_reducible repeat (first | refine blk_drewN ?_ _ | refine blk_drew ?_ | refine blk_alloc ?_ _)); refine blk_far ?_ NB289_299.out _; (with_reducible repeat (first | refine blk_drewN ?_ _ | refine blk_drew ?_ | refine blk_alloc ?_ _)); refine blk_far ?_ NB289_299.out _; (with_reducible repeat (first | refine blk_drewN ?_ _ | refine blk_drew ?_ | refine blk_alloc ?_ _)); refine blk_far ?_ NB289_299.out _; (with_reducible repeat (first | refine blk_drewN ?_ _ | refine blk_drew ?_ | refine blk_alloc ?_ _)); exact BK289.out) hb); replace BK299 := aZ (blk_below (g := gb299) (o := .cells #[.int .i64 ((rd_T149 ((rd_T130 l0 x23_2).f4) x92_5).f0), .int .i64 ((rd_T149 ((rd_T130 l0 x23_2).f4) x92_5).f1), .int .i64 ((rd_T149 ((rd_T130 l0 x23_2).f4) x92_5).f2), .int .i64 ((rd_T149 ((rd_T130 l0 x23_2).f4) x92_5).f3), .int .i64 ((rd_T149 ((rd_T130 l0 x23_2).f4) x92_5).f4), .int .i64 ((rd_T149 ((rd_T130 l0 x23_2).f4) x92_5).f5)] 149 (0, 0)) (by (with_reducible repeat (first | refine blk_drewN ?_ _ | refine blk_drew ?_ | refine blk_alloc ?_ _)); refine blk_put (cs := #[.int .i64 ((rd_T149 ((rd_T130 l0 x23_2).f4) x92_5).f0), .int .i64 ((rd_T149 ((rd_T130 l0 x23_2).f4) x92_5).f1), .int .i64 ((rd_T149 ((rd_T130 l0 x23_2).f4) x92_5).f2), .int .i64 ((rd_T149 ((rd_T130 l0 x23_2).f4) x92_5).f3), .int .i64 ((rd_T149 ((rd_T130 l0 x23_2).f4) x92_5).f4), .int .i64 0]) ?_ 5 _ rfl; (with_reducible repeat (first | refine blk_drewN ?_ _ | refine blk_drew ?_ | refine blk_alloc ?_ _)); refine blk_put (cs := #[.int .i64 ((rd_T149 ((rd_T130 l0 x23_2).f4) x92_5).f0), .int .i64 ((rd_T149 ((rd_T130 l0 x23_2).f4) x92_5).f1), .int .i64 ((rd_T149 ((rd_T130 l0 x23_2).f4) x92_5).f2), .int .i64 ((rd_T149 ((rd_T130 l0 x23_2).f4) x92_5).f3), .int .i64 0, .int .i64 0]) ?_ 4 _ rfl; (with_reducible repeat (first | refine blk_drewN ?_ _ | refine blk_drew ?_ | refine blk_alloc ?_ _)); refine blk_put (cs := #[.int .i64 ((rd_T149 ((rd_T130 l0 x23_2).f4) x92_5).f0), .int .i64 ((rd_T149 ((rd_T130 l0 x23_2).f4) x92_5).f1), .int .i64 ((rd_T149 ((rd_T130 l0 x23_2).f4) x92_5).f2), .int .i64 0, .int .i64 0, .int .i64 0]) ?_ 3 _ rfl; (with_reducible repeat (first | refine blk_drewN ?_ _ | refine blk_drew ?_ | refine blk_alloc ?_ _)); refine blk_put (cs := #[.int .i64 ((rd_T149 ((rd_T130 l0 x23_2).f4) x92_5).f0), .int .i64 ((rd_T149 ((rd_T130 l0 x23_2).f4) x92_5).f1), .int .i64 0, .int .i64 0, .int .i64 0, .int .i64 0]) ?_ 2 _ rfl; (with_reducible repeat (first | refine blk_drewN ?_ _ | refine blk_drew ?_ | refine blk_alloc ?_ _)); refine blk_put (cs := #[.int .i64 ((rd_T149 ((rd_T130 l0 x23_2).f4) x92_5).f0), .int .i64 0, .int .i64 0, .int .i64 0, .int .i64 0, .int .i64 0]) ?_ 1 _ rfl; (with_reducible repeat (first | refine blk_drewN ?_ _ | refine blk_drew ?_ | refine blk_alloc ?_ _)); refine blk_put (cs := #[.int .i64 0, .int .i64 0, .int .i64 0, .int .i64 0, .int .i64 0, .int .i64 0]) ?_ 0 _ rfl; (with_reducible repeat (first | refine blk_drewN ?_ _ | refine blk_drew ?_ | refine blk_alloc ?_ _)); exact BK299.out) hb); replace HB := aZ (below_step bZ hb); (try clear hb); (try clear hb2); (try clear hk); (try clear hi)))
           go_roundg k5
           case measure => have := HJ1.out; have := HK2.out; have := HJ9.out; have := HK4.out; have := HK5.out; omega
           case rel => exact ⟨(wrap64 (x92_5 + 1)), tZB, H', ⟨by have := HJ1.out; have := HK2.out; have := HJ9.out; have := HK4.out; have := HK5.out; omega⟩, ⟨lZY HO_3.out⟩, ⟨bkZ BK289.out⟩, ⟨bZ⟩⟩
end Go.Proofs.Ytjnmfadnkbflfaa.PFnExactOutput
