import Derived.Test.YtfkakbpjddgmeaaHPFnHandedOnx0
import Derived.Test.YtfkakbpjddgmeaaHPFnHandedOnx4
import Derived.Test.YtfkakbpjddgmeaaHPFnHandedOnx6
import Derived.Test.YtfkakbpjddgmeaaHSlimWords
namespace Go.Proofs.Ytfkakbpjddgmeaa.PFnHandedOn
open Go.Proofs.Ytfkakbpjddgmeaa.SlimWords
open Go.RowKit Go.Proofs.YtfkakbpjddgmeaaW.PrintWords Go.Proofs.YtfkakbpjddgmeaaW.PrintLast Go.Proofs.YtfkakbpjddgmeaaW.PrintMore Go.Proofs.Ytfkakbpjddgmeaa.MapWords Go.Proofs.Ytfkakbpjddgmeaa.IterWords Go.Proofs.Ytfkakbpjddgmeaa.MarkWords
attribute [local go_sem] max2_int min2_int max_two min_two max_three min_three max_four min_four
set_option linter.unusedVariables false
set_option linter.unusedSimpArgs false
private abbrev I' := true
private abbrev O' := false
private abbrev L0' : Array Bool := #[O',O',O',O',O',O',O',O',O']
private abbrev L1' : Array Bool := #[I',O',O',O',O',O',O',O',O']
private abbrev L2' : Array Bool := #[I',I',O',O',O',O',O',O',O']
private abbrev L3' : Array Bool := #[I',I',O',O',O',I',O',O',O']
private abbrev L4' : Array Bool := #[I',I',I',O',O',I',O',O',O']
private abbrev L5' : Array Bool := #[I',I',I',I',O',I',O',O',O']
private abbrev L6' : Array Bool := #[I',I',I',I',I',I',O',O',O']
private abbrev L7' : Array Bool := #[I',I',I',I',I',I',I',O',O']
private abbrev L8' : Array Bool := #[I',I',I',I',I',I',I',I',O']
private abbrev L9' : Array Bool := #[I',I',I',I',I',I',I',I',I']
private abbrev L10' : Array Bool := #[O',O',O',O',O',O',O',O',O',O',O']
private abbrev L11' : Array Bool := #[I',O',O',O',O',O',O',O',O',O',O']
private abbrev L12' : Array Bool := #[I',I',O',O',O',O',O',O',O',O',O']
private abbrev L13' : Array Bool := #[I',I',I',O',O',O',O',O',O',O',O']
private abbrev L14' : Array Bool := #[I',I',I',O',I',O',O',O',O',O',O']
private abbrev L15' : Array Bool := #[I',I',I',O',I',I',O',O',O',O',O']
private abbrev L16' : Array Bool := #[I',I',I',O',I',I',I',O',O',O',O']
private abbrev L17' : Array Bool := #[I',I',I',I',I',I',I',O',O',O',O']
private abbrev L18' : Array Bool := #[I',I',I',I',I',I',I',I',O',O',O']
private abbrev L19' : Array Bool := #[I',I',I',I',I',I',I',I',I',O',O']
private abbrev L20' : Array Bool := #[I',I',I',I',I',I',I',I',I',I',O']
private abbrev L21' : Array Bool := #[I',I',I',I',I',I',I',I',I',I',I']
mutual
def impl_StepDown.j0 : Nat → List Int → List (S31) → Bool → Option (List Int × Bool)
  | 0, _, _, _ => none
  | k + 1, x0, x1, x23 => if x23 = true then (some (([] : List Int), false)) else ((some (([] : List Int) : List Int)).bind fun y364 => (if y364.length + x0.length < 17592186044416 then (impl_StepDown.l0 k (y364 ++ x0) (([] : List ((Int × Bool)))) x1 (x1.length : Int) 0) else (none)))
def impl_StepDown.l0 : Nat → List Int → List ((Int × Bool)) → List (S31) → Int → Int → Option (List Int × Bool)
  | 0, _, _, _, _, _ => none
  | k + 1, x6, x7, x28, x29, x30 => if x30 < x29 then (if 0 ≤ x30 then (if x30 < (x28.length : Int) then (if ((rd_T31 x28 x30).f0) < 0 then (impl_StepDown.j2 k x6 x7 x28 x29 x30 true ((rd_T31 x28 x30).f0) ((rd_T31 x28 x30).f1) ((rd_T31 x28 x30).f2)) else (if ((rd_T31 x28 x30).f0) ≥ (x6.length : Int) then (impl_StepDown.j2 k x6 x7 x28 x29 x30 true ((rd_T31 x28 x30).f0) ((rd_T31 x28 x30).f1) ((rd_T31 x28 x30).f2)) else (if -9223372036854775808 ≤ ((rd_T31 x28 x30).f0) then (if ((rd_T31 x28 x30).f0) ≤ 9223372036854775807 then (if (mget false x7 ((rd_T31 x28 x30).f0)) = true then (impl_StepDown.j2 k x6 x7 x28 x29 x30 true ((rd_T31 x28 x30).f0) ((rd_T31 x28 x30).f1) ((rd_T31 x28 x30).f2)) else (if (((rd_T31 x28 x30).f1).length : Int) < 1 then (impl_StepDown.j2 k x6 x7 x28 x29 x30 true ((rd_T31 x28 x30).f0) ((rd_T31 x28 x30).f1) ((rd_T31 x28 x30).f2)) else (if (((rd_T31 x28 x30).f1).length : Int) > 200 then (impl_StepDown.j2 k x6 x7 x28 x29 x30 true ((rd_T31 x28 x30).f0) ((rd_T31 x28 x30).f1) ((rd_T31 x28 x30).f2)) else (impl_StepDown.j2 k x6 x7 x28 x29 x30 ((((rd_T31 x28 x30).f2).length : Int) != (((rd_T31 x28 x30).f1).length : Int)) ((rd_T31 x28 x30).f0) ((rd_T31 x28 x30).f1) ((rd_T31 x28 x30).f2))))) else (none)) else (none)))) else (none)) else (none)) else (some (x6, true))
def impl_StepDown.j2 : Nat → List Int → List ((Int × Bool)) → List (S31) → Int → Int → Bool → Int → List Int → List Int → Option (List Int × Bool)
  | 0, _, _, _, _, _, _, _, _, _ => none
  | k + 1, x6, x7, x28, x29, x30, x70, x375000, x375001, x375002 => if x70 = true then (some (([] : List Int), false)) else (if -9223372036854775808 ≤ x375000 then (if x375000 ≤ 9223372036854775807 then (if x7.length < 140737488355328 then (impl_StepDown.l1 k x6 ((x375000, true) :: x7) (([] : List ((Int × Bool)))) x28 x29 x30 x375001 (x375001.length : Int) 0 x375000 x375001 x375002) else (none)) else (none)) else (none))
def impl_StepDown.l1 : Nat → List Int → List ((Int × Bool)) → List ((Int × Bool)) → List (S31) → Int → Int → List Int → Int → Int → Int → List Int → List Int → Option (List Int × Bool)
  | 0, _, _, _, _, _, _, _, _, _, _, _, _ => none
  | k + 1, x6, x7, x10, x28, x29, x30, x76, x77, x78, x375000, x375001, x375002 => if x78 < x77 then (if 0 ≤ x78 then (if x78 < (x76.length : Int) then (if (rd x76 x78) < 0 then (some (([] : List Int), false)) else (if (rd x76 x78) ≥ (x6.length : Int) then (some (([] : List Int), false)) else (if -9223372036854775808 ≤ (rd x76 x78) then (if (rd x76 x78) ≤ 9223372036854775807 then (if (mget false x10 (rd x76 x78)) = true then (some (([] : List Int), false)) else (if (mget false x7 (rd x76 x78)) = true then (some (([] : List Int), false)) else (if x10.length < 140737488355328 then (impl_StepDown.l1 k x6 x7 ((rd x76 x78, true) :: x10) x28 x29 x30 x76 x77 (wrap64 (x78 + 1)) x375000 x375001 x375002) else (none)))) else (none)) else (none)))) else (none)) else (none)) else (if 0 ≤ x375000 then (if x375000 < (x6.length : Int) then ((impl_Shares.f k (rd x6 x375000) x375002).bind fun t387 => (if (t387.length : Int) = 0 then (some (([] : List Int), false)) else (impl_StepDown.l2 k (x6.set (x375000 : Int).toNat 0) x7 t387 x28 x29 x30 x375001 (x375001.length : Int) 0))) else (none)) else (none))
def impl_StepDown.l2 : Nat → List Int → List ((Int × Bool)) → List Int → List (S31) → Int → Int → List Int → Int → Int → Option (List Int × Bool)
  | 0, _, _, _, _, _, _, _, _, _ => none
  | k + 1, x6, x7, x13, x28, x29, x30, x119, x120, x121 => if x121 < x120 then (if 0 ≤ x121 then (if x121 < (x119.length : Int) then (if 0 ≤ (rd x119 x121) then (if (rd x119 x121) < (x6.length : Int) then (if x121 < (x13.length : Int) then ((impl_amount.f (wrap64 ((rd x6 (rd x119 x121)) + (rd x13 x121)))).bind fun t396 => (if t396 = true then (impl_StepDown.l2 k (x6.set ((rd x119 x121) : Int).toNat (wrap64 ((rd x6 (rd x119 x121)) + (rd x13 x121)))) x7 x13 x28 x29 x30 x119 x120 (wrap64 (x121 + 1))) else (some (([] : List Int), false)))) else (none)) else (none)) else (none)) else (none)) else (none)) else (impl_StepDown.l0 k x6 x7 x28 x29 (wrap64 (x30 + 1)))
end
def impl_StepDown.f (k : Nat) (l0 : List Int) (l1 : List (S31)) : Option (List Int × Bool) := (impl_costsOk.f k l0).bind fun t363 => (if t363 = true then (impl_StepDown.j0 k l0 l1 (decide ((l1.length : Int) > 40))) else (impl_StepDown.j0 k l0 l1 true))
theorem impl_StepDown.mono_l : ∀ k, (∀ y0 y1 y2, LeO (impl_StepDown.j0 k y0 y1 y2) (impl_StepDown.j0 (k + 1) y0 y1 y2)) ∧ (∀ y0 y1 y2 y3 y4, LeO (impl_StepDown.l0 k y0 y1 y2 y3 y4) (impl_StepDown.l0 (k + 1) y0 y1 y2 y3 y4)) ∧ (∀ y0 y1 y2 y3 y4 y5 y6 y7 y8, LeO (impl_StepDown.j2 k y0 y1 y2 y3 y4 y5 y6 y7 y8) (impl_StepDown.j2 (k + 1) y0 y1 y2 y3 y4 y5 y6 y7 y8)) ∧ (∀ y0 y1 y2 y3 y4 y5 y6 y7 y8 y9 y10 y11, LeO (impl_StepDown.l1 k y0 y1 y2 y3 y4 y5 y6 y7 y8 y9 y10 y11) (impl_StepDown.l1 (k + 1) y0 y1 y2 y3 y4 y5 y6 y7 y8 y9 y10 y11)) ∧ (∀ y0 y1 y2 y3 y4 y5 y6 y7 y8, LeO (impl_StepDown.l2 k y0 y1 y2 y3 y4 y5 y6 y7 y8) (impl_StepDown.l2 (k + 1) y0 y1 y2 y3 y4 y5 y6 y7 y8))
  | 0 => ⟨fun _ _ _ r h => by simp [impl_StepDown.j0] at h, fun _ _ _ _ _ r h => by simp [impl_StepDown.l0] at h, fun _ _ _ _ _ _ _ _ _ r h => by simp [impl_StepDown.j2] at h, fun _ _ _ _ _ _ _ _ _ _ _ _ r h => by simp [impl_StepDown.l1] at h, fun _ _ _ _ _ _ _ _ _ r h => by simp [impl_StepDown.l2] at h⟩
  | k + 1 => by
    obtain ⟨ih0, ih1, ih2, ih3, ih4⟩ := impl_StepDown.mono_l k
    refine ⟨?_, ?_, ?_, ?_, ?_⟩
    · intro y0 y1 y2
      unfold impl_StepDown.j0
      repeat' first
      | (with_reducible exact ih0 _ _ _)
      | (with_reducible exact ih1 _ _ _ _ _)
      | (with_reducible exact ih2 _ _ _ _ _ _ _ _ _)
      | (with_reducible exact ih3 _ _ _ _ _ _ _ _ _ _ _ _)
      | (with_reducible exact ih4 _ _ _ _ _ _ _ _ _)
      | (with_reducible exact impl_Shares.mono _ _ _)
      | (with_reducible exact impl_costsOk.mono _ _)
      | (with_reducible exact LeO.refl _)
      | (with_reducible exact LeO.none _)
      | (with_reducible refine LeO.ite ?_ ?_)
      | (with_reducible refine LeO.bind ?_ (fun _ => ?_))
      | exact ih0 _ _ _
      | exact ih1 _ _ _ _ _
      | exact ih2 _ _ _ _ _ _ _ _ _
      | exact ih3 _ _ _ _ _ _ _ _ _ _ _ _
      | exact ih4 _ _ _ _ _ _ _ _ _
      | exact impl_Shares.mono _ _ _
      | exact impl_costsOk.mono _ _
      | exact LeO.none _
      | refine LeO.ite ?_ ?_
      | refine LeO.bind ?_ (fun _ => ?_)
    · intro y0 y1 y2 y3 y4
      unfold impl_StepDown.l0
      repeat' first
      | (with_reducible exact ih0 _ _ _)
      | (with_reducible exact ih1 _ _ _ _ _)
      | (with_reducible exact ih2 _ _ _ _ _ _ _ _ _)
      | (with_reducible exact ih3 _ _ _ _ _ _ _ _ _ _ _ _)
      | (with_reducible exact ih4 _ _ _ _ _ _ _ _ _)
      | (with_reducible exact impl_Shares.mono _ _ _)
      | (with_reducible exact impl_costsOk.mono _ _)
      | (with_reducible exact LeO.refl _)
      | (with_reducible exact LeO.none _)
      | (with_reducible refine LeO.ite ?_ ?_)
      | (with_reducible refine LeO.bind ?_ (fun _ => ?_))
      | exact ih0 _ _ _
      | exact ih1 _ _ _ _ _
      | exact ih2 _ _ _ _ _ _ _ _ _
      | exact ih3 _ _ _ _ _ _ _ _ _ _ _ _
      | exact ih4 _ _ _ _ _ _ _ _ _
      | exact impl_Shares.mono _ _ _
      | exact impl_costsOk.mono _ _
      | exact LeO.none _
      | refine LeO.ite ?_ ?_
      | refine LeO.bind ?_ (fun _ => ?_)
    · intro y0 y1 y2 y3 y4 y5 y6 y7 y8
      unfold impl_StepDown.j2
      repeat' first
      | (with_reducible exact ih0 _ _ _)
      | (with_reducible exact ih1 _ _ _ _ _)
      | (with_reducible exact ih2 _ _ _ _ _ _ _ _ _)
      | (with_reducible exact ih3 _ _ _ _ _ _ _ _ _ _ _ _)
      | (with_reducible exact ih4 _ _ _ _ _ _ _ _ _)
      | (with_reducible exact impl_Shares.mono _ _ _)
      | (with_reducible exact impl_costsOk.mono _ _)
      | (with_reducible exact LeO.refl _)
      | (with_reducible exact LeO.none _)
      | (with_reducible refine LeO.ite ?_ ?_)
      | (with_reducible refine LeO.bind ?_ (fun _ => ?_))
      | exact ih0 _ _ _
      | exact ih1 _ _ _ _ _
      | exact ih2 _ _ _ _ _ _ _ _ _
      | exact ih3 _ _ _ _ _ _ _ _ _ _ _ _
      | exact ih4 _ _ _ _ _ _ _ _ _
      | exact impl_Shares.mono _ _ _
      | exact impl_costsOk.mono _ _
      | exact LeO.none _
      | refine LeO.ite ?_ ?_
      | refine LeO.bind ?_ (fun _ => ?_)
    · intro y0 y1 y2 y3 y4 y5 y6 y7 y8 y9 y10 y11
      unfold impl_StepDown.l1
      repeat' first
      | (with_reducible exact ih0 _ _ _)
      | (with_reducible exact ih1 _ _ _ _ _)
      | (with_reducible exact ih2 _ _ _ _ _ _ _ _ _)
      | (with_reducible exact ih3 _ _ _ _ _ _ _ _ _ _ _ _)
      | (with_reducible exact ih4 _ _ _ _ _ _ _ _ _)
      | (with_reducible exact impl_Shares.mono _ _ _)
      | (with_reducible exact impl_costsOk.mono _ _)
      | (with_reducible exact LeO.refl _)
      | (with_reducible exact LeO.none _)
      | (with_reducible refine LeO.ite ?_ ?_)
      | (with_reducible refine LeO.bind ?_ (fun _ => ?_))
      | exact ih0 _ _ _
      | exact ih1 _ _ _ _ _
      | exact ih2 _ _ _ _ _ _ _ _ _
      | exact ih3 _ _ _ _ _ _ _ _ _ _ _ _
      | exact ih4 _ _ _ _ _ _ _ _ _
      | exact impl_Shares.mono _ _ _
      | exact impl_costsOk.mono _ _
      | exact LeO.none _
      | refine LeO.ite ?_ ?_
      | refine LeO.bind ?_ (fun _ => ?_)
    · intro y0 y1 y2 y3 y4 y5 y6 y7 y8
      unfold impl_StepDown.l2
      repeat' first
      | (with_reducible exact ih0 _ _ _)
      | (with_reducible exact ih1 _ _ _ _ _)
      | (with_reducible exact ih2 _ _ _ _ _ _ _ _ _)
      | (with_reducible exact ih3 _ _ _ _ _ _ _ _ _ _ _ _)
      | (with_reducible exact ih4 _ _ _ _ _ _ _ _ _)
      | (with_reducible exact impl_Shares.mono _ _ _)
      | (with_reducible exact impl_costsOk.mono _ _)
      | (with_reducible exact LeO.refl _)
      | (with_reducible exact LeO.none _)
      | (with_reducible refine LeO.ite ?_ ?_)
      | (with_reducible refine LeO.bind ?_ (fun _ => ?_))
      | exact ih0 _ _ _
      | exact ih1 _ _ _ _ _
      | exact ih2 _ _ _ _ _ _ _ _ _
      | exact ih3 _ _ _ _ _ _ _ _ _ _ _ _
      | exact ih4 _ _ _ _ _ _ _ _ _
      | exact impl_Shares.mono _ _ _
      | exact impl_costsOk.mono _ _
      | exact LeO.none _
      | refine LeO.ite ?_ ?_
      | refine LeO.bind ?_ (fun _ => ?_)
theorem impl_StepDown.mono : ∀ a0 a1 k, LeO (impl_StepDown.f k a0 a1) (impl_StepDown.f (k + 1) a0 a1) := by
 intro a0 a1 k
 obtain ⟨ih0, ih1, ih2, ih3, ih4⟩ := impl_StepDown.mono_l k
 unfold impl_StepDown.f
 repeat' first
     | (with_reducible exact ih0 _ _ _)
     | (with_reducible exact ih1 _ _ _ _ _)
     | (with_reducible exact ih2 _ _ _ _ _ _ _ _ _)
     | (with_reducible exact ih3 _ _ _ _ _ _ _ _ _ _ _ _)
     | (with_reducible exact ih4 _ _ _ _ _ _ _ _ _)
     | (with_reducible exact impl_Shares.mono _ _ _)
     | (with_reducible exact impl_costsOk.mono _ _)
     | (with_reducible exact LeO.refl _)
     | (with_reducible exact LeO.none _)
     | (with_reducible refine LeO.ite ?_ ?_)
     | (with_reducible refine LeO.bind ?_ (fun _ => ?_))
     | exact ih0 _ _ _
     | exact ih1 _ _ _ _ _
     | exact ih2 _ _ _ _ _ _ _ _ _
     | exact ih3 _ _ _ _ _ _ _ _ _ _ _ _
     | exact ih4 _ _ _ _ _ _ _ _ _
     | exact impl_Shares.mono _ _ _
     | exact impl_costsOk.mono _ _
     | exact LeO.none _
     | refine LeO.ite ?_ ?_
     | refine LeO.bind ?_ (fun _ => ?_)
def impl_StepDown.T19 : Bool × List (List Nat × List Nat) := (true, [([], []), ([], []), ([1], [1]), ([0, 2], [0, 2]), ([3], [3]), ([], []), ([5], [5]), ([4, 6], [4, 6]), ([7, 7, 0, 1, 2, 3, 4, 5, 6, 7], [7])])
def impl_StepDown.B19 : List Nat := [0, 0, 2, 7, 15, 0, 32, 127, 255]
theorem impl_StepDown.tab19 : rtab .any (opsOf Try.f9 19) = impl_StepDown.T19 := by kernel_rfl
theorem impl_StepDown.bits19 : waitsOk impl_StepDown.T19.2 impl_StepDown.B19 = true := by kernel_rfl
def impl_StepDown.T26 : Bool × List (List Nat × List Nat) := (true, [([], []), ([], []), ([0, 1], [0, 1]), ([2], [2]), ([], []), ([], []), ([4, 5], [4, 5]), ([6], [6]), ([3, 7], [3, 7]), ([0, 1, 0, 1, 2, 3, 4, 5, 6, 7, 8], [0, 1]), ([9, 8, 0, 1, 2, 3, 4, 5, 6, 7, 8], [8, 9])])
def impl_StepDown.B26 : List Nat := [0, 0, 3, 7, 0, 0, 48, 112, 255, 511, 1023]
theorem impl_StepDown.tab26 : rtab .any (opsOf Try.f9 26) = impl_StepDown.T26 := by kernel_rfl
theorem impl_StepDown.bits26 : waitsOk impl_StepDown.T26.2 impl_StepDown.B26 = true := by kernel_rfl
set_option maxHeartbeats 8000000 in
set_option maxRecDepth 100000 in
theorem impl_StepDown.calls (k : Nat) (A0 : Option Addr) (c0 : Nat) (l0 : List Int) (A1 : Option Addr) (c1 : Nat) (l1 : List (S31)) (r1 : List Int) (r2 : Bool) (w : World) (hr0 : Kd.C (Kd.int .i64) w A0 l0.length l0) (hc0 : l0.length ≤ c0) (hr1 : Kd.C k31 w A1 l1.length l1) (hc1 : l1.length ≤ c1) (h : impl_StepDown.f k l0 l1 = some (r1, r2)) :
    Calls Try.prog 9 #[.slice A0 l0.length c0, .slice A1 l1.length c1] w fun e w' => ∃ v0_ : Value, e = .returned (.tuple #[v0_, .bool r2]) ∧ Kd.R (Kd.int .i64) 3 w' w.heap.size (fun _ => True) v0_ r1 ∧ Below w.heap.size w w' := by
 have hu31 := Try.underlying31; have HR0 := Aside0.mk hr0; have HC0 := Aside0.mk hc0; clear hr0 hc0; have HR1 := Aside0.mk hr1; have HC1 := Aside0.mk hc1; clear hr1 hc1; have HB := aZ (Below.refl w.heap.size w); have H : ((impl_costsOk.f k l0).bind fun t363 => (if t363 = true then (impl_StepDown.j0 k l0 l1 (decide ((l1.length : Int) > 40))) else (impl_StepDown.j0 k l0 l1 true))) = some (r1, r2) := h; clear h; have HC3 := Aside0.mk H; clear H; go_enter Try.func9, Try.ntmps9
 go_upto_region 1 with (fail)
 go_cut [23] (fun v23 wc => ∃ (kq : Nat) (x23_2 : Bool), v23 = .bool x23_2 ∧ Aside0 (impl_StepDown.j0 kq l0 l1 x23_2 = some (r1, r2)) ∧ Aside0 (kq ≤ k) ∧ Aside0 (Below w.heap.size w wc))
 case first =>
  have H := HC3.out; clear HC3; replace H := Option.bind_eq_some_iff.mp H; obtain ⟨t363, A40, H⟩ := H; replace H : (if t363 = true then (impl_StepDown.j0 k l0 l1 (decide ((l1.length : Int) > 40))) else (impl_StepDown.j0 k l0 l1 true)) = some (r1, r2) := H; have A4 := Aside0.mk A40; clear A40
  by_cases c5 : t363 = true
  ·subst c5; rw [if_pos rfl] at H; have H' := Aside0.mk H; clear H
   go_wp2_with (first | ((with_reducible refine gate_callee (f := 34) rfl ?_); refine goesL_ (some 17) rfl rfl Try.func34 kZ rfl #[.slice A0 l0.length c0] rfl tZA ?_; (with_reducible refine (impl_costsOk.calls k _ _ l0 true _ ?side1 ?side2 A4.out).mono ?_); (case side1 => repeat (first | exact (Kd.C_below HR0.out HB.out) | (with_reducible refine Kd.C_alloc ?_ _) | (with_reducible refine Kd.C_drewN ?_ _) | (with_reducible refine Kd.C_drew ?_))); (case side2 => exact HC0.out); rintro e w' ⟨rfl, ⟨nd, rfl⟩⟩; refine ⟨_, rfl, ?_⟩))
   go_meet
   case rel => exact ⟨_, (decide ((l1.length : Int) > 40)), tZB, H', ⟨by first | omega | exact Nat.le_refl _⟩, ⟨bZ⟩⟩
  replace c5 := Bool.eq_false_iff.mpr c5; subst c5; rw [if_neg Bool.false_ne_true] at H; have H' := Aside0.mk H; clear H
  go_wp2_with (first | ((with_reducible refine gate_callee (f := 34) rfl ?_); refine goesL_ (some 17) rfl rfl Try.func34 kZ rfl #[.slice A0 l0.length c0] rfl tZA ?_; (with_reducible refine (impl_costsOk.calls k _ _ l0 false _ ?side1 ?side2 A4.out).mono ?_); (case side1 => repeat (first | exact (Kd.C_below HR0.out HB.out) | (with_reducible refine Kd.C_alloc ?_ _) | (with_reducible refine Kd.C_drewN ?_ _) | (with_reducible refine Kd.C_drew ?_))); (case side2 => exact HC0.out); rintro e w' ⟨rfl, ⟨nd, rfl⟩⟩; refine ⟨_, rfl, ?_⟩))
  go_meet
  case rel => exact ⟨_, (true), tZB, H', ⟨by first | omega | exact Nat.le_refl _⟩, ⟨bZ⟩⟩
 case rest =>
  clear HC3; obtain ⟨kq, x23_2, rfl, HA, HJ2, HB⟩ := hcut
  cases kq with
  | zero => exact absurd HA.out (by simp [impl_StepDown.j0])
  | succ kj2 =>
   have H := HA.out; clear HA; simp only [impl_StepDown.j0] at H
   by_cases c6 : x23_2 = true
   ·subst c6; rw [if_pos rfl] at H; simp only [Option.some.injEq, Prod.mk.injEq] at H; obtain ⟨rfl, rfl⟩ := H; go_wp2; go_ret2; exact ⟨_, tZC, by first | exact Kd.R_nil _ _ _ _ _ | exact Kd.N_nil _ _ _ _ _ | exact Kd.V_nil _ _ _ _ _ | exact Kd.Q_nil _ _ _ _ _ | exact Kd.S_nil _ _ _ _ _, bZ⟩
   replace c6 := Bool.eq_false_iff.mpr c6; subst c6; rw [if_neg Bool.false_ne_true] at H; obtain ⟨y364, hy364⟩ : ∃ y_ : List Int, y_ = (([] : List Int)) := ⟨_, rfl⟩; replace H : (if y364.length + l0.length < 17592186044416 then (impl_StepDown.l0 kj2 (y364 ++ l0) (([] : List ((Int × Bool)))) l1 (l1.length : Int) 0) else (none)) = some (r1, r2) := by first | (rw [hy364]; with_reducible exact H) | (have H2_ := (Option.bind_some _ _).symm.trans H; rw [hy364]; with_reducible exact H2_) | (have H2_ := (Option.bind_some _ _).symm.trans H; with_reducible exact H2_) | with_reducible exact H | (rw [hy364]; exact H) | exact H
   have Ny364 := Aside0.mk hy364; clear hy364
   by_cases c7 : y364.length + l0.length < 17592186044416
   rotate_left
   ·rw [if_neg c7] at H; exact absurd H (by simp)
   rw [if_pos c7] at H; have LMc7 := Aside0.mk c7; clear c7; obtain ⟨y367, hy367⟩ : ∃ y_ : List Int, y_ = (y364 ++ l0) := ⟨_, rfl⟩; replace H : (impl_StepDown.l0 kj2 y367 (([] : List ((Int × Bool)))) l1 (l1.length : Int) 0) = some (r1, r2) := by first | (rw [hy367]; with_reducible exact H) | (have H2_ := (Option.bind_some _ _).symm.trans H; rw [hy367]; with_reducible exact H2_) | (have H2_ := (Option.bind_some _ _).symm.trans H; with_reducible exact H2_) | with_reducible exact H | (rw [hy367]; exact H) | exact H
   have Ny367 := Aside0.mk hy367; clear hy367; obtain ⟨y370, hy370⟩ : ∃ y_ : List ((Int × Bool)), y_ = (([] : List ((Int × Bool)))) := ⟨_, rfl⟩; replace H : (impl_StepDown.l0 kj2 y367 y370 l1 (l1.length : Int) 0) = some (r1, r2) := by first | (rw [hy370]; with_reducible exact H) | (have H2_ := (Option.bind_some _ _).symm.trans H; rw [hy370]; with_reducible exact H2_) | (have H2_ := (Option.bind_some _ _).symm.trans H; with_reducible exact H2_) | with_reducible exact H | (rw [hy370]; exact H) | exact H
   have Ny370 := Aside0.mk hy370; clear hy370; have H' := Aside0.mk H; clear H
   go_wp2_with (first | ((with_reducible refine gate_dst (N := 24) rfl ?_); (try (refine gate_guard (by rfl) ?_; dsimp only)); refine Kd.R_lit (Kd.int .i64) _ 3 ?hg (N := 24) ?hd (xs := ([] : List Int)) (inner := []) (ok := fun _ => True) (okp := fun _ => True) ?hr ?hp (fun _ hk => hk) trivial (Below.refl _ _) (Nat.le_refl _) (by simp) ?_; (case hd => rfl); (case hg => rfl); (case hr => first | (go_simp; done) | (go_simp; rfl)); (case hp => exact (Reps.none _ _)); intro v365 w8 ho9 hb hg_ hnew_; clear hg_ hnew_; (first | rw [← Ny364.out] at ho9 | (simp only [Int.reduceToNat] at ho9; rw [← Ny364.out] at ho9)); have HO366 := aZ (Kd.R_lower ho9 (below_size (lZB HB.out))); replace HB := aZ (below_step (lZB HB.out) hb); clear hb ho9) | ((with_reducible refine gate_builtin (b := .append) (xs := #[.tmp 24, .tmp 25]) rfl ?_); (try (refine gate_guard (by rfl) ?_; dsimp only)); at_builtin; refine Kd.R_append_rows (Kd.int .i64) (w0 := w) w.heap.size rfl (.tmp 24) (.tmp 25) 24 3 (.int .i64 0) 8 rfl Try.underlying24 info3 rfl (by decide) (by omega) v365 y364 l0 _ _ _ (fun _ => True) (fun _ => False) rfl rfl ?aO ?aR (fun _ _ h => h) (fun _ h => h.elim) ?aF ?aB ?aS ?aL ?_; (case aR => repeat (first | exact (Kd.C_below HR0.out HB.out) | (with_reducible refine Kd.C_alloc ?_ _) | (with_reducible refine Kd.C_drewN ?_ _) | (with_reducible refine Kd.C_drew ?_))); (case aB => exact (lZB HB.out)); (case aF => exact (fun _ _ => trivial)); (case aO => exact (lZR HO366.out)); (case aS => exact (below_size (lZB HB.out))); (case aL => have := LMc7.out; omega); intro v368 w10 ho hb hg hat; rw [← Ny367.out] at ho; replace HB := aZ (hb); have HO369 := aZ (ho); clear HO366; clear ho hb hg hat) | ((with_reducible refine gate_dst (N := 27) rfl ?_); (try (refine gate_guard (by rfl) ?_; dsimp only)); refine Kd.Y_make my64 64 rfl rfl rfl ?_; intro v371 w11 ho12 hb; rw [← Ny370.out] at ho12; replace HO369 := aZ (Kd.R_below (lZR HO369.out) hb); have HO372 := aZ (Kd.Y_lower ho12 (below_size (lZB HB.out))); replace HB := aZ (below_step (lZB HB.out) hb); clear hb ho12))
   go_loopg [30] kj2 (fun kq v30 w' => ∃ (x6_2 : List Int) (x7_2 : List ((Int × Bool))) (x30_2 : Int), v30 = .int .i64 x30_2 ∧ Aside0 (impl_StepDown.l0 kq x6_2 x7_2 l1 (l1.length : Int) x30_2 = some (r1, r2)) ∧ Aside0 (kq ≤ kj2) ∧ Aside0 (Kd.R (Kd.int .i64) 3 w' w.heap.size (fun _ => True) v368 x6_2) ∧ Aside0 (Kd.Y my64 64 w' w.heap.size (fun _ => True) v371 x7_2) ∧ Aside0 (Below w.heap.size w w'))
   case atStart => exact ⟨(y367), (y370), (0), tZB, H', ⟨Nat.le_refl _⟩, ⟨lZR HO369.out⟩, ⟨lZY HO372.out⟩, ⟨bZ⟩⟩
   case round =>
    clear H'; (try clear c6 c7); obtain ⟨x6_2, x7_2, x30_2, rfl, HA, HK2, HO_6, HO_7, HB⟩ := hrel
    cases gk with
    | zero => exact absurd HA.out (by simp [impl_StepDown.l0])
    | succ k2 =>
     have H := HA.out; clear HA; simp only [impl_StepDown.l0] at H
     by_cases c13 : x30_2 < (l1.length : Int)
     rotate_left
     ·rw [if_neg c13] at H; have c13b0 := decide_eq_false c13; clear c13; simp only [Option.some.injEq, Prod.mk.injEq] at H; obtain ⟨rfl, rfl⟩ := H; go_wp2; go_ret2; exact ⟨_, tZC, lZR HO_6.out, bZ⟩
     rw [if_pos c13] at H; have c13b0 := decide_eq_true c13; clear c13
     by_cases c14 : 0 ≤ x30_2
     rotate_left
     ·rw [if_neg c14] at H; exact absurd H (by simp)
     rw [if_pos c14] at H; have c14b0 := decide_eq_true c14; clear c14
     by_cases c15 : x30_2 < (l1.length : Int)
     rotate_left
     ·rw [if_neg c15] at H; exact absurd H (by simp)
     rw [if_pos c15] at H; have c15b0 := decide_eq_true c15; clear c15; have HC16 := Aside0.mk H; clear H; have p373 : 0 ≤ (x30_2 : Int) := of_decide_eq_true tZE; have q373 : x30_2 < (l1.length : Int) := of_decide_eq_true tZE; obtain ⟨ad373, A373_1, c373_1, A373_2, c373_2, e373, hx373_0, hx373_1, hx373_2, hl373_1, hi373_1, hl373_2, hi373_2⟩ := at_T31 HR1.out x30_2 p373 q373; have hz373_1 := hx373_1; have hz373_2 := hx373_2
     cases e373
     replace hx373_0 := cZ HB hx373_0; replace hx373_1 := cZ HB hx373_1; replace hx373_2 := cZ HB hx373_2; have HR373_1 := Aside0.mk hi373_1; have HC373_1 := Aside0.mk hl373_1; clear hi373_1 hl373_1; have HR373_2 := Aside0.mk hi373_2; have HC373_2 := Aside0.mk hl373_2; clear hi373_2 hl373_2; replace p373 := eq_true p373; replace q373 := eq_true q373
     go_upto_region 8 with (first | ((with_reducible refine gate_dst (N := 9) rfl ?_); (try (refine gate_guard (by rfl) ?_; dsimp only)); refine box_event tZR (N := 9) tZR (cs := #[.int .i64 0, .slice none 0 0, .slice none 0 0]) (t := 31) tZS ?_; intro gb374 hg w17 hbox hb; replace HO_6 := aZ (Kd.R_below (lZR HO_6.out) hb); replace HO_7 := aZ (Kd.Y_below (lZY HO_7.out) hb); have BK374 := aZ (hbox); have GW374 := aZ ((by rw [hg]; exact (below_size (lZB HB.out)) : w.heap.size ≤ gb374)); have GE374 := GW374; replace HB := aZ (below_step (lZB HB.out) hb); clear hb hbox hg; obtain ⟨hcz18_0, hcz18_1, hcz18_2, hfz18_0, hfz18_1, hfz18_2⟩ := bc3 BK374.out))
     (try simp only [Act.put, sZ1, sZ2, sZ3])
     go_cut [70] (fun v70 wc => ∃ (kq : Nat) (x70_15 : Bool), v70 = .bool x70_15 ∧ Aside0 (impl_StepDown.j2 kq x6_2 x7_2 l1 (l1.length : Int) x30_2 x70_15 ((rd_T31 l1 x30_2).f0) ((rd_T31 l1 x30_2).f1) ((rd_T31 l1 x30_2).f2) = some (r1, r2)) ∧ Aside0 (kq ≤ k2) ∧ Aside0 (Kd.R (Kd.int .i64) 3 wc w.heap.size (fun _ => True) v368 x6_2) ∧ Aside0 (Kd.Y my64 64 wc w.heap.size (fun _ => True) v371 x7_2) ∧ Aside0 (wc.heap[gb374]? = some (.cells #[.int .i64 ((rd_T31 l1 x30_2).f0), (.slice A373_1 ((rd_T31 l1 x30_2).f1).length c373_1), (.slice A373_2 ((rd_T31 l1 x30_2).f2).length c373_2)] 31 (0, 0))) ∧ Aside0 (Below w.heap.size w wc))
     case first =>
      have H := HC16.out; clear HC16
      by_cases c19 : ((rd_T31 l1 x30_2).f0) < 0
      ·rw [if_pos c19] at H; have c19b0 := decide_eq_true c19; clear c19; (first | rw [c19b0] | (simp only [i64_w, i32_w]; rw [c19b0]) | skip); have H' := Aside0.mk H; clear H; obtain ⟨hcz20_0, hcz20_1, hcz20_2, hfz20_0, hfz20_1, hfz20_2⟩ := bc3 BK374.out; go_wp2; go_meet
       case rel => exact ⟨_, (true), tZB, H', ⟨by have := HJ2.out; have := HK2.out; first | omega | exact Nat.le_refl _⟩, ⟨by (with_reducible repeat (first | apply Kd.R_alloc | apply Kd.R_drewN | apply Kd.R_drew)); exact Kd.R_mono (Kd.R_far (p := ⟨gb374, 2, none⟩) (Kd.R_far (p := ⟨gb374, 1, none⟩) (Kd.R_far (p := ⟨gb374, 0, none⟩) (Kd.R_types HO_6.out BK374.out (by decide)) (fun _ hk => hk.2) (.int .i64 ((rd_T31 l1 x30_2).f0))) (fun _ hk => hk.2) (.slice A373_1 ((rd_T31 l1 x30_2).f1).length c373_1)) (fun _ hk => hk.2) (.slice A373_2 ((rd_T31 l1 x30_2).f2).length c373_2)) (fun _ hk => trivial)⟩, ⟨by (with_reducible repeat (first | apply Kd.Y_alloc | apply Kd.Y_drewN | apply Kd.Y_drew)); exact Kd.Y_mono (Kd.Y_far (p := ⟨gb374, 2, none⟩) (Kd.Y_far (p := ⟨gb374, 1, none⟩) (Kd.Y_far (p := ⟨gb374, 0, none⟩) (Kd.Y_types HO_7.out BK374.out (by decide)) (fun _ hk => hk.2) (.int .i64 ((rd_T31 l1 x30_2).f0))) (fun _ hk => hk.2) (.slice A373_1 ((rd_T31 l1 x30_2).f1).length c373_1)) (fun _ hk => hk.2) (.slice A373_2 ((rd_T31 l1 x30_2).f2).length c373_2)) (fun _ hk => trivial)⟩, ⟨by (with_reducible repeat (first | refine blk_drewN ?_ _ | refine blk_drew ?_ | refine blk_alloc ?_ _)); refine blk_put (cs := #[.int .i64 ((rd_T31 l1 x30_2).f0), .slice A373_1 ((rd_T31 l1 x30_2).f1).length c373_1, .slice none 0 0]) ?_ 2 _ rfl; (with_reducible repeat (first | refine blk_drewN ?_ _ | refine blk_drew ?_ | refine blk_alloc ?_ _)); refine blk_put (cs := #[.int .i64 ((rd_T31 l1 x30_2).f0), .slice none 0 0, .slice none 0 0]) ?_ 1 _ rfl; (with_reducible repeat (first | refine blk_drewN ?_ _ | refine blk_drew ?_ | refine blk_alloc ?_ _)); refine blk_put (cs := #[.int .i64 0, .slice none 0 0, .slice none 0 0]) ?_ 0 _ rfl; (with_reducible repeat (first | refine blk_drewN ?_ _ | refine blk_drew ?_ | refine blk_alloc ?_ _)); exact BK374.out⟩, ⟨bZ⟩⟩
      rw [if_neg c19] at H; have c19b0 := decide_eq_false c19; clear c19; (first | rw [c19b0] | (simp only [i64_w, i32_w]; rw [c19b0]) | skip)
      by_cases c21 : ((rd_T31 l1 x30_2).f0) ≥ (x6_2.length : Int)
      ·rw [if_pos c21] at H; have c21b0 : decide ((x6_2.length : Int) ≤ ((rd_T31 l1 x30_2).f0)) = true := decide_eq_true c21; clear c21; have H' := Aside0.mk H; clear H; obtain ⟨hcz22_0, hcz22_1, hcz22_2, hfz22_0, hfz22_1, hfz22_2⟩ := bc3 BK374.out; obtain ⟨Ao23, co23, eo23⟩ := Kd.R_slice HO_6.out; subst eo23; go_wp2; go_meet
       case rel => exact ⟨_, (true), tZB, H', ⟨by have := HJ2.out; have := HK2.out; first | omega | exact Nat.le_refl _⟩, ⟨by (with_reducible repeat (first | apply Kd.R_alloc | apply Kd.R_drewN | apply Kd.R_drew)); exact Kd.R_mono (Kd.R_far (p := ⟨gb374, 2, none⟩) (Kd.R_far (p := ⟨gb374, 1, none⟩) (Kd.R_far (p := ⟨gb374, 0, none⟩) (Kd.R_types HO_6.out BK374.out (by decide)) (fun _ hk => hk.2) (.int .i64 ((rd_T31 l1 x30_2).f0))) (fun _ hk => hk.2) (.slice A373_1 ((rd_T31 l1 x30_2).f1).length c373_1)) (fun _ hk => hk.2) (.slice A373_2 ((rd_T31 l1 x30_2).f2).length c373_2)) (fun _ hk => trivial)⟩, ⟨by (with_reducible repeat (first | apply Kd.Y_alloc | apply Kd.Y_drewN | apply Kd.Y_drew)); exact Kd.Y_mono (Kd.Y_far (p := ⟨gb374, 2, none⟩) (Kd.Y_far (p := ⟨gb374, 1, none⟩) (Kd.Y_far (p := ⟨gb374, 0, none⟩) (Kd.Y_types HO_7.out BK374.out (by decide)) (fun _ hk => hk.2) (.int .i64 ((rd_T31 l1 x30_2).f0))) (fun _ hk => hk.2) (.slice A373_1 ((rd_T31 l1 x30_2).f1).length c373_1)) (fun _ hk => hk.2) (.slice A373_2 ((rd_T31 l1 x30_2).f2).length c373_2)) (fun _ hk => trivial)⟩, ⟨by (with_reducible repeat (first | refine blk_drewN ?_ _ | refine blk_drew ?_ | refine blk_alloc ?_ _)); refine blk_put (cs := #[.int .i64 ((rd_T31 l1 x30_2).f0), .slice A373_1 ((rd_T31 l1 x30_2).f1).length c373_1, .slice none 0 0]) ?_ 2 _ rfl; (with_reducible repeat (first | refine blk_drewN ?_ _ | refine blk_drew ?_ | refine blk_alloc ?_ _)); refine blk_put (cs := #[.int .i64 ((rd_T31 l1 x30_2).f0), .slice none 0 0, .slice none 0 0]) ?_ 1 _ rfl; (with_reducible repeat (first | refine blk_drewN ?_ _ | refine blk_drew ?_ | refine blk_alloc ?_ _)); refine blk_put (cs := #[.int .i64 0, .slice none 0 0, .slice none 0 0]) ?_ 0 _ rfl; (with_reducible repeat (first | refine blk_drewN ?_ _ | refine blk_drew ?_ | refine blk_alloc ?_ _)); exact BK374.out⟩, ⟨bZ⟩⟩
      rw [if_neg c21] at H; have c21b0 : decide ((x6_2.length : Int) ≤ ((rd_T31 l1 x30_2).f0)) = false := decide_eq_false c21; clear c21
      by_cases c24 : -9223372036854775808 ≤ ((rd_T31 l1 x30_2).f0)
      rotate_left
      ·rw [if_neg c24] at H; exact absurd H (by simp)
      rw [if_pos c24] at H; have c24b0 := eq_true c24; have c24b1 := decide_eq_true c24; clear c24
      by_cases c25 : ((rd_T31 l1 x30_2).f0) ≤ 9223372036854775807
      rotate_left
      ·rw [if_neg c25] at H; exact absurd H (by simp)
      rw [if_pos c25] at H; have c25b0 := eq_true c25; have c25b1 := decide_eq_true c25
      try have c25b2 := eq_false (Nat.not_lt.2 c25)
      clear c25; obtain ⟨y375, hy375⟩ : ∃ y_ : Bool, y_ = (mget false x7_2 ((rd_T31 l1 x30_2).f0)) := ⟨_, rfl⟩
      replace H : (if y375 = true then (impl_StepDown.j2 k2 x6_2 x7_2 l1 (l1.length : Int) x30_2 true ((rd_T31 l1 x30_2).f0) ((rd_T31 l1 x30_2).f1) ((rd_T31 l1 x30_2).f2)) else (if (((rd_T31 l1 x30_2).f1).length : Int) < 1 then (impl_StepDown.j2 k2 x6_2 x7_2 l1 (l1.length : Int) x30_2 true ((rd_T31 l1 x30_2).f0) ((rd_T31 l1 x30_2).f1) ((rd_T31 l1 x30_2).f2)) else (if (((rd_T31 l1 x30_2).f1).length : Int) > 200 then (impl_StepDown.j2 k2 x6_2 x7_2 l1 (l1.length : Int) x30_2 true ((rd_T31 l1 x30_2).f0) ((rd_T31 l1 x30_2).f1) ((rd_T31 l1 x30_2).f2)) else (impl_StepDown.j2 k2 x6_2 x7_2 l1 (l1.length : Int) x30_2 ((((rd_T31 l1 x30_2).f2).length : Int) != (((rd_T31 l1 x30_2).f1).length : Int)) ((rd_T31 l1 x30_2).f0) ((rd_T31 l1 x30_2).f1) ((rd_T31 l1 x30_2).f2))))) = some (r1, r2) := by first | (rw [hy375]; with_reducible exact H) | (have H2_ := (Option.bind_some _ _).symm.trans H; rw [hy375]; with_reducible exact H2_) | (have H2_ := (Option.bind_some _ _).symm.trans H; with_reducible exact H2_) | with_reducible exact H | (rw [hy375]; exact H) | exact H
      have Ny375 := Aside0.mk hy375; clear hy375
      by_cases c26 : y375 = true
      ·subst c26; rw [if_pos rfl] at H; have H' := Aside0.mk H; clear H; obtain ⟨hcz27_0, hcz27_1, hcz27_2, hfz27_0, hfz27_1, hfz27_2⟩ := bc3 BK374.out; obtain ⟨Ao28, co28, eo28⟩ := Kd.R_slice HO_6.out; subst eo28; have hcv29 := Kd.Y_get (e := 64) ((Kd.Y_far (p := ⟨gb374, 2, none⟩) (Kd.Y_far (p := ⟨gb374, 1, none⟩) (Kd.Y_far (p := ⟨gb374, 0, none⟩) (Kd.Y_types HO_7.out BK374.out (by decide)) (fun _ hk => hk.2) (.int .i64 ((rd_T31 l1 x30_2).f0))) (fun _ hk => hk.2) (.slice A373_1 ((rd_T31 l1 x30_2).f1).length c373_1)) (fun _ hk => hk.2) (.slice A373_2 ((rd_T31 l1 x30_2).f2).length c373_2))) ((rd_T31 l1 x30_2).f0) (show okI _ from ⟨((of_decide_eq_true tZE) : -9223372036854775808 ≤ ((rd_T31 l1 x30_2).f0)), ((of_decide_eq_true tZE) : ((rd_T31 l1 x30_2).f0) ≤ 9223372036854775807)⟩)
       have hcv29d := fun n_ => Kd.Y_get (e := 64) (Kd.Y_drewN ((Kd.Y_far (p := ⟨gb374, 2, none⟩) (Kd.Y_far (p := ⟨gb374, 1, none⟩) (Kd.Y_far (p := ⟨gb374, 0, none⟩) (Kd.Y_types HO_7.out BK374.out (by decide)) (fun _ hk => hk.2) (.int .i64 ((rd_T31 l1 x30_2).f0))) (fun _ hk => hk.2) (.slice A373_1 ((rd_T31 l1 x30_2).f1).length c373_1)) (fun _ hk => hk.2) (.slice A373_2 ((rd_T31 l1 x30_2).f2).length c373_2))) n_) ((rd_T31 l1 x30_2).f0) (show okI _ from ⟨((of_decide_eq_true tZE) : -9223372036854775808 ≤ ((rd_T31 l1 x30_2).f0)), ((of_decide_eq_true tZE) : ((rd_T31 l1 x30_2).f0) ≤ 9223372036854775807)⟩)
       have hcv29e := fun m_ n_ => Kd.Y_get (e := 64) (Kd.Y_drewN (Kd.Y_drewN ((Kd.Y_far (p := ⟨gb374, 2, none⟩) (Kd.Y_far (p := ⟨gb374, 1, none⟩) (Kd.Y_far (p := ⟨gb374, 0, none⟩) (Kd.Y_types HO_7.out BK374.out (by decide)) (fun _ hk => hk.2) (.int .i64 ((rd_T31 l1 x30_2).f0))) (fun _ hk => hk.2) (.slice A373_1 ((rd_T31 l1 x30_2).f1).length c373_1)) (fun _ hk => hk.2) (.slice A373_2 ((rd_T31 l1 x30_2).f2).length c373_2))) m_) n_) ((rd_T31 l1 x30_2).f0) (show okI _ from ⟨((of_decide_eq_true tZE) : -9223372036854775808 ≤ ((rd_T31 l1 x30_2).f0)), ((of_decide_eq_true tZE) : ((rd_T31 l1 x30_2).f0) ≤ 9223372036854775807)⟩)
       simp only [my64, mkSB, mkSI, mkIB, mkII, mkPI, encPI] at hcv29 hcv29d hcv29e; rw [← Ny375.out] at hcv29 hcv29d hcv29e; go_wp2; go_meet
       case rel => exact ⟨_, (true), tZB, H', ⟨by have := HJ2.out; have := HK2.out; first | omega | exact Nat.le_refl _⟩, ⟨by (with_reducible repeat (first | apply Kd.R_alloc | apply Kd.R_drewN | apply Kd.R_drew)); exact Kd.R_mono (Kd.R_far (p := ⟨gb374, 2, none⟩) (Kd.R_far (p := ⟨gb374, 1, none⟩) (Kd.R_far (p := ⟨gb374, 0, none⟩) (Kd.R_types HO_6.out BK374.out (by decide)) (fun _ hk => hk.2) (.int .i64 ((rd_T31 l1 x30_2).f0))) (fun _ hk => hk.2) (.slice A373_1 ((rd_T31 l1 x30_2).f1).length c373_1)) (fun _ hk => hk.2) (.slice A373_2 ((rd_T31 l1 x30_2).f2).length c373_2)) (fun _ hk => trivial)⟩, ⟨by (with_reducible repeat (first | apply Kd.Y_alloc | apply Kd.Y_drewN | apply Kd.Y_drew)); exact Kd.Y_mono (Kd.Y_far (p := ⟨gb374, 2, none⟩) (Kd.Y_far (p := ⟨gb374, 1, none⟩) (Kd.Y_far (p := ⟨gb374, 0, none⟩) (Kd.Y_types HO_7.out BK374.out (by decide)) (fun _ hk => hk.2) (.int .i64 ((rd_T31 l1 x30_2).f0))) (fun _ hk => hk.2) (.slice A373_1 ((rd_T31 l1 x30_2).f1).length c373_1)) (fun _ hk => hk.2) (.slice A373_2 ((rd_T31 l1 x30_2).f2).length c373_2)) (fun _ hk => trivial)⟩, ⟨by (with_reducible repeat (first | refine blk_drewN ?_ _ | refine blk_drew ?_ | refine blk_alloc ?_ _)); refine blk_put (cs := #[.int .i64 ((rd_T31 l1 x30_2).f0), .slice A373_1 ((rd_T31 l1 x30_2).f1).length c373_1, .slice none 0 0]) ?_ 2 _ rfl; (with_reducible repeat (first | refine blk_drewN ?_ _ | refine blk_drew ?_ | refine blk_alloc ?_ _)); refine blk_put (cs := #[.int .i64 ((rd_T31 l1 x30_2).f0), .slice none 0 0, .slice none 0 0]) ?_ 1 _ rfl; (with_reducible repeat (first | refine blk_drewN ?_ _ | refine blk_drew ?_ | refine blk_alloc ?_ _)); refine blk_put (cs := #[.int .i64 0, .slice none 0 0, .slice none 0 0]) ?_ 0 _ rfl; (with_reducible repeat (first | refine blk_drewN ?_ _ | refine blk_drew ?_ | refine blk_alloc ?_ _)); exact BK374.out⟩, ⟨bZ⟩⟩
      replace c26 := Bool.eq_false_iff.mpr c26; subst c26; rw [if_neg Bool.false_ne_true] at H
      by_cases c30 : (((rd_T31 l1 x30_2).f1).length : Int) < 1
      ·rw [if_pos c30] at H; have c30b0 := decide_eq_true c30; have c30b1 : decide (((rd_T31 l1 x30_2).f1).length < 1) = true := decide_eq_true (by omega); clear c30; have H' := Aside0.mk H; clear H; obtain ⟨hcz31_0, hcz31_1, hcz31_2, hfz31_0, hfz31_1, hfz31_2⟩ := bc3 BK374.out; obtain ⟨Ao32, co32, eo32⟩ := Kd.R_slice HO_6.out; subst eo32
       have hcv33 := Kd.Y_get (e := 64) ((Kd.Y_far (p := ⟨gb374, 2, none⟩) (Kd.Y_far (p := ⟨gb374, 1, none⟩) (Kd.Y_far (p := ⟨gb374, 0, none⟩) (Kd.Y_types HO_7.out BK374.out (by decide)) (fun _ hk => hk.2) (.int .i64 ((rd_T31 l1 x30_2).f0))) (fun _ hk => hk.2) (.slice A373_1 ((rd_T31 l1 x30_2).f1).length c373_1)) (fun _ hk => hk.2) (.slice A373_2 ((rd_T31 l1 x30_2).f2).length c373_2))) ((rd_T31 l1 x30_2).f0) (show okI _ from ⟨((of_decide_eq_true tZE) : -9223372036854775808 ≤ ((rd_T31 l1 x30_2).f0)), ((of_decide_eq_true tZE) : ((rd_T31 l1 x30_2).f0) ≤ 9223372036854775807)⟩)
       have hcv33d := fun n_ => Kd.Y_get (e := 64) (Kd.Y_drewN ((Kd.Y_far (p := ⟨gb374, 2, none⟩) (Kd.Y_far (p := ⟨gb374, 1, none⟩) (Kd.Y_far (p := ⟨gb374, 0, none⟩) (Kd.Y_types HO_7.out BK374.out (by decide)) (fun _ hk => hk.2) (.int .i64 ((rd_T31 l1 x30_2).f0))) (fun _ hk => hk.2) (.slice A373_1 ((rd_T31 l1 x30_2).f1).length c373_1)) (fun _ hk => hk.2) (.slice A373_2 ((rd_T31 l1 x30_2).f2).length c373_2))) n_) ((rd_T31 l1 x30_2).f0) (show okI _ from ⟨((of_decide_eq_true tZE) : -9223372036854775808 ≤ ((rd_T31 l1 x30_2).f0)), ((of_decide_eq_true tZE) : ((rd_T31 l1 x30_2).f0) ≤ 9223372036854775807)⟩)
       have hcv33e := fun m_ n_ => Kd.Y_get (e := 64) (Kd.Y_drewN (Kd.Y_drewN ((Kd.Y_far (p := ⟨gb374, 2, none⟩) (Kd.Y_far (p := ⟨gb374, 1, none⟩) (Kd.Y_far (p := ⟨gb374, 0, none⟩) (Kd.Y_types HO_7.out BK374.out (by decide)) (fun _ hk => hk.2) (.int .i64 ((rd_T31 l1 x30_2).f0))) (fun _ hk => hk.2) (.slice A373_1 ((rd_T31 l1 x30_2).f1).length c373_1)) (fun _ hk => hk.2) (.slice A373_2 ((rd_T31 l1 x30_2).f2).length c373_2))) m_) n_) ((rd_T31 l1 x30_2).f0) (show okI _ from ⟨((of_decide_eq_true tZE) : -9223372036854775808 ≤ ((rd_T31 l1 x30_2).f0)), ((of_decide_eq_true tZE) : ((rd_T31 l1 x30_2).f0) ≤ 9223372036854775807)⟩)
       simp only [my64, mkSB, mkSI, mkIB, mkII, mkPI, encPI] at hcv33 hcv33d hcv33e; rw [← Ny375.out] at hcv33 hcv33d hcv33e; go_wp2; go_meet
       case rel => exact ⟨_, (true), tZB, H', ⟨by have := HJ2.out; have := HK2.out; first | omega | exact Nat.le_refl _⟩, ⟨by (with_reducible repeat (first | apply Kd.R_alloc | apply Kd.R_drewN | apply Kd.R_drew)); exact Kd.R_mono (Kd.R_far (p := ⟨gb374, 2, none⟩) (Kd.R_far (p := ⟨gb374, 1, none⟩) (Kd.R_far (p := ⟨gb374, 0, none⟩) (Kd.R_types HO_6.out BK374.out (by decide)) (fun _ hk => hk.2) (.int .i64 ((rd_T31 l1 x30_2).f0))) (fun _ hk => hk.2) (.slice A373_1 ((rd_T31 l1 x30_2).f1).length c373_1)) (fun _ hk => hk.2) (.slice A373_2 ((rd_T31 l1 x30_2).f2).length c373_2)) (fun _ hk => trivial)⟩, ⟨by (with_reducible repeat (first | apply Kd.Y_alloc | apply Kd.Y_drewN | apply Kd.Y_drew)); exact Kd.Y_mono (Kd.Y_far (p := ⟨gb374, 2, none⟩) (Kd.Y_far (p := ⟨gb374, 1, none⟩) (Kd.Y_far (p := ⟨gb374, 0, none⟩) (Kd.Y_types HO_7.out BK374.out (by decide)) (fun _ hk => hk.2) (.int .i64 ((rd_T31 l1 x30_2).f0))) (fun _ hk => hk.2) (.slice A373_1 ((rd_T31 l1 x30_2).f1).length c373_1)) (fun _ hk => hk.2) (.slice A373_2 ((rd_T31 l1 x30_2).f2).length c373_2)) (fun _ hk => trivial)⟩, ⟨by (with_reducible repeat (first | refine blk_drewN ?_ _ | refine blk_drew ?_ | refine blk_alloc ?_ _)); refine blk_put (cs := #[.int .i64 ((rd_T31 l1 x30_2).f0), .slice A373_1 ((rd_T31 l1 x30_2).f1).length c373_1, .slice none 0 0]) ?_ 2 _ rfl; (with_reducible repeat (first | refine blk_drewN ?_ _ | refine blk_drew ?_ | refine blk_alloc ?_ _)); refine blk_put (cs := #[.int .i64 ((rd_T31 l1 x30_2).f0), .slice none 0 0, .slice none 0 0]) ?_ 1 _ rfl; (with_reducible repeat (first | refine blk_drewN ?_ _ | refine blk_drew ?_ | refine blk_alloc ?_ _)); refine blk_put (cs := #[.int .i64 0, .slice none 0 0, .slice none 0 0]) ?_ 0 _ rfl; (with_reducible repeat (first | refine blk_drewN ?_ _ | refine blk_drew ?_ | refine blk_alloc ?_ _)); exact BK374.out⟩, ⟨bZ⟩⟩
      rw [if_neg c30] at H; have c30b0 := decide_eq_false c30; have c30b1 : decide (((rd_T31 l1 x30_2).f1).length < 1) = false := decide_eq_false (by omega); clear c30
      by_cases c34 : (((rd_T31 l1 x30_2).f1).length : Int) > 200
      ·rw [if_pos c34] at H; have c34b0 : decide (200 < (((rd_T31 l1 x30_2).f1).length : Int)) = true := decide_eq_true c34; have c34b1 : decide (200 < ((rd_T31 l1 x30_2).f1).length) = true := decide_eq_true (by omega); clear c34; have H' := Aside0.mk H; clear H; obtain ⟨hcz35_0, hcz35_1, hcz35_2, hfz35_0, hfz35_1, hfz35_2⟩ := bc3 BK374.out; obtain ⟨Ao36, co36, eo36⟩ := Kd.R_slice HO_6.out; subst eo36
       have hcv37 := Kd.Y_get (e := 64) ((Kd.Y_far (p := ⟨gb374, 2, none⟩) (Kd.Y_far (p := ⟨gb374, 1, none⟩) (Kd.Y_far (p := ⟨gb374, 0, none⟩) (Kd.Y_types HO_7.out BK374.out (by decide)) (fun _ hk => hk.2) (.int .i64 ((rd_T31 l1 x30_2).f0))) (fun _ hk => hk.2) (.slice A373_1 ((rd_T31 l1 x30_2).f1).length c373_1)) (fun _ hk => hk.2) (.slice A373_2 ((rd_T31 l1 x30_2).f2).length c373_2))) ((rd_T31 l1 x30_2).f0) (show okI _ from ⟨((of_decide_eq_true tZE) : -9223372036854775808 ≤ ((rd_T31 l1 x30_2).f0)), ((of_decide_eq_true tZE) : ((rd_T31 l1 x30_2).f0) ≤ 9223372036854775807)⟩)
       have hcv37d := fun n_ => Kd.Y_get (e := 64) (Kd.Y_drewN ((Kd.Y_far (p := ⟨gb374, 2, none⟩) (Kd.Y_far (p := ⟨gb374, 1, none⟩) (Kd.Y_far (p := ⟨gb374, 0, none⟩) (Kd.Y_types HO_7.out BK374.out (by decide)) (fun _ hk => hk.2) (.int .i64 ((rd_T31 l1 x30_2).f0))) (fun _ hk => hk.2) (.slice A373_1 ((rd_T31 l1 x30_2).f1).length c373_1)) (fun _ hk => hk.2) (.slice A373_2 ((rd_T31 l1 x30_2).f2).length c373_2))) n_) ((rd_T31 l1 x30_2).f0) (show okI _ from ⟨((of_decide_eq_true tZE) : -9223372036854775808 ≤ ((rd_T31 l1 x30_2).f0)), ((of_decide_eq_true tZE) : ((rd_T31 l1 x30_2).f0) ≤ 9223372036854775807)⟩)
       have hcv37e := fun m_ n_ => Kd.Y_get (e := 64) (Kd.Y_drewN (Kd.Y_drewN ((Kd.Y_far (p := ⟨gb374, 2, none⟩) (Kd.Y_far (p := ⟨gb374, 1, none⟩) (Kd.Y_far (p := ⟨gb374, 0, none⟩) (Kd.Y_types HO_7.out BK374.out (by decide)) (fun _ hk => hk.2) (.int .i64 ((rd_T31 l1 x30_2).f0))) (fun _ hk => hk.2) (.slice A373_1 ((rd_T31 l1 x30_2).f1).length c373_1)) (fun _ hk => hk.2) (.slice A373_2 ((rd_T31 l1 x30_2).f2).length c373_2))) m_) n_) ((rd_T31 l1 x30_2).f0) (show okI _ from ⟨((of_decide_eq_true tZE) : -9223372036854775808 ≤ ((rd_T31 l1 x30_2).f0)), ((of_decide_eq_true tZE) : ((rd_T31 l1 x30_2).f0) ≤ 9223372036854775807)⟩)
       simp only [my64, mkSB, mkSI, mkIB, mkII, mkPI, encPI] at hcv37 hcv37d hcv37e; rw [← Ny375.out] at hcv37 hcv37d hcv37e; go_wp2; go_meet
       case rel => exact ⟨_, (true), tZB, H', ⟨by have := HJ2.out; have := HK2.out; first | omega | exact Nat.le_refl _⟩, ⟨by (with_reducible repeat (first | apply Kd.R_alloc | apply Kd.R_drewN | apply Kd.R_drew)); exact Kd.R_mono (Kd.R_far (p := ⟨gb374, 2, none⟩) (Kd.R_far (p := ⟨gb374, 1, none⟩) (Kd.R_far (p := ⟨gb374, 0, none⟩) (Kd.R_types HO_6.out BK374.out (by decide)) (fun _ hk => hk.2) (.int .i64 ((rd_T31 l1 x30_2).f0))) (fun _ hk => hk.2) (.slice A373_1 ((rd_T31 l1 x30_2).f1).length c373_1)) (fun _ hk => hk.2) (.slice A373_2 ((rd_T31 l1 x30_2).f2).length c373_2)) (fun _ hk => trivial)⟩, ⟨by (with_reducible repeat (first | apply Kd.Y_alloc | apply Kd.Y_drewN | apply Kd.Y_drew)); exact Kd.Y_mono (Kd.Y_far (p := ⟨gb374, 2, none⟩) (Kd.Y_far (p := ⟨gb374, 1, none⟩) (Kd.Y_far (p := ⟨gb374, 0, none⟩) (Kd.Y_types HO_7.out BK374.out (by decide)) (fun _ hk => hk.2) (.int .i64 ((rd_T31 l1 x30_2).f0))) (fun _ hk => hk.2) (.slice A373_1 ((rd_T31 l1 x30_2).f1).length c373_1)) (fun _ hk => hk.2) (.slice A373_2 ((rd_T31 l1 x30_2).f2).length c373_2)) (fun _ hk => trivial)⟩, ⟨by (with_reducible repeat (first | refine blk_drewN ?_ _ | refine blk_drew ?_ | refine blk_alloc ?_ _)); refine blk_put (cs := #[.int .i64 ((rd_T31 l1 x30_2).f0), .slice A373_1 ((rd_T31 l1 x30_2).f1).length c373_1, .slice none 0 0]) ?_ 2 _ rfl; (with_reducible repeat (first | refine blk_drewN ?_ _ | refine blk_drew ?_ | refine blk_alloc ?_ _)); refine blk_put (cs := #[.int .i64 ((rd_T31 l1 x30_2).f0), .slice none 0 0, .slice none 0 0]) ?_ 1 _ rfl; (with_reducible repeat (first | refine blk_drewN ?_ _ | refine blk_drew ?_ | refine blk_alloc ?_ _)); refine blk_put (cs := #[.int .i64 0, .slice none 0 0, .slice none 0 0]) ?_ 0 _ rfl; (with_reducible repeat (first | refine blk_drewN ?_ _ | refine blk_drew ?_ | refine blk_alloc ?_ _)); exact BK374.out⟩, ⟨bZ⟩⟩
      rw [if_neg c34] at H; have c34b0 : decide (200 < (((rd_T31 l1 x30_2).f1).length : Int)) = false := decide_eq_false c34; have c34b1 : decide (200 < ((rd_T31 l1 x30_2).f1).length) = false := decide_eq_false (by omega); clear c34; have H' := Aside0.mk H; clear H; obtain ⟨hcz38_0, hcz38_1, hcz38_2, hfz38_0, hfz38_1, hfz38_2⟩ := bc3 BK374.out; obtain ⟨Ao39, co39, eo39⟩ := Kd.R_slice HO_6.out; subst eo39
      have hcv40 := Kd.Y_get (e := 64) ((Kd.Y_far (p := ⟨gb374, 2, none⟩) (Kd.Y_far (p := ⟨gb374, 1, none⟩) (Kd.Y_far (p := ⟨gb374, 0, none⟩) (Kd.Y_types HO_7.out BK374.out (by decide)) (fun _ hk => hk.2) (.int .i64 ((rd_T31 l1 x30_2).f0))) (fun _ hk => hk.2) (.slice A373_1 ((rd_T31 l1 x30_2).f1).length c373_1)) (fun _ hk => hk.2) (.slice A373_2 ((rd_T31 l1 x30_2).f2).length c373_2))) ((rd_T31 l1 x30_2).f0) (show okI _ from ⟨((of_decide_eq_true tZE) : -9223372036854775808 ≤ ((rd_T31 l1 x30_2).f0)), ((of_decide_eq_true tZE) : ((rd_T31 l1 x30_2).f0) ≤ 9223372036854775807)⟩)
      have hcv40d := fun n_ => Kd.Y_get (e := 64) (Kd.Y_drewN ((Kd.Y_far (p := ⟨gb374, 2, none⟩) (Kd.Y_far (p := ⟨gb374, 1, none⟩) (Kd.Y_far (p := ⟨gb374, 0, none⟩) (Kd.Y_types HO_7.out BK374.out (by decide)) (fun _ hk => hk.2) (.int .i64 ((rd_T31 l1 x30_2).f0))) (fun _ hk => hk.2) (.slice A373_1 ((rd_T31 l1 x30_2).f1).length c373_1)) (fun _ hk => hk.2) (.slice A373_2 ((rd_T31 l1 x30_2).f2).length c373_2))) n_) ((rd_T31 l1 x30_2).f0) (show okI _ from ⟨((of_decide_eq_true tZE) : -9223372036854775808 ≤ ((rd_T31 l1 x30_2).f0)), ((of_decide_eq_true tZE) : ((rd_T31 l1 x30_2).f0) ≤ 9223372036854775807)⟩)
      have hcv40e := fun m_ n_ => Kd.Y_get (e := 64) (Kd.Y_drewN (Kd.Y_drewN ((Kd.Y_far (p := ⟨gb374, 2, none⟩) (Kd.Y_far (p := ⟨gb374, 1, none⟩) (Kd.Y_far (p := ⟨gb374, 0, none⟩) (Kd.Y_types HO_7.out BK374.out (by decide)) (fun _ hk => hk.2) (.int .i64 ((rd_T31 l1 x30_2).f0))) (fun _ hk => hk.2) (.slice A373_1 ((rd_T31 l1 x30_2).f1).length c373_1)) (fun _ hk => hk.2) (.slice A373_2 ((rd_T31 l1 x30_2).f2).length c373_2))) m_) n_) ((rd_T31 l1 x30_2).f0) (show okI _ from ⟨((of_decide_eq_true tZE) : -9223372036854775808 ≤ ((rd_T31 l1 x30_2).f0)), ((of_decide_eq_true tZE) : ((rd_T31 l1 x30_2).f0) ≤ 9223372036854775807)⟩)
      simp only [my64, mkSB, mkSI, mkIB, mkII, mkPI, encPI] at hcv40 hcv40d hcv40e; rw [← Ny375.out] at hcv40 hcv40d hcv40e; go_wp2; go_meet
      case rel => exact ⟨_, (((((rd_T31 l1 x30_2).f2).length : Int) != (((rd_T31 l1 x30_2).f1).length : Int))), tZB, H', ⟨by have := HJ2.out; have := HK2.out; first | omega | exact Nat.le_refl _⟩, ⟨by (with_reducible repeat (first | apply Kd.R_alloc | apply Kd.R_drewN | apply Kd.R_drew)); exact Kd.R_mono (Kd.R_far (p := ⟨gb374, 2, none⟩) (Kd.R_far (p := ⟨gb374, 1, none⟩) (Kd.R_far (p := ⟨gb374, 0, none⟩) (Kd.R_types HO_6.out BK374.out (by decide)) (fun _ hk => hk.2) (.int .i64 ((rd_T31 l1 x30_2).f0))) (fun _ hk => hk.2) (.slice A373_1 ((rd_T31 l1 x30_2).f1).length c373_1)) (fun _ hk => hk.2) (.slice A373_2 ((rd_T31 l1 x30_2).f2).length c373_2)) (fun _ hk => trivial)⟩, ⟨by (with_reducible repeat (first | apply Kd.Y_alloc | apply Kd.Y_drewN | apply Kd.Y_drew)); exact Kd.Y_mono (Kd.Y_far (p := ⟨gb374, 2, none⟩) (Kd.Y_far (p := ⟨gb374, 1, none⟩) (Kd.Y_far (p := ⟨gb374, 0, none⟩) (Kd.Y_types HO_7.out BK374.out (by decide)) (fun _ hk => hk.2) (.int .i64 ((rd_T31 l1 x30_2).f0))) (fun _ hk => hk.2) (.slice A373_1 ((rd_T31 l1 x30_2).f1).length c373_1)) (fun _ hk => hk.2) (.slice A373_2 ((rd_T31 l1 x30_2).f2).length c373_2)) (fun _ hk => trivial)⟩, ⟨by (with_reducible repeat (first | refine blk_drewN ?_ _ | refine blk_drew ?_ | refine blk_alloc ?_ _)); refine blk_put (cs := #[.int .i64 ((rd_T31 l1 x30_2).f0), .slice A373_1 ((rd_T31 l1 x30_2).f1).length c373_1, .slice none 0 0]) ?_ 2 _ rfl; (with_reducible repeat (first | refine blk_drewN ?_ _ | refine blk_drew ?_ | refine blk_alloc ?_ _)); refine blk_put (cs := #[.int .i64 ((rd_T31 l1 x30_2).f0), .slice none 0 0, .slice none 0 0]) ?_ 1 _ rfl; (with_reducible repeat (first | refine blk_drewN ?_ _ | refine blk_drew ?_ | refine blk_alloc ?_ _)); refine blk_put (cs := #[.int .i64 0, .slice none 0 0, .slice none 0 0]) ?_ 0 _ rfl; (with_reducible repeat (first | refine blk_drewN ?_ _ | refine blk_drew ?_ | refine blk_alloc ?_ _)); exact BK374.out⟩, ⟨bZ⟩⟩
     case rest =>
      clear HC16; (try clear c6 c7 c13 c13b0 c14 c14b0 c15 c15b0 hcz18_0 hcz18_1 hcz18_2 hfz18_0 hfz18_1 hfz18_2 hx373_0 hx373_1 hx373_2 p373 q373); obtain ⟨kq, x70_15, rfl, HA, HJ15, HO_6, HO_7, BK374, HB⟩ := hcut
      cases kq with
      | zero => exact absurd HA.out (by simp [impl_StepDown.j2])
      | succ kj15 =>
       have H := HA.out; clear HA; simp only [impl_StepDown.j2] at H
       by_cases c41 : x70_15 = true
       ·subst c41; rw [if_pos rfl] at H; simp only [Option.some.injEq, Prod.mk.injEq] at H; obtain ⟨rfl, rfl⟩ := H; go_wp2; go_ret2; exact ⟨_, tZC, by first | exact Kd.R_nil _ _ _ _ _ | exact Kd.N_nil _ _ _ _ _ | exact Kd.V_nil _ _ _ _ _ | exact Kd.Q_nil _ _ _ _ _ | exact Kd.S_nil _ _ _ _ _, bZ⟩
       replace c41 := Bool.eq_false_iff.mpr c41; subst c41; rw [if_neg Bool.false_ne_true] at H
       by_cases c42 : -9223372036854775808 ≤ ((rd_T31 l1 x30_2).f0)
       rotate_left
       ·rw [if_neg c42] at H; exact absurd H (by simp)
       rw [if_pos c42] at H; have c42b0 := eq_true c42; have c42b1 := decide_eq_true c42; clear c42
       by_cases c43 : ((rd_T31 l1 x30_2).f0) ≤ 9223372036854775807
       rotate_left
       ·rw [if_neg c43] at H; exact absurd H (by simp)
       rw [if_pos c43] at H; have c43b0 := eq_true c43; have c43b1 := decide_eq_true c43
       try have c43b2 := eq_false (Nat.not_lt.2 c43)
       clear c43
       by_cases c44 : x7_2.length < 140737488355328
       rotate_left
       ·rw [if_neg c44] at H; exact absurd H (by simp)
       rw [if_pos c44] at H; have LMc44 := Aside0.mk c44; clear c44; obtain ⟨y376, hy376⟩ : ∃ y_ : List ((Int × Bool)), y_ = ((((rd_T31 l1 x30_2).f0), true) :: x7_2) := ⟨_, rfl⟩; replace H : (impl_StepDown.l1 kj15 x6_2 y376 (([] : List ((Int × Bool)))) l1 (l1.length : Int) x30_2 ((rd_T31 l1 x30_2).f1) (((rd_T31 l1 x30_2).f1).length : Int) 0 ((rd_T31 l1 x30_2).f0) ((rd_T31 l1 x30_2).f1) ((rd_T31 l1 x30_2).f2)) = some (r1, r2) := by first | (rw [hy376]; with_reducible exact H) | (have H2_ := (Option.bind_some _ _).symm.trans H; rw [hy376]; with_reducible exact H2_) | (have H2_ := (Option.bind_some _ _).symm.trans H; with_reducible exact H2_) | with_reducible exact H | (rw [hy376]; exact H) | exact H
       have Ny376 := Aside0.mk hy376; clear hy376; obtain ⟨y378, hy378⟩ : ∃ y_ : List ((Int × Bool)), y_ = (([] : List ((Int × Bool)))) := ⟨_, rfl⟩; replace H : (impl_StepDown.l1 kj15 x6_2 y376 y378 l1 (l1.length : Int) x30_2 ((rd_T31 l1 x30_2).f1) (((rd_T31 l1 x30_2).f1).length : Int) 0 ((rd_T31 l1 x30_2).f0) ((rd_T31 l1 x30_2).f1) ((rd_T31 l1 x30_2).f2)) = some (r1, r2) := by first | (rw [hy378]; with_reducible exact H) | (have H2_ := (Option.bind_some _ _).symm.trans H; rw [hy378]; with_reducible exact H2_) | (have H2_ := (Option.bind_some _ _).symm.trans H; with_reducible exact H2_) | with_reducible exact H | (rw [hy378]; exact H) | exact H
       have Ny378 := Aside0.mk hy378; clear hy378; have H' := Aside0.mk H; clear H; obtain ⟨hcz45_0, hcz45_1, hcz45_2, hfz45_0, hfz45_1, hfz45_2⟩ := bc3 BK374.out
       go_wp2_with (first | ((with_reducible refine Kd.gate_mupd (t := 64) (p := (.tmp 71)) (x := (.tmp 73)) (y := (.const (.bool true))) rfl ?_); refine Kd.Y_put my64 (t := 64) (base := w.heap.size) (ok := (fun _ => True)) rfl rfl (.tmp 71) (.tmp 73) (.const (.bool true)) rfl rfl v371 x7_2 ((rd_T31 l1 x30_2).f0) true rfl (by first | rfl | (go_simp; done) | (go_simp; rfl)) (by first | rfl | (go_simp; done) | (go_simp; rfl)) ?aO (show okI _ from ⟨((of_decide_eq_true tZE) : -9223372036854775808 ≤ ((rd_T31 l1 x30_2).f0)), ((of_decide_eq_true tZE) : ((rd_T31 l1 x30_2).f0) ≤ 9223372036854775807)⟩) trivial LMc44.out ?_; (case aO => exact (lZY HO_7.out)); intro w46 ho hg; rw [← Ny376.out] at ho; replace HO_6 := aZ (Kd.R_turn (e := 64) (lZR HO_6.out) (lZY HO_7.out) hg); replace BK374 := aZ (Kd.blk_turn (e := 64) (bkZ BK374.out) (lZY HO_7.out) hg); replace HB := aZ (Kd.below_turn (e := 64) (lZY HO_7.out) bZ (Nat.le_refl _) hg); have HO377 := aZ (ho); clear HO_7; clear ho hg) | ((with_reducible refine gate_dst (N := 74) rfl ?_); (try (refine gate_guard (by rfl) ?_; dsimp only)); refine Kd.Y_make my64 64 rfl rfl rfl ?_; intro v379 w47 ho48 hb; rw [← Ny378.out] at ho48; replace HO_6 := aZ (Kd.R_below (lZR HO_6.out) hb); have HO380 := aZ (Kd.Y_lower (Kd.Y_new' ho48 (Kd.Y_lt (lZY HO377.out))) (below_size bZ)); replace HO377 := aZ (Kd.Y_elder' (lZY HO377.out) (Kd.Y_base ho48) hb); replace BK374 := aZ (blk_below (bkZ BK374.out) hb); replace HB := aZ (below_step bZ hb); clear hb ho48; obtain ⟨hcz49_0, hcz49_1, hcz49_2, hfz49_0, hfz49_1, hfz49_2⟩ := bc3 BK374.out))
       go_loopg [78] kj15 (fun kq v78 w' => ∃ (x10_4 : List ((Int × Bool))) (x78_4 : Int), v78 = .int .i64 x78_4 ∧ Aside0 (impl_StepDown.l1 kq x6_2 y376 x10_4 l1 (l1.length : Int) x30_2 ((rd_T31 l1 x30_2).f1) (((rd_T31 l1 x30_2).f1).length : Int) x78_4 ((rd_T31 l1 x30_2).f0) ((rd_T31 l1 x30_2).f1) ((rd_T31 l1 x30_2).f2) = some (r1, r2)) ∧ Aside0 (kq ≤ kj15) ∧ Aside0 (Kd.R (Kd.int .i64) 3 w' w.heap.size (fun _ => True) v368 x6_2) ∧ Aside0 (Kd.Y my64 64 w' w.heap.size (fun k_ => some k_ ≠ mapBlock v379) v371 y376) ∧ Aside0 (Kd.Y my64 64 w' w.heap.size (fun k_ => some k_ ≠ mapBlock v371) v379 x10_4) ∧ Aside0 (w'.heap[gb374]? = some (.cells #[.int .i64 ((rd_T31 l1 x30_2).f0), (.slice A373_1 ((rd_T31 l1 x30_2).f1).length c373_1), (.slice A373_2 ((rd_T31 l1 x30_2).f2).length c373_2)] 31 (0, 0))) ∧ Aside0 (Below w.heap.size w w'))
       case atStart => exact ⟨(y378), (0), tZB, H', ⟨Nat.le_refl _⟩, ⟨lZR HO_6.out⟩, ⟨by (with_reducible repeat (first | apply Kd.Y_alloc | apply Kd.Y_drewN | apply Kd.Y_drew)); exact Kd.Y_mono HO377.out (fun _ hk => hk.2)⟩, ⟨by (with_reducible repeat (first | apply Kd.Y_alloc | apply Kd.Y_drewN | apply Kd.Y_drew)); exact Kd.Y_mono HO380.out (fun _ hk => hk.2)⟩, ⟨bkZ BK374.out⟩, ⟨bZ⟩⟩
       case round =>
        clear H'; (try clear c6 c7 c13 c13b0 c14 c14b0 c15 c15b0 c41 c42 c42b0 c42b1 c43 c43b0 c43b1 c43b2 c44 hcz18_0 hcz18_1 hcz18_2 hcz45_0 hcz45_1 hcz45_2 hcz49_0 hcz49_1 hcz49_2 hfz18_0 hfz18_1 hfz18_2 hfz45_0 hfz45_1 hfz45_2 hfz49_0 hfz49_1 hfz49_2 hx373_0 hx373_1 hx373_2 p373 q373); obtain ⟨x10_4, x78_4, rfl, HA, HK4, HO_6, HO_7, HO_10, BK374, HB⟩ := hrel
        cases gk with
        | zero => exact absurd HA.out (by simp [impl_StepDown.l1])
        | succ k4 =>
         have H := HA.out; clear HA; simp only [impl_StepDown.l1] at H
         by_cases c50 : x78_4 < (((rd_T31 l1 x30_2).f1).length : Int)
         ·rw [if_pos c50] at H; have c50b0 := decide_eq_true c50; clear c50
          by_cases c51 : 0 ≤ x78_4
          rotate_left
          ·rw [if_neg c51] at H; exact absurd H (by simp)
          rw [if_pos c51] at H; have c51b0 := decide_eq_true c51; clear c51
          by_cases c52 : x78_4 < (((rd_T31 l1 x30_2).f1).length : Int)
          rotate_left
          ·rw [if_neg c52] at H; exact absurd H (by simp)
          rw [if_pos c52] at H; have c52b0 := decide_eq_true c52; clear c52
          by_cases c53 : (rd ((rd_T31 l1 x30_2).f1) x78_4) < 0
          ·rw [if_pos c53] at H; have c53b0 := decide_eq_true c53; clear c53; simp only [Option.some.injEq, Prod.mk.injEq] at H; obtain ⟨rfl, rfl⟩ := H; have p381 : 0 ≤ (x78_4 : Int) := of_decide_eq_true tZE; have q381 : x78_4 < (((rd_T31 l1 x30_2).f1).length : Int) := of_decide_eq_true tZE; obtain ⟨ad381, e381, hx381_0⟩ := Kd.at_int HR373_1.out x78_4 p381 q381
           cases e381
           replace hx381_0 := cZ HB hx381_0; replace p381 := eq_true p381; replace q381 := eq_true q381; go_wp2; go_ret2; exact ⟨_, tZC, by first | exact Kd.R_nil _ _ _ _ _ | exact Kd.N_nil _ _ _ _ _ | exact Kd.V_nil _ _ _ _ _ | exact Kd.Q_nil _ _ _ _ _ | exact Kd.S_nil _ _ _ _ _, bZ⟩
          rw [if_neg c53] at H; have c53b0 := decide_eq_false c53; clear c53
          by_cases c54 : (rd ((rd_T31 l1 x30_2).f1) x78_4) ≥ (x6_2.length : Int)
          ·rw [if_pos c54] at H; have c54b0 : decide ((x6_2.length : Int) ≤ (rd ((rd_T31 l1 x30_2).f1) x78_4)) = true := decide_eq_true c54; clear c54; simp only [Option.some.injEq, Prod.mk.injEq] at H; obtain ⟨rfl, rfl⟩ := H; have p381 : 0 ≤ (x78_4 : Int) := of_decide_eq_true tZE; have q381 : x78_4 < (((rd_T31 l1 x30_2).f1).length : Int) := of_decide_eq_true tZE; obtain ⟨ad381, e381, hx381_0⟩ := Kd.at_int HR373_1.out x78_4 p381 q381
           cases e381
           replace hx381_0 := cZ HB hx381_0; replace p381 := eq_true p381; replace q381 := eq_true q381; obtain ⟨Ao55, co55, eo55⟩ := Kd.R_slice HO_6.out; subst eo55; go_wp2; go_ret2; exact ⟨_, tZC, by first | exact Kd.R_nil _ _ _ _ _ | exact Kd.N_nil _ _ _ _ _ | exact Kd.V_nil _ _ _ _ _ | exact Kd.Q_nil _ _ _ _ _ | exact Kd.S_nil _ _ _ _ _, bZ⟩
          rw [if_neg c54] at H; have c54b0 : decide ((x6_2.length : Int) ≤ (rd ((rd_T31 l1 x30_2).f1) x78_4)) = false := decide_eq_false c54; clear c54
          by_cases c56 : -9223372036854775808 ≤ (rd ((rd_T31 l1 x30_2).f1) x78_4)
          rotate_left
          ·rw [if_neg c56] at H; exact absurd H (by simp)
          rw [if_pos c56] at H; have c56b0 := eq_true c56; have c56b1 := decide_eq_true c56; clear c56
          by_cases c57 : (rd ((rd_T31 l1 x30_2).f1) x78_4) ≤ 9223372036854775807
          rotate_left
          ·rw [if_neg c57] at H; exact absurd H (by simp)
          rw [if_pos c57] at H; have c57b0 := eq_true c57; have c57b1 := decide_eq_true c57
          try have c57b2 := eq_false (Nat.not_lt.2 c57)
          clear c57; obtain ⟨y382, hy382⟩ : ∃ y_ : Bool, y_ = (mget false x10_4 (rd ((rd_T31 l1 x30_2).f1) x78_4)) := ⟨_, rfl⟩
          replace H : (if y382 = true then (some (([] : List Int), false)) else (if (mget false y376 (rd ((rd_T31 l1 x30_2).f1) x78_4)) = true then (some (([] : List Int), false)) else (if x10_4.length < 140737488355328 then (impl_StepDown.l1 k4 x6_2 y376 ((rd ((rd_T31 l1 x30_2).f1) x78_4, true) :: x10_4) l1 (l1.length : Int) x30_2 ((rd_T31 l1 x30_2).f1) (((rd_T31 l1 x30_2).f1).length : Int) (wrap64 (x78_4 + 1)) ((rd_T31 l1 x30_2).f0) ((rd_T31 l1 x30_2).f1) ((rd_T31 l1 x30_2).f2)) else (none)))) = some (r1, r2) := by first | (rw [hy382]; with_reducible exact H) | (have H2_ := (Option.bind_some _ _).symm.trans H; rw [hy382]; with_reducible exact H2_) | (have H2_ := (Option.bind_some _ _).symm.trans H; with_reducible exact H2_) | with_reducible exact H | (rw [hy382]; exact H) | exact H
          have Ny382 := Aside0.mk hy382; clear hy382
          by_cases c58 : y382 = true
          ·subst c58; rw [if_pos rfl] at H; simp only [Option.some.injEq, Prod.mk.injEq] at H; obtain ⟨rfl, rfl⟩ := H; have p381 : 0 ≤ (x78_4 : Int) := of_decide_eq_true tZE; have q381 : x78_4 < (((rd_T31 l1 x30_2).f1).length : Int) := of_decide_eq_true tZE; obtain ⟨ad381, e381, hx381_0⟩ := Kd.at_int HR373_1.out x78_4 p381 q381
           cases e381
           replace hx381_0 := cZ HB hx381_0; replace p381 := eq_true p381; replace q381 := eq_true q381; obtain ⟨Ao59, co59, eo59⟩ := Kd.R_slice HO_6.out; subst eo59; have hcv60 := Kd.Y_get (e := 64) (HO_10.out) (rd ((rd_T31 l1 x30_2).f1) x78_4) (show okI _ from ⟨((of_decide_eq_true tZE) : -9223372036854775808 ≤ (rd ((rd_T31 l1 x30_2).f1) x78_4)), ((of_decide_eq_true tZE) : (rd ((rd_T31 l1 x30_2).f1) x78_4) ≤ 9223372036854775807)⟩); have hcv60d := fun n_ => Kd.Y_get (e := 64) (Kd.Y_drewN (HO_10.out) n_) (rd ((rd_T31 l1 x30_2).f1) x78_4) (show okI _ from ⟨((of_decide_eq_true tZE) : -9223372036854775808 ≤ (rd ((rd_T31 l1 x30_2).f1) x78_4)), ((of_decide_eq_true tZE) : (rd ((rd_T31 l1 x30_2).f1) x78_4) ≤ 9223372036854775807)⟩)
           have hcv60e := fun m_ n_ => Kd.Y_get (e := 64) (Kd.Y_drewN (Kd.Y_drewN (HO_10.out) m_) n_) (rd ((rd_T31 l1 x30_2).f1) x78_4) (show okI _ from ⟨((of_decide_eq_true tZE) : -9223372036854775808 ≤ (rd ((rd_T31 l1 x30_2).f1) x78_4)), ((of_decide_eq_true tZE) : (rd ((rd_T31 l1 x30_2).f1) x78_4) ≤ 9223372036854775807)⟩)
           simp only [my64, mkSB, mkSI, mkIB, mkII, mkPI, encPI] at hcv60 hcv60d hcv60e; rw [← Ny382.out] at hcv60 hcv60d hcv60e; go_wp2; go_ret2; exact ⟨_, tZC, by first | exact Kd.R_nil _ _ _ _ _ | exact Kd.N_nil _ _ _ _ _ | exact Kd.V_nil _ _ _ _ _ | exact Kd.Q_nil _ _ _ _ _ | exact Kd.S_nil _ _ _ _ _, bZ⟩
          replace c58 := Bool.eq_false_iff.mpr c58; subst c58; rw [if_neg Bool.false_ne_true] at H; obtain ⟨y383, hy383⟩ : ∃ y_ : Bool, y_ = (mget false y376 (rd ((rd_T31 l1 x30_2).f1) x78_4)) := ⟨_, rfl⟩; replace H : (if y383 = true then (some (([] : List Int), false)) else (if x10_4.length < 140737488355328 then (impl_StepDown.l1 k4 x6_2 y376 ((rd ((rd_T31 l1 x30_2).f1) x78_4, true) :: x10_4) l1 (l1.length : Int) x30_2 ((rd_T31 l1 x30_2).f1) (((rd_T31 l1 x30_2).f1).length : Int) (wrap64 (x78_4 + 1)) ((rd_T31 l1 x30_2).f0) ((rd_T31 l1 x30_2).f1) ((rd_T31 l1 x30_2).f2)) else (none))) = some (r1, r2) := by first | (rw [hy383]; with_reducible exact H) | (have H2_ := (Option.bind_some _ _).symm.trans H; rw [hy383]; with_reducible exact H2_) | (have H2_ := (Option.bind_some _ _).symm.trans H; with_reducible exact H2_) | with_reducible exact H | (rw [hy383]; exact H) | exact H
          have Ny383 := Aside0.mk hy383; clear hy383
          by_cases c61 : y383 = true
          ·subst c61; rw [if_pos rfl] at H; simp only [Option.some.injEq, Prod.mk.injEq] at H; obtain ⟨rfl, rfl⟩ := H; have p381 : 0 ≤ (x78_4 : Int) := of_decide_eq_true tZE; have q381 : x78_4 < (((rd_T31 l1 x30_2).f1).length : Int) := of_decide_eq_true tZE; obtain ⟨ad381, e381, hx381_0⟩ := Kd.at_int HR373_1.out x78_4 p381 q381
           cases e381
           replace hx381_0 := cZ HB hx381_0; replace p381 := eq_true p381; replace q381 := eq_true q381; obtain ⟨Ao62, co62, eo62⟩ := Kd.R_slice HO_6.out; subst eo62; have hcv63 := Kd.Y_get (e := 64) (HO_10.out) (rd ((rd_T31 l1 x30_2).f1) x78_4) (show okI _ from ⟨((of_decide_eq_true tZE) : -9223372036854775808 ≤ (rd ((rd_T31 l1 x30_2).f1) x78_4)), ((of_decide_eq_true tZE) : (rd ((rd_T31 l1 x30_2).f1) x78_4) ≤ 9223372036854775807)⟩); have hcv63d := fun n_ => Kd.Y_get (e := 64) (Kd.Y_drewN (HO_10.out) n_) (rd ((rd_T31 l1 x30_2).f1) x78_4) (show okI _ from ⟨((of_decide_eq_true tZE) : -9223372036854775808 ≤ (rd ((rd_T31 l1 x30_2).f1) x78_4)), ((of_decide_eq_true tZE) : (rd ((rd_T31 l1 x30_2).f1) x78_4) ≤ 9223372036854775807)⟩)
           have hcv63e := fun m_ n_ => Kd.Y_get (e := 64) (Kd.Y_drewN (Kd.Y_drewN (HO_10.out) m_) n_) (rd ((rd_T31 l1 x30_2).f1) x78_4) (show okI _ from ⟨((of_decide_eq_true tZE) : -9223372036854775808 ≤ (rd ((rd_T31 l1 x30_2).f1) x78_4)), ((of_decide_eq_true tZE) : (rd ((rd_T31 l1 x30_2).f1) x78_4) ≤ 9223372036854775807)⟩)
           simp only [my64, mkSB, mkSI, mkIB, mkII, mkPI, encPI] at hcv63 hcv63d hcv63e; rw [← Ny382.out] at hcv63 hcv63d hcv63e; have hcv64 := Kd.Y_get (e := 64) (HO_7.out) (rd ((rd_T31 l1 x30_2).f1) x78_4) (show okI _ from ⟨((of_decide_eq_true tZE) : -9223372036854775808 ≤ (rd ((rd_T31 l1 x30_2).f1) x78_4)), ((of_decide_eq_true tZE) : (rd ((rd_T31 l1 x30_2).f1) x78_4) ≤ 9223372036854775807)⟩); have hcv64d := fun n_ => Kd.Y_get (e := 64) (Kd.Y_drewN (HO_7.out) n_) (rd ((rd_T31 l1 x30_2).f1) x78_4) (show okI _ from ⟨((of_decide_eq_true tZE) : -9223372036854775808 ≤ (rd ((rd_T31 l1 x30_2).f1) x78_4)), ((of_decide_eq_true tZE) : (rd ((rd_T31 l1 x30_2).f1) x78_4) ≤ 9223372036854775807)⟩)
           have hcv64e := fun m_ n_ => Kd.Y_get (e := 64) (Kd.Y_drewN (Kd.Y_drewN (HO_7.out) m_) n_) (rd ((rd_T31 l1 x30_2).f1) x78_4) (show okI _ from ⟨((of_decide_eq_true tZE) : -9223372036854775808 ≤ (rd ((rd_T31 l1 x30_2).f1) x78_4)), ((of_decide_eq_true tZE) : (rd ((rd_T31 l1 x30_2).f1) x78_4) ≤ 9223372036854775807)⟩)
           simp only [my64, mkSB, mkSI, mkIB, mkII, mkPI, encPI] at hcv64 hcv64d hcv64e; rw [← Ny383.out] at hcv64 hcv64d hcv64e; go_wp2; go_ret2; exact ⟨_, tZC, by first | exact Kd.R_nil _ _ _ _ _ | exact Kd.N_nil _ _ _ _ _ | exact Kd.V_nil _ _ _ _ _ | exact Kd.Q_nil _ _ _ _ _ | exact Kd.S_nil _ _ _ _ _, bZ⟩
          replace c61 := Bool.eq_false_iff.mpr c61; subst c61; rw [if_neg Bool.false_ne_true] at H
          by_cases c65 : x10_4.length < 140737488355328
          rotate_left
          ·rw [if_neg c65] at H; exact absurd H (by simp)
          rw [if_pos c65] at H; have LMc65 := Aside0.mk c65; clear c65; obtain ⟨y384, hy384⟩ : ∃ y_ : List ((Int × Bool)), y_ = ((rd ((rd_T31 l1 x30_2).f1) x78_4, true) :: x10_4) := ⟨_, rfl⟩; replace H : (impl_StepDown.l1 k4 x6_2 y376 y384 l1 (l1.length : Int) x30_2 ((rd_T31 l1 x30_2).f1) (((rd_T31 l1 x30_2).f1).length : Int) (wrap64 (x78_4 + 1)) ((rd_T31 l1 x30_2).f0) ((rd_T31 l1 x30_2).f1) ((rd_T31 l1 x30_2).f2)) = some (r1, r2) := by first | (rw [hy384]; with_reducible exact H) | (have H2_ := (Option.bind_some _ _).symm.trans H; rw [hy384]; with_reducible exact H2_) | (have H2_ := (Option.bind_some _ _).symm.trans H; with_reducible exact H2_) | with_reducible exact H | (rw [hy384]; exact H) | exact H
          have Ny384 := Aside0.mk hy384; clear hy384; have H' := Aside0.mk H; clear H; have p381 : 0 ≤ (x78_4 : Int) := of_decide_eq_true tZE; have q381 : x78_4 < (((rd_T31 l1 x30_2).f1).length : Int) := of_decide_eq_true tZE; obtain ⟨ad381, e381, hx381_0⟩ := Kd.at_int HR373_1.out x78_4 p381 q381
          cases e381
          replace hx381_0 := cZ HB hx381_0; replace p381 := eq_true p381; replace q381 := eq_true q381; obtain ⟨Ao66, co66, eo66⟩ := Kd.R_slice HO_6.out; subst eo66; have hcv67 := Kd.Y_get (e := 64) (HO_10.out) (rd ((rd_T31 l1 x30_2).f1) x78_4) (show okI _ from ⟨((of_decide_eq_true tZE) : -9223372036854775808 ≤ (rd ((rd_T31 l1 x30_2).f1) x78_4)), ((of_decide_eq_true tZE) : (rd ((rd_T31 l1 x30_2).f1) x78_4) ≤ 9223372036854775807)⟩); have hcv67d := fun n_ => Kd.Y_get (e := 64) (Kd.Y_drewN (HO_10.out) n_) (rd ((rd_T31 l1 x30_2).f1) x78_4) (show okI _ from ⟨((of_decide_eq_true tZE) : -9223372036854775808 ≤ (rd ((rd_T31 l1 x30_2).f1) x78_4)), ((of_decide_eq_true tZE) : (rd ((rd_T31 l1 x30_2).f1) x78_4) ≤ 9223372036854775807)⟩)
          have hcv67e := fun m_ n_ => Kd.Y_get (e := 64) (Kd.Y_drewN (Kd.Y_drewN (HO_10.out) m_) n_) (rd ((rd_T31 l1 x30_2).f1) x78_4) (show okI _ from ⟨((of_decide_eq_true tZE) : -9223372036854775808 ≤ (rd ((rd_T31 l1 x30_2).f1) x78_4)), ((of_decide_eq_true tZE) : (rd ((rd_T31 l1 x30_2).f1) x78_4) ≤ 9223372036854775807)⟩)
          simp only [my64, mkSB, mkSI, mkIB, mkII, mkPI, encPI] at hcv67 hcv67d hcv67e; rw [← Ny382.out] at hcv67 hcv67d hcv67e; have hcv68 := Kd.Y_get (e := 64) (HO_7.out) (rd ((rd_T31 l1 x30_2).f1) x78_4) (show okI _ from ⟨((of_decide_eq_true tZE) : -9223372036854775808 ≤ (rd ((rd_T31 l1 x30_2).f1) x78_4)), ((of_decide_eq_true tZE) : (rd ((rd_T31 l1 x30_2).f1) x78_4) ≤ 9223372036854775807)⟩); have hcv68d := fun n_ => Kd.Y_get (e := 64) (Kd.Y_drewN (HO_7.out) n_) (rd ((rd_T31 l1 x30_2).f1) x78_4) (show okI _ from ⟨((of_decide_eq_true tZE) : -9223372036854775808 ≤ (rd ((rd_T31 l1 x30_2).f1) x78_4)), ((of_decide_eq_true tZE) : (rd ((rd_T31 l1 x30_2).f1) x78_4) ≤ 9223372036854775807)⟩)
          have hcv68e := fun m_ n_ => Kd.Y_get (e := 64) (Kd.Y_drewN (Kd.Y_drewN (HO_7.out) m_) n_) (rd ((rd_T31 l1 x30_2).f1) x78_4) (show okI _ from ⟨((of_decide_eq_true tZE) : -9223372036854775808 ≤ (rd ((rd_T31 l1 x30_2).f1) x78_4)), ((of_decide_eq_true tZE) : (rd ((rd_T31 l1 x30_2).f1) x78_4) ≤ 9223372036854775807)⟩)
          simp only [my64, mkSB, mkSI, mkIB, mkII, mkPI, encPI] at hcv68 hcv68d hcv68e; rw [← Ny383.out] at hcv68 hcv68d hcv68e
          go_wp2_with (first | ((with_reducible refine Kd.gate_mupd (t := 64) (p := (.tmp 100)) (x := (.tmp 101)) (y := (.const (.bool true))) rfl ?_); refine Kd.Y_put my64 (t := 64) (base := w.heap.size) (ok := (fun k_ => some k_ ≠ mapBlock v371)) rfl rfl (.tmp 100) (.tmp 101) (.const (.bool true)) rfl rfl v379 x10_4 (rd ((rd_T31 l1 x30_2).f1) x78_4) true rfl (by first | rfl | (go_simp; done) | (go_simp; rfl)) (by first | rfl | (go_simp; done) | (go_simp; rfl)) ?aO (show okI _ from ⟨((of_decide_eq_true tZE) : -9223372036854775808 ≤ (rd ((rd_T31 l1 x30_2).f1) x78_4)), ((of_decide_eq_true tZE) : (rd ((rd_T31 l1 x30_2).f1) x78_4) ≤ 9223372036854775807)⟩) trivial LMc65.out ?_; (case aO => exact (lZY HO_10.out)); intro w69 ho hg; rw [← Ny384.out] at ho; replace HO_6 := aZ (Kd.R_turn (e := 64) (lZR HO_6.out) (lZY HO_10.out) hg); replace HO_7 := aZ (Kd.Y_turn (e := 64) (lZY HO_7.out) hg (fun _ hk => hk)); replace BK374 := aZ (Kd.blk_turn (e := 64) (bkZ BK374.out) (lZY HO_10.out) hg); replace HB := aZ (Kd.below_turn (e := 64) (lZY HO_10.out) bZ (Nat.le_refl _) hg); have HO385 := aZ (ho); clear HO_10; clear ho hg))
          go_roundg k4
          case measure => have := HJ2.out; have := HK2.out; have := HJ15.out; have := HK4.out; omega
          case rel => exact ⟨(y384), (wrap64 (x78_4 + 1)), tZB, H', ⟨by have := HJ2.out; have := HK2.out; have := HJ15.out; have := HK4.out; omega⟩, ⟨lZR HO_6.out⟩, ⟨lZY HO_7.out⟩, ⟨lZY HO385.out⟩, ⟨bkZ BK374.out⟩, ⟨bZ⟩⟩
         rw [if_neg c50] at H; have c50b0 := decide_eq_false c50; clear c50
         by_cases c70 : 0 ≤ ((rd_T31 l1 x30_2).f0)
         rotate_left
         ·rw [if_neg c70] at H; exact absurd H (by simp)
         rw [if_pos c70] at H; have c70b0 := decide_eq_true c70; clear c70
         by_cases c71 : ((rd_T31 l1 x30_2).f0) < (x6_2.length : Int)
         rotate_left
         ·rw [if_neg c71] at H; exact absurd H (by simp)
         rw [if_pos c71] at H; have c71b0 := decide_eq_true c71; clear c71; replace H := Option.bind_eq_some_iff.mp H; obtain ⟨t387, A720, H⟩ := H; replace H : (if (t387.length : Int) = 0 then (some (([] : List Int), false)) else (impl_StepDown.l2 k4 (x6_2.set (((rd_T31 l1 x30_2).f0) : Int).toNat 0) y376 t387 l1 (l1.length : Int) x30_2 ((rd_T31 l1 x30_2).f1) (((rd_T31 l1 x30_2).f1).length : Int) 0)) = some (r1, r2) := H; have A72 := Aside0.mk A720; clear A720
         by_cases c73 : (t387.length : Int) = 0
         ·rw [if_pos c73] at H; have c73b0 : ((t387.length : Int) == 0) = true := beq_iff_eq.mpr c73; have c73b1 : ((t387.length : Int) != 0) = false := bne_eq_false_iff_eq.mpr c73; clear c73; simp only [Option.some.injEq, Prod.mk.injEq] at H; obtain ⟨rfl, rfl⟩ := H
          try go_wp2
          replace HO_6 := aZ (Kd.R_drew HO_6.out); replace HO_7 := aZ (Kd.Y_drew HO_7.out); replace HO_10 := aZ (Kd.Y_drew HO_10.out); replace BK374 := aZ (blk_drew BK374.out); replace HB := aZ (below_drew1 HB.out); obtain ⟨Ao75, co75, eo75⟩ := Kd.R_slice HO_6.out; (first | subst eo75 | (injection eo75 with f1_ f2_ f3_; have f4_ := f1_.symm; have f5_ := f3_.symm; clear f1_ f2_ f3_; subst f4_; subst f5_)); have p386 : 0 ≤ (((rd_T31 l1 x30_2).f0) : Int) := of_decide_eq_true tZE; have q386 : ((rd_T31 l1 x30_2).f0) < (x6_2.length : Int) := of_decide_eq_true tZE; obtain ⟨ad386, e386, hx386_0⟩ := Kd.at_int (Kd.R_reads' HO_6.out).2.2 ((rd_T31 l1 x30_2).f0) p386 q386
          cases e386
          replace p386 := eq_true p386; replace q386 := eq_true q386; refine start_ (n := 9) (S := fun w' => w'.cell? ⟨gb374, 0, none⟩ = some (.int .i64 ((rd_T31 l1 x30_2).f0)) ∧ w'.cell? ⟨gb374, 1, none⟩ = some (.slice A373_1 ((rd_T31 l1 x30_2).f1).length c373_1) ∧ w'.cell? ⟨gb374, 2, none⟩ = some (.slice A373_2 ((rd_T31 l1 x30_2).f2).length c373_2) ∧ w'.cell? (ad386.add (((rd_T31 l1 x30_2).f0)).toNat) = some (.int .i64 (rd x6_2 ((rd_T31 l1 x30_2).f0)))) (ds := []) L0' kZ rfl rfl ⟨(blk_cell BK374.out 0).trans rfl, (blk_cell BK374.out 1).trans rfl, (blk_cell BK374.out 2).trans rfl, hx386_0⟩ (fun hHeld => ?_); refine with_tabW impl_StepDown.tab19 impl_StepDown.bits19 (fun HT_ HW_ => ?_); generalize wr.drew = w74 at HO_6 HO_7 HO_10 BK374 HB hx386_0 hHeld ⊢
          refine pure_ (i := 0) (N := some 103) (v := ?_) (a' := ?_) L1' rfl rfl (any_of HT_.out kZ) (fun _ _ _ h => h) (Or.inl ⟨by rfl, ?_⟩) ?_ ?_; rotate_left
          ·intro w'; go_simp; with_reducible rfl
          rotate_left
          ·simp only [Act.put, sZ1, sZ2, sZ3, i64_w, i32_w]; rfl
          refine pure_ (i := 1) (N := some 104) (v := ?_) (a' := ?_) L2' rfl rfl (any_of HT_.out kZ) (fun _ _ _ h => h) (Or.inl ⟨by rfl, ?_⟩) ?_ ?_; rotate_left
          ·intro w'; go_simp; with_reducible rfl
          rotate_left
          ·simp only [Act.put, sZ1, sZ2, sZ3, i64_w, i32_w]; rfl
          refine pure_ (i := 5) (N := some 108) (v := ?_) (a' := ?_) L3' rfl rfl (any_of HT_.out kZ) (fun _ _ _ h => h) (Or.inl ⟨by rfl, ?_⟩) ?_ ?_; rotate_left
          ·intro w'; go_simp; with_reducible rfl
          rotate_left
          ·simp only [Act.put, sZ1, sZ2, sZ3, i64_w, i32_w]; rfl
          refine take_ (i := 2) (N := some 105) (v := ?_) (a' := ?_) L4' rfl rfl (take_ofW HT_.out HW_.out kZ) (fun _ _ _ h => h) (Or.inl ⟨by rfl, ?_⟩) hHeld ?_ ?_; rotate_left
          ·rintro w' ⟨s0, s1, s2, s3⟩
           go_simp; with_reducible rfl
          rotate_left
          ·simp only [Act.put, sZ1, sZ2, sZ3, i64_w, i32_w]; rfl
          refine pure_ (i := 3) (N := some 106) (v := ?_) (a' := ?_) L5' rfl rfl (any_of HT_.out kZ) (fun _ _ _ h => h) (Or.inl ⟨by rfl, ?_⟩) ?_ ?_; rotate_left
          ·intro w'; go_simp; with_reducible rfl
          rotate_left
          ·simp only [Act.put, sZ1, sZ2, sZ3, i64_w, i32_w]; rfl
          refine take_ (i := 4) (N := some 107) (v := ?_) (a' := ?_) L6' rfl rfl (take_ofW HT_.out HW_.out kZ) (fun _ _ _ h => h) (Or.inl ⟨by rfl, ?_⟩) hHeld ?_ ?_; rotate_left
          ·rintro w' ⟨s0, s1, s2, s3⟩
           go_simp; with_reducible rfl
          rotate_left
          ·simp only [Act.put, sZ1, sZ2, sZ3, i64_w, i32_w]; rfl
          refine take_ (i := 6) (N := some 109) (v := ?_) (a' := ?_) L7' rfl rfl (take_ofW HT_.out HW_.out kZ) (fun _ _ _ h => h) (Or.inl ⟨by rfl, ?_⟩) hHeld ?_ ?_; rotate_left
          ·rintro w' ⟨s0, s1, s2, s3⟩
           go_simp; with_reducible rfl
          rotate_left
          ·simp only [Act.put, sZ1, sZ2, sZ3, i64_w, i32_w]; rfl
          refine one_ (i := 7) (N := some 110) L8' rfl rfl (one_of HT_.out kZ) (by decide) (fun K hK => ?_); refine goes_ Try.func35 kZ rfl #[.int .i64 (rd x6_2 ((rd_T31 l1 x30_2).f0)), .slice A373_2 ((rd_T31 l1 x30_2).f2).length c373_2] (by rfl) rfl rfl tZA ?_
          with_reducible refine (impl_Shares.calls k4 (rd x6_2 ((rd_T31 l1 x30_2).f0)) _ _ ((rd_T31 l1 x30_2).f2) t387 _ ?side1 ?side2 A72.out).mono ?_
          (case side1 => repeat (first | exact (Kd.C_below HR373_2.out HB.out) | (with_reducible refine Kd.C_alloc ?_ _) | (with_reducible refine Kd.C_drewN ?_ _) | (with_reducible refine Kd.C_drew ?_)))
          (case side2 => exact HC373_2.out)
          rintro e w76 ⟨v388, rfl, ho0, hb⟩
          have HS3_ := (hb.cell (World.block_lt_of_cell? _ _ (hHeld.2.2.2))).trans (hHeld.2.2.2); refine ⟨_, rfl, ?_⟩; replace HO_7 := aZ (Kd.Y_below (lZY HO_7.out) hb); replace HO_10 := aZ (Kd.Y_below (lZY HO_10.out) hb); have HO389 := aZ (Kd.R_lower (Kd.R_new' ho0 (Kd.R_lt (lZR HO_6.out))) (below_size bZ)); replace HO_6 := aZ (Kd.R_elder' (lZR HO_6.out) (Kd.R_base ho0) hb); replace BK374 := aZ (blk_below (bkZ BK374.out) hb); replace HB := aZ (below_step bZ hb); (try clear hb); (try clear hb2); (try clear hk); (try clear hi); (try clear ho0); refine hK.out _ _ ⟨(blk_cell BK374.out 0).trans rfl, (blk_cell BK374.out 1).trans rfl, (blk_cell BK374.out 2).trans rfl, HS3_⟩ (fun hHeld => ?_); clear hK K; refine norm_ (a' := ?_) ?_ ?_; rotate_left
          ·show Act.put _ (some 110) _ = _
           simp only [Act.put, sZ1, sZ2, sZ3, i64_w, i32_w]; rfl
          refine pure_ (i := 8) (N := some 13) (v := ?_) (a' := ?_) L9' rfl rfl (any_of HT_.out kZ) (fun _ _ _ h => h) (Or.inl ⟨by rfl, ?_⟩) ?_ ?_; rotate_left
          ·intro w'; go_simp; with_reducible rfl
          rotate_left
          ·simp only [Act.put, sZ1, sZ2, sZ3, i64_w, i32_w]; rfl
          refine done_ (done_of HT_.out kZ) ?_; obtain ⟨Ao77, co77, eo77⟩ := Kd.R_slice HO389.out; subst eo77
          try go_wp2
          go_ret2; exact ⟨_, tZC, by first | exact Kd.R_nil _ _ _ _ _ | exact Kd.N_nil _ _ _ _ _ | exact Kd.V_nil _ _ _ _ _ | exact Kd.Q_nil _ _ _ _ _ | exact Kd.S_nil _ _ _ _ _, bZ⟩
         rw [if_neg c73] at H; have c73b0 : ((t387.length : Int) == 0) = false := beq_eq_false_iff_ne.mpr c73; have c73b1 : ((t387.length : Int) != 0) = true := bne_iff_ne.mpr c73; have c73b2 : ¬ (t387 = []) := fun h_ => c73 (by rw [h_]; rfl)
         obtain ⟨y390, hy390⟩ : ∃ y_ : List Int, y_ = (x6_2.set (((rd_T31 l1 x30_2).f0) : Int).toNat 0) := ⟨_, rfl⟩; replace H : (impl_StepDown.l2 k4 y390 y376 t387 l1 (l1.length : Int) x30_2 ((rd_T31 l1 x30_2).f1) (((rd_T31 l1 x30_2).f1).length : Int) 0) = some (r1, r2) := by first | (rw [hy390]; with_reducible exact H) | (have H2_ := (Option.bind_some _ _).symm.trans H; rw [hy390]; with_reducible exact H2_) | (have H2_ := (Option.bind_some _ _).symm.trans H; with_reducible exact H2_) | with_reducible exact H | (rw [hy390]; exact H) | exact H
         have Ny390 := Aside0.mk hy390; clear hy390; have H' := Aside0.mk H; clear H
         try go_wp2
         replace HO_6 := aZ (Kd.R_drew HO_6.out); replace HO_7 := aZ (Kd.Y_drew HO_7.out); replace HO_10 := aZ (Kd.Y_drew HO_10.out); replace BK374 := aZ (blk_drew BK374.out); replace HB := aZ (below_drew1 HB.out); obtain ⟨Ao80, co80, eo80⟩ := Kd.R_slice HO_6.out; (first | subst eo80 | (injection eo80 with f1_ f2_ f3_; have f4_ := f1_.symm; have f5_ := f3_.symm; clear f1_ f2_ f3_; subst f4_; subst f5_)); have p386 : 0 ≤ (((rd_T31 l1 x30_2).f0) : Int) := of_decide_eq_true tZE; have q386 : ((rd_T31 l1 x30_2).f0) < (x6_2.length : Int) := of_decide_eq_true tZE; obtain ⟨ad386, e386, hx386_0⟩ := Kd.at_int (Kd.R_reads' HO_6.out).2.2 ((rd_T31 l1 x30_2).f0) p386 q386
         cases e386
         replace p386 := eq_true p386; replace q386 := eq_true q386; refine start_ (n := 9) (S := fun w' => w'.cell? ⟨gb374, 0, none⟩ = some (.int .i64 ((rd_T31 l1 x30_2).f0)) ∧ w'.cell? ⟨gb374, 1, none⟩ = some (.slice A373_1 ((rd_T31 l1 x30_2).f1).length c373_1) ∧ w'.cell? ⟨gb374, 2, none⟩ = some (.slice A373_2 ((rd_T31 l1 x30_2).f2).length c373_2) ∧ w'.cell? (ad386.add (((rd_T31 l1 x30_2).f0)).toNat) = some (.int .i64 (rd x6_2 ((rd_T31 l1 x30_2).f0)))) (ds := []) L0' kZ rfl rfl ⟨(blk_cell BK374.out 0).trans rfl, (blk_cell BK374.out 1).trans rfl, (blk_cell BK374.out 2).trans rfl, hx386_0⟩ (fun hHeld => ?_); refine with_tabW impl_StepDown.tab19 impl_StepDown.bits19 (fun HT_ HW_ => ?_); generalize wr.drew = w79 at HO_6 HO_7 HO_10 BK374 HB hx386_0 hHeld ⊢
         refine pure_ (i := 0) (N := some 103) (v := ?_) (a' := ?_) L1' rfl rfl (any_of HT_.out kZ) (fun _ _ _ h => h) (Or.inl ⟨by rfl, ?_⟩) ?_ ?_; rotate_left
         ·intro w'; go_simp; with_reducible rfl
         rotate_left
         ·simp only [Act.put, sZ1, sZ2, sZ3, i64_w, i32_w]; rfl
         refine pure_ (i := 1) (N := some 104) (v := ?_) (a' := ?_) L2' rfl rfl (any_of HT_.out kZ) (fun _ _ _ h => h) (Or.inl ⟨by rfl, ?_⟩) ?_ ?_; rotate_left
         ·intro w'; go_simp; with_reducible rfl
         rotate_left
         ·simp only [Act.put, sZ1, sZ2, sZ3, i64_w, i32_w]; rfl
         refine pure_ (i := 5) (N := some 108) (v := ?_) (a' := ?_) L3' rfl rfl (any_of HT_.out kZ) (fun _ _ _ h => h) (Or.inl ⟨by rfl, ?_⟩) ?_ ?_; rotate_left
         ·intro w'; go_simp; with_reducible rfl
         rotate_left
         ·simp only [Act.put, sZ1, sZ2, sZ3, i64_w, i32_w]; rfl
         refine take_ (i := 2) (N := some 105) (v := ?_) (a' := ?_) L4' rfl rfl (take_ofW HT_.out HW_.out kZ) (fun _ _ _ h => h) (Or.inl ⟨by rfl, ?_⟩) hHeld ?_ ?_; rotate_left
         ·rintro w' ⟨s0, s1, s2, s3⟩
          go_simp; with_reducible rfl
         rotate_left
         ·simp only [Act.put, sZ1, sZ2, sZ3, i64_w, i32_w]; rfl
         refine pure_ (i := 3) (N := some 106) (v := ?_) (a' := ?_) L5' rfl rfl (any_of HT_.out kZ) (fun _ _ _ h => h) (Or.inl ⟨by rfl, ?_⟩) ?_ ?_; rotate_left
         ·intro w'; go_simp; with_reducible rfl
         rotate_left
         ·simp only [Act.put, sZ1, sZ2, sZ3, i64_w, i32_w]; rfl
         refine take_ (i := 4) (N := some 107) (v := ?_) (a' := ?_) L6' rfl rfl (take_ofW HT_.out HW_.out kZ) (fun _ _ _ h => h) (Or.inl ⟨by rfl, ?_⟩) hHeld ?_ ?_; rotate_left
         ·rintro w' ⟨s0, s1, s2, s3⟩
          go_simp; with_reducible rfl
         rotate_left
         ·simp only [Act.put, sZ1, sZ2, sZ3, i64_w, i32_w]; rfl
         refine take_ (i := 6) (N := some 109) (v := ?_) (a' := ?_) L7' rfl rfl (take_ofW HT_.out HW_.out kZ) (fun _ _ _ h => h) (Or.inl ⟨by rfl, ?_⟩) hHeld ?_ ?_; rotate_left
         ·rintro w' ⟨s0, s1, s2, s3⟩
          go_simp; with_reducible rfl
         rotate_left
         ·simp only [Act.put, sZ1, sZ2, sZ3, i64_w, i32_w]; rfl
         refine one_ (i := 7) (N := some 110) L8' rfl rfl (one_of HT_.out kZ) (by decide) (fun K hK => ?_); refine goes_ Try.func35 kZ rfl #[.int .i64 (rd x6_2 ((rd_T31 l1 x30_2).f0)), .slice A373_2 ((rd_T31 l1 x30_2).f2).length c373_2] (by rfl) rfl rfl tZA ?_
         with_reducible refine (impl_Shares.calls k4 (rd x6_2 ((rd_T31 l1 x30_2).f0)) _ _ ((rd_T31 l1 x30_2).f2) t387 _ ?side1 ?side2 A72.out).mono ?_
         (case side1 => repeat (first | exact (Kd.C_below HR373_2.out HB.out) | (with_reducible refine Kd.C_alloc ?_ _) | (with_reducible refine Kd.C_drewN ?_ _) | (with_reducible refine Kd.C_drew ?_)))
         (case side2 => exact HC373_2.out)
         rintro e w81 ⟨v388, rfl, ho0, hb⟩
         have HS3_ := (hb.cell (World.block_lt_of_cell? _ _ (hHeld.2.2.2))).trans (hHeld.2.2.2); refine ⟨_, rfl, ?_⟩; replace HO_7 := aZ (Kd.Y_below (lZY HO_7.out) hb); replace HO_10 := aZ (Kd.Y_below (lZY HO_10.out) hb); have HO389 := aZ (Kd.R_lower (Kd.R_new' ho0 (Kd.R_lt (lZR HO_6.out))) (below_size bZ)); replace HO_6 := aZ (Kd.R_elder' (lZR HO_6.out) (Kd.R_base ho0) hb); replace BK374 := aZ (blk_below (bkZ BK374.out) hb); replace HB := aZ (below_step bZ hb); (try clear hb); (try clear hb2); (try clear hk); (try clear hi); (try clear ho0); refine hK.out _ _ ⟨(blk_cell BK374.out 0).trans rfl, (blk_cell BK374.out 1).trans rfl, (blk_cell BK374.out 2).trans rfl, HS3_⟩ (fun hHeld => ?_); clear hK K; refine norm_ (a' := ?_) ?_ ?_; rotate_left
         ·show Act.put _ (some 110) _ = _
          simp only [Act.put, sZ1, sZ2, sZ3, i64_w, i32_w]; rfl
         refine pure_ (i := 8) (N := some 13) (v := ?_) (a' := ?_) L9' rfl rfl (any_of HT_.out kZ) (fun _ _ _ h => h) (Or.inl ⟨by rfl, ?_⟩) ?_ ?_; rotate_left
         ·intro w'; go_simp; with_reducible rfl
         rotate_left
         ·simp only [Act.put, sZ1, sZ2, sZ3, i64_w, i32_w]; rfl
         refine done_ (done_of HT_.out kZ) ?_; obtain ⟨Ao82, co82, eo82⟩ := Kd.R_slice HO389.out; subst eo82; obtain ⟨hcz83_0, hcz83_1, hcz83_2, hfz83_0, hfz83_1, hfz83_2⟩ := bc3 BK374.out; have p78 : 0 ≤ (((rd_T31 l1 x30_2).f0) : Int) := of_decide_eq_true tZE; have q78 : (((rd_T31 l1 x30_2).f0) : Int) < ((x6_2.length : Int) : Int) := of_decide_eq_true tZE; obtain ⟨go78, co78, eo78, gb78, gl78, cl78, HG78⟩ := Kd.R_form HO_6.out (by omega); (first | cases eo78 | (injection eo78 with ea_ en_ ec_; (first | subst ea_ | (injection ea_ with ea_; subst ea_)); subst ec_; clear en_)); have GB78 := Aside0.mk gb78; have GG78 := Aside0.mk HG78; clear gb78 gl78 HG78; (first | simp only [add_plain] at hx386_0 | skip); obtain ⟨hx78_0, hf78_0⟩ := Kd.R_celln 0 HO_6.out (((rd_T31 l1 x30_2).f0) : Int) p78 q78; replace p78 := eq_true p78; replace q78 := eq_true q78
         have n_ := aZ (Kd.R_mono (ok' := (fun k_ => some k_ ≠ (.slice Ao82 t387.length co82 : Value).ownBlock)) HO_6.out (fun k_ hk => hk.2)); clear HO_6; have HO_6 := n_; clear n_; obtain ⟨hy84_, hz84_⟩ := Kd.R_celln 0 HO_6.out (((rd_T31 l1 x30_2).f0) : Int) (of_decide_eq_true tZE) (of_decide_eq_true tZE); have HP84 := Kd.R_putg HO_6.out (((rd_T31 l1 x30_2).f0) : Int) 0
         try go_wp2_with (first | ((with_reducible refine gate_store (t := 3) (p := 117) rfl ?_); refine store_event (t := 3) (p := 117) (v := ?vo_w85) (w1 := (w81.setCell ⟨go78, (((rd_T31 l1 x30_2).f0) : Int).toNat, none⟩ (.int .i64 0))) ?hg ?ho ?hn ?hr ?_; (case ho => rfl); (case hg => rfl); (case hn => rfl); (case hr => first | (go_simp; done) | (go_simp; rfl)); intro w85 hw; have hg : w81.grownBy w85 (some go78) := (by rw [hw]; exact HP84.2); have hp_ : Kd.R (Kd.int .i64) 3 w85 w.heap.size (fun k_ => some k_ ≠ (.slice Ao82 t387.length co82 : Value).ownBlock) (.slice (some ⟨go78, 0, none⟩) x6_2.length co80) y390 := (by rw [hw, Ny390.out]; exact HP84.1); clear HP84; replace HO_7 := aZ (Kd.Y_over' (v := (.slice (some ⟨go78, 0, none⟩) x6_2.length co80)) (lZY HO_7.out) (Kd.R_typed HO_6.out) (by decide) hg); replace HO_10 := aZ (Kd.Y_over' (v := (.slice (some ⟨go78, 0, none⟩) x6_2.length co80)) (lZY HO_10.out) (Kd.R_typed HO_6.out) (by decide) hg); replace BK374 := aZ (blk_grown (bkZ BK374.out) hg (Kd.R_ne HO_6.out BK374.out (by decide))); replace HO_6 := aZ (hp_); replace HO389 := aZ (Kd.R_after (v := (.slice (some ⟨go78, 0, none⟩) x6_2.length co80)) (v1 := (.slice (some ⟨go78, 0, none⟩) x6_2.length co80)) (ok := (fun _ => True)) (lZR HO389.out) hg (.inl rfl)); replace HB := aZ ((by rw [hw]; exact below_set (HB.out) GB78.out : Below w.heap.size w w85)); clear hg hw hp_; obtain ⟨hcz86_0, hcz86_1, hcz86_2, hfz86_0, hfz86_1, hfz86_2⟩ := bc3 BK374.out))
         (try simp only [add_plain])
         go_loopg [121] k4 (fun kq v121 w' => ∃ (x6_5 : List Int) (x121_5 : Int), v121 = .int .i64 x121_5 ∧ Aside0 (impl_StepDown.l2 kq x6_5 y376 t387 l1 (l1.length : Int) x30_2 ((rd_T31 l1 x30_2).f1) (((rd_T31 l1 x30_2).f1).length : Int) x121_5 = some (r1, r2)) ∧ Aside0 (kq ≤ k4) ∧ Aside0 (Kd.R (Kd.int .i64) 3 w' w.heap.size (fun k_ => some k_ ≠ ((.slice Ao82 t387.length co82) : Value).ownBlock) (.slice (some ⟨go78, 0, none⟩) x6_2.length co80) x6_5) ∧ Aside0 (Kd.Y my64 64 w' w.heap.size (fun _ => True) v371 y376) ∧ Aside0 (Kd.R (Kd.int .i64) 3 w' w.heap.size (fun k_ => some k_ ≠ ((.slice (some ⟨go78, 0, none⟩) x6_2.length co80) : Value).ownBlock) (.slice Ao82 t387.length co82) t387) ∧ Aside0 (w'.heap[gb374]? = some (.cells #[.int .i64 ((rd_T31 l1 x30_2).f0), (.slice A373_1 ((rd_T31 l1 x30_2).f1).length c373_1), (.slice A373_2 ((rd_T31 l1 x30_2).f2).length c373_2)] 31 (0, 0))) ∧ Aside0 (Below w.heap.size w w'))
         case atStart => exact ⟨(y390), (0), tZB, H', ⟨Nat.le_refl _⟩, ⟨lZR HO_6.out⟩, ⟨by (with_reducible repeat (first | apply Kd.Y_alloc | apply Kd.Y_drewN | apply Kd.Y_drew)); exact Kd.Y_mono HO_7.out (fun _ hk => trivial)⟩, ⟨by (with_reducible repeat (first | apply Kd.R_alloc | apply Kd.R_drewN | apply Kd.R_drew)); exact Kd.R_mono HO389.out (fun _ hk => hk.2)⟩, ⟨bkZ BK374.out⟩, ⟨bZ⟩⟩
         case round =>
          clear H'; (try clear c6 c7 c41 c42 c42b0 c42b1 c43 c43b0 c43b1 c43b2 c44 c50 c50b0 c70 c70b0 c71 c71b0 c73 c73b0 c73b1 c73b2 p78 q78 hcz18_0 hcz18_1 hcz18_2 hcz45_0 hcz45_1 hcz45_2 hcz49_0 hcz49_1 hcz49_2 hcz83_0 hcz83_1 hcz83_2 hcz86_0 hcz86_1 hcz86_2 hfz18_0 hfz18_1 hfz18_2 hfz45_0 hfz45_1 hfz45_2 hfz49_0 hfz49_1 hfz49_2 hfz83_0 hfz83_1 hfz83_2 hfz86_0 hfz86_1 hfz86_2 hx373_0 hx373_1 hx373_2 hx386_0 hx78_0 p373 p386 p78 q373 q386 q78); obtain ⟨x6_5, x121_5, rfl, HA, HK5, HO_6, HO_7, HO_13, BK374, HB⟩ := hrel; have hl6_5 := (Kd.R_reads' HO_6.out).1; rw [hl6_5] at HO_6; (try simp only [hl6_5]); (try simp only [hl6_5] at BK374); (try simp only [hl6_5] at HO_7); (try simp only [hl6_5] at HO_13)
          cases gk with
          | zero => exact absurd HA.out (by simp [impl_StepDown.l2])
          | succ k5 =>
           have H := HA.out; clear HA; simp only [impl_StepDown.l2] at H
           by_cases c87 : x121_5 < (((rd_T31 l1 x30_2).f1).length : Int)
           rotate_left
           ·rw [if_neg c87] at H; have c87b0 := decide_eq_false c87; clear c87; have H' := Aside0.mk H; clear H; go_wp2; (try simp only [← hl6_5])
            go_roundg k5
            case measure => have := HJ2.out; have := HK2.out; have := HJ15.out; have := HK4.out; have := HK5.out; omega
            case rel => exact ⟨(x6_5), (y376), (wrap64 (x30_2 + 1)), tZB, H', ⟨by have := HJ2.out; have := HK2.out; have := HJ15.out; have := HK4.out; have := HK5.out; omega⟩, ⟨by (try simp only [hl6_5]); (with_reducible repeat (first | apply Kd.R_alloc | apply Kd.R_drewN | apply Kd.R_drew)); exact Kd.R_mono HO_6.out (fun _ hk => trivial)⟩, ⟨by (try simp only [hl6_5]); (with_reducible repeat (first | apply Kd.Y_alloc | apply Kd.Y_drewN | apply Kd.Y_drew)); exact HO_7.out⟩, ⟨bZ⟩⟩
           rw [if_pos c87] at H; have c87b0 := decide_eq_true c87; clear c87
           by_cases c88 : 0 ≤ x121_5
           rotate_left
           ·rw [if_neg c88] at H; exact absurd H (by simp)
           rw [if_pos c88] at H; have c88b0 := decide_eq_true c88; clear c88
           by_cases c89 : x121_5 < (((rd_T31 l1 x30_2).f1).length : Int)
           rotate_left
           ·rw [if_neg c89] at H; exact absurd H (by simp)
           rw [if_pos c89] at H; have c89b0 := decide_eq_true c89; clear c89
           by_cases c90 : 0 ≤ (rd ((rd_T31 l1 x30_2).f1) x121_5)
           rotate_left
           ·rw [if_neg c90] at H; exact absurd H (by simp)
           rw [if_pos c90] at H; have c90b0 := decide_eq_true c90; clear c90
           by_cases c91 : (rd ((rd_T31 l1 x30_2).f1) x121_5) < (x6_5.length : Int)
           rotate_left
           ·rw [if_neg c91] at H; exact absurd H (by simp)
           rw [if_pos c91] at H; have c91b0 := decide_eq_true c91; clear c91
           by_cases c92 : x121_5 < (t387.length : Int)
           rotate_left
           ·rw [if_neg c92] at H; exact absurd H (by simp)
           rw [if_pos c92] at H; have c92b0 := decide_eq_true c92; clear c92; obtain ⟨y394, hy394⟩ : ∃ y_ : List Int, y_ = (x6_5.set ((rd ((rd_T31 l1 x30_2).f1) x121_5) : Int).toNat (wrap64 ((rd x6_5 (rd ((rd_T31 l1 x30_2).f1) x121_5)) + (rd t387 x121_5)))) := ⟨_, rfl⟩; replace H : ((impl_amount.f (wrap64 ((rd x6_5 (rd ((rd_T31 l1 x30_2).f1) x121_5)) + (rd t387 x121_5)))).bind fun t396 => (if t396 = true then (impl_StepDown.l2 k5 y394 y376 t387 l1 (l1.length : Int) x30_2 ((rd_T31 l1 x30_2).f1) (((rd_T31 l1 x30_2).f1).length : Int) (wrap64 (x121_5 + 1))) else (some (([] : List Int), false)))) = some (r1, r2) := by first | (rw [hy394]; with_reducible exact H) | (have H2_ := (Option.bind_some _ _).symm.trans H; rw [hy394]; with_reducible exact H2_) | (have H2_ := (Option.bind_some _ _).symm.trans H; with_reducible exact H2_) | with_reducible exact H | (rw [hy394]; exact H) | exact H
           have Ny394 := Aside0.mk hy394; clear hy394; replace H := Option.bind_eq_some_iff.mp H; obtain ⟨t396, A950, H⟩ := H; replace H : (if t396 = true then (impl_StepDown.l2 k5 y394 y376 t387 l1 (l1.length : Int) x30_2 ((rd_T31 l1 x30_2).f1) (((rd_T31 l1 x30_2).f1).length : Int) (wrap64 (x121_5 + 1))) else (some (([] : List Int), false))) = some (r1, r2) := H; have A95 := Aside0.mk A950; clear A950
           by_cases c96 : t396 = true
           rotate_left
           ·replace c96 := Bool.eq_false_iff.mpr c96; subst c96; rw [if_neg Bool.false_ne_true] at H; simp only [Option.some.injEq, Prod.mk.injEq] at H; obtain ⟨rfl, rfl⟩ := H; have p391 : 0 ≤ (x121_5 : Int) := of_decide_eq_true tZE; have q391 : x121_5 < (((rd_T31 l1 x30_2).f1).length : Int) := of_decide_eq_true tZE; obtain ⟨ad391, e391, hx391_0⟩ := Kd.at_int HR373_1.out x121_5 p391 q391
            cases e391
            replace hx391_0 := cZ HB hx391_0; replace p391 := eq_true p391; replace q391 := eq_true q391
            try go_wp2
            replace HO_6 := aZ (Kd.R_drew HO_6.out); replace HO_7 := aZ (Kd.Y_drew HO_7.out); replace HO_13 := aZ (Kd.R_drew HO_13.out); replace BK374 := aZ (blk_drew BK374.out); replace HB := aZ (below_drew1 HB.out); have p392 : 0 ≤ ((rd ((rd_T31 l1 x30_2).f1) x121_5) : Int) := of_decide_eq_true tZE; have q392 : (rd ((rd_T31 l1 x30_2).f1) x121_5) < (x6_5.length : Int) := of_decide_eq_true tZE; obtain ⟨ad392, e392, hx392_0⟩ := Kd.at_int (Kd.R_reads' HO_6.out).2.2 (rd ((rd_T31 l1 x30_2).f1) x121_5) p392 q392; obtain rfl : (⟨go78, 0, none⟩ : Addr) = ad392 := (by injection e392); (first | simp only [add_plain] at hx392_0 | simp only [add_at] at hx392_0 | simp only [Addr.add, Nat.zero_add] at hx392_0 | skip); replace p392 := eq_true p392; replace q392 := eq_true q392; have p393 : 0 ≤ (x121_5 : Int) := of_decide_eq_true tZE; have q393 : x121_5 < (t387.length : Int) := of_decide_eq_true tZE
            obtain ⟨ad393, e393, hx393_0⟩ := Kd.at_int (Kd.R_reads' HO_13.out).2.2 x121_5 p393 q393
            cases e393
            replace p393 := eq_true p393; replace q393 := eq_true q393; have p93 : 0 ≤ ((rd ((rd_T31 l1 x30_2).f1) x121_5) : Int) := of_decide_eq_true tZE; have q93 : ((rd ((rd_T31 l1 x30_2).f1) x121_5) : Int) < ((x6_5.length : Int) : Int) := of_decide_eq_true tZE; obtain ⟨hx93_0, hf93_0⟩ := Kd.R_celln 0 HO_6.out ((rd ((rd_T31 l1 x30_2).f1) x121_5) : Int) p93 q93; replace p93 := eq_true p93; replace q93 := eq_true q93; (try clear GG78); obtain ⟨cl100_, hgg100_⟩ := Kd.R_typed (HO_6.out) go78 rfl; have GG78 := Aside0.mk hgg100_; clear hgg100_; have HP100 := Kd.R_putn HO_6.out ((rd ((rd_T31 l1 x30_2).f1) x121_5) : Int) (wrap64 ((rd x6_5 (rd ((rd_T31 l1 x30_2).f1) x121_5)) + (rd t387 x121_5))); rw [← Ny394.out] at HP100; have HQ100 := Aside0.mk HP100; clear HP100
            refine start_ (n := 11) (S := fun w' => w'.cell? ⟨go78, ((rd ((rd_T31 l1 x30_2).f1) x121_5)).toNat, none⟩ = some (.int .i64 (rd x6_5 (rd ((rd_T31 l1 x30_2).f1) x121_5))) ∧ w'.cell? (ad393.add (x121_5).toNat) = some (.int .i64 (rd t387 x121_5))) (ds := [10]) L10' kZ rfl rfl ⟨hx392_0, hx393_0⟩ (fun hHeld => ?_); refine with_tabW impl_StepDown.tab26 impl_StepDown.bits26 (fun HT_ HW_ => ?_); generalize wr.drew = w99 at HO_6 HO_7 HO_13 BK374 HB GG78 HQ100 hf93_0 hx392_0 hx393_0 hx93_0 hHeld ⊢; refine pure_ (i := 0) (N := some 126) (v := ?_) (a' := ?_) L11' rfl rfl (any_of HT_.out kZ) (fun _ _ _ h => h) (Or.inl ⟨by rfl, ?_⟩) ?_ ?_; rotate_left
            ·intro w'; go_simp; with_reducible rfl
            rotate_left
            ·simp only [Act.put, sZ1, sZ2, sZ3, i64_w, i32_w]; rfl
            refine pure_ (i := 1) (N := some 127) (v := ?_) (a' := ?_) L12' rfl rfl (any_of HT_.out kZ) (fun _ _ _ h => h) (Or.inl ⟨by rfl, ?_⟩) ?_ ?_; rotate_left
            ·intro w'; go_simp; with_reducible rfl
            rotate_left
            ·simp only [Act.put, sZ1, sZ2, sZ3, i64_w, i32_w]; rfl
            refine pure_ (i := 2) (N := some 128) (v := ?_) (a' := ?_) L13' rfl rfl (any_of HT_.out kZ) (fun _ _ _ h => h) (Or.inl ⟨by rfl, ?_⟩) ?_ ?_; rotate_left
            ·intro w'; go_simp; with_reducible rfl
            rotate_left
            ·simp only [Act.put, sZ1, sZ2, sZ3, i64_w, i32_w]; rfl
            refine pure_ (i := 4) (N := some 130) (v := ?_) (a' := ?_) L14' rfl rfl (any_of HT_.out kZ) (fun _ _ _ h => h) (Or.inl ⟨by rfl, ?_⟩) ?_ ?_; rotate_left
            ·intro w'; go_simp; with_reducible rfl
            rotate_left
            ·simp only [Act.put, sZ1, sZ2, sZ3, i64_w, i32_w]; rfl
            refine pure_ (i := 5) (N := some 131) (v := ?_) (a' := ?_) L15' rfl rfl (any_of HT_.out kZ) (fun _ _ _ h => h) (Or.inl ⟨by rfl, ?_⟩) ?_ ?_; rotate_left
            ·intro w'; go_simp; with_reducible rfl
            rotate_left
            ·simp only [Act.put, sZ1, sZ2, sZ3, i64_w, i32_w]; rfl
            refine pure_ (i := 6) (N := some 132) (v := ?_) (a' := ?_) L16' rfl rfl (any_of HT_.out kZ) (fun _ _ _ h => h) (Or.inl ⟨by rfl, ?_⟩) ?_ ?_; rotate_left
            ·intro w'; go_simp; with_reducible rfl
            rotate_left
            ·simp only [Act.put, sZ1, sZ2, sZ3, i64_w, i32_w]; rfl
            refine take_ (i := 3) (N := some 129) (v := ?_) (a' := ?_) L17' rfl rfl (take_ofW HT_.out HW_.out kZ) (fun _ _ _ h => h) (Or.inl ⟨by rfl, ?_⟩) hHeld ?_ ?_; rotate_left
            ·rintro w' ⟨s0, s1⟩
             go_simp; with_reducible rfl
            rotate_left
            ·simp only [Act.put, sZ1, sZ2, sZ3, i64_w, i32_w]; rfl
            refine take_ (i := 7) (N := some 133) (v := ?_) (a' := ?_) L18' rfl rfl (take_ofW HT_.out HW_.out kZ) (fun _ _ _ h => h) (Or.inl ⟨by rfl, ?_⟩) hHeld ?_ ?_; rotate_left
            ·rintro w' ⟨s0, s1⟩
             go_simp; with_reducible rfl
            rotate_left
            ·simp only [Act.put, sZ1, sZ2, sZ3, i64_w, i32_w]; rfl
            refine pure_ (i := 8) (N := some 134) (v := ?_) (a' := ?_) L19' rfl rfl (any_of HT_.out kZ) (fun _ _ _ h => h) (Or.inl ⟨by rfl, ?_⟩) ?_ ?_; rotate_left
            ·intro w'; go_simp; with_reducible rfl
            rotate_left
            ·simp only [Act.put, sZ1, sZ2, sZ3, i64_w, i32_w]; rfl
            refine pure_ (i := 9) (N := some 135) (v := ?_) (a' := ?_) L20' rfl rfl (any_of HT_.out kZ) (fun _ _ _ h => h) (Or.inl ⟨by rfl, ?_⟩) ?_ ?_; rotate_left
            ·intro w'; go_simp; with_reducible rfl
            rotate_left
            ·simp only [Act.put, sZ1, sZ2, sZ3, i64_w, i32_w]; rfl
            refine last_ (i := 10) (N := none) L21' rfl rfl (one_of HT_.out kZ) (by decide) (fun K hK => ?_); refine skip_ (w1 := ?_) (by rfl) rfl ?_ ?_; rotate_left
            ·go_simp; rfl
            refine hK.out _ _ ?_; clear hK K; refine done_ (done_of HT_.out kZ) ?_; have p94 : 0 ≤ ((rd ((rd_T31 l1 x30_2).f1) x121_5) : Int) := of_decide_eq_true tZE; have q94 : ((rd ((rd_T31 l1 x30_2).f1) x121_5) : Int) < ((x6_5.length : Int) : Int) := of_decide_eq_true tZE; replace p94 := eq_true p94; replace q94 := eq_true q94
            try go_wp2_with (first | ((with_reducible refine gate_callee (f := 36) rfl ?_); refine goesL_ (some 140) rfl rfl Try.func36 kZ rfl #[.int .i64 (wrap64 ((rd x6_5 (rd ((rd_T31 l1 x30_2).f1) x121_5)) + (rd t387 x121_5)))] rfl tZA ?_; (with_reducible refine (impl_amount.calls (wrap64 ((rd x6_5 (rd ((rd_T31 l1 x30_2).f1) x121_5)) + (rd t387 x121_5))) false _ A95.out).mono ?_); rintro e w' ⟨rfl, ⟨nd, rfl⟩⟩; refine ⟨_, rfl, ?_⟩))
            go_ret2; exact ⟨_, tZC, by first | exact Kd.R_nil _ _ _ _ _ | exact Kd.N_nil _ _ _ _ _ | exact Kd.V_nil _ _ _ _ _ | exact Kd.Q_nil _ _ _ _ _ | exact Kd.S_nil _ _ _ _ _, bZ⟩
           subst c96; rw [if_pos rfl] at H; have H' := Aside0.mk H; clear H; have p391 : 0 ≤ (x121_5 : Int) := of_decide_eq_true tZE; have q391 : x121_5 < (((rd_T31 l1 x30_2).f1).length : Int) := of_decide_eq_true tZE; obtain ⟨ad391, e391, hx391_0⟩ := Kd.at_int HR373_1.out x121_5 p391 q391
           cases e391
           replace hx391_0 := cZ HB hx391_0; replace p391 := eq_true p391; replace q391 := eq_true q391
           try go_wp2
           replace HO_6 := aZ (Kd.R_drew HO_6.out); replace HO_7 := aZ (Kd.Y_drew HO_7.out); replace HO_13 := aZ (Kd.R_drew HO_13.out); replace BK374 := aZ (blk_drew BK374.out); replace HB := aZ (below_drew1 HB.out); have p392 : 0 ≤ ((rd ((rd_T31 l1 x30_2).f1) x121_5) : Int) := of_decide_eq_true tZE; have q392 : (rd ((rd_T31 l1 x30_2).f1) x121_5) < (x6_5.length : Int) := of_decide_eq_true tZE; obtain ⟨ad392, e392, hx392_0⟩ := Kd.at_int (Kd.R_reads' HO_6.out).2.2 (rd ((rd_T31 l1 x30_2).f1) x121_5) p392 q392; obtain rfl : (⟨go78, 0, none⟩ : Addr) = ad392 := (by injection e392); (first | simp only [add_plain] at hx392_0 | simp only [add_at] at hx392_0 | simp only [Addr.add, Nat.zero_add] at hx392_0 | skip); replace p392 := eq_true p392; replace q392 := eq_true q392; have p393 : 0 ≤ (x121_5 : Int) := of_decide_eq_true tZE; have q393 : x121_5 < (t387.length : Int) := of_decide_eq_true tZE
           obtain ⟨ad393, e393, hx393_0⟩ := Kd.at_int (Kd.R_reads' HO_13.out).2.2 x121_5 p393 q393
           cases e393
           replace p393 := eq_true p393; replace q393 := eq_true q393; have p93 : 0 ≤ ((rd ((rd_T31 l1 x30_2).f1) x121_5) : Int) := of_decide_eq_true tZE; have q93 : ((rd ((rd_T31 l1 x30_2).f1) x121_5) : Int) < ((x6_5.length : Int) : Int) := of_decide_eq_true tZE; obtain ⟨hx93_0, hf93_0⟩ := Kd.R_celln 0 HO_6.out ((rd ((rd_T31 l1 x30_2).f1) x121_5) : Int) p93 q93; replace p93 := eq_true p93; replace q93 := eq_true q93; (try clear GG78); obtain ⟨cl98_, hgg98_⟩ := Kd.R_typed (HO_6.out) go78 rfl; have GG78 := Aside0.mk hgg98_; clear hgg98_; have HP98 := Kd.R_putn HO_6.out ((rd ((rd_T31 l1 x30_2).f1) x121_5) : Int) (wrap64 ((rd x6_5 (rd ((rd_T31 l1 x30_2).f1) x121_5)) + (rd t387 x121_5))); rw [← Ny394.out] at HP98; have HQ98 := Aside0.mk HP98; clear HP98
           refine start_ (n := 11) (S := fun w' => w'.cell? ⟨go78, ((rd ((rd_T31 l1 x30_2).f1) x121_5)).toNat, none⟩ = some (.int .i64 (rd x6_5 (rd ((rd_T31 l1 x30_2).f1) x121_5))) ∧ w'.cell? (ad393.add (x121_5).toNat) = some (.int .i64 (rd t387 x121_5))) (ds := [10]) L10' kZ rfl rfl ⟨hx392_0, hx393_0⟩ (fun hHeld => ?_); refine with_tabW impl_StepDown.tab26 impl_StepDown.bits26 (fun HT_ HW_ => ?_); generalize wr.drew = w97 at HO_6 HO_7 HO_13 BK374 HB GG78 HQ98 hf93_0 hx392_0 hx393_0 hx93_0 hHeld ⊢; refine pure_ (i := 0) (N := some 126) (v := ?_) (a' := ?_) L11' rfl rfl (any_of HT_.out kZ) (fun _ _ _ h => h) (Or.inl ⟨by rfl, ?_⟩) ?_ ?_; rotate_left
           ·intro w'; go_simp; with_reducible rfl
           rotate_left
           ·simp only [Act.put, sZ1, sZ2, sZ3, i64_w, i32_w]; rfl
           refine pure_ (i := 1) (N := some 127) (v := ?_) (a' := ?_) L12' rfl rfl (any_of HT_.out kZ) (fun _ _ _ h => h) (Or.inl ⟨by rfl, ?_⟩) ?_ ?_; rotate_left
           ·intro w'; go_simp; with_reducible rfl
           rotate_left
           ·simp only [Act.put, sZ1, sZ2, sZ3, i64_w, i32_w]; rfl
           refine pure_ (i := 2) (N := some 128) (v := ?_) (a' := ?_) L13' rfl rfl (any_of HT_.out kZ) (fun _ _ _ h => h) (Or.inl ⟨by rfl, ?_⟩) ?_ ?_; rotate_left
           ·intro w'; go_simp; with_reducible rfl
           rotate_left
           ·simp only [Act.put, sZ1, sZ2, sZ3, i64_w, i32_w]; rfl
           refine pure_ (i := 4) (N := some 130) (v := ?_) (a' := ?_) L14' rfl rfl (any_of HT_.out kZ) (fun _ _ _ h => h) (Or.inl ⟨by rfl, ?_⟩) ?_ ?_; rotate_left
           ·intro w'; go_simp; with_reducible rfl
           rotate_left
           ·simp only [Act.put, sZ1, sZ2, sZ3, i64_w, i32_w]; rfl
           refine pure_ (i := 5) (N := some 131) (v := ?_) (a' := ?_) L15' rfl rfl (any_of HT_.out kZ) (fun _ _ _ h => h) (Or.inl ⟨by rfl, ?_⟩) ?_ ?_; rotate_left
           ·intro w'; go_simp; with_reducible rfl
           rotate_left
           ·simp only [Act.put, sZ1, sZ2, sZ3, i64_w, i32_w]; rfl
           refine pure_ (i := 6) (N := some 132) (v := ?_) (a' := ?_) L16' rfl rfl (any_of HT_.out kZ) (fun _ _ _ h => h) (Or.inl ⟨by rfl, ?_⟩) ?_ ?_; rotate_left
           ·intro w'; go_simp; with_reducible rfl
           rotate_left
           ·simp only [Act.put, sZ1, sZ2, sZ3, i64_w, i32_w]; rfl
           refine take_ (i := 3) (N := some 129) (v := ?_) (a' := ?_) L17' rfl rfl (take_ofW HT_.out HW_.out kZ) (fun _ _ _ h => h) (Or.inl ⟨by rfl, ?_⟩) hHeld ?_ ?_; rotate_left
           ·rintro w' ⟨s0, s1⟩
            go_simp; with_reducible rfl
           rotate_left
           ·simp only [Act.put, sZ1, sZ2, sZ3, i64_w, i32_w]; rfl
           refine take_ (i := 7) (N := some 133) (v := ?_) (a' := ?_) L18' rfl rfl (take_ofW HT_.out HW_.out kZ) (fun _ _ _ h => h) (Or.inl ⟨by rfl, ?_⟩) hHeld ?_ ?_; rotate_left
           ·rintro w' ⟨s0, s1⟩
            go_simp; with_reducible rfl
           rotate_left
           ·simp only [Act.put, sZ1, sZ2, sZ3, i64_w, i32_w]; rfl
           refine pure_ (i := 8) (N := some 134) (v := ?_) (a' := ?_) L19' rfl rfl (any_of HT_.out kZ) (fun _ _ _ h => h) (Or.inl ⟨by rfl, ?_⟩) ?_ ?_; rotate_left
           ·intro w'; go_simp; with_reducible rfl
           rotate_left
           ·simp only [Act.put, sZ1, sZ2, sZ3, i64_w, i32_w]; rfl
           refine pure_ (i := 9) (N := some 135) (v := ?_) (a' := ?_) L20' rfl rfl (any_of HT_.out kZ) (fun _ _ _ h => h) (Or.inl ⟨by rfl, ?_⟩) ?_ ?_; rotate_left
           ·intro w'; go_simp; with_reducible rfl
           rotate_left
           ·simp only [Act.put, sZ1, sZ2, sZ3, i64_w, i32_w]; rfl
           refine last_ (i := 10) (N := none) L21' rfl rfl (one_of HT_.out kZ) (by decide) (fun K hK => ?_); refine skip_ (w1 := ?_) (by rfl) rfl ?_ ?_; rotate_left
           ·go_simp; rfl
           refine hK.out _ _ ?_; clear hK K; refine done_ (done_of HT_.out kZ) ?_; have p94 : 0 ≤ ((rd ((rd_T31 l1 x30_2).f1) x121_5) : Int) := of_decide_eq_true tZE; have q94 : ((rd ((rd_T31 l1 x30_2).f1) x121_5) : Int) < ((x6_5.length : Int) : Int) := of_decide_eq_true tZE; replace p94 := eq_true p94; replace q94 := eq_true q94
           try go_wp2_with (first | ((with_reducible refine gate_callee (f := 36) rfl ?_); refine goesL_ (some 140) rfl rfl Try.func36 kZ rfl #[.int .i64 (wrap64 ((rd x6_5 (rd ((rd_T31 l1 x30_2).f1) x121_5)) + (rd t387 x121_5)))] rfl tZA ?_; (with_reducible refine (impl_amount.calls (wrap64 ((rd x6_5 (rd ((rd_T31 l1 x30_2).f1) x121_5)) + (rd t387 x121_5))) true _ A95.out).mono ?_); rintro e w' ⟨rfl, ⟨nd, rfl⟩⟩; refine ⟨_, rfl, ?_⟩))
           (try simp only [← hl6_5])
           go_roundg k5
           case measure => have := HJ2.out; have := HK2.out; have := HJ15.out; have := HK4.out; have := HK5.out; omega
           case rel => exact ⟨(y394), (wrap64 (x121_5 + 1)), tZB, H', ⟨by have := HJ2.out; have := HK2.out; have := HJ15.out; have := HK4.out; have := HK5.out; omega⟩, ⟨by (try simp only [hl6_5]); (with_reducible repeat (first | apply Kd.R_alloc | apply Kd.R_drewN | apply Kd.R_drew)); exact HQ98.out⟩, ⟨by (try simp only [hl6_5]); (with_reducible repeat (first | apply Kd.Y_alloc | apply Kd.Y_drewN | apply Kd.Y_drew)); exact Kd.Y_mono (Kd.Y_far (p := ⟨go78, ((rd ((rd_T31 l1 x30_2).f1) x121_5) : Int).toNat, none⟩) (Kd.Y_types HO_7.out GG78.out (by decide)) (fun _ hk => hk.2) (.int .i64 (wrap64 ((rd x6_5 (rd ((rd_T31 l1 x30_2).f1) x121_5)) + (rd t387 x121_5))))) (fun _ hk => trivial)⟩, ⟨by (try simp only [hl6_5]); (with_reducible repeat (first | apply Kd.R_alloc | apply Kd.R_drewN | apply Kd.R_drew)); exact Kd.R_mono (Kd.R_far (p := ⟨go78, ((rd ((rd_T31 l1 x30_2).f1) x121_5) : Int).toNat, none⟩) (Kd.R_mono HO_13.out (fun k_ hk => (⟨hk, fun e_ => hk (by rw [e_]; rfl)⟩ : _ ∧ k_ ≠ go78))) (fun _ hk => hk.2) (.int .i64 (wrap64 ((rd x6_5 (rd ((rd_T31 l1 x30_2).f1) x121_5)) + (rd t387 x121_5))))) (fun _ hk => hk.1)⟩, ⟨by (try simp only [hl6_5]); (with_reducible repeat (first | refine blk_drewN ?_ _ | refine blk_drew ?_ | refine blk_alloc ?_ _)); refine blk_far ?_ (by have h_ := Kd.R_ne HO_6.out BK374.out (by decide); intro e_; exact h_ (by rw [e_]; rfl)) _; (with_reducible repeat (first | refine blk_drewN ?_ _ | refine blk_drew ?_ | refine blk_alloc ?_ _)); exact BK374.out⟩, ⟨bZ⟩⟩
end Go.Proofs.Ytfkakbpjddgmeaa.PFnHandedOn
