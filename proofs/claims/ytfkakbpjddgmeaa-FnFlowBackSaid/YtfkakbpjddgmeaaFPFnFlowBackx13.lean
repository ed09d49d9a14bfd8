import Derived.Test.YtfkakbpjddgmeaaFPFnFlowBackx0
import Derived.Test.YtfkakbpjddgmeaaFPFnFlowBackx10
import Derived.Test.YtfkakbpjddgmeaaFSlimWords
namespace Go.Proofs.Ytfkakbpjddgmeaa.PFnFlowBack
open Go.Proofs.Ytfkakbpjddgmeaa.SlimWords
open Go.RowKit Go.Proofs.YtfkakbpjddgmeaaW.PrintWords Go.Proofs.YtfkakbpjddgmeaaW.PrintLast Go.Proofs.YtfkakbpjddgmeaaW.PrintMore Go.Proofs.Ytfkakbpjddgmeaa.MapWords Go.Proofs.Ytfkakbpjddgmeaa.IterWords Go.Proofs.Ytfkakbpjddgmeaa.MarkWords
attribute [local go_sem] max2_int min2_int max_two min_two max_three min_three max_four min_four
set_option linter.unusedVariables false
set_option linter.unusedSimpArgs false
private abbrev I' := true
private abbrev O' := false
private abbrev L0' : Array Bool := #[O',O',O',O',O',O',O',O',O',O',O']
private abbrev L1' : Array Bool := #[I',O',O',O',O',O',O',O',O',O',O']
private abbrev L2' : Array Bool := #[I',I',O',O',O',O',O',O',O',O',O']
private abbrev L3' : Array Bool := #[I',I',O',I',O',O',O',O',O',O',O']
private abbrev L4' : Array Bool := #[I',I',O',I',I',O',O',O',O',O',O']
private abbrev L5' : Array Bool := #[I',I',O',I',I',I',O',O',O',O',O']
private abbrev L6' : Array Bool := #[I',I',O',I',I',I',I',O',O',O',O']
private abbrev L7' : Array Bool := #[I',I',O',I',I',I',I',I',O',O',O']
private abbrev L8' : Array Bool := #[I',I',O',I',I',I',I',I',I',O',O']
private abbrev L9' : Array Bool := #[I',I',I',I',I',I',I',I',I',O',O']
private abbrev L10' : Array Bool := #[I',I',I',I',I',I',I',I',I',I',O']
private abbrev L11' : Array Bool := #[I',I',I',I',I',I',I',I',I',I',I']
def spec_l1Amount.f (a0 : Int) : Option (Bool) := (spec_l1In.f a0 (-100000000000) 100000000000).bind fun t343 => (some t343)
set_option maxHeartbeats 8000000 in
set_option maxRecDepth 100000 in
theorem spec_l1Amount.calls (a0 : Int) (r : Bool) (w : World) (h : spec_l1Amount.f a0 = some r) :
    Calls Try.prog 41 #[.int .i64 a0] w fun e w' => e = .returned (.bool r) ∧ Drawn0 w w' := by
 have H : ((spec_l1In.f a0 (-100000000000) 100000000000).bind fun t343 => (some t343)) = some r := h; clear h; replace H := Option.bind_eq_some_iff.mp H; obtain ⟨t343, A20, H⟩ := H; replace H : (some t343) = some r := H; have A2 := Aside0.mk A20; clear A20; obtain rfl := Option.some.inj H; go_enter Try.func41, Try.ntmps41
 go_wp2_with (first | ((with_reducible refine gate_callee (f := 38) rfl ?_); refine goesL_ (some 4) rfl rfl Try.func38 kZ rfl #[.int .i64 a0, .int .i64 (-100000000000), .int .i64 100000000000] rfl tZA ?_; (with_reducible refine (spec_l1In.calls a0 (-100000000000) 100000000000 t343 _ A2.out).mono ?_); rintro e w' ⟨rfl, ⟨nd, rfl⟩⟩; refine ⟨_, rfl, ?_⟩))
 go_ret; exact ⟨tZB, tZD⟩
def spec_l1Ten.l0 : Nat → Int → Int → Option (Int)
  | 0, _, _ => none
  | k + 1, x0, x3 => if x0 > 0 then (spec_l1Ten.l0 k (wrap64 (x0 - 1)) (wrap64 (x3 * 10))) else (some x3)
def spec_l1Ten.f (k : Nat) (a0 : Int) : Option (Int) := spec_l1Ten.l0 k a0 1
theorem spec_l1Ten.mono_l : ∀ k, (∀ y0 y1, LeO (spec_l1Ten.l0 k y0 y1) (spec_l1Ten.l0 (k + 1) y0 y1))
  | 0 => fun _ _ r h => by simp [spec_l1Ten.l0] at h
  | k + 1 => by
    have ih0 := spec_l1Ten.mono_l k
    · intro y0 y1
      unfold spec_l1Ten.l0
      repeat' first
      | (with_reducible exact ih0 _ _)
      | (with_reducible exact LeO.refl _)
      | (with_reducible exact LeO.none _)
      | (with_reducible refine LeO.ite ?_ ?_)
      | (with_reducible refine LeO.bind ?_ (fun _ => ?_))
      | exact ih0 _ _
      | exact LeO.none _
      | refine LeO.ite ?_ ?_
      | refine LeO.bind ?_ (fun _ => ?_)
theorem spec_l1Ten.mono : ∀ a0 k, LeO (spec_l1Ten.f k a0) (spec_l1Ten.f (k + 1) a0) := by
 intro a0 k
 have ih0 := spec_l1Ten.mono_l k
 unfold spec_l1Ten.f
 repeat' first
     | (with_reducible exact ih0 _ _)
     | (with_reducible exact LeO.refl _)
     | (with_reducible exact LeO.none _)
     | (with_reducible refine LeO.ite ?_ ?_)
     | (with_reducible refine LeO.bind ?_ (fun _ => ?_))
     | exact ih0 _ _
     | exact LeO.none _
     | refine LeO.ite ?_ ?_
     | refine LeO.bind ?_ (fun _ => ?_)
set_option maxHeartbeats 8000000 in
set_option maxRecDepth 100000 in
theorem spec_l1Ten.calls (k : Nat) (a0 : Int) (r : Int) (w : World) (h : spec_l1Ten.f k a0 = some r) :
    Calls Try.prog 89 #[.int .i64 a0] w fun e w' => e = .returned (.int .i64 r) ∧ Drawn0 w w' := by
 have H : (spec_l1Ten.l0 k a0 1) = some r := h; clear h; have H' := Aside0.mk H; clear H; go_enter Try.func89, Try.ntmps89; go_wp2
 go_loopg [0, 3] k (fun kq v0 v3 w' => ∃ (x0_1 : Int) (x3_1 : Int), v0 = .int .i64 x0_1 ∧ v3 = .int .i64 x3_1 ∧ Aside0 (spec_l1Ten.l0 kq x0_1 x3_1 = some r) ∧ Aside0 (kq ≤ k) ∧ Drawn0 w w')
 case atStart => exact ⟨(a0), (1), tZB, tZB, H', ⟨Nat.le_refl _⟩, tZD⟩
 case round =>
  clear H'; obtain ⟨x0_1, x3_1, rfl, rfl, HA, HK1, ⟨m1, rfl⟩⟩ := hrel
  cases gk with
  | zero => exact absurd HA.out (by simp [spec_l1Ten.l0])
  | succ k1 =>
   have H := HA.out; clear HA; simp only [spec_l1Ten.l0] at H
   by_cases c2 : x0_1 > 0
   rotate_left
   ·rw [if_neg c2] at H; have c2b0 : decide (0 < x0_1) = false := decide_eq_false c2; clear c2; obtain rfl := Option.some.inj H; go_wp2; go_ret; exact ⟨tZB, tZD⟩
   rw [if_pos c2] at H; have c2b0 : decide (0 < x0_1) = true := decide_eq_true c2; clear c2; have H' := Aside0.mk H; clear H; go_wp2
   go_roundg k1
   case measure => have := HK1.out; omega
   case rel => exact ⟨(wrap64 (x0_1 - 1)), (wrap64 (x3_1 * 10)), tZB, tZB, H', ⟨by have := HK1.out; omega⟩, tZD⟩
def spec_l1Text.f : Nat → Int → Option (ByteArray)
  | 0, _ => none
  | k + 1, a0 => if a0 < 0 then ((spec_l1Text.f k (wrap64 (-a0))).bind fun t344 => (if 1 + t344.size ≤ 9223372036854775807 then (some ((⟨#[45]⟩ : ByteArray) ++ t344)) else (none))) else (if a0 < 10 then (if 0 ≤ a0 then (if a0 ≤ (wrap64 (a0 + 1)) then (if (wrap64 (a0 + 1)) ≤ 10 then (some ((⟨#[48, 49, 50, 51, 52, 53, 54, 55, 56, 57]⟩ : ByteArray).extract (a0 : Int).toNat ((wrap64 (a0 + 1)) : Int).toNat)) else (none)) else (none)) else (none)) else ((spec_l1Text.f k (wrap64 (Int.tdiv a0 10))).bind fun t345 => (if 0 ≤ (Int.tmod a0 10) then (if (Int.tmod a0 10) ≤ (wrap64 ((Int.tmod a0 10) + 1)) then (if (wrap64 ((Int.tmod a0 10) + 1)) ≤ 10 then (if t345.size + ((⟨#[48, 49, 50, 51, 52, 53, 54, 55, 56, 57]⟩ : ByteArray).extract ((Int.tmod a0 10) : Int).toNat ((wrap64 ((Int.tmod a0 10) + 1)) : Int).toNat).size ≤ 9223372036854775807 then (some (t345 ++ ((⟨#[48, 49, 50, 51, 52, 53, 54, 55, 56, 57]⟩ : ByteArray).extract ((Int.tmod a0 10) : Int).toNat ((wrap64 ((Int.tmod a0 10) + 1)) : Int).toNat))) else (none)) else (none)) else (none)) else (none))))
theorem spec_l1Text.mono_l : ∀ k, (∀ y0, LeO (spec_l1Text.f k y0) (spec_l1Text.f (k + 1) y0))
  | 0 => fun _ r h => by simp [spec_l1Text.f] at h
  | k + 1 => by
    have ih0 := spec_l1Text.mono_l k
    · intro y0
      unfold spec_l1Text.f
      repeat' first
      | (with_reducible exact ih0 _)
      | (with_reducible exact LeO.refl _)
      | (with_reducible exact LeO.none _)
      | (with_reducible refine LeO.ite ?_ ?_)
      | (with_reducible refine LeO.bind ?_ (fun _ => ?_))
      | exact ih0 _
      | exact LeO.none _
      | refine LeO.ite ?_ ?_
      | refine LeO.bind ?_ (fun _ => ?_)
theorem spec_l1Text.mono : ∀ a0 k, LeO (spec_l1Text.f k a0) (spec_l1Text.f (k + 1) a0) := by
 intro a0 k
 have ih0 := spec_l1Text.mono_l k
 exact ih0 a0
def spec_l1Text.T5 : Bool × List (List Nat × List Nat) := (true, [([], []), ([0], [0]), ([1], [1]), ([], []), ([3], [3]), ([], []), ([5], [5]), ([6], [6]), ([4, 7], [4, 7]), ([2, 8], [2, 8]), ([9, 2, 0, 1, 2, 3, 4, 5, 6, 7, 8, 9], [9])])
def spec_l1Text.B5 : List Nat := [0, 1, 3, 0, 8, 0, 32, 96, 248, 511, 1023]
theorem spec_l1Text.tab5 : rtab .any (opsOf Try.f90 5) = spec_l1Text.T5 := by kernel_rfl
theorem spec_l1Text.bits5 : waitsOk spec_l1Text.T5.2 spec_l1Text.B5 = true := by kernel_rfl
set_option maxHeartbeats 8000000 in
set_option maxRecDepth 100000 in
theorem spec_l1Text.calls (k : Nat) : ∀ (a0 : Int) (r : ByteArray) (w : World) (h : spec_l1Text.f k a0 = some r),
    Calls Try.prog 90 #[.int .i64 a0] w fun e w' => e = .returned (.string r) ∧ Below w.heap.size w w' := by
 induction k using Nat.strongRecOn with
 | _ k ih =>
 intro a0 r w h
 cases k with
 | zero => exact absurd h (by simp [spec_l1Text.f])
 | succ k =>
 simp only [spec_l1Text.f] at h; have HB := aZ (Below.refl w.heap.size w)
 have H : (if a0 < 0 then ((spec_l1Text.f k (wrap64 (-a0))).bind fun t344 => (if 1 + t344.size ≤ 9223372036854775807 then (some ((⟨#[45]⟩ : ByteArray) ++ t344)) else (none))) else (if a0 < 10 then (if 0 ≤ a0 then (if a0 ≤ (wrap64 (a0 + 1)) then (if (wrap64 (a0 + 1)) ≤ 10 then (some ((⟨#[48, 49, 50, 51, 52, 53, 54, 55, 56, 57]⟩ : ByteArray).extract (a0 : Int).toNat ((wrap64 (a0 + 1)) : Int).toNat)) else (none)) else (none)) else (none)) else ((spec_l1Text.f k (wrap64 (Int.tdiv a0 10))).bind fun t345 => (if 0 ≤ (Int.tmod a0 10) then (if (Int.tmod a0 10) ≤ (wrap64 ((Int.tmod a0 10) + 1)) then (if (wrap64 ((Int.tmod a0 10) + 1)) ≤ 10 then (if t345.size + ((⟨#[48, 49, 50, 51, 52, 53, 54, 55, 56, 57]⟩ : ByteArray).extract ((Int.tmod a0 10) : Int).toNat ((wrap64 ((Int.tmod a0 10) + 1)) : Int).toNat).size ≤ 9223372036854775807 then (some (t345 ++ ((⟨#[48, 49, 50, 51, 52, 53, 54, 55, 56, 57]⟩ : ByteArray).extract ((Int.tmod a0 10) : Int).toNat ((wrap64 ((Int.tmod a0 10) + 1)) : Int).toNat))) else (none)) else (none)) else (none)) else (none))))) = some r := h
 clear h
 by_cases c2 : a0 < 0
 ·rw [if_pos c2] at H; have c2b0 := decide_eq_true c2; clear c2; replace H := Option.bind_eq_some_iff.mp H; obtain ⟨t344, A30, H⟩ := H; replace H : (if 1 + t344.size ≤ 9223372036854775807 then (some ((⟨#[45]⟩ : ByteArray) ++ t344)) else (none)) = some r := H; have A3 := Aside0.mk A30; clear A30
  by_cases c4 : 1 + t344.size ≤ 9223372036854775807
  rotate_left
  ·rw [if_neg c4] at H; exact absurd H (by simp)
  rw [if_pos c4] at H; have c4b0 := eq_true c4; have c4b1 := decide_eq_true c4
  try have c4b2 := eq_false (Nat.not_lt.2 c4)
  obtain rfl := Option.some.inj H; go_enter Try.func90, Try.ntmps90
  go_wp2_with (first | ((with_reducible refine gate_callee (f := 90) rfl ?_); refine goesL_ (some 7) rfl rfl Try.func90 kZ rfl #[.int .i64 (wrap64 (-a0))] rfl tZA ?_; (with_reducible refine (ih k (by omega) (wrap64 (-a0)) t344 _ A3.out).mono ?_); rintro e w5 ⟨rfl, hb⟩; refine ⟨_, rfl, ?_⟩; replace HB := aZ (below_step (lZB HB.out) hb); (try clear hb); (try clear hb2); (try clear hk); (try clear hi)))
  go_ret; exact ⟨tZC, bZ⟩
 rw [if_neg c2] at H; have c2b0 := decide_eq_false c2; clear c2
 by_cases c6 : a0 < 10
 ·rw [if_pos c6] at H; have c6b0 := decide_eq_true c6; clear c6
  by_cases c7 : 0 ≤ a0
  rotate_left
  ·rw [if_neg c7] at H; exact absurd H (by simp)
  rw [if_pos c7] at H; have c7b0 := eq_true c7; have c7b1 := decide_eq_true c7; clear c7
  by_cases c8 : a0 ≤ (wrap64 (a0 + 1))
  rotate_left
  ·rw [if_neg c8] at H; exact absurd H (by simp)
  rw [if_pos c8] at H; have c8b0 := eq_true c8; have c8b1 := decide_eq_true c8
  by_cases c9 : (wrap64 (a0 + 1)) ≤ 10
  rotate_left
  ·rw [if_neg c9] at H; exact absurd H (by simp)
  rw [if_pos c9] at H; have c9b0 := eq_true c9; have c9b1 := decide_eq_true c9; obtain rfl := Option.some.inj H; go_enter Try.func90, Try.ntmps90; go_wp2; go_ret; exact ⟨tZC, bZ⟩
 rw [if_neg c6] at H; have c6b0 := decide_eq_false c6; clear c6; replace H := Option.bind_eq_some_iff.mp H; obtain ⟨t345, A100, H⟩ := H; replace H : (if 0 ≤ (Int.tmod a0 10) then (if (Int.tmod a0 10) ≤ (wrap64 ((Int.tmod a0 10) + 1)) then (if (wrap64 ((Int.tmod a0 10) + 1)) ≤ 10 then (if t345.size + ((⟨#[48, 49, 50, 51, 52, 53, 54, 55, 56, 57]⟩ : ByteArray).extract ((Int.tmod a0 10) : Int).toNat ((wrap64 ((Int.tmod a0 10) + 1)) : Int).toNat).size ≤ 9223372036854775807 then (some (t345 ++ ((⟨#[48, 49, 50, 51, 52, 53, 54, 55, 56, 57]⟩ : ByteArray).extract ((Int.tmod a0 10) : Int).toNat ((wrap64 ((Int.tmod a0 10) + 1)) : Int).toNat))) else (none)) else (none)) else (none)) else (none)) = some r := H; have A10 := Aside0.mk A100; clear A100; obtain ⟨ji11, hji11⟩ : ∃ j_ : Int, (Int.tmod a0 10) = j_ := ⟨_, rfl⟩
 replace H : (if 0 ≤ (ji11) then (if (ji11) ≤ (wrap64 ((ji11) + 1)) then (if (wrap64 ((ji11) + 1)) ≤ 10 then (if t345.size + ((⟨#[48, 49, 50, 51, 52, 53, 54, 55, 56, 57]⟩ : ByteArray).extract ((ji11) : Int).toNat ((wrap64 ((ji11) + 1)) : Int).toNat).size ≤ 9223372036854775807 then (some (t345 ++ ((⟨#[48, 49, 50, 51, 52, 53, 54, 55, 56, 57]⟩ : ByteArray).extract ((ji11) : Int).toNat ((wrap64 ((ji11) + 1)) : Int).toNat))) else (none)) else (none)) else (none)) else (none)) = some r := by first | (rw [hji11] at H; exact H) | (simp only [hji11] at H ⊢; exact H)
 (try rw [hji11] at A10)
 by_cases c12 : 0 ≤ (ji11)
 rotate_left
 ·rw [if_neg c12] at H; exact absurd H (by simp)
 rw [if_pos c12] at H; have c12b0 := eq_true c12; have c12b1 := decide_eq_true c12; clear c12
 by_cases c13 : (ji11) ≤ (wrap64 ((ji11) + 1))
 rotate_left
 ·rw [if_neg c13] at H; exact absurd H (by simp)
 rw [if_pos c13] at H; have c13b0 := eq_true c13; have c13b1 := decide_eq_true c13
 by_cases c14 : (wrap64 ((ji11) + 1)) ≤ 10
 rotate_left
 ·rw [if_neg c14] at H; exact absurd H (by simp)
 rw [if_pos c14] at H; have c14b0 := eq_true c14; have c14b1 := decide_eq_true c14
 by_cases c15 : t345.size + ((⟨#[48, 49, 50, 51, 52, 53, 54, 55, 56, 57]⟩ : ByteArray).extract ((ji11) : Int).toNat ((wrap64 ((ji11) + 1)) : Int).toNat).size ≤ 9223372036854775807
 rotate_left
 ·rw [if_neg c15] at H; exact absurd H (by simp)
 rw [if_pos c15] at H; have c15b0 := eq_true c15; have c15b1 := decide_eq_true c15
 try have c15b2 := eq_false (Nat.not_lt.2 c15)
 try have c15b5 : (9223372036854775807 < t345.size + ((wrap64 ((ji11) + 1)).toNat - ji11.toNat)) = False := eq_false (by have h_ := c15; have e0_ : wrap64 ((ji11) + 1) ≤ ((⟨#[48, 49, 50, 51, 52, 53, 54, 55, 56, 57]⟩ : ByteArray).size : Int) := of_decide_eq_true tZE; simp only [ByteArray.size_append, ByteArray.size_extract] at h_; omega)
 try have c15b3 : (9223372036854775807 < t345.size + ((((wrap64 ((ji11) + 1)) : Int)).toNat - (((ji11) : Int)).toNat)) = False := eq_false (by have h_ := c15; simp only [ByteArray.size_extract] at h_; have e_ : (⟨#[48, 49, 50, 51, 52, 53, 54, 55, 56, 57]⟩ : ByteArray).size = 10 := rfl; omega)
 obtain rfl := Option.some.inj H; go_enter Try.func90, Try.ntmps90
 try go_wp2
 replace HB := aZ (below_drew1 HB.out); refine start_ (n := 11) (S := fun w' => True) (ds := []) L0' kZ rfl rfl trivial (fun hHeld => ?_); refine with_tabW spec_l1Text.tab5 spec_l1Text.bits5 (fun HT_ HW_ => ?_); generalize w.drew = w16 at HB hHeld ⊢; refine pure_ (i := 0) (N := some 15) (v := ?_) (a' := ?_) L1' rfl rfl (any_of HT_.out kZ) (fun _ _ _ h => h) (Or.inl ⟨by rfl, ?_⟩) ?_ ?_; rotate_left
 ·intro w'; go_simp; with_reducible rfl
 rotate_left
 ·simp only [Act.put, sZ1, sZ2, sZ3, i64_w, i32_w]; rfl
 refine pure_ (i := 1) (N := some 16) (v := ?_) (a' := ?_) L2' rfl rfl (any_of HT_.out kZ) (fun _ _ _ h => h) (Or.inl ⟨by rfl, ?_⟩) ?_ ?_; rotate_left
 ·intro w'; go_simp; with_reducible rfl
 rotate_left
 ·simp only [Act.put, sZ1, sZ2, sZ3, i64_w, i32_w]; rfl
 refine pure_ (i := 3) (N := some 18) (v := ?_) (a' := ?_) L3' rfl rfl (any_of HT_.out kZ) (fun _ _ _ h => h) (Or.inl ⟨by rfl, ?_⟩) ?_ ?_; rotate_left
 ·intro w'; go_simp; with_reducible rfl
 rotate_left
 ·simp only [Act.put, sZ1, sZ2, sZ3, i64_w, i32_w]; rfl
 refine pure_ (i := 4) (N := some 19) (v := ?_) (a' := ?_) L4' rfl rfl (any_of HT_.out kZ) (fun _ _ _ h => h) (Or.inl ⟨by rfl, ?_⟩) ?_ ?_; rotate_left
 ·intro w'; go_simp; with_reducible rfl
 rotate_left
 ·simp only [Act.put, sZ1, sZ2, sZ3, i64_w, i32_w]; rfl
 refine pure_ (i := 5) (N := some 20) (v := ?_) (a' := ?_) L5' rfl rfl (any_of HT_.out kZ) (fun _ _ _ h => h) (Or.inl ⟨by rfl, ?_⟩) ?_ ?_; rotate_left
 ·intro w'; go_simp; with_reducible rfl
 rotate_left
 ·simp only [Act.put, sZ1, sZ2, sZ3, i64_w, i32_w]; rfl
 refine pure_ (i := 6) (N := some 21) (v := ?_) (a' := ?_) L6' rfl rfl (any_of HT_.out kZ) (fun _ _ _ h => h) (Or.inl ⟨by rfl, ?_⟩) ?_ ?_; rotate_left
 ·intro w'; go_simp; with_reducible rfl
 rotate_left
 ·simp only [Act.put, sZ1, sZ2, sZ3, i64_w, i32_w]; rfl
 refine pure_ (i := 7) (N := some 22) (v := ?_) (a' := ?_) L7' rfl rfl (any_of HT_.out kZ) (fun _ _ _ h => h) (Or.inl ⟨by rfl, ?_⟩) ?_ ?_; rotate_left
 ·intro w'; go_simp; with_reducible rfl
 rotate_left
 ·simp only [Act.put, sZ1, sZ2, sZ3, i64_w, i32_w]; rfl
 refine pure_ (i := 8) (N := some 23) (v := ?_) (a' := ?_) L8' rfl rfl (any_of HT_.out kZ) (fun _ _ _ h => h) (Or.inl ⟨by rfl, ?_⟩) ?_ ?_; rotate_left
 ·intro w'; go_simp; with_reducible rfl
 rotate_left
 ·simp only [Act.put, sZ1, sZ2, sZ3, i64_w, i32_w]; rfl
 refine one_ (i := 2) (N := some 17) L9' rfl rfl (one_of HT_.out kZ) (by decide) (fun K hK => ?_); refine goes_ Try.func90 kZ rfl #[.int .i64 (wrap64 (Int.tdiv a0 10))] (by rfl) rfl rfl tZA ?_
 with_reducible refine (ih k (by omega) (wrap64 (Int.tdiv a0 10)) t345 _ A10.out).mono ?_
 rintro e w17 ⟨rfl, hb⟩
 refine ⟨_, rfl, ?_⟩; replace HB := aZ (below_step (lZB HB.out) hb); (try clear hb); (try clear hb2); (try clear hk); (try clear hi); refine hK.out _ _ trivial (fun hHeld => ?_); clear hK K; refine norm_ (a' := ?_) ?_ ?_; rotate_left
 ·show Act.put _ (some 17) _ = _
  simp only [Act.put, sZ1, sZ2, sZ3, i64_w, i32_w]; rfl
 refine pure_ (i := 9) (N := some 24) (v := ?_) (a' := ?_) L10' rfl rfl (any_of HT_.out kZ) (fun _ _ _ h => h) (Or.inl ⟨by rfl, ?_⟩) ?_ ?_; rotate_left
 ·intro w'; go_simp; with_reducible rfl
 rotate_left
 ·simp only [Act.put, sZ1, sZ2, sZ3, i64_w, i32_w]; rfl
 refine pure_ (i := 10) (N := some 2) (v := ?_) (a' := ?_) L11' rfl rfl (any_of HT_.out kZ) (fun _ _ _ h => h) (Or.inl ⟨by rfl, ?_⟩) ?_ ?_; rotate_left
 ·intro w'; go_simp; with_reducible rfl
 rotate_left
 ·simp only [Act.put, sZ1, sZ2, sZ3, i64_w, i32_w]; rfl
 refine done_ (done_of HT_.out kZ) ?_
 try go_wp2
 go_ret; exact ⟨by first | rfl | (simp [errW_none, errW_some] <;> rfl) | (simp only [← hji11]; first | rfl | (simp [errW_none, errW_some] <;> rfl)) | (simp [*, errW_none, errW_some] <;> rfl), bZ⟩
mutual
def spec_ShowMoney.j0 : Nat → Int → Int → Bool → Option (ByteArray)
  | 0, _, _, _ => none
  | k + 1, x0, x1, x15 => if x15 = true then (some (⟨#[]⟩ : ByteArray)) else (if x0 < 0 then ((spec_ShowMoney.f k (wrap64 (-x0)) x1).bind fun t348 => (if 1 + t348.size ≤ 9223372036854775807 then (some ((⟨#[45]⟩ : ByteArray) ++ t348)) else (none))) else ((spec_l1Ten.f k x1).bind fun t349 => (if t349 = 0 then (none) else ((spec_l1Text.f k (wrap64 (Int.tdiv x0 t349))).bind fun t350 => (if x1 > 0 then ((spec_l1Text.f k (wrap64 (t349 + (Int.tmod x0 t349)))).bind fun t351 => (if t350.size + 1 ≤ 9223372036854775807 then (if 1 ≤ (t351.size : Int) then (if (t350 ++ (⟨#[46]⟩ : ByteArray)).size + (t351.extract 1 t351.size).size ≤ 9223372036854775807 then (some ((t350 ++ (⟨#[46]⟩ : ByteArray)) ++ (t351.extract 1 t351.size))) else (none)) else (none)) else (none))) else (some t350))))))
def spec_ShowMoney.f : Nat → Int → Int → Option (ByteArray)
  | 0, _, _ => none
  | k + 1, a0, a1 => (spec_l1Amount.f a0).bind fun t346 => (if t346 = true then ((spec_l1In.f a1 0 6).bind fun t347 => (spec_ShowMoney.j0 k a0 a1 (!t347))) else (spec_ShowMoney.j0 k a0 a1 true))
end
theorem spec_ShowMoney.mono_l : ∀ k, (∀ y0 y1, LeO (spec_ShowMoney.f k y0 y1) (spec_ShowMoney.f (k + 1) y0 y1)) ∧ (∀ y0 y1 y2, LeO (spec_ShowMoney.j0 k y0 y1 y2) (spec_ShowMoney.j0 (k + 1) y0 y1 y2))
  | 0 => ⟨fun _ _ r h => by simp [spec_ShowMoney.f] at h, fun _ _ _ r h => by simp [spec_ShowMoney.j0] at h⟩
  | k + 1 => by
    obtain ⟨ih0, ih1⟩ := spec_ShowMoney.mono_l k
    refine ⟨?_, ?_⟩
    · intro y0 y1
      unfold spec_ShowMoney.f
      repeat' first
      | (with_reducible exact ih0 _ _)
      | (with_reducible exact ih1 _ _ _)
      | (with_reducible exact spec_l1Ten.mono _ _)
      | (with_reducible exact spec_l1Text.mono _ _)
      | (with_reducible exact LeO.refl _)
      | (with_reducible exact LeO.none _)
      | (with_reducible refine LeO.ite ?_ ?_)
      | (with_reducible refine LeO.bind ?_ (fun _ => ?_))
      | exact ih0 _ _
      | exact ih1 _ _ _
      | exact spec_l1Ten.mono _ _
      | exact spec_l1Text.mono _ _
      | exact LeO.none _
      | refine LeO.ite ?_ ?_
      | refine LeO.bind ?_ (fun _ => ?_)
    · intro y0 y1 y2
      unfold spec_ShowMoney.j0
      repeat' first
      | (with_reducible exact ih0 _ _)
      | (with_reducible exact ih1 _ _ _)
      | (with_reducible exact spec_l1Ten.mono _ _)
      | (with_reducible exact spec_l1Text.mono _ _)
      | (with_reducible exact LeO.refl _)
      | (with_reducible exact LeO.none _)
      | (with_reducible refine LeO.ite ?_ ?_)
      | (with_reducible refine LeO.bind ?_ (fun _ => ?_))
      | exact ih0 _ _
      | exact ih1 _ _ _
      | exact spec_l1Ten.mono _ _
      | exact spec_l1Text.mono _ _
      | exact LeO.none _
      | refine LeO.ite ?_ ?_
      | refine LeO.bind ?_ (fun _ => ?_)
theorem spec_ShowMoney.mono : ∀ a0 a1 k, LeO (spec_ShowMoney.f k a0 a1) (spec_ShowMoney.f (k + 1) a0 a1) := by
 intro a0 a1 k
 obtain ⟨ih0, ih1⟩ := spec_ShowMoney.mono_l k
 exact ih0 a0 a1
set_option maxHeartbeats 8000000 in
set_option maxRecDepth 100000 in
theorem spec_ShowMoney.calls (k : Nat) : ∀ (a0 : Int) (a1 : Int) (r : ByteArray) (w : World) (h : spec_ShowMoney.f k a0 a1 = some r),
    Calls Try.prog 77 #[.int .i64 a0, .int .i64 a1] w fun e w' => e = .returned (.string r) ∧ Below w.heap.size w w' := by
 induction k using Nat.strongRecOn with
 | _ k ih =>
 intro a0 a1 r w h
 cases k with
 | zero => exact absurd h (by simp [spec_ShowMoney.f])
 | succ k =>
 simp only [spec_ShowMoney.f] at h; have HB := aZ (Below.refl w.heap.size w); have H : ((spec_l1Amount.f a0).bind fun t346 => (if t346 = true then ((spec_l1In.f a1 0 6).bind fun t347 => (spec_ShowMoney.j0 k a0 a1 (!t347))) else (spec_ShowMoney.j0 k a0 a1 true))) = some r := h; clear h; have HC3 := Aside0.mk H; clear H; go_enter Try.func77, Try.ntmps77
 go_upto_region 1 with (fail)
 go_cut [15] (fun v15 wc => ∃ (kq : Nat) (x15_2 : Bool), v15 = .bool x15_2 ∧ Aside0 (spec_ShowMoney.j0 kq a0 a1 x15_2 = some r) ∧ Aside0 (kq ≤ k) ∧ Aside0 (Below w.heap.size w wc))
 case first =>
  have H := HC3.out; clear HC3; replace H := Option.bind_eq_some_iff.mp H; obtain ⟨t346, A40, H⟩ := H; replace H : (if t346 = true then ((spec_l1In.f a1 0 6).bind fun t347 => (spec_ShowMoney.j0 k a0 a1 (!t347))) else (spec_ShowMoney.j0 k a0 a1 true)) = some r := H; have A4 := Aside0.mk A40; clear A40
  by_cases c5 : t346 = true
  rotate_left
  ·replace c5 := Bool.eq_false_iff.mpr c5; subst c5; rw [if_neg Bool.false_ne_true] at H; have H' := Aside0.mk H; clear H
   go_wp2_with (first | ((with_reducible refine gate_callee (f := 41) rfl ?_); refine goesL_ (some 9) rfl rfl Try.func41 kZ rfl #[.int .i64 a0] rfl tZA ?_; (with_reducible refine (spec_l1Amount.calls a0 false _ A4.out).mono ?_); rintro e w' ⟨rfl, ⟨nd, rfl⟩⟩; refine ⟨_, rfl, ?_⟩))
   go_meet
   case rel => exact ⟨_, (true), tZB, H', ⟨by first | omega | exact Nat.le_refl _⟩, ⟨bZ⟩⟩
  subst c5; rw [if_pos rfl] at H; replace H := Option.bind_eq_some_iff.mp H; obtain ⟨t347, A60, H⟩ := H; replace H : (spec_ShowMoney.j0 k a0 a1 (!t347)) = some r := H; have A6 := Aside0.mk A60; clear A60; have H' := Aside0.mk H; clear H
  go_wp2_with (first | ((with_reducible refine gate_callee (f := 41) rfl ?_); refine goesL_ (some 9) rfl rfl Try.func41 kZ rfl #[.int .i64 a0] rfl tZA ?_; (with_reducible refine (spec_l1Amount.calls a0 true _ A4.out).mono ?_); rintro e w' ⟨rfl, ⟨nd, rfl⟩⟩; refine ⟨_, rfl, ?_⟩) | (go_at_call 38; (with_reducible refine (spec_l1In.calls a1 0 6 t347 _ A6.out).mono ?_); rintro e w' ⟨rfl, ⟨nd, rfl⟩⟩))
  go_meet
  case rel => exact ⟨_, (!t347), tZB, H', ⟨by first | omega | exact Nat.le_refl _⟩, ⟨bZ⟩⟩
 case rest =>
  clear HC3; obtain ⟨kq, x15_2, rfl, HA, HJ2, HB⟩ := hcut
  cases kq with
  | zero => exact absurd HA.out (by simp [spec_ShowMoney.j0])
  | succ kj2 =>
   have H := HA.out; clear HA; simp only [spec_ShowMoney.j0] at H
   by_cases c7 : x15_2 = true
   ·subst c7; rw [if_pos rfl] at H; obtain rfl := Option.some.inj H; go_wp2; go_ret; exact ⟨tZC, bZ⟩
   replace c7 := Bool.eq_false_iff.mpr c7; subst c7; rw [if_neg Bool.false_ne_true] at H
   by_cases c8 : a0 < 0
   ·rw [if_pos c8] at H; have c8b0 := decide_eq_true c8; clear c8; replace H := Option.bind_eq_some_iff.mp H; obtain ⟨t348, A90, H⟩ := H; replace H : (if 1 + t348.size ≤ 9223372036854775807 then (some ((⟨#[45]⟩ : ByteArray) ++ t348)) else (none)) = some r := H; have A9 := Aside0.mk A90; clear A90
    by_cases c10 : 1 + t348.size ≤ 9223372036854775807
    rotate_left
    ·rw [if_neg c10] at H; exact absurd H (by simp)
    rw [if_pos c10] at H; have c10b0 := eq_true c10; have c10b1 := decide_eq_true c10
    try have c10b2 := eq_false (Nat.not_lt.2 c10)
    obtain rfl := Option.some.inj H
    go_wp2_with (first | ((with_reducible refine gate_callee (f := 77) rfl ?_); refine goesL_ (some 21) rfl rfl Try.func77 kZ rfl #[.int .i64 (wrap64 (-a0)), .int .i64 a1] rfl tZA ?_; (with_reducible refine (ih kj2 (by have := HJ2.out; omega) (wrap64 (-a0)) a1 t348 _ A9.out).mono ?_); rintro e w11 ⟨rfl, hb⟩; refine ⟨_, rfl, ?_⟩; replace HB := aZ (below_step (lZB HB.out) hb); (try clear hb); (try clear hb2); (try clear hk); (try clear hi)))
    go_ret; exact ⟨tZC, bZ⟩
   rw [if_neg c8] at H; have c8b0 := decide_eq_false c8; clear c8; replace H := Option.bind_eq_some_iff.mp H; obtain ⟨t349, A120, H⟩ := H; replace H : (if t349 = 0 then (none) else ((spec_l1Text.f kj2 (wrap64 (Int.tdiv a0 t349))).bind fun t350 => (if a1 > 0 then ((spec_l1Text.f kj2 (wrap64 (t349 + (Int.tmod a0 t349)))).bind fun t351 => (if t350.size + 1 ≤ 9223372036854775807 then (if 1 ≤ (t351.size : Int) then (if (t350 ++ (⟨#[46]⟩ : ByteArray)).size + (t351.extract 1 t351.size).size ≤ 9223372036854775807 then (some ((t350 ++ (⟨#[46]⟩ : ByteArray)) ++ (t351.extract 1 t351.size))) else (none)) else (none)) else (none))) else (some t350)))) = some r := H; have A12 := Aside0.mk A120; clear A120
   by_cases c13 : t349 = 0
   ·rw [if_pos c13] at H; exact absurd H (by simp)
   rw [if_neg c13] at H; have c13b0 : (t349 == 0) = false := beq_eq_false_iff_ne.mpr c13; have c13b1 : (t349 != 0) = true := bne_iff_ne.mpr c13; replace H := Option.bind_eq_some_iff.mp H; obtain ⟨t350, A140, H⟩ := H; replace H : (if a1 > 0 then ((spec_l1Text.f kj2 (wrap64 (t349 + (Int.tmod a0 t349)))).bind fun t351 => (if t350.size + 1 ≤ 9223372036854775807 then (if 1 ≤ (t351.size : Int) then (if (t350 ++ (⟨#[46]⟩ : ByteArray)).size + (t351.extract 1 t351.size).size ≤ 9223372036854775807 then (some ((t350 ++ (⟨#[46]⟩ : ByteArray)) ++ (t351.extract 1 t351.size))) else (none)) else (none)) else (none))) else (some t350)) = some r := H; have A14 := Aside0.mk A140; clear A140
   by_cases c15 : a1 > 0
   rotate_left
   ·rw [if_neg c15] at H; have c15b0 : decide (0 < a1) = false := decide_eq_false c15; clear c15; obtain rfl := Option.some.inj H
    go_wp2_with (first | ((with_reducible refine gate_callee (f := 89) rfl ?_); refine goesL_ (some 24) rfl rfl Try.func89 kZ rfl #[.int .i64 a1] rfl tZA ?_; (with_reducible refine (spec_l1Ten.calls kj2 a1 t349 _ A12.out).mono ?_); rintro e w' ⟨rfl, ⟨nd, rfl⟩⟩; refine ⟨_, rfl, ?_⟩) | ((with_reducible refine gate_callee (f := 90) rfl ?_); refine goesL_ (some 28) rfl rfl Try.func90 kZ rfl #[.int .i64 (wrap64 (Int.tdiv a0 t349))] rfl tZA ?_; (with_reducible refine (spec_l1Text.calls kj2 (wrap64 (Int.tdiv a0 t349)) t350 _ A14.out).mono ?_); rintro e w22 ⟨rfl, hb⟩; refine ⟨_, rfl, ?_⟩; replace HB := aZ (below_step (lZB HB.out) hb); (try clear hb); (try clear hb2); (try clear hk); (try clear hi)))
    go_ret; exact ⟨tZC, bZ⟩
   rw [if_pos c15] at H; have c15b0 : decide (0 < a1) = true := decide_eq_true c15; clear c15; replace H := Option.bind_eq_some_iff.mp H; obtain ⟨t351, A160, H⟩ := H; replace H : (if t350.size + 1 ≤ 9223372036854775807 then (if 1 ≤ (t351.size : Int) then (if (t350 ++ (⟨#[46]⟩ : ByteArray)).size + (t351.extract 1 t351.size).size ≤ 9223372036854775807 then (some ((t350 ++ (⟨#[46]⟩ : ByteArray)) ++ (t351.extract 1 t351.size))) else (none)) else (none)) else (none)) = some r := H; have A16 := Aside0.mk A160; clear A160
   by_cases c17 : t350.size + 1 ≤ 9223372036854775807
   rotate_left
   ·rw [if_neg c17] at H; exact absurd H (by simp)
   rw [if_pos c17] at H; have c17b0 := eq_true c17; have c17b1 := decide_eq_true c17
   try have c17b2 := eq_false (Nat.not_lt.2 c17)
   by_cases c18 : 1 ≤ (t351.size : Int)
   rotate_left
   ·rw [if_neg c18] at H; exact absurd H (by simp)
   rw [if_pos c18] at H; have c18b0 := eq_true c18; have c18b1 := decide_eq_true c18; clear c18
   by_cases c19 : (t350 ++ (⟨#[46]⟩ : ByteArray)).size + (t351.extract 1 t351.size).size ≤ 9223372036854775807
   rotate_left
   ·rw [if_neg c19] at H; exact absurd H (by simp)
   rw [if_pos c19] at H; have c19b0 := eq_true c19; have c19b1 := decide_eq_true c19
   try have c19b2 := eq_false (Nat.not_lt.2 c19)
   try have c19b5 : (9223372036854775807 < t350.size + 1 + (t351.size - 1)) = False := eq_false (by have h_ := c19; have e0_ : (⟨#[46]⟩ : ByteArray).size = 1 := rfl; simp only [ByteArray.size_append, ByteArray.size_extract] at h_; omega)
   obtain rfl := Option.some.inj H
   go_wp2_with (first | ((with_reducible refine gate_callee (f := 89) rfl ?_); refine goesL_ (some 24) rfl rfl Try.func89 kZ rfl #[.int .i64 a1] rfl tZA ?_; (with_reducible refine (spec_l1Ten.calls kj2 a1 t349 _ A12.out).mono ?_); rintro e w' ⟨rfl, ⟨nd, rfl⟩⟩; refine ⟨_, rfl, ?_⟩) | ((with_reducible refine gate_callee (f := 90) rfl ?_); refine goesL_ (some 28) rfl rfl Try.func90 kZ rfl #[.int .i64 (wrap64 (Int.tdiv a0 t349))] rfl tZA ?_; (with_reducible refine (spec_l1Text.calls kj2 (wrap64 (Int.tdiv a0 t349)) t350 _ A14.out).mono ?_); rintro e w20 ⟨rfl, hb⟩; refine ⟨_, rfl, ?_⟩; replace HB := aZ (below_step (lZB HB.out) hb); (try clear hb); (try clear hb2); (try clear hk); (try clear hi)) | ((with_reducible refine gate_callee (f := 90) rfl ?_); refine goesL_ (some 36) rfl rfl Try.func90 kZ rfl #[.int .i64 (wrap64 (t349 + (Int.tmod a0 t349)))] rfl tZA ?_; (with_reducible refine (spec_l1Text.calls kj2 (wrap64 (t349 + (Int.tmod a0 t349))) t351 _ A16.out).mono ?_); rintro e w21 ⟨rfl, hb⟩; refine ⟨_, rfl, ?_⟩; replace HB := aZ (below_step (lZB HB.out) hb); (try clear hb); (try clear hb2); (try clear hk); (try clear hi)))
   go_ret; exact ⟨tZC, bZ⟩
def spec_l11Step.l0 : Nat → ByteArray → Int → Int → List ByteArray → Option (ByteArray)
  | 0, _, _, _, _ => none
  | k + 1, x3, x4, x353000, x353001 => if x4 < (x353001.length : Int) then (if x4 > 0 then (if x3.size + 2 ≤ 9223372036854775807 then (if 0 ≤ x4 then (if (x3 ++ (⟨#[44, 32]⟩ : ByteArray)).size + (rdOf ByteArray.empty x353001 x4).size ≤ 9223372036854775807 then (spec_l11Step.l0 k ((x3 ++ (⟨#[44, 32]⟩ : ByteArray)) ++ (rdOf ByteArray.empty x353001 x4)) (wrap64 (x4 + 1)) x353000 x353001) else (none)) else (none)) else (none)) else (if 0 ≤ x4 then (if x3.size + (rdOf ByteArray.empty x353001 x4).size ≤ 9223372036854775807 then (spec_l11Step.l0 k (x3 ++ (rdOf ByteArray.empty x353001 x4)) (wrap64 (x4 + 1)) x353000 x353001) else (none)) else (none))) else (if x3.size + 1 ≤ 9223372036854775807 then (some (x3 ++ (⟨#[10]⟩ : ByteArray))) else (none))
def spec_l11Step.f (k : Nat) (a0_0 : Int) (l0_1 : List ByteArray) : Option (ByteArray) := (spec_ShowMoney.f k a0_0 2).bind fun t353 => (if 5 + t353.size ≤ 9223372036854775807 then (if ((⟨#[111, 118, 101, 114, 32]⟩ : ByteArray) ++ t353).size + 2 ≤ 9223372036854775807 then (spec_l11Step.l0 k (((⟨#[111, 118, 101, 114, 32]⟩ : ByteArray) ++ t353) ++ (⟨#[58, 32]⟩ : ByteArray)) 0 a0_0 l0_1) else (none)) else (none))
theorem spec_l11Step.mono_l : ∀ k, (∀ y0 y1 y2 y3, LeO (spec_l11Step.l0 k y0 y1 y2 y3) (spec_l11Step.l0 (k + 1) y0 y1 y2 y3))
  | 0 => fun _ _ _ _ r h => by simp [spec_l11Step.l0] at h
  | k + 1 => by
    have ih0 := spec_l11Step.mono_l k
    · intro y0 y1 y2 y3
      unfold spec_l11Step.l0
      repeat' first
      | (with_reducible exact ih0 _ _ _ _)
      | (with_reducible exact spec_ShowMoney.mono _ _ _)
      | (with_reducible exact LeO.refl _)
      | (with_reducible exact LeO.none _)
      | (with_reducible refine LeO.ite ?_ ?_)
      | (with_reducible refine LeO.bind ?_ (fun _ => ?_))
      | exact ih0 _ _ _ _
      | exact spec_ShowMoney.mono _ _ _
      | exact LeO.none _
      | refine LeO.ite ?_ ?_
      | refine LeO.bind ?_ (fun _ => ?_)
theorem spec_l11Step.mono : ∀ a0 a1 k, LeO (spec_l11Step.f k a0 a1) (spec_l11Step.f (k + 1) a0 a1) := by
 intro a0 a1 k
 have ih0 := spec_l11Step.mono_l k
 unfold spec_l11Step.f
 repeat' first
     | (with_reducible exact ih0 _ _ _ _)
     | (with_reducible exact spec_ShowMoney.mono _ _ _)
     | (with_reducible exact LeO.refl _)
     | (with_reducible exact LeO.none _)
     | (with_reducible refine LeO.ite ?_ ?_)
     | (with_reducible refine LeO.bind ?_ (fun _ => ?_))
     | exact ih0 _ _ _ _
     | exact spec_ShowMoney.mono _ _ _
     | exact LeO.none _
     | refine LeO.ite ?_ ?_
     | refine LeO.bind ?_ (fun _ => ?_)
set_option maxHeartbeats 8000000 in
set_option maxRecDepth 100000 in
theorem spec_l11Step.calls (k : Nat) (a0_0 : Int) (A0_1 : Option Addr) (c0_1 : Nat) (l0_1 : List ByteArray) (r : ByteArray) (w : World) (hr0_1 : Kd.C Kd.string w A0_1 l0_1.length l0_1) (hc0_1 : l0_1.length ≤ c0_1) (h : spec_l11Step.f k a0_0 l0_1 = some r) :
    Calls Try.prog 55 #[.agg #[.int .i64 a0_0, .slice A0_1 l0_1.length c0_1]] w fun e w' => e = .returned (.string r) ∧ Below w.heap.size w w' := by
 have hu51 := Try.underlying51; have HR0_1 := Aside0.mk hr0_1; have HC0_1 := Aside0.mk hc0_1; clear hr0_1 hc0_1; have HB := aZ (Below.refl w.heap.size w); have H : ((spec_ShowMoney.f k a0_0 2).bind fun t353 => (if 5 + t353.size ≤ 9223372036854775807 then (if ((⟨#[111, 118, 101, 114, 32]⟩ : ByteArray) ++ t353).size + 2 ≤ 9223372036854775807 then (spec_l11Step.l0 k (((⟨#[111, 118, 101, 114, 32]⟩ : ByteArray) ++ t353) ++ (⟨#[58, 32]⟩ : ByteArray)) 0 a0_0 l0_1) else (none)) else (none))) = some r := h; clear h; replace H := Option.bind_eq_some_iff.mp H; obtain ⟨t353, A20, H⟩ := H; replace H : (if 5 + t353.size ≤ 9223372036854775807 then (if ((⟨#[111, 118, 101, 114, 32]⟩ : ByteArray) ++ t353).size + 2 ≤ 9223372036854775807 then (spec_l11Step.l0 k (((⟨#[111, 118, 101, 114, 32]⟩ : ByteArray) ++ t353) ++ (⟨#[58, 32]⟩ : ByteArray)) 0 a0_0 l0_1) else (none)) else (none)) = some r := H
 have A2 := Aside0.mk A20; clear A20
 by_cases c3 : 5 + t353.size ≤ 9223372036854775807
 rotate_left
 ·rw [if_neg c3] at H; exact absurd H (by simp)
 rw [if_pos c3] at H; have c3b0 := eq_true c3; have c3b1 := decide_eq_true c3
 try have c3b2 := eq_false (Nat.not_lt.2 c3)
 by_cases c4 : ((⟨#[111, 118, 101, 114, 32]⟩ : ByteArray) ++ t353).size + 2 ≤ 9223372036854775807
 rotate_left
 ·rw [if_neg c4] at H; exact absurd H (by simp)
 rw [if_pos c4] at H; have c4b0 := eq_true c4; have c4b1 := decide_eq_true c4
 try have c4b2 := eq_false (Nat.not_lt.2 c4)
 try have c4b5 : (9223372036854775807 < 5 + t353.size + 2) = False := eq_false (by have h_ := c4; have e0_ : (⟨#[111, 118, 101, 114, 32]⟩ : ByteArray).size = 5 := rfl; simp only [ByteArray.size_append, ByteArray.size_extract] at h_; omega)
 have H' := Aside0.mk H; clear H; go_enter Try.func55, Try.ntmps55
 go_wp2_with (first | ((with_reducible refine gate_dst (N := 1) rfl ?_); refine box_event tZR (N := 1) tZR (cs := #[.int .i64 a0_0, .slice A0_1 l0_1.length c0_1]) (t := 51) tZS ?_; intro gb352 hg w5 hbox hb; have BK352 := aZ (hbox); have GW352 := aZ ((by rw [hg]; exact (below_size (lZB HB.out)) : w.heap.size ≤ gb352)); have GE352 := GW352; replace HB := aZ (below_step (lZB HB.out) hb); clear hb hbox hg; obtain ⟨hcz6_0, hcz6_1, hfz6_0, hfz6_1⟩ := bc2 BK352.out) | ((with_reducible refine gate_callee (f := 77) rfl ?_); refine goesL_ (some 7) rfl rfl Try.func77 kZ rfl #[.int .i64 a0_0, .int .i64 2] rfl tZA ?_; (with_reducible refine (spec_ShowMoney.calls k a0_0 2 t353 _ A2.out).mono ?_); rintro e w7 ⟨rfl, hb⟩; refine ⟨_, rfl, ?_⟩; replace BK352 := aZ (blk_below (bkZ BK352.out) hb); replace HB := aZ (below_step bZ hb); (try clear hb); (try clear hb2); (try clear hk); (try clear hi)))
 go_loopg [3, 4] k (fun kq v3 v4 w' => ∃ (x3_1 : ByteArray) (x4_1 : Int), v3 = .string x3_1 ∧ v4 = .int .i64 x4_1 ∧ Aside0 (spec_l11Step.l0 kq x3_1 x4_1 a0_0 l0_1 = some r) ∧ Aside0 (kq ≤ k) ∧ Aside0 (w'.heap[gb352]? = some (.cells #[.int .i64 a0_0, (.slice A0_1 l0_1.length c0_1)] 51 (0, 0))) ∧ Aside0 (Below w.heap.size w w'))
 case atStart => exact ⟨(((⟨#[111, 118, 101, 114, 32]⟩ : ByteArray) ++ t353) ++ (⟨#[58, 32]⟩ : ByteArray)), (0), tZB, tZB, H', ⟨Nat.le_refl _⟩, ⟨bkZ BK352.out⟩, ⟨bZ⟩⟩
 case round =>
  clear H'; (try clear c3 c3b0 c3b1 c3b2 c4 c4b0 c4b1 c4b2 hcz6_0 hcz6_1 hfz6_0 hfz6_1); obtain ⟨x3_1, x4_1, rfl, rfl, HA, HK1, BK352, HB⟩ := hrel
  cases gk with
  | zero => exact absurd HA.out (by simp [spec_l11Step.l0])
  | succ k1 =>
   have H := HA.out; clear HA; simp only [spec_l11Step.l0] at H
   by_cases c8 : x4_1 < (l0_1.length : Int)
   rotate_left
   ·rw [if_neg c8] at H; have c8b0 := decide_eq_false c8; clear c8
    by_cases c17 : x3_1.size + 1 ≤ 9223372036854775807
    rotate_left
    ·rw [if_neg c17] at H; exact absurd H (by simp)
    rw [if_pos c17] at H; have c17b0 := eq_true c17; have c17b1 := decide_eq_true c17
    try have c17b2 := eq_false (Nat.not_lt.2 c17)
    obtain rfl := Option.some.inj H; obtain ⟨hcz18_0, hcz18_1, hfz18_0, hfz18_1⟩ := bc2 BK352.out; go_wp2; go_ret; exact ⟨tZC, bZ⟩
   rw [if_pos c8] at H; have c8b0 := decide_eq_true c8; clear c8
   by_cases c9 : x4_1 > 0
   rotate_left
   ·rw [if_neg c9] at H; have c9b0 : decide (0 < x4_1) = false := decide_eq_false c9; clear c9
    by_cases c14 : 0 ≤ x4_1
    rotate_left
    ·rw [if_neg c14] at H; exact absurd H (by simp)
    rw [if_pos c14] at H; have c14b0 := decide_eq_true c14; clear c14
    by_cases c15 : x3_1.size + (rdOf ByteArray.empty l0_1 x4_1).size ≤ 9223372036854775807
    rotate_left
    ·rw [if_neg c15] at H; exact absurd H (by simp)
    rw [if_pos c15] at H; have c15b0 := eq_true c15; have c15b1 := decide_eq_true c15
    try have c15b2 := eq_false (Nat.not_lt.2 c15)
    have H' := Aside0.mk H; clear H; obtain ⟨hcz16_0, hcz16_1, hfz16_0, hfz16_1⟩ := bc2 BK352.out; have p355 : 0 ≤ (x4_1 : Int) := of_decide_eq_true tZE; have q355 : x4_1 < (l0_1.length : Int) := of_decide_eq_true tZE; obtain ⟨ad355, e355, hx355_0⟩ := Kd.at_string HR0_1.out x4_1 p355 q355
    cases e355
    replace hx355_0 := cZ HB hx355_0; replace p355 := eq_true p355; replace q355 := eq_true q355; go_wp2
    go_roundg k1
    case measure => have := HK1.out; omega
    case rel => exact ⟨(x3_1 ++ (rdOf ByteArray.empty l0_1 x4_1)), (wrap64 (x4_1 + 1)), tZB, tZB, H', ⟨by have := HK1.out; omega⟩, ⟨bkZ BK352.out⟩, ⟨bZ⟩⟩
   rw [if_pos c9] at H; have c9b0 : decide (0 < x4_1) = true := decide_eq_true c9; clear c9
   by_cases c10 : x3_1.size + 2 ≤ 9223372036854775807
   rotate_left
   ·rw [if_neg c10] at H; exact absurd H (by simp)
   rw [if_pos c10] at H; have c10b0 := eq_true c10; have c10b1 := decide_eq_true c10
   try have c10b2 := eq_false (Nat.not_lt.2 c10)
   by_cases c11 : 0 ≤ x4_1
   rotate_left
   ·rw [if_neg c11] at H; exact absurd H (by simp)
   rw [if_pos c11] at H; have c11b0 := decide_eq_true c11; clear c11
   by_cases c12 : (x3_1 ++ (⟨#[44, 32]⟩ : ByteArray)).size + (rdOf ByteArray.empty l0_1 x4_1).size ≤ 9223372036854775807
   rotate_left
   ·rw [if_neg c12] at H; exact absurd H (by simp)
   rw [if_pos c12] at H; have c12b0 := eq_true c12; have c12b1 := decide_eq_true c12
   try have c12b2 := eq_false (Nat.not_lt.2 c12)
   try have c12b5 : (9223372036854775807 < x3_1.size + 2 + (rdOf ByteArray.empty l0_1 x4_1).size) = False := eq_false (by have h_ := c12; have e0_ : (⟨#[44, 32]⟩ : ByteArray).size = 2 := rfl; simp only [ByteArray.size_append, ByteArray.size_extract] at h_; omega)
   have H' := Aside0.mk H; clear H; obtain ⟨hcz13_0, hcz13_1, hfz13_0, hfz13_1⟩ := bc2 BK352.out; have p354 : 0 ≤ (x4_1 : Int) := of_decide_eq_true tZE; have q354 : x4_1 < (l0_1.length : Int) := of_decide_eq_true tZE; obtain ⟨ad354, e354, hx354_0⟩ := Kd.at_string HR0_1.out x4_1 p354 q354
   cases e354
   replace hx354_0 := cZ HB hx354_0; replace p354 := eq_true p354; replace q354 := eq_true q354; go_wp2
   go_roundg k1
   case measure => have := HK1.out; omega
   case rel => exact ⟨((x3_1 ++ (⟨#[44, 32]⟩ : ByteArray)) ++ (rdOf ByteArray.empty l0_1 x4_1)), (wrap64 (x4_1 + 1)), tZB, tZB, H', ⟨by have := HK1.out; omega⟩, ⟨bkZ BK352.out⟩, ⟨bZ⟩⟩
end Go.Proofs.Ytfkakbpjddgmeaa.PFnFlowBack
