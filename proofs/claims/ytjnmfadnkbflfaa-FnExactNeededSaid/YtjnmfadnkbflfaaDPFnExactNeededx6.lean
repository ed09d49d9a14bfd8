import Derived.Test.YtjnmfadnkbflfaaDPFnExactNeededx0
import Derived.Test.YtjnmfadnkbflfaaDPFnExactNeededx2
import Derived.Test.YtjnmfadnkbflfaaDSlimWords
namespace Go.Proofs.Ytjnmfadnkbflfaa.PFnExactNeeded
open Go.Proofs.Ytjnmfadnkbflfaa.SlimWords
open Go.RowKit Go.Proofs.YtjnmfadnkbflfaaW.PrintWords Go.Proofs.YtjnmfadnkbflfaaW.PrintLast Go.Proofs.YtjnmfadnkbflfaaW.PrintMore Go.Proofs.Ytjnmfadnkbflfaa.MapWords Go.Proofs.Ytjnmfadnkbflfaa.IterWords Go.Proofs.Ytjnmfadnkbflfaa.MarkWords
attribute [local go_sem] max2_int min2_int max_two min_two max_three min_three max_four min_four
set_option linter.unusedVariables false
set_option linter.unusedSimpArgs false
private abbrev I' := true
private abbrev O' := false
private abbrev L0' : Array Bool := #[O',O',O',O',O',O',O',O',O',O',O']
private abbrev L1' : Array Bool := #[I',O',O',O',O',O',O',O',O',O',O']
private abbrev L2' : Array Bool := #[I',I',O',O',O',O',O',O',O',O',O']
private abbrev L3' : Array Bool := #[I',I',O',I',O',O',O',O',O',O',O']
private abbrev L4' : Array Bool := #[I',I',O',I',I',O',O',O',O',O',O']
private abbrev L5' : Array Bool := #[I',I',O',I',I',I',O',O',O',O',O']
private abbrev L6' : Array Bool := #[I',I',O',I',I',I',I',O',O',O',O']
private abbrev L7' : Array Bool := #[I',I',O',I',I',I',I',I',O',O',O']
private abbrev L8' : Array Bool := #[I',I',O',I',I',I',I',I',I',O',O']
private abbrev L9' : Array Bool := #[I',I',I',I',I',I',I',I',I',O',O']
private abbrev L10' : Array Bool := #[I',I',I',I',I',I',I',I',I',I',O']
private abbrev L11' : Array Bool := #[I',I',I',I',I',I',I',I',I',I',I']
def spec_l1Amount.f (a0 : Int) : Option (Bool) := (spec_l1In.f a0 (-100000000000) 100000000000).bind fun t153 => (some t153)
set_option maxHeartbeats 8000000 in
set_option maxRecDepth 100000 in
theorem spec_l1Amount.calls (a0 : Int) (r : Bool) (w : World) (h : spec_l1Amount.f a0 = some r) :
    Calls Try.prog 101 #[.int .i64 a0] w fun e w' => e = .returned (.bool r) ∧ Drawn0 w w' := by
 have H : ((spec_l1In.f a0 (-100000000000) 100000000000).bind fun t153 => (some t153)) = some r := h
 clear h
 replace H := Option.bind_eq_some_iff.mp H
 obtain ⟨t153, A20, H⟩ := H
 replace H : (some t153) = some r := H
 have A2 := Aside0.mk A20
 clear A20
 obtain rfl := Option.some.inj H
 go_enter Try.func101, Try.ntmps101
 go_wp2_with (first | ((with_reducible refine gate_callee (f := 72) rfl ?_); refine goesL_ (some 4) rfl rfl Try.func72 kZ rfl #[.int .i64 a0, .int .i64 (-100000000000), .int .i64 100000000000] rfl tZA ?_; (with_reducible refine (spec_l1In.calls a0 (-100000000000) 100000000000 t153 _ A2.out).mono ?_); rintro e w' ⟨rfl, ⟨nd, rfl⟩⟩; refine ⟨_, rfl, ?_⟩))
 go_ret
 exact ⟨tZB, tZD⟩
def spec_l1Text.f : Nat → Int → Option (ByteArray)
  | 0, _ => none
  | k + 1, a0 => if a0 < 0 then ((spec_l1Text.f k (wrap64 (-a0))).bind fun t154 => (if 1 + t154.size ≤ 9223372036854775807 then (some ((⟨#[45]⟩ : ByteArray) ++ t154)) else (none))) else (if a0 < 10 then (if 0 ≤ a0 then (if a0 ≤ (wrap64 (a0 + 1)) then (if (wrap64 (a0 + 1)) ≤ 10 then (some ((⟨#[48, 49, 50, 51, 52, 53, 54, 55, 56, 57]⟩ : ByteArray).extract (a0 : Int).toNat ((wrap64 (a0 + 1)) : Int).toNat)) else (none)) else (none)) else (none)) else ((spec_l1Text.f k (wrap64 (Int.tdiv a0 10))).bind fun t155 => (if 0 ≤ (Int.tmod a0 10) then (if (Int.tmod a0 10) ≤ (wrap64 ((Int.tmod a0 10) + 1)) then (if (wrap64 ((Int.tmod a0 10) + 1)) ≤ 10 then (if t155.size + ((⟨#[48, 49, 50, 51, 52, 53, 54, 55, 56, 57]⟩ : ByteArray).extract ((Int.tmod a0 10) : Int).toNat ((wrap64 ((Int.tmod a0 10) + 1)) : Int).toNat).size ≤ 9223372036854775807 then (some (t155 ++ ((⟨#[48, 49, 50, 51, 52, 53, 54, 55, 56, 57]⟩ : ByteArray).extract ((Int.tmod a0 10) : Int).toNat ((wrap64 ((Int.tmod a0 10) + 1)) : Int).toNat))) else (none)) else (none)) else (none)) else (none))))
theorem spec_l1Text.mono_l : ∀ k, (∀ y0, LeO (spec_l1Text.f k y0) (spec_l1Text.f (k + 1) y0))
  | 0 => fun _ r h => by simp [spec_l1Text.f] at h
  | k + 1 => by
    have ih0 := spec_l1Text.mono_l k
    · intro y0
      unfold spec_l1Text.f
      repeat' first
      | (with_reducible exact ih0 _)
      | (with_reducible exact LeO.refl _)
      | (with_reducible exact LeO.none _)
      | (with_reducible refine LeO.ite ?_ ?_)
      | (with_reducible refine LeO.bind ?_ (fun _ => ?_))
      | exact ih0 _
      | exact LeO.none _
      | refine LeO.ite ?_ ?_
      | refine LeO.bind ?_ (fun _ => ?_)
theorem spec_l1Text.mono : ∀ a0 k, LeO (spec_l1Text.f k a0) (spec_l1Text.f (k + 1) a0) := by
 intro a0 k
 have ih0 := spec_l1Text.mono_l k
 exact ih0 a0
def spec_l1Text.T5 : Bool × List (List Nat × List Nat) := (true, [([], []), ([0], [0]), ([1], [1]), ([], []), ([3], [3]), ([], []), ([5], [5]), ([6], [6]), ([4, 7], [4, 7]), ([2, 8], [2, 8]), ([9, 2, 0, 1, 2, 3, 4, 5, 6, 7, 8, 9], [9])])
def spec_l1Text.B5 : List Nat := [0, 1, 3, 0, 8, 0, 32, 96, 248, 511, 1023]
theorem spec_l1Text.tab5 : rtab .any (opsOf Try.f180 5) = spec_l1Text.T5 := by kernel_rfl
theorem spec_l1Text.bits5 : waitsOk spec_l1Text.T5.2 spec_l1Text.B5 = true := by kernel_rfl
set_option maxHeartbeats 8000000 in
set_option maxRecDepth 100000 in
theorem spec_l1Text.calls (k : Nat) : ∀ (a0 : Int) (r : ByteArray) (w : World) (h : spec_l1Text.f k a0 = some r),
    Calls Try.prog 180 #[.int .i64 a0] w fun e w' => e = .returned (.string r) ∧ Below w.heap.size w w' := by
 induction k using Nat.strongRecOn with
 | _ k ih =>
 intro a0 r w h
 cases k with
 | zero => exact absurd h (by simp [spec_l1Text.f])
 | succ k =>
 simp only [spec_l1Text.f] at h
 have HB := aZ (Below.refl w.heap.size w)
 have H : (if a0 < 0 then ((spec_l1Text.f k (wrap64 (-a0))).bind fun t154 => (if 1 + t154.size ≤ 9223372036854775807 then (some ((⟨#[45]⟩ : ByteArray) ++ t154)) else (none))) else (if a0 < 10 then (if 0 ≤ a0 then (if a0 ≤ (wrap64 (a0 + 1)) then (if (wrap64 (a0 + 1)) ≤ 10 then (some ((⟨#[48, 49, 50, 51, 52, 53, 54, 55, 56, 57]⟩ : ByteArray).extract (a0 : Int).toNat ((wrap64 (a0 + 1)) : Int).toNat)) else (none)) else (none)) else (none)) else ((spec_l1Text.f k (wrap64 (Int.tdiv a0 10))).bind fun t155 => (if 0 ≤ (Int.tmod a0 10) then (if (Int.tmod a0 10) ≤ (wrap64 ((Int.tmod a0 10) + 1)) then (if (wrap64 ((Int.tmod a0 10) + 1)) ≤ 10 then (if t155.size + ((⟨#[48, 49, 50, 51, 52, 53, 54, 55, 56, 57]⟩ : ByteArray).extract ((Int.tmod a0 10) : Int).toNat ((wrap64 ((Int.tmod a0 10) + 1)) : Int).toNat).size ≤ 9223372036854775807 then (some (t155 ++ ((⟨#[48, 49, 50, 51, 52, 53, 54, 55, 56, 57]⟩ : ByteArray).extract ((Int.tmod a0 10) : Int).toNat ((wrap64 ((Int.tmod a0 10) + 1)) : Int).toNat))) else (none)) else (none)) else (none)) else (none))))) = some r := h
 clear h
 by_cases c2 : a0 < 0
 ·rw [if_pos c2] at H
  have c2b0 := decide_eq_true c2
  clear c2
  replace H := Option.bind_eq_some_iff.mp H
  obtain ⟨t154, A30, H⟩ := H
  replace H : (if 1 + t154.size ≤ 9223372036854775807 then (some ((⟨#[45]⟩ : ByteArray) ++ t154)) else (none)) = some r := H
  have A3 := Aside0.mk A30
  clear A30
  by_cases c4 : 1 + t154.size ≤ 9223372036854775807
  rotate_left
  ·rw [if_neg c4] at H
   exact absurd H (by simp)
  rw [if_pos c4] at H
  have c4b0 := eq_true c4
  have c4b1 := decide_eq_true c4
  try have c4b2 := eq_false (Nat.not_lt.2 c4)
  obtain rfl := Option.some.inj H
  go_enter Try.func180, Try.ntmps180
  go_wp2_with (first | ((with_reducible refine gate_callee (f := 180) rfl ?_); refine goesL_ (some 7) rfl rfl Try.func180 kZ rfl #[.int .i64 (wrap64 (-a0))] rfl tZA ?_; (with_reducible refine (ih k (by omega) (wrap64 (-a0)) t154 _ A3.out).mono ?_); rintro e w5 ⟨rfl, hb⟩; refine ⟨_, rfl, ?_⟩; replace HB := aZ (below_step (lZB HB.out) hb); (try clear hb); (try clear hb2); (try clear hk); (try clear hi)))
  go_ret
  exact ⟨tZC, bZ⟩
 rw [if_neg c2] at H
 have c2b0 := decide_eq_false c2
 clear c2
 by_cases c6 : a0 < 10
 ·rw [if_pos c6] at H
  have c6b0 := decide_eq_true c6
  clear c6
  by_cases c7 : 0 ≤ a0
  rotate_left
  ·rw [if_neg c7] at H
   exact absurd H (by simp)
  rw [if_pos c7] at H
  have c7b0 := eq_true c7
  have c7b1 := decide_eq_true c7
  clear c7
  by_cases c8 : a0 ≤ (wrap64 (a0 + 1))
  rotate_left
  ·rw [if_neg c8] at H
   exact absurd H (by simp)
  rw [if_pos c8] at H
  have c8b0 := eq_true c8
  have c8b1 := decide_eq_true c8
  by_cases c9 : (wrap64 (a0 + 1)) ≤ 10
  rotate_left
  ·rw [if_neg c9] at H
   exact absurd H (by simp)
  rw [if_pos c9] at H
  have c9b0 := eq_true c9
  have c9b1 := decide_eq_true c9
  obtain rfl := Option.some.inj H
  go_enter Try.func180, Try.ntmps180
  go_wp2
  go_ret
  exact ⟨tZC, bZ⟩
 rw [if_neg c6] at H
 have c6b0 := decide_eq_false c6
 clear c6
 replace H := Option.bind_eq_some_iff.mp H
 obtain ⟨t155, A100, H⟩ := H
 replace H : (if 0 ≤ (Int.tmod a0 10) then (if (Int.tmod a0 10) ≤ (wrap64 ((Int.tmod a0 10) + 1)) then (if (wrap64 ((Int.tmod a0 10) + 1)) ≤ 10 then (if t155.size + ((⟨#[48, 49, 50, 51, 52, 53, 54, 55, 56, 57]⟩ : ByteArray).extract ((Int.tmod a0 10) : Int).toNat ((wrap64 ((Int.tmod a0 10) + 1)) : Int).toNat).size ≤ 9223372036854775807 then (some (t155 ++ ((⟨#[48, 49, 50, 51, 52, 53, 54, 55, 56, 57]⟩ : ByteArray).extract ((Int.tmod a0 10) : Int).toNat ((wrap64 ((Int.tmod a0 10) + 1)) : Int).toNat))) else (none)) else (none)) else (none)) else (none)) = some r := H
 have A10 := Aside0.mk A100
 clear A100
 obtain ⟨ji11, hji11⟩ : ∃ j_ : Int, (Int.tmod a0 10) = j_ := ⟨_, rfl⟩
 replace H : (if 0 ≤ (ji11) then (if (ji11) ≤ (wrap64 ((ji11) + 1)) then (if (wrap64 ((ji11) + 1)) ≤ 10 then (if t155.size + ((⟨#[48, 49, 50, 51, 52, 53, 54, 55, 56, 57]⟩ : ByteArray).extract ((ji11) : Int).toNat ((wrap64 ((ji11) + 1)) : Int).toNat).size ≤ 9223372036854775807 then (some (t155 ++ ((⟨#[48, 49, 50, 51, 52, 53, 54, 55, 56, 57]⟩ : ByteArray).extract ((ji11) : Int).toNat ((wrap64 ((ji11) + 1)) : Int).toNat))) else (none)) else (none)) else (none)) else (none)) = some r := by first | (rw [hji11] at H; exact H) | (simp only [hji11] at H ⊢; exact H)
 (try rw [hji11] at A10)
 by_cases c12 : 0 ≤ (ji11)
 rotate_left
 ·rw [if_neg c12] at H
  exact absurd H (by simp)
 rw [if_pos c12] at H
 have c12b0 := eq_true c12
 have c12b1 := decide_eq_true c12
 clear c12
 by_cases c13 : (ji11) ≤ (wrap64 ((ji11) + 1))
 rotate_left
 ·rw [if_neg c13] at H
  exact absurd H (by simp)
 rw [if_pos c13] at H
 have c13b0 := eq_true c13
 have c13b1 := decide_eq_true c13
 by_cases c14 : (wrap64 ((ji11) + 1)) ≤ 10
 rotate_left
 ·rw [if_neg c14] at H
  exact absurd H (by simp)
 rw [if_pos c14] at H
 have c14b0 := eq_true c14
 have c14b1 := decide_eq_true c14
 by_cases c15 : t155.size + ((⟨#[48, 49, 50, 51, 52, 53, 54, 55, 56, 57]⟩ : ByteArray).extract ((ji11) : Int).toNat ((wrap64 ((ji11) + 1)) : Int).toNat).size ≤ 9223372036854775807
 rotate_left
 ·rw [if_neg c15] at H
  exact absurd H (by simp)
 rw [if_pos c15] at H
 have c15b0 := eq_true c15
 have c15b1 := decide_eq_true c15
 try have c15b2 := eq_false (Nat.not_lt.2 c15)
 try have c15b5 : (9223372036854775807 < t155.size + ((wrap64 ((ji11) + 1)).toNat - ji11.toNat)) = False := eq_false (by have h_ := c15; have e0_ : wrap64 ((ji11) + 1) ≤ ((⟨#[48, 49, 50, 51, 52, 53, 54, 55, 56, 57]⟩ : ByteArray).size : Int) := of_decide_eq_true tZE; simp only [ByteArray.size_append, ByteArray.size_extract] at h_; omega)
 try have c15b3 : (9223372036854775807 < t155.size + ((((wrap64 ((ji11) + 1)) : Int)).toNat - (((ji11) : Int)).toNat)) = False := eq_false (by have h_ := c15; simp only [ByteArray.size_extract] at h_; have e_ : (⟨#[48, 49, 50, 51, 52, 53, 54, 55, 56, 57]⟩ : ByteArray).size = 10 := rfl; omega)
 obtain rfl := Option.some.inj H
 go_enter Try.func180, Try.ntmps180
 try go_wp2
 replace HB := aZ (below_drew1 HB.out)
 refine start_ (n := 11) (S := fun w' => True) (ds := []) L0' kZ rfl rfl trivial (fun hHeld => ?_); refine with_tabW spec_l1Text.tab5 spec_l1Text.bits5 (fun HT_ HW_ => ?_)
 generalize w.drew = w16 at HB hHeld ⊢
 refine pure_ (i := 0) (N := some 15) (v := ?_) (a' := ?_) L1' rfl rfl (any_of HT_.out kZ) (fun _ _ _ h => h) (Or.inl ⟨by rfl, ?_⟩) ?_ ?_
 rotate_left
 ·intro w'
  go_simp
  with_reducible rfl
 rotate_left
 ·simp only [Act.put, sZ1, sZ2, sZ3, i64_w, i32_w]
  rfl
 refine pure_ (i := 1) (N := some 16) (v := ?_) (a' := ?_) L2' rfl rfl (any_of HT_.out kZ) (fun _ _ _ h => h) (Or.inl ⟨by rfl, ?_⟩) ?_ ?_
 rotate_left
 ·intro w'
  go_simp
  with_reducible rfl
 rotate_left
 ·simp only [Act.put, sZ1, sZ2, sZ3, i64_w, i32_w]
  rfl
 refine pure_ (i := 3) (N := some 18) (v := ?_) (a' := ?_) L3' rfl rfl (any_of HT_.out kZ) (fun _ _ _ h => h) (Or.inl ⟨by rfl, ?_⟩) ?_ ?_
 rotate_left
 ·intro w'
  go_simp
  with_reducible rfl
 rotate_left
 ·simp only [Act.put, sZ1, sZ2, sZ3, i64_w, i32_w]
  rfl
 refine pure_ (i := 4) (N := some 19) (v := ?_) (a' := ?_) L4' rfl rfl (any_of HT_.out kZ) (fun _ _ _ h => h) (Or.inl ⟨by rfl, ?_⟩) ?_ ?_
 rotate_left
 ·intro w'
  go_simp
  with_reducible rfl
 rotate_left
 ·simp only [Act.put, sZ1, sZ2, sZ3, i64_w, i32_w]
  rfl
 refine pure_ (i := 5) (N := some 20) (v := ?_) (a' := ?_) L5' rfl rfl (any_of HT_.out kZ) (fun _ _ _ h => h) (Or.inl ⟨by rfl, ?_⟩) ?_ ?_
 rotate_left
 ·intro w'
  go_simp
  with_reducible rfl
 rotate_left
 ·simp only [Act.put, sZ1, sZ2, sZ3, i64_w, i32_w]
  rfl
 refine pure_ (i := 6) (N := some 21) (v := ?_) (a' := ?_) L6' rfl rfl (any_of HT_.out kZ) (fun _ _ _ h => h) (Or.inl ⟨by rfl, ?_⟩) ?_ ?_
 rotate_left
 ·intro w'
  go_simp
  with_reducible rfl
 rotate_left
 ·simp only [Act.put, sZ1, sZ2, sZ3, i64_w, i32_w]
  rfl
 refine pure_ (i := 7) (N := some 22) (v := ?_) (a' := ?_) L7' rfl rfl (any_of HT_.out kZ) (fun _ _ _ h => h) (Or.inl ⟨by rfl, ?_⟩) ?_ ?_
 rotate_left
 ·intro w'
  go_simp
  with_reducible rfl
 rotate_left
 ·simp only [Act.put, sZ1, sZ2, sZ3, i64_w, i32_w]
  rfl
 refine pure_ (i := 8) (N := some 23) (v := ?_) (a' := ?_) L8' rfl rfl (any_of HT_.out kZ) (fun _ _ _ h => h) (Or.inl ⟨by rfl, ?_⟩) ?_ ?_
 rotate_left
 ·intro w'
  go_simp
  with_reducible rfl
 rotate_left
 ·simp only [Act.put, sZ1, sZ2, sZ3, i64_w, i32_w]
  rfl
 refine one_ (i := 2) (N := some 17) L9' rfl rfl (one_of HT_.out kZ) (by decide) (fun K hK => ?_)
 refine goes_ Try.func180 kZ rfl #[.int .i64 (wrap64 (Int.tdiv a0 10))] (by rfl) rfl rfl tZA ?_
 with_reducible refine (ih k (by omega) (wrap64 (Int.tdiv a0 10)) t155 _ A10.out).mono ?_
 rintro e w17 ⟨rfl, hb⟩
 refine ⟨_, rfl, ?_⟩
 replace HB := aZ (below_step (lZB HB.out) hb)
 (try clear hb)
 (try clear hb2)
 (try clear hk)
 (try clear hi)
 refine hK.out _ _ trivial (fun hHeld => ?_)
 clear hK K
 refine norm_ (a' := ?_) ?_ ?_
 rotate_left
 ·show Act.put _ (some 17) _ = _
  simp only [Act.put, sZ1, sZ2, sZ3, i64_w, i32_w]
  rfl
 refine pure_ (i := 9) (N := some 24) (v := ?_) (a' := ?_) L10' rfl rfl (any_of HT_.out kZ) (fun _ _ _ h => h) (Or.inl ⟨by rfl, ?_⟩) ?_ ?_
 rotate_left
 ·intro w'
  go_simp
  with_reducible rfl
 rotate_left
 ·simp only [Act.put, sZ1, sZ2, sZ3, i64_w, i32_w]
  rfl
 refine pure_ (i := 10) (N := some 2) (v := ?_) (a' := ?_) L11' rfl rfl (any_of HT_.out kZ) (fun _ _ _ h => h) (Or.inl ⟨by rfl, ?_⟩) ?_ ?_
 rotate_left
 ·intro w'
  go_simp
  with_reducible rfl
 rotate_left
 ·simp only [Act.put, sZ1, sZ2, sZ3, i64_w, i32_w]
  rfl
 refine done_ (done_of HT_.out kZ) ?_
 try go_wp2
 go_ret
 exact ⟨by first | rfl | (simp [errW_none, errW_some] <;> rfl) | (simp only [← hji11]; first | rfl | (simp [errW_none, errW_some] <;> rfl)) | (simp [*, errW_none, errW_some] <;> rfl), bZ⟩
def spec_l1Ten.l0 : Nat → Int → Int → Option (Int)
  | 0, _, _ => none
  | k + 1, x0, x3 => if x0 > 0 then (spec_l1Ten.l0 k (wrap64 (x0 - 1)) (wrap64 (x3 * 10))) else (some x3)
def spec_l1Ten.f (k : Nat) (a0 : Int) : Option (Int) := spec_l1Ten.l0 k a0 1
theorem spec_l1Ten.mono_l : ∀ k, (∀ y0 y1, LeO (spec_l1Ten.l0 k y0 y1) (spec_l1Ten.l0 (k + 1) y0 y1))
  | 0 => fun _ _ r h => by simp [spec_l1Ten.l0] at h
  | k + 1 => by
    have ih0 := spec_l1Ten.mono_l k
    · intro y0 y1
      unfold spec_l1Ten.l0
      repeat' first
      | (with_reducible exact ih0 _ _)
      | (with_reducible exact LeO.refl _)
      | (with_reducible exact LeO.none _)
      | (with_reducible refine LeO.ite ?_ ?_)
      | (with_reducible refine LeO.bind ?_ (fun _ => ?_))
      | exact ih0 _ _
      | exact LeO.none _
      | refine LeO.ite ?_ ?_
      | refine LeO.bind ?_ (fun _ => ?_)
theorem spec_l1Ten.mono : ∀ a0 k, LeO (spec_l1Ten.f k a0) (spec_l1Ten.f (k + 1) a0) := by
 intro a0 k
 have ih0 := spec_l1Ten.mono_l k
 unfold spec_l1Ten.f
 repeat' first
     | (with_reducible exact ih0 _ _)
     | (with_reducible exact LeO.refl _)
     | (with_reducible exact LeO.none _)
     | (with_reducible refine LeO.ite ?_ ?_)
     | (with_reducible refine LeO.bind ?_ (fun _ => ?_))
     | exact ih0 _ _
     | exact LeO.none _
     | refine LeO.ite ?_ ?_
     | refine LeO.bind ?_ (fun _ => ?_)
set_option maxHeartbeats 8000000 in
set_option maxRecDepth 100000 in
theorem spec_l1Ten.calls (k : Nat) (a0 : Int) (r : Int) (w : World) (h : spec_l1Ten.f k a0 = some r) :
    Calls Try.prog 196 #[.int .i64 a0] w fun e w' => e = .returned (.int .i64 r) ∧ Drawn0 w w' := by
 have H : (spec_l1Ten.l0 k a0 1) = some r := h
 clear h
 have H' := Aside0.mk H
 clear H
 go_enter Try.func196, Try.ntmps196
 go_wp2
 go_loopg [0, 3] k (fun kq v0 v3 w' => ∃ (x0_1 : Int) (x3_1 : Int), v0 = .int .i64 x0_1 ∧ v3 = .int .i64 x3_1 ∧ Aside0 (spec_l1Ten.l0 kq x0_1 x3_1 = some r) ∧ Aside0 (kq ≤ k) ∧ Drawn0 w w')
 case atStart => exact ⟨(a0), (1), tZB, tZB, H', ⟨Nat.le_refl _⟩, tZD⟩
 case round =>
  clear H'
  try clear c1
  obtain ⟨x0_1, x3_1, rfl, rfl, HA, HK1, ⟨m1, rfl⟩⟩ := hrel
  cases gk with
  | zero => exact absurd HA.out (by simp [spec_l1Ten.l0])
  | succ k1 =>
   have H := HA.out
   clear HA
   simp only [spec_l1Ten.l0] at H
   by_cases c2 : x0_1 > 0
   rotate_left
   ·rw [if_neg c2] at H
    have c2b0 : decide (0 < x0_1) = false := decide_eq_false c2
    clear c2
    obtain rfl := Option.some.inj H
    go_wp2
    go_ret
    exact ⟨tZB, tZD⟩
   rw [if_pos c2] at H
   have c2b0 : decide (0 < x0_1) = true := decide_eq_true c2
   clear c2
   have H' := Aside0.mk H
   clear H
   go_wp2
   go_roundg k1
   case measure => have := HK1.out; omega
   case rel => exact ⟨(wrap64 (x0_1 - 1)), (wrap64 (x3_1 * 10)), tZB, tZB, H', ⟨by have := HK1.out; omega⟩, tZD⟩
mutual
def spec_ShowMoney.j0 : Nat → Int → Int → Bool → Option (ByteArray)
  | 0, _, _, _ => none
  | k + 1, x0, x1, x15 => if x15 = true then (some (⟨#[]⟩ : ByteArray)) else (if x0 < 0 then ((spec_ShowMoney.f k (wrap64 (-x0)) x1).bind fun t158 => (if 1 + t158.size ≤ 9223372036854775807 then (some ((⟨#[45]⟩ : ByteArray) ++ t158)) else (none))) else ((spec_l1Ten.f k x1).bind fun t159 => (if t159 = 0 then (none) else ((spec_l1Text.f k (wrap64 (Int.tdiv x0 t159))).bind fun t160 => (if x1 > 0 then ((spec_l1Text.f k (wrap64 (t159 + (Int.tmod x0 t159)))).bind fun t161 => (if t160.size + 1 ≤ 9223372036854775807 then (if 1 ≤ (t161.size : Int) then (if (t160 ++ (⟨#[46]⟩ : ByteArray)).size + (t161.extract 1 t161.size).size ≤ 9223372036854775807 then (some ((t160 ++ (⟨#[46]⟩ : ByteArray)) ++ (t161.extract 1 t161.size))) else (none)) else (none)) else (none))) else (some t160))))))
def spec_ShowMoney.f : Nat → Int → Int → Option (ByteArray)
  | 0, _, _ => none
  | k + 1, a0, a1 => (spec_l1Amount.f a0).bind fun t156 => (if t156 = true then ((spec_l1In.f a1 0 6).bind fun t157 => (spec_ShowMoney.j0 k a0 a1 (!t157))) else (spec_ShowMoney.j0 k a0 a1 true))
end
theorem spec_ShowMoney.mono_l : ∀ k, (∀ y0 y1, LeO (spec_ShowMoney.f k y0 y1) (spec_ShowMoney.f (k + 1) y0 y1)) ∧ (∀ y0 y1 y2, LeO (spec_ShowMoney.j0 k y0 y1 y2) (spec_ShowMoney.j0 (k + 1) y0 y1 y2))
  | 0 => ⟨fun _ _ r h => by simp [spec_ShowMoney.f] at h, fun _ _ _ r h => by simp [spec_ShowMoney.j0] at h⟩
  | k + 1 => by
    obtain ⟨ih0, ih1⟩ := spec_ShowMoney.mono_l k
    refine ⟨?_, ?_⟩
    · intro y0 y1
      unfold spec_ShowMoney.f
      repeat' first
      | (with_reducible exact ih0 _ _)
      | (with_reducible exact ih1 _ _ _)
      | (with_reducible exact spec_l1Ten.mono _ _)
      | (with_reducible exact spec_l1Text.mono _ _)
      | (with_reducible exact LeO.refl _)
      | (with_reducible exact LeO.none _)
      | (with_reducible refine LeO.ite ?_ ?_)
      | (with_reducible refine LeO.bind ?_ (fun _ => ?_))
      | exact ih0 _ _
      | exact ih1 _ _ _
      | exact spec_l1Ten.mono _ _
      | exact spec_l1Text.mono _ _
      | exact LeO.none _
      | refine LeO.ite ?_ ?_
      | refine LeO.bind ?_ (fun _ => ?_)
    · intro y0 y1 y2
      unfold spec_ShowMoney.j0
      repeat' first
      | (with_reducible exact ih0 _ _)
      | (with_reducible exact ih1 _ _ _)
      | (with_reducible exact spec_l1Ten.mono _ _)
      | (with_reducible exact spec_l1Text.mono _ _)
      | (with_reducible exact LeO.refl _)
      | (with_reducible exact LeO.none _)
      | (with_reducible refine LeO.ite ?_ ?_)
      | (with_reducible refine LeO.bind ?_ (fun _ => ?_))
      | exact ih0 _ _
      | exact ih1 _ _ _
      | exact spec_l1Ten.mono _ _
      | exact spec_l1Text.mono _ _
      | exact LeO.none _
      | refine LeO.ite ?_ ?_
      | refine LeO.bind ?_ (fun _ => ?_)
theorem spec_ShowMoney.mono : ∀ a0 a1 k, LeO (spec_ShowMoney.f k a0 a1) (spec_ShowMoney.f (k + 1) a0 a1) := by
 intro a0 a1 k
 obtain ⟨ih0, ih1⟩ := spec_ShowMoney.mono_l k
 exact ih0 a0 a1
set_option maxHeartbeats 8000000 in
set_option maxRecDepth 100000 in
theorem spec_ShowMoney.calls (k : Nat) : ∀ (a0 : Int) (a1 : Int) (r : ByteArray) (w : World) (h : spec_ShowMoney.f k a0 a1 = some r),
    Calls Try.prog 149 #[.int .i64 a0, .int .i64 a1] w fun e w' => e = .returned (.string r) ∧ Below w.heap.size w w' := by
 induction k using Nat.strongRecOn with
 | _ k ih =>
 intro a0 a1 r w h
 cases k with
 | zero => exact absurd h (by simp [spec_ShowMoney.f])
 | succ k =>
 simp only [spec_ShowMoney.f] at h
 have HB := aZ (Below.refl w.heap.size w)
 have H : ((spec_l1Amount.f a0).bind fun t156 => (if t156 = true then ((spec_l1In.f a1 0 6).bind fun t157 => (spec_ShowMoney.j0 k a0 a1 (!t157))) else (spec_ShowMoney.j0 k a0 a1 true))) = some r := h
 clear h
 have HC3 := Aside0.mk H
 clear H
 go_enter Try.func149, Try.ntmps149
 go_upto_region 1 with (fail)
 go_cut [15] (fun v15 wc => ∃ (kq : Nat) (x15_2 : Bool), v15 = .bool x15_2 ∧ Aside0 (spec_ShowMoney.j0 kq a0 a1 x15_2 = some r) ∧ Aside0 (kq ≤ k) ∧ Aside0 (Below w.heap.size w wc))
 case first =>
  have H := HC3.out
  clear HC3
  replace H := Option.bind_eq_some_iff.mp H
  obtain ⟨t156, A40, H⟩ := H
  replace H : (if t156 = true then ((spec_l1In.f a1 0 6).bind fun t157 => (spec_ShowMoney.j0 k a0 a1 (!t157))) else (spec_ShowMoney.j0 k a0 a1 true)) = some r := H
  have A4 := Aside0.mk A40
  clear A40
  by_cases c5 : t156 = true
  rotate_left
  ·replace c5 := Bool.eq_false_iff.mpr c5
   subst c5
   have H1 : (spec_ShowMoney.j0 k a0 a1 true) = some r := by rw [if_neg (show ¬ (false = true) by decide)] at H; exact H
   clear H
   have H := H1
   clear H1
   have H' := Aside0.mk H
   clear H
   go_wp2_with (first | ((with_reducible refine gate_callee (f := 101) rfl ?_); refine goesL_ (some 9) rfl rfl Try.func101 kZ rfl #[.int .i64 a0] rfl tZA ?_; (with_reducible refine (spec_l1Amount.calls a0 false _ A4.out).mono ?_); rintro e w' ⟨rfl, ⟨nd, rfl⟩⟩; refine ⟨_, rfl, ?_⟩))
   go_meet
   case rel => exact ⟨_, (true), tZB, H', ⟨by first | omega | exact Nat.le_refl _⟩, ⟨bZ⟩⟩
  subst c5
  have H1 : ((spec_l1In.f a1 0 6).bind fun t157 => (spec_ShowMoney.j0 k a0 a1 (!t157))) = some r := by rw [if_pos rfl] at H; exact H
  clear H
  have H := H1
  clear H1
  replace H := Option.bind_eq_some_iff.mp H
  obtain ⟨t157, A60, H⟩ := H
  replace H : (spec_ShowMoney.j0 k a0 a1 (!t157)) = some r := H
  have A6 := Aside0.mk A60
  clear A60
  have H' := Aside0.mk H
  clear H
  go_wp2_with (first | ((with_reducible refine gate_callee (f := 101) rfl ?_); refine goesL_ (some 9) rfl rfl Try.func101 kZ rfl #[.int .i64 a0] rfl tZA ?_; (with_reducible refine (spec_l1Amount.calls a0 true _ A4.out).mono ?_); rintro e w' ⟨rfl, ⟨nd, rfl⟩⟩; refine ⟨_, rfl, ?_⟩) | (go_at_call 72; (with_reducible refine (spec_l1In.calls a1 0 6 t157 _ A6.out).mono ?_); rintro e w' ⟨rfl, ⟨nd, rfl⟩⟩))
  go_meet
  case rel => exact ⟨_, (!t157), tZB, H', ⟨by first | omega | exact Nat.le_refl _⟩, ⟨bZ⟩⟩
 case rest =>
  clear HC3
  try clear c1
  try clear p2
  try clear c5
  obtain ⟨kq, x15_2, rfl, HA, HJ2, HB⟩ := hcut
  cases kq with
  | zero => exact absurd HA.out (by simp [spec_ShowMoney.j0])
  | succ kj2 =>
   have H := HA.out
   clear HA
   simp only [spec_ShowMoney.j0] at H
   by_cases c7 : x15_2 = true
   ·subst c7
    have H1 : (some (⟨#[]⟩ : ByteArray)) = some r := by rw [if_pos rfl] at H; exact H
    clear H
    have H := H1
    clear H1
    obtain rfl := Option.some.inj H
    go_wp2
    go_ret
    exact ⟨tZC, bZ⟩
   replace c7 := Bool.eq_false_iff.mpr c7
   subst c7
   have H1 : (if a0 < 0 then ((spec_ShowMoney.f kj2 (wrap64 (-a0)) a1).bind fun t158 => (if 1 + t158.size ≤ 9223372036854775807 then (some ((⟨#[45]⟩ : ByteArray) ++ t158)) else (none))) else ((spec_l1Ten.f kj2 a1).bind fun t159 => (if t159 = 0 then (none) else ((spec_l1Text.f kj2 (wrap64 (Int.tdiv a0 t159))).bind fun t160 => (if a1 > 0 then ((spec_l1Text.f kj2 (wrap64 (t159 + (Int.tmod a0 t159)))).bind fun t161 => (if t160.size + 1 ≤ 9223372036854775807 then (if 1 ≤ (t161.size : Int) then (if (t160 ++ (⟨#[46]⟩ : ByteArray)).size + (t161.extract 1 t161.size).size ≤ 9223372036854775807 then (some ((t160 ++ (⟨#[46]⟩ : ByteArray)) ++ (t161.extract 1 t161.size))) else (none)) else (none)) else (none))) else (some t160)))))) = some r := by rw [if_neg (show ¬ (false = true) by decide)] at H; exact H
   clear H
   have H := H1
   clear H1
   by_cases c8 : a0 < 0
   ·rw [if_pos c8] at H
    have c8b0 := decide_eq_true c8
    clear c8
    replace H := Option.bind_eq_some_iff.mp H
    obtain ⟨t158, A90, H⟩ := H
    replace H : (if 1 + t158.size ≤ 9223372036854775807 then (some ((⟨#[45]⟩ : ByteArray) ++ t158)) else (none)) = some r := H
    have A9 := Aside0.mk A90
    clear A90
    by_cases c10 : 1 + t158.size ≤ 9223372036854775807
    rotate_left
    ·rw [if_neg c10] at H
     exact absurd H (by simp)
    rw [if_pos c10] at H
    have c10b0 := eq_true c10
    have c10b1 := decide_eq_true c10
    try have c10b2 := eq_false (Nat.not_lt.2 c10)
    obtain rfl := Option.some.inj H
    go_wp2_with (first | ((with_reducible refine gate_callee (f := 149) rfl ?_); refine goesL_ (some 21) rfl rfl Try.func149 kZ rfl #[.int .i64 (wrap64 (-a0)), .int .i64 a1] rfl tZA ?_; (with_reducible refine (ih kj2 (by have := HJ2.out; omega) (wrap64 (-a0)) a1 t158 _ A9.out).mono ?_); rintro e w11 ⟨rfl, hb⟩; refine ⟨_, rfl, ?_⟩; replace HB := aZ (below_step (lZB HB.out) hb); (try clear hb); (try clear hb2); (try clear hk); (try clear hi)))
    go_ret
    exact ⟨tZC, bZ⟩
   rw [if_neg c8] at H
   have c8b0 := decide_eq_false c8
   clear c8
   replace H := Option.bind_eq_some_iff.mp H
   obtain ⟨t159, A120, H⟩ := H
   replace H : (if t159 = 0 then (none) else ((spec_l1Text.f kj2 (wrap64 (Int.tdiv a0 t159))).bind fun t160 => (if a1 > 0 then ((spec_l1Text.f kj2 (wrap64 (t159 + (Int.tmod a0 t159)))).bind fun t161 => (if t160.size + 1 ≤ 9223372036854775807 then (if 1 ≤ (t161.size : Int) then (if (t160 ++ (⟨#[46]⟩ : ByteArray)).size + (t161.extract 1 t161.size).size ≤ 9223372036854775807 then (some ((t160 ++ (⟨#[46]⟩ : ByteArray)) ++ (t161.extract 1 t161.size))) else (none)) else (none)) else (none))) else (some t160)))) = some r := H
   have A12 := Aside0.mk A120
   clear A120
   by_cases c13 : t159 = 0
   ·rw [if_pos c13] at H
    exact absurd H (by simp)
   rw [if_neg c13] at H
   have c13b0 : (t159 == 0) = false := beq_eq_false_iff_ne.mpr c13
   have c13b1 : (t159 != 0) = true := bne_iff_ne.mpr c13
   replace H := Option.bind_eq_some_iff.mp H
   obtain ⟨t160, A140, H⟩ := H
   replace H : (if a1 > 0 then ((spec_l1Text.f kj2 (wrap64 (t159 + (Int.tmod a0 t159)))).bind fun t161 => (if t160.size + 1 ≤ 9223372036854775807 then (if 1 ≤ (t161.size : Int) then (if (t160 ++ (⟨#[46]⟩ : ByteArray)).size + (t161.extract 1 t161.size).size ≤ 9223372036854775807 then (some ((t160 ++ (⟨#[46]⟩ : ByteArray)) ++ (t161.extract 1 t161.size))) else (none)) else (none)) else (none))) else (some t160)) = some r := H
   have A14 := Aside0.mk A140
   clear A140
   by_cases c15 : a1 > 0
   rotate_left
   ·rw [if_neg c15] at H
    have c15b0 : decide (0 < a1) = false := decide_eq_false c15
    clear c15
    obtain rfl := Option.some.inj H
    go_wp2_with (first | ((with_reducible refine gate_callee (f := 196) rfl ?_); refine goesL_ (some 24) rfl rfl Try.func196 kZ rfl #[.int .i64 a1] rfl tZA ?_; (with_reducible refine (spec_l1Ten.calls kj2 a1 t159 _ A12.out).mono ?_); rintro e w' ⟨rfl, ⟨nd, rfl⟩⟩; refine ⟨_, rfl, ?_⟩) | ((with_reducible refine gate_callee (f := 180) rfl ?_); refine goesL_ (some 28) rfl rfl Try.func180 kZ rfl #[.int .i64 (wrap64 (Int.tdiv a0 t159))] rfl tZA ?_; (with_reducible refine (spec_l1Text.calls kj2 (wrap64 (Int.tdiv a0 t159)) t160 _ A14.out).mono ?_); rintro e w22 ⟨rfl, hb⟩; refine ⟨_, rfl, ?_⟩; replace HB := aZ (below_step (lZB HB.out) hb); (try clear hb); (try clear hb2); (try clear hk); (try clear hi)))
    go_ret
    exact ⟨tZC, bZ⟩
   rw [if_pos c15] at H
   have c15b0 : decide (0 < a1) = true := decide_eq_true c15
   clear c15
   replace H := Option.bind_eq_some_iff.mp H
   obtain ⟨t161, A160, H⟩ := H
   replace H : (if t160.size + 1 ≤ 9223372036854775807 then (if 1 ≤ (t161.size : Int) then (if (t160 ++ (⟨#[46]⟩ : ByteArray)).size + (t161.extract 1 t161.size).size ≤ 9223372036854775807 then (some ((t160 ++ (⟨#[46]⟩ : ByteArray)) ++ (t161.extract 1 t161.size))) else (none)) else (none)) else (none)) = some r := H
   have A16 := Aside0.mk A160
   clear A160
   by_cases c17 : t160.size + 1 ≤ 9223372036854775807
   rotate_left
   ·rw [if_neg c17] at H
    exact absurd H (by simp)
   rw [if_pos c17] at H
   have c17b0 := eq_true c17
   have c17b1 := decide_eq_true c17
   try have c17b2 := eq_false (Nat.not_lt.2 c17)
   by_cases c18 : 1 ≤ (t161.size : Int)
   rotate_left
   ·rw [if_neg c18] at H
    exact absurd H (by simp)
   rw [if_pos c18] at H
   have c18b0 := eq_true c18
   have c18b1 := decide_eq_true c18
   clear c18
   by_cases c19 : (t160 ++ (⟨#[46]⟩ : ByteArray)).size + (t161.extract 1 t161.size).size ≤ 9223372036854775807
   rotate_left
   ·rw [if_neg c19] at H
    exact absurd H (by simp)
   rw [if_pos c19] at H
   have c19b0 := eq_true c19
   have c19b1 := decide_eq_true c19
   try have c19b2 := eq_false (Nat.not_lt.2 c19)
   try have c19b5 : (9223372036854775807 < t160.size + 1 + (t161.size - 1)) = False := eq_false (by have h_ := c19; have e0_ : (⟨#[46]⟩ : ByteArray).size = 1 := rfl; simp only [ByteArray.size_append, ByteArray.size_extract] at h_; omega)
   obtain rfl := Option.some.inj H
   go_wp2_with (first | ((with_reducible refine gate_callee (f := 196) rfl ?_); refine goesL_ (some 24) rfl rfl Try.func196 kZ rfl #[.int .i64 a1] rfl tZA ?_; (with_reducible refine (spec_l1Ten.calls kj2 a1 t159 _ A12.out).mono ?_); rintro e w' ⟨rfl, ⟨nd, rfl⟩⟩; refine ⟨_, rfl, ?_⟩) | ((with_reducible refine gate_callee (f := 180) rfl ?_); refine goesL_ (some 28) rfl rfl Try.func180 kZ rfl #[.int .i64 (wrap64 (Int.tdiv a0 t159))] rfl tZA ?_; (with_reducible refine (spec_l1Text.calls kj2 (wrap64 (Int.tdiv a0 t159)) t160 _ A14.out).mono ?_); rintro e w20 ⟨rfl, hb⟩; refine ⟨_, rfl, ?_⟩; replace HB := aZ (below_step (lZB HB.out) hb); (try clear hb); (try clear hb2); (try clear hk); (try clear hi)) | ((with_reducible refine gate_callee (f := 180) rfl ?_); refine goesL_ (some 36) rfl rfl Try.func180 kZ rfl #[.int .i64 (wrap64 (t159 + (Int.tmod a0 t159)))] rfl tZA ?_; (with_reducible refine (spec_l1Text.calls kj2 (wrap64 (t159 + (Int.tmod a0 t159))) t161 _ A16.out).mono ?_); rintro e w21 ⟨rfl, hb⟩; refine ⟨_, rfl, ?_⟩; replace HB := aZ (below_step (lZB HB.out) hb); (try clear hb); (try clear hb2); (try clear hk); (try clear hi)))
   go_ret
   exact ⟨tZC, bZ⟩
def spec_l11Step.l0 : Nat → ByteArray → Int → Int → List ByteArray → Option (ByteArray)
  | 0, _, _, _, _ => none
  | k + 1, x3, x4, x163000, x163001 => if x4 < (x163001.length : Int) then (if x4 > 0 then (if x3.size + 2 ≤ 9223372036854775807 then (if 0 ≤ x4 then (if (x3 ++ (⟨#[44, 32]⟩ : ByteArray)).size + (rdOf ByteArray.empty x163001 x4).size ≤ 9223372036854775807 then (spec_l11Step.l0 k ((x3 ++ (⟨#[44, 32]⟩ : ByteArray)) ++ (rdOf ByteArray.empty x163001 x4)) (wrap64 (x4 + 1)) x163000 x163001) else (none)) else (none)) else (none)) else (if 0 ≤ x4 then (if x3.size + (rdOf ByteArray.empty x163001 x4).size ≤ 9223372036854775807 then (spec_l11Step.l0 k (x3 ++ (rdOf ByteArray.empty x163001 x4)) (wrap64 (x4 + 1)) x163000 x163001) else (none)) else (none))) else (if x3.size + 1 ≤ 9223372036854775807 then (some (x3 ++ (⟨#[10]⟩ : ByteArray))) else (none))
def spec_l11Step.f (k : Nat) (a0_0 : Int) (l0_1 : List ByteArray) : Option (ByteArray) := (spec_ShowMoney.f k a0_0 2).bind fun t163 => (if 5 + t163.size ≤ 9223372036854775807 then (if ((⟨#[111, 118, 101, 114, 32]⟩ : ByteArray) ++ t163).size + 2 ≤ 9223372036854775807 then (spec_l11Step.l0 k (((⟨#[111, 118, 101, 114, 32]⟩ : ByteArray) ++ t163) ++ (⟨#[58, 32]⟩ : ByteArray)) 0 a0_0 l0_1) else (none)) else (none))
theorem spec_l11Step.mono_l : ∀ k, (∀ y0 y1 y2 y3, LeO (spec_l11Step.l0 k y0 y1 y2 y3) (spec_l11Step.l0 (k + 1) y0 y1 y2 y3))
  | 0 => fun _ _ _ _ r h => by simp [spec_l11Step.l0] at h
  | k + 1 => by
    have ih0 := spec_l11Step.mono_l k
    · intro y0 y1 y2 y3
      unfold spec_l11Step.l0
      repeat' first
      | (with_reducible exact ih0 _ _ _ _)
      | (with_reducible exact spec_ShowMoney.mono _ _ _)
      | (with_reducible exact LeO.refl _)
      | (with_reducible exact LeO.none _)
      | (with_reducible refine LeO.ite ?_ ?_)
      | (with_reducible refine LeO.bind ?_ (fun _ => ?_))
      | exact ih0 _ _ _ _
      | exact spec_ShowMoney.mono _ _ _
      | exact LeO.none _
      | refine LeO.ite ?_ ?_
      | refine LeO.bind ?_ (fun _ => ?_)
theorem spec_l11Step.mono : ∀ a0 a1 k, LeO (spec_l11Step.f k a0 a1) (spec_l11Step.f (k + 1) a0 a1) := by
 intro a0 a1 k
 have ih0 := spec_l11Step.mono_l k
 unfold spec_l11Step.f
 repeat' first
     | (with_reducible exact ih0 _ _ _ _)
     | (with_reducible exact spec_ShowMoney.mono _ _ _)
     | (with_reducible exact LeO.refl _)
     | (with_reducible exact LeO.none _)
     | (with_reducible refine LeO.ite ?_ ?_)
     | (with_reducible refine LeO.bind ?_ (fun _ => ?_))
     | exact ih0 _ _ _ _
     | exact spec_ShowMoney.mono _ _ _
     | exact LeO.none _
     | refine LeO.ite ?_ ?_
     | refine LeO.bind ?_ (fun _ => ?_)
set_option maxHeartbeats 8000000 in
set_option maxRecDepth 100000 in
theorem spec_l11Step.calls (k : Nat) (a0_0 : Int) (A0_1 : Option Addr) (c0_1 : Nat) (l0_1 : List ByteArray) (r : ByteArray) (w : World) (hr0_1 : Kd.C Kd.string w A0_1 l0_1.length l0_1) (hc0_1 : l0_1.length ≤ c0_1) (h : spec_l11Step.f k a0_0 l0_1 = some r) :
    Calls Try.prog 83 #[.agg #[.int .i64 a0_0, .slice A0_1 l0_1.length c0_1]] w fun e w' => e = .returned (.string r) ∧ Below w.heap.size w w' := by
 have hu119 := Try.underlying119
 have HR0_1 := Aside0.mk hr0_1
 have HC0_1 := Aside0.mk hc0_1
 clear hr0_1 hc0_1
 have HB := aZ (Below.refl w.heap.size w)
 have H : ((spec_ShowMoney.f k a0_0 2).bind fun t163 => (if 5 + t163.size ≤ 9223372036854775807 then (if ((⟨#[111, 118, 101, 114, 32]⟩ : ByteArray) ++ t163).size + 2 ≤ 9223372036854775807 then (spec_l11Step.l0 k (((⟨#[111, 118, 101, 114, 32]⟩ : ByteArray) ++ t163) ++ (⟨#[58, 32]⟩ : ByteArray)) 0 a0_0 l0_1) else (none)) else (none))) = some r := h
 clear h
 replace H := Option.bind_eq_some_iff.mp H
 obtain ⟨t163, A20, H⟩ := H
 replace H : (if 5 + t163.size ≤ 9223372036854775807 then (if ((⟨#[111, 118, 101, 114, 32]⟩ : ByteArray) ++ t163).size + 2 ≤ 9223372036854775807 then (spec_l11Step.l0 k (((⟨#[111, 118, 101, 114, 32]⟩ : ByteArray) ++ t163) ++ (⟨#[58, 32]⟩ : ByteArray)) 0 a0_0 l0_1) else (none)) else (none)) = some r := H
 have A2 := Aside0.mk A20
 clear A20
 by_cases c3 : 5 + t163.size ≤ 9223372036854775807
 rotate_left
 ·rw [if_neg c3] at H
  exact absurd H (by simp)
 rw [if_pos c3] at H
 have c3b0 := eq_true c3
 have c3b1 := decide_eq_true c3
 try have c3b2 := eq_false (Nat.not_lt.2 c3)
 by_cases c4 : ((⟨#[111, 118, 101, 114, 32]⟩ : ByteArray) ++ t163).size + 2 ≤ 9223372036854775807
 rotate_left
 ·rw [if_neg c4] at H
  exact absurd H (by simp)
 rw [if_pos c4] at H
 have c4b0 := eq_true c4
 have c4b1 := decide_eq_true c4
 try have c4b2 := eq_false (Nat.not_lt.2 c4)
 try have c4b5 : (9223372036854775807 < 5 + t163.size + 2) = False := eq_false (by have h_ := c4; have e0_ : (⟨#[111, 118, 101, 114, 32]⟩ : ByteArray).size = 5 := rfl; simp only [ByteArray.size_append, ByteArray.size_extract] at h_; omega)
 have H' := Aside0.mk H
 clear H
 go_enter Try.func83, Try.ntmps83
 go_wp2_with (first | ((with_reducible refine gate_dst (N := 1) rfl ?_); refine box_event ?hg (N := 1) ?hd (cs := #[.int .i64 a0_0, .slice A0_1 l0_1.length c0_1]) (t := 119) ?hr ?_; (case hd => rfl); (case hg => rfl); (case hr => first | (go_simp; done) | (go_simp; rfl)); intro gb162 hg w5 hbox hb; have BK162 := aZ (hbox); have GW162 := aZ ((by rw [hg]; exact (below_size (lZB HB.out)) : w.heap.size ≤ gb162)); have GE162 := aZ ((by rw [hg]; exact (below_size (lZB HB.out)) : w.heap.size ≤ gb162)); replace HB := aZ (below_step (lZB HB.out) hb); clear hb hbox hg; have hcz6_0 : w5.cell? ⟨gb162, 0, none⟩ = some (.int .i64 a0_0) := (blk_cell BK162.out 0).trans rfl; have hcz6_1 : w5.cell? ⟨gb162, 1, none⟩ = some (.slice A0_1 l0_1.length c0_1) := (blk_cell BK162.out 1).trans rfl; have hfz6_0 := blk_frozen BK162.out 0; have hfz6_1 := blk_frozen BK162.out 1) | ((with_reducible refine gate_callee (f := 149) rfl ?_); refine goesL_ (some 7) rfl rfl Try.func149 kZ rfl #[.int .i64 a0_0, .int .i64 2] rfl tZA ?_; (with_reducible refine (spec_ShowMoney.calls k a0_0 2 t163 _ A2.out).mono ?_); rintro e w7 ⟨rfl, hb⟩; refine ⟨_, rfl, ?_⟩; replace BK162 := aZ (blk_below (bkZ BK162.out) hb); replace HB := aZ (below_step bZ hb); (try clear hb); (try clear hb2); (try clear hk); (try clear hi)))
 go_loopg [3, 4] k (fun kq v3 v4 w' => ∃ (x3_1 : ByteArray) (x4_1 : Int), v3 = .string x3_1 ∧ v4 = .int .i64 x4_1 ∧ Aside0 (spec_l11Step.l0 kq x3_1 x4_1 a0_0 l0_1 = some r) ∧ Aside0 (kq ≤ k) ∧ Aside0 (w'.heap[gb162]? = some (.cells #[.int .i64 a0_0, (.slice A0_1 l0_1.length c0_1)] 119 (0, 0))) ∧ Aside0 (Below w.heap.size w w'))
 case atStart => exact ⟨(((⟨#[111, 118, 101, 114, 32]⟩ : ByteArray) ++ t163) ++ (⟨#[58, 32]⟩ : ByteArray)), (0), tZB, tZB, H', ⟨Nat.le_refl _⟩, ⟨bkZ BK162.out⟩, ⟨bZ⟩⟩
 case round =>
  clear H'
  try clear c1
  try clear p2
  try clear c3
  try clear c3b0
  try clear c3b1
  try clear c3b2
  try clear c4
  try clear c4b0
  try clear c4b1
  try clear c4b2
  try clear hcz6_0
  try clear hcz6_1
  try clear hfz6_0
  try clear hfz6_1
  obtain ⟨x3_1, x4_1, rfl, rfl, HA, HK1, BK162, HB⟩ := hrel
  cases gk with
  | zero => exact absurd HA.out (by simp [spec_l11Step.l0])
  | succ k1 =>
   have H := HA.out
   clear HA
   simp only [spec_l11Step.l0] at H
   by_cases c8 : x4_1 < (l0_1.length : Int)
   rotate_left
   ·rw [if_neg c8] at H
    have c8b0 := decide_eq_false c8
    clear c8
    by_cases c17 : x3_1.size + 1 ≤ 9223372036854775807
    rotate_left
    ·rw [if_neg c17] at H
     exact absurd H (by simp)
    rw [if_pos c17] at H
    have c17b0 := eq_true c17
    have c17b1 := decide_eq_true c17
    try have c17b2 := eq_false (Nat.not_lt.2 c17)
    obtain rfl := Option.some.inj H
    have hcz18_0 : wr.cell? ⟨gb162, 0, none⟩ = some (.int .i64 a0_0) := (blk_cell BK162.out 0).trans rfl
    have hcz18_1 : wr.cell? ⟨gb162, 1, none⟩ = some (.slice A0_1 l0_1.length c0_1) := (blk_cell BK162.out 1).trans rfl
    have hfz18_0 := blk_frozen BK162.out 0
    have hfz18_1 := blk_frozen BK162.out 1
    go_wp2
    go_ret
    exact ⟨tZC, bZ⟩
   rw [if_pos c8] at H
   have c8b0 := decide_eq_true c8
   clear c8
   by_cases c9 : x4_1 > 0
   rotate_left
   ·rw [if_neg c9] at H
    have c9b0 : decide (0 < x4_1) = false := decide_eq_false c9
    clear c9
    by_cases c14 : 0 ≤ x4_1
    rotate_left
    ·rw [if_neg c14] at H
     exact absurd H (by simp)
    rw [if_pos c14] at H
    have c14b0 := decide_eq_true c14
    clear c14
    by_cases c15 : x3_1.size + (rdOf ByteArray.empty l0_1 x4_1).size ≤ 9223372036854775807
    rotate_left
    ·rw [if_neg c15] at H
     exact absurd H (by simp)
    rw [if_pos c15] at H
    have c15b0 := eq_true c15
    have c15b1 := decide_eq_true c15
    try have c15b2 := eq_false (Nat.not_lt.2 c15)
    have H' := Aside0.mk H
    clear H
    have hcz16_0 : wr.cell? ⟨gb162, 0, none⟩ = some (.int .i64 a0_0) := (blk_cell BK162.out 0).trans rfl
    have hcz16_1 : wr.cell? ⟨gb162, 1, none⟩ = some (.slice A0_1 l0_1.length c0_1) := (blk_cell BK162.out 1).trans rfl
    have hfz16_0 := blk_frozen BK162.out 0
    have hfz16_1 := blk_frozen BK162.out 1
    have p165 : 0 ≤ (x4_1 : Int) := of_decide_eq_true tZE
    have q165 : x4_1 < (l0_1.length : Int) := of_decide_eq_true tZE
    obtain ⟨ad165, e165, hx165_0⟩ := Kd.at_string HR0_1.out x4_1 p165 q165
    cases e165
    replace hx165_0 := cZ HB hx165_0
    replace p165 := eq_true p165
    replace q165 := eq_true q165
    go_wp2
    go_roundg k1
    case measure => have := HK1.out; omega
    case rel => exact ⟨(x3_1 ++ (rdOf ByteArray.empty l0_1 x4_1)), (wrap64 (x4_1 + 1)), tZB, tZB, H', ⟨by have := HK1.out; omega⟩, ⟨bkZ BK162.out⟩, ⟨bZ⟩⟩
   rw [if_pos c9] at H
   have c9b0 : decide (0 < x4_1) = true := decide_eq_true c9
   clear c9
   by_cases c10 : x3_1.size + 2 ≤ 9223372036854775807
   rotate_left
   ·rw [if_neg c10] at H
    exact absurd H (by simp)
   rw [if_pos c10] at H
   have c10b0 := eq_true c10
   have c10b1 := decide_eq_true c10
   try have c10b2 := eq_false (Nat.not_lt.2 c10)
   by_cases c11 : 0 ≤ x4_1
   rotate_left
   ·rw [if_neg c11] at H
    exact absurd H (by simp)
   rw [if_pos c11] at H
   have c11b0 := decide_eq_true c11
   clear c11
   by_cases c12 : (x3_1 ++ (⟨#[44, 32]⟩ : ByteArray)).size + (rdOf ByteArray.empty l0_1 x4_1).size ≤ 9223372036854775807
   rotate_left
   ·rw [if_neg c12] at H
    exact absurd H (by simp)
   rw [if_pos c12] at H
   have c12b0 := eq_true c12
   have c12b1 := decide_eq_true c12
   try have c12b2 := eq_false (Nat.not_lt.2 c12)
   try have c12b5 : (9223372036854775807 < x3_1.size + 2 + (rdOf ByteArray.empty l0_1 x4_1).size) = False := eq_false (by have h_ := c12; have e0_ : (⟨#[44, 32]⟩ : ByteArray).size = 2 := rfl; simp only [ByteArray.size_append, ByteArray.size_extract] at h_; omega)
   have H' := Aside0.mk H
   clear H
   have hcz13_0 : wr.cell? ⟨gb162, 0, none⟩ = some (.int .i64 a0_0) := (blk_cell BK162.out 0).trans rfl
   have hcz13_1 : wr.cell? ⟨gb162, 1, none⟩ = some (.slice A0_1 l0_1.length c0_1) := (blk_cell BK162.out 1).trans rfl
   have hfz13_0 := blk_frozen BK162.out 0
   have hfz13_1 := blk_frozen BK162.out 1
   have p164 : 0 ≤ (x4_1 : Int) := of_decide_eq_true tZE
   have q164 : x4_1 < (l0_1.length : Int) := of_decide_eq_true tZE
   obtain ⟨ad164, e164, hx164_0⟩ := Kd.at_string HR0_1.out x4_1 p164 q164
   cases e164
   replace hx164_0 := cZ HB hx164_0
   replace p164 := eq_true p164
   replace q164 := eq_true q164
   go_wp2
   go_roundg k1
   case measure => have := HK1.out; omega
   case rel => exact ⟨((x3_1 ++ (⟨#[44, 32]⟩ : ByteArray)) ++ (rdOf ByteArray.empty l0_1 x4_1)), (wrap64 (x4_1 + 1)), tZB, tZB, H', ⟨by have := HK1.out; omega⟩, ⟨bkZ BK162.out⟩, ⟨bZ⟩⟩
end Go.Proofs.Ytjnmfadnkbflfaa.PFnExactNeeded
