import Derived.Test.YtmpknbdbichdiaaBPFnExactReadBankx0
import Derived.Test.YtmpknbdbichdiaaBPFnExactReadBankx1
import Derived.Test.YtmpknbdbichdiaaBSlimWords
namespace Go.Proofs.Ytmpknbdbichdiaa.PFnExactReadBank
open Go.Proofs.Ytmpknbdbichdiaa.SlimWords
open Go.RowKit Go.Proofs.YtmpknbdbichdiaaW.PrintWords Go.Proofs.YtmpknbdbichdiaaW.PrintLast Go.Proofs.YtmpknbdbichdiaaW.PrintMore Go.Proofs.Ytmpknbdbichdiaa.MapWords Go.Proofs.Ytmpknbdbichdiaa.IterWords Go.Proofs.Ytmpknbdbichdiaa.MarkWords
attribute [local go_sem] max2_int min2_int max_two min_two max_three min_three max_four min_four
set_option linter.unusedVariables false
set_option linter.unusedSimpArgs false
mutual
def spec_ShowMoney.j0 : Nat → Int → Int → Bool → Option (ByteArray)
  | 0, _, _, _ => none
  | k + 1, x0, x1, x15 => if x15 = true then (some (⟨#[]⟩ : ByteArray)) else (if x0 < 0 then ((spec_ShowMoney.f k (wrap64 (-x0)) x1).bind fun t125 => (if 1 + t125.size ≤ 9223372036854775807 then (some ((⟨#[45]⟩ : ByteArray) ++ t125)) else (none))) else ((spec_l1Ten.f k x1).bind fun t126 => (if t126 = 0 then (none) else ((spec_l1Text.f k (wrap64 (Int.tdiv x0 t126))).bind fun t127 => (if x1 > 0 then ((spec_l1Text.f k (wrap64 (t126 + (Int.tmod x0 t126)))).bind fun t128 => (if t127.size + 1 ≤ 9223372036854775807 then (if 1 ≤ (t128.size : Int) then (if (t127 ++ (⟨#[46]⟩ : ByteArray)).size + (t128.extract 1 t128.size).size ≤ 9223372036854775807 then (some ((t127 ++ (⟨#[46]⟩ : ByteArray)) ++ (t128.extract 1 t128.size))) else (none)) else (none)) else (none))) else (some t127))))))
def spec_ShowMoney.f : Nat → Int → Int → Option (ByteArray)
  | 0, _, _ => none
  | k + 1, a0, a1 => (spec_l1Amount.f a0).bind fun t123 => (if t123 = true then ((spec_l1In.f a1 0 6).bind fun t124 => (spec_ShowMoney.j0 k a0 a1 (!t124))) else (spec_ShowMoney.j0 k a0 a1 true))
end
theorem spec_ShowMoney.mono_l : ∀ k, (∀ y0 y1, LeO (spec_ShowMoney.f k y0 y1) (spec_ShowMoney.f (k + 1) y0 y1)) ∧ (∀ y0 y1 y2, LeO (spec_ShowMoney.j0 k y0 y1 y2) (spec_ShowMoney.j0 (k + 1) y0 y1 y2))
  | 0 => ⟨fun _ _ r h => by simp [spec_ShowMoney.f] at h, fun _ _ _ r h => by simp [spec_ShowMoney.j0] at h⟩
  | k + 1 => by
    obtain ⟨ih0, ih1⟩ := spec_ShowMoney.mono_l k
    refine ⟨?_, ?_⟩
    · intro y0 y1
      unfold spec_ShowMoney.f
      repeat' first
      | (with_reducible exact ih0 _ _)
      | (with_reducible exact ih1 _ _ _)
      | (with_reducible exact spec_l1Ten.mono _ _)
      | (with_reducible exact spec_l1Text.mono _ _)
      | (with_reducible exact LeO.refl _)
      | (with_reducible exact LeO.none _)
      | (with_reducible refine LeO.ite ?_ ?_)
      | (with_reducible refine LeO.bind ?_ (fun _ => ?_))
      | exact ih0 _ _
      | exact ih1 _ _ _
      | exact spec_l1Ten.mono _ _
      | exact spec_l1Text.mono _ _
      | exact LeO.none _
      | refine LeO.ite ?_ ?_
      | refine LeO.bind ?_ (fun _ => ?_)
    · intro y0 y1 y2
      unfold spec_ShowMoney.j0
      repeat' first
      | (with_reducible exact ih0 _ _)
      | (with_reducible exact ih1 _ _ _)
      | (with_reducible exact spec_l1Ten.mono _ _)
      | (with_reducible exact spec_l1Text.mono _ _)
      | (with_reducible exact LeO.refl _)
      | (with_reducible exact LeO.none _)
      | (with_reducible refine LeO.ite ?_ ?_)
      | (with_reducible refine LeO.bind ?_ (fun _ => ?_))
      | exact ih0 _ _
      | exact ih1 _ _ _
      | exact spec_l1Ten.mono _ _
      | exact spec_l1Text.mono _ _
      | exact LeO.none _
      | refine LeO.ite ?_ ?_
      | refine LeO.bind ?_ (fun _ => ?_)
theorem spec_ShowMoney.mono : ∀ a0 a1 k, LeO (spec_ShowMoney.f k a0 a1) (spec_ShowMoney.f (k + 1) a0 a1) := by
 intro a0 a1 k
 obtain ⟨ih0, ih1⟩ := spec_ShowMoney.mono_l k
 exact ih0 a0 a1
set_option maxHeartbeats 8000000 in
set_option maxRecDepth 100000 in
theorem spec_ShowMoney.calls (k : Nat) : ∀ (a0 : Int) (a1 : Int) (r : ByteArray) (w : World) (h : spec_ShowMoney.f k a0 a1 = some r),
    Calls Try.prog 155 #[.int .i64 a0, .int .i64 a1] w fun e w' => e = .returned (.string r) ∧ Below w.heap.size w w' := by
 induction k using Nat.strongRecOn with
 | _ k ih =>
 intro a0 a1 r w h
 cases k with
 | zero => exact absurd h (by simp [spec_ShowMoney.f])
 | succ k =>
 simp only [spec_ShowMoney.f] at h
 have HB := aZ (Below.refl w.heap.size w)
 have H : ((spec_l1Amount.f a0).bind fun t123 => (if t123 = true then ((spec_l1In.f a1 0 6).bind fun t124 => (spec_ShowMoney.j0 k a0 a1 (!t124))) else (spec_ShowMoney.j0 k a0 a1 true))) = some r := h
 clear h
 have HC3 := Aside0.mk H
 clear H
 go_enter Try.func155, Try.ntmps155
 go_upto_region 1 with (fail)
 go_cut [15] (fun v15 wc => ∃ (kq : Nat) (x15_2 : Bool), v15 = .bool x15_2 ∧ Aside0 (spec_ShowMoney.j0 kq a0 a1 x15_2 = some r) ∧ Aside0 (kq ≤ k) ∧ Aside0 (Below w.heap.size w wc))
 case first =>
  have H := HC3.out
  clear HC3
  replace H := Option.bind_eq_some_iff.mp H
  obtain ⟨t123, A40, H⟩ := H
  replace H : (if t123 = true then ((spec_l1In.f a1 0 6).bind fun t124 => (spec_ShowMoney.j0 k a0 a1 (!t124))) else (spec_ShowMoney.j0 k a0 a1 true)) = some r := H
  have A4 := Aside0.mk A40
  clear A40
  by_cases c5 : t123 = true
  rotate_left
  ·replace c5 := Bool.eq_false_iff.mpr c5
   subst c5
   have H1 : (spec_ShowMoney.j0 k a0 a1 true) = some r := by rw [if_neg (show ¬ (false = true) by decide)] at H; exact H
   clear H
   have H := H1
   clear H1
   have H' := Aside0.mk H
   clear H
   go_wp2_with (first | ((with_reducible refine gate_callee (f := 70) rfl ?_); refine goesL_ (some 9) rfl rfl Try.func70 kZ rfl #[.int .i64 a0] rfl tZA ?_; (with_reducible refine (spec_l1Amount.calls a0 false _ A4.out).mono ?_); rintro e w' ⟨rfl, ⟨nd, rfl⟩⟩; refine ⟨_, rfl, ?_⟩))
   go_meet
   case rel => exact ⟨_, (true), tZB, H', ⟨by first | omega | exact Nat.le_refl _⟩, ⟨bZ⟩⟩
  subst c5
  have H1 : ((spec_l1In.f a1 0 6).bind fun t124 => (spec_ShowMoney.j0 k a0 a1 (!t124))) = some r := by rw [if_pos rfl] at H; exact H
  clear H
  have H := H1
  clear H1
  replace H := Option.bind_eq_some_iff.mp H
  obtain ⟨t124, A60, H⟩ := H
  replace H : (spec_ShowMoney.j0 k a0 a1 (!t124)) = some r := H
  have A6 := Aside0.mk A60
  clear A60
  have H' := Aside0.mk H
  clear H
  go_wp2_with (first | ((with_reducible refine gate_callee (f := 70) rfl ?_); refine goesL_ (some 9) rfl rfl Try.func70 kZ rfl #[.int .i64 a0] rfl tZA ?_; (with_reducible refine (spec_l1Amount.calls a0 true _ A4.out).mono ?_); rintro e w' ⟨rfl, ⟨nd, rfl⟩⟩; refine ⟨_, rfl, ?_⟩) | (go_at_call 67; (with_reducible refine (spec_l1In.calls a1 0 6 t124 _ A6.out).mono ?_); rintro e w' ⟨rfl, ⟨nd, rfl⟩⟩))
  go_meet
  case rel => exact ⟨_, (!t124), tZB, H', ⟨by first | omega | exact Nat.le_refl _⟩, ⟨bZ⟩⟩
 case rest =>
  clear HC3
  try clear c1
  try clear p2
  try clear c5
  obtain ⟨kq, x15_2, rfl, HA, HJ2, HB⟩ := hcut
  cases kq with
  | zero => exact absurd HA.out (by simp [spec_ShowMoney.j0])
  | succ kj2 =>
   have H := HA.out
   clear HA
   simp only [spec_ShowMoney.j0] at H
   by_cases c7 : x15_2 = true
   ·subst c7
    have H1 : (some (⟨#[]⟩ : ByteArray)) = some r := by rw [if_pos rfl] at H; exact H
    clear H
    have H := H1
    clear H1
    obtain rfl := Option.some.inj H
    go_wp2
    go_ret
    exact ⟨tZC, bZ⟩
   replace c7 := Bool.eq_false_iff.mpr c7
   subst c7
   have H1 : (if a0 < 0 then ((spec_ShowMoney.f kj2 (wrap64 (-a0)) a1).bind fun t125 => (if 1 + t125.size ≤ 9223372036854775807 then (some ((⟨#[45]⟩ : ByteArray) ++ t125)) else (none))) else ((spec_l1Ten.f kj2 a1).bind fun t126 => (if t126 = 0 then (none) else ((spec_l1Text.f kj2 (wrap64 (Int.tdiv a0 t126))).bind fun t127 => (if a1 > 0 then ((spec_l1Text.f kj2 (wrap64 (t126 + (Int.tmod a0 t126)))).bind fun t128 => (if t127.size + 1 ≤ 9223372036854775807 then (if 1 ≤ (t128.size : Int) then (if (t127 ++ (⟨#[46]⟩ : ByteArray)).size + (t128.extract 1 t128.size).size ≤ 9223372036854775807 then (some ((t127 ++ (⟨#[46]⟩ : ByteArray)) ++ (t128.extract 1 t128.size))) else (none)) else (none)) else (none))) else (some t127)))))) = some r := by rw [if_neg (show ¬ (false = true) by decide)] at H; exact H
   clear H
   have H := H1
   clear H1
   by_cases c8 : a0 < 0
   ·rw [if_pos c8] at H
    have c8b0 := decide_eq_true c8
    clear c8
    replace H := Option.bind_eq_some_iff.mp H
    obtain ⟨t125, A90, H⟩ := H
    replace H : (if 1 + t125.size ≤ 9223372036854775807 then (some ((⟨#[45]⟩ : ByteArray) ++ t125)) else (none)) = some r := H
    have A9 := Aside0.mk A90
    clear A90
    by_cases c10 : 1 + t125.size ≤ 9223372036854775807
    rotate_left
    ·rw [if_neg c10] at H
     exact absurd H (by simp)
    rw [if_pos c10] at H
    have c10b0 := eq_true c10
    have c10b1 := decide_eq_true c10
    try have c10b2 := eq_false (Nat.not_lt.2 c10)
    obtain rfl := Option.some.inj H
    go_wp2_with (first | ((with_reducible refine gate_callee (f := 155) rfl ?_); refine goesL_ (some 21) rfl rfl Try.func155 kZ rfl #[.int .i64 (wrap64 (-a0)), .int .i64 a1] rfl tZA ?_; (with_reducible refine (ih kj2 (by have := HJ2.out; omega) (wrap64 (-a0)) a1 t125 _ A9.out).mono ?_); rintro e w11 ⟨rfl, hb⟩; refine ⟨_, rfl, ?_⟩; replace HB := aZ (below_step (lZB HB.out) hb); (try clear hb); (try clear hb2); (try clear hk); (try clear hi)))
    go_ret
    exact ⟨tZC, bZ⟩
   rw [if_neg c8] at H
   have c8b0 := decide_eq_false c8
   clear c8
   replace H := Option.bind_eq_some_iff.mp H
   obtain ⟨t126, A120, H⟩ := H
   replace H : (if t126 = 0 then (none) else ((spec_l1Text.f kj2 (wrap64 (Int.tdiv a0 t126))).bind fun t127 => (if a1 > 0 then ((spec_l1Text.f kj2 (wrap64 (t126 + (Int.tmod a0 t126)))).bind fun t128 => (if t127.size + 1 ≤ 9223372036854775807 then (if 1 ≤ (t128.size : Int) then (if (t127 ++ (⟨#[46]⟩ : ByteArray)).size + (t128.extract 1 t128.size).size ≤ 9223372036854775807 then (some ((t127 ++ (⟨#[46]⟩ : ByteArray)) ++ (t128.extract 1 t128.size))) else (none)) else (none)) else (none))) else (some t127)))) = some r := H
   have A12 := Aside0.mk A120
   clear A120
   by_cases c13 : t126 = 0
   ·rw [if_pos c13] at H
    exact absurd H (by simp)
   rw [if_neg c13] at H
   have c13b0 : (t126 == 0) = false := beq_eq_false_iff_ne.mpr c13
   have c13b1 : (t126 != 0) = true := bne_iff_ne.mpr c13
   replace H := Option.bind_eq_some_iff.mp H
   obtain ⟨t127, A140, H⟩ := H
   replace H : (if a1 > 0 then ((spec_l1Text.f kj2 (wrap64 (t126 + (Int.tmod a0 t126)))).bind fun t128 => (if t127.size + 1 ≤ 9223372036854775807 then (if 1 ≤ (t128.size : Int) then (if (t127 ++ (⟨#[46]⟩ : ByteArray)).size + (t128.extract 1 t128.size).size ≤ 9223372036854775807 then (some ((t127 ++ (⟨#[46]⟩ : ByteArray)) ++ (t128.extract 1 t128.size))) else (none)) else (none)) else (none))) else (some t127)) = some r := H
   have A14 := Aside0.mk A140
   clear A140
   by_cases c15 : a1 > 0
   rotate_left
   ·rw [if_neg c15] at H
    have c15b0 : decide (0 < a1) = false := decide_eq_false c15
    clear c15
    obtain rfl := Option.some.inj H
    go_wp2_with (first | ((with_reducible refine gate_callee (f := 193) rfl ?_); refine goesL_ (some 24) rfl rfl Try.func193 kZ rfl #[.int .i64 a1] rfl tZA ?_; (with_reducible refine (spec_l1Ten.calls kj2 a1 t126 _ A12.out).mono ?_); rintro e w' ⟨rfl, ⟨nd, rfl⟩⟩; refine ⟨_, rfl, ?_⟩) | ((with_reducible refine gate_callee (f := 177) rfl ?_); refine goesL_ (some 28) rfl rfl Try.func177 kZ rfl #[.int .i64 (wrap64 (Int.tdiv a0 t126))] rfl tZA ?_; (with_reducible refine (spec_l1Text.calls kj2 (wrap64 (Int.tdiv a0 t126)) t127 _ A14.out).mono ?_); rintro e w22 ⟨rfl, hb⟩; refine ⟨_, rfl, ?_⟩; replace HB := aZ (below_step (lZB HB.out) hb); (try clear hb); (try clear hb2); (try clear hk); (try clear hi)))
    go_ret
    exact ⟨tZC, bZ⟩
   rw [if_pos c15] at H
   have c15b0 : decide (0 < a1) = true := decide_eq_true c15
   clear c15
   replace H := Option.bind_eq_some_iff.mp H
   obtain ⟨t128, A160, H⟩ := H
   replace H : (if t127.size + 1 ≤ 9223372036854775807 then (if 1 ≤ (t128.size : Int) then (if (t127 ++ (⟨#[46]⟩ : ByteArray)).size + (t128.extract 1 t128.size).size ≤ 9223372036854775807 then (some ((t127 ++ (⟨#[46]⟩ : ByteArray)) ++ (t128.extract 1 t128.size))) else (none)) else (none)) else (none)) = some r := H
   have A16 := Aside0.mk A160
   clear A160
   by_cases c17 : t127.size + 1 ≤ 9223372036854775807
   rotate_left
   ·rw [if_neg c17] at H
    exact absurd H (by simp)
   rw [if_pos c17] at H
   have c17b0 := eq_true c17
   have c17b1 := decide_eq_true c17
   try have c17b2 := eq_false (Nat.not_lt.2 c17)
   by_cases c18 : 1 ≤ (t128.size : Int)
   rotate_left
   ·rw [if_neg c18] at H
    exact absurd H (by simp)
   rw [if_pos c18] at H
   have c18b0 := eq_true c18
   have c18b1 := decide_eq_true c18
   clear c18
   by_cases c19 : (t127 ++ (⟨#[46]⟩ : ByteArray)).size + (t128.extract 1 t128.size).size ≤ 9223372036854775807
   rotate_left
   ·rw [if_neg c19] at H
    exact absurd H (by simp)
   rw [if_pos c19] at H
   have c19b0 := eq_true c19
   have c19b1 := decide_eq_true c19
   try have c19b2 := eq_false (Nat.not_lt.2 c19)
   try have c19b5 : (9223372036854775807 < t127.size + 1 + (t128.size - 1)) = False := eq_false (by have h_ := c19; have e0_ : (⟨#[46]⟩ : ByteArray).size = 1 := rfl; simp only [ByteArray.size_append, ByteArray.size_extract] at h_; omega)
   obtain rfl := Option.some.inj H
   go_wp2_with (first | ((with_reducible refine gate_callee (f := 193) rfl ?_); refine goesL_ (some 24) rfl rfl Try.func193 kZ rfl #[.int .i64 a1] rfl tZA ?_; (with_reducible refine (spec_l1Ten.calls kj2 a1 t126 _ A12.out).mono ?_); rintro e w' ⟨rfl, ⟨nd, rfl⟩⟩; refine ⟨_, rfl, ?_⟩) | ((with_reducible refine gate_callee (f := 177) rfl ?_); refine goesL_ (some 28) rfl rfl Try.func177 kZ rfl #[.int .i64 (wrap64 (Int.tdiv a0 t126))] rfl tZA ?_; (with_reducible refine (spec_l1Text.calls kj2 (wrap64 (Int.tdiv a0 t126)) t127 _ A14.out).mono ?_); rintro e w20 ⟨rfl, hb⟩; refine ⟨_, rfl, ?_⟩; replace HB := aZ (below_step (lZB HB.out) hb); (try clear hb); (try clear hb2); (try clear hk); (try clear hi)) | ((with_reducible refine gate_callee (f := 177) rfl ?_); refine goesL_ (some 36) rfl rfl Try.func177 kZ rfl #[.int .i64 (wrap64 (t126 + (Int.tmod a0 t126)))] rfl tZA ?_; (with_reducible refine (spec_l1Text.calls kj2 (wrap64 (t126 + (Int.tmod a0 t126))) t128 _ A16.out).mono ?_); rintro e w21 ⟨rfl, hb⟩; refine ⟨_, rfl, ?_⟩; replace HB := aZ (below_step (lZB HB.out) hb); (try clear hb); (try clear hb2); (try clear hk); (try clear hi)))
   go_ret
   exact ⟨tZC, bZ⟩
end Go.Proofs.Ytmpknbdbichdiaa.PFnExactReadBank
