import Derived.Test.YtmpknbdbichdiaaBPFnExactReadBankx0
import Derived.Test.YtmpknbdbichdiaaBPFnExactReadBankx10
import Derived.Test.YtmpknbdbichdiaaBPFnExactReadBankx11
import Derived.Test.YtmpknbdbichdiaaBPFnExactReadBankx12
import Derived.Test.YtmpknbdbichdiaaBSlimWords
namespace Go.Proofs.Ytmpknbdbichdiaa.PFnExactReadBank
open Go.Proofs.Ytmpknbdbichdiaa.SlimWords
open Go.RowKit Go.Proofs.YtmpknbdbichdiaaW.PrintWords Go.Proofs.YtmpknbdbichdiaaW.PrintLast Go.Proofs.YtmpknbdbichdiaaW.PrintMore Go.Proofs.Ytmpknbdbichdiaa.MapWords Go.Proofs.Ytmpknbdbichdiaa.IterWords Go.Proofs.Ytmpknbdbichdiaa.MarkWords
attribute [local go_sem] max2_int min2_int max_two min_two max_three min_three max_four min_four
set_option linter.unusedVariables false
set_option linter.unusedSimpArgs false
private abbrev I' := true
private abbrev O' := false
private abbrev L0' : Array Bool := #[O',O',O',O',O',O',O',O']
private abbrev L1' : Array Bool := #[I',O',O',O',O',O',O',O']
private abbrev L2' : Array Bool := #[I',I',O',O',O',O',O',O']
private abbrev L3' : Array Bool := #[I',I',I',O',O',O',O',O']
private abbrev L4' : Array Bool := #[I',I',I',I',O',O',O',O']
private abbrev L5' : Array Bool := #[I',I',I',I',I',O',O',O']
private abbrev L6' : Array Bool := #[I',I',I',I',I',I',O',O']
private abbrev L7' : Array Bool := #[I',I',I',I',I',I',I',O']
private abbrev L8' : Array Bool := #[I',I',I',I',I',I',I',I']
def impl_fieldNumber.j0 : Nat → ByteArray → Int → Int → Bool → Option (Int × Bool)
  | 0, _, _, _, _ => none
  | k + 1, x0, x1, x6, x7 => if x1 = 100 then ((impl_digits.f k x0 0).bind fun bt245 => (if bt245.2 = (x0.size : Int) then (if bt245.2 > 0 then (if bt245.2 < 9 then ((impl_decimal.f k bt245.1).bind fun t247 => (if t247.toList = x0.toList then (some (bt245.1, decide (bt245.1 ≥ 0))) else (some (bt245.1, false)))) else (some (bt245.1, false))) else (some (bt245.1, false))) else (some (bt245.1, false)))) else (if x7 = true then (some (x6, decide (x6 ≥ 0))) else (some (x6, false)))
def impl_fieldNumber.f (k : Nat) (a0 : ByteArray) (a1 : Int) : Option (Int × Bool) := if a1 = 109 then ((impl_ReadMoney.f k a0 2).bind fun bt242 => (if bt242.2 = true then ((impl_ShowMoney.f k bt242.1 2).bind fun t244 => (if t244.toList = a0.toList then (if bt242.1 = 0 then (some (0, false)) else (impl_fieldNumber.j0 k a0 a1 bt242.1 bt242.2)) else (some (0, false)))) else (some (0, false)))) else (impl_fieldNumber.j0 k a0 a1 0 false)
theorem impl_fieldNumber.mono_l : ∀ k, (∀ y0 y1 y2 y3, LeO (impl_fieldNumber.j0 k y0 y1 y2 y3) (impl_fieldNumber.j0 (k + 1) y0 y1 y2 y3))
  | 0 => fun _ _ _ _ r h => by simp [impl_fieldNumber.j0] at h
  | k + 1 => by
    have ih0 := impl_fieldNumber.mono_l k
    · intro y0 y1 y2 y3
      unfold impl_fieldNumber.j0
      repeat' first
      | (with_reducible exact ih0 _ _ _ _)
      | (with_reducible exact impl_ReadMoney.mono _ _ _)
      | (with_reducible exact impl_ShowMoney.mono _ _ _)
      | (with_reducible exact impl_decimal.mono _ _)
      | (with_reducible exact impl_digits.mono _ _ _)
      | (with_reducible exact LeO.refl _)
      | (with_reducible exact LeO.none _)
      | (with_reducible refine LeO.ite ?_ ?_)
      | (with_reducible refine LeO.bind ?_ (fun _ => ?_))
      | exact ih0 _ _ _ _
      | exact impl_ReadMoney.mono _ _ _
      | exact impl_ShowMoney.mono _ _ _
      | exact impl_decimal.mono _ _
      | exact impl_digits.mono _ _ _
      | exact LeO.none _
      | refine LeO.ite ?_ ?_
      | refine LeO.bind ?_ (fun _ => ?_)
theorem impl_fieldNumber.mono : ∀ a0 a1 k, LeO (impl_fieldNumber.f k a0 a1) (impl_fieldNumber.f (k + 1) a0 a1) := by
 intro a0 a1 k
 have ih0 := impl_fieldNumber.mono_l k
 unfold impl_fieldNumber.f
 repeat' first
     | (with_reducible exact ih0 _ _ _ _)
     | (with_reducible exact impl_ReadMoney.mono _ _ _)
     | (with_reducible exact impl_ShowMoney.mono _ _ _)
     | (with_reducible exact impl_decimal.mono _ _)
     | (with_reducible exact impl_digits.mono _ _ _)
     | (with_reducible exact LeO.refl _)
     | (with_reducible exact LeO.none _)
     | (with_reducible refine LeO.ite ?_ ?_)
     | (with_reducible refine LeO.bind ?_ (fun _ => ?_))
     | exact ih0 _ _ _ _
     | exact impl_ReadMoney.mono _ _ _
     | exact impl_ShowMoney.mono _ _ _
     | exact impl_decimal.mono _ _
     | exact impl_digits.mono _ _ _
     | exact LeO.none _
     | refine LeO.ite ?_ ?_
     | refine LeO.bind ?_ (fun _ => ?_)
set_option maxHeartbeats 8000000 in
set_option maxRecDepth 100000 in
theorem impl_fieldNumber.calls (k : Nat) (a0 : ByteArray) (a1 : Int) (r1 : Int) (r2 : Bool) (w : World) (h : impl_fieldNumber.f k a0 a1 = some (r1, r2)) :
    Calls Try.prog 127 #[.string a0, .int .u8 a1] w fun e w' => e = .returned (.tuple #[.int .i64 r1, .bool r2]) ∧ Below w.heap.size w w' := by
 have HB := aZ (Below.refl w.heap.size w)
 have H : (if a1 = 109 then ((impl_ReadMoney.f k a0 2).bind fun bt242 => (if bt242.2 = true then ((impl_ShowMoney.f k bt242.1 2).bind fun t244 => (if t244.toList = a0.toList then (if bt242.1 = 0 then (some (0, false)) else (impl_fieldNumber.j0 k a0 a1 bt242.1 bt242.2)) else (some (0, false)))) else (some (0, false)))) else (impl_fieldNumber.j0 k a0 a1 0 false)) = some (r1, r2) := h
 clear h
 have HC3 := Aside0.mk H
 clear H
 go_enter Try.func127, Try.ntmps127
 go_upto_block 2 with (fail)
 go_cut [6, 7] (fun v6 v7 wc => ∃ (kq : Nat) (x6_2 : Int) (x7_2 : Bool), v6 = .int .i64 x6_2 ∧ v7 = .bool x7_2 ∧ Aside0 (impl_fieldNumber.j0 kq a0 a1 x6_2 x7_2 = some (r1, r2)) ∧ Aside0 (kq ≤ k) ∧ Aside0 (Below w.heap.size w wc))
 case first =>
  have H := HC3.out
  clear HC3
  by_cases c4 : a1 = 109
  rotate_left
  ·rw [if_neg c4] at H
   have c4b0 : (a1 == 109) = false := beq_eq_false_iff_ne.mpr c4
   have c4b1 : (a1 != 109) = true := bne_iff_ne.mpr c4
   (first | rw [c4b0] | (simp only [i64_w, i32_w]; rw [c4b0]) | skip)
   have H' := Aside0.mk H
   clear H
   go_wp2
   go_meet
   case rel => exact ⟨_, (0), (false), tZB, tZB, H', ⟨by first | omega | exact Nat.le_refl _⟩, ⟨bZ⟩⟩
  rw [if_pos c4] at H
  have c4b0 : (a1 == 109) = true := beq_iff_eq.mpr c4
  have c4b1 : (a1 != 109) = false := bne_eq_false_iff_eq.mpr c4
  clear c4
  (first | rw [c4b0] | (simp only [i64_w, i32_w]; rw [c4b0]) | skip)
  replace H := Option.bind_eq_some_iff.mp H
  obtain ⟨⟨t242, t243⟩, A50, H⟩ := H
  replace H : (if t243 = true then ((impl_ShowMoney.f k t242 2).bind fun t244 => (if t244.toList = a0.toList then (if t242 = 0 then (some (0, false)) else (impl_fieldNumber.j0 k a0 a1 t242 t243)) else (some (0, false)))) else (some (0, false))) = some (r1, r2) := H
  have A5 := Aside0.mk A50
  clear A50
  by_cases c6 : t243 = true
  rotate_left
  ·replace c6 := Bool.eq_false_iff.mpr c6
   subst c6
   have H1 : (some (0, false)) = some (r1, r2) := by rw [if_neg (show ¬ (false = true) by decide)] at H; exact H
   clear H
   have H := H1
   clear H1
   simp only [Option.some.injEq, Prod.mk.injEq] at H
   obtain ⟨rfl, rfl⟩ := H
   go_wp2_with (first | ((with_reducible refine gate_callee (f := 156) rfl ?_); refine goesL_ (some 14) rfl rfl Try.func156 kZ rfl #[.string a0, .int .i64 2] rfl tZA ?_; (with_reducible refine (impl_ReadMoney.calls k a0 2 t242 false _ A5.out).mono ?_); rintro e w' ⟨rfl, ⟨nd, rfl⟩⟩; refine ⟨_, rfl, ?_⟩))
   go_ret2
   exact ⟨tZC, bZ⟩
  subst c6
  have H1 : ((impl_ShowMoney.f k t242 2).bind fun t244 => (if t244.toList = a0.toList then (if t242 = 0 then (some (0, false)) else (impl_fieldNumber.j0 k a0 a1 t242 true)) else (some (0, false)))) = some (r1, r2) := by rw [if_pos rfl] at H; exact H
  clear H
  have H := H1
  clear H1
  replace H := Option.bind_eq_some_iff.mp H
  obtain ⟨t244, A70, H⟩ := H
  replace H : (if t244.toList = a0.toList then (if t242 = 0 then (some (0, false)) else (impl_fieldNumber.j0 k a0 a1 t242 true)) else (some (0, false))) = some (r1, r2) := H
  have A7 := Aside0.mk A70
  clear A70
  by_cases c8 : t244.toList = a0.toList
  rotate_left
  ·rw [if_neg c8] at H
   have c8b0 : (t244.toList == a0.toList) = false := beq_eq_false_iff_ne.mpr c8
   have c8b1 : (t244.toList != a0.toList) = true := bne_iff_ne.mpr c8
   simp only [Option.some.injEq, Prod.mk.injEq] at H
   obtain ⟨rfl, rfl⟩ := H
   go_wp2_with (first | ((with_reducible refine gate_callee (f := 156) rfl ?_); refine goesL_ (some 14) rfl rfl Try.func156 kZ rfl #[.string a0, .int .i64 2] rfl tZA ?_; (with_reducible refine (impl_ReadMoney.calls k a0 2 t242 true _ A5.out).mono ?_); rintro e w' ⟨rfl, ⟨nd, rfl⟩⟩; refine ⟨_, rfl, ?_⟩) | (go_at_call 100; (with_reducible refine (impl_ShowMoney.calls k t242 2 t244 _ A7.out).mono ?_); rintro e w12 ⟨rfl, hb⟩; replace HB := aZ (below_step (lZB HB.out) hb); (try clear hb); (try clear hb2); (try clear hk); (try clear hi)))
   go_ret2
   exact ⟨tZC, bZ⟩
  rw [if_pos c8] at H
  have c8b0 : (t244.toList == a0.toList) = true := beq_iff_eq.mpr c8
  have c8b1 : (t244.toList != a0.toList) = false := bne_eq_false_iff_eq.mpr c8
  clear c8
  by_cases c9 : t242 = 0
  ·rw [if_pos c9] at H
   have c9b0 : (t242 == 0) = true := beq_iff_eq.mpr c9
   have c9b1 : (t242 != 0) = false := bne_eq_false_iff_eq.mpr c9
   clear c9
   simp only [Option.some.injEq, Prod.mk.injEq] at H
   obtain ⟨rfl, rfl⟩ := H
   go_wp2_with (first | ((with_reducible refine gate_callee (f := 156) rfl ?_); refine goesL_ (some 14) rfl rfl Try.func156 kZ rfl #[.string a0, .int .i64 2] rfl tZA ?_; (with_reducible refine (impl_ReadMoney.calls k a0 2 t242 true _ A5.out).mono ?_); rintro e w' ⟨rfl, ⟨nd, rfl⟩⟩; refine ⟨_, rfl, ?_⟩) | (go_at_call 100; (with_reducible refine (impl_ShowMoney.calls k t242 2 t244 _ A7.out).mono ?_); rintro e w10 ⟨rfl, hb⟩; replace HB := aZ (below_step (lZB HB.out) hb); (try clear hb); (try clear hb2); (try clear hk); (try clear hi)))
   go_ret2
   exact ⟨tZC, bZ⟩
  rw [if_neg c9] at H
  have c9b0 : (t242 == 0) = false := beq_eq_false_iff_ne.mpr c9
  have c9b1 : (t242 != 0) = true := bne_iff_ne.mpr c9
  have H' := Aside0.mk H
  clear H
  go_wp2_with (first | ((with_reducible refine gate_callee (f := 156) rfl ?_); refine goesL_ (some 14) rfl rfl Try.func156 kZ rfl #[.string a0, .int .i64 2] rfl tZA ?_; (with_reducible refine (impl_ReadMoney.calls k a0 2 t242 true _ A5.out).mono ?_); rintro e w' ⟨rfl, ⟨nd, rfl⟩⟩; refine ⟨_, rfl, ?_⟩) | (go_at_call 100; (with_reducible refine (impl_ShowMoney.calls k t242 2 t244 _ A7.out).mono ?_); rintro e w11 ⟨rfl, hb⟩; replace HB := aZ (below_step (lZB HB.out) hb); (try clear hb); (try clear hb2); (try clear hk); (try clear hi)))
  go_meet
  case rel => exact ⟨_, (t242), (true), tZB, tZB, H', ⟨by first | omega | exact Nat.le_refl _⟩, ⟨bZ⟩⟩
 case rest =>
  clear HC3
  try clear c1
  try clear p2
  try clear c4
  try clear c4b0
  try clear c4b1
  try clear c6
  try clear c8
  try clear c8b0
  try clear c8b1
  try clear c9
  try clear c9b0
  try clear c9b1
  try clear c12
  obtain ⟨kq, x6_2, x7_2, rfl, rfl, HA, HJ2, HB⟩ := hcut
  cases kq with
  | zero => exact absurd HA.out (by simp [impl_fieldNumber.j0])
  | succ kj2 =>
   have H := HA.out
   clear HA
   simp only [impl_fieldNumber.j0] at H
   by_cases c13 : a1 = 100
   rotate_left
   ·rw [if_neg c13] at H
    have c13b0 : (a1 == 100) = false := beq_eq_false_iff_ne.mpr c13
    have c13b1 : (a1 != 100) = true := bne_iff_ne.mpr c13
    by_cases c22 : x7_2 = true
    ·subst c22
     have H1 : (some (x6_2, decide (x6_2 ≥ 0))) = some (r1, r2) := by rw [if_pos rfl] at H; exact H
     clear H
     have H := H1
     clear H1
     simp only [Option.some.injEq, Prod.mk.injEq] at H
     obtain ⟨rfl, rfl⟩ := H
     go_wp2
     go_ret2
     exact ⟨tZC, bZ⟩
    replace c22 := Bool.eq_false_iff.mpr c22
    subst c22
    have H1 : (some (x6_2, false)) = some (r1, r2) := by rw [if_neg (show ¬ (false = true) by decide)] at H; exact H
    clear H
    have H := H1
    clear H1
    simp only [Option.some.injEq, Prod.mk.injEq] at H
    obtain ⟨rfl, rfl⟩ := H
    go_wp2
    go_ret2
    exact ⟨tZC, bZ⟩
   rw [if_pos c13] at H
   have c13b0 : (a1 == 100) = true := beq_iff_eq.mpr c13
   have c13b1 : (a1 != 100) = false := bne_eq_false_iff_eq.mpr c13
   clear c13
   replace H := Option.bind_eq_some_iff.mp H
   obtain ⟨⟨t245, t246⟩, A140, H⟩ := H
   replace H : (if t246 = (a0.size : Int) then (if t246 > 0 then (if t246 < 9 then ((impl_decimal.f kj2 t245).bind fun t247 => (if t247.toList = a0.toList then (some (t245, decide (t245 ≥ 0))) else (some (t245, false)))) else (some (t245, false))) else (some (t245, false))) else (some (t245, false))) = some (r1, r2) := H
   have A14 := Aside0.mk A140
   clear A140
   by_cases c15 : t246 = (a0.size : Int)
   rotate_left
   ·rw [if_neg c15] at H
    have c15b0 : (t246 == (a0.size : Int)) = false := beq_eq_false_iff_ne.mpr c15
    have c15b1 : (t246 != (a0.size : Int)) = true := bne_iff_ne.mpr c15
    simp only [Option.some.injEq, Prod.mk.injEq] at H
    obtain ⟨rfl, rfl⟩ := H
    go_wp2_with (first | ((with_reducible refine gate_callee (f := 179) rfl ?_); refine goesL_ (some 33) rfl rfl Try.func179 kZ rfl #[.string a0, .int .i64 0] rfl tZA ?_; (with_reducible refine (impl_digits.calls kj2 a0 0 t245 t246 _ A14.out).mono ?_); rintro e w' ⟨rfl, ⟨nd, rfl⟩⟩; refine ⟨_, rfl, ?_⟩))
    go_ret2
    exact ⟨tZC, bZ⟩
   rw [if_pos c15] at H
   have c15b0 : (t246 == (a0.size : Int)) = true := beq_iff_eq.mpr c15
   have c15b1 : (t246 != (a0.size : Int)) = false := bne_eq_false_iff_eq.mpr c15
   clear c15
   by_cases c16 : t246 > 0
   rotate_left
   ·rw [if_neg c16] at H
    have c16b0 : decide (0 < t246) = false := decide_eq_false c16
    clear c16
    simp only [Option.some.injEq, Prod.mk.injEq] at H
    obtain ⟨rfl, rfl⟩ := H
    go_wp2_with (first | ((with_reducible refine gate_callee (f := 179) rfl ?_); refine goesL_ (some 33) rfl rfl Try.func179 kZ rfl #[.string a0, .int .i64 0] rfl tZA ?_; (with_reducible refine (impl_digits.calls kj2 a0 0 t245 t246 _ A14.out).mono ?_); rintro e w' ⟨rfl, ⟨nd, rfl⟩⟩; refine ⟨_, rfl, ?_⟩))
    go_ret2
    exact ⟨tZC, bZ⟩
   rw [if_pos c16] at H
   have c16b0 : decide (0 < t246) = true := decide_eq_true c16
   clear c16
   by_cases c17 : t246 < 9
   rotate_left
   ·rw [if_neg c17] at H
    have c17b0 := decide_eq_false c17
    clear c17
    simp only [Option.some.injEq, Prod.mk.injEq] at H
    obtain ⟨rfl, rfl⟩ := H
    go_wp2_with (first | ((with_reducible refine gate_callee (f := 179) rfl ?_); refine goesL_ (some 33) rfl rfl Try.func179 kZ rfl #[.string a0, .int .i64 0] rfl tZA ?_; (with_reducible refine (impl_digits.calls kj2 a0 0 t245 t246 _ A14.out).mono ?_); rintro e w' ⟨rfl, ⟨nd, rfl⟩⟩; refine ⟨_, rfl, ?_⟩))
    go_ret2
    exact ⟨tZC, bZ⟩
   rw [if_pos c17] at H
   have c17b0 := decide_eq_true c17
   clear c17
   replace H := Option.bind_eq_some_iff.mp H
   obtain ⟨t247, A180, H⟩ := H
   replace H : (if t247.toList = a0.toList then (some (t245, decide (t245 ≥ 0))) else (some (t245, false))) = some (r1, r2) := H
   have A18 := Aside0.mk A180
   clear A180
   by_cases c19 : t247.toList = a0.toList
   rotate_left
   ·rw [if_neg c19] at H
    have c19b0 : (t247.toList == a0.toList) = false := beq_eq_false_iff_ne.mpr c19
    have c19b1 : (t247.toList != a0.toList) = true := bne_iff_ne.mpr c19
    simp only [Option.some.injEq, Prod.mk.injEq] at H
    obtain ⟨rfl, rfl⟩ := H
    go_wp2_with (first | ((with_reducible refine gate_callee (f := 179) rfl ?_); refine goesL_ (some 33) rfl rfl Try.func179 kZ rfl #[.string a0, .int .i64 0] rfl tZA ?_; (with_reducible refine (impl_digits.calls kj2 a0 0 t245 t246 _ A14.out).mono ?_); rintro e w' ⟨rfl, ⟨nd, rfl⟩⟩; refine ⟨_, rfl, ?_⟩) | (go_at_call 130; (with_reducible refine (impl_decimal.calls kj2 t245 t247 _ A18.out).mono ?_); rintro e w21 ⟨rfl, hb⟩; replace HB := aZ (below_step (lZB HB.out) hb); (try clear hb); (try clear hb2); (try clear hk); (try clear hi)))
    go_ret2
    exact ⟨tZC, bZ⟩
   rw [if_pos c19] at H
   have c19b0 : (t247.toList == a0.toList) = true := beq_iff_eq.mpr c19
   have c19b1 : (t247.toList != a0.toList) = false := bne_eq_false_iff_eq.mpr c19
   clear c19
   simp only [Option.some.injEq, Prod.mk.injEq] at H
   obtain ⟨rfl, rfl⟩ := H
   go_wp2_with (first | ((with_reducible refine gate_callee (f := 179) rfl ?_); refine goesL_ (some 33) rfl rfl Try.func179 kZ rfl #[.string a0, .int .i64 0] rfl tZA ?_; (with_reducible refine (impl_digits.calls kj2 a0 0 t245 t246 _ A14.out).mono ?_); rintro e w' ⟨rfl, ⟨nd, rfl⟩⟩; refine ⟨_, rfl, ?_⟩) | (go_at_call 130; (with_reducible refine (impl_decimal.calls kj2 t245 t247 _ A18.out).mono ?_); rintro e w20 ⟨rfl, hb⟩; replace HB := aZ (below_step (lZB HB.out) hb); (try clear hb); (try clear hb2); (try clear hk); (try clear hi)))
   go_ret2
   exact ⟨tZC, bZ⟩
def impl_capital.f (a0 : Int) : Option (Bool) := if a0 ≥ 65 then (some (decide (a0 ≤ 90))) else (some false)
set_option maxHeartbeats 8000000 in
set_option maxRecDepth 100000 in
theorem impl_capital.calls (a0 : Int) (r : Bool) (w : World) (h : impl_capital.f a0 = some r) :
    Calls Try.prog 206 #[.int .i32 a0] w fun e w' => e = .returned (.bool r) ∧ Drawn0 w w' := by
 have H : (if a0 ≥ 65 then (some (decide (a0 ≤ 90))) else (some false)) = some r := h
 clear h
 by_cases c2 : a0 ≥ 65
 ·rw [if_pos c2] at H
  have c2b0 : decide (65 ≤ a0) = true := decide_eq_true c2
  clear c2
  obtain rfl := Option.some.inj H
  go_enter Try.func206, Try.ntmps206
  go_wp2
  go_ret
  exact ⟨tZB, tZD⟩
 rw [if_neg c2] at H
 have c2b0 : decide (65 ≤ a0) = false := decide_eq_false c2
 clear c2
 obtain rfl := Option.some.inj H
 go_enter Try.func206, Try.ntmps206
 go_wp2
 go_ret
 exact ⟨tZB, tZD⟩
def impl_landOk.f (a0 : ByteArray) : Option (Bool) := if (a0.size : Int) = 2 then (if 0 < (a0.size : Int) then ((impl_capital.f (wrap32 (bt a0 0))).bind fun t248 => (if t248 = true then (if 1 < (a0.size : Int) then ((impl_capital.f (wrap32 (bt a0 1))).bind fun t249 => (some t249)) else (none)) else (some false))) else (none)) else (some false)
set_option maxHeartbeats 8000000 in
set_option maxRecDepth 100000 in
theorem impl_landOk.calls (a0 : ByteArray) (r : Bool) (w : World) (h : impl_landOk.f a0 = some r) :
    Calls Try.prog 180 #[.string a0] w fun e w' => e = .returned (.bool r) ∧ Drawn0 w w' := by
 have H : (if (a0.size : Int) = 2 then (if 0 < (a0.size : Int) then ((impl_capital.f (wrap32 (bt a0 0))).bind fun t248 => (if t248 = true then (if 1 < (a0.size : Int) then ((impl_capital.f (wrap32 (bt a0 1))).bind fun t249 => (some t249)) else (none)) else (some false))) else (none)) else (some false)) = some r := h
 clear h
 by_cases c2 : (a0.size : Int) = 2
 rotate_left
 ·rw [if_neg c2] at H
  have c2b0 : ((a0.size : Int) == 2) = false := beq_eq_false_iff_ne.mpr c2
  have c2b1 : ((a0.size : Int) != 2) = true := bne_iff_ne.mpr c2
  obtain rfl := Option.some.inj H
  go_enter Try.func180, Try.ntmps180
  go_wp2
  go_ret
  exact ⟨tZB, tZD⟩
 rw [if_pos c2] at H
 have c2b0 : ((a0.size : Int) == 2) = true := beq_iff_eq.mpr c2
 have c2b1 : ((a0.size : Int) != 2) = false := bne_eq_false_iff_eq.mpr c2
 clear c2
 by_cases c3 : 0 < (a0.size : Int)
 rotate_left
 ·rw [if_neg c3] at H
  exact absurd H (by simp)
 rw [if_pos c3] at H
 have c3b0 := decide_eq_true c3
 have c3b1 : decide (0 < a0.size) = true := decide_eq_true (by omega)
 clear c3
 replace H := Option.bind_eq_some_iff.mp H
 obtain ⟨t248, A50, H⟩ := H
 replace H : (if t248 = true then (if 1 < (a0.size : Int) then ((impl_capital.f (wrap32 (bt a0 1))).bind fun t249 => (some t249)) else (none)) else (some false)) = some r := H
 have A5 := Aside0.mk A50
 clear A50
 by_cases c6 : t248 = true
 rotate_left
 ·replace c6 := Bool.eq_false_iff.mpr c6
  subst c6
  have H1 : (some false) = some r := by rw [if_neg (show ¬ (false = true) by decide)] at H; exact H
  clear H
  have H := H1
  clear H1
  obtain rfl := Option.some.inj H
  have p4 : 0 ≤ (0 : Int) := (by omega)
  have q4 : 0 < a0.size := (by have : (0 : Int) < (a0.size : Int) := of_decide_eq_true tZE; omega)
  have hx4 : ∀ h : 0 < a0.size, ((a0[0]'h).toNat : Int) = bt a0 0 := bt_at a0 0
  clear p4
  have qi4 : (0 < (a0.size : Int)) = True := eq_true (of_decide_eq_true tZE)
  replace q4 := eq_true q4
  go_enter Try.func180, Try.ntmps180
  go_wp2_with (first | (go_at_call 206; (with_reducible refine (impl_capital.calls (wrap32 (bt a0 0)) false _ A5.out).mono ?_); rintro e w' ⟨rfl, ⟨nd, rfl⟩⟩))
  go_ret
  exact ⟨tZB, tZD⟩
 subst c6
 have H1 : (if 1 < (a0.size : Int) then ((impl_capital.f (wrap32 (bt a0 1))).bind fun t249 => (some t249)) else (none)) = some r := by rw [if_pos rfl] at H; exact H
 clear H
 have H := H1
 clear H1
 by_cases c7 : 1 < (a0.size : Int)
 rotate_left
 ·rw [if_neg c7] at H
  exact absurd H (by simp)
 rw [if_pos c7] at H
 have c7b0 := decide_eq_true c7
 have c7b1 : decide (1 < a0.size) = true := decide_eq_true (by omega)
 clear c7
 replace H := Option.bind_eq_some_iff.mp H
 obtain ⟨t249, A90, H⟩ := H
 replace H : (some t249) = some r := H
 have A9 := Aside0.mk A90
 clear A90
 obtain rfl := Option.some.inj H
 have p4 : 0 ≤ (0 : Int) := (by omega)
 have q4 : 0 < a0.size := (by have : (0 : Int) < (a0.size : Int) := of_decide_eq_true tZE; omega)
 have hx4 : ∀ h : 0 < a0.size, ((a0[0]'h).toNat : Int) = bt a0 0 := bt_at a0 0
 clear p4
 have qi4 : (0 < (a0.size : Int)) = True := eq_true (of_decide_eq_true tZE)
 replace q4 := eq_true q4
 go_enter Try.func180, Try.ntmps180
 go_wp2_with (first | (go_at_call 206; (with_reducible refine (impl_capital.calls (wrap32 (bt a0 0)) true _ A5.out).mono ?_); rintro e w' ⟨rfl, ⟨nd, rfl⟩⟩; have p8 : 0 ≤ (1 : Int) := (by omega); have q8 : 1 < a0.size := (by have : (1 : Int) < (a0.size : Int) := of_decide_eq_true tZE; omega); have hx8 : ∀ h : 1 < a0.size, ((a0[1]'h).toNat : Int) = bt a0 1 := bt_at a0 1; clear p8; have qi8 : (1 < (a0.size : Int)) = True := eq_true (of_decide_eq_true tZE); replace q8 := eq_true q8) | (go_at_call 206; (with_reducible refine (impl_capital.calls (wrap32 (bt a0 1)) t249 _ A9.out).mono ?_); rintro e w' ⟨rfl, ⟨nd, rfl⟩⟩))
 go_ret
 exact ⟨tZB, tZD⟩
def impl_digit.f (a0 : Int) : Option (Bool) := if a0 ≥ 48 then (some (decide (a0 ≤ 57))) else (some false)
set_option maxHeartbeats 8000000 in
set_option maxRecDepth 100000 in
theorem impl_digit.calls (a0 : Int) (r : Bool) (w : World) (h : impl_digit.f a0 = some r) :
    Calls Try.prog 181 #[.int .u8 a0] w fun e w' => e = .returned (.bool r) ∧ Drawn0 w w' := by
 have H : (if a0 ≥ 48 then (some (decide (a0 ≤ 57))) else (some false)) = some r := h
 clear h
 by_cases c2 : a0 ≥ 48
 ·rw [if_pos c2] at H
  have c2b0 : decide (48 ≤ a0) = true := decide_eq_true c2
  clear c2
  obtain rfl := Option.some.inj H
  go_enter Try.func181, Try.ntmps181
  go_wp2
  go_ret
  exact ⟨tZB, tZD⟩
 rw [if_neg c2] at H
 have c2b0 : decide (48 ≤ a0) = false := decide_eq_false c2
 clear c2
 obtain rfl := Option.some.inj H
 go_enter Try.func181, Try.ntmps181
 go_wp2
 go_ret
 exact ⟨tZB, tZD⟩
mutual
def impl_rest97.l0 : Nat → Int → Int → ByteArray → Option (Int)
  | 0, _, _, _ => none
  | k + 1, x3, x251000, x251001 => if itp x251000 < (x251001.size : Int) then (if (itr x251001 x251000) ≥ 48 then (impl_rest97.j1 k x3 (itr x251001 x251000) (decide ((itr x251001 x251000) ≤ 57)) (itw x251001 x251000) x251001) else (impl_rest97.j1 k x3 (itr x251001 x251000) false (itw x251001 x251000) x251001)) else (some x3)
def impl_rest97.j1 : Nat → Int → Int → Bool → Int → ByteArray → Option (Int)
  | 0, _, _, _, _, _ => none
  | k + 1, x3, x5, x11, x251000, x251001 => if x11 = true then (impl_rest97.l0 k (Int.tmod (wrap64 ((wrap64 (x3 * 10)) + (wrap64 (wrap32 (x5 - 48))))) 97) x251000 x251001) else ((impl_capital.f x5).bind fun t251 => (if t251 = true then (impl_rest97.l0 k (Int.tmod (wrap64 ((wrap64 ((wrap64 (x3 * 100)) + (wrap64 (wrap32 (x5 - 65))))) + 10)) 97) x251000 x251001) else (some (-1))))
end
def impl_rest97.f (k : Nat) (a0 : ByteArray) : Option (Int) := impl_rest97.l0 k 0 0 a0
theorem impl_rest97.mono_l : ∀ k, (∀ y0 y1 y2, LeO (impl_rest97.l0 k y0 y1 y2) (impl_rest97.l0 (k + 1) y0 y1 y2)) ∧ (∀ y0 y1 y2 y3 y4, LeO (impl_rest97.j1 k y0 y1 y2 y3 y4) (impl_rest97.j1 (k + 1) y0 y1 y2 y3 y4))
  | 0 => ⟨fun _ _ _ r h => by simp [impl_rest97.l0] at h, fun _ _ _ _ _ r h => by simp [impl_rest97.j1] at h⟩
  | k + 1 => by
    obtain ⟨ih0, ih1⟩ := impl_rest97.mono_l k
    refine ⟨?_, ?_⟩
    · intro y0 y1 y2
      unfold impl_rest97.l0
      repeat' first
      | (with_reducible exact ih0 _ _ _)
      | (with_reducible exact ih1 _ _ _ _ _)
      | (with_reducible exact LeO.refl _)
      | (with_reducible exact LeO.none _)
      | (with_reducible refine LeO.ite ?_ ?_)
      | (with_reducible refine LeO.bind ?_ (fun _ => ?_))
      | exact ih0 _ _ _
      | exact ih1 _ _ _ _ _
      | exact LeO.none _
      | refine LeO.ite ?_ ?_
      | refine LeO.bind ?_ (fun _ => ?_)
    · intro y0 y1 y2 y3 y4
      unfold impl_rest97.j1
      repeat' first
      | (with_reducible exact ih0 _ _ _)
      | (with_reducible exact ih1 _ _ _ _ _)
      | (with_reducible exact LeO.refl _)
      | (with_reducible exact LeO.none _)
      | (with_reducible refine LeO.ite ?_ ?_)
      | (with_reducible refine LeO.bind ?_ (fun _ => ?_))
      | exact ih0 _ _ _
      | exact ih1 _ _ _ _ _
      | exact LeO.none _
      | refine LeO.ite ?_ ?_
      | refine LeO.bind ?_ (fun _ => ?_)
theorem impl_rest97.mono : ∀ a0 k, LeO (impl_rest97.f k a0) (impl_rest97.f (k + 1) a0) := by
 intro a0 k
 obtain ⟨ih0, ih1⟩ := impl_rest97.mono_l k
 unfold impl_rest97.f
 repeat' first
     | (with_reducible exact ih0 _ _ _)
     | (with_reducible exact ih1 _ _ _ _ _)
     | (with_reducible exact LeO.refl _)
     | (with_reducible exact LeO.none _)
     | (with_reducible refine LeO.ite ?_ ?_)
     | (with_reducible refine LeO.bind ?_ (fun _ => ?_))
     | exact ih0 _ _ _
     | exact ih1 _ _ _ _ _
     | exact LeO.none _
     | refine LeO.ite ?_ ?_
     | refine LeO.bind ?_ (fun _ => ?_)
set_option maxHeartbeats 8000000 in
set_option maxRecDepth 100000 in
theorem impl_rest97.calls (k : Nat) (a0 : ByteArray) (r : Int) (w : World) (h : impl_rest97.f k a0 = some r) :
    Calls Try.prog 182 #[.string a0] w fun e w' => e = .returned (.int .i64 r) ∧ Below w.heap.size w w' := by
 have HB := aZ (Below.refl w.heap.size w)
 have H : (impl_rest97.l0 k 0 0 a0) = some r := h
 clear h
 have H' := Aside0.mk H
 clear H
 go_enter Try.func182, Try.ntmps182
 go_wp2_with (first | ((with_reducible refine gate_dst (N := 7) rfl ?_); refine irange_event rfl (N := 7) rfl (.tmp 6) 9 rfl Try.underlying9 (s := a0) (by first | rfl | (go_simp; done) | (go_simp; rfl)) ?_; intro gb250 hg w2 hbox hb; have BK250 := aZ (hbox); have GW250 := aZ ((by rw [hg]; exact (below_size (lZB HB.out)) : w.heap.size ≤ gb250)); have GE250 := aZ ((by rw [hg]; exact (below_size (lZB HB.out)) : w.heap.size ≤ gb250)); replace HB := aZ (below_step (lZB HB.out) hb); clear hb hbox hg; (try simp only [Act.put, sZ1, sZ2, sZ3])))
 go_loopg [3] k (fun kq v3 w' => ∃ (x3_1 : Int) (x251000_1 : Int), v3 = .int .i64 x3_1 ∧ Aside0 (impl_rest97.l0 kq x3_1 x251000_1 a0 = some r) ∧ Aside0 (kq ≤ k) ∧ Aside0 (w'.heap[gb250]? = some (.stringIter a0 (itn x251000_1))) ∧ Aside0 (Below w.heap.size w w'))
 case atStart => exact ⟨(0), (0), tZB, H', ⟨Nat.le_refl _⟩, ⟨bkZ BK250.out⟩, ⟨bZ⟩⟩
 case round =>
  clear H'
  try clear c1
  try clear p2
  obtain ⟨x3_1, x251000_1, rfl, HA, HK1, BK250, HB⟩ := hrel
  cases gk with
  | zero => exact absurd HA.out (by simp [impl_rest97.l0])
  | succ k1 =>
   have H := HA.out
   clear HA
   simp only [impl_rest97.l0] at H
   by_cases c3 : itp x251000_1 < (a0.size : Int)
   rotate_left
   ·rw [if_neg c3] at H
    have c3b0 := decide_eq_false c3
    clear c3
    obtain rfl := Option.some.inj H
    go_wp2_with (first | ((with_reducible refine gate_dst (N := 8) rfl ?_); refine iend_event rfl (.tmp 7) rfl (by first | rfl | (go_simp; done) | (go_simp; rfl)) (bkZ BK250.out) (of_decide_eq_false tZE : ¬ (itp x251000_1 < (a0.size : Int))) ?_))
    go_ret
    exact ⟨tZC, bZ⟩
   rw [if_pos c3] at H
   have c3b0 := decide_eq_true c3
   clear c3
   have HC4 := Aside0.mk H
   clear H
   go_upto_region 6 with (first | ((with_reducible refine gate_dst (N := 8) rfl ?_); refine inext_event rfl (.tmp 7) rfl (by first | rfl | (go_simp; done) | (go_simp; rfl)) (bkZ BK250.out) (of_decide_eq_true tZE : itp x251000_1 < (a0.size : Int)) ?_; intro w5 hbox hg; replace BK250 := aZ (hbox); replace HB := aZ (below_iter bZ GE250.out hg); clear hbox hg))
   (try simp only [Act.put, sZ1, sZ2, sZ3])
   go_cut [11] (fun v11 wc => ∃ (kq : Nat) (x11_3 : Bool), v11 = .bool x11_3 ∧ Aside0 (impl_rest97.j1 kq x3_1 (itr a0 x251000_1) x11_3 (itw a0 x251000_1) a0 = some r) ∧ Aside0 (kq ≤ k1) ∧ Aside0 (wc.heap[gb250]? = some (.stringIter a0 (itn (itw a0 x251000_1)))) ∧ Aside0 (Below w.heap.size w wc))
   case first =>
    have H := HC4.out
    clear HC4
    by_cases c6 : (itr a0 x251000_1) ≥ 48
    rotate_left
    ·rw [if_neg c6] at H
     have c6b0 : decide (48 ≤ (itr a0 x251000_1)) = false := decide_eq_false c6
     clear c6
     (first | rw [c6b0] | (simp only [i64_w, i32_w]; rw [c6b0]) | skip)
     have H' := Aside0.mk H
     clear H
     go_wp2
     go_meet
     case rel => exact ⟨_, (false), tZB, H', ⟨by have := HK1.out; first | omega | exact Nat.le_refl _⟩, ⟨bkZ BK250.out⟩, ⟨bZ⟩⟩
    rw [if_pos c6] at H
    have c6b0 : decide (48 ≤ (itr a0 x251000_1)) = true := decide_eq_true c6
    clear c6
    (first | rw [c6b0] | (simp only [i64_w, i32_w]; rw [c6b0]) | skip)
    have H' := Aside0.mk H
    clear H
    go_wp2
    go_meet
    case rel => exact ⟨_, (decide ((itr a0 x251000_1) ≤ 57)), tZB, H', ⟨by have := HK1.out; first | omega | exact Nat.le_refl _⟩, ⟨bkZ BK250.out⟩, ⟨bZ⟩⟩
   case rest =>
    clear HC4
    try clear c1
    try clear p2
    try clear c3
    try clear c3b0
    try clear c6
    try clear c6b0
    try clear p2
    obtain ⟨kq, x11_3, rfl, HA, HJ3, BK250, HB⟩ := hcut
    cases kq with
    | zero => exact absurd HA.out (by simp [impl_rest97.j1])
    | succ kj3 =>
     have H := HA.out
     clear HA
     simp only [impl_rest97.j1] at H
     by_cases c7 : x11_3 = true
     ·subst c7
      have H1 : (impl_rest97.l0 kj3 (Int.tmod (wrap64 ((wrap64 (x3_1 * 10)) + (wrap64 (wrap32 ((itr a0 x251000_1) - 48))))) 97) (itw a0 x251000_1) a0) = some r := by rw [if_pos rfl] at H; exact H
      clear H
      have H := H1
      clear H1
      have H' := Aside0.mk H
      clear H
      go_wp2
      go_roundg kj3
      case measure => have := HK1.out; have := HJ3.out; omega
      case rel => exact ⟨(Int.tmod (wrap64 ((wrap64 (x3_1 * 10)) + (wrap64 (wrap32 ((itr a0 x251000_1) - 48))))) 97), ((itw a0 x251000_1)), tZB, H', ⟨by have := HK1.out; have := HJ3.out; omega⟩, ⟨bkZ BK250.out⟩, ⟨bZ⟩⟩
     replace c7 := Bool.eq_false_iff.mpr c7
     subst c7
     have H1 : ((impl_capital.f (itr a0 x251000_1)).bind fun t251 => (if t251 = true then (impl_rest97.l0 kj3 (Int.tmod (wrap64 ((wrap64 ((wrap64 (x3_1 * 100)) + (wrap64 (wrap32 ((itr a0 x251000_1) - 65))))) + 10)) 97) (itw a0 x251000_1) a0) else (some (-1)))) = some r := by rw [if_neg (show ¬ (false = true) by decide)] at H; exact H
     clear H
     have H := H1
     clear H1
     replace H := Option.bind_eq_some_iff.mp H
     obtain ⟨t251, A80, H⟩ := H
     replace H : (if t251 = true then (impl_rest97.l0 kj3 (Int.tmod (wrap64 ((wrap64 ((wrap64 (x3_1 * 100)) + (wrap64 (wrap32 ((itr a0 x251000_1) - 65))))) + 10)) 97) (itw a0 x251000_1) a0) else (some (-1))) = some r := H
     have A8 := Aside0.mk A80
     clear A80
     by_cases c9 : t251 = true
     rotate_left
     ·replace c9 := Bool.eq_false_iff.mpr c9
      subst c9
      have H1 : (some (-1)) = some r := by rw [if_neg (show ¬ (false = true) by decide)] at H; exact H
      clear H
      have H := H1
      clear H1
      obtain rfl := Option.some.inj H
      go_wp2_with (first | ((with_reducible refine gate_callee (f := 206) rfl ?_); refine goesL_ (some 27) rfl rfl Try.func206 kZ rfl #[.int .i32 (itr a0 x251000_1)] rfl tZA ?_; (with_reducible refine (impl_capital.calls (itr a0 x251000_1) false _ A8.out).mono ?_); rintro e w' ⟨rfl, ⟨nd, rfl⟩⟩; refine ⟨_, rfl, ?_⟩))
      go_ret
      exact ⟨tZC, bZ⟩
     subst c9
     have H1 : (impl_rest97.l0 kj3 (Int.tmod (wrap64 ((wrap64 ((wrap64 (x3_1 * 100)) + (wrap64 (wrap32 ((itr a0 x251000_1) - 65))))) + 10)) 97) (itw a0 x251000_1) a0) = some r := by rw [if_pos rfl] at H; exact H
     clear H
     have H := H1
     clear H1
     have H' := Aside0.mk H
     clear H
     go_wp2_with (first | ((with_reducible refine gate_callee (f := 206) rfl ?_); refine goesL_ (some 27) rfl rfl Try.func206 kZ rfl #[.int .i32 (itr a0 x251000_1)] rfl tZA ?_; (with_reducible refine (impl_capital.calls (itr a0 x251000_1) true _ A8.out).mono ?_); rintro e w' ⟨rfl, ⟨nd, rfl⟩⟩; refine ⟨_, rfl, ?_⟩))
     go_roundg kj3
     case measure => have := HK1.out; have := HJ3.out; omega
     case rel => exact ⟨(Int.tmod (wrap64 ((wrap64 ((wrap64 (x3_1 * 100)) + (wrap64 (wrap32 ((itr a0 x251000_1) - 65))))) + 10)) 97), ((itw a0 x251000_1)), tZB, H', ⟨by have := HK1.out; have := HJ3.out; omega⟩, ⟨bkZ BK250.out⟩, ⟨bZ⟩⟩
def impl_AccountNumber.f (k : Nat) (a0 : ByteArray) : Option (Bool) := if (a0.size : Int) < 8 then (some false) else (if (a0.size : Int) > 30 then (some false) else (if 0 ≤ 2 then (if 2 ≤ (a0.size : Int) then ((impl_landOk.f (a0.extract 0 2)).bind fun t252 => (if t252 = true then (if 2 < (a0.size : Int) then ((impl_digit.f (bt a0 2)).bind fun t253 => (if t253 = true then (if 3 < (a0.size : Int) then ((impl_digit.f (bt a0 3)).bind fun t254 => (if t254 = true then (if 4 ≤ (a0.size : Int) then (if 0 ≤ 4 then (if (a0.extract 4 a0.size).size + (a0.extract 0 4).size ≤ 9223372036854775807 then ((impl_rest97.f k ((a0.extract 4 a0.size) ++ (a0.extract 0 4))).bind fun t255 => (some (t255 == 1))) else (none)) else (none)) else (none)) else (some false))) else (none)) else (some false))) else (none)) else (some false))) else (none)) else (none)))
theorem impl_AccountNumber.mono : ∀ a0 k, LeO (impl_AccountNumber.f k a0) (impl_AccountNumber.f (k + 1) a0) := by
 intro a0 k
 unfold impl_AccountNumber.f
 repeat' first
     | (with_reducible exact impl_rest97.mono _ _)
     | (with_reducible exact LeO.refl _)
     | (with_reducible exact LeO.none _)
     | (with_reducible refine LeO.ite ?_ ?_)
     | (with_reducible refine LeO.bind ?_ (fun _ => ?_))
     | exact impl_rest97.mono _ _
     | exact LeO.none _
     | refine LeO.ite ?_ ?_
     | refine LeO.bind ?_ (fun _ => ?_)
def impl_AccountNumber.T3 : Bool × List (List Nat × List Nat) := (true, [([], []), ([0], [0]), ([], []), ([2], [2]), ([1, 3], [1, 3]), ([4], [4]), ([5], [5]), ([6, 5, 0, 1, 2, 3, 4, 5, 6], [6])])
def impl_AccountNumber.B3 : List Nat := [0, 1, 0, 4, 15, 31, 63, 127]
theorem impl_AccountNumber.tab3 : rtab .any (opsOf Try.f128 3) = impl_AccountNumber.T3 := by kernel_rfl
theorem impl_AccountNumber.bits3 : waitsOk impl_AccountNumber.T3.2 impl_AccountNumber.B3 = true := by kernel_rfl
set_option maxHeartbeats 8000000 in
set_option maxRecDepth 100000 in
theorem impl_AccountNumber.calls (k : Nat) (a0 : ByteArray) (r : Bool) (w : World) (h : impl_AccountNumber.f k a0 = some r) :
    Calls Try.prog 128 #[.string a0] w fun e w' => e = .returned (.bool r) ∧ Below w.heap.size w w' := by
 have HB := aZ (Below.refl w.heap.size w)
 have H : (if (a0.size : Int) < 8 then (some false) else (if (a0.size : Int) > 30 then (some false) else (if 0 ≤ 2 then (if 2 ≤ (a0.size : Int) then ((impl_landOk.f (a0.extract 0 2)).bind fun t252 => (if t252 = true then (if 2 < (a0.size : Int) then ((impl_digit.f (bt a0 2)).bind fun t253 => (if t253 = true then (if 3 < (a0.size : Int) then ((impl_digit.f (bt a0 3)).bind fun t254 => (if t254 = true then (if 4 ≤ (a0.size : Int) then (if 0 ≤ 4 then (if (a0.extract 4 a0.size).size + (a0.extract 0 4).size ≤ 9223372036854775807 then ((impl_rest97.f k ((a0.extract 4 a0.size) ++ (a0.extract 0 4))).bind fun t255 => (some (t255 == 1))) else (none)) else (none)) else (none)) else (some false))) else (none)) else (some false))) else (none)) else (some false))) else (none)) else (none)))) = some r := h
 clear h
 by_cases c2 : (a0.size : Int) < 8
 ·rw [if_pos c2] at H
  have c2b0 := decide_eq_true c2
  have c2b1 : decide (a0.size < 8) = true := decide_eq_true (by omega)
  clear c2
  obtain rfl := Option.some.inj H
  go_enter Try.func128, Try.ntmps128
  go_wp2
  go_ret
  exact ⟨tZC, bZ⟩
 rw [if_neg c2] at H
 have c2b0 := decide_eq_false c2
 have c2b1 : decide (a0.size < 8) = false := decide_eq_false (by omega)
 clear c2
 by_cases c3 : (a0.size : Int) > 30
 ·rw [if_pos c3] at H
  have c3b0 : decide (30 < (a0.size : Int)) = true := decide_eq_true c3
  have c3b1 : decide (30 < a0.size) = true := decide_eq_true (by omega)
  clear c3
  obtain rfl := Option.some.inj H
  go_enter Try.func128, Try.ntmps128
  go_wp2
  go_ret
  exact ⟨tZC, bZ⟩
 rw [if_neg c3] at H
 have c3b0 : decide (30 < (a0.size : Int)) = false := decide_eq_false c3
 have c3b1 : decide (30 < a0.size) = false := decide_eq_false (by omega)
 clear c3
 by_cases c4 : 0 ≤ 2
 rotate_left
 ·rw [if_neg c4] at H
  exact absurd H (by simp)
 rw [if_pos c4] at H
 have c4b0 := eq_true c4
 have c4b1 := decide_eq_true c4
 clear c4
 by_cases c5 : 2 ≤ (a0.size : Int)
 rotate_left
 ·rw [if_neg c5] at H
  exact absurd H (by simp)
 rw [if_pos c5] at H
 have c5b0 := eq_true c5
 have c5b1 := decide_eq_true c5
 clear c5
 replace H := Option.bind_eq_some_iff.mp H
 obtain ⟨t252, A60, H⟩ := H
 replace H : (if t252 = true then (if 2 < (a0.size : Int) then ((impl_digit.f (bt a0 2)).bind fun t253 => (if t253 = true then (if 3 < (a0.size : Int) then ((impl_digit.f (bt a0 3)).bind fun t254 => (if t254 = true then (if 4 ≤ (a0.size : Int) then (if 0 ≤ 4 then (if (a0.extract 4 a0.size).size + (a0.extract 0 4).size ≤ 9223372036854775807 then ((impl_rest97.f k ((a0.extract 4 a0.size) ++ (a0.extract 0 4))).bind fun t255 => (some (t255 == 1))) else (none)) else (none)) else (none)) else (some false))) else (none)) else (some false))) else (none)) else (some false)) = some r := H
 have A6 := Aside0.mk A60
 clear A60
 by_cases c7 : t252 = true
 rotate_left
 ·replace c7 := Bool.eq_false_iff.mpr c7
  subst c7
  have H1 : (some false) = some r := by rw [if_neg (show ¬ (false = true) by decide)] at H; exact H
  clear H
  have H := H1
  clear H1
  obtain rfl := Option.some.inj H
  go_enter Try.func128, Try.ntmps128
  go_wp2_with (first | (go_at_call 180; (with_reducible refine (impl_landOk.calls (a0.extract 0 2) false _ A6.out).mono ?_); rintro e w' ⟨rfl, ⟨nd, rfl⟩⟩))
  go_ret
  exact ⟨tZC, bZ⟩
 subst c7
 have H1 : (if 2 < (a0.size : Int) then ((impl_digit.f (bt a0 2)).bind fun t253 => (if t253 = true then (if 3 < (a0.size : Int) then ((impl_digit.f (bt a0 3)).bind fun t254 => (if t254 = true then (if 4 ≤ (a0.size : Int) then (if 0 ≤ 4 then (if (a0.extract 4 a0.size).size + (a0.extract 0 4).size ≤ 9223372036854775807 then ((impl_rest97.f k ((a0.extract 4 a0.size) ++ (a0.extract 0 4))).bind fun t255 => (some (t255 == 1))) else (none)) else (none)) else (none)) else (some false))) else (none)) else (some false))) else (none)) = some r := by rw [if_pos rfl] at H; exact H
 clear H
 have H := H1
 clear H1
 by_cases c8 : 2 < (a0.size : Int)
 rotate_left
 ·rw [if_neg c8] at H
  exact absurd H (by simp)
 rw [if_pos c8] at H
 have c8b0 := decide_eq_true c8
 have c8b1 : decide (2 < a0.size) = true := decide_eq_true (by omega)
 clear c8
 replace H := Option.bind_eq_some_iff.mp H
 obtain ⟨t253, A100, H⟩ := H
 replace H : (if t253 = true then (if 3 < (a0.size : Int) then ((impl_digit.f (bt a0 3)).bind fun t254 => (if t254 = true then (if 4 ≤ (a0.size : Int) then (if 0 ≤ 4 then (if (a0.extract 4 a0.size).size + (a0.extract 0 4).size ≤ 9223372036854775807 then ((impl_rest97.f k ((a0.extract 4 a0.size) ++ (a0.extract 0 4))).bind fun t255 => (some (t255 == 1))) else (none)) else (none)) else (none)) else (some false))) else (none)) else (some false)) = some r := H
 have A10 := Aside0.mk A100
 clear A100
 by_cases c11 : t253 = true
 rotate_left
 ·replace c11 := Bool.eq_false_iff.mpr c11
  subst c11
  have H1 : (some false) = some r := by rw [if_neg (show ¬ (false = true) by decide)] at H; exact H
  clear H
  have H := H1
  clear H1
  obtain rfl := Option.some.inj H
  go_enter Try.func128, Try.ntmps128
  go_wp2_with (first | (go_at_call 180; (with_reducible refine (impl_landOk.calls (a0.extract 0 2) true _ A6.out).mono ?_); rintro e w' ⟨rfl, ⟨nd, rfl⟩⟩; have p9 : 0 ≤ (2 : Int) := (by omega); have q9 : 2 < a0.size := (by have : (2 : Int) < (a0.size : Int) := of_decide_eq_true tZE; omega); have hx9 : ∀ h : 2 < a0.size, ((a0[2]'h).toNat : Int) = bt a0 2 := bt_at a0 2; clear p9; have qi9 : (2 < (a0.size : Int)) = True := eq_true (of_decide_eq_true tZE); replace q9 := eq_true q9) | (go_at_call 181; (with_reducible refine (impl_digit.calls (bt a0 2) false _ A10.out).mono ?_); rintro e w' ⟨rfl, ⟨nd, rfl⟩⟩))
  go_ret
  exact ⟨tZC, bZ⟩
 subst c11
 have H1 : (if 3 < (a0.size : Int) then ((impl_digit.f (bt a0 3)).bind fun t254 => (if t254 = true then (if 4 ≤ (a0.size : Int) then (if 0 ≤ 4 then (if (a0.extract 4 a0.size).size + (a0.extract 0 4).size ≤ 9223372036854775807 then ((impl_rest97.f k ((a0.extract 4 a0.size) ++ (a0.extract 0 4))).bind fun t255 => (some (t255 == 1))) else (none)) else (none)) else (none)) else (some false))) else (none)) = some r := by rw [if_pos rfl] at H; exact H
 clear H
 have H := H1
 clear H1
 by_cases c12 : 3 < (a0.size : Int)
 rotate_left
 ·rw [if_neg c12] at H
  exact absurd H (by simp)
 rw [if_pos c12] at H
 have c12b0 := decide_eq_true c12
 have c12b1 : decide (3 < a0.size) = true := decide_eq_true (by omega)
 clear c12
 replace H := Option.bind_eq_some_iff.mp H
 obtain ⟨t254, A140, H⟩ := H
 replace H : (if t254 = true then (if 4 ≤ (a0.size : Int) then (if 0 ≤ 4 then (if (a0.extract 4 a0.size).size + (a0.extract 0 4).size ≤ 9223372036854775807 then ((impl_rest97.f k ((a0.extract 4 a0.size) ++ (a0.extract 0 4))).bind fun t255 => (some (t255 == 1))) else (none)) else (none)) else (none)) else (some false)) = some r := H
 have A14 := Aside0.mk A140
 clear A140
 by_cases c15 : t254 = true
 rotate_left
 ·replace c15 := Bool.eq_false_iff.mpr c15
  subst c15
  have H1 : (some false) = some r := by rw [if_neg (show ¬ (false = true) by decide)] at H; exact H
  clear H
  have H := H1
  clear H1
  obtain rfl := Option.some.inj H
  go_enter Try.func128, Try.ntmps128
  go_wp2_with (first | (go_at_call 180; (with_reducible refine (impl_landOk.calls (a0.extract 0 2) true _ A6.out).mono ?_); rintro e w' ⟨rfl, ⟨nd, rfl⟩⟩; have p9 : 0 ≤ (2 : Int) := (by omega); have q9 : 2 < a0.size := (by have : (2 : Int) < (a0.size : Int) := of_decide_eq_true tZE; omega); have hx9 : ∀ h : 2 < a0.size, ((a0[2]'h).toNat : Int) = bt a0 2 := bt_at a0 2; clear p9; have qi9 : (2 < (a0.size : Int)) = True := eq_true (of_decide_eq_true tZE); replace q9 := eq_true q9) | (go_at_call 181; (with_reducible refine (impl_digit.calls (bt a0 2) true _ A10.out).mono ?_); rintro e w' ⟨rfl, ⟨nd, rfl⟩⟩; have p13 : 0 ≤ (3 : Int) := (by omega); have q13 : 3 < a0.size := (by have : (3 : Int) < (a0.size : Int) := of_decide_eq_true tZE; omega); have hx13 : ∀ h : 3 < a0.size, ((a0[3]'h).toNat : Int) = bt a0 3 := bt_at a0 3; clear p13; have qi13 : (3 < (a0.size : Int)) = True := eq_true (of_decide_eq_true tZE); replace q13 := eq_true q13) | (go_at_call 181; (with_reducible refine (impl_digit.calls (bt a0 3) false _ A14.out).mono ?_); rintro e w' ⟨rfl, ⟨nd, rfl⟩⟩))
  go_ret
  exact ⟨tZC, bZ⟩
 subst c15
 have H1 : (if 4 ≤ (a0.size : Int) then (if 0 ≤ 4 then (if (a0.extract 4 a0.size).size + (a0.extract 0 4).size ≤ 9223372036854775807 then ((impl_rest97.f k ((a0.extract 4 a0.size) ++ (a0.extract 0 4))).bind fun t255 => (some (t255 == 1))) else (none)) else (none)) else (none)) = some r := by rw [if_pos rfl] at H; exact H
 clear H
 have H := H1
 clear H1
 by_cases c16 : 4 ≤ (a0.size : Int)
 rotate_left
 ·rw [if_neg c16] at H
  exact absurd H (by simp)
 rw [if_pos c16] at H
 have c16b0 := eq_true c16
 have c16b1 := decide_eq_true c16
 clear c16
 by_cases c17 : 0 ≤ 4
 rotate_left
 ·rw [if_neg c17] at H
  exact absurd H (by simp)
 rw [if_pos c17] at H
 have c17b0 := eq_true c17
 have c17b1 := decide_eq_true c17
 clear c17
 have c18b0 := eq_true (of_decide_eq_true tZE : 4 ≤ (a0.size : Int))
 by_cases c19 : (a0.extract 4 a0.size).size + (a0.extract 0 4).size ≤ 9223372036854775807
 rotate_left
 ·rw [if_neg c19] at H
  exact absurd H (by simp)
 rw [if_pos c19] at H
 have c19b0 := eq_true c19
 have c19b1 := decide_eq_true c19
 try have c19b2 := eq_false (Nat.not_lt.2 c19)
 try have c19b5 : (9223372036854775807 < (a0.size - 4) + min 4 a0.size) = False := eq_false (by have h_ := c19; simp only [ByteArray.size_append, ByteArray.size_extract] at h_; omega)
 replace H := Option.bind_eq_some_iff.mp H
 obtain ⟨t255, A200, H⟩ := H
 replace H : (some (t255 == 1)) = some r := H
 have A20 := Aside0.mk A200
 clear A200
 obtain rfl := Option.some.inj H
 go_enter Try.func128, Try.ntmps128
 try go_wp2_with (first | (go_at_call 180; (with_reducible refine (impl_landOk.calls (a0.extract 0 2) true _ A6.out).mono ?_); rintro e w' ⟨rfl, ⟨nd, rfl⟩⟩; have p9 : 0 ≤ (2 : Int) := (by omega); have q9 : 2 < a0.size := (by have : (2 : Int) < (a0.size : Int) := of_decide_eq_true tZE; omega); have hx9 : ∀ h : 2 < a0.size, ((a0[2]'h).toNat : Int) = bt a0 2 := bt_at a0 2; clear p9; have qi9 : (2 < (a0.size : Int)) = True := eq_true (of_decide_eq_true tZE); replace q9 := eq_true q9) | (go_at_call 181; (with_reducible refine (impl_digit.calls (bt a0 2) true _ A10.out).mono ?_); rintro e w' ⟨rfl, ⟨nd, rfl⟩⟩; have p13 : 0 ≤ (3 : Int) := (by omega); have q13 : 3 < a0.size := (by have : (3 : Int) < (a0.size : Int) := of_decide_eq_true tZE; omega); have hx13 : ∀ h : 3 < a0.size, ((a0[3]'h).toNat : Int) = bt a0 3 := bt_at a0 3; clear p13; have qi13 : (3 < (a0.size : Int)) = True := eq_true (of_decide_eq_true tZE); replace q13 := eq_true q13) | (go_at_call 181; (with_reducible refine (impl_digit.calls (bt a0 3) true _ A14.out).mono ?_); rintro e w' ⟨rfl, ⟨nd, rfl⟩⟩))
 generalize hq_ : World.drewN w _ = w21
 have nq_ := aZ (show Below w.heap.size w w21 from by rw [← hq_]; exact pw_below_drewN HB.out _)
 clear HB hq_
 have HB := nq_
 clear nq_
 replace HB := aZ (below_drew1 HB.out)
 refine start_ (n := 8) (S := fun w' => True) (ds := []) L0' kZ rfl rfl trivial (fun hHeld => ?_); refine with_tabW impl_AccountNumber.tab3 impl_AccountNumber.bits3 (fun HT_ HW_ => ?_)
 generalize w21.drew = w22 at HB hHeld ⊢
 refine pure_ (i := 0) (N := some 29) (v := ?_) (a' := ?_) L1' rfl rfl (any_of HT_.out kZ) (fun _ _ _ h => h) (Or.inl ⟨by rfl, ?_⟩) ?_ ?_
 rotate_left
 ·intro w'
  go_simp
  with_reducible rfl
 rotate_left
 ·simp only [Act.put, sZ1, sZ2, sZ3, i64_w, i32_w]
  rfl
 refine pure_ (i := 1) (N := some 30) (v := ?_) (a' := ?_) L2' rfl rfl (any_of HT_.out kZ) (fun _ _ _ h => h) (Or.inl ⟨by rfl, ?_⟩) ?_ ?_
 rotate_left
 ·intro w'
  go_simp
  with_reducible rfl
 rotate_left
 ·simp only [Act.put, sZ1, sZ2, sZ3, i64_w, i32_w]
  rfl
 refine pure_ (i := 2) (N := some 31) (v := ?_) (a' := ?_) L3' rfl rfl (any_of HT_.out kZ) (fun _ _ _ h => h) (Or.inl ⟨by rfl, ?_⟩) ?_ ?_
 rotate_left
 ·intro w'
  go_simp
  with_reducible rfl
 rotate_left
 ·simp only [Act.put, sZ1, sZ2, sZ3, i64_w, i32_w]
  rfl
 refine pure_ (i := 3) (N := some 32) (v := ?_) (a' := ?_) L4' rfl rfl (any_of HT_.out kZ) (fun _ _ _ h => h) (Or.inl ⟨by rfl, ?_⟩) ?_ ?_
 rotate_left
 ·intro w'
  go_simp
  with_reducible rfl
 rotate_left
 ·simp only [Act.put, sZ1, sZ2, sZ3, i64_w, i32_w]
  rfl
 refine pure_ (i := 4) (N := some 33) (v := ?_) (a' := ?_) L5' rfl rfl (any_of HT_.out kZ) (fun _ _ _ h => h) (Or.inl ⟨by rfl, ?_⟩) ?_ ?_
 rotate_left
 ·intro w'
  go_simp
  with_reducible rfl
 rotate_left
 ·simp only [Act.put, sZ1, sZ2, sZ3, i64_w, i32_w]
  rfl
 refine one_ (i := 5) (N := some 34) L6' rfl rfl (one_of HT_.out kZ) (by decide) (fun K hK => ?_)
 refine goes_ Try.func182 kZ rfl #[.string ((a0.extract 4 a0.size) ++ (a0.extract 0 4))] (by rfl) rfl rfl tZA ?_
 with_reducible refine (impl_rest97.calls k ((a0.extract 4 a0.size) ++ (a0.extract 0 4)) t255 _ A20.out).mono ?_
 rintro e w23 ⟨rfl, hb⟩
 refine ⟨_, rfl, ?_⟩
 replace HB := aZ (below_step (lZB HB.out) hb)
 (try clear hb)
 (try clear hb2)
 (try clear hk)
 (try clear hi)
 refine hK.out _ _ trivial (fun hHeld => ?_)
 clear hK K
 refine norm_ (a' := ?_) ?_ ?_
 rotate_left
 ·show Act.put _ (some 34) _ = _
  simp only [Act.put, sZ1, sZ2, sZ3, i64_w, i32_w]
  rfl
 refine pure_ (i := 6) (N := some 35) (v := ?_) (a' := ?_) L7' rfl rfl (any_of HT_.out kZ) (fun _ _ _ h => h) (Or.inl ⟨by rfl, ?_⟩) ?_ ?_
 rotate_left
 ·intro w'
  go_simp
  with_reducible rfl
 rotate_left
 ·simp only [Act.put, sZ1, sZ2, sZ3, i64_w, i32_w]
  rfl
 refine pure_ (i := 7) (N := some 2) (v := ?_) (a' := ?_) L8' rfl rfl (any_of HT_.out kZ) (fun _ _ _ h => h) (Or.inl ⟨by rfl, ?_⟩) ?_ ?_
 rotate_left
 ·intro w'
  go_simp
  with_reducible rfl
 rotate_left
 ·simp only [Act.put, sZ1, sZ2, sZ3, i64_w, i32_w]
  rfl
 refine done_ (done_of HT_.out kZ) ?_
 try go_wp2
 go_ret
 exact ⟨tZC, bZ⟩
end Go.Proofs.Ytmpknbdbichdiaa.PFnExactReadBank
