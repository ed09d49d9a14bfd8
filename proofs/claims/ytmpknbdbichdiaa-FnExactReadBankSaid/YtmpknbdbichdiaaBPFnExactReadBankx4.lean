import Derived.Test.YtmpknbdbichdiaaBPFnExactReadBankx0
import Derived.Test.YtmpknbdbichdiaaBPFnExactReadBankx2
import Derived.Test.YtmpknbdbichdiaaBPFnExactReadBankx3
import Derived.Test.YtmpknbdbichdiaaBSlimWords
namespace Go.Proofs.Ytmpknbdbichdiaa.PFnExactReadBank
open Go.Proofs.Ytmpknbdbichdiaa.SlimWords
open Go.RowKit Go.Proofs.YtmpknbdbichdiaaW.PrintWords Go.Proofs.YtmpknbdbichdiaaW.PrintLast Go.Proofs.YtmpknbdbichdiaaW.PrintMore Go.Proofs.Ytmpknbdbichdiaa.MapWords Go.Proofs.Ytmpknbdbichdiaa.IterWords Go.Proofs.Ytmpknbdbichdiaa.MarkWords
attribute [local go_sem] max2_int min2_int max_two min_two max_three min_three max_four min_four
set_option linter.unusedVariables false
set_option linter.unusedSimpArgs false
def spec_l14Whole.f (k : Nat) (a0 : ByteArray) : Option (Int) := (spec_ReadMoney.f k a0 0).bind fun bt132 => (if bt132.2 = true then (if bt132.1 < 0 then (some (-1)) else (some bt132.1)) else (some (-1)))
theorem spec_l14Whole.mono : ∀ a0 k, LeO (spec_l14Whole.f k a0) (spec_l14Whole.f (k + 1) a0) := by
 intro a0 k
 unfold spec_l14Whole.f
 repeat' first
     | (with_reducible exact spec_ReadMoney.mono _ _ _)
     | (with_reducible exact LeO.refl _)
     | (with_reducible exact LeO.none _)
     | (with_reducible refine LeO.ite ?_ ?_)
     | (with_reducible refine LeO.bind ?_ (fun _ => ?_))
     | exact spec_ReadMoney.mono _ _ _
     | exact LeO.none _
     | refine LeO.ite ?_ ?_
     | refine LeO.bind ?_ (fun _ => ?_)
set_option maxHeartbeats 8000000 in
set_option maxRecDepth 100000 in
theorem spec_l14Whole.calls (k : Nat) (a0 : ByteArray) (r : Int) (w : World) (h : spec_l14Whole.f k a0 = some r) :
    Calls Try.prog 120 #[.string a0] w fun e w' => e = .returned (.int .i64 r) ∧ Below w.heap.size w w' := by
 have HB := aZ (Below.refl w.heap.size w)
 have H : ((spec_ReadMoney.f k a0 0).bind fun bt132 => (if bt132.2 = true then (if bt132.1 < 0 then (some (-1)) else (some bt132.1)) else (some (-1)))) = some r := h
 clear h
 replace H := Option.bind_eq_some_iff.mp H
 obtain ⟨⟨t132, t133⟩, A20, H⟩ := H
 replace H : (if t133 = true then (if t132 < 0 then (some (-1)) else (some t132)) else (some (-1))) = some r := H
 have A2 := Aside0.mk A20
 clear A20
 by_cases c3 : t133 = true
 rotate_left
 ·replace c3 := Bool.eq_false_iff.mpr c3
  subst c3
  have H1 : (some (-1)) = some r := by rw [if_neg (show ¬ (false = true) by decide)] at H; exact H
  clear H
  have H := H1
  clear H1
  obtain rfl := Option.some.inj H
  go_enter Try.func120, Try.ntmps120
  go_wp2_with (first | ((with_reducible refine gate_callee (f := 174) rfl ?_); refine goesL_ (some 7) rfl rfl Try.func174 kZ rfl #[.string a0, .int .i64 0] rfl tZA ?_; (with_reducible refine (spec_ReadMoney.calls k a0 0 t132 false _ A2.out).mono ?_); rintro e w7 ⟨rfl, hb⟩; refine ⟨_, rfl, ?_⟩; replace HB := aZ (below_step (lZB HB.out) hb); (try clear hb); (try clear hb2); (try clear hk); (try clear hi)))
  go_ret
  exact ⟨tZC, bZ⟩
 subst c3
 have H1 : (if t132 < 0 then (some (-1)) else (some t132)) = some r := by rw [if_pos rfl] at H; exact H
 clear H
 have H := H1
 clear H1
 by_cases c4 : t132 < 0
 ·rw [if_pos c4] at H
  have c4b0 := decide_eq_true c4
  clear c4
  obtain rfl := Option.some.inj H
  go_enter Try.func120, Try.ntmps120
  go_wp2_with (first | ((with_reducible refine gate_callee (f := 174) rfl ?_); refine goesL_ (some 7) rfl rfl Try.func174 kZ rfl #[.string a0, .int .i64 0] rfl tZA ?_; (with_reducible refine (spec_ReadMoney.calls k a0 0 t132 true _ A2.out).mono ?_); rintro e w5 ⟨rfl, hb⟩; refine ⟨_, rfl, ?_⟩; replace HB := aZ (below_step (lZB HB.out) hb); (try clear hb); (try clear hb2); (try clear hk); (try clear hi)))
  go_ret
  exact ⟨tZC, bZ⟩
 rw [if_neg c4] at H
 have c4b0 := decide_eq_false c4
 clear c4
 obtain rfl := Option.some.inj H
 go_enter Try.func120, Try.ntmps120
 go_wp2_with (first | ((with_reducible refine gate_callee (f := 174) rfl ?_); refine goesL_ (some 7) rfl rfl Try.func174 kZ rfl #[.string a0, .int .i64 0] rfl tZA ?_; (with_reducible refine (spec_ReadMoney.calls k a0 0 t132 true _ A2.out).mono ?_); rintro e w6 ⟨rfl, hb⟩; refine ⟨_, rfl, ?_⟩; replace HB := aZ (below_step (lZB HB.out) hb); (try clear hb); (try clear hb2); (try clear hk); (try clear hi)))
 go_ret
 exact ⟨tZC, bZ⟩
def spec_l14Money.f (k : Nat) (a0 : ByteArray) : Option (Int) := (spec_ReadMoney.f k a0 2).bind fun bt134 => (if bt134.2 = true then (if bt134.1 < 1 then (some 0) else ((spec_ShowMoney.f k bt134.1 2).bind fun t136 => (if t136.toList = a0.toList then (some bt134.1) else (some 0)))) else (some 0))
theorem spec_l14Money.mono : ∀ a0 k, LeO (spec_l14Money.f k a0) (spec_l14Money.f (k + 1) a0) := by
 intro a0 k
 unfold spec_l14Money.f
 repeat' first
     | (with_reducible exact spec_ReadMoney.mono _ _ _)
     | (with_reducible exact spec_ShowMoney.mono _ _ _)
     | (with_reducible exact LeO.refl _)
     | (with_reducible exact LeO.none _)
     | (with_reducible refine LeO.ite ?_ ?_)
     | (with_reducible refine LeO.bind ?_ (fun _ => ?_))
     | exact spec_ReadMoney.mono _ _ _
     | exact spec_ShowMoney.mono _ _ _
     | exact LeO.none _
     | refine LeO.ite ?_ ?_
     | refine LeO.bind ?_ (fun _ => ?_)
set_option maxHeartbeats 8000000 in
set_option maxRecDepth 100000 in
theorem spec_l14Money.calls (k : Nat) (a0 : ByteArray) (r : Int) (w : World) (h : spec_l14Money.f k a0 = some r) :
    Calls Try.prog 121 #[.string a0] w fun e w' => e = .returned (.int .i64 r) ∧ Below w.heap.size w w' := by
 have HB := aZ (Below.refl w.heap.size w)
 have H : ((spec_ReadMoney.f k a0 2).bind fun bt134 => (if bt134.2 = true then (if bt134.1 < 1 then (some 0) else ((spec_ShowMoney.f k bt134.1 2).bind fun t136 => (if t136.toList = a0.toList then (some bt134.1) else (some 0)))) else (some 0))) = some r := h
 clear h
 replace H := Option.bind_eq_some_iff.mp H
 obtain ⟨⟨t134, t135⟩, A20, H⟩ := H
 replace H : (if t135 = true then (if t134 < 1 then (some 0) else ((spec_ShowMoney.f k t134 2).bind fun t136 => (if t136.toList = a0.toList then (some t134) else (some 0)))) else (some 0)) = some r := H
 have A2 := Aside0.mk A20
 clear A20
 by_cases c3 : t135 = true
 rotate_left
 ·replace c3 := Bool.eq_false_iff.mpr c3
  subst c3
  have H1 : (some 0) = some r := by rw [if_neg (show ¬ (false = true) by decide)] at H; exact H
  clear H
  have H := H1
  clear H1
  obtain rfl := Option.some.inj H
  go_enter Try.func121, Try.ntmps121
  go_wp2_with (first | ((with_reducible refine gate_callee (f := 174) rfl ?_); refine goesL_ (some 7) rfl rfl Try.func174 kZ rfl #[.string a0, .int .i64 2] rfl tZA ?_; (with_reducible refine (spec_ReadMoney.calls k a0 2 t134 false _ A2.out).mono ?_); rintro e w12 ⟨rfl, hb⟩; refine ⟨_, rfl, ?_⟩; replace HB := aZ (below_step (lZB HB.out) hb); (try clear hb); (try clear hb2); (try clear hk); (try clear hi)))
  go_ret
  exact ⟨tZC, bZ⟩
 subst c3
 have H1 : (if t134 < 1 then (some 0) else ((spec_ShowMoney.f k t134 2).bind fun t136 => (if t136.toList = a0.toList then (some t134) else (some 0)))) = some r := by rw [if_pos rfl] at H; exact H
 clear H
 have H := H1
 clear H1
 by_cases c4 : t134 < 1
 ·rw [if_pos c4] at H
  have c4b0 := decide_eq_true c4
  clear c4
  obtain rfl := Option.some.inj H
  go_enter Try.func121, Try.ntmps121
  go_wp2_with (first | ((with_reducible refine gate_callee (f := 174) rfl ?_); refine goesL_ (some 7) rfl rfl Try.func174 kZ rfl #[.string a0, .int .i64 2] rfl tZA ?_; (with_reducible refine (spec_ReadMoney.calls k a0 2 t134 true _ A2.out).mono ?_); rintro e w5 ⟨rfl, hb⟩; refine ⟨_, rfl, ?_⟩; replace HB := aZ (below_step (lZB HB.out) hb); (try clear hb); (try clear hb2); (try clear hk); (try clear hi)))
  go_ret
  exact ⟨tZC, bZ⟩
 rw [if_neg c4] at H
 have c4b0 := decide_eq_false c4
 clear c4
 replace H := Option.bind_eq_some_iff.mp H
 obtain ⟨t136, A60, H⟩ := H
 replace H : (if t136.toList = a0.toList then (some t134) else (some 0)) = some r := H
 have A6 := Aside0.mk A60
 clear A60
 by_cases c7 : t136.toList = a0.toList
 rotate_left
 ·rw [if_neg c7] at H
  have c7b0 : (t136.toList == a0.toList) = false := beq_eq_false_iff_ne.mpr c7
  have c7b1 : (t136.toList != a0.toList) = true := bne_iff_ne.mpr c7
  obtain rfl := Option.some.inj H
  go_enter Try.func121, Try.ntmps121
  go_wp2_with (first | ((with_reducible refine gate_callee (f := 174) rfl ?_); refine goesL_ (some 7) rfl rfl Try.func174 kZ rfl #[.string a0, .int .i64 2] rfl tZA ?_; (with_reducible refine (spec_ReadMoney.calls k a0 2 t134 true _ A2.out).mono ?_); rintro e w10 ⟨rfl, hb⟩; refine ⟨_, rfl, ?_⟩; replace HB := aZ (below_step (lZB HB.out) hb); (try clear hb); (try clear hb2); (try clear hk); (try clear hi)) | (go_at_call 155; (with_reducible refine (spec_ShowMoney.calls k t134 2 t136 _ A6.out).mono ?_); rintro e w11 ⟨rfl, hb⟩; replace HB := aZ (below_step (lZB HB.out) hb); (try clear hb); (try clear hb2); (try clear hk); (try clear hi)))
  go_ret
  exact ⟨tZC, bZ⟩
 rw [if_pos c7] at H
 have c7b0 : (t136.toList == a0.toList) = true := beq_iff_eq.mpr c7
 have c7b1 : (t136.toList != a0.toList) = false := bne_eq_false_iff_eq.mpr c7
 clear c7
 obtain rfl := Option.some.inj H
 go_enter Try.func121, Try.ntmps121
 go_wp2_with (first | ((with_reducible refine gate_callee (f := 174) rfl ?_); refine goesL_ (some 7) rfl rfl Try.func174 kZ rfl #[.string a0, .int .i64 2] rfl tZA ?_; (with_reducible refine (spec_ReadMoney.calls k a0 2 t134 true _ A2.out).mono ?_); rintro e w8 ⟨rfl, hb⟩; refine ⟨_, rfl, ?_⟩; replace HB := aZ (below_step (lZB HB.out) hb); (try clear hb); (try clear hb2); (try clear hk); (try clear hi)) | (go_at_call 155; (with_reducible refine (spec_ShowMoney.calls k t134 2 t136 _ A6.out).mono ?_); rintro e w9 ⟨rfl, hb⟩; replace HB := aZ (below_step (lZB HB.out) hb); (try clear hb); (try clear hb2); (try clear hk); (try clear hi)))
 go_ret
 exact ⟨tZC, bZ⟩
def spec_l14Big.f (a0 : Int) : Option (Bool) := if a0 ≥ 65 then (some (decide (a0 ≤ 90))) else (some false)
set_option maxHeartbeats 8000000 in
set_option maxRecDepth 100000 in
theorem spec_l14Big.calls (a0 : Int) (r : Bool) (w : World) (h : spec_l14Big.f a0 = some r) :
    Calls Try.prog 203 #[.int .u8 a0] w fun e w' => e = .returned (.bool r) ∧ Drawn0 w w' := by
 have H : (if a0 ≥ 65 then (some (decide (a0 ≤ 90))) else (some false)) = some r := h
 clear h
 by_cases c2 : a0 ≥ 65
 ·rw [if_pos c2] at H
  have c2b0 : decide (65 ≤ a0) = true := decide_eq_true c2
  clear c2
  obtain rfl := Option.some.inj H
  go_enter Try.func203, Try.ntmps203
  go_wp2
  go_ret
  exact ⟨tZB, tZD⟩
 rw [if_neg c2] at H
 have c2b0 : decide (65 ≤ a0) = false := decide_eq_false c2
 clear c2
 obtain rfl := Option.some.inj H
 go_enter Try.func203, Try.ntmps203
 go_wp2
 go_ret
 exact ⟨tZB, tZD⟩
def spec_l9Digit.f (a0 : Int) : Option (Bool) := if a0 ≥ 48 then (some (decide (a0 ≤ 57))) else (some false)
set_option maxHeartbeats 8000000 in
set_option maxRecDepth 100000 in
theorem spec_l9Digit.calls (a0 : Int) (r : Bool) (w : World) (h : spec_l9Digit.f a0 = some r) :
    Calls Try.prog 204 #[.int .u8 a0] w fun e w' => e = .returned (.bool r) ∧ Drawn0 w w' := by
 have H : (if a0 ≥ 48 then (some (decide (a0 ≤ 57))) else (some false)) = some r := h
 clear h
 by_cases c2 : a0 ≥ 48
 ·rw [if_pos c2] at H
  have c2b0 : decide (48 ≤ a0) = true := decide_eq_true c2
  clear c2
  obtain rfl := Option.some.inj H
  go_enter Try.func204, Try.ntmps204
  go_wp2
  go_ret
  exact ⟨tZB, tZD⟩
 rw [if_neg c2] at H
 have c2b0 : decide (48 ≤ a0) = false := decide_eq_false c2
 clear c2
 obtain rfl := Option.some.inj H
 go_enter Try.func204, Try.ntmps204
 go_wp2
 go_ret
 exact ⟨tZB, tZD⟩
def spec_l14Rest.l0 : Nat → ByteArray → Int → Option (Bool)
  | 0, _, _ => none
  | k + 1, x0, x3 => if x3 < (x0.size : Int) then (if 0 ≤ x3 then ((spec_l14Big.f (bt x0 x3)).bind fun t137 => (if t137 = true then (spec_l14Rest.l0 k x0 (wrap64 (x3 + 1))) else ((spec_l9Digit.f (bt x0 x3)).bind fun t138 => (if t138 = true then (spec_l14Rest.l0 k x0 (wrap64 (x3 + 1))) else (some false))))) else (none)) else (some true)
def spec_l14Rest.f (k : Nat) (a0 : ByteArray) : Option (Bool) := spec_l14Rest.l0 k a0 0
theorem spec_l14Rest.mono_l : ∀ k, (∀ y0 y1, LeO (spec_l14Rest.l0 k y0 y1) (spec_l14Rest.l0 (k + 1) y0 y1))
  | 0 => fun _ _ r h => by simp [spec_l14Rest.l0] at h
  | k + 1 => by
    have ih0 := spec_l14Rest.mono_l k
    · intro y0 y1
      unfold spec_l14Rest.l0
      repeat' first
      | (with_reducible exact ih0 _ _)
      | (with_reducible exact LeO.refl _)
      | (with_reducible exact LeO.none _)
      | (with_reducible refine LeO.ite ?_ ?_)
      | (with_reducible refine LeO.bind ?_ (fun _ => ?_))
      | exact ih0 _ _
      | exact LeO.none _
      | refine LeO.ite ?_ ?_
      | refine LeO.bind ?_ (fun _ => ?_)
theorem spec_l14Rest.mono : ∀ a0 k, LeO (spec_l14Rest.f k a0) (spec_l14Rest.f (k + 1) a0) := by
 intro a0 k
 have ih0 := spec_l14Rest.mono_l k
 unfold spec_l14Rest.f
 repeat' first
     | (with_reducible exact ih0 _ _)
     | (with_reducible exact LeO.refl _)
     | (with_reducible exact LeO.none _)
     | (with_reducible refine LeO.ite ?_ ?_)
     | (with_reducible refine LeO.bind ?_ (fun _ => ?_))
     | exact ih0 _ _
     | exact LeO.none _
     | refine LeO.ite ?_ ?_
     | refine LeO.bind ?_ (fun _ => ?_)
set_option maxHeartbeats 8000000 in
set_option maxRecDepth 100000 in
theorem spec_l14Rest.calls (k : Nat) (a0 : ByteArray) (r : Bool) (w : World) (h : spec_l14Rest.f k a0 = some r) :
    Calls Try.prog 202 #[.string a0] w fun e w' => e = .returned (.bool r) ∧ Drawn0 w w' := by
 have H : (spec_l14Rest.l0 k a0 0) = some r := h
 clear h
 have H' := Aside0.mk H
 clear H
 go_enter Try.func202, Try.ntmps202
 go_wp2
 go_loopg [3] k (fun kq v3 w' => ∃ (x3_1 : Int), v3 = .int .i64 x3_1 ∧ Aside0 (spec_l14Rest.l0 kq a0 x3_1 = some r) ∧ Aside0 (kq ≤ k) ∧ Drawn0 w w')
 case atStart => exact ⟨(0), tZB, H', ⟨Nat.le_refl _⟩, tZD⟩
 case round =>
  clear H'
  obtain ⟨x3_1, rfl, HA, HK1, ⟨m1, rfl⟩⟩ := hrel
  cases gk with
  | zero => exact absurd HA.out (by simp [spec_l14Rest.l0])
  | succ k1 =>
   have H := HA.out
   clear HA
   simp only [spec_l14Rest.l0] at H
   by_cases c2 : x3_1 < (a0.size : Int)
   rotate_left
   ·rw [if_neg c2] at H
    have c2b0 := decide_eq_false c2
    clear c2
    obtain rfl := Option.some.inj H
    go_wp2
    go_ret
    exact ⟨tZB, tZD⟩
   rw [if_pos c2] at H
   have c2b0 := decide_eq_true c2
   clear c2
   by_cases c3 : 0 ≤ x3_1
   rotate_left
   ·rw [if_neg c3] at H
    exact absurd H (by simp)
   rw [if_pos c3] at H
   have c3b0 := decide_eq_true c3
   clear c3
   replace H := Option.bind_eq_some_iff.mp H
   obtain ⟨t137, A50, H⟩ := H
   replace H : (if t137 = true then (spec_l14Rest.l0 k1 a0 (wrap64 (x3_1 + 1))) else ((spec_l9Digit.f (bt a0 x3_1)).bind fun t138 => (if t138 = true then (spec_l14Rest.l0 k1 a0 (wrap64 (x3_1 + 1))) else (some false)))) = some r := H
   have A5 := Aside0.mk A50
   clear A50
   by_cases c6 : t137 = true
   ·subst c6
    have H1 : (spec_l14Rest.l0 k1 a0 (wrap64 (x3_1 + 1))) = some r := by rw [if_pos rfl] at H; exact H
    clear H
    have H := H1
    clear H1
    have H' := Aside0.mk H
    clear H
    have p4 : 0 ≤ (x3_1 : Int) := of_decide_eq_true tZE
    have q4 : x3_1 < (a0.size : Int) := of_decide_eq_true tZE
    have hx4 := bt_at a0 x3_1
    replace p4 := eq_true p4
    replace q4 := eq_true q4
    go_wp2_with (first | ((with_reducible refine gate_callee (f := 203) rfl ?_); refine goesL_ (some 13) rfl rfl Try.func203 kZ rfl #[.int .u8 (bt a0 x3_1)] rfl tZA ?_; (with_reducible refine (spec_l14Big.calls (bt a0 x3_1) true _ A5.out).mono ?_); rintro e w' ⟨rfl, ⟨nd, rfl⟩⟩; refine ⟨_, rfl, ?_⟩))
    go_roundg k1
    case measure => have := HK1.out; omega
    case rel => exact ⟨(wrap64 (x3_1 + 1)), tZB, H', ⟨by have := HK1.out; omega⟩, tZD⟩
   replace c6 := Bool.eq_false_iff.mpr c6
   subst c6
   have H1 : ((spec_l9Digit.f (bt a0 x3_1)).bind fun t138 => (if t138 = true then (spec_l14Rest.l0 k1 a0 (wrap64 (x3_1 + 1))) else (some false))) = some r := by rw [if_neg (show ¬ (false = true) by decide)] at H; exact H
   clear H
   have H := H1
   clear H1
   replace H := Option.bind_eq_some_iff.mp H
   obtain ⟨t138, A80, H⟩ := H
   replace H : (if t138 = true then (spec_l14Rest.l0 k1 a0 (wrap64 (x3_1 + 1))) else (some false)) = some r := H
   have A8 := Aside0.mk A80
   clear A80
   by_cases c9 : t138 = true
   rotate_left
   ·replace c9 := Bool.eq_false_iff.mpr c9
    subst c9
    have H1 : (some false) = some r := by rw [if_neg (show ¬ (false = true) by decide)] at H; exact H
    clear H
    have H := H1
    clear H1
    obtain rfl := Option.some.inj H
    have p4 : 0 ≤ (x3_1 : Int) := of_decide_eq_true tZE
    have q4 : x3_1 < (a0.size : Int) := of_decide_eq_true tZE
    have hx4 := bt_at a0 x3_1
    replace p4 := eq_true p4
    replace q4 := eq_true q4
    go_wp2_with (first | ((with_reducible refine gate_callee (f := 203) rfl ?_); refine goesL_ (some 13) rfl rfl Try.func203 kZ rfl #[.int .u8 (bt a0 x3_1)] rfl tZA ?_; (with_reducible refine (spec_l14Big.calls (bt a0 x3_1) false _ A5.out).mono ?_); rintro e w' ⟨rfl, ⟨nd, rfl⟩⟩; refine ⟨_, rfl, ?_⟩; have p7 : 0 ≤ (x3_1 : Int) := of_decide_eq_true tZE; have q7 : x3_1 < (a0.size : Int) := of_decide_eq_true tZE; have hx7 := bt_at a0 x3_1; replace p7 := eq_true p7; replace q7 := eq_true q7) | (go_at_call 204; (with_reducible refine (spec_l9Digit.calls (bt a0 x3_1) false _ A8.out).mono ?_); rintro e w' ⟨rfl, ⟨nd, rfl⟩⟩))
    go_ret
    exact ⟨tZB, tZD⟩
   subst c9
   have H1 : (spec_l14Rest.l0 k1 a0 (wrap64 (x3_1 + 1))) = some r := by rw [if_pos rfl] at H; exact H
   clear H
   have H := H1
   clear H1
   have H' := Aside0.mk H
   clear H
   have p4 : 0 ≤ (x3_1 : Int) := of_decide_eq_true tZE
   have q4 : x3_1 < (a0.size : Int) := of_decide_eq_true tZE
   have hx4 := bt_at a0 x3_1
   replace p4 := eq_true p4
   replace q4 := eq_true q4
   go_wp2_with (first | ((with_reducible refine gate_callee (f := 203) rfl ?_); refine goesL_ (some 13) rfl rfl Try.func203 kZ rfl #[.int .u8 (bt a0 x3_1)] rfl tZA ?_; (with_reducible refine (spec_l14Big.calls (bt a0 x3_1) false _ A5.out).mono ?_); rintro e w' ⟨rfl, ⟨nd, rfl⟩⟩; refine ⟨_, rfl, ?_⟩; have p7 : 0 ≤ (x3_1 : Int) := of_decide_eq_true tZE; have q7 : x3_1 < (a0.size : Int) := of_decide_eq_true tZE; have hx7 := bt_at a0 x3_1; replace p7 := eq_true p7; replace q7 := eq_true q7) | (go_at_call 204; (with_reducible refine (spec_l9Digit.calls (bt a0 x3_1) true _ A8.out).mono ?_); rintro e w' ⟨rfl, ⟨nd, rfl⟩⟩))
   go_roundg k1
   case measure => have := HK1.out; omega
   case rel => exact ⟨(wrap64 (x3_1 + 1)), tZB, H', ⟨by have := HK1.out; omega⟩, tZD⟩
def spec_l14Mod.l0 : Nat → ByteArray → Int → Int → Option (Int)
  | 0, _, _, _ => none
  | k + 1, x0, x3, x4 => if x4 < (x0.size : Int) then (if 0 ≤ x4 then ((spec_l9Digit.f (bt x0 x4)).bind fun t139 => (if t139 = true then (spec_l14Mod.l0 k x0 (Int.tmod (wrap64 ((wrap64 (x3 * 10)) + (((bt x0 x4) - 48) % 256))) 97) (wrap64 (x4 + 1))) else (spec_l14Mod.l0 k x0 (Int.tmod (wrap64 ((wrap64 ((wrap64 (x3 * 100)) + (((bt x0 x4) - 65) % 256))) + 10)) 97) (wrap64 (x4 + 1))))) else (none)) else (some x3)
def spec_l14Mod.f (k : Nat) (a0 : ByteArray) : Option (Int) := spec_l14Mod.l0 k a0 0 0
theorem spec_l14Mod.mono_l : ∀ k, (∀ y0 y1 y2, LeO (spec_l14Mod.l0 k y0 y1 y2) (spec_l14Mod.l0 (k + 1) y0 y1 y2))
  | 0 => fun _ _ _ r h => by simp [spec_l14Mod.l0] at h
  | k + 1 => by
    have ih0 := spec_l14Mod.mono_l k
    · intro y0 y1 y2
      unfold spec_l14Mod.l0
      repeat' first
      | (with_reducible exact ih0 _ _ _)
      | (with_reducible exact LeO.refl _)
      | (with_reducible exact LeO.none _)
      | (with_reducible refine LeO.ite ?_ ?_)
      | (with_reducible refine LeO.bind ?_ (fun _ => ?_))
      | exact ih0 _ _ _
      | exact LeO.none _
      | refine LeO.ite ?_ ?_
      | refine LeO.bind ?_ (fun _ => ?_)
theorem spec_l14Mod.mono : ∀ a0 k, LeO (spec_l14Mod.f k a0) (spec_l14Mod.f (k + 1) a0) := by
 intro a0 k
 have ih0 := spec_l14Mod.mono_l k
 unfold spec_l14Mod.f
 repeat' first
     | (with_reducible exact ih0 _ _ _)
     | (with_reducible exact LeO.refl _)
     | (with_reducible exact LeO.none _)
     | (with_reducible refine LeO.ite ?_ ?_)
     | (with_reducible refine LeO.bind ?_ (fun _ => ?_))
     | exact ih0 _ _ _
     | exact LeO.none _
     | refine LeO.ite ?_ ?_
     | refine LeO.bind ?_ (fun _ => ?_)
set_option maxHeartbeats 8000000 in
set_option maxRecDepth 100000 in
theorem spec_l14Mod.calls (k : Nat) (a0 : ByteArray) (r : Int) (w : World) (h : spec_l14Mod.f k a0 = some r) :
    Calls Try.prog 205 #[.string a0] w fun e w' => e = .returned (.int .i64 r) ∧ Drawn0 w w' := by
 have H : (spec_l14Mod.l0 k a0 0 0) = some r := h
 clear h
 have H' := Aside0.mk H
 clear H
 go_enter Try.func205, Try.ntmps205
 go_wp2
 go_loopg [3, 4] k (fun kq v3 v4 w' => ∃ (x3_1 : Int) (x4_1 : Int), v3 = .int .i64 x3_1 ∧ v4 = .int .i64 x4_1 ∧ Aside0 (spec_l14Mod.l0 kq a0 x3_1 x4_1 = some r) ∧ Aside0 (kq ≤ k) ∧ Drawn0 w w')
 case atStart => exact ⟨(0), (0), tZB, tZB, H', ⟨Nat.le_refl _⟩, tZD⟩
 case round =>
  clear H'
  obtain ⟨x3_1, x4_1, rfl, rfl, HA, HK1, ⟨m1, rfl⟩⟩ := hrel
  cases gk with
  | zero => exact absurd HA.out (by simp [spec_l14Mod.l0])
  | succ k1 =>
   have H := HA.out
   clear HA
   simp only [spec_l14Mod.l0] at H
   by_cases c2 : x4_1 < (a0.size : Int)
   rotate_left
   ·rw [if_neg c2] at H
    have c2b0 := decide_eq_false c2
    clear c2
    obtain rfl := Option.some.inj H
    go_wp2
    go_ret
    exact ⟨tZB, tZD⟩
   rw [if_pos c2] at H
   have c2b0 := decide_eq_true c2
   clear c2
   by_cases c3 : 0 ≤ x4_1
   rotate_left
   ·rw [if_neg c3] at H
    exact absurd H (by simp)
   rw [if_pos c3] at H
   have c3b0 := decide_eq_true c3
   clear c3
   replace H := Option.bind_eq_some_iff.mp H
   obtain ⟨t139, A50, H⟩ := H
   replace H : (if t139 = true then (spec_l14Mod.l0 k1 a0 (Int.tmod (wrap64 ((wrap64 (x3_1 * 10)) + (((bt a0 x4_1) - 48) % 256))) 97) (wrap64 (x4_1 + 1))) else (spec_l14Mod.l0 k1 a0 (Int.tmod (wrap64 ((wrap64 ((wrap64 (x3_1 * 100)) + (((bt a0 x4_1) - 65) % 256))) + 10)) 97) (wrap64 (x4_1 + 1)))) = some r := H
   have A5 := Aside0.mk A50
   clear A50
   by_cases c6 : t139 = true
   ·subst c6
    have H1 : (spec_l14Mod.l0 k1 a0 (Int.tmod (wrap64 ((wrap64 (x3_1 * 10)) + (((bt a0 x4_1) - 48) % 256))) 97) (wrap64 (x4_1 + 1))) = some r := by rw [if_pos rfl] at H; exact H
    clear H
    have H := H1
    clear H1
    have H' := Aside0.mk H
    clear H
    have p4 : 0 ≤ (x4_1 : Int) := of_decide_eq_true tZE
    have q4 : x4_1 < (a0.size : Int) := of_decide_eq_true tZE
    have hx4 := bt_at a0 x4_1
    replace p4 := eq_true p4
    replace q4 := eq_true q4
    go_wp2_with (first | ((with_reducible refine gate_callee (f := 204) rfl ?_); refine goesL_ (some 14) rfl rfl Try.func204 kZ rfl #[.int .u8 (bt a0 x4_1)] rfl tZA ?_; (with_reducible refine (spec_l9Digit.calls (bt a0 x4_1) true _ A5.out).mono ?_); rintro e w' ⟨rfl, ⟨nd, rfl⟩⟩; refine ⟨_, rfl, ?_⟩; have p7 : 0 ≤ (x4_1 : Int) := of_decide_eq_true tZE; have q7 : x4_1 < (a0.size : Int) := of_decide_eq_true tZE; have hx7 := bt_at a0 x4_1; replace p7 := eq_true p7; replace q7 := eq_true q7))
    go_roundg k1
    case measure => have := HK1.out; omega
    case rel => exact ⟨(Int.tmod (wrap64 ((wrap64 (x3_1 * 10)) + (((bt a0 x4_1) - 48) % 256))) 97), (wrap64 (x4_1 + 1)), tZB, tZB, H', ⟨by have := HK1.out; omega⟩, tZD⟩
   replace c6 := Bool.eq_false_iff.mpr c6
   subst c6
   have H1 : (spec_l14Mod.l0 k1 a0 (Int.tmod (wrap64 ((wrap64 ((wrap64 (x3_1 * 100)) + (((bt a0 x4_1) - 65) % 256))) + 10)) 97) (wrap64 (x4_1 + 1))) = some r := by rw [if_neg (show ¬ (false = true) by decide)] at H; exact H
   clear H
   have H := H1
   clear H1
   have H' := Aside0.mk H
   clear H
   have p4 : 0 ≤ (x4_1 : Int) := of_decide_eq_true tZE
   have q4 : x4_1 < (a0.size : Int) := of_decide_eq_true tZE
   have hx4 := bt_at a0 x4_1
   replace p4 := eq_true p4
   replace q4 := eq_true q4
   go_wp2_with (first | ((with_reducible refine gate_callee (f := 204) rfl ?_); refine goesL_ (some 14) rfl rfl Try.func204 kZ rfl #[.int .u8 (bt a0 x4_1)] rfl tZA ?_; (with_reducible refine (spec_l9Digit.calls (bt a0 x4_1) false _ A5.out).mono ?_); rintro e w' ⟨rfl, ⟨nd, rfl⟩⟩; refine ⟨_, rfl, ?_⟩; have p8 : 0 ≤ (x4_1 : Int) := of_decide_eq_true tZE; have q8 : x4_1 < (a0.size : Int) := of_decide_eq_true tZE; have hx8 := bt_at a0 x4_1; replace p8 := eq_true p8; replace q8 := eq_true q8))
   go_roundg k1
   case measure => have := HK1.out; omega
   case rel => exact ⟨(Int.tmod (wrap64 ((wrap64 ((wrap64 (x3_1 * 100)) + (((bt a0 x4_1) - 65) % 256))) + 10)) 97), (wrap64 (x4_1 + 1)), tZB, tZB, H', ⟨by have := HK1.out; omega⟩, tZD⟩
end Go.Proofs.Ytmpknbdbichdiaa.PFnExactReadBank
