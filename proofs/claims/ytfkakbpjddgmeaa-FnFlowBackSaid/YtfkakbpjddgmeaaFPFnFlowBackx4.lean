import Derived.Test.YtfkakbpjddgmeaaFPFnFlowBackx0
import Derived.Test.YtfkakbpjddgmeaaFPFnFlowBackx3
import Derived.Test.YtfkakbpjddgmeaaFSlimWords
namespace Go.Proofs.Ytfkakbpjddgmeaa.PFnFlowBack
open Go.Proofs.Ytfkakbpjddgmeaa.SlimWords
open Go.RowKit Go.Proofs.YtfkakbpjddgmeaaW.PrintWords Go.Proofs.YtfkakbpjddgmeaaW.PrintLast Go.Proofs.YtfkakbpjddgmeaaW.PrintMore Go.Proofs.Ytfkakbpjddgmeaa.MapWords Go.Proofs.Ytfkakbpjddgmeaa.IterWords Go.Proofs.Ytfkakbpjddgmeaa.MarkWords
attribute [local go_sem] max2_int min2_int max_two min_two max_three min_three max_four min_four
set_option linter.unusedVariables false
set_option linter.unusedSimpArgs false
mutual
def impl_ShowMoney.j0 : Nat → Int → Int → Bool → Option (ByteArray)
  | 0, _, _, _ => none
  | k + 1, x0, x1, x14 => if x14 = true then (some (⟨#[]⟩ : ByteArray)) else (if x0 < 0 then (impl_ShowMoney.j1 k (wrap64 (-x0)) x1 (⟨#[45]⟩ : ByteArray)) else (impl_ShowMoney.j1 k x0 x1 (⟨#[]⟩ : ByteArray)))
def impl_ShowMoney.j1 : Nat → Int → Int → ByteArray → Option (ByteArray)
  | 0, _, _, _ => none
  | k + 1, x0, x1, x5 => (impl_decimal.f k x0).bind fun t249 => (impl_ShowMoney.l0 k x1 x5 t249)
def impl_ShowMoney.l0 : Nat → Int → ByteArray → ByteArray → Option (ByteArray)
  | 0, _, _, _ => none
  | k + 1, x1, x5, x6 => if (x6.size : Int) ≤ x1 then (if 1 + x6.size ≤ 9223372036854775807 then (impl_ShowMoney.l0 k x1 x5 ((⟨#[48]⟩ : ByteArray) ++ x6)) else (none)) else (if x1 = 0 then (if x5.size + x6.size ≤ 9223372036854775807 then (some (x5 ++ x6)) else (none)) else (if 0 ≤ (wrap64 ((x6.size : Int) - x1)) then (if (wrap64 ((x6.size : Int) - x1)) ≤ (x6.size : Int) then (if x5.size + (x6.extract 0 ((wrap64 ((x6.size : Int) - x1)) : Int).toNat).size ≤ 9223372036854775807 then (if (x5 ++ (x6.extract 0 ((wrap64 ((x6.size : Int) - x1)) : Int).toNat)).size + 1 ≤ 9223372036854775807 then (if ((x5 ++ (x6.extract 0 ((wrap64 ((x6.size : Int) - x1)) : Int).toNat)) ++ (⟨#[46]⟩ : ByteArray)).size + (x6.extract ((wrap64 ((x6.size : Int) - x1)) : Int).toNat x6.size).size ≤ 9223372036854775807 then (some (((x5 ++ (x6.extract 0 ((wrap64 ((x6.size : Int) - x1)) : Int).toNat)) ++ (⟨#[46]⟩ : ByteArray)) ++ (x6.extract ((wrap64 ((x6.size : Int) - x1)) : Int).toNat x6.size))) else (none)) else (none)) else (none)) else (none)) else (none)))
end
def impl_ShowMoney.f (k : Nat) (a0 : Int) (a1 : Int) : Option (ByteArray) := (impl_amount.f a0).bind fun t247 => (if t247 = true then ((impl_between.f a1 0 6).bind fun t248 => (impl_ShowMoney.j0 k a0 a1 (!t248))) else (impl_ShowMoney.j0 k a0 a1 true))
theorem impl_ShowMoney.mono_l : ∀ k, (∀ y0 y1 y2, LeO (impl_ShowMoney.j0 k y0 y1 y2) (impl_ShowMoney.j0 (k + 1) y0 y1 y2)) ∧ (∀ y0 y1 y2, LeO (impl_ShowMoney.j1 k y0 y1 y2) (impl_ShowMoney.j1 (k + 1) y0 y1 y2)) ∧ (∀ y0 y1 y2, LeO (impl_ShowMoney.l0 k y0 y1 y2) (impl_ShowMoney.l0 (k + 1) y0 y1 y2))
  | 0 => ⟨fun _ _ _ r h => by simp [impl_ShowMoney.j0] at h, fun _ _ _ r h => by simp [impl_ShowMoney.j1] at h, fun _ _ _ r h => by simp [impl_ShowMoney.l0] at h⟩
  | k + 1 => by
    obtain ⟨ih0, ih1, ih2⟩ := impl_ShowMoney.mono_l k
    refine ⟨?_, ?_, ?_⟩
    · intro y0 y1 y2
      unfold impl_ShowMoney.j0
      repeat' first
      | (with_reducible exact ih0 _ _ _)
      | (with_reducible exact ih1 _ _ _)
      | (with_reducible exact ih2 _ _ _)
      | (with_reducible exact impl_decimal.mono _ _)
      | (with_reducible exact LeO.refl _)
      | (with_reducible exact LeO.none _)
      | (with_reducible refine LeO.ite ?_ ?_)
      | (with_reducible refine LeO.bind ?_ (fun _ => ?_))
      | exact ih0 _ _ _
      | exact ih1 _ _ _
      | exact ih2 _ _ _
      | exact impl_decimal.mono _ _
      | exact LeO.none _
      | refine LeO.ite ?_ ?_
      | refine LeO.bind ?_ (fun _ => ?_)
    · intro y0 y1 y2
      unfold impl_ShowMoney.j1
      repeat' first
      | (with_reducible exact ih0 _ _ _)
      | (with_reducible exact ih1 _ _ _)
      | (with_reducible exact ih2 _ _ _)
      | (with_reducible exact impl_decimal.mono _ _)
      | (with_reducible exact LeO.refl _)
      | (with_reducible exact LeO.none _)
      | (with_reducible refine LeO.ite ?_ ?_)
      | (with_reducible refine LeO.bind ?_ (fun _ => ?_))
      | exact ih0 _ _ _
      | exact ih1 _ _ _
      | exact ih2 _ _ _
      | exact impl_decimal.mono _ _
      | exact LeO.none _
      | refine LeO.ite ?_ ?_
      | refine LeO.bind ?_ (fun _ => ?_)
    · intro y0 y1 y2
      unfold impl_ShowMoney.l0
      repeat' first
      | (with_reducible exact ih0 _ _ _)
      | (with_reducible exact ih1 _ _ _)
      | (with_reducible exact ih2 _ _ _)
      | (with_reducible exact impl_decimal.mono _ _)
      | (with_reducible exact LeO.refl _)
      | (with_reducible exact LeO.none _)
      | (with_reducible refine LeO.ite ?_ ?_)
      | (with_reducible refine LeO.bind ?_ (fun _ => ?_))
      | exact ih0 _ _ _
      | exact ih1 _ _ _
      | exact ih2 _ _ _
      | exact impl_decimal.mono _ _
      | exact LeO.none _
      | refine LeO.ite ?_ ?_
      | refine LeO.bind ?_ (fun _ => ?_)
theorem impl_ShowMoney.mono : ∀ a0 a1 k, LeO (impl_ShowMoney.f k a0 a1) (impl_ShowMoney.f (k + 1) a0 a1) := by
 intro a0 a1 k
 obtain ⟨ih0, ih1, ih2⟩ := impl_ShowMoney.mono_l k
 unfold impl_ShowMoney.f
 repeat' first
     | (with_reducible exact ih0 _ _ _)
     | (with_reducible exact ih1 _ _ _)
     | (with_reducible exact ih2 _ _ _)
     | (with_reducible exact impl_decimal.mono _ _)
     | (with_reducible exact LeO.refl _)
     | (with_reducible exact LeO.none _)
     | (with_reducible refine LeO.ite ?_ ?_)
     | (with_reducible refine LeO.bind ?_ (fun _ => ?_))
     | exact ih0 _ _ _
     | exact ih1 _ _ _
     | exact ih2 _ _ _
     | exact impl_decimal.mono _ _
     | exact LeO.none _
     | refine LeO.ite ?_ ?_
     | refine LeO.bind ?_ (fun _ => ?_)
set_option maxHeartbeats 8000000 in
set_option maxRecDepth 100000 in
theorem impl_ShowMoney.calls (k : Nat) (a0 : Int) (a1 : Int) (r : ByteArray) (w : World) (h : impl_ShowMoney.f k a0 a1 = some r) :
    Calls Try.prog 53 #[.int .i64 a0, .int .i64 a1] w fun e w' => e = .returned (.string r) ∧ Below w.heap.size w w' := by
 have HB := aZ (Below.refl w.heap.size w); have H : ((impl_amount.f a0).bind fun t247 => (if t247 = true then ((impl_between.f a1 0 6).bind fun t248 => (impl_ShowMoney.j0 k a0 a1 (!t248))) else (impl_ShowMoney.j0 k a0 a1 true))) = some r := h; clear h; have HC3 := Aside0.mk H; clear H; go_enter Try.func53, Try.ntmps53
 go_upto_region 1 with (fail)
 repeat (go_quiet (fail); go_upto_region 1 with (fail))
 go_cut [14] (fun v14 wc => ∃ (kq : Nat) (x14_2 : Bool), v14 = .bool x14_2 ∧ Aside0 (impl_ShowMoney.j0 kq a0 a1 x14_2 = some r) ∧ Aside0 (kq ≤ k) ∧ Aside0 (Below w.heap.size w wc))
 case first =>
  have H := HC3.out; clear HC3; replace H := Option.bind_eq_some_iff.mp H; obtain ⟨t247, A40, H⟩ := H; replace H : (if t247 = true then ((impl_between.f a1 0 6).bind fun t248 => (impl_ShowMoney.j0 k a0 a1 (!t248))) else (impl_ShowMoney.j0 k a0 a1 true)) = some r := H; have A4 := Aside0.mk A40; clear A40
  by_cases c5 : t247 = true
  rotate_left
  ·replace c5 := Bool.eq_false_iff.mpr c5; subst c5; rw [if_neg Bool.false_ne_true] at H; have H' := Aside0.mk H; clear H
   go_wp2_with (first | (go_at_call 36; (with_reducible refine (impl_amount.calls a0 false _ A4.out).mono ?_); rintro e w' ⟨rfl, ⟨nd, rfl⟩⟩; (try first | exact ⟨rfl, _, World.drewN_drewN _ _ _⟩ | exact ⟨rfl, _, Eq.trans (World.drewN_drewN _ _ _) (congrArg (World.drewN _) (Nat.add_assoc _ _ _))⟩)))
   repeat (go_quiet (first | (go_at_call 36; (with_reducible refine (impl_amount.calls a0 false _ A4.out).mono ?_); rintro e w' ⟨rfl, ⟨nd, rfl⟩⟩; (try first | exact ⟨rfl, _, World.drewN_drewN _ _ _⟩ | exact ⟨rfl, _, Eq.trans (World.drewN_drewN _ _ _) (congrArg (World.drewN _) (Nat.add_assoc _ _ _))⟩))); try go_wp2_with (first | (go_at_call 36; (with_reducible refine (impl_amount.calls a0 false _ A4.out).mono ?_); rintro e w' ⟨rfl, ⟨nd, rfl⟩⟩; (try first | exact ⟨rfl, _, World.drewN_drewN _ _ _⟩ | exact ⟨rfl, _, Eq.trans (World.drewN_drewN _ _ _) (congrArg (World.drewN _) (Nat.add_assoc _ _ _))⟩))))
   go_meet
   case rel => exact ⟨_, (true), tZB, H', ⟨by first | omega | exact Nat.le_refl _⟩, ⟨bZ⟩⟩
  subst c5; rw [if_pos rfl] at H; replace H := Option.bind_eq_some_iff.mp H; obtain ⟨t248, A60, H⟩ := H; replace H : (impl_ShowMoney.j0 k a0 a1 (!t248)) = some r := H; have A6 := Aside0.mk A60; clear A60; have H' := Aside0.mk H; clear H
  go_wp2_with (first | (go_at_call 36; (with_reducible refine (impl_amount.calls a0 true _ A4.out).mono ?_); rintro e w' ⟨rfl, ⟨nd, rfl⟩⟩; (try first | exact ⟨rfl, _, World.drewN_drewN _ _ _⟩ | exact ⟨rfl, _, Eq.trans (World.drewN_drewN _ _ _) (congrArg (World.drewN _) (Nat.add_assoc _ _ _))⟩)) | (go_at_call 67; (with_reducible refine (impl_between.calls a1 0 6 t248 _ A6.out).mono ?_); rintro e w' ⟨rfl, ⟨nd, rfl⟩⟩; (try first | exact ⟨rfl, _, World.drewN_drewN _ _ _⟩ | exact ⟨rfl, _, Eq.trans (World.drewN_drewN _ _ _) (congrArg (World.drewN _) (Nat.add_assoc _ _ _))⟩)))
  repeat (go_quiet (first | (go_at_call 36; (with_reducible refine (impl_amount.calls a0 true _ A4.out).mono ?_); rintro e w' ⟨rfl, ⟨nd, rfl⟩⟩; (try first | exact ⟨rfl, _, World.drewN_drewN _ _ _⟩ | exact ⟨rfl, _, Eq.trans (World.drewN_drewN _ _ _) (congrArg (World.drewN _) (Nat.add_assoc _ _ _))⟩)) | (go_at_call 67; (with_reducible refine (impl_between.calls a1 0 6 t248 _ A6.out).mono ?_); rintro e w' ⟨rfl, ⟨nd, rfl⟩⟩; (try first | exact ⟨rfl, _, World.drewN_drewN _ _ _⟩ | exact ⟨rfl, _, Eq.trans (World.drewN_drewN _ _ _) (congrArg (World.drewN _) (Nat.add_assoc _ _ _))⟩))); try go_wp2_with (first | (go_at_call 36; (with_reducible refine (impl_amount.calls a0 true _ A4.out).mono ?_); rintro e w' ⟨rfl, ⟨nd, rfl⟩⟩; (try first | exact ⟨rfl, _, World.drewN_drewN _ _ _⟩ | exact ⟨rfl, _, Eq.trans (World.drewN_drewN _ _ _) (congrArg (World.drewN _) (Nat.add_assoc _ _ _))⟩)) | (go_at_call 67; (with_reducible refine (impl_between.calls a1 0 6 t248 _ A6.out).mono ?_); rintro e w' ⟨rfl, ⟨nd, rfl⟩⟩; (try first | exact ⟨rfl, _, World.drewN_drewN _ _ _⟩ | exact ⟨rfl, _, Eq.trans (World.drewN_drewN _ _ _) (congrArg (World.drewN _) (Nat.add_assoc _ _ _))⟩))))
  go_meet
  case rel => exact ⟨_, (!t248), tZB, H', ⟨by first | omega | exact Nat.le_refl _⟩, ⟨bZ⟩⟩
 case rest =>
  clear HC3; obtain ⟨kq, x14_2, rfl, HA, HJ2, HB⟩ := hcut
  cases kq with
  | zero => exact absurd HA.out (by simp [impl_ShowMoney.j0])
  | succ kj2 =>
   have H := HA.out; clear HA; simp only [impl_ShowMoney.j0] at H
   by_cases c7 : x14_2 = true
   ·subst c7; rw [if_pos rfl] at H; obtain rfl := Option.some.inj H; go_wp2
    repeat (go_quiet (fail); try go_wp2)
    go_ret; exact ⟨tZC, bZ⟩
   replace c7 := Bool.eq_false_iff.mpr c7; subst c7; rw [if_neg Bool.false_ne_true] at H; have HC8 := Aside0.mk H; clear H
   go_upto_if 16 with (fail)
   repeat (go_quiet (fail); go_upto_if 16 with (fail))
   go_cut [0, 5] (fun v0 v5 wc => ∃ (kq : Nat) (x0_7 : Int) (x5_7 : ByteArray), v0 = .int .i64 x0_7 ∧ v5 = .string x5_7 ∧ Aside0 (impl_ShowMoney.j1 kq x0_7 a1 x5_7 = some r) ∧ Aside0 (kq ≤ kj2) ∧ Aside0 (Below w.heap.size w wc))
   case first =>
    have H := HC8.out; clear HC8
    by_cases c9 : a0 < 0
    rotate_left
    ·rw [if_neg c9] at H; have c9b0 := decide_eq_false c9; clear c9; (first | rw [c9b0] | (simp only [i64_w, i32_w]; rw [c9b0]) | skip); have H' := Aside0.mk H; clear H; go_wp2
     repeat (go_quiet (fail); try go_wp2)
     go_meet
     case rel => exact ⟨_, (a0), ((⟨#[]⟩ : ByteArray)), tZB, tZB, H', ⟨by have := HJ2.out; first | omega | exact Nat.le_refl _⟩, ⟨bZ⟩⟩
    rw [if_pos c9] at H; have c9b0 := decide_eq_true c9; clear c9; (first | rw [c9b0] | (simp only [i64_w, i32_w]; rw [c9b0]) | skip); have H' := Aside0.mk H; clear H; go_wp2
    repeat (go_quiet (fail); try go_wp2)
    go_meet
    case rel => exact ⟨_, (wrap64 (-a0)), ((⟨#[45]⟩ : ByteArray)), tZB, tZB, H', ⟨by have := HJ2.out; first | omega | exact Nat.le_refl _⟩, ⟨bZ⟩⟩
   case rest =>
    clear HC8; (try clear c7); obtain ⟨kq, x0_7, x5_7, rfl, rfl, HA, HJ7, HB⟩ := hcut
    cases kq with
    | zero => exact absurd HA.out (by simp [impl_ShowMoney.j1])
    | succ kj7 =>
     have H := HA.out; clear HA; simp only [impl_ShowMoney.j1] at H; replace H := Option.bind_eq_some_iff.mp H; obtain ⟨t249, A100, H⟩ := H; replace H : (impl_ShowMoney.l0 kj7 a1 x5_7 t249) = some r := H; have A10 := Aside0.mk A100; clear A100; have H' := Aside0.mk H; clear H
     go_wp2_with (first | (go_at_call 75; (with_reducible refine (impl_decimal.calls kj7 x0_7 t249 _ A10.out).mono ?_); rintro e w11 ⟨rfl, hb⟩; replace HB := aZ (below_step (lZB HB.out) hb); (try clear hb); (try clear hb2); (try clear hk); (try clear hi)))
     repeat (go_quiet (first | (go_at_call 75; (with_reducible refine (impl_decimal.calls kj7 x0_7 t249 _ A10.out).mono ?_); rintro e w11 ⟨rfl, hb⟩; replace HB := aZ (below_step (lZB HB.out) hb); (try clear hb); (try clear hb2); (try clear hk); (try clear hi))); try go_wp2_with (first | (go_at_call 75; (with_reducible refine (impl_decimal.calls kj7 x0_7 t249 _ A10.out).mono ?_); rintro e w11 ⟨rfl, hb⟩; replace HB := aZ (below_step (lZB HB.out) hb); (try clear hb); (try clear hb2); (try clear hk); (try clear hi))))
     go_loopg [6] kj7 (fun kq v6 w' => ∃ (x6_3 : ByteArray), v6 = .string x6_3 ∧ Aside0 (impl_ShowMoney.l0 kq a1 x5_7 x6_3 = some r) ∧ Aside0 (kq ≤ kj7) ∧ Aside0 (Below w.heap.size w w'))
     case atStart => exact ⟨(t249), tZB, H', ⟨Nat.le_refl _⟩, ⟨bZ⟩⟩
     case round =>
      clear H'; (try clear c7); obtain ⟨x6_3, rfl, HA, HK3, HB⟩ := hrel
      cases gk with
      | zero => exact absurd HA.out (by simp [impl_ShowMoney.l0])
      | succ k3 =>
       have H := HA.out; clear HA; simp only [impl_ShowMoney.l0] at H
       by_cases c12 : (x6_3.size : Int) ≤ a1
       ·rw [if_pos c12] at H; have c12b0 := decide_eq_true c12; clear c12
        by_cases c13 : 1 + x6_3.size ≤ 9223372036854775807
        rotate_left
        ·rw [if_neg c13] at H; exact absurd H (by simp)
        rw [if_pos c13] at H; have c13b0 := eq_true c13; have c13b1 := decide_eq_true c13
        try have c13b2 := eq_false (Nat.not_lt.2 c13)
        have H' := Aside0.mk H; clear H; go_wp2
        repeat (go_quiet (fail); try go_wp2)
        go_roundg k3
        case measure => have := HJ2.out; have := HJ7.out; have := HK3.out; omega
        case rel => exact ⟨((⟨#[48]⟩ : ByteArray) ++ x6_3), tZB, H', ⟨by have := HJ2.out; have := HJ7.out; have := HK3.out; omega⟩, ⟨bZ⟩⟩
       rw [if_neg c12] at H; have c12b0 := decide_eq_false c12; clear c12
       by_cases c14 : a1 = 0
       ·rw [if_pos c14] at H; have c14b0 : (a1 == 0) = true := beq_iff_eq.mpr c14; have c14b1 : (a1 != 0) = false := bne_eq_false_iff_eq.mpr c14; clear c14
        by_cases c15 : x5_7.size + x6_3.size ≤ 9223372036854775807
        rotate_left
        ·rw [if_neg c15] at H; exact absurd H (by simp)
        rw [if_pos c15] at H; have c15b0 := eq_true c15; have c15b1 := decide_eq_true c15
        try have c15b2 := eq_false (Nat.not_lt.2 c15)
        obtain rfl := Option.some.inj H; go_wp2
        repeat (go_quiet (fail); try go_wp2)
        go_ret; exact ⟨tZC, bZ⟩
       rw [if_neg c14] at H; have c14b0 : (a1 == 0) = false := beq_eq_false_iff_ne.mpr c14; have c14b1 : (a1 != 0) = true := bne_iff_ne.mpr c14; obtain ⟨ji16, hji16⟩ : ∃ j_ : Int, (wrap64 ((x6_3.size : Int) - a1)) = j_ := ⟨_, rfl⟩
       replace H : (if 0 ≤ (ji16) then (if (ji16) ≤ (x6_3.size : Int) then (if x5_7.size + (x6_3.extract 0 ((ji16) : Int).toNat).size ≤ 9223372036854775807 then (if (x5_7 ++ (x6_3.extract 0 ((ji16) : Int).toNat)).size + 1 ≤ 9223372036854775807 then (if ((x5_7 ++ (x6_3.extract 0 ((ji16) : Int).toNat)) ++ (⟨#[46]⟩ : ByteArray)).size + (x6_3.extract ((ji16) : Int).toNat x6_3.size).size ≤ 9223372036854775807 then (some (((x5_7 ++ (x6_3.extract 0 ((ji16) : Int).toNat)) ++ (⟨#[46]⟩ : ByteArray)) ++ (x6_3.extract ((ji16) : Int).toNat x6_3.size))) else (none)) else (none)) else (none)) else (none)) else (none)) = some r := by first | (rw [hji16] at H; exact H) | (simp only [hji16] at H ⊢; exact H)
       have hji16w : (IntKind.i64.wrap ((x6_3.size : Int) - a1)) = ji16 := (i64_w _).trans hji16
       by_cases c17 : 0 ≤ (ji16)
       rotate_left
       ·rw [if_neg c17] at H; exact absurd H (by simp)
       rw [if_pos c17] at H; have c17b0 := eq_true c17; have c17b1 := decide_eq_true c17; clear c17
       by_cases c18 : (ji16) ≤ (x6_3.size : Int)
       rotate_left
       ·rw [if_neg c18] at H; exact absurd H (by simp)
       rw [if_pos c18] at H; have c18b0 := eq_true c18; have c18b1 := decide_eq_true c18; clear c18
       by_cases c19 : x5_7.size + (x6_3.extract 0 ((ji16) : Int).toNat).size ≤ 9223372036854775807
       rotate_left
       ·rw [if_neg c19] at H; exact absurd H (by simp)
       rw [if_pos c19] at H; have c19b0 := eq_true c19; have c19b1 := decide_eq_true c19
       try have c19b2 := eq_false (Nat.not_lt.2 c19)
       try have c19b5 : (9223372036854775807 < x5_7.size + ji16.toNat) = False := eq_false (by have h_ := c19; have e0_ : ji16 ≤ (x6_3.size : Int) := of_decide_eq_true tZE; simp only [ByteArray.size_append, ByteArray.size_extract] at h_; omega)
       by_cases c20 : (x5_7 ++ (x6_3.extract 0 ((ji16) : Int).toNat)).size + 1 ≤ 9223372036854775807
       rotate_left
       ·rw [if_neg c20] at H; exact absurd H (by simp)
       rw [if_pos c20] at H; have c20b0 := eq_true c20; have c20b1 := decide_eq_true c20
       try have c20b2 := eq_false (Nat.not_lt.2 c20)
       try have c20b5 : (9223372036854775807 < x5_7.size + ji16.toNat + 1) = False := eq_false (by have h_ := c20; have e0_ : ji16 ≤ (x6_3.size : Int) := of_decide_eq_true tZE; simp only [ByteArray.size_append, ByteArray.size_extract] at h_; omega)
       have c21b0 := eq_true (of_decide_eq_true tZE : 0 ≤ (ji16)); have c22b0 := eq_true (of_decide_eq_true tZE : (ji16) ≤ (x6_3.size : Int))
       by_cases c23 : ((x5_7 ++ (x6_3.extract 0 ((ji16) : Int).toNat)) ++ (⟨#[46]⟩ : ByteArray)).size + (x6_3.extract ((ji16) : Int).toNat x6_3.size).size ≤ 9223372036854775807
       rotate_left
       ·rw [if_neg c23] at H; exact absurd H (by simp)
       rw [if_pos c23] at H; have c23b0 := eq_true c23; have c23b1 := decide_eq_true c23
       try have c23b2 := eq_false (Nat.not_lt.2 c23)
       try have c23b5 : (9223372036854775807 < x5_7.size + ji16.toNat + 1 + (x6_3.size - ji16.toNat)) = False := eq_false (by have h_ := c23; have e0_ : ji16 ≤ (x6_3.size : Int) := of_decide_eq_true tZE; have e1_ : (⟨#[46]⟩ : ByteArray).size = 1 := rfl; simp only [ByteArray.size_append, ByteArray.size_extract] at h_; omega)
       obtain rfl := Option.some.inj H; go_wp2
       repeat (go_quiet (fail); try go_wp2)
       go_ret; exact ⟨by first | rfl | (simp [errW_none, errW_some] <;> rfl) | (simp only [← hji16]; first | rfl | (simp [errW_none, errW_some] <;> rfl)) | (simp [*, errW_none, errW_some] <;> rfl), bZ⟩
mutual
def impl_cutAt.l0 : Nat → ByteArray → ByteArray → List ByteArray → Int → Int → Int → ByteArray → Option (List ByteArray)
  | 0, _, _, _, _, _, _, _ => none
  | k + 1, x0, x1, x5, x6, x7, x254000, x254001 => if itp x254000 < (x254001.size : Int) then (if (itp x254000) < x7 then (impl_cutAt.j1 k x0 x1 x5 x6 x7 (itp x254000) true (itw x254001 x254000) x254001) else (impl_cutAt.j1 k x0 x1 x5 x6 x7 (itp x254000) (decide ((wrap64 ((x0.size : Int) - (itp x254000))) < (x1.size : Int))) (itw x254001 x254000) x254001)) else (if 0 ≤ x6 then (if x6 ≤ (x0.size : Int) then (if x5.length < 8796093022208 then (some (x5 ++ [x0.extract (x6 : Int).toNat x0.size])) else (none)) else (none)) else (none))
def impl_cutAt.j1 : Nat → ByteArray → ByteArray → List ByteArray → Int → Int → Int → Bool → Int → ByteArray → Option (List ByteArray)
  | 0, _, _, _, _, _, _, _, _, _ => none
  | k + 1, x0, x1, x5, x6, x7, x8, x26, x254000, x254001 => if x26 = true then (impl_cutAt.l0 k x0 x1 x5 x6 x7 x254000 x254001) else (if 0 ≤ x8 then (if x8 ≤ (wrap64 (x8 + (x1.size : Int))) then (if (wrap64 (x8 + (x1.size : Int))) ≤ (x0.size : Int) then (if (x0.extract (x8 : Int).toNat ((wrap64 (x8 + (x1.size : Int))) : Int).toNat).toList = x1.toList then (if 0 ≤ x6 then (if x6 ≤ x8 then (if x8 ≤ (x0.size : Int) then (if x5.length < 8796093022208 then (impl_cutAt.l0 k x0 x1 (x5 ++ [x0.extract (x6 : Int).toNat (x8 : Int).toNat]) (wrap64 (x8 + (x1.size : Int))) (wrap64 (x8 + (x1.size : Int))) x254000 x254001) else (none)) else (none)) else (none)) else (none)) else (impl_cutAt.l0 k x0 x1 x5 x6 x7 x254000 x254001)) else (none)) else (none)) else (none))
end
def impl_cutAt.f (k : Nat) (a0 : ByteArray) (a1 : ByteArray) : Option (List ByteArray) := impl_cutAt.l0 k a0 a1 (([] : List ByteArray)) 0 0 0 a0
theorem impl_cutAt.mono_l : ∀ k, (∀ y0 y1 y2 y3 y4 y5 y6, LeO (impl_cutAt.l0 k y0 y1 y2 y3 y4 y5 y6) (impl_cutAt.l0 (k + 1) y0 y1 y2 y3 y4 y5 y6)) ∧ (∀ y0 y1 y2 y3 y4 y5 y6 y7 y8, LeO (impl_cutAt.j1 k y0 y1 y2 y3 y4 y5 y6 y7 y8) (impl_cutAt.j1 (k + 1) y0 y1 y2 y3 y4 y5 y6 y7 y8))
  | 0 => ⟨fun _ _ _ _ _ _ _ r h => by simp [impl_cutAt.l0] at h, fun _ _ _ _ _ _ _ _ _ r h => by simp [impl_cutAt.j1] at h⟩
  | k + 1 => by
    obtain ⟨ih0, ih1⟩ := impl_cutAt.mono_l k
    refine ⟨?_, ?_⟩
    · intro y0 y1 y2 y3 y4 y5 y6
      unfold impl_cutAt.l0
      repeat' first
      | (with_reducible exact ih0 _ _ _ _ _ _ _)
      | (with_reducible exact ih1 _ _ _ _ _ _ _ _ _)
      | (with_reducible exact LeO.refl _)
      | (with_reducible exact LeO.none _)
      | (with_reducible refine LeO.ite ?_ ?_)
      | (with_reducible refine LeO.bind ?_ (fun _ => ?_))
      | exact ih0 _ _ _ _ _ _ _
      | exact ih1 _ _ _ _ _ _ _ _ _
      | exact LeO.none _
      | refine LeO.ite ?_ ?_
      | refine LeO.bind ?_ (fun _ => ?_)
    · intro y0 y1 y2 y3 y4 y5 y6 y7 y8
      unfold impl_cutAt.j1
      repeat' first
      | (with_reducible exact ih0 _ _ _ _ _ _ _)
      | (with_reducible exact ih1 _ _ _ _ _ _ _ _ _)
      | (with_reducible exact LeO.refl _)
      | (with_reducible exact LeO.none _)
      | (with_reducible refine LeO.ite ?_ ?_)
      | (with_reducible refine LeO.bind ?_ (fun _ => ?_))
      | exact ih0 _ _ _ _ _ _ _
      | exact ih1 _ _ _ _ _ _ _ _ _
      | exact LeO.none _
      | refine LeO.ite ?_ ?_
      | refine LeO.bind ?_ (fun _ => ?_)
theorem impl_cutAt.mono : ∀ a0 a1 k, LeO (impl_cutAt.f k a0 a1) (impl_cutAt.f (k + 1) a0 a1) := by
 intro a0 a1 k
 obtain ⟨ih0, ih1⟩ := impl_cutAt.mono_l k
 unfold impl_cutAt.f
 repeat' first
     | (with_reducible exact ih0 _ _ _ _ _ _ _)
     | (with_reducible exact ih1 _ _ _ _ _ _ _ _ _)
     | (with_reducible exact LeO.refl _)
     | (with_reducible exact LeO.none _)
     | (with_reducible refine LeO.ite ?_ ?_)
     | (with_reducible refine LeO.bind ?_ (fun _ => ?_))
     | exact ih0 _ _ _ _ _ _ _
     | exact ih1 _ _ _ _ _ _ _ _ _
     | exact LeO.none _
     | refine LeO.ite ?_ ?_
     | refine LeO.bind ?_ (fun _ => ?_)
set_option maxHeartbeats 8000000 in
set_option maxRecDepth 100000 in
theorem impl_cutAt.calls (k : Nat) (a0 : ByteArray) (a1 : ByteArray) (r : List ByteArray) (w : World) (h : impl_cutAt.f k a0 a1 = some r) :
    Calls Try.prog 78 #[.string a0, .string a1] w fun e w' => ∃ v0_ : Value, e = .returned (v0_) ∧ Kd.R Kd.string 9 w' w.heap.size (fun _ => True) v0_ r ∧ Below w.heap.size w w' := by
 have HB := aZ (Below.refl w.heap.size w); have H : (impl_cutAt.l0 k a0 a1 (([] : List ByteArray)) 0 0 0 a0) = some r := h; clear h; obtain ⟨y250, hy250⟩ : ∃ y_ : List ByteArray, y_ = (([] : List ByteArray)) := ⟨_, rfl⟩; replace H : (impl_cutAt.l0 k a0 a1 y250 0 0 0 a0) = some r := by first | (rw [hy250]; with_reducible exact H) | (have H2_ := (Option.bind_some _ _).symm.trans H; rw [hy250]; with_reducible exact H2_) | (have H2_ := (Option.bind_some _ _).symm.trans H; with_reducible exact H2_) | with_reducible exact H | (rw [hy250]; exact H) | exact H
 have Ny250 := Aside0.mk hy250; clear hy250; have H' := Aside0.mk H; clear H; go_enter Try.func78, Try.ntmps78
 go_wp2_with (first | ((with_reducible refine gate_dst (N := 9) rfl ?_); (try (refine gate_guard (by rfl) ?_; dsimp only)); refine Kd.R_lit Kd.string _ 9 ?hg (N := 9) ?hd (xs := ([] : List ByteArray)) (inner := []) (ok := fun _ => True) (okp := fun _ => True) ?hr ?hp (fun _ hk => hk) trivial (Below.refl _ _) (Nat.le_refl _) (by simp) ?_; (case hd => rfl); (case hg => rfl); (case hr => first | (go_simp; done) | (go_simp; rfl)); (case hp => exact (Reps.none _ _)); intro v251 w3 ho4 hb hg_ hnew_; clear hg_ hnew_; (first | rw [← Ny250.out] at ho4 | (simp only [Int.reduceToNat] at ho4; rw [← Ny250.out] at ho4)); have HO252 := aZ (Kd.R_lower ho4 (below_size (lZB HB.out))); replace HB := aZ (below_step (lZB HB.out) hb); clear hb ho4) | ((with_reducible refine gate_dst (N := 11) rfl ?_); (try (refine gate_guard (by rfl) ?_; dsimp only)); refine irange_event rfl (N := 11) rfl (.tmp 10) 9 rfl Try.underlying9 (s := a0) (by first | rfl | (go_simp; done) | (go_simp; rfl)) ?_; intro gb253 hg w5 hbox hb; replace HO252 := aZ (Kd.R_below (lZR HO252.out) hb); have BK253 := aZ (hbox); have GW253 := aZ ((by rw [hg]; exact (below_size (lZB HB.out)) : w.heap.size ≤ gb253)); have GE253 := GW253; replace HB := aZ (below_step (lZB HB.out) hb); clear hb hbox hg; (try simp only [Act.put, sZ1, sZ2, sZ3])))
 repeat (go_step3; go_wp2_with (first | ((with_reducible refine gate_dst (N := 9) rfl ?_); (try (refine gate_guard (by rfl) ?_; dsimp only)); refine Kd.R_lit Kd.string _ 9 ?hg (N := 9) ?hd (xs := ([] : List ByteArray)) (inner := []) (ok := fun _ => True) (okp := fun _ => True) ?hr ?hp (fun _ hk => hk) trivial (Below.refl _ _) (Nat.le_refl _) (by simp) ?_; (case hd => rfl); (case hg => rfl); (case hr => first | (go_simp; done) | (go_simp; rfl)); (case hp => exact (Reps.none _ _)); intro v251 w3 ho4 hb hg_ hnew_; clear hg_ hnew_; (first | rw [← Ny250.out] at ho4 | (simp only [Int.reduceToNat] at ho4; rw [← Ny250.out] at ho4)); have HO252 := aZ (Kd.R_lower ho4 (below_size (lZB HB.out))); replace HB := aZ (below_step (lZB HB.out) hb); clear hb ho4) | ((with_reducible refine gate_dst (N := 11) rfl ?_); (try (refine gate_guard (by rfl) ?_; dsimp only)); refine irange_event rfl (N := 11) rfl (.tmp 10) 9 rfl Try.underlying9 (s := a0) (by first | rfl | (go_simp; done) | (go_simp; rfl)) ?_; intro gb253 hg w5 hbox hb; replace HO252 := aZ (Kd.R_below (lZR HO252.out) hb); have BK253 := aZ (hbox); have GW253 := aZ ((by rw [hg]; exact (below_size (lZB HB.out)) : w.heap.size ≤ gb253)); have GE253 := GW253; replace HB := aZ (below_step (lZB HB.out) hb); clear hb hbox hg; (try simp only [Act.put, sZ1, sZ2, sZ3]))))
 (try simp only [Exit.noGoto_ret, Exit.noGoto_normal, Exit.noGoto_exit])
 go_loopg [5, 6, 7] k (fun kq v5 v6 v7 w' => ∃ (x5_1 : List ByteArray) (x6_1 : Int) (x7_1 : Int) (x254000_1 : Int), v6 = .int .i64 x6_1 ∧ v7 = .int .i64 x7_1 ∧ Aside0 (impl_cutAt.l0 kq a0 a1 x5_1 x6_1 x7_1 x254000_1 a0 = some r) ∧ Aside0 (kq ≤ k) ∧ Aside0 (Kd.R Kd.string 9 w' w.heap.size (fun _ => True) v5 x5_1) ∧ Aside0 (w'.heap[gb253]? = some (.stringIter a0 (itn x254000_1))) ∧ Aside0 (Below w.heap.size w w'))
 case atStart => exact ⟨(y250), (0), (0), (0), tZB, tZB, H', ⟨Nat.le_refl _⟩, ⟨lZR HO252.out⟩, ⟨bkZ BK253.out⟩, ⟨bZ⟩⟩
 case round =>
  clear H'; obtain ⟨x5_1, x6_1, x7_1, x254000_1, rfl, rfl, HA, HK1, HO_5, BK253, HB⟩ := hrel
  cases gk with
  | zero => exact absurd HA.out (by simp [impl_cutAt.l0])
  | succ k1 =>
   have H := HA.out; clear HA; simp only [impl_cutAt.l0] at H
   by_cases c6 : itp x254000_1 < (a0.size : Int)
   rotate_left
   ·rw [if_neg c6] at H; have c6b0 := decide_eq_false c6; clear c6
    by_cases c20 : 0 ≤ x6_1
    rotate_left
    ·rw [if_neg c20] at H; exact absurd H (by simp)
    rw [if_pos c20] at H; have c20b0 := eq_true c20; have c20b1 := decide_eq_true c20; clear c20
    by_cases c21 : x6_1 ≤ (a0.size : Int)
    rotate_left
    ·rw [if_neg c21] at H; exact absurd H (by simp)
    rw [if_pos c21] at H; have c21b0 := eq_true c21; have c21b1 := decide_eq_true c21; clear c21
    by_cases c22 : x5_1.length < 8796093022208
    rotate_left
    ·rw [if_neg c22] at H; exact absurd H (by simp)
    rw [if_pos c22] at H; have LMc22 := Aside0.mk c22; clear c22; obtain ⟨y257, hy257⟩ : ∃ y_ : List ByteArray, y_ = (x5_1 ++ [a0.extract (x6_1 : Int).toNat a0.size]) := ⟨_, rfl⟩; replace H : (some y257) = some r := by first | (rw [hy257]; with_reducible exact H) | (have H2_ := (Option.bind_some _ _).symm.trans H; rw [hy257]; with_reducible exact H2_) | (have H2_ := (Option.bind_some _ _).symm.trans H; with_reducible exact H2_) | with_reducible exact H | (rw [hy257]; exact H) | exact H
    have Ny257 := Aside0.mk hy257; clear hy257; obtain rfl := Option.some.inj H
    go_wp2_with (first | ((with_reducible refine gate_dst (N := 12) rfl ?_); (try (refine gate_guard (by rfl) ?_; dsimp only)); refine iend_event rfl (.tmp 11) rfl (by first | rfl | (go_simp; done) | (go_simp; rfl)) (bkZ BK253.out) (of_decide_eq_false tZE : ¬ (itp x254000_1 < (a0.size : Int))) ?_) | ((with_reducible refine gate_builtin (b := .append) (xs := #[.tmp 48, .tmp 52]) rfl ?_); (try (refine gate_guard (by rfl) ?_; dsimp only)); at_builtin; refine Kd.R_append Kd.string (w0 := w) w.heap.size rfl (.tmp 48) (.tmp 52) 49 9 (.string ⟨#[]⟩) 16 rfl Try.underlying49 info9 rfl (by decide) (by omega) u5 x5_1 (a0.extract (x6_1 : Int).toNat a0.size) [.string (a0.extract (x6_1 : Int).toNat a0.size)] (fun _ => True) (fun _ => False) rfl rfl ?aP (fun _ hk => hk.elim) ?aF ?aO ?aB ?aS ?aL ?_; (case aP => exact rfl); (case aB => exact bZ); (case aF => exact (fun _ _ => trivial)); (case aO => exact (lZR HO_5.out)); (case aS => exact (below_size bZ)); (case aL => have := LMc22.out; omega); intro v258 w23 ho hb hg hat; rw [← Ny257.out] at ho; replace BK253 := aZ (blk_grown (bkZ BK253.out) hg (Kd.R_neI HO_5.out BK253.out)); replace HB := aZ (hb); have HO259 := aZ (ho); clear HO_5; clear ho hb hg hat))
    repeat (go_step3; go_wp2_with (first | ((with_reducible refine gate_dst (N := 12) rfl ?_); (try (refine gate_guard (by rfl) ?_; dsimp only)); refine iend_event rfl (.tmp 11) rfl (by first | rfl | (go_simp; done) | (go_simp; rfl)) (bkZ BK253.out) (of_decide_eq_false tZE : ¬ (itp x254000_1 < (a0.size : Int))) ?_) | ((with_reducible refine gate_builtin (b := .append) (xs := #[.tmp 48, .tmp 52]) rfl ?_); (try (refine gate_guard (by rfl) ?_; dsimp only)); at_builtin; refine Kd.R_append Kd.string (w0 := w) w.heap.size rfl (.tmp 48) (.tmp 52) 49 9 (.string ⟨#[]⟩) 16 rfl Try.underlying49 info9 rfl (by decide) (by omega) u5 x5_1 (a0.extract (x6_1 : Int).toNat a0.size) [.string (a0.extract (x6_1 : Int).toNat a0.size)] (fun _ => True) (fun _ => False) rfl rfl ?aP (fun _ hk => hk.elim) ?aF ?aO ?aB ?aS ?aL ?_; (case aP => exact rfl); (case aB => exact bZ); (case aF => exact (fun _ _ => trivial)); (case aO => exact (lZR HO_5.out)); (case aS => exact (below_size bZ)); (case aL => have := LMc22.out; omega); intro v258 w23 ho hb hg hat; rw [← Ny257.out] at ho; replace BK253 := aZ (blk_grown (bkZ BK253.out) hg (Kd.R_neI HO_5.out BK253.out)); replace HB := aZ (hb); have HO259 := aZ (ho); clear HO_5; clear ho hb hg hat)))
    (try simp only [Exit.noGoto_ret, Exit.noGoto_normal, Exit.noGoto_exit]); go_ret; exact ⟨_, tZC, lZR HO259.out, bZ⟩
   rw [if_pos c6] at H; have c6b0 := decide_eq_true c6; clear c6; have HC7 := Aside0.mk H; clear H
   go_upto_region 7 with (first | ((with_reducible refine gate_dst (N := 12) rfl ?_); (try (refine gate_guard (by rfl) ?_; dsimp only)); refine inext_event rfl (.tmp 11) rfl (by first | rfl | (go_simp; done) | (go_simp; rfl)) (bkZ BK253.out) (of_decide_eq_true tZE : itp x254000_1 < (a0.size : Int)) ?_; intro w8 hbox hg; replace HO_5 := aZ (Kd.R_iter (lZR HO_5.out) (bkZ BK253.out) hg); replace BK253 := aZ (hbox); replace HB := aZ (below_iter bZ GE253.out hg); clear hbox hg))
   (try simp only [Act.put, sZ1, sZ2, sZ3])
   go_cut [26] (fun v26 wc => ∃ (kq : Nat) (x26_6 : Bool), v26 = .bool x26_6 ∧ Aside0 (impl_cutAt.j1 kq a0 a1 x5_1 x6_1 x7_1 (itp x254000_1) x26_6 (itw a0 x254000_1) a0 = some r) ∧ Aside0 (kq ≤ k1) ∧ Aside0 (Kd.R Kd.string 9 wc w.heap.size (fun _ => True) u5 x5_1) ∧ Aside0 (wc.heap[gb253]? = some (.stringIter a0 (itn (itw a0 x254000_1)))) ∧ Aside0 (Below w.heap.size w wc))
   case first =>
    have H := HC7.out; clear HC7
    by_cases c9 : (itp x254000_1) < x7_1
    ·rw [if_pos c9] at H; have c9b0 := decide_eq_true c9; clear c9; (first | rw [c9b0] | (simp only [i64_w, i32_w]; rw [c9b0]) | skip); have H' := Aside0.mk H; clear H; go_wp2
     repeat (go_step3; go_wp2)
     (try simp only [Exit.noGoto_ret, Exit.noGoto_normal, Exit.noGoto_exit]); go_meet
     case rel => exact ⟨_, (true), tZB, H', ⟨by have := HK1.out; first | omega | exact Nat.le_refl _⟩, ⟨lZR HO_5.out⟩, ⟨bkZ BK253.out⟩, ⟨bZ⟩⟩
    rw [if_neg c9] at H; have c9b0 := decide_eq_false c9; clear c9; (first | rw [c9b0] | (simp only [i64_w, i32_w]; rw [c9b0]) | skip); have H' := Aside0.mk H; clear H; go_wp2
    repeat (go_step3; go_wp2)
    (try simp only [Exit.noGoto_ret, Exit.noGoto_normal, Exit.noGoto_exit]); go_meet
    case rel => exact ⟨_, (decide ((wrap64 ((a0.size : Int) - (itp x254000_1))) < (a1.size : Int))), tZB, H', ⟨by have := HK1.out; first | omega | exact Nat.le_refl _⟩, ⟨lZR HO_5.out⟩, ⟨bkZ BK253.out⟩, ⟨bZ⟩⟩
   case rest =>
    clear HC7; (try clear c6 c6b0); obtain ⟨kq, x26_6, rfl, HA, HJ6, HO_5, BK253, HB⟩ := hcut
    cases kq with
    | zero => exact absurd HA.out (by simp [impl_cutAt.j1])
    | succ kj6 =>
     have H := HA.out; clear HA; simp only [impl_cutAt.j1] at H
     by_cases c10 : x26_6 = true
     ·subst c10; rw [if_pos rfl] at H; have H' := Aside0.mk H; clear H; go_wp2
      repeat (go_step3; go_wp2)
      (try simp only [Exit.noGoto_ret, Exit.noGoto_normal, Exit.noGoto_exit])
      go_roundg kj6
      case measure => have := HK1.out; have := HJ6.out; omega
      case rel => exact ⟨(x5_1), (x6_1), (x7_1), ((itw a0 x254000_1)), tZB, tZB, H', ⟨by have := HK1.out; have := HJ6.out; omega⟩, ⟨lZR HO_5.out⟩, ⟨bkZ BK253.out⟩, ⟨bZ⟩⟩
     replace c10 := Bool.eq_false_iff.mpr c10; subst c10; rw [if_neg Bool.false_ne_true] at H
     by_cases c11 : 0 ≤ (itp x254000_1)
     rotate_left
     ·rw [if_neg c11] at H; exact absurd H (by simp)
     rw [if_pos c11] at H; have c11b0 := eq_true c11; have c11b1 := decide_eq_true c11; clear c11
     by_cases c12 : (itp x254000_1) ≤ (wrap64 ((itp x254000_1) + (a1.size : Int)))
     rotate_left
     ·rw [if_neg c12] at H; exact absurd H (by simp)
     rw [if_pos c12] at H; have c12b0 := eq_true c12; have c12b1 := decide_eq_true c12
     by_cases c13 : (wrap64 ((itp x254000_1) + (a1.size : Int))) ≤ (a0.size : Int)
     rotate_left
     ·rw [if_neg c13] at H; exact absurd H (by simp)
     rw [if_pos c13] at H; have c13b0 := eq_true c13; have c13b1 := decide_eq_true c13
     by_cases c14 : (a0.extract ((itp x254000_1) : Int).toNat ((wrap64 ((itp x254000_1) + (a1.size : Int))) : Int).toNat).toList = a1.toList
     rotate_left
     ·rw [if_neg c14] at H; have c14b0 : ((a0.extract ((itp x254000_1) : Int).toNat ((wrap64 ((itp x254000_1) + (a1.size : Int))) : Int).toNat).toList == a1.toList) = false := beq_eq_false_iff_ne.mpr c14; have c14b1 : ((a0.extract ((itp x254000_1) : Int).toNat ((wrap64 ((itp x254000_1) + (a1.size : Int))) : Int).toNat).toList != a1.toList) = true := bne_iff_ne.mpr c14; have H' := Aside0.mk H; clear H; go_wp2
      repeat (go_step3; go_wp2)
      (try simp only [Exit.noGoto_ret, Exit.noGoto_normal, Exit.noGoto_exit])
      go_roundg kj6
      case measure => have := HK1.out; have := HJ6.out; omega
      case rel => exact ⟨(x5_1), (x6_1), (x7_1), ((itw a0 x254000_1)), tZB, tZB, H', ⟨by have := HK1.out; have := HJ6.out; omega⟩, ⟨lZR HO_5.out⟩, ⟨bkZ BK253.out⟩, ⟨bZ⟩⟩
     rw [if_pos c14] at H; have c14b0 : ((a0.extract ((itp x254000_1) : Int).toNat ((wrap64 ((itp x254000_1) + (a1.size : Int))) : Int).toNat).toList == a1.toList) = true := beq_iff_eq.mpr c14; have c14b1 : ((a0.extract ((itp x254000_1) : Int).toNat ((wrap64 ((itp x254000_1) + (a1.size : Int))) : Int).toNat).toList != a1.toList) = false := bne_eq_false_iff_eq.mpr c14; clear c14
     by_cases c15 : 0 ≤ x6_1
     rotate_left
     ·rw [if_neg c15] at H; exact absurd H (by simp)
     rw [if_pos c15] at H; have c15b0 := eq_true c15; have c15b1 := decide_eq_true c15; clear c15
     by_cases c16 : x6_1 ≤ (itp x254000_1)
     rotate_left
     ·rw [if_neg c16] at H; exact absurd H (by simp)
     rw [if_pos c16] at H; have c16b0 := eq_true c16; have c16b1 := decide_eq_true c16; clear c16
     by_cases c17 : (itp x254000_1) ≤ (a0.size : Int)
     rotate_left
     ·rw [if_neg c17] at H; exact absurd H (by simp)
     rw [if_pos c17] at H; have c17b0 := eq_true c17; have c17b1 := decide_eq_true c17; clear c17
     by_cases c18 : x5_1.length < 8796093022208
     rotate_left
     ·rw [if_neg c18] at H; exact absurd H (by simp)
     rw [if_pos c18] at H; have LMc18 := Aside0.mk c18; clear c18; obtain ⟨y254, hy254⟩ : ∃ y_ : List ByteArray, y_ = (x5_1 ++ [a0.extract (x6_1 : Int).toNat ((itp x254000_1) : Int).toNat]) := ⟨_, rfl⟩; replace H : (impl_cutAt.l0 kj6 a0 a1 y254 (wrap64 ((itp x254000_1) + (a1.size : Int))) (wrap64 ((itp x254000_1) + (a1.size : Int))) (itw a0 x254000_1) a0) = some r := by first | (rw [hy254]; with_reducible exact H) | (have H2_ := (Option.bind_some _ _).symm.trans H; rw [hy254]; with_reducible exact H2_) | (have H2_ := (Option.bind_some _ _).symm.trans H; with_reducible exact H2_) | with_reducible exact H | (rw [hy254]; exact H) | exact H
     have Ny254 := Aside0.mk hy254; clear hy254; have H' := Aside0.mk H; clear H
     go_wp2_with (first | ((with_reducible refine gate_builtin (b := .append) (xs := #[.tmp 36, .tmp 41]) rfl ?_); (try (refine gate_guard (by rfl) ?_; dsimp only)); at_builtin; refine Kd.R_append Kd.string (w0 := w) w.heap.size rfl (.tmp 36) (.tmp 41) 49 9 (.string ⟨#[]⟩) 16 rfl Try.underlying49 info9 rfl (by decide) (by omega) u5 x5_1 (a0.extract (x6_1 : Int).toNat ((itp x254000_1) : Int).toNat) [.string (a0.extract (x6_1 : Int).toNat ((itp x254000_1) : Int).toNat)] (fun _ => True) (fun _ => False) rfl rfl ?aP (fun _ hk => hk.elim) ?aF ?aO ?aB ?aS ?aL ?_; (case aP => exact rfl); (case aB => exact bZ); (case aF => exact (fun _ _ => trivial)); (case aO => exact (lZR HO_5.out)); (case aS => exact (below_size bZ)); (case aL => have := LMc18.out; omega); intro v255 w19 ho hb hg hat; rw [← Ny254.out] at ho; replace BK253 := aZ (blk_grown (bkZ BK253.out) hg (Kd.R_neI HO_5.out BK253.out)); replace HB := aZ (hb); have HO256 := aZ (ho); clear HO_5; clear ho hb hg hat))
     repeat (go_step3; go_wp2_with (first | ((with_reducible refine gate_builtin (b := .append) (xs := #[.tmp 36, .tmp 41]) rfl ?_); (try (refine gate_guard (by rfl) ?_; dsimp only)); at_builtin; refine Kd.R_append Kd.string (w0 := w) w.heap.size rfl (.tmp 36) (.tmp 41) 49 9 (.string ⟨#[]⟩) 16 rfl Try.underlying49 info9 rfl (by decide) (by omega) u5 x5_1 (a0.extract (x6_1 : Int).toNat ((itp x254000_1) : Int).toNat) [.string (a0.extract (x6_1 : Int).toNat ((itp x254000_1) : Int).toNat)] (fun _ => True) (fun _ => False) rfl rfl ?aP (fun _ hk => hk.elim) ?aF ?aO ?aB ?aS ?aL ?_; (case aP => exact rfl); (case aB => exact bZ); (case aF => exact (fun _ _ => trivial)); (case aO => exact (lZR HO_5.out)); (case aS => exact (below_size bZ)); (case aL => have := LMc18.out; omega); intro v255 w19 ho hb hg hat; rw [← Ny254.out] at ho; replace BK253 := aZ (blk_grown (bkZ BK253.out) hg (Kd.R_neI HO_5.out BK253.out)); replace HB := aZ (hb); have HO256 := aZ (ho); clear HO_5; clear ho hb hg hat)))
     (try simp only [Exit.noGoto_ret, Exit.noGoto_normal, Exit.noGoto_exit])
     go_roundg kj6
     case measure => have := HK1.out; have := HJ6.out; omega
     case rel => exact ⟨(y254), (wrap64 ((itp x254000_1) + (a1.size : Int))), (wrap64 ((itp x254000_1) + (a1.size : Int))), ((itw a0 x254000_1)), tZB, tZB, H', ⟨by have := HK1.out; have := HJ6.out; omega⟩, ⟨lZR HO256.out⟩, ⟨bkZ BK253.out⟩, ⟨bZ⟩⟩
mutual
def impl_digits.l0 : Nat → ByteArray → Int → Int → Int → Option (Int × Int)
  | 0, _, _, _, _ => none
  | k + 1, x0, x1, x6, x7 => if x7 < (x0.size : Int) then (if 0 ≤ x7 then (if (bt x0 x7) ≥ 48 then (impl_digits.j1 k x0 x1 x6 x7 (decide ((bt x0 x7) ≤ 57))) else (impl_digits.j1 k x0 x1 x6 x7 false)) else (none)) else (impl_digits.j1 k x0 x1 x6 x7 false)
def impl_digits.j1 : Nat → ByteArray → Int → Int → Int → Bool → Option (Int × Int)
  | 0, _, _, _, _, _ => none
  | k + 1, x0, x1, x6, x7, x24 => if x24 = true then (if (wrap64 (x7 - x1)) < 16 then (if 0 ≤ x7 then (if x7 < (x0.size : Int) then (impl_digits.l0 k x0 x1 (wrap64 ((wrap64 (x6 * 10)) + (((bt x0 x7) - 48) % 256))) (wrap64 (x7 + 1))) else (none)) else (none)) else (impl_digits.l0 k x0 x1 x6 (wrap64 (x7 + 1)))) else (some (x6, x7))
end
def impl_digits.f (k : Nat) (a0 : ByteArray) (a1 : Int) : Option (Int × Int) := impl_digits.l0 k a0 a1 0 a1
theorem impl_digits.mono_l : ∀ k, (∀ y0 y1 y2 y3, LeO (impl_digits.l0 k y0 y1 y2 y3) (impl_digits.l0 (k + 1) y0 y1 y2 y3)) ∧ (∀ y0 y1 y2 y3 y4, LeO (impl_digits.j1 k y0 y1 y2 y3 y4) (impl_digits.j1 (k + 1) y0 y1 y2 y3 y4))
  | 0 => ⟨fun _ _ _ _ r h => by simp [impl_digits.l0] at h, fun _ _ _ _ _ r h => by simp [impl_digits.j1] at h⟩
  | k + 1 => by
    obtain ⟨ih0, ih1⟩ := impl_digits.mono_l k
    refine ⟨?_, ?_⟩
    · intro y0 y1 y2 y3
      unfold impl_digits.l0
      repeat' first
      | (with_reducible exact ih0 _ _ _ _)
      | (with_reducible exact ih1 _ _ _ _ _)
      | (with_reducible exact LeO.refl _)
      | (with_reducible exact LeO.none _)
      | (with_reducible refine LeO.ite ?_ ?_)
      | (with_reducible refine LeO.bind ?_ (fun _ => ?_))
      | exact ih0 _ _ _ _
      | exact ih1 _ _ _ _ _
      | exact LeO.none _
      | refine LeO.ite ?_ ?_
      | refine LeO.bind ?_ (fun _ => ?_)
    · intro y0 y1 y2 y3 y4
      unfold impl_digits.j1
      repeat' first
      | (with_reducible exact ih0 _ _ _ _)
      | (with_reducible exact ih1 _ _ _ _ _)
      | (with_reducible exact LeO.refl _)
      | (with_reducible exact LeO.none _)
      | (with_reducible refine LeO.ite ?_ ?_)
      | (with_reducible refine LeO.bind ?_ (fun _ => ?_))
      | exact ih0 _ _ _ _
      | exact ih1 _ _ _ _ _
      | exact LeO.none _
      | refine LeO.ite ?_ ?_
      | refine LeO.bind ?_ (fun _ => ?_)
theorem impl_digits.mono : ∀ a0 a1 k, LeO (impl_digits.f k a0 a1) (impl_digits.f (k + 1) a0 a1) := by
 intro a0 a1 k
 obtain ⟨ih0, ih1⟩ := impl_digits.mono_l k
 unfold impl_digits.f
 repeat' first
     | (with_reducible exact ih0 _ _ _ _)
     | (with_reducible exact ih1 _ _ _ _ _)
     | (with_reducible exact LeO.refl _)
     | (with_reducible exact LeO.none _)
     | (with_reducible refine LeO.ite ?_ ?_)
     | (with_reducible refine LeO.bind ?_ (fun _ => ?_))
     | exact ih0 _ _ _ _
     | exact ih1 _ _ _ _ _
     | exact LeO.none _
     | refine LeO.ite ?_ ?_
     | refine LeO.bind ?_ (fun _ => ?_)
set_option maxHeartbeats 8000000 in
set_option maxRecDepth 100000 in
theorem impl_digits.calls (k : Nat) (a0 : ByteArray) (a1 : Int) (r1 : Int) (r2 : Int) (w : World) (h : impl_digits.f k a0 a1 = some (r1, r2)) :
    Calls Try.prog 91 #[.string a0, .int .i64 a1] w fun e w' => e = .returned (.tuple #[.int .i64 r1, .int .i64 r2]) ∧ Drawn0 w w' := by
 have H : (impl_digits.l0 k a0 a1 0 a1) = some (r1, r2) := h; clear h; have H' := Aside0.mk H; clear H; go_enter Try.func91, Try.ntmps91; go_wp2
 go_loopg [6, 7] k (fun kq v6 v7 w' => ∃ (x6_1 : Int) (x7_1 : Int), v6 = .int .i64 x6_1 ∧ v7 = .int .i64 x7_1 ∧ Aside0 (impl_digits.l0 kq a0 a1 x6_1 x7_1 = some (r1, r2)) ∧ Aside0 (kq ≤ k) ∧ Drawn0 w w')
 case atStart => exact ⟨(0), (a1), tZB, tZB, H', ⟨Nat.le_refl _⟩, tZD⟩
 case round =>
  clear H'; obtain ⟨x6_1, x7_1, rfl, rfl, HA, HK1, ⟨m1, rfl⟩⟩ := hrel
  cases gk with
  | zero => exact absurd HA.out (by simp [impl_digits.l0])
  | succ k1 =>
   have H := HA.out; clear HA; simp only [impl_digits.l0] at H; have HC3 := Aside0.mk H; clear H
   go_upto_region 3 with (fail)
   go_cut [24] (fun v24 wc => ∃ (kq : Nat) (x24_2 : Bool), v24 = .bool x24_2 ∧ Aside0 (impl_digits.j1 kq a0 a1 x6_1 x7_1 x24_2 = some (r1, r2)) ∧ Aside0 (kq ≤ k1) ∧ Drawn0 w wc)
   case first =>
    have H := HC3.out; clear HC3
    by_cases c4 : x7_1 < (a0.size : Int)
    rotate_left
    ·rw [if_neg c4] at H; have c4b0 := decide_eq_false c4; clear c4; (first | rw [c4b0] | (simp only [i64_w, i32_w]; rw [c4b0]) | skip); have H' := Aside0.mk H; clear H; go_wp2; go_meet
     case rel => exact ⟨_, (false), tZB, H', ⟨by have := HK1.out; first | omega | exact Nat.le_refl _⟩, tZD⟩
    rw [if_pos c4] at H; have c4b0 := decide_eq_true c4; clear c4; (first | rw [c4b0] | (simp only [i64_w, i32_w]; rw [c4b0]) | skip)
    by_cases c5 : 0 ≤ x7_1
    rotate_left
    ·rw [if_neg c5] at H; exact absurd H (by simp)
    rw [if_pos c5] at H; have c5b0 := decide_eq_true c5; clear c5
    by_cases c7 : (bt a0 x7_1) ≥ 48
    rotate_left
    ·rw [if_neg c7] at H; have c7b0 : decide (48 ≤ (bt a0 x7_1)) = false := decide_eq_false c7; clear c7; have H' := Aside0.mk H; clear H; have p6 : 0 ≤ (x7_1 : Int) := of_decide_eq_true tZE; have q6 : x7_1 < (a0.size : Int) := of_decide_eq_true tZE; have hx6 := bt_at a0 x7_1; replace p6 := eq_true p6; replace q6 := eq_true q6; go_wp2; go_meet
     case rel => exact ⟨_, (false), tZB, H', ⟨by have := HK1.out; first | omega | exact Nat.le_refl _⟩, tZD⟩
    rw [if_pos c7] at H; have c7b0 : decide (48 ≤ (bt a0 x7_1)) = true := decide_eq_true c7; clear c7; have H' := Aside0.mk H; clear H; have p6 : 0 ≤ (x7_1 : Int) := of_decide_eq_true tZE; have q6 : x7_1 < (a0.size : Int) := of_decide_eq_true tZE; have hx6 := bt_at a0 x7_1; replace p6 := eq_true p6; replace q6 := eq_true q6; have p8 : 0 ≤ (x7_1 : Int) := of_decide_eq_true tZE; have q8 : x7_1 < (a0.size : Int) := of_decide_eq_true tZE; have hx8 := bt_at a0 x7_1; replace p8 := eq_true p8; replace q8 := eq_true q8; go_wp2; go_meet
    case rel => exact ⟨_, (decide ((bt a0 x7_1) ≤ 57)), tZB, H', ⟨by have := HK1.out; first | omega | exact Nat.le_refl _⟩, tZD⟩
   case rest =>
    clear HC3; obtain ⟨kq, x24_2, rfl, HA, HJ2, ⟨mc2, rfl⟩⟩ := hcut
    cases kq with
    | zero => exact absurd HA.out (by simp [impl_digits.j1])
    | succ kj2 =>
     have H := HA.out; clear HA; simp only [impl_digits.j1] at H
     by_cases c9 : x24_2 = true
     rotate_left
     ·replace c9 := Bool.eq_false_iff.mpr c9; subst c9; rw [if_neg Bool.false_ne_true] at H; simp only [Option.some.injEq, Prod.mk.injEq] at H; obtain ⟨rfl, rfl⟩ := H; go_wp2; go_ret2; exact ⟨tZB, tZD⟩
     subst c9; rw [if_pos rfl] at H
     by_cases c10 : (wrap64 (x7_1 - a1)) < 16
     rotate_left
     ·rw [if_neg c10] at H; have c10b0 := decide_eq_false c10; clear c10; have H' := Aside0.mk H; clear H; go_wp2
      go_roundg kj2
      case measure => have := HK1.out; have := HJ2.out; omega
      case rel => exact ⟨(x6_1), (wrap64 (x7_1 + 1)), tZB, tZB, H', ⟨by have := HK1.out; have := HJ2.out; omega⟩, tZD⟩
     rw [if_pos c10] at H; have c10b0 := decide_eq_true c10; clear c10
     by_cases c11 : 0 ≤ x7_1
     rotate_left
     ·rw [if_neg c11] at H; exact absurd H (by simp)
     rw [if_pos c11] at H; have c11b0 := decide_eq_true c11; clear c11
     by_cases c12 : x7_1 < (a0.size : Int)
     rotate_left
     ·rw [if_neg c12] at H; exact absurd H (by simp)
     rw [if_pos c12] at H; have c12b0 := decide_eq_true c12; clear c12; have H' := Aside0.mk H; clear H; have p13 : 0 ≤ (x7_1 : Int) := of_decide_eq_true tZE; have q13 : x7_1 < (a0.size : Int) := of_decide_eq_true tZE; have hx13 := bt_at a0 x7_1; replace p13 := eq_true p13; replace q13 := eq_true q13; go_wp2
     go_roundg kj2
     case measure => have := HK1.out; have := HJ2.out; omega
     case rel => exact ⟨(wrap64 ((wrap64 (x6_1 * 10)) + (((bt a0 x7_1) - 48) % 256))), (wrap64 (x7_1 + 1)), tZB, tZB, H', ⟨by have := HK1.out; have := HJ2.out; omega⟩, tZD⟩
end Go.Proofs.Ytfkakbpjddgmeaa.PFnFlowBack
