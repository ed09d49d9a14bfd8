import Derived.Test.YtmpknbdbichdiaaBPFnExactReadBankx0
import Derived.Test.YtmpknbdbichdiaaBPFnExactReadBankx10
import Derived.Test.YtmpknbdbichdiaaBSlimWords
namespace Go.Proofs.Ytmpknbdbichdiaa.PFnExactReadBank
open Go.Proofs.Ytmpknbdbichdiaa.SlimWords
open Go.RowKit Go.Proofs.YtmpknbdbichdiaaW.PrintWords Go.Proofs.YtmpknbdbichdiaaW.PrintLast Go.Proofs.YtmpknbdbichdiaaW.PrintMore Go.Proofs.Ytmpknbdbichdiaa.MapWords Go.Proofs.Ytmpknbdbichdiaa.IterWords Go.Proofs.Ytmpknbdbichdiaa.MarkWords
attribute [local go_sem] max2_int min2_int max_two min_two max_three min_three max_four min_four
set_option linter.unusedVariables false
set_option linter.unusedSimpArgs false
mutual
def impl_ShowMoney.j0 : Nat → Int → Int → Bool → Option (ByteArray)
  | 0, _, _, _ => none
  | k + 1, x0, x1, x14 => if x14 = true then (some (⟨#[]⟩ : ByteArray)) else (if x0 < 0 then (impl_ShowMoney.j1 k (wrap64 (-x0)) x1 (⟨#[45]⟩ : ByteArray)) else (impl_ShowMoney.j1 k x0 x1 (⟨#[]⟩ : ByteArray)))
def impl_ShowMoney.j1 : Nat → Int → Int → ByteArray → Option (ByteArray)
  | 0, _, _, _ => none
  | k + 1, x0, x1, x5 => (impl_decimal.f k x0).bind fun t236 => (impl_ShowMoney.l0 k x1 x5 t236)
def impl_ShowMoney.l0 : Nat → Int → ByteArray → ByteArray → Option (ByteArray)
  | 0, _, _, _ => none
  | k + 1, x1, x5, x6 => if (x6.size : Int) ≤ x1 then (if 1 + x6.size ≤ 9223372036854775807 then (impl_ShowMoney.l0 k x1 x5 ((⟨#[48]⟩ : ByteArray) ++ x6)) else (none)) else (if x1 = 0 then (if x5.size + x6.size ≤ 9223372036854775807 then (some (x5 ++ x6)) else (none)) else (if 0 ≤ (wrap64 ((x6.size : Int) - x1)) then (if (wrap64 ((x6.size : Int) - x1)) ≤ (x6.size : Int) then (if x5.size + (x6.extract 0 ((wrap64 ((x6.size : Int) - x1)) : Int).toNat).size ≤ 9223372036854775807 then (if (x5 ++ (x6.extract 0 ((wrap64 ((x6.size : Int) - x1)) : Int).toNat)).size + 1 ≤ 9223372036854775807 then (if ((x5 ++ (x6.extract 0 ((wrap64 ((x6.size : Int) - x1)) : Int).toNat)) ++ (⟨#[46]⟩ : ByteArray)).size + (x6.extract ((wrap64 ((x6.size : Int) - x1)) : Int).toNat x6.size).size ≤ 9223372036854775807 then (some (((x5 ++ (x6.extract 0 ((wrap64 ((x6.size : Int) - x1)) : Int).toNat)) ++ (⟨#[46]⟩ : ByteArray)) ++ (x6.extract ((wrap64 ((x6.size : Int) - x1)) : Int).toNat x6.size))) else (none)) else (none)) else (none)) else (none)) else (none)))
end
def impl_ShowMoney.f (k : Nat) (a0 : Int) (a1 : Int) : Option (ByteArray) := (impl_amount.f a0).bind fun t234 => (if t234 = true then ((impl_between.f a1 0 6).bind fun t235 => (impl_ShowMoney.j0 k a0 a1 (!t235))) else (impl_ShowMoney.j0 k a0 a1 true))
theorem impl_ShowMoney.mono_l : ∀ k, (∀ y0 y1 y2, LeO (impl_ShowMoney.j0 k y0 y1 y2) (impl_ShowMoney.j0 (k + 1) y0 y1 y2)) ∧ (∀ y0 y1 y2, LeO (impl_ShowMoney.j1 k y0 y1 y2) (impl_ShowMoney.j1 (k + 1) y0 y1 y2)) ∧ (∀ y0 y1 y2, LeO (impl_ShowMoney.l0 k y0 y1 y2) (impl_ShowMoney.l0 (k + 1) y0 y1 y2))
  | 0 => ⟨fun _ _ _ r h => by simp [impl_ShowMoney.j0] at h, fun _ _ _ r h => by simp [impl_ShowMoney.j1] at h, fun _ _ _ r h => by simp [impl_ShowMoney.l0] at h⟩
  | k + 1 => by
    obtain ⟨ih0, ih1, ih2⟩ := impl_ShowMoney.mono_l k
    refine ⟨?_, ?_, ?_⟩
    · intro y0 y1 y2
      unfold impl_ShowMoney.j0
      repeat' first
      | (with_reducible exact ih0 _ _ _)
      | (with_reducible exact ih1 _ _ _)
      | (with_reducible exact ih2 _ _ _)
      | (with_reducible exact impl_decimal.mono _ _)
      | (with_reducible exact LeO.refl _)
      | (with_reducible exact LeO.none _)
      | (with_reducible refine LeO.ite ?_ ?_)
      | (with_reducible refine LeO.bind ?_ (fun _ => ?_))
      | exact ih0 _ _ _
      | exact ih1 _ _ _
      | exact ih2 _ _ _
      | exact impl_decimal.mono _ _
      | exact LeO.none _
      | refine LeO.ite ?_ ?_
      | refine LeO.bind ?_ (fun _ => ?_)
    · intro y0 y1 y2
      unfold impl_ShowMoney.j1
      repeat' first
      | (with_reducible exact ih0 _ _ _)
      | (with_reducible exact ih1 _ _ _)
      | (with_reducible exact ih2 _ _ _)
      | (with_reducible exact impl_decimal.mono _ _)
      | (with_reducible exact LeO.refl _)
      | (with_reducible exact LeO.none _)
      | (with_reducible refine LeO.ite ?_ ?_)
      | (with_reducible refine LeO.bind ?_ (fun _ => ?_))
      | exact ih0 _ _ _
      | exact ih1 _ _ _
      | exact ih2 _ _ _
      | exact impl_decimal.mono _ _
      | exact LeO.none _
      | refine LeO.ite ?_ ?_
      | refine LeO.bind ?_ (fun _ => ?_)
    · intro y0 y1 y2
      unfold impl_ShowMoney.l0
      repeat' first
      | (with_reducible exact ih0 _ _ _)
      | (with_reducible exact ih1 _ _ _)
      | (with_reducible exact ih2 _ _ _)
      | (with_reducible exact impl_decimal.mono _ _)
      | (with_reducible exact LeO.refl _)
      | (with_reducible exact LeO.none _)
      | (with_reducible refine LeO.ite ?_ ?_)
      | (with_reducible refine LeO.bind ?_ (fun _ => ?_))
      | exact ih0 _ _ _
      | exact ih1 _ _ _
      | exact ih2 _ _ _
      | exact impl_decimal.mono _ _
      | exact LeO.none _
      | refine LeO.ite ?_ ?_
      | refine LeO.bind ?_ (fun _ => ?_)
theorem impl_ShowMoney.mono : ∀ a0 a1 k, LeO (impl_ShowMoney.f k a0 a1) (impl_ShowMoney.f (k + 1) a0 a1) := by
 intro a0 a1 k
 obtain ⟨ih0, ih1, ih2⟩ := impl_ShowMoney.mono_l k
 unfold impl_ShowMoney.f
 repeat' first
     | (with_reducible exact ih0 _ _ _)
     | (with_reducible exact ih1 _ _ _)
     | (with_reducible exact ih2 _ _ _)
     | (with_reducible exact impl_decimal.mono _ _)
     | (with_reducible exact LeO.refl _)
     | (with_reducible exact LeO.none _)
     | (with_reducible refine LeO.ite ?_ ?_)
     | (with_reducible refine LeO.bind ?_ (fun _ => ?_))
     | exact ih0 _ _ _
     | exact ih1 _ _ _
     | exact ih2 _ _ _
     | exact impl_decimal.mono _ _
     | exact LeO.none _
     | refine LeO.ite ?_ ?_
     | refine LeO.bind ?_ (fun _ => ?_)
set_option maxHeartbeats 8000000 in
set_option maxRecDepth 100000 in
theorem impl_ShowMoney.calls (k : Nat) (a0 : Int) (a1 : Int) (r : ByteArray) (w : World) (h : impl_ShowMoney.f k a0 a1 = some r) :
    Calls Try.prog 100 #[.int .i64 a0, .int .i64 a1] w fun e w' => e = .returned (.string r) ∧ Below w.heap.size w w' := by
 have HB := aZ (Below.refl w.heap.size w)
 have H : ((impl_amount.f a0).bind fun t234 => (if t234 = true then ((impl_between.f a1 0 6).bind fun t235 => (impl_ShowMoney.j0 k a0 a1 (!t235))) else (impl_ShowMoney.j0 k a0 a1 true))) = some r := h
 clear h
 have HC3 := Aside0.mk H
 clear H
 go_enter Try.func100, Try.ntmps100
 go_upto_region 1 with (fail)
 repeat (go_quiet (fail); go_upto_region 1 with (fail))
 go_cut [14] (fun v14 wc => ∃ (kq : Nat) (x14_2 : Bool), v14 = .bool x14_2 ∧ Aside0 (impl_ShowMoney.j0 kq a0 a1 x14_2 = some r) ∧ Aside0 (kq ≤ k) ∧ Aside0 (Below w.heap.size w wc))
 case first =>
  have H := HC3.out
  clear HC3
  replace H := Option.bind_eq_some_iff.mp H
  obtain ⟨t234, A40, H⟩ := H
  replace H : (if t234 = true then ((impl_between.f a1 0 6).bind fun t235 => (impl_ShowMoney.j0 k a0 a1 (!t235))) else (impl_ShowMoney.j0 k a0 a1 true)) = some r := H
  have A4 := Aside0.mk A40
  clear A40
  by_cases c5 : t234 = true
  rotate_left
  ·replace c5 := Bool.eq_false_iff.mpr c5
   subst c5
   have H1 : (impl_ShowMoney.j0 k a0 a1 true) = some r := by rw [if_neg (show ¬ (false = true) by decide)] at H; exact H
   clear H
   have H := H1
   clear H1
   have H' := Aside0.mk H
   clear H
   go_wp2_with (first | (go_at_call 65; (with_reducible refine (impl_amount.calls a0 false _ A4.out).mono ?_); rintro e w' ⟨rfl, ⟨nd, rfl⟩⟩; (try first | exact ⟨rfl, _, World.drewN_drewN _ _ _⟩ | exact ⟨rfl, _, Eq.trans (World.drewN_drewN _ _ _) (congrArg (World.drewN _) (Nat.add_assoc _ _ _))⟩)))
   repeat (go_quiet (first | (go_at_call 65; (with_reducible refine (impl_amount.calls a0 false _ A4.out).mono ?_); rintro e w' ⟨rfl, ⟨nd, rfl⟩⟩; (try first | exact ⟨rfl, _, World.drewN_drewN _ _ _⟩ | exact ⟨rfl, _, Eq.trans (World.drewN_drewN _ _ _) (congrArg (World.drewN _) (Nat.add_assoc _ _ _))⟩))); try go_wp2_with (first | (go_at_call 65; (with_reducible refine (impl_amount.calls a0 false _ A4.out).mono ?_); rintro e w' ⟨rfl, ⟨nd, rfl⟩⟩; (try first | exact ⟨rfl, _, World.drewN_drewN _ _ _⟩ | exact ⟨rfl, _, Eq.trans (World.drewN_drewN _ _ _) (congrArg (World.drewN _) (Nat.add_assoc _ _ _))⟩))))
   go_meet
   case rel => exact ⟨_, (true), tZB, H', ⟨by first | omega | exact Nat.le_refl _⟩, ⟨bZ⟩⟩
  subst c5
  have H1 : ((impl_between.f a1 0 6).bind fun t235 => (impl_ShowMoney.j0 k a0 a1 (!t235))) = some r := by rw [if_pos rfl] at H; exact H
  clear H
  have H := H1
  clear H1
  replace H := Option.bind_eq_some_iff.mp H
  obtain ⟨t235, A60, H⟩ := H
  replace H : (impl_ShowMoney.j0 k a0 a1 (!t235)) = some r := H
  have A6 := Aside0.mk A60
  clear A60
  have H' := Aside0.mk H
  clear H
  go_wp2_with (first | (go_at_call 65; (with_reducible refine (impl_amount.calls a0 true _ A4.out).mono ?_); rintro e w' ⟨rfl, ⟨nd, rfl⟩⟩; (try first | exact ⟨rfl, _, World.drewN_drewN _ _ _⟩ | exact ⟨rfl, _, Eq.trans (World.drewN_drewN _ _ _) (congrArg (World.drewN _) (Nat.add_assoc _ _ _))⟩)) | (go_at_call 71; (with_reducible refine (impl_between.calls a1 0 6 t235 _ A6.out).mono ?_); rintro e w' ⟨rfl, ⟨nd, rfl⟩⟩; (try first | exact ⟨rfl, _, World.drewN_drewN _ _ _⟩ | exact ⟨rfl, _, Eq.trans (World.drewN_drewN _ _ _) (congrArg (World.drewN _) (Nat.add_assoc _ _ _))⟩)))
  repeat (go_quiet (first | (go_at_call 65; (with_reducible refine (impl_amount.calls a0 true _ A4.out).mono ?_); rintro e w' ⟨rfl, ⟨nd, rfl⟩⟩; (try first | exact ⟨rfl, _, World.drewN_drewN _ _ _⟩ | exact ⟨rfl, _, Eq.trans (World.drewN_drewN _ _ _) (congrArg (World.drewN _) (Nat.add_assoc _ _ _))⟩)) | (go_at_call 71; (with_reducible refine (impl_between.calls a1 0 6 t235 _ A6.out).mono ?_); rintro e w' ⟨rfl, ⟨nd, rfl⟩⟩; (try first | exact ⟨rfl, _, World.drewN_drewN _ _ _⟩ | exact ⟨rfl, _, Eq.trans (World.drewN_drewN _ _ _) (congrArg (World.drewN _) (Nat.add_assoc _ _ _))⟩))); try go_wp2_with (first | (go_at_call 65; (with_reducible refine (impl_amount.calls a0 true _ A4.out).mono ?_); rintro e w' ⟨rfl, ⟨nd, rfl⟩⟩; (try first | exact ⟨rfl, _, World.drewN_drewN _ _ _⟩ | exact ⟨rfl, _, Eq.trans (World.drewN_drewN _ _ _) (congrArg (World.drewN _) (Nat.add_assoc _ _ _))⟩)) | (go_at_call 71; (with_reducible refine (impl_between.calls a1 0 6 t235 _ A6.out).mono ?_); rintro e w' ⟨rfl, ⟨nd, rfl⟩⟩; (try first | exact ⟨rfl, _, World.drewN_drewN _ _ _⟩ | exact ⟨rfl, _, Eq.trans (World.drewN_drewN _ _ _) (congrArg (World.drewN _) (Nat.add_assoc _ _ _))⟩))))
  go_meet
  case rel => exact ⟨_, (!t235), tZB, H', ⟨by first | omega | exact Nat.le_refl _⟩, ⟨bZ⟩⟩
 case rest =>
  clear HC3
  try clear c1
  try clear p2
  try clear c5
  obtain ⟨kq, x14_2, rfl, HA, HJ2, HB⟩ := hcut
  cases kq with
  | zero => exact absurd HA.out (by simp [impl_ShowMoney.j0])
  | succ kj2 =>
   have H := HA.out
   clear HA
   simp only [impl_ShowMoney.j0] at H
   by_cases c7 : x14_2 = true
   ·subst c7
    have H1 : (some (⟨#[]⟩ : ByteArray)) = some r := by rw [if_pos rfl] at H; exact H
    clear H
    have H := H1
    clear H1
    obtain rfl := Option.some.inj H
    go_wp2
    repeat (go_quiet (fail); try go_wp2)
    go_ret
    exact ⟨tZC, bZ⟩
   replace c7 := Bool.eq_false_iff.mpr c7
   subst c7
   have H1 : (if a0 < 0 then (impl_ShowMoney.j1 kj2 (wrap64 (-a0)) a1 (⟨#[45]⟩ : ByteArray)) else (impl_ShowMoney.j1 kj2 a0 a1 (⟨#[]⟩ : ByteArray))) = some r := by rw [if_neg (show ¬ (false = true) by decide)] at H; exact H
   clear H
   have H := H1
   clear H1
   have HC8 := Aside0.mk H
   clear H
   go_upto_if 16 with (fail)
   repeat (go_quiet (fail); go_upto_if 16 with (fail))
   go_cut [0, 5] (fun v0 v5 wc => ∃ (kq : Nat) (x0_7 : Int) (x5_7 : ByteArray), v0 = .int .i64 x0_7 ∧ v5 = .string x5_7 ∧ Aside0 (impl_ShowMoney.j1 kq x0_7 a1 x5_7 = some r) ∧ Aside0 (kq ≤ kj2) ∧ Aside0 (Below w.heap.size w wc))
   case first =>
    have H := HC8.out
    clear HC8
    by_cases c9 : a0 < 0
    rotate_left
    ·rw [if_neg c9] at H
     have c9b0 := decide_eq_false c9
     clear c9
     (first | rw [c9b0] | (simp only [i64_w, i32_w]; rw [c9b0]) | skip)
     have H' := Aside0.mk H
     clear H
     go_wp2
     repeat (go_quiet (fail); try go_wp2)
     go_meet
     case rel => exact ⟨_, (a0), ((⟨#[]⟩ : ByteArray)), tZB, tZB, H', ⟨by have := HJ2.out; first | omega | exact Nat.le_refl _⟩, ⟨bZ⟩⟩
    rw [if_pos c9] at H
    have c9b0 := decide_eq_true c9
    clear c9
    (first | rw [c9b0] | (simp only [i64_w, i32_w]; rw [c9b0]) | skip)
    have H' := Aside0.mk H
    clear H
    go_wp2
    repeat (go_quiet (fail); try go_wp2)
    go_meet
    case rel => exact ⟨_, (wrap64 (-a0)), ((⟨#[45]⟩ : ByteArray)), tZB, tZB, H', ⟨by have := HJ2.out; first | omega | exact Nat.le_refl _⟩, ⟨bZ⟩⟩
   case rest =>
    clear HC8
    try clear c1
    try clear p2
    try clear c5
    try clear p6
    try clear c7
    try clear c9
    try clear c9b0
    try clear p2
    obtain ⟨kq, x0_7, x5_7, rfl, rfl, HA, HJ7, HB⟩ := hcut
    cases kq with
    | zero => exact absurd HA.out (by simp [impl_ShowMoney.j1])
    | succ kj7 =>
     have H := HA.out
     clear HA
     simp only [impl_ShowMoney.j1] at H
     replace H := Option.bind_eq_some_iff.mp H
     obtain ⟨t236, A100, H⟩ := H
     replace H : (impl_ShowMoney.l0 kj7 a1 x5_7 t236) = some r := H
     have A10 := Aside0.mk A100
     clear A100
     have H' := Aside0.mk H
     clear H
     go_wp2_with (first | (go_at_call 130; (with_reducible refine (impl_decimal.calls kj7 x0_7 t236 _ A10.out).mono ?_); rintro e w11 ⟨rfl, hb⟩; replace HB := aZ (below_step (lZB HB.out) hb); (try clear hb); (try clear hb2); (try clear hk); (try clear hi)))
     repeat (go_quiet (first | (go_at_call 130; (with_reducible refine (impl_decimal.calls kj7 x0_7 t236 _ A10.out).mono ?_); rintro e w11 ⟨rfl, hb⟩; replace HB := aZ (below_step (lZB HB.out) hb); (try clear hb); (try clear hb2); (try clear hk); (try clear hi))); try go_wp2_with (first | (go_at_call 130; (with_reducible refine (impl_decimal.calls kj7 x0_7 t236 _ A10.out).mono ?_); rintro e w11 ⟨rfl, hb⟩; replace HB := aZ (below_step (lZB HB.out) hb); (try clear hb); (try clear hb2); (try clear hk); (try clear hi))))
     go_loopg [6] kj7 (fun kq v6 w' => ∃ (x6_3 : ByteArray), v6 = .string x6_3 ∧ Aside0 (impl_ShowMoney.l0 kq a1 x5_7 x6_3 = some r) ∧ Aside0 (kq ≤ kj7) ∧ Aside0 (Below w.heap.size w w'))
     case atStart => exact ⟨(t236), tZB, H', ⟨Nat.le_refl _⟩, ⟨bZ⟩⟩
     case round =>
      clear H'
      try clear c1
      try clear p2
      try clear c5
      try clear p6
      try clear c7
      try clear c9
      try clear c9b0
      try clear c10
      try clear p2
      try clear p6
      obtain ⟨x6_3, rfl, HA, HK3, HB⟩ := hrel
      cases gk with
      | zero => exact absurd HA.out (by simp [impl_ShowMoney.l0])
      | succ k3 =>
       have H := HA.out
       clear HA
       simp only [impl_ShowMoney.l0] at H
       by_cases c12 : (x6_3.size : Int) ≤ a1
       ·rw [if_pos c12] at H
        have c12b0 := decide_eq_true c12
        clear c12
        by_cases c13 : 1 + x6_3.size ≤ 9223372036854775807
        rotate_left
        ·rw [if_neg c13] at H
         exact absurd H (by simp)
        rw [if_pos c13] at H
        have c13b0 := eq_true c13
        have c13b1 := decide_eq_true c13
        try have c13b2 := eq_false (Nat.not_lt.2 c13)
        have H' := Aside0.mk H
        clear H
        go_wp2
        repeat (go_quiet (fail); try go_wp2)
        go_roundg k3
        case measure => have := HJ2.out; have := HJ7.out; have := HK3.out; omega
        case rel => exact ⟨((⟨#[48]⟩ : ByteArray) ++ x6_3), tZB, H', ⟨by have := HJ2.out; have := HJ7.out; have := HK3.out; omega⟩, ⟨bZ⟩⟩
       rw [if_neg c12] at H
       have c12b0 := decide_eq_false c12
       clear c12
       by_cases c14 : a1 = 0
       ·rw [if_pos c14] at H
        have c14b0 : (a1 == 0) = true := beq_iff_eq.mpr c14
        have c14b1 : (a1 != 0) = false := bne_eq_false_iff_eq.mpr c14
        clear c14
        by_cases c15 : x5_7.size + x6_3.size ≤ 9223372036854775807
        rotate_left
        ·rw [if_neg c15] at H
         exact absurd H (by simp)
        rw [if_pos c15] at H
        have c15b0 := eq_true c15
        have c15b1 := decide_eq_true c15
        try have c15b2 := eq_false (Nat.not_lt.2 c15)
        obtain rfl := Option.some.inj H
        go_wp2
        repeat (go_quiet (fail); try go_wp2)
        go_ret
        exact ⟨tZC, bZ⟩
       rw [if_neg c14] at H
       have c14b0 : (a1 == 0) = false := beq_eq_false_iff_ne.mpr c14
       have c14b1 : (a1 != 0) = true := bne_iff_ne.mpr c14
       obtain ⟨ji16, hji16⟩ : ∃ j_ : Int, (wrap64 ((x6_3.size : Int) - a1)) = j_ := ⟨_, rfl⟩
       replace H : (if 0 ≤ (ji16) then (if (ji16) ≤ (x6_3.size : Int) then (if x5_7.size + (x6_3.extract 0 ((ji16) : Int).toNat).size ≤ 9223372036854775807 then (if (x5_7 ++ (x6_3.extract 0 ((ji16) : Int).toNat)).size + 1 ≤ 9223372036854775807 then (if ((x5_7 ++ (x6_3.extract 0 ((ji16) : Int).toNat)) ++ (⟨#[46]⟩ : ByteArray)).size + (x6_3.extract ((ji16) : Int).toNat x6_3.size).size ≤ 9223372036854775807 then (some (((x5_7 ++ (x6_3.extract 0 ((ji16) : Int).toNat)) ++ (⟨#[46]⟩ : ByteArray)) ++ (x6_3.extract ((ji16) : Int).toNat x6_3.size))) else (none)) else (none)) else (none)) else (none)) else (none)) = some r := by first | (rw [hji16] at H; exact H) | (simp only [hji16] at H ⊢; exact H)
       have hji16w : (IntKind.i64.wrap ((x6_3.size : Int) - a1)) = ji16 := (i64_w _).trans hji16
       by_cases c17 : 0 ≤ (ji16)
       rotate_left
       ·rw [if_neg c17] at H
        exact absurd H (by simp)
       rw [if_pos c17] at H
       have c17b0 := eq_true c17
       have c17b1 := decide_eq_true c17
       clear c17
       by_cases c18 : (ji16) ≤ (x6_3.size : Int)
       rotate_left
       ·rw [if_neg c18] at H
        exact absurd H (by simp)
       rw [if_pos c18] at H
       have c18b0 := eq_true c18
       have c18b1 := decide_eq_true c18
       clear c18
       by_cases c19 : x5_7.size + (x6_3.extract 0 ((ji16) : Int).toNat).size ≤ 9223372036854775807
       rotate_left
       ·rw [if_neg c19] at H
        exact absurd H (by simp)
       rw [if_pos c19] at H
       have c19b0 := eq_true c19
       have c19b1 := decide_eq_true c19
       try have c19b2 := eq_false (Nat.not_lt.2 c19)
       try have c19b5 : (9223372036854775807 < x5_7.size + ji16.toNat) = False := eq_false (by have h_ := c19; have e0_ : ji16 ≤ (x6_3.size : Int) := of_decide_eq_true tZE; simp only [ByteArray.size_append, ByteArray.size_extract] at h_; omega)
       by_cases c20 : (x5_7 ++ (x6_3.extract 0 ((ji16) : Int).toNat)).size + 1 ≤ 9223372036854775807
       rotate_left
       ·rw [if_neg c20] at H
        exact absurd H (by simp)
       rw [if_pos c20] at H
       have c20b0 := eq_true c20
       have c20b1 := decide_eq_true c20
       try have c20b2 := eq_false (Nat.not_lt.2 c20)
       try have c20b5 : (9223372036854775807 < x5_7.size + ji16.toNat + 1) = False := eq_false (by have h_ := c20; have e0_ : ji16 ≤ (x6_3.size : Int) := of_decide_eq_true tZE; simp only [ByteArray.size_append, ByteArray.size_extract] at h_; omega)
       have c21b0 := eq_true (of_decide_eq_true tZE : 0 ≤ (ji16))
       have c22b0 := eq_true (of_decide_eq_true tZE : (ji16) ≤ (x6_3.size : Int))
       by_cases c23 : ((x5_7 ++ (x6_3.extract 0 ((ji16) : Int).toNat)) ++ (⟨#[46]⟩ : ByteArray)).size + (x6_3.extract ((ji16) : Int).toNat x6_3.size).size ≤ 9223372036854775807
       rotate_left
       ·rw [if_neg c23] at H
        exact absurd H (by simp)
       rw [if_pos c23] at H
       have c23b0 := eq_true c23
       have c23b1 := decide_eq_true c23
       try have c23b2 := eq_false (Nat.not_lt.2 c23)
       try have c23b5 : (9223372036854775807 < x5_7.size + ji16.toNat + 1 + (x6_3.size - ji16.toNat)) = False := eq_false (by have h_ := c23; have e0_ : ji16 ≤ (x6_3.size : Int) := of_decide_eq_true tZE; have e1_ : (⟨#[46]⟩ : ByteArray).size = 1 := rfl; simp only [ByteArray.size_append, ByteArray.size_extract] at h_; omega)
       obtain rfl := Option.some.inj H
       go_wp2
       repeat (go_quiet (fail); try go_wp2)
       go_ret
       exact ⟨by first | rfl | (simp [errW_none, errW_some] <;> rfl) | (simp only [← hji16]; first | rfl | (simp [errW_none, errW_some] <;> rfl)) | (simp [*, errW_none, errW_some] <;> rfl), bZ⟩
mutual
def impl_digits.l0 : Nat → ByteArray → Int → Int → Int → Option (Int × Int)
  | 0, _, _, _, _ => none
  | k + 1, x0, x1, x6, x7 => if x7 < (x0.size : Int) then (if 0 ≤ x7 then (if (bt x0 x7) ≥ 48 then (impl_digits.j1 k x0 x1 x6 x7 (decide ((bt x0 x7) ≤ 57))) else (impl_digits.j1 k x0 x1 x6 x7 false)) else (none)) else (impl_digits.j1 k x0 x1 x6 x7 false)
def impl_digits.j1 : Nat → ByteArray → Int → Int → Int → Bool → Option (Int × Int)
  | 0, _, _, _, _, _ => none
  | k + 1, x0, x1, x6, x7, x24 => if x24 = true then (if (wrap64 (x7 - x1)) < 16 then (if 0 ≤ x7 then (if x7 < (x0.size : Int) then (impl_digits.l0 k x0 x1 (wrap64 ((wrap64 (x6 * 10)) + (((bt x0 x7) - 48) % 256))) (wrap64 (x7 + 1))) else (none)) else (none)) else (impl_digits.l0 k x0 x1 x6 (wrap64 (x7 + 1)))) else (some (x6, x7))
end
def impl_digits.f (k : Nat) (a0 : ByteArray) (a1 : Int) : Option (Int × Int) := impl_digits.l0 k a0 a1 0 a1
theorem impl_digits.mono_l : ∀ k, (∀ y0 y1 y2 y3, LeO (impl_digits.l0 k y0 y1 y2 y3) (impl_digits.l0 (k + 1) y0 y1 y2 y3)) ∧ (∀ y0 y1 y2 y3 y4, LeO (impl_digits.j1 k y0 y1 y2 y3 y4) (impl_digits.j1 (k + 1) y0 y1 y2 y3 y4))
  | 0 => ⟨fun _ _ _ _ r h => by simp [impl_digits.l0] at h, fun _ _ _ _ _ r h => by simp [impl_digits.j1] at h⟩
  | k + 1 => by
    obtain ⟨ih0, ih1⟩ := impl_digits.mono_l k
    refine ⟨?_, ?_⟩
    · intro y0 y1 y2 y3
      unfold impl_digits.l0
      repeat' first
      | (with_reducible exact ih0 _ _ _ _)
      | (with_reducible exact ih1 _ _ _ _ _)
      | (with_reducible exact LeO.refl _)
      | (with_reducible exact LeO.none _)
      | (with_reducible refine LeO.ite ?_ ?_)
      | (with_reducible refine LeO.bind ?_ (fun _ => ?_))
      | exact ih0 _ _ _ _
      | exact ih1 _ _ _ _ _
      | exact LeO.none _
      | refine LeO.ite ?_ ?_
      | refine LeO.bind ?_ (fun _ => ?_)
    · intro y0 y1 y2 y3 y4
      unfold impl_digits.j1
      repeat' first
      | (with_reducible exact ih0 _ _ _ _)
      | (with_reducible exact ih1 _ _ _ _ _)
      | (with_reducible exact LeO.refl _)
      | (with_reducible exact LeO.none _)
      | (with_reducible refine LeO.ite ?_ ?_)
      | (with_reducible refine LeO.bind ?_ (fun _ => ?_))
      | exact ih0 _ _ _ _
      | exact ih1 _ _ _ _ _
      | exact LeO.none _
      | refine LeO.ite ?_ ?_
      | refine LeO.bind ?_ (fun _ => ?_)
theorem impl_digits.mono : ∀ a0 a1 k, LeO (impl_digits.f k a0 a1) (impl_digits.f (k + 1) a0 a1) := by
 intro a0 a1 k
 obtain ⟨ih0, ih1⟩ := impl_digits.mono_l k
 unfold impl_digits.f
 repeat' first
     | (with_reducible exact ih0 _ _ _ _)
     | (with_reducible exact ih1 _ _ _ _ _)
     | (with_reducible exact LeO.refl _)
     | (with_reducible exact LeO.none _)
     | (with_reducible refine LeO.ite ?_ ?_)
     | (with_reducible refine LeO.bind ?_ (fun _ => ?_))
     | exact ih0 _ _ _ _
     | exact ih1 _ _ _ _ _
     | exact LeO.none _
     | refine LeO.ite ?_ ?_
     | refine LeO.bind ?_ (fun _ => ?_)
set_option maxHeartbeats 8000000 in
set_option maxRecDepth 100000 in
theorem impl_digits.calls (k : Nat) (a0 : ByteArray) (a1 : Int) (r1 : Int) (r2 : Int) (w : World) (h : impl_digits.f k a0 a1 = some (r1, r2)) :
    Calls Try.prog 179 #[.string a0, .int .i64 a1] w fun e w' => e = .returned (.tuple #[.int .i64 r1, .int .i64 r2]) ∧ Drawn0 w w' := by
 have H : (impl_digits.l0 k a0 a1 0 a1) = some (r1, r2) := h
 clear h
 have H' := Aside0.mk H
 clear H
 go_enter Try.func179, Try.ntmps179
 go_wp2
 go_loopg [6, 7] k (fun kq v6 v7 w' => ∃ (x6_1 : Int) (x7_1 : Int), v6 = .int .i64 x6_1 ∧ v7 = .int .i64 x7_1 ∧ Aside0 (impl_digits.l0 kq a0 a1 x6_1 x7_1 = some (r1, r2)) ∧ Aside0 (kq ≤ k) ∧ Drawn0 w w')
 case atStart => exact ⟨(0), (a1), tZB, tZB, H', ⟨Nat.le_refl _⟩, tZD⟩
 case round =>
  clear H'
  try clear c1
  try clear p2
  obtain ⟨x6_1, x7_1, rfl, rfl, HA, HK1, ⟨m1, rfl⟩⟩ := hrel
  cases gk with
  | zero => exact absurd HA.out (by simp [impl_digits.l0])
  | succ k1 =>
   have H := HA.out
   clear HA
   simp only [impl_digits.l0] at H
   have HC3 := Aside0.mk H
   clear H
   go_upto_region 3 with (fail)
   go_cut [24] (fun v24 wc => ∃ (kq : Nat) (x24_2 : Bool), v24 = .bool x24_2 ∧ Aside0 (impl_digits.j1 kq a0 a1 x6_1 x7_1 x24_2 = some (r1, r2)) ∧ Aside0 (kq ≤ k1) ∧ Drawn0 w wc)
   case first =>
    have H := HC3.out
    clear HC3
    by_cases c4 : x7_1 < (a0.size : Int)
    rotate_left
    ·rw [if_neg c4] at H
     have c4b0 := decide_eq_false c4
     clear c4
     (first | rw [c4b0] | (simp only [i64_w, i32_w]; rw [c4b0]) | skip)
     have H' := Aside0.mk H
     clear H
     go_wp2
     go_meet
     case rel => exact ⟨_, (false), tZB, H', ⟨by have := HK1.out; first | omega | exact Nat.le_refl _⟩, tZD⟩
    rw [if_pos c4] at H
    have c4b0 := decide_eq_true c4
    clear c4
    (first | rw [c4b0] | (simp only [i64_w, i32_w]; rw [c4b0]) | skip)
    by_cases c5 : 0 ≤ x7_1
    rotate_left
    ·rw [if_neg c5] at H
     exact absurd H (by simp)
    rw [if_pos c5] at H
    have c5b0 := decide_eq_true c5
    clear c5
    by_cases c7 : (bt a0 x7_1) ≥ 48
    rotate_left
    ·rw [if_neg c7] at H
     have c7b0 : decide (48 ≤ (bt a0 x7_1)) = false := decide_eq_false c7
     clear c7
     have H' := Aside0.mk H
     clear H
     have p6 : 0 ≤ (x7_1 : Int) := of_decide_eq_true tZE
     have q6 : x7_1 < (a0.size : Int) := of_decide_eq_true tZE
     have hx6 := bt_at a0 x7_1
     replace p6 := eq_true p6
     replace q6 := eq_true q6
     go_wp2
     go_meet
     case rel => exact ⟨_, (false), tZB, H', ⟨by have := HK1.out; first | omega | exact Nat.le_refl _⟩, tZD⟩
    rw [if_pos c7] at H
    have c7b0 : decide (48 ≤ (bt a0 x7_1)) = true := decide_eq_true c7
    clear c7
    have H' := Aside0.mk H
    clear H
    have p6 : 0 ≤ (x7_1 : Int) := of_decide_eq_true tZE
    have q6 : x7_1 < (a0.size : Int) := of_decide_eq_true tZE
    have hx6 := bt_at a0 x7_1
    replace p6 := eq_true p6
    replace q6 := eq_true q6
    have p8 : 0 ≤ (x7_1 : Int) := of_decide_eq_true tZE
    have q8 : x7_1 < (a0.size : Int) := of_decide_eq_true tZE
    have hx8 := bt_at a0 x7_1
    replace p8 := eq_true p8
    replace q8 := eq_true q8
    go_wp2
    go_meet
    case rel => exact ⟨_, (decide ((bt a0 x7_1) ≤ 57)), tZB, H', ⟨by have := HK1.out; first | omega | exact Nat.le_refl _⟩, tZD⟩
   case rest =>
    clear HC3
    try clear c1
    try clear p2
    try clear c4
    try clear c4b0
    try clear c5
    try clear c5b0
    try clear p6
    try clear q6
    try clear hx6
    try clear c7
    try clear c7b0
    try clear p8
    try clear q8
    try clear hx8
    try clear p2
    try clear p6
    try clear p8
    try clear q6
    try clear q8
    obtain ⟨kq, x24_2, rfl, HA, HJ2, ⟨mc2, rfl⟩⟩ := hcut
    cases kq with
    | zero => exact absurd HA.out (by simp [impl_digits.j1])
    | succ kj2 =>
     have H := HA.out
     clear HA
     simp only [impl_digits.j1] at H
     by_cases c9 : x24_2 = true
     rotate_left
     ·replace c9 := Bool.eq_false_iff.mpr c9
      subst c9
      have H1 : (some (x6_1, x7_1)) = some (r1, r2) := by rw [if_neg (show ¬ (false = true) by decide)] at H; exact H
      clear H
      have H := H1
      clear H1
      simp only [Option.some.injEq, Prod.mk.injEq] at H
      obtain ⟨rfl, rfl⟩ := H
      go_wp2
      go_ret2
      exact ⟨tZB, tZD⟩
     subst c9
     have H1 : (if (wrap64 (x7_1 - a1)) < 16 then (if 0 ≤ x7_1 then (if x7_1 < (a0.size : Int) then (impl_digits.l0 kj2 a0 a1 (wrap64 ((wrap64 (x6_1 * 10)) + (((bt a0 x7_1) - 48) % 256))) (wrap64 (x7_1 + 1))) else (none)) else (none)) else (impl_digits.l0 kj2 a0 a1 x6_1 (wrap64 (x7_1 + 1)))) = some (r1, r2) := by rw [if_pos rfl] at H; exact H
     clear H
     have H := H1
     clear H1
     by_cases c10 : (wrap64 (x7_1 - a1)) < 16
     rotate_left
     ·rw [if_neg c10] at H
      have c10b0 := decide_eq_false c10
      clear c10
      have H' := Aside0.mk H
      clear H
      go_wp2
      go_roundg kj2
      case measure => have := HK1.out; have := HJ2.out; omega
      case rel => exact ⟨(x6_1), (wrap64 (x7_1 + 1)), tZB, tZB, H', ⟨by have := HK1.out; have := HJ2.out; omega⟩, tZD⟩
     rw [if_pos c10] at H
     have c10b0 := decide_eq_true c10
     clear c10
     by_cases c11 : 0 ≤ x7_1
     rotate_left
     ·rw [if_neg c11] at H
      exact absurd H (by simp)
     rw [if_pos c11] at H
     have c11b0 := decide_eq_true c11
     clear c11
     by_cases c12 : x7_1 < (a0.size : Int)
     rotate_left
     ·rw [if_neg c12] at H
      exact absurd H (by simp)
     rw [if_pos c12] at H
     have c12b0 := decide_eq_true c12
     clear c12
     have H' := Aside0.mk H
     clear H
     have p13 : 0 ≤ (x7_1 : Int) := of_decide_eq_true tZE
     have q13 : x7_1 < (a0.size : Int) := of_decide_eq_true tZE
     have hx13 := bt_at a0 x7_1
     replace p13 := eq_true p13
     replace q13 := eq_true q13
     go_wp2
     go_roundg kj2
     case measure => have := HK1.out; have := HJ2.out; omega
     case rel => exact ⟨(wrap64 ((wrap64 (x6_1 * 10)) + (((bt a0 x7_1) - 48) % 256))), (wrap64 (x7_1 + 1)), tZB, tZB, H', ⟨by have := HK1.out; have := HJ2.out; omega⟩, tZD⟩
end Go.Proofs.Ytmpknbdbichdiaa.PFnExactReadBank
