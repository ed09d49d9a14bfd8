import Derived.Test.YtjnmfadnkbflfaaPPFnExactParseFlowx0
import Derived.Test.YtjnmfadnkbflfaaPSlimWords
namespace Go.Proofs.Ytjnmfadnkbflfaa.PFnExactParseFlow
open Go.Proofs.Ytjnmfadnkbflfaa.SlimWords
open Go.RowKit Go.Proofs.YtjnmfadnkbflfaaW.PrintWords Go.Proofs.YtjnmfadnkbflfaaW.PrintLast Go.Proofs.YtjnmfadnkbflfaaW.PrintMore Go.Proofs.Ytjnmfadnkbflfaa.MapWords Go.Proofs.Ytjnmfadnkbflfaa.IterWords Go.Proofs.Ytjnmfadnkbflfaa.MarkWords
attribute [local go_sem] max2_int min2_int max_two min_two max_three min_three max_four min_four
set_option linter.unusedVariables false
set_option linter.unusedSimpArgs false
def impl_linesOf.l0 : Nat → ByteArray → List ByteArray → Int → Int → Option (List ByteArray × Bool)
  | 0, _, _, _, _ => none
  | k + 1, x0, x4, x5, x6 => if x6 < (x0.size : Int) then (if 0 ≤ x6 then (if (bt x0 x6) = 10 then (if 0 ≤ x5 then (if x5 ≤ x6 then (if x6 ≤ (x0.size : Int) then (if x4.length < 8796093022208 then (impl_linesOf.l0 k x0 (x4 ++ [x0.extract (x5 : Int).toNat (x6 : Int).toNat]) (wrap64 (x6 + 1)) (wrap64 (x6 + 1))) else (none)) else (none)) else (none)) else (none)) else (impl_linesOf.l0 k x0 x4 x5 (wrap64 (x6 + 1)))) else (none)) else (if x5 < (x0.size : Int) then (if 0 ≤ x5 then (if x5 ≤ (x0.size : Int) then (if x4.length < 8796093022208 then (some ((x4 ++ [x0.extract (x5 : Int).toNat x0.size]), false)) else (none)) else (none)) else (none)) else (some (x4, true)))
def impl_linesOf.f (k : Nat) (a0 : ByteArray) : Option (List ByteArray × Bool) := impl_linesOf.l0 k a0 (([] : List ByteArray)) 0 0
theorem impl_linesOf.mono_l : ∀ k, (∀ y0 y1 y2 y3, LeO (impl_linesOf.l0 k y0 y1 y2 y3) (impl_linesOf.l0 (k + 1) y0 y1 y2 y3))
  | 0 => fun _ _ _ _ r h => by simp [impl_linesOf.l0] at h
  | k + 1 => by
    have ih0 := impl_linesOf.mono_l k
    · intro y0 y1 y2 y3
      unfold impl_linesOf.l0
      repeat' first
      | (with_reducible exact ih0 _ _ _ _)
      | (with_reducible exact LeO.refl _)
      | (with_reducible exact LeO.none _)
      | (with_reducible refine LeO.ite ?_ ?_)
      | (with_reducible refine LeO.bind ?_ (fun _ => ?_))
      | exact ih0 _ _ _ _
      | exact LeO.none _
      | refine LeO.ite ?_ ?_
      | refine LeO.bind ?_ (fun _ => ?_)
theorem impl_linesOf.mono : ∀ a0 k, LeO (impl_linesOf.f k a0) (impl_linesOf.f (k + 1) a0) := by
 intro a0 k
 have ih0 := impl_linesOf.mono_l k
 unfold impl_linesOf.f
 repeat' first
     | (with_reducible exact ih0 _ _ _ _)
     | (with_reducible exact LeO.refl _)
     | (with_reducible exact LeO.none _)
     | (with_reducible refine LeO.ite ?_ ?_)
     | (with_reducible refine LeO.bind ?_ (fun _ => ?_))
     | exact ih0 _ _ _ _
     | exact LeO.none _
     | refine LeO.ite ?_ ?_
     | refine LeO.bind ?_ (fun _ => ?_)
set_option maxHeartbeats 8000000 in
set_option maxRecDepth 100000 in
theorem impl_linesOf.calls (k : Nat) (a0 : ByteArray) (r1 : List ByteArray) (r2 : Bool) (w : World) (h : impl_linesOf.f k a0 = some (r1, r2)) :
    Calls Try.prog 99 #[.string a0] w fun e w' => ∃ v0_ : Value, e = .returned (.tuple #[v0_, .bool r2]) ∧ Kd.R Kd.string 9 w' w.heap.size (fun _ => True) v0_ r1 ∧ Below w.heap.size w w' := by
 have HB := aZ (Below.refl w.heap.size w); have H : (impl_linesOf.l0 k a0 (([] : List ByteArray)) 0 0) = some (r1, r2) := h; clear h; obtain ⟨y190, hy190⟩ : ∃ y_ : List ByteArray, y_ = (([] : List ByteArray)) := ⟨_, rfl⟩; replace H : (impl_linesOf.l0 k a0 y190 0 0) = some (r1, r2) := by first | (rw [hy190]; with_reducible exact H) | (have H2_ := (Option.bind_some _ _).symm.trans H; rw [hy190]; with_reducible exact H2_) | (have H2_ := (Option.bind_some _ _).symm.trans H; with_reducible exact H2_) | with_reducible exact H | (rw [hy190]; exact H) | exact H
 have Ny190 := Aside0.mk hy190; clear hy190; have H' := Aside0.mk H; clear H; go_enter Try.func99, Try.ntmps99
 go_wp2_with (first | ((with_reducible refine gate_dst (N := 7) rfl ?_); refine Kd.R_lit Kd.string _ 9 ?hg (N := 7) ?hd (xs := ([] : List ByteArray)) (inner := []) (ok := fun _ => True) (okp := fun _ => True) ?hr ?hp (fun _ hk => hk) trivial (Below.refl _ _) (Nat.le_refl _) (by simp) ?_; (case hd => rfl); (case hg => rfl); (case hr => first | (go_simp; done) | (go_simp; rfl)); (case hp => exact (Reps.none _ _)); intro v191 w2 ho3 hb hg_ hnew_; clear hg_ hnew_; (first | rw [← Ny190.out] at ho3 | (simp only [Int.reduceToNat] at ho3; rw [← Ny190.out] at ho3)); have HO192 := aZ (Kd.R_lower ho3 (below_size (lZB HB.out))); replace HB := aZ (below_step (lZB HB.out) hb); clear hb ho3))
 go_loopg [4, 5, 6] k (fun kq v4 v5 v6 w' => ∃ (x4_1 : List ByteArray) (x5_1 : Int) (x6_1 : Int), v5 = .int .i64 x5_1 ∧ v6 = .int .i64 x6_1 ∧ Aside0 (impl_linesOf.l0 kq a0 x4_1 x5_1 x6_1 = some (r1, r2)) ∧ Aside0 (kq ≤ k) ∧ Aside0 (Kd.R Kd.string 9 w' w.heap.size (fun _ => True) v4 x4_1) ∧ Aside0 (Below w.heap.size w w'))
 case atStart => exact ⟨(y190), (0), (0), tZB, tZB, H', ⟨Nat.le_refl _⟩, ⟨lZR HO192.out⟩, ⟨bZ⟩⟩
 case round =>
  clear H'; obtain ⟨x4_1, x5_1, x6_1, rfl, rfl, HA, HK1, HO_4, HB⟩ := hrel
  cases gk with
  | zero => exact absurd HA.out (by simp [impl_linesOf.l0])
  | succ k1 =>
   have H := HA.out; clear HA; simp only [impl_linesOf.l0] at H
   by_cases c4 : x6_1 < (a0.size : Int)
   rotate_left
   ·rw [if_neg c4] at H; have c4b0 := decide_eq_false c4; clear c4
    by_cases c13 : x5_1 < (a0.size : Int)
    rotate_left
    ·rw [if_neg c13] at H; have c13b0 := decide_eq_false c13; clear c13; simp only [Option.some.injEq, Prod.mk.injEq] at H; obtain ⟨rfl, rfl⟩ := H; go_wp2; go_ret2; exact ⟨_, tZC, lZR HO_4.out, bZ⟩
    rw [if_pos c13] at H; have c13b0 := decide_eq_true c13; clear c13
    by_cases c14 : 0 ≤ x5_1
    rotate_left
    ·rw [if_neg c14] at H; exact absurd H (by simp)
    rw [if_pos c14] at H; have c14b0 := eq_true c14; have c14b1 := decide_eq_true c14; clear c14
    by_cases c15 : x5_1 ≤ (a0.size : Int)
    rotate_left
    ·rw [if_neg c15] at H; exact absurd H (by simp)
    rw [if_pos c15] at H; have c15b0 := eq_true c15; have c15b1 := decide_eq_true c15; clear c15
    by_cases c16 : x4_1.length < 8796093022208
    rotate_left
    ·rw [if_neg c16] at H; exact absurd H (by simp)
    rw [if_pos c16] at H; have LMc16 := Aside0.mk c16; clear c16; obtain ⟨y196, hy196⟩ : ∃ y_ : List ByteArray, y_ = (x4_1 ++ [a0.extract (x5_1 : Int).toNat a0.size]) := ⟨_, rfl⟩; replace H : (some (y196, false)) = some (r1, r2) := by first | (rw [hy196]; with_reducible exact H) | (have H2_ := (Option.bind_some _ _).symm.trans H; rw [hy196]; with_reducible exact H2_) | (have H2_ := (Option.bind_some _ _).symm.trans H; with_reducible exact H2_) | with_reducible exact H | (rw [hy196]; exact H) | exact H
    have Ny196 := Aside0.mk hy196; clear hy196; simp only [Option.some.injEq, Prod.mk.injEq] at H; obtain ⟨rfl, rfl⟩ := H
    go_wp2_with (first | ((with_reducible refine gate_builtin (b := .append) (xs := #[.tmp 31, .tmp 35]) rfl ?_); at_builtin; refine Kd.R_append Kd.string (w0 := w) w.heap.size rfl (.tmp 31) (.tmp 35) 64 9 (.string ⟨#[]⟩) 16 rfl Try.underlying64 info9 rfl (by decide) (by omega) u4 x4_1 (a0.extract (x5_1 : Int).toNat a0.size) [.string (a0.extract (x5_1 : Int).toNat a0.size)] (fun _ => True) (fun _ => False) rfl rfl ?aP (fun _ hk => hk.elim) ?aF ?aO ?aB ?aS ?aL ?_; (case aP => exact rfl); (case aB => exact (lZB HB.out)); (case aF => exact (fun _ _ => trivial)); (case aO => exact (lZR HO_4.out)); (case aS => exact (below_size (lZB HB.out))); (case aL => have := LMc16.out; omega); intro v197 w17 ho hb hg hat; rw [← Ny196.out] at ho; replace HB := aZ (hb); have HO198 := aZ (ho); clear HO_4; clear ho hb hg hat))
    go_ret2; exact ⟨_, tZC, lZR HO198.out, bZ⟩
   rw [if_pos c4] at H; have c4b0 := decide_eq_true c4; clear c4
   by_cases c5 : 0 ≤ x6_1
   rotate_left
   ·rw [if_neg c5] at H; exact absurd H (by simp)
   rw [if_pos c5] at H; have c5b0 := decide_eq_true c5; clear c5
   by_cases c7 : (bt a0 x6_1) = 10
   rotate_left
   ·rw [if_neg c7] at H; have c7b0 : ((bt a0 x6_1) == 10) = false := beq_eq_false_iff_ne.mpr c7; have c7b1 : ((bt a0 x6_1) != 10) = true := bne_iff_ne.mpr c7; have H' := Aside0.mk H; clear H; have p6 : 0 ≤ (x6_1 : Int) := of_decide_eq_true tZE; have q6 : x6_1 < (a0.size : Int) := of_decide_eq_true tZE; have hx6 := bt_at a0 x6_1; replace p6 := eq_true p6; replace q6 := eq_true q6; go_wp2
    go_roundg k1
    case measure => have := HK1.out; omega
    case rel => exact ⟨(x4_1), (x5_1), (wrap64 (x6_1 + 1)), tZB, tZB, H', ⟨by have := HK1.out; omega⟩, ⟨lZR HO_4.out⟩, ⟨bZ⟩⟩
   rw [if_pos c7] at H; have c7b0 : ((bt a0 x6_1) == 10) = true := beq_iff_eq.mpr c7; have c7b1 : ((bt a0 x6_1) != 10) = false := bne_eq_false_iff_eq.mpr c7; clear c7
   by_cases c8 : 0 ≤ x5_1
   rotate_left
   ·rw [if_neg c8] at H; exact absurd H (by simp)
   rw [if_pos c8] at H; have c8b0 := eq_true c8; have c8b1 := decide_eq_true c8; clear c8
   by_cases c9 : x5_1 ≤ x6_1
   rotate_left
   ·rw [if_neg c9] at H; exact absurd H (by simp)
   rw [if_pos c9] at H; have c9b0 := eq_true c9; have c9b1 := decide_eq_true c9; clear c9
   by_cases c10 : x6_1 ≤ (a0.size : Int)
   rotate_left
   ·rw [if_neg c10] at H; exact absurd H (by simp)
   rw [if_pos c10] at H; have c10b0 := eq_true c10; have c10b1 := decide_eq_true c10; clear c10
   by_cases c11 : x4_1.length < 8796093022208
   rotate_left
   ·rw [if_neg c11] at H; exact absurd H (by simp)
   rw [if_pos c11] at H; have LMc11 := Aside0.mk c11; clear c11; obtain ⟨y193, hy193⟩ : ∃ y_ : List ByteArray, y_ = (x4_1 ++ [a0.extract (x5_1 : Int).toNat (x6_1 : Int).toNat]) := ⟨_, rfl⟩; replace H : (impl_linesOf.l0 k1 a0 y193 (wrap64 (x6_1 + 1)) (wrap64 (x6_1 + 1))) = some (r1, r2) := by first | (rw [hy193]; with_reducible exact H) | (have H2_ := (Option.bind_some _ _).symm.trans H; rw [hy193]; with_reducible exact H2_) | (have H2_ := (Option.bind_some _ _).symm.trans H; with_reducible exact H2_) | with_reducible exact H | (rw [hy193]; exact H) | exact H
   have Ny193 := Aside0.mk hy193; clear hy193; have H' := Aside0.mk H; clear H; have p6 : 0 ≤ (x6_1 : Int) := of_decide_eq_true tZE; have q6 : x6_1 < (a0.size : Int) := of_decide_eq_true tZE; have hx6 := bt_at a0 x6_1; replace p6 := eq_true p6; replace q6 := eq_true q6
   go_wp2_with (first | ((with_reducible refine gate_builtin (b := .append) (xs := #[.tmp 18, .tmp 23]) rfl ?_); at_builtin; refine Kd.R_append Kd.string (w0 := w) w.heap.size rfl (.tmp 18) (.tmp 23) 64 9 (.string ⟨#[]⟩) 16 rfl Try.underlying64 info9 rfl (by decide) (by omega) u4 x4_1 (a0.extract (x5_1 : Int).toNat (x6_1 : Int).toNat) [.string (a0.extract (x5_1 : Int).toNat (x6_1 : Int).toNat)] (fun _ => True) (fun _ => False) rfl rfl ?aP (fun _ hk => hk.elim) ?aF ?aO ?aB ?aS ?aL ?_; (case aP => exact rfl); (case aB => exact (lZB HB.out)); (case aF => exact (fun _ _ => trivial)); (case aO => exact (lZR HO_4.out)); (case aS => exact (below_size (lZB HB.out))); (case aL => have := LMc11.out; omega); intro v194 w12 ho hb hg hat; rw [← Ny193.out] at ho; replace HB := aZ (hb); have HO195 := aZ (ho); clear HO_4; clear ho hb hg hat))
   go_roundg k1
   case measure => have := HK1.out; omega
   case rel => exact ⟨(y193), (wrap64 (x6_1 + 1)), (wrap64 (x6_1 + 1)), tZB, tZB, H', ⟨by have := HK1.out; omega⟩, ⟨lZR HO195.out⟩, ⟨bZ⟩⟩
def impl_between.f (a0 : Int) (a1 : Int) (a2 : Int) : Option (Bool) := if a0 ≥ a1 then (some (decide (a0 ≤ a2))) else (some false)
set_option maxHeartbeats 8000000 in
set_option maxRecDepth 100000 in
theorem impl_between.calls (a0 : Int) (a1 : Int) (a2 : Int) (r : Bool) (w : World) (h : impl_between.f a0 a1 a2 = some r) :
    Calls Try.prog 120 #[.int .i64 a0, .int .i64 a1, .int .i64 a2] w fun e w' => e = .returned (.bool r) ∧ Drawn0 w w' := by
 have H : (if a0 ≥ a1 then (some (decide (a0 ≤ a2))) else (some false)) = some r := h; clear h
 by_cases c4 : a0 ≥ a1
 ·rw [if_pos c4] at H; have c4b0 : decide (a1 ≤ a0) = true := decide_eq_true c4; clear c4; obtain rfl := Option.some.inj H; go_enter Try.func120, Try.ntmps120; go_wp2; go_ret; exact ⟨tZB, tZD⟩
 rw [if_neg c4] at H; have c4b0 : decide (a1 ≤ a0) = false := decide_eq_false c4; clear c4; obtain rfl := Option.some.inj H; go_enter Try.func120, Try.ntmps120; go_wp2; go_ret; exact ⟨tZB, tZD⟩
def impl_amount.f (a0 : Int) : Option (Bool) := (impl_between.f a0 (-100000000000) 100000000000).bind fun t199 => (some t199)
set_option maxHeartbeats 8000000 in
set_option maxRecDepth 100000 in
theorem impl_amount.calls (a0 : Int) (r : Bool) (w : World) (h : impl_amount.f a0 = some r) :
    Calls Try.prog 103 #[.int .i64 a0] w fun e w' => e = .returned (.bool r) ∧ Drawn0 w w' := by
 have H : ((impl_between.f a0 (-100000000000) 100000000000).bind fun t199 => (some t199)) = some r := h; clear h; replace H := Option.bind_eq_some_iff.mp H; obtain ⟨t199, A20, H⟩ := H; replace H : (some t199) = some r := H; have A2 := Aside0.mk A20; clear A20; obtain rfl := Option.some.inj H; go_enter Try.func103, Try.ntmps103
 go_wp2_with (first | ((with_reducible refine gate_callee (f := 120) rfl ?_); refine goesL_ (some 4) rfl rfl Try.func120 kZ rfl #[.int .i64 a0, .int .i64 (-100000000000), .int .i64 100000000000] rfl tZA ?_; (with_reducible refine (impl_between.calls a0 (-100000000000) 100000000000 t199 _ A2.out).mono ?_); rintro e w' ⟨rfl, ⟨nd, rfl⟩⟩; refine ⟨_, rfl, ?_⟩))
 go_ret; exact ⟨tZB, tZD⟩
mutual
def impl_decimal.l0 : Nat → Int → ByteArray → Option (ByteArray)
  | 0, _, _ => none
  | k + 1, x0, x3 => if x0 > 0 then ((some (([(wrap64 (48 + (Int.tmod x0 10))) % 256] : List Int) : List Int)).bind fun y204 => (if (strOfNums y204).size + x3.size ≤ 9223372036854775807 then (impl_decimal.l0 k (wrap64 (Int.tdiv x0 10)) ((strOfNums y204) ++ x3)) else (none))) else (some x3)
def impl_decimal.f : Nat → Int → Option (ByteArray)
  | 0, _ => none
  | k + 1, a0 => if a0 < 0 then ((impl_decimal.f k (wrap64 (-a0))).bind fun t200 => (if 1 + t200.size ≤ 9223372036854775807 then (some ((⟨#[45]⟩ : ByteArray) ++ t200)) else (none))) else (impl_decimal.l0 k (wrap64 (Int.tdiv a0 10)) (strOfNums (([(wrap64 (48 + (Int.tmod a0 10))) % 256] : List Int))))
end
theorem impl_decimal.mono_l : ∀ k, (∀ y0, LeO (impl_decimal.f k y0) (impl_decimal.f (k + 1) y0)) ∧ (∀ y0 y1, LeO (impl_decimal.l0 k y0 y1) (impl_decimal.l0 (k + 1) y0 y1))
  | 0 => ⟨fun _ r h => by simp [impl_decimal.f] at h, fun _ _ r h => by simp [impl_decimal.l0] at h⟩
  | k + 1 => by
    obtain ⟨ih0, ih1⟩ := impl_decimal.mono_l k
    refine ⟨?_, ?_⟩
    · intro y0
      unfold impl_decimal.f
      repeat' first
      | (with_reducible exact ih0 _)
      | (with_reducible exact ih1 _ _)
      | (with_reducible exact LeO.refl _)
      | (with_reducible exact LeO.none _)
      | (with_reducible refine LeO.ite ?_ ?_)
      | (with_reducible refine LeO.bind ?_ (fun _ => ?_))
      | exact ih0 _
      | exact ih1 _ _
      | exact LeO.none _
      | refine LeO.ite ?_ ?_
      | refine LeO.bind ?_ (fun _ => ?_)
    · intro y0 y1
      unfold impl_decimal.l0
      repeat' first
      | (with_reducible exact ih0 _)
      | (with_reducible exact ih1 _ _)
      | (with_reducible exact LeO.refl _)
      | (with_reducible exact LeO.none _)
      | (with_reducible refine LeO.ite ?_ ?_)
      | (with_reducible refine LeO.bind ?_ (fun _ => ?_))
      | exact ih0 _
      | exact ih1 _ _
      | exact LeO.none _
      | refine LeO.ite ?_ ?_
      | refine LeO.bind ?_ (fun _ => ?_)
theorem impl_decimal.mono : ∀ a0 k, LeO (impl_decimal.f k a0) (impl_decimal.f (k + 1) a0) := by
 intro a0 k
 obtain ⟨ih0, ih1⟩ := impl_decimal.mono_l k
 exact ih0 a0
set_option maxHeartbeats 8000000 in
set_option maxRecDepth 100000 in
theorem impl_decimal.calls (k : Nat) : ∀ (a0 : Int) (r : ByteArray) (w : World) (h : impl_decimal.f k a0 = some r),
    Calls Try.prog 151 #[.int .i64 a0] w fun e w' => e = .returned (.string r) ∧ Below w.heap.size w w' := by
 induction k using Nat.strongRecOn with
 | _ k ih =>
 intro a0 r w h
 cases k with
 | zero => exact absurd h (by simp [impl_decimal.f])
 | succ k =>
 simp only [impl_decimal.f] at h; have HB := aZ (Below.refl w.heap.size w); have H : (if a0 < 0 then ((impl_decimal.f k (wrap64 (-a0))).bind fun t200 => (if 1 + t200.size ≤ 9223372036854775807 then (some ((⟨#[45]⟩ : ByteArray) ++ t200)) else (none))) else (impl_decimal.l0 k (wrap64 (Int.tdiv a0 10)) (strOfNums (([(wrap64 (48 + (Int.tmod a0 10))) % 256] : List Int))))) = some r := h; clear h
 by_cases c2 : a0 < 0
 ·rw [if_pos c2] at H; have c2b0 := decide_eq_true c2; clear c2; replace H := Option.bind_eq_some_iff.mp H; obtain ⟨t200, A30, H⟩ := H; replace H : (if 1 + t200.size ≤ 9223372036854775807 then (some ((⟨#[45]⟩ : ByteArray) ++ t200)) else (none)) = some r := H; have A3 := Aside0.mk A30; clear A30
  by_cases c4 : 1 + t200.size ≤ 9223372036854775807
  rotate_left
  ·rw [if_neg c4] at H; exact absurd H (by simp)
  rw [if_pos c4] at H; have c4b0 := eq_true c4; have c4b1 := decide_eq_true c4
  try have c4b2 := eq_false (Nat.not_lt.2 c4)
  obtain rfl := Option.some.inj H; go_enter Try.func151, Try.ntmps151
  go_wp2_with (first | ((with_reducible refine gate_callee (f := 151) rfl ?_); refine goesL_ (some 8) rfl rfl Try.func151 kZ rfl #[.int .i64 (wrap64 (-a0))] rfl tZA ?_; (with_reducible refine (ih k (by omega) (wrap64 (-a0)) t200 _ A3.out).mono ?_); rintro e w5 ⟨rfl, hb⟩; refine ⟨_, rfl, ?_⟩; replace HB := aZ (below_step (lZB HB.out) hb); (try clear hb); (try clear hb2); (try clear hk); (try clear hi)))
  go_ret; exact ⟨tZC, bZ⟩
 rw [if_neg c2] at H; have c2b0 := decide_eq_false c2; clear c2; obtain ⟨y201, hy201⟩ : ∃ y_ : List Int, y_ = (([(wrap64 (48 + (Int.tmod a0 10))) % 256] : List Int)) := ⟨_, rfl⟩; replace H : (impl_decimal.l0 k (wrap64 (Int.tdiv a0 10)) (strOfNums y201)) = some r := by first | (rw [hy201]; with_reducible exact H) | (have H2_ := (Option.bind_some _ _).symm.trans H; rw [hy201]; with_reducible exact H2_) | (have H2_ := (Option.bind_some _ _).symm.trans H; with_reducible exact H2_) | with_reducible exact H | (rw [hy201]; exact H) | exact H
 have Ny201 := Aside0.mk hy201; clear hy201; have H' := Aside0.mk H; clear H; go_enter Try.func151, Try.ntmps151
 go_wp2_with (first | ((with_reducible refine gate_dst (N := 14) rfl ?_); refine Kd.R_lit (Kd.int .u8) _ 5 ?hg (N := 14) ?hd (xs := ([(wrap64 (48 + (Int.tmod a0 10))) % 256] : List Int)) (inner := [.int .u8 ((wrap64 (48 + (Int.tmod a0 10))) % 256)]) (ok := fun _ => True) (okp := fun _ => True) ?hr ?hp (fun _ hk => hk) trivial (Below.refl _ _) (Nat.le_refl _) (by simp) ?_; (case hd => rfl); (case hg => rfl); (case hr => first | (go_simp; done) | (go_simp; rfl)); (case hp => exact (Reps.one (show Kd.M (Kd.int .u8) _ _ _ ((wrap64 (48 + (Int.tmod a0 10))) % 256) [.int .u8 ((wrap64 (48 + (Int.tmod a0 10))) % 256)] from rfl) (Reps.none _ _))); intro v202 w6 ho7 hb hg_ hnew_; clear hg_ hnew_; (first | rw [← Ny201.out] at ho7 | (simp only [Int.reduceToNat] at ho7; rw [← Ny201.out] at ho7)); have HO203 := aZ (Kd.R_lower ho7 (below_size (lZB HB.out))); replace HB := aZ (below_step (lZB HB.out) hb); clear hb ho7; have hcv8 := own_string (P := Try.prog) Try.underlying204 Try.underlying5 Try.underlying9 (Kd.own_of_R HO203.out)))
 go_loopg [0, 3] k (fun kq v0 v3 w' => ∃ (x0_1 : Int) (x3_1 : ByteArray), v0 = .int .i64 x0_1 ∧ v3 = .string x3_1 ∧ Aside0 (impl_decimal.l0 kq x0_1 x3_1 = some r) ∧ Aside0 (kq ≤ k) ∧ Aside0 (Below w.heap.size w w'))
 case atStart => exact ⟨(wrap64 (Int.tdiv a0 10)), (strOfNums y201), tZB, tZB, H', ⟨Nat.le_refl _⟩, ⟨bZ⟩⟩
 case round =>
  clear H'; (try clear c2 c2b0 hcv8); obtain ⟨x0_1, x3_1, rfl, rfl, HA, HK1, HB⟩ := hrel
  cases gk with
  | zero => exact absurd HA.out (by simp [impl_decimal.l0])
  | succ k1 =>
   have H := HA.out; clear HA; simp only [impl_decimal.l0] at H
   by_cases c9 : x0_1 > 0
   rotate_left
   ·rw [if_neg c9] at H; have c9b0 : decide (0 < x0_1) = false := decide_eq_false c9; clear c9; obtain rfl := Option.some.inj H; go_wp2; go_ret; exact ⟨tZC, bZ⟩
   rw [if_pos c9] at H; have c9b0 : decide (0 < x0_1) = true := decide_eq_true c9; clear c9; obtain ⟨y204, hy204⟩ : ∃ y_ : List Int, y_ = (([(wrap64 (48 + (Int.tmod x0_1 10))) % 256] : List Int)) := ⟨_, rfl⟩; replace H : (if (strOfNums y204).size + x3_1.size ≤ 9223372036854775807 then (impl_decimal.l0 k1 (wrap64 (Int.tdiv x0_1 10)) ((strOfNums y204) ++ x3_1)) else (none)) = some r := by first | (rw [hy204]; with_reducible exact H) | (have H2_ := (Option.bind_some _ _).symm.trans H; rw [hy204]; with_reducible exact H2_) | (have H2_ := (Option.bind_some _ _).symm.trans H; with_reducible exact H2_) | with_reducible exact H | (rw [hy204]; exact H) | exact H
   have Ny204 := Aside0.mk hy204; clear hy204
   by_cases c10 : (strOfNums y204).size + x3_1.size ≤ 9223372036854775807
   rotate_left
   ·rw [if_neg c10] at H; exact absurd H (by simp)
   rw [if_pos c10] at H; have c10b0 := eq_true c10; have c10b1 := decide_eq_true c10
   try have c10b2 := eq_false (Nat.not_lt.2 c10)
   have H' := Aside0.mk H; clear H
   go_wp2_with (first | ((with_reducible refine gate_dst (N := 26) rfl ?_); refine Kd.R_lit (Kd.int .u8) _ 5 ?hg (N := 26) ?hd (xs := ([(wrap64 (48 + (Int.tmod x0_1 10))) % 256] : List Int)) (inner := [.int .u8 ((wrap64 (48 + (Int.tmod x0_1 10))) % 256)]) (ok := fun _ => True) (okp := fun _ => True) ?hr ?hp (fun _ hk => hk) trivial (Below.refl _ _) (Nat.le_refl _) (by simp) ?_; (case hd => rfl); (case hg => rfl); (case hr => first | (go_simp; done) | (go_simp; rfl)); (case hp => exact (Reps.one (show Kd.M (Kd.int .u8) _ _ _ ((wrap64 (48 + (Int.tmod x0_1 10))) % 256) [.int .u8 ((wrap64 (48 + (Int.tmod x0_1 10))) % 256)] from rfl) (Reps.none _ _))); intro v205 w11 ho12 hb hg_ hnew_; clear hg_ hnew_; (first | rw [← Ny204.out] at ho12 | (simp only [Int.reduceToNat] at ho12; rw [← Ny204.out] at ho12)); have HO206 := aZ (Kd.R_lower ho12 (below_size (lZB HB.out))); replace HB := aZ (below_step (lZB HB.out) hb); clear hb ho12; have hcv13 := own_string (P := Try.prog) Try.underlying204 Try.underlying5 Try.underlying9 (Kd.own_of_R HO206.out)))
   go_roundg k1
   case measure => have := HK1.out; omega
   case rel => exact ⟨(wrap64 (Int.tdiv x0_1 10)), ((strOfNums y204) ++ x3_1), tZB, tZB, H', ⟨by have := HK1.out; omega⟩, ⟨bZ⟩⟩
mutual
def impl_ShowMoney.j0 : Nat → Int → Int → Bool → Option (ByteArray)
  | 0, _, _, _ => none
  | k + 1, x0, x1, x14 => if x14 = true then (some (⟨#[]⟩ : ByteArray)) else (if x0 < 0 then (impl_ShowMoney.j1 k (wrap64 (-x0)) x1 (⟨#[45]⟩ : ByteArray)) else (impl_ShowMoney.j1 k x0 x1 (⟨#[]⟩ : ByteArray)))
def impl_ShowMoney.j1 : Nat → Int → Int → ByteArray → Option (ByteArray)
  | 0, _, _, _ => none
  | k + 1, x0, x1, x5 => (impl_decimal.f k x0).bind fun t209 => (impl_ShowMoney.l0 k x1 x5 t209)
def impl_ShowMoney.l0 : Nat → Int → ByteArray → ByteArray → Option (ByteArray)
  | 0, _, _, _ => none
  | k + 1, x1, x5, x6 => if (x6.size : Int) ≤ x1 then (if 1 + x6.size ≤ 9223372036854775807 then (impl_ShowMoney.l0 k x1 x5 ((⟨#[48]⟩ : ByteArray) ++ x6)) else (none)) else (if x1 = 0 then (if x5.size + x6.size ≤ 9223372036854775807 then (some (x5 ++ x6)) else (none)) else (if 0 ≤ (wrap64 ((x6.size : Int) - x1)) then (if (wrap64 ((x6.size : Int) - x1)) ≤ (x6.size : Int) then (if x5.size + (x6.extract 0 ((wrap64 ((x6.size : Int) - x1)) : Int).toNat).size ≤ 9223372036854775807 then (if (x5 ++ (x6.extract 0 ((wrap64 ((x6.size : Int) - x1)) : Int).toNat)).size + 1 ≤ 9223372036854775807 then (if ((x5 ++ (x6.extract 0 ((wrap64 ((x6.size : Int) - x1)) : Int).toNat)) ++ (⟨#[46]⟩ : ByteArray)).size + (x6.extract ((wrap64 ((x6.size : Int) - x1)) : Int).toNat x6.size).size ≤ 9223372036854775807 then (some (((x5 ++ (x6.extract 0 ((wrap64 ((x6.size : Int) - x1)) : Int).toNat)) ++ (⟨#[46]⟩ : ByteArray)) ++ (x6.extract ((wrap64 ((x6.size : Int) - x1)) : Int).toNat x6.size))) else (none)) else (none)) else (none)) else (none)) else (none)))
end
def impl_ShowMoney.f (k : Nat) (a0 : Int) (a1 : Int) : Option (ByteArray) := (impl_amount.f a0).bind fun t207 => (if t207 = true then ((impl_between.f a1 0 6).bind fun t208 => (impl_ShowMoney.j0 k a0 a1 (!t208))) else (impl_ShowMoney.j0 k a0 a1 true))
theorem impl_ShowMoney.mono_l : ∀ k, (∀ y0 y1 y2, LeO (impl_ShowMoney.j0 k y0 y1 y2) (impl_ShowMoney.j0 (k + 1) y0 y1 y2)) ∧ (∀ y0 y1 y2, LeO (impl_ShowMoney.j1 k y0 y1 y2) (impl_ShowMoney.j1 (k + 1) y0 y1 y2)) ∧ (∀ y0 y1 y2, LeO (impl_ShowMoney.l0 k y0 y1 y2) (impl_ShowMoney.l0 (k + 1) y0 y1 y2))
  | 0 => ⟨fun _ _ _ r h => by simp [impl_ShowMoney.j0] at h, fun _ _ _ r h => by simp [impl_ShowMoney.j1] at h, fun _ _ _ r h => by simp [impl_ShowMoney.l0] at h⟩
  | k + 1 => by
    obtain ⟨ih0, ih1, ih2⟩ := impl_ShowMoney.mono_l k
    refine ⟨?_, ?_, ?_⟩
    · intro y0 y1 y2
      unfold impl_ShowMoney.j0
      repeat' first
      | (with_reducible exact ih0 _ _ _)
      | (with_reducible exact ih1 _ _ _)
      | (with_reducible exact ih2 _ _ _)
      | (with_reducible exact impl_decimal.mono _ _)
      | (with_reducible exact LeO.refl _)
      | (with_reducible exact LeO.none _)
      | (with_reducible refine LeO.ite ?_ ?_)
      | (with_reducible refine LeO.bind ?_ (fun _ => ?_))
      | exact ih0 _ _ _
      | exact ih1 _ _ _
      | exact ih2 _ _ _
      | exact impl_decimal.mono _ _
      | exact LeO.none _
      | refine LeO.ite ?_ ?_
      | refine LeO.bind ?_ (fun _ => ?_)
    · intro y0 y1 y2
      unfold impl_ShowMoney.j1
      repeat' first
      | (with_reducible exact ih0 _ _ _)
      | (with_reducible exact ih1 _ _ _)
      | (with_reducible exact ih2 _ _ _)
      | (with_reducible exact impl_decimal.mono _ _)
      | (with_reducible exact LeO.refl _)
      | (with_reducible exact LeO.none _)
      | (with_reducible refine LeO.ite ?_ ?_)
      | (with_reducible refine LeO.bind ?_ (fun _ => ?_))
      | exact ih0 _ _ _
      | exact ih1 _ _ _
      | exact ih2 _ _ _
      | exact impl_decimal.mono _ _
      | exact LeO.none _
      | refine LeO.ite ?_ ?_
      | refine LeO.bind ?_ (fun _ => ?_)
    · intro y0 y1 y2
      unfold impl_ShowMoney.l0
      repeat' first
      | (with_reducible exact ih0 _ _ _)
      | (with_reducible exact ih1 _ _ _)
      | (with_reducible exact ih2 _ _ _)
      | (with_reducible exact impl_decimal.mono _ _)
      | (with_reducible exact LeO.refl _)
      | (with_reducible exact LeO.none _)
      | (with_reducible refine LeO.ite ?_ ?_)
      | (with_reducible refine LeO.bind ?_ (fun _ => ?_))
      | exact ih0 _ _ _
      | exact ih1 _ _ _
      | exact ih2 _ _ _
      | exact impl_decimal.mono _ _
      | exact LeO.none _
      | refine LeO.ite ?_ ?_
      | refine LeO.bind ?_ (fun _ => ?_)
theorem impl_ShowMoney.mono : ∀ a0 a1 k, LeO (impl_ShowMoney.f k a0 a1) (impl_ShowMoney.f (k + 1) a0 a1) := by
 intro a0 a1 k
 obtain ⟨ih0, ih1, ih2⟩ := impl_ShowMoney.mono_l k
 unfold impl_ShowMoney.f
 repeat' first
     | (with_reducible exact ih0 _ _ _)
     | (with_reducible exact ih1 _ _ _)
     | (with_reducible exact ih2 _ _ _)
     | (with_reducible exact impl_decimal.mono _ _)
     | (with_reducible exact LeO.refl _)
     | (with_reducible exact LeO.none _)
     | (with_reducible refine LeO.ite ?_ ?_)
     | (with_reducible refine LeO.bind ?_ (fun _ => ?_))
     | exact ih0 _ _ _
     | exact ih1 _ _ _
     | exact ih2 _ _ _
     | exact impl_decimal.mono _ _
     | exact LeO.none _
     | refine LeO.ite ?_ ?_
     | refine LeO.bind ?_ (fun _ => ?_)
set_option maxHeartbeats 8000000 in
set_option maxRecDepth 100000 in
theorem impl_ShowMoney.calls (k : Nat) (a0 : Int) (a1 : Int) (r : ByteArray) (w : World) (h : impl_ShowMoney.f k a0 a1 = some r) :
    Calls Try.prog 85 #[.int .i64 a0, .int .i64 a1] w fun e w' => e = .returned (.string r) ∧ Below w.heap.size w w' := by
 have HB := aZ (Below.refl w.heap.size w); have H : ((impl_amount.f a0).bind fun t207 => (if t207 = true then ((impl_between.f a1 0 6).bind fun t208 => (impl_ShowMoney.j0 k a0 a1 (!t208))) else (impl_ShowMoney.j0 k a0 a1 true))) = some r := h; clear h; have HC3 := Aside0.mk H; clear H; go_enter Try.func85, Try.ntmps85
 go_upto_region 1 with (fail)
 repeat (go_quiet (fail); go_upto_region 1 with (fail))
 go_cut [14] (fun v14 wc => ∃ (kq : Nat) (x14_2 : Bool), v14 = .bool x14_2 ∧ Aside0 (impl_ShowMoney.j0 kq a0 a1 x14_2 = some r) ∧ Aside0 (kq ≤ k) ∧ Aside0 (Below w.heap.size w wc))
 case first =>
  have H := HC3.out; clear HC3; replace H := Option.bind_eq_some_iff.mp H; obtain ⟨t207, A40, H⟩ := H; replace H : (if t207 = true then ((impl_between.f a1 0 6).bind fun t208 => (impl_ShowMoney.j0 k a0 a1 (!t208))) else (impl_ShowMoney.j0 k a0 a1 true)) = some r := H; have A4 := Aside0.mk A40; clear A40
  by_cases c5 : t207 = true
  rotate_left
  ·replace c5 := Bool.eq_false_iff.mpr c5; subst c5; rw [if_neg Bool.false_ne_true] at H; have H' := Aside0.mk H; clear H
   go_wp2_with (first | (go_at_call 103; (with_reducible refine (impl_amount.calls a0 false _ A4.out).mono ?_); rintro e w' ⟨rfl, ⟨nd, rfl⟩⟩; (try first | exact ⟨rfl, _, World.drewN_drewN _ _ _⟩ | exact ⟨rfl, _, Eq.trans (World.drewN_drewN _ _ _) (congrArg (World.drewN _) (Nat.add_assoc _ _ _))⟩)))
   repeat (go_quiet (first | (go_at_call 103; (with_reducible refine (impl_amount.calls a0 false _ A4.out).mono ?_); rintro e w' ⟨rfl, ⟨nd, rfl⟩⟩; (try first | exact ⟨rfl, _, World.drewN_drewN _ _ _⟩ | exact ⟨rfl, _, Eq.trans (World.drewN_drewN _ _ _) (congrArg (World.drewN _) (Nat.add_assoc _ _ _))⟩))); try go_wp2_with (first | (go_at_call 103; (with_reducible refine (impl_amount.calls a0 false _ A4.out).mono ?_); rintro e w' ⟨rfl, ⟨nd, rfl⟩⟩; (try first | exact ⟨rfl, _, World.drewN_drewN _ _ _⟩ | exact ⟨rfl, _, Eq.trans (World.drewN_drewN _ _ _) (congrArg (World.drewN _) (Nat.add_assoc _ _ _))⟩))))
   go_meet
   case rel => exact ⟨_, (true), tZB, H', ⟨by first | omega | exact Nat.le_refl _⟩, ⟨bZ⟩⟩
  subst c5; rw [if_pos rfl] at H; replace H := Option.bind_eq_some_iff.mp H; obtain ⟨t208, A60, H⟩ := H; replace H : (impl_ShowMoney.j0 k a0 a1 (!t208)) = some r := H; have A6 := Aside0.mk A60; clear A60; have H' := Aside0.mk H; clear H
  go_wp2_with (first | (go_at_call 103; (with_reducible refine (impl_amount.calls a0 true _ A4.out).mono ?_); rintro e w' ⟨rfl, ⟨nd, rfl⟩⟩; (try first | exact ⟨rfl, _, World.drewN_drewN _ _ _⟩ | exact ⟨rfl, _, Eq.trans (World.drewN_drewN _ _ _) (congrArg (World.drewN _) (Nat.add_assoc _ _ _))⟩)) | (go_at_call 120; (with_reducible refine (impl_between.calls a1 0 6 t208 _ A6.out).mono ?_); rintro e w' ⟨rfl, ⟨nd, rfl⟩⟩; (try first | exact ⟨rfl, _, World.drewN_drewN _ _ _⟩ | exact ⟨rfl, _, Eq.trans (World.drewN_drewN _ _ _) (congrArg (World.drewN _) (Nat.add_assoc _ _ _))⟩)))
  repeat (go_quiet (first | (go_at_call 103; (with_reducible refine (impl_amount.calls a0 true _ A4.out).mono ?_); rintro e w' ⟨rfl, ⟨nd, rfl⟩⟩; (try first | exact ⟨rfl, _, World.drewN_drewN _ _ _⟩ | exact ⟨rfl, _, Eq.trans (World.drewN_drewN _ _ _) (congrArg (World.drewN _) (Nat.add_assoc _ _ _))⟩)) | (go_at_call 120; (with_reducible refine (impl_between.calls a1 0 6 t208 _ A6.out).mono ?_); rintro e w' ⟨rfl, ⟨nd, rfl⟩⟩; (try first | exact ⟨rfl, _, World.drewN_drewN _ _ _⟩ | exact ⟨rfl, _, Eq.trans (World.drewN_drewN _ _ _) (congrArg (World.drewN _) (Nat.add_assoc _ _ _))⟩))); try go_wp2_with (first | (go_at_call 103; (with_reducible refine (impl_amount.calls a0 true _ A4.out).mono ?_); rintro e w' ⟨rfl, ⟨nd, rfl⟩⟩; (try first | exact ⟨rfl, _, World.drewN_drewN _ _ _⟩ | exact ⟨rfl, _, Eq.trans (World.drewN_drewN _ _ _) (congrArg (World.drewN _) (Nat.add_assoc _ _ _))⟩)) | (go_at_call 120; (with_reducible refine (impl_between.calls a1 0 6 t208 _ A6.out).mono ?_); rintro e w' ⟨rfl, ⟨nd, rfl⟩⟩; (try first | exact ⟨rfl, _, World.drewN_drewN _ _ _⟩ | exact ⟨rfl, _, Eq.trans (World.drewN_drewN _ _ _) (congrArg (World.drewN _) (Nat.add_assoc _ _ _))⟩))))
  go_meet
  case rel => exact ⟨_, (!t208), tZB, H', ⟨by first | omega | exact Nat.le_refl _⟩, ⟨bZ⟩⟩
 case rest =>
  clear HC3; obtain ⟨kq, x14_2, rfl, HA, HJ2, HB⟩ := hcut
  cases kq with
  | zero => exact absurd HA.out (by simp [impl_ShowMoney.j0])
  | succ kj2 =>
   have H := HA.out; clear HA; simp only [impl_ShowMoney.j0] at H
   by_cases c7 : x14_2 = true
   ·subst c7; rw [if_pos rfl] at H; obtain rfl := Option.some.inj H; go_wp2
    repeat (go_quiet (fail); try go_wp2)
    go_ret; exact ⟨tZC, bZ⟩
   replace c7 := Bool.eq_false_iff.mpr c7; subst c7; rw [if_neg Bool.false_ne_true] at H; have HC8 := Aside0.mk H; clear H
   go_upto_if 16 with (fail)
   repeat (go_quiet (fail); go_upto_if 16 with (fail))
   go_cut [0, 5] (fun v0 v5 wc => ∃ (kq : Nat) (x0_7 : Int) (x5_7 : ByteArray), v0 = .int .i64 x0_7 ∧ v5 = .string x5_7 ∧ Aside0 (impl_ShowMoney.j1 kq x0_7 a1 x5_7 = some r) ∧ Aside0 (kq ≤ kj2) ∧ Aside0 (Below w.heap.size w wc))
   case first =>
    have H := HC8.out; clear HC8
    by_cases c9 : a0 < 0
    rotate_left
    ·rw [if_neg c9] at H; have c9b0 := decide_eq_false c9; clear c9; (first | rw [c9b0] | (simp only [i64_w, i32_w]; rw [c9b0]) | skip); have H' := Aside0.mk H; clear H; go_wp2
     repeat (go_quiet (fail); try go_wp2)
     go_meet
     case rel => exact ⟨_, (a0), ((⟨#[]⟩ : ByteArray)), tZB, tZB, H', ⟨by have := HJ2.out; first | omega | exact Nat.le_refl _⟩, ⟨bZ⟩⟩
    rw [if_pos c9] at H; have c9b0 := decide_eq_true c9; clear c9; (first | rw [c9b0] | (simp only [i64_w, i32_w]; rw [c9b0]) | skip); have H' := Aside0.mk H; clear H; go_wp2
    repeat (go_quiet (fail); try go_wp2)
    go_meet
    case rel => exact ⟨_, (wrap64 (-a0)), ((⟨#[45]⟩ : ByteArray)), tZB, tZB, H', ⟨by have := HJ2.out; first | omega | exact Nat.le_refl _⟩, ⟨bZ⟩⟩
   case rest =>
    clear HC8; (try clear c7); obtain ⟨kq, x0_7, x5_7, rfl, rfl, HA, HJ7, HB⟩ := hcut
    cases kq with
    | zero => exact absurd HA.out (by simp [impl_ShowMoney.j1])
    | succ kj7 =>
     have H := HA.out; clear HA; simp only [impl_ShowMoney.j1] at H; replace H := Option.bind_eq_some_iff.mp H; obtain ⟨t209, A100, H⟩ := H; replace H : (impl_ShowMoney.l0 kj7 a1 x5_7 t209) = some r := H; have A10 := Aside0.mk A100; clear A100; have H' := Aside0.mk H; clear H
     go_wp2_with (first | (go_at_call 151; (with_reducible refine (impl_decimal.calls kj7 x0_7 t209 _ A10.out).mono ?_); rintro e w11 ⟨rfl, hb⟩; replace HB := aZ (below_step (lZB HB.out) hb); (try clear hb); (try clear hb2); (try clear hk); (try clear hi)))
     repeat (go_quiet (first | (go_at_call 151; (with_reducible refine (impl_decimal.calls kj7 x0_7 t209 _ A10.out).mono ?_); rintro e w11 ⟨rfl, hb⟩; replace HB := aZ (below_step (lZB HB.out) hb); (try clear hb); (try clear hb2); (try clear hk); (try clear hi))); try go_wp2_with (first | (go_at_call 151; (with_reducible refine (impl_decimal.calls kj7 x0_7 t209 _ A10.out).mono ?_); rintro e w11 ⟨rfl, hb⟩; replace HB := aZ (below_step (lZB HB.out) hb); (try clear hb); (try clear hb2); (try clear hk); (try clear hi))))
     go_loopg [6] kj7 (fun kq v6 w' => ∃ (x6_3 : ByteArray), v6 = .string x6_3 ∧ Aside0 (impl_ShowMoney.l0 kq a1 x5_7 x6_3 = some r) ∧ Aside0 (kq ≤ kj7) ∧ Aside0 (Below w.heap.size w w'))
     case atStart => exact ⟨(t209), tZB, H', ⟨Nat.le_refl _⟩, ⟨bZ⟩⟩
     case round =>
      clear H'; (try clear c7); obtain ⟨x6_3, rfl, HA, HK3, HB⟩ := hrel
      cases gk with
      | zero => exact absurd HA.out (by simp [impl_ShowMoney.l0])
      | succ k3 =>
       have H := HA.out; clear HA; simp only [impl_ShowMoney.l0] at H
       by_cases c12 : (x6_3.size : Int) ≤ a1
       ·rw [if_pos c12] at H; have c12b0 := decide_eq_true c12; clear c12
        by_cases c13 : 1 + x6_3.size ≤ 9223372036854775807
        rotate_left
        ·rw [if_neg c13] at H; exact absurd H (by simp)
        rw [if_pos c13] at H; have c13b0 := eq_true c13; have c13b1 := decide_eq_true c13
        try have c13b2 := eq_false (Nat.not_lt.2 c13)
        have H' := Aside0.mk H; clear H; go_wp2
        repeat (go_quiet (fail); try go_wp2)
        go_roundg k3
        case measure => have := HJ2.out; have := HJ7.out; have := HK3.out; omega
        case rel => exact ⟨((⟨#[48]⟩ : ByteArray) ++ x6_3), tZB, H', ⟨by have := HJ2.out; have := HJ7.out; have := HK3.out; omega⟩, ⟨bZ⟩⟩
       rw [if_neg c12] at H; have c12b0 := decide_eq_false c12; clear c12
       by_cases c14 : a1 = 0
       ·rw [if_pos c14] at H; have c14b0 : (a1 == 0) = true := beq_iff_eq.mpr c14; have c14b1 : (a1 != 0) = false := bne_eq_false_iff_eq.mpr c14; clear c14
        by_cases c15 : x5_7.size + x6_3.size ≤ 9223372036854775807
        rotate_left
        ·rw [if_neg c15] at H; exact absurd H (by simp)
        rw [if_pos c15] at H; have c15b0 := eq_true c15; have c15b1 := decide_eq_true c15
        try have c15b2 := eq_false (Nat.not_lt.2 c15)
        obtain rfl := Option.some.inj H; go_wp2
        repeat (go_quiet (fail); try go_wp2)
        go_ret; exact ⟨tZC, bZ⟩
       rw [if_neg c14] at H; have c14b0 : (a1 == 0) = false := beq_eq_false_iff_ne.mpr c14; have c14b1 : (a1 != 0) = true := bne_iff_ne.mpr c14; obtain ⟨ji16, hji16⟩ : ∃ j_ : Int, (wrap64 ((x6_3.size : Int) - a1)) = j_ := ⟨_, rfl⟩
       replace H : (if 0 ≤ (ji16) then (if (ji16) ≤ (x6_3.size : Int) then (if x5_7.size + (x6_3.extract 0 ((ji16) : Int).toNat).size ≤ 9223372036854775807 then (if (x5_7 ++ (x6_3.extract 0 ((ji16) : Int).toNat)).size + 1 ≤ 9223372036854775807 then (if ((x5_7 ++ (x6_3.extract 0 ((ji16) : Int).toNat)) ++ (⟨#[46]⟩ : ByteArray)).size + (x6_3.extract ((ji16) : Int).toNat x6_3.size).size ≤ 9223372036854775807 then (some (((x5_7 ++ (x6_3.extract 0 ((ji16) : Int).toNat)) ++ (⟨#[46]⟩ : ByteArray)) ++ (x6_3.extract ((ji16) : Int).toNat x6_3.size))) else (none)) else (none)) else (none)) else (none)) else (none)) = some r := by first | (rw [hji16] at H; exact H) | (simp only [hji16] at H ⊢; exact H)
       have hji16w : (IntKind.i64.wrap ((x6_3.size : Int) - a1)) = ji16 := (i64_w _).trans hji16
       by_cases c17 : 0 ≤ (ji16)
       rotate_left
       ·rw [if_neg c17] at H; exact absurd H (by simp)
       rw [if_pos c17] at H; have c17b0 := eq_true c17; have c17b1 := decide_eq_true c17; clear c17
       by_cases c18 : (ji16) ≤ (x6_3.size : Int)
       rotate_left
       ·rw [if_neg c18] at H; exact absurd H (by simp)
       rw [if_pos c18] at H; have c18b0 := eq_true c18; have c18b1 := decide_eq_true c18; clear c18
       by_cases c19 : x5_7.size + (x6_3.extract 0 ((ji16) : Int).toNat).size ≤ 9223372036854775807
       rotate_left
       ·rw [if_neg c19] at H; exact absurd H (by simp)
       rw [if_pos c19] at H; have c19b0 := eq_true c19; have c19b1 := decide_eq_true c19
       try have c19b2 := eq_false (Nat.not_lt.2 c19)
       try have c19b5 : (9223372036854775807 < x5_7.size + ji16.toNat) = False := eq_false (by have h_ := c19; have e0_ : ji16 ≤ (x6_3.size : Int) := of_decide_eq_true tZE; simp only [ByteArray.size_append, ByteArray.size_extract] at h_; omega)
       by_cases c20 : (x5_7 ++ (x6_3.extract 0 ((ji16) : Int).toNat)).size + 1 ≤ 9223372036854775807
       rotate_left
       ·rw [if_neg c20] at H; exact absurd H (by simp)
       rw [if_pos c20] at H; have c20b0 := eq_true c20; have c20b1 := decide_eq_true c20
       try have c20b2 := eq_false (Nat.not_lt.2 c20)
       try have c20b5 : (9223372036854775807 < x5_7.size + ji16.toNat + 1) = False := eq_false (by have h_ := c20; have e0_ : ji16 ≤ (x6_3.size : Int) := of_decide_eq_true tZE; simp only [ByteArray.size_append, ByteArray.size_extract] at h_; omega)
       have c21b0 := eq_true (of_decide_eq_true tZE : 0 ≤ (ji16)); have c22b0 := eq_true (of_decide_eq_true tZE : (ji16) ≤ (x6_3.size : Int))
       by_cases c23 : ((x5_7 ++ (x6_3.extract 0 ((ji16) : Int).toNat)) ++ (⟨#[46]⟩ : ByteArray)).size + (x6_3.extract ((ji16) : Int).toNat x6_3.size).size ≤ 9223372036854775807
       rotate_left
       ·rw [if_neg c23] at H; exact absurd H (by simp)
       rw [if_pos c23] at H; have c23b0 := eq_true c23; have c23b1 := decide_eq_true c23
       try have c23b2 := eq_false (Nat.not_lt.2 c23)
       try have c23b5 : (9223372036854775807 < x5_7.size + ji16.toNat + 1 + (x6_3.size - ji16.toNat)) = False := eq_false (by have h_ := c23; have e0_ : ji16 ≤ (x6_3.size : Int) := of_decide_eq_true tZE; have e1_ : (⟨#[46]⟩ : ByteArray).size = 1 := rfl; simp only [ByteArray.size_append, ByteArray.size_extract] at h_; omega)
       obtain rfl := Option.some.inj H; go_wp2
       repeat (go_quiet (fail); try go_wp2)
       go_ret; exact ⟨by first | rfl | (simp [errW_none, errW_some] <;> rfl) | (simp only [← hji16]; first | rfl | (simp [errW_none, errW_some] <;> rfl)) | (simp [*, errW_none, errW_some] <;> rfl), bZ⟩
end Go.Proofs.Ytjnmfadnkbflfaa.PFnExactParseFlow
