import Derived.Test.YtmpknbdbichdiaaBPFnExactReadBankx0
import Derived.Test.YtmpknbdbichdiaaBSlimWords
namespace Go.Proofs.Ytmpknbdbichdiaa.PFnExactReadBank
open Go.Proofs.Ytmpknbdbichdiaa.SlimWords
open Go.RowKit Go.Proofs.YtmpknbdbichdiaaW.PrintWords Go.Proofs.YtmpknbdbichdiaaW.PrintLast Go.Proofs.YtmpknbdbichdiaaW.PrintMore Go.Proofs.Ytmpknbdbichdiaa.MapWords Go.Proofs.Ytmpknbdbichdiaa.IterWords Go.Proofs.Ytmpknbdbichdiaa.MarkWords
attribute [local go_sem] max2_int min2_int max_two min_two max_three min_three max_four min_four
set_option linter.unusedVariables false
set_option linter.unusedSimpArgs false
def impl_between.f (a0 : Int) (a1 : Int) (a2 : Int) : Option (Bool) := if a0 ≥ a1 then (some (decide (a0 ≤ a2))) else (some false)
set_option maxHeartbeats 8000000 in
set_option maxRecDepth 100000 in
theorem impl_between.calls (a0 : Int) (a1 : Int) (a2 : Int) (r : Bool) (w : World) (h : impl_between.f a0 a1 a2 = some r) :
    Calls Try.prog 71 #[.int .i64 a0, .int .i64 a1, .int .i64 a2] w fun e w' => e = .returned (.bool r) ∧ Drawn0 w w' := by
 have H : (if a0 ≥ a1 then (some (decide (a0 ≤ a2))) else (some false)) = some r := h
 clear h
 by_cases c4 : a0 ≥ a1
 ·rw [if_pos c4] at H
  have c4b0 : decide (a1 ≤ a0) = true := decide_eq_true c4
  clear c4
  obtain rfl := Option.some.inj H
  go_enter Try.func71, Try.ntmps71
  go_wp2
  go_ret
  exact ⟨tZB, tZD⟩
 rw [if_neg c4] at H
 have c4b0 : decide (a1 ≤ a0) = false := decide_eq_false c4
 clear c4
 obtain rfl := Option.some.inj H
 go_enter Try.func71, Try.ntmps71
 go_wp2
 go_ret
 exact ⟨tZB, tZD⟩
def impl_isDay.f (a0 : Int) : Option (Bool) := (impl_between.f a0 0 40000).bind fun t215 => (some t215)
set_option maxHeartbeats 8000000 in
set_option maxRecDepth 100000 in
theorem impl_isDay.calls (a0 : Int) (r : Bool) (w : World) (h : impl_isDay.f a0 = some r) :
    Calls Try.prog 72 #[.int .i64 a0] w fun e w' => e = .returned (.bool r) ∧ Drawn0 w w' := by
 have H : ((impl_between.f a0 0 40000).bind fun t215 => (some t215)) = some r := h
 clear h
 replace H := Option.bind_eq_some_iff.mp H
 obtain ⟨t215, A20, H⟩ := H
 replace H : (some t215) = some r := H
 have A2 := Aside0.mk A20
 clear A20
 obtain rfl := Option.some.inj H
 go_enter Try.func72, Try.ntmps72
 go_wp2_with (first | ((with_reducible refine gate_callee (f := 71) rfl ?_); refine goesL_ (some 4) rfl rfl Try.func71 kZ rfl #[.int .i64 a0, .int .i64 0, .int .i64 40000] rfl tZA ?_; (with_reducible refine (impl_between.calls a0 0 40000 t215 _ A2.out).mono ?_); rintro e w' ⟨rfl, ⟨nd, rfl⟩⟩; refine ⟨_, rfl, ?_⟩))
 go_ret
 exact ⟨tZB, tZD⟩
def impl_firstLine.l0 : Nat → ByteArray → Int → Option (ByteArray × ByteArray × Bool)
  | 0, _, _ => none
  | k + 1, x0, x5 => if x5 < (x0.size : Int) then (if 0 ≤ x5 then (if (bt x0 x5) = 10 then (if x5 ≤ (x0.size : Int) then (if 0 ≤ (wrap64 (x5 + 1)) then (if (wrap64 (x5 + 1)) ≤ (x0.size : Int) then (some (x0.extract 0 (x5 : Int).toNat, x0.extract ((wrap64 (x5 + 1)) : Int).toNat x0.size, true)) else (none)) else (none)) else (none)) else (impl_firstLine.l0 k x0 (wrap64 (x5 + 1)))) else (none)) else (some (x0, (⟨#[]⟩ : ByteArray), false))
def impl_firstLine.f (k : Nat) (a0 : ByteArray) : Option (ByteArray × ByteArray × Bool) := impl_firstLine.l0 k a0 0
theorem impl_firstLine.mono_l : ∀ k, (∀ y0 y1, LeO (impl_firstLine.l0 k y0 y1) (impl_firstLine.l0 (k + 1) y0 y1))
  | 0 => fun _ _ r h => by simp [impl_firstLine.l0] at h
  | k + 1 => by
    have ih0 := impl_firstLine.mono_l k
    · intro y0 y1
      unfold impl_firstLine.l0
      repeat' first
      | (with_reducible exact ih0 _ _)
      | (with_reducible exact LeO.refl _)
      | (with_reducible exact LeO.none _)
      | (with_reducible refine LeO.ite ?_ ?_)
      | (with_reducible refine LeO.bind ?_ (fun _ => ?_))
      | exact ih0 _ _
      | exact LeO.none _
      | refine LeO.ite ?_ ?_
      | refine LeO.bind ?_ (fun _ => ?_)
theorem impl_firstLine.mono : ∀ a0 k, LeO (impl_firstLine.f k a0) (impl_firstLine.f (k + 1) a0) := by
 intro a0 k
 have ih0 := impl_firstLine.mono_l k
 unfold impl_firstLine.f
 repeat' first
     | (with_reducible exact ih0 _ _)
     | (with_reducible exact LeO.refl _)
     | (with_reducible exact LeO.none _)
     | (with_reducible refine LeO.ite ?_ ?_)
     | (with_reducible refine LeO.bind ?_ (fun _ => ?_))
     | exact ih0 _ _
     | exact LeO.none _
     | refine LeO.ite ?_ ?_
     | refine LeO.bind ?_ (fun _ => ?_)
set_option maxHeartbeats 8000000 in
set_option maxRecDepth 100000 in
theorem impl_firstLine.calls (k : Nat) (a0 : ByteArray) (r1 : ByteArray) (r2 : ByteArray) (r3 : Bool) (w : World) (h : impl_firstLine.f k a0 = some (r1, r2, r3)) :
    Calls Try.prog 125 #[.string a0] w fun e w' => e = .returned (.tuple #[.string r1, .string r2, .bool r3]) ∧ Drawn0 w w' := by
 have H : (impl_firstLine.l0 k a0 0) = some (r1, r2, r3) := h
 clear h
 have H' := Aside0.mk H
 clear H
 go_enter Try.func125, Try.ntmps125
 go_wp2
 repeat (go_quiet (fail); try go_wp2)
 go_loopg [5] k (fun kq v5 w' => ∃ (x5_1 : Int), v5 = .int .i64 x5_1 ∧ Aside0 (impl_firstLine.l0 kq a0 x5_1 = some (r1, r2, r3)) ∧ Aside0 (kq ≤ k) ∧ Drawn0 w w')
 case atStart => exact ⟨(0), tZB, H', ⟨Nat.le_refl _⟩, tZD⟩
 case round =>
  clear H'
  try clear c1
  obtain ⟨x5_1, rfl, HA, HK1, ⟨m1, rfl⟩⟩ := hrel
  cases gk with
  | zero => exact absurd HA.out (by simp [impl_firstLine.l0])
  | succ k1 =>
   have H := HA.out
   clear HA
   simp only [impl_firstLine.l0] at H
   by_cases c2 : x5_1 < (a0.size : Int)
   rotate_left
   ·rw [if_neg c2] at H
    have c2b0 := decide_eq_false c2
    clear c2
    simp only [Option.some.injEq, Prod.mk.injEq] at H
    obtain ⟨rfl, rfl, rfl⟩ := H
    go_wp2
    repeat (go_quiet (fail); try go_wp2)
    go_ret3
    exact ⟨tZB, tZD⟩
   rw [if_pos c2] at H
   have c2b0 := decide_eq_true c2
   clear c2
   by_cases c3 : 0 ≤ x5_1
   rotate_left
   ·rw [if_neg c3] at H
    exact absurd H (by simp)
   rw [if_pos c3] at H
   have c3b0 := decide_eq_true c3
   clear c3
   by_cases c5 : (bt a0 x5_1) = 10
   rotate_left
   ·rw [if_neg c5] at H
    have c5b0 : ((bt a0 x5_1) == 10) = false := beq_eq_false_iff_ne.mpr c5
    have c5b1 : ((bt a0 x5_1) != 10) = true := bne_iff_ne.mpr c5
    have H' := Aside0.mk H
    clear H
    have p4 : 0 ≤ (x5_1 : Int) := of_decide_eq_true tZE
    have q4 : x5_1 < (a0.size : Int) := of_decide_eq_true tZE
    have hx4 := bt_at a0 x5_1
    replace p4 := eq_true p4
    replace q4 := eq_true q4
    go_wp2
    repeat (go_quiet (fail); try go_wp2)
    go_roundg k1
    case measure => have := HK1.out; omega
    case rel => exact ⟨(wrap64 (x5_1 + 1)), tZB, H', ⟨by have := HK1.out; omega⟩, tZD⟩
   rw [if_pos c5] at H
   have c5b0 : ((bt a0 x5_1) == 10) = true := beq_iff_eq.mpr c5
   have c5b1 : ((bt a0 x5_1) != 10) = false := bne_eq_false_iff_eq.mpr c5
   clear c5
   have c6b0 := eq_true (of_decide_eq_true tZE : 0 ≤ x5_1)
   by_cases c7 : x5_1 ≤ (a0.size : Int)
   rotate_left
   ·rw [if_neg c7] at H
    exact absurd H (by simp)
   rw [if_pos c7] at H
   have c7b0 := eq_true c7
   have c7b1 := decide_eq_true c7
   clear c7
   obtain ⟨ji8, hji8⟩ : ∃ j_ : Int, (wrap64 (x5_1 + 1)) = j_ := ⟨_, rfl⟩
   replace H : (if 0 ≤ (ji8) then (if (ji8) ≤ (a0.size : Int) then (some (a0.extract 0 (x5_1 : Int).toNat, a0.extract ((ji8) : Int).toNat a0.size, true)) else (none)) else (none)) = some (r1, r2, r3) := by first | (rw [hji8] at H; exact H) | (simp only [hji8] at H ⊢; exact H)
   have hji8w : (IntKind.i64.wrap (x5_1 + 1)) = ji8 := (i64_w _).trans hji8
   by_cases c9 : 0 ≤ (ji8)
   rotate_left
   ·rw [if_neg c9] at H
    exact absurd H (by simp)
   rw [if_pos c9] at H
   have c9b0 := eq_true c9
   have c9b1 := decide_eq_true c9
   clear c9
   by_cases c10 : (ji8) ≤ (a0.size : Int)
   rotate_left
   ·rw [if_neg c10] at H
    exact absurd H (by simp)
   rw [if_pos c10] at H
   have c10b0 := eq_true c10
   have c10b1 := decide_eq_true c10
   clear c10
   simp only [Option.some.injEq, Prod.mk.injEq] at H
   obtain ⟨rfl, rfl, rfl⟩ := H
   have p4 : 0 ≤ (x5_1 : Int) := of_decide_eq_true tZE
   have q4 : x5_1 < (a0.size : Int) := of_decide_eq_true tZE
   have hx4 := bt_at a0 x5_1
   replace p4 := eq_true p4
   replace q4 := eq_true q4
   go_wp2
   repeat (go_quiet (fail); try go_wp2)
   go_ret3
   exact ⟨by first | rfl | (simp; done) | (simp only [← hji8] <;> (first | rfl | simp)) | (simp [*]; done), tZD⟩
mutual
def impl_cutAt.l0 : Nat → ByteArray → ByteArray → List ByteArray → Int → Int → Int → ByteArray → Option (List ByteArray)
  | 0, _, _, _, _, _, _, _ => none
  | k + 1, x0, x1, x5, x6, x7, x220000, x220001 => if itp x220000 < (x220001.size : Int) then (if (itp x220000) < x7 then (impl_cutAt.j1 k x0 x1 x5 x6 x7 (itp x220000) true (itw x220001 x220000) x220001) else (impl_cutAt.j1 k x0 x1 x5 x6 x7 (itp x220000) (decide ((wrap64 ((x0.size : Int) - (itp x220000))) < (x1.size : Int))) (itw x220001 x220000) x220001)) else (if 0 ≤ x6 then (if x6 ≤ (x0.size : Int) then (if x5.length < 8796093022208 then (some (x5 ++ [x0.extract (x6 : Int).toNat x0.size])) else (none)) else (none)) else (none))
def impl_cutAt.j1 : Nat → ByteArray → ByteArray → List ByteArray → Int → Int → Int → Bool → Int → ByteArray → Option (List ByteArray)
  | 0, _, _, _, _, _, _, _, _, _ => none
  | k + 1, x0, x1, x5, x6, x7, x8, x26, x220000, x220001 => if x26 = true then (impl_cutAt.l0 k x0 x1 x5 x6 x7 x220000 x220001) else (if 0 ≤ x8 then (if x8 ≤ (wrap64 (x8 + (x1.size : Int))) then (if (wrap64 (x8 + (x1.size : Int))) ≤ (x0.size : Int) then (if (x0.extract (x8 : Int).toNat ((wrap64 (x8 + (x1.size : Int))) : Int).toNat).toList = x1.toList then (if 0 ≤ x6 then (if x6 ≤ x8 then (if x8 ≤ (x0.size : Int) then (if x5.length < 8796093022208 then (impl_cutAt.l0 k x0 x1 (x5 ++ [x0.extract (x6 : Int).toNat (x8 : Int).toNat]) (wrap64 (x8 + (x1.size : Int))) (wrap64 (x8 + (x1.size : Int))) x220000 x220001) else (none)) else (none)) else (none)) else (none)) else (impl_cutAt.l0 k x0 x1 x5 x6 x7 x220000 x220001)) else (none)) else (none)) else (none))
end
def impl_cutAt.f (k : Nat) (a0 : ByteArray) (a1 : ByteArray) : Option (List ByteArray) := impl_cutAt.l0 k a0 a1 (([] : List ByteArray)) 0 0 0 a0
theorem impl_cutAt.mono_l : ∀ k, (∀ y0 y1 y2 y3 y4 y5 y6, LeO (impl_cutAt.l0 k y0 y1 y2 y3 y4 y5 y6) (impl_cutAt.l0 (k + 1) y0 y1 y2 y3 y4 y5 y6)) ∧ (∀ y0 y1 y2 y3 y4 y5 y6 y7 y8, LeO (impl_cutAt.j1 k y0 y1 y2 y3 y4 y5 y6 y7 y8) (impl_cutAt.j1 (k + 1) y0 y1 y2 y3 y4 y5 y6 y7 y8))
  | 0 => ⟨fun _ _ _ _ _ _ _ r h => by simp [impl_cutAt.l0] at h, fun _ _ _ _ _ _ _ _ _ r h => by simp [impl_cutAt.j1] at h⟩
  | k + 1 => by
    obtain ⟨ih0, ih1⟩ := impl_cutAt.mono_l k
    refine ⟨?_, ?_⟩
    · intro y0 y1 y2 y3 y4 y5 y6
      unfold impl_cutAt.l0
      repeat' first
      | (with_reducible exact ih0 _ _ _ _ _ _ _)
      | (with_reducible exact ih1 _ _ _ _ _ _ _ _ _)
      | (with_reducible exact LeO.refl _)
      | (with_reducible exact LeO.none _)
      | (with_reducible refine LeO.ite ?_ ?_)
      | (with_reducible refine LeO.bind ?_ (fun _ => ?_))
      | exact ih0 _ _ _ _ _ _ _
      | exact ih1 _ _ _ _ _ _ _ _ _
      | exact LeO.none _
      | refine LeO.ite ?_ ?_
      | refine LeO.bind ?_ (fun _ => ?_)
    · intro y0 y1 y2 y3 y4 y5 y6 y7 y8
      unfold impl_cutAt.j1
      repeat' first
      | (with_reducible exact ih0 _ _ _ _ _ _ _)
      | (with_reducible exact ih1 _ _ _ _ _ _ _ _ _)
      | (with_reducible exact LeO.refl _)
      | (with_reducible exact LeO.none _)
      | (with_reducible refine LeO.ite ?_ ?_)
      | (with_reducible refine LeO.bind ?_ (fun _ => ?_))
      | exact ih0 _ _ _ _ _ _ _
      | exact ih1 _ _ _ _ _ _ _ _ _
      | exact LeO.none _
      | refine LeO.ite ?_ ?_
      | refine LeO.bind ?_ (fun _ => ?_)
theorem impl_cutAt.mono : ∀ a0 a1 k, LeO (impl_cutAt.f k a0 a1) (impl_cutAt.f (k + 1) a0 a1) := by
 intro a0 a1 k
 obtain ⟨ih0, ih1⟩ := impl_cutAt.mono_l k
 unfold impl_cutAt.f
 repeat' first
     | (with_reducible exact ih0 _ _ _ _ _ _ _)
     | (with_reducible exact ih1 _ _ _ _ _ _ _ _ _)
     | (with_reducible exact LeO.refl _)
     | (with_reducible exact LeO.none _)
     | (with_reducible refine LeO.ite ?_ ?_)
     | (with_reducible refine LeO.bind ?_ (fun _ => ?_))
     | exact ih0 _ _ _ _ _ _ _
     | exact ih1 _ _ _ _ _ _ _ _ _
     | exact LeO.none _
     | refine LeO.ite ?_ ?_
     | refine LeO.bind ?_ (fun _ => ?_)
set_option maxHeartbeats 8000000 in
set_option maxRecDepth 100000 in
theorem impl_cutAt.calls (k : Nat) (a0 : ByteArray) (a1 : ByteArray) (r : List ByteArray) (w : World) (h : impl_cutAt.f k a0 a1 = some r) :
    Calls Try.prog 126 #[.string a0, .string a1] w fun e w' => ∃ v0_ : Value, e = .returned (v0_) ∧ Kd.R Kd.string 9 w' w.heap.size (fun _ => True) v0_ r ∧ Below w.heap.size w w' := by
 have HB := aZ (Below.refl w.heap.size w)
 have H : (impl_cutAt.l0 k a0 a1 (([] : List ByteArray)) 0 0 0 a0) = some r := h
 clear h
 obtain ⟨y216, hy216⟩ : ∃ y_ : List ByteArray, y_ = (([] : List ByteArray)) := ⟨_, rfl⟩
 replace H : (impl_cutAt.l0 k a0 a1 y216 0 0 0 a0) = some r := by first | (rw [hy216]; with_reducible exact H) | (have H2_ := (Option.bind_some _ _).symm.trans H; rw [hy216]; with_reducible exact H2_) | (have H2_ := (Option.bind_some _ _).symm.trans H; with_reducible exact H2_) | with_reducible exact H | (rw [hy216]; exact H) | exact H
 have Ny216 := Aside0.mk hy216
 clear hy216
 have H' := Aside0.mk H
 clear H
 go_enter Try.func126, Try.ntmps126
 go_wp2_with (first | ((with_reducible refine gate_dst (N := 9) rfl ?_); (try (refine gate_guard (by rfl) ?_; dsimp only)); refine Kd.R_lit Kd.string _ 9 ?hg (N := 9) ?hd (xs := ([] : List ByteArray)) (inner := []) (ok := fun _ => True) (okp := fun _ => True) ?hr ?hp (fun _ hk => hk) trivial (Below.refl _ _) (Nat.le_refl _) (by simp) ?_; (case hd => rfl); (case hg => rfl); (case hr => first | (go_simp; done) | (go_simp; rfl)); (case hp => exact (Reps.none _ _)); intro v217 w3 ho4 hb hg_ hnew_; clear hg_ hnew_; (first | rw [← Ny216.out] at ho4 | (simp only [Int.reduceToNat] at ho4; rw [← Ny216.out] at ho4)); have HO218 := aZ (Kd.R_lower ho4 (below_size (lZB HB.out))); replace HB := aZ (below_step (lZB HB.out) hb); clear hb ho4) | ((with_reducible refine gate_dst (N := 11) rfl ?_); (try (refine gate_guard (by rfl) ?_; dsimp only)); refine irange_event rfl (N := 11) rfl (.tmp 10) 9 rfl Try.underlying9 (s := a0) (by first | rfl | (go_simp; done) | (go_simp; rfl)) ?_; intro gb219 hg w5 hbox hb; replace HO218 := aZ (Kd.R_below (lZR HO218.out) hb); have BK219 := aZ (hbox); have GW219 := aZ ((by rw [hg]; exact (below_size (lZB HB.out)) : w.heap.size ≤ gb219)); have GE219 := aZ ((by rw [hg]; exact (below_size (lZB HB.out)) : w.heap.size ≤ gb219)); replace HB := aZ (below_step (lZB HB.out) hb); clear hb hbox hg; (try simp only [Act.put, sZ1, sZ2, sZ3])))
 repeat (go_step3; go_wp2_with (first | ((with_reducible refine gate_dst (N := 9) rfl ?_); (try (refine gate_guard (by rfl) ?_; dsimp only)); refine Kd.R_lit Kd.string _ 9 ?hg (N := 9) ?hd (xs := ([] : List ByteArray)) (inner := []) (ok := fun _ => True) (okp := fun _ => True) ?hr ?hp (fun _ hk => hk) trivial (Below.refl _ _) (Nat.le_refl _) (by simp) ?_; (case hd => rfl); (case hg => rfl); (case hr => first | (go_simp; done) | (go_simp; rfl)); (case hp => exact (Reps.none _ _)); intro v217 w3 ho4 hb hg_ hnew_; clear hg_ hnew_; (first | rw [← Ny216.out] at ho4 | (simp only [Int.reduceToNat] at ho4; rw [← Ny216.out] at ho4)); have HO218 := aZ (Kd.R_lower ho4 (below_size (lZB HB.out))); replace HB := aZ (below_step (lZB HB.out) hb); clear hb ho4) | ((with_reducible refine gate_dst (N := 11) rfl ?_); (try (refine gate_guard (by rfl) ?_; dsimp only)); refine irange_event rfl (N := 11) rfl (.tmp 10) 9 rfl Try.underlying9 (s := a0) (by first | rfl | (go_simp; done) | (go_simp; rfl)) ?_; intro gb219 hg w5 hbox hb; replace HO218 := aZ (Kd.R_below (lZR HO218.out) hb); have BK219 := aZ (hbox); have GW219 := aZ ((by rw [hg]; exact (below_size (lZB HB.out)) : w.heap.size ≤ gb219)); have GE219 := aZ ((by rw [hg]; exact (below_size (lZB HB.out)) : w.heap.size ≤ gb219)); replace HB := aZ (below_step (lZB HB.out) hb); clear hb hbox hg; (try simp only [Act.put, sZ1, sZ2, sZ3]))))
 (try simp only [Exit.noGoto_ret, Exit.noGoto_normal, Exit.noGoto_exit])
 go_loopg [5, 6, 7] k (fun kq v5 v6 v7 w' => ∃ (x5_1 : List ByteArray) (x6_1 : Int) (x7_1 : Int) (x220000_1 : Int), v6 = .int .i64 x6_1 ∧ v7 = .int .i64 x7_1 ∧ Aside0 (impl_cutAt.l0 kq a0 a1 x5_1 x6_1 x7_1 x220000_1 a0 = some r) ∧ Aside0 (kq ≤ k) ∧ Aside0 (Kd.R Kd.string 9 w' w.heap.size (fun _ => True) v5 x5_1) ∧ Aside0 (w'.heap[gb219]? = some (.stringIter a0 (itn x220000_1))) ∧ Aside0 (Below w.heap.size w w'))
 case atStart => exact ⟨(y216), (0), (0), (0), tZB, tZB, H', ⟨Nat.le_refl _⟩, ⟨lZR HO218.out⟩, ⟨bkZ BK219.out⟩, ⟨bZ⟩⟩
 case round =>
  clear H'
  try clear c1
  try clear p2
  try clear p3
  obtain ⟨x5_1, x6_1, x7_1, x220000_1, rfl, rfl, HA, HK1, HO_5, BK219, HB⟩ := hrel
  cases gk with
  | zero => exact absurd HA.out (by simp [impl_cutAt.l0])
  | succ k1 =>
   have H := HA.out
   clear HA
   simp only [impl_cutAt.l0] at H
   by_cases c6 : itp x220000_1 < (a0.size : Int)
   rotate_left
   ·rw [if_neg c6] at H
    have c6b0 := decide_eq_false c6
    clear c6
    by_cases c20 : 0 ≤ x6_1
    rotate_left
    ·rw [if_neg c20] at H
     exact absurd H (by simp)
    rw [if_pos c20] at H
    have c20b0 := eq_true c20
    have c20b1 := decide_eq_true c20
    clear c20
    by_cases c21 : x6_1 ≤ (a0.size : Int)
    rotate_left
    ·rw [if_neg c21] at H
     exact absurd H (by simp)
    rw [if_pos c21] at H
    have c21b0 := eq_true c21
    have c21b1 := decide_eq_true c21
    clear c21
    by_cases c22 : x5_1.length < 8796093022208
    rotate_left
    ·rw [if_neg c22] at H
     exact absurd H (by simp)
    rw [if_pos c22] at H
    have LMc22 := Aside0.mk c22
    clear c22
    obtain ⟨y223, hy223⟩ : ∃ y_ : List ByteArray, y_ = (x5_1 ++ [a0.extract (x6_1 : Int).toNat a0.size]) := ⟨_, rfl⟩
    replace H : (some y223) = some r := by first | (rw [hy223]; with_reducible exact H) | (have H2_ := (Option.bind_some _ _).symm.trans H; rw [hy223]; with_reducible exact H2_) | (have H2_ := (Option.bind_some _ _).symm.trans H; with_reducible exact H2_) | with_reducible exact H | (rw [hy223]; exact H) | exact H
    have Ny223 := Aside0.mk hy223
    clear hy223
    obtain rfl := Option.some.inj H
    go_wp2_with (first | ((with_reducible refine gate_dst (N := 12) rfl ?_); (try (refine gate_guard (by rfl) ?_; dsimp only)); refine iend_event rfl (.tmp 11) rfl (by first | rfl | (go_simp; done) | (go_simp; rfl)) (bkZ BK219.out) (of_decide_eq_false tZE : ¬ (itp x220000_1 < (a0.size : Int))) ?_) | ((with_reducible refine gate_builtin (b := .append) (xs := #[.tmp 48, .tmp 52]) rfl ?_); (try (refine gate_guard (by rfl) ?_; dsimp only)); at_builtin; refine Kd.R_append Kd.string (w0 := w) w.heap.size rfl (.tmp 48) (.tmp 52) 62 9 (.string ⟨#[]⟩) 16 rfl Try.underlying62 info9 rfl (by decide) (by omega) u5 x5_1 (a0.extract (x6_1 : Int).toNat a0.size) [.string (a0.extract (x6_1 : Int).toNat a0.size)] (fun _ => True) (fun _ => False) rfl rfl ?aP (fun _ hk => hk.elim) ?aF ?aO ?aB ?aS ?aL ?_; (case aP => exact rfl); (case aB => exact bZ); (case aF => exact (fun _ _ => trivial)); (case aO => exact (lZR HO_5.out)); (case aS => exact (below_size bZ)); (case aL => have := LMc22.out; omega); intro v224 w23 ho hb hg hat; rw [← Ny223.out] at ho; replace BK219 := aZ (blk_grown (bkZ BK219.out) hg (Kd.R_neI HO_5.out BK219.out)); replace HB := aZ (hb); have HO225 := aZ (ho); clear HO_5; clear ho hb hg hat))
    repeat (go_step3; go_wp2_with (first | ((with_reducible refine gate_dst (N := 12) rfl ?_); (try (refine gate_guard (by rfl) ?_; dsimp only)); refine iend_event rfl (.tmp 11) rfl (by first | rfl | (go_simp; done) | (go_simp; rfl)) (bkZ BK219.out) (of_decide_eq_false tZE : ¬ (itp x220000_1 < (a0.size : Int))) ?_) | ((with_reducible refine gate_builtin (b := .append) (xs := #[.tmp 48, .tmp 52]) rfl ?_); (try (refine gate_guard (by rfl) ?_; dsimp only)); at_builtin; refine Kd.R_append Kd.string (w0 := w) w.heap.size rfl (.tmp 48) (.tmp 52) 62 9 (.string ⟨#[]⟩) 16 rfl Try.underlying62 info9 rfl (by decide) (by omega) u5 x5_1 (a0.extract (x6_1 : Int).toNat a0.size) [.string (a0.extract (x6_1 : Int).toNat a0.size)] (fun _ => True) (fun _ => False) rfl rfl ?aP (fun _ hk => hk.elim) ?aF ?aO ?aB ?aS ?aL ?_; (case aP => exact rfl); (case aB => exact bZ); (case aF => exact (fun _ _ => trivial)); (case aO => exact (lZR HO_5.out)); (case aS => exact (below_size bZ)); (case aL => have := LMc22.out; omega); intro v224 w23 ho hb hg hat; rw [← Ny223.out] at ho; replace BK219 := aZ (blk_grown (bkZ BK219.out) hg (Kd.R_neI HO_5.out BK219.out)); replace HB := aZ (hb); have HO225 := aZ (ho); clear HO_5; clear ho hb hg hat)))
    (try simp only [Exit.noGoto_ret, Exit.noGoto_normal, Exit.noGoto_exit])
    go_ret
    exact ⟨_, tZC, lZR HO225.out, bZ⟩
   rw [if_pos c6] at H
   have c6b0 := decide_eq_true c6
   clear c6
   have HC7 := Aside0.mk H
   clear H
   go_upto_region 7 with (first | ((with_reducible refine gate_dst (N := 12) rfl ?_); (try (refine gate_guard (by rfl) ?_; dsimp only)); refine inext_event rfl (.tmp 11) rfl (by first | rfl | (go_simp; done) | (go_simp; rfl)) (bkZ BK219.out) (of_decide_eq_true tZE : itp x220000_1 < (a0.size : Int)) ?_; intro w8 hbox hg; replace HO_5 := aZ (Kd.R_iter (lZR HO_5.out) (bkZ BK219.out) hg); replace BK219 := aZ (hbox); replace HB := aZ (below_iter bZ GE219.out hg); clear hbox hg))
   (try simp only [Act.put, sZ1, sZ2, sZ3])
   go_cut [26] (fun v26 wc => ∃ (kq : Nat) (x26_6 : Bool), v26 = .bool x26_6 ∧ Aside0 (impl_cutAt.j1 kq a0 a1 x5_1 x6_1 x7_1 (itp x220000_1) x26_6 (itw a0 x220000_1) a0 = some r) ∧ Aside0 (kq ≤ k1) ∧ Aside0 (Kd.R Kd.string 9 wc w.heap.size (fun _ => True) u5 x5_1) ∧ Aside0 (wc.heap[gb219]? = some (.stringIter a0 (itn (itw a0 x220000_1)))) ∧ Aside0 (Below w.heap.size w wc))
   case first =>
    have H := HC7.out
    clear HC7
    by_cases c9 : (itp x220000_1) < x7_1
    ·rw [if_pos c9] at H
     have c9b0 := decide_eq_true c9
     clear c9
     (first | rw [c9b0] | (simp only [i64_w, i32_w]; rw [c9b0]) | skip)
     have H' := Aside0.mk H
     clear H
     go_wp2
     repeat (go_step3; go_wp2)
     (try simp only [Exit.noGoto_ret, Exit.noGoto_normal, Exit.noGoto_exit])
     go_meet
     case rel => exact ⟨_, (true), tZB, H', ⟨by have := HK1.out; first | omega | exact Nat.le_refl _⟩, ⟨lZR HO_5.out⟩, ⟨bkZ BK219.out⟩, ⟨bZ⟩⟩
    rw [if_neg c9] at H
    have c9b0 := decide_eq_false c9
    clear c9
    (first | rw [c9b0] | (simp only [i64_w, i32_w]; rw [c9b0]) | skip)
    have H' := Aside0.mk H
    clear H
    go_wp2
    repeat (go_step3; go_wp2)
    (try simp only [Exit.noGoto_ret, Exit.noGoto_normal, Exit.noGoto_exit])
    go_meet
    case rel => exact ⟨_, (decide ((wrap64 ((a0.size : Int) - (itp x220000_1))) < (a1.size : Int))), tZB, H', ⟨by have := HK1.out; first | omega | exact Nat.le_refl _⟩, ⟨lZR HO_5.out⟩, ⟨bkZ BK219.out⟩, ⟨bZ⟩⟩
   case rest =>
    clear HC7
    try clear c1
    try clear p2
    try clear p3
    try clear c6
    try clear c6b0
    try clear p6
    try clear c9
    try clear c9b0
    try clear p2
    try clear p3
    obtain ⟨kq, x26_6, rfl, HA, HJ6, HO_5, BK219, HB⟩ := hcut
    cases kq with
    | zero => exact absurd HA.out (by simp [impl_cutAt.j1])
    | succ kj6 =>
     have H := HA.out
     clear HA
     simp only [impl_cutAt.j1] at H
     by_cases c10 : x26_6 = true
     ·subst c10
      have H1 : (impl_cutAt.l0 kj6 a0 a1 x5_1 x6_1 x7_1 (itw a0 x220000_1) a0) = some r := by rw [if_pos rfl] at H; exact H
      clear H
      have H := H1
      clear H1
      have H' := Aside0.mk H
      clear H
      go_wp2
      repeat (go_step3; go_wp2)
      (try simp only [Exit.noGoto_ret, Exit.noGoto_normal, Exit.noGoto_exit])
      go_roundg kj6
      case measure => have := HK1.out; have := HJ6.out; omega
      case rel => exact ⟨(x5_1), (x6_1), (x7_1), ((itw a0 x220000_1)), tZB, tZB, H', ⟨by have := HK1.out; have := HJ6.out; omega⟩, ⟨lZR HO_5.out⟩, ⟨bkZ BK219.out⟩, ⟨bZ⟩⟩
     replace c10 := Bool.eq_false_iff.mpr c10
     subst c10
     have H1 : (if 0 ≤ (itp x220000_1) then (if (itp x220000_1) ≤ (wrap64 ((itp x220000_1) + (a1.size : Int))) then (if (wrap64 ((itp x220000_1) + (a1.size : Int))) ≤ (a0.size : Int) then (if (a0.extract ((itp x220000_1) : Int).toNat ((wrap64 ((itp x220000_1) + (a1.size : Int))) : Int).toNat).toList = a1.toList then (if 0 ≤ x6_1 then (if x6_1 ≤ (itp x220000_1) then (if (itp x220000_1) ≤ (a0.size : Int) then (if x5_1.length < 8796093022208 then (impl_cutAt.l0 kj6 a0 a1 (x5_1 ++ [a0.extract (x6_1 : Int).toNat ((itp x220000_1) : Int).toNat]) (wrap64 ((itp x220000_1) + (a1.size : Int))) (wrap64 ((itp x220000_1) + (a1.size : Int))) (itw a0 x220000_1) a0) else (none)) else (none)) else (none)) else (none)) else (impl_cutAt.l0 kj6 a0 a1 x5_1 x6_1 x7_1 (itw a0 x220000_1) a0)) else (none)) else (none)) else (none)) = some r := by rw [if_neg (show ¬ (false = true) by decide)] at H; exact H
     clear H
     have H := H1
     clear H1
     by_cases c11 : 0 ≤ (itp x220000_1)
     rotate_left
     ·rw [if_neg c11] at H
      exact absurd H (by simp)
     rw [if_pos c11] at H
     have c11b0 := eq_true c11
     have c11b1 := decide_eq_true c11
     clear c11
     by_cases c12 : (itp x220000_1) ≤ (wrap64 ((itp x220000_1) + (a1.size : Int)))
     rotate_left
     ·rw [if_neg c12] at H
      exact absurd H (by simp)
     rw [if_pos c12] at H
     have c12b0 := eq_true c12
     have c12b1 := decide_eq_true c12
     by_cases c13 : (wrap64 ((itp x220000_1) + (a1.size : Int))) ≤ (a0.size : Int)
     rotate_left
     ·rw [if_neg c13] at H
      exact absurd H (by simp)
     rw [if_pos c13] at H
     have c13b0 := eq_true c13
     have c13b1 := decide_eq_true c13
     by_cases c14 : (a0.extract ((itp x220000_1) : Int).toNat ((wrap64 ((itp x220000_1) + (a1.size : Int))) : Int).toNat).toList = a1.toList
     rotate_left
     ·rw [if_neg c14] at H
      have c14b0 : ((a0.extract ((itp x220000_1) : Int).toNat ((wrap64 ((itp x220000_1) + (a1.size : Int))) : Int).toNat).toList == a1.toList) = false := beq_eq_false_iff_ne.mpr c14
      have c14b1 : ((a0.extract ((itp x220000_1) : Int).toNat ((wrap64 ((itp x220000_1) + (a1.size : Int))) : Int).toNat).toList != a1.toList) = true := bne_iff_ne.mpr c14
      have H' := Aside0.mk H
      clear H
      go_wp2
      repeat (go_step3; go_wp2)
      (try simp only [Exit.noGoto_ret, Exit.noGoto_normal, Exit.noGoto_exit])
      go_roundg kj6
      case measure => have := HK1.out; have := HJ6.out; omega
      case rel => exact ⟨(x5_1), (x6_1), (x7_1), ((itw a0 x220000_1)), tZB, tZB, H', ⟨by have := HK1.out; have := HJ6.out; omega⟩, ⟨lZR HO_5.out⟩, ⟨bkZ BK219.out⟩, ⟨bZ⟩⟩
     rw [if_pos c14] at H
     have c14b0 : ((a0.extract ((itp x220000_1) : Int).toNat ((wrap64 ((itp x220000_1) + (a1.size : Int))) : Int).toNat).toList == a1.toList) = true := beq_iff_eq.mpr c14
     have c14b1 : ((a0.extract ((itp x220000_1) : Int).toNat ((wrap64 ((itp x220000_1) + (a1.size : Int))) : Int).toNat).toList != a1.toList) = false := bne_eq_false_iff_eq.mpr c14
     clear c14
     by_cases c15 : 0 ≤ x6_1
     rotate_left
     ·rw [if_neg c15] at H
      exact absurd H (by simp)
     rw [if_pos c15] at H
     have c15b0 := eq_true c15
     have c15b1 := decide_eq_true c15
     clear c15
     by_cases c16 : x6_1 ≤ (itp x220000_1)
     rotate_left
     ·rw [if_neg c16] at H
      exact absurd H (by simp)
     rw [if_pos c16] at H
     have c16b0 := eq_true c16
     have c16b1 := decide_eq_true c16
     clear c16
     by_cases c17 : (itp x220000_1) ≤ (a0.size : Int)
     rotate_left
     ·rw [if_neg c17] at H
      exact absurd H (by simp)
     rw [if_pos c17] at H
     have c17b0 := eq_true c17
     have c17b1 := decide_eq_true c17
     clear c17
     by_cases c18 : x5_1.length < 8796093022208
     rotate_left
     ·rw [if_neg c18] at H
      exact absurd H (by simp)
     rw [if_pos c18] at H
     have LMc18 := Aside0.mk c18
     clear c18
     obtain ⟨y220, hy220⟩ : ∃ y_ : List ByteArray, y_ = (x5_1 ++ [a0.extract (x6_1 : Int).toNat ((itp x220000_1) : Int).toNat]) := ⟨_, rfl⟩
     replace H : (impl_cutAt.l0 kj6 a0 a1 y220 (wrap64 ((itp x220000_1) + (a1.size : Int))) (wrap64 ((itp x220000_1) + (a1.size : Int))) (itw a0 x220000_1) a0) = some r := by first | (rw [hy220]; with_reducible exact H) | (have H2_ := (Option.bind_some _ _).symm.trans H; rw [hy220]; with_reducible exact H2_) | (have H2_ := (Option.bind_some _ _).symm.trans H; with_reducible exact H2_) | with_reducible exact H | (rw [hy220]; exact H) | exact H
     have Ny220 := Aside0.mk hy220
     clear hy220
     have H' := Aside0.mk H
     clear H
     go_wp2_with (first | ((with_reducible refine gate_builtin (b := .append) (xs := #[.tmp 36, .tmp 41]) rfl ?_); (try (refine gate_guard (by rfl) ?_; dsimp only)); at_builtin; refine Kd.R_append Kd.string (w0 := w) w.heap.size rfl (.tmp 36) (.tmp 41) 62 9 (.string ⟨#[]⟩) 16 rfl Try.underlying62 info9 rfl (by decide) (by omega) u5 x5_1 (a0.extract (x6_1 : Int).toNat ((itp x220000_1) : Int).toNat) [.string (a0.extract (x6_1 : Int).toNat ((itp x220000_1) : Int).toNat)] (fun _ => True) (fun _ => False) rfl rfl ?aP (fun _ hk => hk.elim) ?aF ?aO ?aB ?aS ?aL ?_; (case aP => exact rfl); (case aB => exact bZ); (case aF => exact (fun _ _ => trivial)); (case aO => exact (lZR HO_5.out)); (case aS => exact (below_size bZ)); (case aL => have := LMc18.out; omega); intro v221 w19 ho hb hg hat; rw [← Ny220.out] at ho; replace BK219 := aZ (blk_grown (bkZ BK219.out) hg (Kd.R_neI HO_5.out BK219.out)); replace HB := aZ (hb); have HO222 := aZ (ho); clear HO_5; clear ho hb hg hat))
     repeat (go_step3; go_wp2_with (first | ((with_reducible refine gate_builtin (b := .append) (xs := #[.tmp 36, .tmp 41]) rfl ?_); (try (refine gate_guard (by rfl) ?_; dsimp only)); at_builtin; refine Kd.R_append Kd.string (w0 := w) w.heap.size rfl (.tmp 36) (.tmp 41) 62 9 (.string ⟨#[]⟩) 16 rfl Try.underlying62 info9 rfl (by decide) (by omega) u5 x5_1 (a0.extract (x6_1 : Int).toNat ((itp x220000_1) : Int).toNat) [.string (a0.extract (x6_1 : Int).toNat ((itp x220000_1) : Int).toNat)] (fun _ => True) (fun _ => False) rfl rfl ?aP (fun _ hk => hk.elim) ?aF ?aO ?aB ?aS ?aL ?_; (case aP => exact rfl); (case aB => exact bZ); (case aF => exact (fun _ _ => trivial)); (case aO => exact (lZR HO_5.out)); (case aS => exact (below_size bZ)); (case aL => have := LMc18.out; omega); intro v221 w19 ho hb hg hat; rw [← Ny220.out] at ho; replace BK219 := aZ (blk_grown (bkZ BK219.out) hg (Kd.R_neI HO_5.out BK219.out)); replace HB := aZ (hb); have HO222 := aZ (ho); clear HO_5; clear ho hb hg hat)))
     (try simp only [Exit.noGoto_ret, Exit.noGoto_normal, Exit.noGoto_exit])
     go_roundg kj6
     case measure => have := HK1.out; have := HJ6.out; omega
     case rel => exact ⟨(y220), (wrap64 ((itp x220000_1) + (a1.size : Int))), (wrap64 ((itp x220000_1) + (a1.size : Int))), ((itw a0 x220000_1)), tZB, tZB, H', ⟨by have := HK1.out; have := HJ6.out; omega⟩, ⟨lZR HO222.out⟩, ⟨bkZ BK219.out⟩, ⟨bZ⟩⟩
def impl_amount.f (a0 : Int) : Option (Bool) := (impl_between.f a0 (-100000000000) 100000000000).bind fun t226 => (some t226)
set_option maxHeartbeats 8000000 in
set_option maxRecDepth 100000 in
theorem impl_amount.calls (a0 : Int) (r : Bool) (w : World) (h : impl_amount.f a0 = some r) :
    Calls Try.prog 65 #[.int .i64 a0] w fun e w' => e = .returned (.bool r) ∧ Drawn0 w w' := by
 have H : ((impl_between.f a0 (-100000000000) 100000000000).bind fun t226 => (some t226)) = some r := h
 clear h
 replace H := Option.bind_eq_some_iff.mp H
 obtain ⟨t226, A20, H⟩ := H
 replace H : (some t226) = some r := H
 have A2 := Aside0.mk A20
 clear A20
 obtain rfl := Option.some.inj H
 go_enter Try.func65, Try.ntmps65
 go_wp2_with (first | ((with_reducible refine gate_callee (f := 71) rfl ?_); refine goesL_ (some 4) rfl rfl Try.func71 kZ rfl #[.int .i64 a0, .int .i64 (-100000000000), .int .i64 100000000000] rfl tZA ?_; (with_reducible refine (impl_between.calls a0 (-100000000000) 100000000000 t226 _ A2.out).mono ?_); rintro e w' ⟨rfl, ⟨nd, rfl⟩⟩; refine ⟨_, rfl, ?_⟩))
 go_ret
 exact ⟨tZB, tZD⟩
mutual
def impl_decimal.l0 : Nat → Int → ByteArray → Option (ByteArray)
  | 0, _, _ => none
  | k + 1, x0, x3 => if x0 > 0 then ((some (([(wrap64 (48 + (Int.tmod x0 10))) % 256] : List Int) : List Int)).bind fun y231 => (if (strOfNums y231).size + x3.size ≤ 9223372036854775807 then (impl_decimal.l0 k (wrap64 (Int.tdiv x0 10)) ((strOfNums y231) ++ x3)) else (none))) else (some x3)
def impl_decimal.f : Nat → Int → Option (ByteArray)
  | 0, _ => none
  | k + 1, a0 => if a0 < 0 then ((impl_decimal.f k (wrap64 (-a0))).bind fun t227 => (if 1 + t227.size ≤ 9223372036854775807 then (some ((⟨#[45]⟩ : ByteArray) ++ t227)) else (none))) else (impl_decimal.l0 k (wrap64 (Int.tdiv a0 10)) (strOfNums (([(wrap64 (48 + (Int.tmod a0 10))) % 256] : List Int))))
end
theorem impl_decimal.mono_l : ∀ k, (∀ y0, LeO (impl_decimal.f k y0) (impl_decimal.f (k + 1) y0)) ∧ (∀ y0 y1, LeO (impl_decimal.l0 k y0 y1) (impl_decimal.l0 (k + 1) y0 y1))
  | 0 => ⟨fun _ r h => by simp [impl_decimal.f] at h, fun _ _ r h => by simp [impl_decimal.l0] at h⟩
  | k + 1 => by
    obtain ⟨ih0, ih1⟩ := impl_decimal.mono_l k
    refine ⟨?_, ?_⟩
    · intro y0
      unfold impl_decimal.f
      repeat' first
      | (with_reducible exact ih0 _)
      | (with_reducible exact ih1 _ _)
      | (with_reducible exact LeO.refl _)
      | (with_reducible exact LeO.none _)
      | (with_reducible refine LeO.ite ?_ ?_)
      | (with_reducible refine LeO.bind ?_ (fun _ => ?_))
      | exact ih0 _
      | exact ih1 _ _
      | exact LeO.none _
      | refine LeO.ite ?_ ?_
      | refine LeO.bind ?_ (fun _ => ?_)
    · intro y0 y1
      unfold impl_decimal.l0
      repeat' first
      | (with_reducible exact ih0 _)
      | (with_reducible exact ih1 _ _)
      | (with_reducible exact LeO.refl _)
      | (with_reducible exact LeO.none _)
      | (with_reducible refine LeO.ite ?_ ?_)
      | (with_reducible refine LeO.bind ?_ (fun _ => ?_))
      | exact ih0 _
      | exact ih1 _ _
      | exact LeO.none _
      | refine LeO.ite ?_ ?_
      | refine LeO.bind ?_ (fun _ => ?_)
theorem impl_decimal.mono : ∀ a0 k, LeO (impl_decimal.f k a0) (impl_decimal.f (k + 1) a0) := by
 intro a0 k
 obtain ⟨ih0, ih1⟩ := impl_decimal.mono_l k
 exact ih0 a0
set_option maxHeartbeats 8000000 in
set_option maxRecDepth 100000 in
theorem impl_decimal.calls (k : Nat) : ∀ (a0 : Int) (r : ByteArray) (w : World) (h : impl_decimal.f k a0 = some r),
    Calls Try.prog 130 #[.int .i64 a0] w fun e w' => e = .returned (.string r) ∧ Below w.heap.size w w' := by
 induction k using Nat.strongRecOn with
 | _ k ih =>
 intro a0 r w h
 cases k with
 | zero => exact absurd h (by simp [impl_decimal.f])
 | succ k =>
 simp only [impl_decimal.f] at h
 have HB := aZ (Below.refl w.heap.size w)
 have H : (if a0 < 0 then ((impl_decimal.f k (wrap64 (-a0))).bind fun t227 => (if 1 + t227.size ≤ 9223372036854775807 then (some ((⟨#[45]⟩ : ByteArray) ++ t227)) else (none))) else (impl_decimal.l0 k (wrap64 (Int.tdiv a0 10)) (strOfNums (([(wrap64 (48 + (Int.tmod a0 10))) % 256] : List Int))))) = some r := h
 clear h
 by_cases c2 : a0 < 0
 ·rw [if_pos c2] at H
  have c2b0 := decide_eq_true c2
  clear c2
  replace H := Option.bind_eq_some_iff.mp H
  obtain ⟨t227, A30, H⟩ := H
  replace H : (if 1 + t227.size ≤ 9223372036854775807 then (some ((⟨#[45]⟩ : ByteArray) ++ t227)) else (none)) = some r := H
  have A3 := Aside0.mk A30
  clear A30
  by_cases c4 : 1 + t227.size ≤ 9223372036854775807
  rotate_left
  ·rw [if_neg c4] at H
   exact absurd H (by simp)
  rw [if_pos c4] at H
  have c4b0 := eq_true c4
  have c4b1 := decide_eq_true c4
  try have c4b2 := eq_false (Nat.not_lt.2 c4)
  obtain rfl := Option.some.inj H
  go_enter Try.func130, Try.ntmps130
  go_wp2_with (first | ((with_reducible refine gate_callee (f := 130) rfl ?_); refine goesL_ (some 8) rfl rfl Try.func130 kZ rfl #[.int .i64 (wrap64 (-a0))] rfl tZA ?_; (with_reducible refine (ih k (by omega) (wrap64 (-a0)) t227 _ A3.out).mono ?_); rintro e w5 ⟨rfl, hb⟩; refine ⟨_, rfl, ?_⟩; replace HB := aZ (below_step (lZB HB.out) hb); (try clear hb); (try clear hb2); (try clear hk); (try clear hi)))
  go_ret
  exact ⟨tZC, bZ⟩
 rw [if_neg c2] at H
 have c2b0 := decide_eq_false c2
 clear c2
 obtain ⟨y228, hy228⟩ : ∃ y_ : List Int, y_ = (([(wrap64 (48 + (Int.tmod a0 10))) % 256] : List Int)) := ⟨_, rfl⟩
 replace H : (impl_decimal.l0 k (wrap64 (Int.tdiv a0 10)) (strOfNums y228)) = some r := by first | (rw [hy228]; with_reducible exact H) | (have H2_ := (Option.bind_some _ _).symm.trans H; rw [hy228]; with_reducible exact H2_) | (have H2_ := (Option.bind_some _ _).symm.trans H; with_reducible exact H2_) | with_reducible exact H | (rw [hy228]; exact H) | exact H
 have Ny228 := Aside0.mk hy228
 clear hy228
 have H' := Aside0.mk H
 clear H
 go_enter Try.func130, Try.ntmps130
 go_wp2_with (first | ((with_reducible refine gate_dst (N := 14) rfl ?_); refine Kd.R_lit (Kd.int .u8) _ 5 ?hg (N := 14) ?hd (xs := ([(wrap64 (48 + (Int.tmod a0 10))) % 256] : List Int)) (inner := [.int .u8 ((wrap64 (48 + (Int.tmod a0 10))) % 256)]) (ok := fun _ => True) (okp := fun _ => True) ?hr ?hp (fun _ hk => hk) trivial (Below.refl _ _) (Nat.le_refl _) (by simp) ?_; (case hd => rfl); (case hg => rfl); (case hr => first | (go_simp; done) | (go_simp; rfl)); (case hp => exact (Reps.one (show Kd.M (Kd.int .u8) _ _ _ ((wrap64 (48 + (Int.tmod a0 10))) % 256) [.int .u8 ((wrap64 (48 + (Int.tmod a0 10))) % 256)] from rfl) (Reps.none _ _))); intro v229 w6 ho7 hb hg_ hnew_; clear hg_ hnew_; (first | rw [← Ny228.out] at ho7 | (simp only [Int.reduceToNat] at ho7; rw [← Ny228.out] at ho7)); have HO230 := aZ (Kd.R_lower ho7 (below_size (lZB HB.out))); replace HB := aZ (below_step (lZB HB.out) hb); clear hb ho7; have hcv8 := own_string (P := Try.prog) Try.underlying22 Try.underlying5 Try.underlying9 (Kd.own_of_R HO230.out)))
 go_loopg [0, 3] k (fun kq v0 v3 w' => ∃ (x0_1 : Int) (x3_1 : ByteArray), v0 = .int .i64 x0_1 ∧ v3 = .string x3_1 ∧ Aside0 (impl_decimal.l0 kq x0_1 x3_1 = some r) ∧ Aside0 (kq ≤ k) ∧ Aside0 (Below w.heap.size w w'))
 case atStart => exact ⟨(wrap64 (Int.tdiv a0 10)), (strOfNums y228), tZB, tZB, H', ⟨Nat.le_refl _⟩, ⟨bZ⟩⟩
 case round =>
  clear H'
  try clear c1
  try clear c2
  try clear c2b0
  try clear p2
  try clear c4
  try clear c4b0
  try clear c4b1
  try clear c4b2
  try clear p6
  try clear hcv8
  obtain ⟨x0_1, x3_1, rfl, rfl, HA, HK1, HB⟩ := hrel
  cases gk with
  | zero => exact absurd HA.out (by simp [impl_decimal.l0])
  | succ k1 =>
   have H := HA.out
   clear HA
   simp only [impl_decimal.l0] at H
   by_cases c9 : x0_1 > 0
   rotate_left
   ·rw [if_neg c9] at H
    have c9b0 : decide (0 < x0_1) = false := decide_eq_false c9
    clear c9
    obtain rfl := Option.some.inj H
    go_wp2
    go_ret
    exact ⟨tZC, bZ⟩
   rw [if_pos c9] at H
   have c9b0 : decide (0 < x0_1) = true := decide_eq_true c9
   clear c9
   obtain ⟨y231, hy231⟩ : ∃ y_ : List Int, y_ = (([(wrap64 (48 + (Int.tmod x0_1 10))) % 256] : List Int)) := ⟨_, rfl⟩
   replace H : (if (strOfNums y231).size + x3_1.size ≤ 9223372036854775807 then (impl_decimal.l0 k1 (wrap64 (Int.tdiv x0_1 10)) ((strOfNums y231) ++ x3_1)) else (none)) = some r := by first | (rw [hy231]; with_reducible exact H) | (have H2_ := (Option.bind_some _ _).symm.trans H; rw [hy231]; with_reducible exact H2_) | (have H2_ := (Option.bind_some _ _).symm.trans H; with_reducible exact H2_) | with_reducible exact H | (rw [hy231]; exact H) | exact H
   have Ny231 := Aside0.mk hy231
   clear hy231
   by_cases c10 : (strOfNums y231).size + x3_1.size ≤ 9223372036854775807
   rotate_left
   ·rw [if_neg c10] at H
    exact absurd H (by simp)
   rw [if_pos c10] at H
   have c10b0 := eq_true c10
   have c10b1 := decide_eq_true c10
   try have c10b2 := eq_false (Nat.not_lt.2 c10)
   have H' := Aside0.mk H
   clear H
   go_wp2_with (first | ((with_reducible refine gate_dst (N := 26) rfl ?_); refine Kd.R_lit (Kd.int .u8) _ 5 ?hg (N := 26) ?hd (xs := ([(wrap64 (48 + (Int.tmod x0_1 10))) % 256] : List Int)) (inner := [.int .u8 ((wrap64 (48 + (Int.tmod x0_1 10))) % 256)]) (ok := fun _ => True) (okp := fun _ => True) ?hr ?hp (fun _ hk => hk) trivial (Below.refl _ _) (Nat.le_refl _) (by simp) ?_; (case hd => rfl); (case hg => rfl); (case hr => first | (go_simp; done) | (go_simp; rfl)); (case hp => exact (Reps.one (show Kd.M (Kd.int .u8) _ _ _ ((wrap64 (48 + (Int.tmod x0_1 10))) % 256) [.int .u8 ((wrap64 (48 + (Int.tmod x0_1 10))) % 256)] from rfl) (Reps.none _ _))); intro v232 w11 ho12 hb hg_ hnew_; clear hg_ hnew_; (first | rw [← Ny231.out] at ho12 | (simp only [Int.reduceToNat] at ho12; rw [← Ny231.out] at ho12)); have HO233 := aZ (Kd.R_lower ho12 (below_size (lZB HB.out))); replace HB := aZ (below_step (lZB HB.out) hb); clear hb ho12; have hcv13 := own_string (P := Try.prog) Try.underlying22 Try.underlying5 Try.underlying9 (Kd.own_of_R HO233.out)))
   go_roundg k1
   case measure => have := HK1.out; omega
   case rel => exact ⟨(wrap64 (Int.tdiv x0_1 10)), ((strOfNums y231) ++ x3_1), tZB, tZB, H', ⟨by have := HK1.out; omega⟩, ⟨bZ⟩⟩
end Go.Proofs.Ytmpknbdbichdiaa.PFnExactReadBank
