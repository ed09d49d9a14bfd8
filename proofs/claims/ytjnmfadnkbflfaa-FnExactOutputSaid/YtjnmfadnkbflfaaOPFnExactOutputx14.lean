import Derived.Test.YtjnmfadnkbflfaaOPFnExactOutputx0
import Derived.Test.YtjnmfadnkbflfaaOPFnExactOutputx13
import Derived.Test.YtjnmfadnkbflfaaOSlimWords
namespace Go.Proofs.Ytjnmfadnkbflfaa.PFnExactOutput
open Go.Proofs.Ytjnmfadnkbflfaa.SlimWords
open Go.RowKit Go.Proofs.YtjnmfadnkbflfaaW.PrintWords Go.Proofs.YtjnmfadnkbflfaaW.PrintLast Go.Proofs.YtjnmfadnkbflfaaW.PrintMore Go.Proofs.Ytjnmfadnkbflfaa.MapWords Go.Proofs.Ytjnmfadnkbflfaa.IterWords Go.Proofs.Ytjnmfadnkbflfaa.MarkWords Go.Proofs.Ytjnmfadnkbflfaa.ArrWords
attribute [local go_sem] ptrOf_slice max2_int min2_int max_two min_two max_three min_three max_four min_four
set_option linter.unusedVariables false
set_option linter.unusedSimpArgs false
private abbrev I' := true
private abbrev O' := false
private abbrev L0' : Array Bool := #[O',O',O',O',O',O',O',O',O',O',O',O']
private abbrev L1' : Array Bool := #[I',O',O',O',O',O',O',O',O',O',O',O']
private abbrev L2' : Array Bool := #[I',I',O',O',O',O',O',O',O',O',O',O']
private abbrev L3' : Array Bool := #[I',I',O',O',O',I',O',O',O',O',O',O']
private abbrev L4' : Array Bool := #[I',I',O',O',O',I',I',O',O',O',O',O']
private abbrev L5' : Array Bool := #[I',I',I',O',O',I',I',O',O',O',O',O']
private abbrev L6' : Array Bool := #[I',I',I',I',O',I',I',O',O',O',O',O']
private abbrev L7' : Array Bool := #[I',I',I',I',I',I',I',O',O',O',O',O']
private abbrev L8' : Array Bool := #[I',I',I',I',I',I',I',I',O',O',O',O']
private abbrev L9' : Array Bool := #[I',I',I',I',I',I',I',I',I',O',O',O']
private abbrev L10' : Array Bool := #[I',I',I',I',I',I',I',I',I',I',O',O']
private abbrev L11' : Array Bool := #[I',I',I',I',I',I',I',I',I',I',I',O']
private abbrev L12' : Array Bool := #[I',I',I',I',I',I',I',I',I',I',I',I']
def impl_output.l0 : Nat → List Int → Int → List (S149) → Int → Int → Option (List Int × Bool)
  | 0, _, _, _, _, _ => none
  | k + 1, x10, x11, x46, x47, x48 => if x48 < x47 then (if 0 ≤ x48 then (if x48 < (x46.length : Int) then (if 0 ≤ ((rd_T149 x46 x48).f0) then (if ((rd_T149 x46 x48).f0) < (x10.length : Int) then ((impl_quantity.f (wrap64 (x11 * ((rd_T149 x46 x48).f1)))).bind fun t343 => (if t343 = true then ((impl_quantity.f (wrap64 ((rd x10 ((rd_T149 x46 x48).f0)) + (wrap64 (x11 * ((rd_T149 x46 x48).f1)))))).bind fun t345 => (if t345 = true then (impl_output.l0 k (x10.set (((rd_T149 x46 x48).f0) : Int).toNat (wrap64 ((rd x10 ((rd_T149 x46 x48).f0)) + (wrap64 (x11 * ((rd_T149 x46 x48).f1)))))) x11 x46 x47 (wrap64 (x48 + 1))) else (some (([] : List Int), false)))) else (some (([] : List Int), false)))) else (none)) else (none)) else (none)) else (none)) else (some (x10, true))
def impl_output.f (k : Nat) (l0 : List (S130)) (a1 : Int) (a2 : Int) (a3 : Int) : Option (List Int × Bool) := if 0 ≤ (l0.length : Int) then (if ((l0.length : Int) : Int).toNat ≤ 35184372088832 then ((some (List.replicate ((l0.length : Int) : Int).toNat 0 : List Int)).bind fun y326 => (if 0 ≤ a1 then (if a1 < (l0.length : Int) then ((impl_roundedUp_int.f a2 ((rd_T130 l0 a1).f1)).bind fun t330 => (if a1 < (y326.length : Int) then ((some (y326.set (a1 : Int).toNat (wrap64 (t330 * ((rd_T130 l0 a1).f1))) : List Int)).bind fun y332 => ((impl_quantity.f (rd y332 a1)).bind fun t334 => (if t334 = true then ((impl_counting.f k ((rd_T130 l0 a1).f4) a3).bind fun t336 => (impl_output.l0 k y332 t330 t336 (t336.length : Int) 0)) else (some (([] : List Int), false))))) else (none))) else (none)) else (none))) else (none)) else (none)
theorem impl_output.mono_l : ∀ k, (∀ y0 y1 y2 y3 y4, LeO (impl_output.l0 k y0 y1 y2 y3 y4) (impl_output.l0 (k + 1) y0 y1 y2 y3 y4))
  | 0 => fun _ _ _ _ _ r h => by simp [impl_output.l0] at h
  | k + 1 => by
    have ih0 := impl_output.mono_l k
    · intro y0 y1 y2 y3 y4
      unfold impl_output.l0
      repeat' first
      | (with_reducible exact ih0 _ _ _ _ _)
      | (with_reducible exact impl_counting.mono _ _ _)
      | (with_reducible exact LeO.refl _)
      | (with_reducible exact LeO.none _)
      | (with_reducible refine LeO.ite ?_ ?_)
      | (with_reducible refine LeO.bind ?_ (fun _ => ?_))
      | exact ih0 _ _ _ _ _
      | exact impl_counting.mono _ _ _
      | exact LeO.none _
      | refine LeO.ite ?_ ?_
      | refine LeO.bind ?_ (fun _ => ?_)
theorem impl_output.mono : ∀ a0 a1 a2 a3 k, LeO (impl_output.f k a0 a1 a2 a3) (impl_output.f (k + 1) a0 a1 a2 a3) := by
 intro a0 a1 a2 a3 k
 have ih0 := impl_output.mono_l k
 unfold impl_output.f
 repeat' first
     | (with_reducible exact ih0 _ _ _ _ _)
     | (with_reducible exact impl_counting.mono _ _ _)
     | (with_reducible exact LeO.refl _)
     | (with_reducible exact LeO.none _)
     | (with_reducible refine LeO.ite ?_ ?_)
     | (with_reducible refine LeO.bind ?_ (fun _ => ?_))
     | exact ih0 _ _ _ _ _
     | exact impl_counting.mono _ _ _
     | exact LeO.none _
     | refine LeO.ite ?_ ?_
     | refine LeO.bind ?_ (fun _ => ?_)
def impl_output.T9 : Bool × List (List Nat × List Nat) := (true, [([], []), ([], []), ([1], [1]), ([0, 2], [0, 2]), ([3], [3]), ([], []), ([], []), ([6], [6]), ([5, 7], [5, 7]), ([4, 8], [4, 8]), ([0, 2, 0, 1, 2, 3, 4, 5, 6, 7, 8, 9], [0, 2]), ([10, 9, 0, 1, 2, 3, 4, 5, 6, 7, 8, 9], [9, 10])])
def impl_output.B9 : List Nat := [0, 0, 2, 7, 15, 0, 0, 64, 224, 511, 1023, 2047]
theorem impl_output.tab9 : rtab .any (opsOf Try.f109 9) = impl_output.T9 := by kernel_rfl
theorem impl_output.bits9 : waitsOk impl_output.T9.2 impl_output.B9 = true := by kernel_rfl
set_option maxHeartbeats 8000000 in
set_option maxRecDepth 100000 in
theorem impl_output.calls (k : Nat) (A0 : Option Addr) (c0 : Nat) (l0 : List (S130)) (a1 : Int) (a2 : Int) (a3 : Int) (r1 : List Int) (r2 : Bool) (w : World) (hr0 : Kd.C k130 w A0 l0.length l0) (hc0 : l0.length ≤ c0) (h : impl_output.f k l0 a1 a2 a3 = some (r1, r2)) :
    Calls Try.prog 109 #[.slice A0 l0.length c0, .int .i64 a1, .int .i64 a2, .int .i64 a3] w fun e w' => ∃ v0_ : Value, e = .returned (.tuple #[v0_, .bool r2]) ∧ Kd.R (Kd.int .i64) 3 w' w.heap.size (fun _ => True) v0_ r1 ∧ Below w.heap.size w w' := by
 have hu149 := Try.underlying149
 have HR0 := Aside0.mk hr0
 have HC0 := Aside0.mk hc0
 clear hr0 hc0
 have HB := aZ (Below.refl w.heap.size w)
 have H : (if 0 ≤ (l0.length : Int) then (if ((l0.length : Int) : Int).toNat ≤ 35184372088832 then ((some (List.replicate ((l0.length : Int) : Int).toNat 0 : List Int)).bind fun y326 => (if 0 ≤ a1 then (if a1 < (l0.length : Int) then ((impl_roundedUp_int.f a2 ((rd_T130 l0 a1).f1)).bind fun t330 => (if a1 < (y326.length : Int) then ((some (y326.set (a1 : Int).toNat (wrap64 (t330 * ((rd_T130 l0 a1).f1))) : List Int)).bind fun y332 => ((impl_quantity.f (rd y332 a1)).bind fun t334 => (if t334 = true then ((impl_counting.f k ((rd_T130 l0 a1).f4) a3).bind fun t336 => (impl_output.l0 k y332 t330 t336 (t336.length : Int) 0)) else (some (([] : List Int), false))))) else (none))) else (none)) else (none))) else (none)) else (none)) = some (r1, r2) := h
 clear h
 by_cases c5 : 0 ≤ (l0.length : Int)
 rotate_left
 ·rw [if_neg c5] at H
  exact absurd H (by simp)
 rw [if_pos c5] at H
 have c5b0 := eq_true c5
 have c5b1 := decide_eq_true c5
 clear c5
 by_cases c6 : ((l0.length : Int) : Int).toNat ≤ 35184372088832
 rotate_left
 ·rw [if_neg c6] at H
  exact absurd H (by simp)
 rw [if_pos c6] at H
 have c6b0 := eq_true c6
 have c6b1 := decide_eq_true c6
 clear c6
 obtain ⟨y326, hy326⟩ : ∃ y_ : List Int, y_ = (List.replicate ((l0.length : Int) : Int).toNat 0) := ⟨_, rfl⟩
 replace H : (if 0 ≤ a1 then (if a1 < (l0.length : Int) then ((impl_roundedUp_int.f a2 ((rd_T130 l0 a1).f1)).bind fun t330 => (if a1 < (y326.length : Int) then ((some (y326.set (a1 : Int).toNat (wrap64 (t330 * ((rd_T130 l0 a1).f1))) : List Int)).bind fun y332 => ((impl_quantity.f (rd y332 a1)).bind fun t334 => (if t334 = true then ((impl_counting.f k ((rd_T130 l0 a1).f4) a3).bind fun t336 => (impl_output.l0 k y332 t330 t336 (t336.length : Int) 0)) else (some (([] : List Int), false))))) else (none))) else (none)) else (none)) = some (r1, r2) := by first | (rw [hy326]; with_reducible exact H) | (have H2_ := (Option.bind_some _ _).symm.trans H; rw [hy326]; with_reducible exact H2_) | (have H2_ := (Option.bind_some _ _).symm.trans H; with_reducible exact H2_) | with_reducible exact H | (rw [hy326]; exact H) | exact H
 have Ny326 := Aside0.mk hy326
 clear hy326
 by_cases c7 : 0 ≤ a1
 rotate_left
 ·rw [if_neg c7] at H
  exact absurd H (by simp)
 rw [if_pos c7] at H
 have c7b0 := decide_eq_true c7
 clear c7
 by_cases c8 : a1 < (l0.length : Int)
 rotate_left
 ·rw [if_neg c8] at H
  exact absurd H (by simp)
 rw [if_pos c8] at H
 have c8b0 := decide_eq_true c8
 clear c8
 replace H := Option.bind_eq_some_iff.mp H
 obtain ⟨t330, A90, H⟩ := H
 replace H : (if a1 < (y326.length : Int) then ((some (y326.set (a1 : Int).toNat (wrap64 (t330 * ((rd_T130 l0 a1).f1))) : List Int)).bind fun y332 => ((impl_quantity.f (rd y332 a1)).bind fun t334 => (if t334 = true then ((impl_counting.f k ((rd_T130 l0 a1).f4) a3).bind fun t336 => (impl_output.l0 k y332 t330 t336 (t336.length : Int) 0)) else (some (([] : List Int), false))))) else (none)) = some (r1, r2) := H
 have A9 := Aside0.mk A90
 clear A90
 by_cases c10 : a1 < (y326.length : Int)
 rotate_left
 ·rw [if_neg c10] at H
  exact absurd H (by simp)
 rw [if_pos c10] at H
 have c10b0 := decide_eq_true c10
 clear c10
 obtain ⟨y332, hy332⟩ : ∃ y_ : List Int, y_ = (y326.set (a1 : Int).toNat (wrap64 (t330 * ((rd_T130 l0 a1).f1)))) := ⟨_, rfl⟩
 replace H : ((impl_quantity.f (rd y332 a1)).bind fun t334 => (if t334 = true then ((impl_counting.f k ((rd_T130 l0 a1).f4) a3).bind fun t336 => (impl_output.l0 k y332 t330 t336 (t336.length : Int) 0)) else (some (([] : List Int), false)))) = some (r1, r2) := by first | (rw [hy332]; with_reducible exact H) | (have H2_ := (Option.bind_some _ _).symm.trans H; rw [hy332]; with_reducible exact H2_) | (have H2_ := (Option.bind_some _ _).symm.trans H; with_reducible exact H2_) | with_reducible exact H | (rw [hy332]; exact H) | exact H
 have Ny332 := Aside0.mk hy332
 clear hy332
 replace H := Option.bind_eq_some_iff.mp H
 obtain ⟨t334, A120, H⟩ := H
 replace H : (if t334 = true then ((impl_counting.f k ((rd_T130 l0 a1).f4) a3).bind fun t336 => (impl_output.l0 k y332 t330 t336 (t336.length : Int) 0)) else (some (([] : List Int), false))) = some (r1, r2) := H
 have A12 := Aside0.mk A120
 clear A120
 by_cases c13 : t334 = true
 rotate_left
 ·replace c13 := Bool.eq_false_iff.mpr c13
  subst c13
  have H1 : (some (([] : List Int), false)) = some (r1, r2) := by rw [if_neg (show ¬ (false = true) by decide)] at H; exact H
  clear H
  have H := H1
  clear H1
  simp only [Option.some.injEq, Prod.mk.injEq] at H
  obtain ⟨rfl, rfl⟩ := H
  go_enter Try.func109, Try.ntmps109
  go_wp2_with (first | ((with_reducible refine gate_dst (N := 16) rfl ?_); refine Kd.R_make (Kd.int .i64) _ 3 rfl (N := 16) rfl 51 _ _ rfl (l0.length : Int) rfl rfl Try.underlying51 (.int .i64 0) 8 info3 rfl (by decide) (by omega) 0 (ok := fun _ => True) (okp := fun _ => True) rfl (fun _ hk => hk) trivial (of_decide_eq_true tZE) (Nat.le_trans (Nat.mul_le_mul_right _ (of_decide_eq_true tZE : (l0.length : Int).toNat ≤ 35184372088832)) (by omega)) (Below.refl _ _) (Nat.le_refl _) ?_; intro v327 w53 ho54 hb hg_ hnew_; clear hg_ hnew_; (first | rw [← Ny326.out] at ho54 | (simp only [Int.reduceToNat] at ho54; rw [← Ny326.out] at ho54)); have HO328 := aZ (Kd.R_lower ho54 (below_size (lZB HB.out))); replace HB := aZ (below_step (lZB HB.out) hb); clear hb ho54; have p329 : 0 ≤ (a1 : Int) := of_decide_eq_true tZE; have q329 : a1 < (l0.length : Int) := of_decide_eq_true tZE; obtain ⟨ad329, A329_3, c329_3, A329_4, c329_4, e329, hx329_0, hx329_1, hx329_2, hx329_3, hx329_4, hl329_3, hi329_3, hl329_4, hi329_4⟩ := at_T130 HR0.out a1 p329 q329; have hz329_3 := hx329_3; have hz329_4 := hx329_4; cases e329; replace hx329_0 := cZ HB hx329_0; replace hx329_1 := cZ HB hx329_1; replace hx329_2 := cZ HB hx329_2; replace hx329_3 := cZ HB hx329_3; replace hx329_4 := cZ HB hx329_4; have HR329_3 := Aside0.mk hi329_3; have HC329_3 := Aside0.mk hl329_3; clear hi329_3 hl329_3; have HR329_4 := Aside0.mk hi329_4; have HC329_4 := Aside0.mk hl329_4; clear hi329_4 hl329_4; replace p329 := eq_true p329; replace q329 := eq_true q329) | ((with_reducible refine gate_callee (f := 163) rfl ?_); refine goesL_ (some 23) rfl rfl Try.func163 kZ rfl #[.int .i64 a2, .int .i64 ((rd_T130 l0 a1).f1)] rfl tZA ?_; (with_reducible refine (impl_roundedUp_int.calls a2 ((rd_T130 l0 a1).f1) t330 _ A9.out).mono ?_); rintro e w' ⟨rfl, ⟨nd, rfl⟩⟩; refine ⟨_, rfl, ?_⟩; (try (rw [drewN_self w53]; generalize hq_ : World.drewN w53 _ = w53; replace HO328 : Aside0 (Kd.R (Kd.int .i64) 3 w53 w.heap.size (fun _ => True) v327 y326) := ⟨by rw [← hq_]; exact (lZR HO328.out)⟩; replace HB : Aside0 (Below w.heap.size w w53) := ⟨by rw [← hq_]; exact (lZB HB.out)⟩; clear hq_)); have p331 : 0 ≤ (a1 : Int) := of_decide_eq_true tZE; have q331 : a1 < (l0.length : Int) := of_decide_eq_true tZE; obtain ⟨ad331, A331_3, c331_3, A331_4, c331_4, e331, hx331_0, hx331_1, hx331_2, hx331_3, hx331_4, hl331_3, hi331_3, hl331_4, hi331_4⟩ := at_T130 HR0.out a1 p331 q331; have hz331_3 := hx331_3; have hz331_4 := hx331_4; obtain rfl : ad329 = ad331 := (by injection e331); replace hx331_0 := cZ HB hx331_0; replace hx331_1 := cZ HB hx331_1; replace hx331_2 := cZ HB hx331_2; replace hx331_3 := cZ HB hx331_3; replace hx331_4 := cZ HB hx331_4; have HR331_3 := Aside0.mk hi331_3; have HC331_3 := Aside0.mk hl331_3; clear hi331_3 hl331_3; have HR331_4 := Aside0.mk hi331_4; have HC331_4 := Aside0.mk hl331_4; clear hi331_4 hl331_4; replace p331 := eq_true p331; replace q331 := eq_true q331; have ea_ := Option.some.inj (hz329_3.symm.trans hz331_3); injection ea_ with ea_ en_ ec_; subst ea_; subst ec_; clear en_; have ea_ := Option.some.inj (hz329_4.symm.trans hz331_4); injection ea_ with ea_ en_ ec_; subst ea_; subst ec_; clear en_; have p11 : 0 ≤ (a1 : Int) := of_decide_eq_true tZE; have q11 : (a1 : Int) < ((y326.length : Int) : Int) := of_decide_eq_true tZE; obtain ⟨go11, co11, eo11, gb11, gl11, cl11, HG11⟩ := Kd.R_form HO328.out (by omega); (first | cases eo11 | (injection eo11 with ea_ en_ ec_; (first | subst ea_ | (injection ea_ with ea_; subst ea_)); subst ec_; clear en_)); have GB11 := Aside0.mk gb11; have GG11 := Aside0.mk HG11; clear gb11 gl11 HG11; obtain ⟨hx11_0, hf11_0⟩ := Kd.R_celln 0 HO328.out (a1 : Int) p11 q11; replace p11 := eq_true p11; replace q11 := eq_true q11; obtain ⟨hy55_, hz55_⟩ := Kd.R_celln 0 HO328.out (a1 : Int) (of_decide_eq_true tZE) (of_decide_eq_true tZE); have HP55 := Kd.R_putg HO328.out (a1 : Int) (wrap64 (t330 * ((rd_T130 l0 a1).f1)))) | ((with_reducible refine gate_store (t := 3) (p := 33) rfl ?_); refine store_event (t := 3) (p := 33) (v := ?vo_w56) (w1 := (w53.setCell ⟨go11, (a1 : Int).toNat, none⟩ (.int .i64 (wrap64 (t330 * ((rd_T130 l0 a1).f1)))))) ?hg ?ho ?hn ?hr ?_; (case ho => rfl); (case hg => rfl); (case hn => rfl); (case hr => first | (go_simp; done) | (go_simp; rfl)); intro w56 hw; have hg : w53.grownBy w56 (some go11) := (by rw [hw]; exact HP55.2); have hp_ : Kd.R (Kd.int .i64) 3 w56 w.heap.size (fun _ => True) (.slice (some ⟨go11, 0, none⟩) y326.length co11) y332 := (by rw [hw, Ny332.out]; exact HP55.1); clear HP55; replace HO328 := aZ (hp_); replace HB := aZ ((by rw [hw]; exact below_set (HB.out) GB11.out : Below w.heap.size w w56)); clear hg hw hp_; have p333 : 0 ≤ (a1 : Int) := of_decide_eq_true tZE; have q333 : a1 < (y332.length : Int) := (by have h_ : (a1 : Int) < ((y326.length : Int) : Int) := of_decide_eq_true tZE; first | (have e_ := (Kd.R_reads' HO328.out).1; omega) | simpa only [Ny332.out, List.length_set] using h_); have ql333 : ((a1 : Int) < ((y326.length : Int) : Int)) = True := eq_true (of_decide_eq_true tZE); obtain ⟨ad333, e333, hx333_0⟩ := Kd.at_int (Kd.R_reads' HO328.out).2.2 a1 p333 q333; obtain rfl : (⟨go11, 0, none⟩ : Addr) = ad333 := (by injection e333); (first | simp only [add_plain] at hx333_0 | simp only [add_at] at hx333_0 | simp only [Addr.add, Nat.zero_add] at hx333_0 | skip); replace p333 := eq_true p333; replace q333 := eq_true q333) | ((with_reducible refine gate_callee (f := 162) rfl ?_); refine goesL_ (some 38) rfl rfl Try.func162 kZ rfl #[.int .i64 (rd y332 a1)] rfl tZA ?_; (with_reducible refine (impl_quantity.calls (rd y332 a1) false _ A12.out).mono ?_); rintro e w' ⟨rfl, ⟨nd, rfl⟩⟩; refine ⟨_, rfl, ?_⟩))
  go_ret2
  exact ⟨_, tZC, by first | exact Kd.R_nil _ _ _ _ _ | exact Kd.N_nil _ _ _ _ _ | exact Kd.V_nil _ _ _ _ _ | exact Kd.Q_nil _ _ _ _ _ | exact Kd.S_nil _ _ _ _ _, bZ⟩
 subst c13
 have H1 : ((impl_counting.f k ((rd_T130 l0 a1).f4) a3).bind fun t336 => (impl_output.l0 k y332 t330 t336 (t336.length : Int) 0)) = some (r1, r2) := by rw [if_pos rfl] at H; exact H
 clear H
 have H := H1
 clear H1
 replace H := Option.bind_eq_some_iff.mp H
 obtain ⟨t336, A140, H⟩ := H
 replace H : (impl_output.l0 k y332 t330 t336 (t336.length : Int) 0) = some (r1, r2) := H
 have A14 := Aside0.mk A140
 clear A140
 have H' := Aside0.mk H
 clear H
 go_enter Try.func109, Try.ntmps109
 go_wp2_with (first | ((with_reducible refine gate_dst (N := 16) rfl ?_); refine Kd.R_make (Kd.int .i64) _ 3 rfl (N := 16) rfl 51 _ _ rfl (l0.length : Int) rfl rfl Try.underlying51 (.int .i64 0) 8 info3 rfl (by decide) (by omega) 0 (ok := fun _ => True) (okp := fun _ => True) rfl (fun _ hk => hk) trivial (of_decide_eq_true tZE) (Nat.le_trans (Nat.mul_le_mul_right _ (of_decide_eq_true tZE : (l0.length : Int).toNat ≤ 35184372088832)) (by omega)) (Below.refl _ _) (Nat.le_refl _) ?_; intro v327 w15 ho16 hb hg_ hnew_; clear hg_ hnew_; (first | rw [← Ny326.out] at ho16 | (simp only [Int.reduceToNat] at ho16; rw [← Ny326.out] at ho16)); have HO328 := aZ (Kd.R_lower ho16 (below_size (lZB HB.out))); replace HB := aZ (below_step (lZB HB.out) hb); clear hb ho16; have p329 : 0 ≤ (a1 : Int) := of_decide_eq_true tZE; have q329 : a1 < (l0.length : Int) := of_decide_eq_true tZE; obtain ⟨ad329, A329_3, c329_3, A329_4, c329_4, e329, hx329_0, hx329_1, hx329_2, hx329_3, hx329_4, hl329_3, hi329_3, hl329_4, hi329_4⟩ := at_T130 HR0.out a1 p329 q329; have hz329_3 := hx329_3; have hz329_4 := hx329_4; cases e329; replace hx329_0 := cZ HB hx329_0; replace hx329_1 := cZ HB hx329_1; replace hx329_2 := cZ HB hx329_2; replace hx329_3 := cZ HB hx329_3; replace hx329_4 := cZ HB hx329_4; have HR329_3 := Aside0.mk hi329_3; have HC329_3 := Aside0.mk hl329_3; clear hi329_3 hl329_3; have HR329_4 := Aside0.mk hi329_4; have HC329_4 := Aside0.mk hl329_4; clear hi329_4 hl329_4; replace p329 := eq_true p329; replace q329 := eq_true q329) | ((with_reducible refine gate_callee (f := 163) rfl ?_); refine goesL_ (some 23) rfl rfl Try.func163 kZ rfl #[.int .i64 a2, .int .i64 ((rd_T130 l0 a1).f1)] rfl tZA ?_; (with_reducible refine (impl_roundedUp_int.calls a2 ((rd_T130 l0 a1).f1) t330 _ A9.out).mono ?_); rintro e w' ⟨rfl, ⟨nd, rfl⟩⟩; refine ⟨_, rfl, ?_⟩; (try (rw [drewN_self w15]; generalize hq_ : World.drewN w15 _ = w15; replace HO328 : Aside0 (Kd.R (Kd.int .i64) 3 w15 w.heap.size (fun _ => True) v327 y326) := ⟨by rw [← hq_]; exact (lZR HO328.out)⟩; replace HB : Aside0 (Below w.heap.size w w15) := ⟨by rw [← hq_]; exact (lZB HB.out)⟩; clear hq_)); have p331 : 0 ≤ (a1 : Int) := of_decide_eq_true tZE; have q331 : a1 < (l0.length : Int) := of_decide_eq_true tZE; obtain ⟨ad331, A331_3, c331_3, A331_4, c331_4, e331, hx331_0, hx331_1, hx331_2, hx331_3, hx331_4, hl331_3, hi331_3, hl331_4, hi331_4⟩ := at_T130 HR0.out a1 p331 q331; have hz331_3 := hx331_3; have hz331_4 := hx331_4; obtain rfl : ad329 = ad331 := (by injection e331); replace hx331_0 := cZ HB hx331_0; replace hx331_1 := cZ HB hx331_1; replace hx331_2 := cZ HB hx331_2; replace hx331_3 := cZ HB hx331_3; replace hx331_4 := cZ HB hx331_4; have HR331_3 := Aside0.mk hi331_3; have HC331_3 := Aside0.mk hl331_3; clear hi331_3 hl331_3; have HR331_4 := Aside0.mk hi331_4; have HC331_4 := Aside0.mk hl331_4; clear hi331_4 hl331_4; replace p331 := eq_true p331; replace q331 := eq_true q331; have ea_ := Option.some.inj (hz329_3.symm.trans hz331_3); injection ea_ with ea_ en_ ec_; subst ea_; subst ec_; clear en_; have ea_ := Option.some.inj (hz329_4.symm.trans hz331_4); injection ea_ with ea_ en_ ec_; subst ea_; subst ec_; clear en_; have p11 : 0 ≤ (a1 : Int) := of_decide_eq_true tZE; have q11 : (a1 : Int) < ((y326.length : Int) : Int) := of_decide_eq_true tZE; obtain ⟨go11, co11, eo11, gb11, gl11, cl11, HG11⟩ := Kd.R_form HO328.out (by omega); (first | cases eo11 | (injection eo11 with ea_ en_ ec_; (first | subst ea_ | (injection ea_ with ea_; subst ea_)); subst ec_; clear en_)); have GB11 := Aside0.mk gb11; have GG11 := Aside0.mk HG11; clear gb11 gl11 HG11; obtain ⟨hx11_0, hf11_0⟩ := Kd.R_celln 0 HO328.out (a1 : Int) p11 q11; replace p11 := eq_true p11; replace q11 := eq_true q11; obtain ⟨hy17_, hz17_⟩ := Kd.R_celln 0 HO328.out (a1 : Int) (of_decide_eq_true tZE) (of_decide_eq_true tZE); have HP17 := Kd.R_putg HO328.out (a1 : Int) (wrap64 (t330 * ((rd_T130 l0 a1).f1)))) | ((with_reducible refine gate_store (t := 3) (p := 33) rfl ?_); refine store_event (t := 3) (p := 33) (v := ?vo_w18) (w1 := (w15.setCell ⟨go11, (a1 : Int).toNat, none⟩ (.int .i64 (wrap64 (t330 * ((rd_T130 l0 a1).f1)))))) ?hg ?ho ?hn ?hr ?_; (case ho => rfl); (case hg => rfl); (case hn => rfl); (case hr => first | (go_simp; done) | (go_simp; rfl)); intro w18 hw; have hg : w15.grownBy w18 (some go11) := (by rw [hw]; exact HP17.2); have hp_ : Kd.R (Kd.int .i64) 3 w18 w.heap.size (fun _ => True) (.slice (some ⟨go11, 0, none⟩) y326.length co11) y332 := (by rw [hw, Ny332.out]; exact HP17.1); clear HP17; replace HO328 := aZ (hp_); replace HB := aZ ((by rw [hw]; exact below_set (HB.out) GB11.out : Below w.heap.size w w18)); clear hg hw hp_; have p333 : 0 ≤ (a1 : Int) := of_decide_eq_true tZE; have q333 : a1 < (y332.length : Int) := (by have h_ : (a1 : Int) < ((y326.length : Int) : Int) := of_decide_eq_true tZE; first | (have e_ := (Kd.R_reads' HO328.out).1; omega) | simpa only [Ny332.out, List.length_set] using h_); have ql333 : ((a1 : Int) < ((y326.length : Int) : Int)) = True := eq_true (of_decide_eq_true tZE); obtain ⟨ad333, e333, hx333_0⟩ := Kd.at_int (Kd.R_reads' HO328.out).2.2 a1 p333 q333; obtain rfl : (⟨go11, 0, none⟩ : Addr) = ad333 := (by injection e333); (first | simp only [add_plain] at hx333_0 | simp only [add_at] at hx333_0 | simp only [Addr.add, Nat.zero_add] at hx333_0 | skip); replace p333 := eq_true p333; replace q333 := eq_true q333) | ((with_reducible refine gate_callee (f := 162) rfl ?_); refine goesL_ (some 38) rfl rfl Try.func162 kZ rfl #[.int .i64 (rd y332 a1)] rfl tZA ?_; (with_reducible refine (impl_quantity.calls (rd y332 a1) true _ A12.out).mono ?_); rintro e w' ⟨rfl, ⟨nd, rfl⟩⟩; refine ⟨_, rfl, ?_⟩; have p335 : 0 ≤ (a1 : Int) := of_decide_eq_true tZE; have q335 : a1 < (l0.length : Int) := of_decide_eq_true tZE; obtain ⟨ad335, A335_3, c335_3, A335_4, c335_4, e335, hx335_0, hx335_1, hx335_2, hx335_3, hx335_4, hl335_3, hi335_3, hl335_4, hi335_4⟩ := at_T130 HR0.out a1 p335 q335; have hz335_3 := hx335_3; have hz335_4 := hx335_4; obtain rfl : ad329 = ad335 := (by injection e335); replace hx335_0 := cZ HB hx335_0; replace hx335_1 := cZ HB hx335_1; replace hx335_2 := cZ HB hx335_2; replace hx335_3 := cZ HB hx335_3; replace hx335_4 := cZ HB hx335_4; have HR335_3 := Aside0.mk hi335_3; have HC335_3 := Aside0.mk hl335_3; clear hi335_3 hl335_3; have HR335_4 := Aside0.mk hi335_4; have HC335_4 := Aside0.mk hl335_4; clear hi335_4 hl335_4; replace p335 := eq_true p335; replace q335 := eq_true q335) | ((with_reducible refine gate_callee (f := 164) rfl ?_); refine goesL_ (some 46) rfl rfl Try.func164 kZ rfl #[.slice A335_4 ((rd_T130 l0 a1).f4).length c335_4, .int .i64 a3] rfl tZA ?_; (with_reducible refine (impl_counting.calls k _ _ ((rd_T130 l0 a1).f4) a3 t336 _ ?side1 ?side2 A14.out).mono ?_); (case side1 => repeat (first | exact (Kd.C_below HR335_4.out (lZB HB.out)) | (with_reducible refine Kd.C_alloc ?_ _) | (with_reducible refine Kd.C_drewN ?_ _) | (with_reducible refine Kd.C_drew ?_))); (case side2 => exact HC335_4.out); rintro e w19 ⟨v337, rfl, ho0, hb⟩; refine ⟨_, rfl, ?_⟩; replace HO328 := aZ (Kd.R_below (lZR HO328.out) hb); have HO338 := aZ (Kd.R_lower ho0 (below_size (lZB HB.out))); replace HB := aZ (below_step (lZB HB.out) hb); (try clear hb); (try clear hb2); (try clear hk); (try clear hi); (try clear ho0); obtain ⟨Ao20, co20, eo20⟩ := Kd.R_slice HO338.out; subst eo20))
 go_loopg [48] k (fun kq v48 w' => ∃ (x10_1 : List Int) (x48_1 : Int), v48 = .int .i64 x48_1 ∧ Aside0 (impl_output.l0 kq x10_1 t330 t336 (t336.length : Int) x48_1 = some (r1, r2)) ∧ Aside0 (kq ≤ k) ∧ Aside0 (Kd.R (Kd.int .i64) 3 w' w.heap.size (fun _ => True) (.slice (some ⟨go11, 0, none⟩) y326.length co11) x10_1) ∧ Aside0 (Kd.R k149 149 w' w.heap.size (fun _ => True) (.slice Ao20 t336.length co20) t336) ∧ Aside0 (Below w.heap.size w w'))
 case atStart => exact ⟨(y332), (0), tZB, H', ⟨Nat.le_refl _⟩, ⟨lZR HO328.out⟩, ⟨lZR HO338.out⟩, ⟨bZ⟩⟩
 case round =>
  clear H'
  try clear c1
  try clear p1
  try clear q1
  try clear hx1
  try clear p2
  try clear c3
  try clear p3
  try clear q3
  try clear hx3
  try clear c5
  try clear c5b0
  try clear c5b1
  try clear c6
  try clear c6b0
  try clear c6b1
  try clear p6
  try clear c7
  try clear c7b0
  try clear c8
  try clear c8b0
  try clear c10
  try clear c10b0
  try clear p11
  try clear q11
  try clear hx11
  try clear hf11
  try clear c13
  try clear c16
  try clear hx11_0
  try clear hx329_0
  try clear hx329_1
  try clear hx329_2
  try clear hx329_3
  try clear hx329_4
  try clear hx331_0
  try clear hx331_1
  try clear hx331_2
  try clear hx331_3
  try clear hx331_4
  try clear hx333_0
  try clear hx335_0
  try clear hx335_1
  try clear hx335_2
  try clear hx335_3
  try clear hx335_4
  try clear p11
  try clear p329
  try clear p331
  try clear p333
  try clear p335
  try clear q11
  try clear q329
  try clear q331
  try clear q333
  try clear q335
  obtain ⟨x10_1, x48_1, rfl, HA, HK1, HO_10, HO_46, HB⟩ := hrel
  have hl10_1 := (Kd.R_reads' HO_10.out).1
  rw [hl10_1] at HO_10
  (try simp only [hl10_1])
  (try simp only [hl10_1] at HO_46)
  cases gk with
  | zero => exact absurd HA.out (by simp [impl_output.l0])
  | succ k1 =>
   have H := HA.out
   clear HA
   simp only [impl_output.l0] at H
   by_cases c21 : x48_1 < (t336.length : Int)
   rotate_left
   ·rw [if_neg c21] at H
    have c21b0 := decide_eq_false c21
    clear c21
    simp only [Option.some.injEq, Prod.mk.injEq] at H
    obtain ⟨rfl, rfl⟩ := H
    go_wp2
    go_ret2
    exact ⟨_, tZC, lZR HO_10.out, bZ⟩
   rw [if_pos c21] at H
   have c21b0 := decide_eq_true c21
   clear c21
   by_cases c22 : 0 ≤ x48_1
   rotate_left
   ·rw [if_neg c22] at H
    exact absurd H (by simp)
   rw [if_pos c22] at H
   have c22b0 := decide_eq_true c22
   clear c22
   by_cases c23 : x48_1 < (t336.length : Int)
   rotate_left
   ·rw [if_neg c23] at H
    exact absurd H (by simp)
   rw [if_pos c23] at H
   have c23b0 := decide_eq_true c23
   clear c23
   by_cases c24 : 0 ≤ ((rd_T149 t336 x48_1).f0)
   rotate_left
   ·rw [if_neg c24] at H
    exact absurd H (by simp)
   rw [if_pos c24] at H
   have c24b0 := decide_eq_true c24
   clear c24
   by_cases c25 : ((rd_T149 t336 x48_1).f0) < (x10_1.length : Int)
   rotate_left
   ·rw [if_neg c25] at H
    exact absurd H (by simp)
   rw [if_pos c25] at H
   have c25b0 := decide_eq_true c25
   clear c25
   obtain ⟨y342, hy342⟩ : ∃ y_ : List Int, y_ = (x10_1.set (((rd_T149 t336 x48_1).f0) : Int).toNat (wrap64 ((rd x10_1 ((rd_T149 t336 x48_1).f0)) + (wrap64 (t330 * ((rd_T149 t336 x48_1).f1)))))) := ⟨_, rfl⟩
   replace H : ((impl_quantity.f (wrap64 (t330 * ((rd_T149 t336 x48_1).f1)))).bind fun t343 => (if t343 = true then ((impl_quantity.f (wrap64 ((rd x10_1 ((rd_T149 t336 x48_1).f0)) + (wrap64 (t330 * ((rd_T149 t336 x48_1).f1)))))).bind fun t345 => (if t345 = true then (impl_output.l0 k1 y342 t330 t336 (t336.length : Int) (wrap64 (x48_1 + 1))) else (some (([] : List Int), false)))) else (some (([] : List Int), false)))) = some (r1, r2) := by first | (rw [hy342]; with_reducible exact H) | (have H2_ := (Option.bind_some _ _).symm.trans H; rw [hy342]; with_reducible exact H2_) | (have H2_ := (Option.bind_some _ _).symm.trans H; with_reducible exact H2_) | with_reducible exact H | (rw [hy342]; exact H) | exact H
   have Ny342 := Aside0.mk hy342
   clear hy342
   replace H := Option.bind_eq_some_iff.mp H
   obtain ⟨t343, A270, H⟩ := H
   replace H : (if t343 = true then ((impl_quantity.f (wrap64 ((rd x10_1 ((rd_T149 t336 x48_1).f0)) + (wrap64 (t330 * ((rd_T149 t336 x48_1).f1)))))).bind fun t345 => (if t345 = true then (impl_output.l0 k1 y342 t330 t336 (t336.length : Int) (wrap64 (x48_1 + 1))) else (some (([] : List Int), false)))) else (some (([] : List Int), false))) = some (r1, r2) := H
   have A27 := Aside0.mk A270
   clear A270
   by_cases c28 : t343 = true
   rotate_left
   ·replace c28 := Bool.eq_false_iff.mpr c28
    subst c28
    have H1 : (some (([] : List Int), false)) = some (r1, r2) := by rw [if_neg (show ¬ (false = true) by decide)] at H; exact H
    clear H
    have H := H1
    clear H1
    simp only [Option.some.injEq, Prod.mk.injEq] at H
    obtain ⟨rfl, rfl⟩ := H
    have p339 : 0 ≤ (x48_1 : Int) := of_decide_eq_true tZE
    have q339 : x48_1 < (t336.length : Int) := of_decide_eq_true tZE
    obtain ⟨ad339, e339, hx339_0, hx339_1, hx339_2, hx339_3, hx339_4, hx339_5⟩ := at_T149 (Kd.R_reads' HO_46.out).2.2 x48_1 p339 q339
    cases e339
    replace p339 := eq_true p339
    replace q339 := eq_true q339
    try go_wp2_with (first | ((with_reducible refine gate_dst (N := 13) rfl ?_); refine box_event ?hg (N := 13) ?hd (cs := #[.int .i64 0, .int .i64 0, .int .i64 0, .int .i64 0, .int .i64 0, .int .i64 0]) (t := 149) ?hr ?_; (case hd => rfl); (case hg => rfl); (case hr => first | (go_simp; done) | (go_simp; rfl)); intro gb340 hg w46 hbox hb; replace HO_10 := aZ (Kd.R_below (lZR HO_10.out) hb); replace HO_46 := aZ (Kd.R_below (Kd.R_elderB (lZR HO_46.out) gb340 (Nat.le_of_eq hg.symm)) hb); have BK340 := aZ (hbox); have GW340 := aZ ((by rw [hg]; exact (below_size (lZB HB.out)) : w.heap.size ≤ gb340)); have GE340 := aZ ((by rw [hg]; exact (below_size (lZB HB.out)) : w.heap.size ≤ gb340)); replace HB := aZ (below_step (lZB HB.out) hb); clear hb hbox hg; have hcz47_0 : w46.cell? ⟨gb340, 0, none⟩ = some (.int .i64 0) := (blk_cell BK340.out 0).trans rfl; have hcz47_1 : w46.cell? ⟨gb340, 1, none⟩ = some (.int .i64 0) := (blk_cell BK340.out 1).trans rfl; have hcz47_2 : w46.cell? ⟨gb340, 2, none⟩ = some (.int .i64 0) := (blk_cell BK340.out 2).trans rfl; have hcz47_3 : w46.cell? ⟨gb340, 3, none⟩ = some (.int .i64 0) := (blk_cell BK340.out 3).trans rfl; have hcz47_4 : w46.cell? ⟨gb340, 4, none⟩ = some (.int .i64 0) := (blk_cell BK340.out 4).trans rfl; have hcz47_5 : w46.cell? ⟨gb340, 5, none⟩ = some (.int .i64 0) := (blk_cell BK340.out 5).trans rfl; have hfz47_0 := blk_frozen BK340.out 0; have hfz47_1 := blk_frozen BK340.out 1; have hfz47_2 := blk_frozen BK340.out 2; have hfz47_3 := blk_frozen BK340.out 3; have hfz47_4 := blk_frozen BK340.out 4; have hfz47_5 := blk_frozen BK340.out 5))
    have n0_ : Aside0 (Kd.R (Kd.int .i64) 3 ((((((w46.setCell ⟨gb340, 0, none⟩ (.int .i64 ((rd_T149 t336 x48_1).f0))).setCell ⟨gb340, 1, none⟩ (.int .i64 ((rd_T149 t336 x48_1).f1))).setCell ⟨gb340, 2, none⟩ (.int .i64 ((rd_T149 t336 x48_1).f2))).setCell ⟨gb340, 3, none⟩ (.int .i64 ((rd_T149 t336 x48_1).f3))).setCell ⟨gb340, 4, none⟩ (.int .i64 ((rd_T149 t336 x48_1).f4))).setCell ⟨gb340, 5, none⟩ (.int .i64 ((rd_T149 t336 x48_1).f5))) w.heap.size (fun _ => True) (.slice (some ⟨go11, 0, none⟩) x10_1.length co11) x10_1) := ⟨by (with_reducible repeat (first | apply Kd.R_alloc | apply Kd.R_drewN | apply Kd.R_drew)); exact Kd.R_mono (Kd.R_far (p := ⟨gb340, 5, none⟩) (Kd.R_far (p := ⟨gb340, 4, none⟩) (Kd.R_far (p := ⟨gb340, 3, none⟩) (Kd.R_far (p := ⟨gb340, 2, none⟩) (Kd.R_far (p := ⟨gb340, 1, none⟩) (Kd.R_far (p := ⟨gb340, 0, none⟩) (Kd.R_types HO_10.out BK340.out (by decide)) (fun _ hk => hk.2) (.int .i64 ((rd_T149 t336 x48_1).f0))) (fun _ hk => hk.2) (.int .i64 ((rd_T149 t336 x48_1).f1))) (fun _ hk => hk.2) (.int .i64 ((rd_T149 t336 x48_1).f2))) (fun _ hk => hk.2) (.int .i64 ((rd_T149 t336 x48_1).f3))) (fun _ hk => hk.2) (.int .i64 ((rd_T149 t336 x48_1).f4))) (fun _ hk => hk.2) (.int .i64 ((rd_T149 t336 x48_1).f5))) (fun _ hk => trivial)⟩
    have n1_ : Aside0 (Kd.R k149 149 ((((((w46.setCell ⟨gb340, 0, none⟩ (.int .i64 ((rd_T149 t336 x48_1).f0))).setCell ⟨gb340, 1, none⟩ (.int .i64 ((rd_T149 t336 x48_1).f1))).setCell ⟨gb340, 2, none⟩ (.int .i64 ((rd_T149 t336 x48_1).f2))).setCell ⟨gb340, 3, none⟩ (.int .i64 ((rd_T149 t336 x48_1).f3))).setCell ⟨gb340, 4, none⟩ (.int .i64 ((rd_T149 t336 x48_1).f4))).setCell ⟨gb340, 5, none⟩ (.int .i64 ((rd_T149 t336 x48_1).f5))) w.heap.size (fun k_ => k_ ≠ gb340) (.slice (some ad339) t336.length co20) t336) := ⟨by (with_reducible repeat (first | apply Kd.R_alloc | apply Kd.R_drewN | apply Kd.R_drew)); exact Kd.R_mono (Kd.R_far (p := ⟨gb340, 5, none⟩) (Kd.R_far (p := ⟨gb340, 4, none⟩) (Kd.R_far (p := ⟨gb340, 3, none⟩) (Kd.R_far (p := ⟨gb340, 2, none⟩) (Kd.R_far (p := ⟨gb340, 1, none⟩) (Kd.R_far (p := ⟨gb340, 0, none⟩) (Kd.R_mono HO_46.out (fun k_ hk => (⟨hk, hk.2⟩ : _ ∧ k_ ≠ gb340))) (fun _ hk => hk.2) (.int .i64 ((rd_T149 t336 x48_1).f0))) (fun _ hk => hk.2) (.int .i64 ((rd_T149 t336 x48_1).f1))) (fun _ hk => hk.2) (.int .i64 ((rd_T149 t336 x48_1).f2))) (fun _ hk => hk.2) (.int .i64 ((rd_T149 t336 x48_1).f3))) (fun _ hk => hk.2) (.int .i64 ((rd_T149 t336 x48_1).f4))) (fun _ hk => hk.2) (.int .i64 ((rd_T149 t336 x48_1).f5))) (fun _ hk => hk.1.2)⟩
    have n2_ : Aside0 (((((((w46.setCell ⟨gb340, 0, none⟩ (.int .i64 ((rd_T149 t336 x48_1).f0))).setCell ⟨gb340, 1, none⟩ (.int .i64 ((rd_T149 t336 x48_1).f1))).setCell ⟨gb340, 2, none⟩ (.int .i64 ((rd_T149 t336 x48_1).f2))).setCell ⟨gb340, 3, none⟩ (.int .i64 ((rd_T149 t336 x48_1).f3))).setCell ⟨gb340, 4, none⟩ (.int .i64 ((rd_T149 t336 x48_1).f4))).setCell ⟨gb340, 5, none⟩ (.int .i64 ((rd_T149 t336 x48_1).f5))).heap[gb340]? = some (.cells #[.int .i64 ((rd_T149 t336 x48_1).f0), .int .i64 ((rd_T149 t336 x48_1).f1), .int .i64 ((rd_T149 t336 x48_1).f2), .int .i64 ((rd_T149 t336 x48_1).f3), .int .i64 ((rd_T149 t336 x48_1).f4), .int .i64 ((rd_T149 t336 x48_1).f5)] 149 (0, 0))) := ⟨by (with_reducible repeat (first | refine blk_drewN ?_ _ | refine blk_drew ?_ | refine blk_alloc ?_ _)); refine blk_put (cs := #[.int .i64 ((rd_T149 t336 x48_1).f0), .int .i64 ((rd_T149 t336 x48_1).f1), .int .i64 ((rd_T149 t336 x48_1).f2), .int .i64 ((rd_T149 t336 x48_1).f3), .int .i64 ((rd_T149 t336 x48_1).f4), .int .i64 0]) ?_ 5 _ rfl; (with_reducible repeat (first | refine blk_drewN ?_ _ | refine blk_drew ?_ | refine blk_alloc ?_ _)); refine blk_put (cs := #[.int .i64 ((rd_T149 t336 x48_1).f0), .int .i64 ((rd_T149 t336 x48_1).f1), .int .i64 ((rd_T149 t336 x48_1).f2), .int .i64 ((rd_T149 t336 x48_1).f3), .int .i64 0, .int .i64 0]) ?_ 4 _ rfl; (with_reducible repeat (first | refine blk_drewN ?_ _ | refine blk_drew ?_ | refine blk_alloc ?_ _)); refine blk_put (cs := #[.int .i64 ((rd_T149 t336 x48_1).f0), .int .i64 ((rd_T149 t336 x48_1).f1), .int .i64 ((rd_T149 t336 x48_1).f2), .int .i64 0, .int .i64 0, .int .i64 0]) ?_ 3 _ rfl; (with_reducible repeat (first | refine blk_drewN ?_ _ | refine blk_drew ?_ | refine blk_alloc ?_ _)); refine blk_put (cs := #[.int .i64 ((rd_T149 t336 x48_1).f0), .int .i64 ((rd_T149 t336 x48_1).f1), .int .i64 0, .int .i64 0, .int .i64 0, .int .i64 0]) ?_ 2 _ rfl; (with_reducible repeat (first | refine blk_drewN ?_ _ | refine blk_drew ?_ | refine blk_alloc ?_ _)); refine blk_put (cs := #[.int .i64 ((rd_T149 t336 x48_1).f0), .int .i64 0, .int .i64 0, .int .i64 0, .int .i64 0, .int .i64 0]) ?_ 1 _ rfl; (with_reducible repeat (first | refine blk_drewN ?_ _ | refine blk_drew ?_ | refine blk_alloc ?_ _)); refine blk_put (cs := #[.int .i64 0, .int .i64 0, .int .i64 0, .int .i64 0, .int .i64 0, .int .i64 0]) ?_ 0 _ rfl; (with_reducible repeat (first | refine blk_drewN ?_ _ | refine blk_drew ?_ | refine blk_alloc ?_ _)); exact BK340.out⟩
    have n3_ : Aside0 (Below w.heap.size w ((((((w46.setCell ⟨gb340, 0, none⟩ (.int .i64 ((rd_T149 t336 x48_1).f0))).setCell ⟨gb340, 1, none⟩ (.int .i64 ((rd_T149 t336 x48_1).f1))).setCell ⟨gb340, 2, none⟩ (.int .i64 ((rd_T149 t336 x48_1).f2))).setCell ⟨gb340, 3, none⟩ (.int .i64 ((rd_T149 t336 x48_1).f3))).setCell ⟨gb340, 4, none⟩ (.int .i64 ((rd_T149 t336 x48_1).f4))).setCell ⟨gb340, 5, none⟩ (.int .i64 ((rd_T149 t336 x48_1).f5)))) := ⟨bZ⟩
    (try clear HO_10)
    (try clear HO_46)
    (try clear BK340)
    (try clear HB)
    generalize ((((((w46.setCell ⟨gb340, 0, none⟩ (.int .i64 ((rd_T149 t336 x48_1).f0))).setCell ⟨gb340, 1, none⟩ (.int .i64 ((rd_T149 t336 x48_1).f1))).setCell ⟨gb340, 2, none⟩ (.int .i64 ((rd_T149 t336 x48_1).f2))).setCell ⟨gb340, 3, none⟩ (.int .i64 ((rd_T149 t336 x48_1).f3))).setCell ⟨gb340, 4, none⟩ (.int .i64 ((rd_T149 t336 x48_1).f4))).setCell ⟨gb340, 5, none⟩ (.int .i64 ((rd_T149 t336 x48_1).f5))) = w48 at n0_ n1_ n2_ n3_ ⊢
    have HO_10 := n0_
    have HO_46 := n1_
    have BK340 := n2_
    have HB := n3_
    clear n0_ n1_ n2_ n3_
    replace HO_10 := aZ (Kd.R_drew HO_10.out)
    replace HO_46 := aZ (Kd.R_drew HO_46.out)
    replace BK340 := aZ (blk_drew BK340.out)
    replace HB := aZ (below_drew1 HB.out)
    have p341 : 0 ≤ (((rd_T149 t336 x48_1).f0) : Int) := of_decide_eq_true tZE
    have q341 : ((rd_T149 t336 x48_1).f0) < (x10_1.length : Int) := of_decide_eq_true tZE
    obtain ⟨ad341, e341, hx341_0⟩ := Kd.at_int (Kd.R_reads' HO_10.out).2.2 ((rd_T149 t336 x48_1).f0) p341 q341
    obtain rfl : (⟨go11, 0, none⟩ : Addr) = ad341 := (by injection e341)
    (first | simp only [add_plain] at hx341_0 | simp only [add_at] at hx341_0 | simp only [Addr.add, Nat.zero_add] at hx341_0 | skip)
    replace p341 := eq_true p341
    replace q341 := eq_true q341
    have p26 : 0 ≤ (((rd_T149 t336 x48_1).f0) : Int) := of_decide_eq_true tZE
    have q26 : (((rd_T149 t336 x48_1).f0) : Int) < ((x10_1.length : Int) : Int) := of_decide_eq_true tZE
    obtain ⟨hx26_0, hf26_0⟩ := Kd.R_celln 0 HO_10.out (((rd_T149 t336 x48_1).f0) : Int) p26 q26
    replace p26 := eq_true p26
    replace q26 := eq_true q26
    (try clear GG11)
    obtain ⟨cl50_, hgg50_⟩ := Kd.R_typed (HO_10.out) go11 rfl
    have GG11 := Aside0.mk hgg50_
    clear hgg50_
    have HP50 := Kd.R_putn HO_10.out (((rd_T149 t336 x48_1).f0) : Int) (wrap64 ((rd x10_1 ((rd_T149 t336 x48_1).f0)) + (wrap64 (t330 * ((rd_T149 t336 x48_1).f1)))))
    rw [← Ny342.out] at HP50
    have HQ50 := Aside0.mk HP50
    clear HP50
    refine start_ (n := 12) (S := fun w' => w'.cell? ⟨gb340, 0, none⟩ = some (.int .i64 ((rd_T149 t336 x48_1).f0)) ∧ w'.cell? ⟨gb340, 1, none⟩ = some (.int .i64 ((rd_T149 t336 x48_1).f1)) ∧ w'.cell? ⟨gb340, 2, none⟩ = some (.int .i64 ((rd_T149 t336 x48_1).f2)) ∧ w'.cell? ⟨gb340, 3, none⟩ = some (.int .i64 ((rd_T149 t336 x48_1).f3)) ∧ w'.cell? ⟨gb340, 4, none⟩ = some (.int .i64 ((rd_T149 t336 x48_1).f4)) ∧ w'.cell? ⟨gb340, 5, none⟩ = some (.int .i64 ((rd_T149 t336 x48_1).f5)) ∧ w'.cell? ⟨go11, (((rd_T149 t336 x48_1).f0)).toNat, none⟩ = some (.int .i64 (rd x10_1 ((rd_T149 t336 x48_1).f0)))) (ds := [11]) L0' kZ rfl rfl ⟨(blk_cell BK340.out 0).trans rfl, (blk_cell BK340.out 1).trans rfl, (blk_cell BK340.out 2).trans rfl, (blk_cell BK340.out 3).trans rfl, (blk_cell BK340.out 4).trans rfl, (blk_cell BK340.out 5).trans rfl, hx341_0⟩ (fun hHeld => ?_); refine with_tabW impl_output.tab9 impl_output.bits9 (fun HT_ HW_ => ?_)
    generalize w48.drew = w49 at HO_10 HO_46 BK340 HB GG11 HQ50 hf26_0 hx26_0 hx341_0 hHeld ⊢
    refine pure_ (i := 0) (N := some 52) (v := ?_) (a' := ?_) L1' rfl rfl (any_of HT_.out kZ) (fun _ _ _ h => h) (Or.inl ⟨by rfl, ?_⟩) ?_ ?_
    rotate_left
    ·intro w'
     go_simp
     with_reducible rfl
    rotate_left
    ·simp only [Act.put, sZ1, sZ2, sZ3, i64_w, i32_w]
     rfl
    refine pure_ (i := 1) (N := some 53) (v := ?_) (a' := ?_) L2' rfl rfl (any_of HT_.out kZ) (fun _ _ _ h => h) (Or.inl ⟨by rfl, ?_⟩) ?_ ?_
    rotate_left
    ·intro w'
     go_simp
     with_reducible rfl
    rotate_left
    ·simp only [Act.put, sZ1, sZ2, sZ3, i64_w, i32_w]
     rfl
    refine pure_ (i := 5) (N := some 57) (v := ?_) (a' := ?_) L3' rfl rfl (any_of HT_.out kZ) (fun _ _ _ h => h) (Or.inl ⟨by rfl, ?_⟩) ?_ ?_
    rotate_left
    ·intro w'
     go_simp
     with_reducible rfl
    rotate_left
    ·simp only [Act.put, sZ1, sZ2, sZ3, i64_w, i32_w]
     rfl
    refine pure_ (i := 6) (N := some 58) (v := ?_) (a' := ?_) L4' rfl rfl (any_of HT_.out kZ) (fun _ _ _ h => h) (Or.inl ⟨by rfl, ?_⟩) ?_ ?_
    rotate_left
    ·intro w'
     go_simp
     with_reducible rfl
    rotate_left
    ·simp only [Act.put, sZ1, sZ2, sZ3, i64_w, i32_w]
     rfl
    refine take_ (i := 2) (N := some 54) (v := ?_) (a' := ?_) L5' rfl rfl (take_ofW HT_.out HW_.out kZ) (fun _ _ _ h => h) (Or.inl ⟨by rfl, ?_⟩) hHeld ?_ ?_
    rotate_left
    ·rintro w' ⟨s0, s1, s2, s3, s4, s5, s6⟩
     go_simp
     with_reducible rfl
    rotate_left
    ·simp only [Act.put, sZ1, sZ2, sZ3, i64_w, i32_w]
     rfl
    refine pure_ (i := 3) (N := some 55) (v := ?_) (a' := ?_) L6' rfl rfl (any_of HT_.out kZ) (fun _ _ _ h => h) (Or.inl ⟨by rfl, ?_⟩) ?_ ?_
    rotate_left
    ·intro w'
     go_simp
     with_reducible rfl
    rotate_left
    ·simp only [Act.put, sZ1, sZ2, sZ3, i64_w, i32_w]
     rfl
    refine take_ (i := 4) (N := some 56) (v := ?_) (a' := ?_) L7' rfl rfl (take_ofW HT_.out HW_.out kZ) (fun _ _ _ h => h) (Or.inl ⟨by rfl, ?_⟩) hHeld ?_ ?_
    rotate_left
    ·rintro w' ⟨s0, s1, s2, s3, s4, s5, s6⟩
     go_simp
     with_reducible rfl
    rotate_left
    ·simp only [Act.put, sZ1, sZ2, sZ3, i64_w, i32_w]
     rfl
    refine take_ (i := 7) (N := some 59) (v := ?_) (a' := ?_) L8' rfl rfl (take_ofW HT_.out HW_.out kZ) (fun _ _ _ h => h) (Or.inl ⟨by rfl, ?_⟩) hHeld ?_ ?_
    rotate_left
    ·rintro w' ⟨s0, s1, s2, s3, s4, s5, s6⟩
     go_simp
     with_reducible rfl
    rotate_left
    ·simp only [Act.put, sZ1, sZ2, sZ3, i64_w, i32_w]
     rfl
    refine pure_ (i := 8) (N := some 60) (v := ?_) (a' := ?_) L9' rfl rfl (any_of HT_.out kZ) (fun _ _ _ h => h) (Or.inl ⟨by rfl, ?_⟩) ?_ ?_
    rotate_left
    ·intro w'
     go_simp
     with_reducible rfl
    rotate_left
    ·simp only [Act.put, sZ1, sZ2, sZ3, i64_w, i32_w]
     rfl
    refine pure_ (i := 9) (N := some 61) (v := ?_) (a' := ?_) L10' rfl rfl (any_of HT_.out kZ) (fun _ _ _ h => h) (Or.inl ⟨by rfl, ?_⟩) ?_ ?_
    rotate_left
    ·intro w'
     go_simp
     with_reducible rfl
    rotate_left
    ·simp only [Act.put, sZ1, sZ2, sZ3, i64_w, i32_w]
     rfl
    refine pure_ (i := 10) (N := some 62) (v := ?_) (a' := ?_) L11' rfl rfl (any_of HT_.out kZ) (fun _ _ _ h => h) (Or.inl ⟨by rfl, ?_⟩) ?_ ?_
    rotate_left
    ·intro w'
     go_simp
     with_reducible rfl
    rotate_left
    ·simp only [Act.put, sZ1, sZ2, sZ3, i64_w, i32_w]
     rfl
    refine last_ (i := 11) (N := none) L12' rfl rfl (one_of HT_.out kZ) (by decide) (fun K hK => ?_)
    refine skip_ (w1 := ?_) (by rfl) rfl ?_ ?_
    rotate_left
    ·go_simp
     rfl
    refine hK.out _ _ ?_
    clear hK K
    refine done_ (done_of HT_.out kZ) ?_
    (try have hnb51 : gb340 ≠ go11 := (fun he_ => by have h1_ := BK340.out; have h2_ := GG11.out; rw [he_] at h1_; have h3_ := h1_.symm.trans h2_; injection h3_ with h3_; injection h3_ with _ h4_ _; exact absurd h4_ (by decide)))
    (try have hnc51 := Ne.symm hnb51)
    have hcz52_0 : w49.cell? ⟨gb340, 0, none⟩ = some (.int .i64 ((rd_T149 t336 x48_1).f0)) := (blk_cell BK340.out 0).trans rfl
    have hcz52_1 : w49.cell? ⟨gb340, 1, none⟩ = some (.int .i64 ((rd_T149 t336 x48_1).f1)) := (blk_cell BK340.out 1).trans rfl
    have hcz52_2 : w49.cell? ⟨gb340, 2, none⟩ = some (.int .i64 ((rd_T149 t336 x48_1).f2)) := (blk_cell BK340.out 2).trans rfl
    have hcz52_3 : w49.cell? ⟨gb340, 3, none⟩ = some (.int .i64 ((rd_T149 t336 x48_1).f3)) := (blk_cell BK340.out 3).trans rfl
    have hcz52_4 : w49.cell? ⟨gb340, 4, none⟩ = some (.int .i64 ((rd_T149 t336 x48_1).f4)) := (blk_cell BK340.out 4).trans rfl
    have hcz52_5 : w49.cell? ⟨gb340, 5, none⟩ = some (.int .i64 ((rd_T149 t336 x48_1).f5)) := (blk_cell BK340.out 5).trans rfl
    have hfz52_0 := blk_frozen BK340.out 0
    have hfz52_1 := blk_frozen BK340.out 1
    have hfz52_2 := blk_frozen BK340.out 2
    have hfz52_3 := blk_frozen BK340.out 3
    have hfz52_4 := blk_frozen BK340.out 4
    have hfz52_5 := blk_frozen BK340.out 5
    try go_wp2_with (first | ((with_reducible refine gate_callee (f := 162) rfl ?_); refine goesL_ (some 67) rfl rfl Try.func162 kZ rfl #[.int .i64 (wrap64 (t330 * ((rd_T149 t336 x48_1).f1)))] rfl tZA ?_; (with_reducible refine (impl_quantity.calls (wrap64 (t330 * ((rd_T149 t336 x48_1).f1))) false _ A27.out).mono ?_); rintro e w' ⟨rfl, ⟨nd, rfl⟩⟩; refine ⟨_, rfl, ?_⟩))
    go_ret2
    exact ⟨_, tZC, by first | exact Kd.R_nil _ _ _ _ _ | exact Kd.N_nil _ _ _ _ _ | exact Kd.V_nil _ _ _ _ _ | exact Kd.Q_nil _ _ _ _ _ | exact Kd.S_nil _ _ _ _ _, bZ⟩
   subst c28
   have H1 : ((impl_quantity.f (wrap64 ((rd x10_1 ((rd_T149 t336 x48_1).f0)) + (wrap64 (t330 * ((rd_T149 t336 x48_1).f1)))))).bind fun t345 => (if t345 = true then (impl_output.l0 k1 y342 t330 t336 (t336.length : Int) (wrap64 (x48_1 + 1))) else (some (([] : List Int), false)))) = some (r1, r2) := by rw [if_pos rfl] at H; exact H
   clear H
   have H := H1
   clear H1
   replace H := Option.bind_eq_some_iff.mp H
   obtain ⟨t345, A300, H⟩ := H
   replace H : (if t345 = true then (impl_output.l0 k1 y342 t330 t336 (t336.length : Int) (wrap64 (x48_1 + 1))) else (some (([] : List Int), false))) = some (r1, r2) := H
   have A30 := Aside0.mk A300
   clear A300
   by_cases c31 : t345 = true
   rotate_left
   ·replace c31 := Bool.eq_false_iff.mpr c31
    subst c31
    have H1 : (some (([] : List Int), false)) = some (r1, r2) := by rw [if_neg (show ¬ (false = true) by decide)] at H; exact H
    clear H
    have H := H1
    clear H1
    simp only [Option.some.injEq, Prod.mk.injEq] at H
    obtain ⟨rfl, rfl⟩ := H
    have p339 : 0 ≤ (x48_1 : Int) := of_decide_eq_true tZE
    have q339 : x48_1 < (t336.length : Int) := of_decide_eq_true tZE
    obtain ⟨ad339, e339, hx339_0, hx339_1, hx339_2, hx339_3, hx339_4, hx339_5⟩ := at_T149 (Kd.R_reads' HO_46.out).2.2 x48_1 p339 q339
    cases e339
    replace p339 := eq_true p339
    replace q339 := eq_true q339
    try go_wp2_with (first | ((with_reducible refine gate_dst (N := 13) rfl ?_); refine box_event ?hg (N := 13) ?hd (cs := #[.int .i64 0, .int .i64 0, .int .i64 0, .int .i64 0, .int .i64 0, .int .i64 0]) (t := 149) ?hr ?_; (case hd => rfl); (case hg => rfl); (case hr => first | (go_simp; done) | (go_simp; rfl)); intro gb340 hg w39 hbox hb; replace HO_10 := aZ (Kd.R_below (lZR HO_10.out) hb); replace HO_46 := aZ (Kd.R_below (Kd.R_elderB (lZR HO_46.out) gb340 (Nat.le_of_eq hg.symm)) hb); have BK340 := aZ (hbox); have GW340 := aZ ((by rw [hg]; exact (below_size (lZB HB.out)) : w.heap.size ≤ gb340)); have GE340 := aZ ((by rw [hg]; exact (below_size (lZB HB.out)) : w.heap.size ≤ gb340)); replace HB := aZ (below_step (lZB HB.out) hb); clear hb hbox hg; have hcz40_0 : w39.cell? ⟨gb340, 0, none⟩ = some (.int .i64 0) := (blk_cell BK340.out 0).trans rfl; have hcz40_1 : w39.cell? ⟨gb340, 1, none⟩ = some (.int .i64 0) := (blk_cell BK340.out 1).trans rfl; have hcz40_2 : w39.cell? ⟨gb340, 2, none⟩ = some (.int .i64 0) := (blk_cell BK340.out 2).trans rfl; have hcz40_3 : w39.cell? ⟨gb340, 3, none⟩ = some (.int .i64 0) := (blk_cell BK340.out 3).trans rfl; have hcz40_4 : w39.cell? ⟨gb340, 4, none⟩ = some (.int .i64 0) := (blk_cell BK340.out 4).trans rfl; have hcz40_5 : w39.cell? ⟨gb340, 5, none⟩ = some (.int .i64 0) := (blk_cell BK340.out 5).trans rfl; have hfz40_0 := blk_frozen BK340.out 0; have hfz40_1 := blk_frozen BK340.out 1; have hfz40_2 := blk_frozen BK340.out 2; have hfz40_3 := blk_frozen BK340.out 3; have hfz40_4 := blk_frozen BK340.out 4; have hfz40_5 := blk_frozen BK340.out 5))
    have n0_ : Aside0 (Kd.R (Kd.int .i64) 3 ((((((w39.setCell ⟨gb340, 0, none⟩ (.int .i64 ((rd_T149 t336 x48_1).f0))).setCell ⟨gb340, 1, none⟩ (.int .i64 ((rd_T149 t336 x48_1).f1))).setCell ⟨gb340, 2, none⟩ (.int .i64 ((rd_T149 t336 x48_1).f2))).setCell ⟨gb340, 3, none⟩ (.int .i64 ((rd_T149 t336 x48_1).f3))).setCell ⟨gb340, 4, none⟩ (.int .i64 ((rd_T149 t336 x48_1).f4))).setCell ⟨gb340, 5, none⟩ (.int .i64 ((rd_T149 t336 x48_1).f5))) w.heap.size (fun _ => True) (.slice (some ⟨go11, 0, none⟩) x10_1.length co11) x10_1) := ⟨by (with_reducible repeat (first | apply Kd.R_alloc | apply Kd.R_drewN | apply Kd.R_drew)); exact Kd.R_mono (Kd.R_far (p := ⟨gb340, 5, none⟩) (Kd.R_far (p := ⟨gb340, 4, none⟩) (Kd.R_far (p := ⟨gb340, 3, none⟩) (Kd.R_far (p := ⟨gb340, 2, none⟩) (Kd.R_far (p := ⟨gb340, 1, none⟩) (Kd.R_far (p := ⟨gb340, 0, none⟩) (Kd.R_types HO_10.out BK340.out (by decide)) (fun _ hk => hk.2) (.int .i64 ((rd_T149 t336 x48_1).f0))) (fun _ hk => hk.2) (.int .i64 ((rd_T149 t336 x48_1).f1))) (fun _ hk => hk.2) (.int .i64 ((rd_T149 t336 x48_1).f2))) (fun _ hk => hk.2) (.int .i64 ((rd_T149 t336 x48_1).f3))) (fun _ hk => hk.2) (.int .i64 ((rd_T149 t336 x48_1).f4))) (fun _ hk => hk.2) (.int .i64 ((rd_T149 t336 x48_1).f5))) (fun _ hk => trivial)⟩
    have n1_ : Aside0 (Kd.R k149 149 ((((((w39.setCell ⟨gb340, 0, none⟩ (.int .i64 ((rd_T149 t336 x48_1).f0))).setCell ⟨gb340, 1, none⟩ (.int .i64 ((rd_T149 t336 x48_1).f1))).setCell ⟨gb340, 2, none⟩ (.int .i64 ((rd_T149 t336 x48_1).f2))).setCell ⟨gb340, 3, none⟩ (.int .i64 ((rd_T149 t336 x48_1).f3))).setCell ⟨gb340, 4, none⟩ (.int .i64 ((rd_T149 t336 x48_1).f4))).setCell ⟨gb340, 5, none⟩ (.int .i64 ((rd_T149 t336 x48_1).f5))) w.heap.size (fun k_ => k_ ≠ gb340) (.slice (some ad339) t336.length co20) t336) := ⟨by (with_reducible repeat (first | apply Kd.R_alloc | apply Kd.R_drewN | apply Kd.R_drew)); exact Kd.R_mono (Kd.R_far (p := ⟨gb340, 5, none⟩) (Kd.R_far (p := ⟨gb340, 4, none⟩) (Kd.R_far (p := ⟨gb340, 3, none⟩) (Kd.R_far (p := ⟨gb340, 2, none⟩) (Kd.R_far (p := ⟨gb340, 1, none⟩) (Kd.R_far (p := ⟨gb340, 0, none⟩) (Kd.R_mono HO_46.out (fun k_ hk => (⟨hk, hk.2⟩ : _ ∧ k_ ≠ gb340))) (fun _ hk => hk.2) (.int .i64 ((rd_T149 t336 x48_1).f0))) (fun _ hk => hk.2) (.int .i64 ((rd_T149 t336 x48_1).f1))) (fun _ hk => hk.2) (.int .i64 ((rd_T149 t336 x48_1).f2))) (fun _ hk => hk.2) (.int .i64 ((rd_T149 t336 x48_1).f3))) (fun _ hk => hk.2) (.int .i64 ((rd_T149 t336 x48_1).f4))) (fun _ hk => hk.2) (.int .i64 ((rd_T149 t336 x48_1).f5))) (fun _ hk => hk.1.2)⟩
    have n2_ : Aside0 (((((((w39.setCell ⟨gb340, 0, none⟩ (.int .i64 ((rd_T149 t336 x48_1).f0))).setCell ⟨gb340, 1, none⟩ (.int .i64 ((rd_T149 t336 x48_1).f1))).setCell ⟨gb340, 2, none⟩ (.int .i64 ((rd_T149 t336 x48_1).f2))).setCell ⟨gb340, 3, none⟩ (.int .i64 ((rd_T149 t336 x48_1).f3))).setCell ⟨gb340, 4, none⟩ (.int .i64 ((rd_T149 t336 x48_1).f4))).setCell ⟨gb340, 5, none⟩ (.int .i64 ((rd_T149 t336 x48_1).f5))).heap[gb340]? = some (.cells #[.int .i64 ((rd_T149 t336 x48_1).f0), .int .i64 ((rd_T149 t336 x48_1).f1), .int .i64 ((rd_T149 t336 x48_1).f2), .int .i64 ((rd_T149 t336 x48_1).f3), .int .i64 ((rd_T149 t336 x48_1).f4), .int .i64 ((rd_T149 t336 x48_1).f5)] 149 (0, 0))) := ⟨by (with_reducible repeat (first | refine blk_drewN ?_ _ | refine blk_drew ?_ | refine blk_alloc ?_ _)); refine blk_put (cs := #[.int .i64 ((rd_T149 t336 x48_1).f0), .int .i64 ((rd_T149 t336 x48_1).f1), .int .i64 ((rd_T149 t336 x48_1).f2), .int .i64 ((rd_T149 t336 x48_1).f3), .int .i64 ((rd_T149 t336 x48_1).f4), .int .i64 0]) ?_ 5 _ rfl; (with_reducible repeat (first | refine blk_drewN ?_ _ | refine blk_drew ?_ | refine blk_alloc ?_ _)); refine blk_put (cs := #[.int .i64 ((rd_T149 t336 x48_1).f0), .int .i64 ((rd_T149 t336 x48_1).f1), .int .i64 ((rd_T149 t336 x48_1).f2), .int .i64 ((rd_T149 t336 x48_1).f3), .int .i64 0, .int .i64 0]) ?_ 4 _ rfl; (with_reducible repeat (first | refine blk_drewN ?_ _ | refine blk_drew ?_ | refine blk_alloc ?_ _)); refine blk_put (cs := #[.int .i64 ((rd_T149 t336 x48_1).f0), .int .i64 ((rd_T149 t336 x48_1).f1), .int .i64 ((rd_T149 t336 x48_1).f2), .int .i64 0, .int .i64 0, .int .i64 0]) ?_ 3 _ rfl; (with_reducible repeat (first | refine blk_drewN ?_ _ | refine blk_drew ?_ | refine blk_alloc ?_ _)); refine blk_put (cs := #[.int .i64 ((rd_T149 t336 x48_1).f0), .int .i64 ((rd_T149 t336 x48_1).f1), .int .i64 0, .int .i64 0, .int .i64 0, .int .i64 0]) ?_ 2 _ rfl; (with_reducible repeat (first | refine blk_drewN ?_ _ | refine blk_drew ?_ | refine blk_alloc ?_ _)); refine blk_put (cs := #[.int .i64 ((rd_T149 t336 x48_1).f0), .int .i64 0, .int .i64 0, .int .i64 0, .int .i64 0, .int .i64 0]) ?_ 1 _ rfl; (with_reducible repeat (first | refine blk_drewN ?_ _ | refine blk_drew ?_ | refine blk_alloc ?_ _)); refine blk_put (cs := #[.int .i64 0, .int .i64 0, .int .i64 0, .int .i64 0, .int .i64 0, .int .i64 0]) ?_ 0 _ rfl; (with_reducible repeat (first | refine blk_drewN ?_ _ | refine blk_drew ?_ | refine blk_alloc ?_ _)); exact BK340.out⟩
    have n3_ : Aside0 (Below w.heap.size w ((((((w39.setCell ⟨gb340, 0, none⟩ (.int .i64 ((rd_T149 t336 x48_1).f0))).setCell ⟨gb340, 1, none⟩ (.int .i64 ((rd_T149 t336 x48_1).f1))).setCell ⟨gb340, 2, none⟩ (.int .i64 ((rd_T149 t336 x48_1).f2))).setCell ⟨gb340, 3, none⟩ (.int .i64 ((rd_T149 t336 x48_1).f3))).setCell ⟨gb340, 4, none⟩ (.int .i64 ((rd_T149 t336 x48_1).f4))).setCell ⟨gb340, 5, none⟩ (.int .i64 ((rd_T149 t336 x48_1).f5)))) := ⟨bZ⟩
    (try clear HO_10)
    (try clear HO_46)
    (try clear BK340)
    (try clear HB)
    generalize ((((((w39.setCell ⟨gb340, 0, none⟩ (.int .i64 ((rd_T149 t336 x48_1).f0))).setCell ⟨gb340, 1, none⟩ (.int .i64 ((rd_T149 t336 x48_1).f1))).setCell ⟨gb340, 2, none⟩ (.int .i64 ((rd_T149 t336 x48_1).f2))).setCell ⟨gb340, 3, none⟩ (.int .i64 ((rd_T149 t336 x48_1).f3))).setCell ⟨gb340, 4, none⟩ (.int .i64 ((rd_T149 t336 x48_1).f4))).setCell ⟨gb340, 5, none⟩ (.int .i64 ((rd_T149 t336 x48_1).f5))) = w41 at n0_ n1_ n2_ n3_ ⊢
    have HO_10 := n0_
    have HO_46 := n1_
    have BK340 := n2_
    have HB := n3_
    clear n0_ n1_ n2_ n3_
    replace HO_10 := aZ (Kd.R_drew HO_10.out)
    replace HO_46 := aZ (Kd.R_drew HO_46.out)
    replace BK340 := aZ (blk_drew BK340.out)
    replace HB := aZ (below_drew1 HB.out)
    have p341 : 0 ≤ (((rd_T149 t336 x48_1).f0) : Int) := of_decide_eq_true tZE
    have q341 : ((rd_T149 t336 x48_1).f0) < (x10_1.length : Int) := of_decide_eq_true tZE
    obtain ⟨ad341, e341, hx341_0⟩ := Kd.at_int (Kd.R_reads' HO_10.out).2.2 ((rd_T149 t336 x48_1).f0) p341 q341
    obtain rfl : (⟨go11, 0, none⟩ : Addr) = ad341 := (by injection e341)
    (first | simp only [add_plain] at hx341_0 | simp only [add_at] at hx341_0 | simp only [Addr.add, Nat.zero_add] at hx341_0 | skip)
    replace p341 := eq_true p341
    replace q341 := eq_true q341
    have p26 : 0 ≤ (((rd_T149 t336 x48_1).f0) : Int) := of_decide_eq_true tZE
    have q26 : (((rd_T149 t336 x48_1).f0) : Int) < ((x10_1.length : Int) : Int) := of_decide_eq_true tZE
    obtain ⟨hx26_0, hf26_0⟩ := Kd.R_celln 0 HO_10.out (((rd_T149 t336 x48_1).f0) : Int) p26 q26
    replace p26 := eq_true p26
    replace q26 := eq_true q26
    (try clear GG11)
    obtain ⟨cl43_, hgg43_⟩ := Kd.R_typed (HO_10.out) go11 rfl
    have GG11 := Aside0.mk hgg43_
    clear hgg43_
    have HP43 := Kd.R_putn HO_10.out (((rd_T149 t336 x48_1).f0) : Int) (wrap64 ((rd x10_1 ((rd_T149 t336 x48_1).f0)) + (wrap64 (t330 * ((rd_T149 t336 x48_1).f1)))))
    rw [← Ny342.out] at HP43
    have HQ43 := Aside0.mk HP43
    clear HP43
    refine start_ (n := 12) (S := fun w' => w'.cell? ⟨gb340, 0, none⟩ = some (.int .i64 ((rd_T149 t336 x48_1).f0)) ∧ w'.cell? ⟨gb340, 1, none⟩ = some (.int .i64 ((rd_T149 t336 x48_1).f1)) ∧ w'.cell? ⟨gb340, 2, none⟩ = some (.int .i64 ((rd_T149 t336 x48_1).f2)) ∧ w'.cell? ⟨gb340, 3, none⟩ = some (.int .i64 ((rd_T149 t336 x48_1).f3)) ∧ w'.cell? ⟨gb340, 4, none⟩ = some (.int .i64 ((rd_T149 t336 x48_1).f4)) ∧ w'.cell? ⟨gb340, 5, none⟩ = some (.int .i64 ((rd_T149 t336 x48_1).f5)) ∧ w'.cell? ⟨go11, (((rd_T149 t336 x48_1).f0)).toNat, none⟩ = some (.int .i64 (rd x10_1 ((rd_T149 t336 x48_1).f0)))) (ds := [11]) L0' kZ rfl rfl ⟨(blk_cell BK340.out 0).trans rfl, (blk_cell BK340.out 1).trans rfl, (blk_cell BK340.out 2).trans rfl, (blk_cell BK340.out 3).trans rfl, (blk_cell BK340.out 4).trans rfl, (blk_cell BK340.out 5).trans rfl, hx341_0⟩ (fun hHeld => ?_); refine with_tabW impl_output.tab9 impl_output.bits9 (fun HT_ HW_ => ?_)
    generalize w41.drew = w42 at HO_10 HO_46 BK340 HB GG11 HQ43 hf26_0 hx26_0 hx341_0 hHeld ⊢
    refine pure_ (i := 0) (N := some 52) (v := ?_) (a' := ?_) L1' rfl rfl (any_of HT_.out kZ) (fun _ _ _ h => h) (Or.inl ⟨by rfl, ?_⟩) ?_ ?_
    rotate_left
    ·intro w'
     go_simp
     with_reducible rfl
    rotate_left
    ·simp only [Act.put, sZ1, sZ2, sZ3, i64_w, i32_w]
     rfl
    refine pure_ (i := 1) (N := some 53) (v := ?_) (a' := ?_) L2' rfl rfl (any_of HT_.out kZ) (fun _ _ _ h => h) (Or.inl ⟨by rfl, ?_⟩) ?_ ?_
    rotate_left
    ·intro w'
     go_simp
     with_reducible rfl
    rotate_left
    ·simp only [Act.put, sZ1, sZ2, sZ3, i64_w, i32_w]
     rfl
    refine pure_ (i := 5) (N := some 57) (v := ?_) (a' := ?_) L3' rfl rfl (any_of HT_.out kZ) (fun _ _ _ h => h) (Or.inl ⟨by rfl, ?_⟩) ?_ ?_
    rotate_left
    ·intro w'
     go_simp
     with_reducible rfl
    rotate_left
    ·simp only [Act.put, sZ1, sZ2, sZ3, i64_w, i32_w]
     rfl
    refine pure_ (i := 6) (N := some 58) (v := ?_) (a' := ?_) L4' rfl rfl (any_of HT_.out kZ) (fun _ _ _ h => h) (Or.inl ⟨by rfl, ?_⟩) ?_ ?_
    rotate_left
    ·intro w'
     go_simp
     with_reducible rfl
    rotate_left
    ·simp only [Act.put, sZ1, sZ2, sZ3, i64_w, i32_w]
     rfl
    refine take_ (i := 2) (N := some 54) (v := ?_) (a' := ?_) L5' rfl rfl (take_ofW HT_.out HW_.out kZ) (fun _ _ _ h => h) (Or.inl ⟨by rfl, ?_⟩) hHeld ?_ ?_
    rotate_left
    ·rintro w' ⟨s0, s1, s2, s3, s4, s5, s6⟩
     go_simp
     with_reducible rfl
    rotate_left
    ·simp only [Act.put, sZ1, sZ2, sZ3, i64_w, i32_w]
     rfl
    refine pure_ (i := 3) (N := some 55) (v := ?_) (a' := ?_) L6' rfl rfl (any_of HT_.out kZ) (fun _ _ _ h => h) (Or.inl ⟨by rfl, ?_⟩) ?_ ?_
    rotate_left
    ·intro w'
     go_simp
     with_reducible rfl
    rotate_left
    ·simp only [Act.put, sZ1, sZ2, sZ3, i64_w, i32_w]
     rfl
    refine take_ (i := 4) (N := some 56) (v := ?_) (a' := ?_) L7' rfl rfl (take_ofW HT_.out HW_.out kZ) (fun _ _ _ h => h) (Or.inl ⟨by rfl, ?_⟩) hHeld ?_ ?_
    rotate_left
    ·rintro w' ⟨s0, s1, s2, s3, s4, s5, s6⟩
     go_simp
     with_reducible rfl
    rotate_left
    ·simp only [Act.put, sZ1, sZ2, sZ3, i64_w, i32_w]
     rfl
    refine take_ (i := 7) (N := some 59) (v := ?_) (a' := ?_) L8' rfl rfl (take_ofW HT_.out HW_.out kZ) (fun _ _ _ h => h) (Or.inl ⟨by rfl, ?_⟩) hHeld ?_ ?_
    rotate_left
    ·rintro w' ⟨s0, s1, s2, s3, s4, s5, s6⟩
     go_simp
     with_reducible rfl
    rotate_left
    ·simp only [Act.put, sZ1, sZ2, sZ3, i64_w, i32_w]
     rfl
    refine pure_ (i := 8) (N := some 60) (v := ?_) (a' := ?_) L9' rfl rfl (any_of HT_.out kZ) (fun _ _ _ h => h) (Or.inl ⟨by rfl, ?_⟩) ?_ ?_
    rotate_left
    ·intro w'
     go_simp
     with_reducible rfl
    rotate_left
    ·simp only [Act.put, sZ1, sZ2, sZ3, i64_w, i32_w]
     rfl
    refine pure_ (i := 9) (N := some 61) (v := ?_) (a' := ?_) L10' rfl rfl (any_of HT_.out kZ) (fun _ _ _ h => h) (Or.inl ⟨by rfl, ?_⟩) ?_ ?_
    rotate_left
    ·intro w'
     go_simp
     with_reducible rfl
    rotate_left
    ·simp only [Act.put, sZ1, sZ2, sZ3, i64_w, i32_w]
     rfl
    refine pure_ (i := 10) (N := some 62) (v := ?_) (a' := ?_) L11' rfl rfl (any_of HT_.out kZ) (fun _ _ _ h => h) (Or.inl ⟨by rfl, ?_⟩) ?_ ?_
    rotate_left
    ·intro w'
     go_simp
     with_reducible rfl
    rotate_left
    ·simp only [Act.put, sZ1, sZ2, sZ3, i64_w, i32_w]
     rfl
    refine last_ (i := 11) (N := none) L12' rfl rfl (one_of HT_.out kZ) (by decide) (fun K hK => ?_)
    refine skip_ (w1 := ?_) (by rfl) rfl ?_ ?_
    rotate_left
    ·go_simp
     rfl
    refine hK.out _ _ ?_
    clear hK K
    refine done_ (done_of HT_.out kZ) ?_
    (try have hnb44 : gb340 ≠ go11 := (fun he_ => by have h1_ := BK340.out; have h2_ := GG11.out; rw [he_] at h1_; have h3_ := h1_.symm.trans h2_; injection h3_ with h3_; injection h3_ with _ h4_ _; exact absurd h4_ (by decide)))
    (try have hnc44 := Ne.symm hnb44)
    have hcz45_0 : w42.cell? ⟨gb340, 0, none⟩ = some (.int .i64 ((rd_T149 t336 x48_1).f0)) := (blk_cell BK340.out 0).trans rfl
    have hcz45_1 : w42.cell? ⟨gb340, 1, none⟩ = some (.int .i64 ((rd_T149 t336 x48_1).f1)) := (blk_cell BK340.out 1).trans rfl
    have hcz45_2 : w42.cell? ⟨gb340, 2, none⟩ = some (.int .i64 ((rd_T149 t336 x48_1).f2)) := (blk_cell BK340.out 2).trans rfl
    have hcz45_3 : w42.cell? ⟨gb340, 3, none⟩ = some (.int .i64 ((rd_T149 t336 x48_1).f3)) := (blk_cell BK340.out 3).trans rfl
    have hcz45_4 : w42.cell? ⟨gb340, 4, none⟩ = some (.int .i64 ((rd_T149 t336 x48_1).f4)) := (blk_cell BK340.out 4).trans rfl
    have hcz45_5 : w42.cell? ⟨gb340, 5, none⟩ = some (.int .i64 ((rd_T149 t336 x48_1).f5)) := (blk_cell BK340.out 5).trans rfl
    have hfz45_0 := blk_frozen BK340.out 0
    have hfz45_1 := blk_frozen BK340.out 1
    have hfz45_2 := blk_frozen BK340.out 2
    have hfz45_3 := blk_frozen BK340.out 3
    have hfz45_4 := blk_frozen BK340.out 4
    have hfz45_5 := blk_frozen BK340.out 5
    try go_wp2_with (first | ((with_reducible refine gate_callee (f := 162) rfl ?_); refine goesL_ (some 67) rfl rfl Try.func162 kZ rfl #[.int .i64 (wrap64 (t330 * ((rd_T149 t336 x48_1).f1)))] rfl tZA ?_; (with_reducible refine (impl_quantity.calls (wrap64 (t330 * ((rd_T149 t336 x48_1).f1))) true _ A27.out).mono ?_); rintro e w' ⟨rfl, ⟨nd, rfl⟩⟩; refine ⟨_, rfl, ?_⟩; have p29 : 0 ≤ (((rd_T149 t336 x48_1).f0) : Int) := of_decide_eq_true tZE; have q29 : (((rd_T149 t336 x48_1).f0) : Int) < ((x10_1.length : Int) : Int) := of_decide_eq_true tZE; replace p29 := eq_true p29; replace q29 := eq_true q29) | (go_at_call 162; (with_reducible refine (impl_quantity.calls (wrap64 ((rd x10_1 ((rd_T149 t336 x48_1).f0)) + (wrap64 (t330 * ((rd_T149 t336 x48_1).f1))))) false _ A30.out).mono ?_); rintro e w' ⟨rfl, ⟨nd, rfl⟩⟩))
    go_ret2
    exact ⟨_, tZC, by first | exact Kd.R_nil _ _ _ _ _ | exact Kd.N_nil _ _ _ _ _ | exact Kd.V_nil _ _ _ _ _ | exact Kd.Q_nil _ _ _ _ _ | exact Kd.S_nil _ _ _ _ _, bZ⟩
   subst c31
   have H1 : (impl_output.l0 k1 y342 t330 t336 (t336.length : Int) (wrap64 (x48_1 + 1))) = some (r1, r2) := by rw [if_pos rfl] at H; exact H
   clear H
   have H := H1
   clear H1
   have H' := Aside0.mk H
   clear H
   have p339 : 0 ≤ (x48_1 : Int) := of_decide_eq_true tZE
   have q339 : x48_1 < (t336.length : Int) := of_decide_eq_true tZE
   obtain ⟨ad339, e339, hx339_0, hx339_1, hx339_2, hx339_3, hx339_4, hx339_5⟩ := at_T149 (Kd.R_reads' HO_46.out).2.2 x48_1 p339 q339
   cases e339
   replace p339 := eq_true p339
   replace q339 := eq_true q339
   try go_wp2_with (first | ((with_reducible refine gate_dst (N := 13) rfl ?_); refine box_event ?hg (N := 13) ?hd (cs := #[.int .i64 0, .int .i64 0, .int .i64 0, .int .i64 0, .int .i64 0, .int .i64 0]) (t := 149) ?hr ?_; (case hd => rfl); (case hg => rfl); (case hr => first | (go_simp; done) | (go_simp; rfl)); intro gb340 hg w32 hbox hb; replace HO_10 := aZ (Kd.R_below (lZR HO_10.out) hb); replace HO_46 := aZ (Kd.R_below (Kd.R_elderB (lZR HO_46.out) gb340 (Nat.le_of_eq hg.symm)) hb); have BK340 := aZ (hbox); have GW340 := aZ ((by rw [hg]; exact (below_size (lZB HB.out)) : w.heap.size ≤ gb340)); have GE340 := aZ ((by rw [hg]; exact (below_size (lZB HB.out)) : w.heap.size ≤ gb340)); replace HB := aZ (below_step (lZB HB.out) hb); clear hb hbox hg; have hcz33_0 : w32.cell? ⟨gb340, 0, none⟩ = some (.int .i64 0) := (blk_cell BK340.out 0).trans rfl; have hcz33_1 : w32.cell? ⟨gb340, 1, none⟩ = some (.int .i64 0) := (blk_cell BK340.out 1).trans rfl; have hcz33_2 : w32.cell? ⟨gb340, 2, none⟩ = some (.int .i64 0) := (blk_cell BK340.out 2).trans rfl; have hcz33_3 : w32.cell? ⟨gb340, 3, none⟩ = some (.int .i64 0) := (blk_cell BK340.out 3).trans rfl; have hcz33_4 : w32.cell? ⟨gb340, 4, none⟩ = some (.int .i64 0) := (blk_cell BK340.out 4).trans rfl; have hcz33_5 : w32.cell? ⟨gb340, 5, none⟩ = some (.int .i64 0) := (blk_cell BK340.out 5).trans rfl; have hfz33_0 := blk_frozen BK340.out 0; have hfz33_1 := blk_frozen BK340.out 1; have hfz33_2 := blk_frozen BK340.out 2; have hfz33_3 := blk_frozen BK340.out 3; have hfz33_4 := blk_frozen BK340.out 4; have hfz33_5 := blk_frozen BK340.out 5))
   have n0_ : Aside0 (Kd.R (Kd.int .i64) 3 ((((((w32.setCell ⟨gb340, 0, none⟩ (.int .i64 ((rd_T149 t336 x48_1).f0))).setCell ⟨gb340, 1, none⟩ (.int .i64 ((rd_T149 t336 x48_1).f1))).setCell ⟨gb340, 2, none⟩ (.int .i64 ((rd_T149 t336 x48_1).f2))).setCell ⟨gb340, 3, none⟩ (.int .i64 ((rd_T149 t336 x48_1).f3))).setCell ⟨gb340, 4, none⟩ (.int .i64 ((rd_T149 t336 x48_1).f4))).setCell ⟨gb340, 5, none⟩ (.int .i64 ((rd_T149 t336 x48_1).f5))) w.heap.size (fun _ => True) (.slice (some ⟨go11, 0, none⟩) x10_1.length co11) x10_1) := ⟨by (with_reducible repeat (first | apply Kd.R_alloc | apply Kd.R_drewN | apply Kd.R_drew)); exact Kd.R_mono (Kd.R_far (p := ⟨gb340, 5, none⟩) (Kd.R_far (p := ⟨gb340, 4, none⟩) (Kd.R_far (p := ⟨gb340, 3, none⟩) (Kd.R_far (p := ⟨gb340, 2, none⟩) (Kd.R_far (p := ⟨gb340, 1, none⟩) (Kd.R_far (p := ⟨gb340, 0, none⟩) (Kd.R_types HO_10.out BK340.out (by decide)) (fun _ hk => hk.2) (.int .i64 ((rd_T149 t336 x48_1).f0))) (fun _ hk => hk.2) (.int .i64 ((rd_T149 t336 x48_1).f1))) (fun _ hk => hk.2) (.int .i64 ((rd_T149 t336 x48_1).f2))) (fun _ hk => hk.2) (.int .i64 ((rd_T149 t336 x48_1).f3))) (fun _ hk => hk.2) (.int .i64 ((rd_T149 t336 x48_1).f4))) (fun _ hk => hk.2) (.int .i64 ((rd_T149 t336 x48_1).f5))) (fun _ hk => trivial)⟩
   have n1_ : Aside0 (Kd.R k149 149 ((((((w32.setCell ⟨gb340, 0, none⟩ (.int .i64 ((rd_T149 t336 x48_1).f0))).setCell ⟨gb340, 1, none⟩ (.int .i64 ((rd_T149 t336 x48_1).f1))).setCell ⟨gb340, 2, none⟩ (.int .i64 ((rd_T149 t336 x48_1).f2))).setCell ⟨gb340, 3, none⟩ (.int .i64 ((rd_T149 t336 x48_1).f3))).setCell ⟨gb340, 4, none⟩ (.int .i64 ((rd_T149 t336 x48_1).f4))).setCell ⟨gb340, 5, none⟩ (.int .i64 ((rd_T149 t336 x48_1).f5))) w.heap.size (fun k_ => k_ ≠ gb340) (.slice (some ad339) t336.length co20) t336) := ⟨by (with_reducible repeat (first | apply Kd.R_alloc | apply Kd.R_drewN | apply Kd.R_drew)); exact Kd.R_mono (Kd.R_far (p := ⟨gb340, 5, none⟩) (Kd.R_far (p := ⟨gb340, 4, none⟩) (Kd.R_far (p := ⟨gb340, 3, none⟩) (Kd.R_far (p := ⟨gb340, 2, none⟩) (Kd.R_far (p := ⟨gb340, 1, none⟩) (Kd.R_far (p := ⟨gb340, 0, none⟩) (Kd.R_mono HO_46.out (fun k_ hk => (⟨hk, hk.2⟩ : _ ∧ k_ ≠ gb340))) (fun _ hk => hk.2) (.int .i64 ((rd_T149 t336 x48_1).f0))) (fun _ hk => hk.2) (.int .i64 ((rd_T149 t336 x48_1).f1))) (fun _ hk => hk.2) (.int .i64 ((rd_T149 t336 x48_1).f2))) (fun _ hk => hk.2) (.int .i64 ((rd_T149 t336 x48_1).f3))) (fun _ hk => hk.2) (.int .i64 ((rd_T149 t336 x48_1).f4))) (fun _ hk => hk.2) (.int .i64 ((rd_T149 t336 x48_1).f5))) (fun _ hk => hk.1.2)⟩
   have n2_ : Aside0 (((((((w32.setCell ⟨gb340, 0, none⟩ (.int .i64 ((rd_T149 t336 x48_1).f0))).setCell ⟨gb340, 1, none⟩ (.int .i64 ((rd_T149 t336 x48_1).f1))).setCell ⟨gb340, 2, none⟩ (.int .i64 ((rd_T149 t336 x48_1).f2))).setCell ⟨gb340, 3, none⟩ (.int .i64 ((rd_T149 t336 x48_1).f3))).setCell ⟨gb340, 4, none⟩ (.int .i64 ((rd_T149 t336 x48_1).f4))).setCell ⟨gb340, 5, none⟩ (.int .i64 ((rd_T149 t336 x48_1).f5))).heap[gb340]? = some (.cells #[.int .i64 ((rd_T149 t336 x48_1).f0), .int .i64 ((rd_T149 t336 x48_1).f1), .int .i64 ((rd_T149 t336 x48_1).f2), .int .i64 ((rd_T149 t336 x48_1).f3), .int .i64 ((rd_T149 t336 x48_1).f4), .int .i64 ((rd_T149 t336 x48_1).f5)] 149 (0, 0))) := ⟨by (with_reducible repeat (first | refine blk_drewN ?_ _ | refine blk_drew ?_ | refine blk_alloc ?_ _)); refine blk_put (cs := #[.int .i64 ((rd_T149 t336 x48_1).f0), .int .i64 ((rd_T149 t336 x48_1).f1), .int .i64 ((rd_T149 t336 x48_1).f2), .int .i64 ((rd_T149 t336 x48_1).f3), .int .i64 ((rd_T149 t336 x48_1).f4), .int .i64 0]) ?_ 5 _ rfl; (with_reducible repeat (first | refine blk_drewN ?_ _ | refine blk_drew ?_ | refine blk_alloc ?_ _)); refine blk_put (cs := #[.int .i64 ((rd_T149 t336 x48_1).f0), .int .i64 ((rd_T149 t336 x48_1).f1), .int .i64 ((rd_T149 t336 x48_1).f2), .int .i64 ((rd_T149 t336 x48_1).f3), .int .i64 0, .int .i64 0]) ?_ 4 _ rfl; (with_reducible repeat (first | refine blk_drewN ?_ _ | refine blk_drew ?_ | refine blk_alloc ?_ _)); refine blk_put (cs := #[.int .i64 ((rd_T149 t336 x48_1).f0), .int .i64 ((rd_T149 t336 x48_1).f1), .int .i64 ((rd_T149 t336 x48_1).f2), .int .i64 0, .int .i64 0, .int .i64 0]) ?_ 3 _ rfl; (with_reducible repeat (first | refine blk_drewN ?_ _ | refine blk_drew ?_ | refine blk_alloc ?_ _)); refine blk_put (cs := #[.int .i64 ((rd_T149 t336 x48_1).f0), .int .i64 ((rd_T149 t336 x48_1).f1), .int .i64 0, .int .i64 0, .int .i64 0, .int .i64 0]) ?_ 2 _ rfl; (with_reducible repeat (first | refine blk_drewN ?_ _ | refine blk_drew ?_ | refine blk_alloc ?_ _)); refine blk_put (cs := #[.int .i64 ((rd_T149 t336 x48_1).f0), .int .i64 0, .int .i64 0, .int .i64 0, .int .i64 0, .int .i64 0]) ?_ 1 _ rfl; (with_reducible repeat (first | refine blk_drewN ?_ _ | refine blk_drew ?_ | refine blk_alloc ?_ _)); refine blk_put (cs := #[.int .i64 0, .int .i64 0, .int .i64 0, .int .i64 0, .int .i64 0, .int .i64 0]) ?_ 0 _ rfl; (with_reducible repeat (first | refine blk_drewN ?_ _ | refine blk_drew ?_ | refine blk_alloc ?_ _)); exact BK340.out⟩
   have n3_ : Aside0 (Below w.heap.size w ((((((w32.setCell ⟨gb340, 0, none⟩ (.int .i64 ((rd_T149 t336 x48_1).f0))).setCell ⟨gb340, 1, none⟩ (.int .i64 ((rd_T149 t336 x48_1).f1))).setCell ⟨gb340, 2, none⟩ (.int .i64 ((rd_T149 t336 x48_1).f2))).setCell ⟨gb340, 3, none⟩ (.int .i64 ((rd_T149 t336 x48_1).f3))).setCell ⟨gb340, 4, none⟩ (.int .i64 ((rd_T149 t336 x48_1).f4))).setCell ⟨gb340, 5, none⟩ (.int .i64 ((rd_T149 t336 x48_1).f5)))) := ⟨bZ⟩
   (try clear HO_10)
   (try clear HO_46)
   (try clear BK340)
   (try clear HB)
   generalize ((((((w32.setCell ⟨gb340, 0, none⟩ (.int .i64 ((rd_T149 t336 x48_1).f0))).setCell ⟨gb340, 1, none⟩ (.int .i64 ((rd_T149 t336 x48_1).f1))).setCell ⟨gb340, 2, none⟩ (.int .i64 ((rd_T149 t336 x48_1).f2))).setCell ⟨gb340, 3, none⟩ (.int .i64 ((rd_T149 t336 x48_1).f3))).setCell ⟨gb340, 4, none⟩ (.int .i64 ((rd_T149 t336 x48_1).f4))).setCell ⟨gb340, 5, none⟩ (.int .i64 ((rd_T149 t336 x48_1).f5))) = w34 at n0_ n1_ n2_ n3_ ⊢
   have HO_10 := n0_
   have HO_46 := n1_
   have BK340 := n2_
   have HB := n3_
   clear n0_ n1_ n2_ n3_
   replace HO_10 := aZ (Kd.R_drew HO_10.out)
   replace HO_46 := aZ (Kd.R_drew HO_46.out)
   replace BK340 := aZ (blk_drew BK340.out)
   replace HB := aZ (below_drew1 HB.out)
   have p341 : 0 ≤ (((rd_T149 t336 x48_1).f0) : Int) := of_decide_eq_true tZE
   have q341 : ((rd_T149 t336 x48_1).f0) < (x10_1.length : Int) := of_decide_eq_true tZE
   obtain ⟨ad341, e341, hx341_0⟩ := Kd.at_int (Kd.R_reads' HO_10.out).2.2 ((rd_T149 t336 x48_1).f0) p341 q341
   obtain rfl : (⟨go11, 0, none⟩ : Addr) = ad341 := (by injection e341)
   (first | simp only [add_plain] at hx341_0 | simp only [add_at] at hx341_0 | simp only [Addr.add, Nat.zero_add] at hx341_0 | skip)
   replace p341 := eq_true p341
   replace q341 := eq_true q341
   have p26 : 0 ≤ (((rd_T149 t336 x48_1).f0) : Int) := of_decide_eq_true tZE
   have q26 : (((rd_T149 t336 x48_1).f0) : Int) < ((x10_1.length : Int) : Int) := of_decide_eq_true tZE
   obtain ⟨hx26_0, hf26_0⟩ := Kd.R_celln 0 HO_10.out (((rd_T149 t336 x48_1).f0) : Int) p26 q26
   replace p26 := eq_true p26
   replace q26 := eq_true q26
   (try clear GG11)
   obtain ⟨cl36_, hgg36_⟩ := Kd.R_typed (HO_10.out) go11 rfl
   have GG11 := Aside0.mk hgg36_
   clear hgg36_
   have HP36 := Kd.R_putn HO_10.out (((rd_T149 t336 x48_1).f0) : Int) (wrap64 ((rd x10_1 ((rd_T149 t336 x48_1).f0)) + (wrap64 (t330 * ((rd_T149 t336 x48_1).f1)))))
   rw [← Ny342.out] at HP36
   have HQ36 := Aside0.mk HP36
   clear HP36
   refine start_ (n := 12) (S := fun w' => w'.cell? ⟨gb340, 0, none⟩ = some (.int .i64 ((rd_T149 t336 x48_1).f0)) ∧ w'.cell? ⟨gb340, 1, none⟩ = some (.int .i64 ((rd_T149 t336 x48_1).f1)) ∧ w'.cell? ⟨gb340, 2, none⟩ = some (.int .i64 ((rd_T149 t336 x48_1).f2)) ∧ w'.cell? ⟨gb340, 3, none⟩ = some (.int .i64 ((rd_T149 t336 x48_1).f3)) ∧ w'.cell? ⟨gb340, 4, none⟩ = some (.int .i64 ((rd_T149 t336 x48_1).f4)) ∧ w'.cell? ⟨gb340, 5, none⟩ = some (.int .i64 ((rd_T149 t336 x48_1).f5)) ∧ w'.cell? ⟨go11, (((rd_T149 t336 x48_1).f0)).toNat, none⟩ = some (.int .i64 (rd x10_1 ((rd_T149 t336 x48_1).f0)))) (ds := [11]) L0' kZ rfl rfl ⟨(blk_cell BK340.out 0).trans rfl, (blk_cell BK340.out 1).trans rfl, (blk_cell BK340.out 2).trans rfl, (blk_cell BK340.out 3).trans rfl, (blk_cell BK340.out 4).trans rfl, (blk_cell BK340.out 5).trans rfl, hx341_0⟩ (fun hHeld => ?_); refine with_tabW impl_output.tab9 impl_output.bits9 (fun HT_ HW_ => ?_)
   generalize w34.drew = w35 at HO_10 HO_46 BK340 HB GG11 HQ36 hf26_0 hx26_0 hx341_0 hHeld ⊢
   refine pure_ (i := 0) (N := some 52) (v := ?_) (a' := ?_) L1' rfl rfl (any_of HT_.out kZ) (fun _ _ _ h => h) (Or.inl ⟨by rfl, ?_⟩) ?_ ?_
   rotate_left
   ·intro w'
    go_simp
    with_reducible rfl
   rotate_left
   ·simp only [Act.put, sZ1, sZ2, sZ3, i64_w, i32_w]
    rfl
   refine pure_ (i := 1) (N := some 53) (v := ?_) (a' := ?_) L2' rfl rfl (any_of HT_.out kZ) (fun _ _ _ h => h) (Or.inl ⟨by rfl, ?_⟩) ?_ ?_
   rotate_left
   ·intro w'
    go_simp
    with_reducible rfl
   rotate_left
   ·simp only [Act.put, sZ1, sZ2, sZ3, i64_w, i32_w]
    rfl
   refine pure_ (i := 5) (N := some 57) (v := ?_) (a' := ?_) L3' rfl rfl (any_of HT_.out kZ) (fun _ _ _ h => h) (Or.inl ⟨by rfl, ?_⟩) ?_ ?_
   rotate_left
   ·intro w'
    go_simp
    with_reducible rfl
   rotate_left
   ·simp only [Act.put, sZ1, sZ2, sZ3, i64_w, i32_w]
    rfl
   refine pure_ (i := 6) (N := some 58) (v := ?_) (a' := ?_) L4' rfl rfl (any_of HT_.out kZ) (fun _ _ _ h => h) (Or.inl ⟨by rfl, ?_⟩) ?_ ?_
   rotate_left
   ·intro w'
    go_simp
    with_reducible rfl
   rotate_left
   ·simp only [Act.put, sZ1, sZ2, sZ3, i64_w, i32_w]
    rfl
   refine take_ (i := 2) (N := some 54) (v := ?_) (a' := ?_) L5' rfl rfl (take_ofW HT_.out HW_.out kZ) (fun _ _ _ h => h) (Or.inl ⟨by rfl, ?_⟩) hHeld ?_ ?_
   rotate_left
   ·rintro w' ⟨s0, s1, s2, s3, s4, s5, s6⟩
    go_simp
    with_reducible rfl
   rotate_left
   ·simp only [Act.put, sZ1, sZ2, sZ3, i64_w, i32_w]
    rfl
   refine pure_ (i := 3) (N := some 55) (v := ?_) (a' := ?_) L6' rfl rfl (any_of HT_.out kZ) (fun _ _ _ h => h) (Or.inl ⟨by rfl, ?_⟩) ?_ ?_
   rotate_left
   ·intro w'
    go_simp
    with_reducible rfl
   rotate_left
   ·simp only [Act.put, sZ1, sZ2, sZ3, i64_w, i32_w]
    rfl
   refine take_ (i := 4) (N := some 56) (v := ?_) (a' := ?_) L7' rfl rfl (take_ofW HT_.out HW_.out kZ) (fun _ _ _ h => h) (Or.inl ⟨by rfl, ?_⟩) hHeld ?_ ?_
   rotate_left
   ·rintro w' ⟨s0, s1, s2, s3, s4, s5, s6⟩
    go_simp
    with_reducible rfl
   rotate_left
   ·simp only [Act.put, sZ1, sZ2, sZ3, i64_w, i32_w]
    rfl
   refine take_ (i := 7) (N := some 59) (v := ?_) (a' := ?_) L8' rfl rfl (take_ofW HT_.out HW_.out kZ) (fun _ _ _ h => h) (Or.inl ⟨by rfl, ?_⟩) hHeld ?_ ?_
   rotate_left
   ·rintro w' ⟨s0, s1, s2, s3, s4, s5, s6⟩
    go_simp
    with_reducible rfl
   rotate_left
   ·simp only [Act.put, sZ1, sZ2, sZ3, i64_w, i32_w]
    rfl
   refine pure_ (i := 8) (N := some 60) (v := ?_) (a' := ?_) L9' rfl rfl (any_of HT_.out kZ) (fun _ _ _ h => h) (Or.inl ⟨by rfl, ?_⟩) ?_ ?_
   rotate_left
   ·intro w'
    go_simp
    with_reducible rfl
   rotate_left
   ·simp only [Act.put, sZ1, sZ2, sZ3, i64_w, i32_w]
    rfl
   refine pure_ (i := 9) (N := some 61) (v := ?_) (a' := ?_) L10' rfl rfl (any_of HT_.out kZ) (fun _ _ _ h => h) (Or.inl ⟨by rfl, ?_⟩) ?_ ?_
   rotate_left
   ·intro w'
    go_simp
    with_reducible rfl
   rotate_left
   ·simp only [Act.put, sZ1, sZ2, sZ3, i64_w, i32_w]
    rfl
   refine pure_ (i := 10) (N := some 62) (v := ?_) (a' := ?_) L11' rfl rfl (any_of HT_.out kZ) (fun _ _ _ h => h) (Or.inl ⟨by rfl, ?_⟩) ?_ ?_
   rotate_left
   ·intro w'
    go_simp
    with_reducible rfl
   rotate_left
   ·simp only [Act.put, sZ1, sZ2, sZ3, i64_w, i32_w]
    rfl
   refine last_ (i := 11) (N := none) L12' rfl rfl (one_of HT_.out kZ) (by decide) (fun K hK => ?_)
   refine skip_ (w1 := ?_) (by rfl) rfl ?_ ?_
   rotate_left
   ·go_simp
    rfl
   refine hK.out _ _ ?_
   clear hK K
   refine done_ (done_of HT_.out kZ) ?_
   (try have hnb37 : gb340 ≠ go11 := (fun he_ => by have h1_ := BK340.out; have h2_ := GG11.out; rw [he_] at h1_; have h3_ := h1_.symm.trans h2_; injection h3_ with h3_; injection h3_ with _ h4_ _; exact absurd h4_ (by decide)))
   (try have hnc37 := Ne.symm hnb37)
   have hcz38_0 : w35.cell? ⟨gb340, 0, none⟩ = some (.int .i64 ((rd_T149 t336 x48_1).f0)) := (blk_cell BK340.out 0).trans rfl
   have hcz38_1 : w35.cell? ⟨gb340, 1, none⟩ = some (.int .i64 ((rd_T149 t336 x48_1).f1)) := (blk_cell BK340.out 1).trans rfl
   have hcz38_2 : w35.cell? ⟨gb340, 2, none⟩ = some (.int .i64 ((rd_T149 t336 x48_1).f2)) := (blk_cell BK340.out 2).trans rfl
   have hcz38_3 : w35.cell? ⟨gb340, 3, none⟩ = some (.int .i64 ((rd_T149 t336 x48_1).f3)) := (blk_cell BK340.out 3).trans rfl
   have hcz38_4 : w35.cell? ⟨gb340, 4, none⟩ = some (.int .i64 ((rd_T149 t336 x48_1).f4)) := (blk_cell BK340.out 4).trans rfl
   have hcz38_5 : w35.cell? ⟨gb340, 5, none⟩ = some (.int .i64 ((rd_T149 t336 x48_1).f5)) := (blk_cell BK340.out 5).trans rfl
   have hfz38_0 := blk_frozen BK340.out 0
   have hfz38_1 := blk_frozen BK340.out 1
   have hfz38_2 := blk_frozen BK340.out 2
   have hfz38_3 := blk_frozen BK340.out 3
   have hfz38_4 := blk_frozen BK340.out 4
   have hfz38_5 := blk_frozen BK340.out 5
   try go_wp2_with (first | ((with_reducible refine gate_callee (f := 162) rfl ?_); refine goesL_ (some 67) rfl rfl Try.func162 kZ rfl #[.int .i64 (wrap64 (t330 * ((rd_T149 t336 x48_1).f1)))] rfl tZA ?_; (with_reducible refine (impl_quantity.calls (wrap64 (t330 * ((rd_T149 t336 x48_1).f1))) true _ A27.out).mono ?_); rintro e w' ⟨rfl, ⟨nd, rfl⟩⟩; refine ⟨_, rfl, ?_⟩; have p29 : 0 ≤ (((rd_T149 t336 x48_1).f0) : Int) := of_decide_eq_true tZE; have q29 : (((rd_T149 t336 x48_1).f0) : Int) < ((x10_1.length : Int) : Int) := of_decide_eq_true tZE; replace p29 := eq_true p29; replace q29 := eq_true q29) | (go_at_call 162; (with_reducible refine (impl_quantity.calls (wrap64 ((rd x10_1 ((rd_T149 t336 x48_1).f0)) + (wrap64 (t330 * ((rd_T149 t336 x48_1).f1))))) true _ A30.out).mono ?_); rintro e w' ⟨rfl, ⟨nd, rfl⟩⟩))
   (try simp only [← hl10_1])
   go_roundg k1
   case measure => have := HK1.out; omega
   case rel => exact ⟨(y342), (wrap64 (x48_1 + 1)), tZB, H', ⟨by have := HK1.out; omega⟩, ⟨by (try simp only [hl10_1]); (with_reducible repeat (first | apply Kd.R_alloc | apply Kd.R_drewN | apply Kd.R_drew)); exact HQ36.out⟩, ⟨by (try simp only [hl10_1]); (with_reducible repeat (first | apply Kd.R_alloc | apply Kd.R_drewN | apply Kd.R_drew)); exact Kd.R_mono (Kd.R_far (p := ⟨go11, (((rd_T149 t336 x48_1).f0) : Int).toNat, none⟩) (Kd.R_types HO_46.out GG11.out (by decide)) (fun _ hk => hk.2) (.int .i64 (wrap64 ((rd x10_1 ((rd_T149 t336 x48_1).f0)) + (wrap64 (t330 * ((rd_T149 t336 x48_1).f1))))))) (fun _ hk => trivial)⟩, ⟨bZ⟩⟩
def impl_Output.f (k : Nat) (l0 : List (S130)) (a1 : Int) (a2 : Int) (a3 : Int) : Option (List Int × Bool) := (impl_askOk.f k l0 a1 a2 a3).bind fun t346 => (if t346 = true then ((impl_output.f k l0 a1 a2 a3).bind fun bt347 => (some (bt347.1, bt347.2))) else (some (([] : List Int), false)))
theorem impl_Output.mono : ∀ a0 a1 a2 a3 k, LeO (impl_Output.f k a0 a1 a2 a3) (impl_Output.f (k + 1) a0 a1 a2 a3) := by
 intro a0 a1 a2 a3 k
 unfold impl_Output.f
 repeat' first
     | (with_reducible exact impl_askOk.mono _ _ _ _ _)
     | (with_reducible exact impl_output.mono _ _ _ _ _)
     | (with_reducible exact LeO.refl _)
     | (with_reducible exact LeO.none _)
     | (with_reducible refine LeO.ite ?_ ?_)
     | (with_reducible refine LeO.bind ?_ (fun _ => ?_))
     | exact impl_askOk.mono _ _ _ _ _
     | exact impl_output.mono _ _ _ _ _
     | exact LeO.none _
     | refine LeO.ite ?_ ?_
     | refine LeO.bind ?_ (fun _ => ?_)
set_option maxHeartbeats 8000000 in
set_option maxRecDepth 100000 in
theorem impl_Output.calls (k : Nat) (A0 : Option Addr) (c0 : Nat) (l0 : List (S130)) (a1 : Int) (a2 : Int) (a3 : Int) (r1 : List Int) (r2 : Bool) (w : World) (hr0 : Kd.C k130 w A0 l0.length l0) (hc0 : l0.length ≤ c0) (h : impl_Output.f k l0 a1 a2 a3 = some (r1, r2)) :
    Calls Try.prog 46 #[.slice A0 l0.length c0, .int .i64 a1, .int .i64 a2, .int .i64 a3] w fun e w' => ∃ v0_ : Value, e = .returned (.tuple #[v0_, .bool r2]) ∧ Kd.R (Kd.int .i64) 3 w' w.heap.size (fun _ => True) v0_ r1 ∧ Below w.heap.size w w' := by
 have HR0 := Aside0.mk hr0
 have HC0 := Aside0.mk hc0
 clear hr0 hc0
 have HB := aZ (Below.refl w.heap.size w)
 have H : ((impl_askOk.f k l0 a1 a2 a3).bind fun t346 => (if t346 = true then ((impl_output.f k l0 a1 a2 a3).bind fun bt347 => (some (bt347.1, bt347.2))) else (some (([] : List Int), false)))) = some (r1, r2) := h
 clear h
 replace H := Option.bind_eq_some_iff.mp H
 obtain ⟨t346, A50, H⟩ := H
 replace H : (if t346 = true then ((impl_output.f k l0 a1 a2 a3).bind fun bt347 => (some (bt347.1, bt347.2))) else (some (([] : List Int), false))) = some (r1, r2) := H
 have A5 := Aside0.mk A50
 clear A50
 by_cases c6 : t346 = true
 rotate_left
 ·replace c6 := Bool.eq_false_iff.mpr c6
  subst c6
  have H1 : (some (([] : List Int), false)) = some (r1, r2) := by rw [if_neg (show ¬ (false = true) by decide)] at H; exact H
  clear H
  have H := H1
  clear H1
  simp only [Option.some.injEq, Prod.mk.injEq] at H
  obtain ⟨rfl, rfl⟩ := H
  go_enter Try.func46, Try.ntmps46
  go_wp2_with (first | ((with_reducible refine gate_callee (f := 108) rfl ?_); refine goesL_ (some 14) rfl rfl Try.func108 kZ rfl #[.slice A0 l0.length c0, .int .i64 a1, .int .i64 a2, .int .i64 a3] rfl tZA ?_; (with_reducible refine (impl_askOk.calls k _ _ l0 a1 a2 a3 false _ ?side1 ?side2 A5.out).mono ?_); (case side1 => repeat (first | exact HR0.out | (with_reducible refine Kd.C_alloc ?_ _) | (with_reducible refine Kd.C_drewN ?_ _) | (with_reducible refine Kd.C_drew ?_))); (case side2 => exact HC0.out); rintro e w10 ⟨rfl, hb⟩; refine ⟨_, rfl, ?_⟩; replace HB := aZ (below_step (lZB HB.out) hb); (try clear hb); (try clear hb2); (try clear hk); (try clear hi)))
  go_ret2
  exact ⟨_, tZC, by first | exact Kd.R_nil _ _ _ _ _ | exact Kd.N_nil _ _ _ _ _ | exact Kd.V_nil _ _ _ _ _ | exact Kd.Q_nil _ _ _ _ _ | exact Kd.S_nil _ _ _ _ _, bZ⟩
 subst c6
 have H1 : ((impl_output.f k l0 a1 a2 a3).bind fun bt347 => (some (bt347.1, bt347.2))) = some (r1, r2) := by rw [if_pos rfl] at H; exact H
 clear H
 have H := H1
 clear H1
 replace H := Option.bind_eq_some_iff.mp H
 obtain ⟨⟨t347, t348⟩, A70, H⟩ := H
 replace H : (some (t347, t348)) = some (r1, r2) := H
 have A7 := Aside0.mk A70
 clear A70
 simp only [Option.some.injEq, Prod.mk.injEq] at H
 obtain ⟨rfl, rfl⟩ := H
 go_enter Try.func46, Try.ntmps46
 go_wp2_with (first | ((with_reducible refine gate_callee (f := 108) rfl ?_); refine goesL_ (some 14) rfl rfl Try.func108 kZ rfl #[.slice A0 l0.length c0, .int .i64 a1, .int .i64 a2, .int .i64 a3] rfl tZA ?_; (with_reducible refine (impl_askOk.calls k _ _ l0 a1 a2 a3 true _ ?side1 ?side2 A5.out).mono ?_); (case side1 => repeat (first | exact HR0.out | (with_reducible refine Kd.C_alloc ?_ _) | (with_reducible refine Kd.C_drewN ?_ _) | (with_reducible refine Kd.C_drew ?_))); (case side2 => exact HC0.out); rintro e w8 ⟨rfl, hb⟩; refine ⟨_, rfl, ?_⟩; replace HB := aZ (below_step (lZB HB.out) hb); (try clear hb); (try clear hb2); (try clear hk); (try clear hi)) | ((with_reducible refine gate_callee (f := 109) rfl ?_); refine goesL_ (some 20) rfl rfl Try.func109 kZ rfl #[.slice A0 l0.length c0, .int .i64 a1, .int .i64 a2, .int .i64 a3] rfl tZA ?_; (with_reducible refine (impl_output.calls k _ _ l0 a1 a2 a3 t347 t348 _ ?side1 ?side2 A7.out).mono ?_); (case side1 => repeat (first | exact (Kd.C_below HR0.out HB.out) | (with_reducible refine Kd.C_alloc ?_ _) | (with_reducible refine Kd.C_drewN ?_ _) | (with_reducible refine Kd.C_drew ?_))); (case side2 => exact HC0.out); rintro e w9 ⟨v349, rfl, ho0, hb⟩; refine ⟨_, rfl, ?_⟩; have HO350 := aZ (Kd.R_lower ho0 (below_size (lZB HB.out))); replace HB := aZ (below_step (lZB HB.out) hb); (try clear hb); (try clear hb2); (try clear hk); (try clear hi); (try clear ho0)))
 go_ret2
 exact ⟨_, tZC, lZR HO350.out, bZ⟩
end Go.Proofs.Ytjnmfadnkbflfaa.PFnExactOutput
