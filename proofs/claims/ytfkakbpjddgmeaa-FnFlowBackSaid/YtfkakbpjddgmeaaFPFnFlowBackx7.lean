import Derived.Test.YtfkakbpjddgmeaaFPFnFlowBackx0
import Derived.Test.YtfkakbpjddgmeaaFPFnFlowBackx4
import Derived.Test.YtfkakbpjddgmeaaFPFnFlowBackx5
import Derived.Test.YtfkakbpjddgmeaaFPFnFlowBackx6
import Derived.Test.YtfkakbpjddgmeaaFSlimWords
namespace Go.Proofs.Ytfkakbpjddgmeaa.PFnFlowBack
open Go.Proofs.Ytfkakbpjddgmeaa.SlimWords
open Go.RowKit Go.Proofs.YtfkakbpjddgmeaaW.PrintWords Go.Proofs.YtfkakbpjddgmeaaW.PrintLast Go.Proofs.YtfkakbpjddgmeaaW.PrintMore Go.Proofs.Ytfkakbpjddgmeaa.MapWords Go.Proofs.Ytfkakbpjddgmeaa.IterWords Go.Proofs.Ytfkakbpjddgmeaa.MarkWords
attribute [local go_sem] max2_int min2_int max_two min_two max_three min_three max_four min_four
set_option linter.unusedVariables false
set_option linter.unusedSimpArgs false
private abbrev I' := true
private abbrev O' := false
private abbrev L0' : Array Bool := #[O',O',O',O',O',O',O',O',O',O',O',O',O',O']
private abbrev L1' : Array Bool := #[I',O',O',O',O',O',O',O',O',O',O',O',O',O']
private abbrev L2' : Array Bool := #[I',I',O',O',O',O',O',O',O',O',O',O',O',O']
private abbrev L3' : Array Bool := #[I',I',I',O',O',O',O',O',O',O',O',O',O',O']
private abbrev L4' : Array Bool := #[I',I',I',I',O',O',O',O',O',O',O',O',O',O']
private abbrev L5' : Array Bool := #[I',I',I',I',I',O',O',O',O',O',O',O',O',O']
private abbrev L6' : Array Bool := #[I',I',I',I',I',I',O',O',O',O',O',O',O',O']
private abbrev L7' : Array Bool := #[I',I',I',I',I',I',I',O',O',O',O',O',O',O']
private abbrev L8' : Array Bool := #[I',I',I',I',I',I',I',I',O',O',O',O',O',O']
private abbrev L9' : Array Bool := #[I',I',I',I',I',I',I',I',I',O',O',O',O',O']
private abbrev L10' : Array Bool := #[I',I',I',I',I',I',I',I',I',I',O',O',O',O']
private abbrev L11' : Array Bool := #[I',I',I',I',I',I',I',I',I',I',I',O',O',O']
private abbrev L12' : Array Bool := #[I',I',I',I',I',I',I',I',I',I',I',I',O',O']
private abbrev L13' : Array Bool := #[I',I',I',I',I',I',I',I',I',I',I',I',I',O']
private abbrev L14' : Array Bool := #[I',I',I',I',I',I',I',I',I',I',I',I',I',I']
private abbrev L15' : Array Bool := #[I',I',I',I',I',I',I',I',O',I',O',O',O',O']
private abbrev L16' : Array Bool := #[I',I',I',I',I',I',I',I',O',I',I',O',O',O']
private abbrev L17' : Array Bool := #[I',I',I',I',I',I',I',I',O',I',I',I',O',O']
mutual
def impl_readStep.j0 : Nat → ByteArray → Bool → Option (Int × List ByteArray × Bool)
  | 0, _, _ => none
  | k + 1, x0, x18 => if x18 = true then (some (0, ([] : List ByteArray), false)) else (if 5 ≤ (x0.size : Int) then ((impl_cutAt.f k (x0.extract 5 x0.size) (⟨#[58, 32]⟩ : ByteArray)).bind fun t267 => (if (t267.length : Int) = 2 then (if 0 < (t267.length : Int) then ((impl_ReadMoney.f k (rdOf ByteArray.empty t267 0) 2).bind fun bt271 => (if bt271.2 = true then (if bt271.1 < 0 then (impl_readStep.j1 k t267 bt271.1 true) else ((impl_ShowMoney.f k bt271.1 2).bind fun t273 => (impl_readStep.j1 k t267 bt271.1 (t273.toList != (rdOf ByteArray.empty t267 0).toList)))) else (impl_readStep.j1 k t267 bt271.1 true))) else (none)) else (some (0, ([] : List ByteArray), false)))) else (none))
def impl_readStep.j1 : Nat → List ByteArray → Int → Bool → Option (Int × List ByteArray × Bool)
  | 0, _, _, _ => none
  | k + 1, x4, x5, x47 => if x47 = true then (some (0, ([] : List ByteArray), false)) else (if 1 < (x4.length : Int) then ((impl_cutAt.f k (rdOf ByteArray.empty x4 1) (⟨#[44, 32]⟩ : ByteArray)).bind fun t276 => (if (t276.length : Int) > 8 then (some (0, ([] : List ByteArray), false)) else (impl_readStep.l0 k x5 t276 (([] : List ((ByteArray × Bool)))) t276 (t276.length : Int) 0))) else (none))
def impl_readStep.l0 : Nat → Int → List ByteArray → List ((ByteArray × Bool)) → List ByteArray → Int → Int → Option (Int × List ByteArray × Bool)
  | 0, _, _, _, _, _, _ => none
  | k + 1, x5, x7, x8, x58, x59, x60 => if x60 < x59 then (if 0 ≤ x60 then (if x60 < (x58.length : Int) then ((impl_NameOk.f k (rdOf ByteArray.empty x58 x60)).bind fun t283 => (if t283 = true then (if (rdOf ByteArray.empty x58 x60).size ≤ 9223372036854775807 then (if (mget false x8 (rdOf ByteArray.empty x58 x60)) = true then (some (0, ([] : List ByteArray), false)) else (if x8.length < 140737488355328 then (impl_readStep.l0 k x5 x7 ((rdOf ByteArray.empty x58 x60, true) :: x8) x58 x59 (wrap64 (x60 + 1))) else (none))) else (none)) else (some (0, ([] : List ByteArray), false)))) else (none)) else (none)) else (some (x5, x7, true))
end
def impl_readStep.f (k : Nat) (a0 : ByteArray) : Option (Int × List ByteArray × Bool) := if (a0.size : Int) < 5 then (impl_readStep.j0 k a0 true) else (if 0 ≤ 5 then (if 5 ≤ (a0.size : Int) then (impl_readStep.j0 k a0 ((a0.extract 0 5).toList != ([111, 118, 101, 114, 32] : List UInt8))) else (none)) else (none))
theorem impl_readStep.mono_l : ∀ k, (∀ y0 y1, LeO (impl_readStep.j0 k y0 y1) (impl_readStep.j0 (k + 1) y0 y1)) ∧ (∀ y0 y1 y2, LeO (impl_readStep.j1 k y0 y1 y2) (impl_readStep.j1 (k + 1) y0 y1 y2)) ∧ (∀ y0 y1 y2 y3 y4 y5, LeO (impl_readStep.l0 k y0 y1 y2 y3 y4 y5) (impl_readStep.l0 (k + 1) y0 y1 y2 y3 y4 y5))
  | 0 => ⟨fun _ _ r h => by simp [impl_readStep.j0] at h, fun _ _ _ r h => by simp [impl_readStep.j1] at h, fun _ _ _ _ _ _ r h => by simp [impl_readStep.l0] at h⟩
  | k + 1 => by
    obtain ⟨ih0, ih1, ih2⟩ := impl_readStep.mono_l k
    refine ⟨?_, ?_, ?_⟩
    · intro y0 y1
      unfold impl_readStep.j0
      repeat' first
      | (with_reducible exact ih0 _ _)
      | (with_reducible exact ih1 _ _ _)
      | (with_reducible exact ih2 _ _ _ _ _ _)
      | (with_reducible exact impl_NameOk.mono _ _)
      | (with_reducible exact impl_ReadMoney.mono _ _ _)
      | (with_reducible exact impl_ShowMoney.mono _ _ _)
      | (with_reducible exact impl_cutAt.mono _ _ _)
      | (with_reducible exact LeO.refl _)
      | (with_reducible exact LeO.none _)
      | (with_reducible refine LeO.ite ?_ ?_)
      | (with_reducible refine LeO.bind ?_ (fun _ => ?_))
      | exact ih0 _ _
      | exact ih1 _ _ _
      | exact ih2 _ _ _ _ _ _
      | exact impl_NameOk.mono _ _
      | exact impl_ReadMoney.mono _ _ _
      | exact impl_ShowMoney.mono _ _ _
      | exact impl_cutAt.mono _ _ _
      | exact LeO.none _
      | refine LeO.ite ?_ ?_
      | refine LeO.bind ?_ (fun _ => ?_)
    · intro y0 y1 y2
      unfold impl_readStep.j1
      repeat' first
      | (with_reducible exact ih0 _ _)
      | (with_reducible exact ih1 _ _ _)
      | (with_reducible exact ih2 _ _ _ _ _ _)
      | (with_reducible exact impl_NameOk.mono _ _)
      | (with_reducible exact impl_ReadMoney.mono _ _ _)
      | (with_reducible exact impl_ShowMoney.mono _ _ _)
      | (with_reducible exact impl_cutAt.mono _ _ _)
      | (with_reducible exact LeO.refl _)
      | (with_reducible exact LeO.none _)
      | (with_reducible refine LeO.ite ?_ ?_)
      | (with_reducible refine LeO.bind ?_ (fun _ => ?_))
      | exact ih0 _ _
      | exact ih1 _ _ _
      | exact ih2 _ _ _ _ _ _
      | exact impl_NameOk.mono _ _
      | exact impl_ReadMoney.mono _ _ _
      | exact impl_ShowMoney.mono _ _ _
      | exact impl_cutAt.mono _ _ _
      | exact LeO.none _
      | refine LeO.ite ?_ ?_
      | refine LeO.bind ?_ (fun _ => ?_)
    · intro y0 y1 y2 y3 y4 y5
      unfold impl_readStep.l0
      repeat' first
      | (with_reducible exact ih0 _ _)
      | (with_reducible exact ih1 _ _ _)
      | (with_reducible exact ih2 _ _ _ _ _ _)
      | (with_reducible exact impl_NameOk.mono _ _)
      | (with_reducible exact impl_ReadMoney.mono _ _ _)
      | (with_reducible exact impl_ShowMoney.mono _ _ _)
      | (with_reducible exact impl_cutAt.mono _ _ _)
      | (with_reducible exact LeO.refl _)
      | (with_reducible exact LeO.none _)
      | (with_reducible refine LeO.ite ?_ ?_)
      | (with_reducible refine LeO.bind ?_ (fun _ => ?_))
      | exact ih0 _ _
      | exact ih1 _ _ _
      | exact ih2 _ _ _ _ _ _
      | exact impl_NameOk.mono _ _
      | exact impl_ReadMoney.mono _ _ _
      | exact impl_ShowMoney.mono _ _ _
      | exact impl_cutAt.mono _ _ _
      | exact LeO.none _
      | refine LeO.ite ?_ ?_
      | refine LeO.bind ?_ (fun _ => ?_)
theorem impl_readStep.mono : ∀ a0 k, LeO (impl_readStep.f k a0) (impl_readStep.f (k + 1) a0) := by
 intro a0 k
 obtain ⟨ih0, ih1, ih2⟩ := impl_readStep.mono_l k
 unfold impl_readStep.f
 repeat' first
     | (with_reducible exact ih0 _ _)
     | (with_reducible exact ih1 _ _ _)
     | (with_reducible exact ih2 _ _ _ _ _ _)
     | (with_reducible exact impl_NameOk.mono _ _)
     | (with_reducible exact impl_ReadMoney.mono _ _ _)
     | (with_reducible exact impl_ShowMoney.mono _ _ _)
     | (with_reducible exact impl_cutAt.mono _ _ _)
     | (with_reducible exact LeO.refl _)
     | (with_reducible exact LeO.none _)
     | (with_reducible refine LeO.ite ?_ ?_)
     | (with_reducible refine LeO.bind ?_ (fun _ => ?_))
     | exact ih0 _ _
     | exact ih1 _ _ _
     | exact ih2 _ _ _ _ _ _
     | exact impl_NameOk.mono _ _
     | exact impl_ReadMoney.mono _ _ _
     | exact impl_ShowMoney.mono _ _ _
     | exact impl_cutAt.mono _ _ _
     | exact LeO.none _
     | refine LeO.ite ?_ ?_
     | refine LeO.bind ?_ (fun _ => ?_)
def impl_readStep.T7 : Bool × List (List Nat × List Nat) := (true, [([], []), ([0], [0]), ([1], [1]), ([2], [2]), ([3, 2], [2, 3]), ([2, 4], [2, 4]), ([5, 2], [5]), ([6], [6]), ([7, 6, 6], [6, 7]), ([6], [6]), ([9, 6], [6, 9]), ([10, 6], [6, 10]), ([8, 11, 6], [6, 8, 11]), ([6, 12], [6, 12])])
def impl_readStep.B7 : List Nat := [0, 1, 3, 7, 15, 31, 63, 127, 255, 127, 639, 1663, 4095, 8191]
theorem impl_readStep.tab7 : rtab .any (opsOf Try.f57 7) = impl_readStep.T7 := by kernel_rfl
theorem impl_readStep.bits7 : waitsOk impl_readStep.T7.2 impl_readStep.B7 = true := by kernel_rfl
set_option maxHeartbeats 8000000 in
set_option maxRecDepth 100000 in
theorem impl_readStep.calls (k : Nat) (a0 : ByteArray) (r1 : Int) (r2 : List ByteArray) (r3 : Bool) (w : World) (h : impl_readStep.f k a0 = some (r1, r2, r3)) :
    Calls Try.prog 57 #[.string a0] w fun e w' => ∃ v1_ : Value, e = .returned (.tuple #[.agg #[.int .i64 r1, v1_], .bool r3]) ∧ Kd.R Kd.string 9 w' w.heap.size (fun _ => True) v1_ r2 ∧ Below w.heap.size w w' := by
 have hu51 := Try.underlying51; have HB := aZ (Below.refl w.heap.size w); have H : (if (a0.size : Int) < 5 then (impl_readStep.j0 k a0 true) else (if 0 ≤ 5 then (if 5 ≤ (a0.size : Int) then (impl_readStep.j0 k a0 ((a0.extract 0 5).toList != ([111, 118, 101, 114, 32] : List UInt8))) else (none)) else (none))) = some (r1, r2, r3) := h; clear h; have HC2 := Aside0.mk H; clear H; go_enter Try.func57, Try.ntmps57
 go_upto_region 1 with (first | ((with_reducible refine gate_dst (N := 2) rfl ?_); refine box_event tZR (N := 2) tZR (cs := #[.int .i64 0, .slice none 0 0]) (t := 51) tZS ?_; intro gb266 hg w3 hbox hb; have BK266 := aZ (hbox); have GW266 := aZ ((by rw [hg]; exact (below_size (lZB HB.out)) : w.heap.size ≤ gb266)); have GE266 := GW266; replace HB := aZ (below_step (lZB HB.out) hb); clear hb hbox hg))
 (try simp only [Act.put, sZ1, sZ2, sZ3])
 go_cut [18] (fun v18 wc => ∃ (kq : Nat) (x18_1 : Bool), v18 = .bool x18_1 ∧ Aside0 (impl_readStep.j0 kq a0 x18_1 = some (r1, r2, r3)) ∧ Aside0 (kq ≤ k) ∧ Aside0 (wc.heap[gb266]? = some (.cells #[.int .i64 0, (.slice none 0 0)] 51 (0, 0))) ∧ Aside0 (Below w.heap.size w wc))
 case first =>
  have H := HC2.out; clear HC2
  by_cases c4 : (a0.size : Int) < 5
  ·rw [if_pos c4] at H; have c4b0 := decide_eq_true c4; have c4b1 : decide (a0.size < 5) = true := decide_eq_true (by omega); clear c4; (first | rw [c4b0] | (simp only [i64_w, i32_w]; rw [c4b0]) | skip); have H' := Aside0.mk H; clear H; go_wp2; go_meet
   case rel => exact ⟨_, (true), tZB, H', ⟨by first | omega | exact Nat.le_refl _⟩, ⟨bkZ BK266.out⟩, ⟨bZ⟩⟩
  rw [if_neg c4] at H; have c4b0 := decide_eq_false c4; have c4b1 : decide (a0.size < 5) = false := decide_eq_false (by omega); clear c4; (first | rw [c4b0] | (simp only [i64_w, i32_w]; rw [c4b0]) | skip)
  by_cases c5 : 0 ≤ 5
  rotate_left
  ·rw [if_neg c5] at H; exact absurd H (by simp)
  rw [if_pos c5] at H; have c5b0 := eq_true c5; have c5b1 := decide_eq_true c5; clear c5
  by_cases c6 : 5 ≤ (a0.size : Int)
  rotate_left
  ·rw [if_neg c6] at H; exact absurd H (by simp)
  rw [if_pos c6] at H; have c6b0 := eq_true c6; have c6b1 := decide_eq_true c6; clear c6; have H' := Aside0.mk H; clear H; go_wp2; go_meet
  case rel => exact ⟨_, (((a0.extract 0 5).toList != ([111, 118, 101, 114, 32] : List UInt8))), tZB, H', ⟨by first | omega | exact Nat.le_refl _⟩, ⟨bkZ BK266.out⟩, ⟨bZ⟩⟩
 case rest =>
  clear HC2; obtain ⟨kq, x18_1, rfl, HA, HJ1, BK266, HB⟩ := hcut
  cases kq with
  | zero => exact absurd HA.out (by simp [impl_readStep.j0])
  | succ kj1 =>
   have H := HA.out; clear HA; simp only [impl_readStep.j0] at H
   by_cases c7 : x18_1 = true
   ·subst c7; rw [if_pos rfl] at H; simp only [Option.some.injEq, Prod.mk.injEq] at H; obtain ⟨rfl, rfl, rfl⟩ := H; obtain ⟨hcz8_0, hcz8_1, hfz8_0, hfz8_1⟩ := bc2 BK266.out; go_wp2; refine bodyPost_ret (results_ct rfl _ _ gb266 51 #[.int .i64 0, .slice none 0 0] (0, 0) _ rfl (by (with_reducible repeat (first | refine blk_drewN ?_ _ | refine blk_drew ?_ | refine blk_alloc ?_ _)); refine blk_put (cs := #[.int .i64 0, .slice none 0 0]) ?_ 1 _ rfl; (with_reducible repeat (first | refine blk_drewN ?_ _ | refine blk_drew ?_ | refine blk_alloc ?_ _)); refine blk_put (cs := #[.int .i64 0, .slice none 0 0]) ?_ 0 _ rfl; (with_reducible repeat (first | refine blk_drewN ?_ _ | refine blk_drew ?_ | refine blk_alloc ?_ _)); exact BK266.out) Try.underlying51 rfl kZ) rfl ?_
    exact ⟨_, tZC, by first | exact Kd.R_nil _ _ _ _ _ | exact Kd.N_nil _ _ _ _ _ | exact Kd.V_nil _ _ _ _ _ | exact Kd.Q_nil _ _ _ _ _ | exact Kd.S_nil _ _ _ _ _, bZ⟩
   replace c7 := Bool.eq_false_iff.mpr c7; subst c7; rw [if_neg Bool.false_ne_true] at H
   by_cases c9 : 5 ≤ (a0.size : Int)
   rotate_left
   ·rw [if_neg c9] at H; exact absurd H (by simp)
   rw [if_pos c9] at H; have c9b0 := eq_true c9; have c9b1 := decide_eq_true c9; clear c9; replace H := Option.bind_eq_some_iff.mp H; obtain ⟨t267, A100, H⟩ := H; replace H : (if (t267.length : Int) = 2 then (if 0 < (t267.length : Int) then ((impl_ReadMoney.f kj1 (rdOf ByteArray.empty t267 0) 2).bind fun bt271 => (if bt271.2 = true then (if bt271.1 < 0 then (impl_readStep.j1 kj1 t267 bt271.1 true) else ((impl_ShowMoney.f kj1 bt271.1 2).bind fun t273 => (impl_readStep.j1 kj1 t267 bt271.1 (t273.toList != (rdOf ByteArray.empty t267 0).toList)))) else (impl_readStep.j1 kj1 t267 bt271.1 true))) else (none)) else (some (0, ([] : List ByteArray), false))) = some (r1, r2, r3) := H; have A10 := Aside0.mk A100; clear A100
   by_cases c11 : (t267.length : Int) = 2
   rotate_left
   ·rw [if_neg c11] at H; have c11b0 : ((t267.length : Int) == 2) = false := beq_eq_false_iff_ne.mpr c11; have c11b1 : ((t267.length : Int) != 2) = true := bne_iff_ne.mpr c11; simp only [Option.some.injEq, Prod.mk.injEq] at H; obtain ⟨rfl, rfl, rfl⟩ := H
    go_wp2_with (first | ((with_reducible refine gate_callee (f := 78) rfl ?_); refine goesL_ (some 22) rfl rfl Try.func78 kZ rfl #[.string (a0.extract 5 a0.size), .string (⟨#[58, 32]⟩ : ByteArray)] rfl tZA ?_; (with_reducible refine (impl_cutAt.calls kj1 (a0.extract 5 a0.size) (⟨#[58, 32]⟩ : ByteArray) t267 _ A10.out).mono ?_); rintro e w50 ⟨v268, rfl, ho0, hb⟩; refine ⟨_, rfl, ?_⟩; have HO269 := aZ (Kd.R_lower ho0 (below_size bZ)); replace BK266 := aZ (blk_below (bkZ BK266.out) hb); replace HB := aZ (below_step bZ hb); (try clear hb); (try clear hb2); (try clear hk); (try clear hi); (try clear ho0); obtain ⟨Ao51, co51, eo51⟩ := Kd.R_slice HO269.out; subst eo51; obtain ⟨hcz52_0, hcz52_1, hfz52_0, hfz52_1⟩ := bc2 BK266.out))
    refine bodyPost_ret (results_ct rfl _ _ gb266 51 #[.int .i64 0, .slice none 0 0] (0, 0) _ rfl (by (with_reducible repeat (first | refine blk_drewN ?_ _ | refine blk_drew ?_ | refine blk_alloc ?_ _)); refine blk_put (cs := #[.int .i64 0, .slice none 0 0]) ?_ 1 _ rfl; (with_reducible repeat (first | refine blk_drewN ?_ _ | refine blk_drew ?_ | refine blk_alloc ?_ _)); refine blk_put (cs := #[.int .i64 0, .slice none 0 0]) ?_ 0 _ rfl; (with_reducible repeat (first | refine blk_drewN ?_ _ | refine blk_drew ?_ | refine blk_alloc ?_ _)); exact BK266.out) Try.underlying51 rfl kZ) rfl ?_; exact ⟨_, tZC, by first | exact Kd.R_nil _ _ _ _ _ | exact Kd.N_nil _ _ _ _ _ | exact Kd.V_nil _ _ _ _ _ | exact Kd.Q_nil _ _ _ _ _ | exact Kd.S_nil _ _ _ _ _, bZ⟩
   rw [if_pos c11] at H; have c11b0 : ((t267.length : Int) == 2) = true := beq_iff_eq.mpr c11; have c11b1 : ((t267.length : Int) != 2) = false := bne_eq_false_iff_eq.mpr c11; clear c11
   by_cases c12 : 0 < (t267.length : Int)
   rotate_left
   ·rw [if_neg c12] at H; exact absurd H (by simp)
   rw [if_pos c12] at H; have c12b0 := decide_eq_true c12; have c12b1 : decide (0 < t267.length) = true := decide_eq_true (by omega); clear c12; replace H := Option.bind_eq_some_iff.mp H; obtain ⟨⟨t271, t272⟩, A130, H⟩ := H; replace H : (if t272 = true then (if t271 < 0 then (impl_readStep.j1 kj1 t267 t271 true) else ((impl_ShowMoney.f kj1 t271 2).bind fun t273 => (impl_readStep.j1 kj1 t267 t271 (t273.toList != (rdOf ByteArray.empty t267 0).toList)))) else (impl_readStep.j1 kj1 t267 t271 true)) = some (r1, r2, r3) := H; have A13 := Aside0.mk A130; clear A130; have HC14 := Aside0.mk H; clear H
   go_upto_region 7 with (first | ((with_reducible refine gate_callee (f := 78) rfl ?_); refine goesL_ (some 22) rfl rfl Try.func78 kZ rfl #[.string (a0.extract 5 a0.size), .string (⟨#[58, 32]⟩ : ByteArray)] rfl tZA ?_; (with_reducible refine (impl_cutAt.calls kj1 (a0.extract 5 a0.size) (⟨#[58, 32]⟩ : ByteArray) t267 _ A10.out).mono ?_); rintro e w15 ⟨v268, rfl, ho0, hb⟩; refine ⟨_, rfl, ?_⟩; have HO269 := aZ (Kd.R_lower ho0 (below_size bZ)); replace BK266 := aZ (blk_below (bkZ BK266.out) hb); replace HB := aZ (below_step bZ hb); (try clear hb); (try clear hb2); (try clear hk); (try clear hi); (try clear ho0); obtain ⟨Ao16, co16, eo16⟩ := Kd.R_slice HO269.out; subst eo16; have p270 : 0 ≤ (0 : Int) := (by omega); have q270 : 0 < (t267.length : Int) := of_decide_eq_true tZE; obtain ⟨ad270, e270, hx270_0⟩ := Kd.at_string (Kd.R_reads' HO269.out).2.2 0 p270 q270; cases e270; have qi270 : (0 < t267.length) = True := eq_true (by omega); (try rw [show ((0 : Int)).toNat = 0 from rfl] at hx270_0); (try rw [Addr.add_zero'] at hx270_0); replace p270 := eq_true p270; replace q270 := eq_true q270) | ((with_reducible refine gate_callee (f := 79) rfl ?_); refine goesL_ (some 31) rfl rfl Try.func79 kZ rfl #[.string (rdOf ByteArray.empty t267 0), .int .i64 2] rfl tZA ?_; (with_reducible refine (impl_ReadMoney.calls kj1 (rdOf ByteArray.empty t267 0) 2 t271 t272 _ A13.out).mono ?_); rintro e w' ⟨rfl, ⟨nd, rfl⟩⟩; refine ⟨_, rfl, ?_⟩))
   (try simp only [Act.put, sZ1, sZ2, sZ3])
   go_cut [47] (fun v47 wc => ∃ (kq : Nat) (x47_13 : Bool), v47 = .bool x47_13 ∧ Aside0 (impl_readStep.j1 kq t267 t271 x47_13 = some (r1, r2, r3)) ∧ Aside0 (kq ≤ kj1) ∧ Aside0 (Kd.R Kd.string 9 wc w.heap.size (fun _ => True) (.slice (some ad270) t267.length co16) t267) ∧ Aside0 (wc.heap[gb266]? = some (.cells #[.int .i64 0, (.slice none 0 0)] 51 (0, 0))) ∧ Aside0 (Below w.heap.size w wc))
   case first =>
    have H := HC14.out; clear HC14
    by_cases c17 : t272 = true
    rotate_left
    ·replace c17 := Bool.eq_false_iff.mpr c17; subst c17; rw [if_neg Bool.false_ne_true] at H; have H' := Aside0.mk H; clear H
     try go_wp2
     (try (rw [drewN_self w15]; generalize hq_ : World.drewN w15 _ = w15; replace HO269 : Aside0 (Kd.R Kd.string 9 w15 w.heap.size (fun _ => True) (.slice (some ad270) t267.length co16) t267) := ⟨by rw [← hq_]; exact (lZR HO269.out)⟩; replace BK266 : Aside0 (w15.heap[gb266]? = some (.cells #[.int .i64 0, .slice none 0 0] 51 (0, 0))) := ⟨by rw [← hq_]; exact (bkZ BK266.out)⟩; replace HB : Aside0 (Below w.heap.size w w15) := ⟨by rw [← hq_]; exact bZ⟩; clear hq_)); replace HO269 := aZ (Kd.R_drew HO269.out); replace BK266 := aZ (blk_drew BK266.out); replace HB := aZ (below_drew1 HB.out); refine start_ (n := 14) (S := fun w' => True) (ds := []) L0' kZ rfl rfl trivial (fun hHeld => ?_); refine with_tabW impl_readStep.tab7 impl_readStep.bits7 (fun HT_ HW_ => ?_); generalize w15.drew = w23 at HO269 BK266 HB hHeld ⊢
     refine pure_ (i := 0) (N := some 34) (v := ?_) (a' := ?_) L1' rfl rfl (any_of HT_.out kZ) (fun _ _ _ h => h) (Or.inl ⟨by rfl, ?_⟩) ?_ ?_; rotate_left
     ·intro w'; go_simp; with_reducible rfl
     rotate_left
     ·simp only [Act.put, sZ1, sZ2, sZ3, i64_w, i32_w]; rfl
     refine pure_ (i := 1) (N := some 35) (v := ?_) (a' := ?_) L2' rfl rfl (any_of HT_.out kZ) (fun _ _ _ h => h) (Or.inl ⟨by rfl, ?_⟩) ?_ ?_; rotate_left
     ·intro w'; go_simp; with_reducible rfl
     rotate_left
     ·simp only [Act.put, sZ1, sZ2, sZ3, i64_w, i32_w]; rfl
     refine pure_ (i := 2) (N := some 36) (v := ?_) (a' := ?_) L3' rfl rfl (any_of HT_.out kZ) (fun _ _ _ h => h) (Or.inl ⟨by rfl, ?_⟩) ?_ ?_; rotate_left
     ·intro w'; go_simp; with_reducible rfl
     rotate_left
     ·simp only [Act.put, sZ1, sZ2, sZ3, i64_w, i32_w]; rfl
     refine pure_ (i := 3) (N := some 37) (v := undef) (a' := ?_) L4' rfl rfl (any_of HT_.out kZ) (fun _ _ _ h => h) (Or.inr ⟨by rfl, rfl⟩) ?_ ?_; rotate_left
     ·simp only [Act.put, sZ1, sZ2, sZ3, i64_w, i32_w]; rfl
     refine pure_ (i := 4) (N := some 38) (v := undef) (a' := ?_) L5' rfl rfl (any_of HT_.out kZ) (fun _ _ _ h => h) (Or.inr ⟨by rfl, rfl⟩) ?_ ?_; rotate_left
     ·simp only [Act.put, sZ1, sZ2, sZ3, i64_w, i32_w]; rfl
     refine pure_ (i := 5) (N := some 39) (v := ?_) (a' := ?_) L6' rfl rfl (any_of HT_.out kZ) (fun _ _ _ h => h) (Or.inl ⟨by rfl, ?_⟩) ?_ ?_; rotate_left
     ·intro w'; go_simp; with_reducible rfl
     rotate_left
     ·simp only [Act.put, sZ1, sZ2, sZ3, i64_w, i32_w]; rfl
     refine pure_ (i := 6) (N := some 40) (v := ?_) (a' := ?_) L7' rfl rfl (any_of HT_.out kZ) (fun _ _ _ h => h) (Or.inl ⟨by rfl, ?_⟩) ?_ ?_; rotate_left
     ·intro w'; go_simp; with_reducible rfl
     rotate_left
     ·simp only [Act.put, sZ1, sZ2, sZ3, i64_w, i32_w]; rfl
     refine pure_ (i := 7) (N := some 41) (v := undef) (a' := ?_) L8' rfl rfl (any_of HT_.out kZ) (fun _ _ _ h => h) (Or.inr ⟨by rfl, rfl⟩) ?_ ?_; rotate_left
     ·simp only [Act.put, sZ1, sZ2, sZ3, i64_w, i32_w]; rfl
     refine pure_ (i := 8) (N := some 42) (v := undef) (a' := ?_) L9' rfl rfl (any_of HT_.out kZ) (fun _ _ _ h => h) (Or.inr ⟨by rfl, rfl⟩) ?_ ?_; rotate_left
     ·simp only [Act.put, sZ1, sZ2, sZ3, i64_w, i32_w]; rfl
     refine pure_ (i := 9) (N := some 43) (v := undef) (a' := ?_) L10' rfl rfl (any_of HT_.out kZ) (fun _ _ _ h => h) (Or.inr ⟨by rfl, rfl⟩) ?_ ?_; rotate_left
     ·simp only [Act.put, sZ1, sZ2, sZ3, i64_w, i32_w]; rfl
     refine pure_ (i := 10) (N := some 44) (v := undef) (a' := ?_) L11' rfl rfl (any_of HT_.out kZ) (fun _ _ _ h => h) (Or.inr ⟨by rfl, rfl⟩) ?_ ?_; rotate_left
     ·simp only [Act.put, sZ1, sZ2, sZ3, i64_w, i32_w]; rfl
     refine pure_ (i := 11) (N := some 45) (v := undef) (a' := ?_) L12' rfl rfl (any_of HT_.out kZ) (fun _ _ _ h => h) (Or.inr ⟨by rfl, rfl⟩) ?_ ?_; rotate_left
     ·simp only [Act.put, sZ1, sZ2, sZ3, i64_w, i32_w]; rfl
     refine pure_ (i := 12) (N := some 46) (v := undef) (a' := ?_) L13' rfl rfl (any_of HT_.out kZ) (fun _ _ _ h => h) (Or.inr ⟨by rfl, rfl⟩) ?_ ?_; rotate_left
     ·simp only [Act.put, sZ1, sZ2, sZ3, i64_w, i32_w]; rfl
     refine pure_ (i := 13) (N := some 47) (v := ?_) (a' := ?_) L14' rfl rfl (any_of HT_.out kZ) (fun _ _ _ h => h) (Or.inl ⟨by rfl, ?_⟩) ?_ ?_; rotate_left
     ·intro w'; go_simp; with_reducible rfl
     rotate_left
     ·simp only [Act.put, sZ1, sZ2, sZ3, i64_w, i32_w]; rfl
     refine done_ (done_of HT_.out kZ) ?_
     try go_wp2
     go_meet
     case rel => exact ⟨_, (true), tZB, H', ⟨by have := HJ1.out; first | omega | exact Nat.le_refl _⟩, ⟨lZR HO269.out⟩, ⟨bkZ BK266.out⟩, ⟨bZ⟩⟩
    subst c17; rw [if_pos rfl] at H
    by_cases c18 : t271 < 0
    ·rw [if_pos c18] at H; have c18b0 := decide_eq_true c18; clear c18; (first | rw [c18b0] | (simp only [i64_w, i32_w]; rw [c18b0]) | skip); have H' := Aside0.mk H; clear H
     try go_wp2
     (try (rw [drewN_self w15]; generalize hq_ : World.drewN w15 _ = w15; replace HO269 : Aside0 (Kd.R Kd.string 9 w15 w.heap.size (fun _ => True) (.slice (some ad270) t267.length co16) t267) := ⟨by rw [← hq_]; exact (lZR HO269.out)⟩; replace BK266 : Aside0 (w15.heap[gb266]? = some (.cells #[.int .i64 0, .slice none 0 0] 51 (0, 0))) := ⟨by rw [← hq_]; exact (bkZ BK266.out)⟩; replace HB : Aside0 (Below w.heap.size w w15) := ⟨by rw [← hq_]; exact bZ⟩; clear hq_)); replace HO269 := aZ (Kd.R_drew HO269.out); replace BK266 := aZ (blk_drew BK266.out); replace HB := aZ (below_drew1 HB.out); refine start_ (n := 14) (S := fun w' => True) (ds := []) L0' kZ rfl rfl trivial (fun hHeld => ?_); refine with_tabW impl_readStep.tab7 impl_readStep.bits7 (fun HT_ HW_ => ?_); generalize w15.drew = w19 at HO269 BK266 HB hHeld ⊢
     refine pure_ (i := 0) (N := some 34) (v := ?_) (a' := ?_) L1' rfl rfl (any_of HT_.out kZ) (fun _ _ _ h => h) (Or.inl ⟨by rfl, ?_⟩) ?_ ?_; rotate_left
     ·intro w'; go_simp; with_reducible rfl
     rotate_left
     ·simp only [Act.put, sZ1, sZ2, sZ3, i64_w, i32_w]; rfl
     refine pure_ (i := 1) (N := some 35) (v := ?_) (a' := ?_) L2' rfl rfl (any_of HT_.out kZ) (fun _ _ _ h => h) (Or.inl ⟨by rfl, ?_⟩) ?_ ?_; rotate_left
     ·intro w'; go_simp; with_reducible rfl
     rotate_left
     ·simp only [Act.put, sZ1, sZ2, sZ3, i64_w, i32_w]; rfl
     refine pure_ (i := 2) (N := some 36) (v := ?_) (a' := ?_) L3' rfl rfl (any_of HT_.out kZ) (fun _ _ _ h => h) (Or.inl ⟨by rfl, ?_⟩) ?_ ?_; rotate_left
     ·intro w'; go_simp; with_reducible rfl
     rotate_left
     ·simp only [Act.put, sZ1, sZ2, sZ3, i64_w, i32_w]; rfl
     refine pure_ (i := 3) (N := some 37) (v := ?_) (a' := ?_) L4' rfl rfl (any_of HT_.out kZ) (fun _ _ _ h => h) (Or.inl ⟨by rfl, ?_⟩) ?_ ?_; rotate_left
     ·intro w'; go_simp; with_reducible rfl
     rotate_left
     ·simp only [Act.put, sZ1, sZ2, sZ3, i64_w, i32_w]; rfl
     refine pure_ (i := 4) (N := some 38) (v := ?_) (a' := ?_) L5' rfl rfl (any_of HT_.out kZ) (fun _ _ _ h => h) (Or.inl ⟨by rfl, ?_⟩) ?_ ?_; rotate_left
     ·intro w'; go_simp; with_reducible rfl
     rotate_left
     ·simp only [Act.put, sZ1, sZ2, sZ3, i64_w, i32_w]; rfl
     refine pure_ (i := 5) (N := some 39) (v := ?_) (a' := ?_) L6' rfl rfl (any_of HT_.out kZ) (fun _ _ _ h => h) (Or.inl ⟨by rfl, ?_⟩) ?_ ?_; rotate_left
     ·intro w'; go_simp; with_reducible rfl
     rotate_left
     ·simp only [Act.put, sZ1, sZ2, sZ3, i64_w, i32_w]; rfl
     refine pure_ (i := 6) (N := some 40) (v := ?_) (a' := ?_) L7' rfl rfl (any_of HT_.out kZ) (fun _ _ _ h => h) (Or.inl ⟨by rfl, ?_⟩) ?_ ?_; rotate_left
     ·intro w'; go_simp; with_reducible rfl
     rotate_left
     ·simp only [Act.put, sZ1, sZ2, sZ3, i64_w, i32_w]; rfl
     refine pure_ (i := 7) (N := some 41) (v := undef) (a' := ?_) L8' rfl rfl (any_of HT_.out kZ) (fun _ _ _ h => h) (Or.inr ⟨by rfl, rfl⟩) ?_ ?_; rotate_left
     ·simp only [Act.put, sZ1, sZ2, sZ3, i64_w, i32_w]; rfl
     refine pure_ (i := 8) (N := some 42) (v := undef) (a' := ?_) L9' rfl rfl (any_of HT_.out kZ) (fun _ _ _ h => h) (Or.inr ⟨by rfl, rfl⟩) ?_ ?_; rotate_left
     ·simp only [Act.put, sZ1, sZ2, sZ3, i64_w, i32_w]; rfl
     refine pure_ (i := 9) (N := some 43) (v := undef) (a' := ?_) L10' rfl rfl (any_of HT_.out kZ) (fun _ _ _ h => h) (Or.inr ⟨by rfl, rfl⟩) ?_ ?_; rotate_left
     ·simp only [Act.put, sZ1, sZ2, sZ3, i64_w, i32_w]; rfl
     refine pure_ (i := 10) (N := some 44) (v := undef) (a' := ?_) L11' rfl rfl (any_of HT_.out kZ) (fun _ _ _ h => h) (Or.inr ⟨by rfl, rfl⟩) ?_ ?_; rotate_left
     ·simp only [Act.put, sZ1, sZ2, sZ3, i64_w, i32_w]; rfl
     refine pure_ (i := 11) (N := some 45) (v := undef) (a' := ?_) L12' rfl rfl (any_of HT_.out kZ) (fun _ _ _ h => h) (Or.inr ⟨by rfl, rfl⟩) ?_ ?_; rotate_left
     ·simp only [Act.put, sZ1, sZ2, sZ3, i64_w, i32_w]; rfl
     refine pure_ (i := 12) (N := some 46) (v := undef) (a' := ?_) L13' rfl rfl (any_of HT_.out kZ) (fun _ _ _ h => h) (Or.inr ⟨by rfl, rfl⟩) ?_ ?_; rotate_left
     ·simp only [Act.put, sZ1, sZ2, sZ3, i64_w, i32_w]; rfl
     refine pure_ (i := 13) (N := some 47) (v := ?_) (a' := ?_) L14' rfl rfl (any_of HT_.out kZ) (fun _ _ _ h => h) (Or.inl ⟨by rfl, ?_⟩) ?_ ?_; rotate_left
     ·intro w'; go_simp; with_reducible rfl
     rotate_left
     ·simp only [Act.put, sZ1, sZ2, sZ3, i64_w, i32_w]; rfl
     refine done_ (done_of HT_.out kZ) ?_
     try go_wp2
     go_meet
     case rel => exact ⟨_, (true), tZB, H', ⟨by have := HJ1.out; first | omega | exact Nat.le_refl _⟩, ⟨lZR HO269.out⟩, ⟨bkZ BK266.out⟩, ⟨bZ⟩⟩
    rw [if_neg c18] at H; have c18b0 := decide_eq_false c18; clear c18; (first | rw [c18b0] | (simp only [i64_w, i32_w]; rw [c18b0]) | skip); replace H := Option.bind_eq_some_iff.mp H; obtain ⟨t273, A200, H⟩ := H; replace H : (impl_readStep.j1 kj1 t267 t271 (t273.toList != (rdOf ByteArray.empty t267 0).toList)) = some (r1, r2, r3) := H; have A20 := Aside0.mk A200; clear A200; have H' := Aside0.mk H; clear H
    try go_wp2
    (try (rw [drewN_self w15]; generalize hq_ : World.drewN w15 _ = w15; replace HO269 : Aside0 (Kd.R Kd.string 9 w15 w.heap.size (fun _ => True) (.slice (some ad270) t267.length co16) t267) := ⟨by rw [← hq_]; exact (lZR HO269.out)⟩; replace BK266 : Aside0 (w15.heap[gb266]? = some (.cells #[.int .i64 0, .slice none 0 0] 51 (0, 0))) := ⟨by rw [← hq_]; exact (bkZ BK266.out)⟩; replace HB : Aside0 (Below w.heap.size w w15) := ⟨by rw [← hq_]; exact bZ⟩; clear hq_)); replace HO269 := aZ (Kd.R_drew HO269.out); replace BK266 := aZ (blk_drew BK266.out); replace HB := aZ (below_drew1 HB.out); have p274 : 0 ≤ (0 : Int) := (by omega); have q274 : 0 < (t267.length : Int) := of_decide_eq_true tZE; obtain ⟨ad274, e274, hx274_0⟩ := Kd.at_string (Kd.R_reads' HO269.out).2.2 0 p274 q274; obtain rfl : ad270 = ad274 := (by injection e274); have qi274 : (0 < t267.length) = True := eq_true (by omega)
    (try rw [show ((0 : Int)).toNat = 0 from rfl] at hx274_0); (try rw [Addr.add_zero'] at hx274_0); replace p274 := eq_true p274; replace q274 := eq_true q274; refine start_ (n := 14) (S := fun w' => w'.cell? ad270 = some (.string (rdOf ByteArray.empty t267 0))) (ds := []) L0' kZ rfl rfl (hx274_0) (fun hHeld => ?_); refine with_tabW impl_readStep.tab7 impl_readStep.bits7 (fun HT_ HW_ => ?_); generalize w15.drew = w21 at HO269 BK266 HB hx274_0 hHeld ⊢; refine pure_ (i := 0) (N := some 34) (v := ?_) (a' := ?_) L1' rfl rfl (any_of HT_.out kZ) (fun _ _ _ h => h) (Or.inl ⟨by rfl, ?_⟩) ?_ ?_; rotate_left
    ·intro w'; go_simp; with_reducible rfl
    rotate_left
    ·simp only [Act.put, sZ1, sZ2, sZ3, i64_w, i32_w]; rfl
    refine pure_ (i := 1) (N := some 35) (v := ?_) (a' := ?_) L2' rfl rfl (any_of HT_.out kZ) (fun _ _ _ h => h) (Or.inl ⟨by rfl, ?_⟩) ?_ ?_; rotate_left
    ·intro w'; go_simp; with_reducible rfl
    rotate_left
    ·simp only [Act.put, sZ1, sZ2, sZ3, i64_w, i32_w]; rfl
    refine pure_ (i := 2) (N := some 36) (v := ?_) (a' := ?_) L3' rfl rfl (any_of HT_.out kZ) (fun _ _ _ h => h) (Or.inl ⟨by rfl, ?_⟩) ?_ ?_; rotate_left
    ·intro w'; go_simp; with_reducible rfl
    rotate_left
    ·simp only [Act.put, sZ1, sZ2, sZ3, i64_w, i32_w]; rfl
    refine pure_ (i := 3) (N := some 37) (v := ?_) (a' := ?_) L4' rfl rfl (any_of HT_.out kZ) (fun _ _ _ h => h) (Or.inl ⟨by rfl, ?_⟩) ?_ ?_; rotate_left
    ·intro w'; go_simp; with_reducible rfl
    rotate_left
    ·simp only [Act.put, sZ1, sZ2, sZ3, i64_w, i32_w]; rfl
    refine pure_ (i := 4) (N := some 38) (v := ?_) (a' := ?_) L5' rfl rfl (any_of HT_.out kZ) (fun _ _ _ h => h) (Or.inl ⟨by rfl, ?_⟩) ?_ ?_; rotate_left
    ·intro w'; go_simp; with_reducible rfl
    rotate_left
    ·simp only [Act.put, sZ1, sZ2, sZ3, i64_w, i32_w]; rfl
    refine pure_ (i := 5) (N := some 39) (v := ?_) (a' := ?_) L6' rfl rfl (any_of HT_.out kZ) (fun _ _ _ h => h) (Or.inl ⟨by rfl, ?_⟩) ?_ ?_; rotate_left
    ·intro w'; go_simp; with_reducible rfl
    rotate_left
    ·simp only [Act.put, sZ1, sZ2, sZ3, i64_w, i32_w]; rfl
    refine pure_ (i := 6) (N := some 40) (v := ?_) (a' := ?_) L7' rfl rfl (any_of HT_.out kZ) (fun _ _ _ h => h) (Or.inl ⟨by rfl, ?_⟩) ?_ ?_; rotate_left
    ·intro w'; go_simp; with_reducible rfl
    rotate_left
    ·simp only [Act.put, sZ1, sZ2, sZ3, i64_w, i32_w]; rfl
    refine pure_ (i := 7) (N := some 41) (v := ?_) (a' := ?_) L8' rfl rfl (any_of HT_.out kZ) (fun _ _ _ h => h) (Or.inl ⟨by rfl, ?_⟩) ?_ ?_; rotate_left
    ·intro w'; go_simp; with_reducible rfl
    rotate_left
    ·simp only [Act.put, sZ1, sZ2, sZ3, i64_w, i32_w]; rfl
    refine pure_ (i := 9) (N := some 43) (v := ?_) (a' := ?_) L15' rfl rfl (any_of HT_.out kZ) (fun _ _ _ h => h) (Or.inl ⟨by rfl, ?_⟩) ?_ ?_; rotate_left
    ·intro w'; go_simp; with_reducible rfl
    rotate_left
    ·simp only [Act.put, sZ1, sZ2, sZ3, i64_w, i32_w]; rfl
    refine pure_ (i := 10) (N := some 44) (v := ?_) (a' := ?_) L16' rfl rfl (any_of HT_.out kZ) (fun _ _ _ h => h) (Or.inl ⟨by rfl, ?_⟩) ?_ ?_; rotate_left
    ·intro w'; go_simp; with_reducible rfl
    rotate_left
    ·simp only [Act.put, sZ1, sZ2, sZ3, i64_w, i32_w]; rfl
    refine take_ (i := 11) (N := some 45) (v := ?_) (a' := ?_) L17' rfl rfl (take_ofW HT_.out HW_.out kZ) (fun _ _ _ h => h) (Or.inl ⟨by rfl, ?_⟩) hHeld ?_ ?_; rotate_left
    ·intro w' s0; go_simp; with_reducible rfl
    rotate_left
    ·simp only [Act.put, sZ1, sZ2, sZ3, i64_w, i32_w]; rfl
    refine one_ (i := 8) (N := some 42) L12' rfl rfl (one_of HT_.out kZ) (by decide) (fun K hK => ?_); refine goes_ Try.func53 kZ rfl #[.int .i64 t271, .int .i64 2] (by rfl) rfl rfl tZA ?_
    with_reducible refine (impl_ShowMoney.calls kj1 t271 2 t273 _ A20.out).mono ?_
    rintro e w22 ⟨rfl, hb⟩
    have HS0_ := (hb.cell (World.block_lt_of_cell? _ _ (hHeld))).trans (hHeld); refine ⟨_, rfl, ?_⟩; replace HO269 := aZ (Kd.R_below (lZR HO269.out) hb); replace BK266 := aZ (blk_below (bkZ BK266.out) hb); replace HB := aZ (below_step bZ hb); (try clear hb); (try clear hb2); (try clear hk); (try clear hi); refine hK.out _ _ (HS0_) (fun hHeld => ?_); clear hK K; refine norm_ (a' := ?_) ?_ ?_; rotate_left
    ·show Act.put _ (some 42) _ = _
     simp only [Act.put, sZ1, sZ2, sZ3, i64_w, i32_w]; rfl
    refine pure_ (i := 12) (N := some 46) (v := ?_) (a' := ?_) L13' rfl rfl (any_of HT_.out kZ) (fun _ _ _ h => h) (Or.inl ⟨by rfl, ?_⟩) ?_ ?_; rotate_left
    ·intro w'; go_simp; with_reducible rfl
    rotate_left
    ·simp only [Act.put, sZ1, sZ2, sZ3, i64_w, i32_w]; rfl
    refine pure_ (i := 13) (N := some 47) (v := ?_) (a' := ?_) L14' rfl rfl (any_of HT_.out kZ) (fun _ _ _ h => h) (Or.inl ⟨by rfl, ?_⟩) ?_ ?_; rotate_left
    ·intro w'; go_simp; with_reducible rfl
    rotate_left
    ·simp only [Act.put, sZ1, sZ2, sZ3, i64_w, i32_w]; rfl
    refine done_ (done_of HT_.out kZ) ?_
    try go_wp2
    go_meet
    case rel => exact ⟨_, ((t273.toList != (rdOf ByteArray.empty t267 0).toList)), tZB, H', ⟨by have := HJ1.out; first | omega | exact Nat.le_refl _⟩, ⟨lZR HO269.out⟩, ⟨bkZ BK266.out⟩, ⟨bZ⟩⟩
   case rest =>
    clear HC14; (try clear c7 c9 c9b0 c9b1 c11 c11b0 c11b1 c12 c12b0 c12b1 hx270_0 p270 q270); obtain ⟨kq, x47_13, rfl, HA, HJ13, HO_4, BK266, HB⟩ := hcut
    cases kq with
    | zero => exact absurd HA.out (by simp [impl_readStep.j1])
    | succ kj13 =>
     have H := HA.out; clear HA; simp only [impl_readStep.j1] at H
     by_cases c24 : x47_13 = true
     ·subst c24; rw [if_pos rfl] at H; simp only [Option.some.injEq, Prod.mk.injEq] at H; obtain ⟨rfl, rfl, rfl⟩ := H; obtain ⟨hcz25_0, hcz25_1, hfz25_0, hfz25_1⟩ := bc2 BK266.out; go_wp2; refine bodyPost_ret (results_ct rfl _ _ gb266 51 #[.int .i64 0, .slice none 0 0] (0, 0) _ rfl (by (with_reducible repeat (first | refine blk_drewN ?_ _ | refine blk_drew ?_ | refine blk_alloc ?_ _)); refine blk_put (cs := #[.int .i64 0, .slice none 0 0]) ?_ 1 _ rfl; (with_reducible repeat (first | refine blk_drewN ?_ _ | refine blk_drew ?_ | refine blk_alloc ?_ _)); refine blk_put (cs := #[.int .i64 0, .slice none 0 0]) ?_ 0 _ rfl; (with_reducible repeat (first | refine blk_drewN ?_ _ | refine blk_drew ?_ | refine blk_alloc ?_ _)); exact BK266.out) Try.underlying51 rfl kZ) rfl ?_
      exact ⟨_, tZC, by first | exact Kd.R_nil _ _ _ _ _ | exact Kd.N_nil _ _ _ _ _ | exact Kd.V_nil _ _ _ _ _ | exact Kd.Q_nil _ _ _ _ _ | exact Kd.S_nil _ _ _ _ _, bZ⟩
     replace c24 := Bool.eq_false_iff.mpr c24; subst c24; rw [if_neg Bool.false_ne_true] at H
     by_cases c26 : 1 < (t267.length : Int)
     rotate_left
     ·rw [if_neg c26] at H; exact absurd H (by simp)
     rw [if_pos c26] at H; have c26b0 := decide_eq_true c26; have c26b1 : decide (1 < t267.length) = true := decide_eq_true (by omega); clear c26; replace H := Option.bind_eq_some_iff.mp H; obtain ⟨t276, A270, H⟩ := H; replace H : (if (t276.length : Int) > 8 then (some (0, ([] : List ByteArray), false)) else (impl_readStep.l0 kj13 t271 t276 (([] : List ((ByteArray × Bool)))) t276 (t276.length : Int) 0)) = some (r1, r2, r3) := H; have A27 := Aside0.mk A270; clear A270
     by_cases c28 : (t276.length : Int) > 8
     ·rw [if_pos c28] at H; have c28b0 : decide (8 < (t276.length : Int)) = true := decide_eq_true c28; have c28b1 : decide (8 < t276.length) = true := decide_eq_true (by omega); clear c28; simp only [Option.some.injEq, Prod.mk.injEq] at H; obtain ⟨rfl, rfl, rfl⟩ := H; have p275 : 0 ≤ (1 : Int) := (by omega); have q275 : 1 < (t267.length : Int) := of_decide_eq_true tZE; obtain ⟨ad275, e275, hx275_0⟩ := Kd.at_string (Kd.R_reads' HO_4.out).2.2 1 p275 q275; obtain rfl : ad270 = ad275 := (by injection e275); (try simp only [show (1 : Int).toNat = 1 from rfl, Nat.reduceMul, Nat.reduceEqDiff, Go.Addr.add, ↓reduceIte] at hx275_0); have qi275 : (1 < t267.length) = True := eq_true (by omega); (try rw [show ((1 : Int)).toNat = 1 from rfl] at hx275_0); replace p275 := eq_true p275; replace q275 := eq_true q275
      go_wp2_with (first | ((with_reducible refine gate_callee (f := 78) rfl ?_); refine goesL_ (some 52) rfl rfl Try.func78 kZ rfl #[.string (rdOf ByteArray.empty t267 1), .string (⟨#[44, 32]⟩ : ByteArray)] rfl tZA ?_; (with_reducible refine (impl_cutAt.calls kj13 (rdOf ByteArray.empty t267 1) (⟨#[44, 32]⟩ : ByteArray) t276 _ A27.out).mono ?_); rintro e w29 ⟨v277, rfl, ho0, hb⟩; refine ⟨_, rfl, ?_⟩; have HO278 := aZ (Kd.R_lower (Kd.R_new' ho0 (Kd.R_lt (lZR HO_4.out))) (below_size bZ)); replace HO_4 := aZ (Kd.R_elder' (lZR HO_4.out) (Kd.R_base ho0) hb); replace BK266 := aZ (blk_below (bkZ BK266.out) hb); replace HB := aZ (below_step bZ hb); (try clear hb); (try clear hb2); (try clear hk); (try clear hi); (try clear ho0); obtain ⟨Ao30, co30, eo30⟩ := Kd.R_slice HO278.out; subst eo30; obtain ⟨hcz31_0, hcz31_1, hfz31_0, hfz31_1⟩ := bc2 BK266.out))
      refine bodyPost_ret (results_ct rfl _ _ gb266 51 #[.int .i64 0, .slice none 0 0] (0, 0) _ rfl (by (with_reducible repeat (first | refine blk_drewN ?_ _ | refine blk_drew ?_ | refine blk_alloc ?_ _)); refine blk_put (cs := #[.int .i64 0, .slice none 0 0]) ?_ 1 _ rfl; (with_reducible repeat (first | refine blk_drewN ?_ _ | refine blk_drew ?_ | refine blk_alloc ?_ _)); refine blk_put (cs := #[.int .i64 0, .slice none 0 0]) ?_ 0 _ rfl; (with_reducible repeat (first | refine blk_drewN ?_ _ | refine blk_drew ?_ | refine blk_alloc ?_ _)); exact BK266.out) Try.underlying51 rfl kZ) rfl ?_; exact ⟨_, tZC, by first | exact Kd.R_nil _ _ _ _ _ | exact Kd.N_nil _ _ _ _ _ | exact Kd.V_nil _ _ _ _ _ | exact Kd.Q_nil _ _ _ _ _ | exact Kd.S_nil _ _ _ _ _, bZ⟩
     rw [if_neg c28] at H; have c28b0 : decide (8 < (t276.length : Int)) = false := decide_eq_false c28; have c28b1 : decide (8 < t276.length) = false := decide_eq_false (by omega); clear c28; obtain ⟨y279, hy279⟩ : ∃ y_ : List ((ByteArray × Bool)), y_ = (([] : List ((ByteArray × Bool)))) := ⟨_, rfl⟩; replace H : (impl_readStep.l0 kj13 t271 t276 y279 t276 (t276.length : Int) 0) = some (r1, r2, r3) := by first | (rw [hy279]; with_reducible exact H) | (have H2_ := (Option.bind_some _ _).symm.trans H; rw [hy279]; with_reducible exact H2_) | (have H2_ := (Option.bind_some _ _).symm.trans H; with_reducible exact H2_) | with_reducible exact H | (rw [hy279]; exact H) | exact H
     have Ny279 := Aside0.mk hy279; clear hy279; have H' := Aside0.mk H; clear H; have p275 : 0 ≤ (1 : Int) := (by omega); have q275 : 1 < (t267.length : Int) := of_decide_eq_true tZE; obtain ⟨ad275, e275, hx275_0⟩ := Kd.at_string (Kd.R_reads' HO_4.out).2.2 1 p275 q275; obtain rfl : ad270 = ad275 := (by injection e275); (try simp only [show (1 : Int).toNat = 1 from rfl, Nat.reduceMul, Nat.reduceEqDiff, Go.Addr.add, ↓reduceIte] at hx275_0); have qi275 : (1 < t267.length) = True := eq_true (by omega); (try rw [show ((1 : Int)).toNat = 1 from rfl] at hx275_0); replace p275 := eq_true p275; replace q275 := eq_true q275
     go_wp2_with (first | ((with_reducible refine gate_callee (f := 78) rfl ?_); refine goesL_ (some 52) rfl rfl Try.func78 kZ rfl #[.string (rdOf ByteArray.empty t267 1), .string (⟨#[44, 32]⟩ : ByteArray)] rfl tZA ?_; (with_reducible refine (impl_cutAt.calls kj13 (rdOf ByteArray.empty t267 1) (⟨#[44, 32]⟩ : ByteArray) t276 _ A27.out).mono ?_); rintro e w32 ⟨v277, rfl, ho0, hb⟩; refine ⟨_, rfl, ?_⟩; have HO278 := aZ (Kd.R_lower (Kd.R_new' ho0 (Kd.R_lt (lZR HO_4.out))) (below_size bZ)); replace HO_4 := aZ (Kd.R_elder' (lZR HO_4.out) (Kd.R_base ho0) hb); replace BK266 := aZ (blk_below (bkZ BK266.out) hb); replace HB := aZ (below_step bZ hb); (try clear hb); (try clear hb2); (try clear hk); (try clear hi); (try clear ho0); obtain ⟨Ao33, co33, eo33⟩ := Kd.R_slice HO278.out; subst eo33) | ((with_reducible refine gate_dst (N := 57) rfl ?_); refine Kd.Y_make my116 116 rfl rfl rfl ?_; intro v280 w34 ho35 hb; rw [← Ny279.out] at ho35; replace HO_4 := aZ (Kd.R_below (lZR HO_4.out) hb); replace HO278 := aZ (Kd.R_below (lZR HO278.out) hb); have HO281 := aZ (Kd.Y_lower ho35 (below_size bZ)); replace BK266 := aZ (blk_below (bkZ BK266.out) hb); replace HB := aZ (below_step bZ hb); clear hb ho35))
     go_loopg [60] kj13 (fun kq v60 w' => ∃ (x8_3 : List ((ByteArray × Bool))) (x60_3 : Int) (x267000_3 : Int), v60 = .int .i64 x60_3 ∧ Aside0 (impl_readStep.l0 kq t271 t276 x8_3 t276 (t276.length : Int) x60_3 = some (r1, r2, r3)) ∧ Aside0 (kq ≤ kj13) ∧ Aside0 (Kd.R Kd.string 9 w' w.heap.size (fun _ => True) (.slice Ao33 t276.length co33) t276) ∧ Aside0 (Kd.Y my116 116 w' w.heap.size (fun _ => True) v280 x8_3) ∧ Aside0 (Kd.R Kd.string 9 w' w.heap.size (fun _ => True) (.slice Ao33 t276.length co33) t276) ∧ Aside0 (w'.heap[gb266]? = some (.cells #[.int .i64 x267000_3, (.slice none 0 0)] 51 (0, 0))) ∧ Aside0 (Below w.heap.size w w'))
     case atStart => exact ⟨(y279), (0), (0), tZB, H', ⟨Nat.le_refl _⟩, ⟨by (with_reducible repeat (first | apply Kd.R_alloc | apply Kd.R_drewN | apply Kd.R_drew)); exact Kd.R_mono HO278.out (fun _ hk => trivial)⟩, ⟨lZY HO281.out⟩, ⟨by (with_reducible repeat (first | apply Kd.R_alloc | apply Kd.R_drewN | apply Kd.R_drew)); exact Kd.R_mono HO278.out (fun _ hk => trivial)⟩, ⟨bkZ BK266.out⟩, ⟨bZ⟩⟩
     case round =>
      clear H'; (try clear c7 c9 c9b0 c9b1 c11 c11b0 c11b1 c12 c12b0 c12b1 c24 c26 c26b0 c26b1 c28 c28b0 c28b1 hx270_0 hx275_0 p270 p275 q270 q275); obtain ⟨x8_3, x60_3, x267000_3, rfl, HA, HK3, HO_7, HO_8, HO_58, BK266, HB⟩ := hrel
      cases gk with
      | zero => exact absurd HA.out (by simp [impl_readStep.l0])
      | succ k3 =>
       have H := HA.out; clear HA; simp only [impl_readStep.l0] at H
       by_cases c36 : x60_3 < (t276.length : Int)
       rotate_left
       ·rw [if_neg c36] at H; have c36b0 := decide_eq_false c36; clear c36; simp only [Option.some.injEq, Prod.mk.injEq] at H; obtain ⟨rfl, rfl, rfl⟩ := H; obtain ⟨hcz49_0, hcz49_1, hfz49_0, hfz49_1⟩ := bc2 BK266.out; go_wp2; refine bodyPost_ret (results_ct rfl _ _ gb266 51 #[.int .i64 t271, .slice Ao33 t276.length co33] (0, 0) _ rfl (by (with_reducible repeat (first | refine blk_drewN ?_ _ | refine blk_drew ?_ | refine blk_alloc ?_ _)); refine blk_put (cs := #[.int .i64 t271, .slice none 0 0]) ?_ 1 _ rfl; (with_reducible repeat (first | refine blk_drewN ?_ _ | refine blk_drew ?_ | refine blk_alloc ?_ _)); refine blk_put (cs := #[.int .i64 x267000_3, .slice none 0 0]) ?_ 0 _ rfl; (with_reducible repeat (first | refine blk_drewN ?_ _ | refine blk_drew ?_ | refine blk_alloc ?_ _)); exact BK266.out) Try.underlying51 rfl kZ) rfl ?_
        exact ⟨_, tZC, by (with_reducible repeat (first | apply Kd.R_alloc | apply Kd.R_drewN | apply Kd.R_drew)); exact Kd.R_mono (Kd.R_far (p := ⟨gb266, 1, none⟩) (Kd.R_far (p := ⟨gb266, 0, none⟩) (Kd.R_types HO_7.out BK266.out (by decide)) (fun _ hk => hk.2) (.int .i64 t271)) (fun _ hk => hk.2) (.slice Ao33 t276.length co33)) (fun _ hk => trivial), bZ⟩
       rw [if_pos c36] at H; have c36b0 := decide_eq_true c36; clear c36
       by_cases c37 : 0 ≤ x60_3
       rotate_left
       ·rw [if_neg c37] at H; exact absurd H (by simp)
       rw [if_pos c37] at H; have c37b0 := decide_eq_true c37; clear c37
       by_cases c38 : x60_3 < (t276.length : Int)
       rotate_left
       ·rw [if_neg c38] at H; exact absurd H (by simp)
       rw [if_pos c38] at H; have c38b0 := decide_eq_true c38; clear c38; replace H := Option.bind_eq_some_iff.mp H; obtain ⟨t283, A390, H⟩ := H; replace H : (if t283 = true then (if (rdOf ByteArray.empty t276 x60_3).size ≤ 9223372036854775807 then (if (mget false x8_3 (rdOf ByteArray.empty t276 x60_3)) = true then (some (0, ([] : List ByteArray), false)) else (if x8_3.length < 140737488355328 then (impl_readStep.l0 k3 t271 t276 ((rdOf ByteArray.empty t276 x60_3, true) :: x8_3) t276 (t276.length : Int) (wrap64 (x60_3 + 1))) else (none))) else (none)) else (some (0, ([] : List ByteArray), false))) = some (r1, r2, r3) := H; have A39 := Aside0.mk A390; clear A390
       by_cases c40 : t283 = true
       rotate_left
       ·replace c40 := Bool.eq_false_iff.mpr c40; subst c40; rw [if_neg Bool.false_ne_true] at H; simp only [Option.some.injEq, Prod.mk.injEq] at H; obtain ⟨rfl, rfl, rfl⟩ := H; have p282 : 0 ≤ (x60_3 : Int) := of_decide_eq_true tZE; have q282 : x60_3 < (t276.length : Int) := of_decide_eq_true tZE; obtain ⟨ad282, e282, hx282_0⟩ := Kd.at_string (Kd.R_reads' HO_58.out).2.2 x60_3 p282 q282
        cases e282
        replace p282 := eq_true p282; replace q282 := eq_true q282
        go_wp2_with (first | ((with_reducible refine gate_callee (f := 80) rfl ?_); refine goesL_ (some 65) rfl rfl Try.func80 kZ rfl #[.string (rdOf ByteArray.empty t276 x60_3)] rfl tZA ?_; (with_reducible refine (impl_NameOk.calls k3 (rdOf ByteArray.empty t276 x60_3) false _ A39.out).mono ?_); rintro e w' ⟨rfl, ⟨nd, rfl⟩⟩; refine ⟨_, rfl, ?_⟩; (try (rw [drewN_self wr]; generalize hq_ : World.drewN wr _ = wr; replace HO_58 : Aside0 (Kd.R Kd.string 9 wr w.heap.size (fun _ => True) (.slice (some ad282) t276.length co33) t276) := ⟨by rw [← hq_]; exact (lZR HO_58.out)⟩; replace HO_7 : Aside0 (Kd.R Kd.string 9 wr w.heap.size (fun _ => True) (.slice (some ad282) t276.length co33) t276) := ⟨by rw [← hq_]; exact (lZR HO_7.out)⟩; replace HO_8 : Aside0 (Kd.Y my116 116 wr w.heap.size (fun _ => True) v280 x8_3) := ⟨by rw [← hq_]; exact (lZY HO_8.out)⟩; replace BK266 : Aside0 (wr.heap[gb266]? = some (.cells #[.int .i64 x267000_3, .slice none 0 0] 51 (0, 0))) := ⟨by rw [← hq_]; exact (bkZ BK266.out)⟩; replace HB : Aside0 (Below w.heap.size w wr) := ⟨by rw [← hq_]; exact bZ⟩; clear hq_)); obtain ⟨hcz48_0, hcz48_1, hfz48_0, hfz48_1⟩ := bc2 BK266.out))
        refine bodyPost_ret (results_ct rfl _ _ gb266 51 #[.int .i64 0, .slice none 0 0] (0, 0) _ rfl (by (with_reducible repeat (first | refine blk_drewN ?_ _ | refine blk_drew ?_ | refine blk_alloc ?_ _)); refine blk_put (cs := #[.int .i64 0, .slice none 0 0]) ?_ 1 _ rfl; (with_reducible repeat (first | refine blk_drewN ?_ _ | refine blk_drew ?_ | refine blk_alloc ?_ _)); refine blk_put (cs := #[.int .i64 x267000_3, .slice none 0 0]) ?_ 0 _ rfl; (with_reducible repeat (first | refine blk_drewN ?_ _ | refine blk_drew ?_ | refine blk_alloc ?_ _)); exact BK266.out) Try.underlying51 rfl kZ) rfl ?_; exact ⟨_, tZC, by first | exact Kd.R_nil _ _ _ _ _ | exact Kd.N_nil _ _ _ _ _ | exact Kd.V_nil _ _ _ _ _ | exact Kd.Q_nil _ _ _ _ _ | exact Kd.S_nil _ _ _ _ _, bZ⟩
       subst c40; rw [if_pos rfl] at H
       by_cases c41 : (rdOf ByteArray.empty t276 x60_3).size ≤ 9223372036854775807
       rotate_left
       ·rw [if_neg c41] at H; exact absurd H (by simp)
       rw [if_pos c41] at H; have c41b0 := eq_true c41; have c41b1 := decide_eq_true c41
       try have c41b2 := eq_false (Nat.not_lt.2 c41)
       clear c41; obtain ⟨y284, hy284⟩ : ∃ y_ : Bool, y_ = (mget false x8_3 (rdOf ByteArray.empty t276 x60_3)) := ⟨_, rfl⟩; replace H : (if y284 = true then (some (0, ([] : List ByteArray), false)) else (if x8_3.length < 140737488355328 then (impl_readStep.l0 k3 t271 t276 ((rdOf ByteArray.empty t276 x60_3, true) :: x8_3) t276 (t276.length : Int) (wrap64 (x60_3 + 1))) else (none))) = some (r1, r2, r3) := by first | (rw [hy284]; with_reducible exact H) | (have H2_ := (Option.bind_some _ _).symm.trans H; rw [hy284]; with_reducible exact H2_) | (have H2_ := (Option.bind_some _ _).symm.trans H; with_reducible exact H2_) | with_reducible exact H | (rw [hy284]; exact H) | exact H
       have Ny284 := Aside0.mk hy284; clear hy284
       by_cases c42 : y284 = true
       ·subst c42; rw [if_pos rfl] at H; simp only [Option.some.injEq, Prod.mk.injEq] at H; obtain ⟨rfl, rfl, rfl⟩ := H; have p282 : 0 ≤ (x60_3 : Int) := of_decide_eq_true tZE; have q282 : x60_3 < (t276.length : Int) := of_decide_eq_true tZE; obtain ⟨ad282, e282, hx282_0⟩ := Kd.at_string (Kd.R_reads' HO_58.out).2.2 x60_3 p282 q282
        cases e282
        replace p282 := eq_true p282; replace q282 := eq_true q282
        go_wp2_with (first | ((with_reducible refine gate_callee (f := 80) rfl ?_); refine goesL_ (some 65) rfl rfl Try.func80 kZ rfl #[.string (rdOf ByteArray.empty t276 x60_3)] rfl tZA ?_; (with_reducible refine (impl_NameOk.calls k3 (rdOf ByteArray.empty t276 x60_3) true _ A39.out).mono ?_); rintro e w' ⟨rfl, ⟨nd, rfl⟩⟩; refine ⟨_, rfl, ?_⟩; (try (rw [drewN_self wr]; generalize hq_ : World.drewN wr _ = wr; replace HO_58 : Aside0 (Kd.R Kd.string 9 wr w.heap.size (fun _ => True) (.slice (some ad282) t276.length co33) t276) := ⟨by rw [← hq_]; exact (lZR HO_58.out)⟩; replace HO_7 : Aside0 (Kd.R Kd.string 9 wr w.heap.size (fun _ => True) (.slice (some ad282) t276.length co33) t276) := ⟨by rw [← hq_]; exact (lZR HO_7.out)⟩; replace HO_8 : Aside0 (Kd.Y my116 116 wr w.heap.size (fun _ => True) v280 x8_3) := ⟨by rw [← hq_]; exact (lZY HO_8.out)⟩; replace BK266 : Aside0 (wr.heap[gb266]? = some (.cells #[.int .i64 x267000_3, .slice none 0 0] 51 (0, 0))) := ⟨by rw [← hq_]; exact (bkZ BK266.out)⟩; replace HB : Aside0 (Below w.heap.size w wr) := ⟨by rw [← hq_]; exact bZ⟩; clear hq_)); have hcv43 := Kd.Y_get (e := 116) (HO_8.out) (rdOf ByteArray.empty t276 x60_3) (show okS _ from ((of_decide_eq_true tZE) : (rdOf ByteArray.empty t276 x60_3).size ≤ 9223372036854775807)); have hcv43d := fun n_ => Kd.Y_get (e := 116) (Kd.Y_drewN (HO_8.out) n_) (rdOf ByteArray.empty t276 x60_3) (show okS _ from ((of_decide_eq_true tZE) : (rdOf ByteArray.empty t276 x60_3).size ≤ 9223372036854775807)); have hcv43e := fun m_ n_ => Kd.Y_get (e := 116) (Kd.Y_drewN (Kd.Y_drewN (HO_8.out) m_) n_) (rdOf ByteArray.empty t276 x60_3) (show okS _ from ((of_decide_eq_true tZE) : (rdOf ByteArray.empty t276 x60_3).size ≤ 9223372036854775807)); simp only [my116, mkSB, mkSI, mkIB, mkII, mkPI, encPI] at hcv43 hcv43d hcv43e; rw [← Ny284.out] at hcv43 hcv43d hcv43e; obtain ⟨hcz44_0, hcz44_1, hfz44_0, hfz44_1⟩ := bc2 BK266.out))
        refine bodyPost_ret (results_ct rfl _ _ gb266 51 #[.int .i64 0, .slice none 0 0] (0, 0) _ rfl (by (with_reducible repeat (first | refine blk_drewN ?_ _ | refine blk_drew ?_ | refine blk_alloc ?_ _)); refine blk_put (cs := #[.int .i64 0, .slice none 0 0]) ?_ 1 _ rfl; (with_reducible repeat (first | refine blk_drewN ?_ _ | refine blk_drew ?_ | refine blk_alloc ?_ _)); refine blk_put (cs := #[.int .i64 x267000_3, .slice none 0 0]) ?_ 0 _ rfl; (with_reducible repeat (first | refine blk_drewN ?_ _ | refine blk_drew ?_ | refine blk_alloc ?_ _)); exact BK266.out) Try.underlying51 rfl kZ) rfl ?_; exact ⟨_, tZC, by first | exact Kd.R_nil _ _ _ _ _ | exact Kd.N_nil _ _ _ _ _ | exact Kd.V_nil _ _ _ _ _ | exact Kd.Q_nil _ _ _ _ _ | exact Kd.S_nil _ _ _ _ _, bZ⟩
       replace c42 := Bool.eq_false_iff.mpr c42; subst c42; rw [if_neg Bool.false_ne_true] at H
       by_cases c45 : x8_3.length < 140737488355328
       rotate_left
       ·rw [if_neg c45] at H; exact absurd H (by simp)
       rw [if_pos c45] at H; have LMc45 := Aside0.mk c45; clear c45; obtain ⟨y285, hy285⟩ : ∃ y_ : List ((ByteArray × Bool)), y_ = ((rdOf ByteArray.empty t276 x60_3, true) :: x8_3) := ⟨_, rfl⟩; replace H : (impl_readStep.l0 k3 t271 t276 y285 t276 (t276.length : Int) (wrap64 (x60_3 + 1))) = some (r1, r2, r3) := by first | (rw [hy285]; with_reducible exact H) | (have H2_ := (Option.bind_some _ _).symm.trans H; rw [hy285]; with_reducible exact H2_) | (have H2_ := (Option.bind_some _ _).symm.trans H; with_reducible exact H2_) | with_reducible exact H | (rw [hy285]; exact H) | exact H
       have Ny285 := Aside0.mk hy285; clear hy285; have H' := Aside0.mk H; clear H; have p282 : 0 ≤ (x60_3 : Int) := of_decide_eq_true tZE; have q282 : x60_3 < (t276.length : Int) := of_decide_eq_true tZE; obtain ⟨ad282, e282, hx282_0⟩ := Kd.at_string (Kd.R_reads' HO_58.out).2.2 x60_3 p282 q282
       cases e282
       replace p282 := eq_true p282; replace q282 := eq_true q282
       go_wp2_with (first | ((with_reducible refine gate_callee (f := 80) rfl ?_); refine goesL_ (some 65) rfl rfl Try.func80 kZ rfl #[.string (rdOf ByteArray.empty t276 x60_3)] rfl tZA ?_; (with_reducible refine (impl_NameOk.calls k3 (rdOf ByteArray.empty t276 x60_3) true _ A39.out).mono ?_); rintro e w' ⟨rfl, ⟨nd, rfl⟩⟩; refine ⟨_, rfl, ?_⟩; have hcv46 := Kd.Y_get (e := 116) (HO_8.out) (rdOf ByteArray.empty t276 x60_3) (show okS _ from ((of_decide_eq_true tZE) : (rdOf ByteArray.empty t276 x60_3).size ≤ 9223372036854775807)); have hcv46d := fun n_ => Kd.Y_get (e := 116) (Kd.Y_drewN (HO_8.out) n_) (rdOf ByteArray.empty t276 x60_3) (show okS _ from ((of_decide_eq_true tZE) : (rdOf ByteArray.empty t276 x60_3).size ≤ 9223372036854775807)); have hcv46e := fun m_ n_ => Kd.Y_get (e := 116) (Kd.Y_drewN (Kd.Y_drewN (HO_8.out) m_) n_) (rdOf ByteArray.empty t276 x60_3) (show okS _ from ((of_decide_eq_true tZE) : (rdOf ByteArray.empty t276 x60_3).size ≤ 9223372036854775807)); simp only [my116, mkSB, mkSI, mkIB, mkII, mkPI, encPI] at hcv46 hcv46d hcv46e; rw [← Ny284.out] at hcv46 hcv46d hcv46e) | ((with_reducible refine Kd.gate_mupd (t := 116) (p := (.tmp 73)) (x := (.tmp 74)) (y := (.const (.bool true))) rfl ?_); refine Kd.Y_put my116 (t := 116) (base := w.heap.size) (ok := (fun _ => True)) rfl rfl (.tmp 73) (.tmp 74) (.const (.bool true)) rfl rfl v280 x8_3 (rdOf ByteArray.empty t276 x60_3) true rfl (by first | rfl | (go_simp; done) | (go_simp; rfl)) (by first | rfl | (go_simp; done) | (go_simp; rfl)) ?aO (show okS _ from ((of_decide_eq_true tZE) : (rdOf ByteArray.empty t276 x60_3).size ≤ 9223372036854775807)) trivial LMc45.out ?_; (case aO => exact (lZY HO_8.out)); intro w47 ho hg; rw [← Ny285.out] at ho; replace HO_7 := aZ (Kd.R_turn (e := 116) (lZR HO_7.out) (lZY HO_8.out) hg); replace HO_58 := aZ (Kd.R_turn (e := 116) (lZR HO_58.out) (lZY HO_8.out) hg); replace BK266 := aZ (Kd.blk_turn (e := 116) (bkZ BK266.out) (lZY HO_8.out) hg); replace HB := aZ (Kd.below_turn (e := 116) (lZY HO_8.out) bZ (Nat.le_refl _) hg); have HO286 := aZ (ho); clear HO_8; clear ho hg))
       go_roundg k3
       case measure => have := HJ1.out; have := HJ13.out; have := HK3.out; omega
       case rel => exact ⟨(y285), (wrap64 (x60_3 + 1)), (x267000_3), tZB, H', ⟨by have := HJ1.out; have := HJ13.out; have := HK3.out; omega⟩, ⟨lZR HO_7.out⟩, ⟨lZY HO286.out⟩, ⟨lZR HO_58.out⟩, ⟨bkZ BK266.out⟩, ⟨bZ⟩⟩
end Go.Proofs.Ytfkakbpjddgmeaa.PFnFlowBack
