import Derived.Test.YtmpknbdbichdiaaLPFnExactLedgerOkx0
import Derived.Test.YtmpknbdbichdiaaLPFnExactLedgerOkx8
import Derived.Test.YtmpknbdbichdiaaLPFnExactLedgerOkx11
import Derived.Test.YtmpknbdbichdiaaLSlimWords
namespace Go.Proofs.Ytmpknbdbichdiaa.PFnExactLedgerOk
open Go.Proofs.Ytmpknbdbichdiaa.SlimWords
open Go.RowKit Go.Proofs.YtmpknbdbichdiaaW.PrintWords Go.Proofs.YtmpknbdbichdiaaW.PrintLast Go.Proofs.YtmpknbdbichdiaaW.PrintMore Go.Proofs.Ytmpknbdbichdiaa.MapWords Go.Proofs.Ytmpknbdbichdiaa.IterWords Go.Proofs.Ytmpknbdbichdiaa.MarkWords
attribute [local go_sem] max2_int min2_int max_two min_two max_three min_three max_four min_four
set_option linter.unusedVariables false
set_option linter.unusedSimpArgs false
private abbrev I' := true
private abbrev O' := false
private abbrev L0' : Array Bool := #[O',O',O',O',O',O',O',O',O',O',O']
private abbrev L1' : Array Bool := #[I',O',O',O',O',O',O',O',O',O',O']
private abbrev L2' : Array Bool := #[I',I',O',O',O',O',O',O',O',O',O']
private abbrev L3' : Array Bool := #[I',I',O',O',O',I',O',O',O',O',O']
private abbrev L4' : Array Bool := #[I',I',I',O',O',I',O',O',O',O',O']
private abbrev L5' : Array Bool := #[I',I',I',I',O',I',O',O',O',O',O']
private abbrev L6' : Array Bool := #[I',I',I',I',I',I',O',O',O',O',O']
private abbrev L7' : Array Bool := #[I',I',I',I',I',I',I',O',O',O',O']
private abbrev L8' : Array Bool := #[I',I',I',I',I',I',I',I',O',O',O']
private abbrev L9' : Array Bool := #[I',I',I',I',I',I',I',I',I',O',O']
private abbrev L10' : Array Bool := #[I',I',I',I',I',I',I',I',I',I',O']
private abbrev L11' : Array Bool := #[I',I',I',I',I',I',I',I',I',I',I']
mutual
def impl_entryIn.j0 : Nat → Bool → List (S222) → Int → Int → Int → Int → ByteArray → List (S107) → Option (Bool)
  | 0, _, _, _, _, _, _, _, _ => none
  | k + 1, x38, x278000, x278001, x278002, x279000, x279001, x279002, x279003 => if x38 = true then (some false) else (impl_entryIn.l0 k 0 x278000 x278001 x278002 x279000 x279001 x279002 x279003)
def impl_entryIn.l0 : Nat → Int → List (S222) → Int → Int → Int → Int → ByteArray → List (S107) → Option (Bool)
  | 0, _, _, _, _, _, _, _, _ => none
  | k + 1, x5, x278000, x278001, x278002, x279000, x279001, x279002, x279003 => if x5 < (x279002.size : Int) then (if 0 ≤ x5 then (if (bt x279002 x5) < 32 then (some false) else (impl_entryIn.l0 k (wrap64 (x5 + 1)) x278000 x278001 x278002 x279000 x279001 x279002 x279003)) else (none)) else (impl_entryIn.l1 k (([] : List (((Int × Int) × Int)))) x279003 (x279003.length : Int) 0 x278000 x278001 x278002)
def impl_entryIn.l1 : Nat → List (((Int × Int) × Int)) → List (S107) → Int → Int → List (S222) → Int → Int → Option (Bool)
  | 0, _, _, _, _, _, _, _ => none
  | k + 1, x6, x53, x54, x55, x278000, x278001, x278002 => if x55 < x54 then (if 0 ≤ x55 then (if x55 < (x53.length : Int) then ((impl_leafAt.f x278000 ((rd_T107 x53 x55).f0)).bind fun t286 => (if t286 = true then ((impl_between.f ((rd_T107 x53 x55).f1) 0 (wrap64 (x278001 - 1))).bind fun t287 => (if t287 = true then ((impl_between.f ((rd_T107 x53 x55).f2) 0 (wrap64 (x278002 - 1))).bind fun t288 => (if t288 = true then ((impl_amount.f ((rd_T107 x53 x55).f3)).bind fun t289 => (if t289 = true then ((impl_amount.f ((rd_T107 x53 x55).f4)).bind fun t290 => (if t290 = true then (if ((rd_T107 x53 x55).f2) = 0 then (if ((rd_T107 x53 x55).f3) = ((rd_T107 x53 x55).f4) then (if -9223372036854775808 ≤ ((rd_T107 x53 x55).f2) then (if ((rd_T107 x53 x55).f2) ≤ 9223372036854775807 then (if x6.length < 140737488355328 then ((some (((0, (rd_T107 x53 x55).f2), wrap64 ((mget 0 x6 (0, (rd_T107 x53 x55).f2)) + ((rd_T107 x53 x55).f3))) :: x6 : List (((Int × Int) × Int)))).bind fun y292 => (if -9223372036854775808 ≤ ((rd_T107 x53 x55).f1) then (if ((rd_T107 x53 x55).f1) ≤ 9223372036854775807 then (if y292.length < 140737488355328 then (impl_entryIn.l1 k (((1, (rd_T107 x53 x55).f1), wrap64 ((mget 0 y292 (1, (rd_T107 x53 x55).f1)) + ((rd_T107 x53 x55).f4))) :: y292) x53 x54 (wrap64 (x55 + 1)) x278000 x278001 x278002) else (none)) else (none)) else (none))) else (none)) else (none)) else (none)) else (some false)) else (if -9223372036854775808 ≤ ((rd_T107 x53 x55).f2) then (if ((rd_T107 x53 x55).f2) ≤ 9223372036854775807 then (if x6.length < 140737488355328 then ((some (((0, (rd_T107 x53 x55).f2), wrap64 ((mget 0 x6 (0, (rd_T107 x53 x55).f2)) + ((rd_T107 x53 x55).f3))) :: x6 : List (((Int × Int) × Int)))).bind fun y298 => (if -9223372036854775808 ≤ ((rd_T107 x53 x55).f1) then (if ((rd_T107 x53 x55).f1) ≤ 9223372036854775807 then (if y298.length < 140737488355328 then (impl_entryIn.l1 k (((1, (rd_T107 x53 x55).f1), wrap64 ((mget 0 y298 (1, (rd_T107 x53 x55).f1)) + ((rd_T107 x53 x55).f4))) :: y298) x53 x54 (wrap64 (x55 + 1)) x278000 x278001 x278002) else (none)) else (none)) else (none))) else (none)) else (none)) else (none))) else (some false))) else (some false))) else (some false))) else (some false))) else (some false))) else (none)) else (none)) else (if mall0 x6 = true then (some true) else (some false))
end
def impl_entryIn.f (k : Nat) (l0_0 : List (S222)) (a0_1 : Int) (a0_2 : Int) (a1_0 : Int) (a1_1 : Int) (a1_2 : ByteArray) (l1_3 : List (S107)) : Option (Bool) := (impl_isDay.f a1_0).bind fun t279 => (if t279 = true then ((impl_between.f a1_1 0 1000).bind fun t280 => (if t280 = true then (if (a1_2.size : Int) > 40 then (impl_entryIn.j0 k true l0_0 a0_1 a0_2 a1_0 a1_1 a1_2 l1_3) else (if (l1_3.length : Int) < 2 then (impl_entryIn.j0 k true l0_0 a0_1 a0_2 a1_0 a1_1 a1_2 l1_3) else (impl_entryIn.j0 k (decide ((l1_3.length : Int) > 60)) l0_0 a0_1 a0_2 a1_0 a1_1 a1_2 l1_3))) else (impl_entryIn.j0 k true l0_0 a0_1 a0_2 a1_0 a1_1 a1_2 l1_3))) else (impl_entryIn.j0 k true l0_0 a0_1 a0_2 a1_0 a1_1 a1_2 l1_3))
theorem impl_entryIn.mono_l : ∀ k, (∀ y0 y1 y2 y3 y4 y5 y6 y7, LeO (impl_entryIn.j0 k y0 y1 y2 y3 y4 y5 y6 y7) (impl_entryIn.j0 (k + 1) y0 y1 y2 y3 y4 y5 y6 y7)) ∧ (∀ y0 y1 y2 y3 y4 y5 y6 y7, LeO (impl_entryIn.l0 k y0 y1 y2 y3 y4 y5 y6 y7) (impl_entryIn.l0 (k + 1) y0 y1 y2 y3 y4 y5 y6 y7)) ∧ (∀ y0 y1 y2 y3 y4 y5 y6, LeO (impl_entryIn.l1 k y0 y1 y2 y3 y4 y5 y6) (impl_entryIn.l1 (k + 1) y0 y1 y2 y3 y4 y5 y6))
  | 0 => ⟨fun _ _ _ _ _ _ _ _ r h => by simp [impl_entryIn.j0] at h, fun _ _ _ _ _ _ _ _ r h => by simp [impl_entryIn.l0] at h, fun _ _ _ _ _ _ _ r h => by simp [impl_entryIn.l1] at h⟩
  | k + 1 => by
    obtain ⟨ih0, ih1, ih2⟩ := impl_entryIn.mono_l k
    refine ⟨?_, ?_, ?_⟩
    · intro y0 y1 y2 y3 y4 y5 y6 y7
      unfold impl_entryIn.j0
      repeat' first
      | (with_reducible exact ih0 _ _ _ _ _ _ _ _)
      | (with_reducible exact ih1 _ _ _ _ _ _ _ _)
      | (with_reducible exact ih2 _ _ _ _ _ _ _)
      | (with_reducible exact LeO.refl _)
      | (with_reducible exact LeO.none _)
      | (with_reducible refine LeO.ite ?_ ?_)
      | (with_reducible refine LeO.bind ?_ (fun _ => ?_))
      | exact ih0 _ _ _ _ _ _ _ _
      | exact ih1 _ _ _ _ _ _ _ _
      | exact ih2 _ _ _ _ _ _ _
      | exact LeO.none _
      | refine LeO.ite ?_ ?_
      | refine LeO.bind ?_ (fun _ => ?_)
    · intro y0 y1 y2 y3 y4 y5 y6 y7
      unfold impl_entryIn.l0
      repeat' first
      | (with_reducible exact ih0 _ _ _ _ _ _ _ _)
      | (with_reducible exact ih1 _ _ _ _ _ _ _ _)
      | (with_reducible exact ih2 _ _ _ _ _ _ _)
      | (with_reducible exact LeO.refl _)
      | (with_reducible exact LeO.none _)
      | (with_reducible refine LeO.ite ?_ ?_)
      | (with_reducible refine LeO.bind ?_ (fun _ => ?_))
      | exact ih0 _ _ _ _ _ _ _ _
      | exact ih1 _ _ _ _ _ _ _ _
      | exact ih2 _ _ _ _ _ _ _
      | exact LeO.none _
      | refine LeO.ite ?_ ?_
      | refine LeO.bind ?_ (fun _ => ?_)
    · intro y0 y1 y2 y3 y4 y5 y6
      unfold impl_entryIn.l1
      repeat' first
      | (with_reducible exact ih0 _ _ _ _ _ _ _ _)
      | (with_reducible exact ih1 _ _ _ _ _ _ _ _)
      | (with_reducible exact ih2 _ _ _ _ _ _ _)
      | (with_reducible exact LeO.refl _)
      | (with_reducible exact LeO.none _)
      | (with_reducible refine LeO.ite ?_ ?_)
      | (with_reducible refine LeO.bind ?_ (fun _ => ?_))
      | exact ih0 _ _ _ _ _ _ _ _
      | exact ih1 _ _ _ _ _ _ _ _
      | exact ih2 _ _ _ _ _ _ _
      | exact LeO.none _
      | refine LeO.ite ?_ ?_
      | refine LeO.bind ?_ (fun _ => ?_)
theorem impl_entryIn.mono : ∀ a0 a1 a2 a3 a4 a5 a6 k, LeO (impl_entryIn.f k a0 a1 a2 a3 a4 a5 a6) (impl_entryIn.f (k + 1) a0 a1 a2 a3 a4 a5 a6) := by
 intro a0 a1 a2 a3 a4 a5 a6 k
 obtain ⟨ih0, ih1, ih2⟩ := impl_entryIn.mono_l k
 unfold impl_entryIn.f
 repeat' first
     | (with_reducible exact ih0 _ _ _ _ _ _ _ _)
     | (with_reducible exact ih1 _ _ _ _ _ _ _ _)
     | (with_reducible exact ih2 _ _ _ _ _ _ _)
     | (with_reducible exact LeO.refl _)
     | (with_reducible exact LeO.none _)
     | (with_reducible refine LeO.ite ?_ ?_)
     | (with_reducible refine LeO.bind ?_ (fun _ => ?_))
     | exact ih0 _ _ _ _ _ _ _ _
     | exact ih1 _ _ _ _ _ _ _ _
     | exact ih2 _ _ _ _ _ _ _
     | exact LeO.none _
     | refine LeO.ite ?_ ?_
     | refine LeO.bind ?_ (fun _ => ?_)
def impl_entryIn.T14 : Bool × List (List Nat × List Nat) := (true, [([], []), ([], []), ([1], [1]), ([2], [2]), ([0, 3], [0, 3]), ([], []), ([5], [5]), ([4, 6], [4, 6]), ([0, 3, 0, 1, 2, 3, 5, 6], [0, 3]), ([8], [8]), ([0, 9, 7, 8, 0, 1, 2, 3, 4, 5, 6, 7, 8, 9], [0, 7, 9])])
def impl_entryIn.B14 : List Nat := [0, 0, 2, 6, 15, 0, 32, 127, 111, 367, 1023]
theorem impl_entryIn.tab14 : rtab .any (opsOf Try.f114 14) = impl_entryIn.T14 := by kernel_rfl
theorem impl_entryIn.bits14 : waitsOk impl_entryIn.T14.2 impl_entryIn.B14 = true := by kernel_rfl
def impl_entryIn.T15 : Bool × List (List Nat × List Nat) := (true, [([], []), ([], []), ([1], [1]), ([2], [2]), ([0, 3], [0, 3]), ([], []), ([5], [5]), ([4, 6], [4, 6]), ([0, 3, 0, 1, 2, 3, 5, 6], [0, 3]), ([8], [8]), ([0, 9, 7, 8, 0, 1, 2, 3, 4, 5, 6, 7, 8, 9], [0, 7, 9])])
def impl_entryIn.B15 : List Nat := [0, 0, 2, 6, 15, 0, 32, 127, 111, 367, 1023]
theorem impl_entryIn.tab15 : rtab .any (opsOf Try.f114 15) = impl_entryIn.T15 := by kernel_rfl
theorem impl_entryIn.bits15 : waitsOk impl_entryIn.T15.2 impl_entryIn.B15 = true := by kernel_rfl
set_option maxHeartbeats 8000000 in
set_option maxRecDepth 100000 in
theorem impl_entryIn.calls (k : Nat) (A0_0 : Option Addr) (c0_0 : Nat) (l0_0 : List (S222)) (a0_1 : Int) (a0_2 : Int) (a1_0 : Int) (a1_1 : Int) (a1_2 : ByteArray) (A1_3 : Option Addr) (c1_3 : Nat) (l1_3 : List (S107)) (r : Bool) (w : World) (hr0_0 : Kd.C k222 w A0_0 l0_0.length l0_0) (hc0_0 : l0_0.length ≤ c0_0) (hr1_3 : Kd.C k107 w A1_3 l1_3.length l1_3) (hc1_3 : l1_3.length ≤ c1_3) (h : impl_entryIn.f k l0_0 a0_1 a0_2 a1_0 a1_1 a1_2 l1_3 = some r) :
    Calls Try.prog 114 #[.agg #[.slice A0_0 l0_0.length c0_0, .int .i64 a0_1, .int .i64 a0_2], .agg #[.int .i64 a1_0, .int .i64 a1_1, .string a1_2, .slice A1_3 l1_3.length c1_3]] w fun e w' => e = .returned (.bool r) ∧ Below w.heap.size w w' := by
 have hu81 := Try.underlying81; have hu103 := Try.underlying103; have hu107 := Try.underlying107; have HR0_0 := Aside0.mk hr0_0; have HC0_0 := Aside0.mk hc0_0; clear hr0_0 hc0_0; have HR1_3 := Aside0.mk hr1_3; have HC1_3 := Aside0.mk hc1_3; clear hr1_3 hc1_3; have HB := aZ (Below.refl w.heap.size w); have H : ((impl_isDay.f a1_0).bind fun t279 => (if t279 = true then ((impl_between.f a1_1 0 1000).bind fun t280 => (if t280 = true then (if (a1_2.size : Int) > 40 then (impl_entryIn.j0 k true l0_0 a0_1 a0_2 a1_0 a1_1 a1_2 l1_3) else (if (l1_3.length : Int) < 2 then (impl_entryIn.j0 k true l0_0 a0_1 a0_2 a1_0 a1_1 a1_2 l1_3) else (impl_entryIn.j0 k (decide ((l1_3.length : Int) > 60)) l0_0 a0_1 a0_2 a1_0 a1_1 a1_2 l1_3))) else (impl_entryIn.j0 k true l0_0 a0_1 a0_2 a1_0 a1_1 a1_2 l1_3))) else (impl_entryIn.j0 k true l0_0 a0_1 a0_2 a1_0 a1_1 a1_2 l1_3))) = some r := h; clear h
 have HC3 := Aside0.mk H; clear H; go_enter Try.func114, Try.ntmps114
 go_upto_region 1 with (first | ((with_reducible refine gate_dst (N := 2) rfl ?_); (try (refine gate_guard (by rfl) ?_; dsimp only)); refine box_event tZR (N := 2) tZR (cs := #[.slice A0_0 l0_0.length c0_0, .int .i64 a0_1, .int .i64 a0_2]) (t := 81) tZS ?_; intro gb277 hg w4 hbox hb; have BK277 := aZ (hbox); have GW277 := aZ ((by rw [hg]; exact (below_size (lZB HB.out)) : w.heap.size ≤ gb277)); have GE277 := GW277; replace HB := aZ (below_step (lZB HB.out) hb); clear hb hbox hg) | ((with_reducible refine gate_dst (N := 3) rfl ?_); (try (refine gate_guard (by rfl) ?_; dsimp only)); refine box_event tZR (N := 3) tZR (cs := #[.int .i64 a1_0, .int .i64 a1_1, .string a1_2, .slice A1_3 l1_3.length c1_3]) (t := 103) tZS ?_; intro gb278 hg w5 hbox hb; have BK278 := aZ (hbox); have GW278 := aZ ((by rw [hg]; exact (below_size bZ) : w.heap.size ≤ gb278)); have GE278 := GW278; replace HB := aZ (below_step bZ hb); have NB277_278 := aZ ((nLt hg (bkZ BK277.out) : gb277 ≠ gb278)); have NB278_277 := aZ ((nGt hg (bkZ BK277.out) : gb278 ≠ gb277)); replace BK277 := aZ (blk_below (bkZ BK277.out) hb); clear hb hbox hg))
 (try simp only [Act.put, sZ1, sZ2, sZ3])
 go_cut [38] (fun v38 wc => ∃ (kq : Nat) (x38_2 : Bool), v38 = .bool x38_2 ∧ Aside0 (impl_entryIn.j0 kq x38_2 l0_0 a0_1 a0_2 a1_0 a1_1 a1_2 l1_3 = some r) ∧ Aside0 (kq ≤ k) ∧ Aside0 (wc.heap[gb277]? = some (.cells #[(.slice A0_0 l0_0.length c0_0), .int .i64 a0_1, .int .i64 a0_2] 81 (0, 0))) ∧ Aside0 (wc.heap[gb278]? = some (.cells #[.int .i64 a1_0, .int .i64 a1_1, .string a1_2, (.slice A1_3 l1_3.length c1_3)] 103 (0, 0))) ∧ Aside0 (Below w.heap.size w wc))
 case first =>
  have H := HC3.out; clear HC3; replace H := Option.bind_eq_some_iff.mp H; obtain ⟨t279, A60, H⟩ := H; replace H : (if t279 = true then ((impl_between.f a1_1 0 1000).bind fun t280 => (if t280 = true then (if (a1_2.size : Int) > 40 then (impl_entryIn.j0 k true l0_0 a0_1 a0_2 a1_0 a1_1 a1_2 l1_3) else (if (l1_3.length : Int) < 2 then (impl_entryIn.j0 k true l0_0 a0_1 a0_2 a1_0 a1_1 a1_2 l1_3) else (impl_entryIn.j0 k (decide ((l1_3.length : Int) > 60)) l0_0 a0_1 a0_2 a1_0 a1_1 a1_2 l1_3))) else (impl_entryIn.j0 k true l0_0 a0_1 a0_2 a1_0 a1_1 a1_2 l1_3))) else (impl_entryIn.j0 k true l0_0 a0_1 a0_2 a1_0 a1_1 a1_2 l1_3)) = some r := H; have A6 := Aside0.mk A60; clear A60
  by_cases c7 : t279 = true
  rotate_left
  ·replace c7 := Bool.eq_false_iff.mpr c7; subst c7; rw [if_neg Bool.false_ne_true] at H; have H' := Aside0.mk H; clear H; have hnb20 := NB278_277.out; have hnc20 := NB277_278.out; obtain ⟨hcz21_0, hcz21_1, hcz21_2, hcz21_3, hfz21_0, hfz21_1, hfz21_2, hfz21_3⟩ := bc4 BK278.out
   go_wp2_with (first | ((with_reducible refine gate_callee (f := 72) rfl ?_); refine goesL_ (some 13) rfl rfl Try.func72 kZ rfl #[.int .i64 a1_0] rfl tZA ?_; (with_reducible refine (impl_isDay.calls a1_0 false _ A6.out).mono ?_); rintro e w' ⟨rfl, ⟨nd, rfl⟩⟩; refine ⟨_, rfl, ?_⟩))
   go_meet
   case rel => exact ⟨_, (true), tZB, H', ⟨by first | omega | exact Nat.le_refl _⟩, ⟨bkZ BK277.out⟩, ⟨bkZ BK278.out⟩, ⟨bZ⟩⟩
  subst c7; rw [if_pos rfl] at H; replace H := Option.bind_eq_some_iff.mp H; obtain ⟨t280, A80, H⟩ := H; replace H : (if t280 = true then (if (a1_2.size : Int) > 40 then (impl_entryIn.j0 k true l0_0 a0_1 a0_2 a1_0 a1_1 a1_2 l1_3) else (if (l1_3.length : Int) < 2 then (impl_entryIn.j0 k true l0_0 a0_1 a0_2 a1_0 a1_1 a1_2 l1_3) else (impl_entryIn.j0 k (decide ((l1_3.length : Int) > 60)) l0_0 a0_1 a0_2 a1_0 a1_1 a1_2 l1_3))) else (impl_entryIn.j0 k true l0_0 a0_1 a0_2 a1_0 a1_1 a1_2 l1_3)) = some r := H; have A8 := Aside0.mk A80; clear A80
  by_cases c9 : t280 = true
  rotate_left
  ·replace c9 := Bool.eq_false_iff.mpr c9; subst c9; rw [if_neg Bool.false_ne_true] at H; have H' := Aside0.mk H; clear H; have hnb18 := NB278_277.out; have hnc18 := NB277_278.out; obtain ⟨hcz19_0, hcz19_1, hcz19_2, hcz19_3, hfz19_0, hfz19_1, hfz19_2, hfz19_3⟩ := bc4 BK278.out
   go_wp2_with (first | ((with_reducible refine gate_callee (f := 72) rfl ?_); refine goesL_ (some 13) rfl rfl Try.func72 kZ rfl #[.int .i64 a1_0] rfl tZA ?_; (with_reducible refine (impl_isDay.calls a1_0 true _ A6.out).mono ?_); rintro e w' ⟨rfl, ⟨nd, rfl⟩⟩; refine ⟨_, rfl, ?_⟩) | (go_at_call 71; (with_reducible refine (impl_between.calls a1_1 0 1000 false _ A8.out).mono ?_); rintro e w' ⟨rfl, ⟨nd, rfl⟩⟩))
   go_meet
   case rel => exact ⟨_, (true), tZB, H', ⟨by first | omega | exact Nat.le_refl _⟩, ⟨bkZ BK277.out⟩, ⟨bkZ BK278.out⟩, ⟨bZ⟩⟩
  subst c9; rw [if_pos rfl] at H
  by_cases c10 : (a1_2.size : Int) > 40
  ·rw [if_pos c10] at H; have c10b0 : decide (40 < (a1_2.size : Int)) = true := decide_eq_true c10; have c10b1 : decide (40 < a1_2.size) = true := decide_eq_true (by omega); clear c10; (first | rw [c10b0] | (simp only [i64_w, i32_w]; rw [c10b0]) | skip); have H' := Aside0.mk H; clear H; have hnb11 := NB278_277.out; have hnc11 := NB277_278.out; obtain ⟨hcz12_0, hcz12_1, hcz12_2, hcz12_3, hfz12_0, hfz12_1, hfz12_2, hfz12_3⟩ := bc4 BK278.out
   go_wp2_with (first | ((with_reducible refine gate_callee (f := 72) rfl ?_); refine goesL_ (some 13) rfl rfl Try.func72 kZ rfl #[.int .i64 a1_0] rfl tZA ?_; (with_reducible refine (impl_isDay.calls a1_0 true _ A6.out).mono ?_); rintro e w' ⟨rfl, ⟨nd, rfl⟩⟩; refine ⟨_, rfl, ?_⟩) | (go_at_call 71; (with_reducible refine (impl_between.calls a1_1 0 1000 true _ A8.out).mono ?_); rintro e w' ⟨rfl, ⟨nd, rfl⟩⟩))
   go_meet
   case rel => exact ⟨_, (true), tZB, H', ⟨by first | omega | exact Nat.le_refl _⟩, ⟨bkZ BK277.out⟩, ⟨bkZ BK278.out⟩, ⟨bZ⟩⟩
  rw [if_neg c10] at H; have c10b0 : decide (40 < (a1_2.size : Int)) = false := decide_eq_false c10; have c10b1 : decide (40 < a1_2.size) = false := decide_eq_false (by omega); clear c10; (first | rw [c10b0] | (simp only [i64_w, i32_w]; rw [c10b0]) | skip)
  by_cases c13 : (l1_3.length : Int) < 2
  ·rw [if_pos c13] at H; have c13b0 := decide_eq_true c13; have c13b1 : decide (l1_3.length < 2) = true := decide_eq_true (by omega); clear c13; have H' := Aside0.mk H; clear H; have hnb14 := NB278_277.out; have hnc14 := NB277_278.out; obtain ⟨hcz15_0, hcz15_1, hcz15_2, hcz15_3, hfz15_0, hfz15_1, hfz15_2, hfz15_3⟩ := bc4 BK278.out
   go_wp2_with (first | ((with_reducible refine gate_callee (f := 72) rfl ?_); refine goesL_ (some 13) rfl rfl Try.func72 kZ rfl #[.int .i64 a1_0] rfl tZA ?_; (with_reducible refine (impl_isDay.calls a1_0 true _ A6.out).mono ?_); rintro e w' ⟨rfl, ⟨nd, rfl⟩⟩; refine ⟨_, rfl, ?_⟩) | (go_at_call 71; (with_reducible refine (impl_between.calls a1_1 0 1000 true _ A8.out).mono ?_); rintro e w' ⟨rfl, ⟨nd, rfl⟩⟩))
   go_meet
   case rel => exact ⟨_, (true), tZB, H', ⟨by first | omega | exact Nat.le_refl _⟩, ⟨bkZ BK277.out⟩, ⟨bkZ BK278.out⟩, ⟨bZ⟩⟩
  rw [if_neg c13] at H; have c13b0 := decide_eq_false c13; have c13b1 : decide (l1_3.length < 2) = false := decide_eq_false (by omega); clear c13; have H' := Aside0.mk H; clear H; have hnb16 := NB278_277.out; have hnc16 := NB277_278.out; obtain ⟨hcz17_0, hcz17_1, hcz17_2, hcz17_3, hfz17_0, hfz17_1, hfz17_2, hfz17_3⟩ := bc4 BK278.out
  go_wp2_with (first | ((with_reducible refine gate_callee (f := 72) rfl ?_); refine goesL_ (some 13) rfl rfl Try.func72 kZ rfl #[.int .i64 a1_0] rfl tZA ?_; (with_reducible refine (impl_isDay.calls a1_0 true _ A6.out).mono ?_); rintro e w' ⟨rfl, ⟨nd, rfl⟩⟩; refine ⟨_, rfl, ?_⟩) | (go_at_call 71; (with_reducible refine (impl_between.calls a1_1 0 1000 true _ A8.out).mono ?_); rintro e w' ⟨rfl, ⟨nd, rfl⟩⟩))
  go_meet
  case rel => exact ⟨_, (decide ((l1_3.length : Int) > 60)), tZB, H', ⟨by first | omega | exact Nat.le_refl _⟩, ⟨bkZ BK277.out⟩, ⟨bkZ BK278.out⟩, ⟨bZ⟩⟩
 case rest =>
  clear HC3; obtain ⟨kq, x38_2, rfl, HA, HJ2, BK277, BK278, HB⟩ := hcut
  cases kq with
  | zero => exact absurd HA.out (by simp [impl_entryIn.j0])
  | succ kj2 =>
   have H := HA.out; clear HA; simp only [impl_entryIn.j0] at H
   by_cases c22 : x38_2 = true
   ·subst c22; rw [if_pos rfl] at H; obtain rfl := Option.some.inj H; go_wp2; go_ret; exact ⟨tZC, bZ⟩
   replace c22 := Bool.eq_false_iff.mpr c22; subst c22; rw [if_neg Bool.false_ne_true] at H; have H' := Aside0.mk H; clear H; go_wp2
   go_loopg [5] kj2 (fun kq v5 w' => ∃ (x5_2 : Int), v5 = .int .i64 x5_2 ∧ Aside0 (impl_entryIn.l0 kq x5_2 l0_0 a0_1 a0_2 a1_0 a1_1 a1_2 l1_3 = some r) ∧ Aside0 (kq ≤ kj2) ∧ Aside0 (w'.heap[gb277]? = some (.cells #[(.slice A0_0 l0_0.length c0_0), .int .i64 a0_1, .int .i64 a0_2] 81 (0, 0))) ∧ Aside0 (w'.heap[gb278]? = some (.cells #[.int .i64 a1_0, .int .i64 a1_1, .string a1_2, (.slice A1_3 l1_3.length c1_3)] 103 (0, 0))) ∧ Aside0 (Below w.heap.size w w'))
   case atStart => exact ⟨(0), tZB, H', ⟨Nat.le_refl _⟩, ⟨bkZ BK277.out⟩, ⟨bkZ BK278.out⟩, ⟨bZ⟩⟩
   case round =>
    clear H'; (try clear c22); obtain ⟨x5_2, rfl, HA, HK2, BK277, BK278, HB⟩ := hrel
    cases gk with
    | zero => exact absurd HA.out (by simp [impl_entryIn.l0])
    | succ k2 =>
     have H := HA.out; clear HA; simp only [impl_entryIn.l0] at H
     by_cases c23 : x5_2 < (a1_2.size : Int)
     ·rw [if_pos c23] at H; have c23b0 := decide_eq_true c23; clear c23
      by_cases c24 : 0 ≤ x5_2
      rotate_left
      ·rw [if_neg c24] at H; exact absurd H (by simp)
      rw [if_pos c24] at H; have c24b0 := decide_eq_true c24; clear c24
      by_cases c26 : (bt a1_2 x5_2) < 32
      ·rw [if_pos c26] at H; have c26b0 := decide_eq_true c26; clear c26; obtain rfl := Option.some.inj H; have hnb27 := NB278_277.out; have hnc27 := NB277_278.out; obtain ⟨hcz28_0, hcz28_1, hcz28_2, hcz28_3, hfz28_0, hfz28_1, hfz28_2, hfz28_3⟩ := bc4 BK278.out; have p25 : 0 ≤ (x5_2 : Int) := of_decide_eq_true tZE; have q25 : x5_2 < (a1_2.size : Int) := of_decide_eq_true tZE; have hx25 := bt_at a1_2 x5_2; replace p25 := eq_true p25; replace q25 := eq_true q25; go_wp2; go_ret; exact ⟨tZC, bZ⟩
      rw [if_neg c26] at H; have c26b0 := decide_eq_false c26; clear c26; have H' := Aside0.mk H; clear H; have hnb29 := NB278_277.out; have hnc29 := NB277_278.out; obtain ⟨hcz30_0, hcz30_1, hcz30_2, hcz30_3, hfz30_0, hfz30_1, hfz30_2, hfz30_3⟩ := bc4 BK278.out; have p25 : 0 ≤ (x5_2 : Int) := of_decide_eq_true tZE; have q25 : x5_2 < (a1_2.size : Int) := of_decide_eq_true tZE; have hx25 := bt_at a1_2 x5_2; replace p25 := eq_true p25; replace q25 := eq_true q25; go_wp2
      go_roundg k2
      case measure => have := HJ2.out; have := HK2.out; omega
      case rel => exact ⟨(wrap64 (x5_2 + 1)), tZB, H', ⟨by have := HJ2.out; have := HK2.out; omega⟩, ⟨bkZ BK277.out⟩, ⟨bkZ BK278.out⟩, ⟨bZ⟩⟩
     rw [if_neg c23] at H; have c23b0 := decide_eq_false c23; clear c23; obtain ⟨y281, hy281⟩ : ∃ y_ : List (((Int × Int) × Int)), y_ = (([] : List (((Int × Int) × Int)))) := ⟨_, rfl⟩; replace H : (impl_entryIn.l1 k2 y281 l1_3 (l1_3.length : Int) 0 l0_0 a0_1 a0_2) = some r := by first | (rw [hy281]; with_reducible exact H) | (have H2_ := (Option.bind_some _ _).symm.trans H; rw [hy281]; with_reducible exact H2_) | (have H2_ := (Option.bind_some _ _).symm.trans H; with_reducible exact H2_) | with_reducible exact H | (rw [hy281]; exact H) | exact H
     have Ny281 := Aside0.mk hy281; clear hy281; have H' := Aside0.mk H; clear H; have hnb31 := NB278_277.out; have hnc31 := NB277_278.out; obtain ⟨hcz32_0, hcz32_1, hcz32_2, hcz32_3, hfz32_0, hfz32_1, hfz32_2, hfz32_3⟩ := bc4 BK278.out
     go_wp2_with (first | ((with_reducible refine gate_dst (N := 51) rfl ?_); (try (refine gate_guard (by rfl) ?_; dsimp only)); refine Kd.Y_make my225 225 rfl rfl rfl ?_; intro v282 w33 ho34 hb; rw [← Ny281.out] at ho34; have HO283 := aZ (Kd.Y_lower ho34 (below_size bZ)); replace BK277 := aZ (blk_below (bkZ BK277.out) hb); replace BK278 := aZ (blk_below (bkZ BK278.out) hb); replace HB := aZ (below_step bZ hb); clear hb ho34; obtain ⟨hcz35_0, hcz35_1, hcz35_2, hcz35_3, hfz35_0, hfz35_1, hfz35_2, hfz35_3⟩ := bc4 BK278.out))
     go_loopg [55] k2 (fun kq v55 w' => ∃ (x6_3 : List (((Int × Int) × Int))) (x55_3 : Int), v55 = .int .i64 x55_3 ∧ Aside0 (impl_entryIn.l1 kq x6_3 l1_3 (l1_3.length : Int) x55_3 l0_0 a0_1 a0_2 = some r) ∧ Aside0 (kq ≤ k2) ∧ Aside0 (Kd.Y my225 225 w' w.heap.size (fun _ => True) v282 x6_3) ∧ Aside0 (w'.heap[gb277]? = some (.cells #[(.slice A0_0 l0_0.length c0_0), .int .i64 a0_1, .int .i64 a0_2] 81 (0, 0))) ∧ Aside0 (w'.heap[gb278]? = some (.cells #[.int .i64 a1_0, .int .i64 a1_1, .string a1_2, (.slice A1_3 l1_3.length c1_3)] 103 (0, 0))) ∧ Aside0 (Below w.heap.size w w'))
     case atStart => exact ⟨(y281), (0), tZB, H', ⟨Nat.le_refl _⟩, ⟨lZY HO283.out⟩, ⟨bkZ BK277.out⟩, ⟨bkZ BK278.out⟩, ⟨bZ⟩⟩
     case round =>
      clear H'; (try clear c22 c23 c23b0 hcz32_0 hcz32_1 hcz32_2 hcz32_3 hcz35_0 hcz35_1 hcz35_2 hcz35_3 hfz32_0 hfz32_1 hfz32_2 hfz32_3 hfz35_0 hfz35_1 hfz35_2 hfz35_3); obtain ⟨x6_3, x55_3, rfl, HA, HK3, HO_6, BK277, BK278, HB⟩ := hrel
      cases gk with
      | zero => exact absurd HA.out (by simp [impl_entryIn.l1])
      | succ k3 =>
       have H := HA.out; clear HA; simp only [impl_entryIn.l1] at H
       by_cases c36 : x55_3 < (l1_3.length : Int)
       rotate_left
       ·rw [if_neg c36] at H; have c36b0 := decide_eq_false c36; clear c36; have H' := Aside0.mk H; clear H
        go_wp2_with (first | (at_range; refine Y_range (m := my225) (e := 225) (v := v282) (xs := x6_3) rfl rfl (.tmp 128) rfl (by first | rfl | (go_simp; done) | (go_simp; rfl)) (lZY HO_6.out) ?_; intro w133 rr_ lf_ cn_ hr_ hyr_ hl0_ hb; have hrb_ : w.heap.size ≤ rr_ := (by first | (rw [hr_]; done) | (rw [hr_]; exact HB.out.size)); replace HB := aZ (below_step bZ hb); clear hb hr_))
        (try go_frame)
        go_loopw [10] (fun _ wr => ∃ (left : Lit → Bool) (cnt : Nat), YR my225 wr v282 x6_3 rr_ left cnt ∧ Below w.heap.size w wr ∧ (mall0 x6_3 = false → ∃ x, my225.okK x ∧ left (my225.litK x) = true ∧ mget 0 x6_3 x ≠ 0)) (fun _ wr => rleft v282 rr_ wr)
        case atStart => exact ⟨_, _, hyr_, HB.out, YR_some hyr_ hl0_⟩
        case round =>
         clear HB; obtain ⟨left_, cnt_, hyn_, hbn_, hne_⟩ := hrel; have HB := Aside0.mk hbn_
         go_wp2_with (first | (at_next; refine Y_next (m := my225) rfl rfl _ rfl rfl hyn_ ?_ ?_) | go_in)
         ·intro hl_; have hm_ : mall0 x6_3 = true := YR_done hl_ hne_; have H := H'.out; rw [if_pos hm_] at H; obtain rfl := Option.some.inj H; go_wp2; go_ret; exact ⟨tZC, bZ⟩
         intro xa_ xb_ key_ w1_ cnt1_ hxo_ hxh_ hlx_ hyr1_ hlt_ hg1_ hen_; simp only [my225, mkPI, mkSB, mkSI, mkIB, mkII, encPI] at hen_ ⊢; have hb1_ := pw_below_grown HB.out _ HB.out.size hg1_ (fun k_ e_ => by cases e_; exact hrb_)
         by_cases hc_ : mget 0 x6_3 (xa_, xb_) = 0
         ·have hcb_ : (mget 0 x6_3 (xa_, xb_) != 0) = false := by rw [hc_]; rfl
          go_wp2
          go_roundw
          case rel => exact ⟨_, cnt1_, hyr1_, hb1_, YR_go hxo_ hc_ hne_⟩
          case measure => rw [YR_left hyr1_, YR_left hyn_]; exact hlt_
         have hcb_ : (mget 0 x6_3 (xa_, xb_) != 0) = true := bne_iff_ne.2 hc_; have H := H'.out; rw [if_neg (YR_not hxh_ hc_)] at H; clear HB; have HB := Aside0.mk hb1_; obtain rfl := Option.some.inj H; go_wp2; go_ret; exact ⟨tZC, bZ⟩
       rw [if_pos c36] at H; have c36b0 := decide_eq_true c36; clear c36
       by_cases c37 : 0 ≤ x55_3
       rotate_left
       ·rw [if_neg c37] at H; exact absurd H (by simp)
       rw [if_pos c37] at H; have c37b0 := decide_eq_true c37; clear c37
       by_cases c38 : x55_3 < (l1_3.length : Int)
       rotate_left
       ·rw [if_neg c38] at H; exact absurd H (by simp)
       rw [if_pos c38] at H; have c38b0 := decide_eq_true c38; clear c38; replace H := Option.bind_eq_some_iff.mp H; obtain ⟨t286, A390, H⟩ := H
       replace H : (if t286 = true then ((impl_between.f ((rd_T107 l1_3 x55_3).f1) 0 (wrap64 (a0_1 - 1))).bind fun t287 => (if t287 = true then ((impl_between.f ((rd_T107 l1_3 x55_3).f2) 0 (wrap64 (a0_2 - 1))).bind fun t288 => (if t288 = true then ((impl_amount.f ((rd_T107 l1_3 x55_3).f3)).bind fun t289 => (if t289 = true then ((impl_amount.f ((rd_T107 l1_3 x55_3).f4)).bind fun t290 => (if t290 = true then (if ((rd_T107 l1_3 x55_3).f2) = 0 then (if ((rd_T107 l1_3 x55_3).f3) = ((rd_T107 l1_3 x55_3).f4) then (if -9223372036854775808 ≤ ((rd_T107 l1_3 x55_3).f2) then (if ((rd_T107 l1_3 x55_3).f2) ≤ 9223372036854775807 then (if x6_3.length < 140737488355328 then ((some (((0, (rd_T107 l1_3 x55_3).f2), wrap64 ((mget 0 x6_3 (0, (rd_T107 l1_3 x55_3).f2)) + ((rd_T107 l1_3 x55_3).f3))) :: x6_3 : List (((Int × Int) × Int)))).bind fun y292 => (if -9223372036854775808 ≤ ((rd_T107 l1_3 x55_3).f1) then (if ((rd_T107 l1_3 x55_3).f1) ≤ 9223372036854775807 then (if y292.length < 140737488355328 then (impl_entryIn.l1 k3 (((1, (rd_T107 l1_3 x55_3).f1), wrap64 ((mget 0 y292 (1, (rd_T107 l1_3 x55_3).f1)) + ((rd_T107 l1_3 x55_3).f4))) :: y292) l1_3 (l1_3.length : Int) (wrap64 (x55_3 + 1)) l0_0 a0_1 a0_2) else (none)) else (none)) else (none))) else (none)) else (none)) else (none)) else (some false)) else (if -9223372036854775808 ≤ ((rd_T107 l1_3 x55_3).f2) then (if ((rd_T107 l1_3 x55_3).f2) ≤ 9223372036854775807 then (if x6_3.length < 140737488355328 then ((some (((0, (rd_T107 l1_3 x55_3).f2), wrap64 ((mget 0 x6_3 (0, (rd_T107 l1_3 x55_3).f2)) + ((rd_T107 l1_3 x55_3).f3))) :: x6_3 : List (((Int × Int) × Int)))).bind fun y298 => (if -9223372036854775808 ≤ ((rd_T107 l1_3 x55_3).f1) then (if ((rd_T107 l1_3 x55_3).f1) ≤ 9223372036854775807 then (if y298.length < 140737488355328 then (impl_entryIn.l1 k3 (((1, (rd_T107 l1_3 x55_3).f1), wrap64 ((mget 0 y298 (1, (rd_T107 l1_3 x55_3).f1)) + ((rd_T107 l1_3 x55_3).f4))) :: y298) l1_3 (l1_3.length : Int) (wrap64 (x55_3 + 1)) l0_0 a0_1 a0_2) else (none)) else (none)) else (none))) else (none)) else (none)) else (none))) else (some false))) else (some false))) else (some false))) else (some false))) else (some false)) = some r := H
       have A39 := Aside0.mk A390; clear A390
       by_cases c40 : t286 = true
       rotate_left
       ·replace c40 := Bool.eq_false_iff.mpr c40; subst c40; rw [if_neg Bool.false_ne_true] at H; obtain rfl := Option.some.inj H; have p284 : 0 ≤ (x55_3 : Int) := of_decide_eq_true tZE; have q284 : x55_3 < (l1_3.length : Int) := of_decide_eq_true tZE; obtain ⟨ad284, e284, hx284_0, hx284_1, hx284_2, hx284_3, hx284_4⟩ := at_T107 HR1_3.out x55_3 p284 q284
        cases e284
        replace hx284_0 := cZ HB hx284_0; replace hx284_1 := cZ HB hx284_1; replace hx284_2 := cZ HB hx284_2; replace hx284_3 := cZ HB hx284_3; replace hx284_4 := cZ HB hx284_4; replace p284 := eq_true p284; replace q284 := eq_true q284
        go_wp2_with (first | ((with_reducible refine gate_dst (N := 8) rfl ?_); (try (refine gate_guard (by rfl) ?_; dsimp only)); refine box_event tZR (N := 8) tZR (cs := #[.int .i64 0, .int .i64 0, .int .i64 0, .int .i64 0, .int .i64 0]) (t := 107) tZS ?_; intro gb285 hg w127 hbox hb; replace HO_6 := aZ (Kd.Y_below (lZY HO_6.out) hb); have BK285 := aZ (hbox); have GW285 := aZ ((by rw [hg]; exact (below_size bZ) : w.heap.size ≤ gb285)); have GE285 := GW285; replace HB := aZ (below_step bZ hb); have NB277_285 := aZ ((nLt hg (bkZ BK277.out) : gb277 ≠ gb285)); have NB285_277 := aZ ((nGt hg (bkZ BK277.out) : gb285 ≠ gb277)); replace BK277 := aZ (blk_below (bkZ BK277.out) hb); have NB278_285 := aZ ((nLt hg (bkZ BK278.out) : gb278 ≠ gb285)); have NB285_278 := aZ ((nGt hg (bkZ BK278.out) : gb285 ≠ gb278)); replace BK278 := aZ (blk_below (bkZ BK278.out) hb); clear hb hbox hg; have hnb128 := NB285_277.out; have hnc128 := NB277_285.out; have hnb129 := NB285_278.out; have hnc129 := NB278_285.out; obtain ⟨hcz130_0, hcz130_1, hcz130_2, hcz130_3, hcz130_4, hfz130_0, hfz130_1, hfz130_2, hfz130_3, hfz130_4⟩ := bc5 BK285.out; have hnb131 := NB277_278.out; have hnc131 := NB278_277.out; obtain ⟨hcz132_0, hcz132_1, hcz132_2, hfz132_0, hfz132_1, hfz132_2⟩ := bc3 BK277.out) | ((with_reducible refine gate_callee (f := 169) rfl ?_); refine goesL_ (some 63) rfl rfl Try.func169 kZ rfl #[.slice A0_0 l0_0.length c0_0, .int .i64 ((rd_T107 l1_3 x55_3).f0)] rfl tZA ?_; (with_reducible refine (impl_leafAt.calls _ _ l0_0 ((rd_T107 l1_3 x55_3).f0) false _ ?side1 ?side2 A39.out).mono ?_); (case side1 => exact Kd.C_below HR0_0.out bZ); (case side2 => exact HC0_0.out); rintro e w' ⟨rfl, ⟨nd, rfl⟩⟩; refine ⟨_, rfl, ?_⟩))
        go_ret; exact ⟨tZC, bZ⟩
       subst c40; rw [if_pos rfl] at H; replace H := Option.bind_eq_some_iff.mp H; obtain ⟨t287, A410, H⟩ := H
       replace H : (if t287 = true then ((impl_between.f ((rd_T107 l1_3 x55_3).f2) 0 (wrap64 (a0_2 - 1))).bind fun t288 => (if t288 = true then ((impl_amount.f ((rd_T107 l1_3 x55_3).f3)).bind fun t289 => (if t289 = true then ((impl_amount.f ((rd_T107 l1_3 x55_3).f4)).bind fun t290 => (if t290 = true then (if ((rd_T107 l1_3 x55_3).f2) = 0 then (if ((rd_T107 l1_3 x55_3).f3) = ((rd_T107 l1_3 x55_3).f4) then (if -9223372036854775808 ≤ ((rd_T107 l1_3 x55_3).f2) then (if ((rd_T107 l1_3 x55_3).f2) ≤ 9223372036854775807 then (if x6_3.length < 140737488355328 then ((some (((0, (rd_T107 l1_3 x55_3).f2), wrap64 ((mget 0 x6_3 (0, (rd_T107 l1_3 x55_3).f2)) + ((rd_T107 l1_3 x55_3).f3))) :: x6_3 : List (((Int × Int) × Int)))).bind fun y292 => (if -9223372036854775808 ≤ ((rd_T107 l1_3 x55_3).f1) then (if ((rd_T107 l1_3 x55_3).f1) ≤ 9223372036854775807 then (if y292.length < 140737488355328 then (impl_entryIn.l1 k3 (((1, (rd_T107 l1_3 x55_3).f1), wrap64 ((mget 0 y292 (1, (rd_T107 l1_3 x55_3).f1)) + ((rd_T107 l1_3 x55_3).f4))) :: y292) l1_3 (l1_3.length : Int) (wrap64 (x55_3 + 1)) l0_0 a0_1 a0_2) else (none)) else (none)) else (none))) else (none)) else (none)) else (none)) else (some false)) else (if -9223372036854775808 ≤ ((rd_T107 l1_3 x55_3).f2) then (if ((rd_T107 l1_3 x55_3).f2) ≤ 9223372036854775807 then (if x6_3.length < 140737488355328 then ((some (((0, (rd_T107 l1_3 x55_3).f2), wrap64 ((mget 0 x6_3 (0, (rd_T107 l1_3 x55_3).f2)) + ((rd_T107 l1_3 x55_3).f3))) :: x6_3 : List (((Int × Int) × Int)))).bind fun y298 => (if -9223372036854775808 ≤ ((rd_T107 l1_3 x55_3).f1) then (if ((rd_T107 l1_3 x55_3).f1) ≤ 9223372036854775807 then (if y298.length < 140737488355328 then (impl_entryIn.l1 k3 (((1, (rd_T107 l1_3 x55_3).f1), wrap64 ((mget 0 y298 (1, (rd_T107 l1_3 x55_3).f1)) + ((rd_T107 l1_3 x55_3).f4))) :: y298) l1_3 (l1_3.length : Int) (wrap64 (x55_3 + 1)) l0_0 a0_1 a0_2) else (none)) else (none)) else (none))) else (none)) else (none)) else (none))) else (some false))) else (some false))) else (some false))) else (some false)) = some r := H
       have A41 := Aside0.mk A410; clear A410
       by_cases c42 : t287 = true
       rotate_left
       ·replace c42 := Bool.eq_false_iff.mpr c42; subst c42; rw [if_neg Bool.false_ne_true] at H; obtain rfl := Option.some.inj H; have p284 : 0 ≤ (x55_3 : Int) := of_decide_eq_true tZE; have q284 : x55_3 < (l1_3.length : Int) := of_decide_eq_true tZE; obtain ⟨ad284, e284, hx284_0, hx284_1, hx284_2, hx284_3, hx284_4⟩ := at_T107 HR1_3.out x55_3 p284 q284
        cases e284
        replace hx284_0 := cZ HB hx284_0; replace hx284_1 := cZ HB hx284_1; replace hx284_2 := cZ HB hx284_2; replace hx284_3 := cZ HB hx284_3; replace hx284_4 := cZ HB hx284_4; replace p284 := eq_true p284; replace q284 := eq_true q284
        go_wp2_with (first | ((with_reducible refine gate_dst (N := 8) rfl ?_); (try (refine gate_guard (by rfl) ?_; dsimp only)); refine box_event tZR (N := 8) tZR (cs := #[.int .i64 0, .int .i64 0, .int .i64 0, .int .i64 0, .int .i64 0]) (t := 107) tZS ?_; intro gb285 hg w121 hbox hb; replace HO_6 := aZ (Kd.Y_below (lZY HO_6.out) hb); have BK285 := aZ (hbox); have GW285 := aZ ((by rw [hg]; exact (below_size bZ) : w.heap.size ≤ gb285)); have GE285 := GW285; replace HB := aZ (below_step bZ hb); have NB277_285 := aZ ((nLt hg (bkZ BK277.out) : gb277 ≠ gb285)); have NB285_277 := aZ ((nGt hg (bkZ BK277.out) : gb285 ≠ gb277)); replace BK277 := aZ (blk_below (bkZ BK277.out) hb); have NB278_285 := aZ ((nLt hg (bkZ BK278.out) : gb278 ≠ gb285)); have NB285_278 := aZ ((nGt hg (bkZ BK278.out) : gb285 ≠ gb278)); replace BK278 := aZ (blk_below (bkZ BK278.out) hb); clear hb hbox hg; have hnb122 := NB285_277.out; have hnc122 := NB277_285.out; have hnb123 := NB285_278.out; have hnc123 := NB278_285.out; obtain ⟨hcz124_0, hcz124_1, hcz124_2, hcz124_3, hcz124_4, hfz124_0, hfz124_1, hfz124_2, hfz124_3, hfz124_4⟩ := bc5 BK285.out; have hnb125 := NB277_278.out; have hnc125 := NB278_277.out; obtain ⟨hcz126_0, hcz126_1, hcz126_2, hfz126_0, hfz126_1, hfz126_2⟩ := bc3 BK277.out) | ((with_reducible refine gate_callee (f := 169) rfl ?_); refine goesL_ (some 63) rfl rfl Try.func169 kZ rfl #[.slice A0_0 l0_0.length c0_0, .int .i64 ((rd_T107 l1_3 x55_3).f0)] rfl tZA ?_; (with_reducible refine (impl_leafAt.calls _ _ l0_0 ((rd_T107 l1_3 x55_3).f0) true _ ?side1 ?side2 A39.out).mono ?_); (case side1 => exact Kd.C_below HR0_0.out bZ); (case side2 => exact HC0_0.out); rintro e w' ⟨rfl, ⟨nd, rfl⟩⟩; refine ⟨_, rfl, ?_⟩) | (go_at_call 71; (with_reducible refine (impl_between.calls ((rd_T107 l1_3 x55_3).f1) 0 (wrap64 (a0_1 - 1)) false _ A41.out).mono ?_); rintro e w' ⟨rfl, ⟨nd, rfl⟩⟩))
        go_ret; exact ⟨tZC, bZ⟩
       subst c42; rw [if_pos rfl] at H; replace H := Option.bind_eq_some_iff.mp H; obtain ⟨t288, A430, H⟩ := H
       replace H : (if t288 = true then ((impl_amount.f ((rd_T107 l1_3 x55_3).f3)).bind fun t289 => (if t289 = true then ((impl_amount.f ((rd_T107 l1_3 x55_3).f4)).bind fun t290 => (if t290 = true then (if ((rd_T107 l1_3 x55_3).f2) = 0 then (if ((rd_T107 l1_3 x55_3).f3) = ((rd_T107 l1_3 x55_3).f4) then (if -9223372036854775808 ≤ ((rd_T107 l1_3 x55_3).f2) then (if ((rd_T107 l1_3 x55_3).f2) ≤ 9223372036854775807 then (if x6_3.length < 140737488355328 then ((some (((0, (rd_T107 l1_3 x55_3).f2), wrap64 ((mget 0 x6_3 (0, (rd_T107 l1_3 x55_3).f2)) + ((rd_T107 l1_3 x55_3).f3))) :: x6_3 : List (((Int × Int) × Int)))).bind fun y292 => (if -9223372036854775808 ≤ ((rd_T107 l1_3 x55_3).f1) then (if ((rd_T107 l1_3 x55_3).f1) ≤ 9223372036854775807 then (if y292.length < 140737488355328 then (impl_entryIn.l1 k3 (((1, (rd_T107 l1_3 x55_3).f1), wrap64 ((mget 0 y292 (1, (rd_T107 l1_3 x55_3).f1)) + ((rd_T107 l1_3 x55_3).f4))) :: y292) l1_3 (l1_3.length : Int) (wrap64 (x55_3 + 1)) l0_0 a0_1 a0_2) else (none)) else (none)) else (none))) else (none)) else (none)) else (none)) else (some false)) else (if -9223372036854775808 ≤ ((rd_T107 l1_3 x55_3).f2) then (if ((rd_T107 l1_3 x55_3).f2) ≤ 9223372036854775807 then (if x6_3.length < 140737488355328 then ((some (((0, (rd_T107 l1_3 x55_3).f2), wrap64 ((mget 0 x6_3 (0, (rd_T107 l1_3 x55_3).f2)) + ((rd_T107 l1_3 x55_3).f3))) :: x6_3 : List (((Int × Int) × Int)))).bind fun y298 => (if -9223372036854775808 ≤ ((rd_T107 l1_3 x55_3).f1) then (if ((rd_T107 l1_3 x55_3).f1) ≤ 9223372036854775807 then (if y298.length < 140737488355328 then (impl_entryIn.l1 k3 (((1, (rd_T107 l1_3 x55_3).f1), wrap64 ((mget 0 y298 (1, (rd_T107 l1_3 x55_3).f1)) + ((rd_T107 l1_3 x55_3).f4))) :: y298) l1_3 (l1_3.length : Int) (wrap64 (x55_3 + 1)) l0_0 a0_1 a0_2) else (none)) else (none)) else (none))) else (none)) else (none)) else (none))) else (some false))) else (some false))) else (some false)) = some r := H
       have A43 := Aside0.mk A430; clear A430
       by_cases c44 : t288 = true
       rotate_left
       ·replace c44 := Bool.eq_false_iff.mpr c44; subst c44; rw [if_neg Bool.false_ne_true] at H; obtain rfl := Option.some.inj H; have p284 : 0 ≤ (x55_3 : Int) := of_decide_eq_true tZE; have q284 : x55_3 < (l1_3.length : Int) := of_decide_eq_true tZE; obtain ⟨ad284, e284, hx284_0, hx284_1, hx284_2, hx284_3, hx284_4⟩ := at_T107 HR1_3.out x55_3 p284 q284
        cases e284
        replace hx284_0 := cZ HB hx284_0; replace hx284_1 := cZ HB hx284_1; replace hx284_2 := cZ HB hx284_2; replace hx284_3 := cZ HB hx284_3; replace hx284_4 := cZ HB hx284_4; replace p284 := eq_true p284; replace q284 := eq_true q284
        go_wp2_with (first | ((with_reducible refine gate_dst (N := 8) rfl ?_); (try (refine gate_guard (by rfl) ?_; dsimp only)); refine box_event tZR (N := 8) tZR (cs := #[.int .i64 0, .int .i64 0, .int .i64 0, .int .i64 0, .int .i64 0]) (t := 107) tZS ?_; intro gb285 hg w115 hbox hb; replace HO_6 := aZ (Kd.Y_below (lZY HO_6.out) hb); have BK285 := aZ (hbox); have GW285 := aZ ((by rw [hg]; exact (below_size bZ) : w.heap.size ≤ gb285)); have GE285 := GW285; replace HB := aZ (below_step bZ hb); have NB277_285 := aZ ((nLt hg (bkZ BK277.out) : gb277 ≠ gb285)); have NB285_277 := aZ ((nGt hg (bkZ BK277.out) : gb285 ≠ gb277)); replace BK277 := aZ (blk_below (bkZ BK277.out) hb); have NB278_285 := aZ ((nLt hg (bkZ BK278.out) : gb278 ≠ gb285)); have NB285_278 := aZ ((nGt hg (bkZ BK278.out) : gb285 ≠ gb278)); replace BK278 := aZ (blk_below (bkZ BK278.out) hb); clear hb hbox hg; have hnb116 := NB285_277.out; have hnc116 := NB277_285.out; have hnb117 := NB285_278.out; have hnc117 := NB278_285.out; obtain ⟨hcz118_0, hcz118_1, hcz118_2, hcz118_3, hcz118_4, hfz118_0, hfz118_1, hfz118_2, hfz118_3, hfz118_4⟩ := bc5 BK285.out; have hnb119 := NB277_278.out; have hnc119 := NB278_277.out; obtain ⟨hcz120_0, hcz120_1, hcz120_2, hfz120_0, hfz120_1, hfz120_2⟩ := bc3 BK277.out) | ((with_reducible refine gate_callee (f := 169) rfl ?_); refine goesL_ (some 63) rfl rfl Try.func169 kZ rfl #[.slice A0_0 l0_0.length c0_0, .int .i64 ((rd_T107 l1_3 x55_3).f0)] rfl tZA ?_; (with_reducible refine (impl_leafAt.calls _ _ l0_0 ((rd_T107 l1_3 x55_3).f0) true _ ?side1 ?side2 A39.out).mono ?_); (case side1 => exact Kd.C_below HR0_0.out bZ); (case side2 => exact HC0_0.out); rintro e w' ⟨rfl, ⟨nd, rfl⟩⟩; refine ⟨_, rfl, ?_⟩) | (go_at_call 71; (with_reducible refine (impl_between.calls ((rd_T107 l1_3 x55_3).f1) 0 (wrap64 (a0_1 - 1)) true _ A41.out).mono ?_); rintro e w' ⟨rfl, ⟨nd, rfl⟩⟩) | (go_at_call 71; (with_reducible refine (impl_between.calls ((rd_T107 l1_3 x55_3).f2) 0 (wrap64 (a0_2 - 1)) false _ A43.out).mono ?_); rintro e w' ⟨rfl, ⟨nd, rfl⟩⟩))
        go_ret; exact ⟨tZC, bZ⟩
       subst c44; rw [if_pos rfl] at H; replace H := Option.bind_eq_some_iff.mp H; obtain ⟨t289, A450, H⟩ := H
       replace H : (if t289 = true then ((impl_amount.f ((rd_T107 l1_3 x55_3).f4)).bind fun t290 => (if t290 = true then (if ((rd_T107 l1_3 x55_3).f2) = 0 then (if ((rd_T107 l1_3 x55_3).f3) = ((rd_T107 l1_3 x55_3).f4) then (if -9223372036854775808 ≤ ((rd_T107 l1_3 x55_3).f2) then (if ((rd_T107 l1_3 x55_3).f2) ≤ 9223372036854775807 then (if x6_3.length < 140737488355328 then ((some (((0, (rd_T107 l1_3 x55_3).f2), wrap64 ((mget 0 x6_3 (0, (rd_T107 l1_3 x55_3).f2)) + ((rd_T107 l1_3 x55_3).f3))) :: x6_3 : List (((Int × Int) × Int)))).bind fun y292 => (if -9223372036854775808 ≤ ((rd_T107 l1_3 x55_3).f1) then (if ((rd_T107 l1_3 x55_3).f1) ≤ 9223372036854775807 then (if y292.length < 140737488355328 then (impl_entryIn.l1 k3 (((1, (rd_T107 l1_3 x55_3).f1), wrap64 ((mget 0 y292 (1, (rd_T107 l1_3 x55_3).f1)) + ((rd_T107 l1_3 x55_3).f4))) :: y292) l1_3 (l1_3.length : Int) (wrap64 (x55_3 + 1)) l0_0 a0_1 a0_2) else (none)) else (none)) else (none))) else (none)) else (none)) else (none)) else (some false)) else (if -9223372036854775808 ≤ ((rd_T107 l1_3 x55_3).f2) then (if ((rd_T107 l1_3 x55_3).f2) ≤ 9223372036854775807 then (if x6_3.length < 140737488355328 then ((some (((0, (rd_T107 l1_3 x55_3).f2), wrap64 ((mget 0 x6_3 (0, (rd_T107 l1_3 x55_3).f2)) + ((rd_T107 l1_3 x55_3).f3))) :: x6_3 : List (((Int × Int) × Int)))).bind fun y298 => (if -9223372036854775808 ≤ ((rd_T107 l1_3 x55_3).f1) then (if ((rd_T107 l1_3 x55_3).f1) ≤ 9223372036854775807 then (if y298.length < 140737488355328 then (impl_entryIn.l1 k3 (((1, (rd_T107 l1_3 x55_3).f1), wrap64 ((mget 0 y298 (1, (rd_T107 l1_3 x55_3).f1)) + ((rd_T107 l1_3 x55_3).f4))) :: y298) l1_3 (l1_3.length : Int) (wrap64 (x55_3 + 1)) l0_0 a0_1 a0_2) else (none)) else (none)) else (none))) else (none)) else (none)) else (none))) else (some false))) else (some false)) = some r := H
       have A45 := Aside0.mk A450; clear A450
       by_cases c46 : t289 = true
       rotate_left
       ·replace c46 := Bool.eq_false_iff.mpr c46; subst c46; rw [if_neg Bool.false_ne_true] at H; obtain rfl := Option.some.inj H; have p284 : 0 ≤ (x55_3 : Int) := of_decide_eq_true tZE; have q284 : x55_3 < (l1_3.length : Int) := of_decide_eq_true tZE; obtain ⟨ad284, e284, hx284_0, hx284_1, hx284_2, hx284_3, hx284_4⟩ := at_T107 HR1_3.out x55_3 p284 q284
        cases e284
        replace hx284_0 := cZ HB hx284_0; replace hx284_1 := cZ HB hx284_1; replace hx284_2 := cZ HB hx284_2; replace hx284_3 := cZ HB hx284_3; replace hx284_4 := cZ HB hx284_4; replace p284 := eq_true p284; replace q284 := eq_true q284
        go_wp2_with (first | ((with_reducible refine gate_dst (N := 8) rfl ?_); (try (refine gate_guard (by rfl) ?_; dsimp only)); refine box_event tZR (N := 8) tZR (cs := #[.int .i64 0, .int .i64 0, .int .i64 0, .int .i64 0, .int .i64 0]) (t := 107) tZS ?_; intro gb285 hg w109 hbox hb; replace HO_6 := aZ (Kd.Y_below (lZY HO_6.out) hb); have BK285 := aZ (hbox); have GW285 := aZ ((by rw [hg]; exact (below_size bZ) : w.heap.size ≤ gb285)); have GE285 := GW285; replace HB := aZ (below_step bZ hb); have NB277_285 := aZ ((nLt hg (bkZ BK277.out) : gb277 ≠ gb285)); have NB285_277 := aZ ((nGt hg (bkZ BK277.out) : gb285 ≠ gb277)); replace BK277 := aZ (blk_below (bkZ BK277.out) hb); have NB278_285 := aZ ((nLt hg (bkZ BK278.out) : gb278 ≠ gb285)); have NB285_278 := aZ ((nGt hg (bkZ BK278.out) : gb285 ≠ gb278)); replace BK278 := aZ (blk_below (bkZ BK278.out) hb); clear hb hbox hg; have hnb110 := NB285_277.out; have hnc110 := NB277_285.out; have hnb111 := NB285_278.out; have hnc111 := NB278_285.out; obtain ⟨hcz112_0, hcz112_1, hcz112_2, hcz112_3, hcz112_4, hfz112_0, hfz112_1, hfz112_2, hfz112_3, hfz112_4⟩ := bc5 BK285.out; have hnb113 := NB277_278.out; have hnc113 := NB278_277.out; obtain ⟨hcz114_0, hcz114_1, hcz114_2, hfz114_0, hfz114_1, hfz114_2⟩ := bc3 BK277.out) | ((with_reducible refine gate_callee (f := 169) rfl ?_); refine goesL_ (some 63) rfl rfl Try.func169 kZ rfl #[.slice A0_0 l0_0.length c0_0, .int .i64 ((rd_T107 l1_3 x55_3).f0)] rfl tZA ?_; (with_reducible refine (impl_leafAt.calls _ _ l0_0 ((rd_T107 l1_3 x55_3).f0) true _ ?side1 ?side2 A39.out).mono ?_); (case side1 => exact Kd.C_below HR0_0.out bZ); (case side2 => exact HC0_0.out); rintro e w' ⟨rfl, ⟨nd, rfl⟩⟩; refine ⟨_, rfl, ?_⟩) | (go_at_call 71; (with_reducible refine (impl_between.calls ((rd_T107 l1_3 x55_3).f1) 0 (wrap64 (a0_1 - 1)) true _ A41.out).mono ?_); rintro e w' ⟨rfl, ⟨nd, rfl⟩⟩) | (go_at_call 71; (with_reducible refine (impl_between.calls ((rd_T107 l1_3 x55_3).f2) 0 (wrap64 (a0_2 - 1)) true _ A43.out).mono ?_); rintro e w' ⟨rfl, ⟨nd, rfl⟩⟩) | (go_at_call 65; (with_reducible refine (impl_amount.calls ((rd_T107 l1_3 x55_3).f3) false _ A45.out).mono ?_); rintro e w' ⟨rfl, ⟨nd, rfl⟩⟩))
        go_ret; exact ⟨tZC, bZ⟩
       subst c46; rw [if_pos rfl] at H; replace H := Option.bind_eq_some_iff.mp H; obtain ⟨t290, A470, H⟩ := H
       replace H : (if t290 = true then (if ((rd_T107 l1_3 x55_3).f2) = 0 then (if ((rd_T107 l1_3 x55_3).f3) = ((rd_T107 l1_3 x55_3).f4) then (if -9223372036854775808 ≤ ((rd_T107 l1_3 x55_3).f2) then (if ((rd_T107 l1_3 x55_3).f2) ≤ 9223372036854775807 then (if x6_3.length < 140737488355328 then ((some (((0, (rd_T107 l1_3 x55_3).f2), wrap64 ((mget 0 x6_3 (0, (rd_T107 l1_3 x55_3).f2)) + ((rd_T107 l1_3 x55_3).f3))) :: x6_3 : List (((Int × Int) × Int)))).bind fun y292 => (if -9223372036854775808 ≤ ((rd_T107 l1_3 x55_3).f1) then (if ((rd_T107 l1_3 x55_3).f1) ≤ 9223372036854775807 then (if y292.length < 140737488355328 then (impl_entryIn.l1 k3 (((1, (rd_T107 l1_3 x55_3).f1), wrap64 ((mget 0 y292 (1, (rd_T107 l1_3 x55_3).f1)) + ((rd_T107 l1_3 x55_3).f4))) :: y292) l1_3 (l1_3.length : Int) (wrap64 (x55_3 + 1)) l0_0 a0_1 a0_2) else (none)) else (none)) else (none))) else (none)) else (none)) else (none)) else (some false)) else (if -9223372036854775808 ≤ ((rd_T107 l1_3 x55_3).f2) then (if ((rd_T107 l1_3 x55_3).f2) ≤ 9223372036854775807 then (if x6_3.length < 140737488355328 then ((some (((0, (rd_T107 l1_3 x55_3).f2), wrap64 ((mget 0 x6_3 (0, (rd_T107 l1_3 x55_3).f2)) + ((rd_T107 l1_3 x55_3).f3))) :: x6_3 : List (((Int × Int) × Int)))).bind fun y298 => (if -9223372036854775808 ≤ ((rd_T107 l1_3 x55_3).f1) then (if ((rd_T107 l1_3 x55_3).f1) ≤ 9223372036854775807 then (if y298.length < 140737488355328 then (impl_entryIn.l1 k3 (((1, (rd_T107 l1_3 x55_3).f1), wrap64 ((mget 0 y298 (1, (rd_T107 l1_3 x55_3).f1)) + ((rd_T107 l1_3 x55_3).f4))) :: y298) l1_3 (l1_3.length : Int) (wrap64 (x55_3 + 1)) l0_0 a0_1 a0_2) else (none)) else (none)) else (none))) else (none)) else (none)) else (none))) else (some false)) = some r := H
       have A47 := Aside0.mk A470; clear A470
       by_cases c48 : t290 = true
       rotate_left
       ·replace c48 := Bool.eq_false_iff.mpr c48; subst c48; rw [if_neg Bool.false_ne_true] at H; obtain rfl := Option.some.inj H; have p284 : 0 ≤ (x55_3 : Int) := of_decide_eq_true tZE; have q284 : x55_3 < (l1_3.length : Int) := of_decide_eq_true tZE; obtain ⟨ad284, e284, hx284_0, hx284_1, hx284_2, hx284_3, hx284_4⟩ := at_T107 HR1_3.out x55_3 p284 q284
        cases e284
        replace hx284_0 := cZ HB hx284_0; replace hx284_1 := cZ HB hx284_1; replace hx284_2 := cZ HB hx284_2; replace hx284_3 := cZ HB hx284_3; replace hx284_4 := cZ HB hx284_4; replace p284 := eq_true p284; replace q284 := eq_true q284
        go_wp2_with (first | ((with_reducible refine gate_dst (N := 8) rfl ?_); (try (refine gate_guard (by rfl) ?_; dsimp only)); refine box_event tZR (N := 8) tZR (cs := #[.int .i64 0, .int .i64 0, .int .i64 0, .int .i64 0, .int .i64 0]) (t := 107) tZS ?_; intro gb285 hg w103 hbox hb; replace HO_6 := aZ (Kd.Y_below (lZY HO_6.out) hb); have BK285 := aZ (hbox); have GW285 := aZ ((by rw [hg]; exact (below_size bZ) : w.heap.size ≤ gb285)); have GE285 := GW285; replace HB := aZ (below_step bZ hb); have NB277_285 := aZ ((nLt hg (bkZ BK277.out) : gb277 ≠ gb285)); have NB285_277 := aZ ((nGt hg (bkZ BK277.out) : gb285 ≠ gb277)); replace BK277 := aZ (blk_below (bkZ BK277.out) hb); have NB278_285 := aZ ((nLt hg (bkZ BK278.out) : gb278 ≠ gb285)); have NB285_278 := aZ ((nGt hg (bkZ BK278.out) : gb285 ≠ gb278)); replace BK278 := aZ (blk_below (bkZ BK278.out) hb); clear hb hbox hg; have hnb104 := NB285_277.out; have hnc104 := NB277_285.out; have hnb105 := NB285_278.out; have hnc105 := NB278_285.out; obtain ⟨hcz106_0, hcz106_1, hcz106_2, hcz106_3, hcz106_4, hfz106_0, hfz106_1, hfz106_2, hfz106_3, hfz106_4⟩ := bc5 BK285.out; have hnb107 := NB277_278.out; have hnc107 := NB278_277.out; obtain ⟨hcz108_0, hcz108_1, hcz108_2, hfz108_0, hfz108_1, hfz108_2⟩ := bc3 BK277.out) | ((with_reducible refine gate_callee (f := 169) rfl ?_); refine goesL_ (some 63) rfl rfl Try.func169 kZ rfl #[.slice A0_0 l0_0.length c0_0, .int .i64 ((rd_T107 l1_3 x55_3).f0)] rfl tZA ?_; (with_reducible refine (impl_leafAt.calls _ _ l0_0 ((rd_T107 l1_3 x55_3).f0) true _ ?side1 ?side2 A39.out).mono ?_); (case side1 => exact Kd.C_below HR0_0.out bZ); (case side2 => exact HC0_0.out); rintro e w' ⟨rfl, ⟨nd, rfl⟩⟩; refine ⟨_, rfl, ?_⟩) | (go_at_call 71; (with_reducible refine (impl_between.calls ((rd_T107 l1_3 x55_3).f1) 0 (wrap64 (a0_1 - 1)) true _ A41.out).mono ?_); rintro e w' ⟨rfl, ⟨nd, rfl⟩⟩) | (go_at_call 71; (with_reducible refine (impl_between.calls ((rd_T107 l1_3 x55_3).f2) 0 (wrap64 (a0_2 - 1)) true _ A43.out).mono ?_); rintro e w' ⟨rfl, ⟨nd, rfl⟩⟩) | (go_at_call 65; (with_reducible refine (impl_amount.calls ((rd_T107 l1_3 x55_3).f3) true _ A45.out).mono ?_); rintro e w' ⟨rfl, ⟨nd, rfl⟩⟩) | (go_at_call 65; (with_reducible refine (impl_amount.calls ((rd_T107 l1_3 x55_3).f4) false _ A47.out).mono ?_); rintro e w' ⟨rfl, ⟨nd, rfl⟩⟩))
        go_ret; exact ⟨tZC, bZ⟩
       subst c48; rw [if_pos rfl] at H
       by_cases c49 : ((rd_T107 l1_3 x55_3).f2) = 0
       rotate_left
       ·rw [if_neg c49] at H; have c49b0 : (((rd_T107 l1_3 x55_3).f2) == 0) = false := beq_eq_false_iff_ne.mpr c49; have c49b1 : (((rd_T107 l1_3 x55_3).f2) != 0) = true := bne_iff_ne.mpr c49
        by_cases c80 : -9223372036854775808 ≤ ((rd_T107 l1_3 x55_3).f2)
        rotate_left
        ·rw [if_neg c80] at H; exact absurd H (by simp)
        rw [if_pos c80] at H; have c80b0 := eq_true c80; have c80b1 := decide_eq_true c80; clear c80
        by_cases c81 : ((rd_T107 l1_3 x55_3).f2) ≤ 9223372036854775807
        rotate_left
        ·rw [if_neg c81] at H; exact absurd H (by simp)
        rw [if_pos c81] at H; have c81b0 := eq_true c81; have c81b1 := decide_eq_true c81
        try have c81b2 := eq_false (Nat.not_lt.2 c81)
        clear c81
        by_cases c82 : x6_3.length < 140737488355328
        rotate_left
        ·rw [if_neg c82] at H; exact absurd H (by simp)
        rw [if_pos c82] at H; have LMc82 := Aside0.mk c82; clear c82; obtain ⟨y298, hy298⟩ : ∃ y_ : List (((Int × Int) × Int)), y_ = (((0, (rd_T107 l1_3 x55_3).f2), wrap64 ((mget 0 x6_3 (0, (rd_T107 l1_3 x55_3).f2)) + ((rd_T107 l1_3 x55_3).f3))) :: x6_3) := ⟨_, rfl⟩
        replace H : (if -9223372036854775808 ≤ ((rd_T107 l1_3 x55_3).f1) then (if ((rd_T107 l1_3 x55_3).f1) ≤ 9223372036854775807 then (if y298.length < 140737488355328 then (impl_entryIn.l1 k3 (((1, (rd_T107 l1_3 x55_3).f1), wrap64 ((mget 0 y298 (1, (rd_T107 l1_3 x55_3).f1)) + ((rd_T107 l1_3 x55_3).f4))) :: y298) l1_3 (l1_3.length : Int) (wrap64 (x55_3 + 1)) l0_0 a0_1 a0_2) else (none)) else (none)) else (none)) = some r := by first | (rw [hy298]; with_reducible exact H) | (have H2_ := (Option.bind_some _ _).symm.trans H; rw [hy298]; with_reducible exact H2_) | (have H2_ := (Option.bind_some _ _).symm.trans H; with_reducible exact H2_) | with_reducible exact H | (rw [hy298]; exact H) | exact H
        have Ny298 := Aside0.mk hy298; clear hy298
        by_cases c83 : -9223372036854775808 ≤ ((rd_T107 l1_3 x55_3).f1)
        rotate_left
        ·rw [if_neg c83] at H; exact absurd H (by simp)
        rw [if_pos c83] at H; have c83b0 := eq_true c83; have c83b1 := decide_eq_true c83; clear c83
        by_cases c84 : ((rd_T107 l1_3 x55_3).f1) ≤ 9223372036854775807
        rotate_left
        ·rw [if_neg c84] at H; exact absurd H (by simp)
        rw [if_pos c84] at H; have c84b0 := eq_true c84; have c84b1 := decide_eq_true c84
        try have c84b2 := eq_false (Nat.not_lt.2 c84)
        clear c84
        by_cases c85 : y298.length < 140737488355328
        rotate_left
        ·rw [if_neg c85] at H; exact absurd H (by simp)
        rw [if_pos c85] at H; have LMc85 := Aside0.mk c85; clear c85; obtain ⟨y301, hy301⟩ : ∃ y_ : List (((Int × Int) × Int)), y_ = (((1, (rd_T107 l1_3 x55_3).f1), wrap64 ((mget 0 y298 (1, (rd_T107 l1_3 x55_3).f1)) + ((rd_T107 l1_3 x55_3).f4))) :: y298) := ⟨_, rfl⟩; replace H : (impl_entryIn.l1 k3 y301 l1_3 (l1_3.length : Int) (wrap64 (x55_3 + 1)) l0_0 a0_1 a0_2) = some r := by first | (rw [hy301]; with_reducible exact H) | (have H2_ := (Option.bind_some _ _).symm.trans H; rw [hy301]; with_reducible exact H2_) | (have H2_ := (Option.bind_some _ _).symm.trans H; with_reducible exact H2_) | with_reducible exact H | (rw [hy301]; exact H) | exact H
        have Ny301 := Aside0.mk hy301; clear hy301; have H' := Aside0.mk H; clear H; have p284 : 0 ≤ (x55_3 : Int) := of_decide_eq_true tZE; have q284 : x55_3 < (l1_3.length : Int) := of_decide_eq_true tZE; obtain ⟨ad284, e284, hx284_0, hx284_1, hx284_2, hx284_3, hx284_4⟩ := at_T107 HR1_3.out x55_3 p284 q284
        cases e284
        replace hx284_0 := cZ HB hx284_0; replace hx284_1 := cZ HB hx284_1; replace hx284_2 := cZ HB hx284_2; replace hx284_3 := cZ HB hx284_3; replace hx284_4 := cZ HB hx284_4; replace p284 := eq_true p284; replace q284 := eq_true q284
        try go_wp2_with (first | ((with_reducible refine gate_dst (N := 8) rfl ?_); (try (refine gate_guard (by rfl) ?_; dsimp only)); refine box_event tZR (N := 8) tZR (cs := #[.int .i64 0, .int .i64 0, .int .i64 0, .int .i64 0, .int .i64 0]) (t := 107) tZS ?_; intro gb285 hg w86 hbox hb; replace HO_6 := aZ (Kd.Y_below (lZY HO_6.out) hb); have BK285 := aZ (hbox); have GW285 := aZ ((by rw [hg]; exact (below_size bZ) : w.heap.size ≤ gb285)); have GE285 := GW285; replace HB := aZ (below_step bZ hb); have NB277_285 := aZ ((nLt hg (bkZ BK277.out) : gb277 ≠ gb285)); have NB285_277 := aZ ((nGt hg (bkZ BK277.out) : gb285 ≠ gb277)); replace BK277 := aZ (blk_below (bkZ BK277.out) hb); have NB278_285 := aZ ((nLt hg (bkZ BK278.out) : gb278 ≠ gb285)); have NB285_278 := aZ ((nGt hg (bkZ BK278.out) : gb285 ≠ gb278)); replace BK278 := aZ (blk_below (bkZ BK278.out) hb); clear hb hbox hg; have hnb87 := NB285_277.out; have hnc87 := NB277_285.out; have hnb88 := NB285_278.out; have hnc88 := NB278_285.out; obtain ⟨hcz89_0, hcz89_1, hcz89_2, hcz89_3, hcz89_4, hfz89_0, hfz89_1, hfz89_2, hfz89_3, hfz89_4⟩ := bc5 BK285.out; have hnb90 := NB277_278.out; have hnc90 := NB278_277.out; obtain ⟨hcz91_0, hcz91_1, hcz91_2, hfz91_0, hfz91_1, hfz91_2⟩ := bc3 BK277.out) | ((with_reducible refine gate_callee (f := 169) rfl ?_); refine goesL_ (some 63) rfl rfl Try.func169 kZ rfl #[.slice A0_0 l0_0.length c0_0, .int .i64 ((rd_T107 l1_3 x55_3).f0)] rfl tZA ?_; (with_reducible refine (impl_leafAt.calls _ _ l0_0 ((rd_T107 l1_3 x55_3).f0) true _ ?side1 ?side2 A39.out).mono ?_); (case side1 => exact Kd.C_below HR0_0.out bZ); (case side2 => exact HC0_0.out); rintro e w' ⟨rfl, ⟨nd, rfl⟩⟩; refine ⟨_, rfl, ?_⟩) | (go_at_call 71; (with_reducible refine (impl_between.calls ((rd_T107 l1_3 x55_3).f1) 0 (wrap64 (a0_1 - 1)) true _ A41.out).mono ?_); rintro e w' ⟨rfl, ⟨nd, rfl⟩⟩) | (go_at_call 71; (with_reducible refine (impl_between.calls ((rd_T107 l1_3 x55_3).f2) 0 (wrap64 (a0_2 - 1)) true _ A43.out).mono ?_); rintro e w' ⟨rfl, ⟨nd, rfl⟩⟩) | (go_at_call 65; (with_reducible refine (impl_amount.calls ((rd_T107 l1_3 x55_3).f3) true _ A45.out).mono ?_); rintro e w' ⟨rfl, ⟨nd, rfl⟩⟩) | (go_at_call 65; (with_reducible refine (impl_amount.calls ((rd_T107 l1_3 x55_3).f4) true _ A47.out).mono ?_); rintro e w' ⟨rfl, ⟨nd, rfl⟩⟩))
        have n0_ : Aside0 (Kd.Y my225 225 (((((w86.setCell ⟨gb285, 0, none⟩ (.int .i64 ((rd_T107 l1_3 x55_3).f0))).setCell ⟨gb285, 1, none⟩ (.int .i64 ((rd_T107 l1_3 x55_3).f1))).setCell ⟨gb285, 2, none⟩ (.int .i64 ((rd_T107 l1_3 x55_3).f2))).setCell ⟨gb285, 3, none⟩ (.int .i64 ((rd_T107 l1_3 x55_3).f3))).setCell ⟨gb285, 4, none⟩ (.int .i64 ((rd_T107 l1_3 x55_3).f4))) w.heap.size (fun _ => True) v282 x6_3) := ⟨by (with_reducible repeat (first | apply Kd.Y_alloc | apply Kd.Y_drewN | apply Kd.Y_drew)); exact Kd.Y_mono (Kd.Y_far (p := ⟨gb285, 4, none⟩) (Kd.Y_far (p := ⟨gb285, 3, none⟩) (Kd.Y_far (p := ⟨gb285, 2, none⟩) (Kd.Y_far (p := ⟨gb285, 1, none⟩) (Kd.Y_far (p := ⟨gb285, 0, none⟩) (Kd.Y_types HO_6.out BK285.out (by decide)) (fun _ hk => hk.2) (.int .i64 ((rd_T107 l1_3 x55_3).f0))) (fun _ hk => hk.2) (.int .i64 ((rd_T107 l1_3 x55_3).f1))) (fun _ hk => hk.2) (.int .i64 ((rd_T107 l1_3 x55_3).f2))) (fun _ hk => hk.2) (.int .i64 ((rd_T107 l1_3 x55_3).f3))) (fun _ hk => hk.2) (.int .i64 ((rd_T107 l1_3 x55_3).f4))) (fun _ hk => trivial)⟩
        have n1_ : Aside0 ((((((w86.setCell ⟨gb285, 0, none⟩ (.int .i64 ((rd_T107 l1_3 x55_3).f0))).setCell ⟨gb285, 1, none⟩ (.int .i64 ((rd_T107 l1_3 x55_3).f1))).setCell ⟨gb285, 2, none⟩ (.int .i64 ((rd_T107 l1_3 x55_3).f2))).setCell ⟨gb285, 3, none⟩ (.int .i64 ((rd_T107 l1_3 x55_3).f3))).setCell ⟨gb285, 4, none⟩ (.int .i64 ((rd_T107 l1_3 x55_3).f4))).heap[gb277]? = some (.cells #[.slice A0_0 l0_0.length c0_0, .int .i64 a0_1, .int .i64 a0_2] 81 (0, 0))) := ⟨by (with_reducible repeat (first | refine blk_drewN ?_ _ | refine blk_drew ?_ | refine blk_alloc ?_ _)); refine blk_far ?_ NB277_285.out _; (with_reducible repeat (first | refine blk_drewN ?_ _ | refine blk_drew ?_ | refine blk_alloc ?_ _)); refine blk_far ?_ NB277_285.out _; (with_reducible repeat (first | refine blk_drewN ?_ _ | refine blk_drew ?_ | refine blk_alloc ?_ _)); refine blk_far ?_ NB277_285.out _; (with_reducible repeat (first | refine blk_drewN ?_ _ | refine blk_drew ?_ | refine blk_alloc ?_ _)); refine blk_far ?_ NB277_285.out _; (with_reducible repeat (first | refine blk_drewN ?_ _ | refine blk_drew ?_ | refine blk_alloc ?_ _)); refine blk_far ?_ NB277_285.out _; (with_reducible repeat (first | refine blk_drewN ?_ _ | refine blk_drew ?_ | refine blk_alloc ?_ _)); exact BK277.out⟩
        have n2_ : Aside0 ((((((w86.setCell ⟨gb285, 0, none⟩ (.int .i64 ((rd_T107 l1_3 x55_3).f0))).setCell ⟨gb285, 1, none⟩ (.int .i64 ((rd_T107 l1_3 x55_3).f1))).setCell ⟨gb285, 2, none⟩ (.int .i64 ((rd_T107 l1_3 x55_3).f2))).setCell ⟨gb285, 3, none⟩ (.int .i64 ((rd_T107 l1_3 x55_3).f3))).setCell ⟨gb285, 4, none⟩ (.int .i64 ((rd_T107 l1_3 x55_3).f4))).heap[gb278]? = some (.cells #[.int .i64 a1_0, .int .i64 a1_1, .string a1_2, .slice (some ad284) l1_3.length c1_3] 103 (0, 0))) := ⟨by (with_reducible repeat (first | refine blk_drewN ?_ _ | refine blk_drew ?_ | refine blk_alloc ?_ _)); refine blk_far ?_ NB278_285.out _; (with_reducible repeat (first | refine blk_drewN ?_ _ | refine blk_drew ?_ | refine blk_alloc ?_ _)); refine blk_far ?_ NB278_285.out _; (with_reducible repeat (first | refine blk_drewN ?_ _ | refine blk_drew ?_ | refine blk_alloc ?_ _)); refine blk_far ?_ NB278_285.out _; (with_reducible repeat (first | refine blk_drewN ?_ _ | refine blk_drew ?_ | refine blk_alloc ?_ _)); refine blk_far ?_ NB278_285.out _; (with_reducible repeat (first | refine blk_drewN ?_ _ | refine blk_drew ?_ | refine blk_alloc ?_ _)); refine blk_far ?_ NB278_285.out _; (with_reducible repeat (first | refine blk_drewN ?_ _ | refine blk_drew ?_ | refine blk_alloc ?_ _)); exact BK278.out⟩
        have n3_ : Aside0 ((((((w86.setCell ⟨gb285, 0, none⟩ (.int .i64 ((rd_T107 l1_3 x55_3).f0))).setCell ⟨gb285, 1, none⟩ (.int .i64 ((rd_T107 l1_3 x55_3).f1))).setCell ⟨gb285, 2, none⟩ (.int .i64 ((rd_T107 l1_3 x55_3).f2))).setCell ⟨gb285, 3, none⟩ (.int .i64 ((rd_T107 l1_3 x55_3).f3))).setCell ⟨gb285, 4, none⟩ (.int .i64 ((rd_T107 l1_3 x55_3).f4))).heap[gb285]? = some (.cells #[.int .i64 ((rd_T107 l1_3 x55_3).f0), .int .i64 ((rd_T107 l1_3 x55_3).f1), .int .i64 ((rd_T107 l1_3 x55_3).f2), .int .i64 ((rd_T107 l1_3 x55_3).f3), .int .i64 ((rd_T107 l1_3 x55_3).f4)] 107 (0, 0))) := ⟨by (with_reducible repeat (first | refine blk_drewN ?_ _ | refine blk_drew ?_ | refine blk_alloc ?_ _)); refine blk_put (cs := #[.int .i64 ((rd_T107 l1_3 x55_3).f0), .int .i64 ((rd_T107 l1_3 x55_3).f1), .int .i64 ((rd_T107 l1_3 x55_3).f2), .int .i64 ((rd_T107 l1_3 x55_3).f3), .int .i64 0]) ?_ 4 _ rfl; (with_reducible repeat (first | refine blk_drewN ?_ _ | refine blk_drew ?_ | refine blk_alloc ?_ _)); refine blk_put (cs := #[.int .i64 ((rd_T107 l1_3 x55_3).f0), .int .i64 ((rd_T107 l1_3 x55_3).f1), .int .i64 ((rd_T107 l1_3 x55_3).f2), .int .i64 0, .int .i64 0]) ?_ 3 _ rfl; (with_reducible repeat (first | refine blk_drewN ?_ _ | refine blk_drew ?_ | refine blk_alloc ?_ _)); refine blk_put (cs := #[.int .i64 ((rd_T107 l1_3 x55_3).f0), .int .i64 ((rd_T107 l1_3 x55_3).f1), .int .i64 0, .int .i64 0, .int .i64 0]) ?_ 2 _ rfl; (with_reducible repeat (first | refine blk_drewN ?_ _ | refine blk_drew ?_ | refine blk_alloc ?_ _)); refine blk_put (cs := #[.int .i64 ((rd_T107 l1_3 x55_3).f0), .int .i64 0, .int .i64 0, .int .i64 0, .int .i64 0]) ?_ 1 _ rfl; (with_reducible repeat (first | refine blk_drewN ?_ _ | refine blk_drew ?_ | refine blk_alloc ?_ _)); refine blk_put (cs := #[.int .i64 0, .int .i64 0, .int .i64 0, .int .i64 0, .int .i64 0]) ?_ 0 _ rfl; (with_reducible repeat (first | refine blk_drewN ?_ _ | refine blk_drew ?_ | refine blk_alloc ?_ _)); exact BK285.out⟩
        have n4_ : Aside0 (Below w.heap.size w (((((w86.setCell ⟨gb285, 0, none⟩ (.int .i64 ((rd_T107 l1_3 x55_3).f0))).setCell ⟨gb285, 1, none⟩ (.int .i64 ((rd_T107 l1_3 x55_3).f1))).setCell ⟨gb285, 2, none⟩ (.int .i64 ((rd_T107 l1_3 x55_3).f2))).setCell ⟨gb285, 3, none⟩ (.int .i64 ((rd_T107 l1_3 x55_3).f3))).setCell ⟨gb285, 4, none⟩ (.int .i64 ((rd_T107 l1_3 x55_3).f4)))) := ⟨bZ⟩; (try clear HO_6); (try clear BK277); (try clear BK278); (try clear BK285); (try clear HB); generalize (((((w86.setCell ⟨gb285, 0, none⟩ (.int .i64 ((rd_T107 l1_3 x55_3).f0))).setCell ⟨gb285, 1, none⟩ (.int .i64 ((rd_T107 l1_3 x55_3).f1))).setCell ⟨gb285, 2, none⟩ (.int .i64 ((rd_T107 l1_3 x55_3).f2))).setCell ⟨gb285, 3, none⟩ (.int .i64 ((rd_T107 l1_3 x55_3).f3))).setCell ⟨gb285, 4, none⟩ (.int .i64 ((rd_T107 l1_3 x55_3).f4))) = w92 at n0_ n1_ n2_ n3_ n4_ ⊢; have HO_6 := n0_; have BK277 := n1_
        have BK278 := n2_; have BK285 := n3_; have HB := n4_; clear n0_ n1_ n2_ n3_ n4_
        (try (rw [drewN_self w92]; generalize hq_ : World.drewN w92 _ = w92; replace HO_6 : Aside0 (Kd.Y my225 225 w92 w.heap.size (fun _ => True) v282 x6_3) := ⟨by rw [← hq_]; exact (lZY HO_6.out)⟩; replace BK277 : Aside0 (w92.heap[gb277]? = some (.cells #[.slice A0_0 l0_0.length c0_0, .int .i64 a0_1, .int .i64 a0_2] 81 (0, 0))) := ⟨by rw [← hq_]; exact (bkZ BK277.out)⟩; replace BK278 : Aside0 (w92.heap[gb278]? = some (.cells #[.int .i64 a1_0, .int .i64 a1_1, .string a1_2, .slice (some ad284) l1_3.length c1_3] 103 (0, 0))) := ⟨by rw [← hq_]; exact (bkZ BK278.out)⟩; replace BK285 : Aside0 (w92.heap[gb285]? = some (.cells #[.int .i64 ((rd_T107 l1_3 x55_3).f0), .int .i64 ((rd_T107 l1_3 x55_3).f1), .int .i64 ((rd_T107 l1_3 x55_3).f2), .int .i64 ((rd_T107 l1_3 x55_3).f3), .int .i64 ((rd_T107 l1_3 x55_3).f4)] 107 (0, 0))) := ⟨by rw [← hq_]; exact (bkZ BK285.out)⟩; replace HB : Aside0 (Below w.heap.size w w92) := ⟨by rw [← hq_]; exact bZ⟩; clear hq_))
        replace HO_6 := aZ (Kd.Y_drew HO_6.out); replace BK277 := aZ (blk_drew BK277.out); replace BK278 := aZ (blk_drew BK278.out); replace BK285 := aZ (blk_drew BK285.out); replace HB := aZ (below_drew1 HB.out)
        refine start_ (n := 11) (S := fun w' => w'.cell? ⟨gb285, 0, none⟩ = some (.int .i64 ((rd_T107 l1_3 x55_3).f0)) ∧ w'.cell? ⟨gb285, 1, none⟩ = some (.int .i64 ((rd_T107 l1_3 x55_3).f1)) ∧ w'.cell? ⟨gb285, 2, none⟩ = some (.int .i64 ((rd_T107 l1_3 x55_3).f2)) ∧ w'.cell? ⟨gb285, 3, none⟩ = some (.int .i64 ((rd_T107 l1_3 x55_3).f3)) ∧ w'.cell? ⟨gb285, 4, none⟩ = some (.int .i64 ((rd_T107 l1_3 x55_3).f4)) ∧ (Instr.lookup 225 v282 (.agg #[.int .i64 0, .int .i64 ((rd_T107 l1_3 x55_3).f2)]) false).run Try.prog w' = .ok (.int .i64 (mget 0 x6_3 (0, (rd_T107 l1_3 x55_3).f2))) w') (ds := [10]) L0' kZ rfl rfl ⟨(blk_cell BK285.out 0).trans rfl, (blk_cell BK285.out 1).trans rfl, (blk_cell BK285.out 2).trans rfl, (blk_cell BK285.out 3).trans rfl, (blk_cell BK285.out 4).trans rfl, (Kd.Y_get (m := my225) (e := 225) (lZY HO_6.out) (0, (rd_T107 l1_3 x55_3).f2) (show okPI _ from ⟨(show okI _ from by unfold okI; omega), (show okI _ from ⟨((of_decide_eq_true tZE) : -9223372036854775808 ≤ ((rd_T107 l1_3 x55_3).f2)), ((of_decide_eq_true tZE) : ((rd_T107 l1_3 x55_3).f2) ≤ 9223372036854775807)⟩)⟩))⟩ (fun hHeld => ?_); refine with_tabW impl_entryIn.tab14 impl_entryIn.bits14 (fun HT_ HW_ => ?_)
        generalize w92.drew = w93 at HO_6 BK277 BK278 BK285 HB hHeld ⊢; refine pure_ (i := 0) (N := some 107) (v := ?_) (a' := ?_) L1' rfl rfl (any_of HT_.out kZ) (fun _ _ _ h => h) (Or.inl ⟨by rfl, ?_⟩) ?_ ?_; rotate_left
        ·intro w'; go_simp; with_reducible rfl
        rotate_left
        ·simp only [Act.put, sZ1, sZ2, sZ3, i64_w, i32_w]; rfl
        refine pure_ (i := 1) (N := some 108) (v := ?_) (a' := ?_) L2' rfl rfl (any_of HT_.out kZ) (fun _ _ _ h => h) (Or.inl ⟨by rfl, ?_⟩) ?_ ?_; rotate_left
        ·intro w'; go_simp; with_reducible rfl
        rotate_left
        ·simp only [Act.put, sZ1, sZ2, sZ3, i64_w, i32_w]; rfl
        refine pure_ (i := 5) (N := some 112) (v := ?_) (a' := ?_) L3' rfl rfl (any_of HT_.out kZ) (fun _ _ _ h => h) (Or.inl ⟨by rfl, ?_⟩) ?_ ?_; rotate_left
        ·intro w'; go_simp; with_reducible rfl
        rotate_left
        ·simp only [Act.put, sZ1, sZ2, sZ3, i64_w, i32_w]; rfl
        refine take_ (i := 2) (N := some 109) (v := ?_) (a' := ?_) L4' rfl rfl (take_ofW HT_.out HW_.out kZ) (fun _ _ _ h => h) (Or.inl ⟨by rfl, ?_⟩) hHeld ?_ ?_; rotate_left
        ·rintro w' ⟨s0, s1, s2, s3, s4, s5⟩
         go_simp; with_reducible rfl
        rotate_left
        ·simp only [Act.put, sZ1, sZ2, sZ3, i64_w, i32_w]; rfl
        refine pure_ (i := 3) (N := some 110) (v := ?_) (a' := ?_) L5' rfl rfl (any_of HT_.out kZ) (fun _ _ _ h => h) (Or.inl ⟨by rfl, ?_⟩) ?_ ?_; rotate_left
        ·intro w'; go_simp; with_reducible rfl
        rotate_left
        ·simp only [Act.put, sZ1, sZ2, sZ3, i64_w, i32_w]; rfl
        refine take_ (i := 4) (N := some 111) (v := ?_) (a' := ?_) L6' rfl rfl (take_ofW HT_.out HW_.out kZ) (fun _ _ _ h => h) (Or.inl ⟨by rfl, ?_⟩) hHeld ?_ ?_; rotate_left
        ·rintro w' ⟨s0, s1, s2, s3, s4, s5⟩
         go_simp; with_reducible rfl
        rotate_left
        ·simp only [Act.put, sZ1, sZ2, sZ3, i64_w, i32_w]; rfl
        refine take_ (i := 6) (N := some 113) (v := ?_) (a' := ?_) L7' rfl rfl (take_ofW HT_.out HW_.out kZ) (fun _ _ _ h => h) (Or.inl ⟨by rfl, ?_⟩) hHeld ?_ ?_; rotate_left
        ·rintro w' ⟨s0, s1, s2, s3, s4, s5⟩
         go_simp; with_reducible rfl
        rotate_left
        ·simp only [Act.put, sZ1, sZ2, sZ3, i64_w, i32_w]; rfl
        refine pure_ (i := 7) (N := some 114) (v := ?_) (a' := ?_) L8' rfl rfl (any_of HT_.out kZ) (fun _ _ _ h => h) (Or.inl ⟨by rfl, ?_⟩) ?_ ?_; rotate_left
        ·intro w'; go_simp; with_reducible rfl
        rotate_left
        ·simp only [Act.put, sZ1, sZ2, sZ3, i64_w, i32_w]; rfl
        refine one_ (i := 8) (N := some 115) L9' rfl rfl (one_of HT_.out kZ) (by decide) (fun K hK => ?_); obtain ⟨st297, w94, he95_, ho_, hg, hsst297_⟩ := Kd.Y_entry (m := my225) (e := 225) (w := w93) (lZY HO_6.out) (0, (rd_T107 l1_3 x55_3).f2) (show okPI _ from ⟨(show okI _ from by unfold okI; omega), (show okI _ from ⟨((of_decide_eq_true tZE) : -9223372036854775808 ≤ ((rd_T107 l1_3 x55_3).f2)), ((of_decide_eq_true tZE) : ((rd_T107 l1_3 x55_3).f2) ≤ 9223372036854775807)⟩)⟩) LMc82.out; have hl95_ := Kd.Y_got (m := my225) ho_ (show okPI _ from ⟨(show okI _ from by unfold okI; omega), (show okI _ from ⟨((of_decide_eq_true tZE) : -9223372036854775808 ≤ ((rd_T107 l1_3 x55_3).f2)), ((of_decide_eq_true tZE) : ((rd_T107 l1_3 x55_3).f2) ≤ 9223372036854775807)⟩)⟩); simp only [my225, mkPI, mkSB, mkSI, mkIB, mkII, encPI, goInt] at he95_ hl95_
        refine value_ (w1 := w94) (v := .tuple #[.int .i64 (mget 0 x6_3 (0, (rd_T107 l1_3 x55_3).f2)), .int .i64 (st297 : Int)]) (by rfl) rfl (by go_simp <;> first | (rw [he95_]; rfl) | (simp only [he95_, Result.andThen]; done)) ?_; replace BK277 := aZ (Kd.blk_turn (e := 225) (bkZ BK277.out) (lZY HO_6.out) hg); replace BK278 := aZ (Kd.blk_turn (e := 225) (bkZ BK278.out) (lZY HO_6.out) hg); replace BK285 := aZ (Kd.blk_turn (e := 225) (bkZ BK285.out) (lZY HO_6.out) hg); replace HB := aZ (Kd.below_turn (e := 225) (lZY HO_6.out) bZ (Nat.le_refl _) hg); replace HO_6 := aZ (ho_); clear ho_ hg; refine hK.out _ _ ⟨(blk_cell BK285.out 0).trans rfl, (blk_cell BK285.out 1).trans rfl, (blk_cell BK285.out 2).trans rfl, (blk_cell BK285.out 3).trans rfl, (blk_cell BK285.out 4).trans rfl, hl95_⟩ (fun hHeld => ?_); clear hK K; refine norm_ (a' := ?_) ?_ ?_; rotate_left
        ·show Act.put _ (some 115) _ = _
         simp only [Act.put, sZ1, sZ2, sZ3, i64_w, i32_w]; rfl
        refine pure_ (i := 9) (N := some 116) (v := ?_) (a' := ?_) L10' rfl rfl (any_of HT_.out kZ) (fun _ _ _ h => h) (Or.inl ⟨by rfl, ?_⟩) ?_ ?_; rotate_left
        ·intro w'; go_simp; with_reducible rfl
        rotate_left
        ·simp only [Act.put, sZ1, sZ2, sZ3, i64_w, i32_w]; rfl
        refine last_ (i := 10) (N := none) L11' rfl rfl (one_of HT_.out kZ) (by decide) (fun K hK => ?_); obtain ⟨w96, he97_, ho_, hg⟩ := hsst297_ (wrap64 ((mget 0 x6_3 (0, (rd_T107 l1_3 x55_3).f2)) + ((rd_T107 l1_3 x55_3).f3))) (show okI _ from by unfold okI wrap64; omega); simp only [my225, mkPI, mkSB, mkSI, mkIB, mkII, encPI, goInt] at he97_; refine skip_ (w1 := w96) (by rfl) rfl (by go_simp <;> first | (rw [he97_]; rfl) | (simp only [he97_, Result.andThen]; done)) ?_; rw [← Ny298.out] at ho_; replace BK277 := aZ (Kd.blk_turn (e := 225) (bkZ BK277.out) (lZY HO_6.out) hg); replace BK278 := aZ (Kd.blk_turn (e := 225) (bkZ BK278.out) (lZY HO_6.out) hg); replace BK285 := aZ (Kd.blk_turn (e := 225) (bkZ BK285.out) (lZY HO_6.out) hg); replace HB := aZ (Kd.below_turn (e := 225) (lZY HO_6.out) bZ (Nat.le_refl _) hg); have HO299 := aZ (ho_); clear HO_6; clear ho_ hg; refine hK.out _ _ ?_
        clear hK K; refine done_ (done_of HT_.out kZ) ?_
        try go_wp2
        replace HO299 := aZ (Kd.Y_drew HO299.out); replace BK277 := aZ (blk_drew BK277.out); replace BK278 := aZ (blk_drew BK278.out); replace BK285 := aZ (blk_drew BK285.out); replace HB := aZ (below_drew1 HB.out)
        refine start_ (n := 11) (S := fun w' => w'.cell? ⟨gb285, 0, none⟩ = some (.int .i64 ((rd_T107 l1_3 x55_3).f0)) ∧ w'.cell? ⟨gb285, 1, none⟩ = some (.int .i64 ((rd_T107 l1_3 x55_3).f1)) ∧ w'.cell? ⟨gb285, 2, none⟩ = some (.int .i64 ((rd_T107 l1_3 x55_3).f2)) ∧ w'.cell? ⟨gb285, 3, none⟩ = some (.int .i64 ((rd_T107 l1_3 x55_3).f3)) ∧ w'.cell? ⟨gb285, 4, none⟩ = some (.int .i64 ((rd_T107 l1_3 x55_3).f4)) ∧ (Instr.lookup 225 v282 (.agg #[.int .i64 1, .int .i64 ((rd_T107 l1_3 x55_3).f1)]) false).run Try.prog w' = .ok (.int .i64 (mget 0 y298 (1, (rd_T107 l1_3 x55_3).f1))) w') (ds := [10]) L0' kZ rfl rfl ⟨(blk_cell BK285.out 0).trans rfl, (blk_cell BK285.out 1).trans rfl, (blk_cell BK285.out 2).trans rfl, (blk_cell BK285.out 3).trans rfl, (blk_cell BK285.out 4).trans rfl, (Kd.Y_get (m := my225) (e := 225) (lZY HO299.out) (1, (rd_T107 l1_3 x55_3).f1) (show okPI _ from ⟨(show okI _ from by unfold okI; omega), (show okI _ from ⟨((of_decide_eq_true tZE) : -9223372036854775808 ≤ ((rd_T107 l1_3 x55_3).f1)), ((of_decide_eq_true tZE) : ((rd_T107 l1_3 x55_3).f1) ≤ 9223372036854775807)⟩)⟩))⟩ (fun hHeld => ?_); refine with_tabW impl_entryIn.tab15 impl_entryIn.bits15 (fun HT_ HW_ => ?_)
        generalize w96.drew = w98 at HO299 BK277 BK278 BK285 HB hHeld ⊢; refine pure_ (i := 0) (N := some 117) (v := ?_) (a' := ?_) L1' rfl rfl (any_of HT_.out kZ) (fun _ _ _ h => h) (Or.inl ⟨by rfl, ?_⟩) ?_ ?_; rotate_left
        ·intro w'; go_simp; with_reducible rfl
        rotate_left
        ·simp only [Act.put, sZ1, sZ2, sZ3, i64_w, i32_w]; rfl
        refine pure_ (i := 1) (N := some 118) (v := ?_) (a' := ?_) L2' rfl rfl (any_of HT_.out kZ) (fun _ _ _ h => h) (Or.inl ⟨by rfl, ?_⟩) ?_ ?_; rotate_left
        ·intro w'; go_simp; with_reducible rfl
        rotate_left
        ·simp only [Act.put, sZ1, sZ2, sZ3, i64_w, i32_w]; rfl
        refine pure_ (i := 5) (N := some 122) (v := ?_) (a' := ?_) L3' rfl rfl (any_of HT_.out kZ) (fun _ _ _ h => h) (Or.inl ⟨by rfl, ?_⟩) ?_ ?_; rotate_left
        ·intro w'; go_simp; with_reducible rfl
        rotate_left
        ·simp only [Act.put, sZ1, sZ2, sZ3, i64_w, i32_w]; rfl
        refine take_ (i := 2) (N := some 119) (v := ?_) (a' := ?_) L4' rfl rfl (take_ofW HT_.out HW_.out kZ) (fun _ _ _ h => h) (Or.inl ⟨by rfl, ?_⟩) hHeld ?_ ?_; rotate_left
        ·rintro w' ⟨s0, s1, s2, s3, s4, s5⟩
         go_simp; with_reducible rfl
        rotate_left
        ·simp only [Act.put, sZ1, sZ2, sZ3, i64_w, i32_w]; rfl
        refine pure_ (i := 3) (N := some 120) (v := ?_) (a' := ?_) L5' rfl rfl (any_of HT_.out kZ) (fun _ _ _ h => h) (Or.inl ⟨by rfl, ?_⟩) ?_ ?_; rotate_left
        ·intro w'; go_simp; with_reducible rfl
        rotate_left
        ·simp only [Act.put, sZ1, sZ2, sZ3, i64_w, i32_w]; rfl
        refine take_ (i := 4) (N := some 121) (v := ?_) (a' := ?_) L6' rfl rfl (take_ofW HT_.out HW_.out kZ) (fun _ _ _ h => h) (Or.inl ⟨by rfl, ?_⟩) hHeld ?_ ?_; rotate_left
        ·rintro w' ⟨s0, s1, s2, s3, s4, s5⟩
         go_simp; with_reducible rfl
        rotate_left
        ·simp only [Act.put, sZ1, sZ2, sZ3, i64_w, i32_w]; rfl
        refine take_ (i := 6) (N := some 123) (v := ?_) (a' := ?_) L7' rfl rfl (take_ofW HT_.out HW_.out kZ) (fun _ _ _ h => h) (Or.inl ⟨by rfl, ?_⟩) hHeld ?_ ?_; rotate_left
        ·rintro w' ⟨s0, s1, s2, s3, s4, s5⟩
         go_simp; with_reducible rfl
        rotate_left
        ·simp only [Act.put, sZ1, sZ2, sZ3, i64_w, i32_w]; rfl
        refine pure_ (i := 7) (N := some 124) (v := ?_) (a' := ?_) L8' rfl rfl (any_of HT_.out kZ) (fun _ _ _ h => h) (Or.inl ⟨by rfl, ?_⟩) ?_ ?_; rotate_left
        ·intro w'; go_simp; with_reducible rfl
        rotate_left
        ·simp only [Act.put, sZ1, sZ2, sZ3, i64_w, i32_w]; rfl
        refine one_ (i := 8) (N := some 125) L9' rfl rfl (one_of HT_.out kZ) (by decide) (fun K hK => ?_); obtain ⟨st300, w99, he100_, ho_, hg, hsst300_⟩ := Kd.Y_entry (m := my225) (e := 225) (w := w98) (lZY HO299.out) (1, (rd_T107 l1_3 x55_3).f1) (show okPI _ from ⟨(show okI _ from by unfold okI; omega), (show okI _ from ⟨((of_decide_eq_true tZE) : -9223372036854775808 ≤ ((rd_T107 l1_3 x55_3).f1)), ((of_decide_eq_true tZE) : ((rd_T107 l1_3 x55_3).f1) ≤ 9223372036854775807)⟩)⟩) LMc85.out; have hl100_ := Kd.Y_got (m := my225) ho_ (show okPI _ from ⟨(show okI _ from by unfold okI; omega), (show okI _ from ⟨((of_decide_eq_true tZE) : -9223372036854775808 ≤ ((rd_T107 l1_3 x55_3).f1)), ((of_decide_eq_true tZE) : ((rd_T107 l1_3 x55_3).f1) ≤ 9223372036854775807)⟩)⟩); simp only [my225, mkPI, mkSB, mkSI, mkIB, mkII, encPI, goInt] at he100_ hl100_
        refine value_ (w1 := w99) (v := .tuple #[.int .i64 (mget 0 y298 (1, (rd_T107 l1_3 x55_3).f1)), .int .i64 (st300 : Int)]) (by rfl) rfl (by go_simp <;> first | (rw [he100_]; rfl) | (simp only [he100_, Result.andThen]; done)) ?_; replace BK277 := aZ (Kd.blk_turn (e := 225) (bkZ BK277.out) (lZY HO299.out) hg); replace BK278 := aZ (Kd.blk_turn (e := 225) (bkZ BK278.out) (lZY HO299.out) hg); replace BK285 := aZ (Kd.blk_turn (e := 225) (bkZ BK285.out) (lZY HO299.out) hg); replace HB := aZ (Kd.below_turn (e := 225) (lZY HO299.out) bZ (Nat.le_refl _) hg); replace HO299 := aZ (ho_); clear ho_ hg; refine hK.out _ _ ⟨(blk_cell BK285.out 0).trans rfl, (blk_cell BK285.out 1).trans rfl, (blk_cell BK285.out 2).trans rfl, (blk_cell BK285.out 3).trans rfl, (blk_cell BK285.out 4).trans rfl, hl100_⟩ (fun hHeld => ?_); clear hK K; refine norm_ (a' := ?_) ?_ ?_; rotate_left
        ·show Act.put _ (some 125) _ = _
         simp only [Act.put, sZ1, sZ2, sZ3, i64_w, i32_w]; rfl
        refine pure_ (i := 9) (N := some 126) (v := ?_) (a' := ?_) L10' rfl rfl (any_of HT_.out kZ) (fun _ _ _ h => h) (Or.inl ⟨by rfl, ?_⟩) ?_ ?_; rotate_left
        ·intro w'; go_simp; with_reducible rfl
        rotate_left
        ·simp only [Act.put, sZ1, sZ2, sZ3, i64_w, i32_w]; rfl
        refine last_ (i := 10) (N := none) L11' rfl rfl (one_of HT_.out kZ) (by decide) (fun K hK => ?_); obtain ⟨w101, he102_, ho_, hg⟩ := hsst300_ (wrap64 ((mget 0 y298 (1, (rd_T107 l1_3 x55_3).f1)) + ((rd_T107 l1_3 x55_3).f4))) (show okI _ from by unfold okI wrap64; omega); simp only [my225, mkPI, mkSB, mkSI, mkIB, mkII, encPI, goInt] at he102_; refine skip_ (w1 := w101) (by rfl) rfl (by go_simp <;> first | (rw [he102_]; rfl) | (simp only [he102_, Result.andThen]; done)) ?_; rw [← Ny301.out] at ho_; replace BK277 := aZ (Kd.blk_turn (e := 225) (bkZ BK277.out) (lZY HO299.out) hg); replace BK278 := aZ (Kd.blk_turn (e := 225) (bkZ BK278.out) (lZY HO299.out) hg); replace BK285 := aZ (Kd.blk_turn (e := 225) (bkZ BK285.out) (lZY HO299.out) hg); replace HB := aZ (Kd.below_turn (e := 225) (lZY HO299.out) bZ (Nat.le_refl _) hg); have HO302 := aZ (ho_); clear HO299; clear ho_ hg
        refine hK.out _ _ ?_; clear hK K; refine done_ (done_of HT_.out kZ) ?_
        try go_wp2
        go_roundg k3
        case measure => have := HJ2.out; have := HK2.out; have := HK3.out; omega
        case rel => exact ⟨(y301), (wrap64 (x55_3 + 1)), tZB, H', ⟨by have := HJ2.out; have := HK2.out; have := HK3.out; omega⟩, ⟨lZY HO302.out⟩, ⟨bkZ BK277.out⟩, ⟨bkZ BK278.out⟩, ⟨bZ⟩⟩
       rw [if_pos c49] at H; have c49b0 : (((rd_T107 l1_3 x55_3).f2) == 0) = true := beq_iff_eq.mpr c49; have c49b1 : (((rd_T107 l1_3 x55_3).f2) != 0) = false := bne_eq_false_iff_eq.mpr c49; clear c49
       by_cases c50 : ((rd_T107 l1_3 x55_3).f3) = ((rd_T107 l1_3 x55_3).f4)
       rotate_left
       ·rw [if_neg c50] at H; have c50b0 : (((rd_T107 l1_3 x55_3).f3) == ((rd_T107 l1_3 x55_3).f4)) = false := beq_eq_false_iff_ne.mpr c50; have c50b1 : (((rd_T107 l1_3 x55_3).f3) != ((rd_T107 l1_3 x55_3).f4)) = true := bne_iff_ne.mpr c50; obtain rfl := Option.some.inj H; have p284 : 0 ≤ (x55_3 : Int) := of_decide_eq_true tZE; have q284 : x55_3 < (l1_3.length : Int) := of_decide_eq_true tZE; obtain ⟨ad284, e284, hx284_0, hx284_1, hx284_2, hx284_3, hx284_4⟩ := at_T107 HR1_3.out x55_3 p284 q284
        cases e284
        replace hx284_0 := cZ HB hx284_0; replace hx284_1 := cZ HB hx284_1; replace hx284_2 := cZ HB hx284_2; replace hx284_3 := cZ HB hx284_3; replace hx284_4 := cZ HB hx284_4; replace p284 := eq_true p284; replace q284 := eq_true q284
        go_wp2_with (first | ((with_reducible refine gate_dst (N := 8) rfl ?_); (try (refine gate_guard (by rfl) ?_; dsimp only)); refine box_event tZR (N := 8) tZR (cs := #[.int .i64 0, .int .i64 0, .int .i64 0, .int .i64 0, .int .i64 0]) (t := 107) tZS ?_; intro gb285 hg w74 hbox hb; replace HO_6 := aZ (Kd.Y_below (lZY HO_6.out) hb); have BK285 := aZ (hbox); have GW285 := aZ ((by rw [hg]; exact (below_size bZ) : w.heap.size ≤ gb285)); have GE285 := GW285; replace HB := aZ (below_step bZ hb); have NB277_285 := aZ ((nLt hg (bkZ BK277.out) : gb277 ≠ gb285)); have NB285_277 := aZ ((nGt hg (bkZ BK277.out) : gb285 ≠ gb277)); replace BK277 := aZ (blk_below (bkZ BK277.out) hb); have NB278_285 := aZ ((nLt hg (bkZ BK278.out) : gb278 ≠ gb285)); have NB285_278 := aZ ((nGt hg (bkZ BK278.out) : gb285 ≠ gb278)); replace BK278 := aZ (blk_below (bkZ BK278.out) hb); clear hb hbox hg; have hnb75 := NB285_277.out; have hnc75 := NB277_285.out; have hnb76 := NB285_278.out; have hnc76 := NB278_285.out; obtain ⟨hcz77_0, hcz77_1, hcz77_2, hcz77_3, hcz77_4, hfz77_0, hfz77_1, hfz77_2, hfz77_3, hfz77_4⟩ := bc5 BK285.out; have hnb78 := NB277_278.out; have hnc78 := NB278_277.out; obtain ⟨hcz79_0, hcz79_1, hcz79_2, hfz79_0, hfz79_1, hfz79_2⟩ := bc3 BK277.out) | ((with_reducible refine gate_callee (f := 169) rfl ?_); refine goesL_ (some 63) rfl rfl Try.func169 kZ rfl #[.slice A0_0 l0_0.length c0_0, .int .i64 ((rd_T107 l1_3 x55_3).f0)] rfl tZA ?_; (with_reducible refine (impl_leafAt.calls _ _ l0_0 ((rd_T107 l1_3 x55_3).f0) true _ ?side1 ?side2 A39.out).mono ?_); (case side1 => exact Kd.C_below HR0_0.out bZ); (case side2 => exact HC0_0.out); rintro e w' ⟨rfl, ⟨nd, rfl⟩⟩; refine ⟨_, rfl, ?_⟩) | (go_at_call 71; (with_reducible refine (impl_between.calls ((rd_T107 l1_3 x55_3).f1) 0 (wrap64 (a0_1 - 1)) true _ A41.out).mono ?_); rintro e w' ⟨rfl, ⟨nd, rfl⟩⟩) | (go_at_call 71; (with_reducible refine (impl_between.calls ((rd_T107 l1_3 x55_3).f2) 0 (wrap64 (a0_2 - 1)) true _ A43.out).mono ?_); rintro e w' ⟨rfl, ⟨nd, rfl⟩⟩) | (go_at_call 65; (with_reducible refine (impl_amount.calls ((rd_T107 l1_3 x55_3).f3) true _ A45.out).mono ?_); rintro e w' ⟨rfl, ⟨nd, rfl⟩⟩) | (go_at_call 65; (with_reducible refine (impl_amount.calls ((rd_T107 l1_3 x55_3).f4) true _ A47.out).mono ?_); rintro e w' ⟨rfl, ⟨nd, rfl⟩⟩))
        go_ret; exact ⟨tZC, bZ⟩
       rw [if_pos c50] at H; have c50b0 : (((rd_T107 l1_3 x55_3).f3) == ((rd_T107 l1_3 x55_3).f4)) = true := beq_iff_eq.mpr c50; have c50b1 : (((rd_T107 l1_3 x55_3).f3) != ((rd_T107 l1_3 x55_3).f4)) = false := bne_eq_false_iff_eq.mpr c50; clear c50
       by_cases c51 : -9223372036854775808 ≤ ((rd_T107 l1_3 x55_3).f2)
       rotate_left
       ·rw [if_neg c51] at H; exact absurd H (by simp)
       rw [if_pos c51] at H; have c51b0 := eq_true c51; have c51b1 := decide_eq_true c51; clear c51
       by_cases c52 : ((rd_T107 l1_3 x55_3).f2) ≤ 9223372036854775807
       rotate_left
       ·rw [if_neg c52] at H; exact absurd H (by simp)
       rw [if_pos c52] at H; have c52b0 := eq_true c52; have c52b1 := decide_eq_true c52
       try have c52b2 := eq_false (Nat.not_lt.2 c52)
       clear c52
       by_cases c53 : x6_3.length < 140737488355328
       rotate_left
       ·rw [if_neg c53] at H; exact absurd H (by simp)
       rw [if_pos c53] at H; have LMc53 := Aside0.mk c53; clear c53; obtain ⟨y292, hy292⟩ : ∃ y_ : List (((Int × Int) × Int)), y_ = (((0, (rd_T107 l1_3 x55_3).f2), wrap64 ((mget 0 x6_3 (0, (rd_T107 l1_3 x55_3).f2)) + ((rd_T107 l1_3 x55_3).f3))) :: x6_3) := ⟨_, rfl⟩
       replace H : (if -9223372036854775808 ≤ ((rd_T107 l1_3 x55_3).f1) then (if ((rd_T107 l1_3 x55_3).f1) ≤ 9223372036854775807 then (if y292.length < 140737488355328 then (impl_entryIn.l1 k3 (((1, (rd_T107 l1_3 x55_3).f1), wrap64 ((mget 0 y292 (1, (rd_T107 l1_3 x55_3).f1)) + ((rd_T107 l1_3 x55_3).f4))) :: y292) l1_3 (l1_3.length : Int) (wrap64 (x55_3 + 1)) l0_0 a0_1 a0_2) else (none)) else (none)) else (none)) = some r := by first | (rw [hy292]; with_reducible exact H) | (have H2_ := (Option.bind_some _ _).symm.trans H; rw [hy292]; with_reducible exact H2_) | (have H2_ := (Option.bind_some _ _).symm.trans H; with_reducible exact H2_) | with_reducible exact H | (rw [hy292]; exact H) | exact H
       have Ny292 := Aside0.mk hy292; clear hy292
       by_cases c54 : -9223372036854775808 ≤ ((rd_T107 l1_3 x55_3).f1)
       rotate_left
       ·rw [if_neg c54] at H; exact absurd H (by simp)
       rw [if_pos c54] at H; have c54b0 := eq_true c54; have c54b1 := decide_eq_true c54; clear c54
       by_cases c55 : ((rd_T107 l1_3 x55_3).f1) ≤ 9223372036854775807
       rotate_left
       ·rw [if_neg c55] at H; exact absurd H (by simp)
       rw [if_pos c55] at H; have c55b0 := eq_true c55; have c55b1 := decide_eq_true c55
       try have c55b2 := eq_false (Nat.not_lt.2 c55)
       clear c55
       by_cases c56 : y292.length < 140737488355328
       rotate_left
       ·rw [if_neg c56] at H; exact absurd H (by simp)
       rw [if_pos c56] at H; have LMc56 := Aside0.mk c56; clear c56; obtain ⟨y295, hy295⟩ : ∃ y_ : List (((Int × Int) × Int)), y_ = (((1, (rd_T107 l1_3 x55_3).f1), wrap64 ((mget 0 y292 (1, (rd_T107 l1_3 x55_3).f1)) + ((rd_T107 l1_3 x55_3).f4))) :: y292) := ⟨_, rfl⟩; replace H : (impl_entryIn.l1 k3 y295 l1_3 (l1_3.length : Int) (wrap64 (x55_3 + 1)) l0_0 a0_1 a0_2) = some r := by first | (rw [hy295]; with_reducible exact H) | (have H2_ := (Option.bind_some _ _).symm.trans H; rw [hy295]; with_reducible exact H2_) | (have H2_ := (Option.bind_some _ _).symm.trans H; with_reducible exact H2_) | with_reducible exact H | (rw [hy295]; exact H) | exact H
       have Ny295 := Aside0.mk hy295; clear hy295; have H' := Aside0.mk H; clear H; have p284 : 0 ≤ (x55_3 : Int) := of_decide_eq_true tZE; have q284 : x55_3 < (l1_3.length : Int) := of_decide_eq_true tZE; obtain ⟨ad284, e284, hx284_0, hx284_1, hx284_2, hx284_3, hx284_4⟩ := at_T107 HR1_3.out x55_3 p284 q284
       cases e284
       replace hx284_0 := cZ HB hx284_0; replace hx284_1 := cZ HB hx284_1; replace hx284_2 := cZ HB hx284_2; replace hx284_3 := cZ HB hx284_3; replace hx284_4 := cZ HB hx284_4; replace p284 := eq_true p284; replace q284 := eq_true q284
       try go_wp2_with (first | ((with_reducible refine gate_dst (N := 8) rfl ?_); (try (refine gate_guard (by rfl) ?_; dsimp only)); refine box_event tZR (N := 8) tZR (cs := #[.int .i64 0, .int .i64 0, .int .i64 0, .int .i64 0, .int .i64 0]) (t := 107) tZS ?_; intro gb285 hg w57 hbox hb; replace HO_6 := aZ (Kd.Y_below (lZY HO_6.out) hb); have BK285 := aZ (hbox); have GW285 := aZ ((by rw [hg]; exact (below_size bZ) : w.heap.size ≤ gb285)); have GE285 := GW285; replace HB := aZ (below_step bZ hb); have NB277_285 := aZ ((nLt hg (bkZ BK277.out) : gb277 ≠ gb285)); have NB285_277 := aZ ((nGt hg (bkZ BK277.out) : gb285 ≠ gb277)); replace BK277 := aZ (blk_below (bkZ BK277.out) hb); have NB278_285 := aZ ((nLt hg (bkZ BK278.out) : gb278 ≠ gb285)); have NB285_278 := aZ ((nGt hg (bkZ BK278.out) : gb285 ≠ gb278)); replace BK278 := aZ (blk_below (bkZ BK278.out) hb); clear hb hbox hg; have hnb58 := NB285_277.out; have hnc58 := NB277_285.out; have hnb59 := NB285_278.out; have hnc59 := NB278_285.out; obtain ⟨hcz60_0, hcz60_1, hcz60_2, hcz60_3, hcz60_4, hfz60_0, hfz60_1, hfz60_2, hfz60_3, hfz60_4⟩ := bc5 BK285.out; have hnb61 := NB277_278.out; have hnc61 := NB278_277.out; obtain ⟨hcz62_0, hcz62_1, hcz62_2, hfz62_0, hfz62_1, hfz62_2⟩ := bc3 BK277.out) | ((with_reducible refine gate_callee (f := 169) rfl ?_); refine goesL_ (some 63) rfl rfl Try.func169 kZ rfl #[.slice A0_0 l0_0.length c0_0, .int .i64 ((rd_T107 l1_3 x55_3).f0)] rfl tZA ?_; (with_reducible refine (impl_leafAt.calls _ _ l0_0 ((rd_T107 l1_3 x55_3).f0) true _ ?side1 ?side2 A39.out).mono ?_); (case side1 => exact Kd.C_below HR0_0.out bZ); (case side2 => exact HC0_0.out); rintro e w' ⟨rfl, ⟨nd, rfl⟩⟩; refine ⟨_, rfl, ?_⟩) | (go_at_call 71; (with_reducible refine (impl_between.calls ((rd_T107 l1_3 x55_3).f1) 0 (wrap64 (a0_1 - 1)) true _ A41.out).mono ?_); rintro e w' ⟨rfl, ⟨nd, rfl⟩⟩) | (go_at_call 71; (with_reducible refine (impl_between.calls ((rd_T107 l1_3 x55_3).f2) 0 (wrap64 (a0_2 - 1)) true _ A43.out).mono ?_); rintro e w' ⟨rfl, ⟨nd, rfl⟩⟩) | (go_at_call 65; (with_reducible refine (impl_amount.calls ((rd_T107 l1_3 x55_3).f3) true _ A45.out).mono ?_); rintro e w' ⟨rfl, ⟨nd, rfl⟩⟩) | (go_at_call 65; (with_reducible refine (impl_amount.calls ((rd_T107 l1_3 x55_3).f4) true _ A47.out).mono ?_); rintro e w' ⟨rfl, ⟨nd, rfl⟩⟩))
       have n0_ : Aside0 (Kd.Y my225 225 (((((w57.setCell ⟨gb285, 0, none⟩ (.int .i64 ((rd_T107 l1_3 x55_3).f0))).setCell ⟨gb285, 1, none⟩ (.int .i64 ((rd_T107 l1_3 x55_3).f1))).setCell ⟨gb285, 2, none⟩ (.int .i64 ((rd_T107 l1_3 x55_3).f2))).setCell ⟨gb285, 3, none⟩ (.int .i64 ((rd_T107 l1_3 x55_3).f3))).setCell ⟨gb285, 4, none⟩ (.int .i64 ((rd_T107 l1_3 x55_3).f4))) w.heap.size (fun _ => True) v282 x6_3) := ⟨by (with_reducible repeat (first | apply Kd.Y_alloc | apply Kd.Y_drewN | apply Kd.Y_drew)); exact Kd.Y_mono (Kd.Y_far (p := ⟨gb285, 4, none⟩) (Kd.Y_far (p := ⟨gb285, 3, none⟩) (Kd.Y_far (p := ⟨gb285, 2, none⟩) (Kd.Y_far (p := ⟨gb285, 1, none⟩) (Kd.Y_far (p := ⟨gb285, 0, none⟩) (Kd.Y_types HO_6.out BK285.out (by decide)) (fun _ hk => hk.2) (.int .i64 ((rd_T107 l1_3 x55_3).f0))) (fun _ hk => hk.2) (.int .i64 ((rd_T107 l1_3 x55_3).f1))) (fun _ hk => hk.2) (.int .i64 ((rd_T107 l1_3 x55_3).f2))) (fun _ hk => hk.2) (.int .i64 ((rd_T107 l1_3 x55_3).f3))) (fun _ hk => hk.2) (.int .i64 ((rd_T107 l1_3 x55_3).f4))) (fun _ hk => trivial)⟩
       have n1_ : Aside0 ((((((w57.setCell ⟨gb285, 0, none⟩ (.int .i64 ((rd_T107 l1_3 x55_3).f0))).setCell ⟨gb285, 1, none⟩ (.int .i64 ((rd_T107 l1_3 x55_3).f1))).setCell ⟨gb285, 2, none⟩ (.int .i64 ((rd_T107 l1_3 x55_3).f2))).setCell ⟨gb285, 3, none⟩ (.int .i64 ((rd_T107 l1_3 x55_3).f3))).setCell ⟨gb285, 4, none⟩ (.int .i64 ((rd_T107 l1_3 x55_3).f4))).heap[gb277]? = some (.cells #[.slice A0_0 l0_0.length c0_0, .int .i64 a0_1, .int .i64 a0_2] 81 (0, 0))) := ⟨by (with_reducible repeat (first | refine blk_drewN ?_ _ | refine blk_drew ?_ | refine blk_alloc ?_ _)); refine blk_far ?_ NB277_285.out _; (with_reducible repeat (first | refine blk_drewN ?_ _ | refine blk_drew ?_ | refine blk_alloc ?_ _)); refine blk_far ?_ NB277_285.out _; (with_reducible repeat (first | refine blk_drewN ?_ _ | refine blk_drew ?_ | refine blk_alloc ?_ _)); refine blk_far ?_ NB277_285.out _; (with_reducible repeat (first | refine blk_drewN ?_ _ | refine blk_drew ?_ | refine blk_alloc ?_ _)); refine blk_far ?_ NB277_285.out _; (with_reducible repeat (first | refine blk_drewN ?_ _ | refine blk_drew ?_ | refine blk_alloc ?_ _)); refine blk_far ?_ NB277_285.out _; (with_reducible repeat (first | refine blk_drewN ?_ _ | refine blk_drew ?_ | refine blk_alloc ?_ _)); exact BK277.out⟩
       have n2_ : Aside0 ((((((w57.setCell ⟨gb285, 0, none⟩ (.int .i64 ((rd_T107 l1_3 x55_3).f0))).setCell ⟨gb285, 1, none⟩ (.int .i64 ((rd_T107 l1_3 x55_3).f1))).setCell ⟨gb285, 2, none⟩ (.int .i64 ((rd_T107 l1_3 x55_3).f2))).setCell ⟨gb285, 3, none⟩ (.int .i64 ((rd_T107 l1_3 x55_3).f3))).setCell ⟨gb285, 4, none⟩ (.int .i64 ((rd_T107 l1_3 x55_3).f4))).heap[gb278]? = some (.cells #[.int .i64 a1_0, .int .i64 a1_1, .string a1_2, .slice (some ad284) l1_3.length c1_3] 103 (0, 0))) := ⟨by (with_reducible repeat (first | refine blk_drewN ?_ _ | refine blk_drew ?_ | refine blk_alloc ?_ _)); refine blk_far ?_ NB278_285.out _; (with_reducible repeat (first | refine blk_drewN ?_ _ | refine blk_drew ?_ | refine blk_alloc ?_ _)); refine blk_far ?_ NB278_285.out _; (with_reducible repeat (first | refine blk_drewN ?_ _ | refine blk_drew ?_ | refine blk_alloc ?_ _)); refine blk_far ?_ NB278_285.out _; (with_reducible repeat (first | refine blk_drewN ?_ _ | refine blk_drew ?_ | refine blk_alloc ?_ _)); refine blk_far ?_ NB278_285.out _; (with_reducible repeat (first | refine blk_drewN ?_ _ | refine blk_drew ?_ | refine blk_alloc ?_ _)); refine blk_far ?_ NB278_285.out _; (with_reducible repeat (first | refine blk_drewN ?_ _ | refine blk_drew ?_ | refine blk_alloc ?_ _)); exact BK278.out⟩
       have n3_ : Aside0 ((((((w57.setCell ⟨gb285, 0, none⟩ (.int .i64 ((rd_T107 l1_3 x55_3).f0))).setCell ⟨gb285, 1, none⟩ (.int .i64 ((rd_T107 l1_3 x55_3).f1))).setCell ⟨gb285, 2, none⟩ (.int .i64 ((rd_T107 l1_3 x55_3).f2))).setCell ⟨gb285, 3, none⟩ (.int .i64 ((rd_T107 l1_3 x55_3).f3))).setCell ⟨gb285, 4, none⟩ (.int .i64 ((rd_T107 l1_3 x55_3).f4))).heap[gb285]? = some (.cells #[.int .i64 ((rd_T107 l1_3 x55_3).f0), .int .i64 ((rd_T107 l1_3 x55_3).f1), .int .i64 ((rd_T107 l1_3 x55_3).f2), .int .i64 ((rd_T107 l1_3 x55_3).f3), .int .i64 ((rd_T107 l1_3 x55_3).f4)] 107 (0, 0))) := ⟨by (with_reducible repeat (first | refine blk_drewN ?_ _ | refine blk_drew ?_ | refine blk_alloc ?_ _)); refine blk_put (cs := #[.int .i64 ((rd_T107 l1_3 x55_3).f0), .int .i64 ((rd_T107 l1_3 x55_3).f1), .int .i64 ((rd_T107 l1_3 x55_3).f2), .int .i64 ((rd_T107 l1_3 x55_3).f3), .int .i64 0]) ?_ 4 _ rfl; (with_reducible repeat (first | refine blk_drewN ?_ _ | refine blk_drew ?_ | refine blk_alloc ?_ _)); refine blk_put (cs := #[.int .i64 ((rd_T107 l1_3 x55_3).f0), .int .i64 ((rd_T107 l1_3 x55_3).f1), .int .i64 ((rd_T107 l1_3 x55_3).f2), .int .i64 0, .int .i64 0]) ?_ 3 _ rfl; (with_reducible repeat (first | refine blk_drewN ?_ _ | refine blk_drew ?_ | refine blk_alloc ?_ _)); refine blk_put (cs := #[.int .i64 ((rd_T107 l1_3 x55_3).f0), .int .i64 ((rd_T107 l1_3 x55_3).f1), .int .i64 0, .int .i64 0, .int .i64 0]) ?_ 2 _ rfl; (with_reducible repeat (first | refine blk_drewN ?_ _ | refine blk_drew ?_ | refine blk_alloc ?_ _)); refine blk_put (cs := #[.int .i64 ((rd_T107 l1_3 x55_3).f0), .int .i64 0, .int .i64 0, .int .i64 0, .int .i64 0]) ?_ 1 _ rfl; (with_reducible repeat (first | refine blk_drewN ?_ _ | refine blk_drew ?_ | refine blk_alloc ?_ _)); refine blk_put (cs := #[.int .i64 0, .int .i64 0, .int .i64 0, .int .i64 0, .int .i64 0]) ?_ 0 _ rfl; (with_reducible repeat (first | refine blk_drewN ?_ _ | refine blk_drew ?_ | refine blk_alloc ?_ _)); exact BK285.out⟩
       have n4_ : Aside0 (Below w.heap.size w (((((w57.setCell ⟨gb285, 0, none⟩ (.int .i64 ((rd_T107 l1_3 x55_3).f0))).setCell ⟨gb285, 1, none⟩ (.int .i64 ((rd_T107 l1_3 x55_3).f1))).setCell ⟨gb285, 2, none⟩ (.int .i64 ((rd_T107 l1_3 x55_3).f2))).setCell ⟨gb285, 3, none⟩ (.int .i64 ((rd_T107 l1_3 x55_3).f3))).setCell ⟨gb285, 4, none⟩ (.int .i64 ((rd_T107 l1_3 x55_3).f4)))) := ⟨bZ⟩; (try clear HO_6); (try clear BK277); (try clear BK278); (try clear BK285); (try clear HB); generalize (((((w57.setCell ⟨gb285, 0, none⟩ (.int .i64 ((rd_T107 l1_3 x55_3).f0))).setCell ⟨gb285, 1, none⟩ (.int .i64 ((rd_T107 l1_3 x55_3).f1))).setCell ⟨gb285, 2, none⟩ (.int .i64 ((rd_T107 l1_3 x55_3).f2))).setCell ⟨gb285, 3, none⟩ (.int .i64 ((rd_T107 l1_3 x55_3).f3))).setCell ⟨gb285, 4, none⟩ (.int .i64 ((rd_T107 l1_3 x55_3).f4))) = w63 at n0_ n1_ n2_ n3_ n4_ ⊢; have HO_6 := n0_; have BK277 := n1_
       have BK278 := n2_; have BK285 := n3_; have HB := n4_; clear n0_ n1_ n2_ n3_ n4_
       (try (rw [drewN_self w63]; generalize hq_ : World.drewN w63 _ = w63; replace HO_6 : Aside0 (Kd.Y my225 225 w63 w.heap.size (fun _ => True) v282 x6_3) := ⟨by rw [← hq_]; exact (lZY HO_6.out)⟩; replace BK277 : Aside0 (w63.heap[gb277]? = some (.cells #[.slice A0_0 l0_0.length c0_0, .int .i64 a0_1, .int .i64 a0_2] 81 (0, 0))) := ⟨by rw [← hq_]; exact (bkZ BK277.out)⟩; replace BK278 : Aside0 (w63.heap[gb278]? = some (.cells #[.int .i64 a1_0, .int .i64 a1_1, .string a1_2, .slice (some ad284) l1_3.length c1_3] 103 (0, 0))) := ⟨by rw [← hq_]; exact (bkZ BK278.out)⟩; replace BK285 : Aside0 (w63.heap[gb285]? = some (.cells #[.int .i64 ((rd_T107 l1_3 x55_3).f0), .int .i64 ((rd_T107 l1_3 x55_3).f1), .int .i64 ((rd_T107 l1_3 x55_3).f2), .int .i64 ((rd_T107 l1_3 x55_3).f3), .int .i64 ((rd_T107 l1_3 x55_3).f4)] 107 (0, 0))) := ⟨by rw [← hq_]; exact (bkZ BK285.out)⟩; replace HB : Aside0 (Below w.heap.size w w63) := ⟨by rw [← hq_]; exact bZ⟩; clear hq_))
       replace HO_6 := aZ (Kd.Y_drew HO_6.out); replace BK277 := aZ (blk_drew BK277.out); replace BK278 := aZ (blk_drew BK278.out); replace BK285 := aZ (blk_drew BK285.out); replace HB := aZ (below_drew1 HB.out)
       refine start_ (n := 11) (S := fun w' => w'.cell? ⟨gb285, 0, none⟩ = some (.int .i64 ((rd_T107 l1_3 x55_3).f0)) ∧ w'.cell? ⟨gb285, 1, none⟩ = some (.int .i64 ((rd_T107 l1_3 x55_3).f1)) ∧ w'.cell? ⟨gb285, 2, none⟩ = some (.int .i64 ((rd_T107 l1_3 x55_3).f2)) ∧ w'.cell? ⟨gb285, 3, none⟩ = some (.int .i64 ((rd_T107 l1_3 x55_3).f3)) ∧ w'.cell? ⟨gb285, 4, none⟩ = some (.int .i64 ((rd_T107 l1_3 x55_3).f4)) ∧ (Instr.lookup 225 v282 (.agg #[.int .i64 0, .int .i64 ((rd_T107 l1_3 x55_3).f2)]) false).run Try.prog w' = .ok (.int .i64 (mget 0 x6_3 (0, (rd_T107 l1_3 x55_3).f2))) w') (ds := [10]) L0' kZ rfl rfl ⟨(blk_cell BK285.out 0).trans rfl, (blk_cell BK285.out 1).trans rfl, (blk_cell BK285.out 2).trans rfl, (blk_cell BK285.out 3).trans rfl, (blk_cell BK285.out 4).trans rfl, (Kd.Y_get (m := my225) (e := 225) (lZY HO_6.out) (0, (rd_T107 l1_3 x55_3).f2) (show okPI _ from ⟨(show okI _ from by unfold okI; omega), (show okI _ from ⟨((of_decide_eq_true tZE) : -9223372036854775808 ≤ ((rd_T107 l1_3 x55_3).f2)), ((of_decide_eq_true tZE) : ((rd_T107 l1_3 x55_3).f2) ≤ 9223372036854775807)⟩)⟩))⟩ (fun hHeld => ?_); refine with_tabW impl_entryIn.tab14 impl_entryIn.bits14 (fun HT_ HW_ => ?_)
       generalize w63.drew = w64 at HO_6 BK277 BK278 BK285 HB hHeld ⊢; refine pure_ (i := 0) (N := some 107) (v := ?_) (a' := ?_) L1' rfl rfl (any_of HT_.out kZ) (fun _ _ _ h => h) (Or.inl ⟨by rfl, ?_⟩) ?_ ?_; rotate_left
       ·intro w'; go_simp; with_reducible rfl
       rotate_left
       ·simp only [Act.put, sZ1, sZ2, sZ3, i64_w, i32_w]; rfl
       refine pure_ (i := 1) (N := some 108) (v := ?_) (a' := ?_) L2' rfl rfl (any_of HT_.out kZ) (fun _ _ _ h => h) (Or.inl ⟨by rfl, ?_⟩) ?_ ?_; rotate_left
       ·intro w'; go_simp; with_reducible rfl
       rotate_left
       ·simp only [Act.put, sZ1, sZ2, sZ3, i64_w, i32_w]; rfl
       refine pure_ (i := 5) (N := some 112) (v := ?_) (a' := ?_) L3' rfl rfl (any_of HT_.out kZ) (fun _ _ _ h => h) (Or.inl ⟨by rfl, ?_⟩) ?_ ?_; rotate_left
       ·intro w'; go_simp; with_reducible rfl
       rotate_left
       ·simp only [Act.put, sZ1, sZ2, sZ3, i64_w, i32_w]; rfl
       refine take_ (i := 2) (N := some 109) (v := ?_) (a' := ?_) L4' rfl rfl (take_ofW HT_.out HW_.out kZ) (fun _ _ _ h => h) (Or.inl ⟨by rfl, ?_⟩) hHeld ?_ ?_; rotate_left
       ·rintro w' ⟨s0, s1, s2, s3, s4, s5⟩
        go_simp; with_reducible rfl
       rotate_left
       ·simp only [Act.put, sZ1, sZ2, sZ3, i64_w, i32_w]; rfl
       refine pure_ (i := 3) (N := some 110) (v := ?_) (a' := ?_) L5' rfl rfl (any_of HT_.out kZ) (fun _ _ _ h => h) (Or.inl ⟨by rfl, ?_⟩) ?_ ?_; rotate_left
       ·intro w'; go_simp; with_reducible rfl
       rotate_left
       ·simp only [Act.put, sZ1, sZ2, sZ3, i64_w, i32_w]; rfl
       refine take_ (i := 4) (N := some 111) (v := ?_) (a' := ?_) L6' rfl rfl (take_ofW HT_.out HW_.out kZ) (fun _ _ _ h => h) (Or.inl ⟨by rfl, ?_⟩) hHeld ?_ ?_; rotate_left
       ·rintro w' ⟨s0, s1, s2, s3, s4, s5⟩
        go_simp; with_reducible rfl
       rotate_left
       ·simp only [Act.put, sZ1, sZ2, sZ3, i64_w, i32_w]; rfl
       refine take_ (i := 6) (N := some 113) (v := ?_) (a' := ?_) L7' rfl rfl (take_ofW HT_.out HW_.out kZ) (fun _ _ _ h => h) (Or.inl ⟨by rfl, ?_⟩) hHeld ?_ ?_; rotate_left
       ·rintro w' ⟨s0, s1, s2, s3, s4, s5⟩
        go_simp; with_reducible rfl
       rotate_left
       ·simp only [Act.put, sZ1, sZ2, sZ3, i64_w, i32_w]; rfl
       refine pure_ (i := 7) (N := some 114) (v := ?_) (a' := ?_) L8' rfl rfl (any_of HT_.out kZ) (fun _ _ _ h => h) (Or.inl ⟨by rfl, ?_⟩) ?_ ?_; rotate_left
       ·intro w'; go_simp; with_reducible rfl
       rotate_left
       ·simp only [Act.put, sZ1, sZ2, sZ3, i64_w, i32_w]; rfl
       refine one_ (i := 8) (N := some 115) L9' rfl rfl (one_of HT_.out kZ) (by decide) (fun K hK => ?_); obtain ⟨st291, w65, he66_, ho_, hg, hsst291_⟩ := Kd.Y_entry (m := my225) (e := 225) (w := w64) (lZY HO_6.out) (0, (rd_T107 l1_3 x55_3).f2) (show okPI _ from ⟨(show okI _ from by unfold okI; omega), (show okI _ from ⟨((of_decide_eq_true tZE) : -9223372036854775808 ≤ ((rd_T107 l1_3 x55_3).f2)), ((of_decide_eq_true tZE) : ((rd_T107 l1_3 x55_3).f2) ≤ 9223372036854775807)⟩)⟩) LMc53.out; have hl66_ := Kd.Y_got (m := my225) ho_ (show okPI _ from ⟨(show okI _ from by unfold okI; omega), (show okI _ from ⟨((of_decide_eq_true tZE) : -9223372036854775808 ≤ ((rd_T107 l1_3 x55_3).f2)), ((of_decide_eq_true tZE) : ((rd_T107 l1_3 x55_3).f2) ≤ 9223372036854775807)⟩)⟩); simp only [my225, mkPI, mkSB, mkSI, mkIB, mkII, encPI, goInt] at he66_ hl66_
       refine value_ (w1 := w65) (v := .tuple #[.int .i64 (mget 0 x6_3 (0, (rd_T107 l1_3 x55_3).f2)), .int .i64 (st291 : Int)]) (by rfl) rfl (by go_simp <;> first | (rw [he66_]; rfl) | (simp only [he66_, Result.andThen]; done)) ?_; replace BK277 := aZ (Kd.blk_turn (e := 225) (bkZ BK277.out) (lZY HO_6.out) hg); replace BK278 := aZ (Kd.blk_turn (e := 225) (bkZ BK278.out) (lZY HO_6.out) hg); replace BK285 := aZ (Kd.blk_turn (e := 225) (bkZ BK285.out) (lZY HO_6.out) hg); replace HB := aZ (Kd.below_turn (e := 225) (lZY HO_6.out) bZ (Nat.le_refl _) hg); replace HO_6 := aZ (ho_); clear ho_ hg; refine hK.out _ _ ⟨(blk_cell BK285.out 0).trans rfl, (blk_cell BK285.out 1).trans rfl, (blk_cell BK285.out 2).trans rfl, (blk_cell BK285.out 3).trans rfl, (blk_cell BK285.out 4).trans rfl, hl66_⟩ (fun hHeld => ?_); clear hK K; refine norm_ (a' := ?_) ?_ ?_; rotate_left
       ·show Act.put _ (some 115) _ = _
        simp only [Act.put, sZ1, sZ2, sZ3, i64_w, i32_w]; rfl
       refine pure_ (i := 9) (N := some 116) (v := ?_) (a' := ?_) L10' rfl rfl (any_of HT_.out kZ) (fun _ _ _ h => h) (Or.inl ⟨by rfl, ?_⟩) ?_ ?_; rotate_left
       ·intro w'; go_simp; with_reducible rfl
       rotate_left
       ·simp only [Act.put, sZ1, sZ2, sZ3, i64_w, i32_w]; rfl
       refine last_ (i := 10) (N := none) L11' rfl rfl (one_of HT_.out kZ) (by decide) (fun K hK => ?_); obtain ⟨w67, he68_, ho_, hg⟩ := hsst291_ (wrap64 ((mget 0 x6_3 (0, (rd_T107 l1_3 x55_3).f2)) + ((rd_T107 l1_3 x55_3).f3))) (show okI _ from by unfold okI wrap64; omega); simp only [my225, mkPI, mkSB, mkSI, mkIB, mkII, encPI, goInt] at he68_; refine skip_ (w1 := w67) (by rfl) rfl (by go_simp <;> first | (rw [he68_]; rfl) | (simp only [he68_, Result.andThen]; done)) ?_; rw [← Ny292.out] at ho_; replace BK277 := aZ (Kd.blk_turn (e := 225) (bkZ BK277.out) (lZY HO_6.out) hg); replace BK278 := aZ (Kd.blk_turn (e := 225) (bkZ BK278.out) (lZY HO_6.out) hg); replace BK285 := aZ (Kd.blk_turn (e := 225) (bkZ BK285.out) (lZY HO_6.out) hg); replace HB := aZ (Kd.below_turn (e := 225) (lZY HO_6.out) bZ (Nat.le_refl _) hg); have HO293 := aZ (ho_); clear HO_6; clear ho_ hg; refine hK.out _ _ ?_
       clear hK K; refine done_ (done_of HT_.out kZ) ?_
       try go_wp2
       replace HO293 := aZ (Kd.Y_drew HO293.out); replace BK277 := aZ (blk_drew BK277.out); replace BK278 := aZ (blk_drew BK278.out); replace BK285 := aZ (blk_drew BK285.out); replace HB := aZ (below_drew1 HB.out)
       refine start_ (n := 11) (S := fun w' => w'.cell? ⟨gb285, 0, none⟩ = some (.int .i64 ((rd_T107 l1_3 x55_3).f0)) ∧ w'.cell? ⟨gb285, 1, none⟩ = some (.int .i64 ((rd_T107 l1_3 x55_3).f1)) ∧ w'.cell? ⟨gb285, 2, none⟩ = some (.int .i64 ((rd_T107 l1_3 x55_3).f2)) ∧ w'.cell? ⟨gb285, 3, none⟩ = some (.int .i64 ((rd_T107 l1_3 x55_3).f3)) ∧ w'.cell? ⟨gb285, 4, none⟩ = some (.int .i64 ((rd_T107 l1_3 x55_3).f4)) ∧ (Instr.lookup 225 v282 (.agg #[.int .i64 1, .int .i64 ((rd_T107 l1_3 x55_3).f1)]) false).run Try.prog w' = .ok (.int .i64 (mget 0 y292 (1, (rd_T107 l1_3 x55_3).f1))) w') (ds := [10]) L0' kZ rfl rfl ⟨(blk_cell BK285.out 0).trans rfl, (blk_cell BK285.out 1).trans rfl, (blk_cell BK285.out 2).trans rfl, (blk_cell BK285.out 3).trans rfl, (blk_cell BK285.out 4).trans rfl, (Kd.Y_get (m := my225) (e := 225) (lZY HO293.out) (1, (rd_T107 l1_3 x55_3).f1) (show okPI _ from ⟨(show okI _ from by unfold okI; omega), (show okI _ from ⟨((of_decide_eq_true tZE) : -9223372036854775808 ≤ ((rd_T107 l1_3 x55_3).f1)), ((of_decide_eq_true tZE) : ((rd_T107 l1_3 x55_3).f1) ≤ 9223372036854775807)⟩)⟩))⟩ (fun hHeld => ?_); refine with_tabW impl_entryIn.tab15 impl_entryIn.bits15 (fun HT_ HW_ => ?_)
       generalize w67.drew = w69 at HO293 BK277 BK278 BK285 HB hHeld ⊢; refine pure_ (i := 0) (N := some 117) (v := ?_) (a' := ?_) L1' rfl rfl (any_of HT_.out kZ) (fun _ _ _ h => h) (Or.inl ⟨by rfl, ?_⟩) ?_ ?_; rotate_left
       ·intro w'; go_simp; with_reducible rfl
       rotate_left
       ·simp only [Act.put, sZ1, sZ2, sZ3, i64_w, i32_w]; rfl
       refine pure_ (i := 1) (N := some 118) (v := ?_) (a' := ?_) L2' rfl rfl (any_of HT_.out kZ) (fun _ _ _ h => h) (Or.inl ⟨by rfl, ?_⟩) ?_ ?_; rotate_left
       ·intro w'; go_simp; with_reducible rfl
       rotate_left
       ·simp only [Act.put, sZ1, sZ2, sZ3, i64_w, i32_w]; rfl
       refine pure_ (i := 5) (N := some 122) (v := ?_) (a' := ?_) L3' rfl rfl (any_of HT_.out kZ) (fun _ _ _ h => h) (Or.inl ⟨by rfl, ?_⟩) ?_ ?_; rotate_left
       ·intro w'; go_simp; with_reducible rfl
       rotate_left
       ·simp only [Act.put, sZ1, sZ2, sZ3, i64_w, i32_w]; rfl
       refine take_ (i := 2) (N := some 119) (v := ?_) (a' := ?_) L4' rfl rfl (take_ofW HT_.out HW_.out kZ) (fun _ _ _ h => h) (Or.inl ⟨by rfl, ?_⟩) hHeld ?_ ?_; rotate_left
       ·rintro w' ⟨s0, s1, s2, s3, s4, s5⟩
        go_simp; with_reducible rfl
       rotate_left
       ·simp only [Act.put, sZ1, sZ2, sZ3, i64_w, i32_w]; rfl
       refine pure_ (i := 3) (N := some 120) (v := ?_) (a' := ?_) L5' rfl rfl (any_of HT_.out kZ) (fun _ _ _ h => h) (Or.inl ⟨by rfl, ?_⟩) ?_ ?_; rotate_left
       ·intro w'; go_simp; with_reducible rfl
       rotate_left
       ·simp only [Act.put, sZ1, sZ2, sZ3, i64_w, i32_w]; rfl
       refine take_ (i := 4) (N := some 121) (v := ?_) (a' := ?_) L6' rfl rfl (take_ofW HT_.out HW_.out kZ) (fun _ _ _ h => h) (Or.inl ⟨by rfl, ?_⟩) hHeld ?_ ?_; rotate_left
       ·rintro w' ⟨s0, s1, s2, s3, s4, s5⟩
        go_simp; with_reducible rfl
       rotate_left
       ·simp only [Act.put, sZ1, sZ2, sZ3, i64_w, i32_w]; rfl
       refine take_ (i := 6) (N := some 123) (v := ?_) (a' := ?_) L7' rfl rfl (take_ofW HT_.out HW_.out kZ) (fun _ _ _ h => h) (Or.inl ⟨by rfl, ?_⟩) hHeld ?_ ?_; rotate_left
       ·rintro w' ⟨s0, s1, s2, s3, s4, s5⟩
        go_simp; with_reducible rfl
       rotate_left
       ·simp only [Act.put, sZ1, sZ2, sZ3, i64_w, i32_w]; rfl
       refine pure_ (i := 7) (N := some 124) (v := ?_) (a' := ?_) L8' rfl rfl (any_of HT_.out kZ) (fun _ _ _ h => h) (Or.inl ⟨by rfl, ?_⟩) ?_ ?_; rotate_left
       ·intro w'; go_simp; with_reducible rfl
       rotate_left
       ·simp only [Act.put, sZ1, sZ2, sZ3, i64_w, i32_w]; rfl
       refine one_ (i := 8) (N := some 125) L9' rfl rfl (one_of HT_.out kZ) (by decide) (fun K hK => ?_); obtain ⟨st294, w70, he71_, ho_, hg, hsst294_⟩ := Kd.Y_entry (m := my225) (e := 225) (w := w69) (lZY HO293.out) (1, (rd_T107 l1_3 x55_3).f1) (show okPI _ from ⟨(show okI _ from by unfold okI; omega), (show okI _ from ⟨((of_decide_eq_true tZE) : -9223372036854775808 ≤ ((rd_T107 l1_3 x55_3).f1)), ((of_decide_eq_true tZE) : ((rd_T107 l1_3 x55_3).f1) ≤ 9223372036854775807)⟩)⟩) LMc56.out; have hl71_ := Kd.Y_got (m := my225) ho_ (show okPI _ from ⟨(show okI _ from by unfold okI; omega), (show okI _ from ⟨((of_decide_eq_true tZE) : -9223372036854775808 ≤ ((rd_T107 l1_3 x55_3).f1)), ((of_decide_eq_true tZE) : ((rd_T107 l1_3 x55_3).f1) ≤ 9223372036854775807)⟩)⟩); simp only [my225, mkPI, mkSB, mkSI, mkIB, mkII, encPI, goInt] at he71_ hl71_
       refine value_ (w1 := w70) (v := .tuple #[.int .i64 (mget 0 y292 (1, (rd_T107 l1_3 x55_3).f1)), .int .i64 (st294 : Int)]) (by rfl) rfl (by go_simp <;> first | (rw [he71_]; rfl) | (simp only [he71_, Result.andThen]; done)) ?_; replace BK277 := aZ (Kd.blk_turn (e := 225) (bkZ BK277.out) (lZY HO293.out) hg); replace BK278 := aZ (Kd.blk_turn (e := 225) (bkZ BK278.out) (lZY HO293.out) hg); replace BK285 := aZ (Kd.blk_turn (e := 225) (bkZ BK285.out) (lZY HO293.out) hg); replace HB := aZ (Kd.below_turn (e := 225) (lZY HO293.out) bZ (Nat.le_refl _) hg); replace HO293 := aZ (ho_); clear ho_ hg; refine hK.out _ _ ⟨(blk_cell BK285.out 0).trans rfl, (blk_cell BK285.out 1).trans rfl, (blk_cell BK285.out 2).trans rfl, (blk_cell BK285.out 3).trans rfl, (blk_cell BK285.out 4).trans rfl, hl71_⟩ (fun hHeld => ?_); clear hK K; refine norm_ (a' := ?_) ?_ ?_; rotate_left
       ·show Act.put _ (some 125) _ = _
        simp only [Act.put, sZ1, sZ2, sZ3, i64_w, i32_w]; rfl
       refine pure_ (i := 9) (N := some 126) (v := ?_) (a' := ?_) L10' rfl rfl (any_of HT_.out kZ) (fun _ _ _ h => h) (Or.inl ⟨by rfl, ?_⟩) ?_ ?_; rotate_left
       ·intro w'; go_simp; with_reducible rfl
       rotate_left
       ·simp only [Act.put, sZ1, sZ2, sZ3, i64_w, i32_w]; rfl
       refine last_ (i := 10) (N := none) L11' rfl rfl (one_of HT_.out kZ) (by decide) (fun K hK => ?_); obtain ⟨w72, he73_, ho_, hg⟩ := hsst294_ (wrap64 ((mget 0 y292 (1, (rd_T107 l1_3 x55_3).f1)) + ((rd_T107 l1_3 x55_3).f4))) (show okI _ from by unfold okI wrap64; omega); simp only [my225, mkPI, mkSB, mkSI, mkIB, mkII, encPI, goInt] at he73_; refine skip_ (w1 := w72) (by rfl) rfl (by go_simp <;> first | (rw [he73_]; rfl) | (simp only [he73_, Result.andThen]; done)) ?_; rw [← Ny295.out] at ho_; replace BK277 := aZ (Kd.blk_turn (e := 225) (bkZ BK277.out) (lZY HO293.out) hg); replace BK278 := aZ (Kd.blk_turn (e := 225) (bkZ BK278.out) (lZY HO293.out) hg); replace BK285 := aZ (Kd.blk_turn (e := 225) (bkZ BK285.out) (lZY HO293.out) hg); replace HB := aZ (Kd.below_turn (e := 225) (lZY HO293.out) bZ (Nat.le_refl _) hg); have HO296 := aZ (ho_); clear HO293; clear ho_ hg; refine hK.out _ _ ?_
       clear hK K; refine done_ (done_of HT_.out kZ) ?_
       try go_wp2
       go_roundg k3
       case measure => have := HJ2.out; have := HK2.out; have := HK3.out; omega
       case rel => exact ⟨(y295), (wrap64 (x55_3 + 1)), tZB, H', ⟨by have := HJ2.out; have := HK2.out; have := HK3.out; omega⟩, ⟨lZY HO296.out⟩, ⟨bkZ BK277.out⟩, ⟨bkZ BK278.out⟩, ⟨bZ⟩⟩
end Go.Proofs.Ytmpknbdbichdiaa.PFnExactLedgerOk
