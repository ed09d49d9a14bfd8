import Derived.Test.YtifkchkjpbpolaaGPFnExactIssuex0
import Derived.Test.YtifkchkjpbpolaaGPFnExactIssuex1
import Derived.Test.YtifkchkjpbpolaaGPFnExactIssuex3
import Derived.Test.YtifkchkjpbpolaaGPFnExactIssuex4
import Derived.Test.YtifkchkjpbpolaaGSlimWords
namespace Go.Proofs.Ytifkchkjpbpolaa.PFnExactIssue
open Go.Proofs.Ytifkchkjpbpolaa.SlimWords
open Go.RowKit Go.Proofs.YtifkchkjpbpolaaW.PrintWords Go.Proofs.YtifkchkjpbpolaaW.PrintLast Go.Proofs.YtifkchkjpbpolaaW.PrintMore Go.Proofs.Ytifkchkjpbpolaa.MapWords
attribute [local go_sem] max2_int min2_int max_two min_two max_three min_three max_four min_four
set_option linter.unusedVariables false
set_option linter.unusedSimpArgs false
private abbrev I' := true
private abbrev O' := false
private abbrev L0' : Array Bool := #[O',O',O',O',O',O',O',O',O',O',O',O',O',O',O',O']
private abbrev L1' : Array Bool := #[I',O',O',O',O',O',O',O',O',O',O',O',O',O',O',O']
private abbrev L2' : Array Bool := #[I',I',O',O',O',O',O',O',O',O',O',O',O',O',O',O']
private abbrev L3' : Array Bool := #[I',I',I',O',O',O',O',O',O',O',O',O',O',O',O',O']
private abbrev L4' : Array Bool := #[I',I',I',I',O',O',O',O',O',O',O',O',O',O',O',O']
private abbrev L5' : Array Bool := #[I',I',I',I',I',O',O',O',O',O',O',O',O',O',O',O']
private abbrev L6' : Array Bool := #[I',I',I',I',I',I',O',O',O',O',O',O',O',O',O',O']
private abbrev L7' : Array Bool := #[I',I',I',I',I',I',I',O',O',O',O',O',O',O',O',O']
private abbrev L8' : Array Bool := #[I',I',I',I',I',I',I',I',O',O',O',O',O',O',O',O']
private abbrev L9' : Array Bool := #[I',I',I',I',I',I',I',I',I',O',O',O',O',O',O',O']
private abbrev L10' : Array Bool := #[I',I',I',I',I',I',I',I',I',I',O',O',O',O',O',O']
private abbrev L11' : Array Bool := #[I',I',I',I',I',I',I',I',I',I',I',O',O',O',O',O']
private abbrev L12' : Array Bool := #[I',I',I',I',I',I',I',I',I',I',I',I',O',O',O',O']
private abbrev L13' : Array Bool := #[I',I',I',I',I',I',I',I',I',I',I',I',I',O',O',O']
private abbrev L14' : Array Bool := #[I',I',I',I',I',I',I',I',I',I',I',I',I',I',O',O']
private abbrev L15' : Array Bool := #[I',I',I',I',I',I',I',I',I',I',I',I',I',I',I',O']
private abbrev L16' : Array Bool := #[I',I',I',I',I',I',I',I',I',I',I',I',I',I',I',I']
private abbrev L17' : Array Bool := #[I',I',I',I',I',I',O',O',I',O',O',O',O',O',O',O']
private abbrev L18' : Array Bool := #[I',I',I',I',I',I',O',O',I',O',I',O',O',O',O',O']
private abbrev L19' : Array Bool := #[I',I',I',I',I',I',O',O',I',I',I',O',O',O',O',O']
private abbrev L20' : Array Bool := #[I',I',I',I',I',I',O',O',I',I',I',I',O',O',O',O']
private abbrev L21' : Array Bool := #[I',I',I',I',I',I',O',O',I',I',I',I',I',O',O',O']
private abbrev L22' : Array Bool := #[I',I',I',I',I',I',O',O',I',I',I',I',I',I',O',O']
private abbrev L23' : Array Bool := #[I',I',I',I',I',I',I',O',I',I',I',I',I',I',O',O']
mutual
def spec_Issue.l0 : Nat → Int → Int → Int → Int → Int → List (S124) → List (S120) → List (S124) → List (S120) → Option ((List (S124)) × (List (S120)) × Int)
  | 0, _, _, _, _, _, _, _, _, _ => none
  | k + 1, x1, x2, x9, x10, x11, x141000, x141001, x150000, x150001 => if x11 < (x141001.length : Int) then (if 0 ≤ x11 then (if ((rd_T120 x141001 x11).f0) = x1 then (spec_Issue.l0 k x1 x2 (wrap64 (x9 + 1)) ((rd_T120 x141001 x11).f2) (wrap64 (x11 + 1)) x141000 x141001 x150000 x150001) else (spec_Issue.l0 k x1 x2 x9 x10 (wrap64 (x11 + 1)) x141000 x141001 x150000 x150001)) else (none)) else ((spec_l2Day.f x2).bind fun t153 => (if t153 = true then (spec_Issue.j1 k x1 x2 x9 (decide (x2 < x10)) x141000 x141001 x150000 x150001) else (spec_Issue.j1 k x1 x2 x9 true x141000 x141001 x150000 x150001)))
def spec_Issue.j1 : Nat → Int → Int → Int → Bool → List (S124) → List (S120) → List (S124) → List (S120) → Option ((List (S124)) × (List (S120)) × Int)
  | 0, _, _, _, _, _, _, _, _ => none
  | k + 1, x1, x2, x9, x56, x141000, x141001, x150000, x150001 => if x56 = true then (some (x150000, x150001, 3)) else (if (x141001.length : Int) = 400 then (some (x150000, x150001, 4)) else ((spec_l1Text.f k x9).bind fun t154 => (if 0 ≤ x1 then (if x1 < (x141000.length : Int) then (if (t154.size : Int) > ((rd_T124 x141000 x1).f1) then (some (x150000, x150001, 4)) else (if x150001.length < 4398046511104 then (some (x150000, (x150001 ++ [(⟨x1, x9, x2, false⟩ : S120)]), 0)) else (none))) else (none)) else (none))))
end
def spec_Issue.f (k : Nat) (l0_0 : List (S124)) (l0_1 : List (S120)) (a1 : Int) (a2 : Int) : Option ((List (S124)) × (List (S120)) × Int) := (spec_RegisterOk.f k l0_0 l0_1).bind fun t142 => (if t142 = true then ((spec_l11Register.f l0_0 l0_1).bind fun bt143 => ((spec_l1In.f a1 0 (wrap64 ((l0_0.length : Int) - 1))).bind fun t150 => (if t150 = true then (spec_Issue.l0 k a1 a2 1 0 0 l0_0 l0_1 bt143.1 bt143.2) else (some (bt143.1, bt143.2, 2))))) else (some (([] : List (S124)), ([] : List (S120)), 1)))
theorem spec_Issue.mono_l : ∀ k, (∀ y0 y1 y2 y3 y4 y5 y6 y7 y8, LeO (spec_Issue.l0 k y0 y1 y2 y3 y4 y5 y6 y7 y8) (spec_Issue.l0 (k + 1) y0 y1 y2 y3 y4 y5 y6 y7 y8)) ∧ (∀ y0 y1 y2 y3 y4 y5 y6 y7, LeO (spec_Issue.j1 k y0 y1 y2 y3 y4 y5 y6 y7) (spec_Issue.j1 (k + 1) y0 y1 y2 y3 y4 y5 y6 y7))
  | 0 => ⟨fun _ _ _ _ _ _ _ _ _ r h => by simp [spec_Issue.l0] at h, fun _ _ _ _ _ _ _ _ r h => by simp [spec_Issue.j1] at h⟩
  | k + 1 => by
    obtain ⟨ih0, ih1⟩ := spec_Issue.mono_l k
    refine ⟨?_, ?_⟩
    · intro y0 y1 y2 y3 y4 y5 y6 y7 y8
      unfold spec_Issue.l0
      repeat' first
      | (with_reducible exact ih0 _ _ _ _ _ _ _ _ _)
      | (with_reducible exact ih1 _ _ _ _ _ _ _ _)
      | (with_reducible exact spec_RegisterOk.mono _ _ _)
      | (with_reducible exact spec_l1Text.mono _ _)
      | (with_reducible exact LeO.refl _)
      | (with_reducible exact LeO.none _)
      | (with_reducible refine LeO.ite ?_ ?_)
      | (with_reducible refine LeO.bind ?_ (fun _ => ?_))
      | exact ih0 _ _ _ _ _ _ _ _ _
      | exact ih1 _ _ _ _ _ _ _ _
      | exact spec_RegisterOk.mono _ _ _
      | exact spec_l1Text.mono _ _
      | exact LeO.none _
      | refine LeO.ite ?_ ?_
      | refine LeO.bind ?_ (fun _ => ?_)
    · intro y0 y1 y2 y3 y4 y5 y6 y7
      unfold spec_Issue.j1
      repeat' first
      | (with_reducible exact ih0 _ _ _ _ _ _ _ _ _)
      | (with_reducible exact ih1 _ _ _ _ _ _ _ _)
      | (with_reducible exact spec_RegisterOk.mono _ _ _)
      | (with_reducible exact spec_l1Text.mono _ _)
      | (with_reducible exact LeO.refl _)
      | (with_reducible exact LeO.none _)
      | (with_reducible refine LeO.ite ?_ ?_)
      | (with_reducible refine LeO.bind ?_ (fun _ => ?_))
      | exact ih0 _ _ _ _ _ _ _ _ _
      | exact ih1 _ _ _ _ _ _ _ _
      | exact spec_RegisterOk.mono _ _ _
      | exact spec_l1Text.mono _ _
      | exact LeO.none _
      | refine LeO.ite ?_ ?_
      | refine LeO.bind ?_ (fun _ => ?_)
theorem spec_Issue.mono : ∀ a0 a1 a2 a3 k, LeO (spec_Issue.f k a0 a1 a2 a3) (spec_Issue.f (k + 1) a0 a1 a2 a3) := by
 intro a0 a1 a2 a3 k
 obtain ⟨ih0, ih1⟩ := spec_Issue.mono_l k
 unfold spec_Issue.f
 repeat' first
     | (with_reducible exact ih0 _ _ _ _ _ _ _ _ _)
     | (with_reducible exact ih1 _ _ _ _ _ _ _ _)
     | (with_reducible exact spec_RegisterOk.mono _ _ _)
     | (with_reducible exact spec_l1Text.mono _ _)
     | (with_reducible exact LeO.refl _)
     | (with_reducible exact LeO.none _)
     | (with_reducible refine LeO.ite ?_ ?_)
     | (with_reducible refine LeO.bind ?_ (fun _ => ?_))
     | exact ih0 _ _ _ _ _ _ _ _ _
     | exact ih1 _ _ _ _ _ _ _ _
     | exact spec_RegisterOk.mono _ _ _
     | exact spec_l1Text.mono _ _
     | exact LeO.none _
     | refine LeO.ite ?_ ?_
     | refine LeO.bind ?_ (fun _ => ?_)
def spec_Issue.T16 : Bool × List (List Nat × List Nat) := (true, [([], []), ([0], [0]), ([1], [1]), ([2], [2]), ([3], [3]), ([4], [4]), ([5, 4, 4], [4, 5]), ([6, 4], [4, 6]), ([4], [4]), ([8, 4], [4, 8]), ([4], [4]), ([9, 10, 4], [4, 9, 10]), ([11, 4], [4, 11]), ([12, 4], [4, 12]), ([7, 13, 4], [4, 7, 13]), ([4, 14], [4, 14])])
def spec_Issue.B16 : List Nat := [0, 1, 3, 7, 15, 31, 63, 127, 31, 287, 31, 1823, 3871, 7967, 16383, 32767]
theorem spec_Issue.tab16 : rtab .any (opsOf Try.f14 16) = spec_Issue.T16 := by kernel_rfl
theorem spec_Issue.bits16 : waitsOk spec_Issue.T16.2 spec_Issue.B16 = true := by kernel_rfl
set_option maxHeartbeats 8000000 in
set_option maxRecDepth 100000 in
theorem spec_Issue.calls (k : Nat) (A0_0 : Option Addr) (c0_0 : Nat) (l0_0 : List (S124)) (A0_1 : Option Addr) (c0_1 : Nat) (l0_1 : List (S120)) (a1 : Int) (a2 : Int) (r1 : List (S124)) (r2 : List (S120)) (r3 : Int) (w : World) (hr0_0 : Kd.C k124 w A0_0 l0_0.length l0_0) (hc0_0 : l0_0.length ≤ c0_0) (hr0_1 : Kd.C k120 w A0_1 l0_1.length l0_1) (hc0_1 : l0_1.length ≤ c0_1) (h : spec_Issue.f k l0_0 l0_1 a1 a2 = some (r1, r2, r3)) :
    Calls Try.prog 14 #[.agg #[.slice A0_0 l0_0.length c0_0, .slice A0_1 l0_1.length c0_1], .int .i64 a1, .int .i64 a2] w fun e w' => ∃ v0_ v1_ : Value, e = .returned (.tuple #[.agg #[v0_, v1_], .int .i64 r3]) ∧ Kd.R k124 124 w' w.heap.size (fun _ => True) v0_ r1 ∧ Kd.R k120 120 w' w.heap.size (fun _ => True) v1_ r2 ∧ Below w.heap.size w w' := by
 have hu30 := Try.underlying30
 have hu120 := Try.underlying120
 have HR0_0 := Aside0.mk hr0_0
 have HC0_0 := Aside0.mk hc0_0
 clear hr0_0 hc0_0
 have HR0_1 := Aside0.mk hr0_1
 have HC0_1 := Aside0.mk hc0_1
 clear hr0_1 hc0_1
 have HB := aZ (Below.refl w.heap.size w)
 have H : ((spec_RegisterOk.f k l0_0 l0_1).bind fun t142 => (if t142 = true then ((spec_l11Register.f l0_0 l0_1).bind fun bt143 => ((spec_l1In.f a1 0 (wrap64 ((l0_0.length : Int) - 1))).bind fun t150 => (if t150 = true then (spec_Issue.l0 k a1 a2 1 0 0 l0_0 l0_1 bt143.1 bt143.2) else (some (bt143.1, bt143.2, 2))))) else (some (([] : List (S124)), ([] : List (S120)), 1)))) = some (r1, r2, r3) := h
 clear h
 replace H := Option.bind_eq_some_iff.mp H
 obtain ⟨t142, A40, H⟩ := H
 replace H : (if t142 = true then ((spec_l11Register.f l0_0 l0_1).bind fun bt143 => ((spec_l1In.f a1 0 (wrap64 ((l0_0.length : Int) - 1))).bind fun t150 => (if t150 = true then (spec_Issue.l0 k a1 a2 1 0 0 l0_0 l0_1 bt143.1 bt143.2) else (some (bt143.1, bt143.2, 2))))) else (some (([] : List (S124)), ([] : List (S120)), 1))) = some (r1, r2, r3) := H
 have A4 := Aside0.mk A40
 clear A40
 by_cases c5 : t142 = true
 rotate_left
 ·replace c5 := Bool.eq_false_iff.mpr c5
  subst c5
  have H1 : (some (([] : List (S124)), ([] : List (S120)), 1)) = some (r1, r2, r3) := by rw [if_neg (show ¬ (false = true) by decide)] at H; exact H
  clear H
  have H := H1
  clear H1
  simp only [Option.some.injEq, Prod.mk.injEq] at H
  obtain ⟨rfl, rfl, rfl⟩ := H
  go_enter Try.func14, Try.ntmps14
  go_wp2_with (first | ((with_reducible refine gate_dst (N := 3) rfl ?_); (try (refine gate_guard (by rfl) ?_; dsimp only)); refine box_event ?hg (N := 3) ?hd (cs := #[.slice A0_0 l0_0.length c0_0, .slice A0_1 l0_1.length c0_1]) (t := 30) ?hr ?_; (case hd => rfl); (case hg => rfl); (case hr => first | (go_simp; done) | (go_simp; rfl)); intro gb140 hg w88 hbox hb; have BK140 := aZ (hbox); have GW140 := aZ ((by rw [hg]; exact (below_size (lZB HB.out)) : w.heap.size ≤ gb140)); have GE140 := aZ ((by rw [hg]; exact (below_size (lZB HB.out)) : w.heap.size ≤ gb140)); replace HB := aZ (below_step (lZB HB.out) hb); clear hb hbox hg) | ((with_reducible refine gate_dst (N := 6) rfl ?_); (try (refine gate_guard (by rfl) ?_; dsimp only)); refine box_event ?hg (N := 6) ?hd (cs := #[.slice none 0 0, .slice none 0 0]) (t := 30) ?hr ?_; (case hd => rfl); (case hg => rfl); (case hr => first | (go_simp; done) | (go_simp; rfl)); intro gb141 hg w89 hbox hb; have BK141 := aZ (hbox); have GW141 := aZ ((by rw [hg]; exact (below_size bZ) : w.heap.size ≤ gb141)); have GE141 := aZ ((by rw [hg]; exact (below_size bZ) : w.heap.size ≤ gb141)); replace HB := aZ (below_step bZ hb); have NB140_141 := aZ ((by rw [hg]; exact Nat.ne_of_lt (blk_lt (bkZ BK140.out)) : gb140 ≠ gb141)); have NB141_140 := aZ ((by rw [hg]; exact Nat.ne_of_gt (blk_lt (bkZ BK140.out)) : gb141 ≠ gb140)); replace BK140 := aZ (blk_below (bkZ BK140.out) hb); clear hb hbox hg; have hnb90 := NB140_141.out; have hnc90 := NB141_140.out; have hcz91_0 : w89.cell? ⟨gb140, 0, none⟩ = some (.slice A0_0 l0_0.length c0_0) := (blk_cell BK140.out 0).trans rfl; have hcz91_1 : w89.cell? ⟨gb140, 1, none⟩ = some (.slice A0_1 l0_1.length c0_1) := (blk_cell BK140.out 1).trans rfl; have hfz91_0 := blk_frozen BK140.out 0; have hfz91_1 := blk_frozen BK140.out 1) | ((with_reducible refine gate_callee (f := 69) rfl ?_); refine goesL_ (some 13) rfl rfl Try.func69 kZ rfl #[.agg #[.slice A0_0 l0_0.length c0_0, .slice A0_1 l0_1.length c0_1]] rfl tZA ?_; (with_reducible refine (spec_RegisterOk.calls k _ _ l0_0 _ _ l0_1 false _ ?side1 ?side2 ?side3 ?side4 A4.out).mono ?_); (case side1 => repeat (first | exact (Kd.C_below HR0_0.out HB.out) | (with_reducible refine Kd.C_alloc ?_ _) | (with_reducible refine Kd.C_drewN ?_ _) | (with_reducible refine Kd.C_drew ?_))); (case side2 => exact HC0_0.out); (case side3 => repeat (first | exact (Kd.C_below HR0_1.out HB.out) | (with_reducible refine Kd.C_alloc ?_ _) | (with_reducible refine Kd.C_drewN ?_ _) | (with_reducible refine Kd.C_drew ?_))); (case side4 => exact HC0_1.out); rintro e w92 ⟨rfl, hb⟩; refine ⟨_, rfl, ?_⟩; replace BK140 := aZ (blk_below (bkZ BK140.out) hb); replace BK141 := aZ (blk_below (bkZ BK141.out) hb); replace HB := aZ (below_step bZ hb); (try clear hb); (try clear hb2); (try clear hk); (try clear hi); have hcz93_0 : w92.cell? ⟨gb141, 0, none⟩ = some (.slice none 0 0) := (blk_cell BK141.out 0).trans rfl; have hcz93_1 : w92.cell? ⟨gb141, 1, none⟩ = some (.slice none 0 0) := (blk_cell BK141.out 1).trans rfl; have hfz93_0 := blk_frozen BK141.out 0; have hfz93_1 := blk_frozen BK141.out 1))
  refine bodyPost_ret (results_ct rfl _ _ gb141 30 #[.slice none 0 0, .slice none 0 0] (0, 0) _ rfl (by (with_reducible repeat (first | refine blk_drewN ?_ _ | refine blk_drew ?_ | refine blk_alloc ?_ _)); refine blk_put (cs := #[.slice none 0 0, .slice none 0 0]) ?_ 1 _ rfl; (with_reducible repeat (first | refine blk_drewN ?_ _ | refine blk_drew ?_ | refine blk_alloc ?_ _)); refine blk_put (cs := #[.slice none 0 0, .slice none 0 0]) ?_ 0 _ rfl; (with_reducible repeat (first | refine blk_drewN ?_ _ | refine blk_drew ?_ | refine blk_alloc ?_ _)); exact BK141.out) Try.underlying30 rfl kZ) rfl ?_
  exact ⟨_, _, tZC, by first | exact Kd.R_nil _ _ _ _ _ | exact Kd.N_nil _ _ _ _ _ | exact Kd.V_nil _ _ _ _ _ | exact Kd.Q_nil _ _ _ _ _ | exact Kd.S_nil _ _ _ _ _, by first | exact Kd.R_nil _ _ _ _ _ | exact Kd.N_nil _ _ _ _ _ | exact Kd.V_nil _ _ _ _ _ | exact Kd.Q_nil _ _ _ _ _ | exact Kd.S_nil _ _ _ _ _, bZ⟩
 subst c5
 have H1 : ((spec_l11Register.f l0_0 l0_1).bind fun bt143 => ((spec_l1In.f a1 0 (wrap64 ((l0_0.length : Int) - 1))).bind fun t150 => (if t150 = true then (spec_Issue.l0 k a1 a2 1 0 0 l0_0 l0_1 bt143.1 bt143.2) else (some (bt143.1, bt143.2, 2))))) = some (r1, r2, r3) := by rw [if_pos rfl] at H; exact H
 clear H
 have H := H1
 clear H1
 replace H := Option.bind_eq_some_iff.mp H
 obtain ⟨⟨t143, t146⟩, A60, H⟩ := H
 replace H : ((spec_l1In.f a1 0 (wrap64 ((l0_0.length : Int) - 1))).bind fun t150 => (if t150 = true then (spec_Issue.l0 k a1 a2 1 0 0 l0_0 l0_1 t143 t146) else (some (t143, t146, 2)))) = some (r1, r2, r3) := H
 have A6 := Aside0.mk A60
 clear A60
 replace H := Option.bind_eq_some_iff.mp H
 obtain ⟨t150, A70, H⟩ := H
 replace H : (if t150 = true then (spec_Issue.l0 k a1 a2 1 0 0 l0_0 l0_1 t143 t146) else (some (t143, t146, 2))) = some (r1, r2, r3) := H
 have A7 := Aside0.mk A70
 clear A70
 by_cases c8 : t150 = true
 rotate_left
 ·replace c8 := Bool.eq_false_iff.mpr c8
  subst c8
  have H1 : (some (t143, t146, 2)) = some (r1, r2, r3) := by rw [if_neg (show ¬ (false = true) by decide)] at H; exact H
  clear H
  have H := H1
  clear H1
  simp only [Option.some.injEq, Prod.mk.injEq] at H
  obtain ⟨rfl, rfl, rfl⟩ := H
  go_enter Try.func14, Try.ntmps14
  go_wp2_with (first | ((with_reducible refine gate_dst (N := 3) rfl ?_); (try (refine gate_guard (by rfl) ?_; dsimp only)); refine box_event ?hg (N := 3) ?hd (cs := #[.slice A0_0 l0_0.length c0_0, .slice A0_1 l0_1.length c0_1]) (t := 30) ?hr ?_; (case hd => rfl); (case hg => rfl); (case hr => first | (go_simp; done) | (go_simp; rfl)); intro gb140 hg w73 hbox hb; have BK140 := aZ (hbox); have GW140 := aZ ((by rw [hg]; exact (below_size (lZB HB.out)) : w.heap.size ≤ gb140)); have GE140 := aZ ((by rw [hg]; exact (below_size (lZB HB.out)) : w.heap.size ≤ gb140)); replace HB := aZ (below_step (lZB HB.out) hb); clear hb hbox hg) | ((with_reducible refine gate_dst (N := 6) rfl ?_); (try (refine gate_guard (by rfl) ?_; dsimp only)); refine box_event ?hg (N := 6) ?hd (cs := #[.slice none 0 0, .slice none 0 0]) (t := 30) ?hr ?_; (case hd => rfl); (case hg => rfl); (case hr => first | (go_simp; done) | (go_simp; rfl)); intro gb141 hg w74 hbox hb; have BK141 := aZ (hbox); have GW141 := aZ ((by rw [hg]; exact (below_size bZ) : w.heap.size ≤ gb141)); have GE141 := aZ ((by rw [hg]; exact (below_size bZ) : w.heap.size ≤ gb141)); replace HB := aZ (below_step bZ hb); have NB140_141 := aZ ((by rw [hg]; exact Nat.ne_of_lt (blk_lt (bkZ BK140.out)) : gb140 ≠ gb141)); have NB141_140 := aZ ((by rw [hg]; exact Nat.ne_of_gt (blk_lt (bkZ BK140.out)) : gb141 ≠ gb140)); replace BK140 := aZ (blk_below (bkZ BK140.out) hb); clear hb hbox hg; have hnb75 := NB140_141.out; have hnc75 := NB141_140.out; have hcz76_0 : w74.cell? ⟨gb140, 0, none⟩ = some (.slice A0_0 l0_0.length c0_0) := (blk_cell BK140.out 0).trans rfl; have hcz76_1 : w74.cell? ⟨gb140, 1, none⟩ = some (.slice A0_1 l0_1.length c0_1) := (blk_cell BK140.out 1).trans rfl; have hfz76_0 := blk_frozen BK140.out 0; have hfz76_1 := blk_frozen BK140.out 1) | ((with_reducible refine gate_callee (f := 69) rfl ?_); refine goesL_ (some 13) rfl rfl Try.func69 kZ rfl #[.agg #[.slice A0_0 l0_0.length c0_0, .slice A0_1 l0_1.length c0_1]] rfl tZA ?_; (with_reducible refine (spec_RegisterOk.calls k _ _ l0_0 _ _ l0_1 true _ ?side1 ?side2 ?side3 ?side4 A4.out).mono ?_); (case side1 => repeat (first | exact (Kd.C_below HR0_0.out HB.out) | (with_reducible refine Kd.C_alloc ?_ _) | (with_reducible refine Kd.C_drewN ?_ _) | (with_reducible refine Kd.C_drew ?_))); (case side2 => exact HC0_0.out); (case side3 => repeat (first | exact (Kd.C_below HR0_1.out HB.out) | (with_reducible refine Kd.C_alloc ?_ _) | (with_reducible refine Kd.C_drewN ?_ _) | (with_reducible refine Kd.C_drew ?_))); (case side4 => exact HC0_1.out); rintro e w77 ⟨rfl, hb⟩; refine ⟨_, rfl, ?_⟩; replace BK140 := aZ (blk_below (bkZ BK140.out) hb); replace BK141 := aZ (blk_below (bkZ BK141.out) hb); replace HB := aZ (below_step bZ hb); (try clear hb); (try clear hb2); (try clear hk); (try clear hi); have hcz78_0 : w77.cell? ⟨gb140, 0, none⟩ = some (.slice A0_0 l0_0.length c0_0) := (blk_cell BK140.out 0).trans rfl; have hcz78_1 : w77.cell? ⟨gb140, 1, none⟩ = some (.slice A0_1 l0_1.length c0_1) := (blk_cell BK140.out 1).trans rfl; have hfz78_0 := blk_frozen BK140.out 0; have hfz78_1 := blk_frozen BK140.out 1) | ((with_reducible refine gate_callee (f := 70) rfl ?_); refine goesL_ (some 17) rfl rfl Try.func70 kZ rfl #[.agg #[.slice A0_0 l0_0.length c0_0, .slice A0_1 l0_1.length c0_1]] rfl tZA ?_; (with_reducible refine (spec_l11Register.calls _ _ l0_0 _ _ l0_1 t143 t146 _ ?side1 ?side2 ?side3 ?side4 A6.out).mono ?_); (case side1 => repeat (first | exact (Kd.C_below HR0_0.out HB.out) | (with_reducible refine Kd.C_alloc ?_ _) | (with_reducible refine Kd.C_drewN ?_ _) | (with_reducible refine Kd.C_drew ?_))); (case side2 => exact HC0_0.out); (case side3 => repeat (first | exact (Kd.C_below HR0_1.out HB.out) | (with_reducible refine Kd.C_alloc ?_ _) | (with_reducible refine Kd.C_drewN ?_ _) | (with_reducible refine Kd.C_drew ?_))); (case side4 => exact HC0_1.out); rintro e w79 ⟨v144, v147, rfl, ho0, ho1, hb⟩; refine ⟨_, rfl, ?_⟩; have HO145 := aZ (Kd.R_lower ho0 (below_size bZ)); have HO148 := aZ (Kd.R_lower ho1 (below_size bZ)); replace BK140 := aZ (blk_below (bkZ BK140.out) hb); replace BK141 := aZ (blk_below (bkZ BK141.out) hb); replace HB := aZ (below_step bZ hb); (try clear hb); (try clear hb2); (try clear hk); (try clear hi); (try clear ho0); (try clear ho1)) | ((with_reducible refine gate_dst (N := 8) rfl ?_); (try (refine gate_guard (by rfl) ?_; dsimp only)); refine box_event ?hg (N := 8) ?hd (cs := #[.slice none 0 0, .slice none 0 0]) (t := 30) ?hr ?_; (case hd => rfl); (case hg => rfl); (case hr => first | (go_simp; done) | (go_simp; rfl)); intro gb149 hg w80 hbox hb; replace HO145 := aZ (Kd.R_below (lZR HO145.out) hb); replace HO148 := aZ (Kd.R_below (lZR HO148.out) hb); have BK149 := aZ (hbox); have GW149 := aZ ((by rw [hg]; exact (below_size bZ) : w.heap.size ≤ gb149)); have GE149 := aZ ((by rw [hg]; exact (below_size bZ) : w.heap.size ≤ gb149)); replace HB := aZ (below_step bZ hb); have NB140_149 := aZ ((by rw [hg]; exact Nat.ne_of_lt (blk_lt (bkZ BK140.out)) : gb140 ≠ gb149)); have NB149_140 := aZ ((by rw [hg]; exact Nat.ne_of_gt (blk_lt (bkZ BK140.out)) : gb149 ≠ gb140)); replace BK140 := aZ (blk_below (bkZ BK140.out) hb); have NB141_149 := aZ ((by rw [hg]; exact Nat.ne_of_lt (blk_lt (bkZ BK141.out)) : gb141 ≠ gb149)); have NB149_141 := aZ ((by rw [hg]; exact Nat.ne_of_gt (blk_lt (bkZ BK141.out)) : gb149 ≠ gb141)); replace BK141 := aZ (blk_below (bkZ BK141.out) hb); clear hb hbox hg; obtain ⟨Ao81, co81, eo81⟩ := Kd.R_slice HO145.out; subst eo81; have hnb82 := NB149_140.out; have hnc82 := NB140_149.out; have hnb83 := NB149_141.out; have hnc83 := NB141_149.out; have hcz84_0 : w80.cell? ⟨gb149, 0, none⟩ = some (.slice none 0 0) := (blk_cell BK149.out 0).trans rfl; have hcz84_1 : w80.cell? ⟨gb149, 1, none⟩ = some (.slice none 0 0) := (blk_cell BK149.out 1).trans rfl; have hfz84_0 := blk_frozen BK149.out 0; have hfz84_1 := blk_frozen BK149.out 1; obtain ⟨Ao85, co85, eo85⟩ := Kd.R_slice HO148.out; subst eo85; have hcz86_0 : w80.cell? ⟨gb140, 0, none⟩ = some (.slice A0_0 l0_0.length c0_0) := (blk_cell BK140.out 0).trans rfl; have hcz86_1 : w80.cell? ⟨gb140, 1, none⟩ = some (.slice A0_1 l0_1.length c0_1) := (blk_cell BK140.out 1).trans rfl; have hfz86_0 := blk_frozen BK140.out 0; have hfz86_1 := blk_frozen BK140.out 1) | ((with_reducible refine gate_callee (f := 71) rfl ?_); refine goesL_ (some 23) rfl rfl Try.func71 kZ rfl #[.int .i64 a1, .int .i64 0, .int .i64 (wrap64 ((l0_0.length : Int) - 1))] rfl tZA ?_; (with_reducible refine (spec_l1In.calls a1 0 (wrap64 ((l0_0.length : Int) - 1)) false _ A7.out).mono ?_); rintro e w' ⟨rfl, ⟨nd, rfl⟩⟩; refine ⟨_, rfl, ?_⟩; have hcz87_0 : w80.cell? ⟨gb141, 0, none⟩ = some (.slice none 0 0) := (blk_cell BK141.out 0).trans rfl; have hcz87_1 : w80.cell? ⟨gb141, 1, none⟩ = some (.slice none 0 0) := (blk_cell BK141.out 1).trans rfl; have hfz87_0 := blk_frozen BK141.out 0; have hfz87_1 := blk_frozen BK141.out 1))
  refine bodyPost_ret (results_ct rfl _ _ gb141 30 #[.slice Ao81 t143.length co81, .slice Ao85 t146.length co85] (0, 0) _ rfl (by (with_reducible repeat (first | refine blk_drewN ?_ _ | refine blk_drew ?_ | refine blk_alloc ?_ _)); refine blk_put (cs := #[.slice Ao81 t143.length co81, .slice none 0 0]) ?_ 1 _ rfl; (with_reducible repeat (first | refine blk_drewN ?_ _ | refine blk_drew ?_ | refine blk_alloc ?_ _)); refine blk_put (cs := #[.slice none 0 0, .slice none 0 0]) ?_ 0 _ rfl; (with_reducible repeat (first | refine blk_drewN ?_ _ | refine blk_drew ?_ | refine blk_alloc ?_ _)); refine blk_far ?_ NB141_149.out _; (with_reducible repeat (first | refine blk_drewN ?_ _ | refine blk_drew ?_ | refine blk_alloc ?_ _)); refine blk_far ?_ NB141_149.out _; (with_reducible repeat (first | refine blk_drewN ?_ _ | refine blk_drew ?_ | refine blk_alloc ?_ _)); exact BK141.out) Try.underlying30 rfl kZ) rfl ?_
  exact ⟨_, _, tZC, by (with_reducible repeat (first | apply Kd.R_alloc | apply Kd.R_drewN | apply Kd.R_drew)); exact Kd.R_mono (Kd.R_far (p := ⟨gb141, 1, none⟩) (Kd.R_far (p := ⟨gb141, 0, none⟩) (Kd.R_far (p := ⟨gb149, 1, none⟩) (Kd.R_far (p := ⟨gb149, 0, none⟩) (Kd.R_types (Kd.R_types HO145.out BK149.out (by decide)) BK141.out (by decide)) (fun _ hk => hk.1.2) (.slice Ao81 t143.length co81)) (fun _ hk => hk.1.2) (.slice Ao85 t146.length co85)) (fun _ hk => hk.2) (.slice Ao81 t143.length co81)) (fun _ hk => hk.2) (.slice Ao85 t146.length co85)) (fun _ hk => trivial), by (with_reducible repeat (first | apply Kd.R_alloc | apply Kd.R_drewN | apply Kd.R_drew)); exact Kd.R_mono (Kd.R_far (p := ⟨gb141, 1, none⟩) (Kd.R_far (p := ⟨gb141, 0, none⟩) (Kd.R_far (p := ⟨gb149, 1, none⟩) (Kd.R_far (p := ⟨gb149, 0, none⟩) (Kd.R_types (Kd.R_types HO148.out BK149.out (by decide)) BK141.out (by decide)) (fun _ hk => hk.1.2) (.slice Ao81 t143.length co81)) (fun _ hk => hk.1.2) (.slice Ao85 t146.length co85)) (fun _ hk => hk.2) (.slice Ao81 t143.length co81)) (fun _ hk => hk.2) (.slice Ao85 t146.length co85)) (fun _ hk => trivial), bZ⟩
 subst c8
 have H1 : (spec_Issue.l0 k a1 a2 1 0 0 l0_0 l0_1 t143 t146) = some (r1, r2, r3) := by rw [if_pos rfl] at H; exact H
 clear H
 have H := H1
 clear H1
 have H' := Aside0.mk H
 clear H
 go_enter Try.func14, Try.ntmps14
 go_wp2_with (first | ((with_reducible refine gate_dst (N := 3) rfl ?_); (try (refine gate_guard (by rfl) ?_; dsimp only)); refine box_event ?hg (N := 3) ?hd (cs := #[.slice A0_0 l0_0.length c0_0, .slice A0_1 l0_1.length c0_1]) (t := 30) ?hr ?_; (case hd => rfl); (case hg => rfl); (case hr => first | (go_simp; done) | (go_simp; rfl)); intro gb140 hg w9 hbox hb; have BK140 := aZ (hbox); have GW140 := aZ ((by rw [hg]; exact (below_size (lZB HB.out)) : w.heap.size ≤ gb140)); have GE140 := aZ ((by rw [hg]; exact (below_size (lZB HB.out)) : w.heap.size ≤ gb140)); replace HB := aZ (below_step (lZB HB.out) hb); clear hb hbox hg) | ((with_reducible refine gate_dst (N := 6) rfl ?_); (try (refine gate_guard (by rfl) ?_; dsimp only)); refine box_event ?hg (N := 6) ?hd (cs := #[.slice none 0 0, .slice none 0 0]) (t := 30) ?hr ?_; (case hd => rfl); (case hg => rfl); (case hr => first | (go_simp; done) | (go_simp; rfl)); intro gb141 hg w10 hbox hb; have BK141 := aZ (hbox); have GW141 := aZ ((by rw [hg]; exact (below_size bZ) : w.heap.size ≤ gb141)); have GE141 := aZ ((by rw [hg]; exact (below_size bZ) : w.heap.size ≤ gb141)); replace HB := aZ (below_step bZ hb); have NB140_141 := aZ ((by rw [hg]; exact Nat.ne_of_lt (blk_lt (bkZ BK140.out)) : gb140 ≠ gb141)); have NB141_140 := aZ ((by rw [hg]; exact Nat.ne_of_gt (blk_lt (bkZ BK140.out)) : gb141 ≠ gb140)); replace BK140 := aZ (blk_below (bkZ BK140.out) hb); clear hb hbox hg; have hnb11 := NB140_141.out; have hnc11 := NB141_140.out; have hcz12_0 : w10.cell? ⟨gb140, 0, none⟩ = some (.slice A0_0 l0_0.length c0_0) := (blk_cell BK140.out 0).trans rfl; have hcz12_1 : w10.cell? ⟨gb140, 1, none⟩ = some (.slice A0_1 l0_1.length c0_1) := (blk_cell BK140.out 1).trans rfl; have hfz12_0 := blk_frozen BK140.out 0; have hfz12_1 := blk_frozen BK140.out 1) | ((with_reducible refine gate_callee (f := 69) rfl ?_); refine goesL_ (some 13) rfl rfl Try.func69 kZ rfl #[.agg #[.slice A0_0 l0_0.length c0_0, .slice A0_1 l0_1.length c0_1]] rfl tZA ?_; (with_reducible refine (spec_RegisterOk.calls k _ _ l0_0 _ _ l0_1 true _ ?side1 ?side2 ?side3 ?side4 A4.out).mono ?_); (case side1 => repeat (first | exact (Kd.C_below HR0_0.out HB.out) | (with_reducible refine Kd.C_alloc ?_ _) | (with_reducible refine Kd.C_drewN ?_ _) | (with_reducible refine Kd.C_drew ?_))); (case side2 => exact HC0_0.out); (case side3 => repeat (first | exact (Kd.C_below HR0_1.out HB.out) | (with_reducible refine Kd.C_alloc ?_ _) | (with_reducible refine Kd.C_drewN ?_ _) | (with_reducible refine Kd.C_drew ?_))); (case side4 => exact HC0_1.out); rintro e w13 ⟨rfl, hb⟩; refine ⟨_, rfl, ?_⟩; replace BK140 := aZ (blk_below (bkZ BK140.out) hb); replace BK141 := aZ (blk_below (bkZ BK141.out) hb); replace HB := aZ (below_step bZ hb); (try clear hb); (try clear hb2); (try clear hk); (try clear hi); have hcz14_0 : w13.cell? ⟨gb140, 0, none⟩ = some (.slice A0_0 l0_0.length c0_0) := (blk_cell BK140.out 0).trans rfl; have hcz14_1 : w13.cell? ⟨gb140, 1, none⟩ = some (.slice A0_1 l0_1.length c0_1) := (blk_cell BK140.out 1).trans rfl; have hfz14_0 := blk_frozen BK140.out 0; have hfz14_1 := blk_frozen BK140.out 1) | ((with_reducible refine gate_callee (f := 70) rfl ?_); refine goesL_ (some 17) rfl rfl Try.func70 kZ rfl #[.agg #[.slice A0_0 l0_0.length c0_0, .slice A0_1 l0_1.length c0_1]] rfl tZA ?_; (with_reducible refine (spec_l11Register.calls _ _ l0_0 _ _ l0_1 t143 t146 _ ?side1 ?side2 ?side3 ?side4 A6.out).mono ?_); (case side1 => repeat (first | exact (Kd.C_below HR0_0.out HB.out) | (with_reducible refine Kd.C_alloc ?_ _) | (with_reducible refine Kd.C_drewN ?_ _) | (with_reducible refine Kd.C_drew ?_))); (case side2 => exact HC0_0.out); (case side3 => repeat (first | exact (Kd.C_below HR0_1.out HB.out) | (with_reducible refine Kd.C_alloc ?_ _) | (with_reducible refine Kd.C_drewN ?_ _) | (with_reducible refine Kd.C_drew ?_))); (case side4 => exact HC0_1.out); rintro e w15 ⟨v144, v147, rfl, ho0, ho1, hb⟩; refine ⟨_, rfl, ?_⟩; have HO145 := aZ (Kd.R_lower ho0 (below_size bZ)); have HO148 := aZ (Kd.R_lower ho1 (below_size bZ)); replace BK140 := aZ (blk_below (bkZ BK140.out) hb); replace BK141 := aZ (blk_below (bkZ BK141.out) hb); replace HB := aZ (below_step bZ hb); (try clear hb); (try clear hb2); (try clear hk); (try clear hi); (try clear ho0); (try clear ho1)) | ((with_reducible refine gate_dst (N := 8) rfl ?_); (try (refine gate_guard (by rfl) ?_; dsimp only)); refine box_event ?hg (N := 8) ?hd (cs := #[.slice none 0 0, .slice none 0 0]) (t := 30) ?hr ?_; (case hd => rfl); (case hg => rfl); (case hr => first | (go_simp; done) | (go_simp; rfl)); intro gb149 hg w16 hbox hb; replace HO145 := aZ (Kd.R_below (lZR HO145.out) hb); replace HO148 := aZ (Kd.R_below (lZR HO148.out) hb); have BK149 := aZ (hbox); have GW149 := aZ ((by rw [hg]; exact (below_size bZ) : w.heap.size ≤ gb149)); have GE149 := aZ ((by rw [hg]; exact (below_size bZ) : w.heap.size ≤ gb149)); replace HB := aZ (below_step bZ hb); have NB140_149 := aZ ((by rw [hg]; exact Nat.ne_of_lt (blk_lt (bkZ BK140.out)) : gb140 ≠ gb149)); have NB149_140 := aZ ((by rw [hg]; exact Nat.ne_of_gt (blk_lt (bkZ BK140.out)) : gb149 ≠ gb140)); replace BK140 := aZ (blk_below (bkZ BK140.out) hb); have NB141_149 := aZ ((by rw [hg]; exact Nat.ne_of_lt (blk_lt (bkZ BK141.out)) : gb141 ≠ gb149)); have NB149_141 := aZ ((by rw [hg]; exact Nat.ne_of_gt (blk_lt (bkZ BK141.out)) : gb149 ≠ gb141)); replace BK141 := aZ (blk_below (bkZ BK141.out) hb); clear hb hbox hg; obtain ⟨Ao17, co17, eo17⟩ := Kd.R_slice HO145.out; subst eo17; have hnb18 := NB149_140.out; have hnc18 := NB140_149.out; have hnb19 := NB149_141.out; have hnc19 := NB141_149.out; have hcz20_0 : w16.cell? ⟨gb149, 0, none⟩ = some (.slice none 0 0) := (blk_cell BK149.out 0).trans rfl; have hcz20_1 : w16.cell? ⟨gb149, 1, none⟩ = some (.slice none 0 0) := (blk_cell BK149.out 1).trans rfl; have hfz20_0 := blk_frozen BK149.out 0; have hfz20_1 := blk_frozen BK149.out 1; obtain ⟨Ao21, co21, eo21⟩ := Kd.R_slice HO148.out; subst eo21; have hcz22_0 : w16.cell? ⟨gb140, 0, none⟩ = some (.slice A0_0 l0_0.length c0_0) := (blk_cell BK140.out 0).trans rfl; have hcz22_1 : w16.cell? ⟨gb140, 1, none⟩ = some (.slice A0_1 l0_1.length c0_1) := (blk_cell BK140.out 1).trans rfl; have hfz22_0 := blk_frozen BK140.out 0; have hfz22_1 := blk_frozen BK140.out 1) | ((with_reducible refine gate_callee (f := 71) rfl ?_); refine goesL_ (some 23) rfl rfl Try.func71 kZ rfl #[.int .i64 a1, .int .i64 0, .int .i64 (wrap64 ((l0_0.length : Int) - 1))] rfl tZA ?_; (with_reducible refine (spec_l1In.calls a1 0 (wrap64 ((l0_0.length : Int) - 1)) true _ A7.out).mono ?_); rintro e w' ⟨rfl, ⟨nd, rfl⟩⟩; refine ⟨_, rfl, ?_⟩))
 go_loopg [9, 10, 11] k (fun kq v9 v10 v11 w' => ∃ (x9_1 : Int) (x10_1 : Int) (x11_1 : Int), v9 = .int .i64 x9_1 ∧ v10 = .int .i64 x10_1 ∧ v11 = .int .i64 x11_1 ∧ Aside0 (spec_Issue.l0 kq a1 a2 x9_1 x10_1 x11_1 l0_0 l0_1 t143 t146 = some (r1, r2, r3)) ∧ Aside0 (kq ≤ k) ∧ Aside0 (Kd.R k124 124 w' w.heap.size (fun _ => True) (.slice Ao17 t143.length co17) t143) ∧ Aside0 (Kd.R k120 120 w' w.heap.size (fun _ => True) (.slice Ao21 t146.length co21) t146) ∧ Aside0 (w'.heap[gb140]? = some (.cells #[(.slice A0_0 l0_0.length c0_0), (.slice A0_1 l0_1.length c0_1)] 30 (0, 0))) ∧ Aside0 (w'.heap[gb141]? = some (.cells #[(.slice none 0 0), (.slice none 0 0)] 30 (0, 0))) ∧ Aside0 (w'.heap[gb149]? = some (.cells #[(.slice Ao17 t143.length co17), (.slice Ao21 t146.length co21)] 30 (0, 0))) ∧ Aside0 (Below w.heap.size w w'))
 case atStart => exact ⟨(1), (0), (0), tZB, tZB, tZB, H', ⟨Nat.le_refl _⟩, ⟨by (with_reducible repeat (first | apply Kd.R_alloc | apply Kd.R_drewN | apply Kd.R_drew)); exact Kd.R_mono (Kd.R_far (p := ⟨gb149, 1, none⟩) (Kd.R_far (p := ⟨gb149, 0, none⟩) (Kd.R_types HO145.out BK149.out (by decide)) (fun _ hk => hk.2) (.slice Ao17 t143.length co17)) (fun _ hk => hk.2) (.slice Ao21 t146.length co21)) (fun _ hk => trivial)⟩, ⟨by (with_reducible repeat (first | apply Kd.R_alloc | apply Kd.R_drewN | apply Kd.R_drew)); exact Kd.R_mono (Kd.R_far (p := ⟨gb149, 1, none⟩) (Kd.R_far (p := ⟨gb149, 0, none⟩) (Kd.R_types HO148.out BK149.out (by decide)) (fun _ hk => hk.2) (.slice Ao17 t143.length co17)) (fun _ hk => hk.2) (.slice Ao21 t146.length co21)) (fun _ hk => trivial)⟩, ⟨by (with_reducible repeat (first | refine blk_drewN ?_ _ | refine blk_drew ?_ | refine blk_alloc ?_ _)); refine blk_far ?_ NB140_149.out _; (with_reducible repeat (first | refine blk_drewN ?_ _ | refine blk_drew ?_ | refine blk_alloc ?_ _)); refine blk_far ?_ NB140_149.out _; (with_reducible repeat (first | refine blk_drewN ?_ _ | refine blk_drew ?_ | refine blk_alloc ?_ _)); exact BK140.out⟩, ⟨by (with_reducible repeat (first | refine blk_drewN ?_ _ | refine blk_drew ?_ | refine blk_alloc ?_ _)); refine blk_far ?_ NB141_149.out _; (with_reducible repeat (first | refine blk_drewN ?_ _ | refine blk_drew ?_ | refine blk_alloc ?_ _)); refine blk_far ?_ NB141_149.out _; (with_reducible repeat (first | refine blk_drewN ?_ _ | refine blk_drew ?_ | refine blk_alloc ?_ _)); exact BK141.out⟩, ⟨by (with_reducible repeat (first | refine blk_drewN ?_ _ | refine blk_drew ?_ | refine blk_alloc ?_ _)); refine blk_put (cs := #[.slice Ao17 t143.length co17, .slice none 0 0]) ?_ 1 _ rfl; (with_reducible repeat (first | refine blk_drewN ?_ _ | refine blk_drew ?_ | refine blk_alloc ?_ _)); refine blk_put (cs := #[.slice none 0 0, .slice none 0 0]) ?_ 0 _ rfl; (with_reducible repeat (first | refine blk_drewN ?_ _ | refine blk_drew ?_ | refine blk_alloc ?_ _)); exact BK149.out⟩, ⟨bZ⟩⟩
 case round =>
  clear H'
  try clear c1
  try clear p2
  try clear c5
  try clear c6
  try clear p6
  try clear c7
  try clear c8
  try clear c11
  try clear c14
  try clear c18
  try clear c19
  try clear hcz12_0
  try clear hcz12_1
  try clear hcz14_0
  try clear hcz14_1
  try clear hcz20_0
  try clear hcz20_1
  try clear hcz22_0
  try clear hcz22_1
  try clear hfz12_0
  try clear hfz12_1
  try clear hfz14_0
  try clear hfz14_1
  try clear hfz20_0
  try clear hfz20_1
  try clear hfz22_0
  try clear hfz22_1
  obtain ⟨x9_1, x10_1, x11_1, rfl, rfl, rfl, HA, HK1, HO_150000, HO_150001, BK140, BK141, BK149, HB⟩ := hrel
  cases gk with
  | zero => exact absurd HA.out (by simp [spec_Issue.l0])
  | succ k1 =>
   have H := HA.out
   clear HA
   simp only [spec_Issue.l0] at H
   by_cases c23 : x11_1 < (l0_1.length : Int)
   ·rw [if_pos c23] at H
    have c23b0 := decide_eq_true c23
    clear c23
    by_cases c24 : 0 ≤ x11_1
    rotate_left
    ·rw [if_neg c24] at H
     exact absurd H (by simp)
    rw [if_pos c24] at H
    have c24b0 := decide_eq_true c24
    clear c24
    by_cases c25 : ((rd_T120 l0_1 x11_1).f0) = a1
    rotate_left
    ·rw [if_neg c25] at H
     have c25b0 : (((rd_T120 l0_1 x11_1).f0) == a1) = false := beq_eq_false_iff_ne.mpr c25
     have c25b1 : (((rd_T120 l0_1 x11_1).f0) != a1) = true := bne_iff_ne.mpr c25
     have H' := Aside0.mk H
     clear H
     have hnb29 := NB140_141.out
     have hnc29 := NB141_140.out
     have hnb30 := NB140_149.out
     have hnc30 := NB149_140.out
     have hcz31_0 : wr.cell? ⟨gb140, 0, none⟩ = some (.slice A0_0 l0_0.length c0_0) := (blk_cell BK140.out 0).trans rfl
     have hcz31_1 : wr.cell? ⟨gb140, 1, none⟩ = some (.slice A0_1 l0_1.length c0_1) := (blk_cell BK140.out 1).trans rfl
     have hfz31_0 := blk_frozen BK140.out 0
     have hfz31_1 := blk_frozen BK140.out 1
     have p151 : 0 ≤ (x11_1 : Int) := of_decide_eq_true tZE
     have q151 : x11_1 < (l0_1.length : Int) := of_decide_eq_true tZE
     obtain ⟨ad151, e151, hx151_0, hx151_1, hx151_2, hx151_3⟩ := at_T120 HR0_1.out x11_1 p151 q151
     cases e151
     replace hx151_0 := cZ HB hx151_0
     replace hx151_1 := cZ HB hx151_1
     replace hx151_2 := cZ HB hx151_2
     replace hx151_3 := cZ HB hx151_3
     replace p151 := eq_true p151
     replace q151 := eq_true q151
     go_wp2
     go_roundg k1
     case measure => have := HK1.out; omega
     case rel => exact ⟨(x9_1), (x10_1), (wrap64 (x11_1 + 1)), tZB, tZB, tZB, H', ⟨by have := HK1.out; omega⟩, ⟨lZR HO_150000.out⟩, ⟨lZR HO_150001.out⟩, ⟨bkZ BK140.out⟩, ⟨bkZ BK141.out⟩, ⟨bkZ BK149.out⟩, ⟨bZ⟩⟩
    rw [if_pos c25] at H
    have c25b0 : (((rd_T120 l0_1 x11_1).f0) == a1) = true := beq_iff_eq.mpr c25
    have c25b1 : (((rd_T120 l0_1 x11_1).f0) != a1) = false := bne_eq_false_iff_eq.mpr c25
    clear c25
    have H' := Aside0.mk H
    clear H
    have hnb26 := NB140_141.out
    have hnc26 := NB141_140.out
    have hnb27 := NB140_149.out
    have hnc27 := NB149_140.out
    have hcz28_0 : wr.cell? ⟨gb140, 0, none⟩ = some (.slice A0_0 l0_0.length c0_0) := (blk_cell BK140.out 0).trans rfl
    have hcz28_1 : wr.cell? ⟨gb140, 1, none⟩ = some (.slice A0_1 l0_1.length c0_1) := (blk_cell BK140.out 1).trans rfl
    have hfz28_0 := blk_frozen BK140.out 0
    have hfz28_1 := blk_frozen BK140.out 1
    have p151 : 0 ≤ (x11_1 : Int) := of_decide_eq_true tZE
    have q151 : x11_1 < (l0_1.length : Int) := of_decide_eq_true tZE
    obtain ⟨ad151, e151, hx151_0, hx151_1, hx151_2, hx151_3⟩ := at_T120 HR0_1.out x11_1 p151 q151
    cases e151
    replace hx151_0 := cZ HB hx151_0
    replace hx151_1 := cZ HB hx151_1
    replace hx151_2 := cZ HB hx151_2
    replace hx151_3 := cZ HB hx151_3
    replace p151 := eq_true p151
    replace q151 := eq_true q151
    have p152 : 0 ≤ (x11_1 : Int) := of_decide_eq_true tZE
    have q152 : x11_1 < (l0_1.length : Int) := of_decide_eq_true tZE
    obtain ⟨ad152, e152, hx152_0, hx152_1, hx152_2, hx152_3⟩ := at_T120 HR0_1.out x11_1 p152 q152
    obtain rfl : ad151 = ad152 := (by injection e152)
    replace hx152_0 := cZ HB hx152_0
    replace hx152_1 := cZ HB hx152_1
    replace hx152_2 := cZ HB hx152_2
    replace hx152_3 := cZ HB hx152_3
    replace p152 := eq_true p152
    replace q152 := eq_true q152
    go_wp2
    go_roundg k1
    case measure => have := HK1.out; omega
    case rel => exact ⟨(wrap64 (x9_1 + 1)), ((rd_T120 l0_1 x11_1).f2), (wrap64 (x11_1 + 1)), tZB, tZB, tZB, H', ⟨by have := HK1.out; omega⟩, ⟨lZR HO_150000.out⟩, ⟨lZR HO_150001.out⟩, ⟨bkZ BK140.out⟩, ⟨bkZ BK141.out⟩, ⟨bkZ BK149.out⟩, ⟨bZ⟩⟩
   rw [if_neg c23] at H
   have c23b0 := decide_eq_false c23
   clear c23
   have HC32 := Aside0.mk H
   clear H
   have hnb33 := NB140_141.out
   have hnc33 := NB141_140.out
   have hnb34 := NB140_149.out
   have hnc34 := NB149_140.out
   have hcz35_0 : wr.cell? ⟨gb140, 0, none⟩ = some (.slice A0_0 l0_0.length c0_0) := (blk_cell BK140.out 0).trans rfl
   have hcz35_1 : wr.cell? ⟨gb140, 1, none⟩ = some (.slice A0_1 l0_1.length c0_1) := (blk_cell BK140.out 1).trans rfl
   have hfz35_0 := blk_frozen BK140.out 0
   have hfz35_1 := blk_frozen BK140.out 1
   go_upto_region 14 with (fail)
   go_cut [56] (fun v56 wc => ∃ (kq : Nat) (x56_31 : Bool), v56 = .bool x56_31 ∧ Aside0 (spec_Issue.j1 kq a1 a2 x9_1 x56_31 l0_0 l0_1 t143 t146 = some (r1, r2, r3)) ∧ Aside0 (kq ≤ k1) ∧ Aside0 (Kd.R k124 124 wc w.heap.size (fun _ => True) (.slice Ao17 t143.length co17) t143) ∧ Aside0 (Kd.R k120 120 wc w.heap.size (fun _ => True) (.slice Ao21 t146.length co21) t146) ∧ Aside0 (wc.heap[gb140]? = some (.cells #[(.slice A0_0 l0_0.length c0_0), (.slice A0_1 l0_1.length c0_1)] 30 (0, 0))) ∧ Aside0 (wc.heap[gb141]? = some (.cells #[(.slice none 0 0), (.slice none 0 0)] 30 (0, 0))) ∧ Aside0 (wc.heap[gb149]? = some (.cells #[(.slice Ao17 t143.length co17), (.slice Ao21 t146.length co21)] 30 (0, 0))) ∧ Aside0 (Below w.heap.size w wc))
   case first =>
    have H := HC32.out
    clear HC32
    replace H := Option.bind_eq_some_iff.mp H
    obtain ⟨t153, A360, H⟩ := H
    replace H : (if t153 = true then (spec_Issue.j1 k1 a1 a2 x9_1 (decide (a2 < x10_1)) l0_0 l0_1 t143 t146) else (spec_Issue.j1 k1 a1 a2 x9_1 true l0_0 l0_1 t143 t146)) = some (r1, r2, r3) := H
    have A36 := Aside0.mk A360
    clear A360
    by_cases c37 : t153 = true
    ·subst c37
     have H1 : (spec_Issue.j1 k1 a1 a2 x9_1 (decide (a2 < x10_1)) l0_0 l0_1 t143 t146) = some (r1, r2, r3) := by rw [if_pos rfl] at H; exact H
     clear H
     have H := H1
     clear H1
     have H' := Aside0.mk H
     clear H
     go_wp2_with (first | ((with_reducible refine gate_callee (f := 72) rfl ?_); refine goesL_ (some 50) rfl rfl Try.func72 kZ rfl #[.int .i64 a2] rfl tZA ?_; (with_reducible refine (spec_l2Day.calls a2 true _ A36.out).mono ?_); rintro e w' ⟨rfl, ⟨nd, rfl⟩⟩; refine ⟨_, rfl, ?_⟩))
     go_meet
     case rel => exact ⟨_, (decide (a2 < x10_1)), tZB, H', ⟨by have := HK1.out; first | omega | exact Nat.le_refl _⟩, ⟨lZR HO_150000.out⟩, ⟨lZR HO_150001.out⟩, ⟨bkZ BK140.out⟩, ⟨bkZ BK141.out⟩, ⟨bkZ BK149.out⟩, ⟨bZ⟩⟩
    replace c37 := Bool.eq_false_iff.mpr c37
    subst c37
    have H1 : (spec_Issue.j1 k1 a1 a2 x9_1 true l0_0 l0_1 t143 t146) = some (r1, r2, r3) := by rw [if_neg (show ¬ (false = true) by decide)] at H; exact H
    clear H
    have H := H1
    clear H1
    have H' := Aside0.mk H
    clear H
    go_wp2_with (first | ((with_reducible refine gate_callee (f := 72) rfl ?_); refine goesL_ (some 50) rfl rfl Try.func72 kZ rfl #[.int .i64 a2] rfl tZA ?_; (with_reducible refine (spec_l2Day.calls a2 false _ A36.out).mono ?_); rintro e w' ⟨rfl, ⟨nd, rfl⟩⟩; refine ⟨_, rfl, ?_⟩))
    go_meet
    case rel => exact ⟨_, (true), tZB, H', ⟨by have := HK1.out; first | omega | exact Nat.le_refl _⟩, ⟨lZR HO_150000.out⟩, ⟨lZR HO_150001.out⟩, ⟨bkZ BK140.out⟩, ⟨bkZ BK141.out⟩, ⟨bkZ BK149.out⟩, ⟨bZ⟩⟩
   case rest =>
    clear HC32
    try clear c1
    try clear p1
    try clear q1
    try clear hx1
    try clear c2
    try clear p2
    try clear c3
    try clear c5
    try clear c6
    try clear p6
    try clear c7
    try clear c8
    try clear c11
    try clear c14
    try clear p15
    try clear q15
    try clear hx15
    try clear c18
    try clear c19
    try clear c23
    try clear c23b0
    try clear c24
    try clear c24b0
    try clear c25
    try clear c25b0
    try clear c25b1
    try clear c26
    try clear c27
    try clear c29
    try clear c30
    try clear c33
    try clear c34
    try clear c37
    try clear hcz12_0
    try clear hcz12_1
    try clear hcz14_0
    try clear hcz14_1
    try clear hcz20_0
    try clear hcz20_1
    try clear hcz22_0
    try clear hcz22_1
    try clear hcz28_0
    try clear hcz28_1
    try clear hcz31_0
    try clear hcz31_1
    try clear hcz35_0
    try clear hcz35_1
    try clear hfz12_0
    try clear hfz12_1
    try clear hfz14_0
    try clear hfz14_1
    try clear hfz20_0
    try clear hfz20_1
    try clear hfz22_0
    try clear hfz22_1
    try clear hfz28_0
    try clear hfz28_1
    try clear hfz31_0
    try clear hfz31_1
    try clear hfz35_0
    try clear hfz35_1
    try clear hx151_0
    try clear hx151_1
    try clear hx151_2
    try clear hx151_3
    try clear hx152_0
    try clear hx152_1
    try clear hx152_2
    try clear hx152_3
    try clear p151
    try clear p152
    try clear p2
    try clear p6
    try clear q151
    try clear q152
    obtain ⟨kq, x56_31, rfl, HA, HJ31, HO_150000, HO_150001, BK140, BK141, BK149, HB⟩ := hcut
    cases kq with
    | zero => exact absurd HA.out (by simp [spec_Issue.j1])
    | succ kj31 =>
     have H := HA.out
     clear HA
     simp only [spec_Issue.j1] at H
     by_cases c38 : x56_31 = true
     ·subst c38
      have H1 : (some (t143, t146, 3)) = some (r1, r2, r3) := by rw [if_pos rfl] at H; exact H
      clear H
      have H := H1
      clear H1
      simp only [Option.some.injEq, Prod.mk.injEq] at H
      obtain ⟨rfl, rfl, rfl⟩ := H
      have hnb39 := NB149_140.out
      have hnc39 := NB140_149.out
      have hnb40 := NB149_141.out
      have hnc40 := NB141_149.out
      have hcz41_0 : wc.cell? ⟨gb149, 0, none⟩ = some (.slice Ao17 t143.length co17) := (blk_cell BK149.out 0).trans rfl
      have hcz41_1 : wc.cell? ⟨gb149, 1, none⟩ = some (.slice Ao21 t146.length co21) := (blk_cell BK149.out 1).trans rfl
      have hfz41_0 := blk_frozen BK149.out 0
      have hfz41_1 := blk_frozen BK149.out 1
      have hnb42 := NB141_140.out
      have hnc42 := NB140_141.out
      have hcz43_0 : wc.cell? ⟨gb141, 0, none⟩ = some (.slice none 0 0) := (blk_cell BK141.out 0).trans rfl
      have hcz43_1 : wc.cell? ⟨gb141, 1, none⟩ = some (.slice none 0 0) := (blk_cell BK141.out 1).trans rfl
      have hfz43_0 := blk_frozen BK141.out 0
      have hfz43_1 := blk_frozen BK141.out 1
      go_wp2
      refine bodyPost_ret (results_ct rfl _ _ gb141 30 #[.slice Ao17 t143.length co17, .slice Ao21 t146.length co21] (0, 0) _ rfl (by (with_reducible repeat (first | refine blk_drewN ?_ _ | refine blk_drew ?_ | refine blk_alloc ?_ _)); refine blk_put (cs := #[.slice Ao17 t143.length co17, .slice none 0 0]) ?_ 1 _ rfl; (with_reducible repeat (first | refine blk_drewN ?_ _ | refine blk_drew ?_ | refine blk_alloc ?_ _)); refine blk_put (cs := #[.slice none 0 0, .slice none 0 0]) ?_ 0 _ rfl; (with_reducible repeat (first | refine blk_drewN ?_ _ | refine blk_drew ?_ | refine blk_alloc ?_ _)); exact BK141.out) Try.underlying30 rfl kZ) rfl ?_
      exact ⟨_, _, tZC, by (with_reducible repeat (first | apply Kd.R_alloc | apply Kd.R_drewN | apply Kd.R_drew)); exact Kd.R_mono (Kd.R_far (p := ⟨gb141, 1, none⟩) (Kd.R_far (p := ⟨gb141, 0, none⟩) (Kd.R_types HO_150000.out BK141.out (by decide)) (fun _ hk => hk.2) (.slice Ao17 t143.length co17)) (fun _ hk => hk.2) (.slice Ao21 t146.length co21)) (fun _ hk => trivial), by (with_reducible repeat (first | apply Kd.R_alloc | apply Kd.R_drewN | apply Kd.R_drew)); exact Kd.R_mono (Kd.R_far (p := ⟨gb141, 1, none⟩) (Kd.R_far (p := ⟨gb141, 0, none⟩) (Kd.R_types HO_150001.out BK141.out (by decide)) (fun _ hk => hk.2) (.slice Ao17 t143.length co17)) (fun _ hk => hk.2) (.slice Ao21 t146.length co21)) (fun _ hk => trivial), bZ⟩
     replace c38 := Bool.eq_false_iff.mpr c38
     subst c38
     have H1 : (if (l0_1.length : Int) = 400 then (some (t143, t146, 4)) else ((spec_l1Text.f kj31 x9_1).bind fun t154 => (if 0 ≤ a1 then (if a1 < (l0_0.length : Int) then (if (t154.size : Int) > ((rd_T124 l0_0 a1).f1) then (some (t143, t146, 4)) else (if t146.length < 4398046511104 then (some (t143, (t146 ++ [(⟨a1, x9_1, a2, false⟩ : S120)]), 0)) else (none))) else (none)) else (none)))) = some (r1, r2, r3) := by rw [if_neg (show ¬ (false = true) by decide)] at H; exact H
     clear H
     have H := H1
     clear H1
     by_cases c44 : (l0_1.length : Int) = 400
     ·rw [if_pos c44] at H
      have c44b0 : ((l0_1.length : Int) == 400) = true := beq_iff_eq.mpr c44
      have c44b1 : ((l0_1.length : Int) != 400) = false := bne_eq_false_iff_eq.mpr c44
      clear c44
      simp only [Option.some.injEq, Prod.mk.injEq] at H
      obtain ⟨rfl, rfl, rfl⟩ := H
      try go_wp2
      replace HO_150000 := aZ (Kd.R_drew HO_150000.out)
      replace HO_150001 := aZ (Kd.R_drew HO_150001.out)
      replace BK140 := aZ (blk_drew BK140.out)
      replace BK141 := aZ (blk_drew BK141.out)
      replace BK149 := aZ (blk_drew BK149.out)
      replace HB := aZ (below_drew1 HB.out)
      refine start_ (n := 16) (S := fun w' => w'.cell? ⟨gb140, 0, none⟩ = some (.slice A0_0 l0_0.length c0_0) ∧ w'.cell? ⟨gb140, 1, none⟩ = some (.slice A0_1 l0_1.length c0_1)) (ds := []) L0' kZ rfl rfl ⟨(blk_cell BK140.out 0).trans rfl, (blk_cell BK140.out 1).trans rfl⟩ (fun hHeld => ?_); refine with_tabW spec_Issue.tab16 spec_Issue.bits16 (fun HT_ HW_ => ?_)
      generalize wc.drew = w45 at HO_150000 HO_150001 BK140 BK141 BK149 HB hHeld ⊢
      refine pure_ (i := 0) (N := some 58) (v := ?_) (a' := ?_) L1' rfl rfl (any_of HT_.out kZ) (fun _ _ _ h => h) (Or.inl ⟨by rfl, ?_⟩) ?_ ?_
      rotate_left
      ·intro w'
       go_simp
       with_reducible rfl
      rotate_left
      ·simp only [Act.put, sZ1, sZ2, sZ3, i64_w, i32_w]
       rfl
      refine take_ (i := 1) (N := some 59) (v := ?_) (a' := ?_) L2' rfl rfl (take_ofW HT_.out HW_.out kZ) (fun _ _ _ h => h) (Or.inl ⟨by rfl, ?_⟩) hHeld ?_ ?_
      rotate_left
      ·rintro w' ⟨s0, s1⟩
       go_simp
       with_reducible rfl
      rotate_left
      ·simp only [Act.put, sZ1, sZ2, sZ3, i64_w, i32_w]
       rfl
      refine pure_ (i := 2) (N := some 60) (v := ?_) (a' := ?_) L3' rfl rfl (any_of HT_.out kZ) (fun _ _ _ h => h) (Or.inl ⟨by rfl, ?_⟩) ?_ ?_
      rotate_left
      ·intro w'
       go_simp
       with_reducible rfl
      rotate_left
      ·simp only [Act.put, sZ1, sZ2, sZ3, i64_w, i32_w]
       rfl
      refine pure_ (i := 3) (N := some 61) (v := ?_) (a' := ?_) L4' rfl rfl (any_of HT_.out kZ) (fun _ _ _ h => h) (Or.inl ⟨by rfl, ?_⟩) ?_ ?_
      rotate_left
      ·intro w'
       go_simp
       with_reducible rfl
      rotate_left
      ·simp only [Act.put, sZ1, sZ2, sZ3, i64_w, i32_w]
       rfl
      refine pure_ (i := 4) (N := some 62) (v := ?_) (a' := ?_) L5' rfl rfl (any_of HT_.out kZ) (fun _ _ _ h => h) (Or.inl ⟨by rfl, ?_⟩) ?_ ?_
      rotate_left
      ·intro w'
       go_simp
       with_reducible rfl
      rotate_left
      ·simp only [Act.put, sZ1, sZ2, sZ3, i64_w, i32_w]
       rfl
      refine pure_ (i := 5) (N := some 63) (v := undef) (a' := ?_) L6' rfl rfl (any_of HT_.out kZ) (fun _ _ _ h => h) (Or.inr ⟨by rfl, rfl⟩) ?_ ?_
      rotate_left
      ·simp only [Act.put, sZ1, sZ2, sZ3, i64_w, i32_w]
       rfl
      refine pure_ (i := 6) (N := some 64) (v := undef) (a' := ?_) L7' rfl rfl (any_of HT_.out kZ) (fun _ _ _ h => h) (Or.inr ⟨by rfl, rfl⟩) ?_ ?_
      rotate_left
      ·simp only [Act.put, sZ1, sZ2, sZ3, i64_w, i32_w]
       rfl
      refine pure_ (i := 7) (N := some 65) (v := undef) (a' := ?_) L8' rfl rfl (any_of HT_.out kZ) (fun _ _ _ h => h) (Or.inr ⟨by rfl, rfl⟩) ?_ ?_
      rotate_left
      ·simp only [Act.put, sZ1, sZ2, sZ3, i64_w, i32_w]
       rfl
      refine pure_ (i := 8) (N := some 66) (v := undef) (a' := ?_) L9' rfl rfl (any_of HT_.out kZ) (fun _ _ _ h => h) (Or.inr ⟨by rfl, rfl⟩) ?_ ?_
      rotate_left
      ·simp only [Act.put, sZ1, sZ2, sZ3, i64_w, i32_w]
       rfl
      refine pure_ (i := 9) (N := some 67) (v := undef) (a' := ?_) L10' rfl rfl (any_of HT_.out kZ) (fun _ _ _ h => h) (Or.inr ⟨by rfl, rfl⟩) ?_ ?_
      rotate_left
      ·simp only [Act.put, sZ1, sZ2, sZ3, i64_w, i32_w]
       rfl
      refine pure_ (i := 10) (N := some 68) (v := undef) (a' := ?_) L11' rfl rfl (any_of HT_.out kZ) (fun _ _ _ h => h) (Or.inr ⟨by rfl, rfl⟩) ?_ ?_
      rotate_left
      ·simp only [Act.put, sZ1, sZ2, sZ3, i64_w, i32_w]
       rfl
      refine pure_ (i := 11) (N := some 69) (v := undef) (a' := ?_) L12' rfl rfl (any_of HT_.out kZ) (fun _ _ _ h => h) (Or.inr ⟨by rfl, rfl⟩) ?_ ?_
      rotate_left
      ·simp only [Act.put, sZ1, sZ2, sZ3, i64_w, i32_w]
       rfl
      refine pure_ (i := 12) (N := some 70) (v := undef) (a' := ?_) L13' rfl rfl (any_of HT_.out kZ) (fun _ _ _ h => h) (Or.inr ⟨by rfl, rfl⟩) ?_ ?_
      rotate_left
      ·simp only [Act.put, sZ1, sZ2, sZ3, i64_w, i32_w]
       rfl
      refine pure_ (i := 13) (N := some 71) (v := undef) (a' := ?_) L14' rfl rfl (any_of HT_.out kZ) (fun _ _ _ h => h) (Or.inr ⟨by rfl, rfl⟩) ?_ ?_
      rotate_left
      ·simp only [Act.put, sZ1, sZ2, sZ3, i64_w, i32_w]
       rfl
      refine pure_ (i := 14) (N := some 72) (v := undef) (a' := ?_) L15' rfl rfl (any_of HT_.out kZ) (fun _ _ _ h => h) (Or.inr ⟨by rfl, rfl⟩) ?_ ?_
      rotate_left
      ·simp only [Act.put, sZ1, sZ2, sZ3, i64_w, i32_w]
       rfl
      refine pure_ (i := 15) (N := some 73) (v := ?_) (a' := ?_) L16' rfl rfl (any_of HT_.out kZ) (fun _ _ _ h => h) (Or.inl ⟨by rfl, ?_⟩) ?_ ?_
      rotate_left
      ·intro w'
       go_simp
       with_reducible rfl
      rotate_left
      ·simp only [Act.put, sZ1, sZ2, sZ3, i64_w, i32_w]
       rfl
      refine done_ (done_of HT_.out kZ) ?_
      have hnb46 := NB149_140.out
      have hnc46 := NB140_149.out
      have hnb47 := NB149_141.out
      have hnc47 := NB141_149.out
      have hcz48_0 : w45.cell? ⟨gb149, 0, none⟩ = some (.slice Ao17 t143.length co17) := (blk_cell BK149.out 0).trans rfl
      have hcz48_1 : w45.cell? ⟨gb149, 1, none⟩ = some (.slice Ao21 t146.length co21) := (blk_cell BK149.out 1).trans rfl
      have hfz48_0 := blk_frozen BK149.out 0
      have hfz48_1 := blk_frozen BK149.out 1
      have hnb49 := NB141_140.out
      have hnc49 := NB140_141.out
      have hcz50_0 : w45.cell? ⟨gb141, 0, none⟩ = some (.slice none 0 0) := (blk_cell BK141.out 0).trans rfl
      have hcz50_1 : w45.cell? ⟨gb141, 1, none⟩ = some (.slice none 0 0) := (blk_cell BK141.out 1).trans rfl
      have hfz50_0 := blk_frozen BK141.out 0
      have hfz50_1 := blk_frozen BK141.out 1
      try go_wp2
      refine bodyPost_ret (results_ct rfl _ _ gb141 30 #[.slice Ao17 t143.length co17, .slice Ao21 t146.length co21] (0, 0) _ rfl (by (with_reducible repeat (first | refine blk_drewN ?_ _ | refine blk_drew ?_ | refine blk_alloc ?_ _)); refine blk_put (cs := #[.slice Ao17 t143.length co17, .slice none 0 0]) ?_ 1 _ rfl; (with_reducible repeat (first | refine blk_drewN ?_ _ | refine blk_drew ?_ | refine blk_alloc ?_ _)); refine blk_put (cs := #[.slice none 0 0, .slice none 0 0]) ?_ 0 _ rfl; (with_reducible repeat (first | refine blk_drewN ?_ _ | refine blk_drew ?_ | refine blk_alloc ?_ _)); exact BK141.out) Try.underlying30 rfl kZ) rfl ?_
      exact ⟨_, _, tZC, by (with_reducible repeat (first | apply Kd.R_alloc | apply Kd.R_drewN | apply Kd.R_drew)); exact Kd.R_mono (Kd.R_far (p := ⟨gb141, 1, none⟩) (Kd.R_far (p := ⟨gb141, 0, none⟩) (Kd.R_types HO_150000.out BK141.out (by decide)) (fun _ hk => hk.2) (.slice Ao17 t143.length co17)) (fun _ hk => hk.2) (.slice Ao21 t146.length co21)) (fun _ hk => trivial), by (with_reducible repeat (first | apply Kd.R_alloc | apply Kd.R_drewN | apply Kd.R_drew)); exact Kd.R_mono (Kd.R_far (p := ⟨gb141, 1, none⟩) (Kd.R_far (p := ⟨gb141, 0, none⟩) (Kd.R_types HO_150001.out BK141.out (by decide)) (fun _ hk => hk.2) (.slice Ao17 t143.length co17)) (fun _ hk => hk.2) (.slice Ao21 t146.length co21)) (fun _ hk => trivial), bZ⟩
     rw [if_neg c44] at H
     have c44b0 : ((l0_1.length : Int) == 400) = false := beq_eq_false_iff_ne.mpr c44
     have c44b1 : ((l0_1.length : Int) != 400) = true := bne_iff_ne.mpr c44
     replace H := Option.bind_eq_some_iff.mp H
     obtain ⟨t154, A510, H⟩ := H
     replace H : (if 0 ≤ a1 then (if a1 < (l0_0.length : Int) then (if (t154.size : Int) > ((rd_T124 l0_0 a1).f1) then (some (t143, t146, 4)) else (if t146.length < 4398046511104 then (some (t143, (t146 ++ [(⟨a1, x9_1, a2, false⟩ : S120)]), 0)) else (none))) else (none)) else (none)) = some (r1, r2, r3) := H
     have A51 := Aside0.mk A510
     clear A510
     by_cases c52 : 0 ≤ a1
     rotate_left
     ·rw [if_neg c52] at H
      exact absurd H (by simp)
     rw [if_pos c52] at H
     have c52b0 := decide_eq_true c52
     clear c52
     by_cases c53 : a1 < (l0_0.length : Int)
     rotate_left
     ·rw [if_neg c53] at H
      exact absurd H (by simp)
     rw [if_pos c53] at H
     have c53b0 := decide_eq_true c53
     clear c53
     by_cases c54 : (t154.size : Int) > ((rd_T124 l0_0 a1).f1)
     ·rw [if_pos c54] at H
      have c54b0 : decide (((rd_T124 l0_0 a1).f1) < (t154.size : Int)) = true := decide_eq_true c54
      clear c54
      simp only [Option.some.injEq, Prod.mk.injEq] at H
      obtain ⟨rfl, rfl, rfl⟩ := H
      try go_wp2
      replace HO_150000 := aZ (Kd.R_drew HO_150000.out)
      replace HO_150001 := aZ (Kd.R_drew HO_150001.out)
      replace BK140 := aZ (blk_drew BK140.out)
      replace BK141 := aZ (blk_drew BK141.out)
      replace BK149 := aZ (blk_drew BK149.out)
      replace HB := aZ (below_drew1 HB.out)
      have p155 : 0 ≤ (a1 : Int) := of_decide_eq_true tZE
      have q155 : a1 < (l0_0.length : Int) := of_decide_eq_true tZE
      obtain ⟨ad155, e155, hx155_0, hx155_1⟩ := at_T124 HR0_0.out a1 p155 q155
      have hw155_1 := hx155_1
      have hw155_0 := hx155_0
      cases e155
      replace hx155_0 := cZ HB hx155_0
      replace hx155_1 := cZ HB hx155_1
      replace p155 := eq_true p155
      replace q155 := eq_true q155
      refine start_ (n := 16) (S := fun w' => w'.cell? ⟨gb140, 0, none⟩ = some (.slice (some ad155) l0_0.length c0_0) ∧ w'.cell? ⟨gb140, 1, none⟩ = some (.slice A0_1 l0_1.length c0_1) ∧ w'.cell? (ad155.add ((a1).toNat * 2)) = some (.string ((rd_T124 l0_0 a1).f0)) ∧ w'.cell? ⟨(ad155.add ((a1).toNat * 2)).block, (ad155.add ((a1).toNat * 2)).off + 1, none⟩ = some (.int .i64 ((rd_T124 l0_0 a1).f1))) (ds := []) L0' kZ rfl rfl ⟨(blk_cell BK140.out 0).trans rfl, (blk_cell BK140.out 1).trans rfl, ((HB.out.cell (World.block_lt_of_cell? w _ hw155_0)).trans hw155_0), ((HB.out.cell (World.block_lt_of_cell? w _ hw155_1)).trans hw155_1)⟩ (fun hHeld => ?_); refine with_tabW spec_Issue.tab16 spec_Issue.bits16 (fun HT_ HW_ => ?_)
      generalize wc.drew = w55 at HO_150000 HO_150001 BK140 BK141 BK149 HB hx155_0 hx155_1 hHeld ⊢
      refine pure_ (i := 0) (N := some 58) (v := ?_) (a' := ?_) L1' rfl rfl (any_of HT_.out kZ) (fun _ _ _ h => h) (Or.inl ⟨by rfl, ?_⟩) ?_ ?_
      rotate_left
      ·intro w'
       go_simp
       with_reducible rfl
      rotate_left
      ·simp only [Act.put, sZ1, sZ2, sZ3, i64_w, i32_w]
       rfl
      refine take_ (i := 1) (N := some 59) (v := ?_) (a' := ?_) L2' rfl rfl (take_ofW HT_.out HW_.out kZ) (fun _ _ _ h => h) (Or.inl ⟨by rfl, ?_⟩) hHeld ?_ ?_
      rotate_left
      ·rintro w' ⟨s0, s1, s2, s3⟩
       go_simp
       with_reducible rfl
      rotate_left
      ·simp only [Act.put, sZ1, sZ2, sZ3, i64_w, i32_w]
       rfl
      refine pure_ (i := 2) (N := some 60) (v := ?_) (a' := ?_) L3' rfl rfl (any_of HT_.out kZ) (fun _ _ _ h => h) (Or.inl ⟨by rfl, ?_⟩) ?_ ?_
      rotate_left
      ·intro w'
       go_simp
       with_reducible rfl
      rotate_left
      ·simp only [Act.put, sZ1, sZ2, sZ3, i64_w, i32_w]
       rfl
      refine pure_ (i := 3) (N := some 61) (v := ?_) (a' := ?_) L4' rfl rfl (any_of HT_.out kZ) (fun _ _ _ h => h) (Or.inl ⟨by rfl, ?_⟩) ?_ ?_
      rotate_left
      ·intro w'
       go_simp
       with_reducible rfl
      rotate_left
      ·simp only [Act.put, sZ1, sZ2, sZ3, i64_w, i32_w]
       rfl
      refine pure_ (i := 4) (N := some 62) (v := ?_) (a' := ?_) L5' rfl rfl (any_of HT_.out kZ) (fun _ _ _ h => h) (Or.inl ⟨by rfl, ?_⟩) ?_ ?_
      rotate_left
      ·intro w'
       go_simp
       with_reducible rfl
      rotate_left
      ·simp only [Act.put, sZ1, sZ2, sZ3, i64_w, i32_w]
       rfl
      refine pure_ (i := 5) (N := some 63) (v := ?_) (a' := ?_) L6' rfl rfl (any_of HT_.out kZ) (fun _ _ _ h => h) (Or.inl ⟨by rfl, ?_⟩) ?_ ?_
      rotate_left
      ·intro w'
       go_simp
       with_reducible rfl
      rotate_left
      ·simp only [Act.put, sZ1, sZ2, sZ3, i64_w, i32_w]
       rfl
      refine pure_ (i := 8) (N := some 66) (v := ?_) (a' := ?_) L17' rfl rfl (any_of HT_.out kZ) (fun _ _ _ h => h) (Or.inl ⟨by rfl, ?_⟩) ?_ ?_
      rotate_left
      ·intro w'
       go_simp
       with_reducible rfl
      rotate_left
      ·simp only [Act.put, sZ1, sZ2, sZ3, i64_w, i32_w]
       rfl
      refine pure_ (i := 10) (N := some 68) (v := ?_) (a' := ?_) L18' rfl rfl (any_of HT_.out kZ) (fun _ _ _ h => h) (Or.inl ⟨by rfl, ?_⟩) ?_ ?_
      rotate_left
      ·intro w'
       go_simp
       with_reducible rfl
      rotate_left
      ·simp only [Act.put, sZ1, sZ2, sZ3, i64_w, i32_w]
       rfl
      refine take_ (i := 9) (N := some 67) (v := ?_) (a' := ?_) L19' rfl rfl (take_ofW HT_.out HW_.out kZ) (fun _ _ _ h => h) (Or.inl ⟨by rfl, ?_⟩) hHeld ?_ ?_
      rotate_left
      ·rintro w' ⟨s0, s1, s2, s3⟩
       go_simp
       with_reducible rfl
      rotate_left
      ·simp only [Act.put, sZ1, sZ2, sZ3, i64_w, i32_w]
       rfl
      refine pure_ (i := 11) (N := some 69) (v := ?_) (a' := ?_) L20' rfl rfl (any_of HT_.out kZ) (fun _ _ _ h => h) (Or.inl ⟨by rfl, ?_⟩) ?_ ?_
      rotate_left
      ·intro w'
       go_simp
       with_reducible rfl
      rotate_left
      ·simp only [Act.put, sZ1, sZ2, sZ3, i64_w, i32_w]
       rfl
      refine pure_ (i := 12) (N := some 70) (v := ?_) (a' := ?_) L21' rfl rfl (any_of HT_.out kZ) (fun _ _ _ h => h) (Or.inl ⟨by rfl, ?_⟩) ?_ ?_
      rotate_left
      ·intro w'
       go_simp
       with_reducible rfl
      rotate_left
      ·simp only [Act.put, sZ1, sZ2, sZ3, i64_w, i32_w]
       rfl
      refine take_ (i := 13) (N := some 71) (v := ?_) (a' := ?_) L22' rfl rfl (take_ofW HT_.out HW_.out kZ) (fun _ _ _ h => h) (Or.inl ⟨by rfl, ?_⟩) hHeld ?_ ?_
      rotate_left
      ·rintro w' ⟨s0, s1, s2, s3⟩
       go_simp
       with_reducible rfl
      rotate_left
      ·simp only [Act.put, sZ1, sZ2, sZ3, i64_w, i32_w]
       rfl
      refine one_ (i := 6) (N := some 64) L23' rfl rfl (one_of HT_.out kZ) (by decide) (fun K hK => ?_)
      refine goes_ Try.func73 kZ rfl #[.int .i64 x9_1] (by rfl) rfl rfl tZA ?_
      with_reducible refine (spec_l1Text.calls kj31 x9_1 t154 _ A51.out).mono ?_
      rintro e w56 ⟨rfl, hb⟩
      refine ⟨_, rfl, ?_⟩
      replace HO_150000 := aZ (Kd.R_below (lZR HO_150000.out) hb)
      replace HO_150001 := aZ (Kd.R_below (lZR HO_150001.out) hb)
      replace BK140 := aZ (blk_below (bkZ BK140.out) hb)
      replace BK141 := aZ (blk_below (bkZ BK141.out) hb)
      replace BK149 := aZ (blk_below (bkZ BK149.out) hb)
      replace HB := aZ (below_step bZ hb)
      (try clear hb)
      (try clear hb2)
      (try clear hk)
      (try clear hi)
      refine hK.out _ _ ⟨(blk_cell BK140.out 0).trans rfl, (blk_cell BK140.out 1).trans rfl, ((HB.out.cell (World.block_lt_of_cell? w _ hw155_0)).trans hw155_0), ((HB.out.cell (World.block_lt_of_cell? w _ hw155_1)).trans hw155_1)⟩ (fun hHeld => ?_)
      clear hK K
      refine norm_ (a' := ?_) ?_ ?_
      rotate_left
      ·show Act.put _ (some 64) _ = _
       simp only [Act.put, sZ1, sZ2, sZ3, i64_w, i32_w]
       rfl
      refine pure_ (i := 7) (N := some 65) (v := ?_) (a' := ?_) L14' rfl rfl (any_of HT_.out kZ) (fun _ _ _ h => h) (Or.inl ⟨by rfl, ?_⟩) ?_ ?_
      rotate_left
      ·intro w'
       go_simp
       with_reducible rfl
      rotate_left
      ·simp only [Act.put, sZ1, sZ2, sZ3, i64_w, i32_w]
       rfl
      refine pure_ (i := 14) (N := some 72) (v := ?_) (a' := ?_) L15' rfl rfl (any_of HT_.out kZ) (fun _ _ _ h => h) (Or.inl ⟨by rfl, ?_⟩) ?_ ?_
      rotate_left
      ·intro w'
       go_simp
       with_reducible rfl
      rotate_left
      ·simp only [Act.put, sZ1, sZ2, sZ3, i64_w, i32_w]
       rfl
      refine pure_ (i := 15) (N := some 73) (v := ?_) (a' := ?_) L16' rfl rfl (any_of HT_.out kZ) (fun _ _ _ h => h) (Or.inl ⟨by rfl, ?_⟩) ?_ ?_
      rotate_left
      ·intro w'
       go_simp
       with_reducible rfl
      rotate_left
      ·simp only [Act.put, sZ1, sZ2, sZ3, i64_w, i32_w]
       rfl
      refine done_ (done_of HT_.out kZ) ?_
      have hnb57 := NB149_140.out
      have hnc57 := NB140_149.out
      have hnb58 := NB149_141.out
      have hnc58 := NB141_149.out
      have hcz59_0 : w56.cell? ⟨gb149, 0, none⟩ = some (.slice Ao17 t143.length co17) := (blk_cell BK149.out 0).trans rfl
      have hcz59_1 : w56.cell? ⟨gb149, 1, none⟩ = some (.slice Ao21 t146.length co21) := (blk_cell BK149.out 1).trans rfl
      have hfz59_0 := blk_frozen BK149.out 0
      have hfz59_1 := blk_frozen BK149.out 1
      have hnb60 := NB141_140.out
      have hnc60 := NB140_141.out
      have hcz61_0 : w56.cell? ⟨gb141, 0, none⟩ = some (.slice none 0 0) := (blk_cell BK141.out 0).trans rfl
      have hcz61_1 : w56.cell? ⟨gb141, 1, none⟩ = some (.slice none 0 0) := (blk_cell BK141.out 1).trans rfl
      have hfz61_0 := blk_frozen BK141.out 0
      have hfz61_1 := blk_frozen BK141.out 1
      try go_wp2
      refine bodyPost_ret (results_ct rfl _ _ gb141 30 #[.slice Ao17 t143.length co17, .slice Ao21 t146.length co21] (0, 0) _ rfl (by (with_reducible repeat (first | refine blk_drewN ?_ _ | refine blk_drew ?_ | refine blk_alloc ?_ _)); refine blk_put (cs := #[.slice Ao17 t143.length co17, .slice none 0 0]) ?_ 1 _ rfl; (with_reducible repeat (first | refine blk_drewN ?_ _ | refine blk_drew ?_ | refine blk_alloc ?_ _)); refine blk_put (cs := #[.slice none 0 0, .slice none 0 0]) ?_ 0 _ rfl; (with_reducible repeat (first | refine blk_drewN ?_ _ | refine blk_drew ?_ | refine blk_alloc ?_ _)); exact BK141.out) Try.underlying30 rfl kZ) rfl ?_
      exact ⟨_, _, tZC, by (with_reducible repeat (first | apply Kd.R_alloc | apply Kd.R_drewN | apply Kd.R_drew)); exact Kd.R_mono (Kd.R_far (p := ⟨gb141, 1, none⟩) (Kd.R_far (p := ⟨gb141, 0, none⟩) (Kd.R_types HO_150000.out BK141.out (by decide)) (fun _ hk => hk.2) (.slice Ao17 t143.length co17)) (fun _ hk => hk.2) (.slice Ao21 t146.length co21)) (fun _ hk => trivial), by (with_reducible repeat (first | apply Kd.R_alloc | apply Kd.R_drewN | apply Kd.R_drew)); exact Kd.R_mono (Kd.R_far (p := ⟨gb141, 1, none⟩) (Kd.R_far (p := ⟨gb141, 0, none⟩) (Kd.R_types HO_150001.out BK141.out (by decide)) (fun _ hk => hk.2) (.slice Ao17 t143.length co17)) (fun _ hk => hk.2) (.slice Ao21 t146.length co21)) (fun _ hk => trivial), bZ⟩
     rw [if_neg c54] at H
     have c54b0 : decide (((rd_T124 l0_0 a1).f1) < (t154.size : Int)) = false := decide_eq_false c54
     clear c54
     by_cases c62 : t146.length < 4398046511104
     rotate_left
     ·rw [if_neg c62] at H
      exact absurd H (by simp)
     rw [if_pos c62] at H
     have LMc62 := Aside0.mk c62
     clear c62
     obtain ⟨y156, hy156⟩ : ∃ y_ : List (S120), y_ = (t146 ++ [(⟨a1, x9_1, a2, false⟩ : S120)]) := ⟨_, rfl⟩
     replace H : (some (t143, y156, 0)) = some (r1, r2, r3) := by first | (rw [hy156]; with_reducible exact H) | (have H2_ := (Option.bind_some _ _).symm.trans H; rw [hy156]; with_reducible exact H2_) | (have H2_ := (Option.bind_some _ _).symm.trans H; with_reducible exact H2_) | with_reducible exact H | (rw [hy156]; exact H) | exact H
     have Ny156 := Aside0.mk hy156
     clear hy156
     simp only [Option.some.injEq, Prod.mk.injEq] at H
     obtain ⟨rfl, rfl, rfl⟩ := H
     try go_wp2
     replace HO_150000 := aZ (Kd.R_drew HO_150000.out)
     replace HO_150001 := aZ (Kd.R_drew HO_150001.out)
     replace BK140 := aZ (blk_drew BK140.out)
     replace BK141 := aZ (blk_drew BK141.out)
     replace BK149 := aZ (blk_drew BK149.out)
     replace HB := aZ (below_drew1 HB.out)
     have p155 : 0 ≤ (a1 : Int) := of_decide_eq_true tZE
     have q155 : a1 < (l0_0.length : Int) := of_decide_eq_true tZE
     obtain ⟨ad155, e155, hx155_0, hx155_1⟩ := at_T124 HR0_0.out a1 p155 q155
     have hw155_1 := hx155_1
     have hw155_0 := hx155_0
     cases e155
     replace hx155_0 := cZ HB hx155_0
     replace hx155_1 := cZ HB hx155_1
     replace p155 := eq_true p155
     replace q155 := eq_true q155
     refine start_ (n := 16) (S := fun w' => w'.cell? ⟨gb140, 0, none⟩ = some (.slice (some ad155) l0_0.length c0_0) ∧ w'.cell? ⟨gb140, 1, none⟩ = some (.slice A0_1 l0_1.length c0_1) ∧ w'.cell? (ad155.add ((a1).toNat * 2)) = some (.string ((rd_T124 l0_0 a1).f0)) ∧ w'.cell? ⟨(ad155.add ((a1).toNat * 2)).block, (ad155.add ((a1).toNat * 2)).off + 1, none⟩ = some (.int .i64 ((rd_T124 l0_0 a1).f1))) (ds := []) L0' kZ rfl rfl ⟨(blk_cell BK140.out 0).trans rfl, (blk_cell BK140.out 1).trans rfl, ((HB.out.cell (World.block_lt_of_cell? w _ hw155_0)).trans hw155_0), ((HB.out.cell (World.block_lt_of_cell? w _ hw155_1)).trans hw155_1)⟩ (fun hHeld => ?_); refine with_tabW spec_Issue.tab16 spec_Issue.bits16 (fun HT_ HW_ => ?_)
     generalize wc.drew = w63 at HO_150000 HO_150001 BK140 BK141 BK149 HB hx155_0 hx155_1 hHeld ⊢
     refine pure_ (i := 0) (N := some 58) (v := ?_) (a' := ?_) L1' rfl rfl (any_of HT_.out kZ) (fun _ _ _ h => h) (Or.inl ⟨by rfl, ?_⟩) ?_ ?_
     rotate_left
     ·intro w'
      go_simp
      with_reducible rfl
     rotate_left
     ·simp only [Act.put, sZ1, sZ2, sZ3, i64_w, i32_w]
      rfl
     refine take_ (i := 1) (N := some 59) (v := ?_) (a' := ?_) L2' rfl rfl (take_ofW HT_.out HW_.out kZ) (fun _ _ _ h => h) (Or.inl ⟨by rfl, ?_⟩) hHeld ?_ ?_
     rotate_left
     ·rintro w' ⟨s0, s1, s2, s3⟩
      go_simp
      with_reducible rfl
     rotate_left
     ·simp only [Act.put, sZ1, sZ2, sZ3, i64_w, i32_w]
      rfl
     refine pure_ (i := 2) (N := some 60) (v := ?_) (a' := ?_) L3' rfl rfl (any_of HT_.out kZ) (fun _ _ _ h => h) (Or.inl ⟨by rfl, ?_⟩) ?_ ?_
     rotate_left
     ·intro w'
      go_simp
      with_reducible rfl
     rotate_left
     ·simp only [Act.put, sZ1, sZ2, sZ3, i64_w, i32_w]
      rfl
     refine pure_ (i := 3) (N := some 61) (v := ?_) (a' := ?_) L4' rfl rfl (any_of HT_.out kZ) (fun _ _ _ h => h) (Or.inl ⟨by rfl, ?_⟩) ?_ ?_
     rotate_left
     ·intro w'
      go_simp
      with_reducible rfl
     rotate_left
     ·simp only [Act.put, sZ1, sZ2, sZ3, i64_w, i32_w]
      rfl
     refine pure_ (i := 4) (N := some 62) (v := ?_) (a' := ?_) L5' rfl rfl (any_of HT_.out kZ) (fun _ _ _ h => h) (Or.inl ⟨by rfl, ?_⟩) ?_ ?_
     rotate_left
     ·intro w'
      go_simp
      with_reducible rfl
     rotate_left
     ·simp only [Act.put, sZ1, sZ2, sZ3, i64_w, i32_w]
      rfl
     refine pure_ (i := 5) (N := some 63) (v := ?_) (a' := ?_) L6' rfl rfl (any_of HT_.out kZ) (fun _ _ _ h => h) (Or.inl ⟨by rfl, ?_⟩) ?_ ?_
     rotate_left
     ·intro w'
      go_simp
      with_reducible rfl
     rotate_left
     ·simp only [Act.put, sZ1, sZ2, sZ3, i64_w, i32_w]
      rfl
     refine pure_ (i := 8) (N := some 66) (v := ?_) (a' := ?_) L17' rfl rfl (any_of HT_.out kZ) (fun _ _ _ h => h) (Or.inl ⟨by rfl, ?_⟩) ?_ ?_
     rotate_left
     ·intro w'
      go_simp
      with_reducible rfl
     rotate_left
     ·simp only [Act.put, sZ1, sZ2, sZ3, i64_w, i32_w]
      rfl
     refine pure_ (i := 10) (N := some 68) (v := ?_) (a' := ?_) L18' rfl rfl (any_of HT_.out kZ) (fun _ _ _ h => h) (Or.inl ⟨by rfl, ?_⟩) ?_ ?_
     rotate_left
     ·intro w'
      go_simp
      with_reducible rfl
     rotate_left
     ·simp only [Act.put, sZ1, sZ2, sZ3, i64_w, i32_w]
      rfl
     refine take_ (i := 9) (N := some 67) (v := ?_) (a' := ?_) L19' rfl rfl (take_ofW HT_.out HW_.out kZ) (fun _ _ _ h => h) (Or.inl ⟨by rfl, ?_⟩) hHeld ?_ ?_
     rotate_left
     ·rintro w' ⟨s0, s1, s2, s3⟩
      go_simp
      with_reducible rfl
     rotate_left
     ·simp only [Act.put, sZ1, sZ2, sZ3, i64_w, i32_w]
      rfl
     refine pure_ (i := 11) (N := some 69) (v := ?_) (a' := ?_) L20' rfl rfl (any_of HT_.out kZ) (fun _ _ _ h => h) (Or.inl ⟨by rfl, ?_⟩) ?_ ?_
     rotate_left
     ·intro w'
      go_simp
      with_reducible rfl
     rotate_left
     ·simp only [Act.put, sZ1, sZ2, sZ3, i64_w, i32_w]
      rfl
     refine pure_ (i := 12) (N := some 70) (v := ?_) (a' := ?_) L21' rfl rfl (any_of HT_.out kZ) (fun _ _ _ h => h) (Or.inl ⟨by rfl, ?_⟩) ?_ ?_
     rotate_left
     ·intro w'
      go_simp
      with_reducible rfl
     rotate_left
     ·simp only [Act.put, sZ1, sZ2, sZ3, i64_w, i32_w]
      rfl
     refine take_ (i := 13) (N := some 71) (v := ?_) (a' := ?_) L22' rfl rfl (take_ofW HT_.out HW_.out kZ) (fun _ _ _ h => h) (Or.inl ⟨by rfl, ?_⟩) hHeld ?_ ?_
     rotate_left
     ·rintro w' ⟨s0, s1, s2, s3⟩
      go_simp
      with_reducible rfl
     rotate_left
     ·simp only [Act.put, sZ1, sZ2, sZ3, i64_w, i32_w]
      rfl
     refine one_ (i := 6) (N := some 64) L23' rfl rfl (one_of HT_.out kZ) (by decide) (fun K hK => ?_)
     refine goes_ Try.func73 kZ rfl #[.int .i64 x9_1] (by rfl) rfl rfl tZA ?_
     with_reducible refine (spec_l1Text.calls kj31 x9_1 t154 _ A51.out).mono ?_
     rintro e w64 ⟨rfl, hb⟩
     refine ⟨_, rfl, ?_⟩
     replace HO_150000 := aZ (Kd.R_below (lZR HO_150000.out) hb)
     replace HO_150001 := aZ (Kd.R_below (lZR HO_150001.out) hb)
     replace BK140 := aZ (blk_below (bkZ BK140.out) hb)
     replace BK141 := aZ (blk_below (bkZ BK141.out) hb)
     replace BK149 := aZ (blk_below (bkZ BK149.out) hb)
     replace HB := aZ (below_step bZ hb)
     (try clear hb)
     (try clear hb2)
     (try clear hk)
     (try clear hi)
     refine hK.out _ _ ⟨(blk_cell BK140.out 0).trans rfl, (blk_cell BK140.out 1).trans rfl, ((HB.out.cell (World.block_lt_of_cell? w _ hw155_0)).trans hw155_0), ((HB.out.cell (World.block_lt_of_cell? w _ hw155_1)).trans hw155_1)⟩ (fun hHeld => ?_)
     clear hK K
     refine norm_ (a' := ?_) ?_ ?_
     rotate_left
     ·show Act.put _ (some 64) _ = _
      simp only [Act.put, sZ1, sZ2, sZ3, i64_w, i32_w]
      rfl
     refine pure_ (i := 7) (N := some 65) (v := ?_) (a' := ?_) L14' rfl rfl (any_of HT_.out kZ) (fun _ _ _ h => h) (Or.inl ⟨by rfl, ?_⟩) ?_ ?_
     rotate_left
     ·intro w'
      go_simp
      with_reducible rfl
     rotate_left
     ·simp only [Act.put, sZ1, sZ2, sZ3, i64_w, i32_w]
      rfl
     refine pure_ (i := 14) (N := some 72) (v := ?_) (a' := ?_) L15' rfl rfl (any_of HT_.out kZ) (fun _ _ _ h => h) (Or.inl ⟨by rfl, ?_⟩) ?_ ?_
     rotate_left
     ·intro w'
      go_simp
      with_reducible rfl
     rotate_left
     ·simp only [Act.put, sZ1, sZ2, sZ3, i64_w, i32_w]
      rfl
     refine pure_ (i := 15) (N := some 73) (v := ?_) (a' := ?_) L16' rfl rfl (any_of HT_.out kZ) (fun _ _ _ h => h) (Or.inl ⟨by rfl, ?_⟩) ?_ ?_
     rotate_left
     ·intro w'
      go_simp
      with_reducible rfl
     rotate_left
     ·simp only [Act.put, sZ1, sZ2, sZ3, i64_w, i32_w]
      rfl
     refine done_ (done_of HT_.out kZ) ?_
     have hnb65 := NB149_140.out
     have hnc65 := NB140_149.out
     have hnb66 := NB149_141.out
     have hnc66 := NB141_149.out
     have hcz67_0 : w64.cell? ⟨gb149, 0, none⟩ = some (.slice Ao17 t143.length co17) := (blk_cell BK149.out 0).trans rfl
     have hcz67_1 : w64.cell? ⟨gb149, 1, none⟩ = some (.slice Ao21 t146.length co21) := (blk_cell BK149.out 1).trans rfl
     have hfz67_0 := blk_frozen BK149.out 0
     have hfz67_1 := blk_frozen BK149.out 1
     try go_wp2_with (first | ((with_reducible refine gate_builtin (b := .append) (xs := #[.tmp 76, .tmp 81]) rfl ?_); (try (refine gate_guard (by rfl) ?_; dsimp only)); at_builtin; refine Kd.R_append k120 (w0 := w) w.heap.size rfl (.tmp 76) (.tmp 81) 28 120 (.agg #[(.int .i64 0), (.int .i64 0), (.int .i64 0), (.bool false)]) 32 rfl Try.underlying28 info120 rfl (by decide) (by omega) (.slice Ao21 t146.length co21) t146 (⟨a1, x9_1, a2, false⟩ : S120) [.int .i64 a1, .int .i64 x9_1, .int .i64 a2, .bool false] (fun _ => True) (fun _ => False) rfl rfl ?aP (fun _ hk => hk.elim) ?aF ?aO ?aB ?aS ?aL ?_; (case aP => exact k120_mkM _ _ _ (⟨a1, x9_1, a2, false⟩ : S120)); (case aB => exact bZ); (case aF => exact (fun _ _ => trivial)); (case aO => exact (lZR HO_150001.out)); (case aS => exact (below_size bZ)); (case aL => have := LMc62.out; omega); intro v157 w68 ho hb hg hat; rw [← Ny156.out] at ho; replace HO_150000 := aZ (Kd.R_over' (lZR HO_150000.out) (Kd.R_typed (lZR HO_150001.out)) (by decide) hg); replace BK140 := aZ (blk_grown (bkZ BK140.out) hg (Kd.R_ne HO_150001.out BK140.out (by decide))); replace BK141 := aZ (blk_grown (bkZ BK141.out) hg (Kd.R_ne HO_150001.out BK141.out (by decide))); replace BK149 := aZ (blk_grown (bkZ BK149.out) hg (Kd.R_ne HO_150001.out BK149.out (by decide))); replace HB := aZ (hb); have HO158 := aZ (ho); clear HO_150001; clear ho hb hg hat; obtain ⟨Ao69, co69, eo69⟩ := Kd.R_slice HO158.out; subst eo69; have hcz70_0 : w68.cell? ⟨gb149, 0, none⟩ = some (.slice Ao17 t143.length co17) := (blk_cell BK149.out 0).trans rfl; have hcz70_1 : w68.cell? ⟨gb149, 1, none⟩ = some (.slice Ao21 t146.length co21) := (blk_cell BK149.out 1).trans rfl; have hfz70_0 := blk_frozen BK149.out 0; have hfz70_1 := blk_frozen BK149.out 1; have hnb71 := NB141_140.out; have hnc71 := NB140_141.out; have hcz72_0 : w68.cell? ⟨gb141, 0, none⟩ = some (.slice none 0 0) := (blk_cell BK141.out 0).trans rfl; have hcz72_1 : w68.cell? ⟨gb141, 1, none⟩ = some (.slice none 0 0) := (blk_cell BK141.out 1).trans rfl; have hfz72_0 := blk_frozen BK141.out 0; have hfz72_1 := blk_frozen BK141.out 1))
     refine bodyPost_ret (results_ct rfl _ _ gb141 30 #[.slice Ao17 t143.length co17, .slice Ao69 y156.length co69] (0, 0) _ rfl (by (with_reducible repeat (first | refine blk_drewN ?_ _ | refine blk_drew ?_ | refine blk_alloc ?_ _)); refine blk_put (cs := #[.slice Ao17 t143.length co17, .slice none 0 0]) ?_ 1 _ rfl; (with_reducible repeat (first | refine blk_drewN ?_ _ | refine blk_drew ?_ | refine blk_alloc ?_ _)); refine blk_put (cs := #[.slice none 0 0, .slice none 0 0]) ?_ 0 _ rfl; (with_reducible repeat (first | refine blk_drewN ?_ _ | refine blk_drew ?_ | refine blk_alloc ?_ _)); refine blk_far ?_ NB141_149.out _; (with_reducible repeat (first | refine blk_drewN ?_ _ | refine blk_drew ?_ | refine blk_alloc ?_ _)); exact BK141.out) Try.underlying30 rfl kZ) rfl ?_
     exact ⟨_, _, tZC, by (with_reducible repeat (first | apply Kd.R_alloc | apply Kd.R_drewN | apply Kd.R_drew)); exact Kd.R_mono (Kd.R_far (p := ⟨gb141, 1, none⟩) (Kd.R_far (p := ⟨gb141, 0, none⟩) (Kd.R_far (p := ⟨gb149, 1, none⟩) (Kd.R_types (Kd.R_types HO_150000.out BK149.out (by decide)) BK141.out (by decide)) (fun _ hk => hk.1.2) (.slice Ao69 y156.length co69)) (fun _ hk => hk.2) (.slice Ao17 t143.length co17)) (fun _ hk => hk.2) (.slice Ao69 y156.length co69)) (fun _ hk => trivial), by (with_reducible repeat (first | apply Kd.R_alloc | apply Kd.R_drewN | apply Kd.R_drew)); exact Kd.R_mono (Kd.R_far (p := ⟨gb141, 1, none⟩) (Kd.R_far (p := ⟨gb141, 0, none⟩) (Kd.R_far (p := ⟨gb149, 1, none⟩) (Kd.R_types (Kd.R_types HO158.out BK149.out (by decide)) BK141.out (by decide)) (fun _ hk => hk.1.2) (.slice Ao69 y156.length co69)) (fun _ hk => hk.2) (.slice Ao17 t143.length co17)) (fun _ hk => hk.2) (.slice Ao69 y156.length co69)) (fun _ hk => trivial), bZ⟩
end Go.Proofs.Ytifkchkjpbpolaa.PFnExactIssue
