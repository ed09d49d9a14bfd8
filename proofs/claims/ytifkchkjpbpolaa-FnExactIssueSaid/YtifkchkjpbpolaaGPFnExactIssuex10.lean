import Derived.Test.YtifkchkjpbpolaaGPFnExactIssuex0
import Derived.Test.YtifkchkjpbpolaaGPFnExactIssuex6
import Derived.Test.YtifkchkjpbpolaaGPFnExactIssuex8
import Derived.Test.YtifkchkjpbpolaaGPFnExactIssuex9
import Derived.Test.YtifkchkjpbpolaaGSlimWords
namespace Go.Proofs.Ytifkchkjpbpolaa.PFnExactIssue
open Go.Proofs.Ytifkchkjpbpolaa.SlimWords
open Go.RowKit Go.Proofs.YtifkchkjpbpolaaW.PrintWords Go.Proofs.YtifkchkjpbpolaaW.PrintLast Go.Proofs.YtifkchkjpbpolaaW.PrintMore Go.Proofs.Ytifkchkjpbpolaa.MapWords
attribute [local go_sem] max2_int min2_int max_two min_two max_three min_three max_four min_four
set_option linter.unusedVariables false
set_option linter.unusedSimpArgs false
private abbrev I' := true
private abbrev O' := false
private abbrev L0' : Array Bool := #[O',O',O',O',O',O',O',O',O',O',O',O',O',O',O']
private abbrev L1' : Array Bool := #[I',O',O',O',O',O',O',O',O',O',O',O',O',O',O']
private abbrev L2' : Array Bool := #[I',I',O',O',O',O',O',O',O',O',O',O',O',O',O']
private abbrev L3' : Array Bool := #[I',I',I',O',O',O',O',O',O',O',O',O',O',O',O']
private abbrev L4' : Array Bool := #[I',I',I',I',O',O',O',O',O',O',O',O',O',O',O']
private abbrev L5' : Array Bool := #[I',I',I',I',I',O',O',O',O',O',O',O',O',O',O']
private abbrev L6' : Array Bool := #[I',I',I',I',I',I',O',O',O',O',O',O',O',O',O']
private abbrev L7' : Array Bool := #[I',I',I',I',I',I',I',O',O',O',O',O',O',O',O']
private abbrev L8' : Array Bool := #[I',I',I',I',I',I',I',I',O',O',O',O',O',O',O']
private abbrev L9' : Array Bool := #[I',I',I',I',I',I',I',I',I',O',O',O',O',O',O']
private abbrev L10' : Array Bool := #[I',I',I',I',I',I',I',I',I',I',O',O',O',O',O']
private abbrev L11' : Array Bool := #[I',I',I',I',I',I',I',I',I',I',I',O',O',O',O']
private abbrev L12' : Array Bool := #[I',I',I',I',I',I',I',I',I',I',I',I',O',O',O']
private abbrev L13' : Array Bool := #[I',I',I',I',I',I',I',I',I',I',I',I',I',O',O']
private abbrev L14' : Array Bool := #[I',I',I',I',I',I',I',I',I',I',I',I',I',I',O']
private abbrev L15' : Array Bool := #[I',I',I',I',I',I',I',I',I',I',I',I',I',I',I']
private abbrev L16' : Array Bool := #[I',I',I',I',I',I',O',I',O',O',O',O',O',O',O']
private abbrev L17' : Array Bool := #[I',I',I',I',I',I',O',I',O',I',O',O',O',O',O']
private abbrev L18' : Array Bool := #[I',I',I',I',I',I',O',I',I',I',O',O',O',O',O']
private abbrev L19' : Array Bool := #[I',I',I',I',I',I',O',I',I',I',I',O',O',O',O']
private abbrev L20' : Array Bool := #[I',I',I',I',I',I',O',I',I',I',I',I',O',O',O']
private abbrev L21' : Array Bool := #[I',I',I',I',I',I',O',I',I',I',I',I',I',O',O']
mutual
def impl_Issue.j0 : Nat → Int → Int → Bool → List (S124) → List (S120) → List (S124) → List (S120) → Option ((List (S124)) × (List (S120)) × Int)
  | 0, _, _, _, _, _, _, _ => none
  | k + 1, x1, x2, x27, x241000, x241001, x250000, x250001 => if x27 = true then (some (x250000, x250001, 2)) else (impl_Issue.l0 k x1 x2 1 0 x241001 (x241001.length : Int) 0 x241000 x241001 x250000 x250001)
def impl_Issue.l0 : Nat → Int → Int → Int → Int → List (S120) → Int → Int → List (S124) → List (S120) → List (S124) → List (S120) → Option ((List (S124)) × (List (S120)) × Int)
  | 0, _, _, _, _, _, _, _, _, _, _, _ => none
  | k + 1, x1, x2, x9, x10, x30, x31, x32, x241000, x241001, x250000, x250001 => if x32 < x31 then (if 0 ≤ x32 then (if x32 < (x30.length : Int) then (if ((rd_T120 x30 x32).f0) = x1 then (impl_Issue.l0 k x1 x2 (wrap64 (x9 + 1)) ((rd_T120 x30 x32).f2) x30 x31 (wrap64 (x32 + 1)) x241000 x241001 x250000 x250001) else (impl_Issue.l0 k x1 x2 x9 x10 x30 x31 (wrap64 (x32 + 1)) x241000 x241001 x250000 x250001)) else (none)) else (none)) else ((impl_isDay.f x2).bind fun t252 => (if t252 = true then (impl_Issue.j2 k x1 x2 x9 (decide (x2 < x10)) x241000 x241001 x250000 x250001) else (impl_Issue.j2 k x1 x2 x9 true x241000 x241001 x250000 x250001)))
def impl_Issue.j2 : Nat → Int → Int → Int → Bool → List (S124) → List (S120) → List (S124) → List (S120) → Option ((List (S124)) × (List (S120)) × Int)
  | 0, _, _, _, _, _, _, _, _ => none
  | k + 1, x1, x2, x9, x52, x241000, x241001, x250000, x250001 => if x52 = true then (some (x250000, x250001, 3)) else (if (x241001.length : Int) = 400 then (some (x250000, x250001, 4)) else ((impl_digitsIn.f k x9).bind fun t253 => (if 0 ≤ x1 then (if x1 < (x241000.length : Int) then (if t253 > ((rd_T124 x241000 x1).f1) then (some (x250000, x250001, 4)) else (if x250001.length < 4398046511104 then (some (x250000, (x250001 ++ [(⟨x1, x9, x2, false⟩ : S120)]), 0)) else (none))) else (none)) else (none))))
end
def impl_Issue.f (k : Nat) (l0_0 : List (S124)) (l0_1 : List (S120)) (a1 : Int) (a2 : Int) : Option ((List (S124)) × (List (S120)) × Int) := (impl_RegisterOk.f k l0_0 l0_1).bind fun t242 => (if t242 = true then ((impl_copyRegister.f l0_0 l0_1).bind fun bt243 => (if a1 < 0 then (impl_Issue.j0 k a1 a2 true l0_0 l0_1 bt243.1 bt243.2) else (impl_Issue.j0 k a1 a2 (decide (a1 ≥ (l0_0.length : Int))) l0_0 l0_1 bt243.1 bt243.2))) else (some (([] : List (S124)), ([] : List (S120)), 1)))
theorem impl_Issue.mono_l : ∀ k, (∀ y0 y1 y2 y3 y4 y5 y6, LeO (impl_Issue.j0 k y0 y1 y2 y3 y4 y5 y6) (impl_Issue.j0 (k + 1) y0 y1 y2 y3 y4 y5 y6)) ∧ (∀ y0 y1 y2 y3 y4 y5 y6 y7 y8 y9 y10, LeO (impl_Issue.l0 k y0 y1 y2 y3 y4 y5 y6 y7 y8 y9 y10) (impl_Issue.l0 (k + 1) y0 y1 y2 y3 y4 y5 y6 y7 y8 y9 y10)) ∧ (∀ y0 y1 y2 y3 y4 y5 y6 y7, LeO (impl_Issue.j2 k y0 y1 y2 y3 y4 y5 y6 y7) (impl_Issue.j2 (k + 1) y0 y1 y2 y3 y4 y5 y6 y7))
  | 0 => ⟨fun _ _ _ _ _ _ _ r h => by simp [impl_Issue.j0] at h, fun _ _ _ _ _ _ _ _ _ _ _ r h => by simp [impl_Issue.l0] at h, fun _ _ _ _ _ _ _ _ r h => by simp [impl_Issue.j2] at h⟩
  | k + 1 => by
    obtain ⟨ih0, ih1, ih2⟩ := impl_Issue.mono_l k
    refine ⟨?_, ?_, ?_⟩
    · intro y0 y1 y2 y3 y4 y5 y6
      unfold impl_Issue.j0
      repeat' first
      | (with_reducible exact ih0 _ _ _ _ _ _ _)
      | (with_reducible exact ih1 _ _ _ _ _ _ _ _ _ _ _)
      | (with_reducible exact ih2 _ _ _ _ _ _ _ _)
      | (with_reducible exact impl_RegisterOk.mono _ _ _)
      | (with_reducible exact impl_digitsIn.mono _ _)
      | (with_reducible exact LeO.refl _)
      | (with_reducible exact LeO.none _)
      | (with_reducible refine LeO.ite ?_ ?_)
      | (with_reducible refine LeO.bind ?_ (fun _ => ?_))
      | exact ih0 _ _ _ _ _ _ _
      | exact ih1 _ _ _ _ _ _ _ _ _ _ _
      | exact ih2 _ _ _ _ _ _ _ _
      | exact impl_RegisterOk.mono _ _ _
      | exact impl_digitsIn.mono _ _
      | exact LeO.none _
      | refine LeO.ite ?_ ?_
      | refine LeO.bind ?_ (fun _ => ?_)
    · intro y0 y1 y2 y3 y4 y5 y6 y7 y8 y9 y10
      unfold impl_Issue.l0
      repeat' first
      | (with_reducible exact ih0 _ _ _ _ _ _ _)
      | (with_reducible exact ih1 _ _ _ _ _ _ _ _ _ _ _)
      | (with_reducible exact ih2 _ _ _ _ _ _ _ _)
      | (with_reducible exact impl_RegisterOk.mono _ _ _)
      | (with_reducible exact impl_digitsIn.mono _ _)
      | (with_reducible exact LeO.refl _)
      | (with_reducible exact LeO.none _)
      | (with_reducible refine LeO.ite ?_ ?_)
      | (with_reducible refine LeO.bind ?_ (fun _ => ?_))
      | exact ih0 _ _ _ _ _ _ _
      | exact ih1 _ _ _ _ _ _ _ _ _ _ _
      | exact ih2 _ _ _ _ _ _ _ _
      | exact impl_RegisterOk.mono _ _ _
      | exact impl_digitsIn.mono _ _
      | exact LeO.none _
      | refine LeO.ite ?_ ?_
      | refine LeO.bind ?_ (fun _ => ?_)
    · intro y0 y1 y2 y3 y4 y5 y6 y7
      unfold impl_Issue.j2
      repeat' first
      | (with_reducible exact ih0 _ _ _ _ _ _ _)
      | (with_reducible exact ih1 _ _ _ _ _ _ _ _ _ _ _)
      | (with_reducible exact ih2 _ _ _ _ _ _ _ _)
      | (with_reducible exact impl_RegisterOk.mono _ _ _)
      | (with_reducible exact impl_digitsIn.mono _ _)
      | (with_reducible exact LeO.refl _)
      | (with_reducible exact LeO.none _)
      | (with_reducible refine LeO.ite ?_ ?_)
      | (with_reducible refine LeO.bind ?_ (fun _ => ?_))
      | exact ih0 _ _ _ _ _ _ _
      | exact ih1 _ _ _ _ _ _ _ _ _ _ _
      | exact ih2 _ _ _ _ _ _ _ _
      | exact impl_RegisterOk.mono _ _ _
      | exact impl_digitsIn.mono _ _
      | exact LeO.none _
      | refine LeO.ite ?_ ?_
      | refine LeO.bind ?_ (fun _ => ?_)
theorem impl_Issue.mono : ∀ a0 a1 a2 a3 k, LeO (impl_Issue.f k a0 a1 a2 a3) (impl_Issue.f (k + 1) a0 a1 a2 a3) := by
 intro a0 a1 a2 a3 k
 obtain ⟨ih0, ih1, ih2⟩ := impl_Issue.mono_l k
 unfold impl_Issue.f
 repeat' first
     | (with_reducible exact ih0 _ _ _ _ _ _ _)
     | (with_reducible exact ih1 _ _ _ _ _ _ _ _ _ _ _)
     | (with_reducible exact ih2 _ _ _ _ _ _ _ _)
     | (with_reducible exact impl_RegisterOk.mono _ _ _)
     | (with_reducible exact impl_digitsIn.mono _ _)
     | (with_reducible exact LeO.refl _)
     | (with_reducible exact LeO.none _)
     | (with_reducible refine LeO.ite ?_ ?_)
     | (with_reducible refine LeO.bind ?_ (fun _ => ?_))
     | exact ih0 _ _ _ _ _ _ _
     | exact ih1 _ _ _ _ _ _ _ _ _ _ _
     | exact ih2 _ _ _ _ _ _ _ _
     | exact impl_RegisterOk.mono _ _ _
     | exact impl_digitsIn.mono _ _
     | exact LeO.none _
     | refine LeO.ite ?_ ?_
     | refine LeO.bind ?_ (fun _ => ?_)
def impl_Issue.T16 : Bool × List (List Nat × List Nat) := (true, [([], []), ([0], [0]), ([1], [1]), ([2], [2]), ([3], [3]), ([4], [4]), ([5, 4, 4], [4, 5]), ([4], [4]), ([7, 4], [4, 7]), ([4], [4]), ([8, 9, 4], [4, 8, 9]), ([10, 4], [4, 10]), ([11, 4], [4, 11]), ([6, 12, 4], [4, 6, 12]), ([4, 13], [4, 13])])
def impl_Issue.B16 : List Nat := [0, 1, 3, 7, 15, 31, 63, 31, 159, 31, 927, 1951, 3999, 8191, 16383]
theorem impl_Issue.tab16 : rtab .any (opsOf Try.f16 16) = impl_Issue.T16 := by kernel_rfl
theorem impl_Issue.bits16 : waitsOk impl_Issue.T16.2 impl_Issue.B16 = true := by kernel_rfl
set_option maxHeartbeats 8000000 in
set_option maxRecDepth 100000 in
theorem impl_Issue.calls (k : Nat) (A0_0 : Option Addr) (c0_0 : Nat) (l0_0 : List (S124)) (A0_1 : Option Addr) (c0_1 : Nat) (l0_1 : List (S120)) (a1 : Int) (a2 : Int) (r1 : List (S124)) (r2 : List (S120)) (r3 : Int) (w : World) (hr0_0 : Kd.C k124 w A0_0 l0_0.length l0_0) (hc0_0 : l0_0.length ≤ c0_0) (hr0_1 : Kd.C k120 w A0_1 l0_1.length l0_1) (hc0_1 : l0_1.length ≤ c0_1) (h : impl_Issue.f k l0_0 l0_1 a1 a2 = some (r1, r2, r3)) :
    Calls Try.prog 16 #[.agg #[.slice A0_0 l0_0.length c0_0, .slice A0_1 l0_1.length c0_1], .int .i64 a1, .int .i64 a2] w fun e w' => ∃ v0_ v1_ : Value, e = .returned (.tuple #[.agg #[v0_, v1_], .int .i64 r3]) ∧ Kd.R k124 124 w' w.heap.size (fun _ => True) v0_ r1 ∧ Kd.R k120 120 w' w.heap.size (fun _ => True) v1_ r2 ∧ Below w.heap.size w w' := by
 have hu30 := Try.underlying30
 have hu120 := Try.underlying120
 have HR0_0 := Aside0.mk hr0_0
 have HC0_0 := Aside0.mk hc0_0
 clear hr0_0 hc0_0
 have HR0_1 := Aside0.mk hr0_1
 have HC0_1 := Aside0.mk hc0_1
 clear hr0_1 hc0_1
 have HB := aZ (Below.refl w.heap.size w)
 have H : ((impl_RegisterOk.f k l0_0 l0_1).bind fun t242 => (if t242 = true then ((impl_copyRegister.f l0_0 l0_1).bind fun bt243 => (if a1 < 0 then (impl_Issue.j0 k a1 a2 true l0_0 l0_1 bt243.1 bt243.2) else (impl_Issue.j0 k a1 a2 (decide (a1 ≥ (l0_0.length : Int))) l0_0 l0_1 bt243.1 bt243.2))) else (some (([] : List (S124)), ([] : List (S120)), 1)))) = some (r1, r2, r3) := h
 clear h
 replace H := Option.bind_eq_some_iff.mp H
 obtain ⟨t242, A40, H⟩ := H
 replace H : (if t242 = true then ((impl_copyRegister.f l0_0 l0_1).bind fun bt243 => (if a1 < 0 then (impl_Issue.j0 k a1 a2 true l0_0 l0_1 bt243.1 bt243.2) else (impl_Issue.j0 k a1 a2 (decide (a1 ≥ (l0_0.length : Int))) l0_0 l0_1 bt243.1 bt243.2))) else (some (([] : List (S124)), ([] : List (S120)), 1))) = some (r1, r2, r3) := H
 have A4 := Aside0.mk A40
 clear A40
 by_cases c5 : t242 = true
 rotate_left
 ·replace c5 := Bool.eq_false_iff.mpr c5
  subst c5
  have H1 : (some (([] : List (S124)), ([] : List (S120)), 1)) = some (r1, r2, r3) := by rw [if_neg (show ¬ (false = true) by decide)] at H; exact H
  clear H
  have H := H1
  clear H1
  simp only [Option.some.injEq, Prod.mk.injEq] at H
  obtain ⟨rfl, rfl, rfl⟩ := H
  go_enter Try.func16, Try.ntmps16
  go_wp2_with (first | ((with_reducible refine gate_dst (N := 3) rfl ?_); (try (refine gate_guard (by rfl) ?_; dsimp only)); refine box_event ?hg (N := 3) ?hd (cs := #[.slice A0_0 l0_0.length c0_0, .slice A0_1 l0_1.length c0_1]) (t := 30) ?hr ?_; (case hd => rfl); (case hg => rfl); (case hr => first | (go_simp; done) | (go_simp; rfl)); intro gb240 hg w86 hbox hb; have BK240 := aZ (hbox); have GW240 := aZ ((by rw [hg]; exact (below_size (lZB HB.out)) : w.heap.size ≤ gb240)); have GE240 := aZ ((by rw [hg]; exact (below_size (lZB HB.out)) : w.heap.size ≤ gb240)); replace HB := aZ (below_step (lZB HB.out) hb); clear hb hbox hg) | ((with_reducible refine gate_dst (N := 6) rfl ?_); (try (refine gate_guard (by rfl) ?_; dsimp only)); refine box_event ?hg (N := 6) ?hd (cs := #[.slice none 0 0, .slice none 0 0]) (t := 30) ?hr ?_; (case hd => rfl); (case hg => rfl); (case hr => first | (go_simp; done) | (go_simp; rfl)); intro gb241 hg w87 hbox hb; have BK241 := aZ (hbox); have GW241 := aZ ((by rw [hg]; exact (below_size bZ) : w.heap.size ≤ gb241)); have GE241 := aZ ((by rw [hg]; exact (below_size bZ) : w.heap.size ≤ gb241)); replace HB := aZ (below_step bZ hb); have NB240_241 := aZ ((by rw [hg]; exact Nat.ne_of_lt (blk_lt (bkZ BK240.out)) : gb240 ≠ gb241)); have NB241_240 := aZ ((by rw [hg]; exact Nat.ne_of_gt (blk_lt (bkZ BK240.out)) : gb241 ≠ gb240)); replace BK240 := aZ (blk_below (bkZ BK240.out) hb); clear hb hbox hg; have hnb88 := NB240_241.out; have hnc88 := NB241_240.out; have hcz89_0 : w87.cell? ⟨gb240, 0, none⟩ = some (.slice A0_0 l0_0.length c0_0) := (blk_cell BK240.out 0).trans rfl; have hcz89_1 : w87.cell? ⟨gb240, 1, none⟩ = some (.slice A0_1 l0_1.length c0_1) := (blk_cell BK240.out 1).trans rfl; have hfz89_0 := blk_frozen BK240.out 0; have hfz89_1 := blk_frozen BK240.out 1) | ((with_reducible refine gate_callee (f := 76) rfl ?_); refine goesL_ (some 14) rfl rfl Try.func76 kZ rfl #[.agg #[.slice A0_0 l0_0.length c0_0, .slice A0_1 l0_1.length c0_1]] rfl tZA ?_; (with_reducible refine (impl_RegisterOk.calls k _ _ l0_0 _ _ l0_1 false _ ?side1 ?side2 ?side3 ?side4 A4.out).mono ?_); (case side1 => repeat (first | exact (Kd.C_below HR0_0.out HB.out) | (with_reducible refine Kd.C_alloc ?_ _) | (with_reducible refine Kd.C_drewN ?_ _) | (with_reducible refine Kd.C_drew ?_))); (case side2 => exact HC0_0.out); (case side3 => repeat (first | exact (Kd.C_below HR0_1.out HB.out) | (with_reducible refine Kd.C_alloc ?_ _) | (with_reducible refine Kd.C_drewN ?_ _) | (with_reducible refine Kd.C_drew ?_))); (case side4 => exact HC0_1.out); rintro e w90 ⟨rfl, hb⟩; refine ⟨_, rfl, ?_⟩; replace BK240 := aZ (blk_below (bkZ BK240.out) hb); replace BK241 := aZ (blk_below (bkZ BK241.out) hb); replace HB := aZ (below_step bZ hb); (try clear hb); (try clear hb2); (try clear hk); (try clear hi); have hcz91_0 : w90.cell? ⟨gb241, 0, none⟩ = some (.slice none 0 0) := (blk_cell BK241.out 0).trans rfl; have hcz91_1 : w90.cell? ⟨gb241, 1, none⟩ = some (.slice none 0 0) := (blk_cell BK241.out 1).trans rfl; have hfz91_0 := blk_frozen BK241.out 0; have hfz91_1 := blk_frozen BK241.out 1))
  refine bodyPost_ret (results_ct rfl _ _ gb241 30 #[.slice none 0 0, .slice none 0 0] (0, 0) _ rfl (by (with_reducible repeat (first | refine blk_drewN ?_ _ | refine blk_drew ?_ | refine blk_alloc ?_ _)); refine blk_put (cs := #[.slice none 0 0, .slice none 0 0]) ?_ 1 _ rfl; (with_reducible repeat (first | refine blk_drewN ?_ _ | refine blk_drew ?_ | refine blk_alloc ?_ _)); refine blk_put (cs := #[.slice none 0 0, .slice none 0 0]) ?_ 0 _ rfl; (with_reducible repeat (first | refine blk_drewN ?_ _ | refine blk_drew ?_ | refine blk_alloc ?_ _)); exact BK241.out) Try.underlying30 rfl kZ) rfl ?_
  exact ⟨_, _, tZC, by first | exact Kd.R_nil _ _ _ _ _ | exact Kd.N_nil _ _ _ _ _ | exact Kd.V_nil _ _ _ _ _ | exact Kd.Q_nil _ _ _ _ _ | exact Kd.S_nil _ _ _ _ _, by first | exact Kd.R_nil _ _ _ _ _ | exact Kd.N_nil _ _ _ _ _ | exact Kd.V_nil _ _ _ _ _ | exact Kd.Q_nil _ _ _ _ _ | exact Kd.S_nil _ _ _ _ _, bZ⟩
 subst c5
 have H1 : ((impl_copyRegister.f l0_0 l0_1).bind fun bt243 => (if a1 < 0 then (impl_Issue.j0 k a1 a2 true l0_0 l0_1 bt243.1 bt243.2) else (impl_Issue.j0 k a1 a2 (decide (a1 ≥ (l0_0.length : Int))) l0_0 l0_1 bt243.1 bt243.2))) = some (r1, r2, r3) := by rw [if_pos rfl] at H; exact H
 clear H
 have H := H1
 clear H1
 replace H := Option.bind_eq_some_iff.mp H
 obtain ⟨⟨t243, t246⟩, A60, H⟩ := H
 replace H : (if a1 < 0 then (impl_Issue.j0 k a1 a2 true l0_0 l0_1 t243 t246) else (impl_Issue.j0 k a1 a2 (decide (a1 ≥ (l0_0.length : Int))) l0_0 l0_1 t243 t246)) = some (r1, r2, r3) := H
 have A6 := Aside0.mk A60
 clear A60
 have HC7 := Aside0.mk H
 clear H
 go_enter Try.func16, Try.ntmps16
 go_upto_region 4 with (first | ((with_reducible refine gate_dst (N := 3) rfl ?_); (try (refine gate_guard (by rfl) ?_; dsimp only)); refine box_event ?hg (N := 3) ?hd (cs := #[.slice A0_0 l0_0.length c0_0, .slice A0_1 l0_1.length c0_1]) (t := 30) ?hr ?_; (case hd => rfl); (case hg => rfl); (case hr => first | (go_simp; done) | (go_simp; rfl)); intro gb240 hg w8 hbox hb; have BK240 := aZ (hbox); have GW240 := aZ ((by rw [hg]; exact (below_size (lZB HB.out)) : w.heap.size ≤ gb240)); have GE240 := aZ ((by rw [hg]; exact (below_size (lZB HB.out)) : w.heap.size ≤ gb240)); replace HB := aZ (below_step (lZB HB.out) hb); clear hb hbox hg) | ((with_reducible refine gate_dst (N := 6) rfl ?_); (try (refine gate_guard (by rfl) ?_; dsimp only)); refine box_event ?hg (N := 6) ?hd (cs := #[.slice none 0 0, .slice none 0 0]) (t := 30) ?hr ?_; (case hd => rfl); (case hg => rfl); (case hr => first | (go_simp; done) | (go_simp; rfl)); intro gb241 hg w9 hbox hb; have BK241 := aZ (hbox); have GW241 := aZ ((by rw [hg]; exact (below_size bZ) : w.heap.size ≤ gb241)); have GE241 := aZ ((by rw [hg]; exact (below_size bZ) : w.heap.size ≤ gb241)); replace HB := aZ (below_step bZ hb); have NB240_241 := aZ ((by rw [hg]; exact Nat.ne_of_lt (blk_lt (bkZ BK240.out)) : gb240 ≠ gb241)); have NB241_240 := aZ ((by rw [hg]; exact Nat.ne_of_gt (blk_lt (bkZ BK240.out)) : gb241 ≠ gb240)); replace BK240 := aZ (blk_below (bkZ BK240.out) hb); clear hb hbox hg; have hnb10 := NB240_241.out; have hnc10 := NB241_240.out; have hcz11_0 : w9.cell? ⟨gb240, 0, none⟩ = some (.slice A0_0 l0_0.length c0_0) := (blk_cell BK240.out 0).trans rfl; have hcz11_1 : w9.cell? ⟨gb240, 1, none⟩ = some (.slice A0_1 l0_1.length c0_1) := (blk_cell BK240.out 1).trans rfl; have hfz11_0 := blk_frozen BK240.out 0; have hfz11_1 := blk_frozen BK240.out 1) | ((with_reducible refine gate_callee (f := 76) rfl ?_); refine goesL_ (some 14) rfl rfl Try.func76 kZ rfl #[.agg #[.slice A0_0 l0_0.length c0_0, .slice A0_1 l0_1.length c0_1]] rfl tZA ?_; (with_reducible refine (impl_RegisterOk.calls k _ _ l0_0 _ _ l0_1 true _ ?side1 ?side2 ?side3 ?side4 A4.out).mono ?_); (case side1 => repeat (first | exact (Kd.C_below HR0_0.out HB.out) | (with_reducible refine Kd.C_alloc ?_ _) | (with_reducible refine Kd.C_drewN ?_ _) | (with_reducible refine Kd.C_drew ?_))); (case side2 => exact HC0_0.out); (case side3 => repeat (first | exact (Kd.C_below HR0_1.out HB.out) | (with_reducible refine Kd.C_alloc ?_ _) | (with_reducible refine Kd.C_drewN ?_ _) | (with_reducible refine Kd.C_drew ?_))); (case side4 => exact HC0_1.out); rintro e w12 ⟨rfl, hb⟩; refine ⟨_, rfl, ?_⟩; replace BK240 := aZ (blk_below (bkZ BK240.out) hb); replace BK241 := aZ (blk_below (bkZ BK241.out) hb); replace HB := aZ (below_step bZ hb); (try clear hb); (try clear hb2); (try clear hk); (try clear hi); have hcz13_0 : w12.cell? ⟨gb240, 0, none⟩ = some (.slice A0_0 l0_0.length c0_0) := (blk_cell BK240.out 0).trans rfl; have hcz13_1 : w12.cell? ⟨gb240, 1, none⟩ = some (.slice A0_1 l0_1.length c0_1) := (blk_cell BK240.out 1).trans rfl; have hfz13_0 := blk_frozen BK240.out 0; have hfz13_1 := blk_frozen BK240.out 1) | ((with_reducible refine gate_callee (f := 77) rfl ?_); refine goesL_ (some 18) rfl rfl Try.func77 kZ rfl #[.agg #[.slice A0_0 l0_0.length c0_0, .slice A0_1 l0_1.length c0_1]] rfl tZA ?_; (with_reducible refine (impl_copyRegister.calls _ _ l0_0 _ _ l0_1 t243 t246 _ ?side1 ?side2 ?side3 ?side4 A6.out).mono ?_); (case side1 => repeat (first | exact (Kd.C_below HR0_0.out HB.out) | (with_reducible refine Kd.C_alloc ?_ _) | (with_reducible refine Kd.C_drewN ?_ _) | (with_reducible refine Kd.C_drew ?_))); (case side2 => exact HC0_0.out); (case side3 => repeat (first | exact (Kd.C_below HR0_1.out HB.out) | (with_reducible refine Kd.C_alloc ?_ _) | (with_reducible refine Kd.C_drewN ?_ _) | (with_reducible refine Kd.C_drew ?_))); (case side4 => exact HC0_1.out); rintro e w14 ⟨v244, v247, rfl, ho0, ho1, hb⟩; refine ⟨_, rfl, ?_⟩; have HO245 := aZ (Kd.R_lower ho0 (below_size bZ)); have HO248 := aZ (Kd.R_lower ho1 (below_size bZ)); replace BK240 := aZ (blk_below (bkZ BK240.out) hb); replace BK241 := aZ (blk_below (bkZ BK241.out) hb); replace HB := aZ (below_step bZ hb); (try clear hb); (try clear hb2); (try clear hk); (try clear hi); (try clear ho0); (try clear ho1)) | ((with_reducible refine gate_dst (N := 8) rfl ?_); (try (refine gate_guard (by rfl) ?_; dsimp only)); refine box_event ?hg (N := 8) ?hd (cs := #[.slice none 0 0, .slice none 0 0]) (t := 30) ?hr ?_; (case hd => rfl); (case hg => rfl); (case hr => first | (go_simp; done) | (go_simp; rfl)); intro gb249 hg w15 hbox hb; replace HO245 := aZ (Kd.R_below (lZR HO245.out) hb); replace HO248 := aZ (Kd.R_below (lZR HO248.out) hb); have BK249 := aZ (hbox); have GW249 := aZ ((by rw [hg]; exact (below_size bZ) : w.heap.size ≤ gb249)); have GE249 := aZ ((by rw [hg]; exact (below_size bZ) : w.heap.size ≤ gb249)); replace HB := aZ (below_step bZ hb); have NB240_249 := aZ ((by rw [hg]; exact Nat.ne_of_lt (blk_lt (bkZ BK240.out)) : gb240 ≠ gb249)); have NB249_240 := aZ ((by rw [hg]; exact Nat.ne_of_gt (blk_lt (bkZ BK240.out)) : gb249 ≠ gb240)); replace BK240 := aZ (blk_below (bkZ BK240.out) hb); have NB241_249 := aZ ((by rw [hg]; exact Nat.ne_of_lt (blk_lt (bkZ BK241.out)) : gb241 ≠ gb249)); have NB249_241 := aZ ((by rw [hg]; exact Nat.ne_of_gt (blk_lt (bkZ BK241.out)) : gb249 ≠ gb241)); replace BK241 := aZ (blk_below (bkZ BK241.out) hb); clear hb hbox hg; obtain ⟨Ao16, co16, eo16⟩ := Kd.R_slice HO245.out; subst eo16; have hnb17 := NB249_240.out; have hnc17 := NB240_249.out; have hnb18 := NB249_241.out; have hnc18 := NB241_249.out; have hcz19_0 : w15.cell? ⟨gb249, 0, none⟩ = some (.slice none 0 0) := (blk_cell BK249.out 0).trans rfl; have hcz19_1 : w15.cell? ⟨gb249, 1, none⟩ = some (.slice none 0 0) := (blk_cell BK249.out 1).trans rfl; have hfz19_0 := blk_frozen BK249.out 0; have hfz19_1 := blk_frozen BK249.out 1; obtain ⟨Ao20, co20, eo20⟩ := Kd.R_slice HO248.out; subst eo20))
 (try simp only [Act.put, sZ1, sZ2, sZ3])
 go_cut [27] (fun v27 wc => ∃ (kq : Nat) (x27_6 : Bool), v27 = .bool x27_6 ∧ Aside0 (impl_Issue.j0 kq a1 a2 x27_6 l0_0 l0_1 t243 t246 = some (r1, r2, r3)) ∧ Aside0 (kq ≤ k) ∧ Aside0 (Kd.R k124 124 wc w.heap.size (fun _ => True) (.slice Ao16 t243.length co16) t243) ∧ Aside0 (Kd.R k120 120 wc w.heap.size (fun _ => True) (.slice Ao20 t246.length co20) t246) ∧ Aside0 (wc.heap[gb240]? = some (.cells #[(.slice A0_0 l0_0.length c0_0), (.slice A0_1 l0_1.length c0_1)] 30 (0, 0))) ∧ Aside0 (wc.heap[gb241]? = some (.cells #[(.slice none 0 0), (.slice none 0 0)] 30 (0, 0))) ∧ Aside0 (wc.heap[gb249]? = some (.cells #[(.slice Ao16 t243.length co16), (.slice Ao20 t246.length co20)] 30 (0, 0))) ∧ Aside0 (Below w.heap.size w wc))
 case first =>
  have H := HC7.out
  clear HC7
  by_cases c21 : a1 < 0
  ·rw [if_pos c21] at H
   have c21b0 := decide_eq_true c21
   clear c21
   (first | rw [c21b0] | (simp only [i64_w, i32_w]; rw [c21b0]) | skip)
   have H' := Aside0.mk H
   clear H
   go_wp2
   go_meet
   case rel => exact ⟨_, (true), tZB, H', ⟨by first | omega | exact Nat.le_refl _⟩, ⟨by (with_reducible repeat (first | apply Kd.R_alloc | apply Kd.R_drewN | apply Kd.R_drew)); exact Kd.R_mono (Kd.R_far (p := ⟨gb249, 1, none⟩) (Kd.R_far (p := ⟨gb249, 0, none⟩) (Kd.R_types HO245.out BK249.out (by decide)) (fun _ hk => hk.2) (.slice Ao16 t243.length co16)) (fun _ hk => hk.2) (.slice Ao20 t246.length co20)) (fun _ hk => trivial)⟩, ⟨by (with_reducible repeat (first | apply Kd.R_alloc | apply Kd.R_drewN | apply Kd.R_drew)); exact Kd.R_mono (Kd.R_far (p := ⟨gb249, 1, none⟩) (Kd.R_far (p := ⟨gb249, 0, none⟩) (Kd.R_types HO248.out BK249.out (by decide)) (fun _ hk => hk.2) (.slice Ao16 t243.length co16)) (fun _ hk => hk.2) (.slice Ao20 t246.length co20)) (fun _ hk => trivial)⟩, ⟨by (with_reducible repeat (first | refine blk_drewN ?_ _ | refine blk_drew ?_ | refine blk_alloc ?_ _)); refine blk_far ?_ NB240_249.out _; (with_reducible repeat (first | refine blk_drewN ?_ _ | refine blk_drew ?_ | refine blk_alloc ?_ _)); refine blk_far ?_ NB240_249.out _; (with_reducible repeat (first | refine blk_drewN ?_ _ | refine blk_drew ?_ | refine blk_alloc ?_ _)); exact BK240.out⟩, ⟨by (with_reducible repeat (first | refine blk_drewN ?_ _ | refine blk_drew ?_ | refine blk_alloc ?_ _)); refine blk_far ?_ NB241_249.out _; (with_reducible repeat (first | refine blk_drewN ?_ _ | refine blk_drew ?_ | refine blk_alloc ?_ _)); refine blk_far ?_ NB241_249.out _; (with_reducible repeat (first | refine blk_drewN ?_ _ | refine blk_drew ?_ | refine blk_alloc ?_ _)); exact BK241.out⟩, ⟨by (with_reducible repeat (first | refine blk_drewN ?_ _ | refine blk_drew ?_ | refine blk_alloc ?_ _)); refine blk_put (cs := #[.slice Ao16 t243.length co16, .slice none 0 0]) ?_ 1 _ rfl; (with_reducible repeat (first | refine blk_drewN ?_ _ | refine blk_drew ?_ | refine blk_alloc ?_ _)); refine blk_put (cs := #[.slice none 0 0, .slice none 0 0]) ?_ 0 _ rfl; (with_reducible repeat (first | refine blk_drewN ?_ _ | refine blk_drew ?_ | refine blk_alloc ?_ _)); exact BK249.out⟩, ⟨bZ⟩⟩
  rw [if_neg c21] at H
  have c21b0 := decide_eq_false c21
  clear c21
  (first | rw [c21b0] | (simp only [i64_w, i32_w]; rw [c21b0]) | skip)
  have H' := Aside0.mk H
  clear H
  have hnb22 := NB240_241.out
  have hnc22 := NB241_240.out
  have hnb23 := NB240_249.out
  have hnc23 := NB249_240.out
  have hcz24_0 : w15.cell? ⟨gb240, 0, none⟩ = some (.slice A0_0 l0_0.length c0_0) := (blk_cell BK240.out 0).trans rfl
  have hcz24_1 : w15.cell? ⟨gb240, 1, none⟩ = some (.slice A0_1 l0_1.length c0_1) := (blk_cell BK240.out 1).trans rfl
  have hfz24_0 := blk_frozen BK240.out 0
  have hfz24_1 := blk_frozen BK240.out 1
  go_wp2
  go_meet
  case rel => exact ⟨_, (decide (a1 ≥ (l0_0.length : Int))), tZB, H', ⟨by first | omega | exact Nat.le_refl _⟩, ⟨by (with_reducible repeat (first | apply Kd.R_alloc | apply Kd.R_drewN | apply Kd.R_drew)); exact Kd.R_mono (Kd.R_far (p := ⟨gb249, 1, none⟩) (Kd.R_far (p := ⟨gb249, 0, none⟩) (Kd.R_types HO245.out BK249.out (by decide)) (fun _ hk => hk.2) (.slice Ao16 t243.length co16)) (fun _ hk => hk.2) (.slice Ao20 t246.length co20)) (fun _ hk => trivial)⟩, ⟨by (with_reducible repeat (first | apply Kd.R_alloc | apply Kd.R_drewN | apply Kd.R_drew)); exact Kd.R_mono (Kd.R_far (p := ⟨gb249, 1, none⟩) (Kd.R_far (p := ⟨gb249, 0, none⟩) (Kd.R_types HO248.out BK249.out (by decide)) (fun _ hk => hk.2) (.slice Ao16 t243.length co16)) (fun _ hk => hk.2) (.slice Ao20 t246.length co20)) (fun _ hk => trivial)⟩, ⟨by (with_reducible repeat (first | refine blk_drewN ?_ _ | refine blk_drew ?_ | refine blk_alloc ?_ _)); refine blk_far ?_ NB240_249.out _; (with_reducible repeat (first | refine blk_drewN ?_ _ | refine blk_drew ?_ | refine blk_alloc ?_ _)); refine blk_far ?_ NB240_249.out _; (with_reducible repeat (first | refine blk_drewN ?_ _ | refine blk_drew ?_ | refine blk_alloc ?_ _)); exact BK240.out⟩, ⟨by (with_reducible repeat (first | refine blk_drewN ?_ _ | refine blk_drew ?_ | refine blk_alloc ?_ _)); refine blk_far ?_ NB241_249.out _; (with_reducible repeat (first | refine blk_drewN ?_ _ | refine blk_drew ?_ | refine blk_alloc ?_ _)); refine blk_far ?_ NB241_249.out _; (with_reducible repeat (first | refine blk_drewN ?_ _ | refine blk_drew ?_ | refine blk_alloc ?_ _)); exact BK241.out⟩, ⟨by (with_reducible repeat (first | refine blk_drewN ?_ _ | refine blk_drew ?_ | refine blk_alloc ?_ _)); refine blk_put (cs := #[.slice Ao16 t243.length co16, .slice none 0 0]) ?_ 1 _ rfl; (with_reducible repeat (first | refine blk_drewN ?_ _ | refine blk_drew ?_ | refine blk_alloc ?_ _)); refine blk_put (cs := #[.slice none 0 0, .slice none 0 0]) ?_ 0 _ rfl; (with_reducible repeat (first | refine blk_drewN ?_ _ | refine blk_drew ?_ | refine blk_alloc ?_ _)); exact BK249.out⟩, ⟨bZ⟩⟩
 case rest =>
  clear HC7
  try clear c1
  try clear c2
  try clear p2
  try clear c5
  try clear c7
  try clear c10
  try clear c16
  try clear c17
  try clear c18
  try clear c21
  try clear c21b0
  try clear c22
  try clear c23
  try clear hcz11_0
  try clear hcz11_1
  try clear hcz13_0
  try clear hcz13_1
  try clear hcz19_0
  try clear hcz19_1
  try clear hcz24_0
  try clear hcz24_1
  try clear hfz11_0
  try clear hfz11_1
  try clear hfz13_0
  try clear hfz13_1
  try clear hfz19_0
  try clear hfz19_1
  try clear hfz24_0
  try clear hfz24_1
  obtain ⟨kq, x27_6, rfl, HA, HJ6, HO_250000, HO_250001, BK240, BK241, BK249, HB⟩ := hcut
  cases kq with
  | zero => exact absurd HA.out (by simp [impl_Issue.j0])
  | succ kj6 =>
   have H := HA.out
   clear HA
   simp only [impl_Issue.j0] at H
   by_cases c25 : x27_6 = true
   ·subst c25
    have H1 : (some (t243, t246, 2)) = some (r1, r2, r3) := by rw [if_pos rfl] at H; exact H
    clear H
    have H := H1
    clear H1
    simp only [Option.some.injEq, Prod.mk.injEq] at H
    obtain ⟨rfl, rfl, rfl⟩ := H
    have hnb26 := NB249_240.out
    have hnc26 := NB240_249.out
    have hnb27 := NB249_241.out
    have hnc27 := NB241_249.out
    have hcz28_0 : wc.cell? ⟨gb249, 0, none⟩ = some (.slice Ao16 t243.length co16) := (blk_cell BK249.out 0).trans rfl
    have hcz28_1 : wc.cell? ⟨gb249, 1, none⟩ = some (.slice Ao20 t246.length co20) := (blk_cell BK249.out 1).trans rfl
    have hfz28_0 := blk_frozen BK249.out 0
    have hfz28_1 := blk_frozen BK249.out 1
    have hnb29 := NB241_240.out
    have hnc29 := NB240_241.out
    have hcz30_0 : wc.cell? ⟨gb241, 0, none⟩ = some (.slice none 0 0) := (blk_cell BK241.out 0).trans rfl
    have hcz30_1 : wc.cell? ⟨gb241, 1, none⟩ = some (.slice none 0 0) := (blk_cell BK241.out 1).trans rfl
    have hfz30_0 := blk_frozen BK241.out 0
    have hfz30_1 := blk_frozen BK241.out 1
    go_wp2
    refine bodyPost_ret (results_ct rfl _ _ gb241 30 #[.slice Ao16 t243.length co16, .slice Ao20 t246.length co20] (0, 0) _ rfl (by (with_reducible repeat (first | refine blk_drewN ?_ _ | refine blk_drew ?_ | refine blk_alloc ?_ _)); refine blk_put (cs := #[.slice Ao16 t243.length co16, .slice none 0 0]) ?_ 1 _ rfl; (with_reducible repeat (first | refine blk_drewN ?_ _ | refine blk_drew ?_ | refine blk_alloc ?_ _)); refine blk_put (cs := #[.slice none 0 0, .slice none 0 0]) ?_ 0 _ rfl; (with_reducible repeat (first | refine blk_drewN ?_ _ | refine blk_drew ?_ | refine blk_alloc ?_ _)); exact BK241.out) Try.underlying30 rfl kZ) rfl ?_
    exact ⟨_, _, tZC, by (with_reducible repeat (first | apply Kd.R_alloc | apply Kd.R_drewN | apply Kd.R_drew)); exact Kd.R_mono (Kd.R_far (p := ⟨gb241, 1, none⟩) (Kd.R_far (p := ⟨gb241, 0, none⟩) (Kd.R_types HO_250000.out BK241.out (by decide)) (fun _ hk => hk.2) (.slice Ao16 t243.length co16)) (fun _ hk => hk.2) (.slice Ao20 t246.length co20)) (fun _ hk => trivial), by (with_reducible repeat (first | apply Kd.R_alloc | apply Kd.R_drewN | apply Kd.R_drew)); exact Kd.R_mono (Kd.R_far (p := ⟨gb241, 1, none⟩) (Kd.R_far (p := ⟨gb241, 0, none⟩) (Kd.R_types HO_250001.out BK241.out (by decide)) (fun _ hk => hk.2) (.slice Ao16 t243.length co16)) (fun _ hk => hk.2) (.slice Ao20 t246.length co20)) (fun _ hk => trivial), bZ⟩
   replace c25 := Bool.eq_false_iff.mpr c25
   subst c25
   have H1 : (impl_Issue.l0 kj6 a1 a2 1 0 l0_1 (l0_1.length : Int) 0 l0_0 l0_1 t243 t246) = some (r1, r2, r3) := by rw [if_neg (show ¬ (false = true) by decide)] at H; exact H
   clear H
   have H := H1
   clear H1
   have H' := Aside0.mk H
   clear H
   have hnb31 := NB240_241.out
   have hnc31 := NB241_240.out
   have hnb32 := NB240_249.out
   have hnc32 := NB249_240.out
   have hcz33_0 : wc.cell? ⟨gb240, 0, none⟩ = some (.slice A0_0 l0_0.length c0_0) := (blk_cell BK240.out 0).trans rfl
   have hcz33_1 : wc.cell? ⟨gb240, 1, none⟩ = some (.slice A0_1 l0_1.length c0_1) := (blk_cell BK240.out 1).trans rfl
   have hfz33_0 := blk_frozen BK240.out 0
   have hfz33_1 := blk_frozen BK240.out 1
   go_wp2
   go_loopg [9, 10, 32] kj6 (fun kq v9 v10 v32 w' => ∃ (x9_2 : Int) (x10_2 : Int) (x32_2 : Int), v9 = .int .i64 x9_2 ∧ v10 = .int .i64 x10_2 ∧ v32 = .int .i64 x32_2 ∧ Aside0 (impl_Issue.l0 kq a1 a2 x9_2 x10_2 l0_1 (l0_1.length : Int) x32_2 l0_0 l0_1 t243 t246 = some (r1, r2, r3)) ∧ Aside0 (kq ≤ kj6) ∧ Aside0 (Kd.R k124 124 w' w.heap.size (fun _ => True) (.slice Ao16 t243.length co16) t243) ∧ Aside0 (Kd.R k120 120 w' w.heap.size (fun _ => True) (.slice Ao20 t246.length co20) t246) ∧ Aside0 (w'.heap[gb240]? = some (.cells #[(.slice A0_0 l0_0.length c0_0), (.slice A0_1 l0_1.length c0_1)] 30 (0, 0))) ∧ Aside0 (w'.heap[gb241]? = some (.cells #[(.slice none 0 0), (.slice none 0 0)] 30 (0, 0))) ∧ Aside0 (w'.heap[gb249]? = some (.cells #[(.slice Ao16 t243.length co16), (.slice Ao20 t246.length co20)] 30 (0, 0))) ∧ Aside0 (Below w.heap.size w w'))
   case atStart => exact ⟨(1), (0), (0), tZB, tZB, tZB, H', ⟨Nat.le_refl _⟩, ⟨lZR HO_250000.out⟩, ⟨lZR HO_250001.out⟩, ⟨bkZ BK240.out⟩, ⟨bkZ BK241.out⟩, ⟨bkZ BK249.out⟩, ⟨bZ⟩⟩
   case round =>
    clear H'
    try clear c1
    try clear c2
    try clear p2
    try clear c3
    try clear c5
    try clear c7
    try clear c10
    try clear c16
    try clear c17
    try clear c18
    try clear c21
    try clear c21b0
    try clear c22
    try clear c23
    try clear c25
    try clear c26
    try clear c27
    try clear c29
    try clear c31
    try clear c32
    try clear hcz11_0
    try clear hcz11_1
    try clear hcz13_0
    try clear hcz13_1
    try clear hcz19_0
    try clear hcz19_1
    try clear hcz24_0
    try clear hcz24_1
    try clear hcz28_0
    try clear hcz28_1
    try clear hcz30_0
    try clear hcz30_1
    try clear hcz33_0
    try clear hcz33_1
    try clear hfz11_0
    try clear hfz11_1
    try clear hfz13_0
    try clear hfz13_1
    try clear hfz19_0
    try clear hfz19_1
    try clear hfz24_0
    try clear hfz24_1
    try clear hfz28_0
    try clear hfz28_1
    try clear hfz30_0
    try clear hfz30_1
    try clear hfz33_0
    try clear hfz33_1
    try clear p2
    obtain ⟨x9_2, x10_2, x32_2, rfl, rfl, rfl, HA, HK2, HO_250000, HO_250001, BK240, BK241, BK249, HB⟩ := hrel
    cases gk with
    | zero => exact absurd HA.out (by simp [impl_Issue.l0])
    | succ k2 =>
     have H := HA.out
     clear HA
     simp only [impl_Issue.l0] at H
     by_cases c34 : x32_2 < (l0_1.length : Int)
     ·rw [if_pos c34] at H
      have c34b0 := decide_eq_true c34
      clear c34
      by_cases c35 : 0 ≤ x32_2
      rotate_left
      ·rw [if_neg c35] at H
       exact absurd H (by simp)
      rw [if_pos c35] at H
      have c35b0 := decide_eq_true c35
      clear c35
      by_cases c36 : x32_2 < (l0_1.length : Int)
      rotate_left
      ·rw [if_neg c36] at H
       exact absurd H (by simp)
      rw [if_pos c36] at H
      have c36b0 := decide_eq_true c36
      clear c36
      by_cases c37 : ((rd_T120 l0_1 x32_2).f0) = a1
      rotate_left
      ·rw [if_neg c37] at H
       have c37b0 : (((rd_T120 l0_1 x32_2).f0) == a1) = false := beq_eq_false_iff_ne.mpr c37
       have c37b1 : (((rd_T120 l0_1 x32_2).f0) != a1) = true := bne_iff_ne.mpr c37
       have H' := Aside0.mk H
       clear H
       have p250 : 0 ≤ (x32_2 : Int) := of_decide_eq_true tZE
       have q250 : x32_2 < (l0_1.length : Int) := of_decide_eq_true tZE
       obtain ⟨ad250, e250, hx250_0, hx250_1, hx250_2, hx250_3⟩ := at_T120 HR0_1.out x32_2 p250 q250
       cases e250
       replace hx250_0 := cZ HB hx250_0
       replace hx250_1 := cZ HB hx250_1
       replace hx250_2 := cZ HB hx250_2
       replace hx250_3 := cZ HB hx250_3
       replace p250 := eq_true p250
       replace q250 := eq_true q250
       go_wp2_with (first | ((with_reducible refine gate_dst (N := 12) rfl ?_); (try (refine gate_guard (by rfl) ?_; dsimp only)); refine box_event ?hg (N := 12) ?hd (cs := #[.int .i64 0, .int .i64 0, .int .i64 0, .bool false]) (t := 120) ?hr ?_; (case hd => rfl); (case hg => rfl); (case hr => first | (go_simp; done) | (go_simp; rfl)); intro gb251 hg w43 hbox hb; replace HO_250000 := aZ (Kd.R_below (lZR HO_250000.out) hb); replace HO_250001 := aZ (Kd.R_below (Kd.R_elderB (lZR HO_250001.out) gb251 (Nat.le_of_eq hg.symm)) hb); have BK251 := aZ (hbox); have GW251 := aZ ((by rw [hg]; exact (below_size bZ) : w.heap.size ≤ gb251)); have GE251 := aZ ((by rw [hg]; exact (below_size bZ) : w.heap.size ≤ gb251)); replace HB := aZ (below_step bZ hb); have NB240_251 := aZ ((by rw [hg]; exact Nat.ne_of_lt (blk_lt (bkZ BK240.out)) : gb240 ≠ gb251)); have NB251_240 := aZ ((by rw [hg]; exact Nat.ne_of_gt (blk_lt (bkZ BK240.out)) : gb251 ≠ gb240)); replace BK240 := aZ (blk_below (bkZ BK240.out) hb); have NB241_251 := aZ ((by rw [hg]; exact Nat.ne_of_lt (blk_lt (bkZ BK241.out)) : gb241 ≠ gb251)); have NB251_241 := aZ ((by rw [hg]; exact Nat.ne_of_gt (blk_lt (bkZ BK241.out)) : gb251 ≠ gb241)); replace BK241 := aZ (blk_below (bkZ BK241.out) hb); have NB249_251 := aZ ((by rw [hg]; exact Nat.ne_of_lt (blk_lt (bkZ BK249.out)) : gb249 ≠ gb251)); have NB251_249 := aZ ((by rw [hg]; exact Nat.ne_of_gt (blk_lt (bkZ BK249.out)) : gb251 ≠ gb249)); replace BK249 := aZ (blk_below (bkZ BK249.out) hb); clear hb hbox hg; have hnb44 := NB251_240.out; have hnc44 := NB240_251.out; have hnb45 := NB251_241.out; have hnc45 := NB241_251.out; have hnb46 := NB251_249.out; have hnc46 := NB249_251.out; have hcz47_0 : w43.cell? ⟨gb251, 0, none⟩ = some (.int .i64 0) := (blk_cell BK251.out 0).trans rfl; have hcz47_1 : w43.cell? ⟨gb251, 1, none⟩ = some (.int .i64 0) := (blk_cell BK251.out 1).trans rfl; have hcz47_2 : w43.cell? ⟨gb251, 2, none⟩ = some (.int .i64 0) := (blk_cell BK251.out 2).trans rfl; have hcz47_3 : w43.cell? ⟨gb251, 3, none⟩ = some (.bool false) := (blk_cell BK251.out 3).trans rfl; have hfz47_0 := blk_frozen BK251.out 0; have hfz47_1 := blk_frozen BK251.out 1; have hfz47_2 := blk_frozen BK251.out 2; have hfz47_3 := blk_frozen BK251.out 3))
       go_roundg k2
       case measure => have := HJ6.out; have := HK2.out; omega
       case rel => exact ⟨(x9_2), (x10_2), (wrap64 (x32_2 + 1)), tZB, tZB, tZB, H', ⟨by have := HJ6.out; have := HK2.out; omega⟩, ⟨by (with_reducible repeat (first | apply Kd.R_alloc | apply Kd.R_drewN | apply Kd.R_drew)); exact Kd.R_mono (Kd.R_far (p := ⟨gb251, 3, none⟩) (Kd.R_far (p := ⟨gb251, 2, none⟩) (Kd.R_far (p := ⟨gb251, 1, none⟩) (Kd.R_far (p := ⟨gb251, 0, none⟩) (Kd.R_types HO_250000.out BK251.out (by decide)) (fun _ hk => hk.2) (.int .i64 ((rd_T120 l0_1 x32_2).f0))) (fun _ hk => hk.2) (.int .i64 ((rd_T120 l0_1 x32_2).f1))) (fun _ hk => hk.2) (.int .i64 ((rd_T120 l0_1 x32_2).f2))) (fun _ hk => hk.2) (.bool ((rd_T120 l0_1 x32_2).f3))) (fun _ hk => trivial)⟩, ⟨by (with_reducible repeat (first | apply Kd.R_alloc | apply Kd.R_drewN | apply Kd.R_drew)); exact Kd.R_mono (Kd.R_far (p := ⟨gb251, 3, none⟩) (Kd.R_far (p := ⟨gb251, 2, none⟩) (Kd.R_far (p := ⟨gb251, 1, none⟩) (Kd.R_far (p := ⟨gb251, 0, none⟩) (Kd.R_mono HO_250001.out (fun k_ hk => (⟨hk, hk.2⟩ : _ ∧ k_ ≠ gb251))) (fun _ hk => hk.2) (.int .i64 ((rd_T120 l0_1 x32_2).f0))) (fun _ hk => hk.2) (.int .i64 ((rd_T120 l0_1 x32_2).f1))) (fun _ hk => hk.2) (.int .i64 ((rd_T120 l0_1 x32_2).f2))) (fun _ hk => hk.2) (.bool ((rd_T120 l0_1 x32_2).f3))) (fun _ hk => trivial)⟩, ⟨by (with_reducible repeat (first | refine blk_drewN ?_ _ | refine blk_drew ?_ | refine blk_alloc ?_ _)); refine blk_far ?_ NB240_251.out _; (with_reducible repeat (first | refine blk_drewN ?_ _ | refine blk_drew ?_ | refine blk_alloc ?_ _)); refine blk_far ?_ NB240_251.out _; (with_reducible repeat (first | refine blk_drewN ?_ _ | refine blk_drew ?_ | refine blk_alloc ?_ _)); refine blk_far ?_ NB240_251.out _; (with_reducible repeat (first | refine blk_drewN ?_ _ | refine blk_drew ?_ | refine blk_alloc ?_ _)); refine blk_far ?_ NB240_251.out _; (with_reducible repeat (first | refine blk_drewN ?_ _ | refine blk_drew ?_ | refine blk_alloc ?_ _)); exact BK240.out⟩, ⟨by (with_reducible repeat (first | refine blk_drewN ?_ _ | refine blk_drew ?_ | refine blk_alloc ?_ _)); refine blk_far ?_ NB241_251.out _; (with_reducible repeat (first | refine blk_drewN ?_ _ | refine blk_drew ?_ | refine blk_alloc ?_ _)); refine blk_far ?_ NB241_251.out _; (with_reducible repeat (first | refine blk_drewN ?_ _ | refine blk_drew ?_ | refine blk_alloc ?_ _)); refine blk_far ?_ NB241_251.out _; (with_reducible repeat (first | refine blk_drewN ?_ _ | refine blk_drew ?_ | refine blk_alloc ?_ _)); refine blk_far ?_ NB241_251.out _; (with_reducible repeat (first | refine blk_drewN ?_ _ | refine blk_drew ?_ | refine blk_alloc ?_ _)); exact BK241.out⟩, ⟨by (with_reducible repeat (first | refine blk_drewN ?_ _ | refine blk_drew ?_ | refine blk_alloc ?_ _)); refine blk_far ?_ NB249_251.out _; (with_reducible repeat (first | refine blk_drewN ?_ _ | refine blk_drew ?_ | refine blk_alloc ?_ _)); refine blk_far ?_ NB249_251.out _; (with_reducible repeat (first | refine blk_drewN ?_ _ | refine blk_drew ?_ | refine blk_alloc ?_ _)); refine blk_far ?_ NB249_251.out _; (with_reducible repeat (first | refine blk_drewN ?_ _ | refine blk_drew ?_ | refine blk_alloc ?_ _)); refine blk_far ?_ NB249_251.out _; (with_reducible repeat (first | refine blk_drewN ?_ _ | refine blk_drew ?_ | refine blk_alloc ?_ _)); exact BK249.out⟩, ⟨bZ⟩⟩
      rw [if_pos c37] at H
      have c37b0 : (((rd_T120 l0_1 x32_2).f0) == a1) = true := beq_iff_eq.mpr c37
      have c37b1 : (((rd_T120 l0_1 x32_2).f0) != a1) = false := bne_eq_false_iff_eq.mpr c37
      clear c37
      have H' := Aside0.mk H
      clear H
      have p250 : 0 ≤ (x32_2 : Int) := of_decide_eq_true tZE
      have q250 : x32_2 < (l0_1.length : Int) := of_decide_eq_true tZE
      obtain ⟨ad250, e250, hx250_0, hx250_1, hx250_2, hx250_3⟩ := at_T120 HR0_1.out x32_2 p250 q250
      cases e250
      replace hx250_0 := cZ HB hx250_0
      replace hx250_1 := cZ HB hx250_1
      replace hx250_2 := cZ HB hx250_2
      replace hx250_3 := cZ HB hx250_3
      replace p250 := eq_true p250
      replace q250 := eq_true q250
      go_wp2_with (first | ((with_reducible refine gate_dst (N := 12) rfl ?_); (try (refine gate_guard (by rfl) ?_; dsimp only)); refine box_event ?hg (N := 12) ?hd (cs := #[.int .i64 0, .int .i64 0, .int .i64 0, .bool false]) (t := 120) ?hr ?_; (case hd => rfl); (case hg => rfl); (case hr => first | (go_simp; done) | (go_simp; rfl)); intro gb251 hg w38 hbox hb; replace HO_250000 := aZ (Kd.R_below (lZR HO_250000.out) hb); replace HO_250001 := aZ (Kd.R_below (Kd.R_elderB (lZR HO_250001.out) gb251 (Nat.le_of_eq hg.symm)) hb); have BK251 := aZ (hbox); have GW251 := aZ ((by rw [hg]; exact (below_size bZ) : w.heap.size ≤ gb251)); have GE251 := aZ ((by rw [hg]; exact (below_size bZ) : w.heap.size ≤ gb251)); replace HB := aZ (below_step bZ hb); have NB240_251 := aZ ((by rw [hg]; exact Nat.ne_of_lt (blk_lt (bkZ BK240.out)) : gb240 ≠ gb251)); have NB251_240 := aZ ((by rw [hg]; exact Nat.ne_of_gt (blk_lt (bkZ BK240.out)) : gb251 ≠ gb240)); replace BK240 := aZ (blk_below (bkZ BK240.out) hb); have NB241_251 := aZ ((by rw [hg]; exact Nat.ne_of_lt (blk_lt (bkZ BK241.out)) : gb241 ≠ gb251)); have NB251_241 := aZ ((by rw [hg]; exact Nat.ne_of_gt (blk_lt (bkZ BK241.out)) : gb251 ≠ gb241)); replace BK241 := aZ (blk_below (bkZ BK241.out) hb); have NB249_251 := aZ ((by rw [hg]; exact Nat.ne_of_lt (blk_lt (bkZ BK249.out)) : gb249 ≠ gb251)); have NB251_249 := aZ ((by rw [hg]; exact Nat.ne_of_gt (blk_lt (bkZ BK249.out)) : gb251 ≠ gb249)); replace BK249 := aZ (blk_below (bkZ BK249.out) hb); clear hb hbox hg; have hnb39 := NB251_240.out; have hnc39 := NB240_251.out; have hnb40 := NB251_241.out; have hnc40 := NB241_251.out; have hnb41 := NB251_249.out; have hnc41 := NB249_251.out; have hcz42_0 : w38.cell? ⟨gb251, 0, none⟩ = some (.int .i64 0) := (blk_cell BK251.out 0).trans rfl; have hcz42_1 : w38.cell? ⟨gb251, 1, none⟩ = some (.int .i64 0) := (blk_cell BK251.out 1).trans rfl; have hcz42_2 : w38.cell? ⟨gb251, 2, none⟩ = some (.int .i64 0) := (blk_cell BK251.out 2).trans rfl; have hcz42_3 : w38.cell? ⟨gb251, 3, none⟩ = some (.bool false) := (blk_cell BK251.out 3).trans rfl; have hfz42_0 := blk_frozen BK251.out 0; have hfz42_1 := blk_frozen BK251.out 1; have hfz42_2 := blk_frozen BK251.out 2; have hfz42_3 := blk_frozen BK251.out 3))
      go_roundg k2
      case measure => have := HJ6.out; have := HK2.out; omega
      case rel => exact ⟨(wrap64 (x9_2 + 1)), ((rd_T120 l0_1 x32_2).f2), (wrap64 (x32_2 + 1)), tZB, tZB, tZB, H', ⟨by have := HJ6.out; have := HK2.out; omega⟩, ⟨by (with_reducible repeat (first | apply Kd.R_alloc | apply Kd.R_drewN | apply Kd.R_drew)); exact Kd.R_mono (Kd.R_far (p := ⟨gb251, 3, none⟩) (Kd.R_far (p := ⟨gb251, 2, none⟩) (Kd.R_far (p := ⟨gb251, 1, none⟩) (Kd.R_far (p := ⟨gb251, 0, none⟩) (Kd.R_types HO_250000.out BK251.out (by decide)) (fun _ hk => hk.2) (.int .i64 ((rd_T120 l0_1 x32_2).f0))) (fun _ hk => hk.2) (.int .i64 ((rd_T120 l0_1 x32_2).f1))) (fun _ hk => hk.2) (.int .i64 ((rd_T120 l0_1 x32_2).f2))) (fun _ hk => hk.2) (.bool ((rd_T120 l0_1 x32_2).f3))) (fun _ hk => trivial)⟩, ⟨by (with_reducible repeat (first | apply Kd.R_alloc | apply Kd.R_drewN | apply Kd.R_drew)); exact Kd.R_mono (Kd.R_far (p := ⟨gb251, 3, none⟩) (Kd.R_far (p := ⟨gb251, 2, none⟩) (Kd.R_far (p := ⟨gb251, 1, none⟩) (Kd.R_far (p := ⟨gb251, 0, none⟩) (Kd.R_mono HO_250001.out (fun k_ hk => (⟨hk, hk.2⟩ : _ ∧ k_ ≠ gb251))) (fun _ hk => hk.2) (.int .i64 ((rd_T120 l0_1 x32_2).f0))) (fun _ hk => hk.2) (.int .i64 ((rd_T120 l0_1 x32_2).f1))) (fun _ hk => hk.2) (.int .i64 ((rd_T120 l0_1 x32_2).f2))) (fun _ hk => hk.2) (.bool ((rd_T120 l0_1 x32_2).f3))) (fun _ hk => trivial)⟩, ⟨by (with_reducible repeat (first | refine blk_drewN ?_ _ | refine blk_drew ?_ | refine blk_alloc ?_ _)); refine blk_far ?_ NB240_251.out _; (with_reducible repeat (first | refine blk_drewN ?_ _ | refine blk_drew ?_ | refine blk_alloc ?_ _)); refine blk_far ?_ NB240_251.out _; (with_reducible repeat (first | refine blk_drewN ?_ _ | refine blk_drew ?_ | refine blk_alloc ?_ _)); refine blk_far ?_ NB240_251.out _; (with_reducible repeat (first | refine blk_drewN ?_ _ | refine blk_drew ?_ | refine blk_alloc ?_ _)); refine blk_far ?_ NB240_251.out _; (with_reducible repeat (first | refine blk_drewN ?_ _ | refine blk_drew ?_ | refine blk_alloc ?_ _)); exact BK240.out⟩, ⟨by (with_reducible repeat (first | refine blk_drewN ?_ _ | refine blk_drew ?_ | refine blk_alloc ?_ _)); refine blk_far ?_ NB241_251.out _; (with_reducible repeat (first | refine blk_drewN ?_ _ | refine blk_drew ?_ | refine blk_alloc ?_ _)); refine blk_far ?_ NB241_251.out _; (with_reducible repeat (first | refine blk_drewN ?_ _ | refine blk_drew ?_ | refine blk_alloc ?_ _)); refine blk_far ?_ NB241_251.out _; (with_reducible repeat (first | refine blk_drewN ?_ _ | refine blk_drew ?_ | refine blk_alloc ?_ _)); refine blk_far ?_ NB241_251.out _; (with_reducible repeat (first | refine blk_drewN ?_ _ | refine blk_drew ?_ | refine blk_alloc ?_ _)); exact BK241.out⟩, ⟨by (with_reducible repeat (first | refine blk_drewN ?_ _ | refine blk_drew ?_ | refine blk_alloc ?_ _)); refine blk_far ?_ NB249_251.out _; (with_reducible repeat (first | refine blk_drewN ?_ _ | refine blk_drew ?_ | refine blk_alloc ?_ _)); refine blk_far ?_ NB249_251.out _; (with_reducible repeat (first | refine blk_drewN ?_ _ | refine blk_drew ?_ | refine blk_alloc ?_ _)); refine blk_far ?_ NB249_251.out _; (with_reducible repeat (first | refine blk_drewN ?_ _ | refine blk_drew ?_ | refine blk_alloc ?_ _)); refine blk_far ?_ NB249_251.out _; (with_reducible repeat (first | refine blk_drewN ?_ _ | refine blk_drew ?_ | refine blk_alloc ?_ _)); exact BK249.out⟩, ⟨bZ⟩⟩
     rw [if_neg c34] at H
     have c34b0 := decide_eq_false c34
     clear c34
     have HC48 := Aside0.mk H
     clear H
     go_upto_region 14 with (fail)
     go_cut [52] (fun v52 wc => ∃ (kq : Nat) (x52_47 : Bool), v52 = .bool x52_47 ∧ Aside0 (impl_Issue.j2 kq a1 a2 x9_2 x52_47 l0_0 l0_1 t243 t246 = some (r1, r2, r3)) ∧ Aside0 (kq ≤ k2) ∧ Aside0 (Kd.R k124 124 wc w.heap.size (fun _ => True) (.slice Ao16 t243.length co16) t243) ∧ Aside0 (Kd.R k120 120 wc w.heap.size (fun _ => True) (.slice Ao20 t246.length co20) t246) ∧ Aside0 (wc.heap[gb240]? = some (.cells #[(.slice A0_0 l0_0.length c0_0), (.slice A0_1 l0_1.length c0_1)] 30 (0, 0))) ∧ Aside0 (wc.heap[gb241]? = some (.cells #[(.slice none 0 0), (.slice none 0 0)] 30 (0, 0))) ∧ Aside0 (wc.heap[gb249]? = some (.cells #[(.slice Ao16 t243.length co16), (.slice Ao20 t246.length co20)] 30 (0, 0))) ∧ Aside0 (Below w.heap.size w wc))
     case first =>
      have H := HC48.out
      clear HC48
      replace H := Option.bind_eq_some_iff.mp H
      obtain ⟨t252, A490, H⟩ := H
      replace H : (if t252 = true then (impl_Issue.j2 k2 a1 a2 x9_2 (decide (a2 < x10_2)) l0_0 l0_1 t243 t246) else (impl_Issue.j2 k2 a1 a2 x9_2 true l0_0 l0_1 t243 t246)) = some (r1, r2, r3) := H
      have A49 := Aside0.mk A490
      clear A490
      by_cases c50 : t252 = true
      ·subst c50
       have H1 : (impl_Issue.j2 k2 a1 a2 x9_2 (decide (a2 < x10_2)) l0_0 l0_1 t243 t246) = some (r1, r2, r3) := by rw [if_pos rfl] at H; exact H
       clear H
       have H := H1
       clear H1
       have H' := Aside0.mk H
       clear H
       go_wp2_with (first | ((with_reducible refine gate_callee (f := 78) rfl ?_); refine goesL_ (some 46) rfl rfl Try.func78 kZ rfl #[.int .i64 a2] rfl tZA ?_; (with_reducible refine (impl_isDay.calls a2 true _ A49.out).mono ?_); rintro e w' ⟨rfl, ⟨nd, rfl⟩⟩; refine ⟨_, rfl, ?_⟩))
       go_meet
       case rel => exact ⟨_, (decide (a2 < x10_2)), tZB, H', ⟨by have := HJ6.out; have := HK2.out; first | omega | exact Nat.le_refl _⟩, ⟨lZR HO_250000.out⟩, ⟨lZR HO_250001.out⟩, ⟨bkZ BK240.out⟩, ⟨bkZ BK241.out⟩, ⟨bkZ BK249.out⟩, ⟨bZ⟩⟩
      replace c50 := Bool.eq_false_iff.mpr c50
      subst c50
      have H1 : (impl_Issue.j2 k2 a1 a2 x9_2 true l0_0 l0_1 t243 t246) = some (r1, r2, r3) := by rw [if_neg (show ¬ (false = true) by decide)] at H; exact H
      clear H
      have H := H1
      clear H1
      have H' := Aside0.mk H
      clear H
      go_wp2_with (first | ((with_reducible refine gate_callee (f := 78) rfl ?_); refine goesL_ (some 46) rfl rfl Try.func78 kZ rfl #[.int .i64 a2] rfl tZA ?_; (with_reducible refine (impl_isDay.calls a2 false _ A49.out).mono ?_); rintro e w' ⟨rfl, ⟨nd, rfl⟩⟩; refine ⟨_, rfl, ?_⟩))
      go_meet
      case rel => exact ⟨_, (true), tZB, H', ⟨by have := HJ6.out; have := HK2.out; first | omega | exact Nat.le_refl _⟩, ⟨lZR HO_250000.out⟩, ⟨lZR HO_250001.out⟩, ⟨bkZ BK240.out⟩, ⟨bkZ BK241.out⟩, ⟨bkZ BK249.out⟩, ⟨bZ⟩⟩
     case rest =>
      clear HC48
      try clear c1
      try clear c2
      try clear p2
      try clear q2
      try clear hx2
      try clear c3
      try clear c4
      try clear c5
      try clear p6
      try clear c7
      try clear c10
      try clear c16
      try clear c17
      try clear c18
      try clear c21
      try clear c21b0
      try clear c22
      try clear c23
      try clear c25
      try clear p25
      try clear q25
      try clear hx25
      try clear c26
      try clear c27
      try clear c29
      try clear c31
      try clear c32
      try clear c34
      try clear c34b0
      try clear c35
      try clear c35b0
      try clear c36
      try clear c36b0
      try clear c37
      try clear c37b0
      try clear c37b1
      try clear c39
      try clear c40
      try clear c41
      try clear c44
      try clear c45
      try clear c46
      try clear c50
      try clear hcz11_0
      try clear hcz11_1
      try clear hcz13_0
      try clear hcz13_1
      try clear hcz19_0
      try clear hcz19_1
      try clear hcz24_0
      try clear hcz24_1
      try clear hcz28_0
      try clear hcz28_1
      try clear hcz30_0
      try clear hcz30_1
      try clear hcz33_0
      try clear hcz33_1
      try clear hcz42_0
      try clear hcz42_1
      try clear hcz42_2
      try clear hcz42_3
      try clear hcz47_0
      try clear hcz47_1
      try clear hcz47_2
      try clear hcz47_3
      try clear hfz11_0
      try clear hfz11_1
      try clear hfz13_0
      try clear hfz13_1
      try clear hfz19_0
      try clear hfz19_1
      try clear hfz24_0
      try clear hfz24_1
      try clear hfz28_0
      try clear hfz28_1
      try clear hfz30_0
      try clear hfz30_1
      try clear hfz33_0
      try clear hfz33_1
      try clear hfz42_0
      try clear hfz42_1
      try clear hfz42_2
      try clear hfz42_3
      try clear hfz47_0
      try clear hfz47_1
      try clear hfz47_2
      try clear hfz47_3
      try clear hx250_0
      try clear hx250_1
      try clear hx250_2
      try clear hx250_3
      try clear p2
      try clear p250
      try clear q250
      obtain ⟨kq, x52_47, rfl, HA, HJ47, HO_250000, HO_250001, BK240, BK241, BK249, HB⟩ := hcut
      cases kq with
      | zero => exact absurd HA.out (by simp [impl_Issue.j2])
      | succ kj47 =>
       have H := HA.out
       clear HA
       simp only [impl_Issue.j2] at H
       by_cases c51 : x52_47 = true
       ·subst c51
        have H1 : (some (t243, t246, 3)) = some (r1, r2, r3) := by rw [if_pos rfl] at H; exact H
        clear H
        have H := H1
        clear H1
        simp only [Option.some.injEq, Prod.mk.injEq] at H
        obtain ⟨rfl, rfl, rfl⟩ := H
        have hnb52 := NB249_240.out
        have hnc52 := NB240_249.out
        have hnb53 := NB249_241.out
        have hnc53 := NB241_249.out
        have hcz54_0 : wc.cell? ⟨gb249, 0, none⟩ = some (.slice Ao16 t243.length co16) := (blk_cell BK249.out 0).trans rfl
        have hcz54_1 : wc.cell? ⟨gb249, 1, none⟩ = some (.slice Ao20 t246.length co20) := (blk_cell BK249.out 1).trans rfl
        have hfz54_0 := blk_frozen BK249.out 0
        have hfz54_1 := blk_frozen BK249.out 1
        have hnb55 := NB241_240.out
        have hnc55 := NB240_241.out
        have hcz56_0 : wc.cell? ⟨gb241, 0, none⟩ = some (.slice none 0 0) := (blk_cell BK241.out 0).trans rfl
        have hcz56_1 : wc.cell? ⟨gb241, 1, none⟩ = some (.slice none 0 0) := (blk_cell BK241.out 1).trans rfl
        have hfz56_0 := blk_frozen BK241.out 0
        have hfz56_1 := blk_frozen BK241.out 1
        go_wp2
        refine bodyPost_ret (results_ct rfl _ _ gb241 30 #[.slice Ao16 t243.length co16, .slice Ao20 t246.length co20] (0, 0) _ rfl (by (with_reducible repeat (first | refine blk_drewN ?_ _ | refine blk_drew ?_ | refine blk_alloc ?_ _)); refine blk_put (cs := #[.slice Ao16 t243.length co16, .slice none 0 0]) ?_ 1 _ rfl; (with_reducible repeat (first | refine blk_drewN ?_ _ | refine blk_drew ?_ | refine blk_alloc ?_ _)); refine blk_put (cs := #[.slice none 0 0, .slice none 0 0]) ?_ 0 _ rfl; (with_reducible repeat (first | refine blk_drewN ?_ _ | refine blk_drew ?_ | refine blk_alloc ?_ _)); exact BK241.out) Try.underlying30 rfl kZ) rfl ?_
        exact ⟨_, _, tZC, by (with_reducible repeat (first | apply Kd.R_alloc | apply Kd.R_drewN | apply Kd.R_drew)); exact Kd.R_mono (Kd.R_far (p := ⟨gb241, 1, none⟩) (Kd.R_far (p := ⟨gb241, 0, none⟩) (Kd.R_types HO_250000.out BK241.out (by decide)) (fun _ hk => hk.2) (.slice Ao16 t243.length co16)) (fun _ hk => hk.2) (.slice Ao20 t246.length co20)) (fun _ hk => trivial), by (with_reducible repeat (first | apply Kd.R_alloc | apply Kd.R_drewN | apply Kd.R_drew)); exact Kd.R_mono (Kd.R_far (p := ⟨gb241, 1, none⟩) (Kd.R_far (p := ⟨gb241, 0, none⟩) (Kd.R_types HO_250001.out BK241.out (by decide)) (fun _ hk => hk.2) (.slice Ao16 t243.length co16)) (fun _ hk => hk.2) (.slice Ao20 t246.length co20)) (fun _ hk => trivial), bZ⟩
       replace c51 := Bool.eq_false_iff.mpr c51
       subst c51
       have H1 : (if (l0_1.length : Int) = 400 then (some (t243, t246, 4)) else ((impl_digitsIn.f kj47 x9_2).bind fun t253 => (if 0 ≤ a1 then (if a1 < (l0_0.length : Int) then (if t253 > ((rd_T124 l0_0 a1).f1) then (some (t243, t246, 4)) else (if t246.length < 4398046511104 then (some (t243, (t246 ++ [(⟨a1, x9_2, a2, false⟩ : S120)]), 0)) else (none))) else (none)) else (none)))) = some (r1, r2, r3) := by rw [if_neg (show ¬ (false = true) by decide)] at H; exact H
       clear H
       have H := H1
       clear H1
       by_cases c57 : (l0_1.length : Int) = 400
       ·rw [if_pos c57] at H
        have c57b0 : ((l0_1.length : Int) == 400) = true := beq_iff_eq.mpr c57
        have c57b1 : ((l0_1.length : Int) != 400) = false := bne_eq_false_iff_eq.mpr c57
        clear c57
        simp only [Option.some.injEq, Prod.mk.injEq] at H
        obtain ⟨rfl, rfl, rfl⟩ := H
        try go_wp2
        replace HO_250000 := aZ (Kd.R_drew HO_250000.out)
        replace HO_250001 := aZ (Kd.R_drew HO_250001.out)
        replace BK240 := aZ (blk_drew BK240.out)
        replace BK241 := aZ (blk_drew BK241.out)
        replace BK249 := aZ (blk_drew BK249.out)
        replace HB := aZ (below_drew1 HB.out)
        refine start_ (n := 15) (S := fun w' => w'.cell? ⟨gb240, 0, none⟩ = some (.slice A0_0 l0_0.length c0_0) ∧ w'.cell? ⟨gb240, 1, none⟩ = some (.slice A0_1 l0_1.length c0_1)) (ds := []) L0' kZ rfl rfl ⟨(blk_cell BK240.out 0).trans rfl, (blk_cell BK240.out 1).trans rfl⟩ (fun hHeld => ?_); refine with_tabW impl_Issue.tab16 impl_Issue.bits16 (fun HT_ HW_ => ?_)
        generalize wc.drew = w58 at HO_250000 HO_250001 BK240 BK241 BK249 HB hHeld ⊢
        refine pure_ (i := 0) (N := some 54) (v := ?_) (a' := ?_) L1' rfl rfl (any_of HT_.out kZ) (fun _ _ _ h => h) (Or.inl ⟨by rfl, ?_⟩) ?_ ?_
        rotate_left
        ·intro w'
         go_simp
         with_reducible rfl
        rotate_left
        ·simp only [Act.put, sZ1, sZ2, sZ3, i64_w, i32_w]
         rfl
        refine take_ (i := 1) (N := some 55) (v := ?_) (a' := ?_) L2' rfl rfl (take_ofW HT_.out HW_.out kZ) (fun _ _ _ h => h) (Or.inl ⟨by rfl, ?_⟩) hHeld ?_ ?_
        rotate_left
        ·rintro w' ⟨s0, s1⟩
         go_simp
         with_reducible rfl
        rotate_left
        ·simp only [Act.put, sZ1, sZ2, sZ3, i64_w, i32_w]
         rfl
        refine pure_ (i := 2) (N := some 56) (v := ?_) (a' := ?_) L3' rfl rfl (any_of HT_.out kZ) (fun _ _ _ h => h) (Or.inl ⟨by rfl, ?_⟩) ?_ ?_
        rotate_left
        ·intro w'
         go_simp
         with_reducible rfl
        rotate_left
        ·simp only [Act.put, sZ1, sZ2, sZ3, i64_w, i32_w]
         rfl
        refine pure_ (i := 3) (N := some 57) (v := ?_) (a' := ?_) L4' rfl rfl (any_of HT_.out kZ) (fun _ _ _ h => h) (Or.inl ⟨by rfl, ?_⟩) ?_ ?_
        rotate_left
        ·intro w'
         go_simp
         with_reducible rfl
        rotate_left
        ·simp only [Act.put, sZ1, sZ2, sZ3, i64_w, i32_w]
         rfl
        refine pure_ (i := 4) (N := some 58) (v := ?_) (a' := ?_) L5' rfl rfl (any_of HT_.out kZ) (fun _ _ _ h => h) (Or.inl ⟨by rfl, ?_⟩) ?_ ?_
        rotate_left
        ·intro w'
         go_simp
         with_reducible rfl
        rotate_left
        ·simp only [Act.put, sZ1, sZ2, sZ3, i64_w, i32_w]
         rfl
        refine pure_ (i := 5) (N := some 59) (v := undef) (a' := ?_) L6' rfl rfl (any_of HT_.out kZ) (fun _ _ _ h => h) (Or.inr ⟨by rfl, rfl⟩) ?_ ?_
        rotate_left
        ·simp only [Act.put, sZ1, sZ2, sZ3, i64_w, i32_w]
         rfl
        refine pure_ (i := 6) (N := some 60) (v := undef) (a' := ?_) L7' rfl rfl (any_of HT_.out kZ) (fun _ _ _ h => h) (Or.inr ⟨by rfl, rfl⟩) ?_ ?_
        rotate_left
        ·simp only [Act.put, sZ1, sZ2, sZ3, i64_w, i32_w]
         rfl
        refine pure_ (i := 7) (N := some 61) (v := undef) (a' := ?_) L8' rfl rfl (any_of HT_.out kZ) (fun _ _ _ h => h) (Or.inr ⟨by rfl, rfl⟩) ?_ ?_
        rotate_left
        ·simp only [Act.put, sZ1, sZ2, sZ3, i64_w, i32_w]
         rfl
        refine pure_ (i := 8) (N := some 62) (v := undef) (a' := ?_) L9' rfl rfl (any_of HT_.out kZ) (fun _ _ _ h => h) (Or.inr ⟨by rfl, rfl⟩) ?_ ?_
        rotate_left
        ·simp only [Act.put, sZ1, sZ2, sZ3, i64_w, i32_w]
         rfl
        refine pure_ (i := 9) (N := some 63) (v := undef) (a' := ?_) L10' rfl rfl (any_of HT_.out kZ) (fun _ _ _ h => h) (Or.inr ⟨by rfl, rfl⟩) ?_ ?_
        rotate_left
        ·simp only [Act.put, sZ1, sZ2, sZ3, i64_w, i32_w]
         rfl
        refine pure_ (i := 10) (N := some 64) (v := undef) (a' := ?_) L11' rfl rfl (any_of HT_.out kZ) (fun _ _ _ h => h) (Or.inr ⟨by rfl, rfl⟩) ?_ ?_
        rotate_left
        ·simp only [Act.put, sZ1, sZ2, sZ3, i64_w, i32_w]
         rfl
        refine pure_ (i := 11) (N := some 65) (v := undef) (a' := ?_) L12' rfl rfl (any_of HT_.out kZ) (fun _ _ _ h => h) (Or.inr ⟨by rfl, rfl⟩) ?_ ?_
        rotate_left
        ·simp only [Act.put, sZ1, sZ2, sZ3, i64_w, i32_w]
         rfl
        refine pure_ (i := 12) (N := some 66) (v := undef) (a' := ?_) L13' rfl rfl (any_of HT_.out kZ) (fun _ _ _ h => h) (Or.inr ⟨by rfl, rfl⟩) ?_ ?_
        rotate_left
        ·simp only [Act.put, sZ1, sZ2, sZ3, i64_w, i32_w]
         rfl
        refine pure_ (i := 13) (N := some 67) (v := undef) (a' := ?_) L14' rfl rfl (any_of HT_.out kZ) (fun _ _ _ h => h) (Or.inr ⟨by rfl, rfl⟩) ?_ ?_
        rotate_left
        ·simp only [Act.put, sZ1, sZ2, sZ3, i64_w, i32_w]
         rfl
        refine pure_ (i := 14) (N := some 68) (v := ?_) (a' := ?_) L15' rfl rfl (any_of HT_.out kZ) (fun _ _ _ h => h) (Or.inl ⟨by rfl, ?_⟩) ?_ ?_
        rotate_left
        ·intro w'
         go_simp
         with_reducible rfl
        rotate_left
        ·simp only [Act.put, sZ1, sZ2, sZ3, i64_w, i32_w]
         rfl
        refine done_ (done_of HT_.out kZ) ?_
        have hnb59 := NB249_240.out
        have hnc59 := NB240_249.out
        have hnb60 := NB249_241.out
        have hnc60 := NB241_249.out
        have hcz61_0 : w58.cell? ⟨gb249, 0, none⟩ = some (.slice Ao16 t243.length co16) := (blk_cell BK249.out 0).trans rfl
        have hcz61_1 : w58.cell? ⟨gb249, 1, none⟩ = some (.slice Ao20 t246.length co20) := (blk_cell BK249.out 1).trans rfl
        have hfz61_0 := blk_frozen BK249.out 0
        have hfz61_1 := blk_frozen BK249.out 1
        have hnb62 := NB241_240.out
        have hnc62 := NB240_241.out
        have hcz63_0 : w58.cell? ⟨gb241, 0, none⟩ = some (.slice none 0 0) := (blk_cell BK241.out 0).trans rfl
        have hcz63_1 : w58.cell? ⟨gb241, 1, none⟩ = some (.slice none 0 0) := (blk_cell BK241.out 1).trans rfl
        have hfz63_0 := blk_frozen BK241.out 0
        have hfz63_1 := blk_frozen BK241.out 1
        try go_wp2
        refine bodyPost_ret (results_ct rfl _ _ gb241 30 #[.slice Ao16 t243.length co16, .slice Ao20 t246.length co20] (0, 0) _ rfl (by (with_reducible repeat (first | refine blk_drewN ?_ _ | refine blk_drew ?_ | refine blk_alloc ?_ _)); refine blk_put (cs := #[.slice Ao16 t243.length co16, .slice none 0 0]) ?_ 1 _ rfl; (with_reducible repeat (first | refine blk_drewN ?_ _ | refine blk_drew ?_ | refine blk_alloc ?_ _)); refine blk_put (cs := #[.slice none 0 0, .slice none 0 0]) ?_ 0 _ rfl; (with_reducible repeat (first | refine blk_drewN ?_ _ | refine blk_drew ?_ | refine blk_alloc ?_ _)); exact BK241.out) Try.underlying30 rfl kZ) rfl ?_
        exact ⟨_, _, tZC, by (with_reducible repeat (first | apply Kd.R_alloc | apply Kd.R_drewN | apply Kd.R_drew)); exact Kd.R_mono (Kd.R_far (p := ⟨gb241, 1, none⟩) (Kd.R_far (p := ⟨gb241, 0, none⟩) (Kd.R_types HO_250000.out BK241.out (by decide)) (fun _ hk => hk.2) (.slice Ao16 t243.length co16)) (fun _ hk => hk.2) (.slice Ao20 t246.length co20)) (fun _ hk => trivial), by (with_reducible repeat (first | apply Kd.R_alloc | apply Kd.R_drewN | apply Kd.R_drew)); exact Kd.R_mono (Kd.R_far (p := ⟨gb241, 1, none⟩) (Kd.R_far (p := ⟨gb241, 0, none⟩) (Kd.R_types HO_250001.out BK241.out (by decide)) (fun _ hk => hk.2) (.slice Ao16 t243.length co16)) (fun _ hk => hk.2) (.slice Ao20 t246.length co20)) (fun _ hk => trivial), bZ⟩
       rw [if_neg c57] at H
       have c57b0 : ((l0_1.length : Int) == 400) = false := beq_eq_false_iff_ne.mpr c57
       have c57b1 : ((l0_1.length : Int) != 400) = true := bne_iff_ne.mpr c57
       replace H := Option.bind_eq_some_iff.mp H
       obtain ⟨t253, A640, H⟩ := H
       replace H : (if 0 ≤ a1 then (if a1 < (l0_0.length : Int) then (if t253 > ((rd_T124 l0_0 a1).f1) then (some (t243, t246, 4)) else (if t246.length < 4398046511104 then (some (t243, (t246 ++ [(⟨a1, x9_2, a2, false⟩ : S120)]), 0)) else (none))) else (none)) else (none)) = some (r1, r2, r3) := H
       have A64 := Aside0.mk A640
       clear A640
       by_cases c65 : 0 ≤ a1
       rotate_left
       ·rw [if_neg c65] at H
        exact absurd H (by simp)
       rw [if_pos c65] at H
       have c65b0 := decide_eq_true c65
       clear c65
       by_cases c66 : a1 < (l0_0.length : Int)
       rotate_left
       ·rw [if_neg c66] at H
        exact absurd H (by simp)
       rw [if_pos c66] at H
       have c66b0 := decide_eq_true c66
       clear c66
       by_cases c67 : t253 > ((rd_T124 l0_0 a1).f1)
       ·rw [if_pos c67] at H
        have c67b0 : decide (((rd_T124 l0_0 a1).f1) < t253) = true := decide_eq_true c67
        clear c67
        simp only [Option.some.injEq, Prod.mk.injEq] at H
        obtain ⟨rfl, rfl, rfl⟩ := H
        try go_wp2
        replace HO_250000 := aZ (Kd.R_drew HO_250000.out)
        replace HO_250001 := aZ (Kd.R_drew HO_250001.out)
        replace BK240 := aZ (blk_drew BK240.out)
        replace BK241 := aZ (blk_drew BK241.out)
        replace BK249 := aZ (blk_drew BK249.out)
        replace HB := aZ (below_drew1 HB.out)
        have p254 : 0 ≤ (a1 : Int) := of_decide_eq_true tZE
        have q254 : a1 < (l0_0.length : Int) := of_decide_eq_true tZE
        obtain ⟨ad254, e254, hx254_0, hx254_1⟩ := at_T124 HR0_0.out a1 p254 q254
        have hw254_1 := hx254_1
        have hw254_0 := hx254_0
        cases e254
        replace hx254_0 := cZ HB hx254_0
        replace hx254_1 := cZ HB hx254_1
        replace p254 := eq_true p254
        replace q254 := eq_true q254
        refine start_ (n := 15) (S := fun w' => w'.cell? ⟨gb240, 0, none⟩ = some (.slice (some ad254) l0_0.length c0_0) ∧ w'.cell? ⟨gb240, 1, none⟩ = some (.slice A0_1 l0_1.length c0_1) ∧ w'.cell? (ad254.add ((a1).toNat * 2)) = some (.string ((rd_T124 l0_0 a1).f0)) ∧ w'.cell? ⟨(ad254.add ((a1).toNat * 2)).block, (ad254.add ((a1).toNat * 2)).off + 1, none⟩ = some (.int .i64 ((rd_T124 l0_0 a1).f1))) (ds := []) L0' kZ rfl rfl ⟨(blk_cell BK240.out 0).trans rfl, (blk_cell BK240.out 1).trans rfl, ((HB.out.cell (World.block_lt_of_cell? w _ hw254_0)).trans hw254_0), ((HB.out.cell (World.block_lt_of_cell? w _ hw254_1)).trans hw254_1)⟩ (fun hHeld => ?_); refine with_tabW impl_Issue.tab16 impl_Issue.bits16 (fun HT_ HW_ => ?_)
        generalize wc.drew = w68 at HO_250000 HO_250001 BK240 BK241 BK249 HB hx254_0 hx254_1 hHeld ⊢
        refine pure_ (i := 0) (N := some 54) (v := ?_) (a' := ?_) L1' rfl rfl (any_of HT_.out kZ) (fun _ _ _ h => h) (Or.inl ⟨by rfl, ?_⟩) ?_ ?_
        rotate_left
        ·intro w'
         go_simp
         with_reducible rfl
        rotate_left
        ·simp only [Act.put, sZ1, sZ2, sZ3, i64_w, i32_w]
         rfl
        refine take_ (i := 1) (N := some 55) (v := ?_) (a' := ?_) L2' rfl rfl (take_ofW HT_.out HW_.out kZ) (fun _ _ _ h => h) (Or.inl ⟨by rfl, ?_⟩) hHeld ?_ ?_
        rotate_left
        ·rintro w' ⟨s0, s1, s2, s3⟩
         go_simp
         with_reducible rfl
        rotate_left
        ·simp only [Act.put, sZ1, sZ2, sZ3, i64_w, i32_w]
         rfl
        refine pure_ (i := 2) (N := some 56) (v := ?_) (a' := ?_) L3' rfl rfl (any_of HT_.out kZ) (fun _ _ _ h => h) (Or.inl ⟨by rfl, ?_⟩) ?_ ?_
        rotate_left
        ·intro w'
         go_simp
         with_reducible rfl
        rotate_left
        ·simp only [Act.put, sZ1, sZ2, sZ3, i64_w, i32_w]
         rfl
        refine pure_ (i := 3) (N := some 57) (v := ?_) (a' := ?_) L4' rfl rfl (any_of HT_.out kZ) (fun _ _ _ h => h) (Or.inl ⟨by rfl, ?_⟩) ?_ ?_
        rotate_left
        ·intro w'
         go_simp
         with_reducible rfl
        rotate_left
        ·simp only [Act.put, sZ1, sZ2, sZ3, i64_w, i32_w]
         rfl
        refine pure_ (i := 4) (N := some 58) (v := ?_) (a' := ?_) L5' rfl rfl (any_of HT_.out kZ) (fun _ _ _ h => h) (Or.inl ⟨by rfl, ?_⟩) ?_ ?_
        rotate_left
        ·intro w'
         go_simp
         with_reducible rfl
        rotate_left
        ·simp only [Act.put, sZ1, sZ2, sZ3, i64_w, i32_w]
         rfl
        refine pure_ (i := 5) (N := some 59) (v := ?_) (a' := ?_) L6' rfl rfl (any_of HT_.out kZ) (fun _ _ _ h => h) (Or.inl ⟨by rfl, ?_⟩) ?_ ?_
        rotate_left
        ·intro w'
         go_simp
         with_reducible rfl
        rotate_left
        ·simp only [Act.put, sZ1, sZ2, sZ3, i64_w, i32_w]
         rfl
        refine pure_ (i := 7) (N := some 61) (v := ?_) (a' := ?_) L16' rfl rfl (any_of HT_.out kZ) (fun _ _ _ h => h) (Or.inl ⟨by rfl, ?_⟩) ?_ ?_
        rotate_left
        ·intro w'
         go_simp
         with_reducible rfl
        rotate_left
        ·simp only [Act.put, sZ1, sZ2, sZ3, i64_w, i32_w]
         rfl
        refine pure_ (i := 9) (N := some 63) (v := ?_) (a' := ?_) L17' rfl rfl (any_of HT_.out kZ) (fun _ _ _ h => h) (Or.inl ⟨by rfl, ?_⟩) ?_ ?_
        rotate_left
        ·intro w'
         go_simp
         with_reducible rfl
        rotate_left
        ·simp only [Act.put, sZ1, sZ2, sZ3, i64_w, i32_w]
         rfl
        refine take_ (i := 8) (N := some 62) (v := ?_) (a' := ?_) L18' rfl rfl (take_ofW HT_.out HW_.out kZ) (fun _ _ _ h => h) (Or.inl ⟨by rfl, ?_⟩) hHeld ?_ ?_
        rotate_left
        ·rintro w' ⟨s0, s1, s2, s3⟩
         go_simp
         with_reducible rfl
        rotate_left
        ·simp only [Act.put, sZ1, sZ2, sZ3, i64_w, i32_w]
         rfl
        refine pure_ (i := 10) (N := some 64) (v := ?_) (a' := ?_) L19' rfl rfl (any_of HT_.out kZ) (fun _ _ _ h => h) (Or.inl ⟨by rfl, ?_⟩) ?_ ?_
        rotate_left
        ·intro w'
         go_simp
         with_reducible rfl
        rotate_left
        ·simp only [Act.put, sZ1, sZ2, sZ3, i64_w, i32_w]
         rfl
        refine pure_ (i := 11) (N := some 65) (v := ?_) (a' := ?_) L20' rfl rfl (any_of HT_.out kZ) (fun _ _ _ h => h) (Or.inl ⟨by rfl, ?_⟩) ?_ ?_
        rotate_left
        ·intro w'
         go_simp
         with_reducible rfl
        rotate_left
        ·simp only [Act.put, sZ1, sZ2, sZ3, i64_w, i32_w]
         rfl
        refine take_ (i := 12) (N := some 66) (v := ?_) (a' := ?_) L21' rfl rfl (take_ofW HT_.out HW_.out kZ) (fun _ _ _ h => h) (Or.inl ⟨by rfl, ?_⟩) hHeld ?_ ?_
        rotate_left
        ·rintro w' ⟨s0, s1, s2, s3⟩
         go_simp
         with_reducible rfl
        rotate_left
        ·simp only [Act.put, sZ1, sZ2, sZ3, i64_w, i32_w]
         rfl
        refine one_ (i := 6) (N := some 60) L13' rfl rfl (one_of HT_.out kZ) (by decide) (fun K hK => ?_)
        refine goes_ Try.func79 kZ rfl #[.int .i64 x9_2] (by rfl) rfl rfl tZA ?_
        with_reducible refine (impl_digitsIn.calls kj47 x9_2 t253 _ A64.out).mono ?_
        rintro e w69 ⟨rfl, hb⟩
        refine ⟨_, rfl, ?_⟩
        replace HO_250000 := aZ (Kd.R_below (lZR HO_250000.out) hb)
        replace HO_250001 := aZ (Kd.R_below (lZR HO_250001.out) hb)
        replace BK240 := aZ (blk_below (bkZ BK240.out) hb)
        replace BK241 := aZ (blk_below (bkZ BK241.out) hb)
        replace BK249 := aZ (blk_below (bkZ BK249.out) hb)
        replace HB := aZ (below_step bZ hb)
        (try clear hb)
        (try clear hb2)
        (try clear hk)
        (try clear hi)
        refine hK.out _ _ ⟨(blk_cell BK240.out 0).trans rfl, (blk_cell BK240.out 1).trans rfl, ((HB.out.cell (World.block_lt_of_cell? w _ hw254_0)).trans hw254_0), ((HB.out.cell (World.block_lt_of_cell? w _ hw254_1)).trans hw254_1)⟩ (fun hHeld => ?_)
        clear hK K
        refine norm_ (a' := ?_) ?_ ?_
        rotate_left
        ·show Act.put _ (some 60) _ = _
         simp only [Act.put, sZ1, sZ2, sZ3, i64_w, i32_w]
         rfl
        refine pure_ (i := 13) (N := some 67) (v := ?_) (a' := ?_) L14' rfl rfl (any_of HT_.out kZ) (fun _ _ _ h => h) (Or.inl ⟨by rfl, ?_⟩) ?_ ?_
        rotate_left
        ·intro w'
         go_simp
         with_reducible rfl
        rotate_left
        ·simp only [Act.put, sZ1, sZ2, sZ3, i64_w, i32_w]
         rfl
        refine pure_ (i := 14) (N := some 68) (v := ?_) (a' := ?_) L15' rfl rfl (any_of HT_.out kZ) (fun _ _ _ h => h) (Or.inl ⟨by rfl, ?_⟩) ?_ ?_
        rotate_left
        ·intro w'
         go_simp
         with_reducible rfl
        rotate_left
        ·simp only [Act.put, sZ1, sZ2, sZ3, i64_w, i32_w]
         rfl
        refine done_ (done_of HT_.out kZ) ?_
        have hnb70 := NB249_240.out
        have hnc70 := NB240_249.out
        have hnb71 := NB249_241.out
        have hnc71 := NB241_249.out
        have hcz72_0 : w69.cell? ⟨gb249, 0, none⟩ = some (.slice Ao16 t243.length co16) := (blk_cell BK249.out 0).trans rfl
        have hcz72_1 : w69.cell? ⟨gb249, 1, none⟩ = some (.slice Ao20 t246.length co20) := (blk_cell BK249.out 1).trans rfl
        have hfz72_0 := blk_frozen BK249.out 0
        have hfz72_1 := blk_frozen BK249.out 1
        have hnb73 := NB241_240.out
        have hnc73 := NB240_241.out
        have hcz74_0 : w69.cell? ⟨gb241, 0, none⟩ = some (.slice none 0 0) := (blk_cell BK241.out 0).trans rfl
        have hcz74_1 : w69.cell? ⟨gb241, 1, none⟩ = some (.slice none 0 0) := (blk_cell BK241.out 1).trans rfl
        have hfz74_0 := blk_frozen BK241.out 0
        have hfz74_1 := blk_frozen BK241.out 1
        try go_wp2
        refine bodyPost_ret (results_ct rfl _ _ gb241 30 #[.slice Ao16 t243.length co16, .slice Ao20 t246.length co20] (0, 0) _ rfl (by (with_reducible repeat (first | refine blk_drewN ?_ _ | refine blk_drew ?_ | refine blk_alloc ?_ _)); refine blk_put (cs := #[.slice Ao16 t243.length co16, .slice none 0 0]) ?_ 1 _ rfl; (with_reducible repeat (first | refine blk_drewN ?_ _ | refine blk_drew ?_ | refine blk_alloc ?_ _)); refine blk_put (cs := #[.slice none 0 0, .slice none 0 0]) ?_ 0 _ rfl; (with_reducible repeat (first | refine blk_drewN ?_ _ | refine blk_drew ?_ | refine blk_alloc ?_ _)); exact BK241.out) Try.underlying30 rfl kZ) rfl ?_
        exact ⟨_, _, tZC, by (with_reducible repeat (first | apply Kd.R_alloc | apply Kd.R_drewN | apply Kd.R_drew)); exact Kd.R_mono (Kd.R_far (p := ⟨gb241, 1, none⟩) (Kd.R_far (p := ⟨gb241, 0, none⟩) (Kd.R_types HO_250000.out BK241.out (by decide)) (fun _ hk => hk.2) (.slice Ao16 t243.length co16)) (fun _ hk => hk.2) (.slice Ao20 t246.length co20)) (fun _ hk => trivial), by (with_reducible repeat (first | apply Kd.R_alloc | apply Kd.R_drewN | apply Kd.R_drew)); exact Kd.R_mono (Kd.R_far (p := ⟨gb241, 1, none⟩) (Kd.R_far (p := ⟨gb241, 0, none⟩) (Kd.R_types HO_250001.out BK241.out (by decide)) (fun _ hk => hk.2) (.slice Ao16 t243.length co16)) (fun _ hk => hk.2) (.slice Ao20 t246.length co20)) (fun _ hk => trivial), bZ⟩
       rw [if_neg c67] at H
       have c67b0 : decide (((rd_T124 l0_0 a1).f1) < t253) = false := decide_eq_false c67
       clear c67
       by_cases c75 : t246.length < 4398046511104
       rotate_left
       ·rw [if_neg c75] at H
        exact absurd H (by simp)
       rw [if_pos c75] at H
       have LMc75 := Aside0.mk c75
       clear c75
       obtain ⟨y255, hy255⟩ : ∃ y_ : List (S120), y_ = (t246 ++ [(⟨a1, x9_2, a2, false⟩ : S120)]) := ⟨_, rfl⟩
       replace H : (some (t243, y255, 0)) = some (r1, r2, r3) := by first | (rw [hy255]; with_reducible exact H) | (have H2_ := (Option.bind_some _ _).symm.trans H; rw [hy255]; with_reducible exact H2_) | (have H2_ := (Option.bind_some _ _).symm.trans H; with_reducible exact H2_) | with_reducible exact H | (rw [hy255]; exact H) | exact H
       have Ny255 := Aside0.mk hy255
       clear hy255
       simp only [Option.some.injEq, Prod.mk.injEq] at H
       obtain ⟨rfl, rfl, rfl⟩ := H
       try go_wp2
       replace HO_250000 := aZ (Kd.R_drew HO_250000.out)
       replace HO_250001 := aZ (Kd.R_drew HO_250001.out)
       replace BK240 := aZ (blk_drew BK240.out)
       replace BK241 := aZ (blk_drew BK241.out)
       replace BK249 := aZ (blk_drew BK249.out)
       replace HB := aZ (below_drew1 HB.out)
       have p254 : 0 ≤ (a1 : Int) := of_decide_eq_true tZE
       have q254 : a1 < (l0_0.length : Int) := of_decide_eq_true tZE
       obtain ⟨ad254, e254, hx254_0, hx254_1⟩ := at_T124 HR0_0.out a1 p254 q254
       have hw254_1 := hx254_1
       have hw254_0 := hx254_0
       cases e254
       replace hx254_0 := cZ HB hx254_0
       replace hx254_1 := cZ HB hx254_1
       replace p254 := eq_true p254
       replace q254 := eq_true q254
       refine start_ (n := 15) (S := fun w' => w'.cell? ⟨gb240, 0, none⟩ = some (.slice (some ad254) l0_0.length c0_0) ∧ w'.cell? ⟨gb240, 1, none⟩ = some (.slice A0_1 l0_1.length c0_1) ∧ w'.cell? (ad254.add ((a1).toNat * 2)) = some (.string ((rd_T124 l0_0 a1).f0)) ∧ w'.cell? ⟨(ad254.add ((a1).toNat * 2)).block, (ad254.add ((a1).toNat * 2)).off + 1, none⟩ = some (.int .i64 ((rd_T124 l0_0 a1).f1))) (ds := []) L0' kZ rfl rfl ⟨(blk_cell BK240.out 0).trans rfl, (blk_cell BK240.out 1).trans rfl, ((HB.out.cell (World.block_lt_of_cell? w _ hw254_0)).trans hw254_0), ((HB.out.cell (World.block_lt_of_cell? w _ hw254_1)).trans hw254_1)⟩ (fun hHeld => ?_); refine with_tabW impl_Issue.tab16 impl_Issue.bits16 (fun HT_ HW_ => ?_)
       generalize wc.drew = w76 at HO_250000 HO_250001 BK240 BK241 BK249 HB hx254_0 hx254_1 hHeld ⊢
       refine pure_ (i := 0) (N := some 54) (v := ?_) (a' := ?_) L1' rfl rfl (any_of HT_.out kZ) (fun _ _ _ h => h) (Or.inl ⟨by rfl, ?_⟩) ?_ ?_
       rotate_left
       ·intro w'
        go_simp
        with_reducible rfl
       rotate_left
       ·simp only [Act.put, sZ1, sZ2, sZ3, i64_w, i32_w]
        rfl
       refine take_ (i := 1) (N := some 55) (v := ?_) (a' := ?_) L2' rfl rfl (take_ofW HT_.out HW_.out kZ) (fun _ _ _ h => h) (Or.inl ⟨by rfl, ?_⟩) hHeld ?_ ?_
       rotate_left
       ·rintro w' ⟨s0, s1, s2, s3⟩
        go_simp
        with_reducible rfl
       rotate_left
       ·simp only [Act.put, sZ1, sZ2, sZ3, i64_w, i32_w]
        rfl
       refine pure_ (i := 2) (N := some 56) (v := ?_) (a' := ?_) L3' rfl rfl (any_of HT_.out kZ) (fun _ _ _ h => h) (Or.inl ⟨by rfl, ?_⟩) ?_ ?_
       rotate_left
       ·intro w'
        go_simp
        with_reducible rfl
       rotate_left
       ·simp only [Act.put, sZ1, sZ2, sZ3, i64_w, i32_w]
        rfl
       refine pure_ (i := 3) (N := some 57) (v := ?_) (a' := ?_) L4' rfl rfl (any_of HT_.out kZ) (fun _ _ _ h => h) (Or.inl ⟨by rfl, ?_⟩) ?_ ?_
       rotate_left
       ·intro w'
        go_simp
        with_reducible rfl
       rotate_left
       ·simp only [Act.put, sZ1, sZ2, sZ3, i64_w, i32_w]
        rfl
       refine pure_ (i := 4) (N := some 58) (v := ?_) (a' := ?_) L5' rfl rfl (any_of HT_.out kZ) (fun _ _ _ h => h) (Or.inl ⟨by rfl, ?_⟩) ?_ ?_
       rotate_left
       ·intro w'
        go_simp
        with_reducible rfl
       rotate_left
       ·simp only [Act.put, sZ1, sZ2, sZ3, i64_w, i32_w]
        rfl
       refine pure_ (i := 5) (N := some 59) (v := ?_) (a' := ?_) L6' rfl rfl (any_of HT_.out kZ) (fun _ _ _ h => h) (Or.inl ⟨by rfl, ?_⟩) ?_ ?_
       rotate_left
       ·intro w'
        go_simp
        with_reducible rfl
       rotate_left
       ·simp only [Act.put, sZ1, sZ2, sZ3, i64_w, i32_w]
        rfl
       refine pure_ (i := 7) (N := some 61) (v := ?_) (a' := ?_) L16' rfl rfl (any_of HT_.out kZ) (fun _ _ _ h => h) (Or.inl ⟨by rfl, ?_⟩) ?_ ?_
       rotate_left
       ·intro w'
        go_simp
        with_reducible rfl
       rotate_left
       ·simp only [Act.put, sZ1, sZ2, sZ3, i64_w, i32_w]
        rfl
       refine pure_ (i := 9) (N := some 63) (v := ?_) (a' := ?_) L17' rfl rfl (any_of HT_.out kZ) (fun _ _ _ h => h) (Or.inl ⟨by rfl, ?_⟩) ?_ ?_
       rotate_left
       ·intro w'
        go_simp
        with_reducible rfl
       rotate_left
       ·simp only [Act.put, sZ1, sZ2, sZ3, i64_w, i32_w]
        rfl
       refine take_ (i := 8) (N := some 62) (v := ?_) (a' := ?_) L18' rfl rfl (take_ofW HT_.out HW_.out kZ) (fun _ _ _ h => h) (Or.inl ⟨by rfl, ?_⟩) hHeld ?_ ?_
       rotate_left
       ·rintro w' ⟨s0, s1, s2, s3⟩
        go_simp
        with_reducible rfl
       rotate_left
       ·simp only [Act.put, sZ1, sZ2, sZ3, i64_w, i32_w]
        rfl
       refine pure_ (i := 10) (N := some 64) (v := ?_) (a' := ?_) L19' rfl rfl (any_of HT_.out kZ) (fun _ _ _ h => h) (Or.inl ⟨by rfl, ?_⟩) ?_ ?_
       rotate_left
       ·intro w'
        go_simp
        with_reducible rfl
       rotate_left
       ·simp only [Act.put, sZ1, sZ2, sZ3, i64_w, i32_w]
        rfl
       refine pure_ (i := 11) (N := some 65) (v := ?_) (a' := ?_) L20' rfl rfl (any_of HT_.out kZ) (fun _ _ _ h => h) (Or.inl ⟨by rfl, ?_⟩) ?_ ?_
       rotate_left
       ·intro w'
        go_simp
        with_reducible rfl
       rotate_left
       ·simp only [Act.put, sZ1, sZ2, sZ3, i64_w, i32_w]
        rfl
       refine take_ (i := 12) (N := some 66) (v := ?_) (a' := ?_) L21' rfl rfl (take_ofW HT_.out HW_.out kZ) (fun _ _ _ h => h) (Or.inl ⟨by rfl, ?_⟩) hHeld ?_ ?_
       rotate_left
       ·rintro w' ⟨s0, s1, s2, s3⟩
        go_simp
        with_reducible rfl
       rotate_left
       ·simp only [Act.put, sZ1, sZ2, sZ3, i64_w, i32_w]
        rfl
       refine one_ (i := 6) (N := some 60) L13' rfl rfl (one_of HT_.out kZ) (by decide) (fun K hK => ?_)
       refine goes_ Try.func79 kZ rfl #[.int .i64 x9_2] (by rfl) rfl rfl tZA ?_
       with_reducible refine (impl_digitsIn.calls kj47 x9_2 t253 _ A64.out).mono ?_
       rintro e w77 ⟨rfl, hb⟩
       refine ⟨_, rfl, ?_⟩
       replace HO_250000 := aZ (Kd.R_below (lZR HO_250000.out) hb)
       replace HO_250001 := aZ (Kd.R_below (lZR HO_250001.out) hb)
       replace BK240 := aZ (blk_below (bkZ BK240.out) hb)
       replace BK241 := aZ (blk_below (bkZ BK241.out) hb)
       replace BK249 := aZ (blk_below (bkZ BK249.out) hb)
       replace HB := aZ (below_step bZ hb)
       (try clear hb)
       (try clear hb2)
       (try clear hk)
       (try clear hi)
       refine hK.out _ _ ⟨(blk_cell BK240.out 0).trans rfl, (blk_cell BK240.out 1).trans rfl, ((HB.out.cell (World.block_lt_of_cell? w _ hw254_0)).trans hw254_0), ((HB.out.cell (World.block_lt_of_cell? w _ hw254_1)).trans hw254_1)⟩ (fun hHeld => ?_)
       clear hK K
       refine norm_ (a' := ?_) ?_ ?_
       rotate_left
       ·show Act.put _ (some 60) _ = _
        simp only [Act.put, sZ1, sZ2, sZ3, i64_w, i32_w]
        rfl
       refine pure_ (i := 13) (N := some 67) (v := ?_) (a' := ?_) L14' rfl rfl (any_of HT_.out kZ) (fun _ _ _ h => h) (Or.inl ⟨by rfl, ?_⟩) ?_ ?_
       rotate_left
       ·intro w'
        go_simp
        with_reducible rfl
       rotate_left
       ·simp only [Act.put, sZ1, sZ2, sZ3, i64_w, i32_w]
        rfl
       refine pure_ (i := 14) (N := some 68) (v := ?_) (a' := ?_) L15' rfl rfl (any_of HT_.out kZ) (fun _ _ _ h => h) (Or.inl ⟨by rfl, ?_⟩) ?_ ?_
       rotate_left
       ·intro w'
        go_simp
        with_reducible rfl
       rotate_left
       ·simp only [Act.put, sZ1, sZ2, sZ3, i64_w, i32_w]
        rfl
       refine done_ (done_of HT_.out kZ) ?_
       have hnb78 := NB249_240.out
       have hnc78 := NB240_249.out
       have hnb79 := NB249_241.out
       have hnc79 := NB241_249.out
       have hcz80_0 : w77.cell? ⟨gb249, 0, none⟩ = some (.slice Ao16 t243.length co16) := (blk_cell BK249.out 0).trans rfl
       have hcz80_1 : w77.cell? ⟨gb249, 1, none⟩ = some (.slice Ao20 t246.length co20) := (blk_cell BK249.out 1).trans rfl
       have hfz80_0 := blk_frozen BK249.out 0
       have hfz80_1 := blk_frozen BK249.out 1
       try go_wp2_with (first | ((with_reducible refine gate_builtin (b := .append) (xs := #[.tmp 71, .tmp 76]) rfl ?_); (try (refine gate_guard (by rfl) ?_; dsimp only)); at_builtin; refine Kd.R_append k120 (w0 := w) w.heap.size rfl (.tmp 71) (.tmp 76) 28 120 (.agg #[(.int .i64 0), (.int .i64 0), (.int .i64 0), (.bool false)]) 32 rfl Try.underlying28 info120 rfl (by decide) (by omega) (.slice Ao20 t246.length co20) t246 (⟨a1, x9_2, a2, false⟩ : S120) [.int .i64 a1, .int .i64 x9_2, .int .i64 a2, .bool false] (fun _ => True) (fun _ => False) rfl rfl ?aP (fun _ hk => hk.elim) ?aF ?aO ?aB ?aS ?aL ?_; (case aP => exact k120_mkM _ _ _ (⟨a1, x9_2, a2, false⟩ : S120)); (case aB => exact bZ); (case aF => exact (fun _ _ => trivial)); (case aO => exact (lZR HO_250001.out)); (case aS => exact (below_size bZ)); (case aL => have := LMc75.out; omega); intro v256 w81 ho hb hg hat; rw [← Ny255.out] at ho; replace HO_250000 := aZ (Kd.R_over' (lZR HO_250000.out) (Kd.R_typed (lZR HO_250001.out)) (by decide) hg); replace BK240 := aZ (blk_grown (bkZ BK240.out) hg (Kd.R_ne HO_250001.out BK240.out (by decide))); replace BK241 := aZ (blk_grown (bkZ BK241.out) hg (Kd.R_ne HO_250001.out BK241.out (by decide))); replace BK249 := aZ (blk_grown (bkZ BK249.out) hg (Kd.R_ne HO_250001.out BK249.out (by decide))); replace HB := aZ (hb); have HO257 := aZ (ho); clear HO_250001; clear ho hb hg hat; obtain ⟨Ao82, co82, eo82⟩ := Kd.R_slice HO257.out; subst eo82; have hcz83_0 : w81.cell? ⟨gb249, 0, none⟩ = some (.slice Ao16 t243.length co16) := (blk_cell BK249.out 0).trans rfl; have hcz83_1 : w81.cell? ⟨gb249, 1, none⟩ = some (.slice Ao20 t246.length co20) := (blk_cell BK249.out 1).trans rfl; have hfz83_0 := blk_frozen BK249.out 0; have hfz83_1 := blk_frozen BK249.out 1; have hnb84 := NB241_240.out; have hnc84 := NB240_241.out; have hcz85_0 : w81.cell? ⟨gb241, 0, none⟩ = some (.slice none 0 0) := (blk_cell BK241.out 0).trans rfl; have hcz85_1 : w81.cell? ⟨gb241, 1, none⟩ = some (.slice none 0 0) := (blk_cell BK241.out 1).trans rfl; have hfz85_0 := blk_frozen BK241.out 0; have hfz85_1 := blk_frozen BK241.out 1))
       refine bodyPost_ret (results_ct rfl _ _ gb241 30 #[.slice Ao16 t243.length co16, .slice Ao82 y255.length co82] (0, 0) _ rfl (by (with_reducible repeat (first | refine blk_drewN ?_ _ | refine blk_drew ?_ | refine blk_alloc ?_ _)); refine blk_put (cs := #[.slice Ao16 t243.length co16, .slice none 0 0]) ?_ 1 _ rfl; (with_reducible repeat (first | refine blk_drewN ?_ _ | refine blk_drew ?_ | refine blk_alloc ?_ _)); refine blk_put (cs := #[.slice none 0 0, .slice none 0 0]) ?_ 0 _ rfl; (with_reducible repeat (first | refine blk_drewN ?_ _ | refine blk_drew ?_ | refine blk_alloc ?_ _)); refine blk_far ?_ NB241_249.out _; (with_reducible repeat (first | refine blk_drewN ?_ _ | refine blk_drew ?_ | refine blk_alloc ?_ _)); exact BK241.out) Try.underlying30 rfl kZ) rfl ?_
       exact ⟨_, _, tZC, by (with_reducible repeat (first | apply Kd.R_alloc | apply Kd.R_drewN | apply Kd.R_drew)); exact Kd.R_mono (Kd.R_far (p := ⟨gb241, 1, none⟩) (Kd.R_far (p := ⟨gb241, 0, none⟩) (Kd.R_far (p := ⟨gb249, 1, none⟩) (Kd.R_types (Kd.R_types HO_250000.out BK249.out (by decide)) BK241.out (by decide)) (fun _ hk => hk.1.2) (.slice Ao82 y255.length co82)) (fun _ hk => hk.2) (.slice Ao16 t243.length co16)) (fun _ hk => hk.2) (.slice Ao82 y255.length co82)) (fun _ hk => trivial), by (with_reducible repeat (first | apply Kd.R_alloc | apply Kd.R_drewN | apply Kd.R_drew)); exact Kd.R_mono (Kd.R_far (p := ⟨gb241, 1, none⟩) (Kd.R_far (p := ⟨gb241, 0, none⟩) (Kd.R_far (p := ⟨gb249, 1, none⟩) (Kd.R_types (Kd.R_types HO257.out BK249.out (by decide)) BK241.out (by decide)) (fun _ hk => hk.1.2) (.slice Ao82 y255.length co82)) (fun _ hk => hk.2) (.slice Ao16 t243.length co16)) (fun _ hk => hk.2) (.slice Ao82 y255.length co82)) (fun _ hk => trivial), bZ⟩
end Go.Proofs.Ytifkchkjpbpolaa.PFnExactIssue
