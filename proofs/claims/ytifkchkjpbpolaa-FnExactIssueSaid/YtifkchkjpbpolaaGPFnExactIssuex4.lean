import Derived.Test.YtifkchkjpbpolaaGPFnExactIssuex0
import Derived.Test.YtifkchkjpbpolaaGSlimWords
namespace Go.Proofs.Ytifkchkjpbpolaa.PFnExactIssue
open Go.Proofs.Ytifkchkjpbpolaa.SlimWords
open Go.RowKit Go.Proofs.YtifkchkjpbpolaaW.PrintWords Go.Proofs.YtifkchkjpbpolaaW.PrintLast Go.Proofs.YtifkchkjpbpolaaW.PrintMore Go.Proofs.Ytifkchkjpbpolaa.MapWords
attribute [local go_sem] max2_int min2_int max_two min_two max_three min_three max_four min_four
set_option linter.unusedVariables false
set_option linter.unusedSimpArgs false
private abbrev I' := true
private abbrev O' := false
private abbrev L0' : Array Bool := #[O',O',O',O',O',O',O',O',O',O']
private abbrev L1' : Array Bool := #[O',I',O',O',O',O',O',O',O',O']
private abbrev L2' : Array Bool := #[O',I',O',O',O',I',O',O',O',O']
private abbrev L3' : Array Bool := #[O',I',I',O',O',I',O',O',O',O']
private abbrev L4' : Array Bool := #[O',I',I',O',O',I',I',O',O',O']
private abbrev L5' : Array Bool := #[I',I',I',I',I',I',I',O',O',O']
private abbrev L6' : Array Bool := #[I',I',I',O',O',I',I',O',O',O']
private abbrev L7' : Array Bool := #[O',I',I',O',I',I',I',O',O',O']
private abbrev L8' : Array Bool := #[I',I',I',I',O',I',I',O',O',O']
private abbrev L9' : Array Bool := #[I',I',I',O',I',I',I',O',O',O']
private abbrev L10' : Array Bool := #[I',I',I',I',I',I',I',I',O',O']
private abbrev L11' : Array Bool := #[I',I',I',I',I',I',I',I',I',O']
private abbrev L12' : Array Bool := #[I',I',I',I',I',I',I',I',I',I']
def spec_l11Register.f (l0_0 : List (S124)) (l0_1 : List (S120)) : Option ((List (S124)) × (List (S120))) := (some (([] : List (S124)) : List (S124))).bind fun y128 => (if y128.length + l0_0.length < 5864062014805 then ((some (([] : List (S120)) : List (S120))).bind fun y134 => (if y134.length + l0_1.length < 4398046511104 then (some ((y128 ++ l0_0), (y134 ++ l0_1))) else (none))) else (none))
def spec_l11Register.T1 : Bool × List (List Nat × List Nat) := (true, [([], []), ([], []), ([1], [1]), ([0, 2], [0, 2]), ([], []), ([], []), ([5], [5]), ([4, 6, 3], [4, 6]), ([3, 7], [3, 7]), ([8, 7, 0, 1, 2, 3, 4, 5, 6, 7, 8], [8])])
def spec_l11Register.B1 : List Nat := [0, 0, 2, 7, 0, 0, 32, 127, 255, 511]
theorem spec_l11Register.tab1 : rtab .any (opsOf Try.f70 1) = spec_l11Register.T1 := by kernel_rfl
theorem spec_l11Register.bits1 : waitsOk spec_l11Register.T1.2 spec_l11Register.B1 = true := by kernel_rfl
set_option maxHeartbeats 8000000 in
set_option maxRecDepth 100000 in
theorem spec_l11Register.calls (A0_0 : Option Addr) (c0_0 : Nat) (l0_0 : List (S124)) (A0_1 : Option Addr) (c0_1 : Nat) (l0_1 : List (S120)) (r1 : List (S124)) (r2 : List (S120)) (w : World) (hr0_0 : Kd.C k124 w A0_0 l0_0.length l0_0) (hc0_0 : l0_0.length ≤ c0_0) (hr0_1 : Kd.C k120 w A0_1 l0_1.length l0_1) (hc0_1 : l0_1.length ≤ c0_1) (h : spec_l11Register.f l0_0 l0_1 = some (r1, r2)) :
    Calls Try.prog 70 #[.agg #[.slice A0_0 l0_0.length c0_0, .slice A0_1 l0_1.length c0_1]] w fun e w' => ∃ v0_ v1_ : Value, e = .returned (.agg #[v0_, v1_]) ∧ Kd.R k124 124 w' w.heap.size (fun _ => True) v0_ r1 ∧ Kd.R k120 120 w' w.heap.size (fun _ => True) v1_ r2 ∧ Below w.heap.size w w' := by
 have hu30 := Try.underlying30
 have HR0_0 := Aside0.mk hr0_0
 have HC0_0 := Aside0.mk hc0_0
 clear hr0_0 hc0_0
 have HR0_1 := Aside0.mk hr0_1
 have HC0_1 := Aside0.mk hc0_1
 clear hr0_1 hc0_1
 have HB := aZ (Below.refl w.heap.size w)
 have H : ((some (([] : List (S124)) : List (S124))).bind fun y128 => (if y128.length + l0_0.length < 5864062014805 then ((some (([] : List (S120)) : List (S120))).bind fun y134 => (if y134.length + l0_1.length < 4398046511104 then (some ((y128 ++ l0_0), (y134 ++ l0_1))) else (none))) else (none))) = some (r1, r2) := h
 clear h
 obtain ⟨y128, hy128⟩ : ∃ y_ : List (S124), y_ = (([] : List (S124))) := ⟨_, rfl⟩
 replace H : (if y128.length + l0_0.length < 5864062014805 then ((some (([] : List (S120)) : List (S120))).bind fun y134 => (if y134.length + l0_1.length < 4398046511104 then (some ((y128 ++ l0_0), (y134 ++ l0_1))) else (none))) else (none)) = some (r1, r2) := by first | (rw [hy128]; with_reducible exact H) | (have H2_ := (Option.bind_some _ _).symm.trans H; rw [hy128]; with_reducible exact H2_) | (have H2_ := (Option.bind_some _ _).symm.trans H; with_reducible exact H2_) | with_reducible exact H | (rw [hy128]; exact H) | exact H
 have Ny128 := Aside0.mk hy128
 clear hy128
 by_cases c2 : y128.length + l0_0.length < 5864062014805
 rotate_left
 ·rw [if_neg c2] at H
  exact absurd H (by simp)
 rw [if_pos c2] at H
 have LMc2 := Aside0.mk c2
 clear c2
 obtain ⟨y131, hy131⟩ : ∃ y_ : List (S124), y_ = (y128 ++ l0_0) := ⟨_, rfl⟩
 replace H : ((some (([] : List (S120)) : List (S120))).bind fun y134 => (if y134.length + l0_1.length < 4398046511104 then (some (y131, (y134 ++ l0_1))) else (none))) = some (r1, r2) := by first | (rw [hy131]; with_reducible exact H) | (have H2_ := (Option.bind_some _ _).symm.trans H; rw [hy131]; with_reducible exact H2_) | (have H2_ := (Option.bind_some _ _).symm.trans H; with_reducible exact H2_) | with_reducible exact H | (rw [hy131]; exact H) | exact H
 have Ny131 := Aside0.mk hy131
 clear hy131
 obtain ⟨y134, hy134⟩ : ∃ y_ : List (S120), y_ = (([] : List (S120))) := ⟨_, rfl⟩
 replace H : (if y134.length + l0_1.length < 4398046511104 then (some (y131, (y134 ++ l0_1))) else (none)) = some (r1, r2) := by first | (rw [hy134]; with_reducible exact H) | (have H2_ := (Option.bind_some _ _).symm.trans H; rw [hy134]; with_reducible exact H2_) | (have H2_ := (Option.bind_some _ _).symm.trans H; with_reducible exact H2_) | with_reducible exact H | (rw [hy134]; exact H) | exact H
 have Ny134 := Aside0.mk hy134
 clear hy134
 by_cases c3 : y134.length + l0_1.length < 4398046511104
 rotate_left
 ·rw [if_neg c3] at H
  exact absurd H (by simp)
 rw [if_pos c3] at H
 have LMc3 := Aside0.mk c3
 clear c3
 obtain ⟨y137, hy137⟩ : ∃ y_ : List (S120), y_ = (y134 ++ l0_1) := ⟨_, rfl⟩
 replace H : (some (y131, y137)) = some (r1, r2) := by first | (rw [hy137]; with_reducible exact H) | (have H2_ := (Option.bind_some _ _).symm.trans H; rw [hy137]; with_reducible exact H2_) | (have H2_ := (Option.bind_some _ _).symm.trans H; with_reducible exact H2_) | with_reducible exact H | (rw [hy137]; exact H) | exact H
 have Ny137 := Aside0.mk hy137
 clear hy137
 simp only [Option.some.injEq, Prod.mk.injEq] at H
 obtain ⟨rfl, rfl⟩ := H
 go_enter Try.func70, Try.ntmps70
 try go_wp2_with (first | ((with_reducible refine gate_dst (N := 1) rfl ?_); refine box_event ?hg (N := 1) ?hd (cs := #[.slice A0_0 l0_0.length c0_0, .slice A0_1 l0_1.length c0_1]) (t := 30) ?hr ?_; (case hd => rfl); (case hg => rfl); (case hr => first | (go_simp; done) | (go_simp; rfl)); intro gb126 hg w4 hbox hb; have BK126 := aZ (hbox); have GW126 := aZ ((by rw [hg]; exact (below_size (lZB HB.out)) : w.heap.size ≤ gb126)); have GE126 := aZ ((by rw [hg]; exact (below_size (lZB HB.out)) : w.heap.size ≤ gb126)); replace HB := aZ (below_step (lZB HB.out) hb); clear hb hbox hg) | ((with_reducible refine gate_dst (N := 2) rfl ?_); refine box_event ?hg (N := 2) ?hd (cs := #[.slice none 0 0, .slice none 0 0]) (t := 30) ?hr ?_; (case hd => rfl); (case hg => rfl); (case hr => first | (go_simp; done) | (go_simp; rfl)); intro gb127 hg w5 hbox hb; have BK127 := aZ (hbox); have GW127 := aZ ((by rw [hg]; exact (below_size bZ) : w.heap.size ≤ gb127)); have GE127 := aZ ((by rw [hg]; exact (below_size bZ) : w.heap.size ≤ gb127)); replace HB := aZ (below_step bZ hb); have NB126_127 := aZ ((by rw [hg]; exact Nat.ne_of_lt (blk_lt (bkZ BK126.out)) : gb126 ≠ gb127)); have NB127_126 := aZ ((by rw [hg]; exact Nat.ne_of_gt (blk_lt (bkZ BK126.out)) : gb127 ≠ gb126)); replace BK126 := aZ (blk_below (bkZ BK126.out) hb); clear hb hbox hg))
 replace BK126 := aZ (blk_drew BK126.out)
 replace BK127 := aZ (blk_drew BK127.out)
 replace HB := aZ (below_drew1 HB.out)
 refine start_ (n := 10) (S := fun w' => w'.cell? ⟨gb126, 0, none⟩ = some (.slice A0_0 l0_0.length c0_0) ∧ w'.cell? ⟨gb126, 1, none⟩ = some (.slice A0_1 l0_1.length c0_1)) (ds := []) L0' kZ rfl rfl ⟨(blk_cell BK126.out 0).trans rfl, (blk_cell BK126.out 1).trans rfl⟩ (fun hHeld => ?_); refine with_tabW spec_l11Register.tab1 spec_l11Register.bits1 (fun HT_ HW_ => ?_)
 generalize w5.drew = w6 at BK126 BK127 HB hHeld ⊢
 refine pure_ (i := 1) (N := some 4) (v := ?_) (a' := ?_) L1' rfl rfl (any_of HT_.out kZ) (fun _ _ _ h => h) (Or.inl ⟨by rfl, ?_⟩) ?_ ?_
 rotate_left
 ·intro w'
  go_simp
  with_reducible rfl
 rotate_left
 ·simp only [Act.put, sZ1, sZ2, sZ3, i64_w, i32_w]
  rfl
 refine pure_ (i := 5) (N := some 8) (v := ?_) (a' := ?_) L2' rfl rfl (any_of HT_.out kZ) (fun _ _ _ h => h) (Or.inl ⟨by rfl, ?_⟩) ?_ ?_
 rotate_left
 ·intro w'
  go_simp
  with_reducible rfl
 rotate_left
 ·simp only [Act.put, sZ1, sZ2, sZ3, i64_w, i32_w]
  rfl
 refine take_ (i := 2) (N := some 5) (v := ?_) (a' := ?_) L3' rfl rfl (take_ofW HT_.out HW_.out kZ) (fun _ _ _ h => h) (Or.inl ⟨by rfl, ?_⟩) hHeld ?_ ?_
 rotate_left
 ·rintro w' ⟨s0, s1⟩
  go_simp
  with_reducible rfl
 rotate_left
 ·simp only [Act.put, sZ1, sZ2, sZ3, i64_w, i32_w]
  rfl
 refine take_ (i := 6) (N := some 9) (v := ?_) (a' := ?_) L4' rfl rfl (take_ofW HT_.out HW_.out kZ) (fun _ _ _ h => h) (Or.inl ⟨by rfl, ?_⟩) hHeld ?_ ?_
 rotate_left
 ·rintro w' ⟨s0, s1⟩
  go_simp
  with_reducible rfl
 rotate_left
 ·simp only [Act.put, sZ1, sZ2, sZ3, i64_w, i32_w]
  rfl
 refine join_ (σ := Value × Value × Value) 3 L5' (fun s_ => [(3, s_.1), (6, s_.2.1), (7, s_.2.2)]) (fun s_ w' => (w'.cell? ⟨gb126, 0, none⟩ = some (.slice A0_0 l0_0.length c0_0) ∧ w'.cell? ⟨gb126, 1, none⟩ = some (.slice A0_1 l0_1.length c0_1)) ∧ (Kd.R k124 124 w' w.heap.size (fun _ => True) s_.2.1 y131) ∧ (Kd.R k120 120 w' w.heap.size (fun _ => True) s_.2.2 y134) ∧ (w'.heap[gb126]? = some (.cells #[.slice A0_0 l0_0.length c0_0, .slice A0_1 l0_1.length c0_1] 30 (0, 0))) ∧ (w'.heap[gb127]? = some (.cells #[.slice none 0 0, .slice none 0 0] 30 (0, 0))) ∧ (Below w.heap.size w w')) ?_ ?_
 rotate_left
 ·intro hCont
  refine two_ (i := 0) (j := 4) (Ni := some 3) (Nj := some 7) L6' L7' rfl rfl rfl rfl (two_of HT_.out kZ) (by decide) (by decide) (fun K hK => ?_) (fun K hK => ?_)
  ·skip
   refine Kd.R_lit_step k124 _ 124 ?hg (N := 3) ?hd (xs := ([] : List (S124))) (inner := []) (ok := fun _ => True) (okp := fun _ => True) ?hr ?hp (fun _ hk => hk) trivial (Below.refl _ _) (Nat.le_refl _) (by simp) ?_; (case hd => rfl); (case hg => rfl); (case hr => first | (go_simp; done) | (go_simp; rfl)); (case hp => exact (Reps.none _ _))
   intro v129 w7 ho8 hb hg_ hnew_
   clear hg_ hnew_
   (first | rw [← Ny128.out] at ho8 | (simp only [Int.reduceToNat] at ho8; rw [← Ny128.out] at ho8))
   have HO130 := aZ (Kd.R_lower ho8 (below_size bZ))
   replace BK126 := aZ (blk_below (bkZ BK126.out) hb)
   replace BK127 := aZ (blk_below (bkZ BK127.out) hb)
   replace HB := aZ (below_step bZ hb)
   clear hb ho8
   refine hK.out _ _ ⟨(blk_cell BK126.out 0).trans rfl, (blk_cell BK126.out 1).trans rfl⟩ (fun hHeld => ?_)
   clear hK K
   refine norm_ (a' := ?_) ?_ ?_
   rotate_left
   ·show Act.put _ (some 3) _ = _
    simp only [Act.put, sZ1, sZ2, sZ3, i64_w, i32_w]
    rfl
   refine two_ (i := 3) (j := 4) (Ni := some 6) (Nj := some 7) L8' L9' rfl rfl rfl rfl (two_of HT_.out kZ) (by decide) (by decide) (fun K hK => ?_) (fun K hK => ?_)
   ·skip
    refine Kd.R_append_rows_step k124 (w0 := w) w.heap.size (by rfl) (.tmp 3) (.tmp 5) 27 124 (.agg #[(.string ⟨#[]⟩), (.int .i64 0)]) 24 rfl Try.underlying27 info124 rfl (by decide) (by omega) v129 y128 l0_0 _ _ _ (fun _ => True) (fun _ => False) rfl rfl ?aO ?aR (fun _ _ h => h) (fun _ h => h.elim) ?aF ?aB ?aS ?aL ?_
    (case aR => repeat (first | exact (Kd.C_below HR0_0.out HB.out) | (with_reducible refine Kd.C_alloc ?_ _) | (with_reducible refine Kd.C_drewN ?_ _) | (with_reducible refine Kd.C_drew ?_)))
    (case aB => exact bZ)
    (case aF => exact (fun _ _ => trivial))
    (case aO => exact (lZR HO130.out))
    (case aS => exact (below_size bZ))
    (case aL => have := LMc2.out; omega)
    intro v132 w9 ho hb hg hat
    rw [← Ny131.out] at ho
    replace BK126 := aZ (blk_grown (bkZ BK126.out) hg (Kd.R_ne HO130.out BK126.out (by decide)))
    replace BK127 := aZ (blk_grown (bkZ BK127.out) hg (Kd.R_ne HO130.out BK127.out (by decide)))
    replace HB := aZ (hb)
    have HO133 := aZ (ho)
    clear HO130
    clear ho hb hg hat
    refine hK.out _ _ ⟨(blk_cell BK126.out 0).trans rfl, (blk_cell BK126.out 1).trans rfl⟩ (fun hHeld => ?_)
    clear hK K
    refine norm_ (a' := ?_) ?_ ?_
    rotate_left
    ·show Act.put _ (some 6) _ = _
     simp only [Act.put, sZ1, sZ2, sZ3, i64_w, i32_w]
     rfl
    refine one_ (i := 4) (N := some 7) L5' rfl rfl (one_of HT_.out kZ) (by decide) (fun K hK => ?_)
    refine Kd.R_lit_step k120 _ 120 ?hg (N := 7) ?hd (xs := ([] : List (S120))) (inner := []) (ok := fun _ => True) (okp := fun _ => True) ?hr ?hp (fun _ hk => hk) trivial (Below.refl _ _) (Nat.le_refl _) (by simp) ?_; (case hd => rfl); (case hg => rfl); (case hr => first | (go_simp; done) | (go_simp; rfl)); (case hp => exact (Reps.none _ _))
    intro v135 w10 ho11 hb hg_ hnew_
    clear hg_ hnew_
    (first | rw [← Ny134.out] at ho11 | (simp only [Int.reduceToNat] at ho11; rw [← Ny134.out] at ho11))
    replace HO133 := aZ (Kd.R_below (lZR HO133.out) hb)
    have HO136 := aZ (Kd.R_lower ho11 (below_size bZ))
    replace BK126 := aZ (blk_below (bkZ BK126.out) hb)
    replace BK127 := aZ (blk_below (bkZ BK127.out) hb)
    replace HB := aZ (below_step bZ hb)
    clear hb ho11
    refine hK.out _ _ ⟨(blk_cell BK126.out 0).trans rfl, (blk_cell BK126.out 1).trans rfl⟩ (fun hHeld => ?_)
    clear hK K
    refine norm_ (a' := ?_) ?_ ?_
    rotate_left
    ·show Act.put _ (some 7) _ = _
     simp only [Act.put, sZ1, sZ2, sZ3, i64_w, i32_w]
     rfl
    exact norm_ (by simp only [putAll, Act.put, List.setIfInBounds_toArray, List.set_cons_zero, List.set_cons_succ]) (hCont (v129, v132, v135) _ ⟨hHeld, (lZR HO133.out), (lZR HO136.out), (bkZ BK126.out), (bkZ BK127.out), bZ⟩)
   skip
   refine Kd.R_lit_step k120 _ 120 ?hg (N := 7) ?hd (xs := ([] : List (S120))) (inner := []) (ok := fun _ => True) (okp := fun _ => True) ?hr ?hp (fun _ hk => hk) trivial (Below.refl _ _) (Nat.le_refl _) (by simp) ?_; (case hd => rfl); (case hg => rfl); (case hr => first | (go_simp; done) | (go_simp; rfl)); (case hp => exact (Reps.none _ _))
   intro v135 w9 ho10 hb hg_ hnew_
   clear hg_ hnew_
   (first | rw [← Ny134.out] at ho10 | (simp only [Int.reduceToNat] at ho10; rw [← Ny134.out] at ho10))
   replace HO130 := aZ (Kd.R_below (lZR HO130.out) hb)
   have HO136 := aZ (Kd.R_lower ho10 (below_size bZ))
   replace BK126 := aZ (blk_below (bkZ BK126.out) hb)
   replace BK127 := aZ (blk_below (bkZ BK127.out) hb)
   replace HB := aZ (below_step bZ hb)
   clear hb ho10
   refine hK.out _ _ ⟨(blk_cell BK126.out 0).trans rfl, (blk_cell BK126.out 1).trans rfl⟩ (fun hHeld => ?_)
   clear hK K
   refine norm_ (a' := ?_) ?_ ?_
   rotate_left
   ·show Act.put _ (some 7) _ = _
    simp only [Act.put, sZ1, sZ2, sZ3, i64_w, i32_w]
    rfl
   refine one_ (i := 3) (N := some 6) L5' rfl rfl (one_of HT_.out kZ) (by decide) (fun K hK => ?_)
   refine Kd.R_append_rows_step k124 (w0 := w) w.heap.size (by rfl) (.tmp 3) (.tmp 5) 27 124 (.agg #[(.string ⟨#[]⟩), (.int .i64 0)]) 24 rfl Try.underlying27 info124 rfl (by decide) (by omega) v129 y128 l0_0 _ _ _ (fun _ => True) (fun _ => False) rfl rfl ?aO ?aR (fun _ _ h => h) (fun _ h => h.elim) ?aF ?aB ?aS ?aL ?_
   (case aR => repeat (first | exact (Kd.C_below HR0_0.out HB.out) | (with_reducible refine Kd.C_alloc ?_ _) | (with_reducible refine Kd.C_drewN ?_ _) | (with_reducible refine Kd.C_drew ?_)))
   (case aB => exact bZ)
   (case aF => exact (fun _ _ => trivial))
   (case aO => exact (lZR HO130.out))
   (case aS => exact (below_size bZ))
   (case aL => have := LMc2.out; omega)
   intro v132 w11 ho hb hg hat
   rw [← Ny131.out] at ho
   replace BK126 := aZ (blk_grown (bkZ BK126.out) hg (Kd.R_ne HO130.out BK126.out (by decide)))
   replace BK127 := aZ (blk_grown (bkZ BK127.out) hg (Kd.R_ne HO130.out BK127.out (by decide)))
   replace HO136 := aZ (Kd.R_over' (lZR HO136.out) (Kd.R_typed (lZR HO130.out)) (by decide) hg)
   replace HB := aZ (hb)
   have HO133 := aZ (ho)
   clear HO130
   clear ho hb hg hat
   refine hK.out _ _ ⟨(blk_cell BK126.out 0).trans rfl, (blk_cell BK126.out 1).trans rfl⟩ (fun hHeld => ?_)
   clear hK K
   refine norm_ (a' := ?_) ?_ ?_
   rotate_left
   ·show Act.put _ (some 6) _ = _
    simp only [Act.put, sZ1, sZ2, sZ3, i64_w, i32_w]
    rfl
   exact norm_ (by simp only [putAll, Act.put, List.setIfInBounds_toArray, List.set_cons_zero, List.set_cons_succ]) (hCont (v129, v132, v135) _ ⟨hHeld, (lZR HO133.out), (lZR HO136.out), (bkZ BK126.out), (bkZ BK127.out), bZ⟩)
  skip
  refine Kd.R_lit_step k120 _ 120 ?hg (N := 7) ?hd (xs := ([] : List (S120))) (inner := []) (ok := fun _ => True) (okp := fun _ => True) ?hr ?hp (fun _ hk => hk) trivial (Below.refl _ _) (Nat.le_refl _) (by simp) ?_; (case hd => rfl); (case hg => rfl); (case hr => first | (go_simp; done) | (go_simp; rfl)); (case hp => exact (Reps.none _ _))
  intro v135 w7 ho8 hb hg_ hnew_
  clear hg_ hnew_
  (first | rw [← Ny134.out] at ho8 | (simp only [Int.reduceToNat] at ho8; rw [← Ny134.out] at ho8))
  have HO136 := aZ (Kd.R_lower ho8 (below_size bZ))
  replace BK126 := aZ (blk_below (bkZ BK126.out) hb)
  replace BK127 := aZ (blk_below (bkZ BK127.out) hb)
  replace HB := aZ (below_step bZ hb)
  clear hb ho8
  refine hK.out _ _ ⟨(blk_cell BK126.out 0).trans rfl, (blk_cell BK126.out 1).trans rfl⟩ (fun hHeld => ?_)
  clear hK K
  refine norm_ (a' := ?_) ?_ ?_
  rotate_left
  ·show Act.put _ (some 7) _ = _
   simp only [Act.put, sZ1, sZ2, sZ3, i64_w, i32_w]
   rfl
  refine one_ (i := 0) (N := some 3) L9' rfl rfl (one_of HT_.out kZ) (by decide) (fun K hK => ?_)
  refine Kd.R_lit_step k124 _ 124 ?hg (N := 3) ?hd (xs := ([] : List (S124))) (inner := []) (ok := fun _ => True) (okp := fun _ => True) ?hr ?hp (fun _ hk => hk) trivial (Below.refl _ _) (Nat.le_refl _) (by simp) ?_; (case hd => rfl); (case hg => rfl); (case hr => first | (go_simp; done) | (go_simp; rfl)); (case hp => exact (Reps.none _ _))
  intro v129 w9 ho10 hb hg_ hnew_
  clear hg_ hnew_
  (first | rw [← Ny128.out] at ho10 | (simp only [Int.reduceToNat] at ho10; rw [← Ny128.out] at ho10))
  replace HO136 := aZ (Kd.R_below (lZR HO136.out) hb)
  have HO130 := aZ (Kd.R_lower ho10 (below_size bZ))
  replace BK126 := aZ (blk_below (bkZ BK126.out) hb)
  replace BK127 := aZ (blk_below (bkZ BK127.out) hb)
  replace HB := aZ (below_step bZ hb)
  clear hb ho10
  refine hK.out _ _ ⟨(blk_cell BK126.out 0).trans rfl, (blk_cell BK126.out 1).trans rfl⟩ (fun hHeld => ?_)
  clear hK K
  refine norm_ (a' := ?_) ?_ ?_
  rotate_left
  ·show Act.put _ (some 3) _ = _
   simp only [Act.put, sZ1, sZ2, sZ3, i64_w, i32_w]
   rfl
  refine one_ (i := 3) (N := some 6) L5' rfl rfl (one_of HT_.out kZ) (by decide) (fun K hK => ?_)
  refine Kd.R_append_rows_step k124 (w0 := w) w.heap.size (by rfl) (.tmp 3) (.tmp 5) 27 124 (.agg #[(.string ⟨#[]⟩), (.int .i64 0)]) 24 rfl Try.underlying27 info124 rfl (by decide) (by omega) v129 y128 l0_0 _ _ _ (fun _ => True) (fun _ => False) rfl rfl ?aO ?aR (fun _ _ h => h) (fun _ h => h.elim) ?aF ?aB ?aS ?aL ?_
  (case aR => repeat (first | exact (Kd.C_below HR0_0.out HB.out) | (with_reducible refine Kd.C_alloc ?_ _) | (with_reducible refine Kd.C_drewN ?_ _) | (with_reducible refine Kd.C_drew ?_)))
  (case aB => exact bZ)
  (case aF => exact (fun _ _ => trivial))
  (case aO => exact (lZR HO130.out))
  (case aS => exact (below_size bZ))
  (case aL => have := LMc2.out; omega)
  intro v132 w11 ho hb hg hat
  rw [← Ny131.out] at ho
  replace BK126 := aZ (blk_grown (bkZ BK126.out) hg (Kd.R_ne HO130.out BK126.out (by decide)))
  replace BK127 := aZ (blk_grown (bkZ BK127.out) hg (Kd.R_ne HO130.out BK127.out (by decide)))
  replace HO136 := aZ (Kd.R_over' (lZR HO136.out) (Kd.R_typed (lZR HO130.out)) (by decide) hg)
  replace HB := aZ (hb)
  have HO133 := aZ (ho)
  clear HO130
  clear ho hb hg hat
  refine hK.out _ _ ⟨(blk_cell BK126.out 0).trans rfl, (blk_cell BK126.out 1).trans rfl⟩ (fun hHeld => ?_)
  clear hK K
  refine norm_ (a' := ?_) ?_ ?_
  rotate_left
  ·show Act.put _ (some 6) _ = _
   simp only [Act.put, sZ1, sZ2, sZ3, i64_w, i32_w]
   rfl
  exact norm_ (by simp only [putAll, Act.put, List.setIfInBounds_toArray, List.set_cons_zero, List.set_cons_succ]) (hCont (v129, v132, v135) _ ⟨hHeld, (lZR HO133.out), (lZR HO136.out), (bkZ BK126.out), (bkZ BK127.out), bZ⟩)
 rintro ⟨v129, v132, v135⟩ w12 ⟨hS_, h0_, h1_, h2_, h3_, h4_⟩
 have HO133 : Aside0 (Kd.R k124 124 w12 w.heap.size (fun _ => True) v132 y131) := ⟨h0_⟩
 have HO136 : Aside0 (Kd.R k120 120 w12 w.heap.size (fun _ => True) v135 y134) := ⟨h1_⟩
 replace BK126 : Aside0 (w12.heap[gb126]? = some (.cells #[.slice A0_0 l0_0.length c0_0, .slice A0_1 l0_1.length c0_1] 30 (0, 0))) := ⟨h2_⟩
 replace BK127 : Aside0 (w12.heap[gb127]? = some (.cells #[.slice none 0 0, .slice none 0 0] 30 (0, 0))) := ⟨h3_⟩
 replace HB : Aside0 (Below w.heap.size w w12) := ⟨h4_⟩
 clear h0_ h1_ h2_ h3_ h4_
 have hHeld : w12.cell? ⟨gb126, 0, none⟩ = some (.slice A0_0 l0_0.length c0_0) ∧ w12.cell? ⟨gb126, 1, none⟩ = some (.slice A0_1 l0_1.length c0_1) := hS_
 refine norm_ (a' := ?_) ?_ ?_
 rotate_left
 ·simp only [putAll, Act.put, List.setIfInBounds_toArray, List.set_cons_zero, List.set_cons_succ]
  rfl
 refine one_ (i := 7) (N := some 10) L10' rfl rfl (one_of HT_.out kZ) (by decide) (fun K hK => ?_)
 refine Kd.R_append_rows_step k120 (w0 := w) w.heap.size (by rfl) (.tmp 7) (.tmp 9) 28 120 (.agg #[(.int .i64 0), (.int .i64 0), (.int .i64 0), (.bool false)]) 32 rfl Try.underlying28 info120 rfl (by decide) (by omega) v135 y134 l0_1 _ _ _ (fun _ => True) (fun _ => False) rfl rfl ?aO ?aR (fun _ _ h => h) (fun _ h => h.elim) ?aF ?aB ?aS ?aL ?_
 (case aR => repeat (first | exact (Kd.C_below HR0_1.out HB.out) | (with_reducible refine Kd.C_alloc ?_ _) | (with_reducible refine Kd.C_drewN ?_ _) | (with_reducible refine Kd.C_drew ?_)))
 (case aB => exact bZ)
 (case aF => exact (fun _ _ => trivial))
 (case aO => exact (lZR HO136.out))
 (case aS => exact (below_size bZ))
 (case aL => have := LMc3.out; omega)
 intro v138 w13 ho hb hg hat
 rw [← Ny137.out] at ho
 replace BK126 := aZ (blk_grown (bkZ BK126.out) hg (Kd.R_ne HO136.out BK126.out (by decide)))
 replace BK127 := aZ (blk_grown (bkZ BK127.out) hg (Kd.R_ne HO136.out BK127.out (by decide)))
 replace HO133 := aZ (Kd.R_over' (lZR HO133.out) (Kd.R_typed (lZR HO136.out)) (by decide) hg)
 replace HB := aZ (hb)
 have HO139 := aZ (ho)
 clear HO136
 clear ho hb hg hat
 obtain ⟨Ao14, co14, eo14⟩ := Kd.R_slice HO139.out
 (first | subst eo14 | (injection eo14 with f1_ f2_ f3_; have f4_ := f1_.symm; have f5_ := f3_.symm; clear f1_ f2_ f3_; subst f4_; subst f5_))
 obtain ⟨Ao15, co15, eo15⟩ := Kd.R_slice HO133.out
 (first | subst eo15 | (injection eo15 with f1_ f2_ f3_; have f4_ := f1_.symm; have f5_ := f3_.symm; clear f1_ f2_ f3_; subst f4_; subst f5_))
 refine hK.out _ _ ⟨(blk_cell BK126.out 0).trans rfl, (blk_cell BK126.out 1).trans rfl⟩ (fun hHeld => ?_)
 clear hK K
 refine norm_ (a' := ?_) ?_ ?_
 rotate_left
 ·show Act.put _ (some 10) _ = _
  simp only [Act.put, sZ1, sZ2, sZ3, i64_w, i32_w]
  rfl
 refine pure_ (i := 8) (N := some 11) (v := ?_) (a' := ?_) L11' rfl rfl (any_of HT_.out kZ) (fun _ _ _ h => h) (Or.inl ⟨by rfl, ?_⟩) ?_ ?_
 rotate_left
 ·intro w'
  go_simp
  with_reducible rfl
 rotate_left
 ·simp only [Act.put, sZ1, sZ2, sZ3, i64_w, i32_w]
  rfl
 refine one_ (i := 9) (N := none) L12' rfl rfl (one_of HT_.out kZ) (by decide) (fun K hK => ?_)
 have hs16 : w13.cell? ⟨gb127, 0, none⟩ = some (.slice none 0 0) := (blk_cell BK127.out 0).trans rfl
 have hfs16 := blk_frozen BK127.out 0
 have hns16_0 := NB126_127.out
 have hms16_0 := NB127_126.out
 have hs17 : w13.cell? ⟨gb127, 1, none⟩ = some (.slice none 0 0) := (blk_cell BK127.out 1).trans rfl
 have hfs17 := blk_frozen BK127.out 1
 have hns17_0 := NB126_127.out
 have hms17_0 := NB127_126.out
 refine skip_ (w1 := ?_) (by rfl) rfl ?_ ?_
 rotate_left
 ·go_simp
  rfl
 refine hK.out _ _ ⟨((cell_far (p := ⟨gb127, _, none⟩) NB126_127.out _).trans (((cell_far (p := ⟨gb127, _, none⟩) NB126_127.out _).trans (hHeld.1)))), ((cell_far (p := ⟨gb127, _, none⟩) NB126_127.out _).trans (((cell_far (p := ⟨gb127, _, none⟩) NB126_127.out _).trans (hHeld.2))))⟩ (fun hHeld => ?_)
 clear hK K
 refine done_ (done_of HT_.out kZ) ?_
 try go_wp2
 refine bodyPost_ret (results_cell_row rfl _ _ gb127 30 #[.slice Ao15 y131.length co15, .slice Ao14 y137.length co14] (0, 0) _ rfl (by (with_reducible repeat (first | refine blk_drewN ?_ _ | refine blk_drew ?_ | refine blk_alloc ?_ _)); refine blk_put (cs := #[.slice Ao15 y131.length co15, .slice none 0 0]) ?_ 1 _ rfl; (with_reducible repeat (first | refine blk_drewN ?_ _ | refine blk_drew ?_ | refine blk_alloc ?_ _)); refine blk_put (cs := #[.slice none 0 0, .slice none 0 0]) ?_ 0 _ rfl; (with_reducible repeat (first | refine blk_drewN ?_ _ | refine blk_drew ?_ | refine blk_alloc ?_ _)); exact BK127.out) Try.underlying30 rfl kZ) rfl ?_
 exact ⟨_, _, tZC, by (with_reducible repeat (first | apply Kd.R_alloc | apply Kd.R_drewN | apply Kd.R_drew)); exact Kd.R_mono (Kd.R_far (p := ⟨gb127, 1, none⟩) (Kd.R_far (p := ⟨gb127, 0, none⟩) (Kd.R_types HO133.out BK127.out (by decide)) (fun _ hk => hk.2) (.slice Ao15 y131.length co15)) (fun _ hk => hk.2) (.slice Ao14 y137.length co14)) (fun _ hk => trivial), by (with_reducible repeat (first | apply Kd.R_alloc | apply Kd.R_drewN | apply Kd.R_drew)); exact Kd.R_mono (Kd.R_far (p := ⟨gb127, 1, none⟩) (Kd.R_far (p := ⟨gb127, 0, none⟩) (Kd.R_types HO139.out BK127.out (by decide)) (fun _ hk => hk.2) (.slice Ao15 y131.length co15)) (fun _ hk => hk.2) (.slice Ao14 y137.length co14)) (fun _ hk => trivial), bZ⟩
end Go.Proofs.Ytifkchkjpbpolaa.PFnExactIssue
