import Derived.Test.YtnbecbgpefmcoaaVPFnExactVoidx0
import Derived.Test.YtnbecbgpefmcoaaVPFnExactVoidx1
import Derived.Test.YtnbecbgpefmcoaaVPFnExactVoidx4
import Derived.Test.YtnbecbgpefmcoaaVSlimWords
namespace Go.Proofs.Ytnbecbgpefmcoaa.PFnExactVoid
open Go.Proofs.Ytnbecbgpefmcoaa.SlimWords
open Go.RowKit Go.Proofs.YtnbecbgpefmcoaaW.PrintWords Go.Proofs.YtnbecbgpefmcoaaW.PrintLast Go.Proofs.YtnbecbgpefmcoaaW.PrintMore Go.Proofs.Ytnbecbgpefmcoaa.MapWords
attribute [local go_sem] max2_int min2_int max_two min_two max_three min_three max_four min_four
set_option linter.unusedVariables false
set_option linter.unusedSimpArgs false
private abbrev I' := true
private abbrev O' := false
private abbrev L0' : Array Bool := #[O',O',O',O',O',O',O',O',O',O']
private abbrev L1' : Array Bool := #[O',I',O',O',O',O',O',O',O',O']
private abbrev L2' : Array Bool := #[O',I',O',O',O',I',O',O',O',O']
private abbrev L3' : Array Bool := #[O',I',I',O',O',I',O',O',O',O']
private abbrev L4' : Array Bool := #[O',I',I',O',O',I',I',O',O',O']
private abbrev L5' : Array Bool := #[I',I',I',I',I',I',I',O',O',O']
private abbrev L6' : Array Bool := #[I',I',I',O',O',I',I',O',O',O']
private abbrev L7' : Array Bool := #[O',I',I',O',I',I',I',O',O',O']
private abbrev L8' : Array Bool := #[I',I',I',I',O',I',I',O',O',O']
private abbrev L9' : Array Bool := #[I',I',I',O',I',I',I',O',O',O']
private abbrev L10' : Array Bool := #[I',I',I',I',I',I',I',I',O',O']
private abbrev L11' : Array Bool := #[I',I',I',I',I',I',I',I',I',O']
private abbrev L12' : Array Bool := #[I',I',I',I',I',I',I',I',I',I']
def spec_l11Register.f (l0_0 : List (S304)) (l0_1 : List (S230)) : Option ((List (S304)) × (List (S230))) := (some (([] : List (S304)) : List (S304))).bind fun y128 => (if y128.length + l0_0.length < 5864062014805 then ((some (([] : List (S230)) : List (S230))).bind fun y134 => (if y134.length + l0_1.length < 4398046511104 then (some ((y128 ++ l0_0), (y134 ++ l0_1))) else (none))) else (none))
def spec_l11Register.T1 : Bool × List (List Nat × List Nat) := (true, [([], []), ([], []), ([1], [1]), ([0, 2], [0, 2]), ([], []), ([], []), ([5], [5]), ([4, 6, 3], [4, 6]), ([3, 7], [3, 7]), ([8, 7, 0, 1, 2, 3, 4, 5, 6, 7, 8], [8])])
def spec_l11Register.B1 : List Nat := [0, 0, 2, 7, 0, 0, 32, 127, 255, 511]
theorem spec_l11Register.tab1 : rtab .any (opsOf Try.f149 1) = spec_l11Register.T1 := by kernel_rfl
theorem spec_l11Register.bits1 : waitsOk spec_l11Register.T1.2 spec_l11Register.B1 = true := by kernel_rfl
set_option maxHeartbeats 8000000 in
set_option maxRecDepth 100000 in
theorem spec_l11Register.calls (A0_0 : Option Addr) (c0_0 : Nat) (l0_0 : List (S304)) (A0_1 : Option Addr) (c0_1 : Nat) (l0_1 : List (S230)) (r1 : List (S304)) (r2 : List (S230)) (w : World) (hr0_0 : Kd.C k304 w A0_0 l0_0.length l0_0) (hc0_0 : l0_0.length ≤ c0_0) (hr0_1 : Kd.C k230 w A0_1 l0_1.length l0_1) (hc0_1 : l0_1.length ≤ c0_1) (h : spec_l11Register.f l0_0 l0_1 = some (r1, r2)) :
    Calls Try.prog 149 #[.agg #[.slice A0_0 l0_0.length c0_0, .slice A0_1 l0_1.length c0_1]] w fun e w' => ∃ v0_ v1_ : Value, e = .returned (.agg #[v0_, v1_]) ∧ Kd.R k304 304 w' w.heap.size (fun _ => True) v0_ r1 ∧ Kd.R k230 230 w' w.heap.size (fun _ => True) v1_ r2 ∧ Below w.heap.size w w' := by
 have hu86 := Try.underlying86
 have HR0_0 := Aside0.mk hr0_0
 have HC0_0 := Aside0.mk hc0_0
 clear hr0_0 hc0_0
 have HR0_1 := Aside0.mk hr0_1
 have HC0_1 := Aside0.mk hc0_1
 clear hr0_1 hc0_1
 have HB := aZ (Below.refl w.heap.size w)
 have H : ((some (([] : List (S304)) : List (S304))).bind fun y128 => (if y128.length + l0_0.length < 5864062014805 then ((some (([] : List (S230)) : List (S230))).bind fun y134 => (if y134.length + l0_1.length < 4398046511104 then (some ((y128 ++ l0_0), (y134 ++ l0_1))) else (none))) else (none))) = some (r1, r2) := h
 clear h
 obtain ⟨y128, hy128⟩ : ∃ y_ : List (S304), y_ = (([] : List (S304))) := ⟨_, rfl⟩
 replace H : (if y128.length + l0_0.length < 5864062014805 then ((some (([] : List (S230)) : List (S230))).bind fun y134 => (if y134.length + l0_1.length < 4398046511104 then (some ((y128 ++ l0_0), (y134 ++ l0_1))) else (none))) else (none)) = some (r1, r2) := by first | (rw [hy128]; with_reducible exact H) | (have H2_ := (Option.bind_some _ _).symm.trans H; rw [hy128]; with_reducible exact H2_) | (have H2_ := (Option.bind_some _ _).symm.trans H; with_reducible exact H2_) | with_reducible exact H | (rw [hy128]; exact H) | exact H
 have Ny128 := Aside0.mk hy128
 clear hy128
 by_cases c2 : y128.length + l0_0.length < 5864062014805
 rotate_left
 ·rw [if_neg c2] at H
  exact absurd H (by simp)
 rw [if_pos c2] at H
 have LMc2 := Aside0.mk c2
 clear c2
 obtain ⟨y131, hy131⟩ : ∃ y_ : List (S304), y_ = (y128 ++ l0_0) := ⟨_, rfl⟩
 replace H : ((some (([] : List (S230)) : List (S230))).bind fun y134 => (if y134.length + l0_1.length < 4398046511104 then (some (y131, (y134 ++ l0_1))) else (none))) = some (r1, r2) := by first | (rw [hy131]; with_reducible exact H) | (have H2_ := (Option.bind_some _ _).symm.trans H; rw [hy131]; with_reducible exact H2_) | (have H2_ := (Option.bind_some _ _).symm.trans H; with_reducible exact H2_) | with_reducible exact H | (rw [hy131]; exact H) | exact H
 have Ny131 := Aside0.mk hy131
 clear hy131
 obtain ⟨y134, hy134⟩ : ∃ y_ : List (S230), y_ = (([] : List (S230))) := ⟨_, rfl⟩
 replace H : (if y134.length + l0_1.length < 4398046511104 then (some (y131, (y134 ++ l0_1))) else (none)) = some (r1, r2) := by first | (rw [hy134]; with_reducible exact H) | (have H2_ := (Option.bind_some _ _).symm.trans H; rw [hy134]; with_reducible exact H2_) | (have H2_ := (Option.bind_some _ _).symm.trans H; with_reducible exact H2_) | with_reducible exact H | (rw [hy134]; exact H) | exact H
 have Ny134 := Aside0.mk hy134
 clear hy134
 by_cases c3 : y134.length + l0_1.length < 4398046511104
 rotate_left
 ·rw [if_neg c3] at H
  exact absurd H (by simp)
 rw [if_pos c3] at H
 have LMc3 := Aside0.mk c3
 clear c3
 obtain ⟨y137, hy137⟩ : ∃ y_ : List (S230), y_ = (y134 ++ l0_1) := ⟨_, rfl⟩
 replace H : (some (y131, y137)) = some (r1, r2) := by first | (rw [hy137]; with_reducible exact H) | (have H2_ := (Option.bind_some _ _).symm.trans H; rw [hy137]; with_reducible exact H2_) | (have H2_ := (Option.bind_some _ _).symm.trans H; with_reducible exact H2_) | with_reducible exact H | (rw [hy137]; exact H) | exact H
 have Ny137 := Aside0.mk hy137
 clear hy137
 simp only [Option.some.injEq, Prod.mk.injEq] at H
 obtain ⟨rfl, rfl⟩ := H
 go_enter Try.func149, Try.ntmps149
 try go_wp2_with (first | ((with_reducible refine gate_dst (N := 1) rfl ?_); refine box_event ?hg (N := 1) ?hd (cs := #[.slice A0_0 l0_0.length c0_0, .slice A0_1 l0_1.length c0_1]) (t := 86) ?hr ?_; (case hd => rfl); (case hg => rfl); (case hr => first | (go_simp; done) | (go_simp; rfl)); intro gb126 hg w4 hbox hb; have BK126 := aZ (hbox); have GW126 := aZ ((by rw [hg]; exact (below_size (lZB HB.out)) : w.heap.size ≤ gb126)); have GE126 := aZ ((by rw [hg]; exact (below_size (lZB HB.out)) : w.heap.size ≤ gb126)); replace HB := aZ (below_step (lZB HB.out) hb); clear hb hbox hg) | ((with_reducible refine gate_dst (N := 2) rfl ?_); refine box_event ?hg (N := 2) ?hd (cs := #[.slice none 0 0, .slice none 0 0]) (t := 86) ?hr ?_; (case hd => rfl); (case hg => rfl); (case hr => first | (go_simp; done) | (go_simp; rfl)); intro gb127 hg w5 hbox hb; have BK127 := aZ (hbox); have GW127 := aZ ((by rw [hg]; exact (below_size bZ) : w.heap.size ≤ gb127)); have GE127 := aZ ((by rw [hg]; exact (below_size bZ) : w.heap.size ≤ gb127)); replace HB := aZ (below_step bZ hb); have NB126_127 := aZ ((by rw [hg]; exact Nat.ne_of_lt (blk_lt (bkZ BK126.out)) : gb126 ≠ gb127)); have NB127_126 := aZ ((by rw [hg]; exact Nat.ne_of_gt (blk_lt (bkZ BK126.out)) : gb127 ≠ gb126)); replace BK126 := aZ (blk_below (bkZ BK126.out) hb); clear hb hbox hg))
 replace BK126 := aZ (blk_drew BK126.out)
 replace BK127 := aZ (blk_drew BK127.out)
 replace HB := aZ (below_drew1 HB.out)
 refine start_ (n := 10) (S := fun w' => w'.cell? ⟨gb126, 0, none⟩ = some (.slice A0_0 l0_0.length c0_0) ∧ w'.cell? ⟨gb126, 1, none⟩ = some (.slice A0_1 l0_1.length c0_1)) (ds := []) L0' kZ rfl rfl ⟨(blk_cell BK126.out 0).trans rfl, (blk_cell BK126.out 1).trans rfl⟩ (fun hHeld => ?_); refine with_tabW spec_l11Register.tab1 spec_l11Register.bits1 (fun HT_ HW_ => ?_)
 generalize w5.drew = w6 at BK126 BK127 HB hHeld ⊢
 refine pure_ (i := 1) (N := some 4) (v := ?_) (a' := ?_) L1' rfl rfl (any_of HT_.out kZ) (fun _ _ _ h => h) (Or.inl ⟨by rfl, ?_⟩) ?_ ?_
 rotate_left
 ·intro w'
  go_simp
  with_reducible rfl
 rotate_left
 ·simp only [Act.put, sZ1, sZ2, sZ3, i64_w, i32_w]
  rfl
 refine pure_ (i := 5) (N := some 8) (v := ?_) (a' := ?_) L2' rfl rfl (any_of HT_.out kZ) (fun _ _ _ h => h) (Or.inl ⟨by rfl, ?_⟩) ?_ ?_
 rotate_left
 ·intro w'
  go_simp
  with_reducible rfl
 rotate_left
 ·simp only [Act.put, sZ1, sZ2, sZ3, i64_w, i32_w]
  rfl
 refine take_ (i := 2) (N := some 5) (v := ?_) (a' := ?_) L3' rfl rfl (take_ofW HT_.out HW_.out kZ) (fun _ _ _ h => h) (Or.inl ⟨by rfl, ?_⟩) hHeld ?_ ?_
 rotate_left
 ·rintro w' ⟨s0, s1⟩
  go_simp
  with_reducible rfl
 rotate_left
 ·simp only [Act.put, sZ1, sZ2, sZ3, i64_w, i32_w]
  rfl
 refine take_ (i := 6) (N := some 9) (v := ?_) (a' := ?_) L4' rfl rfl (take_ofW HT_.out HW_.out kZ) (fun _ _ _ h => h) (Or.inl ⟨by rfl, ?_⟩) hHeld ?_ ?_
 rotate_left
 ·rintro w' ⟨s0, s1⟩
  go_simp
  with_reducible rfl
 rotate_left
 ·simp only [Act.put, sZ1, sZ2, sZ3, i64_w, i32_w]
  rfl
 refine join_ (σ := Value × Value × Value) 3 L5' (fun s_ => [(3, s_.1), (6, s_.2.1), (7, s_.2.2)]) (fun s_ w' => (w'.cell? ⟨gb126, 0, none⟩ = some (.slice A0_0 l0_0.length c0_0) ∧ w'.cell? ⟨gb126, 1, none⟩ = some (.slice A0_1 l0_1.length c0_1)) ∧ (Kd.R k304 304 w' w.heap.size (fun _ => True) s_.2.1 y131) ∧ (Kd.R k230 230 w' w.heap.size (fun _ => True) s_.2.2 y134) ∧ (w'.heap[gb126]? = some (.cells #[.slice A0_0 l0_0.length c0_0, .slice A0_1 l0_1.length c0_1] 86 (0, 0))) ∧ (w'.heap[gb127]? = some (.cells #[.slice none 0 0, .slice none 0 0] 86 (0, 0))) ∧ (Below w.heap.size w w')) ?_ ?_
 rotate_left
 ·intro hCont
  refine two_ (i := 0) (j := 4) (Ni := some 3) (Nj := some 7) L6' L7' rfl rfl rfl rfl (two_of HT_.out kZ) (by decide) (by decide) (fun K hK => ?_) (fun K hK => ?_)
  ·skip
   refine Kd.R_lit_step k304 _ 304 ?hg (N := 3) ?hd (xs := ([] : List (S304))) (inner := []) (ok := fun _ => True) (okp := fun _ => True) ?hr ?hp (fun _ hk => hk) trivial (Below.refl _ _) (Nat.le_refl _) (by simp) ?_; (case hd => rfl); (case hg => rfl); (case hr => first | (go_simp; done) | (go_simp; rfl)); (case hp => exact (Reps.none _ _))
   intro v129 w7 ho8 hb hg_ hnew_
   clear hg_ hnew_
   (first | rw [← Ny128.out] at ho8 | (simp only [Int.reduceToNat] at ho8; rw [← Ny128.out] at ho8))
   have HO130 := aZ (Kd.R_lower ho8 (below_size bZ))
   replace BK126 := aZ (blk_below (bkZ BK126.out) hb)
   replace BK127 := aZ (blk_below (bkZ BK127.out) hb)
   replace HB := aZ (below_step bZ hb)
   clear hb ho8
   refine hK.out _ _ ⟨(blk_cell BK126.out 0).trans rfl, (blk_cell BK126.out 1).trans rfl⟩ (fun hHeld => ?_)
   clear hK K
   refine norm_ (a' := ?_) ?_ ?_
   rotate_left
   ·show Act.put _ (some 3) _ = _
    simp only [Act.put, sZ1, sZ2, sZ3, i64_w, i32_w]
    rfl
   refine two_ (i := 3) (j := 4) (Ni := some 6) (Nj := some 7) L8' L9' rfl rfl rfl rfl (two_of HT_.out kZ) (by decide) (by decide) (fun K hK => ?_) (fun K hK => ?_)
   ·skip
    refine Kd.R_append_rows_step k304 (w0 := w) w.heap.size (by rfl) (.tmp 3) (.tmp 5) 83 304 (.agg #[(.string ⟨#[]⟩), (.int .i64 0)]) 24 rfl Try.underlying83 info304 rfl (by decide) (by omega) v129 y128 l0_0 _ _ _ (fun _ => True) (fun _ => False) rfl rfl ?aO ?aR (fun _ _ h => h) (fun _ h => h.elim) ?aF ?aB ?aS ?aL ?_
    (case aR => repeat (first | exact (Kd.C_below HR0_0.out HB.out) | (with_reducible refine Kd.C_alloc ?_ _) | (with_reducible refine Kd.C_drewN ?_ _) | (with_reducible refine Kd.C_drew ?_)))
    (case aB => exact bZ)
    (case aF => exact (fun _ _ => trivial))
    (case aO => exact (lZR HO130.out))
    (case aS => exact (below_size bZ))
    (case aL => have := LMc2.out; omega)
    intro v132 w9 ho hb hg hat
    rw [← Ny131.out] at ho
    replace BK126 := aZ (blk_grown (bkZ BK126.out) hg (Kd.R_ne HO130.out BK126.out (by decide)))
    replace BK127 := aZ (blk_grown (bkZ BK127.out) hg (Kd.R_ne HO130.out BK127.out (by decide)))
    replace HB := aZ (hb)
    have HO133 := aZ (ho)
    clear HO130
    clear ho hb hg hat
    refine hK.out _ _ ⟨(blk_cell BK126.out 0).trans rfl, (blk_cell BK126.out 1).trans rfl⟩ (fun hHeld => ?_)
    clear hK K
    refine norm_ (a' := ?_) ?_ ?_
    rotate_left
    ·show Act.put _ (some 6) _ = _
     simp only [Act.put, sZ1, sZ2, sZ3, i64_w, i32_w]
     rfl
    refine one_ (i := 4) (N := some 7) L5' rfl rfl (one_of HT_.out kZ) (by decide) (fun K hK => ?_)
    refine Kd.R_lit_step k230 _ 230 ?hg (N := 7) ?hd (xs := ([] : List (S230))) (inner := []) (ok := fun _ => True) (okp := fun _ => True) ?hr ?hp (fun _ hk => hk) trivial (Below.refl _ _) (Nat.le_refl _) (by simp) ?_; (case hd => rfl); (case hg => rfl); (case hr => first | (go_simp; done) | (go_simp; rfl)); (case hp => exact (Reps.none _ _))
    intro v135 w10 ho11 hb hg_ hnew_
    clear hg_ hnew_
    (first | rw [← Ny134.out] at ho11 | (simp only [Int.reduceToNat] at ho11; rw [← Ny134.out] at ho11))
    replace HO133 := aZ (Kd.R_below (lZR HO133.out) hb)
    have HO136 := aZ (Kd.R_lower ho11 (below_size bZ))
    replace BK126 := aZ (blk_below (bkZ BK126.out) hb)
    replace BK127 := aZ (blk_below (bkZ BK127.out) hb)
    replace HB := aZ (below_step bZ hb)
    clear hb ho11
    refine hK.out _ _ ⟨(blk_cell BK126.out 0).trans rfl, (blk_cell BK126.out 1).trans rfl⟩ (fun hHeld => ?_)
    clear hK K
    refine norm_ (a' := ?_) ?_ ?_
    rotate_left
    ·show Act.put _ (some 7) _ = _
     simp only [Act.put, sZ1, sZ2, sZ3, i64_w, i32_w]
     rfl
    exact norm_ (by simp only [putAll, Act.put, List.setIfInBounds_toArray, List.set_cons_zero, List.set_cons_succ]) (hCont (v129, v132, v135) _ ⟨hHeld, (lZR HO133.out), (lZR HO136.out), (bkZ BK126.out), (bkZ BK127.out), bZ⟩)
   skip
   refine Kd.R_lit_step k230 _ 230 ?hg (N := 7) ?hd (xs := ([] : List (S230))) (inner := []) (ok := fun _ => True) (okp := fun _ => True) ?hr ?hp (fun _ hk => hk) trivial (Below.refl _ _) (Nat.le_refl _) (by simp) ?_; (case hd => rfl); (case hg => rfl); (case hr => first | (go_simp; done) | (go_simp; rfl)); (case hp => exact (Reps.none _ _))
   intro v135 w9 ho10 hb hg_ hnew_
   clear hg_ hnew_
   (first | rw [← Ny134.out] at ho10 | (simp only [Int.reduceToNat] at ho10; rw [← Ny134.out] at ho10))
   replace HO130 := aZ (Kd.R_below (lZR HO130.out) hb)
   have HO136 := aZ (Kd.R_lower ho10 (below_size bZ))
   replace BK126 := aZ (blk_below (bkZ BK126.out) hb)
   replace BK127 := aZ (blk_below (bkZ BK127.out) hb)
   replace HB := aZ (below_step bZ hb)
   clear hb ho10
   refine hK.out _ _ ⟨(blk_cell BK126.out 0).trans rfl, (blk_cell BK126.out 1).trans rfl⟩ (fun hHeld => ?_)
   clear hK K
   refine norm_ (a' := ?_) ?_ ?_
   rotate_left
   ·show Act.put _ (some 7) _ = _
    simp only [Act.put, sZ1, sZ2, sZ3, i64_w, i32_w]
    rfl
   refine one_ (i := 3) (N := some 6) L5' rfl rfl (one_of HT_.out kZ) (by decide) (fun K hK => ?_)
   refine Kd.R_append_rows_step k304 (w0 := w) w.heap.size (by rfl) (.tmp 3) (.tmp 5) 83 304 (.agg #[(.string ⟨#[]⟩), (.int .i64 0)]) 24 rfl Try.underlying83 info304 rfl (by decide) (by omega) v129 y128 l0_0 _ _ _ (fun _ => True) (fun _ => False) rfl rfl ?aO ?aR (fun _ _ h => h) (fun _ h => h.elim) ?aF ?aB ?aS ?aL ?_
   (case aR => repeat (first | exact (Kd.C_below HR0_0.out HB.out) | (with_reducible refine Kd.C_alloc ?_ _) | (with_reducible refine Kd.C_drewN ?_ _) | (with_reducible refine Kd.C_drew ?_)))
   (case aB => exact bZ)
   (case aF => exact (fun _ _ => trivial))
   (case aO => exact (lZR HO130.out))
   (case aS => exact (below_size bZ))
   (case aL => have := LMc2.out; omega)
   intro v132 w11 ho hb hg hat
   rw [← Ny131.out] at ho
   replace BK126 := aZ (blk_grown (bkZ BK126.out) hg (Kd.R_ne HO130.out BK126.out (by decide)))
   replace BK127 := aZ (blk_grown (bkZ BK127.out) hg (Kd.R_ne HO130.out BK127.out (by decide)))
   replace HO136 := aZ (Kd.R_over' (lZR HO136.out) (Kd.R_typed (lZR HO130.out)) (by decide) hg)
   replace HB := aZ (hb)
   have HO133 := aZ (ho)
   clear HO130
   clear ho hb hg hat
   refine hK.out _ _ ⟨(blk_cell BK126.out 0).trans rfl, (blk_cell BK126.out 1).trans rfl⟩ (fun hHeld => ?_)
   clear hK K
   refine norm_ (a' := ?_) ?_ ?_
   rotate_left
   ·show Act.put _ (some 6) _ = _
    simp only [Act.put, sZ1, sZ2, sZ3, i64_w, i32_w]
    rfl
   exact norm_ (by simp only [putAll, Act.put, List.setIfInBounds_toArray, List.set_cons_zero, List.set_cons_succ]) (hCont (v129, v132, v135) _ ⟨hHeld, (lZR HO133.out), (lZR HO136.out), (bkZ BK126.out), (bkZ BK127.out), bZ⟩)
  skip
  refine Kd.R_lit_step k230 _ 230 ?hg (N := 7) ?hd (xs := ([] : List (S230))) (inner := []) (ok := fun _ => True) (okp := fun _ => True) ?hr ?hp (fun _ hk => hk) trivial (Below.refl _ _) (Nat.le_refl _) (by simp) ?_; (case hd => rfl); (case hg => rfl); (case hr => first | (go_simp; done) | (go_simp; rfl)); (case hp => exact (Reps.none _ _))
  intro v135 w7 ho8 hb hg_ hnew_
  clear hg_ hnew_
  (first | rw [← Ny134.out] at ho8 | (simp only [Int.reduceToNat] at ho8; rw [← Ny134.out] at ho8))
  have HO136 := aZ (Kd.R_lower ho8 (below_size bZ))
  replace BK126 := aZ (blk_below (bkZ BK126.out) hb)
  replace BK127 := aZ (blk_below (bkZ BK127.out) hb)
  replace HB := aZ (below_step bZ hb)
  clear hb ho8
  refine hK.out _ _ ⟨(blk_cell BK126.out 0).trans rfl, (blk_cell BK126.out 1).trans rfl⟩ (fun hHeld => ?_)
  clear hK K
  refine norm_ (a' := ?_) ?_ ?_
  rotate_left
  ·show Act.put _ (some 7) _ = _
   simp only [Act.put, sZ1, sZ2, sZ3, i64_w, i32_w]
   rfl
  refine one_ (i := 0) (N := some 3) L9' rfl rfl (one_of HT_.out kZ) (by decide) (fun K hK => ?_)
  refine Kd.R_lit_step k304 _ 304 ?hg (N := 3) ?hd (xs := ([] : List (S304))) (inner := []) (ok := fun _ => True) (okp := fun _ => True) ?hr ?hp (fun _ hk => hk) trivial (Below.refl _ _) (Nat.le_refl _) (by simp) ?_; (case hd => rfl); (case hg => rfl); (case hr => first | (go_simp; done) | (go_simp; rfl)); (case hp => exact (Reps.none _ _))
  intro v129 w9 ho10 hb hg_ hnew_
  clear hg_ hnew_
  (first | rw [← Ny128.out] at ho10 | (simp only [Int.reduceToNat] at ho10; rw [← Ny128.out] at ho10))
  replace HO136 := aZ (Kd.R_below (lZR HO136.out) hb)
  have HO130 := aZ (Kd.R_lower ho10 (below_size bZ))
  replace BK126 := aZ (blk_below (bkZ BK126.out) hb)
  replace BK127 := aZ (blk_below (bkZ BK127.out) hb)
  replace HB := aZ (below_step bZ hb)
  clear hb ho10
  refine hK.out _ _ ⟨(blk_cell BK126.out 0).trans rfl, (blk_cell BK126.out 1).trans rfl⟩ (fun hHeld => ?_)
  clear hK K
  refine norm_ (a' := ?_) ?_ ?_
  rotate_left
  ·show Act.put _ (some 3) _ = _
   simp only [Act.put, sZ1, sZ2, sZ3, i64_w, i32_w]
   rfl
  refine one_ (i := 3) (N := some 6) L5' rfl rfl (one_of HT_.out kZ) (by decide) (fun K hK => ?_)
  refine Kd.R_append_rows_step k304 (w0 := w) w.heap.size (by rfl) (.tmp 3) (.tmp 5) 83 304 (.agg #[(.string ⟨#[]⟩), (.int .i64 0)]) 24 rfl Try.underlying83 info304 rfl (by decide) (by omega) v129 y128 l0_0 _ _ _ (fun _ => True) (fun _ => False) rfl rfl ?aO ?aR (fun _ _ h => h) (fun _ h => h.elim) ?aF ?aB ?aS ?aL ?_
  (case aR => repeat (first | exact (Kd.C_below HR0_0.out HB.out) | (with_reducible refine Kd.C_alloc ?_ _) | (with_reducible refine Kd.C_drewN ?_ _) | (with_reducible refine Kd.C_drew ?_)))
  (case aB => exact bZ)
  (case aF => exact (fun _ _ => trivial))
  (case aO => exact (lZR HO130.out))
  (case aS => exact (below_size bZ))
  (case aL => have := LMc2.out; omega)
  intro v132 w11 ho hb hg hat
  rw [← Ny131.out] at ho
  replace BK126 := aZ (blk_grown (bkZ BK126.out) hg (Kd.R_ne HO130.out BK126.out (by decide)))
  replace BK127 := aZ (blk_grown (bkZ BK127.out) hg (Kd.R_ne HO130.out BK127.out (by decide)))
  replace HO136 := aZ (Kd.R_over' (lZR HO136.out) (Kd.R_typed (lZR HO130.out)) (by decide) hg)
  replace HB := aZ (hb)
  have HO133 := aZ (ho)
  clear HO130
  clear ho hb hg hat
  refine hK.out _ _ ⟨(blk_cell BK126.out 0).trans rfl, (blk_cell BK126.out 1).trans rfl⟩ (fun hHeld => ?_)
  clear hK K
  refine norm_ (a' := ?_) ?_ ?_
  rotate_left
  ·show Act.put _ (some 6) _ = _
   simp only [Act.put, sZ1, sZ2, sZ3, i64_w, i32_w]
   rfl
  exact norm_ (by simp only [putAll, Act.put, List.setIfInBounds_toArray, List.set_cons_zero, List.set_cons_succ]) (hCont (v129, v132, v135) _ ⟨hHeld, (lZR HO133.out), (lZR HO136.out), (bkZ BK126.out), (bkZ BK127.out), bZ⟩)
 rintro ⟨v129, v132, v135⟩ w12 ⟨hS_, h0_, h1_, h2_, h3_, h4_⟩
 have HO133 : Aside0 (Kd.R k304 304 w12 w.heap.size (fun _ => True) v132 y131) := ⟨h0_⟩
 have HO136 : Aside0 (Kd.R k230 230 w12 w.heap.size (fun _ => True) v135 y134) := ⟨h1_⟩
 replace BK126 : Aside0 (w12.heap[gb126]? = some (.cells #[.slice A0_0 l0_0.length c0_0, .slice A0_1 l0_1.length c0_1] 86 (0, 0))) := ⟨h2_⟩
 replace BK127 : Aside0 (w12.heap[gb127]? = some (.cells #[.slice none 0 0, .slice none 0 0] 86 (0, 0))) := ⟨h3_⟩
 replace HB : Aside0 (Below w.heap.size w w12) := ⟨h4_⟩
 clear h0_ h1_ h2_ h3_ h4_
 have hHeld : w12.cell? ⟨gb126, 0, none⟩ = some (.slice A0_0 l0_0.length c0_0) ∧ w12.cell? ⟨gb126, 1, none⟩ = some (.slice A0_1 l0_1.length c0_1) := hS_
 refine norm_ (a' := ?_) ?_ ?_
 rotate_left
 ·simp only [putAll, Act.put, List.setIfInBounds_toArray, List.set_cons_zero, List.set_cons_succ]
  rfl
 refine one_ (i := 7) (N := some 10) L10' rfl rfl (one_of HT_.out kZ) (by decide) (fun K hK => ?_)
 refine Kd.R_append_rows_step k230 (w0 := w) w.heap.size (by rfl) (.tmp 7) (.tmp 9) 84 230 (.agg #[(.int .i64 0), (.int .i64 0), (.int .i64 0), (.bool false)]) 32 rfl Try.underlying84 info230 rfl (by decide) (by omega) v135 y134 l0_1 _ _ _ (fun _ => True) (fun _ => False) rfl rfl ?aO ?aR (fun _ _ h => h) (fun _ h => h.elim) ?aF ?aB ?aS ?aL ?_
 (case aR => repeat (first | exact (Kd.C_below HR0_1.out HB.out) | (with_reducible refine Kd.C_alloc ?_ _) | (with_reducible refine Kd.C_drewN ?_ _) | (with_reducible refine Kd.C_drew ?_)))
 (case aB => exact bZ)
 (case aF => exact (fun _ _ => trivial))
 (case aO => exact (lZR HO136.out))
 (case aS => exact (below_size bZ))
 (case aL => have := LMc3.out; omega)
 intro v138 w13 ho hb hg hat
 rw [← Ny137.out] at ho
 replace BK126 := aZ (blk_grown (bkZ BK126.out) hg (Kd.R_ne HO136.out BK126.out (by decide)))
 replace BK127 := aZ (blk_grown (bkZ BK127.out) hg (Kd.R_ne HO136.out BK127.out (by decide)))
 replace HO133 := aZ (Kd.R_over' (lZR HO133.out) (Kd.R_typed (lZR HO136.out)) (by decide) hg)
 replace HB := aZ (hb)
 have HO139 := aZ (ho)
 clear HO136
 clear ho hb hg hat
 obtain ⟨Ao14, co14, eo14⟩ := Kd.R_slice HO139.out
 (first | subst eo14 | (injection eo14 with f1_ f2_ f3_; have f4_ := f1_.symm; have f5_ := f3_.symm; clear f1_ f2_ f3_; subst f4_; subst f5_))
 obtain ⟨Ao15, co15, eo15⟩ := Kd.R_slice HO133.out
 (first | subst eo15 | (injection eo15 with f1_ f2_ f3_; have f4_ := f1_.symm; have f5_ := f3_.symm; clear f1_ f2_ f3_; subst f4_; subst f5_))
 refine hK.out _ _ ⟨(blk_cell BK126.out 0).trans rfl, (blk_cell BK126.out 1).trans rfl⟩ (fun hHeld => ?_)
 clear hK K
 refine norm_ (a' := ?_) ?_ ?_
 rotate_left
 ·show Act.put _ (some 10) _ = _
  simp only [Act.put, sZ1, sZ2, sZ3, i64_w, i32_w]
  rfl
 refine pure_ (i := 8) (N := some 11) (v := ?_) (a' := ?_) L11' rfl rfl (any_of HT_.out kZ) (fun _ _ _ h => h) (Or.inl ⟨by rfl, ?_⟩) ?_ ?_
 rotate_left
 ·intro w'
  go_simp
  with_reducible rfl
 rotate_left
 ·simp only [Act.put, sZ1, sZ2, sZ3, i64_w, i32_w]
  rfl
 refine one_ (i := 9) (N := none) L12' rfl rfl (one_of HT_.out kZ) (by decide) (fun K hK => ?_)
 have hs16 : w13.cell? ⟨gb127, 0, none⟩ = some (.slice none 0 0) := (blk_cell BK127.out 0).trans rfl
 have hfs16 := blk_frozen BK127.out 0
 have hns16_0 := NB126_127.out
 have hms16_0 := NB127_126.out
 have hs17 : w13.cell? ⟨gb127, 1, none⟩ = some (.slice none 0 0) := (blk_cell BK127.out 1).trans rfl
 have hfs17 := blk_frozen BK127.out 1
 have hns17_0 := NB126_127.out
 have hms17_0 := NB127_126.out
 refine skip_ (w1 := ?_) (by rfl) rfl ?_ ?_
 rotate_left
 ·go_simp
  rfl
 refine hK.out _ _ ⟨((cell_far (p := ⟨gb127, _, none⟩) NB126_127.out _).trans (((cell_far (p := ⟨gb127, _, none⟩) NB126_127.out _).trans (hHeld.1)))), ((cell_far (p := ⟨gb127, _, none⟩) NB126_127.out _).trans (((cell_far (p := ⟨gb127, _, none⟩) NB126_127.out _).trans (hHeld.2))))⟩ (fun hHeld => ?_)
 clear hK K
 refine done_ (done_of HT_.out kZ) ?_
 try go_wp2
 refine bodyPost_ret (results_cell_row rfl _ _ gb127 86 #[.slice Ao15 y131.length co15, .slice Ao14 y137.length co14] (0, 0) _ rfl (by (with_reducible repeat (first | refine blk_drewN ?_ _ | refine blk_drew ?_ | refine blk_alloc ?_ _)); refine blk_put (cs := #[.slice Ao15 y131.length co15, .slice none 0 0]) ?_ 1 _ rfl; (with_reducible repeat (first | refine blk_drewN ?_ _ | refine blk_drew ?_ | refine blk_alloc ?_ _)); refine blk_put (cs := #[.slice none 0 0, .slice none 0 0]) ?_ 0 _ rfl; (with_reducible repeat (first | refine blk_drewN ?_ _ | refine blk_drew ?_ | refine blk_alloc ?_ _)); exact BK127.out) Try.underlying86 rfl kZ) rfl ?_
 exact ⟨_, _, tZC, by (with_reducible repeat (first | apply Kd.R_alloc | apply Kd.R_drewN | apply Kd.R_drew)); exact Kd.R_mono (Kd.R_far (p := ⟨gb127, 1, none⟩) (Kd.R_far (p := ⟨gb127, 0, none⟩) (Kd.R_types HO133.out BK127.out (by decide)) (fun _ hk => hk.2) (.slice Ao15 y131.length co15)) (fun _ hk => hk.2) (.slice Ao14 y137.length co14)) (fun _ hk => trivial), by (with_reducible repeat (first | apply Kd.R_alloc | apply Kd.R_drewN | apply Kd.R_drew)); exact Kd.R_mono (Kd.R_far (p := ⟨gb127, 1, none⟩) (Kd.R_far (p := ⟨gb127, 0, none⟩) (Kd.R_types HO139.out BK127.out (by decide)) (fun _ hk => hk.2) (.slice Ao15 y131.length co15)) (fun _ hk => hk.2) (.slice Ao14 y137.length co14)) (fun _ hk => trivial), bZ⟩
def spec_Void.f (k : Nat) (l0_0 : List (S304)) (l0_1 : List (S230)) (a1 : Int) : Option ((List (S304)) × (List (S230)) × Bool) := (spec_RegisterOk.f k l0_0 l0_1).bind fun t142 => (if t142 = true then ((spec_l11Register.f l0_0 l0_1).bind fun bt143 => ((spec_l1In.f a1 0 (wrap64 ((l0_1.length : Int) - 1))).bind fun t150 => (if t150 = true then (if 0 ≤ a1 then (if a1 < (l0_1.length : Int) then (if (rd_T230 l0_1 a1).f3 = true then (some (bt143.1, bt143.2, false)) else (if a1 < (bt143.2.length : Int) then (some (bt143.1, (bt143.2.set (a1 : Int).toNat (⟨(rd_T230 bt143.2 a1).f0, (rd_T230 bt143.2 a1).f1, (rd_T230 bt143.2 a1).f2, true⟩ : S230)), true)) else (none))) else (none)) else (none)) else (some (bt143.1, bt143.2, false))))) else (some (([] : List (S304)), ([] : List (S230)), false)))
theorem spec_Void.mono : ∀ a0 a1 a2 k, LeO (spec_Void.f k a0 a1 a2) (spec_Void.f (k + 1) a0 a1 a2) := by
 intro a0 a1 a2 k
 unfold spec_Void.f
 repeat' first
     | (with_reducible exact spec_RegisterOk.mono _ _ _)
     | (with_reducible exact LeO.refl _)
     | (with_reducible exact LeO.none _)
     | (with_reducible refine LeO.ite ?_ ?_)
     | (with_reducible refine LeO.bind ?_ (fun _ => ?_))
     | exact spec_RegisterOk.mono _ _ _
     | exact LeO.none _
     | refine LeO.ite ?_ ?_
     | refine LeO.bind ?_ (fun _ => ?_)
set_option maxHeartbeats 8000000 in
set_option maxRecDepth 100000 in
theorem spec_Void.calls (k : Nat) (A0_0 : Option Addr) (c0_0 : Nat) (l0_0 : List (S304)) (A0_1 : Option Addr) (c0_1 : Nat) (l0_1 : List (S230)) (a1 : Int) (r1 : List (S304)) (r2 : List (S230)) (r3 : Bool) (w : World) (hr0_0 : Kd.C k304 w A0_0 l0_0.length l0_0) (hc0_0 : l0_0.length ≤ c0_0) (hr0_1 : Kd.C k230 w A0_1 l0_1.length l0_1) (hc0_1 : l0_1.length ≤ c0_1) (h : spec_Void.f k l0_0 l0_1 a1 = some (r1, r2, r3)) :
    Calls Try.prog 55 #[.agg #[.slice A0_0 l0_0.length c0_0, .slice A0_1 l0_1.length c0_1], .int .i64 a1] w fun e w' => ∃ v0_ v1_ : Value, e = .returned (.tuple #[.agg #[v0_, v1_], .bool r3]) ∧ Kd.R k304 304 w' w.heap.size (fun _ => True) v0_ r1 ∧ Kd.R k230 230 w' w.heap.size (fun _ => True) v1_ r2 ∧ Below w.heap.size w w' := by
 have hu86 := Try.underlying86
 have HR0_0 := Aside0.mk hr0_0
 have HC0_0 := Aside0.mk hc0_0
 clear hr0_0 hc0_0
 have HR0_1 := Aside0.mk hr0_1
 have HC0_1 := Aside0.mk hc0_1
 clear hr0_1 hc0_1
 have HB := aZ (Below.refl w.heap.size w)
 have H : ((spec_RegisterOk.f k l0_0 l0_1).bind fun t142 => (if t142 = true then ((spec_l11Register.f l0_0 l0_1).bind fun bt143 => ((spec_l1In.f a1 0 (wrap64 ((l0_1.length : Int) - 1))).bind fun t150 => (if t150 = true then (if 0 ≤ a1 then (if a1 < (l0_1.length : Int) then (if (rd_T230 l0_1 a1).f3 = true then (some (bt143.1, bt143.2, false)) else (if a1 < (bt143.2.length : Int) then (some (bt143.1, (bt143.2.set (a1 : Int).toNat (⟨(rd_T230 bt143.2 a1).f0, (rd_T230 bt143.2 a1).f1, (rd_T230 bt143.2 a1).f2, true⟩ : S230)), true)) else (none))) else (none)) else (none)) else (some (bt143.1, bt143.2, false))))) else (some (([] : List (S304)), ([] : List (S230)), false)))) = some (r1, r2, r3) := h
 clear h
 replace H := Option.bind_eq_some_iff.mp H
 obtain ⟨t142, A30, H⟩ := H
 replace H : (if t142 = true then ((spec_l11Register.f l0_0 l0_1).bind fun bt143 => ((spec_l1In.f a1 0 (wrap64 ((l0_1.length : Int) - 1))).bind fun t150 => (if t150 = true then (if 0 ≤ a1 then (if a1 < (l0_1.length : Int) then (if (rd_T230 l0_1 a1).f3 = true then (some (bt143.1, bt143.2, false)) else (if a1 < (bt143.2.length : Int) then (some (bt143.1, (bt143.2.set (a1 : Int).toNat (⟨(rd_T230 bt143.2 a1).f0, (rd_T230 bt143.2 a1).f1, (rd_T230 bt143.2 a1).f2, true⟩ : S230)), true)) else (none))) else (none)) else (none)) else (some (bt143.1, bt143.2, false))))) else (some (([] : List (S304)), ([] : List (S230)), false))) = some (r1, r2, r3) := H
 have A3 := Aside0.mk A30
 clear A30
 by_cases c4 : t142 = true
 rotate_left
 ·replace c4 := Bool.eq_false_iff.mpr c4
  subst c4
  have H1 : (some (([] : List (S304)), ([] : List (S230)), false)) = some (r1, r2, r3) := by rw [if_neg (show ¬ (false = true) by decide)] at H; exact H
  clear H
  have H := H1
  clear H1
  simp only [Option.some.injEq, Prod.mk.injEq] at H
  obtain ⟨rfl, rfl, rfl⟩ := H
  go_enter Try.func55, Try.ntmps55
  go_wp2_with (first | ((with_reducible refine gate_dst (N := 2) rfl ?_); refine box_event ?hg (N := 2) ?hd (cs := #[.slice A0_0 l0_0.length c0_0, .slice A0_1 l0_1.length c0_1]) (t := 86) ?hr ?_; (case hd => rfl); (case hg => rfl); (case hr => first | (go_simp; done) | (go_simp; rfl)); intro gb140 hg w65 hbox hb; have BK140 := aZ (hbox); have GW140 := aZ ((by rw [hg]; exact (below_size (lZB HB.out)) : w.heap.size ≤ gb140)); have GE140 := aZ ((by rw [hg]; exact (below_size (lZB HB.out)) : w.heap.size ≤ gb140)); replace HB := aZ (below_step (lZB HB.out) hb); clear hb hbox hg) | ((with_reducible refine gate_dst (N := 4) rfl ?_); refine box_event ?hg (N := 4) ?hd (cs := #[.slice none 0 0, .slice none 0 0]) (t := 86) ?hr ?_; (case hd => rfl); (case hg => rfl); (case hr => first | (go_simp; done) | (go_simp; rfl)); intro gb141 hg w66 hbox hb; have BK141 := aZ (hbox); have GW141 := aZ ((by rw [hg]; exact (below_size bZ) : w.heap.size ≤ gb141)); have GE141 := aZ ((by rw [hg]; exact (below_size bZ) : w.heap.size ≤ gb141)); replace HB := aZ (below_step bZ hb); have NB140_141 := aZ ((by rw [hg]; exact Nat.ne_of_lt (blk_lt (bkZ BK140.out)) : gb140 ≠ gb141)); have NB141_140 := aZ ((by rw [hg]; exact Nat.ne_of_gt (blk_lt (bkZ BK140.out)) : gb141 ≠ gb140)); replace BK140 := aZ (blk_below (bkZ BK140.out) hb); clear hb hbox hg; have hnb67 := NB140_141.out; have hnc67 := NB141_140.out; have hcz68_0 : w66.cell? ⟨gb140, 0, none⟩ = some (.slice A0_0 l0_0.length c0_0) := (blk_cell BK140.out 0).trans rfl; have hcz68_1 : w66.cell? ⟨gb140, 1, none⟩ = some (.slice A0_1 l0_1.length c0_1) := (blk_cell BK140.out 1).trans rfl; have hfz68_0 := blk_frozen BK140.out 0; have hfz68_1 := blk_frozen BK140.out 1) | ((with_reducible refine gate_callee (f := 148) rfl ?_); refine goesL_ (some 8) rfl rfl Try.func148 kZ rfl #[.agg #[.slice A0_0 l0_0.length c0_0, .slice A0_1 l0_1.length c0_1]] rfl tZA ?_; (with_reducible refine (spec_RegisterOk.calls k _ _ l0_0 _ _ l0_1 false _ ?side1 ?side2 ?side3 ?side4 A3.out).mono ?_); (case side1 => repeat (first | exact (Kd.C_below HR0_0.out HB.out) | (with_reducible refine Kd.C_alloc ?_ _) | (with_reducible refine Kd.C_drewN ?_ _) | (with_reducible refine Kd.C_drew ?_))); (case side2 => exact HC0_0.out); (case side3 => repeat (first | exact (Kd.C_below HR0_1.out HB.out) | (with_reducible refine Kd.C_alloc ?_ _) | (with_reducible refine Kd.C_drewN ?_ _) | (with_reducible refine Kd.C_drew ?_))); (case side4 => exact HC0_1.out); rintro e w69 ⟨rfl, hb⟩; refine ⟨_, rfl, ?_⟩; replace BK140 := aZ (blk_below (bkZ BK140.out) hb); replace BK141 := aZ (blk_below (bkZ BK141.out) hb); replace HB := aZ (below_step bZ hb); (try clear hb); (try clear hb2); (try clear hk); (try clear hi); have hcz70_0 : w69.cell? ⟨gb141, 0, none⟩ = some (.slice none 0 0) := (blk_cell BK141.out 0).trans rfl; have hcz70_1 : w69.cell? ⟨gb141, 1, none⟩ = some (.slice none 0 0) := (blk_cell BK141.out 1).trans rfl; have hfz70_0 := blk_frozen BK141.out 0; have hfz70_1 := blk_frozen BK141.out 1))
  refine bodyPost_ret (results_ct rfl _ _ gb141 86 #[.slice none 0 0, .slice none 0 0] (0, 0) _ rfl (by (with_reducible repeat (first | refine blk_drewN ?_ _ | refine blk_drew ?_ | refine blk_alloc ?_ _)); refine blk_put (cs := #[.slice none 0 0, .slice none 0 0]) ?_ 1 _ rfl; (with_reducible repeat (first | refine blk_drewN ?_ _ | refine blk_drew ?_ | refine blk_alloc ?_ _)); refine blk_put (cs := #[.slice none 0 0, .slice none 0 0]) ?_ 0 _ rfl; (with_reducible repeat (first | refine blk_drewN ?_ _ | refine blk_drew ?_ | refine blk_alloc ?_ _)); exact BK141.out) Try.underlying86 rfl kZ) rfl ?_
  exact ⟨_, _, tZC, by first | exact Kd.R_nil _ _ _ _ _ | exact Kd.N_nil _ _ _ _ _ | exact Kd.V_nil _ _ _ _ _ | exact Kd.Q_nil _ _ _ _ _ | exact Kd.S_nil _ _ _ _ _, by first | exact Kd.R_nil _ _ _ _ _ | exact Kd.N_nil _ _ _ _ _ | exact Kd.V_nil _ _ _ _ _ | exact Kd.Q_nil _ _ _ _ _ | exact Kd.S_nil _ _ _ _ _, bZ⟩
 subst c4
 have H1 : ((spec_l11Register.f l0_0 l0_1).bind fun bt143 => ((spec_l1In.f a1 0 (wrap64 ((l0_1.length : Int) - 1))).bind fun t150 => (if t150 = true then (if 0 ≤ a1 then (if a1 < (l0_1.length : Int) then (if (rd_T230 l0_1 a1).f3 = true then (some (bt143.1, bt143.2, false)) else (if a1 < (bt143.2.length : Int) then (some (bt143.1, (bt143.2.set (a1 : Int).toNat (⟨(rd_T230 bt143.2 a1).f0, (rd_T230 bt143.2 a1).f1, (rd_T230 bt143.2 a1).f2, true⟩ : S230)), true)) else (none))) else (none)) else (none)) else (some (bt143.1, bt143.2, false))))) = some (r1, r2, r3) := by rw [if_pos rfl] at H; exact H
 clear H
 have H := H1
 clear H1
 replace H := Option.bind_eq_some_iff.mp H
 obtain ⟨⟨t143, t146⟩, A50, H⟩ := H
 replace H : ((spec_l1In.f a1 0 (wrap64 ((l0_1.length : Int) - 1))).bind fun t150 => (if t150 = true then (if 0 ≤ a1 then (if a1 < (l0_1.length : Int) then (if (rd_T230 l0_1 a1).f3 = true then (some (t143, t146, false)) else (if a1 < (t146.length : Int) then (some (t143, (t146.set (a1 : Int).toNat (⟨(rd_T230 t146 a1).f0, (rd_T230 t146 a1).f1, (rd_T230 t146 a1).f2, true⟩ : S230)), true)) else (none))) else (none)) else (none)) else (some (t143, t146, false)))) = some (r1, r2, r3) := H
 have A5 := Aside0.mk A50
 clear A50
 replace H := Option.bind_eq_some_iff.mp H
 obtain ⟨t150, A60, H⟩ := H
 replace H : (if t150 = true then (if 0 ≤ a1 then (if a1 < (l0_1.length : Int) then (if (rd_T230 l0_1 a1).f3 = true then (some (t143, t146, false)) else (if a1 < (t146.length : Int) then (some (t143, (t146.set (a1 : Int).toNat (⟨(rd_T230 t146 a1).f0, (rd_T230 t146 a1).f1, (rd_T230 t146 a1).f2, true⟩ : S230)), true)) else (none))) else (none)) else (none)) else (some (t143, t146, false))) = some (r1, r2, r3) := H
 have A6 := Aside0.mk A60
 clear A60
 by_cases c7 : t150 = true
 rotate_left
 ·replace c7 := Bool.eq_false_iff.mpr c7
  subst c7
  have H1 : (some (t143, t146, false)) = some (r1, r2, r3) := by rw [if_neg (show ¬ (false = true) by decide)] at H; exact H
  clear H
  have H := H1
  clear H1
  simp only [Option.some.injEq, Prod.mk.injEq] at H
  obtain ⟨rfl, rfl, rfl⟩ := H
  go_enter Try.func55, Try.ntmps55
  go_wp2_with (first | ((with_reducible refine gate_dst (N := 2) rfl ?_); refine box_event ?hg (N := 2) ?hd (cs := #[.slice A0_0 l0_0.length c0_0, .slice A0_1 l0_1.length c0_1]) (t := 86) ?hr ?_; (case hd => rfl); (case hg => rfl); (case hr => first | (go_simp; done) | (go_simp; rfl)); intro gb140 hg w50 hbox hb; have BK140 := aZ (hbox); have GW140 := aZ ((by rw [hg]; exact (below_size (lZB HB.out)) : w.heap.size ≤ gb140)); have GE140 := aZ ((by rw [hg]; exact (below_size (lZB HB.out)) : w.heap.size ≤ gb140)); replace HB := aZ (below_step (lZB HB.out) hb); clear hb hbox hg) | ((with_reducible refine gate_dst (N := 4) rfl ?_); refine box_event ?hg (N := 4) ?hd (cs := #[.slice none 0 0, .slice none 0 0]) (t := 86) ?hr ?_; (case hd => rfl); (case hg => rfl); (case hr => first | (go_simp; done) | (go_simp; rfl)); intro gb141 hg w51 hbox hb; have BK141 := aZ (hbox); have GW141 := aZ ((by rw [hg]; exact (below_size bZ) : w.heap.size ≤ gb141)); have GE141 := aZ ((by rw [hg]; exact (below_size bZ) : w.heap.size ≤ gb141)); replace HB := aZ (below_step bZ hb); have NB140_141 := aZ ((by rw [hg]; exact Nat.ne_of_lt (blk_lt (bkZ BK140.out)) : gb140 ≠ gb141)); have NB141_140 := aZ ((by rw [hg]; exact Nat.ne_of_gt (blk_lt (bkZ BK140.out)) : gb141 ≠ gb140)); replace BK140 := aZ (blk_below (bkZ BK140.out) hb); clear hb hbox hg; have hnb52 := NB140_141.out; have hnc52 := NB141_140.out; have hcz53_0 : w51.cell? ⟨gb140, 0, none⟩ = some (.slice A0_0 l0_0.length c0_0) := (blk_cell BK140.out 0).trans rfl; have hcz53_1 : w51.cell? ⟨gb140, 1, none⟩ = some (.slice A0_1 l0_1.length c0_1) := (blk_cell BK140.out 1).trans rfl; have hfz53_0 := blk_frozen BK140.out 0; have hfz53_1 := blk_frozen BK140.out 1) | ((with_reducible refine gate_callee (f := 148) rfl ?_); refine goesL_ (some 8) rfl rfl Try.func148 kZ rfl #[.agg #[.slice A0_0 l0_0.length c0_0, .slice A0_1 l0_1.length c0_1]] rfl tZA ?_; (with_reducible refine (spec_RegisterOk.calls k _ _ l0_0 _ _ l0_1 true _ ?side1 ?side2 ?side3 ?side4 A3.out).mono ?_); (case side1 => repeat (first | exact (Kd.C_below HR0_0.out HB.out) | (with_reducible refine Kd.C_alloc ?_ _) | (with_reducible refine Kd.C_drewN ?_ _) | (with_reducible refine Kd.C_drew ?_))); (case side2 => exact HC0_0.out); (case side3 => repeat (first | exact (Kd.C_below HR0_1.out HB.out) | (with_reducible refine Kd.C_alloc ?_ _) | (with_reducible refine Kd.C_drewN ?_ _) | (with_reducible refine Kd.C_drew ?_))); (case side4 => exact HC0_1.out); rintro e w54 ⟨rfl, hb⟩; refine ⟨_, rfl, ?_⟩; replace BK140 := aZ (blk_below (bkZ BK140.out) hb); replace BK141 := aZ (blk_below (bkZ BK141.out) hb); replace HB := aZ (below_step bZ hb); (try clear hb); (try clear hb2); (try clear hk); (try clear hi); have hcz55_0 : w54.cell? ⟨gb140, 0, none⟩ = some (.slice A0_0 l0_0.length c0_0) := (blk_cell BK140.out 0).trans rfl; have hcz55_1 : w54.cell? ⟨gb140, 1, none⟩ = some (.slice A0_1 l0_1.length c0_1) := (blk_cell BK140.out 1).trans rfl; have hfz55_0 := blk_frozen BK140.out 0; have hfz55_1 := blk_frozen BK140.out 1) | ((with_reducible refine gate_callee (f := 149) rfl ?_); refine goesL_ (some 12) rfl rfl Try.func149 kZ rfl #[.agg #[.slice A0_0 l0_0.length c0_0, .slice A0_1 l0_1.length c0_1]] rfl tZA ?_; (with_reducible refine (spec_l11Register.calls _ _ l0_0 _ _ l0_1 t143 t146 _ ?side1 ?side2 ?side3 ?side4 A5.out).mono ?_); (case side1 => repeat (first | exact (Kd.C_below HR0_0.out HB.out) | (with_reducible refine Kd.C_alloc ?_ _) | (with_reducible refine Kd.C_drewN ?_ _) | (with_reducible refine Kd.C_drew ?_))); (case side2 => exact HC0_0.out); (case side3 => repeat (first | exact (Kd.C_below HR0_1.out HB.out) | (with_reducible refine Kd.C_alloc ?_ _) | (with_reducible refine Kd.C_drewN ?_ _) | (with_reducible refine Kd.C_drew ?_))); (case side4 => exact HC0_1.out); rintro e w56 ⟨v144, v147, rfl, ho0, ho1, hb⟩; refine ⟨_, rfl, ?_⟩; have HO145 := aZ (Kd.R_lower ho0 (below_size bZ)); have HO148 := aZ (Kd.R_lower ho1 (below_size bZ)); replace BK140 := aZ (blk_below (bkZ BK140.out) hb); replace BK141 := aZ (blk_below (bkZ BK141.out) hb); replace HB := aZ (below_step bZ hb); (try clear hb); (try clear hb2); (try clear hk); (try clear hi); (try clear ho0); (try clear ho1)) | ((with_reducible refine gate_dst (N := 6) rfl ?_); refine box_event ?hg (N := 6) ?hd (cs := #[.slice none 0 0, .slice none 0 0]) (t := 86) ?hr ?_; (case hd => rfl); (case hg => rfl); (case hr => first | (go_simp; done) | (go_simp; rfl)); intro gb149 hg w57 hbox hb; replace HO145 := aZ (Kd.R_below (lZR HO145.out) hb); replace HO148 := aZ (Kd.R_below (lZR HO148.out) hb); have BK149 := aZ (hbox); have GW149 := aZ ((by rw [hg]; exact (below_size bZ) : w.heap.size ≤ gb149)); have GE149 := aZ ((by rw [hg]; exact (below_size bZ) : w.heap.size ≤ gb149)); replace HB := aZ (below_step bZ hb); have NB140_149 := aZ ((by rw [hg]; exact Nat.ne_of_lt (blk_lt (bkZ BK140.out)) : gb140 ≠ gb149)); have NB149_140 := aZ ((by rw [hg]; exact Nat.ne_of_gt (blk_lt (bkZ BK140.out)) : gb149 ≠ gb140)); replace BK140 := aZ (blk_below (bkZ BK140.out) hb); have NB141_149 := aZ ((by rw [hg]; exact Nat.ne_of_lt (blk_lt (bkZ BK141.out)) : gb141 ≠ gb149)); have NB149_141 := aZ ((by rw [hg]; exact Nat.ne_of_gt (blk_lt (bkZ BK141.out)) : gb149 ≠ gb141)); replace BK141 := aZ (blk_below (bkZ BK141.out) hb); clear hb hbox hg; obtain ⟨Ao58, co58, eo58⟩ := Kd.R_slice HO145.out; subst eo58; have hnb59 := NB149_140.out; have hnc59 := NB140_149.out; have hnb60 := NB149_141.out; have hnc60 := NB141_149.out; have hcz61_0 : w57.cell? ⟨gb149, 0, none⟩ = some (.slice none 0 0) := (blk_cell BK149.out 0).trans rfl; have hcz61_1 : w57.cell? ⟨gb149, 1, none⟩ = some (.slice none 0 0) := (blk_cell BK149.out 1).trans rfl; have hfz61_0 := blk_frozen BK149.out 0; have hfz61_1 := blk_frozen BK149.out 1; obtain ⟨Ao62, co62, eo62⟩ := Kd.R_slice HO148.out; subst eo62; have hcz63_0 : w57.cell? ⟨gb140, 0, none⟩ = some (.slice A0_0 l0_0.length c0_0) := (blk_cell BK140.out 0).trans rfl; have hcz63_1 : w57.cell? ⟨gb140, 1, none⟩ = some (.slice A0_1 l0_1.length c0_1) := (blk_cell BK140.out 1).trans rfl; have hfz63_0 := blk_frozen BK140.out 0; have hfz63_1 := blk_frozen BK140.out 1) | ((with_reducible refine gate_callee (f := 108) rfl ?_); refine goesL_ (some 18) rfl rfl Try.func108 kZ rfl #[.int .i64 a1, .int .i64 0, .int .i64 (wrap64 ((l0_1.length : Int) - 1))] rfl tZA ?_; (with_reducible refine (spec_l1In.calls a1 0 (wrap64 ((l0_1.length : Int) - 1)) false _ A6.out).mono ?_); rintro e w' ⟨rfl, ⟨nd, rfl⟩⟩; refine ⟨_, rfl, ?_⟩; have hcz64_0 : w57.cell? ⟨gb141, 0, none⟩ = some (.slice none 0 0) := (blk_cell BK141.out 0).trans rfl; have hcz64_1 : w57.cell? ⟨gb141, 1, none⟩ = some (.slice none 0 0) := (blk_cell BK141.out 1).trans rfl; have hfz64_0 := blk_frozen BK141.out 0; have hfz64_1 := blk_frozen BK141.out 1))
  refine bodyPost_ret (results_ct rfl _ _ gb141 86 #[.slice Ao58 t143.length co58, .slice Ao62 t146.length co62] (0, 0) _ rfl (by (with_reducible repeat (first | refine blk_drewN ?_ _ | refine blk_drew ?_ | refine blk_alloc ?_ _)); refine blk_put (cs := #[.slice Ao58 t143.length co58, .slice none 0 0]) ?_ 1 _ rfl; (with_reducible repeat (first | refine blk_drewN ?_ _ | refine blk_drew ?_ | refine blk_alloc ?_ _)); refine blk_put (cs := #[.slice none 0 0, .slice none 0 0]) ?_ 0 _ rfl; (with_reducible repeat (first | refine blk_drewN ?_ _ | refine blk_drew ?_ | refine blk_alloc ?_ _)); refine blk_far ?_ NB141_149.out _; (with_reducible repeat (first | refine blk_drewN ?_ _ | refine blk_drew ?_ | refine blk_alloc ?_ _)); refine blk_far ?_ NB141_149.out _; (with_reducible repeat (first | refine blk_drewN ?_ _ | refine blk_drew ?_ | refine blk_alloc ?_ _)); exact BK141.out) Try.underlying86 rfl kZ) rfl ?_
  exact ⟨_, _, tZC, by (with_reducible repeat (first | apply Kd.R_alloc | apply Kd.R_drewN | apply Kd.R_drew)); exact Kd.R_mono (Kd.R_far (p := ⟨gb141, 1, none⟩) (Kd.R_far (p := ⟨gb141, 0, none⟩) (Kd.R_far (p := ⟨gb149, 1, none⟩) (Kd.R_far (p := ⟨gb149, 0, none⟩) (Kd.R_types (Kd.R_types HO145.out BK149.out (by decide)) BK141.out (by decide)) (fun _ hk => hk.1.2) (.slice Ao58 t143.length co58)) (fun _ hk => hk.1.2) (.slice Ao62 t146.length co62)) (fun _ hk => hk.2) (.slice Ao58 t143.length co58)) (fun _ hk => hk.2) (.slice Ao62 t146.length co62)) (fun _ hk => trivial), by (with_reducible repeat (first | apply Kd.R_alloc | apply Kd.R_drewN | apply Kd.R_drew)); exact Kd.R_mono (Kd.R_far (p := ⟨gb141, 1, none⟩) (Kd.R_far (p := ⟨gb141, 0, none⟩) (Kd.R_far (p := ⟨gb149, 1, none⟩) (Kd.R_far (p := ⟨gb149, 0, none⟩) (Kd.R_types (Kd.R_types HO148.out BK149.out (by decide)) BK141.out (by decide)) (fun _ hk => hk.1.2) (.slice Ao58 t143.length co58)) (fun _ hk => hk.1.2) (.slice Ao62 t146.length co62)) (fun _ hk => hk.2) (.slice Ao58 t143.length co58)) (fun _ hk => hk.2) (.slice Ao62 t146.length co62)) (fun _ hk => trivial), bZ⟩
 subst c7
 have H1 : (if 0 ≤ a1 then (if a1 < (l0_1.length : Int) then (if (rd_T230 l0_1 a1).f3 = true then (some (t143, t146, false)) else (if a1 < (t146.length : Int) then (some (t143, (t146.set (a1 : Int).toNat (⟨(rd_T230 t146 a1).f0, (rd_T230 t146 a1).f1, (rd_T230 t146 a1).f2, true⟩ : S230)), true)) else (none))) else (none)) else (none)) = some (r1, r2, r3) := by rw [if_pos rfl] at H; exact H
 clear H
 have H := H1
 clear H1
 by_cases c8 : 0 ≤ a1
 rotate_left
 ·rw [if_neg c8] at H
  exact absurd H (by simp)
 rw [if_pos c8] at H
 have c8b0 := decide_eq_true c8
 clear c8
 by_cases c9 : a1 < (l0_1.length : Int)
 rotate_left
 ·rw [if_neg c9] at H
  exact absurd H (by simp)
 rw [if_pos c9] at H
 have c9b0 := decide_eq_true c9
 clear c9
 obtain ⟨bq10, hbq10⟩ : ∃ b_ : Bool, b_ = ((rd_T230 l0_1 a1).f3) := ⟨_, rfl⟩
 replace H : (if bq10 = true then (some (t143, t146, false)) else (if a1 < (t146.length : Int) then (some (t143, (t146.set (a1 : Int).toNat (⟨(rd_T230 t146 a1).f0, (rd_T230 t146 a1).f1, (rd_T230 t146 a1).f2, true⟩ : S230)), true)) else (none))) = some (r1, r2, r3) := by rw [← hbq10] at H; exact H
 have Nbq10 := Aside0.mk hbq10
 clear hbq10
 by_cases c11 : bq10 = true
 ·subst c11
  have H1 : (some (t143, t146, false)) = some (r1, r2, r3) := by rw [if_pos rfl] at H; exact H
  clear H
  have H := H1
  clear H1
  simp only [Option.some.injEq, Prod.mk.injEq] at H
  obtain ⟨rfl, rfl, rfl⟩ := H
  go_enter Try.func55, Try.ntmps55
  go_wp2_with (first | ((with_reducible refine gate_dst (N := 2) rfl ?_); refine box_event ?hg (N := 2) ?hd (cs := #[.slice A0_0 l0_0.length c0_0, .slice A0_1 l0_1.length c0_1]) (t := 86) ?hr ?_; (case hd => rfl); (case hg => rfl); (case hr => first | (go_simp; done) | (go_simp; rfl)); intro gb140 hg w12 hbox hb; have BK140 := aZ (hbox); have GW140 := aZ ((by rw [hg]; exact (below_size (lZB HB.out)) : w.heap.size ≤ gb140)); have GE140 := aZ ((by rw [hg]; exact (below_size (lZB HB.out)) : w.heap.size ≤ gb140)); replace HB := aZ (below_step (lZB HB.out) hb); clear hb hbox hg) | ((with_reducible refine gate_dst (N := 4) rfl ?_); refine box_event ?hg (N := 4) ?hd (cs := #[.slice none 0 0, .slice none 0 0]) (t := 86) ?hr ?_; (case hd => rfl); (case hg => rfl); (case hr => first | (go_simp; done) | (go_simp; rfl)); intro gb141 hg w13 hbox hb; have BK141 := aZ (hbox); have GW141 := aZ ((by rw [hg]; exact (below_size bZ) : w.heap.size ≤ gb141)); have GE141 := aZ ((by rw [hg]; exact (below_size bZ) : w.heap.size ≤ gb141)); replace HB := aZ (below_step bZ hb); have NB140_141 := aZ ((by rw [hg]; exact Nat.ne_of_lt (blk_lt (bkZ BK140.out)) : gb140 ≠ gb141)); have NB141_140 := aZ ((by rw [hg]; exact Nat.ne_of_gt (blk_lt (bkZ BK140.out)) : gb141 ≠ gb140)); replace BK140 := aZ (blk_below (bkZ BK140.out) hb); clear hb hbox hg; have hnb14 := NB140_141.out; have hnc14 := NB141_140.out; have hcz15_0 : w13.cell? ⟨gb140, 0, none⟩ = some (.slice A0_0 l0_0.length c0_0) := (blk_cell BK140.out 0).trans rfl; have hcz15_1 : w13.cell? ⟨gb140, 1, none⟩ = some (.slice A0_1 l0_1.length c0_1) := (blk_cell BK140.out 1).trans rfl; have hfz15_0 := blk_frozen BK140.out 0; have hfz15_1 := blk_frozen BK140.out 1) | ((with_reducible refine gate_callee (f := 148) rfl ?_); refine goesL_ (some 8) rfl rfl Try.func148 kZ rfl #[.agg #[.slice A0_0 l0_0.length c0_0, .slice A0_1 l0_1.length c0_1]] rfl tZA ?_; (with_reducible refine (spec_RegisterOk.calls k _ _ l0_0 _ _ l0_1 true _ ?side1 ?side2 ?side3 ?side4 A3.out).mono ?_); (case side1 => repeat (first | exact (Kd.C_below HR0_0.out HB.out) | (with_reducible refine Kd.C_alloc ?_ _) | (with_reducible refine Kd.C_drewN ?_ _) | (with_reducible refine Kd.C_drew ?_))); (case side2 => exact HC0_0.out); (case side3 => repeat (first | exact (Kd.C_below HR0_1.out HB.out) | (with_reducible refine Kd.C_alloc ?_ _) | (with_reducible refine Kd.C_drewN ?_ _) | (with_reducible refine Kd.C_drew ?_))); (case side4 => exact HC0_1.out); rintro e w16 ⟨rfl, hb⟩; refine ⟨_, rfl, ?_⟩; replace BK140 := aZ (blk_below (bkZ BK140.out) hb); replace BK141 := aZ (blk_below (bkZ BK141.out) hb); replace HB := aZ (below_step bZ hb); (try clear hb); (try clear hb2); (try clear hk); (try clear hi); have hcz17_0 : w16.cell? ⟨gb140, 0, none⟩ = some (.slice A0_0 l0_0.length c0_0) := (blk_cell BK140.out 0).trans rfl; have hcz17_1 : w16.cell? ⟨gb140, 1, none⟩ = some (.slice A0_1 l0_1.length c0_1) := (blk_cell BK140.out 1).trans rfl; have hfz17_0 := blk_frozen BK140.out 0; have hfz17_1 := blk_frozen BK140.out 1) | ((with_reducible refine gate_callee (f := 149) rfl ?_); refine goesL_ (some 12) rfl rfl Try.func149 kZ rfl #[.agg #[.slice A0_0 l0_0.length c0_0, .slice A0_1 l0_1.length c0_1]] rfl tZA ?_; (with_reducible refine (spec_l11Register.calls _ _ l0_0 _ _ l0_1 t143 t146 _ ?side1 ?side2 ?side3 ?side4 A5.out).mono ?_); (case side1 => repeat (first | exact (Kd.C_below HR0_0.out HB.out) | (with_reducible refine Kd.C_alloc ?_ _) | (with_reducible refine Kd.C_drewN ?_ _) | (with_reducible refine Kd.C_drew ?_))); (case side2 => exact HC0_0.out); (case side3 => repeat (first | exact (Kd.C_below HR0_1.out HB.out) | (with_reducible refine Kd.C_alloc ?_ _) | (with_reducible refine Kd.C_drewN ?_ _) | (with_reducible refine Kd.C_drew ?_))); (case side4 => exact HC0_1.out); rintro e w18 ⟨v144, v147, rfl, ho0, ho1, hb⟩; refine ⟨_, rfl, ?_⟩; have HO145 := aZ (Kd.R_lower ho0 (below_size bZ)); have HO148 := aZ (Kd.R_lower ho1 (below_size bZ)); replace BK140 := aZ (blk_below (bkZ BK140.out) hb); replace BK141 := aZ (blk_below (bkZ BK141.out) hb); replace HB := aZ (below_step bZ hb); (try clear hb); (try clear hb2); (try clear hk); (try clear hi); (try clear ho0); (try clear ho1)) | ((with_reducible refine gate_dst (N := 6) rfl ?_); refine box_event ?hg (N := 6) ?hd (cs := #[.slice none 0 0, .slice none 0 0]) (t := 86) ?hr ?_; (case hd => rfl); (case hg => rfl); (case hr => first | (go_simp; done) | (go_simp; rfl)); intro gb149 hg w19 hbox hb; replace HO145 := aZ (Kd.R_below (lZR HO145.out) hb); replace HO148 := aZ (Kd.R_below (lZR HO148.out) hb); have BK149 := aZ (hbox); have GW149 := aZ ((by rw [hg]; exact (below_size bZ) : w.heap.size ≤ gb149)); have GE149 := aZ ((by rw [hg]; exact (below_size bZ) : w.heap.size ≤ gb149)); replace HB := aZ (below_step bZ hb); have NB140_149 := aZ ((by rw [hg]; exact Nat.ne_of_lt (blk_lt (bkZ BK140.out)) : gb140 ≠ gb149)); have NB149_140 := aZ ((by rw [hg]; exact Nat.ne_of_gt (blk_lt (bkZ BK140.out)) : gb149 ≠ gb140)); replace BK140 := aZ (blk_below (bkZ BK140.out) hb); have NB141_149 := aZ ((by rw [hg]; exact Nat.ne_of_lt (blk_lt (bkZ BK141.out)) : gb141 ≠ gb149)); have NB149_141 := aZ ((by rw [hg]; exact Nat.ne_of_gt (blk_lt (bkZ BK141.out)) : gb149 ≠ gb141)); replace BK141 := aZ (blk_below (bkZ BK141.out) hb); clear hb hbox hg; obtain ⟨Ao20, co20, eo20⟩ := Kd.R_slice HO145.out; subst eo20; have hnb21 := NB149_140.out; have hnc21 := NB140_149.out; have hnb22 := NB149_141.out; have hnc22 := NB141_149.out; have hcz23_0 : w19.cell? ⟨gb149, 0, none⟩ = some (.slice none 0 0) := (blk_cell BK149.out 0).trans rfl; have hcz23_1 : w19.cell? ⟨gb149, 1, none⟩ = some (.slice none 0 0) := (blk_cell BK149.out 1).trans rfl; have hfz23_0 := blk_frozen BK149.out 0; have hfz23_1 := blk_frozen BK149.out 1; obtain ⟨Ao24, co24, eo24⟩ := Kd.R_slice HO148.out; subst eo24; have hcz25_0 : w19.cell? ⟨gb140, 0, none⟩ = some (.slice A0_0 l0_0.length c0_0) := (blk_cell BK140.out 0).trans rfl; have hcz25_1 : w19.cell? ⟨gb140, 1, none⟩ = some (.slice A0_1 l0_1.length c0_1) := (blk_cell BK140.out 1).trans rfl; have hfz25_0 := blk_frozen BK140.out 0; have hfz25_1 := blk_frozen BK140.out 1) | ((with_reducible refine gate_callee (f := 108) rfl ?_); refine goesL_ (some 18) rfl rfl Try.func108 kZ rfl #[.int .i64 a1, .int .i64 0, .int .i64 (wrap64 ((l0_1.length : Int) - 1))] rfl tZA ?_; (with_reducible refine (spec_l1In.calls a1 0 (wrap64 ((l0_1.length : Int) - 1)) true _ A6.out).mono ?_); rintro e w' ⟨rfl, ⟨nd, rfl⟩⟩; refine ⟨_, rfl, ?_⟩; have p151 : 0 ≤ (a1 : Int) := of_decide_eq_true tZE; have q151 : a1 < (l0_1.length : Int) := of_decide_eq_true tZE; obtain ⟨ad151, e151, hx151_0, hx151_1, hx151_2, hx151_3⟩ := at_T230 HR0_1.out a1 p151 q151; (try rw [← Nbq10.out] at hx151_3); cases e151; have hn151_0 : ad151.block ≠ gb149 := Nat.ne_of_lt (Nat.lt_of_lt_of_le (by have := World.block_lt_of_cell? _ _ hx151_0; first | rwa [add_block] at this | exact this) GW149.out); have hn151_1 : ad151.block ≠ gb149 := Nat.ne_of_lt (Nat.lt_of_lt_of_le (by have := World.block_lt_of_cell? _ _ hx151_0; first | rwa [add_block] at this | exact this) GW149.out); replace hx151_0 := cZ HB hx151_0; replace hx151_1 := cZ HB hx151_1; replace hx151_2 := cZ HB hx151_2; replace hx151_3 := cZ HB hx151_3; replace hx151_0 := (cell_far (p := ⟨gb149, 0, none⟩) (by first | (rw [add_block]; exact hn151_0) | (show (Addr.add _ _).block ≠ _; rw [add_block]; exact hn151_0) | exact hn151_0) (.slice Ao20 t143.length co20)).trans hx151_0; replace hx151_1 := (cell_far (p := ⟨gb149, 0, none⟩) (by first | (rw [add_block]; exact hn151_0) | (show (Addr.add _ _).block ≠ _; rw [add_block]; exact hn151_0) | exact hn151_0) (.slice Ao20 t143.length co20)).trans hx151_1; replace hx151_2 := (cell_far (p := ⟨gb149, 0, none⟩) (by first | (rw [add_block]; exact hn151_0) | (show (Addr.add _ _).block ≠ _; rw [add_block]; exact hn151_0) | exact hn151_0) (.slice Ao20 t143.length co20)).trans hx151_2; replace hx151_3 := (cell_far (p := ⟨gb149, 0, none⟩) (by first | (rw [add_block]; exact hn151_0) | (show (Addr.add _ _).block ≠ _; rw [add_block]; exact hn151_0) | exact hn151_0) (.slice Ao20 t143.length co20)).trans hx151_3; replace hx151_0 := (cell_far (p := ⟨gb149, 1, none⟩) (by first | (rw [add_block]; exact hn151_1) | (show (Addr.add _ _).block ≠ _; rw [add_block]; exact hn151_1) | exact hn151_1) (.slice Ao24 t146.length co24)).trans hx151_0; replace hx151_1 := (cell_far (p := ⟨gb149, 1, none⟩) (by first | (rw [add_block]; exact hn151_1) | (show (Addr.add _ _).block ≠ _; rw [add_block]; exact hn151_1) | exact hn151_1) (.slice Ao24 t146.length co24)).trans hx151_1; replace hx151_2 := (cell_far (p := ⟨gb149, 1, none⟩) (by first | (rw [add_block]; exact hn151_1) | (show (Addr.add _ _).block ≠ _; rw [add_block]; exact hn151_1) | exact hn151_1) (.slice Ao24 t146.length co24)).trans hx151_2; replace hx151_3 := (cell_far (p := ⟨gb149, 1, none⟩) (by first | (rw [add_block]; exact hn151_1) | (show (Addr.add _ _).block ≠ _; rw [add_block]; exact hn151_1) | exact hn151_1) (.slice Ao24 t146.length co24)).trans hx151_3; clear hn151_0; clear hn151_1; replace p151 := eq_true p151; replace q151 := eq_true q151; have hcz26_0 : w19.cell? ⟨gb141, 0, none⟩ = some (.slice none 0 0) := (blk_cell BK141.out 0).trans rfl; have hcz26_1 : w19.cell? ⟨gb141, 1, none⟩ = some (.slice none 0 0) := (blk_cell BK141.out 1).trans rfl; have hfz26_0 := blk_frozen BK141.out 0; have hfz26_1 := blk_frozen BK141.out 1))
  refine bodyPost_ret (results_ct rfl _ _ gb141 86 #[.slice Ao20 t143.length co20, .slice Ao24 t146.length co24] (0, 0) _ rfl (by (with_reducible repeat (first | refine blk_drewN ?_ _ | refine blk_drew ?_ | refine blk_alloc ?_ _)); refine blk_put (cs := #[.slice Ao20 t143.length co20, .slice none 0 0]) ?_ 1 _ rfl; (with_reducible repeat (first | refine blk_drewN ?_ _ | refine blk_drew ?_ | refine blk_alloc ?_ _)); refine blk_put (cs := #[.slice none 0 0, .slice none 0 0]) ?_ 0 _ rfl; (with_reducible repeat (first | refine blk_drewN ?_ _ | refine blk_drew ?_ | refine blk_alloc ?_ _)); refine blk_far ?_ NB141_149.out _; (with_reducible repeat (first | refine blk_drewN ?_ _ | refine blk_drew ?_ | refine blk_alloc ?_ _)); refine blk_far ?_ NB141_149.out _; (with_reducible repeat (first | refine blk_drewN ?_ _ | refine blk_drew ?_ | refine blk_alloc ?_ _)); exact BK141.out) Try.underlying86 rfl kZ) rfl ?_
  exact ⟨_, _, tZC, by (with_reducible repeat (first | apply Kd.R_alloc | apply Kd.R_drewN | apply Kd.R_drew)); exact Kd.R_mono (Kd.R_far (p := ⟨gb141, 1, none⟩) (Kd.R_far (p := ⟨gb141, 0, none⟩) (Kd.R_far (p := ⟨gb149, 1, none⟩) (Kd.R_far (p := ⟨gb149, 0, none⟩) (Kd.R_types (Kd.R_types HO145.out BK149.out (by decide)) BK141.out (by decide)) (fun _ hk => hk.1.2) (.slice Ao20 t143.length co20)) (fun _ hk => hk.1.2) (.slice Ao24 t146.length co24)) (fun _ hk => hk.2) (.slice Ao20 t143.length co20)) (fun _ hk => hk.2) (.slice Ao24 t146.length co24)) (fun _ hk => trivial), by (with_reducible repeat (first | apply Kd.R_alloc | apply Kd.R_drewN | apply Kd.R_drew)); exact Kd.R_mono (Kd.R_far (p := ⟨gb141, 1, none⟩) (Kd.R_far (p := ⟨gb141, 0, none⟩) (Kd.R_far (p := ⟨gb149, 1, none⟩) (Kd.R_far (p := ⟨gb149, 0, none⟩) (Kd.R_types (Kd.R_types HO148.out BK149.out (by decide)) BK141.out (by decide)) (fun _ hk => hk.1.2) (.slice Ao20 t143.length co20)) (fun _ hk => hk.1.2) (.slice Ao24 t146.length co24)) (fun _ hk => hk.2) (.slice Ao20 t143.length co20)) (fun _ hk => hk.2) (.slice Ao24 t146.length co24)) (fun _ hk => trivial), bZ⟩
 replace c11 := Bool.eq_false_iff.mpr c11
 subst c11
 have H1 : (if a1 < (t146.length : Int) then (some (t143, (t146.set (a1 : Int).toNat (⟨(rd_T230 t146 a1).f0, (rd_T230 t146 a1).f1, (rd_T230 t146 a1).f2, true⟩ : S230)), true)) else (none)) = some (r1, r2, r3) := by rw [if_neg (show ¬ (false = true) by decide)] at H; exact H
 clear H
 have H := H1
 clear H1
 by_cases c27 : a1 < (t146.length : Int)
 rotate_left
 ·rw [if_neg c27] at H
  exact absurd H (by simp)
 rw [if_pos c27] at H
 have c27b0 := decide_eq_true c27
 clear c27
 obtain ⟨y152, hy152⟩ : ∃ y_ : List (S230), y_ = (t146.set (a1 : Int).toNat (⟨(rd_T230 t146 a1).f0, (rd_T230 t146 a1).f1, (rd_T230 t146 a1).f2, true⟩ : S230)) := ⟨_, rfl⟩
 replace H : (some (t143, y152, true)) = some (r1, r2, r3) := by first | (rw [hy152]; with_reducible exact H) | (have H2_ := (Option.bind_some _ _).symm.trans H; rw [hy152]; with_reducible exact H2_) | (have H2_ := (Option.bind_some _ _).symm.trans H; with_reducible exact H2_) | with_reducible exact H | (rw [hy152]; exact H) | exact H
 have Ny152 := Aside0.mk hy152
 clear hy152
 simp only [Option.some.injEq, Prod.mk.injEq] at H
 obtain ⟨rfl, rfl, rfl⟩ := H
 go_enter Try.func55, Try.ntmps55
 go_wp2_with (first | ((with_reducible refine gate_dst (N := 2) rfl ?_); refine box_event ?hg (N := 2) ?hd (cs := #[.slice A0_0 l0_0.length c0_0, .slice A0_1 l0_1.length c0_1]) (t := 86) ?hr ?_; (case hd => rfl); (case hg => rfl); (case hr => first | (go_simp; done) | (go_simp; rfl)); intro gb140 hg w29 hbox hb; have BK140 := aZ (hbox); have GW140 := aZ ((by rw [hg]; exact (below_size (lZB HB.out)) : w.heap.size ≤ gb140)); have GE140 := aZ ((by rw [hg]; exact (below_size (lZB HB.out)) : w.heap.size ≤ gb140)); replace HB := aZ (below_step (lZB HB.out) hb); clear hb hbox hg) | ((with_reducible refine gate_dst (N := 4) rfl ?_); refine box_event ?hg (N := 4) ?hd (cs := #[.slice none 0 0, .slice none 0 0]) (t := 86) ?hr ?_; (case hd => rfl); (case hg => rfl); (case hr => first | (go_simp; done) | (go_simp; rfl)); intro gb141 hg w30 hbox hb; have BK141 := aZ (hbox); have GW141 := aZ ((by rw [hg]; exact (below_size bZ) : w.heap.size ≤ gb141)); have GE141 := aZ ((by rw [hg]; exact (below_size bZ) : w.heap.size ≤ gb141)); replace HB := aZ (below_step bZ hb); have NB140_141 := aZ ((by rw [hg]; exact Nat.ne_of_lt (blk_lt (bkZ BK140.out)) : gb140 ≠ gb141)); have NB141_140 := aZ ((by rw [hg]; exact Nat.ne_of_gt (blk_lt (bkZ BK140.out)) : gb141 ≠ gb140)); replace BK140 := aZ (blk_below (bkZ BK140.out) hb); clear hb hbox hg; have hnb31 := NB140_141.out; have hnc31 := NB141_140.out; have hcz32_0 : w30.cell? ⟨gb140, 0, none⟩ = some (.slice A0_0 l0_0.length c0_0) := (blk_cell BK140.out 0).trans rfl; have hcz32_1 : w30.cell? ⟨gb140, 1, none⟩ = some (.slice A0_1 l0_1.length c0_1) := (blk_cell BK140.out 1).trans rfl; have hfz32_0 := blk_frozen BK140.out 0; have hfz32_1 := blk_frozen BK140.out 1) | ((with_reducible refine gate_callee (f := 148) rfl ?_); refine goesL_ (some 8) rfl rfl Try.func148 kZ rfl #[.agg #[.slice A0_0 l0_0.length c0_0, .slice A0_1 l0_1.length c0_1]] rfl tZA ?_; (with_reducible refine (spec_RegisterOk.calls k _ _ l0_0 _ _ l0_1 true _ ?side1 ?side2 ?side3 ?side4 A3.out).mono ?_); (case side1 => repeat (first | exact (Kd.C_below HR0_0.out HB.out) | (with_reducible refine Kd.C_alloc ?_ _) | (with_reducible refine Kd.C_drewN ?_ _) | (with_reducible refine Kd.C_drew ?_))); (case side2 => exact HC0_0.out); (case side3 => repeat (first | exact (Kd.C_below HR0_1.out HB.out) | (with_reducible refine Kd.C_alloc ?_ _) | (with_reducible refine Kd.C_drewN ?_ _) | (with_reducible refine Kd.C_drew ?_))); (case side4 => exact HC0_1.out); rintro e w33 ⟨rfl, hb⟩; refine ⟨_, rfl, ?_⟩; replace BK140 := aZ (blk_below (bkZ BK140.out) hb); replace BK141 := aZ (blk_below (bkZ BK141.out) hb); replace HB := aZ (below_step bZ hb); (try clear hb); (try clear hb2); (try clear hk); (try clear hi); have hcz34_0 : w33.cell? ⟨gb140, 0, none⟩ = some (.slice A0_0 l0_0.length c0_0) := (blk_cell BK140.out 0).trans rfl; have hcz34_1 : w33.cell? ⟨gb140, 1, none⟩ = some (.slice A0_1 l0_1.length c0_1) := (blk_cell BK140.out 1).trans rfl; have hfz34_0 := blk_frozen BK140.out 0; have hfz34_1 := blk_frozen BK140.out 1) | ((with_reducible refine gate_callee (f := 149) rfl ?_); refine goesL_ (some 12) rfl rfl Try.func149 kZ rfl #[.agg #[.slice A0_0 l0_0.length c0_0, .slice A0_1 l0_1.length c0_1]] rfl tZA ?_; (with_reducible refine (spec_l11Register.calls _ _ l0_0 _ _ l0_1 t143 t146 _ ?side1 ?side2 ?side3 ?side4 A5.out).mono ?_); (case side1 => repeat (first | exact (Kd.C_below HR0_0.out HB.out) | (with_reducible refine Kd.C_alloc ?_ _) | (with_reducible refine Kd.C_drewN ?_ _) | (with_reducible refine Kd.C_drew ?_))); (case side2 => exact HC0_0.out); (case side3 => repeat (first | exact (Kd.C_below HR0_1.out HB.out) | (with_reducible refine Kd.C_alloc ?_ _) | (with_reducible refine Kd.C_drewN ?_ _) | (with_reducible refine Kd.C_drew ?_))); (case side4 => exact HC0_1.out); rintro e w35 ⟨v144, v147, rfl, ho0, ho1, hb⟩; refine ⟨_, rfl, ?_⟩; have HO145 := aZ (Kd.R_lower ho0 (below_size bZ)); have HO148 := aZ (Kd.R_lower ho1 (below_size bZ)); replace BK140 := aZ (blk_below (bkZ BK140.out) hb); replace BK141 := aZ (blk_below (bkZ BK141.out) hb); replace HB := aZ (below_step bZ hb); (try clear hb); (try clear hb2); (try clear hk); (try clear hi); (try clear ho0); (try clear ho1)) | ((with_reducible refine gate_dst (N := 6) rfl ?_); refine box_event ?hg (N := 6) ?hd (cs := #[.slice none 0 0, .slice none 0 0]) (t := 86) ?hr ?_; (case hd => rfl); (case hg => rfl); (case hr => first | (go_simp; done) | (go_simp; rfl)); intro gb149 hg w36 hbox hb; replace HO145 := aZ (Kd.R_below (lZR HO145.out) hb); replace HO148 := aZ (Kd.R_below (lZR HO148.out) hb); have BK149 := aZ (hbox); have GW149 := aZ ((by rw [hg]; exact (below_size bZ) : w.heap.size ≤ gb149)); have GE149 := aZ ((by rw [hg]; exact (below_size bZ) : w.heap.size ≤ gb149)); replace HB := aZ (below_step bZ hb); have NB140_149 := aZ ((by rw [hg]; exact Nat.ne_of_lt (blk_lt (bkZ BK140.out)) : gb140 ≠ gb149)); have NB149_140 := aZ ((by rw [hg]; exact Nat.ne_of_gt (blk_lt (bkZ BK140.out)) : gb149 ≠ gb140)); replace BK140 := aZ (blk_below (bkZ BK140.out) hb); have NB141_149 := aZ ((by rw [hg]; exact Nat.ne_of_lt (blk_lt (bkZ BK141.out)) : gb141 ≠ gb149)); have NB149_141 := aZ ((by rw [hg]; exact Nat.ne_of_gt (blk_lt (bkZ BK141.out)) : gb149 ≠ gb141)); replace BK141 := aZ (blk_below (bkZ BK141.out) hb); clear hb hbox hg; obtain ⟨Ao37, co37, eo37⟩ := Kd.R_slice HO145.out; subst eo37; have hnb38 := NB149_140.out; have hnc38 := NB140_149.out; have hnb39 := NB149_141.out; have hnc39 := NB141_149.out; have hcz40_0 : w36.cell? ⟨gb149, 0, none⟩ = some (.slice none 0 0) := (blk_cell BK149.out 0).trans rfl; have hcz40_1 : w36.cell? ⟨gb149, 1, none⟩ = some (.slice none 0 0) := (blk_cell BK149.out 1).trans rfl; have hfz40_0 := blk_frozen BK149.out 0; have hfz40_1 := blk_frozen BK149.out 1; obtain ⟨Ao41, co41, eo41⟩ := Kd.R_slice HO148.out; subst eo41) | ((with_reducible refine gate_store (t := 86) (p := 6) rfl ?_); refine store_event (t := 86) (p := 6) (v := ?vo_w42) (w1 := ((w36.setCell ⟨gb149, 0, none⟩ (.slice Ao37 t143.length co37)).setCell ⟨gb149, 1, none⟩ (.slice Ao41 t146.length co41))) ?hg ?ho ?hn ?hr ?_; (case ho => rfl); (case hg => rfl); (case hn => rfl); (case hr => first | (go_simp; done) | (go_simp; rfl)); intro w42 hw; replace HO145 : Aside0 (Kd.R k304 304 w42 w.heap.size (fun _ => True) (.slice Ao37 t143.length co37) t143) := ⟨(by rw [hw]; exact (by (with_reducible repeat (first | apply Kd.R_alloc | apply Kd.R_drewN | apply Kd.R_drew)); exact Kd.R_mono (Kd.R_far (p := ⟨gb149, 1, none⟩) (Kd.R_far (p := ⟨gb149, 0, none⟩) (Kd.R_types HO145.out BK149.out (by decide)) (fun _ hk => hk.2) (.slice Ao37 t143.length co37)) (fun _ hk => hk.2) (.slice Ao41 t146.length co41)) (fun _ hk => trivial)))⟩; replace HO148 : Aside0 (Kd.R k230 230 w42 w.heap.size (fun _ => True) (.slice Ao41 t146.length co41) t146) := ⟨(by rw [hw]; exact (by (with_reducible repeat (first | apply Kd.R_alloc | apply Kd.R_drewN | apply Kd.R_drew)); exact Kd.R_mono (Kd.R_far (p := ⟨gb149, 1, none⟩) (Kd.R_far (p := ⟨gb149, 0, none⟩) (Kd.R_types HO148.out BK149.out (by decide)) (fun _ hk => hk.2) (.slice Ao37 t143.length co37)) (fun _ hk => hk.2) (.slice Ao41 t146.length co41)) (fun _ hk => trivial)))⟩; replace BK140 : Aside0 (w42.heap[gb140]? = some (.cells #[.slice A0_0 l0_0.length c0_0, .slice A0_1 l0_1.length c0_1] 86 (0, 0))) := ⟨(by rw [hw]; exact (by (with_reducible repeat (first | refine blk_drewN ?_ _ | refine blk_drew ?_ | refine blk_alloc ?_ _)); refine blk_far ?_ NB140_149.out _; (with_reducible repeat (first | refine blk_drewN ?_ _ | refine blk_drew ?_ | refine blk_alloc ?_ _)); refine blk_far ?_ NB140_149.out _; (with_reducible repeat (first | refine blk_drewN ?_ _ | refine blk_drew ?_ | refine blk_alloc ?_ _)); exact BK140.out))⟩; replace BK141 : Aside0 (w42.heap[gb141]? = some (.cells #[.slice none 0 0, .slice none 0 0] 86 (0, 0))) := ⟨(by rw [hw]; exact (by (with_reducible repeat (first | refine blk_drewN ?_ _ | refine blk_drew ?_ | refine blk_alloc ?_ _)); refine blk_far ?_ NB141_149.out _; (with_reducible repeat (first | refine blk_drewN ?_ _ | refine blk_drew ?_ | refine blk_alloc ?_ _)); refine blk_far ?_ NB141_149.out _; (with_reducible repeat (first | refine blk_drewN ?_ _ | refine blk_drew ?_ | refine blk_alloc ?_ _)); exact BK141.out))⟩; replace BK149 : Aside0 (w42.heap[gb149]? = some (.cells #[.slice Ao37 t143.length co37, .slice Ao41 t146.length co41] 86 (0, 0))) := ⟨(by rw [hw]; exact (by (with_reducible repeat (first | refine blk_drewN ?_ _ | refine blk_drew ?_ | refine blk_alloc ?_ _)); refine blk_put (cs := #[.slice Ao37 t143.length co37, .slice none 0 0]) ?_ 1 _ rfl; (with_reducible repeat (first | refine blk_drewN ?_ _ | refine blk_drew ?_ | refine blk_alloc ?_ _)); refine blk_put (cs := #[.slice none 0 0, .slice none 0 0]) ?_ 0 _ rfl; (with_reducible repeat (first | refine blk_drewN ?_ _ | refine blk_drew ?_ | refine blk_alloc ?_ _)); exact BK149.out))⟩; replace HB : Aside0 (Below w.heap.size w w42) := ⟨(by rw [hw]; exact bZ)⟩; clear hw; have hcz43_0 : w42.cell? ⟨gb140, 0, none⟩ = some (.slice A0_0 l0_0.length c0_0) := (blk_cell BK140.out 0).trans rfl; have hcz43_1 : w42.cell? ⟨gb140, 1, none⟩ = some (.slice A0_1 l0_1.length c0_1) := (blk_cell BK140.out 1).trans rfl; have hfz43_0 := blk_frozen BK140.out 0; have hfz43_1 := blk_frozen BK140.out 1) | ((with_reducible refine gate_callee (f := 108) rfl ?_); refine goesL_ (some 18) rfl rfl Try.func108 kZ rfl #[.int .i64 a1, .int .i64 0, .int .i64 (wrap64 ((l0_1.length : Int) - 1))] rfl tZA ?_; (with_reducible refine (spec_l1In.calls a1 0 (wrap64 ((l0_1.length : Int) - 1)) true _ A6.out).mono ?_); rintro e w' ⟨rfl, ⟨nd, rfl⟩⟩; refine ⟨_, rfl, ?_⟩; (try (rw [drewN_self w42]; generalize hq_ : World.drewN w42 _ = w42; replace HO145 : Aside0 (Kd.R k304 304 w42 w.heap.size (fun _ => True) (.slice Ao37 t143.length co37) t143) := ⟨by rw [← hq_]; exact (lZR HO145.out)⟩; replace HO148 : Aside0 (Kd.R k230 230 w42 w.heap.size (fun _ => True) (.slice Ao41 t146.length co41) t146) := ⟨by rw [← hq_]; exact (lZR HO148.out)⟩; replace BK140 : Aside0 (w42.heap[gb140]? = some (.cells #[.slice A0_0 l0_0.length c0_0, .slice A0_1 l0_1.length c0_1] 86 (0, 0))) := ⟨by rw [← hq_]; exact (bkZ BK140.out)⟩; replace BK141 : Aside0 (w42.heap[gb141]? = some (.cells #[.slice none 0 0, .slice none 0 0] 86 (0, 0))) := ⟨by rw [← hq_]; exact (bkZ BK141.out)⟩; replace BK149 : Aside0 (w42.heap[gb149]? = some (.cells #[.slice Ao37 t143.length co37, .slice Ao41 t146.length co41] 86 (0, 0))) := ⟨by rw [← hq_]; exact (bkZ BK149.out)⟩; replace HB : Aside0 (Below w.heap.size w w42) := ⟨by rw [← hq_]; exact bZ⟩; clear hq_)); have hcz44_0 : w42.cell? ⟨gb140, 0, none⟩ = some (.slice A0_0 l0_0.length c0_0) := (blk_cell BK140.out 0).trans rfl; have hcz44_1 : w42.cell? ⟨gb140, 1, none⟩ = some (.slice A0_1 l0_1.length c0_1) := (blk_cell BK140.out 1).trans rfl; have hfz44_0 := blk_frozen BK140.out 0; have hfz44_1 := blk_frozen BK140.out 1; have p151 : 0 ≤ (a1 : Int) := of_decide_eq_true tZE; have q151 : a1 < (l0_1.length : Int) := of_decide_eq_true tZE; obtain ⟨ad151, e151, hx151_0, hx151_1, hx151_2, hx151_3⟩ := at_T230 HR0_1.out a1 p151 q151; (try rw [← Nbq10.out] at hx151_3); cases e151; replace hx151_0 := cZ HB hx151_0; replace hx151_1 := cZ HB hx151_1; replace hx151_2 := cZ HB hx151_2; replace hx151_3 := cZ HB hx151_3; replace p151 := eq_true p151; replace q151 := eq_true q151; have hcz45_0 : w42.cell? ⟨gb149, 0, none⟩ = some (.slice Ao37 t143.length co37) := (blk_cell BK149.out 0).trans rfl; have hcz45_1 : w42.cell? ⟨gb149, 1, none⟩ = some (.slice Ao41 t146.length co41) := (blk_cell BK149.out 1).trans rfl; have hfz45_0 := blk_frozen BK149.out 0; have hfz45_1 := blk_frozen BK149.out 1; have p28 : 0 ≤ (a1 : Int) := of_decide_eq_true tZE; have q28 : (a1 : Int) < ((t146.length : Int) : Int) := of_decide_eq_true tZE; obtain ⟨go28, co28, eo28, gb28, gl28, cl28, HG28⟩ := Kd.R_form HO148.out (by omega); (first | cases eo28 | (injection eo28 with ea_ en_ ec_; (first | subst ea_ | (injection ea_ with ea_; subst ea_)); subst ec_; clear en_)); have GB28 := Aside0.mk gb28; have GG28 := Aside0.mk HG28; clear gb28 gl28 HG28; obtain ⟨ce28, hcl28, hM28, hcc28, hfr28⟩ := Kd.R_elem HO148.out z230 (a1 : Int) p28 q28; obtain rfl := k230_openM hM28; have hx28_0 : w42.cell? ⟨go28, (a1 : Int).toNat * 4, none⟩ = some (.int .i64 ((rd_T230 t146 a1).f0)) := hcc28 0 _ rfl; have hx28_1 : w42.cell? ⟨go28, (a1 : Int).toNat * 4 + 1, none⟩ = some (.int .i64 ((rd_T230 t146 a1).f1)) := hcc28 1 _ rfl; have hx28_2 : w42.cell? ⟨go28, (a1 : Int).toNat * 4 + 2, none⟩ = some (.int .i64 ((rd_T230 t146 a1).f2)) := hcc28 2 _ rfl; have hx28_3 : w42.cell? ⟨go28, (a1 : Int).toNat * 4 + 3, none⟩ = some (.bool ((rd_T230 t146 a1).f3)) := hcc28 3 _ rfl; have hf28_0 : w42.frozen? ⟨go28, (a1 : Int).toNat * 4, none⟩ = false := hfr28 0; have hf28_1 : w42.frozen? ⟨go28, (a1 : Int).toNat * 4 + 1, none⟩ = false := hfr28 1; have hf28_2 : w42.frozen? ⟨go28, (a1 : Int).toNat * 4 + 2, none⟩ = false := hfr28 2; have hf28_3 : w42.frozen? ⟨go28, (a1 : Int).toNat * 4 + 3, none⟩ = false := hfr28 3; clear hcl28 hcc28 hfr28 hM28; replace p28 := eq_true p28; replace q28 := eq_true q28; have HX46 := aZ (show Kd.R k230 230 w42 w.heap.size (fun _ => True) (.slice (some ⟨go28, 0, none⟩) t146.length co41) t146 from (lZR HO148.out)); obtain ⟨ce46, hcl46, hM46, hcc46, hfr46⟩ := Kd.R_elem HX46.out z230 (a1 : Int) (of_decide_eq_true tZE) (by have h_ : (a1 : Int) < ((t146.length : Int) : Int) := of_decide_eq_true tZE; first | exact h_ | (have e_ := (Kd.R_reads' HO148.out).1; omega) | simpa using h_); obtain rfl := k230_openM hM46; have HP46 := Kd.R_seg HX46.out (a1 : Int) (of_decide_eq_true tZE) (by have h_ : (a1 : Int) < ((t146.length : Int) : Int) := of_decide_eq_true tZE; first | exact h_ | (have e_ := (Kd.R_reads' HO148.out).1; omega) | simpa using h_) (seg := [.bool true]) (j := 3) hcl46 hcc46 (show 4 ≤ 4 from by decide) (x' := (⟨(rd_T230 t146 a1).f0, (rd_T230 t146 a1).f1, (rd_T230 t146 a1).f2, true⟩ : S230)) (k230_mkM _ _ _ (⟨(rd_T230 t146 a1).f0, (rd_T230 t146 a1).f1, (rd_T230 t146 a1).f2, true⟩ : S230) ) (fun _ hk => hk); have hx46_3 := hcc46 3 _ rfl; (try simp only [show (k230).sz = 4 from rfl, Nat.mul_one, Nat.add_zero] at hx46_3); have hf46_3 := hfr46 3; (try simp only [show (k230).sz = 4 from rfl, Nat.mul_one, Nat.add_zero] at hf46_3); clear hcl46 hcc46 hfr46 hM46) | ((with_reducible refine gate_store (t := 4) (p := 33) rfl ?_); refine store_event (t := 4) (p := 33) (v := ?vo_w47) (w1 := (w42.setCell ⟨go28, (a1 : Int).toNat * 4 + 3, none⟩ (.bool true))) ?hg ?ho ?hn ?hr ?_; (case ho => rfl); (case hg => rfl); (case hn => rfl); (case hr => first | (go_simp; done) | (go_simp; rfl)); intro w47 hw; have hg : w42.grownBy w47 (some go28) := (by rw [hw]; exact HP46.2); have hp_ : Kd.R k230 230 w47 w.heap.size (fun _ => True) (.slice (some ⟨go28, 0, none⟩) t146.length co41) y152 := (by rw [hw, Ny152.out]; exact HP46.1); clear HP46; replace BK140 := aZ (blk_grown (bkZ BK140.out) hg (Kd.R_ne HO148.out BK140.out (by decide))); replace BK141 := aZ (blk_grown (bkZ BK141.out) hg (Kd.R_ne HO148.out BK141.out (by decide))); replace HO145 := aZ (Kd.R_over' (v := (.slice (some ⟨go28, 0, none⟩) t146.length co41)) (lZR HO145.out) (Kd.R_typed HO148.out) (by decide) hg); replace BK149 := aZ (blk_grown (bkZ BK149.out) hg (Kd.R_ne HO148.out BK149.out (by decide))); replace HO148 := aZ (hp_); replace HB := aZ ((by rw [hw]; exact below_set (HB.out) GB28.out : Below w.heap.size w w47)); clear hg hw hp_; have hcz48_0 : w47.cell? ⟨gb149, 0, none⟩ = some (.slice Ao37 t143.length co37) := (blk_cell BK149.out 0).trans rfl; have hcz48_1 : w47.cell? ⟨gb149, 1, none⟩ = some (.slice (some ⟨go28, 0, none⟩) t146.length co41) := (blk_cell BK149.out 1).trans rfl; have hfz48_0 := blk_frozen BK149.out 0; have hfz48_1 := blk_frozen BK149.out 1; have hcz49_0 : w47.cell? ⟨gb141, 0, none⟩ = some (.slice none 0 0) := (blk_cell BK141.out 0).trans rfl; have hcz49_1 : w47.cell? ⟨gb141, 1, none⟩ = some (.slice none 0 0) := (blk_cell BK141.out 1).trans rfl; have hfz49_0 := blk_frozen BK141.out 0; have hfz49_1 := blk_frozen BK141.out 1))
 refine bodyPost_ret (results_ct rfl _ _ gb141 86 #[.slice Ao37 t143.length co37, .slice (some ⟨go28, 0, none⟩) t146.length co41] (0, 0) _ rfl (by (with_reducible repeat (first | refine blk_drewN ?_ _ | refine blk_drew ?_ | refine blk_alloc ?_ _)); refine blk_put (cs := #[.slice Ao37 t143.length co37, .slice none 0 0]) ?_ 1 _ rfl; (with_reducible repeat (first | refine blk_drewN ?_ _ | refine blk_drew ?_ | refine blk_alloc ?_ _)); refine blk_put (cs := #[.slice none 0 0, .slice none 0 0]) ?_ 0 _ rfl; (with_reducible repeat (first | refine blk_drewN ?_ _ | refine blk_drew ?_ | refine blk_alloc ?_ _)); exact BK141.out) Try.underlying86 rfl kZ) rfl ?_
 exact ⟨_, _, tZC, by (with_reducible repeat (first | apply Kd.R_alloc | apply Kd.R_drewN | apply Kd.R_drew)); exact Kd.R_mono (Kd.R_far (p := ⟨gb141, 1, none⟩) (Kd.R_far (p := ⟨gb141, 0, none⟩) (Kd.R_types HO145.out BK141.out (by decide)) (fun _ hk => hk.2) (.slice Ao37 t143.length co37)) (fun _ hk => hk.2) (.slice (some ⟨go28, 0, none⟩) t146.length co41)) (fun _ hk => trivial), by (with_reducible repeat (first | apply Kd.R_alloc | apply Kd.R_drewN | apply Kd.R_drew)); exact Kd.R_mono (Kd.R_far (p := ⟨gb141, 1, none⟩) (Kd.R_far (p := ⟨gb141, 0, none⟩) (Kd.R_types HO148.out BK141.out (by decide)) (fun _ hk => hk.2) (.slice Ao37 t143.length co37)) (fun _ hk => hk.2) (.slice (some ⟨go28, 0, none⟩) t146.length co41)) (fun _ hk => trivial), bZ⟩
def laws_toSeries.f (a0_0 : ByteArray) (a0_1 : Int) : Option (ByteArray × Int) := some (a0_0, a0_1)
set_option maxHeartbeats 8000000 in
set_option maxRecDepth 100000 in
theorem laws_toSeries.calls (a0_0 : ByteArray) (a0_1 : Int) (r1 : ByteArray) (r2 : Int) (w : World) (h : laws_toSeries.f a0_0 a0_1 = some (r1, r2)) :
    Calls Try.prog 224 #[.agg #[.string a0_0, .int .i64 a0_1]] w fun e w' => e = .returned (.agg #[.string r1, .int .i64 r2]) ∧ Below w.heap.size w w' := by
 have hu303 := Try.underlying303
 have hu304 := Try.underlying304
 have HB := aZ (Below.refl w.heap.size w)
 have H : (some (a0_0, a0_1)) = some (r1, r2) := h
 clear h
 simp only [Option.some.injEq, Prod.mk.injEq] at H
 obtain ⟨rfl, rfl⟩ := H
 go_enter Try.func224, Try.ntmps224
 go_wp2_with (first | ((with_reducible refine gate_dst (N := 1) rfl ?_); refine box_event ?hg (N := 1) ?hd (cs := #[.string a0_0, .int .i64 a0_1]) (t := 303) ?hr ?_; (case hd => rfl); (case hg => rfl); (case hr => first | (go_simp; done) | (go_simp; rfl)); intro gb153 hg w2 hbox hb; have BK153 := aZ (hbox); have GW153 := aZ ((by rw [hg]; exact (below_size (lZB HB.out)) : w.heap.size ≤ gb153)); have GE153 := aZ ((by rw [hg]; exact (below_size (lZB HB.out)) : w.heap.size ≤ gb153)); replace HB := aZ (below_step (lZB HB.out) hb); clear hb hbox hg) | ((with_reducible refine gate_dst (N := 2) rfl ?_); refine box_event ?hg (N := 2) ?hd (cs := #[.string (⟨#[]⟩ : ByteArray), .int .i64 0]) (t := 304) ?hr ?_; (case hd => rfl); (case hg => rfl); (case hr => first | (go_simp; done) | (go_simp; rfl)); intro gb154 hg w3 hbox hb; have BK154 := aZ (hbox); have GW154 := aZ ((by rw [hg]; exact (below_size bZ) : w.heap.size ≤ gb154)); have GE154 := aZ ((by rw [hg]; exact (below_size bZ) : w.heap.size ≤ gb154)); replace HB := aZ (below_step bZ hb); have NB153_154 := aZ ((by rw [hg]; exact Nat.ne_of_lt (blk_lt (bkZ BK153.out)) : gb153 ≠ gb154)); have NB154_153 := aZ ((by rw [hg]; exact Nat.ne_of_gt (blk_lt (bkZ BK153.out)) : gb154 ≠ gb153)); replace BK153 := aZ (blk_below (bkZ BK153.out) hb); clear hb hbox hg) | ((with_reducible refine gate_dst (N := 3) rfl ?_); refine box_event ?hg (N := 3) ?hd (cs := #[.string (⟨#[]⟩ : ByteArray), .int .i64 0]) (t := 304) ?hr ?_; (case hd => rfl); (case hg => rfl); (case hr => first | (go_simp; done) | (go_simp; rfl)); intro gb155 hg w4 hbox hb; have BK155 := aZ (hbox); have GW155 := aZ ((by rw [hg]; exact (below_size bZ) : w.heap.size ≤ gb155)); have GE155 := aZ ((by rw [hg]; exact (below_size bZ) : w.heap.size ≤ gb155)); replace HB := aZ (below_step bZ hb); have NB153_155 := aZ ((by rw [hg]; exact Nat.ne_of_lt (blk_lt (bkZ BK153.out)) : gb153 ≠ gb155)); have NB155_153 := aZ ((by rw [hg]; exact Nat.ne_of_gt (blk_lt (bkZ BK153.out)) : gb155 ≠ gb153)); replace BK153 := aZ (blk_below (bkZ BK153.out) hb); have NB154_155 := aZ ((by rw [hg]; exact Nat.ne_of_lt (blk_lt (bkZ BK154.out)) : gb154 ≠ gb155)); have NB155_154 := aZ ((by rw [hg]; exact Nat.ne_of_gt (blk_lt (bkZ BK154.out)) : gb155 ≠ gb154)); replace BK154 := aZ (blk_below (bkZ BK154.out) hb); clear hb hbox hg; have hnb5 := NB153_154.out; have hnc5 := NB154_153.out; have hnb6 := NB153_155.out; have hnc6 := NB155_153.out; have hcz7_0 : w4.cell? ⟨gb153, 0, none⟩ = some (.string a0_0) := (blk_cell BK153.out 0).trans rfl; have hcz7_1 : w4.cell? ⟨gb153, 1, none⟩ = some (.int .i64 a0_1) := (blk_cell BK153.out 1).trans rfl; have hfz7_0 := blk_frozen BK153.out 0; have hfz7_1 := blk_frozen BK153.out 1; have hnb8 := NB155_154.out; have hnc8 := NB154_155.out; have hcz9_0 : w4.cell? ⟨gb155, 0, none⟩ = some (.string (⟨#[]⟩ : ByteArray)) := (blk_cell BK155.out 0).trans rfl; have hcz9_1 : w4.cell? ⟨gb155, 1, none⟩ = some (.int .i64 0) := (blk_cell BK155.out 1).trans rfl; have hfz9_0 := blk_frozen BK155.out 0; have hfz9_1 := blk_frozen BK155.out 1; have hcz10_0 : w4.cell? ⟨gb154, 0, none⟩ = some (.string (⟨#[]⟩ : ByteArray)) := (blk_cell BK154.out 0).trans rfl; have hcz10_1 : w4.cell? ⟨gb154, 1, none⟩ = some (.int .i64 0) := (blk_cell BK154.out 1).trans rfl; have hfz10_0 := blk_frozen BK154.out 0; have hfz10_1 := blk_frozen BK154.out 1))
 refine bodyPost_ret (results_cell_row rfl _ _ gb154 304 #[.string a0_0, .int .i64 a0_1] (0, 0) _ rfl (by (with_reducible repeat (first | refine blk_drewN ?_ _ | refine blk_drew ?_ | refine blk_alloc ?_ _)); refine blk_put (cs := #[.string a0_0, .int .i64 0]) ?_ 1 _ rfl; (with_reducible repeat (first | refine blk_drewN ?_ _ | refine blk_drew ?_ | refine blk_alloc ?_ _)); refine blk_put (cs := #[.string (⟨#[]⟩ : ByteArray), .int .i64 0]) ?_ 0 _ rfl; (with_reducible repeat (first | refine blk_drewN ?_ _ | refine blk_drew ?_ | refine blk_alloc ?_ _)); refine blk_far ?_ NB154_155.out _; (with_reducible repeat (first | refine blk_drewN ?_ _ | refine blk_drew ?_ | refine blk_alloc ?_ _)); refine blk_far ?_ NB154_155.out _; (with_reducible repeat (first | refine blk_drewN ?_ _ | refine blk_drew ?_ | refine blk_alloc ?_ _)); exact BK154.out) Try.underlying304 rfl kZ) rfl ?_
 exact ⟨tZC, bZ⟩
def laws_toSeriesS.l0 : Nat → List (S303) → List (S304) → Int → Option ((List (S304)))
  | 0, _, _, _ => none
  | k + 1, x0, x3, x4 => if x4 < (x0.length : Int) then (if 0 ≤ x4 then ((laws_toSeries.f ((rd_T303 x0 x4).f0) ((rd_T303 x0 x4).f1)).bind fun bt160 => (if x4 < (x3.length : Int) then (laws_toSeriesS.l0 k x0 (x3.set (x4 : Int).toNat (⟨bt160.1, bt160.2⟩ : S304)) (wrap64 (x4 + 1))) else (none))) else (none)) else (some x3)
def laws_toSeriesS.f (k : Nat) (l0 : List (S303)) : Option ((List (S304))) := if 0 ≤ (l0.length : Int) then (if ((l0.length : Int) : Int).toNat ≤ 11728124029610 then (laws_toSeriesS.l0 k l0 (List.replicate ((l0.length : Int) : Int).toNat z304) 0) else (none)) else (none)
theorem laws_toSeriesS.mono_l : ∀ k, (∀ y0 y1 y2, LeO (laws_toSeriesS.l0 k y0 y1 y2) (laws_toSeriesS.l0 (k + 1) y0 y1 y2))
  | 0 => fun _ _ _ r h => by simp [laws_toSeriesS.l0] at h
  | k + 1 => by
    have ih0 := laws_toSeriesS.mono_l k
    · intro y0 y1 y2
      unfold laws_toSeriesS.l0
      repeat' first
      | (with_reducible exact ih0 _ _ _)
      | (with_reducible exact LeO.refl _)
      | (with_reducible exact LeO.none _)
      | (with_reducible refine LeO.ite ?_ ?_)
      | (with_reducible refine LeO.bind ?_ (fun _ => ?_))
      | exact ih0 _ _ _
      | exact LeO.none _
      | refine LeO.ite ?_ ?_
      | refine LeO.bind ?_ (fun _ => ?_)
theorem laws_toSeriesS.mono : ∀ a0 k, LeO (laws_toSeriesS.f k a0) (laws_toSeriesS.f (k + 1) a0) := by
 intro a0 k
 have ih0 := laws_toSeriesS.mono_l k
 unfold laws_toSeriesS.f
 repeat' first
     | (with_reducible exact ih0 _ _ _)
     | (with_reducible exact LeO.refl _)
     | (with_reducible exact LeO.none _)
     | (with_reducible refine LeO.ite ?_ ?_)
     | (with_reducible refine LeO.bind ?_ (fun _ => ?_))
     | exact ih0 _ _ _
     | exact LeO.none _
     | refine LeO.ite ?_ ?_
     | refine LeO.bind ?_ (fun _ => ?_)
set_option maxHeartbeats 8000000 in
set_option maxRecDepth 100000 in
theorem laws_toSeriesS.calls (k : Nat) (A0 : Option Addr) (c0 : Nat) (l0 : List (S303)) (r : List (S304)) (w : World) (hr0 : Kd.C k303 w A0 l0.length l0) (hc0 : l0.length ≤ c0) (h : laws_toSeriesS.f k l0 = some r) :
    Calls Try.prog 150 #[.slice A0 l0.length c0] w fun e w' => ∃ v0_ : Value, e = .returned (v0_) ∧ Kd.R k304 304 w' w.heap.size (fun _ => True) v0_ r ∧ Below w.heap.size w w' := by
 have hu303 := Try.underlying303
 have hu304 := Try.underlying304
 have HR0 := Aside0.mk hr0
 have HC0 := Aside0.mk hc0
 clear hr0 hc0
 have HB := aZ (Below.refl w.heap.size w)
 have H : (if 0 ≤ (l0.length : Int) then (if ((l0.length : Int) : Int).toNat ≤ 11728124029610 then (laws_toSeriesS.l0 k l0 (List.replicate ((l0.length : Int) : Int).toNat z304) 0) else (none)) else (none)) = some r := h
 clear h
 by_cases c2 : 0 ≤ (l0.length : Int)
 rotate_left
 ·rw [if_neg c2] at H
  exact absurd H (by simp)
 rw [if_pos c2] at H
 have c2b0 := eq_true c2
 have c2b1 := decide_eq_true c2
 clear c2
 by_cases c3 : ((l0.length : Int) : Int).toNat ≤ 11728124029610
 rotate_left
 ·rw [if_neg c3] at H
  exact absurd H (by simp)
 rw [if_pos c3] at H
 have c3b0 := eq_true c3
 have c3b1 := decide_eq_true c3
 clear c3
 obtain ⟨y156, hy156⟩ : ∃ y_ : List (S304), y_ = (List.replicate ((l0.length : Int) : Int).toNat z304) := ⟨_, rfl⟩
 replace H : (laws_toSeriesS.l0 k l0 y156 0) = some r := by first | (rw [hy156]; with_reducible exact H) | (have H2_ := (Option.bind_some _ _).symm.trans H; rw [hy156]; with_reducible exact H2_) | (have H2_ := (Option.bind_some _ _).symm.trans H; with_reducible exact H2_) | with_reducible exact H | (rw [hy156]; exact H) | exact H
 have Ny156 := Aside0.mk hy156
 clear hy156
 have H' := Aside0.mk H
 clear H
 go_enter Try.func150, Try.ntmps150
 go_wp2_with (first | ((with_reducible refine gate_dst (N := 7) rfl ?_); refine Kd.R_make k304 _ 304 rfl (N := 7) rfl 83 _ _ rfl (l0.length : Int) rfl rfl Try.underlying83 (.agg #[(.string ⟨#[]⟩), (.int .i64 0)]) 24 info304 rfl (by decide) (by omega) z304 (ok := fun _ => True) (okp := fun _ => True) (k304_mkM _ _ _ z304 ) (fun _ hk => hk) trivial (of_decide_eq_true tZE) (Nat.le_trans (Nat.mul_le_mul_right _ (of_decide_eq_true tZE : (l0.length : Int).toNat ≤ 11728124029610)) (by omega)) (Below.refl _ _) (Nat.le_refl _) ?_; intro v157 w4 ho5 hb hg_ hnew_; clear hg_ hnew_; (first | rw [← Ny156.out] at ho5 | (simp only [Int.reduceToNat] at ho5; rw [← Ny156.out] at ho5)); have HO158 := aZ (Kd.R_lower ho5 (below_size (lZB HB.out))); replace HB := aZ (below_step (lZB HB.out) hb); clear hb ho5))
 go_loopg [4] k (fun kq v4 w' => ∃ (x3_1 : List (S304)) (x4_1 : Int), v4 = .int .i64 x4_1 ∧ Aside0 (laws_toSeriesS.l0 kq l0 x3_1 x4_1 = some r) ∧ Aside0 (kq ≤ k) ∧ Aside0 (Kd.R k304 304 w' w.heap.size (fun _ => True) v157 x3_1) ∧ Aside0 (Below w.heap.size w w'))
 case atStart => exact ⟨(y156), (0), tZB, H', ⟨Nat.le_refl _⟩, ⟨lZR HO158.out⟩, ⟨bZ⟩⟩
 case round =>
  clear H'
  try clear c1
  try clear c2
  try clear c2b0
  try clear c2b1
  try clear p2
  try clear c3
  try clear c3b0
  try clear c3b1
  obtain ⟨x3_1, x4_1, rfl, HA, HK1, HO_3, HB⟩ := hrel
  cases gk with
  | zero => exact absurd HA.out (by simp [laws_toSeriesS.l0])
  | succ k1 =>
   have H := HA.out
   clear HA
   simp only [laws_toSeriesS.l0] at H
   by_cases c6 : x4_1 < (l0.length : Int)
   rotate_left
   ·rw [if_neg c6] at H
    have c6b0 := decide_eq_false c6
    clear c6
    obtain rfl := Option.some.inj H
    go_wp2
    go_ret
    exact ⟨_, tZC, lZR HO_3.out, bZ⟩
   rw [if_pos c6] at H
   have c6b0 := decide_eq_true c6
   clear c6
   by_cases c7 : 0 ≤ x4_1
   rotate_left
   ·rw [if_neg c7] at H
    exact absurd H (by simp)
   rw [if_pos c7] at H
   have c7b0 := decide_eq_true c7
   clear c7
   replace H := Option.bind_eq_some_iff.mp H
   obtain ⟨⟨t160, t161⟩, A80, H⟩ := H
   replace H : (if x4_1 < (x3_1.length : Int) then (laws_toSeriesS.l0 k1 l0 (x3_1.set (x4_1 : Int).toNat (⟨t160, t161⟩ : S304)) (wrap64 (x4_1 + 1))) else (none)) = some r := H
   have A8 := Aside0.mk A80
   clear A80
   by_cases c9 : x4_1 < (x3_1.length : Int)
   rotate_left
   ·rw [if_neg c9] at H
    exact absurd H (by simp)
   rw [if_pos c9] at H
   have c9b0 := decide_eq_true c9
   clear c9
   obtain ⟨y162, hy162⟩ : ∃ y_ : List (S304), y_ = (x3_1.set (x4_1 : Int).toNat (⟨t160, t161⟩ : S304)) := ⟨_, rfl⟩
   replace H : (laws_toSeriesS.l0 k1 l0 y162 (wrap64 (x4_1 + 1))) = some r := by first | (rw [hy162]; with_reducible exact H) | (have H2_ := (Option.bind_some _ _).symm.trans H; rw [hy162]; with_reducible exact H2_) | (have H2_ := (Option.bind_some _ _).symm.trans H; with_reducible exact H2_) | with_reducible exact H | (rw [hy162]; exact H) | exact H
   have Ny162 := Aside0.mk hy162
   clear hy162
   have H' := Aside0.mk H
   clear H
   have p159 : 0 ≤ (x4_1 : Int) := of_decide_eq_true tZE
   have q159 : x4_1 < (l0.length : Int) := of_decide_eq_true tZE
   obtain ⟨ad159, e159, hx159_0, hx159_1⟩ := at_T303 HR0.out x4_1 p159 q159
   cases e159
   replace hx159_0 := cZ HB hx159_0
   replace hx159_1 := cZ HB hx159_1
   replace p159 := eq_true p159
   replace q159 := eq_true q159
   go_wp2_with (first | ((with_reducible refine gate_callee (f := 224) rfl ?_); refine goesL_ (some 20) rfl rfl Try.func224 kZ rfl #[.agg #[.string ((rd_T303 l0 x4_1).f0), .int .i64 ((rd_T303 l0 x4_1).f1)]] rfl tZA ?_; (with_reducible refine (laws_toSeries.calls ((rd_T303 l0 x4_1).f0) ((rd_T303 l0 x4_1).f1) t160 t161 _ A8.out).mono ?_); rintro e w11 ⟨rfl, hb⟩; refine ⟨_, rfl, ?_⟩; replace HO_3 := aZ (Kd.R_below (lZR HO_3.out) hb); replace HB := aZ (below_step (lZB HB.out) hb); (try clear hb); (try clear hb2); (try clear hk); (try clear hi); have p10 : 0 ≤ (x4_1 : Int) := of_decide_eq_true tZE; have q10 : (x4_1 : Int) < ((x3_1.length : Int) : Int) := of_decide_eq_true tZE; obtain ⟨go10, co10, eo10, gb10, gl10, cl10, HG10⟩ := Kd.R_form HO_3.out (by omega); (first | cases eo10 | (injection eo10 with ea_ en_ ec_; (first | subst ea_ | (injection ea_ with ea_; subst ea_)); subst ec_; clear en_)); have GB10 := Aside0.mk gb10; have GG10 := Aside0.mk HG10; clear gb10 gl10 HG10; obtain ⟨ce10, hcl10, hM10, hcc10, hfr10⟩ := Kd.R_elem HO_3.out z304 (x4_1 : Int) p10 q10; obtain rfl := k304_openM hM10; have hx10_0 : w11.cell? ⟨go10, (x4_1 : Int).toNat * 2, none⟩ = some (.string ((rd_T304 x3_1 x4_1).f0)) := hcc10 0 _ rfl; have hx10_1 : w11.cell? ⟨go10, (x4_1 : Int).toNat * 2 + 1, none⟩ = some (.int .i64 ((rd_T304 x3_1 x4_1).f1)) := hcc10 1 _ rfl; have hf10_0 : w11.frozen? ⟨go10, (x4_1 : Int).toNat * 2, none⟩ = false := hfr10 0; have hf10_1 : w11.frozen? ⟨go10, (x4_1 : Int).toNat * 2 + 1, none⟩ = false := hfr10 1; clear hcl10 hcc10 hfr10 hM10; replace p10 := eq_true p10; replace q10 := eq_true q10; have HX12 := aZ (show Kd.R k304 304 w11 w.heap.size (fun _ => True) (.slice (some ⟨go10, 0, none⟩) x3_1.length co10) x3_1 from (lZR HO_3.out)); obtain ⟨ce12, hcl12, hM12, hcc12, hfr12⟩ := Kd.R_elem HX12.out z304 (x4_1 : Int) (of_decide_eq_true tZE) (by have h_ : (x4_1 : Int) < ((x3_1.length : Int) : Int) := of_decide_eq_true tZE; first | exact h_ | (have e_ := (Kd.R_reads' HO_3.out).1; omega) | simpa using h_); obtain rfl := k304_openM hM12; have HP12 := Kd.R_seg HX12.out (x4_1 : Int) (of_decide_eq_true tZE) (by have h_ : (x4_1 : Int) < ((x3_1.length : Int) : Int) := of_decide_eq_true tZE; first | exact h_ | (have e_ := (Kd.R_reads' HO_3.out).1; omega) | simpa using h_) (seg := [.string t160, .int .i64 t161]) (j := 0) hcl12 hcc12 (show 2 ≤ 2 from by decide) (x' := (⟨t160, t161⟩ : S304)) (k304_mkM _ _ _ (⟨t160, t161⟩ : S304) ) (fun _ hk => hk); have hx12_0 := hcc12 0 _ rfl; (try simp only [show (k304).sz = 2 from rfl, Nat.mul_one, Nat.add_zero] at hx12_0); have hf12_0 := hfr12 0; (try simp only [show (k304).sz = 2 from rfl, Nat.mul_one, Nat.add_zero] at hf12_0); have hx12_1 := hcc12 1 _ rfl; (try simp only [show (k304).sz = 2 from rfl, Nat.mul_one, Nat.add_zero] at hx12_1); have hf12_1 := hfr12 1; (try simp only [show (k304).sz = 2 from rfl, Nat.mul_one, Nat.add_zero] at hf12_1); clear hcl12 hcc12 hfr12 hM12) | ((with_reducible refine gate_store (t := 304) (p := 21) rfl ?_); refine store_event (t := 304) (p := 21) (v := ?vo_w13) (w1 := ((w11.setCell ⟨go10, (x4_1 : Int).toNat * 2, none⟩ (.string t160)).setCell ⟨go10, (x4_1 : Int).toNat * 2 + 1, none⟩ (.int .i64 t161))) ?hg ?ho ?hn ?hr ?_; (case ho => rfl); (case hg => rfl); (case hn => rfl); (case hr => first | (go_simp; done) | (go_simp; rfl)); intro w13 hw; have hg : w11.grownBy w13 (some go10) := (by rw [hw]; exact HP12.2); have hp_ : Kd.R k304 304 w13 w.heap.size (fun _ => True) (.slice (some ⟨go10, 0, none⟩) x3_1.length co10) y162 := (by rw [hw, Ny162.out]; exact HP12.1); clear HP12; replace HO_3 := aZ (hp_); replace HB := aZ ((by rw [hw]; exact below_set (below_set (HB.out) GB10.out) GB10.out : Below w.heap.size w w13)); clear hg hw hp_))
   go_roundg k1
   case measure => have := HK1.out; omega
   case rel => exact ⟨(y162), (wrap64 (x4_1 + 1)), tZB, H', ⟨by have := HK1.out; omega⟩, ⟨lZR HO_3.out⟩, ⟨bZ⟩⟩
def laws_toPaper.f (a0_0 : Int) (a0_1 : Int) (a0_2 : Int) (a0_3 : Bool) : Option (Int × Int × Int × Bool) := some (a0_0, a0_1, a0_2, a0_3)
set_option maxHeartbeats 8000000 in
set_option maxRecDepth 100000 in
theorem laws_toPaper.calls (a0_0 : Int) (a0_1 : Int) (a0_2 : Int) (a0_3 : Bool) (r1 : Int) (r2 : Int) (r3 : Int) (r4 : Bool) (w : World) (h : laws_toPaper.f a0_0 a0_1 a0_2 a0_3 = some (r1, r2, r3, r4)) :
    Calls Try.prog 225 #[.agg #[.int .i64 a0_0, .int .i64 a0_1, .int .i64 a0_2, .bool a0_3]] w fun e w' => e = .returned (.agg #[.int .i64 r1, .int .i64 r2, .int .i64 r3, .bool r4]) ∧ Below w.heap.size w w' := by
 have hu307 := Try.underlying307
 have hu230 := Try.underlying230
 have HB := aZ (Below.refl w.heap.size w)
 have H : (some (a0_0, a0_1, a0_2, a0_3)) = some (r1, r2, r3, r4) := h
 clear h
 simp only [Option.some.injEq, Prod.mk.injEq] at H
 obtain ⟨rfl, rfl, rfl, rfl⟩ := H
 go_enter Try.func225, Try.ntmps225
 go_wp2_with (first | ((with_reducible refine gate_dst (N := 1) rfl ?_); refine box_event ?hg (N := 1) ?hd (cs := #[.int .i64 a0_0, .int .i64 a0_1, .int .i64 a0_2, .bool a0_3]) (t := 307) ?hr ?_; (case hd => rfl); (case hg => rfl); (case hr => first | (go_simp; done) | (go_simp; rfl)); intro gb163 hg w2 hbox hb; have BK163 := aZ (hbox); have GW163 := aZ ((by rw [hg]; exact (below_size (lZB HB.out)) : w.heap.size ≤ gb163)); have GE163 := aZ ((by rw [hg]; exact (below_size (lZB HB.out)) : w.heap.size ≤ gb163)); replace HB := aZ (below_step (lZB HB.out) hb); clear hb hbox hg) | ((with_reducible refine gate_dst (N := 2) rfl ?_); refine box_event ?hg (N := 2) ?hd (cs := #[.int .i64 0, .int .i64 0, .int .i64 0, .bool false]) (t := 230) ?hr ?_; (case hd => rfl); (case hg => rfl); (case hr => first | (go_simp; done) | (go_simp; rfl)); intro gb164 hg w3 hbox hb; have BK164 := aZ (hbox); have GW164 := aZ ((by rw [hg]; exact (below_size bZ) : w.heap.size ≤ gb164)); have GE164 := aZ ((by rw [hg]; exact (below_size bZ) : w.heap.size ≤ gb164)); replace HB := aZ (below_step bZ hb); have NB163_164 := aZ ((by rw [hg]; exact Nat.ne_of_lt (blk_lt (bkZ BK163.out)) : gb163 ≠ gb164)); have NB164_163 := aZ ((by rw [hg]; exact Nat.ne_of_gt (blk_lt (bkZ BK163.out)) : gb164 ≠ gb163)); replace BK163 := aZ (blk_below (bkZ BK163.out) hb); clear hb hbox hg) | ((with_reducible refine gate_dst (N := 3) rfl ?_); refine box_event ?hg (N := 3) ?hd (cs := #[.int .i64 0, .int .i64 0, .int .i64 0, .bool false]) (t := 230) ?hr ?_; (case hd => rfl); (case hg => rfl); (case hr => first | (go_simp; done) | (go_simp; rfl)); intro gb165 hg w4 hbox hb; have BK165 := aZ (hbox); have GW165 := aZ ((by rw [hg]; exact (below_size bZ) : w.heap.size ≤ gb165)); have GE165 := aZ ((by rw [hg]; exact (below_size bZ) : w.heap.size ≤ gb165)); replace HB := aZ (below_step bZ hb); have NB163_165 := aZ ((by rw [hg]; exact Nat.ne_of_lt (blk_lt (bkZ BK163.out)) : gb163 ≠ gb165)); have NB165_163 := aZ ((by rw [hg]; exact Nat.ne_of_gt (blk_lt (bkZ BK163.out)) : gb165 ≠ gb163)); replace BK163 := aZ (blk_below (bkZ BK163.out) hb); have NB164_165 := aZ ((by rw [hg]; exact Nat.ne_of_lt (blk_lt (bkZ BK164.out)) : gb164 ≠ gb165)); have NB165_164 := aZ ((by rw [hg]; exact Nat.ne_of_gt (blk_lt (bkZ BK164.out)) : gb165 ≠ gb164)); replace BK164 := aZ (blk_below (bkZ BK164.out) hb); clear hb hbox hg; have hnb5 := NB163_164.out; have hnc5 := NB164_163.out; have hnb6 := NB163_165.out; have hnc6 := NB165_163.out; have hcz7_0 : w4.cell? ⟨gb163, 0, none⟩ = some (.int .i64 a0_0) := (blk_cell BK163.out 0).trans rfl; have hcz7_1 : w4.cell? ⟨gb163, 1, none⟩ = some (.int .i64 a0_1) := (blk_cell BK163.out 1).trans rfl; have hcz7_2 : w4.cell? ⟨gb163, 2, none⟩ = some (.int .i64 a0_2) := (blk_cell BK163.out 2).trans rfl; have hcz7_3 : w4.cell? ⟨gb163, 3, none⟩ = some (.bool a0_3) := (blk_cell BK163.out 3).trans rfl; have hfz7_0 := blk_frozen BK163.out 0; have hfz7_1 := blk_frozen BK163.out 1; have hfz7_2 := blk_frozen BK163.out 2; have hfz7_3 := blk_frozen BK163.out 3; have hnb8 := NB165_164.out; have hnc8 := NB164_165.out; have hcz9_0 : w4.cell? ⟨gb165, 0, none⟩ = some (.int .i64 0) := (blk_cell BK165.out 0).trans rfl; have hcz9_1 : w4.cell? ⟨gb165, 1, none⟩ = some (.int .i64 0) := (blk_cell BK165.out 1).trans rfl; have hcz9_2 : w4.cell? ⟨gb165, 2, none⟩ = some (.int .i64 0) := (blk_cell BK165.out 2).trans rfl; have hcz9_3 : w4.cell? ⟨gb165, 3, none⟩ = some (.bool false) := (blk_cell BK165.out 3).trans rfl; have hfz9_0 := blk_frozen BK165.out 0; have hfz9_1 := blk_frozen BK165.out 1; have hfz9_2 := blk_frozen BK165.out 2; have hfz9_3 := blk_frozen BK165.out 3; have hcz10_0 : w4.cell? ⟨gb164, 0, none⟩ = some (.int .i64 0) := (blk_cell BK164.out 0).trans rfl; have hcz10_1 : w4.cell? ⟨gb164, 1, none⟩ = some (.int .i64 0) := (blk_cell BK164.out 1).trans rfl; have hcz10_2 : w4.cell? ⟨gb164, 2, none⟩ = some (.int .i64 0) := (blk_cell BK164.out 2).trans rfl; have hcz10_3 : w4.cell? ⟨gb164, 3, none⟩ = some (.bool false) := (blk_cell BK164.out 3).trans rfl; have hfz10_0 := blk_frozen BK164.out 0; have hfz10_1 := blk_frozen BK164.out 1; have hfz10_2 := blk_frozen BK164.out 2; have hfz10_3 := blk_frozen BK164.out 3))
 refine bodyPost_ret (results_cell_row rfl _ _ gb164 230 #[.int .i64 a0_0, .int .i64 a0_1, .int .i64 a0_2, .bool a0_3] (0, 0) _ rfl (by (with_reducible repeat (first | refine blk_drewN ?_ _ | refine blk_drew ?_ | refine blk_alloc ?_ _)); refine blk_put (cs := #[.int .i64 a0_0, .int .i64 a0_1, .int .i64 a0_2, .bool false]) ?_ 3 _ rfl; (with_reducible repeat (first | refine blk_drewN ?_ _ | refine blk_drew ?_ | refine blk_alloc ?_ _)); refine blk_put (cs := #[.int .i64 a0_0, .int .i64 a0_1, .int .i64 0, .bool false]) ?_ 2 _ rfl; (with_reducible repeat (first | refine blk_drewN ?_ _ | refine blk_drew ?_ | refine blk_alloc ?_ _)); refine blk_put (cs := #[.int .i64 a0_0, .int .i64 0, .int .i64 0, .bool false]) ?_ 1 _ rfl; (with_reducible repeat (first | refine blk_drewN ?_ _ | refine blk_drew ?_ | refine blk_alloc ?_ _)); refine blk_put (cs := #[.int .i64 0, .int .i64 0, .int .i64 0, .bool false]) ?_ 0 _ rfl; (with_reducible repeat (first | refine blk_drewN ?_ _ | refine blk_drew ?_ | refine blk_alloc ?_ _)); refine blk_far ?_ NB164_165.out _; (with_reducible repeat (first | refine blk_drewN ?_ _ | refine blk_drew ?_ | refine blk_alloc ?_ _)); refine blk_far ?_ NB164_165.out _; (with_reducible repeat (first | refine blk_drewN ?_ _ | refine blk_drew ?_ | refine blk_alloc ?_ _)); refine blk_far ?_ NB164_165.out _; (with_reducible repeat (first | refine blk_drewN ?_ _ | refine blk_drew ?_ | refine blk_alloc ?_ _)); refine blk_far ?_ NB164_165.out _; (with_reducible repeat (first | refine blk_drewN ?_ _ | refine blk_drew ?_ | refine blk_alloc ?_ _)); exact BK164.out) Try.underlying230 rfl kZ) rfl ?_
 exact ⟨tZC, bZ⟩
def laws_toPaperS.l0 : Nat → List (S307) → List (S230) → Int → Option ((List (S230)))
  | 0, _, _, _ => none
  | k + 1, x0, x3, x4 => if x4 < (x0.length : Int) then (if 0 ≤ x4 then ((laws_toPaper.f ((rd_T307 x0 x4).f0) ((rd_T307 x0 x4).f1) ((rd_T307 x0 x4).f2) ((rd_T307 x0 x4).f3)).bind fun bt170 => (if x4 < (x3.length : Int) then (laws_toPaperS.l0 k x0 (x3.set (x4 : Int).toNat (⟨bt170.1, bt170.2.1, bt170.2.2.1, bt170.2.2.2⟩ : S230)) (wrap64 (x4 + 1))) else (none))) else (none)) else (some x3)
def laws_toPaperS.f (k : Nat) (l0 : List (S307)) : Option ((List (S230))) := if 0 ≤ (l0.length : Int) then (if ((l0.length : Int) : Int).toNat ≤ 8796093022208 then (laws_toPaperS.l0 k l0 (List.replicate ((l0.length : Int) : Int).toNat z230) 0) else (none)) else (none)
theorem laws_toPaperS.mono_l : ∀ k, (∀ y0 y1 y2, LeO (laws_toPaperS.l0 k y0 y1 y2) (laws_toPaperS.l0 (k + 1) y0 y1 y2))
  | 0 => fun _ _ _ r h => by simp [laws_toPaperS.l0] at h
  | k + 1 => by
    have ih0 := laws_toPaperS.mono_l k
    · intro y0 y1 y2
      unfold laws_toPaperS.l0
      repeat' first
      | (with_reducible exact ih0 _ _ _)
      | (with_reducible exact LeO.refl _)
      | (with_reducible exact LeO.none _)
      | (with_reducible refine LeO.ite ?_ ?_)
      | (with_reducible refine LeO.bind ?_ (fun _ => ?_))
      | exact ih0 _ _ _
      | exact LeO.none _
      | refine LeO.ite ?_ ?_
      | refine LeO.bind ?_ (fun _ => ?_)
theorem laws_toPaperS.mono : ∀ a0 k, LeO (laws_toPaperS.f k a0) (laws_toPaperS.f (k + 1) a0) := by
 intro a0 k
 have ih0 := laws_toPaperS.mono_l k
 unfold laws_toPaperS.f
 repeat' first
     | (with_reducible exact ih0 _ _ _)
     | (with_reducible exact LeO.refl _)
     | (with_reducible exact LeO.none _)
     | (with_reducible refine LeO.ite ?_ ?_)
     | (with_reducible refine LeO.bind ?_ (fun _ => ?_))
     | exact ih0 _ _ _
     | exact LeO.none _
     | refine LeO.ite ?_ ?_
     | refine LeO.bind ?_ (fun _ => ?_)
set_option maxHeartbeats 8000000 in
set_option maxRecDepth 100000 in
theorem laws_toPaperS.calls (k : Nat) (A0 : Option Addr) (c0 : Nat) (l0 : List (S307)) (r : List (S230)) (w : World) (hr0 : Kd.C k307 w A0 l0.length l0) (hc0 : l0.length ≤ c0) (h : laws_toPaperS.f k l0 = some r) :
    Calls Try.prog 151 #[.slice A0 l0.length c0] w fun e w' => ∃ v0_ : Value, e = .returned (v0_) ∧ Kd.R k230 230 w' w.heap.size (fun _ => True) v0_ r ∧ Below w.heap.size w w' := by
 have hu307 := Try.underlying307
 have hu230 := Try.underlying230
 have HR0 := Aside0.mk hr0
 have HC0 := Aside0.mk hc0
 clear hr0 hc0
 have HB := aZ (Below.refl w.heap.size w)
 have H : (if 0 ≤ (l0.length : Int) then (if ((l0.length : Int) : Int).toNat ≤ 8796093022208 then (laws_toPaperS.l0 k l0 (List.replicate ((l0.length : Int) : Int).toNat z230) 0) else (none)) else (none)) = some r := h
 clear h
 by_cases c2 : 0 ≤ (l0.length : Int)
 rotate_left
 ·rw [if_neg c2] at H
  exact absurd H (by simp)
 rw [if_pos c2] at H
 have c2b0 := eq_true c2
 have c2b1 := decide_eq_true c2
 clear c2
 by_cases c3 : ((l0.length : Int) : Int).toNat ≤ 8796093022208
 rotate_left
 ·rw [if_neg c3] at H
  exact absurd H (by simp)
 rw [if_pos c3] at H
 have c3b0 := eq_true c3
 have c3b1 := decide_eq_true c3
 clear c3
 obtain ⟨y166, hy166⟩ : ∃ y_ : List (S230), y_ = (List.replicate ((l0.length : Int) : Int).toNat z230) := ⟨_, rfl⟩
 replace H : (laws_toPaperS.l0 k l0 y166 0) = some r := by first | (rw [hy166]; with_reducible exact H) | (have H2_ := (Option.bind_some _ _).symm.trans H; rw [hy166]; with_reducible exact H2_) | (have H2_ := (Option.bind_some _ _).symm.trans H; with_reducible exact H2_) | with_reducible exact H | (rw [hy166]; exact H) | exact H
 have Ny166 := Aside0.mk hy166
 clear hy166
 have H' := Aside0.mk H
 clear H
 go_enter Try.func151, Try.ntmps151
 go_wp2_with (first | ((with_reducible refine gate_dst (N := 7) rfl ?_); refine Kd.R_make k230 _ 230 rfl (N := 7) rfl 84 _ _ rfl (l0.length : Int) rfl rfl Try.underlying84 (.agg #[(.int .i64 0), (.int .i64 0), (.int .i64 0), (.bool false)]) 32 info230 rfl (by decide) (by omega) z230 (ok := fun _ => True) (okp := fun _ => True) (k230_mkM _ _ _ z230 ) (fun _ hk => hk) trivial (of_decide_eq_true tZE) (Nat.le_trans (Nat.mul_le_mul_right _ (of_decide_eq_true tZE : (l0.length : Int).toNat ≤ 8796093022208)) (by omega)) (Below.refl _ _) (Nat.le_refl _) ?_; intro v167 w4 ho5 hb hg_ hnew_; clear hg_ hnew_; (first | rw [← Ny166.out] at ho5 | (simp only [Int.reduceToNat] at ho5; rw [← Ny166.out] at ho5)); have HO168 := aZ (Kd.R_lower ho5 (below_size (lZB HB.out))); replace HB := aZ (below_step (lZB HB.out) hb); clear hb ho5))
 go_loopg [4] k (fun kq v4 w' => ∃ (x3_1 : List (S230)) (x4_1 : Int), v4 = .int .i64 x4_1 ∧ Aside0 (laws_toPaperS.l0 kq l0 x3_1 x4_1 = some r) ∧ Aside0 (kq ≤ k) ∧ Aside0 (Kd.R k230 230 w' w.heap.size (fun _ => True) v167 x3_1) ∧ Aside0 (Below w.heap.size w w'))
 case atStart => exact ⟨(y166), (0), tZB, H', ⟨Nat.le_refl _⟩, ⟨lZR HO168.out⟩, ⟨bZ⟩⟩
 case round =>
  clear H'
  try clear c1
  try clear c2
  try clear c2b0
  try clear c2b1
  try clear p2
  try clear c3
  try clear c3b0
  try clear c3b1
  obtain ⟨x3_1, x4_1, rfl, HA, HK1, HO_3, HB⟩ := hrel
  cases gk with
  | zero => exact absurd HA.out (by simp [laws_toPaperS.l0])
  | succ k1 =>
   have H := HA.out
   clear HA
   simp only [laws_toPaperS.l0] at H
   by_cases c6 : x4_1 < (l0.length : Int)
   rotate_left
   ·rw [if_neg c6] at H
    have c6b0 := decide_eq_false c6
    clear c6
    obtain rfl := Option.some.inj H
    go_wp2
    go_ret
    exact ⟨_, tZC, lZR HO_3.out, bZ⟩
   rw [if_pos c6] at H
   have c6b0 := decide_eq_true c6
   clear c6
   by_cases c7 : 0 ≤ x4_1
   rotate_left
   ·rw [if_neg c7] at H
    exact absurd H (by simp)
   rw [if_pos c7] at H
   have c7b0 := decide_eq_true c7
   clear c7
   replace H := Option.bind_eq_some_iff.mp H
   obtain ⟨⟨t170, t171, t172, t173⟩, A80, H⟩ := H
   replace H : (if x4_1 < (x3_1.length : Int) then (laws_toPaperS.l0 k1 l0 (x3_1.set (x4_1 : Int).toNat (⟨t170, t171, t172, t173⟩ : S230)) (wrap64 (x4_1 + 1))) else (none)) = some r := H
   have A8 := Aside0.mk A80
   clear A80
   by_cases c9 : x4_1 < (x3_1.length : Int)
   rotate_left
   ·rw [if_neg c9] at H
    exact absurd H (by simp)
   rw [if_pos c9] at H
   have c9b0 := decide_eq_true c9
   clear c9
   obtain ⟨y174, hy174⟩ : ∃ y_ : List (S230), y_ = (x3_1.set (x4_1 : Int).toNat (⟨t170, t171, t172, t173⟩ : S230)) := ⟨_, rfl⟩
   replace H : (laws_toPaperS.l0 k1 l0 y174 (wrap64 (x4_1 + 1))) = some r := by first | (rw [hy174]; with_reducible exact H) | (have H2_ := (Option.bind_some _ _).symm.trans H; rw [hy174]; with_reducible exact H2_) | (have H2_ := (Option.bind_some _ _).symm.trans H; with_reducible exact H2_) | with_reducible exact H | (rw [hy174]; exact H) | exact H
   have Ny174 := Aside0.mk hy174
   clear hy174
   have H' := Aside0.mk H
   clear H
   have p169 : 0 ≤ (x4_1 : Int) := of_decide_eq_true tZE
   have q169 : x4_1 < (l0.length : Int) := of_decide_eq_true tZE
   obtain ⟨ad169, e169, hx169_0, hx169_1, hx169_2, hx169_3⟩ := at_T307 HR0.out x4_1 p169 q169
   cases e169
   replace hx169_0 := cZ HB hx169_0
   replace hx169_1 := cZ HB hx169_1
   replace hx169_2 := cZ HB hx169_2
   replace hx169_3 := cZ HB hx169_3
   replace p169 := eq_true p169
   replace q169 := eq_true q169
   go_wp2_with (first | ((with_reducible refine gate_callee (f := 225) rfl ?_); refine goesL_ (some 20) rfl rfl Try.func225 kZ rfl #[.agg #[.int .i64 ((rd_T307 l0 x4_1).f0), .int .i64 ((rd_T307 l0 x4_1).f1), .int .i64 ((rd_T307 l0 x4_1).f2), .bool ((rd_T307 l0 x4_1).f3)]] rfl tZA ?_; (with_reducible refine (laws_toPaper.calls ((rd_T307 l0 x4_1).f0) ((rd_T307 l0 x4_1).f1) ((rd_T307 l0 x4_1).f2) ((rd_T307 l0 x4_1).f3) t170 t171 t172 t173 _ A8.out).mono ?_); rintro e w11 ⟨rfl, hb⟩; refine ⟨_, rfl, ?_⟩; replace HO_3 := aZ (Kd.R_below (lZR HO_3.out) hb); replace HB := aZ (below_step (lZB HB.out) hb); (try clear hb); (try clear hb2); (try clear hk); (try clear hi); have p10 : 0 ≤ (x4_1 : Int) := of_decide_eq_true tZE; have q10 : (x4_1 : Int) < ((x3_1.length : Int) : Int) := of_decide_eq_true tZE; obtain ⟨go10, co10, eo10, gb10, gl10, cl10, HG10⟩ := Kd.R_form HO_3.out (by omega); (first | cases eo10 | (injection eo10 with ea_ en_ ec_; (first | subst ea_ | (injection ea_ with ea_; subst ea_)); subst ec_; clear en_)); have GB10 := Aside0.mk gb10; have GG10 := Aside0.mk HG10; clear gb10 gl10 HG10; obtain ⟨ce10, hcl10, hM10, hcc10, hfr10⟩ := Kd.R_elem HO_3.out z230 (x4_1 : Int) p10 q10; obtain rfl := k230_openM hM10; have hx10_0 : w11.cell? ⟨go10, (x4_1 : Int).toNat * 4, none⟩ = some (.int .i64 ((rd_T230 x3_1 x4_1).f0)) := hcc10 0 _ rfl; have hx10_1 : w11.cell? ⟨go10, (x4_1 : Int).toNat * 4 + 1, none⟩ = some (.int .i64 ((rd_T230 x3_1 x4_1).f1)) := hcc10 1 _ rfl; have hx10_2 : w11.cell? ⟨go10, (x4_1 : Int).toNat * 4 + 2, none⟩ = some (.int .i64 ((rd_T230 x3_1 x4_1).f2)) := hcc10 2 _ rfl; have hx10_3 : w11.cell? ⟨go10, (x4_1 : Int).toNat * 4 + 3, none⟩ = some (.bool ((rd_T230 x3_1 x4_1).f3)) := hcc10 3 _ rfl; have hf10_0 : w11.frozen? ⟨go10, (x4_1 : Int).toNat * 4, none⟩ = false := hfr10 0; have hf10_1 : w11.frozen? ⟨go10, (x4_1 : Int).toNat * 4 + 1, none⟩ = false := hfr10 1; have hf10_2 : w11.frozen? ⟨go10, (x4_1 : Int).toNat * 4 + 2, none⟩ = false := hfr10 2; have hf10_3 : w11.frozen? ⟨go10, (x4_1 : Int).toNat * 4 + 3, none⟩ = false := hfr10 3; clear hcl10 hcc10 hfr10 hM10; replace p10 := eq_true p10; replace q10 := eq_true q10; have HX12 := aZ (show Kd.R k230 230 w11 w.heap.size (fun _ => True) (.slice (some ⟨go10, 0, none⟩) x3_1.length co10) x3_1 from (lZR HO_3.out)); obtain ⟨ce12, hcl12, hM12, hcc12, hfr12⟩ := Kd.R_elem HX12.out z230 (x4_1 : Int) (of_decide_eq_true tZE) (by have h_ : (x4_1 : Int) < ((x3_1.length : Int) : Int) := of_decide_eq_true tZE; first | exact h_ | (have e_ := (Kd.R_reads' HO_3.out).1; omega) | simpa using h_); obtain rfl := k230_openM hM12; have HP12 := Kd.R_seg HX12.out (x4_1 : Int) (of_decide_eq_true tZE) (by have h_ : (x4_1 : Int) < ((x3_1.length : Int) : Int) := of_decide_eq_true tZE; first | exact h_ | (have e_ := (Kd.R_reads' HO_3.out).1; omega) | simpa using h_) (seg := [.int .i64 t170, .int .i64 t171, .int .i64 t172, .bool t173]) (j := 0) hcl12 hcc12 (show 4 ≤ 4 from by decide) (x' := (⟨t170, t171, t172, t173⟩ : S230)) (k230_mkM _ _ _ (⟨t170, t171, t172, t173⟩ : S230) ) (fun _ hk => hk); have hx12_0 := hcc12 0 _ rfl; (try simp only [show (k230).sz = 4 from rfl, Nat.mul_one, Nat.add_zero] at hx12_0); have hf12_0 := hfr12 0; (try simp only [show (k230).sz = 4 from rfl, Nat.mul_one, Nat.add_zero] at hf12_0); have hx12_1 := hcc12 1 _ rfl; (try simp only [show (k230).sz = 4 from rfl, Nat.mul_one, Nat.add_zero] at hx12_1); have hf12_1 := hfr12 1; (try simp only [show (k230).sz = 4 from rfl, Nat.mul_one, Nat.add_zero] at hf12_1); have hx12_2 := hcc12 2 _ rfl; (try simp only [show (k230).sz = 4 from rfl, Nat.mul_one, Nat.add_zero] at hx12_2); have hf12_2 := hfr12 2; (try simp only [show (k230).sz = 4 from rfl, Nat.mul_one, Nat.add_zero] at hf12_2); have hx12_3 := hcc12 3 _ rfl; (try simp only [show (k230).sz = 4 from rfl, Nat.mul_one, Nat.add_zero] at hx12_3); have hf12_3 := hfr12 3; (try simp only [show (k230).sz = 4 from rfl, Nat.mul_one, Nat.add_zero] at hf12_3); clear hcl12 hcc12 hfr12 hM12) | ((with_reducible refine gate_store (t := 230) (p := 21) rfl ?_); refine store_event (t := 230) (p := 21) (v := ?vo_w13) (w1 := ((((w11.setCell ⟨go10, (x4_1 : Int).toNat * 4, none⟩ (.int .i64 t170)).setCell ⟨go10, (x4_1 : Int).toNat * 4 + 1, none⟩ (.int .i64 t171)).setCell ⟨go10, (x4_1 : Int).toNat * 4 + 2, none⟩ (.int .i64 t172)).setCell ⟨go10, (x4_1 : Int).toNat * 4 + 3, none⟩ (.bool t173))) ?hg ?ho ?hn ?hr ?_; (case ho => rfl); (case hg => rfl); (case hn => rfl); (case hr => first | (go_simp; done) | (go_simp; rfl)); intro w13 hw; have hg : w11.grownBy w13 (some go10) := (by rw [hw]; exact HP12.2); have hp_ : Kd.R k230 230 w13 w.heap.size (fun _ => True) (.slice (some ⟨go10, 0, none⟩) x3_1.length co10) y174 := (by rw [hw, Ny174.out]; exact HP12.1); clear HP12; replace HO_3 := aZ (hp_); replace HB := aZ ((by rw [hw]; exact below_set (below_set (below_set (below_set (HB.out) GB10.out) GB10.out) GB10.out) GB10.out : Below w.heap.size w w13)); clear hg hw hp_))
   go_roundg k1
   case measure => have := HK1.out; omega
   case rel => exact ⟨(y174), (wrap64 (x4_1 + 1)), tZB, H', ⟨by have := HK1.out; omega⟩, ⟨lZR HO_3.out⟩, ⟨bZ⟩⟩
end Go.Proofs.Ytnbecbgpefmcoaa.PFnExactVoid
