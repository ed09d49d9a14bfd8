import Derived.Test.YtnbecbgpefmcoaaVPFnExactVoidx0
import Derived.Test.YtnbecbgpefmcoaaVPFnExactVoidx7
import Derived.Test.YtnbecbgpefmcoaaVSlimWords
namespace Go.Proofs.Ytnbecbgpefmcoaa.PFnExactVoid
open Go.Proofs.Ytnbecbgpefmcoaa.SlimWords
open Go.RowKit Go.Proofs.YtnbecbgpefmcoaaW.PrintWords Go.Proofs.YtnbecbgpefmcoaaW.PrintLast Go.Proofs.YtnbecbgpefmcoaaW.PrintMore Go.Proofs.Ytnbecbgpefmcoaa.MapWords
attribute [local go_sem] max2_int min2_int max_two min_two max_three min_three max_four min_four
set_option linter.unusedVariables false
set_option linter.unusedSimpArgs false
private abbrev I' := true
private abbrev O' := false
private abbrev L0' : Array Bool := #[O',O',O',O',O',O',O',O',O',O']
private abbrev L1' : Array Bool := #[O',I',O',O',O',O',O',O',O',O']
private abbrev L2' : Array Bool := #[O',I',O',O',O',I',O',O',O',O']
private abbrev L3' : Array Bool := #[O',I',I',O',O',I',O',O',O',O']
private abbrev L4' : Array Bool := #[O',I',I',O',O',I',I',O',O',O']
private abbrev L5' : Array Bool := #[I',I',I',I',I',I',I',O',O',O']
private abbrev L6' : Array Bool := #[I',I',I',O',O',I',I',O',O',O']
private abbrev L7' : Array Bool := #[O',I',I',O',I',I',I',O',O',O']
private abbrev L8' : Array Bool := #[I',I',I',I',O',I',I',O',O',O']
private abbrev L9' : Array Bool := #[I',I',I',O',I',I',I',O',O',O']
private abbrev L10' : Array Bool := #[I',I',I',I',I',I',I',I',O',O']
private abbrev L11' : Array Bool := #[I',I',I',I',I',I',I',I',I',O']
private abbrev L12' : Array Bool := #[I',I',I',I',I',I',I',I',I',I']
def impl_copyRegister.f (l0_0 : List (S304)) (l0_1 : List (S230)) : Option ((List (S304)) × (List (S230))) := (some (([] : List (S304)) : List (S304))).bind fun y222 => (if y222.length + l0_0.length < 5864062014805 then ((some (([] : List (S230)) : List (S230))).bind fun y228 => (if y228.length + l0_1.length < 4398046511104 then (some ((y222 ++ l0_0), (y228 ++ l0_1))) else (none))) else (none))
def impl_copyRegister.T1 : Bool × List (List Nat × List Nat) := (true, [([], []), ([], []), ([1], [1]), ([0, 2], [0, 2]), ([], []), ([], []), ([5], [5]), ([4, 6, 3], [4, 6]), ([3, 7], [3, 7]), ([8, 7, 0, 1, 2, 3, 4, 5, 6, 7, 8], [8])])
def impl_copyRegister.B1 : List Nat := [0, 0, 2, 7, 0, 0, 32, 127, 255, 511]
theorem impl_copyRegister.tab1 : rtab .any (opsOf Try.f153 1) = impl_copyRegister.T1 := by kernel_rfl
theorem impl_copyRegister.bits1 : waitsOk impl_copyRegister.T1.2 impl_copyRegister.B1 = true := by kernel_rfl
set_option maxHeartbeats 8000000 in
set_option maxRecDepth 100000 in
theorem impl_copyRegister.calls (A0_0 : Option Addr) (c0_0 : Nat) (l0_0 : List (S304)) (A0_1 : Option Addr) (c0_1 : Nat) (l0_1 : List (S230)) (r1 : List (S304)) (r2 : List (S230)) (w : World) (hr0_0 : Kd.C k304 w A0_0 l0_0.length l0_0) (hc0_0 : l0_0.length ≤ c0_0) (hr0_1 : Kd.C k230 w A0_1 l0_1.length l0_1) (hc0_1 : l0_1.length ≤ c0_1) (h : impl_copyRegister.f l0_0 l0_1 = some (r1, r2)) :
    Calls Try.prog 153 #[.agg #[.slice A0_0 l0_0.length c0_0, .slice A0_1 l0_1.length c0_1]] w fun e w' => ∃ v0_ v1_ : Value, e = .returned (.agg #[v0_, v1_]) ∧ Kd.R k304 304 w' w.heap.size (fun _ => True) v0_ r1 ∧ Kd.R k230 230 w' w.heap.size (fun _ => True) v1_ r2 ∧ Below w.heap.size w w' := by
 have hu86 := Try.underlying86
 have HR0_0 := Aside0.mk hr0_0
 have HC0_0 := Aside0.mk hc0_0
 clear hr0_0 hc0_0
 have HR0_1 := Aside0.mk hr0_1
 have HC0_1 := Aside0.mk hc0_1
 clear hr0_1 hc0_1
 have HB := aZ (Below.refl w.heap.size w)
 have H : ((some (([] : List (S304)) : List (S304))).bind fun y222 => (if y222.length + l0_0.length < 5864062014805 then ((some (([] : List (S230)) : List (S230))).bind fun y228 => (if y228.length + l0_1.length < 4398046511104 then (some ((y222 ++ l0_0), (y228 ++ l0_1))) else (none))) else (none))) = some (r1, r2) := h
 clear h
 obtain ⟨y222, hy222⟩ : ∃ y_ : List (S304), y_ = (([] : List (S304))) := ⟨_, rfl⟩
 replace H : (if y222.length + l0_0.length < 5864062014805 then ((some (([] : List (S230)) : List (S230))).bind fun y228 => (if y228.length + l0_1.length < 4398046511104 then (some ((y222 ++ l0_0), (y228 ++ l0_1))) else (none))) else (none)) = some (r1, r2) := by first | (rw [hy222]; with_reducible exact H) | (have H2_ := (Option.bind_some _ _).symm.trans H; rw [hy222]; with_reducible exact H2_) | (have H2_ := (Option.bind_some _ _).symm.trans H; with_reducible exact H2_) | with_reducible exact H | (rw [hy222]; exact H) | exact H
 have Ny222 := Aside0.mk hy222
 clear hy222
 by_cases c2 : y222.length + l0_0.length < 5864062014805
 rotate_left
 ·rw [if_neg c2] at H
  exact absurd H (by simp)
 rw [if_pos c2] at H
 have LMc2 := Aside0.mk c2
 clear c2
 obtain ⟨y225, hy225⟩ : ∃ y_ : List (S304), y_ = (y222 ++ l0_0) := ⟨_, rfl⟩
 replace H : ((some (([] : List (S230)) : List (S230))).bind fun y228 => (if y228.length + l0_1.length < 4398046511104 then (some (y225, (y228 ++ l0_1))) else (none))) = some (r1, r2) := by first | (rw [hy225]; with_reducible exact H) | (have H2_ := (Option.bind_some _ _).symm.trans H; rw [hy225]; with_reducible exact H2_) | (have H2_ := (Option.bind_some _ _).symm.trans H; with_reducible exact H2_) | with_reducible exact H | (rw [hy225]; exact H) | exact H
 have Ny225 := Aside0.mk hy225
 clear hy225
 obtain ⟨y228, hy228⟩ : ∃ y_ : List (S230), y_ = (([] : List (S230))) := ⟨_, rfl⟩
 replace H : (if y228.length + l0_1.length < 4398046511104 then (some (y225, (y228 ++ l0_1))) else (none)) = some (r1, r2) := by first | (rw [hy228]; with_reducible exact H) | (have H2_ := (Option.bind_some _ _).symm.trans H; rw [hy228]; with_reducible exact H2_) | (have H2_ := (Option.bind_some _ _).symm.trans H; with_reducible exact H2_) | with_reducible exact H | (rw [hy228]; exact H) | exact H
 have Ny228 := Aside0.mk hy228
 clear hy228
 by_cases c3 : y228.length + l0_1.length < 4398046511104
 rotate_left
 ·rw [if_neg c3] at H
  exact absurd H (by simp)
 rw [if_pos c3] at H
 have LMc3 := Aside0.mk c3
 clear c3
 obtain ⟨y231, hy231⟩ : ∃ y_ : List (S230), y_ = (y228 ++ l0_1) := ⟨_, rfl⟩
 replace H : (some (y225, y231)) = some (r1, r2) := by first | (rw [hy231]; with_reducible exact H) | (have H2_ := (Option.bind_some _ _).symm.trans H; rw [hy231]; with_reducible exact H2_) | (have H2_ := (Option.bind_some _ _).symm.trans H; with_reducible exact H2_) | with_reducible exact H | (rw [hy231]; exact H) | exact H
 have Ny231 := Aside0.mk hy231
 clear hy231
 simp only [Option.some.injEq, Prod.mk.injEq] at H
 obtain ⟨rfl, rfl⟩ := H
 go_enter Try.func153, Try.ntmps153
 try go_wp2_with (first | ((with_reducible refine gate_dst (N := 1) rfl ?_); refine box_event ?hg (N := 1) ?hd (cs := #[.slice A0_0 l0_0.length c0_0, .slice A0_1 l0_1.length c0_1]) (t := 86) ?hr ?_; (case hd => rfl); (case hg => rfl); (case hr => first | (go_simp; done) | (go_simp; rfl)); intro gb220 hg w4 hbox hb; have BK220 := aZ (hbox); have GW220 := aZ ((by rw [hg]; exact (below_size (lZB HB.out)) : w.heap.size ≤ gb220)); have GE220 := aZ ((by rw [hg]; exact (below_size (lZB HB.out)) : w.heap.size ≤ gb220)); replace HB := aZ (below_step (lZB HB.out) hb); clear hb hbox hg) | ((with_reducible refine gate_dst (N := 2) rfl ?_); refine box_event ?hg (N := 2) ?hd (cs := #[.slice none 0 0, .slice none 0 0]) (t := 86) ?hr ?_; (case hd => rfl); (case hg => rfl); (case hr => first | (go_simp; done) | (go_simp; rfl)); intro gb221 hg w5 hbox hb; have BK221 := aZ (hbox); have GW221 := aZ ((by rw [hg]; exact (below_size bZ) : w.heap.size ≤ gb221)); have GE221 := aZ ((by rw [hg]; exact (below_size bZ) : w.heap.size ≤ gb221)); replace HB := aZ (below_step bZ hb); have NB220_221 := aZ ((by rw [hg]; exact Nat.ne_of_lt (blk_lt (bkZ BK220.out)) : gb220 ≠ gb221)); have NB221_220 := aZ ((by rw [hg]; exact Nat.ne_of_gt (blk_lt (bkZ BK220.out)) : gb221 ≠ gb220)); replace BK220 := aZ (blk_below (bkZ BK220.out) hb); clear hb hbox hg))
 replace BK220 := aZ (blk_drew BK220.out)
 replace BK221 := aZ (blk_drew BK221.out)
 replace HB := aZ (below_drew1 HB.out)
 refine start_ (n := 10) (S := fun w' => w'.cell? ⟨gb220, 0, none⟩ = some (.slice A0_0 l0_0.length c0_0) ∧ w'.cell? ⟨gb220, 1, none⟩ = some (.slice A0_1 l0_1.length c0_1)) (ds := []) L0' kZ rfl rfl ⟨(blk_cell BK220.out 0).trans rfl, (blk_cell BK220.out 1).trans rfl⟩ (fun hHeld => ?_); refine with_tabW impl_copyRegister.tab1 impl_copyRegister.bits1 (fun HT_ HW_ => ?_)
 generalize w5.drew = w6 at BK220 BK221 HB hHeld ⊢
 refine pure_ (i := 1) (N := some 4) (v := ?_) (a' := ?_) L1' rfl rfl (any_of HT_.out kZ) (fun _ _ _ h => h) (Or.inl ⟨by rfl, ?_⟩) ?_ ?_
 rotate_left
 ·intro w'
  go_simp
  with_reducible rfl
 rotate_left
 ·simp only [Act.put, sZ1, sZ2, sZ3, i64_w, i32_w]
  rfl
 refine pure_ (i := 5) (N := some 8) (v := ?_) (a' := ?_) L2' rfl rfl (any_of HT_.out kZ) (fun _ _ _ h => h) (Or.inl ⟨by rfl, ?_⟩) ?_ ?_
 rotate_left
 ·intro w'
  go_simp
  with_reducible rfl
 rotate_left
 ·simp only [Act.put, sZ1, sZ2, sZ3, i64_w, i32_w]
  rfl
 refine take_ (i := 2) (N := some 5) (v := ?_) (a' := ?_) L3' rfl rfl (take_ofW HT_.out HW_.out kZ) (fun _ _ _ h => h) (Or.inl ⟨by rfl, ?_⟩) hHeld ?_ ?_
 rotate_left
 ·rintro w' ⟨s0, s1⟩
  go_simp
  with_reducible rfl
 rotate_left
 ·simp only [Act.put, sZ1, sZ2, sZ3, i64_w, i32_w]
  rfl
 refine take_ (i := 6) (N := some 9) (v := ?_) (a' := ?_) L4' rfl rfl (take_ofW HT_.out HW_.out kZ) (fun _ _ _ h => h) (Or.inl ⟨by rfl, ?_⟩) hHeld ?_ ?_
 rotate_left
 ·rintro w' ⟨s0, s1⟩
  go_simp
  with_reducible rfl
 rotate_left
 ·simp only [Act.put, sZ1, sZ2, sZ3, i64_w, i32_w]
  rfl
 refine join_ (σ := Value × Value × Value) 3 L5' (fun s_ => [(3, s_.1), (6, s_.2.1), (7, s_.2.2)]) (fun s_ w' => (w'.cell? ⟨gb220, 0, none⟩ = some (.slice A0_0 l0_0.length c0_0) ∧ w'.cell? ⟨gb220, 1, none⟩ = some (.slice A0_1 l0_1.length c0_1)) ∧ (Kd.R k304 304 w' w.heap.size (fun _ => True) s_.2.1 y225) ∧ (Kd.R k230 230 w' w.heap.size (fun _ => True) s_.2.2 y228) ∧ (w'.heap[gb220]? = some (.cells #[.slice A0_0 l0_0.length c0_0, .slice A0_1 l0_1.length c0_1] 86 (0, 0))) ∧ (w'.heap[gb221]? = some (.cells #[.slice none 0 0, .slice none 0 0] 86 (0, 0))) ∧ (Below w.heap.size w w')) ?_ ?_
 rotate_left
 ·intro hCont
  refine two_ (i := 0) (j := 4) (Ni := some 3) (Nj := some 7) L6' L7' rfl rfl rfl rfl (two_of HT_.out kZ) (by decide) (by decide) (fun K hK => ?_) (fun K hK => ?_)
  ·skip
   refine Kd.R_lit_step k304 _ 304 ?hg (N := 3) ?hd (xs := ([] : List (S304))) (inner := []) (ok := fun _ => True) (okp := fun _ => True) ?hr ?hp (fun _ hk => hk) trivial (Below.refl _ _) (Nat.le_refl _) (by simp) ?_; (case hd => rfl); (case hg => rfl); (case hr => first | (go_simp; done) | (go_simp; rfl)); (case hp => exact (Reps.none _ _))
   intro v223 w7 ho8 hb hg_ hnew_
   clear hg_ hnew_
   (first | rw [← Ny222.out] at ho8 | (simp only [Int.reduceToNat] at ho8; rw [← Ny222.out] at ho8))
   have HO224 := aZ (Kd.R_lower ho8 (below_size bZ))
   replace BK220 := aZ (blk_below (bkZ BK220.out) hb)
   replace BK221 := aZ (blk_below (bkZ BK221.out) hb)
   replace HB := aZ (below_step bZ hb)
   clear hb ho8
   refine hK.out _ _ ⟨(blk_cell BK220.out 0).trans rfl, (blk_cell BK220.out 1).trans rfl⟩ (fun hHeld => ?_)
   clear hK K
   refine norm_ (a' := ?_) ?_ ?_
   rotate_left
   ·show Act.put _ (some 3) _ = _
    simp only [Act.put, sZ1, sZ2, sZ3, i64_w, i32_w]
    rfl
   refine two_ (i := 3) (j := 4) (Ni := some 6) (Nj := some 7) L8' L9' rfl rfl rfl rfl (two_of HT_.out kZ) (by decide) (by decide) (fun K hK => ?_) (fun K hK => ?_)
   ·skip
    refine Kd.R_append_rows_step k304 (w0 := w) w.heap.size (by rfl) (.tmp 3) (.tmp 5) 83 304 (.agg #[(.string ⟨#[]⟩), (.int .i64 0)]) 24 rfl Try.underlying83 info304 rfl (by decide) (by omega) v223 y222 l0_0 _ _ _ (fun _ => True) (fun _ => False) rfl rfl ?aO ?aR (fun _ _ h => h) (fun _ h => h.elim) ?aF ?aB ?aS ?aL ?_
    (case aR => repeat (first | exact (Kd.C_below HR0_0.out HB.out) | (with_reducible refine Kd.C_alloc ?_ _) | (with_reducible refine Kd.C_drewN ?_ _) | (with_reducible refine Kd.C_drew ?_)))
    (case aB => exact bZ)
    (case aF => exact (fun _ _ => trivial))
    (case aO => exact (lZR HO224.out))
    (case aS => exact (below_size bZ))
    (case aL => have := LMc2.out; omega)
    intro v226 w9 ho hb hg hat
    rw [← Ny225.out] at ho
    replace BK220 := aZ (blk_grown (bkZ BK220.out) hg (Kd.R_ne HO224.out BK220.out (by decide)))
    replace BK221 := aZ (blk_grown (bkZ BK221.out) hg (Kd.R_ne HO224.out BK221.out (by decide)))
    replace HB := aZ (hb)
    have HO227 := aZ (ho)
    clear HO224
    clear ho hb hg hat
    refine hK.out _ _ ⟨(blk_cell BK220.out 0).trans rfl, (blk_cell BK220.out 1).trans rfl⟩ (fun hHeld => ?_)
    clear hK K
    refine norm_ (a' := ?_) ?_ ?_
    rotate_left
    ·show Act.put _ (some 6) _ = _
     simp only [Act.put, sZ1, sZ2, sZ3, i64_w, i32_w]
     rfl
    refine one_ (i := 4) (N := some 7) L5' rfl rfl (one_of HT_.out kZ) (by decide) (fun K hK => ?_)
    refine Kd.R_lit_step k230 _ 230 ?hg (N := 7) ?hd (xs := ([] : List (S230))) (inner := []) (ok := fun _ => True) (okp := fun _ => True) ?hr ?hp (fun _ hk => hk) trivial (Below.refl _ _) (Nat.le_refl _) (by simp) ?_; (case hd => rfl); (case hg => rfl); (case hr => first | (go_simp; done) | (go_simp; rfl)); (case hp => exact (Reps.none _ _))
    intro v229 w10 ho11 hb hg_ hnew_
    clear hg_ hnew_
    (first | rw [← Ny228.out] at ho11 | (simp only [Int.reduceToNat] at ho11; rw [← Ny228.out] at ho11))
    replace HO227 := aZ (Kd.R_below (lZR HO227.out) hb)
    have HO230 := aZ (Kd.R_lower ho11 (below_size bZ))
    replace BK220 := aZ (blk_below (bkZ BK220.out) hb)
    replace BK221 := aZ (blk_below (bkZ BK221.out) hb)
    replace HB := aZ (below_step bZ hb)
    clear hb ho11
    refine hK.out _ _ ⟨(blk_cell BK220.out 0).trans rfl, (blk_cell BK220.out 1).trans rfl⟩ (fun hHeld => ?_)
    clear hK K
    refine norm_ (a' := ?_) ?_ ?_
    rotate_left
    ·show Act.put _ (some 7) _ = _
     simp only [Act.put, sZ1, sZ2, sZ3, i64_w, i32_w]
     rfl
    exact norm_ (by simp only [putAll, Act.put, List.setIfInBounds_toArray, List.set_cons_zero, List.set_cons_succ]) (hCont (v223, v226, v229) _ ⟨hHeld, (lZR HO227.out), (lZR HO230.out), (bkZ BK220.out), (bkZ BK221.out), bZ⟩)
   skip
   refine Kd.R_lit_step k230 _ 230 ?hg (N := 7) ?hd (xs := ([] : List (S230))) (inner := []) (ok := fun _ => True) (okp := fun _ => True) ?hr ?hp (fun _ hk => hk) trivial (Below.refl _ _) (Nat.le_refl _) (by simp) ?_; (case hd => rfl); (case hg => rfl); (case hr => first | (go_simp; done) | (go_simp; rfl)); (case hp => exact (Reps.none _ _))
   intro v229 w9 ho10 hb hg_ hnew_
   clear hg_ hnew_
   (first | rw [← Ny228.out] at ho10 | (simp only [Int.reduceToNat] at ho10; rw [← Ny228.out] at ho10))
   replace HO224 := aZ (Kd.R_below (lZR HO224.out) hb)
   have HO230 := aZ (Kd.R_lower ho10 (below_size bZ))
   replace BK220 := aZ (blk_below (bkZ BK220.out) hb)
   replace BK221 := aZ (blk_below (bkZ BK221.out) hb)
   replace HB := aZ (below_step bZ hb)
   clear hb ho10
   refine hK.out _ _ ⟨(blk_cell BK220.out 0).trans rfl, (blk_cell BK220.out 1).trans rfl⟩ (fun hHeld => ?_)
   clear hK K
   refine norm_ (a' := ?_) ?_ ?_
   rotate_left
   ·show Act.put _ (some 7) _ = _
    simp only [Act.put, sZ1, sZ2, sZ3, i64_w, i32_w]
    rfl
   refine one_ (i := 3) (N := some 6) L5' rfl rfl (one_of HT_.out kZ) (by decide) (fun K hK => ?_)
   refine Kd.R_append_rows_step k304 (w0 := w) w.heap.size (by rfl) (.tmp 3) (.tmp 5) 83 304 (.agg #[(.string ⟨#[]⟩), (.int .i64 0)]) 24 rfl Try.underlying83 info304 rfl (by decide) (by omega) v223 y222 l0_0 _ _ _ (fun _ => True) (fun _ => False) rfl rfl ?aO ?aR (fun _ _ h => h) (fun _ h => h.elim) ?aF ?aB ?aS ?aL ?_
   (case aR => repeat (first | exact (Kd.C_below HR0_0.out HB.out) | (with_reducible refine Kd.C_alloc ?_ _) | (with_reducible refine Kd.C_drewN ?_ _) | (with_reducible refine Kd.C_drew ?_)))
   (case aB => exact bZ)
   (case aF => exact (fun _ _ => trivial))
   (case aO => exact (lZR HO224.out))
   (case aS => exact (below_size bZ))
   (case aL => have := LMc2.out; omega)
   intro v226 w11 ho hb hg hat
   rw [← Ny225.out] at ho
   replace BK220 := aZ (blk_grown (bkZ BK220.out) hg (Kd.R_ne HO224.out BK220.out (by decide)))
   replace BK221 := aZ (blk_grown (bkZ BK221.out) hg (Kd.R_ne HO224.out BK221.out (by decide)))
   replace HO230 := aZ (Kd.R_over' (lZR HO230.out) (Kd.R_typed (lZR HO224.out)) (by decide) hg)
   replace HB := aZ (hb)
   have HO227 := aZ (ho)
   clear HO224
   clear ho hb hg hat
   refine hK.out _ _ ⟨(blk_cell BK220.out 0).trans rfl, (blk_cell BK220.out 1).trans rfl⟩ (fun hHeld => ?_)
   clear hK K
   refine norm_ (a' := ?_) ?_ ?_
   rotate_left
   ·show Act.put _ (some 6) _ = _
    simp only [Act.put, sZ1, sZ2, sZ3, i64_w, i32_w]
    rfl
   exact norm_ (by simp only [putAll, Act.put, List.setIfInBounds_toArray, List.set_cons_zero, List.set_cons_succ]) (hCont (v223, v226, v229) _ ⟨hHeld, (lZR HO227.out), (lZR HO230.out), (bkZ BK220.out), (bkZ BK221.out), bZ⟩)
  skip
  refine Kd.R_lit_step k230 _ 230 ?hg (N := 7) ?hd (xs := ([] : List (S230))) (inner := []) (ok := fun _ => True) (okp := fun _ => True) ?hr ?hp (fun _ hk => hk) trivial (Below.refl _ _) (Nat.le_refl _) (by simp) ?_; (case hd => rfl); (case hg => rfl); (case hr => first | (go_simp; done) | (go_simp; rfl)); (case hp => exact (Reps.none _ _))
  intro v229 w7 ho8 hb hg_ hnew_
  clear hg_ hnew_
  (first | rw [← Ny228.out] at ho8 | (simp only [Int.reduceToNat] at ho8; rw [← Ny228.out] at ho8))
  have HO230 := aZ (Kd.R_lower ho8 (below_size bZ))
  replace BK220 := aZ (blk_below (bkZ BK220.out) hb)
  replace BK221 := aZ (blk_below (bkZ BK221.out) hb)
  replace HB := aZ (below_step bZ hb)
  clear hb ho8
  refine hK.out _ _ ⟨(blk_cell BK220.out 0).trans rfl, (blk_cell BK220.out 1).trans rfl⟩ (fun hHeld => ?_)
  clear hK K
  refine norm_ (a' := ?_) ?_ ?_
  rotate_left
  ·show Act.put _ (some 7) _ = _
   simp only [Act.put, sZ1, sZ2, sZ3, i64_w, i32_w]
   rfl
  refine one_ (i := 0) (N := some 3) L9' rfl rfl (one_of HT_.out kZ) (by decide) (fun K hK => ?_)
  refine Kd.R_lit_step k304 _ 304 ?hg (N := 3) ?hd (xs := ([] : List (S304))) (inner := []) (ok := fun _ => True) (okp := fun _ => True) ?hr ?hp (fun _ hk => hk) trivial (Below.refl _ _) (Nat.le_refl _) (by simp) ?_; (case hd => rfl); (case hg => rfl); (case hr => first | (go_simp; done) | (go_simp; rfl)); (case hp => exact (Reps.none _ _))
  intro v223 w9 ho10 hb hg_ hnew_
  clear hg_ hnew_
  (first | rw [← Ny222.out] at ho10 | (simp only [Int.reduceToNat] at ho10; rw [← Ny222.out] at ho10))
  replace HO230 := aZ (Kd.R_below (lZR HO230.out) hb)
  have HO224 := aZ (Kd.R_lower ho10 (below_size bZ))
  replace BK220 := aZ (blk_below (bkZ BK220.out) hb)
  replace BK221 := aZ (blk_below (bkZ BK221.out) hb)
  replace HB := aZ (below_step bZ hb)
  clear hb ho10
  refine hK.out _ _ ⟨(blk_cell BK220.out 0).trans rfl, (blk_cell BK220.out 1).trans rfl⟩ (fun hHeld => ?_)
  clear hK K
  refine norm_ (a' := ?_) ?_ ?_
  rotate_left
  ·show Act.put _ (some 3) _ = _
   simp only [Act.put, sZ1, sZ2, sZ3, i64_w, i32_w]
   rfl
  refine one_ (i := 3) (N := some 6) L5' rfl rfl (one_of HT_.out kZ) (by decide) (fun K hK => ?_)
  refine Kd.R_append_rows_step k304 (w0 := w) w.heap.size (by rfl) (.tmp 3) (.tmp 5) 83 304 (.agg #[(.string ⟨#[]⟩), (.int .i64 0)]) 24 rfl Try.underlying83 info304 rfl (by decide) (by omega) v223 y222 l0_0 _ _ _ (fun _ => True) (fun _ => False) rfl rfl ?aO ?aR (fun _ _ h => h) (fun _ h => h.elim) ?aF ?aB ?aS ?aL ?_
  (case aR => repeat (first | exact (Kd.C_below HR0_0.out HB.out) | (with_reducible refine Kd.C_alloc ?_ _) | (with_reducible refine Kd.C_drewN ?_ _) | (with_reducible refine Kd.C_drew ?_)))
  (case aB => exact bZ)
  (case aF => exact (fun _ _ => trivial))
  (case aO => exact (lZR HO224.out))
  (case aS => exact (below_size bZ))
  (case aL => have := LMc2.out; omega)
  intro v226 w11 ho hb hg hat
  rw [← Ny225.out] at ho
  replace BK220 := aZ (blk_grown (bkZ BK220.out) hg (Kd.R_ne HO224.out BK220.out (by decide)))
  replace BK221 := aZ (blk_grown (bkZ BK221.out) hg (Kd.R_ne HO224.out BK221.out (by decide)))
  replace HO230 := aZ (Kd.R_over' (lZR HO230.out) (Kd.R_typed (lZR HO224.out)) (by decide) hg)
  replace HB := aZ (hb)
  have HO227 := aZ (ho)
  clear HO224
  clear ho hb hg hat
  refine hK.out _ _ ⟨(blk_cell BK220.out 0).trans rfl, (blk_cell BK220.out 1).trans rfl⟩ (fun hHeld => ?_)
  clear hK K
  refine norm_ (a' := ?_) ?_ ?_
  rotate_left
  ·show Act.put _ (some 6) _ = _
   simp only [Act.put, sZ1, sZ2, sZ3, i64_w, i32_w]
   rfl
  exact norm_ (by simp only [putAll, Act.put, List.setIfInBounds_toArray, List.set_cons_zero, List.set_cons_succ]) (hCont (v223, v226, v229) _ ⟨hHeld, (lZR HO227.out), (lZR HO230.out), (bkZ BK220.out), (bkZ BK221.out), bZ⟩)
 rintro ⟨v223, v226, v229⟩ w12 ⟨hS_, h0_, h1_, h2_, h3_, h4_⟩
 have HO227 : Aside0 (Kd.R k304 304 w12 w.heap.size (fun _ => True) v226 y225) := ⟨h0_⟩
 have HO230 : Aside0 (Kd.R k230 230 w12 w.heap.size (fun _ => True) v229 y228) := ⟨h1_⟩
 replace BK220 : Aside0 (w12.heap[gb220]? = some (.cells #[.slice A0_0 l0_0.length c0_0, .slice A0_1 l0_1.length c0_1] 86 (0, 0))) := ⟨h2_⟩
 replace BK221 : Aside0 (w12.heap[gb221]? = some (.cells #[.slice none 0 0, .slice none 0 0] 86 (0, 0))) := ⟨h3_⟩
 replace HB : Aside0 (Below w.heap.size w w12) := ⟨h4_⟩
 clear h0_ h1_ h2_ h3_ h4_
 have hHeld : w12.cell? ⟨gb220, 0, none⟩ = some (.slice A0_0 l0_0.length c0_0) ∧ w12.cell? ⟨gb220, 1, none⟩ = some (.slice A0_1 l0_1.length c0_1) := hS_
 refine norm_ (a' := ?_) ?_ ?_
 rotate_left
 ·simp only [putAll, Act.put, List.setIfInBounds_toArray, List.set_cons_zero, List.set_cons_succ]
  rfl
 refine one_ (i := 7) (N := some 10) L10' rfl rfl (one_of HT_.out kZ) (by decide) (fun K hK => ?_)
 refine Kd.R_append_rows_step k230 (w0 := w) w.heap.size (by rfl) (.tmp 7) (.tmp 9) 84 230 (.agg #[(.int .i64 0), (.int .i64 0), (.int .i64 0), (.bool false)]) 32 rfl Try.underlying84 info230 rfl (by decide) (by omega) v229 y228 l0_1 _ _ _ (fun _ => True) (fun _ => False) rfl rfl ?aO ?aR (fun _ _ h => h) (fun _ h => h.elim) ?aF ?aB ?aS ?aL ?_
 (case aR => repeat (first | exact (Kd.C_below HR0_1.out HB.out) | (with_reducible refine Kd.C_alloc ?_ _) | (with_reducible refine Kd.C_drewN ?_ _) | (with_reducible refine Kd.C_drew ?_)))
 (case aB => exact bZ)
 (case aF => exact (fun _ _ => trivial))
 (case aO => exact (lZR HO230.out))
 (case aS => exact (below_size bZ))
 (case aL => have := LMc3.out; omega)
 intro v232 w13 ho hb hg hat
 rw [← Ny231.out] at ho
 replace BK220 := aZ (blk_grown (bkZ BK220.out) hg (Kd.R_ne HO230.out BK220.out (by decide)))
 replace BK221 := aZ (blk_grown (bkZ BK221.out) hg (Kd.R_ne HO230.out BK221.out (by decide)))
 replace HO227 := aZ (Kd.R_over' (lZR HO227.out) (Kd.R_typed (lZR HO230.out)) (by decide) hg)
 replace HB := aZ (hb)
 have HO233 := aZ (ho)
 clear HO230
 clear ho hb hg hat
 obtain ⟨Ao14, co14, eo14⟩ := Kd.R_slice HO233.out
 (first | subst eo14 | (injection eo14 with f1_ f2_ f3_; have f4_ := f1_.symm; have f5_ := f3_.symm; clear f1_ f2_ f3_; subst f4_; subst f5_))
 obtain ⟨Ao15, co15, eo15⟩ := Kd.R_slice HO227.out
 (first | subst eo15 | (injection eo15 with f1_ f2_ f3_; have f4_ := f1_.symm; have f5_ := f3_.symm; clear f1_ f2_ f3_; subst f4_; subst f5_))
 refine hK.out _ _ ⟨(blk_cell BK220.out 0).trans rfl, (blk_cell BK220.out 1).trans rfl⟩ (fun hHeld => ?_)
 clear hK K
 refine norm_ (a' := ?_) ?_ ?_
 rotate_left
 ·show Act.put _ (some 10) _ = _
  simp only [Act.put, sZ1, sZ2, sZ3, i64_w, i32_w]
  rfl
 refine pure_ (i := 8) (N := some 11) (v := ?_) (a' := ?_) L11' rfl rfl (any_of HT_.out kZ) (fun _ _ _ h => h) (Or.inl ⟨by rfl, ?_⟩) ?_ ?_
 rotate_left
 ·intro w'
  go_simp
  with_reducible rfl
 rotate_left
 ·simp only [Act.put, sZ1, sZ2, sZ3, i64_w, i32_w]
  rfl
 refine one_ (i := 9) (N := none) L12' rfl rfl (one_of HT_.out kZ) (by decide) (fun K hK => ?_)
 have hs16 : w13.cell? ⟨gb221, 0, none⟩ = some (.slice none 0 0) := (blk_cell BK221.out 0).trans rfl
 have hfs16 := blk_frozen BK221.out 0
 have hns16_0 := NB220_221.out
 have hms16_0 := NB221_220.out
 have hs17 : w13.cell? ⟨gb221, 1, none⟩ = some (.slice none 0 0) := (blk_cell BK221.out 1).trans rfl
 have hfs17 := blk_frozen BK221.out 1
 have hns17_0 := NB220_221.out
 have hms17_0 := NB221_220.out
 refine skip_ (w1 := ?_) (by rfl) rfl ?_ ?_
 rotate_left
 ·go_simp
  rfl
 refine hK.out _ _ ⟨((cell_far (p := ⟨gb221, _, none⟩) NB220_221.out _).trans (((cell_far (p := ⟨gb221, _, none⟩) NB220_221.out _).trans (hHeld.1)))), ((cell_far (p := ⟨gb221, _, none⟩) NB220_221.out _).trans (((cell_far (p := ⟨gb221, _, none⟩) NB220_221.out _).trans (hHeld.2))))⟩ (fun hHeld => ?_)
 clear hK K
 refine done_ (done_of HT_.out kZ) ?_
 try go_wp2
 refine bodyPost_ret (results_cell_row rfl _ _ gb221 86 #[.slice Ao15 y225.length co15, .slice Ao14 y231.length co14] (0, 0) _ rfl (by (with_reducible repeat (first | refine blk_drewN ?_ _ | refine blk_drew ?_ | refine blk_alloc ?_ _)); refine blk_put (cs := #[.slice Ao15 y225.length co15, .slice none 0 0]) ?_ 1 _ rfl; (with_reducible repeat (first | refine blk_drewN ?_ _ | refine blk_drew ?_ | refine blk_alloc ?_ _)); refine blk_put (cs := #[.slice none 0 0, .slice none 0 0]) ?_ 0 _ rfl; (with_reducible repeat (first | refine blk_drewN ?_ _ | refine blk_drew ?_ | refine blk_alloc ?_ _)); exact BK221.out) Try.underlying86 rfl kZ) rfl ?_
 exact ⟨_, _, tZC, by (with_reducible repeat (first | apply Kd.R_alloc | apply Kd.R_drewN | apply Kd.R_drew)); exact Kd.R_mono (Kd.R_far (p := ⟨gb221, 1, none⟩) (Kd.R_far (p := ⟨gb221, 0, none⟩) (Kd.R_types HO227.out BK221.out (by decide)) (fun _ hk => hk.2) (.slice Ao15 y225.length co15)) (fun _ hk => hk.2) (.slice Ao14 y231.length co14)) (fun _ hk => trivial), by (with_reducible repeat (first | apply Kd.R_alloc | apply Kd.R_drewN | apply Kd.R_drew)); exact Kd.R_mono (Kd.R_far (p := ⟨gb221, 1, none⟩) (Kd.R_far (p := ⟨gb221, 0, none⟩) (Kd.R_types HO233.out BK221.out (by decide)) (fun _ hk => hk.2) (.slice Ao15 y225.length co15)) (fun _ hk => hk.2) (.slice Ao14 y231.length co14)) (fun _ hk => trivial), bZ⟩
def impl_Void.f (k : Nat) (l0_0 : List (S304)) (l0_1 : List (S230)) (a1 : Int) : Option ((List (S304)) × (List (S230)) × Bool) := (impl_RegisterOk.f k l0_0 l0_1).bind fun t236 => (if t236 = true then ((impl_copyRegister.f l0_0 l0_1).bind fun bt237 => (if a1 < 0 then (some (bt237.1, bt237.2, false)) else (if a1 ≥ (l0_1.length : Int) then (some (bt237.1, bt237.2, false)) else (if 0 ≤ a1 then (if a1 < (l0_1.length : Int) then (if (rd_T230 l0_1 a1).f3 = true then (some (bt237.1, bt237.2, false)) else (if a1 < (bt237.2.length : Int) then (some (bt237.1, (bt237.2.set (a1 : Int).toNat (⟨(rd_T230 bt237.2 a1).f0, (rd_T230 bt237.2 a1).f1, (rd_T230 bt237.2 a1).f2, true⟩ : S230)), true)) else (none))) else (none)) else (none))))) else (some (([] : List (S304)), ([] : List (S230)), false)))
theorem impl_Void.mono : ∀ a0 a1 a2 k, LeO (impl_Void.f k a0 a1 a2) (impl_Void.f (k + 1) a0 a1 a2) := by
 intro a0 a1 a2 k
 unfold impl_Void.f
 repeat' first
     | (with_reducible exact impl_RegisterOk.mono _ _ _)
     | (with_reducible exact LeO.refl _)
     | (with_reducible exact LeO.none _)
     | (with_reducible refine LeO.ite ?_ ?_)
     | (with_reducible refine LeO.bind ?_ (fun _ => ?_))
     | exact impl_RegisterOk.mono _ _ _
     | exact LeO.none _
     | refine LeO.ite ?_ ?_
     | refine LeO.bind ?_ (fun _ => ?_)
set_option maxHeartbeats 8000000 in
set_option maxRecDepth 100000 in
theorem impl_Void.calls (k : Nat) (A0_0 : Option Addr) (c0_0 : Nat) (l0_0 : List (S304)) (A0_1 : Option Addr) (c0_1 : Nat) (l0_1 : List (S230)) (a1 : Int) (r1 : List (S304)) (r2 : List (S230)) (r3 : Bool) (w : World) (hr0_0 : Kd.C k304 w A0_0 l0_0.length l0_0) (hc0_0 : l0_0.length ≤ c0_0) (hr0_1 : Kd.C k230 w A0_1 l0_1.length l0_1) (hc0_1 : l0_1.length ≤ c0_1) (h : impl_Void.f k l0_0 l0_1 a1 = some (r1, r2, r3)) :
    Calls Try.prog 57 #[.agg #[.slice A0_0 l0_0.length c0_0, .slice A0_1 l0_1.length c0_1], .int .i64 a1] w fun e w' => ∃ v0_ v1_ : Value, e = .returned (.tuple #[.agg #[v0_, v1_], .bool r3]) ∧ Kd.R k304 304 w' w.heap.size (fun _ => True) v0_ r1 ∧ Kd.R k230 230 w' w.heap.size (fun _ => True) v1_ r2 ∧ Below w.heap.size w w' := by
 have hu86 := Try.underlying86
 have HR0_0 := Aside0.mk hr0_0
 have HC0_0 := Aside0.mk hc0_0
 clear hr0_0 hc0_0
 have HR0_1 := Aside0.mk hr0_1
 have HC0_1 := Aside0.mk hc0_1
 clear hr0_1 hc0_1
 have HB := aZ (Below.refl w.heap.size w)
 have H : ((impl_RegisterOk.f k l0_0 l0_1).bind fun t236 => (if t236 = true then ((impl_copyRegister.f l0_0 l0_1).bind fun bt237 => (if a1 < 0 then (some (bt237.1, bt237.2, false)) else (if a1 ≥ (l0_1.length : Int) then (some (bt237.1, bt237.2, false)) else (if 0 ≤ a1 then (if a1 < (l0_1.length : Int) then (if (rd_T230 l0_1 a1).f3 = true then (some (bt237.1, bt237.2, false)) else (if a1 < (bt237.2.length : Int) then (some (bt237.1, (bt237.2.set (a1 : Int).toNat (⟨(rd_T230 bt237.2 a1).f0, (rd_T230 bt237.2 a1).f1, (rd_T230 bt237.2 a1).f2, true⟩ : S230)), true)) else (none))) else (none)) else (none))))) else (some (([] : List (S304)), ([] : List (S230)), false)))) = some (r1, r2, r3) := h
 clear h
 replace H := Option.bind_eq_some_iff.mp H
 obtain ⟨t236, A30, H⟩ := H
 replace H : (if t236 = true then ((impl_copyRegister.f l0_0 l0_1).bind fun bt237 => (if a1 < 0 then (some (bt237.1, bt237.2, false)) else (if a1 ≥ (l0_1.length : Int) then (some (bt237.1, bt237.2, false)) else (if 0 ≤ a1 then (if a1 < (l0_1.length : Int) then (if (rd_T230 l0_1 a1).f3 = true then (some (bt237.1, bt237.2, false)) else (if a1 < (bt237.2.length : Int) then (some (bt237.1, (bt237.2.set (a1 : Int).toNat (⟨(rd_T230 bt237.2 a1).f0, (rd_T230 bt237.2 a1).f1, (rd_T230 bt237.2 a1).f2, true⟩ : S230)), true)) else (none))) else (none)) else (none))))) else (some (([] : List (S304)), ([] : List (S230)), false))) = some (r1, r2, r3) := H
 have A3 := Aside0.mk A30
 clear A30
 by_cases c4 : t236 = true
 rotate_left
 ·replace c4 := Bool.eq_false_iff.mpr c4
  subst c4
  have H1 : (some (([] : List (S304)), ([] : List (S230)), false)) = some (r1, r2, r3) := by rw [if_neg (show ¬ (false = true) by decide)] at H; exact H
  clear H
  have H := H1
  clear H1
  simp only [Option.some.injEq, Prod.mk.injEq] at H
  obtain ⟨rfl, rfl, rfl⟩ := H
  go_enter Try.func57, Try.ntmps57
  go_wp2_with (first | ((with_reducible refine gate_dst (N := 2) rfl ?_); (try (refine gate_guard (by rfl) ?_; dsimp only)); refine box_event ?hg (N := 2) ?hd (cs := #[.slice A0_0 l0_0.length c0_0, .slice A0_1 l0_1.length c0_1]) (t := 86) ?hr ?_; (case hd => rfl); (case hg => rfl); (case hr => first | (go_simp; done) | (go_simp; rfl)); intro gb234 hg w78 hbox hb; have BK234 := aZ (hbox); have GW234 := aZ ((by rw [hg]; exact (below_size (lZB HB.out)) : w.heap.size ≤ gb234)); have GE234 := aZ ((by rw [hg]; exact (below_size (lZB HB.out)) : w.heap.size ≤ gb234)); replace HB := aZ (below_step (lZB HB.out) hb); clear hb hbox hg) | ((with_reducible refine gate_dst (N := 4) rfl ?_); (try (refine gate_guard (by rfl) ?_; dsimp only)); refine box_event ?hg (N := 4) ?hd (cs := #[.slice none 0 0, .slice none 0 0]) (t := 86) ?hr ?_; (case hd => rfl); (case hg => rfl); (case hr => first | (go_simp; done) | (go_simp; rfl)); intro gb235 hg w79 hbox hb; have BK235 := aZ (hbox); have GW235 := aZ ((by rw [hg]; exact (below_size bZ) : w.heap.size ≤ gb235)); have GE235 := aZ ((by rw [hg]; exact (below_size bZ) : w.heap.size ≤ gb235)); replace HB := aZ (below_step bZ hb); have NB234_235 := aZ ((by rw [hg]; exact Nat.ne_of_lt (blk_lt (bkZ BK234.out)) : gb234 ≠ gb235)); have NB235_234 := aZ ((by rw [hg]; exact Nat.ne_of_gt (blk_lt (bkZ BK234.out)) : gb235 ≠ gb234)); replace BK234 := aZ (blk_below (bkZ BK234.out) hb); clear hb hbox hg; have hnb80 := NB234_235.out; have hnc80 := NB235_234.out; have hcz81_0 : w79.cell? ⟨gb234, 0, none⟩ = some (.slice A0_0 l0_0.length c0_0) := (blk_cell BK234.out 0).trans rfl; have hcz81_1 : w79.cell? ⟨gb234, 1, none⟩ = some (.slice A0_1 l0_1.length c0_1) := (blk_cell BK234.out 1).trans rfl; have hfz81_0 := blk_frozen BK234.out 0; have hfz81_1 := blk_frozen BK234.out 1) | ((with_reducible refine gate_callee (f := 152) rfl ?_); refine goesL_ (some 8) rfl rfl Try.func152 kZ rfl #[.agg #[.slice A0_0 l0_0.length c0_0, .slice A0_1 l0_1.length c0_1]] rfl tZA ?_; (with_reducible refine (impl_RegisterOk.calls k _ _ l0_0 _ _ l0_1 false _ ?side1 ?side2 ?side3 ?side4 A3.out).mono ?_); (case side1 => repeat (first | exact (Kd.C_below HR0_0.out HB.out) | (with_reducible refine Kd.C_alloc ?_ _) | (with_reducible refine Kd.C_drewN ?_ _) | (with_reducible refine Kd.C_drew ?_))); (case side2 => exact HC0_0.out); (case side3 => repeat (first | exact (Kd.C_below HR0_1.out HB.out) | (with_reducible refine Kd.C_alloc ?_ _) | (with_reducible refine Kd.C_drewN ?_ _) | (with_reducible refine Kd.C_drew ?_))); (case side4 => exact HC0_1.out); rintro e w82 ⟨rfl, hb⟩; refine ⟨_, rfl, ?_⟩; replace BK234 := aZ (blk_below (bkZ BK234.out) hb); replace BK235 := aZ (blk_below (bkZ BK235.out) hb); replace HB := aZ (below_step bZ hb); (try clear hb); (try clear hb2); (try clear hk); (try clear hi); have hcz83_0 : w82.cell? ⟨gb235, 0, none⟩ = some (.slice none 0 0) := (blk_cell BK235.out 0).trans rfl; have hcz83_1 : w82.cell? ⟨gb235, 1, none⟩ = some (.slice none 0 0) := (blk_cell BK235.out 1).trans rfl; have hfz83_0 := blk_frozen BK235.out 0; have hfz83_1 := blk_frozen BK235.out 1))
  refine bodyPost_ret (results_ct rfl _ _ gb235 86 #[.slice none 0 0, .slice none 0 0] (0, 0) _ rfl (by (with_reducible repeat (first | refine blk_drewN ?_ _ | refine blk_drew ?_ | refine blk_alloc ?_ _)); refine blk_put (cs := #[.slice none 0 0, .slice none 0 0]) ?_ 1 _ rfl; (with_reducible repeat (first | refine blk_drewN ?_ _ | refine blk_drew ?_ | refine blk_alloc ?_ _)); refine blk_put (cs := #[.slice none 0 0, .slice none 0 0]) ?_ 0 _ rfl; (with_reducible repeat (first | refine blk_drewN ?_ _ | refine blk_drew ?_ | refine blk_alloc ?_ _)); exact BK235.out) Try.underlying86 rfl kZ) rfl ?_
  exact ⟨_, _, tZC, by first | exact Kd.R_nil _ _ _ _ _ | exact Kd.N_nil _ _ _ _ _ | exact Kd.V_nil _ _ _ _ _ | exact Kd.Q_nil _ _ _ _ _ | exact Kd.S_nil _ _ _ _ _, by first | exact Kd.R_nil _ _ _ _ _ | exact Kd.N_nil _ _ _ _ _ | exact Kd.V_nil _ _ _ _ _ | exact Kd.Q_nil _ _ _ _ _ | exact Kd.S_nil _ _ _ _ _, bZ⟩
 subst c4
 have H1 : ((impl_copyRegister.f l0_0 l0_1).bind fun bt237 => (if a1 < 0 then (some (bt237.1, bt237.2, false)) else (if a1 ≥ (l0_1.length : Int) then (some (bt237.1, bt237.2, false)) else (if 0 ≤ a1 then (if a1 < (l0_1.length : Int) then (if (rd_T230 l0_1 a1).f3 = true then (some (bt237.1, bt237.2, false)) else (if a1 < (bt237.2.length : Int) then (some (bt237.1, (bt237.2.set (a1 : Int).toNat (⟨(rd_T230 bt237.2 a1).f0, (rd_T230 bt237.2 a1).f1, (rd_T230 bt237.2 a1).f2, true⟩ : S230)), true)) else (none))) else (none)) else (none))))) = some (r1, r2, r3) := by rw [if_pos rfl] at H; exact H
 clear H
 have H := H1
 clear H1
 replace H := Option.bind_eq_some_iff.mp H
 obtain ⟨⟨t237, t240⟩, A50, H⟩ := H
 replace H : (if a1 < 0 then (some (t237, t240, false)) else (if a1 ≥ (l0_1.length : Int) then (some (t237, t240, false)) else (if 0 ≤ a1 then (if a1 < (l0_1.length : Int) then (if (rd_T230 l0_1 a1).f3 = true then (some (t237, t240, false)) else (if a1 < (t240.length : Int) then (some (t237, (t240.set (a1 : Int).toNat (⟨(rd_T230 t240 a1).f0, (rd_T230 t240 a1).f1, (rd_T230 t240 a1).f2, true⟩ : S230)), true)) else (none))) else (none)) else (none)))) = some (r1, r2, r3) := H
 have A5 := Aside0.mk A50
 clear A50
 by_cases c6 : a1 < 0
 ·rw [if_pos c6] at H
  have c6b0 := decide_eq_true c6
  clear c6
  simp only [Option.some.injEq, Prod.mk.injEq] at H
  obtain ⟨rfl, rfl, rfl⟩ := H
  go_enter Try.func57, Try.ntmps57
  go_wp2_with (first | ((with_reducible refine gate_dst (N := 2) rfl ?_); (try (refine gate_guard (by rfl) ?_; dsimp only)); refine box_event ?hg (N := 2) ?hd (cs := #[.slice A0_0 l0_0.length c0_0, .slice A0_1 l0_1.length c0_1]) (t := 86) ?hr ?_; (case hd => rfl); (case hg => rfl); (case hr => first | (go_simp; done) | (go_simp; rfl)); intro gb234 hg w7 hbox hb; have BK234 := aZ (hbox); have GW234 := aZ ((by rw [hg]; exact (below_size (lZB HB.out)) : w.heap.size ≤ gb234)); have GE234 := aZ ((by rw [hg]; exact (below_size (lZB HB.out)) : w.heap.size ≤ gb234)); replace HB := aZ (below_step (lZB HB.out) hb); clear hb hbox hg) | ((with_reducible refine gate_dst (N := 4) rfl ?_); (try (refine gate_guard (by rfl) ?_; dsimp only)); refine box_event ?hg (N := 4) ?hd (cs := #[.slice none 0 0, .slice none 0 0]) (t := 86) ?hr ?_; (case hd => rfl); (case hg => rfl); (case hr => first | (go_simp; done) | (go_simp; rfl)); intro gb235 hg w8 hbox hb; have BK235 := aZ (hbox); have GW235 := aZ ((by rw [hg]; exact (below_size bZ) : w.heap.size ≤ gb235)); have GE235 := aZ ((by rw [hg]; exact (below_size bZ) : w.heap.size ≤ gb235)); replace HB := aZ (below_step bZ hb); have NB234_235 := aZ ((by rw [hg]; exact Nat.ne_of_lt (blk_lt (bkZ BK234.out)) : gb234 ≠ gb235)); have NB235_234 := aZ ((by rw [hg]; exact Nat.ne_of_gt (blk_lt (bkZ BK234.out)) : gb235 ≠ gb234)); replace BK234 := aZ (blk_below (bkZ BK234.out) hb); clear hb hbox hg; have hnb9 := NB234_235.out; have hnc9 := NB235_234.out; have hcz10_0 : w8.cell? ⟨gb234, 0, none⟩ = some (.slice A0_0 l0_0.length c0_0) := (blk_cell BK234.out 0).trans rfl; have hcz10_1 : w8.cell? ⟨gb234, 1, none⟩ = some (.slice A0_1 l0_1.length c0_1) := (blk_cell BK234.out 1).trans rfl; have hfz10_0 := blk_frozen BK234.out 0; have hfz10_1 := blk_frozen BK234.out 1) | ((with_reducible refine gate_callee (f := 152) rfl ?_); refine goesL_ (some 8) rfl rfl Try.func152 kZ rfl #[.agg #[.slice A0_0 l0_0.length c0_0, .slice A0_1 l0_1.length c0_1]] rfl tZA ?_; (with_reducible refine (impl_RegisterOk.calls k _ _ l0_0 _ _ l0_1 true _ ?side1 ?side2 ?side3 ?side4 A3.out).mono ?_); (case side1 => repeat (first | exact (Kd.C_below HR0_0.out HB.out) | (with_reducible refine Kd.C_alloc ?_ _) | (with_reducible refine Kd.C_drewN ?_ _) | (with_reducible refine Kd.C_drew ?_))); (case side2 => exact HC0_0.out); (case side3 => repeat (first | exact (Kd.C_below HR0_1.out HB.out) | (with_reducible refine Kd.C_alloc ?_ _) | (with_reducible refine Kd.C_drewN ?_ _) | (with_reducible refine Kd.C_drew ?_))); (case side4 => exact HC0_1.out); rintro e w11 ⟨rfl, hb⟩; refine ⟨_, rfl, ?_⟩; replace BK234 := aZ (blk_below (bkZ BK234.out) hb); replace BK235 := aZ (blk_below (bkZ BK235.out) hb); replace HB := aZ (below_step bZ hb); (try clear hb); (try clear hb2); (try clear hk); (try clear hi); have hcz12_0 : w11.cell? ⟨gb234, 0, none⟩ = some (.slice A0_0 l0_0.length c0_0) := (blk_cell BK234.out 0).trans rfl; have hcz12_1 : w11.cell? ⟨gb234, 1, none⟩ = some (.slice A0_1 l0_1.length c0_1) := (blk_cell BK234.out 1).trans rfl; have hfz12_0 := blk_frozen BK234.out 0; have hfz12_1 := blk_frozen BK234.out 1) | ((with_reducible refine gate_callee (f := 153) rfl ?_); refine goesL_ (some 12) rfl rfl Try.func153 kZ rfl #[.agg #[.slice A0_0 l0_0.length c0_0, .slice A0_1 l0_1.length c0_1]] rfl tZA ?_; (with_reducible refine (impl_copyRegister.calls _ _ l0_0 _ _ l0_1 t237 t240 _ ?side1 ?side2 ?side3 ?side4 A5.out).mono ?_); (case side1 => repeat (first | exact (Kd.C_below HR0_0.out HB.out) | (with_reducible refine Kd.C_alloc ?_ _) | (with_reducible refine Kd.C_drewN ?_ _) | (with_reducible refine Kd.C_drew ?_))); (case side2 => exact HC0_0.out); (case side3 => repeat (first | exact (Kd.C_below HR0_1.out HB.out) | (with_reducible refine Kd.C_alloc ?_ _) | (with_reducible refine Kd.C_drewN ?_ _) | (with_reducible refine Kd.C_drew ?_))); (case side4 => exact HC0_1.out); rintro e w13 ⟨v238, v241, rfl, ho0, ho1, hb⟩; refine ⟨_, rfl, ?_⟩; have HO239 := aZ (Kd.R_lower ho0 (below_size bZ)); have HO242 := aZ (Kd.R_lower ho1 (below_size bZ)); replace BK234 := aZ (blk_below (bkZ BK234.out) hb); replace BK235 := aZ (blk_below (bkZ BK235.out) hb); replace HB := aZ (below_step bZ hb); (try clear hb); (try clear hb2); (try clear hk); (try clear hi); (try clear ho0); (try clear ho1)) | ((with_reducible refine gate_dst (N := 6) rfl ?_); (try (refine gate_guard (by rfl) ?_; dsimp only)); refine box_event ?hg (N := 6) ?hd (cs := #[.slice none 0 0, .slice none 0 0]) (t := 86) ?hr ?_; (case hd => rfl); (case hg => rfl); (case hr => first | (go_simp; done) | (go_simp; rfl)); intro gb243 hg w14 hbox hb; replace HO239 := aZ (Kd.R_below (lZR HO239.out) hb); replace HO242 := aZ (Kd.R_below (lZR HO242.out) hb); have BK243 := aZ (hbox); have GW243 := aZ ((by rw [hg]; exact (below_size bZ) : w.heap.size ≤ gb243)); have GE243 := aZ ((by rw [hg]; exact (below_size bZ) : w.heap.size ≤ gb243)); replace HB := aZ (below_step bZ hb); have NB234_243 := aZ ((by rw [hg]; exact Nat.ne_of_lt (blk_lt (bkZ BK234.out)) : gb234 ≠ gb243)); have NB243_234 := aZ ((by rw [hg]; exact Nat.ne_of_gt (blk_lt (bkZ BK234.out)) : gb243 ≠ gb234)); replace BK234 := aZ (blk_below (bkZ BK234.out) hb); have NB235_243 := aZ ((by rw [hg]; exact Nat.ne_of_lt (blk_lt (bkZ BK235.out)) : gb235 ≠ gb243)); have NB243_235 := aZ ((by rw [hg]; exact Nat.ne_of_gt (blk_lt (bkZ BK235.out)) : gb243 ≠ gb235)); replace BK235 := aZ (blk_below (bkZ BK235.out) hb); clear hb hbox hg; obtain ⟨Ao15, co15, eo15⟩ := Kd.R_slice HO239.out; subst eo15; have hnb16 := NB243_234.out; have hnc16 := NB234_243.out; have hnb17 := NB243_235.out; have hnc17 := NB235_243.out; have hcz18_0 : w14.cell? ⟨gb243, 0, none⟩ = some (.slice none 0 0) := (blk_cell BK243.out 0).trans rfl; have hcz18_1 : w14.cell? ⟨gb243, 1, none⟩ = some (.slice none 0 0) := (blk_cell BK243.out 1).trans rfl; have hfz18_0 := blk_frozen BK243.out 0; have hfz18_1 := blk_frozen BK243.out 1; obtain ⟨Ao19, co19, eo19⟩ := Kd.R_slice HO242.out; subst eo19; have hcz20_0 : w14.cell? ⟨gb235, 0, none⟩ = some (.slice none 0 0) := (blk_cell BK235.out 0).trans rfl; have hcz20_1 : w14.cell? ⟨gb235, 1, none⟩ = some (.slice none 0 0) := (blk_cell BK235.out 1).trans rfl; have hfz20_0 := blk_frozen BK235.out 0; have hfz20_1 := blk_frozen BK235.out 1))
  refine bodyPost_ret (results_ct rfl _ _ gb235 86 #[.slice Ao15 t237.length co15, .slice Ao19 t240.length co19] (0, 0) _ rfl (by (with_reducible repeat (first | refine blk_drewN ?_ _ | refine blk_drew ?_ | refine blk_alloc ?_ _)); refine blk_put (cs := #[.slice Ao15 t237.length co15, .slice none 0 0]) ?_ 1 _ rfl; (with_reducible repeat (first | refine blk_drewN ?_ _ | refine blk_drew ?_ | refine blk_alloc ?_ _)); refine blk_put (cs := #[.slice none 0 0, .slice none 0 0]) ?_ 0 _ rfl; (with_reducible repeat (first | refine blk_drewN ?_ _ | refine blk_drew ?_ | refine blk_alloc ?_ _)); refine blk_far ?_ NB235_243.out _; (with_reducible repeat (first | refine blk_drewN ?_ _ | refine blk_drew ?_ | refine blk_alloc ?_ _)); refine blk_far ?_ NB235_243.out _; (with_reducible repeat (first | refine blk_drewN ?_ _ | refine blk_drew ?_ | refine blk_alloc ?_ _)); exact BK235.out) Try.underlying86 rfl kZ) rfl ?_
  exact ⟨_, _, tZC, by (with_reducible repeat (first | apply Kd.R_alloc | apply Kd.R_drewN | apply Kd.R_drew)); exact Kd.R_mono (Kd.R_far (p := ⟨gb235, 1, none⟩) (Kd.R_far (p := ⟨gb235, 0, none⟩) (Kd.R_far (p := ⟨gb243, 1, none⟩) (Kd.R_far (p := ⟨gb243, 0, none⟩) (Kd.R_types (Kd.R_types HO239.out BK243.out (by decide)) BK235.out (by decide)) (fun _ hk => hk.1.2) (.slice Ao15 t237.length co15)) (fun _ hk => hk.1.2) (.slice Ao19 t240.length co19)) (fun _ hk => hk.2) (.slice Ao15 t237.length co15)) (fun _ hk => hk.2) (.slice Ao19 t240.length co19)) (fun _ hk => trivial), by (with_reducible repeat (first | apply Kd.R_alloc | apply Kd.R_drewN | apply Kd.R_drew)); exact Kd.R_mono (Kd.R_far (p := ⟨gb235, 1, none⟩) (Kd.R_far (p := ⟨gb235, 0, none⟩) (Kd.R_far (p := ⟨gb243, 1, none⟩) (Kd.R_far (p := ⟨gb243, 0, none⟩) (Kd.R_types (Kd.R_types HO242.out BK243.out (by decide)) BK235.out (by decide)) (fun _ hk => hk.1.2) (.slice Ao15 t237.length co15)) (fun _ hk => hk.1.2) (.slice Ao19 t240.length co19)) (fun _ hk => hk.2) (.slice Ao15 t237.length co15)) (fun _ hk => hk.2) (.slice Ao19 t240.length co19)) (fun _ hk => trivial), bZ⟩
 rw [if_neg c6] at H
 have c6b0 := decide_eq_false c6
 clear c6
 by_cases c21 : a1 ≥ (l0_1.length : Int)
 ·rw [if_pos c21] at H
  have c21b0 : decide ((l0_1.length : Int) ≤ a1) = true := decide_eq_true c21
  clear c21
  simp only [Option.some.injEq, Prod.mk.injEq] at H
  obtain ⟨rfl, rfl, rfl⟩ := H
  go_enter Try.func57, Try.ntmps57
  go_wp2_with (first | ((with_reducible refine gate_dst (N := 2) rfl ?_); (try (refine gate_guard (by rfl) ?_; dsimp only)); refine box_event ?hg (N := 2) ?hd (cs := #[.slice A0_0 l0_0.length c0_0, .slice A0_1 l0_1.length c0_1]) (t := 86) ?hr ?_; (case hd => rfl); (case hg => rfl); (case hr => first | (go_simp; done) | (go_simp; rfl)); intro gb234 hg w22 hbox hb; have BK234 := aZ (hbox); have GW234 := aZ ((by rw [hg]; exact (below_size (lZB HB.out)) : w.heap.size ≤ gb234)); have GE234 := aZ ((by rw [hg]; exact (below_size (lZB HB.out)) : w.heap.size ≤ gb234)); replace HB := aZ (below_step (lZB HB.out) hb); clear hb hbox hg) | ((with_reducible refine gate_dst (N := 4) rfl ?_); (try (refine gate_guard (by rfl) ?_; dsimp only)); refine box_event ?hg (N := 4) ?hd (cs := #[.slice none 0 0, .slice none 0 0]) (t := 86) ?hr ?_; (case hd => rfl); (case hg => rfl); (case hr => first | (go_simp; done) | (go_simp; rfl)); intro gb235 hg w23 hbox hb; have BK235 := aZ (hbox); have GW235 := aZ ((by rw [hg]; exact (below_size bZ) : w.heap.size ≤ gb235)); have GE235 := aZ ((by rw [hg]; exact (below_size bZ) : w.heap.size ≤ gb235)); replace HB := aZ (below_step bZ hb); have NB234_235 := aZ ((by rw [hg]; exact Nat.ne_of_lt (blk_lt (bkZ BK234.out)) : gb234 ≠ gb235)); have NB235_234 := aZ ((by rw [hg]; exact Nat.ne_of_gt (blk_lt (bkZ BK234.out)) : gb235 ≠ gb234)); replace BK234 := aZ (blk_below (bkZ BK234.out) hb); clear hb hbox hg; have hnb24 := NB234_235.out; have hnc24 := NB235_234.out; have hcz25_0 : w23.cell? ⟨gb234, 0, none⟩ = some (.slice A0_0 l0_0.length c0_0) := (blk_cell BK234.out 0).trans rfl; have hcz25_1 : w23.cell? ⟨gb234, 1, none⟩ = some (.slice A0_1 l0_1.length c0_1) := (blk_cell BK234.out 1).trans rfl; have hfz25_0 := blk_frozen BK234.out 0; have hfz25_1 := blk_frozen BK234.out 1) | ((with_reducible refine gate_callee (f := 152) rfl ?_); refine goesL_ (some 8) rfl rfl Try.func152 kZ rfl #[.agg #[.slice A0_0 l0_0.length c0_0, .slice A0_1 l0_1.length c0_1]] rfl tZA ?_; (with_reducible refine (impl_RegisterOk.calls k _ _ l0_0 _ _ l0_1 true _ ?side1 ?side2 ?side3 ?side4 A3.out).mono ?_); (case side1 => repeat (first | exact (Kd.C_below HR0_0.out HB.out) | (with_reducible refine Kd.C_alloc ?_ _) | (with_reducible refine Kd.C_drewN ?_ _) | (with_reducible refine Kd.C_drew ?_))); (case side2 => exact HC0_0.out); (case side3 => repeat (first | exact (Kd.C_below HR0_1.out HB.out) | (with_reducible refine Kd.C_alloc ?_ _) | (with_reducible refine Kd.C_drewN ?_ _) | (with_reducible refine Kd.C_drew ?_))); (case side4 => exact HC0_1.out); rintro e w26 ⟨rfl, hb⟩; refine ⟨_, rfl, ?_⟩; replace BK234 := aZ (blk_below (bkZ BK234.out) hb); replace BK235 := aZ (blk_below (bkZ BK235.out) hb); replace HB := aZ (below_step bZ hb); (try clear hb); (try clear hb2); (try clear hk); (try clear hi); have hcz27_0 : w26.cell? ⟨gb234, 0, none⟩ = some (.slice A0_0 l0_0.length c0_0) := (blk_cell BK234.out 0).trans rfl; have hcz27_1 : w26.cell? ⟨gb234, 1, none⟩ = some (.slice A0_1 l0_1.length c0_1) := (blk_cell BK234.out 1).trans rfl; have hfz27_0 := blk_frozen BK234.out 0; have hfz27_1 := blk_frozen BK234.out 1) | ((with_reducible refine gate_callee (f := 153) rfl ?_); refine goesL_ (some 12) rfl rfl Try.func153 kZ rfl #[.agg #[.slice A0_0 l0_0.length c0_0, .slice A0_1 l0_1.length c0_1]] rfl tZA ?_; (with_reducible refine (impl_copyRegister.calls _ _ l0_0 _ _ l0_1 t237 t240 _ ?side1 ?side2 ?side3 ?side4 A5.out).mono ?_); (case side1 => repeat (first | exact (Kd.C_below HR0_0.out HB.out) | (with_reducible refine Kd.C_alloc ?_ _) | (with_reducible refine Kd.C_drewN ?_ _) | (with_reducible refine Kd.C_drew ?_))); (case side2 => exact HC0_0.out); (case side3 => repeat (first | exact (Kd.C_below HR0_1.out HB.out) | (with_reducible refine Kd.C_alloc ?_ _) | (with_reducible refine Kd.C_drewN ?_ _) | (with_reducible refine Kd.C_drew ?_))); (case side4 => exact HC0_1.out); rintro e w28 ⟨v238, v241, rfl, ho0, ho1, hb⟩; refine ⟨_, rfl, ?_⟩; have HO239 := aZ (Kd.R_lower ho0 (below_size bZ)); have HO242 := aZ (Kd.R_lower ho1 (below_size bZ)); replace BK234 := aZ (blk_below (bkZ BK234.out) hb); replace BK235 := aZ (blk_below (bkZ BK235.out) hb); replace HB := aZ (below_step bZ hb); (try clear hb); (try clear hb2); (try clear hk); (try clear hi); (try clear ho0); (try clear ho1)) | ((with_reducible refine gate_dst (N := 6) rfl ?_); (try (refine gate_guard (by rfl) ?_; dsimp only)); refine box_event ?hg (N := 6) ?hd (cs := #[.slice none 0 0, .slice none 0 0]) (t := 86) ?hr ?_; (case hd => rfl); (case hg => rfl); (case hr => first | (go_simp; done) | (go_simp; rfl)); intro gb243 hg w29 hbox hb; replace HO239 := aZ (Kd.R_below (lZR HO239.out) hb); replace HO242 := aZ (Kd.R_below (lZR HO242.out) hb); have BK243 := aZ (hbox); have GW243 := aZ ((by rw [hg]; exact (below_size bZ) : w.heap.size ≤ gb243)); have GE243 := aZ ((by rw [hg]; exact (below_size bZ) : w.heap.size ≤ gb243)); replace HB := aZ (below_step bZ hb); have NB234_243 := aZ ((by rw [hg]; exact Nat.ne_of_lt (blk_lt (bkZ BK234.out)) : gb234 ≠ gb243)); have NB243_234 := aZ ((by rw [hg]; exact Nat.ne_of_gt (blk_lt (bkZ BK234.out)) : gb243 ≠ gb234)); replace BK234 := aZ (blk_below (bkZ BK234.out) hb); have NB235_243 := aZ ((by rw [hg]; exact Nat.ne_of_lt (blk_lt (bkZ BK235.out)) : gb235 ≠ gb243)); have NB243_235 := aZ ((by rw [hg]; exact Nat.ne_of_gt (blk_lt (bkZ BK235.out)) : gb243 ≠ gb235)); replace BK235 := aZ (blk_below (bkZ BK235.out) hb); clear hb hbox hg; obtain ⟨Ao30, co30, eo30⟩ := Kd.R_slice HO239.out; subst eo30; have hnb31 := NB243_234.out; have hnc31 := NB234_243.out; have hnb32 := NB243_235.out; have hnc32 := NB235_243.out; have hcz33_0 : w29.cell? ⟨gb243, 0, none⟩ = some (.slice none 0 0) := (blk_cell BK243.out 0).trans rfl; have hcz33_1 : w29.cell? ⟨gb243, 1, none⟩ = some (.slice none 0 0) := (blk_cell BK243.out 1).trans rfl; have hfz33_0 := blk_frozen BK243.out 0; have hfz33_1 := blk_frozen BK243.out 1; obtain ⟨Ao34, co34, eo34⟩ := Kd.R_slice HO242.out; subst eo34; have hcz35_0 : w29.cell? ⟨gb234, 0, none⟩ = some (.slice A0_0 l0_0.length c0_0) := (blk_cell BK234.out 0).trans rfl; have hcz35_1 : w29.cell? ⟨gb234, 1, none⟩ = some (.slice A0_1 l0_1.length c0_1) := (blk_cell BK234.out 1).trans rfl; have hfz35_0 := blk_frozen BK234.out 0; have hfz35_1 := blk_frozen BK234.out 1; have hcz36_0 : w29.cell? ⟨gb235, 0, none⟩ = some (.slice none 0 0) := (blk_cell BK235.out 0).trans rfl; have hcz36_1 : w29.cell? ⟨gb235, 1, none⟩ = some (.slice none 0 0) := (blk_cell BK235.out 1).trans rfl; have hfz36_0 := blk_frozen BK235.out 0; have hfz36_1 := blk_frozen BK235.out 1))
  refine bodyPost_ret (results_ct rfl _ _ gb235 86 #[.slice Ao30 t237.length co30, .slice Ao34 t240.length co34] (0, 0) _ rfl (by (with_reducible repeat (first | refine blk_drewN ?_ _ | refine blk_drew ?_ | refine blk_alloc ?_ _)); refine blk_put (cs := #[.slice Ao30 t237.length co30, .slice none 0 0]) ?_ 1 _ rfl; (with_reducible repeat (first | refine blk_drewN ?_ _ | refine blk_drew ?_ | refine blk_alloc ?_ _)); refine blk_put (cs := #[.slice none 0 0, .slice none 0 0]) ?_ 0 _ rfl; (with_reducible repeat (first | refine blk_drewN ?_ _ | refine blk_drew ?_ | refine blk_alloc ?_ _)); refine blk_far ?_ NB235_243.out _; (with_reducible repeat (first | refine blk_drewN ?_ _ | refine blk_drew ?_ | refine blk_alloc ?_ _)); refine blk_far ?_ NB235_243.out _; (with_reducible repeat (first | refine blk_drewN ?_ _ | refine blk_drew ?_ | refine blk_alloc ?_ _)); exact BK235.out) Try.underlying86 rfl kZ) rfl ?_
  exact ⟨_, _, tZC, by (with_reducible repeat (first | apply Kd.R_alloc | apply Kd.R_drewN | apply Kd.R_drew)); exact Kd.R_mono (Kd.R_far (p := ⟨gb235, 1, none⟩) (Kd.R_far (p := ⟨gb235, 0, none⟩) (Kd.R_far (p := ⟨gb243, 1, none⟩) (Kd.R_far (p := ⟨gb243, 0, none⟩) (Kd.R_types (Kd.R_types HO239.out BK243.out (by decide)) BK235.out (by decide)) (fun _ hk => hk.1.2) (.slice Ao30 t237.length co30)) (fun _ hk => hk.1.2) (.slice Ao34 t240.length co34)) (fun _ hk => hk.2) (.slice Ao30 t237.length co30)) (fun _ hk => hk.2) (.slice Ao34 t240.length co34)) (fun _ hk => trivial), by (with_reducible repeat (first | apply Kd.R_alloc | apply Kd.R_drewN | apply Kd.R_drew)); exact Kd.R_mono (Kd.R_far (p := ⟨gb235, 1, none⟩) (Kd.R_far (p := ⟨gb235, 0, none⟩) (Kd.R_far (p := ⟨gb243, 1, none⟩) (Kd.R_far (p := ⟨gb243, 0, none⟩) (Kd.R_types (Kd.R_types HO242.out BK243.out (by decide)) BK235.out (by decide)) (fun _ hk => hk.1.2) (.slice Ao30 t237.length co30)) (fun _ hk => hk.1.2) (.slice Ao34 t240.length co34)) (fun _ hk => hk.2) (.slice Ao30 t237.length co30)) (fun _ hk => hk.2) (.slice Ao34 t240.length co34)) (fun _ hk => trivial), bZ⟩
 rw [if_neg c21] at H
 have c21b0 : decide ((l0_1.length : Int) ≤ a1) = false := decide_eq_false c21
 clear c21
 by_cases c37 : 0 ≤ a1
 rotate_left
 ·rw [if_neg c37] at H
  exact absurd H (by simp)
 rw [if_pos c37] at H
 have c37b0 := decide_eq_true c37
 clear c37
 by_cases c38 : a1 < (l0_1.length : Int)
 rotate_left
 ·rw [if_neg c38] at H
  exact absurd H (by simp)
 rw [if_pos c38] at H
 have c38b0 := decide_eq_true c38
 clear c38
 obtain ⟨bq39, hbq39⟩ : ∃ b_ : Bool, b_ = ((rd_T230 l0_1 a1).f3) := ⟨_, rfl⟩
 replace H : (if bq39 = true then (some (t237, t240, false)) else (if a1 < (t240.length : Int) then (some (t237, (t240.set (a1 : Int).toNat (⟨(rd_T230 t240 a1).f0, (rd_T230 t240 a1).f1, (rd_T230 t240 a1).f2, true⟩ : S230)), true)) else (none))) = some (r1, r2, r3) := by rw [← hbq39] at H; exact H
 have Nbq39 := Aside0.mk hbq39
 clear hbq39
 by_cases c40 : bq39 = true
 ·subst c40
  have H1 : (some (t237, t240, false)) = some (r1, r2, r3) := by rw [if_pos rfl] at H; exact H
  clear H
  have H := H1
  clear H1
  simp only [Option.some.injEq, Prod.mk.injEq] at H
  obtain ⟨rfl, rfl, rfl⟩ := H
  go_enter Try.func57, Try.ntmps57
  go_wp2_with (first | ((with_reducible refine gate_dst (N := 2) rfl ?_); (try (refine gate_guard (by rfl) ?_; dsimp only)); refine box_event ?hg (N := 2) ?hd (cs := #[.slice A0_0 l0_0.length c0_0, .slice A0_1 l0_1.length c0_1]) (t := 86) ?hr ?_; (case hd => rfl); (case hg => rfl); (case hr => first | (go_simp; done) | (go_simp; rfl)); intro gb234 hg w41 hbox hb; have BK234 := aZ (hbox); have GW234 := aZ ((by rw [hg]; exact (below_size (lZB HB.out)) : w.heap.size ≤ gb234)); have GE234 := aZ ((by rw [hg]; exact (below_size (lZB HB.out)) : w.heap.size ≤ gb234)); replace HB := aZ (below_step (lZB HB.out) hb); clear hb hbox hg) | ((with_reducible refine gate_dst (N := 4) rfl ?_); (try (refine gate_guard (by rfl) ?_; dsimp only)); refine box_event ?hg (N := 4) ?hd (cs := #[.slice none 0 0, .slice none 0 0]) (t := 86) ?hr ?_; (case hd => rfl); (case hg => rfl); (case hr => first | (go_simp; done) | (go_simp; rfl)); intro gb235 hg w42 hbox hb; have BK235 := aZ (hbox); have GW235 := aZ ((by rw [hg]; exact (below_size bZ) : w.heap.size ≤ gb235)); have GE235 := aZ ((by rw [hg]; exact (below_size bZ) : w.heap.size ≤ gb235)); replace HB := aZ (below_step bZ hb); have NB234_235 := aZ ((by rw [hg]; exact Nat.ne_of_lt (blk_lt (bkZ BK234.out)) : gb234 ≠ gb235)); have NB235_234 := aZ ((by rw [hg]; exact Nat.ne_of_gt (blk_lt (bkZ BK234.out)) : gb235 ≠ gb234)); replace BK234 := aZ (blk_below (bkZ BK234.out) hb); clear hb hbox hg; have hnb43 := NB234_235.out; have hnc43 := NB235_234.out; have hcz44_0 : w42.cell? ⟨gb234, 0, none⟩ = some (.slice A0_0 l0_0.length c0_0) := (blk_cell BK234.out 0).trans rfl; have hcz44_1 : w42.cell? ⟨gb234, 1, none⟩ = some (.slice A0_1 l0_1.length c0_1) := (blk_cell BK234.out 1).trans rfl; have hfz44_0 := blk_frozen BK234.out 0; have hfz44_1 := blk_frozen BK234.out 1) | ((with_reducible refine gate_callee (f := 152) rfl ?_); refine goesL_ (some 8) rfl rfl Try.func152 kZ rfl #[.agg #[.slice A0_0 l0_0.length c0_0, .slice A0_1 l0_1.length c0_1]] rfl tZA ?_; (with_reducible refine (impl_RegisterOk.calls k _ _ l0_0 _ _ l0_1 true _ ?side1 ?side2 ?side3 ?side4 A3.out).mono ?_); (case side1 => repeat (first | exact (Kd.C_below HR0_0.out HB.out) | (with_reducible refine Kd.C_alloc ?_ _) | (with_reducible refine Kd.C_drewN ?_ _) | (with_reducible refine Kd.C_drew ?_))); (case side2 => exact HC0_0.out); (case side3 => repeat (first | exact (Kd.C_below HR0_1.out HB.out) | (with_reducible refine Kd.C_alloc ?_ _) | (with_reducible refine Kd.C_drewN ?_ _) | (with_reducible refine Kd.C_drew ?_))); (case side4 => exact HC0_1.out); rintro e w45 ⟨rfl, hb⟩; refine ⟨_, rfl, ?_⟩; replace BK234 := aZ (blk_below (bkZ BK234.out) hb); replace BK235 := aZ (blk_below (bkZ BK235.out) hb); replace HB := aZ (below_step bZ hb); (try clear hb); (try clear hb2); (try clear hk); (try clear hi); have hcz46_0 : w45.cell? ⟨gb234, 0, none⟩ = some (.slice A0_0 l0_0.length c0_0) := (blk_cell BK234.out 0).trans rfl; have hcz46_1 : w45.cell? ⟨gb234, 1, none⟩ = some (.slice A0_1 l0_1.length c0_1) := (blk_cell BK234.out 1).trans rfl; have hfz46_0 := blk_frozen BK234.out 0; have hfz46_1 := blk_frozen BK234.out 1) | ((with_reducible refine gate_callee (f := 153) rfl ?_); refine goesL_ (some 12) rfl rfl Try.func153 kZ rfl #[.agg #[.slice A0_0 l0_0.length c0_0, .slice A0_1 l0_1.length c0_1]] rfl tZA ?_; (with_reducible refine (impl_copyRegister.calls _ _ l0_0 _ _ l0_1 t237 t240 _ ?side1 ?side2 ?side3 ?side4 A5.out).mono ?_); (case side1 => repeat (first | exact (Kd.C_below HR0_0.out HB.out) | (with_reducible refine Kd.C_alloc ?_ _) | (with_reducible refine Kd.C_drewN ?_ _) | (with_reducible refine Kd.C_drew ?_))); (case side2 => exact HC0_0.out); (case side3 => repeat (first | exact (Kd.C_below HR0_1.out HB.out) | (with_reducible refine Kd.C_alloc ?_ _) | (with_reducible refine Kd.C_drewN ?_ _) | (with_reducible refine Kd.C_drew ?_))); (case side4 => exact HC0_1.out); rintro e w47 ⟨v238, v241, rfl, ho0, ho1, hb⟩; refine ⟨_, rfl, ?_⟩; have HO239 := aZ (Kd.R_lower ho0 (below_size bZ)); have HO242 := aZ (Kd.R_lower ho1 (below_size bZ)); replace BK234 := aZ (blk_below (bkZ BK234.out) hb); replace BK235 := aZ (blk_below (bkZ BK235.out) hb); replace HB := aZ (below_step bZ hb); (try clear hb); (try clear hb2); (try clear hk); (try clear hi); (try clear ho0); (try clear ho1)) | ((with_reducible refine gate_dst (N := 6) rfl ?_); (try (refine gate_guard (by rfl) ?_; dsimp only)); refine box_event ?hg (N := 6) ?hd (cs := #[.slice none 0 0, .slice none 0 0]) (t := 86) ?hr ?_; (case hd => rfl); (case hg => rfl); (case hr => first | (go_simp; done) | (go_simp; rfl)); intro gb243 hg w48 hbox hb; replace HO239 := aZ (Kd.R_below (lZR HO239.out) hb); replace HO242 := aZ (Kd.R_below (lZR HO242.out) hb); have BK243 := aZ (hbox); have GW243 := aZ ((by rw [hg]; exact (below_size bZ) : w.heap.size ≤ gb243)); have GE243 := aZ ((by rw [hg]; exact (below_size bZ) : w.heap.size ≤ gb243)); replace HB := aZ (below_step bZ hb); have NB234_243 := aZ ((by rw [hg]; exact Nat.ne_of_lt (blk_lt (bkZ BK234.out)) : gb234 ≠ gb243)); have NB243_234 := aZ ((by rw [hg]; exact Nat.ne_of_gt (blk_lt (bkZ BK234.out)) : gb243 ≠ gb234)); replace BK234 := aZ (blk_below (bkZ BK234.out) hb); have NB235_243 := aZ ((by rw [hg]; exact Nat.ne_of_lt (blk_lt (bkZ BK235.out)) : gb235 ≠ gb243)); have NB243_235 := aZ ((by rw [hg]; exact Nat.ne_of_gt (blk_lt (bkZ BK235.out)) : gb243 ≠ gb235)); replace BK235 := aZ (blk_below (bkZ BK235.out) hb); clear hb hbox hg; obtain ⟨Ao49, co49, eo49⟩ := Kd.R_slice HO239.out; subst eo49; have hnb50 := NB243_234.out; have hnc50 := NB234_243.out; have hnb51 := NB243_235.out; have hnc51 := NB235_243.out; have hcz52_0 : w48.cell? ⟨gb243, 0, none⟩ = some (.slice none 0 0) := (blk_cell BK243.out 0).trans rfl; have hcz52_1 : w48.cell? ⟨gb243, 1, none⟩ = some (.slice none 0 0) := (blk_cell BK243.out 1).trans rfl; have hfz52_0 := blk_frozen BK243.out 0; have hfz52_1 := blk_frozen BK243.out 1; obtain ⟨Ao53, co53, eo53⟩ := Kd.R_slice HO242.out; subst eo53; have hcz54_0 : w48.cell? ⟨gb234, 0, none⟩ = some (.slice A0_0 l0_0.length c0_0) := (blk_cell BK234.out 0).trans rfl; have hcz54_1 : w48.cell? ⟨gb234, 1, none⟩ = some (.slice A0_1 l0_1.length c0_1) := (blk_cell BK234.out 1).trans rfl; have hfz54_0 := blk_frozen BK234.out 0; have hfz54_1 := blk_frozen BK234.out 1; have p244 : 0 ≤ (a1 : Int) := of_decide_eq_true tZE; have q244 : a1 < (l0_1.length : Int) := of_decide_eq_true tZE; obtain ⟨ad244, e244, hx244_0, hx244_1, hx244_2, hx244_3⟩ := at_T230 HR0_1.out a1 p244 q244; (try rw [← Nbq39.out] at hx244_3); cases e244; have hn244_0 : ad244.block ≠ gb243 := Nat.ne_of_lt (Nat.lt_of_lt_of_le (by have := World.block_lt_of_cell? _ _ hx244_0; first | rwa [add_block] at this | exact this) GW243.out); have hn244_1 : ad244.block ≠ gb243 := Nat.ne_of_lt (Nat.lt_of_lt_of_le (by have := World.block_lt_of_cell? _ _ hx244_0; first | rwa [add_block] at this | exact this) GW243.out); replace hx244_0 := cZ HB hx244_0; replace hx244_1 := cZ HB hx244_1; replace hx244_2 := cZ HB hx244_2; replace hx244_3 := cZ HB hx244_3; replace hx244_0 := (cell_far (p := ⟨gb243, 0, none⟩) (by first | (rw [add_block]; exact hn244_0) | (show (Addr.add _ _).block ≠ _; rw [add_block]; exact hn244_0) | exact hn244_0) (.slice Ao49 t237.length co49)).trans hx244_0; replace hx244_1 := (cell_far (p := ⟨gb243, 0, none⟩) (by first | (rw [add_block]; exact hn244_0) | (show (Addr.add _ _).block ≠ _; rw [add_block]; exact hn244_0) | exact hn244_0) (.slice Ao49 t237.length co49)).trans hx244_1; replace hx244_2 := (cell_far (p := ⟨gb243, 0, none⟩) (by first | (rw [add_block]; exact hn244_0) | (show (Addr.add _ _).block ≠ _; rw [add_block]; exact hn244_0) | exact hn244_0) (.slice Ao49 t237.length co49)).trans hx244_2; replace hx244_3 := (cell_far (p := ⟨gb243, 0, none⟩) (by first | (rw [add_block]; exact hn244_0) | (show (Addr.add _ _).block ≠ _; rw [add_block]; exact hn244_0) | exact hn244_0) (.slice Ao49 t237.length co49)).trans hx244_3; replace hx244_0 := (cell_far (p := ⟨gb243, 1, none⟩) (by first | (rw [add_block]; exact hn244_1) | (show (Addr.add _ _).block ≠ _; rw [add_block]; exact hn244_1) | exact hn244_1) (.slice Ao53 t240.length co53)).trans hx244_0; replace hx244_1 := (cell_far (p := ⟨gb243, 1, none⟩) (by first | (rw [add_block]; exact hn244_1) | (show (Addr.add _ _).block ≠ _; rw [add_block]; exact hn244_1) | exact hn244_1) (.slice Ao53 t240.length co53)).trans hx244_1; replace hx244_2 := (cell_far (p := ⟨gb243, 1, none⟩) (by first | (rw [add_block]; exact hn244_1) | (show (Addr.add _ _).block ≠ _; rw [add_block]; exact hn244_1) | exact hn244_1) (.slice Ao53 t240.length co53)).trans hx244_2; replace hx244_3 := (cell_far (p := ⟨gb243, 1, none⟩) (by first | (rw [add_block]; exact hn244_1) | (show (Addr.add _ _).block ≠ _; rw [add_block]; exact hn244_1) | exact hn244_1) (.slice Ao53 t240.length co53)).trans hx244_3; clear hn244_0; clear hn244_1; replace p244 := eq_true p244; replace q244 := eq_true q244; have hcz55_0 : w48.cell? ⟨gb235, 0, none⟩ = some (.slice none 0 0) := (blk_cell BK235.out 0).trans rfl; have hcz55_1 : w48.cell? ⟨gb235, 1, none⟩ = some (.slice none 0 0) := (blk_cell BK235.out 1).trans rfl; have hfz55_0 := blk_frozen BK235.out 0; have hfz55_1 := blk_frozen BK235.out 1))
  refine bodyPost_ret (results_ct rfl _ _ gb235 86 #[.slice Ao49 t237.length co49, .slice Ao53 t240.length co53] (0, 0) _ rfl (by (with_reducible repeat (first | refine blk_drewN ?_ _ | refine blk_drew ?_ | refine blk_alloc ?_ _)); refine blk_put (cs := #[.slice Ao49 t237.length co49, .slice none 0 0]) ?_ 1 _ rfl; (with_reducible repeat (first | refine blk_drewN ?_ _ | refine blk_drew ?_ | refine blk_alloc ?_ _)); refine blk_put (cs := #[.slice none 0 0, .slice none 0 0]) ?_ 0 _ rfl; (with_reducible repeat (first | refine blk_drewN ?_ _ | refine blk_drew ?_ | refine blk_alloc ?_ _)); refine blk_far ?_ NB235_243.out _; (with_reducible repeat (first | refine blk_drewN ?_ _ | refine blk_drew ?_ | refine blk_alloc ?_ _)); refine blk_far ?_ NB235_243.out _; (with_reducible repeat (first | refine blk_drewN ?_ _ | refine blk_drew ?_ | refine blk_alloc ?_ _)); exact BK235.out) Try.underlying86 rfl kZ) rfl ?_
  exact ⟨_, _, tZC, by (with_reducible repeat (first | apply Kd.R_alloc | apply Kd.R_drewN | apply Kd.R_drew)); exact Kd.R_mono (Kd.R_far (p := ⟨gb235, 1, none⟩) (Kd.R_far (p := ⟨gb235, 0, none⟩) (Kd.R_far (p := ⟨gb243, 1, none⟩) (Kd.R_far (p := ⟨gb243, 0, none⟩) (Kd.R_types (Kd.R_types HO239.out BK243.out (by decide)) BK235.out (by decide)) (fun _ hk => hk.1.2) (.slice Ao49 t237.length co49)) (fun _ hk => hk.1.2) (.slice Ao53 t240.length co53)) (fun _ hk => hk.2) (.slice Ao49 t237.length co49)) (fun _ hk => hk.2) (.slice Ao53 t240.length co53)) (fun _ hk => trivial), by (with_reducible repeat (first | apply Kd.R_alloc | apply Kd.R_drewN | apply Kd.R_drew)); exact Kd.R_mono (Kd.R_far (p := ⟨gb235, 1, none⟩) (Kd.R_far (p := ⟨gb235, 0, none⟩) (Kd.R_far (p := ⟨gb243, 1, none⟩) (Kd.R_far (p := ⟨gb243, 0, none⟩) (Kd.R_types (Kd.R_types HO242.out BK243.out (by decide)) BK235.out (by decide)) (fun _ hk => hk.1.2) (.slice Ao49 t237.length co49)) (fun _ hk => hk.1.2) (.slice Ao53 t240.length co53)) (fun _ hk => hk.2) (.slice Ao49 t237.length co49)) (fun _ hk => hk.2) (.slice Ao53 t240.length co53)) (fun _ hk => trivial), bZ⟩
 replace c40 := Bool.eq_false_iff.mpr c40
 subst c40
 have H1 : (if a1 < (t240.length : Int) then (some (t237, (t240.set (a1 : Int).toNat (⟨(rd_T230 t240 a1).f0, (rd_T230 t240 a1).f1, (rd_T230 t240 a1).f2, true⟩ : S230)), true)) else (none)) = some (r1, r2, r3) := by rw [if_neg (show ¬ (false = true) by decide)] at H; exact H
 clear H
 have H := H1
 clear H1
 by_cases c56 : a1 < (t240.length : Int)
 rotate_left
 ·rw [if_neg c56] at H
  exact absurd H (by simp)
 rw [if_pos c56] at H
 have c56b0 := decide_eq_true c56
 clear c56
 obtain ⟨y245, hy245⟩ : ∃ y_ : List (S230), y_ = (t240.set (a1 : Int).toNat (⟨(rd_T230 t240 a1).f0, (rd_T230 t240 a1).f1, (rd_T230 t240 a1).f2, true⟩ : S230)) := ⟨_, rfl⟩
 replace H : (some (t237, y245, true)) = some (r1, r2, r3) := by first | (rw [hy245]; with_reducible exact H) | (have H2_ := (Option.bind_some _ _).symm.trans H; rw [hy245]; with_reducible exact H2_) | (have H2_ := (Option.bind_some _ _).symm.trans H; with_reducible exact H2_) | with_reducible exact H | (rw [hy245]; exact H) | exact H
 have Ny245 := Aside0.mk hy245
 clear hy245
 simp only [Option.some.injEq, Prod.mk.injEq] at H
 obtain ⟨rfl, rfl, rfl⟩ := H
 go_enter Try.func57, Try.ntmps57
 go_wp2_with (first | ((with_reducible refine gate_dst (N := 2) rfl ?_); (try (refine gate_guard (by rfl) ?_; dsimp only)); refine box_event ?hg (N := 2) ?hd (cs := #[.slice A0_0 l0_0.length c0_0, .slice A0_1 l0_1.length c0_1]) (t := 86) ?hr ?_; (case hd => rfl); (case hg => rfl); (case hr => first | (go_simp; done) | (go_simp; rfl)); intro gb234 hg w58 hbox hb; have BK234 := aZ (hbox); have GW234 := aZ ((by rw [hg]; exact (below_size (lZB HB.out)) : w.heap.size ≤ gb234)); have GE234 := aZ ((by rw [hg]; exact (below_size (lZB HB.out)) : w.heap.size ≤ gb234)); replace HB := aZ (below_step (lZB HB.out) hb); clear hb hbox hg) | ((with_reducible refine gate_dst (N := 4) rfl ?_); (try (refine gate_guard (by rfl) ?_; dsimp only)); refine box_event ?hg (N := 4) ?hd (cs := #[.slice none 0 0, .slice none 0 0]) (t := 86) ?hr ?_; (case hd => rfl); (case hg => rfl); (case hr => first | (go_simp; done) | (go_simp; rfl)); intro gb235 hg w59 hbox hb; have BK235 := aZ (hbox); have GW235 := aZ ((by rw [hg]; exact (below_size bZ) : w.heap.size ≤ gb235)); have GE235 := aZ ((by rw [hg]; exact (below_size bZ) : w.heap.size ≤ gb235)); replace HB := aZ (below_step bZ hb); have NB234_235 := aZ ((by rw [hg]; exact Nat.ne_of_lt (blk_lt (bkZ BK234.out)) : gb234 ≠ gb235)); have NB235_234 := aZ ((by rw [hg]; exact Nat.ne_of_gt (blk_lt (bkZ BK234.out)) : gb235 ≠ gb234)); replace BK234 := aZ (blk_below (bkZ BK234.out) hb); clear hb hbox hg; have hnb60 := NB234_235.out; have hnc60 := NB235_234.out; have hcz61_0 : w59.cell? ⟨gb234, 0, none⟩ = some (.slice A0_0 l0_0.length c0_0) := (blk_cell BK234.out 0).trans rfl; have hcz61_1 : w59.cell? ⟨gb234, 1, none⟩ = some (.slice A0_1 l0_1.length c0_1) := (blk_cell BK234.out 1).trans rfl; have hfz61_0 := blk_frozen BK234.out 0; have hfz61_1 := blk_frozen BK234.out 1) | ((with_reducible refine gate_callee (f := 152) rfl ?_); refine goesL_ (some 8) rfl rfl Try.func152 kZ rfl #[.agg #[.slice A0_0 l0_0.length c0_0, .slice A0_1 l0_1.length c0_1]] rfl tZA ?_; (with_reducible refine (impl_RegisterOk.calls k _ _ l0_0 _ _ l0_1 true _ ?side1 ?side2 ?side3 ?side4 A3.out).mono ?_); (case side1 => repeat (first | exact (Kd.C_below HR0_0.out HB.out) | (with_reducible refine Kd.C_alloc ?_ _) | (with_reducible refine Kd.C_drewN ?_ _) | (with_reducible refine Kd.C_drew ?_))); (case side2 => exact HC0_0.out); (case side3 => repeat (first | exact (Kd.C_below HR0_1.out HB.out) | (with_reducible refine Kd.C_alloc ?_ _) | (with_reducible refine Kd.C_drewN ?_ _) | (with_reducible refine Kd.C_drew ?_))); (case side4 => exact HC0_1.out); rintro e w62 ⟨rfl, hb⟩; refine ⟨_, rfl, ?_⟩; replace BK234 := aZ (blk_below (bkZ BK234.out) hb); replace BK235 := aZ (blk_below (bkZ BK235.out) hb); replace HB := aZ (below_step bZ hb); (try clear hb); (try clear hb2); (try clear hk); (try clear hi); have hcz63_0 : w62.cell? ⟨gb234, 0, none⟩ = some (.slice A0_0 l0_0.length c0_0) := (blk_cell BK234.out 0).trans rfl; have hcz63_1 : w62.cell? ⟨gb234, 1, none⟩ = some (.slice A0_1 l0_1.length c0_1) := (blk_cell BK234.out 1).trans rfl; have hfz63_0 := blk_frozen BK234.out 0; have hfz63_1 := blk_frozen BK234.out 1) | ((with_reducible refine gate_callee (f := 153) rfl ?_); refine goesL_ (some 12) rfl rfl Try.func153 kZ rfl #[.agg #[.slice A0_0 l0_0.length c0_0, .slice A0_1 l0_1.length c0_1]] rfl tZA ?_; (with_reducible refine (impl_copyRegister.calls _ _ l0_0 _ _ l0_1 t237 t240 _ ?side1 ?side2 ?side3 ?side4 A5.out).mono ?_); (case side1 => repeat (first | exact (Kd.C_below HR0_0.out HB.out) | (with_reducible refine Kd.C_alloc ?_ _) | (with_reducible refine Kd.C_drewN ?_ _) | (with_reducible refine Kd.C_drew ?_))); (case side2 => exact HC0_0.out); (case side3 => repeat (first | exact (Kd.C_below HR0_1.out HB.out) | (with_reducible refine Kd.C_alloc ?_ _) | (with_reducible refine Kd.C_drewN ?_ _) | (with_reducible refine Kd.C_drew ?_))); (case side4 => exact HC0_1.out); rintro e w64 ⟨v238, v241, rfl, ho0, ho1, hb⟩; refine ⟨_, rfl, ?_⟩; have HO239 := aZ (Kd.R_lower ho0 (below_size bZ)); have HO242 := aZ (Kd.R_lower ho1 (below_size bZ)); replace BK234 := aZ (blk_below (bkZ BK234.out) hb); replace BK235 := aZ (blk_below (bkZ BK235.out) hb); replace HB := aZ (below_step bZ hb); (try clear hb); (try clear hb2); (try clear hk); (try clear hi); (try clear ho0); (try clear ho1)) | ((with_reducible refine gate_dst (N := 6) rfl ?_); (try (refine gate_guard (by rfl) ?_; dsimp only)); refine box_event ?hg (N := 6) ?hd (cs := #[.slice none 0 0, .slice none 0 0]) (t := 86) ?hr ?_; (case hd => rfl); (case hg => rfl); (case hr => first | (go_simp; done) | (go_simp; rfl)); intro gb243 hg w65 hbox hb; replace HO239 := aZ (Kd.R_below (lZR HO239.out) hb); replace HO242 := aZ (Kd.R_below (lZR HO242.out) hb); have BK243 := aZ (hbox); have GW243 := aZ ((by rw [hg]; exact (below_size bZ) : w.heap.size ≤ gb243)); have GE243 := aZ ((by rw [hg]; exact (below_size bZ) : w.heap.size ≤ gb243)); replace HB := aZ (below_step bZ hb); have NB234_243 := aZ ((by rw [hg]; exact Nat.ne_of_lt (blk_lt (bkZ BK234.out)) : gb234 ≠ gb243)); have NB243_234 := aZ ((by rw [hg]; exact Nat.ne_of_gt (blk_lt (bkZ BK234.out)) : gb243 ≠ gb234)); replace BK234 := aZ (blk_below (bkZ BK234.out) hb); have NB235_243 := aZ ((by rw [hg]; exact Nat.ne_of_lt (blk_lt (bkZ BK235.out)) : gb235 ≠ gb243)); have NB243_235 := aZ ((by rw [hg]; exact Nat.ne_of_gt (blk_lt (bkZ BK235.out)) : gb243 ≠ gb235)); replace BK235 := aZ (blk_below (bkZ BK235.out) hb); clear hb hbox hg; obtain ⟨Ao66, co66, eo66⟩ := Kd.R_slice HO239.out; subst eo66; have hnb67 := NB243_234.out; have hnc67 := NB234_243.out; have hnb68 := NB243_235.out; have hnc68 := NB235_243.out; have hcz69_0 : w65.cell? ⟨gb243, 0, none⟩ = some (.slice none 0 0) := (blk_cell BK243.out 0).trans rfl; have hcz69_1 : w65.cell? ⟨gb243, 1, none⟩ = some (.slice none 0 0) := (blk_cell BK243.out 1).trans rfl; have hfz69_0 := blk_frozen BK243.out 0; have hfz69_1 := blk_frozen BK243.out 1; obtain ⟨Ao70, co70, eo70⟩ := Kd.R_slice HO242.out; subst eo70) | ((with_reducible refine gate_store (t := 86) (p := 6) rfl ?_); refine store_event (t := 86) (p := 6) (v := ?vo_w71) (w1 := ((w65.setCell ⟨gb243, 0, none⟩ (.slice Ao66 t237.length co66)).setCell ⟨gb243, 1, none⟩ (.slice Ao70 t240.length co70))) ?hg ?ho ?hn ?hr ?_; (case ho => rfl); (case hg => rfl); (case hn => rfl); (case hr => first | (go_simp; done) | (go_simp; rfl)); intro w71 hw; replace HO239 : Aside0 (Kd.R k304 304 w71 w.heap.size (fun _ => True) (.slice Ao66 t237.length co66) t237) := ⟨(by rw [hw]; exact (by (with_reducible repeat (first | apply Kd.R_alloc | apply Kd.R_drewN | apply Kd.R_drew)); exact Kd.R_mono (Kd.R_far (p := ⟨gb243, 1, none⟩) (Kd.R_far (p := ⟨gb243, 0, none⟩) (Kd.R_types HO239.out BK243.out (by decide)) (fun _ hk => hk.2) (.slice Ao66 t237.length co66)) (fun _ hk => hk.2) (.slice Ao70 t240.length co70)) (fun _ hk => trivial)))⟩; replace HO242 : Aside0 (Kd.R k230 230 w71 w.heap.size (fun _ => True) (.slice Ao70 t240.length co70) t240) := ⟨(by rw [hw]; exact (by (with_reducible repeat (first | apply Kd.R_alloc | apply Kd.R_drewN | apply Kd.R_drew)); exact Kd.R_mono (Kd.R_far (p := ⟨gb243, 1, none⟩) (Kd.R_far (p := ⟨gb243, 0, none⟩) (Kd.R_types HO242.out BK243.out (by decide)) (fun _ hk => hk.2) (.slice Ao66 t237.length co66)) (fun _ hk => hk.2) (.slice Ao70 t240.length co70)) (fun _ hk => trivial)))⟩; replace BK234 : Aside0 (w71.heap[gb234]? = some (.cells #[.slice A0_0 l0_0.length c0_0, .slice A0_1 l0_1.length c0_1] 86 (0, 0))) := ⟨(by rw [hw]; exact (by (with_reducible repeat (first | refine blk_drewN ?_ _ | refine blk_drew ?_ | refine blk_alloc ?_ _)); refine blk_far ?_ NB234_243.out _; (with_reducible repeat (first | refine blk_drewN ?_ _ | refine blk_drew ?_ | refine blk_alloc ?_ _)); refine blk_far ?_ NB234_243.out _; (with_reducible repeat (first | refine blk_drewN ?_ _ | refine blk_drew ?_ | refine blk_alloc ?_ _)); exact BK234.out))⟩; replace BK235 : Aside0 (w71.heap[gb235]? = some (.cells #[.slice none 0 0, .slice none 0 0] 86 (0, 0))) := ⟨(by rw [hw]; exact (by (with_reducible repeat (first | refine blk_drewN ?_ _ | refine blk_drew ?_ | refine blk_alloc ?_ _)); refine blk_far ?_ NB235_243.out _; (with_reducible repeat (first | refine blk_drewN ?_ _ | refine blk_drew ?_ | refine blk_alloc ?_ _)); refine blk_far ?_ NB235_243.out _; (with_reducible repeat (first | refine blk_drewN ?_ _ | refine blk_drew ?_ | refine blk_alloc ?_ _)); exact BK235.out))⟩; replace BK243 : Aside0 (w71.heap[gb243]? = some (.cells #[.slice Ao66 t237.length co66, .slice Ao70 t240.length co70] 86 (0, 0))) := ⟨(by rw [hw]; exact (by (with_reducible repeat (first | refine blk_drewN ?_ _ | refine blk_drew ?_ | refine blk_alloc ?_ _)); refine blk_put (cs := #[.slice Ao66 t237.length co66, .slice none 0 0]) ?_ 1 _ rfl; (with_reducible repeat (first | refine blk_drewN ?_ _ | refine blk_drew ?_ | refine blk_alloc ?_ _)); refine blk_put (cs := #[.slice none 0 0, .slice none 0 0]) ?_ 0 _ rfl; (with_reducible repeat (first | refine blk_drewN ?_ _ | refine blk_drew ?_ | refine blk_alloc ?_ _)); exact BK243.out))⟩; replace HB : Aside0 (Below w.heap.size w w71) := ⟨(by rw [hw]; exact bZ)⟩; clear hw; have hcz72_0 : w71.cell? ⟨gb234, 0, none⟩ = some (.slice A0_0 l0_0.length c0_0) := (blk_cell BK234.out 0).trans rfl; have hcz72_1 : w71.cell? ⟨gb234, 1, none⟩ = some (.slice A0_1 l0_1.length c0_1) := (blk_cell BK234.out 1).trans rfl; have hfz72_0 := blk_frozen BK234.out 0; have hfz72_1 := blk_frozen BK234.out 1; have p244 : 0 ≤ (a1 : Int) := of_decide_eq_true tZE; have q244 : a1 < (l0_1.length : Int) := of_decide_eq_true tZE; obtain ⟨ad244, e244, hx244_0, hx244_1, hx244_2, hx244_3⟩ := at_T230 HR0_1.out a1 p244 q244; (try rw [← Nbq39.out] at hx244_3); cases e244; replace hx244_0 := cZ HB hx244_0; replace hx244_1 := cZ HB hx244_1; replace hx244_2 := cZ HB hx244_2; replace hx244_3 := cZ HB hx244_3; replace p244 := eq_true p244; replace q244 := eq_true q244; have hcz73_0 : w71.cell? ⟨gb243, 0, none⟩ = some (.slice Ao66 t237.length co66) := (blk_cell BK243.out 0).trans rfl; have hcz73_1 : w71.cell? ⟨gb243, 1, none⟩ = some (.slice Ao70 t240.length co70) := (blk_cell BK243.out 1).trans rfl; have hfz73_0 := blk_frozen BK243.out 0; have hfz73_1 := blk_frozen BK243.out 1; have p57 : 0 ≤ (a1 : Int) := of_decide_eq_true tZE; have q57 : (a1 : Int) < ((t240.length : Int) : Int) := of_decide_eq_true tZE; obtain ⟨go57, co57, eo57, gb57, gl57, cl57, HG57⟩ := Kd.R_form HO242.out (by omega); (first | cases eo57 | (injection eo57 with ea_ en_ ec_; (first | subst ea_ | (injection ea_ with ea_; subst ea_)); subst ec_; clear en_)); have GB57 := Aside0.mk gb57; have GG57 := Aside0.mk HG57; clear gb57 gl57 HG57; obtain ⟨ce57, hcl57, hM57, hcc57, hfr57⟩ := Kd.R_elem HO242.out z230 (a1 : Int) p57 q57; obtain rfl := k230_openM hM57; have hx57_0 : w71.cell? ⟨go57, (a1 : Int).toNat * 4, none⟩ = some (.int .i64 ((rd_T230 t240 a1).f0)) := hcc57 0 _ rfl; have hx57_1 : w71.cell? ⟨go57, (a1 : Int).toNat * 4 + 1, none⟩ = some (.int .i64 ((rd_T230 t240 a1).f1)) := hcc57 1 _ rfl; have hx57_2 : w71.cell? ⟨go57, (a1 : Int).toNat * 4 + 2, none⟩ = some (.int .i64 ((rd_T230 t240 a1).f2)) := hcc57 2 _ rfl; have hx57_3 : w71.cell? ⟨go57, (a1 : Int).toNat * 4 + 3, none⟩ = some (.bool ((rd_T230 t240 a1).f3)) := hcc57 3 _ rfl; have hf57_0 : w71.frozen? ⟨go57, (a1 : Int).toNat * 4, none⟩ = false := hfr57 0; have hf57_1 : w71.frozen? ⟨go57, (a1 : Int).toNat * 4 + 1, none⟩ = false := hfr57 1; have hf57_2 : w71.frozen? ⟨go57, (a1 : Int).toNat * 4 + 2, none⟩ = false := hfr57 2; have hf57_3 : w71.frozen? ⟨go57, (a1 : Int).toNat * 4 + 3, none⟩ = false := hfr57 3; clear hcl57 hcc57 hfr57 hM57; replace p57 := eq_true p57; replace q57 := eq_true q57; have HX74 := aZ (show Kd.R k230 230 w71 w.heap.size (fun _ => True) (.slice (some ⟨go57, 0, none⟩) t240.length co70) t240 from (lZR HO242.out)); obtain ⟨ce74, hcl74, hM74, hcc74, hfr74⟩ := Kd.R_elem HX74.out z230 (a1 : Int) (of_decide_eq_true tZE) (by have h_ : (a1 : Int) < ((t240.length : Int) : Int) := of_decide_eq_true tZE; first | exact h_ | (have e_ := (Kd.R_reads' HO242.out).1; omega) | simpa using h_); obtain rfl := k230_openM hM74; have HP74 := Kd.R_seg HX74.out (a1 : Int) (of_decide_eq_true tZE) (by have h_ : (a1 : Int) < ((t240.length : Int) : Int) := of_decide_eq_true tZE; first | exact h_ | (have e_ := (Kd.R_reads' HO242.out).1; omega) | simpa using h_) (seg := [.bool true]) (j := 3) hcl74 hcc74 (show 4 ≤ 4 from by decide) (x' := (⟨(rd_T230 t240 a1).f0, (rd_T230 t240 a1).f1, (rd_T230 t240 a1).f2, true⟩ : S230)) (k230_mkM _ _ _ (⟨(rd_T230 t240 a1).f0, (rd_T230 t240 a1).f1, (rd_T230 t240 a1).f2, true⟩ : S230) ) (fun _ hk => hk); have hx74_3 := hcc74 3 _ rfl; (try simp only [show (k230).sz = 4 from rfl, Nat.mul_one, Nat.add_zero] at hx74_3); have hf74_3 := hfr74 3; (try simp only [show (k230).sz = 4 from rfl, Nat.mul_one, Nat.add_zero] at hf74_3); clear hcl74 hcc74 hfr74 hM74) | ((with_reducible refine gate_store (t := 4) (p := 35) rfl ?_); refine store_event (t := 4) (p := 35) (v := ?vo_w75) (w1 := (w71.setCell ⟨go57, (a1 : Int).toNat * 4 + 3, none⟩ (.bool true))) ?hg ?ho ?hn ?hr ?_; (case ho => rfl); (case hg => rfl); (case hn => rfl); (case hr => first | (go_simp; done) | (go_simp; rfl)); intro w75 hw; have hg : w71.grownBy w75 (some go57) := (by rw [hw]; exact HP74.2); have hp_ : Kd.R k230 230 w75 w.heap.size (fun _ => True) (.slice (some ⟨go57, 0, none⟩) t240.length co70) y245 := (by rw [hw, Ny245.out]; exact HP74.1); clear HP74; replace BK234 := aZ (blk_grown (bkZ BK234.out) hg (Kd.R_ne HO242.out BK234.out (by decide))); replace BK235 := aZ (blk_grown (bkZ BK235.out) hg (Kd.R_ne HO242.out BK235.out (by decide))); replace HO239 := aZ (Kd.R_over' (v := (.slice (some ⟨go57, 0, none⟩) t240.length co70)) (lZR HO239.out) (Kd.R_typed HO242.out) (by decide) hg); replace BK243 := aZ (blk_grown (bkZ BK243.out) hg (Kd.R_ne HO242.out BK243.out (by decide))); replace HO242 := aZ (hp_); replace HB := aZ ((by rw [hw]; exact below_set (HB.out) GB57.out : Below w.heap.size w w75)); clear hg hw hp_; have hcz76_0 : w75.cell? ⟨gb243, 0, none⟩ = some (.slice Ao66 t237.length co66) := (blk_cell BK243.out 0).trans rfl; have hcz76_1 : w75.cell? ⟨gb243, 1, none⟩ = some (.slice (some ⟨go57, 0, none⟩) t240.length co70) := (blk_cell BK243.out 1).trans rfl; have hfz76_0 := blk_frozen BK243.out 0; have hfz76_1 := blk_frozen BK243.out 1; have hcz77_0 : w75.cell? ⟨gb235, 0, none⟩ = some (.slice none 0 0) := (blk_cell BK235.out 0).trans rfl; have hcz77_1 : w75.cell? ⟨gb235, 1, none⟩ = some (.slice none 0 0) := (blk_cell BK235.out 1).trans rfl; have hfz77_0 := blk_frozen BK235.out 0; have hfz77_1 := blk_frozen BK235.out 1))
 refine bodyPost_ret (results_ct rfl _ _ gb235 86 #[.slice Ao66 t237.length co66, .slice (some ⟨go57, 0, none⟩) t240.length co70] (0, 0) _ rfl (by (with_reducible repeat (first | refine blk_drewN ?_ _ | refine blk_drew ?_ | refine blk_alloc ?_ _)); refine blk_put (cs := #[.slice Ao66 t237.length co66, .slice none 0 0]) ?_ 1 _ rfl; (with_reducible repeat (first | refine blk_drewN ?_ _ | refine blk_drew ?_ | refine blk_alloc ?_ _)); refine blk_put (cs := #[.slice none 0 0, .slice none 0 0]) ?_ 0 _ rfl; (with_reducible repeat (first | refine blk_drewN ?_ _ | refine blk_drew ?_ | refine blk_alloc ?_ _)); exact BK235.out) Try.underlying86 rfl kZ) rfl ?_
 exact ⟨_, _, tZC, by (with_reducible repeat (first | apply Kd.R_alloc | apply Kd.R_drewN | apply Kd.R_drew)); exact Kd.R_mono (Kd.R_far (p := ⟨gb235, 1, none⟩) (Kd.R_far (p := ⟨gb235, 0, none⟩) (Kd.R_types HO239.out BK235.out (by decide)) (fun _ hk => hk.2) (.slice Ao66 t237.length co66)) (fun _ hk => hk.2) (.slice (some ⟨go57, 0, none⟩) t240.length co70)) (fun _ hk => trivial), by (with_reducible repeat (first | apply Kd.R_alloc | apply Kd.R_drewN | apply Kd.R_drew)); exact Kd.R_mono (Kd.R_far (p := ⟨gb235, 1, none⟩) (Kd.R_far (p := ⟨gb235, 0, none⟩) (Kd.R_types HO242.out BK235.out (by decide)) (fun _ hk => hk.2) (.slice Ao66 t237.length co66)) (fun _ hk => hk.2) (.slice (some ⟨go57, 0, none⟩) t240.length co70)) (fun _ hk => trivial), bZ⟩
def laws_eqSeries.f (a0_0 : ByteArray) (a0_1 : Int) (a1_0 : ByteArray) (a1_1 : Int) : Option (Bool) := if a0_0.toList = a1_0.toList then (if a0_1 = a1_1 then (some true) else (some false)) else (some false)
set_option maxHeartbeats 8000000 in
set_option maxRecDepth 100000 in
theorem laws_eqSeries.calls (a0_0 : ByteArray) (a0_1 : Int) (a1_0 : ByteArray) (a1_1 : Int) (r : Bool) (w : World) (h : laws_eqSeries.f a0_0 a0_1 a1_0 a1_1 = some r) :
    Calls Try.prog 227 #[.agg #[.string a0_0, .int .i64 a0_1], .agg #[.string a1_0, .int .i64 a1_1]] w fun e w' => e = .returned (.bool r) ∧ Below w.heap.size w w' := by
 have hu304 := Try.underlying304
 have HB := aZ (Below.refl w.heap.size w)
 have H : (if a0_0.toList = a1_0.toList then (if a0_1 = a1_1 then (some true) else (some false)) else (some false)) = some r := h
 clear h
 by_cases c3 : a0_0.toList = a1_0.toList
 rotate_left
 ·rw [if_neg c3] at H
  have c3b0 : (a0_0.toList == a1_0.toList) = false := beq_eq_false_iff_ne.mpr c3
  have c3b1 : (a0_0.toList != a1_0.toList) = true := bne_iff_ne.mpr c3
  obtain rfl := Option.some.inj H
  go_enter Try.func227, Try.ntmps227
  go_wp2_with (first | ((with_reducible refine gate_dst (N := 2) rfl ?_); refine box_event ?hg (N := 2) ?hd (cs := #[.string a0_0, .int .i64 a0_1]) (t := 304) ?hr ?_; (case hd => rfl); (case hg => rfl); (case hr => first | (go_simp; done) | (go_simp; rfl)); intro gb246 hg w15 hbox hb; have BK246 := aZ (hbox); have GW246 := aZ ((by rw [hg]; exact (below_size (lZB HB.out)) : w.heap.size ≤ gb246)); have GE246 := aZ ((by rw [hg]; exact (below_size (lZB HB.out)) : w.heap.size ≤ gb246)); replace HB := aZ (below_step (lZB HB.out) hb); clear hb hbox hg) | ((with_reducible refine gate_dst (N := 3) rfl ?_); refine box_event ?hg (N := 3) ?hd (cs := #[.string a1_0, .int .i64 a1_1]) (t := 304) ?hr ?_; (case hd => rfl); (case hg => rfl); (case hr => first | (go_simp; done) | (go_simp; rfl)); intro gb247 hg w16 hbox hb; have BK247 := aZ (hbox); have GW247 := aZ ((by rw [hg]; exact (below_size bZ) : w.heap.size ≤ gb247)); have GE247 := aZ ((by rw [hg]; exact (below_size bZ) : w.heap.size ≤ gb247)); replace HB := aZ (below_step bZ hb); have NB246_247 := aZ ((by rw [hg]; exact Nat.ne_of_lt (blk_lt (bkZ BK246.out)) : gb246 ≠ gb247)); have NB247_246 := aZ ((by rw [hg]; exact Nat.ne_of_gt (blk_lt (bkZ BK246.out)) : gb247 ≠ gb246)); replace BK246 := aZ (blk_below (bkZ BK246.out) hb); clear hb hbox hg; have hnb17 := NB246_247.out; have hnc17 := NB247_246.out; have hcz18_0 : w16.cell? ⟨gb246, 0, none⟩ = some (.string a0_0) := (blk_cell BK246.out 0).trans rfl; have hcz18_1 : w16.cell? ⟨gb246, 1, none⟩ = some (.int .i64 a0_1) := (blk_cell BK246.out 1).trans rfl; have hfz18_0 := blk_frozen BK246.out 0; have hfz18_1 := blk_frozen BK246.out 1; have hcz19_0 : w16.cell? ⟨gb247, 0, none⟩ = some (.string a1_0) := (blk_cell BK247.out 0).trans rfl; have hcz19_1 : w16.cell? ⟨gb247, 1, none⟩ = some (.int .i64 a1_1) := (blk_cell BK247.out 1).trans rfl; have hfz19_0 := blk_frozen BK247.out 0; have hfz19_1 := blk_frozen BK247.out 1))
  go_ret
  exact ⟨tZC, bZ⟩
 rw [if_pos c3] at H
 have c3b0 : (a0_0.toList == a1_0.toList) = true := beq_iff_eq.mpr c3
 have c3b1 : (a0_0.toList != a1_0.toList) = false := bne_eq_false_iff_eq.mpr c3
 clear c3
 by_cases c4 : a0_1 = a1_1
 ·rw [if_pos c4] at H
  have c4b0 : (a0_1 == a1_1) = true := beq_iff_eq.mpr c4
  have c4b1 : (a0_1 != a1_1) = false := bne_eq_false_iff_eq.mpr c4
  clear c4
  obtain rfl := Option.some.inj H
  go_enter Try.func227, Try.ntmps227
  go_wp2_with (first | ((with_reducible refine gate_dst (N := 2) rfl ?_); refine box_event ?hg (N := 2) ?hd (cs := #[.string a0_0, .int .i64 a0_1]) (t := 304) ?hr ?_; (case hd => rfl); (case hg => rfl); (case hr => first | (go_simp; done) | (go_simp; rfl)); intro gb246 hg w5 hbox hb; have BK246 := aZ (hbox); have GW246 := aZ ((by rw [hg]; exact (below_size (lZB HB.out)) : w.heap.size ≤ gb246)); have GE246 := aZ ((by rw [hg]; exact (below_size (lZB HB.out)) : w.heap.size ≤ gb246)); replace HB := aZ (below_step (lZB HB.out) hb); clear hb hbox hg) | ((with_reducible refine gate_dst (N := 3) rfl ?_); refine box_event ?hg (N := 3) ?hd (cs := #[.string a1_0, .int .i64 a1_1]) (t := 304) ?hr ?_; (case hd => rfl); (case hg => rfl); (case hr => first | (go_simp; done) | (go_simp; rfl)); intro gb247 hg w6 hbox hb; have BK247 := aZ (hbox); have GW247 := aZ ((by rw [hg]; exact (below_size bZ) : w.heap.size ≤ gb247)); have GE247 := aZ ((by rw [hg]; exact (below_size bZ) : w.heap.size ≤ gb247)); replace HB := aZ (below_step bZ hb); have NB246_247 := aZ ((by rw [hg]; exact Nat.ne_of_lt (blk_lt (bkZ BK246.out)) : gb246 ≠ gb247)); have NB247_246 := aZ ((by rw [hg]; exact Nat.ne_of_gt (blk_lt (bkZ BK246.out)) : gb247 ≠ gb246)); replace BK246 := aZ (blk_below (bkZ BK246.out) hb); clear hb hbox hg; have hnb7 := NB246_247.out; have hnc7 := NB247_246.out; have hcz8_0 : w6.cell? ⟨gb246, 0, none⟩ = some (.string a0_0) := (blk_cell BK246.out 0).trans rfl; have hcz8_1 : w6.cell? ⟨gb246, 1, none⟩ = some (.int .i64 a0_1) := (blk_cell BK246.out 1).trans rfl; have hfz8_0 := blk_frozen BK246.out 0; have hfz8_1 := blk_frozen BK246.out 1; have hcz9_0 : w6.cell? ⟨gb247, 0, none⟩ = some (.string a1_0) := (blk_cell BK247.out 0).trans rfl; have hcz9_1 : w6.cell? ⟨gb247, 1, none⟩ = some (.int .i64 a1_1) := (blk_cell BK247.out 1).trans rfl; have hfz9_0 := blk_frozen BK247.out 0; have hfz9_1 := blk_frozen BK247.out 1))
  go_ret
  exact ⟨tZC, bZ⟩
 rw [if_neg c4] at H
 have c4b0 : (a0_1 == a1_1) = false := beq_eq_false_iff_ne.mpr c4
 have c4b1 : (a0_1 != a1_1) = true := bne_iff_ne.mpr c4
 obtain rfl := Option.some.inj H
 go_enter Try.func227, Try.ntmps227
 go_wp2_with (first | ((with_reducible refine gate_dst (N := 2) rfl ?_); refine box_event ?hg (N := 2) ?hd (cs := #[.string a0_0, .int .i64 a0_1]) (t := 304) ?hr ?_; (case hd => rfl); (case hg => rfl); (case hr => first | (go_simp; done) | (go_simp; rfl)); intro gb246 hg w10 hbox hb; have BK246 := aZ (hbox); have GW246 := aZ ((by rw [hg]; exact (below_size (lZB HB.out)) : w.heap.size ≤ gb246)); have GE246 := aZ ((by rw [hg]; exact (below_size (lZB HB.out)) : w.heap.size ≤ gb246)); replace HB := aZ (below_step (lZB HB.out) hb); clear hb hbox hg) | ((with_reducible refine gate_dst (N := 3) rfl ?_); refine box_event ?hg (N := 3) ?hd (cs := #[.string a1_0, .int .i64 a1_1]) (t := 304) ?hr ?_; (case hd => rfl); (case hg => rfl); (case hr => first | (go_simp; done) | (go_simp; rfl)); intro gb247 hg w11 hbox hb; have BK247 := aZ (hbox); have GW247 := aZ ((by rw [hg]; exact (below_size bZ) : w.heap.size ≤ gb247)); have GE247 := aZ ((by rw [hg]; exact (below_size bZ) : w.heap.size ≤ gb247)); replace HB := aZ (below_step bZ hb); have NB246_247 := aZ ((by rw [hg]; exact Nat.ne_of_lt (blk_lt (bkZ BK246.out)) : gb246 ≠ gb247)); have NB247_246 := aZ ((by rw [hg]; exact Nat.ne_of_gt (blk_lt (bkZ BK246.out)) : gb247 ≠ gb246)); replace BK246 := aZ (blk_below (bkZ BK246.out) hb); clear hb hbox hg; have hnb12 := NB246_247.out; have hnc12 := NB247_246.out; have hcz13_0 : w11.cell? ⟨gb246, 0, none⟩ = some (.string a0_0) := (blk_cell BK246.out 0).trans rfl; have hcz13_1 : w11.cell? ⟨gb246, 1, none⟩ = some (.int .i64 a0_1) := (blk_cell BK246.out 1).trans rfl; have hfz13_0 := blk_frozen BK246.out 0; have hfz13_1 := blk_frozen BK246.out 1; have hcz14_0 : w11.cell? ⟨gb247, 0, none⟩ = some (.string a1_0) := (blk_cell BK247.out 0).trans rfl; have hcz14_1 : w11.cell? ⟨gb247, 1, none⟩ = some (.int .i64 a1_1) := (blk_cell BK247.out 1).trans rfl; have hfz14_0 := blk_frozen BK247.out 0; have hfz14_1 := blk_frozen BK247.out 1))
 go_ret
 exact ⟨tZC, bZ⟩
end Go.Proofs.Ytnbecbgpefmcoaa.PFnExactVoid
