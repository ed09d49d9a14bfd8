import Derived.Test.YtobbemdkipknnaaXPFnExactTaxReturnx0
import Derived.Test.YtobbemdkipknnaaXPFnExactTaxReturnx3
import Derived.Test.YtobbemdkipknnaaXSlimWords
namespace Go.Proofs.Ytobbemdkipknnaa.PFnExactTaxReturn
open Go.Proofs.Ytobbemdkipknnaa.SlimWords
open Go.RowKit Go.Proofs.YtobbemdkipknnaaW.PrintWords Go.Proofs.YtobbemdkipknnaaW.PrintLast Go.Proofs.YtobbemdkipknnaaW.PrintMore Go.Proofs.Ytobbemdkipknnaa.MapWords Go.Proofs.Ytobbemdkipknnaa.IterWords Go.Proofs.Ytobbemdkipknnaa.MarkWords
attribute [local go_sem] max2_int min2_int max_two min_two max_three min_three max_four min_four
set_option linter.unusedVariables false
set_option linter.unusedSimpArgs false
private abbrev I' := true
private abbrev O' := false
private abbrev L0' : Array Bool := #[O',O',O',O',O',O',O',O',O',O',O',O',O',O',O',O',O',O',O',O',O',O',O']
private abbrev L1' : Array Bool := #[I',O',O',O',O',O',O',O',O',O',O',O',O',O',O',O',O',O',O',O',O',O',O']
private abbrev L2' : Array Bool := #[I',I',O',O',O',O',O',O',O',O',O',O',O',O',O',O',O',O',O',O',O',O',O']
private abbrev L3' : Array Bool := #[I',I',I',O',O',O',O',O',O',O',O',O',O',O',O',O',O',O',O',O',O',O',O']
private abbrev L4' : Array Bool := #[I',I',I',I',O',O',O',O',O',O',O',O',O',O',O',O',O',O',O',O',O',O',O']
private abbrev L5' : Array Bool := #[I',I',I',I',I',O',O',O',O',O',O',O',O',O',O',O',O',O',O',O',O',O',O']
private abbrev L6' : Array Bool := #[I',I',I',I',I',I',O',O',O',O',O',O',O',O',O',O',O',O',O',O',O',O',O']
private abbrev L7' : Array Bool := #[I',I',I',I',I',I',I',O',O',O',O',O',O',O',O',O',O',O',O',O',O',O',O']
private abbrev L8' : Array Bool := #[I',I',I',I',I',I',I',I',O',O',O',O',O',O',O',O',O',O',O',O',O',O',O']
private abbrev L9' : Array Bool := #[I',I',I',I',I',I',I',I',I',O',O',O',O',O',O',O',O',O',O',O',O',O',O']
private abbrev L10' : Array Bool := #[I',I',I',I',I',I',I',I',I',I',O',O',O',O',O',O',O',O',O',O',O',O',O']
private abbrev L11' : Array Bool := #[I',I',I',I',I',I',I',I',I',I',I',O',O',O',O',O',O',O',O',O',O',O',O']
private abbrev L12' : Array Bool := #[I',I',I',I',I',I',I',I',I',I',I',I',O',O',O',O',O',O',O',O',O',O',O']
private abbrev L13' : Array Bool := #[I',I',I',I',I',I',I',I',I',I',I',I',I',O',O',O',O',O',O',O',O',O',O']
private abbrev L14' : Array Bool := #[I',I',I',I',I',I',I',I',I',I',I',I',I',I',O',O',O',O',O',O',O',O',O']
private abbrev L15' : Array Bool := #[I',I',I',I',I',I',I',I',I',I',I',I',I',I',I',O',O',O',O',O',O',O',O']
private abbrev L16' : Array Bool := #[I',I',I',I',I',I',I',I',I',I',I',I',I',I',I',I',O',O',O',O',O',O',O']
private abbrev L17' : Array Bool := #[I',I',I',I',I',I',I',I',I',I',I',I',I',I',I',I',I',O',O',O',O',O',O']
private abbrev L18' : Array Bool := #[I',I',I',I',I',I',I',I',I',I',I',I',I',I',I',I',I',I',O',O',O',O',O']
private abbrev L19' : Array Bool := #[I',I',I',I',I',I',I',I',I',I',I',I',I',I',I',I',I',I',I',O',O',O',O']
private abbrev L20' : Array Bool := #[I',I',I',I',I',I',I',I',I',I',I',I',I',I',I',I',I',I',I',I',O',O',O']
private abbrev L21' : Array Bool := #[I',I',I',I',I',I',I',I',I',I',I',I',I',I',I',I',I',I',I',I',I',O',O']
private abbrev L22' : Array Bool := #[I',I',I',I',I',I',I',I',I',I',I',I',I',I',I',I',I',I',I',I',I',I',O']
private abbrev L23' : Array Bool := #[I',I',I',I',I',I',I',I',I',I',I',I',I',I',I',I',I',I',I',I',I',I',I']
private abbrev L24' : Array Bool := #[I',I',I',I',I',I',I',I',I',I',I',I',I',I',O',I',O',O',O',O',O',O',O']
private abbrev L25' : Array Bool := #[I',I',I',I',I',I',I',I',I',I',I',I',I',I',O',I',I',O',O',O',O',O',O']
private abbrev L26' : Array Bool := #[I',I',I',I',I',I',I',I',I',I',I',I',I',I',O',I',I',I',O',O',O',O',O']
mutual
def impl_TaxLine.l0 : Nat → List (S59) → List (S59) → List (S59) → Int → Int → Int → Int → Option ((List (S59)))
  | 0, _, _, _, _, _, _, _ => none
  | k + 1, x0, x5, x6, x7, x8, x33, x34 => if x34 < x33 then (if x8 = (x6.length : Int) then (if 0 ≤ x7 then (if x7 < (x5.length : Int) then (if 0 ≤ x34 then (if x34 < (x0.length : Int) then (impl_TaxLine.l0 k (x0.set (x34 : Int).toNat (⟨(rd_T59 x5 x7).f0, (rd_T59 x5 x7).f1, (rd_T59 x5 x7).f2, (rd_T59 x5 x7).f3⟩ : S59)) x5 x6 (wrap64 (x7 + 1)) x8 x33 (wrap64 (x34 + 1))) else (none)) else (none)) else (none)) else (none)) else (if x7 < (x5.length : Int) then (if 0 ≤ x8 then (if x8 < (x6.length : Int) then (if 0 ≤ x7 then ((impl_TaxReturn_1.f ((rd_T59 x6 x8).f0) ((rd_T59 x6 x8).f1) ((rd_T59 x6 x8).f2) ((rd_T59 x6 x8).f3) ((rd_T59 x5 x7).f0) ((rd_T59 x5 x7).f1) ((rd_T59 x5 x7).f2) ((rd_T59 x5 x7).f3)).bind fun t218 => (if t218 = true then (if 0 ≤ x34 then (if x34 < (x0.length : Int) then (impl_TaxLine.l0 k (x0.set (x34 : Int).toNat (⟨(rd_T59 x6 x8).f0, (rd_T59 x6 x8).f1, (rd_T59 x6 x8).f2, (rd_T59 x6 x8).f3⟩ : S59)) x5 x6 x7 (wrap64 (x8 + 1)) x33 (wrap64 (x34 + 1))) else (none)) else (none)) else (if 0 ≤ x34 then (if x34 < (x0.length : Int) then (impl_TaxLine.l0 k (x0.set (x34 : Int).toNat (⟨(rd_T59 x5 x7).f0, (rd_T59 x5 x7).f1, (rd_T59 x5 x7).f2, (rd_T59 x5 x7).f3⟩ : S59)) x5 x6 (wrap64 (x7 + 1)) x8 x33 (wrap64 (x34 + 1))) else (none)) else (none)))) else (none)) else (none)) else (none)) else (if 0 ≤ x8 then (if x8 < (x6.length : Int) then (if 0 ≤ x34 then (if x34 < (x0.length : Int) then (impl_TaxLine.l0 k (x0.set (x34 : Int).toNat (⟨(rd_T59 x6 x8).f0, (rd_T59 x6 x8).f1, (rd_T59 x6 x8).f2, (rd_T59 x6 x8).f3⟩ : S59)) x5 x6 x7 (wrap64 (x8 + 1)) x33 (wrap64 (x34 + 1))) else (none)) else (none)) else (none)) else (none)))) else (some x0)
def impl_TaxLine.f : Nat → List (S59) → Unit → Option ((List (S59)))
  | 0, _, _ => none
  | k + 1, l0, a1 => if (l0.length : Int) < 2 then (some l0) else ((some (([] : List (S59)) : List (S59))).bind fun y192 => (if 0 ≤ (wrap64 ((l0.length : Int) / 2)) then (if (wrap64 ((l0.length : Int) / 2)) ≤ (l0.length : Int) then ((some (l0.take ((wrap64 ((l0.length : Int) / 2)) : Int).toNat : List (S59))).bind fun y195 => (if y192.length + y195.length < 3518437208883 then ((some (([] : List (S59)) : List (S59))).bind fun y202 => ((some (l0.drop ((wrap64 ((l0.length : Int) / 2)) : Int).toNat : List (S59))).bind fun y205 => (if y202.length + y205.length < 3518437208883 then ((impl_TaxLine.f k (y192 ++ y195) ()).bind fun t212 => ((impl_TaxLine.f k (y202 ++ y205) ()).bind fun t213 => (impl_TaxLine.l0 k l0 t212 t213 0 0 (l0.length : Int) 0))) else (none)))) else (none))) else (none)) else (none)))
end
theorem impl_TaxLine.mono_l : ∀ k, (∀ y0 y1, LeO (impl_TaxLine.f k y0 y1) (impl_TaxLine.f (k + 1) y0 y1)) ∧ (∀ y0 y1 y2 y3 y4 y5 y6, LeO (impl_TaxLine.l0 k y0 y1 y2 y3 y4 y5 y6) (impl_TaxLine.l0 (k + 1) y0 y1 y2 y3 y4 y5 y6))
  | 0 => ⟨fun _ _ r h => by simp [impl_TaxLine.f] at h, fun _ _ _ _ _ _ _ r h => by simp [impl_TaxLine.l0] at h⟩
  | k + 1 => by
    obtain ⟨ih0, ih1⟩ := impl_TaxLine.mono_l k
    refine ⟨?_, ?_⟩
    · intro y0 y1
      unfold impl_TaxLine.f
      repeat' first
      | (with_reducible exact ih0 _ _)
      | (with_reducible exact ih1 _ _ _ _ _ _ _)
      | (with_reducible exact LeO.refl _)
      | (with_reducible exact LeO.none _)
      | (with_reducible refine LeO.ite ?_ ?_)
      | (with_reducible refine LeO.bind ?_ (fun _ => ?_))
      | exact ih0 _ _
      | exact ih1 _ _ _ _ _ _ _
      | exact LeO.none _
      | refine LeO.ite ?_ ?_
      | refine LeO.bind ?_ (fun _ => ?_)
    · intro y0 y1 y2 y3 y4 y5 y6
      unfold impl_TaxLine.l0
      repeat' first
      | (with_reducible exact ih0 _ _)
      | (with_reducible exact ih1 _ _ _ _ _ _ _)
      | (with_reducible exact LeO.refl _)
      | (with_reducible exact LeO.none _)
      | (with_reducible refine LeO.ite ?_ ?_)
      | (with_reducible refine LeO.bind ?_ (fun _ => ?_))
      | exact ih0 _ _
      | exact ih1 _ _ _ _ _ _ _
      | exact LeO.none _
      | refine LeO.ite ?_ ?_
      | refine LeO.bind ?_ (fun _ => ?_)
theorem impl_TaxLine.mono : ∀ a0 a1 k, LeO (impl_TaxLine.f k a0 a1) (impl_TaxLine.f (k + 1) a0 a1) := by
 intro a0 a1 k
 obtain ⟨ih0, ih1⟩ := impl_TaxLine.mono_l k
 exact ih0 a0 a1
def impl_TaxLine.T10 : Bool × List (List Nat × List Nat) := (true, [([], []), ([], []), ([1], [1]), ([0, 2], [0, 2]), ([3], [3]), ([4], [4]), ([4], [4]), ([6, 4], [4, 6]), ([5, 7, 4], [4, 5, 7]), ([8, 4, 4], [4, 8]), ([9], [9]), ([9], [9]), ([9], [9]), ([11, 12, 9], [9, 11, 12]), ([13, 9], [9, 13]), ([9], [9]), ([9], [9]), ([15, 16, 9], [9, 15, 16]), ([17, 9], [9, 17]), ([10, 14, 18, 9, 9], [9, 10, 14, 18]), ([19, 9], [9, 19]), ([9, 20, 4], [4, 9, 20]), ([4, 21], [4, 21])])
def impl_TaxLine.B10 : List Nat := [0, 0, 2, 7, 15, 31, 31, 95, 255, 511, 1023, 1023, 1023, 7167, 15359, 1023, 1023, 99327, 230399, 524287, 1048575, 2097151, 4194303]
theorem impl_TaxLine.tab10 : rtab .any (opsOf Try.f45 10) = impl_TaxLine.T10 := by kernel_rfl
theorem impl_TaxLine.bits10 : waitsOk impl_TaxLine.T10.2 impl_TaxLine.B10 = true := by kernel_rfl
set_option maxHeartbeats 8000000 in
set_option maxRecDepth 100000 in
theorem impl_TaxLine.calls (k : Nat) : ∀ (P0_ : Nat → Prop) (u9000_ : Value) (l0 : List (S59)) (a1 : Unit) (r : List (S59)) (w0 w : World) (hB : Below w0.heap.size w0 w) (ho0 : Kd.R k59 59 w w0.heap.size P0_ u9000_ l0) (h : impl_TaxLine.f k l0 a1 = some r),
    Calls Try.prog 45 #[u9000_, .func (.func 46) #[] #[]] w fun e w' => e = .returned (.tuple #[]) ∧ Kd.R k59 59 w' w0.heap.size (fun k_ => (P0_ k_ ∨ w.heap.size ≤ k_)) u9000_ r ∧ Below w0.heap.size w0 w' ∧ Kept w w' (fun k_ => P0_ k_) := by
 induction k using Nat.strongRecOn with
 | _ k ih =>
 intro P0_ u9000_ l0 a1 r w0 w hB ho0 h
 cases k with
 | zero => exact absurd h (by simp [impl_TaxLine.f])
 | succ k =>
 simp only [impl_TaxLine.f] at h; have hu59 := Try.underlying59; have HO0 := aZ (show Kd.R k59 59 w w0.heap.size (fun k_ => (P0_ k_ ∨ w.heap.size ≤ k_)) u9000_ l0 from Kd.R_mono ho0 (fun k_ hk => (.inl hk))); have HK := aZ (Kept.refl w (fun k_ => P0_ k_)); have HW0 := Aside0.mk hB.size; have HB := Aside0.mk hB; clear hB
 have H : (if (l0.length : Int) < 2 then (some l0) else ((some (([] : List (S59)) : List (S59))).bind fun y192 => (if 0 ≤ (wrap64 ((l0.length : Int) / 2)) then (if (wrap64 ((l0.length : Int) / 2)) ≤ (l0.length : Int) then ((some (l0.take ((wrap64 ((l0.length : Int) / 2)) : Int).toNat : List (S59))).bind fun y195 => (if y192.length + y195.length < 3518437208883 then ((some (([] : List (S59)) : List (S59))).bind fun y202 => ((some (l0.drop ((wrap64 ((l0.length : Int) / 2)) : Int).toNat : List (S59))).bind fun y205 => (if y202.length + y205.length < 3518437208883 then ((impl_TaxLine.f k (y192 ++ y195) ()).bind fun t212 => ((impl_TaxLine.f k (y202 ++ y205) ()).bind fun t213 => (impl_TaxLine.l0 k l0 t212 t213 0 0 (l0.length : Int) 0))) else (none)))) else (none))) else (none)) else (none)))) = some r := h; clear h
 by_cases c3 : (l0.length : Int) < 2
 ·rw [if_pos c3] at H; have c3b0 := decide_eq_true c3; have c3b1 : decide (l0.length < 2) = true := decide_eq_true (by omega); clear c3; obtain rfl := Option.some.inj H; obtain ⟨Ao4, co4, eo4⟩ := Kd.R_slice HO0.out; subst eo4; go_enter Try.func45, Try.ntmps45; go_wp2
  first | go_end0 | ((try simp only [Exit.inBlock, Exit.then]); refine bodyPost_ret (results_none rfl _ _ _) rfl ?_)
  exact ⟨tZC, lZR HO0.out, by repeat (first | (with_reducible first | exact HB.out | apply below_alloc | apply pw_below_drewN | apply below_drew1) | exact HB.out), by repeat (first | (with_reducible first | exact HK.out | apply Kept.alloc | apply Kept.drewN | apply Kept.drew) | exact HK.out)⟩
 rw [if_neg c3] at H; have c3b0 := decide_eq_false c3; have c3b1 : decide (l0.length < 2) = false := decide_eq_false (by omega); clear c3; obtain ⟨y192, hy192⟩ : ∃ y_ : List (S59), y_ = (([] : List (S59))) := ⟨_, rfl⟩
 replace H : (if 0 ≤ (wrap64 ((l0.length : Int) / 2)) then (if (wrap64 ((l0.length : Int) / 2)) ≤ (l0.length : Int) then ((some (l0.take ((wrap64 ((l0.length : Int) / 2)) : Int).toNat : List (S59))).bind fun y195 => (if y192.length + y195.length < 3518437208883 then ((some (([] : List (S59)) : List (S59))).bind fun y202 => ((some (l0.drop ((wrap64 ((l0.length : Int) / 2)) : Int).toNat : List (S59))).bind fun y205 => (if y202.length + y205.length < 3518437208883 then ((impl_TaxLine.f k (y192 ++ y195) ()).bind fun t212 => ((impl_TaxLine.f k (y202 ++ y205) ()).bind fun t213 => (impl_TaxLine.l0 k l0 t212 t213 0 0 (l0.length : Int) 0))) else (none)))) else (none))) else (none)) else (none)) = some r := by first | (rw [hy192]; with_reducible exact H) | (have H2_ := (Option.bind_some _ _).symm.trans H; rw [hy192]; with_reducible exact H2_) | (have H2_ := (Option.bind_some _ _).symm.trans H; with_reducible exact H2_) | with_reducible exact H | (rw [hy192]; exact H) | exact H
 have Ny192 := Aside0.mk hy192; clear hy192; obtain ⟨ji5, hji5⟩ : ∃ j_ : Int, (wrap64 ((l0.length : Int) / 2)) = j_ := ⟨_, rfl⟩; replace H : (if 0 ≤ (ji5) then (if (ji5) ≤ (l0.length : Int) then ((some (l0.take ((ji5) : Int).toNat : List (S59))).bind fun y195 => (if y192.length + y195.length < 3518437208883 then ((some (([] : List (S59)) : List (S59))).bind fun y202 => ((some (l0.drop ((ji5) : Int).toNat : List (S59))).bind fun y205 => (if y202.length + y205.length < 3518437208883 then ((impl_TaxLine.f k (y192 ++ y195) ()).bind fun t212 => ((impl_TaxLine.f k (y202 ++ y205) ()).bind fun t213 => (impl_TaxLine.l0 k l0 t212 t213 0 0 (l0.length : Int) 0))) else (none)))) else (none))) else (none)) else (none)) = some r := by first | (rw [hji5] at H; exact H) | (simp only [hji5] at H ⊢; exact H)
 have hji5w : (IntKind.i64.wrap ((l0.length : Int) / 2)) = ji5 := (i64_w _).trans hji5
 by_cases c6 : 0 ≤ (ji5)
 rotate_left
 ·rw [if_neg c6] at H; exact absurd H (by simp)
 rw [if_pos c6] at H; have c6b0 := eq_true c6; have c6b1 := decide_eq_true c6; clear c6
 by_cases c7 : (ji5) ≤ (l0.length : Int)
 rotate_left
 ·rw [if_neg c7] at H; exact absurd H (by simp)
 rw [if_pos c7] at H; have c7b0 := eq_true c7; have c7b1 := decide_eq_true c7; clear c7; obtain ⟨y195, hy195⟩ : ∃ y_ : List (S59), y_ = (l0.take ((ji5) : Int).toNat) := ⟨_, rfl⟩
 replace H : (if y192.length + y195.length < 3518437208883 then ((some (([] : List (S59)) : List (S59))).bind fun y202 => ((some (l0.drop ((ji5) : Int).toNat : List (S59))).bind fun y205 => (if y202.length + y205.length < 3518437208883 then ((impl_TaxLine.f k (y192 ++ y195) ()).bind fun t212 => ((impl_TaxLine.f k (y202 ++ y205) ()).bind fun t213 => (impl_TaxLine.l0 k l0 t212 t213 0 0 (l0.length : Int) 0))) else (none)))) else (none)) = some r := by first | (rw [hy195]; with_reducible exact H) | (have H2_ := (Option.bind_some _ _).symm.trans H; rw [hy195]; with_reducible exact H2_) | (have H2_ := (Option.bind_some _ _).symm.trans H; with_reducible exact H2_) | with_reducible exact H | (rw [hy195]; exact H) | exact H
 have Ny195 := Aside0.mk hy195; clear hy195
 by_cases c8 : y192.length + y195.length < 3518437208883
 rotate_left
 ·rw [if_neg c8] at H; exact absurd H (by simp)
 rw [if_pos c8] at H; have LMc8 := Aside0.mk c8; clear c8; obtain ⟨y199, hy199⟩ : ∃ y_ : List (S59), y_ = (y192 ++ y195) := ⟨_, rfl⟩; replace H : ((some (([] : List (S59)) : List (S59))).bind fun y202 => ((some (l0.drop ((ji5) : Int).toNat : List (S59))).bind fun y205 => (if y202.length + y205.length < 3518437208883 then ((impl_TaxLine.f k y199 ()).bind fun t212 => ((impl_TaxLine.f k (y202 ++ y205) ()).bind fun t213 => (impl_TaxLine.l0 k l0 t212 t213 0 0 (l0.length : Int) 0))) else (none)))) = some r := by first | (rw [hy199]; with_reducible exact H) | (have H2_ := (Option.bind_some _ _).symm.trans H; rw [hy199]; with_reducible exact H2_) | (have H2_ := (Option.bind_some _ _).symm.trans H; with_reducible exact H2_) | with_reducible exact H | (rw [hy199]; exact H) | exact H
 have Ny199 := Aside0.mk hy199; clear hy199; obtain ⟨y202, hy202⟩ : ∃ y_ : List (S59), y_ = (([] : List (S59))) := ⟨_, rfl⟩; replace H : ((some (l0.drop ((ji5) : Int).toNat : List (S59))).bind fun y205 => (if y202.length + y205.length < 3518437208883 then ((impl_TaxLine.f k y199 ()).bind fun t212 => ((impl_TaxLine.f k (y202 ++ y205) ()).bind fun t213 => (impl_TaxLine.l0 k l0 t212 t213 0 0 (l0.length : Int) 0))) else (none))) = some r := by first | (rw [hy202]; with_reducible exact H) | (have H2_ := (Option.bind_some _ _).symm.trans H; rw [hy202]; with_reducible exact H2_) | (have H2_ := (Option.bind_some _ _).symm.trans H; with_reducible exact H2_) | with_reducible exact H | (rw [hy202]; exact H) | exact H
 have Ny202 := Aside0.mk hy202; clear hy202; have c9b0 := eq_true (of_decide_eq_true tZE : 0 ≤ (ji5)); have c10b0 := eq_true (of_decide_eq_true tZE : (ji5) ≤ (l0.length : Int)); obtain ⟨y205, hy205⟩ : ∃ y_ : List (S59), y_ = (l0.drop ((ji5) : Int).toNat) := ⟨_, rfl⟩; replace H : (if y202.length + y205.length < 3518437208883 then ((impl_TaxLine.f k y199 ()).bind fun t212 => ((impl_TaxLine.f k (y202 ++ y205) ()).bind fun t213 => (impl_TaxLine.l0 k l0 t212 t213 0 0 (l0.length : Int) 0))) else (none)) = some r := by first | (rw [hy205]; with_reducible exact H) | (have H2_ := (Option.bind_some _ _).symm.trans H; rw [hy205]; with_reducible exact H2_) | (have H2_ := (Option.bind_some _ _).symm.trans H; with_reducible exact H2_) | with_reducible exact H | (rw [hy205]; exact H) | exact H
 have Ny205 := Aside0.mk hy205; clear hy205
 by_cases c11 : y202.length + y205.length < 3518437208883
 rotate_left
 ·rw [if_neg c11] at H; exact absurd H (by simp)
 rw [if_pos c11] at H; have LMc11 := Aside0.mk c11; clear c11; obtain ⟨y209, hy209⟩ : ∃ y_ : List (S59), y_ = (y202 ++ y205) := ⟨_, rfl⟩; replace H : ((impl_TaxLine.f k y199 ()).bind fun t212 => ((impl_TaxLine.f k y209 ()).bind fun t213 => (impl_TaxLine.l0 k l0 t212 t213 0 0 (l0.length : Int) 0))) = some r := by first | (rw [hy209]; with_reducible exact H) | (have H2_ := (Option.bind_some _ _).symm.trans H; rw [hy209]; with_reducible exact H2_) | (have H2_ := (Option.bind_some _ _).symm.trans H; with_reducible exact H2_) | with_reducible exact H | (rw [hy209]; exact H) | exact H
 have Ny209 := Aside0.mk hy209; clear hy209; replace H := Option.bind_eq_some_iff.mp H; obtain ⟨t212, A120, H⟩ := H; replace H : ((impl_TaxLine.f k y209 ()).bind fun t213 => (impl_TaxLine.l0 k l0 t212 t213 0 0 (l0.length : Int) 0)) = some r := H; have A12 := Aside0.mk A120; clear A120; replace H := Option.bind_eq_some_iff.mp H; obtain ⟨t213, A130, H⟩ := H; replace H : (impl_TaxLine.l0 k l0 t212 t213 0 0 (l0.length : Int) 0) = some r := H; have A13 := Aside0.mk A130; clear A130; have H' := Aside0.mk H; clear H; obtain ⟨Ao14, co14, eo14⟩ := Kd.R_slice HO0.out; subst eo14; go_enter Try.func45, Try.ntmps45
 go_wp2_with (first | ((with_reducible refine gate_dst (N := 16) rfl ?_); (try (refine gate_guard (by rfl) ?_; dsimp only)); refine Kd.R_lit k59 _ 59 ?hg (N := 16) ?hd (xs := ([] : List (S59))) (inner := []) (ok := fun _ => True) (okp := fun _ => True) ?hr ?hp (fun _ hk => hk) trivial (Below.refl _ _) (Nat.le_refl _) (by simp) ?_; (case hd => rfl); (case hg => rfl); (case hr => first | (go_simp; done) | (go_simp; rfl)); (case hp => exact (Reps.none _ _)); intro v193 w15 ho16 hb hg_ hnew_; clear hg_ hnew_; (first | rw [← Ny192.out] at ho16 | (simp only [Int.reduceToNat] at ho16; rw [← Ny192.out] at ho16)); have HO194 := aZ (Kd.R_lower (Kd.R_new' (Kd.R_newM (M := fun k_ => (P0_ k_ ∨ w.heap.size ≤ k_)) ho16 (by first | exact HK.out.1 | exact (show Kept w _ (fun k_ => P0_ k_) from by repeat (first | (with_reducible first | exact HK.out | apply Kept.alloc | apply Kept.drewN | apply Kept.drew) | exact HK.out)).1) (fun k_ h_ => .inr h_)) (Kd.R_lt (lZR HO0.out))) (below_size (lZB HB.out))); replace HO0 := aZ (Kd.R_elder' (lZR HO0.out) (Kd.R_base ho16) hb); replace HK := aZ (Kept.below (S := (fun k_ => P0_ k_)) (by repeat (first | (with_reducible first | exact HK.out | apply Kept.alloc | apply Kept.drewN | apply Kept.drew) | exact HK.out)) hb); replace HB := aZ (below_step (lZB HB.out) hb); clear hb ho16; have q17 : ((ji5) : Int) ≤ ((l0.length : Int) : Int) := of_decide_eq_true tZE; obtain ⟨i017, hi017, _, hsz17, _⟩ := info_parts info59; have hroom17 : l0.length ≤ co14 := (Kd.R_reads' HO0.out).2.1; have hC17 : Kd.C k59 _ Ao14 l0.length l0 := (Kd.R_reads' HO0.out).2.2; have hcut17 := cut_to (P := Try.prog) 24 59 .i64 Try.underlying24 hi017 Ao14 l0.length co14 (ji5) (of_decide_eq_true tZE) q17 hroom17; have hr17 := Kd.C_take (m := ((ji5) : Int).toNat) hC17 (by omega); have hy17 : y195.length = ((ji5) : Int).toNat := (by rw [Ny195.out, List.length_take]; omega); rw [← Ny195.out] at hr17; rw [← hy17] at hcut17; have HR198 := Aside0.mk hr17; have HC198 := aZ (show y195.length ≤ co14 from by omega); clear hr17 hC17 hroom17 hi017 hsz17; have KY17 := Aside0.mk hy17; clear hy17; have KL17 := aZ (show ((ji5) : Int).toNat ≤ l0.length from by omega); replace q17 := eq_true q17) | ((with_reducible refine gate_builtin (b := .append) (xs := #[.tmp 16, .tmp 19]) rfl ?_); (try (refine gate_guard (by rfl) ?_; dsimp only)); at_builtin; refine Kd.R_append_rows k59 (w0 := w0) w0.heap.size rfl (.tmp 16) (.tmp 19) 24 59 (.agg #[(.string ⟨#[]⟩), (.int .i64 0), (.int .i64 0), (.int .i64 0)]) 40 rfl Try.underlying24 info59 rfl (by decide) (by omega) v193 y192 y195 _ _ _ (fun k_ => (P0_ k_ ∨ w.heap.size ≤ k_) ∧ some k_ ≠ (.slice Ao14 l0.length co14 : Value).ownBlock) (fun _ => False) rfl rfl ?aO ?aR (fun _ _ h => h) (fun _ h => h.elim) ?aF ?aB ?aS ?aL ?_; (case aR => repeat (first | exact (by repeat (first | (with_reducible exact HR198.out) | (with_reducible refine Kd.C_alloc ?_ _) | (with_reducible refine Kd.C_drewN ?_ _) | (with_reducible refine Kd.C_drew ?_) | exact HR198.out)) | (with_reducible refine Kd.C_alloc ?_ _) | (with_reducible refine Kd.C_drewN ?_ _) | (with_reducible refine Kd.C_drew ?_))); (case aB => exact (lZB HB.out)); (case aF => exact (fun k_ hk => ⟨(.inr (Nat.le_trans (by first | exact HK.out.1 | exact (show Kept w _ (fun k_ => P0_ k_) from by repeat (first | (with_reducible first | exact HK.out | apply Kept.alloc | apply Kept.drewN | apply Kept.drew) | exact HK.out)).1) hk)), Kd.fresh' (Kd.R_lt (lZR HO0.out)) k_ hk⟩)); (case aO => exact (by (with_reducible repeat (first | apply Kd.R_alloc | apply Kd.R_drewN | apply Kd.R_drew)); exact Kd.R_mono HO194.out (fun _ hk => ⟨hk.1.1, hk.2⟩))); (case aS => exact (below_size (lZB HB.out))); (case aL => have := LMc8.out; omega); intro v200 w18 ho hb hg hat; rw [← Ny199.out] at ho; replace HB := aZ (hb); replace HK := aZ (Kept.of_grown (S := (fun k_ => P0_ k_)) hg (by repeat (first | (with_reducible first | exact HK.out | apply Kept.alloc | apply Kept.drewN | apply Kept.drew) | exact HK.out)) (fun k_ e_ => (HO194.out.1 k_ e_).1.1)); replace HR198 := aZ ((show Kd.C k59 w18 Ao14 y195.length y195 from by rw [Ny195.out]; exact Kd.C_take (m := ((ji5) : Int).toNat) ((Kd.R_reads' (Kd.R_after (ok := (fun k_ => (P0_ k_ ∨ w.heap.size ≤ k_))) (lZR HO0.out) hg hat)).2.2) KL17.out)); replace HO0 := aZ (Kd.R_after (ok := (fun k_ => (P0_ k_ ∨ w.heap.size ≤ k_))) (lZR HO0.out) hg hat); have HO201 := aZ (ho); clear HO194; clear ho hb hg hat) | ((with_reducible refine gate_dst (N := 21) rfl ?_); (try (refine gate_guard (by rfl) ?_; dsimp only)); refine Kd.R_lit k59 _ 59 ?hg (N := 21) ?hd (xs := ([] : List (S59))) (inner := []) (ok := fun _ => True) (okp := fun _ => True) ?hr ?hp (fun _ hk => hk) trivial (Below.refl _ _) (Nat.le_refl _) (by simp) ?_; (case hd => rfl); (case hg => rfl); (case hr => first | (go_simp; done) | (go_simp; rfl)); (case hp => exact (Reps.none _ _)); intro v203 w19 ho20 hb hg_ hnew_; clear hg_ hnew_; (first | rw [← Ny202.out] at ho20 | (simp only [Int.reduceToNat] at ho20; rw [← Ny202.out] at ho20)); have HO204 := aZ (Kd.R_lower (Kd.R_new' (Kd.R_new' (Kd.R_newM (M := fun k_ => (P0_ k_ ∨ w.heap.size ≤ k_)) ho20 (by first | exact HK.out.1 | exact (show Kept w _ (fun k_ => P0_ k_) from by repeat (first | (with_reducible first | exact HK.out | apply Kept.alloc | apply Kept.drewN | apply Kept.drew) | exact HK.out)).1) (fun k_ h_ => .inr h_)) (Kd.R_lt (lZR HO0.out))) (Kd.R_lt (lZR HO201.out))) (below_size (lZB HB.out))); replace HO0 := aZ (Kd.R_elder' (lZR HO0.out) (Kd.R_base ho20) hb); replace HO201 := aZ (Kd.R_elder' (lZR HO201.out) (Kd.R_base ho20) hb); replace HR198 := aZ (Kd.C_below (by repeat (first | (with_reducible exact HR198.out) | (with_reducible refine Kd.C_alloc ?_ _) | (with_reducible refine Kd.C_drewN ?_ _) | (with_reducible refine Kd.C_drew ?_) | exact HR198.out)) hb); replace HK := aZ (Kept.below (S := (fun k_ => P0_ k_)) (by repeat (first | (with_reducible first | exact HK.out | apply Kept.alloc | apply Kept.drewN | apply Kept.drew) | exact HK.out)) hb); replace HB := aZ (below_step (lZB HB.out) hb); clear hb ho20; have q21 : ((ji5) : Int) ≤ ((l0.length : Int) : Int) := of_decide_eq_true tZE; obtain ⟨i021, hi021, _, hsz21, _⟩ := info_parts info59; have hroom21 : l0.length ≤ co14 := (Kd.R_reads' HO0.out).2.1; have hC21 : Kd.C k59 _ Ao14 l0.length l0 := (Kd.R_reads' HO0.out).2.2; have q021 : (0 : Int) ≤ ((ji5) : Int) := of_decide_eq_true tZE; have hcut21 := cut_from (P := Try.prog) 24 59 .i64 Try.underlying24 hi021 4 hsz21 Ao14 l0.length co14 (ji5) q021 q21; have hr21 := Kd.C_drop (m := ((ji5) : Int).toNat) (c := co14) hC21 (by omega) hroom21; obtain ⟨A21, hA21⟩ : ∃ A1, A1 = (if co14 = ((ji5) : Int).toNat then Ao14 else (Ao14 : Option Addr).map (·.add (((ji5) : Int).toNat * 4))) := ⟨_, rfl⟩; obtain ⟨c21, hc21⟩ : ∃ c1, c1 = co14 - ((ji5) : Int).toNat := ⟨_, rfl⟩; have hy21 : y205.length = l0.length - ((ji5) : Int).toNat := (by rw [Ny205.out, List.length_drop] <;> omega); rw [show (l0).drop ((ji5) : Int).toNat = y205 from Ny205.out.symm] at hr21; replace hr21 : Kd.C k59 _ A21 y205.length y205 := (by rw [hA21]; exact hr21); rw [← hy21, ← hA21, ← hc21] at hcut21; have HR208 := Aside0.mk hr21; have HC208 := aZ (show y205.length ≤ c21 from by rw [hy21, hc21]; exact Nat.sub_le_sub_right hroom21 _); clear hr21 hC21 hroom21 hi021 hsz21 hc21; have KY21 := Aside0.mk hy21; have KA21 := Aside0.mk hA21; clear hy21 hA21; have KL21 := aZ (show ((ji5) : Int).toNat ≤ l0.length from by omega); replace q21 := eq_true q21) | ((with_reducible refine gate_builtin (b := .append) (xs := #[.tmp 21, .tmp 24]) rfl ?_); (try (refine gate_guard (by rfl) ?_; dsimp only)); at_builtin; refine Kd.R_append_rows k59 (w0 := w0) w0.heap.size rfl (.tmp 21) (.tmp 24) 24 59 (.agg #[(.string ⟨#[]⟩), (.int .i64 0), (.int .i64 0), (.int .i64 0)]) 40 rfl Try.underlying24 info59 rfl (by decide) (by omega) v203 y202 y205 _ _ _ (fun k_ => (P0_ k_ ∨ w.heap.size ≤ k_) ∧ some k_ ≠ (.slice Ao14 l0.length co14 : Value).ownBlock ∧ some k_ ≠ (v200 : Value).ownBlock) (fun _ => False) rfl rfl ?aO ?aR (fun _ _ h => h) (fun _ h => h.elim) ?aF ?aB ?aS ?aL ?_; (case aR => repeat (first | exact (by repeat (first | (with_reducible exact HR208.out) | (with_reducible refine Kd.C_alloc ?_ _) | (with_reducible refine Kd.C_drewN ?_ _) | (with_reducible refine Kd.C_drew ?_) | exact HR208.out)) | (with_reducible refine Kd.C_alloc ?_ _) | (with_reducible refine Kd.C_drewN ?_ _) | (with_reducible refine Kd.C_drew ?_))); (case aB => exact (lZB HB.out)); (case aF => exact (fun k_ hk => ⟨(.inr (Nat.le_trans (by first | exact HK.out.1 | exact (show Kept w _ (fun k_ => P0_ k_) from by repeat (first | (with_reducible first | exact HK.out | apply Kept.alloc | apply Kept.drewN | apply Kept.drew) | exact HK.out)).1) hk)), Kd.fresh' (Kd.R_lt (lZR HO0.out)) k_ hk, Kd.fresh' (Kd.R_lt (lZR HO201.out)) k_ hk⟩)); (case aO => exact (by (with_reducible repeat (first | apply Kd.R_alloc | apply Kd.R_drewN | apply Kd.R_drew)); exact Kd.R_mono HO204.out (fun _ hk => ⟨hk.1.1.1, ⟨hk.1.2, hk.2⟩⟩))); (case aS => exact (below_size (lZB HB.out))); (case aL => have := LMc11.out; omega); intro v210 w22 ho hb hg hat; rw [← Ny209.out] at ho; replace HO201 := aZ (Kd.R_after (ok := (fun k_ => (P0_ k_ ∨ w.heap.size ≤ k_) ∧ some k_ ≠ (.slice Ao14 l0.length co14 : Value).ownBlock)) (lZR HO201.out) hg hat); replace HB := aZ (hb); replace HK := aZ (Kept.of_grown (S := (fun k_ => P0_ k_)) hg (by repeat (first | (with_reducible first | exact HK.out | apply Kept.alloc | apply Kept.drewN | apply Kept.drew) | exact HK.out)) (fun k_ e_ => (HO204.out.1 k_ e_).1.1.1)); replace HR198 := aZ ((show Kd.C k59 w22 Ao14 y195.length y195 from by rw [Ny195.out]; exact Kd.C_take (m := ((ji5) : Int).toNat) ((Kd.R_reads' (Kd.R_after (ok := (fun k_ => (P0_ k_ ∨ w.heap.size ≤ k_) ∧ some k_ ≠ (v200 : Value).ownBlock)) (lZR HO0.out) hg hat)).2.2) KL17.out)); replace HR208 := aZ ((show Kd.C k59 w22 A21 y205.length y205 from by rw [Ny205.out, KA21.out]; exact Kd.C_drop (m := ((ji5) : Int).toNat) (c := co14) ((Kd.R_reads' (Kd.R_after (ok := (fun k_ => (P0_ k_ ∨ w.heap.size ≤ k_) ∧ some k_ ≠ (v200 : Value).ownBlock)) (lZR HO0.out) hg hat)).2.2) KL21.out ((Kd.R_reads' (Kd.R_after (ok := (fun k_ => (P0_ k_ ∨ w.heap.size ≤ k_) ∧ some k_ ≠ (v200 : Value).ownBlock)) (lZR HO0.out) hg hat)).2.1))); replace HO0 := aZ (Kd.R_after (ok := (fun k_ => (P0_ k_ ∨ w.heap.size ≤ k_) ∧ some k_ ≠ (v200 : Value).ownBlock)) (lZR HO0.out) hg hat); have HO211 := aZ (ho); clear HO204; clear ho hb hg hat; obtain ⟨Ao23, co23, eo23⟩ := Kd.R_slice HO201.out; subst eo23) | ((with_reducible refine gate_callee (f := 45) rfl ?_); refine goesL_ (some 28) rfl rfl Try.func45 kZ rfl #[.slice Ao23 y199.length co23, .func (.func 46) #[] #[]] rfl tZA ?_; (with_reducible refine (ih k (by omega) (fun k_ => some k_ = (.slice Ao23 y199.length co23 : Value).ownBlock) (.slice Ao23 y199.length co23) y199 () t212 w0 _ ?side1 ?side2 A12.out).mono ?_); (case side1 => repeat (first | (with_reducible first | exact HB.out | apply below_alloc | apply pw_below_drewN | apply below_drew1) | exact HB.out)); (case side2 => exact Kd.R_tight rfl HO201.out); rintro e w24 ⟨rfl, hy0, hb, hkp⟩; refine ⟨_, rfl, ?_⟩; replace HO0 := aZ (Kd.R_mono (ok' := fun k_ => (P0_ k_ ∨ w.heap.size ≤ k_) ∧ some k_ ≠ (.slice Ao23 y199.length co23 : Value).ownBlock ∧ some k_ ≠ (v210 : Value).ownBlock) (Kd.R_keptB (HO0.out) hkp (fun k_ hk_ hs_ => (hk_.1.2) hs_)) (fun k_ hk_ => ⟨hk_.1.1.1, hk_.1.1.2, hk_.1.2⟩)); replace HO211 := aZ (Kd.R_mono (ok' := fun k_ => (P0_ k_ ∨ w.heap.size ≤ k_) ∧ some k_ ≠ (.slice Ao14 l0.length co14 : Value).ownBlock ∧ some k_ ≠ (.slice Ao23 y199.length co23 : Value).ownBlock) (Kd.R_keptB (HO211.out) hkp (fun k_ hk_ hs_ => (hk_.2.2) hs_)) (fun k_ hk_ => ⟨hk_.1.1, hk_.1.2.1, hk_.1.2.2⟩)); replace HK := aZ (Kept.then_ (S := (fun k_ => P0_ k_)) (by repeat (first | (with_reducible first | exact HK.out | apply Kept.alloc | apply Kept.drewN | apply Kept.drew) | exact HK.out)) hkp (fun k_ hs_ => (fun e_ => (HO201.out.1 k_ e_.symm).1.1) hs_)); replace HO201 := aZ (Kd.R_reok rfl hy0 (fun k_ e_ => HO201.out.1 k_ e_)); replace HB := aZ (hb); (try clear hb); (try clear hkp); (try clear hy0); obtain ⟨Ao25, co25, eo25⟩ := Kd.R_slice HO211.out; subst eo25) | ((with_reducible refine gate_callee (f := 45) rfl ?_); refine goesL_ (some 31) rfl rfl Try.func45 kZ rfl #[.slice Ao25 y209.length co25, .func (.func 46) #[] #[]] rfl tZA ?_; (with_reducible refine (ih k (by omega) (fun k_ => some k_ = (.slice Ao25 y209.length co25 : Value).ownBlock) (.slice Ao25 y209.length co25) y209 () t213 w0 _ ?side1 ?side2 A13.out).mono ?_); (case side1 => repeat (first | (with_reducible first | exact HB.out | apply below_alloc | apply pw_below_drewN | apply below_drew1) | exact HB.out)); (case side2 => exact Kd.R_tight rfl HO211.out); rintro e w26 ⟨rfl, hy0, hb, hkp⟩; refine ⟨_, rfl, ?_⟩; replace HO0 := aZ (Kd.R_mono (ok' := fun k_ => (P0_ k_ ∨ w.heap.size ≤ k_) ∧ some k_ ≠ (.slice Ao23 y199.length co23 : Value).ownBlock ∧ some k_ ≠ (.slice Ao25 y209.length co25 : Value).ownBlock) (Kd.R_keptB (HO0.out) hkp (fun k_ hk_ hs_ => (hk_.2.2) hs_)) (fun k_ hk_ => ⟨hk_.1.1, hk_.1.2.1, hk_.1.2.2⟩)); replace HO201 := aZ (Kd.R_mono (ok' := fun k_ => (P0_ k_ ∨ w.heap.size ≤ k_) ∧ some k_ ≠ (.slice Ao14 l0.length co14 : Value).ownBlock ∧ some k_ ≠ (.slice Ao25 y209.length co25 : Value).ownBlock) (Kd.R_keptB (HO201.out) hkp (fun k_ hk_ hs_ => (hk_.2) hs_)) (fun k_ hk_ => ⟨hk_.1.1.1, hk_.1.1.2, hk_.1.2⟩)); replace HK := aZ (Kept.then_ (S := (fun k_ => P0_ k_)) (by repeat (first | (with_reducible first | exact HK.out | apply Kept.alloc | apply Kept.drewN | apply Kept.drew) | exact HK.out)) hkp (fun k_ hs_ => (fun e_ => (HO211.out.1 k_ e_.symm).1) hs_)); replace HO211 := aZ (Kd.R_reok rfl hy0 (fun k_ e_ => HO211.out.1 k_ e_)); replace HB := aZ (hb); (try clear hb); (try clear hkp); (try clear hy0)))
 go_loopg [7, 8, 34] k (fun kq v7 v8 v34 w' => ∃ (x0_1 : List (S59)) (x7_1 : Int) (x8_1 : Int) (x34_1 : Int), v7 = .int .i64 x7_1 ∧ v8 = .int .i64 x8_1 ∧ v34 = .int .i64 x34_1 ∧ Aside0 (impl_TaxLine.l0 kq x0_1 t212 t213 x7_1 x8_1 (l0.length : Int) x34_1 = some r) ∧ Aside0 (kq ≤ k) ∧ Aside0 (Kd.R k59 59 w' w0.heap.size (fun k_ => (P0_ k_ ∨ w.heap.size ≤ k_) ∧ some k_ ≠ ((.slice Ao23 y199.length co23) : Value).ownBlock ∧ some k_ ≠ ((.slice Ao25 y209.length co25) : Value).ownBlock) (.slice Ao14 l0.length co14) x0_1) ∧ Aside0 (Kd.R k59 59 w' w0.heap.size (fun k_ => (P0_ k_ ∨ w.heap.size ≤ k_) ∧ some k_ ≠ ((.slice Ao14 l0.length co14) : Value).ownBlock ∧ some k_ ≠ ((.slice Ao25 y209.length co25) : Value).ownBlock) (.slice Ao23 y199.length co23) t212) ∧ Aside0 (Kd.R k59 59 w' w0.heap.size (fun k_ => (P0_ k_ ∨ w.heap.size ≤ k_) ∧ some k_ ≠ ((.slice Ao14 l0.length co14) : Value).ownBlock ∧ some k_ ≠ ((.slice Ao23 y199.length co23) : Value).ownBlock) (.slice Ao25 y209.length co25) t213) ∧ Aside0 (Kept w w' (fun k_ => P0_ k_)) ∧ Aside0 (Below w0.heap.size w0 w'))
 case atStart => exact ⟨(l0), (0), (0), (0), tZB, tZB, tZB, H', ⟨Nat.le_refl _⟩, ⟨lZR HO0.out⟩, ⟨lZR HO201.out⟩, ⟨lZR HO211.out⟩, ⟨by repeat (first | (with_reducible first | exact HK.out | apply Kept.alloc | apply Kept.drewN | apply Kept.drew) | exact HK.out)⟩, ⟨bZ⟩⟩
 case round =>
  clear H'; (try clear c1 c3b0 c3b1 c6b0 c6b1 c7b0 c7b1 c9b0 c10b0 q17 c21 q21 q021 q17 q21); obtain ⟨x0_1, x7_1, x8_1, x34_1, rfl, rfl, rfl, HA, HK1, HO_0, HO_5, HO_6, HK, HB⟩ := hrel; have hl0_1 := (Kd.R_reads' HO_0.out).1; rw [hl0_1] at HO_0; (try simp only [hl0_1]); (try simp only [hl0_1] at HO_5); (try simp only [hl0_1] at HO_6); have hl5_1 := (Kd.R_reads' HO_5.out).1; rw [hl5_1] at HO_5; (try simp only [hl5_1]); (try simp only [hl5_1] at HO_0); (try simp only [hl5_1] at HO_6); have hl6_1 := (Kd.R_reads' HO_6.out).1; rw [hl6_1] at HO_6; (try simp only [hl6_1]); (try simp only [hl6_1] at HO_0); (try simp only [hl6_1] at HO_5)
  cases gk with
  | zero => exact absurd HA.out (by simp [impl_TaxLine.l0])
  | succ k1 =>
   have H := HA.out; clear HA; simp only [impl_TaxLine.l0] at H
   by_cases c27 : x34_1 < (l0.length : Int)
   rotate_left
   ·rw [if_neg c27] at H; have c27b0 := decide_eq_false c27
    (have c27b0h := c27b0; (try simp only [hl0_1, hl5_1, hl6_1] at c27b0h))
    clear c27; obtain rfl := Option.some.inj H; go_wp2
    first | go_end0 | ((try simp only [Exit.inBlock, Exit.then]); refine bodyPost_ret (results_none rfl _ _ _) rfl ?_)
    exact ⟨by first | rfl | (simp [errW_none, errW_some] <;> rfl) | (simp only [← hji5]; first | rfl | (simp [errW_none, errW_some] <;> rfl)) | (simp [*, errW_none, errW_some] <;> rfl), (by first | exact (by (with_reducible repeat (first | apply Kd.R_alloc | apply Kd.R_drewN | apply Kd.R_drew)); exact Kd.R_mono HO_0.out (fun _ hk => hk.1)) | (simp only [hl0_1, hl5_1, hl6_1]; exact (by (with_reducible repeat (first | apply Kd.R_alloc | apply Kd.R_drewN | apply Kd.R_drew)); exact Kd.R_mono HO_0.out (fun _ hk => hk.1)))), by repeat (first | (with_reducible first | exact HB.out | apply below_alloc | apply pw_below_drewN | apply below_drew1) | exact HB.out), by repeat (first | (with_reducible first | exact HK.out | apply Kept.alloc | apply Kept.drewN | apply Kept.drew) | exact HK.out)⟩
   rw [if_pos c27] at H; have c27b0 := decide_eq_true c27; clear c27
   by_cases c28 : x8_1 = (t213.length : Int)
   ·rw [if_pos c28] at H; have c28b0 : (x8_1 == (t213.length : Int)) = true := beq_iff_eq.mpr c28; have c28b1 : (x8_1 != (t213.length : Int)) = false := bne_eq_false_iff_eq.mpr c28; clear c28
    by_cases c29 : 0 ≤ x7_1
    rotate_left
    ·rw [if_neg c29] at H; exact absurd H (by simp)
    rw [if_pos c29] at H; have c29b0 := decide_eq_true c29; clear c29
    by_cases c30 : x7_1 < (t212.length : Int)
    rotate_left
    ·rw [if_neg c30] at H; exact absurd H (by simp)
    rw [if_pos c30] at H; have c30b0 := decide_eq_true c30; clear c30
    by_cases c31 : 0 ≤ x34_1
    rotate_left
    ·rw [if_neg c31] at H; exact absurd H (by simp)
    rw [if_pos c31] at H; have c31b0 := decide_eq_true c31; clear c31
    by_cases c32 : x34_1 < (x0_1.length : Int)
    rotate_left
    ·rw [if_neg c32] at H; exact absurd H (by simp)
    rw [if_pos c32] at H; have c32b0 := decide_eq_true c32; clear c32; obtain ⟨y215, hy215⟩ : ∃ y_ : List (S59), y_ = (x0_1.set (x34_1 : Int).toNat (⟨(rd_T59 t212 x7_1).f0, (rd_T59 t212 x7_1).f1, (rd_T59 t212 x7_1).f2, (rd_T59 t212 x7_1).f3⟩ : S59)) := ⟨_, rfl⟩; replace H : (impl_TaxLine.l0 k1 y215 t212 t213 (wrap64 (x7_1 + 1)) x8_1 (l0.length : Int) (wrap64 (x34_1 + 1))) = some r := by first | (rw [hy215]; with_reducible exact H) | (have H2_ := (Option.bind_some _ _).symm.trans H; rw [hy215]; with_reducible exact H2_) | (have H2_ := (Option.bind_some _ _).symm.trans H; with_reducible exact H2_) | with_reducible exact H | (rw [hy215]; exact H) | exact H
    have Ny215 := Aside0.mk hy215; clear hy215; have H' := Aside0.mk H; clear H
    try go_wp2
    replace HO_0 := aZ (Kd.R_drew HO_0.out); replace HO_5 := aZ (Kd.R_drew HO_5.out); replace HO_6 := aZ (Kd.R_drew HO_6.out); replace HK := aZ (Kept.drew HK.out); replace HB := aZ (below_drew1 HB.out); refine start_ (n := 23) (S := fun w' => True) (ds := []) L0' kZ rfl rfl trivial (fun hHeld => ?_); refine with_tabW impl_TaxLine.tab10 impl_TaxLine.bits10 (fun HT_ HW_ => ?_); generalize wr.drew = w34 at HO_0 HO_5 HO_6 HK HB hHeld ⊢; refine pure_ (i := 0) (N := some 37) (v := ?_) (a' := ?_) L1' rfl rfl (any_of HT_.out kZ) (fun _ _ _ h => h) (Or.inl ⟨by rfl, ?_⟩) ?_ ?_; rotate_left
    ·intro w'; go_simp; with_reducible rfl
    rotate_left
    ·simp only [Act.put, sZ1, sZ2, sZ3, i64_w, i32_w]; rfl
    refine pure_ (i := 1) (N := some 38) (v := ?_) (a' := ?_) L2' rfl rfl (any_of HT_.out kZ) (fun _ _ _ h => h) (Or.inl ⟨by rfl, ?_⟩) ?_ ?_; rotate_left
    ·intro w'; go_simp; with_reducible rfl
    rotate_left
    ·simp only [Act.put, sZ1, sZ2, sZ3, i64_w, i32_w]; rfl
    refine pure_ (i := 2) (N := some 39) (v := ?_) (a' := ?_) L3' rfl rfl (any_of HT_.out kZ) (fun _ _ _ h => h) (Or.inl ⟨by rfl, ?_⟩) ?_ ?_; rotate_left
    ·intro w'; go_simp; with_reducible rfl
    rotate_left
    ·simp only [Act.put, sZ1, sZ2, sZ3, i64_w, i32_w]; rfl
    refine pure_ (i := 3) (N := some 40) (v := ?_) (a' := ?_) L4' rfl rfl (any_of HT_.out kZ) (fun _ _ _ h => h) (Or.inl ⟨by rfl, ?_⟩) ?_ ?_; rotate_left
    ·intro w'; go_simp; with_reducible rfl
    rotate_left
    ·simp only [Act.put, sZ1, sZ2, sZ3, i64_w, i32_w]; rfl
    refine pure_ (i := 4) (N := some 41) (v := ?_) (a' := ?_) L5' rfl rfl (any_of HT_.out kZ) (fun _ _ _ h => h) (Or.inl ⟨by rfl, ?_⟩) ?_ ?_; rotate_left
    ·intro w'; go_simp; with_reducible rfl
    rotate_left
    ·simp only [Act.put, sZ1, sZ2, sZ3, i64_w, i32_w]; rfl
    refine pure_ (i := 5) (N := some 42) (v := undef) (a' := ?_) L6' rfl rfl (any_of HT_.out kZ) (fun _ _ _ h => h) (Or.inr ⟨by rfl, rfl⟩) ?_ ?_; rotate_left
    ·simp only [Act.put, sZ1, sZ2, sZ3, i64_w, i32_w]; rfl
    refine pure_ (i := 6) (N := some 43) (v := undef) (a' := ?_) L7' rfl rfl (any_of HT_.out kZ) (fun _ _ _ h => h) (Or.inr ⟨by rfl, rfl⟩) ?_ ?_; rotate_left
    ·simp only [Act.put, sZ1, sZ2, sZ3, i64_w, i32_w]; rfl
    refine pure_ (i := 7) (N := some 44) (v := undef) (a' := ?_) L8' rfl rfl (any_of HT_.out kZ) (fun _ _ _ h => h) (Or.inr ⟨by rfl, rfl⟩) ?_ ?_; rotate_left
    ·simp only [Act.put, sZ1, sZ2, sZ3, i64_w, i32_w]; rfl
    refine pure_ (i := 8) (N := some 45) (v := undef) (a' := ?_) L9' rfl rfl (any_of HT_.out kZ) (fun _ _ _ h => h) (Or.inr ⟨by rfl, rfl⟩) ?_ ?_; rotate_left
    ·simp only [Act.put, sZ1, sZ2, sZ3, i64_w, i32_w]; rfl
    refine pure_ (i := 9) (N := some 46) (v := undef) (a' := ?_) L10' rfl rfl (any_of HT_.out kZ) (fun _ _ _ h => h) (Or.inr ⟨by rfl, rfl⟩) ?_ ?_; rotate_left
    ·simp only [Act.put, sZ1, sZ2, sZ3, i64_w, i32_w]; rfl
    refine pure_ (i := 10) (N := some 47) (v := undef) (a' := ?_) L11' rfl rfl (any_of HT_.out kZ) (fun _ _ _ h => h) (Or.inr ⟨by rfl, rfl⟩) ?_ ?_; rotate_left
    ·simp only [Act.put, sZ1, sZ2, sZ3, i64_w, i32_w]; rfl
    refine pure_ (i := 11) (N := some 48) (v := undef) (a' := ?_) L12' rfl rfl (any_of HT_.out kZ) (fun _ _ _ h => h) (Or.inr ⟨by rfl, rfl⟩) ?_ ?_; rotate_left
    ·simp only [Act.put, sZ1, sZ2, sZ3, i64_w, i32_w]; rfl
    refine pure_ (i := 12) (N := some 49) (v := undef) (a' := ?_) L13' rfl rfl (any_of HT_.out kZ) (fun _ _ _ h => h) (Or.inr ⟨by rfl, rfl⟩) ?_ ?_; rotate_left
    ·simp only [Act.put, sZ1, sZ2, sZ3, i64_w, i32_w]; rfl
    refine pure_ (i := 13) (N := some 50) (v := undef) (a' := ?_) L14' rfl rfl (any_of HT_.out kZ) (fun _ _ _ h => h) (Or.inr ⟨by rfl, rfl⟩) ?_ ?_; rotate_left
    ·simp only [Act.put, sZ1, sZ2, sZ3, i64_w, i32_w]; rfl
    refine pure_ (i := 14) (N := some 51) (v := undef) (a' := ?_) L15' rfl rfl (any_of HT_.out kZ) (fun _ _ _ h => h) (Or.inr ⟨by rfl, rfl⟩) ?_ ?_; rotate_left
    ·simp only [Act.put, sZ1, sZ2, sZ3, i64_w, i32_w]; rfl
    refine pure_ (i := 15) (N := some 52) (v := undef) (a' := ?_) L16' rfl rfl (any_of HT_.out kZ) (fun _ _ _ h => h) (Or.inr ⟨by rfl, rfl⟩) ?_ ?_; rotate_left
    ·simp only [Act.put, sZ1, sZ2, sZ3, i64_w, i32_w]; rfl
    refine pure_ (i := 16) (N := some 53) (v := undef) (a' := ?_) L17' rfl rfl (any_of HT_.out kZ) (fun _ _ _ h => h) (Or.inr ⟨by rfl, rfl⟩) ?_ ?_; rotate_left
    ·simp only [Act.put, sZ1, sZ2, sZ3, i64_w, i32_w]; rfl
    refine pure_ (i := 17) (N := some 54) (v := undef) (a' := ?_) L18' rfl rfl (any_of HT_.out kZ) (fun _ _ _ h => h) (Or.inr ⟨by rfl, rfl⟩) ?_ ?_; rotate_left
    ·simp only [Act.put, sZ1, sZ2, sZ3, i64_w, i32_w]; rfl
    refine pure_ (i := 18) (N := some 55) (v := undef) (a' := ?_) L19' rfl rfl (any_of HT_.out kZ) (fun _ _ _ h => h) (Or.inr ⟨by rfl, rfl⟩) ?_ ?_; rotate_left
    ·simp only [Act.put, sZ1, sZ2, sZ3, i64_w, i32_w]; rfl
    refine pure_ (i := 19) (N := some 56) (v := undef) (a' := ?_) L20' rfl rfl (any_of HT_.out kZ) (fun _ _ _ h => h) (Or.inr ⟨by rfl, rfl⟩) ?_ ?_; rotate_left
    ·simp only [Act.put, sZ1, sZ2, sZ3, i64_w, i32_w]; rfl
    refine pure_ (i := 20) (N := some 57) (v := undef) (a' := ?_) L21' rfl rfl (any_of HT_.out kZ) (fun _ _ _ h => h) (Or.inr ⟨by rfl, rfl⟩) ?_ ?_; rotate_left
    ·simp only [Act.put, sZ1, sZ2, sZ3, i64_w, i32_w]; rfl
    refine pure_ (i := 21) (N := some 58) (v := undef) (a' := ?_) L22' rfl rfl (any_of HT_.out kZ) (fun _ _ _ h => h) (Or.inr ⟨by rfl, rfl⟩) ?_ ?_; rotate_left
    ·simp only [Act.put, sZ1, sZ2, sZ3, i64_w, i32_w]; rfl
    refine pure_ (i := 22) (N := some 59) (v := ?_) (a' := ?_) L23' rfl rfl (any_of HT_.out kZ) (fun _ _ _ h => h) (Or.inl ⟨by rfl, ?_⟩) ?_ ?_; rotate_left
    ·intro w'; go_simp; with_reducible rfl
    rotate_left
    ·simp only [Act.put, sZ1, sZ2, sZ3, i64_w, i32_w]; rfl
    refine done_ (done_of HT_.out kZ) ?_; have p214 : 0 ≤ (x7_1 : Int) := of_decide_eq_true tZE; have q214 : x7_1 < (t212.length : Int) := of_decide_eq_true tZE; obtain ⟨ad214, e214, hx214_0, hx214_1, hx214_2, hx214_3⟩ := at_T59 (Kd.R_reads' HO_5.out).2.2 x7_1 p214 q214
    cases e214
    replace p214 := eq_true p214; replace q214 := eq_true q214; have p33 : 0 ≤ (x34_1 : Int) := of_decide_eq_true tZE; have q33 : (x34_1 : Int) < ((x0_1.length : Int) : Int) := of_decide_eq_true tZE; obtain ⟨go33, co33, eo33, gb33, gl33, cl33, HG33⟩ := Kd.R_form HO_0.out (by omega); (first | cases eo33 | (injection eo33 with ea_ en_ ec_; (first | subst ea_ | (injection ea_ with ea_; subst ea_)); subst ec_; clear en_)); have GB33 := Aside0.mk gb33; have GG33 := Aside0.mk HG33; clear gb33 gl33 HG33; have HMgo33 := aZ (show (P0_ go33 ∨ w.heap.size ≤ go33) from (HO_0.out.1 _ rfl).1); obtain ⟨ce33, hcl33, hM33, hcc33, hfr33⟩ := Kd.R_elem HO_0.out z59 (x34_1 : Int) p33 q33; obtain rfl := k59_openM hM33; have hx33_0 : w34.cell? ⟨go33, (x34_1 : Int).toNat * 4, none⟩ = some (.string ((rd_T59 x0_1 x34_1).f0)) := hcc33 0 _ rfl
    have hx33_1 : w34.cell? ⟨go33, (x34_1 : Int).toNat * 4 + 1, none⟩ = some (.int .i64 ((rd_T59 x0_1 x34_1).f1)) := hcc33 1 _ rfl; have hx33_2 : w34.cell? ⟨go33, (x34_1 : Int).toNat * 4 + 2, none⟩ = some (.int .i64 ((rd_T59 x0_1 x34_1).f2)) := hcc33 2 _ rfl; have hx33_3 : w34.cell? ⟨go33, (x34_1 : Int).toNat * 4 + 3, none⟩ = some (.int .i64 ((rd_T59 x0_1 x34_1).f3)) := hcc33 3 _ rfl; have hf33_0 : w34.frozen? ⟨go33, (x34_1 : Int).toNat * 4, none⟩ = false := hfr33 0; have hf33_1 : w34.frozen? ⟨go33, (x34_1 : Int).toNat * 4 + 1, none⟩ = false := hfr33 1; have hf33_2 : w34.frozen? ⟨go33, (x34_1 : Int).toNat * 4 + 2, none⟩ = false := hfr33 2; have hf33_3 : w34.frozen? ⟨go33, (x34_1 : Int).toNat * 4 + 3, none⟩ = false := hfr33 3; clear hcl33 hcc33 hfr33 hM33; replace p33 := eq_true p33; replace q33 := eq_true q33
    have HX35 := aZ (show Kd.R k59 59 w34 w0.heap.size (fun k_ => (P0_ k_ ∨ w.heap.size ≤ k_) ∧ some k_ ≠ (.slice (some ad214) t212.length co23 : Value).ownBlock ∧ some k_ ≠ (.slice Ao25 t213.length co25 : Value).ownBlock) (.slice (some ⟨go33, 0, none⟩) x0_1.length co14) x0_1 from (lZR HO_0.out)); obtain ⟨ce35, hcl35, hM35, hcc35, hfr35⟩ := Kd.R_elem HX35.out z59 (x34_1 : Int) (of_decide_eq_true tZE) (by have h_ : (x34_1 : Int) < ((x0_1.length : Int) : Int) := of_decide_eq_true tZE; first | exact h_ | (have e_ := (Kd.R_reads' HO_0.out).1; omega) | simpa using h_); obtain rfl := k59_openM hM35
    have HP35 := Kd.R_seg HX35.out (x34_1 : Int) (of_decide_eq_true tZE) (by have h_ : (x34_1 : Int) < ((x0_1.length : Int) : Int) := of_decide_eq_true tZE; first | exact h_ | (have e_ := (Kd.R_reads' HO_0.out).1; omega) | simpa using h_) (seg := [.string ((rd_T59 t212 x7_1).f0), .int .i64 ((rd_T59 t212 x7_1).f1), .int .i64 ((rd_T59 t212 x7_1).f2), .int .i64 ((rd_T59 t212 x7_1).f3)]) (j := 0) hcl35 hcc35 (show 4 ≤ 4 from by decide) (x' := (⟨(rd_T59 t212 x7_1).f0, (rd_T59 t212 x7_1).f1, (rd_T59 t212 x7_1).f2, (rd_T59 t212 x7_1).f3⟩ : S59)) (k59_mkM _ _ _ (⟨(rd_T59 t212 x7_1).f0, (rd_T59 t212 x7_1).f1, (rd_T59 t212 x7_1).f2, (rd_T59 t212 x7_1).f3⟩ : S59) ) (fun _ hk => hk); have hx35_0 := hcc35 0 _ rfl; (try simp only [show (k59).sz = 4 from rfl, Nat.mul_one, Nat.add_zero] at hx35_0); have hf35_0 := hfr35 0; (try simp only [show (k59).sz = 4 from rfl, Nat.mul_one, Nat.add_zero] at hf35_0)
    have hx35_1 := hcc35 1 _ rfl; (try simp only [show (k59).sz = 4 from rfl, Nat.mul_one, Nat.add_zero] at hx35_1); have hf35_1 := hfr35 1; (try simp only [show (k59).sz = 4 from rfl, Nat.mul_one, Nat.add_zero] at hf35_1); have hx35_2 := hcc35 2 _ rfl; (try simp only [show (k59).sz = 4 from rfl, Nat.mul_one, Nat.add_zero] at hx35_2); have hf35_2 := hfr35 2; (try simp only [show (k59).sz = 4 from rfl, Nat.mul_one, Nat.add_zero] at hf35_2); have hx35_3 := hcc35 3 _ rfl; (try simp only [show (k59).sz = 4 from rfl, Nat.mul_one, Nat.add_zero] at hx35_3); have hf35_3 := hfr35 3; (try simp only [show (k59).sz = 4 from rfl, Nat.mul_one, Nat.add_zero] at hf35_3); clear hcl35 hcc35 hfr35 hM35
    try go_wp2_with (first | ((with_reducible refine gate_store (t := 59) (p := 66) rfl ?_); refine store_event (t := 59) (p := 66) (v := ?vo_w36) (w1 := ((((w34.setCell ⟨go33, (x34_1 : Int).toNat * 4, none⟩ (.string ((rd_T59 t212 x7_1).f0))).setCell ⟨go33, (x34_1 : Int).toNat * 4 + 1, none⟩ (.int .i64 ((rd_T59 t212 x7_1).f1))).setCell ⟨go33, (x34_1 : Int).toNat * 4 + 2, none⟩ (.int .i64 ((rd_T59 t212 x7_1).f2))).setCell ⟨go33, (x34_1 : Int).toNat * 4 + 3, none⟩ (.int .i64 ((rd_T59 t212 x7_1).f3)))) ?hg ?ho ?hn ?hr ?_; (case ho => rfl); (case hg => rfl); (case hn => rfl); (case hr => first | (go_simp; done) | (go_simp; rfl)); intro w36 hw; have hg : w34.grownBy w36 (some go33) := (by rw [hw]; exact HP35.2); have hp_ : Kd.R k59 59 w36 w0.heap.size (fun k_ => (P0_ k_ ∨ w.heap.size ≤ k_) ∧ some k_ ≠ (.slice (some ad214) t212.length co23 : Value).ownBlock ∧ some k_ ≠ (.slice Ao25 t213.length co25 : Value).ownBlock) (.slice (some ⟨go33, 0, none⟩) x0_1.length co14) y215 := (by rw [hw, Ny215.out]; exact HP35.1); clear HP35; replace HO_5 := aZ (Kd.R_after (v := (.slice (some ⟨go33, 0, none⟩) x0_1.length co14)) (v1 := (.slice (some ⟨go33, 0, none⟩) x0_1.length co14)) (ok := (fun k_ => (P0_ k_ ∨ w.heap.size ≤ k_) ∧ some k_ ≠ (.slice Ao25 t213.length co25 : Value).ownBlock)) (by (with_reducible repeat (first | apply Kd.R_alloc | apply Kd.R_drewN | apply Kd.R_drew)); exact Kd.R_mono HO_5.out (fun _ hk => ⟨⟨hk.1, hk.2.2⟩, hk.2.1⟩)) hg (.inl rfl)); replace HO_6 := aZ (Kd.R_after (v := (.slice (some ⟨go33, 0, none⟩) x0_1.length co14)) (v1 := (.slice (some ⟨go33, 0, none⟩) x0_1.length co14)) (ok := (fun k_ => (P0_ k_ ∨ w.heap.size ≤ k_) ∧ some k_ ≠ (.slice (some ad214) t212.length co23 : Value).ownBlock)) (by (with_reducible repeat (first | apply Kd.R_alloc | apply Kd.R_drewN | apply Kd.R_drew)); exact Kd.R_mono HO_6.out (fun _ hk => ⟨⟨hk.1, hk.2.2⟩, hk.2.1⟩)) hg (.inl rfl)); replace HB := aZ ((by rw [hw]; exact below_set (below_set (below_set (below_set (HB.out) GB33.out) GB33.out) GB33.out) GB33.out : Below w0.heap.size w0 w36)); replace HK := aZ (Kept.of_grown (S := (fun k_ => P0_ k_)) hg (by repeat (first | (with_reducible first | exact HK.out | apply Kept.alloc | apply Kept.drewN | apply Kept.drew) | exact HK.out)) (fun k_ e_ => (HO_0.out.1 k_ e_).1)); replace HO_0 := aZ (hp_); clear hg hw hp_))
    (try simp only [← hl0_1, ← hl5_1, ← hl6_1])
    go_roundg k1
    case measure => have := HK1.out; omega
    case rel => exact ⟨(y215), (wrap64 (x7_1 + 1)), (x8_1), (wrap64 (x34_1 + 1)), tZB, tZB, tZB, H', ⟨by have := HK1.out; omega⟩, ⟨by (try simp only [hl0_1]); (try simp only [hl5_1]); (try simp only [hl6_1]); (with_reducible repeat (first | apply Kd.R_alloc | apply Kd.R_drewN | apply Kd.R_drew)); exact HO_0.out⟩, ⟨by (try simp only [hl0_1]); (try simp only [hl5_1]); (try simp only [hl6_1]); (with_reducible repeat (first | apply Kd.R_alloc | apply Kd.R_drewN | apply Kd.R_drew)); exact Kd.R_mono HO_5.out (fun _ hk => ⟨hk.1.1, ⟨hk.2, hk.1.2⟩⟩)⟩, ⟨by (try simp only [hl0_1]); (try simp only [hl5_1]); (try simp only [hl6_1]); (with_reducible repeat (first | apply Kd.R_alloc | apply Kd.R_drewN | apply Kd.R_drew)); exact Kd.R_mono HO_6.out (fun _ hk => ⟨hk.1.1, ⟨hk.2, hk.1.2⟩⟩)⟩, ⟨by repeat (first | (with_reducible first | exact HK.out | apply Kept.alloc | apply Kept.drewN | apply Kept.drew) | exact HK.out)⟩, ⟨bZ⟩⟩
   rw [if_neg c28] at H; have c28b0 : (x8_1 == (t213.length : Int)) = false := beq_eq_false_iff_ne.mpr c28; have c28b1 : (x8_1 != (t213.length : Int)) = true := bne_iff_ne.mpr c28
   by_cases c37 : x7_1 < (t212.length : Int)
   rotate_left
   ·rw [if_neg c37] at H; have c37b0 := decide_eq_false c37
    (have c37b0h := c37b0; (try simp only [hl0_1, hl5_1, hl6_1] at c37b0h))
    clear c37
    by_cases c57 : 0 ≤ x8_1
    rotate_left
    ·rw [if_neg c57] at H; exact absurd H (by simp)
    rw [if_pos c57] at H; have c57b0 := decide_eq_true c57; clear c57
    by_cases c58 : x8_1 < (t213.length : Int)
    rotate_left
    ·rw [if_neg c58] at H; exact absurd H (by simp)
    rw [if_pos c58] at H; have c58b0 := decide_eq_true c58; clear c58
    by_cases c59 : 0 ≤ x34_1
    rotate_left
    ·rw [if_neg c59] at H; exact absurd H (by simp)
    rw [if_pos c59] at H; have c59b0 := decide_eq_true c59; clear c59
    by_cases c60 : x34_1 < (x0_1.length : Int)
    rotate_left
    ·rw [if_neg c60] at H; exact absurd H (by simp)
    rw [if_pos c60] at H; have c60b0 := decide_eq_true c60; clear c60; obtain ⟨y224, hy224⟩ : ∃ y_ : List (S59), y_ = (x0_1.set (x34_1 : Int).toNat (⟨(rd_T59 t213 x8_1).f0, (rd_T59 t213 x8_1).f1, (rd_T59 t213 x8_1).f2, (rd_T59 t213 x8_1).f3⟩ : S59)) := ⟨_, rfl⟩; replace H : (impl_TaxLine.l0 k1 y224 t212 t213 x7_1 (wrap64 (x8_1 + 1)) (l0.length : Int) (wrap64 (x34_1 + 1))) = some r := by first | (rw [hy224]; with_reducible exact H) | (have H2_ := (Option.bind_some _ _).symm.trans H; rw [hy224]; with_reducible exact H2_) | (have H2_ := (Option.bind_some _ _).symm.trans H; with_reducible exact H2_) | with_reducible exact H | (rw [hy224]; exact H) | exact H
    have Ny224 := Aside0.mk hy224; clear hy224; have H' := Aside0.mk H; clear H
    try go_wp2
    replace HO_0 := aZ (Kd.R_drew HO_0.out); replace HO_5 := aZ (Kd.R_drew HO_5.out); replace HO_6 := aZ (Kd.R_drew HO_6.out); replace HK := aZ (Kept.drew HK.out); replace HB := aZ (below_drew1 HB.out); refine start_ (n := 23) (S := fun w' => True) (ds := []) L0' kZ rfl rfl trivial (fun hHeld => ?_); refine with_tabW impl_TaxLine.tab10 impl_TaxLine.bits10 (fun HT_ HW_ => ?_); generalize wr.drew = w62 at HO_0 HO_5 HO_6 HK HB hHeld ⊢; refine pure_ (i := 0) (N := some 37) (v := ?_) (a' := ?_) L1' rfl rfl (any_of HT_.out kZ) (fun _ _ _ h => h) (Or.inl ⟨by rfl, ?_⟩) ?_ ?_; rotate_left
    ·intro w'; go_simp; with_reducible rfl
    rotate_left
    ·simp only [Act.put, sZ1, sZ2, sZ3, i64_w, i32_w]; rfl
    refine pure_ (i := 1) (N := some 38) (v := ?_) (a' := ?_) L2' rfl rfl (any_of HT_.out kZ) (fun _ _ _ h => h) (Or.inl ⟨by rfl, ?_⟩) ?_ ?_; rotate_left
    ·intro w'; go_simp; with_reducible rfl
    rotate_left
    ·simp only [Act.put, sZ1, sZ2, sZ3, i64_w, i32_w]; rfl
    refine pure_ (i := 2) (N := some 39) (v := ?_) (a' := ?_) L3' rfl rfl (any_of HT_.out kZ) (fun _ _ _ h => h) (Or.inl ⟨by rfl, ?_⟩) ?_ ?_; rotate_left
    ·intro w'; go_simp; with_reducible rfl
    rotate_left
    ·simp only [Act.put, sZ1, sZ2, sZ3, i64_w, i32_w]; rfl
    refine pure_ (i := 3) (N := some 40) (v := ?_) (a' := ?_) L4' rfl rfl (any_of HT_.out kZ) (fun _ _ _ h => h) (Or.inl ⟨by rfl, ?_⟩) ?_ ?_; rotate_left
    ·intro w'; go_simp; with_reducible rfl
    rotate_left
    ·simp only [Act.put, sZ1, sZ2, sZ3, i64_w, i32_w]; rfl
    refine pure_ (i := 4) (N := some 41) (v := ?_) (a' := ?_) L5' rfl rfl (any_of HT_.out kZ) (fun _ _ _ h => h) (Or.inl ⟨by rfl, ?_⟩) ?_ ?_; rotate_left
    ·intro w'; go_simp; with_reducible rfl
    rotate_left
    ·simp only [Act.put, sZ1, sZ2, sZ3, i64_w, i32_w]; rfl
    refine pure_ (i := 5) (N := some 42) (v := ?_) (a' := ?_) L6' rfl rfl (any_of HT_.out kZ) (fun _ _ _ h => h) (Or.inl ⟨by rfl, ?_⟩) ?_ ?_; rotate_left
    ·intro w'; go_simp; with_reducible rfl
    rotate_left
    ·simp only [Act.put, sZ1, sZ2, sZ3, i64_w, i32_w]; rfl
    refine pure_ (i := 6) (N := some 43) (v := ?_) (a' := ?_) L7' rfl rfl (any_of HT_.out kZ) (fun _ _ _ h => h) (Or.inl ⟨by rfl, ?_⟩) ?_ ?_; rotate_left
    ·intro w'; go_simp; with_reducible rfl
    rotate_left
    ·simp only [Act.put, sZ1, sZ2, sZ3, i64_w, i32_w]; rfl
    refine pure_ (i := 7) (N := some 44) (v := ?_) (a' := ?_) L8' rfl rfl (any_of HT_.out kZ) (fun _ _ _ h => h) (Or.inl ⟨by rfl, ?_⟩) ?_ ?_; rotate_left
    ·intro w'; go_simp; with_reducible rfl
    rotate_left
    ·simp only [Act.put, sZ1, sZ2, sZ3, i64_w, i32_w]; rfl
    refine pure_ (i := 8) (N := some 45) (v := ?_) (a' := ?_) L9' rfl rfl (any_of HT_.out kZ) (fun _ _ _ h => h) (Or.inl ⟨by rfl, ?_⟩) ?_ ?_; rotate_left
    ·intro w'; go_simp; with_reducible rfl
    rotate_left
    ·simp only [Act.put, sZ1, sZ2, sZ3, i64_w, i32_w]; rfl
    refine pure_ (i := 9) (N := some 46) (v := ?_) (a' := ?_) L10' rfl rfl (any_of HT_.out kZ) (fun _ _ _ h => h) (Or.inl ⟨by rfl, ?_⟩) ?_ ?_; rotate_left
    ·intro w'; go_simp; with_reducible rfl
    rotate_left
    ·simp only [Act.put, sZ1, sZ2, sZ3, i64_w, i32_w]; rfl
    refine pure_ (i := 10) (N := some 47) (v := undef) (a' := ?_) L11' rfl rfl (any_of HT_.out kZ) (fun _ _ _ h => h) (Or.inr ⟨by rfl, rfl⟩) ?_ ?_; rotate_left
    ·simp only [Act.put, sZ1, sZ2, sZ3, i64_w, i32_w]; rfl
    refine pure_ (i := 11) (N := some 48) (v := undef) (a' := ?_) L12' rfl rfl (any_of HT_.out kZ) (fun _ _ _ h => h) (Or.inr ⟨by rfl, rfl⟩) ?_ ?_; rotate_left
    ·simp only [Act.put, sZ1, sZ2, sZ3, i64_w, i32_w]; rfl
    refine pure_ (i := 12) (N := some 49) (v := undef) (a' := ?_) L13' rfl rfl (any_of HT_.out kZ) (fun _ _ _ h => h) (Or.inr ⟨by rfl, rfl⟩) ?_ ?_; rotate_left
    ·simp only [Act.put, sZ1, sZ2, sZ3, i64_w, i32_w]; rfl
    refine pure_ (i := 13) (N := some 50) (v := undef) (a' := ?_) L14' rfl rfl (any_of HT_.out kZ) (fun _ _ _ h => h) (Or.inr ⟨by rfl, rfl⟩) ?_ ?_; rotate_left
    ·simp only [Act.put, sZ1, sZ2, sZ3, i64_w, i32_w]; rfl
    refine pure_ (i := 14) (N := some 51) (v := undef) (a' := ?_) L15' rfl rfl (any_of HT_.out kZ) (fun _ _ _ h => h) (Or.inr ⟨by rfl, rfl⟩) ?_ ?_; rotate_left
    ·simp only [Act.put, sZ1, sZ2, sZ3, i64_w, i32_w]; rfl
    refine pure_ (i := 15) (N := some 52) (v := undef) (a' := ?_) L16' rfl rfl (any_of HT_.out kZ) (fun _ _ _ h => h) (Or.inr ⟨by rfl, rfl⟩) ?_ ?_; rotate_left
    ·simp only [Act.put, sZ1, sZ2, sZ3, i64_w, i32_w]; rfl
    refine pure_ (i := 16) (N := some 53) (v := undef) (a' := ?_) L17' rfl rfl (any_of HT_.out kZ) (fun _ _ _ h => h) (Or.inr ⟨by rfl, rfl⟩) ?_ ?_; rotate_left
    ·simp only [Act.put, sZ1, sZ2, sZ3, i64_w, i32_w]; rfl
    refine pure_ (i := 17) (N := some 54) (v := undef) (a' := ?_) L18' rfl rfl (any_of HT_.out kZ) (fun _ _ _ h => h) (Or.inr ⟨by rfl, rfl⟩) ?_ ?_; rotate_left
    ·simp only [Act.put, sZ1, sZ2, sZ3, i64_w, i32_w]; rfl
    refine pure_ (i := 18) (N := some 55) (v := undef) (a' := ?_) L19' rfl rfl (any_of HT_.out kZ) (fun _ _ _ h => h) (Or.inr ⟨by rfl, rfl⟩) ?_ ?_; rotate_left
    ·simp only [Act.put, sZ1, sZ2, sZ3, i64_w, i32_w]; rfl
    refine pure_ (i := 19) (N := some 56) (v := undef) (a' := ?_) L20' rfl rfl (any_of HT_.out kZ) (fun _ _ _ h => h) (Or.inr ⟨by rfl, rfl⟩) ?_ ?_; rotate_left
    ·simp only [Act.put, sZ1, sZ2, sZ3, i64_w, i32_w]; rfl
    refine pure_ (i := 20) (N := some 57) (v := undef) (a' := ?_) L21' rfl rfl (any_of HT_.out kZ) (fun _ _ _ h => h) (Or.inr ⟨by rfl, rfl⟩) ?_ ?_; rotate_left
    ·simp only [Act.put, sZ1, sZ2, sZ3, i64_w, i32_w]; rfl
    refine pure_ (i := 21) (N := some 58) (v := ?_) (a' := ?_) L22' rfl rfl (any_of HT_.out kZ) (fun _ _ _ h => h) (Or.inl ⟨by rfl, ?_⟩) ?_ ?_; rotate_left
    ·intro w'; go_simp; with_reducible rfl
    rotate_left
    ·simp only [Act.put, sZ1, sZ2, sZ3, i64_w, i32_w]; rfl
    refine pure_ (i := 22) (N := some 59) (v := ?_) (a' := ?_) L23' rfl rfl (any_of HT_.out kZ) (fun _ _ _ h => h) (Or.inl ⟨by rfl, ?_⟩) ?_ ?_; rotate_left
    ·intro w'; go_simp; with_reducible rfl
    rotate_left
    ·simp only [Act.put, sZ1, sZ2, sZ3, i64_w, i32_w]; rfl
    refine done_ (done_of HT_.out kZ) ?_; have p223 : 0 ≤ (x8_1 : Int) := of_decide_eq_true tZE; have q223 : x8_1 < (t213.length : Int) := of_decide_eq_true tZE; obtain ⟨ad223, e223, hx223_0, hx223_1, hx223_2, hx223_3⟩ := at_T59 (Kd.R_reads' HO_6.out).2.2 x8_1 p223 q223
    cases e223
    replace p223 := eq_true p223; replace q223 := eq_true q223; have p61 : 0 ≤ (x34_1 : Int) := of_decide_eq_true tZE; have q61 : (x34_1 : Int) < ((x0_1.length : Int) : Int) := of_decide_eq_true tZE; obtain ⟨go61, co61, eo61, gb61, gl61, cl61, HG61⟩ := Kd.R_form HO_0.out (by omega); (first | cases eo61 | (injection eo61 with ea_ en_ ec_; (first | subst ea_ | (injection ea_ with ea_; subst ea_)); subst ec_; clear en_)); have GB61 := Aside0.mk gb61; have GG61 := Aside0.mk HG61; clear gb61 gl61 HG61; have HMgo61 := aZ (show (P0_ go61 ∨ w.heap.size ≤ go61) from (HO_0.out.1 _ rfl).1); obtain ⟨ce61, hcl61, hM61, hcc61, hfr61⟩ := Kd.R_elem HO_0.out z59 (x34_1 : Int) p61 q61; obtain rfl := k59_openM hM61; have hx61_0 : w62.cell? ⟨go61, (x34_1 : Int).toNat * 4, none⟩ = some (.string ((rd_T59 x0_1 x34_1).f0)) := hcc61 0 _ rfl
    have hx61_1 : w62.cell? ⟨go61, (x34_1 : Int).toNat * 4 + 1, none⟩ = some (.int .i64 ((rd_T59 x0_1 x34_1).f1)) := hcc61 1 _ rfl; have hx61_2 : w62.cell? ⟨go61, (x34_1 : Int).toNat * 4 + 2, none⟩ = some (.int .i64 ((rd_T59 x0_1 x34_1).f2)) := hcc61 2 _ rfl; have hx61_3 : w62.cell? ⟨go61, (x34_1 : Int).toNat * 4 + 3, none⟩ = some (.int .i64 ((rd_T59 x0_1 x34_1).f3)) := hcc61 3 _ rfl; have hf61_0 : w62.frozen? ⟨go61, (x34_1 : Int).toNat * 4, none⟩ = false := hfr61 0; have hf61_1 : w62.frozen? ⟨go61, (x34_1 : Int).toNat * 4 + 1, none⟩ = false := hfr61 1; have hf61_2 : w62.frozen? ⟨go61, (x34_1 : Int).toNat * 4 + 2, none⟩ = false := hfr61 2; have hf61_3 : w62.frozen? ⟨go61, (x34_1 : Int).toNat * 4 + 3, none⟩ = false := hfr61 3; clear hcl61 hcc61 hfr61 hM61; replace p61 := eq_true p61; replace q61 := eq_true q61
    have HX63 := aZ (show Kd.R k59 59 w62 w0.heap.size (fun k_ => (P0_ k_ ∨ w.heap.size ≤ k_) ∧ some k_ ≠ (.slice Ao23 t212.length co23 : Value).ownBlock ∧ some k_ ≠ (.slice (some ad223) t213.length co25 : Value).ownBlock) (.slice (some ⟨go61, 0, none⟩) x0_1.length co14) x0_1 from (lZR HO_0.out)); obtain ⟨ce63, hcl63, hM63, hcc63, hfr63⟩ := Kd.R_elem HX63.out z59 (x34_1 : Int) (of_decide_eq_true tZE) (by have h_ : (x34_1 : Int) < ((x0_1.length : Int) : Int) := of_decide_eq_true tZE; first | exact h_ | (have e_ := (Kd.R_reads' HO_0.out).1; omega) | simpa using h_); obtain rfl := k59_openM hM63
    have HP63 := Kd.R_seg HX63.out (x34_1 : Int) (of_decide_eq_true tZE) (by have h_ : (x34_1 : Int) < ((x0_1.length : Int) : Int) := of_decide_eq_true tZE; first | exact h_ | (have e_ := (Kd.R_reads' HO_0.out).1; omega) | simpa using h_) (seg := [.string ((rd_T59 t213 x8_1).f0), .int .i64 ((rd_T59 t213 x8_1).f1), .int .i64 ((rd_T59 t213 x8_1).f2), .int .i64 ((rd_T59 t213 x8_1).f3)]) (j := 0) hcl63 hcc63 (show 4 ≤ 4 from by decide) (x' := (⟨(rd_T59 t213 x8_1).f0, (rd_T59 t213 x8_1).f1, (rd_T59 t213 x8_1).f2, (rd_T59 t213 x8_1).f3⟩ : S59)) (k59_mkM _ _ _ (⟨(rd_T59 t213 x8_1).f0, (rd_T59 t213 x8_1).f1, (rd_T59 t213 x8_1).f2, (rd_T59 t213 x8_1).f3⟩ : S59) ) (fun _ hk => hk); have hx63_0 := hcc63 0 _ rfl; (try simp only [show (k59).sz = 4 from rfl, Nat.mul_one, Nat.add_zero] at hx63_0); have hf63_0 := hfr63 0; (try simp only [show (k59).sz = 4 from rfl, Nat.mul_one, Nat.add_zero] at hf63_0)
    have hx63_1 := hcc63 1 _ rfl; (try simp only [show (k59).sz = 4 from rfl, Nat.mul_one, Nat.add_zero] at hx63_1); have hf63_1 := hfr63 1; (try simp only [show (k59).sz = 4 from rfl, Nat.mul_one, Nat.add_zero] at hf63_1); have hx63_2 := hcc63 2 _ rfl; (try simp only [show (k59).sz = 4 from rfl, Nat.mul_one, Nat.add_zero] at hx63_2); have hf63_2 := hfr63 2; (try simp only [show (k59).sz = 4 from rfl, Nat.mul_one, Nat.add_zero] at hf63_2); have hx63_3 := hcc63 3 _ rfl; (try simp only [show (k59).sz = 4 from rfl, Nat.mul_one, Nat.add_zero] at hx63_3); have hf63_3 := hfr63 3; (try simp only [show (k59).sz = 4 from rfl, Nat.mul_one, Nat.add_zero] at hf63_3); clear hcl63 hcc63 hfr63 hM63
    try go_wp2_with (first | ((with_reducible refine gate_store (t := 59) (p := 75) rfl ?_); refine store_event (t := 59) (p := 75) (v := ?vo_w64) (w1 := ((((w62.setCell ⟨go61, (x34_1 : Int).toNat * 4, none⟩ (.string ((rd_T59 t213 x8_1).f0))).setCell ⟨go61, (x34_1 : Int).toNat * 4 + 1, none⟩ (.int .i64 ((rd_T59 t213 x8_1).f1))).setCell ⟨go61, (x34_1 : Int).toNat * 4 + 2, none⟩ (.int .i64 ((rd_T59 t213 x8_1).f2))).setCell ⟨go61, (x34_1 : Int).toNat * 4 + 3, none⟩ (.int .i64 ((rd_T59 t213 x8_1).f3)))) ?hg ?ho ?hn ?hr ?_; (case ho => rfl); (case hg => rfl); (case hn => rfl); (case hr => first | (go_simp; done) | (go_simp; rfl)); intro w64 hw; have hg : w62.grownBy w64 (some go61) := (by rw [hw]; exact HP63.2); have hp_ : Kd.R k59 59 w64 w0.heap.size (fun k_ => (P0_ k_ ∨ w.heap.size ≤ k_) ∧ some k_ ≠ (.slice Ao23 t212.length co23 : Value).ownBlock ∧ some k_ ≠ (.slice (some ad223) t213.length co25 : Value).ownBlock) (.slice (some ⟨go61, 0, none⟩) x0_1.length co14) y224 := (by rw [hw, Ny224.out]; exact HP63.1); clear HP63; replace HO_5 := aZ (Kd.R_after (v := (.slice (some ⟨go61, 0, none⟩) x0_1.length co14)) (v1 := (.slice (some ⟨go61, 0, none⟩) x0_1.length co14)) (ok := (fun k_ => (P0_ k_ ∨ w.heap.size ≤ k_) ∧ some k_ ≠ (.slice (some ad223) t213.length co25 : Value).ownBlock)) (by (with_reducible repeat (first | apply Kd.R_alloc | apply Kd.R_drewN | apply Kd.R_drew)); exact Kd.R_mono HO_5.out (fun _ hk => ⟨⟨hk.1, hk.2.2⟩, hk.2.1⟩)) hg (.inl rfl)); replace HO_6 := aZ (Kd.R_after (v := (.slice (some ⟨go61, 0, none⟩) x0_1.length co14)) (v1 := (.slice (some ⟨go61, 0, none⟩) x0_1.length co14)) (ok := (fun k_ => (P0_ k_ ∨ w.heap.size ≤ k_) ∧ some k_ ≠ (.slice Ao23 t212.length co23 : Value).ownBlock)) (by (with_reducible repeat (first | apply Kd.R_alloc | apply Kd.R_drewN | apply Kd.R_drew)); exact Kd.R_mono HO_6.out (fun _ hk => ⟨⟨hk.1, hk.2.2⟩, hk.2.1⟩)) hg (.inl rfl)); replace HB := aZ ((by rw [hw]; exact below_set (below_set (below_set (below_set (HB.out) GB61.out) GB61.out) GB61.out) GB61.out : Below w0.heap.size w0 w64)); replace HK := aZ (Kept.of_grown (S := (fun k_ => P0_ k_)) hg (by repeat (first | (with_reducible first | exact HK.out | apply Kept.alloc | apply Kept.drewN | apply Kept.drew) | exact HK.out)) (fun k_ e_ => (HO_0.out.1 k_ e_).1)); replace HO_0 := aZ (hp_); clear hg hw hp_))
    (try simp only [← hl0_1, ← hl5_1, ← hl6_1])
    go_roundg k1
    case measure => have := HK1.out; omega
    case rel => exact ⟨(y224), (x7_1), (wrap64 (x8_1 + 1)), (wrap64 (x34_1 + 1)), tZB, tZB, tZB, H', ⟨by have := HK1.out; omega⟩, ⟨by (try simp only [hl0_1]); (try simp only [hl5_1]); (try simp only [hl6_1]); (with_reducible repeat (first | apply Kd.R_alloc | apply Kd.R_drewN | apply Kd.R_drew)); exact HO_0.out⟩, ⟨by (try simp only [hl0_1]); (try simp only [hl5_1]); (try simp only [hl6_1]); (with_reducible repeat (first | apply Kd.R_alloc | apply Kd.R_drewN | apply Kd.R_drew)); exact Kd.R_mono HO_5.out (fun _ hk => ⟨hk.1.1, ⟨hk.2, hk.1.2⟩⟩)⟩, ⟨by (try simp only [hl0_1]); (try simp only [hl5_1]); (try simp only [hl6_1]); (with_reducible repeat (first | apply Kd.R_alloc | apply Kd.R_drewN | apply Kd.R_drew)); exact Kd.R_mono HO_6.out (fun _ hk => ⟨hk.1.1, ⟨hk.2, hk.1.2⟩⟩)⟩, ⟨by repeat (first | (with_reducible first | exact HK.out | apply Kept.alloc | apply Kept.drewN | apply Kept.drew) | exact HK.out)⟩, ⟨bZ⟩⟩
   rw [if_pos c37] at H; have c37b0 := decide_eq_true c37; clear c37
   by_cases c38 : 0 ≤ x8_1
   rotate_left
   ·rw [if_neg c38] at H; exact absurd H (by simp)
   rw [if_pos c38] at H; have c38b0 := decide_eq_true c38; clear c38
   by_cases c39 : x8_1 < (t213.length : Int)
   rotate_left
   ·rw [if_neg c39] at H; exact absurd H (by simp)
   rw [if_pos c39] at H; have c39b0 := decide_eq_true c39; clear c39
   by_cases c40 : 0 ≤ x7_1
   rotate_left
   ·rw [if_neg c40] at H; exact absurd H (by simp)
   rw [if_pos c40] at H; have c40b0 := decide_eq_true c40; clear c40; replace H := Option.bind_eq_some_iff.mp H; obtain ⟨t218, A410, H⟩ := H; replace H : (if t218 = true then (if 0 ≤ x34_1 then (if x34_1 < (x0_1.length : Int) then (impl_TaxLine.l0 k1 (x0_1.set (x34_1 : Int).toNat (⟨(rd_T59 t213 x8_1).f0, (rd_T59 t213 x8_1).f1, (rd_T59 t213 x8_1).f2, (rd_T59 t213 x8_1).f3⟩ : S59)) t212 t213 x7_1 (wrap64 (x8_1 + 1)) (l0.length : Int) (wrap64 (x34_1 + 1))) else (none)) else (none)) else (if 0 ≤ x34_1 then (if x34_1 < (x0_1.length : Int) then (impl_TaxLine.l0 k1 (x0_1.set (x34_1 : Int).toNat (⟨(rd_T59 t212 x7_1).f0, (rd_T59 t212 x7_1).f1, (rd_T59 t212 x7_1).f2, (rd_T59 t212 x7_1).f3⟩ : S59)) t212 t213 (wrap64 (x7_1 + 1)) x8_1 (l0.length : Int) (wrap64 (x34_1 + 1))) else (none)) else (none))) = some r := H; have A41 := Aside0.mk A410; clear A410
   by_cases c42 : t218 = true
   ·subst c42; rw [if_pos rfl] at H
    by_cases c43 : 0 ≤ x34_1
    rotate_left
    ·rw [if_neg c43] at H; exact absurd H (by simp)
    rw [if_pos c43] at H; have c43b0 := decide_eq_true c43; clear c43
    by_cases c44 : x34_1 < (x0_1.length : Int)
    rotate_left
    ·rw [if_neg c44] at H; exact absurd H (by simp)
    rw [if_pos c44] at H; have c44b0 := decide_eq_true c44; clear c44; obtain ⟨y220, hy220⟩ : ∃ y_ : List (S59), y_ = (x0_1.set (x34_1 : Int).toNat (⟨(rd_T59 t213 x8_1).f0, (rd_T59 t213 x8_1).f1, (rd_T59 t213 x8_1).f2, (rd_T59 t213 x8_1).f3⟩ : S59)) := ⟨_, rfl⟩; replace H : (impl_TaxLine.l0 k1 y220 t212 t213 x7_1 (wrap64 (x8_1 + 1)) (l0.length : Int) (wrap64 (x34_1 + 1))) = some r := by first | (rw [hy220]; with_reducible exact H) | (have H2_ := (Option.bind_some _ _).symm.trans H; rw [hy220]; with_reducible exact H2_) | (have H2_ := (Option.bind_some _ _).symm.trans H; with_reducible exact H2_) | with_reducible exact H | (rw [hy220]; exact H) | exact H
    have Ny220 := Aside0.mk hy220; clear hy220; have H' := Aside0.mk H; clear H
    try go_wp2
    replace HO_0 := aZ (Kd.R_drew HO_0.out); replace HO_5 := aZ (Kd.R_drew HO_5.out); replace HO_6 := aZ (Kd.R_drew HO_6.out); replace HK := aZ (Kept.drew HK.out); replace HB := aZ (below_drew1 HB.out); have p216 : 0 ≤ (x8_1 : Int) := of_decide_eq_true tZE; have q216 : x8_1 < (t213.length : Int) := of_decide_eq_true tZE; obtain ⟨ad216, e216, hx216_0, hx216_1, hx216_2, hx216_3⟩ := at_T59 (Kd.R_reads' HO_6.out).2.2 x8_1 p216 q216
    cases e216
    replace p216 := eq_true p216; replace q216 := eq_true q216; have p217 : 0 ≤ (x7_1 : Int) := of_decide_eq_true tZE; have q217 : x7_1 < (t212.length : Int) := of_decide_eq_true tZE; obtain ⟨ad217, e217, hx217_0, hx217_1, hx217_2, hx217_3⟩ := at_T59 (Kd.R_reads' HO_5.out).2.2 x7_1 p217 q217
    cases e217
    replace p217 := eq_true p217; replace q217 := eq_true q217
    refine start_ (n := 23) (S := fun w' => w'.cell? (ad216.add ((x8_1).toNat * 4)) = some (.string ((rd_T59 t213 x8_1).f0)) ∧ w'.cell? ⟨(ad216.add ((x8_1).toNat * 4)).block, (ad216.add ((x8_1).toNat * 4)).off + 1, none⟩ = some (.int .i64 ((rd_T59 t213 x8_1).f1)) ∧ w'.cell? ⟨(ad216.add ((x8_1).toNat * 4)).block, (ad216.add ((x8_1).toNat * 4)).off + 2, none⟩ = some (.int .i64 ((rd_T59 t213 x8_1).f2)) ∧ w'.cell? ⟨(ad216.add ((x8_1).toNat * 4)).block, (ad216.add ((x8_1).toNat * 4)).off + 3, none⟩ = some (.int .i64 ((rd_T59 t213 x8_1).f3)) ∧ w'.cell? (ad217.add ((x7_1).toNat * 4)) = some (.string ((rd_T59 t212 x7_1).f0)) ∧ w'.cell? ⟨(ad217.add ((x7_1).toNat * 4)).block, (ad217.add ((x7_1).toNat * 4)).off + 1, none⟩ = some (.int .i64 ((rd_T59 t212 x7_1).f1)) ∧ w'.cell? ⟨(ad217.add ((x7_1).toNat * 4)).block, (ad217.add ((x7_1).toNat * 4)).off + 2, none⟩ = some (.int .i64 ((rd_T59 t212 x7_1).f2)) ∧ w'.cell? ⟨(ad217.add ((x7_1).toNat * 4)).block, (ad217.add ((x7_1).toNat * 4)).off + 3, none⟩ = some (.int .i64 ((rd_T59 t212 x7_1).f3))) (ds := []) L0' kZ rfl rfl ⟨hx216_0, hx216_1, hx216_2, hx216_3, hx217_0, hx217_1, hx217_2, hx217_3⟩ (fun hHeld => ?_); refine with_tabW impl_TaxLine.tab10 impl_TaxLine.bits10 (fun HT_ HW_ => ?_)
    generalize wr.drew = w46 at HO_0 HO_5 HO_6 HK HB hx216_0 hx216_1 hx216_2 hx216_3 hx217_0 hx217_1 hx217_2 hx217_3 hHeld ⊢; refine pure_ (i := 0) (N := some 37) (v := ?_) (a' := ?_) L1' rfl rfl (any_of HT_.out kZ) (fun _ _ _ h => h) (Or.inl ⟨by rfl, ?_⟩) ?_ ?_; rotate_left
    ·intro w'; go_simp; with_reducible rfl
    rotate_left
    ·simp only [Act.put, sZ1, sZ2, sZ3, i64_w, i32_w]; rfl
    refine pure_ (i := 1) (N := some 38) (v := ?_) (a' := ?_) L2' rfl rfl (any_of HT_.out kZ) (fun _ _ _ h => h) (Or.inl ⟨by rfl, ?_⟩) ?_ ?_; rotate_left
    ·intro w'; go_simp; with_reducible rfl
    rotate_left
    ·simp only [Act.put, sZ1, sZ2, sZ3, i64_w, i32_w]; rfl
    refine pure_ (i := 2) (N := some 39) (v := ?_) (a' := ?_) L3' rfl rfl (any_of HT_.out kZ) (fun _ _ _ h => h) (Or.inl ⟨by rfl, ?_⟩) ?_ ?_; rotate_left
    ·intro w'; go_simp; with_reducible rfl
    rotate_left
    ·simp only [Act.put, sZ1, sZ2, sZ3, i64_w, i32_w]; rfl
    refine pure_ (i := 3) (N := some 40) (v := ?_) (a' := ?_) L4' rfl rfl (any_of HT_.out kZ) (fun _ _ _ h => h) (Or.inl ⟨by rfl, ?_⟩) ?_ ?_; rotate_left
    ·intro w'; go_simp; with_reducible rfl
    rotate_left
    ·simp only [Act.put, sZ1, sZ2, sZ3, i64_w, i32_w]; rfl
    refine pure_ (i := 4) (N := some 41) (v := ?_) (a' := ?_) L5' rfl rfl (any_of HT_.out kZ) (fun _ _ _ h => h) (Or.inl ⟨by rfl, ?_⟩) ?_ ?_; rotate_left
    ·intro w'; go_simp; with_reducible rfl
    rotate_left
    ·simp only [Act.put, sZ1, sZ2, sZ3, i64_w, i32_w]; rfl
    refine pure_ (i := 5) (N := some 42) (v := ?_) (a' := ?_) L6' rfl rfl (any_of HT_.out kZ) (fun _ _ _ h => h) (Or.inl ⟨by rfl, ?_⟩) ?_ ?_; rotate_left
    ·intro w'; go_simp; with_reducible rfl
    rotate_left
    ·simp only [Act.put, sZ1, sZ2, sZ3, i64_w, i32_w]; rfl
    refine pure_ (i := 6) (N := some 43) (v := ?_) (a' := ?_) L7' rfl rfl (any_of HT_.out kZ) (fun _ _ _ h => h) (Or.inl ⟨by rfl, ?_⟩) ?_ ?_; rotate_left
    ·intro w'; go_simp; with_reducible rfl
    rotate_left
    ·simp only [Act.put, sZ1, sZ2, sZ3, i64_w, i32_w]; rfl
    refine pure_ (i := 7) (N := some 44) (v := ?_) (a' := ?_) L8' rfl rfl (any_of HT_.out kZ) (fun _ _ _ h => h) (Or.inl ⟨by rfl, ?_⟩) ?_ ?_; rotate_left
    ·intro w'; go_simp; with_reducible rfl
    rotate_left
    ·simp only [Act.put, sZ1, sZ2, sZ3, i64_w, i32_w]; rfl
    refine pure_ (i := 8) (N := some 45) (v := ?_) (a' := ?_) L9' rfl rfl (any_of HT_.out kZ) (fun _ _ _ h => h) (Or.inl ⟨by rfl, ?_⟩) ?_ ?_; rotate_left
    ·intro w'; go_simp; with_reducible rfl
    rotate_left
    ·simp only [Act.put, sZ1, sZ2, sZ3, i64_w, i32_w]; rfl
    refine pure_ (i := 9) (N := some 46) (v := ?_) (a' := ?_) L10' rfl rfl (any_of HT_.out kZ) (fun _ _ _ h => h) (Or.inl ⟨by rfl, ?_⟩) ?_ ?_; rotate_left
    ·intro w'; go_simp; with_reducible rfl
    rotate_left
    ·simp only [Act.put, sZ1, sZ2, sZ3, i64_w, i32_w]; rfl
    refine pure_ (i := 10) (N := some 47) (v := ?_) (a' := ?_) L11' rfl rfl (any_of HT_.out kZ) (fun _ _ _ h => h) (Or.inl ⟨by rfl, ?_⟩) ?_ ?_; rotate_left
    ·intro w'; go_simp; with_reducible rfl
    rotate_left
    ·simp only [Act.put, sZ1, sZ2, sZ3, i64_w, i32_w]; rfl
    refine pure_ (i := 11) (N := some 48) (v := ?_) (a' := ?_) L12' rfl rfl (any_of HT_.out kZ) (fun _ _ _ h => h) (Or.inl ⟨by rfl, ?_⟩) ?_ ?_; rotate_left
    ·intro w'; go_simp; with_reducible rfl
    rotate_left
    ·simp only [Act.put, sZ1, sZ2, sZ3, i64_w, i32_w]; rfl
    refine pure_ (i := 12) (N := some 49) (v := ?_) (a' := ?_) L13' rfl rfl (any_of HT_.out kZ) (fun _ _ _ h => h) (Or.inl ⟨by rfl, ?_⟩) ?_ ?_; rotate_left
    ·intro w'; go_simp; with_reducible rfl
    rotate_left
    ·simp only [Act.put, sZ1, sZ2, sZ3, i64_w, i32_w]; rfl
    refine pure_ (i := 13) (N := some 50) (v := ?_) (a' := ?_) L14' rfl rfl (any_of HT_.out kZ) (fun _ _ _ h => h) (Or.inl ⟨by rfl, ?_⟩) ?_ ?_; rotate_left
    ·intro w'; go_simp; with_reducible rfl
    rotate_left
    ·simp only [Act.put, sZ1, sZ2, sZ3, i64_w, i32_w]; rfl
    refine pure_ (i := 15) (N := some 52) (v := ?_) (a' := ?_) L24' rfl rfl (any_of HT_.out kZ) (fun _ _ _ h => h) (Or.inl ⟨by rfl, ?_⟩) ?_ ?_; rotate_left
    ·intro w'; go_simp; with_reducible rfl
    rotate_left
    ·simp only [Act.put, sZ1, sZ2, sZ3, i64_w, i32_w]; rfl
    refine pure_ (i := 16) (N := some 53) (v := ?_) (a' := ?_) L25' rfl rfl (any_of HT_.out kZ) (fun _ _ _ h => h) (Or.inl ⟨by rfl, ?_⟩) ?_ ?_; rotate_left
    ·intro w'; go_simp; with_reducible rfl
    rotate_left
    ·simp only [Act.put, sZ1, sZ2, sZ3, i64_w, i32_w]; rfl
    refine pure_ (i := 17) (N := some 54) (v := ?_) (a' := ?_) L26' rfl rfl (any_of HT_.out kZ) (fun _ _ _ h => h) (Or.inl ⟨by rfl, ?_⟩) ?_ ?_; rotate_left
    ·intro w'; go_simp; with_reducible rfl
    rotate_left
    ·simp only [Act.put, sZ1, sZ2, sZ3, i64_w, i32_w]; rfl
    refine take_ (i := 14) (N := some 51) (v := ?_) (a' := ?_) L18' rfl rfl (take_ofW HT_.out HW_.out kZ) (fun _ _ _ h => h) (Or.inl ⟨by rfl, ?_⟩) hHeld ?_ ?_; rotate_left
    ·rintro w' ⟨s0, s1, s2, s3, s4, s5, s6, s7⟩
     go_simp; with_reducible rfl
    rotate_left
    ·simp only [Act.put, sZ1, sZ2, sZ3, i64_w, i32_w]; rfl
    refine take_ (i := 18) (N := some 55) (v := ?_) (a' := ?_) L19' rfl rfl (take_ofW HT_.out HW_.out kZ) (fun _ _ _ h => h) (Or.inl ⟨by rfl, ?_⟩) hHeld ?_ ?_; rotate_left
    ·rintro w' ⟨s0, s1, s2, s3, s4, s5, s6, s7⟩
     go_simp; with_reducible rfl
    rotate_left
    ·simp only [Act.put, sZ1, sZ2, sZ3, i64_w, i32_w]; rfl
    refine one_ (i := 19) (N := some 56) L20' rfl rfl (one_of HT_.out kZ) (by decide) (fun K hK => ?_); refine goesV_ Try.func46 kZ rfl #[.agg #[.string ((rd_T59 t213 x8_1).f0), .int .i64 ((rd_T59 t213 x8_1).f1), .int .i64 ((rd_T59 t213 x8_1).f2), .int .i64 ((rd_T59 t213 x8_1).f3)], .agg #[.string ((rd_T59 t212 x7_1).f0), .int .i64 ((rd_T59 t212 x7_1).f1), .int .i64 ((rd_T59 t212 x7_1).f2), .int .i64 ((rd_T59 t212 x7_1).f3)]] (by rfl) rfl rfl (by first | rfl | (go_simp; done)) tZA ?_
    with_reducible refine (impl_TaxReturn_1.calls ((rd_T59 t213 x8_1).f0) ((rd_T59 t213 x8_1).f1) ((rd_T59 t213 x8_1).f2) ((rd_T59 t213 x8_1).f3) ((rd_T59 t212 x7_1).f0) ((rd_T59 t212 x7_1).f1) ((rd_T59 t212 x7_1).f2) ((rd_T59 t212 x7_1).f3) true _ A41.out).mono ?_
    rintro e w47 ⟨rfl, hb⟩
    have HS0_ := (hb.cell (World.block_lt_of_cell? _ _ (hHeld.1))).trans (hHeld.1); have HS1_ := (hb.cell (World.block_lt_of_cell? _ _ (hHeld.2.1))).trans (hHeld.2.1); have HS2_ := (hb.cell (World.block_lt_of_cell? _ _ (hHeld.2.2.1))).trans (hHeld.2.2.1); have HS3_ := (hb.cell (World.block_lt_of_cell? _ _ (hHeld.2.2.2.1))).trans (hHeld.2.2.2.1); have HS4_ := (hb.cell (World.block_lt_of_cell? _ _ (hHeld.2.2.2.2.1))).trans (hHeld.2.2.2.2.1); have HS5_ := (hb.cell (World.block_lt_of_cell? _ _ (hHeld.2.2.2.2.2.1))).trans (hHeld.2.2.2.2.2.1); have HS6_ := (hb.cell (World.block_lt_of_cell? _ _ (hHeld.2.2.2.2.2.2.1))).trans (hHeld.2.2.2.2.2.2.1); have HS7_ := (hb.cell (World.block_lt_of_cell? _ _ (hHeld.2.2.2.2.2.2.2))).trans (hHeld.2.2.2.2.2.2.2); refine ⟨_, rfl, ?_⟩; replace HO_0 := aZ (Kd.R_below (lZR HO_0.out) hb); replace HO_5 := aZ (Kd.R_below (lZR HO_5.out) hb)
    replace HO_6 := aZ (Kd.R_below (lZR HO_6.out) hb); replace HK := aZ (Kept.below (S := (fun k_ => P0_ k_)) (by repeat (first | (with_reducible first | exact HK.out | apply Kept.alloc | apply Kept.drewN | apply Kept.drew) | exact HK.out)) hb); replace HB := aZ (below_step (lZB HB.out) hb); (try clear hb); (try clear hb2); (try clear hk); (try clear hi); refine hK.out _ _ ⟨HS0_, HS1_, HS2_, HS3_, HS4_, HS5_, HS6_, HS7_⟩ (fun hHeld => ?_); clear hK K; refine norm_ (a' := ?_) ?_ ?_; rotate_left
    ·show Act.put _ (some 56) _ = _
     simp only [Act.put, sZ1, sZ2, sZ3, i64_w, i32_w]; rfl
    refine pure_ (i := 20) (N := some 57) (v := ?_) (a' := ?_) L21' rfl rfl (any_of HT_.out kZ) (fun _ _ _ h => h) (Or.inl ⟨by rfl, ?_⟩) ?_ ?_; rotate_left
    ·intro w'; go_simp; with_reducible rfl
    rotate_left
    ·simp only [Act.put, sZ1, sZ2, sZ3, i64_w, i32_w]; rfl
    refine pure_ (i := 21) (N := some 58) (v := ?_) (a' := ?_) L22' rfl rfl (any_of HT_.out kZ) (fun _ _ _ h => h) (Or.inl ⟨by rfl, ?_⟩) ?_ ?_; rotate_left
    ·intro w'; go_simp; with_reducible rfl
    rotate_left
    ·simp only [Act.put, sZ1, sZ2, sZ3, i64_w, i32_w]; rfl
    refine pure_ (i := 22) (N := some 59) (v := ?_) (a' := ?_) L23' rfl rfl (any_of HT_.out kZ) (fun _ _ _ h => h) (Or.inl ⟨by rfl, ?_⟩) ?_ ?_; rotate_left
    ·intro w'; go_simp; with_reducible rfl
    rotate_left
    ·simp only [Act.put, sZ1, sZ2, sZ3, i64_w, i32_w]; rfl
    refine done_ (done_of HT_.out kZ) ?_; have p219 : 0 ≤ (x8_1 : Int) := of_decide_eq_true tZE; have q219 : x8_1 < (t213.length : Int) := of_decide_eq_true tZE; obtain ⟨ad219, e219, hx219_0, hx219_1, hx219_2, hx219_3⟩ := at_T59 (Kd.R_reads' HO_6.out).2.2 x8_1 p219 q219; obtain rfl : ad216 = ad219 := (by injection e219); replace p219 := eq_true p219; replace q219 := eq_true q219; have p45 : 0 ≤ (x34_1 : Int) := of_decide_eq_true tZE; have q45 : (x34_1 : Int) < ((x0_1.length : Int) : Int) := of_decide_eq_true tZE; obtain ⟨go45, co45, eo45, gb45, gl45, cl45, HG45⟩ := Kd.R_form HO_0.out (by omega); (first | cases eo45 | (injection eo45 with ea_ en_ ec_; (first | subst ea_ | (injection ea_ with ea_; subst ea_)); subst ec_; clear en_)); have GB45 := Aside0.mk gb45; have GG45 := Aside0.mk HG45; clear gb45 gl45 HG45
    have HMgo45 := aZ (show (P0_ go45 ∨ w.heap.size ≤ go45) from (HO_0.out.1 _ rfl).1); obtain ⟨ce45, hcl45, hM45, hcc45, hfr45⟩ := Kd.R_elem HO_0.out z59 (x34_1 : Int) p45 q45; obtain rfl := k59_openM hM45; have hx45_0 : w47.cell? ⟨go45, (x34_1 : Int).toNat * 4, none⟩ = some (.string ((rd_T59 x0_1 x34_1).f0)) := hcc45 0 _ rfl; have hx45_1 : w47.cell? ⟨go45, (x34_1 : Int).toNat * 4 + 1, none⟩ = some (.int .i64 ((rd_T59 x0_1 x34_1).f1)) := hcc45 1 _ rfl; have hx45_2 : w47.cell? ⟨go45, (x34_1 : Int).toNat * 4 + 2, none⟩ = some (.int .i64 ((rd_T59 x0_1 x34_1).f2)) := hcc45 2 _ rfl; have hx45_3 : w47.cell? ⟨go45, (x34_1 : Int).toNat * 4 + 3, none⟩ = some (.int .i64 ((rd_T59 x0_1 x34_1).f3)) := hcc45 3 _ rfl; have hf45_0 : w47.frozen? ⟨go45, (x34_1 : Int).toNat * 4, none⟩ = false := hfr45 0; have hf45_1 : w47.frozen? ⟨go45, (x34_1 : Int).toNat * 4 + 1, none⟩ = false := hfr45 1
    have hf45_2 : w47.frozen? ⟨go45, (x34_1 : Int).toNat * 4 + 2, none⟩ = false := hfr45 2; have hf45_3 : w47.frozen? ⟨go45, (x34_1 : Int).toNat * 4 + 3, none⟩ = false := hfr45 3; clear hcl45 hcc45 hfr45 hM45; replace p45 := eq_true p45; replace q45 := eq_true q45; have HX48 := aZ (show Kd.R k59 59 w47 w0.heap.size (fun k_ => (P0_ k_ ∨ w.heap.size ≤ k_) ∧ some k_ ≠ (.slice (some ad217) t212.length co23 : Value).ownBlock ∧ some k_ ≠ (.slice (some ad216) t213.length co25 : Value).ownBlock) (.slice (some ⟨go45, 0, none⟩) x0_1.length co14) x0_1 from (lZR HO_0.out)); obtain ⟨ce48, hcl48, hM48, hcc48, hfr48⟩ := Kd.R_elem HX48.out z59 (x34_1 : Int) (of_decide_eq_true tZE) (by have h_ : (x34_1 : Int) < ((x0_1.length : Int) : Int) := of_decide_eq_true tZE; first | exact h_ | (have e_ := (Kd.R_reads' HO_0.out).1; omega) | simpa using h_); obtain rfl := k59_openM hM48
    have HP48 := Kd.R_seg HX48.out (x34_1 : Int) (of_decide_eq_true tZE) (by have h_ : (x34_1 : Int) < ((x0_1.length : Int) : Int) := of_decide_eq_true tZE; first | exact h_ | (have e_ := (Kd.R_reads' HO_0.out).1; omega) | simpa using h_) (seg := [.string ((rd_T59 t213 x8_1).f0), .int .i64 ((rd_T59 t213 x8_1).f1), .int .i64 ((rd_T59 t213 x8_1).f2), .int .i64 ((rd_T59 t213 x8_1).f3)]) (j := 0) hcl48 hcc48 (show 4 ≤ 4 from by decide) (x' := (⟨(rd_T59 t213 x8_1).f0, (rd_T59 t213 x8_1).f1, (rd_T59 t213 x8_1).f2, (rd_T59 t213 x8_1).f3⟩ : S59)) (k59_mkM _ _ _ (⟨(rd_T59 t213 x8_1).f0, (rd_T59 t213 x8_1).f1, (rd_T59 t213 x8_1).f2, (rd_T59 t213 x8_1).f3⟩ : S59) ) (fun _ hk => hk); have hx48_0 := hcc48 0 _ rfl; (try simp only [show (k59).sz = 4 from rfl, Nat.mul_one, Nat.add_zero] at hx48_0); have hf48_0 := hfr48 0; (try simp only [show (k59).sz = 4 from rfl, Nat.mul_one, Nat.add_zero] at hf48_0)
    have hx48_1 := hcc48 1 _ rfl; (try simp only [show (k59).sz = 4 from rfl, Nat.mul_one, Nat.add_zero] at hx48_1); have hf48_1 := hfr48 1; (try simp only [show (k59).sz = 4 from rfl, Nat.mul_one, Nat.add_zero] at hf48_1); have hx48_2 := hcc48 2 _ rfl; (try simp only [show (k59).sz = 4 from rfl, Nat.mul_one, Nat.add_zero] at hx48_2); have hf48_2 := hfr48 2; (try simp only [show (k59).sz = 4 from rfl, Nat.mul_one, Nat.add_zero] at hf48_2); have hx48_3 := hcc48 3 _ rfl; (try simp only [show (k59).sz = 4 from rfl, Nat.mul_one, Nat.add_zero] at hx48_3); have hf48_3 := hfr48 3; (try simp only [show (k59).sz = 4 from rfl, Nat.mul_one, Nat.add_zero] at hf48_3); clear hcl48 hcc48 hfr48 hM48
    try go_wp2_with (first | ((with_reducible refine gate_store (t := 59) (p := 75) rfl ?_); refine store_event (t := 59) (p := 75) (v := ?vo_w49) (w1 := ((((w47.setCell ⟨go45, (x34_1 : Int).toNat * 4, none⟩ (.string ((rd_T59 t213 x8_1).f0))).setCell ⟨go45, (x34_1 : Int).toNat * 4 + 1, none⟩ (.int .i64 ((rd_T59 t213 x8_1).f1))).setCell ⟨go45, (x34_1 : Int).toNat * 4 + 2, none⟩ (.int .i64 ((rd_T59 t213 x8_1).f2))).setCell ⟨go45, (x34_1 : Int).toNat * 4 + 3, none⟩ (.int .i64 ((rd_T59 t213 x8_1).f3)))) ?hg ?ho ?hn ?hr ?_; (case ho => rfl); (case hg => rfl); (case hn => rfl); (case hr => first | (go_simp; done) | (go_simp; rfl)); intro w49 hw; have hg : w47.grownBy w49 (some go45) := (by rw [hw]; exact HP48.2); have hp_ : Kd.R k59 59 w49 w0.heap.size (fun k_ => (P0_ k_ ∨ w.heap.size ≤ k_) ∧ some k_ ≠ (.slice (some ad217) t212.length co23 : Value).ownBlock ∧ some k_ ≠ (.slice (some ad216) t213.length co25 : Value).ownBlock) (.slice (some ⟨go45, 0, none⟩) x0_1.length co14) y220 := (by rw [hw, Ny220.out]; exact HP48.1); clear HP48; replace HO_5 := aZ (Kd.R_after (v := (.slice (some ⟨go45, 0, none⟩) x0_1.length co14)) (v1 := (.slice (some ⟨go45, 0, none⟩) x0_1.length co14)) (ok := (fun k_ => (P0_ k_ ∨ w.heap.size ≤ k_) ∧ some k_ ≠ (.slice (some ad216) t213.length co25 : Value).ownBlock)) (by (with_reducible repeat (first | apply Kd.R_alloc | apply Kd.R_drewN | apply Kd.R_drew)); exact Kd.R_mono HO_5.out (fun _ hk => ⟨⟨hk.1, hk.2.2⟩, hk.2.1⟩)) hg (.inl rfl)); replace HO_6 := aZ (Kd.R_after (v := (.slice (some ⟨go45, 0, none⟩) x0_1.length co14)) (v1 := (.slice (some ⟨go45, 0, none⟩) x0_1.length co14)) (ok := (fun k_ => (P0_ k_ ∨ w.heap.size ≤ k_) ∧ some k_ ≠ (.slice (some ad217) t212.length co23 : Value).ownBlock)) (by (with_reducible repeat (first | apply Kd.R_alloc | apply Kd.R_drewN | apply Kd.R_drew)); exact Kd.R_mono HO_6.out (fun _ hk => ⟨⟨hk.1, hk.2.2⟩, hk.2.1⟩)) hg (.inl rfl)); replace HB := aZ ((by rw [hw]; exact below_set (below_set (below_set (below_set (HB.out) GB45.out) GB45.out) GB45.out) GB45.out : Below w0.heap.size w0 w49)); replace HK := aZ (Kept.of_grown (S := (fun k_ => P0_ k_)) hg (by repeat (first | (with_reducible first | exact HK.out | apply Kept.alloc | apply Kept.drewN | apply Kept.drew) | exact HK.out)) (fun k_ e_ => (HO_0.out.1 k_ e_).1)); replace HO_0 := aZ (hp_); clear hg hw hp_))
    (try simp only [← hl0_1, ← hl5_1, ← hl6_1])
    go_roundg k1
    case measure => have := HK1.out; omega
    case rel => exact ⟨(y220), (x7_1), (wrap64 (x8_1 + 1)), (wrap64 (x34_1 + 1)), tZB, tZB, tZB, H', ⟨by have := HK1.out; omega⟩, ⟨by (try simp only [hl0_1]); (try simp only [hl5_1]); (try simp only [hl6_1]); (with_reducible repeat (first | apply Kd.R_alloc | apply Kd.R_drewN | apply Kd.R_drew)); exact HO_0.out⟩, ⟨by (try simp only [hl0_1]); (try simp only [hl5_1]); (try simp only [hl6_1]); (with_reducible repeat (first | apply Kd.R_alloc | apply Kd.R_drewN | apply Kd.R_drew)); exact Kd.R_mono HO_5.out (fun _ hk => ⟨hk.1.1, ⟨hk.2, hk.1.2⟩⟩)⟩, ⟨by (try simp only [hl0_1]); (try simp only [hl5_1]); (try simp only [hl6_1]); (with_reducible repeat (first | apply Kd.R_alloc | apply Kd.R_drewN | apply Kd.R_drew)); exact Kd.R_mono HO_6.out (fun _ hk => ⟨hk.1.1, ⟨hk.2, hk.1.2⟩⟩)⟩, ⟨by repeat (first | (with_reducible first | exact HK.out | apply Kept.alloc | apply Kept.drewN | apply Kept.drew) | exact HK.out)⟩, ⟨bZ⟩⟩
   replace c42 := Bool.eq_false_iff.mpr c42; subst c42; rw [if_neg Bool.false_ne_true] at H
   by_cases c50 : 0 ≤ x34_1
   rotate_left
   ·rw [if_neg c50] at H; exact absurd H (by simp)
   rw [if_pos c50] at H; have c50b0 := decide_eq_true c50; clear c50
   by_cases c51 : x34_1 < (x0_1.length : Int)
   rotate_left
   ·rw [if_neg c51] at H; exact absurd H (by simp)
   rw [if_pos c51] at H; have c51b0 := decide_eq_true c51; clear c51; obtain ⟨y222, hy222⟩ : ∃ y_ : List (S59), y_ = (x0_1.set (x34_1 : Int).toNat (⟨(rd_T59 t212 x7_1).f0, (rd_T59 t212 x7_1).f1, (rd_T59 t212 x7_1).f2, (rd_T59 t212 x7_1).f3⟩ : S59)) := ⟨_, rfl⟩; replace H : (impl_TaxLine.l0 k1 y222 t212 t213 (wrap64 (x7_1 + 1)) x8_1 (l0.length : Int) (wrap64 (x34_1 + 1))) = some r := by first | (rw [hy222]; with_reducible exact H) | (have H2_ := (Option.bind_some _ _).symm.trans H; rw [hy222]; with_reducible exact H2_) | (have H2_ := (Option.bind_some _ _).symm.trans H; with_reducible exact H2_) | with_reducible exact H | (rw [hy222]; exact H) | exact H
   have Ny222 := Aside0.mk hy222; clear hy222; have H' := Aside0.mk H; clear H
   try go_wp2
   replace HO_0 := aZ (Kd.R_drew HO_0.out); replace HO_5 := aZ (Kd.R_drew HO_5.out); replace HO_6 := aZ (Kd.R_drew HO_6.out); replace HK := aZ (Kept.drew HK.out); replace HB := aZ (below_drew1 HB.out); have p216 : 0 ≤ (x8_1 : Int) := of_decide_eq_true tZE; have q216 : x8_1 < (t213.length : Int) := of_decide_eq_true tZE; obtain ⟨ad216, e216, hx216_0, hx216_1, hx216_2, hx216_3⟩ := at_T59 (Kd.R_reads' HO_6.out).2.2 x8_1 p216 q216
   cases e216
   replace p216 := eq_true p216; replace q216 := eq_true q216; have p217 : 0 ≤ (x7_1 : Int) := of_decide_eq_true tZE; have q217 : x7_1 < (t212.length : Int) := of_decide_eq_true tZE; obtain ⟨ad217, e217, hx217_0, hx217_1, hx217_2, hx217_3⟩ := at_T59 (Kd.R_reads' HO_5.out).2.2 x7_1 p217 q217
   cases e217
   replace p217 := eq_true p217; replace q217 := eq_true q217
   refine start_ (n := 23) (S := fun w' => w'.cell? (ad216.add ((x8_1).toNat * 4)) = some (.string ((rd_T59 t213 x8_1).f0)) ∧ w'.cell? ⟨(ad216.add ((x8_1).toNat * 4)).block, (ad216.add ((x8_1).toNat * 4)).off + 1, none⟩ = some (.int .i64 ((rd_T59 t213 x8_1).f1)) ∧ w'.cell? ⟨(ad216.add ((x8_1).toNat * 4)).block, (ad216.add ((x8_1).toNat * 4)).off + 2, none⟩ = some (.int .i64 ((rd_T59 t213 x8_1).f2)) ∧ w'.cell? ⟨(ad216.add ((x8_1).toNat * 4)).block, (ad216.add ((x8_1).toNat * 4)).off + 3, none⟩ = some (.int .i64 ((rd_T59 t213 x8_1).f3)) ∧ w'.cell? (ad217.add ((x7_1).toNat * 4)) = some (.string ((rd_T59 t212 x7_1).f0)) ∧ w'.cell? ⟨(ad217.add ((x7_1).toNat * 4)).block, (ad217.add ((x7_1).toNat * 4)).off + 1, none⟩ = some (.int .i64 ((rd_T59 t212 x7_1).f1)) ∧ w'.cell? ⟨(ad217.add ((x7_1).toNat * 4)).block, (ad217.add ((x7_1).toNat * 4)).off + 2, none⟩ = some (.int .i64 ((rd_T59 t212 x7_1).f2)) ∧ w'.cell? ⟨(ad217.add ((x7_1).toNat * 4)).block, (ad217.add ((x7_1).toNat * 4)).off + 3, none⟩ = some (.int .i64 ((rd_T59 t212 x7_1).f3))) (ds := []) L0' kZ rfl rfl ⟨hx216_0, hx216_1, hx216_2, hx216_3, hx217_0, hx217_1, hx217_2, hx217_3⟩ (fun hHeld => ?_); refine with_tabW impl_TaxLine.tab10 impl_TaxLine.bits10 (fun HT_ HW_ => ?_)
   generalize wr.drew = w53 at HO_0 HO_5 HO_6 HK HB hx216_0 hx216_1 hx216_2 hx216_3 hx217_0 hx217_1 hx217_2 hx217_3 hHeld ⊢; refine pure_ (i := 0) (N := some 37) (v := ?_) (a' := ?_) L1' rfl rfl (any_of HT_.out kZ) (fun _ _ _ h => h) (Or.inl ⟨by rfl, ?_⟩) ?_ ?_; rotate_left
   ·intro w'; go_simp; with_reducible rfl
   rotate_left
   ·simp only [Act.put, sZ1, sZ2, sZ3, i64_w, i32_w]; rfl
   refine pure_ (i := 1) (N := some 38) (v := ?_) (a' := ?_) L2' rfl rfl (any_of HT_.out kZ) (fun _ _ _ h => h) (Or.inl ⟨by rfl, ?_⟩) ?_ ?_; rotate_left
   ·intro w'; go_simp; with_reducible rfl
   rotate_left
   ·simp only [Act.put, sZ1, sZ2, sZ3, i64_w, i32_w]; rfl
   refine pure_ (i := 2) (N := some 39) (v := ?_) (a' := ?_) L3' rfl rfl (any_of HT_.out kZ) (fun _ _ _ h => h) (Or.inl ⟨by rfl, ?_⟩) ?_ ?_; rotate_left
   ·intro w'; go_simp; with_reducible rfl
   rotate_left
   ·simp only [Act.put, sZ1, sZ2, sZ3, i64_w, i32_w]; rfl
   refine pure_ (i := 3) (N := some 40) (v := ?_) (a' := ?_) L4' rfl rfl (any_of HT_.out kZ) (fun _ _ _ h => h) (Or.inl ⟨by rfl, ?_⟩) ?_ ?_; rotate_left
   ·intro w'; go_simp; with_reducible rfl
   rotate_left
   ·simp only [Act.put, sZ1, sZ2, sZ3, i64_w, i32_w]; rfl
   refine pure_ (i := 4) (N := some 41) (v := ?_) (a' := ?_) L5' rfl rfl (any_of HT_.out kZ) (fun _ _ _ h => h) (Or.inl ⟨by rfl, ?_⟩) ?_ ?_; rotate_left
   ·intro w'; go_simp; with_reducible rfl
   rotate_left
   ·simp only [Act.put, sZ1, sZ2, sZ3, i64_w, i32_w]; rfl
   refine pure_ (i := 5) (N := some 42) (v := ?_) (a' := ?_) L6' rfl rfl (any_of HT_.out kZ) (fun _ _ _ h => h) (Or.inl ⟨by rfl, ?_⟩) ?_ ?_; rotate_left
   ·intro w'; go_simp; with_reducible rfl
   rotate_left
   ·simp only [Act.put, sZ1, sZ2, sZ3, i64_w, i32_w]; rfl
   refine pure_ (i := 6) (N := some 43) (v := ?_) (a' := ?_) L7' rfl rfl (any_of HT_.out kZ) (fun _ _ _ h => h) (Or.inl ⟨by rfl, ?_⟩) ?_ ?_; rotate_left
   ·intro w'; go_simp; with_reducible rfl
   rotate_left
   ·simp only [Act.put, sZ1, sZ2, sZ3, i64_w, i32_w]; rfl
   refine pure_ (i := 7) (N := some 44) (v := ?_) (a' := ?_) L8' rfl rfl (any_of HT_.out kZ) (fun _ _ _ h => h) (Or.inl ⟨by rfl, ?_⟩) ?_ ?_; rotate_left
   ·intro w'; go_simp; with_reducible rfl
   rotate_left
   ·simp only [Act.put, sZ1, sZ2, sZ3, i64_w, i32_w]; rfl
   refine pure_ (i := 8) (N := some 45) (v := ?_) (a' := ?_) L9' rfl rfl (any_of HT_.out kZ) (fun _ _ _ h => h) (Or.inl ⟨by rfl, ?_⟩) ?_ ?_; rotate_left
   ·intro w'; go_simp; with_reducible rfl
   rotate_left
   ·simp only [Act.put, sZ1, sZ2, sZ3, i64_w, i32_w]; rfl
   refine pure_ (i := 9) (N := some 46) (v := ?_) (a' := ?_) L10' rfl rfl (any_of HT_.out kZ) (fun _ _ _ h => h) (Or.inl ⟨by rfl, ?_⟩) ?_ ?_; rotate_left
   ·intro w'; go_simp; with_reducible rfl
   rotate_left
   ·simp only [Act.put, sZ1, sZ2, sZ3, i64_w, i32_w]; rfl
   refine pure_ (i := 10) (N := some 47) (v := ?_) (a' := ?_) L11' rfl rfl (any_of HT_.out kZ) (fun _ _ _ h => h) (Or.inl ⟨by rfl, ?_⟩) ?_ ?_; rotate_left
   ·intro w'; go_simp; with_reducible rfl
   rotate_left
   ·simp only [Act.put, sZ1, sZ2, sZ3, i64_w, i32_w]; rfl
   refine pure_ (i := 11) (N := some 48) (v := ?_) (a' := ?_) L12' rfl rfl (any_of HT_.out kZ) (fun _ _ _ h => h) (Or.inl ⟨by rfl, ?_⟩) ?_ ?_; rotate_left
   ·intro w'; go_simp; with_reducible rfl
   rotate_left
   ·simp only [Act.put, sZ1, sZ2, sZ3, i64_w, i32_w]; rfl
   refine pure_ (i := 12) (N := some 49) (v := ?_) (a' := ?_) L13' rfl rfl (any_of HT_.out kZ) (fun _ _ _ h => h) (Or.inl ⟨by rfl, ?_⟩) ?_ ?_; rotate_left
   ·intro w'; go_simp; with_reducible rfl
   rotate_left
   ·simp only [Act.put, sZ1, sZ2, sZ3, i64_w, i32_w]; rfl
   refine pure_ (i := 13) (N := some 50) (v := ?_) (a' := ?_) L14' rfl rfl (any_of HT_.out kZ) (fun _ _ _ h => h) (Or.inl ⟨by rfl, ?_⟩) ?_ ?_; rotate_left
   ·intro w'; go_simp; with_reducible rfl
   rotate_left
   ·simp only [Act.put, sZ1, sZ2, sZ3, i64_w, i32_w]; rfl
   refine pure_ (i := 15) (N := some 52) (v := ?_) (a' := ?_) L24' rfl rfl (any_of HT_.out kZ) (fun _ _ _ h => h) (Or.inl ⟨by rfl, ?_⟩) ?_ ?_; rotate_left
   ·intro w'; go_simp; with_reducible rfl
   rotate_left
   ·simp only [Act.put, sZ1, sZ2, sZ3, i64_w, i32_w]; rfl
   refine pure_ (i := 16) (N := some 53) (v := ?_) (a' := ?_) L25' rfl rfl (any_of HT_.out kZ) (fun _ _ _ h => h) (Or.inl ⟨by rfl, ?_⟩) ?_ ?_; rotate_left
   ·intro w'; go_simp; with_reducible rfl
   rotate_left
   ·simp only [Act.put, sZ1, sZ2, sZ3, i64_w, i32_w]; rfl
   refine pure_ (i := 17) (N := some 54) (v := ?_) (a' := ?_) L26' rfl rfl (any_of HT_.out kZ) (fun _ _ _ h => h) (Or.inl ⟨by rfl, ?_⟩) ?_ ?_; rotate_left
   ·intro w'; go_simp; with_reducible rfl
   rotate_left
   ·simp only [Act.put, sZ1, sZ2, sZ3, i64_w, i32_w]; rfl
   refine take_ (i := 14) (N := some 51) (v := ?_) (a' := ?_) L18' rfl rfl (take_ofW HT_.out HW_.out kZ) (fun _ _ _ h => h) (Or.inl ⟨by rfl, ?_⟩) hHeld ?_ ?_; rotate_left
   ·rintro w' ⟨s0, s1, s2, s3, s4, s5, s6, s7⟩
    go_simp; with_reducible rfl
   rotate_left
   ·simp only [Act.put, sZ1, sZ2, sZ3, i64_w, i32_w]; rfl
   refine take_ (i := 18) (N := some 55) (v := ?_) (a' := ?_) L19' rfl rfl (take_ofW HT_.out HW_.out kZ) (fun _ _ _ h => h) (Or.inl ⟨by rfl, ?_⟩) hHeld ?_ ?_; rotate_left
   ·rintro w' ⟨s0, s1, s2, s3, s4, s5, s6, s7⟩
    go_simp; with_reducible rfl
   rotate_left
   ·simp only [Act.put, sZ1, sZ2, sZ3, i64_w, i32_w]; rfl
   refine one_ (i := 19) (N := some 56) L20' rfl rfl (one_of HT_.out kZ) (by decide) (fun K hK => ?_); refine goesV_ Try.func46 kZ rfl #[.agg #[.string ((rd_T59 t213 x8_1).f0), .int .i64 ((rd_T59 t213 x8_1).f1), .int .i64 ((rd_T59 t213 x8_1).f2), .int .i64 ((rd_T59 t213 x8_1).f3)], .agg #[.string ((rd_T59 t212 x7_1).f0), .int .i64 ((rd_T59 t212 x7_1).f1), .int .i64 ((rd_T59 t212 x7_1).f2), .int .i64 ((rd_T59 t212 x7_1).f3)]] (by rfl) rfl rfl (by first | rfl | (go_simp; done)) tZA ?_
   with_reducible refine (impl_TaxReturn_1.calls ((rd_T59 t213 x8_1).f0) ((rd_T59 t213 x8_1).f1) ((rd_T59 t213 x8_1).f2) ((rd_T59 t213 x8_1).f3) ((rd_T59 t212 x7_1).f0) ((rd_T59 t212 x7_1).f1) ((rd_T59 t212 x7_1).f2) ((rd_T59 t212 x7_1).f3) false _ A41.out).mono ?_
   rintro e w54 ⟨rfl, hb⟩
   have HS0_ := (hb.cell (World.block_lt_of_cell? _ _ (hHeld.1))).trans (hHeld.1); have HS1_ := (hb.cell (World.block_lt_of_cell? _ _ (hHeld.2.1))).trans (hHeld.2.1); have HS2_ := (hb.cell (World.block_lt_of_cell? _ _ (hHeld.2.2.1))).trans (hHeld.2.2.1); have HS3_ := (hb.cell (World.block_lt_of_cell? _ _ (hHeld.2.2.2.1))).trans (hHeld.2.2.2.1); have HS4_ := (hb.cell (World.block_lt_of_cell? _ _ (hHeld.2.2.2.2.1))).trans (hHeld.2.2.2.2.1); have HS5_ := (hb.cell (World.block_lt_of_cell? _ _ (hHeld.2.2.2.2.2.1))).trans (hHeld.2.2.2.2.2.1); have HS6_ := (hb.cell (World.block_lt_of_cell? _ _ (hHeld.2.2.2.2.2.2.1))).trans (hHeld.2.2.2.2.2.2.1); have HS7_ := (hb.cell (World.block_lt_of_cell? _ _ (hHeld.2.2.2.2.2.2.2))).trans (hHeld.2.2.2.2.2.2.2); refine ⟨_, rfl, ?_⟩; replace HO_0 := aZ (Kd.R_below (lZR HO_0.out) hb); replace HO_5 := aZ (Kd.R_below (lZR HO_5.out) hb)
   replace HO_6 := aZ (Kd.R_below (lZR HO_6.out) hb); replace HK := aZ (Kept.below (S := (fun k_ => P0_ k_)) (by repeat (first | (with_reducible first | exact HK.out | apply Kept.alloc | apply Kept.drewN | apply Kept.drew) | exact HK.out)) hb); replace HB := aZ (below_step (lZB HB.out) hb); (try clear hb); (try clear hb2); (try clear hk); (try clear hi); refine hK.out _ _ ⟨HS0_, HS1_, HS2_, HS3_, HS4_, HS5_, HS6_, HS7_⟩ (fun hHeld => ?_); clear hK K; refine norm_ (a' := ?_) ?_ ?_; rotate_left
   ·show Act.put _ (some 56) _ = _
    simp only [Act.put, sZ1, sZ2, sZ3, i64_w, i32_w]; rfl
   refine pure_ (i := 20) (N := some 57) (v := ?_) (a' := ?_) L21' rfl rfl (any_of HT_.out kZ) (fun _ _ _ h => h) (Or.inl ⟨by rfl, ?_⟩) ?_ ?_; rotate_left
   ·intro w'; go_simp; with_reducible rfl
   rotate_left
   ·simp only [Act.put, sZ1, sZ2, sZ3, i64_w, i32_w]; rfl
   refine pure_ (i := 21) (N := some 58) (v := ?_) (a' := ?_) L22' rfl rfl (any_of HT_.out kZ) (fun _ _ _ h => h) (Or.inl ⟨by rfl, ?_⟩) ?_ ?_; rotate_left
   ·intro w'; go_simp; with_reducible rfl
   rotate_left
   ·simp only [Act.put, sZ1, sZ2, sZ3, i64_w, i32_w]; rfl
   refine pure_ (i := 22) (N := some 59) (v := ?_) (a' := ?_) L23' rfl rfl (any_of HT_.out kZ) (fun _ _ _ h => h) (Or.inl ⟨by rfl, ?_⟩) ?_ ?_; rotate_left
   ·intro w'; go_simp; with_reducible rfl
   rotate_left
   ·simp only [Act.put, sZ1, sZ2, sZ3, i64_w, i32_w]; rfl
   refine done_ (done_of HT_.out kZ) ?_; have p221 : 0 ≤ (x7_1 : Int) := of_decide_eq_true tZE; have q221 : x7_1 < (t212.length : Int) := of_decide_eq_true tZE; obtain ⟨ad221, e221, hx221_0, hx221_1, hx221_2, hx221_3⟩ := at_T59 (Kd.R_reads' HO_5.out).2.2 x7_1 p221 q221; obtain rfl : ad217 = ad221 := (by injection e221); replace p221 := eq_true p221; replace q221 := eq_true q221; have p52 : 0 ≤ (x34_1 : Int) := of_decide_eq_true tZE; have q52 : (x34_1 : Int) < ((x0_1.length : Int) : Int) := of_decide_eq_true tZE; obtain ⟨go52, co52, eo52, gb52, gl52, cl52, HG52⟩ := Kd.R_form HO_0.out (by omega); (first | cases eo52 | (injection eo52 with ea_ en_ ec_; (first | subst ea_ | (injection ea_ with ea_; subst ea_)); subst ec_; clear en_)); have GB52 := Aside0.mk gb52; have GG52 := Aside0.mk HG52; clear gb52 gl52 HG52
   have HMgo52 := aZ (show (P0_ go52 ∨ w.heap.size ≤ go52) from (HO_0.out.1 _ rfl).1); obtain ⟨ce52, hcl52, hM52, hcc52, hfr52⟩ := Kd.R_elem HO_0.out z59 (x34_1 : Int) p52 q52; obtain rfl := k59_openM hM52; have hx52_0 : w54.cell? ⟨go52, (x34_1 : Int).toNat * 4, none⟩ = some (.string ((rd_T59 x0_1 x34_1).f0)) := hcc52 0 _ rfl; have hx52_1 : w54.cell? ⟨go52, (x34_1 : Int).toNat * 4 + 1, none⟩ = some (.int .i64 ((rd_T59 x0_1 x34_1).f1)) := hcc52 1 _ rfl; have hx52_2 : w54.cell? ⟨go52, (x34_1 : Int).toNat * 4 + 2, none⟩ = some (.int .i64 ((rd_T59 x0_1 x34_1).f2)) := hcc52 2 _ rfl; have hx52_3 : w54.cell? ⟨go52, (x34_1 : Int).toNat * 4 + 3, none⟩ = some (.int .i64 ((rd_T59 x0_1 x34_1).f3)) := hcc52 3 _ rfl; have hf52_0 : w54.frozen? ⟨go52, (x34_1 : Int).toNat * 4, none⟩ = false := hfr52 0; have hf52_1 : w54.frozen? ⟨go52, (x34_1 : Int).toNat * 4 + 1, none⟩ = false := hfr52 1
   have hf52_2 : w54.frozen? ⟨go52, (x34_1 : Int).toNat * 4 + 2, none⟩ = false := hfr52 2; have hf52_3 : w54.frozen? ⟨go52, (x34_1 : Int).toNat * 4 + 3, none⟩ = false := hfr52 3; clear hcl52 hcc52 hfr52 hM52; replace p52 := eq_true p52; replace q52 := eq_true q52; have HX55 := aZ (show Kd.R k59 59 w54 w0.heap.size (fun k_ => (P0_ k_ ∨ w.heap.size ≤ k_) ∧ some k_ ≠ (.slice (some ad217) t212.length co23 : Value).ownBlock ∧ some k_ ≠ (.slice (some ad216) t213.length co25 : Value).ownBlock) (.slice (some ⟨go52, 0, none⟩) x0_1.length co14) x0_1 from (lZR HO_0.out)); obtain ⟨ce55, hcl55, hM55, hcc55, hfr55⟩ := Kd.R_elem HX55.out z59 (x34_1 : Int) (of_decide_eq_true tZE) (by have h_ : (x34_1 : Int) < ((x0_1.length : Int) : Int) := of_decide_eq_true tZE; first | exact h_ | (have e_ := (Kd.R_reads' HO_0.out).1; omega) | simpa using h_); obtain rfl := k59_openM hM55
   have HP55 := Kd.R_seg HX55.out (x34_1 : Int) (of_decide_eq_true tZE) (by have h_ : (x34_1 : Int) < ((x0_1.length : Int) : Int) := of_decide_eq_true tZE; first | exact h_ | (have e_ := (Kd.R_reads' HO_0.out).1; omega) | simpa using h_) (seg := [.string ((rd_T59 t212 x7_1).f0), .int .i64 ((rd_T59 t212 x7_1).f1), .int .i64 ((rd_T59 t212 x7_1).f2), .int .i64 ((rd_T59 t212 x7_1).f3)]) (j := 0) hcl55 hcc55 (show 4 ≤ 4 from by decide) (x' := (⟨(rd_T59 t212 x7_1).f0, (rd_T59 t212 x7_1).f1, (rd_T59 t212 x7_1).f2, (rd_T59 t212 x7_1).f3⟩ : S59)) (k59_mkM _ _ _ (⟨(rd_T59 t212 x7_1).f0, (rd_T59 t212 x7_1).f1, (rd_T59 t212 x7_1).f2, (rd_T59 t212 x7_1).f3⟩ : S59) ) (fun _ hk => hk); have hx55_0 := hcc55 0 _ rfl; (try simp only [show (k59).sz = 4 from rfl, Nat.mul_one, Nat.add_zero] at hx55_0); have hf55_0 := hfr55 0; (try simp only [show (k59).sz = 4 from rfl, Nat.mul_one, Nat.add_zero] at hf55_0)
   have hx55_1 := hcc55 1 _ rfl; (try simp only [show (k59).sz = 4 from rfl, Nat.mul_one, Nat.add_zero] at hx55_1); have hf55_1 := hfr55 1; (try simp only [show (k59).sz = 4 from rfl, Nat.mul_one, Nat.add_zero] at hf55_1); have hx55_2 := hcc55 2 _ rfl; (try simp only [show (k59).sz = 4 from rfl, Nat.mul_one, Nat.add_zero] at hx55_2); have hf55_2 := hfr55 2; (try simp only [show (k59).sz = 4 from rfl, Nat.mul_one, Nat.add_zero] at hf55_2); have hx55_3 := hcc55 3 _ rfl; (try simp only [show (k59).sz = 4 from rfl, Nat.mul_one, Nat.add_zero] at hx55_3); have hf55_3 := hfr55 3; (try simp only [show (k59).sz = 4 from rfl, Nat.mul_one, Nat.add_zero] at hf55_3); clear hcl55 hcc55 hfr55 hM55
   try go_wp2_with (first | ((with_reducible refine gate_store (t := 59) (p := 66) rfl ?_); refine store_event (t := 59) (p := 66) (v := ?vo_w56) (w1 := ((((w54.setCell ⟨go52, (x34_1 : Int).toNat * 4, none⟩ (.string ((rd_T59 t212 x7_1).f0))).setCell ⟨go52, (x34_1 : Int).toNat * 4 + 1, none⟩ (.int .i64 ((rd_T59 t212 x7_1).f1))).setCell ⟨go52, (x34_1 : Int).toNat * 4 + 2, none⟩ (.int .i64 ((rd_T59 t212 x7_1).f2))).setCell ⟨go52, (x34_1 : Int).toNat * 4 + 3, none⟩ (.int .i64 ((rd_T59 t212 x7_1).f3)))) ?hg ?ho ?hn ?hr ?_; (case ho => rfl); (case hg => rfl); (case hn => rfl); (case hr => first | (go_simp; done) | (go_simp; rfl)); intro w56 hw; have hg : w54.grownBy w56 (some go52) := (by rw [hw]; exact HP55.2); have hp_ : Kd.R k59 59 w56 w0.heap.size (fun k_ => (P0_ k_ ∨ w.heap.size ≤ k_) ∧ some k_ ≠ (.slice (some ad217) t212.length co23 : Value).ownBlock ∧ some k_ ≠ (.slice (some ad216) t213.length co25 : Value).ownBlock) (.slice (some ⟨go52, 0, none⟩) x0_1.length co14) y222 := (by rw [hw, Ny222.out]; exact HP55.1); clear HP55; replace HO_5 := aZ (Kd.R_after (v := (.slice (some ⟨go52, 0, none⟩) x0_1.length co14)) (v1 := (.slice (some ⟨go52, 0, none⟩) x0_1.length co14)) (ok := (fun k_ => (P0_ k_ ∨ w.heap.size ≤ k_) ∧ some k_ ≠ (.slice (some ad216) t213.length co25 : Value).ownBlock)) (by (with_reducible repeat (first | apply Kd.R_alloc | apply Kd.R_drewN | apply Kd.R_drew)); exact Kd.R_mono HO_5.out (fun _ hk => ⟨⟨hk.1, hk.2.2⟩, hk.2.1⟩)) hg (.inl rfl)); replace HO_6 := aZ (Kd.R_after (v := (.slice (some ⟨go52, 0, none⟩) x0_1.length co14)) (v1 := (.slice (some ⟨go52, 0, none⟩) x0_1.length co14)) (ok := (fun k_ => (P0_ k_ ∨ w.heap.size ≤ k_) ∧ some k_ ≠ (.slice (some ad217) t212.length co23 : Value).ownBlock)) (by (with_reducible repeat (first | apply Kd.R_alloc | apply Kd.R_drewN | apply Kd.R_drew)); exact Kd.R_mono HO_6.out (fun _ hk => ⟨⟨hk.1, hk.2.2⟩, hk.2.1⟩)) hg (.inl rfl)); replace HB := aZ ((by rw [hw]; exact below_set (below_set (below_set (below_set (HB.out) GB52.out) GB52.out) GB52.out) GB52.out : Below w0.heap.size w0 w56)); replace HK := aZ (Kept.of_grown (S := (fun k_ => P0_ k_)) hg (by repeat (first | (with_reducible first | exact HK.out | apply Kept.alloc | apply Kept.drewN | apply Kept.drew) | exact HK.out)) (fun k_ e_ => (HO_0.out.1 k_ e_).1)); replace HO_0 := aZ (hp_); clear hg hw hp_))
   (try simp only [← hl0_1, ← hl5_1, ← hl6_1])
   go_roundg k1
   case measure => have := HK1.out; omega
   case rel => exact ⟨(y222), (wrap64 (x7_1 + 1)), (x8_1), (wrap64 (x34_1 + 1)), tZB, tZB, tZB, H', ⟨by have := HK1.out; omega⟩, ⟨by (try simp only [hl0_1]); (try simp only [hl5_1]); (try simp only [hl6_1]); (with_reducible repeat (first | apply Kd.R_alloc | apply Kd.R_drewN | apply Kd.R_drew)); exact HO_0.out⟩, ⟨by (try simp only [hl0_1]); (try simp only [hl5_1]); (try simp only [hl6_1]); (with_reducible repeat (first | apply Kd.R_alloc | apply Kd.R_drewN | apply Kd.R_drew)); exact Kd.R_mono HO_5.out (fun _ hk => ⟨hk.1.1, ⟨hk.2, hk.1.2⟩⟩)⟩, ⟨by (try simp only [hl0_1]); (try simp only [hl5_1]); (try simp only [hl6_1]); (with_reducible repeat (first | apply Kd.R_alloc | apply Kd.R_drewN | apply Kd.R_drew)); exact Kd.R_mono HO_6.out (fun _ hk => ⟨hk.1.1, ⟨hk.2, hk.1.2⟩⟩)⟩, ⟨by repeat (first | (with_reducible first | exact HK.out | apply Kept.alloc | apply Kept.drewN | apply Kept.drew) | exact HK.out)⟩, ⟨bZ⟩⟩
end Go.Proofs.Ytobbemdkipknnaa.PFnExactTaxReturn
