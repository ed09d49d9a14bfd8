import Derived.Test.YtjnmfadnkbflfaaDPFnExactNeededx0
import Derived.Test.YtjnmfadnkbflfaaDPFnExactNeededx2
import Derived.Test.YtjnmfadnkbflfaaDPFnExactNeededx7
import Derived.Test.YtjnmfadnkbflfaaDPFnExactNeededx13
import Derived.Test.YtjnmfadnkbflfaaDSlimWords
namespace Go.Proofs.Ytjnmfadnkbflfaa.PFnExactNeeded
open Go.Proofs.Ytjnmfadnkbflfaa.SlimWords
open Go.RowKit Go.Proofs.YtjnmfadnkbflfaaW.PrintWords Go.Proofs.YtjnmfadnkbflfaaW.PrintLast Go.Proofs.YtjnmfadnkbflfaaW.PrintMore Go.Proofs.Ytjnmfadnkbflfaa.MapWords Go.Proofs.Ytjnmfadnkbflfaa.IterWords Go.Proofs.Ytjnmfadnkbflfaa.MarkWords
attribute [local go_sem] max2_int min2_int max_two min_two max_three min_three max_four min_four
set_option linter.unusedVariables false
set_option linter.unusedSimpArgs false
private abbrev I' := true
private abbrev O' := false
private abbrev L0' : Array Bool := #[O',O',O',O',O',O',O']
private abbrev L1' : Array Bool := #[I',O',O',O',O',O',O']
private abbrev L2' : Array Bool := #[I',I',O',O',O',O',O']
private abbrev L3' : Array Bool := #[I',I',I',O',O',O',O']
private abbrev L4' : Array Bool := #[I',I',I',O',I',O',O']
private abbrev L5' : Array Bool := #[I',I',I',I',I',O',O']
private abbrev L6' : Array Bool := #[I',I',I',I',I',I',O']
private abbrev L7' : Array Bool := #[I',I',I',I',I',I',I']
mutual
def impl_Needed.j0 : Nat → List (S119) → Int → Bool → Option (List ByteArray)
  | 0, _, _, _ => none
  | k + 1, x0, x1, x18 => if x18 = true then (some ([] : List ByteArray)) else (impl_Needed.l0 k x1 (([] : List ByteArray)) (([] : List ((ByteArray × Bool)))) x0 (x0.length : Int) 0)
def impl_Needed.l0 : Nat → Int → List ByteArray → List ((ByteArray × Bool)) → List (S119) → Int → Int → Option (List ByteArray)
  | 0, _, _, _, _, _, _ => none
  | k + 1, x1, x5, x6, x21, x22, x23 => if x23 < x22 then (if 0 ≤ x23 then (if x23 < (x21.length : Int) then (impl_Needed.l1 k x1 x5 x6 x21 x22 x23 ((rd_T119 x21 x23).f1) (((rd_T119 x21 x23).f1).length : Int) 0 ((rd_T119 x21 x23).f0) ((rd_T119 x21 x23).f1)) else (none)) else (none)) else (some x5)
def impl_Needed.l1 : Nat → Int → List ByteArray → List ((ByteArray × Bool)) → List (S119) → Int → Int → List ByteArray → Int → Int → Int → List ByteArray → Option (List ByteArray)
  | 0, _, _, _, _, _, _, _, _, _, _, _ => none
  | k + 1, x1, x5, x6, x21, x22, x23, x28, x29, x30, x294000, x294001 => if x30 < x29 then (if 0 ≤ x30 then (if x30 < (x28.length : Int) then (if x294000 < x1 then (if (rdOf ByteArray.empty x28 x30).size ≤ 9223372036854775807 then (if (mget false x6 (rdOf ByteArray.empty x28 x30)) = true then (impl_Needed.l1 k x1 x5 x6 x21 x22 x23 x28 x29 (wrap64 (x30 + 1)) x294000 x294001) else (if x6.length < 140737488355328 then (if x5.length < 8796093022208 then (impl_Needed.l1 k x1 (x5 ++ [rdOf ByteArray.empty x28 x30]) ((rdOf ByteArray.empty x28 x30, true) :: x6) x21 x22 x23 x28 x29 (wrap64 (x30 + 1)) x294000 x294001) else (none)) else (none))) else (none)) else (impl_Needed.l1 k x1 x5 x6 x21 x22 x23 x28 x29 (wrap64 (x30 + 1)) x294000 x294001)) else (none)) else (none)) else (impl_Needed.l0 k x1 x5 x6 x21 x22 (wrap64 (x23 + 1)))
end
def impl_Needed.f (k : Nat) (l0 : List (S119)) (a1 : Int) : Option (List ByteArray) := (impl_ShowFlow.f k l0).bind fun t284 => (if t284.toList = ([] : List UInt8) then (impl_Needed.j0 k l0 a1 true) else ((impl_amount.f a1).bind fun t285 => (impl_Needed.j0 k l0 a1 (!t285))))
theorem impl_Needed.mono_l : ∀ k, (∀ y0 y1 y2, LeO (impl_Needed.j0 k y0 y1 y2) (impl_Needed.j0 (k + 1) y0 y1 y2)) ∧ (∀ y0 y1 y2 y3 y4 y5, LeO (impl_Needed.l0 k y0 y1 y2 y3 y4 y5) (impl_Needed.l0 (k + 1) y0 y1 y2 y3 y4 y5)) ∧ (∀ y0 y1 y2 y3 y4 y5 y6 y7 y8 y9 y10, LeO (impl_Needed.l1 k y0 y1 y2 y3 y4 y5 y6 y7 y8 y9 y10) (impl_Needed.l1 (k + 1) y0 y1 y2 y3 y4 y5 y6 y7 y8 y9 y10))
  | 0 => ⟨fun _ _ _ r h => by simp [impl_Needed.j0] at h, fun _ _ _ _ _ _ r h => by simp [impl_Needed.l0] at h, fun _ _ _ _ _ _ _ _ _ _ _ r h => by simp [impl_Needed.l1] at h⟩
  | k + 1 => by
    obtain ⟨ih0, ih1, ih2⟩ := impl_Needed.mono_l k
    refine ⟨?_, ?_, ?_⟩
    · intro y0 y1 y2
      unfold impl_Needed.j0
      repeat' first
      | (with_reducible exact ih0 _ _ _)
      | (with_reducible exact ih1 _ _ _ _ _ _)
      | (with_reducible exact ih2 _ _ _ _ _ _ _ _ _ _ _)
      | (with_reducible exact impl_ShowFlow.mono _ _)
      | (with_reducible exact LeO.refl _)
      | (with_reducible exact LeO.none _)
      | (with_reducible refine LeO.ite ?_ ?_)
      | (with_reducible refine LeO.bind ?_ (fun _ => ?_))
      | exact ih0 _ _ _
      | exact ih1 _ _ _ _ _ _
      | exact ih2 _ _ _ _ _ _ _ _ _ _ _
      | exact impl_ShowFlow.mono _ _
      | exact LeO.none _
      | refine LeO.ite ?_ ?_
      | refine LeO.bind ?_ (fun _ => ?_)
    · intro y0 y1 y2 y3 y4 y5
      unfold impl_Needed.l0
      repeat' first
      | (with_reducible exact ih0 _ _ _)
      | (with_reducible exact ih1 _ _ _ _ _ _)
      | (with_reducible exact ih2 _ _ _ _ _ _ _ _ _ _ _)
      | (with_reducible exact impl_ShowFlow.mono _ _)
      | (with_reducible exact LeO.refl _)
      | (with_reducible exact LeO.none _)
      | (with_reducible refine LeO.ite ?_ ?_)
      | (with_reducible refine LeO.bind ?_ (fun _ => ?_))
      | exact ih0 _ _ _
      | exact ih1 _ _ _ _ _ _
      | exact ih2 _ _ _ _ _ _ _ _ _ _ _
      | exact impl_ShowFlow.mono _ _
      | exact LeO.none _
      | refine LeO.ite ?_ ?_
      | refine LeO.bind ?_ (fun _ => ?_)
    · intro y0 y1 y2 y3 y4 y5 y6 y7 y8 y9 y10
      unfold impl_Needed.l1
      repeat' first
      | (with_reducible exact ih0 _ _ _)
      | (with_reducible exact ih1 _ _ _ _ _ _)
      | (with_reducible exact ih2 _ _ _ _ _ _ _ _ _ _ _)
      | (with_reducible exact impl_ShowFlow.mono _ _)
      | (with_reducible exact LeO.refl _)
      | (with_reducible exact LeO.none _)
      | (with_reducible refine LeO.ite ?_ ?_)
      | (with_reducible refine LeO.bind ?_ (fun _ => ?_))
      | exact ih0 _ _ _
      | exact ih1 _ _ _ _ _ _
      | exact ih2 _ _ _ _ _ _ _ _ _ _ _
      | exact impl_ShowFlow.mono _ _
      | exact LeO.none _
      | refine LeO.ite ?_ ?_
      | refine LeO.bind ?_ (fun _ => ?_)
theorem impl_Needed.mono : ∀ a0 a1 k, LeO (impl_Needed.f k a0 a1) (impl_Needed.f (k + 1) a0 a1) := by
 intro a0 a1 k
 obtain ⟨ih0, ih1, ih2⟩ := impl_Needed.mono_l k
 unfold impl_Needed.f
 repeat' first
     | (with_reducible exact ih0 _ _ _)
     | (with_reducible exact ih1 _ _ _ _ _ _)
     | (with_reducible exact ih2 _ _ _ _ _ _ _ _ _ _ _)
     | (with_reducible exact impl_ShowFlow.mono _ _)
     | (with_reducible exact LeO.refl _)
     | (with_reducible exact LeO.none _)
     | (with_reducible refine LeO.ite ?_ ?_)
     | (with_reducible refine LeO.bind ?_ (fun _ => ?_))
     | exact ih0 _ _ _
     | exact ih1 _ _ _ _ _ _
     | exact ih2 _ _ _ _ _ _ _ _ _ _ _
     | exact impl_ShowFlow.mono _ _
     | exact LeO.none _
     | refine LeO.ite ?_ ?_
     | refine LeO.bind ?_ (fun _ => ?_)
set_option maxHeartbeats 8000000 in
set_option maxRecDepth 100000 in
theorem impl_Needed.calls (k : Nat) (A0 : Option Addr) (c0 : Nat) (l0 : List (S119)) (a1 : Int) (r : List ByteArray) (w : World) (hr0 : Kd.C k119 w A0 l0.length l0) (hc0 : l0.length ≤ c0) (h : impl_Needed.f k l0 a1 = some r) :
    Calls Try.prog 41 #[.slice A0 l0.length c0, .int .i64 a1] w fun e w' => ∃ v0_ : Value, e = .returned (v0_) ∧ Kd.R Kd.string 9 w' w.heap.size (fun _ => True) v0_ r ∧ Below w.heap.size w w' := by
 have hu119 := Try.underlying119
 have HR0 := Aside0.mk hr0
 have HC0 := Aside0.mk hc0
 clear hr0 hc0
 have HB := aZ (Below.refl w.heap.size w)
 have H : ((impl_ShowFlow.f k l0).bind fun t284 => (if t284.toList = ([] : List UInt8) then (impl_Needed.j0 k l0 a1 true) else ((impl_amount.f a1).bind fun t285 => (impl_Needed.j0 k l0 a1 (!t285))))) = some r := h
 clear h
 have HC3 := Aside0.mk H
 clear H
 go_enter Try.func41, Try.ntmps41
 go_upto_region 1 with (fail)
 go_cut [18] (fun v18 wc => ∃ (kq : Nat) (x18_2 : Bool), v18 = .bool x18_2 ∧ Aside0 (impl_Needed.j0 kq l0 a1 x18_2 = some r) ∧ Aside0 (kq ≤ k) ∧ Aside0 (Below w.heap.size w wc))
 case first =>
  have H := HC3.out
  clear HC3
  replace H := Option.bind_eq_some_iff.mp H
  obtain ⟨t284, A40, H⟩ := H
  replace H : (if t284.toList = ([] : List UInt8) then (impl_Needed.j0 k l0 a1 true) else ((impl_amount.f a1).bind fun t285 => (impl_Needed.j0 k l0 a1 (!t285)))) = some r := H
  have A4 := Aside0.mk A40
  clear A40
  by_cases c5 : t284.toList = ([] : List UInt8)
  ·rw [if_pos c5] at H
   have c5b0 : (t284.toList == ([] : List UInt8)) = true := beq_iff_eq.mpr c5
   have c5b1 : (t284.toList != ([] : List UInt8)) = false := bne_eq_false_iff_eq.mpr c5
   clear c5
   (first | rw [c5b0] | (simp only [i64_w, i32_w]; rw [c5b0]) | skip)
   have H' := Aside0.mk H
   clear H
   go_wp2_with (first | ((with_reducible refine gate_callee (f := 25) rfl ?_); refine goesL_ (some 12) rfl rfl Try.func25 kZ rfl #[.slice A0 l0.length c0] rfl tZA ?_; (with_reducible refine (impl_ShowFlow.calls k _ _ l0 t284 _ ?side1 ?side2 A4.out).mono ?_); (case side1 => repeat (first | exact (Kd.C_below HR0.out HB.out) | (with_reducible refine Kd.C_alloc ?_ _) | (with_reducible refine Kd.C_drewN ?_ _) | (with_reducible refine Kd.C_drew ?_))); (case side2 => exact HC0.out); rintro e w6 ⟨rfl, hb⟩; refine ⟨_, rfl, ?_⟩; replace HB := aZ (below_step (lZB HB.out) hb); (try clear hb); (try clear hb2); (try clear hk); (try clear hi)))
   go_meet
   case rel => exact ⟨_, (true), tZB, H', ⟨by first | omega | exact Nat.le_refl _⟩, ⟨bZ⟩⟩
  rw [if_neg c5] at H
  have c5b0 : (t284.toList == ([] : List UInt8)) = false := beq_eq_false_iff_ne.mpr c5
  have c5b1 : (t284.toList != ([] : List UInt8)) = true := bne_iff_ne.mpr c5
  (first | rw [c5b0] | (simp only [i64_w, i32_w]; rw [c5b0]) | skip)
  replace H := Option.bind_eq_some_iff.mp H
  obtain ⟨t285, A70, H⟩ := H
  replace H : (impl_Needed.j0 k l0 a1 (!t285)) = some r := H
  have A7 := Aside0.mk A70
  clear A70
  have H' := Aside0.mk H
  clear H
  go_wp2_with (first | ((with_reducible refine gate_callee (f := 25) rfl ?_); refine goesL_ (some 12) rfl rfl Try.func25 kZ rfl #[.slice A0 l0.length c0] rfl tZA ?_; (with_reducible refine (impl_ShowFlow.calls k _ _ l0 t284 _ ?side1 ?side2 A4.out).mono ?_); (case side1 => repeat (first | exact (Kd.C_below HR0.out HB.out) | (with_reducible refine Kd.C_alloc ?_ _) | (with_reducible refine Kd.C_drewN ?_ _) | (with_reducible refine Kd.C_drew ?_))); (case side2 => exact HC0.out); rintro e w8 ⟨rfl, hb⟩; refine ⟨_, rfl, ?_⟩; replace HB := aZ (below_step (lZB HB.out) hb); (try clear hb); (try clear hb2); (try clear hk); (try clear hi)) | (go_at_call 103; (with_reducible refine (impl_amount.calls a1 t285 _ A7.out).mono ?_); rintro e w' ⟨rfl, ⟨nd, rfl⟩⟩))
  go_meet
  case rel => exact ⟨_, (!t285), tZB, H', ⟨by first | omega | exact Nat.le_refl _⟩, ⟨bZ⟩⟩
 case rest =>
  clear HC3
  try clear c2
  try clear p2
  try clear c4
  try clear c5
  try clear c5b0
  try clear c5b1
  obtain ⟨kq, x18_2, rfl, HA, HJ2, HB⟩ := hcut
  cases kq with
  | zero => exact absurd HA.out (by simp [impl_Needed.j0])
  | succ kj2 =>
   have H := HA.out
   clear HA
   simp only [impl_Needed.j0] at H
   by_cases c9 : x18_2 = true
   ·subst c9
    have H1 : (some ([] : List ByteArray)) = some r := by rw [if_pos rfl] at H; exact H
    clear H
    have H := H1
    clear H1
    obtain rfl := Option.some.inj H
    go_wp2
    go_ret
    exact ⟨_, tZC, by first | exact Kd.R_nil _ _ _ _ _ | exact Kd.N_nil _ _ _ _ _ | exact Kd.V_nil _ _ _ _ _ | exact Kd.Q_nil _ _ _ _ _ | exact Kd.S_nil _ _ _ _ _, bZ⟩
   replace c9 := Bool.eq_false_iff.mpr c9
   subst c9
   have H1 : (impl_Needed.l0 kj2 a1 (([] : List ByteArray)) (([] : List ((ByteArray × Bool)))) l0 (l0.length : Int) 0) = some r := by rw [if_neg (show ¬ (false = true) by decide)] at H; exact H
   clear H
   have H := H1
   clear H1
   obtain ⟨y286, hy286⟩ : ∃ y_ : List ByteArray, y_ = (([] : List ByteArray)) := ⟨_, rfl⟩
   replace H : (impl_Needed.l0 kj2 a1 y286 (([] : List ((ByteArray × Bool)))) l0 (l0.length : Int) 0) = some r := by first | (rw [hy286]; with_reducible exact H) | (have H2_ := (Option.bind_some _ _).symm.trans H; rw [hy286]; with_reducible exact H2_) | (have H2_ := (Option.bind_some _ _).symm.trans H; with_reducible exact H2_) | with_reducible exact H | (rw [hy286]; exact H) | exact H
   have Ny286 := Aside0.mk hy286
   clear hy286
   obtain ⟨y289, hy289⟩ : ∃ y_ : List ((ByteArray × Bool)), y_ = (([] : List ((ByteArray × Bool)))) := ⟨_, rfl⟩
   replace H : (impl_Needed.l0 kj2 a1 y286 y289 l0 (l0.length : Int) 0) = some r := by first | (rw [hy289]; with_reducible exact H) | (have H2_ := (Option.bind_some _ _).symm.trans H; rw [hy289]; with_reducible exact H2_) | (have H2_ := (Option.bind_some _ _).symm.trans H; with_reducible exact H2_) | with_reducible exact H | (rw [hy289]; exact H) | exact H
   have Ny289 := Aside0.mk hy289
   clear hy289
   have H' := Aside0.mk H
   clear H
   go_wp2_with (first | ((with_reducible refine gate_dst (N := 19) rfl ?_); refine Kd.R_lit Kd.string _ 9 ?hg (N := 19) ?hd (xs := ([] : List ByteArray)) (inner := []) (ok := fun _ => True) (okp := fun _ => True) ?hr ?hp (fun _ hk => hk) trivial (Below.refl _ _) (Nat.le_refl _) (by simp) ?_; (case hd => rfl); (case hg => rfl); (case hr => first | (go_simp; done) | (go_simp; rfl)); (case hp => exact (Reps.none _ _)); intro v287 w10 ho11 hb hg_ hnew_; clear hg_ hnew_; (first | rw [← Ny286.out] at ho11 | (simp only [Int.reduceToNat] at ho11; rw [← Ny286.out] at ho11)); have HO288 := aZ (Kd.R_lower ho11 (below_size (lZB HB.out))); replace HB := aZ (below_step (lZB HB.out) hb); clear hb ho11) | ((with_reducible refine gate_dst (N := 20) rfl ?_); refine Kd.Y_make my144 144 rfl rfl rfl ?_; intro v290 w12 ho13 hb; rw [← Ny289.out] at ho13; replace HO288 := aZ (Kd.R_below (lZR HO288.out) hb); have HO291 := aZ (Kd.Y_lower ho13 (below_size (lZB HB.out))); replace HB := aZ (below_step (lZB HB.out) hb); clear hb ho13))
   go_loopg [5, 23] kj2 (fun kq v5 v23 w' => ∃ (x5_2 : List ByteArray) (x6_2 : List ((ByteArray × Bool))) (x23_2 : Int), v23 = .int .i64 x23_2 ∧ Aside0 (impl_Needed.l0 kq a1 x5_2 x6_2 l0 (l0.length : Int) x23_2 = some r) ∧ Aside0 (kq ≤ kj2) ∧ Aside0 (Kd.R Kd.string 9 w' w.heap.size (fun _ => True) v5 x5_2) ∧ Aside0 (Kd.Y my144 144 w' w.heap.size (fun _ => True) v290 x6_2) ∧ Aside0 (Below w.heap.size w w'))
   case atStart => exact ⟨(y286), (y289), (0), tZB, H', ⟨Nat.le_refl _⟩, ⟨lZR HO288.out⟩, ⟨lZY HO291.out⟩, ⟨bZ⟩⟩
   case round =>
    clear H'
    try clear c2
    try clear p2
    try clear c4
    try clear c5
    try clear c5b0
    try clear c5b1
    try clear c9
    try clear p2
    obtain ⟨x5_2, x6_2, x23_2, rfl, HA, HK2, HO_5, HO_6, HB⟩ := hrel
    cases gk with
    | zero => exact absurd HA.out (by simp [impl_Needed.l0])
    | succ k2 =>
     have H := HA.out
     clear HA
     simp only [impl_Needed.l0] at H
     by_cases c14 : x23_2 < (l0.length : Int)
     rotate_left
     ·rw [if_neg c14] at H
      have c14b0 := decide_eq_false c14
      clear c14
      obtain rfl := Option.some.inj H
      go_wp2
      go_ret
      exact ⟨_, tZC, lZR HO_5.out, bZ⟩
     rw [if_pos c14] at H
     have c14b0 := decide_eq_true c14
     clear c14
     by_cases c15 : 0 ≤ x23_2
     rotate_left
     ·rw [if_neg c15] at H
      exact absurd H (by simp)
     rw [if_pos c15] at H
     have c15b0 := decide_eq_true c15
     clear c15
     by_cases c16 : x23_2 < (l0.length : Int)
     rotate_left
     ·rw [if_neg c16] at H
      exact absurd H (by simp)
     rw [if_pos c16] at H
     have c16b0 := decide_eq_true c16
     clear c16
     have H' := Aside0.mk H
     clear H
     have p292 : 0 ≤ (x23_2 : Int) := of_decide_eq_true tZE
     have q292 : x23_2 < (l0.length : Int) := of_decide_eq_true tZE
     obtain ⟨ad292, A292_1, c292_1, e292, hx292_0, hx292_1, hl292_1, hi292_1⟩ := at_T119 HR0.out x23_2 p292 q292
     cases e292
     replace hx292_0 := cZ HB hx292_0
     replace hx292_1 := cZ HB hx292_1
     have HR292_1 := Aside0.mk hi292_1
     have HC292_1 := Aside0.mk hl292_1
     clear hi292_1 hl292_1
     replace p292 := eq_true p292
     replace q292 := eq_true q292
     go_wp2_with (first | ((with_reducible refine gate_dst (N := 8) rfl ?_); refine box_event ?hg (N := 8) ?hd (cs := #[.int .i64 0, .slice none 0 0]) (t := 119) ?hr ?_; (case hd => rfl); (case hg => rfl); (case hr => first | (go_simp; done) | (go_simp; rfl)); intro gb293 hg w17 hbox hb; replace HO_5 := aZ (Kd.R_below (lZR HO_5.out) hb); replace HO_6 := aZ (Kd.Y_below (lZY HO_6.out) hb); have BK293 := aZ (hbox); have GW293 := aZ ((by rw [hg]; exact (below_size (lZB HB.out)) : w.heap.size ≤ gb293)); have GE293 := aZ ((by rw [hg]; exact (below_size (lZB HB.out)) : w.heap.size ≤ gb293)); replace HB := aZ (below_step (lZB HB.out) hb); clear hb hbox hg; have hcz18_0 : w17.cell? ⟨gb293, 0, none⟩ = some (.int .i64 0) := (blk_cell BK293.out 0).trans rfl; have hcz18_1 : w17.cell? ⟨gb293, 1, none⟩ = some (.slice none 0 0) := (blk_cell BK293.out 1).trans rfl; have hfz18_0 := blk_frozen BK293.out 0; have hfz18_1 := blk_frozen BK293.out 1))
     go_loopg [5, 30] k2 (fun kq v5 v30 w' => ∃ (x5_3 : List ByteArray) (x6_3 : List ((ByteArray × Bool))) (x30_3 : Int), v30 = .int .i64 x30_3 ∧ Aside0 (impl_Needed.l1 kq a1 x5_3 x6_3 l0 (l0.length : Int) x23_2 ((rd_T119 l0 x23_2).f1) (((rd_T119 l0 x23_2).f1).length : Int) x30_3 ((rd_T119 l0 x23_2).f0) ((rd_T119 l0 x23_2).f1) = some r) ∧ Aside0 (kq ≤ k2) ∧ Aside0 (Kd.R Kd.string 9 w' w.heap.size (fun _ => True) v5 x5_3) ∧ Aside0 (Kd.Y my144 144 w' w.heap.size (fun _ => True) v290 x6_3) ∧ Aside0 (w'.heap[gb293]? = some (.cells #[.int .i64 ((rd_T119 l0 x23_2).f0), (.slice A292_1 ((rd_T119 l0 x23_2).f1).length c292_1)] 119 (0, 0))) ∧ Aside0 (Below w.heap.size w w'))
     case atStart => exact ⟨(x5_2), (x6_2), (0), tZB, H', ⟨Nat.le_refl _⟩, ⟨by (with_reducible repeat (first | apply Kd.R_alloc | apply Kd.R_drewN | apply Kd.R_drew)); exact Kd.R_mono (Kd.R_far (p := ⟨gb293, 1, none⟩) (Kd.R_far (p := ⟨gb293, 0, none⟩) (Kd.R_types HO_5.out BK293.out (by decide)) (fun _ hk => hk.2) (.int .i64 ((rd_T119 l0 x23_2).f0))) (fun _ hk => hk.2) (.slice A292_1 ((rd_T119 l0 x23_2).f1).length c292_1)) (fun _ hk => trivial)⟩, ⟨by (with_reducible repeat (first | apply Kd.Y_alloc | apply Kd.Y_drewN | apply Kd.Y_drew)); exact Kd.Y_mono (Kd.Y_far (p := ⟨gb293, 1, none⟩) (Kd.Y_far (p := ⟨gb293, 0, none⟩) (Kd.Y_types HO_6.out BK293.out (by decide)) (fun _ hk => hk.2) (.int .i64 ((rd_T119 l0 x23_2).f0))) (fun _ hk => hk.2) (.slice A292_1 ((rd_T119 l0 x23_2).f1).length c292_1)) (fun _ hk => trivial)⟩, ⟨by (with_reducible repeat (first | refine blk_drewN ?_ _ | refine blk_drew ?_ | refine blk_alloc ?_ _)); refine blk_put (cs := #[.int .i64 ((rd_T119 l0 x23_2).f0), .slice none 0 0]) ?_ 1 _ rfl; (with_reducible repeat (first | refine blk_drewN ?_ _ | refine blk_drew ?_ | refine blk_alloc ?_ _)); refine blk_put (cs := #[.int .i64 0, .slice none 0 0]) ?_ 0 _ rfl; (with_reducible repeat (first | refine blk_drewN ?_ _ | refine blk_drew ?_ | refine blk_alloc ?_ _)); exact BK293.out⟩, ⟨bZ⟩⟩
     case round =>
      clear H'
      try clear c1
      try clear c2
      try clear p2
      try clear q2
      try clear hx2
      try clear c4
      try clear c5
      try clear c5b0
      try clear c5b1
      try clear c9
      try clear c14
      try clear c14b0
      try clear c15
      try clear c15b0
      try clear c16
      try clear c16b0
      try clear hcz18_0
      try clear hcz18_1
      try clear hfz18_0
      try clear hfz18_1
      try clear hx292_0
      try clear hx292_1
      try clear p2
      try clear p292
      try clear q292
      obtain ⟨x5_3, x6_3, x30_3, rfl, HA, HK3, HO_5, HO_6, BK293, HB⟩ := hrel
      cases gk with
      | zero => exact absurd HA.out (by simp [impl_Needed.l1])
      | succ k3 =>
       have H := HA.out
       clear HA
       simp only [impl_Needed.l1] at H
       by_cases c19 : x30_3 < (((rd_T119 l0 x23_2).f1).length : Int)
       rotate_left
       ·rw [if_neg c19] at H
        have c19b0 := decide_eq_false c19
        clear c19
        have H' := Aside0.mk H
        clear H
        go_wp2
        go_roundg k3
        case measure => have := HJ2.out; have := HK2.out; have := HK3.out; omega
        case rel => exact ⟨(x5_3), (x6_3), (wrap64 (x23_2 + 1)), tZB, H', ⟨by have := HJ2.out; have := HK2.out; have := HK3.out; omega⟩, ⟨lZR HO_5.out⟩, ⟨lZY HO_6.out⟩, ⟨bZ⟩⟩
       rw [if_pos c19] at H
       have c19b0 := decide_eq_true c19
       clear c19
       by_cases c20 : 0 ≤ x30_3
       rotate_left
       ·rw [if_neg c20] at H
        exact absurd H (by simp)
       rw [if_pos c20] at H
       have c20b0 := decide_eq_true c20
       clear c20
       by_cases c21 : x30_3 < (((rd_T119 l0 x23_2).f1).length : Int)
       rotate_left
       ·rw [if_neg c21] at H
        exact absurd H (by simp)
       rw [if_pos c21] at H
       have c21b0 := decide_eq_true c21
       clear c21
       by_cases c22 : ((rd_T119 l0 x23_2).f0) < a1
       rotate_left
       ·rw [if_neg c22] at H
        have c22b0 := decide_eq_false c22
        clear c22
        have H' := Aside0.mk H
        clear H
        have p294 : 0 ≤ (x30_3 : Int) := of_decide_eq_true tZE
        have q294 : x30_3 < (((rd_T119 l0 x23_2).f1).length : Int) := of_decide_eq_true tZE
        obtain ⟨ad294, e294, hx294_0⟩ := Kd.at_string HR292_1.out x30_3 p294 q294
        cases e294
        replace hx294_0 := cZ HB hx294_0
        replace p294 := eq_true p294
        replace q294 := eq_true q294
        have hcz33_0 : wr.cell? ⟨gb293, 0, none⟩ = some (.int .i64 ((rd_T119 l0 x23_2).f0)) := (blk_cell BK293.out 0).trans rfl
        have hcz33_1 : wr.cell? ⟨gb293, 1, none⟩ = some (.slice (some ad294) ((rd_T119 l0 x23_2).f1).length c292_1) := (blk_cell BK293.out 1).trans rfl
        have hfz33_0 := blk_frozen BK293.out 0
        have hfz33_1 := blk_frozen BK293.out 1
        go_wp2
        go_roundg k3
        case measure => have := HJ2.out; have := HK2.out; have := HK3.out; omega
        case rel => exact ⟨(x5_3), (x6_3), (wrap64 (x30_3 + 1)), tZB, H', ⟨by have := HJ2.out; have := HK2.out; have := HK3.out; omega⟩, ⟨lZR HO_5.out⟩, ⟨lZY HO_6.out⟩, ⟨bkZ BK293.out⟩, ⟨bZ⟩⟩
       rw [if_pos c22] at H
       have c22b0 := decide_eq_true c22
       clear c22
       by_cases c23 : (rdOf ByteArray.empty ((rd_T119 l0 x23_2).f1) x30_3).size ≤ 9223372036854775807
       rotate_left
       ·rw [if_neg c23] at H
        exact absurd H (by simp)
       rw [if_pos c23] at H
       have c23b0 := eq_true c23
       have c23b1 := decide_eq_true c23
       try have c23b2 := eq_false (Nat.not_lt.2 c23)
       clear c23
       obtain ⟨y295, hy295⟩ : ∃ y_ : Bool, y_ = (mget false x6_3 (rdOf ByteArray.empty ((rd_T119 l0 x23_2).f1) x30_3)) := ⟨_, rfl⟩
       replace H : (if y295 = true then (impl_Needed.l1 k3 a1 x5_3 x6_3 l0 (l0.length : Int) x23_2 ((rd_T119 l0 x23_2).f1) (((rd_T119 l0 x23_2).f1).length : Int) (wrap64 (x30_3 + 1)) ((rd_T119 l0 x23_2).f0) ((rd_T119 l0 x23_2).f1)) else (if x6_3.length < 140737488355328 then (if x5_3.length < 8796093022208 then (impl_Needed.l1 k3 a1 (x5_3 ++ [rdOf ByteArray.empty ((rd_T119 l0 x23_2).f1) x30_3]) ((rdOf ByteArray.empty ((rd_T119 l0 x23_2).f1) x30_3, true) :: x6_3) l0 (l0.length : Int) x23_2 ((rd_T119 l0 x23_2).f1) (((rd_T119 l0 x23_2).f1).length : Int) (wrap64 (x30_3 + 1)) ((rd_T119 l0 x23_2).f0) ((rd_T119 l0 x23_2).f1)) else (none)) else (none))) = some r := by first | (rw [hy295]; with_reducible exact H) | (have H2_ := (Option.bind_some _ _).symm.trans H; rw [hy295]; with_reducible exact H2_) | (have H2_ := (Option.bind_some _ _).symm.trans H; with_reducible exact H2_) | with_reducible exact H | (rw [hy295]; exact H) | exact H
       have Ny295 := Aside0.mk hy295
       clear hy295
       by_cases c24 : y295 = true
       ·subst c24
        have H1 : (impl_Needed.l1 k3 a1 x5_3 x6_3 l0 (l0.length : Int) x23_2 ((rd_T119 l0 x23_2).f1) (((rd_T119 l0 x23_2).f1).length : Int) (wrap64 (x30_3 + 1)) ((rd_T119 l0 x23_2).f0) ((rd_T119 l0 x23_2).f1)) = some r := by rw [if_pos rfl] at H; exact H
        clear H
        have H := H1
        clear H1
        have H' := Aside0.mk H
        clear H
        have p294 : 0 ≤ (x30_3 : Int) := of_decide_eq_true tZE
        have q294 : x30_3 < (((rd_T119 l0 x23_2).f1).length : Int) := of_decide_eq_true tZE
        obtain ⟨ad294, e294, hx294_0⟩ := Kd.at_string HR292_1.out x30_3 p294 q294
        cases e294
        replace hx294_0 := cZ HB hx294_0
        replace p294 := eq_true p294
        replace q294 := eq_true q294
        have hcz25_0 : wr.cell? ⟨gb293, 0, none⟩ = some (.int .i64 ((rd_T119 l0 x23_2).f0)) := (blk_cell BK293.out 0).trans rfl
        have hcz25_1 : wr.cell? ⟨gb293, 1, none⟩ = some (.slice (some ad294) ((rd_T119 l0 x23_2).f1).length c292_1) := (blk_cell BK293.out 1).trans rfl
        have hfz25_0 := blk_frozen BK293.out 0
        have hfz25_1 := blk_frozen BK293.out 1
        have hcv26 := Kd.Y_get (e := 144) (HO_6.out) (rdOf ByteArray.empty ((rd_T119 l0 x23_2).f1) x30_3) (show okS _ from ((of_decide_eq_true tZE) : (rdOf ByteArray.empty ((rd_T119 l0 x23_2).f1) x30_3).size ≤ 9223372036854775807))
        have hcv26d := fun n_ => Kd.Y_get (e := 144) (Kd.Y_drewN (HO_6.out) n_) (rdOf ByteArray.empty ((rd_T119 l0 x23_2).f1) x30_3) (show okS _ from ((of_decide_eq_true tZE) : (rdOf ByteArray.empty ((rd_T119 l0 x23_2).f1) x30_3).size ≤ 9223372036854775807))
        have hcv26e := fun m_ n_ => Kd.Y_get (e := 144) (Kd.Y_drewN (Kd.Y_drewN (HO_6.out) m_) n_) (rdOf ByteArray.empty ((rd_T119 l0 x23_2).f1) x30_3) (show okS _ from ((of_decide_eq_true tZE) : (rdOf ByteArray.empty ((rd_T119 l0 x23_2).f1) x30_3).size ≤ 9223372036854775807))
        simp only [my144, mkSB, mkSI, mkIB, mkII] at hcv26 hcv26d hcv26e
        rw [← Ny295.out] at hcv26 hcv26d hcv26e
        go_wp2
        go_roundg k3
        case measure => have := HJ2.out; have := HK2.out; have := HK3.out; omega
        case rel => exact ⟨(x5_3), (x6_3), (wrap64 (x30_3 + 1)), tZB, H', ⟨by have := HJ2.out; have := HK2.out; have := HK3.out; omega⟩, ⟨lZR HO_5.out⟩, ⟨lZY HO_6.out⟩, ⟨bkZ BK293.out⟩, ⟨bZ⟩⟩
       replace c24 := Bool.eq_false_iff.mpr c24
       subst c24
       have H1 : (if x6_3.length < 140737488355328 then (if x5_3.length < 8796093022208 then (impl_Needed.l1 k3 a1 (x5_3 ++ [rdOf ByteArray.empty ((rd_T119 l0 x23_2).f1) x30_3]) ((rdOf ByteArray.empty ((rd_T119 l0 x23_2).f1) x30_3, true) :: x6_3) l0 (l0.length : Int) x23_2 ((rd_T119 l0 x23_2).f1) (((rd_T119 l0 x23_2).f1).length : Int) (wrap64 (x30_3 + 1)) ((rd_T119 l0 x23_2).f0) ((rd_T119 l0 x23_2).f1)) else (none)) else (none)) = some r := by rw [if_neg (show ¬ (false = true) by decide)] at H; exact H
       clear H
       have H := H1
       clear H1
       by_cases c27 : x6_3.length < 140737488355328
       rotate_left
       ·rw [if_neg c27] at H
        exact absurd H (by simp)
       rw [if_pos c27] at H
       have LMc27 := Aside0.mk c27
       clear c27
       obtain ⟨y296, hy296⟩ : ∃ y_ : List ((ByteArray × Bool)), y_ = ((rdOf ByteArray.empty ((rd_T119 l0 x23_2).f1) x30_3, true) :: x6_3) := ⟨_, rfl⟩
       replace H : (if x5_3.length < 8796093022208 then (impl_Needed.l1 k3 a1 (x5_3 ++ [rdOf ByteArray.empty ((rd_T119 l0 x23_2).f1) x30_3]) y296 l0 (l0.length : Int) x23_2 ((rd_T119 l0 x23_2).f1) (((rd_T119 l0 x23_2).f1).length : Int) (wrap64 (x30_3 + 1)) ((rd_T119 l0 x23_2).f0) ((rd_T119 l0 x23_2).f1)) else (none)) = some r := by first | (rw [hy296]; with_reducible exact H) | (have H2_ := (Option.bind_some _ _).symm.trans H; rw [hy296]; with_reducible exact H2_) | (have H2_ := (Option.bind_some _ _).symm.trans H; with_reducible exact H2_) | with_reducible exact H | (rw [hy296]; exact H) | exact H
       have Ny296 := Aside0.mk hy296
       clear hy296
       by_cases c28 : x5_3.length < 8796093022208
       rotate_left
       ·rw [if_neg c28] at H
        exact absurd H (by simp)
       rw [if_pos c28] at H
       have LMc28 := Aside0.mk c28
       clear c28
       obtain ⟨y298, hy298⟩ : ∃ y_ : List ByteArray, y_ = (x5_3 ++ [rdOf ByteArray.empty ((rd_T119 l0 x23_2).f1) x30_3]) := ⟨_, rfl⟩
       replace H : (impl_Needed.l1 k3 a1 y298 y296 l0 (l0.length : Int) x23_2 ((rd_T119 l0 x23_2).f1) (((rd_T119 l0 x23_2).f1).length : Int) (wrap64 (x30_3 + 1)) ((rd_T119 l0 x23_2).f0) ((rd_T119 l0 x23_2).f1)) = some r := by first | (rw [hy298]; with_reducible exact H) | (have H2_ := (Option.bind_some _ _).symm.trans H; rw [hy298]; with_reducible exact H2_) | (have H2_ := (Option.bind_some _ _).symm.trans H; with_reducible exact H2_) | with_reducible exact H | (rw [hy298]; exact H) | exact H
       have Ny298 := Aside0.mk hy298
       clear hy298
       have H' := Aside0.mk H
       clear H
       have p294 : 0 ≤ (x30_3 : Int) := of_decide_eq_true tZE
       have q294 : x30_3 < (((rd_T119 l0 x23_2).f1).length : Int) := of_decide_eq_true tZE
       obtain ⟨ad294, e294, hx294_0⟩ := Kd.at_string HR292_1.out x30_3 p294 q294
       cases e294
       replace hx294_0 := cZ HB hx294_0
       replace p294 := eq_true p294
       replace q294 := eq_true q294
       have hcz29_0 : wr.cell? ⟨gb293, 0, none⟩ = some (.int .i64 ((rd_T119 l0 x23_2).f0)) := (blk_cell BK293.out 0).trans rfl
       have hcz29_1 : wr.cell? ⟨gb293, 1, none⟩ = some (.slice (some ad294) ((rd_T119 l0 x23_2).f1).length c292_1) := (blk_cell BK293.out 1).trans rfl
       have hfz29_0 := blk_frozen BK293.out 0
       have hfz29_1 := blk_frozen BK293.out 1
       have hcv30 := Kd.Y_get (e := 144) (HO_6.out) (rdOf ByteArray.empty ((rd_T119 l0 x23_2).f1) x30_3) (show okS _ from ((of_decide_eq_true tZE) : (rdOf ByteArray.empty ((rd_T119 l0 x23_2).f1) x30_3).size ≤ 9223372036854775807))
       have hcv30d := fun n_ => Kd.Y_get (e := 144) (Kd.Y_drewN (HO_6.out) n_) (rdOf ByteArray.empty ((rd_T119 l0 x23_2).f1) x30_3) (show okS _ from ((of_decide_eq_true tZE) : (rdOf ByteArray.empty ((rd_T119 l0 x23_2).f1) x30_3).size ≤ 9223372036854775807))
       have hcv30e := fun m_ n_ => Kd.Y_get (e := 144) (Kd.Y_drewN (Kd.Y_drewN (HO_6.out) m_) n_) (rdOf ByteArray.empty ((rd_T119 l0 x23_2).f1) x30_3) (show okS _ from ((of_decide_eq_true tZE) : (rdOf ByteArray.empty ((rd_T119 l0 x23_2).f1) x30_3).size ≤ 9223372036854775807))
       simp only [my144, mkSB, mkSI, mkIB, mkII] at hcv30 hcv30d hcv30e
       rw [← Ny295.out] at hcv30 hcv30d hcv30e
       go_wp2_with (first | ((with_reducible refine Kd.gate_mupd (t := 144) (p := (.tmp 44)) (x := (.tmp 45)) (y := (.const (.bool true))) rfl ?_); refine Kd.Y_put my144 (t := 144) (base := w.heap.size) (ok := (fun _ => True)) rfl rfl (.tmp 44) (.tmp 45) (.const (.bool true)) rfl rfl v290 x6_3 (rdOf ByteArray.empty ((rd_T119 l0 x23_2).f1) x30_3) true rfl (by first | rfl | (go_simp; done) | (go_simp; rfl)) (by first | rfl | (go_simp; done) | (go_simp; rfl)) ?aO (show okS _ from ((of_decide_eq_true tZE) : (rdOf ByteArray.empty ((rd_T119 l0 x23_2).f1) x30_3).size ≤ 9223372036854775807)) trivial LMc27.out ?_; (case aO => exact (lZY HO_6.out)); intro w31 ho hg; rw [← Ny296.out] at ho; replace HO_5 := aZ (Kd.R_turn (e := 144) (lZR HO_5.out) (lZY HO_6.out) hg); replace BK293 := aZ (Kd.blk_turn (e := 144) (bkZ BK293.out) (lZY HO_6.out) hg); replace HB := aZ (Kd.below_turn (e := 144) (lZY HO_6.out) bZ (Nat.le_refl _) hg); have HO297 := aZ (ho); clear HO_6; clear ho hg) | ((with_reducible refine gate_builtin (b := .append) (xs := #[.tmp 46, .tmp 48]) rfl ?_); at_builtin; refine Kd.R_append Kd.string (w0 := w) w.heap.size rfl (.tmp 46) (.tmp 48) 64 9 (.string ⟨#[]⟩) 16 rfl Try.underlying64 info9 rfl (by decide) (by omega) u5 x5_3 (rdOf ByteArray.empty ((rd_T119 l0 x23_2).f1) x30_3) [.string (rdOf ByteArray.empty ((rd_T119 l0 x23_2).f1) x30_3)] (fun _ => True) (fun _ => False) rfl rfl ?aP (fun _ hk => hk.elim) ?aF ?aO ?aB ?aS ?aL ?_; (case aP => exact rfl); (case aB => exact bZ); (case aF => exact (fun _ _ => trivial)); (case aO => exact (lZR HO_5.out)); (case aS => exact (below_size bZ)); (case aL => have := LMc28.out; omega); intro v299 w32 ho hb hg hat; rw [← Ny298.out] at ho; replace BK293 := aZ (blk_grown (bkZ BK293.out) hg (Kd.R_ne HO_5.out BK293.out (by decide))); replace HO297 := aZ (Kd.Y_over' (lZY HO297.out) (Kd.R_typed (lZR HO_5.out)) (by decide) hg); replace HB := aZ (hb); have HO300 := aZ (ho); clear HO_5; clear ho hb hg hat))
       go_roundg k3
       case measure => have := HJ2.out; have := HK2.out; have := HK3.out; omega
       case rel => exact ⟨(y298), (y296), (wrap64 (x30_3 + 1)), tZB, H', ⟨by have := HJ2.out; have := HK2.out; have := HK3.out; omega⟩, ⟨lZR HO300.out⟩, ⟨lZY HO297.out⟩, ⟨bkZ BK293.out⟩, ⟨bZ⟩⟩
def laws_heldStringS.l0 : Nat → List ByteArray → Int → Int → Option (Int)
  | 0, _, _, _ => none
  | k + 1, x0, x1, x5 => if x5 < (x0.length : Int) then (if 0 ≤ x5 then ((laws_markText.f k x1).bind fun t302 => (if (rdOf ByteArray.empty x0 x5).toList = t302.toList then (laws_heldStringS.l0 k x0 (wrap64 (x1 + 1)) (wrap64 (x5 + 1))) else (some (-1)))) else (none)) else (some x1)
def laws_heldStringS.f (k : Nat) (l0 : List ByteArray) (a1 : Int) : Option (Int) := laws_heldStringS.l0 k l0 a1 0
theorem laws_heldStringS.mono_l : ∀ k, (∀ y0 y1 y2, LeO (laws_heldStringS.l0 k y0 y1 y2) (laws_heldStringS.l0 (k + 1) y0 y1 y2))
  | 0 => fun _ _ _ r h => by simp [laws_heldStringS.l0] at h
  | k + 1 => by
    have ih0 := laws_heldStringS.mono_l k
    · intro y0 y1 y2
      unfold laws_heldStringS.l0
      repeat' first
      | (with_reducible exact ih0 _ _ _)
      | (with_reducible exact laws_markText.mono _ _)
      | (with_reducible exact LeO.refl _)
      | (with_reducible exact LeO.none _)
      | (with_reducible refine LeO.ite ?_ ?_)
      | (with_reducible refine LeO.bind ?_ (fun _ => ?_))
      | exact ih0 _ _ _
      | exact laws_markText.mono _ _
      | exact LeO.none _
      | refine LeO.ite ?_ ?_
      | refine LeO.bind ?_ (fun _ => ?_)
theorem laws_heldStringS.mono : ∀ a0 a1 k, LeO (laws_heldStringS.f k a0 a1) (laws_heldStringS.f (k + 1) a0 a1) := by
 intro a0 a1 k
 have ih0 := laws_heldStringS.mono_l k
 unfold laws_heldStringS.f
 repeat' first
     | (with_reducible exact ih0 _ _ _)
     | (with_reducible exact laws_markText.mono _ _)
     | (with_reducible exact LeO.refl _)
     | (with_reducible exact LeO.none _)
     | (with_reducible refine LeO.ite ?_ ?_)
     | (with_reducible refine LeO.bind ?_ (fun _ => ?_))
     | exact ih0 _ _ _
     | exact laws_markText.mono _ _
     | exact LeO.none _
     | refine LeO.ite ?_ ?_
     | refine LeO.bind ?_ (fun _ => ?_)
set_option maxHeartbeats 8000000 in
set_option maxRecDepth 100000 in
theorem laws_heldStringS.calls (k : Nat) (A0 : Option Addr) (c0 : Nat) (l0 : List ByteArray) (a1 : Int) (r : Int) (w : World) (hr0 : Kd.C Kd.string w A0 l0.length l0) (hc0 : l0.length ≤ c0) (h : laws_heldStringS.f k l0 a1 = some r) :
    Calls Try.prog 44 #[.slice A0 l0.length c0, .int .i64 a1] w fun e w' => e = .returned (.int .i64 r) ∧ Below w.heap.size w w' := by
 have HR0 := Aside0.mk hr0
 have HC0 := Aside0.mk hc0
 clear hr0 hc0
 have HB := aZ (Below.refl w.heap.size w)
 have H : (laws_heldStringS.l0 k l0 a1 0) = some r := h
 clear h
 have H' := Aside0.mk H
 clear H
 go_enter Try.func44, Try.ntmps44
 go_wp2
 go_loopg [1, 5] k (fun kq v1 v5 w' => ∃ (x1_1 : Int) (x5_1 : Int), v1 = .int .i64 x1_1 ∧ v5 = .int .i64 x5_1 ∧ Aside0 (laws_heldStringS.l0 kq l0 x1_1 x5_1 = some r) ∧ Aside0 (kq ≤ k) ∧ Aside0 (Below w.heap.size w w'))
 case atStart => exact ⟨(a1), (0), tZB, tZB, H', ⟨Nat.le_refl _⟩, ⟨bZ⟩⟩
 case round =>
  clear H'
  try clear p2
  obtain ⟨x1_1, x5_1, rfl, rfl, HA, HK1, HB⟩ := hrel
  cases gk with
  | zero => exact absurd HA.out (by simp [laws_heldStringS.l0])
  | succ k1 =>
   have H := HA.out
   clear HA
   simp only [laws_heldStringS.l0] at H
   by_cases c3 : x5_1 < (l0.length : Int)
   rotate_left
   ·rw [if_neg c3] at H
    have c3b0 := decide_eq_false c3
    clear c3
    obtain rfl := Option.some.inj H
    go_wp2
    go_ret
    exact ⟨tZC, bZ⟩
   rw [if_pos c3] at H
   have c3b0 := decide_eq_true c3
   clear c3
   by_cases c4 : 0 ≤ x5_1
   rotate_left
   ·rw [if_neg c4] at H
    exact absurd H (by simp)
   rw [if_pos c4] at H
   have c4b0 := decide_eq_true c4
   clear c4
   replace H := Option.bind_eq_some_iff.mp H
   obtain ⟨t302, A50, H⟩ := H
   replace H : (if (rdOf ByteArray.empty l0 x5_1).toList = t302.toList then (laws_heldStringS.l0 k1 l0 (wrap64 (x1_1 + 1)) (wrap64 (x5_1 + 1))) else (some (-1))) = some r := H
   have A5 := Aside0.mk A50
   clear A50
   by_cases c6 : (rdOf ByteArray.empty l0 x5_1).toList = t302.toList
   rotate_left
   ·rw [if_neg c6] at H
    have c6b0 : ((rdOf ByteArray.empty l0 x5_1).toList == t302.toList) = false := beq_eq_false_iff_ne.mpr c6
    have c6b1 : ((rdOf ByteArray.empty l0 x5_1).toList != t302.toList) = true := bne_iff_ne.mpr c6
    obtain rfl := Option.some.inj H
    try go_wp2
    replace HB := aZ (below_drew1 HB.out)
    have p301 : 0 ≤ (x5_1 : Int) := of_decide_eq_true tZE
    have q301 : x5_1 < (l0.length : Int) := of_decide_eq_true tZE
    obtain ⟨ad301, e301, hx301_0⟩ := Kd.at_string HR0.out x5_1 p301 q301
    have hw301_0 := hx301_0
    cases e301
    replace hx301_0 := cZ HB hx301_0
    replace p301 := eq_true p301
    replace q301 := eq_true q301
    refine start_ (n := 7) (S := fun w' => w'.cell? (ad301.add (x5_1).toNat) = some (.string (rdOf ByteArray.empty l0 x5_1))) (ds := []) L0' kZ rfl rfl (((HB.out.cell (World.block_lt_of_cell? w _ hw301_0)).trans hw301_0)) (fun hHeld => ?_)
    generalize wr.drew = w9 at HB hx301_0 hHeld ⊢
    refine pure_ (i := 0) (N := some 12) (v := ?_) (a' := ?_) L1' rfl rfl kZ (fun _ _ _ h => h) (Or.inl ⟨by rfl, ?_⟩) ?_ ?_
    rotate_left
    ·intro w'
     go_simp
     with_reducible rfl
    rotate_left
    ·simp only [Act.put, sZ1, sZ2, sZ3, i64_w, i32_w]
     rfl
    refine pure_ (i := 1) (N := some 13) (v := ?_) (a' := ?_) L2' rfl rfl kZ (fun _ _ _ h => h) (Or.inl ⟨by rfl, ?_⟩) ?_ ?_
    rotate_left
    ·intro w'
     go_simp
     with_reducible rfl
    rotate_left
    ·simp only [Act.put, sZ1, sZ2, sZ3, i64_w, i32_w]
     rfl
    refine pure_ (i := 2) (N := some 14) (v := ?_) (a' := ?_) L3' rfl rfl kZ (fun _ _ _ h => h) (Or.inl ⟨by rfl, ?_⟩) ?_ ?_
    rotate_left
    ·intro w'
     go_simp
     with_reducible rfl
    rotate_left
    ·simp only [Act.put, sZ1, sZ2, sZ3, i64_w, i32_w]
     rfl
    refine pure_ (i := 4) (N := some 16) (v := ?_) (a' := ?_) L4' rfl rfl kZ (fun _ _ _ h => h) (Or.inl ⟨by rfl, ?_⟩) ?_ ?_
    rotate_left
    ·intro w'
     go_simp
     with_reducible rfl
    rotate_left
    ·simp only [Act.put, sZ1, sZ2, sZ3, i64_w, i32_w]
     rfl
    refine take_ (i := 3) (N := some 15) (v := ?_) (a' := ?_) L5' rfl rfl kZ (fun _ _ _ h => h) (Or.inl ⟨by rfl, ?_⟩) hHeld ?_ ?_
    rotate_left
    ·intro w' s0
     go_simp
     with_reducible rfl
    rotate_left
    ·simp only [Act.put, sZ1, sZ2, sZ3, i64_w, i32_w]
     rfl
    refine one_ (i := 5) (N := some 17) L6' rfl rfl kZ (by decide) (fun K hK => ?_)
    refine goes_ Try.func94 kZ rfl #[.int .i64 x1_1] (by rfl) rfl rfl tZA ?_
    with_reducible refine (laws_markText.calls k1 x1_1 t302 _ A5.out).mono ?_
    rintro e w10 ⟨rfl, hb⟩
    refine ⟨_, rfl, ?_⟩
    replace HB := aZ (below_step (lZB HB.out) hb)
    (try clear hb)
    (try clear hb2)
    (try clear hk)
    (try clear hi)
    refine hK.out _ _ (((HB.out.cell (World.block_lt_of_cell? w _ hw301_0)).trans hw301_0)) (fun hHeld => ?_)
    clear hK K
    refine norm_ (a' := ?_) ?_ ?_
    rotate_left
    ·show Act.put _ (some 17) _ = _
     simp only [Act.put, sZ1, sZ2, sZ3, i64_w, i32_w]
     rfl
    refine pure_ (i := 6) (N := some 18) (v := ?_) (a' := ?_) L7' rfl rfl kZ (fun _ _ _ h => h) (Or.inl ⟨by rfl, ?_⟩) ?_ ?_
    rotate_left
    ·intro w'
     go_simp
     with_reducible rfl
    rotate_left
    ·simp only [Act.put, sZ1, sZ2, sZ3, i64_w, i32_w]
     rfl
    refine done_ kZ ?_
    try go_wp2
    go_ret
    exact ⟨tZC, bZ⟩
   rw [if_pos c6] at H
   have c6b0 : ((rdOf ByteArray.empty l0 x5_1).toList == t302.toList) = true := beq_iff_eq.mpr c6
   have c6b1 : ((rdOf ByteArray.empty l0 x5_1).toList != t302.toList) = false := bne_eq_false_iff_eq.mpr c6
   clear c6
   have H' := Aside0.mk H
   clear H
   try go_wp2
   replace HB := aZ (below_drew1 HB.out)
   have p301 : 0 ≤ (x5_1 : Int) := of_decide_eq_true tZE
   have q301 : x5_1 < (l0.length : Int) := of_decide_eq_true tZE
   obtain ⟨ad301, e301, hx301_0⟩ := Kd.at_string HR0.out x5_1 p301 q301
   have hw301_0 := hx301_0
   cases e301
   replace hx301_0 := cZ HB hx301_0
   replace p301 := eq_true p301
   replace q301 := eq_true q301
   refine start_ (n := 7) (S := fun w' => w'.cell? (ad301.add (x5_1).toNat) = some (.string (rdOf ByteArray.empty l0 x5_1))) (ds := []) L0' kZ rfl rfl (((HB.out.cell (World.block_lt_of_cell? w _ hw301_0)).trans hw301_0)) (fun hHeld => ?_)
   generalize wr.drew = w7 at HB hx301_0 hHeld ⊢
   refine pure_ (i := 0) (N := some 12) (v := ?_) (a' := ?_) L1' rfl rfl kZ (fun _ _ _ h => h) (Or.inl ⟨by rfl, ?_⟩) ?_ ?_
   rotate_left
   ·intro w'
    go_simp
    with_reducible rfl
   rotate_left
   ·simp only [Act.put, sZ1, sZ2, sZ3, i64_w, i32_w]
    rfl
   refine pure_ (i := 1) (N := some 13) (v := ?_) (a' := ?_) L2' rfl rfl kZ (fun _ _ _ h => h) (Or.inl ⟨by rfl, ?_⟩) ?_ ?_
   rotate_left
   ·intro w'
    go_simp
    with_reducible rfl
   rotate_left
   ·simp only [Act.put, sZ1, sZ2, sZ3, i64_w, i32_w]
    rfl
   refine pure_ (i := 2) (N := some 14) (v := ?_) (a' := ?_) L3' rfl rfl kZ (fun _ _ _ h => h) (Or.inl ⟨by rfl, ?_⟩) ?_ ?_
   rotate_left
   ·intro w'
    go_simp
    with_reducible rfl
   rotate_left
   ·simp only [Act.put, sZ1, sZ2, sZ3, i64_w, i32_w]
    rfl
   refine pure_ (i := 4) (N := some 16) (v := ?_) (a' := ?_) L4' rfl rfl kZ (fun _ _ _ h => h) (Or.inl ⟨by rfl, ?_⟩) ?_ ?_
   rotate_left
   ·intro w'
    go_simp
    with_reducible rfl
   rotate_left
   ·simp only [Act.put, sZ1, sZ2, sZ3, i64_w, i32_w]
    rfl
   refine take_ (i := 3) (N := some 15) (v := ?_) (a' := ?_) L5' rfl rfl kZ (fun _ _ _ h => h) (Or.inl ⟨by rfl, ?_⟩) hHeld ?_ ?_
   rotate_left
   ·intro w' s0
    go_simp
    with_reducible rfl
   rotate_left
   ·simp only [Act.put, sZ1, sZ2, sZ3, i64_w, i32_w]
    rfl
   refine one_ (i := 5) (N := some 17) L6' rfl rfl kZ (by decide) (fun K hK => ?_)
   refine goes_ Try.func94 kZ rfl #[.int .i64 x1_1] (by rfl) rfl rfl tZA ?_
   with_reducible refine (laws_markText.calls k1 x1_1 t302 _ A5.out).mono ?_
   rintro e w8 ⟨rfl, hb⟩
   refine ⟨_, rfl, ?_⟩
   replace HB := aZ (below_step (lZB HB.out) hb)
   (try clear hb)
   (try clear hb2)
   (try clear hk)
   (try clear hi)
   refine hK.out _ _ (((HB.out.cell (World.block_lt_of_cell? w _ hw301_0)).trans hw301_0)) (fun hHeld => ?_)
   clear hK K
   refine norm_ (a' := ?_) ?_ ?_
   rotate_left
   ·show Act.put _ (some 17) _ = _
    simp only [Act.put, sZ1, sZ2, sZ3, i64_w, i32_w]
    rfl
   refine pure_ (i := 6) (N := some 18) (v := ?_) (a' := ?_) L7' rfl rfl kZ (fun _ _ _ h => h) (Or.inl ⟨by rfl, ?_⟩) ?_ ?_
   rotate_left
   ·intro w'
    go_simp
    with_reducible rfl
   rotate_left
   ·simp only [Act.put, sZ1, sZ2, sZ3, i64_w, i32_w]
    rfl
   refine done_ kZ ?_
   try go_wp2
   go_roundg k1
   case measure => have := HK1.out; omega
   case rel => exact ⟨(wrap64 (x1_1 + 1)), (wrap64 (x5_1 + 1)), tZB, tZB, H', ⟨by have := HK1.out; omega⟩, ⟨bZ⟩⟩
end Go.Proofs.Ytjnmfadnkbflfaa.PFnExactNeeded
