import Derived.Test.YtjnmfadnkbflfaaOPFnExactOutputx0
import Derived.Test.YtjnmfadnkbflfaaOPFnExactOutputx4
import Derived.Test.YtjnmfadnkbflfaaOPFnExactOutputx7
import Derived.Test.YtjnmfadnkbflfaaOSlimWords
namespace Go.Proofs.Ytjnmfadnkbflfaa.PFnExactOutput
open Go.Proofs.Ytjnmfadnkbflfaa.SlimWords
open Go.RowKit Go.Proofs.YtjnmfadnkbflfaaW.PrintWords Go.Proofs.YtjnmfadnkbflfaaW.PrintLast Go.Proofs.YtjnmfadnkbflfaaW.PrintMore Go.Proofs.Ytjnmfadnkbflfaa.MapWords Go.Proofs.Ytjnmfadnkbflfaa.IterWords Go.Proofs.Ytjnmfadnkbflfaa.MarkWords Go.Proofs.Ytjnmfadnkbflfaa.ArrWords
attribute [local go_sem] ptrOf_slice max2_int min2_int max_two min_two max_three min_three max_four min_four
set_option linter.unusedVariables false
set_option linter.unusedSimpArgs false
def spec_l12Qty.f (a0 : Int) : Option (Bool) := (spec_l1In.f a0 0 1000000).bind fun t203 => (some t203)
set_option maxHeartbeats 8000000 in
set_option maxRecDepth 100000 in
theorem spec_l12Qty.calls (a0 : Int) (r : Bool) (w : World) (h : spec_l12Qty.f a0 = some r) :
    Calls Try.prog 107 #[.int .i64 a0] w fun e w' => e = .returned (.bool r) ∧ Drawn0 w w' := by
 have H : ((spec_l1In.f a0 0 1000000).bind fun t203 => (some t203)) = some r := h
 clear h
 replace H := Option.bind_eq_some_iff.mp H
 obtain ⟨t203, A20, H⟩ := H
 replace H : (some t203) = some r := H
 have A2 := Aside0.mk A20
 clear A20
 obtain rfl := Option.some.inj H
 go_enter Try.func107, Try.ntmps107
 go_wp2_with (first | ((with_reducible refine gate_callee (f := 72) rfl ?_); refine goesL_ (some 4) rfl rfl Try.func72 kZ rfl #[.int .i64 a0, .int .i64 0, .int .i64 1000000] rfl tZA ?_; (with_reducible refine (spec_l1In.calls a0 0 1000000 t203 _ A2.out).mono ?_); rintro e w' ⟨rfl, ⟨nd, rfl⟩⟩; refine ⟨_, rfl, ?_⟩))
 go_ret
 exact ⟨tZB, tZD⟩
def spec_l17Asked.f (k : Nat) (l0 : List (S130)) (a1 : Int) (a2 : Int) (a3 : Int) : Option (Bool) := (spec_ItemsOk.f k l0).bind fun t204 => (if t204 = true then ((spec_l1In.f a1 0 (wrap64 ((l0.length : Int) - 1))).bind fun t205 => (if t205 = true then ((spec_l12Qty.f a2).bind fun t206 => (if t206 = true then ((spec_l2Day.f a3).bind fun t207 => (some t207)) else (some false))) else (some false))) else (some false))
theorem spec_l17Asked.mono : ∀ a0 a1 a2 a3 k, LeO (spec_l17Asked.f k a0 a1 a2 a3) (spec_l17Asked.f (k + 1) a0 a1 a2 a3) := by
 intro a0 a1 a2 a3 k
 unfold spec_l17Asked.f
 repeat' first
     | (with_reducible exact spec_ItemsOk.mono _ _)
     | (with_reducible exact LeO.refl _)
     | (with_reducible exact LeO.none _)
     | (with_reducible refine LeO.ite ?_ ?_)
     | (with_reducible refine LeO.bind ?_ (fun _ => ?_))
     | exact spec_ItemsOk.mono _ _
     | exact LeO.none _
     | refine LeO.ite ?_ ?_
     | refine LeO.bind ?_ (fun _ => ?_)
set_option maxHeartbeats 8000000 in
set_option maxRecDepth 100000 in
theorem spec_l17Asked.calls (k : Nat) (A0 : Option Addr) (c0 : Nat) (l0 : List (S130)) (a1 : Int) (a2 : Int) (a3 : Int) (r : Bool) (w : World) (hr0 : Kd.C k130 w A0 l0.length l0) (hc0 : l0.length ≤ c0) (h : spec_l17Asked.f k l0 a1 a2 a3 = some r) :
    Calls Try.prog 104 #[.slice A0 l0.length c0, .int .i64 a1, .int .i64 a2, .int .i64 a3] w fun e w' => e = .returned (.bool r) ∧ Below w.heap.size w w' := by
 have HR0 := Aside0.mk hr0
 have HC0 := Aside0.mk hc0
 clear hr0 hc0
 have HB := aZ (Below.refl w.heap.size w)
 have H : ((spec_ItemsOk.f k l0).bind fun t204 => (if t204 = true then ((spec_l1In.f a1 0 (wrap64 ((l0.length : Int) - 1))).bind fun t205 => (if t205 = true then ((spec_l12Qty.f a2).bind fun t206 => (if t206 = true then ((spec_l2Day.f a3).bind fun t207 => (some t207)) else (some false))) else (some false))) else (some false))) = some r := h
 clear h
 replace H := Option.bind_eq_some_iff.mp H
 obtain ⟨t204, A50, H⟩ := H
 replace H : (if t204 = true then ((spec_l1In.f a1 0 (wrap64 ((l0.length : Int) - 1))).bind fun t205 => (if t205 = true then ((spec_l12Qty.f a2).bind fun t206 => (if t206 = true then ((spec_l2Day.f a3).bind fun t207 => (some t207)) else (some false))) else (some false))) else (some false)) = some r := H
 have A5 := Aside0.mk A50
 clear A50
 by_cases c6 : t204 = true
 rotate_left
 ·replace c6 := Bool.eq_false_iff.mpr c6
  subst c6
  have H1 : (some false) = some r := by rw [if_neg (show ¬ (false = true) by decide)] at H; exact H
  clear H
  have H := H1
  clear H1
  obtain rfl := Option.some.inj H
  go_enter Try.func104, Try.ntmps104
  go_wp2_with (first | ((with_reducible refine gate_callee (f := 88) rfl ?_); refine goesL_ (some 10) rfl rfl Try.func88 kZ rfl #[.slice A0 l0.length c0] rfl tZA ?_; (with_reducible refine (spec_ItemsOk.calls k _ _ l0 false _ ?side1 ?side2 A5.out).mono ?_); (case side1 => repeat (first | exact HR0.out | (with_reducible refine Kd.C_alloc ?_ _) | (with_reducible refine Kd.C_drewN ?_ _) | (with_reducible refine Kd.C_drew ?_))); (case side2 => exact HC0.out); rintro e w15 ⟨rfl, hb⟩; refine ⟨_, rfl, ?_⟩; replace HB := aZ (below_step (lZB HB.out) hb); (try clear hb); (try clear hb2); (try clear hk); (try clear hi)))
  go_ret
  exact ⟨tZC, bZ⟩
 subst c6
 have H1 : ((spec_l1In.f a1 0 (wrap64 ((l0.length : Int) - 1))).bind fun t205 => (if t205 = true then ((spec_l12Qty.f a2).bind fun t206 => (if t206 = true then ((spec_l2Day.f a3).bind fun t207 => (some t207)) else (some false))) else (some false))) = some r := by rw [if_pos rfl] at H; exact H
 clear H
 have H := H1
 clear H1
 replace H := Option.bind_eq_some_iff.mp H
 obtain ⟨t205, A70, H⟩ := H
 replace H : (if t205 = true then ((spec_l12Qty.f a2).bind fun t206 => (if t206 = true then ((spec_l2Day.f a3).bind fun t207 => (some t207)) else (some false))) else (some false)) = some r := H
 have A7 := Aside0.mk A70
 clear A70
 by_cases c8 : t205 = true
 rotate_left
 ·replace c8 := Bool.eq_false_iff.mpr c8
  subst c8
  have H1 : (some false) = some r := by rw [if_neg (show ¬ (false = true) by decide)] at H; exact H
  clear H
  have H := H1
  clear H1
  obtain rfl := Option.some.inj H
  go_enter Try.func104, Try.ntmps104
  go_wp2_with (first | ((with_reducible refine gate_callee (f := 88) rfl ?_); refine goesL_ (some 10) rfl rfl Try.func88 kZ rfl #[.slice A0 l0.length c0] rfl tZA ?_; (with_reducible refine (spec_ItemsOk.calls k _ _ l0 true _ ?side1 ?side2 A5.out).mono ?_); (case side1 => repeat (first | exact HR0.out | (with_reducible refine Kd.C_alloc ?_ _) | (with_reducible refine Kd.C_drewN ?_ _) | (with_reducible refine Kd.C_drew ?_))); (case side2 => exact HC0.out); rintro e w14 ⟨rfl, hb⟩; refine ⟨_, rfl, ?_⟩; replace HB := aZ (below_step (lZB HB.out) hb); (try clear hb); (try clear hb2); (try clear hk); (try clear hi)) | (go_at_call 72; (with_reducible refine (spec_l1In.calls a1 0 (wrap64 ((l0.length : Int) - 1)) false _ A7.out).mono ?_); rintro e w' ⟨rfl, ⟨nd, rfl⟩⟩))
  go_ret
  exact ⟨tZC, bZ⟩
 subst c8
 have H1 : ((spec_l12Qty.f a2).bind fun t206 => (if t206 = true then ((spec_l2Day.f a3).bind fun t207 => (some t207)) else (some false))) = some r := by rw [if_pos rfl] at H; exact H
 clear H
 have H := H1
 clear H1
 replace H := Option.bind_eq_some_iff.mp H
 obtain ⟨t206, A90, H⟩ := H
 replace H : (if t206 = true then ((spec_l2Day.f a3).bind fun t207 => (some t207)) else (some false)) = some r := H
 have A9 := Aside0.mk A90
 clear A90
 by_cases c10 : t206 = true
 rotate_left
 ·replace c10 := Bool.eq_false_iff.mpr c10
  subst c10
  have H1 : (some false) = some r := by rw [if_neg (show ¬ (false = true) by decide)] at H; exact H
  clear H
  have H := H1
  clear H1
  obtain rfl := Option.some.inj H
  go_enter Try.func104, Try.ntmps104
  go_wp2_with (first | ((with_reducible refine gate_callee (f := 88) rfl ?_); refine goesL_ (some 10) rfl rfl Try.func88 kZ rfl #[.slice A0 l0.length c0] rfl tZA ?_; (with_reducible refine (spec_ItemsOk.calls k _ _ l0 true _ ?side1 ?side2 A5.out).mono ?_); (case side1 => repeat (first | exact HR0.out | (with_reducible refine Kd.C_alloc ?_ _) | (with_reducible refine Kd.C_drewN ?_ _) | (with_reducible refine Kd.C_drew ?_))); (case side2 => exact HC0.out); rintro e w13 ⟨rfl, hb⟩; refine ⟨_, rfl, ?_⟩; replace HB := aZ (below_step (lZB HB.out) hb); (try clear hb); (try clear hb2); (try clear hk); (try clear hi)) | (go_at_call 72; (with_reducible refine (spec_l1In.calls a1 0 (wrap64 ((l0.length : Int) - 1)) true _ A7.out).mono ?_); rintro e w' ⟨rfl, ⟨nd, rfl⟩⟩) | (go_at_call 107; (with_reducible refine (spec_l12Qty.calls a2 false _ A9.out).mono ?_); rintro e w' ⟨rfl, ⟨nd, rfl⟩⟩))
  go_ret
  exact ⟨tZC, bZ⟩
 subst c10
 have H1 : ((spec_l2Day.f a3).bind fun t207 => (some t207)) = some r := by rw [if_pos rfl] at H; exact H
 clear H
 have H := H1
 clear H1
 replace H := Option.bind_eq_some_iff.mp H
 obtain ⟨t207, A110, H⟩ := H
 replace H : (some t207) = some r := H
 have A11 := Aside0.mk A110
 clear A110
 obtain rfl := Option.some.inj H
 go_enter Try.func104, Try.ntmps104
 go_wp2_with (first | ((with_reducible refine gate_callee (f := 88) rfl ?_); refine goesL_ (some 10) rfl rfl Try.func88 kZ rfl #[.slice A0 l0.length c0] rfl tZA ?_; (with_reducible refine (spec_ItemsOk.calls k _ _ l0 true _ ?side1 ?side2 A5.out).mono ?_); (case side1 => repeat (first | exact HR0.out | (with_reducible refine Kd.C_alloc ?_ _) | (with_reducible refine Kd.C_drewN ?_ _) | (with_reducible refine Kd.C_drew ?_))); (case side2 => exact HC0.out); rintro e w12 ⟨rfl, hb⟩; refine ⟨_, rfl, ?_⟩; replace HB := aZ (below_step (lZB HB.out) hb); (try clear hb); (try clear hb2); (try clear hk); (try clear hi)) | (go_at_call 72; (with_reducible refine (spec_l1In.calls a1 0 (wrap64 ((l0.length : Int) - 1)) true _ A7.out).mono ?_); rintro e w' ⟨rfl, ⟨nd, rfl⟩⟩) | (go_at_call 107; (with_reducible refine (spec_l12Qty.calls a2 true _ A9.out).mono ?_); rintro e w' ⟨rfl, ⟨nd, rfl⟩⟩) | (go_at_call 71; (with_reducible refine (spec_l2Day.calls a3 t207 _ A11.out).mono ?_); rintro e w' ⟨rfl, ⟨nd, rfl⟩⟩))
 go_ret
 exact ⟨tZC, bZ⟩
def spec_l17Batches.f (a0_0 : ByteArray) (a0_1 : Int) (a0_2 : Bool) (l0_3 : List (S149)) (l0_4 : List (S149)) (a1 : Int) : Option (Int) := if a0_1 = 0 then (none) else (some (wrap64 (Int.tdiv (wrap64 ((wrap64 (a1 + a0_1)) - 1)) a0_1)))
set_option maxHeartbeats 8000000 in
set_option maxRecDepth 100000 in
theorem spec_l17Batches.calls (a0_0 : ByteArray) (a0_1 : Int) (a0_2 : Bool) (A0_3 : Option Addr) (c0_3 : Nat) (l0_3 : List (S149)) (A0_4 : Option Addr) (c0_4 : Nat) (l0_4 : List (S149)) (a1 : Int) (r : Int) (w : World) (hr0_3 : Kd.C k149 w A0_3 l0_3.length l0_3) (hc0_3 : l0_3.length ≤ c0_3) (hr0_4 : Kd.C k149 w A0_4 l0_4.length l0_4) (hc0_4 : l0_4.length ≤ c0_4) (h : spec_l17Batches.f a0_0 a0_1 a0_2 l0_3 l0_4 a1 = some r) :
    Calls Try.prog 105 #[.agg #[.string a0_0, .int .i64 a0_1, .bool a0_2, .slice A0_3 l0_3.length c0_3, .slice A0_4 l0_4.length c0_4], .int .i64 a1] w fun e w' => e = .returned (.int .i64 r) ∧ Below w.heap.size w w' := by
 have hu130 := Try.underlying130
 have HR0_3 := Aside0.mk hr0_3
 have HC0_3 := Aside0.mk hc0_3
 clear hr0_3 hc0_3
 have HR0_4 := Aside0.mk hr0_4
 have HC0_4 := Aside0.mk hc0_4
 clear hr0_4 hc0_4
 have HB := aZ (Below.refl w.heap.size w)
 have H : (if a0_1 = 0 then (none) else (some (wrap64 (Int.tdiv (wrap64 ((wrap64 (a1 + a0_1)) - 1)) a0_1)))) = some r := h
 clear h
 by_cases c3 : a0_1 = 0
 ·rw [if_pos c3] at H
  exact absurd H (by simp)
 rw [if_neg c3] at H
 have c3b0 : (a0_1 == 0) = false := beq_eq_false_iff_ne.mpr c3
 have c3b1 : (a0_1 != 0) = true := bne_iff_ne.mpr c3
 obtain rfl := Option.some.inj H
 go_enter Try.func105, Try.ntmps105
 go_wp2_with (first | ((with_reducible refine gate_dst (N := 2) rfl ?_); refine box_event ?hg (N := 2) ?hd (cs := #[.string a0_0, .int .i64 a0_1, .bool a0_2, .slice A0_3 l0_3.length c0_3, .slice A0_4 l0_4.length c0_4]) (t := 130) ?hr ?_; (case hd => rfl); (case hg => rfl); (case hr => first | (go_simp; done) | (go_simp; rfl)); intro gb208 hg w4 hbox hb; have BK208 := aZ (hbox); have GW208 := aZ ((by rw [hg]; exact (below_size (lZB HB.out)) : w.heap.size ≤ gb208)); have GE208 := aZ ((by rw [hg]; exact (below_size (lZB HB.out)) : w.heap.size ≤ gb208)); replace HB := aZ (below_step (lZB HB.out) hb); clear hb hbox hg; have hcz5_0 : w4.cell? ⟨gb208, 0, none⟩ = some (.string a0_0) := (blk_cell BK208.out 0).trans rfl; have hcz5_1 : w4.cell? ⟨gb208, 1, none⟩ = some (.int .i64 a0_1) := (blk_cell BK208.out 1).trans rfl; have hcz5_2 : w4.cell? ⟨gb208, 2, none⟩ = some (.bool a0_2) := (blk_cell BK208.out 2).trans rfl; have hcz5_3 : w4.cell? ⟨gb208, 3, none⟩ = some (.slice A0_3 l0_3.length c0_3) := (blk_cell BK208.out 3).trans rfl; have hcz5_4 : w4.cell? ⟨gb208, 4, none⟩ = some (.slice A0_4 l0_4.length c0_4) := (blk_cell BK208.out 4).trans rfl; have hfz5_0 := blk_frozen BK208.out 0; have hfz5_1 := blk_frozen BK208.out 1; have hfz5_2 := blk_frozen BK208.out 2; have hfz5_3 := blk_frozen BK208.out 3; have hfz5_4 := blk_frozen BK208.out 4))
 go_ret
 exact ⟨tZC, bZ⟩
def spec_l7Has.l0 : Nat → List Int → Int → Int → Option (Bool)
  | 0, _, _, _ => none
  | k + 1, x0, x1, x5 => if x5 < (x0.length : Int) then (if 0 ≤ x5 then (if (rd x0 x5) = x1 then (some true) else (spec_l7Has.l0 k x0 x1 (wrap64 (x5 + 1)))) else (none)) else (some false)
def spec_l7Has.f (k : Nat) (l0 : List Int) (a1 : Int) : Option (Bool) := spec_l7Has.l0 k l0 a1 0
theorem spec_l7Has.mono_l : ∀ k, (∀ y0 y1 y2, LeO (spec_l7Has.l0 k y0 y1 y2) (spec_l7Has.l0 (k + 1) y0 y1 y2))
  | 0 => fun _ _ _ r h => by simp [spec_l7Has.l0] at h
  | k + 1 => by
    have ih0 := spec_l7Has.mono_l k
    · intro y0 y1 y2
      unfold spec_l7Has.l0
      repeat' first
      | (with_reducible exact ih0 _ _ _)
      | (with_reducible exact LeO.refl _)
      | (with_reducible exact LeO.none _)
      | (with_reducible refine LeO.ite ?_ ?_)
      | (with_reducible refine LeO.bind ?_ (fun _ => ?_))
      | exact ih0 _ _ _
      | exact LeO.none _
      | refine LeO.ite ?_ ?_
      | refine LeO.bind ?_ (fun _ => ?_)
theorem spec_l7Has.mono : ∀ a0 a1 k, LeO (spec_l7Has.f k a0 a1) (spec_l7Has.f (k + 1) a0 a1) := by
 intro a0 a1 k
 have ih0 := spec_l7Has.mono_l k
 unfold spec_l7Has.f
 repeat' first
     | (with_reducible exact ih0 _ _ _)
     | (with_reducible exact LeO.refl _)
     | (with_reducible exact LeO.none _)
     | (with_reducible refine LeO.ite ?_ ?_)
     | (with_reducible refine LeO.bind ?_ (fun _ => ?_))
     | exact ih0 _ _ _
     | exact LeO.none _
     | refine LeO.ite ?_ ?_
     | refine LeO.bind ?_ (fun _ => ?_)
set_option maxHeartbeats 8000000 in
set_option maxRecDepth 100000 in
theorem spec_l7Has.calls (k : Nat) (A0 : Option Addr) (c0 : Nat) (l0 : List Int) (a1 : Int) (r : Bool) (w : World) (hr0 : Kd.C (Kd.int .i64) w A0 l0.length l0) (hc0 : l0.length ≤ c0) (h : spec_l7Has.f k l0 a1 = some r) :
    Calls Try.prog 161 #[.slice A0 l0.length c0, .int .i64 a1] w fun e w' => e = .returned (.bool r) ∧ Drawn0 w w' := by
 have HR0 := Aside0.mk hr0
 have HC0 := Aside0.mk hc0
 clear hr0 hc0
 have H : (spec_l7Has.l0 k l0 a1 0) = some r := h
 clear h
 have H' := Aside0.mk H
 clear H
 go_enter Try.func161, Try.ntmps161
 go_wp2
 go_loopg [5] k (fun kq v5 w' => ∃ (x5_1 : Int), v5 = .int .i64 x5_1 ∧ Aside0 (spec_l7Has.l0 kq l0 a1 x5_1 = some r) ∧ Aside0 (kq ≤ k) ∧ Drawn0 w w')
 case atStart => exact ⟨(0), tZB, H', ⟨Nat.le_refl _⟩, tZD⟩
 case round =>
  clear H'
  try clear c1
  try clear p2
  obtain ⟨x5_1, rfl, HA, HK1, ⟨m1, rfl⟩⟩ := hrel
  cases gk with
  | zero => exact absurd HA.out (by simp [spec_l7Has.l0])
  | succ k1 =>
   have H := HA.out
   clear HA
   simp only [spec_l7Has.l0] at H
   by_cases c3 : x5_1 < (l0.length : Int)
   rotate_left
   ·rw [if_neg c3] at H
    have c3b0 := decide_eq_false c3
    clear c3
    obtain rfl := Option.some.inj H
    go_wp2
    go_ret
    exact ⟨tZB, tZD⟩
   rw [if_pos c3] at H
   have c3b0 := decide_eq_true c3
   clear c3
   by_cases c4 : 0 ≤ x5_1
   rotate_left
   ·rw [if_neg c4] at H
    exact absurd H (by simp)
   rw [if_pos c4] at H
   have c4b0 := decide_eq_true c4
   clear c4
   by_cases c5 : (rd l0 x5_1) = a1
   ·rw [if_pos c5] at H
    have c5b0 : ((rd l0 x5_1) == a1) = true := beq_iff_eq.mpr c5
    have c5b1 : ((rd l0 x5_1) != a1) = false := bne_eq_false_iff_eq.mpr c5
    clear c5
    obtain rfl := Option.some.inj H
    have p209 : 0 ≤ (x5_1 : Int) := of_decide_eq_true tZE
    have q209 : x5_1 < (l0.length : Int) := of_decide_eq_true tZE
    obtain ⟨ad209, e209, hx209_0⟩ := Kd.at_int HR0.out x5_1 p209 q209
    cases e209
    replace p209 := eq_true p209
    replace q209 := eq_true q209
    go_wp2
    go_ret
    exact ⟨tZB, tZD⟩
   rw [if_neg c5] at H
   have c5b0 : ((rd l0 x5_1) == a1) = false := beq_eq_false_iff_ne.mpr c5
   have c5b1 : ((rd l0 x5_1) != a1) = true := bne_iff_ne.mpr c5
   have H' := Aside0.mk H
   clear H
   have p209 : 0 ≤ (x5_1 : Int) := of_decide_eq_true tZE
   have q209 : x5_1 < (l0.length : Int) := of_decide_eq_true tZE
   obtain ⟨ad209, e209, hx209_0⟩ := Kd.at_int HR0.out x5_1 p209 q209
   cases e209
   replace p209 := eq_true p209
   replace q209 := eq_true q209
   go_wp2
   go_roundg k1
   case measure => have := HK1.out; omega
   case rel => exact ⟨(wrap64 (x5_1 + 1)), tZB, H', ⟨by have := HK1.out; omega⟩, tZD⟩
mutual
def spec_l17Counting.l0 : Nat → List (S149) → Int → List (S149) → List Int → Int → Option ((List (S149)))
  | 0, _, _, _, _, _ => none
  | k + 1, x0, x1, x5, x6, x7 => if x7 < (x0.length : Int) then (if 0 ≤ x7 then ((spec_l1In.f x1 ((rd_T149 x0 x7).f3) ((rd_T149 x0 x7).f4)).bind fun t218 => (if t218 = true then ((spec_l7Has.f k x6 ((rd_T149 x0 x7).f5)).bind fun t219 => (spec_l17Counting.j1 k x0 x1 x5 x6 x7 t219 ((rd_T149 x0 x7).f0) ((rd_T149 x0 x7).f1) ((rd_T149 x0 x7).f2) ((rd_T149 x0 x7).f3) ((rd_T149 x0 x7).f4) ((rd_T149 x0 x7).f5))) else (spec_l17Counting.j1 k x0 x1 x5 x6 x7 true ((rd_T149 x0 x7).f0) ((rd_T149 x0 x7).f1) ((rd_T149 x0 x7).f2) ((rd_T149 x0 x7).f3) ((rd_T149 x0 x7).f4) ((rd_T149 x0 x7).f5)))) else (none)) else (some x5)
def spec_l17Counting.j1 : Nat → List (S149) → Int → List (S149) → List Int → Int → Bool → Int → Int → Int → Int → Int → Int → Option ((List (S149)))
  | 0, _, _, _, _, _, _, _, _, _, _, _, _ => none
  | k + 1, x0, x1, x5, x6, x7, x33, x218000, x218001, x218002, x218003, x218004, x218005 => if x33 = true then (spec_l17Counting.l0 k x0 x1 x5 x6 (wrap64 (x7 + 1))) else (if x218005 > 0 then (if x6.length < 17592186044416 then (if x5.length < 2932031007402 then (spec_l17Counting.l0 k x0 x1 (x5 ++ [(⟨x218000, x218001, x218002, x218003, x218004, x218005⟩ : S149)]) (x6 ++ [x218005]) (wrap64 (x7 + 1))) else (none)) else (none)) else (if x5.length < 2932031007402 then (spec_l17Counting.l0 k x0 x1 (x5 ++ [(⟨x218000, x218001, x218002, x218003, x218004, x218005⟩ : S149)]) x6 (wrap64 (x7 + 1))) else (none)))
end
def spec_l17Counting.f (k : Nat) (l0 : List (S149)) (a1 : Int) : Option ((List (S149))) := spec_l17Counting.l0 k l0 a1 (([] : List (S149))) (([] : List Int)) 0
theorem spec_l17Counting.mono_l : ∀ k, (∀ y0 y1 y2 y3 y4, LeO (spec_l17Counting.l0 k y0 y1 y2 y3 y4) (spec_l17Counting.l0 (k + 1) y0 y1 y2 y3 y4)) ∧ (∀ y0 y1 y2 y3 y4 y5 y6 y7 y8 y9 y10 y11, LeO (spec_l17Counting.j1 k y0 y1 y2 y3 y4 y5 y6 y7 y8 y9 y10 y11) (spec_l17Counting.j1 (k + 1) y0 y1 y2 y3 y4 y5 y6 y7 y8 y9 y10 y11))
  | 0 => ⟨fun _ _ _ _ _ r h => by simp [spec_l17Counting.l0] at h, fun _ _ _ _ _ _ _ _ _ _ _ _ r h => by simp [spec_l17Counting.j1] at h⟩
  | k + 1 => by
    obtain ⟨ih0, ih1⟩ := spec_l17Counting.mono_l k
    refine ⟨?_, ?_⟩
    · intro y0 y1 y2 y3 y4
      unfold spec_l17Counting.l0
      repeat' first
      | (with_reducible exact ih0 _ _ _ _ _)
      | (with_reducible exact ih1 _ _ _ _ _ _ _ _ _ _ _ _)
      | (with_reducible exact spec_l7Has.mono _ _ _)
      | (with_reducible exact LeO.refl _)
      | (with_reducible exact LeO.none _)
      | (with_reducible refine LeO.ite ?_ ?_)
      | (with_reducible refine LeO.bind ?_ (fun _ => ?_))
      | exact ih0 _ _ _ _ _
      | exact ih1 _ _ _ _ _ _ _ _ _ _ _ _
      | exact spec_l7Has.mono _ _ _
      | exact LeO.none _
      | refine LeO.ite ?_ ?_
      | refine LeO.bind ?_ (fun _ => ?_)
    · intro y0 y1 y2 y3 y4 y5 y6 y7 y8 y9 y10 y11
      unfold spec_l17Counting.j1
      repeat' first
      | (with_reducible exact ih0 _ _ _ _ _)
      | (with_reducible exact ih1 _ _ _ _ _ _ _ _ _ _ _ _)
      | (with_reducible exact spec_l7Has.mono _ _ _)
      | (with_reducible exact LeO.refl _)
      | (with_reducible exact LeO.none _)
      | (with_reducible refine LeO.ite ?_ ?_)
      | (with_reducible refine LeO.bind ?_ (fun _ => ?_))
      | exact ih0 _ _ _ _ _
      | exact ih1 _ _ _ _ _ _ _ _ _ _ _ _
      | exact spec_l7Has.mono _ _ _
      | exact LeO.none _
      | refine LeO.ite ?_ ?_
      | refine LeO.bind ?_ (fun _ => ?_)
theorem spec_l17Counting.mono : ∀ a0 a1 k, LeO (spec_l17Counting.f k a0 a1) (spec_l17Counting.f (k + 1) a0 a1) := by
 intro a0 a1 k
 obtain ⟨ih0, ih1⟩ := spec_l17Counting.mono_l k
 unfold spec_l17Counting.f
 repeat' first
     | (with_reducible exact ih0 _ _ _ _ _)
     | (with_reducible exact ih1 _ _ _ _ _ _ _ _ _ _ _ _)
     | (with_reducible exact spec_l7Has.mono _ _ _)
     | (with_reducible exact LeO.refl _)
     | (with_reducible exact LeO.none _)
     | (with_reducible refine LeO.ite ?_ ?_)
     | (with_reducible refine LeO.bind ?_ (fun _ => ?_))
     | exact ih0 _ _ _ _ _
     | exact ih1 _ _ _ _ _ _ _ _ _ _ _ _
     | exact spec_l7Has.mono _ _ _
     | exact LeO.none _
     | refine LeO.ite ?_ ?_
     | refine LeO.bind ?_ (fun _ => ?_)
set_option maxHeartbeats 8000000 in
set_option maxRecDepth 100000 in
theorem spec_l17Counting.calls (k : Nat) (A0 : Option Addr) (c0 : Nat) (l0 : List (S149)) (a1 : Int) (r : List (S149)) (w : World) (hr0 : Kd.C k149 w A0 l0.length l0) (hc0 : l0.length ≤ c0) (h : spec_l17Counting.f k l0 a1 = some r) :
    Calls Try.prog 106 #[.slice A0 l0.length c0, .int .i64 a1] w fun e w' => ∃ v0_ : Value, e = .returned (v0_) ∧ Kd.R k149 149 w' w.heap.size (fun _ => True) v0_ r ∧ Below w.heap.size w w' := by
 have hu149 := Try.underlying149
 have HR0 := Aside0.mk hr0
 have HC0 := Aside0.mk hc0
 clear hr0 hc0
 have HB := aZ (Below.refl w.heap.size w)
 have H : (spec_l17Counting.l0 k l0 a1 (([] : List (S149))) (([] : List Int)) 0) = some r := h
 clear h
 obtain ⟨y210, hy210⟩ : ∃ y_ : List (S149), y_ = (([] : List (S149))) := ⟨_, rfl⟩
 replace H : (spec_l17Counting.l0 k l0 a1 y210 (([] : List Int)) 0) = some r := by first | (rw [hy210]; with_reducible exact H) | (have H2_ := (Option.bind_some _ _).symm.trans H; rw [hy210]; with_reducible exact H2_) | (have H2_ := (Option.bind_some _ _).symm.trans H; with_reducible exact H2_) | with_reducible exact H | (rw [hy210]; exact H) | exact H
 have Ny210 := Aside0.mk hy210
 clear hy210
 obtain ⟨y213, hy213⟩ : ∃ y_ : List Int, y_ = (([] : List Int)) := ⟨_, rfl⟩
 replace H : (spec_l17Counting.l0 k l0 a1 y210 y213 0) = some r := by first | (rw [hy213]; with_reducible exact H) | (have H2_ := (Option.bind_some _ _).symm.trans H; rw [hy213]; with_reducible exact H2_) | (have H2_ := (Option.bind_some _ _).symm.trans H; with_reducible exact H2_) | with_reducible exact H | (rw [hy213]; exact H) | exact H
 have Ny213 := Aside0.mk hy213
 clear hy213
 have H' := Aside0.mk H
 clear H
 go_enter Try.func106, Try.ntmps106
 go_wp2_with (first | ((with_reducible refine gate_dst (N := 9) rfl ?_); refine Kd.R_lit k149 _ 149 ?hg (N := 9) ?hd (xs := ([] : List (S149))) (inner := []) (ok := fun _ => True) (okp := fun _ => True) ?hr ?hp (fun _ hk => hk) trivial (Below.refl _ _) (Nat.le_refl _) (by simp) ?_; (case hd => rfl); (case hg => rfl); (case hr => first | (go_simp; done) | (go_simp; rfl)); (case hp => exact (Reps.none _ _)); intro v211 w3 ho4 hb hg_ hnew_; clear hg_ hnew_; (first | rw [← Ny210.out] at ho4 | (simp only [Int.reduceToNat] at ho4; rw [← Ny210.out] at ho4)); have HO212 := aZ (Kd.R_lower ho4 (below_size (lZB HB.out))); replace HB := aZ (below_step (lZB HB.out) hb); clear hb ho4) | ((with_reducible refine gate_dst (N := 10) rfl ?_); refine Kd.R_lit (Kd.int .i64) _ 3 ?hg (N := 10) ?hd (xs := ([] : List Int)) (inner := []) (ok := fun _ => True) (okp := fun _ => True) ?hr ?hp (fun _ hk => hk) trivial (Below.refl _ _) (Nat.le_refl _) (by simp) ?_; (case hd => rfl); (case hg => rfl); (case hr => first | (go_simp; done) | (go_simp; rfl)); (case hp => exact (Reps.none _ _)); intro v214 w5 ho6 hb hg_ hnew_; clear hg_ hnew_; (first | rw [← Ny213.out] at ho6 | (simp only [Int.reduceToNat] at ho6; rw [← Ny213.out] at ho6)); replace HO212 := aZ (Kd.R_below (lZR HO212.out) hb); have HO215 := aZ (Kd.R_lower ho6 (below_size (lZB HB.out))); replace HB := aZ (below_step (lZB HB.out) hb); clear hb ho6))
 go_loopg [5, 6, 7] k (fun kq v5 v6 v7 w' => ∃ (x5_1 : List (S149)) (x6_1 : List Int) (x7_1 : Int), v7 = .int .i64 x7_1 ∧ Aside0 (spec_l17Counting.l0 kq l0 a1 x5_1 x6_1 x7_1 = some r) ∧ Aside0 (kq ≤ k) ∧ Aside0 (Kd.R k149 149 w' w.heap.size (fun _ => True) v5 x5_1) ∧ Aside0 (Kd.R (Kd.int .i64) 3 w' w.heap.size (fun _ => True) v6 x6_1) ∧ Aside0 (Below w.heap.size w w'))
 case atStart => exact ⟨(y210), (y213), (0), tZB, H', ⟨Nat.le_refl _⟩, ⟨lZR HO212.out⟩, ⟨lZR HO215.out⟩, ⟨bZ⟩⟩
 case round =>
  clear H'
  try clear c1
  try clear p2
  obtain ⟨x5_1, x6_1, x7_1, rfl, HA, HK1, HO_5, HO_6, HB⟩ := hrel
  cases gk with
  | zero => exact absurd HA.out (by simp [spec_l17Counting.l0])
  | succ k1 =>
   have H := HA.out
   clear HA
   simp only [spec_l17Counting.l0] at H
   by_cases c7 : x7_1 < (l0.length : Int)
   rotate_left
   ·rw [if_neg c7] at H
    have c7b0 := decide_eq_false c7
    clear c7
    obtain rfl := Option.some.inj H
    go_wp2
    go_ret
    exact ⟨_, tZC, lZR HO_5.out, bZ⟩
   rw [if_pos c7] at H
   have c7b0 := decide_eq_true c7
   clear c7
   by_cases c8 : 0 ≤ x7_1
   rotate_left
   ·rw [if_neg c8] at H
    exact absurd H (by simp)
   rw [if_pos c8] at H
   have c8b0 := decide_eq_true c8
   clear c8
   have HC9 := Aside0.mk H
   clear H
   have p216 : 0 ≤ (x7_1 : Int) := of_decide_eq_true tZE
   have q216 : x7_1 < (l0.length : Int) := of_decide_eq_true tZE
   obtain ⟨ad216, e216, hx216_0, hx216_1, hx216_2, hx216_3, hx216_4, hx216_5⟩ := at_T149 HR0.out x7_1 p216 q216
   cases e216
   replace hx216_0 := cZ HB hx216_0
   replace hx216_1 := cZ HB hx216_1
   replace hx216_2 := cZ HB hx216_2
   replace hx216_3 := cZ HB hx216_3
   replace hx216_4 := cZ HB hx216_4
   replace hx216_5 := cZ HB hx216_5
   replace p216 := eq_true p216
   replace q216 := eq_true q216
   go_upto_region 7 with (first | ((with_reducible refine gate_dst (N := 8) rfl ?_); refine box_event ?hg (N := 8) ?hd (cs := #[.int .i64 0, .int .i64 0, .int .i64 0, .int .i64 0, .int .i64 0, .int .i64 0]) (t := 149) ?hr ?_; (case hd => rfl); (case hg => rfl); (case hr => first | (go_simp; done) | (go_simp; rfl)); intro gb217 hg w10 hbox hb; replace HO_5 := aZ (Kd.R_below (Kd.R_elderB (lZR HO_5.out) gb217 (Nat.le_of_eq hg.symm)) hb); replace HO_6 := aZ (Kd.R_below (lZR HO_6.out) hb); have BK217 := aZ (hbox); have GW217 := aZ ((by rw [hg]; exact (below_size (lZB HB.out)) : w.heap.size ≤ gb217)); have GE217 := aZ ((by rw [hg]; exact (below_size (lZB HB.out)) : w.heap.size ≤ gb217)); replace HB := aZ (below_step (lZB HB.out) hb); clear hb hbox hg; have hcz11_0 : w10.cell? ⟨gb217, 0, none⟩ = some (.int .i64 0) := (blk_cell BK217.out 0).trans rfl; have hcz11_1 : w10.cell? ⟨gb217, 1, none⟩ = some (.int .i64 0) := (blk_cell BK217.out 1).trans rfl; have hcz11_2 : w10.cell? ⟨gb217, 2, none⟩ = some (.int .i64 0) := (blk_cell BK217.out 2).trans rfl; have hcz11_3 : w10.cell? ⟨gb217, 3, none⟩ = some (.int .i64 0) := (blk_cell BK217.out 3).trans rfl; have hcz11_4 : w10.cell? ⟨gb217, 4, none⟩ = some (.int .i64 0) := (blk_cell BK217.out 4).trans rfl; have hcz11_5 : w10.cell? ⟨gb217, 5, none⟩ = some (.int .i64 0) := (blk_cell BK217.out 5).trans rfl; have hfz11_0 := blk_frozen BK217.out 0; have hfz11_1 := blk_frozen BK217.out 1; have hfz11_2 := blk_frozen BK217.out 2; have hfz11_3 := blk_frozen BK217.out 3; have hfz11_4 := blk_frozen BK217.out 4; have hfz11_5 := blk_frozen BK217.out 5))
   (try simp only [Act.put, sZ1, sZ2, sZ3])
   go_cut [33] (fun v33 wc => ∃ (kq : Nat) (x33_8 : Bool), v33 = .bool x33_8 ∧ Aside0 (spec_l17Counting.j1 kq l0 a1 x5_1 x6_1 x7_1 x33_8 ((rd_T149 l0 x7_1).f0) ((rd_T149 l0 x7_1).f1) ((rd_T149 l0 x7_1).f2) ((rd_T149 l0 x7_1).f3) ((rd_T149 l0 x7_1).f4) ((rd_T149 l0 x7_1).f5) = some r) ∧ Aside0 (kq ≤ k1) ∧ Aside0 (Kd.R k149 149 wc w.heap.size (fun k_ => k_ ≠ gb217) u5 x5_1) ∧ Aside0 (Kd.R (Kd.int .i64) 3 wc w.heap.size (fun _ => True) u6 x6_1) ∧ Aside0 (wc.heap[gb217]? = some (.cells #[.int .i64 ((rd_T149 l0 x7_1).f0), .int .i64 ((rd_T149 l0 x7_1).f1), .int .i64 ((rd_T149 l0 x7_1).f2), .int .i64 ((rd_T149 l0 x7_1).f3), .int .i64 ((rd_T149 l0 x7_1).f4), .int .i64 ((rd_T149 l0 x7_1).f5)] 149 (0, 0))) ∧ Aside0 (Below w.heap.size w wc))
   case first =>
    have H := HC9.out
    clear HC9
    replace H := Option.bind_eq_some_iff.mp H
    obtain ⟨t218, A120, H⟩ := H
    replace H : (if t218 = true then ((spec_l7Has.f k1 x6_1 ((rd_T149 l0 x7_1).f5)).bind fun t219 => (spec_l17Counting.j1 k1 l0 a1 x5_1 x6_1 x7_1 t219 ((rd_T149 l0 x7_1).f0) ((rd_T149 l0 x7_1).f1) ((rd_T149 l0 x7_1).f2) ((rd_T149 l0 x7_1).f3) ((rd_T149 l0 x7_1).f4) ((rd_T149 l0 x7_1).f5))) else (spec_l17Counting.j1 k1 l0 a1 x5_1 x6_1 x7_1 true ((rd_T149 l0 x7_1).f0) ((rd_T149 l0 x7_1).f1) ((rd_T149 l0 x7_1).f2) ((rd_T149 l0 x7_1).f3) ((rd_T149 l0 x7_1).f4) ((rd_T149 l0 x7_1).f5))) = some r := H
    have A12 := Aside0.mk A120
    clear A120
    by_cases c13 : t218 = true
    rotate_left
    ·replace c13 := Bool.eq_false_iff.mpr c13
     subst c13
     have H1 : (spec_l17Counting.j1 k1 l0 a1 x5_1 x6_1 x7_1 true ((rd_T149 l0 x7_1).f0) ((rd_T149 l0 x7_1).f1) ((rd_T149 l0 x7_1).f2) ((rd_T149 l0 x7_1).f3) ((rd_T149 l0 x7_1).f4) ((rd_T149 l0 x7_1).f5)) = some r := by rw [if_neg (show ¬ (false = true) by decide)] at H; exact H
     clear H
     have H := H1
     clear H1
     have H' := Aside0.mk H
     clear H
     have hcz17_0 : w10.cell? ⟨gb217, 0, none⟩ = some (.int .i64 0) := (blk_cell BK217.out 0).trans rfl
     have hcz17_1 : w10.cell? ⟨gb217, 1, none⟩ = some (.int .i64 0) := (blk_cell BK217.out 1).trans rfl
     have hcz17_2 : w10.cell? ⟨gb217, 2, none⟩ = some (.int .i64 0) := (blk_cell BK217.out 2).trans rfl
     have hcz17_3 : w10.cell? ⟨gb217, 3, none⟩ = some (.int .i64 0) := (blk_cell BK217.out 3).trans rfl
     have hcz17_4 : w10.cell? ⟨gb217, 4, none⟩ = some (.int .i64 0) := (blk_cell BK217.out 4).trans rfl
     have hcz17_5 : w10.cell? ⟨gb217, 5, none⟩ = some (.int .i64 0) := (blk_cell BK217.out 5).trans rfl
     have hfz17_0 := blk_frozen BK217.out 0
     have hfz17_1 := blk_frozen BK217.out 1
     have hfz17_2 := blk_frozen BK217.out 2
     have hfz17_3 := blk_frozen BK217.out 3
     have hfz17_4 := blk_frozen BK217.out 4
     have hfz17_5 := blk_frozen BK217.out 5
     go_wp2_with (first | ((with_reducible refine gate_callee (f := 72) rfl ?_); refine goesL_ (some 26) rfl rfl Try.func72 kZ rfl #[.int .i64 a1, .int .i64 ((rd_T149 l0 x7_1).f3), .int .i64 ((rd_T149 l0 x7_1).f4)] rfl tZA ?_; (with_reducible refine (spec_l1In.calls a1 ((rd_T149 l0 x7_1).f3) ((rd_T149 l0 x7_1).f4) false _ A12.out).mono ?_); rintro e w' ⟨rfl, ⟨nd, rfl⟩⟩; refine ⟨_, rfl, ?_⟩))
     go_meet
     case rel => exact ⟨_, (true), tZB, H', ⟨by have := HK1.out; first | omega | exact Nat.le_refl _⟩, ⟨by (with_reducible repeat (first | apply Kd.R_alloc | apply Kd.R_drewN | apply Kd.R_drew)); exact Kd.R_mono (Kd.R_far (p := ⟨gb217, 5, none⟩) (Kd.R_far (p := ⟨gb217, 4, none⟩) (Kd.R_far (p := ⟨gb217, 3, none⟩) (Kd.R_far (p := ⟨gb217, 2, none⟩) (Kd.R_far (p := ⟨gb217, 1, none⟩) (Kd.R_far (p := ⟨gb217, 0, none⟩) (Kd.R_mono HO_5.out (fun k_ hk => (⟨hk, hk.2⟩ : _ ∧ k_ ≠ gb217))) (fun _ hk => hk.2) (.int .i64 ((rd_T149 l0 x7_1).f0))) (fun _ hk => hk.2) (.int .i64 ((rd_T149 l0 x7_1).f1))) (fun _ hk => hk.2) (.int .i64 ((rd_T149 l0 x7_1).f2))) (fun _ hk => hk.2) (.int .i64 ((rd_T149 l0 x7_1).f3))) (fun _ hk => hk.2) (.int .i64 ((rd_T149 l0 x7_1).f4))) (fun _ hk => hk.2) (.int .i64 ((rd_T149 l0 x7_1).f5))) (fun _ hk => hk.1.2)⟩, ⟨by (with_reducible repeat (first | apply Kd.R_alloc | apply Kd.R_drewN | apply Kd.R_drew)); exact Kd.R_mono (Kd.R_far (p := ⟨gb217, 5, none⟩) (Kd.R_far (p := ⟨gb217, 4, none⟩) (Kd.R_far (p := ⟨gb217, 3, none⟩) (Kd.R_far (p := ⟨gb217, 2, none⟩) (Kd.R_far (p := ⟨gb217, 1, none⟩) (Kd.R_far (p := ⟨gb217, 0, none⟩) (Kd.R_types HO_6.out BK217.out (by decide)) (fun _ hk => hk.2) (.int .i64 ((rd_T149 l0 x7_1).f0))) (fun _ hk => hk.2) (.int .i64 ((rd_T149 l0 x7_1).f1))) (fun _ hk => hk.2) (.int .i64 ((rd_T149 l0 x7_1).f2))) (fun _ hk => hk.2) (.int .i64 ((rd_T149 l0 x7_1).f3))) (fun _ hk => hk.2) (.int .i64 ((rd_T149 l0 x7_1).f4))) (fun _ hk => hk.2) (.int .i64 ((rd_T149 l0 x7_1).f5))) (fun _ hk => trivial)⟩, ⟨by (with_reducible repeat (first | refine blk_drewN ?_ _ | refine blk_drew ?_ | refine blk_alloc ?_ _)); refine blk_put (cs := #[.int .i64 ((rd_T149 l0 x7_1).f0), .int .i64 ((rd_T149 l0 x7_1).f1), .int .i64 ((rd_T149 l0 x7_1).f2), .int .i64 ((rd_T149 l0 x7_1).f3), .int .i64 ((rd_T149 l0 x7_1).f4), .int .i64 0]) ?_ 5 _ rfl; (with_reducible repeat (first | refine blk_drewN ?_ _ | refine blk_drew ?_ | refine blk_alloc ?_ _)); refine blk_put (cs := #[.int .i64 ((rd_T149 l0 x7_1).f0), .int .i64 ((rd_T149 l0 x7_1).f1), .int .i64 ((rd_T149 l0 x7_1).f2), .int .i64 ((rd_T149 l0 x7_1).f3), .int .i64 0, .int .i64 0]) ?_ 4 _ rfl; (with_reducible repeat (first | refine blk_drewN ?_ _ | refine blk_drew ?_ | refine blk_alloc ?_ _)); refine blk_put (cs := #[.int .i64 ((rd_T149 l0 x7_1).f0), .int .i64 ((rd_T149 l0 x7_1).f1), .int .i64 ((rd_T149 l0 x7_1).f2), .int .i64 0, .int .i64 0, .int .i64 0]) ?_ 3 _ rfl; (with_reducible repeat (first | refine blk_drewN ?_ _ | refine blk_drew ?_ | refine blk_alloc ?_ _)); refine blk_put (cs := #[.int .i64 ((rd_T149 l0 x7_1).f0), .int .i64 ((rd_T149 l0 x7_1).f1), .int .i64 0, .int .i64 0, .int .i64 0, .int .i64 0]) ?_ 2 _ rfl; (with_reducible repeat (first | refine blk_drewN ?_ _ | refine blk_drew ?_ | refine blk_alloc ?_ _)); refine blk_put (cs := #[.int .i64 ((rd_T149 l0 x7_1).f0), .int .i64 0, .int .i64 0, .int .i64 0, .int .i64 0, .int .i64 0]) ?_ 1 _ rfl; (with_reducible repeat (first | refine blk_drewN ?_ _ | refine blk_drew ?_ | refine blk_alloc ?_ _)); refine blk_put (cs := #[.int .i64 0, .int .i64 0, .int .i64 0, .int .i64 0, .int .i64 0, .int .i64 0]) ?_ 0 _ rfl; (with_reducible repeat (first | refine blk_drewN ?_ _ | refine blk_drew ?_ | refine blk_alloc ?_ _)); exact BK217.out⟩, ⟨bZ⟩⟩
    subst c13
    have H1 : ((spec_l7Has.f k1 x6_1 ((rd_T149 l0 x7_1).f5)).bind fun t219 => (spec_l17Counting.j1 k1 l0 a1 x5_1 x6_1 x7_1 t219 ((rd_T149 l0 x7_1).f0) ((rd_T149 l0 x7_1).f1) ((rd_T149 l0 x7_1).f2) ((rd_T149 l0 x7_1).f3) ((rd_T149 l0 x7_1).f4) ((rd_T149 l0 x7_1).f5))) = some r := by rw [if_pos rfl] at H; exact H
    clear H
    have H := H1
    clear H1
    replace H := Option.bind_eq_some_iff.mp H
    obtain ⟨t219, A140, H⟩ := H
    replace H : (spec_l17Counting.j1 k1 l0 a1 x5_1 x6_1 x7_1 t219 ((rd_T149 l0 x7_1).f0) ((rd_T149 l0 x7_1).f1) ((rd_T149 l0 x7_1).f2) ((rd_T149 l0 x7_1).f3) ((rd_T149 l0 x7_1).f4) ((rd_T149 l0 x7_1).f5)) = some r := H
    have A14 := Aside0.mk A140
    clear A140
    have H' := Aside0.mk H
    clear H
    have hcz15_0 : w10.cell? ⟨gb217, 0, none⟩ = some (.int .i64 0) := (blk_cell BK217.out 0).trans rfl
    have hcz15_1 : w10.cell? ⟨gb217, 1, none⟩ = some (.int .i64 0) := (blk_cell BK217.out 1).trans rfl
    have hcz15_2 : w10.cell? ⟨gb217, 2, none⟩ = some (.int .i64 0) := (blk_cell BK217.out 2).trans rfl
    have hcz15_3 : w10.cell? ⟨gb217, 3, none⟩ = some (.int .i64 0) := (blk_cell BK217.out 3).trans rfl
    have hcz15_4 : w10.cell? ⟨gb217, 4, none⟩ = some (.int .i64 0) := (blk_cell BK217.out 4).trans rfl
    have hcz15_5 : w10.cell? ⟨gb217, 5, none⟩ = some (.int .i64 0) := (blk_cell BK217.out 5).trans rfl
    have hfz15_0 := blk_frozen BK217.out 0
    have hfz15_1 := blk_frozen BK217.out 1
    have hfz15_2 := blk_frozen BK217.out 2
    have hfz15_3 := blk_frozen BK217.out 3
    have hfz15_4 := blk_frozen BK217.out 4
    have hfz15_5 := blk_frozen BK217.out 5
    go_wp2_with (first | ((with_reducible refine gate_callee (f := 72) rfl ?_); refine goesL_ (some 26) rfl rfl Try.func72 kZ rfl #[.int .i64 a1, .int .i64 ((rd_T149 l0 x7_1).f3), .int .i64 ((rd_T149 l0 x7_1).f4)] rfl tZA ?_; (with_reducible refine (spec_l1In.calls a1 ((rd_T149 l0 x7_1).f3) ((rd_T149 l0 x7_1).f4) true _ A12.out).mono ?_); rintro e w' ⟨rfl, ⟨nd, rfl⟩⟩; refine ⟨_, rfl, ?_⟩; obtain ⟨Ao16, co16, eo16⟩ := Kd.R_slice HO_6.out; subst eo16) | (go_at_call 161; (with_reducible refine (spec_l7Has.calls k1 _ _ x6_1 ((rd_T149 l0 x7_1).f5) t219 _ ?side1 ?side2 A14.out).mono ?_); (case side1 => refine (Kd.R_reads' (e := 3) (base := w.heap.size) (ok := fun k_ => True) (n := x6_1.length) (c := co16) ?_).2.2; exact (by (with_reducible repeat (first | apply Kd.R_alloc | apply Kd.R_drewN | apply Kd.R_drew)); exact (Kd.R_mono (Kd.R_far (p := ⟨gb217, 5, none⟩) (Kd.R_far (p := ⟨gb217, 4, none⟩) (Kd.R_far (p := ⟨gb217, 3, none⟩) (Kd.R_far (p := ⟨gb217, 2, none⟩) (Kd.R_far (p := ⟨gb217, 1, none⟩) (Kd.R_far (p := ⟨gb217, 0, none⟩) (Kd.R_types HO_6.out BK217.out (by decide)) (fun _ hk => hk.2) (.int .i64 ((rd_T149 l0 x7_1).f0))) (fun _ hk => hk.2) (.int .i64 ((rd_T149 l0 x7_1).f1))) (fun _ hk => hk.2) (.int .i64 ((rd_T149 l0 x7_1).f2))) (fun _ hk => hk.2) (.int .i64 ((rd_T149 l0 x7_1).f3))) (fun _ hk => hk.2) (.int .i64 ((rd_T149 l0 x7_1).f4))) (fun _ hk => hk.2) (.int .i64 ((rd_T149 l0 x7_1).f5))) (fun _ h_ => h_.1)))); (case side2 => exact (Kd.R_reads' HO_6.out).2.1); rintro e w' ⟨rfl, ⟨nd, rfl⟩⟩))
    go_meet
    case rel => exact ⟨_, (t219), tZB, H', ⟨by have := HK1.out; first | omega | exact Nat.le_refl _⟩, ⟨by (with_reducible repeat (first | apply Kd.R_alloc | apply Kd.R_drewN | apply Kd.R_drew)); exact Kd.R_mono (Kd.R_far (p := ⟨gb217, 5, none⟩) (Kd.R_far (p := ⟨gb217, 4, none⟩) (Kd.R_far (p := ⟨gb217, 3, none⟩) (Kd.R_far (p := ⟨gb217, 2, none⟩) (Kd.R_far (p := ⟨gb217, 1, none⟩) (Kd.R_far (p := ⟨gb217, 0, none⟩) (Kd.R_mono HO_5.out (fun k_ hk => (⟨hk, hk.2⟩ : _ ∧ k_ ≠ gb217))) (fun _ hk => hk.2) (.int .i64 ((rd_T149 l0 x7_1).f0))) (fun _ hk => hk.2) (.int .i64 ((rd_T149 l0 x7_1).f1))) (fun _ hk => hk.2) (.int .i64 ((rd_T149 l0 x7_1).f2))) (fun _ hk => hk.2) (.int .i64 ((rd_T149 l0 x7_1).f3))) (fun _ hk => hk.2) (.int .i64 ((rd_T149 l0 x7_1).f4))) (fun _ hk => hk.2) (.int .i64 ((rd_T149 l0 x7_1).f5))) (fun _ hk => hk.1.2)⟩, ⟨by (with_reducible repeat (first | apply Kd.R_alloc | apply Kd.R_drewN | apply Kd.R_drew)); exact Kd.R_mono (Kd.R_far (p := ⟨gb217, 5, none⟩) (Kd.R_far (p := ⟨gb217, 4, none⟩) (Kd.R_far (p := ⟨gb217, 3, none⟩) (Kd.R_far (p := ⟨gb217, 2, none⟩) (Kd.R_far (p := ⟨gb217, 1, none⟩) (Kd.R_far (p := ⟨gb217, 0, none⟩) (Kd.R_types HO_6.out BK217.out (by decide)) (fun _ hk => hk.2) (.int .i64 ((rd_T149 l0 x7_1).f0))) (fun _ hk => hk.2) (.int .i64 ((rd_T149 l0 x7_1).f1))) (fun _ hk => hk.2) (.int .i64 ((rd_T149 l0 x7_1).f2))) (fun _ hk => hk.2) (.int .i64 ((rd_T149 l0 x7_1).f3))) (fun _ hk => hk.2) (.int .i64 ((rd_T149 l0 x7_1).f4))) (fun _ hk => hk.2) (.int .i64 ((rd_T149 l0 x7_1).f5))) (fun _ hk => trivial)⟩, ⟨by (with_reducible repeat (first | refine blk_drewN ?_ _ | refine blk_drew ?_ | refine blk_alloc ?_ _)); refine blk_put (cs := #[.int .i64 ((rd_T149 l0 x7_1).f0), .int .i64 ((rd_T149 l0 x7_1).f1), .int .i64 ((rd_T149 l0 x7_1).f2), .int .i64 ((rd_T149 l0 x7_1).f3), .int .i64 ((rd_T149 l0 x7_1).f4), .int .i64 0]) ?_ 5 _ rfl; (with_reducible repeat (first | refine blk_drewN ?_ _ | refine blk_drew ?_ | refine blk_alloc ?_ _)); refine blk_put (cs := #[.int .i64 ((rd_T149 l0 x7_1).f0), .int .i64 ((rd_T149 l0 x7_1).f1), .int .i64 ((rd_T149 l0 x7_1).f2), .int .i64 ((rd_T149 l0 x7_1).f3), .int .i64 0, .int .i64 0]) ?_ 4 _ rfl; (with_reducible repeat (first | refine blk_drewN ?_ _ | refine blk_drew ?_ | refine blk_alloc ?_ _)); refine blk_put (cs := #[.int .i64 ((rd_T149 l0 x7_1).f0), .int .i64 ((rd_T149 l0 x7_1).f1), .int .i64 ((rd_T149 l0 x7_1).f2), .int .i64 0, .int .i64 0, .int .i64 0]) ?_ 3 _ rfl; (with_reducible repeat (first | refine blk_drewN ?_ _ | refine blk_drew ?_ | refine blk_alloc ?_ _)); refine blk_put (cs := #[.int .i64 ((rd_T149 l0 x7_1).f0), .int .i64 ((rd_T149 l0 x7_1).f1), .int .i64 0, .int .i64 0, .int .i64 0, .int .i64 0]) ?_ 2 _ rfl; (with_reducible repeat (first | refine blk_drewN ?_ _ | refine blk_drew ?_ | refine blk_alloc ?_ _)); refine blk_put (cs := #[.int .i64 ((rd_T149 l0 x7_1).f0), .int .i64 0, .int .i64 0, .int .i64 0, .int .i64 0, .int .i64 0]) ?_ 1 _ rfl; (with_reducible repeat (first | refine blk_drewN ?_ _ | refine blk_drew ?_ | refine blk_alloc ?_ _)); refine blk_put (cs := #[.int .i64 0, .int .i64 0, .int .i64 0, .int .i64 0, .int .i64 0, .int .i64 0]) ?_ 0 _ rfl; (with_reducible repeat (first | refine blk_drewN ?_ _ | refine blk_drew ?_ | refine blk_alloc ?_ _)); exact BK217.out⟩, ⟨bZ⟩⟩
   case rest =>
    clear HC9
    try clear c1
    try clear p2
    try clear q2
    try clear hx2
    try clear c7
    try clear c7b0
    try clear c8
    try clear c8b0
    try clear c10
    try clear c13
    try clear hcz11_0
    try clear hcz11_1
    try clear hcz11_2
    try clear hcz11_3
    try clear hcz11_4
    try clear hcz11_5
    try clear hcz15_0
    try clear hcz15_1
    try clear hcz15_2
    try clear hcz15_3
    try clear hcz15_4
    try clear hcz15_5
    try clear hcz17_0
    try clear hcz17_1
    try clear hcz17_2
    try clear hcz17_3
    try clear hcz17_4
    try clear hcz17_5
    try clear hfz11_0
    try clear hfz11_1
    try clear hfz11_2
    try clear hfz11_3
    try clear hfz11_4
    try clear hfz11_5
    try clear hfz15_0
    try clear hfz15_1
    try clear hfz15_2
    try clear hfz15_3
    try clear hfz15_4
    try clear hfz15_5
    try clear hfz17_0
    try clear hfz17_1
    try clear hfz17_2
    try clear hfz17_3
    try clear hfz17_4
    try clear hfz17_5
    try clear hx216_0
    try clear hx216_1
    try clear hx216_2
    try clear hx216_3
    try clear hx216_4
    try clear hx216_5
    try clear p2
    try clear p216
    try clear q216
    obtain ⟨kq, x33_8, rfl, HA, HJ8, HO_5, HO_6, BK217, HB⟩ := hcut
    cases kq with
    | zero => exact absurd HA.out (by simp [spec_l17Counting.j1])
    | succ kj8 =>
     have H := HA.out
     clear HA
     simp only [spec_l17Counting.j1] at H
     by_cases c18 : x33_8 = true
     ·subst c18
      have H1 : (spec_l17Counting.l0 kj8 l0 a1 x5_1 x6_1 (wrap64 (x7_1 + 1))) = some r := by rw [if_pos rfl] at H; exact H
      clear H
      have H := H1
      clear H1
      have H' := Aside0.mk H
      clear H
      go_wp2
      go_roundg kj8
      case measure => have := HK1.out; have := HJ8.out; omega
      case rel => exact ⟨(x5_1), (x6_1), (wrap64 (x7_1 + 1)), tZB, H', ⟨by have := HK1.out; have := HJ8.out; omega⟩, ⟨by (with_reducible repeat (first | apply Kd.R_alloc | apply Kd.R_drewN | apply Kd.R_drew)); exact Kd.R_mono HO_5.out (fun _ hk => trivial)⟩, ⟨lZR HO_6.out⟩, ⟨bZ⟩⟩
     replace c18 := Bool.eq_false_iff.mpr c18
     subst c18
     have H1 : (if ((rd_T149 l0 x7_1).f5) > 0 then (if x6_1.length < 17592186044416 then (if x5_1.length < 2932031007402 then (spec_l17Counting.l0 kj8 l0 a1 (x5_1 ++ [(⟨((rd_T149 l0 x7_1).f0), ((rd_T149 l0 x7_1).f1), ((rd_T149 l0 x7_1).f2), ((rd_T149 l0 x7_1).f3), ((rd_T149 l0 x7_1).f4), ((rd_T149 l0 x7_1).f5)⟩ : S149)]) (x6_1 ++ [((rd_T149 l0 x7_1).f5)]) (wrap64 (x7_1 + 1))) else (none)) else (none)) else (if x5_1.length < 2932031007402 then (spec_l17Counting.l0 kj8 l0 a1 (x5_1 ++ [(⟨((rd_T149 l0 x7_1).f0), ((rd_T149 l0 x7_1).f1), ((rd_T149 l0 x7_1).f2), ((rd_T149 l0 x7_1).f3), ((rd_T149 l0 x7_1).f4), ((rd_T149 l0 x7_1).f5)⟩ : S149)]) x6_1 (wrap64 (x7_1 + 1))) else (none))) = some r := by rw [if_neg (show ¬ (false = true) by decide)] at H; exact H
     clear H
     have H := H1
     clear H1
     by_cases c19 : ((rd_T149 l0 x7_1).f5) > 0
     rotate_left
     ·rw [if_neg c19] at H
      have c19b0 : decide (0 < ((rd_T149 l0 x7_1).f5)) = false := decide_eq_false c19
      clear c19
      by_cases c26 : x5_1.length < 2932031007402
      rotate_left
      ·rw [if_neg c26] at H
       exact absurd H (by simp)
      rw [if_pos c26] at H
      have LMc26 := Aside0.mk c26
      clear c26
      obtain ⟨y226, hy226⟩ : ∃ y_ : List (S149), y_ = (x5_1 ++ [(⟨((rd_T149 l0 x7_1).f0), ((rd_T149 l0 x7_1).f1), ((rd_T149 l0 x7_1).f2), ((rd_T149 l0 x7_1).f3), ((rd_T149 l0 x7_1).f4), ((rd_T149 l0 x7_1).f5)⟩ : S149)]) := ⟨_, rfl⟩
      replace H : (spec_l17Counting.l0 kj8 l0 a1 y226 x6_1 (wrap64 (x7_1 + 1))) = some r := by first | (rw [hy226]; with_reducible exact H) | (have H2_ := (Option.bind_some _ _).symm.trans H; rw [hy226]; with_reducible exact H2_) | (have H2_ := (Option.bind_some _ _).symm.trans H; with_reducible exact H2_) | with_reducible exact H | (rw [hy226]; exact H) | exact H
      have Ny226 := Aside0.mk hy226
      clear hy226
      have H' := Aside0.mk H
      clear H
      have hcz27_0 : wc.cell? ⟨gb217, 0, none⟩ = some (.int .i64 ((rd_T149 l0 x7_1).f0)) := (blk_cell BK217.out 0).trans rfl
      have hcz27_1 : wc.cell? ⟨gb217, 1, none⟩ = some (.int .i64 ((rd_T149 l0 x7_1).f1)) := (blk_cell BK217.out 1).trans rfl
      have hcz27_2 : wc.cell? ⟨gb217, 2, none⟩ = some (.int .i64 ((rd_T149 l0 x7_1).f2)) := (blk_cell BK217.out 2).trans rfl
      have hcz27_3 : wc.cell? ⟨gb217, 3, none⟩ = some (.int .i64 ((rd_T149 l0 x7_1).f3)) := (blk_cell BK217.out 3).trans rfl
      have hcz27_4 : wc.cell? ⟨gb217, 4, none⟩ = some (.int .i64 ((rd_T149 l0 x7_1).f4)) := (blk_cell BK217.out 4).trans rfl
      have hcz27_5 : wc.cell? ⟨gb217, 5, none⟩ = some (.int .i64 ((rd_T149 l0 x7_1).f5)) := (blk_cell BK217.out 5).trans rfl
      have hfz27_0 := blk_frozen BK217.out 0
      have hfz27_1 := blk_frozen BK217.out 1
      have hfz27_2 := blk_frozen BK217.out 2
      have hfz27_3 := blk_frozen BK217.out 3
      have hfz27_4 := blk_frozen BK217.out 4
      have hfz27_5 := blk_frozen BK217.out 5
      go_wp2_with (first | ((with_reducible refine gate_builtin (b := .append) (xs := #[.tmp 42, .tmp 44]) rfl ?_); at_builtin; refine Kd.R_append k149 (w0 := w) w.heap.size rfl (.tmp 42) (.tmp 44) 128 149 (.agg #[(.int .i64 0), (.int .i64 0), (.int .i64 0), (.int .i64 0), (.int .i64 0), (.int .i64 0)]) 48 rfl Try.underlying128 info149 rfl (by decide) (by omega) u5 x5_1 (⟨((rd_T149 l0 x7_1).f0), ((rd_T149 l0 x7_1).f1), ((rd_T149 l0 x7_1).f2), ((rd_T149 l0 x7_1).f3), ((rd_T149 l0 x7_1).f4), ((rd_T149 l0 x7_1).f5)⟩ : S149) [.int .i64 ((rd_T149 l0 x7_1).f0), .int .i64 ((rd_T149 l0 x7_1).f1), .int .i64 ((rd_T149 l0 x7_1).f2), .int .i64 ((rd_T149 l0 x7_1).f3), .int .i64 ((rd_T149 l0 x7_1).f4), .int .i64 ((rd_T149 l0 x7_1).f5)] (fun k_ => k_ ≠ gb217) (fun _ => False) rfl rfl ?aP (fun _ hk => hk.elim) ?aF ?aO ?aB ?aS ?aL ?_; (case aP => exact k149_mkM _ _ _ (⟨((rd_T149 l0 x7_1).f0), ((rd_T149 l0 x7_1).f1), ((rd_T149 l0 x7_1).f2), ((rd_T149 l0 x7_1).f3), ((rd_T149 l0 x7_1).f4), ((rd_T149 l0 x7_1).f5)⟩ : S149)); (case aB => exact bZ); (case aF => exact (fun k_ hk => Kd.freshB (bkZ BK217.out) k_ hk)); (case aO => exact (lZR HO_5.out)); (case aS => exact (below_size bZ)); (case aL => have := LMc26.out; omega); intro v227 w28 ho hb hg hat; rw [← Ny226.out] at ho; replace HO_6 := aZ (Kd.R_over' (lZR HO_6.out) (Kd.R_typed (lZR HO_5.out)) (by decide) hg); replace BK217 := aZ (blk_grown (bkZ BK217.out) hg (Kd.R_away HO_5.out (fun _ hk => hk))); replace HB := aZ (hb); have HO228 := aZ (ho); clear HO_5; clear ho hb hg hat))
      go_roundg kj8
      case measure => have := HK1.out; have := HJ8.out; omega
      case rel => exact ⟨(y226), (x6_1), (wrap64 (x7_1 + 1)), tZB, H', ⟨by have := HK1.out; have := HJ8.out; omega⟩, ⟨by (with_reducible repeat (first | apply Kd.R_alloc | apply Kd.R_drewN | apply Kd.R_drew)); exact Kd.R_mono HO228.out (fun _ hk => trivial)⟩, ⟨lZR HO_6.out⟩, ⟨bZ⟩⟩
     rw [if_pos c19] at H
     have c19b0 : decide (0 < ((rd_T149 l0 x7_1).f5)) = true := decide_eq_true c19
     clear c19
     by_cases c20 : x6_1.length < 17592186044416
     rotate_left
     ·rw [if_neg c20] at H
      exact absurd H (by simp)
     rw [if_pos c20] at H
     have LMc20 := Aside0.mk c20
     clear c20
     obtain ⟨y220, hy220⟩ : ∃ y_ : List Int, y_ = (x6_1 ++ [((rd_T149 l0 x7_1).f5)]) := ⟨_, rfl⟩
     replace H : (if x5_1.length < 2932031007402 then (spec_l17Counting.l0 kj8 l0 a1 (x5_1 ++ [(⟨((rd_T149 l0 x7_1).f0), ((rd_T149 l0 x7_1).f1), ((rd_T149 l0 x7_1).f2), ((rd_T149 l0 x7_1).f3), ((rd_T149 l0 x7_1).f4), ((rd_T149 l0 x7_1).f5)⟩ : S149)]) y220 (wrap64 (x7_1 + 1))) else (none)) = some r := by first | (rw [hy220]; with_reducible exact H) | (have H2_ := (Option.bind_some _ _).symm.trans H; rw [hy220]; with_reducible exact H2_) | (have H2_ := (Option.bind_some _ _).symm.trans H; with_reducible exact H2_) | with_reducible exact H | (rw [hy220]; exact H) | exact H
     have Ny220 := Aside0.mk hy220
     clear hy220
     by_cases c21 : x5_1.length < 2932031007402
     rotate_left
     ·rw [if_neg c21] at H
      exact absurd H (by simp)
     rw [if_pos c21] at H
     have LMc21 := Aside0.mk c21
     clear c21
     obtain ⟨y223, hy223⟩ : ∃ y_ : List (S149), y_ = (x5_1 ++ [(⟨((rd_T149 l0 x7_1).f0), ((rd_T149 l0 x7_1).f1), ((rd_T149 l0 x7_1).f2), ((rd_T149 l0 x7_1).f3), ((rd_T149 l0 x7_1).f4), ((rd_T149 l0 x7_1).f5)⟩ : S149)]) := ⟨_, rfl⟩
     replace H : (spec_l17Counting.l0 kj8 l0 a1 y223 y220 (wrap64 (x7_1 + 1))) = some r := by first | (rw [hy223]; with_reducible exact H) | (have H2_ := (Option.bind_some _ _).symm.trans H; rw [hy223]; with_reducible exact H2_) | (have H2_ := (Option.bind_some _ _).symm.trans H; with_reducible exact H2_) | with_reducible exact H | (rw [hy223]; exact H) | exact H
     have Ny223 := Aside0.mk hy223
     clear hy223
     have H' := Aside0.mk H
     clear H
     have hcz22_0 : wc.cell? ⟨gb217, 0, none⟩ = some (.int .i64 ((rd_T149 l0 x7_1).f0)) := (blk_cell BK217.out 0).trans rfl
     have hcz22_1 : wc.cell? ⟨gb217, 1, none⟩ = some (.int .i64 ((rd_T149 l0 x7_1).f1)) := (blk_cell BK217.out 1).trans rfl
     have hcz22_2 : wc.cell? ⟨gb217, 2, none⟩ = some (.int .i64 ((rd_T149 l0 x7_1).f2)) := (blk_cell BK217.out 2).trans rfl
     have hcz22_3 : wc.cell? ⟨gb217, 3, none⟩ = some (.int .i64 ((rd_T149 l0 x7_1).f3)) := (blk_cell BK217.out 3).trans rfl
     have hcz22_4 : wc.cell? ⟨gb217, 4, none⟩ = some (.int .i64 ((rd_T149 l0 x7_1).f4)) := (blk_cell BK217.out 4).trans rfl
     have hcz22_5 : wc.cell? ⟨gb217, 5, none⟩ = some (.int .i64 ((rd_T149 l0 x7_1).f5)) := (blk_cell BK217.out 5).trans rfl
     have hfz22_0 := blk_frozen BK217.out 0
     have hfz22_1 := blk_frozen BK217.out 1
     have hfz22_2 := blk_frozen BK217.out 2
     have hfz22_3 := blk_frozen BK217.out 3
     have hfz22_4 := blk_frozen BK217.out 4
     have hfz22_5 := blk_frozen BK217.out 5
     go_wp2_with (first | ((with_reducible refine gate_builtin (b := .append) (xs := #[.tmp 37, .tmp 40]) rfl ?_); at_builtin; refine Kd.R_append (Kd.int .i64) (w0 := w) w.heap.size rfl (.tmp 37) (.tmp 40) 51 3 (.int .i64 0) 8 rfl Try.underlying51 info3 rfl (by decide) (by omega) u6 x6_1 ((rd_T149 l0 x7_1).f5) [.int .i64 ((rd_T149 l0 x7_1).f5)] (fun _ => True) (fun _ => False) rfl rfl ?aP (fun _ hk => hk.elim) ?aF ?aO ?aB ?aS ?aL ?_; (case aP => exact rfl); (case aB => exact bZ); (case aF => exact (fun _ _ => trivial)); (case aO => exact (lZR HO_6.out)); (case aS => exact (below_size bZ)); (case aL => have := LMc20.out; omega); intro v221 w23 ho hb hg hat; rw [← Ny220.out] at ho; replace HO_5 := aZ (Kd.R_over' (lZR HO_5.out) (Kd.R_typed (lZR HO_6.out)) (by decide) hg); replace BK217 := aZ (blk_grown (bkZ BK217.out) hg (Kd.R_ne HO_6.out BK217.out (by decide))); replace HB := aZ (hb); have HO222 := aZ (ho); clear HO_6; clear ho hb hg hat; have hcz24_0 : w23.cell? ⟨gb217, 0, none⟩ = some (.int .i64 ((rd_T149 l0 x7_1).f0)) := (blk_cell BK217.out 0).trans rfl; have hcz24_1 : w23.cell? ⟨gb217, 1, none⟩ = some (.int .i64 ((rd_T149 l0 x7_1).f1)) := (blk_cell BK217.out 1).trans rfl; have hcz24_2 : w23.cell? ⟨gb217, 2, none⟩ = some (.int .i64 ((rd_T149 l0 x7_1).f2)) := (blk_cell BK217.out 2).trans rfl; have hcz24_3 : w23.cell? ⟨gb217, 3, none⟩ = some (.int .i64 ((rd_T149 l0 x7_1).f3)) := (blk_cell BK217.out 3).trans rfl; have hcz24_4 : w23.cell? ⟨gb217, 4, none⟩ = some (.int .i64 ((rd_T149 l0 x7_1).f4)) := (blk_cell BK217.out 4).trans rfl; have hcz24_5 : w23.cell? ⟨gb217, 5, none⟩ = some (.int .i64 ((rd_T149 l0 x7_1).f5)) := (blk_cell BK217.out 5).trans rfl; have hfz24_0 := blk_frozen BK217.out 0; have hfz24_1 := blk_frozen BK217.out 1; have hfz24_2 := blk_frozen BK217.out 2; have hfz24_3 := blk_frozen BK217.out 3; have hfz24_4 := blk_frozen BK217.out 4; have hfz24_5 := blk_frozen BK217.out 5) | ((with_reducible refine gate_builtin (b := .append) (xs := #[.tmp 42, .tmp 44]) rfl ?_); at_builtin; refine Kd.R_append k149 (w0 := w) w.heap.size rfl (.tmp 42) (.tmp 44) 128 149 (.agg #[(.int .i64 0), (.int .i64 0), (.int .i64 0), (.int .i64 0), (.int .i64 0), (.int .i64 0)]) 48 rfl Try.underlying128 info149 rfl (by decide) (by omega) u5 x5_1 (⟨((rd_T149 l0 x7_1).f0), ((rd_T149 l0 x7_1).f1), ((rd_T149 l0 x7_1).f2), ((rd_T149 l0 x7_1).f3), ((rd_T149 l0 x7_1).f4), ((rd_T149 l0 x7_1).f5)⟩ : S149) [.int .i64 ((rd_T149 l0 x7_1).f0), .int .i64 ((rd_T149 l0 x7_1).f1), .int .i64 ((rd_T149 l0 x7_1).f2), .int .i64 ((rd_T149 l0 x7_1).f3), .int .i64 ((rd_T149 l0 x7_1).f4), .int .i64 ((rd_T149 l0 x7_1).f5)] (fun k_ => k_ ≠ gb217) (fun _ => False) rfl rfl ?aP (fun _ hk => hk.elim) ?aF ?aO ?aB ?aS ?aL ?_; (case aP => exact k149_mkM _ _ _ (⟨((rd_T149 l0 x7_1).f0), ((rd_T149 l0 x7_1).f1), ((rd_T149 l0 x7_1).f2), ((rd_T149 l0 x7_1).f3), ((rd_T149 l0 x7_1).f4), ((rd_T149 l0 x7_1).f5)⟩ : S149)); (case aB => exact bZ); (case aF => exact (fun k_ hk => Kd.freshB (bkZ BK217.out) k_ hk)); (case aO => exact (lZR HO_5.out)); (case aS => exact (below_size bZ)); (case aL => have := LMc21.out; omega); intro v224 w25 ho hb hg hat; rw [← Ny223.out] at ho; replace BK217 := aZ (blk_grown (bkZ BK217.out) hg (Kd.R_away HO_5.out (fun _ hk => hk))); replace HO222 := aZ (Kd.R_over' (lZR HO222.out) (Kd.R_typed (lZR HO_5.out)) (by decide) hg); replace HB := aZ (hb); have HO225 := aZ (ho); clear HO_5; clear ho hb hg hat))
     go_roundg kj8
     case measure => have := HK1.out; have := HJ8.out; omega
     case rel => exact ⟨(y223), (y220), (wrap64 (x7_1 + 1)), tZB, H', ⟨by have := HK1.out; have := HJ8.out; omega⟩, ⟨by (with_reducible repeat (first | apply Kd.R_alloc | apply Kd.R_drewN | apply Kd.R_drew)); exact Kd.R_mono HO225.out (fun _ hk => trivial)⟩, ⟨lZR HO222.out⟩, ⟨bZ⟩⟩
end Go.Proofs.Ytjnmfadnkbflfaa.PFnExactOutput
