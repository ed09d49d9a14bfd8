import Derived.Test.YtmpknbdbichdiaaLPFnExactLedgerOkx0
import Derived.Test.YtmpknbdbichdiaaLPFnExactLedgerOkx8
import Derived.Test.YtmpknbdbichdiaaLPFnExactLedgerOkx10
import Derived.Test.YtmpknbdbichdiaaLSlimWords
namespace Go.Proofs.Ytmpknbdbichdiaa.PFnExactLedgerOk
open Go.Proofs.Ytmpknbdbichdiaa.SlimWords
open Go.RowKit Go.Proofs.YtmpknbdbichdiaaW.PrintWords Go.Proofs.YtmpknbdbichdiaaW.PrintLast Go.Proofs.YtmpknbdbichdiaaW.PrintMore Go.Proofs.Ytmpknbdbichdiaa.MapWords Go.Proofs.Ytmpknbdbichdiaa.IterWords Go.Proofs.Ytmpknbdbichdiaa.MarkWords
attribute [local go_sem] max2_int min2_int max_two min_two max_three min_three max_four min_four
set_option linter.unusedVariables false
set_option linter.unusedSimpArgs false
def impl_ChartOk.f (k : Nat) (l0 : List (S222)) : Option (Bool) := (impl_depths.f k l0).bind fun bt266 => (some bt266.2)
theorem impl_ChartOk.mono : ∀ a0 k, LeO (impl_ChartOk.f k a0) (impl_ChartOk.f (k + 1) a0) := by
 intro a0 k
 unfold impl_ChartOk.f
 repeat' first
     | (with_reducible exact impl_depths.mono _ _)
     | (with_reducible exact LeO.refl _)
     | (with_reducible exact LeO.none _)
     | (with_reducible refine LeO.ite ?_ ?_)
     | (with_reducible refine LeO.bind ?_ (fun _ => ?_))
     | exact impl_depths.mono _ _
     | exact LeO.none _
     | refine LeO.ite ?_ ?_
     | refine LeO.bind ?_ (fun _ => ?_)
set_option maxHeartbeats 8000000 in
set_option maxRecDepth 100000 in
theorem impl_ChartOk.calls (k : Nat) (A0 : Option Addr) (c0 : Nat) (l0 : List (S222)) (r : Bool) (w : World) (hr0 : Kd.C k222 w A0 l0.length l0) (hc0 : l0.length ≤ c0) (h : impl_ChartOk.f k l0 = some r) :
    Calls Try.prog 168 #[.slice A0 l0.length c0] w fun e w' => e = .returned (.bool r) ∧ Below w.heap.size w w' := by
 have HR0 := Aside0.mk hr0; have HC0 := Aside0.mk hc0; clear hr0 hc0; have HB := aZ (Below.refl w.heap.size w); have H : ((impl_depths.f k l0).bind fun bt266 => (some bt266.2)) = some r := h; clear h; replace H := Option.bind_eq_some_iff.mp H; obtain ⟨⟨t266, t267⟩, A20, H⟩ := H; replace H : (some t267) = some r := H; have A2 := Aside0.mk A20; clear A20; obtain rfl := Option.some.inj H; go_enter Try.func168, Try.ntmps168
 go_wp2_with (first | ((with_reducible refine gate_callee (f := 200) rfl ?_); refine goesL_ (some 7) rfl rfl Try.func200 kZ rfl #[.slice A0 l0.length c0] rfl tZA ?_; (with_reducible refine (impl_depths.calls k _ _ l0 t266 t267 _ ?side1 ?side2 A2.out).mono ?_); (case side1 => repeat (first | exact HR0.out | (with_reducible refine Kd.C_alloc ?_ _) | (with_reducible refine Kd.C_drewN ?_ _) | (with_reducible refine Kd.C_drew ?_))); (case side2 => exact HC0.out); rintro e w3 ⟨v268, rfl, ho0, hb⟩; refine ⟨_, rfl, ?_⟩; have HO269 := aZ (Kd.R_lower ho0 (below_size (lZB HB.out))); replace HB := aZ (below_step (lZB HB.out) hb); (try clear hb); (try clear hb2); (try clear hk); (try clear hi); (try clear ho0)))
 go_ret; exact ⟨tZC, bZ⟩
def impl_FrameOk.f (k : Nat) (l0_0 : List (S222)) (a0_1 : Int) (a0_2 : Int) : Option (Bool) := (impl_between.f a0_1 1 20).bind fun t271 => (if t271 = true then ((impl_between.f a0_2 1 20).bind fun t272 => (if t272 = true then ((impl_ChartOk.f k l0_0).bind fun t273 => (some t273)) else (some false))) else (some false))
theorem impl_FrameOk.mono : ∀ a0 a1 a2 k, LeO (impl_FrameOk.f k a0 a1 a2) (impl_FrameOk.f (k + 1) a0 a1 a2) := by
 intro a0 a1 a2 k
 unfold impl_FrameOk.f
 repeat' first
     | (with_reducible exact impl_ChartOk.mono _ _)
     | (with_reducible exact LeO.refl _)
     | (with_reducible exact LeO.none _)
     | (with_reducible refine LeO.ite ?_ ?_)
     | (with_reducible refine LeO.bind ?_ (fun _ => ?_))
     | exact impl_ChartOk.mono _ _
     | exact LeO.none _
     | refine LeO.ite ?_ ?_
     | refine LeO.bind ?_ (fun _ => ?_)
set_option maxHeartbeats 8000000 in
set_option maxRecDepth 100000 in
theorem impl_FrameOk.calls (k : Nat) (A0_0 : Option Addr) (c0_0 : Nat) (l0_0 : List (S222)) (a0_1 : Int) (a0_2 : Int) (r : Bool) (w : World) (hr0_0 : Kd.C k222 w A0_0 l0_0.length l0_0) (hc0_0 : l0_0.length ≤ c0_0) (h : impl_FrameOk.f k l0_0 a0_1 a0_2 = some r) :
    Calls Try.prog 113 #[.agg #[.slice A0_0 l0_0.length c0_0, .int .i64 a0_1, .int .i64 a0_2]] w fun e w' => e = .returned (.bool r) ∧ Below w.heap.size w w' := by
 have hu81 := Try.underlying81; have HR0_0 := Aside0.mk hr0_0; have HC0_0 := Aside0.mk hc0_0; clear hr0_0 hc0_0; have HB := aZ (Below.refl w.heap.size w); have H : ((impl_between.f a0_1 1 20).bind fun t271 => (if t271 = true then ((impl_between.f a0_2 1 20).bind fun t272 => (if t272 = true then ((impl_ChartOk.f k l0_0).bind fun t273 => (some t273)) else (some false))) else (some false))) = some r := h; clear h; replace H := Option.bind_eq_some_iff.mp H; obtain ⟨t271, A20, H⟩ := H; replace H : (if t271 = true then ((impl_between.f a0_2 1 20).bind fun t272 => (if t272 = true then ((impl_ChartOk.f k l0_0).bind fun t273 => (some t273)) else (some false))) else (some false)) = some r := H; have A2 := Aside0.mk A20; clear A20
 by_cases c3 : t271 = true
 rotate_left
 ·replace c3 := Bool.eq_false_iff.mpr c3; subst c3; rw [if_neg Bool.false_ne_true] at H; obtain rfl := Option.some.inj H; go_enter Try.func113, Try.ntmps113
  go_wp2_with (first | ((with_reducible refine gate_dst (N := 1) rfl ?_); refine box_event tZR (N := 1) tZR (cs := #[.slice A0_0 l0_0.length c0_0, .int .i64 a0_1, .int .i64 a0_2]) (t := 81) tZS ?_; intro gb270 hg w12 hbox hb; have BK270 := aZ (hbox); have GW270 := aZ ((by rw [hg]; exact (below_size (lZB HB.out)) : w.heap.size ≤ gb270)); have GE270 := GW270; replace HB := aZ (below_step (lZB HB.out) hb); clear hb hbox hg; obtain ⟨hcz13_0, hcz13_1, hcz13_2, hfz13_0, hfz13_1, hfz13_2⟩ := bc3 BK270.out) | ((with_reducible refine gate_callee (f := 71) rfl ?_); refine goesL_ (some 5) rfl rfl Try.func71 kZ rfl #[.int .i64 a0_1, .int .i64 1, .int .i64 20] rfl tZA ?_; (with_reducible refine (impl_between.calls a0_1 1 20 false _ A2.out).mono ?_); rintro e w' ⟨rfl, ⟨nd, rfl⟩⟩; refine ⟨_, rfl, ?_⟩))
  go_ret; exact ⟨tZC, bZ⟩
 subst c3; rw [if_pos rfl] at H; replace H := Option.bind_eq_some_iff.mp H; obtain ⟨t272, A40, H⟩ := H; replace H : (if t272 = true then ((impl_ChartOk.f k l0_0).bind fun t273 => (some t273)) else (some false)) = some r := H; have A4 := Aside0.mk A40; clear A40
 by_cases c5 : t272 = true
 rotate_left
 ·replace c5 := Bool.eq_false_iff.mpr c5; subst c5; rw [if_neg Bool.false_ne_true] at H; obtain rfl := Option.some.inj H; go_enter Try.func113, Try.ntmps113
  go_wp2_with (first | ((with_reducible refine gate_dst (N := 1) rfl ?_); refine box_event tZR (N := 1) tZR (cs := #[.slice A0_0 l0_0.length c0_0, .int .i64 a0_1, .int .i64 a0_2]) (t := 81) tZS ?_; intro gb270 hg w10 hbox hb; have BK270 := aZ (hbox); have GW270 := aZ ((by rw [hg]; exact (below_size (lZB HB.out)) : w.heap.size ≤ gb270)); have GE270 := GW270; replace HB := aZ (below_step (lZB HB.out) hb); clear hb hbox hg; obtain ⟨hcz11_0, hcz11_1, hcz11_2, hfz11_0, hfz11_1, hfz11_2⟩ := bc3 BK270.out) | ((with_reducible refine gate_callee (f := 71) rfl ?_); refine goesL_ (some 5) rfl rfl Try.func71 kZ rfl #[.int .i64 a0_1, .int .i64 1, .int .i64 20] rfl tZA ?_; (with_reducible refine (impl_between.calls a0_1 1 20 true _ A2.out).mono ?_); rintro e w' ⟨rfl, ⟨nd, rfl⟩⟩; refine ⟨_, rfl, ?_⟩) | (go_at_call 71; (with_reducible refine (impl_between.calls a0_2 1 20 false _ A4.out).mono ?_); rintro e w' ⟨rfl, ⟨nd, rfl⟩⟩))
  go_ret; exact ⟨tZC, bZ⟩
 subst c5; rw [if_pos rfl] at H; replace H := Option.bind_eq_some_iff.mp H; obtain ⟨t273, A60, H⟩ := H; replace H : (some t273) = some r := H; have A6 := Aside0.mk A60; clear A60; obtain rfl := Option.some.inj H; go_enter Try.func113, Try.ntmps113
 go_wp2_with (first | ((with_reducible refine gate_dst (N := 1) rfl ?_); refine box_event tZR (N := 1) tZR (cs := #[.slice A0_0 l0_0.length c0_0, .int .i64 a0_1, .int .i64 a0_2]) (t := 81) tZS ?_; intro gb270 hg w7 hbox hb; have BK270 := aZ (hbox); have GW270 := aZ ((by rw [hg]; exact (below_size (lZB HB.out)) : w.heap.size ≤ gb270)); have GE270 := GW270; replace HB := aZ (below_step (lZB HB.out) hb); clear hb hbox hg; obtain ⟨hcz8_0, hcz8_1, hcz8_2, hfz8_0, hfz8_1, hfz8_2⟩ := bc3 BK270.out) | ((with_reducible refine gate_callee (f := 71) rfl ?_); refine goesL_ (some 5) rfl rfl Try.func71 kZ rfl #[.int .i64 a0_1, .int .i64 1, .int .i64 20] rfl tZA ?_; (with_reducible refine (impl_between.calls a0_1 1 20 true _ A2.out).mono ?_); rintro e w' ⟨rfl, ⟨nd, rfl⟩⟩; refine ⟨_, rfl, ?_⟩) | (go_at_call 71; (with_reducible refine (impl_between.calls a0_2 1 20 true _ A4.out).mono ?_); rintro e w' ⟨rfl, ⟨nd, rfl⟩⟩) | (go_at_call 168; (with_reducible refine (impl_ChartOk.calls k _ _ l0_0 t273 _ ?side1 ?side2 A6.out).mono ?_); (case side1 => repeat (first | exact (Kd.C_below HR0_0.out bZ) | (with_reducible refine Kd.C_alloc ?_ _) | (with_reducible refine Kd.C_drewN ?_ _) | (with_reducible refine Kd.C_drew ?_))); (case side2 => exact HC0_0.out); rintro e w9 ⟨rfl, hb⟩; replace BK270 := aZ (blk_below (bkZ BK270.out) hb); replace HB := aZ (below_step bZ hb); (try clear hb); (try clear hb2); (try clear hk); (try clear hi)))
 go_ret; exact ⟨tZC, bZ⟩
def impl_amount.f (a0 : Int) : Option (Bool) := (impl_between.f a0 (-100000000000) 100000000000).bind fun t274 => (some t274)
set_option maxHeartbeats 8000000 in
set_option maxRecDepth 100000 in
theorem impl_amount.calls (a0 : Int) (r : Bool) (w : World) (h : impl_amount.f a0 = some r) :
    Calls Try.prog 65 #[.int .i64 a0] w fun e w' => e = .returned (.bool r) ∧ Drawn0 w w' := by
 have H : ((impl_between.f a0 (-100000000000) 100000000000).bind fun t274 => (some t274)) = some r := h; clear h; replace H := Option.bind_eq_some_iff.mp H; obtain ⟨t274, A20, H⟩ := H; replace H : (some t274) = some r := H; have A2 := Aside0.mk A20; clear A20; obtain rfl := Option.some.inj H; go_enter Try.func65, Try.ntmps65
 go_wp2_with (first | ((with_reducible refine gate_callee (f := 71) rfl ?_); refine goesL_ (some 4) rfl rfl Try.func71 kZ rfl #[.int .i64 a0, .int .i64 (-100000000000), .int .i64 100000000000] rfl tZA ?_; (with_reducible refine (impl_between.calls a0 (-100000000000) 100000000000 t274 _ A2.out).mono ?_); rintro e w' ⟨rfl, ⟨nd, rfl⟩⟩; refine ⟨_, rfl, ?_⟩))
 go_ret; exact ⟨tZB, tZD⟩
def impl_isDay.f (a0 : Int) : Option (Bool) := (impl_between.f a0 0 40000).bind fun t275 => (some t275)
set_option maxHeartbeats 8000000 in
set_option maxRecDepth 100000 in
theorem impl_isDay.calls (a0 : Int) (r : Bool) (w : World) (h : impl_isDay.f a0 = some r) :
    Calls Try.prog 72 #[.int .i64 a0] w fun e w' => e = .returned (.bool r) ∧ Drawn0 w w' := by
 have H : ((impl_between.f a0 0 40000).bind fun t275 => (some t275)) = some r := h; clear h; replace H := Option.bind_eq_some_iff.mp H; obtain ⟨t275, A20, H⟩ := H; replace H : (some t275) = some r := H; have A2 := Aside0.mk A20; clear A20; obtain rfl := Option.some.inj H; go_enter Try.func72, Try.ntmps72
 go_wp2_with (first | ((with_reducible refine gate_callee (f := 71) rfl ?_); refine goesL_ (some 4) rfl rfl Try.func71 kZ rfl #[.int .i64 a0, .int .i64 0, .int .i64 40000] rfl tZA ?_; (with_reducible refine (impl_between.calls a0 0 40000 t275 _ A2.out).mono ?_); rintro e w' ⟨rfl, ⟨nd, rfl⟩⟩; refine ⟨_, rfl, ?_⟩))
 go_ret; exact ⟨tZB, tZD⟩
def impl_leafAt.f (l0 : List (S222)) (a1 : Int) : Option (Bool) := if a1 ≥ 0 then (if a1 < (l0.length : Int) then (if (wrap64 (a1 + 1)) = (l0.length : Int) then (some true) else (if 0 ≤ (wrap64 (a1 + 1)) then (if (wrap64 (a1 + 1)) < (l0.length : Int) then (some (((rd_T222 l0 (wrap64 (a1 + 1))).f1) != a1)) else (none)) else (none))) else (some false)) else (some false)
set_option maxHeartbeats 8000000 in
set_option maxRecDepth 100000 in
theorem impl_leafAt.calls (A0 : Option Addr) (c0 : Nat) (l0 : List (S222)) (a1 : Int) (r : Bool) (w : World) (hr0 : Kd.C k222 w A0 l0.length l0) (hc0 : l0.length ≤ c0) (h : impl_leafAt.f l0 a1 = some r) :
    Calls Try.prog 169 #[.slice A0 l0.length c0, .int .i64 a1] w fun e w' => e = .returned (.bool r) ∧ Drawn0 w w' := by
 have HR0 := Aside0.mk hr0; have HC0 := Aside0.mk hc0; clear hr0 hc0; have H : (if a1 ≥ 0 then (if a1 < (l0.length : Int) then (if (wrap64 (a1 + 1)) = (l0.length : Int) then (some true) else (if 0 ≤ (wrap64 (a1 + 1)) then (if (wrap64 (a1 + 1)) < (l0.length : Int) then (some (((rd_T222 l0 (wrap64 (a1 + 1))).f1) != a1)) else (none)) else (none))) else (some false)) else (some false)) = some r := h; clear h
 by_cases c3 : a1 ≥ 0
 rotate_left
 ·rw [if_neg c3] at H; have c3b0 : decide (0 ≤ a1) = false := decide_eq_false c3; clear c3; obtain rfl := Option.some.inj H; go_enter Try.func169, Try.ntmps169; go_wp2; go_ret; exact ⟨tZB, tZD⟩
 rw [if_pos c3] at H; have c3b0 : decide (0 ≤ a1) = true := decide_eq_true c3; clear c3
 by_cases c4 : a1 < (l0.length : Int)
 rotate_left
 ·rw [if_neg c4] at H; have c4b0 := decide_eq_false c4; clear c4; obtain rfl := Option.some.inj H; go_enter Try.func169, Try.ntmps169; go_wp2; go_ret; exact ⟨tZB, tZD⟩
 rw [if_pos c4] at H; have c4b0 := decide_eq_true c4; clear c4
 by_cases c5 : (wrap64 (a1 + 1)) = (l0.length : Int)
 ·rw [if_pos c5] at H; have c5b0 : ((wrap64 (a1 + 1)) == (l0.length : Int)) = true := beq_iff_eq.mpr c5; have c5b1 : ((wrap64 (a1 + 1)) != (l0.length : Int)) = false := bne_eq_false_iff_eq.mpr c5; clear c5; obtain rfl := Option.some.inj H; go_enter Try.func169, Try.ntmps169; go_wp2; go_ret; exact ⟨tZB, tZD⟩
 rw [if_neg c5] at H; have c5b0 : ((wrap64 (a1 + 1)) == (l0.length : Int)) = false := beq_eq_false_iff_ne.mpr c5; have c5b1 : ((wrap64 (a1 + 1)) != (l0.length : Int)) = true := bne_iff_ne.mpr c5; obtain ⟨ji6, hji6⟩ : ∃ j_ : Int, (wrap64 (a1 + 1)) = j_ := ⟨_, rfl⟩; replace H : (if 0 ≤ (ji6) then (if (ji6) < (l0.length : Int) then (some (((rd_T222 l0 (ji6)).f1) != a1)) else (none)) else (none)) = some r := by first | (rw [hji6] at H; exact H) | (simp only [hji6] at H ⊢; exact H)
 (try rw [hji6] at c5b0); (try rw [hji6] at c5b1); have hji6w : (IntKind.i64.wrap (a1 + 1)) = ji6 := (i64_w _).trans hji6
 by_cases c7 : 0 ≤ (ji6)
 rotate_left
 ·rw [if_neg c7] at H; exact absurd H (by simp)
 rw [if_pos c7] at H; have c7b0 := decide_eq_true c7; clear c7
 by_cases c8 : (ji6) < (l0.length : Int)
 rotate_left
 ·rw [if_neg c8] at H; exact absurd H (by simp)
 rw [if_pos c8] at H; have c8b0 := decide_eq_true c8; clear c8; obtain rfl := Option.some.inj H; have p276 : 0 ≤ ((ji6) : Int) := of_decide_eq_true tZE; have q276 : (ji6) < (l0.length : Int) := of_decide_eq_true tZE; obtain ⟨ad276, e276, hx276_0, hx276_1, hx276_2⟩ := at_T222 HR0.out (ji6) p276 q276
 cases e276
 replace p276 := eq_true p276; replace q276 := eq_true q276; go_enter Try.func169, Try.ntmps169; go_wp2; go_ret; exact ⟨by first | rfl | (simp; done) | (simp only [← hji6] <;> (first | rfl | simp)) | (simp [*]; done), tZD⟩
end Go.Proofs.Ytmpknbdbichdiaa.PFnExactLedgerOk
