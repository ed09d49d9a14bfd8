import Derived.Test.YtmpknbdbichdiaaLPFnExactLedgerOkx0
import Derived.Test.YtmpknbdbichdiaaLPFnExactLedgerOkx1
import Derived.Test.YtmpknbdbichdiaaLPFnExactLedgerOkx3
import Derived.Test.YtmpknbdbichdiaaLSlimWords
namespace Go.Proofs.Ytmpknbdbichdiaa.PFnExactLedgerOk
open Go.Proofs.Ytmpknbdbichdiaa.SlimWords
open Go.RowKit Go.Proofs.YtmpknbdbichdiaaW.PrintWords Go.Proofs.YtmpknbdbichdiaaW.PrintLast Go.Proofs.YtmpknbdbichdiaaW.PrintMore Go.Proofs.Ytmpknbdbichdiaa.MapWords Go.Proofs.Ytmpknbdbichdiaa.IterWords Go.Proofs.Ytmpknbdbichdiaa.MarkWords
attribute [local go_sem] max2_int min2_int max_two min_two max_three min_three max_four min_four
set_option linter.unusedVariables false
set_option linter.unusedSimpArgs false
def spec_FrameOk.f (k : Nat) (l0_0 : List (S222)) (a0_1 : Int) (a0_2 : Int) : Option (Bool) := (spec_ChartOk.f k l0_0).bind fun t126 => (if t126 = true then ((spec_l1In.f a0_1 1 20).bind fun t127 => (if t127 = true then ((spec_l1In.f a0_2 1 20).bind fun t128 => (some t128)) else (some false))) else (some false))
theorem spec_FrameOk.mono : ∀ a0 a1 a2 k, LeO (spec_FrameOk.f k a0 a1 a2) (spec_FrameOk.f (k + 1) a0 a1 a2) := by
 intro a0 a1 a2 k
 unfold spec_FrameOk.f
 repeat' first
     | (with_reducible exact spec_ChartOk.mono _ _)
     | (with_reducible exact LeO.refl _)
     | (with_reducible exact LeO.none _)
     | (with_reducible refine LeO.ite ?_ ?_)
     | (with_reducible refine LeO.bind ?_ (fun _ => ?_))
     | exact spec_ChartOk.mono _ _
     | exact LeO.none _
     | refine LeO.ite ?_ ?_
     | refine LeO.bind ?_ (fun _ => ?_)
set_option maxHeartbeats 8000000 in
set_option maxRecDepth 100000 in
theorem spec_FrameOk.calls (k : Nat) (A0_0 : Option Addr) (c0_0 : Nat) (l0_0 : List (S222)) (a0_1 : Int) (a0_2 : Int) (r : Bool) (w : World) (hr0_0 : Kd.C k222 w A0_0 l0_0.length l0_0) (hc0_0 : l0_0.length ≤ c0_0) (h : spec_FrameOk.f k l0_0 a0_1 a0_2 = some r) :
    Calls Try.prog 108 #[.agg #[.slice A0_0 l0_0.length c0_0, .int .i64 a0_1, .int .i64 a0_2]] w fun e w' => e = .returned (.bool r) ∧ Below w.heap.size w w' := by
 have hu81 := Try.underlying81; have HR0_0 := Aside0.mk hr0_0; have HC0_0 := Aside0.mk hc0_0; clear hr0_0 hc0_0; have HB := aZ (Below.refl w.heap.size w); have H : ((spec_ChartOk.f k l0_0).bind fun t126 => (if t126 = true then ((spec_l1In.f a0_1 1 20).bind fun t127 => (if t127 = true then ((spec_l1In.f a0_2 1 20).bind fun t128 => (some t128)) else (some false))) else (some false))) = some r := h; clear h; replace H := Option.bind_eq_some_iff.mp H; obtain ⟨t126, A20, H⟩ := H; replace H : (if t126 = true then ((spec_l1In.f a0_1 1 20).bind fun t127 => (if t127 = true then ((spec_l1In.f a0_2 1 20).bind fun t128 => (some t128)) else (some false))) else (some false)) = some r := H; have A2 := Aside0.mk A20; clear A20
 by_cases c3 : t126 = true
 rotate_left
 ·replace c3 := Bool.eq_false_iff.mpr c3; subst c3; rw [if_neg Bool.false_ne_true] at H; obtain rfl := Option.some.inj H; go_enter Try.func108, Try.ntmps108
  go_wp2_with (first | ((with_reducible refine gate_dst (N := 1) rfl ?_); refine box_event tZR (N := 1) tZR (cs := #[.slice A0_0 l0_0.length c0_0, .int .i64 a0_1, .int .i64 a0_2]) (t := 81) tZS ?_; intro gb125 hg w15 hbox hb; have BK125 := aZ (hbox); have GW125 := aZ ((by rw [hg]; exact (below_size (lZB HB.out)) : w.heap.size ≤ gb125)); have GE125 := GW125; replace HB := aZ (below_step (lZB HB.out) hb); clear hb hbox hg; obtain ⟨hcz16_0, hcz16_1, hcz16_2, hfz16_0, hfz16_1, hfz16_2⟩ := bc3 BK125.out) | ((with_reducible refine gate_callee (f := 162) rfl ?_); refine goesL_ (some 5) rfl rfl Try.func162 kZ rfl #[.slice A0_0 l0_0.length c0_0] rfl tZA ?_; (with_reducible refine (spec_ChartOk.calls k _ _ l0_0 false _ ?side1 ?side2 A2.out).mono ?_); (case side1 => repeat (first | exact (Kd.C_below HR0_0.out HB.out) | (with_reducible refine Kd.C_alloc ?_ _) | (with_reducible refine Kd.C_drewN ?_ _) | (with_reducible refine Kd.C_drew ?_))); (case side2 => exact HC0_0.out); rintro e w17 ⟨rfl, hb⟩; refine ⟨_, rfl, ?_⟩; replace BK125 := aZ (blk_below (bkZ BK125.out) hb); replace HB := aZ (below_step bZ hb); (try clear hb); (try clear hb2); (try clear hk); (try clear hi)))
  go_ret; exact ⟨tZC, bZ⟩
 subst c3; rw [if_pos rfl] at H; replace H := Option.bind_eq_some_iff.mp H; obtain ⟨t127, A40, H⟩ := H; replace H : (if t127 = true then ((spec_l1In.f a0_2 1 20).bind fun t128 => (some t128)) else (some false)) = some r := H; have A4 := Aside0.mk A40; clear A40
 by_cases c5 : t127 = true
 rotate_left
 ·replace c5 := Bool.eq_false_iff.mpr c5; subst c5; rw [if_neg Bool.false_ne_true] at H; obtain rfl := Option.some.inj H; go_enter Try.func108, Try.ntmps108
  go_wp2_with (first | ((with_reducible refine gate_dst (N := 1) rfl ?_); refine box_event tZR (N := 1) tZR (cs := #[.slice A0_0 l0_0.length c0_0, .int .i64 a0_1, .int .i64 a0_2]) (t := 81) tZS ?_; intro gb125 hg w11 hbox hb; have BK125 := aZ (hbox); have GW125 := aZ ((by rw [hg]; exact (below_size (lZB HB.out)) : w.heap.size ≤ gb125)); have GE125 := GW125; replace HB := aZ (below_step (lZB HB.out) hb); clear hb hbox hg; obtain ⟨hcz12_0, hcz12_1, hcz12_2, hfz12_0, hfz12_1, hfz12_2⟩ := bc3 BK125.out) | ((with_reducible refine gate_callee (f := 162) rfl ?_); refine goesL_ (some 5) rfl rfl Try.func162 kZ rfl #[.slice A0_0 l0_0.length c0_0] rfl tZA ?_; (with_reducible refine (spec_ChartOk.calls k _ _ l0_0 true _ ?side1 ?side2 A2.out).mono ?_); (case side1 => repeat (first | exact (Kd.C_below HR0_0.out HB.out) | (with_reducible refine Kd.C_alloc ?_ _) | (with_reducible refine Kd.C_drewN ?_ _) | (with_reducible refine Kd.C_drew ?_))); (case side2 => exact HC0_0.out); rintro e w13 ⟨rfl, hb⟩; refine ⟨_, rfl, ?_⟩; replace BK125 := aZ (blk_below (bkZ BK125.out) hb); replace HB := aZ (below_step bZ hb); (try clear hb); (try clear hb2); (try clear hk); (try clear hi); obtain ⟨hcz14_0, hcz14_1, hcz14_2, hfz14_0, hfz14_1, hfz14_2⟩ := bc3 BK125.out) | (go_at_call 67; (with_reducible refine (spec_l1In.calls a0_1 1 20 false _ A4.out).mono ?_); rintro e w' ⟨rfl, ⟨nd, rfl⟩⟩))
  go_ret; exact ⟨tZC, bZ⟩
 subst c5; rw [if_pos rfl] at H; replace H := Option.bind_eq_some_iff.mp H; obtain ⟨t128, A60, H⟩ := H; replace H : (some t128) = some r := H; have A6 := Aside0.mk A60; clear A60; obtain rfl := Option.some.inj H; go_enter Try.func108, Try.ntmps108
 go_wp2_with (first | ((with_reducible refine gate_dst (N := 1) rfl ?_); refine box_event tZR (N := 1) tZR (cs := #[.slice A0_0 l0_0.length c0_0, .int .i64 a0_1, .int .i64 a0_2]) (t := 81) tZS ?_; intro gb125 hg w7 hbox hb; have BK125 := aZ (hbox); have GW125 := aZ ((by rw [hg]; exact (below_size (lZB HB.out)) : w.heap.size ≤ gb125)); have GE125 := GW125; replace HB := aZ (below_step (lZB HB.out) hb); clear hb hbox hg; obtain ⟨hcz8_0, hcz8_1, hcz8_2, hfz8_0, hfz8_1, hfz8_2⟩ := bc3 BK125.out) | ((with_reducible refine gate_callee (f := 162) rfl ?_); refine goesL_ (some 5) rfl rfl Try.func162 kZ rfl #[.slice A0_0 l0_0.length c0_0] rfl tZA ?_; (with_reducible refine (spec_ChartOk.calls k _ _ l0_0 true _ ?side1 ?side2 A2.out).mono ?_); (case side1 => repeat (first | exact (Kd.C_below HR0_0.out HB.out) | (with_reducible refine Kd.C_alloc ?_ _) | (with_reducible refine Kd.C_drewN ?_ _) | (with_reducible refine Kd.C_drew ?_))); (case side2 => exact HC0_0.out); rintro e w9 ⟨rfl, hb⟩; refine ⟨_, rfl, ?_⟩; replace BK125 := aZ (blk_below (bkZ BK125.out) hb); replace HB := aZ (below_step bZ hb); (try clear hb); (try clear hb2); (try clear hk); (try clear hi); obtain ⟨hcz10_0, hcz10_1, hcz10_2, hfz10_0, hfz10_1, hfz10_2⟩ := bc3 BK125.out) | (go_at_call 67; (with_reducible refine (spec_l1In.calls a0_1 1 20 true _ A4.out).mono ?_); rintro e w' ⟨rfl, ⟨nd, rfl⟩⟩) | (go_at_call 67; (with_reducible refine (spec_l1In.calls a0_2 1 20 t128 _ A6.out).mono ?_); rintro e w' ⟨rfl, ⟨nd, rfl⟩⟩))
 go_ret; exact ⟨tZC, bZ⟩
mutual
def spec_l5Numbers.l0 : Nat → List Int → Int → Int → Int → ByteArray → List (S107) → Option (List Int)
  | 0, _, _, _, _, _, _ => none
  | k + 1, x3, x4, x130000, x130001, x130002, x130003 => if x4 < (x130002.size : Int) then (if 0 ≤ x4 then (if x3.length < 17592186044416 then (spec_l5Numbers.l0 k (x3 ++ [wrap64 (bt x130002 x4)]) (wrap64 (x4 + 1)) x130000 x130001 x130002 x130003) else (none)) else (none)) else (if x3.length < 17592186044416 then (spec_l5Numbers.l1 k (x3 ++ [(x130003.length : Int)]) 0 x130000 x130001 x130002 x130003) else (none))
def spec_l5Numbers.l1 : Nat → List Int → Int → Int → Int → ByteArray → List (S107) → Option (List Int)
  | 0, _, _, _, _, _, _ => none
  | k + 1, x3, x5, x130000, x130001, x130002, x130003 => if x5 < (x130003.length : Int) then (if 0 ≤ x5 then ((some (([(rd_T107 x130003 x5).f0, (rd_T107 x130003 x5).f1, (rd_T107 x130003 x5).f2, (rd_T107 x130003 x5).f3, (rd_T107 x130003 x5).f4] : List Int) : List Int)).bind fun y141 => (if x3.length + y141.length < 17592186044416 then (spec_l5Numbers.l1 k (x3 ++ y141) (wrap64 (x5 + 1)) x130000 x130001 x130002 x130003) else (none))) else (none)) else (some x3)
end
def spec_l5Numbers.f (k : Nat) (a0_0 : Int) (a0_1 : Int) (a0_2 : ByteArray) (l0_3 : List (S107)) : Option (List Int) := spec_l5Numbers.l0 k (([a0_0, a0_1, (a0_2.size : Int)] : List Int)) 0 a0_0 a0_1 a0_2 l0_3
theorem spec_l5Numbers.mono_l : ∀ k, (∀ y0 y1 y2 y3 y4 y5, LeO (spec_l5Numbers.l0 k y0 y1 y2 y3 y4 y5) (spec_l5Numbers.l0 (k + 1) y0 y1 y2 y3 y4 y5)) ∧ (∀ y0 y1 y2 y3 y4 y5, LeO (spec_l5Numbers.l1 k y0 y1 y2 y3 y4 y5) (spec_l5Numbers.l1 (k + 1) y0 y1 y2 y3 y4 y5))
  | 0 => ⟨fun _ _ _ _ _ _ r h => by simp [spec_l5Numbers.l0] at h, fun _ _ _ _ _ _ r h => by simp [spec_l5Numbers.l1] at h⟩
  | k + 1 => by
    obtain ⟨ih0, ih1⟩ := spec_l5Numbers.mono_l k
    refine ⟨?_, ?_⟩
    · intro y0 y1 y2 y3 y4 y5
      unfold spec_l5Numbers.l0
      repeat' first
      | (with_reducible exact ih0 _ _ _ _ _ _)
      | (with_reducible exact ih1 _ _ _ _ _ _)
      | (with_reducible exact LeO.refl _)
      | (with_reducible exact LeO.none _)
      | (with_reducible refine LeO.ite ?_ ?_)
      | (with_reducible refine LeO.bind ?_ (fun _ => ?_))
      | exact ih0 _ _ _ _ _ _
      | exact ih1 _ _ _ _ _ _
      | exact LeO.none _
      | refine LeO.ite ?_ ?_
      | refine LeO.bind ?_ (fun _ => ?_)
    · intro y0 y1 y2 y3 y4 y5
      unfold spec_l5Numbers.l1
      repeat' first
      | (with_reducible exact ih0 _ _ _ _ _ _)
      | (with_reducible exact ih1 _ _ _ _ _ _)
      | (with_reducible exact LeO.refl _)
      | (with_reducible exact LeO.none _)
      | (with_reducible refine LeO.ite ?_ ?_)
      | (with_reducible refine LeO.bind ?_ (fun _ => ?_))
      | exact ih0 _ _ _ _ _ _
      | exact ih1 _ _ _ _ _ _
      | exact LeO.none _
      | refine LeO.ite ?_ ?_
      | refine LeO.bind ?_ (fun _ => ?_)
theorem spec_l5Numbers.mono : ∀ a0 a1 a2 a3 k, LeO (spec_l5Numbers.f k a0 a1 a2 a3) (spec_l5Numbers.f (k + 1) a0 a1 a2 a3) := by
 intro a0 a1 a2 a3 k
 obtain ⟨ih0, ih1⟩ := spec_l5Numbers.mono_l k
 unfold spec_l5Numbers.f
 repeat' first
     | (with_reducible exact ih0 _ _ _ _ _ _)
     | (with_reducible exact ih1 _ _ _ _ _ _)
     | (with_reducible exact LeO.refl _)
     | (with_reducible exact LeO.none _)
     | (with_reducible refine LeO.ite ?_ ?_)
     | (with_reducible refine LeO.bind ?_ (fun _ => ?_))
     | exact ih0 _ _ _ _ _ _
     | exact ih1 _ _ _ _ _ _
     | exact LeO.none _
     | refine LeO.ite ?_ ?_
     | refine LeO.bind ?_ (fun _ => ?_)
set_option maxHeartbeats 8000000 in
set_option maxRecDepth 100000 in
theorem spec_l5Numbers.calls (k : Nat) (a0_0 : Int) (a0_1 : Int) (a0_2 : ByteArray) (A0_3 : Option Addr) (c0_3 : Nat) (l0_3 : List (S107)) (r : List Int) (w : World) (hr0_3 : Kd.C k107 w A0_3 l0_3.length l0_3) (hc0_3 : l0_3.length ≤ c0_3) (h : spec_l5Numbers.f k a0_0 a0_1 a0_2 l0_3 = some r) :
    Calls Try.prog 163 #[.agg #[.int .i64 a0_0, .int .i64 a0_1, .string a0_2, .slice A0_3 l0_3.length c0_3]] w fun e w' => ∃ v0_ : Value, e = .returned (v0_) ∧ Kd.R (Kd.int .i64) 3 w' w.heap.size (fun _ => True) v0_ r ∧ Below w.heap.size w w' := by
 have hu103 := Try.underlying103; have hu107 := Try.underlying107; have HR0_3 := Aside0.mk hr0_3; have HC0_3 := Aside0.mk hc0_3; clear hr0_3 hc0_3; have HB := aZ (Below.refl w.heap.size w); have H : (spec_l5Numbers.l0 k (([a0_0, a0_1, (a0_2.size : Int)] : List Int)) 0 a0_0 a0_1 a0_2 l0_3) = some r := h; clear h; obtain ⟨y130, hy130⟩ : ∃ y_ : List Int, y_ = (([a0_0, a0_1, (a0_2.size : Int)] : List Int)) := ⟨_, rfl⟩; replace H : (spec_l5Numbers.l0 k y130 0 a0_0 a0_1 a0_2 l0_3) = some r := by first | (rw [hy130]; with_reducible exact H) | (have H2_ := (Option.bind_some _ _).symm.trans H; rw [hy130]; with_reducible exact H2_) | (have H2_ := (Option.bind_some _ _).symm.trans H; with_reducible exact H2_) | with_reducible exact H | (rw [hy130]; exact H) | exact H
 have Ny130 := Aside0.mk hy130; clear hy130; have H' := Aside0.mk H; clear H; go_enter Try.func163, Try.ntmps163
 go_wp2_with (first | ((with_reducible refine gate_dst (N := 1) rfl ?_); refine box_event tZR (N := 1) tZR (cs := #[.int .i64 a0_0, .int .i64 a0_1, .string a0_2, .slice A0_3 l0_3.length c0_3]) (t := 103) tZS ?_; intro gb129 hg w2 hbox hb; have BK129 := aZ (hbox); have GW129 := aZ ((by rw [hg]; exact (below_size (lZB HB.out)) : w.heap.size ≤ gb129)); have GE129 := GW129; replace HB := aZ (below_step (lZB HB.out) hb); clear hb hbox hg; obtain ⟨hcz3_0, hcz3_1, hcz3_2, hcz3_3, hfz3_0, hfz3_1, hfz3_2, hfz3_3⟩ := bc4 BK129.out) | ((with_reducible refine gate_dst (N := 14) rfl ?_); refine Kd.R_lit (Kd.int .i64) _ 3 ?hg (N := 14) ?hd (xs := ([a0_0, a0_1, (a0_2.size : Int)] : List Int)) (inner := [.int .i64 a0_0, .int .i64 a0_1, .int .i64 (a0_2.size : Int)]) (ok := fun _ => True) (okp := fun _ => True) ?hr ?hp (fun _ hk => hk) trivial (Below.refl _ _) (Nat.le_refl _) (by simp) ?_; (case hd => rfl); (case hg => rfl); (case hr => first | (go_simp; done) | (go_simp; rfl)); (case hp => exact (Reps.one (show Kd.M (Kd.int .i64) _ _ _ a0_0 [.int .i64 a0_0] from rfl) (Reps.one (show Kd.M (Kd.int .i64) _ _ _ a0_1 [.int .i64 a0_1] from rfl) (Reps.one (show Kd.M (Kd.int .i64) _ _ _ (a0_2.size : Int) [.int .i64 (a0_2.size : Int)] from rfl) (Reps.none _ _))))); intro v131 w4 ho5 hb hg_ hnew_; clear hg_ hnew_; (first | rw [← Ny130.out] at ho5 | (simp only [Int.reduceToNat] at ho5; rw [← Ny130.out] at ho5)); have HO132 := aZ (Kd.R_lower ho5 (below_size bZ)); replace BK129 := aZ (blk_below (bkZ BK129.out) hb); replace HB := aZ (below_step bZ hb); clear hb ho5))
 go_loopg [3, 4] k (fun kq v3 v4 w' => ∃ (x3_1 : List Int) (x4_1 : Int), v4 = .int .i64 x4_1 ∧ Aside0 (spec_l5Numbers.l0 kq x3_1 x4_1 a0_0 a0_1 a0_2 l0_3 = some r) ∧ Aside0 (kq ≤ k) ∧ Aside0 (Kd.R (Kd.int .i64) 3 w' w.heap.size (fun _ => True) v3 x3_1) ∧ Aside0 (w'.heap[gb129]? = some (.cells #[.int .i64 a0_0, .int .i64 a0_1, .string a0_2, (.slice A0_3 l0_3.length c0_3)] 103 (0, 0))) ∧ Aside0 (Below w.heap.size w w'))
 case atStart => exact ⟨(y130), (0), tZB, H', ⟨Nat.le_refl _⟩, ⟨lZR HO132.out⟩, ⟨bkZ BK129.out⟩, ⟨bZ⟩⟩
 case round =>
  clear H'; (try clear hcz3_0 hcz3_1 hcz3_2 hcz3_3 hfz3_0 hfz3_1 hfz3_2 hfz3_3); obtain ⟨x3_1, x4_1, rfl, HA, HK1, HO_3, BK129, HB⟩ := hrel
  cases gk with
  | zero => exact absurd HA.out (by simp [spec_l5Numbers.l0])
  | succ k1 =>
   have H := HA.out; clear HA; simp only [spec_l5Numbers.l0] at H
   by_cases c6 : x4_1 < (a0_2.size : Int)
   ·rw [if_pos c6] at H; have c6b0 := decide_eq_true c6; clear c6
    by_cases c7 : 0 ≤ x4_1
    rotate_left
    ·rw [if_neg c7] at H; exact absurd H (by simp)
    rw [if_pos c7] at H; have c7b0 := decide_eq_true c7; clear c7
    by_cases c9 : x3_1.length < 17592186044416
    rotate_left
    ·rw [if_neg c9] at H; exact absurd H (by simp)
    rw [if_pos c9] at H; have LMc9 := Aside0.mk c9; clear c9; obtain ⟨y133, hy133⟩ : ∃ y_ : List Int, y_ = (x3_1 ++ [wrap64 (bt a0_2 x4_1)]) := ⟨_, rfl⟩; replace H : (spec_l5Numbers.l0 k1 y133 (wrap64 (x4_1 + 1)) a0_0 a0_1 a0_2 l0_3) = some r := by first | (rw [hy133]; with_reducible exact H) | (have H2_ := (Option.bind_some _ _).symm.trans H; rw [hy133]; with_reducible exact H2_) | (have H2_ := (Option.bind_some _ _).symm.trans H; with_reducible exact H2_) | with_reducible exact H | (rw [hy133]; exact H) | exact H
    have Ny133 := Aside0.mk hy133; clear hy133; have H' := Aside0.mk H; clear H; obtain ⟨hcz10_0, hcz10_1, hcz10_2, hcz10_3, hfz10_0, hfz10_1, hfz10_2, hfz10_3⟩ := bc4 BK129.out; have p8 : 0 ≤ (x4_1 : Int) := of_decide_eq_true tZE; have q8 : x4_1 < (a0_2.size : Int) := of_decide_eq_true tZE; have hx8 := bt_at a0_2 x4_1; replace p8 := eq_true p8; replace q8 := eq_true q8
    go_wp2_with (first | ((with_reducible refine gate_builtin (b := .append) (xs := #[.tmp 22, .tmp 28]) rfl ?_); at_builtin; refine Kd.R_append (Kd.int .i64) (w0 := w) w.heap.size rfl (.tmp 22) (.tmp 28) 24 3 (.int .i64 0) 8 rfl Try.underlying24 info3 rfl (by decide) (by omega) u3 x3_1 (wrap64 (bt a0_2 x4_1)) [.int .i64 (wrap64 (bt a0_2 x4_1))] (fun _ => True) (fun _ => False) rfl rfl ?aP (fun _ hk => hk.elim) ?aF ?aO ?aB ?aS ?aL ?_; (case aP => exact rfl); (case aB => exact bZ); (case aF => exact (fun _ _ => trivial)); (case aO => exact (lZR HO_3.out)); (case aS => exact (below_size bZ)); (case aL => have := LMc9.out; omega); intro v134 w11 ho hb hg hat; rw [← Ny133.out] at ho; replace BK129 := aZ (blk_grown (bkZ BK129.out) hg (Kd.R_ne HO_3.out BK129.out (by decide))); replace HB := aZ (hb); have HO135 := aZ (ho); clear HO_3; clear ho hb hg hat))
    go_roundg k1
    case measure => have := HK1.out; omega
    case rel => exact ⟨(y133), (wrap64 (x4_1 + 1)), tZB, H', ⟨by have := HK1.out; omega⟩, ⟨lZR HO135.out⟩, ⟨bkZ BK129.out⟩, ⟨bZ⟩⟩
   rw [if_neg c6] at H; have c6b0 := decide_eq_false c6; clear c6
   by_cases c12 : x3_1.length < 17592186044416
   rotate_left
   ·rw [if_neg c12] at H; exact absurd H (by simp)
   rw [if_pos c12] at H; have LMc12 := Aside0.mk c12; clear c12; obtain ⟨y136, hy136⟩ : ∃ y_ : List Int, y_ = (x3_1 ++ [(l0_3.length : Int)]) := ⟨_, rfl⟩; replace H : (spec_l5Numbers.l1 k1 y136 0 a0_0 a0_1 a0_2 l0_3) = some r := by first | (rw [hy136]; with_reducible exact H) | (have H2_ := (Option.bind_some _ _).symm.trans H; rw [hy136]; with_reducible exact H2_) | (have H2_ := (Option.bind_some _ _).symm.trans H; with_reducible exact H2_) | with_reducible exact H | (rw [hy136]; exact H) | exact H
   have Ny136 := Aside0.mk hy136; clear hy136; have H' := Aside0.mk H; clear H; obtain ⟨hcz13_0, hcz13_1, hcz13_2, hcz13_3, hfz13_0, hfz13_1, hfz13_2, hfz13_3⟩ := bc4 BK129.out
   go_wp2_with (first | ((with_reducible refine gate_builtin (b := .append) (xs := #[.tmp 30, .tmp 34]) rfl ?_); at_builtin; refine Kd.R_append (Kd.int .i64) (w0 := w) w.heap.size rfl (.tmp 30) (.tmp 34) 24 3 (.int .i64 0) 8 rfl Try.underlying24 info3 rfl (by decide) (by omega) u3 x3_1 (l0_3.length : Int) [.int .i64 (l0_3.length : Int)] (fun _ => True) (fun _ => False) rfl rfl ?aP (fun _ hk => hk.elim) ?aF ?aO ?aB ?aS ?aL ?_; (case aP => exact rfl); (case aB => exact bZ); (case aF => exact (fun _ _ => trivial)); (case aO => exact (lZR HO_3.out)); (case aS => exact (below_size bZ)); (case aL => have := LMc12.out; omega); intro v137 w14 ho hb hg hat; rw [← Ny136.out] at ho; replace BK129 := aZ (blk_grown (bkZ BK129.out) hg (Kd.R_ne HO_3.out BK129.out (by decide))); replace HB := aZ (hb); have HO138 := aZ (ho); clear HO_3; clear ho hb hg hat))
   go_loopg [3, 5] k1 (fun kq v3 v5 w' => ∃ (x3_2 : List Int) (x5_2 : Int), v5 = .int .i64 x5_2 ∧ Aside0 (spec_l5Numbers.l1 kq x3_2 x5_2 a0_0 a0_1 a0_2 l0_3 = some r) ∧ Aside0 (kq ≤ k1) ∧ Aside0 (Kd.R (Kd.int .i64) 3 w' w.heap.size (fun _ => True) v3 x3_2) ∧ Aside0 (w'.heap[gb129]? = some (.cells #[.int .i64 a0_0, .int .i64 a0_1, .string a0_2, (.slice A0_3 l0_3.length c0_3)] 103 (0, 0))) ∧ Aside0 (Below w.heap.size w w'))
   case atStart => exact ⟨(y136), (0), tZB, H', ⟨Nat.le_refl _⟩, ⟨lZR HO138.out⟩, ⟨bkZ BK129.out⟩, ⟨bZ⟩⟩
   case round =>
    clear H'; (try clear c6 c6b0 c12 hcz13_0 hcz13_1 hcz13_2 hcz13_3 hcz3_0 hcz3_1 hcz3_2 hcz3_3 hfz13_0 hfz13_1 hfz13_2 hfz13_3 hfz3_0 hfz3_1 hfz3_2 hfz3_3); obtain ⟨x3_2, x5_2, rfl, HA, HK2, HO_3, BK129, HB⟩ := hrel
    cases gk with
    | zero => exact absurd HA.out (by simp [spec_l5Numbers.l1])
    | succ k2 =>
     have H := HA.out; clear HA; simp only [spec_l5Numbers.l1] at H
     by_cases c15 : x5_2 < (l0_3.length : Int)
     rotate_left
     ·rw [if_neg c15] at H; have c15b0 := decide_eq_false c15; clear c15; obtain rfl := Option.some.inj H; obtain ⟨hcz26_0, hcz26_1, hcz26_2, hcz26_3, hfz26_0, hfz26_1, hfz26_2, hfz26_3⟩ := bc4 BK129.out; go_wp2; go_ret; exact ⟨_, tZC, lZR HO_3.out, bZ⟩
     rw [if_pos c15] at H; have c15b0 := decide_eq_true c15; clear c15
     by_cases c16 : 0 ≤ x5_2
     rotate_left
     ·rw [if_neg c16] at H; exact absurd H (by simp)
     rw [if_pos c16] at H; have c16b0 := decide_eq_true c16; clear c16; obtain ⟨y141, hy141⟩ : ∃ y_ : List Int, y_ = (([(rd_T107 l0_3 x5_2).f0, (rd_T107 l0_3 x5_2).f1, (rd_T107 l0_3 x5_2).f2, (rd_T107 l0_3 x5_2).f3, (rd_T107 l0_3 x5_2).f4] : List Int)) := ⟨_, rfl⟩; replace H : (if x3_2.length + y141.length < 17592186044416 then (spec_l5Numbers.l1 k2 (x3_2 ++ y141) (wrap64 (x5_2 + 1)) a0_0 a0_1 a0_2 l0_3) else (none)) = some r := by first | (rw [hy141]; with_reducible exact H) | (have H2_ := (Option.bind_some _ _).symm.trans H; rw [hy141]; with_reducible exact H2_) | (have H2_ := (Option.bind_some _ _).symm.trans H; with_reducible exact H2_) | with_reducible exact H | (rw [hy141]; exact H) | exact H
     have Ny141 := Aside0.mk hy141; clear hy141
     by_cases c17 : x3_2.length + y141.length < 17592186044416
     rotate_left
     ·rw [if_neg c17] at H; exact absurd H (by simp)
     rw [if_pos c17] at H; have LMc17 := Aside0.mk c17; clear c17; obtain ⟨y144, hy144⟩ : ∃ y_ : List Int, y_ = (x3_2 ++ y141) := ⟨_, rfl⟩; replace H : (spec_l5Numbers.l1 k2 y144 (wrap64 (x5_2 + 1)) a0_0 a0_1 a0_2 l0_3) = some r := by first | (rw [hy144]; with_reducible exact H) | (have H2_ := (Option.bind_some _ _).symm.trans H; rw [hy144]; with_reducible exact H2_) | (have H2_ := (Option.bind_some _ _).symm.trans H; with_reducible exact H2_) | with_reducible exact H | (rw [hy144]; exact H) | exact H
     have Ny144 := Aside0.mk hy144; clear hy144; have H' := Aside0.mk H; clear H; obtain ⟨hcz18_0, hcz18_1, hcz18_2, hcz18_3, hfz18_0, hfz18_1, hfz18_2, hfz18_3⟩ := bc4 BK129.out; have p139 : 0 ≤ (x5_2 : Int) := of_decide_eq_true tZE; have q139 : x5_2 < (l0_3.length : Int) := of_decide_eq_true tZE; obtain ⟨ad139, e139, hx139_0, hx139_1, hx139_2, hx139_3, hx139_4⟩ := at_T107 HR0_3.out x5_2 p139 q139
     cases e139
     replace hx139_0 := cZ HB hx139_0; replace hx139_1 := cZ HB hx139_1; replace hx139_2 := cZ HB hx139_2; replace hx139_3 := cZ HB hx139_3; replace hx139_4 := cZ HB hx139_4; replace p139 := eq_true p139; replace q139 := eq_true q139
     go_wp2_with (first | ((with_reducible refine gate_dst (N := 6) rfl ?_); refine box_event tZR (N := 6) tZR (cs := #[.int .i64 0, .int .i64 0, .int .i64 0, .int .i64 0, .int .i64 0]) (t := 107) tZS ?_; intro gb140 hg w19 hbox hb; replace HO_3 := aZ (Kd.R_below (lZR HO_3.out) hb); have BK140 := aZ (hbox); have GW140 := aZ ((by rw [hg]; exact (below_size bZ) : w.heap.size ≤ gb140)); have GE140 := GW140; replace HB := aZ (below_step bZ hb); have NB129_140 := aZ ((nLt hg (bkZ BK129.out) : gb129 ≠ gb140)); have NB140_129 := aZ ((nGt hg (bkZ BK129.out) : gb140 ≠ gb129)); replace BK129 := aZ (blk_below (bkZ BK129.out) hb); clear hb hbox hg; have hnb20 := NB140_129.out; have hnc20 := NB129_140.out; obtain ⟨hcz21_0, hcz21_1, hcz21_2, hcz21_3, hcz21_4, hfz21_0, hfz21_1, hfz21_2, hfz21_3, hfz21_4⟩ := bc5 BK140.out) | ((with_reducible refine gate_dst (N := 59) rfl ?_); refine Kd.R_lit (Kd.int .i64) _ 3 ?hg (N := 59) ?hd (xs := ([(rd_T107 l0_3 x5_2).f0, (rd_T107 l0_3 x5_2).f1, (rd_T107 l0_3 x5_2).f2, (rd_T107 l0_3 x5_2).f3, (rd_T107 l0_3 x5_2).f4] : List Int)) (inner := [.int .i64 ((rd_T107 l0_3 x5_2).f0), .int .i64 ((rd_T107 l0_3 x5_2).f1), .int .i64 ((rd_T107 l0_3 x5_2).f2), .int .i64 ((rd_T107 l0_3 x5_2).f3), .int .i64 ((rd_T107 l0_3 x5_2).f4)]) (ok := fun _ => True) (okp := fun _ => True) ?hr ?hp (fun _ hk => hk) trivial (Below.refl _ _) (Nat.le_refl _) (by simp) ?_; (case hd => rfl); (case hg => rfl); (case hr => first | (go_simp; done) | (go_simp; rfl)); (case hp => exact (Reps.one (show Kd.M (Kd.int .i64) _ _ _ ((rd_T107 l0_3 x5_2).f0) [.int .i64 ((rd_T107 l0_3 x5_2).f0)] from rfl) (Reps.one (show Kd.M (Kd.int .i64) _ _ _ ((rd_T107 l0_3 x5_2).f1) [.int .i64 ((rd_T107 l0_3 x5_2).f1)] from rfl) (Reps.one (show Kd.M (Kd.int .i64) _ _ _ ((rd_T107 l0_3 x5_2).f2) [.int .i64 ((rd_T107 l0_3 x5_2).f2)] from rfl) (Reps.one (show Kd.M (Kd.int .i64) _ _ _ ((rd_T107 l0_3 x5_2).f3) [.int .i64 ((rd_T107 l0_3 x5_2).f3)] from rfl) (Reps.one (show Kd.M (Kd.int .i64) _ _ _ ((rd_T107 l0_3 x5_2).f4) [.int .i64 ((rd_T107 l0_3 x5_2).f4)] from rfl) (Reps.none _ _))))))); intro v142 w22 ho23 hb hg_ hnew_; clear hg_ hnew_; (first | rw [← Ny141.out] at ho23 | (simp only [Int.reduceToNat] at ho23; rw [← Ny141.out] at ho23)); have HO143 := aZ (Kd.R_lower (Kd.R_new' ho23 (Kd.R_lt (by (with_reducible repeat (first | apply Kd.R_alloc | apply Kd.R_drewN | apply Kd.R_drew)); exact (Kd.R_mono (Kd.R_far (p := ⟨gb140, 4, none⟩) (Kd.R_far (p := ⟨gb140, 3, none⟩) (Kd.R_far (p := ⟨gb140, 2, none⟩) (Kd.R_far (p := ⟨gb140, 1, none⟩) (Kd.R_far (p := ⟨gb140, 0, none⟩) (Kd.R_types HO_3.out BK140.out (by decide)) (fun _ hk => hk.2) (.int .i64 ((rd_T107 l0_3 x5_2).f0))) (fun _ hk => hk.2) (.int .i64 ((rd_T107 l0_3 x5_2).f1))) (fun _ hk => hk.2) (.int .i64 ((rd_T107 l0_3 x5_2).f2))) (fun _ hk => hk.2) (.int .i64 ((rd_T107 l0_3 x5_2).f3))) (fun _ hk => hk.2) (.int .i64 ((rd_T107 l0_3 x5_2).f4))) (fun _ h_ => h_.1))))) (below_size bZ)); replace HO_3 := aZ (Kd.R_elder' (by (with_reducible repeat (first | apply Kd.R_alloc | apply Kd.R_drewN | apply Kd.R_drew)); exact (Kd.R_mono (Kd.R_far (p := ⟨gb140, 4, none⟩) (Kd.R_far (p := ⟨gb140, 3, none⟩) (Kd.R_far (p := ⟨gb140, 2, none⟩) (Kd.R_far (p := ⟨gb140, 1, none⟩) (Kd.R_far (p := ⟨gb140, 0, none⟩) (Kd.R_types HO_3.out BK140.out (by decide)) (fun _ hk => hk.2) (.int .i64 ((rd_T107 l0_3 x5_2).f0))) (fun _ hk => hk.2) (.int .i64 ((rd_T107 l0_3 x5_2).f1))) (fun _ hk => hk.2) (.int .i64 ((rd_T107 l0_3 x5_2).f2))) (fun _ hk => hk.2) (.int .i64 ((rd_T107 l0_3 x5_2).f3))) (fun _ hk => hk.2) (.int .i64 ((rd_T107 l0_3 x5_2).f4))) (fun _ h_ => h_.1))) (Kd.R_base ho23) hb); replace BK129 := aZ (blk_below (g := gb129) (o := .cells #[.int .i64 a0_0, .int .i64 a0_1, .string a0_2, .slice (some ad139) l0_3.length c0_3] 103 (0, 0)) (by (with_reducible repeat (first | refine blk_drewN ?_ _ | refine blk_drew ?_ | refine blk_alloc ?_ _)); refine blk_far ?_ NB129_140.out _; (with_reducible repeat (first | refine blk_drewN ?_ _ | refine blk_drew ?_ | refine blk_alloc ?_ _)); refine blk_far ?_ NB129_140.out _; (with_reducible repeat (first | refine blk_drewN ?_ _ | refine blk_drew ?_ | refine blk_alloc ?_ _)); refine blk_far ?_ NB129_140.out _; (with_reducible repeat (first | refine blk_drewN ?_ _ | refine blk_drew ?_ | refine blk_alloc ?_ _)); refine blk_far ?_ NB129_140.out _; (with_reducible repeat (first | refine blk_drewN ?_ _ | refine blk_drew ?_ | refine blk_alloc ?_ _)); refine blk_far ?_ NB129_140.out _; (with_reducible repeat (first | refine blk_drewN ?_ _ | refine blk_drew ?_ | refine blk_alloc ?_ _)); exact BK129.out) hb); replace BK140 := aZ (blk_below (g := gb140) (o := .cells #[.int .i64 ((rd_T107 l0_3 x5_2).f0), .int .i64 ((rd_T107 l0_3 x5_2).f1), .int .i64 ((rd_T107 l0_3 x5_2).f2), .int .i64 ((rd_T107 l0_3 x5_2).f3), .int .i64 ((rd_T107 l0_3 x5_2).f4)] 107 (0, 0)) (by (with_reducible repeat (first | refine blk_drewN ?_ _ | refine blk_drew ?_ | refine blk_alloc ?_ _)); refine blk_put (cs := #[.int .i64 ((rd_T107 l0_3 x5_2).f0), .int .i64 ((rd_T107 l0_3 x5_2).f1), .int .i64 ((rd_T107 l0_3 x5_2).f2), .int .i64 ((rd_T107 l0_3 x5_2).f3), .int .i64 0]) ?_ 4 _ rfl; (with_reducible repeat (first | refine blk_drewN ?_ _ | refine blk_drew ?_ | refine blk_alloc ?_ _)); refine blk_put (cs := #[.int .i64 ((rd_T107 l0_3 x5_2).f0), .int .i64 ((rd_T107 l0_3 x5_2).f1), .int .i64 ((rd_T107 l0_3 x5_2).f2), .int .i64 0, .int .i64 0]) ?_ 3 _ rfl; (with_reducible repeat (first | refine blk_drewN ?_ _ | refine blk_drew ?_ | refine blk_alloc ?_ _)); refine blk_put (cs := #[.int .i64 ((rd_T107 l0_3 x5_2).f0), .int .i64 ((rd_T107 l0_3 x5_2).f1), .int .i64 0, .int .i64 0, .int .i64 0]) ?_ 2 _ rfl; (with_reducible repeat (first | refine blk_drewN ?_ _ | refine blk_drew ?_ | refine blk_alloc ?_ _)); refine blk_put (cs := #[.int .i64 ((rd_T107 l0_3 x5_2).f0), .int .i64 0, .int .i64 0, .int .i64 0, .int .i64 0]) ?_ 1 _ rfl; (with_reducible repeat (first | refine blk_drewN ?_ _ | refine blk_drew ?_ | refine blk_alloc ?_ _)); refine blk_put (cs := #[.int .i64 0, .int .i64 0, .int .i64 0, .int .i64 0, .int .i64 0]) ?_ 0 _ rfl; (with_reducible repeat (first | refine blk_drewN ?_ _ | refine blk_drew ?_ | refine blk_alloc ?_ _)); exact BK140.out) hb); replace HB := aZ (below_step bZ hb); clear hb ho23; obtain ⟨Ao25, co25, eo25⟩ := Kd.R_slice HO143.out; subst eo25) | ((with_reducible refine gate_builtin (b := .append) (xs := #[.tmp 48, .tmp 59]) rfl ?_); at_builtin; refine Kd.R_append_rows (Kd.int .i64) (w0 := w) w.heap.size rfl (.tmp 48) (.tmp 59) 24 3 (.int .i64 0) 8 rfl Try.underlying24 info3 rfl (by decide) (by omega) u3 x3_2 y141 _ _ _ (fun k_ => some k_ ≠ (.slice Ao25 y141.length co25 : Value).ownBlock) (fun _ => False) rfl rfl ?aO ?aR (fun _ _ h => h) (fun _ h => h.elim) ?aF ?aB ?aS ?aL ?_; (case aR => repeat (first | exact (Kd.R_reads' HO143.out).2.2 | (with_reducible refine Kd.C_alloc ?_ _) | (with_reducible refine Kd.C_drewN ?_ _) | (with_reducible refine Kd.C_drew ?_))); (case aB => exact bZ); (case aF => exact (fun k_ hk => Kd.fresh' (Kd.R_lt (lZR HO143.out)) k_ hk)); (case aO => exact (by (with_reducible repeat (first | apply Kd.R_alloc | apply Kd.R_drewN | apply Kd.R_drew)); exact Kd.R_mono HO_3.out (fun _ hk => hk.2))); (case aS => exact (below_size bZ)); (case aL => have := LMc17.out; omega); intro v145 w24 ho hb hg hat; rw [← Ny144.out] at ho; replace BK129 := aZ (blk_grown (bkZ BK129.out) hg (Kd.R_ne HO_3.out BK129.out (by decide))); replace BK140 := aZ (blk_grown (bkZ BK140.out) hg (Kd.R_ne HO_3.out BK140.out (by decide))); replace HO143 := aZ (Kd.R_after (ok := (fun _ => True)) (lZR HO143.out) hg hat); replace HB := aZ (hb); have HO146 := aZ (ho); clear HO_3; clear ho hb hg hat))
     go_roundg k2
     case measure => have := HK1.out; have := HK2.out; omega
     case rel => exact ⟨(y144), (wrap64 (x5_2 + 1)), tZB, H', ⟨by have := HK1.out; have := HK2.out; omega⟩, ⟨by (with_reducible repeat (first | apply Kd.R_alloc | apply Kd.R_drewN | apply Kd.R_drew)); exact Kd.R_mono HO146.out (fun _ hk => trivial)⟩, ⟨bkZ BK129.out⟩, ⟨bZ⟩⟩
mutual
def spec_HeadOf.l0 : Nat → List (S103) → Int → Int → Option (Int)
  | 0, _, _, _ => none
  | k + 1, x0, x3, x4 => if x4 < (x0.length : Int) then (if 0 ≤ x4 then (if (((rd_T103 x0 x4).f3).length : Int) > 60 then (spec_HeadOf.j1 k x0 x3 x4 true) else (spec_HeadOf.j1 k x0 x3 x4 (decide ((((rd_T103 x0 x4).f2).size : Int) > 40)))) else (none)) else (some x3)
def spec_HeadOf.j1 : Nat → List (S103) → Int → Int → Bool → Option (Int)
  | 0, _, _, _, _ => none
  | k + 1, x0, x3, x4, x31 => if x31 = true then (some 0) else (if 0 ≤ x4 then (if x4 < (x0.length : Int) then ((spec_l5Numbers.f k ((rd_T103 x0 x4).f0) ((rd_T103 x0 x4).f1) ((rd_T103 x0 x4).f2) ((rd_T103 x0 x4).f3)).bind fun t150 => (spec_HeadOf.l1 k x0 x3 x4 t150 0)) else (none)) else (none))
def spec_HeadOf.l1 : Nat → List (S103) → Int → Int → List Int → Int → Option (Int)
  | 0, _, _, _, _, _ => none
  | k + 1, x0, x3, x4, x5, x6 => if x6 < (x5.length : Int) then (if 0 ≤ x6 then ((spec_l1In.f (rd x5 x6) (-549755813888) 549755813887).bind fun t154 => (if t154 = true then (spec_HeadOf.l1 k x0 (Int.tmod (wrap64 ((wrap64 ((wrap64 (x3 * 1000003)) + (rd x5 x6))) + 549755813888)) 1099511627791) x4 x5 (wrap64 (x6 + 1))) else (some 0))) else (none)) else (spec_HeadOf.l0 k x0 x3 (wrap64 (x4 + 1)))
end
def spec_HeadOf.f (k : Nat) (l0 : List (S103)) : Option (Int) := if (l0.length : Int) > 1000 then (some 0) else (spec_HeadOf.l0 k l0 1 0)
theorem spec_HeadOf.mono_l : ∀ k, (∀ y0 y1 y2, LeO (spec_HeadOf.l0 k y0 y1 y2) (spec_HeadOf.l0 (k + 1) y0 y1 y2)) ∧ (∀ y0 y1 y2 y3, LeO (spec_HeadOf.j1 k y0 y1 y2 y3) (spec_HeadOf.j1 (k + 1) y0 y1 y2 y3)) ∧ (∀ y0 y1 y2 y3 y4, LeO (spec_HeadOf.l1 k y0 y1 y2 y3 y4) (spec_HeadOf.l1 (k + 1) y0 y1 y2 y3 y4))
  | 0 => ⟨fun _ _ _ r h => by simp [spec_HeadOf.l0] at h, fun _ _ _ _ r h => by simp [spec_HeadOf.j1] at h, fun _ _ _ _ _ r h => by simp [spec_HeadOf.l1] at h⟩
  | k + 1 => by
    obtain ⟨ih0, ih1, ih2⟩ := spec_HeadOf.mono_l k
    refine ⟨?_, ?_, ?_⟩
    · intro y0 y1 y2
      unfold spec_HeadOf.l0
      repeat' first
      | (with_reducible exact ih0 _ _ _)
      | (with_reducible exact ih1 _ _ _ _)
      | (with_reducible exact ih2 _ _ _ _ _)
      | (with_reducible exact spec_l5Numbers.mono _ _ _ _ _)
      | (with_reducible exact LeO.refl _)
      | (with_reducible exact LeO.none _)
      | (with_reducible refine LeO.ite ?_ ?_)
      | (with_reducible refine LeO.bind ?_ (fun _ => ?_))
      | exact ih0 _ _ _
      | exact ih1 _ _ _ _
      | exact ih2 _ _ _ _ _
      | exact spec_l5Numbers.mono _ _ _ _ _
      | exact LeO.none _
      | refine LeO.ite ?_ ?_
      | refine LeO.bind ?_ (fun _ => ?_)
    · intro y0 y1 y2 y3
      unfold spec_HeadOf.j1
      repeat' first
      | (with_reducible exact ih0 _ _ _)
      | (with_reducible exact ih1 _ _ _ _)
      | (with_reducible exact ih2 _ _ _ _ _)
      | (with_reducible exact spec_l5Numbers.mono _ _ _ _ _)
      | (with_reducible exact LeO.refl _)
      | (with_reducible exact LeO.none _)
      | (with_reducible refine LeO.ite ?_ ?_)
      | (with_reducible refine LeO.bind ?_ (fun _ => ?_))
      | exact ih0 _ _ _
      | exact ih1 _ _ _ _
      | exact ih2 _ _ _ _ _
      | exact spec_l5Numbers.mono _ _ _ _ _
      | exact LeO.none _
      | refine LeO.ite ?_ ?_
      | refine LeO.bind ?_ (fun _ => ?_)
    · intro y0 y1 y2 y3 y4
      unfold spec_HeadOf.l1
      repeat' first
      | (with_reducible exact ih0 _ _ _)
      | (with_reducible exact ih1 _ _ _ _)
      | (with_reducible exact ih2 _ _ _ _ _)
      | (with_reducible exact spec_l5Numbers.mono _ _ _ _ _)
      | (with_reducible exact LeO.refl _)
      | (with_reducible exact LeO.none _)
      | (with_reducible refine LeO.ite ?_ ?_)
      | (with_reducible refine LeO.bind ?_ (fun _ => ?_))
      | exact ih0 _ _ _
      | exact ih1 _ _ _ _
      | exact ih2 _ _ _ _ _
      | exact spec_l5Numbers.mono _ _ _ _ _
      | exact LeO.none _
      | refine LeO.ite ?_ ?_
      | refine LeO.bind ?_ (fun _ => ?_)
theorem spec_HeadOf.mono : ∀ a0 k, LeO (spec_HeadOf.f k a0) (spec_HeadOf.f (k + 1) a0) := by
 intro a0 k
 obtain ⟨ih0, ih1, ih2⟩ := spec_HeadOf.mono_l k
 unfold spec_HeadOf.f
 repeat' first
     | (with_reducible exact ih0 _ _ _)
     | (with_reducible exact ih1 _ _ _ _)
     | (with_reducible exact ih2 _ _ _ _ _)
     | (with_reducible exact spec_l5Numbers.mono _ _ _ _ _)
     | (with_reducible exact LeO.refl _)
     | (with_reducible exact LeO.none _)
     | (with_reducible refine LeO.ite ?_ ?_)
     | (with_reducible refine LeO.bind ?_ (fun _ => ?_))
     | exact ih0 _ _ _
     | exact ih1 _ _ _ _
     | exact ih2 _ _ _ _ _
     | exact spec_l5Numbers.mono _ _ _ _ _
     | exact LeO.none _
     | refine LeO.ite ?_ ?_
     | refine LeO.bind ?_ (fun _ => ?_)
set_option maxHeartbeats 8000000 in
set_option maxRecDepth 100000 in
theorem spec_HeadOf.calls (k : Nat) (A0 : Option Addr) (c0 : Nat) (l0 : List (S103)) (r : Int) (w : World) (hr0 : Kd.C k103 w A0 l0.length l0) (hc0 : l0.length ≤ c0) (h : spec_HeadOf.f k l0 = some r) :
    Calls Try.prog 109 #[.slice A0 l0.length c0] w fun e w' => e = .returned (.int .i64 r) ∧ Below w.heap.size w w' := by
 have hu103 := Try.underlying103; have HR0 := Aside0.mk hr0; have HC0 := Aside0.mk hc0; clear hr0 hc0; have HB := aZ (Below.refl w.heap.size w); have H : (if (l0.length : Int) > 1000 then (some 0) else (spec_HeadOf.l0 k l0 1 0)) = some r := h; clear h
 by_cases c2 : (l0.length : Int) > 1000
 ·rw [if_pos c2] at H; have c2b0 : decide (1000 < (l0.length : Int)) = true := decide_eq_true c2; have c2b1 : decide (1000 < l0.length) = true := decide_eq_true (by omega); clear c2; obtain rfl := Option.some.inj H; go_enter Try.func109, Try.ntmps109; go_wp2; go_ret; exact ⟨tZC, bZ⟩
 rw [if_neg c2] at H; have c2b0 : decide (1000 < (l0.length : Int)) = false := decide_eq_false c2; have c2b1 : decide (1000 < l0.length) = false := decide_eq_false (by omega); clear c2; have H' := Aside0.mk H; clear H; go_enter Try.func109, Try.ntmps109; go_wp2
 go_loopg [3, 4] k (fun kq v3 v4 w' => ∃ (x3_1 : Int) (x4_1 : Int), v3 = .int .i64 x3_1 ∧ v4 = .int .i64 x4_1 ∧ Aside0 (spec_HeadOf.l0 kq l0 x3_1 x4_1 = some r) ∧ Aside0 (kq ≤ k) ∧ Aside0 (Below w.heap.size w w'))
 case atStart => exact ⟨(1), (0), tZB, tZB, H', ⟨Nat.le_refl _⟩, ⟨bZ⟩⟩
 case round =>
  clear H'; (try clear c2 c2b0 c2b1); obtain ⟨x3_1, x4_1, rfl, rfl, HA, HK1, HB⟩ := hrel
  cases gk with
  | zero => exact absurd HA.out (by simp [spec_HeadOf.l0])
  | succ k1 =>
   have H := HA.out; clear HA; simp only [spec_HeadOf.l0] at H
   by_cases c3 : x4_1 < (l0.length : Int)
   rotate_left
   ·rw [if_neg c3] at H; have c3b0 := decide_eq_false c3; clear c3; obtain rfl := Option.some.inj H; go_wp2; go_ret; exact ⟨tZC, bZ⟩
   rw [if_pos c3] at H; have c3b0 := decide_eq_true c3; clear c3; have HC4 := Aside0.mk H; clear H
   go_upto_region 7 with (fail)
   go_cut [31] (fun v31 wc => ∃ (kq : Nat) (x31_3 : Bool), v31 = .bool x31_3 ∧ Aside0 (spec_HeadOf.j1 kq l0 x3_1 x4_1 x31_3 = some r) ∧ Aside0 (kq ≤ k1) ∧ Aside0 (Below w.heap.size w wc))
   case first =>
    have H := HC4.out; clear HC4
    by_cases c5 : 0 ≤ x4_1
    rotate_left
    ·rw [if_neg c5] at H; exact absurd H (by simp)
    rw [if_pos c5] at H; have c5b0 := decide_eq_true c5; clear c5; (first | rw [c5b0] | (simp only [i64_w, i32_w]; rw [c5b0]) | skip)
    by_cases c6 : (((rd_T103 l0 x4_1).f3).length : Int) > 60
    ·rw [if_pos c6] at H; have c6b0 : decide (60 < (((rd_T103 l0 x4_1).f3).length : Int)) = true := decide_eq_true c6; have c6b1 : decide (60 < ((rd_T103 l0 x4_1).f3).length) = true := decide_eq_true (by omega); clear c6; have H' := Aside0.mk H; clear H; have p147 : 0 ≤ (x4_1 : Int) := of_decide_eq_true tZE; have q147 : x4_1 < (l0.length : Int) := of_decide_eq_true tZE; obtain ⟨ad147, A147_3, c147_3, e147, hx147_0, hx147_1, hx147_2, hx147_3, hl147_3, hi147_3⟩ := at_T103 HR0.out x4_1 p147 q147; have hz147_3 := hx147_3
     cases e147
     replace hx147_0 := cZ HB hx147_0; replace hx147_1 := cZ HB hx147_1; replace hx147_2 := cZ HB hx147_2; replace hx147_3 := cZ HB hx147_3; have HR147_3 := Aside0.mk hi147_3; have HC147_3 := Aside0.mk hl147_3; clear hi147_3 hl147_3; replace p147 := eq_true p147; replace q147 := eq_true q147; go_wp2; go_meet
     case rel => exact ⟨_, (true), tZB, H', ⟨by have := HK1.out; first | omega | exact Nat.le_refl _⟩, ⟨bZ⟩⟩
    rw [if_neg c6] at H; have c6b0 : decide (60 < (((rd_T103 l0 x4_1).f3).length : Int)) = false := decide_eq_false c6; have c6b1 : decide (60 < ((rd_T103 l0 x4_1).f3).length) = false := decide_eq_false (by omega); clear c6; have H' := Aside0.mk H; clear H; have p147 : 0 ≤ (x4_1 : Int) := of_decide_eq_true tZE; have q147 : x4_1 < (l0.length : Int) := of_decide_eq_true tZE; obtain ⟨ad147, A147_3, c147_3, e147, hx147_0, hx147_1, hx147_2, hx147_3, hl147_3, hi147_3⟩ := at_T103 HR0.out x4_1 p147 q147; have hz147_3 := hx147_3
    cases e147
    replace hx147_0 := cZ HB hx147_0; replace hx147_1 := cZ HB hx147_1; replace hx147_2 := cZ HB hx147_2; replace hx147_3 := cZ HB hx147_3; have HR147_3 := Aside0.mk hi147_3; have HC147_3 := Aside0.mk hl147_3; clear hi147_3 hl147_3; replace p147 := eq_true p147; replace q147 := eq_true q147; have p148 : 0 ≤ (x4_1 : Int) := of_decide_eq_true tZE; have q148 : x4_1 < (l0.length : Int) := of_decide_eq_true tZE; obtain ⟨ad148, A148_3, c148_3, e148, hx148_0, hx148_1, hx148_2, hx148_3, hl148_3, hi148_3⟩ := at_T103 HR0.out x4_1 p148 q148; have hz148_3 := hx148_3; obtain rfl : ad147 = ad148 := (by injection e148); replace hx148_0 := cZ HB hx148_0; replace hx148_1 := cZ HB hx148_1; replace hx148_2 := cZ HB hx148_2; replace hx148_3 := cZ HB hx148_3; have HR148_3 := Aside0.mk hi148_3; have HC148_3 := Aside0.mk hl148_3; clear hi148_3 hl148_3; replace p148 := eq_true p148; replace q148 := eq_true q148
    have ea_ := Option.some.inj (hz147_3.symm.trans hz148_3)
    injection ea_ with ea_ en_ ec_
    subst ea_; subst ec_; clear en_; go_wp2; go_meet
    case rel => exact ⟨_, (decide ((((rd_T103 l0 x4_1).f2).size : Int) > 40)), tZB, H', ⟨by have := HK1.out; first | omega | exact Nat.le_refl _⟩, ⟨bZ⟩⟩
   case rest =>
    clear HC4; (try clear c2 c2b0 c2b1 c3 c3b0); obtain ⟨kq, x31_3, rfl, HA, HJ3, HB⟩ := hcut
    cases kq with
    | zero => exact absurd HA.out (by simp [spec_HeadOf.j1])
    | succ kj3 =>
     have H := HA.out; clear HA; simp only [spec_HeadOf.j1] at H
     by_cases c7 : x31_3 = true
     ·subst c7; rw [if_pos rfl] at H; obtain rfl := Option.some.inj H; go_wp2; go_ret; exact ⟨tZC, bZ⟩
     replace c7 := Bool.eq_false_iff.mpr c7; subst c7; rw [if_neg Bool.false_ne_true] at H
     by_cases c8 : 0 ≤ x4_1
     rotate_left
     ·rw [if_neg c8] at H; exact absurd H (by simp)
     rw [if_pos c8] at H; have c8b0 := decide_eq_true c8; clear c8
     by_cases c9 : x4_1 < (l0.length : Int)
     rotate_left
     ·rw [if_neg c9] at H; exact absurd H (by simp)
     rw [if_pos c9] at H; have c9b0 := decide_eq_true c9; clear c9; replace H := Option.bind_eq_some_iff.mp H; obtain ⟨t150, A100, H⟩ := H; replace H : (spec_HeadOf.l1 kj3 l0 x3_1 x4_1 t150 0) = some r := H; have A10 := Aside0.mk A100; clear A100; have H' := Aside0.mk H; clear H; have p149 : 0 ≤ (x4_1 : Int) := of_decide_eq_true tZE; have q149 : x4_1 < (l0.length : Int) := of_decide_eq_true tZE; obtain ⟨ad149, A149_3, c149_3, e149, hx149_0, hx149_1, hx149_2, hx149_3, hl149_3, hi149_3⟩ := at_T103 HR0.out x4_1 p149 q149; have hz149_3 := hx149_3
     cases e149
     replace hx149_0 := cZ HB hx149_0; replace hx149_1 := cZ HB hx149_1; replace hx149_2 := cZ HB hx149_2; replace hx149_3 := cZ HB hx149_3; have HR149_3 := Aside0.mk hi149_3; have HC149_3 := Aside0.mk hl149_3; clear hi149_3 hl149_3; replace p149 := eq_true p149; replace q149 := eq_true q149
     go_wp2_with (first | ((with_reducible refine gate_callee (f := 163) rfl ?_); refine goesL_ (some 36) rfl rfl Try.func163 kZ rfl #[.agg #[.int .i64 ((rd_T103 l0 x4_1).f0), .int .i64 ((rd_T103 l0 x4_1).f1), .string ((rd_T103 l0 x4_1).f2), .slice A149_3 ((rd_T103 l0 x4_1).f3).length c149_3]] rfl tZA ?_; (with_reducible refine (spec_l5Numbers.calls kj3 ((rd_T103 l0 x4_1).f0) ((rd_T103 l0 x4_1).f1) ((rd_T103 l0 x4_1).f2) _ _ ((rd_T103 l0 x4_1).f3) t150 _ ?side1 ?side2 A10.out).mono ?_); (case side1 => repeat (first | exact (Kd.C_below HR149_3.out HB.out) | (with_reducible refine Kd.C_alloc ?_ _) | (with_reducible refine Kd.C_drewN ?_ _) | (with_reducible refine Kd.C_drew ?_))); (case side2 => exact HC149_3.out); rintro e w11 ⟨v151, rfl, ho0, hb⟩; refine ⟨_, rfl, ?_⟩; have HO152 := aZ (Kd.R_lower ho0 (below_size (lZB HB.out))); replace HB := aZ (below_step (lZB HB.out) hb); (try clear hb); (try clear hb2); (try clear hk); (try clear hi); (try clear ho0)))
     go_loopg [3, 6] kj3 (fun kq v3 v6 w' => ∃ (x3_3 : Int) (x6_3 : Int), v3 = .int .i64 x3_3 ∧ v6 = .int .i64 x6_3 ∧ Aside0 (spec_HeadOf.l1 kq l0 x3_3 x4_1 t150 x6_3 = some r) ∧ Aside0 (kq ≤ kj3) ∧ Aside0 (Kd.R (Kd.int .i64) 3 w' w.heap.size (fun _ => True) v151 t150) ∧ Aside0 (Below w.heap.size w w'))
     case atStart => exact ⟨(x3_1), (0), tZB, tZB, H', ⟨Nat.le_refl _⟩, ⟨lZR HO152.out⟩, ⟨bZ⟩⟩
     case round =>
      clear H'; (try clear c2 c2b0 c2b1 c3 c3b0 c7 c8 c8b0 c9 c9b0 hx149_0 hx149_1 hx149_2 hx149_3 p149 q149); obtain ⟨x3_3, x6_3, rfl, rfl, HA, HK3, HO_5, HB⟩ := hrel
      cases gk with
      | zero => exact absurd HA.out (by simp [spec_HeadOf.l1])
      | succ k3 =>
       have H := HA.out; clear HA; simp only [spec_HeadOf.l1] at H
       by_cases c12 : x6_3 < (t150.length : Int)
       rotate_left
       ·rw [if_neg c12] at H; have c12b0 := decide_eq_false c12; clear c12; have H' := Aside0.mk H; clear H; obtain ⟨Ao18, co18, eo18⟩ := Kd.R_slice HO_5.out; subst eo18; go_wp2
        go_roundg k3
        case measure => have := HK1.out; have := HJ3.out; have := HK3.out; omega
        case rel => exact ⟨(x3_3), (wrap64 (x4_1 + 1)), tZB, tZB, H', ⟨by have := HK1.out; have := HJ3.out; have := HK3.out; omega⟩, ⟨bZ⟩⟩
       rw [if_pos c12] at H; have c12b0 := decide_eq_true c12; clear c12
       by_cases c13 : 0 ≤ x6_3
       rotate_left
       ·rw [if_neg c13] at H; exact absurd H (by simp)
       rw [if_pos c13] at H; have c13b0 := decide_eq_true c13; clear c13; replace H := Option.bind_eq_some_iff.mp H; obtain ⟨t154, A140, H⟩ := H; replace H : (if t154 = true then (spec_HeadOf.l1 k3 l0 (Int.tmod (wrap64 ((wrap64 ((wrap64 (x3_3 * 1000003)) + (rd t150 x6_3))) + 549755813888)) 1099511627791) x4_1 t150 (wrap64 (x6_3 + 1))) else (some 0)) = some r := H; have A14 := Aside0.mk A140; clear A140
       by_cases c15 : t154 = true
       rotate_left
       ·replace c15 := Bool.eq_false_iff.mpr c15; subst c15; rw [if_neg Bool.false_ne_true] at H; obtain rfl := Option.some.inj H; obtain ⟨Ao17, co17, eo17⟩ := Kd.R_slice HO_5.out; subst eo17; have p153 : 0 ≤ (x6_3 : Int) := of_decide_eq_true tZE; have q153 : x6_3 < (t150.length : Int) := of_decide_eq_true tZE; obtain ⟨ad153, e153, hx153_0⟩ := Kd.at_int (Kd.R_reads' HO_5.out).2.2 x6_3 p153 q153
        cases e153
        replace p153 := eq_true p153; replace q153 := eq_true q153
        go_wp2_with (first | ((with_reducible refine gate_callee (f := 67) rfl ?_); refine goesL_ (some 47) rfl rfl Try.func67 kZ rfl #[.int .i64 (rd t150 x6_3), .int .i64 (-549755813888), .int .i64 549755813887] rfl tZA ?_; (with_reducible refine (spec_l1In.calls (rd t150 x6_3) (-549755813888) 549755813887 false _ A14.out).mono ?_); rintro e w' ⟨rfl, ⟨nd, rfl⟩⟩; refine ⟨_, rfl, ?_⟩))
        go_ret; exact ⟨tZC, bZ⟩
       subst c15; rw [if_pos rfl] at H; have H' := Aside0.mk H; clear H; obtain ⟨Ao16, co16, eo16⟩ := Kd.R_slice HO_5.out; subst eo16; have p153 : 0 ≤ (x6_3 : Int) := of_decide_eq_true tZE; have q153 : x6_3 < (t150.length : Int) := of_decide_eq_true tZE; obtain ⟨ad153, e153, hx153_0⟩ := Kd.at_int (Kd.R_reads' HO_5.out).2.2 x6_3 p153 q153
       cases e153
       replace p153 := eq_true p153; replace q153 := eq_true q153
       go_wp2_with (first | ((with_reducible refine gate_callee (f := 67) rfl ?_); refine goesL_ (some 47) rfl rfl Try.func67 kZ rfl #[.int .i64 (rd t150 x6_3), .int .i64 (-549755813888), .int .i64 549755813887] rfl tZA ?_; (with_reducible refine (spec_l1In.calls (rd t150 x6_3) (-549755813888) 549755813887 true _ A14.out).mono ?_); rintro e w' ⟨rfl, ⟨nd, rfl⟩⟩; refine ⟨_, rfl, ?_⟩; have p155 : 0 ≤ (x6_3 : Int) := of_decide_eq_true tZE; have q155 : x6_3 < (t150.length : Int) := of_decide_eq_true tZE; obtain ⟨ad155, e155, hx155_0⟩ := Kd.at_int (Kd.R_reads' HO_5.out).2.2 x6_3 p155 q155; obtain rfl : ad153 = ad155 := (by injection e155); replace p155 := eq_true p155; replace q155 := eq_true q155))
       go_roundg k3
       case measure => have := HK1.out; have := HJ3.out; have := HK3.out; omega
       case rel => exact ⟨(Int.tmod (wrap64 ((wrap64 ((wrap64 (x3_3 * 1000003)) + (rd t150 x6_3))) + 549755813888)) 1099511627791), (wrap64 (x6_3 + 1)), tZB, tZB, H', ⟨by have := HK1.out; have := HJ3.out; have := HK3.out; omega⟩, ⟨lZR HO_5.out⟩, ⟨bZ⟩⟩
def spec_l2Day.f (a0 : Int) : Option (Bool) := (spec_l1In.f a0 0 40000).bind fun t156 => (some t156)
set_option maxHeartbeats 8000000 in
set_option maxRecDepth 100000 in
theorem spec_l2Day.calls (a0 : Int) (r : Bool) (w : World) (h : spec_l2Day.f a0 = some r) :
    Calls Try.prog 81 #[.int .i64 a0] w fun e w' => e = .returned (.bool r) ∧ Drawn0 w w' := by
 have H : ((spec_l1In.f a0 0 40000).bind fun t156 => (some t156)) = some r := h; clear h; replace H := Option.bind_eq_some_iff.mp H; obtain ⟨t156, A20, H⟩ := H; replace H : (some t156) = some r := H; have A2 := Aside0.mk A20; clear A20; obtain rfl := Option.some.inj H; go_enter Try.func81, Try.ntmps81
 go_wp2_with (first | ((with_reducible refine gate_callee (f := 67) rfl ?_); refine goesL_ (some 4) rfl rfl Try.func67 kZ rfl #[.int .i64 a0, .int .i64 0, .int .i64 40000] rfl tZA ?_; (with_reducible refine (spec_l1In.calls a0 0 40000 t156 _ A2.out).mono ?_); rintro e w' ⟨rfl, ⟨nd, rfl⟩⟩; refine ⟨_, rfl, ?_⟩))
 go_ret; exact ⟨tZB, tZD⟩
end Go.Proofs.Ytmpknbdbichdiaa.PFnExactLedgerOk
