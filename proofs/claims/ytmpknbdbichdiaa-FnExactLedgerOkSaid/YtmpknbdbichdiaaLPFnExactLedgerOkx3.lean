import Derived.Test.YtmpknbdbichdiaaLPFnExactLedgerOkx0
import Derived.Test.YtmpknbdbichdiaaLPFnExactLedgerOkx1
import Derived.Test.YtmpknbdbichdiaaLPFnExactLedgerOkx2
import Derived.Test.YtmpknbdbichdiaaLSlimWords
namespace Go.Proofs.Ytmpknbdbichdiaa.PFnExactLedgerOk
open Go.Proofs.Ytmpknbdbichdiaa.SlimWords
open Go.RowKit Go.Proofs.YtmpknbdbichdiaaW.PrintWords Go.Proofs.YtmpknbdbichdiaaW.PrintLast Go.Proofs.YtmpknbdbichdiaaW.PrintMore Go.Proofs.Ytmpknbdbichdiaa.MapWords Go.Proofs.Ytmpknbdbichdiaa.IterWords Go.Proofs.Ytmpknbdbichdiaa.MarkWords
attribute [local go_sem] max2_int min2_int max_two min_two max_three min_three max_four min_four
set_option linter.unusedVariables false
set_option linter.unusedSimpArgs false
mutual
def spec_ChartOk.l0 : Nat → List (S222) → Int → Option (Bool)
  | 0, _, _ => none
  | k + 1, x0, x3 => if x3 < (x0.length : Int) then (if 0 ≤ x3 then ((spec_NameOk.f k ((rd_T222 x0 x3).f0)).bind fun t118 => (if t118 = true then ((spec_l1In.f ((rd_T222 x0 x3).f2) 1 5).bind fun t119 => (if t119 = true then ((spec_l1In.f ((rd_T222 x0 x3).f1) (-1) (wrap64 (x3 - 1))).bind fun t120 => (spec_ChartOk.j1 k x0 x3 (!t120) ((rd_T222 x0 x3).f0) ((rd_T222 x0 x3).f1) ((rd_T222 x0 x3).f2))) else (spec_ChartOk.j1 k x0 x3 true ((rd_T222 x0 x3).f0) ((rd_T222 x0 x3).f1) ((rd_T222 x0 x3).f2)))) else (spec_ChartOk.j1 k x0 x3 true ((rd_T222 x0 x3).f0) ((rd_T222 x0 x3).f1) ((rd_T222 x0 x3).f2)))) else (none)) else (some true)
def spec_ChartOk.j1 : Nat → List (S222) → Int → Bool → ByteArray → Int → Int → Option (Bool)
  | 0, _, _, _, _, _, _ => none
  | k + 1, x0, x3, x38, x118000, x118001, x118002 => if x38 = true then (some false) else (spec_ChartOk.l1 k x0 x3 0 x118000 x118001 x118002)
def spec_ChartOk.l1 : Nat → List (S222) → Int → Int → ByteArray → Int → Int → Option (Bool)
  | 0, _, _, _, _, _, _ => none
  | k + 1, x0, x3, x5, x118000, x118001, x118002 => if x5 < x3 then (if 0 ≤ x5 then (if x5 < (x0.length : Int) then (if ((rd_T222 x0 x5).f0).toList = x118000.toList then (some false) else (spec_ChartOk.l1 k x0 x3 (wrap64 (x5 + 1)) x118000 x118001 x118002)) else (none)) else (none)) else (if x118001 < 0 then (spec_ChartOk.l0 k x0 (wrap64 (x3 + 1))) else (spec_ChartOk.l2 k x0 x3 (wrap64 (x3 - 1)) x118000 x118001 x118002))
def spec_ChartOk.l2 : Nat → List (S222) → Int → Int → ByteArray → Int → Int → Option (Bool)
  | 0, _, _, _, _, _, _ => none
  | k + 1, x0, x3, x6, x118000, x118001, x118002 => if x6 ≥ 0 then (if x6 = x118001 then (if x6 < 0 then (some false) else (if 0 ≤ x6 then (if x6 < (x0.length : Int) then (if ((rd_T222 x0 x6).f2) = x118002 then ((spec_l4Deep.f k x0 x3).bind fun t123 => (if t123 > 8 then (some false) else (spec_ChartOk.l0 k x0 (wrap64 (x3 + 1))))) else (some false)) else (none)) else (none))) else (if 0 ≤ x6 then (if x6 < (x0.length : Int) then (spec_ChartOk.l2 k x0 x3 ((rd_T222 x0 x6).f1) x118000 x118001 x118002) else (none)) else (none))) else (if x6 < 0 then (some false) else (if 0 ≤ x6 then (none) else (none)))
end
def spec_ChartOk.f (k : Nat) (l0 : List (S222)) : Option (Bool) := (spec_l1In.f (l0.length : Int) 1 120).bind fun t115 => (if t115 = true then (spec_ChartOk.l0 k l0 0) else (some false))
theorem spec_ChartOk.mono_l : ∀ k, (∀ y0 y1, LeO (spec_ChartOk.l0 k y0 y1) (spec_ChartOk.l0 (k + 1) y0 y1)) ∧ (∀ y0 y1 y2 y3 y4 y5, LeO (spec_ChartOk.j1 k y0 y1 y2 y3 y4 y5) (spec_ChartOk.j1 (k + 1) y0 y1 y2 y3 y4 y5)) ∧ (∀ y0 y1 y2 y3 y4 y5, LeO (spec_ChartOk.l1 k y0 y1 y2 y3 y4 y5) (spec_ChartOk.l1 (k + 1) y0 y1 y2 y3 y4 y5)) ∧ (∀ y0 y1 y2 y3 y4 y5, LeO (spec_ChartOk.l2 k y0 y1 y2 y3 y4 y5) (spec_ChartOk.l2 (k + 1) y0 y1 y2 y3 y4 y5))
  | 0 => ⟨fun _ _ r h => by simp [spec_ChartOk.l0] at h, fun _ _ _ _ _ _ r h => by simp [spec_ChartOk.j1] at h, fun _ _ _ _ _ _ r h => by simp [spec_ChartOk.l1] at h, fun _ _ _ _ _ _ r h => by simp [spec_ChartOk.l2] at h⟩
  | k + 1 => by
    obtain ⟨ih0, ih1, ih2, ih3⟩ := spec_ChartOk.mono_l k
    refine ⟨?_, ?_, ?_, ?_⟩
    · intro y0 y1
      unfold spec_ChartOk.l0
      repeat' first
      | (with_reducible exact ih0 _ _)
      | (with_reducible exact ih1 _ _ _ _ _ _)
      | (with_reducible exact ih2 _ _ _ _ _ _)
      | (with_reducible exact ih3 _ _ _ _ _ _)
      | (with_reducible exact spec_NameOk.mono _ _)
      | (with_reducible exact spec_l4Deep.mono _ _ _)
      | (with_reducible exact LeO.refl _)
      | (with_reducible exact LeO.none _)
      | (with_reducible refine LeO.ite ?_ ?_)
      | (with_reducible refine LeO.bind ?_ (fun _ => ?_))
      | exact ih0 _ _
      | exact ih1 _ _ _ _ _ _
      | exact ih2 _ _ _ _ _ _
      | exact ih3 _ _ _ _ _ _
      | exact spec_NameOk.mono _ _
      | exact spec_l4Deep.mono _ _ _
      | exact LeO.none _
      | refine LeO.ite ?_ ?_
      | refine LeO.bind ?_ (fun _ => ?_)
    · intro y0 y1 y2 y3 y4 y5
      unfold spec_ChartOk.j1
      repeat' first
      | (with_reducible exact ih0 _ _)
      | (with_reducible exact ih1 _ _ _ _ _ _)
      | (with_reducible exact ih2 _ _ _ _ _ _)
      | (with_reducible exact ih3 _ _ _ _ _ _)
      | (with_reducible exact spec_NameOk.mono _ _)
      | (with_reducible exact spec_l4Deep.mono _ _ _)
      | (with_reducible exact LeO.refl _)
      | (with_reducible exact LeO.none _)
      | (with_reducible refine LeO.ite ?_ ?_)
      | (with_reducible refine LeO.bind ?_ (fun _ => ?_))
      | exact ih0 _ _
      | exact ih1 _ _ _ _ _ _
      | exact ih2 _ _ _ _ _ _
      | exact ih3 _ _ _ _ _ _
      | exact spec_NameOk.mono _ _
      | exact spec_l4Deep.mono _ _ _
      | exact LeO.none _
      | refine LeO.ite ?_ ?_
      | refine LeO.bind ?_ (fun _ => ?_)
    · intro y0 y1 y2 y3 y4 y5
      unfold spec_ChartOk.l1
      repeat' first
      | (with_reducible exact ih0 _ _)
      | (with_reducible exact ih1 _ _ _ _ _ _)
      | (with_reducible exact ih2 _ _ _ _ _ _)
      | (with_reducible exact ih3 _ _ _ _ _ _)
      | (with_reducible exact spec_NameOk.mono _ _)
      | (with_reducible exact spec_l4Deep.mono _ _ _)
      | (with_reducible exact LeO.refl _)
      | (with_reducible exact LeO.none _)
      | (with_reducible refine LeO.ite ?_ ?_)
      | (with_reducible refine LeO.bind ?_ (fun _ => ?_))
      | exact ih0 _ _
      | exact ih1 _ _ _ _ _ _
      | exact ih2 _ _ _ _ _ _
      | exact ih3 _ _ _ _ _ _
      | exact spec_NameOk.mono _ _
      | exact spec_l4Deep.mono _ _ _
      | exact LeO.none _
      | refine LeO.ite ?_ ?_
      | refine LeO.bind ?_ (fun _ => ?_)
    · intro y0 y1 y2 y3 y4 y5
      unfold spec_ChartOk.l2
      repeat' first
      | (with_reducible exact ih0 _ _)
      | (with_reducible exact ih1 _ _ _ _ _ _)
      | (with_reducible exact ih2 _ _ _ _ _ _)
      | (with_reducible exact ih3 _ _ _ _ _ _)
      | (with_reducible exact spec_NameOk.mono _ _)
      | (with_reducible exact spec_l4Deep.mono _ _ _)
      | (with_reducible exact LeO.refl _)
      | (with_reducible exact LeO.none _)
      | (with_reducible refine LeO.ite ?_ ?_)
      | (with_reducible refine LeO.bind ?_ (fun _ => ?_))
      | exact ih0 _ _
      | exact ih1 _ _ _ _ _ _
      | exact ih2 _ _ _ _ _ _
      | exact ih3 _ _ _ _ _ _
      | exact spec_NameOk.mono _ _
      | exact spec_l4Deep.mono _ _ _
      | exact LeO.none _
      | refine LeO.ite ?_ ?_
      | refine LeO.bind ?_ (fun _ => ?_)
theorem spec_ChartOk.mono : ∀ a0 k, LeO (spec_ChartOk.f k a0) (spec_ChartOk.f (k + 1) a0) := by
 intro a0 k
 obtain ⟨ih0, ih1, ih2, ih3⟩ := spec_ChartOk.mono_l k
 unfold spec_ChartOk.f
 repeat' first
     | (with_reducible exact ih0 _ _)
     | (with_reducible exact ih1 _ _ _ _ _ _)
     | (with_reducible exact ih2 _ _ _ _ _ _)
     | (with_reducible exact ih3 _ _ _ _ _ _)
     | (with_reducible exact spec_NameOk.mono _ _)
     | (with_reducible exact spec_l4Deep.mono _ _ _)
     | (with_reducible exact LeO.refl _)
     | (with_reducible exact LeO.none _)
     | (with_reducible refine LeO.ite ?_ ?_)
     | (with_reducible refine LeO.bind ?_ (fun _ => ?_))
     | exact ih0 _ _
     | exact ih1 _ _ _ _ _ _
     | exact ih2 _ _ _ _ _ _
     | exact ih3 _ _ _ _ _ _
     | exact spec_NameOk.mono _ _
     | exact spec_l4Deep.mono _ _ _
     | exact LeO.none _
     | refine LeO.ite ?_ ?_
     | refine LeO.bind ?_ (fun _ => ?_)
set_option maxHeartbeats 8000000 in
set_option maxRecDepth 100000 in
theorem spec_ChartOk.calls (k : Nat) (A0 : Option Addr) (c0 : Nat) (l0 : List (S222)) (r : Bool) (w : World) (hr0 : Kd.C k222 w A0 l0.length l0) (hc0 : l0.length ≤ c0) (h : spec_ChartOk.f k l0 = some r) :
    Calls Try.prog 162 #[.slice A0 l0.length c0] w fun e w' => e = .returned (.bool r) ∧ Below w.heap.size w w' := by
 have hu222 := Try.underlying222; have HR0 := Aside0.mk hr0; have HC0 := Aside0.mk hc0; clear hr0 hc0; have HB := aZ (Below.refl w.heap.size w); have H : ((spec_l1In.f (l0.length : Int) 1 120).bind fun t115 => (if t115 = true then (spec_ChartOk.l0 k l0 0) else (some false))) = some r := h; clear h; replace H := Option.bind_eq_some_iff.mp H; obtain ⟨t115, A20, H⟩ := H; replace H : (if t115 = true then (spec_ChartOk.l0 k l0 0) else (some false)) = some r := H; have A2 := Aside0.mk A20; clear A20
 by_cases c3 : t115 = true
 rotate_left
 ·replace c3 := Bool.eq_false_iff.mpr c3; subst c3; rw [if_neg Bool.false_ne_true] at H; obtain rfl := Option.some.inj H; go_enter Try.func162, Try.ntmps162
  go_wp2_with (first | (go_at_call 67; (with_reducible refine (spec_l1In.calls (l0.length : Int) 1 120 false _ A2.out).mono ?_); rintro e w' ⟨rfl, ⟨nd, rfl⟩⟩; (try first | exact ⟨rfl, _, World.drewN_drewN _ _ _⟩ | exact ⟨rfl, _, Eq.trans (World.drewN_drewN _ _ _) (congrArg (World.drewN _) (Nat.add_assoc _ _ _))⟩)))
  repeat (go_quiet (first | (go_at_call 67; (with_reducible refine (spec_l1In.calls (l0.length : Int) 1 120 false _ A2.out).mono ?_); rintro e w' ⟨rfl, ⟨nd, rfl⟩⟩; (try first | exact ⟨rfl, _, World.drewN_drewN _ _ _⟩ | exact ⟨rfl, _, Eq.trans (World.drewN_drewN _ _ _) (congrArg (World.drewN _) (Nat.add_assoc _ _ _))⟩))); try go_wp2_with (first | (go_at_call 67; (with_reducible refine (spec_l1In.calls (l0.length : Int) 1 120 false _ A2.out).mono ?_); rintro e w' ⟨rfl, ⟨nd, rfl⟩⟩; (try first | exact ⟨rfl, _, World.drewN_drewN _ _ _⟩ | exact ⟨rfl, _, Eq.trans (World.drewN_drewN _ _ _) (congrArg (World.drewN _) (Nat.add_assoc _ _ _))⟩))))
  go_ret; exact ⟨tZC, bZ⟩
 subst c3; rw [if_pos rfl] at H; have H' := Aside0.mk H; clear H; go_enter Try.func162, Try.ntmps162
 go_wp2_with (first | (go_at_call 67; (with_reducible refine (spec_l1In.calls (l0.length : Int) 1 120 true _ A2.out).mono ?_); rintro e w' ⟨rfl, ⟨nd, rfl⟩⟩; (try first | exact ⟨rfl, _, World.drewN_drewN _ _ _⟩ | exact ⟨rfl, _, Eq.trans (World.drewN_drewN _ _ _) (congrArg (World.drewN _) (Nat.add_assoc _ _ _))⟩)))
 repeat (go_quiet (first | (go_at_call 67; (with_reducible refine (spec_l1In.calls (l0.length : Int) 1 120 true _ A2.out).mono ?_); rintro e w' ⟨rfl, ⟨nd, rfl⟩⟩; (try first | exact ⟨rfl, _, World.drewN_drewN _ _ _⟩ | exact ⟨rfl, _, Eq.trans (World.drewN_drewN _ _ _) (congrArg (World.drewN _) (Nat.add_assoc _ _ _))⟩))); try go_wp2_with (first | (go_at_call 67; (with_reducible refine (spec_l1In.calls (l0.length : Int) 1 120 true _ A2.out).mono ?_); rintro e w' ⟨rfl, ⟨nd, rfl⟩⟩; (try first | exact ⟨rfl, _, World.drewN_drewN _ _ _⟩ | exact ⟨rfl, _, Eq.trans (World.drewN_drewN _ _ _) (congrArg (World.drewN _) (Nat.add_assoc _ _ _))⟩))))
 go_loopg [3] k (fun kq v3 w' => ∃ (x3_1 : Int), v3 = .int .i64 x3_1 ∧ Aside0 (spec_ChartOk.l0 kq l0 x3_1 = some r) ∧ Aside0 (kq ≤ k) ∧ Aside0 (Below w.heap.size w w'))
 case atStart => exact ⟨(0), tZB, H', ⟨Nat.le_refl _⟩, ⟨bZ⟩⟩
 case round =>
  clear H'; (try clear c3); obtain ⟨x3_1, rfl, HA, HK1, HB⟩ := hrel
  cases gk with
  | zero => exact absurd HA.out (by simp [spec_ChartOk.l0])
  | succ k1 =>
   have H := HA.out; clear HA; simp only [spec_ChartOk.l0] at H
   by_cases c4 : x3_1 < (l0.length : Int)
   rotate_left
   ·rw [if_neg c4] at H; have c4b0 := decide_eq_false c4; clear c4; obtain rfl := Option.some.inj H; go_wp2
    repeat (go_quiet (fail); try go_wp2)
    go_ret; exact ⟨tZC, bZ⟩
   rw [if_pos c4] at H; have c4b0 := decide_eq_true c4; clear c4
   by_cases c5 : 0 ≤ x3_1
   rotate_left
   ·rw [if_neg c5] at H; exact absurd H (by simp)
   rw [if_pos c5] at H; have c5b0 := decide_eq_true c5; clear c5; have HC6 := Aside0.mk H; clear H; have p116 : 0 ≤ (x3_1 : Int) := of_decide_eq_true tZE; have q116 : x3_1 < (l0.length : Int) := of_decide_eq_true tZE; obtain ⟨ad116, e116, hx116_0, hx116_1, hx116_2⟩ := at_T222 HR0.out x3_1 p116 q116
   cases e116
   replace hx116_0 := cZ HB hx116_0; replace hx116_1 := cZ HB hx116_1; replace hx116_2 := cZ HB hx116_2; replace p116 := eq_true p116; replace q116 := eq_true q116
   go_upto_region 7 with (first | ((with_reducible refine gate_dst (N := 4) rfl ?_); refine box_event tZR (N := 4) tZR (cs := #[.string (⟨#[]⟩ : ByteArray), .int .i64 0, .int .i64 0]) (t := 222) tZS ?_; intro gb117 hg w7 hbox hb; have BK117 := aZ (hbox); have GW117 := aZ ((by rw [hg]; exact (below_size (lZB HB.out)) : w.heap.size ≤ gb117)); have GE117 := GW117; replace HB := aZ (below_step (lZB HB.out) hb); clear hb hbox hg; obtain ⟨hcz8_0, hcz8_1, hcz8_2, hfz8_0, hfz8_1, hfz8_2⟩ := bc3 BK117.out))
   repeat (go_quiet (first | ((with_reducible refine gate_dst (N := 4) rfl ?_); refine box_event tZR (N := 4) tZR (cs := #[.string (⟨#[]⟩ : ByteArray), .int .i64 0, .int .i64 0]) (t := 222) tZS ?_; intro gb117 hg w7 hbox hb; have BK117 := aZ (hbox); have GW117 := aZ ((by rw [hg]; exact (below_size (lZB HB.out)) : w.heap.size ≤ gb117)); have GE117 := GW117; replace HB := aZ (below_step (lZB HB.out) hb); clear hb hbox hg; obtain ⟨hcz8_0, hcz8_1, hcz8_2, hfz8_0, hfz8_1, hfz8_2⟩ := bc3 BK117.out)); go_upto_region 7 with (first | ((with_reducible refine gate_dst (N := 4) rfl ?_); refine box_event tZR (N := 4) tZR (cs := #[.string (⟨#[]⟩ : ByteArray), .int .i64 0, .int .i64 0]) (t := 222) tZS ?_; intro gb117 hg w7 hbox hb; have BK117 := aZ (hbox); have GW117 := aZ ((by rw [hg]; exact (below_size (lZB HB.out)) : w.heap.size ≤ gb117)); have GE117 := GW117; replace HB := aZ (below_step (lZB HB.out) hb); clear hb hbox hg; obtain ⟨hcz8_0, hcz8_1, hcz8_2, hfz8_0, hfz8_1, hfz8_2⟩ := bc3 BK117.out)))
   (try simp only [Act.put, sZ1, sZ2, sZ3])
   go_cut [38] (fun v38 wc => ∃ (kq : Nat) (x38_5 : Bool), v38 = .bool x38_5 ∧ Aside0 (spec_ChartOk.j1 kq l0 x3_1 x38_5 ((rd_T222 l0 x3_1).f0) ((rd_T222 l0 x3_1).f1) ((rd_T222 l0 x3_1).f2) = some r) ∧ Aside0 (kq ≤ k1) ∧ Aside0 (wc.heap[gb117]? = some (.cells #[.string ((rd_T222 l0 x3_1).f0), .int .i64 ((rd_T222 l0 x3_1).f1), .int .i64 ((rd_T222 l0 x3_1).f2)] 222 (0, 0))) ∧ Aside0 (Below w.heap.size w wc))
   case first =>
    have H := HC6.out; clear HC6; replace H := Option.bind_eq_some_iff.mp H; obtain ⟨t118, A90, H⟩ := H; replace H : (if t118 = true then ((spec_l1In.f ((rd_T222 l0 x3_1).f2) 1 5).bind fun t119 => (if t119 = true then ((spec_l1In.f ((rd_T222 l0 x3_1).f1) (-1) (wrap64 (x3_1 - 1))).bind fun t120 => (spec_ChartOk.j1 k1 l0 x3_1 (!t120) ((rd_T222 l0 x3_1).f0) ((rd_T222 l0 x3_1).f1) ((rd_T222 l0 x3_1).f2))) else (spec_ChartOk.j1 k1 l0 x3_1 true ((rd_T222 l0 x3_1).f0) ((rd_T222 l0 x3_1).f1) ((rd_T222 l0 x3_1).f2)))) else (spec_ChartOk.j1 k1 l0 x3_1 true ((rd_T222 l0 x3_1).f0) ((rd_T222 l0 x3_1).f1) ((rd_T222 l0 x3_1).f2))) = some r := H; have A9 := Aside0.mk A90; clear A90
    by_cases c10 : t118 = true
    rotate_left
    ·replace c10 := Bool.eq_false_iff.mpr c10; subst c10; rw [if_neg Bool.false_ne_true] at H; have H' := Aside0.mk H; clear H; obtain ⟨hcz16_0, hcz16_1, hcz16_2, hfz16_0, hfz16_1, hfz16_2⟩ := bc3 BK117.out
     go_wp2_with (first | (go_at_call 176; (with_reducible refine (spec_NameOk.calls k1 ((rd_T222 l0 x3_1).f0) false _ A9.out).mono ?_); rintro e w' ⟨rfl, ⟨nd, rfl⟩⟩; (try first | exact ⟨rfl, _, World.drewN_drewN _ _ _⟩ | exact ⟨rfl, _, Eq.trans (World.drewN_drewN _ _ _) (congrArg (World.drewN _) (Nat.add_assoc _ _ _))⟩)))
     repeat (go_quiet (first | (go_at_call 176; (with_reducible refine (spec_NameOk.calls k1 ((rd_T222 l0 x3_1).f0) false _ A9.out).mono ?_); rintro e w' ⟨rfl, ⟨nd, rfl⟩⟩; (try first | exact ⟨rfl, _, World.drewN_drewN _ _ _⟩ | exact ⟨rfl, _, Eq.trans (World.drewN_drewN _ _ _) (congrArg (World.drewN _) (Nat.add_assoc _ _ _))⟩))); try go_wp2_with (first | (go_at_call 176; (with_reducible refine (spec_NameOk.calls k1 ((rd_T222 l0 x3_1).f0) false _ A9.out).mono ?_); rintro e w' ⟨rfl, ⟨nd, rfl⟩⟩; (try first | exact ⟨rfl, _, World.drewN_drewN _ _ _⟩ | exact ⟨rfl, _, Eq.trans (World.drewN_drewN _ _ _) (congrArg (World.drewN _) (Nat.add_assoc _ _ _))⟩))))
     go_meet
     case rel => exact ⟨_, (true), tZB, H', ⟨by have := HK1.out; first | omega | exact Nat.le_refl _⟩, ⟨by (with_reducible repeat (first | refine blk_drewN ?_ _ | refine blk_drew ?_ | refine blk_alloc ?_ _)); refine blk_put (cs := #[.string ((rd_T222 l0 x3_1).f0), .int .i64 ((rd_T222 l0 x3_1).f1), .int .i64 0]) ?_ 2 _ rfl; (with_reducible repeat (first | refine blk_drewN ?_ _ | refine blk_drew ?_ | refine blk_alloc ?_ _)); refine blk_put (cs := #[.string ((rd_T222 l0 x3_1).f0), .int .i64 0, .int .i64 0]) ?_ 1 _ rfl; (with_reducible repeat (first | refine blk_drewN ?_ _ | refine blk_drew ?_ | refine blk_alloc ?_ _)); refine blk_put (cs := #[.string (⟨#[]⟩ : ByteArray), .int .i64 0, .int .i64 0]) ?_ 0 _ rfl; (with_reducible repeat (first | refine blk_drewN ?_ _ | refine blk_drew ?_ | refine blk_alloc ?_ _)); exact BK117.out⟩, ⟨bZ⟩⟩
    subst c10; rw [if_pos rfl] at H; replace H := Option.bind_eq_some_iff.mp H; obtain ⟨t119, A110, H⟩ := H; replace H : (if t119 = true then ((spec_l1In.f ((rd_T222 l0 x3_1).f1) (-1) (wrap64 (x3_1 - 1))).bind fun t120 => (spec_ChartOk.j1 k1 l0 x3_1 (!t120) ((rd_T222 l0 x3_1).f0) ((rd_T222 l0 x3_1).f1) ((rd_T222 l0 x3_1).f2))) else (spec_ChartOk.j1 k1 l0 x3_1 true ((rd_T222 l0 x3_1).f0) ((rd_T222 l0 x3_1).f1) ((rd_T222 l0 x3_1).f2))) = some r := H; have A11 := Aside0.mk A110; clear A110
    by_cases c12 : t119 = true
    rotate_left
    ·replace c12 := Bool.eq_false_iff.mpr c12; subst c12; rw [if_neg Bool.false_ne_true] at H; have H' := Aside0.mk H; clear H; obtain ⟨hcz15_0, hcz15_1, hcz15_2, hfz15_0, hfz15_1, hfz15_2⟩ := bc3 BK117.out
     go_wp2_with (first | (go_at_call 176; (with_reducible refine (spec_NameOk.calls k1 ((rd_T222 l0 x3_1).f0) true _ A9.out).mono ?_); rintro e w' ⟨rfl, ⟨nd, rfl⟩⟩; (try first | exact ⟨rfl, _, World.drewN_drewN _ _ _⟩ | exact ⟨rfl, _, Eq.trans (World.drewN_drewN _ _ _) (congrArg (World.drewN _) (Nat.add_assoc _ _ _))⟩)) | (go_at_call 67; (with_reducible refine (spec_l1In.calls ((rd_T222 l0 x3_1).f2) 1 5 false _ A11.out).mono ?_); rintro e w' ⟨rfl, ⟨nd, rfl⟩⟩; (try first | exact ⟨rfl, _, World.drewN_drewN _ _ _⟩ | exact ⟨rfl, _, Eq.trans (World.drewN_drewN _ _ _) (congrArg (World.drewN _) (Nat.add_assoc _ _ _))⟩)))
     repeat (go_quiet (first | (go_at_call 176; (with_reducible refine (spec_NameOk.calls k1 ((rd_T222 l0 x3_1).f0) true _ A9.out).mono ?_); rintro e w' ⟨rfl, ⟨nd, rfl⟩⟩; (try first | exact ⟨rfl, _, World.drewN_drewN _ _ _⟩ | exact ⟨rfl, _, Eq.trans (World.drewN_drewN _ _ _) (congrArg (World.drewN _) (Nat.add_assoc _ _ _))⟩)) | (go_at_call 67; (with_reducible refine (spec_l1In.calls ((rd_T222 l0 x3_1).f2) 1 5 false _ A11.out).mono ?_); rintro e w' ⟨rfl, ⟨nd, rfl⟩⟩; (try first | exact ⟨rfl, _, World.drewN_drewN _ _ _⟩ | exact ⟨rfl, _, Eq.trans (World.drewN_drewN _ _ _) (congrArg (World.drewN _) (Nat.add_assoc _ _ _))⟩))); try go_wp2_with (first | (go_at_call 176; (with_reducible refine (spec_NameOk.calls k1 ((rd_T222 l0 x3_1).f0) true _ A9.out).mono ?_); rintro e w' ⟨rfl, ⟨nd, rfl⟩⟩; (try first | exact ⟨rfl, _, World.drewN_drewN _ _ _⟩ | exact ⟨rfl, _, Eq.trans (World.drewN_drewN _ _ _) (congrArg (World.drewN _) (Nat.add_assoc _ _ _))⟩)) | (go_at_call 67; (with_reducible refine (spec_l1In.calls ((rd_T222 l0 x3_1).f2) 1 5 false _ A11.out).mono ?_); rintro e w' ⟨rfl, ⟨nd, rfl⟩⟩; (try first | exact ⟨rfl, _, World.drewN_drewN _ _ _⟩ | exact ⟨rfl, _, Eq.trans (World.drewN_drewN _ _ _) (congrArg (World.drewN _) (Nat.add_assoc _ _ _))⟩))))
     go_meet
     case rel => exact ⟨_, (true), tZB, H', ⟨by have := HK1.out; first | omega | exact Nat.le_refl _⟩, ⟨by (with_reducible repeat (first | refine blk_drewN ?_ _ | refine blk_drew ?_ | refine blk_alloc ?_ _)); refine blk_put (cs := #[.string ((rd_T222 l0 x3_1).f0), .int .i64 ((rd_T222 l0 x3_1).f1), .int .i64 0]) ?_ 2 _ rfl; (with_reducible repeat (first | refine blk_drewN ?_ _ | refine blk_drew ?_ | refine blk_alloc ?_ _)); refine blk_put (cs := #[.string ((rd_T222 l0 x3_1).f0), .int .i64 0, .int .i64 0]) ?_ 1 _ rfl; (with_reducible repeat (first | refine blk_drewN ?_ _ | refine blk_drew ?_ | refine blk_alloc ?_ _)); refine blk_put (cs := #[.string (⟨#[]⟩ : ByteArray), .int .i64 0, .int .i64 0]) ?_ 0 _ rfl; (with_reducible repeat (first | refine blk_drewN ?_ _ | refine blk_drew ?_ | refine blk_alloc ?_ _)); exact BK117.out⟩, ⟨bZ⟩⟩
    subst c12; rw [if_pos rfl] at H; replace H := Option.bind_eq_some_iff.mp H; obtain ⟨t120, A130, H⟩ := H; replace H : (spec_ChartOk.j1 k1 l0 x3_1 (!t120) ((rd_T222 l0 x3_1).f0) ((rd_T222 l0 x3_1).f1) ((rd_T222 l0 x3_1).f2)) = some r := H; have A13 := Aside0.mk A130; clear A130; have H' := Aside0.mk H; clear H; obtain ⟨hcz14_0, hcz14_1, hcz14_2, hfz14_0, hfz14_1, hfz14_2⟩ := bc3 BK117.out
    go_wp2_with (first | (go_at_call 176; (with_reducible refine (spec_NameOk.calls k1 ((rd_T222 l0 x3_1).f0) true _ A9.out).mono ?_); rintro e w' ⟨rfl, ⟨nd, rfl⟩⟩; (try first | exact ⟨rfl, _, World.drewN_drewN _ _ _⟩ | exact ⟨rfl, _, Eq.trans (World.drewN_drewN _ _ _) (congrArg (World.drewN _) (Nat.add_assoc _ _ _))⟩)) | (go_at_call 67; (with_reducible refine (spec_l1In.calls ((rd_T222 l0 x3_1).f2) 1 5 true _ A11.out).mono ?_); rintro e w' ⟨rfl, ⟨nd, rfl⟩⟩; (try first | exact ⟨rfl, _, World.drewN_drewN _ _ _⟩ | exact ⟨rfl, _, Eq.trans (World.drewN_drewN _ _ _) (congrArg (World.drewN _) (Nat.add_assoc _ _ _))⟩)) | (go_at_call 67; (with_reducible refine (spec_l1In.calls ((rd_T222 l0 x3_1).f1) (-1) (wrap64 (x3_1 - 1)) t120 _ A13.out).mono ?_); rintro e w' ⟨rfl, ⟨nd, rfl⟩⟩; (try first | exact ⟨rfl, _, World.drewN_drewN _ _ _⟩ | exact ⟨rfl, _, Eq.trans (World.drewN_drewN _ _ _) (congrArg (World.drewN _) (Nat.add_assoc _ _ _))⟩)))
    repeat (go_quiet (first | (go_at_call 176; (with_reducible refine (spec_NameOk.calls k1 ((rd_T222 l0 x3_1).f0) true _ A9.out).mono ?_); rintro e w' ⟨rfl, ⟨nd, rfl⟩⟩; (try first | exact ⟨rfl, _, World.drewN_drewN _ _ _⟩ | exact ⟨rfl, _, Eq.trans (World.drewN_drewN _ _ _) (congrArg (World.drewN _) (Nat.add_assoc _ _ _))⟩)) | (go_at_call 67; (with_reducible refine (spec_l1In.calls ((rd_T222 l0 x3_1).f2) 1 5 true _ A11.out).mono ?_); rintro e w' ⟨rfl, ⟨nd, rfl⟩⟩; (try first | exact ⟨rfl, _, World.drewN_drewN _ _ _⟩ | exact ⟨rfl, _, Eq.trans (World.drewN_drewN _ _ _) (congrArg (World.drewN _) (Nat.add_assoc _ _ _))⟩)) | (go_at_call 67; (with_reducible refine (spec_l1In.calls ((rd_T222 l0 x3_1).f1) (-1) (wrap64 (x3_1 - 1)) t120 _ A13.out).mono ?_); rintro e w' ⟨rfl, ⟨nd, rfl⟩⟩; (try first | exact ⟨rfl, _, World.drewN_drewN _ _ _⟩ | exact ⟨rfl, _, Eq.trans (World.drewN_drewN _ _ _) (congrArg (World.drewN _) (Nat.add_assoc _ _ _))⟩))); try go_wp2_with (first | (go_at_call 176; (with_reducible refine (spec_NameOk.calls k1 ((rd_T222 l0 x3_1).f0) true _ A9.out).mono ?_); rintro e w' ⟨rfl, ⟨nd, rfl⟩⟩; (try first | exact ⟨rfl, _, World.drewN_drewN _ _ _⟩ | exact ⟨rfl, _, Eq.trans (World.drewN_drewN _ _ _) (congrArg (World.drewN _) (Nat.add_assoc _ _ _))⟩)) | (go_at_call 67; (with_reducible refine (spec_l1In.calls ((rd_T222 l0 x3_1).f2) 1 5 true _ A11.out).mono ?_); rintro e w' ⟨rfl, ⟨nd, rfl⟩⟩; (try first | exact ⟨rfl, _, World.drewN_drewN _ _ _⟩ | exact ⟨rfl, _, Eq.trans (World.drewN_drewN _ _ _) (congrArg (World.drewN _) (Nat.add_assoc _ _ _))⟩)) | (go_at_call 67; (with_reducible refine (spec_l1In.calls ((rd_T222 l0 x3_1).f1) (-1) (wrap64 (x3_1 - 1)) t120 _ A13.out).mono ?_); rintro e w' ⟨rfl, ⟨nd, rfl⟩⟩; (try first | exact ⟨rfl, _, World.drewN_drewN _ _ _⟩ | exact ⟨rfl, _, Eq.trans (World.drewN_drewN _ _ _) (congrArg (World.drewN _) (Nat.add_assoc _ _ _))⟩))))
    go_meet
    case rel => exact ⟨_, (!t120), tZB, H', ⟨by have := HK1.out; first | omega | exact Nat.le_refl _⟩, ⟨by (with_reducible repeat (first | refine blk_drewN ?_ _ | refine blk_drew ?_ | refine blk_alloc ?_ _)); refine blk_put (cs := #[.string ((rd_T222 l0 x3_1).f0), .int .i64 ((rd_T222 l0 x3_1).f1), .int .i64 0]) ?_ 2 _ rfl; (with_reducible repeat (first | refine blk_drewN ?_ _ | refine blk_drew ?_ | refine blk_alloc ?_ _)); refine blk_put (cs := #[.string ((rd_T222 l0 x3_1).f0), .int .i64 0, .int .i64 0]) ?_ 1 _ rfl; (with_reducible repeat (first | refine blk_drewN ?_ _ | refine blk_drew ?_ | refine blk_alloc ?_ _)); refine blk_put (cs := #[.string (⟨#[]⟩ : ByteArray), .int .i64 0, .int .i64 0]) ?_ 0 _ rfl; (with_reducible repeat (first | refine blk_drewN ?_ _ | refine blk_drew ?_ | refine blk_alloc ?_ _)); exact BK117.out⟩, ⟨bZ⟩⟩
   case rest =>
    clear HC6; (try clear c3 c4 c4b0 c5 c5b0 hcz8_0 hcz8_1 hcz8_2 hfz8_0 hfz8_1 hfz8_2 hx116_0 hx116_1 hx116_2 p116 q116); obtain ⟨kq, x38_5, rfl, HA, HJ5, BK117, HB⟩ := hcut
    cases kq with
    | zero => exact absurd HA.out (by simp [spec_ChartOk.j1])
    | succ kj5 =>
     have H := HA.out; clear HA; simp only [spec_ChartOk.j1] at H
     by_cases c17 : x38_5 = true
     ·subst c17; rw [if_pos rfl] at H; obtain rfl := Option.some.inj H; go_wp2
      repeat (go_quiet (fail); try go_wp2)
      go_ret; exact ⟨tZC, bZ⟩
     replace c17 := Bool.eq_false_iff.mpr c17; subst c17; rw [if_neg Bool.false_ne_true] at H; have H' := Aside0.mk H; clear H; go_wp2
     repeat (go_quiet (fail); try go_wp2)
     go_loopg [5] kj5 (fun kq v5 w' => ∃ (x5_3 : Int), v5 = .int .i64 x5_3 ∧ Aside0 (spec_ChartOk.l1 kq l0 x3_1 x5_3 ((rd_T222 l0 x3_1).f0) ((rd_T222 l0 x3_1).f1) ((rd_T222 l0 x3_1).f2) = some r) ∧ Aside0 (kq ≤ kj5) ∧ Aside0 (w'.heap[gb117]? = some (.cells #[.string ((rd_T222 l0 x3_1).f0), .int .i64 ((rd_T222 l0 x3_1).f1), .int .i64 ((rd_T222 l0 x3_1).f2)] 222 (0, 0))) ∧ Aside0 (Below w.heap.size w w'))
     case atStart => exact ⟨(0), tZB, H', ⟨Nat.le_refl _⟩, ⟨bkZ BK117.out⟩, ⟨bZ⟩⟩
     case round =>
      clear H'; (try clear c3 c4 c4b0 c5 c5b0 c17 hcz8_0 hcz8_1 hcz8_2 hfz8_0 hfz8_1 hfz8_2 hx116_0 hx116_1 hx116_2 p116 q116); obtain ⟨x5_3, rfl, HA, HK3, BK117, HB⟩ := hrel
      cases gk with
      | zero => exact absurd HA.out (by simp [spec_ChartOk.l1])
      | succ k3 =>
       have H := HA.out; clear HA; simp only [spec_ChartOk.l1] at H
       by_cases c18 : x5_3 < x3_1
       ·rw [if_pos c18] at H; have c18b0 := decide_eq_true c18; clear c18
        by_cases c19 : 0 ≤ x5_3
        rotate_left
        ·rw [if_neg c19] at H; exact absurd H (by simp)
        rw [if_pos c19] at H; have c19b0 := decide_eq_true c19; clear c19
        by_cases c20 : x5_3 < (l0.length : Int)
        rotate_left
        ·rw [if_neg c20] at H; exact absurd H (by simp)
        rw [if_pos c20] at H; have c20b0 := decide_eq_true c20; clear c20
        by_cases c21 : ((rd_T222 l0 x5_3).f0).toList = ((rd_T222 l0 x3_1).f0).toList
        ·rw [if_pos c21] at H; have c21b0 : (((rd_T222 l0 x5_3).f0).toList == ((rd_T222 l0 x3_1).f0).toList) = true := beq_iff_eq.mpr c21; have c21b1 : (((rd_T222 l0 x5_3).f0).toList != ((rd_T222 l0 x3_1).f0).toList) = false := bne_eq_false_iff_eq.mpr c21; clear c21; obtain rfl := Option.some.inj H; have p121 : 0 ≤ (x5_3 : Int) := of_decide_eq_true tZE; have q121 : x5_3 < (l0.length : Int) := of_decide_eq_true tZE; obtain ⟨ad121, e121, hx121_0, hx121_1, hx121_2⟩ := at_T222 HR0.out x5_3 p121 q121; obtain rfl : ad116 = ad121 := (by injection e121); replace hx121_0 := cZ HB hx121_0; replace hx121_1 := cZ HB hx121_1; replace hx121_2 := cZ HB hx121_2; replace p121 := eq_true p121; replace q121 := eq_true q121; obtain ⟨hcz22_0, hcz22_1, hcz22_2, hfz22_0, hfz22_1, hfz22_2⟩ := bc3 BK117.out; go_wp2
         repeat (go_quiet (fail); try go_wp2)
         go_ret; exact ⟨tZC, bZ⟩
        rw [if_neg c21] at H; have c21b0 : (((rd_T222 l0 x5_3).f0).toList == ((rd_T222 l0 x3_1).f0).toList) = false := beq_eq_false_iff_ne.mpr c21; have c21b1 : (((rd_T222 l0 x5_3).f0).toList != ((rd_T222 l0 x3_1).f0).toList) = true := bne_iff_ne.mpr c21; have H' := Aside0.mk H; clear H; have p121 : 0 ≤ (x5_3 : Int) := of_decide_eq_true tZE; have q121 : x5_3 < (l0.length : Int) := of_decide_eq_true tZE; obtain ⟨ad121, e121, hx121_0, hx121_1, hx121_2⟩ := at_T222 HR0.out x5_3 p121 q121; obtain rfl : ad116 = ad121 := (by injection e121); replace hx121_0 := cZ HB hx121_0; replace hx121_1 := cZ HB hx121_1; replace hx121_2 := cZ HB hx121_2; replace p121 := eq_true p121; replace q121 := eq_true q121; obtain ⟨hcz23_0, hcz23_1, hcz23_2, hfz23_0, hfz23_1, hfz23_2⟩ := bc3 BK117.out; go_wp2
        repeat (go_quiet (fail); try go_wp2)
        go_roundg k3
        case measure => have := HK1.out; have := HJ5.out; have := HK3.out; omega
        case rel => exact ⟨(wrap64 (x5_3 + 1)), tZB, H', ⟨by have := HK1.out; have := HJ5.out; have := HK3.out; omega⟩, ⟨bkZ BK117.out⟩, ⟨bZ⟩⟩
       rw [if_neg c18] at H; have c18b0 := decide_eq_false c18; clear c18
       by_cases c24 : ((rd_T222 l0 x3_1).f1) < 0
       ·rw [if_pos c24] at H; have c24b0 := decide_eq_true c24; clear c24; have H' := Aside0.mk H; clear H; obtain ⟨hcz25_0, hcz25_1, hcz25_2, hfz25_0, hfz25_1, hfz25_2⟩ := bc3 BK117.out; go_wp2
        repeat (go_quiet (fail); try go_wp2)
        go_roundg k3
        case measure => have := HK1.out; have := HJ5.out; have := HK3.out; omega
        case rel => exact ⟨(wrap64 (x3_1 + 1)), tZB, H', ⟨by have := HK1.out; have := HJ5.out; have := HK3.out; omega⟩, ⟨bZ⟩⟩
       rw [if_neg c24] at H; have c24b0 := decide_eq_false c24; clear c24; have H' := Aside0.mk H; clear H; obtain ⟨hcz26_0, hcz26_1, hcz26_2, hfz26_0, hfz26_1, hfz26_2⟩ := bc3 BK117.out; go_wp2
       repeat (go_quiet (fail); try go_wp2)
       go_loopg [6] k3 (fun kq v6 w' => ∃ (x6_4 : Int), v6 = .int .i64 x6_4 ∧ Aside0 (spec_ChartOk.l2 kq l0 x3_1 x6_4 ((rd_T222 l0 x3_1).f0) ((rd_T222 l0 x3_1).f1) ((rd_T222 l0 x3_1).f2) = some r) ∧ Aside0 (kq ≤ k3) ∧ Aside0 (w'.heap[gb117]? = some (.cells #[.string ((rd_T222 l0 x3_1).f0), .int .i64 ((rd_T222 l0 x3_1).f1), .int .i64 ((rd_T222 l0 x3_1).f2)] 222 (0, 0))) ∧ Aside0 (Below w.heap.size w w'))
       case atStart => exact ⟨(wrap64 (x3_1 - 1)), tZB, H', ⟨Nat.le_refl _⟩, ⟨bkZ BK117.out⟩, ⟨bZ⟩⟩
       case round =>
        clear H'; (try clear c3 c4 c4b0 c5 c5b0 c17 c18 c18b0 c24 c24b0 hcz26_0 hcz26_1 hcz26_2 hcz8_0 hcz8_1 hcz8_2 hfz26_0 hfz26_1 hfz26_2 hfz8_0 hfz8_1 hfz8_2 hx116_0 hx116_1 hx116_2 p116 q116); obtain ⟨x6_4, rfl, HA, HK4, BK117, HB⟩ := hrel
        cases gk with
        | zero => exact absurd HA.out (by simp [spec_ChartOk.l2])
        | succ k4 =>
         have H := HA.out; clear HA; simp only [spec_ChartOk.l2] at H
         by_cases c27 : x6_4 ≥ 0
         rotate_left
         ·rw [if_neg c27] at H; have c27b0 : decide (0 ≤ x6_4) = false := decide_eq_false c27; clear c27
          by_cases c42 : x6_4 < 0
          ·rw [if_pos c42] at H; have c42b0 := decide_eq_true c42; clear c42; obtain rfl := Option.some.inj H; go_wp2
           repeat (go_quiet (fail); try go_wp2)
           go_ret; exact ⟨tZC, bZ⟩
          rw [if_neg c42] at H; have c42b0 := decide_eq_false c42; clear c42
          by_cases c43 : 0 ≤ x6_4
          ·rw [if_pos c43] at H; exact absurd H (by simp)
          rw [if_neg c43] at H; exact absurd H (by simp)
         rw [if_pos c27] at H; have c27b0 : decide (0 ≤ x6_4) = true := decide_eq_true c27; clear c27
         by_cases c28 : x6_4 = ((rd_T222 l0 x3_1).f1)
         rotate_left
         ·rw [if_neg c28] at H; have c28b0 : (x6_4 == ((rd_T222 l0 x3_1).f1)) = false := beq_eq_false_iff_ne.mpr c28; have c28b1 : (x6_4 != ((rd_T222 l0 x3_1).f1)) = true := bne_iff_ne.mpr c28
          by_cases c39 : 0 ≤ x6_4
          rotate_left
          ·rw [if_neg c39] at H; exact absurd H (by simp)
          rw [if_pos c39] at H; have c39b0 := decide_eq_true c39; clear c39
          by_cases c40 : x6_4 < (l0.length : Int)
          rotate_left
          ·rw [if_neg c40] at H; exact absurd H (by simp)
          rw [if_pos c40] at H; have c40b0 := decide_eq_true c40; clear c40; have H' := Aside0.mk H; clear H; obtain ⟨hcz41_0, hcz41_1, hcz41_2, hfz41_0, hfz41_1, hfz41_2⟩ := bc3 BK117.out; have p124 : 0 ≤ (x6_4 : Int) := of_decide_eq_true tZE; have q124 : x6_4 < (l0.length : Int) := of_decide_eq_true tZE; obtain ⟨ad124, e124, hx124_0, hx124_1, hx124_2⟩ := at_T222 HR0.out x6_4 p124 q124; obtain rfl : ad116 = ad124 := (by injection e124); replace hx124_0 := cZ HB hx124_0; replace hx124_1 := cZ HB hx124_1; replace hx124_2 := cZ HB hx124_2; replace p124 := eq_true p124; replace q124 := eq_true q124; go_wp2
          repeat (go_quiet (fail); try go_wp2)
          go_roundg k4
          case measure => have := HK1.out; have := HJ5.out; have := HK3.out; have := HK4.out; omega
          case rel => exact ⟨((rd_T222 l0 x6_4).f1), tZB, H', ⟨by have := HK1.out; have := HJ5.out; have := HK3.out; have := HK4.out; omega⟩, ⟨bkZ BK117.out⟩, ⟨bZ⟩⟩
         rw [if_pos c28] at H; have c28b0 : (x6_4 == ((rd_T222 l0 x3_1).f1)) = true := beq_iff_eq.mpr c28; have c28b1 : (x6_4 != ((rd_T222 l0 x3_1).f1)) = false := bne_eq_false_iff_eq.mpr c28; clear c28
         by_cases c29 : x6_4 < 0
         ·rw [if_pos c29] at H; have c29b0 := decide_eq_true c29; clear c29; obtain rfl := Option.some.inj H; obtain ⟨hcz30_0, hcz30_1, hcz30_2, hfz30_0, hfz30_1, hfz30_2⟩ := bc3 BK117.out; go_wp2
          repeat (go_quiet (fail); try go_wp2)
          go_ret; exact ⟨tZC, bZ⟩
         rw [if_neg c29] at H; have c29b0 := decide_eq_false c29; clear c29
         by_cases c31 : 0 ≤ x6_4
         rotate_left
         ·rw [if_neg c31] at H; exact absurd H (by simp)
         rw [if_pos c31] at H; have c31b0 := decide_eq_true c31; clear c31
         by_cases c32 : x6_4 < (l0.length : Int)
         rotate_left
         ·rw [if_neg c32] at H; exact absurd H (by simp)
         rw [if_pos c32] at H; have c32b0 := decide_eq_true c32; clear c32
         by_cases c33 : ((rd_T222 l0 x6_4).f2) = ((rd_T222 l0 x3_1).f2)
         rotate_left
         ·rw [if_neg c33] at H; have c33b0 : (((rd_T222 l0 x6_4).f2) == ((rd_T222 l0 x3_1).f2)) = false := beq_eq_false_iff_ne.mpr c33; have c33b1 : (((rd_T222 l0 x6_4).f2) != ((rd_T222 l0 x3_1).f2)) = true := bne_iff_ne.mpr c33; obtain rfl := Option.some.inj H; obtain ⟨hcz38_0, hcz38_1, hcz38_2, hfz38_0, hfz38_1, hfz38_2⟩ := bc3 BK117.out; have p122 : 0 ≤ (x6_4 : Int) := of_decide_eq_true tZE; have q122 : x6_4 < (l0.length : Int) := of_decide_eq_true tZE; obtain ⟨ad122, e122, hx122_0, hx122_1, hx122_2⟩ := at_T222 HR0.out x6_4 p122 q122; obtain rfl : ad116 = ad122 := (by injection e122); replace hx122_0 := cZ HB hx122_0; replace hx122_1 := cZ HB hx122_1; replace hx122_2 := cZ HB hx122_2; replace p122 := eq_true p122; replace q122 := eq_true q122; go_wp2
          repeat (go_quiet (fail); try go_wp2)
          go_ret; exact ⟨tZC, bZ⟩
         rw [if_pos c33] at H; have c33b0 : (((rd_T222 l0 x6_4).f2) == ((rd_T222 l0 x3_1).f2)) = true := beq_iff_eq.mpr c33; have c33b1 : (((rd_T222 l0 x6_4).f2) != ((rd_T222 l0 x3_1).f2)) = false := bne_eq_false_iff_eq.mpr c33; clear c33; replace H := Option.bind_eq_some_iff.mp H; obtain ⟨t123, A340, H⟩ := H; replace H : (if t123 > 8 then (some false) else (spec_ChartOk.l0 k4 l0 (wrap64 (x3_1 + 1)))) = some r := H; have A34 := Aside0.mk A340; clear A340
         by_cases c35 : t123 > 8
         ·rw [if_pos c35] at H; have c35b0 : decide (8 < t123) = true := decide_eq_true c35; clear c35; obtain rfl := Option.some.inj H; obtain ⟨hcz36_0, hcz36_1, hcz36_2, hfz36_0, hfz36_1, hfz36_2⟩ := bc3 BK117.out; have p122 : 0 ≤ (x6_4 : Int) := of_decide_eq_true tZE; have q122 : x6_4 < (l0.length : Int) := of_decide_eq_true tZE; obtain ⟨ad122, e122, hx122_0, hx122_1, hx122_2⟩ := at_T222 HR0.out x6_4 p122 q122; obtain rfl : ad116 = ad122 := (by injection e122); replace hx122_0 := cZ HB hx122_0; replace hx122_1 := cZ HB hx122_1; replace hx122_2 := cZ HB hx122_2; replace p122 := eq_true p122; replace q122 := eq_true q122
          go_wp2_with (first | (go_at_call 198; (with_reducible refine (spec_l4Deep.calls k4 _ _ l0 x3_1 t123 _ ?side1 ?side2 A34.out).mono ?_); (case side1 => repeat (first | exact (Kd.C_below HR0.out HB.out) | (with_reducible refine Kd.C_alloc ?_ _) | (with_reducible refine Kd.C_drewN ?_ _) | (with_reducible refine Kd.C_drew ?_))); (case side2 => exact HC0.out); rintro e w' ⟨rfl, ⟨nd, rfl⟩⟩; (try first | exact ⟨rfl, _, World.drewN_drewN _ _ _⟩ | exact ⟨rfl, _, Eq.trans (World.drewN_drewN _ _ _) (congrArg (World.drewN _) (Nat.add_assoc _ _ _))⟩)))
          repeat (go_quiet (first | (go_at_call 198; (with_reducible refine (spec_l4Deep.calls k4 _ _ l0 x3_1 t123 _ ?side1 ?side2 A34.out).mono ?_); (case side1 => repeat (first | exact (Kd.C_below HR0.out HB.out) | (with_reducible refine Kd.C_alloc ?_ _) | (with_reducible refine Kd.C_drewN ?_ _) | (with_reducible refine Kd.C_drew ?_))); (case side2 => exact HC0.out); rintro e w' ⟨rfl, ⟨nd, rfl⟩⟩; (try first | exact ⟨rfl, _, World.drewN_drewN _ _ _⟩ | exact ⟨rfl, _, Eq.trans (World.drewN_drewN _ _ _) (congrArg (World.drewN _) (Nat.add_assoc _ _ _))⟩))); try go_wp2_with (first | (go_at_call 198; (with_reducible refine (spec_l4Deep.calls k4 _ _ l0 x3_1 t123 _ ?side1 ?side2 A34.out).mono ?_); (case side1 => repeat (first | exact (Kd.C_below HR0.out HB.out) | (with_reducible refine Kd.C_alloc ?_ _) | (with_reducible refine Kd.C_drewN ?_ _) | (with_reducible refine Kd.C_drew ?_))); (case side2 => exact HC0.out); rintro e w' ⟨rfl, ⟨nd, rfl⟩⟩; (try first | exact ⟨rfl, _, World.drewN_drewN _ _ _⟩ | exact ⟨rfl, _, Eq.trans (World.drewN_drewN _ _ _) (congrArg (World.drewN _) (Nat.add_assoc _ _ _))⟩))))
          go_ret; exact ⟨tZC, bZ⟩
         rw [if_neg c35] at H; have c35b0 : decide (8 < t123) = false := decide_eq_false c35; clear c35; have H' := Aside0.mk H; clear H; obtain ⟨hcz37_0, hcz37_1, hcz37_2, hfz37_0, hfz37_1, hfz37_2⟩ := bc3 BK117.out; have p122 : 0 ≤ (x6_4 : Int) := of_decide_eq_true tZE; have q122 : x6_4 < (l0.length : Int) := of_decide_eq_true tZE; obtain ⟨ad122, e122, hx122_0, hx122_1, hx122_2⟩ := at_T222 HR0.out x6_4 p122 q122; obtain rfl : ad116 = ad122 := (by injection e122); replace hx122_0 := cZ HB hx122_0; replace hx122_1 := cZ HB hx122_1; replace hx122_2 := cZ HB hx122_2; replace p122 := eq_true p122; replace q122 := eq_true q122
         go_wp2_with (first | (go_at_call 198; (with_reducible refine (spec_l4Deep.calls k4 _ _ l0 x3_1 t123 _ ?side1 ?side2 A34.out).mono ?_); (case side1 => repeat (first | exact (Kd.C_below HR0.out HB.out) | (with_reducible refine Kd.C_alloc ?_ _) | (with_reducible refine Kd.C_drewN ?_ _) | (with_reducible refine Kd.C_drew ?_))); (case side2 => exact HC0.out); rintro e w' ⟨rfl, ⟨nd, rfl⟩⟩; (try first | exact ⟨rfl, _, World.drewN_drewN _ _ _⟩ | exact ⟨rfl, _, Eq.trans (World.drewN_drewN _ _ _) (congrArg (World.drewN _) (Nat.add_assoc _ _ _))⟩)))
         repeat (go_quiet (first | (go_at_call 198; (with_reducible refine (spec_l4Deep.calls k4 _ _ l0 x3_1 t123 _ ?side1 ?side2 A34.out).mono ?_); (case side1 => repeat (first | exact (Kd.C_below HR0.out HB.out) | (with_reducible refine Kd.C_alloc ?_ _) | (with_reducible refine Kd.C_drewN ?_ _) | (with_reducible refine Kd.C_drew ?_))); (case side2 => exact HC0.out); rintro e w' ⟨rfl, ⟨nd, rfl⟩⟩; (try first | exact ⟨rfl, _, World.drewN_drewN _ _ _⟩ | exact ⟨rfl, _, Eq.trans (World.drewN_drewN _ _ _) (congrArg (World.drewN _) (Nat.add_assoc _ _ _))⟩))); try go_wp2_with (first | (go_at_call 198; (with_reducible refine (spec_l4Deep.calls k4 _ _ l0 x3_1 t123 _ ?side1 ?side2 A34.out).mono ?_); (case side1 => repeat (first | exact (Kd.C_below HR0.out HB.out) | (with_reducible refine Kd.C_alloc ?_ _) | (with_reducible refine Kd.C_drewN ?_ _) | (with_reducible refine Kd.C_drew ?_))); (case side2 => exact HC0.out); rintro e w' ⟨rfl, ⟨nd, rfl⟩⟩; (try first | exact ⟨rfl, _, World.drewN_drewN _ _ _⟩ | exact ⟨rfl, _, Eq.trans (World.drewN_drewN _ _ _) (congrArg (World.drewN _) (Nat.add_assoc _ _ _))⟩))))
         go_roundg k4
         case measure => have := HK1.out; have := HJ5.out; have := HK3.out; have := HK4.out; omega
         case rel => exact ⟨(wrap64 (x3_1 + 1)), tZB, H', ⟨by have := HK1.out; have := HJ5.out; have := HK3.out; have := HK4.out; omega⟩, ⟨bZ⟩⟩
end Go.Proofs.Ytmpknbdbichdiaa.PFnExactLedgerOk
