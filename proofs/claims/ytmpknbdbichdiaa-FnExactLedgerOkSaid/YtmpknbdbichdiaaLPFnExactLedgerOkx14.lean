import Derived.Test.YtmpknbdbichdiaaLPFnExactLedgerOkx0
import Derived.Test.YtmpknbdbichdiaaLPFnExactLedgerOkx11
import Derived.Test.YtmpknbdbichdiaaLPFnExactLedgerOkx12
import Derived.Test.YtmpknbdbichdiaaLPFnExactLedgerOkx13
import Derived.Test.YtmpknbdbichdiaaLSlimWords
namespace Go.Proofs.Ytmpknbdbichdiaa.PFnExactLedgerOk
open Go.Proofs.Ytmpknbdbichdiaa.SlimWords
open Go.RowKit Go.Proofs.YtmpknbdbichdiaaW.PrintWords Go.Proofs.YtmpknbdbichdiaaW.PrintLast Go.Proofs.YtmpknbdbichdiaaW.PrintMore Go.Proofs.Ytmpknbdbichdiaa.MapWords Go.Proofs.Ytmpknbdbichdiaa.IterWords Go.Proofs.Ytmpknbdbichdiaa.MarkWords
attribute [local go_sem] max2_int min2_int max_two min_two max_three min_three max_four min_four
set_option linter.unusedVariables false
set_option linter.unusedSimpArgs false
private abbrev I' := true
private abbrev O' := false
private abbrev L0' : Array Bool := #[O',O',O',O',O',O',O']
private abbrev L1' : Array Bool := #[I',O',O',O',O',O',O']
private abbrev L2' : Array Bool := #[I',O',I',O',O',O',O']
private abbrev L3' : Array Bool := #[I',I',I',O',O',O',O']
private abbrev L4' : Array Bool := #[I',I',I',I',O',O',O']
private abbrev L5' : Array Bool := #[I',I',I',I',I',O',O']
private abbrev L6' : Array Bool := #[I',I',I',I',I',I',O']
private abbrev L7' : Array Bool := #[I',I',I',I',I',I',I']
private abbrev L8' : Array Bool := #[O',O',O',O',O',O',O',O',O',O']
private abbrev L9' : Array Bool := #[I',O',O',O',O',O',O',O',O',O']
private abbrev L10' : Array Bool := #[I',I',O',O',O',O',O',O',O',O']
private abbrev L11' : Array Bool := #[I',I',I',O',O',O',O',O',O',O']
private abbrev L12' : Array Bool := #[I',I',I',O',I',O',O',O',O',O']
private abbrev L13' : Array Bool := #[I',I',I',O',I',I',O',O',O',O']
private abbrev L14' : Array Bool := #[I',I',I',O',I',I',I',O',O',O']
private abbrev L15' : Array Bool := #[I',I',I',I',I',I',I',O',O',O']
private abbrev L16' : Array Bool := #[I',I',I',I',I',I',I',I',O',O']
private abbrev L17' : Array Bool := #[I',I',I',I',I',I',I',I',I',O']
private abbrev L18' : Array Bool := #[I',I',I',I',I',I',I',I',I',I']
mutual
def impl_LedgerOk.j0 : Nat → Bool → List (S222) → Int → Int → List (S103) → Int → Option (Bool)
  | 0, _, _, _, _, _, _ => none
  | k + 1, x15, x333000, x333001, x333002, x334000, x334001 => if x15 = true then (some false) else (impl_LedgerOk.l0 k x334000 (x334000.length : Int) 0 x333000 x333001 x333002 x334000 x334001)
def impl_LedgerOk.l0 : Nat → List (S103) → Int → Int → List (S222) → Int → Int → List (S103) → Int → Option (Bool)
  | 0, _, _, _, _, _, _, _, _ => none
  | k + 1, x17, x18, x19, x333000, x333001, x333002, x334000, x334001 => if x19 < x18 then (if 0 ≤ x19 then (if x19 < (x17.length : Int) then ((impl_entryIn.f k x333000 x333001 x333002 ((rd_T103 x17 x19).f0) ((rd_T103 x17 x19).f1) ((rd_T103 x17 x19).f2) ((rd_T103 x17 x19).f3)).bind fun t337 => (if t337 = true then (impl_LedgerOk.l0 k x17 x18 (wrap64 (x19 + 1)) x333000 x333001 x333002 x334000 x334001) else (some false))) else (none)) else (none)) else ((impl_HeadOf.f k x334000).bind fun t338 => (some (x334001 == t338)))
end
def impl_LedgerOk.f (k : Nat) (l0_0 : List (S222)) (a0_1 : Int) (a0_2 : Int) (l1_0 : List (S103)) (a1_1 : Int) : Option (Bool) := (impl_FrameOk.f k l0_0 a0_1 a0_2).bind fun t334 => (if t334 = true then (impl_LedgerOk.j0 k (decide ((l1_0.length : Int) > 1000)) l0_0 a0_1 a0_2 l1_0 a1_1) else (impl_LedgerOk.j0 k true l0_0 a0_1 a0_2 l1_0 a1_1))
theorem impl_LedgerOk.mono_l : ∀ k, (∀ y0 y1 y2 y3 y4 y5, LeO (impl_LedgerOk.j0 k y0 y1 y2 y3 y4 y5) (impl_LedgerOk.j0 (k + 1) y0 y1 y2 y3 y4 y5)) ∧ (∀ y0 y1 y2 y3 y4 y5 y6 y7, LeO (impl_LedgerOk.l0 k y0 y1 y2 y3 y4 y5 y6 y7) (impl_LedgerOk.l0 (k + 1) y0 y1 y2 y3 y4 y5 y6 y7))
  | 0 => ⟨fun _ _ _ _ _ _ r h => by simp [impl_LedgerOk.j0] at h, fun _ _ _ _ _ _ _ _ r h => by simp [impl_LedgerOk.l0] at h⟩
  | k + 1 => by
    obtain ⟨ih0, ih1⟩ := impl_LedgerOk.mono_l k
    refine ⟨?_, ?_⟩
    · intro y0 y1 y2 y3 y4 y5
      unfold impl_LedgerOk.j0
      repeat' first
      | (with_reducible exact ih0 _ _ _ _ _ _)
      | (with_reducible exact ih1 _ _ _ _ _ _ _ _)
      | (with_reducible exact impl_FrameOk.mono _ _ _ _)
      | (with_reducible exact impl_HeadOf.mono _ _)
      | (with_reducible exact impl_entryIn.mono _ _ _ _ _ _ _ _)
      | (with_reducible exact LeO.refl _)
      | (with_reducible exact LeO.none _)
      | (with_reducible refine LeO.ite ?_ ?_)
      | (with_reducible refine LeO.bind ?_ (fun _ => ?_))
      | exact ih0 _ _ _ _ _ _
      | exact ih1 _ _ _ _ _ _ _ _
      | exact impl_FrameOk.mono _ _ _ _
      | exact impl_HeadOf.mono _ _
      | exact impl_entryIn.mono _ _ _ _ _ _ _ _
      | exact LeO.none _
      | refine LeO.ite ?_ ?_
      | refine LeO.bind ?_ (fun _ => ?_)
    · intro y0 y1 y2 y3 y4 y5 y6 y7
      unfold impl_LedgerOk.l0
      repeat' first
      | (with_reducible exact ih0 _ _ _ _ _ _)
      | (with_reducible exact ih1 _ _ _ _ _ _ _ _)
      | (with_reducible exact impl_FrameOk.mono _ _ _ _)
      | (with_reducible exact impl_HeadOf.mono _ _)
      | (with_reducible exact impl_entryIn.mono _ _ _ _ _ _ _ _)
      | (with_reducible exact LeO.refl _)
      | (with_reducible exact LeO.none _)
      | (with_reducible refine LeO.ite ?_ ?_)
      | (with_reducible refine LeO.bind ?_ (fun _ => ?_))
      | exact ih0 _ _ _ _ _ _
      | exact ih1 _ _ _ _ _ _ _ _
      | exact impl_FrameOk.mono _ _ _ _
      | exact impl_HeadOf.mono _ _
      | exact impl_entryIn.mono _ _ _ _ _ _ _ _
      | exact LeO.none _
      | refine LeO.ite ?_ ?_
      | refine LeO.bind ?_ (fun _ => ?_)
theorem impl_LedgerOk.mono : ∀ a0 a1 a2 a3 a4 k, LeO (impl_LedgerOk.f k a0 a1 a2 a3 a4) (impl_LedgerOk.f (k + 1) a0 a1 a2 a3 a4) := by
 intro a0 a1 a2 a3 a4 k
 obtain ⟨ih0, ih1⟩ := impl_LedgerOk.mono_l k
 unfold impl_LedgerOk.f
 repeat' first
     | (with_reducible exact ih0 _ _ _ _ _ _)
     | (with_reducible exact ih1 _ _ _ _ _ _ _ _)
     | (with_reducible exact impl_FrameOk.mono _ _ _ _)
     | (with_reducible exact impl_HeadOf.mono _ _)
     | (with_reducible exact impl_entryIn.mono _ _ _ _ _ _ _ _)
     | (with_reducible exact LeO.refl _)
     | (with_reducible exact LeO.none _)
     | (with_reducible refine LeO.ite ?_ ?_)
     | (with_reducible refine LeO.bind ?_ (fun _ => ?_))
     | exact ih0 _ _ _ _ _ _
     | exact ih1 _ _ _ _ _ _ _ _
     | exact impl_FrameOk.mono _ _ _ _
     | exact impl_HeadOf.mono _ _
     | exact impl_entryIn.mono _ _ _ _ _ _ _ _
     | exact LeO.none _
     | refine LeO.ite ?_ ?_
     | refine LeO.bind ?_ (fun _ => ?_)
set_option maxHeartbeats 8000000 in
set_option maxRecDepth 100000 in
theorem impl_LedgerOk.calls (k : Nat) (A0_0 : Option Addr) (c0_0 : Nat) (l0_0 : List (S222)) (a0_1 : Int) (a0_2 : Int) (A1_0 : Option Addr) (c1_0 : Nat) (l1_0 : List (S103)) (a1_1 : Int) (r : Bool) (w : World) (hr0_0 : Kd.C k222 w A0_0 l0_0.length l0_0) (hc0_0 : l0_0.length ≤ c0_0) (hr1_0 : Kd.C k103 w A1_0 l1_0.length l1_0) (hc1_0 : l1_0.length ≤ c1_0) (h : impl_LedgerOk.f k l0_0 a0_1 a0_2 l1_0 a1_1 = some r) :
    Calls Try.prog 44 #[.agg #[.slice A0_0 l0_0.length c0_0, .int .i64 a0_1, .int .i64 a0_2], .agg #[.slice A1_0 l1_0.length c1_0, .int .i64 a1_1]] w fun e w' => e = .returned (.bool r) ∧ Below w.heap.size w w' := by
 have hu81 := Try.underlying81; have hu85 := Try.underlying85; have hu103 := Try.underlying103; have HR0_0 := Aside0.mk hr0_0; have HC0_0 := Aside0.mk hc0_0; clear hr0_0 hc0_0; have HR1_0 := Aside0.mk hr1_0; have HC1_0 := Aside0.mk hc1_0; clear hr1_0 hc1_0; have HB := aZ (Below.refl w.heap.size w); have H : ((impl_FrameOk.f k l0_0 a0_1 a0_2).bind fun t334 => (if t334 = true then (impl_LedgerOk.j0 k (decide ((l1_0.length : Int) > 1000)) l0_0 a0_1 a0_2 l1_0 a1_1) else (impl_LedgerOk.j0 k true l0_0 a0_1 a0_2 l1_0 a1_1))) = some r := h; clear h; have HC3 := Aside0.mk H; clear H; go_enter Try.func44, Try.ntmps44
 go_upto_region 1 with (first | ((with_reducible refine gate_dst (N := 2) rfl ?_); (try (refine gate_guard (by rfl) ?_; dsimp only)); refine box_event tZR (N := 2) tZR (cs := #[.slice A0_0 l0_0.length c0_0, .int .i64 a0_1, .int .i64 a0_2]) (t := 81) tZS ?_; intro gb332 hg w4 hbox hb; have BK332 := aZ (hbox); have GW332 := aZ ((by rw [hg]; exact (below_size (lZB HB.out)) : w.heap.size ≤ gb332)); have GE332 := GW332; replace HB := aZ (below_step (lZB HB.out) hb); clear hb hbox hg) | ((with_reducible refine gate_dst (N := 3) rfl ?_); (try (refine gate_guard (by rfl) ?_; dsimp only)); refine box_event tZR (N := 3) tZR (cs := #[.slice A1_0 l1_0.length c1_0, .int .i64 a1_1]) (t := 85) tZS ?_; intro gb333 hg w5 hbox hb; have BK333 := aZ (hbox); have GW333 := aZ ((by rw [hg]; exact (below_size bZ) : w.heap.size ≤ gb333)); have GE333 := GW333; replace HB := aZ (below_step bZ hb); have NB332_333 := aZ ((nLt hg (bkZ BK332.out) : gb332 ≠ gb333)); have NB333_332 := aZ ((nGt hg (bkZ BK332.out) : gb333 ≠ gb332)); replace BK332 := aZ (blk_below (bkZ BK332.out) hb); clear hb hbox hg))
 (try simp only [Act.put, sZ1, sZ2, sZ3])
 go_cut [15] (fun v15 wc => ∃ (kq : Nat) (x15_2 : Bool), v15 = .bool x15_2 ∧ Aside0 (impl_LedgerOk.j0 kq x15_2 l0_0 a0_1 a0_2 l1_0 a1_1 = some r) ∧ Aside0 (kq ≤ k) ∧ Aside0 (wc.heap[gb332]? = some (.cells #[(.slice A0_0 l0_0.length c0_0), .int .i64 a0_1, .int .i64 a0_2] 81 (0, 0))) ∧ Aside0 (wc.heap[gb333]? = some (.cells #[(.slice A1_0 l1_0.length c1_0), .int .i64 a1_1] 85 (0, 0))) ∧ Aside0 (Below w.heap.size w wc))
 case first =>
  have H := HC3.out; clear HC3; replace H := Option.bind_eq_some_iff.mp H; obtain ⟨t334, A60, H⟩ := H; replace H : (if t334 = true then (impl_LedgerOk.j0 k (decide ((l1_0.length : Int) > 1000)) l0_0 a0_1 a0_2 l1_0 a1_1) else (impl_LedgerOk.j0 k true l0_0 a0_1 a0_2 l1_0 a1_1)) = some r := H; have A6 := Aside0.mk A60; clear A60
  by_cases c7 : t334 = true
  rotate_left
  ·replace c7 := Bool.eq_false_iff.mpr c7; subst c7; rw [if_neg Bool.false_ne_true] at H; have H' := Aside0.mk H; clear H; have hnb12 := NB332_333.out; have hnc12 := NB333_332.out; obtain ⟨hcz13_0, hcz13_1, hcz13_2, hfz13_0, hfz13_1, hfz13_2⟩ := bc3 BK332.out
   go_wp2_with (first | ((with_reducible refine gate_callee (f := 113) rfl ?_); refine goesL_ (some 8) rfl rfl Try.func113 kZ rfl #[.agg #[.slice A0_0 l0_0.length c0_0, .int .i64 a0_1, .int .i64 a0_2]] rfl tZA ?_; (with_reducible refine (impl_FrameOk.calls k _ _ l0_0 a0_1 a0_2 false _ ?side1 ?side2 A6.out).mono ?_); (case side1 => repeat (first | exact (Kd.C_below HR0_0.out HB.out) | (with_reducible refine Kd.C_alloc ?_ _) | (with_reducible refine Kd.C_drewN ?_ _) | (with_reducible refine Kd.C_drew ?_))); (case side2 => exact HC0_0.out); rintro e w14 ⟨rfl, hb⟩; refine ⟨_, rfl, ?_⟩; replace BK332 := aZ (blk_below (bkZ BK332.out) hb); replace BK333 := aZ (blk_below (bkZ BK333.out) hb); replace HB := aZ (below_step bZ hb); (try clear hb); (try clear hb2); (try clear hk); (try clear hi)))
   go_meet
   case rel => exact ⟨_, (true), tZB, H', ⟨by first | omega | exact Nat.le_refl _⟩, ⟨bkZ BK332.out⟩, ⟨bkZ BK333.out⟩, ⟨bZ⟩⟩
  subst c7; rw [if_pos rfl] at H; have H' := Aside0.mk H; clear H; have hnb8 := NB332_333.out; have hnc8 := NB333_332.out; obtain ⟨hcz9_0, hcz9_1, hcz9_2, hfz9_0, hfz9_1, hfz9_2⟩ := bc3 BK332.out
  go_wp2_with (first | ((with_reducible refine gate_callee (f := 113) rfl ?_); refine goesL_ (some 8) rfl rfl Try.func113 kZ rfl #[.agg #[.slice A0_0 l0_0.length c0_0, .int .i64 a0_1, .int .i64 a0_2]] rfl tZA ?_; (with_reducible refine (impl_FrameOk.calls k _ _ l0_0 a0_1 a0_2 true _ ?side1 ?side2 A6.out).mono ?_); (case side1 => repeat (first | exact (Kd.C_below HR0_0.out HB.out) | (with_reducible refine Kd.C_alloc ?_ _) | (with_reducible refine Kd.C_drewN ?_ _) | (with_reducible refine Kd.C_drew ?_))); (case side2 => exact HC0_0.out); rintro e w10 ⟨rfl, hb⟩; refine ⟨_, rfl, ?_⟩; replace BK332 := aZ (blk_below (bkZ BK332.out) hb); replace BK333 := aZ (blk_below (bkZ BK333.out) hb); replace HB := aZ (below_step bZ hb); (try clear hb); (try clear hb2); (try clear hk); (try clear hi); obtain ⟨hcz11_0, hcz11_1, hfz11_0, hfz11_1⟩ := bc2 BK333.out))
  go_meet
  case rel => exact ⟨_, (decide ((l1_0.length : Int) > 1000)), tZB, H', ⟨by first | omega | exact Nat.le_refl _⟩, ⟨bkZ BK332.out⟩, ⟨bkZ BK333.out⟩, ⟨bZ⟩⟩
 case rest =>
  clear HC3; obtain ⟨kq, x15_2, rfl, HA, HJ2, BK332, BK333, HB⟩ := hcut
  cases kq with
  | zero => exact absurd HA.out (by simp [impl_LedgerOk.j0])
  | succ kj2 =>
   have H := HA.out; clear HA; simp only [impl_LedgerOk.j0] at H
   by_cases c15 : x15_2 = true
   ·subst c15; rw [if_pos rfl] at H; obtain rfl := Option.some.inj H; go_wp2; go_ret; exact ⟨tZC, bZ⟩
   replace c15 := Bool.eq_false_iff.mpr c15; subst c15; rw [if_neg Bool.false_ne_true] at H; have H' := Aside0.mk H; clear H; have hnb16 := NB333_332.out; have hnc16 := NB332_333.out; obtain ⟨hcz17_0, hcz17_1, hfz17_0, hfz17_1⟩ := bc2 BK333.out; go_wp2
   go_loopg [19] kj2 (fun kq v19 w' => ∃ (x19_2 : Int), v19 = .int .i64 x19_2 ∧ Aside0 (impl_LedgerOk.l0 kq l1_0 (l1_0.length : Int) x19_2 l0_0 a0_1 a0_2 l1_0 a1_1 = some r) ∧ Aside0 (kq ≤ kj2) ∧ Aside0 (w'.heap[gb332]? = some (.cells #[(.slice A0_0 l0_0.length c0_0), .int .i64 a0_1, .int .i64 a0_2] 81 (0, 0))) ∧ Aside0 (w'.heap[gb333]? = some (.cells #[(.slice A1_0 l1_0.length c1_0), .int .i64 a1_1] 85 (0, 0))) ∧ Aside0 (Below w.heap.size w w'))
   case atStart => exact ⟨(0), tZB, H', ⟨Nat.le_refl _⟩, ⟨bkZ BK332.out⟩, ⟨bkZ BK333.out⟩, ⟨bZ⟩⟩
   case round =>
    clear H'; (try clear c15 hcz17_0 hcz17_1 hfz17_0 hfz17_1); obtain ⟨x19_2, rfl, HA, HK2, BK332, BK333, HB⟩ := hrel
    cases gk with
    | zero => exact absurd HA.out (by simp [impl_LedgerOk.l0])
    | succ k2 =>
     have H := HA.out; clear HA; simp only [impl_LedgerOk.l0] at H
     by_cases c18 : x19_2 < (l1_0.length : Int)
     rotate_left
     ·rw [if_neg c18] at H; have c18b0 := decide_eq_false c18; clear c18; replace H := Option.bind_eq_some_iff.mp H; obtain ⟨t338, A370, H⟩ := H; replace H : (some (a1_1 == t338)) = some r := H; have A37 := Aside0.mk A370; clear A370; obtain rfl := Option.some.inj H
      try go_wp2
      replace BK332 := aZ (blk_drew BK332.out); replace BK333 := aZ (blk_drew BK333.out); replace HB := aZ (below_drew1 HB.out); refine start_ (n := 7) (S := fun w' => w'.cell? ⟨gb333, 0, none⟩ = some (.slice A1_0 l1_0.length c1_0) ∧ w'.cell? ⟨gb333, 1, none⟩ = some (.int .i64 a1_1)) (ds := []) L0' kZ rfl rfl ⟨(blk_cell BK333.out 0).trans rfl, (blk_cell BK333.out 1).trans rfl⟩ (fun hHeld => ?_); generalize wr.drew = w38 at BK332 BK333 HB hHeld ⊢; refine pure_ (i := 0) (N := some 28) (v := ?_) (a' := ?_) L1' rfl rfl kZ (fun _ _ _ h => h) (Or.inl ⟨by rfl, ?_⟩) ?_ ?_; rotate_left
      ·intro w'; go_simp; with_reducible rfl
      rotate_left
      ·simp only [Act.put, sZ1, sZ2, sZ3, i64_w, i32_w]; rfl
      refine pure_ (i := 2) (N := some 30) (v := ?_) (a' := ?_) L2' rfl rfl kZ (fun _ _ _ h => h) (Or.inl ⟨by rfl, ?_⟩) ?_ ?_; rotate_left
      ·intro w'; go_simp; with_reducible rfl
      rotate_left
      ·simp only [Act.put, sZ1, sZ2, sZ3, i64_w, i32_w]; rfl
      refine take_ (i := 1) (N := some 29) (v := ?_) (a' := ?_) L3' rfl rfl kZ (fun _ _ _ h => h) (Or.inl ⟨by rfl, ?_⟩) hHeld ?_ ?_; rotate_left
      ·rintro w' ⟨s0, s1⟩
       go_simp; with_reducible rfl
      rotate_left
      ·simp only [Act.put, sZ1, sZ2, sZ3, i64_w, i32_w]; rfl
      refine take_ (i := 3) (N := some 31) (v := ?_) (a' := ?_) L4' rfl rfl kZ (fun _ _ _ h => h) (Or.inl ⟨by rfl, ?_⟩) hHeld ?_ ?_; rotate_left
      ·rintro w' ⟨s0, s1⟩
       go_simp; with_reducible rfl
      rotate_left
      ·simp only [Act.put, sZ1, sZ2, sZ3, i64_w, i32_w]; rfl
      refine one_ (i := 4) (N := some 32) L5' rfl rfl kZ (by decide) (fun K hK => ?_); refine goes_ Try.func115 kZ rfl #[.slice A1_0 l1_0.length c1_0] (by rfl) rfl rfl tZA ?_
      with_reducible refine (impl_HeadOf.calls k2 _ _ l1_0 t338 _ ?side1 ?side2 A37.out).mono ?_
      (case side1 => repeat (first | exact (Kd.C_below HR1_0.out HB.out) | (with_reducible refine Kd.C_alloc ?_ _) | (with_reducible refine Kd.C_drewN ?_ _) | (with_reducible refine Kd.C_drew ?_)))
      (case side2 => exact HC1_0.out)
      rintro e w39 ⟨rfl, hb⟩
      refine ⟨_, rfl, ?_⟩; replace BK332 := aZ (blk_below (bkZ BK332.out) hb); replace BK333 := aZ (blk_below (bkZ BK333.out) hb); replace HB := aZ (below_step bZ hb); (try clear hb); (try clear hb2); (try clear hk); (try clear hi); refine hK.out _ _ ⟨(blk_cell BK333.out 0).trans rfl, (blk_cell BK333.out 1).trans rfl⟩ (fun hHeld => ?_); clear hK K; refine norm_ (a' := ?_) ?_ ?_; rotate_left
      ·show Act.put _ (some 32) _ = _
       simp only [Act.put, sZ1, sZ2, sZ3, i64_w, i32_w]; rfl
      refine pure_ (i := 5) (N := some 33) (v := ?_) (a' := ?_) L6' rfl rfl kZ (fun _ _ _ h => h) (Or.inl ⟨by rfl, ?_⟩) ?_ ?_; rotate_left
      ·intro w'; go_simp; with_reducible rfl
      rotate_left
      ·simp only [Act.put, sZ1, sZ2, sZ3, i64_w, i32_w]; rfl
      refine pure_ (i := 6) (N := some 4) (v := ?_) (a' := ?_) L7' rfl rfl kZ (fun _ _ _ h => h) (Or.inl ⟨by rfl, ?_⟩) ?_ ?_; rotate_left
      ·intro w'; go_simp; with_reducible rfl
      rotate_left
      ·simp only [Act.put, sZ1, sZ2, sZ3, i64_w, i32_w]; rfl
      refine done_ kZ ?_
      try go_wp2
      go_ret; exact ⟨tZC, bZ⟩
     rw [if_pos c18] at H; have c18b0 := decide_eq_true c18; clear c18
     by_cases c19 : 0 ≤ x19_2
     rotate_left
     ·rw [if_neg c19] at H; exact absurd H (by simp)
     rw [if_pos c19] at H; have c19b0 := decide_eq_true c19; clear c19
     by_cases c20 : x19_2 < (l1_0.length : Int)
     rotate_left
     ·rw [if_neg c20] at H; exact absurd H (by simp)
     rw [if_pos c20] at H; have c20b0 := decide_eq_true c20; clear c20; replace H := Option.bind_eq_some_iff.mp H; obtain ⟨t337, A210, H⟩ := H; replace H : (if t337 = true then (impl_LedgerOk.l0 k2 l1_0 (l1_0.length : Int) (wrap64 (x19_2 + 1)) l0_0 a0_1 a0_2 l1_0 a1_1) else (some false)) = some r := H; have A21 := Aside0.mk A210; clear A210
     by_cases c22 : t337 = true
     rotate_left
     ·replace c22 := Bool.eq_false_iff.mpr c22; subst c22; rw [if_neg Bool.false_ne_true] at H; obtain rfl := Option.some.inj H; have p335 : 0 ≤ (x19_2 : Int) := of_decide_eq_true tZE; have q335 : x19_2 < (l1_0.length : Int) := of_decide_eq_true tZE; obtain ⟨ad335, A335_3, c335_3, e335, hx335_0, hx335_1, hx335_2, hx335_3, hl335_3, hi335_3⟩ := at_T103 HR1_0.out x19_2 p335 q335; have hz335_3 := hx335_3
      cases e335
      replace hx335_0 := cZ HB hx335_0; replace hx335_1 := cZ HB hx335_1; replace hx335_2 := cZ HB hx335_2; replace hx335_3 := cZ HB hx335_3; have HR335_3 := Aside0.mk hi335_3; have HC335_3 := Aside0.mk hl335_3; clear hi335_3 hl335_3; replace p335 := eq_true p335; replace q335 := eq_true q335
      go_wp2_with (first | ((with_reducible refine gate_dst (N := 6) rfl ?_); (try (refine gate_guard (by rfl) ?_; dsimp only)); refine box_event tZR (N := 6) tZR (cs := #[.int .i64 0, .int .i64 0, .string (⟨#[]⟩ : ByteArray), .slice none 0 0]) (t := 103) tZS ?_; intro gb336 hg w30 hbox hb; have BK336 := aZ (hbox); have GW336 := aZ ((by rw [hg]; exact (below_size bZ) : w.heap.size ≤ gb336)); have GE336 := GW336; replace HB := aZ (below_step bZ hb); have NB332_336 := aZ ((nLt hg (bkZ BK332.out) : gb332 ≠ gb336)); have NB336_332 := aZ ((nGt hg (bkZ BK332.out) : gb336 ≠ gb332)); replace BK332 := aZ (blk_below (bkZ BK332.out) hb); have NB333_336 := aZ ((nLt hg (bkZ BK333.out) : gb333 ≠ gb336)); have NB336_333 := aZ ((nGt hg (bkZ BK333.out) : gb336 ≠ gb333)); replace BK333 := aZ (blk_below (bkZ BK333.out) hb); clear hb hbox hg; have hnb31 := NB336_332.out; have hnc31 := NB332_336.out; have hnb32 := NB336_333.out; have hnc32 := NB333_336.out; obtain ⟨hcz33_0, hcz33_1, hcz33_2, hcz33_3, hfz33_0, hfz33_1, hfz33_2, hfz33_3⟩ := bc4 BK336.out; have hnb34 := NB332_333.out; have hnc34 := NB333_332.out; obtain ⟨hcz35_0, hcz35_1, hcz35_2, hfz35_0, hfz35_1, hfz35_2⟩ := bc3 BK332.out) | ((with_reducible refine gate_callee (f := 114) rfl ?_); refine goesL_ (some 25) rfl rfl Try.func114 kZ rfl #[.agg #[.slice A0_0 l0_0.length c0_0, .int .i64 a0_1, .int .i64 a0_2], .agg #[.int .i64 ((rd_T103 l1_0 x19_2).f0), .int .i64 ((rd_T103 l1_0 x19_2).f1), .string ((rd_T103 l1_0 x19_2).f2), .slice A335_3 ((rd_T103 l1_0 x19_2).f3).length c335_3]] rfl tZA ?_; (with_reducible refine (impl_entryIn.calls k2 _ _ l0_0 a0_1 a0_2 ((rd_T103 l1_0 x19_2).f0) ((rd_T103 l1_0 x19_2).f1) ((rd_T103 l1_0 x19_2).f2) _ _ ((rd_T103 l1_0 x19_2).f3) false _ ?side1 ?side2 ?side3 ?side4 A21.out).mono ?_); (case side1 => exact Kd.C_below HR0_0.out bZ); (case side2 => exact HC0_0.out); (case side3 => exact Kd.C_below HR335_3.out bZ); (case side4 => exact HC335_3.out); rintro e w36 ⟨rfl, hb⟩; refine ⟨_, rfl, ?_⟩; replace BK332 := aZ (blk_below (g := gb332) (o := .cells #[.slice A0_0 l0_0.length c0_0, .int .i64 a0_1, .int .i64 a0_2] 81 (0, 0)) (by (with_reducible repeat (first | refine blk_drewN ?_ _ | refine blk_drew ?_ | refine blk_alloc ?_ _)); refine blk_far ?_ NB332_336.out _; (with_reducible repeat (first | refine blk_drewN ?_ _ | refine blk_drew ?_ | refine blk_alloc ?_ _)); refine blk_far ?_ NB332_336.out _; (with_reducible repeat (first | refine blk_drewN ?_ _ | refine blk_drew ?_ | refine blk_alloc ?_ _)); refine blk_far ?_ NB332_336.out _; (with_reducible repeat (first | refine blk_drewN ?_ _ | refine blk_drew ?_ | refine blk_alloc ?_ _)); refine blk_far ?_ NB332_336.out _; (with_reducible repeat (first | refine blk_drewN ?_ _ | refine blk_drew ?_ | refine blk_alloc ?_ _)); exact BK332.out) hb); replace BK333 := aZ (blk_below (g := gb333) (o := .cells #[.slice (some ad335) l1_0.length c1_0, .int .i64 a1_1] 85 (0, 0)) (by (with_reducible repeat (first | refine blk_drewN ?_ _ | refine blk_drew ?_ | refine blk_alloc ?_ _)); refine blk_far ?_ NB333_336.out _; (with_reducible repeat (first | refine blk_drewN ?_ _ | refine blk_drew ?_ | refine blk_alloc ?_ _)); refine blk_far ?_ NB333_336.out _; (with_reducible repeat (first | refine blk_drewN ?_ _ | refine blk_drew ?_ | refine blk_alloc ?_ _)); refine blk_far ?_ NB333_336.out _; (with_reducible repeat (first | refine blk_drewN ?_ _ | refine blk_drew ?_ | refine blk_alloc ?_ _)); refine blk_far ?_ NB333_336.out _; (with_reducible repeat (first | refine blk_drewN ?_ _ | refine blk_drew ?_ | refine blk_alloc ?_ _)); exact BK333.out) hb); replace BK336 := aZ (blk_below (g := gb336) (o := .cells #[.int .i64 ((rd_T103 l1_0 x19_2).f0), .int .i64 ((rd_T103 l1_0 x19_2).f1), .string ((rd_T103 l1_0 x19_2).f2), .slice A335_3 ((rd_T103 l1_0 x19_2).f3).length c335_3] 103 (0, 0)) (by (with_reducible repeat (first | refine blk_drewN ?_ _ | refine blk_drew ?_ | refine blk_alloc ?_ _)); refine blk_put (cs := #[.int .i64 ((rd_T103 l1_0 x19_2).f0), .int .i64 ((rd_T103 l1_0 x19_2).f1), .string ((rd_T103 l1_0 x19_2).f2), .slice none 0 0]) ?_ 3 _ rfl; (with_reducible repeat (first | refine blk_drewN ?_ _ | refine blk_drew ?_ | refine blk_alloc ?_ _)); refine blk_put (cs := #[.int .i64 ((rd_T103 l1_0 x19_2).f0), .int .i64 ((rd_T103 l1_0 x19_2).f1), .string (⟨#[]⟩ : ByteArray), .slice none 0 0]) ?_ 2 _ rfl; (with_reducible repeat (first | refine blk_drewN ?_ _ | refine blk_drew ?_ | refine blk_alloc ?_ _)); refine blk_put (cs := #[.int .i64 ((rd_T103 l1_0 x19_2).f0), .int .i64 0, .string (⟨#[]⟩ : ByteArray), .slice none 0 0]) ?_ 1 _ rfl; (with_reducible repeat (first | refine blk_drewN ?_ _ | refine blk_drew ?_ | refine blk_alloc ?_ _)); refine blk_put (cs := #[.int .i64 0, .int .i64 0, .string (⟨#[]⟩ : ByteArray), .slice none 0 0]) ?_ 0 _ rfl; (with_reducible repeat (first | refine blk_drewN ?_ _ | refine blk_drew ?_ | refine blk_alloc ?_ _)); exact BK336.out) hb); replace HB := aZ (below_step bZ hb); (try clear hb); (try clear hb2); (try clear hk); (try clear hi)))
      go_ret; exact ⟨tZC, bZ⟩
     subst c22; rw [if_pos rfl] at H; have H' := Aside0.mk H; clear H; have p335 : 0 ≤ (x19_2 : Int) := of_decide_eq_true tZE; have q335 : x19_2 < (l1_0.length : Int) := of_decide_eq_true tZE; obtain ⟨ad335, A335_3, c335_3, e335, hx335_0, hx335_1, hx335_2, hx335_3, hl335_3, hi335_3⟩ := at_T103 HR1_0.out x19_2 p335 q335; have hz335_3 := hx335_3
     cases e335
     replace hx335_0 := cZ HB hx335_0; replace hx335_1 := cZ HB hx335_1; replace hx335_2 := cZ HB hx335_2; replace hx335_3 := cZ HB hx335_3; have HR335_3 := Aside0.mk hi335_3; have HC335_3 := Aside0.mk hl335_3; clear hi335_3 hl335_3; replace p335 := eq_true p335; replace q335 := eq_true q335
     go_wp2_with (first | ((with_reducible refine gate_dst (N := 6) rfl ?_); (try (refine gate_guard (by rfl) ?_; dsimp only)); refine box_event tZR (N := 6) tZR (cs := #[.int .i64 0, .int .i64 0, .string (⟨#[]⟩ : ByteArray), .slice none 0 0]) (t := 103) tZS ?_; intro gb336 hg w23 hbox hb; have BK336 := aZ (hbox); have GW336 := aZ ((by rw [hg]; exact (below_size bZ) : w.heap.size ≤ gb336)); have GE336 := GW336; replace HB := aZ (below_step bZ hb); have NB332_336 := aZ ((nLt hg (bkZ BK332.out) : gb332 ≠ gb336)); have NB336_332 := aZ ((nGt hg (bkZ BK332.out) : gb336 ≠ gb332)); replace BK332 := aZ (blk_below (bkZ BK332.out) hb); have NB333_336 := aZ ((nLt hg (bkZ BK333.out) : gb333 ≠ gb336)); have NB336_333 := aZ ((nGt hg (bkZ BK333.out) : gb336 ≠ gb333)); replace BK333 := aZ (blk_below (bkZ BK333.out) hb); clear hb hbox hg; have hnb24 := NB336_332.out; have hnc24 := NB332_336.out; have hnb25 := NB336_333.out; have hnc25 := NB333_336.out; obtain ⟨hcz26_0, hcz26_1, hcz26_2, hcz26_3, hfz26_0, hfz26_1, hfz26_2, hfz26_3⟩ := bc4 BK336.out; have hnb27 := NB332_333.out; have hnc27 := NB333_332.out; obtain ⟨hcz28_0, hcz28_1, hcz28_2, hfz28_0, hfz28_1, hfz28_2⟩ := bc3 BK332.out) | ((with_reducible refine gate_callee (f := 114) rfl ?_); refine goesL_ (some 25) rfl rfl Try.func114 kZ rfl #[.agg #[.slice A0_0 l0_0.length c0_0, .int .i64 a0_1, .int .i64 a0_2], .agg #[.int .i64 ((rd_T103 l1_0 x19_2).f0), .int .i64 ((rd_T103 l1_0 x19_2).f1), .string ((rd_T103 l1_0 x19_2).f2), .slice A335_3 ((rd_T103 l1_0 x19_2).f3).length c335_3]] rfl tZA ?_; (with_reducible refine (impl_entryIn.calls k2 _ _ l0_0 a0_1 a0_2 ((rd_T103 l1_0 x19_2).f0) ((rd_T103 l1_0 x19_2).f1) ((rd_T103 l1_0 x19_2).f2) _ _ ((rd_T103 l1_0 x19_2).f3) true _ ?side1 ?side2 ?side3 ?side4 A21.out).mono ?_); (case side1 => exact Kd.C_below HR0_0.out bZ); (case side2 => exact HC0_0.out); (case side3 => exact Kd.C_below HR335_3.out bZ); (case side4 => exact HC335_3.out); rintro e w29 ⟨rfl, hb⟩; refine ⟨_, rfl, ?_⟩; replace BK332 := aZ (blk_below (g := gb332) (o := .cells #[.slice A0_0 l0_0.length c0_0, .int .i64 a0_1, .int .i64 a0_2] 81 (0, 0)) (by (with_reducible repeat (first | refine blk_drewN ?_ _ | refine blk_drew ?_ | refine blk_alloc ?_ _)); refine blk_far ?_ NB332_336.out _; (with_reducible repeat (first | refine blk_drewN ?_ _ | refine blk_drew ?_ | refine blk_alloc ?_ _)); refine blk_far ?_ NB332_336.out _; (with_reducible repeat (first | refine blk_drewN ?_ _ | refine blk_drew ?_ | refine blk_alloc ?_ _)); refine blk_far ?_ NB332_336.out _; (with_reducible repeat (first | refine blk_drewN ?_ _ | refine blk_drew ?_ | refine blk_alloc ?_ _)); refine blk_far ?_ NB332_336.out _; (with_reducible repeat (first | refine blk_drewN ?_ _ | refine blk_drew ?_ | refine blk_alloc ?_ _)); exact BK332.out) hb); replace BK333 := aZ (blk_below (g := gb333) (o := .cells #[.slice (some ad335) l1_0.length c1_0, .int .i64 a1_1] 85 (0, 0)) (by (with_reducible repeat (first | refine blk_drewN ?_ _ | refine blk_drew ?_ | refine blk_alloc ?_ _)); refine blk_far ?_ NB333_336.out _; (with_reducible repeat (first | refine blk_drewN ?_ _ | refine blk_drew ?_ | refine blk_alloc ?_ _)); refine blk_far ?_ NB333_336.out _; (with_reducible repeat (first | refine blk_drewN ?_ _ | refine blk_drew ?_ | refine blk_alloc ?_ _)); refine blk_far ?_ NB333_336.out _; (with_reducible repeat (first | refine blk_drewN ?_ _ | refine blk_drew ?_ | refine blk_alloc ?_ _)); refine blk_far ?_ NB333_336.out _; (with_reducible repeat (first | refine blk_drewN ?_ _ | refine blk_drew ?_ | refine blk_alloc ?_ _)); exact BK333.out) hb); replace BK336 := aZ (blk_below (g := gb336) (o := .cells #[.int .i64 ((rd_T103 l1_0 x19_2).f0), .int .i64 ((rd_T103 l1_0 x19_2).f1), .string ((rd_T103 l1_0 x19_2).f2), .slice A335_3 ((rd_T103 l1_0 x19_2).f3).length c335_3] 103 (0, 0)) (by (with_reducible repeat (first | refine blk_drewN ?_ _ | refine blk_drew ?_ | refine blk_alloc ?_ _)); refine blk_put (cs := #[.int .i64 ((rd_T103 l1_0 x19_2).f0), .int .i64 ((rd_T103 l1_0 x19_2).f1), .string ((rd_T103 l1_0 x19_2).f2), .slice none 0 0]) ?_ 3 _ rfl; (with_reducible repeat (first | refine blk_drewN ?_ _ | refine blk_drew ?_ | refine blk_alloc ?_ _)); refine blk_put (cs := #[.int .i64 ((rd_T103 l1_0 x19_2).f0), .int .i64 ((rd_T103 l1_0 x19_2).f1), .string (⟨#[]⟩ : ByteArray), .slice none 0 0]) ?_ 2 _ rfl; (with_reducible repeat (first | refine blk_drewN ?_ _ | refine blk_drew ?_ | refine blk_alloc ?_ _)); refine blk_put (cs := #[.int .i64 ((rd_T103 l1_0 x19_2).f0), .int .i64 0, .string (⟨#[]⟩ : ByteArray), .slice none 0 0]) ?_ 1 _ rfl; (with_reducible repeat (first | refine blk_drewN ?_ _ | refine blk_drew ?_ | refine blk_alloc ?_ _)); refine blk_put (cs := #[.int .i64 0, .int .i64 0, .string (⟨#[]⟩ : ByteArray), .slice none 0 0]) ?_ 0 _ rfl; (with_reducible repeat (first | refine blk_drewN ?_ _ | refine blk_drew ?_ | refine blk_alloc ?_ _)); exact BK336.out) hb); replace HB := aZ (below_step bZ hb); (try clear hb); (try clear hb2); (try clear hk); (try clear hi)))
     go_roundg k2
     case measure => have := HJ2.out; have := HK2.out; omega
     case rel => exact ⟨(wrap64 (x19_2 + 1)), tZB, H', ⟨by have := HJ2.out; have := HK2.out; omega⟩, ⟨bkZ BK332.out⟩, ⟨bkZ BK333.out⟩, ⟨bZ⟩⟩
def laws_eqAccount.f (a0_0 : ByteArray) (a0_1 : Int) (a0_2 : Int) (a1_0 : ByteArray) (a1_1 : Int) (a1_2 : Int) : Option (Bool) := if a0_0.toList = a1_0.toList then (if a0_1 = a1_1 then (if a0_2 = a1_2 then (some true) else (some false)) else (some false)) else (some false)
set_option maxHeartbeats 8000000 in
set_option maxRecDepth 100000 in
theorem laws_eqAccount.calls (a0_0 : ByteArray) (a0_1 : Int) (a0_2 : Int) (a1_0 : ByteArray) (a1_1 : Int) (a1_2 : Int) (r : Bool) (w : World) (h : laws_eqAccount.f a0_0 a0_1 a0_2 a1_0 a1_1 a1_2 = some r) :
    Calls Try.prog 172 #[.agg #[.string a0_0, .int .i64 a0_1, .int .i64 a0_2], .agg #[.string a1_0, .int .i64 a1_1, .int .i64 a1_2]] w fun e w' => e = .returned (.bool r) ∧ Below w.heap.size w w' := by
 have hu222 := Try.underlying222; have HB := aZ (Below.refl w.heap.size w); have H : (if a0_0.toList = a1_0.toList then (if a0_1 = a1_1 then (if a0_2 = a1_2 then (some true) else (some false)) else (some false)) else (some false)) = some r := h; clear h
 by_cases c3 : a0_0.toList = a1_0.toList
 rotate_left
 ·rw [if_neg c3] at H; have c3b0 : (a0_0.toList == a1_0.toList) = false := beq_eq_false_iff_ne.mpr c3; have c3b1 : (a0_0.toList != a1_0.toList) = true := bne_iff_ne.mpr c3; obtain rfl := Option.some.inj H; go_enter Try.func172, Try.ntmps172
  go_wp2_with (first | ((with_reducible refine gate_dst (N := 2) rfl ?_); refine box_event tZR (N := 2) tZR (cs := #[.string a0_0, .int .i64 a0_1, .int .i64 a0_2]) (t := 222) tZS ?_; intro gb339 hg w21 hbox hb; have BK339 := aZ (hbox); have GW339 := aZ ((by rw [hg]; exact (below_size (lZB HB.out)) : w.heap.size ≤ gb339)); have GE339 := GW339; replace HB := aZ (below_step (lZB HB.out) hb); clear hb hbox hg) | ((with_reducible refine gate_dst (N := 3) rfl ?_); refine box_event tZR (N := 3) tZR (cs := #[.string a1_0, .int .i64 a1_1, .int .i64 a1_2]) (t := 222) tZS ?_; intro gb340 hg w22 hbox hb; have BK340 := aZ (hbox); have GW340 := aZ ((by rw [hg]; exact (below_size bZ) : w.heap.size ≤ gb340)); have GE340 := GW340; replace HB := aZ (below_step bZ hb); have NB339_340 := aZ ((nLt hg (bkZ BK339.out) : gb339 ≠ gb340)); have NB340_339 := aZ ((nGt hg (bkZ BK339.out) : gb340 ≠ gb339)); replace BK339 := aZ (blk_below (bkZ BK339.out) hb); clear hb hbox hg; have hnb23 := NB339_340.out; have hnc23 := NB340_339.out; obtain ⟨hcz24_0, hcz24_1, hcz24_2, hfz24_0, hfz24_1, hfz24_2⟩ := bc3 BK339.out; obtain ⟨hcz25_0, hcz25_1, hcz25_2, hfz25_0, hfz25_1, hfz25_2⟩ := bc3 BK340.out))
  go_ret; exact ⟨tZC, bZ⟩
 rw [if_pos c3] at H; have c3b0 : (a0_0.toList == a1_0.toList) = true := beq_iff_eq.mpr c3; have c3b1 : (a0_0.toList != a1_0.toList) = false := bne_eq_false_iff_eq.mpr c3; clear c3
 by_cases c4 : a0_1 = a1_1
 rotate_left
 ·rw [if_neg c4] at H; have c4b0 : (a0_1 == a1_1) = false := beq_eq_false_iff_ne.mpr c4; have c4b1 : (a0_1 != a1_1) = true := bne_iff_ne.mpr c4; obtain rfl := Option.some.inj H; go_enter Try.func172, Try.ntmps172
  go_wp2_with (first | ((with_reducible refine gate_dst (N := 2) rfl ?_); refine box_event tZR (N := 2) tZR (cs := #[.string a0_0, .int .i64 a0_1, .int .i64 a0_2]) (t := 222) tZS ?_; intro gb339 hg w16 hbox hb; have BK339 := aZ (hbox); have GW339 := aZ ((by rw [hg]; exact (below_size (lZB HB.out)) : w.heap.size ≤ gb339)); have GE339 := GW339; replace HB := aZ (below_step (lZB HB.out) hb); clear hb hbox hg) | ((with_reducible refine gate_dst (N := 3) rfl ?_); refine box_event tZR (N := 3) tZR (cs := #[.string a1_0, .int .i64 a1_1, .int .i64 a1_2]) (t := 222) tZS ?_; intro gb340 hg w17 hbox hb; have BK340 := aZ (hbox); have GW340 := aZ ((by rw [hg]; exact (below_size bZ) : w.heap.size ≤ gb340)); have GE340 := GW340; replace HB := aZ (below_step bZ hb); have NB339_340 := aZ ((nLt hg (bkZ BK339.out) : gb339 ≠ gb340)); have NB340_339 := aZ ((nGt hg (bkZ BK339.out) : gb340 ≠ gb339)); replace BK339 := aZ (blk_below (bkZ BK339.out) hb); clear hb hbox hg; have hnb18 := NB339_340.out; have hnc18 := NB340_339.out; obtain ⟨hcz19_0, hcz19_1, hcz19_2, hfz19_0, hfz19_1, hfz19_2⟩ := bc3 BK339.out; obtain ⟨hcz20_0, hcz20_1, hcz20_2, hfz20_0, hfz20_1, hfz20_2⟩ := bc3 BK340.out))
  go_ret; exact ⟨tZC, bZ⟩
 rw [if_pos c4] at H; have c4b0 : (a0_1 == a1_1) = true := beq_iff_eq.mpr c4; have c4b1 : (a0_1 != a1_1) = false := bne_eq_false_iff_eq.mpr c4; clear c4
 by_cases c5 : a0_2 = a1_2
 ·rw [if_pos c5] at H; have c5b0 : (a0_2 == a1_2) = true := beq_iff_eq.mpr c5; have c5b1 : (a0_2 != a1_2) = false := bne_eq_false_iff_eq.mpr c5; clear c5; obtain rfl := Option.some.inj H; go_enter Try.func172, Try.ntmps172
  go_wp2_with (first | ((with_reducible refine gate_dst (N := 2) rfl ?_); refine box_event tZR (N := 2) tZR (cs := #[.string a0_0, .int .i64 a0_1, .int .i64 a0_2]) (t := 222) tZS ?_; intro gb339 hg w6 hbox hb; have BK339 := aZ (hbox); have GW339 := aZ ((by rw [hg]; exact (below_size (lZB HB.out)) : w.heap.size ≤ gb339)); have GE339 := GW339; replace HB := aZ (below_step (lZB HB.out) hb); clear hb hbox hg) | ((with_reducible refine gate_dst (N := 3) rfl ?_); refine box_event tZR (N := 3) tZR (cs := #[.string a1_0, .int .i64 a1_1, .int .i64 a1_2]) (t := 222) tZS ?_; intro gb340 hg w7 hbox hb; have BK340 := aZ (hbox); have GW340 := aZ ((by rw [hg]; exact (below_size bZ) : w.heap.size ≤ gb340)); have GE340 := GW340; replace HB := aZ (below_step bZ hb); have NB339_340 := aZ ((nLt hg (bkZ BK339.out) : gb339 ≠ gb340)); have NB340_339 := aZ ((nGt hg (bkZ BK339.out) : gb340 ≠ gb339)); replace BK339 := aZ (blk_below (bkZ BK339.out) hb); clear hb hbox hg; have hnb8 := NB339_340.out; have hnc8 := NB340_339.out; obtain ⟨hcz9_0, hcz9_1, hcz9_2, hfz9_0, hfz9_1, hfz9_2⟩ := bc3 BK339.out; obtain ⟨hcz10_0, hcz10_1, hcz10_2, hfz10_0, hfz10_1, hfz10_2⟩ := bc3 BK340.out))
  go_ret; exact ⟨tZC, bZ⟩
 rw [if_neg c5] at H; have c5b0 : (a0_2 == a1_2) = false := beq_eq_false_iff_ne.mpr c5; have c5b1 : (a0_2 != a1_2) = true := bne_iff_ne.mpr c5; obtain rfl := Option.some.inj H; go_enter Try.func172, Try.ntmps172
 go_wp2_with (first | ((with_reducible refine gate_dst (N := 2) rfl ?_); refine box_event tZR (N := 2) tZR (cs := #[.string a0_0, .int .i64 a0_1, .int .i64 a0_2]) (t := 222) tZS ?_; intro gb339 hg w11 hbox hb; have BK339 := aZ (hbox); have GW339 := aZ ((by rw [hg]; exact (below_size (lZB HB.out)) : w.heap.size ≤ gb339)); have GE339 := GW339; replace HB := aZ (below_step (lZB HB.out) hb); clear hb hbox hg) | ((with_reducible refine gate_dst (N := 3) rfl ?_); refine box_event tZR (N := 3) tZR (cs := #[.string a1_0, .int .i64 a1_1, .int .i64 a1_2]) (t := 222) tZS ?_; intro gb340 hg w12 hbox hb; have BK340 := aZ (hbox); have GW340 := aZ ((by rw [hg]; exact (below_size bZ) : w.heap.size ≤ gb340)); have GE340 := GW340; replace HB := aZ (below_step bZ hb); have NB339_340 := aZ ((nLt hg (bkZ BK339.out) : gb339 ≠ gb340)); have NB340_339 := aZ ((nGt hg (bkZ BK339.out) : gb340 ≠ gb339)); replace BK339 := aZ (blk_below (bkZ BK339.out) hb); clear hb hbox hg; have hnb13 := NB339_340.out; have hnc13 := NB340_339.out; obtain ⟨hcz14_0, hcz14_1, hcz14_2, hfz14_0, hfz14_1, hfz14_2⟩ := bc3 BK339.out; obtain ⟨hcz15_0, hcz15_1, hcz15_2, hfz15_0, hfz15_1, hfz15_2⟩ := bc3 BK340.out))
 go_ret; exact ⟨tZC, bZ⟩
def laws_eqAccountS.l0 : Nat → List (S222) → List (S222) → Int → Option (Bool)
  | 0, _, _, _ => none
  | k + 1, x0, x1, x5 => if x5 < (x0.length : Int) then (if 0 ≤ x5 then (if x5 < (x1.length : Int) then ((laws_eqAccount.f ((rd_T222 x0 x5).f0) ((rd_T222 x0 x5).f1) ((rd_T222 x0 x5).f2) ((rd_T222 x1 x5).f0) ((rd_T222 x1 x5).f1) ((rd_T222 x1 x5).f2)).bind fun t343 => (if t343 = true then (laws_eqAccountS.l0 k x0 x1 (wrap64 (x5 + 1))) else (some false))) else (none)) else (none)) else (some true)
def laws_eqAccountS.f (k : Nat) (l0 : List (S222)) (l1 : List (S222)) : Option (Bool) := if (l0.length : Int) = (l1.length : Int) then (laws_eqAccountS.l0 k l0 l1 0) else (some false)
theorem laws_eqAccountS.mono_l : ∀ k, (∀ y0 y1 y2, LeO (laws_eqAccountS.l0 k y0 y1 y2) (laws_eqAccountS.l0 (k + 1) y0 y1 y2))
  | 0 => fun _ _ _ r h => by simp [laws_eqAccountS.l0] at h
  | k + 1 => by
    have ih0 := laws_eqAccountS.mono_l k
    · intro y0 y1 y2
      unfold laws_eqAccountS.l0
      repeat' first
      | (with_reducible exact ih0 _ _ _)
      | (with_reducible exact LeO.refl _)
      | (with_reducible exact LeO.none _)
      | (with_reducible refine LeO.ite ?_ ?_)
      | (with_reducible refine LeO.bind ?_ (fun _ => ?_))
      | exact ih0 _ _ _
      | exact LeO.none _
      | refine LeO.ite ?_ ?_
      | refine LeO.bind ?_ (fun _ => ?_)
theorem laws_eqAccountS.mono : ∀ a0 a1 k, LeO (laws_eqAccountS.f k a0 a1) (laws_eqAccountS.f (k + 1) a0 a1) := by
 intro a0 a1 k
 have ih0 := laws_eqAccountS.mono_l k
 unfold laws_eqAccountS.f
 repeat' first
     | (with_reducible exact ih0 _ _ _)
     | (with_reducible exact LeO.refl _)
     | (with_reducible exact LeO.none _)
     | (with_reducible refine LeO.ite ?_ ?_)
     | (with_reducible refine LeO.bind ?_ (fun _ => ?_))
     | exact ih0 _ _ _
     | exact LeO.none _
     | refine LeO.ite ?_ ?_
     | refine LeO.bind ?_ (fun _ => ?_)
def laws_eqAccountS.T6 : Bool × List (List Nat × List Nat) := (true, [([], []), ([], []), ([0, 1], [0, 1]), ([2], [2]), ([], []), ([], []), ([4, 5], [4, 5]), ([6], [6]), ([3, 7], [3, 7]), ([8], [8])])
def laws_eqAccountS.B6 : List Nat := [0, 0, 3, 7, 0, 0, 48, 112, 255, 511]
theorem laws_eqAccountS.tab6 : rtab .any (opsOf Try.f116 6) = laws_eqAccountS.T6 := by kernel_rfl
theorem laws_eqAccountS.bits6 : waitsOk laws_eqAccountS.T6.2 laws_eqAccountS.B6 = true := by kernel_rfl
set_option maxHeartbeats 8000000 in
set_option maxRecDepth 100000 in
theorem laws_eqAccountS.calls (k : Nat) (A0 : Option Addr) (c0 : Nat) (l0 : List (S222)) (A1 : Option Addr) (c1 : Nat) (l1 : List (S222)) (r : Bool) (w : World) (hr0 : Kd.C k222 w A0 l0.length l0) (hc0 : l0.length ≤ c0) (hr1 : Kd.C k222 w A1 l1.length l1) (hc1 : l1.length ≤ c1) (h : laws_eqAccountS.f k l0 l1 = some r) :
    Calls Try.prog 116 #[.slice A0 l0.length c0, .slice A1 l1.length c1] w fun e w' => e = .returned (.bool r) ∧ Below w.heap.size w w' := by
 have hu222 := Try.underlying222; have HR0 := Aside0.mk hr0; have HC0 := Aside0.mk hc0; clear hr0 hc0; have HR1 := Aside0.mk hr1; have HC1 := Aside0.mk hc1; clear hr1 hc1; have HB := aZ (Below.refl w.heap.size w); have H : (if (l0.length : Int) = (l1.length : Int) then (laws_eqAccountS.l0 k l0 l1 0) else (some false)) = some r := h; clear h
 by_cases c3 : (l0.length : Int) = (l1.length : Int)
 rotate_left
 ·rw [if_neg c3] at H; have c3b0 : ((l0.length : Int) == (l1.length : Int)) = false := beq_eq_false_iff_ne.mpr c3; have c3b1 : ((l0.length : Int) != (l1.length : Int)) = true := bne_iff_ne.mpr c3; have c3b2 : (l0.length == l1.length) = false := by first | simpa using c3 | (simp at c3 ⊢; omega)
  obtain rfl := Option.some.inj H; go_enter Try.func116, Try.ntmps116; go_wp2; go_ret; exact ⟨tZC, bZ⟩
 rw [if_pos c3] at H; have c3b0 : ((l0.length : Int) == (l1.length : Int)) = true := beq_iff_eq.mpr c3; have c3b1 : ((l0.length : Int) != (l1.length : Int)) = false := bne_eq_false_iff_eq.mpr c3; have c3b2 : (l0.length == l1.length) = true := by first | simpa using c3 | (simp at c3 ⊢; omega)
 clear c3; have H' := Aside0.mk H; clear H; go_enter Try.func116, Try.ntmps116; go_wp2
 go_loopg [5] k (fun kq v5 w' => ∃ (x5_1 : Int), v5 = .int .i64 x5_1 ∧ Aside0 (laws_eqAccountS.l0 kq l0 l1 x5_1 = some r) ∧ Aside0 (kq ≤ k) ∧ Aside0 (Below w.heap.size w w'))
 case atStart => exact ⟨(0), tZB, H', ⟨Nat.le_refl _⟩, ⟨bZ⟩⟩
 case round =>
  clear H'; (try clear c3 c3b0 c3b1 c3b2); obtain ⟨x5_1, rfl, HA, HK1, HB⟩ := hrel
  cases gk with
  | zero => exact absurd HA.out (by simp [laws_eqAccountS.l0])
  | succ k1 =>
   have H := HA.out; clear HA; simp only [laws_eqAccountS.l0] at H
   by_cases c4 : x5_1 < (l0.length : Int)
   rotate_left
   ·rw [if_neg c4] at H; have c4b0 := decide_eq_false c4; clear c4; obtain rfl := Option.some.inj H; go_wp2; go_ret; exact ⟨tZC, bZ⟩
   rw [if_pos c4] at H; have c4b0 := decide_eq_true c4; clear c4
   by_cases c5 : 0 ≤ x5_1
   rotate_left
   ·rw [if_neg c5] at H; exact absurd H (by simp)
   rw [if_pos c5] at H; have c5b0 := decide_eq_true c5; clear c5
   by_cases c6 : x5_1 < (l1.length : Int)
   rotate_left
   ·rw [if_neg c6] at H; exact absurd H (by simp)
   rw [if_pos c6] at H; have c6b0 := decide_eq_true c6; clear c6; replace H := Option.bind_eq_some_iff.mp H; obtain ⟨t343, A70, H⟩ := H; replace H : (if t343 = true then (laws_eqAccountS.l0 k1 l0 l1 (wrap64 (x5_1 + 1))) else (some false)) = some r := H; have A7 := Aside0.mk A70; clear A70
   by_cases c8 : t343 = true
   rotate_left
   ·replace c8 := Bool.eq_false_iff.mpr c8; subst c8; rw [if_neg Bool.false_ne_true] at H; obtain rfl := Option.some.inj H
    try go_wp2
    replace HB := aZ (below_drew1 HB.out); have p341 : 0 ≤ (x5_1 : Int) := of_decide_eq_true tZE; have q341 : x5_1 < (l0.length : Int) := of_decide_eq_true tZE; obtain ⟨ad341, e341, hx341_0, hx341_1, hx341_2⟩ := at_T222 HR0.out x5_1 p341 q341; have hw341_2 := hx341_2; have hw341_1 := hx341_1; have hw341_0 := hx341_0
    cases e341
    replace hx341_0 := cZ HB hx341_0; replace hx341_1 := cZ HB hx341_1; replace hx341_2 := cZ HB hx341_2; replace p341 := eq_true p341; replace q341 := eq_true q341; have p342 : 0 ≤ (x5_1 : Int) := of_decide_eq_true tZE; have q342 : x5_1 < (l1.length : Int) := of_decide_eq_true tZE; obtain ⟨ad342, e342, hx342_0, hx342_1, hx342_2⟩ := at_T222 HR1.out x5_1 p342 q342; have hw342_2 := hx342_2; have hw342_1 := hx342_1; have hw342_0 := hx342_0
    cases e342
    replace hx342_0 := cZ HB hx342_0; replace hx342_1 := cZ HB hx342_1; replace hx342_2 := cZ HB hx342_2; replace p342 := eq_true p342; replace q342 := eq_true q342
    refine start_ (n := 10) (S := fun w' => w'.cell? (ad341.add ((x5_1).toNat * 3)) = some (.string ((rd_T222 l0 x5_1).f0)) ∧ w'.cell? ⟨(ad341.add ((x5_1).toNat * 3)).block, (ad341.add ((x5_1).toNat * 3)).off + 1, none⟩ = some (.int .i64 ((rd_T222 l0 x5_1).f1)) ∧ w'.cell? ⟨(ad341.add ((x5_1).toNat * 3)).block, (ad341.add ((x5_1).toNat * 3)).off + 2, none⟩ = some (.int .i64 ((rd_T222 l0 x5_1).f2)) ∧ w'.cell? (ad342.add ((x5_1).toNat * 3)) = some (.string ((rd_T222 l1 x5_1).f0)) ∧ w'.cell? ⟨(ad342.add ((x5_1).toNat * 3)).block, (ad342.add ((x5_1).toNat * 3)).off + 1, none⟩ = some (.int .i64 ((rd_T222 l1 x5_1).f1)) ∧ w'.cell? ⟨(ad342.add ((x5_1).toNat * 3)).block, (ad342.add ((x5_1).toNat * 3)).off + 2, none⟩ = some (.int .i64 ((rd_T222 l1 x5_1).f2))) (ds := []) L8' kZ rfl rfl ⟨((HB.out.cell (World.block_lt_of_cell? w _ hw341_0)).trans hw341_0), ((HB.out.cell (World.block_lt_of_cell? w _ hw341_1)).trans hw341_1), ((HB.out.cell (World.block_lt_of_cell? w _ hw341_2)).trans hw341_2), ((HB.out.cell (World.block_lt_of_cell? w _ hw342_0)).trans hw342_0), ((HB.out.cell (World.block_lt_of_cell? w _ hw342_1)).trans hw342_1), ((HB.out.cell (World.block_lt_of_cell? w _ hw342_2)).trans hw342_2)⟩ (fun hHeld => ?_); refine with_tabW laws_eqAccountS.tab6 laws_eqAccountS.bits6 (fun HT_ HW_ => ?_)
    generalize wr.drew = w11 at HB hx341_0 hx341_1 hx341_2 hx342_0 hx342_1 hx342_2 hHeld ⊢; refine pure_ (i := 0) (N := some 17) (v := ?_) (a' := ?_) L9' rfl rfl (any_of HT_.out kZ) (fun _ _ _ h => h) (Or.inl ⟨by rfl, ?_⟩) ?_ ?_; rotate_left
    ·intro w'; go_simp; with_reducible rfl
    rotate_left
    ·simp only [Act.put, sZ1, sZ2, sZ3, i64_w, i32_w]; rfl
    refine pure_ (i := 1) (N := some 18) (v := ?_) (a' := ?_) L10' rfl rfl (any_of HT_.out kZ) (fun _ _ _ h => h) (Or.inl ⟨by rfl, ?_⟩) ?_ ?_; rotate_left
    ·intro w'; go_simp; with_reducible rfl
    rotate_left
    ·simp only [Act.put, sZ1, sZ2, sZ3, i64_w, i32_w]; rfl
    refine pure_ (i := 2) (N := some 19) (v := ?_) (a' := ?_) L11' rfl rfl (any_of HT_.out kZ) (fun _ _ _ h => h) (Or.inl ⟨by rfl, ?_⟩) ?_ ?_; rotate_left
    ·intro w'; go_simp; with_reducible rfl
    rotate_left
    ·simp only [Act.put, sZ1, sZ2, sZ3, i64_w, i32_w]; rfl
    refine pure_ (i := 4) (N := some 21) (v := ?_) (a' := ?_) L12' rfl rfl (any_of HT_.out kZ) (fun _ _ _ h => h) (Or.inl ⟨by rfl, ?_⟩) ?_ ?_; rotate_left
    ·intro w'; go_simp; with_reducible rfl
    rotate_left
    ·simp only [Act.put, sZ1, sZ2, sZ3, i64_w, i32_w]; rfl
    refine pure_ (i := 5) (N := some 22) (v := ?_) (a' := ?_) L13' rfl rfl (any_of HT_.out kZ) (fun _ _ _ h => h) (Or.inl ⟨by rfl, ?_⟩) ?_ ?_; rotate_left
    ·intro w'; go_simp; with_reducible rfl
    rotate_left
    ·simp only [Act.put, sZ1, sZ2, sZ3, i64_w, i32_w]; rfl
    refine pure_ (i := 6) (N := some 23) (v := ?_) (a' := ?_) L14' rfl rfl (any_of HT_.out kZ) (fun _ _ _ h => h) (Or.inl ⟨by rfl, ?_⟩) ?_ ?_; rotate_left
    ·intro w'; go_simp; with_reducible rfl
    rotate_left
    ·simp only [Act.put, sZ1, sZ2, sZ3, i64_w, i32_w]; rfl
    refine take_ (i := 3) (N := some 20) (v := ?_) (a' := ?_) L15' rfl rfl (take_ofW HT_.out HW_.out kZ) (fun _ _ _ h => h) (Or.inl ⟨by rfl, ?_⟩) hHeld ?_ ?_; rotate_left
    ·rintro w' ⟨s0, s1, s2, s3, s4, s5⟩
     go_simp; with_reducible rfl
    rotate_left
    ·simp only [Act.put, sZ1, sZ2, sZ3, i64_w, i32_w]; rfl
    refine take_ (i := 7) (N := some 24) (v := ?_) (a' := ?_) L16' rfl rfl (take_ofW HT_.out HW_.out kZ) (fun _ _ _ h => h) (Or.inl ⟨by rfl, ?_⟩) hHeld ?_ ?_; rotate_left
    ·rintro w' ⟨s0, s1, s2, s3, s4, s5⟩
     go_simp; with_reducible rfl
    rotate_left
    ·simp only [Act.put, sZ1, sZ2, sZ3, i64_w, i32_w]; rfl
    refine one_ (i := 8) (N := some 25) L17' rfl rfl (one_of HT_.out kZ) (by decide) (fun K hK => ?_); refine goes_ Try.func172 kZ rfl #[.agg #[.string ((rd_T222 l0 x5_1).f0), .int .i64 ((rd_T222 l0 x5_1).f1), .int .i64 ((rd_T222 l0 x5_1).f2)], .agg #[.string ((rd_T222 l1 x5_1).f0), .int .i64 ((rd_T222 l1 x5_1).f1), .int .i64 ((rd_T222 l1 x5_1).f2)]] (by rfl) rfl rfl tZA ?_
    with_reducible refine (laws_eqAccount.calls ((rd_T222 l0 x5_1).f0) ((rd_T222 l0 x5_1).f1) ((rd_T222 l0 x5_1).f2) ((rd_T222 l1 x5_1).f0) ((rd_T222 l1 x5_1).f1) ((rd_T222 l1 x5_1).f2) false _ A7.out).mono ?_
    rintro e w12 ⟨rfl, hb⟩
    refine ⟨_, rfl, ?_⟩; replace HB := aZ (below_step (lZB HB.out) hb); (try clear hb); (try clear hb2); (try clear hk); (try clear hi); refine hK.out _ _ ⟨((HB.out.cell (World.block_lt_of_cell? w _ hw341_0)).trans hw341_0), ((HB.out.cell (World.block_lt_of_cell? w _ hw341_1)).trans hw341_1), ((HB.out.cell (World.block_lt_of_cell? w _ hw341_2)).trans hw341_2), ((HB.out.cell (World.block_lt_of_cell? w _ hw342_0)).trans hw342_0), ((HB.out.cell (World.block_lt_of_cell? w _ hw342_1)).trans hw342_1), ((HB.out.cell (World.block_lt_of_cell? w _ hw342_2)).trans hw342_2)⟩ (fun hHeld => ?_); clear hK K; refine norm_ (a' := ?_) ?_ ?_; rotate_left
    ·show Act.put _ (some 25) _ = _
     simp only [Act.put, sZ1, sZ2, sZ3, i64_w, i32_w]; rfl
    refine pure_ (i := 9) (N := some 26) (v := ?_) (a' := ?_) L18' rfl rfl (any_of HT_.out kZ) (fun _ _ _ h => h) (Or.inl ⟨by rfl, ?_⟩) ?_ ?_; rotate_left
    ·intro w'; go_simp; with_reducible rfl
    rotate_left
    ·simp only [Act.put, sZ1, sZ2, sZ3, i64_w, i32_w]; rfl
    refine done_ (done_of HT_.out kZ) ?_
    try go_wp2
    go_ret; exact ⟨tZC, bZ⟩
   subst c8; rw [if_pos rfl] at H; have H' := Aside0.mk H; clear H
   try go_wp2
   replace HB := aZ (below_drew1 HB.out); have p341 : 0 ≤ (x5_1 : Int) := of_decide_eq_true tZE; have q341 : x5_1 < (l0.length : Int) := of_decide_eq_true tZE; obtain ⟨ad341, e341, hx341_0, hx341_1, hx341_2⟩ := at_T222 HR0.out x5_1 p341 q341; have hw341_2 := hx341_2; have hw341_1 := hx341_1; have hw341_0 := hx341_0
   cases e341
   replace hx341_0 := cZ HB hx341_0; replace hx341_1 := cZ HB hx341_1; replace hx341_2 := cZ HB hx341_2; replace p341 := eq_true p341; replace q341 := eq_true q341; have p342 : 0 ≤ (x5_1 : Int) := of_decide_eq_true tZE; have q342 : x5_1 < (l1.length : Int) := of_decide_eq_true tZE; obtain ⟨ad342, e342, hx342_0, hx342_1, hx342_2⟩ := at_T222 HR1.out x5_1 p342 q342; have hw342_2 := hx342_2; have hw342_1 := hx342_1; have hw342_0 := hx342_0
   cases e342
   replace hx342_0 := cZ HB hx342_0; replace hx342_1 := cZ HB hx342_1; replace hx342_2 := cZ HB hx342_2; replace p342 := eq_true p342; replace q342 := eq_true q342
   refine start_ (n := 10) (S := fun w' => w'.cell? (ad341.add ((x5_1).toNat * 3)) = some (.string ((rd_T222 l0 x5_1).f0)) ∧ w'.cell? ⟨(ad341.add ((x5_1).toNat * 3)).block, (ad341.add ((x5_1).toNat * 3)).off + 1, none⟩ = some (.int .i64 ((rd_T222 l0 x5_1).f1)) ∧ w'.cell? ⟨(ad341.add ((x5_1).toNat * 3)).block, (ad341.add ((x5_1).toNat * 3)).off + 2, none⟩ = some (.int .i64 ((rd_T222 l0 x5_1).f2)) ∧ w'.cell? (ad342.add ((x5_1).toNat * 3)) = some (.string ((rd_T222 l1 x5_1).f0)) ∧ w'.cell? ⟨(ad342.add ((x5_1).toNat * 3)).block, (ad342.add ((x5_1).toNat * 3)).off + 1, none⟩ = some (.int .i64 ((rd_T222 l1 x5_1).f1)) ∧ w'.cell? ⟨(ad342.add ((x5_1).toNat * 3)).block, (ad342.add ((x5_1).toNat * 3)).off + 2, none⟩ = some (.int .i64 ((rd_T222 l1 x5_1).f2))) (ds := []) L8' kZ rfl rfl ⟨((HB.out.cell (World.block_lt_of_cell? w _ hw341_0)).trans hw341_0), ((HB.out.cell (World.block_lt_of_cell? w _ hw341_1)).trans hw341_1), ((HB.out.cell (World.block_lt_of_cell? w _ hw341_2)).trans hw341_2), ((HB.out.cell (World.block_lt_of_cell? w _ hw342_0)).trans hw342_0), ((HB.out.cell (World.block_lt_of_cell? w _ hw342_1)).trans hw342_1), ((HB.out.cell (World.block_lt_of_cell? w _ hw342_2)).trans hw342_2)⟩ (fun hHeld => ?_); refine with_tabW laws_eqAccountS.tab6 laws_eqAccountS.bits6 (fun HT_ HW_ => ?_)
   generalize wr.drew = w9 at HB hx341_0 hx341_1 hx341_2 hx342_0 hx342_1 hx342_2 hHeld ⊢; refine pure_ (i := 0) (N := some 17) (v := ?_) (a' := ?_) L9' rfl rfl (any_of HT_.out kZ) (fun _ _ _ h => h) (Or.inl ⟨by rfl, ?_⟩) ?_ ?_; rotate_left
   ·intro w'; go_simp; with_reducible rfl
   rotate_left
   ·simp only [Act.put, sZ1, sZ2, sZ3, i64_w, i32_w]; rfl
   refine pure_ (i := 1) (N := some 18) (v := ?_) (a' := ?_) L10' rfl rfl (any_of HT_.out kZ) (fun _ _ _ h => h) (Or.inl ⟨by rfl, ?_⟩) ?_ ?_; rotate_left
   ·intro w'; go_simp; with_reducible rfl
   rotate_left
   ·simp only [Act.put, sZ1, sZ2, sZ3, i64_w, i32_w]; rfl
   refine pure_ (i := 2) (N := some 19) (v := ?_) (a' := ?_) L11' rfl rfl (any_of HT_.out kZ) (fun _ _ _ h => h) (Or.inl ⟨by rfl, ?_⟩) ?_ ?_; rotate_left
   ·intro w'; go_simp; with_reducible rfl
   rotate_left
   ·simp only [Act.put, sZ1, sZ2, sZ3, i64_w, i32_w]; rfl
   refine pure_ (i := 4) (N := some 21) (v := ?_) (a' := ?_) L12' rfl rfl (any_of HT_.out kZ) (fun _ _ _ h => h) (Or.inl ⟨by rfl, ?_⟩) ?_ ?_; rotate_left
   ·intro w'; go_simp; with_reducible rfl
   rotate_left
   ·simp only [Act.put, sZ1, sZ2, sZ3, i64_w, i32_w]; rfl
   refine pure_ (i := 5) (N := some 22) (v := ?_) (a' := ?_) L13' rfl rfl (any_of HT_.out kZ) (fun _ _ _ h => h) (Or.inl ⟨by rfl, ?_⟩) ?_ ?_; rotate_left
   ·intro w'; go_simp; with_reducible rfl
   rotate_left
   ·simp only [Act.put, sZ1, sZ2, sZ3, i64_w, i32_w]; rfl
   refine pure_ (i := 6) (N := some 23) (v := ?_) (a' := ?_) L14' rfl rfl (any_of HT_.out kZ) (fun _ _ _ h => h) (Or.inl ⟨by rfl, ?_⟩) ?_ ?_; rotate_left
   ·intro w'; go_simp; with_reducible rfl
   rotate_left
   ·simp only [Act.put, sZ1, sZ2, sZ3, i64_w, i32_w]; rfl
   refine take_ (i := 3) (N := some 20) (v := ?_) (a' := ?_) L15' rfl rfl (take_ofW HT_.out HW_.out kZ) (fun _ _ _ h => h) (Or.inl ⟨by rfl, ?_⟩) hHeld ?_ ?_; rotate_left
   ·rintro w' ⟨s0, s1, s2, s3, s4, s5⟩
    go_simp; with_reducible rfl
   rotate_left
   ·simp only [Act.put, sZ1, sZ2, sZ3, i64_w, i32_w]; rfl
   refine take_ (i := 7) (N := some 24) (v := ?_) (a' := ?_) L16' rfl rfl (take_ofW HT_.out HW_.out kZ) (fun _ _ _ h => h) (Or.inl ⟨by rfl, ?_⟩) hHeld ?_ ?_; rotate_left
   ·rintro w' ⟨s0, s1, s2, s3, s4, s5⟩
    go_simp; with_reducible rfl
   rotate_left
   ·simp only [Act.put, sZ1, sZ2, sZ3, i64_w, i32_w]; rfl
   refine one_ (i := 8) (N := some 25) L17' rfl rfl (one_of HT_.out kZ) (by decide) (fun K hK => ?_); refine goes_ Try.func172 kZ rfl #[.agg #[.string ((rd_T222 l0 x5_1).f0), .int .i64 ((rd_T222 l0 x5_1).f1), .int .i64 ((rd_T222 l0 x5_1).f2)], .agg #[.string ((rd_T222 l1 x5_1).f0), .int .i64 ((rd_T222 l1 x5_1).f1), .int .i64 ((rd_T222 l1 x5_1).f2)]] (by rfl) rfl rfl tZA ?_
   with_reducible refine (laws_eqAccount.calls ((rd_T222 l0 x5_1).f0) ((rd_T222 l0 x5_1).f1) ((rd_T222 l0 x5_1).f2) ((rd_T222 l1 x5_1).f0) ((rd_T222 l1 x5_1).f1) ((rd_T222 l1 x5_1).f2) true _ A7.out).mono ?_
   rintro e w10 ⟨rfl, hb⟩
   refine ⟨_, rfl, ?_⟩; replace HB := aZ (below_step (lZB HB.out) hb); (try clear hb); (try clear hb2); (try clear hk); (try clear hi); refine hK.out _ _ ⟨((HB.out.cell (World.block_lt_of_cell? w _ hw341_0)).trans hw341_0), ((HB.out.cell (World.block_lt_of_cell? w _ hw341_1)).trans hw341_1), ((HB.out.cell (World.block_lt_of_cell? w _ hw341_2)).trans hw341_2), ((HB.out.cell (World.block_lt_of_cell? w _ hw342_0)).trans hw342_0), ((HB.out.cell (World.block_lt_of_cell? w _ hw342_1)).trans hw342_1), ((HB.out.cell (World.block_lt_of_cell? w _ hw342_2)).trans hw342_2)⟩ (fun hHeld => ?_); clear hK K; refine norm_ (a' := ?_) ?_ ?_; rotate_left
   ·show Act.put _ (some 25) _ = _
    simp only [Act.put, sZ1, sZ2, sZ3, i64_w, i32_w]; rfl
   refine pure_ (i := 9) (N := some 26) (v := ?_) (a' := ?_) L18' rfl rfl (any_of HT_.out kZ) (fun _ _ _ h => h) (Or.inl ⟨by rfl, ?_⟩) ?_ ?_; rotate_left
   ·intro w'; go_simp; with_reducible rfl
   rotate_left
   ·simp only [Act.put, sZ1, sZ2, sZ3, i64_w, i32_w]; rfl
   refine done_ (done_of HT_.out kZ) ?_
   try go_wp2
   go_roundg k1
   case measure => have := HK1.out; omega
   case rel => exact ⟨(wrap64 (x5_1 + 1)), tZB, H', ⟨by have := HK1.out; omega⟩, ⟨bZ⟩⟩
end Go.Proofs.Ytmpknbdbichdiaa.PFnExactLedgerOk
