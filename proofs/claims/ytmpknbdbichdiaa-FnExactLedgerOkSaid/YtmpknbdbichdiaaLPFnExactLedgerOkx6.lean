import Derived.Test.YtmpknbdbichdiaaLPFnExactLedgerOkx0
import Derived.Test.YtmpknbdbichdiaaLPFnExactLedgerOkx1
import Derived.Test.YtmpknbdbichdiaaLPFnExactLedgerOkx4
import Derived.Test.YtmpknbdbichdiaaLPFnExactLedgerOkx5
import Derived.Test.YtmpknbdbichdiaaLSlimWords
namespace Go.Proofs.Ytmpknbdbichdiaa.PFnExactLedgerOk
open Go.Proofs.Ytmpknbdbichdiaa.SlimWords
open Go.RowKit Go.Proofs.YtmpknbdbichdiaaW.PrintWords Go.Proofs.YtmpknbdbichdiaaW.PrintLast Go.Proofs.YtmpknbdbichdiaaW.PrintMore Go.Proofs.Ytmpknbdbichdiaa.MapWords Go.Proofs.Ytmpknbdbichdiaa.IterWords Go.Proofs.Ytmpknbdbichdiaa.MarkWords
attribute [local go_sem] max2_int min2_int max_two min_two max_three min_three max_four min_four
set_option linter.unusedVariables false
set_option linter.unusedSimpArgs false
private abbrev I' := true
private abbrev O' := false
private abbrev L0' : Array Bool := #[O',O',O',O',O',O',O',O']
private abbrev L1' : Array Bool := #[O',I',O',O',O',O',O',O']
private abbrev L2' : Array Bool := #[O',I',O',I',O',O',O',O']
private abbrev L3' : Array Bool := #[I',I',O',I',O',O',O',O']
private abbrev L4' : Array Bool := #[I',I',I',I',O',O',O',O']
private abbrev L5' : Array Bool := #[I',I',I',I',I',O',O',O']
private abbrev L6' : Array Bool := #[I',I',I',I',I',I',O',O']
private abbrev L7' : Array Bool := #[I',I',I',I',I',I',I',O']
private abbrev L8' : Array Bool := #[I',I',I',I',I',I',I',I']
private abbrev L9' : Array Bool := #[O',O',O',O',O',O',O',O',O',O',O',O',O']
private abbrev L10' : Array Bool := #[I',O',O',O',O',O',O',O',O',O',O',O',O']
private abbrev L11' : Array Bool := #[I',O',I',O',O',O',O',O',O',O',O',O',O']
private abbrev L12' : Array Bool := #[I',O',I',O',O',O',I',O',O',O',O',O',O']
private abbrev L13' : Array Bool := #[I',O',I',O',O',O',I',O',I',O',O',O',O']
private abbrev L14' : Array Bool := #[I',I',I',O',O',O',I',O',I',O',O',O',O']
private abbrev L15' : Array Bool := #[I',I',I',I',O',O',I',O',I',O',O',O',O']
private abbrev L16' : Array Bool := #[I',I',I',I',I',O',I',O',I',O',O',O',O']
private abbrev L17' : Array Bool := #[I',I',I',I',I',I',I',O',I',O',O',O',O']
private abbrev L18' : Array Bool := #[I',I',I',I',I',I',I',I',I',O',O',O',O']
private abbrev L19' : Array Bool := #[I',I',I',I',I',I',I',I',I',I',O',O',O']
private abbrev L20' : Array Bool := #[I',I',I',I',I',I',I',I',I',I',I',O',O']
private abbrev L21' : Array Bool := #[I',I',I',I',I',I',I',I',I',I',I',I',O']
private abbrev L22' : Array Bool := #[I',I',I',I',I',I',I',I',I',I',I',I',I']
mutual
def spec_EntryOk.j0 : Nat → Bool → List (S222) → Int → Int → Int → Int → ByteArray → List (S107) → Option (Bool)
  | 0, _, _, _, _, _, _, _, _ => none
  | k + 1, x37, x170000, x170001, x170002, x171000, x171001, x171002, x171003 => if x37 = true then (some false) else (spec_EntryOk.l0 k 0 x170000 x170001 x170002 x171000 x171001 x171002 x171003)
def spec_EntryOk.l0 : Nat → Int → List (S222) → Int → Int → Int → Int → ByteArray → List (S107) → Option (Bool)
  | 0, _, _, _, _, _, _, _, _ => none
  | k + 1, x5, x170000, x170001, x170002, x171000, x171001, x171002, x171003 => if x5 < (x171003.length : Int) then (if 0 ≤ x5 then ((spec_l5LineOk.f k x170000 x170001 x170002 ((rd_T107 x171003 x5).f0) ((rd_T107 x171003 x5).f1) ((rd_T107 x171003 x5).f2) ((rd_T107 x171003 x5).f3) ((rd_T107 x171003 x5).f4)).bind fun t177 => (if t177 = true then (spec_EntryOk.l0 k (wrap64 (x5 + 1)) x170000 x170001 x170002 x171000 x171001 x171002 x171003) else (some false))) else (none)) else (spec_EntryOk.l1 k 0 x171000 x171001 x171002 x171003)
def spec_EntryOk.l1 : Nat → Int → Int → Int → ByteArray → List (S107) → Option (Bool)
  | 0, _, _, _, _, _ => none
  | k + 1, x6, x171000, x171001, x171002, x171003 => if x6 < (x171003.length : Int) then (spec_EntryOk.l2 k x6 0 0 0 x171000 x171001 x171002 x171003) else (some true)
def spec_EntryOk.l2 : Nat → Int → Int → Int → Int → Int → Int → ByteArray → List (S107) → Option (Bool)
  | 0, _, _, _, _, _, _, _, _ => none
  | k + 1, x6, x7, x8, x9, x171000, x171001, x171002, x171003 => if x9 < (x171003.length : Int) then (if 0 ≤ x9 then (if 0 ≤ x6 then (if x6 < (x171003.length : Int) then (if ((rd_T107 x171003 x9).f2) = ((rd_T107 x171003 x6).f2) then (if ((rd_T107 x171003 x9).f1) = ((rd_T107 x171003 x6).f1) then (spec_EntryOk.l2 k x6 (wrap64 (x7 + ((rd_T107 x171003 x9).f3))) (wrap64 (x8 + ((rd_T107 x171003 x9).f4))) (wrap64 (x9 + 1)) x171000 x171001 x171002 x171003) else (spec_EntryOk.l2 k x6 (wrap64 (x7 + ((rd_T107 x171003 x9).f3))) x8 (wrap64 (x9 + 1)) x171000 x171001 x171002 x171003)) else (if ((rd_T107 x171003 x9).f1) = ((rd_T107 x171003 x6).f1) then (spec_EntryOk.l2 k x6 x7 (wrap64 (x8 + ((rd_T107 x171003 x9).f4))) (wrap64 (x9 + 1)) x171000 x171001 x171002 x171003) else (spec_EntryOk.l2 k x6 x7 x8 (wrap64 (x9 + 1)) x171000 x171001 x171002 x171003))) else (none)) else (none)) else (none)) else (if x7 = 0 then (if x8 = 0 then (spec_EntryOk.l1 k (wrap64 (x6 + 1)) x171000 x171001 x171002 x171003) else (some false)) else (some false))
end
def spec_EntryOk.f (k : Nat) (l0_0 : List (S222)) (a0_1 : Int) (a0_2 : Int) (a1_0 : Int) (a1_1 : Int) (a1_2 : ByteArray) (l1_3 : List (S107)) : Option (Bool) := (spec_FrameOk.f k l0_0 a0_1 a0_2).bind fun t171 => (if t171 = true then ((spec_l2Day.f a1_0).bind fun t172 => (if t172 = true then ((spec_l1In.f a1_1 0 1000).bind fun t173 => (if t173 = true then ((spec_l5TextOk.f k a1_2).bind fun t174 => (if t174 = true then ((spec_l1In.f (l1_3.length : Int) 2 60).bind fun t175 => (spec_EntryOk.j0 k (!t175) l0_0 a0_1 a0_2 a1_0 a1_1 a1_2 l1_3)) else (spec_EntryOk.j0 k true l0_0 a0_1 a0_2 a1_0 a1_1 a1_2 l1_3))) else (spec_EntryOk.j0 k true l0_0 a0_1 a0_2 a1_0 a1_1 a1_2 l1_3))) else (spec_EntryOk.j0 k true l0_0 a0_1 a0_2 a1_0 a1_1 a1_2 l1_3))) else (spec_EntryOk.j0 k true l0_0 a0_1 a0_2 a1_0 a1_1 a1_2 l1_3))
theorem spec_EntryOk.mono_l : ∀ k, (∀ y0 y1 y2 y3 y4 y5 y6 y7, LeO (spec_EntryOk.j0 k y0 y1 y2 y3 y4 y5 y6 y7) (spec_EntryOk.j0 (k + 1) y0 y1 y2 y3 y4 y5 y6 y7)) ∧ (∀ y0 y1 y2 y3 y4 y5 y6 y7, LeO (spec_EntryOk.l0 k y0 y1 y2 y3 y4 y5 y6 y7) (spec_EntryOk.l0 (k + 1) y0 y1 y2 y3 y4 y5 y6 y7)) ∧ (∀ y0 y1 y2 y3 y4, LeO (spec_EntryOk.l1 k y0 y1 y2 y3 y4) (spec_EntryOk.l1 (k + 1) y0 y1 y2 y3 y4)) ∧ (∀ y0 y1 y2 y3 y4 y5 y6 y7, LeO (spec_EntryOk.l2 k y0 y1 y2 y3 y4 y5 y6 y7) (spec_EntryOk.l2 (k + 1) y0 y1 y2 y3 y4 y5 y6 y7))
  | 0 => ⟨fun _ _ _ _ _ _ _ _ r h => by simp [spec_EntryOk.j0] at h, fun _ _ _ _ _ _ _ _ r h => by simp [spec_EntryOk.l0] at h, fun _ _ _ _ _ r h => by simp [spec_EntryOk.l1] at h, fun _ _ _ _ _ _ _ _ r h => by simp [spec_EntryOk.l2] at h⟩
  | k + 1 => by
    obtain ⟨ih0, ih1, ih2, ih3⟩ := spec_EntryOk.mono_l k
    refine ⟨?_, ?_, ?_, ?_⟩
    · intro y0 y1 y2 y3 y4 y5 y6 y7
      unfold spec_EntryOk.j0
      repeat' first
      | (with_reducible exact ih0 _ _ _ _ _ _ _ _)
      | (with_reducible exact ih1 _ _ _ _ _ _ _ _)
      | (with_reducible exact ih2 _ _ _ _ _)
      | (with_reducible exact ih3 _ _ _ _ _ _ _ _)
      | (with_reducible exact spec_FrameOk.mono _ _ _ _)
      | (with_reducible exact spec_l5LineOk.mono _ _ _ _ _ _ _ _ _)
      | (with_reducible exact spec_l5TextOk.mono _ _)
      | (with_reducible exact LeO.refl _)
      | (with_reducible exact LeO.none _)
      | (with_reducible refine LeO.ite ?_ ?_)
      | (with_reducible refine LeO.bind ?_ (fun _ => ?_))
      | exact ih0 _ _ _ _ _ _ _ _
      | exact ih1 _ _ _ _ _ _ _ _
      | exact ih2 _ _ _ _ _
      | exact ih3 _ _ _ _ _ _ _ _
      | exact spec_FrameOk.mono _ _ _ _
      | exact spec_l5LineOk.mono _ _ _ _ _ _ _ _ _
      | exact spec_l5TextOk.mono _ _
      | exact LeO.none _
      | refine LeO.ite ?_ ?_
      | refine LeO.bind ?_ (fun _ => ?_)
    · intro y0 y1 y2 y3 y4 y5 y6 y7
      unfold spec_EntryOk.l0
      repeat' first
      | (with_reducible exact ih0 _ _ _ _ _ _ _ _)
      | (with_reducible exact ih1 _ _ _ _ _ _ _ _)
      | (with_reducible exact ih2 _ _ _ _ _)
      | (with_reducible exact ih3 _ _ _ _ _ _ _ _)
      | (with_reducible exact spec_FrameOk.mono _ _ _ _)
      | (with_reducible exact spec_l5LineOk.mono _ _ _ _ _ _ _ _ _)
      | (with_reducible exact spec_l5TextOk.mono _ _)
      | (with_reducible exact LeO.refl _)
      | (with_reducible exact LeO.none _)
      | (with_reducible refine LeO.ite ?_ ?_)
      | (with_reducible refine LeO.bind ?_ (fun _ => ?_))
      | exact ih0 _ _ _ _ _ _ _ _
      | exact ih1 _ _ _ _ _ _ _ _
      | exact ih2 _ _ _ _ _
      | exact ih3 _ _ _ _ _ _ _ _
      | exact spec_FrameOk.mono _ _ _ _
      | exact spec_l5LineOk.mono _ _ _ _ _ _ _ _ _
      | exact spec_l5TextOk.mono _ _
      | exact LeO.none _
      | refine LeO.ite ?_ ?_
      | refine LeO.bind ?_ (fun _ => ?_)
    · intro y0 y1 y2 y3 y4
      unfold spec_EntryOk.l1
      repeat' first
      | (with_reducible exact ih0 _ _ _ _ _ _ _ _)
      | (with_reducible exact ih1 _ _ _ _ _ _ _ _)
      | (with_reducible exact ih2 _ _ _ _ _)
      | (with_reducible exact ih3 _ _ _ _ _ _ _ _)
      | (with_reducible exact spec_FrameOk.mono _ _ _ _)
      | (with_reducible exact spec_l5LineOk.mono _ _ _ _ _ _ _ _ _)
      | (with_reducible exact spec_l5TextOk.mono _ _)
      | (with_reducible exact LeO.refl _)
      | (with_reducible exact LeO.none _)
      | (with_reducible refine LeO.ite ?_ ?_)
      | (with_reducible refine LeO.bind ?_ (fun _ => ?_))
      | exact ih0 _ _ _ _ _ _ _ _
      | exact ih1 _ _ _ _ _ _ _ _
      | exact ih2 _ _ _ _ _
      | exact ih3 _ _ _ _ _ _ _ _
      | exact spec_FrameOk.mono _ _ _ _
      | exact spec_l5LineOk.mono _ _ _ _ _ _ _ _ _
      | exact spec_l5TextOk.mono _ _
      | exact LeO.none _
      | refine LeO.ite ?_ ?_
      | refine LeO.bind ?_ (fun _ => ?_)
    · intro y0 y1 y2 y3 y4 y5 y6 y7
      unfold spec_EntryOk.l2
      repeat' first
      | (with_reducible exact ih0 _ _ _ _ _ _ _ _)
      | (with_reducible exact ih1 _ _ _ _ _ _ _ _)
      | (with_reducible exact ih2 _ _ _ _ _)
      | (with_reducible exact ih3 _ _ _ _ _ _ _ _)
      | (with_reducible exact spec_FrameOk.mono _ _ _ _)
      | (with_reducible exact spec_l5LineOk.mono _ _ _ _ _ _ _ _ _)
      | (with_reducible exact spec_l5TextOk.mono _ _)
      | (with_reducible exact LeO.refl _)
      | (with_reducible exact LeO.none _)
      | (with_reducible refine LeO.ite ?_ ?_)
      | (with_reducible refine LeO.bind ?_ (fun _ => ?_))
      | exact ih0 _ _ _ _ _ _ _ _
      | exact ih1 _ _ _ _ _ _ _ _
      | exact ih2 _ _ _ _ _
      | exact ih3 _ _ _ _ _ _ _ _
      | exact spec_FrameOk.mono _ _ _ _
      | exact spec_l5LineOk.mono _ _ _ _ _ _ _ _ _
      | exact spec_l5TextOk.mono _ _
      | exact LeO.none _
      | refine LeO.ite ?_ ?_
      | refine LeO.bind ?_ (fun _ => ?_)
theorem spec_EntryOk.mono : ∀ a0 a1 a2 a3 a4 a5 a6 k, LeO (spec_EntryOk.f k a0 a1 a2 a3 a4 a5 a6) (spec_EntryOk.f (k + 1) a0 a1 a2 a3 a4 a5 a6) := by
 intro a0 a1 a2 a3 a4 a5 a6 k
 obtain ⟨ih0, ih1, ih2, ih3⟩ := spec_EntryOk.mono_l k
 unfold spec_EntryOk.f
 repeat' first
     | (with_reducible exact ih0 _ _ _ _ _ _ _ _)
     | (with_reducible exact ih1 _ _ _ _ _ _ _ _)
     | (with_reducible exact ih2 _ _ _ _ _)
     | (with_reducible exact ih3 _ _ _ _ _ _ _ _)
     | (with_reducible exact spec_FrameOk.mono _ _ _ _)
     | (with_reducible exact spec_l5LineOk.mono _ _ _ _ _ _ _ _ _)
     | (with_reducible exact spec_l5TextOk.mono _ _)
     | (with_reducible exact LeO.refl _)
     | (with_reducible exact LeO.none _)
     | (with_reducible refine LeO.ite ?_ ?_)
     | (with_reducible refine LeO.bind ?_ (fun _ => ?_))
     | exact ih0 _ _ _ _ _ _ _ _
     | exact ih1 _ _ _ _ _ _ _ _
     | exact ih2 _ _ _ _ _
     | exact ih3 _ _ _ _ _ _ _ _
     | exact spec_FrameOk.mono _ _ _ _
     | exact spec_l5LineOk.mono _ _ _ _ _ _ _ _ _
     | exact spec_l5TextOk.mono _ _
     | exact LeO.none _
     | refine LeO.ite ?_ ?_
     | refine LeO.bind ?_ (fun _ => ?_)
def spec_EntryOk.T6 : Bool × List (List Nat × List Nat) := (true, [([], []), ([], []), ([1], [1]), ([], []), ([2, 3], [2, 3]), ([4], [4]), ([0, 5], [0, 5]), ([6], [6])])
def spec_EntryOk.B6 : List Nat := [0, 0, 2, 0, 14, 30, 63, 127]
theorem spec_EntryOk.tab6 : rtab .any (opsOf Try.f110 6) = spec_EntryOk.T6 := by kernel_rfl
theorem spec_EntryOk.bits6 : waitsOk spec_EntryOk.T6.2 spec_EntryOk.B6 = true := by kernel_rfl
def spec_EntryOk.T16 : Bool × List (List Nat × List Nat) := (true, [([], []), ([0], [0]), ([], []), ([1, 2], [1, 2]), ([3], [3]), ([4], [4]), ([], []), ([6], [6]), ([], []), ([7, 8], [7, 8]), ([9], [9]), ([10], [10]), ([5, 11], [5, 11])])
def spec_EntryOk.B16 : List Nat := [0, 1, 0, 7, 15, 31, 0, 64, 0, 448, 960, 1984, 4095]
theorem spec_EntryOk.tab16 : rtab .any (opsOf Try.f110 16) = spec_EntryOk.T16 := by kernel_rfl
theorem spec_EntryOk.bits16 : waitsOk spec_EntryOk.T16.2 spec_EntryOk.B16 = true := by kernel_rfl
def spec_EntryOk.T18 : Bool × List (List Nat × List Nat) := (true, [([], []), ([0], [0]), ([], []), ([1, 2], [1, 2]), ([3], [3]), ([4], [4]), ([], []), ([6], [6]), ([], []), ([7, 8], [7, 8]), ([9], [9]), ([10], [10]), ([5, 11], [5, 11])])
def spec_EntryOk.B18 : List Nat := [0, 1, 0, 7, 15, 31, 0, 64, 0, 448, 960, 1984, 4095]
theorem spec_EntryOk.tab18 : rtab .any (opsOf Try.f110 18) = spec_EntryOk.T18 := by kernel_rfl
theorem spec_EntryOk.bits18 : waitsOk spec_EntryOk.T18.2 spec_EntryOk.B18 = true := by kernel_rfl
set_option maxHeartbeats 8000000 in
set_option maxRecDepth 100000 in
theorem spec_EntryOk.calls (k : Nat) (A0_0 : Option Addr) (c0_0 : Nat) (l0_0 : List (S222)) (a0_1 : Int) (a0_2 : Int) (a1_0 : Int) (a1_1 : Int) (a1_2 : ByteArray) (A1_3 : Option Addr) (c1_3 : Nat) (l1_3 : List (S107)) (r : Bool) (w : World) (hr0_0 : Kd.C k222 w A0_0 l0_0.length l0_0) (hc0_0 : l0_0.length ≤ c0_0) (hr1_3 : Kd.C k107 w A1_3 l1_3.length l1_3) (hc1_3 : l1_3.length ≤ c1_3) (h : spec_EntryOk.f k l0_0 a0_1 a0_2 a1_0 a1_1 a1_2 l1_3 = some r) :
    Calls Try.prog 110 #[.agg #[.slice A0_0 l0_0.length c0_0, .int .i64 a0_1, .int .i64 a0_2], .agg #[.int .i64 a1_0, .int .i64 a1_1, .string a1_2, .slice A1_3 l1_3.length c1_3]] w fun e w' => e = .returned (.bool r) ∧ Below w.heap.size w w' := by
 have hu81 := Try.underlying81; have hu103 := Try.underlying103; have hu107 := Try.underlying107; have HR0_0 := Aside0.mk hr0_0; have HC0_0 := Aside0.mk hc0_0; clear hr0_0 hc0_0; have HR1_3 := Aside0.mk hr1_3; have HC1_3 := Aside0.mk hc1_3; clear hr1_3 hc1_3; have HB := aZ (Below.refl w.heap.size w)
 have H : ((spec_FrameOk.f k l0_0 a0_1 a0_2).bind fun t171 => (if t171 = true then ((spec_l2Day.f a1_0).bind fun t172 => (if t172 = true then ((spec_l1In.f a1_1 0 1000).bind fun t173 => (if t173 = true then ((spec_l5TextOk.f k a1_2).bind fun t174 => (if t174 = true then ((spec_l1In.f (l1_3.length : Int) 2 60).bind fun t175 => (spec_EntryOk.j0 k (!t175) l0_0 a0_1 a0_2 a1_0 a1_1 a1_2 l1_3)) else (spec_EntryOk.j0 k true l0_0 a0_1 a0_2 a1_0 a1_1 a1_2 l1_3))) else (spec_EntryOk.j0 k true l0_0 a0_1 a0_2 a1_0 a1_1 a1_2 l1_3))) else (spec_EntryOk.j0 k true l0_0 a0_1 a0_2 a1_0 a1_1 a1_2 l1_3))) else (spec_EntryOk.j0 k true l0_0 a0_1 a0_2 a1_0 a1_1 a1_2 l1_3))) = some r := h; clear h; have HC3 := Aside0.mk H; clear H; go_enter Try.func110, Try.ntmps110
 go_upto_region 1 with (first | ((with_reducible refine gate_dst (N := 2) rfl ?_); (try (refine gate_guard (by rfl) ?_; dsimp only)); refine box_event tZR (N := 2) tZR (cs := #[.slice A0_0 l0_0.length c0_0, .int .i64 a0_1, .int .i64 a0_2]) (t := 81) tZS ?_; intro gb169 hg w4 hbox hb; have BK169 := aZ (hbox); have GW169 := aZ ((by rw [hg]; exact (below_size (lZB HB.out)) : w.heap.size ≤ gb169)); have GE169 := GW169; replace HB := aZ (below_step (lZB HB.out) hb); clear hb hbox hg) | ((with_reducible refine gate_dst (N := 3) rfl ?_); (try (refine gate_guard (by rfl) ?_; dsimp only)); refine box_event tZR (N := 3) tZR (cs := #[.int .i64 a1_0, .int .i64 a1_1, .string a1_2, .slice A1_3 l1_3.length c1_3]) (t := 103) tZS ?_; intro gb170 hg w5 hbox hb; have BK170 := aZ (hbox); have GW170 := aZ ((by rw [hg]; exact (below_size bZ) : w.heap.size ≤ gb170)); have GE170 := GW170; replace HB := aZ (below_step bZ hb); have NB169_170 := aZ ((nLt hg (bkZ BK169.out) : gb169 ≠ gb170)); have NB170_169 := aZ ((nGt hg (bkZ BK169.out) : gb170 ≠ gb169)); replace BK169 := aZ (blk_below (bkZ BK169.out) hb); clear hb hbox hg))
 (try simp only [Act.put, sZ1, sZ2, sZ3])
 go_cut [37] (fun v37 wc => ∃ (kq : Nat) (x37_2 : Bool), v37 = .bool x37_2 ∧ Aside0 (spec_EntryOk.j0 kq x37_2 l0_0 a0_1 a0_2 a1_0 a1_1 a1_2 l1_3 = some r) ∧ Aside0 (kq ≤ k) ∧ Aside0 (wc.heap[gb169]? = some (.cells #[(.slice A0_0 l0_0.length c0_0), .int .i64 a0_1, .int .i64 a0_2] 81 (0, 0))) ∧ Aside0 (wc.heap[gb170]? = some (.cells #[.int .i64 a1_0, .int .i64 a1_1, .string a1_2, (.slice A1_3 l1_3.length c1_3)] 103 (0, 0))) ∧ Aside0 (Below w.heap.size w wc))
 case first =>
  have H := HC3.out; clear HC3; replace H := Option.bind_eq_some_iff.mp H; obtain ⟨t171, A60, H⟩ := H; replace H : (if t171 = true then ((spec_l2Day.f a1_0).bind fun t172 => (if t172 = true then ((spec_l1In.f a1_1 0 1000).bind fun t173 => (if t173 = true then ((spec_l5TextOk.f k a1_2).bind fun t174 => (if t174 = true then ((spec_l1In.f (l1_3.length : Int) 2 60).bind fun t175 => (spec_EntryOk.j0 k (!t175) l0_0 a0_1 a0_2 a1_0 a1_1 a1_2 l1_3)) else (spec_EntryOk.j0 k true l0_0 a0_1 a0_2 a1_0 a1_1 a1_2 l1_3))) else (spec_EntryOk.j0 k true l0_0 a0_1 a0_2 a1_0 a1_1 a1_2 l1_3))) else (spec_EntryOk.j0 k true l0_0 a0_1 a0_2 a1_0 a1_1 a1_2 l1_3))) else (spec_EntryOk.j0 k true l0_0 a0_1 a0_2 a1_0 a1_1 a1_2 l1_3)) = some r := H; have A6 := Aside0.mk A60; clear A60
  by_cases c7 : t171 = true
  rotate_left
  ·replace c7 := Bool.eq_false_iff.mpr c7; subst c7; rw [if_neg Bool.false_ne_true] at H; have H' := Aside0.mk H; clear H; have hnb31 := NB169_170.out; have hnc31 := NB170_169.out; obtain ⟨hcz32_0, hcz32_1, hcz32_2, hfz32_0, hfz32_1, hfz32_2⟩ := bc3 BK169.out
   go_wp2_with (first | ((with_reducible refine gate_callee (f := 108) rfl ?_); refine goesL_ (some 11) rfl rfl Try.func108 kZ rfl #[.agg #[.slice A0_0 l0_0.length c0_0, .int .i64 a0_1, .int .i64 a0_2]] rfl tZA ?_; (with_reducible refine (spec_FrameOk.calls k _ _ l0_0 a0_1 a0_2 false _ ?side1 ?side2 A6.out).mono ?_); (case side1 => repeat (first | exact (Kd.C_below HR0_0.out HB.out) | (with_reducible refine Kd.C_alloc ?_ _) | (with_reducible refine Kd.C_drewN ?_ _) | (with_reducible refine Kd.C_drew ?_))); (case side2 => exact HC0_0.out); rintro e w33 ⟨rfl, hb⟩; refine ⟨_, rfl, ?_⟩; replace BK169 := aZ (blk_below (bkZ BK169.out) hb); replace BK170 := aZ (blk_below (bkZ BK170.out) hb); replace HB := aZ (below_step bZ hb); (try clear hb); (try clear hb2); (try clear hk); (try clear hi)))
   go_meet
   case rel => exact ⟨_, (true), tZB, H', ⟨by first | omega | exact Nat.le_refl _⟩, ⟨bkZ BK169.out⟩, ⟨bkZ BK170.out⟩, ⟨bZ⟩⟩
  subst c7; rw [if_pos rfl] at H; replace H := Option.bind_eq_some_iff.mp H; obtain ⟨t172, A80, H⟩ := H; replace H : (if t172 = true then ((spec_l1In.f a1_1 0 1000).bind fun t173 => (if t173 = true then ((spec_l5TextOk.f k a1_2).bind fun t174 => (if t174 = true then ((spec_l1In.f (l1_3.length : Int) 2 60).bind fun t175 => (spec_EntryOk.j0 k (!t175) l0_0 a0_1 a0_2 a1_0 a1_1 a1_2 l1_3)) else (spec_EntryOk.j0 k true l0_0 a0_1 a0_2 a1_0 a1_1 a1_2 l1_3))) else (spec_EntryOk.j0 k true l0_0 a0_1 a0_2 a1_0 a1_1 a1_2 l1_3))) else (spec_EntryOk.j0 k true l0_0 a0_1 a0_2 a1_0 a1_1 a1_2 l1_3)) = some r := H; have A8 := Aside0.mk A80; clear A80
  by_cases c9 : t172 = true
  rotate_left
  ·replace c9 := Bool.eq_false_iff.mpr c9; subst c9; rw [if_neg Bool.false_ne_true] at H; have H' := Aside0.mk H; clear H; have hnb27 := NB169_170.out; have hnc27 := NB170_169.out; obtain ⟨hcz28_0, hcz28_1, hcz28_2, hfz28_0, hfz28_1, hfz28_2⟩ := bc3 BK169.out
   go_wp2_with (first | ((with_reducible refine gate_callee (f := 108) rfl ?_); refine goesL_ (some 11) rfl rfl Try.func108 kZ rfl #[.agg #[.slice A0_0 l0_0.length c0_0, .int .i64 a0_1, .int .i64 a0_2]] rfl tZA ?_; (with_reducible refine (spec_FrameOk.calls k _ _ l0_0 a0_1 a0_2 true _ ?side1 ?side2 A6.out).mono ?_); (case side1 => repeat (first | exact (Kd.C_below HR0_0.out HB.out) | (with_reducible refine Kd.C_alloc ?_ _) | (with_reducible refine Kd.C_drewN ?_ _) | (with_reducible refine Kd.C_drew ?_))); (case side2 => exact HC0_0.out); rintro e w29 ⟨rfl, hb⟩; refine ⟨_, rfl, ?_⟩; replace BK169 := aZ (blk_below (bkZ BK169.out) hb); replace BK170 := aZ (blk_below (bkZ BK170.out) hb); replace HB := aZ (below_step bZ hb); (try clear hb); (try clear hb2); (try clear hk); (try clear hi); obtain ⟨hcz30_0, hcz30_1, hcz30_2, hcz30_3, hfz30_0, hfz30_1, hfz30_2, hfz30_3⟩ := bc4 BK170.out) | (go_at_call 81; (with_reducible refine (spec_l2Day.calls a1_0 false _ A8.out).mono ?_); rintro e w' ⟨rfl, ⟨nd, rfl⟩⟩))
   go_meet
   case rel => exact ⟨_, (true), tZB, H', ⟨by first | omega | exact Nat.le_refl _⟩, ⟨bkZ BK169.out⟩, ⟨bkZ BK170.out⟩, ⟨bZ⟩⟩
  subst c9; rw [if_pos rfl] at H; replace H := Option.bind_eq_some_iff.mp H; obtain ⟨t173, A100, H⟩ := H; replace H : (if t173 = true then ((spec_l5TextOk.f k a1_2).bind fun t174 => (if t174 = true then ((spec_l1In.f (l1_3.length : Int) 2 60).bind fun t175 => (spec_EntryOk.j0 k (!t175) l0_0 a0_1 a0_2 a1_0 a1_1 a1_2 l1_3)) else (spec_EntryOk.j0 k true l0_0 a0_1 a0_2 a1_0 a1_1 a1_2 l1_3))) else (spec_EntryOk.j0 k true l0_0 a0_1 a0_2 a1_0 a1_1 a1_2 l1_3)) = some r := H; have A10 := Aside0.mk A100; clear A100
  by_cases c11 : t173 = true
  rotate_left
  ·replace c11 := Bool.eq_false_iff.mpr c11; subst c11; rw [if_neg Bool.false_ne_true] at H; have H' := Aside0.mk H; clear H; have hnb23 := NB169_170.out; have hnc23 := NB170_169.out; obtain ⟨hcz24_0, hcz24_1, hcz24_2, hfz24_0, hfz24_1, hfz24_2⟩ := bc3 BK169.out
   go_wp2_with (first | ((with_reducible refine gate_callee (f := 108) rfl ?_); refine goesL_ (some 11) rfl rfl Try.func108 kZ rfl #[.agg #[.slice A0_0 l0_0.length c0_0, .int .i64 a0_1, .int .i64 a0_2]] rfl tZA ?_; (with_reducible refine (spec_FrameOk.calls k _ _ l0_0 a0_1 a0_2 true _ ?side1 ?side2 A6.out).mono ?_); (case side1 => repeat (first | exact (Kd.C_below HR0_0.out HB.out) | (with_reducible refine Kd.C_alloc ?_ _) | (with_reducible refine Kd.C_drewN ?_ _) | (with_reducible refine Kd.C_drew ?_))); (case side2 => exact HC0_0.out); rintro e w25 ⟨rfl, hb⟩; refine ⟨_, rfl, ?_⟩; replace BK169 := aZ (blk_below (bkZ BK169.out) hb); replace BK170 := aZ (blk_below (bkZ BK170.out) hb); replace HB := aZ (below_step bZ hb); (try clear hb); (try clear hb2); (try clear hk); (try clear hi); obtain ⟨hcz26_0, hcz26_1, hcz26_2, hcz26_3, hfz26_0, hfz26_1, hfz26_2, hfz26_3⟩ := bc4 BK170.out) | (go_at_call 81; (with_reducible refine (spec_l2Day.calls a1_0 true _ A8.out).mono ?_); rintro e w' ⟨rfl, ⟨nd, rfl⟩⟩) | (go_at_call 67; (with_reducible refine (spec_l1In.calls a1_1 0 1000 false _ A10.out).mono ?_); rintro e w' ⟨rfl, ⟨nd, rfl⟩⟩))
   go_meet
   case rel => exact ⟨_, (true), tZB, H', ⟨by first | omega | exact Nat.le_refl _⟩, ⟨bkZ BK169.out⟩, ⟨bkZ BK170.out⟩, ⟨bZ⟩⟩
  subst c11; rw [if_pos rfl] at H; replace H := Option.bind_eq_some_iff.mp H; obtain ⟨t174, A120, H⟩ := H; replace H : (if t174 = true then ((spec_l1In.f (l1_3.length : Int) 2 60).bind fun t175 => (spec_EntryOk.j0 k (!t175) l0_0 a0_1 a0_2 a1_0 a1_1 a1_2 l1_3)) else (spec_EntryOk.j0 k true l0_0 a0_1 a0_2 a1_0 a1_1 a1_2 l1_3)) = some r := H; have A12 := Aside0.mk A120; clear A120
  by_cases c13 : t174 = true
  rotate_left
  ·replace c13 := Bool.eq_false_iff.mpr c13; subst c13; rw [if_neg Bool.false_ne_true] at H; have H' := Aside0.mk H; clear H; have hnb19 := NB169_170.out; have hnc19 := NB170_169.out; obtain ⟨hcz20_0, hcz20_1, hcz20_2, hfz20_0, hfz20_1, hfz20_2⟩ := bc3 BK169.out
   go_wp2_with (first | ((with_reducible refine gate_callee (f := 108) rfl ?_); refine goesL_ (some 11) rfl rfl Try.func108 kZ rfl #[.agg #[.slice A0_0 l0_0.length c0_0, .int .i64 a0_1, .int .i64 a0_2]] rfl tZA ?_; (with_reducible refine (spec_FrameOk.calls k _ _ l0_0 a0_1 a0_2 true _ ?side1 ?side2 A6.out).mono ?_); (case side1 => repeat (first | exact (Kd.C_below HR0_0.out HB.out) | (with_reducible refine Kd.C_alloc ?_ _) | (with_reducible refine Kd.C_drewN ?_ _) | (with_reducible refine Kd.C_drew ?_))); (case side2 => exact HC0_0.out); rintro e w21 ⟨rfl, hb⟩; refine ⟨_, rfl, ?_⟩; replace BK169 := aZ (blk_below (bkZ BK169.out) hb); replace BK170 := aZ (blk_below (bkZ BK170.out) hb); replace HB := aZ (below_step bZ hb); (try clear hb); (try clear hb2); (try clear hk); (try clear hi); obtain ⟨hcz22_0, hcz22_1, hcz22_2, hcz22_3, hfz22_0, hfz22_1, hfz22_2, hfz22_3⟩ := bc4 BK170.out) | (go_at_call 81; (with_reducible refine (spec_l2Day.calls a1_0 true _ A8.out).mono ?_); rintro e w' ⟨rfl, ⟨nd, rfl⟩⟩) | (go_at_call 67; (with_reducible refine (spec_l1In.calls a1_1 0 1000 true _ A10.out).mono ?_); rintro e w' ⟨rfl, ⟨nd, rfl⟩⟩) | (go_at_call 164; (with_reducible refine (spec_l5TextOk.calls k a1_2 false _ A12.out).mono ?_); rintro e w' ⟨rfl, ⟨nd, rfl⟩⟩))
   go_meet
   case rel => exact ⟨_, (true), tZB, H', ⟨by first | omega | exact Nat.le_refl _⟩, ⟨bkZ BK169.out⟩, ⟨bkZ BK170.out⟩, ⟨bZ⟩⟩
  subst c13; rw [if_pos rfl] at H; replace H := Option.bind_eq_some_iff.mp H; obtain ⟨t175, A140, H⟩ := H; replace H : (spec_EntryOk.j0 k (!t175) l0_0 a0_1 a0_2 a1_0 a1_1 a1_2 l1_3) = some r := H; have A14 := Aside0.mk A140; clear A140; have H' := Aside0.mk H; clear H; have hnb15 := NB169_170.out; have hnc15 := NB170_169.out; obtain ⟨hcz16_0, hcz16_1, hcz16_2, hfz16_0, hfz16_1, hfz16_2⟩ := bc3 BK169.out
  go_wp2_with (first | ((with_reducible refine gate_callee (f := 108) rfl ?_); refine goesL_ (some 11) rfl rfl Try.func108 kZ rfl #[.agg #[.slice A0_0 l0_0.length c0_0, .int .i64 a0_1, .int .i64 a0_2]] rfl tZA ?_; (with_reducible refine (spec_FrameOk.calls k _ _ l0_0 a0_1 a0_2 true _ ?side1 ?side2 A6.out).mono ?_); (case side1 => repeat (first | exact (Kd.C_below HR0_0.out HB.out) | (with_reducible refine Kd.C_alloc ?_ _) | (with_reducible refine Kd.C_drewN ?_ _) | (with_reducible refine Kd.C_drew ?_))); (case side2 => exact HC0_0.out); rintro e w17 ⟨rfl, hb⟩; refine ⟨_, rfl, ?_⟩; replace BK169 := aZ (blk_below (bkZ BK169.out) hb); replace BK170 := aZ (blk_below (bkZ BK170.out) hb); replace HB := aZ (below_step bZ hb); (try clear hb); (try clear hb2); (try clear hk); (try clear hi); obtain ⟨hcz18_0, hcz18_1, hcz18_2, hcz18_3, hfz18_0, hfz18_1, hfz18_2, hfz18_3⟩ := bc4 BK170.out) | (go_at_call 81; (with_reducible refine (spec_l2Day.calls a1_0 true _ A8.out).mono ?_); rintro e w' ⟨rfl, ⟨nd, rfl⟩⟩) | (go_at_call 67; (with_reducible refine (spec_l1In.calls a1_1 0 1000 true _ A10.out).mono ?_); rintro e w' ⟨rfl, ⟨nd, rfl⟩⟩) | (go_at_call 164; (with_reducible refine (spec_l5TextOk.calls k a1_2 true _ A12.out).mono ?_); rintro e w' ⟨rfl, ⟨nd, rfl⟩⟩) | (go_at_call 67; (with_reducible refine (spec_l1In.calls (l1_3.length : Int) 2 60 t175 _ A14.out).mono ?_); rintro e w' ⟨rfl, ⟨nd, rfl⟩⟩))
  go_meet
  case rel => exact ⟨_, (!t175), tZB, H', ⟨by first | omega | exact Nat.le_refl _⟩, ⟨bkZ BK169.out⟩, ⟨bkZ BK170.out⟩, ⟨bZ⟩⟩
 case rest =>
  clear HC3; obtain ⟨kq, x37_2, rfl, HA, HJ2, BK169, BK170, HB⟩ := hcut
  cases kq with
  | zero => exact absurd HA.out (by simp [spec_EntryOk.j0])
  | succ kj2 =>
   have H := HA.out; clear HA; simp only [spec_EntryOk.j0] at H
   by_cases c34 : x37_2 = true
   ·subst c34; rw [if_pos rfl] at H; obtain rfl := Option.some.inj H; go_wp2; go_ret; exact ⟨tZC, bZ⟩
   replace c34 := Bool.eq_false_iff.mpr c34; subst c34; rw [if_neg Bool.false_ne_true] at H; have H' := Aside0.mk H; clear H; go_wp2
   go_loopg [5] kj2 (fun kq v5 w' => ∃ (x5_2 : Int), v5 = .int .i64 x5_2 ∧ Aside0 (spec_EntryOk.l0 kq x5_2 l0_0 a0_1 a0_2 a1_0 a1_1 a1_2 l1_3 = some r) ∧ Aside0 (kq ≤ kj2) ∧ Aside0 (w'.heap[gb169]? = some (.cells #[(.slice A0_0 l0_0.length c0_0), .int .i64 a0_1, .int .i64 a0_2] 81 (0, 0))) ∧ Aside0 (w'.heap[gb170]? = some (.cells #[.int .i64 a1_0, .int .i64 a1_1, .string a1_2, (.slice A1_3 l1_3.length c1_3)] 103 (0, 0))) ∧ Aside0 (Below w.heap.size w w'))
   case atStart => exact ⟨(0), tZB, H', ⟨Nat.le_refl _⟩, ⟨bkZ BK169.out⟩, ⟨bkZ BK170.out⟩, ⟨bZ⟩⟩
   case round =>
    clear H'; (try clear c34); obtain ⟨x5_2, rfl, HA, HK2, BK169, BK170, HB⟩ := hrel
    cases gk with
    | zero => exact absurd HA.out (by simp [spec_EntryOk.l0])
    | succ k2 =>
     have H := HA.out; clear HA; simp only [spec_EntryOk.l0] at H
     by_cases c35 : x5_2 < (l1_3.length : Int)
     ·rw [if_pos c35] at H; have c35b0 := decide_eq_true c35; clear c35
      by_cases c36 : 0 ≤ x5_2
      rotate_left
      ·rw [if_neg c36] at H; exact absurd H (by simp)
      rw [if_pos c36] at H; have c36b0 := decide_eq_true c36; clear c36; replace H := Option.bind_eq_some_iff.mp H; obtain ⟨t177, A370, H⟩ := H; replace H : (if t177 = true then (spec_EntryOk.l0 k2 (wrap64 (x5_2 + 1)) l0_0 a0_1 a0_2 a1_0 a1_1 a1_2 l1_3) else (some false)) = some r := H; have A37 := Aside0.mk A370; clear A370
      by_cases c38 : t177 = true
      rotate_left
      ·replace c38 := Bool.eq_false_iff.mpr c38; subst c38; rw [if_neg Bool.false_ne_true] at H; obtain rfl := Option.some.inj H; have hnb43 := NB170_169.out; have hnc43 := NB169_170.out; obtain ⟨hcz44_0, hcz44_1, hcz44_2, hcz44_3, hfz44_0, hfz44_1, hfz44_2, hfz44_3⟩ := bc4 BK170.out
       try go_wp2
       replace BK169 := aZ (blk_drew BK169.out); replace BK170 := aZ (blk_drew BK170.out); replace HB := aZ (below_drew1 HB.out); have p176 : 0 ≤ (x5_2 : Int) := of_decide_eq_true tZE; have q176 : x5_2 < (l1_3.length : Int) := of_decide_eq_true tZE; obtain ⟨ad176, e176, hx176_0, hx176_1, hx176_2, hx176_3, hx176_4⟩ := at_T107 HR1_3.out x5_2 p176 q176; have hw176_4 := hx176_4; have hw176_3 := hx176_3; have hw176_2 := hx176_2; have hw176_1 := hx176_1; have hw176_0 := hx176_0
       cases e176
       replace hx176_0 := cZ HB hx176_0; replace hx176_1 := cZ HB hx176_1; replace hx176_2 := cZ HB hx176_2; replace hx176_3 := cZ HB hx176_3; replace hx176_4 := cZ HB hx176_4; replace p176 := eq_true p176; replace q176 := eq_true q176
       refine start_ (n := 8) (S := fun w' => w'.cell? ⟨gb169, 0, none⟩ = some (.slice A0_0 l0_0.length c0_0) ∧ w'.cell? ⟨gb169, 1, none⟩ = some (.int .i64 a0_1) ∧ w'.cell? ⟨gb169, 2, none⟩ = some (.int .i64 a0_2) ∧ w'.cell? ⟨gb170, 0, none⟩ = some (.int .i64 a1_0) ∧ w'.cell? ⟨gb170, 1, none⟩ = some (.int .i64 a1_1) ∧ w'.cell? ⟨gb170, 2, none⟩ = some (.string a1_2) ∧ w'.cell? ⟨gb170, 3, none⟩ = some (.slice (some ad176) l1_3.length c1_3) ∧ w'.cell? (ad176.add ((x5_2).toNat * 5)) = some (.int .i64 ((rd_T107 l1_3 x5_2).f0)) ∧ w'.cell? ⟨(ad176.add ((x5_2).toNat * 5)).block, (ad176.add ((x5_2).toNat * 5)).off + 1, none⟩ = some (.int .i64 ((rd_T107 l1_3 x5_2).f1)) ∧ w'.cell? ⟨(ad176.add ((x5_2).toNat * 5)).block, (ad176.add ((x5_2).toNat * 5)).off + 2, none⟩ = some (.int .i64 ((rd_T107 l1_3 x5_2).f2)) ∧ w'.cell? ⟨(ad176.add ((x5_2).toNat * 5)).block, (ad176.add ((x5_2).toNat * 5)).off + 3, none⟩ = some (.int .i64 ((rd_T107 l1_3 x5_2).f3)) ∧ w'.cell? ⟨(ad176.add ((x5_2).toNat * 5)).block, (ad176.add ((x5_2).toNat * 5)).off + 4, none⟩ = some (.int .i64 ((rd_T107 l1_3 x5_2).f4))) (ds := []) L0' kZ rfl rfl ⟨(blk_cell BK169.out 0).trans rfl, (blk_cell BK169.out 1).trans rfl, (blk_cell BK169.out 2).trans rfl, (blk_cell BK170.out 0).trans rfl, (blk_cell BK170.out 1).trans rfl, (blk_cell BK170.out 2).trans rfl, (blk_cell BK170.out 3).trans rfl, ((HB.out.cell (World.block_lt_of_cell? w _ hw176_0)).trans hw176_0), ((HB.out.cell (World.block_lt_of_cell? w _ hw176_1)).trans hw176_1), ((HB.out.cell (World.block_lt_of_cell? w _ hw176_2)).trans hw176_2), ((HB.out.cell (World.block_lt_of_cell? w _ hw176_3)).trans hw176_3), ((HB.out.cell (World.block_lt_of_cell? w _ hw176_4)).trans hw176_4)⟩ (fun hHeld => ?_); refine with_tabW spec_EntryOk.tab6 spec_EntryOk.bits6 (fun HT_ HW_ => ?_)
       generalize wr.drew = w45 at BK169 BK170 HB hx176_0 hx176_1 hx176_2 hx176_3 hx176_4 hHeld ⊢; refine pure_ (i := 1) (N := some 46) (v := ?_) (a' := ?_) L1' rfl rfl (any_of HT_.out kZ) (fun _ _ _ h => h) (Or.inl ⟨by rfl, ?_⟩) ?_ ?_; rotate_left
       ·intro w'; go_simp; with_reducible rfl
       rotate_left
       ·simp only [Act.put, sZ1, sZ2, sZ3, i64_w, i32_w]; rfl
       refine pure_ (i := 3) (N := some 48) (v := ?_) (a' := ?_) L2' rfl rfl (any_of HT_.out kZ) (fun _ _ _ h => h) (Or.inl ⟨by rfl, ?_⟩) ?_ ?_; rotate_left
       ·intro w'; go_simp; with_reducible rfl
       rotate_left
       ·simp only [Act.put, sZ1, sZ2, sZ3, i64_w, i32_w]; rfl
       refine take_ (i := 0) (N := some 45) (v := ?_) (a' := ?_) L3' rfl rfl (take_ofW HT_.out HW_.out kZ) (fun _ _ _ h => h) (Or.inl ⟨by rfl, ?_⟩) hHeld ?_ ?_; rotate_left
       ·rintro w' ⟨s0, s1, s2, s3, s4, s5, s6, s7, s8, s9, s10, s11⟩
        go_simp; with_reducible rfl
       rotate_left
       ·simp only [Act.put, sZ1, sZ2, sZ3, i64_w, i32_w]; rfl
       refine take_ (i := 2) (N := some 47) (v := ?_) (a' := ?_) L4' rfl rfl (take_ofW HT_.out HW_.out kZ) (fun _ _ _ h => h) (Or.inl ⟨by rfl, ?_⟩) hHeld ?_ ?_; rotate_left
       ·rintro w' ⟨s0, s1, s2, s3, s4, s5, s6, s7, s8, s9, s10, s11⟩
        go_simp; with_reducible rfl
       rotate_left
       ·simp only [Act.put, sZ1, sZ2, sZ3, i64_w, i32_w]; rfl
       refine pure_ (i := 4) (N := some 49) (v := ?_) (a' := ?_) L5' rfl rfl (any_of HT_.out kZ) (fun _ _ _ h => h) (Or.inl ⟨by rfl, ?_⟩) ?_ ?_; rotate_left
       ·intro w'; go_simp; with_reducible rfl
       rotate_left
       ·simp only [Act.put, sZ1, sZ2, sZ3, i64_w, i32_w]; rfl
       refine take_ (i := 5) (N := some 50) (v := ?_) (a' := ?_) L6' rfl rfl (take_ofW HT_.out HW_.out kZ) (fun _ _ _ h => h) (Or.inl ⟨by rfl, ?_⟩) hHeld ?_ ?_; rotate_left
       ·rintro w' ⟨s0, s1, s2, s3, s4, s5, s6, s7, s8, s9, s10, s11⟩
        go_simp; with_reducible rfl
       rotate_left
       ·simp only [Act.put, sZ1, sZ2, sZ3, i64_w, i32_w]; rfl
       refine one_ (i := 6) (N := some 51) L7' rfl rfl (one_of HT_.out kZ) (by decide) (fun K hK => ?_); refine goes_ Try.func165 kZ rfl #[.agg #[.slice A0_0 l0_0.length c0_0, .int .i64 a0_1, .int .i64 a0_2], .agg #[.int .i64 ((rd_T107 l1_3 x5_2).f0), .int .i64 ((rd_T107 l1_3 x5_2).f1), .int .i64 ((rd_T107 l1_3 x5_2).f2), .int .i64 ((rd_T107 l1_3 x5_2).f3), .int .i64 ((rd_T107 l1_3 x5_2).f4)]] (by rfl) rfl rfl tZA ?_
       with_reducible refine (spec_l5LineOk.calls k2 _ _ l0_0 a0_1 a0_2 ((rd_T107 l1_3 x5_2).f0) ((rd_T107 l1_3 x5_2).f1) ((rd_T107 l1_3 x5_2).f2) ((rd_T107 l1_3 x5_2).f3) ((rd_T107 l1_3 x5_2).f4) false _ ?side1 ?side2 A37.out).mono ?_
       (case side1 => repeat (first | exact (Kd.C_below HR0_0.out HB.out) | (with_reducible refine Kd.C_alloc ?_ _) | (with_reducible refine Kd.C_drewN ?_ _) | (with_reducible refine Kd.C_drew ?_)))
       (case side2 => exact HC0_0.out)
       rintro e w46 ⟨rfl, hb⟩
       refine ⟨_, rfl, ?_⟩; replace BK169 := aZ (blk_below (bkZ BK169.out) hb); replace BK170 := aZ (blk_below (bkZ BK170.out) hb); replace HB := aZ (below_step bZ hb); (try clear hb); (try clear hb2); (try clear hk); (try clear hi); refine hK.out _ _ ⟨(blk_cell BK169.out 0).trans rfl, (blk_cell BK169.out 1).trans rfl, (blk_cell BK169.out 2).trans rfl, (blk_cell BK170.out 0).trans rfl, (blk_cell BK170.out 1).trans rfl, (blk_cell BK170.out 2).trans rfl, (blk_cell BK170.out 3).trans rfl, ((HB.out.cell (World.block_lt_of_cell? w _ hw176_0)).trans hw176_0), ((HB.out.cell (World.block_lt_of_cell? w _ hw176_1)).trans hw176_1), ((HB.out.cell (World.block_lt_of_cell? w _ hw176_2)).trans hw176_2), ((HB.out.cell (World.block_lt_of_cell? w _ hw176_3)).trans hw176_3), ((HB.out.cell (World.block_lt_of_cell? w _ hw176_4)).trans hw176_4)⟩ (fun hHeld => ?_); clear hK K; refine norm_ (a' := ?_) ?_ ?_
       rotate_left
       ·show Act.put _ (some 51) _ = _
        simp only [Act.put, sZ1, sZ2, sZ3, i64_w, i32_w]; rfl
       refine pure_ (i := 7) (N := some 52) (v := ?_) (a' := ?_) L8' rfl rfl (any_of HT_.out kZ) (fun _ _ _ h => h) (Or.inl ⟨by rfl, ?_⟩) ?_ ?_; rotate_left
       ·intro w'; go_simp; with_reducible rfl
       rotate_left
       ·simp only [Act.put, sZ1, sZ2, sZ3, i64_w, i32_w]; rfl
       refine done_ (done_of HT_.out kZ) ?_
       try go_wp2
       go_ret; exact ⟨tZC, bZ⟩
      subst c38; rw [if_pos rfl] at H; have H' := Aside0.mk H; clear H; have hnb39 := NB170_169.out; have hnc39 := NB169_170.out; obtain ⟨hcz40_0, hcz40_1, hcz40_2, hcz40_3, hfz40_0, hfz40_1, hfz40_2, hfz40_3⟩ := bc4 BK170.out
      try go_wp2
      replace BK169 := aZ (blk_drew BK169.out); replace BK170 := aZ (blk_drew BK170.out); replace HB := aZ (below_drew1 HB.out); have p176 : 0 ≤ (x5_2 : Int) := of_decide_eq_true tZE; have q176 : x5_2 < (l1_3.length : Int) := of_decide_eq_true tZE; obtain ⟨ad176, e176, hx176_0, hx176_1, hx176_2, hx176_3, hx176_4⟩ := at_T107 HR1_3.out x5_2 p176 q176; have hw176_4 := hx176_4; have hw176_3 := hx176_3; have hw176_2 := hx176_2; have hw176_1 := hx176_1; have hw176_0 := hx176_0
      cases e176
      replace hx176_0 := cZ HB hx176_0; replace hx176_1 := cZ HB hx176_1; replace hx176_2 := cZ HB hx176_2; replace hx176_3 := cZ HB hx176_3; replace hx176_4 := cZ HB hx176_4; replace p176 := eq_true p176; replace q176 := eq_true q176
      refine start_ (n := 8) (S := fun w' => w'.cell? ⟨gb169, 0, none⟩ = some (.slice A0_0 l0_0.length c0_0) ∧ w'.cell? ⟨gb169, 1, none⟩ = some (.int .i64 a0_1) ∧ w'.cell? ⟨gb169, 2, none⟩ = some (.int .i64 a0_2) ∧ w'.cell? ⟨gb170, 0, none⟩ = some (.int .i64 a1_0) ∧ w'.cell? ⟨gb170, 1, none⟩ = some (.int .i64 a1_1) ∧ w'.cell? ⟨gb170, 2, none⟩ = some (.string a1_2) ∧ w'.cell? ⟨gb170, 3, none⟩ = some (.slice (some ad176) l1_3.length c1_3) ∧ w'.cell? (ad176.add ((x5_2).toNat * 5)) = some (.int .i64 ((rd_T107 l1_3 x5_2).f0)) ∧ w'.cell? ⟨(ad176.add ((x5_2).toNat * 5)).block, (ad176.add ((x5_2).toNat * 5)).off + 1, none⟩ = some (.int .i64 ((rd_T107 l1_3 x5_2).f1)) ∧ w'.cell? ⟨(ad176.add ((x5_2).toNat * 5)).block, (ad176.add ((x5_2).toNat * 5)).off + 2, none⟩ = some (.int .i64 ((rd_T107 l1_3 x5_2).f2)) ∧ w'.cell? ⟨(ad176.add ((x5_2).toNat * 5)).block, (ad176.add ((x5_2).toNat * 5)).off + 3, none⟩ = some (.int .i64 ((rd_T107 l1_3 x5_2).f3)) ∧ w'.cell? ⟨(ad176.add ((x5_2).toNat * 5)).block, (ad176.add ((x5_2).toNat * 5)).off + 4, none⟩ = some (.int .i64 ((rd_T107 l1_3 x5_2).f4))) (ds := []) L0' kZ rfl rfl ⟨(blk_cell BK169.out 0).trans rfl, (blk_cell BK169.out 1).trans rfl, (blk_cell BK169.out 2).trans rfl, (blk_cell BK170.out 0).trans rfl, (blk_cell BK170.out 1).trans rfl, (blk_cell BK170.out 2).trans rfl, (blk_cell BK170.out 3).trans rfl, ((HB.out.cell (World.block_lt_of_cell? w _ hw176_0)).trans hw176_0), ((HB.out.cell (World.block_lt_of_cell? w _ hw176_1)).trans hw176_1), ((HB.out.cell (World.block_lt_of_cell? w _ hw176_2)).trans hw176_2), ((HB.out.cell (World.block_lt_of_cell? w _ hw176_3)).trans hw176_3), ((HB.out.cell (World.block_lt_of_cell? w _ hw176_4)).trans hw176_4)⟩ (fun hHeld => ?_); refine with_tabW spec_EntryOk.tab6 spec_EntryOk.bits6 (fun HT_ HW_ => ?_)
      generalize wr.drew = w41 at BK169 BK170 HB hx176_0 hx176_1 hx176_2 hx176_3 hx176_4 hHeld ⊢; refine pure_ (i := 1) (N := some 46) (v := ?_) (a' := ?_) L1' rfl rfl (any_of HT_.out kZ) (fun _ _ _ h => h) (Or.inl ⟨by rfl, ?_⟩) ?_ ?_; rotate_left
      ·intro w'; go_simp; with_reducible rfl
      rotate_left
      ·simp only [Act.put, sZ1, sZ2, sZ3, i64_w, i32_w]; rfl
      refine pure_ (i := 3) (N := some 48) (v := ?_) (a' := ?_) L2' rfl rfl (any_of HT_.out kZ) (fun _ _ _ h => h) (Or.inl ⟨by rfl, ?_⟩) ?_ ?_; rotate_left
      ·intro w'; go_simp; with_reducible rfl
      rotate_left
      ·simp only [Act.put, sZ1, sZ2, sZ3, i64_w, i32_w]; rfl
      refine take_ (i := 0) (N := some 45) (v := ?_) (a' := ?_) L3' rfl rfl (take_ofW HT_.out HW_.out kZ) (fun _ _ _ h => h) (Or.inl ⟨by rfl, ?_⟩) hHeld ?_ ?_; rotate_left
      ·rintro w' ⟨s0, s1, s2, s3, s4, s5, s6, s7, s8, s9, s10, s11⟩
       go_simp; with_reducible rfl
      rotate_left
      ·simp only [Act.put, sZ1, sZ2, sZ3, i64_w, i32_w]; rfl
      refine take_ (i := 2) (N := some 47) (v := ?_) (a' := ?_) L4' rfl rfl (take_ofW HT_.out HW_.out kZ) (fun _ _ _ h => h) (Or.inl ⟨by rfl, ?_⟩) hHeld ?_ ?_; rotate_left
      ·rintro w' ⟨s0, s1, s2, s3, s4, s5, s6, s7, s8, s9, s10, s11⟩
       go_simp; with_reducible rfl
      rotate_left
      ·simp only [Act.put, sZ1, sZ2, sZ3, i64_w, i32_w]; rfl
      refine pure_ (i := 4) (N := some 49) (v := ?_) (a' := ?_) L5' rfl rfl (any_of HT_.out kZ) (fun _ _ _ h => h) (Or.inl ⟨by rfl, ?_⟩) ?_ ?_; rotate_left
      ·intro w'; go_simp; with_reducible rfl
      rotate_left
      ·simp only [Act.put, sZ1, sZ2, sZ3, i64_w, i32_w]; rfl
      refine take_ (i := 5) (N := some 50) (v := ?_) (a' := ?_) L6' rfl rfl (take_ofW HT_.out HW_.out kZ) (fun _ _ _ h => h) (Or.inl ⟨by rfl, ?_⟩) hHeld ?_ ?_; rotate_left
      ·rintro w' ⟨s0, s1, s2, s3, s4, s5, s6, s7, s8, s9, s10, s11⟩
       go_simp; with_reducible rfl
      rotate_left
      ·simp only [Act.put, sZ1, sZ2, sZ3, i64_w, i32_w]; rfl
      refine one_ (i := 6) (N := some 51) L7' rfl rfl (one_of HT_.out kZ) (by decide) (fun K hK => ?_); refine goes_ Try.func165 kZ rfl #[.agg #[.slice A0_0 l0_0.length c0_0, .int .i64 a0_1, .int .i64 a0_2], .agg #[.int .i64 ((rd_T107 l1_3 x5_2).f0), .int .i64 ((rd_T107 l1_3 x5_2).f1), .int .i64 ((rd_T107 l1_3 x5_2).f2), .int .i64 ((rd_T107 l1_3 x5_2).f3), .int .i64 ((rd_T107 l1_3 x5_2).f4)]] (by rfl) rfl rfl tZA ?_
      with_reducible refine (spec_l5LineOk.calls k2 _ _ l0_0 a0_1 a0_2 ((rd_T107 l1_3 x5_2).f0) ((rd_T107 l1_3 x5_2).f1) ((rd_T107 l1_3 x5_2).f2) ((rd_T107 l1_3 x5_2).f3) ((rd_T107 l1_3 x5_2).f4) true _ ?side1 ?side2 A37.out).mono ?_
      (case side1 => repeat (first | exact (Kd.C_below HR0_0.out HB.out) | (with_reducible refine Kd.C_alloc ?_ _) | (with_reducible refine Kd.C_drewN ?_ _) | (with_reducible refine Kd.C_drew ?_)))
      (case side2 => exact HC0_0.out)
      rintro e w42 ⟨rfl, hb⟩
      refine ⟨_, rfl, ?_⟩; replace BK169 := aZ (blk_below (bkZ BK169.out) hb); replace BK170 := aZ (blk_below (bkZ BK170.out) hb); replace HB := aZ (below_step bZ hb); (try clear hb); (try clear hb2); (try clear hk); (try clear hi); refine hK.out _ _ ⟨(blk_cell BK169.out 0).trans rfl, (blk_cell BK169.out 1).trans rfl, (blk_cell BK169.out 2).trans rfl, (blk_cell BK170.out 0).trans rfl, (blk_cell BK170.out 1).trans rfl, (blk_cell BK170.out 2).trans rfl, (blk_cell BK170.out 3).trans rfl, ((HB.out.cell (World.block_lt_of_cell? w _ hw176_0)).trans hw176_0), ((HB.out.cell (World.block_lt_of_cell? w _ hw176_1)).trans hw176_1), ((HB.out.cell (World.block_lt_of_cell? w _ hw176_2)).trans hw176_2), ((HB.out.cell (World.block_lt_of_cell? w _ hw176_3)).trans hw176_3), ((HB.out.cell (World.block_lt_of_cell? w _ hw176_4)).trans hw176_4)⟩ (fun hHeld => ?_); clear hK K; refine norm_ (a' := ?_) ?_ ?_
      rotate_left
      ·show Act.put _ (some 51) _ = _
       simp only [Act.put, sZ1, sZ2, sZ3, i64_w, i32_w]; rfl
      refine pure_ (i := 7) (N := some 52) (v := ?_) (a' := ?_) L8' rfl rfl (any_of HT_.out kZ) (fun _ _ _ h => h) (Or.inl ⟨by rfl, ?_⟩) ?_ ?_; rotate_left
      ·intro w'; go_simp; with_reducible rfl
      rotate_left
      ·simp only [Act.put, sZ1, sZ2, sZ3, i64_w, i32_w]; rfl
      refine done_ (done_of HT_.out kZ) ?_
      try go_wp2
      go_roundg k2
      case measure => have := HJ2.out; have := HK2.out; omega
      case rel => exact ⟨(wrap64 (x5_2 + 1)), tZB, H', ⟨by have := HJ2.out; have := HK2.out; omega⟩, ⟨bkZ BK169.out⟩, ⟨bkZ BK170.out⟩, ⟨bZ⟩⟩
     rw [if_neg c35] at H; have c35b0 := decide_eq_false c35; clear c35; have H' := Aside0.mk H; clear H; have hnb47 := NB170_169.out; have hnc47 := NB169_170.out; obtain ⟨hcz48_0, hcz48_1, hcz48_2, hcz48_3, hfz48_0, hfz48_1, hfz48_2, hfz48_3⟩ := bc4 BK170.out; go_wp2
     go_loopg [6] k2 (fun kq v6 w' => ∃ (x6_3 : Int), v6 = .int .i64 x6_3 ∧ Aside0 (spec_EntryOk.l1 kq x6_3 a1_0 a1_1 a1_2 l1_3 = some r) ∧ Aside0 (kq ≤ k2) ∧ Aside0 (w'.heap[gb169]? = some (.cells #[(.slice A0_0 l0_0.length c0_0), .int .i64 a0_1, .int .i64 a0_2] 81 (0, 0))) ∧ Aside0 (w'.heap[gb170]? = some (.cells #[.int .i64 a1_0, .int .i64 a1_1, .string a1_2, (.slice A1_3 l1_3.length c1_3)] 103 (0, 0))) ∧ Aside0 (Below w.heap.size w w'))
     case atStart => exact ⟨(0), tZB, H', ⟨Nat.le_refl _⟩, ⟨bkZ BK169.out⟩, ⟨bkZ BK170.out⟩, ⟨bZ⟩⟩
     case round =>
      clear H'; (try clear c34 c35 c35b0 hcz48_0 hcz48_1 hcz48_2 hcz48_3 hfz48_0 hfz48_1 hfz48_2 hfz48_3); obtain ⟨x6_3, rfl, HA, HK3, BK169, BK170, HB⟩ := hrel
      cases gk with
      | zero => exact absurd HA.out (by simp [spec_EntryOk.l1])
      | succ k3 =>
       have H := HA.out; clear HA; simp only [spec_EntryOk.l1] at H
       by_cases c49 : x6_3 < (l1_3.length : Int)
       rotate_left
       ·rw [if_neg c49] at H; have c49b0 := decide_eq_false c49; clear c49; obtain rfl := Option.some.inj H; have hnb87 := NB170_169.out; have hnc87 := NB169_170.out; obtain ⟨hcz88_0, hcz88_1, hcz88_2, hcz88_3, hfz88_0, hfz88_1, hfz88_2, hfz88_3⟩ := bc4 BK170.out; go_wp2; go_ret; exact ⟨tZC, bZ⟩
       rw [if_pos c49] at H; have c49b0 := decide_eq_true c49; clear c49; have H' := Aside0.mk H; clear H; have hnb50 := NB170_169.out; have hnc50 := NB169_170.out; obtain ⟨hcz51_0, hcz51_1, hcz51_2, hcz51_3, hfz51_0, hfz51_1, hfz51_2, hfz51_3⟩ := bc4 BK170.out; go_wp2
       go_loopg [7, 8, 9] k3 (fun kq v7 v8 v9 w' => ∃ (x7_4 : Int) (x8_4 : Int) (x9_4 : Int), v7 = .int .i64 x7_4 ∧ v8 = .int .i64 x8_4 ∧ v9 = .int .i64 x9_4 ∧ Aside0 (spec_EntryOk.l2 kq x6_3 x7_4 x8_4 x9_4 a1_0 a1_1 a1_2 l1_3 = some r) ∧ Aside0 (kq ≤ k3) ∧ Aside0 (w'.heap[gb169]? = some (.cells #[(.slice A0_0 l0_0.length c0_0), .int .i64 a0_1, .int .i64 a0_2] 81 (0, 0))) ∧ Aside0 (w'.heap[gb170]? = some (.cells #[.int .i64 a1_0, .int .i64 a1_1, .string a1_2, (.slice A1_3 l1_3.length c1_3)] 103 (0, 0))) ∧ Aside0 (Below w.heap.size w w'))
       case atStart => exact ⟨(0), (0), (0), tZB, tZB, tZB, H', ⟨Nat.le_refl _⟩, ⟨bkZ BK169.out⟩, ⟨bkZ BK170.out⟩, ⟨bZ⟩⟩
       case round =>
        clear H'; (try clear c34 c35 c35b0 c49 c49b0 hcz48_0 hcz48_1 hcz48_2 hcz48_3 hcz51_0 hcz51_1 hcz51_2 hcz51_3 hfz48_0 hfz48_1 hfz48_2 hfz48_3 hfz51_0 hfz51_1 hfz51_2 hfz51_3); obtain ⟨x7_4, x8_4, x9_4, rfl, rfl, rfl, HA, HK4, BK169, BK170, HB⟩ := hrel
        cases gk with
        | zero => exact absurd HA.out (by simp [spec_EntryOk.l2])
        | succ k4 =>
         have H := HA.out; clear HA; simp only [spec_EntryOk.l2] at H
         by_cases c52 : x9_4 < (l1_3.length : Int)
         rotate_left
         ·rw [if_neg c52] at H; have c52b0 := decide_eq_false c52; clear c52
          by_cases c79 : x7_4 = 0
          rotate_left
          ·rw [if_neg c79] at H; have c79b0 : (x7_4 == 0) = false := beq_eq_false_iff_ne.mpr c79; have c79b1 : (x7_4 != 0) = true := bne_iff_ne.mpr c79; obtain rfl := Option.some.inj H; have hnb85 := NB170_169.out; have hnc85 := NB169_170.out; obtain ⟨hcz86_0, hcz86_1, hcz86_2, hcz86_3, hfz86_0, hfz86_1, hfz86_2, hfz86_3⟩ := bc4 BK170.out; go_wp2; go_ret; exact ⟨tZC, bZ⟩
          rw [if_pos c79] at H; have c79b0 : (x7_4 == 0) = true := beq_iff_eq.mpr c79; have c79b1 : (x7_4 != 0) = false := bne_eq_false_iff_eq.mpr c79; clear c79
          by_cases c80 : x8_4 = 0
          rotate_left
          ·rw [if_neg c80] at H; have c80b0 : (x8_4 == 0) = false := beq_eq_false_iff_ne.mpr c80; have c80b1 : (x8_4 != 0) = true := bne_iff_ne.mpr c80; obtain rfl := Option.some.inj H; have hnb83 := NB170_169.out; have hnc83 := NB169_170.out; obtain ⟨hcz84_0, hcz84_1, hcz84_2, hcz84_3, hfz84_0, hfz84_1, hfz84_2, hfz84_3⟩ := bc4 BK170.out; go_wp2; go_ret; exact ⟨tZC, bZ⟩
          rw [if_pos c80] at H; have c80b0 : (x8_4 == 0) = true := beq_iff_eq.mpr c80; have c80b1 : (x8_4 != 0) = false := bne_eq_false_iff_eq.mpr c80; clear c80; have H' := Aside0.mk H; clear H; have hnb81 := NB170_169.out; have hnc81 := NB169_170.out; obtain ⟨hcz82_0, hcz82_1, hcz82_2, hcz82_3, hfz82_0, hfz82_1, hfz82_2, hfz82_3⟩ := bc4 BK170.out; go_wp2
          go_roundg k4
          case measure => have := HJ2.out; have := HK2.out; have := HK3.out; have := HK4.out; omega
          case rel => exact ⟨(wrap64 (x6_3 + 1)), tZB, H', ⟨by have := HJ2.out; have := HK2.out; have := HK3.out; have := HK4.out; omega⟩, ⟨bkZ BK169.out⟩, ⟨bkZ BK170.out⟩, ⟨bZ⟩⟩
         rw [if_pos c52] at H; have c52b0 := decide_eq_true c52; clear c52
         by_cases c53 : 0 ≤ x9_4
         rotate_left
         ·rw [if_neg c53] at H; exact absurd H (by simp)
         rw [if_pos c53] at H; have c53b0 := decide_eq_true c53; clear c53
         by_cases c54 : 0 ≤ x6_3
         rotate_left
         ·rw [if_neg c54] at H; exact absurd H (by simp)
         rw [if_pos c54] at H; have c54b0 := decide_eq_true c54; clear c54
         by_cases c55 : x6_3 < (l1_3.length : Int)
         rotate_left
         ·rw [if_neg c55] at H; exact absurd H (by simp)
         rw [if_pos c55] at H; have c55b0 := decide_eq_true c55; clear c55
         by_cases c56 : ((rd_T107 l1_3 x9_4).f2) = ((rd_T107 l1_3 x6_3).f2)
         rotate_left
         ·rw [if_neg c56] at H; have c56b0 : (((rd_T107 l1_3 x9_4).f2) == ((rd_T107 l1_3 x6_3).f2)) = false := beq_eq_false_iff_ne.mpr c56; have c56b1 : (((rd_T107 l1_3 x9_4).f2) != ((rd_T107 l1_3 x6_3).f2)) = true := bne_iff_ne.mpr c56
          by_cases c69 : ((rd_T107 l1_3 x9_4).f1) = ((rd_T107 l1_3 x6_3).f1)
          rotate_left
          ·rw [if_neg c69] at H; have c69b0 : (((rd_T107 l1_3 x9_4).f1) == ((rd_T107 l1_3 x6_3).f1)) = false := beq_eq_false_iff_ne.mpr c69; have c69b1 : (((rd_T107 l1_3 x9_4).f1) != ((rd_T107 l1_3 x6_3).f1)) = true := bne_iff_ne.mpr c69; have H' := Aside0.mk H; clear H; have hnb75 := NB170_169.out; have hnc75 := NB169_170.out; obtain ⟨hcz76_0, hcz76_1, hcz76_2, hcz76_3, hfz76_0, hfz76_1, hfz76_2, hfz76_3⟩ := bc4 BK170.out
           try go_wp2
           replace BK169 := aZ (blk_drew BK169.out); replace BK170 := aZ (blk_drew BK170.out); replace HB := aZ (below_drew1 HB.out); have p178 : 0 ≤ (x9_4 : Int) := of_decide_eq_true tZE; have q178 : x9_4 < (l1_3.length : Int) := of_decide_eq_true tZE; obtain ⟨ad178, e178, hx178_0, hx178_1, hx178_2, hx178_3, hx178_4⟩ := at_T107 HR1_3.out x9_4 p178 q178; have hw178_4 := hx178_4; have hw178_3 := hx178_3; have hw178_2 := hx178_2; have hw178_1 := hx178_1; have hw178_0 := hx178_0
           cases e178
           replace hx178_0 := cZ HB hx178_0; replace hx178_1 := cZ HB hx178_1; replace hx178_2 := cZ HB hx178_2; replace hx178_3 := cZ HB hx178_3; replace hx178_4 := cZ HB hx178_4; replace p178 := eq_true p178; replace q178 := eq_true q178; have p179 : 0 ≤ (x6_3 : Int) := of_decide_eq_true tZE; have q179 : x6_3 < (l1_3.length : Int) := of_decide_eq_true tZE; obtain ⟨ad179, e179, hx179_0, hx179_1, hx179_2, hx179_3, hx179_4⟩ := at_T107 HR1_3.out x6_3 p179 q179; have hw179_4 := hx179_4; have hw179_3 := hx179_3; have hw179_2 := hx179_2; have hw179_1 := hx179_1; have hw179_0 := hx179_0; obtain rfl : ad178 = ad179 := (by injection e179); replace hx179_0 := cZ HB hx179_0; replace hx179_1 := cZ HB hx179_1; replace hx179_2 := cZ HB hx179_2; replace hx179_3 := cZ HB hx179_3; replace hx179_4 := cZ HB hx179_4; replace p179 := eq_true p179; replace q179 := eq_true q179
           refine start_ (n := 13) (S := fun w' => w'.cell? ⟨gb170, 0, none⟩ = some (.int .i64 a1_0) ∧ w'.cell? ⟨gb170, 1, none⟩ = some (.int .i64 a1_1) ∧ w'.cell? ⟨gb170, 2, none⟩ = some (.string a1_2) ∧ w'.cell? ⟨gb170, 3, none⟩ = some (.slice (some ad178) l1_3.length c1_3) ∧ w'.cell? (ad178.add ((x9_4).toNat * 5)) = some (.int .i64 ((rd_T107 l1_3 x9_4).f0)) ∧ w'.cell? ⟨(ad178.add ((x9_4).toNat * 5)).block, (ad178.add ((x9_4).toNat * 5)).off + 1, none⟩ = some (.int .i64 ((rd_T107 l1_3 x9_4).f1)) ∧ w'.cell? ⟨(ad178.add ((x9_4).toNat * 5)).block, (ad178.add ((x9_4).toNat * 5)).off + 2, none⟩ = some (.int .i64 ((rd_T107 l1_3 x9_4).f2)) ∧ w'.cell? ⟨(ad178.add ((x9_4).toNat * 5)).block, (ad178.add ((x9_4).toNat * 5)).off + 3, none⟩ = some (.int .i64 ((rd_T107 l1_3 x9_4).f3)) ∧ w'.cell? ⟨(ad178.add ((x9_4).toNat * 5)).block, (ad178.add ((x9_4).toNat * 5)).off + 4, none⟩ = some (.int .i64 ((rd_T107 l1_3 x9_4).f4)) ∧ w'.cell? (ad178.add ((x6_3).toNat * 5)) = some (.int .i64 ((rd_T107 l1_3 x6_3).f0)) ∧ w'.cell? ⟨(ad178.add ((x6_3).toNat * 5)).block, (ad178.add ((x6_3).toNat * 5)).off + 1, none⟩ = some (.int .i64 ((rd_T107 l1_3 x6_3).f1)) ∧ w'.cell? ⟨(ad178.add ((x6_3).toNat * 5)).block, (ad178.add ((x6_3).toNat * 5)).off + 2, none⟩ = some (.int .i64 ((rd_T107 l1_3 x6_3).f2)) ∧ w'.cell? ⟨(ad178.add ((x6_3).toNat * 5)).block, (ad178.add ((x6_3).toNat * 5)).off + 3, none⟩ = some (.int .i64 ((rd_T107 l1_3 x6_3).f3)) ∧ w'.cell? ⟨(ad178.add ((x6_3).toNat * 5)).block, (ad178.add ((x6_3).toNat * 5)).off + 4, none⟩ = some (.int .i64 ((rd_T107 l1_3 x6_3).f4))) (ds := []) L9' kZ rfl rfl ⟨(blk_cell BK170.out 0).trans rfl, (blk_cell BK170.out 1).trans rfl, (blk_cell BK170.out 2).trans rfl, (blk_cell BK170.out 3).trans rfl, ((HB.out.cell (World.block_lt_of_cell? w _ hw178_0)).trans hw178_0), ((HB.out.cell (World.block_lt_of_cell? w _ hw178_1)).trans hw178_1), ((HB.out.cell (World.block_lt_of_cell? w _ hw178_2)).trans hw178_2), ((HB.out.cell (World.block_lt_of_cell? w _ hw178_3)).trans hw178_3), ((HB.out.cell (World.block_lt_of_cell? w _ hw178_4)).trans hw178_4), ((HB.out.cell (World.block_lt_of_cell? w _ hw179_0)).trans hw179_0), ((HB.out.cell (World.block_lt_of_cell? w _ hw179_1)).trans hw179_1), ((HB.out.cell (World.block_lt_of_cell? w _ hw179_2)).trans hw179_2), ((HB.out.cell (World.block_lt_of_cell? w _ hw179_3)).trans hw179_3), ((HB.out.cell (World.block_lt_of_cell? w _ hw179_4)).trans hw179_4)⟩ (fun hHeld => ?_); refine with_tabW spec_EntryOk.tab16 spec_EntryOk.bits16 (fun HT_ HW_ => ?_)
           generalize wr.drew = w77 at BK169 BK170 HB hx178_0 hx178_1 hx178_2 hx178_3 hx178_4 hx179_0 hx179_1 hx179_2 hx179_3 hx179_4 hHeld ⊢; refine pure_ (i := 0) (N := some 67) (v := ?_) (a' := ?_) L10' rfl rfl (any_of HT_.out kZ) (fun _ _ _ h => h) (Or.inl ⟨by rfl, ?_⟩) ?_ ?_; rotate_left
           ·intro w'; go_simp; with_reducible rfl
           rotate_left
           ·simp only [Act.put, sZ1, sZ2, sZ3, i64_w, i32_w]; rfl
           refine pure_ (i := 2) (N := some 69) (v := ?_) (a' := ?_) L11' rfl rfl (any_of HT_.out kZ) (fun _ _ _ h => h) (Or.inl ⟨by rfl, ?_⟩) ?_ ?_; rotate_left
           ·intro w'; go_simp; with_reducible rfl
           rotate_left
           ·simp only [Act.put, sZ1, sZ2, sZ3, i64_w, i32_w]; rfl
           refine pure_ (i := 6) (N := some 73) (v := ?_) (a' := ?_) L12' rfl rfl (any_of HT_.out kZ) (fun _ _ _ h => h) (Or.inl ⟨by rfl, ?_⟩) ?_ ?_; rotate_left
           ·intro w'; go_simp; with_reducible rfl
           rotate_left
           ·simp only [Act.put, sZ1, sZ2, sZ3, i64_w, i32_w]; rfl
           refine pure_ (i := 8) (N := some 75) (v := ?_) (a' := ?_) L13' rfl rfl (any_of HT_.out kZ) (fun _ _ _ h => h) (Or.inl ⟨by rfl, ?_⟩) ?_ ?_; rotate_left
           ·intro w'; go_simp; with_reducible rfl
           rotate_left
           ·simp only [Act.put, sZ1, sZ2, sZ3, i64_w, i32_w]; rfl
           refine take_ (i := 1) (N := some 68) (v := ?_) (a' := ?_) L14' rfl rfl (take_ofW HT_.out HW_.out kZ) (fun _ _ _ h => h) (Or.inl ⟨by rfl, ?_⟩) hHeld ?_ ?_; rotate_left
           ·rintro w' ⟨s0, s1, s2, s3, s4, s5, s6, s7, s8, s9, s10, s11, s12, s13⟩
            go_simp; with_reducible rfl
           rotate_left
           ·simp only [Act.put, sZ1, sZ2, sZ3, i64_w, i32_w]; rfl
           refine pure_ (i := 3) (N := some 70) (v := ?_) (a' := ?_) L15' rfl rfl (any_of HT_.out kZ) (fun _ _ _ h => h) (Or.inl ⟨by rfl, ?_⟩) ?_ ?_; rotate_left
           ·intro w'; go_simp; with_reducible rfl
           rotate_left
           ·simp only [Act.put, sZ1, sZ2, sZ3, i64_w, i32_w]; rfl
           refine pure_ (i := 4) (N := some 71) (v := ?_) (a' := ?_) L16' rfl rfl (any_of HT_.out kZ) (fun _ _ _ h => h) (Or.inl ⟨by rfl, ?_⟩) ?_ ?_; rotate_left
           ·intro w'; go_simp; with_reducible rfl
           rotate_left
           ·simp only [Act.put, sZ1, sZ2, sZ3, i64_w, i32_w]; rfl
           refine take_ (i := 5) (N := some 72) (v := ?_) (a' := ?_) L17' rfl rfl (take_ofW HT_.out HW_.out kZ) (fun _ _ _ h => h) (Or.inl ⟨by rfl, ?_⟩) hHeld ?_ ?_; rotate_left
           ·rintro w' ⟨s0, s1, s2, s3, s4, s5, s6, s7, s8, s9, s10, s11, s12, s13⟩
            go_simp; with_reducible rfl
           rotate_left
           ·simp only [Act.put, sZ1, sZ2, sZ3, i64_w, i32_w]; rfl
           refine take_ (i := 7) (N := some 74) (v := ?_) (a' := ?_) L18' rfl rfl (take_ofW HT_.out HW_.out kZ) (fun _ _ _ h => h) (Or.inl ⟨by rfl, ?_⟩) hHeld ?_ ?_; rotate_left
           ·rintro w' ⟨s0, s1, s2, s3, s4, s5, s6, s7, s8, s9, s10, s11, s12, s13⟩
            go_simp; with_reducible rfl
           rotate_left
           ·simp only [Act.put, sZ1, sZ2, sZ3, i64_w, i32_w]; rfl
           refine pure_ (i := 9) (N := some 76) (v := ?_) (a' := ?_) L19' rfl rfl (any_of HT_.out kZ) (fun _ _ _ h => h) (Or.inl ⟨by rfl, ?_⟩) ?_ ?_; rotate_left
           ·intro w'; go_simp; with_reducible rfl
           rotate_left
           ·simp only [Act.put, sZ1, sZ2, sZ3, i64_w, i32_w]; rfl
           refine pure_ (i := 10) (N := some 77) (v := ?_) (a' := ?_) L20' rfl rfl (any_of HT_.out kZ) (fun _ _ _ h => h) (Or.inl ⟨by rfl, ?_⟩) ?_ ?_; rotate_left
           ·intro w'; go_simp; with_reducible rfl
           rotate_left
           ·simp only [Act.put, sZ1, sZ2, sZ3, i64_w, i32_w]; rfl
           refine take_ (i := 11) (N := some 78) (v := ?_) (a' := ?_) L21' rfl rfl (take_ofW HT_.out HW_.out kZ) (fun _ _ _ h => h) (Or.inl ⟨by rfl, ?_⟩) hHeld ?_ ?_; rotate_left
           ·rintro w' ⟨s0, s1, s2, s3, s4, s5, s6, s7, s8, s9, s10, s11, s12, s13⟩
            go_simp; with_reducible rfl
           rotate_left
           ·simp only [Act.put, sZ1, sZ2, sZ3, i64_w, i32_w]; rfl
           refine pure_ (i := 12) (N := some 79) (v := ?_) (a' := ?_) L22' rfl rfl (any_of HT_.out kZ) (fun _ _ _ h => h) (Or.inl ⟨by rfl, ?_⟩) ?_ ?_; rotate_left
           ·intro w'; go_simp; with_reducible rfl
           rotate_left
           ·simp only [Act.put, sZ1, sZ2, sZ3, i64_w, i32_w]; rfl
           refine done_ (done_of HT_.out kZ) ?_
           try go_wp2
           replace BK169 := aZ (blk_drew BK169.out); replace BK170 := aZ (blk_drew BK170.out); replace HB := aZ (below_drew1 HB.out); have p184 : 0 ≤ (x9_4 : Int) := of_decide_eq_true tZE; have q184 : x9_4 < (l1_3.length : Int) := of_decide_eq_true tZE; obtain ⟨ad184, e184, hx184_0, hx184_1, hx184_2, hx184_3, hx184_4⟩ := at_T107 HR1_3.out x9_4 p184 q184; have hw184_4 := hx184_4; have hw184_3 := hx184_3; have hw184_2 := hx184_2; have hw184_1 := hx184_1; have hw184_0 := hx184_0; obtain rfl : ad178 = ad184 := (by injection e184); replace hx184_0 := cZ HB hx184_0; replace hx184_1 := cZ HB hx184_1; replace hx184_2 := cZ HB hx184_2; replace hx184_3 := cZ HB hx184_3; replace hx184_4 := cZ HB hx184_4; replace p184 := eq_true p184; replace q184 := eq_true q184; have p185 : 0 ≤ (x6_3 : Int) := of_decide_eq_true tZE; have q185 : x6_3 < (l1_3.length : Int) := of_decide_eq_true tZE
           obtain ⟨ad185, e185, hx185_0, hx185_1, hx185_2, hx185_3, hx185_4⟩ := at_T107 HR1_3.out x6_3 p185 q185; have hw185_4 := hx185_4; have hw185_3 := hx185_3; have hw185_2 := hx185_2; have hw185_1 := hx185_1; have hw185_0 := hx185_0; obtain rfl : ad178 = ad185 := (by injection e185); replace hx185_0 := cZ HB hx185_0; replace hx185_1 := cZ HB hx185_1; replace hx185_2 := cZ HB hx185_2; replace hx185_3 := cZ HB hx185_3; replace hx185_4 := cZ HB hx185_4; replace p185 := eq_true p185; replace q185 := eq_true q185
           refine start_ (n := 13) (S := fun w' => w'.cell? ⟨gb170, 0, none⟩ = some (.int .i64 a1_0) ∧ w'.cell? ⟨gb170, 1, none⟩ = some (.int .i64 a1_1) ∧ w'.cell? ⟨gb170, 2, none⟩ = some (.string a1_2) ∧ w'.cell? ⟨gb170, 3, none⟩ = some (.slice (some ad178) l1_3.length c1_3) ∧ w'.cell? (ad178.add ((x9_4).toNat * 5)) = some (.int .i64 ((rd_T107 l1_3 x9_4).f0)) ∧ w'.cell? ⟨(ad178.add ((x9_4).toNat * 5)).block, (ad178.add ((x9_4).toNat * 5)).off + 1, none⟩ = some (.int .i64 ((rd_T107 l1_3 x9_4).f1)) ∧ w'.cell? ⟨(ad178.add ((x9_4).toNat * 5)).block, (ad178.add ((x9_4).toNat * 5)).off + 2, none⟩ = some (.int .i64 ((rd_T107 l1_3 x9_4).f2)) ∧ w'.cell? ⟨(ad178.add ((x9_4).toNat * 5)).block, (ad178.add ((x9_4).toNat * 5)).off + 3, none⟩ = some (.int .i64 ((rd_T107 l1_3 x9_4).f3)) ∧ w'.cell? ⟨(ad178.add ((x9_4).toNat * 5)).block, (ad178.add ((x9_4).toNat * 5)).off + 4, none⟩ = some (.int .i64 ((rd_T107 l1_3 x9_4).f4)) ∧ w'.cell? (ad178.add ((x6_3).toNat * 5)) = some (.int .i64 ((rd_T107 l1_3 x6_3).f0)) ∧ w'.cell? ⟨(ad178.add ((x6_3).toNat * 5)).block, (ad178.add ((x6_3).toNat * 5)).off + 1, none⟩ = some (.int .i64 ((rd_T107 l1_3 x6_3).f1)) ∧ w'.cell? ⟨(ad178.add ((x6_3).toNat * 5)).block, (ad178.add ((x6_3).toNat * 5)).off + 2, none⟩ = some (.int .i64 ((rd_T107 l1_3 x6_3).f2)) ∧ w'.cell? ⟨(ad178.add ((x6_3).toNat * 5)).block, (ad178.add ((x6_3).toNat * 5)).off + 3, none⟩ = some (.int .i64 ((rd_T107 l1_3 x6_3).f3)) ∧ w'.cell? ⟨(ad178.add ((x6_3).toNat * 5)).block, (ad178.add ((x6_3).toNat * 5)).off + 4, none⟩ = some (.int .i64 ((rd_T107 l1_3 x6_3).f4))) (ds := []) L9' kZ rfl rfl ⟨(blk_cell BK170.out 0).trans rfl, (blk_cell BK170.out 1).trans rfl, (blk_cell BK170.out 2).trans rfl, (blk_cell BK170.out 3).trans rfl, ((HB.out.cell (World.block_lt_of_cell? w _ hw184_0)).trans hw184_0), ((HB.out.cell (World.block_lt_of_cell? w _ hw184_1)).trans hw184_1), ((HB.out.cell (World.block_lt_of_cell? w _ hw184_2)).trans hw184_2), ((HB.out.cell (World.block_lt_of_cell? w _ hw184_3)).trans hw184_3), ((HB.out.cell (World.block_lt_of_cell? w _ hw184_4)).trans hw184_4), ((HB.out.cell (World.block_lt_of_cell? w _ hw185_0)).trans hw185_0), ((HB.out.cell (World.block_lt_of_cell? w _ hw185_1)).trans hw185_1), ((HB.out.cell (World.block_lt_of_cell? w _ hw185_2)).trans hw185_2), ((HB.out.cell (World.block_lt_of_cell? w _ hw185_3)).trans hw185_3), ((HB.out.cell (World.block_lt_of_cell? w _ hw185_4)).trans hw185_4)⟩ (fun hHeld => ?_); refine with_tabW spec_EntryOk.tab18 spec_EntryOk.bits18 (fun HT_ HW_ => ?_)
           generalize w77.drew = w78 at BK169 BK170 HB hx184_0 hx184_1 hx184_2 hx184_3 hx184_4 hx185_0 hx185_1 hx185_2 hx185_3 hx185_4 hHeld ⊢; refine pure_ (i := 0) (N := some 88) (v := ?_) (a' := ?_) L10' rfl rfl (any_of HT_.out kZ) (fun _ _ _ h => h) (Or.inl ⟨by rfl, ?_⟩) ?_ ?_; rotate_left
           ·intro w'; go_simp; with_reducible rfl
           rotate_left
           ·simp only [Act.put, sZ1, sZ2, sZ3, i64_w, i32_w]; rfl
           refine pure_ (i := 2) (N := some 90) (v := ?_) (a' := ?_) L11' rfl rfl (any_of HT_.out kZ) (fun _ _ _ h => h) (Or.inl ⟨by rfl, ?_⟩) ?_ ?_; rotate_left
           ·intro w'; go_simp; with_reducible rfl
           rotate_left
           ·simp only [Act.put, sZ1, sZ2, sZ3, i64_w, i32_w]; rfl
           refine pure_ (i := 6) (N := some 94) (v := ?_) (a' := ?_) L12' rfl rfl (any_of HT_.out kZ) (fun _ _ _ h => h) (Or.inl ⟨by rfl, ?_⟩) ?_ ?_; rotate_left
           ·intro w'; go_simp; with_reducible rfl
           rotate_left
           ·simp only [Act.put, sZ1, sZ2, sZ3, i64_w, i32_w]; rfl
           refine pure_ (i := 8) (N := some 96) (v := ?_) (a' := ?_) L13' rfl rfl (any_of HT_.out kZ) (fun _ _ _ h => h) (Or.inl ⟨by rfl, ?_⟩) ?_ ?_; rotate_left
           ·intro w'; go_simp; with_reducible rfl
           rotate_left
           ·simp only [Act.put, sZ1, sZ2, sZ3, i64_w, i32_w]; rfl
           refine take_ (i := 1) (N := some 89) (v := ?_) (a' := ?_) L14' rfl rfl (take_ofW HT_.out HW_.out kZ) (fun _ _ _ h => h) (Or.inl ⟨by rfl, ?_⟩) hHeld ?_ ?_; rotate_left
           ·rintro w' ⟨s0, s1, s2, s3, s4, s5, s6, s7, s8, s9, s10, s11, s12, s13⟩
            go_simp; with_reducible rfl
           rotate_left
           ·simp only [Act.put, sZ1, sZ2, sZ3, i64_w, i32_w]; rfl
           refine pure_ (i := 3) (N := some 91) (v := ?_) (a' := ?_) L15' rfl rfl (any_of HT_.out kZ) (fun _ _ _ h => h) (Or.inl ⟨by rfl, ?_⟩) ?_ ?_; rotate_left
           ·intro w'; go_simp; with_reducible rfl
           rotate_left
           ·simp only [Act.put, sZ1, sZ2, sZ3, i64_w, i32_w]; rfl
           refine pure_ (i := 4) (N := some 92) (v := ?_) (a' := ?_) L16' rfl rfl (any_of HT_.out kZ) (fun _ _ _ h => h) (Or.inl ⟨by rfl, ?_⟩) ?_ ?_; rotate_left
           ·intro w'; go_simp; with_reducible rfl
           rotate_left
           ·simp only [Act.put, sZ1, sZ2, sZ3, i64_w, i32_w]; rfl
           refine take_ (i := 5) (N := some 93) (v := ?_) (a' := ?_) L17' rfl rfl (take_ofW HT_.out HW_.out kZ) (fun _ _ _ h => h) (Or.inl ⟨by rfl, ?_⟩) hHeld ?_ ?_; rotate_left
           ·rintro w' ⟨s0, s1, s2, s3, s4, s5, s6, s7, s8, s9, s10, s11, s12, s13⟩
            go_simp; with_reducible rfl
           rotate_left
           ·simp only [Act.put, sZ1, sZ2, sZ3, i64_w, i32_w]; rfl
           refine take_ (i := 7) (N := some 95) (v := ?_) (a' := ?_) L18' rfl rfl (take_ofW HT_.out HW_.out kZ) (fun _ _ _ h => h) (Or.inl ⟨by rfl, ?_⟩) hHeld ?_ ?_; rotate_left
           ·rintro w' ⟨s0, s1, s2, s3, s4, s5, s6, s7, s8, s9, s10, s11, s12, s13⟩
            go_simp; with_reducible rfl
           rotate_left
           ·simp only [Act.put, sZ1, sZ2, sZ3, i64_w, i32_w]; rfl
           refine pure_ (i := 9) (N := some 97) (v := ?_) (a' := ?_) L19' rfl rfl (any_of HT_.out kZ) (fun _ _ _ h => h) (Or.inl ⟨by rfl, ?_⟩) ?_ ?_; rotate_left
           ·intro w'; go_simp; with_reducible rfl
           rotate_left
           ·simp only [Act.put, sZ1, sZ2, sZ3, i64_w, i32_w]; rfl
           refine pure_ (i := 10) (N := some 98) (v := ?_) (a' := ?_) L20' rfl rfl (any_of HT_.out kZ) (fun _ _ _ h => h) (Or.inl ⟨by rfl, ?_⟩) ?_ ?_; rotate_left
           ·intro w'; go_simp; with_reducible rfl
           rotate_left
           ·simp only [Act.put, sZ1, sZ2, sZ3, i64_w, i32_w]; rfl
           refine take_ (i := 11) (N := some 99) (v := ?_) (a' := ?_) L21' rfl rfl (take_ofW HT_.out HW_.out kZ) (fun _ _ _ h => h) (Or.inl ⟨by rfl, ?_⟩) hHeld ?_ ?_; rotate_left
           ·rintro w' ⟨s0, s1, s2, s3, s4, s5, s6, s7, s8, s9, s10, s11, s12, s13⟩
            go_simp; with_reducible rfl
           rotate_left
           ·simp only [Act.put, sZ1, sZ2, sZ3, i64_w, i32_w]; rfl
           refine pure_ (i := 12) (N := some 100) (v := ?_) (a' := ?_) L22' rfl rfl (any_of HT_.out kZ) (fun _ _ _ h => h) (Or.inl ⟨by rfl, ?_⟩) ?_ ?_; rotate_left
           ·intro w'; go_simp; with_reducible rfl
           rotate_left
           ·simp only [Act.put, sZ1, sZ2, sZ3, i64_w, i32_w]; rfl
           refine done_ (done_of HT_.out kZ) ?_
           try go_wp2
           go_roundg k4
           case measure => have := HJ2.out; have := HK2.out; have := HK3.out; have := HK4.out; omega
           case rel => exact ⟨(x7_4), (x8_4), (wrap64 (x9_4 + 1)), tZB, tZB, tZB, H', ⟨by have := HJ2.out; have := HK2.out; have := HK3.out; have := HK4.out; omega⟩, ⟨bkZ BK169.out⟩, ⟨bkZ BK170.out⟩, ⟨bZ⟩⟩
          rw [if_pos c69] at H; have c69b0 : (((rd_T107 l1_3 x9_4).f1) == ((rd_T107 l1_3 x6_3).f1)) = true := beq_iff_eq.mpr c69; have c69b1 : (((rd_T107 l1_3 x9_4).f1) != ((rd_T107 l1_3 x6_3).f1)) = false := bne_eq_false_iff_eq.mpr c69; clear c69; have H' := Aside0.mk H; clear H; have hnb70 := NB170_169.out; have hnc70 := NB169_170.out; obtain ⟨hcz71_0, hcz71_1, hcz71_2, hcz71_3, hfz71_0, hfz71_1, hfz71_2, hfz71_3⟩ := bc4 BK170.out
          try go_wp2
          replace BK169 := aZ (blk_drew BK169.out); replace BK170 := aZ (blk_drew BK170.out); replace HB := aZ (below_drew1 HB.out); have p178 : 0 ≤ (x9_4 : Int) := of_decide_eq_true tZE; have q178 : x9_4 < (l1_3.length : Int) := of_decide_eq_true tZE; obtain ⟨ad178, e178, hx178_0, hx178_1, hx178_2, hx178_3, hx178_4⟩ := at_T107 HR1_3.out x9_4 p178 q178; have hw178_4 := hx178_4; have hw178_3 := hx178_3; have hw178_2 := hx178_2; have hw178_1 := hx178_1; have hw178_0 := hx178_0
          cases e178
          replace hx178_0 := cZ HB hx178_0; replace hx178_1 := cZ HB hx178_1; replace hx178_2 := cZ HB hx178_2; replace hx178_3 := cZ HB hx178_3; replace hx178_4 := cZ HB hx178_4; replace p178 := eq_true p178; replace q178 := eq_true q178; have p179 : 0 ≤ (x6_3 : Int) := of_decide_eq_true tZE; have q179 : x6_3 < (l1_3.length : Int) := of_decide_eq_true tZE; obtain ⟨ad179, e179, hx179_0, hx179_1, hx179_2, hx179_3, hx179_4⟩ := at_T107 HR1_3.out x6_3 p179 q179; have hw179_4 := hx179_4; have hw179_3 := hx179_3; have hw179_2 := hx179_2; have hw179_1 := hx179_1; have hw179_0 := hx179_0; obtain rfl : ad178 = ad179 := (by injection e179); replace hx179_0 := cZ HB hx179_0; replace hx179_1 := cZ HB hx179_1; replace hx179_2 := cZ HB hx179_2; replace hx179_3 := cZ HB hx179_3; replace hx179_4 := cZ HB hx179_4; replace p179 := eq_true p179; replace q179 := eq_true q179
          refine start_ (n := 13) (S := fun w' => w'.cell? ⟨gb170, 0, none⟩ = some (.int .i64 a1_0) ∧ w'.cell? ⟨gb170, 1, none⟩ = some (.int .i64 a1_1) ∧ w'.cell? ⟨gb170, 2, none⟩ = some (.string a1_2) ∧ w'.cell? ⟨gb170, 3, none⟩ = some (.slice (some ad178) l1_3.length c1_3) ∧ w'.cell? (ad178.add ((x9_4).toNat * 5)) = some (.int .i64 ((rd_T107 l1_3 x9_4).f0)) ∧ w'.cell? ⟨(ad178.add ((x9_4).toNat * 5)).block, (ad178.add ((x9_4).toNat * 5)).off + 1, none⟩ = some (.int .i64 ((rd_T107 l1_3 x9_4).f1)) ∧ w'.cell? ⟨(ad178.add ((x9_4).toNat * 5)).block, (ad178.add ((x9_4).toNat * 5)).off + 2, none⟩ = some (.int .i64 ((rd_T107 l1_3 x9_4).f2)) ∧ w'.cell? ⟨(ad178.add ((x9_4).toNat * 5)).block, (ad178.add ((x9_4).toNat * 5)).off + 3, none⟩ = some (.int .i64 ((rd_T107 l1_3 x9_4).f3)) ∧ w'.cell? ⟨(ad178.add ((x9_4).toNat * 5)).block, (ad178.add ((x9_4).toNat * 5)).off + 4, none⟩ = some (.int .i64 ((rd_T107 l1_3 x9_4).f4)) ∧ w'.cell? (ad178.add ((x6_3).toNat * 5)) = some (.int .i64 ((rd_T107 l1_3 x6_3).f0)) ∧ w'.cell? ⟨(ad178.add ((x6_3).toNat * 5)).block, (ad178.add ((x6_3).toNat * 5)).off + 1, none⟩ = some (.int .i64 ((rd_T107 l1_3 x6_3).f1)) ∧ w'.cell? ⟨(ad178.add ((x6_3).toNat * 5)).block, (ad178.add ((x6_3).toNat * 5)).off + 2, none⟩ = some (.int .i64 ((rd_T107 l1_3 x6_3).f2)) ∧ w'.cell? ⟨(ad178.add ((x6_3).toNat * 5)).block, (ad178.add ((x6_3).toNat * 5)).off + 3, none⟩ = some (.int .i64 ((rd_T107 l1_3 x6_3).f3)) ∧ w'.cell? ⟨(ad178.add ((x6_3).toNat * 5)).block, (ad178.add ((x6_3).toNat * 5)).off + 4, none⟩ = some (.int .i64 ((rd_T107 l1_3 x6_3).f4))) (ds := []) L9' kZ rfl rfl ⟨(blk_cell BK170.out 0).trans rfl, (blk_cell BK170.out 1).trans rfl, (blk_cell BK170.out 2).trans rfl, (blk_cell BK170.out 3).trans rfl, ((HB.out.cell (World.block_lt_of_cell? w _ hw178_0)).trans hw178_0), ((HB.out.cell (World.block_lt_of_cell? w _ hw178_1)).trans hw178_1), ((HB.out.cell (World.block_lt_of_cell? w _ hw178_2)).trans hw178_2), ((HB.out.cell (World.block_lt_of_cell? w _ hw178_3)).trans hw178_3), ((HB.out.cell (World.block_lt_of_cell? w _ hw178_4)).trans hw178_4), ((HB.out.cell (World.block_lt_of_cell? w _ hw179_0)).trans hw179_0), ((HB.out.cell (World.block_lt_of_cell? w _ hw179_1)).trans hw179_1), ((HB.out.cell (World.block_lt_of_cell? w _ hw179_2)).trans hw179_2), ((HB.out.cell (World.block_lt_of_cell? w _ hw179_3)).trans hw179_3), ((HB.out.cell (World.block_lt_of_cell? w _ hw179_4)).trans hw179_4)⟩ (fun hHeld => ?_); refine with_tabW spec_EntryOk.tab16 spec_EntryOk.bits16 (fun HT_ HW_ => ?_)
          generalize wr.drew = w72 at BK169 BK170 HB hx178_0 hx178_1 hx178_2 hx178_3 hx178_4 hx179_0 hx179_1 hx179_2 hx179_3 hx179_4 hHeld ⊢; refine pure_ (i := 0) (N := some 67) (v := ?_) (a' := ?_) L10' rfl rfl (any_of HT_.out kZ) (fun _ _ _ h => h) (Or.inl ⟨by rfl, ?_⟩) ?_ ?_; rotate_left
          ·intro w'; go_simp; with_reducible rfl
          rotate_left
          ·simp only [Act.put, sZ1, sZ2, sZ3, i64_w, i32_w]; rfl
          refine pure_ (i := 2) (N := some 69) (v := ?_) (a' := ?_) L11' rfl rfl (any_of HT_.out kZ) (fun _ _ _ h => h) (Or.inl ⟨by rfl, ?_⟩) ?_ ?_; rotate_left
          ·intro w'; go_simp; with_reducible rfl
          rotate_left
          ·simp only [Act.put, sZ1, sZ2, sZ3, i64_w, i32_w]; rfl
          refine pure_ (i := 6) (N := some 73) (v := ?_) (a' := ?_) L12' rfl rfl (any_of HT_.out kZ) (fun _ _ _ h => h) (Or.inl ⟨by rfl, ?_⟩) ?_ ?_; rotate_left
          ·intro w'; go_simp; with_reducible rfl
          rotate_left
          ·simp only [Act.put, sZ1, sZ2, sZ3, i64_w, i32_w]; rfl
          refine pure_ (i := 8) (N := some 75) (v := ?_) (a' := ?_) L13' rfl rfl (any_of HT_.out kZ) (fun _ _ _ h => h) (Or.inl ⟨by rfl, ?_⟩) ?_ ?_; rotate_left
          ·intro w'; go_simp; with_reducible rfl
          rotate_left
          ·simp only [Act.put, sZ1, sZ2, sZ3, i64_w, i32_w]; rfl
          refine take_ (i := 1) (N := some 68) (v := ?_) (a' := ?_) L14' rfl rfl (take_ofW HT_.out HW_.out kZ) (fun _ _ _ h => h) (Or.inl ⟨by rfl, ?_⟩) hHeld ?_ ?_; rotate_left
          ·rintro w' ⟨s0, s1, s2, s3, s4, s5, s6, s7, s8, s9, s10, s11, s12, s13⟩
           go_simp; with_reducible rfl
          rotate_left
          ·simp only [Act.put, sZ1, sZ2, sZ3, i64_w, i32_w]; rfl
          refine pure_ (i := 3) (N := some 70) (v := ?_) (a' := ?_) L15' rfl rfl (any_of HT_.out kZ) (fun _ _ _ h => h) (Or.inl ⟨by rfl, ?_⟩) ?_ ?_; rotate_left
          ·intro w'; go_simp; with_reducible rfl
          rotate_left
          ·simp only [Act.put, sZ1, sZ2, sZ3, i64_w, i32_w]; rfl
          refine pure_ (i := 4) (N := some 71) (v := ?_) (a' := ?_) L16' rfl rfl (any_of HT_.out kZ) (fun _ _ _ h => h) (Or.inl ⟨by rfl, ?_⟩) ?_ ?_; rotate_left
          ·intro w'; go_simp; with_reducible rfl
          rotate_left
          ·simp only [Act.put, sZ1, sZ2, sZ3, i64_w, i32_w]; rfl
          refine take_ (i := 5) (N := some 72) (v := ?_) (a' := ?_) L17' rfl rfl (take_ofW HT_.out HW_.out kZ) (fun _ _ _ h => h) (Or.inl ⟨by rfl, ?_⟩) hHeld ?_ ?_; rotate_left
          ·rintro w' ⟨s0, s1, s2, s3, s4, s5, s6, s7, s8, s9, s10, s11, s12, s13⟩
           go_simp; with_reducible rfl
          rotate_left
          ·simp only [Act.put, sZ1, sZ2, sZ3, i64_w, i32_w]; rfl
          refine take_ (i := 7) (N := some 74) (v := ?_) (a' := ?_) L18' rfl rfl (take_ofW HT_.out HW_.out kZ) (fun _ _ _ h => h) (Or.inl ⟨by rfl, ?_⟩) hHeld ?_ ?_; rotate_left
          ·rintro w' ⟨s0, s1, s2, s3, s4, s5, s6, s7, s8, s9, s10, s11, s12, s13⟩
           go_simp; with_reducible rfl
          rotate_left
          ·simp only [Act.put, sZ1, sZ2, sZ3, i64_w, i32_w]; rfl
          refine pure_ (i := 9) (N := some 76) (v := ?_) (a' := ?_) L19' rfl rfl (any_of HT_.out kZ) (fun _ _ _ h => h) (Or.inl ⟨by rfl, ?_⟩) ?_ ?_; rotate_left
          ·intro w'; go_simp; with_reducible rfl
          rotate_left
          ·simp only [Act.put, sZ1, sZ2, sZ3, i64_w, i32_w]; rfl
          refine pure_ (i := 10) (N := some 77) (v := ?_) (a' := ?_) L20' rfl rfl (any_of HT_.out kZ) (fun _ _ _ h => h) (Or.inl ⟨by rfl, ?_⟩) ?_ ?_; rotate_left
          ·intro w'; go_simp; with_reducible rfl
          rotate_left
          ·simp only [Act.put, sZ1, sZ2, sZ3, i64_w, i32_w]; rfl
          refine take_ (i := 11) (N := some 78) (v := ?_) (a' := ?_) L21' rfl rfl (take_ofW HT_.out HW_.out kZ) (fun _ _ _ h => h) (Or.inl ⟨by rfl, ?_⟩) hHeld ?_ ?_; rotate_left
          ·rintro w' ⟨s0, s1, s2, s3, s4, s5, s6, s7, s8, s9, s10, s11, s12, s13⟩
           go_simp; with_reducible rfl
          rotate_left
          ·simp only [Act.put, sZ1, sZ2, sZ3, i64_w, i32_w]; rfl
          refine pure_ (i := 12) (N := some 79) (v := ?_) (a' := ?_) L22' rfl rfl (any_of HT_.out kZ) (fun _ _ _ h => h) (Or.inl ⟨by rfl, ?_⟩) ?_ ?_; rotate_left
          ·intro w'; go_simp; with_reducible rfl
          rotate_left
          ·simp only [Act.put, sZ1, sZ2, sZ3, i64_w, i32_w]; rfl
          refine done_ (done_of HT_.out kZ) ?_
          try go_wp2
          replace BK169 := aZ (blk_drew BK169.out); replace BK170 := aZ (blk_drew BK170.out); replace HB := aZ (below_drew1 HB.out); have p184 : 0 ≤ (x9_4 : Int) := of_decide_eq_true tZE; have q184 : x9_4 < (l1_3.length : Int) := of_decide_eq_true tZE; obtain ⟨ad184, e184, hx184_0, hx184_1, hx184_2, hx184_3, hx184_4⟩ := at_T107 HR1_3.out x9_4 p184 q184; have hw184_4 := hx184_4; have hw184_3 := hx184_3; have hw184_2 := hx184_2; have hw184_1 := hx184_1; have hw184_0 := hx184_0; obtain rfl : ad178 = ad184 := (by injection e184); replace hx184_0 := cZ HB hx184_0; replace hx184_1 := cZ HB hx184_1; replace hx184_2 := cZ HB hx184_2; replace hx184_3 := cZ HB hx184_3; replace hx184_4 := cZ HB hx184_4; replace p184 := eq_true p184; replace q184 := eq_true q184; have p185 : 0 ≤ (x6_3 : Int) := of_decide_eq_true tZE; have q185 : x6_3 < (l1_3.length : Int) := of_decide_eq_true tZE
          obtain ⟨ad185, e185, hx185_0, hx185_1, hx185_2, hx185_3, hx185_4⟩ := at_T107 HR1_3.out x6_3 p185 q185; have hw185_4 := hx185_4; have hw185_3 := hx185_3; have hw185_2 := hx185_2; have hw185_1 := hx185_1; have hw185_0 := hx185_0; obtain rfl : ad178 = ad185 := (by injection e185); replace hx185_0 := cZ HB hx185_0; replace hx185_1 := cZ HB hx185_1; replace hx185_2 := cZ HB hx185_2; replace hx185_3 := cZ HB hx185_3; replace hx185_4 := cZ HB hx185_4; replace p185 := eq_true p185; replace q185 := eq_true q185
          refine start_ (n := 13) (S := fun w' => w'.cell? ⟨gb170, 0, none⟩ = some (.int .i64 a1_0) ∧ w'.cell? ⟨gb170, 1, none⟩ = some (.int .i64 a1_1) ∧ w'.cell? ⟨gb170, 2, none⟩ = some (.string a1_2) ∧ w'.cell? ⟨gb170, 3, none⟩ = some (.slice (some ad178) l1_3.length c1_3) ∧ w'.cell? (ad178.add ((x9_4).toNat * 5)) = some (.int .i64 ((rd_T107 l1_3 x9_4).f0)) ∧ w'.cell? ⟨(ad178.add ((x9_4).toNat * 5)).block, (ad178.add ((x9_4).toNat * 5)).off + 1, none⟩ = some (.int .i64 ((rd_T107 l1_3 x9_4).f1)) ∧ w'.cell? ⟨(ad178.add ((x9_4).toNat * 5)).block, (ad178.add ((x9_4).toNat * 5)).off + 2, none⟩ = some (.int .i64 ((rd_T107 l1_3 x9_4).f2)) ∧ w'.cell? ⟨(ad178.add ((x9_4).toNat * 5)).block, (ad178.add ((x9_4).toNat * 5)).off + 3, none⟩ = some (.int .i64 ((rd_T107 l1_3 x9_4).f3)) ∧ w'.cell? ⟨(ad178.add ((x9_4).toNat * 5)).block, (ad178.add ((x9_4).toNat * 5)).off + 4, none⟩ = some (.int .i64 ((rd_T107 l1_3 x9_4).f4)) ∧ w'.cell? (ad178.add ((x6_3).toNat * 5)) = some (.int .i64 ((rd_T107 l1_3 x6_3).f0)) ∧ w'.cell? ⟨(ad178.add ((x6_3).toNat * 5)).block, (ad178.add ((x6_3).toNat * 5)).off + 1, none⟩ = some (.int .i64 ((rd_T107 l1_3 x6_3).f1)) ∧ w'.cell? ⟨(ad178.add ((x6_3).toNat * 5)).block, (ad178.add ((x6_3).toNat * 5)).off + 2, none⟩ = some (.int .i64 ((rd_T107 l1_3 x6_3).f2)) ∧ w'.cell? ⟨(ad178.add ((x6_3).toNat * 5)).block, (ad178.add ((x6_3).toNat * 5)).off + 3, none⟩ = some (.int .i64 ((rd_T107 l1_3 x6_3).f3)) ∧ w'.cell? ⟨(ad178.add ((x6_3).toNat * 5)).block, (ad178.add ((x6_3).toNat * 5)).off + 4, none⟩ = some (.int .i64 ((rd_T107 l1_3 x6_3).f4))) (ds := []) L9' kZ rfl rfl ⟨(blk_cell BK170.out 0).trans rfl, (blk_cell BK170.out 1).trans rfl, (blk_cell BK170.out 2).trans rfl, (blk_cell BK170.out 3).trans rfl, ((HB.out.cell (World.block_lt_of_cell? w _ hw184_0)).trans hw184_0), ((HB.out.cell (World.block_lt_of_cell? w _ hw184_1)).trans hw184_1), ((HB.out.cell (World.block_lt_of_cell? w _ hw184_2)).trans hw184_2), ((HB.out.cell (World.block_lt_of_cell? w _ hw184_3)).trans hw184_3), ((HB.out.cell (World.block_lt_of_cell? w _ hw184_4)).trans hw184_4), ((HB.out.cell (World.block_lt_of_cell? w _ hw185_0)).trans hw185_0), ((HB.out.cell (World.block_lt_of_cell? w _ hw185_1)).trans hw185_1), ((HB.out.cell (World.block_lt_of_cell? w _ hw185_2)).trans hw185_2), ((HB.out.cell (World.block_lt_of_cell? w _ hw185_3)).trans hw185_3), ((HB.out.cell (World.block_lt_of_cell? w _ hw185_4)).trans hw185_4)⟩ (fun hHeld => ?_); refine with_tabW spec_EntryOk.tab18 spec_EntryOk.bits18 (fun HT_ HW_ => ?_)
          generalize w72.drew = w73 at BK169 BK170 HB hx184_0 hx184_1 hx184_2 hx184_3 hx184_4 hx185_0 hx185_1 hx185_2 hx185_3 hx185_4 hHeld ⊢; refine pure_ (i := 0) (N := some 88) (v := ?_) (a' := ?_) L10' rfl rfl (any_of HT_.out kZ) (fun _ _ _ h => h) (Or.inl ⟨by rfl, ?_⟩) ?_ ?_; rotate_left
          ·intro w'; go_simp; with_reducible rfl
          rotate_left
          ·simp only [Act.put, sZ1, sZ2, sZ3, i64_w, i32_w]; rfl
          refine pure_ (i := 2) (N := some 90) (v := ?_) (a' := ?_) L11' rfl rfl (any_of HT_.out kZ) (fun _ _ _ h => h) (Or.inl ⟨by rfl, ?_⟩) ?_ ?_; rotate_left
          ·intro w'; go_simp; with_reducible rfl
          rotate_left
          ·simp only [Act.put, sZ1, sZ2, sZ3, i64_w, i32_w]; rfl
          refine pure_ (i := 6) (N := some 94) (v := ?_) (a' := ?_) L12' rfl rfl (any_of HT_.out kZ) (fun _ _ _ h => h) (Or.inl ⟨by rfl, ?_⟩) ?_ ?_; rotate_left
          ·intro w'; go_simp; with_reducible rfl
          rotate_left
          ·simp only [Act.put, sZ1, sZ2, sZ3, i64_w, i32_w]; rfl
          refine pure_ (i := 8) (N := some 96) (v := ?_) (a' := ?_) L13' rfl rfl (any_of HT_.out kZ) (fun _ _ _ h => h) (Or.inl ⟨by rfl, ?_⟩) ?_ ?_; rotate_left
          ·intro w'; go_simp; with_reducible rfl
          rotate_left
          ·simp only [Act.put, sZ1, sZ2, sZ3, i64_w, i32_w]; rfl
          refine take_ (i := 1) (N := some 89) (v := ?_) (a' := ?_) L14' rfl rfl (take_ofW HT_.out HW_.out kZ) (fun _ _ _ h => h) (Or.inl ⟨by rfl, ?_⟩) hHeld ?_ ?_; rotate_left
          ·rintro w' ⟨s0, s1, s2, s3, s4, s5, s6, s7, s8, s9, s10, s11, s12, s13⟩
           go_simp; with_reducible rfl
          rotate_left
          ·simp only [Act.put, sZ1, sZ2, sZ3, i64_w, i32_w]; rfl
          refine pure_ (i := 3) (N := some 91) (v := ?_) (a' := ?_) L15' rfl rfl (any_of HT_.out kZ) (fun _ _ _ h => h) (Or.inl ⟨by rfl, ?_⟩) ?_ ?_; rotate_left
          ·intro w'; go_simp; with_reducible rfl
          rotate_left
          ·simp only [Act.put, sZ1, sZ2, sZ3, i64_w, i32_w]; rfl
          refine pure_ (i := 4) (N := some 92) (v := ?_) (a' := ?_) L16' rfl rfl (any_of HT_.out kZ) (fun _ _ _ h => h) (Or.inl ⟨by rfl, ?_⟩) ?_ ?_; rotate_left
          ·intro w'; go_simp; with_reducible rfl
          rotate_left
          ·simp only [Act.put, sZ1, sZ2, sZ3, i64_w, i32_w]; rfl
          refine take_ (i := 5) (N := some 93) (v := ?_) (a' := ?_) L17' rfl rfl (take_ofW HT_.out HW_.out kZ) (fun _ _ _ h => h) (Or.inl ⟨by rfl, ?_⟩) hHeld ?_ ?_; rotate_left
          ·rintro w' ⟨s0, s1, s2, s3, s4, s5, s6, s7, s8, s9, s10, s11, s12, s13⟩
           go_simp; with_reducible rfl
          rotate_left
          ·simp only [Act.put, sZ1, sZ2, sZ3, i64_w, i32_w]; rfl
          refine take_ (i := 7) (N := some 95) (v := ?_) (a' := ?_) L18' rfl rfl (take_ofW HT_.out HW_.out kZ) (fun _ _ _ h => h) (Or.inl ⟨by rfl, ?_⟩) hHeld ?_ ?_; rotate_left
          ·rintro w' ⟨s0, s1, s2, s3, s4, s5, s6, s7, s8, s9, s10, s11, s12, s13⟩
           go_simp; with_reducible rfl
          rotate_left
          ·simp only [Act.put, sZ1, sZ2, sZ3, i64_w, i32_w]; rfl
          refine pure_ (i := 9) (N := some 97) (v := ?_) (a' := ?_) L19' rfl rfl (any_of HT_.out kZ) (fun _ _ _ h => h) (Or.inl ⟨by rfl, ?_⟩) ?_ ?_; rotate_left
          ·intro w'; go_simp; with_reducible rfl
          rotate_left
          ·simp only [Act.put, sZ1, sZ2, sZ3, i64_w, i32_w]; rfl
          refine pure_ (i := 10) (N := some 98) (v := ?_) (a' := ?_) L20' rfl rfl (any_of HT_.out kZ) (fun _ _ _ h => h) (Or.inl ⟨by rfl, ?_⟩) ?_ ?_; rotate_left
          ·intro w'; go_simp; with_reducible rfl
          rotate_left
          ·simp only [Act.put, sZ1, sZ2, sZ3, i64_w, i32_w]; rfl
          refine take_ (i := 11) (N := some 99) (v := ?_) (a' := ?_) L21' rfl rfl (take_ofW HT_.out HW_.out kZ) (fun _ _ _ h => h) (Or.inl ⟨by rfl, ?_⟩) hHeld ?_ ?_; rotate_left
          ·rintro w' ⟨s0, s1, s2, s3, s4, s5, s6, s7, s8, s9, s10, s11, s12, s13⟩
           go_simp; with_reducible rfl
          rotate_left
          ·simp only [Act.put, sZ1, sZ2, sZ3, i64_w, i32_w]; rfl
          refine pure_ (i := 12) (N := some 100) (v := ?_) (a' := ?_) L22' rfl rfl (any_of HT_.out kZ) (fun _ _ _ h => h) (Or.inl ⟨by rfl, ?_⟩) ?_ ?_; rotate_left
          ·intro w'; go_simp; with_reducible rfl
          rotate_left
          ·simp only [Act.put, sZ1, sZ2, sZ3, i64_w, i32_w]; rfl
          refine done_ (done_of HT_.out kZ) ?_; obtain ⟨hcz74_0, hcz74_1, hcz74_2, hcz74_3, hfz74_0, hfz74_1, hfz74_2, hfz74_3⟩ := bc4 BK170.out; have p186 : 0 ≤ (x9_4 : Int) := of_decide_eq_true tZE; have q186 : x9_4 < (l1_3.length : Int) := of_decide_eq_true tZE; obtain ⟨ad186, e186, hx186_0, hx186_1, hx186_2, hx186_3, hx186_4⟩ := at_T107 HR1_3.out x9_4 p186 q186; obtain rfl : ad178 = ad186 := (by injection e186); replace hx186_0 := cZ HB hx186_0; replace hx186_1 := cZ HB hx186_1; replace hx186_2 := cZ HB hx186_2; replace hx186_3 := cZ HB hx186_3; replace hx186_4 := cZ HB hx186_4; replace p186 := eq_true p186; replace q186 := eq_true q186
          try go_wp2
          go_roundg k4
          case measure => have := HJ2.out; have := HK2.out; have := HK3.out; have := HK4.out; omega
          case rel => exact ⟨(x7_4), (wrap64 (x8_4 + ((rd_T107 l1_3 x9_4).f4))), (wrap64 (x9_4 + 1)), tZB, tZB, tZB, H', ⟨by have := HJ2.out; have := HK2.out; have := HK3.out; have := HK4.out; omega⟩, ⟨bkZ BK169.out⟩, ⟨bkZ BK170.out⟩, ⟨bZ⟩⟩
         rw [if_pos c56] at H; have c56b0 : (((rd_T107 l1_3 x9_4).f2) == ((rd_T107 l1_3 x6_3).f2)) = true := beq_iff_eq.mpr c56; have c56b1 : (((rd_T107 l1_3 x9_4).f2) != ((rd_T107 l1_3 x6_3).f2)) = false := bne_eq_false_iff_eq.mpr c56; clear c56
         by_cases c57 : ((rd_T107 l1_3 x9_4).f1) = ((rd_T107 l1_3 x6_3).f1)
         rotate_left
         ·rw [if_neg c57] at H; have c57b0 : (((rd_T107 l1_3 x9_4).f1) == ((rd_T107 l1_3 x6_3).f1)) = false := beq_eq_false_iff_ne.mpr c57; have c57b1 : (((rd_T107 l1_3 x9_4).f1) != ((rd_T107 l1_3 x6_3).f1)) = true := bne_iff_ne.mpr c57; have H' := Aside0.mk H; clear H; have hnb64 := NB170_169.out; have hnc64 := NB169_170.out; obtain ⟨hcz65_0, hcz65_1, hcz65_2, hcz65_3, hfz65_0, hfz65_1, hfz65_2, hfz65_3⟩ := bc4 BK170.out
          try go_wp2
          replace BK169 := aZ (blk_drew BK169.out); replace BK170 := aZ (blk_drew BK170.out); replace HB := aZ (below_drew1 HB.out); have p178 : 0 ≤ (x9_4 : Int) := of_decide_eq_true tZE; have q178 : x9_4 < (l1_3.length : Int) := of_decide_eq_true tZE; obtain ⟨ad178, e178, hx178_0, hx178_1, hx178_2, hx178_3, hx178_4⟩ := at_T107 HR1_3.out x9_4 p178 q178; have hw178_4 := hx178_4; have hw178_3 := hx178_3; have hw178_2 := hx178_2; have hw178_1 := hx178_1; have hw178_0 := hx178_0
          cases e178
          replace hx178_0 := cZ HB hx178_0; replace hx178_1 := cZ HB hx178_1; replace hx178_2 := cZ HB hx178_2; replace hx178_3 := cZ HB hx178_3; replace hx178_4 := cZ HB hx178_4; replace p178 := eq_true p178; replace q178 := eq_true q178; have p179 : 0 ≤ (x6_3 : Int) := of_decide_eq_true tZE; have q179 : x6_3 < (l1_3.length : Int) := of_decide_eq_true tZE; obtain ⟨ad179, e179, hx179_0, hx179_1, hx179_2, hx179_3, hx179_4⟩ := at_T107 HR1_3.out x6_3 p179 q179; have hw179_4 := hx179_4; have hw179_3 := hx179_3; have hw179_2 := hx179_2; have hw179_1 := hx179_1; have hw179_0 := hx179_0; obtain rfl : ad178 = ad179 := (by injection e179); replace hx179_0 := cZ HB hx179_0; replace hx179_1 := cZ HB hx179_1; replace hx179_2 := cZ HB hx179_2; replace hx179_3 := cZ HB hx179_3; replace hx179_4 := cZ HB hx179_4; replace p179 := eq_true p179; replace q179 := eq_true q179
          refine start_ (n := 13) (S := fun w' => w'.cell? ⟨gb170, 0, none⟩ = some (.int .i64 a1_0) ∧ w'.cell? ⟨gb170, 1, none⟩ = some (.int .i64 a1_1) ∧ w'.cell? ⟨gb170, 2, none⟩ = some (.string a1_2) ∧ w'.cell? ⟨gb170, 3, none⟩ = some (.slice (some ad178) l1_3.length c1_3) ∧ w'.cell? (ad178.add ((x9_4).toNat * 5)) = some (.int .i64 ((rd_T107 l1_3 x9_4).f0)) ∧ w'.cell? ⟨(ad178.add ((x9_4).toNat * 5)).block, (ad178.add ((x9_4).toNat * 5)).off + 1, none⟩ = some (.int .i64 ((rd_T107 l1_3 x9_4).f1)) ∧ w'.cell? ⟨(ad178.add ((x9_4).toNat * 5)).block, (ad178.add ((x9_4).toNat * 5)).off + 2, none⟩ = some (.int .i64 ((rd_T107 l1_3 x9_4).f2)) ∧ w'.cell? ⟨(ad178.add ((x9_4).toNat * 5)).block, (ad178.add ((x9_4).toNat * 5)).off + 3, none⟩ = some (.int .i64 ((rd_T107 l1_3 x9_4).f3)) ∧ w'.cell? ⟨(ad178.add ((x9_4).toNat * 5)).block, (ad178.add ((x9_4).toNat * 5)).off + 4, none⟩ = some (.int .i64 ((rd_T107 l1_3 x9_4).f4)) ∧ w'.cell? (ad178.add ((x6_3).toNat * 5)) = some (.int .i64 ((rd_T107 l1_3 x6_3).f0)) ∧ w'.cell? ⟨(ad178.add ((x6_3).toNat * 5)).block, (ad178.add ((x6_3).toNat * 5)).off + 1, none⟩ = some (.int .i64 ((rd_T107 l1_3 x6_3).f1)) ∧ w'.cell? ⟨(ad178.add ((x6_3).toNat * 5)).block, (ad178.add ((x6_3).toNat * 5)).off + 2, none⟩ = some (.int .i64 ((rd_T107 l1_3 x6_3).f2)) ∧ w'.cell? ⟨(ad178.add ((x6_3).toNat * 5)).block, (ad178.add ((x6_3).toNat * 5)).off + 3, none⟩ = some (.int .i64 ((rd_T107 l1_3 x6_3).f3)) ∧ w'.cell? ⟨(ad178.add ((x6_3).toNat * 5)).block, (ad178.add ((x6_3).toNat * 5)).off + 4, none⟩ = some (.int .i64 ((rd_T107 l1_3 x6_3).f4))) (ds := []) L9' kZ rfl rfl ⟨(blk_cell BK170.out 0).trans rfl, (blk_cell BK170.out 1).trans rfl, (blk_cell BK170.out 2).trans rfl, (blk_cell BK170.out 3).trans rfl, ((HB.out.cell (World.block_lt_of_cell? w _ hw178_0)).trans hw178_0), ((HB.out.cell (World.block_lt_of_cell? w _ hw178_1)).trans hw178_1), ((HB.out.cell (World.block_lt_of_cell? w _ hw178_2)).trans hw178_2), ((HB.out.cell (World.block_lt_of_cell? w _ hw178_3)).trans hw178_3), ((HB.out.cell (World.block_lt_of_cell? w _ hw178_4)).trans hw178_4), ((HB.out.cell (World.block_lt_of_cell? w _ hw179_0)).trans hw179_0), ((HB.out.cell (World.block_lt_of_cell? w _ hw179_1)).trans hw179_1), ((HB.out.cell (World.block_lt_of_cell? w _ hw179_2)).trans hw179_2), ((HB.out.cell (World.block_lt_of_cell? w _ hw179_3)).trans hw179_3), ((HB.out.cell (World.block_lt_of_cell? w _ hw179_4)).trans hw179_4)⟩ (fun hHeld => ?_); refine with_tabW spec_EntryOk.tab16 spec_EntryOk.bits16 (fun HT_ HW_ => ?_)
          generalize wr.drew = w66 at BK169 BK170 HB hx178_0 hx178_1 hx178_2 hx178_3 hx178_4 hx179_0 hx179_1 hx179_2 hx179_3 hx179_4 hHeld ⊢; refine pure_ (i := 0) (N := some 67) (v := ?_) (a' := ?_) L10' rfl rfl (any_of HT_.out kZ) (fun _ _ _ h => h) (Or.inl ⟨by rfl, ?_⟩) ?_ ?_; rotate_left
          ·intro w'; go_simp; with_reducible rfl
          rotate_left
          ·simp only [Act.put, sZ1, sZ2, sZ3, i64_w, i32_w]; rfl
          refine pure_ (i := 2) (N := some 69) (v := ?_) (a' := ?_) L11' rfl rfl (any_of HT_.out kZ) (fun _ _ _ h => h) (Or.inl ⟨by rfl, ?_⟩) ?_ ?_; rotate_left
          ·intro w'; go_simp; with_reducible rfl
          rotate_left
          ·simp only [Act.put, sZ1, sZ2, sZ3, i64_w, i32_w]; rfl
          refine pure_ (i := 6) (N := some 73) (v := ?_) (a' := ?_) L12' rfl rfl (any_of HT_.out kZ) (fun _ _ _ h => h) (Or.inl ⟨by rfl, ?_⟩) ?_ ?_; rotate_left
          ·intro w'; go_simp; with_reducible rfl
          rotate_left
          ·simp only [Act.put, sZ1, sZ2, sZ3, i64_w, i32_w]; rfl
          refine pure_ (i := 8) (N := some 75) (v := ?_) (a' := ?_) L13' rfl rfl (any_of HT_.out kZ) (fun _ _ _ h => h) (Or.inl ⟨by rfl, ?_⟩) ?_ ?_; rotate_left
          ·intro w'; go_simp; with_reducible rfl
          rotate_left
          ·simp only [Act.put, sZ1, sZ2, sZ3, i64_w, i32_w]; rfl
          refine take_ (i := 1) (N := some 68) (v := ?_) (a' := ?_) L14' rfl rfl (take_ofW HT_.out HW_.out kZ) (fun _ _ _ h => h) (Or.inl ⟨by rfl, ?_⟩) hHeld ?_ ?_; rotate_left
          ·rintro w' ⟨s0, s1, s2, s3, s4, s5, s6, s7, s8, s9, s10, s11, s12, s13⟩
           go_simp; with_reducible rfl
          rotate_left
          ·simp only [Act.put, sZ1, sZ2, sZ3, i64_w, i32_w]; rfl
          refine pure_ (i := 3) (N := some 70) (v := ?_) (a' := ?_) L15' rfl rfl (any_of HT_.out kZ) (fun _ _ _ h => h) (Or.inl ⟨by rfl, ?_⟩) ?_ ?_; rotate_left
          ·intro w'; go_simp; with_reducible rfl
          rotate_left
          ·simp only [Act.put, sZ1, sZ2, sZ3, i64_w, i32_w]; rfl
          refine pure_ (i := 4) (N := some 71) (v := ?_) (a' := ?_) L16' rfl rfl (any_of HT_.out kZ) (fun _ _ _ h => h) (Or.inl ⟨by rfl, ?_⟩) ?_ ?_; rotate_left
          ·intro w'; go_simp; with_reducible rfl
          rotate_left
          ·simp only [Act.put, sZ1, sZ2, sZ3, i64_w, i32_w]; rfl
          refine take_ (i := 5) (N := some 72) (v := ?_) (a' := ?_) L17' rfl rfl (take_ofW HT_.out HW_.out kZ) (fun _ _ _ h => h) (Or.inl ⟨by rfl, ?_⟩) hHeld ?_ ?_; rotate_left
          ·rintro w' ⟨s0, s1, s2, s3, s4, s5, s6, s7, s8, s9, s10, s11, s12, s13⟩
           go_simp; with_reducible rfl
          rotate_left
          ·simp only [Act.put, sZ1, sZ2, sZ3, i64_w, i32_w]; rfl
          refine take_ (i := 7) (N := some 74) (v := ?_) (a' := ?_) L18' rfl rfl (take_ofW HT_.out HW_.out kZ) (fun _ _ _ h => h) (Or.inl ⟨by rfl, ?_⟩) hHeld ?_ ?_; rotate_left
          ·rintro w' ⟨s0, s1, s2, s3, s4, s5, s6, s7, s8, s9, s10, s11, s12, s13⟩
           go_simp; with_reducible rfl
          rotate_left
          ·simp only [Act.put, sZ1, sZ2, sZ3, i64_w, i32_w]; rfl
          refine pure_ (i := 9) (N := some 76) (v := ?_) (a' := ?_) L19' rfl rfl (any_of HT_.out kZ) (fun _ _ _ h => h) (Or.inl ⟨by rfl, ?_⟩) ?_ ?_; rotate_left
          ·intro w'; go_simp; with_reducible rfl
          rotate_left
          ·simp only [Act.put, sZ1, sZ2, sZ3, i64_w, i32_w]; rfl
          refine pure_ (i := 10) (N := some 77) (v := ?_) (a' := ?_) L20' rfl rfl (any_of HT_.out kZ) (fun _ _ _ h => h) (Or.inl ⟨by rfl, ?_⟩) ?_ ?_; rotate_left
          ·intro w'; go_simp; with_reducible rfl
          rotate_left
          ·simp only [Act.put, sZ1, sZ2, sZ3, i64_w, i32_w]; rfl
          refine take_ (i := 11) (N := some 78) (v := ?_) (a' := ?_) L21' rfl rfl (take_ofW HT_.out HW_.out kZ) (fun _ _ _ h => h) (Or.inl ⟨by rfl, ?_⟩) hHeld ?_ ?_; rotate_left
          ·rintro w' ⟨s0, s1, s2, s3, s4, s5, s6, s7, s8, s9, s10, s11, s12, s13⟩
           go_simp; with_reducible rfl
          rotate_left
          ·simp only [Act.put, sZ1, sZ2, sZ3, i64_w, i32_w]; rfl
          refine pure_ (i := 12) (N := some 79) (v := ?_) (a' := ?_) L22' rfl rfl (any_of HT_.out kZ) (fun _ _ _ h => h) (Or.inl ⟨by rfl, ?_⟩) ?_ ?_; rotate_left
          ·intro w'; go_simp; with_reducible rfl
          rotate_left
          ·simp only [Act.put, sZ1, sZ2, sZ3, i64_w, i32_w]; rfl
          refine done_ (done_of HT_.out kZ) ?_; obtain ⟨hcz67_0, hcz67_1, hcz67_2, hcz67_3, hfz67_0, hfz67_1, hfz67_2, hfz67_3⟩ := bc4 BK170.out; have p180 : 0 ≤ (x9_4 : Int) := of_decide_eq_true tZE; have q180 : x9_4 < (l1_3.length : Int) := of_decide_eq_true tZE; obtain ⟨ad180, e180, hx180_0, hx180_1, hx180_2, hx180_3, hx180_4⟩ := at_T107 HR1_3.out x9_4 p180 q180; obtain rfl : ad178 = ad180 := (by injection e180); replace hx180_0 := cZ HB hx180_0; replace hx180_1 := cZ HB hx180_1; replace hx180_2 := cZ HB hx180_2; replace hx180_3 := cZ HB hx180_3; replace hx180_4 := cZ HB hx180_4; replace p180 := eq_true p180; replace q180 := eq_true q180
          try go_wp2
          replace BK169 := aZ (blk_drew BK169.out); replace BK170 := aZ (blk_drew BK170.out); replace HB := aZ (below_drew1 HB.out); have p181 : 0 ≤ (x9_4 : Int) := of_decide_eq_true tZE; have q181 : x9_4 < (l1_3.length : Int) := of_decide_eq_true tZE; obtain ⟨ad181, e181, hx181_0, hx181_1, hx181_2, hx181_3, hx181_4⟩ := at_T107 HR1_3.out x9_4 p181 q181; have hw181_4 := hx181_4; have hw181_3 := hx181_3; have hw181_2 := hx181_2; have hw181_1 := hx181_1; have hw181_0 := hx181_0; obtain rfl : ad178 = ad181 := (by injection e181); replace hx181_0 := cZ HB hx181_0; replace hx181_1 := cZ HB hx181_1; replace hx181_2 := cZ HB hx181_2; replace hx181_3 := cZ HB hx181_3; replace hx181_4 := cZ HB hx181_4; replace p181 := eq_true p181; replace q181 := eq_true q181; have p182 : 0 ≤ (x6_3 : Int) := of_decide_eq_true tZE; have q182 : x6_3 < (l1_3.length : Int) := of_decide_eq_true tZE
          obtain ⟨ad182, e182, hx182_0, hx182_1, hx182_2, hx182_3, hx182_4⟩ := at_T107 HR1_3.out x6_3 p182 q182; have hw182_4 := hx182_4; have hw182_3 := hx182_3; have hw182_2 := hx182_2; have hw182_1 := hx182_1; have hw182_0 := hx182_0; obtain rfl : ad178 = ad182 := (by injection e182); replace hx182_0 := cZ HB hx182_0; replace hx182_1 := cZ HB hx182_1; replace hx182_2 := cZ HB hx182_2; replace hx182_3 := cZ HB hx182_3; replace hx182_4 := cZ HB hx182_4; replace p182 := eq_true p182; replace q182 := eq_true q182
          refine start_ (n := 13) (S := fun w' => w'.cell? ⟨gb170, 0, none⟩ = some (.int .i64 a1_0) ∧ w'.cell? ⟨gb170, 1, none⟩ = some (.int .i64 a1_1) ∧ w'.cell? ⟨gb170, 2, none⟩ = some (.string a1_2) ∧ w'.cell? ⟨gb170, 3, none⟩ = some (.slice (some ad178) l1_3.length c1_3) ∧ w'.cell? (ad178.add ((x9_4).toNat * 5)) = some (.int .i64 ((rd_T107 l1_3 x9_4).f0)) ∧ w'.cell? ⟨(ad178.add ((x9_4).toNat * 5)).block, (ad178.add ((x9_4).toNat * 5)).off + 1, none⟩ = some (.int .i64 ((rd_T107 l1_3 x9_4).f1)) ∧ w'.cell? ⟨(ad178.add ((x9_4).toNat * 5)).block, (ad178.add ((x9_4).toNat * 5)).off + 2, none⟩ = some (.int .i64 ((rd_T107 l1_3 x9_4).f2)) ∧ w'.cell? ⟨(ad178.add ((x9_4).toNat * 5)).block, (ad178.add ((x9_4).toNat * 5)).off + 3, none⟩ = some (.int .i64 ((rd_T107 l1_3 x9_4).f3)) ∧ w'.cell? ⟨(ad178.add ((x9_4).toNat * 5)).block, (ad178.add ((x9_4).toNat * 5)).off + 4, none⟩ = some (.int .i64 ((rd_T107 l1_3 x9_4).f4)) ∧ w'.cell? (ad178.add ((x6_3).toNat * 5)) = some (.int .i64 ((rd_T107 l1_3 x6_3).f0)) ∧ w'.cell? ⟨(ad178.add ((x6_3).toNat * 5)).block, (ad178.add ((x6_3).toNat * 5)).off + 1, none⟩ = some (.int .i64 ((rd_T107 l1_3 x6_3).f1)) ∧ w'.cell? ⟨(ad178.add ((x6_3).toNat * 5)).block, (ad178.add ((x6_3).toNat * 5)).off + 2, none⟩ = some (.int .i64 ((rd_T107 l1_3 x6_3).f2)) ∧ w'.cell? ⟨(ad178.add ((x6_3).toNat * 5)).block, (ad178.add ((x6_3).toNat * 5)).off + 3, none⟩ = some (.int .i64 ((rd_T107 l1_3 x6_3).f3)) ∧ w'.cell? ⟨(ad178.add ((x6_3).toNat * 5)).block, (ad178.add ((x6_3).toNat * 5)).off + 4, none⟩ = some (.int .i64 ((rd_T107 l1_3 x6_3).f4))) (ds := []) L9' kZ rfl rfl ⟨(blk_cell BK170.out 0).trans rfl, (blk_cell BK170.out 1).trans rfl, (blk_cell BK170.out 2).trans rfl, (blk_cell BK170.out 3).trans rfl, ((HB.out.cell (World.block_lt_of_cell? w _ hw181_0)).trans hw181_0), ((HB.out.cell (World.block_lt_of_cell? w _ hw181_1)).trans hw181_1), ((HB.out.cell (World.block_lt_of_cell? w _ hw181_2)).trans hw181_2), ((HB.out.cell (World.block_lt_of_cell? w _ hw181_3)).trans hw181_3), ((HB.out.cell (World.block_lt_of_cell? w _ hw181_4)).trans hw181_4), ((HB.out.cell (World.block_lt_of_cell? w _ hw182_0)).trans hw182_0), ((HB.out.cell (World.block_lt_of_cell? w _ hw182_1)).trans hw182_1), ((HB.out.cell (World.block_lt_of_cell? w _ hw182_2)).trans hw182_2), ((HB.out.cell (World.block_lt_of_cell? w _ hw182_3)).trans hw182_3), ((HB.out.cell (World.block_lt_of_cell? w _ hw182_4)).trans hw182_4)⟩ (fun hHeld => ?_); refine with_tabW spec_EntryOk.tab18 spec_EntryOk.bits18 (fun HT_ HW_ => ?_)
          generalize w66.drew = w68 at BK169 BK170 HB hx181_0 hx181_1 hx181_2 hx181_3 hx181_4 hx182_0 hx182_1 hx182_2 hx182_3 hx182_4 hHeld ⊢; refine pure_ (i := 0) (N := some 88) (v := ?_) (a' := ?_) L10' rfl rfl (any_of HT_.out kZ) (fun _ _ _ h => h) (Or.inl ⟨by rfl, ?_⟩) ?_ ?_; rotate_left
          ·intro w'; go_simp; with_reducible rfl
          rotate_left
          ·simp only [Act.put, sZ1, sZ2, sZ3, i64_w, i32_w]; rfl
          refine pure_ (i := 2) (N := some 90) (v := ?_) (a' := ?_) L11' rfl rfl (any_of HT_.out kZ) (fun _ _ _ h => h) (Or.inl ⟨by rfl, ?_⟩) ?_ ?_; rotate_left
          ·intro w'; go_simp; with_reducible rfl
          rotate_left
          ·simp only [Act.put, sZ1, sZ2, sZ3, i64_w, i32_w]; rfl
          refine pure_ (i := 6) (N := some 94) (v := ?_) (a' := ?_) L12' rfl rfl (any_of HT_.out kZ) (fun _ _ _ h => h) (Or.inl ⟨by rfl, ?_⟩) ?_ ?_; rotate_left
          ·intro w'; go_simp; with_reducible rfl
          rotate_left
          ·simp only [Act.put, sZ1, sZ2, sZ3, i64_w, i32_w]; rfl
          refine pure_ (i := 8) (N := some 96) (v := ?_) (a' := ?_) L13' rfl rfl (any_of HT_.out kZ) (fun _ _ _ h => h) (Or.inl ⟨by rfl, ?_⟩) ?_ ?_; rotate_left
          ·intro w'; go_simp; with_reducible rfl
          rotate_left
          ·simp only [Act.put, sZ1, sZ2, sZ3, i64_w, i32_w]; rfl
          refine take_ (i := 1) (N := some 89) (v := ?_) (a' := ?_) L14' rfl rfl (take_ofW HT_.out HW_.out kZ) (fun _ _ _ h => h) (Or.inl ⟨by rfl, ?_⟩) hHeld ?_ ?_; rotate_left
          ·rintro w' ⟨s0, s1, s2, s3, s4, s5, s6, s7, s8, s9, s10, s11, s12, s13⟩
           go_simp; with_reducible rfl
          rotate_left
          ·simp only [Act.put, sZ1, sZ2, sZ3, i64_w, i32_w]; rfl
          refine pure_ (i := 3) (N := some 91) (v := ?_) (a' := ?_) L15' rfl rfl (any_of HT_.out kZ) (fun _ _ _ h => h) (Or.inl ⟨by rfl, ?_⟩) ?_ ?_; rotate_left
          ·intro w'; go_simp; with_reducible rfl
          rotate_left
          ·simp only [Act.put, sZ1, sZ2, sZ3, i64_w, i32_w]; rfl
          refine pure_ (i := 4) (N := some 92) (v := ?_) (a' := ?_) L16' rfl rfl (any_of HT_.out kZ) (fun _ _ _ h => h) (Or.inl ⟨by rfl, ?_⟩) ?_ ?_; rotate_left
          ·intro w'; go_simp; with_reducible rfl
          rotate_left
          ·simp only [Act.put, sZ1, sZ2, sZ3, i64_w, i32_w]; rfl
          refine take_ (i := 5) (N := some 93) (v := ?_) (a' := ?_) L17' rfl rfl (take_ofW HT_.out HW_.out kZ) (fun _ _ _ h => h) (Or.inl ⟨by rfl, ?_⟩) hHeld ?_ ?_; rotate_left
          ·rintro w' ⟨s0, s1, s2, s3, s4, s5, s6, s7, s8, s9, s10, s11, s12, s13⟩
           go_simp; with_reducible rfl
          rotate_left
          ·simp only [Act.put, sZ1, sZ2, sZ3, i64_w, i32_w]; rfl
          refine take_ (i := 7) (N := some 95) (v := ?_) (a' := ?_) L18' rfl rfl (take_ofW HT_.out HW_.out kZ) (fun _ _ _ h => h) (Or.inl ⟨by rfl, ?_⟩) hHeld ?_ ?_; rotate_left
          ·rintro w' ⟨s0, s1, s2, s3, s4, s5, s6, s7, s8, s9, s10, s11, s12, s13⟩
           go_simp; with_reducible rfl
          rotate_left
          ·simp only [Act.put, sZ1, sZ2, sZ3, i64_w, i32_w]; rfl
          refine pure_ (i := 9) (N := some 97) (v := ?_) (a' := ?_) L19' rfl rfl (any_of HT_.out kZ) (fun _ _ _ h => h) (Or.inl ⟨by rfl, ?_⟩) ?_ ?_; rotate_left
          ·intro w'; go_simp; with_reducible rfl
          rotate_left
          ·simp only [Act.put, sZ1, sZ2, sZ3, i64_w, i32_w]; rfl
          refine pure_ (i := 10) (N := some 98) (v := ?_) (a' := ?_) L20' rfl rfl (any_of HT_.out kZ) (fun _ _ _ h => h) (Or.inl ⟨by rfl, ?_⟩) ?_ ?_; rotate_left
          ·intro w'; go_simp; with_reducible rfl
          rotate_left
          ·simp only [Act.put, sZ1, sZ2, sZ3, i64_w, i32_w]; rfl
          refine take_ (i := 11) (N := some 99) (v := ?_) (a' := ?_) L21' rfl rfl (take_ofW HT_.out HW_.out kZ) (fun _ _ _ h => h) (Or.inl ⟨by rfl, ?_⟩) hHeld ?_ ?_; rotate_left
          ·rintro w' ⟨s0, s1, s2, s3, s4, s5, s6, s7, s8, s9, s10, s11, s12, s13⟩
           go_simp; with_reducible rfl
          rotate_left
          ·simp only [Act.put, sZ1, sZ2, sZ3, i64_w, i32_w]; rfl
          refine pure_ (i := 12) (N := some 100) (v := ?_) (a' := ?_) L22' rfl rfl (any_of HT_.out kZ) (fun _ _ _ h => h) (Or.inl ⟨by rfl, ?_⟩) ?_ ?_; rotate_left
          ·intro w'; go_simp; with_reducible rfl
          rotate_left
          ·simp only [Act.put, sZ1, sZ2, sZ3, i64_w, i32_w]; rfl
          refine done_ (done_of HT_.out kZ) ?_
          try go_wp2
          go_roundg k4
          case measure => have := HJ2.out; have := HK2.out; have := HK3.out; have := HK4.out; omega
          case rel => exact ⟨(wrap64 (x7_4 + ((rd_T107 l1_3 x9_4).f3))), (x8_4), (wrap64 (x9_4 + 1)), tZB, tZB, tZB, H', ⟨by have := HJ2.out; have := HK2.out; have := HK3.out; have := HK4.out; omega⟩, ⟨bkZ BK169.out⟩, ⟨bkZ BK170.out⟩, ⟨bZ⟩⟩
         rw [if_pos c57] at H; have c57b0 : (((rd_T107 l1_3 x9_4).f1) == ((rd_T107 l1_3 x6_3).f1)) = true := beq_iff_eq.mpr c57; have c57b1 : (((rd_T107 l1_3 x9_4).f1) != ((rd_T107 l1_3 x6_3).f1)) = false := bne_eq_false_iff_eq.mpr c57; clear c57; have H' := Aside0.mk H; clear H; have hnb58 := NB170_169.out; have hnc58 := NB169_170.out; obtain ⟨hcz59_0, hcz59_1, hcz59_2, hcz59_3, hfz59_0, hfz59_1, hfz59_2, hfz59_3⟩ := bc4 BK170.out
         try go_wp2
         replace BK169 := aZ (blk_drew BK169.out); replace BK170 := aZ (blk_drew BK170.out); replace HB := aZ (below_drew1 HB.out); have p178 : 0 ≤ (x9_4 : Int) := of_decide_eq_true tZE; have q178 : x9_4 < (l1_3.length : Int) := of_decide_eq_true tZE; obtain ⟨ad178, e178, hx178_0, hx178_1, hx178_2, hx178_3, hx178_4⟩ := at_T107 HR1_3.out x9_4 p178 q178; have hw178_4 := hx178_4; have hw178_3 := hx178_3; have hw178_2 := hx178_2; have hw178_1 := hx178_1; have hw178_0 := hx178_0
         cases e178
         replace hx178_0 := cZ HB hx178_0; replace hx178_1 := cZ HB hx178_1; replace hx178_2 := cZ HB hx178_2; replace hx178_3 := cZ HB hx178_3; replace hx178_4 := cZ HB hx178_4; replace p178 := eq_true p178; replace q178 := eq_true q178; have p179 : 0 ≤ (x6_3 : Int) := of_decide_eq_true tZE; have q179 : x6_3 < (l1_3.length : Int) := of_decide_eq_true tZE; obtain ⟨ad179, e179, hx179_0, hx179_1, hx179_2, hx179_3, hx179_4⟩ := at_T107 HR1_3.out x6_3 p179 q179; have hw179_4 := hx179_4; have hw179_3 := hx179_3; have hw179_2 := hx179_2; have hw179_1 := hx179_1; have hw179_0 := hx179_0; obtain rfl : ad178 = ad179 := (by injection e179); replace hx179_0 := cZ HB hx179_0; replace hx179_1 := cZ HB hx179_1; replace hx179_2 := cZ HB hx179_2; replace hx179_3 := cZ HB hx179_3; replace hx179_4 := cZ HB hx179_4; replace p179 := eq_true p179; replace q179 := eq_true q179
         refine start_ (n := 13) (S := fun w' => w'.cell? ⟨gb170, 0, none⟩ = some (.int .i64 a1_0) ∧ w'.cell? ⟨gb170, 1, none⟩ = some (.int .i64 a1_1) ∧ w'.cell? ⟨gb170, 2, none⟩ = some (.string a1_2) ∧ w'.cell? ⟨gb170, 3, none⟩ = some (.slice (some ad178) l1_3.length c1_3) ∧ w'.cell? (ad178.add ((x9_4).toNat * 5)) = some (.int .i64 ((rd_T107 l1_3 x9_4).f0)) ∧ w'.cell? ⟨(ad178.add ((x9_4).toNat * 5)).block, (ad178.add ((x9_4).toNat * 5)).off + 1, none⟩ = some (.int .i64 ((rd_T107 l1_3 x9_4).f1)) ∧ w'.cell? ⟨(ad178.add ((x9_4).toNat * 5)).block, (ad178.add ((x9_4).toNat * 5)).off + 2, none⟩ = some (.int .i64 ((rd_T107 l1_3 x9_4).f2)) ∧ w'.cell? ⟨(ad178.add ((x9_4).toNat * 5)).block, (ad178.add ((x9_4).toNat * 5)).off + 3, none⟩ = some (.int .i64 ((rd_T107 l1_3 x9_4).f3)) ∧ w'.cell? ⟨(ad178.add ((x9_4).toNat * 5)).block, (ad178.add ((x9_4).toNat * 5)).off + 4, none⟩ = some (.int .i64 ((rd_T107 l1_3 x9_4).f4)) ∧ w'.cell? (ad178.add ((x6_3).toNat * 5)) = some (.int .i64 ((rd_T107 l1_3 x6_3).f0)) ∧ w'.cell? ⟨(ad178.add ((x6_3).toNat * 5)).block, (ad178.add ((x6_3).toNat * 5)).off + 1, none⟩ = some (.int .i64 ((rd_T107 l1_3 x6_3).f1)) ∧ w'.cell? ⟨(ad178.add ((x6_3).toNat * 5)).block, (ad178.add ((x6_3).toNat * 5)).off + 2, none⟩ = some (.int .i64 ((rd_T107 l1_3 x6_3).f2)) ∧ w'.cell? ⟨(ad178.add ((x6_3).toNat * 5)).block, (ad178.add ((x6_3).toNat * 5)).off + 3, none⟩ = some (.int .i64 ((rd_T107 l1_3 x6_3).f3)) ∧ w'.cell? ⟨(ad178.add ((x6_3).toNat * 5)).block, (ad178.add ((x6_3).toNat * 5)).off + 4, none⟩ = some (.int .i64 ((rd_T107 l1_3 x6_3).f4))) (ds := []) L9' kZ rfl rfl ⟨(blk_cell BK170.out 0).trans rfl, (blk_cell BK170.out 1).trans rfl, (blk_cell BK170.out 2).trans rfl, (blk_cell BK170.out 3).trans rfl, ((HB.out.cell (World.block_lt_of_cell? w _ hw178_0)).trans hw178_0), ((HB.out.cell (World.block_lt_of_cell? w _ hw178_1)).trans hw178_1), ((HB.out.cell (World.block_lt_of_cell? w _ hw178_2)).trans hw178_2), ((HB.out.cell (World.block_lt_of_cell? w _ hw178_3)).trans hw178_3), ((HB.out.cell (World.block_lt_of_cell? w _ hw178_4)).trans hw178_4), ((HB.out.cell (World.block_lt_of_cell? w _ hw179_0)).trans hw179_0), ((HB.out.cell (World.block_lt_of_cell? w _ hw179_1)).trans hw179_1), ((HB.out.cell (World.block_lt_of_cell? w _ hw179_2)).trans hw179_2), ((HB.out.cell (World.block_lt_of_cell? w _ hw179_3)).trans hw179_3), ((HB.out.cell (World.block_lt_of_cell? w _ hw179_4)).trans hw179_4)⟩ (fun hHeld => ?_); refine with_tabW spec_EntryOk.tab16 spec_EntryOk.bits16 (fun HT_ HW_ => ?_)
         generalize wr.drew = w60 at BK169 BK170 HB hx178_0 hx178_1 hx178_2 hx178_3 hx178_4 hx179_0 hx179_1 hx179_2 hx179_3 hx179_4 hHeld ⊢; refine pure_ (i := 0) (N := some 67) (v := ?_) (a' := ?_) L10' rfl rfl (any_of HT_.out kZ) (fun _ _ _ h => h) (Or.inl ⟨by rfl, ?_⟩) ?_ ?_; rotate_left
         ·intro w'; go_simp; with_reducible rfl
         rotate_left
         ·simp only [Act.put, sZ1, sZ2, sZ3, i64_w, i32_w]; rfl
         refine pure_ (i := 2) (N := some 69) (v := ?_) (a' := ?_) L11' rfl rfl (any_of HT_.out kZ) (fun _ _ _ h => h) (Or.inl ⟨by rfl, ?_⟩) ?_ ?_; rotate_left
         ·intro w'; go_simp; with_reducible rfl
         rotate_left
         ·simp only [Act.put, sZ1, sZ2, sZ3, i64_w, i32_w]; rfl
         refine pure_ (i := 6) (N := some 73) (v := ?_) (a' := ?_) L12' rfl rfl (any_of HT_.out kZ) (fun _ _ _ h => h) (Or.inl ⟨by rfl, ?_⟩) ?_ ?_; rotate_left
         ·intro w'; go_simp; with_reducible rfl
         rotate_left
         ·simp only [Act.put, sZ1, sZ2, sZ3, i64_w, i32_w]; rfl
         refine pure_ (i := 8) (N := some 75) (v := ?_) (a' := ?_) L13' rfl rfl (any_of HT_.out kZ) (fun _ _ _ h => h) (Or.inl ⟨by rfl, ?_⟩) ?_ ?_; rotate_left
         ·intro w'; go_simp; with_reducible rfl
         rotate_left
         ·simp only [Act.put, sZ1, sZ2, sZ3, i64_w, i32_w]; rfl
         refine take_ (i := 1) (N := some 68) (v := ?_) (a' := ?_) L14' rfl rfl (take_ofW HT_.out HW_.out kZ) (fun _ _ _ h => h) (Or.inl ⟨by rfl, ?_⟩) hHeld ?_ ?_; rotate_left
         ·rintro w' ⟨s0, s1, s2, s3, s4, s5, s6, s7, s8, s9, s10, s11, s12, s13⟩
          go_simp; with_reducible rfl
         rotate_left
         ·simp only [Act.put, sZ1, sZ2, sZ3, i64_w, i32_w]; rfl
         refine pure_ (i := 3) (N := some 70) (v := ?_) (a' := ?_) L15' rfl rfl (any_of HT_.out kZ) (fun _ _ _ h => h) (Or.inl ⟨by rfl, ?_⟩) ?_ ?_; rotate_left
         ·intro w'; go_simp; with_reducible rfl
         rotate_left
         ·simp only [Act.put, sZ1, sZ2, sZ3, i64_w, i32_w]; rfl
         refine pure_ (i := 4) (N := some 71) (v := ?_) (a' := ?_) L16' rfl rfl (any_of HT_.out kZ) (fun _ _ _ h => h) (Or.inl ⟨by rfl, ?_⟩) ?_ ?_; rotate_left
         ·intro w'; go_simp; with_reducible rfl
         rotate_left
         ·simp only [Act.put, sZ1, sZ2, sZ3, i64_w, i32_w]; rfl
         refine take_ (i := 5) (N := some 72) (v := ?_) (a' := ?_) L17' rfl rfl (take_ofW HT_.out HW_.out kZ) (fun _ _ _ h => h) (Or.inl ⟨by rfl, ?_⟩) hHeld ?_ ?_; rotate_left
         ·rintro w' ⟨s0, s1, s2, s3, s4, s5, s6, s7, s8, s9, s10, s11, s12, s13⟩
          go_simp; with_reducible rfl
         rotate_left
         ·simp only [Act.put, sZ1, sZ2, sZ3, i64_w, i32_w]; rfl
         refine take_ (i := 7) (N := some 74) (v := ?_) (a' := ?_) L18' rfl rfl (take_ofW HT_.out HW_.out kZ) (fun _ _ _ h => h) (Or.inl ⟨by rfl, ?_⟩) hHeld ?_ ?_; rotate_left
         ·rintro w' ⟨s0, s1, s2, s3, s4, s5, s6, s7, s8, s9, s10, s11, s12, s13⟩
          go_simp; with_reducible rfl
         rotate_left
         ·simp only [Act.put, sZ1, sZ2, sZ3, i64_w, i32_w]; rfl
         refine pure_ (i := 9) (N := some 76) (v := ?_) (a' := ?_) L19' rfl rfl (any_of HT_.out kZ) (fun _ _ _ h => h) (Or.inl ⟨by rfl, ?_⟩) ?_ ?_; rotate_left
         ·intro w'; go_simp; with_reducible rfl
         rotate_left
         ·simp only [Act.put, sZ1, sZ2, sZ3, i64_w, i32_w]; rfl
         refine pure_ (i := 10) (N := some 77) (v := ?_) (a' := ?_) L20' rfl rfl (any_of HT_.out kZ) (fun _ _ _ h => h) (Or.inl ⟨by rfl, ?_⟩) ?_ ?_; rotate_left
         ·intro w'; go_simp; with_reducible rfl
         rotate_left
         ·simp only [Act.put, sZ1, sZ2, sZ3, i64_w, i32_w]; rfl
         refine take_ (i := 11) (N := some 78) (v := ?_) (a' := ?_) L21' rfl rfl (take_ofW HT_.out HW_.out kZ) (fun _ _ _ h => h) (Or.inl ⟨by rfl, ?_⟩) hHeld ?_ ?_; rotate_left
         ·rintro w' ⟨s0, s1, s2, s3, s4, s5, s6, s7, s8, s9, s10, s11, s12, s13⟩
          go_simp; with_reducible rfl
         rotate_left
         ·simp only [Act.put, sZ1, sZ2, sZ3, i64_w, i32_w]; rfl
         refine pure_ (i := 12) (N := some 79) (v := ?_) (a' := ?_) L22' rfl rfl (any_of HT_.out kZ) (fun _ _ _ h => h) (Or.inl ⟨by rfl, ?_⟩) ?_ ?_; rotate_left
         ·intro w'; go_simp; with_reducible rfl
         rotate_left
         ·simp only [Act.put, sZ1, sZ2, sZ3, i64_w, i32_w]; rfl
         refine done_ (done_of HT_.out kZ) ?_; obtain ⟨hcz61_0, hcz61_1, hcz61_2, hcz61_3, hfz61_0, hfz61_1, hfz61_2, hfz61_3⟩ := bc4 BK170.out; have p180 : 0 ≤ (x9_4 : Int) := of_decide_eq_true tZE; have q180 : x9_4 < (l1_3.length : Int) := of_decide_eq_true tZE; obtain ⟨ad180, e180, hx180_0, hx180_1, hx180_2, hx180_3, hx180_4⟩ := at_T107 HR1_3.out x9_4 p180 q180; obtain rfl : ad178 = ad180 := (by injection e180); replace hx180_0 := cZ HB hx180_0; replace hx180_1 := cZ HB hx180_1; replace hx180_2 := cZ HB hx180_2; replace hx180_3 := cZ HB hx180_3; replace hx180_4 := cZ HB hx180_4; replace p180 := eq_true p180; replace q180 := eq_true q180
         try go_wp2
         replace BK169 := aZ (blk_drew BK169.out); replace BK170 := aZ (blk_drew BK170.out); replace HB := aZ (below_drew1 HB.out); have p181 : 0 ≤ (x9_4 : Int) := of_decide_eq_true tZE; have q181 : x9_4 < (l1_3.length : Int) := of_decide_eq_true tZE; obtain ⟨ad181, e181, hx181_0, hx181_1, hx181_2, hx181_3, hx181_4⟩ := at_T107 HR1_3.out x9_4 p181 q181; have hw181_4 := hx181_4; have hw181_3 := hx181_3; have hw181_2 := hx181_2; have hw181_1 := hx181_1; have hw181_0 := hx181_0; obtain rfl : ad178 = ad181 := (by injection e181); replace hx181_0 := cZ HB hx181_0; replace hx181_1 := cZ HB hx181_1; replace hx181_2 := cZ HB hx181_2; replace hx181_3 := cZ HB hx181_3; replace hx181_4 := cZ HB hx181_4; replace p181 := eq_true p181; replace q181 := eq_true q181; have p182 : 0 ≤ (x6_3 : Int) := of_decide_eq_true tZE; have q182 : x6_3 < (l1_3.length : Int) := of_decide_eq_true tZE
         obtain ⟨ad182, e182, hx182_0, hx182_1, hx182_2, hx182_3, hx182_4⟩ := at_T107 HR1_3.out x6_3 p182 q182; have hw182_4 := hx182_4; have hw182_3 := hx182_3; have hw182_2 := hx182_2; have hw182_1 := hx182_1; have hw182_0 := hx182_0; obtain rfl : ad178 = ad182 := (by injection e182); replace hx182_0 := cZ HB hx182_0; replace hx182_1 := cZ HB hx182_1; replace hx182_2 := cZ HB hx182_2; replace hx182_3 := cZ HB hx182_3; replace hx182_4 := cZ HB hx182_4; replace p182 := eq_true p182; replace q182 := eq_true q182
         refine start_ (n := 13) (S := fun w' => w'.cell? ⟨gb170, 0, none⟩ = some (.int .i64 a1_0) ∧ w'.cell? ⟨gb170, 1, none⟩ = some (.int .i64 a1_1) ∧ w'.cell? ⟨gb170, 2, none⟩ = some (.string a1_2) ∧ w'.cell? ⟨gb170, 3, none⟩ = some (.slice (some ad178) l1_3.length c1_3) ∧ w'.cell? (ad178.add ((x9_4).toNat * 5)) = some (.int .i64 ((rd_T107 l1_3 x9_4).f0)) ∧ w'.cell? ⟨(ad178.add ((x9_4).toNat * 5)).block, (ad178.add ((x9_4).toNat * 5)).off + 1, none⟩ = some (.int .i64 ((rd_T107 l1_3 x9_4).f1)) ∧ w'.cell? ⟨(ad178.add ((x9_4).toNat * 5)).block, (ad178.add ((x9_4).toNat * 5)).off + 2, none⟩ = some (.int .i64 ((rd_T107 l1_3 x9_4).f2)) ∧ w'.cell? ⟨(ad178.add ((x9_4).toNat * 5)).block, (ad178.add ((x9_4).toNat * 5)).off + 3, none⟩ = some (.int .i64 ((rd_T107 l1_3 x9_4).f3)) ∧ w'.cell? ⟨(ad178.add ((x9_4).toNat * 5)).block, (ad178.add ((x9_4).toNat * 5)).off + 4, none⟩ = some (.int .i64 ((rd_T107 l1_3 x9_4).f4)) ∧ w'.cell? (ad178.add ((x6_3).toNat * 5)) = some (.int .i64 ((rd_T107 l1_3 x6_3).f0)) ∧ w'.cell? ⟨(ad178.add ((x6_3).toNat * 5)).block, (ad178.add ((x6_3).toNat * 5)).off + 1, none⟩ = some (.int .i64 ((rd_T107 l1_3 x6_3).f1)) ∧ w'.cell? ⟨(ad178.add ((x6_3).toNat * 5)).block, (ad178.add ((x6_3).toNat * 5)).off + 2, none⟩ = some (.int .i64 ((rd_T107 l1_3 x6_3).f2)) ∧ w'.cell? ⟨(ad178.add ((x6_3).toNat * 5)).block, (ad178.add ((x6_3).toNat * 5)).off + 3, none⟩ = some (.int .i64 ((rd_T107 l1_3 x6_3).f3)) ∧ w'.cell? ⟨(ad178.add ((x6_3).toNat * 5)).block, (ad178.add ((x6_3).toNat * 5)).off + 4, none⟩ = some (.int .i64 ((rd_T107 l1_3 x6_3).f4))) (ds := []) L9' kZ rfl rfl ⟨(blk_cell BK170.out 0).trans rfl, (blk_cell BK170.out 1).trans rfl, (blk_cell BK170.out 2).trans rfl, (blk_cell BK170.out 3).trans rfl, ((HB.out.cell (World.block_lt_of_cell? w _ hw181_0)).trans hw181_0), ((HB.out.cell (World.block_lt_of_cell? w _ hw181_1)).trans hw181_1), ((HB.out.cell (World.block_lt_of_cell? w _ hw181_2)).trans hw181_2), ((HB.out.cell (World.block_lt_of_cell? w _ hw181_3)).trans hw181_3), ((HB.out.cell (World.block_lt_of_cell? w _ hw181_4)).trans hw181_4), ((HB.out.cell (World.block_lt_of_cell? w _ hw182_0)).trans hw182_0), ((HB.out.cell (World.block_lt_of_cell? w _ hw182_1)).trans hw182_1), ((HB.out.cell (World.block_lt_of_cell? w _ hw182_2)).trans hw182_2), ((HB.out.cell (World.block_lt_of_cell? w _ hw182_3)).trans hw182_3), ((HB.out.cell (World.block_lt_of_cell? w _ hw182_4)).trans hw182_4)⟩ (fun hHeld => ?_); refine with_tabW spec_EntryOk.tab18 spec_EntryOk.bits18 (fun HT_ HW_ => ?_)
         generalize w60.drew = w62 at BK169 BK170 HB hx181_0 hx181_1 hx181_2 hx181_3 hx181_4 hx182_0 hx182_1 hx182_2 hx182_3 hx182_4 hHeld ⊢; refine pure_ (i := 0) (N := some 88) (v := ?_) (a' := ?_) L10' rfl rfl (any_of HT_.out kZ) (fun _ _ _ h => h) (Or.inl ⟨by rfl, ?_⟩) ?_ ?_; rotate_left
         ·intro w'; go_simp; with_reducible rfl
         rotate_left
         ·simp only [Act.put, sZ1, sZ2, sZ3, i64_w, i32_w]; rfl
         refine pure_ (i := 2) (N := some 90) (v := ?_) (a' := ?_) L11' rfl rfl (any_of HT_.out kZ) (fun _ _ _ h => h) (Or.inl ⟨by rfl, ?_⟩) ?_ ?_; rotate_left
         ·intro w'; go_simp; with_reducible rfl
         rotate_left
         ·simp only [Act.put, sZ1, sZ2, sZ3, i64_w, i32_w]; rfl
         refine pure_ (i := 6) (N := some 94) (v := ?_) (a' := ?_) L12' rfl rfl (any_of HT_.out kZ) (fun _ _ _ h => h) (Or.inl ⟨by rfl, ?_⟩) ?_ ?_; rotate_left
         ·intro w'; go_simp; with_reducible rfl
         rotate_left
         ·simp only [Act.put, sZ1, sZ2, sZ3, i64_w, i32_w]; rfl
         refine pure_ (i := 8) (N := some 96) (v := ?_) (a' := ?_) L13' rfl rfl (any_of HT_.out kZ) (fun _ _ _ h => h) (Or.inl ⟨by rfl, ?_⟩) ?_ ?_; rotate_left
         ·intro w'; go_simp; with_reducible rfl
         rotate_left
         ·simp only [Act.put, sZ1, sZ2, sZ3, i64_w, i32_w]; rfl
         refine take_ (i := 1) (N := some 89) (v := ?_) (a' := ?_) L14' rfl rfl (take_ofW HT_.out HW_.out kZ) (fun _ _ _ h => h) (Or.inl ⟨by rfl, ?_⟩) hHeld ?_ ?_; rotate_left
         ·rintro w' ⟨s0, s1, s2, s3, s4, s5, s6, s7, s8, s9, s10, s11, s12, s13⟩
          go_simp; with_reducible rfl
         rotate_left
         ·simp only [Act.put, sZ1, sZ2, sZ3, i64_w, i32_w]; rfl
         refine pure_ (i := 3) (N := some 91) (v := ?_) (a' := ?_) L15' rfl rfl (any_of HT_.out kZ) (fun _ _ _ h => h) (Or.inl ⟨by rfl, ?_⟩) ?_ ?_; rotate_left
         ·intro w'; go_simp; with_reducible rfl
         rotate_left
         ·simp only [Act.put, sZ1, sZ2, sZ3, i64_w, i32_w]; rfl
         refine pure_ (i := 4) (N := some 92) (v := ?_) (a' := ?_) L16' rfl rfl (any_of HT_.out kZ) (fun _ _ _ h => h) (Or.inl ⟨by rfl, ?_⟩) ?_ ?_; rotate_left
         ·intro w'; go_simp; with_reducible rfl
         rotate_left
         ·simp only [Act.put, sZ1, sZ2, sZ3, i64_w, i32_w]; rfl
         refine take_ (i := 5) (N := some 93) (v := ?_) (a' := ?_) L17' rfl rfl (take_ofW HT_.out HW_.out kZ) (fun _ _ _ h => h) (Or.inl ⟨by rfl, ?_⟩) hHeld ?_ ?_; rotate_left
         ·rintro w' ⟨s0, s1, s2, s3, s4, s5, s6, s7, s8, s9, s10, s11, s12, s13⟩
          go_simp; with_reducible rfl
         rotate_left
         ·simp only [Act.put, sZ1, sZ2, sZ3, i64_w, i32_w]; rfl
         refine take_ (i := 7) (N := some 95) (v := ?_) (a' := ?_) L18' rfl rfl (take_ofW HT_.out HW_.out kZ) (fun _ _ _ h => h) (Or.inl ⟨by rfl, ?_⟩) hHeld ?_ ?_; rotate_left
         ·rintro w' ⟨s0, s1, s2, s3, s4, s5, s6, s7, s8, s9, s10, s11, s12, s13⟩
          go_simp; with_reducible rfl
         rotate_left
         ·simp only [Act.put, sZ1, sZ2, sZ3, i64_w, i32_w]; rfl
         refine pure_ (i := 9) (N := some 97) (v := ?_) (a' := ?_) L19' rfl rfl (any_of HT_.out kZ) (fun _ _ _ h => h) (Or.inl ⟨by rfl, ?_⟩) ?_ ?_; rotate_left
         ·intro w'; go_simp; with_reducible rfl
         rotate_left
         ·simp only [Act.put, sZ1, sZ2, sZ3, i64_w, i32_w]; rfl
         refine pure_ (i := 10) (N := some 98) (v := ?_) (a' := ?_) L20' rfl rfl (any_of HT_.out kZ) (fun _ _ _ h => h) (Or.inl ⟨by rfl, ?_⟩) ?_ ?_; rotate_left
         ·intro w'; go_simp; with_reducible rfl
         rotate_left
         ·simp only [Act.put, sZ1, sZ2, sZ3, i64_w, i32_w]; rfl
         refine take_ (i := 11) (N := some 99) (v := ?_) (a' := ?_) L21' rfl rfl (take_ofW HT_.out HW_.out kZ) (fun _ _ _ h => h) (Or.inl ⟨by rfl, ?_⟩) hHeld ?_ ?_; rotate_left
         ·rintro w' ⟨s0, s1, s2, s3, s4, s5, s6, s7, s8, s9, s10, s11, s12, s13⟩
          go_simp; with_reducible rfl
         rotate_left
         ·simp only [Act.put, sZ1, sZ2, sZ3, i64_w, i32_w]; rfl
         refine pure_ (i := 12) (N := some 100) (v := ?_) (a' := ?_) L22' rfl rfl (any_of HT_.out kZ) (fun _ _ _ h => h) (Or.inl ⟨by rfl, ?_⟩) ?_ ?_; rotate_left
         ·intro w'; go_simp; with_reducible rfl
         rotate_left
         ·simp only [Act.put, sZ1, sZ2, sZ3, i64_w, i32_w]; rfl
         refine done_ (done_of HT_.out kZ) ?_; obtain ⟨hcz63_0, hcz63_1, hcz63_2, hcz63_3, hfz63_0, hfz63_1, hfz63_2, hfz63_3⟩ := bc4 BK170.out; have p183 : 0 ≤ (x9_4 : Int) := of_decide_eq_true tZE; have q183 : x9_4 < (l1_3.length : Int) := of_decide_eq_true tZE; obtain ⟨ad183, e183, hx183_0, hx183_1, hx183_2, hx183_3, hx183_4⟩ := at_T107 HR1_3.out x9_4 p183 q183; obtain rfl : ad178 = ad183 := (by injection e183); replace hx183_0 := cZ HB hx183_0; replace hx183_1 := cZ HB hx183_1; replace hx183_2 := cZ HB hx183_2; replace hx183_3 := cZ HB hx183_3; replace hx183_4 := cZ HB hx183_4; replace p183 := eq_true p183; replace q183 := eq_true q183
         try go_wp2
         go_roundg k4
         case measure => have := HJ2.out; have := HK2.out; have := HK3.out; have := HK4.out; omega
         case rel => exact ⟨(wrap64 (x7_4 + ((rd_T107 l1_3 x9_4).f3))), (wrap64 (x8_4 + ((rd_T107 l1_3 x9_4).f4))), (wrap64 (x9_4 + 1)), tZB, tZB, tZB, H', ⟨by have := HJ2.out; have := HK2.out; have := HK3.out; have := HK4.out; omega⟩, ⟨bkZ BK169.out⟩, ⟨bkZ BK170.out⟩, ⟨bZ⟩⟩
end Go.Proofs.Ytmpknbdbichdiaa.PFnExactLedgerOk
