import Derived.Test.YtjnmfadnkbflfaaEPFnExactEntryOkx0
import Derived.Test.YtjnmfadnkbflfaaEPFnExactEntryOkx1
import Derived.Test.YtjnmfadnkbflfaaEPFnExactEntryOkx3
import Derived.Test.YtjnmfadnkbflfaaEPFnExactEntryOkx4
import Derived.Test.YtjnmfadnkbflfaaESlimWords
namespace Go.Proofs.Ytjnmfadnkbflfaa.PFnExactEntryOk
open Go.Proofs.Ytjnmfadnkbflfaa.SlimWords
open Go.RowKit Go.Proofs.YtjnmfadnkbflfaaW.PrintWords Go.Proofs.YtjnmfadnkbflfaaW.PrintLast Go.Proofs.YtjnmfadnkbflfaaW.PrintMore Go.Proofs.Ytjnmfadnkbflfaa.MapWords Go.Proofs.Ytjnmfadnkbflfaa.IterWords Go.Proofs.Ytjnmfadnkbflfaa.MarkWords
attribute [local go_sem] max2_int min2_int max_two min_two max_three min_three max_four min_four
set_option linter.unusedVariables false
set_option linter.unusedSimpArgs false
private abbrev I' := true
private abbrev O' := false
private abbrev L0' : Array Bool := #[O',O',O',O',O',O',O',O']
private abbrev L1' : Array Bool := #[O',I',O',O',O',O',O',O']
private abbrev L2' : Array Bool := #[O',I',O',I',O',O',O',O']
private abbrev L3' : Array Bool := #[I',I',O',I',O',O',O',O']
private abbrev L4' : Array Bool := #[I',I',I',I',O',O',O',O']
private abbrev L5' : Array Bool := #[I',I',I',I',I',O',O',O']
private abbrev L6' : Array Bool := #[I',I',I',I',I',I',O',O']
private abbrev L7' : Array Bool := #[I',I',I',I',I',I',I',O']
private abbrev L8' : Array Bool := #[I',I',I',I',I',I',I',I']
private abbrev L9' : Array Bool := #[O',O',O',O',O',O',O',O',O',O',O',O',O']
private abbrev L10' : Array Bool := #[I',O',O',O',O',O',O',O',O',O',O',O',O']
private abbrev L11' : Array Bool := #[I',O',I',O',O',O',O',O',O',O',O',O',O']
private abbrev L12' : Array Bool := #[I',O',I',O',O',O',I',O',O',O',O',O',O']
private abbrev L13' : Array Bool := #[I',O',I',O',O',O',I',O',I',O',O',O',O']
private abbrev L14' : Array Bool := #[I',I',I',O',O',O',I',O',I',O',O',O',O']
private abbrev L15' : Array Bool := #[I',I',I',I',O',O',I',O',I',O',O',O',O']
private abbrev L16' : Array Bool := #[I',I',I',I',I',O',I',O',I',O',O',O',O']
private abbrev L17' : Array Bool := #[I',I',I',I',I',I',I',O',I',O',O',O',O']
private abbrev L18' : Array Bool := #[I',I',I',I',I',I',I',I',I',O',O',O',O']
private abbrev L19' : Array Bool := #[I',I',I',I',I',I',I',I',I',I',O',O',O']
private abbrev L20' : Array Bool := #[I',I',I',I',I',I',I',I',I',I',I',O',O']
private abbrev L21' : Array Bool := #[I',I',I',I',I',I',I',I',I',I',I',I',O']
private abbrev L22' : Array Bool := #[I',I',I',I',I',I',I',I',I',I',I',I',I']
mutual
def spec_EntryOk.j0 : Nat → Bool → List (S188) → Int → Int → Int → Int → ByteArray → List (S109) → Option (Bool)
  | 0, _, _, _, _, _, _, _, _ => none
  | k + 1, x37, x139000, x139001, x139002, x140000, x140001, x140002, x140003 => if x37 = true then (some false) else (spec_EntryOk.l0 k 0 x139000 x139001 x139002 x140000 x140001 x140002 x140003)
def spec_EntryOk.l0 : Nat → Int → List (S188) → Int → Int → Int → Int → ByteArray → List (S109) → Option (Bool)
  | 0, _, _, _, _, _, _, _, _ => none
  | k + 1, x5, x139000, x139001, x139002, x140000, x140001, x140002, x140003 => if x5 < (x140003.length : Int) then (if 0 ≤ x5 then ((spec_l5LineOk.f k x139000 x139001 x139002 ((rd_T109 x140003 x5).f0) ((rd_T109 x140003 x5).f1) ((rd_T109 x140003 x5).f2) ((rd_T109 x140003 x5).f3) ((rd_T109 x140003 x5).f4)).bind fun t146 => (if t146 = true then (spec_EntryOk.l0 k (wrap64 (x5 + 1)) x139000 x139001 x139002 x140000 x140001 x140002 x140003) else (some false))) else (none)) else (spec_EntryOk.l1 k 0 x140000 x140001 x140002 x140003)
def spec_EntryOk.l1 : Nat → Int → Int → Int → ByteArray → List (S109) → Option (Bool)
  | 0, _, _, _, _, _ => none
  | k + 1, x6, x140000, x140001, x140002, x140003 => if x6 < (x140003.length : Int) then (spec_EntryOk.l2 k x6 0 0 0 x140000 x140001 x140002 x140003) else (some true)
def spec_EntryOk.l2 : Nat → Int → Int → Int → Int → Int → Int → ByteArray → List (S109) → Option (Bool)
  | 0, _, _, _, _, _, _, _, _ => none
  | k + 1, x6, x7, x8, x9, x140000, x140001, x140002, x140003 => if x9 < (x140003.length : Int) then (if 0 ≤ x9 then (if 0 ≤ x6 then (if x6 < (x140003.length : Int) then (if ((rd_T109 x140003 x9).f2) = ((rd_T109 x140003 x6).f2) then (if ((rd_T109 x140003 x9).f1) = ((rd_T109 x140003 x6).f1) then (spec_EntryOk.l2 k x6 (wrap64 (x7 + ((rd_T109 x140003 x9).f3))) (wrap64 (x8 + ((rd_T109 x140003 x9).f4))) (wrap64 (x9 + 1)) x140000 x140001 x140002 x140003) else (spec_EntryOk.l2 k x6 (wrap64 (x7 + ((rd_T109 x140003 x9).f3))) x8 (wrap64 (x9 + 1)) x140000 x140001 x140002 x140003)) else (if ((rd_T109 x140003 x9).f1) = ((rd_T109 x140003 x6).f1) then (spec_EntryOk.l2 k x6 x7 (wrap64 (x8 + ((rd_T109 x140003 x9).f4))) (wrap64 (x9 + 1)) x140000 x140001 x140002 x140003) else (spec_EntryOk.l2 k x6 x7 x8 (wrap64 (x9 + 1)) x140000 x140001 x140002 x140003))) else (none)) else (none)) else (none)) else (if x7 = 0 then (if x8 = 0 then (spec_EntryOk.l1 k (wrap64 (x6 + 1)) x140000 x140001 x140002 x140003) else (some false)) else (some false))
end
def spec_EntryOk.f (k : Nat) (l0_0 : List (S188)) (a0_1 : Int) (a0_2 : Int) (a1_0 : Int) (a1_1 : Int) (a1_2 : ByteArray) (l1_3 : List (S109)) : Option (Bool) := (spec_FrameOk.f k l0_0 a0_1 a0_2).bind fun t140 => (if t140 = true then ((spec_l2Day.f a1_0).bind fun t141 => (if t141 = true then ((spec_l1In.f a1_1 0 1000).bind fun t142 => (if t142 = true then ((spec_l5TextOk.f k a1_2).bind fun t143 => (if t143 = true then ((spec_l1In.f (l1_3.length : Int) 2 60).bind fun t144 => (spec_EntryOk.j0 k (!t144) l0_0 a0_1 a0_2 a1_0 a1_1 a1_2 l1_3)) else (spec_EntryOk.j0 k true l0_0 a0_1 a0_2 a1_0 a1_1 a1_2 l1_3))) else (spec_EntryOk.j0 k true l0_0 a0_1 a0_2 a1_0 a1_1 a1_2 l1_3))) else (spec_EntryOk.j0 k true l0_0 a0_1 a0_2 a1_0 a1_1 a1_2 l1_3))) else (spec_EntryOk.j0 k true l0_0 a0_1 a0_2 a1_0 a1_1 a1_2 l1_3))
theorem spec_EntryOk.mono_l : ∀ k, (∀ y0 y1 y2 y3 y4 y5 y6 y7, LeO (spec_EntryOk.j0 k y0 y1 y2 y3 y4 y5 y6 y7) (spec_EntryOk.j0 (k + 1) y0 y1 y2 y3 y4 y5 y6 y7)) ∧ (∀ y0 y1 y2 y3 y4 y5 y6 y7, LeO (spec_EntryOk.l0 k y0 y1 y2 y3 y4 y5 y6 y7) (spec_EntryOk.l0 (k + 1) y0 y1 y2 y3 y4 y5 y6 y7)) ∧ (∀ y0 y1 y2 y3 y4, LeO (spec_EntryOk.l1 k y0 y1 y2 y3 y4) (spec_EntryOk.l1 (k + 1) y0 y1 y2 y3 y4)) ∧ (∀ y0 y1 y2 y3 y4 y5 y6 y7, LeO (spec_EntryOk.l2 k y0 y1 y2 y3 y4 y5 y6 y7) (spec_EntryOk.l2 (k + 1) y0 y1 y2 y3 y4 y5 y6 y7))
  | 0 => ⟨fun _ _ _ _ _ _ _ _ r h => by simp [spec_EntryOk.j0] at h, fun _ _ _ _ _ _ _ _ r h => by simp [spec_EntryOk.l0] at h, fun _ _ _ _ _ r h => by simp [spec_EntryOk.l1] at h, fun _ _ _ _ _ _ _ _ r h => by simp [spec_EntryOk.l2] at h⟩
  | k + 1 => by
    obtain ⟨ih0, ih1, ih2, ih3⟩ := spec_EntryOk.mono_l k
    refine ⟨?_, ?_, ?_, ?_⟩
    · intro y0 y1 y2 y3 y4 y5 y6 y7
      unfold spec_EntryOk.j0
      repeat' first
      | (with_reducible exact ih0 _ _ _ _ _ _ _ _)
      | (with_reducible exact ih1 _ _ _ _ _ _ _ _)
      | (with_reducible exact ih2 _ _ _ _ _)
      | (with_reducible exact ih3 _ _ _ _ _ _ _ _)
      | (with_reducible exact spec_FrameOk.mono _ _ _ _)
      | (with_reducible exact spec_l5LineOk.mono _ _ _ _ _ _ _ _ _)
      | (with_reducible exact spec_l5TextOk.mono _ _)
      | (with_reducible exact LeO.refl _)
      | (with_reducible exact LeO.none _)
      | (with_reducible refine LeO.ite ?_ ?_)
      | (with_reducible refine LeO.bind ?_ (fun _ => ?_))
      | exact ih0 _ _ _ _ _ _ _ _
      | exact ih1 _ _ _ _ _ _ _ _
      | exact ih2 _ _ _ _ _
      | exact ih3 _ _ _ _ _ _ _ _
      | exact spec_FrameOk.mono _ _ _ _
      | exact spec_l5LineOk.mono _ _ _ _ _ _ _ _ _
      | exact spec_l5TextOk.mono _ _
      | exact LeO.none _
      | refine LeO.ite ?_ ?_
      | refine LeO.bind ?_ (fun _ => ?_)
    · intro y0 y1 y2 y3 y4 y5 y6 y7
      unfold spec_EntryOk.l0
      repeat' first
      | (with_reducible exact ih0 _ _ _ _ _ _ _ _)
      | (with_reducible exact ih1 _ _ _ _ _ _ _ _)
      | (with_reducible exact ih2 _ _ _ _ _)
      | (with_reducible exact ih3 _ _ _ _ _ _ _ _)
      | (with_reducible exact spec_FrameOk.mono _ _ _ _)
      | (with_reducible exact spec_l5LineOk.mono _ _ _ _ _ _ _ _ _)
      | (with_reducible exact spec_l5TextOk.mono _ _)
      | (with_reducible exact LeO.refl _)
      | (with_reducible exact LeO.none _)
      | (with_reducible refine LeO.ite ?_ ?_)
      | (with_reducible refine LeO.bind ?_ (fun _ => ?_))
      | exact ih0 _ _ _ _ _ _ _ _
      | exact ih1 _ _ _ _ _ _ _ _
      | exact ih2 _ _ _ _ _
      | exact ih3 _ _ _ _ _ _ _ _
      | exact spec_FrameOk.mono _ _ _ _
      | exact spec_l5LineOk.mono _ _ _ _ _ _ _ _ _
      | exact spec_l5TextOk.mono _ _
      | exact LeO.none _
      | refine LeO.ite ?_ ?_
      | refine LeO.bind ?_ (fun _ => ?_)
    · intro y0 y1 y2 y3 y4
      unfold spec_EntryOk.l1
      repeat' first
      | (with_reducible exact ih0 _ _ _ _ _ _ _ _)
      | (with_reducible exact ih1 _ _ _ _ _ _ _ _)
      | (with_reducible exact ih2 _ _ _ _ _)
      | (with_reducible exact ih3 _ _ _ _ _ _ _ _)
      | (with_reducible exact spec_FrameOk.mono _ _ _ _)
      | (with_reducible exact spec_l5LineOk.mono _ _ _ _ _ _ _ _ _)
      | (with_reducible exact spec_l5TextOk.mono _ _)
      | (with_reducible exact LeO.refl _)
      | (with_reducible exact LeO.none _)
      | (with_reducible refine LeO.ite ?_ ?_)
      | (with_reducible refine LeO.bind ?_ (fun _ => ?_))
      | exact ih0 _ _ _ _ _ _ _ _
      | exact ih1 _ _ _ _ _ _ _ _
      | exact ih2 _ _ _ _ _
      | exact ih3 _ _ _ _ _ _ _ _
      | exact spec_FrameOk.mono _ _ _ _
      | exact spec_l5LineOk.mono _ _ _ _ _ _ _ _ _
      | exact spec_l5TextOk.mono _ _
      | exact LeO.none _
      | refine LeO.ite ?_ ?_
      | refine LeO.bind ?_ (fun _ => ?_)
    · intro y0 y1 y2 y3 y4 y5 y6 y7
      unfold spec_EntryOk.l2
      repeat' first
      | (with_reducible exact ih0 _ _ _ _ _ _ _ _)
      | (with_reducible exact ih1 _ _ _ _ _ _ _ _)
      | (with_reducible exact ih2 _ _ _ _ _)
      | (with_reducible exact ih3 _ _ _ _ _ _ _ _)
      | (with_reducible exact spec_FrameOk.mono _ _ _ _)
      | (with_reducible exact spec_l5LineOk.mono _ _ _ _ _ _ _ _ _)
      | (with_reducible exact spec_l5TextOk.mono _ _)
      | (with_reducible exact LeO.refl _)
      | (with_reducible exact LeO.none _)
      | (with_reducible refine LeO.ite ?_ ?_)
      | (with_reducible refine LeO.bind ?_ (fun _ => ?_))
      | exact ih0 _ _ _ _ _ _ _ _
      | exact ih1 _ _ _ _ _ _ _ _
      | exact ih2 _ _ _ _ _
      | exact ih3 _ _ _ _ _ _ _ _
      | exact spec_FrameOk.mono _ _ _ _
      | exact spec_l5LineOk.mono _ _ _ _ _ _ _ _ _
      | exact spec_l5TextOk.mono _ _
      | exact LeO.none _
      | refine LeO.ite ?_ ?_
      | refine LeO.bind ?_ (fun _ => ?_)
theorem spec_EntryOk.mono : ∀ a0 a1 a2 a3 a4 a5 a6 k, LeO (spec_EntryOk.f k a0 a1 a2 a3 a4 a5 a6) (spec_EntryOk.f (k + 1) a0 a1 a2 a3 a4 a5 a6) := by
 intro a0 a1 a2 a3 a4 a5 a6 k
 obtain ⟨ih0, ih1, ih2, ih3⟩ := spec_EntryOk.mono_l k
 unfold spec_EntryOk.f
 repeat' first
     | (with_reducible exact ih0 _ _ _ _ _ _ _ _)
     | (with_reducible exact ih1 _ _ _ _ _ _ _ _)
     | (with_reducible exact ih2 _ _ _ _ _)
     | (with_reducible exact ih3 _ _ _ _ _ _ _ _)
     | (with_reducible exact spec_FrameOk.mono _ _ _ _)
     | (with_reducible exact spec_l5LineOk.mono _ _ _ _ _ _ _ _ _)
     | (with_reducible exact spec_l5TextOk.mono _ _)
     | (with_reducible exact LeO.refl _)
     | (with_reducible exact LeO.none _)
     | (with_reducible refine LeO.ite ?_ ?_)
     | (with_reducible refine LeO.bind ?_ (fun _ => ?_))
     | exact ih0 _ _ _ _ _ _ _ _
     | exact ih1 _ _ _ _ _ _ _ _
     | exact ih2 _ _ _ _ _
     | exact ih3 _ _ _ _ _ _ _ _
     | exact spec_FrameOk.mono _ _ _ _
     | exact spec_l5LineOk.mono _ _ _ _ _ _ _ _ _
     | exact spec_l5TextOk.mono _ _
     | exact LeO.none _
     | refine LeO.ite ?_ ?_
     | refine LeO.bind ?_ (fun _ => ?_)
def spec_EntryOk.T6 : Bool × List (List Nat × List Nat) := (true, [([], []), ([], []), ([1], [1]), ([], []), ([2, 3], [2, 3]), ([4], [4]), ([0, 5], [0, 5]), ([6], [6])])
def spec_EntryOk.B6 : List Nat := [0, 0, 2, 0, 14, 30, 63, 127]
theorem spec_EntryOk.tab6 : rtab .any (opsOf Try.f16 6) = spec_EntryOk.T6 := by kernel_rfl
theorem spec_EntryOk.bits6 : waitsOk spec_EntryOk.T6.2 spec_EntryOk.B6 = true := by kernel_rfl
def spec_EntryOk.T16 : Bool × List (List Nat × List Nat) := (true, [([], []), ([0], [0]), ([], []), ([1, 2], [1, 2]), ([3], [3]), ([4], [4]), ([], []), ([6], [6]), ([], []), ([7, 8], [7, 8]), ([9], [9]), ([10], [10]), ([5, 11], [5, 11])])
def spec_EntryOk.B16 : List Nat := [0, 1, 0, 7, 15, 31, 0, 64, 0, 448, 960, 1984, 4095]
theorem spec_EntryOk.tab16 : rtab .any (opsOf Try.f16 16) = spec_EntryOk.T16 := by kernel_rfl
theorem spec_EntryOk.bits16 : waitsOk spec_EntryOk.T16.2 spec_EntryOk.B16 = true := by kernel_rfl
def spec_EntryOk.T18 : Bool × List (List Nat × List Nat) := (true, [([], []), ([0], [0]), ([], []), ([1, 2], [1, 2]), ([3], [3]), ([4], [4]), ([], []), ([6], [6]), ([], []), ([7, 8], [7, 8]), ([9], [9]), ([10], [10]), ([5, 11], [5, 11])])
def spec_EntryOk.B18 : List Nat := [0, 1, 0, 7, 15, 31, 0, 64, 0, 448, 960, 1984, 4095]
theorem spec_EntryOk.tab18 : rtab .any (opsOf Try.f16 18) = spec_EntryOk.T18 := by kernel_rfl
theorem spec_EntryOk.bits18 : waitsOk spec_EntryOk.T18.2 spec_EntryOk.B18 = true := by kernel_rfl
set_option maxHeartbeats 8000000 in
set_option maxRecDepth 100000 in
theorem spec_EntryOk.calls (k : Nat) (A0_0 : Option Addr) (c0_0 : Nat) (l0_0 : List (S188)) (a0_1 : Int) (a0_2 : Int) (a1_0 : Int) (a1_1 : Int) (a1_2 : ByteArray) (A1_3 : Option Addr) (c1_3 : Nat) (l1_3 : List (S109)) (r : Bool) (w : World) (hr0_0 : Kd.C k188 w A0_0 l0_0.length l0_0) (hc0_0 : l0_0.length ≤ c0_0) (hr1_3 : Kd.C k109 w A1_3 l1_3.length l1_3) (hc1_3 : l1_3.length ≤ c1_3) (h : spec_EntryOk.f k l0_0 a0_1 a0_2 a1_0 a1_1 a1_2 l1_3 = some r) :
    Calls Try.prog 16 #[.agg #[.slice A0_0 l0_0.length c0_0, .int .i64 a0_1, .int .i64 a0_2], .agg #[.int .i64 a1_0, .int .i64 a1_1, .string a1_2, .slice A1_3 l1_3.length c1_3]] w fun e w' => e = .returned (.bool r) ∧ Below w.heap.size w w' := by
 have hu33 := Try.underlying33
 have hu37 := Try.underlying37
 have hu109 := Try.underlying109
 have HR0_0 := Aside0.mk hr0_0
 have HC0_0 := Aside0.mk hc0_0
 clear hr0_0 hc0_0
 have HR1_3 := Aside0.mk hr1_3
 have HC1_3 := Aside0.mk hc1_3
 clear hr1_3 hc1_3
 have HB := aZ (Below.refl w.heap.size w)
 have H : ((spec_FrameOk.f k l0_0 a0_1 a0_2).bind fun t140 => (if t140 = true then ((spec_l2Day.f a1_0).bind fun t141 => (if t141 = true then ((spec_l1In.f a1_1 0 1000).bind fun t142 => (if t142 = true then ((spec_l5TextOk.f k a1_2).bind fun t143 => (if t143 = true then ((spec_l1In.f (l1_3.length : Int) 2 60).bind fun t144 => (spec_EntryOk.j0 k (!t144) l0_0 a0_1 a0_2 a1_0 a1_1 a1_2 l1_3)) else (spec_EntryOk.j0 k true l0_0 a0_1 a0_2 a1_0 a1_1 a1_2 l1_3))) else (spec_EntryOk.j0 k true l0_0 a0_1 a0_2 a1_0 a1_1 a1_2 l1_3))) else (spec_EntryOk.j0 k true l0_0 a0_1 a0_2 a1_0 a1_1 a1_2 l1_3))) else (spec_EntryOk.j0 k true l0_0 a0_1 a0_2 a1_0 a1_1 a1_2 l1_3))) = some r := h
 clear h
 have HC3 := Aside0.mk H
 clear H
 go_enter Try.func16, Try.ntmps16
 go_upto_region 1 with (first | ((with_reducible refine gate_dst (N := 2) rfl ?_); (try (refine gate_guard (by rfl) ?_; dsimp only)); refine box_event ?hg (N := 2) ?hd (cs := #[.slice A0_0 l0_0.length c0_0, .int .i64 a0_1, .int .i64 a0_2]) (t := 33) ?hr ?_; (case hd => rfl); (case hg => rfl); (case hr => first | (go_simp; done) | (go_simp; rfl)); intro gb138 hg w4 hbox hb; have BK138 := aZ (hbox); have GW138 := aZ ((by rw [hg]; exact (below_size (lZB HB.out)) : w.heap.size ≤ gb138)); have GE138 := aZ ((by rw [hg]; exact (below_size (lZB HB.out)) : w.heap.size ≤ gb138)); replace HB := aZ (below_step (lZB HB.out) hb); clear hb hbox hg) | ((with_reducible refine gate_dst (N := 3) rfl ?_); (try (refine gate_guard (by rfl) ?_; dsimp only)); refine box_event ?hg (N := 3) ?hd (cs := #[.int .i64 a1_0, .int .i64 a1_1, .string a1_2, .slice A1_3 l1_3.length c1_3]) (t := 37) ?hr ?_; (case hd => rfl); (case hg => rfl); (case hr => first | (go_simp; done) | (go_simp; rfl)); intro gb139 hg w5 hbox hb; have BK139 := aZ (hbox); have GW139 := aZ ((by rw [hg]; exact (below_size bZ) : w.heap.size ≤ gb139)); have GE139 := aZ ((by rw [hg]; exact (below_size bZ) : w.heap.size ≤ gb139)); replace HB := aZ (below_step bZ hb); have NB138_139 := aZ ((by rw [hg]; exact Nat.ne_of_lt (blk_lt (bkZ BK138.out)) : gb138 ≠ gb139)); have NB139_138 := aZ ((by rw [hg]; exact Nat.ne_of_gt (blk_lt (bkZ BK138.out)) : gb139 ≠ gb138)); replace BK138 := aZ (blk_below (bkZ BK138.out) hb); clear hb hbox hg))
 (try simp only [Act.put, sZ1, sZ2, sZ3])
 go_cut [37] (fun v37 wc => ∃ (kq : Nat) (x37_2 : Bool), v37 = .bool x37_2 ∧ Aside0 (spec_EntryOk.j0 kq x37_2 l0_0 a0_1 a0_2 a1_0 a1_1 a1_2 l1_3 = some r) ∧ Aside0 (kq ≤ k) ∧ Aside0 (wc.heap[gb138]? = some (.cells #[(.slice A0_0 l0_0.length c0_0), .int .i64 a0_1, .int .i64 a0_2] 33 (0, 0))) ∧ Aside0 (wc.heap[gb139]? = some (.cells #[.int .i64 a1_0, .int .i64 a1_1, .string a1_2, (.slice A1_3 l1_3.length c1_3)] 37 (0, 0))) ∧ Aside0 (Below w.heap.size w wc))
 case first =>
  have H := HC3.out
  clear HC3
  replace H := Option.bind_eq_some_iff.mp H
  obtain ⟨t140, A60, H⟩ := H
  replace H : (if t140 = true then ((spec_l2Day.f a1_0).bind fun t141 => (if t141 = true then ((spec_l1In.f a1_1 0 1000).bind fun t142 => (if t142 = true then ((spec_l5TextOk.f k a1_2).bind fun t143 => (if t143 = true then ((spec_l1In.f (l1_3.length : Int) 2 60).bind fun t144 => (spec_EntryOk.j0 k (!t144) l0_0 a0_1 a0_2 a1_0 a1_1 a1_2 l1_3)) else (spec_EntryOk.j0 k true l0_0 a0_1 a0_2 a1_0 a1_1 a1_2 l1_3))) else (spec_EntryOk.j0 k true l0_0 a0_1 a0_2 a1_0 a1_1 a1_2 l1_3))) else (spec_EntryOk.j0 k true l0_0 a0_1 a0_2 a1_0 a1_1 a1_2 l1_3))) else (spec_EntryOk.j0 k true l0_0 a0_1 a0_2 a1_0 a1_1 a1_2 l1_3)) = some r := H
  have A6 := Aside0.mk A60
  clear A60
  by_cases c7 : t140 = true
  rotate_left
  ·replace c7 := Bool.eq_false_iff.mpr c7
   subst c7
   have H1 : (spec_EntryOk.j0 k true l0_0 a0_1 a0_2 a1_0 a1_1 a1_2 l1_3) = some r := by rw [if_neg (show ¬ (false = true) by decide)] at H; exact H
   clear H
   have H := H1
   clear H1
   have H' := Aside0.mk H
   clear H
   have hnb31 := NB138_139.out
   have hnc31 := NB139_138.out
   have hcz32_0 : w5.cell? ⟨gb138, 0, none⟩ = some (.slice A0_0 l0_0.length c0_0) := (blk_cell BK138.out 0).trans rfl
   have hcz32_1 : w5.cell? ⟨gb138, 1, none⟩ = some (.int .i64 a0_1) := (blk_cell BK138.out 1).trans rfl
   have hcz32_2 : w5.cell? ⟨gb138, 2, none⟩ = some (.int .i64 a0_2) := (blk_cell BK138.out 2).trans rfl
   have hfz32_0 := blk_frozen BK138.out 0
   have hfz32_1 := blk_frozen BK138.out 1
   have hfz32_2 := blk_frozen BK138.out 2
   go_wp2_with (first | ((with_reducible refine gate_callee (f := 70) rfl ?_); refine goesL_ (some 11) rfl rfl Try.func70 kZ rfl #[.agg #[.slice A0_0 l0_0.length c0_0, .int .i64 a0_1, .int .i64 a0_2]] rfl tZA ?_; (with_reducible refine (spec_FrameOk.calls k _ _ l0_0 a0_1 a0_2 false _ ?side1 ?side2 A6.out).mono ?_); (case side1 => repeat (first | exact (Kd.C_below HR0_0.out HB.out) | (with_reducible refine Kd.C_alloc ?_ _) | (with_reducible refine Kd.C_drewN ?_ _) | (with_reducible refine Kd.C_drew ?_))); (case side2 => exact HC0_0.out); rintro e w33 ⟨rfl, hb⟩; refine ⟨_, rfl, ?_⟩; replace BK138 := aZ (blk_below (bkZ BK138.out) hb); replace BK139 := aZ (blk_below (bkZ BK139.out) hb); replace HB := aZ (below_step bZ hb); (try clear hb); (try clear hb2); (try clear hk); (try clear hi)))
   go_meet
   case rel => exact ⟨_, (true), tZB, H', ⟨by first | omega | exact Nat.le_refl _⟩, ⟨bkZ BK138.out⟩, ⟨bkZ BK139.out⟩, ⟨bZ⟩⟩
  subst c7
  have H1 : ((spec_l2Day.f a1_0).bind fun t141 => (if t141 = true then ((spec_l1In.f a1_1 0 1000).bind fun t142 => (if t142 = true then ((spec_l5TextOk.f k a1_2).bind fun t143 => (if t143 = true then ((spec_l1In.f (l1_3.length : Int) 2 60).bind fun t144 => (spec_EntryOk.j0 k (!t144) l0_0 a0_1 a0_2 a1_0 a1_1 a1_2 l1_3)) else (spec_EntryOk.j0 k true l0_0 a0_1 a0_2 a1_0 a1_1 a1_2 l1_3))) else (spec_EntryOk.j0 k true l0_0 a0_1 a0_2 a1_0 a1_1 a1_2 l1_3))) else (spec_EntryOk.j0 k true l0_0 a0_1 a0_2 a1_0 a1_1 a1_2 l1_3))) = some r := by rw [if_pos rfl] at H; exact H
  clear H
  have H := H1
  clear H1
  replace H := Option.bind_eq_some_iff.mp H
  obtain ⟨t141, A80, H⟩ := H
  replace H : (if t141 = true then ((spec_l1In.f a1_1 0 1000).bind fun t142 => (if t142 = true then ((spec_l5TextOk.f k a1_2).bind fun t143 => (if t143 = true then ((spec_l1In.f (l1_3.length : Int) 2 60).bind fun t144 => (spec_EntryOk.j0 k (!t144) l0_0 a0_1 a0_2 a1_0 a1_1 a1_2 l1_3)) else (spec_EntryOk.j0 k true l0_0 a0_1 a0_2 a1_0 a1_1 a1_2 l1_3))) else (spec_EntryOk.j0 k true l0_0 a0_1 a0_2 a1_0 a1_1 a1_2 l1_3))) else (spec_EntryOk.j0 k true l0_0 a0_1 a0_2 a1_0 a1_1 a1_2 l1_3)) = some r := H
  have A8 := Aside0.mk A80
  clear A80
  by_cases c9 : t141 = true
  rotate_left
  ·replace c9 := Bool.eq_false_iff.mpr c9
   subst c9
   have H1 : (spec_EntryOk.j0 k true l0_0 a0_1 a0_2 a1_0 a1_1 a1_2 l1_3) = some r := by rw [if_neg (show ¬ (false = true) by decide)] at H; exact H
   clear H
   have H := H1
   clear H1
   have H' := Aside0.mk H
   clear H
   have hnb27 := NB138_139.out
   have hnc27 := NB139_138.out
   have hcz28_0 : w5.cell? ⟨gb138, 0, none⟩ = some (.slice A0_0 l0_0.length c0_0) := (blk_cell BK138.out 0).trans rfl
   have hcz28_1 : w5.cell? ⟨gb138, 1, none⟩ = some (.int .i64 a0_1) := (blk_cell BK138.out 1).trans rfl
   have hcz28_2 : w5.cell? ⟨gb138, 2, none⟩ = some (.int .i64 a0_2) := (blk_cell BK138.out 2).trans rfl
   have hfz28_0 := blk_frozen BK138.out 0
   have hfz28_1 := blk_frozen BK138.out 1
   have hfz28_2 := blk_frozen BK138.out 2
   go_wp2_with (first | ((with_reducible refine gate_callee (f := 70) rfl ?_); refine goesL_ (some 11) rfl rfl Try.func70 kZ rfl #[.agg #[.slice A0_0 l0_0.length c0_0, .int .i64 a0_1, .int .i64 a0_2]] rfl tZA ?_; (with_reducible refine (spec_FrameOk.calls k _ _ l0_0 a0_1 a0_2 true _ ?side1 ?side2 A6.out).mono ?_); (case side1 => repeat (first | exact (Kd.C_below HR0_0.out HB.out) | (with_reducible refine Kd.C_alloc ?_ _) | (with_reducible refine Kd.C_drewN ?_ _) | (with_reducible refine Kd.C_drew ?_))); (case side2 => exact HC0_0.out); rintro e w29 ⟨rfl, hb⟩; refine ⟨_, rfl, ?_⟩; replace BK138 := aZ (blk_below (bkZ BK138.out) hb); replace BK139 := aZ (blk_below (bkZ BK139.out) hb); replace HB := aZ (below_step bZ hb); (try clear hb); (try clear hb2); (try clear hk); (try clear hi); have hcz30_0 : w29.cell? ⟨gb139, 0, none⟩ = some (.int .i64 a1_0) := (blk_cell BK139.out 0).trans rfl; have hcz30_1 : w29.cell? ⟨gb139, 1, none⟩ = some (.int .i64 a1_1) := (blk_cell BK139.out 1).trans rfl; have hcz30_2 : w29.cell? ⟨gb139, 2, none⟩ = some (.string a1_2) := (blk_cell BK139.out 2).trans rfl; have hcz30_3 : w29.cell? ⟨gb139, 3, none⟩ = some (.slice A1_3 l1_3.length c1_3) := (blk_cell BK139.out 3).trans rfl; have hfz30_0 := blk_frozen BK139.out 0; have hfz30_1 := blk_frozen BK139.out 1; have hfz30_2 := blk_frozen BK139.out 2; have hfz30_3 := blk_frozen BK139.out 3) | (go_at_call 71; (with_reducible refine (spec_l2Day.calls a1_0 false _ A8.out).mono ?_); rintro e w' ⟨rfl, ⟨nd, rfl⟩⟩))
   go_meet
   case rel => exact ⟨_, (true), tZB, H', ⟨by first | omega | exact Nat.le_refl _⟩, ⟨bkZ BK138.out⟩, ⟨bkZ BK139.out⟩, ⟨bZ⟩⟩
  subst c9
  have H1 : ((spec_l1In.f a1_1 0 1000).bind fun t142 => (if t142 = true then ((spec_l5TextOk.f k a1_2).bind fun t143 => (if t143 = true then ((spec_l1In.f (l1_3.length : Int) 2 60).bind fun t144 => (spec_EntryOk.j0 k (!t144) l0_0 a0_1 a0_2 a1_0 a1_1 a1_2 l1_3)) else (spec_EntryOk.j0 k true l0_0 a0_1 a0_2 a1_0 a1_1 a1_2 l1_3))) else (spec_EntryOk.j0 k true l0_0 a0_1 a0_2 a1_0 a1_1 a1_2 l1_3))) = some r := by rw [if_pos rfl] at H; exact H
  clear H
  have H := H1
  clear H1
  replace H := Option.bind_eq_some_iff.mp H
  obtain ⟨t142, A100, H⟩ := H
  replace H : (if t142 = true then ((spec_l5TextOk.f k a1_2).bind fun t143 => (if t143 = true then ((spec_l1In.f (l1_3.length : Int) 2 60).bind fun t144 => (spec_EntryOk.j0 k (!t144) l0_0 a0_1 a0_2 a1_0 a1_1 a1_2 l1_3)) else (spec_EntryOk.j0 k true l0_0 a0_1 a0_2 a1_0 a1_1 a1_2 l1_3))) else (spec_EntryOk.j0 k true l0_0 a0_1 a0_2 a1_0 a1_1 a1_2 l1_3)) = some r := H
  have A10 := Aside0.mk A100
  clear A100
  by_cases c11 : t142 = true
  rotate_left
  ·replace c11 := Bool.eq_false_iff.mpr c11
   subst c11
   have H1 : (spec_EntryOk.j0 k true l0_0 a0_1 a0_2 a1_0 a1_1 a1_2 l1_3) = some r := by rw [if_neg (show ¬ (false = true) by decide)] at H; exact H
   clear H
   have H := H1
   clear H1
   have H' := Aside0.mk H
   clear H
   have hnb23 := NB138_139.out
   have hnc23 := NB139_138.out
   have hcz24_0 : w5.cell? ⟨gb138, 0, none⟩ = some (.slice A0_0 l0_0.length c0_0) := (blk_cell BK138.out 0).trans rfl
   have hcz24_1 : w5.cell? ⟨gb138, 1, none⟩ = some (.int .i64 a0_1) := (blk_cell BK138.out 1).trans rfl
   have hcz24_2 : w5.cell? ⟨gb138, 2, none⟩ = some (.int .i64 a0_2) := (blk_cell BK138.out 2).trans rfl
   have hfz24_0 := blk_frozen BK138.out 0
   have hfz24_1 := blk_frozen BK138.out 1
   have hfz24_2 := blk_frozen BK138.out 2
   go_wp2_with (first | ((with_reducible refine gate_callee (f := 70) rfl ?_); refine goesL_ (some 11) rfl rfl Try.func70 kZ rfl #[.agg #[.slice A0_0 l0_0.length c0_0, .int .i64 a0_1, .int .i64 a0_2]] rfl tZA ?_; (with_reducible refine (spec_FrameOk.calls k _ _ l0_0 a0_1 a0_2 true _ ?side1 ?side2 A6.out).mono ?_); (case side1 => repeat (first | exact (Kd.C_below HR0_0.out HB.out) | (with_reducible refine Kd.C_alloc ?_ _) | (with_reducible refine Kd.C_drewN ?_ _) | (with_reducible refine Kd.C_drew ?_))); (case side2 => exact HC0_0.out); rintro e w25 ⟨rfl, hb⟩; refine ⟨_, rfl, ?_⟩; replace BK138 := aZ (blk_below (bkZ BK138.out) hb); replace BK139 := aZ (blk_below (bkZ BK139.out) hb); replace HB := aZ (below_step bZ hb); (try clear hb); (try clear hb2); (try clear hk); (try clear hi); have hcz26_0 : w25.cell? ⟨gb139, 0, none⟩ = some (.int .i64 a1_0) := (blk_cell BK139.out 0).trans rfl; have hcz26_1 : w25.cell? ⟨gb139, 1, none⟩ = some (.int .i64 a1_1) := (blk_cell BK139.out 1).trans rfl; have hcz26_2 : w25.cell? ⟨gb139, 2, none⟩ = some (.string a1_2) := (blk_cell BK139.out 2).trans rfl; have hcz26_3 : w25.cell? ⟨gb139, 3, none⟩ = some (.slice A1_3 l1_3.length c1_3) := (blk_cell BK139.out 3).trans rfl; have hfz26_0 := blk_frozen BK139.out 0; have hfz26_1 := blk_frozen BK139.out 1; have hfz26_2 := blk_frozen BK139.out 2; have hfz26_3 := blk_frozen BK139.out 3) | (go_at_call 71; (with_reducible refine (spec_l2Day.calls a1_0 true _ A8.out).mono ?_); rintro e w' ⟨rfl, ⟨nd, rfl⟩⟩) | (go_at_call 72; (with_reducible refine (spec_l1In.calls a1_1 0 1000 false _ A10.out).mono ?_); rintro e w' ⟨rfl, ⟨nd, rfl⟩⟩))
   go_meet
   case rel => exact ⟨_, (true), tZB, H', ⟨by first | omega | exact Nat.le_refl _⟩, ⟨bkZ BK138.out⟩, ⟨bkZ BK139.out⟩, ⟨bZ⟩⟩
  subst c11
  have H1 : ((spec_l5TextOk.f k a1_2).bind fun t143 => (if t143 = true then ((spec_l1In.f (l1_3.length : Int) 2 60).bind fun t144 => (spec_EntryOk.j0 k (!t144) l0_0 a0_1 a0_2 a1_0 a1_1 a1_2 l1_3)) else (spec_EntryOk.j0 k true l0_0 a0_1 a0_2 a1_0 a1_1 a1_2 l1_3))) = some r := by rw [if_pos rfl] at H; exact H
  clear H
  have H := H1
  clear H1
  replace H := Option.bind_eq_some_iff.mp H
  obtain ⟨t143, A120, H⟩ := H
  replace H : (if t143 = true then ((spec_l1In.f (l1_3.length : Int) 2 60).bind fun t144 => (spec_EntryOk.j0 k (!t144) l0_0 a0_1 a0_2 a1_0 a1_1 a1_2 l1_3)) else (spec_EntryOk.j0 k true l0_0 a0_1 a0_2 a1_0 a1_1 a1_2 l1_3)) = some r := H
  have A12 := Aside0.mk A120
  clear A120
  by_cases c13 : t143 = true
  rotate_left
  ·replace c13 := Bool.eq_false_iff.mpr c13
   subst c13
   have H1 : (spec_EntryOk.j0 k true l0_0 a0_1 a0_2 a1_0 a1_1 a1_2 l1_3) = some r := by rw [if_neg (show ¬ (false = true) by decide)] at H; exact H
   clear H
   have H := H1
   clear H1
   have H' := Aside0.mk H
   clear H
   have hnb19 := NB138_139.out
   have hnc19 := NB139_138.out
   have hcz20_0 : w5.cell? ⟨gb138, 0, none⟩ = some (.slice A0_0 l0_0.length c0_0) := (blk_cell BK138.out 0).trans rfl
   have hcz20_1 : w5.cell? ⟨gb138, 1, none⟩ = some (.int .i64 a0_1) := (blk_cell BK138.out 1).trans rfl
   have hcz20_2 : w5.cell? ⟨gb138, 2, none⟩ = some (.int .i64 a0_2) := (blk_cell BK138.out 2).trans rfl
   have hfz20_0 := blk_frozen BK138.out 0
   have hfz20_1 := blk_frozen BK138.out 1
   have hfz20_2 := blk_frozen BK138.out 2
   go_wp2_with (first | ((with_reducible refine gate_callee (f := 70) rfl ?_); refine goesL_ (some 11) rfl rfl Try.func70 kZ rfl #[.agg #[.slice A0_0 l0_0.length c0_0, .int .i64 a0_1, .int .i64 a0_2]] rfl tZA ?_; (with_reducible refine (spec_FrameOk.calls k _ _ l0_0 a0_1 a0_2 true _ ?side1 ?side2 A6.out).mono ?_); (case side1 => repeat (first | exact (Kd.C_below HR0_0.out HB.out) | (with_reducible refine Kd.C_alloc ?_ _) | (with_reducible refine Kd.C_drewN ?_ _) | (with_reducible refine Kd.C_drew ?_))); (case side2 => exact HC0_0.out); rintro e w21 ⟨rfl, hb⟩; refine ⟨_, rfl, ?_⟩; replace BK138 := aZ (blk_below (bkZ BK138.out) hb); replace BK139 := aZ (blk_below (bkZ BK139.out) hb); replace HB := aZ (below_step bZ hb); (try clear hb); (try clear hb2); (try clear hk); (try clear hi); have hcz22_0 : w21.cell? ⟨gb139, 0, none⟩ = some (.int .i64 a1_0) := (blk_cell BK139.out 0).trans rfl; have hcz22_1 : w21.cell? ⟨gb139, 1, none⟩ = some (.int .i64 a1_1) := (blk_cell BK139.out 1).trans rfl; have hcz22_2 : w21.cell? ⟨gb139, 2, none⟩ = some (.string a1_2) := (blk_cell BK139.out 2).trans rfl; have hcz22_3 : w21.cell? ⟨gb139, 3, none⟩ = some (.slice A1_3 l1_3.length c1_3) := (blk_cell BK139.out 3).trans rfl; have hfz22_0 := blk_frozen BK139.out 0; have hfz22_1 := blk_frozen BK139.out 1; have hfz22_2 := blk_frozen BK139.out 2; have hfz22_3 := blk_frozen BK139.out 3) | (go_at_call 71; (with_reducible refine (spec_l2Day.calls a1_0 true _ A8.out).mono ?_); rintro e w' ⟨rfl, ⟨nd, rfl⟩⟩) | (go_at_call 72; (with_reducible refine (spec_l1In.calls a1_1 0 1000 true _ A10.out).mono ?_); rintro e w' ⟨rfl, ⟨nd, rfl⟩⟩) | (go_at_call 73; (with_reducible refine (spec_l5TextOk.calls k a1_2 false _ A12.out).mono ?_); rintro e w' ⟨rfl, ⟨nd, rfl⟩⟩))
   go_meet
   case rel => exact ⟨_, (true), tZB, H', ⟨by first | omega | exact Nat.le_refl _⟩, ⟨bkZ BK138.out⟩, ⟨bkZ BK139.out⟩, ⟨bZ⟩⟩
  subst c13
  have H1 : ((spec_l1In.f (l1_3.length : Int) 2 60).bind fun t144 => (spec_EntryOk.j0 k (!t144) l0_0 a0_1 a0_2 a1_0 a1_1 a1_2 l1_3)) = some r := by rw [if_pos rfl] at H; exact H
  clear H
  have H := H1
  clear H1
  replace H := Option.bind_eq_some_iff.mp H
  obtain ⟨t144, A140, H⟩ := H
  replace H : (spec_EntryOk.j0 k (!t144) l0_0 a0_1 a0_2 a1_0 a1_1 a1_2 l1_3) = some r := H
  have A14 := Aside0.mk A140
  clear A140
  have H' := Aside0.mk H
  clear H
  have hnb15 := NB138_139.out
  have hnc15 := NB139_138.out
  have hcz16_0 : w5.cell? ⟨gb138, 0, none⟩ = some (.slice A0_0 l0_0.length c0_0) := (blk_cell BK138.out 0).trans rfl
  have hcz16_1 : w5.cell? ⟨gb138, 1, none⟩ = some (.int .i64 a0_1) := (blk_cell BK138.out 1).trans rfl
  have hcz16_2 : w5.cell? ⟨gb138, 2, none⟩ = some (.int .i64 a0_2) := (blk_cell BK138.out 2).trans rfl
  have hfz16_0 := blk_frozen BK138.out 0
  have hfz16_1 := blk_frozen BK138.out 1
  have hfz16_2 := blk_frozen BK138.out 2
  go_wp2_with (first | ((with_reducible refine gate_callee (f := 70) rfl ?_); refine goesL_ (some 11) rfl rfl Try.func70 kZ rfl #[.agg #[.slice A0_0 l0_0.length c0_0, .int .i64 a0_1, .int .i64 a0_2]] rfl tZA ?_; (with_reducible refine (spec_FrameOk.calls k _ _ l0_0 a0_1 a0_2 true _ ?side1 ?side2 A6.out).mono ?_); (case side1 => repeat (first | exact (Kd.C_below HR0_0.out HB.out) | (with_reducible refine Kd.C_alloc ?_ _) | (with_reducible refine Kd.C_drewN ?_ _) | (with_reducible refine Kd.C_drew ?_))); (case side2 => exact HC0_0.out); rintro e w17 ⟨rfl, hb⟩; refine ⟨_, rfl, ?_⟩; replace BK138 := aZ (blk_below (bkZ BK138.out) hb); replace BK139 := aZ (blk_below (bkZ BK139.out) hb); replace HB := aZ (below_step bZ hb); (try clear hb); (try clear hb2); (try clear hk); (try clear hi); have hcz18_0 : w17.cell? ⟨gb139, 0, none⟩ = some (.int .i64 a1_0) := (blk_cell BK139.out 0).trans rfl; have hcz18_1 : w17.cell? ⟨gb139, 1, none⟩ = some (.int .i64 a1_1) := (blk_cell BK139.out 1).trans rfl; have hcz18_2 : w17.cell? ⟨gb139, 2, none⟩ = some (.string a1_2) := (blk_cell BK139.out 2).trans rfl; have hcz18_3 : w17.cell? ⟨gb139, 3, none⟩ = some (.slice A1_3 l1_3.length c1_3) := (blk_cell BK139.out 3).trans rfl; have hfz18_0 := blk_frozen BK139.out 0; have hfz18_1 := blk_frozen BK139.out 1; have hfz18_2 := blk_frozen BK139.out 2; have hfz18_3 := blk_frozen BK139.out 3) | (go_at_call 71; (with_reducible refine (spec_l2Day.calls a1_0 true _ A8.out).mono ?_); rintro e w' ⟨rfl, ⟨nd, rfl⟩⟩) | (go_at_call 72; (with_reducible refine (spec_l1In.calls a1_1 0 1000 true _ A10.out).mono ?_); rintro e w' ⟨rfl, ⟨nd, rfl⟩⟩) | (go_at_call 73; (with_reducible refine (spec_l5TextOk.calls k a1_2 true _ A12.out).mono ?_); rintro e w' ⟨rfl, ⟨nd, rfl⟩⟩) | (go_at_call 72; (with_reducible refine (spec_l1In.calls (l1_3.length : Int) 2 60 t144 _ A14.out).mono ?_); rintro e w' ⟨rfl, ⟨nd, rfl⟩⟩))
  go_meet
  case rel => exact ⟨_, (!t144), tZB, H', ⟨by first | omega | exact Nat.le_refl _⟩, ⟨bkZ BK138.out⟩, ⟨bkZ BK139.out⟩, ⟨bZ⟩⟩
 case rest =>
  clear HC3
  try clear c1
  try clear c2
  try clear p2
  try clear c3
  try clear c7
  try clear c9
  try clear c11
  try clear c13
  try clear c15
  try clear c16
  try clear c19
  try clear c23
  try clear c27
  try clear c31
  try clear hcz16_0
  try clear hcz16_1
  try clear hcz16_2
  try clear hcz18_0
  try clear hcz18_1
  try clear hcz18_2
  try clear hcz18_3
  try clear hcz20_0
  try clear hcz20_1
  try clear hcz20_2
  try clear hcz22_0
  try clear hcz22_1
  try clear hcz22_2
  try clear hcz22_3
  try clear hcz24_0
  try clear hcz24_1
  try clear hcz24_2
  try clear hcz26_0
  try clear hcz26_1
  try clear hcz26_2
  try clear hcz26_3
  try clear hcz28_0
  try clear hcz28_1
  try clear hcz28_2
  try clear hcz30_0
  try clear hcz30_1
  try clear hcz30_2
  try clear hcz30_3
  try clear hcz32_0
  try clear hcz32_1
  try clear hcz32_2
  try clear hfz16_0
  try clear hfz16_1
  try clear hfz16_2
  try clear hfz18_0
  try clear hfz18_1
  try clear hfz18_2
  try clear hfz18_3
  try clear hfz20_0
  try clear hfz20_1
  try clear hfz20_2
  try clear hfz22_0
  try clear hfz22_1
  try clear hfz22_2
  try clear hfz22_3
  try clear hfz24_0
  try clear hfz24_1
  try clear hfz24_2
  try clear hfz26_0
  try clear hfz26_1
  try clear hfz26_2
  try clear hfz26_3
  try clear hfz28_0
  try clear hfz28_1
  try clear hfz28_2
  try clear hfz30_0
  try clear hfz30_1
  try clear hfz30_2
  try clear hfz30_3
  try clear hfz32_0
  try clear hfz32_1
  try clear hfz32_2
  obtain ⟨kq, x37_2, rfl, HA, HJ2, BK138, BK139, HB⟩ := hcut
  cases kq with
  | zero => exact absurd HA.out (by simp [spec_EntryOk.j0])
  | succ kj2 =>
   have H := HA.out
   clear HA
   simp only [spec_EntryOk.j0] at H
   by_cases c34 : x37_2 = true
   ·subst c34
    have H1 : (some false) = some r := by rw [if_pos rfl] at H; exact H
    clear H
    have H := H1
    clear H1
    obtain rfl := Option.some.inj H
    go_wp2
    go_ret
    exact ⟨tZC, bZ⟩
   replace c34 := Bool.eq_false_iff.mpr c34
   subst c34
   have H1 : (spec_EntryOk.l0 kj2 0 l0_0 a0_1 a0_2 a1_0 a1_1 a1_2 l1_3) = some r := by rw [if_neg (show ¬ (false = true) by decide)] at H; exact H
   clear H
   have H := H1
   clear H1
   have H' := Aside0.mk H
   clear H
   go_wp2
   go_loopg [5] kj2 (fun kq v5 w' => ∃ (x5_2 : Int), v5 = .int .i64 x5_2 ∧ Aside0 (spec_EntryOk.l0 kq x5_2 l0_0 a0_1 a0_2 a1_0 a1_1 a1_2 l1_3 = some r) ∧ Aside0 (kq ≤ kj2) ∧ Aside0 (w'.heap[gb138]? = some (.cells #[(.slice A0_0 l0_0.length c0_0), .int .i64 a0_1, .int .i64 a0_2] 33 (0, 0))) ∧ Aside0 (w'.heap[gb139]? = some (.cells #[.int .i64 a1_0, .int .i64 a1_1, .string a1_2, (.slice A1_3 l1_3.length c1_3)] 37 (0, 0))) ∧ Aside0 (Below w.heap.size w w'))
   case atStart => exact ⟨(0), tZB, H', ⟨Nat.le_refl _⟩, ⟨bkZ BK138.out⟩, ⟨bkZ BK139.out⟩, ⟨bZ⟩⟩
   case round =>
    clear H'
    try clear c1
    try clear c2
    try clear p2
    try clear c3
    try clear c7
    try clear c9
    try clear c11
    try clear c13
    try clear c15
    try clear c16
    try clear c19
    try clear c23
    try clear c27
    try clear c31
    try clear c34
    try clear hcz16_0
    try clear hcz16_1
    try clear hcz16_2
    try clear hcz18_0
    try clear hcz18_1
    try clear hcz18_2
    try clear hcz18_3
    try clear hcz20_0
    try clear hcz20_1
    try clear hcz20_2
    try clear hcz22_0
    try clear hcz22_1
    try clear hcz22_2
    try clear hcz22_3
    try clear hcz24_0
    try clear hcz24_1
    try clear hcz24_2
    try clear hcz26_0
    try clear hcz26_1
    try clear hcz26_2
    try clear hcz26_3
    try clear hcz28_0
    try clear hcz28_1
    try clear hcz28_2
    try clear hcz30_0
    try clear hcz30_1
    try clear hcz30_2
    try clear hcz30_3
    try clear hcz32_0
    try clear hcz32_1
    try clear hcz32_2
    try clear hfz16_0
    try clear hfz16_1
    try clear hfz16_2
    try clear hfz18_0
    try clear hfz18_1
    try clear hfz18_2
    try clear hfz18_3
    try clear hfz20_0
    try clear hfz20_1
    try clear hfz20_2
    try clear hfz22_0
    try clear hfz22_1
    try clear hfz22_2
    try clear hfz22_3
    try clear hfz24_0
    try clear hfz24_1
    try clear hfz24_2
    try clear hfz26_0
    try clear hfz26_1
    try clear hfz26_2
    try clear hfz26_3
    try clear hfz28_0
    try clear hfz28_1
    try clear hfz28_2
    try clear hfz30_0
    try clear hfz30_1
    try clear hfz30_2
    try clear hfz30_3
    try clear hfz32_0
    try clear hfz32_1
    try clear hfz32_2
    try clear p2
    obtain ⟨x5_2, rfl, HA, HK2, BK138, BK139, HB⟩ := hrel
    cases gk with
    | zero => exact absurd HA.out (by simp [spec_EntryOk.l0])
    | succ k2 =>
     have H := HA.out
     clear HA
     simp only [spec_EntryOk.l0] at H
     by_cases c35 : x5_2 < (l1_3.length : Int)
     ·rw [if_pos c35] at H
      have c35b0 := decide_eq_true c35
      clear c35
      by_cases c36 : 0 ≤ x5_2
      rotate_left
      ·rw [if_neg c36] at H
       exact absurd H (by simp)
      rw [if_pos c36] at H
      have c36b0 := decide_eq_true c36
      clear c36
      replace H := Option.bind_eq_some_iff.mp H
      obtain ⟨t146, A370, H⟩ := H
      replace H : (if t146 = true then (spec_EntryOk.l0 k2 (wrap64 (x5_2 + 1)) l0_0 a0_1 a0_2 a1_0 a1_1 a1_2 l1_3) else (some false)) = some r := H
      have A37 := Aside0.mk A370
      clear A370
      by_cases c38 : t146 = true
      rotate_left
      ·replace c38 := Bool.eq_false_iff.mpr c38
       subst c38
       have H1 : (some false) = some r := by rw [if_neg (show ¬ (false = true) by decide)] at H; exact H
       clear H
       have H := H1
       clear H1
       obtain rfl := Option.some.inj H
       have hnb43 := NB139_138.out
       have hnc43 := NB138_139.out
       have hcz44_0 : wr.cell? ⟨gb139, 0, none⟩ = some (.int .i64 a1_0) := (blk_cell BK139.out 0).trans rfl
       have hcz44_1 : wr.cell? ⟨gb139, 1, none⟩ = some (.int .i64 a1_1) := (blk_cell BK139.out 1).trans rfl
       have hcz44_2 : wr.cell? ⟨gb139, 2, none⟩ = some (.string a1_2) := (blk_cell BK139.out 2).trans rfl
       have hcz44_3 : wr.cell? ⟨gb139, 3, none⟩ = some (.slice A1_3 l1_3.length c1_3) := (blk_cell BK139.out 3).trans rfl
       have hfz44_0 := blk_frozen BK139.out 0
       have hfz44_1 := blk_frozen BK139.out 1
       have hfz44_2 := blk_frozen BK139.out 2
       have hfz44_3 := blk_frozen BK139.out 3
       try go_wp2
       replace BK138 := aZ (blk_drew BK138.out)
       replace BK139 := aZ (blk_drew BK139.out)
       replace HB := aZ (below_drew1 HB.out)
       have p145 : 0 ≤ (x5_2 : Int) := of_decide_eq_true tZE
       have q145 : x5_2 < (l1_3.length : Int) := of_decide_eq_true tZE
       obtain ⟨ad145, e145, hx145_0, hx145_1, hx145_2, hx145_3, hx145_4⟩ := at_T109 HR1_3.out x5_2 p145 q145
       have hw145_4 := hx145_4
       have hw145_3 := hx145_3
       have hw145_2 := hx145_2
       have hw145_1 := hx145_1
       have hw145_0 := hx145_0
       cases e145
       replace hx145_0 := cZ HB hx145_0
       replace hx145_1 := cZ HB hx145_1
       replace hx145_2 := cZ HB hx145_2
       replace hx145_3 := cZ HB hx145_3
       replace hx145_4 := cZ HB hx145_4
       replace p145 := eq_true p145
       replace q145 := eq_true q145
       refine start_ (n := 8) (S := fun w' => w'.cell? ⟨gb138, 0, none⟩ = some (.slice A0_0 l0_0.length c0_0) ∧ w'.cell? ⟨gb138, 1, none⟩ = some (.int .i64 a0_1) ∧ w'.cell? ⟨gb138, 2, none⟩ = some (.int .i64 a0_2) ∧ w'.cell? ⟨gb139, 0, none⟩ = some (.int .i64 a1_0) ∧ w'.cell? ⟨gb139, 1, none⟩ = some (.int .i64 a1_1) ∧ w'.cell? ⟨gb139, 2, none⟩ = some (.string a1_2) ∧ w'.cell? ⟨gb139, 3, none⟩ = some (.slice (some ad145) l1_3.length c1_3) ∧ w'.cell? (ad145.add ((x5_2).toNat * 5)) = some (.int .i64 ((rd_T109 l1_3 x5_2).f0)) ∧ w'.cell? ⟨(ad145.add ((x5_2).toNat * 5)).block, (ad145.add ((x5_2).toNat * 5)).off + 1, none⟩ = some (.int .i64 ((rd_T109 l1_3 x5_2).f1)) ∧ w'.cell? ⟨(ad145.add ((x5_2).toNat * 5)).block, (ad145.add ((x5_2).toNat * 5)).off + 2, none⟩ = some (.int .i64 ((rd_T109 l1_3 x5_2).f2)) ∧ w'.cell? ⟨(ad145.add ((x5_2).toNat * 5)).block, (ad145.add ((x5_2).toNat * 5)).off + 3, none⟩ = some (.int .i64 ((rd_T109 l1_3 x5_2).f3)) ∧ w'.cell? ⟨(ad145.add ((x5_2).toNat * 5)).block, (ad145.add ((x5_2).toNat * 5)).off + 4, none⟩ = some (.int .i64 ((rd_T109 l1_3 x5_2).f4))) (ds := []) L0' kZ rfl rfl ⟨(blk_cell BK138.out 0).trans rfl, (blk_cell BK138.out 1).trans rfl, (blk_cell BK138.out 2).trans rfl, (blk_cell BK139.out 0).trans rfl, (blk_cell BK139.out 1).trans rfl, (blk_cell BK139.out 2).trans rfl, (blk_cell BK139.out 3).trans rfl, ((HB.out.cell (World.block_lt_of_cell? w _ hw145_0)).trans hw145_0), ((HB.out.cell (World.block_lt_of_cell? w _ hw145_1)).trans hw145_1), ((HB.out.cell (World.block_lt_of_cell? w _ hw145_2)).trans hw145_2), ((HB.out.cell (World.block_lt_of_cell? w _ hw145_3)).trans hw145_3), ((HB.out.cell (World.block_lt_of_cell? w _ hw145_4)).trans hw145_4)⟩ (fun hHeld => ?_); refine with_tabW spec_EntryOk.tab6 spec_EntryOk.bits6 (fun HT_ HW_ => ?_)
       generalize wr.drew = w45 at BK138 BK139 HB hx145_0 hx145_1 hx145_2 hx145_3 hx145_4 hHeld ⊢
       refine pure_ (i := 1) (N := some 46) (v := ?_) (a' := ?_) L1' rfl rfl (any_of HT_.out kZ) (fun _ _ _ h => h) (Or.inl ⟨by rfl, ?_⟩) ?_ ?_
       rotate_left
       ·intro w'
        go_simp
        with_reducible rfl
       rotate_left
       ·simp only [Act.put, sZ1, sZ2, sZ3, i64_w, i32_w]
        rfl
       refine pure_ (i := 3) (N := some 48) (v := ?_) (a' := ?_) L2' rfl rfl (any_of HT_.out kZ) (fun _ _ _ h => h) (Or.inl ⟨by rfl, ?_⟩) ?_ ?_
       rotate_left
       ·intro w'
        go_simp
        with_reducible rfl
       rotate_left
       ·simp only [Act.put, sZ1, sZ2, sZ3, i64_w, i32_w]
        rfl
       refine take_ (i := 0) (N := some 45) (v := ?_) (a' := ?_) L3' rfl rfl (take_ofW HT_.out HW_.out kZ) (fun _ _ _ h => h) (Or.inl ⟨by rfl, ?_⟩) hHeld ?_ ?_
       rotate_left
       ·rintro w' ⟨s0, s1, s2, s3, s4, s5, s6, s7, s8, s9, s10, s11⟩
        go_simp
        with_reducible rfl
       rotate_left
       ·simp only [Act.put, sZ1, sZ2, sZ3, i64_w, i32_w]
        rfl
       refine take_ (i := 2) (N := some 47) (v := ?_) (a' := ?_) L4' rfl rfl (take_ofW HT_.out HW_.out kZ) (fun _ _ _ h => h) (Or.inl ⟨by rfl, ?_⟩) hHeld ?_ ?_
       rotate_left
       ·rintro w' ⟨s0, s1, s2, s3, s4, s5, s6, s7, s8, s9, s10, s11⟩
        go_simp
        with_reducible rfl
       rotate_left
       ·simp only [Act.put, sZ1, sZ2, sZ3, i64_w, i32_w]
        rfl
       refine pure_ (i := 4) (N := some 49) (v := ?_) (a' := ?_) L5' rfl rfl (any_of HT_.out kZ) (fun _ _ _ h => h) (Or.inl ⟨by rfl, ?_⟩) ?_ ?_
       rotate_left
       ·intro w'
        go_simp
        with_reducible rfl
       rotate_left
       ·simp only [Act.put, sZ1, sZ2, sZ3, i64_w, i32_w]
        rfl
       refine take_ (i := 5) (N := some 50) (v := ?_) (a' := ?_) L6' rfl rfl (take_ofW HT_.out HW_.out kZ) (fun _ _ _ h => h) (Or.inl ⟨by rfl, ?_⟩) hHeld ?_ ?_
       rotate_left
       ·rintro w' ⟨s0, s1, s2, s3, s4, s5, s6, s7, s8, s9, s10, s11⟩
        go_simp
        with_reducible rfl
       rotate_left
       ·simp only [Act.put, sZ1, sZ2, sZ3, i64_w, i32_w]
        rfl
       refine one_ (i := 6) (N := some 51) L7' rfl rfl (one_of HT_.out kZ) (by decide) (fun K hK => ?_)
       refine goes_ Try.func74 kZ rfl #[.agg #[.slice A0_0 l0_0.length c0_0, .int .i64 a0_1, .int .i64 a0_2], .agg #[.int .i64 ((rd_T109 l1_3 x5_2).f0), .int .i64 ((rd_T109 l1_3 x5_2).f1), .int .i64 ((rd_T109 l1_3 x5_2).f2), .int .i64 ((rd_T109 l1_3 x5_2).f3), .int .i64 ((rd_T109 l1_3 x5_2).f4)]] (by rfl) rfl rfl tZA ?_
       with_reducible refine (spec_l5LineOk.calls k2 _ _ l0_0 a0_1 a0_2 ((rd_T109 l1_3 x5_2).f0) ((rd_T109 l1_3 x5_2).f1) ((rd_T109 l1_3 x5_2).f2) ((rd_T109 l1_3 x5_2).f3) ((rd_T109 l1_3 x5_2).f4) false _ ?side1 ?side2 A37.out).mono ?_
       (case side1 => repeat (first | exact (Kd.C_below HR0_0.out HB.out) | (with_reducible refine Kd.C_alloc ?_ _) | (with_reducible refine Kd.C_drewN ?_ _) | (with_reducible refine Kd.C_drew ?_)))
       (case side2 => exact HC0_0.out)
       rintro e w46 ⟨rfl, hb⟩
       refine ⟨_, rfl, ?_⟩
       replace BK138 := aZ (blk_below (bkZ BK138.out) hb)
       replace BK139 := aZ (blk_below (bkZ BK139.out) hb)
       replace HB := aZ (below_step bZ hb)
       (try clear hb)
       (try clear hb2)
       (try clear hk)
       (try clear hi)
       refine hK.out _ _ ⟨(blk_cell BK138.out 0).trans rfl, (blk_cell BK138.out 1).trans rfl, (blk_cell BK138.out 2).trans rfl, (blk_cell BK139.out 0).trans rfl, (blk_cell BK139.out 1).trans rfl, (blk_cell BK139.out 2).trans rfl, (blk_cell BK139.out 3).trans rfl, ((HB.out.cell (World.block_lt_of_cell? w _ hw145_0)).trans hw145_0), ((HB.out.cell (World.block_lt_of_cell? w _ hw145_1)).trans hw145_1), ((HB.out.cell (World.block_lt_of_cell? w _ hw145_2)).trans hw145_2), ((HB.out.cell (World.block_lt_of_cell? w _ hw145_3)).trans hw145_3), ((HB.out.cell (World.block_lt_of_cell? w _ hw145_4)).trans hw145_4)⟩ (fun hHeld => ?_)
       clear hK K
       refine norm_ (a' := ?_) ?_ ?_
       rotate_left
       ·show Act.put _ (some 51) _ = _
        simp only [Act.put, sZ1, sZ2, sZ3, i64_w, i32_w]
        rfl
       refine pure_ (i := 7) (N := some 52) (v := ?_) (a' := ?_) L8' rfl rfl (any_of HT_.out kZ) (fun _ _ _ h => h) (Or.inl ⟨by rfl, ?_⟩) ?_ ?_
       rotate_left
       ·intro w'
        go_simp
        with_reducible rfl
       rotate_left
       ·simp only [Act.put, sZ1, sZ2, sZ3, i64_w, i32_w]
        rfl
       refine done_ (done_of HT_.out kZ) ?_
       try go_wp2
       go_ret
       exact ⟨tZC, bZ⟩
      subst c38
      have H1 : (spec_EntryOk.l0 k2 (wrap64 (x5_2 + 1)) l0_0 a0_1 a0_2 a1_0 a1_1 a1_2 l1_3) = some r := by rw [if_pos rfl] at H; exact H
      clear H
      have H := H1
      clear H1
      have H' := Aside0.mk H
      clear H
      have hnb39 := NB139_138.out
      have hnc39 := NB138_139.out
      have hcz40_0 : wr.cell? ⟨gb139, 0, none⟩ = some (.int .i64 a1_0) := (blk_cell BK139.out 0).trans rfl
      have hcz40_1 : wr.cell? ⟨gb139, 1, none⟩ = some (.int .i64 a1_1) := (blk_cell BK139.out 1).trans rfl
      have hcz40_2 : wr.cell? ⟨gb139, 2, none⟩ = some (.string a1_2) := (blk_cell BK139.out 2).trans rfl
      have hcz40_3 : wr.cell? ⟨gb139, 3, none⟩ = some (.slice A1_3 l1_3.length c1_3) := (blk_cell BK139.out 3).trans rfl
      have hfz40_0 := blk_frozen BK139.out 0
      have hfz40_1 := blk_frozen BK139.out 1
      have hfz40_2 := blk_frozen BK139.out 2
      have hfz40_3 := blk_frozen BK139.out 3
      try go_wp2
      replace BK138 := aZ (blk_drew BK138.out)
      replace BK139 := aZ (blk_drew BK139.out)
      replace HB := aZ (below_drew1 HB.out)
      have p145 : 0 ≤ (x5_2 : Int) := of_decide_eq_true tZE
      have q145 : x5_2 < (l1_3.length : Int) := of_decide_eq_true tZE
      obtain ⟨ad145, e145, hx145_0, hx145_1, hx145_2, hx145_3, hx145_4⟩ := at_T109 HR1_3.out x5_2 p145 q145
      have hw145_4 := hx145_4
      have hw145_3 := hx145_3
      have hw145_2 := hx145_2
      have hw145_1 := hx145_1
      have hw145_0 := hx145_0
      cases e145
      replace hx145_0 := cZ HB hx145_0
      replace hx145_1 := cZ HB hx145_1
      replace hx145_2 := cZ HB hx145_2
      replace hx145_3 := cZ HB hx145_3
      replace hx145_4 := cZ HB hx145_4
      replace p145 := eq_true p145
      replace q145 := eq_true q145
      refine start_ (n := 8) (S := fun w' => w'.cell? ⟨gb138, 0, none⟩ = some (.slice A0_0 l0_0.length c0_0) ∧ w'.cell? ⟨gb138, 1, none⟩ = some (.int .i64 a0_1) ∧ w'.cell? ⟨gb138, 2, none⟩ = some (.int .i64 a0_2) ∧ w'.cell? ⟨gb139, 0, none⟩ = some (.int .i64 a1_0) ∧ w'.cell? ⟨gb139, 1, none⟩ = some (.int .i64 a1_1) ∧ w'.cell? ⟨gb139, 2, none⟩ = some (.string a1_2) ∧ w'.cell? ⟨gb139, 3, none⟩ = some (.slice (some ad145) l1_3.length c1_3) ∧ w'.cell? (ad145.add ((x5_2).toNat * 5)) = some (.int .i64 ((rd_T109 l1_3 x5_2).f0)) ∧ w'.cell? ⟨(ad145.add ((x5_2).toNat * 5)).block, (ad145.add ((x5_2).toNat * 5)).off + 1, none⟩ = some (.int .i64 ((rd_T109 l1_3 x5_2).f1)) ∧ w'.cell? ⟨(ad145.add ((x5_2).toNat * 5)).block, (ad145.add ((x5_2).toNat * 5)).off + 2, none⟩ = some (.int .i64 ((rd_T109 l1_3 x5_2).f2)) ∧ w'.cell? ⟨(ad145.add ((x5_2).toNat * 5)).block, (ad145.add ((x5_2).toNat * 5)).off + 3, none⟩ = some (.int .i64 ((rd_T109 l1_3 x5_2).f3)) ∧ w'.cell? ⟨(ad145.add ((x5_2).toNat * 5)).block, (ad145.add ((x5_2).toNat * 5)).off + 4, none⟩ = some (.int .i64 ((rd_T109 l1_3 x5_2).f4))) (ds := []) L0' kZ rfl rfl ⟨(blk_cell BK138.out 0).trans rfl, (blk_cell BK138.out 1).trans rfl, (blk_cell BK138.out 2).trans rfl, (blk_cell BK139.out 0).trans rfl, (blk_cell BK139.out 1).trans rfl, (blk_cell BK139.out 2).trans rfl, (blk_cell BK139.out 3).trans rfl, ((HB.out.cell (World.block_lt_of_cell? w _ hw145_0)).trans hw145_0), ((HB.out.cell (World.block_lt_of_cell? w _ hw145_1)).trans hw145_1), ((HB.out.cell (World.block_lt_of_cell? w _ hw145_2)).trans hw145_2), ((HB.out.cell (World.block_lt_of_cell? w _ hw145_3)).trans hw145_3), ((HB.out.cell (World.block_lt_of_cell? w _ hw145_4)).trans hw145_4)⟩ (fun hHeld => ?_); refine with_tabW spec_EntryOk.tab6 spec_EntryOk.bits6 (fun HT_ HW_ => ?_)
      generalize wr.drew = w41 at BK138 BK139 HB hx145_0 hx145_1 hx145_2 hx145_3 hx145_4 hHeld ⊢
      refine pure_ (i := 1) (N := some 46) (v := ?_) (a' := ?_) L1' rfl rfl (any_of HT_.out kZ) (fun _ _ _ h => h) (Or.inl ⟨by rfl, ?_⟩) ?_ ?_
      rotate_left
      ·intro w'
       go_simp
       with_reducible rfl
      rotate_left
      ·simp only [Act.put, sZ1, sZ2, sZ3, i64_w, i32_w]
       rfl
      refine pure_ (i := 3) (N := some 48) (v := ?_) (a' := ?_) L2' rfl rfl (any_of HT_.out kZ) (fun _ _ _ h => h) (Or.inl ⟨by rfl, ?_⟩) ?_ ?_
      rotate_left
      ·intro w'
       go_simp
       with_reducible rfl
      rotate_left
      ·simp only [Act.put, sZ1, sZ2, sZ3, i64_w, i32_w]
       rfl
      refine take_ (i := 0) (N := some 45) (v := ?_) (a' := ?_) L3' rfl rfl (take_ofW HT_.out HW_.out kZ) (fun _ _ _ h => h) (Or.inl ⟨by rfl, ?_⟩) hHeld ?_ ?_
      rotate_left
      ·rintro w' ⟨s0, s1, s2, s3, s4, s5, s6, s7, s8, s9, s10, s11⟩
       go_simp
       with_reducible rfl
      rotate_left
      ·simp only [Act.put, sZ1, sZ2, sZ3, i64_w, i32_w]
       rfl
      refine take_ (i := 2) (N := some 47) (v := ?_) (a' := ?_) L4' rfl rfl (take_ofW HT_.out HW_.out kZ) (fun _ _ _ h => h) (Or.inl ⟨by rfl, ?_⟩) hHeld ?_ ?_
      rotate_left
      ·rintro w' ⟨s0, s1, s2, s3, s4, s5, s6, s7, s8, s9, s10, s11⟩
       go_simp
       with_reducible rfl
      rotate_left
      ·simp only [Act.put, sZ1, sZ2, sZ3, i64_w, i32_w]
       rfl
      refine pure_ (i := 4) (N := some 49) (v := ?_) (a' := ?_) L5' rfl rfl (any_of HT_.out kZ) (fun _ _ _ h => h) (Or.inl ⟨by rfl, ?_⟩) ?_ ?_
      rotate_left
      ·intro w'
       go_simp
       with_reducible rfl
      rotate_left
      ·simp only [Act.put, sZ1, sZ2, sZ3, i64_w, i32_w]
       rfl
      refine take_ (i := 5) (N := some 50) (v := ?_) (a' := ?_) L6' rfl rfl (take_ofW HT_.out HW_.out kZ) (fun _ _ _ h => h) (Or.inl ⟨by rfl, ?_⟩) hHeld ?_ ?_
      rotate_left
      ·rintro w' ⟨s0, s1, s2, s3, s4, s5, s6, s7, s8, s9, s10, s11⟩
       go_simp
       with_reducible rfl
      rotate_left
      ·simp only [Act.put, sZ1, sZ2, sZ3, i64_w, i32_w]
       rfl
      refine one_ (i := 6) (N := some 51) L7' rfl rfl (one_of HT_.out kZ) (by decide) (fun K hK => ?_)
      refine goes_ Try.func74 kZ rfl #[.agg #[.slice A0_0 l0_0.length c0_0, .int .i64 a0_1, .int .i64 a0_2], .agg #[.int .i64 ((rd_T109 l1_3 x5_2).f0), .int .i64 ((rd_T109 l1_3 x5_2).f1), .int .i64 ((rd_T109 l1_3 x5_2).f2), .int .i64 ((rd_T109 l1_3 x5_2).f3), .int .i64 ((rd_T109 l1_3 x5_2).f4)]] (by rfl) rfl rfl tZA ?_
      with_reducible refine (spec_l5LineOk.calls k2 _ _ l0_0 a0_1 a0_2 ((rd_T109 l1_3 x5_2).f0) ((rd_T109 l1_3 x5_2).f1) ((rd_T109 l1_3 x5_2).f2) ((rd_T109 l1_3 x5_2).f3) ((rd_T109 l1_3 x5_2).f4) true _ ?side1 ?side2 A37.out).mono ?_
      (case side1 => repeat (first | exact (Kd.C_below HR0_0.out HB.out) | (with_reducible refine Kd.C_alloc ?_ _) | (with_reducible refine Kd.C_drewN ?_ _) | (with_reducible refine Kd.C_drew ?_)))
      (case side2 => exact HC0_0.out)
      rintro e w42 ⟨rfl, hb⟩
      refine ⟨_, rfl, ?_⟩
      replace BK138 := aZ (blk_below (bkZ BK138.out) hb)
      replace BK139 := aZ (blk_below (bkZ BK139.out) hb)
      replace HB := aZ (below_step bZ hb)
      (try clear hb)
      (try clear hb2)
      (try clear hk)
      (try clear hi)
      refine hK.out _ _ ⟨(blk_cell BK138.out 0).trans rfl, (blk_cell BK138.out 1).trans rfl, (blk_cell BK138.out 2).trans rfl, (blk_cell BK139.out 0).trans rfl, (blk_cell BK139.out 1).trans rfl, (blk_cell BK139.out 2).trans rfl, (blk_cell BK139.out 3).trans rfl, ((HB.out.cell (World.block_lt_of_cell? w _ hw145_0)).trans hw145_0), ((HB.out.cell (World.block_lt_of_cell? w _ hw145_1)).trans hw145_1), ((HB.out.cell (World.block_lt_of_cell? w _ hw145_2)).trans hw145_2), ((HB.out.cell (World.block_lt_of_cell? w _ hw145_3)).trans hw145_3), ((HB.out.cell (World.block_lt_of_cell? w _ hw145_4)).trans hw145_4)⟩ (fun hHeld => ?_)
      clear hK K
      refine norm_ (a' := ?_) ?_ ?_
      rotate_left
      ·show Act.put _ (some 51) _ = _
       simp only [Act.put, sZ1, sZ2, sZ3, i64_w, i32_w]
       rfl
      refine pure_ (i := 7) (N := some 52) (v := ?_) (a' := ?_) L8' rfl rfl (any_of HT_.out kZ) (fun _ _ _ h => h) (Or.inl ⟨by rfl, ?_⟩) ?_ ?_
      rotate_left
      ·intro w'
       go_simp
       with_reducible rfl
      rotate_left
      ·simp only [Act.put, sZ1, sZ2, sZ3, i64_w, i32_w]
       rfl
      refine done_ (done_of HT_.out kZ) ?_
      try go_wp2
      go_roundg k2
      case measure => have := HJ2.out; have := HK2.out; omega
      case rel => exact ⟨(wrap64 (x5_2 + 1)), tZB, H', ⟨by have := HJ2.out; have := HK2.out; omega⟩, ⟨bkZ BK138.out⟩, ⟨bkZ BK139.out⟩, ⟨bZ⟩⟩
     rw [if_neg c35] at H
     have c35b0 := decide_eq_false c35
     clear c35
     have H' := Aside0.mk H
     clear H
     have hnb47 := NB139_138.out
     have hnc47 := NB138_139.out
     have hcz48_0 : wr.cell? ⟨gb139, 0, none⟩ = some (.int .i64 a1_0) := (blk_cell BK139.out 0).trans rfl
     have hcz48_1 : wr.cell? ⟨gb139, 1, none⟩ = some (.int .i64 a1_1) := (blk_cell BK139.out 1).trans rfl
     have hcz48_2 : wr.cell? ⟨gb139, 2, none⟩ = some (.string a1_2) := (blk_cell BK139.out 2).trans rfl
     have hcz48_3 : wr.cell? ⟨gb139, 3, none⟩ = some (.slice A1_3 l1_3.length c1_3) := (blk_cell BK139.out 3).trans rfl
     have hfz48_0 := blk_frozen BK139.out 0
     have hfz48_1 := blk_frozen BK139.out 1
     have hfz48_2 := blk_frozen BK139.out 2
     have hfz48_3 := blk_frozen BK139.out 3
     go_wp2
     go_loopg [6] k2 (fun kq v6 w' => ∃ (x6_3 : Int), v6 = .int .i64 x6_3 ∧ Aside0 (spec_EntryOk.l1 kq x6_3 a1_0 a1_1 a1_2 l1_3 = some r) ∧ Aside0 (kq ≤ k2) ∧ Aside0 (w'.heap[gb138]? = some (.cells #[(.slice A0_0 l0_0.length c0_0), .int .i64 a0_1, .int .i64 a0_2] 33 (0, 0))) ∧ Aside0 (w'.heap[gb139]? = some (.cells #[.int .i64 a1_0, .int .i64 a1_1, .string a1_2, (.slice A1_3 l1_3.length c1_3)] 37 (0, 0))) ∧ Aside0 (Below w.heap.size w w'))
     case atStart => exact ⟨(0), tZB, H', ⟨Nat.le_refl _⟩, ⟨bkZ BK138.out⟩, ⟨bkZ BK139.out⟩, ⟨bZ⟩⟩
     case round =>
      clear H'
      try clear c1
      try clear p1
      try clear q1
      try clear hx1
      try clear c2
      try clear p2
      try clear c3
      try clear c4
      try clear p6
      try clear c7
      try clear c9
      try clear c11
      try clear c13
      try clear p14
      try clear q14
      try clear hx14
      try clear c15
      try clear c16
      try clear c19
      try clear c23
      try clear c27
      try clear c31
      try clear c34
      try clear c35
      try clear c35b0
      try clear c36
      try clear c36b0
      try clear c38
      try clear c39
      try clear c43
      try clear c47
      try clear hcz16_0
      try clear hcz16_1
      try clear hcz16_2
      try clear hcz18_0
      try clear hcz18_1
      try clear hcz18_2
      try clear hcz18_3
      try clear hcz20_0
      try clear hcz20_1
      try clear hcz20_2
      try clear hcz22_0
      try clear hcz22_1
      try clear hcz22_2
      try clear hcz22_3
      try clear hcz24_0
      try clear hcz24_1
      try clear hcz24_2
      try clear hcz26_0
      try clear hcz26_1
      try clear hcz26_2
      try clear hcz26_3
      try clear hcz28_0
      try clear hcz28_1
      try clear hcz28_2
      try clear hcz30_0
      try clear hcz30_1
      try clear hcz30_2
      try clear hcz30_3
      try clear hcz32_0
      try clear hcz32_1
      try clear hcz32_2
      try clear hcz40_0
      try clear hcz40_1
      try clear hcz40_2
      try clear hcz40_3
      try clear hcz44_0
      try clear hcz44_1
      try clear hcz44_2
      try clear hcz44_3
      try clear hcz48_0
      try clear hcz48_1
      try clear hcz48_2
      try clear hcz48_3
      try clear hfz16_0
      try clear hfz16_1
      try clear hfz16_2
      try clear hfz18_0
      try clear hfz18_1
      try clear hfz18_2
      try clear hfz18_3
      try clear hfz20_0
      try clear hfz20_1
      try clear hfz20_2
      try clear hfz22_0
      try clear hfz22_1
      try clear hfz22_2
      try clear hfz22_3
      try clear hfz24_0
      try clear hfz24_1
      try clear hfz24_2
      try clear hfz26_0
      try clear hfz26_1
      try clear hfz26_2
      try clear hfz26_3
      try clear hfz28_0
      try clear hfz28_1
      try clear hfz28_2
      try clear hfz30_0
      try clear hfz30_1
      try clear hfz30_2
      try clear hfz30_3
      try clear hfz32_0
      try clear hfz32_1
      try clear hfz32_2
      try clear hfz40_0
      try clear hfz40_1
      try clear hfz40_2
      try clear hfz40_3
      try clear hfz44_0
      try clear hfz44_1
      try clear hfz44_2
      try clear hfz44_3
      try clear hfz48_0
      try clear hfz48_1
      try clear hfz48_2
      try clear hfz48_3
      try clear hx145_0
      try clear hx145_1
      try clear hx145_2
      try clear hx145_3
      try clear hx145_4
      try clear p145
      try clear p2
      try clear q145
      obtain ⟨x6_3, rfl, HA, HK3, BK138, BK139, HB⟩ := hrel
      cases gk with
      | zero => exact absurd HA.out (by simp [spec_EntryOk.l1])
      | succ k3 =>
       have H := HA.out
       clear HA
       simp only [spec_EntryOk.l1] at H
       by_cases c49 : x6_3 < (l1_3.length : Int)
       rotate_left
       ·rw [if_neg c49] at H
        have c49b0 := decide_eq_false c49
        clear c49
        obtain rfl := Option.some.inj H
        have hnb87 := NB139_138.out
        have hnc87 := NB138_139.out
        have hcz88_0 : wr.cell? ⟨gb139, 0, none⟩ = some (.int .i64 a1_0) := (blk_cell BK139.out 0).trans rfl
        have hcz88_1 : wr.cell? ⟨gb139, 1, none⟩ = some (.int .i64 a1_1) := (blk_cell BK139.out 1).trans rfl
        have hcz88_2 : wr.cell? ⟨gb139, 2, none⟩ = some (.string a1_2) := (blk_cell BK139.out 2).trans rfl
        have hcz88_3 : wr.cell? ⟨gb139, 3, none⟩ = some (.slice A1_3 l1_3.length c1_3) := (blk_cell BK139.out 3).trans rfl
        have hfz88_0 := blk_frozen BK139.out 0
        have hfz88_1 := blk_frozen BK139.out 1
        have hfz88_2 := blk_frozen BK139.out 2
        have hfz88_3 := blk_frozen BK139.out 3
        go_wp2
        go_ret
        exact ⟨tZC, bZ⟩
       rw [if_pos c49] at H
       have c49b0 := decide_eq_true c49
       clear c49
       have H' := Aside0.mk H
       clear H
       have hnb50 := NB139_138.out
       have hnc50 := NB138_139.out
       have hcz51_0 : wr.cell? ⟨gb139, 0, none⟩ = some (.int .i64 a1_0) := (blk_cell BK139.out 0).trans rfl
       have hcz51_1 : wr.cell? ⟨gb139, 1, none⟩ = some (.int .i64 a1_1) := (blk_cell BK139.out 1).trans rfl
       have hcz51_2 : wr.cell? ⟨gb139, 2, none⟩ = some (.string a1_2) := (blk_cell BK139.out 2).trans rfl
       have hcz51_3 : wr.cell? ⟨gb139, 3, none⟩ = some (.slice A1_3 l1_3.length c1_3) := (blk_cell BK139.out 3).trans rfl
       have hfz51_0 := blk_frozen BK139.out 0
       have hfz51_1 := blk_frozen BK139.out 1
       have hfz51_2 := blk_frozen BK139.out 2
       have hfz51_3 := blk_frozen BK139.out 3
       go_wp2
       go_loopg [7, 8, 9] k3 (fun kq v7 v8 v9 w' => ∃ (x7_4 : Int) (x8_4 : Int) (x9_4 : Int), v7 = .int .i64 x7_4 ∧ v8 = .int .i64 x8_4 ∧ v9 = .int .i64 x9_4 ∧ Aside0 (spec_EntryOk.l2 kq x6_3 x7_4 x8_4 x9_4 a1_0 a1_1 a1_2 l1_3 = some r) ∧ Aside0 (kq ≤ k3) ∧ Aside0 (w'.heap[gb138]? = some (.cells #[(.slice A0_0 l0_0.length c0_0), .int .i64 a0_1, .int .i64 a0_2] 33 (0, 0))) ∧ Aside0 (w'.heap[gb139]? = some (.cells #[.int .i64 a1_0, .int .i64 a1_1, .string a1_2, (.slice A1_3 l1_3.length c1_3)] 37 (0, 0))) ∧ Aside0 (Below w.heap.size w w'))
       case atStart => exact ⟨(0), (0), (0), tZB, tZB, tZB, H', ⟨Nat.le_refl _⟩, ⟨bkZ BK138.out⟩, ⟨bkZ BK139.out⟩, ⟨bZ⟩⟩
       case round =>
        clear H'
        try clear c1
        try clear p1
        try clear q1
        try clear hx1
        try clear c2
        try clear p2
        try clear c3
        try clear c4
        try clear c5
        try clear p6
        try clear c7
        try clear c9
        try clear c11
        try clear c13
        try clear p14
        try clear q14
        try clear hx14
        try clear c15
        try clear c16
        try clear c19
        try clear c23
        try clear c27
        try clear c31
        try clear c34
        try clear c35
        try clear c35b0
        try clear c36
        try clear c36b0
        try clear c38
        try clear c39
        try clear c43
        try clear c47
        try clear c49
        try clear c49b0
        try clear c50
        try clear hcz16_0
        try clear hcz16_1
        try clear hcz16_2
        try clear hcz18_0
        try clear hcz18_1
        try clear hcz18_2
        try clear hcz18_3
        try clear hcz20_0
        try clear hcz20_1
        try clear hcz20_2
        try clear hcz22_0
        try clear hcz22_1
        try clear hcz22_2
        try clear hcz22_3
        try clear hcz24_0
        try clear hcz24_1
        try clear hcz24_2
        try clear hcz26_0
        try clear hcz26_1
        try clear hcz26_2
        try clear hcz26_3
        try clear hcz28_0
        try clear hcz28_1
        try clear hcz28_2
        try clear hcz30_0
        try clear hcz30_1
        try clear hcz30_2
        try clear hcz30_3
        try clear hcz32_0
        try clear hcz32_1
        try clear hcz32_2
        try clear hcz40_0
        try clear hcz40_1
        try clear hcz40_2
        try clear hcz40_3
        try clear hcz44_0
        try clear hcz44_1
        try clear hcz44_2
        try clear hcz44_3
        try clear hcz48_0
        try clear hcz48_1
        try clear hcz48_2
        try clear hcz48_3
        try clear hcz51_0
        try clear hcz51_1
        try clear hcz51_2
        try clear hcz51_3
        try clear hfz16_0
        try clear hfz16_1
        try clear hfz16_2
        try clear hfz18_0
        try clear hfz18_1
        try clear hfz18_2
        try clear hfz18_3
        try clear hfz20_0
        try clear hfz20_1
        try clear hfz20_2
        try clear hfz22_0
        try clear hfz22_1
        try clear hfz22_2
        try clear hfz22_3
        try clear hfz24_0
        try clear hfz24_1
        try clear hfz24_2
        try clear hfz26_0
        try clear hfz26_1
        try clear hfz26_2
        try clear hfz26_3
        try clear hfz28_0
        try clear hfz28_1
        try clear hfz28_2
        try clear hfz30_0
        try clear hfz30_1
        try clear hfz30_2
        try clear hfz30_3
        try clear hfz32_0
        try clear hfz32_1
        try clear hfz32_2
        try clear hfz40_0
        try clear hfz40_1
        try clear hfz40_2
        try clear hfz40_3
        try clear hfz44_0
        try clear hfz44_1
        try clear hfz44_2
        try clear hfz44_3
        try clear hfz48_0
        try clear hfz48_1
        try clear hfz48_2
        try clear hfz48_3
        try clear hfz51_0
        try clear hfz51_1
        try clear hfz51_2
        try clear hfz51_3
        try clear hx145_0
        try clear hx145_1
        try clear hx145_2
        try clear hx145_3
        try clear hx145_4
        try clear p1
        try clear p14
        try clear p145
        try clear p2
        try clear p6
        try clear q1
        try clear q14
        try clear q145
        obtain ⟨x7_4, x8_4, x9_4, rfl, rfl, rfl, HA, HK4, BK138, BK139, HB⟩ := hrel
        cases gk with
        | zero => exact absurd HA.out (by simp [spec_EntryOk.l2])
        | succ k4 =>
         have H := HA.out
         clear HA
         simp only [spec_EntryOk.l2] at H
         by_cases c52 : x9_4 < (l1_3.length : Int)
         rotate_left
         ·rw [if_neg c52] at H
          have c52b0 := decide_eq_false c52
          clear c52
          by_cases c79 : x7_4 = 0
          rotate_left
          ·rw [if_neg c79] at H
           have c79b0 : (x7_4 == 0) = false := beq_eq_false_iff_ne.mpr c79
           have c79b1 : (x7_4 != 0) = true := bne_iff_ne.mpr c79
           obtain rfl := Option.some.inj H
           have hnb85 := NB139_138.out
           have hnc85 := NB138_139.out
           have hcz86_0 : wr.cell? ⟨gb139, 0, none⟩ = some (.int .i64 a1_0) := (blk_cell BK139.out 0).trans rfl
           have hcz86_1 : wr.cell? ⟨gb139, 1, none⟩ = some (.int .i64 a1_1) := (blk_cell BK139.out 1).trans rfl
           have hcz86_2 : wr.cell? ⟨gb139, 2, none⟩ = some (.string a1_2) := (blk_cell BK139.out 2).trans rfl
           have hcz86_3 : wr.cell? ⟨gb139, 3, none⟩ = some (.slice A1_3 l1_3.length c1_3) := (blk_cell BK139.out 3).trans rfl
           have hfz86_0 := blk_frozen BK139.out 0
           have hfz86_1 := blk_frozen BK139.out 1
           have hfz86_2 := blk_frozen BK139.out 2
           have hfz86_3 := blk_frozen BK139.out 3
           go_wp2
           go_ret
           exact ⟨tZC, bZ⟩
          rw [if_pos c79] at H
          have c79b0 : (x7_4 == 0) = true := beq_iff_eq.mpr c79
          have c79b1 : (x7_4 != 0) = false := bne_eq_false_iff_eq.mpr c79
          clear c79
          by_cases c80 : x8_4 = 0
          rotate_left
          ·rw [if_neg c80] at H
           have c80b0 : (x8_4 == 0) = false := beq_eq_false_iff_ne.mpr c80
           have c80b1 : (x8_4 != 0) = true := bne_iff_ne.mpr c80
           obtain rfl := Option.some.inj H
           have hnb83 := NB139_138.out
           have hnc83 := NB138_139.out
           have hcz84_0 : wr.cell? ⟨gb139, 0, none⟩ = some (.int .i64 a1_0) := (blk_cell BK139.out 0).trans rfl
           have hcz84_1 : wr.cell? ⟨gb139, 1, none⟩ = some (.int .i64 a1_1) := (blk_cell BK139.out 1).trans rfl
           have hcz84_2 : wr.cell? ⟨gb139, 2, none⟩ = some (.string a1_2) := (blk_cell BK139.out 2).trans rfl
           have hcz84_3 : wr.cell? ⟨gb139, 3, none⟩ = some (.slice A1_3 l1_3.length c1_3) := (blk_cell BK139.out 3).trans rfl
           have hfz84_0 := blk_frozen BK139.out 0
           have hfz84_1 := blk_frozen BK139.out 1
           have hfz84_2 := blk_frozen BK139.out 2
           have hfz84_3 := blk_frozen BK139.out 3
           go_wp2
           go_ret
           exact ⟨tZC, bZ⟩
          rw [if_pos c80] at H
          have c80b0 : (x8_4 == 0) = true := beq_iff_eq.mpr c80
          have c80b1 : (x8_4 != 0) = false := bne_eq_false_iff_eq.mpr c80
          clear c80
          have H' := Aside0.mk H
          clear H
          have hnb81 := NB139_138.out
          have hnc81 := NB138_139.out
          have hcz82_0 : wr.cell? ⟨gb139, 0, none⟩ = some (.int .i64 a1_0) := (blk_cell BK139.out 0).trans rfl
          have hcz82_1 : wr.cell? ⟨gb139, 1, none⟩ = some (.int .i64 a1_1) := (blk_cell BK139.out 1).trans rfl
          have hcz82_2 : wr.cell? ⟨gb139, 2, none⟩ = some (.string a1_2) := (blk_cell BK139.out 2).trans rfl
          have hcz82_3 : wr.cell? ⟨gb139, 3, none⟩ = some (.slice A1_3 l1_3.length c1_3) := (blk_cell BK139.out 3).trans rfl
          have hfz82_0 := blk_frozen BK139.out 0
          have hfz82_1 := blk_frozen BK139.out 1
          have hfz82_2 := blk_frozen BK139.out 2
          have hfz82_3 := blk_frozen BK139.out 3
          go_wp2
          go_roundg k4
          case measure => have := HJ2.out; have := HK2.out; have := HK3.out; have := HK4.out; omega
          case rel => exact ⟨(wrap64 (x6_3 + 1)), tZB, H', ⟨by have := HJ2.out; have := HK2.out; have := HK3.out; have := HK4.out; omega⟩, ⟨bkZ BK138.out⟩, ⟨bkZ BK139.out⟩, ⟨bZ⟩⟩
         rw [if_pos c52] at H
         have c52b0 := decide_eq_true c52
         clear c52
         by_cases c53 : 0 ≤ x9_4
         rotate_left
         ·rw [if_neg c53] at H
          exact absurd H (by simp)
         rw [if_pos c53] at H
         have c53b0 := decide_eq_true c53
         clear c53
         by_cases c54 : 0 ≤ x6_3
         rotate_left
         ·rw [if_neg c54] at H
          exact absurd H (by simp)
         rw [if_pos c54] at H
         have c54b0 := decide_eq_true c54
         clear c54
         by_cases c55 : x6_3 < (l1_3.length : Int)
         rotate_left
         ·rw [if_neg c55] at H
          exact absurd H (by simp)
         rw [if_pos c55] at H
         have c55b0 := decide_eq_true c55
         clear c55
         by_cases c56 : ((rd_T109 l1_3 x9_4).f2) = ((rd_T109 l1_3 x6_3).f2)
         rotate_left
         ·rw [if_neg c56] at H
          have c56b0 : (((rd_T109 l1_3 x9_4).f2) == ((rd_T109 l1_3 x6_3).f2)) = false := beq_eq_false_iff_ne.mpr c56
          have c56b1 : (((rd_T109 l1_3 x9_4).f2) != ((rd_T109 l1_3 x6_3).f2)) = true := bne_iff_ne.mpr c56
          by_cases c69 : ((rd_T109 l1_3 x9_4).f1) = ((rd_T109 l1_3 x6_3).f1)
          rotate_left
          ·rw [if_neg c69] at H
           have c69b0 : (((rd_T109 l1_3 x9_4).f1) == ((rd_T109 l1_3 x6_3).f1)) = false := beq_eq_false_iff_ne.mpr c69
           have c69b1 : (((rd_T109 l1_3 x9_4).f1) != ((rd_T109 l1_3 x6_3).f1)) = true := bne_iff_ne.mpr c69
           have H' := Aside0.mk H
           clear H
           have hnb75 := NB139_138.out
           have hnc75 := NB138_139.out
           have hcz76_0 : wr.cell? ⟨gb139, 0, none⟩ = some (.int .i64 a1_0) := (blk_cell BK139.out 0).trans rfl
           have hcz76_1 : wr.cell? ⟨gb139, 1, none⟩ = some (.int .i64 a1_1) := (blk_cell BK139.out 1).trans rfl
           have hcz76_2 : wr.cell? ⟨gb139, 2, none⟩ = some (.string a1_2) := (blk_cell BK139.out 2).trans rfl
           have hcz76_3 : wr.cell? ⟨gb139, 3, none⟩ = some (.slice A1_3 l1_3.length c1_3) := (blk_cell BK139.out 3).trans rfl
           have hfz76_0 := blk_frozen BK139.out 0
           have hfz76_1 := blk_frozen BK139.out 1
           have hfz76_2 := blk_frozen BK139.out 2
           have hfz76_3 := blk_frozen BK139.out 3
           try go_wp2
           replace BK138 := aZ (blk_drew BK138.out)
           replace BK139 := aZ (blk_drew BK139.out)
           replace HB := aZ (below_drew1 HB.out)
           have p147 : 0 ≤ (x9_4 : Int) := of_decide_eq_true tZE
           have q147 : x9_4 < (l1_3.length : Int) := of_decide_eq_true tZE
           obtain ⟨ad147, e147, hx147_0, hx147_1, hx147_2, hx147_3, hx147_4⟩ := at_T109 HR1_3.out x9_4 p147 q147
           have hw147_4 := hx147_4
           have hw147_3 := hx147_3
           have hw147_2 := hx147_2
           have hw147_1 := hx147_1
           have hw147_0 := hx147_0
           cases e147
           replace hx147_0 := cZ HB hx147_0
           replace hx147_1 := cZ HB hx147_1
           replace hx147_2 := cZ HB hx147_2
           replace hx147_3 := cZ HB hx147_3
           replace hx147_4 := cZ HB hx147_4
           replace p147 := eq_true p147
           replace q147 := eq_true q147
           have p148 : 0 ≤ (x6_3 : Int) := of_decide_eq_true tZE
           have q148 : x6_3 < (l1_3.length : Int) := of_decide_eq_true tZE
           obtain ⟨ad148, e148, hx148_0, hx148_1, hx148_2, hx148_3, hx148_4⟩ := at_T109 HR1_3.out x6_3 p148 q148
           have hw148_4 := hx148_4
           have hw148_3 := hx148_3
           have hw148_2 := hx148_2
           have hw148_1 := hx148_1
           have hw148_0 := hx148_0
           obtain rfl : ad147 = ad148 := (by injection e148)
           replace hx148_0 := cZ HB hx148_0
           replace hx148_1 := cZ HB hx148_1
           replace hx148_2 := cZ HB hx148_2
           replace hx148_3 := cZ HB hx148_3
           replace hx148_4 := cZ HB hx148_4
           replace p148 := eq_true p148
           replace q148 := eq_true q148
           refine start_ (n := 13) (S := fun w' => w'.cell? ⟨gb139, 0, none⟩ = some (.int .i64 a1_0) ∧ w'.cell? ⟨gb139, 1, none⟩ = some (.int .i64 a1_1) ∧ w'.cell? ⟨gb139, 2, none⟩ = some (.string a1_2) ∧ w'.cell? ⟨gb139, 3, none⟩ = some (.slice (some ad147) l1_3.length c1_3) ∧ w'.cell? (ad147.add ((x9_4).toNat * 5)) = some (.int .i64 ((rd_T109 l1_3 x9_4).f0)) ∧ w'.cell? ⟨(ad147.add ((x9_4).toNat * 5)).block, (ad147.add ((x9_4).toNat * 5)).off + 1, none⟩ = some (.int .i64 ((rd_T109 l1_3 x9_4).f1)) ∧ w'.cell? ⟨(ad147.add ((x9_4).toNat * 5)).block, (ad147.add ((x9_4).toNat * 5)).off + 2, none⟩ = some (.int .i64 ((rd_T109 l1_3 x9_4).f2)) ∧ w'.cell? ⟨(ad147.add ((x9_4).toNat * 5)).block, (ad147.add ((x9_4).toNat * 5)).off + 3, none⟩ = some (.int .i64 ((rd_T109 l1_3 x9_4).f3)) ∧ w'.cell? ⟨(ad147.add ((x9_4).toNat * 5)).block, (ad147.add ((x9_4).toNat * 5)).off + 4, none⟩ = some (.int .i64 ((rd_T109 l1_3 x9_4).f4)) ∧ w'.cell? (ad147.add ((x6_3).toNat * 5)) = some (.int .i64 ((rd_T109 l1_3 x6_3).f0)) ∧ w'.cell? ⟨(ad147.add ((x6_3).toNat * 5)).block, (ad147.add ((x6_3).toNat * 5)).off + 1, none⟩ = some (.int .i64 ((rd_T109 l1_3 x6_3).f1)) ∧ w'.cell? ⟨(ad147.add ((x6_3).toNat * 5)).block, (ad147.add ((x6_3).toNat * 5)).off + 2, none⟩ = some (.int .i64 ((rd_T109 l1_3 x6_3).f2)) ∧ w'.cell? ⟨(ad147.add ((x6_3).toNat * 5)).block, (ad147.add ((x6_3).toNat * 5)).off + 3, none⟩ = some (.int .i64 ((rd_T109 l1_3 x6_3).f3)) ∧ w'.cell? ⟨(ad147.add ((x6_3).toNat * 5)).block, (ad147.add ((x6_3).toNat * 5)).off + 4, none⟩ = some (.int .i64 ((rd_T109 l1_3 x6_3).f4))) (ds := []) L9' kZ rfl rfl ⟨(blk_cell BK139.out 0).trans rfl, (blk_cell BK139.out 1).trans rfl, (blk_cell BK139.out 2).trans rfl, (blk_cell BK139.out 3).trans rfl, ((HB.out.cell (World.block_lt_of_cell? w _ hw147_0)).trans hw147_0), ((HB.out.cell (World.block_lt_of_cell? w _ hw147_1)).trans hw147_1), ((HB.out.cell (World.block_lt_of_cell? w _ hw147_2)).trans hw147_2), ((HB.out.cell (World.block_lt_of_cell? w _ hw147_3)).trans hw147_3), ((HB.out.cell (World.block_lt_of_cell? w _ hw147_4)).trans hw147_4), ((HB.out.cell (World.block_lt_of_cell? w _ hw148_0)).trans hw148_0), ((HB.out.cell (World.block_lt_of_cell? w _ hw148_1)).trans hw148_1), ((HB.out.cell (World.block_lt_of_cell? w _ hw148_2)).trans hw148_2), ((HB.out.cell (World.block_lt_of_cell? w _ hw148_3)).trans hw148_3), ((HB.out.cell (World.block_lt_of_cell? w _ hw148_4)).trans hw148_4)⟩ (fun hHeld => ?_); refine with_tabW spec_EntryOk.tab16 spec_EntryOk.bits16 (fun HT_ HW_ => ?_)
           generalize wr.drew = w77 at BK138 BK139 HB hx147_0 hx147_1 hx147_2 hx147_3 hx147_4 hx148_0 hx148_1 hx148_2 hx148_3 hx148_4 hHeld ⊢
           refine pure_ (i := 0) (N := some 67) (v := ?_) (a' := ?_) L10' rfl rfl (any_of HT_.out kZ) (fun _ _ _ h => h) (Or.inl ⟨by rfl, ?_⟩) ?_ ?_
           rotate_left
           ·intro w'
            go_simp
            with_reducible rfl
           rotate_left
           ·simp only [Act.put, sZ1, sZ2, sZ3, i64_w, i32_w]
            rfl
           refine pure_ (i := 2) (N := some 69) (v := ?_) (a' := ?_) L11' rfl rfl (any_of HT_.out kZ) (fun _ _ _ h => h) (Or.inl ⟨by rfl, ?_⟩) ?_ ?_
           rotate_left
           ·intro w'
            go_simp
            with_reducible rfl
           rotate_left
           ·simp only [Act.put, sZ1, sZ2, sZ3, i64_w, i32_w]
            rfl
           refine pure_ (i := 6) (N := some 73) (v := ?_) (a' := ?_) L12' rfl rfl (any_of HT_.out kZ) (fun _ _ _ h => h) (Or.inl ⟨by rfl, ?_⟩) ?_ ?_
           rotate_left
           ·intro w'
            go_simp
            with_reducible rfl
           rotate_left
           ·simp only [Act.put, sZ1, sZ2, sZ3, i64_w, i32_w]
            rfl
           refine pure_ (i := 8) (N := some 75) (v := ?_) (a' := ?_) L13' rfl rfl (any_of HT_.out kZ) (fun _ _ _ h => h) (Or.inl ⟨by rfl, ?_⟩) ?_ ?_
           rotate_left
           ·intro w'
            go_simp
            with_reducible rfl
           rotate_left
           ·simp only [Act.put, sZ1, sZ2, sZ3, i64_w, i32_w]
            rfl
           refine take_ (i := 1) (N := some 68) (v := ?_) (a' := ?_) L14' rfl rfl (take_ofW HT_.out HW_.out kZ) (fun _ _ _ h => h) (Or.inl ⟨by rfl, ?_⟩) hHeld ?_ ?_
           rotate_left
           ·rintro w' ⟨s0, s1, s2, s3, s4, s5, s6, s7, s8, s9, s10, s11, s12, s13⟩
            go_simp
            with_reducible rfl
           rotate_left
           ·simp only [Act.put, sZ1, sZ2, sZ3, i64_w, i32_w]
            rfl
           refine pure_ (i := 3) (N := some 70) (v := ?_) (a' := ?_) L15' rfl rfl (any_of HT_.out kZ) (fun _ _ _ h => h) (Or.inl ⟨by rfl, ?_⟩) ?_ ?_
           rotate_left
           ·intro w'
            go_simp
            with_reducible rfl
           rotate_left
           ·simp only [Act.put, sZ1, sZ2, sZ3, i64_w, i32_w]
            rfl
           refine pure_ (i := 4) (N := some 71) (v := ?_) (a' := ?_) L16' rfl rfl (any_of HT_.out kZ) (fun _ _ _ h => h) (Or.inl ⟨by rfl, ?_⟩) ?_ ?_
           rotate_left
           ·intro w'
            go_simp
            with_reducible rfl
           rotate_left
           ·simp only [Act.put, sZ1, sZ2, sZ3, i64_w, i32_w]
            rfl
           refine take_ (i := 5) (N := some 72) (v := ?_) (a' := ?_) L17' rfl rfl (take_ofW HT_.out HW_.out kZ) (fun _ _ _ h => h) (Or.inl ⟨by rfl, ?_⟩) hHeld ?_ ?_
           rotate_left
           ·rintro w' ⟨s0, s1, s2, s3, s4, s5, s6, s7, s8, s9, s10, s11, s12, s13⟩
            go_simp
            with_reducible rfl
           rotate_left
           ·simp only [Act.put, sZ1, sZ2, sZ3, i64_w, i32_w]
            rfl
           refine take_ (i := 7) (N := some 74) (v := ?_) (a' := ?_) L18' rfl rfl (take_ofW HT_.out HW_.out kZ) (fun _ _ _ h => h) (Or.inl ⟨by rfl, ?_⟩) hHeld ?_ ?_
           rotate_left
           ·rintro w' ⟨s0, s1, s2, s3, s4, s5, s6, s7, s8, s9, s10, s11, s12, s13⟩
            go_simp
            with_reducible rfl
           rotate_left
           ·simp only [Act.put, sZ1, sZ2, sZ3, i64_w, i32_w]
            rfl
           refine pure_ (i := 9) (N := some 76) (v := ?_) (a' := ?_) L19' rfl rfl (any_of HT_.out kZ) (fun _ _ _ h => h) (Or.inl ⟨by rfl, ?_⟩) ?_ ?_
           rotate_left
           ·intro w'
            go_simp
            with_reducible rfl
           rotate_left
           ·simp only [Act.put, sZ1, sZ2, sZ3, i64_w, i32_w]
            rfl
           refine pure_ (i := 10) (N := some 77) (v := ?_) (a' := ?_) L20' rfl rfl (any_of HT_.out kZ) (fun _ _ _ h => h) (Or.inl ⟨by rfl, ?_⟩) ?_ ?_
           rotate_left
           ·intro w'
            go_simp
            with_reducible rfl
           rotate_left
           ·simp only [Act.put, sZ1, sZ2, sZ3, i64_w, i32_w]
            rfl
           refine take_ (i := 11) (N := some 78) (v := ?_) (a' := ?_) L21' rfl rfl (take_ofW HT_.out HW_.out kZ) (fun _ _ _ h => h) (Or.inl ⟨by rfl, ?_⟩) hHeld ?_ ?_
           rotate_left
           ·rintro w' ⟨s0, s1, s2, s3, s4, s5, s6, s7, s8, s9, s10, s11, s12, s13⟩
            go_simp
            with_reducible rfl
           rotate_left
           ·simp only [Act.put, sZ1, sZ2, sZ3, i64_w, i32_w]
            rfl
           refine pure_ (i := 12) (N := some 79) (v := ?_) (a' := ?_) L22' rfl rfl (any_of HT_.out kZ) (fun _ _ _ h => h) (Or.inl ⟨by rfl, ?_⟩) ?_ ?_
           rotate_left
           ·intro w'
            go_simp
            with_reducible rfl
           rotate_left
           ·simp only [Act.put, sZ1, sZ2, sZ3, i64_w, i32_w]
            rfl
           refine done_ (done_of HT_.out kZ) ?_
           try go_wp2
           replace BK138 := aZ (blk_drew BK138.out)
           replace BK139 := aZ (blk_drew BK139.out)
           replace HB := aZ (below_drew1 HB.out)
           have p153 : 0 ≤ (x9_4 : Int) := of_decide_eq_true tZE
           have q153 : x9_4 < (l1_3.length : Int) := of_decide_eq_true tZE
           obtain ⟨ad153, e153, hx153_0, hx153_1, hx153_2, hx153_3, hx153_4⟩ := at_T109 HR1_3.out x9_4 p153 q153
           have hw153_4 := hx153_4
           have hw153_3 := hx153_3
           have hw153_2 := hx153_2
           have hw153_1 := hx153_1
           have hw153_0 := hx153_0
           obtain rfl : ad147 = ad153 := (by injection e153)
           replace hx153_0 := cZ HB hx153_0
           replace hx153_1 := cZ HB hx153_1
           replace hx153_2 := cZ HB hx153_2
           replace hx153_3 := cZ HB hx153_3
           replace hx153_4 := cZ HB hx153_4
           replace p153 := eq_true p153
           replace q153 := eq_true q153
           have p154 : 0 ≤ (x6_3 : Int) := of_decide_eq_true tZE
           have q154 : x6_3 < (l1_3.length : Int) := of_decide_eq_true tZE
           obtain ⟨ad154, e154, hx154_0, hx154_1, hx154_2, hx154_3, hx154_4⟩ := at_T109 HR1_3.out x6_3 p154 q154
           have hw154_4 := hx154_4
           have hw154_3 := hx154_3
           have hw154_2 := hx154_2
           have hw154_1 := hx154_1
           have hw154_0 := hx154_0
           obtain rfl : ad147 = ad154 := (by injection e154)
           replace hx154_0 := cZ HB hx154_0
           replace hx154_1 := cZ HB hx154_1
           replace hx154_2 := cZ HB hx154_2
           replace hx154_3 := cZ HB hx154_3
           replace hx154_4 := cZ HB hx154_4
           replace p154 := eq_true p154
           replace q154 := eq_true q154
           refine start_ (n := 13) (S := fun w' => w'.cell? ⟨gb139, 0, none⟩ = some (.int .i64 a1_0) ∧ w'.cell? ⟨gb139, 1, none⟩ = some (.int .i64 a1_1) ∧ w'.cell? ⟨gb139, 2, none⟩ = some (.string a1_2) ∧ w'.cell? ⟨gb139, 3, none⟩ = some (.slice (some ad147) l1_3.length c1_3) ∧ w'.cell? (ad147.add ((x9_4).toNat * 5)) = some (.int .i64 ((rd_T109 l1_3 x9_4).f0)) ∧ w'.cell? ⟨(ad147.add ((x9_4).toNat * 5)).block, (ad147.add ((x9_4).toNat * 5)).off + 1, none⟩ = some (.int .i64 ((rd_T109 l1_3 x9_4).f1)) ∧ w'.cell? ⟨(ad147.add ((x9_4).toNat * 5)).block, (ad147.add ((x9_4).toNat * 5)).off + 2, none⟩ = some (.int .i64 ((rd_T109 l1_3 x9_4).f2)) ∧ w'.cell? ⟨(ad147.add ((x9_4).toNat * 5)).block, (ad147.add ((x9_4).toNat * 5)).off + 3, none⟩ = some (.int .i64 ((rd_T109 l1_3 x9_4).f3)) ∧ w'.cell? ⟨(ad147.add ((x9_4).toNat * 5)).block, (ad147.add ((x9_4).toNat * 5)).off + 4, none⟩ = some (.int .i64 ((rd_T109 l1_3 x9_4).f4)) ∧ w'.cell? (ad147.add ((x6_3).toNat * 5)) = some (.int .i64 ((rd_T109 l1_3 x6_3).f0)) ∧ w'.cell? ⟨(ad147.add ((x6_3).toNat * 5)).block, (ad147.add ((x6_3).toNat * 5)).off + 1, none⟩ = some (.int .i64 ((rd_T109 l1_3 x6_3).f1)) ∧ w'.cell? ⟨(ad147.add ((x6_3).toNat * 5)).block, (ad147.add ((x6_3).toNat * 5)).off + 2, none⟩ = some (.int .i64 ((rd_T109 l1_3 x6_3).f2)) ∧ w'.cell? ⟨(ad147.add ((x6_3).toNat * 5)).block, (ad147.add ((x6_3).toNat * 5)).off + 3, none⟩ = some (.int .i64 ((rd_T109 l1_3 x6_3).f3)) ∧ w'.cell? ⟨(ad147.add ((x6_3).toNat * 5)).block, (ad147.add ((x6_3).toNat * 5)).off + 4, none⟩ = some (.int .i64 ((rd_T109 l1_3 x6_3).f4))) (ds := []) L9' kZ rfl rfl ⟨(blk_cell BK139.out 0).trans rfl, (blk_cell BK139.out 1).trans rfl, (blk_cell BK139.out 2).trans rfl, (blk_cell BK139.out 3).trans rfl, ((HB.out.cell (World.block_lt_of_cell? w _ hw153_0)).trans hw153_0), ((HB.out.cell (World.block_lt_of_cell? w _ hw153_1)).trans hw153_1), ((HB.out.cell (World.block_lt_of_cell? w _ hw153_2)).trans hw153_2), ((HB.out.cell (World.block_lt_of_cell? w _ hw153_3)).trans hw153_3), ((HB.out.cell (World.block_lt_of_cell? w _ hw153_4)).trans hw153_4), ((HB.out.cell (World.block_lt_of_cell? w _ hw154_0)).trans hw154_0), ((HB.out.cell (World.block_lt_of_cell? w _ hw154_1)).trans hw154_1), ((HB.out.cell (World.block_lt_of_cell? w _ hw154_2)).trans hw154_2), ((HB.out.cell (World.block_lt_of_cell? w _ hw154_3)).trans hw154_3), ((HB.out.cell (World.block_lt_of_cell? w _ hw154_4)).trans hw154_4)⟩ (fun hHeld => ?_); refine with_tabW spec_EntryOk.tab18 spec_EntryOk.bits18 (fun HT_ HW_ => ?_)
           generalize w77.drew = w78 at BK138 BK139 HB hx153_0 hx153_1 hx153_2 hx153_3 hx153_4 hx154_0 hx154_1 hx154_2 hx154_3 hx154_4 hHeld ⊢
           refine pure_ (i := 0) (N := some 88) (v := ?_) (a' := ?_) L10' rfl rfl (any_of HT_.out kZ) (fun _ _ _ h => h) (Or.inl ⟨by rfl, ?_⟩) ?_ ?_
           rotate_left
           ·intro w'
            go_simp
            with_reducible rfl
           rotate_left
           ·simp only [Act.put, sZ1, sZ2, sZ3, i64_w, i32_w]
            rfl
           refine pure_ (i := 2) (N := some 90) (v := ?_) (a' := ?_) L11' rfl rfl (any_of HT_.out kZ) (fun _ _ _ h => h) (Or.inl ⟨by rfl, ?_⟩) ?_ ?_
           rotate_left
           ·intro w'
            go_simp
            with_reducible rfl
           rotate_left
           ·simp only [Act.put, sZ1, sZ2, sZ3, i64_w, i32_w]
            rfl
           refine pure_ (i := 6) (N := some 94) (v := ?_) (a' := ?_) L12' rfl rfl (any_of HT_.out kZ) (fun _ _ _ h => h) (Or.inl ⟨by rfl, ?_⟩) ?_ ?_
           rotate_left
           ·intro w'
            go_simp
            with_reducible rfl
           rotate_left
           ·simp only [Act.put, sZ1, sZ2, sZ3, i64_w, i32_w]
            rfl
           refine pure_ (i := 8) (N := some 96) (v := ?_) (a' := ?_) L13' rfl rfl (any_of HT_.out kZ) (fun _ _ _ h => h) (Or.inl ⟨by rfl, ?_⟩) ?_ ?_
           rotate_left
           ·intro w'
            go_simp
            with_reducible rfl
           rotate_left
           ·simp only [Act.put, sZ1, sZ2, sZ3, i64_w, i32_w]
            rfl
           refine take_ (i := 1) (N := some 89) (v := ?_) (a' := ?_) L14' rfl rfl (take_ofW HT_.out HW_.out kZ) (fun _ _ _ h => h) (Or.inl ⟨by rfl, ?_⟩) hHeld ?_ ?_
           rotate_left
           ·rintro w' ⟨s0, s1, s2, s3, s4, s5, s6, s7, s8, s9, s10, s11, s12, s13⟩
            go_simp
            with_reducible rfl
           rotate_left
           ·simp only [Act.put, sZ1, sZ2, sZ3, i64_w, i32_w]
            rfl
           refine pure_ (i := 3) (N := some 91) (v := ?_) (a' := ?_) L15' rfl rfl (any_of HT_.out kZ) (fun _ _ _ h => h) (Or.inl ⟨by rfl, ?_⟩) ?_ ?_
           rotate_left
           ·intro w'
            go_simp
            with_reducible rfl
           rotate_left
           ·simp only [Act.put, sZ1, sZ2, sZ3, i64_w, i32_w]
            rfl
           refine pure_ (i := 4) (N := some 92) (v := ?_) (a' := ?_) L16' rfl rfl (any_of HT_.out kZ) (fun _ _ _ h => h) (Or.inl ⟨by rfl, ?_⟩) ?_ ?_
           rotate_left
           ·intro w'
            go_simp
            with_reducible rfl
           rotate_left
           ·simp only [Act.put, sZ1, sZ2, sZ3, i64_w, i32_w]
            rfl
           refine take_ (i := 5) (N := some 93) (v := ?_) (a' := ?_) L17' rfl rfl (take_ofW HT_.out HW_.out kZ) (fun _ _ _ h => h) (Or.inl ⟨by rfl, ?_⟩) hHeld ?_ ?_
           rotate_left
           ·rintro w' ⟨s0, s1, s2, s3, s4, s5, s6, s7, s8, s9, s10, s11, s12, s13⟩
            go_simp
            with_reducible rfl
           rotate_left
           ·simp only [Act.put, sZ1, sZ2, sZ3, i64_w, i32_w]
            rfl
           refine take_ (i := 7) (N := some 95) (v := ?_) (a' := ?_) L18' rfl rfl (take_ofW HT_.out HW_.out kZ) (fun _ _ _ h => h) (Or.inl ⟨by rfl, ?_⟩) hHeld ?_ ?_
           rotate_left
           ·rintro w' ⟨s0, s1, s2, s3, s4, s5, s6, s7, s8, s9, s10, s11, s12, s13⟩
            go_simp
            with_reducible rfl
           rotate_left
           ·simp only [Act.put, sZ1, sZ2, sZ3, i64_w, i32_w]
            rfl
           refine pure_ (i := 9) (N := some 97) (v := ?_) (a' := ?_) L19' rfl rfl (any_of HT_.out kZ) (fun _ _ _ h => h) (Or.inl ⟨by rfl, ?_⟩) ?_ ?_
           rotate_left
           ·intro w'
            go_simp
            with_reducible rfl
           rotate_left
           ·simp only [Act.put, sZ1, sZ2, sZ3, i64_w, i32_w]
            rfl
           refine pure_ (i := 10) (N := some 98) (v := ?_) (a' := ?_) L20' rfl rfl (any_of HT_.out kZ) (fun _ _ _ h => h) (Or.inl ⟨by rfl, ?_⟩) ?_ ?_
           rotate_left
           ·intro w'
            go_simp
            with_reducible rfl
           rotate_left
           ·simp only [Act.put, sZ1, sZ2, sZ3, i64_w, i32_w]
            rfl
           refine take_ (i := 11) (N := some 99) (v := ?_) (a' := ?_) L21' rfl rfl (take_ofW HT_.out HW_.out kZ) (fun _ _ _ h => h) (Or.inl ⟨by rfl, ?_⟩) hHeld ?_ ?_
           rotate_left
           ·rintro w' ⟨s0, s1, s2, s3, s4, s5, s6, s7, s8, s9, s10, s11, s12, s13⟩
            go_simp
            with_reducible rfl
           rotate_left
           ·simp only [Act.put, sZ1, sZ2, sZ3, i64_w, i32_w]
            rfl
           refine pure_ (i := 12) (N := some 100) (v := ?_) (a' := ?_) L22' rfl rfl (any_of HT_.out kZ) (fun _ _ _ h => h) (Or.inl ⟨by rfl, ?_⟩) ?_ ?_
           rotate_left
           ·intro w'
            go_simp
            with_reducible rfl
           rotate_left
           ·simp only [Act.put, sZ1, sZ2, sZ3, i64_w, i32_w]
            rfl
           refine done_ (done_of HT_.out kZ) ?_
           try go_wp2
           go_roundg k4
           case measure => have := HJ2.out; have := HK2.out; have := HK3.out; have := HK4.out; omega
           case rel => exact ⟨(x7_4), (x8_4), (wrap64 (x9_4 + 1)), tZB, tZB, tZB, H', ⟨by have := HJ2.out; have := HK2.out; have := HK3.out; have := HK4.out; omega⟩, ⟨bkZ BK138.out⟩, ⟨bkZ BK139.out⟩, ⟨bZ⟩⟩
          rw [if_pos c69] at H
          have c69b0 : (((rd_T109 l1_3 x9_4).f1) == ((rd_T109 l1_3 x6_3).f1)) = true := beq_iff_eq.mpr c69
          have c69b1 : (((rd_T109 l1_3 x9_4).f1) != ((rd_T109 l1_3 x6_3).f1)) = false := bne_eq_false_iff_eq.mpr c69
          clear c69
          have H' := Aside0.mk H
          clear H
          have hnb70 := NB139_138.out
          have hnc70 := NB138_139.out
          have hcz71_0 : wr.cell? ⟨gb139, 0, none⟩ = some (.int .i64 a1_0) := (blk_cell BK139.out 0).trans rfl
          have hcz71_1 : wr.cell? ⟨gb139, 1, none⟩ = some (.int .i64 a1_1) := (blk_cell BK139.out 1).trans rfl
          have hcz71_2 : wr.cell? ⟨gb139, 2, none⟩ = some (.string a1_2) := (blk_cell BK139.out 2).trans rfl
          have hcz71_3 : wr.cell? ⟨gb139, 3, none⟩ = some (.slice A1_3 l1_3.length c1_3) := (blk_cell BK139.out 3).trans rfl
          have hfz71_0 := blk_frozen BK139.out 0
          have hfz71_1 := blk_frozen BK139.out 1
          have hfz71_2 := blk_frozen BK139.out 2
          have hfz71_3 := blk_frozen BK139.out 3
          try go_wp2
          replace BK138 := aZ (blk_drew BK138.out)
          replace BK139 := aZ (blk_drew BK139.out)
          replace HB := aZ (below_drew1 HB.out)
          have p147 : 0 ≤ (x9_4 : Int) := of_decide_eq_true tZE
          have q147 : x9_4 < (l1_3.length : Int) := of_decide_eq_true tZE
          obtain ⟨ad147, e147, hx147_0, hx147_1, hx147_2, hx147_3, hx147_4⟩ := at_T109 HR1_3.out x9_4 p147 q147
          have hw147_4 := hx147_4
          have hw147_3 := hx147_3
          have hw147_2 := hx147_2
          have hw147_1 := hx147_1
          have hw147_0 := hx147_0
          cases e147
          replace hx147_0 := cZ HB hx147_0
          replace hx147_1 := cZ HB hx147_1
          replace hx147_2 := cZ HB hx147_2
          replace hx147_3 := cZ HB hx147_3
          replace hx147_4 := cZ HB hx147_4
          replace p147 := eq_true p147
          replace q147 := eq_true q147
          have p148 : 0 ≤ (x6_3 : Int) := of_decide_eq_true tZE
          have q148 : x6_3 < (l1_3.length : Int) := of_decide_eq_true tZE
          obtain ⟨ad148, e148, hx148_0, hx148_1, hx148_2, hx148_3, hx148_4⟩ := at_T109 HR1_3.out x6_3 p148 q148
          have hw148_4 := hx148_4
          have hw148_3 := hx148_3
          have hw148_2 := hx148_2
          have hw148_1 := hx148_1
          have hw148_0 := hx148_0
          obtain rfl : ad147 = ad148 := (by injection e148)
          replace hx148_0 := cZ HB hx148_0
          replace hx148_1 := cZ HB hx148_1
          replace hx148_2 := cZ HB hx148_2
          replace hx148_3 := cZ HB hx148_3
          replace hx148_4 := cZ HB hx148_4
          replace p148 := eq_true p148
          replace q148 := eq_true q148
          refine start_ (n := 13) (S := fun w' => w'.cell? ⟨gb139, 0, none⟩ = some (.int .i64 a1_0) ∧ w'.cell? ⟨gb139, 1, none⟩ = some (.int .i64 a1_1) ∧ w'.cell? ⟨gb139, 2, none⟩ = some (.string a1_2) ∧ w'.cell? ⟨gb139, 3, none⟩ = some (.slice (some ad147) l1_3.length c1_3) ∧ w'.cell? (ad147.add ((x9_4).toNat * 5)) = some (.int .i64 ((rd_T109 l1_3 x9_4).f0)) ∧ w'.cell? ⟨(ad147.add ((x9_4).toNat * 5)).block, (ad147.add ((x9_4).toNat * 5)).off + 1, none⟩ = some (.int .i64 ((rd_T109 l1_3 x9_4).f1)) ∧ w'.cell? ⟨(ad147.add ((x9_4).toNat * 5)).block, (ad147.add ((x9_4).toNat * 5)).off + 2, none⟩ = some (.int .i64 ((rd_T109 l1_3 x9_4).f2)) ∧ w'.cell? ⟨(ad147.add ((x9_4).toNat * 5)).block, (ad147.add ((x9_4).toNat * 5)).off + 3, none⟩ = some (.int .i64 ((rd_T109 l1_3 x9_4).f3)) ∧ w'.cell? ⟨(ad147.add ((x9_4).toNat * 5)).block, (ad147.add ((x9_4).toNat * 5)).off + 4, none⟩ = some (.int .i64 ((rd_T109 l1_3 x9_4).f4)) ∧ w'.cell? (ad147.add ((x6_3).toNat * 5)) = some (.int .i64 ((rd_T109 l1_3 x6_3).f0)) ∧ w'.cell? ⟨(ad147.add ((x6_3).toNat * 5)).block, (ad147.add ((x6_3).toNat * 5)).off + 1, none⟩ = some (.int .i64 ((rd_T109 l1_3 x6_3).f1)) ∧ w'.cell? ⟨(ad147.add ((x6_3).toNat * 5)).block, (ad147.add ((x6_3).toNat * 5)).off + 2, none⟩ = some (.int .i64 ((rd_T109 l1_3 x6_3).f2)) ∧ w'.cell? ⟨(ad147.add ((x6_3).toNat * 5)).block, (ad147.add ((x6_3).toNat * 5)).off + 3, none⟩ = some (.int .i64 ((rd_T109 l1_3 x6_3).f3)) ∧ w'.cell? ⟨(ad147.add ((x6_3).toNat * 5)).block, (ad147.add ((x6_3).toNat * 5)).off + 4, none⟩ = some (.int .i64 ((rd_T109 l1_3 x6_3).f4))) (ds := []) L9' kZ rfl rfl ⟨(blk_cell BK139.out 0).trans rfl, (blk_cell BK139.out 1).trans rfl, (blk_cell BK139.out 2).trans rfl, (blk_cell BK139.out 3).trans rfl, ((HB.out.cell (World.block_lt_of_cell? w _ hw147_0)).trans hw147_0), ((HB.out.cell (World.block_lt_of_cell? w _ hw147_1)).trans hw147_1), ((HB.out.cell (World.block_lt_of_cell? w _ hw147_2)).trans hw147_2), ((HB.out.cell (World.block_lt_of_cell? w _ hw147_3)).trans hw147_3), ((HB.out.cell (World.block_lt_of_cell? w _ hw147_4)).trans hw147_4), ((HB.out.cell (World.block_lt_of_cell? w _ hw148_0)).trans hw148_0), ((HB.out.cell (World.block_lt_of_cell? w _ hw148_1)).trans hw148_1), ((HB.out.cell (World.block_lt_of_cell? w _ hw148_2)).trans hw148_2), ((HB.out.cell (World.block_lt_of_cell? w _ hw148_3)).trans hw148_3), ((HB.out.cell (World.block_lt_of_cell? w _ hw148_4)).trans hw148_4)⟩ (fun hHeld => ?_); refine with_tabW spec_EntryOk.tab16 spec_EntryOk.bits16 (fun HT_ HW_ => ?_)
          generalize wr.drew = w72 at BK138 BK139 HB hx147_0 hx147_1 hx147_2 hx147_3 hx147_4 hx148_0 hx148_1 hx148_2 hx148_3 hx148_4 hHeld ⊢
          refine pure_ (i := 0) (N := some 67) (v := ?_) (a' := ?_) L10' rfl rfl (any_of HT_.out kZ) (fun _ _ _ h => h) (Or.inl ⟨by rfl, ?_⟩) ?_ ?_
          rotate_left
          ·intro w'
           go_simp
           with_reducible rfl
          rotate_left
          ·simp only [Act.put, sZ1, sZ2, sZ3, i64_w, i32_w]
           rfl
          refine pure_ (i := 2) (N := some 69) (v := ?_) (a' := ?_) L11' rfl rfl (any_of HT_.out kZ) (fun _ _ _ h => h) (Or.inl ⟨by rfl, ?_⟩) ?_ ?_
          rotate_left
          ·intro w'
           go_simp
           with_reducible rfl
          rotate_left
          ·simp only [Act.put, sZ1, sZ2, sZ3, i64_w, i32_w]
           rfl
          refine pure_ (i := 6) (N := some 73) (v := ?_) (a' := ?_) L12' rfl rfl (any_of HT_.out kZ) (fun _ _ _ h => h) (Or.inl ⟨by rfl, ?_⟩) ?_ ?_
          rotate_left
          ·intro w'
           go_simp
           with_reducible rfl
          rotate_left
          ·simp only [Act.put, sZ1, sZ2, sZ3, i64_w, i32_w]
           rfl
          refine pure_ (i := 8) (N := some 75) (v := ?_) (a' := ?_) L13' rfl rfl (any_of HT_.out kZ) (fun _ _ _ h => h) (Or.inl ⟨by rfl, ?_⟩) ?_ ?_
          rotate_left
          ·intro w'
           go_simp
           with_reducible rfl
          rotate_left
          ·simp only [Act.put, sZ1, sZ2, sZ3, i64_w, i32_w]
           rfl
          refine take_ (i := 1) (N := some 68) (v := ?_) (a' := ?_) L14' rfl rfl (take_ofW HT_.out HW_.out kZ) (fun _ _ _ h => h) (Or.inl ⟨by rfl, ?_⟩) hHeld ?_ ?_
          rotate_left
          ·rintro w' ⟨s0, s1, s2, s3, s4, s5, s6, s7, s8, s9, s10, s11, s12, s13⟩
           go_simp
           with_reducible rfl
          rotate_left
          ·simp only [Act.put, sZ1, sZ2, sZ3, i64_w, i32_w]
           rfl
          refine pure_ (i := 3) (N := some 70) (v := ?_) (a' := ?_) L15' rfl rfl (any_of HT_.out kZ) (fun _ _ _ h => h) (Or.inl ⟨by rfl, ?_⟩) ?_ ?_
          rotate_left
          ·intro w'
           go_simp
           with_reducible rfl
          rotate_left
          ·simp only [Act.put, sZ1, sZ2, sZ3, i64_w, i32_w]
           rfl
          refine pure_ (i := 4) (N := some 71) (v := ?_) (a' := ?_) L16' rfl rfl (any_of HT_.out kZ) (fun _ _ _ h => h) (Or.inl ⟨by rfl, ?_⟩) ?_ ?_
          rotate_left
          ·intro w'
           go_simp
           with_reducible rfl
          rotate_left
          ·simp only [Act.put, sZ1, sZ2, sZ3, i64_w, i32_w]
           rfl
          refine take_ (i := 5) (N := some 72) (v := ?_) (a' := ?_) L17' rfl rfl (take_ofW HT_.out HW_.out kZ) (fun _ _ _ h => h) (Or.inl ⟨by rfl, ?_⟩) hHeld ?_ ?_
          rotate_left
          ·rintro w' ⟨s0, s1, s2, s3, s4, s5, s6, s7, s8, s9, s10, s11, s12, s13⟩
           go_simp
           with_reducible rfl
          rotate_left
          ·simp only [Act.put, sZ1, sZ2, sZ3, i64_w, i32_w]
           rfl
          refine take_ (i := 7) (N := some 74) (v := ?_) (a' := ?_) L18' rfl rfl (take_ofW HT_.out HW_.out kZ) (fun _ _ _ h => h) (Or.inl ⟨by rfl, ?_⟩) hHeld ?_ ?_
          rotate_left
          ·rintro w' ⟨s0, s1, s2, s3, s4, s5, s6, s7, s8, s9, s10, s11, s12, s13⟩
           go_simp
           with_reducible rfl
          rotate_left
          ·simp only [Act.put, sZ1, sZ2, sZ3, i64_w, i32_w]
           rfl
          refine pure_ (i := 9) (N := some 76) (v := ?_) (a' := ?_) L19' rfl rfl (any_of HT_.out kZ) (fun _ _ _ h => h) (Or.inl ⟨by rfl, ?_⟩) ?_ ?_
          rotate_left
          ·intro w'
           go_simp
           with_reducible rfl
          rotate_left
          ·simp only [Act.put, sZ1, sZ2, sZ3, i64_w, i32_w]
           rfl
          refine pure_ (i := 10) (N := some 77) (v := ?_) (a' := ?_) L20' rfl rfl (any_of HT_.out kZ) (fun _ _ _ h => h) (Or.inl ⟨by rfl, ?_⟩) ?_ ?_
          rotate_left
          ·intro w'
           go_simp
           with_reducible rfl
          rotate_left
          ·simp only [Act.put, sZ1, sZ2, sZ3, i64_w, i32_w]
           rfl
          refine take_ (i := 11) (N := some 78) (v := ?_) (a' := ?_) L21' rfl rfl (take_ofW HT_.out HW_.out kZ) (fun _ _ _ h => h) (Or.inl ⟨by rfl, ?_⟩) hHeld ?_ ?_
          rotate_left
          ·rintro w' ⟨s0, s1, s2, s3, s4, s5, s6, s7, s8, s9, s10, s11, s12, s13⟩
           go_simp
           with_reducible rfl
          rotate_left
          ·simp only [Act.put, sZ1, sZ2, sZ3, i64_w, i32_w]
           rfl
          refine pure_ (i := 12) (N := some 79) (v := ?_) (a' := ?_) L22' rfl rfl (any_of HT_.out kZ) (fun _ _ _ h => h) (Or.inl ⟨by rfl, ?_⟩) ?_ ?_
          rotate_left
          ·intro w'
           go_simp
           with_reducible rfl
          rotate_left
          ·simp only [Act.put, sZ1, sZ2, sZ3, i64_w, i32_w]
           rfl
          refine done_ (done_of HT_.out kZ) ?_
          try go_wp2
          replace BK138 := aZ (blk_drew BK138.out)
          replace BK139 := aZ (blk_drew BK139.out)
          replace HB := aZ (below_drew1 HB.out)
          have p153 : 0 ≤ (x9_4 : Int) := of_decide_eq_true tZE
          have q153 : x9_4 < (l1_3.length : Int) := of_decide_eq_true tZE
          obtain ⟨ad153, e153, hx153_0, hx153_1, hx153_2, hx153_3, hx153_4⟩ := at_T109 HR1_3.out x9_4 p153 q153
          have hw153_4 := hx153_4
          have hw153_3 := hx153_3
          have hw153_2 := hx153_2
          have hw153_1 := hx153_1
          have hw153_0 := hx153_0
          obtain rfl : ad147 = ad153 := (by injection e153)
          replace hx153_0 := cZ HB hx153_0
          replace hx153_1 := cZ HB hx153_1
          replace hx153_2 := cZ HB hx153_2
          replace hx153_3 := cZ HB hx153_3
          replace hx153_4 := cZ HB hx153_4
          replace p153 := eq_true p153
          replace q153 := eq_true q153
          have p154 : 0 ≤ (x6_3 : Int) := of_decide_eq_true tZE
          have q154 : x6_3 < (l1_3.length : Int) := of_decide_eq_true tZE
          obtain ⟨ad154, e154, hx154_0, hx154_1, hx154_2, hx154_3, hx154_4⟩ := at_T109 HR1_3.out x6_3 p154 q154
          have hw154_4 := hx154_4
          have hw154_3 := hx154_3
          have hw154_2 := hx154_2
          have hw154_1 := hx154_1
          have hw154_0 := hx154_0
          obtain rfl : ad147 = ad154 := (by injection e154)
          replace hx154_0 := cZ HB hx154_0
          replace hx154_1 := cZ HB hx154_1
          replace hx154_2 := cZ HB hx154_2
          replace hx154_3 := cZ HB hx154_3
          replace hx154_4 := cZ HB hx154_4
          replace p154 := eq_true p154
          replace q154 := eq_true q154
          refine start_ (n := 13) (S := fun w' => w'.cell? ⟨gb139, 0, none⟩ = some (.int .i64 a1_0) ∧ w'.cell? ⟨gb139, 1, none⟩ = some (.int .i64 a1_1) ∧ w'.cell? ⟨gb139, 2, none⟩ = some (.string a1_2) ∧ w'.cell? ⟨gb139, 3, none⟩ = some (.slice (some ad147) l1_3.length c1_3) ∧ w'.cell? (ad147.add ((x9_4).toNat * 5)) = some (.int .i64 ((rd_T109 l1_3 x9_4).f0)) ∧ w'.cell? ⟨(ad147.add ((x9_4).toNat * 5)).block, (ad147.add ((x9_4).toNat * 5)).off + 1, none⟩ = some (.int .i64 ((rd_T109 l1_3 x9_4).f1)) ∧ w'.cell? ⟨(ad147.add ((x9_4).toNat * 5)).block, (ad147.add ((x9_4).toNat * 5)).off + 2, none⟩ = some (.int .i64 ((rd_T109 l1_3 x9_4).f2)) ∧ w'.cell? ⟨(ad147.add ((x9_4).toNat * 5)).block, (ad147.add ((x9_4).toNat * 5)).off + 3, none⟩ = some (.int .i64 ((rd_T109 l1_3 x9_4).f3)) ∧ w'.cell? ⟨(ad147.add ((x9_4).toNat * 5)).block, (ad147.add ((x9_4).toNat * 5)).off + 4, none⟩ = some (.int .i64 ((rd_T109 l1_3 x9_4).f4)) ∧ w'.cell? (ad147.add ((x6_3).toNat * 5)) = some (.int .i64 ((rd_T109 l1_3 x6_3).f0)) ∧ w'.cell? ⟨(ad147.add ((x6_3).toNat * 5)).block, (ad147.add ((x6_3).toNat * 5)).off + 1, none⟩ = some (.int .i64 ((rd_T109 l1_3 x6_3).f1)) ∧ w'.cell? ⟨(ad147.add ((x6_3).toNat * 5)).block, (ad147.add ((x6_3).toNat * 5)).off + 2, none⟩ = some (.int .i64 ((rd_T109 l1_3 x6_3).f2)) ∧ w'.cell? ⟨(ad147.add ((x6_3).toNat * 5)).block, (ad147.add ((x6_3).toNat * 5)).off + 3, none⟩ = some (.int .i64 ((rd_T109 l1_3 x6_3).f3)) ∧ w'.cell? ⟨(ad147.add ((x6_3).toNat * 5)).block, (ad147.add ((x6_3).toNat * 5)).off + 4, none⟩ = some (.int .i64 ((rd_T109 l1_3 x6_3).f4))) (ds := []) L9' kZ rfl rfl ⟨(blk_cell BK139.out 0).trans rfl, (blk_cell BK139.out 1).trans rfl, (blk_cell BK139.out 2).trans rfl, (blk_cell BK139.out 3).trans rfl, ((HB.out.cell (World.block_lt_of_cell? w _ hw153_0)).trans hw153_0), ((HB.out.cell (World.block_lt_of_cell? w _ hw153_1)).trans hw153_1), ((HB.out.cell (World.block_lt_of_cell? w _ hw153_2)).trans hw153_2), ((HB.out.cell (World.block_lt_of_cell? w _ hw153_3)).trans hw153_3), ((HB.out.cell (World.block_lt_of_cell? w _ hw153_4)).trans hw153_4), ((HB.out.cell (World.block_lt_of_cell? w _ hw154_0)).trans hw154_0), ((HB.out.cell (World.block_lt_of_cell? w _ hw154_1)).trans hw154_1), ((HB.out.cell (World.block_lt_of_cell? w _ hw154_2)).trans hw154_2), ((HB.out.cell (World.block_lt_of_cell? w _ hw154_3)).trans hw154_3), ((HB.out.cell (World.block_lt_of_cell? w _ hw154_4)).trans hw154_4)⟩ (fun hHeld => ?_); refine with_tabW spec_EntryOk.tab18 spec_EntryOk.bits18 (fun HT_ HW_ => ?_)
          generalize w72.drew = w73 at BK138 BK139 HB hx153_0 hx153_1 hx153_2 hx153_3 hx153_4 hx154_0 hx154_1 hx154_2 hx154_3 hx154_4 hHeld ⊢
          refine pure_ (i := 0) (N := some 88) (v := ?_) (a' := ?_) L10' rfl rfl (any_of HT_.out kZ) (fun _ _ _ h => h) (Or.inl ⟨by rfl, ?_⟩) ?_ ?_
          rotate_left
          ·intro w'
           go_simp
           with_reducible rfl
          rotate_left
          ·simp only [Act.put, sZ1, sZ2, sZ3, i64_w, i32_w]
           rfl
          refine pure_ (i := 2) (N := some 90) (v := ?_) (a' := ?_) L11' rfl rfl (any_of HT_.out kZ) (fun _ _ _ h => h) (Or.inl ⟨by rfl, ?_⟩) ?_ ?_
          rotate_left
          ·intro w'
           go_simp
           with_reducible rfl
          rotate_left
          ·simp only [Act.put, sZ1, sZ2, sZ3, i64_w, i32_w]
           rfl
          refine pure_ (i := 6) (N := some 94) (v := ?_) (a' := ?_) L12' rfl rfl (any_of HT_.out kZ) (fun _ _ _ h => h) (Or.inl ⟨by rfl, ?_⟩) ?_ ?_
          rotate_left
          ·intro w'
           go_simp
           with_reducible rfl
          rotate_left
          ·simp only [Act.put, sZ1, sZ2, sZ3, i64_w, i32_w]
           rfl
          refine pure_ (i := 8) (N := some 96) (v := ?_) (a' := ?_) L13' rfl rfl (any_of HT_.out kZ) (fun _ _ _ h => h) (Or.inl ⟨by rfl, ?_⟩) ?_ ?_
          rotate_left
          ·intro w'
           go_simp
           with_reducible rfl
          rotate_left
          ·simp only [Act.put, sZ1, sZ2, sZ3, i64_w, i32_w]
           rfl
          refine take_ (i := 1) (N := some 89) (v := ?_) (a' := ?_) L14' rfl rfl (take_ofW HT_.out HW_.out kZ) (fun _ _ _ h => h) (Or.inl ⟨by rfl, ?_⟩) hHeld ?_ ?_
          rotate_left
          ·rintro w' ⟨s0, s1, s2, s3, s4, s5, s6, s7, s8, s9, s10, s11, s12, s13⟩
           go_simp
           with_reducible rfl
          rotate_left
          ·simp only [Act.put, sZ1, sZ2, sZ3, i64_w, i32_w]
           rfl
          refine pure_ (i := 3) (N := some 91) (v := ?_) (a' := ?_) L15' rfl rfl (any_of HT_.out kZ) (fun _ _ _ h => h) (Or.inl ⟨by rfl, ?_⟩) ?_ ?_
          rotate_left
          ·intro w'
           go_simp
           with_reducible rfl
          rotate_left
          ·simp only [Act.put, sZ1, sZ2, sZ3, i64_w, i32_w]
           rfl
          refine pure_ (i := 4) (N := some 92) (v := ?_) (a' := ?_) L16' rfl rfl (any_of HT_.out kZ) (fun _ _ _ h => h) (Or.inl ⟨by rfl, ?_⟩) ?_ ?_
          rotate_left
          ·intro w'
           go_simp
           with_reducible rfl
          rotate_left
          ·simp only [Act.put, sZ1, sZ2, sZ3, i64_w, i32_w]
           rfl
          refine take_ (i := 5) (N := some 93) (v := ?_) (a' := ?_) L17' rfl rfl (take_ofW HT_.out HW_.out kZ) (fun _ _ _ h => h) (Or.inl ⟨by rfl, ?_⟩) hHeld ?_ ?_
          rotate_left
          ·rintro w' ⟨s0, s1, s2, s3, s4, s5, s6, s7, s8, s9, s10, s11, s12, s13⟩
           go_simp
           with_reducible rfl
          rotate_left
          ·simp only [Act.put, sZ1, sZ2, sZ3, i64_w, i32_w]
           rfl
          refine take_ (i := 7) (N := some 95) (v := ?_) (a' := ?_) L18' rfl rfl (take_ofW HT_.out HW_.out kZ) (fun _ _ _ h => h) (Or.inl ⟨by rfl, ?_⟩) hHeld ?_ ?_
          rotate_left
          ·rintro w' ⟨s0, s1, s2, s3, s4, s5, s6, s7, s8, s9, s10, s11, s12, s13⟩
           go_simp
           with_reducible rfl
          rotate_left
          ·simp only [Act.put, sZ1, sZ2, sZ3, i64_w, i32_w]
           rfl
          refine pure_ (i := 9) (N := some 97) (v := ?_) (a' := ?_) L19' rfl rfl (any_of HT_.out kZ) (fun _ _ _ h => h) (Or.inl ⟨by rfl, ?_⟩) ?_ ?_
          rotate_left
          ·intro w'
           go_simp
           with_reducible rfl
          rotate_left
          ·simp only [Act.put, sZ1, sZ2, sZ3, i64_w, i32_w]
           rfl
          refine pure_ (i := 10) (N := some 98) (v := ?_) (a' := ?_) L20' rfl rfl (any_of HT_.out kZ) (fun _ _ _ h => h) (Or.inl ⟨by rfl, ?_⟩) ?_ ?_
          rotate_left
          ·intro w'
           go_simp
           with_reducible rfl
          rotate_left
          ·simp only [Act.put, sZ1, sZ2, sZ3, i64_w, i32_w]
           rfl
          refine take_ (i := 11) (N := some 99) (v := ?_) (a' := ?_) L21' rfl rfl (take_ofW HT_.out HW_.out kZ) (fun _ _ _ h => h) (Or.inl ⟨by rfl, ?_⟩) hHeld ?_ ?_
          rotate_left
          ·rintro w' ⟨s0, s1, s2, s3, s4, s5, s6, s7, s8, s9, s10, s11, s12, s13⟩
           go_simp
           with_reducible rfl
          rotate_left
          ·simp only [Act.put, sZ1, sZ2, sZ3, i64_w, i32_w]
           rfl
          refine pure_ (i := 12) (N := some 100) (v := ?_) (a' := ?_) L22' rfl rfl (any_of HT_.out kZ) (fun _ _ _ h => h) (Or.inl ⟨by rfl, ?_⟩) ?_ ?_
          rotate_left
          ·intro w'
           go_simp
           with_reducible rfl
          rotate_left
          ·simp only [Act.put, sZ1, sZ2, sZ3, i64_w, i32_w]
           rfl
          refine done_ (done_of HT_.out kZ) ?_
          have hcz74_0 : w73.cell? ⟨gb139, 0, none⟩ = some (.int .i64 a1_0) := (blk_cell BK139.out 0).trans rfl
          have hcz74_1 : w73.cell? ⟨gb139, 1, none⟩ = some (.int .i64 a1_1) := (blk_cell BK139.out 1).trans rfl
          have hcz74_2 : w73.cell? ⟨gb139, 2, none⟩ = some (.string a1_2) := (blk_cell BK139.out 2).trans rfl
          have hcz74_3 : w73.cell? ⟨gb139, 3, none⟩ = some (.slice (some ad147) l1_3.length c1_3) := (blk_cell BK139.out 3).trans rfl
          have hfz74_0 := blk_frozen BK139.out 0
          have hfz74_1 := blk_frozen BK139.out 1
          have hfz74_2 := blk_frozen BK139.out 2
          have hfz74_3 := blk_frozen BK139.out 3
          have p155 : 0 ≤ (x9_4 : Int) := of_decide_eq_true tZE
          have q155 : x9_4 < (l1_3.length : Int) := of_decide_eq_true tZE
          obtain ⟨ad155, e155, hx155_0, hx155_1, hx155_2, hx155_3, hx155_4⟩ := at_T109 HR1_3.out x9_4 p155 q155
          obtain rfl : ad147 = ad155 := (by injection e155)
          replace hx155_0 := cZ HB hx155_0
          replace hx155_1 := cZ HB hx155_1
          replace hx155_2 := cZ HB hx155_2
          replace hx155_3 := cZ HB hx155_3
          replace hx155_4 := cZ HB hx155_4
          replace p155 := eq_true p155
          replace q155 := eq_true q155
          try go_wp2
          go_roundg k4
          case measure => have := HJ2.out; have := HK2.out; have := HK3.out; have := HK4.out; omega
          case rel => exact ⟨(x7_4), (wrap64 (x8_4 + ((rd_T109 l1_3 x9_4).f4))), (wrap64 (x9_4 + 1)), tZB, tZB, tZB, H', ⟨by have := HJ2.out; have := HK2.out; have := HK3.out; have := HK4.out; omega⟩, ⟨bkZ BK138.out⟩, ⟨bkZ BK139.out⟩, ⟨bZ⟩⟩
         rw [if_pos c56] at H
         have c56b0 : (((rd_T109 l1_3 x9_4).f2) == ((rd_T109 l1_3 x6_3).f2)) = true := beq_iff_eq.mpr c56
         have c56b1 : (((rd_T109 l1_3 x9_4).f2) != ((rd_T109 l1_3 x6_3).f2)) = false := bne_eq_false_iff_eq.mpr c56
         clear c56
         by_cases c57 : ((rd_T109 l1_3 x9_4).f1) = ((rd_T109 l1_3 x6_3).f1)
         rotate_left
         ·rw [if_neg c57] at H
          have c57b0 : (((rd_T109 l1_3 x9_4).f1) == ((rd_T109 l1_3 x6_3).f1)) = false := beq_eq_false_iff_ne.mpr c57
          have c57b1 : (((rd_T109 l1_3 x9_4).f1) != ((rd_T109 l1_3 x6_3).f1)) = true := bne_iff_ne.mpr c57
          have H' := Aside0.mk H
          clear H
          have hnb64 := NB139_138.out
          have hnc64 := NB138_139.out
          have hcz65_0 : wr.cell? ⟨gb139, 0, none⟩ = some (.int .i64 a1_0) := (blk_cell BK139.out 0).trans rfl
          have hcz65_1 : wr.cell? ⟨gb139, 1, none⟩ = some (.int .i64 a1_1) := (blk_cell BK139.out 1).trans rfl
          have hcz65_2 : wr.cell? ⟨gb139, 2, none⟩ = some (.string a1_2) := (blk_cell BK139.out 2).trans rfl
          have hcz65_3 : wr.cell? ⟨gb139, 3, none⟩ = some (.slice A1_3 l1_3.length c1_3) := (blk_cell BK139.out 3).trans rfl
          have hfz65_0 := blk_frozen BK139.out 0
          have hfz65_1 := blk_frozen BK139.out 1
          have hfz65_2 := blk_frozen BK139.out 2
          have hfz65_3 := blk_frozen BK139.out 3
          try go_wp2
          replace BK138 := aZ (blk_drew BK138.out)
          replace BK139 := aZ (blk_drew BK139.out)
          replace HB := aZ (below_drew1 HB.out)
          have p147 : 0 ≤ (x9_4 : Int) := of_decide_eq_true tZE
          have q147 : x9_4 < (l1_3.length : Int) := of_decide_eq_true tZE
          obtain ⟨ad147, e147, hx147_0, hx147_1, hx147_2, hx147_3, hx147_4⟩ := at_T109 HR1_3.out x9_4 p147 q147
          have hw147_4 := hx147_4
          have hw147_3 := hx147_3
          have hw147_2 := hx147_2
          have hw147_1 := hx147_1
          have hw147_0 := hx147_0
          cases e147
          replace hx147_0 := cZ HB hx147_0
          replace hx147_1 := cZ HB hx147_1
          replace hx147_2 := cZ HB hx147_2
          replace hx147_3 := cZ HB hx147_3
          replace hx147_4 := cZ HB hx147_4
          replace p147 := eq_true p147
          replace q147 := eq_true q147
          have p148 : 0 ≤ (x6_3 : Int) := of_decide_eq_true tZE
          have q148 : x6_3 < (l1_3.length : Int) := of_decide_eq_true tZE
          obtain ⟨ad148, e148, hx148_0, hx148_1, hx148_2, hx148_3, hx148_4⟩ := at_T109 HR1_3.out x6_3 p148 q148
          have hw148_4 := hx148_4
          have hw148_3 := hx148_3
          have hw148_2 := hx148_2
          have hw148_1 := hx148_1
          have hw148_0 := hx148_0
          obtain rfl : ad147 = ad148 := (by injection e148)
          replace hx148_0 := cZ HB hx148_0
          replace hx148_1 := cZ HB hx148_1
          replace hx148_2 := cZ HB hx148_2
          replace hx148_3 := cZ HB hx148_3
          replace hx148_4 := cZ HB hx148_4
          replace p148 := eq_true p148
          replace q148 := eq_true q148
          refine start_ (n := 13) (S := fun w' => w'.cell? ⟨gb139, 0, none⟩ = some (.int .i64 a1_0) ∧ w'.cell? ⟨gb139, 1, none⟩ = some (.int .i64 a1_1) ∧ w'.cell? ⟨gb139, 2, none⟩ = some (.string a1_2) ∧ w'.cell? ⟨gb139, 3, none⟩ = some (.slice (some ad147) l1_3.length c1_3) ∧ w'.cell? (ad147.add ((x9_4).toNat * 5)) = some (.int .i64 ((rd_T109 l1_3 x9_4).f0)) ∧ w'.cell? ⟨(ad147.add ((x9_4).toNat * 5)).block, (ad147.add ((x9_4).toNat * 5)).off + 1, none⟩ = some (.int .i64 ((rd_T109 l1_3 x9_4).f1)) ∧ w'.cell? ⟨(ad147.add ((x9_4).toNat * 5)).block, (ad147.add ((x9_4).toNat * 5)).off + 2, none⟩ = some (.int .i64 ((rd_T109 l1_3 x9_4).f2)) ∧ w'.cell? ⟨(ad147.add ((x9_4).toNat * 5)).block, (ad147.add ((x9_4).toNat * 5)).off + 3, none⟩ = some (.int .i64 ((rd_T109 l1_3 x9_4).f3)) ∧ w'.cell? ⟨(ad147.add ((x9_4).toNat * 5)).block, (ad147.add ((x9_4).toNat * 5)).off + 4, none⟩ = some (.int .i64 ((rd_T109 l1_3 x9_4).f4)) ∧ w'.cell? (ad147.add ((x6_3).toNat * 5)) = some (.int .i64 ((rd_T109 l1_3 x6_3).f0)) ∧ w'.cell? ⟨(ad147.add ((x6_3).toNat * 5)).block, (ad147.add ((x6_3).toNat * 5)).off + 1, none⟩ = some (.int .i64 ((rd_T109 l1_3 x6_3).f1)) ∧ w'.cell? ⟨(ad147.add ((x6_3).toNat * 5)).block, (ad147.add ((x6_3).toNat * 5)).off + 2, none⟩ = some (.int .i64 ((rd_T109 l1_3 x6_3).f2)) ∧ w'.cell? ⟨(ad147.add ((x6_3).toNat * 5)).block, (ad147.add ((x6_3).toNat * 5)).off + 3, none⟩ = some (.int .i64 ((rd_T109 l1_3 x6_3).f3)) ∧ w'.cell? ⟨(ad147.add ((x6_3).toNat * 5)).block, (ad147.add ((x6_3).toNat * 5)).off + 4, none⟩ = some (.int .i64 ((rd_T109 l1_3 x6_3).f4))) (ds := []) L9' kZ rfl rfl ⟨(blk_cell BK139.out 0).trans rfl, (blk_cell BK139.out 1).trans rfl, (blk_cell BK139.out 2).trans rfl, (blk_cell BK139.out 3).trans rfl, ((HB.out.cell (World.block_lt_of_cell? w _ hw147_0)).trans hw147_0), ((HB.out.cell (World.block_lt_of_cell? w _ hw147_1)).trans hw147_1), ((HB.out.cell (World.block_lt_of_cell? w _ hw147_2)).trans hw147_2), ((HB.out.cell (World.block_lt_of_cell? w _ hw147_3)).trans hw147_3), ((HB.out.cell (World.block_lt_of_cell? w _ hw147_4)).trans hw147_4), ((HB.out.cell (World.block_lt_of_cell? w _ hw148_0)).trans hw148_0), ((HB.out.cell (World.block_lt_of_cell? w _ hw148_1)).trans hw148_1), ((HB.out.cell (World.block_lt_of_cell? w _ hw148_2)).trans hw148_2), ((HB.out.cell (World.block_lt_of_cell? w _ hw148_3)).trans hw148_3), ((HB.out.cell (World.block_lt_of_cell? w _ hw148_4)).trans hw148_4)⟩ (fun hHeld => ?_); refine with_tabW spec_EntryOk.tab16 spec_EntryOk.bits16 (fun HT_ HW_ => ?_)
          generalize wr.drew = w66 at BK138 BK139 HB hx147_0 hx147_1 hx147_2 hx147_3 hx147_4 hx148_0 hx148_1 hx148_2 hx148_3 hx148_4 hHeld ⊢
          refine pure_ (i := 0) (N := some 67) (v := ?_) (a' := ?_) L10' rfl rfl (any_of HT_.out kZ) (fun _ _ _ h => h) (Or.inl ⟨by rfl, ?_⟩) ?_ ?_
          rotate_left
          ·intro w'
           go_simp
           with_reducible rfl
          rotate_left
          ·simp only [Act.put, sZ1, sZ2, sZ3, i64_w, i32_w]
           rfl
          refine pure_ (i := 2) (N := some 69) (v := ?_) (a' := ?_) L11' rfl rfl (any_of HT_.out kZ) (fun _ _ _ h => h) (Or.inl ⟨by rfl, ?_⟩) ?_ ?_
          rotate_left
          ·intro w'
           go_simp
           with_reducible rfl
          rotate_left
          ·simp only [Act.put, sZ1, sZ2, sZ3, i64_w, i32_w]
           rfl
          refine pure_ (i := 6) (N := some 73) (v := ?_) (a' := ?_) L12' rfl rfl (any_of HT_.out kZ) (fun _ _ _ h => h) (Or.inl ⟨by rfl, ?_⟩) ?_ ?_
          rotate_left
          ·intro w'
           go_simp
           with_reducible rfl
          rotate_left
          ·simp only [Act.put, sZ1, sZ2, sZ3, i64_w, i32_w]
           rfl
          refine pure_ (i := 8) (N := some 75) (v := ?_) (a' := ?_) L13' rfl rfl (any_of HT_.out kZ) (fun _ _ _ h => h) (Or.inl ⟨by rfl, ?_⟩) ?_ ?_
          rotate_left
          ·intro w'
           go_simp
           with_reducible rfl
          rotate_left
          ·simp only [Act.put, sZ1, sZ2, sZ3, i64_w, i32_w]
           rfl
          refine take_ (i := 1) (N := some 68) (v := ?_) (a' := ?_) L14' rfl rfl (take_ofW HT_.out HW_.out kZ) (fun _ _ _ h => h) (Or.inl ⟨by rfl, ?_⟩) hHeld ?_ ?_
          rotate_left
          ·rintro w' ⟨s0, s1, s2, s3, s4, s5, s6, s7, s8, s9, s10, s11, s12, s13⟩
           go_simp
           with_reducible rfl
          rotate_left
          ·simp only [Act.put, sZ1, sZ2, sZ3, i64_w, i32_w]
           rfl
          refine pure_ (i := 3) (N := some 70) (v := ?_) (a' := ?_) L15' rfl rfl (any_of HT_.out kZ) (fun _ _ _ h => h) (Or.inl ⟨by rfl, ?_⟩) ?_ ?_
          rotate_left
          ·intro w'
           go_simp
           with_reducible rfl
          rotate_left
          ·simp only [Act.put, sZ1, sZ2, sZ3, i64_w, i32_w]
           rfl
          refine pure_ (i := 4) (N := some 71) (v := ?_) (a' := ?_) L16' rfl rfl (any_of HT_.out kZ) (fun _ _ _ h => h) (Or.inl ⟨by rfl, ?_⟩) ?_ ?_
          rotate_left
          ·intro w'
           go_simp
           with_reducible rfl
          rotate_left
          ·simp only [Act.put, sZ1, sZ2, sZ3, i64_w, i32_w]
           rfl
          refine take_ (i := 5) (N := some 72) (v := ?_) (a' := ?_) L17' rfl rfl (take_ofW HT_.out HW_.out kZ) (fun _ _ _ h => h) (Or.inl ⟨by rfl, ?_⟩) hHeld ?_ ?_
          rotate_left
          ·rintro w' ⟨s0, s1, s2, s3, s4, s5, s6, s7, s8, s9, s10, s11, s12, s13⟩
           go_simp
           with_reducible rfl
          rotate_left
          ·simp only [Act.put, sZ1, sZ2, sZ3, i64_w, i32_w]
           rfl
          refine take_ (i := 7) (N := some 74) (v := ?_) (a' := ?_) L18' rfl rfl (take_ofW HT_.out HW_.out kZ) (fun _ _ _ h => h) (Or.inl ⟨by rfl, ?_⟩) hHeld ?_ ?_
          rotate_left
          ·rintro w' ⟨s0, s1, s2, s3, s4, s5, s6, s7, s8, s9, s10, s11, s12, s13⟩
           go_simp
           with_reducible rfl
          rotate_left
          ·simp only [Act.put, sZ1, sZ2, sZ3, i64_w, i32_w]
           rfl
          refine pure_ (i := 9) (N := some 76) (v := ?_) (a' := ?_) L19' rfl rfl (any_of HT_.out kZ) (fun _ _ _ h => h) (Or.inl ⟨by rfl, ?_⟩) ?_ ?_
          rotate_left
          ·intro w'
           go_simp
           with_reducible rfl
          rotate_left
          ·simp only [Act.put, sZ1, sZ2, sZ3, i64_w, i32_w]
           rfl
          refine pure_ (i := 10) (N := some 77) (v := ?_) (a' := ?_) L20' rfl rfl (any_of HT_.out kZ) (fun _ _ _ h => h) (Or.inl ⟨by rfl, ?_⟩) ?_ ?_
          rotate_left
          ·intro w'
           go_simp
           with_reducible rfl
          rotate_left
          ·simp only [Act.put, sZ1, sZ2, sZ3, i64_w, i32_w]
           rfl
          refine take_ (i := 11) (N := some 78) (v := ?_) (a' := ?_) L21' rfl rfl (take_ofW HT_.out HW_.out kZ) (fun _ _ _ h => h) (Or.inl ⟨by rfl, ?_⟩) hHeld ?_ ?_
          rotate_left
          ·rintro w' ⟨s0, s1, s2, s3, s4, s5, s6, s7, s8, s9, s10, s11, s12, s13⟩
           go_simp
           with_reducible rfl
          rotate_left
          ·simp only [Act.put, sZ1, sZ2, sZ3, i64_w, i32_w]
           rfl
          refine pure_ (i := 12) (N := some 79) (v := ?_) (a' := ?_) L22' rfl rfl (any_of HT_.out kZ) (fun _ _ _ h => h) (Or.inl ⟨by rfl, ?_⟩) ?_ ?_
          rotate_left
          ·intro w'
           go_simp
           with_reducible rfl
          rotate_left
          ·simp only [Act.put, sZ1, sZ2, sZ3, i64_w, i32_w]
           rfl
          refine done_ (done_of HT_.out kZ) ?_
          have hcz67_0 : w66.cell? ⟨gb139, 0, none⟩ = some (.int .i64 a1_0) := (blk_cell BK139.out 0).trans rfl
          have hcz67_1 : w66.cell? ⟨gb139, 1, none⟩ = some (.int .i64 a1_1) := (blk_cell BK139.out 1).trans rfl
          have hcz67_2 : w66.cell? ⟨gb139, 2, none⟩ = some (.string a1_2) := (blk_cell BK139.out 2).trans rfl
          have hcz67_3 : w66.cell? ⟨gb139, 3, none⟩ = some (.slice (some ad147) l1_3.length c1_3) := (blk_cell BK139.out 3).trans rfl
          have hfz67_0 := blk_frozen BK139.out 0
          have hfz67_1 := blk_frozen BK139.out 1
          have hfz67_2 := blk_frozen BK139.out 2
          have hfz67_3 := blk_frozen BK139.out 3
          have p149 : 0 ≤ (x9_4 : Int) := of_decide_eq_true tZE
          have q149 : x9_4 < (l1_3.length : Int) := of_decide_eq_true tZE
          obtain ⟨ad149, e149, hx149_0, hx149_1, hx149_2, hx149_3, hx149_4⟩ := at_T109 HR1_3.out x9_4 p149 q149
          obtain rfl : ad147 = ad149 := (by injection e149)
          replace hx149_0 := cZ HB hx149_0
          replace hx149_1 := cZ HB hx149_1
          replace hx149_2 := cZ HB hx149_2
          replace hx149_3 := cZ HB hx149_3
          replace hx149_4 := cZ HB hx149_4
          replace p149 := eq_true p149
          replace q149 := eq_true q149
          try go_wp2
          replace BK138 := aZ (blk_drew BK138.out)
          replace BK139 := aZ (blk_drew BK139.out)
          replace HB := aZ (below_drew1 HB.out)
          have p150 : 0 ≤ (x9_4 : Int) := of_decide_eq_true tZE
          have q150 : x9_4 < (l1_3.length : Int) := of_decide_eq_true tZE
          obtain ⟨ad150, e150, hx150_0, hx150_1, hx150_2, hx150_3, hx150_4⟩ := at_T109 HR1_3.out x9_4 p150 q150
          have hw150_4 := hx150_4
          have hw150_3 := hx150_3
          have hw150_2 := hx150_2
          have hw150_1 := hx150_1
          have hw150_0 := hx150_0
          obtain rfl : ad147 = ad150 := (by injection e150)
          replace hx150_0 := cZ HB hx150_0
          replace hx150_1 := cZ HB hx150_1
          replace hx150_2 := cZ HB hx150_2
          replace hx150_3 := cZ HB hx150_3
          replace hx150_4 := cZ HB hx150_4
          replace p150 := eq_true p150
          replace q150 := eq_true q150
          have p151 : 0 ≤ (x6_3 : Int) := of_decide_eq_true tZE
          have q151 : x6_3 < (l1_3.length : Int) := of_decide_eq_true tZE
          obtain ⟨ad151, e151, hx151_0, hx151_1, hx151_2, hx151_3, hx151_4⟩ := at_T109 HR1_3.out x6_3 p151 q151
          have hw151_4 := hx151_4
          have hw151_3 := hx151_3
          have hw151_2 := hx151_2
          have hw151_1 := hx151_1
          have hw151_0 := hx151_0
          obtain rfl : ad147 = ad151 := (by injection e151)
          replace hx151_0 := cZ HB hx151_0
          replace hx151_1 := cZ HB hx151_1
          replace hx151_2 := cZ HB hx151_2
          replace hx151_3 := cZ HB hx151_3
          replace hx151_4 := cZ HB hx151_4
          replace p151 := eq_true p151
          replace q151 := eq_true q151
          refine start_ (n := 13) (S := fun w' => w'.cell? ⟨gb139, 0, none⟩ = some (.int .i64 a1_0) ∧ w'.cell? ⟨gb139, 1, none⟩ = some (.int .i64 a1_1) ∧ w'.cell? ⟨gb139, 2, none⟩ = some (.string a1_2) ∧ w'.cell? ⟨gb139, 3, none⟩ = some (.slice (some ad147) l1_3.length c1_3) ∧ w'.cell? (ad147.add ((x9_4).toNat * 5)) = some (.int .i64 ((rd_T109 l1_3 x9_4).f0)) ∧ w'.cell? ⟨(ad147.add ((x9_4).toNat * 5)).block, (ad147.add ((x9_4).toNat * 5)).off + 1, none⟩ = some (.int .i64 ((rd_T109 l1_3 x9_4).f1)) ∧ w'.cell? ⟨(ad147.add ((x9_4).toNat * 5)).block, (ad147.add ((x9_4).toNat * 5)).off + 2, none⟩ = some (.int .i64 ((rd_T109 l1_3 x9_4).f2)) ∧ w'.cell? ⟨(ad147.add ((x9_4).toNat * 5)).block, (ad147.add ((x9_4).toNat * 5)).off + 3, none⟩ = some (.int .i64 ((rd_T109 l1_3 x9_4).f3)) ∧ w'.cell? ⟨(ad147.add ((x9_4).toNat * 5)).block, (ad147.add ((x9_4).toNat * 5)).off + 4, none⟩ = some (.int .i64 ((rd_T109 l1_3 x9_4).f4)) ∧ w'.cell? (ad147.add ((x6_3).toNat * 5)) = some (.int .i64 ((rd_T109 l1_3 x6_3).f0)) ∧ w'.cell? ⟨(ad147.add ((x6_3).toNat * 5)).block, (ad147.add ((x6_3).toNat * 5)).off + 1, none⟩ = some (.int .i64 ((rd_T109 l1_3 x6_3).f1)) ∧ w'.cell? ⟨(ad147.add ((x6_3).toNat * 5)).block, (ad147.add ((x6_3).toNat * 5)).off + 2, none⟩ = some (.int .i64 ((rd_T109 l1_3 x6_3).f2)) ∧ w'.cell? ⟨(ad147.add ((x6_3).toNat * 5)).block, (ad147.add ((x6_3).toNat * 5)).off + 3, none⟩ = some (.int .i64 ((rd_T109 l1_3 x6_3).f3)) ∧ w'.cell? ⟨(ad147.add ((x6_3).toNat * 5)).block, (ad147.add ((x6_3).toNat * 5)).off + 4, none⟩ = some (.int .i64 ((rd_T109 l1_3 x6_3).f4))) (ds := []) L9' kZ rfl rfl ⟨(blk_cell BK139.out 0).trans rfl, (blk_cell BK139.out 1).trans rfl, (blk_cell BK139.out 2).trans rfl, (blk_cell BK139.out 3).trans rfl, ((HB.out.cell (World.block_lt_of_cell? w _ hw150_0)).trans hw150_0), ((HB.out.cell (World.block_lt_of_cell? w _ hw150_1)).trans hw150_1), ((HB.out.cell (World.block_lt_of_cell? w _ hw150_2)).trans hw150_2), ((HB.out.cell (World.block_lt_of_cell? w _ hw150_3)).trans hw150_3), ((HB.out.cell (World.block_lt_of_cell? w _ hw150_4)).trans hw150_4), ((HB.out.cell (World.block_lt_of_cell? w _ hw151_0)).trans hw151_0), ((HB.out.cell (World.block_lt_of_cell? w _ hw151_1)).trans hw151_1), ((HB.out.cell (World.block_lt_of_cell? w _ hw151_2)).trans hw151_2), ((HB.out.cell (World.block_lt_of_cell? w _ hw151_3)).trans hw151_3), ((HB.out.cell (World.block_lt_of_cell? w _ hw151_4)).trans hw151_4)⟩ (fun hHeld => ?_); refine with_tabW spec_EntryOk.tab18 spec_EntryOk.bits18 (fun HT_ HW_ => ?_)
          generalize w66.drew = w68 at BK138 BK139 HB hx150_0 hx150_1 hx150_2 hx150_3 hx150_4 hx151_0 hx151_1 hx151_2 hx151_3 hx151_4 hHeld ⊢
          refine pure_ (i := 0) (N := some 88) (v := ?_) (a' := ?_) L10' rfl rfl (any_of HT_.out kZ) (fun _ _ _ h => h) (Or.inl ⟨by rfl, ?_⟩) ?_ ?_
          rotate_left
          ·intro w'
           go_simp
           with_reducible rfl
          rotate_left
          ·simp only [Act.put, sZ1, sZ2, sZ3, i64_w, i32_w]
           rfl
          refine pure_ (i := 2) (N := some 90) (v := ?_) (a' := ?_) L11' rfl rfl (any_of HT_.out kZ) (fun _ _ _ h => h) (Or.inl ⟨by rfl, ?_⟩) ?_ ?_
          rotate_left
          ·intro w'
           go_simp
           with_reducible rfl
          rotate_left
          ·simp only [Act.put, sZ1, sZ2, sZ3, i64_w, i32_w]
           rfl
          refine pure_ (i := 6) (N := some 94) (v := ?_) (a' := ?_) L12' rfl rfl (any_of HT_.out kZ) (fun _ _ _ h => h) (Or.inl ⟨by rfl, ?_⟩) ?_ ?_
          rotate_left
          ·intro w'
           go_simp
           with_reducible rfl
          rotate_left
          ·simp only [Act.put, sZ1, sZ2, sZ3, i64_w, i32_w]
           rfl
          refine pure_ (i := 8) (N := some 96) (v := ?_) (a' := ?_) L13' rfl rfl (any_of HT_.out kZ) (fun _ _ _ h => h) (Or.inl ⟨by rfl, ?_⟩) ?_ ?_
          rotate_left
          ·intro w'
           go_simp
           with_reducible rfl
          rotate_left
          ·simp only [Act.put, sZ1, sZ2, sZ3, i64_w, i32_w]
           rfl
          refine take_ (i := 1) (N := some 89) (v := ?_) (a' := ?_) L14' rfl rfl (take_ofW HT_.out HW_.out kZ) (fun _ _ _ h => h) (Or.inl ⟨by rfl, ?_⟩) hHeld ?_ ?_
          rotate_left
          ·rintro w' ⟨s0, s1, s2, s3, s4, s5, s6, s7, s8, s9, s10, s11, s12, s13⟩
           go_simp
           with_reducible rfl
          rotate_left
          ·simp only [Act.put, sZ1, sZ2, sZ3, i64_w, i32_w]
           rfl
          refine pure_ (i := 3) (N := some 91) (v := ?_) (a' := ?_) L15' rfl rfl (any_of HT_.out kZ) (fun _ _ _ h => h) (Or.inl ⟨by rfl, ?_⟩) ?_ ?_
          rotate_left
          ·intro w'
           go_simp
           with_reducible rfl
          rotate_left
          ·simp only [Act.put, sZ1, sZ2, sZ3, i64_w, i32_w]
           rfl
          refine pure_ (i := 4) (N := some 92) (v := ?_) (a' := ?_) L16' rfl rfl (any_of HT_.out kZ) (fun _ _ _ h => h) (Or.inl ⟨by rfl, ?_⟩) ?_ ?_
          rotate_left
          ·intro w'
           go_simp
           with_reducible rfl
          rotate_left
          ·simp only [Act.put, sZ1, sZ2, sZ3, i64_w, i32_w]
           rfl
          refine take_ (i := 5) (N := some 93) (v := ?_) (a' := ?_) L17' rfl rfl (take_ofW HT_.out HW_.out kZ) (fun _ _ _ h => h) (Or.inl ⟨by rfl, ?_⟩) hHeld ?_ ?_
          rotate_left
          ·rintro w' ⟨s0, s1, s2, s3, s4, s5, s6, s7, s8, s9, s10, s11, s12, s13⟩
           go_simp
           with_reducible rfl
          rotate_left
          ·simp only [Act.put, sZ1, sZ2, sZ3, i64_w, i32_w]
           rfl
          refine take_ (i := 7) (N := some 95) (v := ?_) (a' := ?_) L18' rfl rfl (take_ofW HT_.out HW_.out kZ) (fun _ _ _ h => h) (Or.inl ⟨by rfl, ?_⟩) hHeld ?_ ?_
          rotate_left
          ·rintro w' ⟨s0, s1, s2, s3, s4, s5, s6, s7, s8, s9, s10, s11, s12, s13⟩
           go_simp
           with_reducible rfl
          rotate_left
          ·simp only [Act.put, sZ1, sZ2, sZ3, i64_w, i32_w]
           rfl
          refine pure_ (i := 9) (N := some 97) (v := ?_) (a' := ?_) L19' rfl rfl (any_of HT_.out kZ) (fun _ _ _ h => h) (Or.inl ⟨by rfl, ?_⟩) ?_ ?_
          rotate_left
          ·intro w'
           go_simp
           with_reducible rfl
          rotate_left
          ·simp only [Act.put, sZ1, sZ2, sZ3, i64_w, i32_w]
           rfl
          refine pure_ (i := 10) (N := some 98) (v := ?_) (a' := ?_) L20' rfl rfl (any_of HT_.out kZ) (fun _ _ _ h => h) (Or.inl ⟨by rfl, ?_⟩) ?_ ?_
          rotate_left
          ·intro w'
           go_simp
           with_reducible rfl
          rotate_left
          ·simp only [Act.put, sZ1, sZ2, sZ3, i64_w, i32_w]
           rfl
          refine take_ (i := 11) (N := some 99) (v := ?_) (a' := ?_) L21' rfl rfl (take_ofW HT_.out HW_.out kZ) (fun _ _ _ h => h) (Or.inl ⟨by rfl, ?_⟩) hHeld ?_ ?_
          rotate_left
          ·rintro w' ⟨s0, s1, s2, s3, s4, s5, s6, s7, s8, s9, s10, s11, s12, s13⟩
           go_simp
           with_reducible rfl
          rotate_left
          ·simp only [Act.put, sZ1, sZ2, sZ3, i64_w, i32_w]
           rfl
          refine pure_ (i := 12) (N := some 100) (v := ?_) (a' := ?_) L22' rfl rfl (any_of HT_.out kZ) (fun _ _ _ h => h) (Or.inl ⟨by rfl, ?_⟩) ?_ ?_
          rotate_left
          ·intro w'
           go_simp
           with_reducible rfl
          rotate_left
          ·simp only [Act.put, sZ1, sZ2, sZ3, i64_w, i32_w]
           rfl
          refine done_ (done_of HT_.out kZ) ?_
          try go_wp2
          go_roundg k4
          case measure => have := HJ2.out; have := HK2.out; have := HK3.out; have := HK4.out; omega
          case rel => exact ⟨(wrap64 (x7_4 + ((rd_T109 l1_3 x9_4).f3))), (x8_4), (wrap64 (x9_4 + 1)), tZB, tZB, tZB, H', ⟨by have := HJ2.out; have := HK2.out; have := HK3.out; have := HK4.out; omega⟩, ⟨bkZ BK138.out⟩, ⟨bkZ BK139.out⟩, ⟨bZ⟩⟩
         rw [if_pos c57] at H
         have c57b0 : (((rd_T109 l1_3 x9_4).f1) == ((rd_T109 l1_3 x6_3).f1)) = true := beq_iff_eq.mpr c57
         have c57b1 : (((rd_T109 l1_3 x9_4).f1) != ((rd_T109 l1_3 x6_3).f1)) = false := bne_eq_false_iff_eq.mpr c57
         clear c57
         have H' := Aside0.mk H
         clear H
         have hnb58 := NB139_138.out
         have hnc58 := NB138_139.out
         have hcz59_0 : wr.cell? ⟨gb139, 0, none⟩ = some (.int .i64 a1_0) := (blk_cell BK139.out 0).trans rfl
         have hcz59_1 : wr.cell? ⟨gb139, 1, none⟩ = some (.int .i64 a1_1) := (blk_cell BK139.out 1).trans rfl
         have hcz59_2 : wr.cell? ⟨gb139, 2, none⟩ = some (.string a1_2) := (blk_cell BK139.out 2).trans rfl
         have hcz59_3 : wr.cell? ⟨gb139, 3, none⟩ = some (.slice A1_3 l1_3.length c1_3) := (blk_cell BK139.out 3).trans rfl
         have hfz59_0 := blk_frozen BK139.out 0
         have hfz59_1 := blk_frozen BK139.out 1
         have hfz59_2 := blk_frozen BK139.out 2
         have hfz59_3 := blk_frozen BK139.out 3
         try go_wp2
         replace BK138 := aZ (blk_drew BK138.out)
         replace BK139 := aZ (blk_drew BK139.out)
         replace HB := aZ (below_drew1 HB.out)
         have p147 : 0 ≤ (x9_4 : Int) := of_decide_eq_true tZE
         have q147 : x9_4 < (l1_3.length : Int) := of_decide_eq_true tZE
         obtain ⟨ad147, e147, hx147_0, hx147_1, hx147_2, hx147_3, hx147_4⟩ := at_T109 HR1_3.out x9_4 p147 q147
         have hw147_4 := hx147_4
         have hw147_3 := hx147_3
         have hw147_2 := hx147_2
         have hw147_1 := hx147_1
         have hw147_0 := hx147_0
         cases e147
         replace hx147_0 := cZ HB hx147_0
         replace hx147_1 := cZ HB hx147_1
         replace hx147_2 := cZ HB hx147_2
         replace hx147_3 := cZ HB hx147_3
         replace hx147_4 := cZ HB hx147_4
         replace p147 := eq_true p147
         replace q147 := eq_true q147
         have p148 : 0 ≤ (x6_3 : Int) := of_decide_eq_true tZE
         have q148 : x6_3 < (l1_3.length : Int) := of_decide_eq_true tZE
         obtain ⟨ad148, e148, hx148_0, hx148_1, hx148_2, hx148_3, hx148_4⟩ := at_T109 HR1_3.out x6_3 p148 q148
         have hw148_4 := hx148_4
         have hw148_3 := hx148_3
         have hw148_2 := hx148_2
         have hw148_1 := hx148_1
         have hw148_0 := hx148_0
         obtain rfl : ad147 = ad148 := (by injection e148)
         replace hx148_0 := cZ HB hx148_0
         replace hx148_1 := cZ HB hx148_1
         replace hx148_2 := cZ HB hx148_2
         replace hx148_3 := cZ HB hx148_3
         replace hx148_4 := cZ HB hx148_4
         replace p148 := eq_true p148
         replace q148 := eq_true q148
         refine start_ (n := 13) (S := fun w' => w'.cell? ⟨gb139, 0, none⟩ = some (.int .i64 a1_0) ∧ w'.cell? ⟨gb139, 1, none⟩ = some (.int .i64 a1_1) ∧ w'.cell? ⟨gb139, 2, none⟩ = some (.string a1_2) ∧ w'.cell? ⟨gb139, 3, none⟩ = some (.slice (some ad147) l1_3.length c1_3) ∧ w'.cell? (ad147.add ((x9_4).toNat * 5)) = some (.int .i64 ((rd_T109 l1_3 x9_4).f0)) ∧ w'.cell? ⟨(ad147.add ((x9_4).toNat * 5)).block, (ad147.add ((x9_4).toNat * 5)).off + 1, none⟩ = some (.int .i64 ((rd_T109 l1_3 x9_4).f1)) ∧ w'.cell? ⟨(ad147.add ((x9_4).toNat * 5)).block, (ad147.add ((x9_4).toNat * 5)).off + 2, none⟩ = some (.int .i64 ((rd_T109 l1_3 x9_4).f2)) ∧ w'.cell? ⟨(ad147.add ((x9_4).toNat * 5)).block, (ad147.add ((x9_4).toNat * 5)).off + 3, none⟩ = some (.int .i64 ((rd_T109 l1_3 x9_4).f3)) ∧ w'.cell? ⟨(ad147.add ((x9_4).toNat * 5)).block, (ad147.add ((x9_4).toNat * 5)).off + 4, none⟩ = some (.int .i64 ((rd_T109 l1_3 x9_4).f4)) ∧ w'.cell? (ad147.add ((x6_3).toNat * 5)) = some (.int .i64 ((rd_T109 l1_3 x6_3).f0)) ∧ w'.cell? ⟨(ad147.add ((x6_3).toNat * 5)).block, (ad147.add ((x6_3).toNat * 5)).off + 1, none⟩ = some (.int .i64 ((rd_T109 l1_3 x6_3).f1)) ∧ w'.cell? ⟨(ad147.add ((x6_3).toNat * 5)).block, (ad147.add ((x6_3).toNat * 5)).off + 2, none⟩ = some (.int .i64 ((rd_T109 l1_3 x6_3).f2)) ∧ w'.cell? ⟨(ad147.add ((x6_3).toNat * 5)).block, (ad147.add ((x6_3).toNat * 5)).off + 3, none⟩ = some (.int .i64 ((rd_T109 l1_3 x6_3).f3)) ∧ w'.cell? ⟨(ad147.add ((x6_3).toNat * 5)).block, (ad147.add ((x6_3).toNat * 5)).off + 4, none⟩ = some (.int .i64 ((rd_T109 l1_3 x6_3).f4))) (ds := []) L9' kZ rfl rfl ⟨(blk_cell BK139.out 0).trans rfl, (blk_cell BK139.out 1).trans rfl, (blk_cell BK139.out 2).trans rfl, (blk_cell BK139.out 3).trans rfl, ((HB.out.cell (World.block_lt_of_cell? w _ hw147_0)).trans hw147_0), ((HB.out.cell (World.block_lt_of_cell? w _ hw147_1)).trans hw147_1), ((HB.out.cell (World.block_lt_of_cell? w _ hw147_2)).trans hw147_2), ((HB.out.cell (World.block_lt_of_cell? w _ hw147_3)).trans hw147_3), ((HB.out.cell (World.block_lt_of_cell? w _ hw147_4)).trans hw147_4), ((HB.out.cell (World.block_lt_of_cell? w _ hw148_0)).trans hw148_0), ((HB.out.cell (World.block_lt_of_cell? w _ hw148_1)).trans hw148_1), ((HB.out.cell (World.block_lt_of_cell? w _ hw148_2)).trans hw148_2), ((HB.out.cell (World.block_lt_of_cell? w _ hw148_3)).trans hw148_3), ((HB.out.cell (World.block_lt_of_cell? w _ hw148_4)).trans hw148_4)⟩ (fun hHeld => ?_); refine with_tabW spec_EntryOk.tab16 spec_EntryOk.bits16 (fun HT_ HW_ => ?_)
         generalize wr.drew = w60 at BK138 BK139 HB hx147_0 hx147_1 hx147_2 hx147_3 hx147_4 hx148_0 hx148_1 hx148_2 hx148_3 hx148_4 hHeld ⊢
         refine pure_ (i := 0) (N := some 67) (v := ?_) (a' := ?_) L10' rfl rfl (any_of HT_.out kZ) (fun _ _ _ h => h) (Or.inl ⟨by rfl, ?_⟩) ?_ ?_
         rotate_left
         ·intro w'
          go_simp
          with_reducible rfl
         rotate_left
         ·simp only [Act.put, sZ1, sZ2, sZ3, i64_w, i32_w]
          rfl
         refine pure_ (i := 2) (N := some 69) (v := ?_) (a' := ?_) L11' rfl rfl (any_of HT_.out kZ) (fun _ _ _ h => h) (Or.inl ⟨by rfl, ?_⟩) ?_ ?_
         rotate_left
         ·intro w'
          go_simp
          with_reducible rfl
         rotate_left
         ·simp only [Act.put, sZ1, sZ2, sZ3, i64_w, i32_w]
          rfl
         refine pure_ (i := 6) (N := some 73) (v := ?_) (a' := ?_) L12' rfl rfl (any_of HT_.out kZ) (fun _ _ _ h => h) (Or.inl ⟨by rfl, ?_⟩) ?_ ?_
         rotate_left
         ·intro w'
          go_simp
          with_reducible rfl
         rotate_left
         ·simp only [Act.put, sZ1, sZ2, sZ3, i64_w, i32_w]
          rfl
         refine pure_ (i := 8) (N := some 75) (v := ?_) (a' := ?_) L13' rfl rfl (any_of HT_.out kZ) (fun _ _ _ h => h) (Or.inl ⟨by rfl, ?_⟩) ?_ ?_
         rotate_left
         ·intro w'
          go_simp
          with_reducible rfl
         rotate_left
         ·simp only [Act.put, sZ1, sZ2, sZ3, i64_w, i32_w]
          rfl
         refine take_ (i := 1) (N := some 68) (v := ?_) (a' := ?_) L14' rfl rfl (take_ofW HT_.out HW_.out kZ) (fun _ _ _ h => h) (Or.inl ⟨by rfl, ?_⟩) hHeld ?_ ?_
         rotate_left
         ·rintro w' ⟨s0, s1, s2, s3, s4, s5, s6, s7, s8, s9, s10, s11, s12, s13⟩
          go_simp
          with_reducible rfl
         rotate_left
         ·simp only [Act.put, sZ1, sZ2, sZ3, i64_w, i32_w]
          rfl
         refine pure_ (i := 3) (N := some 70) (v := ?_) (a' := ?_) L15' rfl rfl (any_of HT_.out kZ) (fun _ _ _ h => h) (Or.inl ⟨by rfl, ?_⟩) ?_ ?_
         rotate_left
         ·intro w'
          go_simp
          with_reducible rfl
         rotate_left
         ·simp only [Act.put, sZ1, sZ2, sZ3, i64_w, i32_w]
          rfl
         refine pure_ (i := 4) (N := some 71) (v := ?_) (a' := ?_) L16' rfl rfl (any_of HT_.out kZ) (fun _ _ _ h => h) (Or.inl ⟨by rfl, ?_⟩) ?_ ?_
         rotate_left
         ·intro w'
          go_simp
          with_reducible rfl
         rotate_left
         ·simp only [Act.put, sZ1, sZ2, sZ3, i64_w, i32_w]
          rfl
         refine take_ (i := 5) (N := some 72) (v := ?_) (a' := ?_) L17' rfl rfl (take_ofW HT_.out HW_.out kZ) (fun _ _ _ h => h) (Or.inl ⟨by rfl, ?_⟩) hHeld ?_ ?_
         rotate_left
         ·rintro w' ⟨s0, s1, s2, s3, s4, s5, s6, s7, s8, s9, s10, s11, s12, s13⟩
          go_simp
          with_reducible rfl
         rotate_left
         ·simp only [Act.put, sZ1, sZ2, sZ3, i64_w, i32_w]
          rfl
         refine take_ (i := 7) (N := some 74) (v := ?_) (a' := ?_) L18' rfl rfl (take_ofW HT_.out HW_.out kZ) (fun _ _ _ h => h) (Or.inl ⟨by rfl, ?_⟩) hHeld ?_ ?_
         rotate_left
         ·rintro w' ⟨s0, s1, s2, s3, s4, s5, s6, s7, s8, s9, s10, s11, s12, s13⟩
          go_simp
          with_reducible rfl
         rotate_left
         ·simp only [Act.put, sZ1, sZ2, sZ3, i64_w, i32_w]
          rfl
         refine pure_ (i := 9) (N := some 76) (v := ?_) (a' := ?_) L19' rfl rfl (any_of HT_.out kZ) (fun _ _ _ h => h) (Or.inl ⟨by rfl, ?_⟩) ?_ ?_
         rotate_left
         ·intro w'
          go_simp
          with_reducible rfl
         rotate_left
         ·simp only [Act.put, sZ1, sZ2, sZ3, i64_w, i32_w]
          rfl
         refine pure_ (i := 10) (N := some 77) (v := ?_) (a' := ?_) L20' rfl rfl (any_of HT_.out kZ) (fun _ _ _ h => h) (Or.inl ⟨by rfl, ?_⟩) ?_ ?_
         rotate_left
         ·intro w'
          go_simp
          with_reducible rfl
         rotate_left
         ·simp only [Act.put, sZ1, sZ2, sZ3, i64_w, i32_w]
          rfl
         refine take_ (i := 11) (N := some 78) (v := ?_) (a' := ?_) L21' rfl rfl (take_ofW HT_.out HW_.out kZ) (fun _ _ _ h => h) (Or.inl ⟨by rfl, ?_⟩) hHeld ?_ ?_
         rotate_left
         ·rintro w' ⟨s0, s1, s2, s3, s4, s5, s6, s7, s8, s9, s10, s11, s12, s13⟩
          go_simp
          with_reducible rfl
         rotate_left
         ·simp only [Act.put, sZ1, sZ2, sZ3, i64_w, i32_w]
          rfl
         refine pure_ (i := 12) (N := some 79) (v := ?_) (a' := ?_) L22' rfl rfl (any_of HT_.out kZ) (fun _ _ _ h => h) (Or.inl ⟨by rfl, ?_⟩) ?_ ?_
         rotate_left
         ·intro w'
          go_simp
          with_reducible rfl
         rotate_left
         ·simp only [Act.put, sZ1, sZ2, sZ3, i64_w, i32_w]
          rfl
         refine done_ (done_of HT_.out kZ) ?_
         have hcz61_0 : w60.cell? ⟨gb139, 0, none⟩ = some (.int .i64 a1_0) := (blk_cell BK139.out 0).trans rfl
         have hcz61_1 : w60.cell? ⟨gb139, 1, none⟩ = some (.int .i64 a1_1) := (blk_cell BK139.out 1).trans rfl
         have hcz61_2 : w60.cell? ⟨gb139, 2, none⟩ = some (.string a1_2) := (blk_cell BK139.out 2).trans rfl
         have hcz61_3 : w60.cell? ⟨gb139, 3, none⟩ = some (.slice (some ad147) l1_3.length c1_3) := (blk_cell BK139.out 3).trans rfl
         have hfz61_0 := blk_frozen BK139.out 0
         have hfz61_1 := blk_frozen BK139.out 1
         have hfz61_2 := blk_frozen BK139.out 2
         have hfz61_3 := blk_frozen BK139.out 3
         have p149 : 0 ≤ (x9_4 : Int) := of_decide_eq_true tZE
         have q149 : x9_4 < (l1_3.length : Int) := of_decide_eq_true tZE
         obtain ⟨ad149, e149, hx149_0, hx149_1, hx149_2, hx149_3, hx149_4⟩ := at_T109 HR1_3.out x9_4 p149 q149
         obtain rfl : ad147 = ad149 := (by injection e149)
         replace hx149_0 := cZ HB hx149_0
         replace hx149_1 := cZ HB hx149_1
         replace hx149_2 := cZ HB hx149_2
         replace hx149_3 := cZ HB hx149_3
         replace hx149_4 := cZ HB hx149_4
         replace p149 := eq_true p149
         replace q149 := eq_true q149
         try go_wp2
         replace BK138 := aZ (blk_drew BK138.out)
         replace BK139 := aZ (blk_drew BK139.out)
         replace HB := aZ (below_drew1 HB.out)
         have p150 : 0 ≤ (x9_4 : Int) := of_decide_eq_true tZE
         have q150 : x9_4 < (l1_3.length : Int) := of_decide_eq_true tZE
         obtain ⟨ad150, e150, hx150_0, hx150_1, hx150_2, hx150_3, hx150_4⟩ := at_T109 HR1_3.out x9_4 p150 q150
         have hw150_4 := hx150_4
         have hw150_3 := hx150_3
         have hw150_2 := hx150_2
         have hw150_1 := hx150_1
         have hw150_0 := hx150_0
         obtain rfl : ad147 = ad150 := (by injection e150)
         replace hx150_0 := cZ HB hx150_0
         replace hx150_1 := cZ HB hx150_1
         replace hx150_2 := cZ HB hx150_2
         replace hx150_3 := cZ HB hx150_3
         replace hx150_4 := cZ HB hx150_4
         replace p150 := eq_true p150
         replace q150 := eq_true q150
         have p151 : 0 ≤ (x6_3 : Int) := of_decide_eq_true tZE
         have q151 : x6_3 < (l1_3.length : Int) := of_decide_eq_true tZE
         obtain ⟨ad151, e151, hx151_0, hx151_1, hx151_2, hx151_3, hx151_4⟩ := at_T109 HR1_3.out x6_3 p151 q151
         have hw151_4 := hx151_4
         have hw151_3 := hx151_3
         have hw151_2 := hx151_2
         have hw151_1 := hx151_1
         have hw151_0 := hx151_0
         obtain rfl : ad147 = ad151 := (by injection e151)
         replace hx151_0 := cZ HB hx151_0
         replace hx151_1 := cZ HB hx151_1
         replace hx151_2 := cZ HB hx151_2
         replace hx151_3 := cZ HB hx151_3
         replace hx151_4 := cZ HB hx151_4
         replace p151 := eq_true p151
         replace q151 := eq_true q151
         refine start_ (n := 13) (S := fun w' => w'.cell? ⟨gb139, 0, none⟩ = some (.int .i64 a1_0) ∧ w'.cell? ⟨gb139, 1, none⟩ = some (.int .i64 a1_1) ∧ w'.cell? ⟨gb139, 2, none⟩ = some (.string a1_2) ∧ w'.cell? ⟨gb139, 3, none⟩ = some (.slice (some ad147) l1_3.length c1_3) ∧ w'.cell? (ad147.add ((x9_4).toNat * 5)) = some (.int .i64 ((rd_T109 l1_3 x9_4).f0)) ∧ w'.cell? ⟨(ad147.add ((x9_4).toNat * 5)).block, (ad147.add ((x9_4).toNat * 5)).off + 1, none⟩ = some (.int .i64 ((rd_T109 l1_3 x9_4).f1)) ∧ w'.cell? ⟨(ad147.add ((x9_4).toNat * 5)).block, (ad147.add ((x9_4).toNat * 5)).off + 2, none⟩ = some (.int .i64 ((rd_T109 l1_3 x9_4).f2)) ∧ w'.cell? ⟨(ad147.add ((x9_4).toNat * 5)).block, (ad147.add ((x9_4).toNat * 5)).off + 3, none⟩ = some (.int .i64 ((rd_T109 l1_3 x9_4).f3)) ∧ w'.cell? ⟨(ad147.add ((x9_4).toNat * 5)).block, (ad147.add ((x9_4).toNat * 5)).off + 4, none⟩ = some (.int .i64 ((rd_T109 l1_3 x9_4).f4)) ∧ w'.cell? (ad147.add ((x6_3).toNat * 5)) = some (.int .i64 ((rd_T109 l1_3 x6_3).f0)) ∧ w'.cell? ⟨(ad147.add ((x6_3).toNat * 5)).block, (ad147.add ((x6_3).toNat * 5)).off + 1, none⟩ = some (.int .i64 ((rd_T109 l1_3 x6_3).f1)) ∧ w'.cell? ⟨(ad147.add ((x6_3).toNat * 5)).block, (ad147.add ((x6_3).toNat * 5)).off + 2, none⟩ = some (.int .i64 ((rd_T109 l1_3 x6_3).f2)) ∧ w'.cell? ⟨(ad147.add ((x6_3).toNat * 5)).block, (ad147.add ((x6_3).toNat * 5)).off + 3, none⟩ = some (.int .i64 ((rd_T109 l1_3 x6_3).f3)) ∧ w'.cell? ⟨(ad147.add ((x6_3).toNat * 5)).block, (ad147.add ((x6_3).toNat * 5)).off + 4, none⟩ = some (.int .i64 ((rd_T109 l1_3 x6_3).f4))) (ds := []) L9' kZ rfl rfl ⟨(blk_cell BK139.out 0).trans rfl, (blk_cell BK139.out 1).trans rfl, (blk_cell BK139.out 2).trans rfl, (blk_cell BK139.out 3).trans rfl, ((HB.out.cell (World.block_lt_of_cell? w _ hw150_0)).trans hw150_0), ((HB.out.cell (World.block_lt_of_cell? w _ hw150_1)).trans hw150_1), ((HB.out.cell (World.block_lt_of_cell? w _ hw150_2)).trans hw150_2), ((HB.out.cell (World.block_lt_of_cell? w _ hw150_3)).trans hw150_3), ((HB.out.cell (World.block_lt_of_cell? w _ hw150_4)).trans hw150_4), ((HB.out.cell (World.block_lt_of_cell? w _ hw151_0)).trans hw151_0), ((HB.out.cell (World.block_lt_of_cell? w _ hw151_1)).trans hw151_1), ((HB.out.cell (World.block_lt_of_cell? w _ hw151_2)).trans hw151_2), ((HB.out.cell (World.block_lt_of_cell? w _ hw151_3)).trans hw151_3), ((HB.out.cell (World.block_lt_of_cell? w _ hw151_4)).trans hw151_4)⟩ (fun hHeld => ?_); refine with_tabW spec_EntryOk.tab18 spec_EntryOk.bits18 (fun HT_ HW_ => ?_)
         generalize w60.drew = w62 at BK138 BK139 HB hx150_0 hx150_1 hx150_2 hx150_3 hx150_4 hx151_0 hx151_1 hx151_2 hx151_3 hx151_4 hHeld ⊢
         refine pure_ (i := 0) (N := some 88) (v := ?_) (a' := ?_) L10' rfl rfl (any_of HT_.out kZ) (fun _ _ _ h => h) (Or.inl ⟨by rfl, ?_⟩) ?_ ?_
         rotate_left
         ·intro w'
          go_simp
          with_reducible rfl
         rotate_left
         ·simp only [Act.put, sZ1, sZ2, sZ3, i64_w, i32_w]
          rfl
         refine pure_ (i := 2) (N := some 90) (v := ?_) (a' := ?_) L11' rfl rfl (any_of HT_.out kZ) (fun _ _ _ h => h) (Or.inl ⟨by rfl, ?_⟩) ?_ ?_
         rotate_left
         ·intro w'
          go_simp
          with_reducible rfl
         rotate_left
         ·simp only [Act.put, sZ1, sZ2, sZ3, i64_w, i32_w]
          rfl
         refine pure_ (i := 6) (N := some 94) (v := ?_) (a' := ?_) L12' rfl rfl (any_of HT_.out kZ) (fun _ _ _ h => h) (Or.inl ⟨by rfl, ?_⟩) ?_ ?_
         rotate_left
         ·intro w'
          go_simp
          with_reducible rfl
         rotate_left
         ·simp only [Act.put, sZ1, sZ2, sZ3, i64_w, i32_w]
          rfl
         refine pure_ (i := 8) (N := some 96) (v := ?_) (a' := ?_) L13' rfl rfl (any_of HT_.out kZ) (fun _ _ _ h => h) (Or.inl ⟨by rfl, ?_⟩) ?_ ?_
         rotate_left
         ·intro w'
          go_simp
          with_reducible rfl
         rotate_left
         ·simp only [Act.put, sZ1, sZ2, sZ3, i64_w, i32_w]
          rfl
         refine take_ (i := 1) (N := some 89) (v := ?_) (a' := ?_) L14' rfl rfl (take_ofW HT_.out HW_.out kZ) (fun _ _ _ h => h) (Or.inl ⟨by rfl, ?_⟩) hHeld ?_ ?_
         rotate_left
         ·rintro w' ⟨s0, s1, s2, s3, s4, s5, s6, s7, s8, s9, s10, s11, s12, s13⟩
          go_simp
          with_reducible rfl
         rotate_left
         ·simp only [Act.put, sZ1, sZ2, sZ3, i64_w, i32_w]
          rfl
         refine pure_ (i := 3) (N := some 91) (v := ?_) (a' := ?_) L15' rfl rfl (any_of HT_.out kZ) (fun _ _ _ h => h) (Or.inl ⟨by rfl, ?_⟩) ?_ ?_
         rotate_left
         ·intro w'
          go_simp
          with_reducible rfl
         rotate_left
         ·simp only [Act.put, sZ1, sZ2, sZ3, i64_w, i32_w]
          rfl
         refine pure_ (i := 4) (N := some 92) (v := ?_) (a' := ?_) L16' rfl rfl (any_of HT_.out kZ) (fun _ _ _ h => h) (Or.inl ⟨by rfl, ?_⟩) ?_ ?_
         rotate_left
         ·intro w'
          go_simp
          with_reducible rfl
         rotate_left
         ·simp only [Act.put, sZ1, sZ2, sZ3, i64_w, i32_w]
          rfl
         refine take_ (i := 5) (N := some 93) (v := ?_) (a' := ?_) L17' rfl rfl (take_ofW HT_.out HW_.out kZ) (fun _ _ _ h => h) (Or.inl ⟨by rfl, ?_⟩) hHeld ?_ ?_
         rotate_left
         ·rintro w' ⟨s0, s1, s2, s3, s4, s5, s6, s7, s8, s9, s10, s11, s12, s13⟩
          go_simp
          with_reducible rfl
         rotate_left
         ·simp only [Act.put, sZ1, sZ2, sZ3, i64_w, i32_w]
          rfl
         refine take_ (i := 7) (N := some 95) (v := ?_) (a' := ?_) L18' rfl rfl (take_ofW HT_.out HW_.out kZ) (fun _ _ _ h => h) (Or.inl ⟨by rfl, ?_⟩) hHeld ?_ ?_
         rotate_left
         ·rintro w' ⟨s0, s1, s2, s3, s4, s5, s6, s7, s8, s9, s10, s11, s12, s13⟩
          go_simp
          with_reducible rfl
         rotate_left
         ·simp only [Act.put, sZ1, sZ2, sZ3, i64_w, i32_w]
          rfl
         refine pure_ (i := 9) (N := some 97) (v := ?_) (a' := ?_) L19' rfl rfl (any_of HT_.out kZ) (fun _ _ _ h => h) (Or.inl ⟨by rfl, ?_⟩) ?_ ?_
         rotate_left
         ·intro w'
          go_simp
          with_reducible rfl
         rotate_left
         ·simp only [Act.put, sZ1, sZ2, sZ3, i64_w, i32_w]
          rfl
         refine pure_ (i := 10) (N := some 98) (v := ?_) (a' := ?_) L20' rfl rfl (any_of HT_.out kZ) (fun _ _ _ h => h) (Or.inl ⟨by rfl, ?_⟩) ?_ ?_
         rotate_left
         ·intro w'
          go_simp
          with_reducible rfl
         rotate_left
         ·simp only [Act.put, sZ1, sZ2, sZ3, i64_w, i32_w]
          rfl
         refine take_ (i := 11) (N := some 99) (v := ?_) (a' := ?_) L21' rfl rfl (take_ofW HT_.out HW_.out kZ) (fun _ _ _ h => h) (Or.inl ⟨by rfl, ?_⟩) hHeld ?_ ?_
         rotate_left
         ·rintro w' ⟨s0, s1, s2, s3, s4, s5, s6, s7, s8, s9, s10, s11, s12, s13⟩
          go_simp
          with_reducible rfl
         rotate_left
         ·simp only [Act.put, sZ1, sZ2, sZ3, i64_w, i32_w]
          rfl
         refine pure_ (i := 12) (N := some 100) (v := ?_) (a' := ?_) L22' rfl rfl (any_of HT_.out kZ) (fun _ _ _ h => h) (Or.inl ⟨by rfl, ?_⟩) ?_ ?_
         rotate_left
         ·intro w'
          go_simp
          with_reducible rfl
         rotate_left
         ·simp only [Act.put, sZ1, sZ2, sZ3, i64_w, i32_w]
          rfl
         refine done_ (done_of HT_.out kZ) ?_
         have hcz63_0 : w62.cell? ⟨gb139, 0, none⟩ = some (.int .i64 a1_0) := (blk_cell BK139.out 0).trans rfl
         have hcz63_1 : w62.cell? ⟨gb139, 1, none⟩ = some (.int .i64 a1_1) := (blk_cell BK139.out 1).trans rfl
         have hcz63_2 : w62.cell? ⟨gb139, 2, none⟩ = some (.string a1_2) := (blk_cell BK139.out 2).trans rfl
         have hcz63_3 : w62.cell? ⟨gb139, 3, none⟩ = some (.slice (some ad147) l1_3.length c1_3) := (blk_cell BK139.out 3).trans rfl
         have hfz63_0 := blk_frozen BK139.out 0
         have hfz63_1 := blk_frozen BK139.out 1
         have hfz63_2 := blk_frozen BK139.out 2
         have hfz63_3 := blk_frozen BK139.out 3
         have p152 : 0 ≤ (x9_4 : Int) := of_decide_eq_true tZE
         have q152 : x9_4 < (l1_3.length : Int) := of_decide_eq_true tZE
         obtain ⟨ad152, e152, hx152_0, hx152_1, hx152_2, hx152_3, hx152_4⟩ := at_T109 HR1_3.out x9_4 p152 q152
         obtain rfl : ad147 = ad152 := (by injection e152)
         replace hx152_0 := cZ HB hx152_0
         replace hx152_1 := cZ HB hx152_1
         replace hx152_2 := cZ HB hx152_2
         replace hx152_3 := cZ HB hx152_3
         replace hx152_4 := cZ HB hx152_4
         replace p152 := eq_true p152
         replace q152 := eq_true q152
         try go_wp2
         go_roundg k4
         case measure => have := HJ2.out; have := HK2.out; have := HK3.out; have := HK4.out; omega
         case rel => exact ⟨(wrap64 (x7_4 + ((rd_T109 l1_3 x9_4).f3))), (wrap64 (x8_4 + ((rd_T109 l1_3 x9_4).f4))), (wrap64 (x9_4 + 1)), tZB, tZB, tZB, H', ⟨by have := HJ2.out; have := HK2.out; have := HK3.out; have := HK4.out; omega⟩, ⟨bkZ BK138.out⟩, ⟨bkZ BK139.out⟩, ⟨bZ⟩⟩
end Go.Proofs.Ytjnmfadnkbflfaa.PFnExactEntryOk
