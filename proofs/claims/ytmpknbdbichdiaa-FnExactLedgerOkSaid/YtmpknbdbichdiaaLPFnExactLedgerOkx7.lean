import Derived.Test.YtmpknbdbichdiaaLPFnExactLedgerOkx0
import Derived.Test.YtmpknbdbichdiaaLPFnExactLedgerOkx4
import Derived.Test.YtmpknbdbichdiaaLPFnExactLedgerOkx6
import Derived.Test.YtmpknbdbichdiaaLSlimWords
namespace Go.Proofs.Ytmpknbdbichdiaa.PFnExactLedgerOk
open Go.Proofs.Ytmpknbdbichdiaa.SlimWords
open Go.RowKit Go.Proofs.YtmpknbdbichdiaaW.PrintWords Go.Proofs.YtmpknbdbichdiaaW.PrintLast Go.Proofs.YtmpknbdbichdiaaW.PrintMore Go.Proofs.Ytmpknbdbichdiaa.MapWords Go.Proofs.Ytmpknbdbichdiaa.IterWords Go.Proofs.Ytmpknbdbichdiaa.MarkWords
attribute [local go_sem] max2_int min2_int max_two min_two max_three min_three max_four min_four
set_option linter.unusedVariables false
set_option linter.unusedSimpArgs false
private abbrev I' := true
private abbrev O' := false
private abbrev L0' : Array Bool := #[O',O',O',O',O',O',O',O',O',O',O',O',O',O',O',O',O']
private abbrev L1' : Array Bool := #[I',O',O',O',O',O',O',O',O',O',O',O',O',O',O',O',O']
private abbrev L2' : Array Bool := #[I',I',O',O',O',O',O',O',O',O',O',O',O',O',O',O',O']
private abbrev L3' : Array Bool := #[I',I',I',O',O',O',O',O',O',O',O',O',O',O',O',O',O']
private abbrev L4' : Array Bool := #[I',I',I',I',O',O',O',O',O',O',O',O',O',O',O',O',O']
private abbrev L5' : Array Bool := #[I',I',I',I',I',O',O',O',O',O',O',O',O',O',O',O',O']
private abbrev L6' : Array Bool := #[I',I',I',I',I',I',O',O',O',O',O',O',O',O',O',O',O']
private abbrev L7' : Array Bool := #[I',I',I',I',I',I',I',O',O',O',O',O',O',O',O',O',O']
private abbrev L8' : Array Bool := #[I',I',I',I',I',I',I',I',O',O',O',O',O',O',O',O',O']
private abbrev L9' : Array Bool := #[I',I',I',I',I',I',I',I',I',O',O',O',O',O',O',O',O']
private abbrev L10' : Array Bool := #[I',I',I',I',I',I',I',I',I',I',O',O',O',O',O',O',O']
private abbrev L11' : Array Bool := #[I',I',I',I',I',I',I',I',I',I',I',O',O',O',O',O',O']
private abbrev L12' : Array Bool := #[I',I',I',I',I',I',I',I',I',I',I',I',O',O',O',O',O']
private abbrev L13' : Array Bool := #[I',I',I',I',I',I',I',I',I',I',I',I',I',O',O',O',O']
private abbrev L14' : Array Bool := #[I',I',I',I',I',I',I',I',I',I',I',I',I',I',O',O',O']
private abbrev L15' : Array Bool := #[I',I',I',I',I',I',I',I',I',I',I',I',I',I',I',O',O']
private abbrev L16' : Array Bool := #[I',I',I',I',I',I',I',I',I',I',I',I',I',I',I',I',O']
private abbrev L17' : Array Bool := #[I',I',I',I',I',I',I',I',I',I',I',I',I',I',I',I',I']
private abbrev L18' : Array Bool := #[I',I',I',I',I',I',I',I',I',I',I',O',I',O',O',O',O']
private abbrev L19' : Array Bool := #[O',O',O',O',O',O',O',O']
private abbrev L20' : Array Bool := #[O',I',O',O',O',O',O',O']
private abbrev L21' : Array Bool := #[O',I',O',I',O',O',O',O']
private abbrev L22' : Array Bool := #[I',I',O',I',O',O',O',O']
private abbrev L23' : Array Bool := #[I',I',I',I',O',O',O',O']
private abbrev L24' : Array Bool := #[I',I',I',I',I',O',O',O']
private abbrev L25' : Array Bool := #[I',I',I',I',I',I',O',O']
private abbrev L26' : Array Bool := #[I',I',I',I',I',I',I',O']
private abbrev L27' : Array Bool := #[I',I',I',I',I',I',I',I']
mutual
def spec_LedgerOk.j0 : Nat → Bool → List (S222) → Int → Int → List (S103) → Int → Option (Bool)
  | 0, _, _, _, _, _, _ => none
  | k + 1, x22, x188000, x188001, x188002, x189000, x189001 => if x22 = true then (some false) else (spec_LedgerOk.l0 k 0 x188000 x188001 x188002 x189000 x189001)
def spec_LedgerOk.l0 : Nat → Int → List (S222) → Int → Int → List (S103) → Int → Option (Bool)
  | 0, _, _, _, _, _, _ => none
  | k + 1, x5, x188000, x188001, x188002, x189000, x189001 => if x5 < (x189000.length : Int) then (if 0 ≤ x5 then ((spec_EntryOk.f k x188000 x188001 x188002 ((rd_T103 x189000 x5).f0) ((rd_T103 x189000 x5).f1) ((rd_T103 x189000 x5).f2) ((rd_T103 x189000 x5).f3)).bind fun t192 => (if t192 = true then (spec_LedgerOk.l0 k (wrap64 (x5 + 1)) x188000 x188001 x188002 x189000 x189001) else (some false))) else (none)) else (some true)
end
def spec_LedgerOk.f (k : Nat) (l0_0 : List (S222)) (a0_1 : Int) (a0_2 : Int) (l1_0 : List (S103)) (a1_1 : Int) : Option (Bool) := if (l1_0.length : Int) > 1000 then (spec_LedgerOk.j0 k true l0_0 a0_1 a0_2 l1_0 a1_1) else ((spec_FrameOk.f k l0_0 a0_1 a0_2).bind fun t189 => (if t189 = true then ((spec_HeadOf.f k l1_0).bind fun t190 => (spec_LedgerOk.j0 k (a1_1 != t190) l0_0 a0_1 a0_2 l1_0 a1_1)) else (spec_LedgerOk.j0 k true l0_0 a0_1 a0_2 l1_0 a1_1)))
theorem spec_LedgerOk.mono_l : ∀ k, (∀ y0 y1 y2 y3 y4 y5, LeO (spec_LedgerOk.j0 k y0 y1 y2 y3 y4 y5) (spec_LedgerOk.j0 (k + 1) y0 y1 y2 y3 y4 y5)) ∧ (∀ y0 y1 y2 y3 y4 y5, LeO (spec_LedgerOk.l0 k y0 y1 y2 y3 y4 y5) (spec_LedgerOk.l0 (k + 1) y0 y1 y2 y3 y4 y5))
  | 0 => ⟨fun _ _ _ _ _ _ r h => by simp [spec_LedgerOk.j0] at h, fun _ _ _ _ _ _ r h => by simp [spec_LedgerOk.l0] at h⟩
  | k + 1 => by
    obtain ⟨ih0, ih1⟩ := spec_LedgerOk.mono_l k
    refine ⟨?_, ?_⟩
    · intro y0 y1 y2 y3 y4 y5
      unfold spec_LedgerOk.j0
      repeat' first
      | (with_reducible exact ih0 _ _ _ _ _ _)
      | (with_reducible exact ih1 _ _ _ _ _ _)
      | (with_reducible exact spec_EntryOk.mono _ _ _ _ _ _ _ _)
      | (with_reducible exact spec_FrameOk.mono _ _ _ _)
      | (with_reducible exact spec_HeadOf.mono _ _)
      | (with_reducible exact LeO.refl _)
      | (with_reducible exact LeO.none _)
      | (with_reducible refine LeO.ite ?_ ?_)
      | (with_reducible refine LeO.bind ?_ (fun _ => ?_))
      | exact ih0 _ _ _ _ _ _
      | exact ih1 _ _ _ _ _ _
      | exact spec_EntryOk.mono _ _ _ _ _ _ _ _
      | exact spec_FrameOk.mono _ _ _ _
      | exact spec_HeadOf.mono _ _
      | exact LeO.none _
      | refine LeO.ite ?_ ?_
      | refine LeO.bind ?_ (fun _ => ?_)
    · intro y0 y1 y2 y3 y4 y5
      unfold spec_LedgerOk.l0
      repeat' first
      | (with_reducible exact ih0 _ _ _ _ _ _)
      | (with_reducible exact ih1 _ _ _ _ _ _)
      | (with_reducible exact spec_EntryOk.mono _ _ _ _ _ _ _ _)
      | (with_reducible exact spec_FrameOk.mono _ _ _ _)
      | (with_reducible exact spec_HeadOf.mono _ _)
      | (with_reducible exact LeO.refl _)
      | (with_reducible exact LeO.none _)
      | (with_reducible refine LeO.ite ?_ ?_)
      | (with_reducible refine LeO.bind ?_ (fun _ => ?_))
      | exact ih0 _ _ _ _ _ _
      | exact ih1 _ _ _ _ _ _
      | exact spec_EntryOk.mono _ _ _ _ _ _ _ _
      | exact spec_FrameOk.mono _ _ _ _
      | exact spec_HeadOf.mono _ _
      | exact LeO.none _
      | refine LeO.ite ?_ ?_
      | refine LeO.bind ?_ (fun _ => ?_)
theorem spec_LedgerOk.mono : ∀ a0 a1 a2 a3 a4 k, LeO (spec_LedgerOk.f k a0 a1 a2 a3 a4) (spec_LedgerOk.f (k + 1) a0 a1 a2 a3 a4) := by
 intro a0 a1 a2 a3 a4 k
 obtain ⟨ih0, ih1⟩ := spec_LedgerOk.mono_l k
 unfold spec_LedgerOk.f
 repeat' first
     | (with_reducible exact ih0 _ _ _ _ _ _)
     | (with_reducible exact ih1 _ _ _ _ _ _)
     | (with_reducible exact spec_EntryOk.mono _ _ _ _ _ _ _ _)
     | (with_reducible exact spec_FrameOk.mono _ _ _ _)
     | (with_reducible exact spec_HeadOf.mono _ _)
     | (with_reducible exact LeO.refl _)
     | (with_reducible exact LeO.none _)
     | (with_reducible refine LeO.ite ?_ ?_)
     | (with_reducible refine LeO.bind ?_ (fun _ => ?_))
     | exact ih0 _ _ _ _ _ _
     | exact ih1 _ _ _ _ _ _
     | exact spec_EntryOk.mono _ _ _ _ _ _ _ _
     | exact spec_FrameOk.mono _ _ _ _
     | exact spec_HeadOf.mono _ _
     | exact LeO.none _
     | refine LeO.ite ?_ ?_
     | refine LeO.bind ?_ (fun _ => ?_)
def spec_LedgerOk.T1 : Bool × List (List Nat × List Nat) := (true, [([], []), ([0], [0]), ([1], [1]), ([2], [2]), ([3], [3]), ([4], [4]), ([5, 4, 4], [4, 5]), ([6, 4], [4, 6]), ([4, 7], [4, 7]), ([8, 6], [8]), ([9], [9]), ([10, 9], [9, 10]), ([9], [9]), ([12, 9], [9, 12]), ([13, 9, 9], [9, 13]), ([11, 14, 9], [9, 11, 14]), ([9, 15], [9, 15])])
def spec_LedgerOk.B1 : List Nat := [0, 1, 3, 7, 15, 31, 63, 127, 255, 511, 1023, 2047, 1023, 5119, 13311, 32767, 65535]
theorem spec_LedgerOk.tab1 : rtab .any (opsOf Try.f41 1) = spec_LedgerOk.T1 := by kernel_rfl
theorem spec_LedgerOk.bits1 : waitsOk spec_LedgerOk.T1.2 spec_LedgerOk.B1 = true := by kernel_rfl
def spec_LedgerOk.T6 : Bool × List (List Nat × List Nat) := (true, [([], []), ([], []), ([1], [1]), ([], []), ([2, 3], [2, 3]), ([4], [4]), ([0, 5], [0, 5]), ([6], [6])])
def spec_LedgerOk.B6 : List Nat := [0, 0, 2, 0, 14, 30, 63, 127]
theorem spec_LedgerOk.tab6 : rtab .any (opsOf Try.f41 6) = spec_LedgerOk.T6 := by kernel_rfl
theorem spec_LedgerOk.bits6 : waitsOk spec_LedgerOk.T6.2 spec_LedgerOk.B6 = true := by kernel_rfl
set_option maxHeartbeats 8000000 in
set_option maxRecDepth 100000 in
theorem spec_LedgerOk.calls (k : Nat) (A0_0 : Option Addr) (c0_0 : Nat) (l0_0 : List (S222)) (a0_1 : Int) (a0_2 : Int) (A1_0 : Option Addr) (c1_0 : Nat) (l1_0 : List (S103)) (a1_1 : Int) (r : Bool) (w : World) (hr0_0 : Kd.C k222 w A0_0 l0_0.length l0_0) (hc0_0 : l0_0.length ≤ c0_0) (hr1_0 : Kd.C k103 w A1_0 l1_0.length l1_0) (hc1_0 : l1_0.length ≤ c1_0) (h : spec_LedgerOk.f k l0_0 a0_1 a0_2 l1_0 a1_1 = some r) :
    Calls Try.prog 41 #[.agg #[.slice A0_0 l0_0.length c0_0, .int .i64 a0_1, .int .i64 a0_2], .agg #[.slice A1_0 l1_0.length c1_0, .int .i64 a1_1]] w fun e w' => e = .returned (.bool r) ∧ Below w.heap.size w w' := by
 have hu81 := Try.underlying81; have hu85 := Try.underlying85; have hu103 := Try.underlying103; have HR0_0 := Aside0.mk hr0_0; have HC0_0 := Aside0.mk hc0_0; clear hr0_0 hc0_0; have HR1_0 := Aside0.mk hr1_0; have HC1_0 := Aside0.mk hc1_0; clear hr1_0 hc1_0; have HB := aZ (Below.refl w.heap.size w); have H : (if (l1_0.length : Int) > 1000 then (spec_LedgerOk.j0 k true l0_0 a0_1 a0_2 l1_0 a1_1) else ((spec_FrameOk.f k l0_0 a0_1 a0_2).bind fun t189 => (if t189 = true then ((spec_HeadOf.f k l1_0).bind fun t190 => (spec_LedgerOk.j0 k (a1_1 != t190) l0_0 a0_1 a0_2 l1_0 a1_1)) else (spec_LedgerOk.j0 k true l0_0 a0_1 a0_2 l1_0 a1_1)))) = some r := h; clear h; have HC3 := Aside0.mk H; clear H; go_enter Try.func41, Try.ntmps41
 go_upto_region 1 with (first | ((with_reducible refine gate_dst (N := 2) rfl ?_); refine box_event tZR (N := 2) tZR (cs := #[.slice A0_0 l0_0.length c0_0, .int .i64 a0_1, .int .i64 a0_2]) (t := 81) tZS ?_; intro gb187 hg w4 hbox hb; have BK187 := aZ (hbox); have GW187 := aZ ((by rw [hg]; exact (below_size (lZB HB.out)) : w.heap.size ≤ gb187)); have GE187 := GW187; replace HB := aZ (below_step (lZB HB.out) hb); clear hb hbox hg) | ((with_reducible refine gate_dst (N := 3) rfl ?_); refine box_event tZR (N := 3) tZR (cs := #[.slice A1_0 l1_0.length c1_0, .int .i64 a1_1]) (t := 85) tZS ?_; intro gb188 hg w5 hbox hb; have BK188 := aZ (hbox); have GW188 := aZ ((by rw [hg]; exact (below_size bZ) : w.heap.size ≤ gb188)); have GE188 := GW188; replace HB := aZ (below_step bZ hb); have NB187_188 := aZ ((nLt hg (bkZ BK187.out) : gb187 ≠ gb188)); have NB188_187 := aZ ((nGt hg (bkZ BK187.out) : gb188 ≠ gb187)); replace BK187 := aZ (blk_below (bkZ BK187.out) hb); clear hb hbox hg))
 (try simp only [Act.put, sZ1, sZ2, sZ3])
 go_cut [22] (fun v22 wc => ∃ (kq : Nat) (x22_2 : Bool), v22 = .bool x22_2 ∧ Aside0 (spec_LedgerOk.j0 kq x22_2 l0_0 a0_1 a0_2 l1_0 a1_1 = some r) ∧ Aside0 (kq ≤ k) ∧ Aside0 (wc.heap[gb187]? = some (.cells #[(.slice A0_0 l0_0.length c0_0), .int .i64 a0_1, .int .i64 a0_2] 81 (0, 0))) ∧ Aside0 (wc.heap[gb188]? = some (.cells #[(.slice A1_0 l1_0.length c1_0), .int .i64 a1_1] 85 (0, 0))) ∧ Aside0 (Below w.heap.size w wc))
 case first =>
  have H := HC3.out; clear HC3
  by_cases c6 : (l1_0.length : Int) > 1000
  ·rw [if_pos c6] at H; have c6b0 : decide (1000 < (l1_0.length : Int)) = true := decide_eq_true c6; have c6b1 : decide (1000 < l1_0.length) = true := decide_eq_true (by omega); clear c6; (first | rw [c6b0] | (simp only [i64_w, i32_w]; rw [c6b0]) | skip); have H' := Aside0.mk H; clear H
   try go_wp2
   replace BK187 := aZ (blk_drew BK187.out); replace BK188 := aZ (blk_drew BK188.out); replace HB := aZ (below_drew1 HB.out); refine start_ (n := 17) (S := fun w' => w'.cell? ⟨gb188, 0, none⟩ = some (.slice A1_0 l1_0.length c1_0) ∧ w'.cell? ⟨gb188, 1, none⟩ = some (.int .i64 a1_1)) (ds := []) L0' kZ rfl rfl ⟨(blk_cell BK188.out 0).trans rfl, (blk_cell BK188.out 1).trans rfl⟩ (fun hHeld => ?_); refine with_tabW spec_LedgerOk.tab1 spec_LedgerOk.bits1 (fun HT_ HW_ => ?_); generalize w5.drew = w7 at BK187 BK188 HB hHeld ⊢; refine pure_ (i := 0) (N := some 6) (v := ?_) (a' := ?_) L1' rfl rfl (any_of HT_.out kZ) (fun _ _ _ h => h) (Or.inl ⟨by rfl, ?_⟩) ?_ ?_; rotate_left
   ·intro w'; go_simp; with_reducible rfl
   rotate_left
   ·simp only [Act.put, sZ1, sZ2, sZ3, i64_w, i32_w]; rfl
   refine take_ (i := 1) (N := some 7) (v := ?_) (a' := ?_) L2' rfl rfl (take_ofW HT_.out HW_.out kZ) (fun _ _ _ h => h) (Or.inl ⟨by rfl, ?_⟩) hHeld ?_ ?_; rotate_left
   ·rintro w' ⟨s0, s1⟩
    go_simp; with_reducible rfl
   rotate_left
   ·simp only [Act.put, sZ1, sZ2, sZ3, i64_w, i32_w]; rfl
   refine pure_ (i := 2) (N := some 8) (v := ?_) (a' := ?_) L3' rfl rfl (any_of HT_.out kZ) (fun _ _ _ h => h) (Or.inl ⟨by rfl, ?_⟩) ?_ ?_; rotate_left
   ·intro w'; go_simp; with_reducible rfl
   rotate_left
   ·simp only [Act.put, sZ1, sZ2, sZ3, i64_w, i32_w]; rfl
   refine pure_ (i := 3) (N := some 9) (v := ?_) (a' := ?_) L4' rfl rfl (any_of HT_.out kZ) (fun _ _ _ h => h) (Or.inl ⟨by rfl, ?_⟩) ?_ ?_; rotate_left
   ·intro w'; go_simp; with_reducible rfl
   rotate_left
   ·simp only [Act.put, sZ1, sZ2, sZ3, i64_w, i32_w]; rfl
   refine pure_ (i := 4) (N := some 10) (v := ?_) (a' := ?_) L5' rfl rfl (any_of HT_.out kZ) (fun _ _ _ h => h) (Or.inl ⟨by rfl, ?_⟩) ?_ ?_; rotate_left
   ·intro w'; go_simp; with_reducible rfl
   rotate_left
   ·simp only [Act.put, sZ1, sZ2, sZ3, i64_w, i32_w]; rfl
   refine pure_ (i := 5) (N := some 11) (v := undef) (a' := ?_) L6' rfl rfl (any_of HT_.out kZ) (fun _ _ _ h => h) (Or.inr ⟨by rfl, rfl⟩) ?_ ?_; rotate_left
   ·simp only [Act.put, sZ1, sZ2, sZ3, i64_w, i32_w]; rfl
   refine pure_ (i := 6) (N := some 12) (v := undef) (a' := ?_) L7' rfl rfl (any_of HT_.out kZ) (fun _ _ _ h => h) (Or.inr ⟨by rfl, rfl⟩) ?_ ?_; rotate_left
   ·simp only [Act.put, sZ1, sZ2, sZ3, i64_w, i32_w]; rfl
   refine pure_ (i := 7) (N := some 13) (v := undef) (a' := ?_) L8' rfl rfl (any_of HT_.out kZ) (fun _ _ _ h => h) (Or.inr ⟨by rfl, rfl⟩) ?_ ?_; rotate_left
   ·simp only [Act.put, sZ1, sZ2, sZ3, i64_w, i32_w]; rfl
   refine pure_ (i := 8) (N := some 14) (v := ?_) (a' := ?_) L9' rfl rfl (any_of HT_.out kZ) (fun _ _ _ h => h) (Or.inl ⟨by rfl, ?_⟩) ?_ ?_; rotate_left
   ·intro w'; go_simp; with_reducible rfl
   rotate_left
   ·simp only [Act.put, sZ1, sZ2, sZ3, i64_w, i32_w]; rfl
   refine pure_ (i := 9) (N := some 15) (v := ?_) (a' := ?_) L10' rfl rfl (any_of HT_.out kZ) (fun _ _ _ h => h) (Or.inl ⟨by rfl, ?_⟩) ?_ ?_; rotate_left
   ·intro w'; go_simp; with_reducible rfl
   rotate_left
   ·simp only [Act.put, sZ1, sZ2, sZ3, i64_w, i32_w]; rfl
   refine pure_ (i := 10) (N := some 16) (v := undef) (a' := ?_) L11' rfl rfl (any_of HT_.out kZ) (fun _ _ _ h => h) (Or.inr ⟨by rfl, rfl⟩) ?_ ?_; rotate_left
   ·simp only [Act.put, sZ1, sZ2, sZ3, i64_w, i32_w]; rfl
   refine pure_ (i := 11) (N := some 17) (v := undef) (a' := ?_) L12' rfl rfl (any_of HT_.out kZ) (fun _ _ _ h => h) (Or.inr ⟨by rfl, rfl⟩) ?_ ?_; rotate_left
   ·simp only [Act.put, sZ1, sZ2, sZ3, i64_w, i32_w]; rfl
   refine pure_ (i := 12) (N := some 18) (v := undef) (a' := ?_) L13' rfl rfl (any_of HT_.out kZ) (fun _ _ _ h => h) (Or.inr ⟨by rfl, rfl⟩) ?_ ?_; rotate_left
   ·simp only [Act.put, sZ1, sZ2, sZ3, i64_w, i32_w]; rfl
   refine pure_ (i := 13) (N := some 19) (v := undef) (a' := ?_) L14' rfl rfl (any_of HT_.out kZ) (fun _ _ _ h => h) (Or.inr ⟨by rfl, rfl⟩) ?_ ?_; rotate_left
   ·simp only [Act.put, sZ1, sZ2, sZ3, i64_w, i32_w]; rfl
   refine pure_ (i := 14) (N := some 20) (v := undef) (a' := ?_) L15' rfl rfl (any_of HT_.out kZ) (fun _ _ _ h => h) (Or.inr ⟨by rfl, rfl⟩) ?_ ?_; rotate_left
   ·simp only [Act.put, sZ1, sZ2, sZ3, i64_w, i32_w]; rfl
   refine pure_ (i := 15) (N := some 21) (v := undef) (a' := ?_) L16' rfl rfl (any_of HT_.out kZ) (fun _ _ _ h => h) (Or.inr ⟨by rfl, rfl⟩) ?_ ?_; rotate_left
   ·simp only [Act.put, sZ1, sZ2, sZ3, i64_w, i32_w]; rfl
   refine pure_ (i := 16) (N := some 22) (v := ?_) (a' := ?_) L17' rfl rfl (any_of HT_.out kZ) (fun _ _ _ h => h) (Or.inl ⟨by rfl, ?_⟩) ?_ ?_; rotate_left
   ·intro w'; go_simp; with_reducible rfl
   rotate_left
   ·simp only [Act.put, sZ1, sZ2, sZ3, i64_w, i32_w]; rfl
   refine done_ (done_of HT_.out kZ) ?_
   try go_wp2
   go_meet
   case rel => exact ⟨_, (true), tZB, H', ⟨by first | omega | exact Nat.le_refl _⟩, ⟨bkZ BK187.out⟩, ⟨bkZ BK188.out⟩, ⟨bZ⟩⟩
  rw [if_neg c6] at H; have c6b0 : decide (1000 < (l1_0.length : Int)) = false := decide_eq_false c6; have c6b1 : decide (1000 < l1_0.length) = false := decide_eq_false (by omega); clear c6; (first | rw [c6b0] | (simp only [i64_w, i32_w]; rw [c6b0]) | skip); replace H := Option.bind_eq_some_iff.mp H; obtain ⟨t189, A80, H⟩ := H; replace H : (if t189 = true then ((spec_HeadOf.f k l1_0).bind fun t190 => (spec_LedgerOk.j0 k (a1_1 != t190) l0_0 a0_1 a0_2 l1_0 a1_1)) else (spec_LedgerOk.j0 k true l0_0 a0_1 a0_2 l1_0 a1_1)) = some r := H; have A8 := Aside0.mk A80; clear A80
  by_cases c9 : t189 = true
  rotate_left
  ·replace c9 := Bool.eq_false_iff.mpr c9; subst c9; rw [if_neg Bool.false_ne_true] at H; have H' := Aside0.mk H; clear H
   try go_wp2
   replace BK187 := aZ (blk_drew BK187.out); replace BK188 := aZ (blk_drew BK188.out); replace HB := aZ (below_drew1 HB.out); refine start_ (n := 17) (S := fun w' => w'.cell? ⟨gb188, 0, none⟩ = some (.slice A1_0 l1_0.length c1_0) ∧ w'.cell? ⟨gb188, 1, none⟩ = some (.int .i64 a1_1) ∧ w'.cell? ⟨gb187, 0, none⟩ = some (.slice A0_0 l0_0.length c0_0) ∧ w'.cell? ⟨gb187, 1, none⟩ = some (.int .i64 a0_1) ∧ w'.cell? ⟨gb187, 2, none⟩ = some (.int .i64 a0_2)) (ds := []) L0' kZ rfl rfl ⟨(blk_cell BK188.out 0).trans rfl, (blk_cell BK188.out 1).trans rfl, (blk_cell BK187.out 0).trans rfl, (blk_cell BK187.out 1).trans rfl, (blk_cell BK187.out 2).trans rfl⟩ (fun hHeld => ?_); refine with_tabW spec_LedgerOk.tab1 spec_LedgerOk.bits1 (fun HT_ HW_ => ?_); generalize w5.drew = w14 at BK187 BK188 HB hHeld ⊢
   refine pure_ (i := 0) (N := some 6) (v := ?_) (a' := ?_) L1' rfl rfl (any_of HT_.out kZ) (fun _ _ _ h => h) (Or.inl ⟨by rfl, ?_⟩) ?_ ?_; rotate_left
   ·intro w'; go_simp; with_reducible rfl
   rotate_left
   ·simp only [Act.put, sZ1, sZ2, sZ3, i64_w, i32_w]; rfl
   refine take_ (i := 1) (N := some 7) (v := ?_) (a' := ?_) L2' rfl rfl (take_ofW HT_.out HW_.out kZ) (fun _ _ _ h => h) (Or.inl ⟨by rfl, ?_⟩) hHeld ?_ ?_; rotate_left
   ·rintro w' ⟨s0, s1, s2, s3, s4⟩
    go_simp; with_reducible rfl
   rotate_left
   ·simp only [Act.put, sZ1, sZ2, sZ3, i64_w, i32_w]; rfl
   refine pure_ (i := 2) (N := some 8) (v := ?_) (a' := ?_) L3' rfl rfl (any_of HT_.out kZ) (fun _ _ _ h => h) (Or.inl ⟨by rfl, ?_⟩) ?_ ?_; rotate_left
   ·intro w'; go_simp; with_reducible rfl
   rotate_left
   ·simp only [Act.put, sZ1, sZ2, sZ3, i64_w, i32_w]; rfl
   refine pure_ (i := 3) (N := some 9) (v := ?_) (a' := ?_) L4' rfl rfl (any_of HT_.out kZ) (fun _ _ _ h => h) (Or.inl ⟨by rfl, ?_⟩) ?_ ?_; rotate_left
   ·intro w'; go_simp; with_reducible rfl
   rotate_left
   ·simp only [Act.put, sZ1, sZ2, sZ3, i64_w, i32_w]; rfl
   refine pure_ (i := 4) (N := some 10) (v := ?_) (a' := ?_) L5' rfl rfl (any_of HT_.out kZ) (fun _ _ _ h => h) (Or.inl ⟨by rfl, ?_⟩) ?_ ?_; rotate_left
   ·intro w'; go_simp; with_reducible rfl
   rotate_left
   ·simp only [Act.put, sZ1, sZ2, sZ3, i64_w, i32_w]; rfl
   refine take_ (i := 5) (N := some 11) (v := ?_) (a' := ?_) L6' rfl rfl (take_ofW HT_.out HW_.out kZ) (fun _ _ _ h => h) (Or.inl ⟨by rfl, ?_⟩) hHeld ?_ ?_; rotate_left
   ·rintro w' ⟨s0, s1, s2, s3, s4⟩
    go_simp; with_reducible rfl
   rotate_left
   ·simp only [Act.put, sZ1, sZ2, sZ3, i64_w, i32_w]; rfl
   refine one_ (i := 6) (N := some 12) L7' rfl rfl (one_of HT_.out kZ) (by decide) (fun K hK => ?_); refine goes_ Try.func108 kZ rfl #[.agg #[.slice A0_0 l0_0.length c0_0, .int .i64 a0_1, .int .i64 a0_2]] (by rfl) rfl rfl tZA ?_
   with_reducible refine (spec_FrameOk.calls k _ _ l0_0 a0_1 a0_2 false _ ?side1 ?side2 A8.out).mono ?_
   (case side1 => repeat (first | exact (Kd.C_below HR0_0.out HB.out) | (with_reducible refine Kd.C_alloc ?_ _) | (with_reducible refine Kd.C_drewN ?_ _) | (with_reducible refine Kd.C_drew ?_)))
   (case side2 => exact HC0_0.out)
   rintro e w15 ⟨rfl, hb⟩
   refine ⟨_, rfl, ?_⟩; replace BK187 := aZ (blk_below (bkZ BK187.out) hb); replace BK188 := aZ (blk_below (bkZ BK188.out) hb); replace HB := aZ (below_step bZ hb); (try clear hb); (try clear hb2); (try clear hk); (try clear hi); refine hK.out _ _ ⟨(blk_cell BK188.out 0).trans rfl, (blk_cell BK188.out 1).trans rfl, (blk_cell BK187.out 0).trans rfl, (blk_cell BK187.out 1).trans rfl, (blk_cell BK187.out 2).trans rfl⟩ (fun hHeld => ?_); clear hK K; refine norm_ (a' := ?_) ?_ ?_; rotate_left
   ·show Act.put _ (some 12) _ = _
    simp only [Act.put, sZ1, sZ2, sZ3, i64_w, i32_w]; rfl
   refine pure_ (i := 7) (N := some 13) (v := ?_) (a' := ?_) L8' rfl rfl (any_of HT_.out kZ) (fun _ _ _ h => h) (Or.inl ⟨by rfl, ?_⟩) ?_ ?_; rotate_left
   ·intro w'; go_simp; with_reducible rfl
   rotate_left
   ·simp only [Act.put, sZ1, sZ2, sZ3, i64_w, i32_w]; rfl
   refine pure_ (i := 8) (N := some 14) (v := ?_) (a' := ?_) L9' rfl rfl (any_of HT_.out kZ) (fun _ _ _ h => h) (Or.inl ⟨by rfl, ?_⟩) ?_ ?_; rotate_left
   ·intro w'; go_simp; with_reducible rfl
   rotate_left
   ·simp only [Act.put, sZ1, sZ2, sZ3, i64_w, i32_w]; rfl
   refine pure_ (i := 9) (N := some 15) (v := ?_) (a' := ?_) L10' rfl rfl (any_of HT_.out kZ) (fun _ _ _ h => h) (Or.inl ⟨by rfl, ?_⟩) ?_ ?_; rotate_left
   ·intro w'; go_simp; with_reducible rfl
   rotate_left
   ·simp only [Act.put, sZ1, sZ2, sZ3, i64_w, i32_w]; rfl
   refine pure_ (i := 10) (N := some 16) (v := undef) (a' := ?_) L11' rfl rfl (any_of HT_.out kZ) (fun _ _ _ h => h) (Or.inr ⟨by rfl, rfl⟩) ?_ ?_; rotate_left
   ·simp only [Act.put, sZ1, sZ2, sZ3, i64_w, i32_w]; rfl
   refine pure_ (i := 11) (N := some 17) (v := undef) (a' := ?_) L12' rfl rfl (any_of HT_.out kZ) (fun _ _ _ h => h) (Or.inr ⟨by rfl, rfl⟩) ?_ ?_; rotate_left
   ·simp only [Act.put, sZ1, sZ2, sZ3, i64_w, i32_w]; rfl
   refine pure_ (i := 12) (N := some 18) (v := undef) (a' := ?_) L13' rfl rfl (any_of HT_.out kZ) (fun _ _ _ h => h) (Or.inr ⟨by rfl, rfl⟩) ?_ ?_; rotate_left
   ·simp only [Act.put, sZ1, sZ2, sZ3, i64_w, i32_w]; rfl
   refine pure_ (i := 13) (N := some 19) (v := undef) (a' := ?_) L14' rfl rfl (any_of HT_.out kZ) (fun _ _ _ h => h) (Or.inr ⟨by rfl, rfl⟩) ?_ ?_; rotate_left
   ·simp only [Act.put, sZ1, sZ2, sZ3, i64_w, i32_w]; rfl
   refine pure_ (i := 14) (N := some 20) (v := undef) (a' := ?_) L15' rfl rfl (any_of HT_.out kZ) (fun _ _ _ h => h) (Or.inr ⟨by rfl, rfl⟩) ?_ ?_; rotate_left
   ·simp only [Act.put, sZ1, sZ2, sZ3, i64_w, i32_w]; rfl
   refine pure_ (i := 15) (N := some 21) (v := undef) (a' := ?_) L16' rfl rfl (any_of HT_.out kZ) (fun _ _ _ h => h) (Or.inr ⟨by rfl, rfl⟩) ?_ ?_; rotate_left
   ·simp only [Act.put, sZ1, sZ2, sZ3, i64_w, i32_w]; rfl
   refine pure_ (i := 16) (N := some 22) (v := ?_) (a' := ?_) L17' rfl rfl (any_of HT_.out kZ) (fun _ _ _ h => h) (Or.inl ⟨by rfl, ?_⟩) ?_ ?_; rotate_left
   ·intro w'; go_simp; with_reducible rfl
   rotate_left
   ·simp only [Act.put, sZ1, sZ2, sZ3, i64_w, i32_w]; rfl
   refine done_ (done_of HT_.out kZ) ?_
   try go_wp2
   go_meet
   case rel => exact ⟨_, (true), tZB, H', ⟨by first | omega | exact Nat.le_refl _⟩, ⟨bkZ BK187.out⟩, ⟨bkZ BK188.out⟩, ⟨bZ⟩⟩
  subst c9; rw [if_pos rfl] at H; replace H := Option.bind_eq_some_iff.mp H; obtain ⟨t190, A100, H⟩ := H; replace H : (spec_LedgerOk.j0 k (a1_1 != t190) l0_0 a0_1 a0_2 l1_0 a1_1) = some r := H; have A10 := Aside0.mk A100; clear A100; have H' := Aside0.mk H; clear H
  try go_wp2
  replace BK187 := aZ (blk_drew BK187.out); replace BK188 := aZ (blk_drew BK188.out); replace HB := aZ (below_drew1 HB.out); refine start_ (n := 17) (S := fun w' => w'.cell? ⟨gb188, 0, none⟩ = some (.slice A1_0 l1_0.length c1_0) ∧ w'.cell? ⟨gb188, 1, none⟩ = some (.int .i64 a1_1) ∧ w'.cell? ⟨gb187, 0, none⟩ = some (.slice A0_0 l0_0.length c0_0) ∧ w'.cell? ⟨gb187, 1, none⟩ = some (.int .i64 a0_1) ∧ w'.cell? ⟨gb187, 2, none⟩ = some (.int .i64 a0_2)) (ds := []) L0' kZ rfl rfl ⟨(blk_cell BK188.out 0).trans rfl, (blk_cell BK188.out 1).trans rfl, (blk_cell BK187.out 0).trans rfl, (blk_cell BK187.out 1).trans rfl, (blk_cell BK187.out 2).trans rfl⟩ (fun hHeld => ?_); refine with_tabW spec_LedgerOk.tab1 spec_LedgerOk.bits1 (fun HT_ HW_ => ?_); generalize w5.drew = w11 at BK187 BK188 HB hHeld ⊢
  refine pure_ (i := 0) (N := some 6) (v := ?_) (a' := ?_) L1' rfl rfl (any_of HT_.out kZ) (fun _ _ _ h => h) (Or.inl ⟨by rfl, ?_⟩) ?_ ?_; rotate_left
  ·intro w'; go_simp; with_reducible rfl
  rotate_left
  ·simp only [Act.put, sZ1, sZ2, sZ3, i64_w, i32_w]; rfl
  refine take_ (i := 1) (N := some 7) (v := ?_) (a' := ?_) L2' rfl rfl (take_ofW HT_.out HW_.out kZ) (fun _ _ _ h => h) (Or.inl ⟨by rfl, ?_⟩) hHeld ?_ ?_; rotate_left
  ·rintro w' ⟨s0, s1, s2, s3, s4⟩
   go_simp; with_reducible rfl
  rotate_left
  ·simp only [Act.put, sZ1, sZ2, sZ3, i64_w, i32_w]; rfl
  refine pure_ (i := 2) (N := some 8) (v := ?_) (a' := ?_) L3' rfl rfl (any_of HT_.out kZ) (fun _ _ _ h => h) (Or.inl ⟨by rfl, ?_⟩) ?_ ?_; rotate_left
  ·intro w'; go_simp; with_reducible rfl
  rotate_left
  ·simp only [Act.put, sZ1, sZ2, sZ3, i64_w, i32_w]; rfl
  refine pure_ (i := 3) (N := some 9) (v := ?_) (a' := ?_) L4' rfl rfl (any_of HT_.out kZ) (fun _ _ _ h => h) (Or.inl ⟨by rfl, ?_⟩) ?_ ?_; rotate_left
  ·intro w'; go_simp; with_reducible rfl
  rotate_left
  ·simp only [Act.put, sZ1, sZ2, sZ3, i64_w, i32_w]; rfl
  refine pure_ (i := 4) (N := some 10) (v := ?_) (a' := ?_) L5' rfl rfl (any_of HT_.out kZ) (fun _ _ _ h => h) (Or.inl ⟨by rfl, ?_⟩) ?_ ?_; rotate_left
  ·intro w'; go_simp; with_reducible rfl
  rotate_left
  ·simp only [Act.put, sZ1, sZ2, sZ3, i64_w, i32_w]; rfl
  refine take_ (i := 5) (N := some 11) (v := ?_) (a' := ?_) L6' rfl rfl (take_ofW HT_.out HW_.out kZ) (fun _ _ _ h => h) (Or.inl ⟨by rfl, ?_⟩) hHeld ?_ ?_; rotate_left
  ·rintro w' ⟨s0, s1, s2, s3, s4⟩
   go_simp; with_reducible rfl
  rotate_left
  ·simp only [Act.put, sZ1, sZ2, sZ3, i64_w, i32_w]; rfl
  refine one_ (i := 6) (N := some 12) L7' rfl rfl (one_of HT_.out kZ) (by decide) (fun K hK => ?_); refine goes_ Try.func108 kZ rfl #[.agg #[.slice A0_0 l0_0.length c0_0, .int .i64 a0_1, .int .i64 a0_2]] (by rfl) rfl rfl tZA ?_
  with_reducible refine (spec_FrameOk.calls k _ _ l0_0 a0_1 a0_2 true _ ?side1 ?side2 A8.out).mono ?_
  (case side1 => repeat (first | exact (Kd.C_below HR0_0.out HB.out) | (with_reducible refine Kd.C_alloc ?_ _) | (with_reducible refine Kd.C_drewN ?_ _) | (with_reducible refine Kd.C_drew ?_)))
  (case side2 => exact HC0_0.out)
  rintro e w12 ⟨rfl, hb⟩
  refine ⟨_, rfl, ?_⟩; replace BK187 := aZ (blk_below (bkZ BK187.out) hb); replace BK188 := aZ (blk_below (bkZ BK188.out) hb); replace HB := aZ (below_step bZ hb); (try clear hb); (try clear hb2); (try clear hk); (try clear hi); refine hK.out _ _ ⟨(blk_cell BK188.out 0).trans rfl, (blk_cell BK188.out 1).trans rfl, (blk_cell BK187.out 0).trans rfl, (blk_cell BK187.out 1).trans rfl, (blk_cell BK187.out 2).trans rfl⟩ (fun hHeld => ?_); clear hK K; refine norm_ (a' := ?_) ?_ ?_; rotate_left
  ·show Act.put _ (some 12) _ = _
   simp only [Act.put, sZ1, sZ2, sZ3, i64_w, i32_w]; rfl
  refine pure_ (i := 7) (N := some 13) (v := ?_) (a' := ?_) L8' rfl rfl (any_of HT_.out kZ) (fun _ _ _ h => h) (Or.inl ⟨by rfl, ?_⟩) ?_ ?_; rotate_left
  ·intro w'; go_simp; with_reducible rfl
  rotate_left
  ·simp only [Act.put, sZ1, sZ2, sZ3, i64_w, i32_w]; rfl
  refine pure_ (i := 8) (N := some 14) (v := ?_) (a' := ?_) L9' rfl rfl (any_of HT_.out kZ) (fun _ _ _ h => h) (Or.inl ⟨by rfl, ?_⟩) ?_ ?_; rotate_left
  ·intro w'; go_simp; with_reducible rfl
  rotate_left
  ·simp only [Act.put, sZ1, sZ2, sZ3, i64_w, i32_w]; rfl
  refine pure_ (i := 9) (N := some 15) (v := ?_) (a' := ?_) L10' rfl rfl (any_of HT_.out kZ) (fun _ _ _ h => h) (Or.inl ⟨by rfl, ?_⟩) ?_ ?_; rotate_left
  ·intro w'; go_simp; with_reducible rfl
  rotate_left
  ·simp only [Act.put, sZ1, sZ2, sZ3, i64_w, i32_w]; rfl
  refine pure_ (i := 10) (N := some 16) (v := ?_) (a' := ?_) L11' rfl rfl (any_of HT_.out kZ) (fun _ _ _ h => h) (Or.inl ⟨by rfl, ?_⟩) ?_ ?_; rotate_left
  ·intro w'; go_simp; with_reducible rfl
  rotate_left
  ·simp only [Act.put, sZ1, sZ2, sZ3, i64_w, i32_w]; rfl
  refine pure_ (i := 12) (N := some 18) (v := ?_) (a' := ?_) L18' rfl rfl (any_of HT_.out kZ) (fun _ _ _ h => h) (Or.inl ⟨by rfl, ?_⟩) ?_ ?_; rotate_left
  ·intro w'; go_simp; with_reducible rfl
  rotate_left
  ·simp only [Act.put, sZ1, sZ2, sZ3, i64_w, i32_w]; rfl
  refine take_ (i := 11) (N := some 17) (v := ?_) (a' := ?_) L13' rfl rfl (take_ofW HT_.out HW_.out kZ) (fun _ _ _ h => h) (Or.inl ⟨by rfl, ?_⟩) hHeld ?_ ?_; rotate_left
  ·rintro w' ⟨s0, s1, s2, s3, s4⟩
   go_simp; with_reducible rfl
  rotate_left
  ·simp only [Act.put, sZ1, sZ2, sZ3, i64_w, i32_w]; rfl
  refine take_ (i := 13) (N := some 19) (v := ?_) (a' := ?_) L14' rfl rfl (take_ofW HT_.out HW_.out kZ) (fun _ _ _ h => h) (Or.inl ⟨by rfl, ?_⟩) hHeld ?_ ?_; rotate_left
  ·rintro w' ⟨s0, s1, s2, s3, s4⟩
   go_simp; with_reducible rfl
  rotate_left
  ·simp only [Act.put, sZ1, sZ2, sZ3, i64_w, i32_w]; rfl
  refine one_ (i := 14) (N := some 20) L15' rfl rfl (one_of HT_.out kZ) (by decide) (fun K hK => ?_); refine goes_ Try.func109 kZ rfl #[.slice A1_0 l1_0.length c1_0] (by rfl) rfl rfl tZA ?_
  with_reducible refine (spec_HeadOf.calls k _ _ l1_0 t190 _ ?side1 ?side2 A10.out).mono ?_
  (case side1 => repeat (first | exact (Kd.C_below HR1_0.out HB.out) | (with_reducible refine Kd.C_alloc ?_ _) | (with_reducible refine Kd.C_drewN ?_ _) | (with_reducible refine Kd.C_drew ?_)))
  (case side2 => exact HC1_0.out)
  rintro e w13 ⟨rfl, hb⟩
  refine ⟨_, rfl, ?_⟩; replace BK187 := aZ (blk_below (bkZ BK187.out) hb); replace BK188 := aZ (blk_below (bkZ BK188.out) hb); replace HB := aZ (below_step bZ hb); (try clear hb); (try clear hb2); (try clear hk); (try clear hi); refine hK.out _ _ ⟨(blk_cell BK188.out 0).trans rfl, (blk_cell BK188.out 1).trans rfl, (blk_cell BK187.out 0).trans rfl, (blk_cell BK187.out 1).trans rfl, (blk_cell BK187.out 2).trans rfl⟩ (fun hHeld => ?_); clear hK K; refine norm_ (a' := ?_) ?_ ?_; rotate_left
  ·show Act.put _ (some 20) _ = _
   simp only [Act.put, sZ1, sZ2, sZ3, i64_w, i32_w]; rfl
  refine pure_ (i := 15) (N := some 21) (v := ?_) (a' := ?_) L16' rfl rfl (any_of HT_.out kZ) (fun _ _ _ h => h) (Or.inl ⟨by rfl, ?_⟩) ?_ ?_; rotate_left
  ·intro w'; go_simp; with_reducible rfl
  rotate_left
  ·simp only [Act.put, sZ1, sZ2, sZ3, i64_w, i32_w]; rfl
  refine pure_ (i := 16) (N := some 22) (v := ?_) (a' := ?_) L17' rfl rfl (any_of HT_.out kZ) (fun _ _ _ h => h) (Or.inl ⟨by rfl, ?_⟩) ?_ ?_; rotate_left
  ·intro w'; go_simp; with_reducible rfl
  rotate_left
  ·simp only [Act.put, sZ1, sZ2, sZ3, i64_w, i32_w]; rfl
  refine done_ (done_of HT_.out kZ) ?_
  try go_wp2
  go_meet
  case rel => exact ⟨_, ((a1_1 != t190)), tZB, H', ⟨by first | omega | exact Nat.le_refl _⟩, ⟨bkZ BK187.out⟩, ⟨bkZ BK188.out⟩, ⟨bZ⟩⟩
 case rest =>
  clear HC3; obtain ⟨kq, x22_2, rfl, HA, HJ2, BK187, BK188, HB⟩ := hcut
  cases kq with
  | zero => exact absurd HA.out (by simp [spec_LedgerOk.j0])
  | succ kj2 =>
   have H := HA.out; clear HA; simp only [spec_LedgerOk.j0] at H
   by_cases c16 : x22_2 = true
   ·subst c16; rw [if_pos rfl] at H; obtain rfl := Option.some.inj H; go_wp2; go_ret; exact ⟨tZC, bZ⟩
   replace c16 := Bool.eq_false_iff.mpr c16; subst c16; rw [if_neg Bool.false_ne_true] at H; have H' := Aside0.mk H; clear H; go_wp2
   go_loopg [5] kj2 (fun kq v5 w' => ∃ (x5_2 : Int), v5 = .int .i64 x5_2 ∧ Aside0 (spec_LedgerOk.l0 kq x5_2 l0_0 a0_1 a0_2 l1_0 a1_1 = some r) ∧ Aside0 (kq ≤ kj2) ∧ Aside0 (w'.heap[gb187]? = some (.cells #[(.slice A0_0 l0_0.length c0_0), .int .i64 a0_1, .int .i64 a0_2] 81 (0, 0))) ∧ Aside0 (w'.heap[gb188]? = some (.cells #[(.slice A1_0 l1_0.length c1_0), .int .i64 a1_1] 85 (0, 0))) ∧ Aside0 (Below w.heap.size w w'))
   case atStart => exact ⟨(0), tZB, H', ⟨Nat.le_refl _⟩, ⟨bkZ BK187.out⟩, ⟨bkZ BK188.out⟩, ⟨bZ⟩⟩
   case round =>
    clear H'; (try clear c16); obtain ⟨x5_2, rfl, HA, HK2, BK187, BK188, HB⟩ := hrel
    cases gk with
    | zero => exact absurd HA.out (by simp [spec_LedgerOk.l0])
    | succ k2 =>
     have H := HA.out; clear HA; simp only [spec_LedgerOk.l0] at H
     by_cases c17 : x5_2 < (l1_0.length : Int)
     rotate_left
     ·rw [if_neg c17] at H; have c17b0 := decide_eq_false c17; clear c17; obtain rfl := Option.some.inj H; have hnb29 := NB188_187.out; have hnc29 := NB187_188.out; obtain ⟨hcz30_0, hcz30_1, hfz30_0, hfz30_1⟩ := bc2 BK188.out; go_wp2; go_ret; exact ⟨tZC, bZ⟩
     rw [if_pos c17] at H; have c17b0 := decide_eq_true c17; clear c17
     by_cases c18 : 0 ≤ x5_2
     rotate_left
     ·rw [if_neg c18] at H; exact absurd H (by simp)
     rw [if_pos c18] at H; have c18b0 := decide_eq_true c18; clear c18; replace H := Option.bind_eq_some_iff.mp H; obtain ⟨t192, A190, H⟩ := H; replace H : (if t192 = true then (spec_LedgerOk.l0 k2 (wrap64 (x5_2 + 1)) l0_0 a0_1 a0_2 l1_0 a1_1) else (some false)) = some r := H; have A19 := Aside0.mk A190; clear A190
     by_cases c20 : t192 = true
     rotate_left
     ·replace c20 := Bool.eq_false_iff.mpr c20; subst c20; rw [if_neg Bool.false_ne_true] at H; obtain rfl := Option.some.inj H; have hnb25 := NB188_187.out; have hnc25 := NB187_188.out; obtain ⟨hcz26_0, hcz26_1, hfz26_0, hfz26_1⟩ := bc2 BK188.out
      try go_wp2
      replace BK187 := aZ (blk_drew BK187.out); replace BK188 := aZ (blk_drew BK188.out); replace HB := aZ (below_drew1 HB.out); have p191 : 0 ≤ (x5_2 : Int) := of_decide_eq_true tZE; have q191 : x5_2 < (l1_0.length : Int) := of_decide_eq_true tZE; obtain ⟨ad191, A191_3, c191_3, e191, hx191_0, hx191_1, hx191_2, hx191_3, hl191_3, hi191_3⟩ := at_T103 HR1_0.out x5_2 p191 q191; have hw191_3 := hx191_3; have hw191_2 := hx191_2; have hw191_1 := hx191_1; have hw191_0 := hx191_0; have hz191_3 := hx191_3
      cases e191
      replace hx191_0 := cZ HB hx191_0; replace hx191_1 := cZ HB hx191_1; replace hx191_2 := cZ HB hx191_2; replace hx191_3 := cZ HB hx191_3; have HR191_3 := Aside0.mk hi191_3; have HC191_3 := Aside0.mk hl191_3; clear hi191_3 hl191_3; replace p191 := eq_true p191; replace q191 := eq_true q191
      refine start_ (n := 8) (S := fun w' => w'.cell? ⟨gb187, 0, none⟩ = some (.slice A0_0 l0_0.length c0_0) ∧ w'.cell? ⟨gb187, 1, none⟩ = some (.int .i64 a0_1) ∧ w'.cell? ⟨gb187, 2, none⟩ = some (.int .i64 a0_2) ∧ w'.cell? ⟨gb188, 0, none⟩ = some (.slice (some ad191) l1_0.length c1_0) ∧ w'.cell? ⟨gb188, 1, none⟩ = some (.int .i64 a1_1) ∧ w'.cell? (ad191.add ((x5_2).toNat * 4)) = some (.int .i64 ((rd_T103 l1_0 x5_2).f0)) ∧ w'.cell? ⟨(ad191.add ((x5_2).toNat * 4)).block, (ad191.add ((x5_2).toNat * 4)).off + 1, none⟩ = some (.int .i64 ((rd_T103 l1_0 x5_2).f1)) ∧ w'.cell? ⟨(ad191.add ((x5_2).toNat * 4)).block, (ad191.add ((x5_2).toNat * 4)).off + 2, none⟩ = some (.string ((rd_T103 l1_0 x5_2).f2)) ∧ w'.cell? ⟨(ad191.add ((x5_2).toNat * 4)).block, (ad191.add ((x5_2).toNat * 4)).off + 3, none⟩ = some (.slice A191_3 ((rd_T103 l1_0 x5_2).f3).length c191_3)) (ds := []) L19' kZ rfl rfl ⟨(blk_cell BK187.out 0).trans rfl, (blk_cell BK187.out 1).trans rfl, (blk_cell BK187.out 2).trans rfl, (blk_cell BK188.out 0).trans rfl, (blk_cell BK188.out 1).trans rfl, ((HB.out.cell (World.block_lt_of_cell? w _ hw191_0)).trans hw191_0), ((HB.out.cell (World.block_lt_of_cell? w _ hw191_1)).trans hw191_1), ((HB.out.cell (World.block_lt_of_cell? w _ hw191_2)).trans hw191_2), ((HB.out.cell (World.block_lt_of_cell? w _ hw191_3)).trans hw191_3)⟩ (fun hHeld => ?_); refine with_tabW spec_LedgerOk.tab6 spec_LedgerOk.bits6 (fun HT_ HW_ => ?_)
      generalize wr.drew = w27 at BK187 BK188 HB HR191_3 hx191_0 hx191_1 hx191_2 hx191_3 hHeld ⊢; refine pure_ (i := 1) (N := some 31) (v := ?_) (a' := ?_) L20' rfl rfl (any_of HT_.out kZ) (fun _ _ _ h => h) (Or.inl ⟨by rfl, ?_⟩) ?_ ?_; rotate_left
      ·intro w'; go_simp; with_reducible rfl
      rotate_left
      ·simp only [Act.put, sZ1, sZ2, sZ3, i64_w, i32_w]; rfl
      refine pure_ (i := 3) (N := some 33) (v := ?_) (a' := ?_) L21' rfl rfl (any_of HT_.out kZ) (fun _ _ _ h => h) (Or.inl ⟨by rfl, ?_⟩) ?_ ?_; rotate_left
      ·intro w'; go_simp; with_reducible rfl
      rotate_left
      ·simp only [Act.put, sZ1, sZ2, sZ3, i64_w, i32_w]; rfl
      refine take_ (i := 0) (N := some 30) (v := ?_) (a' := ?_) L22' rfl rfl (take_ofW HT_.out HW_.out kZ) (fun _ _ _ h => h) (Or.inl ⟨by rfl, ?_⟩) hHeld ?_ ?_; rotate_left
      ·rintro w' ⟨s0, s1, s2, s3, s4, s5, s6, s7, s8⟩
       go_simp; with_reducible rfl
      rotate_left
      ·simp only [Act.put, sZ1, sZ2, sZ3, i64_w, i32_w]; rfl
      refine take_ (i := 2) (N := some 32) (v := ?_) (a' := ?_) L23' rfl rfl (take_ofW HT_.out HW_.out kZ) (fun _ _ _ h => h) (Or.inl ⟨by rfl, ?_⟩) hHeld ?_ ?_; rotate_left
      ·rintro w' ⟨s0, s1, s2, s3, s4, s5, s6, s7, s8⟩
       go_simp; with_reducible rfl
      rotate_left
      ·simp only [Act.put, sZ1, sZ2, sZ3, i64_w, i32_w]; rfl
      refine pure_ (i := 4) (N := some 34) (v := ?_) (a' := ?_) L24' rfl rfl (any_of HT_.out kZ) (fun _ _ _ h => h) (Or.inl ⟨by rfl, ?_⟩) ?_ ?_; rotate_left
      ·intro w'; go_simp; with_reducible rfl
      rotate_left
      ·simp only [Act.put, sZ1, sZ2, sZ3, i64_w, i32_w]; rfl
      refine take_ (i := 5) (N := some 35) (v := ?_) (a' := ?_) L25' rfl rfl (take_ofW HT_.out HW_.out kZ) (fun _ _ _ h => h) (Or.inl ⟨by rfl, ?_⟩) hHeld ?_ ?_; rotate_left
      ·rintro w' ⟨s0, s1, s2, s3, s4, s5, s6, s7, s8⟩
       go_simp; with_reducible rfl
      rotate_left
      ·simp only [Act.put, sZ1, sZ2, sZ3, i64_w, i32_w]; rfl
      refine one_ (i := 6) (N := some 36) L26' rfl rfl (one_of HT_.out kZ) (by decide) (fun K hK => ?_); refine goes_ Try.func110 kZ rfl #[.agg #[.slice A0_0 l0_0.length c0_0, .int .i64 a0_1, .int .i64 a0_2], .agg #[.int .i64 ((rd_T103 l1_0 x5_2).f0), .int .i64 ((rd_T103 l1_0 x5_2).f1), .string ((rd_T103 l1_0 x5_2).f2), .slice A191_3 ((rd_T103 l1_0 x5_2).f3).length c191_3]] (by rfl) rfl rfl tZA ?_
      with_reducible refine (spec_EntryOk.calls k2 _ _ l0_0 a0_1 a0_2 ((rd_T103 l1_0 x5_2).f0) ((rd_T103 l1_0 x5_2).f1) ((rd_T103 l1_0 x5_2).f2) _ _ ((rd_T103 l1_0 x5_2).f3) false _ ?side1 ?side2 ?side3 ?side4 A19.out).mono ?_
      (case side1 => repeat (first | exact (Kd.C_below HR0_0.out HB.out) | (with_reducible refine Kd.C_alloc ?_ _) | (with_reducible refine Kd.C_drewN ?_ _) | (with_reducible refine Kd.C_drew ?_)))
      (case side2 => exact HC0_0.out)
      (case side3 => repeat (first | exact (Kd.C_below HR191_3.out HB.out) | (with_reducible refine Kd.C_alloc ?_ _) | (with_reducible refine Kd.C_drewN ?_ _) | (with_reducible refine Kd.C_drew ?_)))
      (case side4 => exact HC191_3.out)
      rintro e w28 ⟨rfl, hb⟩
      refine ⟨_, rfl, ?_⟩; replace BK187 := aZ (blk_below (bkZ BK187.out) hb); replace BK188 := aZ (blk_below (bkZ BK188.out) hb); replace HB := aZ (below_step bZ hb); (try clear hb); (try clear hb2); (try clear hk); (try clear hi); refine hK.out _ _ ⟨(blk_cell BK187.out 0).trans rfl, (blk_cell BK187.out 1).trans rfl, (blk_cell BK187.out 2).trans rfl, (blk_cell BK188.out 0).trans rfl, (blk_cell BK188.out 1).trans rfl, ((HB.out.cell (World.block_lt_of_cell? w _ hw191_0)).trans hw191_0), ((HB.out.cell (World.block_lt_of_cell? w _ hw191_1)).trans hw191_1), ((HB.out.cell (World.block_lt_of_cell? w _ hw191_2)).trans hw191_2), ((HB.out.cell (World.block_lt_of_cell? w _ hw191_3)).trans hw191_3)⟩ (fun hHeld => ?_); clear hK K; refine norm_ (a' := ?_) ?_ ?_; rotate_left
      ·show Act.put _ (some 36) _ = _
       simp only [Act.put, sZ1, sZ2, sZ3, i64_w, i32_w]; rfl
      refine pure_ (i := 7) (N := some 37) (v := ?_) (a' := ?_) L27' rfl rfl (any_of HT_.out kZ) (fun _ _ _ h => h) (Or.inl ⟨by rfl, ?_⟩) ?_ ?_; rotate_left
      ·intro w'; go_simp; with_reducible rfl
      rotate_left
      ·simp only [Act.put, sZ1, sZ2, sZ3, i64_w, i32_w]; rfl
      refine done_ (done_of HT_.out kZ) ?_
      try go_wp2
      go_ret; exact ⟨tZC, bZ⟩
     subst c20; rw [if_pos rfl] at H; have H' := Aside0.mk H; clear H; have hnb21 := NB188_187.out; have hnc21 := NB187_188.out; obtain ⟨hcz22_0, hcz22_1, hfz22_0, hfz22_1⟩ := bc2 BK188.out
     try go_wp2
     replace BK187 := aZ (blk_drew BK187.out); replace BK188 := aZ (blk_drew BK188.out); replace HB := aZ (below_drew1 HB.out); have p191 : 0 ≤ (x5_2 : Int) := of_decide_eq_true tZE; have q191 : x5_2 < (l1_0.length : Int) := of_decide_eq_true tZE; obtain ⟨ad191, A191_3, c191_3, e191, hx191_0, hx191_1, hx191_2, hx191_3, hl191_3, hi191_3⟩ := at_T103 HR1_0.out x5_2 p191 q191; have hw191_3 := hx191_3; have hw191_2 := hx191_2; have hw191_1 := hx191_1; have hw191_0 := hx191_0; have hz191_3 := hx191_3
     cases e191
     replace hx191_0 := cZ HB hx191_0; replace hx191_1 := cZ HB hx191_1; replace hx191_2 := cZ HB hx191_2; replace hx191_3 := cZ HB hx191_3; have HR191_3 := Aside0.mk hi191_3; have HC191_3 := Aside0.mk hl191_3; clear hi191_3 hl191_3; replace p191 := eq_true p191; replace q191 := eq_true q191
     refine start_ (n := 8) (S := fun w' => w'.cell? ⟨gb187, 0, none⟩ = some (.slice A0_0 l0_0.length c0_0) ∧ w'.cell? ⟨gb187, 1, none⟩ = some (.int .i64 a0_1) ∧ w'.cell? ⟨gb187, 2, none⟩ = some (.int .i64 a0_2) ∧ w'.cell? ⟨gb188, 0, none⟩ = some (.slice (some ad191) l1_0.length c1_0) ∧ w'.cell? ⟨gb188, 1, none⟩ = some (.int .i64 a1_1) ∧ w'.cell? (ad191.add ((x5_2).toNat * 4)) = some (.int .i64 ((rd_T103 l1_0 x5_2).f0)) ∧ w'.cell? ⟨(ad191.add ((x5_2).toNat * 4)).block, (ad191.add ((x5_2).toNat * 4)).off + 1, none⟩ = some (.int .i64 ((rd_T103 l1_0 x5_2).f1)) ∧ w'.cell? ⟨(ad191.add ((x5_2).toNat * 4)).block, (ad191.add ((x5_2).toNat * 4)).off + 2, none⟩ = some (.string ((rd_T103 l1_0 x5_2).f2)) ∧ w'.cell? ⟨(ad191.add ((x5_2).toNat * 4)).block, (ad191.add ((x5_2).toNat * 4)).off + 3, none⟩ = some (.slice A191_3 ((rd_T103 l1_0 x5_2).f3).length c191_3)) (ds := []) L19' kZ rfl rfl ⟨(blk_cell BK187.out 0).trans rfl, (blk_cell BK187.out 1).trans rfl, (blk_cell BK187.out 2).trans rfl, (blk_cell BK188.out 0).trans rfl, (blk_cell BK188.out 1).trans rfl, ((HB.out.cell (World.block_lt_of_cell? w _ hw191_0)).trans hw191_0), ((HB.out.cell (World.block_lt_of_cell? w _ hw191_1)).trans hw191_1), ((HB.out.cell (World.block_lt_of_cell? w _ hw191_2)).trans hw191_2), ((HB.out.cell (World.block_lt_of_cell? w _ hw191_3)).trans hw191_3)⟩ (fun hHeld => ?_); refine with_tabW spec_LedgerOk.tab6 spec_LedgerOk.bits6 (fun HT_ HW_ => ?_)
     generalize wr.drew = w23 at BK187 BK188 HB HR191_3 hx191_0 hx191_1 hx191_2 hx191_3 hHeld ⊢; refine pure_ (i := 1) (N := some 31) (v := ?_) (a' := ?_) L20' rfl rfl (any_of HT_.out kZ) (fun _ _ _ h => h) (Or.inl ⟨by rfl, ?_⟩) ?_ ?_; rotate_left
     ·intro w'; go_simp; with_reducible rfl
     rotate_left
     ·simp only [Act.put, sZ1, sZ2, sZ3, i64_w, i32_w]; rfl
     refine pure_ (i := 3) (N := some 33) (v := ?_) (a' := ?_) L21' rfl rfl (any_of HT_.out kZ) (fun _ _ _ h => h) (Or.inl ⟨by rfl, ?_⟩) ?_ ?_; rotate_left
     ·intro w'; go_simp; with_reducible rfl
     rotate_left
     ·simp only [Act.put, sZ1, sZ2, sZ3, i64_w, i32_w]; rfl
     refine take_ (i := 0) (N := some 30) (v := ?_) (a' := ?_) L22' rfl rfl (take_ofW HT_.out HW_.out kZ) (fun _ _ _ h => h) (Or.inl ⟨by rfl, ?_⟩) hHeld ?_ ?_; rotate_left
     ·rintro w' ⟨s0, s1, s2, s3, s4, s5, s6, s7, s8⟩
      go_simp; with_reducible rfl
     rotate_left
     ·simp only [Act.put, sZ1, sZ2, sZ3, i64_w, i32_w]; rfl
     refine take_ (i := 2) (N := some 32) (v := ?_) (a' := ?_) L23' rfl rfl (take_ofW HT_.out HW_.out kZ) (fun _ _ _ h => h) (Or.inl ⟨by rfl, ?_⟩) hHeld ?_ ?_; rotate_left
     ·rintro w' ⟨s0, s1, s2, s3, s4, s5, s6, s7, s8⟩
      go_simp; with_reducible rfl
     rotate_left
     ·simp only [Act.put, sZ1, sZ2, sZ3, i64_w, i32_w]; rfl
     refine pure_ (i := 4) (N := some 34) (v := ?_) (a' := ?_) L24' rfl rfl (any_of HT_.out kZ) (fun _ _ _ h => h) (Or.inl ⟨by rfl, ?_⟩) ?_ ?_; rotate_left
     ·intro w'; go_simp; with_reducible rfl
     rotate_left
     ·simp only [Act.put, sZ1, sZ2, sZ3, i64_w, i32_w]; rfl
     refine take_ (i := 5) (N := some 35) (v := ?_) (a' := ?_) L25' rfl rfl (take_ofW HT_.out HW_.out kZ) (fun _ _ _ h => h) (Or.inl ⟨by rfl, ?_⟩) hHeld ?_ ?_; rotate_left
     ·rintro w' ⟨s0, s1, s2, s3, s4, s5, s6, s7, s8⟩
      go_simp; with_reducible rfl
     rotate_left
     ·simp only [Act.put, sZ1, sZ2, sZ3, i64_w, i32_w]; rfl
     refine one_ (i := 6) (N := some 36) L26' rfl rfl (one_of HT_.out kZ) (by decide) (fun K hK => ?_); refine goes_ Try.func110 kZ rfl #[.agg #[.slice A0_0 l0_0.length c0_0, .int .i64 a0_1, .int .i64 a0_2], .agg #[.int .i64 ((rd_T103 l1_0 x5_2).f0), .int .i64 ((rd_T103 l1_0 x5_2).f1), .string ((rd_T103 l1_0 x5_2).f2), .slice A191_3 ((rd_T103 l1_0 x5_2).f3).length c191_3]] (by rfl) rfl rfl tZA ?_
     with_reducible refine (spec_EntryOk.calls k2 _ _ l0_0 a0_1 a0_2 ((rd_T103 l1_0 x5_2).f0) ((rd_T103 l1_0 x5_2).f1) ((rd_T103 l1_0 x5_2).f2) _ _ ((rd_T103 l1_0 x5_2).f3) true _ ?side1 ?side2 ?side3 ?side4 A19.out).mono ?_
     (case side1 => repeat (first | exact (Kd.C_below HR0_0.out HB.out) | (with_reducible refine Kd.C_alloc ?_ _) | (with_reducible refine Kd.C_drewN ?_ _) | (with_reducible refine Kd.C_drew ?_)))
     (case side2 => exact HC0_0.out)
     (case side3 => repeat (first | exact (Kd.C_below HR191_3.out HB.out) | (with_reducible refine Kd.C_alloc ?_ _) | (with_reducible refine Kd.C_drewN ?_ _) | (with_reducible refine Kd.C_drew ?_)))
     (case side4 => exact HC191_3.out)
     rintro e w24 ⟨rfl, hb⟩
     refine ⟨_, rfl, ?_⟩; replace BK187 := aZ (blk_below (bkZ BK187.out) hb); replace BK188 := aZ (blk_below (bkZ BK188.out) hb); replace HB := aZ (below_step bZ hb); (try clear hb); (try clear hb2); (try clear hk); (try clear hi); refine hK.out _ _ ⟨(blk_cell BK187.out 0).trans rfl, (blk_cell BK187.out 1).trans rfl, (blk_cell BK187.out 2).trans rfl, (blk_cell BK188.out 0).trans rfl, (blk_cell BK188.out 1).trans rfl, ((HB.out.cell (World.block_lt_of_cell? w _ hw191_0)).trans hw191_0), ((HB.out.cell (World.block_lt_of_cell? w _ hw191_1)).trans hw191_1), ((HB.out.cell (World.block_lt_of_cell? w _ hw191_2)).trans hw191_2), ((HB.out.cell (World.block_lt_of_cell? w _ hw191_3)).trans hw191_3)⟩ (fun hHeld => ?_); clear hK K; refine norm_ (a' := ?_) ?_ ?_; rotate_left
     ·show Act.put _ (some 36) _ = _
      simp only [Act.put, sZ1, sZ2, sZ3, i64_w, i32_w]; rfl
     refine pure_ (i := 7) (N := some 37) (v := ?_) (a' := ?_) L27' rfl rfl (any_of HT_.out kZ) (fun _ _ _ h => h) (Or.inl ⟨by rfl, ?_⟩) ?_ ?_; rotate_left
     ·intro w'; go_simp; with_reducible rfl
     rotate_left
     ·simp only [Act.put, sZ1, sZ2, sZ3, i64_w, i32_w]; rfl
     refine done_ (done_of HT_.out kZ) ?_
     try go_wp2
     go_roundg k2
     case measure => have := HJ2.out; have := HK2.out; omega
     case rel => exact ⟨(wrap64 (x5_2 + 1)), tZB, H', ⟨by have := HJ2.out; have := HK2.out; omega⟩, ⟨bkZ BK187.out⟩, ⟨bkZ BK188.out⟩, ⟨bZ⟩⟩
end Go.Proofs.Ytmpknbdbichdiaa.PFnExactLedgerOk
