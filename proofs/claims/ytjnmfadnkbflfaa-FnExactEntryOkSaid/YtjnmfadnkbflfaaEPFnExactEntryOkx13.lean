import Derived.Test.YtjnmfadnkbflfaaEPFnExactEntryOkx0
import Derived.Test.YtjnmfadnkbflfaaEPFnExactEntryOkx1
import Derived.Test.YtjnmfadnkbflfaaEPFnExactEntryOkx5
import Derived.Test.YtjnmfadnkbflfaaEPFnExactEntryOkx6
import Derived.Test.YtjnmfadnkbflfaaEPFnExactEntryOkx11
import Derived.Test.YtjnmfadnkbflfaaEPFnExactEntryOkx12
import Derived.Test.YtjnmfadnkbflfaaESlimWords
namespace Go.Proofs.Ytjnmfadnkbflfaa.PFnExactEntryOk
open Go.Proofs.Ytjnmfadnkbflfaa.SlimWords
open Go.RowKit Go.Proofs.YtjnmfadnkbflfaaW.PrintWords Go.Proofs.YtjnmfadnkbflfaaW.PrintLast Go.Proofs.YtjnmfadnkbflfaaW.PrintMore Go.Proofs.Ytjnmfadnkbflfaa.MapWords Go.Proofs.Ytjnmfadnkbflfaa.IterWords Go.Proofs.Ytjnmfadnkbflfaa.MarkWords
attribute [local go_sem] max2_int min2_int max_two min_two max_three min_three max_four min_four
set_option linter.unusedVariables false
set_option linter.unusedSimpArgs false
private abbrev I' := true
private abbrev O' := false
private abbrev L0' : Array Bool := #[O',O',O',O',O',O']
private abbrev L1' : Array Bool := #[I',O',O',O',O',O']
private abbrev L2' : Array Bool := #[I',O',I',O',O',O']
private abbrev L3' : Array Bool := #[I',I',I',O',O',O']
def laws_FnExactEntryOk.f (k : Nat) (l0_0 : List (S185)) (a0_1 : Int) (a0_2 : Int) (a1_0 : Int) (a1_1 : Int) (a1_2 : ByteArray) (l1_3 : List (S191)) : Option (Bool) := (laws_szFrame.f k l0_0 a0_1 a0_2 1048576).bind fun t271 => (if t271 < 0 then (some true) else ((laws_szEntry.f a1_0 a1_1 a1_2 l1_3 t271).bind fun t272 => (if t272 < 0 then (some true) else ((laws_toFrame.f k l0_0 a0_1 a0_2).bind fun bt273 => ((laws_toEntry.f k a1_0 a1_1 a1_2 l1_3).bind fun bt278 => ((spec_EntryOk.f k bt273.1 bt273.2.1 bt273.2.2 bt278.1 bt278.2.1 bt278.2.2.1 bt278.2.2.2).bind fun t284 => ((laws_toFrame.f k l0_0 a0_1 a0_2).bind fun bt285 => ((laws_toEntry.f k a1_0 a1_1 a1_2 l1_3).bind fun bt291 => ((impl_EntryOk.f k bt285.1 bt285.2.1 bt285.2.2 bt291.1 bt291.2.1 bt291.2.2.1 bt291.2.2.2).bind fun t298 => (if (t298 != t284) = true then (some false) else ((laws_toFrame.f k l0_0 a0_1 a0_2).bind fun bt299 => ((laws_eqFrame.f k bt285.1 bt285.2.1 bt285.2.2 bt299.1 bt299.2.1 bt299.2.2).bind fun t304 => (if t304 = true then ((laws_toEntry.f k a1_0 a1_1 a1_2 l1_3).bind fun bt305 => ((laws_eqEntry.f k bt291.1 bt291.2.1 bt291.2.2.1 bt291.2.2.2 bt305.1 bt305.2.1 bt305.2.2.1 bt305.2.2.2).bind fun t311 => (if t311 = true then (some true) else (some false)))) else (some false))))))))))))))
theorem laws_FnExactEntryOk.mono : ∀ a0 a1 a2 a3 a4 a5 a6 k, LeO (laws_FnExactEntryOk.f k a0 a1 a2 a3 a4 a5 a6) (laws_FnExactEntryOk.f (k + 1) a0 a1 a2 a3 a4 a5 a6) := by
 intro a0 a1 a2 a3 a4 a5 a6 k
 unfold laws_FnExactEntryOk.f
 repeat' first
     | (with_reducible exact impl_EntryOk.mono _ _ _ _ _ _ _ _)
     | (with_reducible exact laws_eqEntry.mono _ _ _ _ _ _ _ _ _)
     | (with_reducible exact laws_eqFrame.mono _ _ _ _ _ _ _)
     | (with_reducible exact laws_szFrame.mono _ _ _ _ _)
     | (with_reducible exact laws_toEntry.mono _ _ _ _ _)
     | (with_reducible exact laws_toFrame.mono _ _ _ _)
     | (with_reducible exact spec_EntryOk.mono _ _ _ _ _ _ _ _)
     | (with_reducible exact LeO.refl _)
     | (with_reducible exact LeO.none _)
     | (with_reducible refine LeO.ite ?_ ?_)
     | (with_reducible refine LeO.bind ?_ (fun _ => ?_))
     | exact impl_EntryOk.mono _ _ _ _ _ _ _ _
     | exact laws_eqEntry.mono _ _ _ _ _ _ _ _ _
     | exact laws_eqFrame.mono _ _ _ _ _ _ _
     | exact laws_szFrame.mono _ _ _ _ _
     | exact laws_toEntry.mono _ _ _ _ _
     | exact laws_toFrame.mono _ _ _ _
     | exact spec_EntryOk.mono _ _ _ _ _ _ _ _
     | exact LeO.none _
     | refine LeO.ite ?_ ?_
     | refine LeO.bind ?_ (fun _ => ?_)
set_option maxHeartbeats 8000000 in
set_option maxRecDepth 100000 in
theorem laws_FnExactEntryOk.calls (k : Nat) (A0_0 : Option Addr) (c0_0 : Nat) (l0_0 : List (S185)) (a0_1 : Int) (a0_2 : Int) (a1_0 : Int) (a1_1 : Int) (a1_2 : ByteArray) (A1_3 : Option Addr) (c1_3 : Nat) (l1_3 : List (S191)) (r : Bool) (w : World) (hr0_0 : Kd.C k185 w A0_0 l0_0.length l0_0) (hc0_0 : l0_0.length ≤ c0_0) (hr1_3 : Kd.C k191 w A1_3 l1_3.length l1_3) (hc1_3 : l1_3.length ≤ c1_3) (h : laws_FnExactEntryOk.f k l0_0 a0_1 a0_2 a1_0 a1_1 a1_2 l1_3 = some r) :
    Calls Try.prog 3 #[.agg #[.slice A0_0 l0_0.length c0_0, .int .i64 a0_1, .int .i64 a0_2], .agg #[.int .i64 a1_0, .int .i64 a1_1, .string a1_2, .slice A1_3 l1_3.length c1_3]] w fun e w' => e = .returned (.bool r) ∧ Below w.heap.size w w' := by
 have hu24 := Try.underlying24
 have hu27 := Try.underlying27
 have hu33 := Try.underlying33
 have hu37 := Try.underlying37
 have HR0_0 := Aside0.mk hr0_0
 have HC0_0 := Aside0.mk hc0_0
 clear hr0_0 hc0_0
 have HR1_3 := Aside0.mk hr1_3
 have HC1_3 := Aside0.mk hc1_3
 clear hr1_3 hc1_3
 have HB := aZ (Below.refl w.heap.size w)
 have H : ((laws_szFrame.f k l0_0 a0_1 a0_2 1048576).bind fun t271 => (if t271 < 0 then (some true) else ((laws_szEntry.f a1_0 a1_1 a1_2 l1_3 t271).bind fun t272 => (if t272 < 0 then (some true) else ((laws_toFrame.f k l0_0 a0_1 a0_2).bind fun bt273 => ((laws_toEntry.f k a1_0 a1_1 a1_2 l1_3).bind fun bt278 => ((spec_EntryOk.f k bt273.1 bt273.2.1 bt273.2.2 bt278.1 bt278.2.1 bt278.2.2.1 bt278.2.2.2).bind fun t284 => ((laws_toFrame.f k l0_0 a0_1 a0_2).bind fun bt285 => ((laws_toEntry.f k a1_0 a1_1 a1_2 l1_3).bind fun bt291 => ((impl_EntryOk.f k bt285.1 bt285.2.1 bt285.2.2 bt291.1 bt291.2.1 bt291.2.2.1 bt291.2.2.2).bind fun t298 => (if (t298 != t284) = true then (some false) else ((laws_toFrame.f k l0_0 a0_1 a0_2).bind fun bt299 => ((laws_eqFrame.f k bt285.1 bt285.2.1 bt285.2.2 bt299.1 bt299.2.1 bt299.2.2).bind fun t304 => (if t304 = true then ((laws_toEntry.f k a1_0 a1_1 a1_2 l1_3).bind fun bt305 => ((laws_eqEntry.f k bt291.1 bt291.2.1 bt291.2.2.1 bt291.2.2.2 bt305.1 bt305.2.1 bt305.2.2.1 bt305.2.2.2).bind fun t311 => (if t311 = true then (some true) else (some false)))) else (some false))))))))))))))) = some r := h
 clear h
 replace H := Option.bind_eq_some_iff.mp H
 obtain ⟨t271, A30, H⟩ := H
 replace H : (if t271 < 0 then (some true) else ((laws_szEntry.f a1_0 a1_1 a1_2 l1_3 t271).bind fun t272 => (if t272 < 0 then (some true) else ((laws_toFrame.f k l0_0 a0_1 a0_2).bind fun bt273 => ((laws_toEntry.f k a1_0 a1_1 a1_2 l1_3).bind fun bt278 => ((spec_EntryOk.f k bt273.1 bt273.2.1 bt273.2.2 bt278.1 bt278.2.1 bt278.2.2.1 bt278.2.2.2).bind fun t284 => ((laws_toFrame.f k l0_0 a0_1 a0_2).bind fun bt285 => ((laws_toEntry.f k a1_0 a1_1 a1_2 l1_3).bind fun bt291 => ((impl_EntryOk.f k bt285.1 bt285.2.1 bt285.2.2 bt291.1 bt291.2.1 bt291.2.2.1 bt291.2.2.2).bind fun t298 => (if (t298 != t284) = true then (some false) else ((laws_toFrame.f k l0_0 a0_1 a0_2).bind fun bt299 => ((laws_eqFrame.f k bt285.1 bt285.2.1 bt285.2.2 bt299.1 bt299.2.1 bt299.2.2).bind fun t304 => (if t304 = true then ((laws_toEntry.f k a1_0 a1_1 a1_2 l1_3).bind fun bt305 => ((laws_eqEntry.f k bt291.1 bt291.2.1 bt291.2.2.1 bt291.2.2.2 bt305.1 bt305.2.1 bt305.2.2.1 bt305.2.2.2).bind fun t311 => (if t311 = true then (some true) else (some false)))) else (some false)))))))))))))) = some r := H
 have A3 := Aside0.mk A30
 clear A30
 by_cases c4 : t271 < 0
 ·rw [if_pos c4] at H
  have c4b0 := decide_eq_true c4
  clear c4
  obtain rfl := Option.some.inj H
  go_enter Try.func3, Try.ntmps3
  go_wp2_with (first | ((with_reducible refine gate_dst (N := 2) rfl ?_); refine box_event ?hg (N := 2) ?hd (cs := #[.slice A0_0 l0_0.length c0_0, .int .i64 a0_1, .int .i64 a0_2]) (t := 24) ?hr ?_; (case hd => rfl); (case hg => rfl); (case hr => first | (go_simp; done) | (go_simp; rfl)); intro gb269 hg w5 hbox hb; have BK269 := aZ (hbox); have GW269 := aZ ((by rw [hg]; exact (below_size (lZB HB.out)) : w.heap.size ≤ gb269)); have GE269 := aZ ((by rw [hg]; exact (below_size (lZB HB.out)) : w.heap.size ≤ gb269)); replace HB := aZ (below_step (lZB HB.out) hb); clear hb hbox hg) | ((with_reducible refine gate_dst (N := 3) rfl ?_); refine box_event ?hg (N := 3) ?hd (cs := #[.int .i64 a1_0, .int .i64 a1_1, .string a1_2, .slice A1_3 l1_3.length c1_3]) (t := 27) ?hr ?_; (case hd => rfl); (case hg => rfl); (case hr => first | (go_simp; done) | (go_simp; rfl)); intro gb270 hg w6 hbox hb; have BK270 := aZ (hbox); have GW270 := aZ ((by rw [hg]; exact (below_size bZ) : w.heap.size ≤ gb270)); have GE270 := aZ ((by rw [hg]; exact (below_size bZ) : w.heap.size ≤ gb270)); replace HB := aZ (below_step bZ hb); have NB269_270 := aZ ((by rw [hg]; exact Nat.ne_of_lt (blk_lt (bkZ BK269.out)) : gb269 ≠ gb270)); have NB270_269 := aZ ((by rw [hg]; exact Nat.ne_of_gt (blk_lt (bkZ BK269.out)) : gb270 ≠ gb269)); replace BK269 := aZ (blk_below (bkZ BK269.out) hb); clear hb hbox hg; have hnb7 := NB269_270.out; have hnc7 := NB270_269.out; have hcz8_0 : w6.cell? ⟨gb269, 0, none⟩ = some (.slice A0_0 l0_0.length c0_0) := (blk_cell BK269.out 0).trans rfl; have hcz8_1 : w6.cell? ⟨gb269, 1, none⟩ = some (.int .i64 a0_1) := (blk_cell BK269.out 1).trans rfl; have hcz8_2 : w6.cell? ⟨gb269, 2, none⟩ = some (.int .i64 a0_2) := (blk_cell BK269.out 2).trans rfl; have hfz8_0 := blk_frozen BK269.out 0; have hfz8_1 := blk_frozen BK269.out 1; have hfz8_2 := blk_frozen BK269.out 2) | ((with_reducible refine gate_callee (f := 14) rfl ?_); refine goesL_ (some 12) rfl rfl Try.func14 kZ rfl #[.agg #[.slice A0_0 l0_0.length c0_0, .int .i64 a0_1, .int .i64 a0_2], .int .i64 1048576] rfl tZA ?_; (with_reducible refine (laws_szFrame.calls k _ _ l0_0 a0_1 a0_2 1048576 t271 _ ?side1 ?side2 A3.out).mono ?_); (case side1 => repeat (first | exact (Kd.C_below HR0_0.out HB.out) | (with_reducible refine Kd.C_alloc ?_ _) | (with_reducible refine Kd.C_drewN ?_ _) | (with_reducible refine Kd.C_drew ?_))); (case side2 => exact HC0_0.out); rintro e w9 ⟨rfl, hb⟩; refine ⟨_, rfl, ?_⟩; replace BK269 := aZ (blk_below (bkZ BK269.out) hb); replace BK270 := aZ (blk_below (bkZ BK270.out) hb); replace HB := aZ (below_step bZ hb); (try clear hb); (try clear hb2); (try clear hk); (try clear hi)))
  go_ret
  exact ⟨tZC, bZ⟩
 rw [if_neg c4] at H
 have c4b0 := decide_eq_false c4
 clear c4
 replace H := Option.bind_eq_some_iff.mp H
 obtain ⟨t272, A100, H⟩ := H
 replace H : (if t272 < 0 then (some true) else ((laws_toFrame.f k l0_0 a0_1 a0_2).bind fun bt273 => ((laws_toEntry.f k a1_0 a1_1 a1_2 l1_3).bind fun bt278 => ((spec_EntryOk.f k bt273.1 bt273.2.1 bt273.2.2 bt278.1 bt278.2.1 bt278.2.2.1 bt278.2.2.2).bind fun t284 => ((laws_toFrame.f k l0_0 a0_1 a0_2).bind fun bt285 => ((laws_toEntry.f k a1_0 a1_1 a1_2 l1_3).bind fun bt291 => ((impl_EntryOk.f k bt285.1 bt285.2.1 bt285.2.2 bt291.1 bt291.2.1 bt291.2.2.1 bt291.2.2.2).bind fun t298 => (if (t298 != t284) = true then (some false) else ((laws_toFrame.f k l0_0 a0_1 a0_2).bind fun bt299 => ((laws_eqFrame.f k bt285.1 bt285.2.1 bt285.2.2 bt299.1 bt299.2.1 bt299.2.2).bind fun t304 => (if t304 = true then ((laws_toEntry.f k a1_0 a1_1 a1_2 l1_3).bind fun bt305 => ((laws_eqEntry.f k bt291.1 bt291.2.1 bt291.2.2.1 bt291.2.2.2 bt305.1 bt305.2.1 bt305.2.2.1 bt305.2.2.2).bind fun t311 => (if t311 = true then (some true) else (some false)))) else (some false)))))))))))) = some r := H
 have A10 := Aside0.mk A100
 clear A100
 by_cases c11 : t272 < 0
 ·rw [if_pos c11] at H
  have c11b0 := decide_eq_true c11
  clear c11
  obtain rfl := Option.some.inj H
  go_enter Try.func3, Try.ntmps3
  go_wp2_with (first | ((with_reducible refine gate_dst (N := 2) rfl ?_); refine box_event ?hg (N := 2) ?hd (cs := #[.slice A0_0 l0_0.length c0_0, .int .i64 a0_1, .int .i64 a0_2]) (t := 24) ?hr ?_; (case hd => rfl); (case hg => rfl); (case hr => first | (go_simp; done) | (go_simp; rfl)); intro gb269 hg w12 hbox hb; have BK269 := aZ (hbox); have GW269 := aZ ((by rw [hg]; exact (below_size (lZB HB.out)) : w.heap.size ≤ gb269)); have GE269 := aZ ((by rw [hg]; exact (below_size (lZB HB.out)) : w.heap.size ≤ gb269)); replace HB := aZ (below_step (lZB HB.out) hb); clear hb hbox hg) | ((with_reducible refine gate_dst (N := 3) rfl ?_); refine box_event ?hg (N := 3) ?hd (cs := #[.int .i64 a1_0, .int .i64 a1_1, .string a1_2, .slice A1_3 l1_3.length c1_3]) (t := 27) ?hr ?_; (case hd => rfl); (case hg => rfl); (case hr => first | (go_simp; done) | (go_simp; rfl)); intro gb270 hg w13 hbox hb; have BK270 := aZ (hbox); have GW270 := aZ ((by rw [hg]; exact (below_size bZ) : w.heap.size ≤ gb270)); have GE270 := aZ ((by rw [hg]; exact (below_size bZ) : w.heap.size ≤ gb270)); replace HB := aZ (below_step bZ hb); have NB269_270 := aZ ((by rw [hg]; exact Nat.ne_of_lt (blk_lt (bkZ BK269.out)) : gb269 ≠ gb270)); have NB270_269 := aZ ((by rw [hg]; exact Nat.ne_of_gt (blk_lt (bkZ BK269.out)) : gb270 ≠ gb269)); replace BK269 := aZ (blk_below (bkZ BK269.out) hb); clear hb hbox hg; have hnb14 := NB269_270.out; have hnc14 := NB270_269.out; have hcz15_0 : w13.cell? ⟨gb269, 0, none⟩ = some (.slice A0_0 l0_0.length c0_0) := (blk_cell BK269.out 0).trans rfl; have hcz15_1 : w13.cell? ⟨gb269, 1, none⟩ = some (.int .i64 a0_1) := (blk_cell BK269.out 1).trans rfl; have hcz15_2 : w13.cell? ⟨gb269, 2, none⟩ = some (.int .i64 a0_2) := (blk_cell BK269.out 2).trans rfl; have hfz15_0 := blk_frozen BK269.out 0; have hfz15_1 := blk_frozen BK269.out 1; have hfz15_2 := blk_frozen BK269.out 2) | ((with_reducible refine gate_callee (f := 14) rfl ?_); refine goesL_ (some 12) rfl rfl Try.func14 kZ rfl #[.agg #[.slice A0_0 l0_0.length c0_0, .int .i64 a0_1, .int .i64 a0_2], .int .i64 1048576] rfl tZA ?_; (with_reducible refine (laws_szFrame.calls k _ _ l0_0 a0_1 a0_2 1048576 t271 _ ?side1 ?side2 A3.out).mono ?_); (case side1 => repeat (first | exact (Kd.C_below HR0_0.out HB.out) | (with_reducible refine Kd.C_alloc ?_ _) | (with_reducible refine Kd.C_drewN ?_ _) | (with_reducible refine Kd.C_drew ?_))); (case side2 => exact HC0_0.out); rintro e w16 ⟨rfl, hb⟩; refine ⟨_, rfl, ?_⟩; replace BK269 := aZ (blk_below (bkZ BK269.out) hb); replace BK270 := aZ (blk_below (bkZ BK270.out) hb); replace HB := aZ (below_step bZ hb); (try clear hb); (try clear hb2); (try clear hk); (try clear hi); have hcz17_0 : w16.cell? ⟨gb270, 0, none⟩ = some (.int .i64 a1_0) := (blk_cell BK270.out 0).trans rfl; have hcz17_1 : w16.cell? ⟨gb270, 1, none⟩ = some (.int .i64 a1_1) := (blk_cell BK270.out 1).trans rfl; have hcz17_2 : w16.cell? ⟨gb270, 2, none⟩ = some (.string a1_2) := (blk_cell BK270.out 2).trans rfl; have hcz17_3 : w16.cell? ⟨gb270, 3, none⟩ = some (.slice A1_3 l1_3.length c1_3) := (blk_cell BK270.out 3).trans rfl; have hfz17_0 := blk_frozen BK270.out 0; have hfz17_1 := blk_frozen BK270.out 1; have hfz17_2 := blk_frozen BK270.out 2; have hfz17_3 := blk_frozen BK270.out 3) | ((with_reducible refine gate_callee (f := 15) rfl ?_); refine goesL_ (some 17) rfl rfl Try.func15 kZ rfl #[.agg #[.int .i64 a1_0, .int .i64 a1_1, .string a1_2, .slice A1_3 l1_3.length c1_3], .int .i64 t271] rfl tZA ?_; (with_reducible refine (laws_szEntry.calls a1_0 a1_1 a1_2 _ _ l1_3 t271 t272 _ ?side1 ?side2 A10.out).mono ?_); (case side1 => repeat (first | exact (Kd.C_below HR1_3.out HB.out) | (with_reducible refine Kd.C_alloc ?_ _) | (with_reducible refine Kd.C_drewN ?_ _) | (with_reducible refine Kd.C_drew ?_))); (case side2 => exact HC1_3.out); rintro e w18 ⟨rfl, hb⟩; refine ⟨_, rfl, ?_⟩; replace BK269 := aZ (blk_below (bkZ BK269.out) hb); replace BK270 := aZ (blk_below (bkZ BK270.out) hb); replace HB := aZ (below_step bZ hb); (try clear hb); (try clear hb2); (try clear hk); (try clear hi)))
  go_ret
  exact ⟨tZC, bZ⟩
 rw [if_neg c11] at H
 have c11b0 := decide_eq_false c11
 clear c11
 replace H := Option.bind_eq_some_iff.mp H
 obtain ⟨⟨t273, t276, t277⟩, A190, H⟩ := H
 replace H : ((laws_toEntry.f k a1_0 a1_1 a1_2 l1_3).bind fun bt278 => ((spec_EntryOk.f k t273 t276 t277 bt278.1 bt278.2.1 bt278.2.2.1 bt278.2.2.2).bind fun t284 => ((laws_toFrame.f k l0_0 a0_1 a0_2).bind fun bt285 => ((laws_toEntry.f k a1_0 a1_1 a1_2 l1_3).bind fun bt291 => ((impl_EntryOk.f k bt285.1 bt285.2.1 bt285.2.2 bt291.1 bt291.2.1 bt291.2.2.1 bt291.2.2.2).bind fun t298 => (if (t298 != t284) = true then (some false) else ((laws_toFrame.f k l0_0 a0_1 a0_2).bind fun bt299 => ((laws_eqFrame.f k bt285.1 bt285.2.1 bt285.2.2 bt299.1 bt299.2.1 bt299.2.2).bind fun t304 => (if t304 = true then ((laws_toEntry.f k a1_0 a1_1 a1_2 l1_3).bind fun bt305 => ((laws_eqEntry.f k bt291.1 bt291.2.1 bt291.2.2.1 bt291.2.2.2 bt305.1 bt305.2.1 bt305.2.2.1 bt305.2.2.2).bind fun t311 => (if t311 = true then (some true) else (some false)))) else (some false)))))))))) = some r := H
 have A19 := Aside0.mk A190
 clear A190
 replace H := Option.bind_eq_some_iff.mp H
 obtain ⟨⟨t278, t279, t280, t281⟩, A200, H⟩ := H
 replace H : ((spec_EntryOk.f k t273 t276 t277 t278 t279 t280 t281).bind fun t284 => ((laws_toFrame.f k l0_0 a0_1 a0_2).bind fun bt285 => ((laws_toEntry.f k a1_0 a1_1 a1_2 l1_3).bind fun bt291 => ((impl_EntryOk.f k bt285.1 bt285.2.1 bt285.2.2 bt291.1 bt291.2.1 bt291.2.2.1 bt291.2.2.2).bind fun t298 => (if (t298 != t284) = true then (some false) else ((laws_toFrame.f k l0_0 a0_1 a0_2).bind fun bt299 => ((laws_eqFrame.f k bt285.1 bt285.2.1 bt285.2.2 bt299.1 bt299.2.1 bt299.2.2).bind fun t304 => (if t304 = true then ((laws_toEntry.f k a1_0 a1_1 a1_2 l1_3).bind fun bt305 => ((laws_eqEntry.f k bt291.1 bt291.2.1 bt291.2.2.1 bt291.2.2.2 bt305.1 bt305.2.1 bt305.2.2.1 bt305.2.2.2).bind fun t311 => (if t311 = true then (some true) else (some false)))) else (some false))))))))) = some r := H
 have A20 := Aside0.mk A200
 clear A200
 replace H := Option.bind_eq_some_iff.mp H
 obtain ⟨t284, A210, H⟩ := H
 replace H : ((laws_toFrame.f k l0_0 a0_1 a0_2).bind fun bt285 => ((laws_toEntry.f k a1_0 a1_1 a1_2 l1_3).bind fun bt291 => ((impl_EntryOk.f k bt285.1 bt285.2.1 bt285.2.2 bt291.1 bt291.2.1 bt291.2.2.1 bt291.2.2.2).bind fun t298 => (if (t298 != t284) = true then (some false) else ((laws_toFrame.f k l0_0 a0_1 a0_2).bind fun bt299 => ((laws_eqFrame.f k bt285.1 bt285.2.1 bt285.2.2 bt299.1 bt299.2.1 bt299.2.2).bind fun t304 => (if t304 = true then ((laws_toEntry.f k a1_0 a1_1 a1_2 l1_3).bind fun bt305 => ((laws_eqEntry.f k bt291.1 bt291.2.1 bt291.2.2.1 bt291.2.2.2 bt305.1 bt305.2.1 bt305.2.2.1 bt305.2.2.2).bind fun t311 => (if t311 = true then (some true) else (some false)))) else (some false)))))))) = some r := H
 have A21 := Aside0.mk A210
 clear A210
 replace H := Option.bind_eq_some_iff.mp H
 obtain ⟨⟨t285, t288, t289⟩, A220, H⟩ := H
 replace H : ((laws_toEntry.f k a1_0 a1_1 a1_2 l1_3).bind fun bt291 => ((impl_EntryOk.f k t285 t288 t289 bt291.1 bt291.2.1 bt291.2.2.1 bt291.2.2.2).bind fun t298 => (if (t298 != t284) = true then (some false) else ((laws_toFrame.f k l0_0 a0_1 a0_2).bind fun bt299 => ((laws_eqFrame.f k t285 t288 t289 bt299.1 bt299.2.1 bt299.2.2).bind fun t304 => (if t304 = true then ((laws_toEntry.f k a1_0 a1_1 a1_2 l1_3).bind fun bt305 => ((laws_eqEntry.f k bt291.1 bt291.2.1 bt291.2.2.1 bt291.2.2.2 bt305.1 bt305.2.1 bt305.2.2.1 bt305.2.2.2).bind fun t311 => (if t311 = true then (some true) else (some false)))) else (some false))))))) = some r := H
 have A22 := Aside0.mk A220
 clear A220
 replace H := Option.bind_eq_some_iff.mp H
 obtain ⟨⟨t291, t292, t293, t294⟩, A230, H⟩ := H
 replace H : ((impl_EntryOk.f k t285 t288 t289 t291 t292 t293 t294).bind fun t298 => (if (t298 != t284) = true then (some false) else ((laws_toFrame.f k l0_0 a0_1 a0_2).bind fun bt299 => ((laws_eqFrame.f k t285 t288 t289 bt299.1 bt299.2.1 bt299.2.2).bind fun t304 => (if t304 = true then ((laws_toEntry.f k a1_0 a1_1 a1_2 l1_3).bind fun bt305 => ((laws_eqEntry.f k t291 t292 t293 t294 bt305.1 bt305.2.1 bt305.2.2.1 bt305.2.2.2).bind fun t311 => (if t311 = true then (some true) else (some false)))) else (some false)))))) = some r := H
 have A23 := Aside0.mk A230
 clear A230
 replace H := Option.bind_eq_some_iff.mp H
 obtain ⟨t298, A240, H⟩ := H
 replace H : (if (t298 != t284) = true then (some false) else ((laws_toFrame.f k l0_0 a0_1 a0_2).bind fun bt299 => ((laws_eqFrame.f k t285 t288 t289 bt299.1 bt299.2.1 bt299.2.2).bind fun t304 => (if t304 = true then ((laws_toEntry.f k a1_0 a1_1 a1_2 l1_3).bind fun bt305 => ((laws_eqEntry.f k t291 t292 t293 t294 bt305.1 bt305.2.1 bt305.2.2.1 bt305.2.2.2).bind fun t311 => (if t311 = true then (some true) else (some false)))) else (some false))))) = some r := H
 have A24 := Aside0.mk A240
 clear A240
 by_cases c25 : (t298 != t284) = true
 ·rw [if_pos c25] at H
  have c25b0 : (t298 != t284) = true := c25
  (try (have c25b1 : decide (t298 = t284) = false := by simpa using c25))
  (try (have c25b2 : (t298 == t284) = false := by simpa using c25))
  (try (have c25b3 : ¬ (t298 = t284) := by simpa using c25))
  clear c25
  obtain rfl := Option.some.inj H
  go_enter Try.func3, Try.ntmps3
  try go_wp2_with (first | ((with_reducible refine gate_dst (N := 2) rfl ?_); refine box_event ?hg (N := 2) ?hd (cs := #[.slice A0_0 l0_0.length c0_0, .int .i64 a0_1, .int .i64 a0_2]) (t := 24) ?hr ?_; (case hd => rfl); (case hg => rfl); (case hr => first | (go_simp; done) | (go_simp; rfl)); intro gb269 hg w26 hbox hb; have BK269 := aZ (hbox); have GW269 := aZ ((by rw [hg]; exact (below_size (lZB HB.out)) : w.heap.size ≤ gb269)); have GE269 := aZ ((by rw [hg]; exact (below_size (lZB HB.out)) : w.heap.size ≤ gb269)); replace HB := aZ (below_step (lZB HB.out) hb); clear hb hbox hg) | ((with_reducible refine gate_dst (N := 3) rfl ?_); refine box_event ?hg (N := 3) ?hd (cs := #[.int .i64 a1_0, .int .i64 a1_1, .string a1_2, .slice A1_3 l1_3.length c1_3]) (t := 27) ?hr ?_; (case hd => rfl); (case hg => rfl); (case hr => first | (go_simp; done) | (go_simp; rfl)); intro gb270 hg w27 hbox hb; have BK270 := aZ (hbox); have GW270 := aZ ((by rw [hg]; exact (below_size bZ) : w.heap.size ≤ gb270)); have GE270 := aZ ((by rw [hg]; exact (below_size bZ) : w.heap.size ≤ gb270)); replace HB := aZ (below_step bZ hb); have NB269_270 := aZ ((by rw [hg]; exact Nat.ne_of_lt (blk_lt (bkZ BK269.out)) : gb269 ≠ gb270)); have NB270_269 := aZ ((by rw [hg]; exact Nat.ne_of_gt (blk_lt (bkZ BK269.out)) : gb270 ≠ gb269)); replace BK269 := aZ (blk_below (bkZ BK269.out) hb); clear hb hbox hg; have hnb28 := NB269_270.out; have hnc28 := NB270_269.out; have hcz29_0 : w27.cell? ⟨gb269, 0, none⟩ = some (.slice A0_0 l0_0.length c0_0) := (blk_cell BK269.out 0).trans rfl; have hcz29_1 : w27.cell? ⟨gb269, 1, none⟩ = some (.int .i64 a0_1) := (blk_cell BK269.out 1).trans rfl; have hcz29_2 : w27.cell? ⟨gb269, 2, none⟩ = some (.int .i64 a0_2) := (blk_cell BK269.out 2).trans rfl; have hfz29_0 := blk_frozen BK269.out 0; have hfz29_1 := blk_frozen BK269.out 1; have hfz29_2 := blk_frozen BK269.out 2) | ((with_reducible refine gate_callee (f := 14) rfl ?_); refine goesL_ (some 12) rfl rfl Try.func14 kZ rfl #[.agg #[.slice A0_0 l0_0.length c0_0, .int .i64 a0_1, .int .i64 a0_2], .int .i64 1048576] rfl tZA ?_; (with_reducible refine (laws_szFrame.calls k _ _ l0_0 a0_1 a0_2 1048576 t271 _ ?side1 ?side2 A3.out).mono ?_); (case side1 => repeat (first | exact (Kd.C_below HR0_0.out HB.out) | (with_reducible refine Kd.C_alloc ?_ _) | (with_reducible refine Kd.C_drewN ?_ _) | (with_reducible refine Kd.C_drew ?_))); (case side2 => exact HC0_0.out); rintro e w30 ⟨rfl, hb⟩; refine ⟨_, rfl, ?_⟩; replace BK269 := aZ (blk_below (bkZ BK269.out) hb); replace BK270 := aZ (blk_below (bkZ BK270.out) hb); replace HB := aZ (below_step bZ hb); (try clear hb); (try clear hb2); (try clear hk); (try clear hi); have hcz31_0 : w30.cell? ⟨gb270, 0, none⟩ = some (.int .i64 a1_0) := (blk_cell BK270.out 0).trans rfl; have hcz31_1 : w30.cell? ⟨gb270, 1, none⟩ = some (.int .i64 a1_1) := (blk_cell BK270.out 1).trans rfl; have hcz31_2 : w30.cell? ⟨gb270, 2, none⟩ = some (.string a1_2) := (blk_cell BK270.out 2).trans rfl; have hcz31_3 : w30.cell? ⟨gb270, 3, none⟩ = some (.slice A1_3 l1_3.length c1_3) := (blk_cell BK270.out 3).trans rfl; have hfz31_0 := blk_frozen BK270.out 0; have hfz31_1 := blk_frozen BK270.out 1; have hfz31_2 := blk_frozen BK270.out 2; have hfz31_3 := blk_frozen BK270.out 3) | ((with_reducible refine gate_callee (f := 15) rfl ?_); refine goesL_ (some 17) rfl rfl Try.func15 kZ rfl #[.agg #[.int .i64 a1_0, .int .i64 a1_1, .string a1_2, .slice A1_3 l1_3.length c1_3], .int .i64 t271] rfl tZA ?_; (with_reducible refine (laws_szEntry.calls a1_0 a1_1 a1_2 _ _ l1_3 t271 t272 _ ?side1 ?side2 A10.out).mono ?_); (case side1 => repeat (first | exact (Kd.C_below HR1_3.out HB.out) | (with_reducible refine Kd.C_alloc ?_ _) | (with_reducible refine Kd.C_drewN ?_ _) | (with_reducible refine Kd.C_drew ?_))); (case side2 => exact HC1_3.out); rintro e w32 ⟨rfl, hb⟩; refine ⟨_, rfl, ?_⟩; replace BK269 := aZ (blk_below (bkZ BK269.out) hb); replace BK270 := aZ (blk_below (bkZ BK270.out) hb); replace HB := aZ (below_step bZ hb); (try clear hb); (try clear hb2); (try clear hk); (try clear hi)))
  replace BK269 := aZ (blk_drew BK269.out)
  replace BK270 := aZ (blk_drew BK270.out)
  replace HB := aZ (below_drew1 HB.out)
  refine start_ (n := 6) (S := fun w' => w'.cell? ⟨gb269, 0, none⟩ = some (.slice A0_0 l0_0.length c0_0) ∧ w'.cell? ⟨gb269, 1, none⟩ = some (.int .i64 a0_1) ∧ w'.cell? ⟨gb269, 2, none⟩ = some (.int .i64 a0_2) ∧ w'.cell? ⟨gb270, 0, none⟩ = some (.int .i64 a1_0) ∧ w'.cell? ⟨gb270, 1, none⟩ = some (.int .i64 a1_1) ∧ w'.cell? ⟨gb270, 2, none⟩ = some (.string a1_2) ∧ w'.cell? ⟨gb270, 3, none⟩ = some (.slice A1_3 l1_3.length c1_3)) (ds := []) L0' kZ rfl rfl ⟨(blk_cell BK269.out 0).trans rfl, (blk_cell BK269.out 1).trans rfl, (blk_cell BK269.out 2).trans rfl, (blk_cell BK270.out 0).trans rfl, (blk_cell BK270.out 1).trans rfl, (blk_cell BK270.out 2).trans rfl, (blk_cell BK270.out 3).trans rfl⟩ (fun hHeld => ?_)
  generalize w32.drew = w33 at BK269 BK270 HB hHeld ⊢
  refine take_ (i := 0) (N := some 20) (v := ?_) (a' := ?_) L1' rfl rfl kZ (fun _ _ _ h => h) (Or.inl ⟨by rfl, ?_⟩) hHeld ?_ ?_
  rotate_left
  ·rintro w' ⟨s0, s1, s2, s3, s4, s5, s6⟩
   go_simp
   with_reducible rfl
  rotate_left
  ·simp only [Act.put, sZ1, sZ2, sZ3, i64_w, i32_w]
   rfl
  refine take_ (i := 2) (N := some 22) (v := ?_) (a' := ?_) L2' rfl rfl kZ (fun _ _ _ h => h) (Or.inl ⟨by rfl, ?_⟩) hHeld ?_ ?_
  rotate_left
  ·rintro w' ⟨s0, s1, s2, s3, s4, s5, s6⟩
   go_simp
   with_reducible rfl
  rotate_left
  ·simp only [Act.put, sZ1, sZ2, sZ3, i64_w, i32_w]
   rfl
  refine one_ (i := 1) (N := some 21) L3' rfl rfl kZ (by decide) (fun K hK => ?_)
  refine goes_ Try.func17 kZ rfl #[.agg #[.slice A0_0 l0_0.length c0_0, .int .i64 a0_1, .int .i64 a0_2]] (by rfl) rfl rfl tZA ?_
  with_reducible refine (laws_toFrame.calls k _ _ l0_0 a0_1 a0_2 t273 t276 t277 _ ?side1 ?side2 A19.out).mono ?_
  (case side1 => repeat (first | exact (Kd.C_below HR0_0.out HB.out) | (with_reducible refine Kd.C_alloc ?_ _) | (with_reducible refine Kd.C_drewN ?_ _) | (with_reducible refine Kd.C_drew ?_)))
  (case side2 => exact HC0_0.out)
  rintro e w34 ⟨v274, rfl, ho0, hb⟩
  refine ⟨_, rfl, ?_⟩
  have HO275 := aZ (Kd.R_lower ho0 (below_size bZ))
  replace BK269 := aZ (blk_below (bkZ BK269.out) hb)
  replace BK270 := aZ (blk_below (bkZ BK270.out) hb)
  replace HB := aZ (below_step bZ hb)
  (try clear hb)
  (try clear hb2)
  (try clear hk)
  (try clear hi)
  (try clear ho0)
  refine hK.out _ _ ⟨(blk_cell BK269.out 0).trans rfl, (blk_cell BK269.out 1).trans rfl, (blk_cell BK269.out 2).trans rfl, (blk_cell BK270.out 0).trans rfl, (blk_cell BK270.out 1).trans rfl, (blk_cell BK270.out 2).trans rfl, (blk_cell BK270.out 3).trans rfl⟩ (fun hHeld => ?_)
  clear hK K
  refine norm_ (a' := ?_) ?_ ?_
  rotate_left
  ·show Act.put _ (some 21) _ = _
   simp only [Act.put, sZ1, sZ2, sZ3, i64_w, i32_w]
   rfl
  refine one_ (i := 3) (N := some 23) #[true, true, true, true, false, false] rfl rfl kZ (by decide) (fun K hK => ?_)
  refine goes_ Try.func18 kZ rfl #[.agg #[.int .i64 a1_0, .int .i64 a1_1, .string a1_2, .slice A1_3 l1_3.length c1_3]] (by rfl) rfl rfl tZA ?_
  with_reducible refine (laws_toEntry.calls k a1_0 a1_1 a1_2 _ _ l1_3 t278 t279 t280 t281 _ ?side1 ?side2 A20.out).mono ?_
  (case side1 => repeat (first | exact (Kd.C_below HR1_3.out HB.out) | (with_reducible refine Kd.C_alloc ?_ _) | (with_reducible refine Kd.C_drewN ?_ _) | (with_reducible refine Kd.C_drew ?_)))
  (case side2 => exact HC1_3.out)
  rintro e w35 ⟨v282, rfl, ho0, hb⟩
  refine ⟨_, rfl, ?_⟩
  replace HO275 := aZ (Kd.R_below (lZR HO275.out) hb)
  have HO283 := aZ (Kd.R_lower ho0 (below_size bZ))
  replace BK269 := aZ (blk_below (bkZ BK269.out) hb)
  replace BK270 := aZ (blk_below (bkZ BK270.out) hb)
  replace HB := aZ (below_step bZ hb)
  (try clear hb)
  (try clear hb2)
  (try clear hk)
  (try clear hi)
  (try clear ho0)
  obtain ⟨Ao36, co36, eo36⟩ := Kd.R_slice HO275.out
  (first | subst eo36 | (injection eo36 with f1_ f2_ f3_; have f4_ := f1_.symm; have f5_ := f3_.symm; clear f1_ f2_ f3_; subst f4_; subst f5_))
  obtain ⟨Ao37, co37, eo37⟩ := Kd.R_slice HO283.out
  (first | subst eo37 | (injection eo37 with f1_ f2_ f3_; have f4_ := f1_.symm; have f5_ := f3_.symm; clear f1_ f2_ f3_; subst f4_; subst f5_))
  refine hK.out _ _ ⟨(blk_cell BK269.out 0).trans rfl, (blk_cell BK269.out 1).trans rfl, (blk_cell BK269.out 2).trans rfl, (blk_cell BK270.out 0).trans rfl, (blk_cell BK270.out 1).trans rfl, (blk_cell BK270.out 2).trans rfl, (blk_cell BK270.out 3).trans rfl⟩ (fun hHeld => ?_)
  clear hK K
  refine norm_ (a' := ?_) ?_ ?_
  rotate_left
  ·show Act.put _ (some 23) _ = _
   simp only [Act.put, sZ1, sZ2, sZ3, i64_w, i32_w]
   rfl
  refine one_ (i := 4) (N := some 24) #[true, true, true, true, true, false] rfl rfl kZ (by decide) (fun K hK => ?_)
  refine goes_ Try.func16 kZ rfl #[.agg #[.slice Ao36 t273.length co36, .int .i64 t276, .int .i64 t277], .agg #[.int .i64 t278, .int .i64 t279, .string t280, .slice Ao37 t281.length co37]] (by rfl) rfl rfl tZA ?_
  with_reducible refine (spec_EntryOk.calls k _ _ t273 t276 t277 t278 t279 t280 _ _ t281 t284 _ ?side1 ?side2 ?side3 ?side4 A21.out).mono ?_
  (case side1 => repeat (first | exact (Kd.R_reads' HO275.out).2.2 | (with_reducible refine Kd.C_alloc ?_ _) | (with_reducible refine Kd.C_drewN ?_ _) | (with_reducible refine Kd.C_drew ?_)))
  (case side2 => exact (Kd.R_reads' HO275.out).2.1)
  (case side3 => repeat (first | exact (Kd.R_reads' HO283.out).2.2 | (with_reducible refine Kd.C_alloc ?_ _) | (with_reducible refine Kd.C_drewN ?_ _) | (with_reducible refine Kd.C_drew ?_)))
  (case side4 => exact (Kd.R_reads' HO283.out).2.1)
  rintro e w38 ⟨rfl, hb⟩
  refine ⟨_, rfl, ?_⟩
  replace HO275 := aZ (Kd.R_below (lZR HO275.out) hb)
  replace HO283 := aZ (Kd.R_below (lZR HO283.out) hb)
  replace BK269 := aZ (blk_below (bkZ BK269.out) hb)
  replace BK270 := aZ (blk_below (bkZ BK270.out) hb)
  replace HB := aZ (below_step bZ hb)
  (try clear hb)
  (try clear hb2)
  (try clear hk)
  (try clear hi)
  refine hK.out _ _ ⟨(blk_cell BK269.out 0).trans rfl, (blk_cell BK269.out 1).trans rfl, (blk_cell BK269.out 2).trans rfl, (blk_cell BK270.out 0).trans rfl, (blk_cell BK270.out 1).trans rfl, (blk_cell BK270.out 2).trans rfl, (blk_cell BK270.out 3).trans rfl⟩ (fun hHeld => ?_)
  clear hK K
  refine norm_ (a' := ?_) ?_ ?_
  rotate_left
  ·show Act.put _ (some 24) _ = _
   simp only [Act.put, sZ1, sZ2, sZ3, i64_w, i32_w]
   rfl
  refine pure_ (i := 5) (N := some 6) (v := ?_) (a' := ?_) #[true, true, true, true, true, true] rfl rfl kZ (fun _ _ _ h => h) (Or.inl ⟨by rfl, ?_⟩) ?_ ?_
  rotate_left
  ·intro w'
   go_simp
   with_reducible rfl
  rotate_left
  ·simp only [Act.put, sZ1, sZ2, sZ3, i64_w, i32_w]
   rfl
  refine done_ kZ ?_
  have hcz39_0 : w38.cell? ⟨gb269, 0, none⟩ = some (.slice A0_0 l0_0.length c0_0) := (blk_cell BK269.out 0).trans rfl
  have hcz39_1 : w38.cell? ⟨gb269, 1, none⟩ = some (.int .i64 a0_1) := (blk_cell BK269.out 1).trans rfl
  have hcz39_2 : w38.cell? ⟨gb269, 2, none⟩ = some (.int .i64 a0_2) := (blk_cell BK269.out 2).trans rfl
  have hfz39_0 := blk_frozen BK269.out 0
  have hfz39_1 := blk_frozen BK269.out 1
  have hfz39_2 := blk_frozen BK269.out 2
  try go_wp2_with (first | ((with_reducible refine gate_callee (f := 17) rfl ?_); refine goesL_ (some 26) rfl rfl Try.func17 kZ rfl #[.agg #[.slice A0_0 l0_0.length c0_0, .int .i64 a0_1, .int .i64 a0_2]] rfl tZA ?_; (with_reducible refine (laws_toFrame.calls k _ _ l0_0 a0_1 a0_2 t285 t288 t289 _ ?side1 ?side2 A22.out).mono ?_); (case side1 => repeat (first | exact (Kd.C_below HR0_0.out HB.out) | (with_reducible refine Kd.C_alloc ?_ _) | (with_reducible refine Kd.C_drewN ?_ _) | (with_reducible refine Kd.C_drew ?_))); (case side2 => exact HC0_0.out); rintro e w40 ⟨v286, rfl, ho0, hb⟩; refine ⟨_, rfl, ?_⟩; replace HO283 := aZ (Kd.R_below (lZR HO283.out) hb); have HO287 := aZ (Kd.R_lower (Kd.R_new' ho0 (Kd.R_lt (lZR HO275.out))) (below_size bZ)); replace HO275 := aZ (Kd.R_elder' (lZR HO275.out) (Kd.R_base ho0) hb); replace BK269 := aZ (blk_below (bkZ BK269.out) hb); replace BK270 := aZ (blk_below (bkZ BK270.out) hb); replace HB := aZ (below_step bZ hb); (try clear hb); (try clear hb2); (try clear hk); (try clear hi); (try clear ho0)) | ((with_reducible refine gate_dst (N := 7) rfl ?_); refine box_event ?hg (N := 7) ?hd (cs := #[.slice none 0 0, .int .i64 0, .int .i64 0]) (t := 33) ?hr ?_; (case hd => rfl); (case hg => rfl); (case hr => first | (go_simp; done) | (go_simp; rfl)); intro gb290 hg w41 hbox hb; replace HO275 := aZ (Kd.R_below (lZR HO275.out) hb); replace HO283 := aZ (Kd.R_below (lZR HO283.out) hb); replace HO287 := aZ (Kd.R_below (lZR HO287.out) hb); have BK290 := aZ (hbox); have GW290 := aZ ((by rw [hg]; exact (below_size bZ) : w.heap.size ≤ gb290)); have GE290 := aZ ((by rw [hg]; exact (below_size bZ) : w.heap.size ≤ gb290)); replace HB := aZ (below_step bZ hb); have NB269_290 := aZ ((by rw [hg]; exact Nat.ne_of_lt (blk_lt (bkZ BK269.out)) : gb269 ≠ gb290)); have NB290_269 := aZ ((by rw [hg]; exact Nat.ne_of_gt (blk_lt (bkZ BK269.out)) : gb290 ≠ gb269)); replace BK269 := aZ (blk_below (bkZ BK269.out) hb); have NB270_290 := aZ ((by rw [hg]; exact Nat.ne_of_lt (blk_lt (bkZ BK270.out)) : gb270 ≠ gb290)); have NB290_270 := aZ ((by rw [hg]; exact Nat.ne_of_gt (blk_lt (bkZ BK270.out)) : gb290 ≠ gb270)); replace BK270 := aZ (blk_below (bkZ BK270.out) hb); clear hb hbox hg; obtain ⟨Ao42, co42, eo42⟩ := Kd.R_slice HO287.out; subst eo42; have hnb43 := NB290_269.out; have hnc43 := NB269_290.out; have hnb44 := NB290_270.out; have hnc44 := NB270_290.out; have hcz45_0 : w41.cell? ⟨gb290, 0, none⟩ = some (.slice none 0 0) := (blk_cell BK290.out 0).trans rfl; have hcz45_1 : w41.cell? ⟨gb290, 1, none⟩ = some (.int .i64 0) := (blk_cell BK290.out 1).trans rfl; have hcz45_2 : w41.cell? ⟨gb290, 2, none⟩ = some (.int .i64 0) := (blk_cell BK290.out 2).trans rfl; have hfz45_0 := blk_frozen BK290.out 0; have hfz45_1 := blk_frozen BK290.out 1; have hfz45_2 := blk_frozen BK290.out 2; have hcz46_0 : w41.cell? ⟨gb270, 0, none⟩ = some (.int .i64 a1_0) := (blk_cell BK270.out 0).trans rfl; have hcz46_1 : w41.cell? ⟨gb270, 1, none⟩ = some (.int .i64 a1_1) := (blk_cell BK270.out 1).trans rfl; have hcz46_2 : w41.cell? ⟨gb270, 2, none⟩ = some (.string a1_2) := (blk_cell BK270.out 2).trans rfl; have hcz46_3 : w41.cell? ⟨gb270, 3, none⟩ = some (.slice A1_3 l1_3.length c1_3) := (blk_cell BK270.out 3).trans rfl; have hfz46_0 := blk_frozen BK270.out 0; have hfz46_1 := blk_frozen BK270.out 1; have hfz46_2 := blk_frozen BK270.out 2; have hfz46_3 := blk_frozen BK270.out 3) | ((with_reducible refine gate_callee (f := 18) rfl ?_); refine goesL_ (some 28) rfl rfl Try.func18 kZ rfl #[.agg #[.int .i64 a1_0, .int .i64 a1_1, .string a1_2, .slice A1_3 l1_3.length c1_3]] rfl tZA ?_; (with_reducible refine (laws_toEntry.calls k a1_0 a1_1 a1_2 _ _ l1_3 t291 t292 t293 t294 _ ?side1 ?side2 A23.out).mono ?_); (case side1 => exact Kd.C_below HR1_3.out bZ); (case side2 => exact HC1_3.out); rintro e w47 ⟨v295, rfl, ho0, hb⟩; refine ⟨_, rfl, ?_⟩; replace HO275 := aZ (Kd.R_below (by (with_reducible repeat (first | apply Kd.R_alloc | apply Kd.R_drewN | apply Kd.R_drew)); exact (Kd.R_mono (Kd.R_far (p := ⟨gb290, 2, none⟩) (Kd.R_far (p := ⟨gb290, 1, none⟩) (Kd.R_far (p := ⟨gb290, 0, none⟩) (Kd.R_types HO275.out BK290.out (by decide)) (fun _ hk => hk.2) (.slice Ao42 t285.length co42)) (fun _ hk => hk.2) (.int .i64 t288)) (fun _ hk => hk.2) (.int .i64 t289)) (fun _ h_ => h_.1))) hb); replace HO287 := aZ (Kd.R_below (by (with_reducible repeat (first | apply Kd.R_alloc | apply Kd.R_drewN | apply Kd.R_drew)); exact (Kd.R_mono (Kd.R_far (p := ⟨gb290, 2, none⟩) (Kd.R_far (p := ⟨gb290, 1, none⟩) (Kd.R_far (p := ⟨gb290, 0, none⟩) (Kd.R_types HO287.out BK290.out (by decide)) (fun _ hk => hk.2) (.slice Ao42 t285.length co42)) (fun _ hk => hk.2) (.int .i64 t288)) (fun _ hk => hk.2) (.int .i64 t289)) (fun _ h_ => h_.1))) hb); have HO296 := aZ (Kd.R_lower (Kd.R_new' ho0 (Kd.R_lt (by (with_reducible repeat (first | apply Kd.R_alloc | apply Kd.R_drewN | apply Kd.R_drew)); exact (Kd.R_mono (Kd.R_far (p := ⟨gb290, 2, none⟩) (Kd.R_far (p := ⟨gb290, 1, none⟩) (Kd.R_far (p := ⟨gb290, 0, none⟩) (Kd.R_types HO283.out BK290.out (by decide)) (fun _ hk => hk.2) (.slice Ao42 t285.length co42)) (fun _ hk => hk.2) (.int .i64 t288)) (fun _ hk => hk.2) (.int .i64 t289)) (fun _ h_ => h_.1))))) (below_size bZ)); replace HO283 := aZ (Kd.R_elder' (by (with_reducible repeat (first | apply Kd.R_alloc | apply Kd.R_drewN | apply Kd.R_drew)); exact (Kd.R_mono (Kd.R_far (p := ⟨gb290, 2, none⟩) (Kd.R_far (p := ⟨gb290, 1, none⟩) (Kd.R_far (p := ⟨gb290, 0, none⟩) (Kd.R_types HO283.out BK290.out (by decide)) (fun _ hk => hk.2) (.slice Ao42 t285.length co42)) (fun _ hk => hk.2) (.int .i64 t288)) (fun _ hk => hk.2) (.int .i64 t289)) (fun _ h_ => h_.1))) (Kd.R_base ho0) hb); replace BK269 := aZ (blk_below (g := gb269) (o := .cells #[.slice A0_0 l0_0.length c0_0, .int .i64 a0_1, .int .i64 a0_2] 24 (0, 0)) (by (with_reducible repeat (first | refine blk_drewN ?_ _ | refine blk_drew ?_ | refine blk_alloc ?_ _)); refine blk_far ?_ NB269_290.out _; (with_reducible repeat (first | refine blk_drewN ?_ _ | refine blk_drew ?_ | refine blk_alloc ?_ _)); refine blk_far ?_ NB269_290.out _; (with_reducible repeat (first | refine blk_drewN ?_ _ | refine blk_drew ?_ | refine blk_alloc ?_ _)); refine blk_far ?_ NB269_290.out _; (with_reducible repeat (first | refine blk_drewN ?_ _ | refine blk_drew ?_ | refine blk_alloc ?_ _)); exact BK269.out) hb); replace BK270 := aZ (blk_below (g := gb270) (o := .cells #[.int .i64 a1_0, .int .i64 a1_1, .string a1_2, .slice A1_3 l1_3.length c1_3] 27 (0, 0)) (by (with_reducible repeat (first | refine blk_drewN ?_ _ | refine blk_drew ?_ | refine blk_alloc ?_ _)); refine blk_far ?_ NB270_290.out _; (with_reducible repeat (first | refine blk_drewN ?_ _ | refine blk_drew ?_ | refine blk_alloc ?_ _)); refine blk_far ?_ NB270_290.out _; (with_reducible repeat (first | refine blk_drewN ?_ _ | refine blk_drew ?_ | refine blk_alloc ?_ _)); refine blk_far ?_ NB270_290.out _; (with_reducible repeat (first | refine blk_drewN ?_ _ | refine blk_drew ?_ | refine blk_alloc ?_ _)); exact BK270.out) hb); replace BK290 := aZ (blk_below (g := gb290) (o := .cells #[.slice Ao42 t285.length co42, .int .i64 t288, .int .i64 t289] 33 (0, 0)) (by (with_reducible repeat (first | refine blk_drewN ?_ _ | refine blk_drew ?_ | refine blk_alloc ?_ _)); refine blk_put (cs := #[.slice Ao42 t285.length co42, .int .i64 t288, .int .i64 0]) ?_ 2 _ rfl; (with_reducible repeat (first | refine blk_drewN ?_ _ | refine blk_drew ?_ | refine blk_alloc ?_ _)); refine blk_put (cs := #[.slice Ao42 t285.length co42, .int .i64 0, .int .i64 0]) ?_ 1 _ rfl; (with_reducible repeat (first | refine blk_drewN ?_ _ | refine blk_drew ?_ | refine blk_alloc ?_ _)); refine blk_put (cs := #[.slice none 0 0, .int .i64 0, .int .i64 0]) ?_ 0 _ rfl; (with_reducible repeat (first | refine blk_drewN ?_ _ | refine blk_drew ?_ | refine blk_alloc ?_ _)); exact BK290.out) hb); replace HB := aZ (below_step bZ hb); (try clear hb); (try clear hb2); (try clear hk); (try clear hi); (try clear ho0)) | ((with_reducible refine gate_dst (N := 8) rfl ?_); refine box_event ?hg (N := 8) ?hd (cs := #[.int .i64 0, .int .i64 0, .string (⟨#[]⟩ : ByteArray), .slice none 0 0]) (t := 37) ?hr ?_; (case hd => rfl); (case hg => rfl); (case hr => first | (go_simp; done) | (go_simp; rfl)); intro gb297 hg w48 hbox hb; replace HO275 := aZ (Kd.R_below (lZR HO275.out) hb); replace HO283 := aZ (Kd.R_below (lZR HO283.out) hb); replace HO287 := aZ (Kd.R_below (lZR HO287.out) hb); replace HO296 := aZ (Kd.R_below (lZR HO296.out) hb); have BK297 := aZ (hbox); have GW297 := aZ ((by rw [hg]; exact (below_size bZ) : w.heap.size ≤ gb297)); have GE297 := aZ ((by rw [hg]; exact (below_size bZ) : w.heap.size ≤ gb297)); replace HB := aZ (below_step bZ hb); have NB269_297 := aZ ((by rw [hg]; exact Nat.ne_of_lt (blk_lt (bkZ BK269.out)) : gb269 ≠ gb297)); have NB297_269 := aZ ((by rw [hg]; exact Nat.ne_of_gt (blk_lt (bkZ BK269.out)) : gb297 ≠ gb269)); replace BK269 := aZ (blk_below (bkZ BK269.out) hb); have NB270_297 := aZ ((by rw [hg]; exact Nat.ne_of_lt (blk_lt (bkZ BK270.out)) : gb270 ≠ gb297)); have NB297_270 := aZ ((by rw [hg]; exact Nat.ne_of_gt (blk_lt (bkZ BK270.out)) : gb297 ≠ gb270)); replace BK270 := aZ (blk_below (bkZ BK270.out) hb); have NB290_297 := aZ ((by rw [hg]; exact Nat.ne_of_lt (blk_lt (bkZ BK290.out)) : gb290 ≠ gb297)); have NB297_290 := aZ ((by rw [hg]; exact Nat.ne_of_gt (blk_lt (bkZ BK290.out)) : gb297 ≠ gb290)); replace BK290 := aZ (blk_below (bkZ BK290.out) hb); clear hb hbox hg; have hnb49 := NB297_269.out; have hnc49 := NB269_297.out; have hnb50 := NB297_270.out; have hnc50 := NB270_297.out; have hnb51 := NB297_290.out; have hnc51 := NB290_297.out; have hcz52_0 : w48.cell? ⟨gb297, 0, none⟩ = some (.int .i64 0) := (blk_cell BK297.out 0).trans rfl; have hcz52_1 : w48.cell? ⟨gb297, 1, none⟩ = some (.int .i64 0) := (blk_cell BK297.out 1).trans rfl; have hcz52_2 : w48.cell? ⟨gb297, 2, none⟩ = some (.string (⟨#[]⟩ : ByteArray)) := (blk_cell BK297.out 2).trans rfl; have hcz52_3 : w48.cell? ⟨gb297, 3, none⟩ = some (.slice none 0 0) := (blk_cell BK297.out 3).trans rfl; have hfz52_0 := blk_frozen BK297.out 0; have hfz52_1 := blk_frozen BK297.out 1; have hfz52_2 := blk_frozen BK297.out 2; have hfz52_3 := blk_frozen BK297.out 3; obtain ⟨Ao53, co53, eo53⟩ := Kd.R_slice HO296.out; subst eo53; have hcz54_0 : w48.cell? ⟨gb290, 0, none⟩ = some (.slice Ao42 t285.length co42) := (blk_cell BK290.out 0).trans rfl; have hcz54_1 : w48.cell? ⟨gb290, 1, none⟩ = some (.int .i64 t288) := (blk_cell BK290.out 1).trans rfl; have hcz54_2 : w48.cell? ⟨gb290, 2, none⟩ = some (.int .i64 t289) := (blk_cell BK290.out 2).trans rfl; have hfz54_0 := blk_frozen BK290.out 0; have hfz54_1 := blk_frozen BK290.out 1; have hfz54_2 := blk_frozen BK290.out 2) | ((with_reducible refine gate_callee (f := 19) rfl ?_); refine goesL_ (some 31) rfl rfl Try.func19 kZ rfl #[.agg #[.slice Ao42 t285.length co42, .int .i64 t288, .int .i64 t289], .agg #[.int .i64 t291, .int .i64 t292, .string t293, .slice Ao53 t294.length co53]] rfl tZA ?_; (with_reducible refine (impl_EntryOk.calls k _ _ t285 t288 t289 t291 t292 t293 _ _ t294 t298 _ ?side1 ?side2 ?side3 ?side4 A24.out).mono ?_); (case side1 => refine (Kd.R_reads' (e := 188) (base := w.heap.size) (ok := fun k_ => (True ∧ some k_ ≠ (.slice Ao36 t273.length co36 : Value).ownBlock)) (n := t285.length) (c := co42) ?_).2.2; exact (by (with_reducible repeat (first | apply Kd.R_alloc | apply Kd.R_drewN | apply Kd.R_drew)); exact (Kd.R_mono (Kd.R_far (p := ⟨gb297, 3, none⟩) (Kd.R_far (p := ⟨gb297, 2, none⟩) (Kd.R_far (p := ⟨gb297, 1, none⟩) (Kd.R_far (p := ⟨gb297, 0, none⟩) (Kd.R_types HO287.out BK297.out (by decide)) (fun _ hk => hk.2) (.int .i64 t291)) (fun _ hk => hk.2) (.int .i64 t292)) (fun _ hk => hk.2) (.string t293)) (fun _ hk => hk.2) (.slice Ao53 t294.length co53)) (fun _ h_ => h_.1)))); (case side2 => exact (Kd.R_reads' HO287.out).2.1); (case side3 => refine (Kd.R_reads' (e := 109) (base := w.heap.size) (ok := fun k_ => (True ∧ some k_ ≠ (.slice Ao37 t281.length co37 : Value).ownBlock)) (n := t294.length) (c := co53) ?_).2.2; exact (by (with_reducible repeat (first | apply Kd.R_alloc | apply Kd.R_drewN | apply Kd.R_drew)); exact (Kd.R_mono (Kd.R_far (p := ⟨gb297, 3, none⟩) (Kd.R_far (p := ⟨gb297, 2, none⟩) (Kd.R_far (p := ⟨gb297, 1, none⟩) (Kd.R_far (p := ⟨gb297, 0, none⟩) (Kd.R_types HO296.out BK297.out (by decide)) (fun _ hk => hk.2) (.int .i64 t291)) (fun _ hk => hk.2) (.int .i64 t292)) (fun _ hk => hk.2) (.string t293)) (fun _ hk => hk.2) (.slice Ao53 t294.length co53)) (fun _ h_ => h_.1)))); (case side4 => exact (Kd.R_reads' HO296.out).2.1); rintro e w55 ⟨rfl, hb⟩; refine ⟨_, rfl, ?_⟩; replace HO275 := aZ (Kd.R_below (by (with_reducible repeat (first | apply Kd.R_alloc | apply Kd.R_drewN | apply Kd.R_drew)); exact (Kd.R_mono (Kd.R_far (p := ⟨gb297, 3, none⟩) (Kd.R_far (p := ⟨gb297, 2, none⟩) (Kd.R_far (p := ⟨gb297, 1, none⟩) (Kd.R_far (p := ⟨gb297, 0, none⟩) (Kd.R_types HO275.out BK297.out (by decide)) (fun _ hk => hk.2) (.int .i64 t291)) (fun _ hk => hk.2) (.int .i64 t292)) (fun _ hk => hk.2) (.string t293)) (fun _ hk => hk.2) (.slice Ao53 t294.length co53)) (fun _ h_ => h_.1))) hb); replace HO283 := aZ (Kd.R_below (by (with_reducible repeat (first | apply Kd.R_alloc | apply Kd.R_drewN | apply Kd.R_drew)); exact (Kd.R_mono (Kd.R_far (p := ⟨gb297, 3, none⟩) (Kd.R_far (p := ⟨gb297, 2, none⟩) (Kd.R_far (p := ⟨gb297, 1, none⟩) (Kd.R_far (p := ⟨gb297, 0, none⟩) (Kd.R_types HO283.out BK297.out (by decide)) (fun _ hk => hk.2) (.int .i64 t291)) (fun _ hk => hk.2) (.int .i64 t292)) (fun _ hk => hk.2) (.string t293)) (fun _ hk => hk.2) (.slice Ao53 t294.length co53)) (fun _ h_ => h_.1))) hb); replace HO287 := aZ (Kd.R_below (by (with_reducible repeat (first | apply Kd.R_alloc | apply Kd.R_drewN | apply Kd.R_drew)); exact (Kd.R_mono (Kd.R_far (p := ⟨gb297, 3, none⟩) (Kd.R_far (p := ⟨gb297, 2, none⟩) (Kd.R_far (p := ⟨gb297, 1, none⟩) (Kd.R_far (p := ⟨gb297, 0, none⟩) (Kd.R_types HO287.out BK297.out (by decide)) (fun _ hk => hk.2) (.int .i64 t291)) (fun _ hk => hk.2) (.int .i64 t292)) (fun _ hk => hk.2) (.string t293)) (fun _ hk => hk.2) (.slice Ao53 t294.length co53)) (fun _ h_ => h_.1))) hb); replace HO296 := aZ (Kd.R_below (by (with_reducible repeat (first | apply Kd.R_alloc | apply Kd.R_drewN | apply Kd.R_drew)); exact (Kd.R_mono (Kd.R_far (p := ⟨gb297, 3, none⟩) (Kd.R_far (p := ⟨gb297, 2, none⟩) (Kd.R_far (p := ⟨gb297, 1, none⟩) (Kd.R_far (p := ⟨gb297, 0, none⟩) (Kd.R_types HO296.out BK297.out (by decide)) (fun _ hk => hk.2) (.int .i64 t291)) (fun _ hk => hk.2) (.int .i64 t292)) (fun _ hk => hk.2) (.string t293)) (fun _ hk => hk.2) (.slice Ao53 t294.length co53)) (fun _ h_ => h_.1))) hb); replace BK269 := aZ (blk_below (g := gb269) (o := .cells #[.slice A0_0 l0_0.length c0_0, .int .i64 a0_1, .int .i64 a0_2] 24 (0, 0)) (by (with_reducible repeat (first | refine blk_drewN ?_ _ | refine blk_drew ?_ | refine blk_alloc ?_ _)); refine blk_far ?_ NB269_297.out _; (with_reducible repeat (first | refine blk_drewN ?_ _ | refine blk_drew ?_ | refine blk_alloc ?_ _)); refine blk_far ?_ NB269_297.out _; (with_reducible repeat (first | refine blk_drewN ?_ _ | refine blk_drew ?_ | refine blk_alloc ?_ _)); refine blk_far ?_ NB269_297.out _; (with_reducible repeat (first | refine blk_drewN ?_ _ | refine blk_drew ?_ | refine blk_alloc ?_ _)); refine blk_far ?_ NB269_297.out _; (with_reducible repeat (first | refine blk_drewN ?_ _ | refine blk_drew ?_ | refine blk_alloc ?_ _)); exact BK269.out) hb); replace BK270 := aZ (blk_below (g := gb270) (o := .cells #[.int .i64 a1_0, .int .i64 a1_1, .string a1_2, .slice A1_3 l1_3.length c1_3] 27 (0, 0)) (by (with_reducible repeat (first | refine blk_drewN ?_ _ | refine blk_drew ?_ | refine blk_alloc ?_ _)); refine blk_far ?_ NB270_297.out _; (with_reducible repeat (first | refine blk_drewN ?_ _ | refine blk_drew ?_ | refine blk_alloc ?_ _)); refine blk_far ?_ NB270_297.out _; (with_reducible repeat (first | refine blk_drewN ?_ _ | refine blk_drew ?_ | refine blk_alloc ?_ _)); refine blk_far ?_ NB270_297.out _; (with_reducible repeat (first | refine blk_drewN ?_ _ | refine blk_drew ?_ | refine blk_alloc ?_ _)); refine blk_far ?_ NB270_297.out _; (with_reducible repeat (first | refine blk_drewN ?_ _ | refine blk_drew ?_ | refine blk_alloc ?_ _)); exact BK270.out) hb); replace BK290 := aZ (blk_below (g := gb290) (o := .cells #[.slice Ao42 t285.length co42, .int .i64 t288, .int .i64 t289] 33 (0, 0)) (by (with_reducible repeat (first | refine blk_drewN ?_ _ | refine blk_drew ?_ | refine blk_alloc ?_ _)); refine blk_far ?_ NB290_297.out _; (with_reducible repeat (first | refine blk_drewN ?_ _ | refine blk_drew ?_ | refine blk_alloc ?_ _)); refine blk_far ?_ NB290_297.out _; (with_reducible repeat (first | refine blk_drewN ?_ _ | refine blk_drew ?_ | refine blk_alloc ?_ _)); refine blk_far ?_ NB290_297.out _; (with_reducible repeat (first | refine blk_drewN ?_ _ | refine blk_drew ?_ | refine blk_alloc ?_ _)); refine blk_far ?_ NB290_297.out _; (with_reducible repeat (first | refine blk_drewN ?_ _ | refine blk_drew ?_ | refine blk_alloc ?_ _)); exact BK290.out) hb); replace BK297 := aZ (blk_below (g := gb297) (o := .cells #[.int .i64 t291, .int .i64 t292, .string t293, .slice Ao53 t294.length co53] 37 (0, 0)) (by (with_reducible repeat (first | refine blk_drewN ?_ _ | refine blk_drew ?_ | refine blk_alloc ?_ _)); refine blk_put (cs := #[.int .i64 t291, .int .i64 t292, .string t293, .slice none 0 0]) ?_ 3 _ rfl; (with_reducible repeat (first | refine blk_drewN ?_ _ | refine blk_drew ?_ | refine blk_alloc ?_ _)); refine blk_put (cs := #[.int .i64 t291, .int .i64 t292, .string (⟨#[]⟩ : ByteArray), .slice none 0 0]) ?_ 2 _ rfl; (with_reducible repeat (first | refine blk_drewN ?_ _ | refine blk_drew ?_ | refine blk_alloc ?_ _)); refine blk_put (cs := #[.int .i64 t291, .int .i64 0, .string (⟨#[]⟩ : ByteArray), .slice none 0 0]) ?_ 1 _ rfl; (with_reducible repeat (first | refine blk_drewN ?_ _ | refine blk_drew ?_ | refine blk_alloc ?_ _)); refine blk_put (cs := #[.int .i64 0, .int .i64 0, .string (⟨#[]⟩ : ByteArray), .slice none 0 0]) ?_ 0 _ rfl; (with_reducible repeat (first | refine blk_drewN ?_ _ | refine blk_drew ?_ | refine blk_alloc ?_ _)); exact BK297.out) hb); replace HB := aZ (below_step bZ hb); (try clear hb); (try clear hb2); (try clear hk); (try clear hi)))
  go_ret
  exact ⟨tZC, bZ⟩
 rw [if_neg c25] at H
 have c25b0 : (t298 != t284) = false := by simpa using c25
 (try (have c25b1 : decide (t298 = t284) = true := by simpa using c25))
 (try (have c25b2 : (t298 == t284) = true := by simpa using c25))
 clear c25
 replace H := Option.bind_eq_some_iff.mp H
 obtain ⟨⟨t299, t302, t303⟩, A560, H⟩ := H
 replace H : ((laws_eqFrame.f k t285 t288 t289 t299 t302 t303).bind fun t304 => (if t304 = true then ((laws_toEntry.f k a1_0 a1_1 a1_2 l1_3).bind fun bt305 => ((laws_eqEntry.f k t291 t292 t293 t294 bt305.1 bt305.2.1 bt305.2.2.1 bt305.2.2.2).bind fun t311 => (if t311 = true then (some true) else (some false)))) else (some false))) = some r := H
 have A56 := Aside0.mk A560
 clear A560
 replace H := Option.bind_eq_some_iff.mp H
 obtain ⟨t304, A570, H⟩ := H
 replace H : (if t304 = true then ((laws_toEntry.f k a1_0 a1_1 a1_2 l1_3).bind fun bt305 => ((laws_eqEntry.f k t291 t292 t293 t294 bt305.1 bt305.2.1 bt305.2.2.1 bt305.2.2.2).bind fun t311 => (if t311 = true then (some true) else (some false)))) else (some false)) = some r := H
 have A57 := Aside0.mk A570
 clear A570
 by_cases c58 : t304 = true
 rotate_left
 ·replace c58 := Bool.eq_false_iff.mpr c58
  subst c58
  have H1 : (some false) = some r := by rw [if_neg (show ¬ (false = true) by decide)] at H; exact H
  clear H
  have H := H1
  clear H1
  obtain rfl := Option.some.inj H
  go_enter Try.func3, Try.ntmps3
  try go_wp2_with (first | ((with_reducible refine gate_dst (N := 2) rfl ?_); refine box_event ?hg (N := 2) ?hd (cs := #[.slice A0_0 l0_0.length c0_0, .int .i64 a0_1, .int .i64 a0_2]) (t := 24) ?hr ?_; (case hd => rfl); (case hg => rfl); (case hr => first | (go_simp; done) | (go_simp; rfl)); intro gb269 hg w138 hbox hb; have BK269 := aZ (hbox); have GW269 := aZ ((by rw [hg]; exact (below_size (lZB HB.out)) : w.heap.size ≤ gb269)); have GE269 := aZ ((by rw [hg]; exact (below_size (lZB HB.out)) : w.heap.size ≤ gb269)); replace HB := aZ (below_step (lZB HB.out) hb); clear hb hbox hg) | ((with_reducible refine gate_dst (N := 3) rfl ?_); refine box_event ?hg (N := 3) ?hd (cs := #[.int .i64 a1_0, .int .i64 a1_1, .string a1_2, .slice A1_3 l1_3.length c1_3]) (t := 27) ?hr ?_; (case hd => rfl); (case hg => rfl); (case hr => first | (go_simp; done) | (go_simp; rfl)); intro gb270 hg w139 hbox hb; have BK270 := aZ (hbox); have GW270 := aZ ((by rw [hg]; exact (below_size bZ) : w.heap.size ≤ gb270)); have GE270 := aZ ((by rw [hg]; exact (below_size bZ) : w.heap.size ≤ gb270)); replace HB := aZ (below_step bZ hb); have NB269_270 := aZ ((by rw [hg]; exact Nat.ne_of_lt (blk_lt (bkZ BK269.out)) : gb269 ≠ gb270)); have NB270_269 := aZ ((by rw [hg]; exact Nat.ne_of_gt (blk_lt (bkZ BK269.out)) : gb270 ≠ gb269)); replace BK269 := aZ (blk_below (bkZ BK269.out) hb); clear hb hbox hg; have hnb140 := NB269_270.out; have hnc140 := NB270_269.out; have hcz141_0 : w139.cell? ⟨gb269, 0, none⟩ = some (.slice A0_0 l0_0.length c0_0) := (blk_cell BK269.out 0).trans rfl; have hcz141_1 : w139.cell? ⟨gb269, 1, none⟩ = some (.int .i64 a0_1) := (blk_cell BK269.out 1).trans rfl; have hcz141_2 : w139.cell? ⟨gb269, 2, none⟩ = some (.int .i64 a0_2) := (blk_cell BK269.out 2).trans rfl; have hfz141_0 := blk_frozen BK269.out 0; have hfz141_1 := blk_frozen BK269.out 1; have hfz141_2 := blk_frozen BK269.out 2) | ((with_reducible refine gate_callee (f := 14) rfl ?_); refine goesL_ (some 12) rfl rfl Try.func14 kZ rfl #[.agg #[.slice A0_0 l0_0.length c0_0, .int .i64 a0_1, .int .i64 a0_2], .int .i64 1048576] rfl tZA ?_; (with_reducible refine (laws_szFrame.calls k _ _ l0_0 a0_1 a0_2 1048576 t271 _ ?side1 ?side2 A3.out).mono ?_); (case side1 => repeat (first | exact (Kd.C_below HR0_0.out HB.out) | (with_reducible refine Kd.C_alloc ?_ _) | (with_reducible refine Kd.C_drewN ?_ _) | (with_reducible refine Kd.C_drew ?_))); (case side2 => exact HC0_0.out); rintro e w142 ⟨rfl, hb⟩; refine ⟨_, rfl, ?_⟩; replace BK269 := aZ (blk_below (bkZ BK269.out) hb); replace BK270 := aZ (blk_below (bkZ BK270.out) hb); replace HB := aZ (below_step bZ hb); (try clear hb); (try clear hb2); (try clear hk); (try clear hi); have hcz143_0 : w142.cell? ⟨gb270, 0, none⟩ = some (.int .i64 a1_0) := (blk_cell BK270.out 0).trans rfl; have hcz143_1 : w142.cell? ⟨gb270, 1, none⟩ = some (.int .i64 a1_1) := (blk_cell BK270.out 1).trans rfl; have hcz143_2 : w142.cell? ⟨gb270, 2, none⟩ = some (.string a1_2) := (blk_cell BK270.out 2).trans rfl; have hcz143_3 : w142.cell? ⟨gb270, 3, none⟩ = some (.slice A1_3 l1_3.length c1_3) := (blk_cell BK270.out 3).trans rfl; have hfz143_0 := blk_frozen BK270.out 0; have hfz143_1 := blk_frozen BK270.out 1; have hfz143_2 := blk_frozen BK270.out 2; have hfz143_3 := blk_frozen BK270.out 3) | ((with_reducible refine gate_callee (f := 15) rfl ?_); refine goesL_ (some 17) rfl rfl Try.func15 kZ rfl #[.agg #[.int .i64 a1_0, .int .i64 a1_1, .string a1_2, .slice A1_3 l1_3.length c1_3], .int .i64 t271] rfl tZA ?_; (with_reducible refine (laws_szEntry.calls a1_0 a1_1 a1_2 _ _ l1_3 t271 t272 _ ?side1 ?side2 A10.out).mono ?_); (case side1 => repeat (first | exact (Kd.C_below HR1_3.out HB.out) | (with_reducible refine Kd.C_alloc ?_ _) | (with_reducible refine Kd.C_drewN ?_ _) | (with_reducible refine Kd.C_drew ?_))); (case side2 => exact HC1_3.out); rintro e w144 ⟨rfl, hb⟩; refine ⟨_, rfl, ?_⟩; replace BK269 := aZ (blk_below (bkZ BK269.out) hb); replace BK270 := aZ (blk_below (bkZ BK270.out) hb); replace HB := aZ (below_step bZ hb); (try clear hb); (try clear hb2); (try clear hk); (try clear hi)))
  replace BK269 := aZ (blk_drew BK269.out)
  replace BK270 := aZ (blk_drew BK270.out)
  replace HB := aZ (below_drew1 HB.out)
  refine start_ (n := 6) (S := fun w' => w'.cell? ⟨gb269, 0, none⟩ = some (.slice A0_0 l0_0.length c0_0) ∧ w'.cell? ⟨gb269, 1, none⟩ = some (.int .i64 a0_1) ∧ w'.cell? ⟨gb269, 2, none⟩ = some (.int .i64 a0_2) ∧ w'.cell? ⟨gb270, 0, none⟩ = some (.int .i64 a1_0) ∧ w'.cell? ⟨gb270, 1, none⟩ = some (.int .i64 a1_1) ∧ w'.cell? ⟨gb270, 2, none⟩ = some (.string a1_2) ∧ w'.cell? ⟨gb270, 3, none⟩ = some (.slice A1_3 l1_3.length c1_3)) (ds := []) L0' kZ rfl rfl ⟨(blk_cell BK269.out 0).trans rfl, (blk_cell BK269.out 1).trans rfl, (blk_cell BK269.out 2).trans rfl, (blk_cell BK270.out 0).trans rfl, (blk_cell BK270.out 1).trans rfl, (blk_cell BK270.out 2).trans rfl, (blk_cell BK270.out 3).trans rfl⟩ (fun hHeld => ?_)
  generalize w144.drew = w145 at BK269 BK270 HB hHeld ⊢
  refine take_ (i := 0) (N := some 20) (v := ?_) (a' := ?_) L1' rfl rfl kZ (fun _ _ _ h => h) (Or.inl ⟨by rfl, ?_⟩) hHeld ?_ ?_
  rotate_left
  ·rintro w' ⟨s0, s1, s2, s3, s4, s5, s6⟩
   go_simp
   with_reducible rfl
  rotate_left
  ·simp only [Act.put, sZ1, sZ2, sZ3, i64_w, i32_w]
   rfl
  refine take_ (i := 2) (N := some 22) (v := ?_) (a' := ?_) L2' rfl rfl kZ (fun _ _ _ h => h) (Or.inl ⟨by rfl, ?_⟩) hHeld ?_ ?_
  rotate_left
  ·rintro w' ⟨s0, s1, s2, s3, s4, s5, s6⟩
   go_simp
   with_reducible rfl
  rotate_left
  ·simp only [Act.put, sZ1, sZ2, sZ3, i64_w, i32_w]
   rfl
  refine one_ (i := 1) (N := some 21) L3' rfl rfl kZ (by decide) (fun K hK => ?_)
  refine goes_ Try.func17 kZ rfl #[.agg #[.slice A0_0 l0_0.length c0_0, .int .i64 a0_1, .int .i64 a0_2]] (by rfl) rfl rfl tZA ?_
  with_reducible refine (laws_toFrame.calls k _ _ l0_0 a0_1 a0_2 t273 t276 t277 _ ?side1 ?side2 A19.out).mono ?_
  (case side1 => repeat (first | exact (Kd.C_below HR0_0.out HB.out) | (with_reducible refine Kd.C_alloc ?_ _) | (with_reducible refine Kd.C_drewN ?_ _) | (with_reducible refine Kd.C_drew ?_)))
  (case side2 => exact HC0_0.out)
  rintro e w146 ⟨v274, rfl, ho0, hb⟩
  refine ⟨_, rfl, ?_⟩
  have HO275 := aZ (Kd.R_lower ho0 (below_size bZ))
  replace BK269 := aZ (blk_below (bkZ BK269.out) hb)
  replace BK270 := aZ (blk_below (bkZ BK270.out) hb)
  replace HB := aZ (below_step bZ hb)
  (try clear hb)
  (try clear hb2)
  (try clear hk)
  (try clear hi)
  (try clear ho0)
  refine hK.out _ _ ⟨(blk_cell BK269.out 0).trans rfl, (blk_cell BK269.out 1).trans rfl, (blk_cell BK269.out 2).trans rfl, (blk_cell BK270.out 0).trans rfl, (blk_cell BK270.out 1).trans rfl, (blk_cell BK270.out 2).trans rfl, (blk_cell BK270.out 3).trans rfl⟩ (fun hHeld => ?_)
  clear hK K
  refine norm_ (a' := ?_) ?_ ?_
  rotate_left
  ·show Act.put _ (some 21) _ = _
   simp only [Act.put, sZ1, sZ2, sZ3, i64_w, i32_w]
   rfl
  refine one_ (i := 3) (N := some 23) #[true, true, true, true, false, false] rfl rfl kZ (by decide) (fun K hK => ?_)
  refine goes_ Try.func18 kZ rfl #[.agg #[.int .i64 a1_0, .int .i64 a1_1, .string a1_2, .slice A1_3 l1_3.length c1_3]] (by rfl) rfl rfl tZA ?_
  with_reducible refine (laws_toEntry.calls k a1_0 a1_1 a1_2 _ _ l1_3 t278 t279 t280 t281 _ ?side1 ?side2 A20.out).mono ?_
  (case side1 => repeat (first | exact (Kd.C_below HR1_3.out HB.out) | (with_reducible refine Kd.C_alloc ?_ _) | (with_reducible refine Kd.C_drewN ?_ _) | (with_reducible refine Kd.C_drew ?_)))
  (case side2 => exact HC1_3.out)
  rintro e w147 ⟨v282, rfl, ho0, hb⟩
  refine ⟨_, rfl, ?_⟩
  replace HO275 := aZ (Kd.R_below (lZR HO275.out) hb)
  have HO283 := aZ (Kd.R_lower ho0 (below_size bZ))
  replace BK269 := aZ (blk_below (bkZ BK269.out) hb)
  replace BK270 := aZ (blk_below (bkZ BK270.out) hb)
  replace HB := aZ (below_step bZ hb)
  (try clear hb)
  (try clear hb2)
  (try clear hk)
  (try clear hi)
  (try clear ho0)
  obtain ⟨Ao148, co148, eo148⟩ := Kd.R_slice HO275.out
  (first | subst eo148 | (injection eo148 with f1_ f2_ f3_; have f4_ := f1_.symm; have f5_ := f3_.symm; clear f1_ f2_ f3_; subst f4_; subst f5_))
  obtain ⟨Ao149, co149, eo149⟩ := Kd.R_slice HO283.out
  (first | subst eo149 | (injection eo149 with f1_ f2_ f3_; have f4_ := f1_.symm; have f5_ := f3_.symm; clear f1_ f2_ f3_; subst f4_; subst f5_))
  refine hK.out _ _ ⟨(blk_cell BK269.out 0).trans rfl, (blk_cell BK269.out 1).trans rfl, (blk_cell BK269.out 2).trans rfl, (blk_cell BK270.out 0).trans rfl, (blk_cell BK270.out 1).trans rfl, (blk_cell BK270.out 2).trans rfl, (blk_cell BK270.out 3).trans rfl⟩ (fun hHeld => ?_)
  clear hK K
  refine norm_ (a' := ?_) ?_ ?_
  rotate_left
  ·show Act.put _ (some 23) _ = _
   simp only [Act.put, sZ1, sZ2, sZ3, i64_w, i32_w]
   rfl
  refine one_ (i := 4) (N := some 24) #[true, true, true, true, true, false] rfl rfl kZ (by decide) (fun K hK => ?_)
  refine goes_ Try.func16 kZ rfl #[.agg #[.slice Ao148 t273.length co148, .int .i64 t276, .int .i64 t277], .agg #[.int .i64 t278, .int .i64 t279, .string t280, .slice Ao149 t281.length co149]] (by rfl) rfl rfl tZA ?_
  with_reducible refine (spec_EntryOk.calls k _ _ t273 t276 t277 t278 t279 t280 _ _ t281 t284 _ ?side1 ?side2 ?side3 ?side4 A21.out).mono ?_
  (case side1 => repeat (first | exact (Kd.R_reads' HO275.out).2.2 | (with_reducible refine Kd.C_alloc ?_ _) | (with_reducible refine Kd.C_drewN ?_ _) | (with_reducible refine Kd.C_drew ?_)))
  (case side2 => exact (Kd.R_reads' HO275.out).2.1)
  (case side3 => repeat (first | exact (Kd.R_reads' HO283.out).2.2 | (with_reducible refine Kd.C_alloc ?_ _) | (with_reducible refine Kd.C_drewN ?_ _) | (with_reducible refine Kd.C_drew ?_)))
  (case side4 => exact (Kd.R_reads' HO283.out).2.1)
  rintro e w150 ⟨rfl, hb⟩
  refine ⟨_, rfl, ?_⟩
  replace HO275 := aZ (Kd.R_below (lZR HO275.out) hb)
  replace HO283 := aZ (Kd.R_below (lZR HO283.out) hb)
  replace BK269 := aZ (blk_below (bkZ BK269.out) hb)
  replace BK270 := aZ (blk_below (bkZ BK270.out) hb)
  replace HB := aZ (below_step bZ hb)
  (try clear hb)
  (try clear hb2)
  (try clear hk)
  (try clear hi)
  refine hK.out _ _ ⟨(blk_cell BK269.out 0).trans rfl, (blk_cell BK269.out 1).trans rfl, (blk_cell BK269.out 2).trans rfl, (blk_cell BK270.out 0).trans rfl, (blk_cell BK270.out 1).trans rfl, (blk_cell BK270.out 2).trans rfl, (blk_cell BK270.out 3).trans rfl⟩ (fun hHeld => ?_)
  clear hK K
  refine norm_ (a' := ?_) ?_ ?_
  rotate_left
  ·show Act.put _ (some 24) _ = _
   simp only [Act.put, sZ1, sZ2, sZ3, i64_w, i32_w]
   rfl
  refine pure_ (i := 5) (N := some 6) (v := ?_) (a' := ?_) #[true, true, true, true, true, true] rfl rfl kZ (fun _ _ _ h => h) (Or.inl ⟨by rfl, ?_⟩) ?_ ?_
  rotate_left
  ·intro w'
   go_simp
   with_reducible rfl
  rotate_left
  ·simp only [Act.put, sZ1, sZ2, sZ3, i64_w, i32_w]
   rfl
  refine done_ kZ ?_
  have hcz151_0 : w150.cell? ⟨gb269, 0, none⟩ = some (.slice A0_0 l0_0.length c0_0) := (blk_cell BK269.out 0).trans rfl
  have hcz151_1 : w150.cell? ⟨gb269, 1, none⟩ = some (.int .i64 a0_1) := (blk_cell BK269.out 1).trans rfl
  have hcz151_2 : w150.cell? ⟨gb269, 2, none⟩ = some (.int .i64 a0_2) := (blk_cell BK269.out 2).trans rfl
  have hfz151_0 := blk_frozen BK269.out 0
  have hfz151_1 := blk_frozen BK269.out 1
  have hfz151_2 := blk_frozen BK269.out 2
  try go_wp2_with (first | ((with_reducible refine gate_callee (f := 17) rfl ?_); refine goesL_ (some 26) rfl rfl Try.func17 kZ rfl #[.agg #[.slice A0_0 l0_0.length c0_0, .int .i64 a0_1, .int .i64 a0_2]] rfl tZA ?_; (with_reducible refine (laws_toFrame.calls k _ _ l0_0 a0_1 a0_2 t285 t288 t289 _ ?side1 ?side2 A22.out).mono ?_); (case side1 => repeat (first | exact (Kd.C_below HR0_0.out HB.out) | (with_reducible refine Kd.C_alloc ?_ _) | (with_reducible refine Kd.C_drewN ?_ _) | (with_reducible refine Kd.C_drew ?_))); (case side2 => exact HC0_0.out); rintro e w152 ⟨v286, rfl, ho0, hb⟩; refine ⟨_, rfl, ?_⟩; replace HO283 := aZ (Kd.R_below (lZR HO283.out) hb); have HO287 := aZ (Kd.R_lower (Kd.R_new' ho0 (Kd.R_lt (lZR HO275.out))) (below_size bZ)); replace HO275 := aZ (Kd.R_elder' (lZR HO275.out) (Kd.R_base ho0) hb); replace BK269 := aZ (blk_below (bkZ BK269.out) hb); replace BK270 := aZ (blk_below (bkZ BK270.out) hb); replace HB := aZ (below_step bZ hb); (try clear hb); (try clear hb2); (try clear hk); (try clear hi); (try clear ho0)) | ((with_reducible refine gate_dst (N := 7) rfl ?_); refine box_event ?hg (N := 7) ?hd (cs := #[.slice none 0 0, .int .i64 0, .int .i64 0]) (t := 33) ?hr ?_; (case hd => rfl); (case hg => rfl); (case hr => first | (go_simp; done) | (go_simp; rfl)); intro gb290 hg w153 hbox hb; replace HO275 := aZ (Kd.R_below (lZR HO275.out) hb); replace HO283 := aZ (Kd.R_below (lZR HO283.out) hb); replace HO287 := aZ (Kd.R_below (lZR HO287.out) hb); have BK290 := aZ (hbox); have GW290 := aZ ((by rw [hg]; exact (below_size bZ) : w.heap.size ≤ gb290)); have GE290 := aZ ((by rw [hg]; exact (below_size bZ) : w.heap.size ≤ gb290)); replace HB := aZ (below_step bZ hb); have NB269_290 := aZ ((by rw [hg]; exact Nat.ne_of_lt (blk_lt (bkZ BK269.out)) : gb269 ≠ gb290)); have NB290_269 := aZ ((by rw [hg]; exact Nat.ne_of_gt (blk_lt (bkZ BK269.out)) : gb290 ≠ gb269)); replace BK269 := aZ (blk_below (bkZ BK269.out) hb); have NB270_290 := aZ ((by rw [hg]; exact Nat.ne_of_lt (blk_lt (bkZ BK270.out)) : gb270 ≠ gb290)); have NB290_270 := aZ ((by rw [hg]; exact Nat.ne_of_gt (blk_lt (bkZ BK270.out)) : gb290 ≠ gb270)); replace BK270 := aZ (blk_below (bkZ BK270.out) hb); clear hb hbox hg; obtain ⟨Ao154, co154, eo154⟩ := Kd.R_slice HO287.out; subst eo154; have hnb155 := NB290_269.out; have hnc155 := NB269_290.out; have hnb156 := NB290_270.out; have hnc156 := NB270_290.out; have hcz157_0 : w153.cell? ⟨gb290, 0, none⟩ = some (.slice none 0 0) := (blk_cell BK290.out 0).trans rfl; have hcz157_1 : w153.cell? ⟨gb290, 1, none⟩ = some (.int .i64 0) := (blk_cell BK290.out 1).trans rfl; have hcz157_2 : w153.cell? ⟨gb290, 2, none⟩ = some (.int .i64 0) := (blk_cell BK290.out 2).trans rfl; have hfz157_0 := blk_frozen BK290.out 0; have hfz157_1 := blk_frozen BK290.out 1; have hfz157_2 := blk_frozen BK290.out 2; have hcz158_0 : w153.cell? ⟨gb270, 0, none⟩ = some (.int .i64 a1_0) := (blk_cell BK270.out 0).trans rfl; have hcz158_1 : w153.cell? ⟨gb270, 1, none⟩ = some (.int .i64 a1_1) := (blk_cell BK270.out 1).trans rfl; have hcz158_2 : w153.cell? ⟨gb270, 2, none⟩ = some (.string a1_2) := (blk_cell BK270.out 2).trans rfl; have hcz158_3 : w153.cell? ⟨gb270, 3, none⟩ = some (.slice A1_3 l1_3.length c1_3) := (blk_cell BK270.out 3).trans rfl; have hfz158_0 := blk_frozen BK270.out 0; have hfz158_1 := blk_frozen BK270.out 1; have hfz158_2 := blk_frozen BK270.out 2; have hfz158_3 := blk_frozen BK270.out 3) | ((with_reducible refine gate_callee (f := 18) rfl ?_); refine goesL_ (some 28) rfl rfl Try.func18 kZ rfl #[.agg #[.int .i64 a1_0, .int .i64 a1_1, .string a1_2, .slice A1_3 l1_3.length c1_3]] rfl tZA ?_; (with_reducible refine (laws_toEntry.calls k a1_0 a1_1 a1_2 _ _ l1_3 t291 t292 t293 t294 _ ?side1 ?side2 A23.out).mono ?_); (case side1 => exact Kd.C_below HR1_3.out bZ); (case side2 => exact HC1_3.out); rintro e w159 ⟨v295, rfl, ho0, hb⟩; refine ⟨_, rfl, ?_⟩; replace HO275 := aZ (Kd.R_below (by (with_reducible repeat (first | apply Kd.R_alloc | apply Kd.R_drewN | apply Kd.R_drew)); exact (Kd.R_mono (Kd.R_far (p := ⟨gb290, 2, none⟩) (Kd.R_far (p := ⟨gb290, 1, none⟩) (Kd.R_far (p := ⟨gb290, 0, none⟩) (Kd.R_types HO275.out BK290.out (by decide)) (fun _ hk => hk.2) (.slice Ao154 t285.length co154)) (fun _ hk => hk.2) (.int .i64 t288)) (fun _ hk => hk.2) (.int .i64 t289)) (fun _ h_ => h_.1))) hb); replace HO287 := aZ (Kd.R_below (by (with_reducible repeat (first | apply Kd.R_alloc | apply Kd.R_drewN | apply Kd.R_drew)); exact (Kd.R_mono (Kd.R_far (p := ⟨gb290, 2, none⟩) (Kd.R_far (p := ⟨gb290, 1, none⟩) (Kd.R_far (p := ⟨gb290, 0, none⟩) (Kd.R_types HO287.out BK290.out (by decide)) (fun _ hk => hk.2) (.slice Ao154 t285.length co154)) (fun _ hk => hk.2) (.int .i64 t288)) (fun _ hk => hk.2) (.int .i64 t289)) (fun _ h_ => h_.1))) hb); have HO296 := aZ (Kd.R_lower (Kd.R_new' ho0 (Kd.R_lt (by (with_reducible repeat (first | apply Kd.R_alloc | apply Kd.R_drewN | apply Kd.R_drew)); exact (Kd.R_mono (Kd.R_far (p := ⟨gb290, 2, none⟩) (Kd.R_far (p := ⟨gb290, 1, none⟩) (Kd.R_far (p := ⟨gb290, 0, none⟩) (Kd.R_types HO283.out BK290.out (by decide)) (fun _ hk => hk.2) (.slice Ao154 t285.length co154)) (fun _ hk => hk.2) (.int .i64 t288)) (fun _ hk => hk.2) (.int .i64 t289)) (fun _ h_ => h_.1))))) (below_size bZ)); replace HO283 := aZ (Kd.R_elder' (by (with_reducible repeat (first | apply Kd.R_alloc | apply Kd.R_drewN | apply Kd.R_drew)); exact (Kd.R_mono (Kd.R_far (p := ⟨gb290, 2, none⟩) (Kd.R_far (p := ⟨gb290, 1, none⟩) (Kd.R_far (p := ⟨gb290, 0, none⟩) (Kd.R_types HO283.out BK290.out (by decide)) (fun _ hk => hk.2) (.slice Ao154 t285.length co154)) (fun _ hk => hk.2) (.int .i64 t288)) (fun _ hk => hk.2) (.int .i64 t289)) (fun _ h_ => h_.1))) (Kd.R_base ho0) hb); replace BK269 := aZ (blk_below (g := gb269) (o := .cells #[.slice A0_0 l0_0.length c0_0, .int .i64 a0_1, .int .i64 a0_2] 24 (0, 0)) (by (with_reducible repeat (first | refine blk_drewN ?_ _ | refine blk_drew ?_ | refine blk_alloc ?_ _)); refine blk_far ?_ NB269_290.out _; (with_reducible repeat (first | refine blk_drewN ?_ _ | refine blk_drew ?_ | refine blk_alloc ?_ _)); refine blk_far ?_ NB269_290.out _; (with_reducible repeat (first | refine blk_drewN ?_ _ | refine blk_drew ?_ | refine blk_alloc ?_ _)); refine blk_far ?_ NB269_290.out _; (with_reducible repeat (first | refine blk_drewN ?_ _ | refine blk_drew ?_ | refine blk_alloc ?_ _)); exact BK269.out) hb); replace BK270 := aZ (blk_below (g := gb270) (o := .cells #[.int .i64 a1_0, .int .i64 a1_1, .string a1_2, .slice A1_3 l1_3.length c1_3] 27 (0, 0)) (by (with_reducible repeat (first | refine blk_drewN ?_ _ | refine blk_drew ?_ | refine blk_alloc ?_ _)); refine blk_far ?_ NB270_290.out _; (with_reducible repeat (first | refine blk_drewN ?_ _ | refine blk_drew ?_ | refine blk_alloc ?_ _)); refine blk_far ?_ NB270_290.out _; (with_reducible repeat (first | refine blk_drewN ?_ _ | refine blk_drew ?_ | refine blk_alloc ?_ _)); refine blk_far ?_ NB270_290.out _; (with_reducible repeat (first | refine blk_drewN ?_ _ | refine blk_drew ?_ | refine blk_alloc ?_ _)); exact BK270.out) hb); replace BK290 := aZ (blk_below (g := gb290) (o := .cells #[.slice Ao154 t285.length co154, .int .i64 t288, .int .i64 t289] 33 (0, 0)) (by (with_reducible repeat (first | refine blk_drewN ?_ _ | refine blk_drew ?_ | refine blk_alloc ?_ _)); refine blk_put (cs := #[.slice Ao154 t285.length co154, .int .i64 t288, .int .i64 0]) ?_ 2 _ rfl; (with_reducible repeat (first | refine blk_drewN ?_ _ | refine blk_drew ?_ | refine blk_alloc ?_ _)); refine blk_put (cs := #[.slice Ao154 t285.length co154, .int .i64 0, .int .i64 0]) ?_ 1 _ rfl; (with_reducible repeat (first | refine blk_drewN ?_ _ | refine blk_drew ?_ | refine blk_alloc ?_ _)); refine blk_put (cs := #[.slice none 0 0, .int .i64 0, .int .i64 0]) ?_ 0 _ rfl; (with_reducible repeat (first | refine blk_drewN ?_ _ | refine blk_drew ?_ | refine blk_alloc ?_ _)); exact BK290.out) hb); replace HB := aZ (below_step bZ hb); (try clear hb); (try clear hb2); (try clear hk); (try clear hi); (try clear ho0)) | ((with_reducible refine gate_dst (N := 8) rfl ?_); refine box_event ?hg (N := 8) ?hd (cs := #[.int .i64 0, .int .i64 0, .string (⟨#[]⟩ : ByteArray), .slice none 0 0]) (t := 37) ?hr ?_; (case hd => rfl); (case hg => rfl); (case hr => first | (go_simp; done) | (go_simp; rfl)); intro gb297 hg w160 hbox hb; replace HO275 := aZ (Kd.R_below (lZR HO275.out) hb); replace HO283 := aZ (Kd.R_below (lZR HO283.out) hb); replace HO287 := aZ (Kd.R_below (lZR HO287.out) hb); replace HO296 := aZ (Kd.R_below (lZR HO296.out) hb); have BK297 := aZ (hbox); have GW297 := aZ ((by rw [hg]; exact (below_size bZ) : w.heap.size ≤ gb297)); have GE297 := aZ ((by rw [hg]; exact (below_size bZ) : w.heap.size ≤ gb297)); replace HB := aZ (below_step bZ hb); have NB269_297 := aZ ((by rw [hg]; exact Nat.ne_of_lt (blk_lt (bkZ BK269.out)) : gb269 ≠ gb297)); have NB297_269 := aZ ((by rw [hg]; exact Nat.ne_of_gt (blk_lt (bkZ BK269.out)) : gb297 ≠ gb269)); replace BK269 := aZ (blk_below (bkZ BK269.out) hb); have NB270_297 := aZ ((by rw [hg]; exact Nat.ne_of_lt (blk_lt (bkZ BK270.out)) : gb270 ≠ gb297)); have NB297_270 := aZ ((by rw [hg]; exact Nat.ne_of_gt (blk_lt (bkZ BK270.out)) : gb297 ≠ gb270)); replace BK270 := aZ (blk_below (bkZ BK270.out) hb); have NB290_297 := aZ ((by rw [hg]; exact Nat.ne_of_lt (blk_lt (bkZ BK290.out)) : gb290 ≠ gb297)); have NB297_290 := aZ ((by rw [hg]; exact Nat.ne_of_gt (blk_lt (bkZ BK290.out)) : gb297 ≠ gb290)); replace BK290 := aZ (blk_below (bkZ BK290.out) hb); clear hb hbox hg; have hnb161 := NB297_269.out; have hnc161 := NB269_297.out; have hnb162 := NB297_270.out; have hnc162 := NB270_297.out; have hnb163 := NB297_290.out; have hnc163 := NB290_297.out; have hcz164_0 : w160.cell? ⟨gb297, 0, none⟩ = some (.int .i64 0) := (blk_cell BK297.out 0).trans rfl; have hcz164_1 : w160.cell? ⟨gb297, 1, none⟩ = some (.int .i64 0) := (blk_cell BK297.out 1).trans rfl; have hcz164_2 : w160.cell? ⟨gb297, 2, none⟩ = some (.string (⟨#[]⟩ : ByteArray)) := (blk_cell BK297.out 2).trans rfl; have hcz164_3 : w160.cell? ⟨gb297, 3, none⟩ = some (.slice none 0 0) := (blk_cell BK297.out 3).trans rfl; have hfz164_0 := blk_frozen BK297.out 0; have hfz164_1 := blk_frozen BK297.out 1; have hfz164_2 := blk_frozen BK297.out 2; have hfz164_3 := blk_frozen BK297.out 3; obtain ⟨Ao165, co165, eo165⟩ := Kd.R_slice HO296.out; subst eo165; have hcz166_0 : w160.cell? ⟨gb290, 0, none⟩ = some (.slice Ao154 t285.length co154) := (blk_cell BK290.out 0).trans rfl; have hcz166_1 : w160.cell? ⟨gb290, 1, none⟩ = some (.int .i64 t288) := (blk_cell BK290.out 1).trans rfl; have hcz166_2 : w160.cell? ⟨gb290, 2, none⟩ = some (.int .i64 t289) := (blk_cell BK290.out 2).trans rfl; have hfz166_0 := blk_frozen BK290.out 0; have hfz166_1 := blk_frozen BK290.out 1; have hfz166_2 := blk_frozen BK290.out 2) | ((with_reducible refine gate_callee (f := 19) rfl ?_); refine goesL_ (some 31) rfl rfl Try.func19 kZ rfl #[.agg #[.slice Ao154 t285.length co154, .int .i64 t288, .int .i64 t289], .agg #[.int .i64 t291, .int .i64 t292, .string t293, .slice Ao165 t294.length co165]] rfl tZA ?_; (with_reducible refine (impl_EntryOk.calls k _ _ t285 t288 t289 t291 t292 t293 _ _ t294 t298 _ ?side1 ?side2 ?side3 ?side4 A24.out).mono ?_); (case side1 => refine (Kd.R_reads' (e := 188) (base := w.heap.size) (ok := fun k_ => (True ∧ some k_ ≠ (.slice Ao148 t273.length co148 : Value).ownBlock)) (n := t285.length) (c := co154) ?_).2.2; exact (by (with_reducible repeat (first | apply Kd.R_alloc | apply Kd.R_drewN | apply Kd.R_drew)); exact (Kd.R_mono (Kd.R_far (p := ⟨gb297, 3, none⟩) (Kd.R_far (p := ⟨gb297, 2, none⟩) (Kd.R_far (p := ⟨gb297, 1, none⟩) (Kd.R_far (p := ⟨gb297, 0, none⟩) (Kd.R_types HO287.out BK297.out (by decide)) (fun _ hk => hk.2) (.int .i64 t291)) (fun _ hk => hk.2) (.int .i64 t292)) (fun _ hk => hk.2) (.string t293)) (fun _ hk => hk.2) (.slice Ao165 t294.length co165)) (fun _ h_ => h_.1)))); (case side2 => exact (Kd.R_reads' HO287.out).2.1); (case side3 => refine (Kd.R_reads' (e := 109) (base := w.heap.size) (ok := fun k_ => (True ∧ some k_ ≠ (.slice Ao149 t281.length co149 : Value).ownBlock)) (n := t294.length) (c := co165) ?_).2.2; exact (by (with_reducible repeat (first | apply Kd.R_alloc | apply Kd.R_drewN | apply Kd.R_drew)); exact (Kd.R_mono (Kd.R_far (p := ⟨gb297, 3, none⟩) (Kd.R_far (p := ⟨gb297, 2, none⟩) (Kd.R_far (p := ⟨gb297, 1, none⟩) (Kd.R_far (p := ⟨gb297, 0, none⟩) (Kd.R_types HO296.out BK297.out (by decide)) (fun _ hk => hk.2) (.int .i64 t291)) (fun _ hk => hk.2) (.int .i64 t292)) (fun _ hk => hk.2) (.string t293)) (fun _ hk => hk.2) (.slice Ao165 t294.length co165)) (fun _ h_ => h_.1)))); (case side4 => exact (Kd.R_reads' HO296.out).2.1); rintro e w167 ⟨rfl, hb⟩; refine ⟨_, rfl, ?_⟩; replace HO275 := aZ (Kd.R_below (by (with_reducible repeat (first | apply Kd.R_alloc | apply Kd.R_drewN | apply Kd.R_drew)); exact (Kd.R_mono (Kd.R_far (p := ⟨gb297, 3, none⟩) (Kd.R_far (p := ⟨gb297, 2, none⟩) (Kd.R_far (p := ⟨gb297, 1, none⟩) (Kd.R_far (p := ⟨gb297, 0, none⟩) (Kd.R_types HO275.out BK297.out (by decide)) (fun _ hk => hk.2) (.int .i64 t291)) (fun _ hk => hk.2) (.int .i64 t292)) (fun _ hk => hk.2) (.string t293)) (fun _ hk => hk.2) (.slice Ao165 t294.length co165)) (fun _ h_ => h_.1))) hb); replace HO283 := aZ (Kd.R_below (by (with_reducible repeat (first | apply Kd.R_alloc | apply Kd.R_drewN | apply Kd.R_drew)); exact (Kd.R_mono (Kd.R_far (p := ⟨gb297, 3, none⟩) (Kd.R_far (p := ⟨gb297, 2, none⟩) (Kd.R_far (p := ⟨gb297, 1, none⟩) (Kd.R_far (p := ⟨gb297, 0, none⟩) (Kd.R_types HO283.out BK297.out (by decide)) (fun _ hk => hk.2) (.int .i64 t291)) (fun _ hk => hk.2) (.int .i64 t292)) (fun _ hk => hk.2) (.string t293)) (fun _ hk => hk.2) (.slice Ao165 t294.length co165)) (fun _ h_ => h_.1))) hb); replace HO287 := aZ (Kd.R_below (by (with_reducible repeat (first | apply Kd.R_alloc | apply Kd.R_drewN | apply Kd.R_drew)); exact (Kd.R_mono (Kd.R_far (p := ⟨gb297, 3, none⟩) (Kd.R_far (p := ⟨gb297, 2, none⟩) (Kd.R_far (p := ⟨gb297, 1, none⟩) (Kd.R_far (p := ⟨gb297, 0, none⟩) (Kd.R_types HO287.out BK297.out (by decide)) (fun _ hk => hk.2) (.int .i64 t291)) (fun _ hk => hk.2) (.int .i64 t292)) (fun _ hk => hk.2) (.string t293)) (fun _ hk => hk.2) (.slice Ao165 t294.length co165)) (fun _ h_ => h_.1))) hb); replace HO296 := aZ (Kd.R_below (by (with_reducible repeat (first | apply Kd.R_alloc | apply Kd.R_drewN | apply Kd.R_drew)); exact (Kd.R_mono (Kd.R_far (p := ⟨gb297, 3, none⟩) (Kd.R_far (p := ⟨gb297, 2, none⟩) (Kd.R_far (p := ⟨gb297, 1, none⟩) (Kd.R_far (p := ⟨gb297, 0, none⟩) (Kd.R_types HO296.out BK297.out (by decide)) (fun _ hk => hk.2) (.int .i64 t291)) (fun _ hk => hk.2) (.int .i64 t292)) (fun _ hk => hk.2) (.string t293)) (fun _ hk => hk.2) (.slice Ao165 t294.length co165)) (fun _ h_ => h_.1))) hb); replace BK269 := aZ (blk_below (g := gb269) (o := .cells #[.slice A0_0 l0_0.length c0_0, .int .i64 a0_1, .int .i64 a0_2] 24 (0, 0)) (by (with_reducible repeat (first | refine blk_drewN ?_ _ | refine blk_drew ?_ | refine blk_alloc ?_ _)); refine blk_far ?_ NB269_297.out _; (with_reducible repeat (first | refine blk_drewN ?_ _ | refine blk_drew ?_ | refine blk_alloc ?_ _)); refine blk_far ?_ NB269_297.out _; (with_reducible repeat (first | refine blk_drewN ?_ _ | refine blk_drew ?_ | refine blk_alloc ?_ _)); refine blk_far ?_ NB269_297.out _; (with_reducible repeat (first | refine blk_drewN ?_ _ | refine blk_drew ?_ | refine blk_alloc ?_ _)); refine blk_far ?_ NB269_297.out _; (with_reducible repeat (first | refine blk_drewN ?_ _ | refine blk_drew ?_ | refine blk_alloc ?_ _)); exact BK269.out) hb); replace BK270 := aZ (blk_below (g := gb270) (o := .cells #[.int .i64 a1_0, .int .i64 a1_1, .string a1_2, .slice A1_3 l1_3.length c1_3] 27 (0, 0)) (by (with_reducible repeat (first | refine blk_drewN ?_ _ | refine blk_drew ?_ | refine blk_alloc ?_ _)); refine blk_far ?_ NB270_297.out _; (with_reducible repeat (first | refine blk_drewN ?_ _ | refine blk_drew ?_ | refine blk_alloc ?_ _)); refine blk_far ?_ NB270_297.out _; (with_reducible repeat (first | refine blk_drewN ?_ _ | refine blk_drew ?_ | refine blk_alloc ?_ _)); refine blk_far ?_ NB270_297.out _; (with_reducible repeat (first | refine blk_drewN ?_ _ | refine blk_drew ?_ | refine blk_alloc ?_ _)); refine blk_far ?_ NB270_297.out _; (with_reducible repeat (first | refine blk_drewN ?_ _ | refine blk_drew ?_ | refine blk_alloc ?_ _)); exact BK270.out) hb); replace BK290 := aZ (blk_below (g := gb290) (o := .cells #[.slice Ao154 t285.length co154, .int .i64 t288, .int .i64 t289] 33 (0, 0)) (by (with_reducible repeat (first | refine blk_drewN ?_ _ | refine blk_drew ?_ | refine blk_alloc ?_ _)); refine blk_far ?_ NB290_297.out _; (with_reducible repeat (first | refine blk_drewN ?_ _ | refine blk_drew ?_ | refine blk_alloc ?_ _)); refine blk_far ?_ NB290_297.out _; (with_reducible repeat (first | refine blk_drewN ?_ _ | refine blk_drew ?_ | refine blk_alloc ?_ _)); refine blk_far ?_ NB290_297.out _; (with_reducible repeat (first | refine blk_drewN ?_ _ | refine blk_drew ?_ | refine blk_alloc ?_ _)); refine blk_far ?_ NB290_297.out _; (with_reducible repeat (first | refine blk_drewN ?_ _ | refine blk_drew ?_ | refine blk_alloc ?_ _)); exact BK290.out) hb); replace BK297 := aZ (blk_below (g := gb297) (o := .cells #[.int .i64 t291, .int .i64 t292, .string t293, .slice Ao165 t294.length co165] 37 (0, 0)) (by (with_reducible repeat (first | refine blk_drewN ?_ _ | refine blk_drew ?_ | refine blk_alloc ?_ _)); refine blk_put (cs := #[.int .i64 t291, .int .i64 t292, .string t293, .slice none 0 0]) ?_ 3 _ rfl; (with_reducible repeat (first | refine blk_drewN ?_ _ | refine blk_drew ?_ | refine blk_alloc ?_ _)); refine blk_put (cs := #[.int .i64 t291, .int .i64 t292, .string (⟨#[]⟩ : ByteArray), .slice none 0 0]) ?_ 2 _ rfl; (with_reducible repeat (first | refine blk_drewN ?_ _ | refine blk_drew ?_ | refine blk_alloc ?_ _)); refine blk_put (cs := #[.int .i64 t291, .int .i64 0, .string (⟨#[]⟩ : ByteArray), .slice none 0 0]) ?_ 1 _ rfl; (with_reducible repeat (first | refine blk_drewN ?_ _ | refine blk_drew ?_ | refine blk_alloc ?_ _)); refine blk_put (cs := #[.int .i64 0, .int .i64 0, .string (⟨#[]⟩ : ByteArray), .slice none 0 0]) ?_ 0 _ rfl; (with_reducible repeat (first | refine blk_drewN ?_ _ | refine blk_drew ?_ | refine blk_alloc ?_ _)); exact BK297.out) hb); replace HB := aZ (below_step bZ hb); (try clear hb); (try clear hb2); (try clear hk); (try clear hi)))
  replace HO275 := aZ (Kd.R_drew HO275.out)
  replace HO283 := aZ (Kd.R_drew HO283.out)
  replace HO287 := aZ (Kd.R_drew HO287.out)
  replace HO296 := aZ (Kd.R_drew HO296.out)
  replace BK269 := aZ (blk_drew BK269.out)
  replace BK270 := aZ (blk_drew BK270.out)
  replace BK290 := aZ (blk_drew BK290.out)
  replace BK297 := aZ (blk_drew BK297.out)
  replace HB := aZ (below_drew1 HB.out)
  refine start_ (n := 5) (S := fun w' => w'.cell? ⟨gb290, 0, none⟩ = some (.slice Ao154 t285.length co154) ∧ w'.cell? ⟨gb290, 1, none⟩ = some (.int .i64 t288) ∧ w'.cell? ⟨gb290, 2, none⟩ = some (.int .i64 t289) ∧ w'.cell? ⟨gb269, 0, none⟩ = some (.slice A0_0 l0_0.length c0_0) ∧ w'.cell? ⟨gb269, 1, none⟩ = some (.int .i64 a0_1) ∧ w'.cell? ⟨gb269, 2, none⟩ = some (.int .i64 a0_2)) (ds := []) #[false, false, false, false, false] kZ rfl rfl ⟨(blk_cell BK290.out 0).trans rfl, (blk_cell BK290.out 1).trans rfl, (blk_cell BK290.out 2).trans rfl, (blk_cell BK269.out 0).trans rfl, (blk_cell BK269.out 1).trans rfl, (blk_cell BK269.out 2).trans rfl⟩ (fun hHeld => ?_)
  generalize w167.drew = w168 at HO275 HO283 HO287 HO296 BK269 BK270 BK290 BK297 HB hHeld ⊢
  refine take_ (i := 0) (N := some 35) (v := ?_) (a' := ?_) #[true, false, false, false, false] rfl rfl kZ (fun _ _ _ h => h) (Or.inl ⟨by rfl, ?_⟩) hHeld ?_ ?_
  rotate_left
  ·rintro w' ⟨s0, s1, s2, s3, s4, s5⟩
   go_simp
   with_reducible rfl
  rotate_left
  ·simp only [Act.put, sZ1, sZ2, sZ3, i64_w, i32_w]
   rfl
  refine take_ (i := 1) (N := some 36) (v := ?_) (a' := ?_) #[true, true, false, false, false] rfl rfl kZ (fun _ _ _ h => h) (Or.inl ⟨by rfl, ?_⟩) hHeld ?_ ?_
  rotate_left
  ·rintro w' ⟨s0, s1, s2, s3, s4, s5⟩
   go_simp
   with_reducible rfl
  rotate_left
  ·simp only [Act.put, sZ1, sZ2, sZ3, i64_w, i32_w]
   rfl
  refine one_ (i := 2) (N := some 37) #[true, true, true, false, false] rfl rfl kZ (by decide) (fun K hK => ?_)
  refine goes_ Try.func17 kZ rfl #[.agg #[.slice A0_0 l0_0.length c0_0, .int .i64 a0_1, .int .i64 a0_2]] (by rfl) rfl rfl tZA ?_
  with_reducible refine (laws_toFrame.calls k _ _ l0_0 a0_1 a0_2 t299 t302 t303 _ ?side1 ?side2 A56.out).mono ?_
  (case side1 => repeat (first | exact (Kd.C_below HR0_0.out HB.out) | (with_reducible refine Kd.C_alloc ?_ _) | (with_reducible refine Kd.C_drewN ?_ _) | (with_reducible refine Kd.C_drew ?_)))
  (case side2 => exact HC0_0.out)
  rintro e w169 ⟨v300, rfl, ho0, hb⟩
  refine ⟨_, rfl, ?_⟩
  replace HO283 := aZ (Kd.R_below (lZR HO283.out) hb)
  replace HO296 := aZ (Kd.R_below (lZR HO296.out) hb)
  have HO301 := aZ (Kd.R_lower (Kd.R_new' (Kd.R_new' ho0 (Kd.R_lt (lZR HO275.out))) (Kd.R_lt (lZR HO287.out))) (below_size bZ))
  replace HO275 := aZ (Kd.R_elder' (lZR HO275.out) (Kd.R_base ho0) hb)
  replace HO287 := aZ (Kd.R_elder' (lZR HO287.out) (Kd.R_base ho0) hb)
  replace BK269 := aZ (blk_below (bkZ BK269.out) hb)
  replace BK270 := aZ (blk_below (bkZ BK270.out) hb)
  replace BK290 := aZ (blk_below (bkZ BK290.out) hb)
  replace BK297 := aZ (blk_below (bkZ BK297.out) hb)
  replace HB := aZ (below_step bZ hb)
  (try clear hb)
  (try clear hb2)
  (try clear hk)
  (try clear hi)
  (try clear ho0)
  obtain ⟨Ao170, co170, eo170⟩ := Kd.R_slice HO301.out
  (first | subst eo170 | (injection eo170 with f1_ f2_ f3_; have f4_ := f1_.symm; have f5_ := f3_.symm; clear f1_ f2_ f3_; subst f4_; subst f5_))
  refine hK.out _ _ ⟨(blk_cell BK290.out 0).trans rfl, (blk_cell BK290.out 1).trans rfl, (blk_cell BK290.out 2).trans rfl, (blk_cell BK269.out 0).trans rfl, (blk_cell BK269.out 1).trans rfl, (blk_cell BK269.out 2).trans rfl⟩ (fun hHeld => ?_)
  clear hK K
  refine norm_ (a' := ?_) ?_ ?_
  rotate_left
  ·show Act.put _ (some 37) _ = _
   simp only [Act.put, sZ1, sZ2, sZ3, i64_w, i32_w]
   rfl
  refine one_ (i := 3) (N := some 38) #[true, true, true, true, false] rfl rfl kZ (by decide) (fun K hK => ?_)
  refine goes_ Try.func20 kZ rfl #[.agg #[.slice Ao154 t285.length co154, .int .i64 t288, .int .i64 t289], .agg #[.slice Ao170 t299.length co170, .int .i64 t302, .int .i64 t303]] (by rfl) rfl rfl tZA ?_
  with_reducible refine (laws_eqFrame.calls k _ _ t285 t288 t289 _ _ t299 t302 t303 false _ ?side1 ?side2 ?side3 ?side4 A57.out).mono ?_
  (case side1 => repeat (first | exact (Kd.R_reads' HO287.out).2.2 | (with_reducible refine Kd.C_alloc ?_ _) | (with_reducible refine Kd.C_drewN ?_ _) | (with_reducible refine Kd.C_drew ?_)))
  (case side2 => exact (Kd.R_reads' HO287.out).2.1)
  (case side3 => repeat (first | exact (Kd.R_reads' HO301.out).2.2 | (with_reducible refine Kd.C_alloc ?_ _) | (with_reducible refine Kd.C_drewN ?_ _) | (with_reducible refine Kd.C_drew ?_)))
  (case side4 => exact (Kd.R_reads' HO301.out).2.1)
  rintro e w171 ⟨rfl, hb⟩
  refine ⟨_, rfl, ?_⟩
  replace HO275 := aZ (Kd.R_below (lZR HO275.out) hb)
  replace HO283 := aZ (Kd.R_below (lZR HO283.out) hb)
  replace HO287 := aZ (Kd.R_below (lZR HO287.out) hb)
  replace HO296 := aZ (Kd.R_below (lZR HO296.out) hb)
  replace HO301 := aZ (Kd.R_below (lZR HO301.out) hb)
  replace BK269 := aZ (blk_below (bkZ BK269.out) hb)
  replace BK270 := aZ (blk_below (bkZ BK270.out) hb)
  replace BK290 := aZ (blk_below (bkZ BK290.out) hb)
  replace BK297 := aZ (blk_below (bkZ BK297.out) hb)
  replace HB := aZ (below_step bZ hb)
  (try clear hb)
  (try clear hb2)
  (try clear hk)
  (try clear hi)
  refine hK.out _ _ ⟨(blk_cell BK290.out 0).trans rfl, (blk_cell BK290.out 1).trans rfl, (blk_cell BK290.out 2).trans rfl, (blk_cell BK269.out 0).trans rfl, (blk_cell BK269.out 1).trans rfl, (blk_cell BK269.out 2).trans rfl⟩ (fun hHeld => ?_)
  clear hK K
  refine norm_ (a' := ?_) ?_ ?_
  rotate_left
  ·show Act.put _ (some 38) _ = _
   simp only [Act.put, sZ1, sZ2, sZ3, i64_w, i32_w]
   rfl
  refine pure_ (i := 4) (N := some 39) (v := ?_) (a' := ?_) #[true, true, true, true, true] rfl rfl kZ (fun _ _ _ h => h) (Or.inl ⟨by rfl, ?_⟩) ?_ ?_
  rotate_left
  ·intro w'
   go_simp
   with_reducible rfl
  rotate_left
  ·simp only [Act.put, sZ1, sZ2, sZ3, i64_w, i32_w]
   rfl
  refine done_ kZ ?_
  try go_wp2
  go_ret
  exact ⟨tZC, bZ⟩
 subst c58
 have H1 : ((laws_toEntry.f k a1_0 a1_1 a1_2 l1_3).bind fun bt305 => ((laws_eqEntry.f k t291 t292 t293 t294 bt305.1 bt305.2.1 bt305.2.2.1 bt305.2.2.2).bind fun t311 => (if t311 = true then (some true) else (some false)))) = some r := by rw [if_pos rfl] at H; exact H
 clear H
 have H := H1
 clear H1
 replace H := Option.bind_eq_some_iff.mp H
 obtain ⟨⟨t305, t306, t307, t308⟩, A590, H⟩ := H
 replace H : ((laws_eqEntry.f k t291 t292 t293 t294 t305 t306 t307 t308).bind fun t311 => (if t311 = true then (some true) else (some false))) = some r := H
 have A59 := Aside0.mk A590
 clear A590
 replace H := Option.bind_eq_some_iff.mp H
 obtain ⟨t311, A600, H⟩ := H
 replace H : (if t311 = true then (some true) else (some false)) = some r := H
 have A60 := Aside0.mk A600
 clear A600
 by_cases c61 : t311 = true
 ·subst c61
  have H1 : (some true) = some r := by rw [if_pos rfl] at H; exact H
  clear H
  have H := H1
  clear H1
  obtain rfl := Option.some.inj H
  go_enter Try.func3, Try.ntmps3
  try go_wp2_with (first | ((with_reducible refine gate_dst (N := 2) rfl ?_); refine box_event ?hg (N := 2) ?hd (cs := #[.slice A0_0 l0_0.length c0_0, .int .i64 a0_1, .int .i64 a0_2]) (t := 24) ?hr ?_; (case hd => rfl); (case hg => rfl); (case hr => first | (go_simp; done) | (go_simp; rfl)); intro gb269 hg w62 hbox hb; have BK269 := aZ (hbox); have GW269 := aZ ((by rw [hg]; exact (below_size (lZB HB.out)) : w.heap.size ≤ gb269)); have GE269 := aZ ((by rw [hg]; exact (below_size (lZB HB.out)) : w.heap.size ≤ gb269)); replace HB := aZ (below_step (lZB HB.out) hb); clear hb hbox hg) | ((with_reducible refine gate_dst (N := 3) rfl ?_); refine box_event ?hg (N := 3) ?hd (cs := #[.int .i64 a1_0, .int .i64 a1_1, .string a1_2, .slice A1_3 l1_3.length c1_3]) (t := 27) ?hr ?_; (case hd => rfl); (case hg => rfl); (case hr => first | (go_simp; done) | (go_simp; rfl)); intro gb270 hg w63 hbox hb; have BK270 := aZ (hbox); have GW270 := aZ ((by rw [hg]; exact (below_size bZ) : w.heap.size ≤ gb270)); have GE270 := aZ ((by rw [hg]; exact (below_size bZ) : w.heap.size ≤ gb270)); replace HB := aZ (below_step bZ hb); have NB269_270 := aZ ((by rw [hg]; exact Nat.ne_of_lt (blk_lt (bkZ BK269.out)) : gb269 ≠ gb270)); have NB270_269 := aZ ((by rw [hg]; exact Nat.ne_of_gt (blk_lt (bkZ BK269.out)) : gb270 ≠ gb269)); replace BK269 := aZ (blk_below (bkZ BK269.out) hb); clear hb hbox hg; have hnb64 := NB269_270.out; have hnc64 := NB270_269.out; have hcz65_0 : w63.cell? ⟨gb269, 0, none⟩ = some (.slice A0_0 l0_0.length c0_0) := (blk_cell BK269.out 0).trans rfl; have hcz65_1 : w63.cell? ⟨gb269, 1, none⟩ = some (.int .i64 a0_1) := (blk_cell BK269.out 1).trans rfl; have hcz65_2 : w63.cell? ⟨gb269, 2, none⟩ = some (.int .i64 a0_2) := (blk_cell BK269.out 2).trans rfl; have hfz65_0 := blk_frozen BK269.out 0; have hfz65_1 := blk_frozen BK269.out 1; have hfz65_2 := blk_frozen BK269.out 2) | ((with_reducible refine gate_callee (f := 14) rfl ?_); refine goesL_ (some 12) rfl rfl Try.func14 kZ rfl #[.agg #[.slice A0_0 l0_0.length c0_0, .int .i64 a0_1, .int .i64 a0_2], .int .i64 1048576] rfl tZA ?_; (with_reducible refine (laws_szFrame.calls k _ _ l0_0 a0_1 a0_2 1048576 t271 _ ?side1 ?side2 A3.out).mono ?_); (case side1 => repeat (first | exact (Kd.C_below HR0_0.out HB.out) | (with_reducible refine Kd.C_alloc ?_ _) | (with_reducible refine Kd.C_drewN ?_ _) | (with_reducible refine Kd.C_drew ?_))); (case side2 => exact HC0_0.out); rintro e w66 ⟨rfl, hb⟩; refine ⟨_, rfl, ?_⟩; replace BK269 := aZ (blk_below (bkZ BK269.out) hb); replace BK270 := aZ (blk_below (bkZ BK270.out) hb); replace HB := aZ (below_step bZ hb); (try clear hb); (try clear hb2); (try clear hk); (try clear hi); have hcz67_0 : w66.cell? ⟨gb270, 0, none⟩ = some (.int .i64 a1_0) := (blk_cell BK270.out 0).trans rfl; have hcz67_1 : w66.cell? ⟨gb270, 1, none⟩ = some (.int .i64 a1_1) := (blk_cell BK270.out 1).trans rfl; have hcz67_2 : w66.cell? ⟨gb270, 2, none⟩ = some (.string a1_2) := (blk_cell BK270.out 2).trans rfl; have hcz67_3 : w66.cell? ⟨gb270, 3, none⟩ = some (.slice A1_3 l1_3.length c1_3) := (blk_cell BK270.out 3).trans rfl; have hfz67_0 := blk_frozen BK270.out 0; have hfz67_1 := blk_frozen BK270.out 1; have hfz67_2 := blk_frozen BK270.out 2; have hfz67_3 := blk_frozen BK270.out 3) | ((with_reducible refine gate_callee (f := 15) rfl ?_); refine goesL_ (some 17) rfl rfl Try.func15 kZ rfl #[.agg #[.int .i64 a1_0, .int .i64 a1_1, .string a1_2, .slice A1_3 l1_3.length c1_3], .int .i64 t271] rfl tZA ?_; (with_reducible refine (laws_szEntry.calls a1_0 a1_1 a1_2 _ _ l1_3 t271 t272 _ ?side1 ?side2 A10.out).mono ?_); (case side1 => repeat (first | exact (Kd.C_below HR1_3.out HB.out) | (with_reducible refine Kd.C_alloc ?_ _) | (with_reducible refine Kd.C_drewN ?_ _) | (with_reducible refine Kd.C_drew ?_))); (case side2 => exact HC1_3.out); rintro e w68 ⟨rfl, hb⟩; refine ⟨_, rfl, ?_⟩; replace BK269 := aZ (blk_below (bkZ BK269.out) hb); replace BK270 := aZ (blk_below (bkZ BK270.out) hb); replace HB := aZ (below_step bZ hb); (try clear hb); (try clear hb2); (try clear hk); (try clear hi)))
  replace BK269 := aZ (blk_drew BK269.out)
  replace BK270 := aZ (blk_drew BK270.out)
  replace HB := aZ (below_drew1 HB.out)
  refine start_ (n := 6) (S := fun w' => w'.cell? ⟨gb269, 0, none⟩ = some (.slice A0_0 l0_0.length c0_0) ∧ w'.cell? ⟨gb269, 1, none⟩ = some (.int .i64 a0_1) ∧ w'.cell? ⟨gb269, 2, none⟩ = some (.int .i64 a0_2) ∧ w'.cell? ⟨gb270, 0, none⟩ = some (.int .i64 a1_0) ∧ w'.cell? ⟨gb270, 1, none⟩ = some (.int .i64 a1_1) ∧ w'.cell? ⟨gb270, 2, none⟩ = some (.string a1_2) ∧ w'.cell? ⟨gb270, 3, none⟩ = some (.slice A1_3 l1_3.length c1_3)) (ds := []) L0' kZ rfl rfl ⟨(blk_cell BK269.out 0).trans rfl, (blk_cell BK269.out 1).trans rfl, (blk_cell BK269.out 2).trans rfl, (blk_cell BK270.out 0).trans rfl, (blk_cell BK270.out 1).trans rfl, (blk_cell BK270.out 2).trans rfl, (blk_cell BK270.out 3).trans rfl⟩ (fun hHeld => ?_)
  generalize w68.drew = w69 at BK269 BK270 HB hHeld ⊢
  refine take_ (i := 0) (N := some 20) (v := ?_) (a' := ?_) L1' rfl rfl kZ (fun _ _ _ h => h) (Or.inl ⟨by rfl, ?_⟩) hHeld ?_ ?_
  rotate_left
  ·rintro w' ⟨s0, s1, s2, s3, s4, s5, s6⟩
   go_simp
   with_reducible rfl
  rotate_left
  ·simp only [Act.put, sZ1, sZ2, sZ3, i64_w, i32_w]
   rfl
  refine take_ (i := 2) (N := some 22) (v := ?_) (a' := ?_) L2' rfl rfl kZ (fun _ _ _ h => h) (Or.inl ⟨by rfl, ?_⟩) hHeld ?_ ?_
  rotate_left
  ·rintro w' ⟨s0, s1, s2, s3, s4, s5, s6⟩
   go_simp
   with_reducible rfl
  rotate_left
  ·simp only [Act.put, sZ1, sZ2, sZ3, i64_w, i32_w]
   rfl
  refine one_ (i := 1) (N := some 21) L3' rfl rfl kZ (by decide) (fun K hK => ?_)
  refine goes_ Try.func17 kZ rfl #[.agg #[.slice A0_0 l0_0.length c0_0, .int .i64 a0_1, .int .i64 a0_2]] (by rfl) rfl rfl tZA ?_
  with_reducible refine (laws_toFrame.calls k _ _ l0_0 a0_1 a0_2 t273 t276 t277 _ ?side1 ?side2 A19.out).mono ?_
  (case side1 => repeat (first | exact (Kd.C_below HR0_0.out HB.out) | (with_reducible refine Kd.C_alloc ?_ _) | (with_reducible refine Kd.C_drewN ?_ _) | (with_reducible refine Kd.C_drew ?_)))
  (case side2 => exact HC0_0.out)
  rintro e w70 ⟨v274, rfl, ho0, hb⟩
  refine ⟨_, rfl, ?_⟩
  have HO275 := aZ (Kd.R_lower ho0 (below_size bZ))
  replace BK269 := aZ (blk_below (bkZ BK269.out) hb)
  replace BK270 := aZ (blk_below (bkZ BK270.out) hb)
  replace HB := aZ (below_step bZ hb)
  (try clear hb)
  (try clear hb2)
  (try clear hk)
  (try clear hi)
  (try clear ho0)
  refine hK.out _ _ ⟨(blk_cell BK269.out 0).trans rfl, (blk_cell BK269.out 1).trans rfl, (blk_cell BK269.out 2).trans rfl, (blk_cell BK270.out 0).trans rfl, (blk_cell BK270.out 1).trans rfl, (blk_cell BK270.out 2).trans rfl, (blk_cell BK270.out 3).trans rfl⟩ (fun hHeld => ?_)
  clear hK K
  refine norm_ (a' := ?_) ?_ ?_
  rotate_left
  ·show Act.put _ (some 21) _ = _
   simp only [Act.put, sZ1, sZ2, sZ3, i64_w, i32_w]
   rfl
  refine one_ (i := 3) (N := some 23) #[true, true, true, true, false, false] rfl rfl kZ (by decide) (fun K hK => ?_)
  refine goes_ Try.func18 kZ rfl #[.agg #[.int .i64 a1_0, .int .i64 a1_1, .string a1_2, .slice A1_3 l1_3.length c1_3]] (by rfl) rfl rfl tZA ?_
  with_reducible refine (laws_toEntry.calls k a1_0 a1_1 a1_2 _ _ l1_3 t278 t279 t280 t281 _ ?side1 ?side2 A20.out).mono ?_
  (case side1 => repeat (first | exact (Kd.C_below HR1_3.out HB.out) | (with_reducible refine Kd.C_alloc ?_ _) | (with_reducible refine Kd.C_drewN ?_ _) | (with_reducible refine Kd.C_drew ?_)))
  (case side2 => exact HC1_3.out)
  rintro e w71 ⟨v282, rfl, ho0, hb⟩
  refine ⟨_, rfl, ?_⟩
  replace HO275 := aZ (Kd.R_below (lZR HO275.out) hb)
  have HO283 := aZ (Kd.R_lower ho0 (below_size bZ))
  replace BK269 := aZ (blk_below (bkZ BK269.out) hb)
  replace BK270 := aZ (blk_below (bkZ BK270.out) hb)
  replace HB := aZ (below_step bZ hb)
  (try clear hb)
  (try clear hb2)
  (try clear hk)
  (try clear hi)
  (try clear ho0)
  obtain ⟨Ao72, co72, eo72⟩ := Kd.R_slice HO275.out
  (first | subst eo72 | (injection eo72 with f1_ f2_ f3_; have f4_ := f1_.symm; have f5_ := f3_.symm; clear f1_ f2_ f3_; subst f4_; subst f5_))
  obtain ⟨Ao73, co73, eo73⟩ := Kd.R_slice HO283.out
  (first | subst eo73 | (injection eo73 with f1_ f2_ f3_; have f4_ := f1_.symm; have f5_ := f3_.symm; clear f1_ f2_ f3_; subst f4_; subst f5_))
  refine hK.out _ _ ⟨(blk_cell BK269.out 0).trans rfl, (blk_cell BK269.out 1).trans rfl, (blk_cell BK269.out 2).trans rfl, (blk_cell BK270.out 0).trans rfl, (blk_cell BK270.out 1).trans rfl, (blk_cell BK270.out 2).trans rfl, (blk_cell BK270.out 3).trans rfl⟩ (fun hHeld => ?_)
  clear hK K
  refine norm_ (a' := ?_) ?_ ?_
  rotate_left
  ·show Act.put _ (some 23) _ = _
   simp only [Act.put, sZ1, sZ2, sZ3, i64_w, i32_w]
   rfl
  refine one_ (i := 4) (N := some 24) #[true, true, true, true, true, false] rfl rfl kZ (by decide) (fun K hK => ?_)
  refine goes_ Try.func16 kZ rfl #[.agg #[.slice Ao72 t273.length co72, .int .i64 t276, .int .i64 t277], .agg #[.int .i64 t278, .int .i64 t279, .string t280, .slice Ao73 t281.length co73]] (by rfl) rfl rfl tZA ?_
  with_reducible refine (spec_EntryOk.calls k _ _ t273 t276 t277 t278 t279 t280 _ _ t281 t284 _ ?side1 ?side2 ?side3 ?side4 A21.out).mono ?_
  (case side1 => repeat (first | exact (Kd.R_reads' HO275.out).2.2 | (with_reducible refine Kd.C_alloc ?_ _) | (with_reducible refine Kd.C_drewN ?_ _) | (with_reducible refine Kd.C_drew ?_)))
  (case side2 => exact (Kd.R_reads' HO275.out).2.1)
  (case side3 => repeat (first | exact (Kd.R_reads' HO283.out).2.2 | (with_reducible refine Kd.C_alloc ?_ _) | (with_reducible refine Kd.C_drewN ?_ _) | (with_reducible refine Kd.C_drew ?_)))
  (case side4 => exact (Kd.R_reads' HO283.out).2.1)
  rintro e w74 ⟨rfl, hb⟩
  refine ⟨_, rfl, ?_⟩
  replace HO275 := aZ (Kd.R_below (lZR HO275.out) hb)
  replace HO283 := aZ (Kd.R_below (lZR HO283.out) hb)
  replace BK269 := aZ (blk_below (bkZ BK269.out) hb)
  replace BK270 := aZ (blk_below (bkZ BK270.out) hb)
  replace HB := aZ (below_step bZ hb)
  (try clear hb)
  (try clear hb2)
  (try clear hk)
  (try clear hi)
  refine hK.out _ _ ⟨(blk_cell BK269.out 0).trans rfl, (blk_cell BK269.out 1).trans rfl, (blk_cell BK269.out 2).trans rfl, (blk_cell BK270.out 0).trans rfl, (blk_cell BK270.out 1).trans rfl, (blk_cell BK270.out 2).trans rfl, (blk_cell BK270.out 3).trans rfl⟩ (fun hHeld => ?_)
  clear hK K
  refine norm_ (a' := ?_) ?_ ?_
  rotate_left
  ·show Act.put _ (some 24) _ = _
   simp only [Act.put, sZ1, sZ2, sZ3, i64_w, i32_w]
   rfl
  refine pure_ (i := 5) (N := some 6) (v := ?_) (a' := ?_) #[true, true, true, true, true, true] rfl rfl kZ (fun _ _ _ h => h) (Or.inl ⟨by rfl, ?_⟩) ?_ ?_
  rotate_left
  ·intro w'
   go_simp
   with_reducible rfl
  rotate_left
  ·simp only [Act.put, sZ1, sZ2, sZ3, i64_w, i32_w]
   rfl
  refine done_ kZ ?_
  have hcz75_0 : w74.cell? ⟨gb269, 0, none⟩ = some (.slice A0_0 l0_0.length c0_0) := (blk_cell BK269.out 0).trans rfl
  have hcz75_1 : w74.cell? ⟨gb269, 1, none⟩ = some (.int .i64 a0_1) := (blk_cell BK269.out 1).trans rfl
  have hcz75_2 : w74.cell? ⟨gb269, 2, none⟩ = some (.int .i64 a0_2) := (blk_cell BK269.out 2).trans rfl
  have hfz75_0 := blk_frozen BK269.out 0
  have hfz75_1 := blk_frozen BK269.out 1
  have hfz75_2 := blk_frozen BK269.out 2
  try go_wp2_with (first | ((with_reducible refine gate_callee (f := 17) rfl ?_); refine goesL_ (some 26) rfl rfl Try.func17 kZ rfl #[.agg #[.slice A0_0 l0_0.length c0_0, .int .i64 a0_1, .int .i64 a0_2]] rfl tZA ?_; (with_reducible refine (laws_toFrame.calls k _ _ l0_0 a0_1 a0_2 t285 t288 t289 _ ?side1 ?side2 A22.out).mono ?_); (case side1 => repeat (first | exact (Kd.C_below HR0_0.out HB.out) | (with_reducible refine Kd.C_alloc ?_ _) | (with_reducible refine Kd.C_drewN ?_ _) | (with_reducible refine Kd.C_drew ?_))); (case side2 => exact HC0_0.out); rintro e w76 ⟨v286, rfl, ho0, hb⟩; refine ⟨_, rfl, ?_⟩; replace HO283 := aZ (Kd.R_below (lZR HO283.out) hb); have HO287 := aZ (Kd.R_lower (Kd.R_new' ho0 (Kd.R_lt (lZR HO275.out))) (below_size bZ)); replace HO275 := aZ (Kd.R_elder' (lZR HO275.out) (Kd.R_base ho0) hb); replace BK269 := aZ (blk_below (bkZ BK269.out) hb); replace BK270 := aZ (blk_below (bkZ BK270.out) hb); replace HB := aZ (below_step bZ hb); (try clear hb); (try clear hb2); (try clear hk); (try clear hi); (try clear ho0)) | ((with_reducible refine gate_dst (N := 7) rfl ?_); refine box_event ?hg (N := 7) ?hd (cs := #[.slice none 0 0, .int .i64 0, .int .i64 0]) (t := 33) ?hr ?_; (case hd => rfl); (case hg => rfl); (case hr => first | (go_simp; done) | (go_simp; rfl)); intro gb290 hg w77 hbox hb; replace HO275 := aZ (Kd.R_below (lZR HO275.out) hb); replace HO283 := aZ (Kd.R_below (lZR HO283.out) hb); replace HO287 := aZ (Kd.R_below (lZR HO287.out) hb); have BK290 := aZ (hbox); have GW290 := aZ ((by rw [hg]; exact (below_size bZ) : w.heap.size ≤ gb290)); have GE290 := aZ ((by rw [hg]; exact (below_size bZ) : w.heap.size ≤ gb290)); replace HB := aZ (below_step bZ hb); have NB269_290 := aZ ((by rw [hg]; exact Nat.ne_of_lt (blk_lt (bkZ BK269.out)) : gb269 ≠ gb290)); have NB290_269 := aZ ((by rw [hg]; exact Nat.ne_of_gt (blk_lt (bkZ BK269.out)) : gb290 ≠ gb269)); replace BK269 := aZ (blk_below (bkZ BK269.out) hb); have NB270_290 := aZ ((by rw [hg]; exact Nat.ne_of_lt (blk_lt (bkZ BK270.out)) : gb270 ≠ gb290)); have NB290_270 := aZ ((by rw [hg]; exact Nat.ne_of_gt (blk_lt (bkZ BK270.out)) : gb290 ≠ gb270)); replace BK270 := aZ (blk_below (bkZ BK270.out) hb); clear hb hbox hg; obtain ⟨Ao78, co78, eo78⟩ := Kd.R_slice HO287.out; subst eo78; have hnb79 := NB290_269.out; have hnc79 := NB269_290.out; have hnb80 := NB290_270.out; have hnc80 := NB270_290.out; have hcz81_0 : w77.cell? ⟨gb290, 0, none⟩ = some (.slice none 0 0) := (blk_cell BK290.out 0).trans rfl; have hcz81_1 : w77.cell? ⟨gb290, 1, none⟩ = some (.int .i64 0) := (blk_cell BK290.out 1).trans rfl; have hcz81_2 : w77.cell? ⟨gb290, 2, none⟩ = some (.int .i64 0) := (blk_cell BK290.out 2).trans rfl; have hfz81_0 := blk_frozen BK290.out 0; have hfz81_1 := blk_frozen BK290.out 1; have hfz81_2 := blk_frozen BK290.out 2; have hcz82_0 : w77.cell? ⟨gb270, 0, none⟩ = some (.int .i64 a1_0) := (blk_cell BK270.out 0).trans rfl; have hcz82_1 : w77.cell? ⟨gb270, 1, none⟩ = some (.int .i64 a1_1) := (blk_cell BK270.out 1).trans rfl; have hcz82_2 : w77.cell? ⟨gb270, 2, none⟩ = some (.string a1_2) := (blk_cell BK270.out 2).trans rfl; have hcz82_3 : w77.cell? ⟨gb270, 3, none⟩ = some (.slice A1_3 l1_3.length c1_3) := (blk_cell BK270.out 3).trans rfl; have hfz82_0 := blk_frozen BK270.out 0; have hfz82_1 := blk_frozen BK270.out 1; have hfz82_2 := blk_frozen BK270.out 2; have hfz82_3 := blk_frozen BK270.out 3) | ((with_reducible refine gate_callee (f := 18) rfl ?_); refine goesL_ (some 28) rfl rfl Try.func18 kZ rfl #[.agg #[.int .i64 a1_0, .int .i64 a1_1, .string a1_2, .slice A1_3 l1_3.length c1_3]] rfl tZA ?_; (with_reducible refine (laws_toEntry.calls k a1_0 a1_1 a1_2 _ _ l1_3 t291 t292 t293 t294 _ ?side1 ?side2 A23.out).mono ?_); (case side1 => exact Kd.C_below HR1_3.out bZ); (case side2 => exact HC1_3.out); rintro e w83 ⟨v295, rfl, ho0, hb⟩; refine ⟨_, rfl, ?_⟩; replace HO275 := aZ (Kd.R_below (by (with_reducible repeat (first | apply Kd.R_alloc | apply Kd.R_drewN | apply Kd.R_drew)); exact (Kd.R_mono (Kd.R_far (p := ⟨gb290, 2, none⟩) (Kd.R_far (p := ⟨gb290, 1, none⟩) (Kd.R_far (p := ⟨gb290, 0, none⟩) (Kd.R_types HO275.out BK290.out (by decide)) (fun _ hk => hk.2) (.slice Ao78 t285.length co78)) (fun _ hk => hk.2) (.int .i64 t288)) (fun _ hk => hk.2) (.int .i64 t289)) (fun _ h_ => h_.1))) hb); replace HO287 := aZ (Kd.R_below (by (with_reducible repeat (first | apply Kd.R_alloc | apply Kd.R_drewN | apply Kd.R_drew)); exact (Kd.R_mono (Kd.R_far (p := ⟨gb290, 2, none⟩) (Kd.R_far (p := ⟨gb290, 1, none⟩) (Kd.R_far (p := ⟨gb290, 0, none⟩) (Kd.R_types HO287.out BK290.out (by decide)) (fun _ hk => hk.2) (.slice Ao78 t285.length co78)) (fun _ hk => hk.2) (.int .i64 t288)) (fun _ hk => hk.2) (.int .i64 t289)) (fun _ h_ => h_.1))) hb); have HO296 := aZ (Kd.R_lower (Kd.R_new' ho0 (Kd.R_lt (by (with_reducible repeat (first | apply Kd.R_alloc | apply Kd.R_drewN | apply Kd.R_drew)); exact (Kd.R_mono (Kd.R_far (p := ⟨gb290, 2, none⟩) (Kd.R_far (p := ⟨gb290, 1, none⟩) (Kd.R_far (p := ⟨gb290, 0, none⟩) (Kd.R_types HO283.out BK290.out (by decide)) (fun _ hk => hk.2) (.slice Ao78 t285.length co78)) (fun _ hk => hk.2) (.int .i64 t288)) (fun _ hk => hk.2) (.int .i64 t289)) (fun _ h_ => h_.1))))) (below_size bZ)); replace HO283 := aZ (Kd.R_elder' (by (with_reducible repeat (first | apply Kd.R_alloc | apply Kd.R_drewN | apply Kd.R_drew)); exact (Kd.R_mono (Kd.R_far (p := ⟨gb290, 2, none⟩) (Kd.R_far (p := ⟨gb290, 1, none⟩) (Kd.R_far (p := ⟨gb290, 0, none⟩) (Kd.R_types HO283.out BK290.out (by decide)) (fun _ hk => hk.2) (.slice Ao78 t285.length co78)) (fun _ hk => hk.2) (.int .i64 t288)) (fun _ hk => hk.2) (.int .i64 t289)) (fun _ h_ => h_.1))) (Kd.R_base ho0) hb); replace BK269 := aZ (blk_below (g := gb269) (o := .cells #[.slice A0_0 l0_0.length c0_0, .int .i64 a0_1, .int .i64 a0_2] 24 (0, 0)) (by (with_reducible repeat (first | refine blk_drewN ?_ _ | refine blk_drew ?_ | refine blk_alloc ?_ _)); refine blk_far ?_ NB269_290.out _; (with_reducible repeat (first | refine blk_drewN ?_ _ | refine blk_drew ?_ | refine blk_alloc ?_ _)); refine blk_far ?_ NB269_290.out _; (with_reducible repeat (first | refine blk_drewN ?_ _ | refine blk_drew ?_ | refine blk_alloc ?_ _)); refine blk_far ?_ NB269_290.out _; (with_reducible repeat (first | refine blk_drewN ?_ _ | refine blk_drew ?_ | refine blk_alloc ?_ _)); exact BK269.out) hb); replace BK270 := aZ (blk_below (g := gb270) (o := .cells #[.int .i64 a1_0, .int .i64 a1_1, .string a1_2, .slice A1_3 l1_3.length c1_3] 27 (0, 0)) (by (with_reducible repeat (first | refine blk_drewN ?_ _ | refine blk_drew ?_ | refine blk_alloc ?_ _)); refine blk_far ?_ NB270_290.out _; (with_reducible repeat (first | refine blk_drewN ?_ _ | refine blk_drew ?_ | refine blk_alloc ?_ _)); refine blk_far ?_ NB270_290.out _; (with_reducible repeat (first | refine blk_drewN ?_ _ | refine blk_drew ?_ | refine blk_alloc ?_ _)); refine blk_far ?_ NB270_290.out _; (with_reducible repeat (first | refine blk_drewN ?_ _ | refine blk_drew ?_ | refine blk_alloc ?_ _)); exact BK270.out) hb); replace BK290 := aZ (blk_below (g := gb290) (o := .cells #[.slice Ao78 t285.length co78, .int .i64 t288, .int .i64 t289] 33 (0, 0)) (by (with_reducible repeat (first | refine blk_drewN ?_ _ | refine blk_drew ?_ | refine blk_alloc ?_ _)); refine blk_put (cs := #[.slice Ao78 t285.length co78, .int .i64 t288, .int .i64 0]) ?_ 2 _ rfl; (with_reducible repeat (first | refine blk_drewN ?_ _ | refine blk_drew ?_ | refine blk_alloc ?_ _)); refine blk_put (cs := #[.slice Ao78 t285.length co78, .int .i64 0, .int .i64 0]) ?_ 1 _ rfl; (with_reducible repeat (first | refine blk_drewN ?_ _ | refine blk_drew ?_ | refine blk_alloc ?_ _)); refine blk_put (cs := #[.slice none 0 0, .int .i64 0, .int .i64 0]) ?_ 0 _ rfl; (with_reducible repeat (first | refine blk_drewN ?_ _ | refine blk_drew ?_ | refine blk_alloc ?_ _)); exact BK290.out) hb); replace HB := aZ (below_step bZ hb); (try clear hb); (try clear hb2); (try clear hk); (try clear hi); (try clear ho0)) | ((with_reducible refine gate_dst (N := 8) rfl ?_); refine box_event ?hg (N := 8) ?hd (cs := #[.int .i64 0, .int .i64 0, .string (⟨#[]⟩ : ByteArray), .slice none 0 0]) (t := 37) ?hr ?_; (case hd => rfl); (case hg => rfl); (case hr => first | (go_simp; done) | (go_simp; rfl)); intro gb297 hg w84 hbox hb; replace HO275 := aZ (Kd.R_below (lZR HO275.out) hb); replace HO283 := aZ (Kd.R_below (lZR HO283.out) hb); replace HO287 := aZ (Kd.R_below (lZR HO287.out) hb); replace HO296 := aZ (Kd.R_below (lZR HO296.out) hb); have BK297 := aZ (hbox); have GW297 := aZ ((by rw [hg]; exact (below_size bZ) : w.heap.size ≤ gb297)); have GE297 := aZ ((by rw [hg]; exact (below_size bZ) : w.heap.size ≤ gb297)); replace HB := aZ (below_step bZ hb); have NB269_297 := aZ ((by rw [hg]; exact Nat.ne_of_lt (blk_lt (bkZ BK269.out)) : gb269 ≠ gb297)); have NB297_269 := aZ ((by rw [hg]; exact Nat.ne_of_gt (blk_lt (bkZ BK269.out)) : gb297 ≠ gb269)); replace BK269 := aZ (blk_below (bkZ BK269.out) hb); have NB270_297 := aZ ((by rw [hg]; exact Nat.ne_of_lt (blk_lt (bkZ BK270.out)) : gb270 ≠ gb297)); have NB297_270 := aZ ((by rw [hg]; exact Nat.ne_of_gt (blk_lt (bkZ BK270.out)) : gb297 ≠ gb270)); replace BK270 := aZ (blk_below (bkZ BK270.out) hb); have NB290_297 := aZ ((by rw [hg]; exact Nat.ne_of_lt (blk_lt (bkZ BK290.out)) : gb290 ≠ gb297)); have NB297_290 := aZ ((by rw [hg]; exact Nat.ne_of_gt (blk_lt (bkZ BK290.out)) : gb297 ≠ gb290)); replace BK290 := aZ (blk_below (bkZ BK290.out) hb); clear hb hbox hg; have hnb85 := NB297_269.out; have hnc85 := NB269_297.out; have hnb86 := NB297_270.out; have hnc86 := NB270_297.out; have hnb87 := NB297_290.out; have hnc87 := NB290_297.out; have hcz88_0 : w84.cell? ⟨gb297, 0, none⟩ = some (.int .i64 0) := (blk_cell BK297.out 0).trans rfl; have hcz88_1 : w84.cell? ⟨gb297, 1, none⟩ = some (.int .i64 0) := (blk_cell BK297.out 1).trans rfl; have hcz88_2 : w84.cell? ⟨gb297, 2, none⟩ = some (.string (⟨#[]⟩ : ByteArray)) := (blk_cell BK297.out 2).trans rfl; have hcz88_3 : w84.cell? ⟨gb297, 3, none⟩ = some (.slice none 0 0) := (blk_cell BK297.out 3).trans rfl; have hfz88_0 := blk_frozen BK297.out 0; have hfz88_1 := blk_frozen BK297.out 1; have hfz88_2 := blk_frozen BK297.out 2; have hfz88_3 := blk_frozen BK297.out 3; obtain ⟨Ao89, co89, eo89⟩ := Kd.R_slice HO296.out; subst eo89; have hcz90_0 : w84.cell? ⟨gb290, 0, none⟩ = some (.slice Ao78 t285.length co78) := (blk_cell BK290.out 0).trans rfl; have hcz90_1 : w84.cell? ⟨gb290, 1, none⟩ = some (.int .i64 t288) := (blk_cell BK290.out 1).trans rfl; have hcz90_2 : w84.cell? ⟨gb290, 2, none⟩ = some (.int .i64 t289) := (blk_cell BK290.out 2).trans rfl; have hfz90_0 := blk_frozen BK290.out 0; have hfz90_1 := blk_frozen BK290.out 1; have hfz90_2 := blk_frozen BK290.out 2) | ((with_reducible refine gate_callee (f := 19) rfl ?_); refine goesL_ (some 31) rfl rfl Try.func19 kZ rfl #[.agg #[.slice Ao78 t285.length co78, .int .i64 t288, .int .i64 t289], .agg #[.int .i64 t291, .int .i64 t292, .string t293, .slice Ao89 t294.length co89]] rfl tZA ?_; (with_reducible refine (impl_EntryOk.calls k _ _ t285 t288 t289 t291 t292 t293 _ _ t294 t298 _ ?side1 ?side2 ?side3 ?side4 A24.out).mono ?_); (case side1 => refine (Kd.R_reads' (e := 188) (base := w.heap.size) (ok := fun k_ => (True ∧ some k_ ≠ (.slice Ao72 t273.length co72 : Value).ownBlock)) (n := t285.length) (c := co78) ?_).2.2; exact (by (with_reducible repeat (first | apply Kd.R_alloc | apply Kd.R_drewN | apply Kd.R_drew)); exact (Kd.R_mono (Kd.R_far (p := ⟨gb297, 3, none⟩) (Kd.R_far (p := ⟨gb297, 2, none⟩) (Kd.R_far (p := ⟨gb297, 1, none⟩) (Kd.R_far (p := ⟨gb297, 0, none⟩) (Kd.R_types HO287.out BK297.out (by decide)) (fun _ hk => hk.2) (.int .i64 t291)) (fun _ hk => hk.2) (.int .i64 t292)) (fun _ hk => hk.2) (.string t293)) (fun _ hk => hk.2) (.slice Ao89 t294.length co89)) (fun _ h_ => h_.1)))); (case side2 => exact (Kd.R_reads' HO287.out).2.1); (case side3 => refine (Kd.R_reads' (e := 109) (base := w.heap.size) (ok := fun k_ => (True ∧ some k_ ≠ (.slice Ao73 t281.length co73 : Value).ownBlock)) (n := t294.length) (c := co89) ?_).2.2; exact (by (with_reducible repeat (first | apply Kd.R_alloc | apply Kd.R_drewN | apply Kd.R_drew)); exact (Kd.R_mono (Kd.R_far (p := ⟨gb297, 3, none⟩) (Kd.R_far (p := ⟨gb297, 2, none⟩) (Kd.R_far (p := ⟨gb297, 1, none⟩) (Kd.R_far (p := ⟨gb297, 0, none⟩) (Kd.R_types HO296.out BK297.out (by decide)) (fun _ hk => hk.2) (.int .i64 t291)) (fun _ hk => hk.2) (.int .i64 t292)) (fun _ hk => hk.2) (.string t293)) (fun _ hk => hk.2) (.slice Ao89 t294.length co89)) (fun _ h_ => h_.1)))); (case side4 => exact (Kd.R_reads' HO296.out).2.1); rintro e w91 ⟨rfl, hb⟩; refine ⟨_, rfl, ?_⟩; replace HO275 := aZ (Kd.R_below (by (with_reducible repeat (first | apply Kd.R_alloc | apply Kd.R_drewN | apply Kd.R_drew)); exact (Kd.R_mono (Kd.R_far (p := ⟨gb297, 3, none⟩) (Kd.R_far (p := ⟨gb297, 2, none⟩) (Kd.R_far (p := ⟨gb297, 1, none⟩) (Kd.R_far (p := ⟨gb297, 0, none⟩) (Kd.R_types HO275.out BK297.out (by decide)) (fun _ hk => hk.2) (.int .i64 t291)) (fun _ hk => hk.2) (.int .i64 t292)) (fun _ hk => hk.2) (.string t293)) (fun _ hk => hk.2) (.slice Ao89 t294.length co89)) (fun _ h_ => h_.1))) hb); replace HO283 := aZ (Kd.R_below (by (with_reducible repeat (first | apply Kd.R_alloc | apply Kd.R_drewN | apply Kd.R_drew)); exact (Kd.R_mono (Kd.R_far (p := ⟨gb297, 3, none⟩) (Kd.R_far (p := ⟨gb297, 2, none⟩) (Kd.R_far (p := ⟨gb297, 1, none⟩) (Kd.R_far (p := ⟨gb297, 0, none⟩) (Kd.R_types HO283.out BK297.out (by decide)) (fun _ hk => hk.2) (.int .i64 t291)) (fun _ hk => hk.2) (.int .i64 t292)) (fun _ hk => hk.2) (.string t293)) (fun _ hk => hk.2) (.slice Ao89 t294.length co89)) (fun _ h_ => h_.1))) hb); replace HO287 := aZ (Kd.R_below (by (with_reducible repeat (first | apply Kd.R_alloc | apply Kd.R_drewN | apply Kd.R_drew)); exact (Kd.R_mono (Kd.R_far (p := ⟨gb297, 3, none⟩) (Kd.R_far (p := ⟨gb297, 2, none⟩) (Kd.R_far (p := ⟨gb297, 1, none⟩) (Kd.R_far (p := ⟨gb297, 0, none⟩) (Kd.R_types HO287.out BK297.out (by decide)) (fun _ hk => hk.2) (.int .i64 t291)) (fun _ hk => hk.2) (.int .i64 t292)) (fun _ hk => hk.2) (.string t293)) (fun _ hk => hk.2) (.slice Ao89 t294.length co89)) (fun _ h_ => h_.1))) hb); replace HO296 := aZ (Kd.R_below (by (with_reducible repeat (first | apply Kd.R_alloc | apply Kd.R_drewN | apply Kd.R_drew)); exact (Kd.R_mono (Kd.R_far (p := ⟨gb297, 3, none⟩) (Kd.R_far (p := ⟨gb297, 2, none⟩) (Kd.R_far (p := ⟨gb297, 1, none⟩) (Kd.R_far (p := ⟨gb297, 0, none⟩) (Kd.R_types HO296.out BK297.out (by decide)) (fun _ hk => hk.2) (.int .i64 t291)) (fun _ hk => hk.2) (.int .i64 t292)) (fun _ hk => hk.2) (.string t293)) (fun _ hk => hk.2) (.slice Ao89 t294.length co89)) (fun _ h_ => h_.1))) hb); replace BK269 := aZ (blk_below (g := gb269) (o := .cells #[.slice A0_0 l0_0.length c0_0, .int .i64 a0_1, .int .i64 a0_2] 24 (0, 0)) (by (with_reducible repeat (first | refine blk_drewN ?_ _ | refine blk_drew ?_ | refine blk_alloc ?_ _)); refine blk_far ?_ NB269_297.out _; (with_reducible repeat (first | refine blk_drewN ?_ _ | refine blk_drew ?_ | refine blk_alloc ?_ _)); refine blk_far ?_ NB269_297.out _; (with_reducible repeat (first | refine blk_drewN ?_ _ | refine blk_drew ?_ | refine blk_alloc ?_ _)); refine blk_far ?_ NB269_297.out _; (with_reducible repeat (first | refine blk_drewN ?_ _ | refine blk_drew ?_ | refine blk_alloc ?_ _)); refine blk_far ?_ NB269_297.out _; (with_reducible repeat (first | refine blk_drewN ?_ _ | refine blk_drew ?_ | refine blk_alloc ?_ _)); exact BK269.out) hb); replace BK270 := aZ (blk_below (g := gb270) (o := .cells #[.int .i64 a1_0, .int .i64 a1_1, .string a1_2, .slice A1_3 l1_3.length c1_3] 27 (0, 0)) (by (with_reducible repeat (first | refine blk_drewN ?_ _ | refine blk_drew ?_ | refine blk_alloc ?_ _)); refine blk_far ?_ NB270_297.out _; (with_reducible repeat (first | refine blk_drewN ?_ _ | refine blk_drew ?_ | refine blk_alloc ?_ _)); refine blk_far ?_ NB270_297.out _; (with_reducible repeat (first | refine blk_drewN ?_ _ | refine blk_drew ?_ | refine blk_alloc ?_ _)); refine blk_far ?_ NB270_297.out _; (with_reducible repeat (first | refine blk_drewN ?_ _ | refine blk_drew ?_ | refine blk_alloc ?_ _)); refine blk_far ?_ NB270_297.out _; (with_reducible repeat (first | refine blk_drewN ?_ _ | refine blk_drew ?_ | refine blk_alloc ?_ _)); exact BK270.out) hb); replace BK290 := aZ (blk_below (g := gb290) (o := .cells #[.slice Ao78 t285.length co78, .int .i64 t288, .int .i64 t289] 33 (0, 0)) (by (with_reducible repeat (first | refine blk_drewN ?_ _ | refine blk_drew ?_ | refine blk_alloc ?_ _)); refine blk_far ?_ NB290_297.out _; (with_reducible repeat (first | refine blk_drewN ?_ _ | refine blk_drew ?_ | refine blk_alloc ?_ _)); refine blk_far ?_ NB290_297.out _; (with_reducible repeat (first | refine blk_drewN ?_ _ | refine blk_drew ?_ | refine blk_alloc ?_ _)); refine blk_far ?_ NB290_297.out _; (with_reducible repeat (first | refine blk_drewN ?_ _ | refine blk_drew ?_ | refine blk_alloc ?_ _)); refine blk_far ?_ NB290_297.out _; (with_reducible repeat (first | refine blk_drewN ?_ _ | refine blk_drew ?_ | refine blk_alloc ?_ _)); exact BK290.out) hb); replace BK297 := aZ (blk_below (g := gb297) (o := .cells #[.int .i64 t291, .int .i64 t292, .string t293, .slice Ao89 t294.length co89] 37 (0, 0)) (by (with_reducible repeat (first | refine blk_drewN ?_ _ | refine blk_drew ?_ | refine blk_alloc ?_ _)); refine blk_put (cs := #[.int .i64 t291, .int .i64 t292, .string t293, .slice none 0 0]) ?_ 3 _ rfl; (with_reducible repeat (first | refine blk_drewN ?_ _ | refine blk_drew ?_ | refine blk_alloc ?_ _)); refine blk_put (cs := #[.int .i64 t291, .int .i64 t292, .string (⟨#[]⟩ : ByteArray), .slice none 0 0]) ?_ 2 _ rfl; (with_reducible repeat (first | refine blk_drewN ?_ _ | refine blk_drew ?_ | refine blk_alloc ?_ _)); refine blk_put (cs := #[.int .i64 t291, .int .i64 0, .string (⟨#[]⟩ : ByteArray), .slice none 0 0]) ?_ 1 _ rfl; (with_reducible repeat (first | refine blk_drewN ?_ _ | refine blk_drew ?_ | refine blk_alloc ?_ _)); refine blk_put (cs := #[.int .i64 0, .int .i64 0, .string (⟨#[]⟩ : ByteArray), .slice none 0 0]) ?_ 0 _ rfl; (with_reducible repeat (first | refine blk_drewN ?_ _ | refine blk_drew ?_ | refine blk_alloc ?_ _)); exact BK297.out) hb); replace HB := aZ (below_step bZ hb); (try clear hb); (try clear hb2); (try clear hk); (try clear hi)))
  replace HO275 := aZ (Kd.R_drew HO275.out)
  replace HO283 := aZ (Kd.R_drew HO283.out)
  replace HO287 := aZ (Kd.R_drew HO287.out)
  replace HO296 := aZ (Kd.R_drew HO296.out)
  replace BK269 := aZ (blk_drew BK269.out)
  replace BK270 := aZ (blk_drew BK270.out)
  replace BK290 := aZ (blk_drew BK290.out)
  replace BK297 := aZ (blk_drew BK297.out)
  replace HB := aZ (below_drew1 HB.out)
  refine start_ (n := 5) (S := fun w' => w'.cell? ⟨gb290, 0, none⟩ = some (.slice Ao78 t285.length co78) ∧ w'.cell? ⟨gb290, 1, none⟩ = some (.int .i64 t288) ∧ w'.cell? ⟨gb290, 2, none⟩ = some (.int .i64 t289) ∧ w'.cell? ⟨gb269, 0, none⟩ = some (.slice A0_0 l0_0.length c0_0) ∧ w'.cell? ⟨gb269, 1, none⟩ = some (.int .i64 a0_1) ∧ w'.cell? ⟨gb269, 2, none⟩ = some (.int .i64 a0_2)) (ds := []) #[false, false, false, false, false] kZ rfl rfl ⟨(blk_cell BK290.out 0).trans rfl, (blk_cell BK290.out 1).trans rfl, (blk_cell BK290.out 2).trans rfl, (blk_cell BK269.out 0).trans rfl, (blk_cell BK269.out 1).trans rfl, (blk_cell BK269.out 2).trans rfl⟩ (fun hHeld => ?_)
  generalize w91.drew = w92 at HO275 HO283 HO287 HO296 BK269 BK270 BK290 BK297 HB hHeld ⊢
  refine take_ (i := 0) (N := some 35) (v := ?_) (a' := ?_) #[true, false, false, false, false] rfl rfl kZ (fun _ _ _ h => h) (Or.inl ⟨by rfl, ?_⟩) hHeld ?_ ?_
  rotate_left
  ·rintro w' ⟨s0, s1, s2, s3, s4, s5⟩
   go_simp
   with_reducible rfl
  rotate_left
  ·simp only [Act.put, sZ1, sZ2, sZ3, i64_w, i32_w]
   rfl
  refine take_ (i := 1) (N := some 36) (v := ?_) (a' := ?_) #[true, true, false, false, false] rfl rfl kZ (fun _ _ _ h => h) (Or.inl ⟨by rfl, ?_⟩) hHeld ?_ ?_
  rotate_left
  ·rintro w' ⟨s0, s1, s2, s3, s4, s5⟩
   go_simp
   with_reducible rfl
  rotate_left
  ·simp only [Act.put, sZ1, sZ2, sZ3, i64_w, i32_w]
   rfl
  refine one_ (i := 2) (N := some 37) #[true, true, true, false, false] rfl rfl kZ (by decide) (fun K hK => ?_)
  refine goes_ Try.func17 kZ rfl #[.agg #[.slice A0_0 l0_0.length c0_0, .int .i64 a0_1, .int .i64 a0_2]] (by rfl) rfl rfl tZA ?_
  with_reducible refine (laws_toFrame.calls k _ _ l0_0 a0_1 a0_2 t299 t302 t303 _ ?side1 ?side2 A56.out).mono ?_
  (case side1 => repeat (first | exact (Kd.C_below HR0_0.out HB.out) | (with_reducible refine Kd.C_alloc ?_ _) | (with_reducible refine Kd.C_drewN ?_ _) | (with_reducible refine Kd.C_drew ?_)))
  (case side2 => exact HC0_0.out)
  rintro e w93 ⟨v300, rfl, ho0, hb⟩
  refine ⟨_, rfl, ?_⟩
  replace HO283 := aZ (Kd.R_below (lZR HO283.out) hb)
  replace HO296 := aZ (Kd.R_below (lZR HO296.out) hb)
  have HO301 := aZ (Kd.R_lower (Kd.R_new' (Kd.R_new' ho0 (Kd.R_lt (lZR HO275.out))) (Kd.R_lt (lZR HO287.out))) (below_size bZ))
  replace HO275 := aZ (Kd.R_elder' (lZR HO275.out) (Kd.R_base ho0) hb)
  replace HO287 := aZ (Kd.R_elder' (lZR HO287.out) (Kd.R_base ho0) hb)
  replace BK269 := aZ (blk_below (bkZ BK269.out) hb)
  replace BK270 := aZ (blk_below (bkZ BK270.out) hb)
  replace BK290 := aZ (blk_below (bkZ BK290.out) hb)
  replace BK297 := aZ (blk_below (bkZ BK297.out) hb)
  replace HB := aZ (below_step bZ hb)
  (try clear hb)
  (try clear hb2)
  (try clear hk)
  (try clear hi)
  (try clear ho0)
  obtain ⟨Ao94, co94, eo94⟩ := Kd.R_slice HO301.out
  (first | subst eo94 | (injection eo94 with f1_ f2_ f3_; have f4_ := f1_.symm; have f5_ := f3_.symm; clear f1_ f2_ f3_; subst f4_; subst f5_))
  refine hK.out _ _ ⟨(blk_cell BK290.out 0).trans rfl, (blk_cell BK290.out 1).trans rfl, (blk_cell BK290.out 2).trans rfl, (blk_cell BK269.out 0).trans rfl, (blk_cell BK269.out 1).trans rfl, (blk_cell BK269.out 2).trans rfl⟩ (fun hHeld => ?_)
  clear hK K
  refine norm_ (a' := ?_) ?_ ?_
  rotate_left
  ·show Act.put _ (some 37) _ = _
   simp only [Act.put, sZ1, sZ2, sZ3, i64_w, i32_w]
   rfl
  refine one_ (i := 3) (N := some 38) #[true, true, true, true, false] rfl rfl kZ (by decide) (fun K hK => ?_)
  refine goes_ Try.func20 kZ rfl #[.agg #[.slice Ao78 t285.length co78, .int .i64 t288, .int .i64 t289], .agg #[.slice Ao94 t299.length co94, .int .i64 t302, .int .i64 t303]] (by rfl) rfl rfl tZA ?_
  with_reducible refine (laws_eqFrame.calls k _ _ t285 t288 t289 _ _ t299 t302 t303 true _ ?side1 ?side2 ?side3 ?side4 A57.out).mono ?_
  (case side1 => repeat (first | exact (Kd.R_reads' HO287.out).2.2 | (with_reducible refine Kd.C_alloc ?_ _) | (with_reducible refine Kd.C_drewN ?_ _) | (with_reducible refine Kd.C_drew ?_)))
  (case side2 => exact (Kd.R_reads' HO287.out).2.1)
  (case side3 => repeat (first | exact (Kd.R_reads' HO301.out).2.2 | (with_reducible refine Kd.C_alloc ?_ _) | (with_reducible refine Kd.C_drewN ?_ _) | (with_reducible refine Kd.C_drew ?_)))
  (case side4 => exact (Kd.R_reads' HO301.out).2.1)
  rintro e w95 ⟨rfl, hb⟩
  refine ⟨_, rfl, ?_⟩
  replace HO275 := aZ (Kd.R_below (lZR HO275.out) hb)
  replace HO283 := aZ (Kd.R_below (lZR HO283.out) hb)
  replace HO287 := aZ (Kd.R_below (lZR HO287.out) hb)
  replace HO296 := aZ (Kd.R_below (lZR HO296.out) hb)
  replace HO301 := aZ (Kd.R_below (lZR HO301.out) hb)
  replace BK269 := aZ (blk_below (bkZ BK269.out) hb)
  replace BK270 := aZ (blk_below (bkZ BK270.out) hb)
  replace BK290 := aZ (blk_below (bkZ BK290.out) hb)
  replace BK297 := aZ (blk_below (bkZ BK297.out) hb)
  replace HB := aZ (below_step bZ hb)
  (try clear hb)
  (try clear hb2)
  (try clear hk)
  (try clear hi)
  refine hK.out _ _ ⟨(blk_cell BK290.out 0).trans rfl, (blk_cell BK290.out 1).trans rfl, (blk_cell BK290.out 2).trans rfl, (blk_cell BK269.out 0).trans rfl, (blk_cell BK269.out 1).trans rfl, (blk_cell BK269.out 2).trans rfl⟩ (fun hHeld => ?_)
  clear hK K
  refine norm_ (a' := ?_) ?_ ?_
  rotate_left
  ·show Act.put _ (some 38) _ = _
   simp only [Act.put, sZ1, sZ2, sZ3, i64_w, i32_w]
   rfl
  refine pure_ (i := 4) (N := some 39) (v := ?_) (a' := ?_) #[true, true, true, true, true] rfl rfl kZ (fun _ _ _ h => h) (Or.inl ⟨by rfl, ?_⟩) ?_ ?_
  rotate_left
  ·intro w'
   go_simp
   with_reducible rfl
  rotate_left
  ·simp only [Act.put, sZ1, sZ2, sZ3, i64_w, i32_w]
   rfl
  refine done_ kZ ?_
  try go_wp2
  replace HO275 := aZ (Kd.R_drew HO275.out)
  replace HO283 := aZ (Kd.R_drew HO283.out)
  replace HO287 := aZ (Kd.R_drew HO287.out)
  replace HO296 := aZ (Kd.R_drew HO296.out)
  replace HO301 := aZ (Kd.R_drew HO301.out)
  replace BK269 := aZ (blk_drew BK269.out)
  replace BK270 := aZ (blk_drew BK270.out)
  replace BK290 := aZ (blk_drew BK290.out)
  replace BK297 := aZ (blk_drew BK297.out)
  replace HB := aZ (below_drew1 HB.out)
  refine start_ (n := 5) (S := fun w' => w'.cell? ⟨gb297, 0, none⟩ = some (.int .i64 t291) ∧ w'.cell? ⟨gb297, 1, none⟩ = some (.int .i64 t292) ∧ w'.cell? ⟨gb297, 2, none⟩ = some (.string t293) ∧ w'.cell? ⟨gb297, 3, none⟩ = some (.slice Ao89 t294.length co89) ∧ w'.cell? ⟨gb270, 0, none⟩ = some (.int .i64 a1_0) ∧ w'.cell? ⟨gb270, 1, none⟩ = some (.int .i64 a1_1) ∧ w'.cell? ⟨gb270, 2, none⟩ = some (.string a1_2) ∧ w'.cell? ⟨gb270, 3, none⟩ = some (.slice A1_3 l1_3.length c1_3)) (ds := []) #[false, false, false, false, false] kZ rfl rfl ⟨(blk_cell BK297.out 0).trans rfl, (blk_cell BK297.out 1).trans rfl, (blk_cell BK297.out 2).trans rfl, (blk_cell BK297.out 3).trans rfl, (blk_cell BK270.out 0).trans rfl, (blk_cell BK270.out 1).trans rfl, (blk_cell BK270.out 2).trans rfl, (blk_cell BK270.out 3).trans rfl⟩ (fun hHeld => ?_)
  generalize w95.drew = w96 at HO275 HO283 HO287 HO296 HO301 BK269 BK270 BK290 BK297 HB hHeld ⊢
  refine take_ (i := 0) (N := some 40) (v := ?_) (a' := ?_) #[true, false, false, false, false] rfl rfl kZ (fun _ _ _ h => h) (Or.inl ⟨by rfl, ?_⟩) hHeld ?_ ?_
  rotate_left
  ·rintro w' ⟨s0, s1, s2, s3, s4, s5, s6, s7⟩
   go_simp
   with_reducible rfl
  rotate_left
  ·simp only [Act.put, sZ1, sZ2, sZ3, i64_w, i32_w]
   rfl
  refine take_ (i := 1) (N := some 41) (v := ?_) (a' := ?_) #[true, true, false, false, false] rfl rfl kZ (fun _ _ _ h => h) (Or.inl ⟨by rfl, ?_⟩) hHeld ?_ ?_
  rotate_left
  ·rintro w' ⟨s0, s1, s2, s3, s4, s5, s6, s7⟩
   go_simp
   with_reducible rfl
  rotate_left
  ·simp only [Act.put, sZ1, sZ2, sZ3, i64_w, i32_w]
   rfl
  refine one_ (i := 2) (N := some 42) #[true, true, true, false, false] rfl rfl kZ (by decide) (fun K hK => ?_)
  refine goes_ Try.func18 kZ rfl #[.agg #[.int .i64 a1_0, .int .i64 a1_1, .string a1_2, .slice A1_3 l1_3.length c1_3]] (by rfl) rfl rfl tZA ?_
  with_reducible refine (laws_toEntry.calls k a1_0 a1_1 a1_2 _ _ l1_3 t305 t306 t307 t308 _ ?side1 ?side2 A59.out).mono ?_
  (case side1 => repeat (first | exact (Kd.C_below HR1_3.out HB.out) | (with_reducible refine Kd.C_alloc ?_ _) | (with_reducible refine Kd.C_drewN ?_ _) | (with_reducible refine Kd.C_drew ?_)))
  (case side2 => exact HC1_3.out)
  rintro e w97 ⟨v309, rfl, ho0, hb⟩
  refine ⟨_, rfl, ?_⟩
  replace HO275 := aZ (Kd.R_below (lZR HO275.out) hb)
  replace HO287 := aZ (Kd.R_below (lZR HO287.out) hb)
  replace HO301 := aZ (Kd.R_below (lZR HO301.out) hb)
  have HO310 := aZ (Kd.R_lower (Kd.R_new' (Kd.R_new' ho0 (Kd.R_lt (lZR HO283.out))) (Kd.R_lt (lZR HO296.out))) (below_size bZ))
  replace HO283 := aZ (Kd.R_elder' (lZR HO283.out) (Kd.R_base ho0) hb)
  replace HO296 := aZ (Kd.R_elder' (lZR HO296.out) (Kd.R_base ho0) hb)
  replace BK269 := aZ (blk_below (bkZ BK269.out) hb)
  replace BK270 := aZ (blk_below (bkZ BK270.out) hb)
  replace BK290 := aZ (blk_below (bkZ BK290.out) hb)
  replace BK297 := aZ (blk_below (bkZ BK297.out) hb)
  replace HB := aZ (below_step bZ hb)
  (try clear hb)
  (try clear hb2)
  (try clear hk)
  (try clear hi)
  (try clear ho0)
  obtain ⟨Ao98, co98, eo98⟩ := Kd.R_slice HO310.out
  (first | subst eo98 | (injection eo98 with f1_ f2_ f3_; have f4_ := f1_.symm; have f5_ := f3_.symm; clear f1_ f2_ f3_; subst f4_; subst f5_))
  refine hK.out _ _ ⟨(blk_cell BK297.out 0).trans rfl, (blk_cell BK297.out 1).trans rfl, (blk_cell BK297.out 2).trans rfl, (blk_cell BK297.out 3).trans rfl, (blk_cell BK270.out 0).trans rfl, (blk_cell BK270.out 1).trans rfl, (blk_cell BK270.out 2).trans rfl, (blk_cell BK270.out 3).trans rfl⟩ (fun hHeld => ?_)
  clear hK K
  refine norm_ (a' := ?_) ?_ ?_
  rotate_left
  ·show Act.put _ (some 42) _ = _
   simp only [Act.put, sZ1, sZ2, sZ3, i64_w, i32_w]
   rfl
  refine one_ (i := 3) (N := some 43) #[true, true, true, true, false] rfl rfl kZ (by decide) (fun K hK => ?_)
  refine goes_ Try.func21 kZ rfl #[.agg #[.int .i64 t291, .int .i64 t292, .string t293, .slice Ao89 t294.length co89], .agg #[.int .i64 t305, .int .i64 t306, .string t307, .slice Ao98 t308.length co98]] (by rfl) rfl rfl tZA ?_
  with_reducible refine (laws_eqEntry.calls k t291 t292 t293 _ _ t294 t305 t306 t307 _ _ t308 true _ ?side1 ?side2 ?side3 ?side4 A60.out).mono ?_
  (case side1 => repeat (first | exact (Kd.R_reads' HO296.out).2.2 | (with_reducible refine Kd.C_alloc ?_ _) | (with_reducible refine Kd.C_drewN ?_ _) | (with_reducible refine Kd.C_drew ?_)))
  (case side2 => exact (Kd.R_reads' HO296.out).2.1)
  (case side3 => repeat (first | exact (Kd.R_reads' HO310.out).2.2 | (with_reducible refine Kd.C_alloc ?_ _) | (with_reducible refine Kd.C_drewN ?_ _) | (with_reducible refine Kd.C_drew ?_)))
  (case side4 => exact (Kd.R_reads' HO310.out).2.1)
  rintro e w99 ⟨rfl, hb⟩
  refine ⟨_, rfl, ?_⟩
  replace HO275 := aZ (Kd.R_below (lZR HO275.out) hb)
  replace HO283 := aZ (Kd.R_below (lZR HO283.out) hb)
  replace HO287 := aZ (Kd.R_below (lZR HO287.out) hb)
  replace HO296 := aZ (Kd.R_below (lZR HO296.out) hb)
  replace HO301 := aZ (Kd.R_below (lZR HO301.out) hb)
  replace HO310 := aZ (Kd.R_below (lZR HO310.out) hb)
  replace BK269 := aZ (blk_below (bkZ BK269.out) hb)
  replace BK270 := aZ (blk_below (bkZ BK270.out) hb)
  replace BK290 := aZ (blk_below (bkZ BK290.out) hb)
  replace BK297 := aZ (blk_below (bkZ BK297.out) hb)
  replace HB := aZ (below_step bZ hb)
  (try clear hb)
  (try clear hb2)
  (try clear hk)
  (try clear hi)
  refine hK.out _ _ ⟨(blk_cell BK297.out 0).trans rfl, (blk_cell BK297.out 1).trans rfl, (blk_cell BK297.out 2).trans rfl, (blk_cell BK297.out 3).trans rfl, (blk_cell BK270.out 0).trans rfl, (blk_cell BK270.out 1).trans rfl, (blk_cell BK270.out 2).trans rfl, (blk_cell BK270.out 3).trans rfl⟩ (fun hHeld => ?_)
  clear hK K
  refine norm_ (a' := ?_) ?_ ?_
  rotate_left
  ·show Act.put _ (some 43) _ = _
   simp only [Act.put, sZ1, sZ2, sZ3, i64_w, i32_w]
   rfl
  refine pure_ (i := 4) (N := some 44) (v := ?_) (a' := ?_) #[true, true, true, true, true] rfl rfl kZ (fun _ _ _ h => h) (Or.inl ⟨by rfl, ?_⟩) ?_ ?_
  rotate_left
  ·intro w'
   go_simp
   with_reducible rfl
  rotate_left
  ·simp only [Act.put, sZ1, sZ2, sZ3, i64_w, i32_w]
   rfl
  refine done_ kZ ?_
  try go_wp2
  go_ret
  exact ⟨tZC, bZ⟩
 replace c61 := Bool.eq_false_iff.mpr c61
 subst c61
 have H1 : (some false) = some r := by rw [if_neg (show ¬ (false = true) by decide)] at H; exact H
 clear H
 have H := H1
 clear H1
 obtain rfl := Option.some.inj H
 go_enter Try.func3, Try.ntmps3
 try go_wp2_with (first | ((with_reducible refine gate_dst (N := 2) rfl ?_); refine box_event ?hg (N := 2) ?hd (cs := #[.slice A0_0 l0_0.length c0_0, .int .i64 a0_1, .int .i64 a0_2]) (t := 24) ?hr ?_; (case hd => rfl); (case hg => rfl); (case hr => first | (go_simp; done) | (go_simp; rfl)); intro gb269 hg w100 hbox hb; have BK269 := aZ (hbox); have GW269 := aZ ((by rw [hg]; exact (below_size (lZB HB.out)) : w.heap.size ≤ gb269)); have GE269 := aZ ((by rw [hg]; exact (below_size (lZB HB.out)) : w.heap.size ≤ gb269)); replace HB := aZ (below_step (lZB HB.out) hb); clear hb hbox hg) | ((with_reducible refine gate_dst (N := 3) rfl ?_); refine box_event ?hg (N := 3) ?hd (cs := #[.int .i64 a1_0, .int .i64 a1_1, .string a1_2, .slice A1_3 l1_3.length c1_3]) (t := 27) ?hr ?_; (case hd => rfl); (case hg => rfl); (case hr => first | (go_simp; done) | (go_simp; rfl)); intro gb270 hg w101 hbox hb; have BK270 := aZ (hbox); have GW270 := aZ ((by rw [hg]; exact (below_size bZ) : w.heap.size ≤ gb270)); have GE270 := aZ ((by rw [hg]; exact (below_size bZ) : w.heap.size ≤ gb270)); replace HB := aZ (below_step bZ hb); have NB269_270 := aZ ((by rw [hg]; exact Nat.ne_of_lt (blk_lt (bkZ BK269.out)) : gb269 ≠ gb270)); have NB270_269 := aZ ((by rw [hg]; exact Nat.ne_of_gt (blk_lt (bkZ BK269.out)) : gb270 ≠ gb269)); replace BK269 := aZ (blk_below (bkZ BK269.out) hb); clear hb hbox hg; have hnb102 := NB269_270.out; have hnc102 := NB270_269.out; have hcz103_0 : w101.cell? ⟨gb269, 0, none⟩ = some (.slice A0_0 l0_0.length c0_0) := (blk_cell BK269.out 0).trans rfl; have hcz103_1 : w101.cell? ⟨gb269, 1, none⟩ = some (.int .i64 a0_1) := (blk_cell BK269.out 1).trans rfl; have hcz103_2 : w101.cell? ⟨gb269, 2, none⟩ = some (.int .i64 a0_2) := (blk_cell BK269.out 2).trans rfl; have hfz103_0 := blk_frozen BK269.out 0; have hfz103_1 := blk_frozen BK269.out 1; have hfz103_2 := blk_frozen BK269.out 2) | ((with_reducible refine gate_callee (f := 14) rfl ?_); refine goesL_ (some 12) rfl rfl Try.func14 kZ rfl #[.agg #[.slice A0_0 l0_0.length c0_0, .int .i64 a0_1, .int .i64 a0_2], .int .i64 1048576] rfl tZA ?_; (with_reducible refine (laws_szFrame.calls k _ _ l0_0 a0_1 a0_2 1048576 t271 _ ?side1 ?side2 A3.out).mono ?_); (case side1 => repeat (first | exact (Kd.C_below HR0_0.out HB.out) | (with_reducible refine Kd.C_alloc ?_ _) | (with_reducible refine Kd.C_drewN ?_ _) | (with_reducible refine Kd.C_drew ?_))); (case side2 => exact HC0_0.out); rintro e w104 ⟨rfl, hb⟩; refine ⟨_, rfl, ?_⟩; replace BK269 := aZ (blk_below (bkZ BK269.out) hb); replace BK270 := aZ (blk_below (bkZ BK270.out) hb); replace HB := aZ (below_step bZ hb); (try clear hb); (try clear hb2); (try clear hk); (try clear hi); have hcz105_0 : w104.cell? ⟨gb270, 0, none⟩ = some (.int .i64 a1_0) := (blk_cell BK270.out 0).trans rfl; have hcz105_1 : w104.cell? ⟨gb270, 1, none⟩ = some (.int .i64 a1_1) := (blk_cell BK270.out 1).trans rfl; have hcz105_2 : w104.cell? ⟨gb270, 2, none⟩ = some (.string a1_2) := (blk_cell BK270.out 2).trans rfl; have hcz105_3 : w104.cell? ⟨gb270, 3, none⟩ = some (.slice A1_3 l1_3.length c1_3) := (blk_cell BK270.out 3).trans rfl; have hfz105_0 := blk_frozen BK270.out 0; have hfz105_1 := blk_frozen BK270.out 1; have hfz105_2 := blk_frozen BK270.out 2; have hfz105_3 := blk_frozen BK270.out 3) | ((with_reducible refine gate_callee (f := 15) rfl ?_); refine goesL_ (some 17) rfl rfl Try.func15 kZ rfl #[.agg #[.int .i64 a1_0, .int .i64 a1_1, .string a1_2, .slice A1_3 l1_3.length c1_3], .int .i64 t271] rfl tZA ?_; (with_reducible refine (laws_szEntry.calls a1_0 a1_1 a1_2 _ _ l1_3 t271 t272 _ ?side1 ?side2 A10.out).mono ?_); (case side1 => repeat (first | exact (Kd.C_below HR1_3.out HB.out) | (with_reducible refine Kd.C_alloc ?_ _) | (with_reducible refine Kd.C_drewN ?_ _) | (with_reducible refine Kd.C_drew ?_))); (case side2 => exact HC1_3.out); rintro e w106 ⟨rfl, hb⟩; refine ⟨_, rfl, ?_⟩; replace BK269 := aZ (blk_below (bkZ BK269.out) hb); replace BK270 := aZ (blk_below (bkZ BK270.out) hb); replace HB := aZ (below_step bZ hb); (try clear hb); (try clear hb2); (try clear hk); (try clear hi)))
 replace BK269 := aZ (blk_drew BK269.out)
 replace BK270 := aZ (blk_drew BK270.out)
 replace HB := aZ (below_drew1 HB.out)
 refine start_ (n := 6) (S := fun w' => w'.cell? ⟨gb269, 0, none⟩ = some (.slice A0_0 l0_0.length c0_0) ∧ w'.cell? ⟨gb269, 1, none⟩ = some (.int .i64 a0_1) ∧ w'.cell? ⟨gb269, 2, none⟩ = some (.int .i64 a0_2) ∧ w'.cell? ⟨gb270, 0, none⟩ = some (.int .i64 a1_0) ∧ w'.cell? ⟨gb270, 1, none⟩ = some (.int .i64 a1_1) ∧ w'.cell? ⟨gb270, 2, none⟩ = some (.string a1_2) ∧ w'.cell? ⟨gb270, 3, none⟩ = some (.slice A1_3 l1_3.length c1_3)) (ds := []) L0' kZ rfl rfl ⟨(blk_cell BK269.out 0).trans rfl, (blk_cell BK269.out 1).trans rfl, (blk_cell BK269.out 2).trans rfl, (blk_cell BK270.out 0).trans rfl, (blk_cell BK270.out 1).trans rfl, (blk_cell BK270.out 2).trans rfl, (blk_cell BK270.out 3).trans rfl⟩ (fun hHeld => ?_)
 generalize w106.drew = w107 at BK269 BK270 HB hHeld ⊢
 refine take_ (i := 0) (N := some 20) (v := ?_) (a' := ?_) L1' rfl rfl kZ (fun _ _ _ h => h) (Or.inl ⟨by rfl, ?_⟩) hHeld ?_ ?_
 rotate_left
 ·rintro w' ⟨s0, s1, s2, s3, s4, s5, s6⟩
  go_simp
  with_reducible rfl
 rotate_left
 ·simp only [Act.put, sZ1, sZ2, sZ3, i64_w, i32_w]
  rfl
 refine take_ (i := 2) (N := some 22) (v := ?_) (a' := ?_) L2' rfl rfl kZ (fun _ _ _ h => h) (Or.inl ⟨by rfl, ?_⟩) hHeld ?_ ?_
 rotate_left
 ·rintro w' ⟨s0, s1, s2, s3, s4, s5, s6⟩
  go_simp
  with_reducible rfl
 rotate_left
 ·simp only [Act.put, sZ1, sZ2, sZ3, i64_w, i32_w]
  rfl
 refine one_ (i := 1) (N := some 21) L3' rfl rfl kZ (by decide) (fun K hK => ?_)
 refine goes_ Try.func17 kZ rfl #[.agg #[.slice A0_0 l0_0.length c0_0, .int .i64 a0_1, .int .i64 a0_2]] (by rfl) rfl rfl tZA ?_
 with_reducible refine (laws_toFrame.calls k _ _ l0_0 a0_1 a0_2 t273 t276 t277 _ ?side1 ?side2 A19.out).mono ?_
 (case side1 => repeat (first | exact (Kd.C_below HR0_0.out HB.out) | (with_reducible refine Kd.C_alloc ?_ _) | (with_reducible refine Kd.C_drewN ?_ _) | (with_reducible refine Kd.C_drew ?_)))
 (case side2 => exact HC0_0.out)
 rintro e w108 ⟨v274, rfl, ho0, hb⟩
 refine ⟨_, rfl, ?_⟩
 have HO275 := aZ (Kd.R_lower ho0 (below_size bZ))
 replace BK269 := aZ (blk_below (bkZ BK269.out) hb)
 replace BK270 := aZ (blk_below (bkZ BK270.out) hb)
 replace HB := aZ (below_step bZ hb)
 (try clear hb)
 (try clear hb2)
 (try clear hk)
 (try clear hi)
 (try clear ho0)
 refine hK.out _ _ ⟨(blk_cell BK269.out 0).trans rfl, (blk_cell BK269.out 1).trans rfl, (blk_cell BK269.out 2).trans rfl, (blk_cell BK270.out 0).trans rfl, (blk_cell BK270.out 1).trans rfl, (blk_cell BK270.out 2).trans rfl, (blk_cell BK270.out 3).trans rfl⟩ (fun hHeld => ?_)
 clear hK K
 refine norm_ (a' := ?_) ?_ ?_
 rotate_left
 ·show Act.put _ (some 21) _ = _
  simp only [Act.put, sZ1, sZ2, sZ3, i64_w, i32_w]
  rfl
 refine one_ (i := 3) (N := some 23) #[true, true, true, true, false, false] rfl rfl kZ (by decide) (fun K hK => ?_)
 refine goes_ Try.func18 kZ rfl #[.agg #[.int .i64 a1_0, .int .i64 a1_1, .string a1_2, .slice A1_3 l1_3.length c1_3]] (by rfl) rfl rfl tZA ?_
 with_reducible refine (laws_toEntry.calls k a1_0 a1_1 a1_2 _ _ l1_3 t278 t279 t280 t281 _ ?side1 ?side2 A20.out).mono ?_
 (case side1 => repeat (first | exact (Kd.C_below HR1_3.out HB.out) | (with_reducible refine Kd.C_alloc ?_ _) | (with_reducible refine Kd.C_drewN ?_ _) | (with_reducible refine Kd.C_drew ?_)))
 (case side2 => exact HC1_3.out)
 rintro e w109 ⟨v282, rfl, ho0, hb⟩
 refine ⟨_, rfl, ?_⟩
 replace HO275 := aZ (Kd.R_below (lZR HO275.out) hb)
 have HO283 := aZ (Kd.R_lower ho0 (below_size bZ))
 replace BK269 := aZ (blk_below (bkZ BK269.out) hb)
 replace BK270 := aZ (blk_below (bkZ BK270.out) hb)
 replace HB := aZ (below_step bZ hb)
 (try clear hb)
 (try clear hb2)
 (try clear hk)
 (try clear hi)
 (try clear ho0)
 obtain ⟨Ao110, co110, eo110⟩ := Kd.R_slice HO275.out
 (first | subst eo110 | (injection eo110 with f1_ f2_ f3_; have f4_ := f1_.symm; have f5_ := f3_.symm; clear f1_ f2_ f3_; subst f4_; subst f5_))
 obtain ⟨Ao111, co111, eo111⟩ := Kd.R_slice HO283.out
 (first | subst eo111 | (injection eo111 with f1_ f2_ f3_; have f4_ := f1_.symm; have f5_ := f3_.symm; clear f1_ f2_ f3_; subst f4_; subst f5_))
 refine hK.out _ _ ⟨(blk_cell BK269.out 0).trans rfl, (blk_cell BK269.out 1).trans rfl, (blk_cell BK269.out 2).trans rfl, (blk_cell BK270.out 0).trans rfl, (blk_cell BK270.out 1).trans rfl, (blk_cell BK270.out 2).trans rfl, (blk_cell BK270.out 3).trans rfl⟩ (fun hHeld => ?_)
 clear hK K
 refine norm_ (a' := ?_) ?_ ?_
 rotate_left
 ·show Act.put _ (some 23) _ = _
  simp only [Act.put, sZ1, sZ2, sZ3, i64_w, i32_w]
  rfl
 refine one_ (i := 4) (N := some 24) #[true, true, true, true, true, false] rfl rfl kZ (by decide) (fun K hK => ?_)
 refine goes_ Try.func16 kZ rfl #[.agg #[.slice Ao110 t273.length co110, .int .i64 t276, .int .i64 t277], .agg #[.int .i64 t278, .int .i64 t279, .string t280, .slice Ao111 t281.length co111]] (by rfl) rfl rfl tZA ?_
 with_reducible refine (spec_EntryOk.calls k _ _ t273 t276 t277 t278 t279 t280 _ _ t281 t284 _ ?side1 ?side2 ?side3 ?side4 A21.out).mono ?_
 (case side1 => repeat (first | exact (Kd.R_reads' HO275.out).2.2 | (with_reducible refine Kd.C_alloc ?_ _) | (with_reducible refine Kd.C_drewN ?_ _) | (with_reducible refine Kd.C_drew ?_)))
 (case side2 => exact (Kd.R_reads' HO275.out).2.1)
 (case side3 => repeat (first | exact (Kd.R_reads' HO283.out).2.2 | (with_reducible refine Kd.C_alloc ?_ _) | (with_reducible refine Kd.C_drewN ?_ _) | (with_reducible refine Kd.C_drew ?_)))
 (case side4 => exact (Kd.R_reads' HO283.out).2.1)
 rintro e w112 ⟨rfl, hb⟩
 refine ⟨_, rfl, ?_⟩
 replace HO275 := aZ (Kd.R_below (lZR HO275.out) hb)
 replace HO283 := aZ (Kd.R_below (lZR HO283.out) hb)
 replace BK269 := aZ (blk_below (bkZ BK269.out) hb)
 replace BK270 := aZ (blk_below (bkZ BK270.out) hb)
 replace HB := aZ (below_step bZ hb)
 (try clear hb)
 (try clear hb2)
 (try clear hk)
 (try clear hi)
 refine hK.out _ _ ⟨(blk_cell BK269.out 0).trans rfl, (blk_cell BK269.out 1).trans rfl, (blk_cell BK269.out 2).trans rfl, (blk_cell BK270.out 0).trans rfl, (blk_cell BK270.out 1).trans rfl, (blk_cell BK270.out 2).trans rfl, (blk_cell BK270.out 3).trans rfl⟩ (fun hHeld => ?_)
 clear hK K
 refine norm_ (a' := ?_) ?_ ?_
 rotate_left
 ·show Act.put _ (some 24) _ = _
  simp only [Act.put, sZ1, sZ2, sZ3, i64_w, i32_w]
  rfl
 refine pure_ (i := 5) (N := some 6) (v := ?_) (a' := ?_) #[true, true, true, true, true, true] rfl rfl kZ (fun _ _ _ h => h) (Or.inl ⟨by rfl, ?_⟩) ?_ ?_
 rotate_left
 ·intro w'
  go_simp
  with_reducible rfl
 rotate_left
 ·simp only [Act.put, sZ1, sZ2, sZ3, i64_w, i32_w]
  rfl
 refine done_ kZ ?_
 have hcz113_0 : w112.cell? ⟨gb269, 0, none⟩ = some (.slice A0_0 l0_0.length c0_0) := (blk_cell BK269.out 0).trans rfl
 have hcz113_1 : w112.cell? ⟨gb269, 1, none⟩ = some (.int .i64 a0_1) := (blk_cell BK269.out 1).trans rfl
 have hcz113_2 : w112.cell? ⟨gb269, 2, none⟩ = some (.int .i64 a0_2) := (blk_cell BK269.out 2).trans rfl
 have hfz113_0 := blk_frozen BK269.out 0
 have hfz113_1 := blk_frozen BK269.out 1
 have hfz113_2 := blk_frozen BK269.out 2
 try go_wp2_with (first | ((with_reducible refine gate_callee (f := 17) rfl ?_); refine goesL_ (some 26) rfl rfl Try.func17 kZ rfl #[.agg #[.slice A0_0 l0_0.length c0_0, .int .i64 a0_1, .int .i64 a0_2]] rfl tZA ?_; (with_reducible refine (laws_toFrame.calls k _ _ l0_0 a0_1 a0_2 t285 t288 t289 _ ?side1 ?side2 A22.out).mono ?_); (case side1 => repeat (first | exact (Kd.C_below HR0_0.out HB.out) | (with_reducible refine Kd.C_alloc ?_ _) | (with_reducible refine Kd.C_drewN ?_ _) | (with_reducible refine Kd.C_drew ?_))); (case side2 => exact HC0_0.out); rintro e w114 ⟨v286, rfl, ho0, hb⟩; refine ⟨_, rfl, ?_⟩; replace HO283 := aZ (Kd.R_below (lZR HO283.out) hb); have HO287 := aZ (Kd.R_lower (Kd.R_new' ho0 (Kd.R_lt (lZR HO275.out))) (below_size bZ)); replace HO275 := aZ (Kd.R_elder' (lZR HO275.out) (Kd.R_base ho0) hb); replace BK269 := aZ (blk_below (bkZ BK269.out) hb); replace BK270 := aZ (blk_below (bkZ BK270.out) hb); replace HB := aZ (below_step bZ hb); (try clear hb); (try clear hb2); (try clear hk); (try clear hi); (try clear ho0)) | ((with_reducible refine gate_dst (N := 7) rfl ?_); refine box_event ?hg (N := 7) ?hd (cs := #[.slice none 0 0, .int .i64 0, .int .i64 0]) (t := 33) ?hr ?_; (case hd => rfl); (case hg => rfl); (case hr => first | (go_simp; done) | (go_simp; rfl)); intro gb290 hg w115 hbox hb; replace HO275 := aZ (Kd.R_below (lZR HO275.out) hb); replace HO283 := aZ (Kd.R_below (lZR HO283.out) hb); replace HO287 := aZ (Kd.R_below (lZR HO287.out) hb); have BK290 := aZ (hbox); have GW290 := aZ ((by rw [hg]; exact (below_size bZ) : w.heap.size ≤ gb290)); have GE290 := aZ ((by rw [hg]; exact (below_size bZ) : w.heap.size ≤ gb290)); replace HB := aZ (below_step bZ hb); have NB269_290 := aZ ((by rw [hg]; exact Nat.ne_of_lt (blk_lt (bkZ BK269.out)) : gb269 ≠ gb290)); have NB290_269 := aZ ((by rw [hg]; exact Nat.ne_of_gt (blk_lt (bkZ BK269.out)) : gb290 ≠ gb269)); replace BK269 := aZ (blk_below (bkZ BK269.out) hb); have NB270_290 := aZ ((by rw [hg]; exact Nat.ne_of_lt (blk_lt (bkZ BK270.out)) : gb270 ≠ gb290)); have NB290_270 := aZ ((by rw [hg]; exact Nat.ne_of_gt (blk_lt (bkZ BK270.out)) : gb290 ≠ gb270)); replace BK270 := aZ (blk_below (bkZ BK270.out) hb); clear hb hbox hg; obtain ⟨Ao116, co116, eo116⟩ := Kd.R_slice HO287.out; subst eo116; have hnb117 := NB290_269.out; have hnc117 := NB269_290.out; have hnb118 := NB290_270.out; have hnc118 := NB270_290.out; have hcz119_0 : w115.cell? ⟨gb290, 0, none⟩ = some (.slice none 0 0) := (blk_cell BK290.out 0).trans rfl; have hcz119_1 : w115.cell? ⟨gb290, 1, none⟩ = some (.int .i64 0) := (blk_cell BK290.out 1).trans rfl; have hcz119_2 : w115.cell? ⟨gb290, 2, none⟩ = some (.int .i64 0) := (blk_cell BK290.out 2).trans rfl; have hfz119_0 := blk_frozen BK290.out 0; have hfz119_1 := blk_frozen BK290.out 1; have hfz119_2 := blk_frozen BK290.out 2; have hcz120_0 : w115.cell? ⟨gb270, 0, none⟩ = some (.int .i64 a1_0) := (blk_cell BK270.out 0).trans rfl; have hcz120_1 : w115.cell? ⟨gb270, 1, none⟩ = some (.int .i64 a1_1) := (blk_cell BK270.out 1).trans rfl; have hcz120_2 : w115.cell? ⟨gb270, 2, none⟩ = some (.string a1_2) := (blk_cell BK270.out 2).trans rfl; have hcz120_3 : w115.cell? ⟨gb270, 3, none⟩ = some (.slice A1_3 l1_3.length c1_3) := (blk_cell BK270.out 3).trans rfl; have hfz120_0 := blk_frozen BK270.out 0; have hfz120_1 := blk_frozen BK270.out 1; have hfz120_2 := blk_frozen BK270.out 2; have hfz120_3 := blk_frozen BK270.out 3) | ((with_reducible refine gate_callee (f := 18) rfl ?_); refine goesL_ (some 28) rfl rfl Try.func18 kZ rfl #[.agg #[.int .i64 a1_0, .int .i64 a1_1, .string a1_2, .slice A1_3 l1_3.length c1_3]] rfl tZA ?_; (with_reducible refine (laws_toEntry.calls k a1_0 a1_1 a1_2 _ _ l1_3 t291 t292 t293 t294 _ ?side1 ?side2 A23.out).mono ?_); (case side1 => exact Kd.C_below HR1_3.out bZ); (case side2 => exact HC1_3.out); rintro e w121 ⟨v295, rfl, ho0, hb⟩; refine ⟨_, rfl, ?_⟩; replace HO275 := aZ (Kd.R_below (by (with_reducible repeat (first | apply Kd.R_alloc | apply Kd.R_drewN | apply Kd.R_drew)); exact (Kd.R_mono (Kd.R_far (p := ⟨gb290, 2, none⟩) (Kd.R_far (p := ⟨gb290, 1, none⟩) (Kd.R_far (p := ⟨gb290, 0, none⟩) (Kd.R_types HO275.out BK290.out (by decide)) (fun _ hk => hk.2) (.slice Ao116 t285.length co116)) (fun _ hk => hk.2) (.int .i64 t288)) (fun _ hk => hk.2) (.int .i64 t289)) (fun _ h_ => h_.1))) hb); replace HO287 := aZ (Kd.R_below (by (with_reducible repeat (first | apply Kd.R_alloc | apply Kd.R_drewN | apply Kd.R_drew)); exact (Kd.R_mono (Kd.R_far (p := ⟨gb290, 2, none⟩) (Kd.R_far (p := ⟨gb290, 1, none⟩) (Kd.R_far (p := ⟨gb290, 0, none⟩) (Kd.R_types HO287.out BK290.out (by decide)) (fun _ hk => hk.2) (.slice Ao116 t285.length co116)) (fun _ hk => hk.2) (.int .i64 t288)) (fun _ hk => hk.2) (.int .i64 t289)) (fun _ h_ => h_.1))) hb); have HO296 := aZ (Kd.R_lower (Kd.R_new' ho0 (Kd.R_lt (by (with_reducible repeat (first | apply Kd.R_alloc | apply Kd.R_drewN | apply Kd.R_drew)); exact (Kd.R_mono (Kd.R_far (p := ⟨gb290, 2, none⟩) (Kd.R_far (p := ⟨gb290, 1, none⟩) (Kd.R_far (p := ⟨gb290, 0, none⟩) (Kd.R_types HO283.out BK290.out (by decide)) (fun _ hk => hk.2) (.slice Ao116 t285.length co116)) (fun _ hk => hk.2) (.int .i64 t288)) (fun _ hk => hk.2) (.int .i64 t289)) (fun _ h_ => h_.1))))) (below_size bZ)); replace HO283 := aZ (Kd.R_elder' (by (with_reducible repeat (first | apply Kd.R_alloc | apply Kd.R_drewN | apply Kd.R_drew)); exact (Kd.R_mono (Kd.R_far (p := ⟨gb290, 2, none⟩) (Kd.R_far (p := ⟨gb290, 1, none⟩) (Kd.R_far (p := ⟨gb290, 0, none⟩) (Kd.R_types HO283.out BK290.out (by decide)) (fun _ hk => hk.2) (.slice Ao116 t285.length co116)) (fun _ hk => hk.2) (.int .i64 t288)) (fun _ hk => hk.2) (.int .i64 t289)) (fun _ h_ => h_.1))) (Kd.R_base ho0) hb); replace BK269 := aZ (blk_below (g := gb269) (o := .cells #[.slice A0_0 l0_0.length c0_0, .int .i64 a0_1, .int .i64 a0_2] 24 (0, 0)) (by (with_reducible repeat (first | refine blk_drewN ?_ _ | refine blk_drew ?_ | refine blk_alloc ?_ _)); refine blk_far ?_ NB269_290.out _; (with_reducible repeat (first | refine blk_drewN ?_ _ | refine blk_drew ?_ | refine blk_alloc ?_ _)); refine blk_far ?_ NB269_290.out _; (with_reducible repeat (first | refine blk_drewN ?_ _ | refine blk_drew ?_ | refine blk_alloc ?_ _)); refine blk_far ?_ NB269_290.out _; (with_reducible repeat (first | refine blk_drewN ?_ _ | refine blk_drew ?_ | refine blk_alloc ?_ _)); exact BK269.out) hb); replace BK270 := aZ (blk_below (g := gb270) (o := .cells #[.int .i64 a1_0, .int .i64 a1_1, .string a1_2, .slice A1_3 l1_3.length c1_3] 27 (0, 0)) (by (with_reducible repeat (first | refine blk_drewN ?_ _ | refine blk_drew ?_ | refine blk_alloc ?_ _)); refine blk_far ?_ NB270_290.out _; (with_reducible repeat (first | refine blk_drewN ?_ _ | refine blk_drew ?_ | refine blk_alloc ?_ _)); refine blk_far ?_ NB270_290.out _; (with_reducible repeat (first | refine blk_drewN ?_ _ | refine blk_drew ?_ | refine blk_alloc ?_ _)); refine blk_far ?_ NB270_290.out _; (with_reducible repeat (first | refine blk_drewN ?_ _ | refine blk_drew ?_ | refine blk_alloc ?_ _)); exact BK270.out) hb); replace BK290 := aZ (blk_below (g := gb290) (o := .cells #[.slice Ao116 t285.length co116, .int .i64 t288, .int .i64 t289] 33 (0, 0)) (by (with_reducible repeat (first | refine blk_drewN ?_ _ | refine blk_drew ?_ | refine blk_alloc ?_ _)); refine blk_put (cs := #[.slice Ao116 t285.length co116, .int .i64 t288, .int .i64 0]) ?_ 2 _ rfl; (with_reducible repeat (first | refine blk_drewN ?_ _ | refine blk_drew ?_ | refine blk_alloc ?_ _)); refine blk_put (cs := #[.slice Ao116 t285.length co116, .int .i64 0, .int .i64 0]) ?_ 1 _ rfl; (with_reducible repeat (first | refine blk_drewN ?_ _ | refine blk_drew ?_ | refine blk_alloc ?_ _)); refine blk_put (cs := #[.slice none 0 0, .int .i64 0, .int .i64 0]) ?_ 0 _ rfl; (with_reducible repeat (first | refine blk_drewN ?_ _ | refine blk_drew ?_ | refine blk_alloc ?_ _)); exact BK290.out) hb); replace HB := aZ (below_step bZ hb); (try clear hb); (try clear hb2); (try clear hk); (try clear hi); (try clear ho0)) | ((with_reducible refine gate_dst (N := 8) rfl ?_); refine box_event ?hg (N := 8) ?hd (cs := #[.int .i64 0, .int .i64 0, .string (⟨#[]⟩ : ByteArray), .slice none 0 0]) (t := 37) ?hr ?_; (case hd => rfl); (case hg => rfl); (case hr => first | (go_simp; done) | (go_simp; rfl)); intro gb297 hg w122 hbox hb; replace HO275 := aZ (Kd.R_below (lZR HO275.out) hb); replace HO283 := aZ (Kd.R_below (lZR HO283.out) hb); replace HO287 := aZ (Kd.R_below (lZR HO287.out) hb); replace HO296 := aZ (Kd.R_below (lZR HO296.out) hb); have BK297 := aZ (hbox); have GW297 := aZ ((by rw [hg]; exact (below_size bZ) : w.heap.size ≤ gb297)); have GE297 := aZ ((by rw [hg]; exact (below_size bZ) : w.heap.size ≤ gb297)); replace HB := aZ (below_step bZ hb); have NB269_297 := aZ ((by rw [hg]; exact Nat.ne_of_lt (blk_lt (bkZ BK269.out)) : gb269 ≠ gb297)); have NB297_269 := aZ ((by rw [hg]; exact Nat.ne_of_gt (blk_lt (bkZ BK269.out)) : gb297 ≠ gb269)); replace BK269 := aZ (blk_below (bkZ BK269.out) hb); have NB270_297 := aZ ((by rw [hg]; exact Nat.ne_of_lt (blk_lt (bkZ BK270.out)) : gb270 ≠ gb297)); have NB297_270 := aZ ((by rw [hg]; exact Nat.ne_of_gt (blk_lt (bkZ BK270.out)) : gb297 ≠ gb270)); replace BK270 := aZ (blk_below (bkZ BK270.out) hb); have NB290_297 := aZ ((by rw [hg]; exact Nat.ne_of_lt (blk_lt (bkZ BK290.out)) : gb290 ≠ gb297)); have NB297_290 := aZ ((by rw [hg]; exact Nat.ne_of_gt (blk_lt (bkZ BK290.out)) : gb297 ≠ gb290)); replace BK290 := aZ (blk_below (bkZ BK290.out) hb); clear hb hbox hg; have hnb123 := NB297_269.out; have hnc123 := NB269_297.out; have hnb124 := NB297_270.out; have hnc124 := NB270_297.out; have hnb125 := NB297_290.out; have hnc125 := NB290_297.out; have hcz126_0 : w122.cell? ⟨gb297, 0, none⟩ = some (.int .i64 0) := (blk_cell BK297.out 0).trans rfl; have hcz126_1 : w122.cell? ⟨gb297, 1, none⟩ = some (.int .i64 0) := (blk_cell BK297.out 1).trans rfl; have hcz126_2 : w122.cell? ⟨gb297, 2, none⟩ = some (.string (⟨#[]⟩ : ByteArray)) := (blk_cell BK297.out 2).trans rfl; have hcz126_3 : w122.cell? ⟨gb297, 3, none⟩ = some (.slice none 0 0) := (blk_cell BK297.out 3).trans rfl; have hfz126_0 := blk_frozen BK297.out 0; have hfz126_1 := blk_frozen BK297.out 1; have hfz126_2 := blk_frozen BK297.out 2; have hfz126_3 := blk_frozen BK297.out 3; obtain ⟨Ao127, co127, eo127⟩ := Kd.R_slice HO296.out; subst eo127; have hcz128_0 : w122.cell? ⟨gb290, 0, none⟩ = some (.slice Ao116 t285.length co116) := (blk_cell BK290.out 0).trans rfl; have hcz128_1 : w122.cell? ⟨gb290, 1, none⟩ = some (.int .i64 t288) := (blk_cell BK290.out 1).trans rfl; have hcz128_2 : w122.cell? ⟨gb290, 2, none⟩ = some (.int .i64 t289) := (blk_cell BK290.out 2).trans rfl; have hfz128_0 := blk_frozen BK290.out 0; have hfz128_1 := blk_frozen BK290.out 1; have hfz128_2 := blk_frozen BK290.out 2) | ((with_reducible refine gate_callee (f := 19) rfl ?_); refine goesL_ (some 31) rfl rfl Try.func19 kZ rfl #[.agg #[.slice Ao116 t285.length co116, .int .i64 t288, .int .i64 t289], .agg #[.int .i64 t291, .int .i64 t292, .string t293, .slice Ao127 t294.length co127]] rfl tZA ?_; (with_reducible refine (impl_EntryOk.calls k _ _ t285 t288 t289 t291 t292 t293 _ _ t294 t298 _ ?side1 ?side2 ?side3 ?side4 A24.out).mono ?_); (case side1 => refine (Kd.R_reads' (e := 188) (base := w.heap.size) (ok := fun k_ => (True ∧ some k_ ≠ (.slice Ao110 t273.length co110 : Value).ownBlock)) (n := t285.length) (c := co116) ?_).2.2; exact (by (with_reducible repeat (first | apply Kd.R_alloc | apply Kd.R_drewN | apply Kd.R_drew)); exact (Kd.R_mono (Kd.R_far (p := ⟨gb297, 3, none⟩) (Kd.R_far (p := ⟨gb297, 2, none⟩) (Kd.R_far (p := ⟨gb297, 1, none⟩) (Kd.R_far (p := ⟨gb297, 0, none⟩) (Kd.R_types HO287.out BK297.out (by decide)) (fun _ hk => hk.2) (.int .i64 t291)) (fun _ hk => hk.2) (.int .i64 t292)) (fun _ hk => hk.2) (.string t293)) (fun _ hk => hk.2) (.slice Ao127 t294.length co127)) (fun _ h_ => h_.1)))); (case side2 => exact (Kd.R_reads' HO287.out).2.1); (case side3 => refine (Kd.R_reads' (e := 109) (base := w.heap.size) (ok := fun k_ => (True ∧ some k_ ≠ (.slice Ao111 t281.length co111 : Value).ownBlock)) (n := t294.length) (c := co127) ?_).2.2; exact (by (with_reducible repeat (first | apply Kd.R_alloc | apply Kd.R_drewN | apply Kd.R_drew)); exact (Kd.R_mono (Kd.R_far (p := ⟨gb297, 3, none⟩) (Kd.R_far (p := ⟨gb297, 2, none⟩) (Kd.R_far (p := ⟨gb297, 1, none⟩) (Kd.R_far (p := ⟨gb297, 0, none⟩) (Kd.R_types HO296.out BK297.out (by decide)) (fun _ hk => hk.2) (.int .i64 t291)) (fun _ hk => hk.2) (.int .i64 t292)) (fun _ hk => hk.2) (.string t293)) (fun _ hk => hk.2) (.slice Ao127 t294.length co127)) (fun _ h_ => h_.1)))); (case side4 => exact (Kd.R_reads' HO296.out).2.1); rintro e w129 ⟨rfl, hb⟩; refine ⟨_, rfl, ?_⟩; replace HO275 := aZ (Kd.R_below (by (with_reducible repeat (first | apply Kd.R_alloc | apply Kd.R_drewN | apply Kd.R_drew)); exact (Kd.R_mono (Kd.R_far (p := ⟨gb297, 3, none⟩) (Kd.R_far (p := ⟨gb297, 2, none⟩) (Kd.R_far (p := ⟨gb297, 1, none⟩) (Kd.R_far (p := ⟨gb297, 0, none⟩) (Kd.R_types HO275.out BK297.out (by decide)) (fun _ hk => hk.2) (.int .i64 t291)) (fun _ hk => hk.2) (.int .i64 t292)) (fun _ hk => hk.2) (.string t293)) (fun _ hk => hk.2) (.slice Ao127 t294.length co127)) (fun _ h_ => h_.1))) hb); replace HO283 := aZ (Kd.R_below (by (with_reducible repeat (first | apply Kd.R_alloc | apply Kd.R_drewN | apply Kd.R_drew)); exact (Kd.R_mono (Kd.R_far (p := ⟨gb297, 3, none⟩) (Kd.R_far (p := ⟨gb297, 2, none⟩) (Kd.R_far (p := ⟨gb297, 1, none⟩) (Kd.R_far (p := ⟨gb297, 0, none⟩) (Kd.R_types HO283.out BK297.out (by decide)) (fun _ hk => hk.2) (.int .i64 t291)) (fun _ hk => hk.2) (.int .i64 t292)) (fun _ hk => hk.2) (.string t293)) (fun _ hk => hk.2) (.slice Ao127 t294.length co127)) (fun _ h_ => h_.1))) hb); replace HO287 := aZ (Kd.R_below (by (with_reducible repeat (first | apply Kd.R_alloc | apply Kd.R_drewN | apply Kd.R_drew)); exact (Kd.R_mono (Kd.R_far (p := ⟨gb297, 3, none⟩) (Kd.R_far (p := ⟨gb297, 2, none⟩) (Kd.R_far (p := ⟨gb297, 1, none⟩) (Kd.R_far (p := ⟨gb297, 0, none⟩) (Kd.R_types HO287.out BK297.out (by decide)) (fun _ hk => hk.2) (.int .i64 t291)) (fun _ hk => hk.2) (.int .i64 t292)) (fun _ hk => hk.2) (.string t293)) (fun _ hk => hk.2) (.slice Ao127 t294.length co127)) (fun _ h_ => h_.1))) hb); replace HO296 := aZ (Kd.R_below (by (with_reducible repeat (first | apply Kd.R_alloc | apply Kd.R_drewN | apply Kd.R_drew)); exact (Kd.R_mono (Kd.R_far (p := ⟨gb297, 3, none⟩) (Kd.R_far (p := ⟨gb297, 2, none⟩) (Kd.R_far (p := ⟨gb297, 1, none⟩) (Kd.R_far (p := ⟨gb297, 0, none⟩) (Kd.R_types HO296.out BK297.out (by decide)) (fun _ hk => hk.2) (.int .i64 t291)) (fun _ hk => hk.2) (.int .i64 t292)) (fun _ hk => hk.2) (.string t293)) (fun _ hk => hk.2) (.slice Ao127 t294.length co127)) (fun _ h_ => h_.1))) hb); replace BK269 := aZ (blk_below (g := gb269) (o := .cells #[.slice A0_0 l0_0.length c0_0, .int .i64 a0_1, .int .i64 a0_2] 24 (0, 0)) (by (with_reducible repeat (first | refine blk_drewN ?_ _ | refine blk_drew ?_ | refine blk_alloc ?_ _)); refine blk_far ?_ NB269_297.out _; (with_reducible repeat (first | refine blk_drewN ?_ _ | refine blk_drew ?_ | refine blk_alloc ?_ _)); refine blk_far ?_ NB269_297.out _; (with_reducible repeat (first | refine blk_drewN ?_ _ | refine blk_drew ?_ | refine blk_alloc ?_ _)); refine blk_far ?_ NB269_297.out _; (with_reducible repeat (first | refine blk_drewN ?_ _ | refine blk_drew ?_ | refine blk_alloc ?_ _)); refine blk_far ?_ NB269_297.out _; (with_reducible repeat (first | refine blk_drewN ?_ _ | refine blk_drew ?_ | refine blk_alloc ?_ _)); exact BK269.out) hb); replace BK270 := aZ (blk_below (g := gb270) (o := .cells #[.int .i64 a1_0, .int .i64 a1_1, .string a1_2, .slice A1_3 l1_3.length c1_3] 27 (0, 0)) (by (with_reducible repeat (first | refine blk_drewN ?_ _ | refine blk_drew ?_ | refine blk_alloc ?_ _)); refine blk_far ?_ NB270_297.out _; (with_reducible repeat (first | refine blk_drewN ?_ _ | refine blk_drew ?_ | refine blk_alloc ?_ _)); refine blk_far ?_ NB270_297.out _; (with_reducible repeat (first | refine blk_drewN ?_ _ | refine blk_drew ?_ | refine blk_alloc ?_ _)); refine blk_far ?_ NB270_297.out _; (with_reducible repeat (first | refine blk_drewN ?_ _ | refine blk_drew ?_ | refine blk_alloc ?_ _)); refine blk_far ?_ NB270_297.out _; (with_reducible repeat (first | refine blk_drewN ?_ _ | refine blk_drew ?_ | refine blk_alloc ?_ _)); exact BK270.out) hb); replace BK290 := aZ (blk_below (g := gb290) (o := .cells #[.slice Ao116 t285.length co116, .int .i64 t288, .int .i64 t289] 33 (0, 0)) (by (with_reducible repeat (first | refine blk_drewN ?_ _ | refine blk_drew ?_ | refine blk_alloc ?_ _)); refine blk_far ?_ NB290_297.out _; (with_reducible repeat (first | refine blk_drewN ?_ _ | refine blk_drew ?_ | refine blk_alloc ?_ _)); refine blk_far ?_ NB290_297.out _; (with_reducible repeat (first | refine blk_drewN ?_ _ | refine blk_drew ?_ | refine blk_alloc ?_ _)); refine blk_far ?_ NB290_297.out _; (with_reducible repeat (first | refine blk_drewN ?_ _ | refine blk_drew ?_ | refine blk_alloc ?_ _)); refine blk_far ?_ NB290_297.out _; (with_reducible repeat (first | refine blk_drewN ?_ _ | refine blk_drew ?_ | refine blk_alloc ?_ _)); exact BK290.out) hb); replace BK297 := aZ (blk_below (g := gb297) (o := .cells #[.int .i64 t291, .int .i64 t292, .string t293, .slice Ao127 t294.length co127] 37 (0, 0)) (by (with_reducible repeat (first | refine blk_drewN ?_ _ | refine blk_drew ?_ | refine blk_alloc ?_ _)); refine blk_put (cs := #[.int .i64 t291, .int .i64 t292, .string t293, .slice none 0 0]) ?_ 3 _ rfl; (with_reducible repeat (first | refine blk_drewN ?_ _ | refine blk_drew ?_ | refine blk_alloc ?_ _)); refine blk_put (cs := #[.int .i64 t291, .int .i64 t292, .string (⟨#[]⟩ : ByteArray), .slice none 0 0]) ?_ 2 _ rfl; (with_reducible repeat (first | refine blk_drewN ?_ _ | refine blk_drew ?_ | refine blk_alloc ?_ _)); refine blk_put (cs := #[.int .i64 t291, .int .i64 0, .string (⟨#[]⟩ : ByteArray), .slice none 0 0]) ?_ 1 _ rfl; (with_reducible repeat (first | refine blk_drewN ?_ _ | refine blk_drew ?_ | refine blk_alloc ?_ _)); refine blk_put (cs := #[.int .i64 0, .int .i64 0, .string (⟨#[]⟩ : ByteArray), .slice none 0 0]) ?_ 0 _ rfl; (with_reducible repeat (first | refine blk_drewN ?_ _ | refine blk_drew ?_ | refine blk_alloc ?_ _)); exact BK297.out) hb); replace HB := aZ (below_step bZ hb); (try clear hb); (try clear hb2); (try clear hk); (try clear hi)))
 replace HO275 := aZ (Kd.R_drew HO275.out)
 replace HO283 := aZ (Kd.R_drew HO283.out)
 replace HO287 := aZ (Kd.R_drew HO287.out)
 replace HO296 := aZ (Kd.R_drew HO296.out)
 replace BK269 := aZ (blk_drew BK269.out)
 replace BK270 := aZ (blk_drew BK270.out)
 replace BK290 := aZ (blk_drew BK290.out)
 replace BK297 := aZ (blk_drew BK297.out)
 replace HB := aZ (below_drew1 HB.out)
 refine start_ (n := 5) (S := fun w' => w'.cell? ⟨gb290, 0, none⟩ = some (.slice Ao116 t285.length co116) ∧ w'.cell? ⟨gb290, 1, none⟩ = some (.int .i64 t288) ∧ w'.cell? ⟨gb290, 2, none⟩ = some (.int .i64 t289) ∧ w'.cell? ⟨gb269, 0, none⟩ = some (.slice A0_0 l0_0.length c0_0) ∧ w'.cell? ⟨gb269, 1, none⟩ = some (.int .i64 a0_1) ∧ w'.cell? ⟨gb269, 2, none⟩ = some (.int .i64 a0_2)) (ds := []) #[false, false, false, false, false] kZ rfl rfl ⟨(blk_cell BK290.out 0).trans rfl, (blk_cell BK290.out 1).trans rfl, (blk_cell BK290.out 2).trans rfl, (blk_cell BK269.out 0).trans rfl, (blk_cell BK269.out 1).trans rfl, (blk_cell BK269.out 2).trans rfl⟩ (fun hHeld => ?_)
 generalize w129.drew = w130 at HO275 HO283 HO287 HO296 BK269 BK270 BK290 BK297 HB hHeld ⊢
 refine take_ (i := 0) (N := some 35) (v := ?_) (a' := ?_) #[true, false, false, false, false] rfl rfl kZ (fun _ _ _ h => h) (Or.inl ⟨by rfl, ?_⟩) hHeld ?_ ?_
 rotate_left
 ·rintro w' ⟨s0, s1, s2, s3, s4, s5⟩
  go_simp
  with_reducible rfl
 rotate_left
 ·simp only [Act.put, sZ1, sZ2, sZ3, i64_w, i32_w]
  rfl
 refine take_ (i := 1) (N := some 36) (v := ?_) (a' := ?_) #[true, true, false, false, false] rfl rfl kZ (fun _ _ _ h => h) (Or.inl ⟨by rfl, ?_⟩) hHeld ?_ ?_
 rotate_left
 ·rintro w' ⟨s0, s1, s2, s3, s4, s5⟩
  go_simp
  with_reducible rfl
 rotate_left
 ·simp only [Act.put, sZ1, sZ2, sZ3, i64_w, i32_w]
  rfl
 refine one_ (i := 2) (N := some 37) #[true, true, true, false, false] rfl rfl kZ (by decide) (fun K hK => ?_)
 refine goes_ Try.func17 kZ rfl #[.agg #[.slice A0_0 l0_0.length c0_0, .int .i64 a0_1, .int .i64 a0_2]] (by rfl) rfl rfl tZA ?_
 with_reducible refine (laws_toFrame.calls k _ _ l0_0 a0_1 a0_2 t299 t302 t303 _ ?side1 ?side2 A56.out).mono ?_
 (case side1 => repeat (first | exact (Kd.C_below HR0_0.out HB.out) | (with_reducible refine Kd.C_alloc ?_ _) | (with_reducible refine Kd.C_drewN ?_ _) | (with_reducible refine Kd.C_drew ?_)))
 (case side2 => exact HC0_0.out)
 rintro e w131 ⟨v300, rfl, ho0, hb⟩
 refine ⟨_, rfl, ?_⟩
 replace HO283 := aZ (Kd.R_below (lZR HO283.out) hb)
 replace HO296 := aZ (Kd.R_below (lZR HO296.out) hb)
 have HO301 := aZ (Kd.R_lower (Kd.R_new' (Kd.R_new' ho0 (Kd.R_lt (lZR HO275.out))) (Kd.R_lt (lZR HO287.out))) (below_size bZ))
 replace HO275 := aZ (Kd.R_elder' (lZR HO275.out) (Kd.R_base ho0) hb)
 replace HO287 := aZ (Kd.R_elder' (lZR HO287.out) (Kd.R_base ho0) hb)
 replace BK269 := aZ (blk_below (bkZ BK269.out) hb)
 replace BK270 := aZ (blk_below (bkZ BK270.out) hb)
 replace BK290 := aZ (blk_below (bkZ BK290.out) hb)
 replace BK297 := aZ (blk_below (bkZ BK297.out) hb)
 replace HB := aZ (below_step bZ hb)
 (try clear hb)
 (try clear hb2)
 (try clear hk)
 (try clear hi)
 (try clear ho0)
 obtain ⟨Ao132, co132, eo132⟩ := Kd.R_slice HO301.out
 (first | subst eo132 | (injection eo132 with f1_ f2_ f3_; have f4_ := f1_.symm; have f5_ := f3_.symm; clear f1_ f2_ f3_; subst f4_; subst f5_))
 refine hK.out _ _ ⟨(blk_cell BK290.out 0).trans rfl, (blk_cell BK290.out 1).trans rfl, (blk_cell BK290.out 2).trans rfl, (blk_cell BK269.out 0).trans rfl, (blk_cell BK269.out 1).trans rfl, (blk_cell BK269.out 2).trans rfl⟩ (fun hHeld => ?_)
 clear hK K
 refine norm_ (a' := ?_) ?_ ?_
 rotate_left
 ·show Act.put _ (some 37) _ = _
  simp only [Act.put, sZ1, sZ2, sZ3, i64_w, i32_w]
  rfl
 refine one_ (i := 3) (N := some 38) #[true, true, true, true, false] rfl rfl kZ (by decide) (fun K hK => ?_)
 refine goes_ Try.func20 kZ rfl #[.agg #[.slice Ao116 t285.length co116, .int .i64 t288, .int .i64 t289], .agg #[.slice Ao132 t299.length co132, .int .i64 t302, .int .i64 t303]] (by rfl) rfl rfl tZA ?_
 with_reducible refine (laws_eqFrame.calls k _ _ t285 t288 t289 _ _ t299 t302 t303 true _ ?side1 ?side2 ?side3 ?side4 A57.out).mono ?_
 (case side1 => repeat (first | exact (Kd.R_reads' HO287.out).2.2 | (with_reducible refine Kd.C_alloc ?_ _) | (with_reducible refine Kd.C_drewN ?_ _) | (with_reducible refine Kd.C_drew ?_)))
 (case side2 => exact (Kd.R_reads' HO287.out).2.1)
 (case side3 => repeat (first | exact (Kd.R_reads' HO301.out).2.2 | (with_reducible refine Kd.C_alloc ?_ _) | (with_reducible refine Kd.C_drewN ?_ _) | (with_reducible refine Kd.C_drew ?_)))
 (case side4 => exact (Kd.R_reads' HO301.out).2.1)
 rintro e w133 ⟨rfl, hb⟩
 refine ⟨_, rfl, ?_⟩
 replace HO275 := aZ (Kd.R_below (lZR HO275.out) hb)
 replace HO283 := aZ (Kd.R_below (lZR HO283.out) hb)
 replace HO287 := aZ (Kd.R_below (lZR HO287.out) hb)
 replace HO296 := aZ (Kd.R_below (lZR HO296.out) hb)
 replace HO301 := aZ (Kd.R_below (lZR HO301.out) hb)
 replace BK269 := aZ (blk_below (bkZ BK269.out) hb)
 replace BK270 := aZ (blk_below (bkZ BK270.out) hb)
 replace BK290 := aZ (blk_below (bkZ BK290.out) hb)
 replace BK297 := aZ (blk_below (bkZ BK297.out) hb)
 replace HB := aZ (below_step bZ hb)
 (try clear hb)
 (try clear hb2)
 (try clear hk)
 (try clear hi)
 refine hK.out _ _ ⟨(blk_cell BK290.out 0).trans rfl, (blk_cell BK290.out 1).trans rfl, (blk_cell BK290.out 2).trans rfl, (blk_cell BK269.out 0).trans rfl, (blk_cell BK269.out 1).trans rfl, (blk_cell BK269.out 2).trans rfl⟩ (fun hHeld => ?_)
 clear hK K
 refine norm_ (a' := ?_) ?_ ?_
 rotate_left
 ·show Act.put _ (some 38) _ = _
  simp only [Act.put, sZ1, sZ2, sZ3, i64_w, i32_w]
  rfl
 refine pure_ (i := 4) (N := some 39) (v := ?_) (a' := ?_) #[true, true, true, true, true] rfl rfl kZ (fun _ _ _ h => h) (Or.inl ⟨by rfl, ?_⟩) ?_ ?_
 rotate_left
 ·intro w'
  go_simp
  with_reducible rfl
 rotate_left
 ·simp only [Act.put, sZ1, sZ2, sZ3, i64_w, i32_w]
  rfl
 refine done_ kZ ?_
 try go_wp2
 replace HO275 := aZ (Kd.R_drew HO275.out)
 replace HO283 := aZ (Kd.R_drew HO283.out)
 replace HO287 := aZ (Kd.R_drew HO287.out)
 replace HO296 := aZ (Kd.R_drew HO296.out)
 replace HO301 := aZ (Kd.R_drew HO301.out)
 replace BK269 := aZ (blk_drew BK269.out)
 replace BK270 := aZ (blk_drew BK270.out)
 replace BK290 := aZ (blk_drew BK290.out)
 replace BK297 := aZ (blk_drew BK297.out)
 replace HB := aZ (below_drew1 HB.out)
 refine start_ (n := 5) (S := fun w' => w'.cell? ⟨gb297, 0, none⟩ = some (.int .i64 t291) ∧ w'.cell? ⟨gb297, 1, none⟩ = some (.int .i64 t292) ∧ w'.cell? ⟨gb297, 2, none⟩ = some (.string t293) ∧ w'.cell? ⟨gb297, 3, none⟩ = some (.slice Ao127 t294.length co127) ∧ w'.cell? ⟨gb270, 0, none⟩ = some (.int .i64 a1_0) ∧ w'.cell? ⟨gb270, 1, none⟩ = some (.int .i64 a1_1) ∧ w'.cell? ⟨gb270, 2, none⟩ = some (.string a1_2) ∧ w'.cell? ⟨gb270, 3, none⟩ = some (.slice A1_3 l1_3.length c1_3)) (ds := []) #[false, false, false, false, false] kZ rfl rfl ⟨(blk_cell BK297.out 0).trans rfl, (blk_cell BK297.out 1).trans rfl, (blk_cell BK297.out 2).trans rfl, (blk_cell BK297.out 3).trans rfl, (blk_cell BK270.out 0).trans rfl, (blk_cell BK270.out 1).trans rfl, (blk_cell BK270.out 2).trans rfl, (blk_cell BK270.out 3).trans rfl⟩ (fun hHeld => ?_)
 generalize w133.drew = w134 at HO275 HO283 HO287 HO296 HO301 BK269 BK270 BK290 BK297 HB hHeld ⊢
 refine take_ (i := 0) (N := some 40) (v := ?_) (a' := ?_) #[true, false, false, false, false] rfl rfl kZ (fun _ _ _ h => h) (Or.inl ⟨by rfl, ?_⟩) hHeld ?_ ?_
 rotate_left
 ·rintro w' ⟨s0, s1, s2, s3, s4, s5, s6, s7⟩
  go_simp
  with_reducible rfl
 rotate_left
 ·simp only [Act.put, sZ1, sZ2, sZ3, i64_w, i32_w]
  rfl
 refine take_ (i := 1) (N := some 41) (v := ?_) (a' := ?_) #[true, true, false, false, false] rfl rfl kZ (fun _ _ _ h => h) (Or.inl ⟨by rfl, ?_⟩) hHeld ?_ ?_
 rotate_left
 ·rintro w' ⟨s0, s1, s2, s3, s4, s5, s6, s7⟩
  go_simp
  with_reducible rfl
 rotate_left
 ·simp only [Act.put, sZ1, sZ2, sZ3, i64_w, i32_w]
  rfl
 refine one_ (i := 2) (N := some 42) #[true, true, true, false, false] rfl rfl kZ (by decide) (fun K hK => ?_)
 refine goes_ Try.func18 kZ rfl #[.agg #[.int .i64 a1_0, .int .i64 a1_1, .string a1_2, .slice A1_3 l1_3.length c1_3]] (by rfl) rfl rfl tZA ?_
 with_reducible refine (laws_toEntry.calls k a1_0 a1_1 a1_2 _ _ l1_3 t305 t306 t307 t308 _ ?side1 ?side2 A59.out).mono ?_
 (case side1 => repeat (first | exact (Kd.C_below HR1_3.out HB.out) | (with_reducible refine Kd.C_alloc ?_ _) | (with_reducible refine Kd.C_drewN ?_ _) | (with_reducible refine Kd.C_drew ?_)))
 (case side2 => exact HC1_3.out)
 rintro e w135 ⟨v309, rfl, ho0, hb⟩
 refine ⟨_, rfl, ?_⟩
 replace HO275 := aZ (Kd.R_below (lZR HO275.out) hb)
 replace HO287 := aZ (Kd.R_below (lZR HO287.out) hb)
 replace HO301 := aZ (Kd.R_below (lZR HO301.out) hb)
 have HO310 := aZ (Kd.R_lower (Kd.R_new' (Kd.R_new' ho0 (Kd.R_lt (lZR HO283.out))) (Kd.R_lt (lZR HO296.out))) (below_size bZ))
 replace HO283 := aZ (Kd.R_elder' (lZR HO283.out) (Kd.R_base ho0) hb)
 replace HO296 := aZ (Kd.R_elder' (lZR HO296.out) (Kd.R_base ho0) hb)
 replace BK269 := aZ (blk_below (bkZ BK269.out) hb)
 replace BK270 := aZ (blk_below (bkZ BK270.out) hb)
 replace BK290 := aZ (blk_below (bkZ BK290.out) hb)
 replace BK297 := aZ (blk_below (bkZ BK297.out) hb)
 replace HB := aZ (below_step bZ hb)
 (try clear hb)
 (try clear hb2)
 (try clear hk)
 (try clear hi)
 (try clear ho0)
 obtain ⟨Ao136, co136, eo136⟩ := Kd.R_slice HO310.out
 (first | subst eo136 | (injection eo136 with f1_ f2_ f3_; have f4_ := f1_.symm; have f5_ := f3_.symm; clear f1_ f2_ f3_; subst f4_; subst f5_))
 refine hK.out _ _ ⟨(blk_cell BK297.out 0).trans rfl, (blk_cell BK297.out 1).trans rfl, (blk_cell BK297.out 2).trans rfl, (blk_cell BK297.out 3).trans rfl, (blk_cell BK270.out 0).trans rfl, (blk_cell BK270.out 1).trans rfl, (blk_cell BK270.out 2).trans rfl, (blk_cell BK270.out 3).trans rfl⟩ (fun hHeld => ?_)
 clear hK K
 refine norm_ (a' := ?_) ?_ ?_
 rotate_left
 ·show Act.put _ (some 42) _ = _
  simp only [Act.put, sZ1, sZ2, sZ3, i64_w, i32_w]
  rfl
 refine one_ (i := 3) (N := some 43) #[true, true, true, true, false] rfl rfl kZ (by decide) (fun K hK => ?_)
 refine goes_ Try.func21 kZ rfl #[.agg #[.int .i64 t291, .int .i64 t292, .string t293, .slice Ao127 t294.length co127], .agg #[.int .i64 t305, .int .i64 t306, .string t307, .slice Ao136 t308.length co136]] (by rfl) rfl rfl tZA ?_
 with_reducible refine (laws_eqEntry.calls k t291 t292 t293 _ _ t294 t305 t306 t307 _ _ t308 false _ ?side1 ?side2 ?side3 ?side4 A60.out).mono ?_
 (case side1 => repeat (first | exact (Kd.R_reads' HO296.out).2.2 | (with_reducible refine Kd.C_alloc ?_ _) | (with_reducible refine Kd.C_drewN ?_ _) | (with_reducible refine Kd.C_drew ?_)))
 (case side2 => exact (Kd.R_reads' HO296.out).2.1)
 (case side3 => repeat (first | exact (Kd.R_reads' HO310.out).2.2 | (with_reducible refine Kd.C_alloc ?_ _) | (with_reducible refine Kd.C_drewN ?_ _) | (with_reducible refine Kd.C_drew ?_)))
 (case side4 => exact (Kd.R_reads' HO310.out).2.1)
 rintro e w137 ⟨rfl, hb⟩
 refine ⟨_, rfl, ?_⟩
 replace HO275 := aZ (Kd.R_below (lZR HO275.out) hb)
 replace HO283 := aZ (Kd.R_below (lZR HO283.out) hb)
 replace HO287 := aZ (Kd.R_below (lZR HO287.out) hb)
 replace HO296 := aZ (Kd.R_below (lZR HO296.out) hb)
 replace HO301 := aZ (Kd.R_below (lZR HO301.out) hb)
 replace HO310 := aZ (Kd.R_below (lZR HO310.out) hb)
 replace BK269 := aZ (blk_below (bkZ BK269.out) hb)
 replace BK270 := aZ (blk_below (bkZ BK270.out) hb)
 replace BK290 := aZ (blk_below (bkZ BK290.out) hb)
 replace BK297 := aZ (blk_below (bkZ BK297.out) hb)
 replace HB := aZ (below_step bZ hb)
 (try clear hb)
 (try clear hb2)
 (try clear hk)
 (try clear hi)
 refine hK.out _ _ ⟨(blk_cell BK297.out 0).trans rfl, (blk_cell BK297.out 1).trans rfl, (blk_cell BK297.out 2).trans rfl, (blk_cell BK297.out 3).trans rfl, (blk_cell BK270.out 0).trans rfl, (blk_cell BK270.out 1).trans rfl, (blk_cell BK270.out 2).trans rfl, (blk_cell BK270.out 3).trans rfl⟩ (fun hHeld => ?_)
 clear hK K
 refine norm_ (a' := ?_) ?_ ?_
 rotate_left
 ·show Act.put _ (some 43) _ = _
  simp only [Act.put, sZ1, sZ2, sZ3, i64_w, i32_w]
  rfl
 refine pure_ (i := 4) (N := some 44) (v := ?_) (a' := ?_) #[true, true, true, true, true] rfl rfl kZ (fun _ _ _ h => h) (Or.inl ⟨by rfl, ?_⟩) ?_ ?_
 rotate_left
 ·intro w'
  go_simp
  with_reducible rfl
 rotate_left
 ·simp only [Act.put, sZ1, sZ2, sZ3, i64_w, i32_w]
  rfl
 refine done_ kZ ?_
 try go_wp2
 go_ret
 exact ⟨tZC, bZ⟩
def laws_FnExactEntryOk.Pure : Prop := ∀ (l0_0 : List (S185)) (a0_1 : Int) (a0_2 : Int) (a1_0 : Int) (a1_1 : Int) (a1_2 : ByteArray) (l1_3 : List (S191)), (l0_0.length ≤ maxLen ∧ ∀ y ∈ l0_0, wf185 y) → ((Lit.int .i64 a0_1).wf = true) → ((Lit.int .i64 a0_2).wf = true) → ((Lit.int .i64 a1_0).wf = true) → ((Lit.int .i64 a1_1).wf = true) → (a1_2.size ≤ maxLen) → (l1_3.length ≤ maxLen ∧ ∀ y ∈ l1_3, wf191 y) → ∃ k, laws_FnExactEntryOk.f k l0_0 a0_1 a0_2 a1_0 a1_1 a1_2 l1_3 = some true
end Go.Proofs.Ytjnmfadnkbflfaa.PFnExactEntryOk
