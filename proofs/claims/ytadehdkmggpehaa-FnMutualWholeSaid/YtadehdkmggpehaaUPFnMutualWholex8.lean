import Derived.Test.YtadehdkmggpehaaUPFnMutualWholex0
import Derived.Test.YtadehdkmggpehaaUPFnMutualWholex5
import Derived.Test.YtadehdkmggpehaaUSlimWords
namespace Go.Proofs.Ytadehdkmggpehaa.PFnMutualWhole
open Go.Proofs.Ytadehdkmggpehaa.SlimWords
open Go.RowKit Go.Proofs.YtadehdkmggpehaaW.PrintWords Go.Proofs.YtadehdkmggpehaaW.PrintLast Go.Proofs.YtadehdkmggpehaaW.PrintMore Go.Proofs.Ytadehdkmggpehaa.MapWords Go.Proofs.Ytadehdkmggpehaa.IterWords Go.Proofs.Ytadehdkmggpehaa.MarkWords Go.Proofs.Ytadehdkmggpehaa.ArrWords
attribute [local go_sem] ptrOf_slice max2_int min2_int max_two min_two max_three min_three max_four min_four
set_option linter.unusedVariables false
set_option linter.unusedSimpArgs false
private abbrev I' := true
private abbrev O' := false
private abbrev L0' : Array Bool := #[O',O',O',O',O',O',O',O',O',O',O',O',O',O',O']
private abbrev L1' : Array Bool := #[I',O',O',O',O',O',O',O',O',O',O',O',O',O',O']
private abbrev L2' : Array Bool := #[I',I',O',O',O',O',O',O',O',O',O',O',O',O',O']
private abbrev L3' : Array Bool := #[I',I',I',O',O',O',O',O',O',O',O',O',O',O',O']
private abbrev L4' : Array Bool := #[I',I',I',I',O',O',O',O',O',O',O',O',O',O',O']
private abbrev L5' : Array Bool := #[I',I',I',I',I',O',O',O',O',O',O',O',O',O',O']
private abbrev L6' : Array Bool := #[I',I',I',I',I',I',O',O',O',O',O',O',O',O',O']
private abbrev L7' : Array Bool := #[I',I',I',I',I',I',O',O',O',I',O',O',O',O',O']
private abbrev L8' : Array Bool := #[I',I',I',I',I',I',O',O',O',I',I',O',O',O',O']
private abbrev L9' : Array Bool := #[I',I',I',I',I',I',I',O',O',I',I',O',O',O',O']
private abbrev L10' : Array Bool := #[I',I',I',I',I',I',I',I',O',I',I',O',O',O',O']
private abbrev L11' : Array Bool := #[I',I',I',I',I',I',I',I',I',I',I',O',O',O',O']
private abbrev L12' : Array Bool := #[I',I',I',I',I',I',I',I',I',I',I',I',O',O',O']
private abbrev L13' : Array Bool := #[I',I',I',I',I',I',I',I',I',I',I',I',I',O',O']
private abbrev L14' : Array Bool := #[I',I',I',I',I',I',I',I',I',I',I',I',I',I',O']
private abbrev L15' : Array Bool := #[I',I',I',I',I',I',I',I',I',I',I',I',I',I',I']
mutual
def impl_costsOk.j0 : Nat → List Int → Bool → Option (Bool)
  | 0, _, _ => none
  | k + 1, x0, x12 => if x12 = true then (some false) else (impl_costsOk.l0 k x0 (x0.length : Int) 0)
def impl_costsOk.l0 : Nat → List Int → Int → Int → Option (Bool)
  | 0, _, _, _ => none
  | k + 1, x13, x14, x15 => if x15 < x14 then (if 0 ≤ x15 then (if x15 < (x13.length : Int) then ((impl_amount.f (rd x13 x15)).bind fun t397 => (if t397 = true then (impl_costsOk.l0 k x13 x14 (wrap64 (x15 + 1))) else (some false))) else (none)) else (none)) else (some true)
end
def impl_costsOk.f (k : Nat) (l0 : List Int) : Option (Bool) := if (l0.length : Int) < 1 then (impl_costsOk.j0 k l0 true) else (impl_costsOk.j0 k l0 (decide ((l0.length : Int) > 200)))
theorem impl_costsOk.mono_l : ∀ k, (∀ y0 y1, LeO (impl_costsOk.j0 k y0 y1) (impl_costsOk.j0 (k + 1) y0 y1)) ∧ (∀ y0 y1 y2, LeO (impl_costsOk.l0 k y0 y1 y2) (impl_costsOk.l0 (k + 1) y0 y1 y2))
  | 0 => ⟨fun _ _ r h => by simp [impl_costsOk.j0] at h, fun _ _ _ r h => by simp [impl_costsOk.l0] at h⟩
  | k + 1 => by
    obtain ⟨ih0, ih1⟩ := impl_costsOk.mono_l k
    refine ⟨?_, ?_⟩
    · intro y0 y1
      unfold impl_costsOk.j0
      repeat' first
      | (with_reducible exact ih0 _ _)
      | (with_reducible exact ih1 _ _ _)
      | (with_reducible exact LeO.refl _)
      | (with_reducible exact LeO.none _)
      | (with_reducible refine LeO.ite ?_ ?_)
      | (with_reducible refine LeO.bind ?_ (fun _ => ?_))
      | exact ih0 _ _
      | exact ih1 _ _ _
      | exact LeO.none _
      | refine LeO.ite ?_ ?_
      | refine LeO.bind ?_ (fun _ => ?_)
    · intro y0 y1 y2
      unfold impl_costsOk.l0
      repeat' first
      | (with_reducible exact ih0 _ _)
      | (with_reducible exact ih1 _ _ _)
      | (with_reducible exact LeO.refl _)
      | (with_reducible exact LeO.none _)
      | (with_reducible refine LeO.ite ?_ ?_)
      | (with_reducible refine LeO.bind ?_ (fun _ => ?_))
      | exact ih0 _ _
      | exact ih1 _ _ _
      | exact LeO.none _
      | refine LeO.ite ?_ ?_
      | refine LeO.bind ?_ (fun _ => ?_)
theorem impl_costsOk.mono : ∀ a0 k, LeO (impl_costsOk.f k a0) (impl_costsOk.f (k + 1) a0) := by
 intro a0 k
 obtain ⟨ih0, ih1⟩ := impl_costsOk.mono_l k
 unfold impl_costsOk.f
 repeat' first
     | (with_reducible exact ih0 _ _)
     | (with_reducible exact ih1 _ _ _)
     | (with_reducible exact LeO.refl _)
     | (with_reducible exact LeO.none _)
     | (with_reducible refine LeO.ite ?_ ?_)
     | (with_reducible refine LeO.bind ?_ (fun _ => ?_))
     | exact ih0 _ _
     | exact ih1 _ _ _
     | exact LeO.none _
     | refine LeO.ite ?_ ?_
     | refine LeO.bind ?_ (fun _ => ?_)
set_option maxHeartbeats 8000000 in
set_option maxRecDepth 100000 in
theorem impl_costsOk.calls (k : Nat) (A0 : Option Addr) (c0 : Nat) (l0 : List Int) (r : Bool) (w : World) (hr0 : Kd.C (Kd.int .i64) w A0 l0.length l0) (hc0 : l0.length ≤ c0) (h : impl_costsOk.f k l0 = some r) :
    Calls Try.prog 50 #[.slice A0 l0.length c0] w fun e w' => e = .returned (.bool r) ∧ Drawn0 w w' := by
 have HR0 := Aside0.mk hr0; have HC0 := Aside0.mk hc0; clear hr0 hc0; have H : (if (l0.length : Int) < 1 then (impl_costsOk.j0 k l0 true) else (impl_costsOk.j0 k l0 (decide ((l0.length : Int) > 200)))) = some r := h; clear h; have HC2 := Aside0.mk H; clear H; go_enter Try.func50, Try.ntmps50
 go_upto_region 1 with (fail)
 go_cut [12] (fun v12 wc => ∃ (kq : Nat) (x12_1 : Bool), v12 = .bool x12_1 ∧ Aside0 (impl_costsOk.j0 kq l0 x12_1 = some r) ∧ Aside0 (kq ≤ k) ∧ Drawn0 w wc)
 case first =>
  have H := HC2.out; clear HC2
  by_cases c3 : (l0.length : Int) < 1
  ·rw [if_pos c3] at H; have c3b0 := decide_eq_true c3; have c3b1 : decide (l0.length < 1) = true := decide_eq_true (by omega); clear c3; (first | rw [c3b0] | (simp only [i64_w, i32_w]; rw [c3b0]) | skip); have H' := Aside0.mk H; clear H; go_wp2; go_meet
   case rel => exact ⟨_, (true), tZB, H', ⟨by first | omega | exact Nat.le_refl _⟩, tZD⟩
  rw [if_neg c3] at H; have c3b0 := decide_eq_false c3; have c3b1 : decide (l0.length < 1) = false := decide_eq_false (by omega); clear c3; (first | rw [c3b0] | (simp only [i64_w, i32_w]; rw [c3b0]) | skip); have H' := Aside0.mk H; clear H; go_wp2; go_meet
  case rel => exact ⟨_, (decide ((l0.length : Int) > 200)), tZB, H', ⟨by first | omega | exact Nat.le_refl _⟩, tZD⟩
 case rest =>
  clear HC2; obtain ⟨kq, x12_1, rfl, HA, HJ1, ⟨mc1, rfl⟩⟩ := hcut
  cases kq with
  | zero => exact absurd HA.out (by simp [impl_costsOk.j0])
  | succ kj1 =>
   have H := HA.out; clear HA; simp only [impl_costsOk.j0] at H
   by_cases c4 : x12_1 = true
   ·subst c4; rw [if_pos rfl] at H; obtain rfl := Option.some.inj H; go_wp2; go_ret; exact ⟨tZB, tZD⟩
   replace c4 := Bool.eq_false_iff.mpr c4; subst c4; rw [if_neg Bool.false_ne_true] at H; have H' := Aside0.mk H; clear H; go_wp2
   go_loopg [15] kj1 (fun kq v15 w' => ∃ (x15_2 : Int), v15 = .int .i64 x15_2 ∧ Aside0 (impl_costsOk.l0 kq l0 (l0.length : Int) x15_2 = some r) ∧ Aside0 (kq ≤ kj1) ∧ Drawn0 w w')
   case atStart => exact ⟨(0), tZB, H', ⟨Nat.le_refl _⟩, tZD⟩
   case round =>
    clear H'; obtain ⟨x15_2, rfl, HA, HK2, ⟨m2, rfl⟩⟩ := hrel
    cases gk with
    | zero => exact absurd HA.out (by simp [impl_costsOk.l0])
    | succ k2 =>
     have H := HA.out; clear HA; simp only [impl_costsOk.l0] at H
     by_cases c5 : x15_2 < (l0.length : Int)
     rotate_left
     ·rw [if_neg c5] at H; have c5b0 := decide_eq_false c5; clear c5; obtain rfl := Option.some.inj H; go_wp2; go_ret; exact ⟨tZB, tZD⟩
     rw [if_pos c5] at H; have c5b0 := decide_eq_true c5; clear c5
     by_cases c6 : 0 ≤ x15_2
     rotate_left
     ·rw [if_neg c6] at H; exact absurd H (by simp)
     rw [if_pos c6] at H; have c6b0 := decide_eq_true c6; clear c6
     by_cases c7 : x15_2 < (l0.length : Int)
     rotate_left
     ·rw [if_neg c7] at H; exact absurd H (by simp)
     rw [if_pos c7] at H; have c7b0 := decide_eq_true c7; clear c7; replace H := Option.bind_eq_some_iff.mp H; obtain ⟨t397, A80, H⟩ := H; replace H : (if t397 = true then (impl_costsOk.l0 k2 l0 (l0.length : Int) (wrap64 (x15_2 + 1))) else (some false)) = some r := H; have A8 := Aside0.mk A80; clear A80
     by_cases c9 : t397 = true
     rotate_left
     ·replace c9 := Bool.eq_false_iff.mpr c9; subst c9; rw [if_neg Bool.false_ne_true] at H; obtain rfl := Option.some.inj H; have p396 : 0 ≤ (x15_2 : Int) := of_decide_eq_true tZE; have q396 : x15_2 < (l0.length : Int) := of_decide_eq_true tZE; obtain ⟨ad396, e396, hx396_0⟩ := Kd.at_int HR0.out x15_2 p396 q396
      cases e396
      replace p396 := eq_true p396; replace q396 := eq_true q396
      go_wp2_with (first | ((with_reducible refine gate_callee (f := 54) rfl ?_); refine goesL_ (some 20) rfl rfl Try.func54 kZ rfl #[.int .i64 (rd l0 x15_2)] rfl tZA ?_; (with_reducible refine (impl_amount.calls (rd l0 x15_2) false _ A8.out).mono ?_); rintro e w' ⟨rfl, ⟨nd, rfl⟩⟩; refine ⟨_, rfl, ?_⟩))
      go_ret; exact ⟨tZB, tZD⟩
     subst c9; rw [if_pos rfl] at H; have H' := Aside0.mk H; clear H; have p396 : 0 ≤ (x15_2 : Int) := of_decide_eq_true tZE; have q396 : x15_2 < (l0.length : Int) := of_decide_eq_true tZE; obtain ⟨ad396, e396, hx396_0⟩ := Kd.at_int HR0.out x15_2 p396 q396
     cases e396
     replace p396 := eq_true p396; replace q396 := eq_true q396
     go_wp2_with (first | ((with_reducible refine gate_callee (f := 54) rfl ?_); refine goesL_ (some 20) rfl rfl Try.func54 kZ rfl #[.int .i64 (rd l0 x15_2)] rfl tZA ?_; (with_reducible refine (impl_amount.calls (rd l0 x15_2) true _ A8.out).mono ?_); rintro e w' ⟨rfl, ⟨nd, rfl⟩⟩; refine ⟨_, rfl, ?_⟩))
     go_roundg k2
     case measure => have := HJ1.out; have := HK2.out; omega
     case rel => exact ⟨(wrap64 (x15_2 + 1)), tZB, H', ⟨by have := HJ1.out; have := HK2.out; omega⟩, tZD⟩
abbrev B3 := Bool × Bool × Bool
def g3 : B3 → Nat → Bool
  | t, 0 => t.1
  | t, 1 => t.2.1
  | t, _ => t.2.2
def s3 (t : B3) (i : Nat) (v : Bool) : B3 := match i with
  | 0 => (v, t.2.1, t.2.2)
  | 1 => (t.1, v, t.2.2)
  | _ => (t.1, t.2.1, v)
def bc (t : B3) : Array Value := #[.bool t.1, .bool t.2.1, .bool t.2.2]
def mc (m : Nat → Int) : Array Value := #[.int .i64 (m 0), .int .i64 (m 1), .int .i64 (m 2), .int .i64 (m 3), .int .i64 (m 4), .int .i64 (m 5), .int .i64 (m 6), .int .i64 (m 7), .int .i64 (m 8)]
def lp (m : Nat → Int) (row : Nat) (g : B3 → Int) (cl : B3) : Nat → Nat → Int → Int → Int
  | 0, _, sum, _ => sum
  | e + 1, c, sum, sign => if g3 cl c = true then lp m row g cl e (c + 1) sum sign else if m (row * 3 + c) = 0 then lp m row g cl e (c + 1) sum (wrap64 (-sign)) else lp m row g cl e (c + 1) (wrap64 (sum + wrap64 (wrap64 (sign * m (row * 3 + c)) * g (s3 cl c true)))) (wrap64 (-sign))
def mn (m : Nat → Int) (n : Nat) : Nat → Nat → B3 → Int
  | 0, _, _ => 1
  | d + 1, row, cl => lp m row (mn m n d (row + 1)) cl n 0 0 1
def fv (gn gr gc gm gh : Nat) : Value := .func (.func 75) #[] #[.pointer (some ⟨gn, 0, none⟩), .pointer (some ⟨gr, 0, none⟩), .pointer (some ⟨gc, 0, none⟩), .pointer (some ⟨gm, 0, none⟩), .pointer (some ⟨gh, 0, none⟩)]
structure DX (w0 w : World) (gn gr gc gm gh n : Nat) (m : Nat → Int) (rl cl : B3) : Prop where
  hn : w.heap[gn]? = some (.cells #[.int .i64 (n : Int)] 3 (0, 0))
  hr : w.heap[gr]? = some (.cells (bc rl) 101 (0, 0))
  hc : w.heap[gc]? = some (.cells (bc cl) 101 (0, 0))
  hm : w.heap[gm]? = some (.cells (mc m) 79 (0, 0))
  hk : w.heap[gh]? = some (.cells #[fv gn gr gc gm gh] 89 (0, 0))
  b : Below w0.heap.size w0 w
  g : w0.heap.size ≤ gr ∧ w0.heap.size ≤ gc
  ne : (gn ≠ gr ∧ gc ≠ gr ∧ gm ≠ gr ∧ gh ≠ gr) ∧ (gn ≠ gc ∧ gm ≠ gc ∧ gh ≠ gc)
section
variable {w0 w w1 : World} {gn gr gc gm gh n : Nat} {m : Nat → Int} {rl cl : B3}
theorem DX.setR (h : DX w0 w gn gr gc gm gh n m rl cl) (i : Nat) (hi : i < 3) (v : Bool) : DX w0 (w.setCell ⟨gr, i, none⟩ (.bool v)) gn gr gc gm gh n m (s3 rl i v) cl := by
 obtain ⟨a1, a2, a3, a4, a5, a6, a7, ⟨⟨e1, e2, e3, e4⟩, e5⟩⟩ := h
 refine ⟨blk_far a1 e1 _, ?_, blk_far a3 e2 _, blk_far a4 e3 _, blk_far a5 e4 _, below_set a6 a7.1, a7, ⟨⟨e1, e2, e3, e4⟩, e5⟩⟩
 have := blk_set a2 i (.bool v)
 obtain rfl | rfl | rfl : i = 0 ∨ i = 1 ∨ i = 2 := by omega
 all_goals exact this
theorem DX.setC (h : DX w0 w gn gr gc gm gh n m rl cl) (i : Nat) (hi : i < 3) (v : Bool) : DX w0 (w.setCell ⟨gc, i, none⟩ (.bool v)) gn gr gc gm gh n m rl (s3 cl i v) := by
 obtain ⟨a1, a2, a3, a4, a5, a6, a7, ⟨⟨e1, e2, e3, e4⟩, e5, e6, e7⟩⟩ := h
 refine ⟨blk_far a1 e5 _, blk_far a2 (Ne.symm e2) _, ?_, blk_far a4 e6 _, blk_far a5 e7 _, below_set a6 a7.2, a7, ⟨⟨e1, e2, e3, e4⟩, e5, e6, e7⟩⟩
 have := blk_set a3 i (.bool v)
 obtain rfl | rfl | rfl : i = 0 ∨ i = 1 ∨ i = 2 := by omega
 all_goals exact this
theorem DX.drewN (h : DX w0 w gn gr gc gm gh n m rl cl) (q : Nat) : DX w0 (w.drewN q) gn gr gc gm gh n m rl cl := by
 obtain ⟨a1, a2, a3, a4, a5, a6, a7, a8⟩ := h
 exact ⟨blk_drewN a1 q, blk_drewN a2 q, blk_drewN a3 q, blk_drewN a4 q, blk_drewN a5 q, pw_below_drewN a6 q, a7, a8⟩
theorem g3_s3 (t : B3) (i : Nat) (v : Bool) (hi : i < 3) (j : Nat) (hj : j < 3) : g3 (s3 t i v) j = if i = j then v else g3 t j := by
 obtain rfl | rfl | rfl : i = 0 ∨ i = 1 ∨ i = 2 := by omega
 all_goals (obtain rfl | rfl | rfl : j = 0 ∨ j = 1 ∨ j = 2 := by omega)
 all_goals rfl
theorem s3_back (t : B3) (i : Nat) (v u : Bool) (hi : i < 3) (h : g3 t i = u) : s3 (s3 t i v) i u = t := by
 obtain rfl | rfl | rfl : i = 0 ∨ i = 1 ∨ i = 2 := by omega
 all_goals (obtain ⟨a, b, c⟩ := t; simp only [g3] at h; subst h; rfl)
end
theorem bc_at (t : B3) {i : Nat} (h : i < 3) : (bc t)[i]? = some (.bool (g3 t i)) := by
 obtain rfl | rfl | rfl : i = 0 ∨ i = 1 ∨ i = 2 := by omega
 all_goals rfl
theorem mc_at (m : Nat → Int) {i : Nat} (h : i < 9) : (mc m)[i]? = some (.int .i64 (m i)) := by
 obtain rfl | rfl | rfl | rfl | rfl | rfl | rfl | rfl | rfl : i = 0 ∨ i = 1 ∨ i = 2 ∨ i = 3 ∨ i = 4 ∨ i = 5 ∨ i = 6 ∨ i = 7 ∨ i = 8 := by omega
 all_goals rfl
def det.T11 : Bool × List (List Nat × List Nat) := (true, [([], []), ([], []), ([], []), ([], []), ([2], [2]), ([4, 3], [3, 4]), ([5], [5]), ([1, 6], [1, 6]), ([], []), ([], []), ([9], [9]), ([8, 10], [8, 10]), ([7, 11], [7, 11]), ([0, 12], [0, 12]), ([13, 11, 0, 1, 2, 3, 4, 5, 6, 7, 8, 9, 10, 11, 12, 13], [0, 13])])
def det.B11 : List Nat := [0, 0, 0, 0, 4, 28, 60, 126, 0, 0, 512, 1792, 4094, 8191, 16383]
theorem det.tab11 : rtab .any (opsOf Try.f75 11) = det.T11 := by kernel_rfl
theorem det.bits11 : waitsOk det.T11.2 det.B11 = true := by kernel_rfl
section
variable {P : Program} {ops : Array Oper} {Q : Exit → Act → World → Prop}
theorem goesC_ {oi : Oper} {N : Option Tmp} {a : Act} {w : World} {K : Act → World → Prop} {f : FuncId} {fn : Func} {x : Tmp} {xs : Array Operand} {ts : Array TypeId} {caps : Array Value} (hf : P.funcs[f]? = some fn) (hname : (fn.name == "runtime.NumGoroutine") = false) (hb : fn.body.isSome = true) (args : Array Value)
    (hw : Region.wanted oi (yielded ops a.tmps) = true) (hN : oi.dst = N) (hop : oi.op = .call { callee := .value (.tmp x), args := xs, argTypes := ts }) (hfn : a.eval (.tmp x) = .func (.func f) #[] caps) (hargs : xs.map a.eval ++ caps = args)
    (h : Calls P f args w fun e w' => ∃ v, e = .returned v ∧ K (a.put N v) w') : if Region.wanted oi (yielded ops a.tmps) = true then Oper.wp P oi a w K Q else K (a.put N undef) w := by
 refine call_ f args hw hN ?_ h
 have he := enters_ hf hname hb args w
 unfold execOp
 simp [hop, resolve, Deferred.ofValue, invoke, hfn, hargs, he]
end
set_option maxHeartbeats 8000000 in
set_option maxRecDepth 100000 in
theorem minor_calls (m : Nat → Int) (n : Nat) (hn3 : n ≤ 3) (gn gr gc gm gh : Nat) (w0 : World) : ∀ (d row : Nat) (rl cl : B3) (w : World), row + d = n → DX w0 w gn gr gc gm gh n m rl cl →
    Calls Try.prog 75 #[.int .i64 (row : Int), .pointer (some ⟨gn, 0, none⟩), .pointer (some ⟨gr, 0, none⟩), .pointer (some ⟨gc, 0, none⟩), .pointer (some ⟨gm, 0, none⟩), .pointer (some ⟨gh, 0, none⟩)] w fun e w' => e = .returned (.int .i64 (mn m n d row cl)) ∧ ∃ rl', DX w0 w' gn gr gc gm gh n m rl' cl
  | 0, row, rl, cl, w, hrow, HX => by
    obtain rfl : row = n := by omega
    have hx := (blk_cell HX.hn 0).trans rfl
    have c0 : ((row : Int) == (row : Int)) = true := beq_iff_eq.mpr rfl
    go_enter Try.func75, Try.ntmps75
    go_wp2
    go_ret
    exact ⟨rfl, rl, HX⟩
  | d + 1, row, rl, cl, w, hrow, HX => by
    have ih := minor_calls m n hn3 gn gr gc gm gh w0 d
    have hr3 : row < 3 := by omega
    have pr : (0 ≤ (row : Int)) = True := eq_true (by omega)
    have qr : ((row : Int) < 3) = True := eq_true (by omega)
    have hx : w.cell? ⟨gn, 0, none⟩ = some (.int .i64 (n : Int)) := (blk_cell HX.hn 0).trans rfl
    have c0 : ((row : Int) == (n : Int)) = false := beq_eq_false_iff_ne.mpr (by omega)
    have hx1 : w.cell? ⟨gr, row, none⟩ = some (.bool (g3 rl row)) := (blk_cell HX.hr row).trans (bc_at rl hr3)
    have hf1 := blk_frozen HX.hr row
    have HY0 := aZ (HX.setR row hr3 true)
    clear HX
    go_enter Try.func75, Try.ntmps75
    go_wp2
    go_loopg [8, 9, 10] n (fun kq v8 v9 v10 w' => ∃ (x8 x9 : Int) (c : Nat) (rl2 : B3), v8 = .int .i64 x8 ∧ v9 = .int .i64 x9 ∧ v10 = .int .i64 (c : Int) ∧ Aside0 (lp m row (mn m n d (row + 1)) cl kq c x8 x9 = mn m n (d + 1) row cl) ∧ Aside0 (c + kq = n) ∧ Aside0 (DX w0 w' gn gr gc gm gh n m rl2 cl))
    case atStart => exact ⟨0, 1, 0, _, rfl, rfl, rfl, ⟨rfl⟩, ⟨by omega⟩, HY0⟩
    case round =>
      obtain ⟨x8, x9, c, rl2, rfl, rfl, rfl, HL, HK, HD⟩ := hrel
      clear hx c0 hx1 hf1 HY0
      have hx : wr.cell? ⟨gn, 0, none⟩ = some (.int .i64 (n : Int)) := (blk_cell HD.out.hn 0).trans rfl
      cases gk with
      | zero =>
        have hcn : c = n := by have := HK.out; omega
        have c0 : decide ((c : Int) < (n : Int)) = false := decide_eq_false (by omega)
        have hx1 : wr.cell? ⟨gr, row, none⟩ = some (.bool (g3 rl2 row)) := (blk_cell HD.out.hr row).trans (bc_at rl2 hr3)
        have hf1 := blk_frozen HD.out.hr row
        have HE := aZ (HD.out.setR row hr3 false)
        have hsum : mn m n (d + 1) row cl = x8 := HL.out.symm
        clear HL HK
        go_wp2
        go_ret
        exact ⟨by rw [hsum]; rfl, _, HE.out⟩
      | succ e =>
        have hcn : c + (e + 1) = n := HK.out
        have hc3 : c < 3 := by omega
        have pc : (0 ≤ (c : Int)) = True := eq_true (by omega)
        have qc : ((c : Int) < 3) = True := eq_true (by omega)
        have c0 : decide ((c : Int) < (n : Int)) = true := decide_eq_true (by omega)
        have hc4 : wrap64 ((c : Int) + 1) = ((c + 1 : Nat) : Int) := by unfold wrap64; omega
        have HL2 := HL.out
        simp only [lp] at HL2
        have HD2 := HD.out
        have hx2 : wr.cell? ⟨gc, c, none⟩ = some (.bool (g3 cl c)) := (blk_cell HD2.hc c).trans (bc_at cl hc3)
        cases hb : g3 cl c with
        | true =>
          rw [hb] at hx2 HL2
          rw [if_pos rfl] at HL2
          have HL3 := Aside0.mk HL2
          clear HL2 HL HD2
          go_wp2
          go_roundg e
          case measure => omega
          case rel => exact ⟨x8, x9, c + 1, rl2, rfl, rfl, congrArg (Value.int .i64) (by omega), HL3, ⟨by omega⟩, HD⟩
        | false =>
          rw [hb] at hx2 HL2
          rw [if_neg (by decide)] at HL2
          have hx3 : wr.cell? ⟨gm, row * 3 + c, none⟩ = some (.int .i64 (m (row * 3 + c))) := (blk_cell HD2.hm (row * 3 + c)).trans (mc_at m (by omega))
          by_cases hz : m (row * 3 + c) = 0
          · rw [if_pos hz] at HL2
            have c1 : (m (row * 3 + c) != 0) = false := bne_eq_false_iff_eq.mpr hz
            have HL3 := Aside0.mk HL2
            clear HL2 HL HD2
            go_wp2
            go_roundg e
            case measure => omega
            case rel => exact ⟨x8, wrap64 (-x9), c + 1, rl2, rfl, rfl, congrArg (Value.int .i64) (by omega), HL3, ⟨by omega⟩, HD⟩
          · rw [if_neg hz] at HL2
            have c1 : (m (row * 3 + c) != 0) = true := bne_iff_ne.mpr hz
            have HL3 := Aside0.mk HL2
            have hf2 := blk_frozen HD2.hc c
            have HY := aZ (HD2.setC c hc3 true)
            clear HL2 HL HD2
            go_wp2
            clear hx hx2 hx3 hf2 HD
            have hy3 : (wr.setCell ⟨gc, c, none⟩ (.bool true)).drew.cell? ⟨gm, row * 3 + c, none⟩ = some (.int .i64 (m (row * 3 + c))) := (blk_cell (HY.out.drewN 1).hm (row * 3 + c)).trans (mc_at m (by omega))
            have hy4 : (wr.setCell ⟨gc, c, none⟩ (.bool true)).drew.cell? ⟨gh, 0, none⟩ = some (fv gn gr gc gm gh) := (blk_cell (HY.out.drewN 1).hk 0).trans rfl
            replace HY : Aside0 (DX w0 (wr.setCell ⟨gc, c, none⟩ (.bool true)).drew gn gr gc gm gh n m rl2 (s3 cl c true)) := ⟨HY.out.drewN 1⟩
            refine start_ (n := 15) (S := fun w' => w'.cell? ⟨gm, row * 3 + c, none⟩ = some (.int .i64 (m (row * 3 + c))) ∧ w'.cell? ⟨gh, 0, none⟩ = some (fv gn gr gc gm gh)) (ds := []) L0' kZ rfl rfl ⟨hy3, hy4⟩ (fun hHeld => ?_); refine with_tabW det.tab11 det.bits11 (fun HT_ HW_ => ?_)
            clear hy3 hy4
            generalize (wr.setCell ⟨gc, c, none⟩ (.bool true)).drew = w54 at HY hHeld ⊢
            refine pure_ (i := 0) (N := some 32) (v := ?_) (a' := ?_) L1' rfl rfl (any_of HT_.out kZ) (fun _ _ _ h => h) (Or.inl ⟨by rfl, ?_⟩) ?_ ?_
            rotate_left
            · intro w'
              go_simp
              with_reducible rfl
            rotate_left
            · simp only [Act.put, sZ1, sZ2, sZ3, i64_w, i32_w]
              rfl
            refine pure_ (i := 1) (N := some 33) (v := ?_) (a' := ?_) L2' rfl rfl (any_of HT_.out kZ) (fun _ _ _ h => h) (Or.inl ⟨by rfl, ?_⟩) ?_ ?_
            rotate_left
            · intro w'
              go_simp
              with_reducible rfl
            rotate_left
            · simp only [Act.put, sZ1, sZ2, sZ3, i64_w, i32_w]
              rfl
            refine pure_ (i := 2) (N := some 34) (v := ?_) (a' := ?_) L3' rfl rfl (any_of HT_.out kZ) (fun _ _ _ h => h) (Or.inl ⟨by rfl, ?_⟩) ?_ ?_
            rotate_left
            · intro w'
              go_simp
              with_reducible rfl
            rotate_left
            · simp only [Act.put, sZ1, sZ2, sZ3, i64_w, i32_w]
              rfl
            refine pure_ (i := 3) (N := some 35) (v := ?_) (a' := ?_) L4' rfl rfl (any_of HT_.out kZ) (fun _ _ _ h => h) (Or.inl ⟨by rfl, ?_⟩) ?_ ?_
            rotate_left
            · intro w'
              go_simp
              with_reducible rfl
            rotate_left
            · simp only [Act.put, sZ1, sZ2, sZ3, i64_w, i32_w]
              rfl
            refine pure_ (i := 4) (N := some 36) (v := ?_) (a' := ?_) L5' rfl rfl (any_of HT_.out kZ) (fun _ _ _ h => h) (Or.inl ⟨by rfl, ?_⟩) ?_ ?_
            rotate_left
            · intro w'
              go_simp
              with_reducible rfl
            rotate_left
            · simp only [Act.put, sZ1, sZ2, sZ3, i64_w, i32_w]
              rfl
            refine pure_ (i := 5) (N := some 37) (v := ?_) (a' := ?_) L6' rfl rfl (any_of HT_.out kZ) (fun _ _ _ h => h) (Or.inl ⟨by rfl, ?_⟩) ?_ ?_
            rotate_left
            · intro w'
              go_simp
              with_reducible rfl
            rotate_left
            · simp only [Act.put, sZ1, sZ2, sZ3, i64_w, i32_w]
              rfl
            refine pure_ (i := 9) (N := some 41) (v := ?_) (a' := ?_) L7' rfl rfl (any_of HT_.out kZ) (fun _ _ _ h => h) (Or.inl ⟨by rfl, ?_⟩) ?_ ?_
            rotate_left
            · intro w'
              go_simp
              with_reducible rfl
            rotate_left
            · simp only [Act.put, sZ1, sZ2, sZ3, i64_w, i32_w]
              rfl
            refine pure_ (i := 10) (N := some 42) (v := ?_) (a' := ?_) L8' rfl rfl (any_of HT_.out kZ) (fun _ _ _ h => h) (Or.inl ⟨by rfl, ?_⟩) ?_ ?_
            rotate_left
            · intro w'
              go_simp
              with_reducible rfl
            rotate_left
            · simp only [Act.put, sZ1, sZ2, sZ3, i64_w, i32_w]
              rfl
            refine take_ (i := 6) (N := some 38) (v := ?_) (a' := ?_) L9' rfl rfl (take_ofW HT_.out HW_.out kZ) (fun _ _ _ h => h) (Or.inl ⟨by rfl, ?_⟩) hHeld ?_ ?_
            rotate_left
            · rintro w' ⟨s0, s1⟩
              go_simp
              with_reducible rfl
            rotate_left
            · simp only [Act.put, sZ1, sZ2, sZ3, i64_w, i32_w]
              rfl
            refine pure_ (i := 7) (N := some 39) (v := ?_) (a' := ?_) L10' rfl rfl (any_of HT_.out kZ) (fun _ _ _ h => h) (Or.inl ⟨by rfl, ?_⟩) ?_ ?_
            rotate_left
            · intro w'
              go_simp
              with_reducible rfl
            rotate_left
            · simp only [Act.put, sZ1, sZ2, sZ3, i64_w, i32_w]
              rfl
            refine take_ (i := 8) (N := some 40) (v := ?_) (a' := ?_) L11' rfl rfl (take_ofW HT_.out HW_.out kZ) (fun _ _ _ h => h) (Or.inl ⟨by rfl, ?_⟩) hHeld ?_ ?_
            rotate_left
            · rintro w' ⟨s0, s1⟩
              go_simp
              with_reducible rfl
            rotate_left
            · simp only [Act.put, sZ1, sZ2, sZ3, i64_w, i32_w]
              rfl
            refine one_ (i := 11) (N := some 43) L12' rfl rfl (one_of HT_.out kZ) (by decide) (fun K hK => ?_)
            refine goesC_ Try.func75 kZ rfl #[.int .i64 ((row + 1 : Nat) : Int), .pointer (some ⟨gn, 0, none⟩), .pointer (some ⟨gr, 0, none⟩), .pointer (some ⟨gc, 0, none⟩), .pointer (some ⟨gm, 0, none⟩), .pointer (some ⟨gh, 0, none⟩)] (by rfl) rfl rfl rfl (by (try simp only [List.map_toArray, List.map_cons, List.map_nil]); first | done | exact congrArg (fun z : Int => (#[.int .i64 z, .pointer (some ⟨gn, 0, none⟩), .pointer (some ⟨gr, 0, none⟩), .pointer (some ⟨gc, 0, none⟩), .pointer (some ⟨gm, 0, none⟩), .pointer (some ⟨gh, 0, none⟩)] : Array Value)) (show wrap64 (row + 1) = ((row + 1 : Nat) : Int) from by unfold wrap64; omega)) ?_
            refine (ih (row + 1) rl2 (s3 cl c true) _ (by omega) HY.out).mono ?_
            rintro e w55 ⟨rfl, rl3, HZ⟩
            have HZ := Aside0.mk HZ
            refine ⟨_, rfl, ?_⟩
            refine hK.out _ _ ⟨(blk_cell HZ.out.hm (row * 3 + c)).trans (mc_at m (by omega)), (blk_cell HZ.out.hk 0).trans rfl⟩ (fun hHeld => ?_)
            clear hK K
            refine norm_ (a' := ?_) ?_ ?_
            rotate_left
            · show Act.put _ (some 43) _ = _
              simp only [Act.put, sZ1, sZ2, sZ3, i64_w, i32_w]
              rfl
            refine pure_ (i := 12) (N := some 44) (v := ?_) (a' := ?_) L13' rfl rfl (any_of HT_.out kZ) (fun _ _ _ h => h) (Or.inl ⟨by rfl, ?_⟩) ?_ ?_
            rotate_left
            · intro w'
              go_simp
              with_reducible rfl
            rotate_left
            · simp only [Act.put, sZ1, sZ2, sZ3, i64_w, i32_w]
              rfl
            refine pure_ (i := 13) (N := some 45) (v := ?_) (a' := ?_) L14' rfl rfl (any_of HT_.out kZ) (fun _ _ _ h => h) (Or.inl ⟨by rfl, ?_⟩) ?_ ?_
            rotate_left
            · intro w'
              go_simp
              with_reducible rfl
            rotate_left
            · simp only [Act.put, sZ1, sZ2, sZ3, i64_w, i32_w]
              rfl
            refine pure_ (i := 14) (N := some 8) (v := ?_) (a' := ?_) L15' rfl rfl (any_of HT_.out kZ) (fun _ _ _ h => h) (Or.inl ⟨by rfl, ?_⟩) ?_ ?_
            rotate_left
            · intro w'
              go_simp
              with_reducible rfl
            rotate_left
            · simp only [Act.put, sZ1, sZ2, sZ3, i64_w, i32_w]
              rfl
            refine done_ (done_of HT_.out kZ) ?_
            have hx4 : w55.cell? ⟨gc, c, none⟩ = some (.bool (g3 (s3 cl c true) c)) := (blk_cell HZ.out.hc c).trans (bc_at _ hc3)
            have hf4 := blk_frozen HZ.out.hc c
            have HV := aZ (HZ.out.setC c hc3 false)
            go_wp2
            go_roundg e
            case measure => omega
            case rel => exact ⟨wrap64 (x8 + wrap64 (wrap64 (x9 * m (row * 3 + c)) * mn m n d (row + 1) (s3 cl c true))), wrap64 (-x9), c + 1, rl3, rfl, rfl, congrArg (Value.int .i64) (by omega), HL3, ⟨by omega⟩, ⟨by have h_ := HV.out; rw [s3_back cl c true false hc3 hb] at h_; exact h_⟩⟩
section
variable {P : Program} {ops : Array Oper} {Q : Exit → Act → World → Prop}
theorem goesCL_ {rest : List Oper} {oi : Oper} {a : Act} {w : World} (N : Option Tmp) (hd : oi.dst = N) (hg : oi.guard = none) {f : FuncId} {fn : Func} {x : Tmp} {xs : Array Operand} {ts : Array TypeId} {caps : Array Value} (hf : P.funcs[f]? = some fn) (hname : (fn.name == "runtime.NumGoroutine") = false) (hb : fn.body.isSome = true) (args : Array Value)
    (hop : oi.op = .call { callee := .value (.tmp x), args := xs, argTypes := ts }) (hfn : a.eval (.tmp x) = .func (.func f) #[] caps) (hargs : xs.map a.eval ++ caps = args)
    (h : Calls P f args w fun e w' => ∃ v, e = .returned v ∧ wpList P ops Q rest (a.put N v) w') : wpList P ops Q (oi :: rest) a w := by
 refine wpList_plain hg fun K hK => ?_
 have he := enters_ hf hname hb args w
 have hrun : (execOp a.eval oi).run P w = .ok (.enter f args) w := by
   unfold execOp
   simp [hop, resolve, Deferred.ofValue, invoke, hfn, hargs, he]
 unfold Oper.wp
 rw [hrun, Oper.upon_enter]
 refine h.mono fun e w'' hh => ?_
 obtain ⟨v, rfl, hk⟩ := hh
 subst hd
 exact hK _ _ hk
end
def impl_determinant.f (l : List Int) (n : Int) : Option Int := if l.length = 9 ∧ 0 ≤ n ∧ n ≤ 3 then some (mn (fun i => rd l (i : Int)) n.toNat n.toNat 0 (false, false, false)) else none
theorem nine {l : List Int} (h : l.length = 9) : ∃ a b c d e f g i j, l = [a, b, c, d, e, f, g, i, j] := by
 match l, h with
 | [a, b, c, d, e, f, g, i, j], _ => exact ⟨a, b, c, d, e, f, g, i, j, rfl⟩
theorem st_func {P : Program} {w : World} {a : Addr} {m : Mode} (f : Fn) (x y : Array Value) : (Go.store a (.func f x y) m).run P w = stored P w a (.func f x y) m := run_store P w a _ m rfl
attribute [local go_sem] st_func
theorem size_al (w : World) (o : Obj) : (w.alloc o).heap.size = w.heap.size + 1 := World.size_alloc w o
theorem new_at {w : World} {s : Nat} (h : w.heap.size = s) (o : Obj) : (w.alloc o).heap[s]? = some o := h ▸ blk_new w o
theorem det_start (w : World) (A B C D E : Obj) : ∃ w5, (((((w.alloc A).alloc B).alloc C).alloc D).alloc E) = w5 ∧ w5.heap[w.heap.size]? = some A ∧ w5.heap[w.heap.size + 1]? = some B ∧ w5.heap[w.heap.size + 1 + 1]? = some C ∧ w5.heap[w.heap.size + 1 + 1 + 1]? = some D ∧ w5.heap[w.heap.size + 1 + 1 + 1 + 1]? = some E ∧ Below w.heap.size w w5 :=
  ⟨_, rfl, blk_alloc (blk_alloc (blk_alloc (blk_alloc (blk_new w A) _) _) _) _, blk_alloc (blk_alloc (blk_alloc (new_at (size_al w A) B) _) _) _, blk_alloc (blk_alloc (new_at (by rw [size_al, size_al]) C) _) _, blk_alloc (new_at (by rw [size_al, size_al, size_al]) D) _, new_at (by rw [size_al, size_al, size_al, size_al]) E, below_alloc (below_alloc (below_alloc (below_alloc (below_alloc (Below.refl _ _) _) _) _) _) _⟩
set_option maxHeartbeats 8000000 in
set_option maxRecDepth 100000 in
theorem impl_determinant.calls (l : List Int) (n r : Int) (w : World) (h : impl_determinant.f l n = some r) :
    Calls Try.prog 53 #[.agg (l.map (Value.int .i64)).toArray, .int .i64 n] w fun e w' => e = .returned (.int .i64 r) ∧ Below w.heap.size w w' := by
 unfold impl_determinant.f at h
 by_cases hc : l.length = 9 ∧ 0 ≤ n ∧ n ≤ 3
 rotate_left
 ·rw [if_neg hc] at h
  cases h
 rw [if_pos hc] at h; obtain rfl := Option.some.inj h; obtain ⟨h9, h0, h3⟩ := hc; obtain ⟨q, rfl⟩ : ∃ q : Nat, n = (q : Int) := ⟨n.toNat, by omega⟩; obtain ⟨a, b, c, d, e, f, g, i, j, rfl⟩ := nine h9; go_enter Try.func53, Try.ntmps53
 go_upto_region 3 with (fail)
 obtain ⟨w5, hw5, h1, h2, h3_, h4, h5, hB⟩ := det_start w (Obj.cells #[.int .i64 a, .int .i64 b, .int .i64 c, .int .i64 d, .int .i64 e, .int .i64 f, .int .i64 g, .int .i64 i, .int .i64 j] 79) (Obj.cells #[.int .i64 (q : Int)] 3) (Obj.cells #[.bool false, .bool false, .bool false] 101) (Obj.cells #[.bool false, .bool false, .bool false] 101) (Obj.cells #[.nilFunc] 89); rw [hw5]; clear hw5; have hx : w5.cell? ⟨w.heap.size + 1 + 1 + 1 + 1, 0, none⟩ = some .nilFunc := (blk_cell h5 0).trans rfl; have hf := blk_frozen h5 0
 have HX : DX w (w5.setCell ⟨w.heap.size + 1 + 1 + 1 + 1, 0, none⟩ (fv (w.heap.size + 1) (w.heap.size + 1 + 1) (w.heap.size + 1 + 1 + 1) w.heap.size (w.heap.size + 1 + 1 + 1 + 1))) (w.heap.size + 1) (w.heap.size + 1 + 1) (w.heap.size + 1 + 1 + 1) w.heap.size (w.heap.size + 1 + 1 + 1 + 1) q (fun i_ => rd [a, b, c, d, e, f, g, i, j] (i_ : Int)) (false, false, false) (false, false, false) :=
   ⟨blk_far h2 (p := ⟨w.heap.size + 1 + 1 + 1 + 1, 0, none⟩) (by show w.heap.size + 1 ≠ w.heap.size + 1 + 1 + 1 + 1; omega) _, blk_far h3_ (by show w.heap.size + 1 + 1 ≠ w.heap.size + 1 + 1 + 1 + 1; omega) _, blk_far h4 (by show w.heap.size + 1 + 1 + 1 ≠ w.heap.size + 1 + 1 + 1 + 1; omega) _, blk_far h1 (by show w.heap.size ≠ w.heap.size + 1 + 1 + 1 + 1; omega) _, blk_set h5 0 _, below_set hB (by omega), ⟨by omega, by omega⟩, ⟨⟨by omega, by omega, by omega, by omega⟩, by omega, by omega, by omega⟩⟩
 clear h1 h2 h3_ h4 h5 hB
 go_upto_region 4 with (fail)
 change Code.wp Try.prog _ _ _ (w5.setCell ⟨w.heap.size + 1 + 1 + 1 + 1, 0, none⟩ (fv (w.heap.size + 1) (w.heap.size + 1 + 1) (w.heap.size + 1 + 1 + 1) w.heap.size (w.heap.size + 1 + 1 + 1 + 1)))
 generalize w5.setCell ⟨w.heap.size + 1 + 1 + 1 + 1, 0, none⟩ (fv (w.heap.size + 1) (w.heap.size + 1 + 1) (w.heap.size + 1 + 1 + 1) w.heap.size (w.heap.size + 1 + 1 + 1 + 1)) = w6 at HX ⊢; clear hx hf; have hx : w6.cell? ⟨w.heap.size + 1 + 1 + 1 + 1, 0, none⟩ = some (fv (w.heap.size + 1) (w.heap.size + 1 + 1) (w.heap.size + 1 + 1 + 1) w.heap.size (w.heap.size + 1 + 1 + 1 + 1)) := (blk_cell HX.hk 0).trans rfl; replace HX := Aside0.mk HX
 go_wp2_with (first | ((with_reducible refine gate_calleeB (x := 9) rfl ?_); refine goesCL_ (some 10) rfl rfl Try.func75 kZ rfl #[.int .i64 ((0 : Nat) : Int), .pointer (some ⟨w.heap.size + 1, 0, none⟩), .pointer (some ⟨w.heap.size + 1 + 1, 0, none⟩), .pointer (some ⟨w.heap.size + 1 + 1 + 1, 0, none⟩), .pointer (some ⟨w.heap.size, 0, none⟩), .pointer (some ⟨w.heap.size + 1 + 1 + 1 + 1, 0, none⟩)] rfl rfl (by (try simp only [List.map_toArray, List.map_cons, List.map_nil]); first | done | rfl) ?_; (refine (minor_calls _ q (by omega) _ _ _ _ _ w q 0 _ _ _ (by omega) HX.out).mono ?_); rintro e w7 ⟨rfl, rl', HZ⟩; refine ⟨_, rfl, ?_⟩))
 go_ret; exact ⟨rfl, HZ.b⟩
end Go.Proofs.Ytadehdkmggpehaa.PFnMutualWhole
