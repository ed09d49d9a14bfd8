import Derived.Test.YtadehdkmggpehaaUWMore
import Derived.Test.YtadehdkmggpehaaUWAt
import Derived.Test.YtadehdkmggpehaaUWLast
import Derived.Deep.MidRow
import Derived.Deep.WholeRow
set_option linter.unusedVariables false
set_option linter.unusedSimpArgs false
namespace Go.Proofs.Ytadehdkmggpehaa.ArrWords
open Go Go.RowKit Go.Proofs.YtadehdkmggpehaaW.PrintWords Go.Proofs.YtadehdkmggpehaaW.PrintLast Go.Proofs.YtadehdkmggpehaaW.PrintMore
def ptrOf : Value → Value
  | .slice A _ _ => .pointer A
  | v => v
theorem ptrOf_slice (A : Option Addr) (n c : Nat) : ptrOf (.slice A n c) = .pointer A := rfl
theorem reps_map {α : Type} (enc : α → Value) (xs : List α) : Reps (fun x cs => cs = [enc x]) 1 xs (xs.map enc) := by
  refine ⟨by simp, fun j p hj => ?_⟩
  obtain ⟨hlt, rfl⟩ := List.getElem?_eq_some_iff.1 hj
  rw [Nat.mul_one, List.drop_eq_getElem_cons (by simpa using hlt), List.take_succ_cons, List.take_zero, List.getElem_map]
section
variable {P : Program} {ops : Array Oper} {rest : List Oper} {o : Oper} {a : Act} {Q : Exit → Act → World → Prop}
theorem A_make {α : Type} (d : Kd α) (enc : α → Value) (h1 : ∀ x : α, (enc x).oneCell' = true) (hdd : d = Kd.scalar enc h1) {W : World} (e : Nat) (hgd : o.guard = none) {N : Tmp} (_hd : o.dst = some N) {xs : List α} {cs : Array Value}
    (hrun : (execOp a.eval o).run P W = .ok (.value (.pointer (some ⟨W.heap.size, 0, none⟩))) (W.alloc (.cells cs e (0, 0)))) (hcs : cs.toList = xs.map enc) (hm : xs.length ≤ 9223372036854775807)
    (h : ∀ v1 w1, d.R e w1 W.heap.size (fun _ => True) v1 xs → Below W.heap.size W w1 → wpList P ops Q rest (a.put o.dst (ptrOf v1)) w1) : wpList P ops Q (o :: rest) a W := by
  subst hdd
  refine Kd.event_run hgd hrun (h (.slice (some ⟨W.heap.size, 0, none⟩) xs.length xs.length) _ ⟨fun k hk => trivial, xs.map enc, ?_, ?_⟩ (below_alloc (Below.refl _ _) _))
  · have h2 := World.ownsRow_lit (base := W.heap.size) (e := e) (size := 1) W cs xs.length (Nat.le_refl _) (by simpa [maxLen] using hm) (by
      have := congrArg List.length hcs
      simp only [Array.length_toList, List.length_map] at this
      omega)
    rw [hcs] at h2
    exact h2
  · exact reps_map enc xs
end
theorem flat_nat {i j : Int} (m : Nat) (hi : (0 ≤ i) = True) (hj : (0 ≤ j) = True) : (i * (m : Int) + j).toNat = i.toNat * m + j.toNat := by
  have h1 := of_eq_true hi
  have h2 := of_eq_true hj
  obtain ⟨p, rfl⟩ := Int.eq_ofNat_of_zero_le h1
  obtain ⟨q, rfl⟩ := Int.eq_ofNat_of_zero_le h2
  simp only [Int.toNat_natCast]
  rw [← Int.natCast_mul, ← Int.natCast_add, Int.toNat_natCast]
section
variable {P : Program} {ops : Array Oper} {rest : List Oper} {o o2 : Oper} {a : Act} {Q : Exit → Act → World → Prop}
theorem gate_load {W : World} {t : TypeId} {p : Tmp} (_ho : o.op = .load t (.tmp p)) (h : wpList P ops Q (o :: rest) a W) : wpList P ops Q (o :: rest) a W := h
theorem A_load {W : World} {xs : List Int} {v : Value} {base e : Nat} {ok : Nat → Prop} {N x : Tmp} {d : TypeDesc} (hgd : o.guard = none) (hd : o.dst = some N) (ty : TypeId) (ho : o.op = .load ty (.tmp x))
    (hR : (Kd.int .i64).R e W base ok v xs) (hx : a.eval (.tmp x) = ptrOf v) (hn : xs ≠ []) (hu : P.underlying ty = some d) (hr : d.isRow = true) (hi : (P.info? ty).map (·.size) = some xs.length)
    (h : wpList P ops Q rest (a.put (some N) (.agg (xs.map (Value.int .i64)).toArray)) W) : wpList P ops Q (o :: rest) a W := by
  obtain ⟨A, c, rfl⟩ := Kd.R_slice hR
  have hl : 0 < xs.length := List.length_pos_iff.2 hn
  obtain ⟨g, cc, ee, hg⟩ : ∃ g cc, (Value.slice A xs.length c) = Value.slice (some ⟨g, 0, none⟩) xs.length cc ∧ True := by
    obtain ⟨go, co, eo, _⟩ := Kd.R_form hR hl
    exact ⟨go, co, eo, trivial⟩
  injection ee with hA _ hc
  subst hA
  subst hc
  have h2 := wpList_load_mid (P := P) (ops := ops) (rest := rest) (Q := Q) hgd ty (.tmp x) ho g 0 hx (xs.map (Value.int .i64)) d (fun j u hj => by
    obtain ⟨hlt, rfl⟩ := List.getElem?_eq_some_iff.1 hj
    rw [List.length_map] at hlt
    have h3 := (Kd.R_cell (0 : Int) hR (j : Int) (by omega) (by omega)).1
    rw [Nat.zero_add, List.getElem_map]
    simpa [rdOf, hlt] using h3) hu hr (by rw [List.length_map]; exact hi)
  rw [hd] at h2
  exact h2 h
theorem A_make2 {W : World} {N : Tmp} {ty : TypeId} {y : Operand} {xs : List Int} {cs : Array Value} (hg1 : o.guard = none) (hg2 : o2.guard = none) (hd1 : o.dst = some N) (hd2 : o2.dst = none) (ho2 : o2.op = .store ty (.tmp N) y)
    (hrun : (execOp a.eval o).run P W = .ok (.value (.pointer (some ⟨W.heap.size, 0, none⟩))) (W.alloc (.cells cs ty (0, 0)))) (hx : ∀ v, (a.put (some N) v).eval (.tmp N) = v) (hy : ∀ v, (a.put (some N) v).eval y = .agg (xs.map (Value.int .i64)).toArray)
    (hcs : cs.size = xs.length) (hi : (P.info? ty).map (·.size) = some xs.length) (hm : xs.length ≤ 9223372036854775807)
    (h : ∀ v1 w1, (Kd.int .i64).R ty w1 W.heap.size (fun _ => True) v1 xs → Below W.heap.size W w1 → wpList P ops Q rest (a.put (some N) (ptrOf v1)) w1) : wpList P ops Q (o :: o2 :: rest) a W := by
  refine Kd.event_run hg1 hrun ?_
  rw [hd1]
  refine wpList_plain hg2 fun K hK => ?_
  unfold Oper.wp execOp
  have h1 : ((xs.map (Value.int .i64)).toArray).all (·.oneCell') = true := all_oneCell_toArray (fun v hv => by obtain ⟨z, _, rfl⟩ := List.mem_map.1 hv; rfl)
  simp only [ho2, hx, hy, Instr.storeAt, Instr.sureAddr, Sem.run_bind, Sem.run_pure, Result.andThen_ok, run_storeVar_new W ty cs (xs.map (Value.int .i64)).toArray (by rw [hi]; simp) (by rw [hcs]; simp) h1]
  have h3 := h (.slice (some ⟨W.heap.size, 0, none⟩) xs.length xs.length) (W.alloc (.cells (xs.map (Value.int .i64)).toArray ty)) ⟨fun k hk => trivial, xs.map (Value.int .i64), ?_, reps_map (Value.int .i64) xs⟩ (below_alloc (Below.refl _ _) _)
  · show K (a.put (some N) _ |>.put o2.dst undef) _
    rw [hd2]
    exact hK _ _ h3
  · have h2 := World.ownsRow_lit (base := W.heap.size) (e := ty) (size := 1) W (xs.map (Value.int .i64)).toArray xs.length (Nat.le_refl _) (by simpa [maxLen] using hm) (by simp)
    exact h2
end
end Go.Proofs.Ytadehdkmggpehaa.ArrWords

