import Derived.Test.YtobbemdkipknnaaXWMore
import Derived.Test.YtobbemdkipknnaaXWAt
import Derived.Test.YtobbemdkipknnaaXWLast
import Derived.Deep.MidRow
import Derived.Deep.WholeRow
set_option linter.unusedVariables false
set_option linter.unusedSimpArgs false
namespace Go.Proofs.Ytobbemdkipknnaa.ArrWords
open Go Go.RowKit Go.Proofs.YtobbemdkipknnaaW.PrintWords Go.Proofs.YtobbemdkipknnaaW.PrintLast Go.Proofs.YtobbemdkipknnaaW.PrintMore
section
variable {P : Program} {ops : Array Oper} {rest : List Oper} {o : Oper} {a : Act} {Q : Exit → Act → World → Prop}
end
section
variable {P : Program} {ops : Array Oper} {rest : List Oper} {o o2 : Oper} {a : Act} {Q : Exit → Act → World → Prop}
theorem B_make2 {W : World} {N : Tmp} {ty : TypeId} {y : Operand} {vs : List Value} {cs : Array Value} (hg1 : o.guard = none) (hg2 : o2.guard = none) (hd1 : o.dst = some N) (hd2 : o2.dst = none) (ho2 : o2.op = .store ty (.tmp N) y)
    (hrun : (execOp a.eval o).run P W = .ok (.value (.pointer (some ⟨W.heap.size, 0, none⟩))) (W.alloc (.cells cs ty (0, 0)))) (hx : ∀ v, (a.put (some N) v).eval (.tmp N) = v) (hy : ∀ v, (a.put (some N) v).eval y = .agg vs.toArray)
    (hcs : cs.size = vs.length) (hi : (P.info? ty).map (·.size) = some vs.length) (h1 : vs.toArray.all (·.oneCell') = true)
    (h : ∀ g w1, g = W.heap.size → w1.heap[g]? = some (.cells vs.toArray ty (0, 0)) → Below W.heap.size W w1 → wpList P ops Q rest (a.put (some N) (.pointer (some ⟨g, 0, none⟩))) w1) : wpList P ops Q (o :: o2 :: rest) a W := by
  refine Kd.event_run hg1 hrun ?_
  rw [hd1]
  refine wpList_plain hg2 fun K hK => ?_
  unfold Oper.wp execOp
  simp only [ho2, hx, hy, Instr.storeAt, Instr.sureAddr, Sem.run_bind, Sem.run_pure, Result.andThen_ok, run_storeVar_new W ty cs vs.toArray (by rw [hi]; simp) (by rw [hcs]; simp) h1]
  have h3 := h W.heap.size (W.alloc (.cells vs.toArray ty)) rfl (blk_new W _) (below_alloc (Below.refl _ _) _)
  show K (a.put (some N) _ |>.put o2.dst undef) _
  rw [hd2]
  exact hK _ _ h3
end
end Go.Proofs.Ytobbemdkipknnaa.ArrWords

