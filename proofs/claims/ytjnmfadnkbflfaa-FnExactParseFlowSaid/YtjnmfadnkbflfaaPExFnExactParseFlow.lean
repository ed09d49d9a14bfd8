import Derived.Test.YtjnmfadnkbflfaaPEvWords
import Derived.Test.YtjnmfadnkbflfaaPPFnExactParseFlowx
set_option linter.unusedVariables false
set_option linter.unusedSimpArgs false
namespace Go.Proofs.Ytjnmfadnkbflfaa.PFnExactParseFlow
open Go Go.RowKit Go.Proofs.YtjnmfadnkbflfaaW.PrintWords Go.Proofs.YtjnmfadnkbflfaaW.PrintLast Go.Proofs.Ytjnmfadnkbflfaa.MapWords Go.Proofs.Ytjnmfadnkbflfaa.EvWords
theorem ee_StringS (l : List ByteArray) (h : l.length ≤ 4611686018427387904) : Ev (fun k => laws_eqStringS.f k l l) true := by
  unfold laws_eqStringS.f
  refine ev_pos rfl ?_
  refine ev_pass (F := fun k x => laws_eqStringS.l0 k l l x) (n := l.length) ?_ (fun i r hi hr => ?_)
  · refine Ev.step (fun _ => rfl) ?_
    exact ev_neg (by omega) (ev_some _)
  · refine Ev.step (fun _ => rfl) ?_
    refine ev_pos (by omega) (ev_pos (by omega) (ev_pos (by omega) (ev_pos rfl ?_)))
    rw [wrap_succ hi (by have := h; omega)]
    exact hr
structure S116 where
  f0 : Int
  f1 : List ByteArray
def lk_Step (x : S119) : Prop := (x.f1.length ≤ 4611686018427387904)
theorem ee_Step (x : S119) (h : lk_Step x) : Ev (fun k => laws_eqStep.f k x.f0 x.f1 x.f0 x.f1) true := by
  unfold laws_eqStep.f
  have h1 := h
  refine ev_pos rfl ?_
  refine ev_bind (ee_StringS _ h1) (ev_pos rfl ?_)
  exact ev_some _
theorem ee_StepS (l : List S119) (h : l.length ≤ 4611686018427387904 ∧ ∀ y ∈ l, lk_Step y) : Ev (fun k => laws_eqStepS.f k l l) true := by
  unfold laws_eqStepS.f
  refine ev_pos rfl ?_
  refine ev_pass (F := fun k x => laws_eqStepS.l0 k l l x) (n := l.length) ?_ (fun i r hi hr => ?_)
  · refine Ev.step (fun _ => rfl) ?_
    exact ev_neg (by omega) (ev_some _)
  · refine Ev.step (fun _ => rfl) ?_
    refine ev_pos (by omega) (ev_pos (by omega) (ev_pos (by omega) (ev_bind (ee_Step _ (h.2 _ (mem_rd hi))) (ev_pos rfl ?_))))
    rw [wrap_succ hi (by have := h.1; omega)]
    exact hr
end Go.Proofs.Ytjnmfadnkbflfaa.PFnExactParseFlow
