import Derived.Test.YtjnmfadnkbflfaaSShowFnExactShowFlow
import Derived.Test.YtjnmfadnkbflfaaSExFnExactShowFlow
set_option linter.unusedVariables false
set_option linter.unusedSimpArgs false
namespace Go.Proofs.Ytjnmfadnkbflfaa.Pure
open Go Go.RowKit Go.Proofs.Ytjnmfadnkbflfaa.PFnExactShowFlow Go.Proofs.YtjnmfadnkbflfaaW.PrintWords Go.Proofs.YtjnmfadnkbflfaaW.PrintLast Go.Proofs.Ytjnmfadnkbflfaa.MapWords Go.Proofs.Ytjnmfadnkbflfaa.EvWords
theorem FnExactShowFlow : laws_FnExactShowFlow.Pure := by
  intro l0 h0
  apply Ev.rounds
  unfold laws_FnExactShowFlow.f
  obtain ⟨t, e1, _, e3⟩ := zz_StepS l0 1048576 (by omega) (by omega) h0
  refine ev_bind e1 ?_
  by_cases ht : t < 0
  · exact ev_pos ht (ev_some _)
  · have hs := e3 (by omega)
    have hto := tt_StepS l0 hs
    have hF : ∀ x ∈ l0.map cv_Step, x.f1.length ≤ 1048576 ∧ ∀ y ∈ x.f1, y.size ≤ 1048576 := by
      intro x hx
      obtain ⟨y, hy, rfl⟩ := List.mem_map.1 hx
      exact hs.2 y hy
    have hl : (l0.map cv_Step).length ≤ 1048576 := by rw [List.length_map]; exact hs.1
    have hlk : ∀ y ∈ l0.map cv_Step, lk_Step y := fun y hy => by
      have := (hF y hy).1
      unfold lk_Step
      omega
    generalize l0.map cv_Step = F at *
    refine ev_neg ht (ev_bind hto (ev_bind (specShow F (fun x hx => (hF x hx).2) hl) (ev_bind hto (ev_bind (implShow F hF) (ev_pos rfl (ev_bind hto (ev_bind (ee_StepS F ⟨by omega, hlk⟩) (ev_pos rfl (ev_some _)))))))))
end Go.Proofs.Ytjnmfadnkbflfaa.Pure
