import Derived.Test.YtjnmfadnkbflfaaEEntryFnExactEntryOk
import Derived.Test.YtjnmfadnkbflfaaEExFnExactEntryOk
set_option linter.unusedVariables false
set_option linter.unusedSimpArgs false
namespace Go.Proofs.Ytjnmfadnkbflfaa.Pure
open Go Go.RowKit Go.Proofs.Ytjnmfadnkbflfaa.PFnExactEntryOk Go.Proofs.YtjnmfadnkbflfaaW.PrintWords Go.Proofs.YtjnmfadnkbflfaaW.PrintLast Go.Proofs.Ytjnmfadnkbflfaa.MapWords Go.Proofs.Ytjnmfadnkbflfaa.EvWords
theorem FnExactEntryOk : laws_FnExactEntryOk.Pure := by
  intro l0 d q day ref s l1 h0 h1 h2 h3 h4 h5 h6
  apply Ev.rounds
  unfold laws_FnExactEntryOk.f
  obtain ⟨t, e1, e2, e3⟩ := zz_Frame ⟨l0, d, q⟩ 1048576 (by omega) (by omega) ⟨h0, h1, h2⟩
  refine ev_bind e1 ?_
  by_cases ht : t < 0
  · exact ev_pos ht (ev_some _)
  · have hsF := e3 (by omega)
    obtain ⟨t', f1, _, f3⟩ := zz_Entry ⟨day, ref, s, l1⟩ t (by omega) (by omega) ⟨h3, h4, h5, h6⟩
    refine ev_neg ht (ev_bind f1 ?_)
    by_cases ht' : t' < 0
    · exact ev_pos ht' (ev_some _)
    · have hsE := f3 (by omega)
      have htoF := tt_Frame ⟨l0, d, q⟩ hsF
      have htoE := tt_Entry ⟨day, ref, s, l1⟩ hsE
      have hsz : ∀ i : Nat, i < (l0.map cv_Account).length → (rd_T188 (l0.map cv_Account) i).f0.size ≤ 9223372036854775807 := by
        intro i hi
        have hm : rd_T188 (l0.map cv_Account) (i : Nat) ∈ l0.map cv_Account := mem_rd hi
        obtain ⟨y, hy, e⟩ := List.mem_map.1 hm
        have := hsF.2 y hy
        unfold sm_Account at this
        rw [← e]
        simp only [cv_Account]
        omega
      have hw : ∀ i : Nat, i < (l1.map cv_Line).length → (-9223372036854775808 ≤ (rd_T109 (l1.map cv_Line) (i : Nat)).f0 ∧ (rd_T109 (l1.map cv_Line) (i : Nat)).f0 ≤ 9223372036854775807) ∧ (-9223372036854775808 ≤ (rd_T109 (l1.map cv_Line) (i : Nat)).f1 ∧ (rd_T109 (l1.map cv_Line) (i : Nat)).f1 ≤ 9223372036854775807) ∧ (-9223372036854775808 ≤ (rd_T109 (l1.map cv_Line) (i : Nat)).f2 ∧ (rd_T109 (l1.map cv_Line) (i : Nat)).f2 ≤ 9223372036854775807) := by
        intro i hi
        have hm : rd_T109 (l1.map cv_Line) (i : Nat) ∈ l1.map cv_Line := mem_rd hi
        obtain ⟨y, hy, e⟩ := List.mem_map.1 hm
        have hy' := h6.2 y hy
        rw [← e]
        exact ⟨wf_int hy'.1, wf_int hy'.2.1, wf_int hy'.2.2.1⟩
      have hss : s.size ≤ 1048576 := hsE.1
      have hsp := specEntry _ hsz d q day ref s hss (l1.map cv_Line)
      have him := implEntry _ hsz d q day ref s hss (l1.map cv_Line) hw
      have hlF : lk_Frame (cv_Frame ⟨l0, d, q⟩) := by
        have g1 := hsF.1
        exact ⟨by simp [cv_Frame]; simp at g1; omega, fun y _ => trivial⟩
      have hlE : lk_Entry (cv_Entry ⟨day, ref, s, l1⟩) := by
        have g1 := hsE.2.1
        exact ⟨by simp [cv_Entry]; simp at g1; omega, fun y _ => trivial⟩
      exact ev_neg ht' (ev_bind htoF (ev_bind htoE (ev_bind hsp (ev_bind htoF (ev_bind htoE (ev_bind him (ev_neg (by simp) (ev_bind htoF (ev_bind (ee_Frame _ hlF) (ev_pos rfl (ev_bind htoE (ev_bind (ee_Entry _ hlE) (ev_pos rfl (ev_some _))))))))))))))
end Go.Proofs.Ytjnmfadnkbflfaa.Pure
