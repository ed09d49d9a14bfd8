import Derived.Test.YtmpknbdbichdiaaLLedgerFnExactLedgerOk
import Derived.Test.YtmpknbdbichdiaaLExFnExactLedgerOk
set_option linter.unusedVariables false
set_option linter.unusedSimpArgs false
namespace Go.Proofs.Ytmpknbdbichdiaa.Pure
open Go Go.RowKit Go.Proofs.Ytmpknbdbichdiaa.PFnExactLedgerOk Go.Proofs.YtmpknbdbichdiaaW.PrintWords Go.Proofs.YtmpknbdbichdiaaW.PrintLast Go.Proofs.Ytmpknbdbichdiaa.MapWords Go.Proofs.Ytmpknbdbichdiaa.EvWords
theorem FnExactLedgerOk : laws_FnExactLedgerOk.Pure := by
  intro l0 d q l1 a h0 h1 h2 h3 h4
  apply Ev.rounds
  unfold laws_FnExactLedgerOk.f
  obtain ⟨t, e1, e2, e3⟩ := zz_Frame ⟨l0, d, q⟩ 1048576 (by omega) (by omega) ⟨h0, h1, h2⟩
  refine ev_bind e1 ?_
  by_cases ht : t < 0
  · exact ev_pos ht (ev_some _)
  · have hsF := e3 (by omega)
    obtain ⟨t', f1, _, f3⟩ := zz_Ledger ⟨l1, a⟩ t (by omega) (by omega) ⟨h3, h4⟩
    refine ev_neg ht (ev_bind f1 ?_)
    by_cases ht' : t' < 0
    · exact ev_pos ht' (ev_some _)
    · have hsL := f3 (by omega)
      have htoF := tt_Frame ⟨l0, d, q⟩ hsF
      have htoL := tt_Ledger ⟨l1, a⟩ hsL
      have hsz : ∀ i : Nat, i < (l0.map cv_Account).length → (rd_T222 (l0.map cv_Account) i).f0.size ≤ 9223372036854775807 := by
        intro i hi
        have hm : rd_T222 (l0.map cv_Account) (i : Nat) ∈ l0.map cv_Account := mem_rd hi
        obtain ⟨y, hy, e⟩ := List.mem_map.1 hm
        have := hsF.2 y hy
        unfold sm_Account at this
        rw [← e]
        simp only [cv_Account]
        omega
      have hL : ∀ i : Nat, i < (l1.map cv_Entry).length → (rd_T103 (l1.map cv_Entry) (i : Nat)).f2.size ≤ 1048576 := by
        intro i hi
        have hm : rd_T103 (l1.map cv_Entry) (i : Nat) ∈ l1.map cv_Entry := mem_rd hi
        obtain ⟨y, hy, e⟩ := List.mem_map.1 hm
        rw [← e]
        exact (hsL.2 y hy).1
      have hw : ∀ i : Nat, i < (l1.map cv_Entry).length → ∀ j : Nat, j < (rd_T103 (l1.map cv_Entry) (i : Nat)).f3.length → (-9223372036854775808 ≤ (rd_T107 (rd_T103 (l1.map cv_Entry) (i : Nat)).f3 (j : Nat)).f0 ∧ (rd_T107 (rd_T103 (l1.map cv_Entry) (i : Nat)).f3 (j : Nat)).f0 ≤ 9223372036854775807) ∧ (-9223372036854775808 ≤ (rd_T107 (rd_T103 (l1.map cv_Entry) (i : Nat)).f3 (j : Nat)).f1 ∧ (rd_T107 (rd_T103 (l1.map cv_Entry) (i : Nat)).f3 (j : Nat)).f1 ≤ 9223372036854775807) ∧ (-9223372036854775808 ≤ (rd_T107 (rd_T103 (l1.map cv_Entry) (i : Nat)).f3 (j : Nat)).f2 ∧ (rd_T107 (rd_T103 (l1.map cv_Entry) (i : Nat)).f3 (j : Nat)).f2 ≤ 9223372036854775807) := by
        intro i hi
        have hm : rd_T103 (l1.map cv_Entry) (i : Nat) ∈ l1.map cv_Entry := mem_rd hi
        obtain ⟨y, hy, e⟩ := List.mem_map.1 hm
        have hy3 := (h3.2 y hy).2.2.2
        rw [← e]
        intro j hj
        have hm' : rd_T107 (cv_Entry y).f3 (j : Nat) ∈ y.f3.map cv_Line := mem_rd hj
        obtain ⟨z, hz, e'⟩ := List.mem_map.1 hm'
        have hz' := hy3.2 z hz
        rw [← e']
        exact ⟨wf_int hz'.1, wf_int hz'.2.1, wf_int hz'.2.2.1⟩
      have hsp := specLedger _ hsz d q (l1.map cv_Entry) a hL
      have him := implLedger _ hsz d q (l1.map cv_Entry) a hL hw
      have hlF : lk_Frame (cv_Frame ⟨l0, d, q⟩) := by
        have g1 := hsF.1
        exact ⟨by simp [cv_Frame]; simp at g1; omega, fun y _ => trivial⟩
      have hlL : lk_Ledger (cv_Ledger ⟨l1, a⟩) := by
        have g1 := hsL.1
        refine ⟨by simp [cv_Ledger]; simp at g1; omega, fun y hy => ?_⟩
        obtain ⟨z, hz, e⟩ := List.mem_map.1 hy
        have g2 := (hsL.2 z hz).2.1
        rw [← e]
        exact ⟨by simp [cv_Entry]; omega, fun y _ => trivial⟩
      exact ev_neg ht' (ev_bind htoF (ev_bind htoL (ev_bind hsp (ev_bind htoF (ev_bind htoL (ev_bind him (ev_neg (by simp) (ev_bind htoF (ev_bind (ee_Frame _ hlF) (ev_pos rfl (ev_bind htoL (ev_bind (ee_Ledger _ hlL) (ev_pos rfl (ev_some _))))))))))))))
end Go.Proofs.Ytmpknbdbichdiaa.Pure
