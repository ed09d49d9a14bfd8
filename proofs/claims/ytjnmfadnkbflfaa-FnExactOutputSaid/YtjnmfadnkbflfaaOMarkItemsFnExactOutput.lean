import Derived.Test.YtjnmfadnkbflfaaOItemsFnExactOutput
import Derived.Test.YtjnmfadnkbflfaaOMarkFnExactOutput
set_option linter.unusedVariables false
set_option linter.unusedSimpArgs false
namespace Go.Proofs.Ytjnmfadnkbflfaa.PFnExactOutput
open Go Go.RowKit Go.Proofs.YtjnmfadnkbflfaaW.PrintWords Go.Proofs.YtjnmfadnkbflfaaW.PrintLast Go.Proofs.Ytjnmfadnkbflfaa.MapWords Go.Proofs.Ytjnmfadnkbflfaa.EvWords
theorem q_ev (n : Nat) (hn : n ≤ 1048576) (m : Int) (hm : 0 ≤ m ∧ m ≤ 1000000000000000) : Ev (fun k => laws_markPartS.q k n m 0) (m + 6 * n) := by
  have := ev_pass (F := fun k x => laws_markPartS.q k n (m + 6 * x) x) (n := n) (R := m + 6 * n)
    (by
      refine Ev.step (fun _ => rfl) ?_
      exact ev_neg (by omega) (ev_some _))
    (fun i r hi hr => by
      refine Ev.step (fun _ => rfl) ?_
      refine ev_pos (by omega) (ev_pos (by omega) ?_)
      rw [wrap_id (x := m + 6 * (i : Int) + 1) (by omega) (by omega), wrap_id (x := m + 6 * (i : Int) + 1 + 1) (by omega) (by omega), wrap_id (x := m + 6 * (i : Int) + 1 + 1 + 1) (by omega) (by omega), wrap_id (x := m + 6 * (i : Int) + 1 + 1 + 1 + 1) (by omega) (by omega), wrap_id (x := m + 6 * (i : Int) + 1 + 1 + 1 + 1 + 1) (by omega) (by omega), wrap_id (x := m + 6 * (i : Int) + 1 + 1 + 1 + 1 + 1 + 1) (by omega) (by omega), wrap_succ hi (by omega)]
      rw [show m + 6 * (i : Int) + 1 + 1 + 1 + 1 + 1 + 1 = m + 6 * ((i + 1 : Nat) : Int) by omega]
      exact hr)
  simpa using this
theorem mark_items (L : List Itm) (hl : L.length ≤ 1048576) (hp : ∀ i : Nat, i < L.length → (rd_T130 L (i : Nat)).f3.length ≤ 1048576 ∧ (rd_T130 L (i : Nat)).f4.length ≤ 1048576) : ∃ r, Ev (fun k => laws_markItemS.f k L 1) r ∧ 0 ≤ r := by
  have := ev_run (F := fun k (s : Int) i => laws_markItemS.l0 k L s i) (n := L.length) (I := fun i s => 0 ≤ s ∧ s ≤ 1 + 12582915 * (i : Int)) (Post := fun r : Int => 0 ≤ r)
    (fun s h => by
      refine ⟨s, ?_, h.1⟩
      refine Ev.step (fun _ => rfl) ?_
      exact ev_neg (by omega) (ev_some _))
    (fun i s hi h => by
      obtain ⟨h1, h2⟩ := hp i hi
      obtain ⟨h3, h4⟩ := h
      refine .inr ⟨s + 3 + 6 * ((rd_T130 L (i : Nat)).f3.length : Int) + 6 * ((rd_T130 L (i : Nat)).f4.length : Int), ⟨by omega, by omega⟩, fun r hr => ?_⟩
      refine Ev.step (fun _ => rfl) ?_
      refine ev_pos (by omega) (ev_pos (by omega) (ev_bind (mtx_ev (by omega)) ?_))
      rw [wrap_id (x := s + 1) (by omega) (by omega), wrap_id (x := s + 1 + 1) (by omega) (by omega), wrap_id (x := s + 1 + 1 + 1) (by omega) (by omega), show s + 1 + 1 + 1 = s + 3 by omega]
      refine ev_bind (q_ev _ h1 _ (by omega)) (ev_bind (q_ev _ h2 _ (by omega)) ?_)
      rw [wrap_succ hi (by omega)]
      exact hr)
    L.length 0 1 (by omega) ⟨by omega, by omega⟩
  exact this
end Go.Proofs.Ytjnmfadnkbflfaa.PFnExactOutput
