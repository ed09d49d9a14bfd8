import Derived.Test.YtadehdkmggpehaaMMut4FnExactMutual
import Derived.Test.YtadehdkmggpehaaMMarkIntsFnExactMutual
import Derived.Test.YtadehdkmggpehaaMExFnExactMutual
set_option linter.unusedVariables false
set_option linter.unusedSimpArgs false
namespace Go.Proofs.Ytadehdkmggpehaa.PFnExactMutual
open Go Go.RowKit Go.Proofs.YtadehdkmggpehaaW.PrintWords Go.Proofs.YtadehdkmggpehaaW.PrintLast Go.Proofs.Ytadehdkmggpehaa.MapWords Go.Proofs.Ytadehdkmggpehaa.IterWords Go.Proofs.Ytadehdkmggpehaa.EvWords
open Classical
noncomputable def mutv (L : List Int) (a : Int) (H : List (List Int)) : List Int × Bool := if costsP L ∧ 0 ≤ a ∧ mutP L H a.toNat then (fin L H a.toNat, true) else ([], false)
theorem mutv_len (L : List Int) (a : Int) (H : List (List Int)) : (mutv L a H).1.length ≤ 200 := by
  unfold mutv
  split
  · rename_i h
    show (fin L H a.toNat).length ≤ 200
    rw [fin_len]
    exact h.1.1.2
  · simp
theorem q_ev (n : Nat) (hn : n ≤ 1048576) (m : Int) (hm : 0 ≤ m ∧ m ≤ 1000000000000000) : Ev (fun k => laws_markIntS.q k n m 0) (m + n) := by
  have := ev_pass (F := fun k x => laws_markIntS.q k n (m + x) x) (n := n) (R := m + n)
    (by
      refine Ev.step (fun _ => rfl) ?_
      exact ev_neg (by omega) (ev_some _))
    (fun i r hi hr => by
      refine Ev.step (fun _ => rfl) ?_
      refine ev_pos (by omega) (ev_pos (by omega) ?_)
      rw [wrap_id (x := m + (i : Int) + 1) (by omega) (by omega), wrap_succ hi (by omega)]
      rw [show m + (i : Int) + 1 = m + ((i + 1 : Nat) : Int) by omega]
      exact hr)
  simpa using this
theorem mark_rows (L : List (List Int)) (hl : L.length ≤ 1048576) (hp : ∀ i : Nat, i < L.length → (rd_L2 L (i : Nat)).length ≤ 1048576) (m : Int) (hm : 0 ≤ m ∧ m ≤ 1048577) : ∃ r, Ev (fun k => laws_markIntSS.f k L m) r ∧ 0 ≤ r := by
  have := ev_run (F := fun k (s : Int) i => laws_markIntSS.l0 k L s i) (n := L.length) (I := fun i s => 0 ≤ s ∧ s ≤ 1048577 + 1048576 * (i : Int)) (Post := fun r : Int => 0 ≤ r)
    (fun s h => by
      refine ⟨s, ?_, h.1⟩
      refine Ev.step (fun _ => rfl) ?_
      exact ev_neg (by omega) (ev_some _))
    (fun i s hi h => by
      have h1 := hp i hi
      obtain ⟨h3, h4⟩ := h
      refine .inr ⟨s + ((rd_L2 L (i : Nat)).length : Int), ⟨by omega, by omega⟩, fun r hr => ?_⟩
      refine Ev.step (fun _ => rfl) ?_
      refine ev_pos (by omega) (ev_pos (by omega) (ev_bind (q_ev _ h1 _ (by omega)) ?_))
      rw [wrap_succ hi (by omega)]
      exact hr)
    L.length 0 m (by omega) ⟨by omega, by omega⟩
  exact this
end Go.Proofs.Ytadehdkmggpehaa.PFnExactMutual
namespace Go.Proofs.Ytadehdkmggpehaa.Pure
open Go Go.RowKit Go.Proofs.Ytadehdkmggpehaa.PFnExactMutual Go.Proofs.YtadehdkmggpehaaW.PrintWords Go.Proofs.YtadehdkmggpehaaW.PrintLast Go.Proofs.Ytadehdkmggpehaa.MapWords Go.Proofs.Ytadehdkmggpehaa.IterWords Go.Proofs.Ytadehdkmggpehaa.EvWords
theorem FnExactMutual : laws_FnExactMutual.Pure := by
  intro l0 a1 l2 h0 h1 h2
  apply Ev.rounds
  unfold laws_FnExactMutual.f
  by_cases hl : (l0.length : Int) > 1048576
  · exact ev_pos hl (ev_some _)
  · refine ev_neg hl ?_
    obtain ⟨t, e1, _, e3⟩ := zz_IntSS l2 1048576 (by omega) (by omega) h2
    refine ev_bind e1 ?_
    by_cases ht : t < 0
    · exact ev_pos ht (ev_some _)
    · have hs := e3 (by omega)
      have hL : l0.length ≤ 1048576 := by omega
      have ti := tt_IntS l0 hL
      have tr := tt_IntSS l2 hs
      have sp : Ev (fun k => spec_Mutual.f k l0 a1 l2) (mutv l0 a1 l2) := specMutual hL hs.1 a1
      have im : Ev (fun k => impl_Mutual.f k l0 a1 l2) (mutv l0 a1 l2) := implMutual hL hs.1 a1
      have hln := mutv_len l0 a1 l2
      generalize mutv l0 a1 l2 = R at sp im hln
      obtain ⟨r, b⟩ := R
      have hln : r.length ≤ 200 := hln
      have er : Ev (fun k => laws_eqIntS.f k r r) true := ee_IntS r (by omega)
      have el : Ev (fun k => laws_eqIntS.f k l0 l0) true := ee_IntS l0 (by omega)
      have eH : Ev (fun k => laws_eqIntSS.f k l2 l2) true := ee_IntSS l2 ⟨by omega, fun y hy => by have := hs.2 y hy; omega⟩
      obtain ⟨L', m1, _, _⟩ := mark_int l0 (by omega) 1 (by omega)
      obtain ⟨q, m2, hq⟩ := mark_rows l2 hs.1 (fun i hi => hs.2 _ (mem_rd hi)) (1 + l0.length) (by omega)
      obtain ⟨R', m3, m4, m5⟩ := mark_int r (by omega) 1 (by omega)
      have hh : Ev (fun k => laws_heldIntS.f k R' 1) (1 + r.length) := by
        have := held_int R' (by omega) 1 (by omega) (fun j hj => m5 j (by omega))
        rw [m4] at this
        exact this
      have j2 : ∀ c : Bool, c = false → Ev (fun k => laws_FnExactMutual.j2 k R' (1 + r.length) c) true := by
        intro c hc
        refine Ev.step (fun _ => rfl) ?_
        exact ev_neg (by simp [hc]) (ev_bind hh (ev_neg (by omega) (ev_pos rfl (ev_some _))))
      have j1 : ∀ c : Bool, c = false → Ev (fun k => laws_FnExactMutual.j1 k l0 a1 l2 r b r c) true := by
        intro c hc
        refine Ev.step (fun _ => rfl) ?_
        exact ev_neg (by simp [hc]) (ev_bind m3 (ev_bind hh (ev_neg (by omega) (ev_pos rfl (ev_bind ti (ev_bind tr (ev_bind im (ev_bind er (ev_pos rfl (j2 _ (by simp)))))))))))
      have j0 : ∀ c : Bool, c = false → Ev (fun k => laws_FnExactMutual.j0 k l0 a1 l2 r b l0 l2 r b c) true := by
        intro c hc
        refine Ev.step (fun _ => rfl) ?_
        exact ev_neg (by simp [hc]) (ev_bind ti (ev_bind el (ev_pos rfl (ev_bind tr (ev_bind eH (ev_pos rfl (ev_bind m1 (ev_bind m2 (ev_neg (by omega) (ev_bind er (ev_pos rfl (j1 _ (by simp)))))))))))))
      exact ev_neg ht (ev_bind ti (ev_bind tr (ev_bind sp (ev_bind ti (ev_bind tr (ev_bind im (ev_bind er (ev_pos rfl (j0 _ (by simp))))))))))
end Go.Proofs.Ytadehdkmggpehaa.Pure
