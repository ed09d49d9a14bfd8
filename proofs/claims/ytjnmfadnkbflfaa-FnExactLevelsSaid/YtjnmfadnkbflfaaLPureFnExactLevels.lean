import Derived.Test.YtjnmfadnkbflfaaLItemsFnExactLevels
import Derived.Test.YtjnmfadnkbflfaaLMarkFnExactLevels
import Derived.Test.YtjnmfadnkbflfaaLMarkIntsFnExactLevels
import Derived.Test.YtjnmfadnkbflfaaLExFnExactLevels
set_option linter.unusedVariables false
set_option linter.unusedSimpArgs false
namespace Go.Proofs.Ytjnmfadnkbflfaa.PFnExactLevels
open Go Go.RowKit Go.Proofs.YtjnmfadnkbflfaaW.PrintWords Go.Proofs.YtjnmfadnkbflfaaW.PrintLast Go.Proofs.Ytjnmfadnkbflfaa.MapWords Go.Proofs.Ytjnmfadnkbflfaa.EvWords
theorem q_ev (n : Nat) (hn : n ≤ 1048576) (m : Int) (hm : 0 ≤ m ∧ m ≤ 1000000000000000) : Ev (fun k => laws_markPartS.q k n m 0) (m + 6 * n) := by
  have := ev_pass (F := fun k x => laws_markPartS.q k n (m + 6 * x) x) (n := n) (R := m + 6 * n)
    (by
      refine Ev.step (fun _ => rfl) ?_
      exact ev_neg (by omega) (ev_some _))
    (fun i r hi hr => by
      refine Ev.step (fun _ => rfl) ?_
      refine ev_pos (by omega) (ev_pos (by omega) ?_)
      rw [wrap_id (x := m + 6 * (i : Int) + 1) (by omega) (by omega), wrap_id (x := m + 6 * (i : Int) + 1 + 1) (by omega) (by omega), wrap_id (x := m + 6 * (i : Int) + 1 + 1 + 1) (by omega) (by omega), wrap_id (x := m + 6 * (i : Int) + 1 + 1 + 1 + 1) (by omega) (by omega), wrap_id (x := m + 6 * (i : Int) + 1 + 1 + 1 + 1 + 1) (by omega) (by omega), wrap_id (x := m + 6 * (i : Int) + 1 + 1 + 1 + 1 + 1 + 1) (by omega) (by omega), wrap_succ hi (by omega)]
      rw [show m + 6 * (i : Int) + 1 + 1 + 1 + 1 + 1 + 1 = m + 6 * ((i + 1 : Nat) : Int) by omega]
      exact hr)
  simpa using this
theorem mark_items (L : List Itm) (hl : L.length ≤ 1048576) (hp : ∀ i : Nat, i < L.length → (rd_T130 L (i : Nat)).f3.length ≤ 1048576 ∧ (rd_T130 L (i : Nat)).f4.length ≤ 1048576) : ∃ r, Ev (fun k => laws_markItemS.f k L 1) r ∧ 0 ≤ r := by
  have := ev_run (F := fun k (s : Int) i => laws_markItemS.l0 k L s i) (n := L.length) (I := fun i s => 0 ≤ s ∧ s ≤ 1 + 12582915 * (i : Int)) (Post := fun r : Int => 0 ≤ r)
    (fun s h => by
      refine ⟨s, ?_, h.1⟩
      refine Ev.step (fun _ => rfl) ?_
      exact ev_neg (by omega) (ev_some _))
    (fun i s hi h => by
      obtain ⟨h1, h2⟩ := hp i hi
      obtain ⟨h3, h4⟩ := h
      refine .inr ⟨s + 3 + 6 * ((rd_T130 L (i : Nat)).f3.length : Int) + 6 * ((rd_T130 L (i : Nat)).f4.length : Int), ⟨by omega, by omega⟩, fun r hr => ?_⟩
      refine Ev.step (fun _ => rfl) ?_
      refine ev_pos (by omega) (ev_pos (by omega) (ev_bind (mtx_ev (by omega)) ?_))
      rw [wrap_id (x := s + 1) (by omega) (by omega), wrap_id (x := s + 1 + 1) (by omega) (by omega), wrap_id (x := s + 1 + 1 + 1) (by omega) (by omega), show s + 1 + 1 + 1 = s + 3 by omega]
      refine ev_bind (q_ev _ h1 _ (by omega)) (ev_bind (q_ev _ h2 _ (by omega)) ?_)
      rw [wrap_succ hi (by omega)]
      exact hr)
    L.length 0 1 (by omega) ⟨by omega, by omega⟩
  exact this
end Go.Proofs.Ytjnmfadnkbflfaa.PFnExactLevels
namespace Go.Proofs.Ytjnmfadnkbflfaa.Pure
open Go Go.RowKit Go.Proofs.Ytjnmfadnkbflfaa.PFnExactLevels Go.Proofs.YtjnmfadnkbflfaaW.PrintWords Go.Proofs.YtjnmfadnkbflfaaW.PrintLast Go.Proofs.Ytjnmfadnkbflfaa.MapWords Go.Proofs.Ytjnmfadnkbflfaa.EvWords
theorem FnExactLevels : laws_FnExactLevels.Pure := by
  intro l0 h0
  apply Ev.rounds
  unfold laws_FnExactLevels.f
  obtain ⟨t, e1, _, e3⟩ := zz_ItemS l0 1048576 (by omega) (by omega) h0
  refine ev_bind e1 ?_
  by_cases ht : t < 0
  · exact ev_pos ht (ev_some _)
  · have hs := e3 (by omega)
    have hto : Ev (fun k => laws_toItemS.f k l0) (l0.map cv_Item) := tt_ItemS l0 hs
    have hL : (l0.map cv_Item).length ≤ 1048576 := by rw [List.length_map]; exact hs.1
    have hit : ∀ x ∈ l0.map cv_Item, x.f0.size ≤ 1048576 ∧ x.f3.length ≤ 1048576 ∧ x.f4.length ≤ 1048576 := by
      intro x hx
      obtain ⟨y, hy, rfl⟩ := List.mem_map.1 hx
      have := hs.2 y hy
      unfold sm_Item at this
      simp only [cv_Item, List.length_map]
      exact ⟨this.1, this.2.1.1, this.2.2.1⟩
    generalize l0.map cv_Item = L at hto hL hit
    have hrd : ∀ i : Nat, i < L.length → (rd_T130 L (i : Nat)).f0.size ≤ 1048576 ∧ (rd_T130 L (i : Nat)).f3.length ≤ 1048576 ∧ (rd_T130 L (i : Nat)).f4.length ≤ 1048576 := fun i hi => hit _ (mem_rd hi)
    have hsz : ∀ i : Nat, i < L.length → (rd_T130 L (i : Nat)).f0.size ≤ 9223372036854775807 := fun i hi => by have := (hrd i hi).1; omega
    have hsp := specLvl L hsz
    have him := implLvl L hsz
    have hln := lvl_len L
    generalize lvl L = R at hsp him hln
    have eeR : Ev (fun k => laws_eqIntS.f k R R) true := ee_IntS R (by omega)
    have eeL : Ev (fun k => laws_eqItemS.f k L L) true := ee_ItemS L ⟨by omega, fun y hy => ⟨⟨by have := (hit y hy).2.1; omega, fun _ _ => trivial⟩, by have := (hit y hy).2.2; omega, fun _ _ => trivial⟩⟩
    obtain ⟨q, mq, hq⟩ := mark_items L hL (fun i hi => (hrd i hi).2)
    obtain ⟨R', m1, m2, m3⟩ := mark_int R (by omega) 1 (by omega)
    have hh : Ev (fun k => laws_heldIntS.f k R' 1) (1 + R.length) := by
      have := held_int R' (by omega) 1 (by omega) (fun j hj => m3 j (by omega))
      rw [m2] at this
      exact this
    have j0 : ∀ b : Bool, b = false → Ev (fun k => laws_FnExactLevels.j0 k l0 R R b) true := by
      intro b hb
      refine Ev.step (fun _ => rfl) ?_
      exact ev_neg (by simp [hb]) (ev_bind m1 (ev_bind hh (ev_neg (by omega) (ev_pos rfl (ev_bind hto (ev_bind him (ev_bind eeR (ev_pos rfl (ev_bind hh (ev_neg (by omega) (ev_pos rfl (ev_some _))))))))))))
    exact ev_neg ht (ev_bind hto (ev_bind hsp (ev_bind hto (ev_bind him (ev_bind eeR (ev_pos rfl (ev_bind hto (ev_bind eeL (ev_pos rfl (ev_bind mq (ev_neg (by omega) (ev_bind eeR (j0 _ (by simp))))))))))))))
end Go.Proofs.Ytjnmfadnkbflfaa.Pure
