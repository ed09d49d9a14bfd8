import Derived.Test.YtadehdkmggpehaaTMut4FnExactTrace
import Derived.Test.YtadehdkmggpehaaTMarkIntsFnExactTrace
import Derived.Test.YtadehdkmggpehaaTExFnExactTrace
set_option linter.unusedVariables false
set_option linter.unusedSimpArgs false
namespace Go.Proofs.Ytadehdkmggpehaa.PFnExactTrace
open Go Go.RowKit Go.Proofs.YtadehdkmggpehaaW.PrintWords Go.Proofs.YtadehdkmggpehaaW.PrintLast Go.Proofs.Ytadehdkmggpehaa.MapWords Go.Proofs.Ytadehdkmggpehaa.IterWords Go.Proofs.Ytadehdkmggpehaa.EvWords
open Classical
noncomputable def trs (L : List Int) (H : List (List Int)) (s p : Nat) : List Int := tab (fun i => ri (gives L H s i) (p - s)) s
def trP (L : List Int) (a : Int) (H : List (List Int)) (p : Int) : Prop := (costsP L ∧ 0 ≤ a ∧ mutP L H a.toNat) ∧ a ≤ p ∧ p < L.length
noncomputable def trc (L : List Int) (a : Int) (H : List (List Int)) (p : Int) : List Int × Bool := if trP L a H p then (trs L H a.toNat p.toNat, true) else ([], false)
section
variable {L : List Int} {H : List (List Int)} {s p : Nat}
theorem spec_trs (hc : costsP L) (h : mutP L H s) (hp : s ≤ p ∧ p < L.length) : Ev (fun k => spec_Trace.l0 k (s : Int) (p : Int) (gvs L H s s) [] 0) (trs L H s p, true) := by
  have hs := h.1.1
  have hn := hc.1
  have e1 : wrap64 ((p : Int) - (s : Int)) = ((p - s : Nat) : Int) := (wrap_id (by omega) (by omega)).trans (by omega)
  have := ev_pass (F := fun k x => spec_Trace.l0 k (s : Int) (p : Int) (gvs L H s s) (tab (fun i => ri (gives L H s i) (p - s)) x.toNat) x) (n := s) (R := (trs L H s p, true))
    (by
      refine Ev.step (fun _ => rfl) ?_
      simp only [spec_Trace.l0, Int.toNat_natCast]
      exact ev_neg (by omega) (ev_some _))
    (fun i q hi hq => by
      obtain ⟨_, g2, _, _⟩ := gives_ok hc h.1 h.2.1 i hi
      refine Ev.step (fun _ => rfl) ?_
      have e4 : (((i + 1 : Nat) : Int)).toNat = i + 1 := Int.toNat_natCast _
      simp only [e4, tab_succ] at hq
      simp only [spec_Trace.l0, Int.toNat_natCast, gvs_at s i hi, e1, ri_rd]
      rw [wrap_succ hi (by omega)]
      exact ev_pos (by omega) (ev_pos (by omega) (ev_pos (by rw [gvs_len]; omega) (ev_pos (by omega) (ev_pos (by omega) (ev_pos (by rw [tab_len]; omega) hq))))))
  exact this
theorem impl_trs (hc : costsP L) (h : mutP L H s) (hp : s ≤ p ∧ p < L.length) : Ev (fun k => impl_Trace.l0 k (s : Int) (p : Int) (gvs L H s s) [] ((gvs L H s s).length : Int) 0) (trs L H s p, true) := by
  have hs := h.1.1
  have hn := hc.1
  have e1 : wrap64 ((p : Int) - (s : Int)) = ((p - s : Nat) : Int) := (wrap_id (by omega) (by omega)).trans (by omega)
  have hl : (gvs L H s s).length = s := gvs_len _
  have := ev_pass (F := fun k x => impl_Trace.l0 k (s : Int) (p : Int) (gvs L H s s) (tab (fun i => ri (gives L H s i) (p - s)) x.toNat) ((gvs L H s s).length : Int) x) (n := s) (R := (trs L H s p, true))
    (by
      refine Ev.step (fun _ => rfl) ?_
      simp only [impl_Trace.l0, Int.toNat_natCast]
      exact ev_neg (by omega) (ev_some _))
    (fun i q hi hq => by
      obtain ⟨_, g2, _, _⟩ := gives_ok hc h.1 h.2.1 i hi
      refine Ev.step (fun _ => rfl) ?_
      have e4 : (((i + 1 : Nat) : Int)).toNat = i + 1 := Int.toNat_natCast _
      simp only [e4, tab_succ] at hq
      simp only [impl_Trace.l0, Int.toNat_natCast, gvs_at s i hi, e1, ri_rd]
      rw [wrap_succ hi (by omega)]
      exact ev_pos (by omega) (ev_pos (by omega) (ev_pos (by omega) (ev_pos (by omega) (ev_pos (by omega) (ev_pos (by rw [tab_len]; omega) hq))))))
  exact this
end
theorem implTrace {L : List Int} {H : List (List Int)} (hL : L.length ≤ 1048576) (hH : H.length ≤ 1048576) (a p : Int) : Ev (fun k => impl_Trace.f k L a H p) (trc L a H p) := by
  have bad : ∀ (b : Bool) (g : List (List Int)), b = true → ¬ trP L a H p → Ev (fun k => impl_Trace.j0 k a p g b) (trc L a H p) := by
    intro b g hb hg
    unfold trc
    rw [if_neg hg]
    refine Ev.step (fun _ => rfl) ?_
    simp only [impl_Trace.j0]
    exact ev_pos hb (ev_some _)
  unfold impl_Trace.f
  refine ev_bind (implMut hL hH a) ?_
  by_cases h : costsP L ∧ 0 ≤ a ∧ mutP L H a.toNat
  · rw [if_pos h]
    refine ev_pos rfl ?_
    by_cases h1 : p < a
    · exact ev_pos h1 (bad _ _ rfl (fun k => by have := k.2.1; omega))
    · refine ev_neg h1 ?_
      by_cases h2 : p < L.length
      · refine Ev.step (fun _ => rfl) ?_
        simp only [impl_Trace.j0]
        refine ev_neg (by rw [decide_eq_true_eq]; omega) ?_
        unfold trc
        rw [if_pos ⟨h, by omega, h2⟩]
        have := impl_trs (s := a.toNat) (p := p.toNat) h.1 h.2.2 (by omega)
        rw [show ((a.toNat : Nat) : Int) = a by omega, show ((p.toNat : Nat) : Int) = p by omega] at this
        exact this
      · exact bad _ _ (decide_eq_true (by omega)) (fun k => h2 k.2.2)
  · rw [if_neg h]
    exact ev_neg (by decide) (bad _ _ rfl (fun k => h k.1))
theorem specTrace {L : List Int} {H : List (List Int)} (hL : L.length ≤ 1048576) (hH : H.length ≤ 1048576) (a p : Int) : Ev (fun k => spec_Trace.f k L a H p) (trc L a H p) := by
  have bad : ∀ (b : Bool), b = true → ¬ trP L a H p → Ev (fun k => spec_Trace.j0 k L a H p b) (trc L a H p) := by
    intro b hb hg
    unfold trc
    rw [if_neg hg]
    refine Ev.step (fun _ => rfl) ?_
    simp only [spec_Trace.j0]
    exact ev_pos hb (ev_some _)
  unfold spec_Trace.f
  refine ev_bind (specMutual hL hH a) ?_
  by_cases h : costsP L ∧ 0 ≤ a ∧ mutP L H a.toNat
  · rw [if_pos h]
    have hn := h.1.1
    have e1 : wrap64 ((L.length : Int) - 1) = (L.length : Int) - 1 := wrap_id (by omega) (by omega)
    refine ev_pos rfl (ev_bind0 (l1In_eq _ _ _) ?_)
    rw [e1]
    by_cases h2 : a ≤ p ∧ p ≤ (L.length : Int) - 1
    · refine Ev.step (fun _ => rfl) ?_
      simp only [spec_Trace.j0]
      refine ev_neg (by rw [decide_eq_true h2]; decide) (ev_bind (parts_s hL hH a) ?_)
      rw [if_pos ⟨h.1, h.2.1, h.2.2.1, h.2.2.2.1⟩]
      unfold trc
      rw [if_pos ⟨h, h2.1, by omega⟩]
      have := spec_trs (s := a.toNat) (p := p.toNat) h.1 h.2.2 (by omega)
      rw [show ((a.toNat : Nat) : Int) = a by omega, show ((p.toNat : Nat) : Int) = p by omega] at this
      exact this
    · exact bad _ (by rw [decide_eq_false h2]; rfl) (fun k => h2 (by have := k.2.1; have := k.2.2; omega))
  · rw [if_neg h]
    exact ev_neg (by decide) (bad _ rfl (fun k => h k.1))
theorem trc_len (L : List Int) (a : Int) (H : List (List Int)) (p : Int) : (trc L a H p).1.length ≤ 3 := by
  unfold trc
  split
  · rename_i h
    show (trs L H a.toNat p.toNat).length ≤ 3
    unfold trs
    rw [tab_len]
    exact h.1.2.2.1.1.2
  · simp
end Go.Proofs.Ytadehdkmggpehaa.PFnExactTrace

set_option linter.unusedVariables false
set_option linter.unusedSimpArgs false
namespace Go.Proofs.Ytadehdkmggpehaa.PFnExactTrace
open Go Go.RowKit Go.Proofs.YtadehdkmggpehaaW.PrintWords Go.Proofs.YtadehdkmggpehaaW.PrintLast Go.Proofs.Ytadehdkmggpehaa.MapWords Go.Proofs.Ytadehdkmggpehaa.IterWords Go.Proofs.Ytadehdkmggpehaa.EvWords
open Classical
theorem q_ev (n : Nat) (hn : n ≤ 1048576) (m : Int) (hm : 0 ≤ m ∧ m ≤ 1000000000000000) : Ev (fun k => laws_markIntS.q k n m 0) (m + n) := by
  have := ev_pass (F := fun k x => laws_markIntS.q k n (m + x) x) (n := n) (R := m + n)
    (by
      refine Ev.step (fun _ => rfl) ?_
      exact ev_neg (by omega) (ev_some _))
    (fun i r hi hr => by
      refine Ev.step (fun _ => rfl) ?_
      refine ev_pos (by omega) (ev_pos (by omega) ?_)
      rw [wrap_id (x := m + (i : Int) + 1) (by omega) (by omega), wrap_succ hi (by omega)]
      rw [show m + (i : Int) + 1 = m + ((i + 1 : Nat) : Int) by omega]
      exact hr)
  simpa using this
theorem mark_rows (L : List (List Int)) (hl : L.length ≤ 1048576) (hp : ∀ i : Nat, i < L.length → (rd_L2 L (i : Nat)).length ≤ 1048576) (m : Int) (hm : 0 ≤ m ∧ m ≤ 1048577) : ∃ r, Ev (fun k => laws_markIntSS.f k L m) r ∧ 0 ≤ r := by
  have := ev_run (F := fun k (s : Int) i => laws_markIntSS.l0 k L s i) (n := L.length) (I := fun i s => 0 ≤ s ∧ s ≤ 1048577 + 1048576 * (i : Int)) (Post := fun r : Int => 0 ≤ r)
    (fun s h => by
      refine ⟨s, ?_, h.1⟩
      refine Ev.step (fun _ => rfl) ?_
      exact ev_neg (by omega) (ev_some _))
    (fun i s hi h => by
      have h1 := hp i hi
      obtain ⟨h3, h4⟩ := h
      refine .inr ⟨s + ((rd_L2 L (i : Nat)).length : Int), ⟨by omega, by omega⟩, fun r hr => ?_⟩
      refine Ev.step (fun _ => rfl) ?_
      refine ev_pos (by omega) (ev_pos (by omega) (ev_bind (q_ev _ h1 _ (by omega)) ?_))
      rw [wrap_succ hi (by omega)]
      exact hr)
    L.length 0 m (by omega) ⟨by omega, by omega⟩
  exact this
end Go.Proofs.Ytadehdkmggpehaa.PFnExactTrace
namespace Go.Proofs.Ytadehdkmggpehaa.Pure
open Go Go.RowKit Go.Proofs.Ytadehdkmggpehaa.PFnExactTrace Go.Proofs.YtadehdkmggpehaaW.PrintWords Go.Proofs.YtadehdkmggpehaaW.PrintLast Go.Proofs.Ytadehdkmggpehaa.MapWords Go.Proofs.Ytadehdkmggpehaa.IterWords Go.Proofs.Ytadehdkmggpehaa.EvWords
theorem FnExactTrace : laws_FnExactTrace.Pure := by
  intro l0 a1 l2 a3 h0 h1 h2 h3
  apply Ev.rounds
  unfold laws_FnExactTrace.f
  by_cases hl : (l0.length : Int) > 1048576
  · exact ev_pos hl (ev_some _)
  · refine ev_neg hl ?_
    obtain ⟨t, e1, _, e3⟩ := zz_IntSS l2 1048576 (by omega) (by omega) h2
    refine ev_bind e1 ?_
    by_cases ht : t < 0
    · exact ev_pos ht (ev_some _)
    · have hs := e3 (by omega)
      have hL : l0.length ≤ 1048576 := by omega
      have ti := tt_IntS l0 hL
      have tr := tt_IntSS l2 hs
      have sp : Ev (fun k => spec_Trace.f k l0 a1 l2 a3) (trc l0 a1 l2 a3) := specTrace hL hs.1 a1 a3
      have im : Ev (fun k => impl_Trace.f k l0 a1 l2 a3) (trc l0 a1 l2 a3) := implTrace hL hs.1 a1 a3
      have hln := trc_len l0 a1 l2 a3
      generalize trc l0 a1 l2 a3 = R at sp im hln
      obtain ⟨r, b⟩ := R
      have hln : r.length ≤ 3 := hln
      have er : Ev (fun k => laws_eqIntS.f k r r) true := ee_IntS r (by omega)
      have el : Ev (fun k => laws_eqIntS.f k l0 l0) true := ee_IntS l0 (by omega)
      have eH : Ev (fun k => laws_eqIntSS.f k l2 l2) true := ee_IntSS l2 ⟨by omega, fun y hy => by have := hs.2 y hy; omega⟩
      obtain ⟨L', m1, _, _⟩ := mark_int l0 (by omega) 1 (by omega)
      obtain ⟨q, m2, hq⟩ := mark_rows l2 hs.1 (fun i hi => hs.2 _ (mem_rd hi)) (1 + l0.length) (by omega)
      obtain ⟨R', m3, m4, m5⟩ := mark_int r (by omega) 1 (by omega)
      have hh : Ev (fun k => laws_heldIntS.f k R' 1) (1 + r.length) := by
        have := held_int R' (by omega) 1 (by omega) (fun j hj => m5 j (by omega))
        rw [m4] at this
        exact this
      have j2 : ∀ c : Bool, c = false → Ev (fun k => laws_FnExactTrace.j2 k R' (1 + r.length) c) true := by
        intro c hc
        refine Ev.step (fun _ => rfl) ?_
        exact ev_neg (by simp [hc]) (ev_bind hh (ev_neg (by omega) (ev_pos rfl (ev_some _))))
      have j1 : ∀ c : Bool, c = false → Ev (fun k => laws_FnExactTrace.j1 k l0 a1 l2 a3 r b r c) true := by
        intro c hc
        refine Ev.step (fun _ => rfl) ?_
        exact ev_neg (by simp [hc]) (ev_bind m3 (ev_bind hh (ev_neg (by omega) (ev_pos rfl (ev_bind ti (ev_bind tr (ev_bind im (ev_bind er (ev_pos rfl (j2 _ (by simp)))))))))))
      have j0 : ∀ c : Bool, c = false → Ev (fun k => laws_FnExactTrace.j0 k l0 a1 l2 a3 r b l0 l2 r b c) true := by
        intro c hc
        refine Ev.step (fun _ => rfl) ?_
        exact ev_neg (by simp [hc]) (ev_bind ti (ev_bind el (ev_pos rfl (ev_bind tr (ev_bind eH (ev_pos rfl (ev_bind m1 (ev_bind m2 (ev_neg (by omega) (ev_bind er (ev_pos rfl (j1 _ (by simp)))))))))))))
      exact ev_neg ht (ev_bind ti (ev_bind tr (ev_bind sp (ev_bind ti (ev_bind tr (ev_bind im (ev_bind er (ev_pos rfl (j0 _ (by simp))))))))))
end Go.Proofs.Ytadehdkmggpehaa.Pure
