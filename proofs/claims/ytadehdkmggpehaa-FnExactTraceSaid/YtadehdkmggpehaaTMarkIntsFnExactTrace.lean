import Derived.Test.YtadehdkmggpehaaTEvWords
import Derived.Test.YtadehdkmggpehaaTPFnExactTracex
set_option linter.unusedVariables false
set_option linter.unusedSimpArgs false
namespace Go.Proofs.Ytadehdkmggpehaa.PFnExactTrace
open Go Go.RowKit Go.Proofs.YtadehdkmggpehaaW.PrintWords Go.Proofs.YtadehdkmggpehaaW.PrintLast Go.Proofs.Ytadehdkmggpehaa.MapWords Go.Proofs.Ytadehdkmggpehaa.EvWords
theorem rd_setI {l : List Int} {i j : Nat} (x : Int) (hi : i < l.length) : rd (l.set i x) (j : Int) = if i = j then x else rd l (j : Int) := by
  simp only [rd, Int.toNat_natCast, List.getD_eq_getElem?_getD, List.getElem?_set]
  by_cases h : i = j
  · subst h; simp [hi]
  · simp [h]
theorem mark_int (l : List Int) (hl : l.length ≤ 4611686018) (m : Int) (hm : 0 ≤ m ∧ m ≤ 4611686018) :
    ∃ l', Ev (fun k => laws_markIntS.f k l m) (m + l.length, l') ∧ l'.length = l.length ∧ ∀ j : Nat, j < l.length → rd l' j = m + j := by
  have := ev_run (F := fun k (s : List Int × Int) i => laws_markIntS.l0 k s.1 s.2 i) (n := l.length) (I := fun i s => s.1.length = l.length ∧ s.2 = m + i ∧ ∀ j : Nat, j < i → rd s.1 j = m + j)
    (Post := fun r : Int × List Int => r.1 = m + l.length ∧ r.2.length = l.length ∧ ∀ j : Nat, j < l.length → rd r.2 j = m + j)
    (fun s h => by
      refine ⟨(s.2, s.1), ?_, h.2.1, h.1, h.2.2⟩
      refine Ev.step (fun _ => rfl) ?_
      exact ev_neg (by omega) (ev_some _))
    (fun i s hi h => by
      obtain ⟨h1, h2, h3⟩ := h
      have hw1 : wrap64 (s.2 + 1) = s.2 + 1 := wrap_id (by omega) (by omega)
      refine .inr ⟨((s.1.set i s.2), s.2 + 1), ⟨by simpa using h1, by simp only; omega, fun j hj => ?_⟩, fun r hr => ?_⟩
      · rw [rd_setI _ (by omega)]
        by_cases hji : i = j
        · subst hji; rw [if_pos rfl]; exact h2
        · rw [if_neg hji]; exact h3 j (by omega)
      · refine Ev.step (fun _ => rfl) ?_
        refine ev_pos (by omega) (ev_pos (by omega) ?_)
        rw [hw1, wrap_succ hi (by omega)]
        exact hr)
    l.length 0 (l, m) (by omega) ⟨rfl, by simp, fun j hj => by omega⟩
  obtain ⟨r, h1, h2, h3, h4⟩ := this
  refine ⟨r.2, ?_, h3, h4⟩
  unfold laws_markIntS.f
  refine ev_eq h1 ?_
  rw [← h2]
theorem held_int (l : List Int) (hl : l.length ≤ 4611686018) (m : Int) (hm : 0 ≤ m ∧ m ≤ 4611686018) (h : ∀ j : Nat, j < l.length → rd l j = m + j) : Ev (fun k => laws_heldIntS.f k l m) (m + l.length) := by
  unfold laws_heldIntS.f
  have := ev_pass (F := fun k x => laws_heldIntS.l0 k l (m + x) x) (n := l.length) (R := m + l.length)
    (by
      refine Ev.step (fun _ => rfl) ?_
      exact ev_neg (by omega) (ev_some _))
    (fun i r hi hr => by
      have hw1 : wrap64 (m + (i : Int) + 1) = m + ((i + 1 : Nat) : Int) := (wrap_id (by omega) (by omega)).trans (by omega)
      refine Ev.step (fun _ => rfl) ?_
      refine ev_pos (by omega) (ev_pos (by omega) (ev_pos (h i hi) ?_))
      rw [hw1, wrap_succ hi (by omega)]
      exact hr)
  simpa using this
end Go.Proofs.Ytadehdkmggpehaa.PFnExactTrace
