import Derived.Test.YtjnmfadnkbflfaaPEvWords
import Derived.Test.YtjnmfadnkbflfaaPPFnExactParseFlowx
set_option linter.unusedVariables false
set_option linter.unusedSimpArgs false
namespace Go.Proofs.Ytjnmfadnkbflfaa.PFnExactParseFlow
open Go Go.RowKit Go.Proofs.YtjnmfadnkbflfaaW.PrintWords Go.Proofs.YtjnmfadnkbflfaaW.PrintLast Go.Proofs.Ytjnmfadnkbflfaa.MapWords Go.Proofs.Ytjnmfadnkbflfaa.EvWords
open Classical
theorem mark_loop : ∀ (n : Nat) (s : ByteArray), n + s.size ≤ 4611686018427387904 → ∃ t, Ev (fun k => laws_markText.l0 k (n : Int) s) t := by
  intro n
  induction n using Nat.strongRecOn with
  | _ n ih =>
    intro s hs
    by_cases h : n = 0
    · subst h
      refine ⟨(⟨#[109]⟩ : ByteArray) ++ s, ?_⟩
      refine Ev.step (fun _ => rfl) ?_
      exact ev_neg (by omega) (ev_pos (by omega) (ev_some _))
    · have e1 : wrap64 (Int.tdiv (n : Int) 10) = ((n / 10 : Nat) : Int) := by
        rw [Int.tdiv_eq_ediv_of_nonneg (by omega)]
        exact (wrap_id (by omega) (by omega)).trans (by omega)
      have hz : (strOfNums [wrap64 (48 + Int.tmod (n : Int) 10) % 256]).size = 1 := by simp [strOfNums, ByteArray.size]
      obtain ⟨t, ht⟩ := ih (n / 10) (by omega) (strOfNums [wrap64 (48 + Int.tmod (n : Int) 10) % 256] ++ s) (by rw [ByteArray.size_append, hz]; omega)
      refine ⟨t, ?_⟩
      refine Ev.step (fun _ => rfl) ?_
      refine ev_pos (by omega) (ev_bind0 rfl (ev_pos (by rw [hz]; omega) ?_))
      rw [e1]
      exact ht
theorem mark_some {a : Int} (h : a ≤ 4611686018427387904) : ∃ t, Ev (fun k => laws_markText.f k a) t := by
  unfold laws_markText.f
  by_cases h0 : a ≤ 0
  · exact ⟨_, ev_pos h0 (ev_some _)⟩
  · obtain ⟨t, ht⟩ := mark_loop a.toNat ⟨#[]⟩ (by show a.toNat + 0 ≤ _; omega)
    refine ⟨t, ev_neg h0 ?_⟩
    rw [show ((a.toNat : Nat) : Int) = a by omega] at ht
    exact ht
noncomputable def mtx (a : Int) : ByteArray := if h : ∃ t, Ev (fun k => laws_markText.f k a) t then Classical.choose h else ByteArray.empty
theorem mtx_ev {a : Int} (h : a ≤ 4611686018427387904) : Ev (fun k => laws_markText.f k a) (mtx a) := by
  unfold mtx
  rw [dif_pos (mark_some h)]
  exact Classical.choose_spec (mark_some h)
end Go.Proofs.Ytjnmfadnkbflfaa.PFnExactParseFlow

set_option linter.unusedVariables false
set_option linter.unusedSimpArgs false
namespace Go.Proofs.Ytjnmfadnkbflfaa.PFnExactParseFlow
open Go Go.RowKit Go.Proofs.YtjnmfadnkbflfaaW.PrintWords Go.Proofs.YtjnmfadnkbflfaaW.PrintLast Go.Proofs.Ytjnmfadnkbflfaa.MapWords Go.Proofs.Ytjnmfadnkbflfaa.EvWords
def tx (l : List ByteArray) (j : Nat) : ByteArray := rdOf ByteArray.empty l (j : Int)
theorem tx_set {l : List ByteArray} {i j : Nat} (x : ByteArray) (hi : i < l.length) : tx (l.set i x) j = if i = j then x else tx l j := by
  simp only [tx, rdOf, Int.toNat_natCast, List.getD_eq_getElem?_getD, List.getElem?_set]
  by_cases h : i = j
  · subst h; simp [hi]
  · simp [h]
theorem mark_texts (l : List ByteArray) (hl : l.length ≤ 4611686018) (m : Int) (hm : 0 ≤ m ∧ m ≤ 4611686018) :
    ∃ l', Ev (fun k => laws_markStringS.f k l m) (m + l.length, l') ∧ l'.length = l.length ∧ ∀ j : Nat, j < l.length → tx l' j = mtx (m + j) := by
  have := ev_run (F := fun k (s : List ByteArray × Int) i => laws_markStringS.l0 k s.1 s.2 i) (n := l.length) (I := fun i s => s.1.length = l.length ∧ s.2 = m + i ∧ ∀ j : Nat, j < i → tx s.1 j = mtx (m + j))
    (Post := fun r : Int × List ByteArray => r.1 = m + l.length ∧ r.2.length = l.length ∧ ∀ j : Nat, j < l.length → tx r.2 j = mtx (m + j))
    (fun s h => by
      refine ⟨(s.2, s.1), ?_, h.2.1, h.1, h.2.2⟩
      refine Ev.step (fun _ => rfl) ?_
      exact ev_neg (by omega) (ev_some _))
    (fun i s hi h => by
      obtain ⟨h1, h2, h3⟩ := h
      have hw1 : wrap64 (s.2 + 1) = s.2 + 1 := wrap_id (by omega) (by omega)
      refine .inr ⟨((s.1.set i (mtx s.2)), s.2 + 1), ⟨by simpa using h1, by simp only; omega, fun j hj => ?_⟩, fun r hr => ?_⟩
      · rw [tx_set _ (by omega)]
        by_cases hji : i = j
        · subst hji; rw [if_pos rfl, h2]
        · rw [if_neg hji]; exact h3 j (by omega)
      · refine Ev.step (fun _ => rfl) ?_
        refine ev_pos (by omega) (ev_bind (mtx_ev (by omega)) (ev_pos (by omega) ?_))
        rw [hw1, wrap_succ hi (by omega)]
        exact hr)
    l.length 0 (l, m) (by omega) ⟨rfl, by simp, fun j hj => by omega⟩
  obtain ⟨r, h1, h2, h3, h4⟩ := this
  refine ⟨r.2, ?_, h3, h4⟩
  unfold laws_markStringS.f
  refine ev_eq h1 ?_
  rw [← h2]
theorem held_texts (l : List ByteArray) (hl : l.length ≤ 4611686018) (m : Int) (hm : 0 ≤ m ∧ m ≤ 4611686018) (h : ∀ j : Nat, j < l.length → tx l j = mtx (m + j)) : Ev (fun k => laws_heldStringS.f k l m) (m + l.length) := by
  unfold laws_heldStringS.f
  have := ev_pass (F := fun k x => laws_heldStringS.l0 k l (m + x) x) (n := l.length) (R := m + l.length)
    (by
      refine Ev.step (fun _ => rfl) ?_
      exact ev_neg (by omega) (ev_some _))
    (fun i r hi hr => by
      have hw1 : wrap64 (m + (i : Int) + 1) = m + ((i + 1 : Nat) : Int) := (wrap_id (by omega) (by omega)).trans (by omega)
      have e : rdOf ByteArray.empty l (i : Int) = mtx (m + i) := h i hi
      refine Ev.step (fun _ => rfl) ?_
      refine ev_pos (by omega) (ev_pos (by omega) (ev_bind (mtx_ev (by omega)) (ev_pos (by rw [e]) ?_)))
      rw [hw1, wrap_succ hi (by omega)]
      exact hr)
  simpa using this
end Go.Proofs.Ytjnmfadnkbflfaa.PFnExactParseFlow
