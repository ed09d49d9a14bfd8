import Derived.Test.YtadehdkmggpehaaTEvWords
import Derived.Test.YtadehdkmggpehaaTPFnExactTracex
set_option linter.unusedVariables false
set_option linter.unusedSimpArgs false
namespace Go.Proofs.Ytadehdkmggpehaa.PFnExactTrace
open Go Go.RowKit Go.Proofs.YtadehdkmggpehaaW.PrintWords Go.Proofs.YtadehdkmggpehaaW.PrintLast Go.Proofs.Ytadehdkmggpehaa.MapWords Go.Proofs.Ytadehdkmggpehaa.EvWords
theorem zz_IntS (l : List Int) (left : Int) (h0 : 0 ≤ left) (h1 : left ≤ 1048576) (hw : l.length ≤ maxLen ∧ ∀ y ∈ l, (Lit.int .i64 y).wf = true) : Z (fun k => laws_szIntS.f l left) left (l.length ≤ 1048576) := by
  unfold laws_szIntS.f
  refine z_mono (z_len _ hw.1 h0 h1 (fun e g => by rw [e]; exact z_end)) ?_
  rintro ⟨h, _⟩
  exact h
theorem tt_IntS (l : List Int) (hs : l.length ≤ 1048576) : Ev (fun k => laws_toIntS.f k l) l := by
  unfold laws_toIntS.f
  refine ev_pos (by omega) (ev_pos (by omega) ?_)
  refine ev_eq (ev_map (F := fun k ys x => laws_toIntS.l0 k l ys x) (xs := l) (f := (fun x => x)) (z := 0) (fun ys hy => ?_) (fun i ys r hi hy hr => ?_) _ (by simp)) ?_
  · refine Ev.step (fun _ => rfl) ?_
    exact ev_neg (by omega) (ev_some _)
  · skip
    refine Ev.step (fun _ => rfl) ?_
    refine ev_pos (by omega) (ev_pos (by omega) (ev_pos (by omega) ?_))
    rw [wrap_succ hi (by have := hs; omega)]
    exact hr
  · simp
theorem ee_IntS (l : List Int) (h : l.length ≤ 4611686018427387904) : Ev (fun k => laws_eqIntS.f k l l) true := by
  unfold laws_eqIntS.f
  refine ev_pos rfl ?_
  refine ev_pass (F := fun k x => laws_eqIntS.l0 k l l x) (n := l.length) ?_ (fun i r hi hr => ?_)
  · refine Ev.step (fun _ => rfl) ?_
    exact ev_neg (by omega) (ev_some _)
  · refine Ev.step (fun _ => rfl) ?_
    refine ev_pos (by omega) (ev_pos (by omega) (ev_pos (by omega) (ev_pos rfl ?_)))
    rw [wrap_succ hi (by have := h; omega)]
    exact hr
theorem zz_IntSS (l : List (List Int)) (left : Int) (h0 : 0 ≤ left) (h1 : left ≤ 1048576) (hw : l.length ≤ maxLen ∧ ∀ y ∈ l, y.length ≤ maxLen ∧ ∀ y' ∈ y, (Lit.int .i64 y').wf = true) : Z (fun k => laws_szIntSS.f k l left) left (l.length ≤ 1048576 ∧ ∀ y ∈ l, y.length ≤ 1048576) := by
  unfold laws_szIntSS.f
  refine z_mono (z_len _ hw.1 h0 h1 (fun e g => by
    rw [e]
    refine z_loop (F := fun k s x => laws_szIntSS.l0 k l s x) (n := l.length) (P := fun i => (l.getD i []).length ≤ 1048576) _ g (by omega) (fun s => ?_) (fun i s hi hs0 hs1 => ?_)
    · refine Ev.step (fun _ => rfl) ?_
      exact ev_neg (by omega) (ev_some _)
    · skip
      obtain ⟨t, g1, g2, g3⟩ := zz_IntS (l.getD (i : Int).toNat []) s hs0 hs1 (hw.2 _ (mem_rd hi))
      refine ⟨t, g2, g3, fun ht => ?_, fun ht r hr => ?_⟩
      · refine Ev.step (fun _ => rfl) ?_
        exact ev_pos (by omega) (ev_pos (by omega) (ev_bind g1 (ev_pos ht (ev_some _))))
      · refine Ev.step (fun _ => rfl) ?_
        refine ev_pos (by omega) (ev_pos (by omega) (ev_bind g1 (ev_neg (by omega) ?_)))
        rw [wrap_succ hi (by simp only [maxLen] at hw; omega)]
        exact hr
)) ?_
  rintro ⟨h, hg⟩
  exact ⟨h, of_mem_rd hg⟩
theorem tt_IntSS (l : List (List Int)) (hs : l.length ≤ 1048576 ∧ ∀ y ∈ l, y.length ≤ 1048576) : Ev (fun k => laws_toIntSS.f k l) l := by
  unfold laws_toIntSS.f
  refine ev_pos (by omega) (ev_pos (by omega) ?_)
  refine ev_eq (ev_map (F := fun k ys x => laws_toIntSS.l0 k l ys x) (xs := l) (f := (fun x => x)) (z := []) (fun ys hy => ?_) (fun i ys r hi hy hr => ?_) _ (by simp)) ?_
  · refine Ev.step (fun _ => rfl) ?_
    exact ev_neg (by omega) (ev_some _)
  · skip
    refine Ev.step (fun _ => rfl) ?_
    refine ev_pos (by omega) (ev_pos (by omega) (ev_bind (tt_IntS _ (hs.2 _ (mem_rd hi))) (ev_pos (by omega) ?_)))
    rw [wrap_succ hi (by have := hs.1; omega)]
    exact hr
  · simp
theorem ee_IntSS (l : List (List Int)) (h : l.length ≤ 4611686018427387904 ∧ ∀ y ∈ l, y.length ≤ 4611686018427387904) : Ev (fun k => laws_eqIntSS.f k l l) true := by
  unfold laws_eqIntSS.f
  refine ev_pos rfl ?_
  refine ev_pass (F := fun k x => laws_eqIntSS.l0 k l l x) (n := l.length) ?_ (fun i r hi hr => ?_)
  · refine Ev.step (fun _ => rfl) ?_
    exact ev_neg (by omega) (ev_some _)
  · refine Ev.step (fun _ => rfl) ?_
    refine ev_pos (by omega) (ev_pos (by omega) (ev_pos (by omega) (ev_bind (ee_IntS _ (h.2 _ (mem_rd hi))) (ev_pos rfl ?_))))
    rw [wrap_succ hi (by have := h.1; omega)]
    exact hr
end Go.Proofs.Ytadehdkmggpehaa.PFnExactTrace
