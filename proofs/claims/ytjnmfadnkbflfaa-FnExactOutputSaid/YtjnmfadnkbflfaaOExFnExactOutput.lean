import Derived.Test.YtjnmfadnkbflfaaOEvWords
import Derived.Test.YtjnmfadnkbflfaaOPFnExactOutputx
set_option linter.unusedVariables false
set_option linter.unusedSimpArgs false
namespace Go.Proofs.Ytjnmfadnkbflfaa.PFnExactOutput
open Go Go.RowKit Go.Proofs.YtjnmfadnkbflfaaW.PrintWords Go.Proofs.YtjnmfadnkbflfaaW.PrintLast Go.Proofs.Ytjnmfadnkbflfaa.MapWords Go.Proofs.Ytjnmfadnkbflfaa.EvWords
def cv_Part (x : S246) : S149 := ⟨x.f0, x.f1, x.f2, x.f3, x.f4, x.f5⟩
def sm_Part (x : S246) : Prop := True
theorem tt_Part (x : S246) (hs : sm_Part x) : Ev (fun k => laws_toPart.f x.f0 x.f1 x.f2 x.f3 x.f4 x.f5) ((cv_Part x).f0, (cv_Part x).f1, (cv_Part x).f2, (cv_Part x).f3, (cv_Part x).f4, (cv_Part x).f5) := by
  unfold laws_toPart.f
  exact ev_some _
def lk_Part (x : S149) : Prop := True
theorem ee_Part (x : S149) (h : lk_Part x) : Ev (fun k => laws_eqPart.f x.f0 x.f1 x.f2 x.f3 x.f4 x.f5 x.f0 x.f1 x.f2 x.f3 x.f4 x.f5) true := by
  unfold laws_eqPart.f
  skip
  refine ev_pos rfl ?_
  refine ev_pos rfl ?_
  refine ev_pos rfl ?_
  refine ev_pos rfl ?_
  refine ev_pos rfl ?_
  refine ev_pos rfl ?_
  exact ev_some _
theorem zz_PartS (l : List S246) (left : Int) (h0 : 0 ≤ left) (h1 : left ≤ 1048576) (hw : l.length ≤ maxLen ∧ ∀ y ∈ l, wf246 y) : Z (fun k => laws_szPartS.f l left) left (l.length ≤ 1048576 ∧ ∀ y ∈ l, sm_Part y) := by
  unfold laws_szPartS.f
  refine z_mono (z_len _ hw.1 h0 h1 (fun e g => by rw [e]; exact z_end)) ?_
  rintro ⟨h, _⟩
  exact ⟨h, fun y _ => trivial⟩
theorem tt_PartS (l : List S246) (hs : l.length ≤ 1048576 ∧ ∀ y ∈ l, sm_Part y) : Ev (fun k => laws_toPartS.f k l) (l.map cv_Part) := by
  unfold laws_toPartS.f
  refine ev_pos (by omega) (ev_pos (by omega) ?_)
  refine ev_eq (ev_map (F := fun k ys x => laws_toPartS.l0 k l ys x) (xs := l) (f := cv_Part) (z := z246) (fun ys hy => ?_) (fun i ys r hi hy hr => ?_) _ (by simp)) ?_
  · refine Ev.step (fun _ => rfl) ?_
    exact ev_neg (by omega) (ev_some _)
  · skip
    refine Ev.step (fun _ => rfl) ?_
    refine ev_pos (by omega) (ev_pos (by omega) (ev_bind (tt_Part _ (hs.2 _ (mem_rd hi))) (ev_pos (by omega) ?_)))
    rw [wrap_succ hi (by have := hs.1; omega)]
    exact hr
  · rfl
theorem ee_PartS (l : List S149) (h : l.length ≤ 4611686018427387904 ∧ ∀ y ∈ l, lk_Part y) : Ev (fun k => laws_eqPartS.f k l l) true := by
  unfold laws_eqPartS.f
  refine ev_pos rfl ?_
  refine ev_pass (F := fun k x => laws_eqPartS.l0 k l l x) (n := l.length) ?_ (fun i r hi hr => ?_)
  · refine Ev.step (fun _ => rfl) ?_
    exact ev_neg (by omega) (ev_some _)
  · refine Ev.step (fun _ => rfl) ?_
    refine ev_pos (by omega) (ev_pos (by omega) (ev_pos (by omega) (ev_bind (ee_Part _ (h.2 _ (mem_rd hi))) (ev_pos rfl ?_))))
    rw [wrap_succ hi (by have := h.1; omega)]
    exact hr
def cv_Item (x : S126) : S130 := ⟨x.f0, x.f1, x.f2, (x.f3.map cv_Part), (x.f4.map cv_Part)⟩
def sm_Item (x : S126) : Prop := (x.f0.size ≤ 1048576) ∧ (x.f3.length ≤ 1048576 ∧ ∀ y ∈ x.f3, sm_Part y) ∧ (x.f4.length ≤ 1048576 ∧ ∀ y ∈ x.f4, sm_Part y)
theorem zz_Item (x : S126) (left : Int) (h0 : 0 ≤ left) (h1 : left ≤ 1048576) (hw : wf126 x) : Z (fun k => laws_szItem.f x.f0 x.f1 x.f2 x.f3 x.f4 left) left (sm_Item x) := by
  unfold laws_szItem.f
  unfold wf126 at hw
  refine z_mono (z_len _ hw.1 (by omega) (by omega) (fun e0 g0 => by rw [e0]; exact (z_call (by omega) (zz_PartS _ _ (by omega) (by omega) hw.2.2.2.1) (fun t3 g3 k3 => (z_call (by omega) (zz_PartS _ _ (by omega) (by omega) hw.2.2.2.2) (fun t4 g4 k4 => z_end)))))) ?_
  rintro ⟨h0, h3, h4, _⟩
  exact ⟨h0, h3, h4⟩
theorem tt_Item (x : S126) (hs : sm_Item x) : Ev (fun k => laws_toItem.f k x.f0 x.f1 x.f2 x.f3 x.f4) ((cv_Item x).f0, (cv_Item x).f1, (cv_Item x).f2, (cv_Item x).f3, (cv_Item x).f4) := by
  unfold laws_toItem.f
  unfold sm_Item at hs
  refine ev_bind (tt_PartS _ hs.2.1) ?_
  refine ev_bind (tt_PartS _ hs.2.2) ?_
  exact ev_some _
def lk_Item (x : S130) : Prop := (x.f3.length ≤ 4611686018427387904 ∧ ∀ y ∈ x.f3, lk_Part y) ∧ (x.f4.length ≤ 4611686018427387904 ∧ ∀ y ∈ x.f4, lk_Part y)
theorem ee_Item (x : S130) (h : lk_Item x) : Ev (fun k => laws_eqItem.f k x.f0 x.f1 x.f2 x.f3 x.f4 x.f0 x.f1 x.f2 x.f3 x.f4) true := by
  unfold laws_eqItem.f
  unfold lk_Item at h
  obtain ⟨h3, h4⟩ := h
  refine ev_pos rfl ?_
  refine ev_pos rfl ?_
  refine ev_neg (by simp) ?_
  refine ev_bind (ee_PartS _ h3) (ev_pos rfl ?_)
  refine ev_bind (ee_PartS _ h4) (ev_pos rfl ?_)
  exact ev_some _
theorem zz_ItemS (l : List S126) (left : Int) (h0 : 0 ≤ left) (h1 : left ≤ 1048576) (hw : l.length ≤ maxLen ∧ ∀ y ∈ l, wf126 y) : Z (fun k => laws_szItemS.f k l left) left (l.length ≤ 1048576 ∧ ∀ y ∈ l, sm_Item y) := by
  unfold laws_szItemS.f
  refine z_mono (z_len _ hw.1 h0 h1 (fun e g => by
    rw [e]
    refine z_loop (F := fun k s x => laws_szItemS.l0 k l s x) (n := l.length) (P := fun i => sm_Item (l.getD i z126)) _ g (by omega) (fun s => ?_) (fun i s hi hs0 hs1 => ?_)
    · refine Ev.step (fun _ => rfl) ?_
      exact ev_neg (by omega) (ev_some _)
    · skip
      obtain ⟨t, g1, g2, g3⟩ := zz_Item (rd_T126 l i) s hs0 hs1 (hw.2 _ (mem_rd hi))
      refine ⟨t, g2, g3, fun ht => ?_, fun ht r hr => ?_⟩
      · refine Ev.step (fun _ => rfl) ?_
        exact ev_pos (by omega) (ev_pos (by omega) (ev_bind g1 (ev_pos ht (ev_some _))))
      · refine Ev.step (fun _ => rfl) ?_
        refine ev_pos (by omega) (ev_pos (by omega) (ev_bind g1 (ev_neg (by omega) ?_)))
        rw [wrap_succ hi (by simp only [maxLen] at hw; omega)]
        exact hr
)) ?_
  rintro ⟨h, hg⟩
  exact ⟨h, of_mem_rd hg⟩
theorem tt_ItemS (l : List S126) (hs : l.length ≤ 1048576 ∧ ∀ y ∈ l, sm_Item y) : Ev (fun k => laws_toItemS.f k l) (l.map cv_Item) := by
  unfold laws_toItemS.f
  refine ev_pos (by omega) (ev_pos (by omega) ?_)
  refine ev_eq (ev_map (F := fun k ys x => laws_toItemS.l0 k l ys x) (xs := l) (f := cv_Item) (z := z126) (fun ys hy => ?_) (fun i ys r hi hy hr => ?_) _ (by simp)) ?_
  · refine Ev.step (fun _ => rfl) ?_
    exact ev_neg (by omega) (ev_some _)
  · skip
    refine Ev.step (fun _ => rfl) ?_
    refine ev_pos (by omega) (ev_pos (by omega) (ev_bind (tt_Item _ (hs.2 _ (mem_rd hi))) (ev_pos (by omega) ?_)))
    rw [wrap_succ hi (by have := hs.1; omega)]
    exact hr
  · rfl
theorem ee_ItemS (l : List S130) (h : l.length ≤ 4611686018427387904 ∧ ∀ y ∈ l, lk_Item y) : Ev (fun k => laws_eqItemS.f k l l) true := by
  unfold laws_eqItemS.f
  refine ev_pos rfl ?_
  refine ev_pass (F := fun k x => laws_eqItemS.l0 k l l x) (n := l.length) ?_ (fun i r hi hr => ?_)
  · refine Ev.step (fun _ => rfl) ?_
    exact ev_neg (by omega) (ev_some _)
  · refine Ev.step (fun _ => rfl) ?_
    refine ev_pos (by omega) (ev_pos (by omega) (ev_pos (by omega) (ev_bind (ee_Item _ (h.2 _ (mem_rd hi))) (ev_pos rfl ?_))))
    rw [wrap_succ hi (by have := h.1; omega)]
    exact hr
theorem ee_IntS (l : List Int) (h : l.length ≤ 4611686018427387904) : Ev (fun k => laws_eqIntS.f k l l) true := by
  unfold laws_eqIntS.f
  refine ev_pos rfl ?_
  refine ev_pass (F := fun k x => laws_eqIntS.l0 k l l x) (n := l.length) ?_ (fun i r hi hr => ?_)
  · refine Ev.step (fun _ => rfl) ?_
    exact ev_neg (by omega) (ev_some _)
  · refine Ev.step (fun _ => rfl) ?_
    refine ev_pos (by omega) (ev_pos (by omega) (ev_pos (by omega) (ev_pos rfl ?_)))
    rw [wrap_succ hi (by have := h; omega)]
    exact hr
end Go.Proofs.Ytjnmfadnkbflfaa.PFnExactOutput
