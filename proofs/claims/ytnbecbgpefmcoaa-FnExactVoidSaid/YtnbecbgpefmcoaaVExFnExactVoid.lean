import Derived.Test.YtnbecbgpefmcoaaVEvWords
import Derived.Test.YtnbecbgpefmcoaaVPFnExactVoidx
set_option linter.unusedVariables false
set_option linter.unusedSimpArgs false
namespace Go.Proofs.Ytnbecbgpefmcoaa.PFnExactVoid
open Go Go.RowKit Go.Proofs.YtnbecbgpefmcoaaW.PrintWords Go.Proofs.YtnbecbgpefmcoaaW.PrintLast Go.Proofs.Ytnbecbgpefmcoaa.MapWords Go.Proofs.Ytnbecbgpefmcoaa.EvWords
def cv_Series (x : S303) : S304 := ⟨x.f0, x.f1⟩
def sm_Series (x : S303) : Prop := (x.f0.size ≤ 1048576)
theorem zz_Series (x : S303) (left : Int) (h0 : 0 ≤ left) (h1 : left ≤ 1048576) (hw : wf303 x) : Z (fun k => laws_szSeries.f x.f0 x.f1 left) left (sm_Series x) := by
  unfold laws_szSeries.f
  unfold wf303 at hw
  refine z_mono (z_len _ hw.1 (by omega) (by omega) (fun e0 g0 => by rw [e0]; exact z_end)) ?_
  rintro ⟨h0, _⟩
  exact h0
theorem tt_Series (x : S303) (hs : sm_Series x) : Ev (fun k => laws_toSeries.f x.f0 x.f1) ((cv_Series x).f0, (cv_Series x).f1) := by
  unfold laws_toSeries.f
  unfold sm_Series at hs
  exact ev_some _
def lk_Series (x : S304) : Prop := True
theorem ee_Series (x : S304) (h : lk_Series x) : Ev (fun k => laws_eqSeries.f x.f0 x.f1 x.f0 x.f1) true := by
  unfold laws_eqSeries.f
  skip
  refine ev_pos rfl ?_
  refine ev_pos rfl ?_
  exact ev_some _
theorem zz_SeriesS (l : List S303) (left : Int) (h0 : 0 ≤ left) (h1 : left ≤ 1048576) (hw : l.length ≤ maxLen ∧ ∀ y ∈ l, wf303 y) : Z (fun k => laws_szSeriesS.f k l left) left (l.length ≤ 1048576 ∧ ∀ y ∈ l, sm_Series y) := by
  unfold laws_szSeriesS.f
  refine z_mono (z_len _ hw.1 h0 h1 (fun e g => by
    rw [e]
    refine z_loop (F := fun k s x => laws_szSeriesS.l0 k l s x) (n := l.length) (P := fun i => sm_Series (l.getD i z303)) _ g (by omega) (fun s => ?_) (fun i s hi hs0 hs1 => ?_)
    · refine Ev.step (fun _ => rfl) ?_
      exact ev_neg (by omega) (ev_some _)
    · skip
      obtain ⟨t, g1, g2, g3⟩ := zz_Series (rd_T303 l i) s hs0 hs1 (hw.2 _ (mem_rd hi))
      refine ⟨t, g2, g3, fun ht => ?_, fun ht r hr => ?_⟩
      · refine Ev.step (fun _ => rfl) ?_
        exact ev_pos (by omega) (ev_pos (by omega) (ev_bind g1 (ev_pos ht (ev_some _))))
      · refine Ev.step (fun _ => rfl) ?_
        refine ev_pos (by omega) (ev_pos (by omega) (ev_bind g1 (ev_neg (by omega) ?_)))
        rw [wrap_succ hi (by simp only [maxLen] at hw; omega)]
        exact hr
)) ?_
  rintro ⟨h, hg⟩
  exact ⟨h, of_mem_rd hg⟩
theorem tt_SeriesS (l : List S303) (hs : l.length ≤ 1048576 ∧ ∀ y ∈ l, sm_Series y) : Ev (fun k => laws_toSeriesS.f k l) (l.map cv_Series) := by
  unfold laws_toSeriesS.f
  refine ev_pos (by omega) (ev_pos (by omega) ?_)
  refine ev_eq (ev_map (F := fun k ys x => laws_toSeriesS.l0 k l ys x) (xs := l) (f := cv_Series) (z := z303) (fun ys hy => ?_) (fun i ys r hi hy hr => ?_) _ (by simp)) ?_
  · refine Ev.step (fun _ => rfl) ?_
    exact ev_neg (by omega) (ev_some _)
  · skip
    refine Ev.step (fun _ => rfl) ?_
    refine ev_pos (by omega) (ev_pos (by omega) (ev_bind (tt_Series _ (hs.2 _ (mem_rd hi))) (ev_pos (by omega) ?_)))
    rw [wrap_succ hi (by have := hs.1; omega)]
    exact hr
  · rfl
theorem ee_SeriesS (l : List S304) (h : l.length ≤ 4611686018427387904 ∧ ∀ y ∈ l, lk_Series y) : Ev (fun k => laws_eqSeriesS.f k l l) true := by
  unfold laws_eqSeriesS.f
  refine ev_pos rfl ?_
  refine ev_pass (F := fun k x => laws_eqSeriesS.l0 k l l x) (n := l.length) ?_ (fun i r hi hr => ?_)
  · refine Ev.step (fun _ => rfl) ?_
    exact ev_neg (by omega) (ev_some _)
  · refine Ev.step (fun _ => rfl) ?_
    refine ev_pos (by omega) (ev_pos (by omega) (ev_pos (by omega) (ev_bind (ee_Series _ (h.2 _ (mem_rd hi))) (ev_pos rfl ?_))))
    rw [wrap_succ hi (by have := h.1; omega)]
    exact hr
def cv_Paper (x : S307) : S230 := ⟨x.f0, x.f1, x.f2, x.f3⟩
def sm_Paper (x : S307) : Prop := True
theorem tt_Paper (x : S307) (hs : sm_Paper x) : Ev (fun k => laws_toPaper.f x.f0 x.f1 x.f2 x.f3) ((cv_Paper x).f0, (cv_Paper x).f1, (cv_Paper x).f2, (cv_Paper x).f3) := by
  unfold laws_toPaper.f
  exact ev_some _
def lk_Paper (x : S230) : Prop := True
theorem ee_Paper (x : S230) (h : lk_Paper x) : Ev (fun k => laws_eqPaper.f x.f0 x.f1 x.f2 x.f3 x.f0 x.f1 x.f2 x.f3) true := by
  unfold laws_eqPaper.f
  skip
  refine ev_pos rfl ?_
  refine ev_pos rfl ?_
  refine ev_pos rfl ?_
  refine ev_neg (by simp) ?_
  exact ev_some _
theorem zz_PaperS (l : List S307) (left : Int) (h0 : 0 ≤ left) (h1 : left ≤ 1048576) (hw : l.length ≤ maxLen ∧ ∀ y ∈ l, wf307 y) : Z (fun k => laws_szPaperS.f l left) left (l.length ≤ 1048576 ∧ ∀ y ∈ l, sm_Paper y) := by
  unfold laws_szPaperS.f
  refine z_mono (z_len _ hw.1 h0 h1 (fun e g => by rw [e]; exact z_end)) ?_
  rintro ⟨h, _⟩
  exact ⟨h, fun y _ => trivial⟩
theorem tt_PaperS (l : List S307) (hs : l.length ≤ 1048576 ∧ ∀ y ∈ l, sm_Paper y) : Ev (fun k => laws_toPaperS.f k l) (l.map cv_Paper) := by
  unfold laws_toPaperS.f
  refine ev_pos (by omega) (ev_pos (by omega) ?_)
  refine ev_eq (ev_map (F := fun k ys x => laws_toPaperS.l0 k l ys x) (xs := l) (f := cv_Paper) (z := z307) (fun ys hy => ?_) (fun i ys r hi hy hr => ?_) _ (by simp)) ?_
  · refine Ev.step (fun _ => rfl) ?_
    exact ev_neg (by omega) (ev_some _)
  · skip
    refine Ev.step (fun _ => rfl) ?_
    refine ev_pos (by omega) (ev_pos (by omega) (ev_bind (tt_Paper _ (hs.2 _ (mem_rd hi))) (ev_pos (by omega) ?_)))
    rw [wrap_succ hi (by have := hs.1; omega)]
    exact hr
  · rfl
theorem ee_PaperS (l : List S230) (h : l.length ≤ 4611686018427387904 ∧ ∀ y ∈ l, lk_Paper y) : Ev (fun k => laws_eqPaperS.f k l l) true := by
  unfold laws_eqPaperS.f
  refine ev_pos rfl ?_
  refine ev_pass (F := fun k x => laws_eqPaperS.l0 k l l x) (n := l.length) ?_ (fun i r hi hr => ?_)
  · refine Ev.step (fun _ => rfl) ?_
    exact ev_neg (by omega) (ev_some _)
  · refine Ev.step (fun _ => rfl) ?_
    refine ev_pos (by omega) (ev_pos (by omega) (ev_pos (by omega) (ev_bind (ee_Paper _ (h.2 _ (mem_rd hi))) (ev_pos rfl ?_))))
    rw [wrap_succ hi (by have := h.1; omega)]
    exact hr
structure S86 where
  f0 : List S304
  f1 : List S230
def cv_Register (x : S81) : S86 := ⟨(x.f0.map cv_Series), (x.f1.map cv_Paper)⟩
def sm_Register (x : S81) : Prop := (x.f0.length ≤ 1048576 ∧ ∀ y ∈ x.f0, sm_Series y) ∧ (x.f1.length ≤ 1048576 ∧ ∀ y ∈ x.f1, sm_Paper y)
theorem zz_Register (x : S81) (left : Int) (h0 : 0 ≤ left) (h1 : left ≤ 1048576) (hw : wf81 x) : Z (fun k => laws_szRegister.f k x.f0 x.f1 left) left (sm_Register x) := by
  unfold laws_szRegister.f
  unfold wf81 at hw
  refine z_mono (z_call (by omega) (zz_SeriesS _ _ (by omega) (by omega) hw.1) (fun t0 g0 k0 => (z_call (by omega) (zz_PaperS _ _ (by omega) (by omega) hw.2) (fun t1 g1 k1 => z_end)))) ?_
  rintro ⟨h0, h1, _⟩
  exact ⟨h0, h1⟩
theorem tt_Register (x : S81) (hs : sm_Register x) : Ev (fun k => laws_toRegister.f k x.f0 x.f1) ((cv_Register x).f0, (cv_Register x).f1) := by
  unfold laws_toRegister.f
  unfold sm_Register at hs
  refine ev_bind (tt_SeriesS _ hs.1) ?_
  refine ev_bind (tt_PaperS _ hs.2) ?_
  exact ev_some _
def lk_Register (x : S86) : Prop := (x.f0.length ≤ 4611686018427387904 ∧ ∀ y ∈ x.f0, lk_Series y) ∧ (x.f1.length ≤ 4611686018427387904 ∧ ∀ y ∈ x.f1, lk_Paper y)
theorem ee_Register (x : S86) (h : lk_Register x) : Ev (fun k => laws_eqRegister.f k x.f0 x.f1 x.f0 x.f1) true := by
  unfold laws_eqRegister.f
  unfold lk_Register at h
  obtain ⟨h0, h1⟩ := h
  refine ev_bind (ee_SeriesS _ h0) (ev_pos rfl ?_)
  refine ev_bind (ee_PaperS _ h1) (ev_pos rfl ?_)
  exact ev_some _
end Go.Proofs.Ytnbecbgpefmcoaa.PFnExactVoid
