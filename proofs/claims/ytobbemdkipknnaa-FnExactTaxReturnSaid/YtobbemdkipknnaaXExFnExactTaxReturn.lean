import Derived.Test.YtobbemdkipknnaaXEvWords
import Derived.Test.YtobbemdkipknnaaXPFnExactTaxReturnx
set_option linter.unusedVariables false
set_option linter.unusedSimpArgs false
namespace Go.Proofs.Ytobbemdkipknnaa.PFnExactTaxReturn
open Go Go.RowKit Go.Proofs.YtobbemdkipknnaaW.PrintWords Go.Proofs.YtobbemdkipknnaaW.PrintLast Go.Proofs.Ytobbemdkipknnaa.MapWords Go.Proofs.Ytobbemdkipknnaa.EvWords
def cv_TaxPart (x : S148) : S85 := ⟨x.f0, x.f1, x.f2, x.f3⟩
def sm_TaxPart (x : S148) : Prop := (x.f0.size ≤ 1048576)
theorem zz_TaxPart (x : S148) (left : Int) (h0 : 0 ≤ left) (h1 : left ≤ 1048576) (hw : wf148 x) : Z (fun k => laws_szTaxPart.f x.f0 x.f1 x.f2 x.f3 left) left (sm_TaxPart x) := by
  unfold laws_szTaxPart.f
  unfold wf148 at hw
  refine z_mono (z_len _ hw.1 (by omega) (by omega) (fun e0 g0 => by rw [e0]; exact z_end)) ?_
  rintro ⟨h0, _⟩
  exact h0
theorem tt_TaxPart (x : S148) (hs : sm_TaxPart x) : Ev (fun k => laws_toTaxPart.f x.f0 x.f1 x.f2 x.f3) ((cv_TaxPart x).f0, (cv_TaxPart x).f1, (cv_TaxPart x).f2, (cv_TaxPart x).f3) := by
  unfold laws_toTaxPart.f
  unfold sm_TaxPart at hs
  exact ev_some _
def lk_TaxPart (x : S85) : Prop := True
theorem ee_TaxPart (x : S85) (h : lk_TaxPart x) : Ev (fun k => laws_eqTaxPart.f x.f0 x.f1 x.f2 x.f3 x.f0 x.f1 x.f2 x.f3) true := by
  unfold laws_eqTaxPart.f
  skip
  refine ev_pos rfl ?_
  refine ev_pos rfl ?_
  refine ev_pos rfl ?_
  refine ev_pos rfl ?_
  exact ev_some _
theorem zz_TaxPartS (l : List S148) (left : Int) (h0 : 0 ≤ left) (h1 : left ≤ 1048576) (hw : l.length ≤ maxLen ∧ ∀ y ∈ l, wf148 y) : Z (fun k => laws_szTaxPartS.f k l left) left (l.length ≤ 1048576 ∧ ∀ y ∈ l, sm_TaxPart y) := by
  unfold laws_szTaxPartS.f
  refine z_mono (z_len _ hw.1 h0 h1 (fun e g => by
    rw [e]
    refine z_loop (F := fun k s x => laws_szTaxPartS.l0 k l s x) (n := l.length) (P := fun i => sm_TaxPart (l.getD i z148)) _ g (by omega) (fun s => ?_) (fun i s hi hs0 hs1 => ?_)
    · refine Ev.step (fun _ => rfl) ?_
      exact ev_neg (by omega) (ev_some _)
    · skip
      obtain ⟨t, g1, g2, g3⟩ := zz_TaxPart (rd_T148 l i) s hs0 hs1 (hw.2 _ (mem_rd hi))
      refine ⟨t, g2, g3, fun ht => ?_, fun ht r hr => ?_⟩
      · refine Ev.step (fun _ => rfl) ?_
        exact ev_pos (by omega) (ev_pos (by omega) (ev_bind g1 (ev_pos ht (ev_some _))))
      · refine Ev.step (fun _ => rfl) ?_
        refine ev_pos (by omega) (ev_pos (by omega) (ev_bind g1 (ev_neg (by omega) ?_)))
        rw [wrap_succ hi (by simp only [maxLen] at hw; omega)]
        exact hr
)) ?_
  rintro ⟨h, hg⟩
  exact ⟨h, of_mem_rd hg⟩
theorem tt_TaxPartS (l : List S148) (hs : l.length ≤ 1048576 ∧ ∀ y ∈ l, sm_TaxPart y) : Ev (fun k => laws_toTaxPartS.f k l) (l.map cv_TaxPart) := by
  unfold laws_toTaxPartS.f
  refine ev_pos (by omega) (ev_pos (by omega) ?_)
  refine ev_eq (ev_map (F := fun k ys x => laws_toTaxPartS.l0 k l ys x) (xs := l) (f := cv_TaxPart) (z := z148) (fun ys hy => ?_) (fun i ys r hi hy hr => ?_) _ (by simp)) ?_
  · refine Ev.step (fun _ => rfl) ?_
    exact ev_neg (by omega) (ev_some _)
  · skip
    refine Ev.step (fun _ => rfl) ?_
    refine ev_pos (by omega) (ev_pos (by omega) (ev_bind (tt_TaxPart _ (hs.2 _ (mem_rd hi))) (ev_pos (by omega) ?_)))
    rw [wrap_succ hi (by have := hs.1; omega)]
    exact hr
  · rfl
theorem ee_TaxPartS (l : List S85) (h : l.length ≤ 4611686018427387904 ∧ ∀ y ∈ l, lk_TaxPart y) : Ev (fun k => laws_eqTaxPartS.f k l l) true := by
  unfold laws_eqTaxPartS.f
  refine ev_pos rfl ?_
  refine ev_pass (F := fun k x => laws_eqTaxPartS.l0 k l l x) (n := l.length) ?_ (fun i r hi hr => ?_)
  · refine Ev.step (fun _ => rfl) ?_
    exact ev_neg (by omega) (ev_some _)
  · refine Ev.step (fun _ => rfl) ?_
    refine ev_pos (by omega) (ev_pos (by omega) (ev_pos (by omega) (ev_bind (ee_TaxPart _ (h.2 _ (mem_rd hi))) (ev_pos rfl ?_))))
    rw [wrap_succ hi (by have := h.1; omega)]
    exact hr
def cv_Filed (x : S79) : S82 := ⟨x.f0, x.f1, (x.f2.map cv_TaxPart)⟩
def sm_Filed (x : S79) : Prop := (x.f2.length ≤ 1048576 ∧ ∀ y ∈ x.f2, sm_TaxPart y)
theorem zz_Filed (x : S79) (left : Int) (h0 : 0 ≤ left) (h1 : left ≤ 1048576) (hw : wf79 x) : Z (fun k => laws_szFiled.f k x.f0 x.f1 x.f2 left) left (sm_Filed x) := by
  unfold laws_szFiled.f
  unfold wf79 at hw
  refine z_mono (z_call (by omega) (zz_TaxPartS _ _ (by omega) (by omega) hw.2.2) (fun t2 g2 k2 => z_end)) ?_
  rintro ⟨h2, _⟩
  exact h2
theorem tt_Filed (x : S79) (hs : sm_Filed x) : Ev (fun k => laws_toFiled.f k x.f0 x.f1 x.f2) ((cv_Filed x).f0, (cv_Filed x).f1, (cv_Filed x).f2) := by
  unfold laws_toFiled.f
  unfold sm_Filed at hs
  refine ev_bind (tt_TaxPartS _ hs) ?_
  exact ev_some _
def lk_Filed (x : S82) : Prop := (x.f2.length ≤ 4611686018427387904 ∧ ∀ y ∈ x.f2, lk_TaxPart y)
theorem ee_Filed (x : S82) (h : lk_Filed x) : Ev (fun k => laws_eqFiled.f k x.f0 x.f1 x.f2 x.f0 x.f1 x.f2) true := by
  unfold laws_eqFiled.f
  have h2 := h
  refine ev_pos rfl ?_
  refine ev_neg (by simp) ?_
  refine ev_bind (ee_TaxPartS _ h2) (ev_pos rfl ?_)
  exact ev_some _
theorem zz_FiledS (l : List S79) (left : Int) (h0 : 0 ≤ left) (h1 : left ≤ 1048576) (hw : l.length ≤ maxLen ∧ ∀ y ∈ l, wf79 y) : Z (fun k => laws_szFiledS.f k l left) left (l.length ≤ 1048576 ∧ ∀ y ∈ l, sm_Filed y) := by
  unfold laws_szFiledS.f
  refine z_mono (z_len _ hw.1 h0 h1 (fun e g => by
    rw [e]
    refine z_loop (F := fun k s x => laws_szFiledS.l0 k l s x) (n := l.length) (P := fun i => sm_Filed (l.getD i z79)) _ g (by omega) (fun s => ?_) (fun i s hi hs0 hs1 => ?_)
    · refine Ev.step (fun _ => rfl) ?_
      exact ev_neg (by omega) (ev_some _)
    · skip
      obtain ⟨t, g1, g2, g3⟩ := zz_Filed (rd_T79 l i) s hs0 hs1 (hw.2 _ (mem_rd hi))
      refine ⟨t, g2, g3, fun ht => ?_, fun ht r hr => ?_⟩
      · refine Ev.step (fun _ => rfl) ?_
        exact ev_pos (by omega) (ev_pos (by omega) (ev_bind g1 (ev_pos ht (ev_some _))))
      · refine Ev.step (fun _ => rfl) ?_
        refine ev_pos (by omega) (ev_pos (by omega) (ev_bind g1 (ev_neg (by omega) ?_)))
        rw [wrap_succ hi (by simp only [maxLen] at hw; omega)]
        exact hr
)) ?_
  rintro ⟨h, hg⟩
  exact ⟨h, of_mem_rd hg⟩
theorem tt_FiledS (l : List S79) (hs : l.length ≤ 1048576 ∧ ∀ y ∈ l, sm_Filed y) : Ev (fun k => laws_toFiledS.f k l) (l.map cv_Filed) := by
  unfold laws_toFiledS.f
  refine ev_pos (by omega) (ev_pos (by omega) ?_)
  refine ev_eq (ev_map (F := fun k ys x => laws_toFiledS.l0 k l ys x) (xs := l) (f := cv_Filed) (z := z79) (fun ys hy => ?_) (fun i ys r hi hy hr => ?_) _ (by simp)) ?_
  · refine Ev.step (fun _ => rfl) ?_
    exact ev_neg (by omega) (ev_some _)
  · skip
    refine Ev.step (fun _ => rfl) ?_
    refine ev_pos (by omega) (ev_pos (by omega) (ev_bind (tt_Filed _ (hs.2 _ (mem_rd hi))) (ev_pos (by omega) ?_)))
    rw [wrap_succ hi (by have := hs.1; omega)]
    exact hr
  · rfl
theorem ee_FiledS (l : List S82) (h : l.length ≤ 4611686018427387904 ∧ ∀ y ∈ l, lk_Filed y) : Ev (fun k => laws_eqFiledS.f k l l) true := by
  unfold laws_eqFiledS.f
  refine ev_pos rfl ?_
  refine ev_pass (F := fun k x => laws_eqFiledS.l0 k l l x) (n := l.length) ?_ (fun i r hi hr => ?_)
  · refine Ev.step (fun _ => rfl) ?_
    exact ev_neg (by omega) (ev_some _)
  · refine Ev.step (fun _ => rfl) ?_
    refine ev_pos (by omega) (ev_pos (by omega) (ev_pos (by omega) (ev_bind (ee_Filed _ (h.2 _ (mem_rd hi))) (ev_pos rfl ?_))))
    rw [wrap_succ hi (by have := h.1; omega)]
    exact hr
end Go.Proofs.Ytobbemdkipknnaa.PFnExactTaxReturn
