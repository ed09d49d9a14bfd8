import Derived.Test.YtjnmfadnkbflfaaEEvWords
import Derived.Test.YtjnmfadnkbflfaaEPFnExactEntryOkx
set_option linter.unusedVariables false
set_option linter.unusedSimpArgs false
namespace Go.Proofs.Ytjnmfadnkbflfaa.PFnExactEntryOk
open Go Go.RowKit Go.Proofs.YtjnmfadnkbflfaaW.PrintWords Go.Proofs.YtjnmfadnkbflfaaW.PrintLast Go.Proofs.Ytjnmfadnkbflfaa.MapWords Go.Proofs.Ytjnmfadnkbflfaa.EvWords
def cv_Account (x : S185) : S188 := ⟨x.f0, x.f1, x.f2⟩
def sm_Account (x : S185) : Prop := (x.f0.size ≤ 1048576)
theorem zz_Account (x : S185) (left : Int) (h0 : 0 ≤ left) (h1 : left ≤ 1048576) (hw : wf185 x) : Z (fun k => laws_szAccount.f x.f0 x.f1 x.f2 left) left (sm_Account x) := by
  unfold laws_szAccount.f
  unfold wf185 at hw
  refine z_mono (z_len _ hw.1 (by omega) (by omega) (fun e0 g0 => by rw [e0]; exact z_end)) ?_
  rintro ⟨h0, _⟩
  exact h0
theorem tt_Account (x : S185) (hs : sm_Account x) : Ev (fun k => laws_toAccount.f x.f0 x.f1 x.f2) ((cv_Account x).f0, (cv_Account x).f1, (cv_Account x).f2) := by
  unfold laws_toAccount.f
  unfold sm_Account at hs
  exact ev_some _
def lk_Account (x : S188) : Prop := True
theorem ee_Account (x : S188) (h : lk_Account x) : Ev (fun k => laws_eqAccount.f x.f0 x.f1 x.f2 x.f0 x.f1 x.f2) true := by
  unfold laws_eqAccount.f
  skip
  refine ev_pos rfl ?_
  refine ev_pos rfl ?_
  refine ev_pos rfl ?_
  exact ev_some _
theorem zz_AccountS (l : List S185) (left : Int) (h0 : 0 ≤ left) (h1 : left ≤ 1048576) (hw : l.length ≤ maxLen ∧ ∀ y ∈ l, wf185 y) : Z (fun k => laws_szAccountS.f k l left) left (l.length ≤ 1048576 ∧ ∀ y ∈ l, sm_Account y) := by
  unfold laws_szAccountS.f
  refine z_mono (z_len _ hw.1 h0 h1 (fun e g => by
    rw [e]
    refine z_loop (F := fun k s x => laws_szAccountS.l0 k l s x) (n := l.length) (P := fun i => sm_Account (l.getD i z185)) _ g (by omega) (fun s => ?_) (fun i s hi hs0 hs1 => ?_)
    · refine Ev.step (fun _ => rfl) ?_
      exact ev_neg (by omega) (ev_some _)
    · skip
      obtain ⟨t, g1, g2, g3⟩ := zz_Account (rd_T185 l i) s hs0 hs1 (hw.2 _ (mem_rd hi))
      refine ⟨t, g2, g3, fun ht => ?_, fun ht r hr => ?_⟩
      · refine Ev.step (fun _ => rfl) ?_
        exact ev_pos (by omega) (ev_pos (by omega) (ev_bind g1 (ev_pos ht (ev_some _))))
      · refine Ev.step (fun _ => rfl) ?_
        refine ev_pos (by omega) (ev_pos (by omega) (ev_bind g1 (ev_neg (by omega) ?_)))
        rw [wrap_succ hi (by simp only [maxLen] at hw; omega)]
        exact hr
)) ?_
  rintro ⟨h, hg⟩
  exact ⟨h, of_mem_rd hg⟩
theorem tt_AccountS (l : List S185) (hs : l.length ≤ 1048576 ∧ ∀ y ∈ l, sm_Account y) : Ev (fun k => laws_toAccountS.f k l) (l.map cv_Account) := by
  unfold laws_toAccountS.f
  refine ev_pos (by omega) (ev_pos (by omega) ?_)
  refine ev_eq (ev_map (F := fun k ys x => laws_toAccountS.l0 k l ys x) (xs := l) (f := cv_Account) (z := z185) (fun ys hy => ?_) (fun i ys r hi hy hr => ?_) _ (by simp)) ?_
  · refine Ev.step (fun _ => rfl) ?_
    exact ev_neg (by omega) (ev_some _)
  · skip
    refine Ev.step (fun _ => rfl) ?_
    refine ev_pos (by omega) (ev_pos (by omega) (ev_bind (tt_Account _ (hs.2 _ (mem_rd hi))) (ev_pos (by omega) ?_)))
    rw [wrap_succ hi (by have := hs.1; omega)]
    exact hr
  · rfl
theorem ee_AccountS (l : List S188) (h : l.length ≤ 4611686018427387904 ∧ ∀ y ∈ l, lk_Account y) : Ev (fun k => laws_eqAccountS.f k l l) true := by
  unfold laws_eqAccountS.f
  refine ev_pos rfl ?_
  refine ev_pass (F := fun k x => laws_eqAccountS.l0 k l l x) (n := l.length) ?_ (fun i r hi hr => ?_)
  · refine Ev.step (fun _ => rfl) ?_
    exact ev_neg (by omega) (ev_some _)
  · refine Ev.step (fun _ => rfl) ?_
    refine ev_pos (by omega) (ev_pos (by omega) (ev_pos (by omega) (ev_bind (ee_Account _ (h.2 _ (mem_rd hi))) (ev_pos rfl ?_))))
    rw [wrap_succ hi (by have := h.1; omega)]
    exact hr
structure S33 where
  f0 : List S188
  f1 : Int
  f2 : Int
def cv_Frame (x : S24) : S33 := ⟨(x.f0.map cv_Account), x.f1, x.f2⟩
def sm_Frame (x : S24) : Prop := (x.f0.length ≤ 1048576 ∧ ∀ y ∈ x.f0, sm_Account y)
theorem zz_Frame (x : S24) (left : Int) (h0 : 0 ≤ left) (h1 : left ≤ 1048576) (hw : wf24 x) : Z (fun k => laws_szFrame.f k x.f0 x.f1 x.f2 left) left (sm_Frame x) := by
  unfold laws_szFrame.f
  unfold wf24 at hw
  refine z_mono (z_call (by omega) (zz_AccountS _ _ (by omega) (by omega) hw.1) (fun t0 g0 k0 => z_end)) ?_
  rintro ⟨h0, _⟩
  exact h0
theorem tt_Frame (x : S24) (hs : sm_Frame x) : Ev (fun k => laws_toFrame.f k x.f0 x.f1 x.f2) ((cv_Frame x).f0, (cv_Frame x).f1, (cv_Frame x).f2) := by
  unfold laws_toFrame.f
  unfold sm_Frame at hs
  refine ev_bind (tt_AccountS _ hs) ?_
  exact ev_some _
def lk_Frame (x : S33) : Prop := (x.f0.length ≤ 4611686018427387904 ∧ ∀ y ∈ x.f0, lk_Account y)
theorem ee_Frame (x : S33) (h : lk_Frame x) : Ev (fun k => laws_eqFrame.f k x.f0 x.f1 x.f2 x.f0 x.f1 x.f2) true := by
  unfold laws_eqFrame.f
  have h0 := h
  refine ev_bind (ee_AccountS _ h0) (ev_pos rfl ?_)
  refine ev_pos rfl ?_
  refine ev_pos rfl ?_
  exact ev_some _
def cv_Line (x : S191) : S109 := ⟨x.f0, x.f1, x.f2, x.f3, x.f4⟩
def sm_Line (x : S191) : Prop := True
theorem tt_Line (x : S191) (hs : sm_Line x) : Ev (fun k => laws_toLine.f x.f0 x.f1 x.f2 x.f3 x.f4) ((cv_Line x).f0, (cv_Line x).f1, (cv_Line x).f2, (cv_Line x).f3, (cv_Line x).f4) := by
  unfold laws_toLine.f
  exact ev_some _
def lk_Line (x : S109) : Prop := True
theorem ee_Line (x : S109) (h : lk_Line x) : Ev (fun k => laws_eqLine.f x.f0 x.f1 x.f2 x.f3 x.f4 x.f0 x.f1 x.f2 x.f3 x.f4) true := by
  unfold laws_eqLine.f
  skip
  refine ev_pos rfl ?_
  refine ev_pos rfl ?_
  refine ev_pos rfl ?_
  refine ev_pos rfl ?_
  refine ev_pos rfl ?_
  exact ev_some _
theorem zz_LineS (l : List S191) (left : Int) (h0 : 0 ≤ left) (h1 : left ≤ 1048576) (hw : l.length ≤ maxLen ∧ ∀ y ∈ l, wf191 y) : Z (fun k => laws_szLineS.f l left) left (l.length ≤ 1048576 ∧ ∀ y ∈ l, sm_Line y) := by
  unfold laws_szLineS.f
  refine z_mono (z_len _ hw.1 h0 h1 (fun e g => by rw [e]; exact z_end)) ?_
  rintro ⟨h, _⟩
  exact ⟨h, fun y _ => trivial⟩
theorem tt_LineS (l : List S191) (hs : l.length ≤ 1048576 ∧ ∀ y ∈ l, sm_Line y) : Ev (fun k => laws_toLineS.f k l) (l.map cv_Line) := by
  unfold laws_toLineS.f
  refine ev_pos (by omega) (ev_pos (by omega) ?_)
  refine ev_eq (ev_map (F := fun k ys x => laws_toLineS.l0 k l ys x) (xs := l) (f := cv_Line) (z := z191) (fun ys hy => ?_) (fun i ys r hi hy hr => ?_) _ (by simp)) ?_
  · refine Ev.step (fun _ => rfl) ?_
    exact ev_neg (by omega) (ev_some _)
  · skip
    refine Ev.step (fun _ => rfl) ?_
    refine ev_pos (by omega) (ev_pos (by omega) (ev_bind (tt_Line _ (hs.2 _ (mem_rd hi))) (ev_pos (by omega) ?_)))
    rw [wrap_succ hi (by have := hs.1; omega)]
    exact hr
  · rfl
theorem ee_LineS (l : List S109) (h : l.length ≤ 4611686018427387904 ∧ ∀ y ∈ l, lk_Line y) : Ev (fun k => laws_eqLineS.f k l l) true := by
  unfold laws_eqLineS.f
  refine ev_pos rfl ?_
  refine ev_pass (F := fun k x => laws_eqLineS.l0 k l l x) (n := l.length) ?_ (fun i r hi hr => ?_)
  · refine Ev.step (fun _ => rfl) ?_
    exact ev_neg (by omega) (ev_some _)
  · refine Ev.step (fun _ => rfl) ?_
    refine ev_pos (by omega) (ev_pos (by omega) (ev_pos (by omega) (ev_bind (ee_Line _ (h.2 _ (mem_rd hi))) (ev_pos rfl ?_))))
    rw [wrap_succ hi (by have := h.1; omega)]
    exact hr
structure S37 where
  f0 : Int
  f1 : Int
  f2 : ByteArray
  f3 : List S109
def cv_Entry (x : S27) : S37 := ⟨x.f0, x.f1, x.f2, (x.f3.map cv_Line)⟩
def sm_Entry (x : S27) : Prop := (x.f2.size ≤ 1048576) ∧ (x.f3.length ≤ 1048576 ∧ ∀ y ∈ x.f3, sm_Line y)
theorem zz_Entry (x : S27) (left : Int) (h0 : 0 ≤ left) (h1 : left ≤ 1048576) (hw : wf27 x) : Z (fun k => laws_szEntry.f x.f0 x.f1 x.f2 x.f3 left) left (sm_Entry x) := by
  unfold laws_szEntry.f
  unfold wf27 at hw
  refine z_mono (z_len _ hw.2.2.1 (by omega) (by omega) (fun e2 g2 => by rw [e2]; exact (z_call (by omega) (zz_LineS _ _ (by omega) (by omega) hw.2.2.2) (fun t3 g3 k3 => z_end)))) ?_
  rintro ⟨h2, h3, _⟩
  exact ⟨h2, h3⟩
theorem tt_Entry (x : S27) (hs : sm_Entry x) : Ev (fun k => laws_toEntry.f k x.f0 x.f1 x.f2 x.f3) ((cv_Entry x).f0, (cv_Entry x).f1, (cv_Entry x).f2, (cv_Entry x).f3) := by
  unfold laws_toEntry.f
  unfold sm_Entry at hs
  refine ev_bind (tt_LineS _ hs.2) ?_
  exact ev_some _
def lk_Entry (x : S37) : Prop := (x.f3.length ≤ 4611686018427387904 ∧ ∀ y ∈ x.f3, lk_Line y)
theorem ee_Entry (x : S37) (h : lk_Entry x) : Ev (fun k => laws_eqEntry.f k x.f0 x.f1 x.f2 x.f3 x.f0 x.f1 x.f2 x.f3) true := by
  unfold laws_eqEntry.f
  have h3 := h
  refine ev_pos rfl ?_
  refine ev_pos rfl ?_
  refine ev_pos rfl ?_
  refine ev_bind (ee_LineS _ h3) (ev_pos rfl ?_)
  exact ev_some _
end Go.Proofs.Ytjnmfadnkbflfaa.PFnExactEntryOk
