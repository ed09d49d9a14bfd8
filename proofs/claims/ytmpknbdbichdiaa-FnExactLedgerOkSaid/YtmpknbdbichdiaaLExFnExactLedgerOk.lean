import Derived.Test.YtmpknbdbichdiaaLEvWords
import Derived.Test.YtmpknbdbichdiaaLPFnExactLedgerOkx
set_option linter.unusedVariables false
set_option linter.unusedSimpArgs false
namespace Go.Proofs.Ytmpknbdbichdiaa.PFnExactLedgerOk
open Go Go.RowKit Go.Proofs.YtmpknbdbichdiaaW.PrintWords Go.Proofs.YtmpknbdbichdiaaW.PrintLast Go.Proofs.Ytmpknbdbichdiaa.MapWords Go.Proofs.Ytmpknbdbichdiaa.EvWords
def cv_Account (x : S214) : S222 := ⟨x.f0, x.f1, x.f2⟩
def sm_Account (x : S214) : Prop := (x.f0.size ≤ 1048576)
theorem zz_Account (x : S214) (left : Int) (h0 : 0 ≤ left) (h1 : left ≤ 1048576) (hw : wf214 x) : Z (fun k => laws_szAccount.f x.f0 x.f1 x.f2 left) left (sm_Account x) := by
  unfold laws_szAccount.f
  unfold wf214 at hw
  refine z_mono (z_len _ hw.1 (by omega) (by omega) (fun e0 g0 => by rw [e0]; exact z_end)) ?_
  rintro ⟨h0, _⟩
  exact h0
theorem tt_Account (x : S214) (hs : sm_Account x) : Ev (fun k => laws_toAccount.f x.f0 x.f1 x.f2) ((cv_Account x).f0, (cv_Account x).f1, (cv_Account x).f2) := by
  unfold laws_toAccount.f
  unfold sm_Account at hs
  exact ev_some _
def lk_Account (x : S222) : Prop := True
theorem ee_Account (x : S222) (h : lk_Account x) : Ev (fun k => laws_eqAccount.f x.f0 x.f1 x.f2 x.f0 x.f1 x.f2) true := by
  unfold laws_eqAccount.f
  skip
  refine ev_pos rfl ?_
  refine ev_pos rfl ?_
  refine ev_pos rfl ?_
  exact ev_some _
theorem zz_AccountS (l : List S214) (left : Int) (h0 : 0 ≤ left) (h1 : left ≤ 1048576) (hw : l.length ≤ maxLen ∧ ∀ y ∈ l, wf214 y) : Z (fun k => laws_szAccountS.f k l left) left (l.length ≤ 1048576 ∧ ∀ y ∈ l, sm_Account y) := by
  unfold laws_szAccountS.f
  refine z_mono (z_len _ hw.1 h0 h1 (fun e g => by
    rw [e]
    refine z_loop (F := fun k s x => laws_szAccountS.l0 k l s x) (n := l.length) (P := fun i => sm_Account (l.getD i z214)) _ g (by omega) (fun s => ?_) (fun i s hi hs0 hs1 => ?_)
    · refine Ev.step (fun _ => rfl) ?_
      exact ev_neg (by omega) (ev_some _)
    · skip
      obtain ⟨t, g1, g2, g3⟩ := zz_Account (rd_T214 l i) s hs0 hs1 (hw.2 _ (mem_rd hi))
      refine ⟨t, g2, g3, fun ht => ?_, fun ht r hr => ?_⟩
      · refine Ev.step (fun _ => rfl) ?_
        exact ev_pos (by omega) (ev_pos (by omega) (ev_bind g1 (ev_pos ht (ev_some _))))
      · refine Ev.step (fun _ => rfl) ?_
        refine ev_pos (by omega) (ev_pos (by omega) (ev_bind g1 (ev_neg (by omega) ?_)))
        rw [wrap_succ hi (by simp only [maxLen] at hw; omega)]
        exact hr
)) ?_
  rintro ⟨h, hg⟩
  exact ⟨h, of_mem_rd hg⟩
theorem tt_AccountS (l : List S214) (hs : l.length ≤ 1048576 ∧ ∀ y ∈ l, sm_Account y) : Ev (fun k => laws_toAccountS.f k l) (l.map cv_Account) := by
  unfold laws_toAccountS.f
  refine ev_pos (by omega) (ev_pos (by omega) ?_)
  refine ev_eq (ev_map (F := fun k ys x => laws_toAccountS.l0 k l ys x) (xs := l) (f := cv_Account) (z := z214) (fun ys hy => ?_) (fun i ys r hi hy hr => ?_) _ (by simp)) ?_
  · refine Ev.step (fun _ => rfl) ?_
    exact ev_neg (by omega) (ev_some _)
  · skip
    refine Ev.step (fun _ => rfl) ?_
    refine ev_pos (by omega) (ev_pos (by omega) (ev_bind (tt_Account _ (hs.2 _ (mem_rd hi))) (ev_pos (by omega) ?_)))
    rw [wrap_succ hi (by have := hs.1; omega)]
    exact hr
  · rfl
theorem ee_AccountS (l : List S222) (h : l.length ≤ 4611686018427387904 ∧ ∀ y ∈ l, lk_Account y) : Ev (fun k => laws_eqAccountS.f k l l) true := by
  unfold laws_eqAccountS.f
  refine ev_pos rfl ?_
  refine ev_pass (F := fun k x => laws_eqAccountS.l0 k l l x) (n := l.length) ?_ (fun i r hi hr => ?_)
  · refine Ev.step (fun _ => rfl) ?_
    exact ev_neg (by omega) (ev_some _)
  · refine Ev.step (fun _ => rfl) ?_
    refine ev_pos (by omega) (ev_pos (by omega) (ev_pos (by omega) (ev_bind (ee_Account _ (h.2 _ (mem_rd hi))) (ev_pos rfl ?_))))
    rw [wrap_succ hi (by have := h.1; omega)]
    exact hr
structure S81 where
  f0 : List S222
  f1 : Int
  f2 : Int
def cv_Frame (x : S72) : S81 := ⟨(x.f0.map cv_Account), x.f1, x.f2⟩
def sm_Frame (x : S72) : Prop := (x.f0.length ≤ 1048576 ∧ ∀ y ∈ x.f0, sm_Account y)
theorem zz_Frame (x : S72) (left : Int) (h0 : 0 ≤ left) (h1 : left ≤ 1048576) (hw : wf72 x) : Z (fun k => laws_szFrame.f k x.f0 x.f1 x.f2 left) left (sm_Frame x) := by
  unfold laws_szFrame.f
  unfold wf72 at hw
  refine z_mono (z_call (by omega) (zz_AccountS _ _ (by omega) (by omega) hw.1) (fun t0 g0 k0 => z_end)) ?_
  rintro ⟨h0, _⟩
  exact h0
theorem tt_Frame (x : S72) (hs : sm_Frame x) : Ev (fun k => laws_toFrame.f k x.f0 x.f1 x.f2) ((cv_Frame x).f0, (cv_Frame x).f1, (cv_Frame x).f2) := by
  unfold laws_toFrame.f
  unfold sm_Frame at hs
  refine ev_bind (tt_AccountS _ hs) ?_
  exact ev_some _
def lk_Frame (x : S81) : Prop := (x.f0.length ≤ 4611686018427387904 ∧ ∀ y ∈ x.f0, lk_Account y)
theorem ee_Frame (x : S81) (h : lk_Frame x) : Ev (fun k => laws_eqFrame.f k x.f0 x.f1 x.f2 x.f0 x.f1 x.f2) true := by
  unfold laws_eqFrame.f
  have h0 := h
  refine ev_bind (ee_AccountS _ h0) (ev_pos rfl ?_)
  refine ev_pos rfl ?_
  refine ev_pos rfl ?_
  exact ev_some _
def cv_Line (x : S263) : S107 := ⟨x.f0, x.f1, x.f2, x.f3, x.f4⟩
def sm_Line (x : S263) : Prop := True
theorem tt_Line (x : S263) (hs : sm_Line x) : Ev (fun k => laws_toLine.f x.f0 x.f1 x.f2 x.f3 x.f4) ((cv_Line x).f0, (cv_Line x).f1, (cv_Line x).f2, (cv_Line x).f3, (cv_Line x).f4) := by
  unfold laws_toLine.f
  exact ev_some _
def lk_Line (x : S107) : Prop := True
theorem ee_Line (x : S107) (h : lk_Line x) : Ev (fun k => laws_eqLine.f x.f0 x.f1 x.f2 x.f3 x.f4 x.f0 x.f1 x.f2 x.f3 x.f4) true := by
  unfold laws_eqLine.f
  skip
  refine ev_pos rfl ?_
  refine ev_pos rfl ?_
  refine ev_pos rfl ?_
  refine ev_pos rfl ?_
  refine ev_pos rfl ?_
  exact ev_some _
theorem zz_LineS (l : List S263) (left : Int) (h0 : 0 ≤ left) (h1 : left ≤ 1048576) (hw : l.length ≤ maxLen ∧ ∀ y ∈ l, wf263 y) : Z (fun k => laws_szLineS.f l left) left (l.length ≤ 1048576 ∧ ∀ y ∈ l, sm_Line y) := by
  unfold laws_szLineS.f
  refine z_mono (z_len _ hw.1 h0 h1 (fun e g => by rw [e]; exact z_end)) ?_
  rintro ⟨h, _⟩
  exact ⟨h, fun y _ => trivial⟩
theorem tt_LineS (l : List S263) (hs : l.length ≤ 1048576 ∧ ∀ y ∈ l, sm_Line y) : Ev (fun k => laws_toLineS.f k l) (l.map cv_Line) := by
  unfold laws_toLineS.f
  refine ev_pos (by omega) (ev_pos (by omega) ?_)
  refine ev_eq (ev_map (F := fun k ys x => laws_toLineS.l0 k l ys x) (xs := l) (f := cv_Line) (z := z263) (fun ys hy => ?_) (fun i ys r hi hy hr => ?_) _ (by simp)) ?_
  · refine Ev.step (fun _ => rfl) ?_
    exact ev_neg (by omega) (ev_some _)
  · skip
    refine Ev.step (fun _ => rfl) ?_
    refine ev_pos (by omega) (ev_pos (by omega) (ev_bind (tt_Line _ (hs.2 _ (mem_rd hi))) (ev_pos (by omega) ?_)))
    rw [wrap_succ hi (by have := hs.1; omega)]
    exact hr
  · rfl
theorem ee_LineS (l : List S107) (h : l.length ≤ 4611686018427387904 ∧ ∀ y ∈ l, lk_Line y) : Ev (fun k => laws_eqLineS.f k l l) true := by
  unfold laws_eqLineS.f
  refine ev_pos rfl ?_
  refine ev_pass (F := fun k x => laws_eqLineS.l0 k l l x) (n := l.length) ?_ (fun i r hi hr => ?_)
  · refine Ev.step (fun _ => rfl) ?_
    exact ev_neg (by omega) (ev_some _)
  · refine Ev.step (fun _ => rfl) ?_
    refine ev_pos (by omega) (ev_pos (by omega) (ev_pos (by omega) (ev_bind (ee_Line _ (h.2 _ (mem_rd hi))) (ev_pos rfl ?_))))
    rw [wrap_succ hi (by have := h.1; omega)]
    exact hr
def cv_Entry (x : S218) : S103 := ⟨x.f0, x.f1, x.f2, (x.f3.map cv_Line)⟩
def sm_Entry (x : S218) : Prop := (x.f2.size ≤ 1048576) ∧ (x.f3.length ≤ 1048576 ∧ ∀ y ∈ x.f3, sm_Line y)
theorem zz_Entry (x : S218) (left : Int) (h0 : 0 ≤ left) (h1 : left ≤ 1048576) (hw : wf218 x) : Z (fun k => laws_szEntry.f x.f0 x.f1 x.f2 x.f3 left) left (sm_Entry x) := by
  unfold laws_szEntry.f
  unfold wf218 at hw
  refine z_mono (z_len _ hw.2.2.1 (by omega) (by omega) (fun e2 g2 => by rw [e2]; exact (z_call (by omega) (zz_LineS _ _ (by omega) (by omega) hw.2.2.2) (fun t3 g3 k3 => z_end)))) ?_
  rintro ⟨h2, h3, _⟩
  exact ⟨h2, h3⟩
theorem tt_Entry (x : S218) (hs : sm_Entry x) : Ev (fun k => laws_toEntry.f k x.f0 x.f1 x.f2 x.f3) ((cv_Entry x).f0, (cv_Entry x).f1, (cv_Entry x).f2, (cv_Entry x).f3) := by
  unfold laws_toEntry.f
  unfold sm_Entry at hs
  refine ev_bind (tt_LineS _ hs.2) ?_
  exact ev_some _
def lk_Entry (x : S103) : Prop := (x.f3.length ≤ 4611686018427387904 ∧ ∀ y ∈ x.f3, lk_Line y)
theorem ee_Entry (x : S103) (h : lk_Entry x) : Ev (fun k => laws_eqEntry.f k x.f0 x.f1 x.f2 x.f3 x.f0 x.f1 x.f2 x.f3) true := by
  unfold laws_eqEntry.f
  have h3 := h
  refine ev_pos rfl ?_
  refine ev_pos rfl ?_
  refine ev_pos rfl ?_
  refine ev_bind (ee_LineS _ h3) (ev_pos rfl ?_)
  exact ev_some _
theorem zz_EntryS (l : List S218) (left : Int) (h0 : 0 ≤ left) (h1 : left ≤ 1048576) (hw : l.length ≤ maxLen ∧ ∀ y ∈ l, wf218 y) : Z (fun k => laws_szEntryS.f k l left) left (l.length ≤ 1048576 ∧ ∀ y ∈ l, sm_Entry y) := by
  unfold laws_szEntryS.f
  refine z_mono (z_len _ hw.1 h0 h1 (fun e g => by
    rw [e]
    refine z_loop (F := fun k s x => laws_szEntryS.l0 k l s x) (n := l.length) (P := fun i => sm_Entry (l.getD i z218)) _ g (by omega) (fun s => ?_) (fun i s hi hs0 hs1 => ?_)
    · refine Ev.step (fun _ => rfl) ?_
      exact ev_neg (by omega) (ev_some _)
    · skip
      obtain ⟨t, g1, g2, g3⟩ := zz_Entry (rd_T218 l i) s hs0 hs1 (hw.2 _ (mem_rd hi))
      refine ⟨t, g2, g3, fun ht => ?_, fun ht r hr => ?_⟩
      · refine Ev.step (fun _ => rfl) ?_
        exact ev_pos (by omega) (ev_pos (by omega) (ev_bind g1 (ev_pos ht (ev_some _))))
      · refine Ev.step (fun _ => rfl) ?_
        refine ev_pos (by omega) (ev_pos (by omega) (ev_bind g1 (ev_neg (by omega) ?_)))
        rw [wrap_succ hi (by simp only [maxLen] at hw; omega)]
        exact hr
)) ?_
  rintro ⟨h, hg⟩
  exact ⟨h, of_mem_rd hg⟩
theorem tt_EntryS (l : List S218) (hs : l.length ≤ 1048576 ∧ ∀ y ∈ l, sm_Entry y) : Ev (fun k => laws_toEntryS.f k l) (l.map cv_Entry) := by
  unfold laws_toEntryS.f
  refine ev_pos (by omega) (ev_pos (by omega) ?_)
  refine ev_eq (ev_map (F := fun k ys x => laws_toEntryS.l0 k l ys x) (xs := l) (f := cv_Entry) (z := z218) (fun ys hy => ?_) (fun i ys r hi hy hr => ?_) _ (by simp)) ?_
  · refine Ev.step (fun _ => rfl) ?_
    exact ev_neg (by omega) (ev_some _)
  · skip
    refine Ev.step (fun _ => rfl) ?_
    refine ev_pos (by omega) (ev_pos (by omega) (ev_bind (tt_Entry _ (hs.2 _ (mem_rd hi))) (ev_pos (by omega) ?_)))
    rw [wrap_succ hi (by have := hs.1; omega)]
    exact hr
  · rfl
theorem ee_EntryS (l : List S103) (h : l.length ≤ 4611686018427387904 ∧ ∀ y ∈ l, lk_Entry y) : Ev (fun k => laws_eqEntryS.f k l l) true := by
  unfold laws_eqEntryS.f
  refine ev_pos rfl ?_
  refine ev_pass (F := fun k x => laws_eqEntryS.l0 k l l x) (n := l.length) ?_ (fun i r hi hr => ?_)
  · refine Ev.step (fun _ => rfl) ?_
    exact ev_neg (by omega) (ev_some _)
  · refine Ev.step (fun _ => rfl) ?_
    refine ev_pos (by omega) (ev_pos (by omega) (ev_pos (by omega) (ev_bind (ee_Entry _ (h.2 _ (mem_rd hi))) (ev_pos rfl ?_))))
    rw [wrap_succ hi (by have := h.1; omega)]
    exact hr
structure S85 where
  f0 : List S103
  f1 : Int
def cv_Ledger (x : S75) : S85 := ⟨(x.f0.map cv_Entry), x.f1⟩
def sm_Ledger (x : S75) : Prop := (x.f0.length ≤ 1048576 ∧ ∀ y ∈ x.f0, sm_Entry y)
theorem zz_Ledger (x : S75) (left : Int) (h0 : 0 ≤ left) (h1 : left ≤ 1048576) (hw : wf75 x) : Z (fun k => laws_szLedger.f k x.f0 x.f1 left) left (sm_Ledger x) := by
  unfold laws_szLedger.f
  unfold wf75 at hw
  refine z_mono (z_call (by omega) (zz_EntryS _ _ (by omega) (by omega) hw.1) (fun t0 g0 k0 => z_end)) ?_
  rintro ⟨h0, _⟩
  exact h0
theorem tt_Ledger (x : S75) (hs : sm_Ledger x) : Ev (fun k => laws_toLedger.f k x.f0 x.f1) ((cv_Ledger x).f0, (cv_Ledger x).f1) := by
  unfold laws_toLedger.f
  unfold sm_Ledger at hs
  refine ev_bind (tt_EntryS _ hs) ?_
  exact ev_some _
def lk_Ledger (x : S85) : Prop := (x.f0.length ≤ 4611686018427387904 ∧ ∀ y ∈ x.f0, lk_Entry y)
theorem ee_Ledger (x : S85) (h : lk_Ledger x) : Ev (fun k => laws_eqLedger.f k x.f0 x.f1 x.f0 x.f1) true := by
  unfold laws_eqLedger.f
  have h0 := h
  refine ev_bind (ee_EntryS _ h0) (ev_pos rfl ?_)
  refine ev_pos rfl ?_
  exact ev_some _
end Go.Proofs.Ytmpknbdbichdiaa.PFnExactLedgerOk
