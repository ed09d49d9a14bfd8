import Derived.Test.YtnbecbgpefmcoaaGEvWords
import Derived.Test.YtnbecbgpefmcoaaGPFnExactGroupOkx
set_option linter.unusedVariables false
set_option linter.unusedSimpArgs false
namespace Go.Proofs.Ytnbecbgpefmcoaa.PFnExactGroupOk
open Go Go.RowKit Go.Proofs.YtnbecbgpefmcoaaW.PrintWords Go.Proofs.YtnbecbgpefmcoaaW.PrintLast Go.Proofs.Ytnbecbgpefmcoaa.MapWords Go.Proofs.Ytnbecbgpefmcoaa.EvWords
def cv_Account (x : S319) : S251 := ⟨x.f0, x.f1, x.f2⟩
def sm_Account (x : S319) : Prop := (x.f0.size ≤ 1048576)
theorem zz_Account (x : S319) (left : Int) (h0 : 0 ≤ left) (h1 : left ≤ 1048576) (hw : wf319 x) : Z (fun k => laws_szAccount.f x.f0 x.f1 x.f2 left) left (sm_Account x) := by
  unfold laws_szAccount.f
  unfold wf319 at hw
  refine z_mono (z_len _ hw.1 (by omega) (by omega) (fun e0 g0 => by rw [e0]; exact z_end)) ?_
  rintro ⟨h0, _⟩
  exact h0
theorem tt_Account (x : S319) (hs : sm_Account x) : Ev (fun k => laws_toAccount.f x.f0 x.f1 x.f2) ((cv_Account x).f0, (cv_Account x).f1, (cv_Account x).f2) := by
  unfold laws_toAccount.f
  unfold sm_Account at hs
  exact ev_some _
def lk_Account (x : S251) : Prop := True
theorem ee_Account (x : S251) (h : lk_Account x) : Ev (fun k => laws_eqAccount.f x.f0 x.f1 x.f2 x.f0 x.f1 x.f2) true := by
  unfold laws_eqAccount.f
  skip
  refine ev_pos rfl ?_
  refine ev_pos rfl ?_
  refine ev_pos rfl ?_
  exact ev_some _
theorem zz_AccountS (l : List S319) (left : Int) (h0 : 0 ≤ left) (h1 : left ≤ 1048576) (hw : l.length ≤ maxLen ∧ ∀ y ∈ l, wf319 y) : Z (fun k => laws_szAccountS.f k l left) left (l.length ≤ 1048576 ∧ ∀ y ∈ l, sm_Account y) := by
  unfold laws_szAccountS.f
  refine z_mono (z_len _ hw.1 h0 h1 (fun e g => by
    rw [e]
    refine z_loop (F := fun k s x => laws_szAccountS.l0 k l s x) (n := l.length) (P := fun i => sm_Account (l.getD i z319)) _ g (by omega) (fun s => ?_) (fun i s hi hs0 hs1 => ?_)
    · refine Ev.step (fun _ => rfl) ?_
      exact ev_neg (by omega) (ev_some _)
    · skip
      obtain ⟨t, g1, g2, g3⟩ := zz_Account (rd_T319 l i) s hs0 hs1 (hw.2 _ (mem_rd hi))
      refine ⟨t, g2, g3, fun ht => ?_, fun ht r hr => ?_⟩
      · refine Ev.step (fun _ => rfl) ?_
        exact ev_pos (by omega) (ev_pos (by omega) (ev_bind g1 (ev_pos ht (ev_some _))))
      · refine Ev.step (fun _ => rfl) ?_
        refine ev_pos (by omega) (ev_pos (by omega) (ev_bind g1 (ev_neg (by omega) ?_)))
        rw [wrap_succ hi (by simp only [maxLen] at hw; omega)]
        exact hr
)) ?_
  rintro ⟨h, hg⟩
  exact ⟨h, of_mem_rd hg⟩
theorem tt_AccountS (l : List S319) (hs : l.length ≤ 1048576 ∧ ∀ y ∈ l, sm_Account y) : Ev (fun k => laws_toAccountS.f k l) (l.map cv_Account) := by
  unfold laws_toAccountS.f
  refine ev_pos (by omega) (ev_pos (by omega) ?_)
  refine ev_eq (ev_map (F := fun k ys x => laws_toAccountS.l0 k l ys x) (xs := l) (f := cv_Account) (z := z319) (fun ys hy => ?_) (fun i ys r hi hy hr => ?_) _ (by simp)) ?_
  · refine Ev.step (fun _ => rfl) ?_
    exact ev_neg (by omega) (ev_some _)
  · skip
    refine Ev.step (fun _ => rfl) ?_
    refine ev_pos (by omega) (ev_pos (by omega) (ev_bind (tt_Account _ (hs.2 _ (mem_rd hi))) (ev_pos (by omega) ?_)))
    rw [wrap_succ hi (by have := hs.1; omega)]
    exact hr
  · rfl
theorem ee_AccountS (l : List S251) (h : l.length ≤ 4611686018427387904 ∧ ∀ y ∈ l, lk_Account y) : Ev (fun k => laws_eqAccountS.f k l l) true := by
  unfold laws_eqAccountS.f
  refine ev_pos rfl ?_
  refine ev_pass (F := fun k x => laws_eqAccountS.l0 k l l x) (n := l.length) ?_ (fun i r hi hr => ?_)
  · refine Ev.step (fun _ => rfl) ?_
    exact ev_neg (by omega) (ev_some _)
  · refine Ev.step (fun _ => rfl) ?_
    refine ev_pos (by omega) (ev_pos (by omega) (ev_pos (by omega) (ev_bind (ee_Account _ (h.2 _ (mem_rd hi))) (ev_pos rfl ?_))))
    rw [wrap_succ hi (by have := h.1; omega)]
    exact hr
theorem zz_IntS (l : List Int) (left : Int) (h0 : 0 ≤ left) (h1 : left ≤ 1048576) (hw : l.length ≤ maxLen ∧ ∀ y ∈ l, (Lit.int .i64 y).wf = true) : Z (fun k => laws_szIntS.f l left) left (l.length ≤ 1048576) := by
  unfold laws_szIntS.f
  refine z_mono (z_len _ hw.1 h0 h1 (fun e g => by rw [e]; exact z_end)) ?_
  rintro ⟨h, _⟩
  exact h
theorem tt_IntS (l : List Int) (hs : l.length ≤ 1048576) : Ev (fun k => laws_toIntS.f k l) l := by
  unfold laws_toIntS.f
  refine ev_pos (by omega) (ev_pos (by omega) ?_)
  refine ev_eq (ev_map (F := fun k ys x => laws_toIntS.l0 k l ys x) (xs := l) (f := (fun x => x)) (z := 0) (fun ys hy => ?_) (fun i ys r hi hy hr => ?_) _ (by simp)) ?_
  · refine Ev.step (fun _ => rfl) ?_
    exact ev_neg (by omega) (ev_some _)
  · skip
    refine Ev.step (fun _ => rfl) ?_
    refine ev_pos (by omega) (ev_pos (by omega) (ev_pos (by omega) ?_))
    rw [wrap_succ hi (by have := hs; omega)]
    exact hr
  · simp
theorem ee_IntS (l : List Int) (h : l.length ≤ 4611686018427387904) : Ev (fun k => laws_eqIntS.f k l l) true := by
  unfold laws_eqIntS.f
  refine ev_pos rfl ?_
  refine ev_pass (F := fun k x => laws_eqIntS.l0 k l l x) (n := l.length) ?_ (fun i r hi hr => ?_)
  · refine Ev.step (fun _ => rfl) ?_
    exact ev_neg (by omega) (ev_some _)
  · refine Ev.step (fun _ => rfl) ?_
    refine ev_pos (by omega) (ev_pos (by omega) (ev_pos (by omega) (ev_pos rfl ?_)))
    rw [wrap_succ hi (by have := h; omega)]
    exact hr
def cv_Member (x : S321) : S245 := ⟨x.f0, x.f1, x.f2, x.f3⟩
def sm_Member (x : S321) : Prop := (x.f3.length ≤ 1048576)
theorem zz_Member (x : S321) (left : Int) (h0 : 0 ≤ left) (h1 : left ≤ 1048576) (hw : wf321 x) : Z (fun k => laws_szMember.f x.f0 x.f1 x.f2 x.f3 left) left (sm_Member x) := by
  unfold laws_szMember.f
  unfold wf321 at hw
  refine z_mono (z_call (by omega) (zz_IntS _ _ (by omega) (by omega) hw.2.2.2) (fun t3 g3 k3 => z_end)) ?_
  rintro ⟨h3, _⟩
  exact h3
theorem tt_Member (x : S321) (hs : sm_Member x) : Ev (fun k => laws_toMember.f k x.f0 x.f1 x.f2 x.f3) ((cv_Member x).f0, (cv_Member x).f1, (cv_Member x).f2, (cv_Member x).f3) := by
  unfold laws_toMember.f
  unfold sm_Member at hs
  refine ev_bind (tt_IntS _ hs) ?_
  exact ev_some _
def lk_Member (x : S245) : Prop := (x.f3.length ≤ 4611686018427387904)
theorem ee_Member (x : S245) (h : lk_Member x) : Ev (fun k => laws_eqMember.f k x.f0 x.f1 x.f2 x.f3 x.f0 x.f1 x.f2 x.f3) true := by
  unfold laws_eqMember.f
  have h3 := h
  refine ev_pos rfl ?_
  refine ev_pos rfl ?_
  refine ev_pos rfl ?_
  refine ev_bind (ee_IntS _ h3) (ev_pos rfl ?_)
  exact ev_some _
theorem zz_MemberS (l : List S321) (left : Int) (h0 : 0 ≤ left) (h1 : left ≤ 1048576) (hw : l.length ≤ maxLen ∧ ∀ y ∈ l, wf321 y) : Z (fun k => laws_szMemberS.f k l left) left (l.length ≤ 1048576 ∧ ∀ y ∈ l, sm_Member y) := by
  unfold laws_szMemberS.f
  refine z_mono (z_len _ hw.1 h0 h1 (fun e g => by
    rw [e]
    refine z_loop (F := fun k s x => laws_szMemberS.l0 k l s x) (n := l.length) (P := fun i => sm_Member (l.getD i z321)) _ g (by omega) (fun s => ?_) (fun i s hi hs0 hs1 => ?_)
    · refine Ev.step (fun _ => rfl) ?_
      exact ev_neg (by omega) (ev_some _)
    · skip
      obtain ⟨t, g1, g2, g3⟩ := zz_Member (rd_T321 l i) s hs0 hs1 (hw.2 _ (mem_rd hi))
      refine ⟨t, g2, g3, fun ht => ?_, fun ht r hr => ?_⟩
      · refine Ev.step (fun _ => rfl) ?_
        exact ev_pos (by omega) (ev_pos (by omega) (ev_bind g1 (ev_pos ht (ev_some _))))
      · refine Ev.step (fun _ => rfl) ?_
        refine ev_pos (by omega) (ev_pos (by omega) (ev_bind g1 (ev_neg (by omega) ?_)))
        rw [wrap_succ hi (by simp only [maxLen] at hw; omega)]
        exact hr
)) ?_
  rintro ⟨h, hg⟩
  exact ⟨h, of_mem_rd hg⟩
theorem tt_MemberS (l : List S321) (hs : l.length ≤ 1048576 ∧ ∀ y ∈ l, sm_Member y) : Ev (fun k => laws_toMemberS.f k l) (l.map cv_Member) := by
  unfold laws_toMemberS.f
  refine ev_pos (by omega) (ev_pos (by omega) ?_)
  refine ev_eq (ev_map (F := fun k ys x => laws_toMemberS.l0 k l ys x) (xs := l) (f := cv_Member) (z := z321) (fun ys hy => ?_) (fun i ys r hi hy hr => ?_) _ (by simp)) ?_
  · refine Ev.step (fun _ => rfl) ?_
    exact ev_neg (by omega) (ev_some _)
  · skip
    refine Ev.step (fun _ => rfl) ?_
    refine ev_pos (by omega) (ev_pos (by omega) (ev_bind (tt_Member _ (hs.2 _ (mem_rd hi))) (ev_pos (by omega) ?_)))
    rw [wrap_succ hi (by have := hs.1; omega)]
    exact hr
  · rfl
theorem ee_MemberS (l : List S245) (h : l.length ≤ 4611686018427387904 ∧ ∀ y ∈ l, lk_Member y) : Ev (fun k => laws_eqMemberS.f k l l) true := by
  unfold laws_eqMemberS.f
  refine ev_pos rfl ?_
  refine ev_pass (F := fun k x => laws_eqMemberS.l0 k l l x) (n := l.length) ?_ (fun i r hi hr => ?_)
  · refine Ev.step (fun _ => rfl) ?_
    exact ev_neg (by omega) (ev_some _)
  · refine Ev.step (fun _ => rfl) ?_
    refine ev_pos (by omega) (ev_pos (by omega) (ev_pos (by omega) (ev_bind (ee_Member _ (h.2 _ (mem_rd hi))) (ev_pos rfl ?_))))
    rw [wrap_succ hi (by have := h.1; omega)]
    exact hr
structure S107 where
  f0 : List S251
  f1 : Int
  f2 : List S245
  f3 : Int
  f4 : Int
def cv_Group (x : S101) : S107 := ⟨(x.f0.map cv_Account), x.f1, (x.f2.map cv_Member), x.f3, x.f4⟩
def sm_Group (x : S101) : Prop := (x.f0.length ≤ 1048576 ∧ ∀ y ∈ x.f0, sm_Account y) ∧ (x.f2.length ≤ 1048576 ∧ ∀ y ∈ x.f2, sm_Member y)
theorem zz_Group (x : S101) (left : Int) (h0 : 0 ≤ left) (h1 : left ≤ 1048576) (hw : wf101 x) : Z (fun k => laws_szGroup.f k x.f0 x.f1 x.f2 x.f3 x.f4 left) left (sm_Group x) := by
  unfold laws_szGroup.f
  unfold wf101 at hw
  refine z_mono (z_call (by omega) (zz_AccountS _ _ (by omega) (by omega) hw.1) (fun t0 g0 k0 => (z_call (by omega) (zz_MemberS _ _ (by omega) (by omega) hw.2.2.1) (fun t2 g2 k2 => z_end)))) ?_
  rintro ⟨h0, h2, _⟩
  exact ⟨h0, h2⟩
theorem tt_Group (x : S101) (hs : sm_Group x) : Ev (fun k => laws_toGroup.f k x.f0 x.f1 x.f2 x.f3 x.f4) ((cv_Group x).f0, (cv_Group x).f1, (cv_Group x).f2, (cv_Group x).f3, (cv_Group x).f4) := by
  unfold laws_toGroup.f
  unfold sm_Group at hs
  refine ev_bind (tt_AccountS _ hs.1) ?_
  refine ev_bind (tt_MemberS _ hs.2) ?_
  exact ev_some _
def lk_Group (x : S107) : Prop := (x.f0.length ≤ 4611686018427387904 ∧ ∀ y ∈ x.f0, lk_Account y) ∧ (x.f2.length ≤ 4611686018427387904 ∧ ∀ y ∈ x.f2, lk_Member y)
theorem ee_Group (x : S107) (h : lk_Group x) : Ev (fun k => laws_eqGroup.f k x.f0 x.f1 x.f2 x.f3 x.f4 x.f0 x.f1 x.f2 x.f3 x.f4) true := by
  unfold laws_eqGroup.f
  unfold lk_Group at h
  obtain ⟨h0, h2⟩ := h
  refine ev_bind (ee_AccountS _ h0) (ev_pos rfl ?_)
  refine ev_pos rfl ?_
  refine ev_bind (ee_MemberS _ h2) (ev_pos rfl ?_)
  refine ev_pos rfl ?_
  refine ev_pos rfl ?_
  exact ev_some _
end Go.Proofs.Ytnbecbgpefmcoaa.PFnExactGroupOk
