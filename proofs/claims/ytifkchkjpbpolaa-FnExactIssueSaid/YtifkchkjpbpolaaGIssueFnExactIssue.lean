import Derived.Test.YtifkchkjpbpolaaGRegFnExactIssue
import Derived.Test.YtifkchkjpbpolaaGMarkFnExactIssue
set_option linter.unusedVariables false
set_option linter.unusedSimpArgs false
namespace Go.Proofs.Ytifkchkjpbpolaa.PFnExactIssue
open Go Go.RowKit Go.Proofs.YtifkchkjpbpolaaW.PrintWords Go.Proofs.YtifkchkjpbpolaaW.PrintLast Go.Proofs.Ytifkchkjpbpolaa.MapWords Go.Proofs.Ytifkchkjpbpolaa.EvWords
open Classical
theorem rd_setS {l : List Ser} {i j : Nat} (x : Ser) (hi : i < l.length) : rd_T124 (l.set i x) (j : Int) = if i = j then x else rd_T124 l (j : Int) := by
  simp only [rd_T124, Int.toNat_natCast, List.getD_eq_getElem?_getD, List.getElem?_set]
  by_cases h : i = j
  · subst h; simp [hi]
  · simp [h]
theorem rd_setP {l : List Pap} {i j : Nat} (x : Pap) (hi : i < l.length) : rd_T120 (l.set i x) (j : Int) = if i = j then x else rd_T120 l (j : Int) := by
  simp only [rd_T120, Int.toNat_natCast, List.getD_eq_getElem?_getD, List.getElem?_set]
  by_cases h : i = j
  · subst h; simp [hi]
  · simp [h]
noncomputable def mkS (m : Int) (i : Nat) : Ser := ⟨mtx (m + 2 * i), m + 2 * i + 1⟩
def mkP (m : Int) (i : Nat) : Pap := ⟨m + 4 * i, m + 4 * i + 1, m + 4 * i + 2, Int.tmod (m + 4 * i + 3) 3 == 0⟩
theorem mark_ser (l : List Ser) (hl : l.length ≤ 4611686018) (m : Int) (hm : 0 ≤ m ∧ m ≤ 4611686018) :
    ∃ l', Ev (fun k => laws_markSeriesS.f k l m) (m + 2 * l.length, l') ∧ l'.length = l.length ∧ ∀ j : Nat, j < l.length → rd_T124 l' j = mkS m j := by
  have := ev_run (F := fun k (s : List Ser × Int) i => laws_markSeriesS.l0 k s.1 s.2 i) (n := l.length) (I := fun i s => s.1.length = l.length ∧ s.2 = m + 2 * i ∧ ∀ j : Nat, j < i → rd_T124 s.1 j = mkS m j)
    (Post := fun r : Int × List Ser => r.1 = m + 2 * l.length ∧ r.2.length = l.length ∧ ∀ j : Nat, j < l.length → rd_T124 r.2 j = mkS m j)
    (fun s h => by
      refine ⟨(s.2, s.1), ?_, h.2.1, h.1, h.2.2⟩
      refine Ev.step (fun _ => rfl) ?_
      exact ev_neg (by omega) (ev_some _))
    (fun i s hi h => by
      obtain ⟨h1, h2, h3⟩ := h
      have hw1 : wrap64 (s.2 + 1) = s.2 + 1 := wrap_id (by omega) (by omega)
      have hw2 : wrap64 (s.2 + 1 + 1) = s.2 + 1 + 1 := wrap_id (by omega) (by omega)
      refine .inr ⟨((s.1.set i (mkS m i)), s.2 + 1 + 1), ⟨by simpa using h1, by omega, fun j hj => ?_⟩, fun r hr => ?_⟩
      · rw [rd_setS _ (by omega)]
        by_cases hji : i = j
        · subst hji; rw [if_pos rfl]
        · rw [if_neg hji]; exact h3 j (by omega)
      · refine Ev.step (fun _ => rfl) ?_
        refine ev_pos (by omega) (ev_bind (mtx_ev (by omega)) (ev_pos (by omega) (ev_bind0 rfl ?_)))
        rw [hw1, hw2, wrap_succ hi (by omega)]
        have e : (s.1.set ((i : Int)).toNat (⟨mtx s.2, (rd_T124 s.1 i).f1⟩ : Ser)).set ((i : Int)).toNat (⟨(rd_T124 (s.1.set ((i : Int)).toNat (⟨mtx s.2, (rd_T124 s.1 i).f1⟩ : Ser)) i).f0, s.2 + 1⟩ : Ser) = s.1.set i (mkS m i) := by
          simp only [Int.toNat_natCast]
          rw [rd_setS _ (by omega), if_pos rfl, List.set_set, h2]
          rfl
        rw [e]
        exact hr)
    l.length 0 (l, m) (by omega) ⟨rfl, by omega, fun j hj => by omega⟩
  obtain ⟨r, h1, h2, h3, h4⟩ := this
  refine ⟨r.2, ?_, h3, h4⟩
  unfold laws_markSeriesS.f
  refine ev_eq h1 ?_
  rw [← h2]
theorem mark_pap (l : List Pap) (hl : l.length ≤ 4611686018) (m : Int) (hm : 0 ≤ m ∧ m ≤ 46116860180) :
    ∃ l', Ev (fun k => laws_markPaperS.f k l m) (m + 4 * l.length, l') ∧ l'.length = l.length ∧ ∀ j : Nat, j < l.length → rd_T120 l' j = mkP m j := by
  have := ev_run (F := fun k (s : List Pap × Int) i => laws_markPaperS.l0 k s.1 s.2 i) (n := l.length) (I := fun i s => s.1.length = l.length ∧ s.2 = m + 4 * i ∧ ∀ j : Nat, j < i → rd_T120 s.1 j = mkP m j)
    (Post := fun r : Int × List Pap => r.1 = m + 4 * l.length ∧ r.2.length = l.length ∧ ∀ j : Nat, j < l.length → rd_T120 r.2 j = mkP m j)
    (fun s h => by
      refine ⟨(s.2, s.1), ?_, h.2.1, h.1, h.2.2⟩
      refine Ev.step (fun _ => rfl) ?_
      exact ev_neg (by omega) (ev_some _))
    (fun i s hi h => by
      obtain ⟨h1, h2, h3⟩ := h
      have hw1 : wrap64 (s.2 + 1) = s.2 + 1 := wrap_id (by omega) (by omega)
      have hw2 : wrap64 (s.2 + 1 + 1) = s.2 + 1 + 1 := wrap_id (by omega) (by omega)
      have hw3 : wrap64 (s.2 + 1 + 1 + 1) = s.2 + 1 + 1 + 1 := wrap_id (by omega) (by omega)
      have hw4 : wrap64 (s.2 + 1 + 1 + 1 + 1) = s.2 + 1 + 1 + 1 + 1 := wrap_id (by omega) (by omega)
      refine .inr ⟨((s.1.set i (mkP m i)), s.2 + 1 + 1 + 1 + 1), ⟨by simpa using h1, by omega, fun j hj => ?_⟩, fun r hr => ?_⟩
      · rw [rd_setP _ (by omega)]
        by_cases hji : i = j
        · subst hji; rw [if_pos rfl]
        · rw [if_neg hji]; exact h3 j (by omega)
      · refine Ev.step (fun _ => rfl) ?_
        refine ev_pos (by omega) (ev_pos (by omega) (ev_bind0 rfl (ev_bind0 rfl (ev_bind0 rfl ?_))))
        simp only [hw1, hw2, hw3, hw4, wrap_succ hi (show l.length ≤ 9223372036854775807 by omega), Int.toNat_natCast]
        simp only [List.set_set, rd_setP _ (show i < s.1.length by omega), if_true]
        have e2 : mkP m i = ⟨s.2, s.2 + 1, s.2 + 1 + 1, Int.tmod (s.2 + 1 + 1 + 1) 3 == 0⟩ := by
          unfold mkP
          rw [h2, show m + 4 * (i : Int) + 1 + 1 = m + 4 * i + 2 by omega, show m + 4 * (i : Int) + 2 + 1 = m + 4 * i + 3 by omega]
        rw [e2] at hr
        exact hr)
    l.length 0 (l, m) (by omega) ⟨rfl, by omega, fun j hj => by omega⟩
  obtain ⟨r, h1, h2, h3, h4⟩ := this
  refine ⟨r.2, ?_, h3, h4⟩
  unfold laws_markPaperS.f
  refine ev_eq h1 ?_
  rw [← h2]
theorem held_ser (l : List Ser) (hl : l.length ≤ 4611686018) (m : Int) (hm : 0 ≤ m ∧ m ≤ 4611686018) (h : ∀ j : Nat, j < l.length → rd_T124 l j = mkS m j) : Ev (fun k => laws_heldSeriesS.f k l m) (m + 2 * l.length) := by
  unfold laws_heldSeriesS.f
  have := ev_pass (F := fun k x => laws_heldSeriesS.l0 k l (m + 2 * x) x) (n := l.length) (R := m + 2 * l.length)
    (by
      refine Ev.step (fun _ => rfl) ?_
      exact ev_neg (by omega) (ev_some _))
    (fun i r hi hr => by
      have hw1 : wrap64 (m + 2 * (i : Int) + 1) = m + 2 * i + 1 := wrap_id (by omega) (by omega)
      have hw2 : wrap64 (m + 2 * (i : Int) + 1 + 1) = m + 2 * ((i + 1 : Nat) : Int) := (wrap_id (by omega) (by omega)).trans (by omega)
      have e := h i hi
      refine Ev.step (fun _ => rfl) ?_
      refine ev_pos (by omega) (ev_pos (by omega) (ev_bind (mtx_ev (by omega)) (ev_pos (by rw [e]; rfl) (ev_pos (by rw [e, hw1]; rfl) ?_))))
      rw [hw1, hw2, wrap_succ hi (by omega)]
      exact hr)
  simpa using this
theorem held_pap (l : List Pap) (hl : l.length ≤ 4611686018) (m : Int) (hm : 0 ≤ m ∧ m ≤ 46116860180) (h : ∀ j : Nat, j < l.length → rd_T120 l j = mkP m j) : Ev (fun k => laws_heldPaperS.f k l m) (m + 4 * l.length) := by
  unfold laws_heldPaperS.f
  have := ev_pass (F := fun k x => laws_heldPaperS.l0 k l (m + 4 * x) x) (n := l.length) (R := m + 4 * l.length)
    (by
      refine Ev.step (fun _ => rfl) ?_
      exact ev_neg (by omega) (ev_some _))
    (fun i r hi hr => by
      have hw1 : wrap64 (m + 4 * (i : Int) + 1) = m + 4 * i + 1 := wrap_id (by omega) (by omega)
      have hw2 : wrap64 (m + 4 * (i : Int) + 1 + 1) = m + 4 * i + 2 := (wrap_id (by omega) (by omega)).trans (by omega)
      have hw3 : wrap64 (m + 4 * (i : Int) + 2 + 1) = m + 4 * i + 3 := (wrap_id (by omega) (by omega)).trans (by omega)
      have hw4 : wrap64 (m + 4 * (i : Int) + 3 + 1) = m + 4 * ((i + 1 : Nat) : Int) := (wrap_id (by omega) (by omega)).trans (by omega)
      have e := h i hi
      refine Ev.step (fun _ => rfl) ?_
      refine ev_pos (by omega) (ev_pos (by omega) (ev_pos (by rw [e]; rfl) (ev_pos (by rw [e, hw1]; rfl) (ev_pos (by rw [e, hw1, hw2]; rfl) (ev_neg ?_ ?_)))))
      · rw [e, hw1, hw2, hw3]; simp [mkP]
      · rw [hw1, hw2, hw3, hw4, wrap_succ hi (by omega)]
        exact hr)
  simpa using this
theorem mark_reg (S : List Ser) (P : List Pap) (hS : S.length ≤ 4611686) (hP : P.length ≤ 4611686) : ∃ S' P', Ev (fun k => laws_markRegister.f k S P 1) (1 + 2 * (S.length : Int) + 4 * P.length, S', P') ∧ Ev (fun k => laws_heldRegister.f k S' P' 1) (1 + 2 * (S.length : Int) + 4 * P.length) := by
  obtain ⟨S', a1, a2, a3⟩ := mark_ser S (by omega) 1 (by omega)
  obtain ⟨P', b1, b2, b3⟩ := mark_pap P (by omega) (1 + 2 * S.length) (by omega)
  refine ⟨S', P', ?_, ?_⟩
  · unfold laws_markRegister.f
    exact ev_bind a1 (ev_bind b1 (ev_some _))
  · unfold laws_heldRegister.f
    refine ev_bind (held_ser S' (by omega) 1 (by omega) (fun j hj => a3 j (by omega))) (ev_neg (by omega) ?_)
    rw [a2]
    refine ev_bind (held_pap P' (by omega) _ (by omega) (fun j hj => b3 j (by omega))) (ev_neg (by omega) ?_)
    rw [b2]
    exact ev_some _
theorem spec_copy (S : List Ser) (P : List Pap) (hS : S.length ≤ 4611686) (hP : P.length ≤ 4611686) : spec_l11Register.f S P = some (S, P) := by
  unfold spec_l11Register.f
  simp only [Option.bind_some]
  rw [if_pos (by simp; omega), if_pos (by simp; omega)]
  rfl
theorem impl_copy (S : List Ser) (P : List Pap) (hS : S.length ≤ 4611686) (hP : P.length ≤ 4611686) : impl_copyRegister.f S P = some (S, P) := by
  unfold impl_copyRegister.f
  simp only [Option.bind_some]
  rw [if_pos (by simp; omega), if_pos (by simp; omega)]
  rfl
noncomputable def issueR (S : List Ser) (P : List Pap) (s d : Int) : List Ser × List Pap × Int :=
  if ¬ regP S P then ([], [], 1)
  else if ¬ (0 ≤ s ∧ s < S.length) then (S, P, 2)
  else if ¬ (0 ≤ d ∧ d ≤ 40000) ∨ d < lst P s P.length then (S, P, 3)
  else if P.length = 400 ∨ (dg (cnt P s P.length + 1) : Int) > (rd_T124 S s).f1 then (S, P, 4)
  else (S, P ++ [⟨s, cnt P s P.length + 1, d, false⟩], 0)
section
variable (S : List Ser) (hs : ∀ i : Nat, i < S.length → (rd_T124 S i).f0.size ≤ 9223372036854775807) (P : List Pap) (hp : ∀ i : Nat, i < P.length → (-9223372036854775808 ≤ (rd_T120 P i).f0 ∧ (rd_T120 P i).f0 ≤ 9223372036854775807) ∧ (-9223372036854775808 ≤ (rd_T120 P i).f2 ∧ (rd_T120 P i).f2 ≤ 9223372036854775807)) (hS : S.length ≤ 4611686) (hP : P.length ≤ 4611686) (s d : Int)
include hs hp hS hP
theorem impl_issue : Ev (fun k => impl_Issue.f k S P s d) (issueR S P s d) := by
  unfold impl_Issue.f
  refine ev_bind (implReg S hs P hp) ?_
  by_cases h1 : regP S P
  · have hl := h1.1
    refine ev_pos (decide_eq_true h1) (ev_bind0 (impl_copy S P hS hP) ?_)
    have bad : ∀ b : Bool, b = true → ¬ (0 ≤ s ∧ s < S.length) → Ev (fun k => impl_Issue.j0 k s d b S P S P) (issueR S P s d) := by
      intro b hb h
      refine Ev.step (fun _ => rfl) ?_
      refine ev_pos hb (ev_eq (ev_some _) ?_)
      rw [issueR, if_neg (fun g => g h1), if_pos h]
    have good : ∀ b : Bool, b = false → (0 ≤ s ∧ s < S.length) → Ev (fun k => impl_Issue.j0 k s d b S P S P) (issueR S P s d) := by
      intro b hb h
      refine Ev.step (fun _ => rfl) ?_
      refine ev_neg (by simp [hb]) ?_
      have last : ∀ b : Bool, b = decide (¬ (0 ≤ d ∧ d ≤ 40000) ∨ d < lst P s P.length) → Ev (fun k => impl_Issue.j2 k s d (cnt P s P.length + 1) b S P S P) (issueR S P s d) := by
        intro b hb
        refine Ev.step (fun _ => rfl) ?_
        by_cases h3 : ¬ (0 ≤ d ∧ d ≤ 40000) ∨ d < lst P s P.length
        · refine ev_pos (by rw [hb]; exact decide_eq_true h3) (ev_eq (ev_some _) ?_)
          rw [issueR, if_neg (fun g => g h1), if_neg (fun g => g h), if_pos h3]
        · refine ev_neg (by rw [hb, decide_eq_true_eq]; exact h3) ?_
          have hc := cnt_bd P s P.length
          by_cases h4 : P.length = 400
          · refine ev_pos (by omega) (ev_eq (ev_some _) ?_)
            rw [issueR, if_neg (fun g => g h1), if_neg (fun g => g h), if_neg h3, if_pos (.inl h4)]
          · refine ev_neg (by omega) (ev_bind (dec_dg (by omega)) (ev_pos h.1 (ev_pos h.2 ?_)))
            by_cases h5 : (dg (cnt P s P.length + 1) : Int) > (rd_T124 S s).f1
            · refine ev_pos h5 (ev_eq (ev_some _) ?_)
              rw [issueR, if_neg (fun g => g h1), if_neg (fun g => g h), if_neg h3, if_pos (.inr h5)]
            · refine ev_neg h5 (ev_pos (by omega) (ev_eq (ev_some _) ?_))
              rw [issueR, if_neg (fun g => g h1), if_neg (fun g => g h), if_neg h3, if_neg (fun g => g.elim h4 h5)]
      have := ev_pass (F := fun k x => impl_Issue.l0 k s d (cnt P s x.toNat + 1) (lst P s x.toNat) P P.length x S P S P) (n := P.length) (R := issueR S P s d)
        (by
          refine Ev.step (fun _ => rfl) ?_
          refine ev_neg (by omega) (ev_bind0 (isDay_eq _) ?_)
          by_cases h3 : 0 ≤ d ∧ d ≤ 40000
          · refine ev_pos (decide_eq_true h3) (last _ ?_)
            rw [decide_eq_decide]
            exact ⟨fun g => .inr g, fun g => g.elim (fun g => absurd h3 g) id⟩
          · refine ev_neg (by rw [decide_eq_true_eq]; exact h3) (last true ?_)
            symm; rw [decide_eq_true_eq]; exact .inl h3)
        (fun i r hi hr => by
          have hb := cnt_bd P s i
          have hw : wrap64 ((i : Int) + 1) = ((i + 1 : Nat) : Int) := wrap_succ hi (by omega)
          refine Ev.step (fun _ => rfl) ?_
          refine ev_pos (by omega) (ev_pos (by omega) (ev_pos (by omega) ?_))
          by_cases h0 : (rd_T120 P i).f0 = s
          · refine ev_pos h0 ?_
            have f1 : cnt P s (i + 1) = cnt P s i + 1 := by rw [cnt, if_pos h0]
            have f2 : lst P s (i + 1) = (rd_T120 P i).f2 := by rw [lst, if_pos h0]
            have hr' : Ev (fun k => impl_Issue.l0 k s d (cnt P s (i + 1) + 1) (lst P s (i + 1)) P P.length ((i + 1 : Nat) : Int) S P S P) r := hr
            rw [f1, f2] at hr'
            rw [hw, wrap_id (x := cnt P s (i : Int).toNat + 1 + 1) (by simp; omega) (by simp; omega)]
            exact hr'
          · refine ev_neg h0 ?_
            have f1 : cnt P s (i + 1) = cnt P s i := by rw [cnt, if_neg h0]
            have f2 : lst P s (i + 1) = lst P s i := by rw [lst, if_neg h0]
            have hr' : Ev (fun k => impl_Issue.l0 k s d (cnt P s (i + 1) + 1) (lst P s (i + 1)) P P.length ((i + 1 : Nat) : Int) S P S P) r := hr
            rw [f1, f2] at hr'
            rw [hw]
            exact hr')
      exact this
    by_cases h2 : s < 0
    · exact ev_pos h2 (bad true rfl (by omega))
    · refine ev_neg h2 ?_
      by_cases h2' : s ≥ (S.length : Int)
      · exact bad _ (decide_eq_true h2') (by omega)
      · exact good _ (decide_eq_false h2') (by omega)
  · refine ev_neg (by rw [decide_eq_true_eq]; exact h1) (ev_eq (ev_some _) ?_)
    rw [issueR, if_pos h1]
omit hp in
theorem spec_issue : Ev (fun k => spec_Issue.f k S P s d) (issueR S P s d) := by
  unfold spec_Issue.f
  refine ev_bind (specReg S hs P) ?_
  by_cases h1 : regP S P
  · have hl := h1.1
    have hw0 : wrap64 ((S.length : Int) - 1) = (S.length : Int) - 1 := wrap_id (by omega) (by omega)
    refine ev_pos (decide_eq_true h1) (ev_bind0 (spec_copy S P hS hP) (ev_bind0 (l1In_eq _ _ _) ?_))
    rw [hw0]
    by_cases h2 : 0 ≤ s ∧ s ≤ (S.length : Int) - 1
    · have h : 0 ≤ s ∧ s < S.length := ⟨h2.1, by omega⟩
      refine ev_pos (decide_eq_true h2) ?_
      have last : ∀ b : Bool, b = decide (¬ (0 ≤ d ∧ d ≤ 40000) ∨ d < lst P s P.length) → Ev (fun k => spec_Issue.j1 k s d (cnt P s P.length + 1) b S P S P) (issueR S P s d) := by
        intro b hb
        refine Ev.step (fun _ => rfl) ?_
        by_cases h3 : ¬ (0 ≤ d ∧ d ≤ 40000) ∨ d < lst P s P.length
        · refine ev_pos (by rw [hb]; exact decide_eq_true h3) (ev_eq (ev_some _) ?_)
          rw [issueR, if_neg (fun g => g h1), if_neg (fun g => g h), if_pos h3]
        · refine ev_neg (by rw [hb, decide_eq_true_eq]; exact h3) ?_
          have hc := cnt_bd P s P.length
          by_cases h4 : P.length = 400
          · refine ev_pos (by omega) (ev_eq (ev_some _) ?_)
            rw [issueR, if_neg (fun g => g h1), if_neg (fun g => g h), if_neg h3, if_pos (.inl h4)]
          · obtain ⟨t, e1, e2⟩ := text_dg (n := cnt P s P.length + 1) (by omega)
            refine ev_neg (by omega) (ev_bind e1 (ev_pos h.1 (ev_pos h.2 ?_)))
            rw [e2]
            by_cases h5 : (dg (cnt P s P.length + 1) : Int) > (rd_T124 S s).f1
            · refine ev_pos h5 (ev_eq (ev_some _) ?_)
              rw [issueR, if_neg (fun g => g h1), if_neg (fun g => g h), if_neg h3, if_pos (.inr h5)]
            · refine ev_neg h5 (ev_pos (by omega) (ev_eq (ev_some _) ?_))
              rw [issueR, if_neg (fun g => g h1), if_neg (fun g => g h), if_neg h3, if_neg (fun g => g.elim h4 h5)]
      have := ev_pass (F := fun k x => spec_Issue.l0 k s d (cnt P s x.toNat + 1) (lst P s x.toNat) x S P S P) (n := P.length) (R := issueR S P s d)
        (by
          refine Ev.step (fun _ => rfl) ?_
          refine ev_neg (by omega) (ev_bind0 (l2Day_eq _) ?_)
          by_cases h3 : 0 ≤ d ∧ d ≤ 40000
          · refine ev_pos (decide_eq_true h3) (last _ ?_)
            rw [decide_eq_decide]
            exact ⟨fun g => .inr g, fun g => g.elim (fun g => absurd h3 g) id⟩
          · refine ev_neg (by rw [decide_eq_true_eq]; exact h3) (last true ?_)
            symm; rw [decide_eq_true_eq]; exact .inl h3)
        (fun i r hi hr => by
          have hb := cnt_bd P s i
          have hw : wrap64 ((i : Int) + 1) = ((i + 1 : Nat) : Int) := wrap_succ hi (by omega)
          refine Ev.step (fun _ => rfl) ?_
          refine ev_pos (by omega) (ev_pos (by omega) ?_)
          by_cases h0 : (rd_T120 P i).f0 = s
          · refine ev_pos h0 ?_
            have f1 : cnt P s (i + 1) = cnt P s i + 1 := by rw [cnt, if_pos h0]
            have f2 : lst P s (i + 1) = (rd_T120 P i).f2 := by rw [lst, if_pos h0]
            have hr' : Ev (fun k => spec_Issue.l0 k s d (cnt P s (i + 1) + 1) (lst P s (i + 1)) ((i + 1 : Nat) : Int) S P S P) r := hr
            rw [f1, f2] at hr'
            rw [hw, wrap_id (x := cnt P s (i : Int).toNat + 1 + 1) (by simp; omega) (by simp; omega)]
            exact hr'
          · refine ev_neg h0 ?_
            have f1 : cnt P s (i + 1) = cnt P s i := by rw [cnt, if_neg h0]
            have f2 : lst P s (i + 1) = lst P s i := by rw [lst, if_neg h0]
            have hr' : Ev (fun k => spec_Issue.l0 k s d (cnt P s (i + 1) + 1) (lst P s (i + 1)) ((i + 1 : Nat) : Int) S P S P) r := hr
            rw [f1, f2] at hr'
            rw [hw]
            exact hr')
      exact this
    · refine ev_neg (by rw [decide_eq_true_eq]; exact h2) (ev_eq (ev_some _) ?_)
      rw [issueR, if_neg (fun g => g h1), if_pos (fun g => h2 ⟨g.1, by omega⟩)]
  · refine ev_neg (by rw [decide_eq_true_eq]; exact h1) (ev_eq (ev_some _) ?_)
    rw [issueR, if_pos h1]
end
theorem issue_len (S : List Ser) (P : List Pap) (s d : Int) : (issueR S P s d).1.length ≤ S.length ∧ (issueR S P s d).2.1.length ≤ P.length + 1 := by
  unfold issueR
  repeat' split
  all_goals simp
end Go.Proofs.Ytifkchkjpbpolaa.PFnExactIssue
