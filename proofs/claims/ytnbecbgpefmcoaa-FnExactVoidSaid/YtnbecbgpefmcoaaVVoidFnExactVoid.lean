import Derived.Test.YtnbecbgpefmcoaaVRegFnExactVoid
import Derived.Test.YtnbecbgpefmcoaaVMarkFnExactVoid
set_option linter.unusedVariables false
set_option linter.unusedSimpArgs false
namespace Go.Proofs.Ytnbecbgpefmcoaa.PFnExactVoid
open Go Go.RowKit Go.Proofs.YtnbecbgpefmcoaaW.PrintWords Go.Proofs.YtnbecbgpefmcoaaW.PrintLast Go.Proofs.Ytnbecbgpefmcoaa.MapWords Go.Proofs.Ytnbecbgpefmcoaa.EvWords
open Classical
theorem rd_setS {l : List Ser} {i j : Nat} (x : Ser) (hi : i < l.length) : rd_T304 (l.set i x) (j : Int) = if i = j then x else rd_T304 l (j : Int) := by
  simp only [rd_T304, Int.toNat_natCast, List.getD_eq_getElem?_getD, List.getElem?_set]
  by_cases h : i = j
  · subst h; simp [hi]
  · simp [h]
theorem rd_setP {l : List Pap} {i j : Nat} (x : Pap) (hi : i < l.length) : rd_T230 (l.set i x) (j : Int) = if i = j then x else rd_T230 l (j : Int) := by
  simp only [rd_T230, Int.toNat_natCast, List.getD_eq_getElem?_getD, List.getElem?_set]
  by_cases h : i = j
  · subst h; simp [hi]
  · simp [h]
noncomputable def mkS (m : Int) (i : Nat) : Ser := ⟨mtx (m + 2 * i), m + 2 * i + 1⟩
def mkP (m : Int) (i : Nat) : Pap := ⟨m + 4 * i, m + 4 * i + 1, m + 4 * i + 2, Int.tmod (m + 4 * i + 3) 3 == 0⟩
theorem mark_ser (l : List Ser) (hl : l.length ≤ 4611686018) (m : Int) (hm : 0 ≤ m ∧ m ≤ 4611686018) :
    ∃ l', Ev (fun k => laws_markSeriesS.f k l m) (m + 2 * l.length, l') ∧ l'.length = l.length ∧ ∀ j : Nat, j < l.length → rd_T304 l' j = mkS m j := by
  have := ev_run (F := fun k (s : List Ser × Int) i => laws_markSeriesS.l0 k s.1 s.2 i) (n := l.length) (I := fun i s => s.1.length = l.length ∧ s.2 = m + 2 * i ∧ ∀ j : Nat, j < i → rd_T304 s.1 j = mkS m j)
    (Post := fun r : Int × List Ser => r.1 = m + 2 * l.length ∧ r.2.length = l.length ∧ ∀ j : Nat, j < l.length → rd_T304 r.2 j = mkS m j)
    (fun s h => by
      refine ⟨(s.2, s.1), ?_, h.2.1, h.1, h.2.2⟩
      refine Ev.step (fun _ => rfl) ?_
      exact ev_neg (by omega) (ev_some _))
    (fun i s hi h => by
      obtain ⟨h1, h2, h3⟩ := h
      have hw1 : wrap64 (s.2 + 1) = s.2 + 1 := wrap_id (by omega) (by omega)
      have hw2 : wrap64 (s.2 + 1 + 1) = s.2 + 1 + 1 := wrap_id (by omega) (by omega)
      refine .inr ⟨((s.1.set i (mkS m i)), s.2 + 1 + 1), ⟨by simpa using h1, by omega, fun j hj => ?_⟩, fun r hr => ?_⟩
      · rw [rd_setS _ (by omega)]
        by_cases hji : i = j
        · subst hji; rw [if_pos rfl]
        · rw [if_neg hji]; exact h3 j (by omega)
      · refine Ev.step (fun _ => rfl) ?_
        refine ev_pos (by omega) (ev_bind (mtx_ev (by omega)) (ev_pos (by omega) (ev_bind0 rfl ?_)))
        rw [hw1, hw2, wrap_succ hi (by omega)]
        have e : (s.1.set ((i : Int)).toNat (⟨mtx s.2, (rd_T304 s.1 i).f1⟩ : Ser)).set ((i : Int)).toNat (⟨(rd_T304 (s.1.set ((i : Int)).toNat (⟨mtx s.2, (rd_T304 s.1 i).f1⟩ : Ser)) i).f0, s.2 + 1⟩ : Ser) = s.1.set i (mkS m i) := by
          simp only [Int.toNat_natCast]
          rw [rd_setS _ (by omega), if_pos rfl, List.set_set, h2]
          rfl
        rw [e]
        exact hr)
    l.length 0 (l, m) (by omega) ⟨rfl, by omega, fun j hj => by omega⟩
  obtain ⟨r, h1, h2, h3, h4⟩ := this
  refine ⟨r.2, ?_, h3, h4⟩
  unfold laws_markSeriesS.f
  refine ev_eq h1 ?_
  rw [← h2]
theorem mark_pap (l : List Pap) (hl : l.length ≤ 4611686018) (m : Int) (hm : 0 ≤ m ∧ m ≤ 46116860180) :
    ∃ l', Ev (fun k => laws_markPaperS.f k l m) (m + 4 * l.length, l') ∧ l'.length = l.length ∧ ∀ j : Nat, j < l.length → rd_T230 l' j = mkP m j := by
  have := ev_run (F := fun k (s : List Pap × Int) i => laws_markPaperS.l0 k s.1 s.2 i) (n := l.length) (I := fun i s => s.1.length = l.length ∧ s.2 = m + 4 * i ∧ ∀ j : Nat, j < i → rd_T230 s.1 j = mkP m j)
    (Post := fun r : Int × List Pap => r.1 = m + 4 * l.length ∧ r.2.length = l.length ∧ ∀ j : Nat, j < l.length → rd_T230 r.2 j = mkP m j)
    (fun s h => by
      refine ⟨(s.2, s.1), ?_, h.2.1, h.1, h.2.2⟩
      refine Ev.step (fun _ => rfl) ?_
      exact ev_neg (by omega) (ev_some _))
    (fun i s hi h => by
      obtain ⟨h1, h2, h3⟩ := h
      have hw1 : wrap64 (s.2 + 1) = s.2 + 1 := wrap_id (by omega) (by omega)
      have hw2 : wrap64 (s.2 + 1 + 1) = s.2 + 1 + 1 := wrap_id (by omega) (by omega)
      have hw3 : wrap64 (s.2 + 1 + 1 + 1) = s.2 + 1 + 1 + 1 := wrap_id (by omega) (by omega)
      have hw4 : wrap64 (s.2 + 1 + 1 + 1 + 1) = s.2 + 1 + 1 + 1 + 1 := wrap_id (by omega) (by omega)
      refine .inr ⟨((s.1.set i (mkP m i)), s.2 + 1 + 1 + 1 + 1), ⟨by simpa using h1, by omega, fun j hj => ?_⟩, fun r hr => ?_⟩
      · rw [rd_setP _ (by omega)]
        by_cases hji : i = j
        · subst hji; rw [if_pos rfl]
        · rw [if_neg hji]; exact h3 j (by omega)
      · refine Ev.step (fun _ => rfl) ?_
        refine ev_pos (by omega) (ev_pos (by omega) (ev_bind0 rfl (ev_bind0 rfl (ev_bind0 rfl ?_))))
        simp only [hw1, hw2, hw3, hw4, wrap_succ hi (show l.length ≤ 9223372036854775807 by omega), Int.toNat_natCast]
        simp only [List.set_set, rd_setP _ (show i < s.1.length by omega), if_true]
        have e2 : mkP m i = ⟨s.2, s.2 + 1, s.2 + 1 + 1, Int.tmod (s.2 + 1 + 1 + 1) 3 == 0⟩ := by
          unfold mkP
          rw [h2, show m + 4 * (i : Int) + 1 + 1 = m + 4 * i + 2 by omega, show m + 4 * (i : Int) + 2 + 1 = m + 4 * i + 3 by omega]
        rw [e2] at hr
        exact hr)
    l.length 0 (l, m) (by omega) ⟨rfl, by omega, fun j hj => by omega⟩
  obtain ⟨r, h1, h2, h3, h4⟩ := this
  refine ⟨r.2, ?_, h3, h4⟩
  unfold laws_markPaperS.f
  refine ev_eq h1 ?_
  rw [← h2]
theorem held_ser (l : List Ser) (hl : l.length ≤ 4611686018) (m : Int) (hm : 0 ≤ m ∧ m ≤ 4611686018) (h : ∀ j : Nat, j < l.length → rd_T304 l j = mkS m j) : Ev (fun k => laws_heldSeriesS.f k l m) (m + 2 * l.length) := by
  unfold laws_heldSeriesS.f
  have := ev_pass (F := fun k x => laws_heldSeriesS.l0 k l (m + 2 * x) x) (n := l.length) (R := m + 2 * l.length)
    (by
      refine Ev.step (fun _ => rfl) ?_
      exact ev_neg (by omega) (ev_some _))
    (fun i r hi hr => by
      have hw1 : wrap64 (m + 2 * (i : Int) + 1) = m + 2 * i + 1 := wrap_id (by omega) (by omega)
      have hw2 : wrap64 (m + 2 * (i : Int) + 1 + 1) = m + 2 * ((i + 1 : Nat) : Int) := (wrap_id (by omega) (by omega)).trans (by omega)
      have e := h i hi
      refine Ev.step (fun _ => rfl) ?_
      refine ev_pos (by omega) (ev_pos (by omega) (ev_bind (mtx_ev (by omega)) (ev_pos (by rw [e]; rfl) (ev_pos (by rw [e, hw1]; rfl) ?_))))
      rw [hw1, hw2, wrap_succ hi (by omega)]
      exact hr)
  simpa using this
theorem held_pap (l : List Pap) (hl : l.length ≤ 4611686018) (m : Int) (hm : 0 ≤ m ∧ m ≤ 46116860180) (h : ∀ j : Nat, j < l.length → rd_T230 l j = mkP m j) : Ev (fun k => laws_heldPaperS.f k l m) (m + 4 * l.length) := by
  unfold laws_heldPaperS.f
  have := ev_pass (F := fun k x => laws_heldPaperS.l0 k l (m + 4 * x) x) (n := l.length) (R := m + 4 * l.length)
    (by
      refine Ev.step (fun _ => rfl) ?_
      exact ev_neg (by omega) (ev_some _))
    (fun i r hi hr => by
      have hw1 : wrap64 (m + 4 * (i : Int) + 1) = m + 4 * i + 1 := wrap_id (by omega) (by omega)
      have hw2 : wrap64 (m + 4 * (i : Int) + 1 + 1) = m + 4 * i + 2 := (wrap_id (by omega) (by omega)).trans (by omega)
      have hw3 : wrap64 (m + 4 * (i : Int) + 2 + 1) = m + 4 * i + 3 := (wrap_id (by omega) (by omega)).trans (by omega)
      have hw4 : wrap64 (m + 4 * (i : Int) + 3 + 1) = m + 4 * ((i + 1 : Nat) : Int) := (wrap_id (by omega) (by omega)).trans (by omega)
      have e := h i hi
      refine Ev.step (fun _ => rfl) ?_
      refine ev_pos (by omega) (ev_pos (by omega) (ev_pos (by rw [e]; rfl) (ev_pos (by rw [e, hw1]; rfl) (ev_pos (by rw [e, hw1, hw2]; rfl) (ev_neg ?_ ?_)))))
      · rw [e, hw1, hw2, hw3]; simp [mkP]
      · rw [hw1, hw2, hw3, hw4, wrap_succ hi (by omega)]
        exact hr)
  simpa using this
theorem mark_reg (S : List Ser) (P : List Pap) (hS : S.length ≤ 4611686) (hP : P.length ≤ 4611686) : ∃ S' P', Ev (fun k => laws_markRegister.f k S P 1) (1 + 2 * (S.length : Int) + 4 * P.length, S', P') ∧ Ev (fun k => laws_heldRegister.f k S' P' 1) (1 + 2 * (S.length : Int) + 4 * P.length) := by
  obtain ⟨S', a1, a2, a3⟩ := mark_ser S (by omega) 1 (by omega)
  obtain ⟨P', b1, b2, b3⟩ := mark_pap P (by omega) (1 + 2 * S.length) (by omega)
  refine ⟨S', P', ?_, ?_⟩
  · unfold laws_markRegister.f
    exact ev_bind a1 (ev_bind b1 (ev_some _))
  · unfold laws_heldRegister.f
    refine ev_bind (held_ser S' (by omega) 1 (by omega) (fun j hj => a3 j (by omega))) (ev_neg (by omega) ?_)
    rw [a2]
    refine ev_bind (held_pap P' (by omega) _ (by omega) (fun j hj => b3 j (by omega))) (ev_neg (by omega) ?_)
    rw [b2]
    exact ev_some _
theorem spec_copy (S : List Ser) (P : List Pap) (hS : S.length ≤ 4611686) (hP : P.length ≤ 4611686) : spec_l11Register.f S P = some (S, P) := by
  unfold spec_l11Register.f
  simp only [Option.bind_some]
  rw [if_pos (by simp; omega), if_pos (by simp; omega)]
  rfl
theorem impl_copy (S : List Ser) (P : List Pap) (hS : S.length ≤ 4611686) (hP : P.length ≤ 4611686) : impl_copyRegister.f S P = some (S, P) := by
  unfold impl_copyRegister.f
  simp only [Option.bind_some]
  rw [if_pos (by simp; omega), if_pos (by simp; omega)]
  rfl
noncomputable def voidR (S : List Ser) (P : List Pap) (a : Int) : List Ser × List Pap × Bool :=
  if ¬ regP S P then ([], [], false)
  else if ¬ (0 ≤ a ∧ a < P.length) then (S, P, false)
  else if (rd_T230 P a).f3 = true then (S, P, false)
  else (S, P.set a.toNat ⟨(rd_T230 P a).f0, (rd_T230 P a).f1, (rd_T230 P a).f2, true⟩, true)
section
variable (S : List Ser) (hs : ∀ i : Nat, i < S.length → (rd_T304 S i).f0.size ≤ 9223372036854775807) (P : List Pap) (hp : ∀ i : Nat, i < P.length → (-9223372036854775808 ≤ (rd_T230 P i).f0 ∧ (rd_T230 P i).f0 ≤ 9223372036854775807) ∧ (-9223372036854775808 ≤ (rd_T230 P i).f2 ∧ (rd_T230 P i).f2 ≤ 9223372036854775807)) (hS : S.length ≤ 4611686) (hP : P.length ≤ 4611686) (a : Int)
include hs hp hS hP
theorem impl_void : Ev (fun k => impl_Void.f k S P a) (voidR S P a) := by
  unfold impl_Void.f
  refine ev_bind (implReg S hs P hp) ?_
  by_cases h1 : regP S P
  · refine ev_pos (decide_eq_true h1) (ev_bind0 (impl_copy S P hS hP) ?_)
    by_cases h2 : a < 0
    · refine ev_pos h2 (ev_eq (ev_some _) ?_)
      rw [voidR, if_neg (fun g => g h1), if_pos (by omega)]
    · refine ev_neg h2 ?_
      by_cases h3 : a ≥ (P.length : Int)
      · refine ev_pos h3 (ev_eq (ev_some _) ?_)
        rw [voidR, if_neg (fun g => g h1), if_pos (by omega)]
      · have h : 0 ≤ a ∧ a < P.length := ⟨by omega, by omega⟩
        refine ev_neg h3 (ev_pos h.1 (ev_pos h.2 ?_))
        by_cases h4 : (rd_T230 P a).f3 = true
        · refine ev_pos h4 (ev_eq (ev_some _) ?_)
          rw [voidR, if_neg (fun g => g h1), if_neg (fun g => g h), if_pos h4]
        · refine ev_neg h4 (ev_pos h.2 (ev_eq (ev_some _) ?_))
          rw [voidR, if_neg (fun g => g h1), if_neg (fun g => g h), if_neg h4]
  · refine ev_neg (by rw [decide_eq_true_eq]; exact h1) (ev_eq (ev_some _) ?_)
    rw [voidR, if_pos h1]
omit hp in
theorem spec_void : Ev (fun k => spec_Void.f k S P a) (voidR S P a) := by
  unfold spec_Void.f
  refine ev_bind (specReg S hs P) ?_
  by_cases h1 : regP S P
  · have hw0 : wrap64 ((P.length : Int) - 1) = (P.length : Int) - 1 := wrap_id (by omega) (by omega)
    refine ev_pos (decide_eq_true h1) (ev_bind0 (spec_copy S P hS hP) (ev_bind0 (l1In_eq _ _ _) ?_))
    rw [hw0]
    by_cases h2 : 0 ≤ a ∧ a ≤ (P.length : Int) - 1
    · have h : 0 ≤ a ∧ a < P.length := ⟨h2.1, by omega⟩
      refine ev_pos (decide_eq_true h2) (ev_pos h.1 (ev_pos h.2 ?_))
      by_cases h4 : (rd_T230 P a).f3 = true
      · refine ev_pos h4 (ev_eq (ev_some _) ?_)
        rw [voidR, if_neg (fun g => g h1), if_neg (fun g => g h), if_pos h4]
      · refine ev_neg h4 (ev_pos h.2 (ev_eq (ev_some _) ?_))
        rw [voidR, if_neg (fun g => g h1), if_neg (fun g => g h), if_neg h4]
    · refine ev_neg (by rw [decide_eq_true_eq]; exact h2) (ev_eq (ev_some _) ?_)
      rw [voidR, if_neg (fun g => g h1), if_pos (fun g => h2 ⟨g.1, by omega⟩)]
  · refine ev_neg (by rw [decide_eq_true_eq]; exact h1) (ev_eq (ev_some _) ?_)
    rw [voidR, if_pos h1]
end
theorem void_len (S : List Ser) (P : List Pap) (a : Int) : (voidR S P a).1.length ≤ S.length ∧ (voidR S P a).2.1.length ≤ P.length := by
  unfold voidR
  repeat' split
  all_goals simp
end Go.Proofs.Ytnbecbgpefmcoaa.PFnExactVoid
