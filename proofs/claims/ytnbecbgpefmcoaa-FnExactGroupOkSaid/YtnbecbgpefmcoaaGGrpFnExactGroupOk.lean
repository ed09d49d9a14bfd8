import Derived.Test.YtnbecbgpefmcoaaGChartFnExactGroupOk
set_option linter.unusedVariables false
set_option linter.unusedSimpArgs false
namespace Go.Proofs.Ytnbecbgpefmcoaa.PFnExactGroupOk
open Go Go.RowKit Go.Proofs.YtnbecbgpefmcoaaW.PrintWords Go.Proofs.YtnbecbgpefmcoaaW.PrintLast Go.Proofs.Ytnbecbgpefmcoaa.MapWords Go.Proofs.Ytnbecbgpefmcoaa.EvWords
open Classical
abbrev Mem := S245
theorem amount_eq (a : Int) : impl_amount.f a = some (decide (-100000000000 ≤ a ∧ a ≤ 100000000000)) := by
  unfold impl_amount.f; rw [between_eq]; rfl
theorem l1Amount_eq (a : Int) : spec_l1Amount.f a = some (decide (-100000000000 ≤ a ∧ a ≤ 100000000000)) := by
  unfold spec_l1Amount.f; rw [l1In_eq]; rfl
def wsum (l : List Int) : Nat → Int
  | 0 => 0
  | i + 1 => wrap64 (wsum l i + rd l i)
def cellP (c : List Acc) (l : List Int) (i : Nat) : Prop := (-100000000000 ≤ rd l i ∧ rd l i ≤ 100000000000) ∧ (rd l i = 0 ∨ leafP c i)
def trialP (c : List Acc) (l : List Int) : Prop := (∀ i : Nat, i < l.length → cellP c l i) ∧ wsum l l.length = 0
def memP (c : List Acc) (curs : Int) (l : List Mem) (i : Nat) : Prop :=
  ((i = 0 → (rd_T245 l i).f0 = -1 ∧ (rd_T245 l i).f1 = 10000) ∧ (0 < i → 0 ≤ (rd_T245 l i).f0 ∧ (rd_T245 l i).f0 ≤ (i : Int) - 1)) ∧
  (1 ≤ (rd_T245 l i).f1 ∧ (rd_T245 l i).f1 ≤ 10000) ∧ (0 ≤ (rd_T245 l i).f2 ∧ (rd_T245 l i).f2 ≤ curs - 1) ∧ (rd_T245 l i).f3.length = c.length ∧ trialP c (rd_T245 l i).f3
def eqtP (c : List Acc) (a : Int) : Prop := leafP c a ∧ (rd_T251 c a).f2 = 3
def groupP (c : List Acc) (curs : Int) (l : List Mem) (minor shift : Int) : Prop :=
  chartP c ∧ (1 ≤ curs ∧ curs ≤ 20) ∧ (1 ≤ l.length ∧ l.length ≤ 12) ∧ minor ≠ shift ∧ (eqtP c minor ∧ eqtP c shift) ∧ ∀ i : Nat, i < l.length → memP c curs l i
section
variable {c : List Acc} (hs : ∀ i : Nat, i < c.length → (rd_T251 c i).f0.size ≤ 9223372036854775807) (hc : chartP c) (curs : Int) (l : List Mem) (minor shift : Int)
include hs hc
theorem spec_trial (x : List Int) (hx : x.length = c.length) : Ev (fun k => spec_l8Trial.f k c x) (decide (trialP c x)) := by
  have hl := hc.1
  unfold spec_l8Trial.f
  refine ev_pos (by omega) ?_
  obtain ⟨g1, g2⟩ := ev_loop (F := fun k i => spec_l8Trial.l0 k c x (wsum x i.toNat) i) (n := x.length) (p := fun i => cellP c x i) (R := (wsum x x.length == 0)) (bad := false)
    (fun _ => by
      refine Ev.step (fun _ => rfl) ?_
      refine ev_neg (by omega) (ev_eq (ev_some _) ?_)
      simp)
    (fun i r hi _ hp h => by
      refine Ev.step (fun _ => rfl) ?_
      refine ev_pos (by omega) (ev_pos (by omega) (ev_bind0 (l1Amount_eq _) (ev_pos (decide_eq_true hp.1) ?_)))
      have hw : wrap64 ((i : Int) + 1) = ((i + 1 : Nat) : Int) := wrap_succ hi (by omega)
      have hg : Ev (fun k => spec_l8Trial.l0 k c x (wrap64 (wsum x (i : Int).toNat + rd x i)) (wrap64 ((i : Int) + 1))) r := by
        rw [hw]; exact h
      by_cases hz : rd x i = 0
      · exact ev_pos hz hg
      · exact ev_neg hz (ev_bind (specLeaf hs hc _) (ev_pos (decide_eq_true (hp.2.resolve_left hz)) hg)))
    (fun i hi _ hp => by
      refine Ev.step (fun _ => rfl) ?_
      refine ev_pos (by omega) (ev_pos (by omega) (ev_bind0 (l1Amount_eq _) ?_))
      by_cases ha : -100000000000 ≤ rd x i ∧ rd x i ≤ 100000000000
      · refine ev_pos (decide_eq_true ha) ?_
        have hz : ¬ rd x i = 0 := fun hz => hp ⟨ha, .inl hz⟩
        exact ev_neg hz (ev_bind (specLeaf hs hc _) (ev_neg (by rw [decide_eq_true_eq]; exact fun hq => hp ⟨ha, .inr hq⟩) (ev_some _)))
      · exact ev_neg (by rw [decide_eq_true_eq]; exact ha) (ev_some _))
  by_cases h : ∀ i : Nat, i < x.length → cellP c x i
  · refine ev_eq (g1 h) ?_
    by_cases h0 : wsum x x.length = 0
    · rw [decide_eq_true (show trialP c x from ⟨h, h0⟩), h0]; rfl
    · rw [decide_eq_false (show ¬ trialP c x from fun g => h0 g.2)]; simpa using h0
  · refine ev_eq (g2 h) ?_
    symm; rw [decide_eq_false_iff_not]
    exact fun g => h g.1
theorem spec_eqt (a : Int) : Ev (fun k => spec_l8Equity.f k c curs l minor shift a) (decide (eqtP c a)) := by
  unfold spec_l8Equity.f
  refine ev_bind (specLeaf hs hc a) ?_
  by_cases h : leafP c a
  · refine ev_pos (by simpa using h) (ev_pos h.1.1 (ev_pos h.1.2 (ev_eq (ev_some _) ?_)))
    by_cases h3 : (rd_T251 c a).f2 = 3
    · rw [decide_eq_true (show eqtP c a from ⟨h, h3⟩)]; simpa using h3
    · rw [decide_eq_false (show ¬ eqtP c a from fun g => h3 g.2)]; simpa using h3
  · refine ev_neg (by simpa using h) (ev_eq (ev_some _) ?_)
    symm; rw [decide_eq_false_iff_not]; exact fun g => h g.1
theorem spec_mems (hcu : 1 ≤ curs ∧ curs ≤ 20) (hl : l.length ≤ 12) : Ev (fun k => spec_GroupOk.l0 k 0 c curs l minor shift) (decide (∀ i : Nat, i < l.length → memP c curs l i)) := by
  have hcl := hc.1
  have hcw : wrap64 (curs - 1) = curs - 1 := wrap_id (by omega) (by omega)
  have step : ∀ (i : Nat) (r : Bool), i < l.length → (memP c curs l i → Ev (fun k => spec_GroupOk.l0 k ((i + 1 : Nat) : Int) c curs l minor shift) r) → (¬ memP c curs l i → r = false) → Ev (fun k => spec_GroupOk.l0 k i c curs l minor shift) r := by
    intro i r hi hr hbad
    have bad : ¬ memP c curs l i → Ev (fun _ => some false) r := fun h => by rw [hbad h]; exact ev_some _
    have hw : wrap64 ((i : Int) + 1) = ((i + 1 : Nat) : Int) := wrap_succ hi (by omega)
    have hw1 : wrap64 ((i : Int) - 1) = (i : Int) - 1 := wrap_id (by omega) (by omega)
    have join : ∀ b : Bool, b = decide (¬ ((i = 0 → (rd_T245 l i).f0 = -1 ∧ (rd_T245 l i).f1 = 10000) ∧ (0 < i → 0 ≤ (rd_T245 l i).f0 ∧ (rd_T245 l i).f0 ≤ (i : Int) - 1))) →
        Ev (fun k => spec_GroupOk.j2 k i b c curs l minor shift (rd_T245 l i).f0 (rd_T245 l i).f1 (rd_T245 l i).f2 (rd_T245 l i).f3) r := by
      intro b hb
      refine Ev.step (fun _ => rfl) ?_
      by_cases hq : (i = 0 → (rd_T245 l i).f0 = -1 ∧ (rd_T245 l i).f1 = 10000) ∧ (0 < i → 0 ≤ (rd_T245 l i).f0 ∧ (rd_T245 l i).f0 ≤ (i : Int) - 1)
      · have hbf : b = false := by rw [hb]; exact decide_eq_false (fun g => g hq)
        refine ev_neg (by simp [hbf]) (ev_bind0 (l1In_eq _ _ _) ?_)
        by_cases h1 : 1 ≤ (rd_T245 l i).f1 ∧ (rd_T245 l i).f1 ≤ 10000
        · refine ev_pos (by simpa using h1) (ev_bind0 (l1In_eq _ _ _) ?_)
          rw [hcw]
          by_cases h2 : 0 ≤ (rd_T245 l i).f2 ∧ (rd_T245 l i).f2 ≤ curs - 1
          · refine ev_pos (by simpa using h2) ?_
            by_cases h3 : (rd_T245 l i).f3.length = c.length
            · refine ev_bind (spec_trial hs hc _ h3) ?_
              by_cases h4 : trialP c (rd_T245 l i).f3
              · refine ev_pos (by simpa using h4) ?_
                rw [hw]
                exact hr ⟨hq, h1, h2, h3, h4⟩
              · exact ev_neg (by simpa using h4) (bad fun g => h4 g.2.2.2.2)
            · refine ev_bind (a := false) ?_ (ev_neg (by simp) (bad fun g => h3 g.2.2.2.1))
              unfold spec_l8Trial.f
              exact ev_neg (by omega) (ev_some _)
          · exact ev_neg (by simpa using h2) (bad fun g => h2 g.2.2.1)
        · exact ev_neg (by simpa using h1) (bad fun g => h1 g.2.1)
      · have hbt : b = true := by rw [hb]; simp only [decide_eq_true_eq]; exact hq
        exact ev_pos hbt (bad fun g => hq g.1)
    refine Ev.step (fun _ => rfl) ?_
    refine ev_pos (by omega) (ev_pos (by omega) ?_)
    by_cases h0 : i = 0
    · subst h0
      refine ev_pos rfl ?_
      by_cases h1 : (rd_T245 l ((0 : Nat) : Int)).f0 = -1
      · refine ev_pos h1 ?_
        by_cases h2 : (rd_T245 l ((0 : Nat) : Int)).f1 = 10000
        · refine ev_pos h2 (ev_neg (by omega) (join false ?_))
          symm; rw [decide_eq_false_iff_not]
          exact fun g => g ⟨fun _ => ⟨h1, h2⟩, fun hh => absurd hh (by omega)⟩
        · refine ev_neg h2 (join true ?_)
          symm; rw [decide_eq_true_eq]
          exact fun g => h2 (g.1 rfl).2
      · refine ev_neg h1 (join true ?_)
        symm; rw [decide_eq_true_eq]
        exact fun g => h1 (g.1 rfl).1
    · refine ev_neg (by omega) (ev_pos (by omega) (ev_bind0 (l1In_eq _ _ _) (join _ ?_)))
      rw [hw1]
      by_cases h1 : 0 ≤ (rd_T245 l i).f0 ∧ (rd_T245 l i).f0 ≤ (i : Int) - 1
      · rw [decide_eq_true h1]; symm
        simp only [Bool.not_true, decide_eq_false_iff_not, not_not]
        exact ⟨fun hh => absurd hh h0, fun _ => h1⟩
      · rw [decide_eq_false h1]; symm
        simp only [Bool.not_false, decide_eq_true_eq]
        exact fun g => h1 (g.2 (by omega))
  refine ev_loopB (F := fun k x => spec_GroupOk.l0 k x c curs l minor shift) (n := l.length) (p := fun i => memP c curs l i) ?_ ?_ ?_
  · intro _
    refine Ev.step (fun _ => rfl) ?_
    exact ev_neg (by omega) (ev_some _)
  · intro i r hi _ hp h
    exact step i r hi (fun _ => h) (fun hn => absurd hp hn)
  · intro i hi _ hp
    exact step i false hi (fun h => absurd h hp) (fun _ => rfl)
end
theorem impl_trial {c : List Acc} (hc : chartP c) (curs : Int) (l : List Mem) (minor shift : Int) (i : Nat) (hi : i < l.length) (hl : l.length ≤ 12) (x : List Int) (hx : x.length = c.length) (r : Bool) (hr : trialP c x → Ev (fun k => impl_GroupOk.l1 k l l.length ((i + 1 : Nat) : Int) c curs l minor shift) r) (hbad : ¬ trialP c x → r = false) :
    Ev (fun k => impl_GroupOk.l2 k 0 l l.length i x x.length 0 c curs l minor shift) r := by
  have hcl := hc.1
  have hw : wrap64 ((i : Int) + 1) = ((i + 1 : Nat) : Int) := wrap_succ hi (by omega)
  obtain ⟨g1, g2⟩ := ev_loop (F := fun k y => impl_GroupOk.l2 k (wsum x y.toNat) l l.length i x x.length y c curs l minor shift) (n := x.length) (p := fun j => cellP c x j) (R := r) (bad := false)
    (fun hd => by
      refine Ev.step (fun _ => rfl) ?_
      refine ev_neg (by omega) ?_
      by_cases h0 : wsum x x.length = 0
      · refine ev_pos h0 ?_
        rw [hw]
        exact hr ⟨hd, h0⟩
      · rw [hbad fun g => h0 g.2]
        exact ev_neg h0 (ev_some _))
    (fun j q hj _ hp h => by
      refine Ev.step (fun _ => rfl) ?_
      refine ev_pos (by omega) (ev_pos (by omega) (ev_pos (by omega) (ev_bind0 (amount_eq _) (ev_pos (decide_eq_true hp.1) ?_))))
      have hwj : wrap64 ((j : Int) + 1) = ((j + 1 : Nat) : Int) := wrap_succ hj (by omega)
      have hg : Ev (fun k => impl_GroupOk.l2 k (wrap64 (wsum x (j : Int).toNat + rd x j)) l l.length i x x.length (wrap64 ((j : Int) + 1)) c curs l minor shift) q := by
        rw [hwj]; exact h
      by_cases hz : rd x j = 0
      · exact ev_pos hz hg
      · exact ev_neg hz (ev_bind0 (implLeaf hc _ (by omega)) (ev_pos (decide_eq_true (hp.2.resolve_left hz)) hg)))
    (fun j hj _ hp => by
      refine Ev.step (fun _ => rfl) ?_
      refine ev_pos (by omega) (ev_pos (by omega) (ev_pos (by omega) (ev_bind0 (amount_eq _) ?_)))
      by_cases ha : -100000000000 ≤ rd x j ∧ rd x j ≤ 100000000000
      · refine ev_pos (decide_eq_true ha) ?_
        have hz : ¬ rd x j = 0 := fun hz => hp ⟨ha, .inl hz⟩
        exact ev_neg hz (ev_bind0 (implLeaf hc _ (by omega)) (ev_neg (by rw [decide_eq_true_eq]; exact fun hq => hp ⟨ha, .inr hq⟩) (ev_some _)))
      · exact ev_neg (by rw [decide_eq_true_eq]; exact ha) (ev_some _))
  by_cases h : ∀ j : Nat, j < x.length → cellP c x j
  · exact g1 h
  · have h5 := g2 h
    rw [hbad (fun g => h g.1)]
    exact h5
theorem impl_mems {c : List Acc} (hc : chartP c) (curs : Int) (l : List Mem) (minor shift : Int) (hcu : 1 ≤ curs ∧ curs ≤ 20) (hl : l.length ≤ 12) : Ev (fun k => impl_GroupOk.l1 k l l.length 0 c curs l minor shift) (decide (∀ i : Nat, i < l.length → memP c curs l i)) := by
  have hcl := hc.1
  have hcw : wrap64 (curs - 1) = curs - 1 := wrap_id (by omega) (by omega)
  have step : ∀ (i : Nat) (r : Bool), i < l.length → (memP c curs l i → Ev (fun k => impl_GroupOk.l1 k l l.length ((i + 1 : Nat) : Int) c curs l minor shift) r) → (¬ memP c curs l i → r = false) → Ev (fun k => impl_GroupOk.l1 k l l.length i c curs l minor shift) r := by
    intro i r hi hr hbad
    have bad : ¬ memP c curs l i → Ev (fun _ => some false) r := fun h => by rw [hbad h]; exact ev_some _
    have hw : wrap64 ((i : Int) + 1) = ((i + 1 : Nat) : Int) := wrap_succ hi (by omega)
    have hw1 : wrap64 ((i : Int) - 1) = (i : Int) - 1 := wrap_id (by omega) (by omega)
    have join : ∀ b : Bool, b = decide (¬ (((i = 0 → (rd_T245 l i).f0 = -1 ∧ (rd_T245 l i).f1 = 10000) ∧ (0 < i → 0 ≤ (rd_T245 l i).f0 ∧ (rd_T245 l i).f0 ≤ (i : Int) - 1)) ∧ (1 ≤ (rd_T245 l i).f1 ∧ (rd_T245 l i).f1 ≤ 10000) ∧ (0 ≤ (rd_T245 l i).f2 ∧ (rd_T245 l i).f2 ≤ curs - 1) ∧ (rd_T245 l i).f3.length = c.length)) →
        Ev (fun k => impl_GroupOk.j3 k l l.length i b c curs l minor shift (rd_T245 l i).f0 (rd_T245 l i).f1 (rd_T245 l i).f2 (rd_T245 l i).f3) r := by
      intro b hb
      refine Ev.step (fun _ => rfl) ?_
      by_cases hq : ((i = 0 → (rd_T245 l i).f0 = -1 ∧ (rd_T245 l i).f1 = 10000) ∧ (0 < i → 0 ≤ (rd_T245 l i).f0 ∧ (rd_T245 l i).f0 ≤ (i : Int) - 1)) ∧ (1 ≤ (rd_T245 l i).f1 ∧ (rd_T245 l i).f1 ≤ 10000) ∧ (0 ≤ (rd_T245 l i).f2 ∧ (rd_T245 l i).f2 ≤ curs - 1) ∧ (rd_T245 l i).f3.length = c.length
      · have hbf : b = false := by rw [hb]; exact decide_eq_false (fun g => g hq)
        exact ev_neg (by simp [hbf]) (impl_trial hc curs l minor shift i hi hl _ hq.2.2.2 r (fun g => hr ⟨hq.1, hq.2.1, hq.2.2.1, hq.2.2.2, g⟩) (fun g => hbad fun g' => g g'.2.2.2.2))
      · have hbt : b = true := by rw [hb]; simp only [decide_eq_true_eq]; exact hq
        exact ev_pos hbt (bad fun g => hq ⟨g.1, g.2.1, g.2.2.1, g.2.2.2.1⟩)
    refine Ev.step (fun _ => rfl) ?_
    refine ev_pos (by omega) (ev_pos (by omega) (ev_pos (by omega) ?_))
    have tail : (i = 0 → (rd_T245 l i).f0 = -1 ∧ (rd_T245 l i).f1 = 10000) ∧ (0 < i → 0 ≤ (rd_T245 l i).f0 ∧ (rd_T245 l i).f0 ≤ (i : Int) - 1) →
        Ev (fun k => (impl_between.f (rd_T245 l i).f1 1 10000).bind fun t230 => (if t230 = true then ((impl_between.f (rd_T245 l i).f2 0 (wrap64 (curs - 1))).bind fun t231 => (if t231 = true then (impl_GroupOk.j3 k l l.length i (((rd_T245 l i).f3.length : Int) != (c.length : Int)) c curs l minor shift (rd_T245 l i).f0 (rd_T245 l i).f1 (rd_T245 l i).f2 (rd_T245 l i).f3) else (impl_GroupOk.j3 k l l.length i true c curs l minor shift (rd_T245 l i).f0 (rd_T245 l i).f1 (rd_T245 l i).f2 (rd_T245 l i).f3))) else (impl_GroupOk.j3 k l l.length i true c curs l minor shift (rd_T245 l i).f0 (rd_T245 l i).f1 (rd_T245 l i).f2 (rd_T245 l i).f3))) r := by
      intro hq
      refine ev_bind0 (between_eq _ _ _) ?_
      by_cases h1 : 1 ≤ (rd_T245 l i).f1 ∧ (rd_T245 l i).f1 ≤ 10000
      · refine ev_pos (by simpa using h1) (ev_bind0 (between_eq _ _ _) ?_)
        rw [hcw]
        by_cases h2 : 0 ≤ (rd_T245 l i).f2 ∧ (rd_T245 l i).f2 ≤ curs - 1
        · refine ev_pos (by simpa using h2) (join _ ?_)
          by_cases h3 : (rd_T245 l i).f3.length = c.length
          · rw [h3]; symm
            simp only [bne_self_eq_false, decide_eq_false_iff_not, not_not]
            exact ⟨hq, h1, h2, trivial⟩
          · have e1 : (((rd_T245 l i).f3.length : Int) != (c.length : Int)) = true := by rw [bne_iff_ne]; omega
            rw [e1]; symm; rw [decide_eq_true_eq]
            exact fun g => h3 g.2.2.2
        · refine ev_neg (by simpa using h2) (join true ?_)
          symm; rw [decide_eq_true_eq]; exact fun g => h2 g.2.2.1
      · refine ev_neg (by simpa using h1) (join true ?_)
        symm; rw [decide_eq_true_eq]; exact fun g => h1 g.2.1
    by_cases h0 : i = 0
    · subst h0
      refine ev_pos rfl ?_
      by_cases h1 : (rd_T245 l ((0 : Nat) : Int)).f0 = -1
      · refine ev_pos h1 ?_
        by_cases h2 : (rd_T245 l ((0 : Nat) : Int)).f1 = 10000
        · refine ev_pos h2 (ev_neg (by omega) (tail ?_))
          exact ⟨fun _ => ⟨h1, h2⟩, fun hh => absurd hh (by omega)⟩
        · refine ev_neg h2 (join true ?_)
          symm; rw [decide_eq_true_eq]
          exact fun g => h2 (g.1.1 rfl).2
      · refine ev_neg h1 (join true ?_)
        symm; rw [decide_eq_true_eq]
        exact fun g => h1 (g.1.1 rfl).1
    · refine ev_neg (by omega) (ev_pos (by omega) (ev_bind0 (between_eq _ _ _) ?_))
      rw [hw1]
      by_cases h1 : 0 ≤ (rd_T245 l i).f0 ∧ (rd_T245 l i).f0 ≤ (i : Int) - 1
      · refine ev_pos (by simpa using h1) (tail ?_)
        exact ⟨fun hh => absurd hh h0, fun _ => h1⟩
      · refine ev_neg (by simpa using h1) (join true ?_)
        symm; rw [decide_eq_true_eq]
        exact fun g => h1 (g.1.2 (by omega))
  refine ev_loopB (F := fun k x => impl_GroupOk.l1 k l l.length x c curs l minor shift) (n := l.length) (p := fun i => memP c curs l i) ?_ ?_ ?_
  · intro _
    refine Ev.step (fun _ => rfl) ?_
    exact ev_neg (by omega) (ev_some _)
  · intro i r hi _ hp h
    exact step i r hi (fun _ => h) (fun hn => absurd hp hn)
  · intro i hi _ hp
    exact step i false hi (fun h => absurd h hp) (fun _ => rfl)
theorem specGroup (c : List Acc) (hs : ∀ i : Nat, i < c.length → (rd_T251 c i).f0.size ≤ 9223372036854775807) (curs : Int) (l : List Mem) (minor shift : Int) :
    Ev (fun k => spec_GroupOk.f k c curs l minor shift) (decide (groupP c curs l minor shift)) := by
  have no' : ∀ b : Bool, b = true → ¬ groupP c curs l minor shift → Ev (fun k => spec_GroupOk.j0 k b c curs l minor shift) (decide (groupP c curs l minor shift)) := by
    intro b hb h
    refine Ev.step (fun _ => rfl) ?_
    refine ev_pos hb (ev_eq (ev_some _) ?_)
    symm; rw [decide_eq_false_iff_not]; exact h
  have no := no' true rfl
  unfold spec_GroupOk.f
  refine ev_bind (specChart c hs) ?_
  by_cases h1 : chartP c
  · refine ev_pos (by simpa using h1) (ev_bind0 (l1In_eq _ _ _) ?_)
    by_cases h2 : 1 ≤ curs ∧ curs ≤ 20
    · refine ev_pos (by simpa using h2) (ev_bind0 (l1In_eq _ _ _) ?_)
      by_cases h3 : 1 ≤ l.length ∧ l.length ≤ 12
      · refine ev_pos (by rw [decide_eq_true_eq]; omega) ?_
        by_cases h4 : minor = shift
        · exact ev_pos h4 (no fun g => g.2.2.2.1 h4)
        · refine ev_neg h4 (ev_bind (spec_eqt hs h1 curs l minor shift minor) ?_)
          by_cases h5 : eqtP c minor
          · refine ev_pos (by simpa using h5) (ev_bind (spec_eqt hs h1 curs l minor shift shift) ?_)
            by_cases h6 : eqtP c shift
            · have go : ∀ b : Bool, b = false → Ev (fun k => spec_GroupOk.j0 k b c curs l minor shift) (decide (groupP c curs l minor shift)) := by
                intro b hb
                refine Ev.step (fun _ => rfl) ?_
                refine ev_neg (by simp [hb]) (ev_eq (spec_mems hs h1 curs l minor shift h2 h3.2) ?_)
                rw [decide_eq_decide]
                exact ⟨fun g => ⟨h1, h2, h3, h4, ⟨h5, h6⟩, g⟩, fun g => g.2.2.2.2.2⟩
              exact go _ (by rw [decide_eq_true h6]; rfl)
            · exact no' _ (by rw [decide_eq_false h6]; rfl) fun g => h6 g.2.2.2.2.1.2
          · exact ev_neg (by simpa using h5) (no fun g => h5 g.2.2.2.2.1.1)
      · exact ev_neg (by rw [decide_eq_true_eq]; omega) (no fun g => h3 g.2.2.1)
    · exact ev_neg (by simpa using h2) (no fun g => h2 g.2.1)
  · exact ev_neg (by simpa using h1) (no fun g => h1 g.1)
theorem implGroup (c : List Acc) (hs : ∀ i : Nat, i < c.length → (rd_T251 c i).f0.size ≤ 9223372036854775807) (curs : Int) (l : List Mem) (minor shift : Int)
    (hm : -9223372036854775808 ≤ minor ∧ minor ≤ 9223372036854775807) (hsh : -9223372036854775808 ≤ shift ∧ shift ≤ 9223372036854775807) :
    Ev (fun k => impl_GroupOk.f k c curs l minor shift) (decide (groupP c curs l minor shift)) := by
  have no' : ∀ b : Bool, b = true → ¬ groupP c curs l minor shift → Ev (fun k => impl_GroupOk.j0 k b c curs l minor shift) (decide (groupP c curs l minor shift)) := by
    intro b hb h
    refine Ev.step (fun _ => rfl) ?_
    refine ev_pos hb (ev_eq (ev_some _) ?_)
    symm; rw [decide_eq_false_iff_not]; exact h
  have no := no' true rfl
  have bad : ¬ groupP c curs l minor shift → Ev (fun _ => some false) (decide (groupP c curs l minor shift)) := by
    intro h
    rw [decide_eq_false h]; exact ev_some _
  unfold impl_GroupOk.f
  refine ev_bind (implChart c hs) ?_
  by_cases h1 : chartP c
  · refine ev_pos (by simpa using h1) (ev_bind0 (between_eq _ _ _) ?_)
    by_cases h2 : 1 ≤ curs ∧ curs ≤ 20
    · refine ev_pos (by simpa using h2) ?_
      by_cases h3 : (l.length : Int) < 1
      · exact ev_pos h3 (no fun g => by have := g.2.2.1; omega)
      · refine ev_neg h3 ?_
        by_cases h3' : (l.length : Int) > 12
        · exact ev_pos h3' (no fun g => by have := g.2.2.1; omega)
        · refine ev_neg h3' ?_
          by_cases h4 : minor = shift
          · have e1 : (minor == shift) = true := by simpa using h4
            rw [e1]; exact no fun g => g.2.2.2.1 h4
          · have go : ∀ b : Bool, b = false → Ev (fun k => impl_GroupOk.l0 k [minor, shift] 2 0 c curs l minor shift) (decide (groupP c curs l minor shift)) → Ev (fun k => impl_GroupOk.j0 k b c curs l minor shift) (decide (groupP c curs l minor shift)) := by
              intro b hb g
              refine Ev.step (fun _ => rfl) ?_
              exact ev_neg (by simp [hb]) (ev_bind0 (a := [minor, shift]) rfl g)
            have e1 : (minor == shift) = false := by simpa using h4
            refine go _ e1 ?_
            have two : ∀ (x : Int) (i : Nat) (r : Bool), i < 2 → rd [minor, shift] i = x → (-9223372036854775808 ≤ x ∧ x ≤ 9223372036854775807) → (eqtP c x → Ev (fun k => impl_GroupOk.l0 k [minor, shift] 2 ((i + 1 : Nat) : Int) c curs l minor shift) r) → (¬ eqtP c x → r = false) →
                Ev (fun k => impl_GroupOk.l0 k [minor, shift] 2 i c curs l minor shift) r := by
              intro x i r hi hx hxw hr hb
              refine Ev.step (fun _ => rfl) ?_
              refine ev_pos (by omega) (ev_pos (by omega) (ev_pos (by simp; omega) ?_))
              rw [hx]
              refine ev_bind0 (implLeaf h1 x hxw) ?_
              have hw : wrap64 ((i : Int) + 1) = ((i + 1 : Nat) : Int) := wrap_succ hi (by omega)
              by_cases h5 : leafP c x
              · refine ev_pos (by simpa using h5) (ev_pos h5.1.1 (ev_pos h5.1.2 ?_))
                by_cases h6 : (rd_T251 c x).f2 = 3
                · refine ev_pos h6 ?_
                  rw [hw]; exact hr ⟨h5, h6⟩
                · rw [hb fun g => h6 g.2]; exact ev_neg h6 (ev_some _)
              · rw [hb fun g => h5 g.1]; exact ev_neg (by simpa using h5) (ev_some _)
            refine two minor 0 _ (by omega) rfl hm (fun h5 => ?_) (fun h5 => by rw [decide_eq_false_iff_not]; exact fun g => h5 g.2.2.2.2.1.1)
            refine two shift 1 _ (by omega) rfl hsh (fun h6 => ?_) (fun h6 => by rw [decide_eq_false_iff_not]; exact fun g => h6 g.2.2.2.2.1.2)
            refine Ev.step (fun _ => rfl) ?_
            refine ev_neg (by simp) (ev_eq (impl_mems h1 curs l minor shift h2 (by omega)) ?_)
            rw [decide_eq_decide]
            exact ⟨fun g => ⟨h1, h2, ⟨by omega, by omega⟩, h4, ⟨h5, h6⟩, g⟩, fun g => g.2.2.2.2.2⟩
    · exact ev_neg (by simpa using h2) (no fun g => h2 g.2.1)
  · exact ev_neg (by simpa using h1) (no fun g => h1 g.1)
end Go.Proofs.Ytnbecbgpefmcoaa.PFnExactGroupOk
