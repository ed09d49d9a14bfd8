import Derived.Test.YtfkakbpjddgmeaaHStepFnHandedOn
set_option linter.unusedVariables false
set_option linter.unusedSimpArgs false
namespace Go.Proofs.Ytfkakbpjddgmeaa.PFnHandedOn
open Go Go.RowKit Go.Proofs.YtfkakbpjddgmeaaW.PrintWords Go.Proofs.YtfkakbpjddgmeaaW.PrintLast Go.Proofs.Ytfkakbpjddgmeaa.MapWords Go.Proofs.Ytfkakbpjddgmeaa.IterWords Go.Proofs.Ytfkakbpjddgmeaa.EvWords
open Classical
structure Inv (costs : List Int) (R : List Rul) (i : Nat) (out g : List Int) : Prop where
  hc : ∀ x, amt (ri costs x)
  hl : out.length = costs.length
  hs : sm (ri out) costs.length = sm (ri costs) costs.length
  ha : ∀ x, amt (ri out x)
  hgl : g.length = i
  hg : ∀ x ∈ g, (0 ≤ x ∧ x < (costs.length : Int)) ∧ ri out x.toNat = 0
  hr : ∀ j, j < i → (ru R j).f0 ∈ g
def Post (costs : List Int) (R : List Rul) (r : List Int) : Prop := r.length = costs.length ∧ sm (ri r) costs.length = sm (ri costs) costs.length ∧ (∀ x, amt (ri r x)) ∧ (∀ x, amt (ri costs x)) ∧ ∀ j, j < R.length → (0 ≤ (ru R j).f0 ∧ (ru R j).f0 < (costs.length : Int)) ∧ ri r (ru R j).f0.toNat = 0
def Both (costs : List Int) (R : List Rul) (F G : Nat → Option (List Int × Bool)) : Prop := ∃ r1 r2 b, Ev F (r1, b) ∧ Ev G (r2, b) ∧ (b = true → Post costs R r1)
theorem Both.bad {costs : List Int} {R : List Rul} {F G : Nat → Option (List Int × Bool)} (h : Ev F ([], false)) (k : Ev G ([], false)) : Both costs R F G := ⟨[], [], false, h, k, fun e => by cases e⟩
section
variable {R : List Rul} {costs out g : List Int} {i : Nat}
theorem impl_j2t (gm : List (Int × Bool)) (fr : Int) (ts ws : List Int) (b : Bool) (hb : b = true) : Ev (fun k => impl_StepDown.j2 k out gm R (R.length : Int) (i : Int) b fr ts ws) ([], false) := by
  refine Ev.step (fun _ => rfl) ?_
  simp only [impl_StepDown.j2]
  exact ev_pos hb (ev_some _)
theorem spec_j2t (fr : Int) (ts ws : List Int) (b : Bool) (hb : b = true) : Ev (fun k => spec_StepDown.j2 k costs R [] out g (i : Int) b fr ts ws) ([], false) := by
  refine Ev.step (fun _ => rfl) ?_
  simp only [spec_StepDown.j2]
  exact ev_pos hb (ev_some _)
def ruleP (n : Nat) (g : List Int) (x : Rul) : Prop := (0 ≤ x.f0 ∧ x.f0 < (n : Int)) ∧ x.f0 ∉ g ∧ 1 ≤ x.f1.length ∧ x.f1.length ≤ 200 ∧ x.f2.length = x.f1.length
theorem impl_rule (hi : i < R.length) (hR : R.length ≤ 1000) (hn : out.length ≤ 1000) (hz : (ru R i).f1.length ≤ 1000) (hz2 : (ru R i).f2.length ≤ 1000) (Q : List Int × Bool)
    (hE : ruleP out.length g (ru R i) → Ev (fun k => impl_StepDown.j2 k out (mp g) R (R.length : Int) (i : Int) false (ru R i).f0 (ru R i).f1 (ru R i).f2) Q) :
    Ev (fun k => impl_StepDown.l0 k out (mp g) R (R.length : Int) (i : Int)) (if ruleP out.length g (ru R i) then Q else ([], false)) := by
  refine Ev.step (fun _ => rfl) ?_
  simp only [impl_StepDown.l0, ru_rd]
  have n1 : (i : Int) < (R.length : Int) := by omega
  have n0 : (0 : Int) ≤ (i : Int) := by omega
  refine ev_pos n1 (ev_pos n0 (ev_pos n1 ?_))
  have no : ∀ {q : Prop}, ¬ ruleP out.length g (ru R i) → ∀ {F : Nat → Option (List Int × Bool)}, Ev F ([], false) → Ev F (if ruleP out.length g (ru R i) then Q else ([], false)) := fun hn _ h => by rw [if_neg hn]; exact h
  by_cases a : (ru R i).f0 < 0
  · exact no (q := True) (fun h => by have := h.1.1; omega) (ev_pos a (impl_j2t _ _ _ _ _ rfl))
  · by_cases b : (ru R i).f0 ≥ (out.length : Int)
    · exact no (q := True) (fun h => by have := h.1.2; omega) (ev_neg a (ev_pos b (impl_j2t _ _ _ _ _ rfl)))
    · have w1 : -9223372036854775808 ≤ (ru R i).f0 := by omega
      have w2 : (ru R i).f0 ≤ 9223372036854775807 := by omega
      by_cases c : (ru R i).f0 ∈ g
      · exact no (q := True) (fun h => h.2.1 c) (ev_neg a (ev_neg b (ev_pos w1 (ev_pos w2 (ev_pos ((mget_mp _ _).2 c) (impl_j2t _ _ _ _ _ rfl))))))
      · have c' : ¬ mget false (mp g) (ru R i).f0 = true := fun h => c ((mget_mp _ _).1 h)
        by_cases d : ((ru R i).f1.length : Int) < 1
        · exact no (q := True) (fun h => by have := h.2.2.1; omega) (ev_neg a (ev_neg b (ev_pos w1 (ev_pos w2 (ev_neg c' (ev_pos d (impl_j2t _ _ _ _ _ rfl)))))))
        · by_cases e : ((ru R i).f1.length : Int) > 200
          · exact no (q := True) (fun h => by have := h.2.2.2.1; omega) (ev_neg a (ev_neg b (ev_pos w1 (ev_pos w2 (ev_neg c' (ev_neg d (ev_pos e (impl_j2t _ _ _ _ _ rfl))))))))
          · by_cases f : (ru R i).f2.length = (ru R i).f1.length
            · have hP : ruleP out.length g (ru R i) := ⟨⟨by omega, by omega⟩, c, by omega, by omega, f⟩
              rw [if_pos hP]
              have hf : (((ru R i).f2.length : Int) != ((ru R i).f1.length : Int)) = false := by simp [f]
              refine ev_neg a (ev_neg b (ev_pos w1 (ev_pos w2 (ev_neg c' (ev_neg d (ev_neg e ?_))))))
              rw [hf]
              exact hE hP
            · exact no (q := True) (fun h => f h.2.2.2.2) (ev_neg a (ev_neg b (ev_pos w1 (ev_pos w2 (ev_neg c' (ev_neg d (ev_neg e (impl_j2t _ _ _ _ _ (by simp; omega)))))))))
theorem spec_rule (hi : i < R.length) (hR : R.length ≤ 1000) (hn : costs.length ≤ 1000) (hn1 : 1 ≤ costs.length) (hg : g.length ≤ 1000) (hz : (ru R i).f1.length ≤ 1000) (hz2 : (ru R i).f2.length ≤ 1000) (Q : List Int × Bool)
    (hE : ((0 ≤ (ru R i).f0 ∧ (ru R i).f0 < (costs.length : Int)) ∧ (ru R i).f0 ∉ g ∧ (ru R i).f1.length ≤ 200 ∧ (ru R i).f2.length = (ru R i).f1.length) → Ev (fun k => spec_StepDown.j2 k costs R [] out g (i : Int) false (ru R i).f0 (ru R i).f1 (ru R i).f2) (if 1 ≤ (ru R i).f1.length then Q else ([], false))) :
    Ev (fun k => spec_StepDown.l0 k costs R [] out g (i : Int)) (if ruleP costs.length g (ru R i) then Q else ([], false)) := by
  refine Ev.step (fun _ => rfl) ?_
  have hw : wrap64 ((costs.length : Int) - 1) = (costs.length : Int) - 1 := wrap_id (by omega) (by omega)
  simp only [spec_StepDown.l0, ru_rd, hw]
  have n1 : (i : Int) < (R.length : Int) := by omega
  have n0 : (0 : Int) ≤ (i : Int) := by omega
  refine ev_pos n1 (ev_pos n0 (ev_bind0 (l1In_eq _ _ _) ?_))
  have no : ¬ ruleP costs.length g (ru R i) → ∀ {F : Nat → Option (List Int × Bool)}, Ev F ([], false) → Ev F (if ruleP costs.length g (ru R i) then Q else ([], false)) := fun hn _ h => by rw [if_neg hn]; exact h
  by_cases a : 0 ≤ (ru R i).f0 ∧ (ru R i).f0 ≤ (costs.length : Int) - 1
  · by_cases c : (ru R i).f0 ∈ g
    · exact no (fun h => h.2.1 c) (ev_pos (decide_eq_true a) (ev_bind (has_ev g _ hg) (ev_pos (decide_eq_true c) (spec_j2t _ _ _ _ rfl))))
    · by_cases f : ((ru R i).f1.length : Int) = ((ru R i).f2.length : Int)
      · by_cases e : ((ru R i).f1.length : Int) > 200
        · exact no (fun h => by have := h.2.2.2.1; omega) (ev_pos (decide_eq_true a) (ev_bind (has_ev g _ hg) (ev_neg (by simpa using c) (ev_pos f (spec_j2t _ _ _ _ (decide_eq_true e))))))
        · have h1 := hE ⟨⟨a.1, by omega⟩, c, by omega, by omega⟩
          have e2 : (if ruleP costs.length g (ru R i) then Q else ([], false)) = if 1 ≤ (ru R i).f1.length then Q else ([], false) := by
            by_cases hq : 1 ≤ (ru R i).f1.length
            · rw [if_pos hq, if_pos ⟨⟨a.1, by omega⟩, c, hq, by omega, by omega⟩]
            · rw [if_neg hq, if_neg (fun h => hq h.2.2.1)]
          rw [e2]
          have h3 : ∀ b : Bool, b = false → Ev (fun k => spec_StepDown.j2 k costs R [] out g (i : Int) b (ru R i).f0 (ru R i).f1 (ru R i).f2) (if 1 ≤ (ru R i).f1.length then Q else ([], false)) := fun b hb => by subst hb; exact h1
          exact ev_pos (decide_eq_true a) (ev_bind (has_ev g _ hg) (ev_neg (by simpa using c) (ev_pos f (h3 _ (decide_eq_false e)))))
      · exact no (fun h => f (by have := h.2.2.2.2; omega)) (ev_pos (decide_eq_true a) (ev_bind (has_ev g _ hg) (ev_neg (by simpa using c) (ev_neg f (spec_j2t _ _ _ _ rfl)))))
  · exact no (fun h => a ⟨h.1.1, by have := h.1.2; omega⟩) (ev_neg (by simpa using a) (spec_j2t _ _ _ _ rfl))
end
theorem ri_zero (l : List Int) (j : Nat) (h : l.length ≤ j) : ri l j = 0 := by
  unfold ri
  rw [List.getD_eq_getElem?_getD, List.getElem?_eq_none h]
  rfl
section
variable {R : List Rul} {costs out g ps : List Int} {i : Nat} {x : Rul}
theorem mid_i (hx : 0 ≤ x.f0 ∧ x.f0 < (out.length : Int)) (s1 : Ev (fun k => impl_Shares.f k (ri out x.f0.toNat) x.f2) ps) (gm sn : List (Int × Bool)) (Q : List Int × Bool) (hQ : ¬ (ps.length : Int) = 0 → Ev (fun k => impl_StepDown.l2 k (out.set x.f0.toNat 0) gm ps R (R.length : Int) (i : Int) x.f1 (x.f1.length : Int) 0) Q) :
    Ev (fun k => impl_StepDown.l1 k out gm sn R (R.length : Int) (i : Int) x.f1 (x.f1.length : Int) (x.f1.length : Int) x.f0 x.f1 x.f2) (if (ps.length : Int) = 0 then ([], false) else Q) := by
  refine Ev.step (fun _ => rfl) ?_
  simp only [impl_StepDown.l1, rd_ri]
  refine ev_neg (by omega) (ev_pos hx.1 (ev_pos hx.2 (ev_bind s1 ?_)))
  by_cases h0 : (ps.length : Int) = 0
  · rw [if_pos h0]; exact ev_pos h0 (ev_some _)
  · rw [if_neg h0]; exact ev_neg h0 (hQ h0)
theorem mid_s (hx : 0 ≤ x.f0 ∧ x.f0 < (out.length : Int)) (s2 : Ev (fun k => spec_Shares.f k (ri out x.f0.toNat) x.f2) ps) (Q : List Int × Bool) (hQ : ¬ (ps.length : Int) = 0 → Ev (fun k => spec_StepDown.l2 k costs R [] (out.set x.f0.toNat 0) g (i : Int) ps 0 x.f0 x.f1 x.f2) Q) :
    Ev (fun k => spec_StepDown.l1 k costs R [] out g (i : Int) (x.f1.length : Int) x.f0 x.f1 x.f2) (if (ps.length : Int) = 0 then ([], false) else Q) := by
  refine Ev.step (fun _ => rfl) ?_
  simp only [spec_StepDown.l1, rd_ri]
  refine ev_neg (by omega) (ev_pos hx.1 (ev_pos hx.2 (ev_bind s2 ?_)))
  by_cases h0 : (ps.length : Int) = 0
  · rw [if_pos h0]; exact ev_pos h0 (ev_some _)
  · rw [if_neg h0]; exact ev_neg h0 (hQ h0)
theorem all_i (c1 : 0 ≤ x.f0 ∧ x.f0 < (out.length : Int)) (hn : out.length ≤ 1000) (hg : g.length ≤ 1000) (c3 : x.f1.length ≤ 200) (Q : List Int × Bool)
    (hQ : (∀ j, j < x.f1.length → toP out.length (g ++ [x.f0]) x.f1 j) → Ev (fun k => impl_StepDown.l1 k out (mp (g ++ [x.f0])) (mp x.f1) R (R.length : Int) (i : Int) x.f1 (x.f1.length : Int) (x.f1.length : Int) x.f0 x.f1 x.f2) Q) :
    Ev (fun k => impl_StepDown.j2 k out (mp g) R (R.length : Int) (i : Int) false x.f0 x.f1 x.f2) (if ∀ j, j < x.f1.length → toP out.length (g ++ [x.f0]) x.f1 j then Q else ([], false)) := by
  have h2 := impl_to (R := R) (out := out) (g := g ++ [x.f0]) (ts := x.f1) (ws := x.f2) (i := i) (fr := x.f0) c3 hn Q hQ
  refine Ev.step (fun _ => rfl) ?_
  simp only [impl_StepDown.j2]
  rw [mp_snoc] at h2
  exact ev_neg (by simp) (ev_pos (by omega) (ev_pos (by omega) (ev_pos (by rw [mp_len]; omega) h2)))
theorem all_s (hn : costs.length ≤ 1000) (hn1 : 1 ≤ costs.length) (hg : g.length ≤ 900) (c3 : x.f1.length ≤ 200) (Q : List Int × Bool)
    (hQ : (∀ j, j < x.f1.length → toP costs.length (g ++ [x.f0]) x.f1 j) → Ev (fun k => spec_StepDown.l1 k costs R [] out (g ++ [x.f0]) (i : Int) (x.f1.length : Int) x.f0 x.f1 x.f2) Q) :
    Ev (fun k => spec_StepDown.j2 k costs R [] out g (i : Int) false x.f0 x.f1 x.f2) (if ∀ j, j < x.f1.length → toP costs.length (g ++ [x.f0]) x.f1 j then Q else ([], false)) := by
  have h2 := spec_to (R := R) (costs := costs) (out := out) (g := g ++ [x.f0]) (ts := x.f1) (ws := x.f2) (i := i) (fr := x.f0) c3 hn hn1 (by simp; omega) Q hQ
  refine Ev.step (fun _ => rfl) ?_
  simp only [spec_StepDown.j2]
  exact ev_neg (by simp) (ev_pos (by omega) h2)
theorem inv_step (I : Inv costs R i out g) (hx : ru R i = x) (c1 : 0 ≤ x.f0 ∧ x.f0 < (costs.length : Int)) (hT : ∀ j, j < x.f1.length → toP costs.length (g ++ [x.f0]) x.f1 j) (hA : ∀ j, j < x.f1.length → addC x.f1 ps (out.set x.f0.toNat 0) j)
    (p3 : sm (ri ps) x.f1.length = ri out x.f0.toNat) : Inv costs R (i + 1) (addA x.f1 ps (out.set x.f0.toNat 0) x.f1.length) (g ++ [x.f0]) := by
  have hol := I.hl
  have hfr : x.f0.toNat < out.length := by omega
  have hsl : (out.set x.f0.toNat 0).length = costs.length := by rw [List.length_set]; exact hol
  have ho : ∀ y, amt (ri (out.set x.f0.toNat 0) y) := fun y => by
    rw [ri_set _ _ _ _ hfr]
    split
    · unfold amt; omega
    · exact I.ha y
  have ht' : ∀ j, j < x.f1.length → (ri x.f1 j).toNat < (out.set x.f0.toNat 0).length := fun j hj => by rw [hsl]; have := (hT j hj).1; omega
  refine ⟨I.hc, by rw [addA_len]; exact hsl, ?_, addA_amt ho ht' _ (Nat.le_refl _) hA, by simp [I.hgl], fun y hy => ?_, fun j hj => ?_⟩
  · have h5 := addA_sum (ps := ps) ht' x.f1.length (Nat.le_refl _)
    rw [hsl] at h5
    have h6 := sm_set out x.f0.toNat 0 hfr costs.length (by omega)
    have h7 := I.hs
    omega
  · have hyb : (0 ≤ y ∧ y < (costs.length : Int)) ∧ ri (out.set x.f0.toNat 0) y.toNat = 0 := by
      rw [ri_set _ _ _ _ hfr]
      rcases List.mem_append.1 hy with h8 | h8
      · obtain ⟨q1, q2⟩ := I.hg y h8
        refine ⟨q1, ?_⟩
        split
        · rfl
        · exact q2
      · rw [List.mem_singleton.1 h8]
        exact ⟨c1, if_pos rfl⟩
    refine ⟨hyb.1, ?_⟩
    rw [addA_off ht' y.toNat (fun j hj e => ?_) _ (Nat.le_refl _)]
    · exact hyb.2
    · have h9 := hT j hj
      have h10 : ri x.f1 j = y := by have := h9.1; have := hyb.1; omega
      exact h9.2.2 (by rw [h10]; exact hy)
  · by_cases hji : j = i
    · subst hji
      rw [hx]
      exact List.mem_append_right _ (List.mem_singleton.2 rfl)
    · exact List.mem_append_left _ (I.hr j (by omega))
end
theorem fal {c : Prop} [Decidable c] {F : Nat → Option (List Int × Bool)} (h : Ev F (if c then ([], false) else ([], false))) : Ev F ([], false) := ev_eq h (by split <;> rfl)
theorem steps {R : List Rul} {costs : List Int} (hR : R.length ≤ 40) (hn : 1 ≤ costs.length ∧ costs.length ≤ 200) (hz : ∀ j, (ru R j).f1.length ≤ 1000 ∧ (ru R j).f2.length ≤ 1000) :
    ∀ (d i : Nat) (out g : List Int), i + d = R.length → Inv costs R i out g → Both costs R (fun k => impl_StepDown.l0 k out (mp g) R (R.length : Int) (i : Int)) (fun k => spec_StepDown.l0 k costs R [] out g (i : Int)) := by
  intro d
  induction d with
  | zero =>
    intro i out g hi I
    have e : i = R.length := by omega
    subst e
    refine ⟨out, out, true, ?_, ?_, fun _ => ⟨I.hl, I.hs, I.ha, I.hc, fun j hj => I.hg _ (I.hr j hj)⟩⟩
    · refine Ev.step (fun _ => rfl) ?_
      simp only [impl_StepDown.l0]
      exact ev_neg (by omega) (ev_some _)
    · refine Ev.step (fun _ => rfl) ?_
      simp only [spec_StepDown.l0]
      exact ev_neg (by omega) (ev_some _)
  | succ d ih =>
    intro i out g hi I
    have hil : i < R.length := by omega
    have hol := I.hl
    have hgl := I.hgl
    obtain ⟨z1, z2⟩ := hz i
    have ir := fun Q hE => impl_rule (R := R) (out := out) (g := g) hil (by omega) (by omega) z1 z2 Q hE
    have sr := fun Q hE => spec_rule (R := R) (costs := costs) (out := out) (g := g) hil (by omega) (by omega) hn.1 (by omega) z1 z2 Q hE
    have hw : wrap64 ((i : Int) + 1) = ((i + 1 : Nat) : Int) := by rw [wrap_id (by omega) (by omega)]; omega
    obtain ⟨x, hx⟩ : ∃ x, ru R i = x := ⟨_, rfl⟩
    rw [hx] at z1 z2 ir sr
    by_cases hC : (0 ≤ x.f0 ∧ x.f0 < (costs.length : Int)) ∧ x.f0 ∉ g ∧ x.f1.length ≤ 200 ∧ x.f2.length = x.f1.length
    · obtain ⟨c1, c2, c3, c4⟩ := hC
      obtain ⟨ps, s1, s2, s3⟩ := shares_eq (ri out x.f0.toNat) x.f2 (by omega)
      have c1' : 0 ≤ x.f0 ∧ x.f0 < (out.length : Int) := by rw [hol]; exact c1
      have aS := fun Q hQ => all_s (R := R) (costs := costs) (out := out) (g := g) (i := i) (x := x) (by omega) hn.1 (by omega) c3 Q hQ
      have mS := fun Q hQ => mid_s (R := R) (costs := costs) (out := out) (g := g ++ [x.f0]) (i := i) (x := x) c1' s2 Q hQ
      by_cases h1 : 1 ≤ x.f1.length
      · have hP : ruleP costs.length g x := ⟨c1, c2, h1, c3, c4⟩
        have hP' : ruleP out.length g x := by rw [hol]; exact hP
        have iAll : ∀ Q, Ev (fun k => impl_StepDown.j2 k out (mp g) R (R.length : Int) (i : Int) false x.f0 x.f1 x.f2) Q → Ev (fun k => impl_StepDown.l0 k out (mp g) R (R.length : Int) (i : Int)) Q := fun Q hQ => by
          have := ir Q (fun _ => hQ)
          rwa [if_pos hP'] at this
        have sAll : ∀ Q, Ev (fun k => spec_StepDown.j2 k costs R [] out g (i : Int) false x.f0 x.f1 x.f2) Q → Ev (fun k => spec_StepDown.l0 k costs R [] out g (i : Int)) Q := fun Q hQ => by
          have := sr Q (fun _ => by rw [if_pos h1]; exact hQ)
          rwa [if_pos hP] at this
        have aI := fun Q hQ => all_i (R := R) (out := out) (g := g) (i := i) (x := x) c1' (by omega) (by omega) c3 Q hQ
        have mI := fun Q hQ => mid_i (R := R) (out := out) (i := i) (x := x) c1' s1 (mp (g ++ [x.f0])) (mp x.f1) Q hQ
        by_cases hT : ∀ j, j < x.f1.length → toP costs.length (g ++ [x.f0]) x.f1 j
        · have hT' : ∀ j, j < x.f1.length → toP out.length (g ++ [x.f0]) x.f1 j := by rw [hol]; exact hT
          have iM : ∀ Q, Ev (fun k => impl_StepDown.l1 k out (mp (g ++ [x.f0])) (mp x.f1) R (R.length : Int) (i : Int) x.f1 (x.f1.length : Int) (x.f1.length : Int) x.f0 x.f1 x.f2) Q → Ev (fun k => impl_StepDown.l0 k out (mp g) R (R.length : Int) (i : Int)) Q := fun Q hQ => by
            have := aI Q (fun _ => hQ)
            rw [if_pos hT'] at this
            exact iAll _ this
          have sM : ∀ Q, Ev (fun k => spec_StepDown.l1 k costs R [] out (g ++ [x.f0]) (i : Int) (x.f1.length : Int) x.f0 x.f1 x.f2) Q → Ev (fun k => spec_StepDown.l0 k costs R [] out g (i : Int)) Q := fun Q hQ => by
            have := aS Q (fun _ => hQ)
            rw [if_pos hT] at this
            exact sAll _ this
          by_cases h0 : (ps.length : Int) = 0
          · refine Both.bad (iM _ ?_) (sM _ ?_)
            · have := mI ([], false) (fun h => absurd h0 h)
              rwa [if_pos h0] at this
            · have := mS ([], false) (fun h => absurd h0 h)
              rwa [if_pos h0] at this
          · have hps : ps ≠ [] := fun e => h0 (by rw [e]; rfl)
            obtain ⟨p1, p2, p3, p4⟩ := s3 hps
            rw [c4] at p2 p3
            have hfr : x.f0.toNat < out.length := by omega
            have hsl : (out.set x.f0.toNat 0).length = costs.length := by rw [List.length_set]; exact hol
            have ho : ∀ y, amt (ri (out.set x.f0.toNat 0) y) := fun y => by
              rw [ri_set _ _ _ _ hfr]
              split
              · unfold amt; omega
              · exact I.ha y
            have ht : ∀ j, j < x.f1.length → 0 ≤ ri x.f1 j ∧ ri x.f1 j < ((out.set x.f0.toNat 0).length : Int) := fun j hj => by rw [hsl]; exact (hT j hj).1
            have dI := fun Q hE => impl_add (R := R) (out := out.set x.f0.toNat 0) (ts := x.f1) (i := i) (gm := mp (g ++ [x.f0])) (ps := ps) c3 p2 p4 ho ht Q hE
            have dS := fun Q hE => spec_add (R := R) (costs := costs) (out := out.set x.f0.toNat 0) (g := g ++ [x.f0]) (ts := x.f1) (ws := x.f2) (i := i) (fr := x.f0) (ps := ps) c3 p2 p4 ho ht Q hE
            rw [hw] at dI dS
            have iD : ∀ Q, Ev (fun k => impl_StepDown.l2 k (out.set x.f0.toNat 0) (mp (g ++ [x.f0])) ps R (R.length : Int) (i : Int) x.f1 (x.f1.length : Int) 0) Q → Ev (fun k => impl_StepDown.l0 k out (mp g) R (R.length : Int) (i : Int)) Q := fun Q hQ => by
              have := mI Q (fun _ => hQ)
              rw [if_neg h0] at this
              exact iM _ this
            have sD : ∀ Q, Ev (fun k => spec_StepDown.l2 k costs R [] (out.set x.f0.toNat 0) (g ++ [x.f0]) (i : Int) ps 0 x.f0 x.f1 x.f2) Q → Ev (fun k => spec_StepDown.l0 k costs R [] out g (i : Int)) Q := fun Q hQ => by
              have := mS Q (fun _ => hQ)
              rw [if_neg h0] at this
              exact sM _ this
            by_cases hA : ∀ j, j < x.f1.length → addC x.f1 ps (out.set x.f0.toNat 0) j
            · obtain ⟨r1, r2, b, e1, e2, e3⟩ := ih (i + 1) _ _ (by omega) (inv_step I hx c1 hT hA p3)
              refine ⟨r1, r2, b, iD _ ?_, sD _ ?_, e3⟩
              · have := dI _ (fun _ => e1)
                rwa [if_pos hA] at this
              · have := dS _ (fun _ => e2)
                rwa [if_pos hA] at this
            · exact Both.bad (iD _ (fal (dI ([], false) (fun h => absurd h hA)))) (sD _ (fal (dS ([], false) (fun h => absurd h hA))))
        · have hT' : ¬ ∀ j, j < x.f1.length → toP out.length (g ++ [x.f0]) x.f1 j := by rw [hol]; exact hT
          exact Both.bad (iAll _ (fal (aI ([], false) (fun h => absurd h hT')))) (sAll _ (fal (aS ([], false) (fun h => absurd h hT))))
      · refine Both.bad (fal (ir ([], false) (fun h => absurd h.2.2.1 h1))) (fal (sr ([], false) (fun _ => ?_)))
        rw [if_neg h1]
        refine fal (aS ([], false) (fun _ => ?_))
        have hps : (ps.length : Int) = 0 := by
          by_cases he : ps = []
          · rw [he]; rfl
          · have := (s3 he).2.1
            omega
        have := mS ([], false) (fun h => absurd hps h)
        rwa [if_pos hps] at this
    · refine Both.bad (fal (ir ([], false) (fun h => absurd ⟨by have := h.1; rw [hol] at this; exact this, h.2.1, h.2.2.2.1, h.2.2.2.2⟩ hC))) (fal (sr ([], false) (fun h => absurd h hC)))
theorem stepDown {R : List Rul} {costs : List Int} (hR : R.length ≤ 1000) (hn : costs.length ≤ 1000) (hz : ∀ j, (ru R j).f1.length ≤ 1000 ∧ (ru R j).f2.length ≤ 1000) :
    Both costs R (fun k => impl_StepDown.f k costs R) (fun k => spec_StepDown.f k costs R) := by
  have ij : ∀ b : Bool, b = true → Ev (fun k => impl_StepDown.j0 k costs R b) ([], false) := fun b hb => by
    refine Ev.step (fun _ => rfl) ?_
    simp only [impl_StepDown.j0]
    exact ev_pos hb (ev_some _)
  have sj : ∀ b : Bool, b = true → Ev (fun k => spec_StepDown.j0 k costs R [] b) ([], false) := fun b hb => by
    refine Ev.step (fun _ => rfl) ?_
    simp only [spec_StepDown.j0]
    exact ev_pos hb (ev_some _)
  obtain ⟨i1, i2⟩ := ev_loop (F := fun k x => impl_costsOk.l0 k costs (costs.length : Int) x) (n := costs.length) (p := fun j => amt (ri costs j)) (R := true) (bad := false)
    (fun _ => by
      refine Ev.step (fun _ => rfl) ?_
      simp only [impl_costsOk.l0]
      exact ev_neg (by omega) (ev_some _))
    (fun i r hi _ hp h => by
      refine Ev.step (fun _ => rfl) ?_
      simp only [impl_costsOk.l0, ri_rd]
      rw [wrap_succ hi (by omega)]
      exact ev_pos (by omega) (ev_pos (by omega) (ev_pos (by omega) (ev_bind0 (amt_i _) (ev_pos (decide_eq_true hp) h)))))
    (fun i hi _ hp => by
      refine Ev.step (fun _ => rfl) ?_
      simp only [impl_costsOk.l0, ri_rd]
      exact ev_pos (by omega) (ev_pos (by omega) (ev_pos (by omega) (ev_bind0 (amt_i _) (ev_neg (by simpa using hp) (ev_some _))))))
  obtain ⟨k1, k2⟩ := ev_loop (F := fun k x => spec_l7Costs.l0 k costs x) (n := costs.length) (p := fun j => amt (ri costs j)) (R := decide (1 ≤ costs.length ∧ costs.length ≤ 200)) (bad := false)
    (fun _ => by
      refine Ev.step (fun _ => rfl) ?_
      simp only [spec_l7Costs.l0]
      exact ev_neg (by omega) (ev_bind0 (l1In_eq _ _ _) (ev_eq (ev_some _) (decide_eq_decide.2 ⟨fun h => by omega, fun h => by omega⟩))))
    (fun i r hi _ hp h => by
      refine Ev.step (fun _ => rfl) ?_
      simp only [spec_l7Costs.l0, ri_rd]
      rw [wrap_succ hi (by omega)]
      exact ev_pos (by omega) (ev_pos (by omega) (ev_bind0 (amt_s _) (ev_pos (decide_eq_true hp) h))))
    (fun i hi _ hp => by
      refine Ev.step (fun _ => rfl) ?_
      simp only [spec_l7Costs.l0, ri_rd]
      exact ev_pos (by omega) (ev_pos (by omega) (ev_bind0 (amt_s _) (ev_neg (by simpa using hp) (ev_some _)))))
  have co : Ev (fun k => impl_costsOk.f k costs) (decide ((1 ≤ costs.length ∧ costs.length ≤ 200) ∧ ∀ j, j < costs.length → amt (ri costs j))) := by
    have cj : ∀ b : Bool, (b = true ↔ ¬ (1 ≤ costs.length ∧ costs.length ≤ 200)) → Ev (fun k => impl_costsOk.j0 k costs b) (decide ((1 ≤ costs.length ∧ costs.length ≤ 200) ∧ ∀ j, j < costs.length → amt (ri costs j))) := by
      intro b hb
      refine Ev.step (fun _ => rfl) ?_
      simp only [impl_costsOk.j0]
      by_cases hl : 1 ≤ costs.length ∧ costs.length ≤ 200
      · refine ev_neg (fun h => hb.1 h hl) ?_
        by_cases ha : ∀ j, j < costs.length → amt (ri costs j)
        · rw [decide_eq_true ⟨hl, ha⟩]; exact i1 ha
        · rw [decide_eq_false (fun h => ha h.2)]; exact i2 ha
      · rw [decide_eq_false (fun h => hl h.1)]
        exact ev_pos (hb.2 hl) (ev_some _)
    unfold impl_costsOk.f
    by_cases h1 : (costs.length : Int) < 1
    · exact ev_pos h1 (cj _ ⟨fun _ h => by omega, fun _ => rfl⟩)
    · exact ev_neg h1 (cj _ ⟨fun h h2 => by have := of_decide_eq_true h; omega, fun h => decide_eq_true (by omega)⟩)
  have so : Ev (fun k => spec_l7Costs.f k costs) (decide ((1 ≤ costs.length ∧ costs.length ≤ 200) ∧ ∀ j, j < costs.length → amt (ri costs j))) := by
    unfold spec_l7Costs.f
    by_cases ha : ∀ j, j < costs.length → amt (ri costs j)
    · refine ev_eq (k1 ha) (decide_eq_decide.2 ⟨fun h => ⟨h, ha⟩, fun h => h.1⟩)
    · rw [decide_eq_false (fun h => ha h.2)]; exact k2 ha
  by_cases hok : (1 ≤ costs.length ∧ costs.length ≤ 200) ∧ ∀ j, j < costs.length → amt (ri costs j)
  · rw [decide_eq_true hok] at co so
    by_cases h4 : R.length ≤ 40
    · have ha : ∀ y, amt (ri costs y) := fun y => by
        by_cases hy : y < costs.length
        · exact hok.2 y hy
        · rw [ri_zero _ _ (by omega)]; unfold amt; omega
      have I : Inv costs R 0 costs [] := ⟨ha, rfl, rfl, ha, rfl, fun y hy => absurd hy (by simp), fun j hj => by omega⟩
      obtain ⟨r1, r2, b, e1, e2, e3⟩ := steps h4 hok.1 hz R.length 0 costs [] (by omega) I
      refine ⟨r1, r2, b, ?_, ?_, e3⟩
      · unfold impl_StepDown.f
        refine ev_bind co (ev_pos rfl ?_)
        refine Ev.step (fun _ => rfl) ?_
        simp only [impl_StepDown.j0, Option.bind_some, List.nil_append, List.length_nil, Nat.zero_add]
        exact ev_neg (by simp; omega) (ev_pos (by omega) e1)
      · unfold spec_StepDown.f
        refine ev_bind0 rfl (ev_bind so (ev_pos rfl ?_))
        refine Ev.step (fun _ => rfl) ?_
        simp only [spec_StepDown.j0, Option.bind_some, List.nil_append, List.length_nil, Nat.zero_add]
        exact ev_neg (by simp; omega) (ev_pos (by omega) e2)
    · refine Both.bad ?_ ?_
      · unfold impl_StepDown.f
        exact ev_bind co (ev_pos rfl (ij _ (by simp; omega)))
      · unfold spec_StepDown.f
        exact ev_bind0 rfl (ev_bind so (ev_pos rfl (sj _ (by simp; omega))))
  · rw [decide_eq_false hok] at co so
    refine Both.bad ?_ ?_
    · unfold impl_StepDown.f
      exact ev_bind co (ev_neg (by decide) (ij _ rfl))
    · unfold spec_StepDown.f
      exact ev_bind0 rfl (ev_bind so (ev_neg (by decide) (sj _ rfl)))
end Go.Proofs.Ytfkakbpjddgmeaa.PFnHandedOn
