import Derived.Test.YtfkakbpjddgmeaaHDrawStepFnHandedOn
set_option linter.unusedVariables false
set_option linter.unusedSimpArgs false
namespace Go.Proofs.Ytfkakbpjddgmeaa.Pure
open Go Go.RowKit Go.Proofs.Ytfkakbpjddgmeaa.PFnHandedOn Go.Proofs.YtfkakbpjddgmeaaW.PrintWords Go.Proofs.YtfkakbpjddgmeaaW.PrintLast Go.Proofs.Ytfkakbpjddgmeaa.MapWords Go.Proofs.Ytfkakbpjddgmeaa.EvWords
open Classical
theorem lawSum (l : List Int) (hl : l.length ≤ 1000) (hb : ∀ j, amt (ri l j)) : Ev (fun k => laws_sum.f k l) (sm (ri l) l.length) := by
  unfold laws_sum.f
  have main : ∀ (d i : Nat), i + d = l.length → Ev (fun k => laws_sum.l0 k l (sm (ri l) i) (i : Int)) (sm (ri l) l.length) := by
    intro d
    induction d with
    | zero =>
      intro i hi
      have e : i = l.length := by omega
      subst e
      refine Ev.step (fun _ => rfl) ?_
      simp only [laws_sum.l0]
      exact ev_neg (by omega) (ev_some _)
    | succ d ih =>
      intro i hi
      have b1 := sm_bd (f := ri l) (M := 100000000000) (by omega) i (fun j hj => hb j)
      have b2 := hb i
      unfold amt at b2
      have hw : wrap64 ((i : Int) + 1) = ((i + 1 : Nat) : Int) := by rw [wrap_id (by omega) (by omega)]; omega
      have hs : wrap64 (sm (ri l) i + ri l i) = sm (ri l) i + ri l i := wrap_id (by omega) (by omega)
      refine Ev.step (fun _ => rfl) ?_
      simp only [laws_sum.l0, ri_rd, hw, hs]
      exact ev_pos (by omega) (ev_pos (by omega) (ih (i + 1) (by omega)))
  exact main l.length 0 (by omega)
theorem law_l0 {R : List Rul} {costs r1 : List Int} (hR : R.length ≤ 1000) (hc : costs.length ≤ 1000) (h : Post costs R r1) : Ev (fun k => laws_FnHandedOn.l0 k costs R r1 0) true := by
  obtain ⟨q1, q2, q3, hca, q4⟩ := h
  refine ev_pass (n := R.length) ?_ (fun i r hi hr => ?_)
  · have s1 := lawSum r1 (by omega) q3
    have s2 := lawSum costs hc hca
    rw [q1, q2] at s1
    refine Ev.step (fun _ => rfl) ?_
    simp only [laws_FnHandedOn.l0]
    exact ev_neg (by omega) (ev_bind s1 (ev_bind s2 (ev_eq (ev_some _) (by simp))))
  · obtain ⟨⟨w1, w2⟩, w3⟩ := q4 i hi
    have hw := wrap_succ hi (show R.length ≤ 9223372036854775807 by omega)
    have n1 : (i : Int) < (R.length : Int) := by omega
    have n0 : (0 : Int) ≤ (i : Int) := by omega
    have w2' : (ru R i).f0 < (r1.length : Int) := by omega
    refine Ev.step (fun _ => rfl) ?_
    simp only [laws_FnHandedOn.l0, ru_rd, rd_ri, hw]
    exact ev_pos n1 (ev_pos n0 (ev_pos w1 (ev_pos w2' (ev_pos w3 hr))))
theorem law_j0 {R : List Rul} {costs r1 : List Int} {b c : Bool} (hR : R.length ≤ 1000) (hc : costs.length ≤ 1000) (hb : c = !b) (h : b = true → Post costs R r1) : Ev (fun k => laws_FnHandedOn.j0 k costs R r1 b b c) true := by
  refine Ev.step (fun _ => rfl) ?_
  simp only [laws_FnHandedOn.j0]
  cases b with
  | true => exact ev_neg (by simp [hb]) (law_l0 hR hc (h rfl))
  | false => exact ev_pos (by simp [hb]) (ev_eq (ev_some _) rfl)
theorem law_f {l : List Int} {R : List Rul} {costs r1 r2 : List Int} {b : Bool} (hbig : laws_big.f l = some false) (hd : Ev (fun k => spec_DrawStepDown.f k l) (costs, R)) (e1 : Ev (fun k => impl_StepDown.f k costs R) (r1, b)) (e2 : Ev (fun k => spec_StepDown.f k costs R) (r2, b))
    (hj : ∀ c : Bool, c = !b → Ev (fun k => laws_FnHandedOn.j0 k costs R r1 b b c) true) : Ev (fun k => laws_FnHandedOn.f k l) true := by
  unfold laws_FnHandedOn.f
  refine ev_bind0 hbig (ev_neg (by decide) (ev_bind hd (ev_bind e1 (ev_bind e2 (ev_neg ?_ (hj _ rfl))))))
  show ¬ ((b != b) = true)
  cases b <;> decide
theorem FnHandedOn : laws_FnHandedOn.Pure := by
  intro l hl _ _
  apply Ev.rounds
  by_cases hz : l.length ≤ 1048576
  · have hbig : laws_big.f l = some false := by
      unfold laws_big.f
      congr 1
      exact decide_eq_false (by omega)
    obtain ⟨⟨costs, R⟩, hd, hc, hR, hok⟩ := drawStep l hz
    have hc' : costs.length ≤ 100 := hc
    have hR' : R.length ≤ 100 := hR
    have hz2 : ∀ j, (ru R j).f1.length ≤ 1000 ∧ (ru R j).f2.length ≤ 1000 := fun j => by
      by_cases hj : j < R.length
      · have h1 : (ru R j).f1.length ≤ 21 ∧ (ru R j).f2.length ≤ 21 := hok (ru R j) (mem_rd hj)
        omega
      · unfold ru
        rw [List.getD_eq_getElem?_getD, List.getElem?_eq_none (by omega)]
        exact ⟨by simp [z31], by simp [z31]⟩
    obtain ⟨r1, r2, b, e1, e2, e3⟩ := stepDown (R := R) (costs := costs) (by omega) (by omega) hz2
    exact law_f hbig hd e1 e2 (fun c hcb => law_j0 (by omega) (by omega) hcb e3)
  · have hbig : laws_big.f l = some true := by
      unfold laws_big.f
      congr 1
      exact decide_eq_true (by omega)
    unfold laws_FnHandedOn.f
    exact ev_bind0 hbig (ev_pos rfl (ev_some _))
end Go.Proofs.Ytfkakbpjddgmeaa.Pure
