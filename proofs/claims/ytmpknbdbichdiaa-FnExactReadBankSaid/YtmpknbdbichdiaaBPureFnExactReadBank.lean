import Derived.Test.YtmpknbdbichdiaaBBank3FnExactReadBank
import Derived.Test.YtmpknbdbichdiaaBMarkFnExactReadBank
set_option linter.unusedVariables false
set_option linter.unusedSimpArgs false
namespace Go.Proofs.Ytmpknbdbichdiaa.PFnExactReadBank
open Go Go.RowKit Go.Proofs.YtmpknbdbichdiaaW.PrintWords Go.Proofs.YtmpknbdbichdiaaW.PrintLast Go.Proofs.Ytmpknbdbichdiaa.MapWords Go.Proofs.Ytmpknbdbichdiaa.EvWords
open Classical
theorem ee_pay (p : Pay) : laws_eqPayment.f p.f0 p.f1 p.f2 p.f0 p.f1 p.f2 = some true := by
  unfold laws_eqPayment.f
  simp
theorem ee_pays (L : List Pay) (hl : L.length ≤ 1000) : Ev (fun k => laws_eqPaymentS.f k L L) true := by
  unfold laws_eqPaymentS.f
  refine ev_pos rfl ?_
  refine ev_pass (F := fun k x => laws_eqPaymentS.l0 k L L x) (n := L.length) ?_ ?_
  · refine Ev.step (fun _ => rfl) ?_
    simp only [laws_eqPaymentS.l0]
    exact ev_neg (by omega) (ev_some _)
  · intro i r hi hr
    refine Ev.step (fun _ => rfl) ?_
    simp only [laws_eqPaymentS.l0]
    refine ev_pos (by omega) (ev_pos (by omega) (ev_pos (by omega) (ev_bind0 (ee_pay _) (ev_pos rfl ?_))))
    rw [wrap_succ hi (by omega)]
    exact hr
theorem py_set {L : List Pay} {i j : Nat} (x : Pay) (hi : i < L.length) : py (L.set i x) j = if i = j then x else py L j := by
  simp only [py, List.getD_eq_getElem?_getD, List.getElem?_set]
  by_cases h : i = j
  · subst h; simp [hi]
  · simp [h]
noncomputable def mpay (m : Int) (j : Nat) : Pay := ⟨mtx (m + 3 * j), mtx (m + 3 * j + 1), m + 3 * j + 2⟩
theorem mark_pays (L : List Pay) (hl : L.length ≤ 1000) (m : Int) (hm : 0 ≤ m ∧ m ≤ 1000) :
    ∃ L', Ev (fun k => laws_markPaymentS.f k L m) (m + 3 * L.length, L') ∧ L'.length = L.length ∧ ∀ j : Nat, j < L.length → py L' j = mpay m j := by
  have := ev_run (F := fun k (s : List Pay × Int) i => laws_markPaymentS.l0 k s.1 s.2 i) (n := L.length) (I := fun i s => s.1.length = L.length ∧ s.2 = m + 3 * i ∧ ∀ j : Nat, j < i → py s.1 j = mpay m j)
    (Post := fun r : Int × List Pay => r.1 = m + 3 * L.length ∧ r.2.length = L.length ∧ ∀ j : Nat, j < L.length → py r.2 j = mpay m j)
    (fun s h => by
      refine ⟨(s.2, s.1), ?_, h.2.1, h.1, h.2.2⟩
      refine Ev.step (fun _ => rfl) ?_
      simp only [laws_markPaymentS.l0]
      exact ev_neg (by omega) (ev_some _))
    (fun i s hi h => by
      obtain ⟨h1, h2, h3⟩ := h
      have hw1 : wrap64 (s.2 + 1) = s.2 + 1 := wrap_id (by omega) (by omega)
      have hw2 : wrap64 (s.2 + 1 + 1) = s.2 + 2 := (wrap_id (by omega) (by omega)).trans (by omega)
      have hw3 : wrap64 (s.2 + 2 + 1) = s.2 + 3 := (wrap_id (by omega) (by omega)).trans (by omega)
      refine .inr ⟨(s.1.set i (mpay m i), s.2 + 3), ⟨by simpa using h1, by simp only; omega, fun j hj => ?_⟩, fun r hr => ?_⟩
      · rw [py_set _ (by omega)]
        by_cases hji : i = j
        · rw [if_pos hji, hji]
        · rw [if_neg hji]; exact h3 j (by omega)
      · refine Ev.step (fun _ => rfl) ?_
        simp only [laws_markPaymentS.l0, py_rd, Int.toNat_natCast]
        rw [hw1, hw2, hw3]
        refine ev_pos (by omega) (ev_bind (mtx_ev (by omega)) (ev_pos (by omega) (ev_bind0 rfl (ev_bind (mtx_ev (by omega)) (ev_bind0 rfl ?_)))))
        rw [py_set _ (by omega), if_pos rfl, py_set _ (by simpa using (by omega : i < s.1.length)), if_pos rfl, List.set_set, List.set_set, wrap_succ hi (by omega)]
        have e : mpay m i = ⟨mtx s.2, mtx (s.2 + 1), s.2 + 2⟩ := by unfold mpay; rw [h2]
        rw [e] at hr
        exact hr)
    L.length 0 (L, m) (by omega) ⟨rfl, by simp, fun j hj => by omega⟩
  obtain ⟨r, h1, h2, h3, h4⟩ := this
  refine ⟨r.2, ?_, h3, h4⟩
  unfold laws_markPaymentS.f
  refine ev_eq h1 ?_
  rw [← h2]
theorem held_pays (L : List Pay) (hl : L.length ≤ 1000) (m : Int) (hm : 0 ≤ m ∧ m ≤ 1000) (h : ∀ j : Nat, j < L.length → py L j = mpay m j) : Ev (fun k => laws_heldPaymentS.f k L m) (m + 3 * L.length) := by
  unfold laws_heldPaymentS.f
  have := ev_pass (F := fun k x => laws_heldPaymentS.l0 k L (m + 3 * x) x) (n := L.length) (R := m + 3 * L.length)
    (by
      refine Ev.step (fun _ => rfl) ?_
      simp only [laws_heldPaymentS.l0]
      exact ev_neg (by omega) (ev_some _))
    (fun i r hi hr => by
      have e := h i hi
      have e0 : (py L i).f0 = mtx (m + 3 * i) := by rw [e]; rfl
      have e1 : (py L i).f1 = mtx (m + 3 * i + 1) := by rw [e]; rfl
      have e2 : (py L i).f2 = m + 3 * i + 2 := by rw [e]; rfl
      have hw1 : wrap64 (m + 3 * (i : Int) + 1) = m + 3 * (i : Int) + 1 := wrap_id (by omega) (by omega)
      have hw2 : wrap64 (m + 3 * (i : Int) + 1 + 1) = m + 3 * (i : Int) + 2 := (wrap_id (by omega) (by omega)).trans (by omega)
      have hw3 : wrap64 (m + 3 * (i : Int) + 2 + 1) = m + 3 * ((i + 1 : Nat) : Int) := (wrap_id (by omega) (by omega)).trans (by omega)
      refine Ev.step (fun _ => rfl) ?_
      simp only [laws_heldPaymentS.l0, py_rd, hw1, hw2, hw3]
      refine ev_pos (by omega) (ev_pos (by omega) (ev_bind (mtx_ev (by omega)) (ev_pos (by rw [e0]) (ev_bind (mtx_ev (by omega)) (ev_pos (by rw [e1]) (ev_pos e2 ?_))))))
      rw [wrap_succ hi (by omega)]
      exact hr)
  simpa using this
theorem run_len (text : List UInt8) (day sum : Int) : ∀ (c : Nat) (acc : List Pay) (pre rest : List UInt8), (run text day sum c acc pre rest).1.length ≤ acc.length + c := by
  intro c
  induction c with
  | zero =>
    intro acc pre rest
    show (tailR text day sum acc pre rest).1.length ≤ _
    unfold tailR
    split
    · split
      · simp
      · simp
    · simp
  | succ c ih =>
    intro acc pre rest
    rw [run]
    split
    · simp
    · split
      · simp
      · split
        · simp
        · refine Nat.le_trans (ih _ _ _) ?_
          simp only [List.length_append, List.length_cons, List.length_nil]; omega
theorem head_len (text : List UInt8) : (headR text).1.length ≤ 100 := by
  cases hf : fl1 text with
  | none => rw [headR_none hf]; simp
  | some sr =>
    obtain ⟨s, r⟩ := sr
    by_cases h : ∃ d c m : Nat, sp 124 [] s = [[72], dec d, dec c, mon m] ∧ d ≤ 40000 ∧ (1 ≤ c ∧ c ≤ 100) ∧ (1 ≤ m ∧ m ≤ 100000000000)
    · obtain ⟨d, c, m, hh⟩ := h
      rw [headR_yes hf hh]
      have := run_len text (d : Int) (m : Int) c [] (s ++ [10]) r
      simp only [List.length_nil, Nat.zero_add] at this
      have := hh.2.2.1.2
      omega
    · rw [headR_no hf h]; simp
end Go.Proofs.Ytmpknbdbichdiaa.PFnExactReadBank
namespace Go.Proofs.Ytmpknbdbichdiaa.Pure
open Go Go.RowKit Go.Proofs.Ytmpknbdbichdiaa.PFnExactReadBank Go.Proofs.YtmpknbdbichdiaaW.PrintWords Go.Proofs.YtmpknbdbichdiaaW.PrintLast Go.Proofs.Ytmpknbdbichdiaa.MapWords Go.Proofs.Ytmpknbdbichdiaa.EvWords
theorem FnExactReadBank : laws_FnExactReadBank.Pure := by
  intro a0 h0
  apply Ev.rounds
  unfold laws_FnExactReadBank.f
  by_cases hb : (a0.size : Int) > 1048576
  · exact ev_pos hb (ev_some _)
  · refine ev_neg hb ?_
    obtain ⟨text, rfl⟩ : ∃ l, a0 = B l := ⟨a0.toList, (B_of a0).symm⟩
    rw [B_size] at hb
    have hsp := specBank text (by omega)
    have him := implBank text (by omega)
    have hlen : ((if text.length ≤ 20000 then headR text else (([], 0, 1) : Res)).1).length ≤ 100 := by
      split
      · exact head_len text
      · simp
    generalize (if text.length ≤ 20000 then headR text else (([], 0, 1) : Res)) = R at hsp him hlen
    obtain ⟨L, u, v⟩ := R
    have ee := ee_pays L (by simp only at hlen; omega)
    obtain ⟨L', m1, m2, m3⟩ := mark_pays L (by simp only at hlen; omega) 1 (by omega)
    simp only at hlen
    have hh : Ev (fun k => laws_heldPaymentS.f k L' 1) (1 + 3 * L.length) := by
      have := held_pays L' (by omega) 1 (by omega) (fun j hj => m3 j (by omega))
      rw [m2] at this
      exact this
    have j1 : ∀ b : Bool, b = false → Ev (fun k => laws_FnExactReadBank.j1 k L' (1 + 3 * L.length) b) true := by
      intro b hb
      refine Ev.step (fun _ => rfl) ?_
      simp only [laws_FnExactReadBank.j1]
      exact ev_neg (by simp [hb]) (ev_bind hh (ev_neg (by omega) (ev_pos rfl (ev_some _))))
    have j0 : ∀ b : Bool, b = false → Ev (fun k => laws_FnExactReadBank.j0 k (B text) L u v L b) true := by
      intro b hb
      refine Ev.step (fun _ => rfl) ?_
      simp only [laws_FnExactReadBank.j0]
      exact ev_neg (by simp [hb]) (ev_bind m1 (ev_bind hh (ev_neg (by omega) (ev_pos rfl (ev_bind him (ev_bind ee (ev_pos rfl (ev_pos rfl (j1 _ (by simp))))))))))
    exact ev_bind hsp (ev_bind him (ev_bind ee (ev_pos rfl (ev_pos rfl (j0 _ (by simp))))))
end Go.Proofs.Ytmpknbdbichdiaa.Pure
