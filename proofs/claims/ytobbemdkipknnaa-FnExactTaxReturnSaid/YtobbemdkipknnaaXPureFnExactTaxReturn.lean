import Derived.Test.YtobbemdkipknnaaXTax2FnExactTaxReturn
import Derived.Test.YtobbemdkipknnaaXMarkFnExactTaxReturn
import Derived.Test.YtobbemdkipknnaaXExFnExactTaxReturn
set_option linter.unusedVariables false
set_option linter.unusedSimpArgs false
namespace Go.Proofs.Ytobbemdkipknnaa.PFnExactTaxReturn
open Go Go.RowKit Go.Proofs.YtobbemdkipknnaaW.PrintWords Go.Proofs.YtobbemdkipknnaaW.PrintLast Go.Proofs.Ytobbemdkipknnaa.MapWords Go.Proofs.Ytobbemdkipknnaa.IterWords Go.Proofs.Ytobbemdkipknnaa.EvWords
open Classical SortT
theorem tl_set (l : List Tl) (i : Nat) (x : Tl) (hi : i < l.length) : rd_T59 (l.set i x) (i : Int) = x := by
  show (l.set i x).getD ((i : Nat) : Int).toNat _ = x
  rw [Int.toNat_natCast, List.getD_eq_getElem?_getD, List.getElem?_set_self hi]
  rfl
theorem tl_other (l : List Tl) (i j : Nat) (x : Tl) (h : i ≠ j) : rd_T59 (l.set i x) (j : Int) = rd_T59 l (j : Int) := by
  show (l.set i x).getD ((j : Nat) : Int).toNat _ = l.getD ((j : Nat) : Int).toNat _
  rw [Int.toNat_natCast, List.getD_eq_getElem?_getD, List.getD_eq_getElem?_getD, List.getElem?_set_ne h]
noncomputable def ml (m : Int) : Tl := ⟨mtx m, m + 1, m + 2, m + 3⟩
theorem mark_lines (l : List Tl) (hl : l.length ≤ 1048576) (m : Int) (hm : 0 ≤ m ∧ m ≤ 1048576) :
    ∃ l', Ev (fun k => laws_markTaxLineS.f k l m) (m + 4 * l.length, l') ∧ l'.length = l.length ∧ ∀ j : Nat, j < l.length → rd_T59 l' (j : Int) = ml (m + 4 * j) := by
  have := ev_run (F := fun k (s : List Tl × Int) i => laws_markTaxLineS.l0 k s.1 s.2 i) (n := l.length) (I := fun i s => s.1.length = l.length ∧ s.2 = m + 4 * i ∧ ∀ j : Nat, j < i → rd_T59 s.1 (j : Int) = ml (m + 4 * j))
    (Post := fun r : Int × List Tl => r.1 = m + 4 * l.length ∧ r.2.length = l.length ∧ ∀ j : Nat, j < l.length → rd_T59 r.2 (j : Int) = ml (m + 4 * j))
    (fun s h => by
      refine ⟨(s.2, s.1), ?_, h.2.1, h.1, h.2.2⟩
      refine Ev.step (fun _ => rfl) ?_
      simp only [laws_markTaxLineS.l0]
      exact ev_neg (by omega) (ev_some _))
    (fun i s hi h => by
      obtain ⟨h1, h2, h3⟩ := h
      obtain ⟨xs, q⟩ := s
      simp only at h1 h2 h3
      have w1 : wrap64 (q + 1) = q + 1 := wrap_id (by omega) (by omega)
      have w2 : wrap64 (q + 1 + 1) = q + 2 := (wrap_id (by omega) (by omega)).trans (by omega)
      have w3 : wrap64 (q + 2 + 1) = q + 3 := (wrap_id (by omega) (by omega)).trans (by omega)
      have w4 : wrap64 (q + 3 + 1) = q + 4 := (wrap_id (by omega) (by omega)).trans (by omega)
      have hx : i < xs.length := by omega
      refine .inr ⟨(xs.set i (ml q), q + 4), ⟨by simpa using h1, by simp only; omega, fun j hj => ?_⟩, fun r hr => ?_⟩
      · by_cases hji : i = j
        · subst hji
          rw [tl_set _ _ _ hx, h2]
        · rw [tl_other _ _ _ _ hji]
          exact h3 j (by omega)
      · refine Ev.step (fun _ => rfl) ?_
        simp only [laws_markTaxLineS.l0, w1, w2, w3, w4]
        refine ev_pos (by omega) (ev_bind (mtx_ev (by omega)) (ev_pos (by omega) (ev_bind0 rfl (ev_bind0 rfl (ev_bind0 rfl ?_)))))
        rw [wrap_succ hi (by omega)]
        simp only [Int.toNat_natCast, tl_set _ _ _ hx, List.set_set]
        exact hr)
    l.length 0 (l, m) (by omega) ⟨rfl, by simp, fun j hj => by omega⟩
  obtain ⟨r, h1, h2, h3, h4⟩ := this
  refine ⟨r.2, ?_, h3, h4⟩
  unfold laws_markTaxLineS.f
  refine ev_eq h1 ?_
  rw [← h2]
theorem held_lines (l : List Tl) (hl : l.length ≤ 1048576) (m : Int) (hm : 0 ≤ m ∧ m ≤ 1048576) (h : ∀ j : Nat, j < l.length → rd_T59 l (j : Int) = ml (m + 4 * j)) : Ev (fun k => laws_heldTaxLineS.f k l m) (m + 4 * l.length) := by
  unfold laws_heldTaxLineS.f
  have := ev_pass (F := fun k x => laws_heldTaxLineS.l0 k l (m + 4 * x) x) (n := l.length) (R := m + 4 * l.length)
    (by
      refine Ev.step (fun _ => rfl) ?_
      simp only [laws_heldTaxLineS.l0]
      exact ev_neg (by omega) (ev_some _))
    (fun i r hi hr => by
      have w1 : wrap64 (m + 4 * (i : Int) + 1) = m + 4 * (i : Int) + 1 := wrap_id (by omega) (by omega)
      have w2 : wrap64 (m + 4 * (i : Int) + 1 + 1) = m + 4 * (i : Int) + 2 := (wrap_id (by omega) (by omega)).trans (by omega)
      have w3 : wrap64 (m + 4 * (i : Int) + 2 + 1) = m + 4 * (i : Int) + 3 := (wrap_id (by omega) (by omega)).trans (by omega)
      have w4 : wrap64 (m + 4 * (i : Int) + 3 + 1) = m + 4 * ((i + 1 : Nat) : Int) := (wrap_id (by omega) (by omega)).trans (by omega)
      have e := h i hi
      refine Ev.step (fun _ => rfl) ?_
      simp only [laws_heldTaxLineS.l0, w1, w2, w3, w4, e, ml]
      rw [wrap_succ hi (by omega)]
      exact ev_pos (by omega) (ev_pos (by omega) (ev_bind (mtx_ev (by omega)) (ev_pos (by first | trivial | rfl) (ev_pos (by first | trivial | rfl) (ev_pos (by first | trivial | rfl) (ev_pos (by first | trivial | rfl) hr)))))))
  simpa using this
theorem ee_lines (l : List Tl) (hl : l.length ≤ 1048576) : Ev (fun k => laws_eqTaxLineS.f k l l) true := by
  unfold laws_eqTaxLineS.f
  refine ev_pos rfl ?_
  refine ev_pass (F := fun k x => laws_eqTaxLineS.l0 k l l x) (n := l.length) ?_ (fun i r hi hr => ?_)
  · refine Ev.step (fun _ => rfl) ?_
    simp only [laws_eqTaxLineS.l0]
    exact ev_neg (by omega) (ev_some _)
  · have e : ∀ x : Tl, laws_eqTaxLine.f x.f0 x.f1 x.f2 x.f3 x.f0 x.f1 x.f2 x.f3 = some true := fun x => by
      unfold laws_eqTaxLine.f
      rw [if_pos rfl, if_pos rfl, if_pos rfl, if_pos rfl]
    refine Ev.step (fun _ => rfl) ?_
    simp only [laws_eqTaxLineS.l0]
    rw [wrap_succ hi (by omega)]
    exact ev_pos (by omega) (ev_pos (by omega) (ev_pos (by omega) (ev_bind0 (e _) (ev_pos rfl hr))))
theorem q_ev (n : Nat) (hn : n ≤ 1048576) (m : Int) (hm : 0 ≤ m ∧ m ≤ 1000000000000000) : Ev (fun k => laws_markTaxPartS.q k n m 0) (m + 4 * n) := by
  have := ev_pass (F := fun k x => laws_markTaxPartS.q k n (m + 4 * x) x) (n := n) (R := m + 4 * n)
    (by
      refine Ev.step (fun _ => rfl) ?_
      simp only [laws_markTaxPartS.q]
      exact ev_neg (by omega) (ev_some _))
    (fun i r hi hr => by
      have w1 : wrap64 (m + 4 * (i : Int) + 1) = m + 4 * (i : Int) + 1 := wrap_id (by omega) (by omega)
      have w2 : wrap64 (m + 4 * (i : Int) + 1 + 1) = m + 4 * (i : Int) + 2 := (wrap_id (by omega) (by omega)).trans (by omega)
      have w3 : wrap64 (m + 4 * (i : Int) + 2 + 1) = m + 4 * (i : Int) + 3 := (wrap_id (by omega) (by omega)).trans (by omega)
      have w4 : wrap64 (m + 4 * (i : Int) + 3 + 1) = m + 4 * ((i + 1 : Nat) : Int) := (wrap_id (by omega) (by omega)).trans (by omega)
      refine Ev.step (fun _ => rfl) ?_
      simp only [laws_markTaxPartS.q, w1, w2, w3, w4]
      rw [wrap_succ hi (by omega)]
      exact ev_pos (by omega) (ev_pos (by omega) (ev_bind (mtx_ev (by omega)) hr)))
  simpa using this
theorem mark_filed (L : List Fl) (hl : L.length ≤ 1048576) (hp : ∀ i : Nat, i < L.length → (rd_T82 L (i : Nat)).f2.length ≤ 1048576) : ∃ r, Ev (fun k => laws_markFiledS.f k L 1) r ∧ 0 ≤ r := by
  have := ev_run (F := fun k (s : Int) i => laws_markFiledS.l0 k L s i) (n := L.length) (I := fun i s => 0 ≤ s ∧ s ≤ 1 + 4194306 * (i : Int)) (Post := fun r : Int => 0 ≤ r)
    (fun s h => by
      refine ⟨s, ?_, h.1⟩
      refine Ev.step (fun _ => rfl) ?_
      simp only [laws_markFiledS.l0]
      exact ev_neg (by omega) (ev_some _))
    (fun i s hi h => by
      have h1 := hp i hi
      obtain ⟨h3, h4⟩ := h
      have w1 : wrap64 (s + 1) = s + 1 := wrap_id (by omega) (by omega)
      have w2 : wrap64 (s + 1 + 1) = s + 2 := (wrap_id (by omega) (by omega)).trans (by omega)
      refine .inr ⟨s + 2 + 4 * ((rd_T82 L (i : Nat)).f2.length : Int), ⟨by omega, by omega⟩, fun r hr => ?_⟩
      refine Ev.step (fun _ => rfl) ?_
      simp only [laws_markFiledS.l0, w1, w2]
      rw [wrap_succ hi (by omega)]
      exact ev_pos (by omega) (ev_pos (by omega) (ev_bind (q_ev _ h1 _ (by omega)) hr)))
    L.length 0 1 (by omega) ⟨by omega, by omega⟩
  exact this
end Go.Proofs.Ytobbemdkipknnaa.PFnExactTaxReturn
namespace Go.Proofs.Ytobbemdkipknnaa.Pure
open Go Go.RowKit Go.Proofs.Ytobbemdkipknnaa.PFnExactTaxReturn Go.Proofs.YtobbemdkipknnaaW.PrintWords Go.Proofs.YtobbemdkipknnaaW.PrintLast Go.Proofs.Ytobbemdkipknnaa.MapWords Go.Proofs.Ytobbemdkipknnaa.IterWords Go.Proofs.Ytobbemdkipknnaa.EvWords
open Classical
theorem FnExactTaxReturn : laws_FnExactTaxReturn.Pure := by
  intro l0 a1 a2 h0 h1 h2
  apply Ev.rounds
  unfold laws_FnExactTaxReturn.f
  obtain ⟨t, e1, _, e3⟩ := zz_FiledS l0 1048576 (by omega) (by omega) h0
  refine ev_bind e1 ?_
  by_cases ht : t < 0
  · exact ev_pos ht (ev_some _)
  · have hs := e3 (by omega)
    have hto := tt_FiledS l0 hs
    have hL : (l0.map cv_Filed).length ≤ 1048576 := by rw [List.length_map]; exact hs.1
    have hit : ∀ x ∈ l0.map cv_Filed, x.f2.length ≤ 1048576 ∧ ∀ y ∈ x.f2, y.f0.size ≤ 1048576 := by
      intro x hx
      obtain ⟨y, hy, rfl⟩ := List.mem_map.1 hx
      have := hs.2 y hy
      unfold sm_Filed at this
      simp only [cv_Filed, List.length_map]
      refine ⟨this.1, fun z hz => ?_⟩
      obtain ⟨u, hu, rfl⟩ := List.mem_map.1 hz
      have := this.2 u hu
      unfold sm_TaxPart at this
      exact this
    generalize l0.map cv_Filed = L at hto hL hit
    have hrd : ∀ i : Nat, i < L.length → (rd_T82 L (i : Nat)).f2.length ≤ 1048576 ∧ ∀ y ∈ (rd_T82 L (i : Nat)).f2, y.f0.size ≤ 1048576 := fun i hi => hit _ (mem_rd hi)
    obtain ⟨r, im, sp, hr⟩ := taxBoth (L := L) a1 a2 (fun i hi j hj => by
      have h3 : (rd_T85 (rd_T82 L (i : Nat)).f2 (j : Nat)).f0.size ≤ 1048576 := (hrd i hi).2 _ (mem_rd hj)
      omega)
    have er := ee_lines r (by omega)
    have eL : Ev (fun k => laws_eqFiledS.f k L L) true := ee_FiledS L ⟨by omega, fun y hy => ⟨by have := (hit y hy).1; omega, fun _ _ => trivial⟩⟩
    obtain ⟨q, mq, hq⟩ := mark_filed L hL (fun i hi => (hrd i hi).1)
    obtain ⟨R', m1, m2, m3⟩ := mark_lines r (by omega) 1 (by omega)
    have hh : Ev (fun k => laws_heldTaxLineS.f k R' 1) (1 + 4 * r.length) := by
      have := held_lines R' (by omega) 1 (by omega) (fun j hj => m3 j (by omega))
      rw [m2] at this
      exact this
    have j0 : ∀ b : Bool, b = false → Ev (fun k => laws_FnExactTaxReturn.j0 k l0 a1 a2 r r b) true := by
      intro b hb
      refine Ev.step (fun _ => rfl) ?_
      exact ev_neg (by simp [hb]) (ev_bind m1 (ev_bind hh (ev_neg (by omega) (ev_pos rfl (ev_bind hto (ev_bind im (ev_bind er (ev_pos rfl (ev_bind hh (ev_neg (by omega) (ev_pos rfl (ev_some _))))))))))))
    exact ev_neg ht (ev_bind hto (ev_bind sp (ev_bind hto (ev_bind im (ev_bind er (ev_pos rfl (ev_bind hto (ev_bind eL (ev_pos rfl (ev_bind mq (ev_neg (by omega) (ev_bind er (j0 _ (by simp))))))))))))))
end Go.Proofs.Ytobbemdkipknnaa.Pure
