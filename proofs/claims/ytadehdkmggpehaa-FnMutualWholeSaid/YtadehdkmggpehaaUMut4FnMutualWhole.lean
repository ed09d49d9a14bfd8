import Derived.Test.YtadehdkmggpehaaUMut2FnMutualWhole
set_option linter.unusedVariables false
set_option linter.unusedSimpArgs false
namespace Go.Proofs.Ytadehdkmggpehaa.PFnMutualWhole
open Go Go.RowKit Go.Proofs.YtadehdkmggpehaaW.PrintWords Go.Proofs.YtadehdkmggpehaaW.PrintLast Go.Proofs.Ytadehdkmggpehaa.MapWords Go.Proofs.Ytadehdkmggpehaa.IterWords Go.Proofs.Ytadehdkmggpehaa.EvWords
open Classical
section
variable {L : List Int} {H : List (List Int)} {s : Nat}
theorem wts_len (n i : Nat) : (wts H s n i).length = n - s := tab_len _ _
theorem gives_ok (hc : costsP L) (h : shP H s L.length) (hD : dN s (me H) ≠ 0) (i : Nat) (hi : i < s) :
    gives L H s i ≠ [] ∧ (gives L H s i).length = L.length - s ∧ sm (ri (gives L H s i)) (L.length - s) = ri L i ∧ ∀ j, -300000000000 ≤ ri (gives L H s i) j ∧ ri (gives L H s i) j ≤ 300000000000 := by
  have hn := hc.1
  have hs := h.2.1
  obtain ⟨_, _, h3, h4⟩ := shr_all (T := ri L i) (ws := wts H s L.length i) (by rw [wts_len]; omega)
  have hne : gives L H s i ≠ [] := by
    refine h4 (hc.2 i (by omega)) (by rw [wts_len]; omega) (fun e => ?_) (fun j hj => ?_) ?_
    · have := congrArg List.length e
      rw [wts_len, List.length_nil] at this
      omega
    · rw [wts_len] at hj
      have := put_bd h i (s + j) hi
      unfold wts
      rw [tab_at _ _ _ hj]
      unfold fac
      omega
    · rw [wts_len, sm_congr (g := fun j => put H s i (s + j)) _ (fun j hj => by unfold wts; rw [tab_at _ _ _ hj]), put_sum h i hi]
      exact hD
  obtain ⟨_, k2, k3, k4⟩ := h3 hne
  rw [wts_len] at k2 k3
  exact ⟨hne, k2, k3, k4⟩
noncomputable def gvs (L : List Int) (H : List (List Int)) (s i : Nat) : List (List Int) := (List.range i).map (gives L H s)
theorem gvs_len (i : Nat) : (gvs L H s i).length = i := by simp [gvs]
theorem gvs_succ (i : Nat) : gvs L H s (i + 1) = gvs L H s i ++ [gives L H s i] := by simp [gvs, List.range_succ]
theorem gvs_at (n i : Nat) (hi : i < n) : rd_L2 (gvs L H s n) (i : Int) = gives L H s i := by
  show (gvs L H s n).getD i _ = _
  unfold gvs
  rw [List.getD_eq_getElem?_getD, List.getElem?_map, List.getElem?_range hi]
  rfl
noncomputable def tot (L : List Int) (H : List (List Int)) (s p : Nat) : Int := ri L p + sm (fun i => ri (gives L H s i) (p - s)) s
def mutP (L : List Int) (H : List (List Int)) (s : Nat) : Prop := shP H s L.length ∧ dN s (me H) ≠ 0 ∧ ∀ j, j < L.length - s → amt (tot L H s (s + j))
theorem impl_w (hc : costsP L) (h : shP H s L.length) (hD : dN s (me H) ≠ 0) (i : Nat) (hi : i < s) (ps : List (List Int)) (hps : ps.length ≤ 1000) (Q : List (List Int) × Bool)
    (hq : Ev (fun k => impl_mutual.l3 k L (s : Int) H (tab (sqm H s s 0) 9) (ps ++ [gives L H s i]) ((i + 1 : Nat) : Int)) Q) : Ev (fun k => impl_mutual.l4 k L (s : Int) H (tab (sqm H s s 0) 9) ps (i : Int) [] (s : Int)) Q := by
  have hs := h.1
  have hn := hc.1
  have hsn := h.2.1
  obtain ⟨g1, g2, _, _⟩ := gives_ok hc h hD i hi
  have := ev_pass (F := fun k x => impl_mutual.l4 k L (s : Int) H (tab (sqm H s s 0) 9) ps (i : Int) (tab (fun j => put H s i (s + j)) x.toNat) ((s : Int) + x)) (n := L.length - s) (R := Q)
    (by
      refine Ev.step (fun _ => rfl) ?_
      simp only [impl_mutual.l4, Int.toNat_natCast, ri_rd]
      rw [wrap_succ hi (by omega)]
      have hw : Ev (fun k => impl_Shares.f k (ri L i) (tab (fun j => put H s i (s + j)) (L.length - s))) (gives L H s i) := (shr_all (T := ri L i) (ws := wts H s L.length i) (by rw [wts_len]; omega)).1
      exact ev_neg (by omega) (ev_pos (by omega) (ev_pos (by omega) (ev_bind hw (ev_neg (by omega) (ev_pos (by omega) hq))))))
    (fun t q ht hq => by
      refine Ev.step (fun _ => rfl) ?_
      simp only [impl_mutual.l4, Int.toNat_natCast]
      have e : (s : Int) + (t : Int) = ((s + t : Nat) : Int) := by omega
      have e4 : (((t + 1 : Nat) : Int)).toNat = t + 1 := Int.toNat_natCast _
      simp only [e4, tab_succ] at hq
      refine ev_pos (by omega) (ev_pos (tab_len _ _) ?_)
      rw [e]
      refine impl_put L.length h i (s + t) hi (by omega) ps _ (by rw [tab_len]; omega) q _ ?_ (by omega)
      rw [show (s : Int) + ((t + 1 : Nat) : Int) = ((s + t + 1 : Nat) : Int) by omega] at hq
      exact hq)
  have h0 : (0 : Int).toNat = 0 := rfl
  simp only [h0, Int.add_zero] at this
  exact this
theorem impl_ws (hc : costsP L) (h : shP H s L.length) (hD : dN s (me H) ≠ 0) (Q : List (List Int) × Bool) (hq : Ev (fun k => impl_mutual.l6 k L (s : Int) (gvs L H s s) (s : Int)) Q) :
    Ev (fun k => impl_mutual.l3 k L (s : Int) H (tab (sqm H s s 0) 9) [] 0) Q := by
  have hs := h.1
  have := ev_pass (F := fun k x => impl_mutual.l3 k L (s : Int) H (tab (sqm H s s 0) 9) (gvs L H s x.toNat) x) (n := s) (R := Q)
    (by
      refine Ev.step (fun _ => rfl) ?_
      simp only [impl_mutual.l3, Int.toNat_natCast]
      exact ev_neg (by omega) hq)
    (fun i q hi hq => by
      refine Ev.step (fun _ => rfl) ?_
      simp only [impl_mutual.l3, Int.toNat_natCast]
      have e4 : (((i + 1 : Nat) : Int)).toNat = i + 1 := Int.toNat_natCast _
      simp only [e4, gvs_succ] at hq
      exact ev_pos (by omega) (impl_w hc h hD i hi _ (by rw [gvs_len]; omega) q hq))
  exact this
theorem sm_bd3 {f : Nat → Int} (n : Nat) (hn : n ≤ 3) (h : ∀ j, j < n → -300000000000 ≤ f j ∧ f j ≤ 300000000000) : -900000000000 ≤ sm f n ∧ sm f n ≤ 900000000000 := by
  have := sm_bd (f := f) (M := 300000000000) (by omega) n h
  omega
theorem impl_tot (hc : costsP L) (h : shP H s L.length) (hD : dN s (me H) ≠ 0) (p : Nat) (hp : s ≤ p ∧ p < L.length) (Q : List (List Int) × Bool)
    (hq : Ev (fun k => (impl_amount.f (tot L H s p)).bind fun t200 => if t200 = true then impl_mutual.l6 k L (s : Int) (gvs L H s s) ((p + 1 : Nat) : Int) else some ([], false)) Q) :
    Ev (fun k => impl_mutual.l7 k L (s : Int) (gvs L H s s) (p : Int) (ri L p) 0) Q := by
  have hs := h.1
  have hn := hc.1
  have ha := hc.2 p hp.2
  unfold amt at ha
  have e1 : wrap64 ((p : Int) - (s : Int)) = ((p - s : Nat) : Int) := (wrap_id (by omega) (by omega)).trans (by omega)
  have := ev_pass (F := fun k x => impl_mutual.l7 k L (s : Int) (gvs L H s s) (p : Int) (ri L p + sm (fun i => ri (gives L H s i) (p - s)) x.toNat) x) (n := s) (R := Q)
    (by
      refine Ev.step (fun _ => rfl) ?_
      simp only [impl_mutual.l7, Int.toNat_natCast]
      rw [show wrap64 ((p : Int) + 1) = ((p + 1 : Nat) : Int) from wrap_succ (n := p + 1) (by omega) (by omega)]
      exact ev_neg (by omega) hq)
    (fun i q hi hq => by
      obtain ⟨_, g2, _, g4⟩ := gives_ok hc h hD i hi
      refine Ev.step (fun _ => rfl) ?_
      simp only [impl_mutual.l7, Int.toNat_natCast, gvs_at s i hi, e1, ri_rd]
      have b1 := sm_bd3 (f := fun i => ri (gives L H s i) (p - s)) i (by omega) (fun j hj => (gives_ok hc h hD j (by omega)).2.2.2 _)
      have b2 := g4 (p - s)
      rw [wrap_succ hi (by omega), wrap_id (x := ri L p + sm (fun i => ri (gives L H s i) (p - s)) i + ri (gives L H s i) (p - s)) (by omega) (by omega)]
      have e4 : (((i + 1 : Nat) : Int)).toNat = i + 1 := Int.toNat_natCast _
      simp only [e4, sm] at hq
      rw [← Int.add_assoc] at hq
      exact ev_pos (by omega) (ev_pos (by omega) (ev_pos (by rw [gvs_len]; omega) (ev_pos (by omega) (ev_pos (by omega) hq)))))
  have h0 : (0 : Int).toNat = 0 := rfl
  simp only [h0, sm, Int.add_zero] at this
  exact this
theorem implMut (hL : L.length ≤ 1048576) (hH : H.length ≤ 1048576) (a : Int) :
    Ev (fun k => impl_mutual.f k L a H) (if costsP L ∧ 0 ≤ a ∧ mutP L H a.toNat then (gvs L H a.toNat a.toNat, true) else ([], false)) := by
  have j0t : ∀ b : Bool, b = true → ¬ (costsP L ∧ 0 ≤ a ∧ mutP L H a.toNat) → Ev (fun k => impl_mutual.j0 k L a H b) (if costsP L ∧ 0 ≤ a ∧ mutP L H a.toNat then (gvs L H a.toNat a.toNat, true) else ([], false)) := by
    intro b hb hg
    rw [if_neg hg]
    refine Ev.step (fun _ => rfl) ?_
    simp only [impl_mutual.j0]
    exact ev_pos hb (ev_some _)
  unfold impl_mutual.f
  refine ev_bind (costs_i L hL) ?_
  by_cases hc : costsP L
  · refine ev_pos (decide_eq_true hc) (ev_bind0 (between_eq _ _ _) ?_)
    by_cases h1 : 1 ≤ a ∧ a ≤ 3
    · refine ev_pos (decide_eq_true h1) ?_
      obtain ⟨s, rfl⟩ : ∃ s : Nat, a = (s : Int) := ⟨a.toNat, by omega⟩
      rw [Int.toNat_natCast] at j0t ⊢
      have hs : 1 ≤ s ∧ s ≤ 3 := by omega
      by_cases h2 : (s : Int) ≥ (L.length : Int)
      · exact ev_pos h2 (j0t _ rfl (fun h => by have := h.2.2.1.2.1; omega))
      · refine ev_neg h2 ?_
        by_cases h3 : H.length = s
        · refine Ev.step (fun _ => rfl) ?_
          simp only [impl_mutual.j0]
          refine ev_neg (by simp; omega) ?_
          have hlen := hc.1
          obtain ⟨g1, g2⟩ := ev_loop (F := fun k x => impl_mutual.l0 k L (s : Int) H (tab (sqm H s x.toNat 0) 9) H (H.length : Int) x) (n := s) (p := fun i => rowP H L.length i) (R := if costsP L ∧ 0 ≤ (s : Int) ∧ mutP L H s then (gvs L H s s, true) else ([], false)) (bad := ([], false))
            (fun hall => by
              have hsh : shP H s L.length := ⟨hs, by omega, h3, hall⟩
              refine Ev.step (fun _ => rfl) ?_
              simp only [impl_mutual.l0, Int.toNat_natCast]
              refine ev_neg (by omega) (ev_pos (tab_len _ _) (ev_bind0 (det_me L.length hsh) ?_))
              by_cases hD : dN s (me H) = 0
              · rw [if_neg (fun h => h.2.2.2.1 hD)]
                exact ev_pos hD (ev_some _)
              · refine ev_neg hD (impl_ws hc hsh hD _ ?_)
                obtain ⟨k1, k2⟩ := ev_loop (F := fun k x => impl_mutual.l6 k L (s : Int) (gvs L H s s) ((s : Int) + x)) (n := L.length - s) (p := fun j => amt (tot L H s (s + j))) (R := (gvs L H s s, true)) (bad := ([], false))
                  (fun _ => by
                    refine Ev.step (fun _ => rfl) ?_
                    simp only [impl_mutual.l6]
                    exact ev_neg (by omega) (ev_some _))
                  (fun t q ht _ hp hq => by
                    refine Ev.step (fun _ => rfl) ?_
                    have e : (s : Int) + (t : Int) = ((s + t : Nat) : Int) := by omega
                    simp only [impl_mutual.l6, e, ri_rd]
                    refine ev_pos (by omega) (ev_pos (by omega) (impl_tot hc hsh hD (s + t) (by omega) q (ev_bind0 (amt_i _) (ev_pos (decide_eq_true hp) ?_))))
                    rw [show (s : Int) + ((t + 1 : Nat) : Int) = ((s + t + 1 : Nat) : Int) by omega] at hq
                    exact hq)
                  (fun t ht _ hp => by
                    refine Ev.step (fun _ => rfl) ?_
                    have e : (s : Int) + (t : Int) = ((s + t : Nat) : Int) := by omega
                    simp only [impl_mutual.l6, e, ri_rd]
                    exact ev_pos (by omega) (ev_pos (by omega) (impl_tot hc hsh hD (s + t) (by omega) _ (ev_bind0 (amt_i _) (ev_neg (by rw [decide_eq_true_eq]; exact hp) (ev_some _))))))
                simp only [Int.add_zero] at k1 k2
                by_cases hall2 : ∀ j, j < L.length - s → amt (tot L H s (s + j))
                · rw [if_pos ⟨hc, by omega, hsh, hD, hall2⟩]
                  exact k1 hall2
                · rw [if_neg (fun h => hall2 h.2.2.2.2)]
                  exact k2 hall2)
            (fun i q hi _ hp hq => by
              simp only [Int.toNat_natCast] at hq ⊢
              exact impl_row hL hs (by omega) hlen.2 h3 i hi q (fun _ => hq) (fun h => absurd hp h))
            (fun i hi _ hp => by
              simp only [Int.toNat_natCast]
              exact impl_row hL hs (by omega) hlen.2 h3 i hi _ (fun h => absurd h hp) (fun _ => rfl))
          have e0 : tab (sqm H s 0 0) 9 = List.replicate 9 0 := by
            refine ri_ext (by rw [tab_len]; rfl) (fun j hj => ?_)
            have hj9 : j < 9 := by simpa using hj
            rw [tab_at _ _ _ hj9]
            unfold sqm
            rw [if_neg (by omega), if_neg (by omega)]
            unfold ri
            rw [List.getD_eq_getElem?_getD, List.getElem?_replicate, if_pos hj9]
            rfl
          have h0 : (0 : Int).toNat = 0 := rfl
          simp only [h0, e0] at g1 g2
          by_cases hall : ∀ i, i < s → rowP H L.length i
          · exact g1 hall
          · rw [if_neg (fun h => hall h.2.2.1.2.2.2)]
            exact g2 hall
        · exact j0t _ (bne_iff_ne.2 (by omega)) (fun h => h3 h.2.2.1.2.2.1)
    · exact ev_neg (by rw [decide_eq_true_eq]; exact h1) (j0t _ rfl (fun h => h1 (by have := h.2.2.1.1; omega)))
  · exact ev_neg (by rw [decide_eq_true_eq]; exact hc) (j0t _ rfl (fun h => hc h.1))
noncomputable def fin (L : List Int) (H : List (List Int)) (s : Nat) : List Int := tab (fun p => if p < s then 0 else tot L H s p) L.length
theorem fin_len : (fin L H s).length = L.length := tab_len _ _
theorem impl_add1 (hc : costsP L) (h : mutP L H s) (p : Nat) (hp : s ≤ p ∧ p < L.length) (g : Nat → Int) (hg : g p = ri L p) (Q : List Int × Bool)
    (hq : Ev (fun k => impl_Mutual.l0 k L (s : Int) (gvs L H s s) (tab (fun k => if p = k then tot L H s p else g k) L.length) ((p + 1 : Nat) : Int)) Q) :
    Ev (fun k => impl_Mutual.l1 k L (s : Int) (gvs L H s s) (tab g L.length) (p : Int) (s : Int) 0) Q := by
  have hs := h.1.1
  have hn := hc.1
  have ha := hc.2 p hp.2
  unfold amt at ha
  have e1 : wrap64 ((p : Int) - (s : Int)) = ((p - s : Nat) : Int) := (wrap_id (by omega) (by omega)).trans (by omega)
  have := ev_pass (F := fun k x => impl_Mutual.l1 k L (s : Int) (gvs L H s s) (tab (fun k => if p = k then ri L p + sm (fun i => ri (gives L H s i) (p - s)) x.toNat else g k) L.length) (p : Int) (s : Int) x) (n := s) (R := Q)
    (by
      refine Ev.step (fun _ => rfl) ?_
      simp only [impl_Mutual.l1, Int.toNat_natCast]
      rw [show wrap64 ((p : Int) + 1) = ((p + 1 : Nat) : Int) from wrap_succ (n := p + 1) (by omega) (by omega)]
      exact ev_neg (by omega) hq)
    (fun i q hi hq => by
      obtain ⟨_, g2, _, g4⟩ := gives_ok hc h.1 h.2.1 i hi
      refine Ev.step (fun _ => rfl) ?_
      simp only [impl_Mutual.l1, Int.toNat_natCast, gvs_at s i hi, e1, ri_rd]
      have b1 := sm_bd3 (f := fun i => ri (gives L H s i) (p - s)) i (by omega) (fun j hj => (gives_ok hc h.1 h.2.1 j (by omega)).2.2.2 _)
      have b2 := g4 (p - s)
      rw [tab_at _ _ _ hp.2, if_pos rfl, wrap_succ hi (by omega), wrap_id (x := ri L p + sm (fun i => ri (gives L H s i) (p - s)) i + ri (gives L H s i) (p - s)) (by omega) (by omega), tab_set _ _ _ _ hp.2]
      have e4 : (((i + 1 : Nat) : Int)).toNat = i + 1 := Int.toNat_natCast _
      simp only [e4, sm] at hq
      refine ev_pos (by omega) (ev_pos (by omega) (ev_pos (by rw [tab_len]; omega) (ev_pos (by omega) (ev_pos (by rw [gvs_len]; omega) (ev_pos (by omega) (ev_pos (by omega) ?_))))))
      rw [tab_congr (g := fun k => if p = k then ri L p + (sm (fun i => ri (gives L H s i) (p - s)) i + ri (gives L H s i) (p - s)) else g k) (fun j _ => by
        by_cases c : p = j
        · rw [if_pos c, if_pos c, Int.add_assoc]
        · rw [if_neg c, if_neg c, if_neg c])]
      exact hq)
  have h0 : (0 : Int).toNat = 0 := rfl
  simp only [h0, sm, Int.add_zero] at this
  rw [tab_congr (g := g) (fun j _ => by
    by_cases c : p = j
    · subst c; rw [if_pos rfl, hg]
    · rw [if_neg c])] at this
  exact this
theorem implMutual (hL : L.length ≤ 1048576) (hH : H.length ≤ 1048576) (a : Int) :
    Ev (fun k => impl_Mutual.f k L a H) (if costsP L ∧ 0 ≤ a ∧ mutP L H a.toNat then (fin L H a.toNat, true) else ([], false)) := by
  unfold impl_Mutual.f
  refine ev_bind (implMut hL hH a) ?_
  by_cases hg : costsP L ∧ 0 ≤ a ∧ mutP L H a.toNat
  · rw [if_pos hg, if_pos hg]
    obtain ⟨hc, h0, h⟩ := hg
    obtain ⟨s, rfl⟩ : ∃ s : Nat, a = (s : Int) := ⟨a.toNat, by omega⟩
    rw [Int.toNat_natCast] at h ⊢
    have hs := h.1.1
    have hn := hc.1
    have hsn := h.1.2.1
    refine ev_pos rfl (ev_pos (by omega) (ev_pos (by rw [Int.toNat_natCast]; omega) ?_))
    rw [Int.toNat_natCast]
    have := ev_pass (F := fun k x => impl_Mutual.l0 k L (s : Int) (gvs L H s s) (tab (fun p => if p < s then 0 else if p < s + x.toNat then tot L H s p else 0) L.length) ((s : Int) + x)) (n := L.length - s) (R := (fin L H s, true))
      (by
        refine Ev.step (fun _ => rfl) ?_
        simp only [impl_Mutual.l0, Int.toNat_natCast]
        refine ev_neg (by omega) (ev_eq (ev_some _) ?_)
        refine congrArg (fun z => (z, true)) (tab_congr (fun j hj => ?_))
        by_cases c : j < s
        · rw [if_pos c, if_pos c]
        · rw [if_neg c, if_neg c, if_pos (by omega)])
      (fun t q ht hq => by
        refine Ev.step (fun _ => rfl) ?_
        have e : (s : Int) + (t : Int) = ((s + t : Nat) : Int) := by omega
        simp only [impl_Mutual.l0, e, ri_rd, Int.toNat_natCast, gvs_len]
        refine ev_pos (by omega) (ev_pos (by omega) (ev_pos (by rw [tab_len]; omega) ?_))
        rw [tab_set _ _ _ _ (by omega)]
        refine impl_add1 hc h (s + t) (by omega) _ (if_pos rfl) q ?_
        have e4 : (((t + 1 : Nat) : Int)).toNat = t + 1 := Int.toNat_natCast _
        simp only [e4] at hq
        rw [show (s : Int) + ((t + 1 : Nat) : Int) = ((s + t + 1 : Nat) : Int) by omega] at hq
        rw [tab_congr (g := fun p => if p < s then 0 else if p < s + (t + 1) then tot L H s p else 0) (fun j hj => ?_)]
        · exact hq
        · by_cases c : s + t = j
          · subst c
            rw [if_pos rfl, if_neg (by omega), if_pos (by omega)]
          · rw [if_neg c, if_neg c]
            by_cases c2 : j < s
            · rw [if_pos c2, if_pos c2]
            · rw [if_neg c2, if_neg c2]
              by_cases c3 : j < s + t
              · rw [if_pos c3, if_pos (by omega)]
              · rw [if_neg c3, if_neg (by omega)])
    have h0' : (0 : Int).toNat = 0 := rfl
    simp only [h0', Int.add_zero, Nat.add_zero] at this
    have e0 : tab (fun p => if p < s then 0 else if p < s then tot L H s p else 0) L.length = List.replicate L.length 0 := by
      refine ri_ext (by rw [tab_len, List.length_replicate]) (fun j hj => ?_)
      rw [List.length_replicate] at hj
      rw [tab_at _ _ _ hj]
      have : ri (List.replicate L.length 0) j = 0 := by unfold ri; simp [List.getD_eq_getElem?_getD, hj]
      rw [this]
      by_cases c : j < s
      · rw [if_pos c]
      · rw [if_neg c, if_neg c]
    rw [e0] at this
    exact this
  · rw [if_neg hg, if_neg hg]
    exact ev_neg (by decide) (ev_some _)
end
end Go.Proofs.Ytadehdkmggpehaa.PFnMutualWhole

set_option linter.unusedVariables false
set_option linter.unusedSimpArgs false
namespace Go.Proofs.Ytadehdkmggpehaa.PFnMutualWhole
open Go Go.RowKit Go.Proofs.YtadehdkmggpehaaW.PrintWords Go.Proofs.YtadehdkmggpehaaW.PrintLast Go.Proofs.Ytadehdkmggpehaa.MapWords Go.Proofs.Ytadehdkmggpehaa.IterWords Go.Proofs.Ytadehdkmggpehaa.EvWords
open Classical
section
variable {L : List Int} {H : List (List Int)} {s n : Nat}
theorem spec_row (hs : 1 ≤ s ∧ s ≤ 3) (hsn : s < n) (hn : n ≤ 200) (hH : H.length = s) (i : Nat) (hi : i < s) (Q : Bool)
    (h : rowP H n i → Ev (fun k => spec_l7Shares.l0 k (n : Int) (s : Int) H ((i + 1 : Nat) : Int)) Q) (hbad : ¬ rowP H n i → Q = false) :
    Ev (fun k => spec_l7Shares.l0 k (n : Int) (s : Int) H (i : Int)) Q := by
  refine Ev.step (fun _ => rfl) ?_
  simp only [spec_l7Shares.l0]
  refine ev_pos (by omega) (ev_pos (by omega) (ev_pos (by omega) ?_))
  by_cases c1 : (rd_L2 H (i : Int)).length = n
  · refine ev_pos (by omega) ?_
    obtain ⟨g1, g2⟩ := ev_loop (F := fun k x => spec_l7Shares.l1 k (n : Int) (s : Int) H (i : Int) (sm (sh H i) x.toNat) x) (n := n) (p := fun j => 0 ≤ sh H i j ∧ sh H i j ≤ 100) (R := Q) (bad := false)
      (fun hall => by
        refine Ev.step (fun _ => rfl) ?_
        simp only [spec_l7Shares.l1, Int.toNat_natCast, ri_rd]
        refine ev_neg (by omega) ?_
        by_cases c3 : sm (sh H i) n = 100
        · refine ev_pos c3 (ev_pos (by omega) (ev_pos (by omega) (ev_pos (by omega) ?_)))
          by_cases c2 : sh H i i = 0
          · rw [wrap_succ hi (by omega)]
            exact ev_pos c2 (h ⟨c1, c2, hall, c3⟩)
          · rw [hbad (fun hr => c2 hr.2.1)]
            exact ev_neg c2 (ev_some _)
        · rw [hbad (fun hr => c3 hr.2.2.2)]
          exact ev_neg c3 (ev_some _))
      (fun t q ht hpre hp hq => by
        refine Ev.step (fun _ => rfl) ?_
        have b := sm_bd (f := sh H i) (M := 100) (by omega) t (fun j hj => by have := hpre j hj; omega)
        have e1 : wrap64 (sm (sh H i) t + ri (rd_L2 H (i : Int)) t) = sm (sh H i) (t + 1) := wrap_id (by unfold sh at hp b ⊢; omega) (by unfold sh at hp b ⊢; omega)
        have e4 : (((t + 1 : Nat) : Int)).toNat = t + 1 := Int.toNat_natCast _
        simp only [e4] at hq
        simp only [spec_l7Shares.l1, Int.toNat_natCast, ri_rd]
        rw [wrap_succ ht (by omega), e1]
        exact ev_pos (by omega) (ev_pos (by omega) (ev_pos (by omega) (ev_pos (by omega) (ev_pos (by omega) (ev_bind0 (l1In_eq _ _ _) (ev_pos (decide_eq_true hp) hq)))))))
      (fun t ht _ hp => by
        refine Ev.step (fun _ => rfl) ?_
        simp only [spec_l7Shares.l1, Int.toNat_natCast, ri_rd]
        exact ev_pos (by omega) (ev_pos (by omega) (ev_pos (by omega) (ev_pos (by omega) (ev_pos (by omega) (ev_bind0 (l1In_eq _ _ _) (ev_neg (by rw [decide_eq_true_eq]; exact hp) (ev_some _))))))))
    have h0 : (0 : Int).toNat = 0 := rfl
    simp only [h0] at g1 g2
    by_cases hall : ∀ j, j < n → 0 ≤ sh H i j ∧ sh H i j ≤ 100
    · exact g1 hall
    · rw [hbad (fun hr => hall hr.2.2.1)]
      exact g2 hall
  · rw [hbad (fun hr => c1 hr.1)]
    exact ev_neg (by omega) (ev_some _)
theorem shares_s (hn : n ≤ 200) (hH : H.length ≤ 1048576) (a : Int) : Ev (fun k => spec_l7Shares.f k (n : Int) a H) (decide (0 ≤ a ∧ shP H a.toNat n)) := by
  have j0t : ∀ b : Bool, b = true → ¬ (0 ≤ a ∧ shP H a.toNat n) → Ev (fun k => spec_l7Shares.j0 k (n : Int) a H b) (decide (0 ≤ a ∧ shP H a.toNat n)) := by
    intro b hb hg
    rw [decide_eq_false hg]
    refine Ev.step (fun _ => rfl) ?_
    simp only [spec_l7Shares.j0]
    exact ev_pos hb (ev_some _)
  unfold spec_l7Shares.f
  refine ev_bind0 (l1In_eq _ _ _) ?_
  by_cases h1 : 1 ≤ a ∧ a ≤ 3
  · refine ev_pos (decide_eq_true h1) ?_
    obtain ⟨s, rfl⟩ : ∃ s : Nat, a = (s : Int) := ⟨a.toNat, by omega⟩
    rw [Int.toNat_natCast] at j0t ⊢
    have hs : 1 ≤ s ∧ s ≤ 3 := by omega
    by_cases h2 : (s : Int) ≥ (n : Int)
    · exact ev_pos h2 (j0t _ rfl (fun h => by have := h.2.2.1; omega))
    · refine ev_neg h2 ?_
      by_cases h3 : H.length = s
      · refine Ev.step (fun _ => rfl) ?_
        simp only [spec_l7Shares.j0]
        refine ev_neg (by simp; omega) ?_
        obtain ⟨g1, g2⟩ := ev_loop (F := fun k x => spec_l7Shares.l0 k (n : Int) (s : Int) H x) (n := s) (p := fun i => rowP H n i) (R := true) (bad := false)
          (fun _ => by
            refine Ev.step (fun _ => rfl) ?_
            simp only [spec_l7Shares.l0]
            exact ev_neg (by omega) (ev_some _))
          (fun i q hi _ hp hq => spec_row hs (by omega) hn h3 i hi q (fun _ => hq) (fun h => absurd hp h))
          (fun i hi _ hp => spec_row hs (by omega) hn h3 i hi _ (fun h => absurd h hp) (fun _ => rfl))
        by_cases hall : ∀ i, i < s → rowP H n i
        · rw [decide_eq_true (show 0 ≤ (s : Int) ∧ shP H s n from ⟨by omega, hs, by omega, h3, hall⟩)]
          exact g1 hall
        · rw [decide_eq_false (fun h : 0 ≤ (s : Int) ∧ shP H s n => hall h.2.2.2.2)]
          exact g2 hall
      · exact j0t _ (bne_iff_ne.2 (by omega)) (fun h => h3 h.2.2.2.1)
  · exact ev_neg (by rw [decide_eq_true_eq]; exact h1) (j0t _ rfl (fun h => h1 (by have := h.2.1; omega)))
def mrs (f : Nat → Nat → Int) (s a : Nat) : List (List Int) := (List.range a).map (fun x => tab (f x) s)
theorem mrs_len (f : Nat → Nat → Int) (s a : Nat) : (mrs f s a).length = a := by simp [mrs]
theorem mrs_succ (f : Nat → Nat → Int) (s a : Nat) : mrs f s (a + 1) = mrs f s a ++ [tab (f a) s] := by simp [mrs, List.range_succ]
theorem mrs_at (f : Nat → Nat → Int) (s a i : Nat) (hi : i < a) : rd_L2 (mrs f s a) (i : Int) = tab (f i) s := by
  show (mrs f s a).getD i _ = _
  unfold mrs
  rw [List.getD_eq_getElem?_getD, List.getElem?_map, List.getElem?_range hi]
  rfl
theorem sh_all (h : shP H s n) (a b : Nat) : 0 ≤ sh H a b ∧ sh H a b ≤ 100 := by
  by_cases ha : a < s
  · exact sh_in h a b ha
  · rw [sh_out h a b (by omega)]; omega
theorem me_all (h : shP H s n) (a b : Nat) : -100 ≤ me H a b ∧ me H a b ≤ 100 := by
  have := sh_all h a b
  unfold me
  split <;> omega
theorem row_len (h : shP H s n) (a : Nat) (ha : a < s) : (rd_L2 H (a : Int)).length = n := (h.2.2.2 a ha).1
theorem ends_fill (h : shP H s n) (hn : n ≤ 200) (i a : Nat) (ha : a < s) (Q : List Int × Int) (hq : Ev (fun k => spec_l7Ends.l0 k (n : Int) (s : Int) H (i : Int) (mrs (me H) s (a + 1)) ((a + 1 : Nat) : Int)) Q) :
    Ev (fun k => spec_l7Ends.l1 k (n : Int) (s : Int) H (i : Int) (mrs (me H) s a) (a : Int) [] 0) Q := by
  have hs := h.1
  have hsn := h.2.1
  have hH := h.2.2.1
  have hr := row_len h a ha
  have ea : wrap64 ((a : Int) + 1) = ((a + 1 : Nat) : Int) := wrap_succ ha (by omega)
  have := ev_pass (F := fun k x => spec_l7Ends.l1 k (n : Int) (s : Int) H (i : Int) (mrs (me H) s a) (a : Int) (tab (me H a) x.toNat) x) (n := s) (R := Q)
    (by
      refine Ev.step (fun _ => rfl) ?_
      simp only [spec_l7Ends.l1, Int.toNat_natCast, ea]
      refine ev_neg (by omega) (ev_pos (by rw [mrs_len]; omega) ?_)
      rw [← mrs_succ]
      exact hq)
    (fun b q hb hq => by
      refine Ev.step (fun _ => rfl) ?_
      have e4 : (((b + 1 : Nat) : Int)).toNat = b + 1 := Int.toNat_natCast _
      simp only [e4, tab_succ] at hq
      simp only [spec_l7Ends.l1, Int.toNat_natCast, ri_rd]
      rw [wrap_succ hb (by omega)]
      refine ev_pos (by omega) ?_
      by_cases c : a = b
      · refine ev_pos (by omega) (ev_pos (by rw [tab_len]; omega) ?_)
        rw [show me H a b = 100 from if_pos c] at hq
        exact hq
      · have b1 := sh_all h a b
        refine ev_neg (by omega) (ev_pos (by omega) (ev_pos (by omega) (ev_pos (by omega) (ev_pos (by omega) (ev_pos (by rw [tab_len]; omega) ?_)))))
        have e1 : wrap64 (-(ri (rd_L2 H (a : Int)) b)) = me H a b := (wrap_id (by unfold sh at b1; omega) (by unfold sh at b1; omega)).trans (show -(sh H a b) = me H a b from (if_neg c).symm)
        rw [e1]
        exact hq)
  exact this
theorem ends_put (h : shP H s n) (hn : n ≤ 200) (i p : Nat) (hi : i < s) (hp : p < n) (ws : List Int) (hw : ws.length ≤ 1000) (Q : List Int × Int)
    (hq : Ev (fun k => spec_l7Ends.l2 k (n : Int) (s : Int) H (i : Int) (mrs (me H) s s) (ws ++ [put H s i p]) ((p + 1 : Nat) : Int)) Q) :
    Ev (fun k => spec_l7Ends.l3 k (n : Int) (s : Int) H (i : Int) (mrs (me H) s s) ws (p : Int) [] 0) Q := by
  have hs := h.1
  have hH := h.2.2.1
  have ep : wrap64 ((p : Int) + 1) = ((p + 1 : Nat) : Int) := wrap_succ hp (by omega)
  have hd : Ev (fun k => spec_l7Det.f k (mrs (fun a b => if b = i then sh H a p else me H a b) s s)) (put H s i p) := spec_det s hs (fun a b => if b = i then sh H a p else me H a b) (fun a b => by
    by_cases c : b = i
    · have := sh_all h a p
      simp only [if_pos c]
      omega
    · simp only [if_neg c]
      exact me_all h a b)
  have := ev_pass (F := fun k x => spec_l7Ends.l3 k (n : Int) (s : Int) H (i : Int) (mrs (me H) s s) ws (p : Int) (mrs (fun a b => if b = i then sh H a p else me H a b) s x.toNat) x) (n := s) (R := Q)
    (by
      refine Ev.step (fun _ => rfl) ?_
      simp only [spec_l7Ends.l3, Int.toNat_natCast, ep]
      exact ev_neg (by omega) (ev_bind hd (ev_pos (by omega) hq)))
    (fun a q ha hq => by
      have hr := row_len h a ha
      refine Ev.step (fun _ => rfl) ?_
      have e4 : (((a + 1 : Nat) : Int)).toNat = a + 1 := Int.toNat_natCast _
      simp only [e4, mrs_succ] at hq
      simp only [spec_l7Ends.l3, Int.toNat_natCast, ri_rd, mrs_at _ _ s a ha, List.nil_append]
      rw [wrap_succ ha (by omega)]
      refine ev_pos (by omega) (ev_bind0 rfl (ev_pos (by omega) (ev_pos (by rw [mrs_len]; omega) (ev_pos (by rw [tab_len]; simp; omega) (ev_bind0 rfl (ev_pos (by omega) (ev_pos (by omega) (ev_pos (by omega) (ev_pos (by omega) (ev_pos (by simp only [List.nil_append]; rw [tab_len]; omega) (ev_pos (by rw [mrs_len]; omega) ?_)))))))))))
      simp only [List.nil_append]
      rw [tab_set _ _ _ _ hi, tab_congr (g := fun b => if b = i then sh H a p else me H a b) (fun b _ => by
        by_cases c : b = i
        · rw [if_pos c, if_pos c.symm]; rfl
        · rw [if_neg c, if_neg (fun e => c e.symm)])]
      exact hq)
  exact this
theorem ends_s (h : shP H s n) (hn : n ≤ 200) (i : Nat) (hi : i < s) : Ev (fun k => spec_l7Ends.f k (n : Int) (s : Int) H (i : Int)) (wts H s n i, dN s (me H)) := by
  have hs := h.1
  have hsn := h.2.1
  have h2 := ev_pass (F := fun k x => spec_l7Ends.l2 k (n : Int) (s : Int) H (i : Int) (mrs (me H) s s) (tab (fun j => put H s i (s + j)) x.toNat) ((s : Int) + x)) (n := n - s) (R := (wts H s n i, dN s (me H)))
    (by
      refine Ev.step (fun _ => rfl) ?_
      simp only [spec_l7Ends.l2, Int.toNat_natCast]
      have hd : Ev (fun k => spec_l7Det.f k (mrs (me H) s s)) (dN s (me H)) := spec_det s hs (me H) (me_all h)
      exact ev_neg (by omega) (ev_bind hd (ev_some _)))
    (fun t q ht hq => by
      refine Ev.step (fun _ => rfl) ?_
      have e : (s : Int) + (t : Int) = ((s + t : Nat) : Int) := by omega
      have e4 : (((t + 1 : Nat) : Int)).toNat = t + 1 := Int.toNat_natCast _
      simp only [e4, tab_succ] at hq
      simp only [spec_l7Ends.l2, Int.toNat_natCast, e]
      rw [show (s : Int) + ((t + 1 : Nat) : Int) = ((s + t + 1 : Nat) : Int) by omega] at hq
      exact ev_pos (by omega) (ends_put h hn i (s + t) hi (by omega) _ (by rw [tab_len]; omega) q hq))
  have h0 : (0 : Int).toNat = 0 := rfl
  simp only [h0, Int.add_zero] at h2
  have h1 := ev_pass (F := fun k x => spec_l7Ends.l0 k (n : Int) (s : Int) H (i : Int) (mrs (me H) s x.toNat) x) (n := s) (R := (wts H s n i, dN s (me H)))
    (by
      refine Ev.step (fun _ => rfl) ?_
      simp only [spec_l7Ends.l0, Int.toNat_natCast]
      exact ev_neg (by omega) h2)
    (fun a q ha hq => by
      refine Ev.step (fun _ => rfl) ?_
      simp only [spec_l7Ends.l0, Int.toNat_natCast] at hq ⊢
      exact ev_pos (by omega) (ends_fill h hn i a ha q hq))
  exact h1
theorem parts_s (hL : L.length ≤ 1048576) (hH : H.length ≤ 1048576) (a : Int) :
    Ev (fun k => spec_l7Parts.f k L a H) (if costsP L ∧ 0 ≤ a ∧ shP H a.toNat L.length ∧ dN a.toNat (me H) ≠ 0 then (gvs L H a.toNat a.toNat, true) else ([], false)) := by
  have j0t : ∀ b : Bool, b = true → ¬ (costsP L ∧ 0 ≤ a ∧ shP H a.toNat L.length ∧ dN a.toNat (me H) ≠ 0) → Ev (fun k => spec_l7Parts.j0 k L a H [] b) (if costsP L ∧ 0 ≤ a ∧ shP H a.toNat L.length ∧ dN a.toNat (me H) ≠ 0 then (gvs L H a.toNat a.toNat, true) else ([], false)) := by
    intro b hb hg
    rw [if_neg hg]
    refine Ev.step (fun _ => rfl) ?_
    simp only [spec_l7Parts.j0]
    exact ev_pos hb (ev_some _)
  unfold spec_l7Parts.f
  refine ev_bind0 rfl (ev_bind (costs_s L hL) ?_)
  by_cases hc : costsP L
  · have hn := hc.1
    refine ev_pos (decide_eq_true hc) (ev_bind (shares_s hn.2 hH a) ?_)
    by_cases hsh : 0 ≤ a ∧ shP H a.toNat L.length
    · obtain ⟨s, rfl⟩ : ∃ s : Nat, a = (s : Int) := ⟨a.toNat, by omega⟩
      rw [Int.toNat_natCast] at hsh ⊢
      have hs := hsh.2.1
      have hsn := hsh.2.2.1
      refine Ev.step (fun _ => rfl) ?_
      simp only [spec_l7Parts.j0]
      refine ev_neg (by rw [decide_eq_true hsh]; decide) ?_
      obtain ⟨g1, g2⟩ := ev_loop (F := fun k x => spec_l7Parts.l0 k L (s : Int) H (gvs L H s x.toNat) x) (n := s) (p := fun _ => dN s (me H) ≠ 0) (R := (gvs L H s s, true)) (bad := ([], false))
        (fun _ => by
          refine Ev.step (fun _ => rfl) ?_
          simp only [spec_l7Parts.l0, Int.toNat_natCast]
          exact ev_neg (by omega) (ev_some _))
        (fun i q hi _ hp hq => by
          refine Ev.step (fun _ => rfl) ?_
          have e4 : (((i + 1 : Nat) : Int)).toNat = i + 1 := Int.toNat_natCast _
          simp only [e4, gvs_succ] at hq
          simp only [spec_l7Parts.l0, Int.toNat_natCast, ri_rd]
          rw [wrap_succ hi (by omega)]
          have hw : Ev (fun k => spec_Shares.f k (ri L i) (wts H s L.length i)) (gives L H s i) := (shr_all (T := ri L i) (ws := wts H s L.length i) (by rw [wts_len]; omega)).2.1
          exact ev_pos (by omega) (ev_bind (ends_s hsh.2 hn.2 i hi) (ev_neg hp (ev_pos (by omega) (ev_pos (by omega) (ev_bind hw (ev_pos (by rw [gvs_len]; omega) hq)))))))
        (fun i hi _ hp => by
          refine Ev.step (fun _ => rfl) ?_
          simp only [spec_l7Parts.l0, Int.toNat_natCast]
          exact ev_pos (by omega) (ev_bind (ends_s hsh.2 hn.2 i hi) (ev_pos (Classical.not_not.1 hp) (ev_some _))))
      by_cases hD : dN s (me H) = 0
      · rw [if_neg (fun h => h.2.2.2 hD)]
        exact g2 (fun hall => hall 0 (by omega) hD)
      · rw [if_pos ⟨hc, hsh.1, hsh.2, hD⟩]
        exact g1 (fun _ _ => hD)
    · exact j0t _ (by rw [decide_eq_false hsh]; rfl) (fun h => hsh ⟨h.2.1, h.2.2.1⟩)
  · exact ev_neg (by rw [decide_eq_true_eq]; exact hc) (j0t _ rfl (fun h => hc h.1))
noncomputable def md (L : List Int) (H : List (List Int)) (s z i t p : Nat) : Int := if p < z then 0 else if p < s then ri L p else ri L p + sm (fun j => ri (gives L H s j) (p - s)) (if p < s + t then i + 1 else i)
theorem md_end (i p : Nat) (hs : s ≤ L.length) (hp : p < L.length) : md L H s (i + 1) i (L.length - s) p = md L H s (i + 1) (i + 1) 0 p := by
  unfold md
  by_cases c : p < s
  · rw [if_pos c, if_pos c]
  · rw [if_neg c, if_neg c, if_pos (show p < s + (L.length - s) by omega), if_neg (show ¬ p < s + 0 by omega)]
theorem md_at (i t : Nat) (hi : i < s) : md L H s (i + 1) i t (s + t) = ri L (s + t) + sm (fun j => ri (gives L H s j) t) i := by
  unfold md
  rw [if_neg (by omega), if_neg (by omega), if_neg (by omega), Nat.add_sub_cancel_left]
theorem md_step (i t p : Nat) (hi : i < s) : (if s + t = p then ri L (s + t) + sm (fun j => ri (gives L H s j) t) i + ri (gives L H s i) t else md L H s (i + 1) i t p) = md L H s (i + 1) i (t + 1) p := by
  by_cases c : s + t = p
  · subst c
    rw [if_pos rfl]
    unfold md
    rw [if_neg (by omega), if_neg (by omega), if_pos (by omega), Nat.add_sub_cancel_left, Int.add_assoc]
    rfl
  · rw [if_neg c]
    unfold md
    by_cases c2 : p < s + t
    · rw [if_pos c2, if_pos (show p < s + (t + 1) by omega)]
    · rw [if_neg c2, if_neg (show ¬ p < s + (t + 1) by omega)]
theorem md_zero (i p : Nat) (hi : i < s) : (if i = p then 0 else md L H s i i 0 p) = md L H s (i + 1) i 0 p := by
  unfold md
  by_cases c : i = p
  · rw [if_pos c, if_pos (by omega)]
  · rw [if_neg c]
    by_cases c2 : p < i
    · rw [if_pos c2, if_pos (by omega)]
    · rw [if_neg c2, if_neg (show ¬ p < i + 1 by omega)]
theorem spec_add1 (hc : costsP L) (h : shP H s L.length) (hD : dN s (me H) ≠ 0) (i : Nat) (hi : i < s) (t : Nat) (ht : t < L.length - s) (Q : List Int × Bool)
    (hq : Ev (fun k => spec_Mutual.l1 k (s : Int) (gvs L H s s) (tab (md L H s (i + 1) i (t + 1)) L.length) (i : Int) ((t + 1 : Nat) : Int)) Q) :
    Ev (fun k => spec_Mutual.l1 k (s : Int) (gvs L H s s) (tab (md L H s (i + 1) i t) L.length) (i : Int) (t : Int)) Q := by
  have hs := h.1
  have hsn := h.2.1
  have hn := hc.1
  obtain ⟨_, g2, _, g4⟩ := gives_ok hc h hD i hi
  have e : wrap64 ((s : Int) + (t : Int)) = ((s + t : Nat) : Int) := (wrap_id (by omega) (by omega)).trans (by omega)
  have et : wrap64 ((t : Int) + 1) = ((t + 1 : Nat) : Int) := wrap_succ ht (by omega)
  have b1 := sm_bd3 (f := fun j => ri (gives L H s j) t) i (by omega) (fun j hj => (gives_ok hc h hD j (by omega)).2.2.2 _)
  have b2 := g4 t
  have b3 := hc.2 (s + t) (by omega)
  unfold amt at b3
  have ew : wrap64 (ri L (s + t) + sm (fun j => ri (gives L H s j) t) i + ri (gives L H s i) t) = ri L (s + t) + sm (fun j => ri (gives L H s j) t) i + ri (gives L H s i) t := wrap_id (by omega) (by omega)
  refine Ev.step (fun _ => rfl) ?_
  simp only [spec_Mutual.l1, Int.toNat_natCast, gvs_at s i hi, e, et, ri_rd]
  rw [tab_at _ _ _ (by omega), md_at i t hi, ew, tab_set _ _ _ _ (by omega), tab_congr (fun p _ => md_step i t p hi)]
  exact ev_pos (by omega) (ev_pos (by rw [gvs_len]; omega) (ev_pos (by omega) (ev_pos (by omega) (ev_pos (by rw [tab_len]; omega) (ev_pos (by omega) hq)))))
theorem spec_add (hc : costsP L) (h : shP H s L.length) (hD : dN s (me H) ≠ 0) (i : Nat) (hi : i < s) (Q : List Int × Bool)
    (hq : Ev (fun k => spec_Mutual.l0 k (s : Int) (gvs L H s s) (tab (md L H s (i + 1) (i + 1) 0) L.length) ((i + 1 : Nat) : Int)) Q) :
    Ev (fun k => spec_Mutual.l1 k (s : Int) (gvs L H s s) (tab (md L H s (i + 1) i 0) L.length) (i : Int) 0) Q := by
  have hs := h.1
  have hsn := h.2.1
  have hn := hc.1
  obtain ⟨_, g2, _, g4⟩ := gives_ok hc h hD i hi
  have ei : wrap64 ((i : Int) + 1) = ((i + 1 : Nat) : Int) := wrap_succ hi (by omega)
  have := ev_pass (F := fun k x => spec_Mutual.l1 k (s : Int) (gvs L H s s) (tab (md L H s (i + 1) i x.toNat) L.length) (i : Int) x) (n := L.length - s) (R := Q)
    (by
      refine Ev.step (fun _ => rfl) ?_
      simp only [spec_Mutual.l1, Int.toNat_natCast, gvs_at s i hi, ei]
      refine ev_pos (by omega) (ev_pos (by rw [gvs_len]; omega) (ev_neg (by omega) ?_))
      rw [tab_congr (fun p hp => md_end i p (by omega) hp)]
      exact hq)
    (fun t q ht hq => by
      simp only [Int.toNat_natCast] at hq ⊢
      have e4 : (((t + 1 : Nat) : Int)).toNat = t + 1 := Int.toNat_natCast _
      try simp only [e4] at hq
      exact spec_add1 hc h hD i hi t ht q hq)
  exact this
theorem fin_costs (hc : costsP L) : costsP (fin L H s) ↔ ∀ j, j < L.length - s → amt (tot L H s (s + j)) := by
  unfold costsP
  rw [fin_len]
  constructor
  · intro h j hj
    have := h.2 (s + j) (by omega)
    unfold fin at this
    rw [tab_at _ _ _ (by omega), if_neg (by omega)] at this
    exact this
  · intro h
    refine ⟨hc.1, fun j hj => ?_⟩
    unfold fin
    rw [tab_at _ _ _ hj]
    by_cases c : j < s
    · rw [if_pos c]
      unfold amt
      omega
    · rw [if_neg c]
      have := h (j - s) (by omega)
      rw [show s + (j - s) = j by omega] at this
      exact this
theorem specMutual (hL : L.length ≤ 1048576) (hH : H.length ≤ 1048576) (a : Int) :
    Ev (fun k => spec_Mutual.f k L a H) (if costsP L ∧ 0 ≤ a ∧ mutP L H a.toNat then (fin L H a.toNat, true) else ([], false)) := by
  unfold spec_Mutual.f
  refine ev_bind (parts_s hL hH a) ?_
  by_cases hg : costsP L ∧ 0 ≤ a ∧ shP H a.toNat L.length ∧ dN a.toNat (me H) ≠ 0
  · rw [if_pos hg]
    obtain ⟨hc, ha, hsh, hD⟩ := hg
    obtain ⟨s, rfl⟩ : ∃ s : Nat, a = (s : Int) := ⟨a.toNat, by omega⟩
    rw [Int.toNat_natCast] at hsh hD ⊢
    have hn := hc.1
    have hs := hsh.1
    have hsn := hsh.2.1
    refine ev_pos rfl (ev_bind0 rfl (ev_pos (by simp; omega) ?_))
    rw [List.nil_append]
    have := ev_pass (F := fun k x => spec_Mutual.l0 k (s : Int) (gvs L H s s) (tab (md L H s x.toNat x.toNat 0) L.length) x) (n := s) (R := if costsP L ∧ 0 ≤ (s : Int) ∧ mutP L H s then (fin L H s, true) else ([], false))
      (by
        refine Ev.step (fun _ => rfl) ?_
        simp only [spec_Mutual.l0, Int.toNat_natCast]
        refine ev_neg (by omega) ?_
        rw [tab_congr (g := fun p => if p < s then 0 else tot L H s p) (fun p hp => by
          unfold md tot
          by_cases c : p < s
          · rw [if_pos c, if_pos c]
          · rw [if_neg c, if_neg c, if_neg c, if_neg (show ¬ p < s + 0 by omega)])]
        refine ev_bind (costs_s (fin L H s) (by rw [fin_len]; omega)) ?_
        by_cases hf : ∀ j, j < L.length - s → amt (tot L H s (s + j))
        · have hR : (if costsP L ∧ 0 ≤ (s : Int) ∧ mutP L H s then (fin L H s, true) else ([], false)) = (fin L H s, true) := if_pos ⟨hc, by omega, hsh, hD, hf⟩
          rw [hR]
          exact ev_pos (decide_eq_true ((fin_costs hc).2 hf)) (ev_some _)
        · have hR : (if costsP L ∧ 0 ≤ (s : Int) ∧ mutP L H s then (fin L H s, true) else ([], false)) = ([], false) := if_neg (fun h => hf h.2.2.2.2)
          rw [hR]
          exact ev_neg (by rw [decide_eq_true_eq]; exact fun h => hf ((fin_costs hc).1 h)) (ev_some _))
      (fun i q hi hq => by
        refine Ev.step (fun _ => rfl) ?_
        have e4 : (((i + 1 : Nat) : Int)).toNat = i + 1 := Int.toNat_natCast _
        simp only [e4] at hq
        simp only [spec_Mutual.l0, Int.toNat_natCast]
        refine ev_pos (by omega) (ev_pos (by omega) (ev_pos (by rw [tab_len]; omega) ?_))
        rw [tab_set _ _ _ _ (by omega), tab_congr (fun p _ => md_zero i p hi)]
        exact spec_add hc hsh hD i hi q hq)
    have e0 : tab (md L H s 0 0 0) L.length = L := by
      refine ri_ext (tab_len _ _) (fun p hp => ?_)
      rw [tab_at _ _ _ hp]
      unfold md
      rw [if_neg (by omega)]
      by_cases c : p < s
      · rw [if_pos c]
      · rw [if_neg c, if_neg (by omega)]
        simp [sm]
    have h0 : (0 : Int).toNat = 0 := rfl
    simp only [h0, e0] at this
    exact this
  · rw [if_neg hg, if_neg (fun h => hg ⟨h.1, h.2.1, h.2.2.1, h.2.2.2.1⟩)]
    exact ev_neg (by decide) (ev_some _)
end
end Go.Proofs.Ytadehdkmggpehaa.PFnMutualWhole
