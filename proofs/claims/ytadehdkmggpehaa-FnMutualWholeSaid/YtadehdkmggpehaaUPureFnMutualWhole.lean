import Derived.Test.YtadehdkmggpehaaUDrawMutFnMutualWhole
set_option linter.unusedVariables false
set_option linter.unusedSimpArgs false
namespace Go.Proofs.Ytadehdkmggpehaa.PFnMutualWhole
open Go Go.RowKit Go.Proofs.YtadehdkmggpehaaW.PrintWords Go.Proofs.YtadehdkmggpehaaW.PrintLast Go.Proofs.Ytadehdkmggpehaa.MapWords Go.Proofs.Ytadehdkmggpehaa.IterWords Go.Proofs.Ytadehdkmggpehaa.EvWords
open Classical
theorem lawSum (l : List Int) (M : Int) (hM : 0 ≤ M ∧ M ≤ 1000000000000) (hl : l.length ≤ 1000) (hb : ∀ j, j < l.length → -M ≤ ri l j ∧ ri l j ≤ M) : Ev (fun k => laws_sum.f k l) (sm (ri l) l.length) := by
  unfold laws_sum.f
  have main : ∀ (d i : Nat), i + d = l.length → Ev (fun k => laws_sum.l0 k l (sm (ri l) i) (i : Int)) (sm (ri l) l.length) := by
    intro d
    induction d with
    | zero =>
      intro i hi
      have e : i = l.length := by omega
      subst e
      refine Ev.step (fun _ => rfl) ?_
      simp only [laws_sum.l0]
      exact ev_neg (by omega) (ev_some _)
    | succ d ih =>
      intro i hi
      have b1 := sm_bd (f := ri l) (M := 1000000000000) (by omega) i (fun j hj => by have := hb j (by omega); omega)
      have b2 := hb i (by omega)
      have hw : wrap64 ((i : Int) + 1) = ((i + 1 : Nat) : Int) := by rw [wrap_id (by omega) (by omega)]; omega
      have hs : wrap64 (sm (ri l) i + ri l i) = sm (ri l) i + ri l i := wrap_id (by omega) (by omega)
      refine Ev.step (fun _ => rfl) ?_
      simp only [laws_sum.l0, ri_rd, hw, hs]
      exact ev_pos (by omega) (ev_pos (by omega) (ih (i + 1) (by omega)))
  exact main l.length 0 (by omega)
theorem sm_plus (f g : Nat → Int) : ∀ n, sm (fun j => f j + g j) n = sm f n + sm g n
  | 0 => by simp [sm]
  | n + 1 => by
    simp only [sm]
    rw [sm_plus f g n]
    omega
theorem sm_swap (f : Nat → Nat → Int) (m : Nat) : ∀ n, sm (fun d => sm (fun i => f i d) m) n = sm (fun i => sm (f i) n) m
  | 0 => by
    simp only [sm]
    have : ∀ m, (0 : Int) = sm (fun _ => 0) m := by
      intro m
      induction m with
      | zero => rfl
      | succ m ih => simp only [sm]; omega
    exact this m
  | n + 1 => by
    simp only [sm]
    rw [sm_swap f m n, ← sm_plus]
theorem sm_zero {f : Nat → Int} : ∀ n, (∀ j, j < n → f j = 0) → sm f n = 0
  | 0, _ => rfl
  | n + 1, h => by
    simp only [sm]
    rw [sm_zero n (fun j hj => h j (by omega)), h n (by omega)]
    rfl
section
variable {L : List Int} {H : List (List Int)} {s : Nat}
theorem fin_low (p : Nat) (hp : p < s) (h : p < L.length) : ri (fin L H s) p = 0 := by
  unfold fin
  rw [tab_at _ _ _ h, if_pos hp]
theorem fin_high (p : Nat) (hp : s ≤ p) (h : p < L.length) : ri (fin L H s) p = ri L p + sm (fun i => ri (gives L H s i) (p - s)) s := by
  unfold fin
  rw [tab_at _ _ _ h, if_neg (by omega)]
  rfl
theorem fin_sum (hc : costsP L) (h : mutP L H s) : sm (ri (fin L H s)) L.length = sm (ri L) L.length := by
  have hsn := h.1.2.1
  have e1 := sm_add (ri (fin L H s)) s (L.length - s)
  have e2 := sm_add (ri L) s (L.length - s)
  rw [show s + (L.length - s) = L.length by omega] at e1 e2
  rw [e1, e2, sm_zero s (fun j hj => fin_low j hj (by omega)), sm_congr (g := fun d => ri L (s + d) + sm (fun i => ri (gives L H s i) d) s) (L.length - s) (fun d hd => by rw [fin_high (s + d) (by omega) (by omega), Nat.add_sub_cancel_left]),
    sm_plus, sm_swap (fun i d => ri (gives L H s i) d), sm_congr (f := fun i => sm (ri (gives L H s i)) (L.length - s)) (g := ri L) s (fun i hi => (gives_ok hc h.1 h.2.1 i hi).2.2.1)]
  omega
theorem amt_bd {x : Int} (h : amt x) : -100000000000 ≤ x ∧ x ≤ 100000000000 := h
theorem law_l0 (hc : costsP L) (h : mutP L H s) (hH : H.length ≤ 1000) : Ev (fun k => laws_FnMutualWhole.l0 k L (s : Int) H (fin L H s) (s : Int)) true := by
  have hn := hc.1
  have hs := h.1.1
  have hsn := h.1.2.1
  have hf := (fin_costs (H := H) (s := s) hc).2 h.2.2
  have := ev_pass (F := fun k x => laws_FnMutualWhole.l0 k L (s : Int) H (fin L H s) ((s : Int) + x)) (n := L.length - s) (R := true)
    (by
      refine Ev.step (fun _ => rfl) ?_
      simp only [laws_FnMutualWhole.l0]
      exact ev_neg (by omega) (ev_some _))
    (fun t q ht hq => by
      have e : (s : Int) + (t : Int) = ((s + t : Nat) : Int) := by omega
      have ht2 : s + t < L.length := by omega
      have e1 : wrap64 (((s + t : Nat) : Int) + 1) = (s : Int) + ((t + 1 : Nat) : Int) := (wrap_succ ht2 (by omega)).trans (by omega)
      have tr := implTrace (L := L) (H := H) (by omega) (by omega) (s : Int) ((s + t : Nat) : Int)
      have hP : trP L (s : Int) H ((s + t : Nat) : Int) := ⟨⟨hc, by omega, by rw [Int.toNat_natCast]; exact h⟩, by omega, by omega⟩
      unfold trc at tr
      rw [if_pos hP, Int.toNat_natCast, Int.toNat_natCast] at tr
      have hl : (trs L H s (s + t)).length = s := tab_len _ _
      have ha : ∀ i, i < s → ri (trs L H s (s + t)) i = ri (gives L H s i) t := fun i hi => by
        unfold trs
        rw [tab_at _ _ _ hi, Nat.add_sub_cancel_left]
      have su := lawSum (trs L H s (s + t)) 300000000000 (by omega) (by omega) (fun j hj => by
        rw [hl] at hj
        rw [ha j hj]
        exact (gives_ok hc h.1 h.2.1 j hj).2.2.2 t)
      rw [hl, sm_congr (g := fun i => ri (gives L H s i) t) s ha] at su
      have b1 := amt_bd (hf.2 (s + t) (by rw [fin_len]; exact ht2))
      have b2 := amt_bd (hc.2 (s + t) ht2)
      have e2 : wrap64 (ri (fin L H s) (s + t) - ri L (s + t)) = sm (fun i => ri (gives L H s i) t) s := by
        rw [wrap_id (by omega) (by omega), fin_high (s + t) (by omega) ht2, Nat.add_sub_cancel_left]
        omega
      refine Ev.step (fun _ => rfl) ?_
      simp only [laws_FnMutualWhole.l0, e, e1, ri_rd]
      refine ev_pos (by omega) (ev_bind tr (ev_pos rfl (ev_pos (by show ((trs L H s (s + t)).length : Int) = (s : Int); rw [hl]) (ev_bind su (ev_pos (by omega) (ev_pos (by rw [fin_len]; omega) (ev_pos ?_ hq)))))))
      exact e2.symm)
  simp only [Int.add_zero] at this
  exact this
theorem law_j0 (hc : costsP L) (h : mutP L H s) (hH : H.length ≤ 1000) : Ev (fun k => laws_FnMutualWhole.j0 k L (s : Int) H (fin L H s) true true false) true := by
  have hn := hc.1
  have hs := h.1.1
  have hsn := h.1.2.1
  have hf := (fin_costs (H := H) (s := s) hc).2 h.2.2
  have s1 := lawSum (fin L H s) 100000000000 (by omega) (by rw [fin_len]; omega) (fun j hj => amt_bd (hf.2 j hj))
  have s2 := lawSum L 100000000000 (by omega) (by omega) (fun j hj => amt_bd (hc.2 j hj))
  have hl3 : ((fin L H s).take s).length = s := by rw [List.length_take, fin_len]; omega
  have h3 : ∀ j, j < s → ri ((fin L H s).take s) j = 0 := fun j hj => by
    have := fin_low (L := L) (H := H) j hj (by omega)
    unfold ri at this ⊢
    rw [List.getD_eq_getElem?_getD] at this ⊢
    rw [List.getElem?_take_of_lt hj]
    exact this
  have s3 := lawSum ((fin L H s).take s) 0 (by omega) (by omega) (fun j hj => by rw [hl3] at hj; rw [h3 j hj]; omega)
  rw [hl3, sm_zero s h3] at s3
  rw [fin_len, fin_sum hc h] at s1
  have j1 : ∀ b : Bool, b = false → Ev (fun k => laws_FnMutualWhole.j1 k L (s : Int) H (fin L H s) b) true := by
    intro b hb
    refine Ev.step (fun _ => rfl) ?_
    simp only [laws_FnMutualWhole.j1]
    exact ev_neg (by simp [hb]) (law_l0 hc h hH)
  refine Ev.step (fun _ => rfl) ?_
  simp only [laws_FnMutualWhole.j0, Int.toNat_natCast]
  exact ev_neg (by decide) (ev_bind s1 (ev_bind s2 (ev_pos rfl (ev_pos (by omega) (ev_pos (by rw [fin_len]; omega) (ev_bind s3 (j1 _ (by decide))))))))
end
end Go.Proofs.Ytadehdkmggpehaa.PFnMutualWhole
namespace Go.Proofs.Ytadehdkmggpehaa.Pure
open Go Go.RowKit Go.Proofs.Ytadehdkmggpehaa.PFnMutualWhole Go.Proofs.YtadehdkmggpehaaW.PrintWords Go.Proofs.YtadehdkmggpehaaW.PrintLast Go.Proofs.Ytadehdkmggpehaa.MapWords Go.Proofs.Ytadehdkmggpehaa.IterWords Go.Proofs.Ytadehdkmggpehaa.EvWords
open Classical
theorem FnMutualWhole : laws_FnMutualWhole.Pure := by
  intro l hl _ _
  apply Ev.rounds
  by_cases hz : l.length ≤ 1048576
  · have hbig : laws_big.f l = some false := by
      unfold laws_big.f
      congr 1
      exact decide_eq_false (by omega)
    obtain ⟨⟨L, a, H⟩, hd, hL, hH⟩ := drawMut l hz
    have hL : L.length ≤ 1000 := hL
    have hH : H.length ≤ 1000 := hH
    have im := implMutual (L := L) (H := H) (by omega) (by omega) a
    have sp := specMutual (L := L) (H := H) (by omega) (by omega) a
    unfold laws_FnMutualWhole.f
    refine ev_bind0 hbig (ev_neg (by decide) (ev_bind hd (ev_bind im (ev_bind sp ?_))))
    by_cases h : costsP L ∧ 0 ≤ a ∧ mutP L H a.toNat
    · rw [if_pos h]
      obtain ⟨s, rfl⟩ : ∃ s : Nat, a = (s : Int) := ⟨a.toNat, by omega⟩
      rw [Int.toNat_natCast] at h ⊢
      exact ev_neg (by show ¬ ((true != true) = true); decide) (law_j0 h.1 h.2.2 hH)
    · rw [if_neg h]
      refine ev_neg (by show ¬ ((false != false) = true); decide) ?_
      refine Ev.step (fun _ => rfl) ?_
      simp only [laws_FnMutualWhole.j0]
      exact ev_pos (by decide) (ev_eq (ev_some _) (by decide))
  · have hbig : laws_big.f l = some true := by
      unfold laws_big.f
      congr 1
      exact decide_eq_true (by omega)
    unfold laws_FnMutualWhole.f
    exact ev_bind0 hbig (ev_pos rfl (ev_some _))
end Go.Proofs.Ytadehdkmggpehaa.Pure
