import Derived.Test.YtobbemdkipknnaaXTax1FnExactTaxReturn
set_option linter.unusedVariables false
set_option linter.unusedSimpArgs false
namespace Go.Proofs.Ytobbemdkipknnaa.PFnExactTaxReturn
open Go Go.RowKit Go.Proofs.YtobbemdkipknnaaW.PrintWords Go.Proofs.YtobbemdkipknnaaW.PrintLast Go.Proofs.Ytobbemdkipknnaa.MapWords Go.Proofs.Ytobbemdkipknnaa.IterWords Go.Proofs.Ytobbemdkipknnaa.EvWords
open Classical SortT
theorem in_s (a b c : Int) : spec_l1In.f a b c = some (decide (b ≤ a ∧ a ≤ c)) := by
  unfold spec_l1In.f
  by_cases h : a ≥ b
  · rw [if_pos h]
    exact congrArg some (decide_eq_decide.2 ⟨fun k => ⟨h, k⟩, fun k => k.2⟩)
  · rw [if_neg h]
    exact congrArg some (decide_eq_false (fun k : b ≤ a ∧ a ≤ c => h k.1)).symm
theorem amt_s (x : Int) : spec_l1Amount.f x = some (decide (amt x)) := by
  unfold spec_l1Amount.f
  rw [in_s]
  exact (congrArg some (decide_eq_decide.2 Iff.rfl) : some (decide (-100000000000 ≤ x ∧ x ≤ 100000000000)) = some (decide (amt x)))
def bl (a b : ByteArray) : Prop := Op.bytesLess a.toList b.toList = true
noncomputable def cst (cs : List ByteArray) (e : En) : List ByteArray := if e.2.f0 ∈ cs then cs else cs ++ [e.2.f0]
noncomputable def cfold (es : List En) : List ByteArray := es.foldl cst []
theorem cfold_snoc (es : List En) (e : En) : cfold (es ++ [e]) = cst (cfold es) e := by simp [cfold]
theorem cfold_ok : ∀ es : List En, (cfold es).Nodup ∧ (∀ c, c ∈ cfold es ↔ ∃ e ∈ es, e.2.f0 = c) ∧ (cfold es).length ≤ es.length := by
  refine snocs ⟨by simp [cfold], fun c => by simp [cfold], by simp [cfold]⟩ (fun es e ih => ?_)
  obtain ⟨h1, h2, h3⟩ := ih
  rw [cfold_snoc]
  unfold cst
  by_cases h : e.2.f0 ∈ cfold es
  · rw [if_pos h]
    refine ⟨h1, fun c => ?_, by simp; omega⟩
    rw [h2]
    constructor
    · rintro ⟨x, hx, hc⟩; exact ⟨x, by simp [hx], hc⟩
    · rintro ⟨x, hx, hc⟩
      rcases List.mem_append.1 hx with hx | hx
      · exact ⟨x, hx, hc⟩
      · rw [List.mem_singleton.1 hx] at hc
        exact (h2 c).1 (hc ▸ h)
  · rw [if_neg h]
    refine ⟨List.nodup_append.2 ⟨h1, by simp, fun x hx y hy e2 => ?_⟩, fun c => ?_, by simp; omega⟩
    · rw [List.mem_singleton.1 hy] at e2
      exact h (e2 ▸ hx)
    · rw [List.mem_append, h2, List.mem_singleton]
      constructor
      · rintro (⟨x, hx, hc⟩ | hc)
        · exact ⟨x, by simp [hx], hc⟩
        · exact ⟨e, by simp, hc.symm⟩
      · rintro ⟨x, hx, hc⟩
        rcases List.mem_append.1 hx with hx | hx
        · exact .inl ⟨x, hx, hc⟩
        · rw [List.mem_singleton.1 hx] at hc
          exact .inr hc.symm
def cr (cs : List ByteArray) (i : Nat) : ByteArray := cs.getD i ByteArray.empty
theorem cr_rd (cs : List ByteArray) (i : Nat) : rdOf ByteArray.empty cs (i : Int) = cr cs i := rfl
theorem cr_at (cs : List ByteArray) (i : Nat) (hi : i < cs.length) : cr cs i = cs[i] := by
  unfold cr
  rw [List.getD_eq_getElem?_getD, List.getElem?_eq_getElem hi]
  rfl
theorem cr_mem (cs : List ByteArray) (i : Nat) (hi : i < cs.length) : cr cs i ∈ cs := by rw [cr_at cs i hi]; exact List.getElem_mem hi
theorem has_s (cs : List ByteArray) (hl : cs.length ≤ 1048576) (c : ByteArray) : Ev (fun k => spec_l10Has.f k cs c) (decide (c ∈ cs)) := by
  obtain ⟨g1, g2⟩ := ev_loop (F := fun k x => spec_l10Has.l0 k cs c x) (n := cs.length) (p := fun j => cr cs j ≠ c) (R := false) (bad := true)
    (fun _ => by
      refine Ev.step (fun _ => rfl) ?_
      simp only [spec_l10Has.l0]
      exact ev_neg (by omega) (ev_some _))
    (fun i q hi _ hp hq => by
      refine Ev.step (fun _ => rfl) ?_
      simp only [spec_l10Has.l0, cr_rd]
      rw [wrap_succ hi (by omega)]
      exact ev_pos (by omega) (ev_pos (by omega) (ev_neg (fun e => hp (toList_inj e)) hq)))
    (fun i hi _ hp => by
      refine Ev.step (fun _ => rfl) ?_
      simp only [spec_l10Has.l0, cr_rd]
      exact ev_pos (by omega) (ev_pos (by omega) (ev_pos (by rw [Classical.not_not.1 hp]) (ev_some _))))
  unfold spec_l10Has.f
  by_cases h : c ∈ cs
  · rw [decide_eq_true h]
    refine g2 (fun hall => ?_)
    obtain ⟨i, hi, e⟩ := List.getElem_of_mem h
    exact hall i hi (by rw [cr_at cs i hi, e])
  · rw [decide_eq_false h]
    exact g1 (fun j hj e => h (e ▸ cr_mem cs j hj))
section
variable {L : List Fl} {a b : Int}
theorem spec_chk (hL : L.length ≤ 200) (Q : List Tl) (h : okL L → Ev (fun k => spec_TaxReturn.l2 k L a b [] [] 0) Q) (hbad : ¬ okL L → Q = []) : Ev (fun k => spec_TaxReturn.l0 k L a b [] 0) Q := by
  obtain ⟨g1, g2⟩ := ev_loop (F := fun k x => spec_TaxReturn.l0 k L a b [] x) (n := L.length) (p := fun i => okF (rd_T82 L (i : Nat))) (R := Q) (bad := [])
    (fun hall => by
      refine Ev.step (fun _ => rfl) ?_
      simp only [spec_TaxReturn.l0]
      exact ev_neg (by omega) (h ⟨hL, hall⟩))
    (fun i q hi _ hp hq => by
      refine Ev.step (fun _ => rfl) ?_
      simp only [spec_TaxReturn.l0]
      refine ev_pos (by omega) (ev_pos (by omega) (ev_neg (by have := hp.1; omega) ?_))
      have ew : wrap64 ((i : Int) + 1) = ((i + 1 : Nat) : Int) := wrap_succ hi (by omega)
      have h6 := hp.1
      refine ev_pass (F := fun k x => spec_TaxReturn.l1 k L a b [] (i : Int) x) (n := (rd_T82 L (i : Nat)).f2.length) ?_ (fun t q2 ht hq2 => ?_)
      · refine Ev.step (fun _ => rfl) ?_
        simp only [spec_TaxReturn.l1, ew]
        exact ev_pos (by omega) (ev_pos (by omega) (ev_neg (by omega) hq))
      · refine Ev.step (fun _ => rfl) ?_
        simp only [spec_TaxReturn.l1]
        rw [wrap_succ ht (by omega)]
        have hh := hp.2 t ht
        exact ev_pos (by omega) (ev_pos (by omega) (ev_pos (by omega) (ev_pos (by omega) (ev_bind0 (amt_s _) (ev_pos (decide_eq_true hh.1) (ev_bind0 (amt_s _) (ev_pos (decide_eq_true hh.2) hq2))))))))
    (fun i hi _ hp => by
      refine Ev.step (fun _ => rfl) ?_
      simp only [spec_TaxReturn.l0]
      refine ev_pos (by omega) (ev_pos (by omega) ?_)
      by_cases h6 : (rd_T82 L (i : Nat)).f2.length ≤ 6
      · refine ev_neg (by omega) ?_
        obtain ⟨_, k2⟩ := ev_loop (F := fun k x => spec_TaxReturn.l1 k L a b [] (i : Int) x) (n := (rd_T82 L (i : Nat)).f2.length) (p := fun j => amt (rd_T85 (rd_T82 L (i : Nat)).f2 (j : Nat)).f2 ∧ amt (rd_T85 (rd_T82 L (i : Nat)).f2 (j : Nat)).f3) (R := []) (bad := [])
          (fun hall => absurd ⟨h6, hall⟩ hp)
          (fun t q2 ht _ hh hq2 => by
            refine Ev.step (fun _ => rfl) ?_
            simp only [spec_TaxReturn.l1]
            rw [wrap_succ ht (by omega)]
            exact ev_pos (by omega) (ev_pos (by omega) (ev_pos (by omega) (ev_pos (by omega) (ev_bind0 (amt_s _) (ev_pos (decide_eq_true hh.1) (ev_bind0 (amt_s _) (ev_pos (decide_eq_true hh.2) hq2))))))))
          (fun t ht _ hh => by
            refine Ev.step (fun _ => rfl) ?_
            simp only [spec_TaxReturn.l1]
            refine ev_pos (by omega) (ev_pos (by omega) (ev_pos (by omega) (ev_pos (by omega) (ev_bind0 (amt_s _) ?_))))
            by_cases k1 : amt (rd_T85 (rd_T82 L (i : Nat)).f2 (t : Nat)).f2
            · refine ev_pos (decide_eq_true k1) (ev_bind0 (amt_s _) (ev_neg ?_ (ev_some _)))
              rw [decide_eq_true_eq]
              exact fun k2 => hh ⟨k1, k2⟩
            · exact ev_neg (by rw [decide_eq_true_eq]; exact k1) (ev_some _))
        exact k2 (fun hall => hp ⟨h6, hall⟩)
      · exact ev_pos (by omega) (ev_some _))
  by_cases ho : okL L
  · exact g1 ho.2
  · rw [hbad ho]
    exact g2 (fun hall => ho ⟨hL, hall⟩)
theorem rowe_take (f : Fl) (t : Nat) (ht : t < f.f2.length) : (rowe a b f).take (t + 1) = if a ≤ f.f0 ∧ f.f0 ≤ b then (rowe a b f).take t ++ [(f.f1, rd_T85 f.f2 (t : Nat))] else (rowe a b f).take t := by
  unfold rowe
  by_cases hc : a ≤ f.f0 ∧ f.f0 ≤ b
  · rw [if_pos hc, if_pos hc, List.take_succ_eq_append_getElem (by simpa using ht), List.getElem_map]
    congr 2
    show _ = (f.f1, f.f2.getD ((t : Nat) : Int).toNat _)
    rw [Int.toNat_natCast, List.getD_eq_getElem?_getD, List.getElem?_eq_getElem ht]
    rfl
  · rw [if_neg hc, if_neg hc]
    simp
theorem spec_codes (ho : okL L) (Q : List Tl) (h : Ev (fun k => spec_TaxReturn.l4 k L a b [] (cfold (ents a b L))) Q) : Ev (fun k => spec_TaxReturn.l2 k L a b [] [] 0) Q := by
  have hL := ho.1
  have := ev_pass (F := fun k x => spec_TaxReturn.l2 k L a b [] (cfold (ents a b (L.take x.toNat))) x) (n := L.length) (R := Q)
    (by
      refine Ev.step (fun _ => rfl) ?_
      simp only [spec_TaxReturn.l2, Int.toNat_natCast, List.take_length]
      exact ev_neg (by omega) h)
    (fun i q hi hq => by
      have he := ents_len a b L i (by omega) (fun j hj => ho.2 j (by omega))
      have es := ents_snoc a b L i hi
      have h6 := (ho.2 i hi).1
      have ew : wrap64 ((i : Int) + 1) = ((i + 1 : Nat) : Int) := wrap_succ hi (by omega)
      refine Ev.step (fun _ => rfl) ?_
      simp only [Int.toNat_natCast] at hq ⊢
      simp only [spec_TaxReturn.l2]
      refine ev_pos (by omega) ?_
      rw [es] at hq
      generalize ents a b (L.take i) = E at hq he ⊢
      have endj : ∀ (cs : List ByteArray) (x : Int), cs = cfold (E ++ rowe a b (rd_T82 L (i : Nat))) → Ev (fun k => spec_TaxReturn.j4 k L a b [] cs (i : Int) x false) q := by
        intro cs x hcs
        subst hcs
        refine Ev.step (fun _ => rfl) ?_
        simp only [spec_TaxReturn.j4, ew]
        exact ev_neg (by decide) hq
      by_cases hc : a ≤ (rd_T82 L (i : Nat)).f0 ∧ (rd_T82 L (i : Nat)).f0 ≤ b
      · have := ev_pass (F := fun k x => spec_TaxReturn.l3 k L a b [] (cfold (E ++ (rowe a b (rd_T82 L (i : Nat))).take x.toNat)) (i : Int) x) (n := (rd_T82 L (i : Nat)).f2.length) (R := q)
          (by
            refine Ev.step (fun _ => rfl) ?_
            simp only [spec_TaxReturn.l3, Int.toNat_natCast]
            exact ev_pos (by omega) (ev_pos (by omega) (ev_neg (by omega) (endj _ _ (by rw [List.take_of_length_le (rowe_len a b _)])))))
          (fun t q2 ht hq2 => by
            have et : wrap64 ((t : Int) + 1) = ((t + 1 : Nat) : Int) := wrap_succ ht (by omega)
            have e4 : (((t + 1 : Nat) : Int)).toNat = t + 1 := Int.toNat_natCast _
            simp only [e4] at hq2
            rw [rowe_take _ t ht, if_pos hc, ← List.append_assoc, cfold_snoc] at hq2
            have hcl := (cfold_ok (E ++ (rowe a b (rd_T82 L (i : Nat))).take t)).2.2
            have hrl := rowe_len a b (rd_T82 L (i : Nat))
            rw [List.length_append, List.length_take] at hcl
            refine Ev.step (fun _ => rfl) ?_
            simp only [spec_TaxReturn.l3, Int.toNat_natCast]
            refine ev_pos (by omega) (ev_pos (by omega) (ev_pos (by omega) (ev_bind0 (in_s _ _ _) ?_)))
            rw [decide_eq_true hc]
            refine Ev.step (fun _ => rfl) ?_
            simp only [spec_TaxReturn.j4, et]
            refine ev_pos trivial (ev_pos (by omega) (ev_pos (by omega) (ev_pos (by omega) (ev_pos (by omega) (ev_bind (has_s _ (by omega) _) ?_)))))
            unfold cst at hq2
            by_cases hm : (rd_T85 (rd_T82 L (i : Nat)).f2 (t : Nat)).f0 ∈ cfold (E ++ (rowe a b (rd_T82 L (i : Nat))).take t)
            · rw [if_pos hm] at hq2
              exact ev_pos (decide_eq_true hm) hq2
            · rw [if_neg hm] at hq2
              exact ev_neg (by rw [decide_eq_true_eq]; exact hm) (ev_pos (by omega) hq2))
        have h0 : (0 : Int).toNat = 0 := rfl
        simp only [h0, List.take_zero, List.append_nil] at this
        exact this
      · have er : rowe a b (rd_T82 L (i : Nat)) = [] := if_neg hc
        rw [er, List.append_nil] at endj
        refine Ev.step (fun _ => rfl) ?_
        simp only [spec_TaxReturn.l3]
        refine ev_pos (by omega) (ev_pos (by omega) ?_)
        by_cases h0 : (0 : Int) < ((rd_T82 L (i : Nat)).f2.length : Int)
        · refine ev_pos h0 (ev_bind0 (in_s _ _ _) ?_)
          rw [decide_eq_false hc]
          exact endj _ _ rfl
        · exact ev_neg h0 (endj _ _ rfl))
  have h0 : (0 : Int).toNat = 0 := rfl
  simp only [h0, List.take_zero] at this
  exact this
theorem spec_line (ho : okL L) (out : List Tl) (cs : List ByteArray) (m : Nat) (c : ByteArray) (Q : List Tl)
    (h : Ev (fun k => spec_TaxReturn.l6 k L a b out cs (m : Int) (L.length : Int) c (lin c (ents a b L)).f1 (lin c (ents a b L)).f2 (lin c (ents a b L)).f3) Q) : Ev (fun k => spec_TaxReturn.l6 k L a b out cs (m : Int) 0 c 0 0 0) Q := by
  have hL := ho.1
  have := ev_pass (F := fun k x => spec_TaxReturn.l6 k L a b out cs (m : Int) x c (lin c (ents a b (L.take x.toNat))).f1 (lin c (ents a b (L.take x.toNat))).f2 (lin c (ents a b (L.take x.toNat))).f3) (n := L.length) (R := Q)
    (by
      simp only [Int.toNat_natCast, List.take_length]
      exact h)
    (fun i q hi hq => by
      have es := ents_snoc a b L i hi
      have h6 := (ho.2 i hi).1
      have ew : wrap64 ((i : Int) + 1) = ((i + 1 : Nat) : Int) := wrap_succ hi (by omega)
      simp only [Int.toNat_natCast] at hq ⊢
      rw [es] at hq
      generalize ents a b (L.take i) = E at hq ⊢
      refine Ev.step (fun _ => rfl) ?_
      simp only [spec_TaxReturn.l6]
      refine ev_pos (by omega) ?_
      have := ev_pass (F := fun k x => spec_TaxReturn.l7 k L a b out cs (m : Int) (i : Int) x c (lin c (E ++ (rowe a b (rd_T82 L (i : Nat))).take x.toNat)).f1 (lin c (E ++ (rowe a b (rd_T82 L (i : Nat))).take x.toNat)).f2 (lin c (E ++ (rowe a b (rd_T82 L (i : Nat))).take x.toNat)).f3) (n := (rd_T82 L (i : Nat)).f2.length) (R := q)
        (by
          refine Ev.step (fun _ => rfl) ?_
          simp only [spec_TaxReturn.l7, Int.toNat_natCast, ew]
          rw [List.take_of_length_le (rowe_len a b _)]
          exact ev_pos (by omega) (ev_pos (by omega) (ev_neg (by omega) hq)))
        (fun t q2 ht hq2 => by
          have et : wrap64 ((t : Int) + 1) = ((t + 1 : Nat) : Int) := wrap_succ ht (by omega)
          have e4 : (((t + 1 : Nat) : Int)).toNat = t + 1 := Int.toNat_natCast _
          simp only [e4] at hq2
          rw [rowe_take _ t ht] at hq2
          refine Ev.step (fun _ => rfl) ?_
          simp only [spec_TaxReturn.l7, Int.toNat_natCast]
          refine ev_pos (by omega) (ev_pos (by omega) (ev_pos (by omega) (ev_pos (by omega) (ev_bind0 (in_s _ _ _) ?_))))
          by_cases hc : a ≤ (rd_T82 L (i : Nat)).f0 ∧ (rd_T82 L (i : Nat)).f0 ≤ b
          · rw [if_pos hc, ← List.append_assoc, lin_snoc] at hq2
            refine ev_pos (decide_eq_true hc) ?_
            refine Ev.step (fun _ => rfl) ?_
            simp only [spec_TaxReturn.j9, et]
            by_cases hcc : (rd_T85 (rd_T82 L (i : Nat)).f2 (t : Nat)).f0 = c
            · rw [if_pos hcc] at hq2
              refine ev_neg (by rw [hcc]; simp) ?_
              unfold addc at hq2
              by_cases h3 : (rd_T85 (rd_T82 L (i : Nat)).f2 (t : Nat)).f1 = 4
              · refine ev_pos h3 (ev_pos (by omega) (ev_pos (by omega) ?_))
                by_cases h4 : (rd_T82 L (i : Nat)).f1 = true
                · simp only [if_pos h3, if_pos h4] at hq2
                  exact ev_pos h4 hq2
                · simp only [if_pos h3, if_neg h4] at hq2
                  exact ev_neg h4 hq2
              · refine ev_neg h3 (ev_pos (by omega) (ev_pos (by omega) ?_))
                by_cases h4 : (rd_T82 L (i : Nat)).f1 = true
                · simp only [if_neg h3, if_pos h4] at hq2
                  exact ev_pos h4 hq2
                · simp only [if_neg h3, if_neg h4] at hq2
                  exact ev_neg h4 hq2
            · rw [if_neg hcc] at hq2
              exact ev_pos (bne_iff_ne.2 (fun e => hcc (toList_inj e))) hq2
          · rw [if_neg hc] at hq2
            refine ev_neg (by rw [decide_eq_true_eq]; exact hc) ?_
            refine Ev.step (fun _ => rfl) ?_
            simp only [spec_TaxReturn.j9, et]
            exact ev_pos trivial hq2)
      have h0 : (0 : Int).toNat = 0 := rfl
      simp only [h0, List.take_zero, List.append_nil] at this
      exact this)
  have h0 : (0 : Int).toNat = 0 := rfl
  simp only [h0, List.take_zero] at this
  exact this
theorem bl_ne {x y : ByteArray} (h : x ≠ y) (hn : ¬ bl x y) : bl y x := bl_tot _ _ (fun e => h (toList_inj e)) (by simpa [bl] using hn)
theorem spec_pick (ho : okL L) : ∀ (n : Nat) (out : List Tl) (cs : List ByteArray), cs.length = n → out.length + n ≤ 10000 → cs.Nodup → out.Pairwise ltC → (∀ x ∈ out, ∀ c ∈ cs, bl x.f0 c) →
    ∃ r, Ev (fun k => spec_TaxReturn.l4 k L a b out cs) r ∧ r.Pairwise ltC ∧ ∀ x, x ∈ r ↔ x ∈ out ∨ ∃ c ∈ cs, x = lin c (ents a b L) := by
  intro n
  induction n with
  | zero =>
    intro out cs hn hl hd hp hlt
    have e : cs = [] := List.length_eq_zero_iff.1 hn
    subst e
    refine ⟨out, Ev.step (fun _ => rfl) ?_, hp, fun x => by simp⟩
    simp only [spec_TaxReturn.l4]
    exact ev_neg (by simp) (ev_some _)
  | succ n ih =>
    intro out cs hn hl hd hp hlt
    have ne : ∀ i j, i < cs.length → j < cs.length → i ≠ j → cr cs i ≠ cr cs j := fun i j hi hj hij e => by
      rw [cr_at cs i hi, cr_at cs j hj] at e
      rcases Nat.lt_or_gt_of_ne hij with h | h
      · exact List.pairwise_iff_getElem.1 hd i j hi hj h e
      · exact List.pairwise_iff_getElem.1 hd j i hj hi h e.symm
    have := ev_run (F := fun k (s : Int) i => spec_TaxReturn.l5 k L a b out cs s i) (n := cs.length) (I := fun i s => 1 ≤ i ∧ ∃ m : Nat, s = (m : Int) ∧ m < i ∧ ∀ j, j < i → j ≠ m → bl (cr cs m) (cr cs j))
      (Post := fun r : List Tl => r.Pairwise ltC ∧ ∀ x, x ∈ r ↔ x ∈ out ∨ ∃ c ∈ cs, x = lin c (ents a b L))
      (fun s h => by
        obtain ⟨_, m, rfl, hm, hall⟩ := h
        have hmm := cr_mem cs m hm
        have hf0 := lin_f0 (cr cs m) (ents a b L)
        have hmem : ∀ c, c ∈ cs.eraseIdx m → c ∈ cs ∧ bl (cr cs m) c := fun c hc => by
          obtain ⟨j, hj, e⟩ := List.getElem_of_mem hc
          rw [List.getElem_eraseIdx] at e
          have hj2 : j < cs.length - 1 := by rw [List.length_eraseIdx_of_lt hm] at hj; exact hj
          split at e
          · rename_i h1
            rw [← e]
            exact ⟨List.getElem_mem _, by rw [← cr_at cs j (by omega)]; exact hall j (by omega) (by omega)⟩
          · rename_i h1
            rw [← e]
            exact ⟨List.getElem_mem _, by rw [← cr_at cs (j + 1) (by omega)]; exact hall (j + 1) (by omega) (by omega)⟩
        have hback : ∀ c, c ∈ cs → c = cr cs m ∨ c ∈ cs.eraseIdx m := fun c hc => by
          by_cases e : c = cr cs m
          · exact .inl e
          · refine .inr ?_
            rw [List.mem_eraseIdx_iff_getElem]
            obtain ⟨j, hj, e2⟩ := List.getElem_of_mem hc
            exact ⟨j, hj, fun e3 => e (by rw [cr_at cs m hm, ← e2]; congr 1), e2⟩
        obtain ⟨r, r1, r2, r3⟩ := ih (out ++ [lin (cr cs m) (ents a b L)]) (cs.eraseIdx m) (by rw [List.length_eraseIdx_of_lt hm]; omega) (by simp; omega) (hd.sublist (List.eraseIdx_sublist _ _))
          (List.pairwise_append.2 ⟨hp, by simp, fun x hx y hy => by
            rw [List.mem_singleton.1 hy]
            show Op.bytesLess x.f0.toList (lin (cr cs m) (ents a b L)).f0.toList = true
            rw [hf0]
            exact hlt x hx _ hmm⟩)
          (fun x hx c hc => by
            rcases List.mem_append.1 hx with hx | hx
            · exact hlt x hx c (hmem c hc).1
            · rw [List.mem_singleton.1 hx, hf0]
              exact (hmem c hc).2)
        refine ⟨r, ?_, r2, fun x => ?_⟩
        · have ew : wrap64 ((m : Int) + 1) = ((m + 1 : Nat) : Int) := wrap_succ hm (by omega)
          refine Ev.step (fun _ => rfl) ?_
          simp only [spec_TaxReturn.l5, cr_rd]
          refine ev_neg (by omega) (ev_pos (by omega) (ev_pos (by omega) (spec_line ho out cs m (cr cs m) r ?_)))
          refine Ev.step (fun _ => rfl) ?_
          simp only [spec_TaxReturn.l6, ew, Int.toNat_natCast]
          refine ev_neg (by omega) (ev_pos (by omega) (ev_pos (by omega) (ev_pos (by omega) (ev_pos (by omega) (ev_pos (by omega) ?_)))))
          have e : (⟨cr cs m, (lin (cr cs m) (ents a b L)).f1, (lin (cr cs m) (ents a b L)).f2, (lin (cr cs m) (ents a b L)).f3⟩ : Tl) = lin (cr cs m) (ents a b L) := by
            have h2 := SortT.eta (lin (cr cs m) (ents a b L))
            rw [hf0] at h2
            exact h2
          rw [e]
          exact r1
        · rw [r3, List.mem_append, List.mem_singleton]
          constructor
          · rintro ((h1 | h1) | ⟨c, hc, h1⟩)
            · exact .inl h1
            · exact .inr ⟨_, hmm, h1⟩
            · exact .inr ⟨c, (hmem c hc).1, h1⟩
          · rintro (h1 | ⟨c, hc, h1⟩)
            · exact .inl (.inl h1)
            · rcases hback c hc with e | h2
              · exact .inl (.inr (by rw [h1, e]))
              · exact .inr ⟨c, h2, h1⟩)
      (fun i s hi h => by
        obtain ⟨h1, m, rfl, hm, hall⟩ := h
        right
        have ew : wrap64 ((i : Int) + 1) = ((i + 1 : Nat) : Int) := wrap_succ hi (by omega)
        by_cases hc : bl (cr cs i) (cr cs m)
        · refine ⟨(i : Int), ⟨by omega, i, rfl, by omega, fun j hj hji => ?_⟩, fun r hr => ?_⟩
          · by_cases hjm : j = m
            · rw [hjm]; exact hc
            · exact bl_trans _ _ _ hc (hall j (by omega) hjm)
          · refine Ev.step (fun _ => rfl) ?_
            simp only [spec_TaxReturn.l5, cr_rd, ew]
            exact ev_pos (by omega) (ev_pos (by omega) (ev_pos (by omega) (ev_pos (by omega) (ev_pos hc hr))))
        · refine ⟨(m : Int), ⟨by omega, m, rfl, by omega, fun j hj hjm => ?_⟩, fun r hr => ?_⟩
          · by_cases hji : j = i
            · rw [hji]; exact bl_ne (ne i m hi (by omega) (by omega)) hc
            · exact hall j (by omega) hjm
          · refine Ev.step (fun _ => rfl) ?_
            simp only [spec_TaxReturn.l5, cr_rd, ew]
            exact ev_pos (by omega) (ev_pos (by omega) (ev_pos (by omega) (ev_pos (by omega) (ev_neg hc hr)))))
      (cs.length - 1) 1 0 (by omega) ⟨by omega, 0, rfl, by omega, fun j hj hj0 => absurd hj0 (by omega)⟩
    obtain ⟨r, h1, h2⟩ := this
    refine ⟨r, Ev.step (fun _ => rfl) ?_, h2⟩
    simp only [spec_TaxReturn.l4]
    exact ev_pos (by omega) h1
theorem specTax : ∃ r, Ev (fun k => spec_TaxReturn.f k L a b) r ∧ (okL L → r.Pairwise ltC ∧ ∀ x, x ∈ r ↔ ∃ e ∈ ents a b L, x = lin e.2.f0 (ents a b L)) ∧ (¬ okL L → r = []) := by
  by_cases h1 : L.length ≤ 200
  · by_cases ho : okL L
    · have hl := ents_len a b L L.length (Nat.le_refl _) ho.2
      rw [List.take_length] at hl
      obtain ⟨c1, c2, c3⟩ := cfold_ok (ents a b L)
      obtain ⟨r, r1, r2, r3⟩ := spec_pick (a := a) (b := b) ho _ [] (cfold (ents a b L)) rfl (by simp; omega) c1 List.Pairwise.nil (fun x hx => by simp at hx)
      refine ⟨r, ?_, fun _ => ⟨r2, fun x => ?_⟩, fun h => absurd ho h⟩
      · unfold spec_TaxReturn.f
        exact ev_bind0 rfl (ev_neg (by omega) (spec_chk h1 r (fun _ => spec_codes ho r r1) (fun h => absurd ho h)))
      · rw [r3]
        constructor
        · rintro (h | ⟨c, hc, h⟩)
          · simp at h
          · obtain ⟨e, he, hec⟩ := (c2 c).1 hc
            exact ⟨e, he, by rw [hec]; exact h⟩
        · rintro ⟨e, he, h⟩
          exact .inr ⟨_, (c2 _).2 ⟨e, he, rfl⟩, h⟩
    · refine ⟨[], ?_, fun h => absurd h ho, fun _ => rfl⟩
      unfold spec_TaxReturn.f
      exact ev_bind0 rfl (ev_neg (by omega) (spec_chk h1 [] (fun h => absurd h ho) (fun _ => rfl)))
  · refine ⟨[], ?_, fun h => absurd h.1 h1, fun _ => rfl⟩
    unfold spec_TaxReturn.f
    exact ev_bind0 rfl (ev_pos (by omega) (ev_some _))
end
theorem sorted_ext : ∀ (xs ys : List Tl), xs.Pairwise ltC → ys.Pairwise ltC → (∀ x, x ∈ xs ↔ x ∈ ys) → xs = ys
  | [], [], _, _, _ => rfl
  | [], y :: ys, _, _, h => absurd ((h y).2 (List.mem_cons_self ..)) (by simp)
  | x :: xs, [], _, _, h => absurd ((h x).1 (List.mem_cons_self ..)) (by simp)
  | x :: xs, y :: ys, hx, hy, h => by
    obtain ⟨hx1, hx2⟩ := List.pairwise_cons.1 hx
    obtain ⟨hy1, hy2⟩ := List.pairwise_cons.1 hy
    have e : x = y := by
      rcases List.mem_cons.1 ((h x).1 (List.mem_cons_self ..)) with e | m1
      · exact e
      · rcases List.mem_cons.1 ((h y).2 (List.mem_cons_self ..)) with e | m2
        · exact e.symm
        · exact (lt_no (hy1 x m1) (hx1 y m2)).elim
    subst e
    rw [sorted_ext xs ys hx2 hy2 (fun z => ?_)]
    constructor
    · intro hz
      rcases List.mem_cons.1 ((h z).1 (List.mem_cons_of_mem _ hz)) with e | m
      · exact absurd e.symm (lt_ne (hx1 z hz))
      · exact m
    · intro hz
      rcases List.mem_cons.1 ((h z).2 (List.mem_cons_of_mem _ hz)) with e | m
      · exact absurd e.symm (lt_ne (hy1 z hz))
      · exact m
theorem taxBoth {L : List Fl} (a b : Int) (hsz : ∀ i : Nat, i < L.length → ∀ j : Nat, j < (rd_T82 L (i : Nat)).f2.length → (rd_T85 (rd_T82 L (i : Nat)).f2 (j : Nat)).f0.size ≤ 9223372036854775807) : ∃ r, Ev (fun k => impl_TaxReturn.f k L a b) r ∧ Ev (fun k => spec_TaxReturn.f k L a b) r ∧ r.length ≤ 1200 := by
  obtain ⟨r, r1, r0, r2, r3⟩ := implTax (L := L) (a := a) (b := b) hsz
  obtain ⟨q, q1, q2, q3⟩ := specTax (L := L) (a := a) (b := b)
  refine ⟨r, r1, ev_eq q1 ?_, r0⟩
  by_cases ho : okL L
  · obtain ⟨s1, s2⟩ := r2 ho
    obtain ⟨t1, t2⟩ := q2 ho
    exact sorted_ext q r t1 s1 (fun x => by rw [t2, s2])
  · rw [r3 ho, q3 ho]
end Go.Proofs.Ytobbemdkipknnaa.PFnExactTaxReturn
