import Derived.Test.YtjnmfadnkbflfaaSFlowFnExactShowFlow
set_option linter.unusedVariables false
set_option linter.unusedSimpArgs false
namespace Go.Proofs.Ytjnmfadnkbflfaa.PFnExactShowFlow
open Go Go.RowKit Go.Proofs.YtjnmfadnkbflfaaW.PrintWords Go.Proofs.YtjnmfadnkbflfaaW.PrintLast Go.Proofs.Ytjnmfadnkbflfaa.MapWords Go.Proofs.Ytjnmfadnkbflfaa.IterWords Go.Proofs.Ytjnmfadnkbflfaa.EvWords
open Classical
def st (F : List Stp) (i : Nat) : Stp := F.getD i z119
def stpP (x : Stp) : Prop := stepP x.f0 x.f1
def flowP (F : List Stp) : Prop := F.length ≤ 20 ∧ ∀ i : Nat, i < F.length → stpP (st F i) ∧ (0 < i → (st F (i - 1)).f0 < (st F i).f0)
theorem st_rd (F : List Stp) (i : Nat) : rd_T119 F (i : Int) = st F i := rfl
theorem st_app1 {F : List Stp} {x : Stp} {i : Nat} (h : i < F.length) : st (F ++ [x]) i = st F i := by
  unfold st
  rw [List.getD_eq_getElem?_getD, List.getD_eq_getElem?_getD, List.getElem?_append_left h]
theorem st_app2 {F : List Stp} {x : Stp} : st (F ++ [x]) F.length = x := by
  unfold st
  rw [List.getD_eq_getElem?_getD, List.getElem?_append_right (Nat.le_refl _), Nat.sub_self]
  rfl
theorem flow_snoc {F : List Stp} {x : Stp} (h : flowP F) (hl : F.length < 20) (hx : stpP x) (ho : 0 < F.length → (st F (F.length - 1)).f0 < x.f0) : flowP (F ++ [x]) := by
  have e : (F ++ [x]).length = F.length + 1 := by simp
  refine ⟨by omega, fun i hi => ?_⟩
  by_cases h1 : i < F.length
  · rw [st_app1 h1]
    refine ⟨(h.2 i h1).1, fun h2 => ?_⟩
    rw [st_app1 (by omega)]
    exact (h.2 i h1).2 h2
  · have h2 : i = F.length := by omega
    subst h2
    rw [st_app2]
    refine ⟨hx, fun h3 => ?_⟩
    rw [st_app1 (by omega)]
    exact ho h3
def okFl (r : List Stp × Int) : Prop := r.2 = 0 → flowP r.1
theorem p_any (ls : List ByteArray) (w : Bool) (hl : ls.length ≤ 4000) (hs : ∀ y ∈ ls, y.size ≤ 4000) : ∀ (d i : Nat) (acc : List Stp), i + d = ls.length → acc.length = i → flowP acc →
    EvP (fun k => impl_ParseFlow.l0 k ls w acc ls (ls.length : Int) (i : Int)) okFl := by
  intro d
  induction d with
  | zero =>
    intro i acc hi ha hf
    refine evp_step (fun _ => rfl) ?_
    simp only [impl_ParseFlow.l0]
    exact evp_neg (by omega) (evp_some (fun _ => hf))
  | succ d ih =>
    intro i acc hi ha hf
    have hw : wrap64 ((i : Int) + 1) = ((i + 1 : Nat) : Int) := by rw [wrap_id (by omega) (by omega)]; omega
    have bad : okFl (([] : List Stp), ((i + 1 : Nat) : Int)) := fun h => by exfalso; have h2 : ((i + 1 : Nat) : Int) = 0 := h; omega
    refine evp_step (fun _ => rfl) ?_
    simp only [impl_ParseFlow.l0, nm_rd]
    rw [hw]
    refine evp_pos (by omega) (evp_pos (by omega) (evp_pos (by omega) (evp_bind (stepAny (nm ls i) (nm_sz hs i (by omega))) (fun r hr => ?_))))
    by_cases h1 : r.2.2 = true
    · refine evp_pos h1 ?_
      have hD : (0 < i → (st acc (i - 1)).f0 < r.1) → EvP (fun k => if (i : Int) = 20 then some (([] : List Stp), ((i + 1 : Nat) : Int)) else if acc.length < 4398046511104 then impl_ParseFlow.l0 k ls w (acc ++ [(⟨r.1, r.2.1⟩ : Stp)]) ls (ls.length : Int) ((i + 1 : Nat) : Int) else none) okFl := by
        intro ho
        by_cases h2 : i = 20
        · exact evp_pos (by omega) (evp_some bad)
        · refine evp_neg (by omega) (evp_pos (by omega) (ih (i + 1) _ (by omega) (by simp [ha]) ?_))
          refine flow_snoc hf (by have := hf.1; omega) (hr h1) (fun h3 => ?_)
          rw [ha]
          exact ho (by omega)
      have hC : EvP (fun k => if (i : Int) > 0 then (if 0 ≤ wrap64 ((i : Int) - 1) then (if wrap64 ((i : Int) - 1) < (acc.length : Int) then (if (rd_T119 acc (wrap64 ((i : Int) - 1))).f0 ≥ r.1 then some (([] : List Stp), ((i + 1 : Nat) : Int)) else (if (i : Int) = 20 then some (([] : List Stp), ((i + 1 : Nat) : Int)) else if acc.length < 4398046511104 then impl_ParseFlow.l0 k ls w (acc ++ [(⟨r.1, r.2.1⟩ : Stp)]) ls (ls.length : Int) ((i + 1 : Nat) : Int) else none)) else none) else none) else (if (i : Int) = 20 then some (([] : List Stp), ((i + 1 : Nat) : Int)) else if acc.length < 4398046511104 then impl_ParseFlow.l0 k ls w (acc ++ [(⟨r.1, r.2.1⟩ : Stp)]) ls (ls.length : Int) ((i + 1 : Nat) : Int) else none)) okFl := by
        by_cases h2 : 0 < i
        · have hw2 : wrap64 ((i : Int) - 1) = ((i - 1 : Nat) : Int) := by rw [wrap_id (by omega) (by omega)]; omega
          rw [hw2, st_rd]
          refine evp_pos (by omega) (evp_pos (by omega) (evp_pos (by omega) ?_))
          by_cases h3 : (st acc (i - 1)).f0 ≥ r.1
          · exact evp_pos h3 (evp_some bad)
          · exact evp_neg h3 (hD (fun _ => by omega))
        · exact evp_neg (by omega) (hD (fun h => absurd h h2))
      by_cases h4 : ((i + 1 : Nat) : Int) = (ls.length : Int)
      · refine evp_pos h4 ?_
        by_cases h5 : w = true
        · exact evp_pos h5 hC
        · exact evp_neg h5 (evp_some bad)
      · exact evp_neg h4 hC
    · exact evp_neg h1 (evp_some bad)
theorem parseAny (l : List UInt8) (hl : l.length ≤ 2000) : EvP (fun k => impl_ParseFlow.f k (B l)) okFl := by
  unfold impl_ParseFlow.f
  obtain ⟨b1, b2⟩ := lin_bd l []
  simp only [List.length_nil, Nat.zero_add] at b1 b2
  refine evp_neg (by rw [B_size]; omega) (evp_bind (evp_ev (implLines l (by omega))) (fun a ha => ?_))
  rw [ha]
  refine p_any _ _ (by rw [List.length_map]; omega) (fun y hy => ?_) _ 0 [] (Nat.zero_add _) rfl ⟨by simp, fun i hi => absurd hi (by simp)⟩
  obtain ⟨x, hx, rfl⟩ := List.mem_map.1 hy
  have := b2 x hx
  rw [B_size]; omega
theorem p_exact (F : List Stp) (hF : flowP F) (ls : List ByteArray) (hl : ls.length = F.length) (hr : ∀ i : Nat, i < F.length → Ev (fun k => impl_readStep.f k (nm ls i)) ((st F i).f0, (st F i).f1, true)) : ∀ (d i : Nat), i + d = F.length →
    Ev (fun k => impl_ParseFlow.l0 k ls true (F.take i) ls (ls.length : Int) (i : Int)) (F, 0) := by
  intro d
  have h20 := hF.1
  induction d with
  | zero =>
    intro i hi
    refine Ev.step (fun _ => rfl) ?_
    simp only [impl_ParseFlow.l0]
    refine ev_neg (by omega) (ev_eq (ev_some _) ?_)
    rw [List.take_of_length_le (by omega)]
  | succ d ih =>
    intro i hi
    have hlt : i < F.length := by omega
    have hw : wrap64 ((i : Int) + 1) = ((i + 1 : Nat) : Int) := by rw [wrap_id (by omega) (by omega)]; omega
    have hta : F.take (i + 1) = F.take i ++ [st F i] := by
      rw [List.take_succ_eq_append_getElem hlt]
      unfold st
      rw [List.getD_eq_getElem?_getD, List.getElem?_eq_getElem hlt]
      rfl
    have htl : (F.take i).length = i := by rw [List.length_take]; omega
    have hst : ∀ j, j < i → st (F.take i) j = st F j := fun j hj => by
      unfold st
      rw [List.getD_eq_getElem?_getD, List.getD_eq_getElem?_getD, List.getElem?_take_of_lt hj]
    have hD : Ev (fun k => if (i : Int) = 20 then some (([] : List Stp), ((i + 1 : Nat) : Int)) else if (F.take i).length < 4398046511104 then impl_ParseFlow.l0 k ls true (F.take i ++ [(⟨(st F i).f0, (st F i).f1⟩ : Stp)]) ls (ls.length : Int) ((i + 1 : Nat) : Int) else none) (F, 0) := by
      refine ev_neg (by omega) (ev_pos (by omega) ?_)
      have := ih (i + 1) (by omega)
      rw [hta] at this
      exact this
    have hC : Ev (fun k => if (i : Int) > 0 then (if 0 ≤ wrap64 ((i : Int) - 1) then (if wrap64 ((i : Int) - 1) < ((F.take i).length : Int) then (if (rd_T119 (F.take i) (wrap64 ((i : Int) - 1))).f0 ≥ (st F i).f0 then some (([] : List Stp), ((i + 1 : Nat) : Int)) else (if (i : Int) = 20 then some (([] : List Stp), ((i + 1 : Nat) : Int)) else if (F.take i).length < 4398046511104 then impl_ParseFlow.l0 k ls true (F.take i ++ [(⟨(st F i).f0, (st F i).f1⟩ : Stp)]) ls (ls.length : Int) ((i + 1 : Nat) : Int) else none)) else none) else none) else (if (i : Int) = 20 then some (([] : List Stp), ((i + 1 : Nat) : Int)) else if (F.take i).length < 4398046511104 then impl_ParseFlow.l0 k ls true (F.take i ++ [(⟨(st F i).f0, (st F i).f1⟩ : Stp)]) ls (ls.length : Int) ((i + 1 : Nat) : Int) else none)) (F, 0) := by
      by_cases h2 : 0 < i
      · have hw2 : wrap64 ((i : Int) - 1) = ((i - 1 : Nat) : Int) := by rw [wrap_id (by omega) (by omega)]; omega
        have ho := (hF.2 i hlt).2 h2
        rw [hw2, st_rd, hst _ (by omega)]
        exact ev_pos (by omega) (ev_pos (by omega) (ev_pos (by omega) (ev_neg (by omega) hD)))
      · exact ev_neg (by omega) hD
    refine Ev.step (fun _ => rfl) ?_
    simp only [impl_ParseFlow.l0, nm_rd]
    rw [hw]
    refine ev_pos (by omega) (ev_pos (by omega) (ev_pos (by omega) (ev_bind (hr i hlt) (ev_pos rfl ?_))))
    by_cases h4 : ((i + 1 : Nat) : Int) = (ls.length : Int)
    · exact ev_pos h4 (ev_pos trivial hC)
    · exact ev_neg h4 hC
noncomputable def ln (x : Stp) : List UInt8 := lineOf (smo x.f0) x.f1
noncomputable def txt : List Stp → List UInt8
  | [] => []
  | x :: F => ln x ++ 10 :: txt F
theorem smo_mon {o : Int} (h : 0 ≤ o ∧ o ≤ 100000000000) : smo o = mon o.toNat := by
  unfold smo
  rw [if_pos (by unfold amP; omega), if_neg (by omega), show o.natAbs = o.toNat by omega]
theorem ln_no10 {x : Stp} (h : stpP x) : ∀ c ∈ ln x, c ≠ 10 := by
  intro c hc
  unfold ln lineOf at hc
  rw [smo_mon h.1] at hc
  rcases List.mem_append.1 hc with hc | hc
  · simp only [List.mem_cons, List.not_mem_nil, or_false] at hc
    rcases hc with rfl | rfl | rfl | rfl | rfl <;> decide
  · rcases List.mem_append.1 hc with hc | hc
    · exact (mon_lt hc).2.2
    · exact tl_mem 58 32 _ (fun c => c ≠ 10) (by decide) (by decide) (fun p hp c hc => by rw [List.mem_singleton.1 hp] at hc; exact ((jn_ok h).2 c hc).2.2) c hc
theorem lin_txt : ∀ F : List Stp, (∀ x ∈ F, stpP x) → lin [] (txt F) = (F.map ln, true) := by
  intro F
  induction F with
  | nil => intro _; rfl
  | cons x F ih =>
    intro h
    show lin [] (ln x ++ 10 :: txt F) = _
    rw [lin_line _ _ _ (ln_no10 (h x (by simp))), ih (fun y hy => h y (by simp [hy]))]
    rfl
theorem flow_mem {F : List Stp} (h : flowP F) : ∀ x ∈ F, stpP x := by
  intro x hx
  obtain ⟨i, hi, rfl⟩ := List.getElem_of_mem hx
  have := (h.2 i hi).1
  unfold st at this
  rwa [List.getD_eq_getElem?_getD, List.getElem?_eq_getElem hi] at this
theorem parseExact (F : List Stp) (hF : flowP F) (hl : (txt F).length ≤ 2000) : Ev (fun k => impl_ParseFlow.f k (B (txt F))) (F, 0) := by
  unfold impl_ParseFlow.f
  have hlin := implLines (txt F) (by omega)
  rw [lin_txt F (flow_mem hF)] at hlin
  refine ev_neg (by rw [B_size]; omega) (ev_bind hlin ?_)
  refine p_exact F hF ((F.map ln).map B) (by simp) (fun i hi => ?_) F.length 0 (by omega)
  have e : nm ((F.map ln).map B) i = B (ln (st F i)) := by
    unfold nm st
    rw [List.getD_eq_getElem?_getD, List.getD_eq_getElem?_getD, List.getElem?_map, List.getElem?_map, List.getElem?_eq_getElem hi]
    rfl
  rw [e]
  have hs : stpP (st F i) := (hF.2 i hi).1
  have h0 : 0 ≤ (st F i).f0 := hs.1.1
  unfold ln
  rw [smo_mon hs.1]
  have hs2 : stepP ((((st F i).f0).toNat : Nat) : Int) (st F i).f1 := by
    rw [Int.toNat_of_nonneg h0]; exact hs
  have := stepExact _ _ hs2
  rw [Int.toNat_of_nonneg h0] at this
  exact this
end Go.Proofs.Ytjnmfadnkbflfaa.PFnExactShowFlow
