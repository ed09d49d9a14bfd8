import Derived.Test.YtjnmfadnkbflfaaOItemsFnExactOutput
set_option linter.unusedVariables false
set_option linter.unusedSimpArgs false
namespace Go.Proofs.Ytjnmfadnkbflfaa.PFnExactOutput
open Go Go.RowKit Go.Proofs.YtjnmfadnkbflfaaW.PrintWords Go.Proofs.YtjnmfadnkbflfaaW.PrintLast Go.Proofs.Ytjnmfadnkbflfaa.MapWords Go.Proofs.Ytjnmfadnkbflfaa.EvWords
open Classical
theorem ev_foldI {β σ : Type} {F : Nat → σ → Int → Option β} {n : Nat} {g : Nat → σ → σ} {I : Nat → σ → Prop}
    (hgo : ∀ (i : Nat) (s : σ), i < n → I i s → I (i + 1) (g i s) ∧ ∀ r, Ev (fun k => F k (g i s) ((i + 1 : Nat) : Int)) r → Ev (fun k => F k s (i : Int)) r)
    (s : σ) (hs : I 0 s) : I n (itr g n 0 s) ∧ ∀ r, Ev (fun k => F k (itr g n 0 s) (n : Int)) r → Ev (fun k => F k s 0) r := by
  have main : ∀ (d i : Nat) (s : σ), i + d = n → I i s → I n (itr g d i s) ∧ ∀ r, Ev (fun k => F k (itr g d i s) (n : Int)) r → Ev (fun k => F k s (i : Int)) r := by
    intro d
    induction d with
    | zero =>
      intro i s hi h
      have : i = n := by omega
      subst this
      exact ⟨h, fun r h => h⟩
    | succ d ih =>
      intro i s hi h
      obtain ⟨h1, h2⟩ := hgo i s (by omega) h
      obtain ⟨h3, h4⟩ := ih (i + 1) (g i s) (by omega) h1
      exact ⟨h3, fun r hr => h2 r (h4 r hr)⟩
  exact main n 0 s (by omega) hs
theorem itr_fst {σ τ : Type} {g : Nat → σ → σ} {h : Nat → σ × τ → σ × τ} (e : ∀ i s, (h i s).1 = g i s.1) : ∀ (d i : Nat) (s : σ × τ), (itr h d i s).1 = itr g d i s.1
  | 0, _, _ => rfl
  | d + 1, i, s => by rw [itr, itr, itr_fst e d, e]
def qtyP (a : Int) : Prop := 0 ≤ a ∧ a ≤ 1000000
theorem qty_eq (a : Int) : impl_quantity.f a = some (decide (qtyP a)) := by
  unfold impl_quantity.f; rw [between_eq]; show some _ = some _; congr 1; exact decide_eq_decide.2 Iff.rfl
theorem l12Qty_eq (a : Int) : spec_l12Qty.f a = some (decide (qtyP a)) := by
  unfold spec_l12Qty.f; rw [l1In_eq]; show some _ = some _; congr 1; exact decide_eq_decide.2 Iff.rfl
def onP (x : Prt) (d : Int) : Prop := x.f3 ≤ d ∧ d ≤ x.f4
noncomputable def cgS (P : List Prt) (d : Int) (j : Nat) (o : List Prt) : List Prt := if onP (rd_T149 P (j : Nat)) d then o ++ [rd_T149 P (j : Nat)] else o
theorem cgs_len (P : List Prt) (d : Int) (j : Nat) (o : List Prt) : (cgS P d j o).length ≤ o.length + 1 := by
  unfold cgS; split
  · simp
  · omega
noncomputable def cg (P : List Prt) (d : Int) : List Prt := itr (cgS P d) P.length 0 []
theorem has_nil (a : Int) : Ev (fun k => spec_l7Has.f k [] a) false := by
  unfold spec_l7Has.f
  refine Ev.step (fun _ => rfl) ?_
  exact ev_neg (by simp) (ev_some _)
section
variable (P : List Prt) (d i n : Int) (hP : P.length ≤ 30) (ha : alsoP P i n)
include hP ha
theorem cg_good : (cg P d).length ≤ 30 ∧ ∀ x ∈ cg P d, partP x i n := by
  have key : ∀ (m j : Nat) (o : List Prt), j + m = P.length → o.length ≤ j → (∀ x ∈ o, partP x i n) → (itr (cgS P d) m j o).length ≤ P.length ∧ ∀ x ∈ itr (cgS P d) m j o, partP x i n := by
    intro m
    induction m with
    | zero => intro j o hj hl hx; exact ⟨by simp only [itr]; omega, hx⟩
    | succ m ih =>
      intro j o hj hl hx
      refine ih (j + 1) _ (by omega) ?_ ?_
      · unfold cgS; split
        · simp; omega
        · omega
      · unfold cgS; split
        · intro x hx'
          rcases List.mem_append.1 hx' with h | h
          · exact hx x h
          · rw [List.mem_singleton.1 h]; exact (ha j (by omega)).1
        · exact hx
  obtain ⟨h1, h2⟩ := key P.length 0 [] (by omega) (by simp) (by simp)
  exact ⟨by unfold cg; omega, h2⟩
theorem specCounting : Ev (fun k => spec_l17Counting.f k P d) (cg P d) := by
  unfold spec_l17Counting.f
  obtain ⟨g1, g2⟩ := ev_foldI (F := fun k s x => spec_l17Counting.l0 k P d s [] x) (n := P.length) (g := cgS P d) (I := fun j s => s.length ≤ j) (fun j s hj hs => by
    have hq := ha j hj
    have h5 : (rd_T149 P (j : Nat)).f5 = 0 := hq.2.2
    refine ⟨by have := cgs_len P d j s; omega, fun r hr => ?_⟩
    have hj1 : ∀ b : Bool, b = decide (¬ onP (rd_T149 P (j : Nat)) d) → Ev (fun k => spec_l17Counting.j1 k P d s [] j b (rd_T149 P (j : Nat)).f0 (rd_T149 P (j : Nat)).f1 (rd_T149 P (j : Nat)).f2 (rd_T149 P (j : Nat)).f3 (rd_T149 P (j : Nat)).f4 (rd_T149 P (j : Nat)).f5) r := by
      intro b hb
      refine Ev.step (fun _ => rfl) ?_
      simp only [spec_l17Counting.j1]
      rw [wrap_succ hj (by omega)]
      unfold cgS at hr
      by_cases ho : onP (rd_T149 P (j : Nat)) d
      · rw [if_pos ho] at hr
        exact ev_neg (by simp [hb, ho]) (ev_neg (by omega) (ev_pos (by omega) hr))
      · rw [if_neg ho] at hr
        exact ev_pos (by simp [hb, ho]) hr
    refine Ev.step (fun _ => rfl) ?_
    simp only [spec_l17Counting.l0]
    refine ev_pos (by omega) (ev_pos (by omega) (ev_bind0 (l1In_eq _ _ _) ?_))
    by_cases ho : onP (rd_T149 P (j : Nat)) d
    · exact ev_pos (decide_eq_true ho) (ev_bind (has_nil _) (hj1 false (by simp [ho])))
    · exact ev_neg (by rw [decide_eq_true_eq]; exact ho) (hj1 true (by simp [ho]))) [] (by simp)
  refine g2 _ ?_
  refine Ev.step (fun _ => rfl) ?_
  simp only [spec_l17Counting.l0]
  exact ev_neg (by omega) (ev_some _)
theorem implCounting : Ev (fun k => impl_counting.f k P d) (cg P d) := by
  unfold impl_counting.f
  obtain ⟨g1, g2⟩ := ev_foldI (F := fun k (s : List Prt × List Bool) x => impl_counting.l0 k d s.1 s.2 P P.length x) (n := P.length) (g := fun j s => (cgS P d j s.1, if onP (rd_T149 P (j : Nat)) d then s.2.set 0 true else s.2)) (I := fun j s => s.1.length ≤ j ∧ s.2.length = 10) (fun j s hj hs => by
    obtain ⟨hs1, hs2⟩ := hs
    have hq := ha j hj
    have h5 : (rd_T149 P (j : Nat)).f5 = 0 := hq.2.2
    refine ⟨⟨by have := cgs_len P d j s.1; simp only; omega, by
      by_cases ho : onP (rd_T149 P (j : Nat)) d
      · simp only [if_pos ho]; rw [List.length_set]; exact hs2
      · simp only [if_neg ho]; exact hs2⟩, fun r hr => ?_⟩
    refine Ev.step (fun _ => rfl) ?_
    simp only [impl_counting.l0]
    rw [wrap_succ hj (by omega)]
    refine ev_pos (by omega) (ev_pos (by omega) (ev_pos (by omega) ?_))
    by_cases ho : onP (rd_T149 P (j : Nat)) d
    · simp only [cgS, if_pos ho] at hr
      refine ev_pos ho.1 (ev_pos ho.2 (ev_pos h5 (ev_pos (by omega) (ev_pos (by omega) (ev_pos (by omega) (ev_pos (by omega) ?_))))))
      rw [show ((rd_T149 P (j : Nat)).f5).toNat = 0 by rw [h5]; rfl]
      exact hr
    · simp only [cgS, if_neg ho] at hr
      by_cases h1 : (rd_T149 P (j : Nat)).f3 ≤ d
      · exact ev_pos h1 (ev_neg (fun h2 => ho ⟨h1, h2⟩) hr)
      · exact ev_neg h1 hr) ([], List.replicate 10 false) ⟨by simp, by simp⟩
  have e := itr_fst (g := cgS P d) (h := fun j (s : List Prt × List Bool) => (cgS P d j s.1, if onP (rd_T149 P (j : Nat)) d then s.2.set 0 true else s.2)) (fun _ _ => rfl) P.length 0 ([], List.replicate 10 false)
  refine ev_eq (g2 (itr (cgS P d) P.length 0 []) ?_) rfl
  refine Ev.step (fun _ => rfl) ?_
  simp only [impl_counting.l0]
  exact ev_neg (by omega) (ev_eq (ev_some _) e)
end
noncomputable def og (C : List Prt) (q : Int) : Nat → Nat → List Int → Option (List Int)
  | 0, _, o => some o
  | m + 1, j, o => if qtyP (wrap64 (q * (rd_T149 C (j : Nat)).f1)) ∧ qtyP (wrap64 (rd o (rd_T149 C (j : Nat)).f0 + wrap64 (q * (rd_T149 C (j : Nat)).f1))) then og C q m (j + 1) (o.set ((rd_T149 C (j : Nat)).f0).toNat (wrap64 (rd o (rd_T149 C (j : Nat)).f0 + wrap64 (q * (rd_T149 C (j : Nat)).f1)))) else none
theorem rd_set_ne (o : List Int) (i v : Int) (a : Nat) (h : i.toNat ≠ a) : rd (o.set i.toNat v) (a : Int) = rd o (a : Int) := by
  simp only [rd, Int.toNat_natCast, List.getD_eq_getElem?_getD, List.getElem?_set_ne h]
section
variable (C : List Prt) (q : Int) (a n : Nat) (hC : C.length ≤ 30) (hx : ∀ x ∈ C, partP x (a : Int) (n : Int))
include hC hx
omit hC in
theorem og_keep : ∀ (m j : Nat) (o o' : List Int), j + m = C.length → og C q m j o = some o' → rd o' (a : Int) = rd o (a : Int) ∧ o'.length = o.length := by
  intro m
  induction m with
  | zero => intro j o o' _ h; simp only [og, Option.some.injEq] at h; subst h; exact ⟨rfl, rfl⟩
  | succ m ih =>
    intro j o o' hj h
    have hp := (hx _ (mem_rd (z := z149) (i := j) (show j < C.length by omega))).1
    have hp' : (a : Int) + 1 ≤ (rd_T149 C (j : Nat)).f0 := hp.1
    simp only [og] at h
    split at h
    · obtain ⟨h1, h2⟩ := ih (j + 1) _ o' (by omega) h
      rw [rd_set_ne _ _ _ _ (by omega)] at h1
      exact ⟨h1, by simpa using h2⟩
    · cases h
noncomputable def fin2 (r : Option (List Int)) : List Int × Bool := match r with | none => ([], false) | some o => (o, true)
noncomputable def fin3 (a : Nat) (r : Option (List Int)) : List Int × Bool := match r with | none => ([], false) | some o => if qtyP (rd o (a : Int)) then (o, true) else ([], false)
theorem spec_out (ha : a < n) (hn : n ≤ 60) : ∀ (m j : Nat) (o : List Int), j + m = C.length → o.length = n → Ev (fun k => spec_Output.l0 k (a : Int) o q C (j : Int)) (fin3 a (og C q m j o)) := by
  intro m
  induction m with
  | zero =>
    intro j o hj ho
    refine Ev.step (fun _ => rfl) ?_
    simp only [spec_Output.l0]
    refine ev_neg (by omega) (ev_pos (by omega) (ev_pos (by omega) (ev_bind0 (l12Qty_eq _) ?_)))
    simp only [og, fin3]
    by_cases h : qtyP (rd o (a : Int))
    · rw [if_pos h]; exact ev_pos (decide_eq_true h) (ev_some _)
    · rw [if_neg h]; exact ev_neg (by rw [decide_eq_true_eq]; exact h) (ev_some _)
  | succ m ih =>
    intro j o hj ho
    have hp := (hx _ (mem_rd (z := z149) (i := j) (show j < C.length by omega))).1
    have hp' : (a : Int) + 1 ≤ (rd_T149 C (j : Nat)).f0 ∧ (rd_T149 C (j : Nat)).f0 ≤ n - 1 := hp
    refine Ev.step (fun _ => rfl) ?_
    simp only [spec_Output.l0]
    refine ev_pos (by omega) (ev_pos (by omega) (ev_pos (by omega) (ev_pos (by omega) (ev_bind0 (l12Qty_eq _) ?_))))
    simp only [og]
    by_cases h1 : qtyP (wrap64 (q * (rd_T149 C (j : Nat)).f1))
    · refine ev_pos (decide_eq_true h1) (ev_bind0 (l12Qty_eq _) ?_)
      by_cases h2 : qtyP (wrap64 (rd o (rd_T149 C (j : Nat)).f0 + wrap64 (q * (rd_T149 C (j : Nat)).f1)))
      · rw [if_pos ⟨h1, h2⟩]
        refine ev_pos (decide_eq_true h2) ?_
        rw [wrap_succ (n := C.length) (by omega) (by omega)]
        exact ih (j + 1) _ (by omega) (by simpa using ho)
      · rw [if_neg (fun g => h2 g.2)]
        exact ev_neg (by rw [decide_eq_true_eq]; exact h2) (ev_some _)
    · rw [if_neg (fun g => h1 g.1)]
      exact ev_neg (by rw [decide_eq_true_eq]; exact h1) (ev_some _)
theorem impl_out (ha : a < n) (hn : n ≤ 60) : ∀ (m j : Nat) (o : List Int), j + m = C.length → o.length = n → Ev (fun k => impl_output.l0 k o q C C.length (j : Int)) (fin2 (og C q m j o)) := by
  intro m
  induction m with
  | zero =>
    intro j o hj ho
    refine Ev.step (fun _ => rfl) ?_
    simp only [impl_output.l0]
    exact ev_neg (by omega) (ev_some _)
  | succ m ih =>
    intro j o hj ho
    have hp := (hx _ (mem_rd (z := z149) (i := j) (show j < C.length by omega))).1
    have hp' : (a : Int) + 1 ≤ (rd_T149 C (j : Nat)).f0 ∧ (rd_T149 C (j : Nat)).f0 ≤ n - 1 := hp
    refine Ev.step (fun _ => rfl) ?_
    simp only [impl_output.l0]
    refine ev_pos (by omega) (ev_pos (by omega) (ev_pos (by omega) (ev_pos (by omega) (ev_pos (by omega) (ev_bind0 (qty_eq _) ?_)))))
    simp only [og]
    by_cases h1 : qtyP (wrap64 (q * (rd_T149 C (j : Nat)).f1))
    · refine ev_pos (decide_eq_true h1) (ev_bind0 (qty_eq _) ?_)
      by_cases h2 : qtyP (wrap64 (rd o (rd_T149 C (j : Nat)).f0 + wrap64 (q * (rd_T149 C (j : Nat)).f1)))
      · rw [if_pos ⟨h1, h2⟩]
        refine ev_pos (decide_eq_true h2) ?_
        rw [wrap_succ (n := C.length) (by omega) (by omega)]
        exact ih (j + 1) _ (by omega) (by simpa using ho)
      · rw [if_neg (fun g => h2 g.2)]
        exact ev_neg (by rw [decide_eq_true_eq]; exact h2) (ev_some _)
    · rw [if_neg (fun g => h1 g.1)]
      exact ev_neg (by rw [decide_eq_true_eq]; exact h1) (ev_some _)
end
def askP (L : List Itm) (a q d : Int) : Prop := (itemsP L ∧ flatP (lvs L)) ∧ (0 ≤ a ∧ a ≤ (L.length : Int) - 1) ∧ qtyP q ∧ 0 ≤ d ∧ d ≤ 40000
theorem specAsk (L : List Itm) (hs : ∀ i : Nat, i < L.length → (rd_T130 L (i : Nat)).f0.size ≤ 9223372036854775807) (a q d : Int) : Ev (fun k => spec_l17Asked.f k L a q d) (decide (askP L a q d)) := by
  have bad : ¬ askP L a q d → Ev (fun _ => some false) (decide (askP L a q d)) := fun h => by rw [decide_eq_false h]; exact ev_some _
  unfold spec_l17Asked.f
  refine ev_bind (specItems L hs) ?_
  by_cases h1 : itemsP L ∧ flatP (lvs L)
  · have hn := h1.1.1
    refine ev_pos (decide_eq_true h1) ?_
    rw [wrap_id (x := (L.length : Int) - 1) (by omega) (by omega)]
    refine ev_bind0 (l1In_eq _ _ _) ?_
    by_cases h2 : 0 ≤ a ∧ a ≤ (L.length : Int) - 1
    · refine ev_pos (decide_eq_true h2) (ev_bind0 (l12Qty_eq _) ?_)
      by_cases h3 : qtyP q
      · refine ev_pos (decide_eq_true h3) (ev_bind0 (l2Day_eq _) (ev_eq (ev_some _) ?_))
        rw [decide_eq_decide]
        exact ⟨fun h4 => ⟨h1, h2, h3, h4⟩, fun g => g.2.2.2⟩
      · exact ev_neg (by rw [decide_eq_true_eq]; exact h3) (bad fun g => h3 g.2.2.1)
    · exact ev_neg (by rw [decide_eq_true_eq]; exact h2) (bad fun g => h2 g.2.1)
  · exact ev_neg (by rw [decide_eq_true_eq]; exact h1) (bad fun g => h1 g.1)
theorem implAsk (L : List Itm) (hs : ∀ i : Nat, i < L.length → (rd_T130 L (i : Nat)).f0.size ≤ 9223372036854775807) (a q d : Int) : Ev (fun k => impl_askOk.f k L a q d) (decide (askP L a q d)) := by
  have bad : ¬ askP L a q d → Ev (fun _ => some false) (decide (askP L a q d)) := fun h => by rw [decide_eq_false h]; exact ev_some _
  unfold impl_askOk.f
  refine ev_bind (implItems L hs) ?_
  by_cases h1 : itemsP L ∧ flatP (lvs L)
  · refine ev_pos (decide_eq_true h1) ?_
    by_cases h2 : a ≥ 0
    · refine ev_pos h2 ?_
      by_cases h2' : a < (L.length : Int)
      · refine ev_pos h2' (ev_bind0 (qty_eq _) ?_)
        by_cases h3 : qtyP q
        · refine ev_pos (decide_eq_true h3) (ev_bind0 (isDay_eq _) (ev_eq (ev_some _) ?_))
          rw [decide_eq_decide]
          exact ⟨fun h4 => ⟨h1, ⟨h2, by omega⟩, h3, h4⟩, fun g => g.2.2.2⟩
        · exact ev_neg (by rw [decide_eq_true_eq]; exact h3) (bad fun g => h3 g.2.2.1)
      · exact ev_neg h2' (bad fun g => by have := g.2.1.2; omega)
    · exact ev_neg h2 (bad fun g => h2 g.2.1.1)
  · exact ev_neg (by rw [decide_eq_true_eq]; exact h1) (bad fun g => h1 g.1)
def bch (L : List Itm) (a q : Int) : Int := wrap64 (Int.tdiv (wrap64 (wrap64 (q + (rd_T130 L a).f1) - 1)) (rd_T130 L a).f1)
def ol0 (L : List Itm) (a q : Int) : List Int := (List.replicate L.length 0).set a.toNat (wrap64 (bch L a q * (rd_T130 L a).f1))
noncomputable def outR (L : List Itm) (a q d : Int) : List Int × Bool :=
  if askP L a q d then (if qtyP (rd (ol0 L a q) a) then fin2 (og (cg (rd_T130 L a).f4 d) (bch L a q) (cg (rd_T130 L a).f4 d).length 0 (ol0 L a q)) else ([], false)) else ([], false)
theorem ask_at {L : List Itm} {a q d : Int} (h : askP L a q d) : ∃ n : Nat, a = n ∧ n < L.length ∧ L.length ≤ 60 ∧ (rd_T130 L a).f1 ≠ 0 ∧ (rd_T130 L a).f4.length ≤ 30 ∧ alsoP (rd_T130 L a).f4 n L.length := by
  obtain ⟨⟨⟨hn, hi⟩, _⟩, h2, _⟩ := h
  obtain ⟨n, rfl⟩ := Int.eq_ofNat_of_zero_le h2.1
  have := hi n (by omega)
  exact ⟨n, rfl, by omega, hn.2, by have := this.1.2.1; omega, this.1.2.2.2.1, this.2.2.2⟩
theorem specOut (L : List Itm) (hs : ∀ i : Nat, i < L.length → (rd_T130 L (i : Nat)).f0.size ≤ 9223372036854775807) (a q d : Int) : Ev (fun k => spec_Output.f k L a q d) (outR L a q d) := by
  unfold spec_Output.f outR
  refine ev_bind (specAsk L hs a q d) ?_
  by_cases h : askP L a q d
  · rw [if_pos h]
    obtain ⟨n, rfl, hn, hn60, hb, h30, hal⟩ := ask_at h
    obtain ⟨c1, c2⟩ := cg_good (rd_T130 L (n : Nat)).f4 d n L.length h30 hal
    have hcount := specCounting (rd_T130 L (n : Nat)).f4 d n L.length h30 hal
    have hmain := spec_out (cg (rd_T130 L (n : Nat)).f4 d) (bch L n q) n L.length c1 c2 hn hn60 (cg (rd_T130 L (n : Nat)).f4 d).length 0 (ol0 L n q) (by omega) (by simp [ol0])
    have hkeep := og_keep (cg (rd_T130 L (n : Nat)).f4 d) (bch L n q) n L.length c2 (cg (rd_T130 L (n : Nat)).f4 d).length 0 (ol0 L n q)
    refine ev_pos (decide_eq_true h) (ev_pos (by omega) (ev_pos (by omega) (ev_bind0 rfl (ev_pos (by omega) (ev_pos (by omega) (ev_bind0 (a := bch L n q) ?_ (ev_pos (by simp; omega) (ev_bind hcount ?_))))))))
    · unfold spec_l17Batches.f bch
      rw [if_neg hb]
    · refine ev_eq hmain ?_
      generalize og (cg (rd_T130 L (n : Nat)).f4 d) (bch L n q) (cg (rd_T130 L (n : Nat)).f4 d).length 0 (ol0 L n q) = R at hkeep
      cases R with
      | none => simp [fin2, fin3]
      | some o =>
        have := (hkeep o (by omega) rfl).1
        simp only [fin2, fin3, this]
  · rw [if_neg h]
    exact ev_neg (by rw [decide_eq_true_eq]; exact h) (ev_some _)
theorem implOut (L : List Itm) (hs : ∀ i : Nat, i < L.length → (rd_T130 L (i : Nat)).f0.size ≤ 9223372036854775807) (a q d : Int) : Ev (fun k => impl_Output.f k L a q d) (outR L a q d) := by
  unfold impl_Output.f outR
  refine ev_bind (implAsk L hs a q d) ?_
  by_cases h : askP L a q d
  · rw [if_pos h]
    obtain ⟨n, rfl, hn, hn60, hb, h30, hal⟩ := ask_at h
    obtain ⟨c1, c2⟩ := cg_good (rd_T130 L (n : Nat)).f4 d n L.length h30 hal
    have hcount := implCounting (rd_T130 L (n : Nat)).f4 d n L.length h30 hal
    have hmain := impl_out (cg (rd_T130 L (n : Nat)).f4 d) (bch L n q) n L.length c1 c2 hn hn60 (cg (rd_T130 L (n : Nat)).f4 d).length 0 (ol0 L n q) (by omega) (by simp [ol0])
    refine ev_pos (decide_eq_true h) (ev_bind (a := (if qtyP (rd (ol0 L n q) (n : Nat)) then fin2 (og (cg (rd_T130 L (n : Nat)).f4 d) (bch L n q) (cg (rd_T130 L (n : Nat)).f4 d).length 0 (ol0 L n q)) else ([], false))) ?_ (ev_some _))
    unfold impl_output.f
    refine ev_pos (by omega) (ev_pos (by omega) (ev_bind0 rfl (ev_pos (by omega) (ev_pos (by omega) (ev_bind0 (a := bch L n q) ?_ (ev_pos (by simp; omega) (ev_bind0 rfl (ev_bind0 (qty_eq _) ?_))))))))
    · unfold impl_roundedUp_int.f bch
      rw [if_neg hb]
    · by_cases h2 : qtyP (rd (ol0 L n q) (n : Nat))
      · rw [if_pos h2]
        exact ev_pos (decide_eq_true h2) (ev_bind hcount hmain)
      · rw [if_neg h2]
        exact ev_neg (by rw [decide_eq_true_eq]; exact h2) (ev_some _)
  · rw [if_neg h]
    exact ev_neg (by rw [decide_eq_true_eq]; exact h) (ev_some _)
theorem out_len (L : List Itm) (a q d : Int) : (outR L a q d).1.length ≤ 60 := by
  unfold outR
  by_cases h : askP L a q d
  · rw [if_pos h]
    obtain ⟨n, rfl, hn, hn60, hb, h30, hal⟩ := ask_at h
    obtain ⟨c1, c2⟩ := cg_good (rd_T130 L (n : Nat)).f4 d n L.length h30 hal
    have hkeep := og_keep (cg (rd_T130 L (n : Nat)).f4 d) (bch L n q) n L.length c2 (cg (rd_T130 L (n : Nat)).f4 d).length 0 (ol0 L n q)
    generalize og (cg (rd_T130 L (n : Nat)).f4 d) (bch L n q) (cg (rd_T130 L (n : Nat)).f4 d).length 0 (ol0 L n q) = R at hkeep
    split
    · cases R with
      | none => simp [fin2]
      | some o =>
        have := (hkeep o (by omega) rfl).2
        simp only [fin2, this]
        simp [ol0]; omega
    · simp
  · rw [if_neg h]; simp
end Go.Proofs.Ytjnmfadnkbflfaa.PFnExactOutput
