import Derived.Test.YtmpknbdbichdiaaLChartFnExactLedgerOk
set_option linter.unusedVariables false
set_option linter.unusedSimpArgs false
namespace Go.Proofs.Ytmpknbdbichdiaa.PFnExactLedgerOk
open Go Go.RowKit Go.Proofs.YtmpknbdbichdiaaW.PrintWords Go.Proofs.YtmpknbdbichdiaaW.PrintLast Go.Proofs.Ytmpknbdbichdiaa.MapWords Go.Proofs.Ytmpknbdbichdiaa.EvWords
open Classical
abbrev Lin := S107
theorem isDay_eq (a : Int) : impl_isDay.f a = some (decide (0 ≤ a ∧ a ≤ 40000)) := by
  unfold impl_isDay.f; rw [between_eq]; rfl
theorem l2Day_eq (a : Int) : spec_l2Day.f a = some (decide (0 ≤ a ∧ a ≤ 40000)) := by
  unfold spec_l2Day.f; rw [l1In_eq]; rfl
def amP (a : Int) : Prop := -100000000000 ≤ a ∧ a ≤ 100000000000
theorem amount_eq (a : Int) : impl_amount.f a = some (decide (amP a)) := by
  unfold impl_amount.f; rw [between_eq]; show some _ = some _; congr 1; exact decide_eq_decide.2 Iff.rfl
theorem l1Amount_eq (a : Int) : spec_l1Amount.f a = some (decide (amP a)) := by
  unfold spec_l1Amount.f; rw [l1In_eq]; show some _ = some _; congr 1; exact decide_eq_decide.2 Iff.rfl
def frameP (c : List Acc) (d q : Int) : Prop := chartP c ∧ (1 ≤ d ∧ d ≤ 20) ∧ 1 ≤ q ∧ q ≤ 20
def textP (s : ByteArray) : Prop := s.size ≤ 40 ∧ ∀ i : Nat, i < s.size → ¬ bt s (i : Nat) < 32
def lineP (c : List Acc) (d q : Int) (x : Lin) : Prop := leafP c x.f0 ∧ (0 ≤ x.f1 ∧ x.f1 ≤ d - 1) ∧ (0 ≤ x.f2 ∧ x.f2 ≤ q - 1) ∧ amP x.f3 ∧ amP x.f4 ∧ (x.f2 = 0 → x.f3 = x.f4)
def csm (E : List Lin) (q : Int) : Nat → Int
  | 0 => 0
  | i + 1 => if (rd_T107 E (i : Nat)).f2 = q then csm E q i + (rd_T107 E (i : Nat)).f3 else csm E q i
def dsm (E : List Lin) (d : Int) : Nat → Int
  | 0 => 0
  | i + 1 => if (rd_T107 E (i : Nat)).f1 = d then dsm E d i + (rd_T107 E (i : Nat)).f4 else dsm E d i
def balP (E : List Lin) : Prop := ∀ i : Nat, i < E.length → csm E (rd_T107 E (i : Nat)).f2 E.length = 0 ∧ dsm E (rd_T107 E (i : Nat)).f1 E.length = 0
def entP (c : List Acc) (d q day ref : Int) (s : ByteArray) (E : List Lin) : Prop :=
  (0 ≤ day ∧ day ≤ 40000) ∧ (0 ≤ ref ∧ ref ≤ 1000) ∧ textP s ∧ (2 ≤ E.length ∧ E.length ≤ 60) ∧ (∀ i : Nat, i < E.length → lineP c d q (rd_T107 E (i : Nat))) ∧ balP E
def Am (E : List Lin) (n : Nat) : Prop := ∀ j : Nat, j < n → amP (rd_T107 E (j : Nat)).f3 ∧ amP (rd_T107 E (j : Nat)).f4
theorem csm_bd {E : List Lin} (q : Int) : ∀ (n : Nat), Am E n → -(100000000000 * (n : Int)) ≤ csm E q n ∧ csm E q n ≤ 100000000000 * (n : Int)
  | 0, _ => by simp [csm]
  | n + 1, h => by
    obtain ⟨h1, h2⟩ := csm_bd q n (fun j hj => h j (by omega))
    have h3 := (h n (by omega)).1
    unfold amP at h3
    simp only [csm]
    split <;> omega
theorem dsm_bd {E : List Lin} (d : Int) : ∀ (n : Nat), Am E n → -(100000000000 * (n : Int)) ≤ dsm E d n ∧ dsm E d n ≤ 100000000000 * (n : Int)
  | 0, _ => by simp [dsm]
  | n + 1, h => by
    obtain ⟨h1, h2⟩ := dsm_bd d n (fun j hj => h j (by omega))
    have h3 := (h n (by omega)).2
    unfold amP at h3
    simp only [dsm]
    split <;> omega
def smp (E : List Lin) : Nat → List ((Int × Int) × Int)
  | 0 => []
  | i + 1 =>
    let y := ((0, (rd_T107 E (i : Nat)).f2), wrap64 (mget 0 (smp E i) (0, (rd_T107 E (i : Nat)).f2) + (rd_T107 E (i : Nat)).f3)) :: smp E i
    ((1, (rd_T107 E (i : Nat)).f1), wrap64 (mget 0 y (1, (rd_T107 E (i : Nat)).f1) + (rd_T107 E (i : Nat)).f4)) :: y
theorem smp_len (E : List Lin) : ∀ i, (smp E i).length = 2 * i
  | 0 => rfl
  | i + 1 => by simp only [smp, List.length_cons, smp_len E i]; omega
theorem smp_get (E : List Lin) : ∀ n, n ≤ 1000 → Am E n → (∀ q, mget 0 (smp E n) (0, q) = csm E q n) ∧ ∀ d, mget 0 (smp E n) (1, d) = dsm E d n
  | 0, _, _ => ⟨fun _ => rfl, fun _ => rfl⟩
  | n + 1, hn, h => by
    have hA : Am E n := fun j hj => h j (by omega)
    obtain ⟨h1, h2⟩ := smp_get E n (by omega) hA
    have h3 := h n (by omega)
    unfold amP at h3
    have b1 := csm_bd (rd_T107 E (n : Nat)).f2 n hA
    have b2 := dsm_bd (rd_T107 E (n : Nat)).f1 n hA
    refine ⟨fun q => ?_, fun d => ?_⟩
    · simp only [smp, mget, csm, Prod.mk.injEq]
      rw [if_neg (by simp)]
      split
      · rename_i hq
        rw [if_pos hq.2, h1, wrap_id (by omega) (by omega), hq.2]
      · rename_i hq
        rw [if_neg (fun g => hq ⟨trivial, g⟩), h1]
    · simp only [smp, mget, dsm, Prod.mk.injEq]
      split
      · rename_i hd
        rw [if_pos hd.2, if_neg (by simp), h2, wrap_id (by omega) (by omega), hd.2]
      · rename_i hd
        rw [if_neg (fun g => hd ⟨trivial, g⟩), if_neg (by simp), h2]
theorem smp_key (E : List Lin) : ∀ n, ∀ p ∈ smp E n, ∃ j : Nat, j < n ∧ (p.1 = (0, (rd_T107 E (j : Nat)).f2) ∨ p.1 = (1, (rd_T107 E (j : Nat)).f1))
  | 0, p, hp => by simp [smp] at hp
  | n + 1, p, hp => by
    simp only [smp, List.mem_cons] at hp
    rcases hp with rfl | rfl | hp
    · exact ⟨n, by omega, .inr rfl⟩
    · exact ⟨n, by omega, .inl rfl⟩
    · obtain ⟨j, hj, e⟩ := smp_key E n p hp
      exact ⟨j, by omega, e⟩
theorem smp_has (E : List Lin) : ∀ n (j : Nat), j < n → (∃ p ∈ smp E n, p.1 = (0, (rd_T107 E (j : Nat)).f2)) ∧ ∃ p ∈ smp E n, p.1 = (1, (rd_T107 E (j : Nat)).f1)
  | 0, j, hj => by omega
  | n + 1, j, hj => by
    by_cases h : j = n
    · subst h
      simp only [smp, List.mem_cons]
      exact ⟨⟨_, .inr (.inl rfl), rfl⟩, ⟨_, .inl rfl, rfl⟩⟩
    · obtain ⟨⟨p, hp, e⟩, ⟨p', hp', e'⟩⟩ := smp_has E n j (by omega)
      simp only [smp, List.mem_cons]
      exact ⟨⟨p, .inr (.inr hp), e⟩, ⟨p', .inr (.inr hp'), e'⟩⟩
theorem smp_bal (E : List Lin) (hn : E.length ≤ 1000) (h : Am E E.length) : mall0 (smp E E.length) = decide (balP E) := by
  obtain ⟨g1, g2⟩ := smp_get E E.length hn h
  by_cases hb : balP E
  · rw [decide_eq_true hb]
    refine mall0_iff.2 (fun p hp => ?_)
    obtain ⟨j, hj, e | e⟩ := smp_key E _ p hp
    · rw [e, g1]; exact (hb j hj).1
    · rw [e, g2]; exact (hb j hj).2
  · rw [decide_eq_false hb]
    cases hm : mall0 (smp E E.length) with
    | false => rfl
    | true =>
      refine absurd (fun j hj => ?_) hb
      obtain ⟨⟨p, hp, e⟩, ⟨p', hp', e'⟩⟩ := smp_has E E.length j hj
      have h1 := mall0_iff.1 hm p hp
      have h2 := mall0_iff.1 hm p' hp'
      rw [e, g1] at h1
      rw [e', g2] at h2
      exact ⟨h1, h2⟩
section
variable (c : List Acc) (hs : ∀ i : Nat, i < c.length → (rd_T222 c i).f0.size ≤ 9223372036854775807) (d q : Int) (hf : frameP c d q) (day ref : Int) (s : ByteArray) (hz : s.size ≤ 1048576) (E : List Lin)
  (hw : ∀ i : Nat, i < E.length → (-9223372036854775808 ≤ (rd_T107 E (i : Nat)).f0 ∧ (rd_T107 E (i : Nat)).f0 ≤ 9223372036854775807) ∧ (-9223372036854775808 ≤ (rd_T107 E (i : Nat)).f1 ∧ (rd_T107 E (i : Nat)).f1 ≤ 9223372036854775807) ∧ (-9223372036854775808 ≤ (rd_T107 E (i : Nat)).f2 ∧ (rd_T107 E (i : Nat)).f2 ≤ 9223372036854775807))
include hf hw
theorem impl_lines (hE : E.length ≤ 60) : Ev (fun k => impl_entryIn.l1 k [] E E.length 0 c d q) (decide ((∀ i : Nat, i < E.length → lineP c d q (rd_T107 E (i : Nat))) ∧ balP E)) := by
  have hd := hf.2.1
  have hq := hf.2.2
  have step : ∀ (i : Nat) (r : Bool), i < E.length → (lineP c d q (rd_T107 E (i : Nat)) → Ev (fun k => impl_entryIn.l1 k (smp E (i + 1)) E E.length ((i + 1 : Nat) : Int) c d q) r) → (¬ lineP c d q (rd_T107 E (i : Nat)) → r = false) → Ev (fun k => impl_entryIn.l1 k (smp E i) E E.length i c d q) r := by
    intro i r hi hr hbad
    have bad : ¬ lineP c d q (rd_T107 E (i : Nat)) → Ev (fun _ => some false) r := fun h => by rw [hbad h]; exact ev_some _
    obtain ⟨w0, w1, w2⟩ := hw i hi
    have fin : lineP c d q (rd_T107 E (i : Nat)) → Ev (fun k => if -9223372036854775808 ≤ (rd_T107 E (i : Nat)).f2 then (if (rd_T107 E (i : Nat)).f2 ≤ 9223372036854775807 then (if (smp E i).length < 140737488355328 then ((some (((0, (rd_T107 E (i : Nat)).f2), wrap64 ((mget 0 (smp E i) (0, (rd_T107 E (i : Nat)).f2)) + ((rd_T107 E (i : Nat)).f3))) :: smp E i : List (((Int × Int) × Int)))).bind fun y244 => (if -9223372036854775808 ≤ (rd_T107 E (i : Nat)).f1 then (if (rd_T107 E (i : Nat)).f1 ≤ 9223372036854775807 then (if y244.length < 140737488355328 then (impl_entryIn.l1 k (((1, (rd_T107 E (i : Nat)).f1), wrap64 ((mget 0 y244 (1, (rd_T107 E (i : Nat)).f1)) + ((rd_T107 E (i : Nat)).f4))) :: y244) E E.length ((i + 1 : Nat) : Int) c d q) else (none)) else (none)) else (none))) else (none)) else (none)) else (none)) r := by
      intro hp
      refine ev_pos w2.1 (ev_pos w2.2 (ev_pos (by rw [smp_len]; omega) (ev_bind0 rfl (ev_pos w1.1 (ev_pos w1.2 (ev_pos (by rw [List.length_cons, smp_len]; omega) ?_))))))
      exact hr hp
    refine Ev.step (fun _ => rfl) ?_
    simp only [impl_entryIn.l1]
    rw [wrap_succ hi (by omega)]
    refine ev_pos (by omega) (ev_pos (by omega) (ev_pos (by omega) (ev_bind0 (implLeaf hf.1 _ w0) ?_)))
    by_cases h1 : leafP c (rd_T107 E (i : Nat)).f0
    · refine ev_pos (decide_eq_true h1) ?_
      rw [wrap_id (x := d - 1) (by omega) (by omega), wrap_id (x := q - 1) (by omega) (by omega)]
      refine ev_bind0 (between_eq _ _ _) ?_
      by_cases h2 : 0 ≤ (rd_T107 E (i : Nat)).f1 ∧ (rd_T107 E (i : Nat)).f1 ≤ d - 1
      · refine ev_pos (decide_eq_true h2) (ev_bind0 (between_eq _ _ _) ?_)
        by_cases h3 : 0 ≤ (rd_T107 E (i : Nat)).f2 ∧ (rd_T107 E (i : Nat)).f2 ≤ q - 1
        · refine ev_pos (decide_eq_true h3) (ev_bind0 (amount_eq _) ?_)
          by_cases h4 : amP (rd_T107 E (i : Nat)).f3
          · refine ev_pos (decide_eq_true h4) (ev_bind0 (amount_eq _) ?_)
            by_cases h5 : amP (rd_T107 E (i : Nat)).f4
            · refine ev_pos (decide_eq_true h5) ?_
              by_cases h6 : (rd_T107 E (i : Nat)).f2 = 0
              · refine ev_pos h6 ?_
                by_cases h7 : (rd_T107 E (i : Nat)).f3 = (rd_T107 E (i : Nat)).f4
                · exact ev_pos h7 (fin ⟨h1, h2, h3, h4, h5, fun _ => h7⟩)
                · exact ev_neg h7 (bad fun g => h7 (g.2.2.2.2.2 h6))
              · exact ev_neg h6 (fin ⟨h1, h2, h3, h4, h5, fun h => absurd h h6⟩)
            · exact ev_neg (by rw [decide_eq_true_eq]; exact h5) (bad fun g => h5 g.2.2.2.2.1)
          · exact ev_neg (by rw [decide_eq_true_eq]; exact h4) (bad fun g => h4 g.2.2.2.1)
        · exact ev_neg (by rw [decide_eq_true_eq]; exact h3) (bad fun g => h3 g.2.2.1)
      · exact ev_neg (by rw [decide_eq_true_eq]; exact h2) (bad fun g => h2 g.2.1)
    · exact ev_neg (by rw [decide_eq_true_eq]; exact h1) (bad fun g => h1 g.1)
  obtain ⟨g1, g2⟩ := ev_loop (F := fun k x => impl_entryIn.l1 k (smp E x.toNat) E E.length x c d q) (n := E.length) (p := fun i => lineP c d q (rd_T107 E (i : Nat))) (R := decide (balP E)) (bad := false)
    (fun h => by
      refine Ev.step (fun _ => rfl) ?_
      simp only [impl_entryIn.l1, Int.toNat_natCast]
      refine ev_neg (by omega) ?_
      have hm := smp_bal E (by omega) (fun j hj => ⟨(h j hj).2.2.2.1, (h j hj).2.2.2.2.1⟩)
      by_cases hb : balP E
      · rw [decide_eq_true hb] at hm ⊢; exact ev_pos hm (ev_some _)
      · rw [decide_eq_false hb] at hm ⊢; exact ev_neg (by rw [hm]; simp) (ev_some _))
    (fun i r hi _ hp h => step i r hi (fun _ => h) (fun hn => absurd hp hn))
    (fun i hi _ hp => step i false hi (fun h => absurd h hp) (fun _ => rfl))
  by_cases h : ∀ i : Nat, i < E.length → lineP c d q (rd_T107 E (i : Nat))
  · refine ev_eq (g1 h) ?_
    rw [decide_eq_decide]
    exact ⟨fun g => ⟨h, g⟩, fun g => g.2⟩
  · refine ev_eq (g2 h) ?_
    symm; rw [decide_eq_false_iff_not]; exact fun g => h g.1
include hz
theorem implIn : Ev (fun k => impl_entryIn.f k c d q day ref s E) (decide (entP c d q day ref s E)) := by
  have bad : ¬ entP c d q day ref s E → Ev (fun _ => some false) (decide (entP c d q day ref s E)) := fun h => by rw [decide_eq_false h]; exact ev_some _
  unfold impl_entryIn.f
  have jt : ¬ entP c d q day ref s E → ∀ b : Bool, b = true → Ev (fun k => impl_entryIn.j0 k b c d q day ref s E) (decide (entP c d q day ref s E)) := fun h b hb => by
    refine Ev.step (fun _ => rfl) ?_
    simp only [impl_entryIn.j0]
    exact ev_pos hb (bad h)
  refine ev_bind0 (isDay_eq _) ?_
  by_cases h1 : 0 ≤ day ∧ day ≤ 40000
  · refine ev_pos (decide_eq_true h1) (ev_bind0 (between_eq _ _ _) ?_)
    by_cases h2 : 0 ≤ ref ∧ ref ≤ 1000
    · refine ev_pos (decide_eq_true h2) ?_
      by_cases h3 : (s.size : Int) > 40
      · exact ev_pos h3 (jt (fun g => by have := g.2.2.1.1; omega) _ rfl)
      · refine ev_neg h3 ?_
        by_cases h4 : (E.length : Int) < 2
        · exact ev_pos h4 (jt (fun g => by have := g.2.2.2.1; omega) _ rfl)
        · refine ev_neg h4 ?_
          by_cases h5 : (E.length : Int) > 60
          · rw [decide_eq_true h5]
            exact jt (fun g => by have := g.2.2.2.1; omega) _ rfl
          · rw [decide_eq_false h5]
            refine Ev.step (fun _ => rfl) ?_
            simp only [impl_entryIn.j0]
            refine ev_neg (by simp) ?_
            have hl := impl_lines c d q hf E hw (by omega)
            obtain ⟨g1, g2⟩ := ev_loop (F := fun k x => impl_entryIn.l0 k x c d q day ref s E) (n := s.size) (p := fun i => ¬ bt s (i : Nat) < 32) (R := decide ((∀ i : Nat, i < E.length → lineP c d q (rd_T107 E (i : Nat))) ∧ balP E)) (bad := false)
              (fun h => by
                refine Ev.step (fun _ => rfl) ?_
                simp only [impl_entryIn.l0]
                exact ev_neg (by omega) hl)
              (fun i r hi _ hp h => by
                refine Ev.step (fun _ => rfl) ?_
                simp only [impl_entryIn.l0]
                refine ev_pos (by omega) (ev_pos (by omega) (ev_neg hp ?_))
                rw [wrap_succ hi (by omega)]
                exact h)
              (fun i hi _ hp => by
                refine Ev.step (fun _ => rfl) ?_
                simp only [impl_entryIn.l0]
                exact ev_pos (by omega) (ev_pos (by omega) (ev_pos (Classical.not_not.1 hp) (ev_some _))))
            by_cases h6 : ∀ i : Nat, i < s.size → ¬ bt s (i : Nat) < 32
            · refine ev_eq (g1 h6) ?_
              rw [decide_eq_decide]
              exact ⟨fun g => ⟨h1, h2, ⟨by omega, h6⟩, by omega, g⟩, fun g => g.2.2.2.2⟩
            · refine ev_eq (g2 h6) ?_
              symm; rw [decide_eq_false_iff_not]; exact fun g => h6 g.2.2.1.2
    · exact ev_neg (by rw [decide_eq_true_eq]; exact h2) (jt (fun g => h2 g.2.1) _ rfl)
  · exact ev_neg (by rw [decide_eq_true_eq]; exact h1) (jt (fun g => h1 g.1) _ rfl)
omit hz hw in
include hs in
theorem spec_line (x : Lin) : Ev (fun k => spec_l5LineOk.f k c d q x.f0 x.f1 x.f2 x.f3 x.f4) (decide (lineP c d q x)) := by
  have bad : ¬ lineP c d q x → Ev (fun _ => some false) (decide (lineP c d q x)) := fun h => by rw [decide_eq_false h]; exact ev_some _
  have hd := hf.2.1
  have hq := hf.2.2
  have hc := hf.1.1
  unfold spec_l5LineOk.f
  rw [wrap_id (x := (c.length : Int) - 1) (by omega) (by omega), wrap_id (x := d - 1) (by omega) (by omega), wrap_id (x := q - 1) (by omega) (by omega)]
  refine ev_bind0 (l1In_eq _ _ _) ?_
  by_cases h0 : 0 ≤ x.f0 ∧ x.f0 ≤ (c.length : Int) - 1
  · refine ev_pos (decide_eq_true h0) (ev_bind (specLeaf hs hf.1 x.f0) ?_)
    by_cases h1 : leafP c x.f0
    · refine ev_pos (decide_eq_true h1) (ev_bind0 (l1In_eq _ _ _) ?_)
      by_cases h2 : 0 ≤ x.f1 ∧ x.f1 ≤ d - 1
      · refine ev_pos (decide_eq_true h2) (ev_bind0 (l1In_eq _ _ _) ?_)
        by_cases h3 : 0 ≤ x.f2 ∧ x.f2 ≤ q - 1
        · refine ev_pos (decide_eq_true h3) (ev_bind0 (l1Amount_eq _) ?_)
          by_cases h4 : amP x.f3
          · refine ev_pos (decide_eq_true h4) (ev_bind0 (l1Amount_eq _) ?_)
            by_cases h5 : amP x.f4
            · refine ev_pos (decide_eq_true h5) ?_
              by_cases h6 : x.f2 = 0
              · refine ev_pos h6 (ev_eq (ev_some _) ?_)
                by_cases h7 : x.f3 = x.f4
                · rw [decide_eq_true ⟨h1, h2, h3, h4, h5, fun _ => h7⟩, h7]; simp
                · rw [decide_eq_false (fun g : lineP c d q x => h7 (g.2.2.2.2.2 h6))]; simpa using h7
              · exact ev_neg h6 (ev_eq (ev_some _) (by rw [decide_eq_true ⟨h1, h2, h3, h4, h5, fun h => absurd h h6⟩]))
            · exact ev_neg (by rw [decide_eq_true_eq]; exact h5) (bad fun g => h5 g.2.2.2.2.1)
          · exact ev_neg (by rw [decide_eq_true_eq]; exact h4) (bad fun g => h4 g.2.2.2.1)
        · exact ev_neg (by rw [decide_eq_true_eq]; exact h3) (bad fun g => h3 g.2.2.1)
      · exact ev_neg (by rw [decide_eq_true_eq]; exact h2) (bad fun g => h2 g.2.1)
    · exact ev_neg (by rw [decide_eq_true_eq]; exact h1) (bad fun g => h1 g.1)
  · exact ev_neg (by rw [decide_eq_true_eq]; exact h0) (bad fun g => h0 ⟨g.1.1.1, by have := g.1.1.2; omega⟩)
end
theorem spec_sums (day ref : Int) (s : ByteArray) (E : List Lin) (hE : E.length ≤ 60) (hA : Am E E.length) (i : Nat) (hi : i < E.length) (r : Bool) (hr : csm E (rd_T107 E (i : Nat)).f2 E.length = 0 ∧ dsm E (rd_T107 E (i : Nat)).f1 E.length = 0 → Ev (fun k => spec_EntryOk.l1 k ((i + 1 : Nat) : Int) day ref s E) r)
    (hb : ¬ (csm E (rd_T107 E (i : Nat)).f2 E.length = 0 ∧ dsm E (rd_T107 E (i : Nat)).f1 E.length = 0) → r = false) : Ev (fun k => spec_EntryOk.l2 k (i : Int) 0 0 0 day ref s E) r := by
  have step : ∀ (j : Nat) (r : Bool), j < E.length → Ev (fun k => spec_EntryOk.l2 k (i : Int) (csm E (rd_T107 E (i : Nat)).f2 (j + 1)) (dsm E (rd_T107 E (i : Nat)).f1 (j + 1)) ((j + 1 : Nat) : Int) day ref s E) r → Ev (fun k => spec_EntryOk.l2 k (i : Int) (csm E (rd_T107 E (i : Nat)).f2 j) (dsm E (rd_T107 E (i : Nat)).f1 j) (j : Int) day ref s E) r := by
    intro j r hj h
    have hAj : Am E j := fun m hm => hA m (by omega)
    have b1 := csm_bd (rd_T107 E (i : Nat)).f2 j hAj
    have b2 := dsm_bd (rd_T107 E (i : Nat)).f1 j hAj
    have h3 := hA j hj
    unfold amP at h3
    refine Ev.step (fun _ => rfl) ?_
    simp only [spec_EntryOk.l2]
    rw [wrap_succ hj (by omega), wrap_id (x := csm E (rd_T107 E (i : Nat)).f2 j + (rd_T107 E (j : Nat)).f3) (by omega) (by omega), wrap_id (x := dsm E (rd_T107 E (i : Nat)).f1 j + (rd_T107 E (j : Nat)).f4) (by omega) (by omega)]
    simp only [csm, dsm] at h
    refine ev_pos (by omega) (ev_pos (by omega) (ev_pos (by omega) (ev_pos (by omega) ?_)))
    by_cases hc : (rd_T107 E (j : Nat)).f2 = (rd_T107 E (i : Nat)).f2
    · rw [if_pos hc] at h
      refine ev_pos hc ?_
      by_cases hd : (rd_T107 E (j : Nat)).f1 = (rd_T107 E (i : Nat)).f1
      · rw [if_pos hd] at h; exact ev_pos hd h
      · rw [if_neg hd] at h; exact ev_neg hd h
    · rw [if_neg hc] at h
      refine ev_neg hc ?_
      by_cases hd : (rd_T107 E (j : Nat)).f1 = (rd_T107 E (i : Nat)).f1
      · rw [if_pos hd] at h; exact ev_pos hd h
      · rw [if_neg hd] at h; exact ev_neg hd h
  have main := ev_pass (F := fun k x => spec_EntryOk.l2 k (i : Int) (csm E (rd_T107 E (i : Nat)).f2 x.toNat) (dsm E (rd_T107 E (i : Nat)).f1 x.toNat) x day ref s E) (n := E.length) (R := r)
    (by
      refine Ev.step (fun _ => rfl) ?_
      simp only [spec_EntryOk.l2, Int.toNat_natCast]
      refine ev_neg (by omega) ?_
      rw [wrap_succ hi (by omega)]
      by_cases h1 : csm E (rd_T107 E (i : Nat)).f2 E.length = 0
      · refine ev_pos h1 ?_
        by_cases h2 : dsm E (rd_T107 E (i : Nat)).f1 E.length = 0
        · exact ev_pos h2 (hr ⟨h1, h2⟩)
        · rw [hb (fun g => h2 g.2)]; exact ev_neg h2 (ev_some _)
      · rw [hb (fun g => h1 g.1)]; exact ev_neg h1 (ev_some _))
    (fun j r hj h => step j r hj h)
  exact main
section
variable (c : List Acc) (hs : ∀ i : Nat, i < c.length → (rd_T222 c i).f0.size ≤ 9223372036854775807) (d q day ref : Int) (s : ByteArray) (hz : s.size ≤ 1048576) (E : List Lin)
include hz
theorem spec_text : Ev (fun k => spec_l5TextOk.f k s) (decide (textP s)) := by
  unfold spec_l5TextOk.f
  obtain ⟨g1, g2⟩ := ev_loop (F := fun k x => spec_l5TextOk.l0 k s x) (n := s.size) (p := fun i => ¬ bt s (i : Nat) < 32) (R := decide (s.size ≤ 40)) (bad := false)
    (fun h => by
      refine Ev.step (fun _ => rfl) ?_
      simp only [spec_l5TextOk.l0]
      refine ev_neg (by omega) (ev_eq (ev_some _) ?_)
      rw [decide_eq_decide]; omega)
    (fun i r hi _ hp h => by
      refine Ev.step (fun _ => rfl) ?_
      simp only [spec_l5TextOk.l0]
      refine ev_pos (by omega) (ev_pos (by omega) (ev_neg hp ?_))
      rw [wrap_succ hi (by omega)]
      exact h)
    (fun i hi _ hp => by
      refine Ev.step (fun _ => rfl) ?_
      simp only [spec_l5TextOk.l0]
      exact ev_pos (by omega) (ev_pos (by omega) (ev_pos (Classical.not_not.1 hp) (ev_some _))))
  by_cases h6 : ∀ i : Nat, i < s.size → ¬ bt s (i : Nat) < 32
  · refine ev_eq (g1 h6) ?_
    rw [decide_eq_decide]
    exact ⟨fun g => ⟨g, h6⟩, fun g => g.1⟩
  · refine ev_eq (g2 h6) ?_
    symm; rw [decide_eq_false_iff_not]; exact fun g => h6 g.2
include hs
omit hz in
theorem spec_rest (hf : frameP c d q) (hE : 2 ≤ E.length ∧ E.length ≤ 60) : Ev (fun k => spec_EntryOk.l0 k 0 c d q day ref s E) (decide ((∀ i : Nat, i < E.length → lineP c d q (rd_T107 E (i : Nat))) ∧ balP E)) := by
  obtain ⟨g1, g2⟩ := ev_loop (F := fun k x => spec_EntryOk.l0 k x c d q day ref s E) (n := E.length) (p := fun i => lineP c d q (rd_T107 E (i : Nat))) (R := decide (balP E)) (bad := false)
    (fun h => by
      have hA : Am E E.length := fun j hj => ⟨(h j hj).2.2.2.1, (h j hj).2.2.2.2.1⟩
      refine Ev.step (fun _ => rfl) ?_
      simp only [spec_EntryOk.l0]
      refine ev_neg (by omega) ?_
      refine ev_eq (ev_loopB (F := fun k x => spec_EntryOk.l1 k x day ref s E) (n := E.length) (p := fun i => csm E (rd_T107 E (i : Nat)).f2 E.length = 0 ∧ dsm E (rd_T107 E (i : Nat)).f1 E.length = 0) ?_ ?_ ?_) (decide_eq_decide.2 Iff.rfl)
      · intro _
        refine Ev.step (fun _ => rfl) ?_
        simp only [spec_EntryOk.l1]
        exact ev_neg (by omega) (ev_some _)
      · intro i r hi _ hp h
        refine Ev.step (fun _ => rfl) ?_
        simp only [spec_EntryOk.l1]
        exact ev_pos (by omega) (spec_sums day ref s E hE.2 hA i hi r (fun _ => h) (fun g => absurd hp g))
      · intro i hi _ hp
        refine Ev.step (fun _ => rfl) ?_
        simp only [spec_EntryOk.l1]
        exact ev_pos (by omega) (spec_sums day ref s E hE.2 hA i hi false (fun g => absurd g hp) (fun _ => rfl)))
    (fun i r hi _ hp h => by
      refine Ev.step (fun _ => rfl) ?_
      simp only [spec_EntryOk.l0]
      refine ev_pos (by omega) (ev_pos (by omega) (ev_bind (spec_line c hs d q hf _) (ev_pos (decide_eq_true hp) ?_)))
      rw [wrap_succ hi (by omega)]
      exact h)
    (fun i hi _ hp => by
      refine Ev.step (fun _ => rfl) ?_
      simp only [spec_EntryOk.l0]
      exact ev_pos (by omega) (ev_pos (by omega) (ev_bind (spec_line c hs d q hf _) (ev_neg (by rw [decide_eq_true_eq]; exact hp) (ev_some _)))))
  by_cases h : ∀ i : Nat, i < E.length → lineP c d q (rd_T107 E (i : Nat))
  · refine ev_eq (g1 h) ?_
    rw [decide_eq_decide]
    exact ⟨fun g => ⟨h, g⟩, fun g => g.2⟩
  · refine ev_eq (g2 h) ?_
    symm; rw [decide_eq_false_iff_not]; exact fun g => h g.1
omit hz in
theorem spec_frame : Ev (fun k => spec_FrameOk.f k c d q) (decide (frameP c d q)) := by
  unfold spec_FrameOk.f
  refine ev_bind (specChart c hs) ?_
  by_cases h1 : chartP c
  · refine ev_pos (decide_eq_true h1) (ev_bind0 (l1In_eq _ _ _) ?_)
    by_cases h2 : 1 ≤ d ∧ d ≤ 20
    · refine ev_pos (decide_eq_true h2) (ev_bind0 (l1In_eq _ _ _) (ev_eq (ev_some _) ?_))
      rw [decide_eq_decide]
      exact ⟨fun h => ⟨h1, h2, h⟩, fun h => h.2.2⟩
    · refine ev_neg (by rw [decide_eq_true_eq]; exact h2) (ev_eq (ev_some _) ?_)
      symm; rw [decide_eq_false_iff_not]; exact fun g => h2 g.2.1
  · refine ev_neg (by rw [decide_eq_true_eq]; exact h1) (ev_eq (ev_some _) ?_)
    symm; rw [decide_eq_false_iff_not]; exact fun g => h1 g.1
omit hz in
theorem impl_frame : Ev (fun k => impl_FrameOk.f k c d q) (decide (frameP c d q)) := by
  unfold impl_FrameOk.f
  refine ev_bind0 (between_eq _ _ _) ?_
  by_cases h2 : 1 ≤ d ∧ d ≤ 20
  · refine ev_pos (decide_eq_true h2) (ev_bind0 (between_eq _ _ _) ?_)
    by_cases h3 : 1 ≤ q ∧ q ≤ 20
    · refine ev_pos (decide_eq_true h3) (ev_bind (implChart c hs) (ev_eq (ev_some _) ?_))
      rw [decide_eq_decide]
      exact ⟨fun h => ⟨h, h2, h3⟩, fun h => h.1⟩
    · refine ev_neg (by rw [decide_eq_true_eq]; exact h3) (ev_eq (ev_some _) ?_)
      symm; rw [decide_eq_false_iff_not]; exact fun g => h3 g.2.2
  · refine ev_neg (by rw [decide_eq_true_eq]; exact h2) (ev_eq (ev_some _) ?_)
    symm; rw [decide_eq_false_iff_not]; exact fun g => h2 g.2.1
include hz
theorem specEntry : Ev (fun k => spec_EntryOk.f k c d q day ref s E) (decide (frameP c d q ∧ entP c d q day ref s E)) := by
  have bad : ¬ (frameP c d q ∧ entP c d q day ref s E) → Ev (fun _ => some false) (decide (frameP c d q ∧ entP c d q day ref s E)) := fun h => by rw [decide_eq_false h]; exact ev_some _
  have jt : ¬ (frameP c d q ∧ entP c d q day ref s E) → ∀ b : Bool, b = true → Ev (fun k => spec_EntryOk.j0 k b c d q day ref s E) (decide (frameP c d q ∧ entP c d q day ref s E)) := fun h b hb => by
    refine Ev.step (fun _ => rfl) ?_
    simp only [spec_EntryOk.j0]
    exact ev_pos hb (bad h)
  unfold spec_EntryOk.f
  refine ev_bind (spec_frame c hs d q) ?_
  by_cases h0 : frameP c d q
  · refine ev_pos (decide_eq_true h0) (ev_bind0 (l2Day_eq _) ?_)
    by_cases h1 : 0 ≤ day ∧ day ≤ 40000
    · refine ev_pos (decide_eq_true h1) (ev_bind0 (l1In_eq _ _ _) ?_)
      by_cases h2 : 0 ≤ ref ∧ ref ≤ 1000
      · refine ev_pos (decide_eq_true h2) (ev_bind (spec_text s hz) ?_)
        by_cases h3 : textP s
        · refine ev_pos (decide_eq_true h3) (ev_bind0 (l1In_eq _ _ _) ?_)
          by_cases h4 : 2 ≤ (E.length : Int) ∧ (E.length : Int) ≤ 60
          · rw [decide_eq_true h4]
            refine Ev.step (fun _ => rfl) ?_
            simp only [spec_EntryOk.j0]
            refine ev_neg (by simp) (ev_eq (spec_rest c hs d q day ref s E h0 (by omega)) ?_)
            rw [decide_eq_decide]
            exact ⟨fun g => ⟨h0, h1, h2, h3, by omega, g⟩, fun g => g.2.2.2.2.2⟩
          · rw [decide_eq_false h4]
            exact jt (fun g => h4 (by have := g.2.2.2.2.1; omega)) _ rfl
        · exact ev_neg (by rw [decide_eq_true_eq]; exact h3) (jt (fun g => h3 g.2.2.2.1) _ rfl)
      · exact ev_neg (by rw [decide_eq_true_eq]; exact h2) (jt (fun g => h2 g.2.2.1) _ rfl)
    · exact ev_neg (by rw [decide_eq_true_eq]; exact h1) (jt (fun g => h1 g.2.1) _ rfl)
  · exact ev_neg (by rw [decide_eq_true_eq]; exact h0) (jt (fun g => h0 g.1) _ rfl)
end
end Go.Proofs.Ytmpknbdbichdiaa.PFnExactLedgerOk
