import Derived.Test.YtmpknbdbichdiaaLEvWords
import Derived.Test.YtmpknbdbichdiaaLPFnExactLedgerOkx
import Derived.Laws.Strings
set_option linter.unusedVariables false
set_option linter.unusedSimpArgs false
namespace Go.Proofs.Ytmpknbdbichdiaa.PFnExactLedgerOk
open Go Go.RowKit Go.Proofs.YtmpknbdbichdiaaW.PrintWords Go.Proofs.YtmpknbdbichdiaaW.PrintLast Go.Proofs.Ytmpknbdbichdiaa.MapWords Go.Proofs.Ytmpknbdbichdiaa.EvWords
open Classical
theorem between_eq (a b c : Int) : impl_between.f a b c = some (decide (b ≤ a ∧ a ≤ c)) := by
  unfold impl_between.f
  by_cases h : a ≥ b
  · rw [if_pos h]; congr 1; simp; omega
  · rw [if_neg h]; congr 1; simp; omega
theorem l1In_eq (a b c : Int) : spec_l1In.f a b c = some (decide (b ≤ a ∧ a ≤ c)) := by
  unfold spec_l1In.f
  by_cases h : a ≥ b
  · rw [if_pos h]; congr 1; simp; omega
  · rw [if_neg h]; congr 1; simp; omega
def nbP (b : Int) : Prop := (97 ≤ b ∧ b ≤ 122) ∨ (65 ≤ b ∧ b ≤ 90) ∨ (48 ≤ b ∧ b ≤ 57) ∨ b = 45 ∨ b = 95 ∨ b = 46
def nameP (s : ByteArray) : Prop := 1 ≤ s.size ∧ s.size ≤ 20 ∧ ∀ i : Nat, i < s.size → nbP (bt s i)
theorem nameByte_eq (b : Int) : impl_nameByte.f b = some (decide (nbP b)) := by
  by_cases h : nbP b
  · rw [decide_eq_true h]
    unfold nbP at h
    unfold impl_nameByte.f
    repeat' split
    all_goals first | rfl | (exfalso; omega) | (congr 1; simp; omega)
  · rw [decide_eq_false h]
    unfold nbP at h
    unfold impl_nameByte.f
    repeat' split
    all_goals first | rfl | (exfalso; omega) | (congr 1; simp; omega)
theorem str_iff (a b : ByteArray) : a.toList = b.toList ↔ a = b := by
  constructor
  · intro h
    rw [ByteArray.toList_eq, ByteArray.toList_eq] at h
    cases a; cases b
    simp only [ByteArray.mk.injEq]
    exact Array.toList_inj.1 h
  · intro h; rw [h]
theorem implName (s : ByteArray) : Ev (fun k => impl_NameOk.f k s) (decide (nameP s)) := by
  have hj : ∀ b : Bool, b = decide (¬ (1 ≤ s.size ∧ s.size ≤ 20)) → Ev (fun k => impl_NameOk.j0 k s b) (decide (nameP s)) := by
    intro b hb
    refine Ev.step (fun _ => rfl) ?_
    by_cases hc : 1 ≤ s.size ∧ s.size ≤ 20
    · have hb' : b = false := by rw [hb]; simp [hc]
      refine ev_neg (by simp [hb']) ?_
      refine ev_eq (ev_loopB (n := s.size) (p := fun i => nbP (bt s (i : Nat))) ?_ ?_ ?_) ?_
      · intro _
        refine Ev.step (fun _ => rfl) ?_
        exact ev_neg (by omega) (ev_some _)
      · intro i r hi _ hp h
        refine Ev.step (fun _ => rfl) ?_
        refine ev_pos (by omega) (ev_pos (by omega) (ev_bind0 (nameByte_eq _) ?_))
        refine ev_pos (by simpa using hp) ?_
        rw [wrap_succ hi (by omega)]
        exact h
      · intro i hi _ hp
        refine Ev.step (fun _ => rfl) ?_
        refine ev_pos (by omega) (ev_pos (by omega) (ev_bind0 (nameByte_eq _) ?_))
        exact ev_neg (by simpa using hp) (ev_some _)
      · rw [decide_eq_decide]
        unfold nameP
        exact ⟨fun h => ⟨hc.1, hc.2, h⟩, fun h => h.2.2⟩
    · have hb' : b = true := by rw [hb]; simp [hc]
      refine ev_pos hb' (ev_eq (ev_some false) ?_)
      symm
      rw [decide_eq_false_iff_not]
      exact fun h => hc ⟨h.1, h.2.1⟩
  unfold impl_NameOk.f
  by_cases h1 : (s.size : Int) < 1
  · refine ev_pos h1 (hj true ?_)
    symm; rw [decide_eq_true_eq]; omega
  · refine ev_neg h1 (hj _ ?_)
    rw [decide_eq_decide]; omega
theorem specName (s : ByteArray) (hs : s.size ≤ 9223372036854775807) : Ev (fun k => spec_NameOk.f k s) (decide (nameP s)) := by
  unfold spec_NameOk.f
  have good : ∀ (i : Nat) (r : Bool), i < s.size → nbP (bt s i) → Ev (fun k => spec_NameOk.l0 k s ((i + 1 : Nat) : Int)) r → Ev (fun k => spec_NameOk.l0 k s i) r := by
    intro i r hi hp h
    have hc1 : (i : Int) < (s.size : Int) := by omega
    have hc2 : 0 ≤ (i : Int) := by omega
    refine Ev.step (fun k => ?_) h
    unfold nbP at hp
    simp only [spec_NameOk.l0]
    rw [if_pos hc1, if_pos hc2, wrap_succ hi hs]
    repeat' split
    all_goals first | rfl | (exfalso; omega)
  have bad : ∀ (i : Nat), i < s.size → ¬ nbP (bt s i) → Ev (fun k => spec_NameOk.l0 k s i) false := by
    intro i hi hp
    have hc1 : (i : Int) < (s.size : Int) := by omega
    have hc2 : 0 ≤ (i : Int) := by omega
    refine Ev.step (f := fun _ => some false) (fun k => ?_) (ev_some _)
    unfold nbP at hp
    simp only [spec_NameOk.l0]
    rw [if_pos hc1, if_pos hc2]
    repeat' split
    all_goals first | rfl | (exfalso; omega)
  obtain ⟨g1, g2⟩ := ev_loop (F := fun k i => spec_NameOk.l0 k s i) (n := s.size) (p := fun i => nbP (bt s (i : Nat))) (R := decide (1 ≤ s.size ∧ s.size ≤ 20)) (bad := false)
    (fun _ => by
      refine Ev.step (fun _ => rfl) ?_
      refine ev_neg (by omega) (ev_bind0 (l1In_eq _ _ _) (ev_eq (ev_some _) ?_))
      rw [decide_eq_decide]; omega)
    (fun i r hi _ hp h => good i r hi hp h)
    (fun i hi _ hp => bad i hi hp)
  by_cases h : ∀ j, j < s.size → nbP (bt s (j : Nat))
  · refine ev_eq (g1 h) ?_
    rw [decide_eq_decide]
    unfold nameP
    exact ⟨fun g => ⟨g.1, g.2, h⟩, fun g => ⟨g.1, g.2.1⟩⟩
  · refine ev_eq (g2 h) ?_
    symm; rw [decide_eq_false_iff_not]
    exact fun g => h g.2.2
end Go.Proofs.Ytmpknbdbichdiaa.PFnExactLedgerOk
