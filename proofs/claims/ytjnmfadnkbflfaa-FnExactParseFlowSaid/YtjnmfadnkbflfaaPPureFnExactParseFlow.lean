import Derived.Test.YtjnmfadnkbflfaaPRoll3FnExactParseFlow
import Derived.Test.YtjnmfadnkbflfaaPMarkTextsFnExactParseFlow
import Derived.Test.YtjnmfadnkbflfaaPExFnExactParseFlow
set_option linter.unusedVariables false
set_option linter.unusedSimpArgs false
namespace Go.Proofs.Ytjnmfadnkbflfaa.PFnExactParseFlow
open Go Go.RowKit Go.Proofs.YtjnmfadnkbflfaaW.PrintWords Go.Proofs.YtjnmfadnkbflfaaW.PrintLast Go.Proofs.Ytjnmfadnkbflfaa.MapWords Go.Proofs.Ytjnmfadnkbflfaa.EvWords
open Classical
theorem stp_set {L : List Stp} {i j : Nat} (x : Stp) (hi : i < L.length) : rd_T119 (L.set i x) (j : Nat) = if i = j then x else rd_T119 L (j : Nat) := by
  show (L.set i x).getD (j : Int).toNat _ = if i = j then x else L.getD (j : Int).toNat _
  simp only [Int.toNat_natCast, List.getD_eq_getElem?_getD, List.getElem?_set]
  by_cases h : i = j
  · subst h; simp [hi]
  · simp [h]
def ms (L : List Stp) : Nat → Int
  | 0 => 1
  | i + 1 => ms L i + 1 + ((rd_T119 L (i : Nat)).f1.length : Int)
def goodM (L K : List Stp) (j : Nat) : Prop := (rd_T119 K (j : Nat)).f0 = ms L j ∧ (rd_T119 K (j : Nat)).f1.length = (rd_T119 L (j : Nat)).f1.length ∧ ∀ t : Nat, t < (rd_T119 K (j : Nat)).f1.length → tx (rd_T119 K (j : Nat)).f1 t = mtx (ms L j + 1 + t)
theorem ms_bd (L : List Stp) (hp : ∀ i : Nat, i < L.length → (rd_T119 L (i : Nat)).f1.length ≤ 1000) : ∀ i : Nat, i ≤ L.length → 1 ≤ ms L i ∧ ms L i ≤ 1 + 1001 * (i : Int)
  | 0, _ => by simp [ms]
  | i + 1, h => by
    have h1 := ms_bd L hp i (by omega)
    have h2 := hp i (by omega)
    simp only [ms]
    omega
theorem mark_steps (L : List Stp) (hl : L.length ≤ 1000) (hp : ∀ i : Nat, i < L.length → (rd_T119 L (i : Nat)).f1.length ≤ 1000) :
    ∃ K, Ev (fun k => laws_markStepS.f k L 1) (ms L L.length, K) ∧ Ev (fun k => laws_heldStepS.f k K 1) (ms L L.length) := by
  have h := ev_run (F := fun k (s : Int × List Stp) i => laws_markStepS.l0 k s.2 s.1 i) (n := L.length)
    (I := fun i s => s.2.length = L.length ∧ s.1 = ms L i ∧ (∀ j : Nat, j < i → goodM L s.2 j) ∧ ∀ j : Nat, i ≤ j → rd_T119 s.2 (j : Nat) = rd_T119 L (j : Nat))
    (Post := fun r : Int × List Stp => r.1 = ms L L.length ∧ r.2.length = L.length ∧ ∀ j : Nat, j < L.length → goodM L r.2 j)
    (fun s h => by
      refine ⟨s, ?_, h.2.1, h.1, h.2.2.1⟩
      refine Ev.step (fun _ => rfl) ?_
      simp only [laws_markStepS.l0]
      exact ev_neg (by omega) (ev_some _))
    (fun i s hi h => by
      obtain ⟨h1, h2, h3, h4⟩ := h
      have hb := ms_bd L hp i (by omega)
      have hpi := hp i hi
      have e0 := h4 i (Nat.le_refl _)
      obtain ⟨l', g1, g2, g3⟩ := mark_texts (rd_T119 L (i : Nat)).f1 (by omega) (ms L i + 1) (by omega)
      refine .inr ⟨(ms L i + 1 + ((rd_T119 L (i : Nat)).f1.length : Int), s.2.set i ⟨ms L i, l'⟩), ⟨by simpa using h1, rfl, fun j hj => ?_, fun j hj => ?_⟩, fun r hr => ?_⟩
      · unfold goodM
        rw [stp_set _ (by omega)]
        by_cases hji : i = j
        · subst hji
          rw [if_pos rfl]
          exact ⟨rfl, g2, fun t ht => g3 t (by rw [← g2]; exact ht)⟩
        · rw [if_neg hji]
          exact h3 j (by omega)
      · show rd_T119 (s.2.set i ⟨ms L i, l'⟩) (j : Nat) = _
        rw [stp_set _ (by omega), if_neg (by omega)]
        exact h4 j (by omega)
      · refine Ev.step (fun _ => rfl) ?_
        simp only [laws_markStepS.l0]
        refine ev_pos (by omega) (ev_pos (by omega) ?_)
        rw [e0, h2, wrap_id (x := ms L i + 1) (by omega) (by omega)]
        refine ev_bind g1 ?_
        rw [wrap_succ hi (by omega), Int.toNat_natCast]
        exact hr)
    L.length 0 (1, L) (by omega) ⟨rfl, rfl, fun j hj => by omega, fun j _ => rfl⟩
  obtain ⟨r, h1, h2, h3, h4⟩ := h
  refine ⟨r.2, ?_, ?_⟩
  · unfold laws_markStepS.f
    refine ev_eq h1 ?_
    rw [← h2]
  · unfold laws_heldStepS.f
    have h := ev_pass (F := fun k x => laws_heldStepS.l0 k r.2 (ms L x.toNat) x) (n := L.length) (R := ms L L.length)
      (by
        refine Ev.step (fun _ => rfl) ?_
        simp only [laws_heldStepS.l0, Int.toNat_natCast]
        exact ev_neg (by omega) (ev_some _))
      (fun i q hi hq => by
        have hb := ms_bd L hp i (by omega)
        have hpi := hp i hi
        obtain ⟨k1, k2, k3⟩ := h4 i hi
        refine Ev.step (fun _ => rfl) ?_
        simp only [laws_heldStepS.l0, Int.toNat_natCast]
        refine ev_pos (by omega) (ev_pos (by omega) (ev_pos k1 ?_))
        rw [wrap_id (x := ms L i + 1) (by omega) (by omega)]
        refine ev_bind (held_texts _ (by omega) (ms L i + 1) (by omega) k3) (ev_neg (by omega) ?_)
        rw [wrap_succ hi (by omega), k2]
        simp only [Int.toNat_natCast, ms] at hq
        exact hq)
    exact h
theorem pf_flow : ∀ (r : List (List UInt8)) (F : List Stp), flowP F → flowP (pf r F).1
  | [], F, h => h
  | s :: r, F, h => by
    unfold pf
    cases e10 s with
    | none => exact flow_nil
    | some x =>
      show flowP (if flowP (F ++ [x]) then pf r (F ++ [x]) else _).1
      by_cases g : flowP (F ++ [x])
      · rw [if_pos g]; exact pf_flow r _ g
      · rw [if_neg g]; exact flow_nil
theorem PF_flow (l : List UInt8) : flowP (PF l).1 := by
  unfold PF
  split
  · exact flow_nil
  · exact pf_flow _ _ flow_nil
end Go.Proofs.Ytjnmfadnkbflfaa.PFnExactParseFlow
namespace Go.Proofs.Ytjnmfadnkbflfaa.Pure
open Go Go.RowKit Go.Proofs.Ytjnmfadnkbflfaa.PFnExactParseFlow Go.Proofs.YtjnmfadnkbflfaaW.PrintWords Go.Proofs.YtjnmfadnkbflfaaW.PrintLast Go.Proofs.Ytjnmfadnkbflfaa.MapWords Go.Proofs.Ytjnmfadnkbflfaa.EvWords
theorem FnExactParseFlow : laws_FnExactParseFlow.Pure := by
  intro a0 h0
  apply Ev.rounds
  unfold laws_FnExactParseFlow.f
  by_cases hz : (a0.size : Int) > 1048576
  · exact ev_pos hz (ev_some _)
  · have hsp := specParse a0.toList
    have him := implParse a0.toList
    have hf := PF_flow a0.toList
    rw [B_of] at hsp him
    generalize PF a0.toList = R at hsp him hf
    have hl : R.1.length ≤ 20 := hf.1
    have hr : ∀ i : Nat, i < R.1.length → (rd_T119 R.1 (i : Nat)).f1.length ≤ 1000 := fun i hi => by
      have h8 : (rd_T119 R.1 (i : Nat)).f1.length ≤ 8 := (hf.2 i hi).1.2.1.2
      omega
    have eeF := ee_StepS R.1 ⟨by omega, fun y hy => by
      have h8 : y.f1.length ≤ 8 := (flow_mem hf y hy).2.1.2
      unfold lk_Step
      omega⟩
    have hb := ms_bd R.1 hr R.1.length (Nat.le_refl _)
    obtain ⟨K, m1, m2⟩ := mark_steps R.1 (by omega) hr
    have j1 : ∀ b : Bool, b = false → Ev (fun k => laws_FnExactParseFlow.j1 k K (ms R.1 R.1.length) b) true := by
      intro b hb2
      refine Ev.step (fun _ => rfl) ?_
      simp only [laws_FnExactParseFlow.j1]
      exact ev_neg (by simp [hb2]) (ev_bind m2 (ev_neg (by omega) (ev_pos rfl (ev_some _))))
    have j0 : ∀ b : Bool, b = false → Ev (fun k => laws_FnExactParseFlow.j0 k a0 R.1 R.2 R.1 b) true := by
      intro b hb2
      refine Ev.step (fun _ => rfl) ?_
      simp only [laws_FnExactParseFlow.j0]
      exact ev_neg (by simp [hb2]) (ev_bind m1 (ev_bind m2 (ev_neg (by omega) (ev_pos rfl (ev_bind him (ev_bind eeF (ev_pos rfl (j1 _ (by simp)))))))))
    exact ev_neg hz (ev_bind hsp (ev_bind him (ev_bind eeF (ev_pos rfl (j0 _ (by simp))))))
end Go.Proofs.Ytjnmfadnkbflfaa.Pure
