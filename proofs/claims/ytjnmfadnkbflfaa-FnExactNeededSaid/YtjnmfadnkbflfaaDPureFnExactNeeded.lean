import Derived.Test.YtjnmfadnkbflfaaDEvWords
import Derived.Test.YtjnmfadnkbflfaaDPFnExactNeededx
import Derived.Test.YtjnmfadnkbflfaaDNeededFnExactNeeded
import Derived.Test.YtjnmfadnkbflfaaDMarkTextsFnExactNeeded
set_option linter.unusedVariables false
set_option linter.unusedSimpArgs false
namespace Go.Proofs.Ytjnmfadnkbflfaa.PFnExactNeeded
open Go Go.RowKit Go.Proofs.YtjnmfadnkbflfaaW.PrintWords Go.Proofs.YtjnmfadnkbflfaaW.PrintLast Go.Proofs.Ytjnmfadnkbflfaa.MapWords Go.Proofs.Ytjnmfadnkbflfaa.EvWords
theorem zz_StringS (l : List ByteArray) (left : Int) (h0 : 0 ≤ left) (h1 : left ≤ 1048576) (hw : l.length ≤ maxLen ∧ ∀ y ∈ l, y.size ≤ maxLen) : Z (fun k => laws_szStringS.f k l left) left (l.length ≤ 1048576 ∧ ∀ y ∈ l, y.size ≤ 1048576) := by
  unfold laws_szStringS.f
  refine z_mono (z_len _ hw.1 h0 h1 (fun e g => by
    rw [e]
    refine z_loop (F := fun k s x => laws_szStringS.l0 k l s x) (n := l.length) (P := fun i => (l.getD i ByteArray.empty).size ≤ 1048576) _ g (by omega) (fun s => ?_) (fun i s hi hs0 hs1 => ?_)
    · refine Ev.step (fun _ => rfl) ?_
      exact ev_neg (by omega) (ev_some _)
    · skip
      have hz := hw.2 _ (mem_rd (z := ByteArray.empty) hi)
      simp only [maxLen] at hz
      have hq : wrap64 (s - ((rdOf ByteArray.empty l i).size : Int)) = s - ((rdOf ByteArray.empty l i).size : Int) := wrap_id (by show _ ≤ s - ((l.getD i ByteArray.empty).size : Int); omega) (by show s - ((l.getD i ByteArray.empty).size : Int) ≤ _; omega)
      refine ⟨s - ((l.getD i ByteArray.empty).size : Int), by omega, fun ht => by omega, fun ht => ?_, fun ht r hr => ?_⟩
      · refine Ev.step (fun _ => rfl) ?_
        exact ev_pos (by omega) (ev_pos (by omega) (ev_pos (by rw [hq]; exact ht) (ev_some _)))
      · refine Ev.step (fun _ => rfl) ?_
        refine ev_pos (by omega) (ev_pos (by omega) (ev_neg (by rw [hq]; show ¬ s - ((l.getD i ByteArray.empty).size : Int) < 0; omega) ?_))
        rw [hq, wrap_succ hi (by simp only [maxLen] at hw; omega)]
        exact hr
)) ?_
  rintro ⟨h, hg⟩
  exact ⟨h, of_mem_rd hg⟩
theorem tt_StringS (l : List ByteArray) (hs : l.length ≤ 1048576 ∧ ∀ y ∈ l, y.size ≤ 1048576) : Ev (fun k => laws_toStringS.f k l) l := by
  unfold laws_toStringS.f
  refine ev_pos (by omega) (ev_pos (by omega) ?_)
  refine ev_eq (ev_map (F := fun k ys x => laws_toStringS.l0 k l ys x) (xs := l) (f := (fun x => x)) (z := ByteArray.empty) (fun ys hy => ?_) (fun i ys r hi hy hr => ?_) _ (by simp)) ?_
  · refine Ev.step (fun _ => rfl) ?_
    exact ev_neg (by omega) (ev_some _)
  · skip
    refine Ev.step (fun _ => rfl) ?_
    refine ev_pos (by omega) (ev_pos (by omega) (ev_pos (by omega) ?_))
    rw [wrap_succ hi (by have := hs.1; omega)]
    exact hr
  · simp
theorem ee_StringS (l : List ByteArray) (h : l.length ≤ 4611686018427387904) : Ev (fun k => laws_eqStringS.f k l l) true := by
  unfold laws_eqStringS.f
  refine ev_pos rfl ?_
  refine ev_pass (F := fun k x => laws_eqStringS.l0 k l l x) (n := l.length) ?_ (fun i r hi hr => ?_)
  · refine Ev.step (fun _ => rfl) ?_
    exact ev_neg (by omega) (ev_some _)
  · refine Ev.step (fun _ => rfl) ?_
    refine ev_pos (by omega) (ev_pos (by omega) (ev_pos (by omega) (ev_pos rfl ?_)))
    rw [wrap_succ hi (by have := h; omega)]
    exact hr
def cv_Step (x : S116) : S119 := ⟨x.f0, x.f1⟩
def sm_Step (x : S116) : Prop := (x.f1.length ≤ 1048576 ∧ ∀ y ∈ x.f1, y.size ≤ 1048576)
theorem zz_Step (x : S116) (left : Int) (h0 : 0 ≤ left) (h1 : left ≤ 1048576) (hw : wf116 x) : Z (fun k => laws_szStep.f k x.f0 x.f1 left) left (sm_Step x) := by
  unfold laws_szStep.f
  unfold wf116 at hw
  refine z_mono (z_call (by omega) (zz_StringS _ _ (by omega) (by omega) hw.2) (fun t1 g1 k1 => z_end)) ?_
  rintro ⟨h1, _⟩
  exact h1
theorem tt_Step (x : S116) (hs : sm_Step x) : Ev (fun k => laws_toStep.f k x.f0 x.f1) ((cv_Step x).f0, (cv_Step x).f1) := by
  unfold laws_toStep.f
  unfold sm_Step at hs
  refine ev_bind (tt_StringS _ hs) ?_
  exact ev_some _
def lk_Step (x : S119) : Prop := (x.f1.length ≤ 4611686018427387904)
theorem ee_Step (x : S119) (h : lk_Step x) : Ev (fun k => laws_eqStep.f k x.f0 x.f1 x.f0 x.f1) true := by
  unfold laws_eqStep.f
  have h1 := h
  refine ev_pos rfl ?_
  refine ev_bind (ee_StringS _ h1) (ev_pos rfl ?_)
  exact ev_some _
theorem zz_StepS (l : List S116) (left : Int) (h0 : 0 ≤ left) (h1 : left ≤ 1048576) (hw : l.length ≤ maxLen ∧ ∀ y ∈ l, wf116 y) : Z (fun k => laws_szStepS.f k l left) left (l.length ≤ 1048576 ∧ ∀ y ∈ l, sm_Step y) := by
  unfold laws_szStepS.f
  refine z_mono (z_len _ hw.1 h0 h1 (fun e g => by
    rw [e]
    refine z_loop (F := fun k s x => laws_szStepS.l0 k l s x) (n := l.length) (P := fun i => sm_Step (l.getD i z116)) _ g (by omega) (fun s => ?_) (fun i s hi hs0 hs1 => ?_)
    · refine Ev.step (fun _ => rfl) ?_
      exact ev_neg (by omega) (ev_some _)
    · skip
      obtain ⟨t, g1, g2, g3⟩ := zz_Step (rd_T116 l i) s hs0 hs1 (hw.2 _ (mem_rd hi))
      refine ⟨t, g2, g3, fun ht => ?_, fun ht r hr => ?_⟩
      · refine Ev.step (fun _ => rfl) ?_
        exact ev_pos (by omega) (ev_pos (by omega) (ev_bind g1 (ev_pos ht (ev_some _))))
      · refine Ev.step (fun _ => rfl) ?_
        refine ev_pos (by omega) (ev_pos (by omega) (ev_bind g1 (ev_neg (by omega) ?_)))
        rw [wrap_succ hi (by simp only [maxLen] at hw; omega)]
        exact hr
)) ?_
  rintro ⟨h, hg⟩
  exact ⟨h, of_mem_rd hg⟩
theorem tt_StepS (l : List S116) (hs : l.length ≤ 1048576 ∧ ∀ y ∈ l, sm_Step y) : Ev (fun k => laws_toStepS.f k l) (l.map cv_Step) := by
  unfold laws_toStepS.f
  refine ev_pos (by omega) (ev_pos (by omega) ?_)
  refine ev_eq (ev_map (F := fun k ys x => laws_toStepS.l0 k l ys x) (xs := l) (f := cv_Step) (z := z116) (fun ys hy => ?_) (fun i ys r hi hy hr => ?_) _ (by simp)) ?_
  · refine Ev.step (fun _ => rfl) ?_
    exact ev_neg (by omega) (ev_some _)
  · skip
    refine Ev.step (fun _ => rfl) ?_
    refine ev_pos (by omega) (ev_pos (by omega) (ev_bind (tt_Step _ (hs.2 _ (mem_rd hi))) (ev_pos (by omega) ?_)))
    rw [wrap_succ hi (by have := hs.1; omega)]
    exact hr
  · rfl
theorem ee_StepS (l : List S119) (h : l.length ≤ 4611686018427387904 ∧ ∀ y ∈ l, lk_Step y) : Ev (fun k => laws_eqStepS.f k l l) true := by
  unfold laws_eqStepS.f
  refine ev_pos rfl ?_
  refine ev_pass (F := fun k x => laws_eqStepS.l0 k l l x) (n := l.length) ?_ (fun i r hi hr => ?_)
  · refine Ev.step (fun _ => rfl) ?_
    exact ev_neg (by omega) (ev_some _)
  · refine Ev.step (fun _ => rfl) ?_
    refine ev_pos (by omega) (ev_pos (by omega) (ev_pos (by omega) (ev_bind (ee_Step _ (h.2 _ (mem_rd hi))) (ev_pos rfl ?_))))
    rw [wrap_succ hi (by have := h.1; omega)]
    exact hr
end Go.Proofs.Ytjnmfadnkbflfaa.PFnExactNeeded

set_option linter.unusedVariables false
set_option linter.unusedSimpArgs false
namespace Go.Proofs.Ytjnmfadnkbflfaa.PFnExactNeeded
open Go Go.RowKit Go.Proofs.YtjnmfadnkbflfaaW.PrintWords Go.Proofs.YtjnmfadnkbflfaaW.PrintLast Go.Proofs.Ytjnmfadnkbflfaa.MapWords Go.Proofs.Ytjnmfadnkbflfaa.EvWords
theorem q_ev (n : Nat) (hn : n ≤ 1048576) (m : Int) (hm : 0 ≤ m ∧ m ≤ 1000000000000000) : Ev (fun k => laws_markStringS.q k n m 0) (m + n) := by
  have := ev_pass (F := fun k x => laws_markStringS.q k n (m + x) x) (n := n) (R := m + n)
    (by
      refine Ev.step (fun _ => rfl) ?_
      exact ev_neg (by omega) (ev_some _))
    (fun i r hi hr => by
      refine Ev.step (fun _ => rfl) ?_
      refine ev_pos (by omega) (ev_pos (by omega) (ev_bind (mtx_ev (by omega)) ?_))
      rw [wrap_id (x := m + (i : Int) + 1) (by omega) (by omega), wrap_succ hi (by omega)]
      rw [show m + (i : Int) + 1 = m + ((i + 1 : Nat) : Int) by omega]
      exact hr)
  simpa using this
theorem mark_steps (L : List S119) (hl : L.length ≤ 1048576) (hp : ∀ i : Nat, i < L.length → (rd_T119 L (i : Nat)).f1.length ≤ 1048576) : ∃ r, Ev (fun k => laws_markStepS.f k L 1) r ∧ 0 ≤ r := by
  have := ev_run (F := fun k (s : Int) i => laws_markStepS.l0 k L s i) (n := L.length) (I := fun i s => 0 ≤ s ∧ s ≤ 1 + 12582915 * (i : Int)) (Post := fun r : Int => 0 ≤ r)
    (fun s h => by
      refine ⟨s, ?_, h.1⟩
      refine Ev.step (fun _ => rfl) ?_
      exact ev_neg (by omega) (ev_some _))
    (fun i s hi h => by
      have h1 := hp i hi
      obtain ⟨h3, h4⟩ := h
      refine .inr ⟨s + 1 + ((rd_T119 L (i : Nat)).f1.length : Int), ⟨by omega, by omega⟩, fun r hr => ?_⟩
      refine Ev.step (fun _ => rfl) ?_
      refine ev_pos (by omega) (ev_pos (by omega) ?_)
      rw [wrap_id (x := s + 1) (by omega) (by omega)]
      refine ev_bind (q_ev _ h1 _ (by omega)) ?_
      rw [wrap_succ hi (by omega)]
      exact hr)
    L.length 0 1 (by omega) ⟨by omega, by omega⟩
  exact this
end Go.Proofs.Ytjnmfadnkbflfaa.PFnExactNeeded
namespace Go.Proofs.Ytjnmfadnkbflfaa.Pure
open Go Go.RowKit Go.Proofs.Ytjnmfadnkbflfaa.PFnExactNeeded Go.Proofs.YtjnmfadnkbflfaaW.PrintWords Go.Proofs.YtjnmfadnkbflfaaW.PrintLast Go.Proofs.Ytjnmfadnkbflfaa.MapWords Go.Proofs.Ytjnmfadnkbflfaa.EvWords
theorem FnExactNeeded : laws_FnExactNeeded.Pure := by
  intro l0 a1 h0 h1
  apply Ev.rounds
  unfold laws_FnExactNeeded.f
  obtain ⟨t, e1, _, e3⟩ := zz_StepS l0 1048576 (by omega) (by omega) h0
  refine ev_bind e1 ?_
  by_cases ht : t < 0
  · exact ev_pos ht (ev_some _)
  · have hs := e3 (by omega)
    have hto := tt_StepS l0 hs
    have hF : ∀ x ∈ l0.map cv_Step, x.f1.length ≤ 1048576 ∧ ∀ y ∈ x.f1, y.size ≤ 1048576 := by
      intro x hx
      obtain ⟨y, hy, rfl⟩ := List.mem_map.1 hx
      exact hs.2 y hy
    have hl : (l0.map cv_Step).length ≤ 1048576 := by rw [List.length_map]; exact hs.1
    have hlk : ∀ y ∈ l0.map cv_Step, lk_Step y := fun y hy => by
      have := (hF y hy).1
      unfold lk_Step
      omega
    generalize l0.map cv_Step = F at hto hF hl hlk
    obtain ⟨hsp, hln⟩ := specNeeded F a1 hF hl
    have him := implNeeded F a1 hF hl
    generalize needs F a1 = R at hsp him hln
    have eeR : Ev (fun k => laws_eqStringS.f k R R) true := ee_StringS R (by omega)
    have eeF := ee_StepS F ⟨by omega, hlk⟩
    obtain ⟨q, mq, hq⟩ := mark_steps F hl (fun i hi => (hF _ (mem_rd hi)).1)
    obtain ⟨R', m1, m2, m3⟩ := mark_texts R (by omega) 1 (by omega)
    have hh : Ev (fun k => laws_heldStringS.f k R' 1) (1 + R.length) := by
      have := held_texts R' (by omega) 1 (by omega) (fun j hj => m3 j (by omega))
      rw [m2] at this
      exact this
    have j0 : ∀ b : Bool, b = false → Ev (fun k => laws_FnExactNeeded.j0 k l0 a1 R R b) true := by
      intro b hb
      refine Ev.step (fun _ => rfl) ?_
      exact ev_neg (by simp [hb]) (ev_bind m1 (ev_bind hh (ev_neg (by omega) (ev_pos rfl (ev_bind hto (ev_bind him (ev_bind eeR (ev_pos rfl (ev_bind hh (ev_neg (by omega) (ev_pos rfl (ev_some _))))))))))))
    exact ev_neg ht (ev_bind hto (ev_bind hsp (ev_bind hto (ev_bind him (ev_bind eeR (ev_pos rfl (ev_bind hto (ev_bind eeF (ev_pos rfl (ev_bind mq (ev_neg (by omega) (ev_bind eeR (j0 _ (by simp))))))))))))))
end Go.Proofs.Ytjnmfadnkbflfaa.Pure
