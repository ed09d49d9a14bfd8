import Derived.Test.YtfkakbpjddgmeaaFDrawFlowFnFlowBack
set_option linter.unusedVariables false
set_option linter.unusedSimpArgs false
namespace Go.Proofs.Ytfkakbpjddgmeaa.Pure
open Go Go.RowKit Go.Proofs.Ytfkakbpjddgmeaa.PFnFlowBack Go.Proofs.YtfkakbpjddgmeaaW.PrintWords Go.Proofs.YtfkakbpjddgmeaaW.PrintLast Go.Proofs.Ytfkakbpjddgmeaa.MapWords Go.Proofs.Ytfkakbpjddgmeaa.EvWords
open Classical
theorem back_same (F : List Stp) (T : ByteArray) (hl : F.length ≤ 20) (hr : ∀ y ∈ F, y.f1.length ≤ 1000) (hT : Ev (fun k => impl_ShowFlow.f k F) T) : Ev (fun k => laws_FnFlowBack.l0 k F T F 0) true := by
  refine ev_pass (n := F.length) ?_ (fun i r hi h => ?_)
  · refine Ev.step (fun _ => rfl) ?_
    simp only [laws_FnFlowBack.l0]
    exact ev_neg (by omega) (ev_bind hT (ev_eq (ev_some _) (by simp)))
  · have hr2 := hr (st F i) (mem_rd hi)
    have inner : Ev (fun k => laws_FnFlowBack.l1 k F T F (i : Int) 0) r := by
      refine ev_pass (n := (st F i).f1.length) ?_ (fun j q hj h2 => ?_)
      · refine Ev.step (fun _ => rfl) ?_
        simp only [laws_FnFlowBack.l1, st_rd]
        refine ev_pos (by omega) (ev_pos (by omega) (ev_neg (by omega) ?_))
        rw [wrap_succ hi (by omega)]
        exact h
      · refine Ev.step (fun _ => rfl) ?_
        simp only [laws_FnFlowBack.l1, st_rd]
        refine ev_pos (by omega) (ev_pos (by omega) (ev_pos (by omega) (ev_pos (by omega) (ev_pos (by omega) (ev_pos (by omega) (ev_pos trivial ?_))))))
        rw [wrap_succ hj (by omega)]
        exact h2
    have hj : ∀ b : Bool, b = false → Ev (fun k => laws_FnFlowBack.j3 k F T F (i : Int) b) r := by
      intro b hb
      refine Ev.step (fun _ => rfl) ?_
      simp only [laws_FnFlowBack.j3]
      exact ev_neg (by simp [hb]) inner
    refine Ev.step (fun _ => rfl) ?_
    simp only [laws_FnFlowBack.l0]
    exact ev_pos (by omega) (ev_pos (by omega) (ev_pos (by omega) (ev_pos trivial (hj _ (by simp)))))
theorem FnFlowBack : laws_FnFlowBack.Pure := by
  intro l hl _ _
  apply Ev.rounds
  unfold laws_FnFlowBack.f
  by_cases hz : l.length ≤ 1048576
  · have hbig : laws_big.f l = some false := by
      unfold laws_big.f
      congr 1
      exact decide_eq_false (by omega)
    obtain ⟨F, hF, hF1, hF2⟩ := drawShow l hz
    have hs : ∀ x ∈ F, x.f1.length ≤ 1048576 ∧ ∀ y ∈ x.f1, y.size ≤ 1048576 := fun x hx => ⟨by have := (hF2 x hx).1; omega, fun y hy => by have := (hF2 x hx).2 y hy; omega⟩
    have him := implShow F hs
    have hsp := specShow F (fun x hx => (hs x hx).2) (by omega)
    refine ev_bind0 hbig (ev_neg (by decide) (ev_bind hF (ev_bind him (ev_bind hsp (ev_pos rfl ?_)))))
    have jt : ∀ (T : ByteArray), Ev (fun k => spec_ShowFlow.f k F) T → ∀ b : Bool, b = true → Ev (fun k => laws_FnFlowBack.j0 k F T b) true := by
      intro T hT b hb
      refine Ev.step (fun _ => rfl) ?_
      simp only [laws_FnFlowBack.j0]
      exact ev_pos hb (ev_bind hT (ev_eq (ev_some _) (by simp)))
    by_cases hP : flowP F ∧ (txt F).length ≤ 2000
    · rw [if_pos hP] at him hsp ⊢
      have jf : ∀ b : Bool, b = false → Ev (fun k => laws_FnFlowBack.j0 k F (B (txt F)) b) true := by
        intro b hb
        have j1 : ∀ c : Bool, c = false → Ev (fun k => laws_FnFlowBack.j1 k F (B (txt F)) F c) true := by
          intro c hc
          refine Ev.step (fun _ => rfl) ?_
          simp only [laws_FnFlowBack.j1]
          exact ev_neg (by simp [hc]) (back_same F _ (by omega) (fun y hy => by have := (hF2 y hy).1; omega) him)
        refine Ev.step (fun _ => rfl) ?_
        simp only [laws_FnFlowBack.j0]
        exact ev_neg (by simp [hb]) (ev_bind (parseExact F hP.1 hP.2) (ev_pos rfl (j1 _ (by simp))))
      generalize hc : ((B (txt F)).toList == ([] : List UInt8)) = c
      cases c with
      | true => exact jt _ hsp _ rfl
      | false => exact jf _ rfl
    · rw [if_neg hP] at him hsp ⊢
      exact jt _ hsp _ (by rw [B_list]; rfl)
  · have hbig : laws_big.f l = some true := by
      unfold laws_big.f
      congr 1
      exact decide_eq_true (by omega)
    exact ev_bind0 hbig (ev_pos rfl (ev_some _))
end Go.Proofs.Ytfkakbpjddgmeaa.Pure
