import Derived.Test.YtjnmfadnkbflfaaOOutputFnExactOutput
import Derived.Test.YtjnmfadnkbflfaaOMarkItemsFnExactOutput
import Derived.Test.YtjnmfadnkbflfaaOMarkIntsFnExactOutput
import Derived.Test.YtjnmfadnkbflfaaOExFnExactOutput
set_option linter.unusedVariables false
set_option linter.unusedSimpArgs false
namespace Go.Proofs.Ytjnmfadnkbflfaa.Pure
open Go Go.RowKit Go.Proofs.Ytjnmfadnkbflfaa.PFnExactOutput Go.Proofs.YtjnmfadnkbflfaaW.PrintWords Go.Proofs.YtjnmfadnkbflfaaW.PrintLast Go.Proofs.Ytjnmfadnkbflfaa.MapWords Go.Proofs.Ytjnmfadnkbflfaa.EvWords
theorem FnExactOutput : laws_FnExactOutput.Pure := by
  intro l0 a1 a2 a3 h0 _ _ _
  apply Ev.rounds
  unfold laws_FnExactOutput.f
  obtain ⟨t, e1, _, e3⟩ := zz_ItemS l0 1048576 (by omega) (by omega) h0
  refine ev_bind e1 ?_
  by_cases ht : t < 0
  · exact ev_pos ht (ev_some _)
  · have hs := e3 (by omega)
    have hto : Ev (fun k => laws_toItemS.f k l0) (l0.map cv_Item) := tt_ItemS l0 hs
    have hL : (l0.map cv_Item).length ≤ 1048576 := by rw [List.length_map]; exact hs.1
    have hit : ∀ x ∈ l0.map cv_Item, x.f0.size ≤ 1048576 ∧ x.f3.length ≤ 1048576 ∧ x.f4.length ≤ 1048576 := by
      intro x hx
      obtain ⟨y, hy, rfl⟩ := List.mem_map.1 hx
      have := hs.2 y hy
      unfold sm_Item at this
      simp only [cv_Item, List.length_map]
      exact ⟨this.1, this.2.1.1, this.2.2.1⟩
    generalize l0.map cv_Item = L at hto hL hit
    have hrd : ∀ i : Nat, i < L.length → (rd_T130 L (i : Nat)).f0.size ≤ 1048576 ∧ (rd_T130 L (i : Nat)).f3.length ≤ 1048576 ∧ (rd_T130 L (i : Nat)).f4.length ≤ 1048576 := fun i hi => hit _ (mem_rd hi)
    have hsz : ∀ i : Nat, i < L.length → (rd_T130 L (i : Nat)).f0.size ≤ 9223372036854775807 := fun i hi => by have := (hrd i hi).1; omega
    have hsp := specOut L hsz a1 a2 a3
    have him := implOut L hsz a1 a2 a3
    have hln := out_len L a1 a2 a3
    generalize outR L a1 a2 a3 = RB at hsp him hln
    obtain ⟨R, b0⟩ := RB
    simp only at hln
    have eeR : Ev (fun k => laws_eqIntS.f k R R) true := ee_IntS R (by omega)
    have eeL : Ev (fun k => laws_eqItemS.f k L L) true := ee_ItemS L ⟨by omega, fun y hy => ⟨⟨by have := (hit y hy).2.1; omega, fun _ _ => trivial⟩, by have := (hit y hy).2.2; omega, fun _ _ => trivial⟩⟩
    obtain ⟨q, mq, hq⟩ := mark_items L hL (fun i hi => (hrd i hi).2)
    obtain ⟨R', m1, m2, m3⟩ := mark_int R (by omega) 1 (by omega)
    have hh : Ev (fun k => laws_heldIntS.f k R' 1) (1 + R.length) := by
      have := held_int R' (by omega) 1 (by omega) (fun j hj => m3 j (by omega))
      rw [m2] at this
      exact this
    have j2 : ∀ b : Bool, b = false → Ev (fun k => laws_FnExactOutput.j2 k R' (1 + R.length) b) true := by
      intro b hb
      refine Ev.step (fun _ => rfl) ?_
      exact ev_neg (by simp [hb]) (ev_bind hh (ev_neg (by omega) (ev_pos rfl (ev_some _))))
    have j1 : ∀ b : Bool, b = false → Ev (fun k => laws_FnExactOutput.j1 k l0 a1 a2 a3 R b0 R b) true := by
      intro b hb
      refine Ev.step (fun _ => rfl) ?_
      exact ev_neg (by simp [hb]) (ev_bind m1 (ev_bind hh (ev_neg (by omega) (ev_pos rfl (ev_bind hto (ev_bind him (ev_bind eeR (ev_pos rfl (j2 _ (by simp))))))))))
    have j0 : ∀ b : Bool, b = false → Ev (fun k => laws_FnExactOutput.j0 k l0 a1 a2 a3 R b0 L R b0 b) true := by
      intro b hb
      refine Ev.step (fun _ => rfl) ?_
      exact ev_neg (by simp [hb]) (ev_bind hto (ev_bind eeL (ev_pos rfl (ev_bind mq (ev_neg (by omega) (ev_bind eeR (ev_pos rfl (j1 _ (by simp)))))))))
    exact ev_neg ht (ev_bind hto (ev_bind hsp (ev_bind hto (ev_bind him (ev_bind eeR (ev_pos rfl (j0 _ (by simp))))))))
end Go.Proofs.Ytjnmfadnkbflfaa.Pure
