import Derived.Test.YtnbecbgpefmcoaaGGrpFnExactGroupOk
import Derived.Test.YtnbecbgpefmcoaaGExFnExactGroupOk
set_option linter.unusedVariables false
set_option linter.unusedSimpArgs false
namespace Go.Proofs.Ytnbecbgpefmcoaa.Pure
open Go Go.RowKit Go.Proofs.Ytnbecbgpefmcoaa.PFnExactGroupOk Go.Proofs.YtnbecbgpefmcoaaW.PrintWords Go.Proofs.YtnbecbgpefmcoaaW.PrintLast Go.Proofs.Ytnbecbgpefmcoaa.MapWords Go.Proofs.Ytnbecbgpefmcoaa.EvWords
theorem FnExactGroupOk : laws_FnExactGroupOk.Pure := by
  intro l0 a1 l2 a3 a4 h0 h1 h2 h3 h4
  apply Ev.rounds
  unfold laws_FnExactGroupOk.f
  obtain ⟨t, e1, _, e3⟩ := zz_Group ⟨l0, a1, l2, a3, a4⟩ 1048576 (by omega) (by omega) ⟨h0, h1, h2, h3, h4⟩
  refine ev_bind e1 ?_
  by_cases ht : t < 0
  · exact ev_pos ht (ev_some _)
  · have hs := e3 (by omega)
    have hto := tt_Group ⟨l0, a1, l2, a3, a4⟩ hs
    refine ev_neg ht (ev_bind hto ?_)
    have hsz : ∀ i : Nat, i < (l0.map cv_Account).length → (rd_T251 (l0.map cv_Account) i).f0.size ≤ 9223372036854775807 := by
      intro i hi
      have hi' : i < l0.length := by simpa using hi
      have := hs.1.2 _ (List.getElem_mem hi')
      unfold sm_Account at this
      simp only [rd_T251, Int.toNat_natCast, List.getD_eq_getElem?_getD, List.getElem?_map, List.getElem?_eq_getElem hi', Option.map_some, Option.getD_some, cv_Account]
      omega
    have w3 := wf_int h3
    have w4 := wf_int h4
    refine ev_bind (specGroup _ hsz _ _ _ _) ?_
    refine ev_bind hto ?_
    refine ev_bind (implGroup _ hsz _ _ _ _ w3 w4) ?_
    refine ev_neg (by simp) ?_
    refine ev_bind hto ?_
    have hlk : lk_Group (cv_Group ⟨l0, a1, l2, a3, a4⟩) := by
      have g1 := hs.1.1
      have g2 := hs.2.1
      refine ⟨⟨by simp [cv_Group]; simp at g1; omega, fun y _ => trivial⟩, by simp [cv_Group]; simp at g2; omega, fun y hy => ?_⟩
      obtain ⟨x, hx, rfl⟩ := List.mem_map.1 hy
      have := hs.2.2 x hx
      unfold sm_Member at this
      simp only [lk_Member, cv_Member]
      omega
    exact ev_bind (ee_Group _ hlk) (ev_pos rfl (ev_some _))
end Go.Proofs.Ytnbecbgpefmcoaa.Pure
