import Derived.Test.YtnbecbgpefmcoaaVVoidFnExactVoid
import Derived.Test.YtnbecbgpefmcoaaVExFnExactVoid
set_option linter.unusedVariables false
set_option linter.unusedSimpArgs false
namespace Go.Proofs.Ytnbecbgpefmcoaa.Pure
open Go Go.RowKit Go.Proofs.Ytnbecbgpefmcoaa.PFnExactVoid Go.Proofs.YtnbecbgpefmcoaaW.PrintWords Go.Proofs.YtnbecbgpefmcoaaW.PrintLast Go.Proofs.Ytnbecbgpefmcoaa.MapWords Go.Proofs.Ytnbecbgpefmcoaa.EvWords
theorem FnExactVoid : laws_FnExactVoid.Pure := by
  intro l0 l1 a1 h0 h1 h2
  apply Ev.rounds
  unfold laws_FnExactVoid.f
  obtain ⟨t, e1, _, e3⟩ := zz_Register ⟨l0, l1⟩ 1048576 (by omega) (by omega) ⟨h0, h1⟩
  refine ev_bind e1 ?_
  by_cases ht : t < 0
  · exact ev_pos ht (ev_some _)
  · have hs := e3 (by omega)
    have hto : Ev (fun k => laws_toRegister.f k l0 l1) (l0.map cv_Series, l1.map cv_Paper) := tt_Register ⟨l0, l1⟩ hs
    have hS : (l0.map cv_Series).length ≤ 1048576 := by rw [List.length_map]; exact hs.1.1
    have hP : (l1.map cv_Paper).length ≤ 1048576 := by rw [List.length_map]; exact hs.2.1
    have hsz : ∀ i : Nat, i < (l0.map cv_Series).length → (rd_T304 (l0.map cv_Series) i).f0.size ≤ 9223372036854775807 := by
      intro i hi
      have hi' : i < l0.length := by simpa using hi
      have := hs.1.2 _ (List.getElem_mem hi')
      unfold sm_Series at this
      simp only [rd_T304, Int.toNat_natCast, List.getD_eq_getElem?_getD, List.getElem?_map, List.getElem?_eq_getElem hi', Option.map_some, Option.getD_some, cv_Series]
      omega
    have hpz : ∀ i : Nat, i < (l1.map cv_Paper).length → (-9223372036854775808 ≤ (rd_T230 (l1.map cv_Paper) i).f0 ∧ (rd_T230 (l1.map cv_Paper) i).f0 ≤ 9223372036854775807) ∧ (-9223372036854775808 ≤ (rd_T230 (l1.map cv_Paper) i).f2 ∧ (rd_T230 (l1.map cv_Paper) i).f2 ≤ 9223372036854775807) := by
      intro i hi
      have hi' : i < l1.length := by simpa using hi
      have hw := h1.2 _ (List.getElem_mem hi')
      simp only [rd_T230, Int.toNat_natCast, List.getD_eq_getElem?_getD, List.getElem?_map, List.getElem?_eq_getElem hi', Option.map_some, Option.getD_some, cv_Paper]
      exact ⟨wf_int hw.1, wf_int hw.2.2.1⟩
    generalize hSe : l0.map cv_Series = S at hto hS hsz
    generalize hPe : l1.map cv_Paper = P at hto hP hpz
    refine ev_neg ht (ev_bind hto ?_)
    have hsp := spec_void S hsz P (by omega) (by omega) a1
    have him := impl_void S hsz P hpz (by omega) (by omega) a1
    obtain ⟨k1, k2⟩ := void_len S P a1
    generalize voidR S P a1 = R at hsp him k1 k2
    obtain ⟨R1, R2, R3⟩ := R
    simp only at k1 k2
    have eeR : Ev (fun k => laws_eqRegister.f k R1 R2 R1 R2) true := ee_Register ⟨R1, R2⟩ ⟨⟨by simp only; omega, fun _ _ => trivial⟩, by simp only; omega, fun _ _ => trivial⟩
    have eeS : Ev (fun k => laws_eqRegister.f k S P S P) true := ee_Register ⟨S, P⟩ ⟨⟨by simp only; omega, fun _ _ => trivial⟩, by simp only; omega, fun _ _ => trivial⟩
    obtain ⟨R1', R2', mR, hR⟩ := mark_reg R1 R2 (by omega) (by omega)
    obtain ⟨S', P', mS, _⟩ := mark_reg S P (by omega) (by omega)
    have j2 : ∀ b : Bool, b = false → Ev (fun k => laws_FnExactVoid.j2 k (1 + 2 * (R1.length : Int) + 4 * R2.length) b R1' R2') true := by
      intro b hb
      refine Ev.step (fun _ => rfl) ?_
      exact ev_neg (by simp [hb]) (ev_bind hR (ev_neg (by omega) (ev_pos rfl (ev_some _))))
    have j1 : ∀ b : Bool, b = false → Ev (fun k => laws_FnExactVoid.j1 k a1 R3 b l0 l1 R1 R2 R1 R2) true := by
      intro b hb
      refine Ev.step (fun _ => rfl) ?_
      exact ev_neg (by simp [hb]) (ev_bind mR (ev_bind hR (ev_neg (by omega) (ev_pos rfl (ev_bind hto (ev_bind him (ev_bind eeR (ev_pos rfl (j2 _ (by simp))))))))))
    have j0 : ∀ b : Bool, b = false → Ev (fun k => laws_FnExactVoid.j0 k a1 R3 R3 b l0 l1 R1 R2 S P R1 R2) true := by
      intro b hb
      refine Ev.step (fun _ => rfl) ?_
      exact ev_neg (by simp [hb]) (ev_bind hto (ev_bind eeS (ev_pos rfl (ev_bind mS (ev_neg (by simp only; omega) (ev_bind eeR (ev_pos rfl (j1 _ (by simp)))))))))
    exact ev_bind hsp (ev_bind hto (ev_bind him (ev_bind eeR (ev_pos rfl (j0 _ (by simp))))))
end Go.Proofs.Ytnbecbgpefmcoaa.Pure
