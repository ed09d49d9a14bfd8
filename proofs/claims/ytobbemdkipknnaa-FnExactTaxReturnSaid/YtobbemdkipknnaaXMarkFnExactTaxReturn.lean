import Derived.Test.YtobbemdkipknnaaXEvWords
import Derived.Test.YtobbemdkipknnaaXPFnExactTaxReturnx
set_option linter.unusedVariables false
set_option linter.unusedSimpArgs false
namespace Go.Proofs.Ytobbemdkipknnaa.PFnExactTaxReturn
open Go Go.RowKit Go.Proofs.YtobbemdkipknnaaW.PrintWords Go.Proofs.YtobbemdkipknnaaW.PrintLast Go.Proofs.Ytobbemdkipknnaa.MapWords Go.Proofs.Ytobbemdkipknnaa.EvWords
open Classical
theorem mark_loop : ∀ (n : Nat) (s : ByteArray), n + s.size ≤ 4611686018427387904 → ∃ t, Ev (fun k => laws_markText.l0 k (n : Int) s) t := by
  intro n
  induction n using Nat.strongRecOn with
  | _ n ih =>
    intro s hs
    by_cases h : n = 0
    · subst h
      refine ⟨(⟨#[109]⟩ : ByteArray) ++ s, ?_⟩
      refine Ev.step (fun _ => rfl) ?_
      exact ev_neg (by omega) (ev_pos (by omega) (ev_some _))
    · have e1 : wrap64 (Int.tdiv (n : Int) 10) = ((n / 10 : Nat) : Int) := by
        rw [Int.tdiv_eq_ediv_of_nonneg (by omega)]
        exact (wrap_id (by omega) (by omega)).trans (by omega)
      have hz : (strOfNums [wrap64 (48 + Int.tmod (n : Int) 10) % 256]).size = 1 := by simp [strOfNums, ByteArray.size]
      obtain ⟨t, ht⟩ := ih (n / 10) (by omega) (strOfNums [wrap64 (48 + Int.tmod (n : Int) 10) % 256] ++ s) (by rw [ByteArray.size_append, hz]; omega)
      refine ⟨t, ?_⟩
      refine Ev.step (fun _ => rfl) ?_
      refine ev_pos (by omega) (ev_bind0 rfl (ev_pos (by rw [hz]; omega) ?_))
      rw [e1]
      exact ht
theorem mark_some {a : Int} (h : a ≤ 4611686018427387904) : ∃ t, Ev (fun k => laws_markText.f k a) t := by
  unfold laws_markText.f
  by_cases h0 : a ≤ 0
  · exact ⟨_, ev_pos h0 (ev_some _)⟩
  · obtain ⟨t, ht⟩ := mark_loop a.toNat ⟨#[]⟩ (by show a.toNat + 0 ≤ _; omega)
    refine ⟨t, ev_neg h0 ?_⟩
    rw [show ((a.toNat : Nat) : Int) = a by omega] at ht
    exact ht
noncomputable def mtx (a : Int) : ByteArray := if h : ∃ t, Ev (fun k => laws_markText.f k a) t then Classical.choose h else ByteArray.empty
theorem mtx_ev {a : Int} (h : a ≤ 4611686018427387904) : Ev (fun k => laws_markText.f k a) (mtx a) := by
  unfold mtx
  rw [dif_pos (mark_some h)]
  exact Classical.choose_spec (mark_some h)
end Go.Proofs.Ytobbemdkipknnaa.PFnExactTaxReturn
