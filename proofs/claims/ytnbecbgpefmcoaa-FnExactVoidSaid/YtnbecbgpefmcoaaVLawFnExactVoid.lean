import Derived.Test.YtnbecbgpefmcoaaRows
import Derived.Test.YtnbecbgpefmcoaaVPFnExactVoidx12
import Derived.Test.YtnbecbgpefmcoaaVPureFnExactVoid
import Derived.Test.YtnbecbgpefmcoaaVOpenWords
import Derived.WalkKit
import Derived.ProofKit
import Derived.OpenShut
import Derived.ShutString
import Derived.ChangeOld
import Derived.Below
import Derived.SizedLaws
import Derived.Test.YtnbecbgpefmcoaaVWSized
namespace Go.Proofs.Ytnbecbgpefmcoaa.fnExactVoid
open Go.ChangeShapes Go.WideShapes Go.ChangeAt Go.RowKit Go.Proofs.Ytnbecbgpefmcoaa.PFnExactVoid
open Go.Proofs.Ytnbecbgpefmcoaa.OpenWords Go.Proofs.YtnbecbgpefmcoaaW.PrintWords Go.Proofs.YtnbecbgpefmcoaaW.PrintLast
open Go.ChangeMaps (open_string shut_string)
set_option linter.unusedVariables false
theorem own : ownKnob Try.prog.godebug = none := by kernel_rfl
theorem laidOut : laidOutB Try.prog = true := by kernel_rfl
theorem open303 (w : World) : Opens Try.prog w k303 wf303 303 := by
  have h := opens_struct (P := Try.prog) (w := w) (fun x : S303 => (x.f0, x.f1)) (fun p => ⟨p.1, p.2⟩) (fun _ => rfl) Try.underlying303 (by kernel_rfl) (openF_cons (opens_string Try.underlying9) rfl (by kernel_rfl) (openF_one (opens_int Try.underlying3) rfl (by kernel_rfl)))
  exact h
theorem open307 (w : World) : Opens Try.prog w k307 wf307 307 := by
  have h := opens_struct (P := Try.prog) (w := w) (fun x : S307 => (x.f0, x.f1, x.f2, x.f3)) (fun p => ⟨p.1, p.2.1, p.2.2.1, p.2.2.2⟩) (fun _ => rfl) Try.underlying307 (by kernel_rfl) (openF_cons (opens_int Try.underlying3) rfl (by kernel_rfl) (openF_cons (opens_int Try.underlying3) rfl (by kernel_rfl) (openF_cons (opens_int Try.underlying3) rfl (by kernel_rfl) (openF_one (opens_bool Try.underlying4) rfl (by kernel_rfl)))))
  exact h
theorem open81 (w : World) : Opens Try.prog w k81 wf81 81 := by
  have h := opens_struct (P := Try.prog) (w := w) (fun x : S81 => (x.f0, x.f1)) (fun p => ⟨p.1, p.2⟩) (fun _ => rfl) Try.underlying81 (by kernel_rfl) (openF_cons (opens_slice Try.underlying78 (by kernel_rfl) (open303 _)) rfl (by kernel_rfl) (openF_one (opens_slice Try.underlying79 (by kernel_rfl) (open307 _)) rfl (by kernel_rfl)))
  exact h
set_option maxRecDepth 100000 in
theorem lifted (os : Os) (started : os.Started) (H : Type) (enc : TypeId × Value → H) :
    ReturnsInHanded {} Try.checked os 8 .any (Rows.fnExactVoidSpec.pre6 enc Try.prog Try.f8 Rows.fnExactVoidRow.domain false) (Rows.fnExactVoidSpec.post enc Try.prog Try.f8 false true false false) := by
  refine returnsInHanded_of_change_sized (C := Try.checked) own started (by kernel_rfl) Try.func8
    (ChangeSpec.witness6 (enc := enc) (C := Try.checked) false ⟨#[], #[.agg #[.slice none 0 0, .slice none 0 0], .int .i64 0], []⟩ 8 (by kernel_rfl) (by kernel_rfl) (by kernel_rfl) (by kernel_rfl)) ?_
  intro W base args ds gs before hval0 hW hcnd hsz0 _
  have hval : ∀ (j : Nat) t v, Try.f8.params[j]? = some t → args[j]? = some v → Value.okWide Try.prog W .any base t v := hval0
  have hW' := hW
  obtain ⟨p, q, hA0, hV, rfl, hfz, hnd⟩ := hW
  have hA : DataW.TrodAll enc Try.prog W 0 (fun _ => true) true Try.f8.params.toList args.toList ds p := hA0
  rw [Try.params8] at hA hval
  obtain ⟨v0, vs0, d0, ds0, p0, q0, hargs, rfl, rfl, h0, r0⟩ := trodAll_cons hA
  obtain ⟨v1, vs1, d1, ds1, p1, q1, rfl, rfl, rfl, h1, r1⟩ := trodAll_cons r0
  obtain ⟨rfl, rfl, rfl⟩ := trodAll_nil r1
  obtain rfl : args = #[v0, v1] := by cases args; simp_all
  obtain ⟨rfl, rfl⟩ := trodVars_none hV
  have k0 := h0
  have lt0 : ∀ x ∈ p0, x.block < W.heap.size := by obtain ⟨m, hm⟩ := k0; exact DataW.trod_lt m _ _ _ hm
  obtain ⟨cs0, rfl, hcs0⟩ := okWide_struct Try.underlying81 (hval 0 81 v0 rfl rfl)
  obtain ⟨fuel0, hf0⟩ := h0
  obtain ⟨x0, hx0, wf0_⟩ := (open81 _) _ _ _ _ _ _ _ _ hf0
  obtain ⟨A0_0, c0_0, A0_1, c0_1, he0, hc0_0, hr0_0, hc0_1, hr0_1⟩ := k81_open hx0
  obtain rfl : cs0 = #[.slice A0_0 x0.f0.length c0_0, .slice A0_1 x0.f1.length c0_1] := by cases cs0; simp [Value.cells] at he0; simp [he0]
  obtain ⟨a1, rfl, rfl, rfl, w1⟩ := open_int Try.underlying3 (hval 1 3 v1 rfl rfl) h1
  clear hA0 hval0 hsz0
  obtain ⟨k, h⟩ := Pure.FnExactVoid x0.f0 x0.f1 a1 wf0_.1 wf0_.2 w1
  refine (laws_FnExactVoid.calls k _ _ x0.f0 _ _ x0.f1 a1 true W hr0_0 hc0_0 hr0_1 hc0_1 h).mono fun e W' hpost => ?_
  obtain ⟨he, bel0⟩ := hpost
  have bel : Below W.heap.size W W' := bel0
  subst he
  exact ⟨_, rfl, _, _, _, [], _, [], hW', trodAll_mk1 (shut_bool Try.underlying4 _), (trodAll_cons_mk (Below.trod laidOut (by kernel_rfl) (of_decide_eq_true (by kernel_rfl)) k0 bel lt0) (trodAll_cons_mk (shut_int Try.underlying3 w1) trodAll_mk0)), rfl, bel.frame _, fun h => by cases h⟩
theorem closed_name : Try.pinned.checked.prog.funcNamed Rows.fnExactVoidRow.func = some 8 := by kernel_rfl
theorem closed_facts : joinedFacts Try.pinned.checked.prog 8 Try.f8 Rows.fnExactVoidSpec Rows.fnExactVoidRow = true := by kernel_rfl
theorem closed_inst : Try.f8.isInstance Try.pinned.checked.prog Rows.fnExactVoidRow.origin Rows.fnExactVoidRow.targs := of_decide_eq_true (by kernel_rfl)
theorem closed_wrap : Try.f8.isWrapper Try.pinned.checked.prog Rows.fnExactVoidRow.wrapper Rows.fnExactVoidRow.mainSum := by unfold Func.isWrapper; first | (rw [if_pos (by decide +kernel)]; kernel_rfl) | (rw [if_neg (by decide +kernel)]; exact ⟨rfl, rfl⟩)
theorem over : Rows.fnExactVoidRow.holds Try.pinned (OpenSpec.ofChange Rows.fnExactVoidSpec) :=
  OpenClaim.holds_of_wide 8 Try.f8 rfl rfl rfl rfl rfl rfl rfl ⟨rfl, rfl, rfl, rfl, rfl⟩ rfl rfl rfl rfl rfl closed_name Try.func8 closed_facts closed_inst closed_wrap (fun os started H enc _ => lifted os started H enc)
theorem proved : Rows.FnExactVoidSaid := over
#print axioms proved
end Go.Proofs.Ytnbecbgpefmcoaa.fnExactVoid
namespace Go.Proofs.Ytnbecbgpefmcoaa
theorem fnExactVoid_holds : Rows.FnExactVoidSaid := fnExactVoid.proved
end Go.Proofs.Ytnbecbgpefmcoaa
