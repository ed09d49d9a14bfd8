import Derived.Test.YtnbecbgpefmcoaaRows
import Derived.Test.YtnbecbgpefmcoaaGPFnExactGroupOkx13
import Derived.Test.YtnbecbgpefmcoaaGPureFnExactGroupOk
import Derived.Test.YtnbecbgpefmcoaaGOpenWords
import Derived.WalkKit
import Derived.ProofKit
import Derived.OpenShut
import Derived.ShutString
import Derived.ChangeOld
import Derived.Below
import Derived.SizedLaws
import Derived.Test.YtnbecbgpefmcoaaGWSized
namespace Go.Proofs.Ytnbecbgpefmcoaa.fnExactGroupOk
open Go.ChangeShapes Go.WideShapes Go.ChangeAt Go.RowKit Go.Proofs.Ytnbecbgpefmcoaa.PFnExactGroupOk
open Go.Proofs.Ytnbecbgpefmcoaa.OpenWords Go.Proofs.YtnbecbgpefmcoaaW.PrintWords Go.Proofs.YtnbecbgpefmcoaaW.PrintLast
open Go.ChangeMaps (open_string shut_string)
set_option linter.unusedVariables false
theorem own : ownKnob Try.prog.godebug = none := by kernel_rfl
theorem laidOut : laidOutB Try.prog = true := by kernel_rfl
theorem open319 (w : World) : Opens Try.prog w k319 wf319 319 := by
  have h := opens_struct (P := Try.prog) (w := w) (fun x : S319 => (x.f0, x.f1, x.f2)) (fun p => ⟨p.1, p.2.1, p.2.2⟩) (fun _ => rfl) Try.underlying319 (by kernel_rfl) (openF_cons (opens_string Try.underlying9) rfl (by kernel_rfl) (openF_cons (opens_int Try.underlying3) rfl (by kernel_rfl) (openF_one (opens_int Try.underlying3) rfl (by kernel_rfl))))
  exact h
theorem open321 (w : World) : Opens Try.prog w k321 wf321 321 := by
  have h := opens_struct (P := Try.prog) (w := w) (fun x : S321 => (x.f0, x.f1, x.f2, x.f3)) (fun p => ⟨p.1, p.2.1, p.2.2.1, p.2.2.2⟩) (fun _ => rfl) Try.underlying321 (by kernel_rfl) (openF_cons (opens_int Try.underlying3) rfl (by kernel_rfl) (openF_cons (opens_int Try.underlying3) rfl (by kernel_rfl) (openF_cons (opens_int Try.underlying3) rfl (by kernel_rfl) (openF_one (opens_slice Try.underlying35 (by kernel_rfl) (opens_int Try.underlying3)) rfl (by kernel_rfl)))))
  exact h
theorem open101 (w : World) : Opens Try.prog w k101 wf101 101 := by
  have h := opens_struct (P := Try.prog) (w := w) (fun x : S101 => (x.f0, x.f1, x.f2, x.f3, x.f4)) (fun p => ⟨p.1, p.2.1, p.2.2.1, p.2.2.2.1, p.2.2.2.2⟩) (fun _ => rfl) Try.underlying101 (by kernel_rfl) (openF_cons (opens_slice Try.underlying98 (by kernel_rfl) (open319 _)) rfl (by kernel_rfl) (openF_cons (opens_int Try.underlying3) rfl (by kernel_rfl) (openF_cons (opens_slice Try.underlying99 (by kernel_rfl) (open321 _)) rfl (by kernel_rfl) (openF_cons (opens_int Try.underlying3) rfl (by kernel_rfl) (openF_one (opens_int Try.underlying3) rfl (by kernel_rfl))))))
  exact h
set_option maxRecDepth 100000 in
theorem lifted (os : Os) (started : os.Started) (H : Type) (enc : TypeId × Value → H) :
    ReturnsInHanded {} Try.checked os 10 .any (Rows.fnExactGroupOkSpec.pre6 enc Try.prog Try.f10 Rows.fnExactGroupOkRow.domain false) (Rows.fnExactGroupOkSpec.post enc Try.prog Try.f10 false true false false) := by
  refine returnsInHanded_of_change_sized (C := Try.checked) own started (by kernel_rfl) Try.func10
    (ChangeSpec.witness6 (enc := enc) (C := Try.checked) false ⟨#[], #[.agg #[.slice none 0 0, .int .i64 0, .slice none 0 0, .int .i64 0, .int .i64 0]], []⟩ 8 (by kernel_rfl) (by kernel_rfl) (by kernel_rfl) (by kernel_rfl)) ?_
  intro W base args ds gs before hval0 hW hcnd hsz0 _
  have hval : ∀ (j : Nat) t v, Try.f10.params[j]? = some t → args[j]? = some v → Value.okWide Try.prog W .any base t v := hval0
  have hW' := hW
  obtain ⟨p, q, hA0, hV, rfl, hfz, hnd⟩ := hW
  have hA : DataW.TrodAll enc Try.prog W 0 (fun _ => true) true Try.f10.params.toList args.toList ds p := hA0
  rw [Try.params10] at hA hval
  obtain ⟨v0, vs0, d0, ds0, p0, q0, hargs, rfl, rfl, h0, r0⟩ := trodAll_cons hA
  obtain ⟨rfl, rfl, rfl⟩ := trodAll_nil r0
  obtain rfl : args = #[v0] := by cases args; simp_all
  obtain ⟨rfl, rfl⟩ := trodVars_none hV
  have k0 := h0
  have lt0 : ∀ x ∈ p0, x.block < W.heap.size := by obtain ⟨m, hm⟩ := k0; exact DataW.trod_lt m _ _ _ hm
  obtain ⟨cs0, rfl, hcs0⟩ := okWide_struct Try.underlying101 (hval 0 101 v0 rfl rfl)
  obtain ⟨fuel0, hf0⟩ := h0
  obtain ⟨x0, hx0, wf0_⟩ := (open101 _) _ _ _ _ _ _ _ _ hf0
  obtain ⟨A0_0, c0_0, A0_2, c0_2, he0, hc0_0, hr0_0, hc0_2, hr0_2⟩ := k101_open hx0
  obtain rfl : cs0 = #[.slice A0_0 x0.f0.length c0_0, .int .i64 x0.f1, .slice A0_2 x0.f2.length c0_2, .int .i64 x0.f3, .int .i64 x0.f4] := by cases cs0; simp [Value.cells] at he0; simp [he0]
  clear hA0 hval0 hsz0
  obtain ⟨k, h⟩ := Pure.FnExactGroupOk x0.f0 x0.f1 x0.f2 x0.f3 x0.f4 wf0_.1 wf0_.2.1 wf0_.2.2.1 wf0_.2.2.2.1 wf0_.2.2.2.2
  refine (laws_FnExactGroupOk.calls k _ _ x0.f0 x0.f1 _ _ x0.f2 x0.f3 x0.f4 true W hr0_0 hc0_0 hr0_2 hc0_2 h).mono fun e W' hpost => ?_
  obtain ⟨he, bel0⟩ := hpost
  have bel : Below W.heap.size W W' := bel0
  subst he
  exact ⟨_, rfl, _, _, _, [], _, [], hW', trodAll_mk1 (shut_bool Try.underlying4 _), (trodAll_cons_mk (Below.trod laidOut (by kernel_rfl) (of_decide_eq_true (by kernel_rfl)) k0 bel lt0) trodAll_mk0), rfl, bel.frame _, fun h => by cases h⟩
theorem closed_name : Try.pinned.checked.prog.funcNamed Rows.fnExactGroupOkRow.func = some 10 := by kernel_rfl
theorem closed_facts : joinedFacts Try.pinned.checked.prog 10 Try.f10 Rows.fnExactGroupOkSpec Rows.fnExactGroupOkRow = true := by kernel_rfl
theorem closed_inst : Try.f10.isInstance Try.pinned.checked.prog Rows.fnExactGroupOkRow.origin Rows.fnExactGroupOkRow.targs := of_decide_eq_true (by kernel_rfl)
theorem closed_wrap : Try.f10.isWrapper Try.pinned.checked.prog Rows.fnExactGroupOkRow.wrapper Rows.fnExactGroupOkRow.mainSum := by unfold Func.isWrapper; first | (rw [if_pos (by decide +kernel)]; kernel_rfl) | (rw [if_neg (by decide +kernel)]; exact ⟨rfl, rfl⟩)
theorem over : Rows.fnExactGroupOkRow.holds Try.pinned (OpenSpec.ofChange Rows.fnExactGroupOkSpec) :=
  OpenClaim.holds_of_wide 10 Try.f10 rfl rfl rfl rfl rfl rfl rfl ⟨rfl, rfl, rfl, rfl, rfl⟩ rfl rfl rfl rfl rfl closed_name Try.func10 closed_facts closed_inst closed_wrap (fun os started H enc _ => lifted os started H enc)
theorem proved : Rows.FnExactGroupOkSaid := over
#print axioms proved
end Go.Proofs.Ytnbecbgpefmcoaa.fnExactGroupOk
namespace Go.Proofs.Ytnbecbgpefmcoaa
theorem fnExactGroupOk_holds : Rows.FnExactGroupOkSaid := fnExactGroupOk.proved
end Go.Proofs.Ytnbecbgpefmcoaa
