import Derived.Test.YtjnmfadnkbflfaaRows
import Derived.Test.YtjnmfadnkbflfaaSPFnExactShowFlowx13
import Derived.Test.YtjnmfadnkbflfaaSPureFnExactShowFlow
import Derived.Test.YtjnmfadnkbflfaaSOpenWords
import Derived.WalkKit
import Derived.ProofKit
import Derived.OpenShut
import Derived.ShutString
import Derived.ChangeOld
import Derived.Below
import Derived.SizedLaws
import Derived.Test.YtjnmfadnkbflfaaSWSized
namespace Go.Proofs.Ytjnmfadnkbflfaa.fnExactShowFlow
open Go.ChangeShapes Go.WideShapes Go.ChangeAt Go.RowKit Go.Proofs.Ytjnmfadnkbflfaa.PFnExactShowFlow
open Go.Proofs.Ytjnmfadnkbflfaa.OpenWords Go.Proofs.YtjnmfadnkbflfaaW.PrintWords Go.Proofs.YtjnmfadnkbflfaaW.PrintLast
open Go.ChangeMaps (open_string shut_string)
set_option linter.unusedVariables false
theorem own : ownKnob Try.prog.godebug = none := by kernel_rfl
theorem laidOut : laidOutB Try.prog = true := by kernel_rfl
theorem open116 (w : World) : Opens Try.prog w k116 wf116 116 := by
  have h := opens_struct (P := Try.prog) (w := w) (fun x : S116 => (x.f0, x.f1)) (fun p => ⟨p.1, p.2⟩) (fun _ => rfl) Try.underlying116 (by kernel_rfl) (openF_cons (opens_int Try.underlying3) rfl (by kernel_rfl) (openF_one (opens_slice Try.underlying64 (by kernel_rfl) (opens_string Try.underlying9)) rfl (by kernel_rfl)))
  exact h
set_option maxRecDepth 100000 in
theorem lifted (os : Os) (started : os.Started) (H : Type) (enc : TypeId × Value → H) :
    ReturnsInHanded {} Try.checked os 4 .any (Rows.fnExactShowFlowSpec.pre6 enc Try.prog Try.f4 Rows.fnExactShowFlowRow.domain false) (Rows.fnExactShowFlowSpec.post enc Try.prog Try.f4 false true false false) := by
  refine returnsInHanded_of_change_sized (C := Try.checked) own started (by kernel_rfl) Try.func4
    (ChangeSpec.witness6 (enc := enc) (C := Try.checked) false ⟨#[], #[.slice none 0 0], []⟩ 8 (by kernel_rfl) (by kernel_rfl) (by kernel_rfl) (by kernel_rfl)) ?_
  intro W base args ds gs before hval0 hW hcnd hsz0 _
  have hval : ∀ (j : Nat) t v, Try.f4.params[j]? = some t → args[j]? = some v → Value.okWide Try.prog W .any base t v := hval0
  have hW' := hW
  obtain ⟨p, q, hA0, hV, rfl, hfz, hnd⟩ := hW
  have hA : DataW.TrodAll enc Try.prog W 0 (fun _ => true) true Try.f4.params.toList args.toList ds p := hA0
  rw [Try.params4] at hA hval
  obtain ⟨v0, vs0, d0, ds0, p0, q0, hargs, rfl, rfl, h0, r0⟩ := trodAll_cons hA
  obtain ⟨rfl, rfl, rfl⟩ := trodAll_nil r0
  obtain rfl : args = #[v0] := by cases args; simp_all
  obtain ⟨rfl, rfl⟩ := trodVars_none hV
  have k0 := h0
  have lt0 : ∀ x ∈ p0, x.block < W.heap.size := by obtain ⟨m, hm⟩ := k0; exact DataW.trod_lt m _ _ _ hm
  obtain ⟨a0, len0, cap0, rfl⟩ := okWide_slice Try.underlying42 (hval 0 42 v0 rfl rfl)
  obtain ⟨fuel0, hf0⟩ := h0
  obtain ⟨l0, ⟨A0, c0, he0, hc0, hr0⟩, wf0_⟩ := (opens_slice Try.underlying42 (by kernel_rfl) (open116 _)) _ _ _ _ _ _ _ _ hf0
  obtain ⟨rfl, rfl, rfl⟩ : a0 = A0 ∧ len0 = l0.length ∧ cap0 = c0 := by simp [Value.cells] at he0; exact he0
  clear hA0 hval0 hsz0
  obtain ⟨k, h⟩ := Pure.FnExactShowFlow l0 wf0_
  refine (laws_FnExactShowFlow.calls k _ _ l0 true W hr0 hc0 h).mono fun e W' hpost => ?_
  obtain ⟨he, bel0⟩ := hpost
  have bel : Below W.heap.size W W' := bel0
  subst he
  exact ⟨_, rfl, _, _, _, [], _, [], hW', trodAll_mk1 (shut_bool Try.underlying4 _), (trodAll_cons_mk (Below.trod laidOut (by kernel_rfl) (of_decide_eq_true (by kernel_rfl)) k0 bel lt0) trodAll_mk0), rfl, bel.frame _, fun h => by cases h⟩
theorem closed_name : Try.pinned.checked.prog.funcNamed Rows.fnExactShowFlowRow.func = some 4 := by kernel_rfl
theorem closed_facts : joinedFacts Try.pinned.checked.prog 4 Try.f4 Rows.fnExactShowFlowSpec Rows.fnExactShowFlowRow = true := by kernel_rfl
theorem closed_inst : Try.f4.isInstance Try.pinned.checked.prog Rows.fnExactShowFlowRow.origin Rows.fnExactShowFlowRow.targs := of_decide_eq_true (by kernel_rfl)
theorem closed_wrap : Try.f4.isWrapper Try.pinned.checked.prog Rows.fnExactShowFlowRow.wrapper Rows.fnExactShowFlowRow.mainSum := by unfold Func.isWrapper; first | (rw [if_pos (by decide +kernel)]; kernel_rfl) | (rw [if_neg (by decide +kernel)]; exact ⟨rfl, rfl⟩)
theorem over : Rows.fnExactShowFlowRow.holds Try.pinned (OpenSpec.ofChange Rows.fnExactShowFlowSpec) :=
  OpenClaim.holds_of_wide 4 Try.f4 rfl rfl rfl rfl rfl rfl rfl ⟨rfl, rfl, rfl, rfl, rfl⟩ rfl rfl rfl rfl rfl closed_name Try.func4 closed_facts closed_inst closed_wrap (fun os started H enc _ => lifted os started H enc)
theorem proved : Rows.FnExactShowFlowSaid := over
#print axioms proved
end Go.Proofs.Ytjnmfadnkbflfaa.fnExactShowFlow
namespace Go.Proofs.Ytjnmfadnkbflfaa
theorem fnExactShowFlow_holds : Rows.FnExactShowFlowSaid := fnExactShowFlow.proved
end Go.Proofs.Ytjnmfadnkbflfaa
