import Derived.Test.YtjnmfadnkbflfaaRows
import Derived.Test.YtjnmfadnkbflfaaDPFnExactNeededx15
import Derived.Test.YtjnmfadnkbflfaaDPureFnExactNeeded
import Derived.Test.YtjnmfadnkbflfaaDOpenWords
import Derived.WalkKit
import Derived.ProofKit
import Derived.OpenShut
import Derived.ShutString
import Derived.ChangeOld
import Derived.Below
import Derived.SizedLaws
import Derived.Test.YtjnmfadnkbflfaaDWSized
namespace Go.Proofs.Ytjnmfadnkbflfaa.fnExactNeeded
open Go.ChangeShapes Go.WideShapes Go.ChangeAt Go.RowKit Go.Proofs.Ytjnmfadnkbflfaa.PFnExactNeeded
open Go.Proofs.Ytjnmfadnkbflfaa.OpenWords Go.Proofs.YtjnmfadnkbflfaaW.PrintWords Go.Proofs.YtjnmfadnkbflfaaW.PrintLast
open Go.ChangeMaps (open_string shut_string)
set_option linter.unusedVariables false
theorem own : ownKnob Try.prog.godebug = none := by kernel_rfl
theorem laidOut : laidOutB Try.prog = true := by kernel_rfl
theorem open116 (w : World) : Opens Try.prog w k116 wf116 116 := by
  have h := opens_struct (P := Try.prog) (w := w) (fun x : S116 => (x.f0, x.f1)) (fun p => ⟨p.1, p.2⟩) (fun _ => rfl) Try.underlying116 (by kernel_rfl) (openF_cons (opens_int Try.underlying3) rfl (by kernel_rfl) (openF_one (opens_slice Try.underlying64 (by kernel_rfl) (opens_string Try.underlying9)) rfl (by kernel_rfl)))
  exact h
set_option maxRecDepth 100000 in
theorem lifted (os : Os) (started : os.Started) (H : Type) (enc : TypeId × Value → H) :
    ReturnsInHanded {} Try.checked os 7 .any (Rows.fnExactNeededSpec.pre6 enc Try.prog Try.f7 Rows.fnExactNeededRow.domain false) (Rows.fnExactNeededSpec.post enc Try.prog Try.f7 false true false false) := by
  refine returnsInHanded_of_change_sized (C := Try.checked) own started (by kernel_rfl) Try.func7
    (ChangeSpec.witness6 (enc := enc) (C := Try.checked) false ⟨#[], #[.slice none 0 0, .int .i64 0], []⟩ 8 (by kernel_rfl) (by kernel_rfl) (by kernel_rfl) (by kernel_rfl)) ?_
  intro W base args ds gs before hval0 hW hcnd hsz0 _
  have hval : ∀ (j : Nat) t v, Try.f7.params[j]? = some t → args[j]? = some v → Value.okWide Try.prog W .any base t v := hval0
  have hW' := hW
  obtain ⟨p, q, hA0, hV, rfl, hfz, hnd⟩ := hW
  have hA : DataW.TrodAll enc Try.prog W 0 (fun _ => true) true Try.f7.params.toList args.toList ds p := hA0
  rw [Try.params7] at hA hval
  obtain ⟨v0, vs0, d0, ds0, p0, q0, hargs, rfl, rfl, h0, r0⟩ := trodAll_cons hA
  obtain ⟨v1, vs1, d1, ds1, p1, q1, rfl, rfl, rfl, h1, r1⟩ := trodAll_cons r0
  obtain ⟨rfl, rfl, rfl⟩ := trodAll_nil r1
  obtain rfl : args = #[v0, v1] := by cases args; simp_all
  obtain ⟨rfl, rfl⟩ := trodVars_none hV
  have k0 := h0
  have lt0 : ∀ x ∈ p0, x.block < W.heap.size := by obtain ⟨m, hm⟩ := k0; exact DataW.trod_lt m _ _ _ hm
  obtain ⟨a0, len0, cap0, rfl⟩ := okWide_slice Try.underlying42 (hval 0 42 v0 rfl rfl)
  obtain ⟨fuel0, hf0⟩ := h0
  obtain ⟨l0, ⟨A0, c0, he0, hc0, hr0⟩, wf0_⟩ := (opens_slice Try.underlying42 (by kernel_rfl) (open116 _)) _ _ _ _ _ _ _ _ hf0
  obtain ⟨rfl, rfl, rfl⟩ : a0 = A0 ∧ len0 = l0.length ∧ cap0 = c0 := by simp [Value.cells] at he0; exact he0
  obtain ⟨a1, rfl, rfl, rfl, w1⟩ := open_int Try.underlying3 (hval 1 3 v1 rfl rfl) h1
  clear hA0 hval0 hsz0
  obtain ⟨k, h⟩ := Pure.FnExactNeeded l0 a1 wf0_ w1
  refine (laws_FnExactNeeded.calls k _ _ l0 a1 true W hr0 hc0 h).mono fun e W' hpost => ?_
  obtain ⟨he, bel0⟩ := hpost
  have bel : Below W.heap.size W W' := bel0
  subst he
  exact ⟨_, rfl, _, _, _, [], _, [], hW', trodAll_mk1 (shut_bool Try.underlying4 _), (trodAll_cons_mk (Below.trod laidOut (by kernel_rfl) (of_decide_eq_true (by kernel_rfl)) k0 bel lt0) (trodAll_cons_mk (shut_int Try.underlying3 w1) trodAll_mk0)), rfl, bel.frame _, fun h => by cases h⟩
theorem closed_name : Try.pinned.checked.prog.funcNamed Rows.fnExactNeededRow.func = some 7 := by kernel_rfl
theorem closed_facts : joinedFacts Try.pinned.checked.prog 7 Try.f7 Rows.fnExactNeededSpec Rows.fnExactNeededRow = true := by kernel_rfl
theorem closed_inst : Try.f7.isInstance Try.pinned.checked.prog Rows.fnExactNeededRow.origin Rows.fnExactNeededRow.targs := of_decide_eq_true (by kernel_rfl)
theorem closed_wrap : Try.f7.isWrapper Try.pinned.checked.prog Rows.fnExactNeededRow.wrapper Rows.fnExactNeededRow.mainSum := by unfold Func.isWrapper; first | (rw [if_pos (by decide +kernel)]; kernel_rfl) | (rw [if_neg (by decide +kernel)]; exact ⟨rfl, rfl⟩)
theorem over : Rows.fnExactNeededRow.holds Try.pinned (OpenSpec.ofChange Rows.fnExactNeededSpec) :=
  OpenClaim.holds_of_wide 7 Try.f7 rfl rfl rfl rfl rfl rfl rfl ⟨rfl, rfl, rfl, rfl, rfl⟩ rfl rfl rfl rfl rfl closed_name Try.func7 closed_facts closed_inst closed_wrap (fun os started H enc _ => lifted os started H enc)
theorem proved : Rows.FnExactNeededSaid := over
#print axioms proved
end Go.Proofs.Ytjnmfadnkbflfaa.fnExactNeeded
namespace Go.Proofs.Ytjnmfadnkbflfaa
theorem fnExactNeeded_holds : Rows.FnExactNeededSaid := fnExactNeeded.proved
end Go.Proofs.Ytjnmfadnkbflfaa
