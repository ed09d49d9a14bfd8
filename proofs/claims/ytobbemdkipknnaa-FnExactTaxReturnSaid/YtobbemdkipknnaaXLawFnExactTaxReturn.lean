import Derived.Test.YtobbemdkipknnaaRows
import Derived.Test.YtobbemdkipknnaaXPFnExactTaxReturnx10
import Derived.Test.YtobbemdkipknnaaXPureFnExactTaxReturn
import Derived.Test.YtobbemdkipknnaaXOpenWords
import Derived.WalkKit
import Derived.ProofKit
import Derived.OpenShut
import Derived.ShutString
import Derived.ChangeOld
import Derived.Below
import Derived.SizedLaws
import Derived.Test.YtobbemdkipknnaaXWSized
namespace Go.Proofs.Ytobbemdkipknnaa.fnExactTaxReturn
open Go.ChangeShapes Go.WideShapes Go.ChangeAt Go.RowKit Go.Proofs.Ytobbemdkipknnaa.PFnExactTaxReturn
open Go.Proofs.Ytobbemdkipknnaa.OpenWords Go.Proofs.YtobbemdkipknnaaW.PrintWords Go.Proofs.YtobbemdkipknnaaW.PrintLast
open Go.ChangeMaps (open_string shut_string)
set_option linter.unusedVariables false
theorem own : ownKnob Try.prog.godebug = none := by kernel_rfl
theorem laidOut : laidOutB Try.prog = true := by kernel_rfl
theorem open148 (w : World) : Opens Try.prog w k148 wf148 148 := by
  have h := opens_struct (P := Try.prog) (w := w) (fun x : S148 => (x.f0, x.f1, x.f2, x.f3)) (fun p => ⟨p.1, p.2.1, p.2.2.1, p.2.2.2⟩) (fun _ => rfl) Try.underlying148 (by kernel_rfl) (openF_cons (opens_string Try.underlying9) rfl (by kernel_rfl) (openF_cons (opens_int Try.underlying3) rfl (by kernel_rfl) (openF_cons (opens_int Try.underlying3) rfl (by kernel_rfl) (openF_one (opens_int Try.underlying3) rfl (by kernel_rfl)))))
  exact h
theorem open79 (w : World) : Opens Try.prog w k79 wf79 79 := by
  have h := opens_struct (P := Try.prog) (w := w) (fun x : S79 => (x.f0, x.f1, x.f2)) (fun p => ⟨p.1, p.2.1, p.2.2⟩) (fun _ => rfl) Try.underlying79 (by kernel_rfl) (openF_cons (opens_int Try.underlying3) rfl (by kernel_rfl) (openF_cons (opens_bool Try.underlying4) rfl (by kernel_rfl) (openF_one (opens_slice Try.underlying77 (by kernel_rfl) (open148 _)) rfl (by kernel_rfl))))
  exact h
set_option maxRecDepth 100000 in
theorem lifted (os : Os) (started : os.Started) (H : Type) (enc : TypeId × Value → H) :
    ReturnsInHanded {} Try.checked os 3 .any (Rows.fnExactTaxReturnSpec.pre6 enc Try.prog Try.f3 Rows.fnExactTaxReturnRow.domain false) (Rows.fnExactTaxReturnSpec.post enc Try.prog Try.f3 false true false false) := by
  refine returnsInHanded_of_change_sized (C := Try.checked) own started (by kernel_rfl) Try.func3
    (ChangeSpec.witness6 (enc := enc) (C := Try.checked) false ⟨#[], #[.slice none 0 0, .int .i64 0, .int .i64 0], []⟩ 8 (by kernel_rfl) (by kernel_rfl) (by kernel_rfl) (by kernel_rfl)) ?_
  intro W base args ds gs before hval0 hW hcnd hsz0 _
  have hval : ∀ (j : Nat) t v, Try.f3.params[j]? = some t → args[j]? = some v → Value.okWide Try.prog W .any base t v := hval0
  have hW' := hW
  obtain ⟨p, q, hA0, hV, rfl, hfz, hnd⟩ := hW
  have hA : DataW.TrodAll enc Try.prog W 0 (fun _ => true) true Try.f3.params.toList args.toList ds p := hA0
  rw [Try.params3] at hA hval
  obtain ⟨v0, vs0, d0, ds0, p0, q0, hargs, rfl, rfl, h0, r0⟩ := trodAll_cons hA
  obtain ⟨v1, vs1, d1, ds1, p1, q1, rfl, rfl, rfl, h1, r1⟩ := trodAll_cons r0
  obtain ⟨v2, vs2, d2, ds2, p2, q2, rfl, rfl, rfl, h2, r2⟩ := trodAll_cons r1
  obtain ⟨rfl, rfl, rfl⟩ := trodAll_nil r2
  obtain rfl : args = #[v0, v1, v2] := by cases args; simp_all
  obtain ⟨rfl, rfl⟩ := trodVars_none hV
  have k0 := h0
  have lt0 : ∀ x ∈ p0, x.block < W.heap.size := by obtain ⟨m, hm⟩ := k0; exact DataW.trod_lt m _ _ _ hm
  obtain ⟨a0, len0, cap0, rfl⟩ := okWide_slice Try.underlying22 (hval 0 22 v0 rfl rfl)
  obtain ⟨fuel0, hf0⟩ := h0
  obtain ⟨l0, ⟨A0, c0, he0, hc0, hr0⟩, wf0_⟩ := (opens_slice Try.underlying22 (by kernel_rfl) (open79 _)) _ _ _ _ _ _ _ _ hf0
  obtain ⟨rfl, rfl, rfl⟩ : a0 = A0 ∧ len0 = l0.length ∧ cap0 = c0 := by simp [Value.cells] at he0; exact he0
  obtain ⟨a1, rfl, rfl, rfl, w1⟩ := open_int Try.underlying3 (hval 1 3 v1 rfl rfl) h1
  obtain ⟨a2, rfl, rfl, rfl, w2⟩ := open_int Try.underlying3 (hval 2 3 v2 rfl rfl) h2
  clear hA0 hval0 hsz0
  obtain ⟨k, h⟩ := Pure.FnExactTaxReturn l0 a1 a2 wf0_ w1 w2
  refine (laws_FnExactTaxReturn.calls k _ _ l0 a1 a2 true W hr0 hc0 h).mono fun e W' hpost => ?_
  obtain ⟨he, bel0⟩ := hpost
  have bel : Below W.heap.size W W' := bel0
  subst he
  exact ⟨_, rfl, _, _, _, [], _, [], hW', trodAll_mk1 (shut_bool Try.underlying4 _), (trodAll_cons_mk (Below.trod laidOut (by kernel_rfl) (of_decide_eq_true (by kernel_rfl)) k0 bel lt0) (trodAll_cons_mk (shut_int Try.underlying3 w1) (trodAll_cons_mk (shut_int Try.underlying3 w2) trodAll_mk0))), rfl, bel.frame _, fun h => by cases h⟩
theorem closed_name : Try.pinned.checked.prog.funcNamed Rows.fnExactTaxReturnRow.func = some 3 := by kernel_rfl
theorem closed_facts : joinedFacts Try.pinned.checked.prog 3 Try.f3 Rows.fnExactTaxReturnSpec Rows.fnExactTaxReturnRow = true := by kernel_rfl
theorem closed_inst : Try.f3.isInstance Try.pinned.checked.prog Rows.fnExactTaxReturnRow.origin Rows.fnExactTaxReturnRow.targs := of_decide_eq_true (by kernel_rfl)
theorem closed_wrap : Try.f3.isWrapper Try.pinned.checked.prog Rows.fnExactTaxReturnRow.wrapper Rows.fnExactTaxReturnRow.mainSum := by unfold Func.isWrapper; first | (rw [if_pos (by decide +kernel)]; kernel_rfl) | (rw [if_neg (by decide +kernel)]; exact ⟨rfl, rfl⟩)
theorem over : Rows.fnExactTaxReturnRow.holds Try.pinned (OpenSpec.ofChange Rows.fnExactTaxReturnSpec) :=
  OpenClaim.holds_of_wide 3 Try.f3 rfl rfl rfl rfl rfl rfl rfl ⟨rfl, rfl, rfl, rfl, rfl⟩ rfl rfl rfl rfl rfl closed_name Try.func3 closed_facts closed_inst closed_wrap (fun os started H enc _ => lifted os started H enc)
theorem proved : Rows.FnExactTaxReturnSaid := over
#print axioms proved
end Go.Proofs.Ytobbemdkipknnaa.fnExactTaxReturn
namespace Go.Proofs.Ytobbemdkipknnaa
theorem fnExactTaxReturn_holds : Rows.FnExactTaxReturnSaid := fnExactTaxReturn.proved
end Go.Proofs.Ytobbemdkipknnaa
