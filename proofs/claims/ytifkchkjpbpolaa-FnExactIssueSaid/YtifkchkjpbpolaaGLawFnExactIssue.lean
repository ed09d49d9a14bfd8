import Derived.Test.YtifkchkjpbpolaaRows
import Derived.Test.YtifkchkjpbpolaaGPFnExactIssuex14
import Derived.Test.YtifkchkjpbpolaaGPureFnExactIssue
import Derived.Test.YtifkchkjpbpolaaGOpenWords
import Derived.WalkKit
import Derived.ProofKit
import Derived.OpenShut
import Derived.ShutString
import Derived.ChangeOld
import Derived.Below
import Derived.SizedLaws
import Derived.Test.YtifkchkjpbpolaaGWSized
namespace Go.Proofs.Ytifkchkjpbpolaa.fnExactIssue
open Go.ChangeShapes Go.WideShapes Go.ChangeAt Go.RowKit Go.Proofs.Ytifkchkjpbpolaa.PFnExactIssue
open Go.Proofs.Ytifkchkjpbpolaa.OpenWords Go.Proofs.YtifkchkjpbpolaaW.PrintWords Go.Proofs.YtifkchkjpbpolaaW.PrintLast
open Go.ChangeMaps (open_string shut_string)
set_option linter.unusedVariables false
theorem own : ownKnob Try.prog.godebug = none := by kernel_rfl
theorem laidOut : laidOutB Try.prog = true := by kernel_rfl
theorem open201 (w : World) : Opens Try.prog w k201 wf201 201 := by
  have h := opens_struct (P := Try.prog) (w := w) (fun x : S201 => (x.f0, x.f1)) (fun p => ⟨p.1, p.2⟩) (fun _ => rfl) Try.underlying201 (by kernel_rfl) (openF_cons (opens_string Try.underlying9) rfl (by kernel_rfl) (openF_one (opens_int Try.underlying3) rfl (by kernel_rfl)))
  exact h
theorem open204 (w : World) : Opens Try.prog w k204 wf204 204 := by
  have h := opens_struct (P := Try.prog) (w := w) (fun x : S204 => (x.f0, x.f1, x.f2, x.f3)) (fun p => ⟨p.1, p.2.1, p.2.2.1, p.2.2.2⟩) (fun _ => rfl) Try.underlying204 (by kernel_rfl) (openF_cons (opens_int Try.underlying3) rfl (by kernel_rfl) (openF_cons (opens_int Try.underlying3) rfl (by kernel_rfl) (openF_cons (opens_int Try.underlying3) rfl (by kernel_rfl) (openF_one (opens_bool Try.underlying4) rfl (by kernel_rfl)))))
  exact h
theorem open25 (w : World) : Opens Try.prog w k25 wf25 25 := by
  have h := opens_struct (P := Try.prog) (w := w) (fun x : S25 => (x.f0, x.f1)) (fun p => ⟨p.1, p.2⟩) (fun _ => rfl) Try.underlying25 (by kernel_rfl) (openF_cons (opens_slice Try.underlying22 (by kernel_rfl) (open201 _)) rfl (by kernel_rfl) (openF_one (opens_slice Try.underlying23 (by kernel_rfl) (open204 _)) rfl (by kernel_rfl)))
  exact h
set_option maxRecDepth 100000 in
theorem lifted (os : Os) (started : os.Started) (H : Type) (enc : TypeId × Value → H) :
    ReturnsInHanded {} Try.checked os 3 .any (Rows.fnExactIssueSpec.pre6 enc Try.prog Try.f3 Rows.fnExactIssueRow.domain false) (Rows.fnExactIssueSpec.post enc Try.prog Try.f3 false true false false) := by
  refine returnsInHanded_of_change_sized (C := Try.checked) own started (by kernel_rfl) Try.func3
    (ChangeSpec.witness6 (enc := enc) (C := Try.checked) false ⟨#[], #[.agg #[.slice none 0 0, .slice none 0 0], .int .i64 0, .int .i64 0], []⟩ 8 (by kernel_rfl) (by kernel_rfl) (by kernel_rfl) (by kernel_rfl)) ?_
  intro W base args ds gs before hval0 hW hcnd hsz0 _
  have hval : ∀ (j : Nat) t v, Try.f3.params[j]? = some t → args[j]? = some v → Value.okWide Try.prog W .any base t v := hval0
  have hW' := hW
  obtain ⟨p, q, hA0, hV, rfl, hfz, hnd⟩ := hW
  have hA : DataW.TrodAll enc Try.prog W 0 (fun _ => true) true Try.f3.params.toList args.toList ds p := hA0
  rw [Try.params3] at hA hval
  obtain ⟨v0, vs0, d0, ds0, p0, q0, hargs, rfl, rfl, h0, r0⟩ := trodAll_cons hA
  obtain ⟨v1, vs1, d1, ds1, p1, q1, rfl, rfl, rfl, h1, r1⟩ := trodAll_cons r0
  obtain ⟨v2, vs2, d2, ds2, p2, q2, rfl, rfl, rfl, h2, r2⟩ := trodAll_cons r1
  obtain ⟨rfl, rfl, rfl⟩ := trodAll_nil r2
  obtain rfl : args = #[v0, v1, v2] := by cases args; simp_all
  obtain ⟨rfl, rfl⟩ := trodVars_none hV
  have k0 := h0
  have lt0 : ∀ x ∈ p0, x.block < W.heap.size := by obtain ⟨m, hm⟩ := k0; exact DataW.trod_lt m _ _ _ hm
  obtain ⟨cs0, rfl, hcs0⟩ := okWide_struct Try.underlying25 (hval 0 25 v0 rfl rfl)
  obtain ⟨fuel0, hf0⟩ := h0
  obtain ⟨x0, hx0, wf0_⟩ := (open25 _) _ _ _ _ _ _ _ _ hf0
  obtain ⟨A0_0, c0_0, A0_1, c0_1, he0, hc0_0, hr0_0, hc0_1, hr0_1⟩ := k25_open hx0
  obtain rfl : cs0 = #[.slice A0_0 x0.f0.length c0_0, .slice A0_1 x0.f1.length c0_1] := by cases cs0; simp [Value.cells] at he0; simp [he0]
  obtain ⟨a1, rfl, rfl, rfl, w1⟩ := open_int Try.underlying3 (hval 1 3 v1 rfl rfl) h1
  obtain ⟨a2, rfl, rfl, rfl, w2⟩ := open_int Try.underlying3 (hval 2 3 v2 rfl rfl) h2
  clear hA0 hval0 hsz0
  obtain ⟨k, h⟩ := Pure.FnExactIssue x0.f0 x0.f1 a1 a2 wf0_.1 wf0_.2 w1 w2
  refine (laws_FnExactIssue.calls k _ _ x0.f0 _ _ x0.f1 a1 a2 true W hr0_0 hc0_0 hr0_1 hc0_1 h).mono fun e W' hpost => ?_
  obtain ⟨he, bel0⟩ := hpost
  have bel : Below W.heap.size W W' := bel0
  subst he
  exact ⟨_, rfl, _, _, _, [], _, [], hW', trodAll_mk1 (shut_bool Try.underlying4 _), (trodAll_cons_mk (Below.trod laidOut (by kernel_rfl) (of_decide_eq_true (by kernel_rfl)) k0 bel lt0) (trodAll_cons_mk (shut_int Try.underlying3 w1) (trodAll_cons_mk (shut_int Try.underlying3 w2) trodAll_mk0))), rfl, bel.frame _, fun h => by cases h⟩
theorem closed_name : Try.pinned.checked.prog.funcNamed Rows.fnExactIssueRow.func = some 3 := by kernel_rfl
theorem closed_facts : joinedFacts Try.pinned.checked.prog 3 Try.f3 Rows.fnExactIssueSpec Rows.fnExactIssueRow = true := by kernel_rfl
theorem closed_inst : Try.f3.isInstance Try.pinned.checked.prog Rows.fnExactIssueRow.origin Rows.fnExactIssueRow.targs := of_decide_eq_true (by kernel_rfl)
theorem closed_wrap : Try.f3.isWrapper Try.pinned.checked.prog Rows.fnExactIssueRow.wrapper Rows.fnExactIssueRow.mainSum := by unfold Func.isWrapper; first | (rw [if_pos (by decide +kernel)]; kernel_rfl) | (rw [if_neg (by decide +kernel)]; exact ⟨rfl, rfl⟩)
theorem over : Rows.fnExactIssueRow.holds Try.pinned (OpenSpec.ofChange Rows.fnExactIssueSpec) :=
  OpenClaim.holds_of_wide 3 Try.f3 rfl rfl rfl rfl rfl rfl rfl ⟨rfl, rfl, rfl, rfl, rfl⟩ rfl rfl rfl rfl rfl closed_name Try.func3 closed_facts closed_inst closed_wrap (fun os started H enc _ => lifted os started H enc)
theorem proved : Rows.FnExactIssueSaid := over
#print axioms proved
end Go.Proofs.Ytifkchkjpbpolaa.fnExactIssue
namespace Go.Proofs.Ytifkchkjpbpolaa
theorem fnExactIssue_holds : Rows.FnExactIssueSaid := fnExactIssue.proved
end Go.Proofs.Ytifkchkjpbpolaa
