import Derived.Test.YtmpknbdbichdiaaRows
import Derived.Test.YtmpknbdbichdiaaLPFnExactLedgerOkx17
import Derived.Test.YtmpknbdbichdiaaLPureFnExactLedgerOk
import Derived.Test.YtmpknbdbichdiaaLOpenWords
import Derived.WalkKit
import Derived.ProofKit
import Derived.OpenShut
import Derived.ShutString
import Derived.ChangeOld
import Derived.Below
import Derived.SizedLaws
import Derived.Test.YtmpknbdbichdiaaLWSized
namespace Go.Proofs.Ytmpknbdbichdiaa.fnExactLedgerOk
open Go.ChangeShapes Go.WideShapes Go.ChangeAt Go.RowKit Go.Proofs.Ytmpknbdbichdiaa.PFnExactLedgerOk
open Go.Proofs.Ytmpknbdbichdiaa.OpenWords Go.Proofs.YtmpknbdbichdiaaW.PrintWords Go.Proofs.YtmpknbdbichdiaaW.PrintLast
open Go.ChangeMaps (open_string shut_string)
set_option linter.unusedVariables false
theorem own : ownKnob Try.prog.godebug = none := by kernel_rfl
theorem laidOut : laidOutB Try.prog = true := by kernel_rfl
theorem open214 (w : World) : Opens Try.prog w k214 wf214 214 := by
  have h := opens_struct (P := Try.prog) (w := w) (fun x : S214 => (x.f0, x.f1, x.f2)) (fun p => ⟨p.1, p.2.1, p.2.2⟩) (fun _ => rfl) Try.underlying214 (by kernel_rfl) (openF_cons (opens_string Try.underlying9) rfl (by kernel_rfl) (openF_cons (opens_int Try.underlying3) rfl (by kernel_rfl) (openF_one (opens_int Try.underlying3) rfl (by kernel_rfl))))
  exact h
theorem open72 (w : World) : Opens Try.prog w k72 wf72 72 := by
  have h := opens_struct (P := Try.prog) (w := w) (fun x : S72 => (x.f0, x.f1, x.f2)) (fun p => ⟨p.1, p.2.1, p.2.2⟩) (fun _ => rfl) Try.underlying72 (by kernel_rfl) (openF_cons (opens_slice Try.underlying70 (by kernel_rfl) (open214 _)) rfl (by kernel_rfl) (openF_cons (opens_int Try.underlying3) rfl (by kernel_rfl) (openF_one (opens_int Try.underlying3) rfl (by kernel_rfl))))
  exact h
theorem open263 (w : World) : Opens Try.prog w k263 wf263 263 := by
  have h := opens_struct (P := Try.prog) (w := w) (fun x : S263 => (x.f0, x.f1, x.f2, x.f3, x.f4)) (fun p => ⟨p.1, p.2.1, p.2.2.1, p.2.2.2.1, p.2.2.2.2⟩) (fun _ => rfl) Try.underlying263 (by kernel_rfl) (openF_cons (opens_int Try.underlying3) rfl (by kernel_rfl) (openF_cons (opens_int Try.underlying3) rfl (by kernel_rfl) (openF_cons (opens_int Try.underlying3) rfl (by kernel_rfl) (openF_cons (opens_int Try.underlying3) rfl (by kernel_rfl) (openF_one (opens_int Try.underlying3) rfl (by kernel_rfl))))))
  exact h
theorem open218 (w : World) : Opens Try.prog w k218 wf218 218 := by
  have h := opens_struct (P := Try.prog) (w := w) (fun x : S218 => (x.f0, x.f1, x.f2, x.f3)) (fun p => ⟨p.1, p.2.1, p.2.2.1, p.2.2.2⟩) (fun _ => rfl) Try.underlying218 (by kernel_rfl) (openF_cons (opens_int Try.underlying3) rfl (by kernel_rfl) (openF_cons (opens_int Try.underlying3) rfl (by kernel_rfl) (openF_cons (opens_string Try.underlying9) rfl (by kernel_rfl) (openF_one (opens_slice Try.underlying216 (by kernel_rfl) (open263 _)) rfl (by kernel_rfl)))))
  exact h
theorem open75 (w : World) : Opens Try.prog w k75 wf75 75 := by
  have h := opens_struct (P := Try.prog) (w := w) (fun x : S75 => (x.f0, x.f1)) (fun p => ⟨p.1, p.2⟩) (fun _ => rfl) Try.underlying75 (by kernel_rfl) (openF_cons (opens_slice Try.underlying73 (by kernel_rfl) (open218 _)) rfl (by kernel_rfl) (openF_one (opens_int Try.underlying3) rfl (by kernel_rfl)))
  exact h
set_option maxRecDepth 100000 in
theorem lifted (os : Os) (started : os.Started) (H : Type) (enc : TypeId × Value → H) :
    ReturnsInHanded {} Try.checked os 8 .any (Rows.fnExactLedgerOkSpec.pre6 enc Try.prog Try.f8 Rows.fnExactLedgerOkRow.domain false) (Rows.fnExactLedgerOkSpec.post enc Try.prog Try.f8 false true false false) := by
  refine returnsInHanded_of_change_sized (C := Try.checked) own started (by kernel_rfl) Try.func8
    (ChangeSpec.witness6 (enc := enc) (C := Try.checked) false ⟨#[], #[.agg #[.slice none 0 0, .int .i64 0, .int .i64 0], .agg #[.slice none 0 0, .int .i64 0]], []⟩ 8 (by kernel_rfl) (by kernel_rfl) (by kernel_rfl) (by kernel_rfl)) ?_
  intro W base args ds gs before hval0 hW hcnd hsz0 _
  have hval : ∀ (j : Nat) t v, Try.f8.params[j]? = some t → args[j]? = some v → Value.okWide Try.prog W .any base t v := hval0
  have hW' := hW
  obtain ⟨p, q, hA0, hV, rfl, hfz, hnd⟩ := hW
  have hA : DataW.TrodAll enc Try.prog W 0 (fun _ => true) true Try.f8.params.toList args.toList ds p := hA0
  rw [Try.params8] at hA hval
  obtain ⟨v0, vs0, d0, ds0, p0, q0, hargs, rfl, rfl, h0, r0⟩ := trodAll_cons hA
  obtain ⟨v1, vs1, d1, ds1, p1, q1, rfl, rfl, rfl, h1, r1⟩ := trodAll_cons r0
  obtain ⟨rfl, rfl, rfl⟩ := trodAll_nil r1
  obtain rfl : args = #[v0, v1] := by cases args; simp_all
  obtain ⟨rfl, rfl⟩ := trodVars_none hV
  have k0 := h0
  have lt0 : ∀ x ∈ p0, x.block < W.heap.size := by obtain ⟨m, hm⟩ := k0; exact DataW.trod_lt m _ _ _ hm
  obtain ⟨cs0, rfl, hcs0⟩ := okWide_struct Try.underlying72 (hval 0 72 v0 rfl rfl)
  obtain ⟨fuel0, hf0⟩ := h0
  obtain ⟨x0, hx0, wf0_⟩ := (open72 _) _ _ _ _ _ _ _ _ hf0
  obtain ⟨A0_0, c0_0, he0, hc0_0, hr0_0⟩ := k72_open hx0
  obtain rfl : cs0 = #[.slice A0_0 x0.f0.length c0_0, .int .i64 x0.f1, .int .i64 x0.f2] := by cases cs0; simp [Value.cells] at he0; simp [he0]
  have k1 := h1
  have lt1 : ∀ x ∈ p1, x.block < W.heap.size := by obtain ⟨m, hm⟩ := k1; exact DataW.trod_lt m _ _ _ hm
  obtain ⟨cs1, rfl, hcs1⟩ := okWide_struct Try.underlying75 (hval 1 75 v1 rfl rfl)
  obtain ⟨fuel1, hf1⟩ := h1
  obtain ⟨x1, hx1, wf1_⟩ := (open75 _) _ _ _ _ _ _ _ _ hf1
  obtain ⟨A1_0, c1_0, he1, hc1_0, hr1_0⟩ := k75_open hx1
  obtain rfl : cs1 = #[.slice A1_0 x1.f0.length c1_0, .int .i64 x1.f1] := by cases cs1; simp [Value.cells] at he1; simp [he1]
  clear hA0 hval0 hsz0
  obtain ⟨k, h⟩ := Pure.FnExactLedgerOk x0.f0 x0.f1 x0.f2 x1.f0 x1.f1 wf0_.1 wf0_.2.1 wf0_.2.2 wf1_.1 wf1_.2
  refine (laws_FnExactLedgerOk.calls k _ _ x0.f0 x0.f1 x0.f2 _ _ x1.f0 x1.f1 true W hr0_0 hc0_0 hr1_0 hc1_0 h).mono fun e W' hpost => ?_
  obtain ⟨he, bel0⟩ := hpost
  have bel : Below W.heap.size W W' := bel0
  subst he
  exact ⟨_, rfl, _, _, _, [], _, [], hW', trodAll_mk1 (shut_bool Try.underlying4 _), (trodAll_cons_mk (Below.trod laidOut (by kernel_rfl) (of_decide_eq_true (by kernel_rfl)) k0 bel lt0) (trodAll_cons_mk (Below.trod laidOut (by kernel_rfl) (of_decide_eq_true (by kernel_rfl)) k1 bel lt1) trodAll_mk0)), rfl, bel.frame _, fun h => by cases h⟩
theorem closed_name : Try.pinned.checked.prog.funcNamed Rows.fnExactLedgerOkRow.func = some 8 := by kernel_rfl
theorem closed_facts : joinedFacts Try.pinned.checked.prog 8 Try.f8 Rows.fnExactLedgerOkSpec Rows.fnExactLedgerOkRow = true := by kernel_rfl
theorem closed_inst : Try.f8.isInstance Try.pinned.checked.prog Rows.fnExactLedgerOkRow.origin Rows.fnExactLedgerOkRow.targs := of_decide_eq_true (by kernel_rfl)
theorem closed_wrap : Try.f8.isWrapper Try.pinned.checked.prog Rows.fnExactLedgerOkRow.wrapper Rows.fnExactLedgerOkRow.mainSum := by unfold Func.isWrapper; first | (rw [if_pos (by decide +kernel)]; kernel_rfl) | (rw [if_neg (by decide +kernel)]; exact ⟨rfl, rfl⟩)
theorem over : Rows.fnExactLedgerOkRow.holds Try.pinned (OpenSpec.ofChange Rows.fnExactLedgerOkSpec) :=
  OpenClaim.holds_of_wide 8 Try.f8 rfl rfl rfl rfl rfl rfl rfl ⟨rfl, rfl, rfl, rfl, rfl⟩ rfl rfl rfl rfl rfl closed_name Try.func8 closed_facts closed_inst closed_wrap (fun os started H enc _ => lifted os started H enc)
theorem proved : Rows.FnExactLedgerOkSaid := over
#print axioms proved
end Go.Proofs.Ytmpknbdbichdiaa.fnExactLedgerOk
namespace Go.Proofs.Ytmpknbdbichdiaa
theorem fnExactLedgerOk_holds : Rows.FnExactLedgerOkSaid := fnExactLedgerOk.proved
end Go.Proofs.Ytmpknbdbichdiaa
