import Derived.Test.YtjnmfadnkbflfaaRows
import Derived.Test.YtjnmfadnkbflfaaEPFnExactEntryOkx13
import Derived.Test.YtjnmfadnkbflfaaEPureFnExactEntryOk
import Derived.Test.YtjnmfadnkbflfaaEOpenWords
import Derived.WalkKit
import Derived.ProofKit
import Derived.OpenShut
import Derived.ShutString
import Derived.ChangeOld
import Derived.Below
import Derived.SizedLaws
import Derived.Test.YtjnmfadnkbflfaaEWSized
namespace Go.Proofs.Ytjnmfadnkbflfaa.fnExactEntryOk
open Go.ChangeShapes Go.WideShapes Go.ChangeAt Go.RowKit Go.Proofs.Ytjnmfadnkbflfaa.PFnExactEntryOk
open Go.Proofs.Ytjnmfadnkbflfaa.OpenWords Go.Proofs.YtjnmfadnkbflfaaW.PrintWords Go.Proofs.YtjnmfadnkbflfaaW.PrintLast
open Go.ChangeMaps (open_string shut_string)
set_option linter.unusedVariables false
theorem own : ownKnob Try.prog.godebug = none := by kernel_rfl
theorem laidOut : laidOutB Try.prog = true := by kernel_rfl
theorem open185 (w : World) : Opens Try.prog w k185 wf185 185 := by
  have h := opens_struct (P := Try.prog) (w := w) (fun x : S185 => (x.f0, x.f1, x.f2)) (fun p => ⟨p.1, p.2.1, p.2.2⟩) (fun _ => rfl) Try.underlying185 (by kernel_rfl) (openF_cons (opens_string Try.underlying9) rfl (by kernel_rfl) (openF_cons (opens_int Try.underlying3) rfl (by kernel_rfl) (openF_one (opens_int Try.underlying3) rfl (by kernel_rfl))))
  exact h
theorem open24 (w : World) : Opens Try.prog w k24 wf24 24 := by
  have h := opens_struct (P := Try.prog) (w := w) (fun x : S24 => (x.f0, x.f1, x.f2)) (fun p => ⟨p.1, p.2.1, p.2.2⟩) (fun _ => rfl) Try.underlying24 (by kernel_rfl) (openF_cons (opens_slice Try.underlying22 (by kernel_rfl) (open185 _)) rfl (by kernel_rfl) (openF_cons (opens_int Try.underlying3) rfl (by kernel_rfl) (openF_one (opens_int Try.underlying3) rfl (by kernel_rfl))))
  exact h
theorem open191 (w : World) : Opens Try.prog w k191 wf191 191 := by
  have h := opens_struct (P := Try.prog) (w := w) (fun x : S191 => (x.f0, x.f1, x.f2, x.f3, x.f4)) (fun p => ⟨p.1, p.2.1, p.2.2.1, p.2.2.2.1, p.2.2.2.2⟩) (fun _ => rfl) Try.underlying191 (by kernel_rfl) (openF_cons (opens_int Try.underlying3) rfl (by kernel_rfl) (openF_cons (opens_int Try.underlying3) rfl (by kernel_rfl) (openF_cons (opens_int Try.underlying3) rfl (by kernel_rfl) (openF_cons (opens_int Try.underlying3) rfl (by kernel_rfl) (openF_one (opens_int Try.underlying3) rfl (by kernel_rfl))))))
  exact h
theorem open27 (w : World) : Opens Try.prog w k27 wf27 27 := by
  have h := opens_struct (P := Try.prog) (w := w) (fun x : S27 => (x.f0, x.f1, x.f2, x.f3)) (fun p => ⟨p.1, p.2.1, p.2.2.1, p.2.2.2⟩) (fun _ => rfl) Try.underlying27 (by kernel_rfl) (openF_cons (opens_int Try.underlying3) rfl (by kernel_rfl) (openF_cons (opens_int Try.underlying3) rfl (by kernel_rfl) (openF_cons (opens_string Try.underlying9) rfl (by kernel_rfl) (openF_one (opens_slice Try.underlying25 (by kernel_rfl) (open191 _)) rfl (by kernel_rfl)))))
  exact h
set_option maxRecDepth 100000 in
theorem lifted (os : Os) (started : os.Started) (H : Type) (enc : TypeId × Value → H) :
    ReturnsInHanded {} Try.checked os 3 .any (Rows.fnExactEntryOkSpec.pre6 enc Try.prog Try.f3 Rows.fnExactEntryOkRow.domain false) (Rows.fnExactEntryOkSpec.post enc Try.prog Try.f3 false true false false) := by
  refine returnsInHanded_of_change_sized (C := Try.checked) own started (by kernel_rfl) Try.func3
    (ChangeSpec.witness6 (enc := enc) (C := Try.checked) false ⟨#[], #[.agg #[.slice none 0 0, .int .i64 0, .int .i64 0], .agg #[.int .i64 0, .int .i64 0, .string ByteArray.empty, .slice none 0 0]], []⟩ 8 (by kernel_rfl) (by kernel_rfl) (by kernel_rfl) (by kernel_rfl)) ?_
  intro W base args ds gs before hval0 hW hcnd hsz0 _
  have hval : ∀ (j : Nat) t v, Try.f3.params[j]? = some t → args[j]? = some v → Value.okWide Try.prog W .any base t v := hval0
  have hW' := hW
  obtain ⟨p, q, hA0, hV, rfl, hfz, hnd⟩ := hW
  have hA : DataW.TrodAll enc Try.prog W 0 (fun _ => true) true Try.f3.params.toList args.toList ds p := hA0
  rw [Try.params3] at hA hval
  obtain ⟨v0, vs0, d0, ds0, p0, q0, hargs, rfl, rfl, h0, r0⟩ := trodAll_cons hA
  obtain ⟨v1, vs1, d1, ds1, p1, q1, rfl, rfl, rfl, h1, r1⟩ := trodAll_cons r0
  obtain ⟨rfl, rfl, rfl⟩ := trodAll_nil r1
  obtain rfl : args = #[v0, v1] := by cases args; simp_all
  obtain ⟨rfl, rfl⟩ := trodVars_none hV
  have k0 := h0
  have lt0 : ∀ x ∈ p0, x.block < W.heap.size := by obtain ⟨m, hm⟩ := k0; exact DataW.trod_lt m _ _ _ hm
  obtain ⟨cs0, rfl, hcs0⟩ := okWide_struct Try.underlying24 (hval 0 24 v0 rfl rfl)
  obtain ⟨fuel0, hf0⟩ := h0
  obtain ⟨x0, hx0, wf0_⟩ := (open24 _) _ _ _ _ _ _ _ _ hf0
  obtain ⟨A0_0, c0_0, he0, hc0_0, hr0_0⟩ := k24_open hx0
  obtain rfl : cs0 = #[.slice A0_0 x0.f0.length c0_0, .int .i64 x0.f1, .int .i64 x0.f2] := by cases cs0; simp [Value.cells] at he0; simp [he0]
  have k1 := h1
  have lt1 : ∀ x ∈ p1, x.block < W.heap.size := by obtain ⟨m, hm⟩ := k1; exact DataW.trod_lt m _ _ _ hm
  obtain ⟨cs1, rfl, hcs1⟩ := okWide_struct Try.underlying27 (hval 1 27 v1 rfl rfl)
  obtain ⟨fuel1, hf1⟩ := h1
  obtain ⟨x1, hx1, wf1_⟩ := (open27 _) _ _ _ _ _ _ _ _ hf1
  obtain ⟨A1_3, c1_3, he1, hc1_3, hr1_3⟩ := k27_open hx1
  obtain rfl : cs1 = #[.int .i64 x1.f0, .int .i64 x1.f1, .string x1.f2, .slice A1_3 x1.f3.length c1_3] := by cases cs1; simp [Value.cells] at he1; simp [he1]
  clear hA0 hval0 hsz0
  obtain ⟨k, h⟩ := Pure.FnExactEntryOk x0.f0 x0.f1 x0.f2 x1.f0 x1.f1 x1.f2 x1.f3 wf0_.1 wf0_.2.1 wf0_.2.2 wf1_.1 wf1_.2.1 wf1_.2.2.1 wf1_.2.2.2
  refine (laws_FnExactEntryOk.calls k _ _ x0.f0 x0.f1 x0.f2 x1.f0 x1.f1 x1.f2 _ _ x1.f3 true W hr0_0 hc0_0 hr1_3 hc1_3 h).mono fun e W' hpost => ?_
  obtain ⟨he, bel0⟩ := hpost
  have bel : Below W.heap.size W W' := bel0
  subst he
  exact ⟨_, rfl, _, _, _, [], _, [], hW', trodAll_mk1 (shut_bool Try.underlying4 _), (trodAll_cons_mk (Below.trod laidOut (by kernel_rfl) (of_decide_eq_true (by kernel_rfl)) k0 bel lt0) (trodAll_cons_mk (Below.trod laidOut (by kernel_rfl) (of_decide_eq_true (by kernel_rfl)) k1 bel lt1) trodAll_mk0)), rfl, bel.frame _, fun h => by cases h⟩
theorem closed_name : Try.pinned.checked.prog.funcNamed Rows.fnExactEntryOkRow.func = some 3 := by kernel_rfl
theorem closed_facts : joinedFacts Try.pinned.checked.prog 3 Try.f3 Rows.fnExactEntryOkSpec Rows.fnExactEntryOkRow = true := by kernel_rfl
theorem closed_inst : Try.f3.isInstance Try.pinned.checked.prog Rows.fnExactEntryOkRow.origin Rows.fnExactEntryOkRow.targs := of_decide_eq_true (by kernel_rfl)
theorem closed_wrap : Try.f3.isWrapper Try.pinned.checked.prog Rows.fnExactEntryOkRow.wrapper Rows.fnExactEntryOkRow.mainSum := by unfold Func.isWrapper; first | (rw [if_pos (by decide +kernel)]; kernel_rfl) | (rw [if_neg (by decide +kernel)]; exact ⟨rfl, rfl⟩)
theorem over : Rows.fnExactEntryOkRow.holds Try.pinned (OpenSpec.ofChange Rows.fnExactEntryOkSpec) :=
  OpenClaim.holds_of_wide 3 Try.f3 rfl rfl rfl rfl rfl rfl rfl ⟨rfl, rfl, rfl, rfl, rfl⟩ rfl rfl rfl rfl rfl closed_name Try.func3 closed_facts closed_inst closed_wrap (fun os started H enc _ => lifted os started H enc)
theorem proved : Rows.FnExactEntryOkSaid := over
#print axioms proved
end Go.Proofs.Ytjnmfadnkbflfaa.fnExactEntryOk
namespace Go.Proofs.Ytjnmfadnkbflfaa
theorem fnExactEntryOk_holds : Rows.FnExactEntryOkSaid := fnExactEntryOk.proved
end Go.Proofs.Ytjnmfadnkbflfaa
