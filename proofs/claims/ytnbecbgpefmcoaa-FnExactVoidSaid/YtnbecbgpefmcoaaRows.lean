/-
  No cell of these rows narrows 'for every input' (looked for: loops, veiled, ifaces, maps, wideKeys, modest, calm, conditions, laid).
  DERIVED. THE GIVEN ROWS OF THIS SEAT. 11 by the template 'for every input the law returns true; each argument reads behind the call as it read before'; 0 by the template 'total and deterministic' (their statements: YtnbecbgpefmcoaaTotals.lean).
  GIVEN WITH THE SEED: the statements are not yours to turn. If you find one false, say at which input.
  Laid BY PROGRAM, IN A SANDBOX (cutbox-rows.mjs): the forced cells as the released guide's own fill.sh prints them over the translation 65ac111aa16e802f… (all of the seat's roots in one cut). By AI agents, Wed Nov 11 2026. No macro, syntax, notation, axiom, sorry.
-/
import Derived.Test.YtnbecbgpefmcoaaChecked
import GoSem.Claim
import GoSem.ClaimJoined
import GoSem.ClaimMapViews
import Derived.JoinedTies
import Derived.KernelRfl
namespace Go.Proofs.Ytnbecbgpefmcoaa
/- THE CELL 'sum', in the pinned program and in every row, IS THE sha256 OF THE DUMP (.gsa) THAT YtnbecbgpefmcoaaProg.lean LOADS. Nothing in Lean hashes anything: it is a label: what it is worth is what the hold of that sum in a sandbox is worth. -/
noncomputable def Try.pinned : Pinned := { name := "ytnbecbgpefmcoaa", sum := "65ac111aa16e802f958c6950b3cb83acb7bbfa184b4f96fadcb6adbc310a87f0", checked := Try.checked }
namespace Rows
def none {H : Type} : Left H := { results := [], args := [] }

/-- 'laws.FnExactReconcile': WHATEVER THE INPUT: true; the input reads as it did. -/
def fnExactReconcileSpec : ChangeSpec := { name := "fnExactReconcile", fn := fun _ => fun
  | [d1, d2] => { results := [.lit (.bool true)], args := [d1, d2] }
  | _ => none }
def fnExactReconcileRow : OpenClaim := { program := "ytnbecbgpefmcoaa", sum := "65ac111aa16e802f958c6950b3cb83acb7bbfa184b4f96fadcb6adbc310a87f0", func := "loop.example/g00040/laws.FnExactReconcile", spec := "fnExactReconcile", unfollowed := true, recurses := true, plainKeys := false, apart := false }
def FnExactReconcileSaid : Prop := fnExactReconcileRow.holds Try.pinned (OpenSpec.ofChange fnExactReconcileSpec)

/-- ITS FALSE NEIGHBOUR: 'it returns false'. Refute it at one input. -/
def fnExactReconcileWrong : ChangeSpec := { name := "fnExactReconcile", fn := fun _ => fun
  | [d1, d2] => { results := [.lit (.bool false)], args := [d1, d2] }
  | _ => none }
def FnExactReconcileWrongFalsely : Prop := fnExactReconcileRow.holds Try.pinned (OpenSpec.ofChange fnExactReconcileWrong)

/-- 'laws.FnHandedOn': WHATEVER THE INPUT: true; the input reads as it did. -/
def fnHandedOnSpec : ChangeSpec := { name := "fnHandedOn", fn := fun _ => fun
  | [d] => { results := [.lit (.bool true)], args := [d] }
  | _ => none }
def fnHandedOnRow : OpenClaim := { program := "ytnbecbgpefmcoaa", sum := "65ac111aa16e802f958c6950b3cb83acb7bbfa184b4f96fadcb6adbc310a87f0", func := "loop.example/g00040/laws.FnHandedOn", spec := "fnHandedOn", unfollowed := true, recurses := true, plainKeys := false, apart := false }
def FnHandedOnSaid : Prop := fnHandedOnRow.holds Try.pinned (OpenSpec.ofChange fnHandedOnSpec)

/-- ITS FALSE NEIGHBOUR: 'it returns false'. Refute it at one input. -/
def fnHandedOnWrong : ChangeSpec := { name := "fnHandedOn", fn := fun _ => fun
  | [d] => { results := [.lit (.bool false)], args := [d] }
  | _ => none }
def FnHandedOnWrongFalsely : Prop := fnHandedOnRow.holds Try.pinned (OpenSpec.ofChange fnHandedOnWrong)

/-- 'laws.FnPickedShipped': WHATEVER THE INPUT: true; the input reads as it did. -/
def fnPickedShippedSpec : ChangeSpec := { name := "fnPickedShipped", fn := fun _ => fun
  | [d] => { results := [.lit (.bool true)], args := [d] }
  | _ => none }
def fnPickedShippedRow : OpenClaim := { program := "ytnbecbgpefmcoaa", sum := "65ac111aa16e802f958c6950b3cb83acb7bbfa184b4f96fadcb6adbc310a87f0", func := "loop.example/g00040/laws.FnPickedShipped", spec := "fnPickedShipped", unfollowed := true, recurses := true, plainKeys := false, apart := false }
def FnPickedShippedSaid : Prop := fnPickedShippedRow.holds Try.pinned (OpenSpec.ofChange fnPickedShippedSpec)

/-- ITS FALSE NEIGHBOUR: 'it returns false'. Refute it at one input. -/
def fnPickedShippedWrong : ChangeSpec := { name := "fnPickedShipped", fn := fun _ => fun
  | [d] => { results := [.lit (.bool false)], args := [d] }
  | _ => none }
def FnPickedShippedWrongFalsely : Prop := fnPickedShippedRow.holds Try.pinned (OpenSpec.ofChange fnPickedShippedWrong)

/-- 'laws.FnExactLevels': WHATEVER THE INPUT: true; the input reads as it did. -/
def fnExactLevelsSpec : ChangeSpec := { name := "fnExactLevels", fn := fun _ => fun
  | [d] => { results := [.lit (.bool true)], args := [d] }
  | _ => none }
def fnExactLevelsRow : OpenClaim := { program := "ytnbecbgpefmcoaa", sum := "65ac111aa16e802f958c6950b3cb83acb7bbfa184b4f96fadcb6adbc310a87f0", func := "loop.example/g00040/laws.FnExactLevels", spec := "fnExactLevels", plainKeys := false, apart := false }
def FnExactLevelsSaid : Prop := fnExactLevelsRow.holds Try.pinned (OpenSpec.ofChange fnExactLevelsSpec)

/-- ITS FALSE NEIGHBOUR: 'it returns false'. Refute it at one input. -/
def fnExactLevelsWrong : ChangeSpec := { name := "fnExactLevels", fn := fun _ => fun
  | [d] => { results := [.lit (.bool false)], args := [d] }
  | _ => none }
def FnExactLevelsWrongFalsely : Prop := fnExactLevelsRow.holds Try.pinned (OpenSpec.ofChange fnExactLevelsWrong)

/-- 'laws.FnExactTaxReturn': WHATEVER THE INPUT: true; the input reads as it did. -/
def fnExactTaxReturnSpec : ChangeSpec := { name := "fnExactTaxReturn", fn := fun _ => fun
  | [d1, d2, d3] => { results := [.lit (.bool true)], args := [d1, d2, d3] }
  | _ => none }
def fnExactTaxReturnRow : OpenClaim := { program := "ytnbecbgpefmcoaa", sum := "65ac111aa16e802f958c6950b3cb83acb7bbfa184b4f96fadcb6adbc310a87f0", func := "loop.example/g00040/laws.FnExactTaxReturn", spec := "fnExactTaxReturn", unfollowed := true, recurses := true, plainKeys := false, apart := false }
def FnExactTaxReturnSaid : Prop := fnExactTaxReturnRow.holds Try.pinned (OpenSpec.ofChange fnExactTaxReturnSpec)

/-- ITS FALSE NEIGHBOUR: 'it returns false'. Refute it at one input. -/
def fnExactTaxReturnWrong : ChangeSpec := { name := "fnExactTaxReturn", fn := fun _ => fun
  | [d1, d2, d3] => { results := [.lit (.bool false)], args := [d1, d2, d3] }
  | _ => none }
def FnExactTaxReturnWrongFalsely : Prop := fnExactTaxReturnRow.holds Try.pinned (OpenSpec.ofChange fnExactTaxReturnWrong)

/-- 'laws.FnExactVoid': WHATEVER THE INPUT: true; the input reads as it did. -/
def fnExactVoidSpec : ChangeSpec := { name := "fnExactVoid", fn := fun _ => fun
  | [d1, d2] => { results := [.lit (.bool true)], args := [d1, d2] }
  | _ => none }
def fnExactVoidRow : OpenClaim := { program := "ytnbecbgpefmcoaa", sum := "65ac111aa16e802f958c6950b3cb83acb7bbfa184b4f96fadcb6adbc310a87f0", func := "loop.example/g00040/laws.FnExactVoid", spec := "fnExactVoid", recurses := true, plainKeys := false, apart := false }
def FnExactVoidSaid : Prop := fnExactVoidRow.holds Try.pinned (OpenSpec.ofChange fnExactVoidSpec)

/-- ITS FALSE NEIGHBOUR: 'it returns false'. Refute it at one input. -/
def fnExactVoidWrong : ChangeSpec := { name := "fnExactVoid", fn := fun _ => fun
  | [d1, d2] => { results := [.lit (.bool false)], args := [d1, d2] }
  | _ => none }
def FnExactVoidWrongFalsely : Prop := fnExactVoidRow.holds Try.pinned (OpenSpec.ofChange fnExactVoidWrong)

/-- 'laws.FnMutualWhole': WHATEVER THE INPUT: true; the input reads as it did. -/
def fnMutualWholeSpec : ChangeSpec := { name := "fnMutualWhole", fn := fun _ => fun
  | [d] => { results := [.lit (.bool true)], args := [d] }
  | _ => none }
def fnMutualWholeRow : OpenClaim := { program := "ytnbecbgpefmcoaa", sum := "65ac111aa16e802f958c6950b3cb83acb7bbfa184b4f96fadcb6adbc310a87f0", func := "loop.example/g00040/laws.FnMutualWhole", spec := "fnMutualWhole", unfollowed := true, recurses := true, plainKeys := false, apart := false }
def FnMutualWholeSaid : Prop := fnMutualWholeRow.holds Try.pinned (OpenSpec.ofChange fnMutualWholeSpec)

/-- ITS FALSE NEIGHBOUR: 'it returns false'. Refute it at one input. -/
def fnMutualWholeWrong : ChangeSpec := { name := "fnMutualWhole", fn := fun _ => fun
  | [d] => { results := [.lit (.bool false)], args := [d] }
  | _ => none }
def FnMutualWholeWrongFalsely : Prop := fnMutualWholeRow.holds Try.pinned (OpenSpec.ofChange fnMutualWholeWrong)

/-- 'laws.FnExactGroupOk': WHATEVER THE INPUT: true; the input reads as it did. -/
def fnExactGroupOkSpec : ChangeSpec := { name := "fnExactGroupOk", fn := fun _ => fun
  | [d] => { results := [.lit (.bool true)], args := [d] }
  | _ => none }
def fnExactGroupOkRow : OpenClaim := { program := "ytnbecbgpefmcoaa", sum := "65ac111aa16e802f958c6950b3cb83acb7bbfa184b4f96fadcb6adbc310a87f0", func := "loop.example/g00040/laws.FnExactGroupOk", spec := "fnExactGroupOk", plainKeys := false, apart := false }
def FnExactGroupOkSaid : Prop := fnExactGroupOkRow.holds Try.pinned (OpenSpec.ofChange fnExactGroupOkSpec)

/-- ITS FALSE NEIGHBOUR: 'it returns false'. Refute it at one input. -/
def fnExactGroupOkWrong : ChangeSpec := { name := "fnExactGroupOk", fn := fun _ => fun
  | [d] => { results := [.lit (.bool false)], args := [d] }
  | _ => none }
def FnExactGroupOkWrongFalsely : Prop := fnExactGroupOkRow.holds Try.pinned (OpenSpec.ofChange fnExactGroupOkWrong)

/-- 'laws.FnExactEntryOk': WHATEVER THE INPUT: true; the input reads as it did. -/
def fnExactEntryOkSpec : ChangeSpec := { name := "fnExactEntryOk", fn := fun _ => fun
  | [d1, d2] => { results := [.lit (.bool true)], args := [d1, d2] }
  | _ => none }
def fnExactEntryOkRow : OpenClaim := { program := "ytnbecbgpefmcoaa", sum := "65ac111aa16e802f958c6950b3cb83acb7bbfa184b4f96fadcb6adbc310a87f0", func := "loop.example/g00040/laws.FnExactEntryOk", spec := "fnExactEntryOk", plainKeys := false, apart := false }
def FnExactEntryOkSaid : Prop := fnExactEntryOkRow.holds Try.pinned (OpenSpec.ofChange fnExactEntryOkSpec)

/-- ITS FALSE NEIGHBOUR: 'it returns false'. Refute it at one input. -/
def fnExactEntryOkWrong : ChangeSpec := { name := "fnExactEntryOk", fn := fun _ => fun
  | [d1, d2] => { results := [.lit (.bool false)], args := [d1, d2] }
  | _ => none }
def FnExactEntryOkWrongFalsely : Prop := fnExactEntryOkRow.holds Try.pinned (OpenSpec.ofChange fnExactEntryOkWrong)

/-- 'laws.FnLoadAdds': WHATEVER THE INPUT: true; the input reads as it did. -/
def fnLoadAddsSpec : ChangeSpec := { name := "fnLoadAdds", fn := fun _ => fun
  | [d] => { results := [.lit (.bool true)], args := [d] }
  | _ => none }
def fnLoadAddsRow : OpenClaim := { program := "ytnbecbgpefmcoaa", sum := "65ac111aa16e802f958c6950b3cb83acb7bbfa184b4f96fadcb6adbc310a87f0", func := "loop.example/g00040/laws.FnLoadAdds", spec := "fnLoadAdds", unfollowed := true, recurses := true, plainKeys := false, apart := false }
def FnLoadAddsSaid : Prop := fnLoadAddsRow.holds Try.pinned (OpenSpec.ofChange fnLoadAddsSpec)

/-- ITS FALSE NEIGHBOUR: 'it returns false'. Refute it at one input. -/
def fnLoadAddsWrong : ChangeSpec := { name := "fnLoadAdds", fn := fun _ => fun
  | [d] => { results := [.lit (.bool false)], args := [d] }
  | _ => none }
def FnLoadAddsWrongFalsely : Prop := fnLoadAddsRow.holds Try.pinned (OpenSpec.ofChange fnLoadAddsWrong)

/-- 'laws.FnLoadedApart': WHATEVER THE INPUT: true; the input reads as it did. -/
def fnLoadedApartSpec : ChangeSpec := { name := "fnLoadedApart", fn := fun _ => fun
  | [d] => { results := [.lit (.bool true)], args := [d] }
  | _ => none }
def fnLoadedApartRow : OpenClaim := { program := "ytnbecbgpefmcoaa", sum := "65ac111aa16e802f958c6950b3cb83acb7bbfa184b4f96fadcb6adbc310a87f0", func := "loop.example/g00040/laws.FnLoadedApart", spec := "fnLoadedApart", unfollowed := true, recurses := true, plainKeys := false, apart := false }
def FnLoadedApartSaid : Prop := fnLoadedApartRow.holds Try.pinned (OpenSpec.ofChange fnLoadedApartSpec)

/-- ITS FALSE NEIGHBOUR: 'it returns false'. Refute it at one input. -/
def fnLoadedApartWrong : ChangeSpec := { name := "fnLoadedApart", fn := fun _ => fun
  | [d] => { results := [.lit (.bool false)], args := [d] }
  | _ => none }
def FnLoadedApartWrongFalsely : Prop := fnLoadedApartRow.holds Try.pinned (OpenSpec.ofChange fnLoadedApartWrong)

/- THE SECOND FORM. 'bulk': how many values and letters a reading holds, each counted each time it is reached (what is shared counts as often as it is met; a slice's spare places count too). A statement '..UptoSaid' is the law's where the arguments, and the package variables that the reading takes, are together of bulk at most 1048576: NARROWER than '..Said'. Prove '..Said' where nothing that the law and all that it calls make is longer than what came in: it says more and counts as full. Else prove '..UptoSaid'. A law counts once. -/
mutual
def uptoBulk {H : Type} : DataW H → Nat
  | .lit (.string bytes) => bytes.length + 1
  | .lit _ => 1
  | .nil => 1
  | .ptr d => uptoBulk d + 1
  | .slice elems spare => uptoBulkAll elems + uptoBulkAll spare + 1
  | .agg parts => uptoBulkAll parts + 1
  | .iface _ d => uptoBulk d + 1
  | .map entries => uptoBulkEntries entries + 1
  | .held _ => 1
def uptoBulkAll {H : Type} : List (DataW H) → Nat
  | [] => 0
  | d :: r => uptoBulk d + uptoBulkAll r
def uptoBulkEntries {H : Type} : List (Lit × DataW H) → Nat
  | [] => 0
  | x :: r => uptoBulkEntry x + uptoBulkEntries r
def uptoBulkEntry {H : Type} : Lit × DataW H → Nat
  | (.string bytes, d) => bytes.length + uptoBulk d + 1
  | (_, d) => uptoBulk d + 1
 end
def uptoSmall : (H : Type) → List (DataW H) → Bool := fun _ ds => decide (uptoBulkAll ds ≤ 1048576)
def OpenSpec.upto (s : _root_.Go.ChangeSpec) : _root_.Go.OpenSpec := { _root_.Go.OpenSpec.ofChange s with cond := some uptoSmall }

/-- 'laws.FnExactReconcile', WHERE WHAT IT READS IS OF BULK AT MOST 1048576: true; the input reads as it did. -/
def fnExactReconcileUptoRow : OpenClaim := { program := "ytnbecbgpefmcoaa", sum := "65ac111aa16e802f958c6950b3cb83acb7bbfa184b4f96fadcb6adbc310a87f0", func := "loop.example/g00040/laws.FnExactReconcile", spec := "fnExactReconcile", unfollowed := true, recurses := true, plainKeys := false, apart := false, narrowed := true }
def FnExactReconcileUptoSaid : Prop := fnExactReconcileUptoRow.holds Try.pinned (OpenSpec.upto fnExactReconcileSpec)

/-- 'laws.FnHandedOn', WHERE WHAT IT READS IS OF BULK AT MOST 1048576: true; the input reads as it did. -/
def fnHandedOnUptoRow : OpenClaim := { program := "ytnbecbgpefmcoaa", sum := "65ac111aa16e802f958c6950b3cb83acb7bbfa184b4f96fadcb6adbc310a87f0", func := "loop.example/g00040/laws.FnHandedOn", spec := "fnHandedOn", unfollowed := true, recurses := true, plainKeys := false, apart := false, narrowed := true }
def FnHandedOnUptoSaid : Prop := fnHandedOnUptoRow.holds Try.pinned (OpenSpec.upto fnHandedOnSpec)

/-- 'laws.FnPickedShipped', WHERE WHAT IT READS IS OF BULK AT MOST 1048576: true; the input reads as it did. -/
def fnPickedShippedUptoRow : OpenClaim := { program := "ytnbecbgpefmcoaa", sum := "65ac111aa16e802f958c6950b3cb83acb7bbfa184b4f96fadcb6adbc310a87f0", func := "loop.example/g00040/laws.FnPickedShipped", spec := "fnPickedShipped", unfollowed := true, recurses := true, plainKeys := false, apart := false, narrowed := true }
def FnPickedShippedUptoSaid : Prop := fnPickedShippedUptoRow.holds Try.pinned (OpenSpec.upto fnPickedShippedSpec)

/-- 'laws.FnExactLevels', WHERE WHAT IT READS IS OF BULK AT MOST 1048576: true; the input reads as it did. -/
def fnExactLevelsUptoRow : OpenClaim := { program := "ytnbecbgpefmcoaa", sum := "65ac111aa16e802f958c6950b3cb83acb7bbfa184b4f96fadcb6adbc310a87f0", func := "loop.example/g00040/laws.FnExactLevels", spec := "fnExactLevels", plainKeys := false, apart := false, narrowed := true }
def FnExactLevelsUptoSaid : Prop := fnExactLevelsUptoRow.holds Try.pinned (OpenSpec.upto fnExactLevelsSpec)

/-- 'laws.FnExactTaxReturn', WHERE WHAT IT READS IS OF BULK AT MOST 1048576: true; the input reads as it did. -/
def fnExactTaxReturnUptoRow : OpenClaim := { program := "ytnbecbgpefmcoaa", sum := "65ac111aa16e802f958c6950b3cb83acb7bbfa184b4f96fadcb6adbc310a87f0", func := "loop.example/g00040/laws.FnExactTaxReturn", spec := "fnExactTaxReturn", unfollowed := true, recurses := true, plainKeys := false, apart := false, narrowed := true }
def FnExactTaxReturnUptoSaid : Prop := fnExactTaxReturnUptoRow.holds Try.pinned (OpenSpec.upto fnExactTaxReturnSpec)

/-- 'laws.FnExactVoid', WHERE WHAT IT READS IS OF BULK AT MOST 1048576: true; the input reads as it did. -/
def fnExactVoidUptoRow : OpenClaim := { program := "ytnbecbgpefmcoaa", sum := "65ac111aa16e802f958c6950b3cb83acb7bbfa184b4f96fadcb6adbc310a87f0", func := "loop.example/g00040/laws.FnExactVoid", spec := "fnExactVoid", recurses := true, plainKeys := false, apart := false, narrowed := true }
def FnExactVoidUptoSaid : Prop := fnExactVoidUptoRow.holds Try.pinned (OpenSpec.upto fnExactVoidSpec)

/-- 'laws.FnMutualWhole', WHERE WHAT IT READS IS OF BULK AT MOST 1048576: true; the input reads as it did. -/
def fnMutualWholeUptoRow : OpenClaim := { program := "ytnbecbgpefmcoaa", sum := "65ac111aa16e802f958c6950b3cb83acb7bbfa184b4f96fadcb6adbc310a87f0", func := "loop.example/g00040/laws.FnMutualWhole", spec := "fnMutualWhole", unfollowed := true, recurses := true, plainKeys := false, apart := false, narrowed := true }
def FnMutualWholeUptoSaid : Prop := fnMutualWholeUptoRow.holds Try.pinned (OpenSpec.upto fnMutualWholeSpec)

/-- 'laws.FnExactGroupOk', WHERE WHAT IT READS IS OF BULK AT MOST 1048576: true; the input reads as it did. -/
def fnExactGroupOkUptoRow : OpenClaim := { program := "ytnbecbgpefmcoaa", sum := "65ac111aa16e802f958c6950b3cb83acb7bbfa184b4f96fadcb6adbc310a87f0", func := "loop.example/g00040/laws.FnExactGroupOk", spec := "fnExactGroupOk", plainKeys := false, apart := false, narrowed := true }
def FnExactGroupOkUptoSaid : Prop := fnExactGroupOkUptoRow.holds Try.pinned (OpenSpec.upto fnExactGroupOkSpec)

/-- 'laws.FnExactEntryOk', WHERE WHAT IT READS IS OF BULK AT MOST 1048576: true; the input reads as it did. -/
def fnExactEntryOkUptoRow : OpenClaim := { program := "ytnbecbgpefmcoaa", sum := "65ac111aa16e802f958c6950b3cb83acb7bbfa184b4f96fadcb6adbc310a87f0", func := "loop.example/g00040/laws.FnExactEntryOk", spec := "fnExactEntryOk", plainKeys := false, apart := false, narrowed := true }
def FnExactEntryOkUptoSaid : Prop := fnExactEntryOkUptoRow.holds Try.pinned (OpenSpec.upto fnExactEntryOkSpec)

/-- 'laws.FnLoadAdds', WHERE WHAT IT READS IS OF BULK AT MOST 1048576: true; the input reads as it did. -/
def fnLoadAddsUptoRow : OpenClaim := { program := "ytnbecbgpefmcoaa", sum := "65ac111aa16e802f958c6950b3cb83acb7bbfa184b4f96fadcb6adbc310a87f0", func := "loop.example/g00040/laws.FnLoadAdds", spec := "fnLoadAdds", unfollowed := true, recurses := true, plainKeys := false, apart := false, narrowed := true }
def FnLoadAddsUptoSaid : Prop := fnLoadAddsUptoRow.holds Try.pinned (OpenSpec.upto fnLoadAddsSpec)

/-- 'laws.FnLoadedApart', WHERE WHAT IT READS IS OF BULK AT MOST 1048576: true; the input reads as it did. -/
def fnLoadedApartUptoRow : OpenClaim := { program := "ytnbecbgpefmcoaa", sum := "65ac111aa16e802f958c6950b3cb83acb7bbfa184b4f96fadcb6adbc310a87f0", func := "loop.example/g00040/laws.FnLoadedApart", spec := "fnLoadedApart", unfollowed := true, recurses := true, plainKeys := false, apart := false, narrowed := true }
def FnLoadedApartUptoSaid : Prop := fnLoadedApartUptoRow.holds Try.pinned (OpenSpec.upto fnLoadedApartSpec)

end Rows
end Go.Proofs.Ytnbecbgpefmcoaa
