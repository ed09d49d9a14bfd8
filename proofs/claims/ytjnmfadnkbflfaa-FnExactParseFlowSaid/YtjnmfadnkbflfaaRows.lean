/-
  No cell of these rows narrows 'for every input' (looked for: loops, veiled, ifaces, maps, wideKeys, modest, calm, conditions, laid).
  DERIVED. THE GIVEN ROWS OF THIS SEAT. 11 by the template 'for every input the law returns true; each argument reads behind the call as it read before'; 0 by the template 'total and deterministic' (their statements: YtjnmfadnkbflfaaTotals.lean).
  GIVEN WITH THE SEED: the statements are not yours to turn. If you find one false, say at which input.
  Laid BY PROGRAM, IN A SANDBOX (cutbox-rows.mjs): the forced cells as the released guide's own fill.sh prints them over the translation 9862144287727313… (all of the seat's roots in one cut). By AI agents, Wed Nov 11 2026. No macro, syntax, notation, axiom, sorry.
-/
import Derived.Test.YtjnmfadnkbflfaaChecked
import GoSem.Claim
import GoSem.ClaimJoined
import GoSem.ClaimMapViews
import Derived.JoinedTies
import Derived.KernelRfl
namespace Go.Proofs.Ytjnmfadnkbflfaa
/- THE CELL 'sum', in the pinned program and in every row, IS THE sha256 OF THE DUMP (.gsa) THAT YtjnmfadnkbflfaaProg.lean LOADS. Nothing in Lean hashes anything: it is a label: what it is worth is what the hold of that sum in a sandbox is worth. -/
noncomputable def Try.pinned : Pinned := { name := "ytjnmfadnkbflfaa", sum := "98621442877273133afb87d02c20ddaef6584521d3e584cc969a98b7dfed595c", checked := Try.checked }
namespace Rows
def none {H : Type} : Left H := { results := [], args := [] }

/-- 'laws.FnExactEntryOk': WHATEVER THE INPUT: true; the input reads as it did. -/
def fnExactEntryOkSpec : ChangeSpec := { name := "fnExactEntryOk", fn := fun _ => fun
  | [d1, d2] => { results := [.lit (.bool true)], args := [d1, d2] }
  | _ => none }
def fnExactEntryOkRow : OpenClaim := { program := "ytjnmfadnkbflfaa", sum := "98621442877273133afb87d02c20ddaef6584521d3e584cc969a98b7dfed595c", func := "loop.example/g00040/laws.FnExactEntryOk", spec := "fnExactEntryOk", plainKeys := false, apart := false }
def FnExactEntryOkSaid : Prop := fnExactEntryOkRow.holds Try.pinned (OpenSpec.ofChange fnExactEntryOkSpec)

/-- ITS FALSE NEIGHBOUR: 'it returns false'. Refute it at one input. -/
def fnExactEntryOkWrong : ChangeSpec := { name := "fnExactEntryOk", fn := fun _ => fun
  | [d1, d2] => { results := [.lit (.bool false)], args := [d1, d2] }
  | _ => none }
def FnExactEntryOkWrongFalsely : Prop := fnExactEntryOkRow.holds Try.pinned (OpenSpec.ofChange fnExactEntryOkWrong)

/-- 'laws.FnExactShowFlow': WHATEVER THE INPUT: true; the input reads as it did. -/
def fnExactShowFlowSpec : ChangeSpec := { name := "fnExactShowFlow", fn := fun _ => fun
  | [d] => { results := [.lit (.bool true)], args := [d] }
  | _ => none }
def fnExactShowFlowRow : OpenClaim := { program := "ytjnmfadnkbflfaa", sum := "98621442877273133afb87d02c20ddaef6584521d3e584cc969a98b7dfed595c", func := "loop.example/g00040/laws.FnExactShowFlow", spec := "fnExactShowFlow", recurses := true, plainKeys := false, apart := false }
def FnExactShowFlowSaid : Prop := fnExactShowFlowRow.holds Try.pinned (OpenSpec.ofChange fnExactShowFlowSpec)

/-- ITS FALSE NEIGHBOUR: 'it returns false'. Refute it at one input. -/
def fnExactShowFlowWrong : ChangeSpec := { name := "fnExactShowFlow", fn := fun _ => fun
  | [d] => { results := [.lit (.bool false)], args := [d] }
  | _ => none }
def FnExactShowFlowWrongFalsely : Prop := fnExactShowFlowRow.holds Try.pinned (OpenSpec.ofChange fnExactShowFlowWrong)

/-- 'laws.FnExactLevels': WHATEVER THE INPUT: true; the input reads as it did. -/
def fnExactLevelsSpec : ChangeSpec := { name := "fnExactLevels", fn := fun _ => fun
  | [d] => { results := [.lit (.bool true)], args := [d] }
  | _ => none }
def fnExactLevelsRow : OpenClaim := { program := "ytjnmfadnkbflfaa", sum := "98621442877273133afb87d02c20ddaef6584521d3e584cc969a98b7dfed595c", func := "loop.example/g00040/laws.FnExactLevels", spec := "fnExactLevels", plainKeys := false, apart := false }
def FnExactLevelsSaid : Prop := fnExactLevelsRow.holds Try.pinned (OpenSpec.ofChange fnExactLevelsSpec)

/-- ITS FALSE NEIGHBOUR: 'it returns false'. Refute it at one input. -/
def fnExactLevelsWrong : ChangeSpec := { name := "fnExactLevels", fn := fun _ => fun
  | [d] => { results := [.lit (.bool false)], args := [d] }
  | _ => none }
def FnExactLevelsWrongFalsely : Prop := fnExactLevelsRow.holds Try.pinned (OpenSpec.ofChange fnExactLevelsWrong)

/-- 'laws.FnExactParseFlow': WHATEVER THE INPUT: true; the input reads as it did. -/
def fnExactParseFlowSpec : ChangeSpec := { name := "fnExactParseFlow", fn := fun _ => fun
  | [d] => { results := [.lit (.bool true)], args := [d] }
  | _ => none }
def fnExactParseFlowRow : OpenClaim := { program := "ytjnmfadnkbflfaa", sum := "98621442877273133afb87d02c20ddaef6584521d3e584cc969a98b7dfed595c", func := "loop.example/g00040/laws.FnExactParseFlow", spec := "fnExactParseFlow", recurses := true, plainKeys := false, apart := false }
def FnExactParseFlowSaid : Prop := fnExactParseFlowRow.holds Try.pinned (OpenSpec.ofChange fnExactParseFlowSpec)

/-- ITS FALSE NEIGHBOUR: 'it returns false'. Refute it at one input. -/
def fnExactParseFlowWrong : ChangeSpec := { name := "fnExactParseFlow", fn := fun _ => fun
  | [d] => { results := [.lit (.bool false)], args := [d] }
  | _ => none }
def FnExactParseFlowWrongFalsely : Prop := fnExactParseFlowRow.holds Try.pinned (OpenSpec.ofChange fnExactParseFlowWrong)

/-- 'laws.FnExactNeeded': WHATEVER THE INPUT: true; the input reads as it did. -/
def fnExactNeededSpec : ChangeSpec := { name := "fnExactNeeded", fn := fun _ => fun
  | [d1, d2] => { results := [.lit (.bool true)], args := [d1, d2] }
  | _ => none }
def fnExactNeededRow : OpenClaim := { program := "ytjnmfadnkbflfaa", sum := "98621442877273133afb87d02c20ddaef6584521d3e584cc969a98b7dfed595c", func := "loop.example/g00040/laws.FnExactNeeded", spec := "fnExactNeeded", recurses := true, plainKeys := false, apart := false }
def FnExactNeededSaid : Prop := fnExactNeededRow.holds Try.pinned (OpenSpec.ofChange fnExactNeededSpec)

/-- ITS FALSE NEIGHBOUR: 'it returns false'. Refute it at one input. -/
def fnExactNeededWrong : ChangeSpec := { name := "fnExactNeeded", fn := fun _ => fun
  | [d1, d2] => { results := [.lit (.bool false)], args := [d1, d2] }
  | _ => none }
def FnExactNeededWrongFalsely : Prop := fnExactNeededRow.holds Try.pinned (OpenSpec.ofChange fnExactNeededWrong)

/-- 'laws.FnExactOutput': WHATEVER THE INPUT: true; the input reads as it did. -/
def fnExactOutputSpec : ChangeSpec := { name := "fnExactOutput", fn := fun _ => fun
  | [d1, d2, d3, d4] => { results := [.lit (.bool true)], args := [d1, d2, d3, d4] }
  | _ => none }
def fnExactOutputRow : OpenClaim := { program := "ytjnmfadnkbflfaa", sum := "98621442877273133afb87d02c20ddaef6584521d3e584cc969a98b7dfed595c", func := "loop.example/g00040/laws.FnExactOutput", spec := "fnExactOutput", plainKeys := false, apart := false }
def FnExactOutputSaid : Prop := fnExactOutputRow.holds Try.pinned (OpenSpec.ofChange fnExactOutputSpec)

/-- ITS FALSE NEIGHBOUR: 'it returns false'. Refute it at one input. -/
def fnExactOutputWrong : ChangeSpec := { name := "fnExactOutput", fn := fun _ => fun
  | [d1, d2, d3, d4] => { results := [.lit (.bool false)], args := [d1, d2, d3, d4] }
  | _ => none }
def FnExactOutputWrongFalsely : Prop := fnExactOutputRow.holds Try.pinned (OpenSpec.ofChange fnExactOutputWrong)

/-- 'laws.FnExactSchemeOk': WHATEVER THE INPUT: true; the input reads as it did. -/
def fnExactSchemeOkSpec : ChangeSpec := { name := "fnExactSchemeOk", fn := fun _ => fun
  | [d] => { results := [.lit (.bool true)], args := [d] }
  | _ => none }
def fnExactSchemeOkRow : OpenClaim := { program := "ytjnmfadnkbflfaa", sum := "98621442877273133afb87d02c20ddaef6584521d3e584cc969a98b7dfed595c", func := "loop.example/g00040/laws.FnExactSchemeOk", spec := "fnExactSchemeOk", unfollowed := true, recurses := true, plainKeys := false, apart := false }
def FnExactSchemeOkSaid : Prop := fnExactSchemeOkRow.holds Try.pinned (OpenSpec.ofChange fnExactSchemeOkSpec)

/-- ITS FALSE NEIGHBOUR: 'it returns false'. Refute it at one input. -/
def fnExactSchemeOkWrong : ChangeSpec := { name := "fnExactSchemeOk", fn := fun _ => fun
  | [d] => { results := [.lit (.bool false)], args := [d] }
  | _ => none }
def FnExactSchemeOkWrongFalsely : Prop := fnExactSchemeOkRow.holds Try.pinned (OpenSpec.ofChange fnExactSchemeOkWrong)

/-- 'laws.FnExactReportOk': WHATEVER THE INPUT: true; the input reads as it did. -/
def fnExactReportOkSpec : ChangeSpec := { name := "fnExactReportOk", fn := fun _ => fun
  | [d] => { results := [.lit (.bool true)], args := [d] }
  | _ => none }
def fnExactReportOkRow : OpenClaim := { program := "ytjnmfadnkbflfaa", sum := "98621442877273133afb87d02c20ddaef6584521d3e584cc969a98b7dfed595c", func := "loop.example/g00040/laws.FnExactReportOk", spec := "fnExactReportOk", unfollowed := true, recurses := true, plainKeys := false, apart := false }
def FnExactReportOkSaid : Prop := fnExactReportOkRow.holds Try.pinned (OpenSpec.ofChange fnExactReportOkSpec)

/-- ITS FALSE NEIGHBOUR: 'it returns false'. Refute it at one input. -/
def fnExactReportOkWrong : ChangeSpec := { name := "fnExactReportOk", fn := fun _ => fun
  | [d] => { results := [.lit (.bool false)], args := [d] }
  | _ => none }
def FnExactReportOkWrongFalsely : Prop := fnExactReportOkRow.holds Try.pinned (OpenSpec.ofChange fnExactReportOkWrong)

/-- 'laws.FnExactShowReport': WHATEVER THE INPUT: true; the input reads as it did. -/
def fnExactShowReportSpec : ChangeSpec := { name := "fnExactShowReport", fn := fun _ => fun
  | [d] => { results := [.lit (.bool true)], args := [d] }
  | _ => none }
def fnExactShowReportRow : OpenClaim := { program := "ytjnmfadnkbflfaa", sum := "98621442877273133afb87d02c20ddaef6584521d3e584cc969a98b7dfed595c", func := "loop.example/g00040/laws.FnExactShowReport", spec := "fnExactShowReport", unfollowed := true, recurses := true, plainKeys := false, apart := false }
def FnExactShowReportSaid : Prop := fnExactShowReportRow.holds Try.pinned (OpenSpec.ofChange fnExactShowReportSpec)

/-- ITS FALSE NEIGHBOUR: 'it returns false'. Refute it at one input. -/
def fnExactShowReportWrong : ChangeSpec := { name := "fnExactShowReport", fn := fun _ => fun
  | [d] => { results := [.lit (.bool false)], args := [d] }
  | _ => none }
def FnExactShowReportWrongFalsely : Prop := fnExactShowReportRow.holds Try.pinned (OpenSpec.ofChange fnExactShowReportWrong)

/-- 'laws.FnExactMutual': WHATEVER THE INPUT: true; the input reads as it did. -/
def fnExactMutualSpec : ChangeSpec := { name := "fnExactMutual", fn := fun _ => fun
  | [d1, d2, d3] => { results := [.lit (.bool true)], args := [d1, d2, d3] }
  | _ => none }
def fnExactMutualRow : OpenClaim := { program := "ytjnmfadnkbflfaa", sum := "98621442877273133afb87d02c20ddaef6584521d3e584cc969a98b7dfed595c", func := "loop.example/g00040/laws.FnExactMutual", spec := "fnExactMutual", unfollowed := true, recurses := true, plainKeys := false, apart := false }
def FnExactMutualSaid : Prop := fnExactMutualRow.holds Try.pinned (OpenSpec.ofChange fnExactMutualSpec)

/-- ITS FALSE NEIGHBOUR: 'it returns false'. Refute it at one input. -/
def fnExactMutualWrong : ChangeSpec := { name := "fnExactMutual", fn := fun _ => fun
  | [d1, d2, d3] => { results := [.lit (.bool false)], args := [d1, d2, d3] }
  | _ => none }
def FnExactMutualWrongFalsely : Prop := fnExactMutualRow.holds Try.pinned (OpenSpec.ofChange fnExactMutualWrong)

/-- 'laws.FnExactTrace': WHATEVER THE INPUT: true; the input reads as it did. -/
def fnExactTraceSpec : ChangeSpec := { name := "fnExactTrace", fn := fun _ => fun
  | [d1, d2, d3, d4] => { results := [.lit (.bool true)], args := [d1, d2, d3, d4] }
  | _ => none }
def fnExactTraceRow : OpenClaim := { program := "ytjnmfadnkbflfaa", sum := "98621442877273133afb87d02c20ddaef6584521d3e584cc969a98b7dfed595c", func := "loop.example/g00040/laws.FnExactTrace", spec := "fnExactTrace", unfollowed := true, recurses := true, plainKeys := false, apart := false }
def FnExactTraceSaid : Prop := fnExactTraceRow.holds Try.pinned (OpenSpec.ofChange fnExactTraceSpec)

/-- ITS FALSE NEIGHBOUR: 'it returns false'. Refute it at one input. -/
def fnExactTraceWrong : ChangeSpec := { name := "fnExactTrace", fn := fun _ => fun
  | [d1, d2, d3, d4] => { results := [.lit (.bool false)], args := [d1, d2, d3, d4] }
  | _ => none }
def FnExactTraceWrongFalsely : Prop := fnExactTraceRow.holds Try.pinned (OpenSpec.ofChange fnExactTraceWrong)

/- THE SECOND FORM. 'bulk': how many values and letters a reading holds, each counted each time it is reached (what is shared counts as often as it is met; a slice's spare places count too). A statement '..UptoSaid' is the law's where the arguments, and the package variables that the reading takes, are together of bulk at most 1048576: NARROWER than '..Said'. Prove '..Said' where nothing that the law and all that it calls make is longer than what came in: it says more and counts as full. Else prove '..UptoSaid'. A law counts once. -/
mutual
def uptoBulk {H : Type} : DataW H → Nat
  | .lit (.string bytes) => bytes.length + 1
  | .lit _ => 1
  | .nil => 1
  | .ptr d => uptoBulk d + 1
  | .slice elems spare => uptoBulkAll elems + uptoBulkAll spare + 1
  | .agg parts => uptoBulkAll parts + 1
  | .iface _ d => uptoBulk d + 1
  | .map entries => uptoBulkEntries entries + 1
  | .held _ => 1
def uptoBulkAll {H : Type} : List (DataW H) → Nat
  | [] => 0
  | d :: r => uptoBulk d + uptoBulkAll r
def uptoBulkEntries {H : Type} : List (Lit × DataW H) → Nat
  | [] => 0
  | x :: r => uptoBulkEntry x + uptoBulkEntries r
def uptoBulkEntry {H : Type} : Lit × DataW H → Nat
  | (.string bytes, d) => bytes.length + uptoBulk d + 1
  | (_, d) => uptoBulk d + 1
 end
def uptoSmall : (H : Type) → List (DataW H) → Bool := fun _ ds => decide (uptoBulkAll ds ≤ 1048576)
def OpenSpec.upto (s : _root_.Go.ChangeSpec) : _root_.Go.OpenSpec := { _root_.Go.OpenSpec.ofChange s with cond := some uptoSmall }

/-- 'laws.FnExactEntryOk', WHERE WHAT IT READS IS OF BULK AT MOST 1048576: true; the input reads as it did. -/
def fnExactEntryOkUptoRow : OpenClaim := { program := "ytjnmfadnkbflfaa", sum := "98621442877273133afb87d02c20ddaef6584521d3e584cc969a98b7dfed595c", func := "loop.example/g00040/laws.FnExactEntryOk", spec := "fnExactEntryOk", plainKeys := false, apart := false, narrowed := true }
def FnExactEntryOkUptoSaid : Prop := fnExactEntryOkUptoRow.holds Try.pinned (OpenSpec.upto fnExactEntryOkSpec)

/-- 'laws.FnExactShowFlow', WHERE WHAT IT READS IS OF BULK AT MOST 1048576: true; the input reads as it did. -/
def fnExactShowFlowUptoRow : OpenClaim := { program := "ytjnmfadnkbflfaa", sum := "98621442877273133afb87d02c20ddaef6584521d3e584cc969a98b7dfed595c", func := "loop.example/g00040/laws.FnExactShowFlow", spec := "fnExactShowFlow", recurses := true, plainKeys := false, apart := false, narrowed := true }
def FnExactShowFlowUptoSaid : Prop := fnExactShowFlowUptoRow.holds Try.pinned (OpenSpec.upto fnExactShowFlowSpec)

/-- 'laws.FnExactLevels', WHERE WHAT IT READS IS OF BULK AT MOST 1048576: true; the input reads as it did. -/
def fnExactLevelsUptoRow : OpenClaim := { program := "ytjnmfadnkbflfaa", sum := "98621442877273133afb87d02c20ddaef6584521d3e584cc969a98b7dfed595c", func := "loop.example/g00040/laws.FnExactLevels", spec := "fnExactLevels", plainKeys := false, apart := false, narrowed := true }
def FnExactLevelsUptoSaid : Prop := fnExactLevelsUptoRow.holds Try.pinned (OpenSpec.upto fnExactLevelsSpec)

/-- 'laws.FnExactParseFlow', WHERE WHAT IT READS IS OF BULK AT MOST 1048576: true; the input reads as it did. -/
def fnExactParseFlowUptoRow : OpenClaim := { program := "ytjnmfadnkbflfaa", sum := "98621442877273133afb87d02c20ddaef6584521d3e584cc969a98b7dfed595c", func := "loop.example/g00040/laws.FnExactParseFlow", spec := "fnExactParseFlow", recurses := true, plainKeys := false, apart := false, narrowed := true }
def FnExactParseFlowUptoSaid : Prop := fnExactParseFlowUptoRow.holds Try.pinned (OpenSpec.upto fnExactParseFlowSpec)

/-- 'laws.FnExactNeeded', WHERE WHAT IT READS IS OF BULK AT MOST 1048576: true; the input reads as it did. -/
def fnExactNeededUptoRow : OpenClaim := { program := "ytjnmfadnkbflfaa", sum := "98621442877273133afb87d02c20ddaef6584521d3e584cc969a98b7dfed595c", func := "loop.example/g00040/laws.FnExactNeeded", spec := "fnExactNeeded", recurses := true, plainKeys := false, apart := false, narrowed := true }
def FnExactNeededUptoSaid : Prop := fnExactNeededUptoRow.holds Try.pinned (OpenSpec.upto fnExactNeededSpec)

/-- 'laws.FnExactOutput', WHERE WHAT IT READS IS OF BULK AT MOST 1048576: true; the input reads as it did. -/
def fnExactOutputUptoRow : OpenClaim := { program := "ytjnmfadnkbflfaa", sum := "98621442877273133afb87d02c20ddaef6584521d3e584cc969a98b7dfed595c", func := "loop.example/g00040/laws.FnExactOutput", spec := "fnExactOutput", plainKeys := false, apart := false, narrowed := true }
def FnExactOutputUptoSaid : Prop := fnExactOutputUptoRow.holds Try.pinned (OpenSpec.upto fnExactOutputSpec)

/-- 'laws.FnExactSchemeOk', WHERE WHAT IT READS IS OF BULK AT MOST 1048576: true; the input reads as it did. -/
def fnExactSchemeOkUptoRow : OpenClaim := { program := "ytjnmfadnkbflfaa", sum := "98621442877273133afb87d02c20ddaef6584521d3e584cc969a98b7dfed595c", func := "loop.example/g00040/laws.FnExactSchemeOk", spec := "fnExactSchemeOk", unfollowed := true, recurses := true, plainKeys := false, apart := false, narrowed := true }
def FnExactSchemeOkUptoSaid : Prop := fnExactSchemeOkUptoRow.holds Try.pinned (OpenSpec.upto fnExactSchemeOkSpec)

/-- 'laws.FnExactReportOk', WHERE WHAT IT READS IS OF BULK AT MOST 1048576: true; the input reads as it did. -/
def fnExactReportOkUptoRow : OpenClaim := { program := "ytjnmfadnkbflfaa", sum := "98621442877273133afb87d02c20ddaef6584521d3e584cc969a98b7dfed595c", func := "loop.example/g00040/laws.FnExactReportOk", spec := "fnExactReportOk", unfollowed := true, recurses := true, plainKeys := false, apart := false, narrowed := true }
def FnExactReportOkUptoSaid : Prop := fnExactReportOkUptoRow.holds Try.pinned (OpenSpec.upto fnExactReportOkSpec)

/-- 'laws.FnExactShowReport', WHERE WHAT IT READS IS OF BULK AT MOST 1048576: true; the input reads as it did. -/
def fnExactShowReportUptoRow : OpenClaim := { program := "ytjnmfadnkbflfaa", sum := "98621442877273133afb87d02c20ddaef6584521d3e584cc969a98b7dfed595c", func := "loop.example/g00040/laws.FnExactShowReport", spec := "fnExactShowReport", unfollowed := true, recurses := true, plainKeys := false, apart := false, narrowed := true }
def FnExactShowReportUptoSaid : Prop := fnExactShowReportUptoRow.holds Try.pinned (OpenSpec.upto fnExactShowReportSpec)

/-- 'laws.FnExactMutual', WHERE WHAT IT READS IS OF BULK AT MOST 1048576: true; the input reads as it did. -/
def fnExactMutualUptoRow : OpenClaim := { program := "ytjnmfadnkbflfaa", sum := "98621442877273133afb87d02c20ddaef6584521d3e584cc969a98b7dfed595c", func := "loop.example/g00040/laws.FnExactMutual", spec := "fnExactMutual", unfollowed := true, recurses := true, plainKeys := false, apart := false, narrowed := true }
def FnExactMutualUptoSaid : Prop := fnExactMutualUptoRow.holds Try.pinned (OpenSpec.upto fnExactMutualSpec)

/-- 'laws.FnExactTrace', WHERE WHAT IT READS IS OF BULK AT MOST 1048576: true; the input reads as it did. -/
def fnExactTraceUptoRow : OpenClaim := { program := "ytjnmfadnkbflfaa", sum := "98621442877273133afb87d02c20ddaef6584521d3e584cc969a98b7dfed595c", func := "loop.example/g00040/laws.FnExactTrace", spec := "fnExactTrace", unfollowed := true, recurses := true, plainKeys := false, apart := false, narrowed := true }
def FnExactTraceUptoSaid : Prop := fnExactTraceUptoRow.holds Try.pinned (OpenSpec.upto fnExactTraceSpec)

end Rows
end Go.Proofs.Ytjnmfadnkbflfaa
