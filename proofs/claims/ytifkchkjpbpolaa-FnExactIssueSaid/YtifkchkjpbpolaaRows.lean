/-
  No cell of these rows narrows 'for every input' (looked for: loops, veiled, ifaces, maps, wideKeys, modest, calm, conditions, laid).
  DERIVED. THE GIVEN ROWS OF THIS SEAT. 10 by the template 'for every input the law returns true; each argument reads behind the call as it read before'; 0 by the template 'total and deterministic' (their statements: YtifkchkjpbpolaaTotals.lean).
  GIVEN WITH THE SEED: the statements are not yours to turn. If you find one false, say at which input.
  Laid BY PROGRAM, IN A SANDBOX (cutbox-rows.mjs): the forced cells as the released guide's own fill.sh prints them over the translation 709c62f92de68aea… (all of the seat's roots in one cut). By AI agents, Wed Nov 11 2026. No macro, syntax, notation, axiom, sorry.
-/
import Derived.Test.YtifkchkjpbpolaaChecked
import GoSem.Claim
import GoSem.ClaimJoined
import GoSem.ClaimMapViews
import Derived.JoinedTies
import Derived.KernelRfl
namespace Go.Proofs.Ytifkchkjpbpolaa
/- THE CELL 'sum', in the pinned program and in every row, IS THE sha256 OF THE DUMP (.gsa) THAT YtifkchkjpbpolaaProg.lean LOADS. Nothing in Lean hashes anything: it is a label: what it is worth is what the hold of that sum in a sandbox is worth. -/
noncomputable def Try.pinned : Pinned := { name := "ytifkchkjpbpolaa", sum := "709c62f92de68aea5b1ece0f76174eb1bac536bbad020155bb6b1c34017ce578", checked := Try.checked }
namespace Rows
def none {H : Type} : Left H := { results := [], args := [] }

/-- 'laws.FnExactIssue': WHATEVER THE INPUT: true; the input reads as it did. -/
def fnExactIssueSpec : ChangeSpec := { name := "fnExactIssue", fn := fun _ => fun
  | [d1, d2, d3] => { results := [.lit (.bool true)], args := [d1, d2, d3] }
  | _ => none }
def fnExactIssueRow : OpenClaim := { program := "ytifkchkjpbpolaa", sum := "709c62f92de68aea5b1ece0f76174eb1bac536bbad020155bb6b1c34017ce578", func := "loop.example/g00040/laws.FnExactIssue", spec := "fnExactIssue", recurses := true, plainKeys := false, apart := false }
def FnExactIssueSaid : Prop := fnExactIssueRow.holds Try.pinned (OpenSpec.ofChange fnExactIssueSpec)

/-- ITS FALSE NEIGHBOUR: 'it returns false'. Refute it at one input. -/
def fnExactIssueWrong : ChangeSpec := { name := "fnExactIssue", fn := fun _ => fun
  | [d1, d2, d3] => { results := [.lit (.bool false)], args := [d1, d2, d3] }
  | _ => none }
def FnExactIssueWrongFalsely : Prop := fnExactIssueRow.holds Try.pinned (OpenSpec.ofChange fnExactIssueWrong)

/-- 'laws.FnExactReadBank': WHATEVER THE INPUT: true; the input reads as it did. -/
def fnExactReadBankSpec : ChangeSpec := { name := "fnExactReadBank", fn := fun _ => fun
  | [d] => { results := [.lit (.bool true)], args := [d] }
  | _ => none }
def fnExactReadBankRow : OpenClaim := { program := "ytifkchkjpbpolaa", sum := "709c62f92de68aea5b1ece0f76174eb1bac536bbad020155bb6b1c34017ce578", func := "loop.example/g00040/laws.FnExactReadBank", spec := "fnExactReadBank", recurses := true, plainKeys := false, apart := false }
def FnExactReadBankSaid : Prop := fnExactReadBankRow.holds Try.pinned (OpenSpec.ofChange fnExactReadBankSpec)

/-- ITS FALSE NEIGHBOUR: 'it returns false'. Refute it at one input. -/
def fnExactReadBankWrong : ChangeSpec := { name := "fnExactReadBank", fn := fun _ => fun
  | [d] => { results := [.lit (.bool false)], args := [d] }
  | _ => none }
def FnExactReadBankWrongFalsely : Prop := fnExactReadBankRow.holds Try.pinned (OpenSpec.ofChange fnExactReadBankWrong)

/-- 'laws.FnBankBack': WHATEVER THE INPUT: true; the input reads as it did. -/
def fnBankBackSpec : ChangeSpec := { name := "fnBankBack", fn := fun _ => fun
  | [d] => { results := [.lit (.bool true)], args := [d] }
  | _ => none }
def fnBankBackRow : OpenClaim := { program := "ytifkchkjpbpolaa", sum := "709c62f92de68aea5b1ece0f76174eb1bac536bbad020155bb6b1c34017ce578", func := "loop.example/g00040/laws.FnBankBack", spec := "fnBankBack", recurses := true, plainKeys := false, apart := false }
def FnBankBackSaid : Prop := fnBankBackRow.holds Try.pinned (OpenSpec.ofChange fnBankBackSpec)

/-- ITS FALSE NEIGHBOUR: 'it returns false'. Refute it at one input. -/
def fnBankBackWrong : ChangeSpec := { name := "fnBankBack", fn := fun _ => fun
  | [d] => { results := [.lit (.bool false)], args := [d] }
  | _ => none }
def FnBankBackWrongFalsely : Prop := fnBankBackRow.holds Try.pinned (OpenSpec.ofChange fnBankBackWrong)

/-- 'laws.FnExactParseFlow': WHATEVER THE INPUT: true; the input reads as it did. -/
def fnExactParseFlowSpec : ChangeSpec := { name := "fnExactParseFlow", fn := fun _ => fun
  | [d] => { results := [.lit (.bool true)], args := [d] }
  | _ => none }
def fnExactParseFlowRow : OpenClaim := { program := "ytifkchkjpbpolaa", sum := "709c62f92de68aea5b1ece0f76174eb1bac536bbad020155bb6b1c34017ce578", func := "loop.example/g00040/laws.FnExactParseFlow", spec := "fnExactParseFlow", recurses := true, plainKeys := false, apart := false }
def FnExactParseFlowSaid : Prop := fnExactParseFlowRow.holds Try.pinned (OpenSpec.ofChange fnExactParseFlowSpec)

/-- ITS FALSE NEIGHBOUR: 'it returns false'. Refute it at one input. -/
def fnExactParseFlowWrong : ChangeSpec := { name := "fnExactParseFlow", fn := fun _ => fun
  | [d] => { results := [.lit (.bool false)], args := [d] }
  | _ => none }
def FnExactParseFlowWrongFalsely : Prop := fnExactParseFlowRow.holds Try.pinned (OpenSpec.ofChange fnExactParseFlowWrong)

/-- 'laws.FnExactShowFlow': WHATEVER THE INPUT: true; the input reads as it did. -/
def fnExactShowFlowSpec : ChangeSpec := { name := "fnExactShowFlow", fn := fun _ => fun
  | [d] => { results := [.lit (.bool true)], args := [d] }
  | _ => none }
def fnExactShowFlowRow : OpenClaim := { program := "ytifkchkjpbpolaa", sum := "709c62f92de68aea5b1ece0f76174eb1bac536bbad020155bb6b1c34017ce578", func := "loop.example/g00040/laws.FnExactShowFlow", spec := "fnExactShowFlow", recurses := true, plainKeys := false, apart := false }
def FnExactShowFlowSaid : Prop := fnExactShowFlowRow.holds Try.pinned (OpenSpec.ofChange fnExactShowFlowSpec)

/-- ITS FALSE NEIGHBOUR: 'it returns false'. Refute it at one input. -/
def fnExactShowFlowWrong : ChangeSpec := { name := "fnExactShowFlow", fn := fun _ => fun
  | [d] => { results := [.lit (.bool false)], args := [d] }
  | _ => none }
def FnExactShowFlowWrongFalsely : Prop := fnExactShowFlowRow.holds Try.pinned (OpenSpec.ofChange fnExactShowFlowWrong)

/-- 'laws.FnFlowBack': WHATEVER THE INPUT: true; the input reads as it did. -/
def fnFlowBackSpec : ChangeSpec := { name := "fnFlowBack", fn := fun _ => fun
  | [d] => { results := [.lit (.bool true)], args := [d] }
  | _ => none }
def fnFlowBackRow : OpenClaim := { program := "ytifkchkjpbpolaa", sum := "709c62f92de68aea5b1ece0f76174eb1bac536bbad020155bb6b1c34017ce578", func := "loop.example/g00040/laws.FnFlowBack", spec := "fnFlowBack", recurses := true, plainKeys := false, apart := false }
def FnFlowBackSaid : Prop := fnFlowBackRow.holds Try.pinned (OpenSpec.ofChange fnFlowBackSpec)

/-- ITS FALSE NEIGHBOUR: 'it returns false'. Refute it at one input. -/
def fnFlowBackWrong : ChangeSpec := { name := "fnFlowBack", fn := fun _ => fun
  | [d] => { results := [.lit (.bool false)], args := [d] }
  | _ => none }
def FnFlowBackWrongFalsely : Prop := fnFlowBackRow.holds Try.pinned (OpenSpec.ofChange fnFlowBackWrong)

/-- 'laws.FnExactNeeded': WHATEVER THE INPUT: true; the input reads as it did. -/
def fnExactNeededSpec : ChangeSpec := { name := "fnExactNeeded", fn := fun _ => fun
  | [d1, d2] => { results := [.lit (.bool true)], args := [d1, d2] }
  | _ => none }
def fnExactNeededRow : OpenClaim := { program := "ytifkchkjpbpolaa", sum := "709c62f92de68aea5b1ece0f76174eb1bac536bbad020155bb6b1c34017ce578", func := "loop.example/g00040/laws.FnExactNeeded", spec := "fnExactNeeded", recurses := true, plainKeys := false, apart := false }
def FnExactNeededSaid : Prop := fnExactNeededRow.holds Try.pinned (OpenSpec.ofChange fnExactNeededSpec)

/-- ITS FALSE NEIGHBOUR: 'it returns false'. Refute it at one input. -/
def fnExactNeededWrong : ChangeSpec := { name := "fnExactNeeded", fn := fun _ => fun
  | [d1, d2] => { results := [.lit (.bool false)], args := [d1, d2] }
  | _ => none }
def FnExactNeededWrongFalsely : Prop := fnExactNeededRow.holds Try.pinned (OpenSpec.ofChange fnExactNeededWrong)

/-- 'laws.FnExactLedgerOk': WHATEVER THE INPUT: true; the input reads as it did. -/
def fnExactLedgerOkSpec : ChangeSpec := { name := "fnExactLedgerOk", fn := fun _ => fun
  | [d1, d2] => { results := [.lit (.bool true)], args := [d1, d2] }
  | _ => none }
def fnExactLedgerOkRow : OpenClaim := { program := "ytifkchkjpbpolaa", sum := "709c62f92de68aea5b1ece0f76174eb1bac536bbad020155bb6b1c34017ce578", func := "loop.example/g00040/laws.FnExactLedgerOk", spec := "fnExactLedgerOk", unfollowed := true, recurses := true, plainKeys := false, apart := false }
def FnExactLedgerOkSaid : Prop := fnExactLedgerOkRow.holds Try.pinned (OpenSpec.ofChange fnExactLedgerOkSpec)

/-- ITS FALSE NEIGHBOUR: 'it returns false'. Refute it at one input. -/
def fnExactLedgerOkWrong : ChangeSpec := { name := "fnExactLedgerOk", fn := fun _ => fun
  | [d1, d2] => { results := [.lit (.bool false)], args := [d1, d2] }
  | _ => none }
def FnExactLedgerOkWrongFalsely : Prop := fnExactLedgerOkRow.holds Try.pinned (OpenSpec.ofChange fnExactLedgerOkWrong)

/-- 'laws.FnSpreadWhole': WHATEVER THE INPUT: true; the input reads as it did. -/
def fnSpreadWholeSpec : ChangeSpec := { name := "fnSpreadWhole", fn := fun _ => fun
  | [d] => { results := [.lit (.bool true)], args := [d] }
  | _ => none }
def fnSpreadWholeRow : OpenClaim := { program := "ytifkchkjpbpolaa", sum := "709c62f92de68aea5b1ece0f76174eb1bac536bbad020155bb6b1c34017ce578", func := "loop.example/g00040/laws.FnSpreadWhole", spec := "fnSpreadWhole", unfollowed := true, recurses := true, plainKeys := false, apart := false }
def FnSpreadWholeSaid : Prop := fnSpreadWholeRow.holds Try.pinned (OpenSpec.ofChange fnSpreadWholeSpec)

/-- ITS FALSE NEIGHBOUR: 'it returns false'. Refute it at one input. -/
def fnSpreadWholeWrong : ChangeSpec := { name := "fnSpreadWhole", fn := fun _ => fun
  | [d] => { results := [.lit (.bool false)], args := [d] }
  | _ => none }
def FnSpreadWholeWrongFalsely : Prop := fnSpreadWholeRow.holds Try.pinned (OpenSpec.ofChange fnSpreadWholeWrong)

/-- 'laws.FnExactOutput': WHATEVER THE INPUT: true; the input reads as it did. -/
def fnExactOutputSpec : ChangeSpec := { name := "fnExactOutput", fn := fun _ => fun
  | [d1, d2, d3, d4] => { results := [.lit (.bool true)], args := [d1, d2, d3, d4] }
  | _ => none }
def fnExactOutputRow : OpenClaim := { program := "ytifkchkjpbpolaa", sum := "709c62f92de68aea5b1ece0f76174eb1bac536bbad020155bb6b1c34017ce578", func := "loop.example/g00040/laws.FnExactOutput", spec := "fnExactOutput", plainKeys := false, apart := false }
def FnExactOutputSaid : Prop := fnExactOutputRow.holds Try.pinned (OpenSpec.ofChange fnExactOutputSpec)

/-- ITS FALSE NEIGHBOUR: 'it returns false'. Refute it at one input. -/
def fnExactOutputWrong : ChangeSpec := { name := "fnExactOutput", fn := fun _ => fun
  | [d1, d2, d3, d4] => { results := [.lit (.bool false)], args := [d1, d2, d3, d4] }
  | _ => none }
def FnExactOutputWrongFalsely : Prop := fnExactOutputRow.holds Try.pinned (OpenSpec.ofChange fnExactOutputWrong)

/- THE SECOND FORM. 'bulk': how many values and letters a reading holds, each counted each time it is reached (what is shared counts as often as it is met; a slice's spare places count too). A statement '..UptoSaid' is the law's where the arguments, and the package variables that the reading takes, are together of bulk at most 1048576: NARROWER than '..Said'. Prove '..Said' where nothing that the law and all that it calls make is longer than what came in: it says more and counts as full. Else prove '..UptoSaid'. A law counts once. -/
mutual
def uptoBulk {H : Type} : DataW H → Nat
  | .lit (.string bytes) => bytes.length + 1
  | .lit _ => 1
  | .nil => 1
  | .ptr d => uptoBulk d + 1
  | .slice elems spare => uptoBulkAll elems + uptoBulkAll spare + 1
  | .agg parts => uptoBulkAll parts + 1
  | .iface _ d => uptoBulk d + 1
  | .map entries => uptoBulkEntries entries + 1
  | .held _ => 1
def uptoBulkAll {H : Type} : List (DataW H) → Nat
  | [] => 0
  | d :: r => uptoBulk d + uptoBulkAll r
def uptoBulkEntries {H : Type} : List (Lit × DataW H) → Nat
  | [] => 0
  | x :: r => uptoBulkEntry x + uptoBulkEntries r
def uptoBulkEntry {H : Type} : Lit × DataW H → Nat
  | (.string bytes, d) => bytes.length + uptoBulk d + 1
  | (_, d) => uptoBulk d + 1
 end
def uptoSmall : (H : Type) → List (DataW H) → Bool := fun _ ds => decide (uptoBulkAll ds ≤ 1048576)
def OpenSpec.upto (s : _root_.Go.ChangeSpec) : _root_.Go.OpenSpec := { _root_.Go.OpenSpec.ofChange s with cond := some uptoSmall }

/-- 'laws.FnExactIssue', WHERE WHAT IT READS IS OF BULK AT MOST 1048576: true; the input reads as it did. -/
def fnExactIssueUptoRow : OpenClaim := { program := "ytifkchkjpbpolaa", sum := "709c62f92de68aea5b1ece0f76174eb1bac536bbad020155bb6b1c34017ce578", func := "loop.example/g00040/laws.FnExactIssue", spec := "fnExactIssue", recurses := true, plainKeys := false, apart := false, narrowed := true }
def FnExactIssueUptoSaid : Prop := fnExactIssueUptoRow.holds Try.pinned (OpenSpec.upto fnExactIssueSpec)

/-- 'laws.FnExactReadBank', WHERE WHAT IT READS IS OF BULK AT MOST 1048576: true; the input reads as it did. -/
def fnExactReadBankUptoRow : OpenClaim := { program := "ytifkchkjpbpolaa", sum := "709c62f92de68aea5b1ece0f76174eb1bac536bbad020155bb6b1c34017ce578", func := "loop.example/g00040/laws.FnExactReadBank", spec := "fnExactReadBank", recurses := true, plainKeys := false, apart := false, narrowed := true }
def FnExactReadBankUptoSaid : Prop := fnExactReadBankUptoRow.holds Try.pinned (OpenSpec.upto fnExactReadBankSpec)

/-- 'laws.FnBankBack', WHERE WHAT IT READS IS OF BULK AT MOST 1048576: true; the input reads as it did. -/
def fnBankBackUptoRow : OpenClaim := { program := "ytifkchkjpbpolaa", sum := "709c62f92de68aea5b1ece0f76174eb1bac536bbad020155bb6b1c34017ce578", func := "loop.example/g00040/laws.FnBankBack", spec := "fnBankBack", recurses := true, plainKeys := false, apart := false, narrowed := true }
def FnBankBackUptoSaid : Prop := fnBankBackUptoRow.holds Try.pinned (OpenSpec.upto fnBankBackSpec)

/-- 'laws.FnExactParseFlow', WHERE WHAT IT READS IS OF BULK AT MOST 1048576: true; the input reads as it did. -/
def fnExactParseFlowUptoRow : OpenClaim := { program := "ytifkchkjpbpolaa", sum := "709c62f92de68aea5b1ece0f76174eb1bac536bbad020155bb6b1c34017ce578", func := "loop.example/g00040/laws.FnExactParseFlow", spec := "fnExactParseFlow", recurses := true, plainKeys := false, apart := false, narrowed := true }
def FnExactParseFlowUptoSaid : Prop := fnExactParseFlowUptoRow.holds Try.pinned (OpenSpec.upto fnExactParseFlowSpec)

/-- 'laws.FnExactShowFlow', WHERE WHAT IT READS IS OF BULK AT MOST 1048576: true; the input reads as it did. -/
def fnExactShowFlowUptoRow : OpenClaim := { program := "ytifkchkjpbpolaa", sum := "709c62f92de68aea5b1ece0f76174eb1bac536bbad020155bb6b1c34017ce578", func := "loop.example/g00040/laws.FnExactShowFlow", spec := "fnExactShowFlow", recurses := true, plainKeys := false, apart := false, narrowed := true }
def FnExactShowFlowUptoSaid : Prop := fnExactShowFlowUptoRow.holds Try.pinned (OpenSpec.upto fnExactShowFlowSpec)

/-- 'laws.FnFlowBack', WHERE WHAT IT READS IS OF BULK AT MOST 1048576: true; the input reads as it did. -/
def fnFlowBackUptoRow : OpenClaim := { program := "ytifkchkjpbpolaa", sum := "709c62f92de68aea5b1ece0f76174eb1bac536bbad020155bb6b1c34017ce578", func := "loop.example/g00040/laws.FnFlowBack", spec := "fnFlowBack", recurses := true, plainKeys := false, apart := false, narrowed := true }
def FnFlowBackUptoSaid : Prop := fnFlowBackUptoRow.holds Try.pinned (OpenSpec.upto fnFlowBackSpec)

/-- 'laws.FnExactNeeded', WHERE WHAT IT READS IS OF BULK AT MOST 1048576: true; the input reads as it did. -/
def fnExactNeededUptoRow : OpenClaim := { program := "ytifkchkjpbpolaa", sum := "709c62f92de68aea5b1ece0f76174eb1bac536bbad020155bb6b1c34017ce578", func := "loop.example/g00040/laws.FnExactNeeded", spec := "fnExactNeeded", recurses := true, plainKeys := false, apart := false, narrowed := true }
def FnExactNeededUptoSaid : Prop := fnExactNeededUptoRow.holds Try.pinned (OpenSpec.upto fnExactNeededSpec)

/-- 'laws.FnExactLedgerOk', WHERE WHAT IT READS IS OF BULK AT MOST 1048576: true; the input reads as it did. -/
def fnExactLedgerOkUptoRow : OpenClaim := { program := "ytifkchkjpbpolaa", sum := "709c62f92de68aea5b1ece0f76174eb1bac536bbad020155bb6b1c34017ce578", func := "loop.example/g00040/laws.FnExactLedgerOk", spec := "fnExactLedgerOk", unfollowed := true, recurses := true, plainKeys := false, apart := false, narrowed := true }
def FnExactLedgerOkUptoSaid : Prop := fnExactLedgerOkUptoRow.holds Try.pinned (OpenSpec.upto fnExactLedgerOkSpec)

/-- 'laws.FnSpreadWhole', WHERE WHAT IT READS IS OF BULK AT MOST 1048576: true; the input reads as it did. -/
def fnSpreadWholeUptoRow : OpenClaim := { program := "ytifkchkjpbpolaa", sum := "709c62f92de68aea5b1ece0f76174eb1bac536bbad020155bb6b1c34017ce578", func := "loop.example/g00040/laws.FnSpreadWhole", spec := "fnSpreadWhole", unfollowed := true, recurses := true, plainKeys := false, apart := false, narrowed := true }
def FnSpreadWholeUptoSaid : Prop := fnSpreadWholeUptoRow.holds Try.pinned (OpenSpec.upto fnSpreadWholeSpec)

/-- 'laws.FnExactOutput', WHERE WHAT IT READS IS OF BULK AT MOST 1048576: true; the input reads as it did. -/
def fnExactOutputUptoRow : OpenClaim := { program := "ytifkchkjpbpolaa", sum := "709c62f92de68aea5b1ece0f76174eb1bac536bbad020155bb6b1c34017ce578", func := "loop.example/g00040/laws.FnExactOutput", spec := "fnExactOutput", plainKeys := false, apart := false, narrowed := true }
def FnExactOutputUptoSaid : Prop := fnExactOutputUptoRow.holds Try.pinned (OpenSpec.upto fnExactOutputSpec)

end Rows
end Go.Proofs.Ytifkchkjpbpolaa
