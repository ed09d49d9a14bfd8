/-
  No cell of these rows narrows 'for every input' (looked for: loops, veiled, ifaces, maps, wideKeys, modest, calm, conditions, laid).
  DERIVED. THE GIVEN ROWS OF THIS SEAT. 4 by the template 'for every input the law returns true; each argument reads behind the call as it read before'; 0 by the template 'total and deterministic' (their statements: YtfkakbpjddgmeaaTotals.lean).
  GIVEN WITH THE SEED: the statements are not yours to turn. If you find one false, say at which input.
  Laid BY PROGRAM, IN A SANDBOX (cutbox-rows.mjs): the forced cells as the released guide's own fill.sh prints them over the translation 74998706e85e9a68… (all of the seat's roots in one cut). By AI agents, Wed Nov 11 2026. No macro, syntax, notation, axiom, sorry.
-/
import Derived.Test.YtfkakbpjddgmeaaChecked
import GoSem.Claim
import GoSem.ClaimJoined
import GoSem.ClaimMapViews
import Derived.JoinedTies
import Derived.KernelRfl
namespace Go.Proofs.Ytfkakbpjddgmeaa
/- THE CELL 'sum', in the pinned program and in every row, IS THE sha256 OF THE DUMP (.gsa) THAT YtfkakbpjddgmeaaProg.lean LOADS. Nothing in Lean hashes anything: it is a label: what it is worth is what the hold of that sum in a sandbox is worth. -/
noncomputable def Try.pinned : Pinned := { name := "ytfkakbpjddgmeaa", sum := "74998706e85e9a6873ac3084c4e60299129abdf5ace611bfe09a254660ec3234", checked := Try.checked }
namespace Rows
def none {H : Type} : Left H := { results := [], args := [] }

/-- 'laws.FnHandedOn': WHATEVER THE INPUT: true; the input reads as it did. -/
def fnHandedOnSpec : ChangeSpec := { name := "fnHandedOn", fn := fun _ => fun
  | [d] => { results := [.lit (.bool true)], args := [d] }
  | _ => none }
def fnHandedOnRow : OpenClaim := { program := "ytfkakbpjddgmeaa", sum := "74998706e85e9a6873ac3084c4e60299129abdf5ace611bfe09a254660ec3234", func := "loop.example/g00040/laws.FnHandedOn", spec := "fnHandedOn", unfollowed := true, recurses := true, apart := false }
def FnHandedOnSaid : Prop := fnHandedOnRow.holds Try.pinned (OpenSpec.ofChange fnHandedOnSpec)

/-- ITS FALSE NEIGHBOUR: 'it returns false'. Refute it at one input. -/
def fnHandedOnWrong : ChangeSpec := { name := "fnHandedOn", fn := fun _ => fun
  | [d] => { results := [.lit (.bool false)], args := [d] }
  | _ => none }
def FnHandedOnWrongFalsely : Prop := fnHandedOnRow.holds Try.pinned (OpenSpec.ofChange fnHandedOnWrong)

/-- 'laws.FnExactTaxReturn': WHATEVER THE INPUT: true; the input reads as it did. -/
def fnExactTaxReturnSpec : ChangeSpec := { name := "fnExactTaxReturn", fn := fun _ => fun
  | [d1, d2, d3] => { results := [.lit (.bool true)], args := [d1, d2, d3] }
  | _ => none }
def fnExactTaxReturnRow : OpenClaim := { program := "ytfkakbpjddgmeaa", sum := "74998706e85e9a6873ac3084c4e60299129abdf5ace611bfe09a254660ec3234", func := "loop.example/g00040/laws.FnExactTaxReturn", spec := "fnExactTaxReturn", unfollowed := true, recurses := true, apart := false }
def FnExactTaxReturnSaid : Prop := fnExactTaxReturnRow.holds Try.pinned (OpenSpec.ofChange fnExactTaxReturnSpec)

/-- ITS FALSE NEIGHBOUR: 'it returns false'. Refute it at one input. -/
def fnExactTaxReturnWrong : ChangeSpec := { name := "fnExactTaxReturn", fn := fun _ => fun
  | [d1, d2, d3] => { results := [.lit (.bool false)], args := [d1, d2, d3] }
  | _ => none }
def FnExactTaxReturnWrongFalsely : Prop := fnExactTaxReturnRow.holds Try.pinned (OpenSpec.ofChange fnExactTaxReturnWrong)

/-- 'laws.FnFlowBack': WHATEVER THE INPUT: true; the input reads as it did. -/
def fnFlowBackSpec : ChangeSpec := { name := "fnFlowBack", fn := fun _ => fun
  | [d] => { results := [.lit (.bool true)], args := [d] }
  | _ => none }
def fnFlowBackRow : OpenClaim := { program := "ytfkakbpjddgmeaa", sum := "74998706e85e9a6873ac3084c4e60299129abdf5ace611bfe09a254660ec3234", func := "loop.example/g00040/laws.FnFlowBack", spec := "fnFlowBack", recurses := true, apart := false }
def FnFlowBackSaid : Prop := fnFlowBackRow.holds Try.pinned (OpenSpec.ofChange fnFlowBackSpec)

/-- ITS FALSE NEIGHBOUR: 'it returns false'. Refute it at one input. -/
def fnFlowBackWrong : ChangeSpec := { name := "fnFlowBack", fn := fun _ => fun
  | [d] => { results := [.lit (.bool false)], args := [d] }
  | _ => none }
def FnFlowBackWrongFalsely : Prop := fnFlowBackRow.holds Try.pinned (OpenSpec.ofChange fnFlowBackWrong)

/-- 'laws.FnReturnsJoin': WHATEVER THE INPUT: true; the input reads as it did. -/
def fnReturnsJoinSpec : ChangeSpec := { name := "fnReturnsJoin", fn := fun _ => fun
  | [d] => { results := [.lit (.bool true)], args := [d] }
  | _ => none }
def fnReturnsJoinRow : OpenClaim := { program := "ytfkakbpjddgmeaa", sum := "74998706e85e9a6873ac3084c4e60299129abdf5ace611bfe09a254660ec3234", func := "loop.example/g00040/laws.FnReturnsJoin", spec := "fnReturnsJoin", unfollowed := true, recurses := true, apart := false }
def FnReturnsJoinSaid : Prop := fnReturnsJoinRow.holds Try.pinned (OpenSpec.ofChange fnReturnsJoinSpec)

/-- ITS FALSE NEIGHBOUR: 'it returns false'. Refute it at one input. -/
def fnReturnsJoinWrong : ChangeSpec := { name := "fnReturnsJoin", fn := fun _ => fun
  | [d] => { results := [.lit (.bool false)], args := [d] }
  | _ => none }
def FnReturnsJoinWrongFalsely : Prop := fnReturnsJoinRow.holds Try.pinned (OpenSpec.ofChange fnReturnsJoinWrong)

/- THE SECOND FORM. 'bulk': how many values and letters a reading holds, each counted each time it is reached (what is shared counts as often as it is met; a slice's spare places count too). A statement '..UptoSaid' is the law's where the arguments, and the package variables that the reading takes, are together of bulk at most 1048576: NARROWER than '..Said'. Prove '..Said' where nothing that the law and all that it calls make is longer than what came in: it says more and counts as full. Else prove '..UptoSaid'. A law counts once. -/
mutual
def uptoBulk {H : Type} : DataW H → Nat
  | .lit (.string bytes) => bytes.length + 1
  | .lit _ => 1
  | .nil => 1
  | .ptr d => uptoBulk d + 1
  | .slice elems spare => uptoBulkAll elems + uptoBulkAll spare + 1
  | .agg parts => uptoBulkAll parts + 1
  | .iface _ d => uptoBulk d + 1
  | .map entries => uptoBulkEntries entries + 1
  | .held _ => 1
def uptoBulkAll {H : Type} : List (DataW H) → Nat
  | [] => 0
  | d :: r => uptoBulk d + uptoBulkAll r
def uptoBulkEntries {H : Type} : List (Lit × DataW H) → Nat
  | [] => 0
  | x :: r => uptoBulkEntry x + uptoBulkEntries r
def uptoBulkEntry {H : Type} : Lit × DataW H → Nat
  | (.string bytes, d) => bytes.length + uptoBulk d + 1
  | (_, d) => uptoBulk d + 1
 end
def uptoSmall : (H : Type) → List (DataW H) → Bool := fun _ ds => decide (uptoBulkAll ds ≤ 1048576)
def OpenSpec.upto (s : _root_.Go.ChangeSpec) : _root_.Go.OpenSpec := { _root_.Go.OpenSpec.ofChange s with cond := some uptoSmall }

/-- 'laws.FnHandedOn', WHERE WHAT IT READS IS OF BULK AT MOST 1048576: true; the input reads as it did. -/
def fnHandedOnUptoRow : OpenClaim := { program := "ytfkakbpjddgmeaa", sum := "74998706e85e9a6873ac3084c4e60299129abdf5ace611bfe09a254660ec3234", func := "loop.example/g00040/laws.FnHandedOn", spec := "fnHandedOn", unfollowed := true, recurses := true, apart := false, narrowed := true }
def FnHandedOnUptoSaid : Prop := fnHandedOnUptoRow.holds Try.pinned (OpenSpec.upto fnHandedOnSpec)

/-- 'laws.FnExactTaxReturn', WHERE WHAT IT READS IS OF BULK AT MOST 1048576: true; the input reads as it did. -/
def fnExactTaxReturnUptoRow : OpenClaim := { program := "ytfkakbpjddgmeaa", sum := "74998706e85e9a6873ac3084c4e60299129abdf5ace611bfe09a254660ec3234", func := "loop.example/g00040/laws.FnExactTaxReturn", spec := "fnExactTaxReturn", unfollowed := true, recurses := true, apart := false, narrowed := true }
def FnExactTaxReturnUptoSaid : Prop := fnExactTaxReturnUptoRow.holds Try.pinned (OpenSpec.upto fnExactTaxReturnSpec)

/-- 'laws.FnFlowBack', WHERE WHAT IT READS IS OF BULK AT MOST 1048576: true; the input reads as it did. -/
def fnFlowBackUptoRow : OpenClaim := { program := "ytfkakbpjddgmeaa", sum := "74998706e85e9a6873ac3084c4e60299129abdf5ace611bfe09a254660ec3234", func := "loop.example/g00040/laws.FnFlowBack", spec := "fnFlowBack", recurses := true, apart := false, narrowed := true }
def FnFlowBackUptoSaid : Prop := fnFlowBackUptoRow.holds Try.pinned (OpenSpec.upto fnFlowBackSpec)

/-- 'laws.FnReturnsJoin', WHERE WHAT IT READS IS OF BULK AT MOST 1048576: true; the input reads as it did. -/
def fnReturnsJoinUptoRow : OpenClaim := { program := "ytfkakbpjddgmeaa", sum := "74998706e85e9a6873ac3084c4e60299129abdf5ace611bfe09a254660ec3234", func := "loop.example/g00040/laws.FnReturnsJoin", spec := "fnReturnsJoin", unfollowed := true, recurses := true, apart := false, narrowed := true }
def FnReturnsJoinUptoSaid : Prop := fnReturnsJoinUptoRow.holds Try.pinned (OpenSpec.upto fnReturnsJoinSpec)

end Rows
end Go.Proofs.Ytfkakbpjddgmeaa
