/-
  No cell of these rows narrows 'for every input' (looked for: loops, veiled, ifaces, maps, wideKeys, modest, calm, conditions, laid).
  DERIVED. THE GIVEN ROWS OF THIS SEAT. 4 by the template 'for every input the law returns true; each argument reads behind the call as it read before'; 0 by the template 'total and deterministic' (their statements: YtadehdkmggpehaaTotals.lean).
  GIVEN WITH THE SEED: the statements are not yours to turn. If you find one false, say at which input.
  Laid BY PROGRAM, IN A SANDBOX (cutbox-rows.mjs): the forced cells as the released guide's own fill.sh prints them over the translation 33d036e86136807f… (all of the seat's roots in one cut). By AI agents, Wed Nov 11 2026. No macro, syntax, notation, axiom, sorry.
-/
import Derived.Test.YtadehdkmggpehaaChecked
import GoSem.Claim
import GoSem.ClaimJoined
import GoSem.ClaimMapViews
import Derived.JoinedTies
import Derived.KernelRfl
namespace Go.Proofs.Ytadehdkmggpehaa
/- THE CELL 'sum', in the pinned program and in every row, IS THE sha256 OF THE DUMP (.gsa) THAT YtadehdkmggpehaaProg.lean LOADS. Nothing in Lean hashes anything: it is a label: what it is worth is what the hold of that sum in a sandbox is worth. -/
noncomputable def Try.pinned : Pinned := { name := "ytadehdkmggpehaa", sum := "33d036e86136807fc8bc5ef277d25d297b1fe95ccf8a1064699d08001a61a310", checked := Try.checked }
namespace Rows
def none {H : Type} : Left H := { results := [], args := [] }

/-- 'laws.FnMutualWhole': WHATEVER THE INPUT: true; the input reads as it did. -/
def fnMutualWholeSpec : ChangeSpec := { name := "fnMutualWhole", fn := fun _ => fun
  | [d] => { results := [.lit (.bool true)], args := [d] }
  | _ => none }
def fnMutualWholeRow : OpenClaim := { program := "ytadehdkmggpehaa", sum := "33d036e86136807fc8bc5ef277d25d297b1fe95ccf8a1064699d08001a61a310", func := "loop.example/g00040/laws.FnMutualWhole", spec := "fnMutualWhole", unfollowed := true, recurses := true, plainKeys := false, apart := false }
def FnMutualWholeSaid : Prop := fnMutualWholeRow.holds Try.pinned (OpenSpec.ofChange fnMutualWholeSpec)

/-- ITS FALSE NEIGHBOUR: 'it returns false'. Refute it at one input. -/
def fnMutualWholeWrong : ChangeSpec := { name := "fnMutualWhole", fn := fun _ => fun
  | [d] => { results := [.lit (.bool false)], args := [d] }
  | _ => none }
def FnMutualWholeWrongFalsely : Prop := fnMutualWholeRow.holds Try.pinned (OpenSpec.ofChange fnMutualWholeWrong)

/-- 'laws.FnExactMutual': WHATEVER THE INPUT: true; the input reads as it did. -/
def fnExactMutualSpec : ChangeSpec := { name := "fnExactMutual", fn := fun _ => fun
  | [d1, d2, d3] => { results := [.lit (.bool true)], args := [d1, d2, d3] }
  | _ => none }
def fnExactMutualRow : OpenClaim := { program := "ytadehdkmggpehaa", sum := "33d036e86136807fc8bc5ef277d25d297b1fe95ccf8a1064699d08001a61a310", func := "loop.example/g00040/laws.FnExactMutual", spec := "fnExactMutual", unfollowed := true, recurses := true, plainKeys := false, apart := false }
def FnExactMutualSaid : Prop := fnExactMutualRow.holds Try.pinned (OpenSpec.ofChange fnExactMutualSpec)

/-- ITS FALSE NEIGHBOUR: 'it returns false'. Refute it at one input. -/
def fnExactMutualWrong : ChangeSpec := { name := "fnExactMutual", fn := fun _ => fun
  | [d1, d2, d3] => { results := [.lit (.bool false)], args := [d1, d2, d3] }
  | _ => none }
def FnExactMutualWrongFalsely : Prop := fnExactMutualRow.holds Try.pinned (OpenSpec.ofChange fnExactMutualWrong)

/-- 'laws.FnExactTrace': WHATEVER THE INPUT: true; the input reads as it did. -/
def fnExactTraceSpec : ChangeSpec := { name := "fnExactTrace", fn := fun _ => fun
  | [d1, d2, d3, d4] => { results := [.lit (.bool true)], args := [d1, d2, d3, d4] }
  | _ => none }
def fnExactTraceRow : OpenClaim := { program := "ytadehdkmggpehaa", sum := "33d036e86136807fc8bc5ef277d25d297b1fe95ccf8a1064699d08001a61a310", func := "loop.example/g00040/laws.FnExactTrace", spec := "fnExactTrace", unfollowed := true, recurses := true, plainKeys := false, apart := false }
def FnExactTraceSaid : Prop := fnExactTraceRow.holds Try.pinned (OpenSpec.ofChange fnExactTraceSpec)

/-- ITS FALSE NEIGHBOUR: 'it returns false'. Refute it at one input. -/
def fnExactTraceWrong : ChangeSpec := { name := "fnExactTrace", fn := fun _ => fun
  | [d1, d2, d3, d4] => { results := [.lit (.bool false)], args := [d1, d2, d3, d4] }
  | _ => none }
def FnExactTraceWrongFalsely : Prop := fnExactTraceRow.holds Try.pinned (OpenSpec.ofChange fnExactTraceWrong)

/-- 'laws.FnSpreadWhole': WHATEVER THE INPUT: true; the input reads as it did. -/
def fnSpreadWholeSpec : ChangeSpec := { name := "fnSpreadWhole", fn := fun _ => fun
  | [d] => { results := [.lit (.bool true)], args := [d] }
  | _ => none }
def fnSpreadWholeRow : OpenClaim := { program := "ytadehdkmggpehaa", sum := "33d036e86136807fc8bc5ef277d25d297b1fe95ccf8a1064699d08001a61a310", func := "loop.example/g00040/laws.FnSpreadWhole", spec := "fnSpreadWhole", unfollowed := true, recurses := true, plainKeys := false, apart := false }
def FnSpreadWholeSaid : Prop := fnSpreadWholeRow.holds Try.pinned (OpenSpec.ofChange fnSpreadWholeSpec)

/-- ITS FALSE NEIGHBOUR: 'it returns false'. Refute it at one input. -/
def fnSpreadWholeWrong : ChangeSpec := { name := "fnSpreadWhole", fn := fun _ => fun
  | [d] => { results := [.lit (.bool false)], args := [d] }
  | _ => none }
def FnSpreadWholeWrongFalsely : Prop := fnSpreadWholeRow.holds Try.pinned (OpenSpec.ofChange fnSpreadWholeWrong)

/- THE SECOND FORM. 'bulk': how many values and letters a reading holds, each counted each time it is reached (what is shared counts as often as it is met; a slice's spare places count too). A statement '..UptoSaid' is the law's where the arguments, and the package variables that the reading takes, are together of bulk at most 1048576: NARROWER than '..Said'. Prove '..Said' where nothing that the law and all that it calls make is longer than what came in: it says more and counts as full. Else prove '..UptoSaid'. A law counts once. -/
mutual
def uptoBulk {H : Type} : DataW H → Nat
  | .lit (.string bytes) => bytes.length + 1
  | .lit _ => 1
  | .nil => 1
  | .ptr d => uptoBulk d + 1
  | .slice elems spare => uptoBulkAll elems + uptoBulkAll spare + 1
  | .agg parts => uptoBulkAll parts + 1
  | .iface _ d => uptoBulk d + 1
  | .map entries => uptoBulkEntries entries + 1
  | .held _ => 1
def uptoBulkAll {H : Type} : List (DataW H) → Nat
  | [] => 0
  | d :: r => uptoBulk d + uptoBulkAll r
def uptoBulkEntries {H : Type} : List (Lit × DataW H) → Nat
  | [] => 0
  | x :: r => uptoBulkEntry x + uptoBulkEntries r
def uptoBulkEntry {H : Type} : Lit × DataW H → Nat
  | (.string bytes, d) => bytes.length + uptoBulk d + 1
  | (_, d) => uptoBulk d + 1
 end
def uptoSmall : (H : Type) → List (DataW H) → Bool := fun _ ds => decide (uptoBulkAll ds ≤ 1048576)
def OpenSpec.upto (s : _root_.Go.ChangeSpec) : _root_.Go.OpenSpec := { _root_.Go.OpenSpec.ofChange s with cond := some uptoSmall }

/-- 'laws.FnMutualWhole', WHERE WHAT IT READS IS OF BULK AT MOST 1048576: true; the input reads as it did. -/
def fnMutualWholeUptoRow : OpenClaim := { program := "ytadehdkmggpehaa", sum := "33d036e86136807fc8bc5ef277d25d297b1fe95ccf8a1064699d08001a61a310", func := "loop.example/g00040/laws.FnMutualWhole", spec := "fnMutualWhole", unfollowed := true, recurses := true, plainKeys := false, apart := false, narrowed := true }
def FnMutualWholeUptoSaid : Prop := fnMutualWholeUptoRow.holds Try.pinned (OpenSpec.upto fnMutualWholeSpec)

/-- 'laws.FnExactMutual', WHERE WHAT IT READS IS OF BULK AT MOST 1048576: true; the input reads as it did. -/
def fnExactMutualUptoRow : OpenClaim := { program := "ytadehdkmggpehaa", sum := "33d036e86136807fc8bc5ef277d25d297b1fe95ccf8a1064699d08001a61a310", func := "loop.example/g00040/laws.FnExactMutual", spec := "fnExactMutual", unfollowed := true, recurses := true, plainKeys := false, apart := false, narrowed := true }
def FnExactMutualUptoSaid : Prop := fnExactMutualUptoRow.holds Try.pinned (OpenSpec.upto fnExactMutualSpec)

/-- 'laws.FnExactTrace', WHERE WHAT IT READS IS OF BULK AT MOST 1048576: true; the input reads as it did. -/
def fnExactTraceUptoRow : OpenClaim := { program := "ytadehdkmggpehaa", sum := "33d036e86136807fc8bc5ef277d25d297b1fe95ccf8a1064699d08001a61a310", func := "loop.example/g00040/laws.FnExactTrace", spec := "fnExactTrace", unfollowed := true, recurses := true, plainKeys := false, apart := false, narrowed := true }
def FnExactTraceUptoSaid : Prop := fnExactTraceUptoRow.holds Try.pinned (OpenSpec.upto fnExactTraceSpec)

/-- 'laws.FnSpreadWhole', WHERE WHAT IT READS IS OF BULK AT MOST 1048576: true; the input reads as it did. -/
def fnSpreadWholeUptoRow : OpenClaim := { program := "ytadehdkmggpehaa", sum := "33d036e86136807fc8bc5ef277d25d297b1fe95ccf8a1064699d08001a61a310", func := "loop.example/g00040/laws.FnSpreadWhole", spec := "fnSpreadWhole", unfollowed := true, recurses := true, plainKeys := false, apart := false, narrowed := true }
def FnSpreadWholeUptoSaid : Prop := fnSpreadWholeUptoRow.holds Try.pinned (OpenSpec.upto fnSpreadWholeSpec)

end Rows
end Go.Proofs.Ytadehdkmggpehaa
