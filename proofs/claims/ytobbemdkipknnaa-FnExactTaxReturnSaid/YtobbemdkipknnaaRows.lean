/-
  No cell of these rows narrows 'for every input' (looked for: loops, veiled, ifaces, maps, wideKeys, modest, calm, conditions, laid).
  DERIVED. THE GIVEN ROWS OF THIS SEAT. 5 by the template 'for every input the law returns true; each argument reads behind the call as it read before'; 0 by the template 'total and deterministic' (their statements: YtobbemdkipknnaaTotals.lean).
  GIVEN WITH THE SEED: the statements are not yours to turn. If you find one false, say at which input.
  Laid BY PROGRAM, IN A SANDBOX (cutbox-rows.mjs): the forced cells as the released guide's own fill.sh prints them over the translation 2c0fcbc45c7dace2… (all of the seat's roots in one cut). By AI agents, Wed Nov 11 2026. No macro, syntax, notation, axiom, sorry.
-/
import Derived.Test.YtobbemdkipknnaaChecked
import GoSem.Claim
import GoSem.ClaimJoined
import GoSem.ClaimMapViews
import Derived.JoinedTies
import Derived.KernelRfl
namespace Go.Proofs.Ytobbemdkipknnaa
/- THE CELL 'sum', in the pinned program and in every row, IS THE sha256 OF THE DUMP (.gsa) THAT YtobbemdkipknnaaProg.lean LOADS. Nothing in Lean hashes anything: it is a label: what it is worth is what the hold of that sum in a sandbox is worth. -/
noncomputable def Try.pinned : Pinned := { name := "ytobbemdkipknnaa", sum := "2c0fcbc45c7dace2ec540235f06b82313d6f1e904ad5047c1832200a86e517a0", checked := Try.checked }
namespace Rows
def none {H : Type} : Left H := { results := [], args := [] }

/-- 'laws.FnExactTaxReturn': WHATEVER THE INPUT: true; the input reads as it did. -/
def fnExactTaxReturnSpec : ChangeSpec := { name := "fnExactTaxReturn", fn := fun _ => fun
  | [d1, d2, d3] => { results := [.lit (.bool true)], args := [d1, d2, d3] }
  | _ => none }
def fnExactTaxReturnRow : OpenClaim := { program := "ytobbemdkipknnaa", sum := "2c0fcbc45c7dace2ec540235f06b82313d6f1e904ad5047c1832200a86e517a0", func := "loop.example/g00040/laws.FnExactTaxReturn", spec := "fnExactTaxReturn", unfollowed := true, recurses := true, apart := false }
def FnExactTaxReturnSaid : Prop := fnExactTaxReturnRow.holds Try.pinned (OpenSpec.ofChange fnExactTaxReturnSpec)

/-- ITS FALSE NEIGHBOUR: 'it returns false'. Refute it at one input. -/
def fnExactTaxReturnWrong : ChangeSpec := { name := "fnExactTaxReturn", fn := fun _ => fun
  | [d1, d2, d3] => { results := [.lit (.bool false)], args := [d1, d2, d3] }
  | _ => none }
def FnExactTaxReturnWrongFalsely : Prop := fnExactTaxReturnRow.holds Try.pinned (OpenSpec.ofChange fnExactTaxReturnWrong)

/-- 'laws.FnLoadAdds': WHATEVER THE INPUT: true; the input reads as it did. -/
def fnLoadAddsSpec : ChangeSpec := { name := "fnLoadAdds", fn := fun _ => fun
  | [d] => { results := [.lit (.bool true)], args := [d] }
  | _ => none }
def fnLoadAddsRow : OpenClaim := { program := "ytobbemdkipknnaa", sum := "2c0fcbc45c7dace2ec540235f06b82313d6f1e904ad5047c1832200a86e517a0", func := "loop.example/g00040/laws.FnLoadAdds", spec := "fnLoadAdds", unfollowed := true, recurses := true, apart := false }
def FnLoadAddsSaid : Prop := fnLoadAddsRow.holds Try.pinned (OpenSpec.ofChange fnLoadAddsSpec)

/-- ITS FALSE NEIGHBOUR: 'it returns false'. Refute it at one input. -/
def fnLoadAddsWrong : ChangeSpec := { name := "fnLoadAdds", fn := fun _ => fun
  | [d] => { results := [.lit (.bool false)], args := [d] }
  | _ => none }
def FnLoadAddsWrongFalsely : Prop := fnLoadAddsRow.holds Try.pinned (OpenSpec.ofChange fnLoadAddsWrong)

/-- 'laws.FnLoadedApart': WHATEVER THE INPUT: true; the input reads as it did. -/
def fnLoadedApartSpec : ChangeSpec := { name := "fnLoadedApart", fn := fun _ => fun
  | [d] => { results := [.lit (.bool true)], args := [d] }
  | _ => none }
def fnLoadedApartRow : OpenClaim := { program := "ytobbemdkipknnaa", sum := "2c0fcbc45c7dace2ec540235f06b82313d6f1e904ad5047c1832200a86e517a0", func := "loop.example/g00040/laws.FnLoadedApart", spec := "fnLoadedApart", unfollowed := true, recurses := true, apart := false }
def FnLoadedApartSaid : Prop := fnLoadedApartRow.holds Try.pinned (OpenSpec.ofChange fnLoadedApartSpec)

/-- ITS FALSE NEIGHBOUR: 'it returns false'. Refute it at one input. -/
def fnLoadedApartWrong : ChangeSpec := { name := "fnLoadedApart", fn := fun _ => fun
  | [d] => { results := [.lit (.bool false)], args := [d] }
  | _ => none }
def FnLoadedApartWrongFalsely : Prop := fnLoadedApartRow.holds Try.pinned (OpenSpec.ofChange fnLoadedApartWrong)

/-- 'laws.FnReturnsJoin': WHATEVER THE INPUT: true; the input reads as it did. -/
def fnReturnsJoinSpec : ChangeSpec := { name := "fnReturnsJoin", fn := fun _ => fun
  | [d] => { results := [.lit (.bool true)], args := [d] }
  | _ => none }
def fnReturnsJoinRow : OpenClaim := { program := "ytobbemdkipknnaa", sum := "2c0fcbc45c7dace2ec540235f06b82313d6f1e904ad5047c1832200a86e517a0", func := "loop.example/g00040/laws.FnReturnsJoin", spec := "fnReturnsJoin", unfollowed := true, recurses := true, apart := false }
def FnReturnsJoinSaid : Prop := fnReturnsJoinRow.holds Try.pinned (OpenSpec.ofChange fnReturnsJoinSpec)

/-- ITS FALSE NEIGHBOUR: 'it returns false'. Refute it at one input. -/
def fnReturnsJoinWrong : ChangeSpec := { name := "fnReturnsJoin", fn := fun _ => fun
  | [d] => { results := [.lit (.bool false)], args := [d] }
  | _ => none }
def FnReturnsJoinWrongFalsely : Prop := fnReturnsJoinRow.holds Try.pinned (OpenSpec.ofChange fnReturnsJoinWrong)

/-- 'laws.FnExactLoad': WHATEVER THE INPUT: true; the input reads as it did. -/
def fnExactLoadSpec : ChangeSpec := { name := "fnExactLoad", fn := fun _ => fun
  | [d1, d2, d3] => { results := [.lit (.bool true)], args := [d1, d2, d3] }
  | _ => none }
def fnExactLoadRow : OpenClaim := { program := "ytobbemdkipknnaa", sum := "2c0fcbc45c7dace2ec540235f06b82313d6f1e904ad5047c1832200a86e517a0", func := "loop.example/g00040/laws.FnExactLoad", spec := "fnExactLoad", unfollowed := true, recurses := true, apart := false }
def FnExactLoadSaid : Prop := fnExactLoadRow.holds Try.pinned (OpenSpec.ofChange fnExactLoadSpec)

/-- ITS FALSE NEIGHBOUR: 'it returns false'. Refute it at one input. -/
def fnExactLoadWrong : ChangeSpec := { name := "fnExactLoad", fn := fun _ => fun
  | [d1, d2, d3] => { results := [.lit (.bool false)], args := [d1, d2, d3] }
  | _ => none }
def FnExactLoadWrongFalsely : Prop := fnExactLoadRow.holds Try.pinned (OpenSpec.ofChange fnExactLoadWrong)

/- THE SECOND FORM. 'bulk': how many values and letters a reading holds, each counted each time it is reached (what is shared counts as often as it is met; a slice's spare places count too). A statement '..UptoSaid' is the law's where the arguments, and the package variables that the reading takes, are together of bulk at most 1048576: NARROWER than '..Said'. Prove '..Said' where nothing that the law and all that it calls make is longer than what came in: it says more and counts as full. Else prove '..UptoSaid'. A law counts once. -/
mutual
def uptoBulk {H : Type} : DataW H → Nat
  | .lit (.string bytes) => bytes.length + 1
  | .lit _ => 1
  | .nil => 1
  | .ptr d => uptoBulk d + 1
  | .slice elems spare => uptoBulkAll elems + uptoBulkAll spare + 1
  | .agg parts => uptoBulkAll parts + 1
  | .iface _ d => uptoBulk d + 1
  | .map entries => uptoBulkEntries entries + 1
  | .held _ => 1
def uptoBulkAll {H : Type} : List (DataW H) → Nat
  | [] => 0
  | d :: r => uptoBulk d + uptoBulkAll r
def uptoBulkEntries {H : Type} : List (Lit × DataW H) → Nat
  | [] => 0
  | x :: r => uptoBulkEntry x + uptoBulkEntries r
def uptoBulkEntry {H : Type} : Lit × DataW H → Nat
  | (.string bytes, d) => bytes.length + uptoBulk d + 1
  | (_, d) => uptoBulk d + 1
 end
def uptoSmall : (H : Type) → List (DataW H) → Bool := fun _ ds => decide (uptoBulkAll ds ≤ 1048576)
def OpenSpec.upto (s : _root_.Go.ChangeSpec) : _root_.Go.OpenSpec := { _root_.Go.OpenSpec.ofChange s with cond := some uptoSmall }

/-- 'laws.FnExactTaxReturn', WHERE WHAT IT READS IS OF BULK AT MOST 1048576: true; the input reads as it did. -/
def fnExactTaxReturnUptoRow : OpenClaim := { program := "ytobbemdkipknnaa", sum := "2c0fcbc45c7dace2ec540235f06b82313d6f1e904ad5047c1832200a86e517a0", func := "loop.example/g00040/laws.FnExactTaxReturn", spec := "fnExactTaxReturn", unfollowed := true, recurses := true, apart := false, narrowed := true }
def FnExactTaxReturnUptoSaid : Prop := fnExactTaxReturnUptoRow.holds Try.pinned (OpenSpec.upto fnExactTaxReturnSpec)

/-- 'laws.FnLoadAdds', WHERE WHAT IT READS IS OF BULK AT MOST 1048576: true; the input reads as it did. -/
def fnLoadAddsUptoRow : OpenClaim := { program := "ytobbemdkipknnaa", sum := "2c0fcbc45c7dace2ec540235f06b82313d6f1e904ad5047c1832200a86e517a0", func := "loop.example/g00040/laws.FnLoadAdds", spec := "fnLoadAdds", unfollowed := true, recurses := true, apart := false, narrowed := true }
def FnLoadAddsUptoSaid : Prop := fnLoadAddsUptoRow.holds Try.pinned (OpenSpec.upto fnLoadAddsSpec)

/-- 'laws.FnLoadedApart', WHERE WHAT IT READS IS OF BULK AT MOST 1048576: true; the input reads as it did. -/
def fnLoadedApartUptoRow : OpenClaim := { program := "ytobbemdkipknnaa", sum := "2c0fcbc45c7dace2ec540235f06b82313d6f1e904ad5047c1832200a86e517a0", func := "loop.example/g00040/laws.FnLoadedApart", spec := "fnLoadedApart", unfollowed := true, recurses := true, apart := false, narrowed := true }
def FnLoadedApartUptoSaid : Prop := fnLoadedApartUptoRow.holds Try.pinned (OpenSpec.upto fnLoadedApartSpec)

/-- 'laws.FnReturnsJoin', WHERE WHAT IT READS IS OF BULK AT MOST 1048576: true; the input reads as it did. -/
def fnReturnsJoinUptoRow : OpenClaim := { program := "ytobbemdkipknnaa", sum := "2c0fcbc45c7dace2ec540235f06b82313d6f1e904ad5047c1832200a86e517a0", func := "loop.example/g00040/laws.FnReturnsJoin", spec := "fnReturnsJoin", unfollowed := true, recurses := true, apart := false, narrowed := true }
def FnReturnsJoinUptoSaid : Prop := fnReturnsJoinUptoRow.holds Try.pinned (OpenSpec.upto fnReturnsJoinSpec)

/-- 'laws.FnExactLoad', WHERE WHAT IT READS IS OF BULK AT MOST 1048576: true; the input reads as it did. -/
def fnExactLoadUptoRow : OpenClaim := { program := "ytobbemdkipknnaa", sum := "2c0fcbc45c7dace2ec540235f06b82313d6f1e904ad5047c1832200a86e517a0", func := "loop.example/g00040/laws.FnExactLoad", spec := "fnExactLoad", unfollowed := true, recurses := true, apart := false, narrowed := true }
def FnExactLoadUptoSaid : Prop := fnExactLoadUptoRow.holds Try.pinned (OpenSpec.upto fnExactLoadSpec)

end Rows
end Go.Proofs.Ytobbemdkipknnaa
