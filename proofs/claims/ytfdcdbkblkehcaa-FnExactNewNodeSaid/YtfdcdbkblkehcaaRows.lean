/-
  No cell of these rows narrows 'for every input' (looked for: loops, veiled, ifaces, maps, wideKeys, modest, calm, conditions, laid).
  DERIVED. THE GIVEN ROWS OF THIS SEAT. 10 by the template 'for every input the law returns true; each argument reads behind the call as it read before'; 0 by the template 'total and deterministic' (their statements: YtfdcdbkblkehcaaTotals.lean).
  GIVEN WITH THE SEED: the statements are not yours to turn. If you find one false, say at which input.
  Laid BY PROGRAM, IN A SANDBOX (cutbox-rows.mjs): the forced cells as the released guide's own fill.sh prints them over the translation d17183979620c784… (all of the seat's roots in one cut). By AI agents, Wed Nov 11 2026. No macro, syntax, notation, axiom, sorry.
-/
import Derived.Test.YtfdcdbkblkehcaaChecked
import GoSem.Claim
import GoSem.ClaimJoined
import GoSem.ClaimMapViews
import Derived.JoinedTies
import Derived.KernelRfl
namespace Go.Proofs.Ytfdcdbkblkehcaa
/- THE CELL 'sum', in the pinned program and in every row, IS THE sha256 OF THE DUMP (.gsa) THAT YtfdcdbkblkehcaaProg.lean LOADS. Nothing in Lean hashes anything: it is a label: what it is worth is what the hold of that sum in a sandbox is worth. -/
noncomputable def Try.pinned : Pinned := { name := "ytfdcdbkblkehcaa", sum := "d17183979620c78474004cf61caf16ce27437beb333397bd73f753002892c498", checked := Try.checked }
namespace Rows
def none {H : Type} : Left H := { results := [], args := [] }

/-- 'laws.FnExactAbortTransaction': WHATEVER THE INPUT: true; the input reads as it did. -/
def fnExactAbortTransactionSpec : ChangeSpec := { name := "fnExactAbortTransaction", fn := fun _ => fun
  | [d] => { results := [.lit (.bool true)], args := [d] }
  | _ => none }
def fnExactAbortTransactionRow : OpenClaim := { program := "ytfdcdbkblkehcaa", sum := "d17183979620c78474004cf61caf16ce27437beb333397bd73f753002892c498", func := "loop.example/g01924/laws.FnExactAbortTransaction", spec := "fnExactAbortTransaction", apart := false }
def FnExactAbortTransactionSaid : Prop := fnExactAbortTransactionRow.holds Try.pinned (OpenSpec.ofChange fnExactAbortTransactionSpec)

/-- ITS FALSE NEIGHBOUR: 'it returns false'. Refute it at one input. -/
def fnExactAbortTransactionWrong : ChangeSpec := { name := "fnExactAbortTransaction", fn := fun _ => fun
  | [d] => { results := [.lit (.bool false)], args := [d] }
  | _ => none }
def FnExactAbortTransactionWrongFalsely : Prop := fnExactAbortTransactionRow.holds Try.pinned (OpenSpec.ofChange fnExactAbortTransactionWrong)

/-- 'laws.FnExactCommitOrder': WHATEVER THE INPUT: true; the input reads as it did. -/
def fnExactCommitOrderSpec : ChangeSpec := { name := "fnExactCommitOrder", fn := fun _ => fun
  | [d] => { results := [.lit (.bool true)], args := [d] }
  | _ => none }
def fnExactCommitOrderRow : OpenClaim := { program := "ytfdcdbkblkehcaa", sum := "d17183979620c78474004cf61caf16ce27437beb333397bd73f753002892c498", func := "loop.example/g01924/laws.FnExactCommitOrder", spec := "fnExactCommitOrder", unfollowed := true, recurses := true, apart := false }
def FnExactCommitOrderSaid : Prop := fnExactCommitOrderRow.holds Try.pinned (OpenSpec.ofChange fnExactCommitOrderSpec)

/-- ITS FALSE NEIGHBOUR: 'it returns false'. Refute it at one input. -/
def fnExactCommitOrderWrong : ChangeSpec := { name := "fnExactCommitOrder", fn := fun _ => fun
  | [d] => { results := [.lit (.bool false)], args := [d] }
  | _ => none }
def FnExactCommitOrderWrongFalsely : Prop := fnExactCommitOrderRow.holds Try.pinned (OpenSpec.ofChange fnExactCommitOrderWrong)

/-- 'laws.FnExactFinalState': WHATEVER THE INPUT: true; the input reads as it did. -/
def fnExactFinalStateSpec : ChangeSpec := { name := "fnExactFinalState", fn := fun _ => fun
  | [d] => { results := [.lit (.bool true)], args := [d] }
  | _ => none }
def fnExactFinalStateRow : OpenClaim := { program := "ytfdcdbkblkehcaa", sum := "d17183979620c78474004cf61caf16ce27437beb333397bd73f753002892c498", func := "loop.example/g01924/laws.FnExactFinalState", spec := "fnExactFinalState", unfollowed := true, recurses := true, apart := false }
def FnExactFinalStateSaid : Prop := fnExactFinalStateRow.holds Try.pinned (OpenSpec.ofChange fnExactFinalStateSpec)

/-- ITS FALSE NEIGHBOUR: 'it returns false'. Refute it at one input. -/
def fnExactFinalStateWrong : ChangeSpec := { name := "fnExactFinalState", fn := fun _ => fun
  | [d] => { results := [.lit (.bool false)], args := [d] }
  | _ => none }
def FnExactFinalStateWrongFalsely : Prop := fnExactFinalStateRow.holds Try.pinned (OpenSpec.ofChange fnExactFinalStateWrong)

/-- 'laws.FnExactFirstMismatch': WHATEVER THE INPUT: true; the input reads as it did. -/
def fnExactFirstMismatchSpec : ChangeSpec := { name := "fnExactFirstMismatch", fn := fun _ => fun
  | [d1, d2] => { results := [.lit (.bool true)], args := [d1, d2] }
  | _ => none }
def fnExactFirstMismatchRow : OpenClaim := { program := "ytfdcdbkblkehcaa", sum := "d17183979620c78474004cf61caf16ce27437beb333397bd73f753002892c498", func := "loop.example/g01924/laws.FnExactFirstMismatch", spec := "fnExactFirstMismatch", unfollowed := true, recurses := true, apart := false }
def FnExactFirstMismatchSaid : Prop := fnExactFirstMismatchRow.holds Try.pinned (OpenSpec.ofChange fnExactFirstMismatchSpec)

/-- ITS FALSE NEIGHBOUR: 'it returns false'. Refute it at one input. -/
def fnExactFirstMismatchWrong : ChangeSpec := { name := "fnExactFirstMismatch", fn := fun _ => fun
  | [d1, d2] => { results := [.lit (.bool false)], args := [d1, d2] }
  | _ => none }
def FnExactFirstMismatchWrongFalsely : Prop := fnExactFirstMismatchRow.holds Try.pinned (OpenSpec.ofChange fnExactFirstMismatchWrong)

/-- 'laws.FnExactNewNode': WHATEVER THE INPUT: true; the input reads as it did. -/
def fnExactNewNodeSpec : ChangeSpec := { name := "fnExactNewNode", fn := fun _ => fun
  | [] => { results := [.lit (.bool true)], args := [] }
  | _ => none }
def fnExactNewNodeRow : OpenClaim := { program := "ytfdcdbkblkehcaa", sum := "d17183979620c78474004cf61caf16ce27437beb333397bd73f753002892c498", func := "loop.example/g01924/laws.FnExactNewNode", spec := "fnExactNewNode", apart := false }
def FnExactNewNodeSaid : Prop := fnExactNewNodeRow.holds Try.pinned (OpenSpec.ofChange fnExactNewNodeSpec)

/-- ITS FALSE NEIGHBOUR: 'it returns false'. Refute it at one input. -/
def fnExactNewNodeWrong : ChangeSpec := { name := "fnExactNewNode", fn := fun _ => fun
  | [] => { results := [.lit (.bool false)], args := [] }
  | _ => none }
def FnExactNewNodeWrongFalsely : Prop := fnExactNewNodeRow.holds Try.pinned (OpenSpec.ofChange fnExactNewNodeWrong)

/-- 'laws.FnExactTrackRead': WHATEVER THE INPUT: true; the input reads as it did. -/
def fnExactTrackReadSpec : ChangeSpec := { name := "fnExactTrackRead", fn := fun _ => fun
  | [d1, d2, d3] => { results := [.lit (.bool true)], args := [d1, d2, d3] }
  | _ => none }
def fnExactTrackReadRow : OpenClaim := { program := "ytfdcdbkblkehcaa", sum := "d17183979620c78474004cf61caf16ce27437beb333397bd73f753002892c498", func := "loop.example/g01924/laws.FnExactTrackRead", spec := "fnExactTrackRead", inPlace := ["slices.overlaps[loop.example/g01924/impl.ReadMark]"], unfollowed := true, recurses := true, apart := false }
def FnExactTrackReadSaid : Prop := fnExactTrackReadRow.holds Try.pinned (OpenSpec.ofChange fnExactTrackReadSpec)

/-- ITS FALSE NEIGHBOUR: 'it returns false'. Refute it at one input. -/
def fnExactTrackReadWrong : ChangeSpec := { name := "fnExactTrackRead", fn := fun _ => fun
  | [d1, d2, d3] => { results := [.lit (.bool false)], args := [d1, d2, d3] }
  | _ => none }
def FnExactTrackReadWrongFalsely : Prop := fnExactTrackReadRow.holds Try.pinned (OpenSpec.ofChange fnExactTrackReadWrong)

/-- 'laws.FnExactReplaySerial': WHATEVER THE INPUT: true; the input reads as it did. -/
def fnExactReplaySerialSpec : ChangeSpec := { name := "fnExactReplaySerial", fn := fun _ => fun
  | [d1, d2] => { results := [.lit (.bool true)], args := [d1, d2] }
  | _ => none }
def fnExactReplaySerialRow : OpenClaim := { program := "ytfdcdbkblkehcaa", sum := "d17183979620c78474004cf61caf16ce27437beb333397bd73f753002892c498", func := "loop.example/g01924/laws.FnExactReplaySerial", spec := "fnExactReplaySerial", unfollowed := true, recurses := true, apart := false }
def FnExactReplaySerialSaid : Prop := fnExactReplaySerialRow.holds Try.pinned (OpenSpec.ofChange fnExactReplaySerialSpec)

/-- ITS FALSE NEIGHBOUR: 'it returns false'. Refute it at one input. -/
def fnExactReplaySerialWrong : ChangeSpec := { name := "fnExactReplaySerial", fn := fun _ => fun
  | [d1, d2] => { results := [.lit (.bool false)], args := [d1, d2] }
  | _ => none }
def FnExactReplaySerialWrongFalsely : Prop := fnExactReplaySerialRow.holds Try.pinned (OpenSpec.ofChange fnExactReplaySerialWrong)

/-- 'laws.FnExactEqualNodes': WHATEVER THE INPUT: true; the input reads as it did. -/
def fnExactEqualNodesSpec : ChangeSpec := { name := "fnExactEqualNodes", fn := fun _ => fun
  | [d1, d2] => { results := [.lit (.bool true)], args := [d1, d2] }
  | _ => none }
def fnExactEqualNodesRow : OpenClaim := { program := "ytfdcdbkblkehcaa", sum := "d17183979620c78474004cf61caf16ce27437beb333397bd73f753002892c498", func := "loop.example/g01924/laws.FnExactEqualNodes", spec := "fnExactEqualNodes", unfollowed := true, recurses := true, apart := false }
def FnExactEqualNodesSaid : Prop := fnExactEqualNodesRow.holds Try.pinned (OpenSpec.ofChange fnExactEqualNodesSpec)

/-- ITS FALSE NEIGHBOUR: 'it returns false'. Refute it at one input. -/
def fnExactEqualNodesWrong : ChangeSpec := { name := "fnExactEqualNodes", fn := fun _ => fun
  | [d1, d2] => { results := [.lit (.bool false)], args := [d1, d2] }
  | _ => none }
def FnExactEqualNodesWrongFalsely : Prop := fnExactEqualNodesRow.holds Try.pinned (OpenSpec.ofChange fnExactEqualNodesWrong)

/-- 'laws.FnExactIsEquivalent': WHATEVER THE INPUT: true; the input reads as it did. -/
def fnExactIsEquivalentSpec : ChangeSpec := { name := "fnExactIsEquivalent", fn := fun _ => fun
  | [d1, d2] => { results := [.lit (.bool true)], args := [d1, d2] }
  | _ => none }
def fnExactIsEquivalentRow : OpenClaim := { program := "ytfdcdbkblkehcaa", sum := "d17183979620c78474004cf61caf16ce27437beb333397bd73f753002892c498", func := "loop.example/g01924/laws.FnExactIsEquivalent", spec := "fnExactIsEquivalent", unfollowed := true, recurses := true, apart := false }
def FnExactIsEquivalentSaid : Prop := fnExactIsEquivalentRow.holds Try.pinned (OpenSpec.ofChange fnExactIsEquivalentSpec)

/-- ITS FALSE NEIGHBOUR: 'it returns false'. Refute it at one input. -/
def fnExactIsEquivalentWrong : ChangeSpec := { name := "fnExactIsEquivalent", fn := fun _ => fun
  | [d1, d2] => { results := [.lit (.bool false)], args := [d1, d2] }
  | _ => none }
def FnExactIsEquivalentWrongFalsely : Prop := fnExactIsEquivalentRow.holds Try.pinned (OpenSpec.ofChange fnExactIsEquivalentWrong)

/-- 'laws.FnExactAddReader': WHATEVER THE INPUT: true; the input reads as it did. -/
def fnExactAddReaderSpec : ChangeSpec := { name := "fnExactAddReader", fn := fun _ => fun
  | [d1, d2] => { results := [.lit (.bool true)], args := [d1, d2] }
  | _ => none }
def fnExactAddReaderRow : OpenClaim := { program := "ytfdcdbkblkehcaa", sum := "d17183979620c78474004cf61caf16ce27437beb333397bd73f753002892c498", func := "loop.example/g01924/laws.FnExactAddReader", spec := "fnExactAddReader", inPlace := ["slices.overlaps[loop.example/g01924/impl.Entry]"], unfollowed := true, recurses := true, apart := false }
def FnExactAddReaderSaid : Prop := fnExactAddReaderRow.holds Try.pinned (OpenSpec.ofChange fnExactAddReaderSpec)

/-- ITS FALSE NEIGHBOUR: 'it returns false'. Refute it at one input. -/
def fnExactAddReaderWrong : ChangeSpec := { name := "fnExactAddReader", fn := fun _ => fun
  | [d1, d2] => { results := [.lit (.bool false)], args := [d1, d2] }
  | _ => none }
def FnExactAddReaderWrongFalsely : Prop := fnExactAddReaderRow.holds Try.pinned (OpenSpec.ofChange fnExactAddReaderWrong)

/- THE SECOND FORM. 'bulk': how many values and letters a reading holds, each counted each time it is reached (what is shared counts as often as it is met; a slice's spare places count too). A statement '..UptoSaid' is the law's where the arguments, and the package variables that the reading takes, are together of bulk at most 1048576: NARROWER than '..Said'. Prove '..Said' where nothing that the law and all that it calls make is longer than what came in: it says more and counts as full. Else prove '..UptoSaid'. A law counts once. -/
mutual
def uptoBulk {H : Type} : DataW H → Nat
  | .lit (.string bytes) => bytes.length + 1
  | .lit _ => 1
  | .nil => 1
  | .ptr d => uptoBulk d + 1
  | .slice elems spare => uptoBulkAll elems + uptoBulkAll spare + 1
  | .agg parts => uptoBulkAll parts + 1
  | .iface _ d => uptoBulk d + 1
  | .map entries => uptoBulkEntries entries + 1
  | .held _ => 1
def uptoBulkAll {H : Type} : List (DataW H) → Nat
  | [] => 0
  | d :: r => uptoBulk d + uptoBulkAll r
def uptoBulkEntries {H : Type} : List (Lit × DataW H) → Nat
  | [] => 0
  | x :: r => uptoBulkEntry x + uptoBulkEntries r
def uptoBulkEntry {H : Type} : Lit × DataW H → Nat
  | (.string bytes, d) => bytes.length + uptoBulk d + 1
  | (_, d) => uptoBulk d + 1
 end
def uptoSmall : (H : Type) → List (DataW H) → Bool := fun _ ds => decide (uptoBulkAll ds ≤ 1048576)
def OpenSpec.upto (s : _root_.Go.ChangeSpec) : _root_.Go.OpenSpec := { _root_.Go.OpenSpec.ofChange s with cond := some uptoSmall }

/-- 'laws.FnExactAbortTransaction', WHERE WHAT IT READS IS OF BULK AT MOST 1048576: true; the input reads as it did. -/
def fnExactAbortTransactionUptoRow : OpenClaim := { program := "ytfdcdbkblkehcaa", sum := "d17183979620c78474004cf61caf16ce27437beb333397bd73f753002892c498", func := "loop.example/g01924/laws.FnExactAbortTransaction", spec := "fnExactAbortTransaction", apart := false, narrowed := true }
def FnExactAbortTransactionUptoSaid : Prop := fnExactAbortTransactionUptoRow.holds Try.pinned (OpenSpec.upto fnExactAbortTransactionSpec)

/-- 'laws.FnExactCommitOrder', WHERE WHAT IT READS IS OF BULK AT MOST 1048576: true; the input reads as it did. -/
def fnExactCommitOrderUptoRow : OpenClaim := { program := "ytfdcdbkblkehcaa", sum := "d17183979620c78474004cf61caf16ce27437beb333397bd73f753002892c498", func := "loop.example/g01924/laws.FnExactCommitOrder", spec := "fnExactCommitOrder", unfollowed := true, recurses := true, apart := false, narrowed := true }
def FnExactCommitOrderUptoSaid : Prop := fnExactCommitOrderUptoRow.holds Try.pinned (OpenSpec.upto fnExactCommitOrderSpec)

/-- 'laws.FnExactFinalState', WHERE WHAT IT READS IS OF BULK AT MOST 1048576: true; the input reads as it did. -/
def fnExactFinalStateUptoRow : OpenClaim := { program := "ytfdcdbkblkehcaa", sum := "d17183979620c78474004cf61caf16ce27437beb333397bd73f753002892c498", func := "loop.example/g01924/laws.FnExactFinalState", spec := "fnExactFinalState", unfollowed := true, recurses := true, apart := false, narrowed := true }
def FnExactFinalStateUptoSaid : Prop := fnExactFinalStateUptoRow.holds Try.pinned (OpenSpec.upto fnExactFinalStateSpec)

/-- 'laws.FnExactFirstMismatch', WHERE WHAT IT READS IS OF BULK AT MOST 1048576: true; the input reads as it did. -/
def fnExactFirstMismatchUptoRow : OpenClaim := { program := "ytfdcdbkblkehcaa", sum := "d17183979620c78474004cf61caf16ce27437beb333397bd73f753002892c498", func := "loop.example/g01924/laws.FnExactFirstMismatch", spec := "fnExactFirstMismatch", unfollowed := true, recurses := true, apart := false, narrowed := true }
def FnExactFirstMismatchUptoSaid : Prop := fnExactFirstMismatchUptoRow.holds Try.pinned (OpenSpec.upto fnExactFirstMismatchSpec)

/-- 'laws.FnExactNewNode', WHERE WHAT IT READS IS OF BULK AT MOST 1048576: true; the input reads as it did. -/
def fnExactNewNodeUptoRow : OpenClaim := { program := "ytfdcdbkblkehcaa", sum := "d17183979620c78474004cf61caf16ce27437beb333397bd73f753002892c498", func := "loop.example/g01924/laws.FnExactNewNode", spec := "fnExactNewNode", apart := false, narrowed := true }
def FnExactNewNodeUptoSaid : Prop := fnExactNewNodeUptoRow.holds Try.pinned (OpenSpec.upto fnExactNewNodeSpec)

/-- 'laws.FnExactTrackRead', WHERE WHAT IT READS IS OF BULK AT MOST 1048576: true; the input reads as it did. -/
def fnExactTrackReadUptoRow : OpenClaim := { program := "ytfdcdbkblkehcaa", sum := "d17183979620c78474004cf61caf16ce27437beb333397bd73f753002892c498", func := "loop.example/g01924/laws.FnExactTrackRead", spec := "fnExactTrackRead", inPlace := ["slices.overlaps[loop.example/g01924/impl.ReadMark]"], unfollowed := true, recurses := true, apart := false, narrowed := true }
def FnExactTrackReadUptoSaid : Prop := fnExactTrackReadUptoRow.holds Try.pinned (OpenSpec.upto fnExactTrackReadSpec)

/-- 'laws.FnExactReplaySerial', WHERE WHAT IT READS IS OF BULK AT MOST 1048576: true; the input reads as it did. -/
def fnExactReplaySerialUptoRow : OpenClaim := { program := "ytfdcdbkblkehcaa", sum := "d17183979620c78474004cf61caf16ce27437beb333397bd73f753002892c498", func := "loop.example/g01924/laws.FnExactReplaySerial", spec := "fnExactReplaySerial", unfollowed := true, recurses := true, apart := false, narrowed := true }
def FnExactReplaySerialUptoSaid : Prop := fnExactReplaySerialUptoRow.holds Try.pinned (OpenSpec.upto fnExactReplaySerialSpec)

/-- 'laws.FnExactEqualNodes', WHERE WHAT IT READS IS OF BULK AT MOST 1048576: true; the input reads as it did. -/
def fnExactEqualNodesUptoRow : OpenClaim := { program := "ytfdcdbkblkehcaa", sum := "d17183979620c78474004cf61caf16ce27437beb333397bd73f753002892c498", func := "loop.example/g01924/laws.FnExactEqualNodes", spec := "fnExactEqualNodes", unfollowed := true, recurses := true, apart := false, narrowed := true }
def FnExactEqualNodesUptoSaid : Prop := fnExactEqualNodesUptoRow.holds Try.pinned (OpenSpec.upto fnExactEqualNodesSpec)

/-- 'laws.FnExactIsEquivalent', WHERE WHAT IT READS IS OF BULK AT MOST 1048576: true; the input reads as it did. -/
def fnExactIsEquivalentUptoRow : OpenClaim := { program := "ytfdcdbkblkehcaa", sum := "d17183979620c78474004cf61caf16ce27437beb333397bd73f753002892c498", func := "loop.example/g01924/laws.FnExactIsEquivalent", spec := "fnExactIsEquivalent", unfollowed := true, recurses := true, apart := false, narrowed := true }
def FnExactIsEquivalentUptoSaid : Prop := fnExactIsEquivalentUptoRow.holds Try.pinned (OpenSpec.upto fnExactIsEquivalentSpec)

/-- 'laws.FnExactAddReader', WHERE WHAT IT READS IS OF BULK AT MOST 1048576: true; the input reads as it did. -/
def fnExactAddReaderUptoRow : OpenClaim := { program := "ytfdcdbkblkehcaa", sum := "d17183979620c78474004cf61caf16ce27437beb333397bd73f753002892c498", func := "loop.example/g01924/laws.FnExactAddReader", spec := "fnExactAddReader", inPlace := ["slices.overlaps[loop.example/g01924/impl.Entry]"], unfollowed := true, recurses := true, apart := false, narrowed := true }
def FnExactAddReaderUptoSaid : Prop := fnExactAddReaderUptoRow.holds Try.pinned (OpenSpec.upto fnExactAddReaderSpec)

end Rows
end Go.Proofs.Ytfdcdbkblkehcaa
