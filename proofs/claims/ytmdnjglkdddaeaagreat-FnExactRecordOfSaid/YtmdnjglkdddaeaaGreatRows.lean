/-
  No cell of these rows narrows 'for every input' (looked for: loops, veiled, ifaces, maps, wideKeys, modest, calm, conditions, laid).
  DERIVED. THE GIVEN ROWS OF THIS SEAT. 4 by the template 'for every input the law returns true; each argument reads behind the call as it read before'; 0 by the template 'total and deterministic' (their statements: YtmdnjglkdddaeaaGreatTotals.lean).
  GIVEN WITH THE SEED: the statements are not yours to turn. If you find one false, say at which input.
  Laid BY PROGRAM, IN A SANDBOX (cutbox-rows.mjs): the forced cells as the released guide's own fill.sh prints them over the translation 9c619f452c319329… (all of the seat's roots in one cut). By AI agents, Wed Nov 11 2026. No macro, syntax, notation, axiom, sorry.
-/
import Derived.Test.YtmdnjglkdddaeaaGreatChecked
import GoSem.Claim
import GoSem.ClaimJoined
import GoSem.ClaimMapViews
import Derived.JoinedTies
import Derived.KernelRfl
namespace Go.Proofs.YtmdnjglkdddaeaaGreat
/- THE CELL 'sum', in the pinned program and in every row, IS THE sha256 OF THE DUMP (.gsa) THAT YtmdnjglkdddaeaaGreatProg.lean LOADS. Nothing in Lean hashes anything: it is a label: what it is worth is what the hold of that sum in a sandbox is worth. -/
noncomputable def Tryz.pinned : Pinned := { name := "ytmdnjglkdddaeaagreat", sum := "9c619f452c31932981b7fc81bd53cc10b3e104945b0b7be36051feca88783438", checked := Tryz.checked }
namespace Rows
def none {H : Type} : Left H := { results := [], args := [] }

/-- 'laws.FnExactCommitTransaction': WHATEVER THE INPUT: true; the input reads as it did. -/
def fnExactCommitTransactionSpec : ChangeSpec := { name := "fnExactCommitTransaction", fn := fun _ => fun
  | [d1, d2, d3] => { results := [.lit (.bool true)], args := [d1, d2, d3] }
  | _ => none }
def fnExactCommitTransactionRow : OpenClaim := { program := "ytmdnjglkdddaeaagreat", sum := "9c619f452c31932981b7fc81bd53cc10b3e104945b0b7be36051feca88783438", func := "loop.example/g01924/laws.FnExactCommitTransaction", spec := "fnExactCommitTransaction", unfollowed := true, recurses := true, apart := false }
def FnExactCommitTransactionSaid : Prop := fnExactCommitTransactionRow.holds Tryz.pinned (OpenSpec.ofChange fnExactCommitTransactionSpec)

/-- ITS FALSE NEIGHBOUR: 'it returns false'. Refute it at one input. -/
def fnExactCommitTransactionWrong : ChangeSpec := { name := "fnExactCommitTransaction", fn := fun _ => fun
  | [d1, d2, d3] => { results := [.lit (.bool false)], args := [d1, d2, d3] }
  | _ => none }
def FnExactCommitTransactionWrongFalsely : Prop := fnExactCommitTransactionRow.holds Tryz.pinned (OpenSpec.ofChange fnExactCommitTransactionWrong)

/-- 'laws.FnExactReadSafe': WHATEVER THE INPUT: true; the input reads as it did. -/
def fnExactReadSafeSpec : ChangeSpec := { name := "fnExactReadSafe", fn := fun _ => fun
  | [d1, d2] => { results := [.lit (.bool true)], args := [d1, d2] }
  | _ => none }
def fnExactReadSafeRow : OpenClaim := { program := "ytmdnjglkdddaeaagreat", sum := "9c619f452c31932981b7fc81bd53cc10b3e104945b0b7be36051feca88783438", func := "loop.example/g01924/laws.FnExactReadSafe", spec := "fnExactReadSafe", unfollowed := true, recurses := true, apart := false }
def FnExactReadSafeSaid : Prop := fnExactReadSafeRow.holds Tryz.pinned (OpenSpec.ofChange fnExactReadSafeSpec)

/-- ITS FALSE NEIGHBOUR: 'it returns false'. Refute it at one input. -/
def fnExactReadSafeWrong : ChangeSpec := { name := "fnExactReadSafe", fn := fun _ => fun
  | [d1, d2] => { results := [.lit (.bool false)], args := [d1, d2] }
  | _ => none }
def FnExactReadSafeWrongFalsely : Prop := fnExactReadSafeRow.holds Tryz.pinned (OpenSpec.ofChange fnExactReadSafeWrong)

/-- 'laws.FnExactRecordOf': WHATEVER THE INPUT: true; the input reads as it did. -/
def fnExactRecordOfSpec : ChangeSpec := { name := "fnExactRecordOf", fn := fun _ => fun
  | [d1, d2] => { results := [.lit (.bool true)], args := [d1, d2] }
  | _ => none }
def fnExactRecordOfRow : OpenClaim := { program := "ytmdnjglkdddaeaagreat", sum := "9c619f452c31932981b7fc81bd53cc10b3e104945b0b7be36051feca88783438", func := "loop.example/g01924/laws.FnExactRecordOf", spec := "fnExactRecordOf", unfollowed := true, recurses := true, apart := false }
def FnExactRecordOfSaid : Prop := fnExactRecordOfRow.holds Tryz.pinned (OpenSpec.ofChange fnExactRecordOfSpec)

/-- ITS FALSE NEIGHBOUR: 'it returns false'. Refute it at one input. -/
def fnExactRecordOfWrong : ChangeSpec := { name := "fnExactRecordOf", fn := fun _ => fun
  | [d1, d2] => { results := [.lit (.bool false)], args := [d1, d2] }
  | _ => none }
def FnExactRecordOfWrongFalsely : Prop := fnExactRecordOfRow.holds Tryz.pinned (OpenSpec.ofChange fnExactRecordOfWrong)

/-- 'laws.FnExactSafeEntry': WHATEVER THE INPUT: true; the input reads as it did. -/
def fnExactSafeEntrySpec : ChangeSpec := { name := "fnExactSafeEntry", fn := fun _ => fun
  | [d1, d2] => { results := [.lit (.bool true)], args := [d1, d2] }
  | _ => none }
def fnExactSafeEntryRow : OpenClaim := { program := "ytmdnjglkdddaeaagreat", sum := "9c619f452c31932981b7fc81bd53cc10b3e104945b0b7be36051feca88783438", func := "loop.example/g01924/laws.FnExactSafeEntry", spec := "fnExactSafeEntry", unfollowed := true, recurses := true, apart := false }
def FnExactSafeEntrySaid : Prop := fnExactSafeEntryRow.holds Tryz.pinned (OpenSpec.ofChange fnExactSafeEntrySpec)

/-- ITS FALSE NEIGHBOUR: 'it returns false'. Refute it at one input. -/
def fnExactSafeEntryWrong : ChangeSpec := { name := "fnExactSafeEntry", fn := fun _ => fun
  | [d1, d2] => { results := [.lit (.bool false)], args := [d1, d2] }
  | _ => none }
def FnExactSafeEntryWrongFalsely : Prop := fnExactSafeEntryRow.holds Tryz.pinned (OpenSpec.ofChange fnExactSafeEntryWrong)

/- THE SECOND FORM. 'bulk': how many values and letters a reading holds, each counted each time it is reached (what is shared counts as often as it is met; a slice's spare places count too). A statement '..UptoSaid' is the law's where the arguments, and the package variables that the reading takes, are together of bulk at most 1048576: NARROWER than '..Said'. Prove '..Said' where nothing that the law and all that it calls make is longer than what came in: it says more and counts as full. Else prove '..UptoSaid'. A law counts once. -/
mutual
def uptoBulk {H : Type} : DataW H → Nat
  | .lit (.string bytes) => bytes.length + 1
  | .lit _ => 1
  | .nil => 1
  | .ptr d => uptoBulk d + 1
  | .slice elems spare => uptoBulkAll elems + uptoBulkAll spare + 1
  | .agg parts => uptoBulkAll parts + 1
  | .iface _ d => uptoBulk d + 1
  | .map entries => uptoBulkEntries entries + 1
  | .held _ => 1
def uptoBulkAll {H : Type} : List (DataW H) → Nat
  | [] => 0
  | d :: r => uptoBulk d + uptoBulkAll r
def uptoBulkEntries {H : Type} : List (Lit × DataW H) → Nat
  | [] => 0
  | x :: r => uptoBulkEntry x + uptoBulkEntries r
def uptoBulkEntry {H : Type} : Lit × DataW H → Nat
  | (.string bytes, d) => bytes.length + uptoBulk d + 1
  | (_, d) => uptoBulk d + 1
 end
def uptoSmall : (H : Type) → List (DataW H) → Bool := fun _ ds => decide (uptoBulkAll ds ≤ 1048576)
def OpenSpec.upto (s : _root_.Go.ChangeSpec) : _root_.Go.OpenSpec := { _root_.Go.OpenSpec.ofChange s with cond := some uptoSmall }

/-- 'laws.FnExactCommitTransaction', WHERE WHAT IT READS IS OF BULK AT MOST 1048576: true; the input reads as it did. -/
def fnExactCommitTransactionUptoRow : OpenClaim := { program := "ytmdnjglkdddaeaagreat", sum := "9c619f452c31932981b7fc81bd53cc10b3e104945b0b7be36051feca88783438", func := "loop.example/g01924/laws.FnExactCommitTransaction", spec := "fnExactCommitTransaction", unfollowed := true, recurses := true, apart := false, narrowed := true }
def FnExactCommitTransactionUptoSaid : Prop := fnExactCommitTransactionUptoRow.holds Tryz.pinned (OpenSpec.upto fnExactCommitTransactionSpec)

/-- 'laws.FnExactReadSafe', WHERE WHAT IT READS IS OF BULK AT MOST 1048576: true; the input reads as it did. -/
def fnExactReadSafeUptoRow : OpenClaim := { program := "ytmdnjglkdddaeaagreat", sum := "9c619f452c31932981b7fc81bd53cc10b3e104945b0b7be36051feca88783438", func := "loop.example/g01924/laws.FnExactReadSafe", spec := "fnExactReadSafe", unfollowed := true, recurses := true, apart := false, narrowed := true }
def FnExactReadSafeUptoSaid : Prop := fnExactReadSafeUptoRow.holds Tryz.pinned (OpenSpec.upto fnExactReadSafeSpec)

/-- 'laws.FnExactRecordOf', WHERE WHAT IT READS IS OF BULK AT MOST 1048576: true; the input reads as it did. -/
def fnExactRecordOfUptoRow : OpenClaim := { program := "ytmdnjglkdddaeaagreat", sum := "9c619f452c31932981b7fc81bd53cc10b3e104945b0b7be36051feca88783438", func := "loop.example/g01924/laws.FnExactRecordOf", spec := "fnExactRecordOf", unfollowed := true, recurses := true, apart := false, narrowed := true }
def FnExactRecordOfUptoSaid : Prop := fnExactRecordOfUptoRow.holds Tryz.pinned (OpenSpec.upto fnExactRecordOfSpec)

/-- 'laws.FnExactSafeEntry', WHERE WHAT IT READS IS OF BULK AT MOST 1048576: true; the input reads as it did. -/
def fnExactSafeEntryUptoRow : OpenClaim := { program := "ytmdnjglkdddaeaagreat", sum := "9c619f452c31932981b7fc81bd53cc10b3e104945b0b7be36051feca88783438", func := "loop.example/g01924/laws.FnExactSafeEntry", spec := "fnExactSafeEntry", unfollowed := true, recurses := true, apart := false, narrowed := true }
def FnExactSafeEntryUptoSaid : Prop := fnExactSafeEntryUptoRow.holds Tryz.pinned (OpenSpec.upto fnExactSafeEntrySpec)

end Rows
end Go.Proofs.YtmdnjglkdddaeaaGreat
