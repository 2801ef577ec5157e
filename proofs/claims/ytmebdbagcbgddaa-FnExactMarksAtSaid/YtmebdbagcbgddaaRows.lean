/-
  No cell of these rows narrows 'for every input' (looked for: loops, veiled, ifaces, maps, wideKeys, modest, calm, conditions, laid).
  DERIVED. THE GIVEN ROWS OF THIS SEAT. 12 by the template 'for every input the law returns true; each argument reads behind the call as it read before'; 0 by the template 'total and deterministic' (their statements: YtmebdbagcbgddaaTotals.lean).
  GIVEN WITH THE SEED: the statements are not yours to turn. If you find one false, say at which input.
  Laid BY PROGRAM, IN A SANDBOX (cutbox-rows.mjs): the forced cells as the released guide's own fill.sh prints them over the translation eef3c8911f6c1d9d… (all of the seat's roots in one cut). By AI agents, Wed Nov 11 2026. No macro, syntax, notation, axiom, sorry.
-/
import Derived.Test.YtmebdbagcbgddaaChecked
import GoSem.Claim
import GoSem.ClaimJoined
import GoSem.ClaimMapViews
import Derived.JoinedTies
import Derived.KernelRfl
namespace Go.Proofs.Ytmebdbagcbgddaa
/- THE CELL 'sum', in the pinned program and in every row, IS THE sha256 OF THE DUMP (.gsa) THAT YtmebdbagcbgddaaProg.lean LOADS. Nothing in Lean hashes anything: it is a label: what it is worth is what the hold of that sum in a sandbox is worth. -/
noncomputable def Try.pinned : Pinned := { name := "ytmebdbagcbgddaa", sum := "eef3c8911f6c1d9d45715ee48210e4539fbba65ca5028209b55ea93141343803", checked := Try.checked }
namespace Rows
def none {H : Type} : Left H := { results := [], args := [] }

/-- 'laws.FnExactChecksum': WHATEVER THE INPUT: true; the input reads as it did. -/
def fnExactChecksumSpec : ChangeSpec := { name := "fnExactChecksum", fn := fun _ => fun
  | [d] => { results := [.lit (.bool true)], args := [d] }
  | _ => none }
def fnExactChecksumRow : OpenClaim := { program := "ytmebdbagcbgddaa", sum := "eef3c8911f6c1d9d45715ee48210e4539fbba65ca5028209b55ea93141343803", func := "loop.example/g01924/laws.FnExactChecksum", spec := "fnExactChecksum", apart := false }
def FnExactChecksumSaid : Prop := fnExactChecksumRow.holds Try.pinned (OpenSpec.ofChange fnExactChecksumSpec)

/-- ITS FALSE NEIGHBOUR: 'it returns false'. Refute it at one input. -/
def fnExactChecksumWrong : ChangeSpec := { name := "fnExactChecksum", fn := fun _ => fun
  | [d] => { results := [.lit (.bool false)], args := [d] }
  | _ => none }
def FnExactChecksumWrongFalsely : Prop := fnExactChecksumRow.holds Try.pinned (OpenSpec.ofChange fnExactChecksumWrong)

/-- 'laws.FnExactAnomalyName': WHATEVER THE INPUT: true; the input reads as it did. -/
def fnExactAnomalyNameSpec : ChangeSpec := { name := "fnExactAnomalyName", fn := fun _ => fun
  | [d] => { results := [.lit (.bool true)], args := [d] }
  | _ => none }
def fnExactAnomalyNameRow : OpenClaim := { program := "ytmebdbagcbgddaa", sum := "eef3c8911f6c1d9d45715ee48210e4539fbba65ca5028209b55ea93141343803", func := "loop.example/g01924/laws.FnExactAnomalyName", spec := "fnExactAnomalyName", apart := false }
def FnExactAnomalyNameSaid : Prop := fnExactAnomalyNameRow.holds Try.pinned (OpenSpec.ofChange fnExactAnomalyNameSpec)

/-- ITS FALSE NEIGHBOUR: 'it returns false'. Refute it at one input. -/
def fnExactAnomalyNameWrong : ChangeSpec := { name := "fnExactAnomalyName", fn := fun _ => fun
  | [d] => { results := [.lit (.bool false)], args := [d] }
  | _ => none }
def FnExactAnomalyNameWrongFalsely : Prop := fnExactAnomalyNameRow.holds Try.pinned (OpenSpec.ofChange fnExactAnomalyNameWrong)

/-- 'laws.FnExactAreEdges': WHATEVER THE INPUT: true; the input reads as it did. -/
def fnExactAreEdgesSpec : ChangeSpec := { name := "fnExactAreEdges", fn := fun _ => fun
  | [d] => { results := [.lit (.bool true)], args := [d] }
  | _ => none }
def fnExactAreEdgesRow : OpenClaim := { program := "ytmebdbagcbgddaa", sum := "eef3c8911f6c1d9d45715ee48210e4539fbba65ca5028209b55ea93141343803", func := "loop.example/g01924/laws.FnExactAreEdges", spec := "fnExactAreEdges", apart := false }
def FnExactAreEdgesSaid : Prop := fnExactAreEdgesRow.holds Try.pinned (OpenSpec.ofChange fnExactAreEdgesSpec)

/-- ITS FALSE NEIGHBOUR: 'it returns false'. Refute it at one input. -/
def fnExactAreEdgesWrong : ChangeSpec := { name := "fnExactAreEdges", fn := fun _ => fun
  | [d] => { results := [.lit (.bool false)], args := [d] }
  | _ => none }
def FnExactAreEdgesWrongFalsely : Prop := fnExactAreEdgesRow.holds Try.pinned (OpenSpec.ofChange fnExactAreEdgesWrong)

/-- 'laws.FnExactEqualRecords': WHATEVER THE INPUT: true; the input reads as it did. -/
def fnExactEqualRecordsSpec : ChangeSpec := { name := "fnExactEqualRecords", fn := fun _ => fun
  | [d1, d2] => { results := [.lit (.bool true)], args := [d1, d2] }
  | _ => none }
def fnExactEqualRecordsRow : OpenClaim := { program := "ytmebdbagcbgddaa", sum := "eef3c8911f6c1d9d45715ee48210e4539fbba65ca5028209b55ea93141343803", func := "loop.example/g01924/laws.FnExactEqualRecords", spec := "fnExactEqualRecords", apart := false }
def FnExactEqualRecordsSaid : Prop := fnExactEqualRecordsRow.holds Try.pinned (OpenSpec.ofChange fnExactEqualRecordsSpec)

/-- ITS FALSE NEIGHBOUR: 'it returns false'. Refute it at one input. -/
def fnExactEqualRecordsWrong : ChangeSpec := { name := "fnExactEqualRecords", fn := fun _ => fun
  | [d1, d2] => { results := [.lit (.bool false)], args := [d1, d2] }
  | _ => none }
def FnExactEqualRecordsWrongFalsely : Prop := fnExactEqualRecordsRow.holds Try.pinned (OpenSpec.ofChange fnExactEqualRecordsWrong)

/-- 'laws.FnExactEdgeDistance': WHATEVER THE INPUT: true; the input reads as it did. -/
def fnExactEdgeDistanceSpec : ChangeSpec := { name := "fnExactEdgeDistance", fn := fun _ => fun
  | [d1, d2, d3] => { results := [.lit (.bool true)], args := [d1, d2, d3] }
  | _ => none }
def fnExactEdgeDistanceRow : OpenClaim := { program := "ytmebdbagcbgddaa", sum := "eef3c8911f6c1d9d45715ee48210e4539fbba65ca5028209b55ea93141343803", func := "loop.example/g01924/laws.FnExactEdgeDistance", spec := "fnExactEdgeDistance", apart := false }
def FnExactEdgeDistanceSaid : Prop := fnExactEdgeDistanceRow.holds Try.pinned (OpenSpec.ofChange fnExactEdgeDistanceSpec)

/-- ITS FALSE NEIGHBOUR: 'it returns false'. Refute it at one input. -/
def fnExactEdgeDistanceWrong : ChangeSpec := { name := "fnExactEdgeDistance", fn := fun _ => fun
  | [d1, d2, d3] => { results := [.lit (.bool false)], args := [d1, d2, d3] }
  | _ => none }
def FnExactEdgeDistanceWrongFalsely : Prop := fnExactEdgeDistanceRow.holds Try.pinned (OpenSpec.ofChange fnExactEdgeDistanceWrong)

/-- 'laws.FnExactNextWriter': WHATEVER THE INPUT: true; the input reads as it did. -/
def fnExactNextWriterSpec : ChangeSpec := { name := "fnExactNextWriter", fn := fun _ => fun
  | [d1, d2, d3] => { results := [.lit (.bool true)], args := [d1, d2, d3] }
  | _ => none }
def fnExactNextWriterRow : OpenClaim := { program := "ytmebdbagcbgddaa", sum := "eef3c8911f6c1d9d45715ee48210e4539fbba65ca5028209b55ea93141343803", func := "loop.example/g01924/laws.FnExactNextWriter", spec := "fnExactNextWriter", unfollowed := true, recurses := true, apart := false }
def FnExactNextWriterSaid : Prop := fnExactNextWriterRow.holds Try.pinned (OpenSpec.ofChange fnExactNextWriterSpec)

/-- ITS FALSE NEIGHBOUR: 'it returns false'. Refute it at one input. -/
def fnExactNextWriterWrong : ChangeSpec := { name := "fnExactNextWriter", fn := fun _ => fun
  | [d1, d2, d3] => { results := [.lit (.bool false)], args := [d1, d2, d3] }
  | _ => none }
def FnExactNextWriterWrongFalsely : Prop := fnExactNextWriterRow.holds Try.pinned (OpenSpec.ofChange fnExactNextWriterWrong)

/-- 'laws.FnExactCheckCycle': WHATEVER THE INPUT: true; the input reads as it did. -/
def fnExactCheckCycleSpec : ChangeSpec := { name := "fnExactCheckCycle", fn := fun _ => fun
  | [d1, d2] => { results := [.lit (.bool true)], args := [d1, d2] }
  | _ => none }
def fnExactCheckCycleRow : OpenClaim := { program := "ytmebdbagcbgddaa", sum := "eef3c8911f6c1d9d45715ee48210e4539fbba65ca5028209b55ea93141343803", func := "loop.example/g01924/laws.FnExactCheckCycle", spec := "fnExactCheckCycle", unfollowed := true, recurses := true, apart := false }
def FnExactCheckCycleSaid : Prop := fnExactCheckCycleRow.holds Try.pinned (OpenSpec.ofChange fnExactCheckCycleSpec)

/-- ITS FALSE NEIGHBOUR: 'it returns false'. Refute it at one input. -/
def fnExactCheckCycleWrong : ChangeSpec := { name := "fnExactCheckCycle", fn := fun _ => fun
  | [d1, d2] => { results := [.lit (.bool false)], args := [d1, d2] }
  | _ => none }
def FnExactCheckCycleWrongFalsely : Prop := fnExactCheckCycleRow.holds Try.pinned (OpenSpec.ofChange fnExactCheckCycleWrong)

/-- 'laws.FnExactIsValidRecord': WHATEVER THE INPUT: true; the input reads as it did. -/
def fnExactIsValidRecordSpec : ChangeSpec := { name := "fnExactIsValidRecord", fn := fun _ => fun
  | [d] => { results := [.lit (.bool true)], args := [d] }
  | _ => none }
def fnExactIsValidRecordRow : OpenClaim := { program := "ytmebdbagcbgddaa", sum := "eef3c8911f6c1d9d45715ee48210e4539fbba65ca5028209b55ea93141343803", func := "loop.example/g01924/laws.FnExactIsValidRecord", spec := "fnExactIsValidRecord", apart := false }
def FnExactIsValidRecordSaid : Prop := fnExactIsValidRecordRow.holds Try.pinned (OpenSpec.ofChange fnExactIsValidRecordSpec)

/-- ITS FALSE NEIGHBOUR: 'it returns false'. Refute it at one input. -/
def fnExactIsValidRecordWrong : ChangeSpec := { name := "fnExactIsValidRecord", fn := fun _ => fun
  | [d] => { results := [.lit (.bool false)], args := [d] }
  | _ => none }
def FnExactIsValidRecordWrongFalsely : Prop := fnExactIsValidRecordRow.holds Try.pinned (OpenSpec.ofChange fnExactIsValidRecordWrong)

/-- 'laws.FnExactIsAcyclic': WHATEVER THE INPUT: true; the input reads as it did. -/
def fnExactIsAcyclicSpec : ChangeSpec := { name := "fnExactIsAcyclic", fn := fun _ => fun
  | [d] => { results := [.lit (.bool true)], args := [d] }
  | _ => none }
def fnExactIsAcyclicRow : OpenClaim := { program := "ytmebdbagcbgddaa", sum := "eef3c8911f6c1d9d45715ee48210e4539fbba65ca5028209b55ea93141343803", func := "loop.example/g01924/laws.FnExactIsAcyclic", spec := "fnExactIsAcyclic", unfollowed := true, recurses := true, apart := false }
def FnExactIsAcyclicSaid : Prop := fnExactIsAcyclicRow.holds Try.pinned (OpenSpec.ofChange fnExactIsAcyclicSpec)

/-- ITS FALSE NEIGHBOUR: 'it returns false'. Refute it at one input. -/
def fnExactIsAcyclicWrong : ChangeSpec := { name := "fnExactIsAcyclic", fn := fun _ => fun
  | [d] => { results := [.lit (.bool false)], args := [d] }
  | _ => none }
def FnExactIsAcyclicWrongFalsely : Prop := fnExactIsAcyclicRow.holds Try.pinned (OpenSpec.ofChange fnExactIsAcyclicWrong)

/-- 'laws.FnExactCycleEdges': WHATEVER THE INPUT: true; the input reads as it did. -/
def fnExactCycleEdgesSpec : ChangeSpec := { name := "fnExactCycleEdges", fn := fun _ => fun
  | [d1, d2] => { results := [.lit (.bool true)], args := [d1, d2] }
  | _ => none }
def fnExactCycleEdgesRow : OpenClaim := { program := "ytmebdbagcbgddaa", sum := "eef3c8911f6c1d9d45715ee48210e4539fbba65ca5028209b55ea93141343803", func := "loop.example/g01924/laws.FnExactCycleEdges", spec := "fnExactCycleEdges", unfollowed := true, recurses := true, apart := false }
def FnExactCycleEdgesSaid : Prop := fnExactCycleEdgesRow.holds Try.pinned (OpenSpec.ofChange fnExactCycleEdgesSpec)

/-- ITS FALSE NEIGHBOUR: 'it returns false'. Refute it at one input. -/
def fnExactCycleEdgesWrong : ChangeSpec := { name := "fnExactCycleEdges", fn := fun _ => fun
  | [d1, d2] => { results := [.lit (.bool false)], args := [d1, d2] }
  | _ => none }
def FnExactCycleEdgesWrongFalsely : Prop := fnExactCycleEdgesRow.holds Try.pinned (OpenSpec.ofChange fnExactCycleEdgesWrong)

/-- 'laws.FnExactShortestCycle': WHATEVER THE INPUT: true; the input reads as it did. -/
def fnExactShortestCycleSpec : ChangeSpec := { name := "fnExactShortestCycle", fn := fun _ => fun
  | [d] => { results := [.lit (.bool true)], args := [d] }
  | _ => none }
def fnExactShortestCycleRow : OpenClaim := { program := "ytmebdbagcbgddaa", sum := "eef3c8911f6c1d9d45715ee48210e4539fbba65ca5028209b55ea93141343803", func := "loop.example/g01924/laws.FnExactShortestCycle", spec := "fnExactShortestCycle", unfollowed := true, recurses := true, apart := false }
def FnExactShortestCycleSaid : Prop := fnExactShortestCycleRow.holds Try.pinned (OpenSpec.ofChange fnExactShortestCycleSpec)

/-- ITS FALSE NEIGHBOUR: 'it returns false'. Refute it at one input. -/
def fnExactShortestCycleWrong : ChangeSpec := { name := "fnExactShortestCycle", fn := fun _ => fun
  | [d] => { results := [.lit (.bool false)], args := [d] }
  | _ => none }
def FnExactShortestCycleWrongFalsely : Prop := fnExactShortestCycleRow.holds Try.pinned (OpenSpec.ofChange fnExactShortestCycleWrong)

/-- 'laws.FnExactMarksAt': WHATEVER THE INPUT: true; the input reads as it did. -/
def fnExactMarksAtSpec : ChangeSpec := { name := "fnExactMarksAt", fn := fun _ => fun
  | [d1, d2] => { results := [.lit (.bool true)], args := [d1, d2] }
  | _ => none }
def fnExactMarksAtRow : OpenClaim := { program := "ytmebdbagcbgddaa", sum := "eef3c8911f6c1d9d45715ee48210e4539fbba65ca5028209b55ea93141343803", func := "loop.example/g01924/laws.FnExactMarksAt", spec := "fnExactMarksAt", unfollowed := true, recurses := true, apart := false }
def FnExactMarksAtSaid : Prop := fnExactMarksAtRow.holds Try.pinned (OpenSpec.ofChange fnExactMarksAtSpec)

/-- ITS FALSE NEIGHBOUR: 'it returns false'. Refute it at one input. -/
def fnExactMarksAtWrong : ChangeSpec := { name := "fnExactMarksAt", fn := fun _ => fun
  | [d1, d2] => { results := [.lit (.bool false)], args := [d1, d2] }
  | _ => none }
def FnExactMarksAtWrongFalsely : Prop := fnExactMarksAtRow.holds Try.pinned (OpenSpec.ofChange fnExactMarksAtWrong)

/- THE SECOND FORM. 'bulk': how many values and letters a reading holds, each counted each time it is reached (what is shared counts as often as it is met; a slice's spare places count too). A statement '..UptoSaid' is the law's where the arguments, and the package variables that the reading takes, are together of bulk at most 1048576: NARROWER than '..Said'. Prove '..Said' where nothing that the law and all that it calls make is longer than what came in: it says more and counts as full. Else prove '..UptoSaid'. A law counts once. -/
mutual
def uptoBulk {H : Type} : DataW H → Nat
  | .lit (.string bytes) => bytes.length + 1
  | .lit _ => 1
  | .nil => 1
  | .ptr d => uptoBulk d + 1
  | .slice elems spare => uptoBulkAll elems + uptoBulkAll spare + 1
  | .agg parts => uptoBulkAll parts + 1
  | .iface _ d => uptoBulk d + 1
  | .map entries => uptoBulkEntries entries + 1
  | .held _ => 1
def uptoBulkAll {H : Type} : List (DataW H) → Nat
  | [] => 0
  | d :: r => uptoBulk d + uptoBulkAll r
def uptoBulkEntries {H : Type} : List (Lit × DataW H) → Nat
  | [] => 0
  | x :: r => uptoBulkEntry x + uptoBulkEntries r
def uptoBulkEntry {H : Type} : Lit × DataW H → Nat
  | (.string bytes, d) => bytes.length + uptoBulk d + 1
  | (_, d) => uptoBulk d + 1
 end
def uptoSmall : (H : Type) → List (DataW H) → Bool := fun _ ds => decide (uptoBulkAll ds ≤ 1048576)
def OpenSpec.upto (s : _root_.Go.ChangeSpec) : _root_.Go.OpenSpec := { _root_.Go.OpenSpec.ofChange s with cond := some uptoSmall }

/-- 'laws.FnExactChecksum', WHERE WHAT IT READS IS OF BULK AT MOST 1048576: true; the input reads as it did. -/
def fnExactChecksumUptoRow : OpenClaim := { program := "ytmebdbagcbgddaa", sum := "eef3c8911f6c1d9d45715ee48210e4539fbba65ca5028209b55ea93141343803", func := "loop.example/g01924/laws.FnExactChecksum", spec := "fnExactChecksum", apart := false, narrowed := true }
def FnExactChecksumUptoSaid : Prop := fnExactChecksumUptoRow.holds Try.pinned (OpenSpec.upto fnExactChecksumSpec)

/-- 'laws.FnExactAnomalyName', WHERE WHAT IT READS IS OF BULK AT MOST 1048576: true; the input reads as it did. -/
def fnExactAnomalyNameUptoRow : OpenClaim := { program := "ytmebdbagcbgddaa", sum := "eef3c8911f6c1d9d45715ee48210e4539fbba65ca5028209b55ea93141343803", func := "loop.example/g01924/laws.FnExactAnomalyName", spec := "fnExactAnomalyName", apart := false, narrowed := true }
def FnExactAnomalyNameUptoSaid : Prop := fnExactAnomalyNameUptoRow.holds Try.pinned (OpenSpec.upto fnExactAnomalyNameSpec)

/-- 'laws.FnExactAreEdges', WHERE WHAT IT READS IS OF BULK AT MOST 1048576: true; the input reads as it did. -/
def fnExactAreEdgesUptoRow : OpenClaim := { program := "ytmebdbagcbgddaa", sum := "eef3c8911f6c1d9d45715ee48210e4539fbba65ca5028209b55ea93141343803", func := "loop.example/g01924/laws.FnExactAreEdges", spec := "fnExactAreEdges", apart := false, narrowed := true }
def FnExactAreEdgesUptoSaid : Prop := fnExactAreEdgesUptoRow.holds Try.pinned (OpenSpec.upto fnExactAreEdgesSpec)

/-- 'laws.FnExactEqualRecords', WHERE WHAT IT READS IS OF BULK AT MOST 1048576: true; the input reads as it did. -/
def fnExactEqualRecordsUptoRow : OpenClaim := { program := "ytmebdbagcbgddaa", sum := "eef3c8911f6c1d9d45715ee48210e4539fbba65ca5028209b55ea93141343803", func := "loop.example/g01924/laws.FnExactEqualRecords", spec := "fnExactEqualRecords", apart := false, narrowed := true }
def FnExactEqualRecordsUptoSaid : Prop := fnExactEqualRecordsUptoRow.holds Try.pinned (OpenSpec.upto fnExactEqualRecordsSpec)

/-- 'laws.FnExactEdgeDistance', WHERE WHAT IT READS IS OF BULK AT MOST 1048576: true; the input reads as it did. -/
def fnExactEdgeDistanceUptoRow : OpenClaim := { program := "ytmebdbagcbgddaa", sum := "eef3c8911f6c1d9d45715ee48210e4539fbba65ca5028209b55ea93141343803", func := "loop.example/g01924/laws.FnExactEdgeDistance", spec := "fnExactEdgeDistance", apart := false, narrowed := true }
def FnExactEdgeDistanceUptoSaid : Prop := fnExactEdgeDistanceUptoRow.holds Try.pinned (OpenSpec.upto fnExactEdgeDistanceSpec)

/-- 'laws.FnExactNextWriter', WHERE WHAT IT READS IS OF BULK AT MOST 1048576: true; the input reads as it did. -/
def fnExactNextWriterUptoRow : OpenClaim := { program := "ytmebdbagcbgddaa", sum := "eef3c8911f6c1d9d45715ee48210e4539fbba65ca5028209b55ea93141343803", func := "loop.example/g01924/laws.FnExactNextWriter", spec := "fnExactNextWriter", unfollowed := true, recurses := true, apart := false, narrowed := true }
def FnExactNextWriterUptoSaid : Prop := fnExactNextWriterUptoRow.holds Try.pinned (OpenSpec.upto fnExactNextWriterSpec)

/-- 'laws.FnExactCheckCycle', WHERE WHAT IT READS IS OF BULK AT MOST 1048576: true; the input reads as it did. -/
def fnExactCheckCycleUptoRow : OpenClaim := { program := "ytmebdbagcbgddaa", sum := "eef3c8911f6c1d9d45715ee48210e4539fbba65ca5028209b55ea93141343803", func := "loop.example/g01924/laws.FnExactCheckCycle", spec := "fnExactCheckCycle", unfollowed := true, recurses := true, apart := false, narrowed := true }
def FnExactCheckCycleUptoSaid : Prop := fnExactCheckCycleUptoRow.holds Try.pinned (OpenSpec.upto fnExactCheckCycleSpec)

/-- 'laws.FnExactIsValidRecord', WHERE WHAT IT READS IS OF BULK AT MOST 1048576: true; the input reads as it did. -/
def fnExactIsValidRecordUptoRow : OpenClaim := { program := "ytmebdbagcbgddaa", sum := "eef3c8911f6c1d9d45715ee48210e4539fbba65ca5028209b55ea93141343803", func := "loop.example/g01924/laws.FnExactIsValidRecord", spec := "fnExactIsValidRecord", apart := false, narrowed := true }
def FnExactIsValidRecordUptoSaid : Prop := fnExactIsValidRecordUptoRow.holds Try.pinned (OpenSpec.upto fnExactIsValidRecordSpec)

/-- 'laws.FnExactIsAcyclic', WHERE WHAT IT READS IS OF BULK AT MOST 1048576: true; the input reads as it did. -/
def fnExactIsAcyclicUptoRow : OpenClaim := { program := "ytmebdbagcbgddaa", sum := "eef3c8911f6c1d9d45715ee48210e4539fbba65ca5028209b55ea93141343803", func := "loop.example/g01924/laws.FnExactIsAcyclic", spec := "fnExactIsAcyclic", unfollowed := true, recurses := true, apart := false, narrowed := true }
def FnExactIsAcyclicUptoSaid : Prop := fnExactIsAcyclicUptoRow.holds Try.pinned (OpenSpec.upto fnExactIsAcyclicSpec)

/-- 'laws.FnExactCycleEdges', WHERE WHAT IT READS IS OF BULK AT MOST 1048576: true; the input reads as it did. -/
def fnExactCycleEdgesUptoRow : OpenClaim := { program := "ytmebdbagcbgddaa", sum := "eef3c8911f6c1d9d45715ee48210e4539fbba65ca5028209b55ea93141343803", func := "loop.example/g01924/laws.FnExactCycleEdges", spec := "fnExactCycleEdges", unfollowed := true, recurses := true, apart := false, narrowed := true }
def FnExactCycleEdgesUptoSaid : Prop := fnExactCycleEdgesUptoRow.holds Try.pinned (OpenSpec.upto fnExactCycleEdgesSpec)

/-- 'laws.FnExactShortestCycle', WHERE WHAT IT READS IS OF BULK AT MOST 1048576: true; the input reads as it did. -/
def fnExactShortestCycleUptoRow : OpenClaim := { program := "ytmebdbagcbgddaa", sum := "eef3c8911f6c1d9d45715ee48210e4539fbba65ca5028209b55ea93141343803", func := "loop.example/g01924/laws.FnExactShortestCycle", spec := "fnExactShortestCycle", unfollowed := true, recurses := true, apart := false, narrowed := true }
def FnExactShortestCycleUptoSaid : Prop := fnExactShortestCycleUptoRow.holds Try.pinned (OpenSpec.upto fnExactShortestCycleSpec)

/-- 'laws.FnExactMarksAt', WHERE WHAT IT READS IS OF BULK AT MOST 1048576: true; the input reads as it did. -/
def fnExactMarksAtUptoRow : OpenClaim := { program := "ytmebdbagcbgddaa", sum := "eef3c8911f6c1d9d45715ee48210e4539fbba65ca5028209b55ea93141343803", func := "loop.example/g01924/laws.FnExactMarksAt", spec := "fnExactMarksAt", unfollowed := true, recurses := true, apart := false, narrowed := true }
def FnExactMarksAtUptoSaid : Prop := fnExactMarksAtUptoRow.holds Try.pinned (OpenSpec.upto fnExactMarksAtSpec)

end Rows
end Go.Proofs.Ytmebdbagcbgddaa
