/-
  No cell of these rows narrows 'for every input' (looked for: loops, veiled, ifaces, maps, wideKeys, modest, calm, conditions, laid).
  DERIVED. THE GIVEN ROWS OF THIS SEAT. 6 by the template 'for every input the law returns true; each argument reads behind the call as it read before'; 0 by the template 'total and deterministic' (their statements: YtlmnkhlkccipfaaTotals.lean).
  GIVEN WITH THE SEED: the statements are not yours to turn. If you find one false, say at which input.
  Laid BY PROGRAM, IN A SANDBOX (cutbox-rows.mjs): the forced cells as the released guide's own fill.sh prints them over the translation 6572a7f21941476d… (all of the seat's roots in one cut). By AI agents, Wed Nov 11 2026. No macro, syntax, notation, axiom, sorry.
-/
import Derived.Test.YtlmnkhlkccipfaaChecked
import GoSem.Claim
import GoSem.ClaimJoined
import GoSem.ClaimMapViews
import Derived.JoinedTies
import Derived.KernelRfl
namespace Go.Proofs.Ytlmnkhlkccipfaa
/- THE CELL 'sum', in the pinned program and in every row, IS THE sha256 OF THE DUMP (.gsa) THAT YtlmnkhlkccipfaaProg.lean LOADS. Nothing in Lean hashes anything: it is a label: what it is worth is what the hold of that sum in a sandbox is worth. -/
noncomputable def Try.pinned : Pinned := { name := "ytlmnkhlkccipfaa", sum := "6572a7f21941476ddebc832decfbc24ab21b70e9d2b453c271940e948b4aaa20", checked := Try.checked }
namespace Rows
def none {H : Type} : Left H := { results := [], args := [] }

/-- 'laws.FnExactBuildGraph': WHATEVER THE INPUT: true; the input reads as it did. -/
def fnExactBuildGraphSpec : ChangeSpec := { name := "fnExactBuildGraph", fn := fun _ => fun
  | [d] => { results := [.lit (.bool true)], args := [d] }
  | _ => none }
def fnExactBuildGraphRow : OpenClaim := { program := "ytlmnkhlkccipfaa", sum := "6572a7f21941476ddebc832decfbc24ab21b70e9d2b453c271940e948b4aaa20", func := "loop.example/g01924/laws.FnExactBuildGraph", spec := "fnExactBuildGraph", unfollowed := true, recurses := true, apart := false }
def FnExactBuildGraphSaid : Prop := fnExactBuildGraphRow.holds Try.pinned (OpenSpec.ofChange fnExactBuildGraphSpec)

/-- ITS FALSE NEIGHBOUR: 'it returns false'. Refute it at one input. -/
def fnExactBuildGraphWrong : ChangeSpec := { name := "fnExactBuildGraph", fn := fun _ => fun
  | [d] => { results := [.lit (.bool false)], args := [d] }
  | _ => none }
def FnExactBuildGraphWrongFalsely : Prop := fnExactBuildGraphRow.holds Try.pinned (OpenSpec.ofChange fnExactBuildGraphWrong)

/-- 'laws.FnExactBackEdges': WHATEVER THE INPUT: true; the input reads as it did. -/
def fnExactBackEdgesSpec : ChangeSpec := { name := "fnExactBackEdges", fn := fun _ => fun
  | [d] => { results := [.lit (.bool true)], args := [d] }
  | _ => none }
def fnExactBackEdgesRow : OpenClaim := { program := "ytlmnkhlkccipfaa", sum := "6572a7f21941476ddebc832decfbc24ab21b70e9d2b453c271940e948b4aaa20", func := "loop.example/g01924/laws.FnExactBackEdges", spec := "fnExactBackEdges", unfollowed := true, recurses := true, apart := false }
def FnExactBackEdgesSaid : Prop := fnExactBackEdgesRow.holds Try.pinned (OpenSpec.ofChange fnExactBackEdgesSpec)

/-- ITS FALSE NEIGHBOUR: 'it returns false'. Refute it at one input. -/
def fnExactBackEdgesWrong : ChangeSpec := { name := "fnExactBackEdges", fn := fun _ => fun
  | [d] => { results := [.lit (.bool false)], args := [d] }
  | _ => none }
def FnExactBackEdgesWrongFalsely : Prop := fnExactBackEdgesRow.holds Try.pinned (OpenSpec.ofChange fnExactBackEdgesWrong)

/-- 'laws.FnExactIsSerialOrder': WHATEVER THE INPUT: true; the input reads as it did. -/
def fnExactIsSerialOrderSpec : ChangeSpec := { name := "fnExactIsSerialOrder", fn := fun _ => fun
  | [d1, d2] => { results := [.lit (.bool true)], args := [d1, d2] }
  | _ => none }
def fnExactIsSerialOrderRow : OpenClaim := { program := "ytlmnkhlkccipfaa", sum := "6572a7f21941476ddebc832decfbc24ab21b70e9d2b453c271940e948b4aaa20", func := "loop.example/g01924/laws.FnExactIsSerialOrder", spec := "fnExactIsSerialOrder", unfollowed := true, recurses := true, apart := false }
def FnExactIsSerialOrderSaid : Prop := fnExactIsSerialOrderRow.holds Try.pinned (OpenSpec.ofChange fnExactIsSerialOrderSpec)

/-- ITS FALSE NEIGHBOUR: 'it returns false'. Refute it at one input. -/
def fnExactIsSerialOrderWrong : ChangeSpec := { name := "fnExactIsSerialOrder", fn := fun _ => fun
  | [d1, d2] => { results := [.lit (.bool false)], args := [d1, d2] }
  | _ => none }
def FnExactIsSerialOrderWrongFalsely : Prop := fnExactIsSerialOrderRow.holds Try.pinned (OpenSpec.ofChange fnExactIsSerialOrderWrong)

/-- 'laws.FnExactDangerousPivot': WHATEVER THE INPUT: true; the input reads as it did. -/
def fnExactDangerousPivotSpec : ChangeSpec := { name := "fnExactDangerousPivot", fn := fun _ => fun
  | [d1, d2] => { results := [.lit (.bool true)], args := [d1, d2] }
  | _ => none }
def fnExactDangerousPivotRow : OpenClaim := { program := "ytlmnkhlkccipfaa", sum := "6572a7f21941476ddebc832decfbc24ab21b70e9d2b453c271940e948b4aaa20", func := "loop.example/g01924/laws.FnExactDangerousPivot", spec := "fnExactDangerousPivot", unfollowed := true, recurses := true, apart := false }
def FnExactDangerousPivotSaid : Prop := fnExactDangerousPivotRow.holds Try.pinned (OpenSpec.ofChange fnExactDangerousPivotSpec)

/-- ITS FALSE NEIGHBOUR: 'it returns false'. Refute it at one input. -/
def fnExactDangerousPivotWrong : ChangeSpec := { name := "fnExactDangerousPivot", fn := fun _ => fun
  | [d1, d2] => { results := [.lit (.bool false)], args := [d1, d2] }
  | _ => none }
def FnExactDangerousPivotWrongFalsely : Prop := fnExactDangerousPivotRow.holds Try.pinned (OpenSpec.ofChange fnExactDangerousPivotWrong)

/-- 'laws.FnExactCountSerialOrders': WHATEVER THE INPUT: true; the input reads as it did. -/
def fnExactCountSerialOrdersSpec : ChangeSpec := { name := "fnExactCountSerialOrders", fn := fun _ => fun
  | [d] => { results := [.lit (.bool true)], args := [d] }
  | _ => none }
def fnExactCountSerialOrdersRow : OpenClaim := { program := "ytlmnkhlkccipfaa", sum := "6572a7f21941476ddebc832decfbc24ab21b70e9d2b453c271940e948b4aaa20", func := "loop.example/g01924/laws.FnExactCountSerialOrders", spec := "fnExactCountSerialOrders", unfollowed := true, recurses := true, apart := false }
def FnExactCountSerialOrdersSaid : Prop := fnExactCountSerialOrdersRow.holds Try.pinned (OpenSpec.ofChange fnExactCountSerialOrdersSpec)

/-- ITS FALSE NEIGHBOUR: 'it returns false'. Refute it at one input. -/
def fnExactCountSerialOrdersWrong : ChangeSpec := { name := "fnExactCountSerialOrders", fn := fun _ => fun
  | [d] => { results := [.lit (.bool false)], args := [d] }
  | _ => none }
def FnExactCountSerialOrdersWrongFalsely : Prop := fnExactCountSerialOrdersRow.holds Try.pinned (OpenSpec.ofChange fnExactCountSerialOrdersWrong)

/-- 'laws.FnExactSerialOrder': WHATEVER THE INPUT: true; the input reads as it did. -/
def fnExactSerialOrderSpec : ChangeSpec := { name := "fnExactSerialOrder", fn := fun _ => fun
  | [d] => { results := [.lit (.bool true)], args := [d] }
  | _ => none }
def fnExactSerialOrderRow : OpenClaim := { program := "ytlmnkhlkccipfaa", sum := "6572a7f21941476ddebc832decfbc24ab21b70e9d2b453c271940e948b4aaa20", func := "loop.example/g01924/laws.FnExactSerialOrder", spec := "fnExactSerialOrder", unfollowed := true, recurses := true, apart := false }
def FnExactSerialOrderSaid : Prop := fnExactSerialOrderRow.holds Try.pinned (OpenSpec.ofChange fnExactSerialOrderSpec)

/-- ITS FALSE NEIGHBOUR: 'it returns false'. Refute it at one input. -/
def fnExactSerialOrderWrong : ChangeSpec := { name := "fnExactSerialOrder", fn := fun _ => fun
  | [d] => { results := [.lit (.bool false)], args := [d] }
  | _ => none }
def FnExactSerialOrderWrongFalsely : Prop := fnExactSerialOrderRow.holds Try.pinned (OpenSpec.ofChange fnExactSerialOrderWrong)

/- THE SECOND FORM. 'bulk': how many values and letters a reading holds, each counted each time it is reached (what is shared counts as often as it is met; a slice's spare places count too). A statement '..UptoSaid' is the law's where the arguments, and the package variables that the reading takes, are together of bulk at most 1048576: NARROWER than '..Said'. Prove '..Said' where nothing that the law and all that it calls make is longer than what came in: it says more and counts as full. Else prove '..UptoSaid'. A law counts once. -/
mutual
def uptoBulk {H : Type} : DataW H → Nat
  | .lit (.string bytes) => bytes.length + 1
  | .lit _ => 1
  | .nil => 1
  | .ptr d => uptoBulk d + 1
  | .slice elems spare => uptoBulkAll elems + uptoBulkAll spare + 1
  | .agg parts => uptoBulkAll parts + 1
  | .iface _ d => uptoBulk d + 1
  | .map entries => uptoBulkEntries entries + 1
  | .held _ => 1
def uptoBulkAll {H : Type} : List (DataW H) → Nat
  | [] => 0
  | d :: r => uptoBulk d + uptoBulkAll r
def uptoBulkEntries {H : Type} : List (Lit × DataW H) → Nat
  | [] => 0
  | x :: r => uptoBulkEntry x + uptoBulkEntries r
def uptoBulkEntry {H : Type} : Lit × DataW H → Nat
  | (.string bytes, d) => bytes.length + uptoBulk d + 1
  | (_, d) => uptoBulk d + 1
 end
def uptoSmall : (H : Type) → List (DataW H) → Bool := fun _ ds => decide (uptoBulkAll ds ≤ 1048576)
def OpenSpec.upto (s : _root_.Go.ChangeSpec) : _root_.Go.OpenSpec := { _root_.Go.OpenSpec.ofChange s with cond := some uptoSmall }

/-- 'laws.FnExactBuildGraph', WHERE WHAT IT READS IS OF BULK AT MOST 1048576: true; the input reads as it did. -/
def fnExactBuildGraphUptoRow : OpenClaim := { program := "ytlmnkhlkccipfaa", sum := "6572a7f21941476ddebc832decfbc24ab21b70e9d2b453c271940e948b4aaa20", func := "loop.example/g01924/laws.FnExactBuildGraph", spec := "fnExactBuildGraph", unfollowed := true, recurses := true, apart := false, narrowed := true }
def FnExactBuildGraphUptoSaid : Prop := fnExactBuildGraphUptoRow.holds Try.pinned (OpenSpec.upto fnExactBuildGraphSpec)

/-- 'laws.FnExactBackEdges', WHERE WHAT IT READS IS OF BULK AT MOST 1048576: true; the input reads as it did. -/
def fnExactBackEdgesUptoRow : OpenClaim := { program := "ytlmnkhlkccipfaa", sum := "6572a7f21941476ddebc832decfbc24ab21b70e9d2b453c271940e948b4aaa20", func := "loop.example/g01924/laws.FnExactBackEdges", spec := "fnExactBackEdges", unfollowed := true, recurses := true, apart := false, narrowed := true }
def FnExactBackEdgesUptoSaid : Prop := fnExactBackEdgesUptoRow.holds Try.pinned (OpenSpec.upto fnExactBackEdgesSpec)

/-- 'laws.FnExactIsSerialOrder', WHERE WHAT IT READS IS OF BULK AT MOST 1048576: true; the input reads as it did. -/
def fnExactIsSerialOrderUptoRow : OpenClaim := { program := "ytlmnkhlkccipfaa", sum := "6572a7f21941476ddebc832decfbc24ab21b70e9d2b453c271940e948b4aaa20", func := "loop.example/g01924/laws.FnExactIsSerialOrder", spec := "fnExactIsSerialOrder", unfollowed := true, recurses := true, apart := false, narrowed := true }
def FnExactIsSerialOrderUptoSaid : Prop := fnExactIsSerialOrderUptoRow.holds Try.pinned (OpenSpec.upto fnExactIsSerialOrderSpec)

/-- 'laws.FnExactDangerousPivot', WHERE WHAT IT READS IS OF BULK AT MOST 1048576: true; the input reads as it did. -/
def fnExactDangerousPivotUptoRow : OpenClaim := { program := "ytlmnkhlkccipfaa", sum := "6572a7f21941476ddebc832decfbc24ab21b70e9d2b453c271940e948b4aaa20", func := "loop.example/g01924/laws.FnExactDangerousPivot", spec := "fnExactDangerousPivot", unfollowed := true, recurses := true, apart := false, narrowed := true }
def FnExactDangerousPivotUptoSaid : Prop := fnExactDangerousPivotUptoRow.holds Try.pinned (OpenSpec.upto fnExactDangerousPivotSpec)

/-- 'laws.FnExactCountSerialOrders', WHERE WHAT IT READS IS OF BULK AT MOST 1048576: true; the input reads as it did. -/
def fnExactCountSerialOrdersUptoRow : OpenClaim := { program := "ytlmnkhlkccipfaa", sum := "6572a7f21941476ddebc832decfbc24ab21b70e9d2b453c271940e948b4aaa20", func := "loop.example/g01924/laws.FnExactCountSerialOrders", spec := "fnExactCountSerialOrders", unfollowed := true, recurses := true, apart := false, narrowed := true }
def FnExactCountSerialOrdersUptoSaid : Prop := fnExactCountSerialOrdersUptoRow.holds Try.pinned (OpenSpec.upto fnExactCountSerialOrdersSpec)

/-- 'laws.FnExactSerialOrder', WHERE WHAT IT READS IS OF BULK AT MOST 1048576: true; the input reads as it did. -/
def fnExactSerialOrderUptoRow : OpenClaim := { program := "ytlmnkhlkccipfaa", sum := "6572a7f21941476ddebc832decfbc24ab21b70e9d2b453c271940e948b4aaa20", func := "loop.example/g01924/laws.FnExactSerialOrder", spec := "fnExactSerialOrder", unfollowed := true, recurses := true, apart := false, narrowed := true }
def FnExactSerialOrderUptoSaid : Prop := fnExactSerialOrderUptoRow.holds Try.pinned (OpenSpec.upto fnExactSerialOrderSpec)

end Rows
end Go.Proofs.Ytlmnkhlkccipfaa
