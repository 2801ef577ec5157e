/-
  No cell of these rows narrows 'for every input' (looked for: loops, veiled, ifaces, maps, wideKeys, modest, calm, conditions, laid).
  DERIVED. THE GIVEN ROWS OF THIS SEAT. 4 by the template 'for every input the law returns true; each argument reads behind the call as it read before'; 0 by the template 'total and deterministic' (their statements: YtpbogagoflpdfaaTotals.lean).
  GIVEN WITH THE SEED: the statements are not yours to turn. If you find one false, say at which input.
  Laid BY PROGRAM, IN A SANDBOX (cutbox-rows.mjs): the forced cells as the released guide's own fill.sh prints them over the translation 3d1daee873810314… (all of the seat's roots in one cut). By AI agents, Wed Nov 11 2026. No macro, syntax, notation, axiom, sorry.
-/
import Derived.Test.YtpbogagoflpdfaaChecked
import GoSem.Claim
import GoSem.ClaimJoined
import GoSem.ClaimMapViews
import Derived.JoinedTies
import Derived.KernelRfl
namespace Go.Proofs.Ytpbogagoflpdfaa
/- THE CELL 'sum', in the pinned program and in every row, IS THE sha256 OF THE DUMP (.gsa) THAT YtpbogagoflpdfaaProg.lean LOADS. Nothing in Lean hashes anything: it is a label: what it is worth is what the hold of that sum in a sandbox is worth. -/
noncomputable def Try.pinned : Pinned := { name := "ytpbogagoflpdfaa", sum := "3d1daee873810314ce9bff37c36b4ea2b1a61fc727e9cdf8a2950298013b87db", checked := Try.checked }
namespace Rows
def none {H : Type} : Left H := { results := [], args := [] }

/-- 'laws.FnExactTrackWrite': WHATEVER THE INPUT: true; the input reads as it did. -/
def fnExactTrackWriteSpec : ChangeSpec := { name := "fnExactTrackWrite", fn := fun _ => fun
  | [d1, d2, d3, d4] => { results := [.lit (.bool true)], args := [d1, d2, d3, d4] }
  | _ => none }
def fnExactTrackWriteRow : OpenClaim := { program := "ytpbogagoflpdfaa", sum := "3d1daee873810314ce9bff37c36b4ea2b1a61fc727e9cdf8a2950298013b87db", func := "loop.example/g01924/laws.FnExactTrackWrite", spec := "fnExactTrackWrite", inPlace := ["slices.overlaps[loop.example/g01924/impl.Write]"], unfollowed := true, recurses := true, apart := false }
def FnExactTrackWriteSaid : Prop := fnExactTrackWriteRow.holds Try.pinned (OpenSpec.ofChange fnExactTrackWriteSpec)

/-- ITS FALSE NEIGHBOUR: 'it returns false'. Refute it at one input. -/
def fnExactTrackWriteWrong : ChangeSpec := { name := "fnExactTrackWrite", fn := fun _ => fun
  | [d1, d2, d3, d4] => { results := [.lit (.bool false)], args := [d1, d2, d3, d4] }
  | _ => none }
def FnExactTrackWriteWrongFalsely : Prop := fnExactTrackWriteRow.holds Try.pinned (OpenSpec.ofChange fnExactTrackWriteWrong)

/-- 'laws.FnExactForgetAborted': WHATEVER THE INPUT: true; the input reads as it did. -/
def fnExactForgetAbortedSpec : ChangeSpec := { name := "fnExactForgetAborted", fn := fun _ => fun
  | [d] => { results := [.lit (.bool true)], args := [d] }
  | _ => none }
def fnExactForgetAbortedRow : OpenClaim := { program := "ytpbogagoflpdfaa", sum := "3d1daee873810314ce9bff37c36b4ea2b1a61fc727e9cdf8a2950298013b87db", func := "loop.example/g01924/laws.FnExactForgetAborted", spec := "fnExactForgetAborted", unfollowed := true, recurses := true, apart := false }
def FnExactForgetAbortedSaid : Prop := fnExactForgetAbortedRow.holds Try.pinned (OpenSpec.ofChange fnExactForgetAbortedSpec)

/-- ITS FALSE NEIGHBOUR: 'it returns false'. Refute it at one input. -/
def fnExactForgetAbortedWrong : ChangeSpec := { name := "fnExactForgetAborted", fn := fun _ => fun
  | [d] => { results := [.lit (.bool false)], args := [d] }
  | _ => none }
def FnExactForgetAbortedWrongFalsely : Prop := fnExactForgetAbortedRow.holds Try.pinned (OpenSpec.ofChange fnExactForgetAbortedWrong)

/-- 'laws.FnReadRule': WHATEVER THE INPUT: true; the input reads as it did. -/
def fnReadRuleSpec : ChangeSpec := { name := "fnReadRule", fn := fun _ => fun
  | [d] => { results := [.lit (.bool true)], args := [d] }
  | _ => none }
def fnReadRuleRow : OpenClaim := { program := "ytpbogagoflpdfaa", sum := "3d1daee873810314ce9bff37c36b4ea2b1a61fc727e9cdf8a2950298013b87db", func := "loop.example/g01924/laws.FnReadRule", spec := "fnReadRule", inPlace := ["slices.overlaps[loop.example/g01924/impl.ReadMark]"], unfollowed := true, recurses := true, apart := false }
def FnReadRuleSaid : Prop := fnReadRuleRow.holds Try.pinned (OpenSpec.ofChange fnReadRuleSpec)

/-- ITS FALSE NEIGHBOUR: 'it returns false'. Refute it at one input. -/
def fnReadRuleWrong : ChangeSpec := { name := "fnReadRule", fn := fun _ => fun
  | [d] => { results := [.lit (.bool false)], args := [d] }
  | _ => none }
def FnReadRuleWrongFalsely : Prop := fnReadRuleRow.holds Try.pinned (OpenSpec.ofChange fnReadRuleWrong)

/-- 'laws.FnWriteRule': WHATEVER THE INPUT: true; the input reads as it did. -/
def fnWriteRuleSpec : ChangeSpec := { name := "fnWriteRule", fn := fun _ => fun
  | [d] => { results := [.lit (.bool true)], args := [d] }
  | _ => none }
def fnWriteRuleRow : OpenClaim := { program := "ytpbogagoflpdfaa", sum := "3d1daee873810314ce9bff37c36b4ea2b1a61fc727e9cdf8a2950298013b87db", func := "loop.example/g01924/laws.FnWriteRule", spec := "fnWriteRule", inPlace := ["slices.overlaps[loop.example/g01924/impl.Write]"], unfollowed := true, recurses := true, apart := false }
def FnWriteRuleSaid : Prop := fnWriteRuleRow.holds Try.pinned (OpenSpec.ofChange fnWriteRuleSpec)

/-- ITS FALSE NEIGHBOUR: 'it returns false'. Refute it at one input. -/
def fnWriteRuleWrong : ChangeSpec := { name := "fnWriteRule", fn := fun _ => fun
  | [d] => { results := [.lit (.bool false)], args := [d] }
  | _ => none }
def FnWriteRuleWrongFalsely : Prop := fnWriteRuleRow.holds Try.pinned (OpenSpec.ofChange fnWriteRuleWrong)

/- THE SECOND FORM. 'bulk': how many values and letters a reading holds, each counted each time it is reached (what is shared counts as often as it is met; a slice's spare places count too). A statement '..UptoSaid' is the law's where the arguments, and the package variables that the reading takes, are together of bulk at most 1048576: NARROWER than '..Said'. Prove '..Said' where nothing that the law and all that it calls make is longer than what came in: it says more and counts as full. Else prove '..UptoSaid'. A law counts once. -/
mutual
def uptoBulk {H : Type} : DataW H → Nat
  | .lit (.string bytes) => bytes.length + 1
  | .lit _ => 1
  | .nil => 1
  | .ptr d => uptoBulk d + 1
  | .slice elems spare => uptoBulkAll elems + uptoBulkAll spare + 1
  | .agg parts => uptoBulkAll parts + 1
  | .iface _ d => uptoBulk d + 1
  | .map entries => uptoBulkEntries entries + 1
  | .held _ => 1
def uptoBulkAll {H : Type} : List (DataW H) → Nat
  | [] => 0
  | d :: r => uptoBulk d + uptoBulkAll r
def uptoBulkEntries {H : Type} : List (Lit × DataW H) → Nat
  | [] => 0
  | x :: r => uptoBulkEntry x + uptoBulkEntries r
def uptoBulkEntry {H : Type} : Lit × DataW H → Nat
  | (.string bytes, d) => bytes.length + uptoBulk d + 1
  | (_, d) => uptoBulk d + 1
 end
def uptoSmall : (H : Type) → List (DataW H) → Bool := fun _ ds => decide (uptoBulkAll ds ≤ 1048576)
def OpenSpec.upto (s : _root_.Go.ChangeSpec) : _root_.Go.OpenSpec := { _root_.Go.OpenSpec.ofChange s with cond := some uptoSmall }

/-- 'laws.FnExactTrackWrite', WHERE WHAT IT READS IS OF BULK AT MOST 1048576: true; the input reads as it did. -/
def fnExactTrackWriteUptoRow : OpenClaim := { program := "ytpbogagoflpdfaa", sum := "3d1daee873810314ce9bff37c36b4ea2b1a61fc727e9cdf8a2950298013b87db", func := "loop.example/g01924/laws.FnExactTrackWrite", spec := "fnExactTrackWrite", inPlace := ["slices.overlaps[loop.example/g01924/impl.Write]"], unfollowed := true, recurses := true, apart := false, narrowed := true }
def FnExactTrackWriteUptoSaid : Prop := fnExactTrackWriteUptoRow.holds Try.pinned (OpenSpec.upto fnExactTrackWriteSpec)

/-- 'laws.FnExactForgetAborted', WHERE WHAT IT READS IS OF BULK AT MOST 1048576: true; the input reads as it did. -/
def fnExactForgetAbortedUptoRow : OpenClaim := { program := "ytpbogagoflpdfaa", sum := "3d1daee873810314ce9bff37c36b4ea2b1a61fc727e9cdf8a2950298013b87db", func := "loop.example/g01924/laws.FnExactForgetAborted", spec := "fnExactForgetAborted", unfollowed := true, recurses := true, apart := false, narrowed := true }
def FnExactForgetAbortedUptoSaid : Prop := fnExactForgetAbortedUptoRow.holds Try.pinned (OpenSpec.upto fnExactForgetAbortedSpec)

/-- 'laws.FnReadRule', WHERE WHAT IT READS IS OF BULK AT MOST 1048576: true; the input reads as it did. -/
def fnReadRuleUptoRow : OpenClaim := { program := "ytpbogagoflpdfaa", sum := "3d1daee873810314ce9bff37c36b4ea2b1a61fc727e9cdf8a2950298013b87db", func := "loop.example/g01924/laws.FnReadRule", spec := "fnReadRule", inPlace := ["slices.overlaps[loop.example/g01924/impl.ReadMark]"], unfollowed := true, recurses := true, apart := false, narrowed := true }
def FnReadRuleUptoSaid : Prop := fnReadRuleUptoRow.holds Try.pinned (OpenSpec.upto fnReadRuleSpec)

/-- 'laws.FnWriteRule', WHERE WHAT IT READS IS OF BULK AT MOST 1048576: true; the input reads as it did. -/
def fnWriteRuleUptoRow : OpenClaim := { program := "ytpbogagoflpdfaa", sum := "3d1daee873810314ce9bff37c36b4ea2b1a61fc727e9cdf8a2950298013b87db", func := "loop.example/g01924/laws.FnWriteRule", spec := "fnWriteRule", inPlace := ["slices.overlaps[loop.example/g01924/impl.Write]"], unfollowed := true, recurses := true, apart := false, narrowed := true }
def FnWriteRuleUptoSaid : Prop := fnWriteRuleUptoRow.holds Try.pinned (OpenSpec.upto fnWriteRuleSpec)

end Rows
end Go.Proofs.Ytpbogagoflpdfaa
