/-
  No cell of these rows narrows 'for every input' (looked for: loops, veiled, ifaces, maps, wideKeys, modest, calm, conditions, laid).
  DERIVED. THE GIVEN ROWS OF THIS SEAT. 8 by the template 'for every input the law returns true; each argument reads behind the call as it read before'; 0 by the template 'total and deterministic' (their statements: YtcmkhpjehecloaaGreatTotals.lean).
  GIVEN WITH THE SEED: the statements are not yours to turn. If you find one false, say at which input.
  Laid BY PROGRAM, IN A SANDBOX (cutbox-rows.mjs): the forced cells as the released guide's own fill.sh prints them over the translation dd9f0ba955696a37… (all of the seat's roots in one cut). By AI agents, Wed Nov 11 2026. No macro, syntax, notation, axiom, sorry.
-/
import Derived.Test.YtcmkhpjehecloaaGreatChecked
import GoSem.Claim
import GoSem.ClaimJoined
import GoSem.ClaimMapViews
import Derived.JoinedTies
import Derived.KernelRfl
namespace Go.Proofs.YtcmkhpjehecloaaGreat
/- THE CELL 'sum', in the pinned program and in every row, IS THE sha256 OF THE DUMP (.gsa) THAT YtcmkhpjehecloaaGreatProg.lean LOADS. Nothing in Lean hashes anything: it is a label: what it is worth is what the hold of that sum in a sandbox is worth. -/
noncomputable def Tryz.pinned : Pinned := { name := "ytcmkhpjehecloaagreat", sum := "dd9f0ba955696a3791402e5cfb963054a0817a5bbf9d98869cb88be157dd1945", checked := Tryz.checked }
namespace Rows
def none {H : Type} : Left H := { results := [], args := [] }

/-- 'laws.FnExactCanRunAlone': WHATEVER THE INPUT: true; the input reads as it did. -/
def fnExactCanRunAloneSpec : ChangeSpec := { name := "fnExactCanRunAlone", fn := fun _ => fun
  | [d] => { results := [.lit (.bool true)], args := [d] }
  | _ => none }
def fnExactCanRunAloneRow : OpenClaim := { program := "ytcmkhpjehecloaagreat", sum := "dd9f0ba955696a3791402e5cfb963054a0817a5bbf9d98869cb88be157dd1945", func := "loop.example/g01924/laws.FnExactCanRunAlone", spec := "fnExactCanRunAlone", unfollowed := true, recurses := true, apart := false }
def FnExactCanRunAloneSaid : Prop := fnExactCanRunAloneRow.holds Tryz.pinned (OpenSpec.ofChange fnExactCanRunAloneSpec)

/-- ITS FALSE NEIGHBOUR: 'it returns false'. Refute it at one input. -/
def fnExactCanRunAloneWrong : ChangeSpec := { name := "fnExactCanRunAlone", fn := fun _ => fun
  | [d] => { results := [.lit (.bool false)], args := [d] }
  | _ => none }
def FnExactCanRunAloneWrongFalsely : Prop := fnExactCanRunAloneRow.holds Tryz.pinned (OpenSpec.ofChange fnExactCanRunAloneWrong)

/-- 'laws.FnExactCommitTransaction': WHATEVER THE INPUT: true; the input reads as it did. -/
def fnExactCommitTransactionSpec : ChangeSpec := { name := "fnExactCommitTransaction", fn := fun _ => fun
  | [d1, d2, d3] => { results := [.lit (.bool true)], args := [d1, d2, d3] }
  | _ => none }
def fnExactCommitTransactionRow : OpenClaim := { program := "ytcmkhpjehecloaagreat", sum := "dd9f0ba955696a3791402e5cfb963054a0817a5bbf9d98869cb88be157dd1945", func := "loop.example/g01924/laws.FnExactCommitTransaction", spec := "fnExactCommitTransaction", unfollowed := true, recurses := true, apart := false }
def FnExactCommitTransactionSaid : Prop := fnExactCommitTransactionRow.holds Tryz.pinned (OpenSpec.ofChange fnExactCommitTransactionSpec)

/-- ITS FALSE NEIGHBOUR: 'it returns false'. Refute it at one input. -/
def fnExactCommitTransactionWrong : ChangeSpec := { name := "fnExactCommitTransaction", fn := fun _ => fun
  | [d1, d2, d3] => { results := [.lit (.bool false)], args := [d1, d2, d3] }
  | _ => none }
def FnExactCommitTransactionWrongFalsely : Prop := fnExactCommitTransactionRow.holds Tryz.pinned (OpenSpec.ofChange fnExactCommitTransactionWrong)

/-- 'laws.FnExactUnsafeBecause': WHATEVER THE INPUT: true; the input reads as it did. -/
def fnExactUnsafeBecauseSpec : ChangeSpec := { name := "fnExactUnsafeBecause", fn := fun _ => fun
  | [d1, d2] => { results := [.lit (.bool true)], args := [d1, d2] }
  | _ => none }
def fnExactUnsafeBecauseRow : OpenClaim := { program := "ytcmkhpjehecloaagreat", sum := "dd9f0ba955696a3791402e5cfb963054a0817a5bbf9d98869cb88be157dd1945", func := "loop.example/g01924/laws.FnExactUnsafeBecause", spec := "fnExactUnsafeBecause", unfollowed := true, recurses := true, apart := false }
def FnExactUnsafeBecauseSaid : Prop := fnExactUnsafeBecauseRow.holds Tryz.pinned (OpenSpec.ofChange fnExactUnsafeBecauseSpec)

/-- ITS FALSE NEIGHBOUR: 'it returns false'. Refute it at one input. -/
def fnExactUnsafeBecauseWrong : ChangeSpec := { name := "fnExactUnsafeBecause", fn := fun _ => fun
  | [d1, d2] => { results := [.lit (.bool false)], args := [d1, d2] }
  | _ => none }
def FnExactUnsafeBecauseWrongFalsely : Prop := fnExactUnsafeBecauseRow.holds Tryz.pinned (OpenSpec.ofChange fnExactUnsafeBecauseWrong)

/-- 'laws.FnExactIsSafe': WHATEVER THE INPUT: true; the input reads as it did. -/
def fnExactIsSafeSpec : ChangeSpec := { name := "fnExactIsSafe", fn := fun _ => fun
  | [d1, d2] => { results := [.lit (.bool true)], args := [d1, d2] }
  | _ => none }
def fnExactIsSafeRow : OpenClaim := { program := "ytcmkhpjehecloaagreat", sum := "dd9f0ba955696a3791402e5cfb963054a0817a5bbf9d98869cb88be157dd1945", func := "loop.example/g01924/laws.FnExactIsSafe", spec := "fnExactIsSafe", unfollowed := true, recurses := true, apart := false }
def FnExactIsSafeSaid : Prop := fnExactIsSafeRow.holds Tryz.pinned (OpenSpec.ofChange fnExactIsSafeSpec)

/-- ITS FALSE NEIGHBOUR: 'it returns false'. Refute it at one input. -/
def fnExactIsSafeWrong : ChangeSpec := { name := "fnExactIsSafe", fn := fun _ => fun
  | [d1, d2] => { results := [.lit (.bool false)], args := [d1, d2] }
  | _ => none }
def FnExactIsSafeWrongFalsely : Prop := fnExactIsSafeRow.holds Tryz.pinned (OpenSpec.ofChange fnExactIsSafeWrong)

/-- 'laws.FnExactSafeStamp': WHATEVER THE INPUT: true; the input reads as it did. -/
def fnExactSafeStampSpec : ChangeSpec := { name := "fnExactSafeStamp", fn := fun _ => fun
  | [d] => { results := [.lit (.bool true)], args := [d] }
  | _ => none }
def fnExactSafeStampRow : OpenClaim := { program := "ytcmkhpjehecloaagreat", sum := "dd9f0ba955696a3791402e5cfb963054a0817a5bbf9d98869cb88be157dd1945", func := "loop.example/g01924/laws.FnExactSafeStamp", spec := "fnExactSafeStamp", unfollowed := true, recurses := true, apart := false }
def FnExactSafeStampSaid : Prop := fnExactSafeStampRow.holds Tryz.pinned (OpenSpec.ofChange fnExactSafeStampSpec)

/-- ITS FALSE NEIGHBOUR: 'it returns false'. Refute it at one input. -/
def fnExactSafeStampWrong : ChangeSpec := { name := "fnExactSafeStamp", fn := fun _ => fun
  | [d] => { results := [.lit (.bool false)], args := [d] }
  | _ => none }
def FnExactSafeStampWrongFalsely : Prop := fnExactSafeStampRow.holds Tryz.pinned (OpenSpec.ofChange fnExactSafeStampWrong)

/-- 'laws.FnExactSafeLag': WHATEVER THE INPUT: true; the input reads as it did. -/
def fnExactSafeLagSpec : ChangeSpec := { name := "fnExactSafeLag", fn := fun _ => fun
  | [d] => { results := [.lit (.bool true)], args := [d] }
  | _ => none }
def fnExactSafeLagRow : OpenClaim := { program := "ytcmkhpjehecloaagreat", sum := "dd9f0ba955696a3791402e5cfb963054a0817a5bbf9d98869cb88be157dd1945", func := "loop.example/g01924/laws.FnExactSafeLag", spec := "fnExactSafeLag", unfollowed := true, recurses := true, apart := false }
def FnExactSafeLagSaid : Prop := fnExactSafeLagRow.holds Tryz.pinned (OpenSpec.ofChange fnExactSafeLagSpec)

/-- ITS FALSE NEIGHBOUR: 'it returns false'. Refute it at one input. -/
def fnExactSafeLagWrong : ChangeSpec := { name := "fnExactSafeLag", fn := fun _ => fun
  | [d] => { results := [.lit (.bool false)], args := [d] }
  | _ => none }
def FnExactSafeLagWrongFalsely : Prop := fnExactSafeLagRow.holds Tryz.pinned (OpenSpec.ofChange fnExactSafeLagWrong)

/-- 'laws.FnExactWatermark': WHATEVER THE INPUT: true; the input reads as it did. -/
def fnExactWatermarkSpec : ChangeSpec := { name := "fnExactWatermark", fn := fun _ => fun
  | [d] => { results := [.lit (.bool true)], args := [d] }
  | _ => none }
def fnExactWatermarkRow : OpenClaim := { program := "ytcmkhpjehecloaagreat", sum := "dd9f0ba955696a3791402e5cfb963054a0817a5bbf9d98869cb88be157dd1945", func := "loop.example/g01924/laws.FnExactWatermark", spec := "fnExactWatermark", unfollowed := true, recurses := true, apart := false }
def FnExactWatermarkSaid : Prop := fnExactWatermarkRow.holds Tryz.pinned (OpenSpec.ofChange fnExactWatermarkSpec)

/-- ITS FALSE NEIGHBOUR: 'it returns false'. Refute it at one input. -/
def fnExactWatermarkWrong : ChangeSpec := { name := "fnExactWatermark", fn := fun _ => fun
  | [d] => { results := [.lit (.bool false)], args := [d] }
  | _ => none }
def FnExactWatermarkWrongFalsely : Prop := fnExactWatermarkRow.holds Tryz.pinned (OpenSpec.ofChange fnExactWatermarkWrong)

/-- 'laws.FnExactReadSafe': WHATEVER THE INPUT: true; the input reads as it did. -/
def fnExactReadSafeSpec : ChangeSpec := { name := "fnExactReadSafe", fn := fun _ => fun
  | [d1, d2] => { results := [.lit (.bool true)], args := [d1, d2] }
  | _ => none }
def fnExactReadSafeRow : OpenClaim := { program := "ytcmkhpjehecloaagreat", sum := "dd9f0ba955696a3791402e5cfb963054a0817a5bbf9d98869cb88be157dd1945", func := "loop.example/g01924/laws.FnExactReadSafe", spec := "fnExactReadSafe", unfollowed := true, recurses := true, apart := false }
def FnExactReadSafeSaid : Prop := fnExactReadSafeRow.holds Tryz.pinned (OpenSpec.ofChange fnExactReadSafeSpec)

/-- ITS FALSE NEIGHBOUR: 'it returns false'. Refute it at one input. -/
def fnExactReadSafeWrong : ChangeSpec := { name := "fnExactReadSafe", fn := fun _ => fun
  | [d1, d2] => { results := [.lit (.bool false)], args := [d1, d2] }
  | _ => none }
def FnExactReadSafeWrongFalsely : Prop := fnExactReadSafeRow.holds Tryz.pinned (OpenSpec.ofChange fnExactReadSafeWrong)

/- THE SECOND FORM. 'bulk': how many values and letters a reading holds, each counted each time it is reached (what is shared counts as often as it is met; a slice's spare places count too). A statement '..UptoSaid' is the law's where the arguments, and the package variables that the reading takes, are together of bulk at most 1048576: NARROWER than '..Said'. Prove '..Said' where nothing that the law and all that it calls make is longer than what came in: it says more and counts as full. Else prove '..UptoSaid'. A law counts once. -/
mutual
def uptoBulk {H : Type} : DataW H → Nat
  | .lit (.string bytes) => bytes.length + 1
  | .lit _ => 1
  | .nil => 1
  | .ptr d => uptoBulk d + 1
  | .slice elems spare => uptoBulkAll elems + uptoBulkAll spare + 1
  | .agg parts => uptoBulkAll parts + 1
  | .iface _ d => uptoBulk d + 1
  | .map entries => uptoBulkEntries entries + 1
  | .held _ => 1
def uptoBulkAll {H : Type} : List (DataW H) → Nat
  | [] => 0
  | d :: r => uptoBulk d + uptoBulkAll r
def uptoBulkEntries {H : Type} : List (Lit × DataW H) → Nat
  | [] => 0
  | x :: r => uptoBulkEntry x + uptoBulkEntries r
def uptoBulkEntry {H : Type} : Lit × DataW H → Nat
  | (.string bytes, d) => bytes.length + uptoBulk d + 1
  | (_, d) => uptoBulk d + 1
 end
def uptoSmall : (H : Type) → List (DataW H) → Bool := fun _ ds => decide (uptoBulkAll ds ≤ 1048576)
def OpenSpec.upto (s : _root_.Go.ChangeSpec) : _root_.Go.OpenSpec := { _root_.Go.OpenSpec.ofChange s with cond := some uptoSmall }

/-- 'laws.FnExactCanRunAlone', WHERE WHAT IT READS IS OF BULK AT MOST 1048576: true; the input reads as it did. -/
def fnExactCanRunAloneUptoRow : OpenClaim := { program := "ytcmkhpjehecloaagreat", sum := "dd9f0ba955696a3791402e5cfb963054a0817a5bbf9d98869cb88be157dd1945", func := "loop.example/g01924/laws.FnExactCanRunAlone", spec := "fnExactCanRunAlone", unfollowed := true, recurses := true, apart := false, narrowed := true }
def FnExactCanRunAloneUptoSaid : Prop := fnExactCanRunAloneUptoRow.holds Tryz.pinned (OpenSpec.upto fnExactCanRunAloneSpec)

/-- 'laws.FnExactCommitTransaction', WHERE WHAT IT READS IS OF BULK AT MOST 1048576: true; the input reads as it did. -/
def fnExactCommitTransactionUptoRow : OpenClaim := { program := "ytcmkhpjehecloaagreat", sum := "dd9f0ba955696a3791402e5cfb963054a0817a5bbf9d98869cb88be157dd1945", func := "loop.example/g01924/laws.FnExactCommitTransaction", spec := "fnExactCommitTransaction", unfollowed := true, recurses := true, apart := false, narrowed := true }
def FnExactCommitTransactionUptoSaid : Prop := fnExactCommitTransactionUptoRow.holds Tryz.pinned (OpenSpec.upto fnExactCommitTransactionSpec)

/-- 'laws.FnExactUnsafeBecause', WHERE WHAT IT READS IS OF BULK AT MOST 1048576: true; the input reads as it did. -/
def fnExactUnsafeBecauseUptoRow : OpenClaim := { program := "ytcmkhpjehecloaagreat", sum := "dd9f0ba955696a3791402e5cfb963054a0817a5bbf9d98869cb88be157dd1945", func := "loop.example/g01924/laws.FnExactUnsafeBecause", spec := "fnExactUnsafeBecause", unfollowed := true, recurses := true, apart := false, narrowed := true }
def FnExactUnsafeBecauseUptoSaid : Prop := fnExactUnsafeBecauseUptoRow.holds Tryz.pinned (OpenSpec.upto fnExactUnsafeBecauseSpec)

/-- 'laws.FnExactIsSafe', WHERE WHAT IT READS IS OF BULK AT MOST 1048576: true; the input reads as it did. -/
def fnExactIsSafeUptoRow : OpenClaim := { program := "ytcmkhpjehecloaagreat", sum := "dd9f0ba955696a3791402e5cfb963054a0817a5bbf9d98869cb88be157dd1945", func := "loop.example/g01924/laws.FnExactIsSafe", spec := "fnExactIsSafe", unfollowed := true, recurses := true, apart := false, narrowed := true }
def FnExactIsSafeUptoSaid : Prop := fnExactIsSafeUptoRow.holds Tryz.pinned (OpenSpec.upto fnExactIsSafeSpec)

/-- 'laws.FnExactSafeStamp', WHERE WHAT IT READS IS OF BULK AT MOST 1048576: true; the input reads as it did. -/
def fnExactSafeStampUptoRow : OpenClaim := { program := "ytcmkhpjehecloaagreat", sum := "dd9f0ba955696a3791402e5cfb963054a0817a5bbf9d98869cb88be157dd1945", func := "loop.example/g01924/laws.FnExactSafeStamp", spec := "fnExactSafeStamp", unfollowed := true, recurses := true, apart := false, narrowed := true }
def FnExactSafeStampUptoSaid : Prop := fnExactSafeStampUptoRow.holds Tryz.pinned (OpenSpec.upto fnExactSafeStampSpec)

/-- 'laws.FnExactSafeLag', WHERE WHAT IT READS IS OF BULK AT MOST 1048576: true; the input reads as it did. -/
def fnExactSafeLagUptoRow : OpenClaim := { program := "ytcmkhpjehecloaagreat", sum := "dd9f0ba955696a3791402e5cfb963054a0817a5bbf9d98869cb88be157dd1945", func := "loop.example/g01924/laws.FnExactSafeLag", spec := "fnExactSafeLag", unfollowed := true, recurses := true, apart := false, narrowed := true }
def FnExactSafeLagUptoSaid : Prop := fnExactSafeLagUptoRow.holds Tryz.pinned (OpenSpec.upto fnExactSafeLagSpec)

/-- 'laws.FnExactWatermark', WHERE WHAT IT READS IS OF BULK AT MOST 1048576: true; the input reads as it did. -/
def fnExactWatermarkUptoRow : OpenClaim := { program := "ytcmkhpjehecloaagreat", sum := "dd9f0ba955696a3791402e5cfb963054a0817a5bbf9d98869cb88be157dd1945", func := "loop.example/g01924/laws.FnExactWatermark", spec := "fnExactWatermark", unfollowed := true, recurses := true, apart := false, narrowed := true }
def FnExactWatermarkUptoSaid : Prop := fnExactWatermarkUptoRow.holds Tryz.pinned (OpenSpec.upto fnExactWatermarkSpec)

/-- 'laws.FnExactReadSafe', WHERE WHAT IT READS IS OF BULK AT MOST 1048576: true; the input reads as it did. -/
def fnExactReadSafeUptoRow : OpenClaim := { program := "ytcmkhpjehecloaagreat", sum := "dd9f0ba955696a3791402e5cfb963054a0817a5bbf9d98869cb88be157dd1945", func := "loop.example/g01924/laws.FnExactReadSafe", spec := "fnExactReadSafe", unfollowed := true, recurses := true, apart := false, narrowed := true }
def FnExactReadSafeUptoSaid : Prop := fnExactReadSafeUptoRow.holds Tryz.pinned (OpenSpec.upto fnExactReadSafeSpec)

end Rows
end Go.Proofs.YtcmkhpjehecloaaGreat
