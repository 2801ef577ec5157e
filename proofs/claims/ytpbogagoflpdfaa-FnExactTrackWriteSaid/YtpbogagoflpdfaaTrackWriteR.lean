/-
  The law FnExactTrackWrite returns true for all its inputs: what the translated code computes is shown by a machine over plain data that is proved sound for the model, and of what it computes it is proved that it is true.
  Conditions: none beyond the row's own.
-/
import Derived.Test.YtpbogagoflpdfaaRows
import Derived.Test.YtpbogagoflpdfaaTrackWriteS
import Derived.Test.YtpbogagoflpdfaaTrackWriteP1
import Derived.Test.YtpbogagoflpdfaaAmY
import Derived.WalkKit
import Derived.ProofKit
import Derived.OpenShut
import Derived.SizedLaws
namespace Go.Proofs.Ytpbogagoflpdfaa.Am.FnExactTrackWrite
open Go Go.Proofs Go.Proofs.Ytpbogagoflpdfaa Go.ChangeShapes Go.WideShapes Go.ChangeAt Go.RowKit
set_option maxRecDepth 100000
theorem own : ownKnob Try.prog.godebug = none := by kernel_rfl
theorem lifted (os : Os) (started : os.Started) (H : Type) (enc : TypeId × Value → H) :
    ReturnsInHanded {} Try.checked os 3 .any (Rows.fnExactTrackWriteSpec.pre6 enc Try.prog Try.f3 Rows.fnExactTrackWriteRow.domain false) (Rows.fnExactTrackWriteSpec.post enc Try.prog Try.f3 false true false false) := by
  refine returnsInHanded_of_change_sized (C := Try.checked) own started (by kernel_rfl) Try.func3
    (ChangeSpec.witness6 (enc := enc) (C := Try.checked) false ⟨#[], #[.agg #[.slice none 0 0], .agg #[.int .i64 0, .int .i64 0, .int .i64 0, .int .i64 0, .int .i64 0, .int .i64 0, .int .i64 0, .slice none 0 0, .slice none 0 0], .int .i64 0, .int .i64 0], []⟩ 8 (by kernel_rfl) (by kernel_rfl) (by kernel_rfl) (by kernel_rfl)) ?_
  intro W base args ds gs before hval0 hW _ _ _
  exact law_contract (ρ := rho) (E := Ev) (q := 333) (n := 40) (ss := [shStore, shTransaction, shI, shI]) (by decide) rfl good (law_TrackWrite g_f24) (by kernel_rfl) (by kernel_rfl) (by kernel_rfl)
    (shs_all (by kernel_rfl)) rfl rfl (by kernel_rfl) (fun ds hd => by
      match ds, hd with
      | [d0, d1, d2, d3], _ => exact ⟨rfl, rfl, rfl⟩) W base args ds gs before hval0 hW
theorem over : Rows.fnExactTrackWriteRow.holds Try.pinned (OpenSpec.ofChange Rows.fnExactTrackWriteSpec) :=
  OpenClaim.holds_of_wide 3 Try.f3 rfl rfl rfl rfl rfl rfl rfl ⟨rfl, rfl, rfl, rfl, rfl⟩ rfl rfl rfl rfl rfl (by kernel_rfl) Try.func3 (by kernel_rfl)
    (of_decide_eq_true (by kernel_rfl)) (by unfold Func.isWrapper; first | (rw [if_pos (by decide +kernel)]; kernel_rfl) | (rw [if_neg (by decide +kernel)]; exact ⟨rfl, rfl⟩))
    (fun os started H enc _ => lifted os started H enc)
end Go.Proofs.Ytpbogagoflpdfaa.Am.FnExactTrackWrite
namespace Go.Proofs.Ytpbogagoflpdfaa
/-- The row, under a short name, for the claim. -/
theorem fnExactTrackWrite_holds : Rows.FnExactTrackWriteSaid := Am.FnExactTrackWrite.over
#print axioms fnExactTrackWrite_holds
end Go.Proofs.Ytpbogagoflpdfaa
