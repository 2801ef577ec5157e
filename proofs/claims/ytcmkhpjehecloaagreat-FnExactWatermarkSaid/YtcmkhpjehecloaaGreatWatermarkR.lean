/-
  The law FnExactWatermark returns true for all its inputs: what the translated code computes is shown by a machine over plain data that is proved sound for the model, and of what it computes it is proved that it is true.
  Conditions: none beyond the row's own.
-/
import Derived.Test.YtcmkhpjehecloaaGreatRows
import Derived.Test.YtcmkhpjehecloaaGreatWatermarkS
import Derived.Test.YtcmkhpjehecloaaGreatWatermarkP0
import Derived.Test.YtcmkhpjehecloaaGreatAmY
import Derived.WalkKit
import Derived.ProofKit
import Derived.OpenShut
import Derived.SizedLaws
namespace Go.Proofs.YtcmkhpjehecloaaGreat.Am.FnExactWatermark
open Go Go.Proofs Go.Proofs.YtcmkhpjehecloaaGreat Go.ChangeShapes Go.WideShapes Go.ChangeAt Go.RowKit
set_option maxRecDepth 100000
theorem own : ownKnob Tryz.prog.godebug = none := by kernel_rfl
theorem lifted (os : Os) (started : os.Started) (H : Type) (enc : TypeId × Value → H) :
    ReturnsInHanded {} Tryz.checked os 9 .any (Rows.fnExactWatermarkSpec.pre6 enc Tryz.prog Tryz.f9 Rows.fnExactWatermarkRow.domain false) (Rows.fnExactWatermarkSpec.post enc Tryz.prog Tryz.f9 false true false false) := by
  refine returnsInHanded_of_change_sized (C := Tryz.checked) own started (by kernel_rfl) Tryz.func9
    (ChangeSpec.witness6 (enc := enc) (C := Tryz.checked) false ⟨#[], #[.agg #[.bool false, .slice none 0 0, .slice none 0 0, .slice none 0 0, .slice none 0 0, .int .i64 0]], []⟩ 8 (by kernel_rfl) (by kernel_rfl) (by kernel_rfl) (by kernel_rfl)) ?_
  intro W base args ds gs before hval0 hW _ _ _
  exact law_contract (ρ := rho) (E := Ev) (q := 197) (n := 40) (ss := [shEngine]) rfl good (law_Watermark g_laws_FnExactWatermark) (by kernel_rfl) (by kernel_rfl) (by kernel_rfl)
    (shs_all (by kernel_rfl)) rfl rfl (by kernel_rfl) (fun ds hd => by
      match ds, hd with
      | [d0], _ => exact ⟨rfl, rfl, rfl⟩) W base args ds gs before hval0 hW
theorem over : Rows.fnExactWatermarkRow.holds Tryz.pinned (OpenSpec.ofChange Rows.fnExactWatermarkSpec) :=
  OpenClaim.holds_of_wide 9 Tryz.f9 rfl rfl rfl rfl rfl rfl rfl ⟨rfl, rfl, rfl, rfl, rfl⟩ rfl rfl rfl rfl rfl (by kernel_rfl) Tryz.func9 (by kernel_rfl)
    (of_decide_eq_true (by kernel_rfl)) (by unfold Func.isWrapper; first | (rw [if_pos (by decide +kernel)]; kernel_rfl) | (rw [if_neg (by decide +kernel)]; exact ⟨rfl, rfl⟩))
    (fun os started H enc _ => lifted os started H enc)
end Go.Proofs.YtcmkhpjehecloaaGreat.Am.FnExactWatermark
namespace Go.Proofs.YtcmkhpjehecloaaGreat
/-- The row, under a short name, for the claim. -/
theorem fnExactWatermark_holds : Rows.FnExactWatermarkSaid := Am.FnExactWatermark.over
#print axioms fnExactWatermark_holds
end Go.Proofs.YtcmkhpjehecloaaGreat
