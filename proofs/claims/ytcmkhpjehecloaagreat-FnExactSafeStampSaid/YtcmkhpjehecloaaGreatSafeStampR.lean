/-
  The law FnExactSafeStamp returns true for all its inputs: what the translated code computes is shown by a machine over plain data that is proved sound for the model, and of what it computes it is proved that it is true.
  Conditions: none beyond the row's own.
-/
import Derived.Test.YtcmkhpjehecloaaGreatRows
import Derived.Test.YtcmkhpjehecloaaGreatSafeStampS
import Derived.Test.YtcmkhpjehecloaaGreatSafeStampP0
import Derived.Test.YtcmkhpjehecloaaGreatAmY
import Derived.WalkKit
import Derived.ProofKit
import Derived.OpenShut
import Derived.SizedLaws
namespace Go.Proofs.YtcmkhpjehecloaaGreat.Am.FnExactSafeStamp
open Go Go.Proofs Go.Proofs.YtcmkhpjehecloaaGreat Go.ChangeShapes Go.WideShapes Go.ChangeAt Go.RowKit
set_option maxRecDepth 100000
theorem own : ownKnob Tryz.prog.godebug = none := by kernel_rfl
theorem lifted (os : Os) (started : os.Started) (H : Type) (enc : TypeId × Value → H) :
    ReturnsInHanded {} Tryz.checked os 7 .any (Rows.fnExactSafeStampSpec.pre6 enc Tryz.prog Tryz.f7 Rows.fnExactSafeStampRow.domain false) (Rows.fnExactSafeStampSpec.post enc Tryz.prog Tryz.f7 false true false false) := by
  refine returnsInHanded_of_change_sized (C := Tryz.checked) own started (by kernel_rfl) Tryz.func7
    (ChangeSpec.witness6 (enc := enc) (C := Tryz.checked) false ⟨#[], #[.agg #[.bool false, .slice none 0 0, .slice none 0 0, .slice none 0 0, .slice none 0 0, .int .i64 0]], []⟩ 8 (by kernel_rfl) (by kernel_rfl) (by kernel_rfl) (by kernel_rfl)) ?_
  intro W base args ds gs before hval0 hW _ _ _
  exact law_contract (ρ := rho) (E := Ev) (q := 190) (n := 40) (ss := [shEngine]) rfl good (law_SafeStamp g_laws_FnExactSafeStamp) (by kernel_rfl) (by kernel_rfl) (by kernel_rfl)
    (shs_all (by kernel_rfl)) rfl rfl (by kernel_rfl) (fun ds hd => by
      match ds, hd with
      | [d0], _ => exact ⟨rfl, rfl, rfl⟩) W base args ds gs before hval0 hW
theorem over : Rows.fnExactSafeStampRow.holds Tryz.pinned (OpenSpec.ofChange Rows.fnExactSafeStampSpec) :=
  OpenClaim.holds_of_wide 7 Tryz.f7 rfl rfl rfl rfl rfl rfl rfl ⟨rfl, rfl, rfl, rfl, rfl⟩ rfl rfl rfl rfl rfl (by kernel_rfl) Tryz.func7 (by kernel_rfl)
    (of_decide_eq_true (by kernel_rfl)) (by unfold Func.isWrapper; first | (rw [if_pos (by decide +kernel)]; kernel_rfl) | (rw [if_neg (by decide +kernel)]; exact ⟨rfl, rfl⟩))
    (fun os started H enc _ => lifted os started H enc)
end Go.Proofs.YtcmkhpjehecloaaGreat.Am.FnExactSafeStamp
namespace Go.Proofs.YtcmkhpjehecloaaGreat
/-- The row, under a short name, for the claim. -/
theorem fnExactSafeStamp_holds : Rows.FnExactSafeStampSaid := Am.FnExactSafeStamp.over
#print axioms fnExactSafeStamp_holds
end Go.Proofs.YtcmkhpjehecloaaGreat
