/-
  The law FnExactIsCollectable returns true for all its inputs: what the translated code computes is shown by a machine over plain data that is proved sound for the model, and of what it computes it is proved that it is true.
  Conditions: none beyond the row's own.
-/
import Derived.Test.YticokpflinlgbaaGreatRows
import Derived.Test.YticokpflinlgbaaGreatIsCollectableS
import Derived.Test.YticokpflinlgbaaGreatIsCollectableP1
import Derived.Test.YticokpflinlgbaaGreatAmY
import Derived.WalkKit
import Derived.ProofKit
import Derived.OpenShut
import Derived.SizedLaws
namespace Go.Proofs.YticokpflinlgbaaGreat.Am.FnExactIsCollectable
open Go Go.Proofs Go.Proofs.YticokpflinlgbaaGreat Go.ChangeShapes Go.WideShapes Go.ChangeAt Go.RowKit
set_option maxRecDepth 100000
theorem own : ownKnob Tryz.prog.godebug = none := by kernel_rfl
theorem lifted (os : Os) (started : os.Started) (H : Type) (enc : TypeId × Value → H) :
    ReturnsInHanded {} Tryz.checked os 3 .any (Rows.fnExactIsCollectableSpec.pre6 enc Tryz.prog Tryz.f3 Rows.fnExactIsCollectableRow.domain false) (Rows.fnExactIsCollectableSpec.post enc Tryz.prog Tryz.f3 false true false false) := by
  refine returnsInHanded_of_change_sized (C := Tryz.checked) own started (by kernel_rfl) Tryz.func3
    (ChangeSpec.witness6 (enc := enc) (C := Tryz.checked) false ⟨#[], #[.agg #[.bool false, .slice none 0 0, .slice none 0 0, .slice none 0 0, .slice none 0 0, .int .i64 0], .int .i64 0, .int .i64 0], []⟩ 8 (by kernel_rfl) (by kernel_rfl) (by kernel_rfl) (by kernel_rfl)) ?_
  intro W base args ds gs before hval0 hW _ _ _
  exact law_contract (ρ := rho) (E := Ev) (q := 382) (n := 40) (ss := [shEngine, shI, shI]) rfl good (law_IsCollectable g_laws_FnExactIsCollectable) (by kernel_rfl) (by kernel_rfl) (by kernel_rfl)
    (shs_all (by kernel_rfl)) rfl rfl (by kernel_rfl) (fun ds hd => by
      match ds, hd with
      | [d0, d1, d2], _ => exact ⟨rfl, rfl, rfl⟩) W base args ds gs before hval0 hW
theorem over : Rows.fnExactIsCollectableRow.holds Tryz.pinned (OpenSpec.ofChange Rows.fnExactIsCollectableSpec) :=
  OpenClaim.holds_of_wide 3 Tryz.f3 rfl rfl rfl rfl rfl rfl rfl ⟨rfl, rfl, rfl, rfl, rfl⟩ rfl rfl rfl rfl rfl (by kernel_rfl) Tryz.func3 (by kernel_rfl)
    (of_decide_eq_true (by kernel_rfl)) (by unfold Func.isWrapper; first | (rw [if_pos (by decide +kernel)]; kernel_rfl) | (rw [if_neg (by decide +kernel)]; exact ⟨rfl, rfl⟩))
    (fun os started H enc _ => lifted os started H enc)
end Go.Proofs.YticokpflinlgbaaGreat.Am.FnExactIsCollectable
namespace Go.Proofs.YticokpflinlgbaaGreat
/-- The row, under a short name, for the claim. -/
theorem fnExactIsCollectable_holds : Rows.FnExactIsCollectableSaid := Am.FnExactIsCollectable.over
#print axioms fnExactIsCollectable_holds
end Go.Proofs.YticokpflinlgbaaGreat
