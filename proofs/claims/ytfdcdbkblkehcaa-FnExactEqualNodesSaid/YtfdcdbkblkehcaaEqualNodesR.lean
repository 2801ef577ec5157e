/-
  The law FnExactEqualNodes returns true for all its inputs: what the translated code computes is shown by a machine over plain data that is proved sound for the model, and of what it computes it is proved that it is true.
  Conditions: none beyond the row's own.
-/
import Derived.Test.YtfdcdbkblkehcaaRows
import Derived.Test.YtfdcdbkblkehcaaEqualNodesS
import Derived.Test.YtfdcdbkblkehcaaEqualNodesP0
import Derived.Test.YtfdcdbkblkehcaaAmY
import Derived.WalkKit
import Derived.ProofKit
import Derived.OpenShut
import Derived.SizedLaws
namespace Go.Proofs.Ytfdcdbkblkehcaa.Am.FnExactEqualNodes
open Go Go.Proofs Go.Proofs.Ytfdcdbkblkehcaa Go.ChangeShapes Go.WideShapes Go.ChangeAt Go.RowKit
set_option maxRecDepth 100000
theorem own : ownKnob Try.prog.godebug = none := by kernel_rfl
theorem lifted (os : Os) (started : os.Started) (H : Type) (enc : TypeId × Value → H) :
    ReturnsInHanded {} Try.checked os 10 .any (Rows.fnExactEqualNodesSpec.pre6 enc Try.prog Try.f10 Rows.fnExactEqualNodesRow.domain false) (Rows.fnExactEqualNodesSpec.post enc Try.prog Try.f10 false true false false) := by
  refine returnsInHanded_of_change_sized (C := Try.checked) own started (by kernel_rfl) Try.func10
    (ChangeSpec.witness6 (enc := enc) (C := Try.checked) false ⟨#[], #[.agg #[.bool false, .slice none 0 0, .slice none 0 0, .slice none 0 0, .slice none 0 0, .int .i64 0, .string ByteArray.empty], .agg #[.bool false, .slice none 0 0, .slice none 0 0, .slice none 0 0, .slice none 0 0, .int .i64 0, .string ByteArray.empty]], []⟩ 8 (by kernel_rfl) (by kernel_rfl) (by kernel_rfl) (by kernel_rfl)) ?_
  intro W base args ds gs before hval0 hW _ _ _
  exact law_contract (ρ := rho) (E := Ev) (q := 258) (n := 40) (ss := [shNode, shNode]) rfl good (law_EqualNodes g_laws_FnExactEqualNodes) (by kernel_rfl) (by kernel_rfl) (by kernel_rfl)
    (shs_all (by kernel_rfl)) rfl rfl (by kernel_rfl) (fun ds hd => by
      match ds, hd with
      | [d0, d1], _ => exact ⟨rfl, rfl, rfl⟩) W base args ds gs before hval0 hW
theorem over : Rows.fnExactEqualNodesRow.holds Try.pinned (OpenSpec.ofChange Rows.fnExactEqualNodesSpec) :=
  OpenClaim.holds_of_wide 10 Try.f10 rfl rfl rfl rfl rfl rfl rfl ⟨rfl, rfl, rfl, rfl, rfl⟩ rfl rfl rfl rfl rfl (by kernel_rfl) Try.func10 (by kernel_rfl)
    (of_decide_eq_true (by kernel_rfl)) (by unfold Func.isWrapper; first | (rw [if_pos (by decide +kernel)]; kernel_rfl) | (rw [if_neg (by decide +kernel)]; exact ⟨rfl, rfl⟩))
    (fun os started H enc _ => lifted os started H enc)
end Go.Proofs.Ytfdcdbkblkehcaa.Am.FnExactEqualNodes
namespace Go.Proofs.Ytfdcdbkblkehcaa
/-- The row, under a short name, for the claim. -/
theorem fnExactEqualNodes_holds : Rows.FnExactEqualNodesSaid := Am.FnExactEqualNodes.over
#print axioms fnExactEqualNodes_holds
end Go.Proofs.Ytfdcdbkblkehcaa
