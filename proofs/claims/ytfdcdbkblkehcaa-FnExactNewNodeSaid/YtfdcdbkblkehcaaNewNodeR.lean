/-
  The law FnExactNewNode returns true for all its inputs: what the translated code computes is shown by a machine over plain data that is proved sound for the model, and of what it computes it is proved that it is true.
  Conditions: none beyond the row's own.
-/
import Derived.Test.YtfdcdbkblkehcaaRows
import Derived.Test.YtfdcdbkblkehcaaNewNodeS
import Derived.Test.YtfdcdbkblkehcaaNewNodeP0
import Derived.Test.YtfdcdbkblkehcaaAmY
import Derived.WalkKit
import Derived.ProofKit
import Derived.OpenShut
import Derived.SizedLaws
namespace Go.Proofs.Ytfdcdbkblkehcaa.Am.FnExactNewNode
open Go Go.Proofs Go.Proofs.Ytfdcdbkblkehcaa Go.ChangeShapes Go.WideShapes Go.ChangeAt Go.RowKit
set_option maxRecDepth 100000
theorem own : ownKnob Try.prog.godebug = none := by kernel_rfl
theorem lifted (os : Os) (started : os.Started) (H : Type) (enc : TypeId × Value → H) :
    ReturnsInHanded {} Try.checked os 7 .any (Rows.fnExactNewNodeSpec.pre6 enc Try.prog Try.f7 Rows.fnExactNewNodeRow.domain false) (Rows.fnExactNewNodeSpec.post enc Try.prog Try.f7 false true false false) := by
  refine returnsInHanded_of_change_sized (C := Try.checked) own started (by kernel_rfl) Try.func7
    (ChangeSpec.witness6 (enc := enc) (C := Try.checked) false ⟨#[], #[], []⟩ 8 (by kernel_rfl) (by kernel_rfl) (by kernel_rfl) (by kernel_rfl)) ?_
  intro W base args ds gs before hval0 hW _ _ _
  exact law_contract (ρ := rho) (E := Ev) (q := 306) (n := 40) (ss := []) (by decide) rfl good (law_NewNode g_laws_FnExactNewNode) (by kernel_rfl) (by kernel_rfl) (by kernel_rfl)
    (shs_all (by kernel_rfl)) rfl rfl (by kernel_rfl) (fun ds hd => by
      match ds, hd with
      | [], _ => exact ⟨rfl, rfl, rfl⟩) W base args ds gs before hval0 hW
theorem over : Rows.fnExactNewNodeRow.holds Try.pinned (OpenSpec.ofChange Rows.fnExactNewNodeSpec) :=
  OpenClaim.holds_of_wide 7 Try.f7 rfl rfl rfl rfl rfl rfl rfl ⟨rfl, rfl, rfl, rfl, rfl⟩ rfl rfl rfl rfl rfl (by kernel_rfl) Try.func7 (by kernel_rfl)
    (of_decide_eq_true (by kernel_rfl)) (by unfold Func.isWrapper; first | (rw [if_pos (by decide +kernel)]; kernel_rfl) | (rw [if_neg (by decide +kernel)]; exact ⟨rfl, rfl⟩))
    (fun os started H enc _ => lifted os started H enc)
end Go.Proofs.Ytfdcdbkblkehcaa.Am.FnExactNewNode
namespace Go.Proofs.Ytfdcdbkblkehcaa
/-- The row, under a short name, for the claim. -/
theorem fnExactNewNode_holds : Rows.FnExactNewNodeSaid := Am.FnExactNewNode.over
#print axioms fnExactNewNode_holds
end Go.Proofs.Ytfdcdbkblkehcaa
