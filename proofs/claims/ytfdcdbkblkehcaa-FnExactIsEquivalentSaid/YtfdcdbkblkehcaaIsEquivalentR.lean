/-
  The law FnExactIsEquivalent returns true for all its inputs: what the translated code computes is shown by a machine over plain data that is proved sound for the model, and of what it computes it is proved that it is true.
  Conditions: none beyond the row's own.
-/
import Derived.Test.YtfdcdbkblkehcaaRows
import Derived.Test.YtfdcdbkblkehcaaIsEquivalentS
import Derived.Test.YtfdcdbkblkehcaaIsEquivalentP0
import Derived.Test.YtfdcdbkblkehcaaAmY
import Derived.WalkKit
import Derived.ProofKit
import Derived.OpenShut
import Derived.SizedLaws
namespace Go.Proofs.Ytfdcdbkblkehcaa.Am.FnExactIsEquivalent
open Go Go.Proofs Go.Proofs.Ytfdcdbkblkehcaa Go.ChangeShapes Go.WideShapes Go.ChangeAt Go.RowKit
set_option maxRecDepth 100000
theorem own : ownKnob Try.prog.godebug = none := by kernel_rfl
theorem lifted (os : Os) (started : os.Started) (H : Type) (enc : TypeId × Value → H) :
    ReturnsInHanded {} Try.checked os 11 .any (Rows.fnExactIsEquivalentSpec.pre6 enc Try.prog Try.f11 Rows.fnExactIsEquivalentRow.domain false) (Rows.fnExactIsEquivalentSpec.post enc Try.prog Try.f11 false true false false) := by
  refine returnsInHanded_of_change_sized (C := Try.checked) own started (by kernel_rfl) Try.func11
    (ChangeSpec.witness6 (enc := enc) (C := Try.checked) false ⟨#[], #[.slice none 0 0, .slice none 0 0], []⟩ 8 (by kernel_rfl) (by kernel_rfl) (by kernel_rfl) (by kernel_rfl)) ?_
  intro W base args ds gs before hval0 hW _ _ _
  exact law_contract (ρ := rho) (E := Ev) (q := 276) (n := 40) (ss := [.sl 4 shEntry, .sl 1 shI]) (by decide) rfl good (law_IsEquivalent g_laws_FnExactIsEquivalent) (by kernel_rfl) (by kernel_rfl) (by kernel_rfl)
    (shs_all (by kernel_rfl)) rfl rfl (by kernel_rfl) (fun ds hd => by
      match ds, hd with
      | [d0, d1], _ => exact ⟨rfl, rfl, rfl⟩) W base args ds gs before hval0 hW
theorem over : Rows.fnExactIsEquivalentRow.holds Try.pinned (OpenSpec.ofChange Rows.fnExactIsEquivalentSpec) :=
  OpenClaim.holds_of_wide 11 Try.f11 rfl rfl rfl rfl rfl rfl rfl ⟨rfl, rfl, rfl, rfl, rfl⟩ rfl rfl rfl rfl rfl (by kernel_rfl) Try.func11 (by kernel_rfl)
    (of_decide_eq_true (by kernel_rfl)) (by unfold Func.isWrapper; first | (rw [if_pos (by decide +kernel)]; kernel_rfl) | (rw [if_neg (by decide +kernel)]; exact ⟨rfl, rfl⟩))
    (fun os started H enc _ => lifted os started H enc)
end Go.Proofs.Ytfdcdbkblkehcaa.Am.FnExactIsEquivalent
namespace Go.Proofs.Ytfdcdbkblkehcaa
/-- The row, under a short name, for the claim. -/
theorem fnExactIsEquivalent_holds : Rows.FnExactIsEquivalentSaid := Am.FnExactIsEquivalent.over
#print axioms fnExactIsEquivalent_holds
end Go.Proofs.Ytfdcdbkblkehcaa
