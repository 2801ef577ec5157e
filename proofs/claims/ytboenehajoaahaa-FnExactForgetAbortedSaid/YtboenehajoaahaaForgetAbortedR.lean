/-
  The law FnExactForgetAborted returns true for all its inputs: what the translated code computes is shown by a machine over plain data that is proved sound for the model, and of what it computes it is proved that it is true.
  Conditions: none beyond the row's own.
-/
import Derived.Test.YtboenehajoaahaaRows
import Derived.Test.YtboenehajoaahaaForgetAbortedS
import Derived.Test.YtboenehajoaahaaForgetAbortedP1
import Derived.Test.YtboenehajoaahaaAmY
import Derived.WalkKit
import Derived.ProofKit
import Derived.OpenShut
import Derived.SizedLaws
namespace Go.Proofs.Ytboenehajoaahaa.Am.FnExactForgetAborted
open Go Go.Proofs Go.Proofs.Ytboenehajoaahaa Go.ChangeShapes Go.WideShapes Go.ChangeAt Go.RowKit
set_option maxRecDepth 100000
theorem own : ownKnob Try.prog.godebug = none := by kernel_rfl
theorem lifted (os : Os) (started : os.Started) (H : Type) (enc : TypeId × Value → H) :
    ReturnsInHanded {} Try.checked os 3 .any (Rows.fnExactForgetAbortedSpec.pre6 enc Try.prog Try.f3 Rows.fnExactForgetAbortedRow.domain false) (Rows.fnExactForgetAbortedSpec.post enc Try.prog Try.f3 false true false false) := by
  refine returnsInHanded_of_change_sized (C := Try.checked) own started (by kernel_rfl) Try.func3
    (ChangeSpec.witness6 (enc := enc) (C := Try.checked) false ⟨#[], #[.agg #[.bool false, .slice none 0 0, .slice none 0 0, .slice none 0 0, .slice none 0 0, .int .i64 0]], []⟩ 8 (by kernel_rfl) (by kernel_rfl) (by kernel_rfl) (by kernel_rfl)) ?_
  intro W base args ds gs before hval0 hW _ _ _
  exact Qwf (ρ := rho) (E := Ev) (q := 341) (n := 40) (ss := [shEngine]) (by decide) rfl good (Qwe g_f7) (by kernel_rfl) (by kernel_rfl) (by kernel_rfl)
    (Qoj (by kernel_rfl)) rfl rfl (by kernel_rfl) (fun ds hd => by
      match ds, hd with
      | [d0], _ => exact ⟨rfl, rfl, rfl⟩) W base args ds gs before hval0 hW
theorem over : Rows.fnExactForgetAbortedRow.holds Try.pinned (OpenSpec.ofChange Rows.fnExactForgetAbortedSpec) :=
  OpenClaim.holds_of_wide 3 Try.f3 rfl rfl rfl rfl rfl rfl rfl ⟨rfl, rfl, rfl, rfl, rfl⟩ rfl rfl rfl rfl rfl (by kernel_rfl) Try.func3 (by kernel_rfl)
    (of_decide_eq_true (by kernel_rfl)) (by unfold Func.isWrapper; first | (rw [if_pos (by decide +kernel)]; kernel_rfl) | (rw [if_neg (by decide +kernel)]; exact ⟨rfl, rfl⟩))
    (fun os started H enc _ => lifted os started H enc)
end Go.Proofs.Ytboenehajoaahaa.Am.FnExactForgetAborted
namespace Go.Proofs.Ytboenehajoaahaa
/-- The row, under a short name, for the claim. -/
theorem fnExactForgetAborted_holds : Rows.FnExactForgetAbortedSaid := Am.FnExactForgetAborted.over
#print axioms fnExactForgetAborted_holds
end Go.Proofs.Ytboenehajoaahaa
