/-
  The law FnExactRecordOf returns true for all its inputs: what the translated code computes is shown by a machine over plain data that is proved sound for the model, and of what it computes it is proved that it is true.
  Conditions: none beyond the row's own.
-/
import Derived.Test.YtmdnjglkdddaeaaGreatRows
import Derived.Test.YtmdnjglkdddaeaaGreatRecordOfS
import Derived.Test.YtmdnjglkdddaeaaGreatRecordOfP2
import Derived.Test.YtmdnjglkdddaeaaGreatAmY
import Derived.WalkKit
import Derived.ProofKit
import Derived.OpenShut
import Derived.SizedLaws
namespace Go.Proofs.YtmdnjglkdddaeaaGreat.Am.FnExactRecordOf
open Go Go.Proofs Go.Proofs.YtmdnjglkdddaeaaGreat Go.ChangeShapes Go.WideShapes Go.ChangeAt Go.RowKit
set_option maxRecDepth 100000
theorem own : ownKnob Tryz.prog.godebug = none := by kernel_rfl
theorem lifted (os : Os) (started : os.Started) (H : Type) (enc : TypeId × Value → H) :
    ReturnsInHanded {} Tryz.checked os 5 .any (Rows.fnExactRecordOfSpec.pre6 enc Tryz.prog Tryz.f5 Rows.fnExactRecordOfRow.domain false) (Rows.fnExactRecordOfSpec.post enc Tryz.prog Tryz.f5 false true false false) := by
  refine returnsInHanded_of_change_sized (C := Tryz.checked) own started (by kernel_rfl) Tryz.func5
    (ChangeSpec.witness6 (enc := enc) (C := Tryz.checked) false ⟨#[], #[.agg #[.bool false, .slice none 0 0, .slice none 0 0, .slice none 0 0, .slice none 0 0, .int .i64 0], .int .i64 0], []⟩ 8 (by kernel_rfl) (by kernel_rfl) (by kernel_rfl) (by kernel_rfl)) ?_
  intro W base args ds gs before hval0 hW _ _ _
  exact Qaaw (ρ := rho) (E := Ev) (q := 395) (n := 40) (ss := [shEngine, shI]) (by decide) rfl good (Qaav g_f44) (by kernel_rfl) (by kernel_rfl) (by kernel_rfl)
    (Qpo (by kernel_rfl)) rfl rfl (by kernel_rfl) (fun ds hd => by
      match ds, hd with
      | [d0, d1], _ => exact ⟨rfl, rfl, rfl⟩) W base args ds gs before hval0 hW
theorem over : Rows.fnExactRecordOfRow.holds Tryz.pinned (OpenSpec.ofChange Rows.fnExactRecordOfSpec) :=
  OpenClaim.holds_of_wide 5 Tryz.f5 rfl rfl rfl rfl rfl rfl rfl ⟨rfl, rfl, rfl, rfl, rfl⟩ rfl rfl rfl rfl rfl (by kernel_rfl) Tryz.func5 (by kernel_rfl)
    (of_decide_eq_true (by kernel_rfl)) (by unfold Func.isWrapper; first | (rw [if_pos (by decide +kernel)]; kernel_rfl) | (rw [if_neg (by decide +kernel)]; exact ⟨rfl, rfl⟩))
    (fun os started H enc _ => lifted os started H enc)
end Go.Proofs.YtmdnjglkdddaeaaGreat.Am.FnExactRecordOf
namespace Go.Proofs.YtmdnjglkdddaeaaGreat
/-- The row, under a short name, for the claim. -/
theorem fnExactRecordOf_holds : Rows.FnExactRecordOfSaid := Am.FnExactRecordOf.over
#print axioms fnExactRecordOf_holds
end Go.Proofs.YtmdnjglkdddaeaaGreat
