/-
  The law FnExactMarksAt returns true for all its inputs: what the translated code computes is shown by a machine over plain data that is proved sound for the model, and of what it computes it is proved that it is true.
  Conditions: none beyond the row's own.
-/
import Derived.Test.YtmebdbagcbgddaaRows
import Derived.Test.YtmebdbagcbgddaaMarksAtS
import Derived.Test.YtmebdbagcbgddaaMarksAtP0
import Derived.Test.YtmebdbagcbgddaaAmY
import Derived.WalkKit
import Derived.ProofKit
import Derived.OpenShut
import Derived.SizedLaws
namespace Go.Proofs.Ytmebdbagcbgddaa.Am.FnExactMarksAt
open Go Go.Proofs Go.Proofs.Ytmebdbagcbgddaa Go.ChangeShapes Go.WideShapes Go.ChangeAt Go.RowKit
set_option maxRecDepth 100000
theorem own : ownKnob Try.prog.godebug = none := by kernel_rfl
theorem lifted (os : Os) (started : os.Started) (H : Type) (enc : TypeId × Value → H) :
    ReturnsInHanded {} Try.checked os 14 .any (Rows.fnExactMarksAtSpec.pre6 enc Try.prog Try.f14 Rows.fnExactMarksAtRow.domain false) (Rows.fnExactMarksAtSpec.post enc Try.prog Try.f14 false true false false) := by
  refine returnsInHanded_of_change_sized (C := Try.checked) own started (by kernel_rfl) Try.func14
    (ChangeSpec.witness6 (enc := enc) (C := Try.checked) false ⟨#[], #[.agg #[.slice none 0 0], .int .i64 0], []⟩ 8 (by kernel_rfl) (by kernel_rfl) (by kernel_rfl) (by kernel_rfl)) ?_
  intro W base args ds gs before hval0 hW _ _ _
  exact law_contract (ρ := rho) (E := Ev) (q := 91) (n := 40) (ss := [shStore, shI]) (by decide) rfl good (law_MarksAt g_laws_FnExactMarksAt) (by kernel_rfl) (by kernel_rfl) (by kernel_rfl)
    (shs_all (by kernel_rfl)) rfl rfl (by kernel_rfl) (fun ds hd => by
      match ds, hd with
      | [d0, d1], _ => exact ⟨rfl, rfl, rfl⟩) W base args ds gs before hval0 hW
theorem over : Rows.fnExactMarksAtRow.holds Try.pinned (OpenSpec.ofChange Rows.fnExactMarksAtSpec) :=
  OpenClaim.holds_of_wide 14 Try.f14 rfl rfl rfl rfl rfl rfl rfl ⟨rfl, rfl, rfl, rfl, rfl⟩ rfl rfl rfl rfl rfl (by kernel_rfl) Try.func14 (by kernel_rfl)
    (of_decide_eq_true (by kernel_rfl)) (by unfold Func.isWrapper; first | (rw [if_pos (by decide +kernel)]; kernel_rfl) | (rw [if_neg (by decide +kernel)]; exact ⟨rfl, rfl⟩))
    (fun os started H enc _ => lifted os started H enc)
end Go.Proofs.Ytmebdbagcbgddaa.Am.FnExactMarksAt
namespace Go.Proofs.Ytmebdbagcbgddaa
/-- The row, under a short name, for the claim. -/
theorem fnExactMarksAt_holds : Rows.FnExactMarksAtSaid := Am.FnExactMarksAt.over
#print axioms fnExactMarksAt_holds
end Go.Proofs.Ytmebdbagcbgddaa
