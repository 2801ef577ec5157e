/-
  The law FnExactAddReader returns true for all its inputs: what the translated code computes is shown by a machine over plain data that is proved sound for the model, and of what it computes it is proved that it is true.
  Conditions: none beyond the row's own.
-/
import Derived.Test.YtlgblpngiamhaaaRows
import Derived.Test.YtlgblpngiamhaaaAddReaderS
import Derived.Test.YtlgblpngiamhaaaAddReaderP1
import Derived.Test.YtlgblpngiamhaaaAmY
import Derived.WalkKit
import Derived.ProofKit
import Derived.OpenShut
import Derived.SizedLaws
namespace Go.Proofs.Ytlgblpngiamhaaa.Am.FnExactAddReader
open Go Go.Proofs Go.Proofs.Ytlgblpngiamhaaa Go.ChangeShapes Go.WideShapes Go.ChangeAt Go.RowKit
set_option maxRecDepth 100000
theorem own : ownKnob Try.prog.godebug = none := by kernel_rfl
theorem lifted (os : Os) (started : os.Started) (H : Type) (enc : TypeId × Value → H) :
    ReturnsInHanded {} Try.checked os 4 .any (Rows.fnExactAddReaderSpec.pre6 enc Try.prog Try.f4 Rows.fnExactAddReaderRow.domain false) (Rows.fnExactAddReaderSpec.post enc Try.prog Try.f4 false true false false) := by
  refine returnsInHanded_of_change_sized (C := Try.checked) own started (by kernel_rfl) Try.func4
    (ChangeSpec.witness6 (enc := enc) (C := Try.checked) false ⟨#[], #[.slice none 0 0, .agg #[.int .i64 0, .int .i64 0, .slice none 0 0, .slice none 0 0]], []⟩ 8 (by kernel_rfl) (by kernel_rfl) (by kernel_rfl) (by kernel_rfl)) ?_
  intro W base args ds gs before hval0 hW _ _ _
  exact law_contract (ρ := rho) (E := Ev) (q := 284) (n := 40) (ss := [.sl 4 shEntry, shEntry]) (by decide) rfl good (law_AddReader addIs g_f48) (by kernel_rfl) (by kernel_rfl) (by kernel_rfl)
    (shs_all (by kernel_rfl)) rfl rfl (by kernel_rfl) (fun ds hd => by
      match ds, hd with
      | [d0, d1], _ => exact ⟨rfl, rfl, rfl⟩) W base args ds gs before hval0 hW
theorem over : Rows.fnExactAddReaderRow.holds Try.pinned (OpenSpec.ofChange Rows.fnExactAddReaderSpec) :=
  OpenClaim.holds_of_wide 4 Try.f4 rfl rfl rfl rfl rfl rfl rfl ⟨rfl, rfl, rfl, rfl, rfl⟩ rfl rfl rfl rfl rfl (by kernel_rfl) Try.func4 (by kernel_rfl)
    (of_decide_eq_true (by kernel_rfl)) (by unfold Func.isWrapper; first | (rw [if_pos (by decide +kernel)]; kernel_rfl) | (rw [if_neg (by decide +kernel)]; exact ⟨rfl, rfl⟩))
    (fun os started H enc _ => lifted os started H enc)
end Go.Proofs.Ytlgblpngiamhaaa.Am.FnExactAddReader
namespace Go.Proofs.Ytlgblpngiamhaaa
/-- The row, under a short name, for the claim. -/
theorem fnExactAddReader_holds : Rows.FnExactAddReaderSaid := Am.FnExactAddReader.over
#print axioms fnExactAddReader_holds
end Go.Proofs.Ytlgblpngiamhaaa
