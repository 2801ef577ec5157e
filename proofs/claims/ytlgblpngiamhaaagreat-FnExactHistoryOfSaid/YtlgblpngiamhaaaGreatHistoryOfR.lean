/-
 The law FnExactHistoryOf returns true for all its inputs: what the translated code computes is shown by a machine over plain data that is proved sound for the model, and of what it computes it is proved that it is true.
 Conditions: none beyond the row's own.
-/
import Derived.Test.YtlgblpngiamhaaaGreatRows
import Derived.Test.YtlgblpngiamhaaaGreatHistoryOfS
import Derived.Test.YtlgblpngiamhaaaGreatHistoryOfP2
import Derived.Test.YtlgblpngiamhaaaGreatAmY
import Derived.WalkKit
import Derived.ProofKit
import Derived.OpenShut
import Derived.SizedLaws
namespace Go.Proofs.YtlgblpngiamhaaaGreat.Am.FnExactHistoryOf
open Go Go.Proofs Go.Proofs.YtlgblpngiamhaaaGreat Go.ChangeShapes Go.WideShapes Go.ChangeAt Go.RowKit
set_option maxRecDepth 100000
theorem own : ownKnob Tryz.prog.godebug = none := by kernel_rfl
theorem lifted (os : Os) (started : os.Started) (H : Type) (enc : TypeId × Value → H) :
  ReturnsInHanded {} Tryz.checked os 4 .any (Rows.fnExactHistoryOfSpec.pre6 enc Tryz.prog Tryz.f4 Rows.fnExactHistoryOfRow.domain false) (Rows.fnExactHistoryOfSpec.post enc Tryz.prog Tryz.f4 false true false false) := by
 refine returnsInHanded_of_change_sized (C := Tryz.checked) own started (by kernel_rfl) Tryz.func4
  (ChangeSpec.witness6 (enc := enc) (C := Tryz.checked) false ⟨#[], #[.agg #[.bool false, .slice none 0 0, .slice none 0 0, .slice none 0 0, .slice none 0 0, .int .i64 0]], []⟩ 8 (by kernel_rfl) (by kernel_rfl) (by kernel_rfl) (by kernel_rfl)) ?_
 intro W base args ds gs before hval0 hW _ _ _
 exact Qab7 (ρ := rho) (E := Ev) (q := 468) (n := 40) (ss := [shEngine]) (by decide) rfl good (Qab6 g_f37) (by kernel_rfl) (by kernel_rfl) (by kernel_rfl)
  (Qqo (by kernel_rfl)) rfl rfl (by kernel_rfl) (fun ds hd => by
   match ds, hd with
   | [d0], _ => exact ⟨rfl, rfl, rfl⟩) W base args ds gs before hval0 hW
theorem over : Rows.fnExactHistoryOfRow.holds Tryz.pinned (OpenSpec.ofChange Rows.fnExactHistoryOfSpec) :=
 OpenClaim.holds_of_wide 4 Tryz.f4 rfl rfl rfl rfl rfl rfl rfl ⟨rfl, rfl, rfl, rfl, rfl⟩ rfl rfl rfl rfl rfl (by kernel_rfl) Tryz.func4 (by kernel_rfl)
  (of_decide_eq_true (by kernel_rfl)) (by unfold Func.isWrapper; first | (rw [if_pos (by decide +kernel)]; kernel_rfl) | (rw [if_neg (by decide +kernel)]; exact ⟨rfl, rfl⟩))
  (fun os started H enc _ => lifted os started H enc)
end Go.Proofs.YtlgblpngiamhaaaGreat.Am.FnExactHistoryOf
namespace Go.Proofs.YtlgblpngiamhaaaGreat
/-- The row, under a short name, for the claim. -/
theorem fnExactHistoryOf_holds : Rows.FnExactHistoryOfSaid := Am.FnExactHistoryOf.over
#print axioms fnExactHistoryOf_holds
end Go.Proofs.YtlgblpngiamhaaaGreat
