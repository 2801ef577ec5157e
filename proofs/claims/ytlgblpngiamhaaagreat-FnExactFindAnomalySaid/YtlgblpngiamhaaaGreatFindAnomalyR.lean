/-
 The law FnExactFindAnomaly returns true for all its inputs: what the translated code computes is shown by a machine over plain data that is proved sound for the model, and of what it computes it is proved that it is true.
 Conditions: none beyond the row's own.
-/
import Derived.Test.YtlgblpngiamhaaaGreatRows
import Derived.Test.YtlgblpngiamhaaaGreatFindAnomalyS
import Derived.Test.YtlgblpngiamhaaaGreatFindAnomalyP3
import Derived.Test.YtlgblpngiamhaaaGreatAmY
import Derived.WalkKit
import Derived.ProofKit
import Derived.OpenShut
import Derived.SizedLaws
namespace Go.Proofs.YtlgblpngiamhaaaGreat.Am.FnExactFindAnomaly
open Go Go.Proofs Go.Proofs.YtlgblpngiamhaaaGreat Go.ChangeShapes Go.WideShapes Go.ChangeAt Go.RowKit
set_option maxRecDepth 100000
theorem own : ownKnob Tryz.prog.godebug = none := by kernel_rfl
theorem lifted (os : Os) (started : os.Started) (H : Type) (enc : TypeId × Value → H) :
  ReturnsInHanded {} Tryz.checked os 3 .any (Rows.fnExactFindAnomalySpec.pre6 enc Tryz.prog Tryz.f3 Rows.fnExactFindAnomalyRow.domain false) (Rows.fnExactFindAnomalySpec.post enc Tryz.prog Tryz.f3 false true false false) := by
 refine returnsInHanded_of_change_sized (C := Tryz.checked) own started (by kernel_rfl) Tryz.func3
  (ChangeSpec.witness6 (enc := enc) (C := Tryz.checked) false ⟨#[], #[.slice none 0 0], []⟩ 8 (by kernel_rfl) (by kernel_rfl) (by kernel_rfl) (by kernel_rfl)) ?_
 intro W base args ds gs before hval0 hW _ _ _
 exact Qy2 (ρ := rho) (E := Ev) (q := 448) (n := 40) (ss := [.sl 4 shEntry]) (by decide) rfl good (Qy1 g_f38) (by kernel_rfl) (by kernel_rfl) (by kernel_rfl)
  (Qrl (by kernel_rfl)) rfl rfl (by kernel_rfl) (fun ds hd => by
   match ds, hd with
   | [d0], _ => exact ⟨rfl, rfl, rfl⟩) W base args ds gs before hval0 hW
theorem over : Rows.fnExactFindAnomalyRow.holds Tryz.pinned (OpenSpec.ofChange Rows.fnExactFindAnomalySpec) :=
 OpenClaim.holds_of_wide 3 Tryz.f3 rfl rfl rfl rfl rfl rfl rfl ⟨rfl, rfl, rfl, rfl, rfl⟩ rfl rfl rfl rfl rfl (by kernel_rfl) Tryz.func3 (by kernel_rfl)
  (of_decide_eq_true (by kernel_rfl)) (by unfold Func.isWrapper; first | (rw [if_pos (by decide +kernel)]; kernel_rfl) | (rw [if_neg (by decide +kernel)]; exact ⟨rfl, rfl⟩))
  (fun os started H enc _ => lifted os started H enc)
end Go.Proofs.YtlgblpngiamhaaaGreat.Am.FnExactFindAnomaly
namespace Go.Proofs.YtlgblpngiamhaaaGreat
/-- The row, under a short name, for the claim. -/
theorem fnExactFindAnomaly_holds : Rows.FnExactFindAnomalySaid := Am.FnExactFindAnomaly.over
#print axioms fnExactFindAnomaly_holds
end Go.Proofs.YtlgblpngiamhaaaGreat
