/-
  The program's AnomalyName and the reference's AnomalyName give the same text for every number, so the law FnExactAnomalyName returns true for every number.
  Conditions: none.
-/
import Derived.Test.YtmebdbagcbgddaaPFnExactAnomalyNamex1
namespace Go.Proofs.Ytmebdbagcbgddaa.Pure
open Go.RowKit Go.Proofs.Ytmebdbagcbgddaa.PFnExactAnomalyName Go.Proofs.YtmebdbagcbgddaaW.PrintWords Go.Proofs.YtmebdbagcbgddaaW.PrintLast

theorem FnExactAnomalyName : laws_FnExactAnomalyName.Pure := by
  intro a _
  unfold laws_FnExactAnomalyName.f spec_AnomalyName.f impl_AnomalyName.f spec_l1In.f impl_in.f
  by_cases h : 0 ≤ a
  · by_cases h4 : a ≤ 4
    · have h5 : a < 5 := by omega
      simp [h, h4, h5]
    · simp [h, h4]
  · simp [h]

end Go.Proofs.Ytmebdbagcbgddaa.Pure
