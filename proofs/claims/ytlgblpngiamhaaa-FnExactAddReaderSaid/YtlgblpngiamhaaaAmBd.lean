import Derived.Test.YtlgblpngiamhaaaAmUd
namespace Go.Proofs.Ytlgblpngiamhaaa.Am
variable {α β : Type}
theorem asInt_bind (u : U) (K : Int → Option α) (g : α → Option β) : (u.asInt K).bind g = u.asInt fun x => (K x).bind g := by
  unfold U.asInt; split <;> rfl
theorem asBool_bind (u : U) (T F : Option α) (g : α → Option β) : (u.asBool T F).bind g = u.asBool (T.bind g) (F.bind g) := by
  unfold U.asBool; split <;> rfl
theorem ite_bind (c : Prop) [Decidable c] (a : Option α) (g : α → Option β) : (if c then a else none).bind g = if c then a.bind g else none := by
  split <;> rfl
end Go.Proofs.Ytlgblpngiamhaaa.Am
