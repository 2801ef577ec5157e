import Derived.Test.YtboenehajoaahaaAmUd
namespace Go.Proofs.Ytboenehajoaahaa.Am
variable {α β : Type}
def uncons (us : List U) (K : U → List U → Option α) : Option α := match us with
  | u :: us => K u us
  | [] => none
def unnil (us : List U) (K : Option α) : Option α := match us with
  | [] => K
  | _ => none
theorem Qaaj (us : List U) (K : U → List U → Option α) (g : α → Option β) : (uncons us K).bind g = uncons us fun u us => (K u us).bind g := by
  cases us <;> rfl
theorem Qaak (us : List U) (K : Option α) (g : α → Option β) : (unnil us K).bind g = unnil us (K.bind g) := by
  cases us <;> rfl
theorem Qpz (u : U) (K : Int → Option α) (g : α → Option β) : (u.asInt K).bind g = u.asInt fun x => (K x).bind g := by
  unfold U.asInt; split <;> rfl
theorem Qpy (u : U) (T F : Option α) (g : α → Option β) : (u.asBool T F).bind g = u.asBool (T.bind g) (F.bind g) := by
  unfold U.asBool; split <;> rfl
theorem Qwd (c : Prop) [Decidable c] (a : Option α) (g : α → Option β) : (if c then a else none).bind g = if c then a.bind g else none := by
  split <;> rfl
end Go.Proofs.Ytboenehajoaahaa.Am
