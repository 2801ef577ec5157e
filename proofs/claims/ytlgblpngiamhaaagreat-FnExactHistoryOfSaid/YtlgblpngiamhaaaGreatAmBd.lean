import Derived.Test.YtlgblpngiamhaaaGreatAmUd
namespace Go.Proofs.YtlgblpngiamhaaaGreat.Am
variable {α β:Type}
theorem Qr9 (u:U) (K:Int→Option α) (g:α→Option β):(u.asInt K).bind g = u.asInt fun x=>(K x).bind g:=by
 unfold U.asInt; split <;> rfl
theorem Qr8 (u:U) (T F:Option α) (g:α→Option β):(u.asBool T F).bind g = u.asBool (T.bind g) (F.bind g):=by
 unfold U.asBool; split <;> rfl
theorem Qab3 (c:Prop) [Decidable c] (a:Option α) (g:α→Option β):(if c then a else none).bind g = if c then a.bind g else none:=by
 split <;> rfl
end Go.Proofs.YtlgblpngiamhaaaGreat.Am
