import Derived.Test.YtlgblpngiamhaaaGreatAmW
namespace Go.Proofs.YtlgblpngiamhaaaGreat.Am
open Go Go.RowKit
def startH (k : Nat) (t : Bool) : St := ⟨fun i => match i with | 0 => .ref 5000 [] k none | _ + 1 => .skip, fun R => if R = 5000 then some (.held t) else none⟩
structure CloneOK (ac : AC) (k b : Nat) : Prop where
 v : ∀ (E : Env) (u : U) (us : List U), (us.length + 1) * b ≤ 140737488355328 → run E ac [(2, none)] [.sl k (u :: us)] = some (.sl k (u :: us))
 f : ∀ (E : Env) (u : U) (us : List U), (us.length + 1) * b ≤ 140737488355328 → U.flat.flats (u :: us) = true → exec E ac (start [.sl k (u :: us)]) (finishF [(2, none)]) = some (.sl k (u :: us))
 vn : ∀ (E : Env), run E ac [(2, none)] [.nsl k] = some (.nsl k)
 fn : ∀ (E : Env), exec E ac (start [.nsl k]) (finishF [(2, none)]) = some (.sl k [])
 vt : ∀ (E : Env), exec E ac (startH k true) (finish [(2, none)]) = some (.nsl k)
 vf : ∀ (E : Env), exec E ac (startH k false) (finish [(2, none)]) = some (.sl k [])
 ft : ∀ (E : Env), exec E ac (startH k true) (finishF [(2, none)]) = some (.sl k [])
 ff : ∀ (E : Env), exec E ac (startH k false) (finishF [(2, none)]) = some (.sl k [])
def cloneV (k b : Nat) : List U → Option U
 | [.sl k' us] => if k' = k ∧ us.length * b ≤ 140737488355328 then some (.sl k us) else none
 | [.nsl k'] => if k' = k then some (.nsl k) else none
 | _ => none
def cloneF (k b : Nat) : List U → Option U
 | [.sl k' us] => if k' = k ∧ us.length * b ≤ 140737488355328 ∧ U.flat.flats us = true then some (.sl k us) else none
 | [.nsl k'] => if k' = k then some (.sl k []) else none
 | _ => none
structure IsClone (E : Env) (q k b : Nat) : Prop where
 v : ∀ us, E q us = cloneV k b us
 f : ∀ us, E (100000 + q) us = cloneF k b us
section
variable {P : Program} {ρ : Nat → FuncId} {w : World}
end
end Go.Proofs.YtlgblpngiamhaaaGreat.Am
