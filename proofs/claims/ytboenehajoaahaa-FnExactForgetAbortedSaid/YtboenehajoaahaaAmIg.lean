import Derived.Test.YtboenehajoaahaaAmCl
import Derived.Test.YtboenehajoaahaaAmIn
namespace Go.Proofs.Ytboenehajoaahaa.Am
open Go Go.RowKit Go.Shelf Go.Proofs
section
variable {P : Program} {ρ : Nat → FuncId} {w w' : World} {S : Nat → Prop} {β : Nat → Lay}
theorem Qni {k : Nat} {us : List U} {h : Hdr} {v : Value} {B : List Nat} (o : Own ρ w (.sl k us) h [v] B) :
    (us = [] ∧ ∃ a, v = .slice a 0 0) ∨ ∃ b cap cur e cs B1, v = .slice (some ⟨b, 0, none⟩) us.length cap ∧ w.heap[b]? = some (.cells cur e (0, 0)) ∧ cur.size = cap * k ∧ us.length ≤ cap ∧ cap ≤ maxLen ∧ (∀ d ∈ U.ex.exs us, d.size = k) ∧ cur.toList.take (us.length * k) = cs ∧
      TCs ρ w (fun _ => False) (fun _ => ⟨.dead, noHdr⟩) (elts h k 0 (U.ex.exs us)) cs B1 ∧ B = b :: B1 := by
  have hlen : (U.ex.exs us).length = us.length := by rw [Qi]; simp
  unfold Own at o
  simp only [U.ex] at o
  generalize hds : U.ex.exs us = ds at o hlen ⊢
  cases o with
  | osl0 hh t => exact .inl ⟨List.length_eq_zero_iff.1 hlen.symm, _, rfl⟩
  | osl hh hb hsz hle hmax hks hct g1 t =>
    cases t
    rw [hlen] at hh hle hct
    exact .inr ⟨_, _, _, _, _, _, by rw [hlen], hb, hsz, hle, hmax, hks, hct, g1, by simp⟩
end
def insC (k b : Nat) : List U → Option U
  | [.agg [.tup [.sl k1 xs]], .int .i64 n, .sl k2 ys] => if k1 = k ∧ k2 = k ∧ 0 ≤ n ∧ n ≤ xs.length ∧ 0 < ys.length ∧ U.flat.flats ys = true ∧ (xs.length + ys.length) * b ≤ 140737488355328 then some (.sl k (xs.take n.toNat ++ ys ++ xs.drop n.toNat)) else none
  | _ => none
def insI (k b : Nat) : List U → Option U
  | [.sl k1 xs, .int .i64 n, .sl k2 ys] => if k1 = k ∧ k2 = k ∧ 0 ≤ n ∧ n ≤ xs.length ∧ 0 < ys.length ∧ (xs.length + ys.length) * b ≤ 140737488355328 then some (.sl k (xs.take n.toNat ++ ys ++ xs.drop n.toNat)) else none
  | _ => none
structure IsIns (E : Env) (q k b : Nat) : Prop where
  i : ∀ us, E (600000 + q) us = insI k b us
  c : ∀ us, E (300000 + q) us = insC k b us
end Go.Proofs.Ytboenehajoaahaa.Am
