import Derived.Test.YtlgblpngiamhaaaAmCl
import Derived.Test.YtlgblpngiamhaaaAmIn
namespace Go.Proofs.Ytlgblpngiamhaaa.Am
open Go Go.RowKit Go.Shelf Go.Proofs
section
variable {P : Program} {ρ : Nat → FuncId} {w w' : World} {S : Nat → Prop} {β : Nat → Lay}
theorem setCells_row (b : Nat) (e : TypeId) : ∀ (vs : List Value) (o : Nat) (cur : Array Value) (w : World), w.heap[b]? = some (.cells cur e (0, 0)) → o + vs.length ≤ cur.size →
    w.setCells b o vs = w.setRow b (cur.toList.take o ++ vs ++ cur.toList.drop (o + vs.length)).toArray
  | [], o, cur, w, hg, _ => by
    simp only [World.setCells, List.append_nil, List.length_nil, Nat.add_zero, List.take_append_drop, Array.toArray_toList]
    rw [setRow_self w b cur e (0, 0) hg]
  | v :: rest, o, cur, w, hg, hl => by
    have hi : o < cur.size := by simp at hl; omega
    simp only [World.setCells]
    rw [setCell_eq_setRow w b o cur e (0, 0) v hg]
    rw [setCells_row b e rest (o + 1) _ _ (setRow_heap w b cur _ e _ hg) (by simp at hl ⊢; omega), setRow_setRow]
    congr 2
    have e2 := list_seg_step cur.toList o v rest (by simp at hl ⊢; omega)
    simpa [Array.toList_setIfInBounds, Nat.add_assoc] using e2
theorem own_parts {k : Nat} {us : List U} {h : Hdr} {v : Value} {B : List Nat} (o : Own ρ w (.sl k us) h [v] B) :
    (us = [] ∧ ∃ a, v = .slice a 0 0) ∨ ∃ b cap cur e cs B1, v = .slice (some ⟨b, 0, none⟩) us.length cap ∧ w.heap[b]? = some (.cells cur e (0, 0)) ∧ cur.size = cap * k ∧ us.length ≤ cap ∧ cap ≤ maxLen ∧ (∀ d ∈ U.ex.exs us, d.size = k) ∧ cur.toList.take (us.length * k) = cs ∧
      TCs ρ w (fun _ => False) (fun _ => ⟨.dead, noHdr⟩) (elts h k 0 (U.ex.exs us)) cs B1 ∧ B = b :: B1 := by
  have hlen : (U.ex.exs us).length = us.length := by rw [uexs_eq]; simp
  unfold Own at o
  simp only [U.ex] at o
  generalize hds : U.ex.exs us = ds at o hlen ⊢
  cases o with
  | osl0 hh t => exact .inl ⟨List.length_eq_zero_iff.1 hlen.symm, _, rfl⟩
  | osl hh hb hsz hle hmax hks hct g1 t =>
    cases t
    rw [hlen] at hh hle hct
    exact .inr ⟨_, _, _, _, _, _, by rw [hlen], hb, hsz, hle, hmax, hks, hct, g1, by simp⟩
theorem Keep.row {b : Nat} {x : Array Value} : (w.setRow b x).os = w.os ∧ (w.setRow b x).tape = w.tape ∧ (w.setRow b x).output = w.output ∧ (w.setRow b x).heap.size = w.heap.size ∧ (w.setRow b x).drawn = w.drawn := ⟨rfl, rfl, rfl, by simp, rfl⟩
end
def insC (k b : Nat) : List U → Option U
  | [.agg [.tup [.sl k1 xs]], .int .i64 n, .sl k2 ys] => if k1 = k ∧ k2 = k ∧ 0 ≤ n ∧ n ≤ xs.length ∧ 0 < ys.length ∧ U.flat.flats ys = true ∧ (xs.length + ys.length) * b ≤ 140737488355328 then some (.sl k (xs.take n.toNat ++ ys ++ xs.drop n.toNat)) else none
  | _ => none
def insI (k b : Nat) : List U → Option U
  | [.sl k1 xs, .int .i64 n, .sl k2 ys] => if k1 = k ∧ k2 = k ∧ 0 ≤ n ∧ n ≤ xs.length ∧ 0 < ys.length ∧ (xs.length + ys.length) * b ≤ 140737488355328 then some (.sl k (xs.take n.toNat ++ ys ++ xs.drop n.toNat)) else none
  | _ => none
structure IsIns (E : Env) (q k b : Nat) : Prop where
  i : ∀ us, E (600000 + q) us = insI k b us
  c : ∀ us, E (300000 + q) us = insC k b us
end Go.Proofs.Ytlgblpngiamhaaa.Am
