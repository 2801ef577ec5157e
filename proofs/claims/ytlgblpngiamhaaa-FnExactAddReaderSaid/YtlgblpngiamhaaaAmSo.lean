import Derived.Shelf.SlSortCmp.NoneTotal
import Derived.Test.YtlgblpngiamhaaaAmEd
import Derived.Test.YtlgblpngiamhaaaAmW
import Derived.Test.YtlgblpngiamhaaaAmPb
import Derived.Test.YtlgblpngiamhaaaAmCl
namespace Go.Proofs.Ytlgblpngiamhaaa.Am
open Go Go.RowKit Go.Sort Go.Shelf Go.Proofs
instance : Inhabited Edge := ⟨⟨0, 0, 0, 0⟩⟩
def sortBy (cf : Edge → Edge → Int) (l : List Edge) : List Edge := l.mergeSort fun x y => !ltOf cf y x
section
variable {P : Program} {ρ : Nat → FuncId} {w w' : World} {S : Nat → Prop} {β : Nat → Lay}
end
structure IsSort (E : Env) (q c : Nat) : Prop where
  ex : ∃ cf : Edge → Edge → Int, (∀ a b : Edge, E c [a.u, b.u] = some (.int .i64 (cf a b))) ∧ ∀ l : List Edge, l.length ≤ 1099511627776 → E (200000 + q) (.agg [.tup [.sl 4 (l.map Edge.u)]] :: [.fn c []]) = some (.tup [.tup [], .sl 4 ((sortBy cf l).map Edge.u)])
end Go.Proofs.Ytlgblpngiamhaaa.Am
