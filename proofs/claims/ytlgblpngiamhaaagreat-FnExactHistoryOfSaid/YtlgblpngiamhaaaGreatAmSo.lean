import Derived.Shelf.SlSortCmp.NoneTotal
import Derived.Test.YtlgblpngiamhaaaGreatAmEd
import Derived.Test.YtlgblpngiamhaaaGreatAmW
import Derived.Test.YtlgblpngiamhaaaGreatAmPb
import Derived.Test.YtlgblpngiamhaaaGreatAmCl
namespace Go.Proofs.YtlgblpngiamhaaaGreat.Am
open Go Go.RowKit Go.Sort Go.Shelf Go.Proofs
instance:Inhabited Edge:=⟨⟨0,0,0,0⟩⟩
def sortBy (cf:Edge→Edge→Int) (l:List Edge):List Edge:=l.mergeSort fun x y=>!ltOf cf y x
section
variable {P:Program} {ρ:Nat→FuncId} {w w':World} {S:Nat→Prop} {β:Nat→Lay}
theorem Qse (h:Below w.heap.size w w'):∃ q os',w' = grow (w.drewN q) os':=by
 have h1:w'.heap = w.heap ++ w'.heap.extract w.heap.size w'.heap.size:=by
  apply Array.ext_getElem?
  intro k
  rw [Array.getElem?_append]
  split
  ·rename_i hk; exact h.block k hk
  ·rename_i hk
   rw [Array.getElem?_extract]
   have e:w.heap.size + (k - w.heap.size) = k:=by omega
   rw [e]
   split
   ·rfl
   ·rename_i h2
    rw [Array.getElem?_eq_none]
    have:=h.size
    omega
 have h2:=h.drawn
 have h3:=h.os
 have h4:=h.tape
 have h5:=h.output
 refine ⟨w'.drawn - w.drawn,w'.heap.extract w.heap.size w'.heap.size,?_⟩
 unfold grow World.drewN
 cases w with
 | mk heap tape drawn os output =>
  cases w' with
  | mk heap' tape' drawn' os' output' =>
   simp only at h1 h2 h3 h4 h5 ⊢
   subst h3 h4 h5
   simp only [World.mk.injEq]
   exact ⟨h1,trivial,by omega,trivial,trivial⟩
theorem Qabn (f:Array Value→Array Value) {b:Nat} {cur:Array Value} {e:TypeId} (hb:w.heap[b]? = some (.cells cur e (0,0))):(mapBlock w b f).heap[b]? = some (.cells (f cur) e (0,0)):=by
 simp only [mapBlock,Array.getElem?_modify,if_true,hb,Option.map_some,onCells]
end
structure IsSort (E:Env) (q c:Nat):Prop where
 ex:∃ cf:Edge→Edge→Int,(∀ a b:Edge,E c [a.u,b.u] = some (.int .i64 (cf a b))) ∧ ∀ l:List Edge,l.length ≤ 1099511627776→E (200000 + q) (.agg [.tup [.sl 4 (l.map Edge.u)]] :: [.fn c []]) = some (.tup [.tup [],.sl 4 ((sortBy cf l).map Edge.u)])
end Go.Proofs.YtlgblpngiamhaaaGreat.Am
