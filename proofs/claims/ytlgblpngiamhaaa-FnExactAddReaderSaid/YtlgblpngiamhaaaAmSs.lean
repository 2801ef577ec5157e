import Derived.Test.YtlgblpngiamhaaaAmTk
import Derived.Test.YtlgblpngiamhaaaAmSo
set_option linter.unusedVariables false
namespace Go.Proofs.Ytlgblpngiamhaaa.Am
open Go Go.RowKit Go.Sort Go.Shelf Go.Proofs
section
variable {α β : Type} [Inhabited α] [Inhabited β]
end
def stabU (κ : U → Int) (xs : List U) : List U := (insertionSort (fun x y => decide (κ x < κ y)) xs.toArray 0 xs.length).toList
def κcmp (κ : U → Int) (x y : U) : Int := if κ x < κ y then -1 else if κ y < κ x then 1 else 0
theorem κcmp_neg (κ : U → Int) (x y : U) : ltOf (κcmp κ) x y = decide (κ x < κ y) := by
  unfold ltOf κcmp
  congr 1
  rw [eq_iff_iff]
  split
  · simp_all
  · split <;> simp_all
section
variable {α : Type} [Inhabited α] (enc : α → List Value) {k : Nat} (hk : ∀ x, (enc x).length = k)
include hk
end
section
variable {P : Program} {ρ : Nat → FuncId} {w : World} {k : Nat}
structure StabP (P : Program) (R : Ren) (f : FuncId) : Prop where
  lay : SlLaysF0.n20 P R
  walk : ∀ (a : Option Addr) (n cap : Nat) (fv : Value) (w : World) (Q : World → Prop), n < 20 → Calls P (R.f 20) #[.slice a n cap, .int .i64 0, .int .i64 n, fv] w (fun e w' => e = .returned (.tuple #[]) ∧ Q w') → Calls P f #[.slice a n cap, fv] w (fun e w' => e = .returned (.tuple #[]) ∧ Q w')
end
structure IsStab (E : Env) (q c k : Nat) (κ : U → Int) (ok : U → Bool) : Prop where
  ex : ∀ xs : List U, xs.length < 20 → xs.all ok = true → E (200000 + q) (.agg [.tup [.sl k xs]] :: [.fn c []]) = some (.tup [.tup [], .sl k (stabU κ xs)])
end Go.Proofs.Ytlgblpngiamhaaa.Am
