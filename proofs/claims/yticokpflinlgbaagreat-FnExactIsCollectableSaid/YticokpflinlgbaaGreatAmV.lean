import Derived.Test.YticokpflinlgbaaGreatAmT
/-
  The environment of a table of functions, by the depth of calls; and that it is good.
-/
namespace Go.Proofs.YticokpflinlgbaaGreat.Am
open Go

structure Fn where
  np : Nat
  ac : AC
  rs : List (Nat × Option (Bool × Nat))

/-- The functions of the table, called to the depth n. -/
noncomputable def EnvN (tbl : Nat → Option Fn) : Nat → Env
  | 0, _, _ => none
  | n + 1, q, us => match tbl q with
    | some f => if us.length = f.np then runQ q (EnvN tbl n) f.ac f.rs us else none
    | none => none

def TblOK (P : Program) (ρ : Nat → FuncId) (tbl : Nat → Option Fn) : Prop := ∀ q f, tbl q = some f → matchFn P ρ q f.np f.ac f.rs = true

theorem good_N {P : Program} {ρ : Nat → FuncId} {tbl : Nat → Option Fn} (ht : TblOK P ρ tbl) (hp : P.follows .mixedOrders = true) : ∀ n, Good P ρ (EnvN tbl n)
  | 0, q, us, u, h => by cases h
  | n + 1, q, us, u, h => by
    simp only [EnvN] at h
    split at h
    · rename_i f hf
      split at h
      · rename_i hl
        exact fn_good (good_N ht hp n) hp (ht q f hf) hl h
      · cases h
    · cases h

/-- A table as a list of numbered functions. -/
def look (l : List (Nat × Fn)) (q : Nat) : Option Fn := match l with
  | [] => none
  | (q', f) :: l => if q = q' then some f else look l q

def AllMatch (P : Program) (ρ : Nat → FuncId) : List (Nat × Fn) → Prop
  | [] => True
  | (q, f) :: l => matchFn P ρ q f.np f.ac f.rs = true ∧ AllMatch P ρ l

theorem tbl_ok {P : Program} {ρ : Nat → FuncId} : ∀ {l : List (Nat × Fn)}, AllMatch P ρ l → TblOK P ρ (look l)
  | [], _, q, f, h => by cases h
  | (q', f') :: l, hm, q, f, h => by
    simp only [look] at h
    split at h
    · rename_i e
      cases h
      subst e
      exact hm.1
    · exact tbl_ok hm.2 q f h

/-- A function of the table is entered. -/
theorem env_step {tbl : Nat → Option Fn} {n q : Nat} {f : Fn} {us : List U} (h : tbl q = some f) (hl : us.length = f.np) : EnvN tbl (n + 1) q us = runQ q (EnvN tbl n) f.ac f.rs us := by
  simp only [EnvN, h, hl, if_true]
end Go.Proofs.YticokpflinlgbaaGreat.Am
