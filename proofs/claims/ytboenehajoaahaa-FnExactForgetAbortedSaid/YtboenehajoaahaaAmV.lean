import Derived.Test.YtboenehajoaahaaAmT
namespace Go.Proofs.Ytboenehajoaahaa.Am
open Go
theorem Qe {q : Nat} {E : Env} {c : AC} {rs : List (Nat × Option (Bool × Nat))} {us : List U} (h : q / 100000 = 0) : runQ q E c rs us = run E c rs us := by
  unfold runQ setup
  rw [h]
  rfl
theorem Qt {q : Nat} {E : Env} {c : AC} {rs : List (Nat × Option (Bool × Nat))} {us : List U} (h : q / 100000 = 1) : runQ q E c rs us = exec E c (start us) (finishF rs) := by
  unfold runQ setup
  rw [h]
  rfl
theorem Qcl {q k : Nat} {E : Env} {c : AC} {rs : List (Nat × Option (Bool × Nat))} {xs us : List U} (h : q / 100000 = 2) : runQ q E c rs (.agg [.tup [.sl k xs]] :: us) = exec E c (startM k xs us) (finishM k rs) := by
  unfold runQ setup
  rw [h]
  rfl
theorem Qxz {q k : Nat} {E : Env} {c : AC} {rs : List (Nat × Option (Bool × Nat))} {xs us : List U} (h : q / 100000 = 3) : runQ q E c rs (.agg [.tup [.sl k xs]] :: us) = exec E c (startM k xs us) (finishF rs) := by
  unfold runQ setup
  rw [h]
  rfl
structure Fn where
  np : Nat
  ac : AC
  rs : List (Nat × Option (Bool × Nat))
noncomputable def EnvN (E0 : Env) (tbl : Nat → Option Fn) : Nat → Env
  | 0, q, us => match tbl q with
    | some _ => none
    | none => E0 q us
  | n + 1, q, us => match tbl q with
    | some f => if us.length = f.np then runQ q (EnvN E0 tbl n) f.ac f.rs us else none
    | none => E0 q us
def TblOK (P : Program) (ρ : Nat → FuncId) (tbl : Nat → Option Fn) : Prop := ∀ q f, tbl q = some f → matchFn P ρ q f.np f.ac f.rs = true
theorem Qme {P : Program} {ρ : Nat → FuncId} {tbl : Nat → Option Fn} {E0 : Env} (ht : TblOK P ρ tbl) (hp : P.follows .mixedOrders = true) (h0 : Good P ρ E0) : ∀ n, Good P ρ (EnvN E0 tbl n)
  | 0, q, us, u, h => by
    simp only [EnvN] at h
    split at h
    · cases h
    · exact h0 q us u h
  | n + 1, q, us, u, h => by
    simp only [EnvN] at h
    split at h
    · rename_i f hf
      split at h
      · rename_i hl
        exact Qcc (Qme ht hp h0 n) hp (ht q f hf) hl h
      · cases h
    · exact h0 q us u h
def noEnv : Env := fun _ _ => none
theorem Qbv {P : Program} {ρ : Nat → FuncId} : Good P ρ noEnv := fun _ _ _ h => by cases h
def look (l : List (Nat × Fn)) (q : Nat) : Option Fn := match l with
  | [] => none
  | (q', f) :: l => if q = q' then some f else look l q
def AllMatch (P : Program) (ρ : Nat → FuncId) : List (Nat × Fn) → Prop
  | [] => True
  | (q, f) :: l => matchFn P ρ q f.np f.ac f.rs = true ∧ AllMatch P ρ l
theorem Qhu {P : Program} {ρ : Nat → FuncId} : ∀ {l : List (Nat × Fn)}, AllMatch P ρ l → TblOK P ρ (look l)
  | [], _, q, f, h => by cases h
  | (q', f') :: l, hm, q, f, h => by
    simp only [look] at h
    split at h
    · rename_i e
      cases h
      subst e
      exact hm.1
    · exact Qhu hm.2 q f h
theorem Qi0 {E0 : Env} {tbl : Nat → Option Fn} {n q : Nat} {f : Fn} {us : List U} (h : tbl q = some f) (hl : us.length = f.np) : EnvN E0 tbl (n + 1) q us = runQ q (EnvN E0 tbl n) f.ac f.rs us := by
  simp only [EnvN, h, hl, if_true]
end Go.Proofs.Ytboenehajoaahaa.Am
