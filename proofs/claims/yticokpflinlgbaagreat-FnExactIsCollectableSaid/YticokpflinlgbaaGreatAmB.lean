import Derived.Test.YticokpflinlgbaaGreatAmA
/-
  The abstract machine's values and memory ('D': pure data, or a place in memory of the call's own), and how its state stands to the model's ('Rel').
-/
namespace Go.Proofs.YticokpflinlgbaaGreat.Am
open Go

inductive Step where
  | fld (j off : Nat)
  | elt (i k : Nat)
  deriving DecidableEq, Inhabited

/-- What a slot holds. 'ref', 'ptr': a slice of, an address in, the variable number R; 'skip': what an operation that was passed over leaves; 'undef': nothing is known. -/
inductive D where
  | val (u : U)
  | agg (ds : List D)
  | tup (ds : List D)
  | ref (R k : Nat) (part : Option (Nat × Nat))
  | ptr (R : Nat) (p : List Step)
  | fnv (r : Nat) (caps : List D)
  | skip
  | undef
  deriving Inhabited

/-- What a variable of the call's own holds: a box, or an array whose elements are pure data. -/
inductive Cn where
  | box (d : D)
  | arr (k : Nat) (us : List U)
  deriving Inhabited

def D.size : D → Nat
  | .val u => u.size
  | .agg ds => dsizes ds
  | _ => 1
where dsizes : List D → Nat
  | [] => 0
  | d :: ds => d.size + dsizes ds

abbrev dsizes := D.size.dsizes
@[simp] theorem dsizes_nil : dsizes [] = 0 := rfl
@[simp] theorem dsizes_cons (d : D) (ds : List D) : dsizes (d :: ds) = d.size + dsizes ds := rfl

/-- What names the variable R is forgotten: it is about to be made anew. -/
def D.purge (R : Nat) : D → D
  | .agg ds => .agg (purges ds)
  | .tup ds => .tup (purges ds)
  | .fnv r ds => .fnv r (purges ds)
  | .ref R' k part => if R' = R then .undef else .ref R' k part
  | .ptr R' p => if R' = R then .undef else .ptr R' p
  | d => d
where purges : List D → List D
  | [] => []
  | d :: ds => d.purge R :: purges ds

def Cn.purge (R : Nat) : Cn → Cn
  | .box d => .box (d.purge R)
  | c => c

/-- Where something lies: at an address, or (a slice of the call's own) nowhere but in slots. -/
inductive Pl where
  | adr (b o : Nat)
  | vir (v : Value)

def Pl.step : Pl → Step → Option Pl
  | .adr b o, .fld _ off => some (.adr b (o + off))
  | .vir (.slice (some a) _ _), .elt i k => some (.adr a.block (a.off + i * k))
  | _, _ => none

def Pl.go : Pl → List Step → Option Pl
  | q, [] => some q
  | q, s :: p => (q.step s).bind fun q' => q'.go p

/-- A part of a slice value, as Go cuts it. -/
def subSlice (k : Nat) (part : Option (Nat × Nat)) (v0 v : Value) : Prop :=
  match part with
  | none => v = v0 ∧ v.oneCell' = true
  | some (off, len) => ∃ a l c a', v0 = .slice a l c ∧ v = .slice a' len (c - off) ∧ off + len ≤ l ∧ l ≤ c ∧ c ≤ maxLen ∧ (len = 0 ∨ a' = a.map (·.add (off * k)))

theorem subSlice.oneCell {k : Nat} {part : Option (Nat × Nat)} {v0 v : Value} (h : subSlice k part v0 v) : v.oneCell' = true := by
  cases part with
  | none => exact h.2
  | some p => obtain ⟨_, _, _, _, _, rfl, _⟩ := h; rfl

/-- May it stand in a closure? -/
def D.isCap : D → Bool
  | .val (.vp _) | .ptr _ _ | .undef => true
  | _ => false

/-- Cells of the machine's values. -/
inductive DCs (ρ : Nat → FuncId) (w : World) (S : Nat → Prop) (β : Nat → Pl) : List D → List Value → Prop where
  | nil : DCs ρ w S β [] []
  | val {u ds c1 cs} (h1 : URs ρ w S [u] c1) (h : DCs ρ w S β ds cs) : DCs ρ w S β (.val u :: ds) (c1 ++ cs)
  | agg {fs ds c1 cs} (h1 : DCs ρ w S β fs c1) (h : DCs ρ w S β ds cs) : DCs ρ w S β (.agg fs :: ds) (c1 ++ cs)
  | ref {ds cs} (R k part v v0) (hv : β R = .vir v0) (hs : subSlice k part v0 v) (h : DCs ρ w S β ds cs) : DCs ρ w S β (.ref R k part :: ds) (v :: cs)
  | ptr {ds cs} (R p b o) (hp : (β R).go p = some (.adr b o)) (h : DCs ρ w S β ds cs) : DCs ρ w S β (.ptr R p :: ds) (.pointer (some ⟨b, o, none⟩) :: cs)
  | fnv {caps ds cs vs} (r) (h1 : DCs ρ w S β caps vs) (hv : ∀ d ∈ caps, d.isCap = true) (h : DCs ρ w S β ds cs) : DCs ρ w S β (.fnv r caps :: ds) (.func (.func (ρ r)) #[] vs.toArray :: cs)
  | undef {ds cs} (v) (h1 : v.oneCell' = true) (h : DCs ρ w S β ds cs) : DCs ρ w S β (.undef :: ds) (v :: cs)

/-- Is it held as an aggregate? -/
def D.isAgg : D → Bool
  | .val (.agg _) | .agg _ => true
  | _ => false

/-- A slot that is no tuple. -/
def V1 (ρ : Nat → FuncId) (w : World) (S : Nat → Prop) (β : Nat → Pl) (d : D) (v : Value) : Prop :=
  d = .undef ∨ ∃ cs, DCs ρ w S β [d] cs ∧ (if d.isAgg then v = .agg cs.toArray else cs = [v])

/-- Tuples' parts, one by one. -/
def V1s (ρ : Nat → FuncId) (w : World) (S : Nat → Prop) (β : Nat → Pl) : List D → List Value → Prop
  | [], vs => vs = []
  | d :: ds, vs => ∃ v vs', vs = v :: vs' ∧ V1 ρ w S β d v ∧ V1s ρ w S β ds vs'

/-- A slot. -/
def VD (ρ : Nat → FuncId) (w : World) (S : Nat → Prop) (β : Nat → Pl) (d : D) (v : Value) : Prop :=
  match d with
  | .tup ds => ∃ vs : List Value, v = .tuple vs.toArray ∧ V1s ρ w S β ds vs
  | .val (.tup us) => ∃ vs : List Value, v = .tuple vs.toArray ∧ V1s ρ w S β (us.map .val) vs
  | .skip => v = Go.undef
  | d => V1 ρ w S β d v

/-- A variable of the call's own: where it is, which blocks it owns. -/
def RootOK (ρ : Nat → FuncId) (w : World) (S : Nat → Prop) (β : Nat → Pl) (c : Cn) (q : Pl) (B : List Nat) : Prop :=
  match c with
  | .box d => ∃ b cs e, q = .adr b 0 ∧ B = [b] ∧ w.heap[b]? = some (.cells cs.toArray e (0, 0)) ∧ DCs ρ w S β [d] cs
  | .arr k us => (us = [] ∧ q = .vir (.slice none 0 0) ∧ B = []) ∨
      ∃ b cap cur e c1, q = .vir (.slice (some ⟨b, 0, none⟩) us.length cap) ∧ B = [b] ∧ w.heap[b]? = some (.cells cur e (0, 0)) ∧ cur.size = cap * k ∧ us.length ≤ cap ∧ cap ≤ maxLen ∧
        (∀ u ∈ us, u.size = k) ∧ cur.toList.take (us.length * k) = c1 ∧ URs ρ w S us c1

abbrev Frm := Nat → D
abbrev Hp := Nat → Option Cn

/-- The blocks that stand: all that lie in the world, may be read by the call, and belong to no variable of the call's own. -/
structure Stands (S₀ : Nat → Prop) (w : World) (Γ : Hp) (B : Nat → List Nat) (b : Nat) : Prop where
  lt : b < w.heap.size
  own : ∀ R, (Γ R).isSome = true → b ∉ B R
  may : S₀ b

structure Rel (ρ : Nat → FuncId) (S₀ : Nat → Prop) (base : Nat → Prop) (N : Nat) (fr : Frm) (Γ : Hp) (β : Nat → Pl) (B : Nat → List Nat) (a : Act) (w : World) : Prop where
  size : a.tmps.size = N
  defers : a.defers = []
  slots : ∀ i, i < N → VD ρ w (Stands S₀ w Γ B) β (fr i) (a.tmps.getD i Go.undef)
  roots : ∀ R c, Γ R = some c → RootOK ρ w (Stands S₀ w Γ B) β c (β R) (B R)
  apart : ∀ R R', R ≠ R' → (Γ R).isSome = true → (Γ R').isSome = true → ∀ b ∈ B R, b ∉ B R'
  inside : ∀ R, (Γ R).isSome = true → ∀ b ∈ B R, base b ∧ b < w.heap.size
  low : ∀ b, w.heap.size ≤ b → base b
  fresh : ∀ b, base b → S₀ b

section
variable {ρ : Nat → FuncId} {w w' : World} {S S' : Nat → Prop} {β β' : Nat → Pl}

theorem DCs.length {ds : List D} {cs : List Value} (h : DCs ρ w S β ds cs) : cs.length = dsizes ds := by
  induction h with
  | nil => rfl
  | val h1 h ih => simp [h1.length, ih, D.size]
  | agg h1 h ih1 ih => simp [ih1, ih, D.size]
  | _ => simp_all [D.size, Nat.add_comm]

theorem DCs.oneCell {ds : List D} {cs : List Value} (h : DCs ρ w S β ds cs) : ∀ v ∈ cs, v.oneCell' = true := by
  induction h with
  | nil => simp
  | val h1 h ih =>
    intro v hv
    rcases List.mem_append.1 hv with hv | hv
    · exact h1.oneCell v hv
    · exact ih v hv
  | agg h1 h ih1 ih =>
    intro v hv
    rcases List.mem_append.1 hv with hv | hv
    · exact ih1 v hv
    · exact ih v hv
  | ref R k part v v0 hv hs h ih =>
    intro u hu
    rcases List.mem_cons.1 hu with rfl | hu
    · exact hs.oneCell
    · exact ih u hu
  | _ =>
    intro v hv
    rcases List.mem_cons.1 hv with rfl | hv
    · first | rfl | assumption
    · simp_all

/-- What it reads stands, the places that it names stand. -/
theorem DCs.mono {ds : List D} {cs : List Value} (h : DCs ρ w S β ds cs) (hS : ∀ b, S b → S' b) (hc : ∀ b, S b → w'.heap[b]? = w.heap[b]?) (hβ : ∀ R, β' R = β R) : DCs ρ w' S' β' ds cs := by
  have hcell : ∀ b o v, S b → w.cell? ⟨b, o, none⟩ = some v → w'.cell? ⟨b, o, none⟩ = some v := fun b o v hb hv => by rw [World.cell?_of_block (w := w) (hc b hb)]; exact hv
  induction h with
  | nil => exact .nil
  | val h1 h ih => exact .val (h1.mono hS hcell) ih
  | agg h1 h ih1 ih => exact .agg ih1 ih
  | ref R k part v v0 hv hs h ih => exact .ref R k part v v0 ((hβ R).trans hv) hs ih
  | ptr R p b o hp h ih => exact .ptr R p b o (by rw [hβ R]; exact hp) ih
  | fnv r h1 hv h ih1 ih => exact .fnv r ih1 hv ih
  | undef v h1 h ih => exact .undef v h1 ih

theorem size_purge (R : Nat) : ∀ d : D, (d.purge R).size = d.size
  | .agg ds => by simp only [D.purge, D.size]; exact go ds
  | .ref R' k part => by simp only [D.purge]; split <;> rfl
  | .ptr R' p => by simp only [D.purge]; split <;> rfl
  | .val u => rfl
  | .tup ds => rfl
  | .fnv r ds => rfl
  | .skip => rfl
  | .undef => rfl
where go : ∀ ds : List D, dsizes (D.purge.purges R ds) = dsizes ds
  | [] => rfl
  | d :: ds => by simp only [D.purge.purges, dsizes_cons]; rw [size_purge R d, go ds]

theorem purges_eq (R : Nat) (ds : List D) : D.purge.purges R ds = ds.map (·.purge R) := by
  induction ds with
  | nil => rfl
  | cons d ds ih => simp [D.purge.purges, ih]

/-- The variable R's place changes; what names it has been forgotten. -/
theorem DCs.purge {ds : List D} {cs : List Value} {R : Nat} (h : DCs ρ w S β ds cs) (hβ : ∀ R', R' ≠ R → β' R' = β R') : DCs ρ w S β' (D.purge.purges R ds) cs := by
  induction h with
  | nil => exact .nil
  | val h1 h ih => exact .val h1 ih
  | agg h1 h ih1 ih => exact .agg ih1 ih
  | ref R' k part v v0 hv hs h ih =>
    simp only [D.purge.purges, D.purge]
    split
    · exact .undef v hs.oneCell ih
    · rename_i hne
      exact .ref R' k part v v0 ((hβ R' hne).trans hv) hs ih
  | ptr R' p b o hp h ih =>
    simp only [D.purge.purges, D.purge]
    split
    · exact .undef _ rfl ih
    · rename_i hne
      exact .ptr R' p b o (by rw [hβ R' hne]; exact hp) ih
  | fnv r h1 hv h ih1 ih =>
    refine .fnv r ih1 ?_ ih
    intro d hd
    rw [purges_eq] at hd
    obtain ⟨d', hd', rfl⟩ := List.mem_map.1 hd
    have h3 := hv d' hd'
    cases d' with
    | val u => exact h3
    | ptr R' p =>
      simp only [D.purge]
      split <;> rfl
    | undef => rfl
    | _ => cases h3
  | undef v h1 h ih => exact .undef v h1 ih
end
end Go.Proofs.YticokpflinlgbaaGreat.Am
