import Derived.Test.YticokpflinlgbaaGreatAmC
/-
  Ways into a variable: what lies at its end, where, and what becomes of the whole when it is written.
-/
namespace Go.Proofs.YticokpflinlgbaaGreat.Am
open Go

def getU : U → List Step → Option U
  | u, [] => some u
  | .agg us, .fld j off :: p => if off = sizes (us.take j) then (us[j]?).bind fun u => getU u p else none
  | _, _ => none

def getD : D → List Step → Option D
  | d, [] => some d
  | .val (.agg us), .fld j off :: p => if off = sizes (us.take j) then (us[j]?).bind fun u => getD (.val u) p else none
  | .agg ds, .fld j off :: p => if off = dsizes (ds.take j) then (ds[j]?).bind fun d => getD d p else none
  | _, _ => none

def Cn.get : Cn → List Step → Option D
  | .box d, p => getD d p
  | .arr k us, .elt i k' :: p => if k' = k then (us[i]?).bind fun u => getD (.val u) p else none
  | _, _ => none

def asAggOf (us : List U) (j : Nat) : D → D
  | .val u => .val (.agg (us.set j u))
  | d => .agg ((us.map .val).set j d)

def setD (n : Nat) (x : D) : D → List Step → Option D
  | d, [] => if d.size = n then some x else none
  | .val (.agg us), .fld j off :: p => if off = sizes (us.take j) then (us[j]?).bind fun u => (setD n x (.val u) p).map (asAggOf us j) else none
  | .agg ds, .fld j off :: p => if off = dsizes (ds.take j) then (ds[j]?).bind fun d => (setD n x d p).map fun d' => .agg (ds.set j d') else none
  | _, _ => none

def D.toU : D → Option U
  | .val u => some u
  | _ => none

def Cn.set (n : Nat) (x : D) : Cn → List Step → Option Cn
  | .box d, p => (setD n x d p).map .box
  | .arr k us, .elt i k' :: p => if k' = k then (us[i]?).bind fun u => (setD n x (.val u) p).bind fun d => d.toU.map fun u' => .arr k (us.set i u') else none
  | _, _ => none

/-! ### The same in the style of continuations -/
section
variable {α : Type}
def U.asAgg (u : U) (K : List U → Option α) : Option α := match u with
  | .agg us => K us
  | _ => none

def getDK (K : D → Option α) : D → List Step → Option α
  | d, [] => K d
  | .val u, .fld j off :: p => u.asAgg fun us => if off = sizes (us.take j) then (us[j]?).bind fun u => getDK K (.val u) p else none
  | .agg ds, .fld j off :: p => if off = dsizes (ds.take j) then (ds[j]?).bind fun d => getDK K d p else none
  | _, _ => none

def Cn.getK (K : D → Option α) : Cn → List Step → Option α
  | .box d, p => getDK K d p
  | .arr k us, .elt i k' :: p => if k' = k then (us[i]?).bind fun u => getDK K (.val u) p else none
  | _, _ => none

def setDK (n : Nat) (x : D) (K : D → Option α) : D → List Step → Option α
  | d, [] => if d.size = n then K x else none
  | .val u, .fld j off :: p => u.asAgg fun us => if off = sizes (us.take j) then (us[j]?).bind fun u => setDK n x (fun d' => K (asAggOf us j d')) (.val u) p else none
  | .agg ds, .fld j off :: p => if off = dsizes (ds.take j) then (ds[j]?).bind fun d => setDK n x (fun d' => K (.agg (ds.set j d'))) d p else none
  | _, _ => none

def D.toUK (d : D) (K : U → Option α) : Option α := match d with
  | .val u => K u
  | _ => none

def Cn.setK (n : Nat) (x : D) (K : Cn → Option α) : Cn → List Step → Option α
  | .box d, p => setDK n x (fun d' => K (.box d')) d p
  | .arr k us, .elt i k' :: p => if k' = k then (us[i]?).bind fun u => setDK n x (fun d => d.toUK fun u' => K (.arr k (us.set i u'))) (.val u) p else none
  | _, _ => none

theorem ite_bind' {β γ : Type} (c : Prop) [Decidable c] (x : Option β) (f : β → Option γ) : (if c then x else none).bind f = if c then x.bind f else none := by split <;> rfl

theorem getDK_eq (K : D → Option α) (p : List Step) : ∀ d, getDK K d p = (getD d p).bind K := by
  induction p with
  | nil => intro d; cases d <;> rfl
  | cons s p ih =>
    intro d
    cases s with
    | elt i k => cases d with
      | val u => cases u <;> rfl
      | _ => rfl
    | fld j off =>
      cases d with
      | val u =>
        cases u with
        | agg us =>
          simp only [getDK, getD, U.asAgg, ite_bind', Option.bind_assoc, ih]
        | _ => rfl
      | agg ds =>
        simp only [getDK, getD, ite_bind', Option.bind_assoc, ih]
      | _ => rfl

theorem Cn.getK_eq (K : D → Option α) (c : Cn) (p : List Step) : c.getK K p = (c.get p).bind K := by
  cases c with
  | box d => exact getDK_eq K p d
  | arr k us =>
    cases p with
    | nil => rfl
    | cons s p =>
      cases s with
      | fld j off => rfl
      | elt i k' =>
        simp only [Cn.getK, Cn.get, ite_bind', Option.bind_assoc, getDK_eq]

theorem setDK_eq (n : Nat) (x : D) (p : List Step) : ∀ (K : D → Option α) d, setDK n x K d p = (setD n x d p).bind K := by
  induction p with
  | nil => intro K d; cases d <;> simp only [setDK, setD, ite_bind'] <;> rfl
  | cons s p ih =>
    intro K d
    cases s with
    | elt i k => cases d with
      | val u => cases u <;> rfl
      | _ => rfl
    | fld j off =>
      cases d with
      | val u =>
        cases u with
        | agg us =>
          simp only [setDK, setD, U.asAgg, ite_bind', Option.bind_assoc, ih, Option.bind_map]
          rfl
        | _ => rfl
      | agg ds =>
        simp only [setDK, setD, ite_bind', Option.bind_assoc, ih, Option.bind_map]
        rfl
      | _ => rfl

theorem Cn.setK_eq (n : Nat) (x : D) (K : Cn → Option α) (c : Cn) (p : List Step) : c.setK n x K p = (c.set n x p).bind K := by
  cases c with
  | box d => simp only [Cn.setK, Cn.set, setDK_eq, Option.bind_map]; rfl
  | arr k us =>
    cases p with
    | nil => rfl
    | cons s p =>
      cases s with
      | fld j off => rfl
      | elt i k' =>
        simp only [Cn.setK, Cn.set, ite_bind', Option.bind_assoc, setDK_eq]
        congr 2
        funext u
        congr 1
        funext d
        cases d <;> rfl
end

section
variable {ρ : Nat → FuncId} {w w' : World} {S S' : Nat → Prop} {β β' : Nat → Pl}

theorem DCs.append {ds es : List D} {cs cs' : List Value} (h : DCs ρ w S β ds cs) (h' : DCs ρ w S β es cs') : DCs ρ w S β (ds ++ es) (cs ++ cs') := by
  induction h with
  | nil => exact h'
  | val h1 h ih => rw [List.cons_append, List.append_assoc]; exact .val h1 ih
  | agg h1 h ih1 ih => rw [List.cons_append, List.append_assoc]; exact .agg h1 ih
  | ref R k part v v0 hv hs h ih => exact .ref R k part v v0 hv hs ih
  | ptr R p b o hp h ih => exact .ptr R p b o hp ih
  | fnv r h1 hv h ih1 ih => exact .fnv r h1 hv ih
  | undef v h1 h ih => exact .undef v h1 ih

theorem DCs.cons_inv {d : D} {ds : List D} {cs : List Value} (h : DCs ρ w S β (d :: ds) cs) : ∃ c1 c2, cs = c1 ++ c2 ∧ c1.length = d.size ∧ DCs ρ w S β [d] c1 ∧ DCs ρ w S β ds c2 := by
  cases h with
  | val h1 h => exact ⟨_, _, rfl, by simp [h1.length, D.size], by have := DCs.val (β := β) h1 .nil; simpa using this, h⟩
  | agg h1 h => exact ⟨_, _, rfl, by rw [h1.length]; rfl, by have := DCs.agg h1 .nil; simpa using this, h⟩
  | ref R k part v v0 hv hs h => exact ⟨[_], _, rfl, rfl, .ref R k part v v0 hv hs .nil, h⟩
  | ptr R p b o hp h => exact ⟨[_], _, rfl, rfl, .ptr R p b o hp .nil, h⟩
  | fnv r h1 hv h => exact ⟨[_], _, rfl, rfl, .fnv r h1 hv .nil, h⟩
  | undef v h1 h => exact ⟨[_], _, rfl, rfl, .undef v h1 .nil, h⟩

theorem DCs.cons {d : D} {ds : List D} {c1 c2 : List Value} (h1 : DCs ρ w S β [d] c1) (h2 : DCs ρ w S β ds c2) : DCs ρ w S β (d :: ds) (c1 ++ c2) := h1.append h2

theorem DCs.split {ds es : List D} {cs : List Value} (h : DCs ρ w S β (ds ++ es) cs) : ∃ c1 c2, cs = c1 ++ c2 ∧ c1.length = dsizes ds ∧ DCs ρ w S β ds c1 ∧ DCs ρ w S β es c2 := by
  induction ds generalizing cs with
  | nil => exact ⟨[], cs, rfl, rfl, .nil, h⟩
  | cons d ds ih =>
    obtain ⟨c1, c2, rfl, hl, h1, h2⟩ := DCs.cons_inv h
    obtain ⟨c3, c4, rfl, hl2, h3, h4⟩ := ih h2
    exact ⟨c1 ++ c3, c4, by simp, by simp [hl, hl2], h1.append h3, h4⟩

theorem DCs.val_inv {u : U} {cs : List Value} (h : DCs ρ w S β [.val u] cs) : URs ρ w S [u] cs := by
  cases h with
  | val h1 h => cases h; simpa using h1

theorem DCs.of_val {u : U} {cs : List Value} (h : URs ρ w S [u] cs) : DCs ρ w S β [.val u] cs := by simpa using DCs.val (β := β) h .nil

theorem DCs.of_vals {us : List U} {cs : List Value} (h : URs ρ w S us cs) : DCs ρ w S β (us.map .val) cs := by
  induction us generalizing cs with
  | nil => cases h; exact .nil
  | cons u us ih =>
    obtain ⟨c1, c2, rfl, _, h1, h2⟩ := h.cons_inv
    exact (DCs.of_val h1).cons (ih h2)

theorem URs.agg_inv {us : List U} {cs : List Value} (h : URs ρ w S [.agg us] cs) : URs ρ w S us cs := by
  cases h with
  | agg h1 h => cases h; simpa using h1

theorem URs.of_agg {us : List U} {cs : List Value} (h : URs ρ w S us cs) : URs ρ w S [.agg us] cs := by simpa using URs.agg h .nil

theorem DCs.agg_inv {ds : List D} {cs : List Value} (h : DCs ρ w S β [.agg ds] cs) : DCs ρ w S β ds cs := by
  cases h with
  | agg h1 h => cases h; simpa using h1

theorem DCs.of_agg {ds : List D} {cs : List Value} (h : DCs ρ w S β ds cs) : DCs ρ w S β [.agg ds] cs := by simpa using DCs.agg h .nil

/-- The list parted at place j. -/
theorem URs.at_ {us : List U} {cs : List Value} {j : Nat} {u : U} (h : URs ρ w S us cs) (hj : us[j]? = some u) :
    ∃ c1 c2 c3, cs = c1 ++ c2 ++ c3 ∧ c1.length = sizes (us.take j) ∧ c2.length = u.size ∧ URs ρ w S (us.take j) c1 ∧ URs ρ w S [u] c2 ∧ URs ρ w S (us.drop (j + 1)) c3 := by
  obtain ⟨hlt, rfl⟩ := List.getElem?_eq_some_iff.1 hj
  have e : us = us.take j ++ (us[j] :: us.drop (j + 1)) := by simp
  rw [e] at h
  obtain ⟨c1, c2, rfl, hl, h1, h2⟩ := h.split
  obtain ⟨c3, c4, rfl, hl3, h3, h4⟩ := h2.cons_inv
  exact ⟨c1, c3, c4, by simp, hl, hl3, h1, h3, h4⟩

theorem DCs.at_ {ds : List D} {cs : List Value} {j : Nat} {d : D} (h : DCs ρ w S β ds cs) (hj : ds[j]? = some d) :
    ∃ c1 c2 c3, cs = c1 ++ c2 ++ c3 ∧ c1.length = dsizes (ds.take j) ∧ c2.length = d.size ∧ DCs ρ w S β (ds.take j) c1 ∧ DCs ρ w S β [d] c2 ∧ DCs ρ w S β (ds.drop (j + 1)) c3 := by
  obtain ⟨hlt, rfl⟩ := List.getElem?_eq_some_iff.1 hj
  have e : ds = ds.take j ++ (ds[j] :: ds.drop (j + 1)) := by simp
  rw [e] at h
  obtain ⟨c1, c2, rfl, hl, h1, h2⟩ := h.split
  obtain ⟨c3, c4, rfl, hl3, h3, h4⟩ := h2.cons_inv
  exact ⟨c1, c3, c4, by simp, hl, hl3, h1, h3, h4⟩

theorem set_parts {α : Type} (us : List α) (j : Nat) (u : α) (h : j < us.length) : us.set j u = us.take j ++ (u :: us.drop (j + 1)) := by
  rw [List.set_eq_take_append_cons_drop, if_pos h]

/-- WHAT LIES AT THE END OF A WAY: its cells, where they lie, and what the whole reads as when they are written. -/
theorem DCs.loc {p : List Step} {d d' : D} {cs : List Value} (h : DCs ρ w S β [d] cs) (hp : getD d p = some d') :
    ∃ pre c' post, cs = pre ++ c' ++ post ∧ c'.length = d'.size ∧ (∀ b o, (Pl.adr b o).go p = some (.adr b (o + pre.length))) ∧ DCs ρ w S β [d'] c' ∧
      ∀ (w2 : World) (β2 : Nat → Pl) (S2 : Nat → Prop) x cx d2, (∀ ds c, DCs ρ w S β ds c → DCs ρ w2 S2 β2 ds c) → (∀ us c, URs ρ w S us c → URs ρ w2 S2 us c) → ∀ n, setD n x d p = some d2 → DCs ρ w2 S2 β2 [x] cx →
        d'.size = n ∧ DCs ρ w2 S2 β2 [d2] (pre ++ cx ++ post) := by
  induction p generalizing d cs with
  | nil =>
    simp only [getD, Option.some.injEq] at hp
    subst hp
    refine ⟨[], cs, [], by simp, ?_, by simp [Pl.go], h, fun w2 β2 S2 x cx d2 _ _ n hx hcx => ?_⟩
    · have := h.length; simpa using this
    · simp only [setD] at hx
      split at hx
      · cases hx; exact ⟨‹_›, by simpa using hcx⟩
      · cases hx
  | cons s p ih =>
    cases s with
    | elt i k => cases d with
      | val u => cases u <;> simp [getD] at hp
      | _ => simp [getD] at hp
    | fld j off =>
      cases d with
      | val u =>
        cases u with
        | agg us =>
          simp only [getD] at hp
          split at hp
          · rename_i hoff
            cases hj : us[j]? with
            | none => simp [hj] at hp
            | some u =>
              simp only [hj, Option.bind_some] at hp
              obtain ⟨c1, c2, c3, rfl, hl1, hl2, h1, h2, h3⟩ := h.val_inv.agg_inv.at_ hj
              obtain ⟨pre, c', post, rfl, hl, hgo, hd', hset⟩ := ih (DCs.of_val h2) hp
              refine ⟨c1 ++ pre, c', post ++ c3, by simp, hl, fun b o => ?_, hd', fun w2 β2 S2 x cx d2 hm hu n hx hcx => ?_⟩
              · simp only [Pl.go, Pl.step, Option.bind_some, hgo, List.length_append, hl1, hoff, Nat.add_assoc]
              · simp only [setD] at hx
                rw [if_pos hoff, hj] at hx
                simp only [Option.bind_some, Option.map_eq_some_iff] at hx
                obtain ⟨d3, hd3, rfl⟩ := hx
                obtain ⟨hsz, h5⟩ := hset w2 β2 S2 x cx d3 hm hu n hd3 hcx
                refine ⟨hsz, ?_⟩
                have hlt : j < us.length := (List.getElem?_eq_some_iff.1 hj).1
                have e : c1 ++ pre ++ cx ++ (post ++ c3) = c1 ++ ((pre ++ cx ++ post) ++ c3) := by simp
                rw [e]
                cases d3 with
                | val u3 =>
                  simp only [asAggOf]
                  rw [set_parts us j u3 hlt]
                  refine DCs.of_val (URs.of_agg ((hu _ _ h1).append ?_))
                  have := h5.val_inv.append (hu _ _ h3)
                  simpa using this
                | _ =>
                  simp only [asAggOf]
                  rw [set_parts _ j _ (by simpa using hlt), ← List.map_take, ← List.map_drop]
                  exact DCs.of_agg ((DCs.of_vals (hu _ _ h1)).append (h5.cons (DCs.of_vals (hu _ _ h3))))
          · cases hp
        | _ => simp [getD] at hp
      | agg ds =>
        simp only [getD] at hp
        split at hp
        · rename_i hoff
          cases hj : ds[j]? with
          | none => simp [hj] at hp
          | some d1 =>
            simp only [hj, Option.bind_some] at hp
            obtain ⟨c1, c2, c3, rfl, hl1, hl2, h1, h2, h3⟩ := h.agg_inv.at_ hj
            obtain ⟨pre, c', post, rfl, hl, hgo, hd', hset⟩ := ih h2 hp
            refine ⟨c1 ++ pre, c', post ++ c3, by simp, hl, fun b o => ?_, hd', fun w2 β2 S2 x cx d2 hm hu n hx hcx => ?_⟩
            · simp only [Pl.go, Pl.step, Option.bind_some, hgo, List.length_append, hl1, hoff, Nat.add_assoc]
            · simp only [setD] at hx
              rw [if_pos hoff, hj] at hx
              simp only [Option.bind_some, Option.map_eq_some_iff] at hx
              obtain ⟨d3, hd3, rfl⟩ := hx
              obtain ⟨hsz, h5⟩ := hset w2 β2 S2 x cx d3 hm hu n hd3 hcx
              refine ⟨hsz, ?_⟩
              have hlt : j < ds.length := (List.getElem?_eq_some_iff.1 hj).1
              have e : c1 ++ pre ++ cx ++ (post ++ c3) = c1 ++ ((pre ++ cx ++ post) ++ c3) := by simp
              rw [e, set_parts ds j d3 hlt]
              exact DCs.of_agg ((hm _ _ h1).append (h5.cons (hm _ _ h3)))
        · cases hp
      | _ => simp [getD] at hp
end
end Go.Proofs.YticokpflinlgbaaGreat.Am
