import Derived.Test.YticokpflinlgbaaGreatAmB
/-
  How the relation between the abstract machine's state and the model's is kept: by a new world, a slot that is written, a variable that is made, changed or dropped.
-/
namespace Go.Proofs.YticokpflinlgbaaGreat.Am
open Go

section
variable {ρ : Nat → FuncId} {w w' : World} {S S' : Nat → Prop} {β β' : Nat → Pl}

theorem isAgg_purge (R : Nat) (d : D) (h : d.purge R ≠ .undef) : (d.purge R).isAgg = d.isAgg := by
  cases d <;> simp_all [D.purge, D.isAgg] <;> (split <;> simp_all)

theorem V1.mono {d : D} {v : Value} (h : V1 ρ w S β d v) (hS : ∀ b, S b → S' b) (hc : ∀ b, S b → w'.heap[b]? = w.heap[b]?) (hβ : ∀ R, β' R = β R) : V1 ρ w' S' β' d v := by
  rcases h with h | ⟨cs, h1, h2⟩
  · exact .inl h
  · exact .inr ⟨cs, h1.mono hS hc hβ, h2⟩

theorem V1.purge {d : D} {v : Value} {R : Nat} (h : V1 ρ w S β d v) (hβ : ∀ R', R' ≠ R → β' R' = β R') : V1 ρ w S β' (d.purge R) v := by
  by_cases hu : d.purge R = .undef
  · exact .inl hu
  rcases h with rfl | ⟨cs, h1, h2⟩
  · exact .inl rfl
  · exact .inr ⟨cs, h1.purge hβ, by rw [isAgg_purge R d hu]; exact h2⟩

theorem V1s.mono {ds : List D} {vs : List Value} (h : V1s ρ w S β ds vs) (hS : ∀ b, S b → S' b) (hc : ∀ b, S b → w'.heap[b]? = w.heap[b]?) (hβ : ∀ R, β' R = β R) : V1s ρ w' S' β' ds vs := by
  induction ds generalizing vs with
  | nil => exact h
  | cons d ds ih =>
    obtain ⟨v, vs', e, h1, h2⟩ := h
    exact ⟨v, vs', e, h1.mono hS hc hβ, ih h2⟩

theorem V1s.purge {ds : List D} {vs : List Value} {R : Nat} (h : V1s ρ w S β ds vs) (hβ : ∀ R', R' ≠ R → β' R' = β R') : V1s ρ w S β' (D.purge.purges R ds) vs := by
  induction ds generalizing vs with
  | nil => exact h
  | cons d ds ih =>
    obtain ⟨v, vs', e, h1, h2⟩ := h
    exact ⟨v, vs', e, h1.purge hβ, ih h2⟩

theorem VD.mono {d : D} {v : Value} (h : VD ρ w S β d v) (hS : ∀ b, S b → S' b) (hc : ∀ b, S b → w'.heap[b]? = w.heap[b]?) (hβ : ∀ R, β' R = β R) : VD ρ w' S' β' d v := by
  unfold VD at h ⊢
  split at h
  · obtain ⟨vs, e, h⟩ := h; exact ⟨vs, e, h.mono hS hc hβ⟩
  · obtain ⟨vs, e, h⟩ := h; exact ⟨vs, e, h.mono hS hc hβ⟩
  · exact h
  · exact h.mono hS hc hβ

theorem purges_val (R : Nat) (us : List U) : D.purge.purges R (us.map .val) = us.map .val := by
  induction us with
  | nil => rfl
  | cons u us ih => simp [D.purge.purges, D.purge, ih]

theorem VD.purge {d : D} {v : Value} {R : Nat} (h : VD ρ w S β d v) (hβ : ∀ R', R' ≠ R → β' R' = β R') : VD ρ w S β' (d.purge R) v := by
  unfold VD at h
  split at h
  · obtain ⟨vs, e, h⟩ := h
    exact ⟨vs, e, h.purge hβ⟩
  · obtain ⟨vs, e, h⟩ := h
    have := h.purge hβ
    rw [purges_val] at this
    exact ⟨vs, e, this⟩
  · exact h
  · rename_i h1 h2 h4
    have h3 : V1 ρ w S β' (d.purge R) v := h.purge hβ
    unfold VD
    cases d with
    | tup ds => exact absurd rfl (h1 ds)
    | skip => exact absurd rfl h4
    | val u =>
      cases u with
      | tup us => exact absurd rfl (h2 us)
      | _ => exact h3
    | ref R' k part => simp only [D.purge] at h3 ⊢; split at h3 <;> (rename_i hh; simp only [hh, if_true, if_false]; exact h3)
    | ptr R' p => simp only [D.purge] at h3 ⊢; split at h3 <;> (rename_i hh; simp only [hh, if_true, if_false]; exact h3)
    | _ => exact h3

theorem RootOK.mono {c : Cn} {q : Pl} {B : List Nat} (h : RootOK ρ w S β c q B) (hS : ∀ b, S b → S' b) (hc : ∀ b, S b → w'.heap[b]? = w.heap[b]?) (hB : ∀ b ∈ B, w'.heap[b]? = w.heap[b]?) (hβ : ∀ R, β' R = β R) :
    RootOK ρ w' S' β' c q B := by
  have hcell : ∀ b o v, S b → w.cell? ⟨b, o, none⟩ = some v → w'.cell? ⟨b, o, none⟩ = some v := fun b o v hb hv => by rw [World.cell?_of_block (w := w) (hc b hb)]; exact hv
  cases c with
  | box d =>
    obtain ⟨b, cs, e, rfl, rfl, hb, hd⟩ := h
    exact ⟨b, cs, e, rfl, rfl, (hB b (by simp)).trans hb, hd.mono hS hc hβ⟩
  | arr k us =>
    rcases h with h | ⟨b, cap, cur, e, c1, rfl, rfl, hb, h1, h2, h3, h4, h5, h6⟩
    · exact .inl h
    · exact .inr ⟨b, cap, cur, e, c1, rfl, rfl, (hB b (by simp)).trans hb, h1, h2, h3, h4, h5, h6.mono hS hcell⟩

theorem RootOK.purge {c : Cn} {q : Pl} {B : List Nat} {R : Nat} (h : RootOK ρ w S β c q B) (hβ : ∀ R', R' ≠ R → β' R' = β R') : RootOK ρ w S β' (c.purge R) q B := by
  cases c with
  | box d =>
    obtain ⟨b, cs, e, rfl, rfl, hb, hd⟩ := h
    exact ⟨b, cs, e, rfl, rfl, hb, hd.purge hβ⟩
  | arr k us => exact h
end

/-- A slot is written. -/
def Frm.put (fr : Frm) (dst : Option Nat) (d : D) : Frm := fun i => if dst = some i then d else fr i
/-- Something is put at a place. -/
def upd {α : Type} (f : Nat → α) (R : Nat) (x : α) : Nat → α := fun i => if i = R then x else f i
def Frm.purge (fr : Frm) (R : Nat) : Frm := fun i => (fr i).purge R
def Hp.purge (Γ : Hp) (R : Nat) : Hp := fun i => (Γ i).map (·.purge R)

@[simp] theorem upd_same {α : Type} (f : Nat → α) (R : Nat) (x : α) : upd f R x R = x := by simp [upd]
theorem upd_other {α : Type} (f : Nat → α) {R i : Nat} (x : α) (h : i ≠ R) : upd f R x i = f i := by simp [upd, h]

section
variable {ρ : Nat → FuncId} {base : Nat → Prop} {N : Nat} {fr : Frm} {S₀ : Nat → Prop} {Γ : Hp} {β : Nat → Pl} {B : Nat → List Nat} {a : Act} {w w' : World}

theorem Rel.put (h : Rel ρ S₀ base N fr Γ β B a w) {dst : Option Nat} {d : D} {v : Value} (hd : VD ρ w (Stands S₀ w Γ B) β d v) : Rel ρ S₀ base N (fr.put dst d) Γ β B (a.put dst v) w := by
  refine ⟨?_, ?_, fun i hi => ?_, h.roots, h.apart, h.inside, h.low, h.fresh⟩
  · cases dst <;> simp [Act.put, h.size]
  · cases dst <;> simp [Act.put, h.defers]
  · cases dst with
    | none => simpa [Act.put, Frm.put] using h.slots i hi
    | some j =>
      simp only [Act.put, Frm.put, Option.some.injEq]
      by_cases e : j = i
      · subst e
        have : j < a.tmps.size := by rw [h.size]; exact hi
        simpa [Array.getD_eq_getD_getElem?, this] using hd
      · have := h.slots i hi
        simpa [Array.getD_eq_getD_getElem?, e, Array.getElem?_setIfInBounds_ne e] using this

theorem Rel.grow (h : Rel ρ S₀ base N fr Γ β B a w) (hc : ∀ b, b < w.heap.size → w'.heap[b]? = w.heap[b]?) (hs : w.heap.size ≤ w'.heap.size) : Rel ρ S₀ base N fr Γ β B a w' := by
  have hS : ∀ b, Stands S₀ w Γ B b → Stands S₀ w' Γ B b := fun b hb => ⟨Nat.lt_of_lt_of_le hb.1 hs, hb.2, hb.3⟩
  exact ⟨h.size, h.defers, fun i hi => (h.slots i hi).mono hS (fun b hb => hc b hb.1) (fun _ => rfl),
    fun R c hR => (h.roots R c hR).mono hS (fun b hb => hc b hb.1) (fun b hb => hc b (h.inside R (by simp [hR]) b hb).2) (fun _ => rfl),
    h.apart, fun R hR b hb => ⟨(h.inside R hR b hb).1, Nat.lt_of_lt_of_le (h.inside R hR b hb).2 hs⟩, fun b hb => h.low b (Nat.le_trans hs hb), h.fresh⟩

/-- A variable is made (anew): its blocks are new; what stood stands. -/
theorem Rel.new (h : Rel ρ S₀ base N fr Γ β B a w) (R : Nat) (c : Cn) (q : Pl) (Bs : List Nat) (hc : ∀ b, b < w.heap.size → w'.heap[b]? = w.heap[b]?) (hs : w.heap.size ≤ w'.heap.size) 
    (hB : ∀ b ∈ Bs, w.heap.size ≤ b ∧ b < w'.heap.size)
    (hok : ∀ S' : Nat → Prop, (∀ b, Stands S₀ w Γ B b → S' b) → RootOK ρ w' S' (upd β R q) c q Bs) :
    Rel ρ S₀ base N (fr.purge R) (upd (Γ.purge R) R (some c)) (upd β R q) (upd B R Bs) a w' := by
  have hβ : ∀ R', R' ≠ R → upd β R q R' = β R' := fun R' hR => upd_other β q hR
  have hsome : ∀ R', R' ≠ R → ((upd (Γ.purge R) R (some c) R').isSome = true ↔ (Γ R').isSome = true) := fun R' hR => by simp [upd, hR, Hp.purge]
  have hS : ∀ b, Stands S₀ w Γ B b → Stands S₀ w' (upd (Γ.purge R) R (some c)) (upd B R Bs) b := fun b hb => ⟨Nat.lt_of_lt_of_le hb.1 hs, fun R' hR' => by
    by_cases e : R' = R
    · subst e
      rw [upd_same]
      intro hm
      have := (hB b hm).1
      have := hb.1
      omega
    · rw [upd_other _ _ e]
      exact hb.2 R' ((hsome R' e).1 hR'), hb.3⟩
  refine ⟨h.size, h.defers, fun i hi => ?_, fun R' c' hR' => ?_, fun R1 R2 hne h1 h2 b hb1 hb2 => ?_, fun R' hR' b hb => ?_, fun b hb => h.low b (Nat.le_trans hs hb), h.fresh⟩
  · exact ((h.slots i hi).purge (R := R) hβ).mono hS (fun b hb => hc b hb.1) (fun _ => rfl)
  · by_cases e : R' = R
    · subst e
      rw [upd_same] at hR'
      cases hR'
      rw [upd_same, upd_same]
      exact hok _ hS
    · rw [upd_other _ _ e] at hR'
      rw [upd_other _ _ e, upd_other _ _ e]
      cases hg : Γ R' with
      | none => simp [Hp.purge, hg] at hR'
      | some c0 =>
        simp only [Hp.purge, hg, Option.map_some, Option.some.injEq] at hR'
        subst hR'
        exact ((h.roots R' c0 hg).purge (R := R) hβ).mono hS (fun b hb => hc b hb.1) (fun b hb => hc b (h.inside R' (by simp [hg]) b hb).2) (fun _ => rfl)
  · by_cases e1 : R1 = R
    · subst e1
      have e2 : R2 ≠ R1 := Ne.symm hne
      rw [upd_same] at hb1
      rw [upd_other _ _ e2] at hb2
      have := (h.inside R2 ((hsome R2 e2).1 h2) b hb2).2
      have := (hB b hb1).1
      omega
    · by_cases e2 : R2 = R
      · subst e2
        rw [upd_same] at hb2
        rw [upd_other _ _ e1] at hb1
        have := (h.inside R1 ((hsome R1 e1).1 h1) b hb1).2
        have := (hB b hb2).1
        omega
      · rw [upd_other _ _ e1] at hb1
        rw [upd_other _ _ e2] at hb2
        exact h.apart R1 R2 hne ((hsome R1 e1).1 h1) ((hsome R2 e2).1 h2) b hb1 hb2
  · by_cases e : R' = R
    · subst e
      rw [upd_same] at hb
      exact ⟨h.low b (hB b hb).1, (hB b hb).2⟩
    · rw [upd_other _ _ e] at hb
      have := h.inside R' ((hsome R' e).1 hR') b hb
      exact ⟨this.1, Nat.lt_of_lt_of_le this.2 hs⟩

/-- A variable's content changes, in its own blocks. -/
theorem Rel.change (h : Rel ρ S₀ base N fr Γ β B a w) (R : Nat) (c c0 : Cn) (h0 : Γ R = some c0) (hs : w'.heap.size = w.heap.size) (hc : ∀ b, b ∉ B R → w'.heap[b]? = w.heap[b]?)
    (hok : RootOK ρ w' (Stands S₀ w Γ B) β c (β R) (B R)) : Rel ρ S₀ base N fr (upd Γ R (some c)) β B a w' := by
  have hsome : ∀ R', (upd Γ R (some c) R').isSome = (Γ R').isSome := fun R' => by
    by_cases e : R' = R
    · subst e; simp [h0]
    · rw [upd_other _ _ e]
  have hS : ∀ b, Stands S₀ w Γ B b → Stands S₀ w' (upd Γ R (some c)) B b := fun b hb => ⟨by rw [hs]; exact hb.1, fun R' hR' => hb.2 R' (by rw [← hsome]; exact hR'), hb.3⟩
  have hS0 : ∀ b, Stands S₀ w Γ B b → b ∉ B R := fun b hb => hb.2 R (by simp [h0])
  refine ⟨h.size, h.defers, fun i hi => ?_, fun R' c' hR' => ?_, fun R1 R2 hne h1 h2 => h.apart R1 R2 hne (by rw [← hsome]; exact h1) (by rw [← hsome]; exact h2), fun R' hR' b hb => ?_, by rw [hs]; exact h.low, h.fresh⟩
  · exact (h.slots i hi).mono hS (fun b hb => hc b (hS0 b hb)) (fun _ => rfl)
  · by_cases e : R' = R
    · subst e
      rw [upd_same] at hR'
      cases hR'
      exact hok.mono hS (fun _ _ => rfl) (fun _ _ => rfl) (fun _ => rfl)
    · rw [upd_other _ _ e] at hR'
      exact (h.roots R' c' hR').mono hS (fun b hb => hc b (hS0 b hb)) (fun b hb => hc b (h.apart R' R e (by simp [hR']) (by simp [h0]) b hb)) (fun _ => rfl)
  · rw [hs]
    exact h.inside R' (by rw [← hsome]; exact hR') b hb

/-- .. and the world grows. -/
theorem Rel.changeG (h : Rel ρ S₀ base N fr Γ β B a w) (R : Nat) (c c0 : Cn) (h0 : Γ R = some c0) (hs : w.heap.size ≤ w'.heap.size) (hc : ∀ b, b < w.heap.size → b ∉ B R → w'.heap[b]? = w.heap[b]?)
    (hok : RootOK ρ w' (Stands S₀ w Γ B) β c (β R) (B R)) : Rel ρ S₀ base N fr (upd Γ R (some c)) β B a w' := by
  have hsome : ∀ R', (upd Γ R (some c) R').isSome = (Γ R').isSome := fun R' => by
    by_cases e : R' = R
    · subst e; simp [h0]
    · rw [upd_other _ _ e]
  have hS : ∀ b, Stands S₀ w Γ B b → Stands S₀ w' (upd Γ R (some c)) B b := fun b hb => ⟨Nat.lt_of_lt_of_le hb.1 hs, fun R' hR' => hb.2 R' (by rw [← hsome]; exact hR'), hb.3⟩
  have hS0 : ∀ b, Stands S₀ w Γ B b → b ∉ B R := fun b hb => hb.2 R (by simp [h0])
  refine ⟨h.size, h.defers, fun i hi => ?_, fun R' c' hR' => ?_, fun R1 R2 hne h1 h2 => h.apart R1 R2 hne (by rw [← hsome]; exact h1) (by rw [← hsome]; exact h2), fun R' hR' b hb => ?_, fun b hb => h.low b (Nat.le_trans hs hb), h.fresh⟩
  · exact (h.slots i hi).mono hS (fun b hb => hc b hb.1 (hS0 b hb)) (fun _ => rfl)
  · by_cases e : R' = R
    · subst e
      rw [upd_same] at hR'
      cases hR'
      exact hok.mono hS (fun _ _ => rfl) (fun _ _ => rfl) (fun _ => rfl)
    · rw [upd_other _ _ e] at hR'
      exact (h.roots R' c' hR').mono hS (fun b hb => hc b hb.1 (hS0 b hb)) (fun b hb => hc b (h.inside R' (by simp [hR']) b hb).2 (h.apart R' R e (by simp [hR']) (by simp [h0]) b hb)) (fun _ => rfl)
  · have := h.inside R' (by rw [← hsome]; exact hR') b hb
    exact ⟨this.1, Nat.lt_of_lt_of_le this.2 hs⟩

/-- Slots are forgotten, variables are given up. -/
theorem Rel.keep (h : Rel ρ S₀ base N fr Γ β B a w) (fr' : Frm) (Γ' : Hp) (hf : ∀ i, fr' i = fr i ∨ fr' i = .undef) (hg : ∀ R, Γ' R = Γ R ∨ Γ' R = none) : Rel ρ S₀ base N fr' Γ' β B a w := by
  have hsome : ∀ R, (Γ' R).isSome = true → Γ' R = Γ R := fun R hR => by
    rcases hg R with e | e
    · exact e
    · rw [e] at hR; cases hR
  have hS : ∀ b, Stands S₀ w Γ B b → Stands S₀ w Γ' B b := fun b hb => ⟨hb.1, fun R hR => hb.2 R (by rw [← hsome R hR]; exact hR), hb.3⟩
  refine ⟨h.size, h.defers, fun i hi => ?_, fun R c hR => ?_, fun R1 R2 hne h1 h2 => h.apart R1 R2 hne (by rw [← hsome R1 h1]; exact h1) (by rw [← hsome R2 h2]; exact h2), fun R hR => h.inside R (by rw [← hsome R hR]; exact hR), h.low, h.fresh⟩
  · rcases hf i with e | e
    · rw [e]; exact (h.slots i hi).mono hS (fun _ _ => rfl) (fun _ => rfl)
    · rw [e]; exact .inl rfl
  · have e := hsome R (by simp [hR])
    exact (h.roots R c (by rw [← e]; exact hR)).mono hS (fun _ _ => rfl) (fun _ _ => rfl) (fun _ => rfl)
end
end Go.Proofs.YticokpflinlgbaaGreat.Am
