import Derived.Laws.Entries
import Derived.Laws.Slices
import Derived.ChangeKeysEq
import Derived.Test.YtboenehajoaahaaAmE
import Derived.Test.YtboenehajoaahaaAmDe
namespace Go.Proofs.Ytboenehajoaahaa.Am
open Go
section
variable {ρ : Nat → FuncId} {w w' : World} {S S' : Nat → Prop} {β β' : Nat → Lay}
theorem DCs.append {ds es : List D} {cs cs' : List Value} (h : DCs ρ w S β ds cs) (h' : DCs ρ w S β es cs') : DCs ρ w S β (ds ++ es) (cs ++ cs') := by
  induction h with
  | nil => exact h'
  | val h1 h ih => rw [List.cons_append, List.append_assoc]; exact .val h1 ih
  | agg h1 h ih1 ih => rw [List.cons_append, List.append_assoc]; exact .agg h1 ih
  | ref R p k part v v0 hv hs h ih => exact .ref R p k part v v0 hv hs ih
  | ptr R p b o hp h ih => exact .ptr R p b o hp ih
  | fnv r h1 hv h ih1 ih => exact .fnv r h1 hv ih
  | undef v h1 h ih => exact .undef v h1 ih
theorem DCs.cons_inv {d : D} {ds : List D} {cs : List Value} (h : DCs ρ w S β (d :: ds) cs) : ∃ c1 c2, cs = c1 ++ c2 ∧ c1.length = d.size ∧ DCs ρ w S β [d] c1 ∧ DCs ρ w S β ds c2 := by
  cases h with
  | val h1 h => exact ⟨_, _, rfl, by simp [h1.length, D.size], by have := DCs.val (β := β) h1 .nil; simpa using this, h⟩
  | agg h1 h => exact ⟨_, _, rfl, by rw [h1.length]; rfl, by have := DCs.agg h1 .nil; simpa using this, h⟩
  | ref R p k part v v0 hv hs h => exact ⟨[_], _, rfl, rfl, .ref R p k part v v0 hv hs .nil, h⟩
  | ptr R p b o hp h => exact ⟨[_], _, rfl, rfl, .ptr R p b o hp .nil, h⟩
  | fnv r h1 hv h => exact ⟨[_], _, rfl, rfl, .fnv r h1 hv .nil, h⟩
  | undef v h1 h => exact ⟨[_], _, rfl, rfl, .undef v h1 .nil, h⟩
theorem DCs.cons {d : D} {ds : List D} {c1 c2 : List Value} (h1 : DCs ρ w S β [d] c1) (h2 : DCs ρ w S β ds c2) : DCs ρ w S β (d :: ds) (c1 ++ c2) := h1.append h2
theorem DCs.split {ds es : List D} {cs : List Value} (h : DCs ρ w S β (ds ++ es) cs) : ∃ c1 c2, cs = c1 ++ c2 ∧ c1.length = dsizes ds ∧ DCs ρ w S β ds c1 ∧ DCs ρ w S β es c2 := by
  induction ds generalizing cs with
  | nil => exact ⟨[], cs, rfl, rfl, .nil, h⟩
  | cons d ds ih =>
    obtain ⟨c1, c2, rfl, hl, h1, h2⟩ := DCs.cons_inv h
    obtain ⟨c3, c4, rfl, hl2, h3, h4⟩ := ih h2
    exact ⟨c1 ++ c3, c4, by simp, by simp [hl, hl2], h1.append h3, h4⟩
theorem DCs.val_inv {u : U} {cs : List Value} (h : DCs ρ w S β [.val u] cs) : URs ρ w S [u] cs := by
  cases h with
  | val h1 h => cases h; simpa using h1
theorem DCs.of_val {u : U} {cs : List Value} (h : URs ρ w S [u] cs) : DCs ρ w S β [.val u] cs := by simpa using DCs.val (β := β) h .nil
theorem DCs.of_vals {us : List U} {cs : List Value} (h : URs ρ w S us cs) : DCs ρ w S β (us.map .val) cs := by
  induction us generalizing cs with
  | nil => cases h; exact .nil
  | cons u us ih =>
    obtain ⟨c1, c2, rfl, _, h1, h2⟩ := h.cons_inv
    exact (DCs.of_val h1).cons (ih h2)
theorem URs.agg_inv {us : List U} {cs : List Value} (h : URs ρ w S [.agg us] cs) : URs ρ w S us cs := by
  cases h with
  | agg h1 h => cases h; simpa using h1
theorem URs.of_agg {us : List U} {cs : List Value} (h : URs ρ w S us cs) : URs ρ w S [.agg us] cs := by simpa using URs.agg h .nil
theorem DCs.agg_inv {ds : List D} {cs : List Value} (h : DCs ρ w S β [.agg ds] cs) : DCs ρ w S β ds cs := by
  cases h with
  | agg h1 h => cases h; simpa using h1
theorem DCs.of_agg {ds : List D} {cs : List Value} (h : DCs ρ w S β ds cs) : DCs ρ w S β [.agg ds] cs := by simpa using DCs.agg h .nil
theorem URs.at_ {us : List U} {cs : List Value} {j : Nat} {u : U} (h : URs ρ w S us cs) (hj : us[j]? = some u) :
    ∃ c1 c2 c3, cs = c1 ++ c2 ++ c3 ∧ c1.length = sizes (us.take j) ∧ c2.length = u.size ∧ URs ρ w S (us.take j) c1 ∧ URs ρ w S [u] c2 ∧ URs ρ w S (us.drop (j + 1)) c3 := by
  obtain ⟨hlt, rfl⟩ := List.getElem?_eq_some_iff.1 hj
  have e : us = us.take j ++ (us[j] :: us.drop (j + 1)) := by simp
  rw [e] at h
  obtain ⟨c1, c2, rfl, hl, h1, h2⟩ := h.split
  obtain ⟨c3, c4, rfl, hl3, h3, h4⟩ := h2.cons_inv
  exact ⟨c1, c3, c4, by simp, hl, hl3, h1, h3, h4⟩
theorem DCs.at_ {ds : List D} {cs : List Value} {j : Nat} {d : D} (h : DCs ρ w S β ds cs) (hj : ds[j]? = some d) :
    ∃ c1 c2 c3, cs = c1 ++ c2 ++ c3 ∧ c1.length = dsizes (ds.take j) ∧ c2.length = d.size ∧ DCs ρ w S β (ds.take j) c1 ∧ DCs ρ w S β [d] c2 ∧ DCs ρ w S β (ds.drop (j + 1)) c3 := by
  obtain ⟨hlt, rfl⟩ := List.getElem?_eq_some_iff.1 hj
  have e : ds = ds.take j ++ (ds[j] :: ds.drop (j + 1)) := by simp
  rw [e] at h
  obtain ⟨c1, c2, rfl, hl, h1, h2⟩ := h.split
  obtain ⟨c3, c4, rfl, hl3, h3, h4⟩ := h2.cons_inv
  exact ⟨c1, c3, c4, by simp, hl, hl3, h1, h3, h4⟩
end
def takeConst : U → List Value → Option (List Value)
  | .int k n, .int k' n' :: vs => if k = k' ∧ n = n' then some vs else none
  | .bool b, .bool b' :: vs => if b = b' then some vs else none
  | .str s, .string s' :: vs => if s.data = s'.data then some vs else none
  | .nil, .pointer none :: vs => some vs
  | .nsl _, .slice none 0 0 :: vs => some vs
  | .agg us, vs => takeConsts us vs
  | _, _ => none
where takeConsts : List U → List Value → Option (List Value)
  | [], vs => some vs
  | u :: us, vs => (takeConst u vs).bind fun vs' => takeConsts us vs'
def isDone : Option (List Value) → Bool
  | some [] => true
  | _ => false
def constOK : Value → U → Bool
  | .agg cs, .agg us => isDone (takeConst (.agg us) cs.toList)
  | .agg _, _ => false
  | _, .agg _ => false
  | v, u => isDone (takeConst u [v])
def Fm.wd (F : Fm) : Nat × Nat := (F.off, F.N)
def opdOK (ρ : Nat → FuncId) (N : Nat × Nat) : Operand → Opd → Bool
  | .tmp n, .t m => N.1 + n == m && decide (n < N.2)
  | .const v, .c u => constOK v u
  | .func f, .c (.fn r []) => ρ r == f
  | _, _ => false
section
variable {ρ : Nat → FuncId} {w w' : World} {S S' : Nat → Prop} {β β' : Nat → Lay} {P : Program}
theorem Qho : ∀ (u : U) (vs rest : List Value), takeConst u vs = some rest → ∃ cs, vs = cs ++ rest ∧ URs ρ w S [u] cs
  | .int k n, vs, rest, h => by
    unfold takeConst at h
    split at h
    · rename_i k1 n1 k2 n2 vs1 e1
      cases e1
      by_cases hc : k = k2 ∧ n = n2
      · rw [if_pos hc] at h
        obtain ⟨rfl, rfl⟩ := hc
        cases h
        exact ⟨[_], rfl, .int _ _ .nil⟩
      · rw [if_neg hc] at h; cases h
    all_goals simp_all
  | .bool b, vs, rest, h => by
    unfold takeConst at h
    split at h <;> simp_all
    · obtain ⟨rfl, rfl⟩ := h
      exact ⟨[_], rfl, .bool _ .nil⟩
  | .str s, vs, rest, h => by
    unfold takeConst at h
    split at h <;> simp_all
    · rename_i s2 s' vs' e1
      obtain ⟨e, rfl⟩ := h
      have : s2 = s' := by cases s2; cases s'; simp_all
      subst this
      exact ⟨[_], rfl, .str _ .nil⟩
  | .nil, vs, rest, h => by
    unfold takeConst at h
    split at h <;> simp_all
    exact ⟨[_], rfl, .nilp .nil⟩
  | .nsl k, vs, rest, h => by
    unfold takeConst at h
    split at h <;> simp_all
    exact ⟨[_], rfl, .nsl _ .nil⟩
  | .agg us, vs, rest, h => by
    obtain ⟨cs, e, hc⟩ := go us vs rest (by simpa [takeConst] using h)
    exact ⟨cs, e, URs.of_agg hc⟩
  | .sl k us, vs, rest, h => by simp [takeConst] at h
  | .vp u, vs, rest, h => by simp [takeConst] at h
  | .raw u, vs, rest, h => by simp [takeConst] at h
  | .fn r us, vs, rest, h => by simp [takeConst] at h
  | .tup us, vs, rest, h => by simp [takeConst] at h
where go : ∀ (us : List U) (vs rest : List Value), takeConst.takeConsts us vs = some rest → ∃ cs, vs = cs ++ rest ∧ URs ρ w S us cs
  | [], vs, rest, h => by
    simp only [takeConst.takeConsts, Option.some.injEq] at h
    exact ⟨[], by simp [h], .nil⟩
  | u :: us, vs, rest, h => by
    simp only [takeConst.takeConsts] at h
    cases h1 : takeConst u vs with
    | none => simp [h1] at h
    | some vs' =>
      simp only [h1, Option.bind_some] at h
      obtain ⟨c1, e1, hc1⟩ := Qho u vs vs' h1
      obtain ⟨c2, e2, hc2⟩ := go us vs' rest h
      exact ⟨c1 ++ c2, by rw [e1, e2, List.append_assoc], hc1.append hc2⟩
theorem Qml {x : Option (List Value)} (h : isDone x = true) : x = some [] := by
  unfold isDone at h
  split at h
  · rfl
  · cases h
def UV (ρ : Nat → FuncId) (w : World) (S : Nat → Prop) (u : U) (v : Value) : Prop :=
  ∃ cs, URs ρ w S [u] cs ∧ (if (D.val u).isAgg then v = .agg cs.toArray else cs = [v])
theorem UV.v1 {u : U} {v : Value} (h : UV ρ w S u v) : V1 ρ w S β (.val u) v := by
  obtain ⟨cs, h1, h2⟩ := h
  exact .inr ⟨cs, DCs.of_val h1, h2⟩
theorem V1.uv {u : U} {v : Value} (h : V1 ρ w S β (.val u) v) : UV ρ w S u v := by
  rcases h with h | ⟨cs, h1, h2⟩
  · cases h
  · exact ⟨cs, h1.val_inv, h2⟩
theorem UV.noTup {u : U} {v : Value} (h : UV ρ w S u v) : ∀ us, u ≠ .tup us := by
  rintro us rfl
  obtain ⟨cs, h1, _⟩ := h
  cases h1
theorem Ql {u : U} {v : Value} (h : UV ρ w S u v) : VD ρ w S β (.val u) v := by
  have h2 := h.noTup
  unfold VD
  split
  · rename_i e; cases e
  · rename_i us e; cases e; exact absurd rfl (h2 us)
  · rename_i e; cases e
  · exact h.v1
theorem VD.uv {u : U} {v : Value} (h : VD ρ w S β (.val u) v) (hn : ∀ us, u ≠ .tup us) : UV ρ w S u v := by
  unfold VD at h
  split at h
  · rename_i e; cases e
  · rename_i us e; cases e; exact absurd rfl (hn us)
  · rename_i e; cases e
  · exact V1.uv h
theorem Qcw {v : Value} {u : U} (h : constOK v u = true) : UV ρ w S u v := by
  unfold constOK at h
  split at h
  · rename_i cs us
    obtain ⟨c, e, hc⟩ := Qho (ρ := ρ) (w := w) (S := S) _ _ _ (Qml h)
    rw [List.append_nil] at e
    exact ⟨c, hc, by simp [D.isAgg, ← e]⟩
  · cases h
  · cases h
  · rename_i h1 h2 h3
    obtain ⟨c, e, hc⟩ := Qho (ρ := ρ) (w := w) (S := S) _ _ _ (Qml h)
    rw [List.append_nil] at e
    refine ⟨c, hc, ?_⟩
    have : (D.val u).isAgg = false := by
      cases u <;> first | rfl | exact (h2 _ rfl).elim
    simp [this, ← e]
end
section
variable {ρ : Nat → FuncId} {base : Nat → Prop} {F : Fm} {fr : Frm} {S₀ : Nat → Prop} {Γ : Hp} {β : Nat → Lay} {B : Nat → List Nat} {a : Act} {w w' : World} {P : Program}
theorem Rel.opd (h : Rel ρ S₀ base F fr Γ β B a w) {x : Operand} {x' : Opd} (hx : opdOK ρ F.wd x x' = true) : VD ρ w (Stands S₀ w Γ B) β (x'.ev fr) (a.eval x) := by
  unfold opdOK at hx
  split at hx
  · simp only [Bool.and_eq_true, beq_iff_eq, decide_eq_true_eq] at hx
    obtain ⟨rfl, hlt⟩ := hx
    exact h.slots _ hlt
  · exact Ql (Qcw hx)
  · simp only [beq_iff_eq] at hx
    rename_i f r
    refine Ql ⟨[.func (.func (ρ r)) #[] #[]], ?_, by simp [D.isAgg, Act.eval, hx]⟩
    have := URs.fn (ρ := ρ) (w := w) (S := Stands S₀ w Γ B) (caps := []) (vs := []) r .nil (by simp) .nil
    simpa using this
  · cases hx
end
def tyAgg (P : Program) (t : TypeId) : Option Bool := match P.underlying t with
  | some (.struct _) | some (.array _ _) => some true
  | some _ => some false
  | none => none
def tySize (P : Program) (t : TypeId) : Option Nat := (P.info? t).map (·.size)
def tyElem (P : Program) (t : TypeId) : Option TypeId := match P.underlying t with
  | some (.slice e) => some e
  | _ => none
section
variable {P : Program} {w : World}
theorem Qa7 {t : TypeId} {n : Nat} (h : tySize P t = some n) : (sizeOf t).run P w = .ok n w := by
  unfold tySize at h
  cases hi : P.info? t with
  | none => simp [hi] at h
  | some i =>
    simp [hi] at h
    simp [sizeOf, typeInfo, hi, h]
theorem Qdw {t : TypeId} {b : Bool} (h : tyAgg P t = some b) : (isAgg t).run P w = .ok b w := by
  unfold tyAgg at h
  unfold isAgg
  cases hu : P.underlying t with
  | none => simp [hu] at h
  | some d =>
    rw [Sem.run_bind, run_underlying hu w]
    cases d <;> simp_all
theorem Qbo {t e : TypeId} (h : tyElem P t = some e) : P.underlying t = some (.slice e) := by
  unfold tyElem at h
  split at h
  · rename_i h2; cases h; exact h2
  · cases h
end
end Go.Proofs.Ytboenehajoaahaa.Am
