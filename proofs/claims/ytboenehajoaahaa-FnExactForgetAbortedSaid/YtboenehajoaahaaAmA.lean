import Derived.Deep.MidRow
import Derived.Laws.AppendOwn
import Derived.Below
namespace Go.Proofs.Ytboenehajoaahaa.Am
open Go
inductive U where
  | int (k : IntKind) (n : Int)
  | bool (b : Bool)
  | str (s : ByteArray)
  | nil
  | agg (us : List U)
  | sl (k : Nat) (us : List U)
  | nsl (k : Nat)
  | vp (u : U)
  | fn (r : Nat) (caps : List U)
  | tup (us : List U)
  | raw (v : Value)
  deriving Inhabited
def U.isVp : U → Bool
  | .vp _ => true
  | _ => false
def U.size : U → Nat
  | .agg us => sizes us
  | _ => 1
where sizes : List U → Nat
  | [] => 0
  | u :: us => u.size + sizes us
abbrev sizes := U.size.sizes
@[simp] theorem Qcn : sizes [] = 0 := rfl
@[simp] theorem Qaq (u : U) (us : List U) : sizes (u :: us) = u.size + sizes us := rfl
@[simp] theorem Qe7 (us : List U) : (U.agg us).size = sizes us := rfl
inductive URs (ρ : Nat → FuncId) (w : World) (S : Nat → Prop) : List U → List Value → Prop where
  | nil : URs ρ w S [] []
  | int {us cs} (k n) (h : URs ρ w S us cs) : URs ρ w S (.int k n :: us) (.int k n :: cs)
  | bool {us cs} (b) (h : URs ρ w S us cs) : URs ρ w S (.bool b :: us) (.bool b :: cs)
  | str {us cs} (s) (h : URs ρ w S us cs) : URs ρ w S (.str s :: us) (.string s :: cs)
  | raw {us cs} (v) (hv : v.oneCell' = true) (h : URs ρ w S us cs) : URs ρ w S (.raw v :: us) (v :: cs)
  | nilp {us cs} (h : URs ρ w S us cs) : URs ρ w S (.nil :: us) (.pointer none :: cs)
  | agg {fs us c1 cs} (h1 : URs ρ w S fs c1) (h : URs ρ w S us cs) : URs ρ w S (.agg fs :: us) (c1 ++ cs)
  | sl0 {us cs} (k a cap) (h : URs ρ w S us cs) : URs ρ w S (.sl k [] :: us) (.slice a 0 cap :: cs)
  | nsl {us cs} (k) (h : URs ρ w S us cs) : URs ρ w S (.nsl k :: us) (.slice none 0 0 :: cs)
  | sl1 {us cs xs c1} (k b off cap) (hne : xs ≠ []) (hb : S b) (hcap : xs.length ≤ cap) (hmax : cap ≤ maxLen) (hk : ∀ u ∈ xs, u.size = k) (hc : w.rangeAt b off c1)
      (h1 : URs ρ w S xs c1) (h : URs ρ w S us cs) : URs ρ w S (.sl k xs :: us) (.slice (some ⟨b, off, none⟩) xs.length cap :: cs)
  | vp {u us cs c1} (b off) (hb : S b) (hc : w.rangeAt b off c1) (h1 : URs ρ w S [u] c1) (h : URs ρ w S us cs) : URs ρ w S (.vp u :: us) (.pointer (some ⟨b, off, none⟩) :: cs)
  | fn {caps us cs vs} (r) (h1 : URs ρ w S caps vs) (hv : ∀ u ∈ caps, u.isVp = true) (h : URs ρ w S us cs) : URs ρ w S (.fn r caps :: us) (.func (.func (ρ r)) #[] vs.toArray :: cs)
section
variable {ρ : Nat → FuncId} {w w' : World} {S S' : Nat → Prop}
theorem URs.length {us : List U} {cs : List Value} (h : URs ρ w S us cs) : cs.length = sizes us := by
  induction h with
  | nil => rfl
  | agg h1 h ih1 ih => simp only [List.length_append, Qaq, Qe7, ih1, ih]
  | _ => simp_all [U.size, Nat.add_comm]
theorem URs.mono {us : List U} {cs : List Value} (h : URs ρ w S us cs) (hS : ∀ b, S b → S' b) (hc : ∀ b o v, S b → w.cell? ⟨b, o, none⟩ = some v → w'.cell? ⟨b, o, none⟩ = some v) : URs ρ w' S' us cs := by
  induction h with
  | nil => exact .nil
  | int k n h ih => exact .int k n ih
  | bool b h ih => exact .bool b ih
  | str s h ih => exact .str s ih
  | raw v hv h ih => exact .raw v hv ih
  | nilp h ih => exact .nilp ih
  | agg h1 h ih1 ih => exact .agg ih1 ih
  | sl0 k a cap h ih => exact .sl0 k a cap ih
  | nsl k h ih => exact .nsl k ih
  | sl1 k b off cap hne hb hcap hmax hk hr h1 h ih1 ih => exact .sl1 k b off cap hne (hS _ hb) hcap hmax hk (fun j v hv => hc _ _ _ hb (hr j v hv)) ih1 ih
  | vp b off hb hr h1 h ih1 ih => exact .vp b off (hS _ hb) (fun j v hv => hc _ _ _ hb (hr j v hv)) ih1 ih
  | fn r h1 hv h ih1 ih => exact .fn r ih1 hv ih
theorem URs.append {us vs : List U} {cs ds : List Value} (h : URs ρ w S us cs) (h' : URs ρ w S vs ds) : URs ρ w S (us ++ vs) (cs ++ ds) := by
  induction h with
  | nil => exact h'
  | int k n h ih => exact .int k n ih
  | bool b h ih => exact .bool b ih
  | str s h ih => exact .str s ih
  | raw v hv h ih => exact .raw v hv ih
  | nilp h ih => exact .nilp ih
  | agg h1 h ih1 ih => rw [List.cons_append, List.append_assoc]; exact .agg h1 ih
  | sl0 k a cap h ih => exact .sl0 k a cap ih
  | nsl k h ih => exact .nsl k ih
  | sl1 k b off cap hne hb hcap hmax hk hr h1 h ih1 ih => exact .sl1 k b off cap hne hb hcap hmax hk hr h1 ih
  | vp b off hb hr h1 h ih1 ih => exact .vp b off hb hr h1 ih
  | fn r h1 hv h ih1 ih => exact .fn r h1 hv ih
theorem URs.cons_inv {u : U} {us : List U} {cs : List Value} (h : URs ρ w S (u :: us) cs) : ∃ c1 c2, cs = c1 ++ c2 ∧ c1.length = u.size ∧ URs ρ w S [u] c1 ∧ URs ρ w S us c2 := by
  cases h with
  | int k n h => exact ⟨[_], _, rfl, rfl, .int k n .nil, h⟩
  | bool b h => exact ⟨[_], _, rfl, rfl, .bool b .nil, h⟩
  | str s h => exact ⟨[_], _, rfl, rfl, .str s .nil, h⟩
  | raw v hv h => exact ⟨[_], _, rfl, rfl, .raw v hv .nil, h⟩
  | nilp h => exact ⟨[_], _, rfl, rfl, .nilp .nil, h⟩
  | agg h1 h => exact ⟨_, _, rfl, by rw [h1.length]; rfl, by have := URs.agg h1 .nil; simpa using this, h⟩
  | sl0 k a cap h => exact ⟨[_], _, rfl, rfl, .sl0 k a cap .nil, h⟩
  | nsl k h => exact ⟨[_], _, rfl, rfl, .nsl k .nil, h⟩
  | sl1 k b off cap hne hb hcap hmax hk hr h1 h => exact ⟨[_], _, rfl, rfl, .sl1 k b off cap hne hb hcap hmax hk hr h1 .nil, h⟩
  | vp b off hb hr h1 h => exact ⟨[_], _, rfl, rfl, .vp b off hb hr h1 .nil, h⟩
  | fn r h1 hv h => exact ⟨[_], _, rfl, rfl, .fn r h1 hv .nil, h⟩
theorem URs.split {us vs : List U} {cs : List Value} (h : URs ρ w S (us ++ vs) cs) : ∃ c1 c2, cs = c1 ++ c2 ∧ c1.length = sizes us ∧ URs ρ w S us c1 ∧ URs ρ w S vs c2 := by
  induction us generalizing cs with
  | nil => exact ⟨[], cs, rfl, rfl, .nil, h⟩
  | cons u us ih =>
    obtain ⟨c1, c2, rfl, hl, h1, h2⟩ := URs.cons_inv h
    obtain ⟨c3, c4, rfl, hl2, h3, h4⟩ := ih h2
    exact ⟨c1 ++ c3, c4, by simp, by simp [hl, hl2], h1.append h3, h4⟩
theorem Qc9 {k : Nat} {us : List U} (hk : ∀ u ∈ us, u.size = k) : sizes us = us.length * k := by
  induction us with
  | nil => simp
  | cons u us ih =>
    simp only [Qaq, List.length_cons, Nat.succ_mul]
    rw [ih (fun v hv => hk v (by simp [hv])), hk u (by simp)]
    omega
theorem URs.elem {k i : Nat} {us : List U} {cs : List Value} {u : U} (h : URs ρ w S us cs) (hk : ∀ u ∈ us, u.size = k) (hi : us[i]? = some u) :
    ∃ c, c.length = k ∧ URs ρ w S [u] c ∧ ∀ j v, c[j]? = some v → cs[i * k + j]? = some v := by
  obtain ⟨hlt, rfl⟩ := List.getElem?_eq_some_iff.1 hi
  have e : us = us.take i ++ (us[i] :: us.drop (i + 1)) := by simp
  rw [e] at h
  obtain ⟨c1, c2, rfl, hl, _, h2⟩ := h.split
  obtain ⟨c3, c4, rfl, hl3, h3, _⟩ := h2.cons_inv
  have ht : sizes (us.take i) = i * k := by
    rw [Qc9 (k := k) (fun u hu => hk u (List.mem_of_mem_take hu)), List.length_take, Nat.min_eq_left (by omega)]
  refine ⟨c3, by rw [hl3]; exact hk _ (by simp), h3, fun j v hv => ?_⟩
  rw [← ht, ← hl, List.getElem?_append_right (by omega), Nat.add_sub_cancel_left, List.getElem?_append_left (List.getElem?_eq_some_iff.1 hv).1]
  exact hv
theorem URs.field {j : Nat} {us : List U} {cs : List Value} {u : U} (h : URs ρ w S us cs) (hi : us[j]? = some u) :
    ∃ c, c.length = u.size ∧ URs ρ w S [u] c ∧ ∀ i v, c[i]? = some v → cs[sizes (us.take j) + i]? = some v := by
  obtain ⟨hlt, rfl⟩ := List.getElem?_eq_some_iff.1 hi
  have e : us = us.take j ++ (us[j] :: us.drop (j + 1)) := by simp
  rw [e] at h
  obtain ⟨c1, c2, rfl, hl, _, h2⟩ := h.split
  obtain ⟨c3, c4, rfl, hl3, h3, _⟩ := h2.cons_inv
  refine ⟨c3, hl3, h3, fun i v hv => ?_⟩
  rw [← hl, List.getElem?_append_right (by omega), Nat.add_sub_cancel_left, List.getElem?_append_left (List.getElem?_eq_some_iff.1 hv).1]
  exact hv
theorem URs.oneCell {us : List U} {cs : List Value} (h : URs ρ w S us cs) : ∀ v ∈ cs, v.oneCell' = true := by
  induction h with
  | nil => simp
  | agg h1 h ih1 ih =>
    intro v hv
    rcases List.mem_append.1 hv with hv | hv
    · exact ih1 v hv
    · exact ih v hv
  | _ =>
    intro v hv
    rcases List.mem_cons.1 hv with rfl | hv
    · first | rfl | assumption
    · simp_all
end
end Go.Proofs.Ytboenehajoaahaa.Am
