import Derived.Orders
import Derived.Test.YtboenehajoaahaaAmR
namespace Go.Proofs.Ytboenehajoaahaa.Am
open Go Go.RowKit
section
variable {P : Program} {ops : Array Oper} {md : Region.Mode} {Q : Exit → Act → World → Prop} {C : World → Prop} {K : Act → Prop} {k : Nat}
def upto (n j : Nat) : Array Bool := Array.replicate j true ++ Array.replicate (n - j) false
def backB (md : Region.Mode) (ops : Array Oper) (k : Nat) : Bool := (List.range k).all fun i => ((ops[i]?).map fun o => o.after.all fun e => !Region.binds md e || decide (e.on < i)).getD false
def farB (md : Region.Mode) (ops : Array Oper) : Nat → Nat → Nat → Bool
  | 0, _, _ => false
  | f + 1, j, i => ((ops[j]?).map fun o => o.after.any fun e => Region.binds md e && (e.on == i || farB md ops f e.on i)).getD false
def coverB (md : Region.Mode) (ops : Array Oper) (k : Nat) : Bool := (List.range (ops.size - k)).all fun d => (List.range k).all fun i => farB md ops ops.size (k + d) i
def forcedB (md : Region.Mode) (ops : Array Oper) (k : Nat) : Bool := ((List.range (ops.size - k)).all fun d => Region.ready md ops (upto ops.size (k + d)) == [k + d])
theorem Qye {n j : Nat} (h : j < n) : (upto n j).setIfInBounds j true = upto n (j + 1) := by
  have e : n - j = (n - (j + 1)) + 1 := by omega
  apply Array.ext'
  simp only [upto, e, Array.toList_setIfInBounds, Array.toList_append, Array.toList_replicate, List.replicate_succ]
  rw [List.set_append_right _ _ (by simp)]
  simp only [List.length_replicate, Nat.sub_self, List.set_cons_zero]
  rw [← List.replicate_succ, List.replicate_succ', List.append_assoc]
  rfl
theorem Qaan {n j i : Nat} : (upto n j).getD i true = true ↔ i < j ∨ n ≤ i ∧ j ≤ n ∨ n ≤ j := by
  simp only [upto, Array.getD_eq_getD_getElem?, Array.getElem?_append, Array.getElem?_replicate, Array.size_replicate]
  split
  · simp; omega
  · split
    · simp; omega
    · simp; omega
theorem Qaam {n j i : Nat} (h : (upto n j).getD i true = false) : j ≤ i ∧ i < n := by
  have : ¬ ((upto n j).getD i true = true) := by rw [h]; simp
  rw [Qaan] at this
  omega
theorem Qxn {n : Nat} (hn : ops.size = n) : Region.ready md ops (upto n n) = [] := by
  cases hr : Region.ready md ops (upto n n) with
  | nil => rfl
  | cons j rest =>
    have hj : j ∈ Region.ready md ops (upto n n) := by rw [hr]; simp
    obtain ⟨h0, _⟩ := mem_ready.1 hj
    have := Qaam h0
    omega
theorem Qdy (hf : forcedB md ops k = true) : ∀ (m j : Nat), j + m = ops.size → k ≤ j → ∀ (fuel : Nat) (a : Act) (w : World), m ≤ fuel → wpOps P ops Q (List.range' j m) a w → wpAny P md ops Q fuel (upto ops.size j) a w := by
  simp only [forcedB, List.all_eq_true, List.mem_range, beq_iff_eq] at hf
  have h1 := hf
  intro m
  induction m with
  | zero =>
    intro j hj hk fuel a w _ h
    obtain rfl : j = ops.size := by omega
    exact wpAny_done (Qxn rfl) h fuel
  | succ m ih =>
    intro j hj hk fuel a w hfu h
    cases fuel with
    | zero => omega
    | succ fuel =>
      have hr : Region.ready md ops (upto ops.size j) = [j] := by
        have := h1 (j - k) (by omega)
        rwa [show k + (j - k) = j by omega] at this
      refine wpAny_all hr (by simp) fun i hi => ?_
      obtain rfl : i = j := by simpa using hi
      rw [List.range'_succ, wpOps_cons] at h
      refine wpOp_mono (fun a w h' => ?_) h
      rw [Qye (by omega)]
      exact ih (i + 1) (by omega) (by omega) fuel a w (by omega) h'
def Down (md : Region.Mode) (ops : Array Oper) (l : Array Bool) : Prop := ∀ (i : Nat) (o : Oper), l.getD i false = true → ops[i]? = some o → ∀ e ∈ o.after, Region.binds md e = true → l.getD e.on false = true
theorem Qga {l : Array Bool} (hd : Down md ops l) {i : Nat} : ∀ (f j : Nat), farB md ops f j i = true → l.getD j false = true → l.getD i false = true
  | 0, _, h, _ => by cases h
  | f + 1, j, h, hj => by
    simp only [farB] at h
    cases ho : ops[j]? with
    | none => simp [ho] at h
    | some o =>
      simp only [ho, Option.map_some, Option.getD_some, Array.any_eq_true, Bool.and_eq_true, Bool.or_eq_true, beq_iff_eq] at h
      obtain ⟨x, hx, hb, h⟩ := h
      have hl := hd j o hj ho o.after[x] (Array.getElem_mem hx) hb
      rcases h with h | h
      · rw [← h]; exact hl
      · exact Qga hd f _ h hl
theorem Qbk {l : Array Bool} (hd : Down md ops l) {f j i : Nat} {o : Oper} (ho : ops[j]? = some o) (hall : ∀ e ∈ o.after, Region.binds md e = true → l.getD e.on false = true) (h : farB md ops f j i = true) : l.getD i false = true := by
  cases f with
  | zero => cases h
  | succ f =>
    simp only [farB, ho, Option.map_some, Option.getD_some, Array.any_eq_true, Bool.and_eq_true, Bool.or_eq_true, beq_iff_eq] at h
    obtain ⟨x, hx, hb, h⟩ := h
    have hl := hall o.after[x] (Array.getElem_mem hx) hb
    rcases h with h | h
    · rw [← h]; exact hl
    · exact Qga hd f _ h hl
theorem Qee {l : Array Bool} (hb : backB md ops k = true) (hk : k ≤ ops.size) : ∀ (n i : Nat), i = n → i < k → l.getD i false = false → ∃ j, j < k ∧ l.getD j false = false ∧ ∃ o, ops[j]? = some o ∧ ∀ e ∈ o.after, Region.binds md e = true → l.getD e.on false = true ∧ e.on < k := by
  intro n
  induction n using Nat.strongRecOn with
  | _ n ih =>
    intro i hi hik hl
    subst hi
    by_cases hlow : ∃ j, j < i ∧ l.getD j false = false
    · obtain ⟨j, h1, h2⟩ := hlow
      exact ih j h1 j rfl (by omega) h2
    · simp only [backB, List.all_eq_true, List.mem_range] at hb
      have h1 := hb i hik
      have hlt : i < ops.size := by omega
      have ho : ops[i]? = some ops[i] := by simp [hlt]
      simp only [ho, Option.map_some, Option.getD_some, Array.all_eq_true, Bool.or_eq_true, Bool.not_eq_true', decide_eq_true_eq] at h1
      refine ⟨i, hik, hl, ops[i], ho, fun e he hbd => ?_⟩
      obtain ⟨x, hx, rfl⟩ := Array.getElem_of_mem he
      have h2 : (ops[i].after[x]).on < i := by
        rcases h1 x hx with h3 | h3
        · rw [hbd] at h3; cases h3
        · exact h3
      refine ⟨?_, by omega⟩
      cases hv : l.getD (ops[i].after[x]).on false with
      | true => rfl
      | false => exact absurd ⟨_, h2, hv⟩ hlow
theorem Qac {l : Array Bool} {m i : Nat} {d : Bool} (hi : i < l.size) : (l ++ Array.replicate m false).getD i d = l.getD i d := by
  simp [Array.getD_eq_getD_getElem?, Array.getElem?_append_left hi]
theorem Qep {l : Array Bool} {m i : Nat} (hi : l.size ≤ i) : (l ++ Array.replicate m false).getD i false = false := by
  rw [Array.getD_eq_getD_getElem?, Array.getElem?_append_right hi]
  simp only [Array.getElem?_replicate]
  split <;> rfl
theorem Qbu {l : Array Bool} {i : Nat} (hi : i < l.size) : l.getD i true = l.getD i false := by
  simp [Array.getD_eq_getD_getElem?, hi]
end
def AOper.uses (o : AOper) : List Nat := o.op.uses ++ match o.guard with
  | some (g, _) => [g]
  | none => []
section
variable {α : Type} {E : Env} {fr fr' : Frm} {Γ : Hp}
theorem Qb {x : Opd} (h : ∀ t ∈ x.use, fr t = fr' t) : x.ev fr = x.ev fr' := by
  cases x with
  | t n => exact h n (by simp [Opd.use])
  | c u => rfl
theorem Qbg {xs : List Opd} (h : ∀ t ∈ xs.flatMap Opd.use, fr t = fr' t) : evs fr xs = evs fr' xs := by
  induction xs with
  | nil => rfl
  | cons x xs ih =>
    simp only [List.flatMap_cons, List.mem_append] at h
    simp only [evs, List.map_cons]
    rw [Qb (fun t ht => h t (.inl ht))]
    congr 1
    exact ih fun t ht => h t (.inr ht)
theorem Qgv {parts : List (Nat × Opd)} (h : ∀ t ∈ parts.flatMap (fun p => p.2.use), fr t = fr' t) (K : List D → Option α) : ∀ ds, setParts fr K ds parts = setParts fr' K ds parts := by
  induction parts with
  | nil => intro ds; rfl
  | cons p parts ih =>
    obtain ⟨i, x⟩ := p
    simp only [List.flatMap_cons, List.mem_append] at h
    intro ds
    simp only [setParts, Qb (x := x) (fun t ht => h t (.inl ht)), ih (fun t ht => h t (.inr ht))]
theorem Qna {x : Option Opd} (h : ∀ t ∈ (x.map Opd.use).getD [], fr t = fr' t) (K : Option Int → Option α) : optInt fr x K = optInt fr' x K := by
  cases x with
  | none => rfl
  | some x => simp only [optInt, Qb (x := x) (fun t ht => h t (by simpa using ht))]
theorem Qv9 {xs : List Opd} (h : ∀ t ∈ xs.flatMap Opd.use, fr t = fr' t) : ∀ K : List Int → Option α, intsOf fr xs K = intsOf fr' xs K := by
  induction xs with
  | nil => intro K; rfl
  | cons x xs ih =>
    simp only [List.flatMap_cons, List.mem_append] at h
    intro K
    simp only [intsOf, Qb (x := x) (fun t ht => h t (.inl ht)), ih (fun t ht => h t (.inr ht))]
theorem Qbn {op : AOp} (h : ∀ t ∈ op.uses, fr t = fr' t) (K : Eff → Option α) : op.step E fr Γ K = op.step E fr' Γ K := by
  cases op with
  | alloc nm z => rfl
  | bad => rfl
  | allocJ nm => rfl
  | build z parts => exact Qgv h _ _
  | buildL z parts => exact Qgv h _ _
  | bslice mode nm k n z parts => simp only [AOp.step]; rw [Qgv h]
  | mkfn r caps => simp only [AOp.step, Qbg h]
  | call fl r args => simp only [AOp.step, Qbg h]
  | callv fl f args =>
    simp only [AOp.uses, List.mem_append] at h
    simp only [AOp.step, Qb (x := f) (fun t ht => h t (.inl ht)), Qbg (xs := args) (fun t ht => h t (.inr ht))]
  | callF nm tup ss r args => simp only [AOp.step, Qbg h]
  | callM k r x args =>
    simp only [AOp.uses, List.mem_append] at h
    simp only [AOp.step, Qb (x := x) (fun t ht => h t (.inl ht)), Qbg (xs := args) (fun t ht => h t (.inr ht))]
  | callC nm k r x args =>
    simp only [AOp.uses, List.mem_append] at h
    simp only [AOp.step, Qb (x := x) (fun t ht => h t (.inl ht)), Qbg (xs := args) (fun t ht => h t (.inr ht))]
  | callI nm k r x i y =>
    simp only [AOp.uses, List.mem_append] at h
    simp only [AOp.step, Qb (x := x) (fun t ht => h t (.inl ht)), Qb (x := i) (fun t ht => h t (.inr (.inl ht))), Qb (x := y) (fun t ht => h t (.inr (.inr ht)))]
  | callP sh r x args =>
    simp only [AOp.uses, List.mem_append] at h
    simp only [AOp.step, Qb (x := x) (fun t ht => h t (.inl ht)), Qbg (xs := args) (fun t ht => h t (.inr ht))]
  | callL sh r x args =>
    simp only [AOp.uses, List.mem_append] at h
    simp only [AOp.step, Qb (x := x) (fun t ht => h t (.inl ht)), Qbg (xs := args) (fun t ht => h t (.inr ht))]
  | clear k z x => simp only [AOp.step, Qb (x := x) h]
  | sliceO nm k x y =>
    simp only [AOp.uses, List.mem_append] at h
    simp only [AOp.step, Qb (x := x) (fun t ht => h t (.inl ht)), Qb (x := y) (fun t ht => h t (.inr ht))]
  | minmax mx xs => exact Qv9 h _
  | slice str k x lo hi =>
    simp only [AOp.uses, List.mem_append] at h
    simp only [AOp.step, Qb (x := x) (fun t ht => h t (.inl (.inl ht))), Qna (x := lo) (fun t ht => h t (.inl (.inr ht))), Qna (x := hi) (fun t ht => h t (.inr ht))]
  | mv x => simp only [AOp.step, Qb (x := x) h]
  | box fz nm x => simp only [AOp.step, Qb (x := x) h]
  | boxS nm x => simp only [AOp.step, Qb (x := x) h]
  | boxN n nm x => simp only [AOp.step, Qb (x := x) h]
  | load ag sz x => simp only [AOp.step, Qb (x := x) h]
  | loadO sh x => simp only [AOp.step, Qb (x := x) h]
  | loadN n sz x => simp only [AOp.step, Qb (x := x) h]
  | slice0 nm k x => simp only [AOp.step, Qb (x := x) h]
  | nilck x => simp only [AOp.step, Qb (x := x) h]
  | un op x => simp only [AOp.step, Qb (x := x) h]
  | eqnil neg x => simp only [AOp.step, Qb (x := x) h]
  | conv k x => simp only [AOp.step, Qb (x := x) h]
  | faddr j o x => simp only [AOp.step, Qb (x := x) h]
  | field a b c d x => simp only [AOp.step, Qb (x := x) h]
  | extract j x => simp only [AOp.step, Qb (x := x) h]
  | len str x => simp only [AOp.step, Qb (x := x) h]
  | pick x y z =>
    simp only [AOp.uses, List.mem_append] at h
    simp only [AOp.step, Qb (x := x) (fun t ht => h t (.inl (.inl ht))), Qb (x := y) (fun t ht => h t (.inl (.inr ht))), Qb (x := z) (fun t ht => h t (.inr ht))]
  | store n x y =>
    simp only [AOp.uses, List.mem_append] at h
    simp only [AOp.step, Qb (x := x) (fun t ht => h t (.inl ht)), Qb (x := y) (fun t ht => h t (.inr ht))]
  | copy x y =>
    simp only [AOp.uses, List.mem_append] at h
    simp only [AOp.step, Qb (x := x) (fun t ht => h t (.inl ht)), Qb (x := y) (fun t ht => h t (.inr ht))]
  | storeS n x y ps =>
    simp only [AOp.uses, List.mem_append] at h
    simp only [AOp.step, Qb (x := x) (fun t ht => h t (.inl (.inl ht))), Qb (x := y) (fun t ht => h t (.inl (.inr ht))), Qbg (fun t ht => h t (.inr ht))]
  | storeN nm n x y =>
    simp only [AOp.uses, List.mem_append] at h
    simp only [AOp.step, Qb (x := x) (fun t ht => h t (.inl ht)), Qb (x := y) (fun t ht => h t (.inr ht))]
  | storeE n x y =>
    simp only [AOp.uses, List.mem_append] at h
    simp only [AOp.step, Qb (x := x) (fun t ht => h t (.inl ht)), Qb (x := y) (fun t ht => h t (.inr ht))]
  | storeM nm n x y =>
    simp only [AOp.uses, List.mem_append] at h
    simp only [AOp.step, Qb (x := x) (fun t ht => h t (.inl ht)), Qb (x := y) (fun t ht => h t (.inr ht))]
  | bin n x y =>
    simp only [AOp.uses, List.mem_append] at h
    simp only [AOp.step, Qb (x := x) (fun t ht => h t (.inl ht)), Qb (x := y) (fun t ht => h t (.inr ht))]
  | eqv n c x y =>
    simp only [AOp.uses, List.mem_append] at h
    simp only [AOp.step, Qb (x := x) (fun t ht => h t (.inl ht)), Qb (x := y) (fun t ht => h t (.inr ht))]
  | mkslice nm k b z x y =>
    simp only [AOp.uses, List.mem_append] at h
    simp only [AOp.step, Qb (x := x) (fun t ht => h t (.inl ht)), Qb (x := y) (fun t ht => h t (.inr ht))]
  | iaddr k x y =>
    simp only [AOp.uses, List.mem_append] at h
    simp only [AOp.step, Qb (x := x) (fun t ht => h t (.inl ht)), Qb (x := y) (fun t ht => h t (.inr ht))]
  | aaddr n k x y =>
    simp only [AOp.uses, List.mem_append] at h
    simp only [AOp.step, Qb (x := x) (fun t ht => h t (.inl ht)), Qb (x := y) (fun t ht => h t (.inr ht))]
  | idxs x y =>
    simp only [AOp.uses, List.mem_append] at h
    simp only [AOp.step, Qb (x := x) (fun t ht => h t (.inl ht)), Qb (x := y) (fun t ht => h t (.inr ht))]
  | idxa a b c d x y =>
    simp only [AOp.uses, List.mem_append] at h
    simp only [AOp.step, Qb (x := x) (fun t ht => h t (.inl ht)), Qb (x := y) (fun t ht => h t (.inr ht))]
  | append mv nm k b x y =>
    simp only [AOp.uses, List.mem_append] at h
    cases mv <;> simp only [AOp.step, Qb (x := x) (fun t ht => h t (.inl ht)), Qb (x := y) (fun t ht => h t (.inr ht))]
def AOper.value (o : AOper) (E : Env) (fr : Frm) (Γ : Hp) (Kd : D → Option α) : Option α :=
  match o.guard with
  | none => o.op.step E fr Γ (Eff.value Kd)
  | some (g, want) => match fr g with
    | .skip => Kd .skip
    | .val (.bool b) => if b = want then o.op.step E fr Γ (Eff.value Kd) else Kd .skip
    | _ => none
theorem Qpm {o : AOper} (h : ∀ t ∈ o.uses, fr t = fr' t) (Kd : D → Option α) : o.value E fr Γ Kd = o.value E fr' Γ Kd := by
  unfold AOper.uses at h
  unfold AOper.value
  cases hg : o.guard with
  | none =>
    simp only [hg, List.append_nil] at h
    exact Qbn h _
  | some gw =>
    obtain ⟨g, want⟩ := gw
    simp only [hg, List.mem_append, List.mem_singleton] at h
    have h1 := h g (.inr rfl)
    simp only [h1, Qbn (op := o.op) (fun t ht => h t (.inl ht))]
theorem Qo3 {op : AOp} {K K' : Eff → Option α} {r : α} (h : op.step E fr Γ K = some r) (hK : ∀ e, K e = some r → K' e = some r) : op.step E fr Γ K' = some r := by
  obtain ⟨e, he, h1⟩ := Qay E op fr Γ K r h
  exact h1 K' (hK e he)
theorem Qqz {o : AOper} {s : St} {K : St → Option α} {r : α} (h : o.exec true E s K = some r) : o.value E s.fr s.Γ (fun d => K ⟨s.fr.put o.dst d, s.Γ⟩) = some r := by
  have go : (o.op.step E s.fr s.Γ fun e => e.apply true o.dst s K) = some r → o.op.step E s.fr s.Γ (Eff.value fun d => K ⟨s.fr.put o.dst d, s.Γ⟩) = some r := fun h => Qo3 h fun e he => by
    cases e with
    | v d => exact he
    | vnew u => exact he
    | cl fl u => exact he
    | st ms d g => simp only [Eff.apply] at he; cases he
  unfold AOper.exec at h
  unfold AOper.value
  cases hg : o.guard with
  | none => rw [hg] at h; exact go h
  | some gw =>
    obtain ⟨g, want⟩ := gw
    rw [hg] at h
    dsimp only at h ⊢
    cases hs : s.fr g with
    | skip => rw [hs] at h; exact h
    | val u =>
      rw [hs] at h
      cases u with
      | bool b =>
        simp only [U.asBool] at h
        cases b with
        | true =>
          simp only [Qdv hs] at h
          cases want
          · simpa using h
          · simpa using go (by simpa using h)
        | false =>
          simp only [Qdv hs] at h
          cases want
          · simpa using go (by simpa using h)
          · simpa using h
      | _ => cases h
    | _ => rw [hs] at h; cases h
theorem Qpo {o : AOper} {s : St} {K : St → Option α} {r : α} (h : o.value E s.fr s.Γ (fun d => K ⟨s.fr.put o.dst d, s.Γ⟩) = some r) : o.exec false E s K = some r := by
  have go : o.op.step E s.fr s.Γ (Eff.value fun d => K ⟨s.fr.put o.dst d, s.Γ⟩) = some r → (o.op.step E s.fr s.Γ fun e => e.apply false o.dst s K) = some r := fun h => Qo3 h fun e he => by
    cases e with
    | v d => exact he
    | vnew u => exact he
    | cl fl u => exact he
    | st ms d g => cases he
  unfold AOper.value at h
  unfold AOper.exec
  cases hg : o.guard with
  | none => rw [hg] at h; exact go h
  | some gw =>
    obtain ⟨g, want⟩ := gw
    rw [hg] at h
    dsimp only at h ⊢
    cases hs : s.fr g with
    | skip => rw [hs] at h; exact h
    | val u =>
      rw [hs] at h
      cases u with
      | bool b =>
        simp only [U.asBool]
        cases b with
        | true =>
          simp only [Qdv hs]
          cases want
          · simpa using h
          · simpa using go (by simpa using h)
        | false =>
          simp only [Qdv hs]
          cases want
          · simpa using go (by simpa using h)
          · simpa using h
      | _ => cases h
    | _ => rw [hs] at h; cases h
theorem Qhx {o : AOper} {Kd : D → Option α} {r : α} (h : o.value E fr Γ Kd = some r) : ∃ d, Kd d = some r ∧ ∀ Kd' : D → Option α, Kd' d = some r → o.value E fr Γ Kd' = some r := by
  have go : o.op.step E fr Γ (Eff.value Kd) = some r → ∃ d, Kd d = some r ∧ ∀ Kd' : D → Option α, Kd' d = some r → o.op.step E fr Γ (Eff.value Kd') = some r := fun h => by
    obtain ⟨e, he, h1⟩ := Qay E o.op fr Γ _ r h
    cases e with
    | v d => exact ⟨d, he, fun Kd' h' => h1 _ h'⟩
    | vnew u => exact ⟨_, he, fun Kd' h' => h1 _ h'⟩
    | cl fl u => exact ⟨_, he, fun Kd' h' => h1 _ h'⟩
    | st ms d g => cases he
  unfold AOper.value at h ⊢
  split at h
  · exact go h
  · split at h
    · exact ⟨_, h, fun _ h => h⟩
    · split at h
      · rename_i hb
        simp only [hb, if_true]
        exact go h
      · rename_i hb
        simp only [hb, if_false]
        exact ⟨_, h, fun _ h => h⟩
    · cases h
end
def nearB (md : Region.Mode) (ops : Array Oper) (j i : Nat) : Bool :=
  (((ops[j]?).map fun o => o.after.any fun e => Region.binds md e && e.on == i).getD false) || farB md ops ops.size j i
def laterB (md : Region.Mode) (ops : Array Oper) (j t : Nat) : Nat → List AOper → Bool
  | _, [] => true
  | i, o :: os => (o.dst != some t || (decide (j < i) && nearB md ops i j)) && laterB md ops j t (i + 1) os
theorem Qmr {md : Region.Mode} {ops : Array Oper} {j t : Nat} : ∀ (os : List AOper) (i : Nat), laterB md ops j t i os = true → ∀ (m : Nat) (o : AOper), os[m]? = some o → o.dst = some t → j < i + m ∧ nearB md ops (i + m) j = true
  | [], _, _, m, o, ho, _ => by simp at ho
  | o1 :: os, i, h, m, o, ho, hd => by
    simp only [laterB, Bool.and_eq_true, Bool.or_eq_true, bne_iff_ne, decide_eq_true_eq] at h
    cases m with
    | zero =>
      simp only [List.getElem?_cons_zero, Option.some.injEq] at ho
      subst ho
      rcases h.1 with h1 | h1
      · exact absurd hd h1
      · exact h1
    | succ m =>
      have := Qmr os (i + 1) h.2 m o (by simpa using ho) hd
      rw [show i + (m + 1) = i + 1 + m by omega]
      exact this
def ssaB (md : Region.Mode) (ops : Array Oper) : Nat → List AOper → (Nat → Option Nat) → Bool
  | _, [], _ => true
  | j, o :: os, seen =>
    (o.uses.all fun t => match seen t with
      | some i => nearB md ops j i
      | none => laterB md ops j t j (o :: os)) &&
    (match o.dst with
      | some x => (seen x).isNone
      | none => true) && ssaB md ops (j + 1) os (fun x => if o.dst = some x then some j else seen x)
theorem Qfc {md : Region.Mode} {ops : Array Oper} : ∀ (os : List AOper) (j : Nat) (seen : Nat → Option Nat), ssaB md ops j os seen = true → ∀ (m : Nat) (o : AOper), os[m]? = some o →
    (∀ t ∈ o.uses, (∀ i, seen t = some i → nearB md ops (j + m) i = true) ∧ ∀ (m' : Nat) (o' : AOper), os[m']? = some o' → o'.dst = some t → (seen t).isSome = true ∨ (m' < m ∧ nearB md ops (j + m) (j + m') = true) ∨ (m < m' ∧ nearB md ops (j + m') (j + m) = true)) ∧
    (∀ x, o.dst = some x → seen x = none ∧ ∀ (m' : Nat) (o' : AOper), m' < m → os[m']? = some o' → o'.dst ≠ some x)
  | [], _, _, _, m, o, ho => by simp at ho
  | o1 :: os, j, seen, h, m, o, ho => by
    simp only [ssaB, Bool.and_eq_true, List.all_eq_true] at h
    obtain ⟨⟨h1, h2⟩, h3⟩ := h
    have hx1 : ∀ x, o1.dst = some x → seen x = none := fun x hx => by
      rw [hx] at h2
      simpa using h2
    cases m with
    | zero =>
      simp only [List.getElem?_cons_zero, Option.some.injEq] at ho
      subst ho
      refine ⟨fun t ht => ?_, fun x hx => ⟨hx1 x hx, fun m' o' hm' => by omega⟩⟩
      have h4 := h1 t ht
      refine ⟨fun i hi => by rw [hi] at h4; exact h4, fun m' o' ho' hd => ?_⟩
      cases hs : seen t with
      | some i => exact .inl rfl
      | none =>
        rw [hs] at h4
        have := Qmr _ _ h4 m' o' ho' hd
        exact .inr (.inr ⟨by omega, by simpa using this.2⟩)
    | succ m =>
      simp only [List.getElem?_cons_succ] at ho
      obtain ⟨a1, a2⟩ := Qfc os (j + 1) _ h3 m o ho
      have e : j + 1 + m = j + (m + 1) := by omega
      refine ⟨fun t ht => ?_, fun x hx => ?_⟩
      · obtain ⟨b1, b2⟩ := a1 t ht
        refine ⟨fun i hi => ?_, fun m' o' ho' hd => ?_⟩
        · have : o1.dst ≠ some t := fun e1 => by rw [hx1 t e1] at hi; cases hi
          rw [← e]
          exact b1 i (by simp only [this, if_false]; exact hi)
        · cases m' with
          | zero =>
            simp only [List.getElem?_cons_zero, Option.some.injEq] at ho'
            subst ho'
            right
            left
            refine ⟨by omega, ?_⟩
            rw [← e]
            exact b1 j (by simp only [hd, if_true])
          | succ m' =>
            simp only [List.getElem?_cons_succ] at ho'
            rcases b2 m' o' ho' hd with h5 | ⟨h5, h6⟩ | ⟨h5, h6⟩
            · by_cases e1 : o1.dst = some t
              · -- o1 writes t, and so does o': not both
                exfalso
                have := (Qfc os (j + 1) _ h3 m' o' ho').2 t hd
                simp only [e1, if_true] at this
                exact absurd this.1 (by simp)
              · simp only [e1, if_false] at h5
                exact .inl h5
            · exact .inr (.inl ⟨by omega, by rw [← e, show j + (m' + 1) = j + 1 + m' by omega]; exact h6⟩)
            · exact .inr (.inr ⟨by omega, by rw [← e, show j + (m' + 1) = j + 1 + m' by omega]; exact h6⟩)
      · obtain ⟨b1, b2⟩ := a2 x hx
        by_cases e1 : o1.dst = some x
        · simp only [e1, if_true] at b1; cases b1
        · simp only [e1, if_false] at b1
          refine ⟨b1, fun m' o' hm' ho' => ?_⟩
          cases m' with
          | zero =>
            simp only [List.getElem?_cons_zero, Option.some.injEq] at ho'
            subst ho'
            exact e1
          | succ m' => exact b2 m' o' (by omega) (by simpa using ho')
def putsL : Nat → List AOper → List D → (Nat → Bool) → Frm → Frm
  | j, o :: os, d :: ds, l, fr => putsL (j + 1) os ds l (if l j = true then fr.put o.dst d else fr)
  | _, _, _, _, fr => fr
theorem Qai : ∀ (os : List AOper) (ds : List D) (j : Nat) (l : Nat → Bool) (fr : Frm) (t : Nat), (∀ (m : Nat) (o : AOper), os[m]? = some o → l (j + m) = true → o.dst ≠ some t) → putsL j os ds l fr t = fr t
  | [], _, _, _, _, _, _ => rfl
  | _ :: _, [], _, _, _, _, _ => rfl
  | o :: os, d :: ds, j, l, fr, t, h => by
    simp only [putsL]
    rw [Qai os ds (j + 1) l _ t (fun m o' ho' hl => h (m + 1) o' (by simpa using ho') (by rw [show j + (m + 1) = j + 1 + m by omega]; exact hl))]
    split
    · rename_i hl
      have := h 0 o rfl hl
      simp only [Frm.put, this, if_false]
    · rfl
theorem Qax : ∀ (os : List AOper) (ds : List D) (j : Nat) (l : Nat → Bool) (fr : Frm) (t m : Nat) (o : AOper) (d : D), os[m]? = some o → ds[m]? = some d → o.dst = some t → l (j + m) = true →
    (∀ (m' : Nat) (o' : AOper), m < m' → os[m']? = some o' → o'.dst ≠ some t) → putsL j os ds l fr t = d
  | [], _, _, _, _, _, _, _, _, ho, _, _, _, _ => by simp at ho
  | _ :: _, [], _, _, _, _, _, _, _, _, hd, _, _, _ => by simp at hd
  | o1 :: os, d1 :: ds, j, l, fr, t, m, o, d, ho, hd, ht, hl, hlast => by
    simp only [putsL]
    cases m with
    | zero =>
      simp only [List.getElem?_cons_zero, Option.some.injEq] at ho hd
      subst ho; subst hd
      rw [Qai os ds (j + 1) l _ t (fun m o' ho' _ => hlast (m + 1) o' (by omega) (by simpa using ho'))]
      rw [if_pos (by simpa using hl)]
      simp only [Frm.put, ht, if_true]
    | succ m =>
      exact Qax os ds (j + 1) l _ t m o d (by simpa using ho) (by simpa using hd) ht (by rw [show j + 1 + m = j + (m + 1) by omega]; exact hl) (fun m' o' hm' ho' => hlast (m' + 1) o' (by omega) (by simpa using ho'))
theorem Qbz : ∀ (os : List AOper) (ds : List D) (j : Nat) (l : Nat → Bool) (fr : Frm), (∀ m, j ≤ m → l m = false) → putsL j os ds l fr = fr
  | [], _, _, _, _, _ => rfl
  | _ :: _, [], _, _, _, _ => rfl
  | o :: os, d :: ds, j, l, fr, h => by
    simp only [putsL, h j (Nat.le_refl _)]
    exact Qbz os ds (j + 1) l fr (fun m hm => h m (by omega))
theorem Qf9 {α : Type} {E : Env} {r : α} {K : St → Option α} : ∀ (os : List AOper) (j : Nat) (s : St), execOps true E os s K = some r →
    ∃ ds : List D, ds.length = os.length ∧ K ⟨putsL j os ds (fun _ => true) s.fr, s.Γ⟩ = some r ∧
      ∀ (m : Nat) (o : AOper) (d : D), os[m]? = some o → ds[m]? = some d → ∀ Kd : D → Option α, Kd d = some r → o.value E (putsL j os ds (fun i => decide (i < j + m)) s.fr) s.Γ Kd = some r
  | [], j, s, h => ⟨[], rfl, h, fun m o d ho => by simp at ho⟩
  | o :: os, j, s, h => by
    obtain ⟨d, hd, hv⟩ := Qhx (Qqz h)
    obtain ⟨ds, h1, h2, h3⟩ := Qf9 os (j + 1) ⟨s.fr.put o.dst d, s.Γ⟩ hd
    refine ⟨d :: ds, by simp [h1], by simpa [putsL] using h2, fun m o' d' ho' hd' Kd hKd => ?_⟩
    cases m with
    | zero =>
      simp only [List.getElem?_cons_zero, Option.some.injEq] at ho' hd'
      subst ho'; subst hd'
      rw [Qbz _ _ _ _ _ (fun m hm => by simp; omega)]
      exact hv Kd hKd
    | succ m =>
      have := h3 m o' d' (by simpa using ho') (by simpa using hd') Kd hKd
      simp only [putsL, decide_eq_true_eq]
      rw [if_pos (by omega)]
      rw [show j + (m + 1) = j + 1 + m by omega]
      exact this
theorem Qbi {ρ : Nat → FuncId} {P : Program} {N : Nat × Nat} {ops : Array Oper} : ∀ {os : List Oper} {os' : List AOper}, matchOps ρ P N ops os os' = true → os.length = os'.length ∧ ∀ (j : Nat) (o : Oper), os[j]? = some o → ∃ o', os'[j]? = some o' ∧ o.dst.map (N.1 + ·) = o'.dst ∧ guardOK N ops o.guard o'.guard = true ∧ matchOp ρ P N o.op o'.op = true
  | [], [], _ => ⟨rfl, fun j o h => by simp at h⟩
  | [], _ :: _, h => by cases h
  | _ :: _, [], h => by cases h
  | o :: os, o' :: os', h => by
    simp only [matchOps, Bool.and_eq_true, beq_iff_eq] at h
    obtain ⟨⟨⟨h1, h2⟩, h3⟩, h4⟩ := h
    obtain ⟨h5, h6⟩ := Qbi h4
    refine ⟨by simp [h5], fun j o1 ho => ?_⟩
    cases j with
    | zero =>
      simp only [List.getElem?_cons_zero, Option.some.injEq] at ho
      subst ho
      exact ⟨o', rfl, h1, h2, h3⟩
    | succ j => exact h6 j o1 (by simpa using ho)
def drawB (md : Region.Mode) (ops : Array Oper) (k : Nat) (os' : List AOper) : Bool := decide (k ≤ ops.size) && backB md ops k && coverB md ops k && forcedB md ops k && ssaB md ops 0 os' fun _ => none
section
variable {α : Type} {P : Program} {ρ : Nat → FuncId} {F : Fm} {S₀ : Nat → Prop} {w0 : Org} {w : World} {E : Env} {s : St} {a : Act} {r : α} {ops : Array Oper} {k : Nat} {md : Region.Mode} {Q : Exit → Act → World → Prop} {os' : List AOper} {ds : List D}
def lst (l : Array Bool) (i : Nat) : Bool := l.getD i false
def unlisted (l : Array Bool) (k : Nat) : Nat := ((List.range k).filter fun i => !lst l i).length
theorem Qfi {l : Array Bool} {i : Nat} (hi : i < k) (hs : l.size = k) (h : l.getD i false = false) : unlisted (l.setIfInBounds i true) k < unlisted l k := by
  unfold unlisted
  have h1 : ((List.range k).filter fun j => !lst (l.setIfInBounds i true) j) = ((List.range k).filter fun j => !lst l j).filter fun j => j != i := by
    rw [List.filter_filter]
    refine List.filter_congr fun j _ => ?_
    by_cases e : j = i
    · subst e
      simp [lst, hs, hi]
    · have : (l.setIfInBounds i true).getD j false = l.getD j false := getD_set_ne false (Ne.symm e)
      simp only [lst, this]
      simp [e]
  rw [h1]
  refine List.length_filter_lt_length_iff_exists.2 ⟨i, ?_, by simp⟩
  rw [List.mem_filter, List.mem_range, lst, h]
  exact ⟨hi, rfl⟩
theorem Qb3 {l : Array Bool} (hs : l.size = k) (h : unlisted l k = 0) : l = Array.replicate k true := by
  unfold unlisted at h
  have h0 := List.length_eq_zero_iff.1 h
  have h1 : ∀ i, i < k → l.getD i false = true := fun i hi => by
    have := List.filter_eq_nil_iff.1 h0 i (by simpa using hi)
    simpa [lst] using this
  apply Array.ext
  · simp [hs]
  · intro i h2 h3
    have := h1 i (by omega)
    simp only [Array.getElem_replicate]
    simpa [Array.getD_eq_getD_getElem?, h2] using this
theorem Qc3 {l : Array Bool} (hd : Down md ops l) {j i : Nat} (h : nearB md ops j i = true) (hj : l.getD j false = true) : l.getD i false = true := by
  unfold nearB at h
  simp only [Bool.or_eq_true] at h
  rcases h with h | h
  · cases ho : ops[j]? with
    | none => rw [ho] at h; cases h
    | some o =>
      rw [ho] at h
      simp only [Option.map_some, Option.getD_some, Array.any_eq_true, Bool.and_eq_true, beq_iff_eq] at h
      obtain ⟨x, hx, hbd, he⟩ := h
      rw [← he]
      exact hd j o hj ho _ (Array.getElem_mem hx) hbd
  · exact Qga hd _ _ h hj
def gam (p : Nat) (Γ1 Γ2 : Hp) (l : Array Bool) : Hp := if lst l p = true then Γ2 else Γ1
theorem Qnt (hg : Good P ρ E) (hb : drawB md ops k os' = true) (hm : matchOps ρ P F.wd ops (ops.toList.take k) os' = true) (hlen : ds.length = os'.length) (p : Nat) (Γ2 : Hp)
    (hval : ∀ (m : Nat) (o : AOper) (d : D), m ≠ p → os'[m]? = some o → ds[m]? = some d → ∀ Kd : D → Option α, Kd d = some r → o.value E (putsL 0 os' ds (fun i => decide (i < 0 + m)) s.fr) s.Γ Kd = some r)
    (hval2 : ∀ (m : Nat) (o : AOper) (d : D), m ≠ p → nearB md ops p m = false → p < k → os'[m]? = some o → ds[m]? = some d → ∀ Kd : D → Option α, Kd d = some r → o.value E (putsL 0 os' ds (fun i => decide (i < 0 + m)) s.fr) Γ2 Kd = some r)
    (hM : ∀ (o : AOper) (d : D), os'[p]? = some o → ds[p]? = some d → ∀ fr : Frm, (∀ t ∈ o.uses, putsL 0 os' ds (fun i => decide (i < 0 + p)) s.fr t = fr t) → ∀ Kt : St → Option α, Kt ⟨fr.put o.dst d, Γ2⟩ = some r → o.exec false E ⟨fr, s.Γ⟩ Kt = some r) :
    ∀ (fuel : Nat) (l : Array Bool) (a : Act) (w : World), l.size = k → Down md ops l → unlisted l k ≤ fuel → Inv' ρ S₀ w0 F ⟨putsL 0 os' ds (lst l) s.fr, gam p s.Γ Γ2 l⟩ a w →
    (∀ (a : Act) (w : World) (fuel : Nat), ops.size - k ≤ fuel → Inv' ρ S₀ w0 F ⟨putsL 0 os' ds (lst (Array.replicate k true)) s.fr, gam p s.Γ Γ2 (Array.replicate k true)⟩ a w → wpAny P md ops Q fuel (upto ops.size k) a w) → wpAny P md ops Q (fuel + (ops.size - k)) (l ++ Array.replicate (ops.size - k) false) a w := by
  simp only [drawB, Bool.and_eq_true, decide_eq_true_eq] at hb
  obtain ⟨⟨⟨⟨hk, hback⟩, hcover⟩, _⟩, hssa⟩ := hb
  obtain ⟨hml, hmg⟩ := Qbi hm
  have hkl : os'.length = k := by
    rw [← hml, List.length_take, Array.length_toList]
    omega
  have hspec := Qfc os' 0 _ hssa
  intro fuel
  induction fuel with
  | zero =>
    intro l a w hs hd hu hinv hK
    obtain rfl := Qb3 hs (by omega)
    exact hK a w _ (by omega) hinv
  | succ fuel ih =>
    intro l a w hs hd hu hinv hK
    by_cases hz : unlisted l k = 0
    · obtain rfl := Qb3 hs hz
      exact hK a w _ (by omega) hinv
    · -- one may come up
      have hex : ∃ i, i < k ∧ l.getD i false = false := by
        unfold unlisted at hz
        obtain ⟨i, hi⟩ := List.exists_mem_of_length_pos (Nat.pos_of_ne_zero hz)
        simp only [List.mem_filter, List.mem_range, lst, Bool.not_eq_true'] at hi
        exact ⟨i, hi⟩
      obtain ⟨i0, hi0, hl0⟩ := hex
      obtain ⟨j0, hj0, hjl0, o0, ho0, hall0⟩ := Qee (l := l) hback hk i0 i0 rfl hi0 hl0
      have hready0 : j0 ∈ Region.ready md ops (l ++ Array.replicate (ops.size - k) false) := mem_ready.2 ⟨by rw [Qac (by omega), Qbu (by omega)]; exact hjl0, o0, ho0, fun e he hbd => (by
        obtain ⟨h1, h2⟩ := hall0 e he hbd
        rw [Qac (by omega)]; exact h1)⟩
      have hsub : ∀ i, i ∈ Region.ready md ops (l ++ Array.replicate (ops.size - k) false) → i < k ∧ l.getD i false = false ∧ ∃ o, ops[i]? = some o ∧ ∀ e ∈ o.after, Region.binds md e = true → l.getD e.on false = true := by
        intro i hi
        obtain ⟨h0, o, ho, hall⟩ := mem_ready.1 hi
        have hin : i < ops.size := (Array.getElem?_eq_some_iff.1 ho).1
        have hall' : ∀ e ∈ o.after, Region.binds md e = true → l.getD e.on false = true := fun e he hbd => by
          have h1 := hall e he hbd
          by_cases hek : e.on < k
          · rw [Qac (by omega)] at h1; exact h1
          · rw [Qep (by omega)] at h1; cases h1
        by_cases hik : i < k
        · exact ⟨hik, by rw [Qac (by omega), Qbu (by omega)] at h0; exact h0, o, ho, hall'⟩
        · exfalso
          simp only [coverB, List.all_eq_true, List.mem_range] at hcover
          have h2 := hcover (i - k) (by omega) i0 hi0
          rw [show k + (i - k) = i by omega] at h2
          have := Qbk hd ho hall' h2
          rw [hl0] at this
          cases this
      rw [show fuel + 1 + (ops.size - k) = (fuel + (ops.size - k)) + 1 by omega]
      refine ⟨fun hr0 => (by rw [hr0] at hready0; cases hready0), fun i hi => ?_⟩
      obtain ⟨hik, hil, o, ho, hall⟩ := hsub i hi
      have hset : (l ++ Array.replicate (ops.size - k) false).setIfInBounds i true = l.setIfInBounds i true ++ Array.replicate (ops.size - k) false := by
        rw [Array.setIfInBounds_append_left (by omega)]
      rw [hset]
      have hd' : Down md ops (l.setIfInBounds i true) := by
        intro j oj hj hoj e he hbd
        by_cases e1 : i = j
        · subst e1
          rw [ho] at hoj
          cases hoj
          exact getD_set_true (hall e he hbd)
        · rw [getD_set_ne false e1] at hj
          exact getD_set_true (hd j oj hj hoj e he hbd)
      have hu' : unlisted (l.setIfInBounds i true) k ≤ fuel := by
        have := Qfi hik hs hil
        omega
      obtain ⟨o', ho', hdst, hgd, hop⟩ := hmg i o (by rw [List.getElem?_take_of_lt hik, Array.getElem?_toList]; exact ho)
      have hdl : i < ds.length := by omega
      have hdi : ds[i]? = some ds[i] := List.getElem?_eq_getElem hdl
      obtain ⟨hs1, hs2⟩ := hspec i o' ho'
      have hlast : ∀ (m : Nat) (o1 : AOper) (t : Nat), os'[m]? = some o1 → o1.dst = some t → ∀ (m' : Nat) (o2 : AOper), m < m' → os'[m']? = some o2 → o2.dst ≠ some t := fun m o1 t h1 h2 m' o2 hmm h3 h4 => ((hspec m' o2 h3).2 t h4).2 m o1 hmm h1 h2
      have hagree : ∀ t ∈ o'.uses, putsL 0 os' ds (fun i' => decide (i' < 0 + i)) s.fr t = putsL 0 os' ds (lst l) s.fr t := fun t ht => by
        obtain ⟨_, hw⟩ := hs1 t ht
        by_cases hwr : ∃ (m : Nat) (o1 : AOper), os'[m]? = some o1 ∧ o1.dst = some t
        · obtain ⟨m, o1, ho1, hd1⟩ := hwr
          have hml2 : m < ds.length := by rw [hlen]; exact (List.getElem?_eq_some_iff.1 ho1).1
          rcases hw m o1 ho1 hd1 with h5 | ⟨h5, h6⟩ | ⟨h5, h6⟩
          · cases h5
          rotate_left
          · rw [Nat.zero_add, Nat.zero_add] at h6
            have hml3 : ¬ l.getD m false = true := fun hh => by
              have := Qc3 hd h6 hh
              rw [hil] at this
              cases this
            have only : ∀ (m2 : Nat) (o2 : AOper), os'[m2]? = some o2 → o2.dst = some t → m2 = m := fun m2 o2 h7 h8 => by
              rcases Nat.lt_trichotomy m2 m with h9 | h9 | h9
              · exact absurd hd1 (hlast m2 o2 t h7 h8 m o1 h9 ho1)
              · exact h9
              · exact absurd h8 (hlast m o1 t ho1 hd1 m2 o2 h9 h7)
            rw [Qai _ _ _ _ _ _ (fun m2 o2 h7 h9 h8 => by
                have := only m2 o2 h7 h8
                subst this
                simp only [decide_eq_true_eq] at h9
                omega),
              Qai _ _ _ _ _ _ (fun m2 o2 h7 h9 h8 => by
                have := only m2 o2 h7 h8
                subst this
                rw [Nat.zero_add] at h9
                exact hml3 h9)]
          · have hlm : l.getD m false = true := by
              rw [Nat.zero_add, Nat.zero_add] at h6
              unfold nearB at h6
              simp only [Bool.or_eq_true] at h6
              rcases h6 with h6 | h6
              · rw [ho] at h6
                simp only [Option.map_some, Option.getD_some, Array.any_eq_true, Bool.and_eq_true, beq_iff_eq] at h6
                obtain ⟨x, hx, hbd, he⟩ := h6
                rw [← he]
                exact hall _ (Array.getElem_mem hx) hbd
              · exact Qbk hd ho hall h6
            rw [Qax os' ds 0 _ s.fr t m o1 ds[m] ho1 (List.getElem?_eq_getElem hml2) hd1 (by simpa using h5) (hlast m o1 t ho1 hd1),
              Qax os' ds 0 _ s.fr t m o1 ds[m] ho1 (List.getElem?_eq_getElem hml2) hd1 (by rw [Nat.zero_add]; exact hlm) (hlast m o1 t ho1 hd1)]
        · rw [Qai _ _ _ _ _ _ (fun m o1 h1 _ h2 => hwr ⟨m, o1, h1, h2⟩), Qai _ _ _ _ _ _ (fun m o1 h1 _ h2 => hwr ⟨m, o1, h1, h2⟩)]
      have hframe : (putsL 0 os' ds (lst l) s.fr).put o'.dst ds[i] = putsL 0 os' ds (lst (l.setIfInBounds i true)) s.fr := by
        funext t
        have hli : (l.setIfInBounds i true).getD i false = true := by simp [hs, hik]
        simp only [Frm.put]
        split
        · rename_i e
          exact (Qax os' ds 0 _ s.fr t i o' ds[i] ho' hdi e (by rw [Nat.zero_add]; exact hli) (hlast i o' t ho' e)).symm
        · rename_i e
          by_cases hwr : ∃ (m : Nat) (o1 : AOper), os'[m]? = some o1 ∧ o1.dst = some t ∧ l.getD m false = true
          · obtain ⟨m, o1, ho1, hd1, hlm⟩ := hwr
            have hml2 : m < ds.length := by rw [hlen]; exact (List.getElem?_eq_some_iff.1 ho1).1
            rw [Qax os' ds 0 _ s.fr t m o1 ds[m] ho1 (List.getElem?_eq_getElem hml2) hd1 (by rw [Nat.zero_add]; exact hlm) (hlast m o1 t ho1 hd1),
              Qax os' ds 0 _ s.fr t m o1 ds[m] ho1 (List.getElem?_eq_getElem hml2) hd1 (by rw [Nat.zero_add]; exact getD_set_true hlm) (hlast m o1 t ho1 hd1)]
          · rw [Qai _ _ _ _ _ _ (fun m o1 h1 h3 h2 => hwr ⟨m, o1, h1, h2, by rwa [Nat.zero_add] at h3⟩), Qai _ _ _ _ _ _ (fun m o1 h1 h3 h2 => ?_)]
            rw [Nat.zero_add] at h3
            by_cases emi : i = m
            · subst emi
              rw [ho'] at h1
              cases h1
              exact e h2
            · refine hwr ⟨m, o1, h1, h2, ?_⟩
              have := getD_set_ne (listed := l) false emi
              rw [lst, this] at h3
              exact h3
      classical
      let Kt : St → Option α := fun s' => if s' = ⟨putsL 0 os' ds (lst (l.setIfInBounds i true)) s.fr, gam p s.Γ Γ2 (l.setIfInBounds i true)⟩ then some r else none
      have hex : o'.exec false E ⟨putsL 0 os' ds (lst l) s.fr, gam p s.Γ Γ2 l⟩ Kt = some r := by
        by_cases hip : i = p
        · subst hip
          have hg1 : gam i s.Γ Γ2 l = s.Γ := by simp [gam, lst, hil]
          have hg2 : gam i s.Γ Γ2 (l.setIfInBounds i true) = Γ2 := by
            have : (l.setIfInBounds i true).getD i false = true := by simp [hs, hik]
            simp [gam, lst, this]
          rw [hg1]
          refine hM o' ds[i] ho' hdi _ hagree Kt ?_
          simp only [Kt, hframe, hg2, if_true]
        · have hgs : gam p s.Γ Γ2 (l.setIfInBounds i true) = gam p s.Γ Γ2 l := by
            have : lst (l.setIfInBounds i true) p = lst l p := getD_set_ne (listed := l) false hip
            unfold gam
            rw [this]
          have hv : o'.value E (putsL 0 os' ds (fun i' => decide (i' < 0 + i)) s.fr) (gam p s.Γ Γ2 l) (fun d => if d = ds[i] then some r else none) = some r := by
            cases hlp : lst l p with
            | false =>
              have : gam p s.Γ Γ2 l = s.Γ := by simp [gam, hlp]
              rw [this]
              exact hval i o' ds[i] hip ho' hdi _ (by simp)
            | true =>
              have : gam p s.Γ Γ2 l = Γ2 := by simp [gam, hlp]
              rw [this]
              have hpk : p < k := by
                refine Classical.byContradiction fun hn => ?_
                have : l.getD p false = false := by simp [Array.getD_eq_getD_getElem?, Array.getElem?_eq_none (show l.size ≤ p by omega)]
                rw [lst, this] at hlp
                cases hlp
              have hnear : nearB md ops p i = false := by
                cases hnb : nearB md ops p i with
                | false => rfl
                | true =>
                  have := Qc3 hd hnb hlp
                  rw [hil] at this
                  cases this
              exact hval2 i o' ds[i] hip hnear hpk ho' hdi _ (by simp)
          rw [Qpm hagree] at hv
          refine Qpo (o := o') (s := ⟨putsL 0 os' ds (lst l) s.fr, gam p s.Γ Γ2 l⟩) (K := Kt) (r := r) (E := E) ?_
          obtain ⟨d, hd1, hd2⟩ := Qhx hv
          refine hd2 _ ?_
          have : d = ds[i] := by
            refine Classical.byContradiction fun hne => ?_
            simp only [hne, if_false] at hd1
            cases hd1
          subst this
          show Kt ⟨(putsL 0 os' ds (lst l) s.fr).put o'.dst ds[i], gam p s.Γ Γ2 l⟩ = some r
          simp only [Kt, hframe, hgs, if_true]
      have hnext : ∀ s' a' w', Inv' ρ S₀ w0 F s' a' w' → Kt s' = some r → wpAny P md ops Q (fuel + (ops.size - k)) (l.setIfInBounds i true ++ Array.replicate (ops.size - k) false) a' w' := fun s' a' w' hinv' hk' => by
        simp only [Kt] at hk'
        split at hk'
        · rename_i e
          subst e
          exact ih _ a' w' (by simp [hs]) hd' hu' hinv' hK
        · cases hk'
      obtain ⟨β, B, hinv⟩ := hinv
      unfold wpOp
      rw [ho]
      simp only
      rcases Qcz hinv hgd hex with ⟨hw, h⟩ | ⟨hw, h⟩
      · rw [if_pos hw]
        rw [← hdst] at h
        exact .inl (Qc4 hg hinv hop h hnext)
      · rw [if_neg (by rw [hw]; simp)]
        refine hnext _ _ w ?_ h
        rw [← hdst]
        exact ⟨β, B, hinv.rel.put (d := .skip) (v := Go.undef) rfl, hinv.below, hinv.given⟩
theorem Qn3 (hg : Good P ρ E) (hp : P.follows .mixedOrders = true) {id : Nat} (hB : drawB .any ops k (os'.take k) = true) (hm : matchOps ρ P F.wd ops (ops.toList.take k) (os'.take k) = true) {K : St → Option α}
    (hinv : Inv' ρ S₀ w0 F s a w) (h : execOps true E (os'.take k) s K = some r) (hK : ∀ s' a' w', Inv' ρ S₀ w0 F s' a' w' → K s' = some r → wpList P ops Q (ops.toList.drop k) a' w') : (Code.region id ops true).wp P Q a w := by
  obtain ⟨ds, hl, hfin, hval⟩ := Qf9 _ 0 s h
  have hB' := hB
  simp only [drawB, Bool.and_eq_true, decide_eq_true_eq] at hB'
  obtain ⟨⟨⟨⟨hk, _⟩, _⟩, hforced⟩, _⟩ := hB'
  refine wp_region_any hp ?_
  have hkl : (os'.take k).length = k := by
    have := (Qbi hm).1
    rw [List.length_take, Array.length_toList] at this
    omega
  have e1 : ops.size = k + (ops.size - k) := by omega
  have e2 : Array.replicate ops.size false = Array.replicate k false ++ Array.replicate (ops.size - k) false := by
    rw [Array.replicate_append_replicate, ← e1]
  rw [e2]
  have hgam : ∀ l : Array Bool, gam k s.Γ s.Γ l = s.Γ := fun l => by simp [gam]
  have hinv2 : Inv' ρ S₀ w0 F ⟨putsL 0 (os'.take k) ds (lst (Array.replicate k false)) s.fr, gam k s.Γ s.Γ (Array.replicate k false)⟩ a { w with drawn := w.drawn + 1 } := by
    rw [hgam]
    rw [Qbz _ _ _ _ _ (fun m _ => by
      simp only [lst, Array.getD_eq_getD_getElem?, Array.getElem?_replicate]
      split <;> rfl)]
    obtain ⟨β, B, hi⟩ := hinv
    exact ⟨β, B, hi.grow ((Below.refl _ _).drew)⟩
  have key := Qnt (Q := Q) hg hB hm hl k s.Γ (fun m o d _ => hval m o d) (fun m o d _ _ h => absurd h (Nat.lt_irrefl _)) (fun o d h => by
    have := (List.getElem?_eq_some_iff.1 h).1
    rw [List.length_take] at this
    omega) k (Array.replicate k false) a { w with drawn := w.drawn + 1 } (by simp) (fun i o hi => by
    exfalso
    simp only [Array.getD_eq_getD_getElem?, Array.getElem?_replicate] at hi
    split at hi <;> cases hi) (by
      unfold unlisted
      exact Nat.le_trans (List.length_filter_le _ _) (by simp)) hinv2 (fun a' w' fuel hfu hinv' => by
    rw [hgam] at hinv'
    exact Qdy hforced (ops.size - k) k (by omega) (Nat.le_refl _) fuel a' w' hfu (by
      have := wpOps_eq_wpList (P := P) (ops := ops) (Q := Q) (ops.toList.drop k) k (fun j => by simp)
      rw [List.length_drop, Array.length_toList] at this
      rw [this]
      refine hK _ a' w' hinv' ?_
      have e3 : putsL 0 (os'.take k) ds (lst (Array.replicate k true)) s.fr = putsL 0 (os'.take k) ds (fun _ => true) s.fr := by
        have gen : ∀ (os : List AOper) (ds : List D) (j : Nat) (fr : Frm) (l l' : Nat → Bool), (∀ m, j ≤ m → m < j + os.length → l m = l' m) → putsL j os ds l fr = putsL j os ds l' fr := by
          intro os
          induction os with
          | nil => intro ds j fr l l' _; rfl
          | cons o os ih =>
            intro ds j fr l l' h
            cases ds with
            | nil => rfl
            | cons d ds =>
              simp only [putsL, h j (Nat.le_refl _) (by simp)]
              exact ih ds (j + 1) _ l l' (fun m h1 h2 => h m (by omega) (by simp only [List.length_cons]; omega))
        refine gen _ _ _ _ _ _ (fun m _ hm => ?_)
        have : m < k := by omega
        simp [lst, Array.getD_eq_getD_getElem?, this]
      rw [e3]
      exact hfin))
  rwa [← e1] at key
theorem Qxq (hg : Good P ρ E) (hp : P.follows .mixedOrders = true) {id : Nat} (hB : drawB .any ops k (os'.take k) = true) (hm : matchOps ρ P F.wd ops (ops.toList.take k) (os'.take k) = true) (hm2 : matchOps ρ P F.wd ops (ops.toList.drop k) (os'.drop k) = true) {K : St → Option α}
    (hinv : Inv' ρ S₀ w0 F s a w) (h : execOps true E (os'.take k) s (fun s => execOps false E (os'.drop k) s K) = some r) (hK : ∀ s' a' w', Inv' ρ S₀ w0 F s' a' w' → K s' = some r → Q .normal a' w') : (Code.region id ops true).wp P Q a w :=
  Qn3 hg hp hB hm hinv h fun s' a' w' hinv' h' => Qbj hg _ _ s' a' w' hm2 hinv' h' hK
theorem Qnv : ∀ (os : List AOper) (ds : List D) (j : Nat) (l : Nat → Bool) (fr : Frm) (o : AOper) (d : D), ds.length = os.length → putsL j (os ++ [o]) (ds ++ [d]) l fr = if l (j + os.length) = true then (putsL j os ds l fr).put o.dst d else putsL j os ds l fr
  | [], [], j, l, fr, o, d, _ => rfl
  | [], _ :: _, _, _, _, _, _, h => by cases h
  | _ :: _, [], _, _, _, _, _, h => by cases h
  | o1 :: os, d1 :: ds, j, l, fr, o, d, h => by
    simp only [List.cons_append, putsL, List.length_cons]
    rw [Qnv os ds (j + 1) l _ o d (by simpa using h), show j + 1 + os.length = j + (os.length + 1) by omega]
theorem Qe1 : ∀ (os : List AOper) (ds : List D) (j : Nat) (fr : Frm) (l l' : Nat → Bool), (∀ m, j ≤ m → m < j + os.length → l m = l' m) → putsL j os ds l fr = putsL j os ds l' fr
  | [], _, _, _, _, _, _ => rfl
  | _ :: _, [], _, _, _, _, _ => rfl
  | o :: os, d :: ds, j, fr, l, l', h => by
    simp only [putsL, h j (Nat.le_refl _) (by simp)]
    exact Qe1 os ds (j + 1) _ l l' (fun m h1 h2 => h m (by omega) (by simp only [List.length_cons]; omega))
theorem Qqb {fr : Frm} {Γ : Hp} {d x : Opd} {K : Eff → Option α} {r : α} (h : (AOp.copy d x).step E fr Γ K = some r) : ∃ dd Γ2, K (.st [] dd Γ2) = some r ∧ ∀ K' : Eff → Option α, K' (.st [] dd Γ2) = some r → (AOp.copy d x).step E fr Γ K' = some r := by
  simp only [AOp.step, Qdd] at h ⊢
  split at h
  rotate_left
  · cases h
  split at h
  rotate_left
  · cases h
  obtain ⟨ys, hys, h⟩ := Option.bind_eq_some_iff.1 h
  split at h
  rotate_left
  · cases h
  rename_i hc
  exact ⟨_, _, h, fun K' h' => by rw [hys, Option.bind_some, if_pos hc]; exact h'⟩
theorem Qz5 {fr : Frm} {Γ : Hp} {size : Nat} {a x : Opd} {ps : List Opd} {K : Eff → Option α} {r : α} (h : (AOp.storeS size a x ps).step E fr Γ K = some r) : ∃ R Γ2, apart R (evs fr ps) = true ∧ (∀ R', R' ≠ R → Γ2 R' = Γ R') ∧ K (.st [] .skip Γ2) = some r ∧ ∀ K' : Eff → Option α, K' (.st [] .skip Γ2) = some r → (AOp.store size a x).step E fr Γ K' = some r := by
  simp only [AOp.step, Qab] at h ⊢
  split at h
  rotate_left
  · cases h
  rename_i R p he
  split at h
  rotate_left
  · cases h
  rename_i hap
  split at h
  rotate_left
  · cases h
  rename_i hc
  obtain ⟨Γ2, hset, h⟩ := Option.bind_eq_some_iff.1 h
  refine ⟨R, Γ2, hap, fun R' hne => ?_, h, fun K' h' => by rw [if_pos hc, hset, Option.bind_some]; exact h'⟩
  obtain ⟨c, d, d2, hc, hd, hsetd, rfl⟩ := Qbm hset
  exact Qa _ _ hne
theorem Qn2 (hg : Good P ρ E) (hp : P.follows .mixedOrders = true) {id : Nat} {dst : Option Nat} {op : AOp} (hlt : k < os'.length) (hB : drawB .any ops (k + 1) (os'.take k ++ [⟨dst, op, none⟩]) = true) (hm : matchOps ρ P F.wd ops (ops.toList.take (k + 1)) (os'.take k ++ [⟨dst, op, none⟩]) = true) (hm2 : matchOps ρ P F.wd ops (ops.toList.drop (k + 1)) (os'.drop (k + 1)) = true) {K : St → Option α}
    (hinv : Inv' ρ S₀ w0 F s a w) {ds : List D} (hl : ds.length = (os'.take k).length)
    (hval : ∀ (m : Nat) (o : AOper) (d : D), (os'.take k)[m]? = some o → ds[m]? = some d → ∀ Kd : D → Option α, Kd d = some r → o.value E (putsL 0 (os'.take k) ds (fun i => decide (i < 0 + m)) s.fr) s.Γ Kd = some r)
    {d : D} {Γ2 : Hp} (hr : execOps false E (os'.drop (k + 1)) ⟨(putsL 0 (os'.take k) ds (fun _ => true) s.fr).put dst d, Γ2⟩ K = some r)
    (hcp : ∀ K' : Eff → Option α, K' (.st [] d Γ2) = some r → op.step E (putsL 0 (os'.take k) ds (fun _ => true) s.fr) s.Γ K' = some r)
    (hstr : ∀ (m : Nat) (o : AOper), m < k → nearB .any ops k m = false → os'[m]? = some o → ∀ Kd : D → Option α, o.value E (putsL 0 (os'.take k) ds (fun i => decide (i < 0 + m)) s.fr) s.Γ Kd = some r → o.value E (putsL 0 (os'.take k) ds (fun i => decide (i < 0 + m)) s.fr) Γ2 Kd = some r)
    (hK : ∀ s' a' w', Inv' ρ S₀ w0 F s' a' w' → K s' = some r → Q .normal a' w') : (Code.region id ops true).wp P Q a w := by
  have htk : (os'.take k).length = k := by rw [List.length_take]; omega
  have hB' := hB
  simp only [drawB, Bool.and_eq_true, decide_eq_true_eq] at hB'
  obtain ⟨⟨⟨⟨hk, _⟩, _⟩, hforced⟩, _⟩ := hB'
  refine wp_region_any hp ?_
  have e1 : ops.size = (k + 1) + (ops.size - (k + 1)) := by omega
  have e2 : Array.replicate ops.size false = Array.replicate (k + 1) false ++ Array.replicate (ops.size - (k + 1)) false := by
    rw [Array.replicate_append_replicate, ← e1]
  rw [e2]
  have hfalse : ∀ m, lst (Array.replicate (k + 1) false) m = false := fun m => by
    simp only [lst, Array.getD_eq_getD_getElem?, Array.getElem?_replicate]
    split <;> rfl
  have htrue : ∀ m, m < k + 1 → lst (Array.replicate (k + 1) true) m = true := fun m hm => by
    simp [lst, Array.getD_eq_getD_getElem?, hm]
  have hinv2 : Inv' ρ S₀ w0 F ⟨putsL 0 (os'.take k ++ [⟨dst, op, none⟩]) (ds ++ [d]) (lst (Array.replicate (k + 1) false)) s.fr, gam k s.Γ Γ2 (Array.replicate (k + 1) false)⟩ a { w with drawn := w.drawn + 1 } := by
    rw [Qbz _ _ _ _ _ (fun m _ => hfalse m)]
    have : gam k s.Γ Γ2 (Array.replicate (k + 1) false) = s.Γ := by unfold gam; rw [hfalse]; simp
    rw [this]
    obtain ⟨β, B, hi⟩ := hinv
    exact ⟨β, B, hi.grow ((Below.refl _ _).drew)⟩
  have hlen : (ds ++ [d]).length = (os'.take k ++ [(⟨dst, op, none⟩ : AOper)]).length := by rw [List.length_append, List.length_append, hl]; rfl
  have hsn : ∀ l : Nat → Bool, putsL 0 (os'.take k ++ [⟨dst, op, none⟩]) (ds ++ [d]) l s.fr = if l k = true then (putsL 0 (os'.take k) ds l s.fr).put dst d else putsL 0 (os'.take k) ds l s.fr := fun l => by
    rw [Qnv _ _ _ _ _ _ _ hl, htk, Nat.zero_add]
  have hlow : ∀ (m : Nat) (o : AOper), m ≠ k → (os'.take k ++ [⟨dst, op, none⟩])[m]? = some o → m < k ∧ (os'.take k)[m]? = some o := fun m o hne ho => by
    have h1 := (List.getElem?_eq_some_iff.1 ho).1
    rw [List.length_append, htk, List.length_singleton] at h1
    have h2 : m < k := by omega
    refine ⟨h2, ?_⟩
    rw [List.getElem?_append_left (by rw [htk]; exact h2)] at ho
    exact ho
  have hval1 : ∀ (m : Nat) (o : AOper) (d1 : D), m ≠ k → (os'.take k ++ [⟨dst, op, none⟩])[m]? = some o → (ds ++ [d])[m]? = some d1 → ∀ Kd : D → Option α, Kd d1 = some r → o.value E (putsL 0 (os'.take k ++ [⟨dst, op, none⟩]) (ds ++ [d]) (fun i => decide (i < 0 + m)) s.fr) s.Γ Kd = some r := fun m o d1 hne ho hd1 Kd hKd => by
    obtain ⟨h2, h3⟩ := hlow m o hne ho
    rw [List.getElem?_append_left (by omega)] at hd1
    rw [hsn, if_neg (by simp; omega)]
    exact hval m o d1 h3 hd1 Kd hKd
  have key := Qnt (Q := Q) (k := k + 1) hg hB hm hlen k Γ2 hval1 (fun m o d1 hne hnear _ ho hd1 Kd hKd => by
    have hv := hval1 m o d1 hne ho hd1 Kd hKd
    obtain ⟨h2, h3⟩ := hlow m o hne ho
    rw [List.getElem?_take_of_lt h2] at h3
    rw [hsn, if_neg (by simp; omega)] at hv ⊢
    exact hstr m o h2 hnear h3 Kd hv) (fun o d1 ho hd1 fr' hag Kt hKt => by
    rw [List.getElem?_append_right (by rw [htk]; exact Nat.le_refl _), htk, Nat.sub_self] at ho
    cases ho
    rw [List.getElem?_append_right (by omega), hl, htk, Nat.sub_self] at hd1
    cases hd1
    have hfr : putsL 0 (os'.take k ++ [⟨dst, op, none⟩]) (ds ++ [d]) (fun i => decide (i < 0 + k)) s.fr = putsL 0 (os'.take k) ds (fun _ => true) s.fr := by
      rw [hsn, if_neg (by simp)]
      exact Qe1 _ _ _ _ _ _ fun m _ hm => by rw [htk] at hm; simpa using hm
    rw [hfr] at hag
    show op.step E fr' s.Γ (fun e => e.apply false dst ⟨fr', s.Γ⟩ Kt) = some r
    rw [← Qbn (fun t ht => hag t (by simp only [AOper.uses, List.mem_append]; exact .inl ht))]
    exact hcp _ hKt) (k + 1) (Array.replicate (k + 1) false) a { w with drawn := w.drawn + 1 } (by simp) (fun i o hi => by
    exfalso
    have := hfalse i
    rw [lst] at this
    rw [this] at hi
    cases hi) (by
      unfold unlisted
      exact Nat.le_trans (List.length_filter_le _ _) (by simp)) hinv2 (fun a' w' fuel hfu hinv' => Qdy hforced (ops.size - (k + 1)) (k + 1) (by omega) (Nat.le_refl _) fuel a' w' hfu (by
      have := wpOps_eq_wpList (P := P) (ops := ops) (Q := Q) (ops.toList.drop (k + 1)) (k + 1) (fun j => by simp)
      rw [List.length_drop, Array.length_toList] at this
      rw [this]
      have e3 : putsL 0 (os'.take k ++ [⟨dst, op, none⟩]) (ds ++ [d]) (lst (Array.replicate (k + 1) true)) s.fr = (putsL 0 (os'.take k) ds (fun _ => true) s.fr).put dst d := by
        rw [hsn, if_pos (htrue k (by omega))]
        congr 1
        exact Qe1 _ _ _ _ _ _ fun m _ hm => by rw [htk] at hm; exact htrue m (by omega)
      have e4 : gam k s.Γ Γ2 (Array.replicate (k + 1) true) = Γ2 := by unfold gam; rw [htrue k (by omega)]; simp
      rw [e3, e4] at hinv'
      exact Qbj hg _ _ _ a' w' hm2 hinv' hr hK))
  rwa [← e1] at key
def ptrIn (n : Nat) (ps : List Opd) : Bool := ps.any fun p => match p with | .t m => m == n | _ => false
def quietB (os' : List AOper) (k : Nat) (ps : List Opd) (i : Nat) : Bool := match os'[i]? with
  | some ⟨_, .mv _, none⟩ => true
  | some ⟨_, .faddr _ _ _, none⟩ => true
  | some ⟨_, .load _ _ (.t n), none⟩ => ptrIn n ps && ((os'.take k).drop i).all fun o => o.dst != some n
  | some ⟨_, .loadO _ (.t n), none⟩ => ptrIn n ps && ((os'.take k).drop i).all fun o => o.dst != some n
  | some ⟨_, op, none⟩ => pureOp op
  | _ => false
theorem Qgx {op : AOp} (h : pureOp op = true) (E : Env) (fr : Frm) (Γ Γ' : Hp) (K : Eff → Option α) : op.step E fr Γ K = op.step E fr Γ' K := by
  cases op <;> first | rfl | (cases h; done) | skip
  rename_i mode nm k n z parts
  cases mode with
  | zero => rfl
  | succ n => cases h
def lateOps (os' : List AOper) (k : Nat) : List AOper := match os'[k]? with
  | some ⟨d, .storeS n a x _, none⟩ => os'.take k ++ [⟨d, .store n a x, none⟩]
  | some o => os'.take k ++ [o]
  | none => os'.take k
def lateB (md : Region.Mode) (ops : Array Oper) (k : Nat) (os' : List AOper) : Bool := drawB md ops (k + 1) (lateOps os' k) && match os'[k]? with
  | some ⟨_, .copy _ _, none⟩ => (List.range k).all fun i => nearB md ops k i || (match os'[i]? with | some ⟨_, .mv _, none⟩ => true | _ => false)
  | some ⟨_, .storeS _ _ _ ps, none⟩ => (List.range k).all fun i => nearB md ops k i || quietB os' k ps i
  | _ => false
theorem Qfq {R n : Nat} {fr : Frm} : ∀ {ps : List Opd}, apart R (evs fr ps) = true → ptrIn n ps = true → (∃ R' p, fr n = .ptr R' p ∧ R' ≠ R) ∨ ∃ u, fr n = .val u
  | [], _, h => by cases h
  | p :: ps, ha, h => by
    simp only [ptrIn, List.any_cons, Bool.or_eq_true] at h
    have tail : apart R (evs fr ps) = true := by
      simp only [evs, List.map_cons] at ha ⊢
      cases hp : p.ev fr with
      | ptr R' q => rw [hp] at ha; simp only [apart, Bool.and_eq_true] at ha; exact ha.2
      | val u => rw [hp] at ha; exact ha
      | _ => rw [hp] at ha; cases ha
    rcases h with h | h
    · cases p with
      | c u => cases h
      | t m =>
        obtain rfl : m = n := by simpa using h
        simp only [evs, List.map_cons, Opd.ev] at ha
        cases hp : fr m with
        | ptr R' q =>
          rw [hp] at ha
          simp only [apart, Bool.and_eq_true, bne_iff_ne, ne_eq] at ha
          exact .inl ⟨R', q, rfl, ha.1⟩
        | val u => exact .inr ⟨u, rfl⟩
        | _ => rw [hp] at ha; cases ha
    · exact Qfq tail (by simpa [ptrIn] using h)
theorem Qnw {t : Nat} : ∀ (os : List AOper) (ds : List D) (j : Nat) (l l' : Nat → Bool) (fr : Frm), (∀ (m : Nat) (o : AOper), os[m]? = some o → l (j + m) ≠ l' (j + m) → o.dst ≠ some t) → putsL j os ds l fr t = putsL j os ds l' fr t := by
  have gen : ∀ (os : List AOper) (ds : List D) (j : Nat) (l l' : Nat → Bool) (fr fr' : Frm), fr t = fr' t → (∀ (m : Nat) (o : AOper), os[m]? = some o → l (j + m) ≠ l' (j + m) → o.dst ≠ some t) → putsL j os ds l fr t = putsL j os ds l' fr' t := by
    intro os
    induction os with
    | nil => intro ds j l l' fr fr' he _; exact he
    | cons o os ih =>
      intro ds j l l' fr fr' he h
      cases ds with
      | nil => exact he
      | cons d ds =>
        simp only [putsL]
        refine ih ds (j + 1) l l' _ _ ?_ (fun m o' ho' hne => h (m + 1) o' (by simpa using ho') (by rwa [show j + (m + 1) = j + 1 + m by omega]))
        have h0 := h 0 o rfl
        rw [Nat.add_zero] at h0
        by_cases e : o.dst = some t
        · have hll : l j = l' j := Classical.byContradiction fun hne => h0 hne e
          rw [hll]
          split
          · simp [Frm.put, e]
          · exact he
        · split <;> split <;> simp [Frm.put, e, he]
  exact fun os ds j l l' fr h => gen os ds j l l' fr fr rfl h
theorem Qxo (hg : Good P ρ E) (hp : P.follows .mixedOrders = true) {id : Nat} (hB : lateB .any ops k os' = true) (hm : matchOps ρ P F.wd ops (ops.toList.take (k + 1)) (lateOps os' k) = true) (hm2 : matchOps ρ P F.wd ops (ops.toList.drop (k + 1)) (os'.drop (k + 1)) = true) {K : St → Option α}
    (hinv : Inv' ρ S₀ w0 F s a w) (h : execOps true E (os'.take k) s (fun s => execOps false E (os'.drop k) s K) = some r) (hK : ∀ s' a' w', Inv' ρ S₀ w0 F s' a' w' → K s' = some r → Q .normal a' w') : (Code.region id ops true).wp P Q a w := by
  simp only [lateB, Bool.and_eq_true] at hB
  obtain ⟨hB, hcop⟩ := hB
  obtain ⟨ds, hl, hfin, hval⟩ := Qf9 _ 0 s h
  split at hcop
  · rename_i dst dd0 xx hok
    simp only [List.all_eq_true, List.mem_range, Bool.or_eq_true] at hcop
    obtain ⟨hlt, hok2⟩ := List.getElem?_eq_some_iff.1 hok
    have hdrop : os'.drop k = ⟨dst, .copy dd0 xx, none⟩ :: os'.drop (k + 1) := by
      rw [List.drop_eq_getElem_cons hlt, hok2]
    rw [hdrop] at hfin
    obtain ⟨d, Γ2, hr, hcp⟩ := Qqb (K := fun e => e.apply false dst ⟨putsL 0 (os'.take k) ds (fun _ => true) s.fr, s.Γ⟩ fun s' => execOps false E (os'.drop (k + 1)) s' K) hfin
    have hlo : lateOps os' k = os'.take k ++ [⟨dst, .copy dd0 xx, none⟩] := by unfold lateOps; rw [hok]
    rw [hlo] at hB hm
    refine Qn2 hg hp hlt hB hm hm2 hinv hl hval hr hcp (fun m o h2 hnear ho Kd hv => ?_) hK
    rcases hcop m h2 with h4 | h4
    · rw [hnear] at h4; cases h4
    · rw [ho] at h4
      obtain ⟨o1, o2, o3⟩ := o
      split at h4
      · rename_i heq
        cases heq
        exact hv
      · cases h4
  · rename_i dst size aa xx ps hok
    simp only [List.all_eq_true, List.mem_range, Bool.or_eq_true] at hcop
    obtain ⟨hlt, hok2⟩ := List.getElem?_eq_some_iff.1 hok
    have hdrop : os'.drop k = ⟨dst, .storeS size aa xx ps, none⟩ :: os'.drop (k + 1) := by
      rw [List.drop_eq_getElem_cons hlt, hok2]
    rw [hdrop] at hfin
    obtain ⟨R, Γ2, hap, hΓ, hr, hcp⟩ := Qz5 (K := fun e => e.apply false dst ⟨putsL 0 (os'.take k) ds (fun _ => true) s.fr, s.Γ⟩ fun s' => execOps false E (os'.drop (k + 1)) s' K) hfin
    have hap : apart R (evs (putsL 0 (os'.take k) ds (fun _ => true) s.fr) ps) = true := hap
    have hΓ : ∀ R', R' ≠ R → Γ2 R' = s.Γ R' := hΓ
    have hlo : lateOps os' k = os'.take k ++ [⟨dst, .store size aa xx, none⟩] := by unfold lateOps; rw [hok]
    rw [hlo] at hB hm
    refine Qn2 hg hp hlt hB hm hm2 hinv hl hval hr hcp (fun m o h2 hnear ho Kd hv => ?_) hK
    rcases hcop m h2 with h4 | h4
    · rw [hnear] at h4; cases h4
    · unfold quietB at h4
      rw [ho] at h4
      have stab : ∀ n : Nat, (((os'.take k).drop m).all fun o => o.dst != some n) = true → putsL 0 (os'.take k) ds (fun i => decide (i < 0 + m)) s.fr n = putsL 0 (os'.take k) ds (fun _ => true) s.fr n := fun n hall => Qnw _ _ _ _ _ _ fun m' o' ho' hne => by
        simp only [Nat.zero_add, decide_eq_true_eq, ne_eq] at hne
        have hge : m ≤ m' := by omega
        rw [List.all_eq_true] at hall
        have := hall o' (List.mem_of_getElem? (i := m' - m) (by rw [List.getElem?_drop, show m + (m' - m) = m' by omega]; exact ho'))
        simpa using this
      obtain ⟨o1, o2, o3⟩ := o
      split at h4
      · rename_i heq; cases heq; exact hv
      · rename_i heq; cases heq; exact hv
      · rename_i ag sz n heq
        cases heq
        simp only [Bool.and_eq_true] at h4
        have hn := stab n h4.2
        show (AOp.load ag sz (.t n)).step E _ Γ2 (Eff.value Kd) = some r
        have hv : (AOp.load ag sz (.t n)).step E _ s.Γ (Eff.value Kd) = some r := hv
        simp only [AOp.step, Opd.ev] at hv ⊢
        rw [hn] at hv ⊢
        rcases Qfq hap h4.1 with ⟨R', p, e, hne⟩ | ⟨u, e⟩
        · rw [e] at hv ⊢
          simp only [Hp.at] at hv ⊢
          rw [hΓ R' hne]
          exact hv
        · rw [e] at hv ⊢
          exact hv
      · rename_i sh n heq
        cases heq
        simp only [Bool.and_eq_true] at h4
        have hn := stab n h4.2
        show (AOp.loadO sh (.t n)).step E _ Γ2 (Eff.value Kd) = some r
        have hv : (AOp.loadO sh (.t n)).step E _ s.Γ (Eff.value Kd) = some r := hv
        simp only [AOp.step, Opd.ev] at hv ⊢
        rw [hn] at hv ⊢
        rcases Qfq hap h4.1 with ⟨R', p, e, hne⟩ | ⟨u, e⟩
        · rw [e] at hv ⊢
          simp only [Hp.at] at hv ⊢
          rw [hΓ R' hne]
          exact hv
        · rw [e] at hv ⊢
          exact hv
      · rename_i heq
        cases heq
        show (o2).step E _ Γ2 (Eff.value Kd) = some r
        rw [Qgx h4 E _ Γ2 s.Γ]
        exact hv
      · cases h4
  · cases hcop
end
end Go.Proofs.Ytboenehajoaahaa.Am
