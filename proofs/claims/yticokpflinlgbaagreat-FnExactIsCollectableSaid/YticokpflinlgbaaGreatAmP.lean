import Derived.Test.YticokpflinlgbaaGreatAmO
/-
  Calls: what is asked of the functions that are called ('Good'), and what a call then does; min and max.
-/
namespace Go.Proofs.YticokpflinlgbaaGreat.Am
open Go Go.RowKit

/-! ### Data without places -/
section
variable {ρ : Nat → FuncId} {w w' : World} {S S' : Nat → Prop} {β β' : Nat → Pl}

theorem URs.flat_any {us : List U} {cs : List Value} (h : URs ρ w S us cs) (hf : U.flat.flats us = true) : URs ρ w' S' us cs := by
  induction h with
  | nil => exact .nil
  | int k n h ih => exact .int k n (ih (by simpa [U.flat.flats, U.flat] using hf))
  | bool b h ih => exact .bool b (ih (by simpa [U.flat.flats, U.flat] using hf))
  | str s h ih => exact .str s (ih (by simpa [U.flat.flats, U.flat] using hf))
  | nilp h ih => exact .nilp (ih (by simpa [U.flat.flats, U.flat] using hf))
  | nsl k h ih => exact .nsl k (ih (by simpa [U.flat.flats, U.flat] using hf))
  | agg h1 h ih1 ih =>
    simp only [U.flat.flats, U.flat, Bool.and_eq_true] at hf
    exact .agg (ih1 hf.1) (ih hf.2)
  | _ => simp [U.flat.flats, U.flat] at hf

theorem URs.flat_unique {us : List U} {cs cs' : List Value} (h : URs ρ w S us cs) (h' : URs ρ w' S' us cs') (hf : U.flat.flats us = true) : cs = cs' := by
  induction h generalizing cs' with
  | nil => cases h'; rfl
  | int k n h ih => cases h' with | int k n h' => rw [ih h' (by simpa [U.flat.flats, U.flat] using hf)]
  | bool b h ih => cases h' with | bool b h' => rw [ih h' (by simpa [U.flat.flats, U.flat] using hf)]
  | str s h ih => cases h' with | str s h' => rw [ih h' (by simpa [U.flat.flats, U.flat] using hf)]
  | nilp h ih => cases h' with | nilp h' => rw [ih h' (by simpa [U.flat.flats, U.flat] using hf)]
  | nsl k h ih => cases h' with | nsl k h' => rw [ih h' (by simpa [U.flat.flats, U.flat] using hf)]
  | agg h1 h ih1 ih =>
    simp only [U.flat.flats, U.flat, Bool.and_eq_true] at hf
    cases h' with
    | agg h1' h' => rw [ih1 h1' hf.1, ih h' hf.2]
  | _ => simp [U.flat.flats, U.flat] at hf

theorem UV.flat_any {u : U} {v : Value} (h : UV ρ w S u v) (hf : u.flat = true) : UV ρ w' S' u v :=
  let ⟨cs, h1, h2⟩ := h
  ⟨cs, h1.flat_any (by simp [U.flat.flats, hf]), h2⟩

theorem UV.flat_unique {u : U} {v v' : Value} (h : UV ρ w S u v) (h' : UV ρ w' S' u v') (hf : u.flat = true) : v = v' := by
  obtain ⟨cs, h1, h2⟩ := h
  obtain ⟨cs', h1', h2'⟩ := h'
  have := h1.flat_unique h1' (by simp [U.flat.flats, hf])
  subst this
  split at h2
  · rename_i hc
    rw [if_pos hc] at h2'
    rw [h2, h2']
  · rename_i hc
    rw [if_neg hc] at h2'
    rw [h2] at h2'
    simpa using h2'

theorem V1s_flat_any : ∀ {us : List U} {vs : List Value}, V1s ρ w S β (us.map .val) vs → U.flat.flats us = true → V1s ρ w' S' β' (us.map .val) vs
  | [], _, h, _ => h
  | u :: us, vs, h, hf => by
    obtain ⟨v, vs', rfl, h1, h2⟩ := h
    simp only [U.flat.flats, Bool.and_eq_true] at hf
    exact ⟨v, vs', rfl, (h1.uv.flat_any hf.1).v1, V1s_flat_any h2 hf.2⟩

theorem V1s_flat_unique : ∀ {us : List U} {vs vs' : List Value}, V1s ρ w S β (us.map .val) vs → V1s ρ w' S' β' (us.map .val) vs' → U.flat.flats us = true → vs = vs'
  | [], vs, vs', h, h', _ => by
    have h : vs = [] := h
    have h' : vs' = [] := h'
    rw [h, h']
  | u :: us, vs, vs', h, h', hf => by
    obtain ⟨v, vs1, rfl, h1, h2⟩ := h
    obtain ⟨v', vs1', rfl, h1', h2'⟩ := h'
    simp only [U.flat.flats, Bool.and_eq_true] at hf
    rw [h1.uv.flat_unique h1'.uv hf.1, V1s_flat_unique h2 h2' hf.2]

theorem VD.flat_any {u : U} {v : Value} (h : VD ρ w S β (.val u) v) (hf : u.flat = true) : VD ρ w' S' β' (.val u) v := by
  by_cases ht : ∃ us, u = .tup us
  · obtain ⟨us, rfl⟩ := ht
    obtain ⟨vs, e, h1⟩ := h
    exact ⟨vs, e, V1s_flat_any h1 (by simpa [U.flat] using hf)⟩
  · exact VD_val ((h.uv (fun us e => ht ⟨us, e⟩)).flat_any hf)

theorem VD.flat_unique {u : U} {v v' : Value} (h : VD ρ w S β (.val u) v) (h' : VD ρ w' S' β' (.val u) v') (hf : u.flat = true) : v = v' := by
  by_cases ht : ∃ us, u = .tup us
  · obtain ⟨us, rfl⟩ := ht
    obtain ⟨vs, e, h1⟩ := h
    obtain ⟨vs', e', h1'⟩ := h'
    rw [e, e', V1s_flat_unique h1 h1' (by simpa [U.flat] using hf)]
  · exact (h.uv (fun us e => ht ⟨us, e⟩)).flat_unique (h'.uv (fun us e => ht ⟨us, e⟩)) hf

/-! ### What is asked of the functions that are called -/
/-- Arguments that lie in memory that stands. -/
def Args (ρ : Nat → FuncId) (w : World) (S : Nat → Prop) : List U → List Value → Prop
  | [], [] => True
  | u :: us, v :: vs => (∀ β, VD ρ w S β (.val u) v) ∧ Args ρ w S us vs
  | _, _ => False

theorem Args.mono (hS : ∀ b, S b → S' b) (hc : ∀ b o v, S b → w.cell? ⟨b, o, none⟩ = some v → w'.cell? ⟨b, o, none⟩ = some v) : ∀ {us : List U} {vs : List Value}, Args ρ w S us vs → Args ρ w' S' us vs
  | [], [], _ => trivial
  | [], _ :: _, h => h.elim
  | _ :: _, [], h => h.elim
  | _ :: _, _ :: _, h => ⟨fun β => (h.1 β).val_mono hS hc, Args.mono hS hc h.2⟩

theorem Args.append : ∀ {us us2 : List U} {vs vs2 : List Value}, Args ρ w S us vs → Args ρ w S us2 vs2 → Args ρ w S (us ++ us2) (vs ++ vs2)
  | [], _, [], _, _, h2 => h2
  | [], _, _ :: _, _, h, _ => h.elim
  | _ :: _, _, [], _, h, _ => h.elim
  | _ :: _, _, _ :: _, _, h, h2 => ⟨h.1, Args.append h.2 h2⟩

/-- A closure's own. -/
theorem Args.caps : ∀ {us : List U} {vs : List Value}, URs ρ w S us vs → (∀ u ∈ us, u.isVp = true) → Args ρ w S us vs
  | [], vs, h, _ => by cases h; trivial
  | u :: us, vs, h, ha => by
    have hu := ha u (by simp)
    cases u with
    | vp u =>
      cases h with
      | vp b off hb hc h1 h => exact ⟨fun β => VD_val ⟨[_], .vp b off hb hc h1 .nil, rfl⟩, Args.caps h (fun u hu => ha u (by simp [hu]))⟩
    | _ => cases hu
end

def callOK (P : Program) (f : FuncId) : Bool := match P.funcs[f]? with
  | some fn => fn.body.isSome && !(fn.name == "runtime.NumGoroutine")
  | none => false

theorem run_callFunc {P : Program} {f : FuncId} (h : callOK P f = true) (args : Array Value) (w : World) : (callFunc f args).run P w = .ok (.enter f args) w := by
  unfold callOK at h
  split at h
  · rename_i fn hf
    simp only [Bool.and_eq_true, Bool.not_eq_true'] at h
    obtain ⟨h1, h2⟩ := h
    have h3 : fn.body ≠ none := by intro hb; rw [hb] at h1; cases h1
    have h4 : fn.name ≠ "runtime.NumGoroutine" := by intro hn; rw [hn] at h2; simp at h2
    simp [callFunc, hf, h3, h4]
  · cases h

/-- What a call of the function number q is to do: it hands back what reads as u. -/
def GoodV (P : Program) (ρ : Nat → FuncId) (q : Nat) (us : List U) (u : U) : Prop :=
  ∀ (w : World) (S : Nat → Prop) (vs : List Value), (∀ b, S b → b < w.heap.size) → Args ρ w S us vs →
    Calls P (ρ q) vs.toArray w fun e w' => ∃ v, e = .returned v ∧ Below w.heap.size w w' ∧ ∀ β, VD ρ w' (fun b => S b ∨ (w.heap.size ≤ b ∧ b < w'.heap.size)) β (.val u) v

/-- .. it hands back a slice of flat data, all of it new. -/
def GoodF (P : Program) (ρ : Nat → FuncId) (q : Nat) (us : List U) (u : U) : Prop :=
  ∃ k xs, u = .sl k xs ∧ ∀ (w : World) (S : Nat → Prop) (vs : List Value), (∀ b, S b → b < w.heap.size) → Args ρ w S us vs →
    Calls P (ρ q) vs.toArray w fun e w' => ∃ v, e = .returned v ∧ Below w.heap.size w w' ∧ ArrNew ρ w w' (fun _ => False) k xs v

/-- .. it changes a slice of its caller's (its first argument). -/
def GoodM (P : Program) (ρ : Nat → FuncId) (q : Nat) (us : List U) (u : U) : Prop :=
  ∃ k xs us' y ys, us = .agg [.tup [.sl k xs]] :: us' ∧ u = .tup [y, .sl k ys] ∧ ∀ (w : World) (S : Nat → Prop) (v0 : Value) (vs : List Value) (Bs : List Nat), (∀ b, S b → b < w.heap.size ∧ b ∉ Bs) → (∀ b ∈ Bs, b < w.heap.size) →
    (∀ β, RootOK ρ w (fun _ => False) β (.arr k xs) (.vir v0) Bs) → Args ρ w S us' vs →
    Calls P (ρ q) (v0 :: vs).toArray w fun e w' => ∃ v, e = .returned v ∧ (∀ S β, VD ρ w' S β (.val y) v) ∧ Behind (fun b => b ∈ Bs) w w' ∧ ∀ β, RootOK ρ w' (fun _ => False) β (.arr k ys) (.vir v0) Bs

def GoodAt (P : Program) (ρ : Nat → FuncId) (q : Nat) (us : List U) (u : U) : Prop :=
  callOK P (ρ q) = true ∧ GoodV P ρ q us u ∧ (q / 100000 = 1 → GoodF P ρ q us u) ∧ (2 ≤ q / 100000 → GoodM P ρ q us u)

def Good (P : Program) (ρ : Nat → FuncId) (E : Env) : Prop := ∀ q us u, E q us = some u → GoodAt P ρ q us u

section
variable {α : Type} {P : Program} {ρ : Nat → FuncId} {base : Nat → Prop} {N : Nat} {fr : Frm} {S₀ : Nat → Prop} {Γ : Hp} {β : Nat → Pl} {B : Nat → List Nat} {a : Act} {w w' : World} {E : Env}
  {K : Eff → Option α} {r : α} {G : Prop} {o : Oper}

def opdsOK (ρ : Nat → FuncId) (N : Nat) : List Operand → List Opd → Bool
  | [], [] => true
  | x :: xs, x' :: xs' => opdOK ρ N x x' && opdsOK ρ N xs xs'
  | _, _ => false

theorem Rel.args (hrel : Rel ρ S₀ base N fr Γ β B a w) : ∀ {xs : List Operand} {xs' : List Opd} {us : List U}, opdsOK ρ N xs xs' = true → allVals (evs fr xs') = some us → Args ρ w (Stands S₀ w Γ B) us (xs.map a.eval)
  | [], [], us, _, h => by
    simp only [evs, List.map_nil, allVals, Option.some.injEq] at h
    subst h; trivial
  | [], _ :: _, _, h, _ => by cases h
  | _ :: _, [], _, h, _ => by cases h
  | x :: xs, x' :: xs', us, hx, h => by
    simp only [opdsOK, Bool.and_eq_true] at hx
    have hv := hrel.opd hx.1
    simp only [evs, List.map_cons] at h
    cases he : x'.ev fr with
    | val u =>
      rw [he] at h hv
      simp only [allVals, Option.map_eq_some_iff] at h
      obtain ⟨us', h, rfl⟩ := h
      exact ⟨fun β' => hv.val_mono (fun _ h => h) (fun _ _ _ _ h => h), hrel.args hx.2 h⟩
    | _ => rw [he] at h; cases h

theorem Rel.snapArgs (hrel : Rel ρ S₀ base N fr Γ β B a w) {n : Nat} : ∀ {xs : List Operand} {xs' : List Opd} {us : List U}, opdsOK ρ N xs xs' = true → snaps (Am.snap Γ n) (evs fr xs') = some us → Args ρ w (fun b => S₀ b ∧ b < w.heap.size) us (xs.map a.eval)
  | [], [], us, _, h => by
    simp only [evs, List.map_nil, snaps, snap.snaps, Option.some.injEq] at h
    subst h; trivial
  | [], _ :: _, _, h, _ => by cases h
  | _ :: _, [], _, h, _ => by cases h
  | x :: xs, x' :: xs', us, hx, h => by
    simp only [opdsOK, Bool.and_eq_true] at hx
    have hv := hrel.opd hx.1
    simp only [evs, List.map_cons, snaps, snap.snaps, Option.bind_eq_some_iff, Option.map_eq_some_iff] at h
    obtain ⟨u, hu, us', hus, rfl⟩ := h
    exact ⟨fun β' => hrel.snap hv hu, hrel.snapArgs hx.2 hus⟩

/-- A call's end. -/
theorem call_end (hg : Good P ρ E) {q : Nat} {us : List U} {u : U} {vs : List Value} (hE : E q us = some u) {fl : Bool} (h : u.res fl K = some r)
    (hrun : ∀ w', Below w.heap.size w w' → callOK P (ρ q) = true → (execOp a.eval o).run P w' = .ok (.enter (ρ q) vs.toArray) w')
    (hargs : Args ρ w (Stands S₀ w Γ B) us vs ∨ (fl = true ∧ Args ρ w (fun b => S₀ b ∧ b < w.heap.size) us vs)) (hK : Cont P ρ S₀ Γ β B a w o K r G) : G := by
  obtain ⟨hok, hcalls, _⟩ := hg q us u hE
  have hres : ∃ fl', K (.cl fl' u) = some r ∧ (fl' = true → u.flat = true) ∧ (fl = true → fl' = true) := by
    cases fl with
    | false => exact ⟨false, h, fun e => (by cases e), fun e => (by cases e)⟩
    | true =>
      simp only [U.res, U.asFlat] at h
      split at h
      · rename_i hf; exact ⟨true, h, fun _ => hf, fun _ => rfl⟩
      · cases h
  obtain ⟨fl', hr, hflat, hfl⟩ := hres
  refine hK.call fl' u (ρ q) vs.toArray hr hflat (fun w' hw' => hrun w' hw' hok) fun w' hw' => ?_
  have hcell : ∀ b o v, b < w.heap.size → w.cell? ⟨b, o, none⟩ = some v → w'.cell? ⟨b, o, none⟩ = some v := fun b o v hb hv => (hw'.cell (p := ⟨b, o, none⟩) hb).trans hv
  rcases hargs with hargs | ⟨hf, hargs⟩
  · refine (hcalls w' (Stands S₀ w Γ B) vs (fun b hb => Nat.lt_of_lt_of_le hb.1 hw'.size) (hargs.mono (fun _ h => h) (fun b o v hb hv => hcell b o v hb.1 hv))).mono fun e w'' he => ?_
    obtain ⟨v, h1, h2, h3⟩ := he
    exact ⟨v, h1, h2, h3 β⟩
  · refine (hcalls w' (fun b => S₀ b ∧ b < w.heap.size) vs (fun b hb => Nat.lt_of_lt_of_le hb.2 hw'.size) (hargs.mono (fun _ h => h) (fun b o v hb hv => hcell b o v hb.2 hv))).mono fun e w'' he => ?_
    obtain ⟨v, h1, h2, h3⟩ := he
    exact ⟨v, h1, h2, (h3 β).flat_any (hflat (hfl hf))⟩

theorem sound_call (hg : Good P ρ E) {q : Nat} {f : FuncId} {args : Array Operand} {tys : Array TypeId} {args' : List Opd} {fl : Bool} (hrel : Rel ρ S₀ base N fr Γ β B a w) (ho : o.op = .call { callee := .value (.func f), args := args, argTypes := tys }) (hf : ρ q = f) (hx : opdsOK ρ N args.toList args' = true)
    (h : (AOp.call fl q args').step E fr Γ K = some r) (hK : Cont P ρ S₀ Γ β B a w o K r G) : G := by
  subst hf
  have hrun : ∀ w', Below w.heap.size w w' → callOK P (ρ q) = true → (execOp a.eval o).run P w' = .ok (.enter (ρ q) (args.toList.map a.eval).toArray) w' := fun w' _ hok => by
    simp only [execOp, ho, resolve, Deferred.ofValue, Act.eval, Sem.run_bind, Sem.run_pure, Result.andThen_ok, invoke]
    rw [run_callFunc hok]
    congr 2
    apply Array.ext'
    simp
  simp only [AOp.step] at h
  cases hv : allVals (evs fr args') with
  | some us =>
    rw [hv] at h
    obtain ⟨u, hE, h⟩ := Option.bind_eq_some_iff.1 h
    exact call_end hg hE h hrun (.inl (hrel.args hx hv)) hK
  | none =>
    rw [hv] at h
    obtain ⟨us, hs, h⟩ := Option.bind_eq_some_iff.1 h
    obtain ⟨u, hE, h⟩ := Option.bind_eq_some_iff.1 h
    exact call_end hg hE h hrun (.inr ⟨rfl, hrel.snapArgs hx hs⟩) hK

theorem sound_callv (hg : Good P ρ E) {f : Operand} {f' : Opd} {args : Array Operand} {tys : Array TypeId} {args' : List Opd} {fl : Bool} (hrel : Rel ρ S₀ base N fr Γ β B a w) (ho : o.op = .call { callee := .value f, args := args, argTypes := tys }) (hf : opdOK ρ N f f' = true) (hx : opdsOK ρ N args.toList args' = true)
    (h : (AOp.callv fl f' args').step E fr Γ K = some r) (hK : Cont P ρ S₀ Γ β B a w o K r G) : G := by
  have hrun : ∀ (q : Nat) (vs : List Value), a.eval f = .func (.func (ρ q)) #[] vs.toArray → ∀ w', Below w.heap.size w w' → callOK P (ρ q) = true → (execOp a.eval o).run P w' = .ok (.enter (ρ q) (args.toList.map a.eval ++ vs).toArray) w' := fun q vs e1 w' _ hok => by
    simp only [execOp, ho, resolve, e1, Deferred.ofValue, Sem.run_bind, Sem.run_pure, Result.andThen_ok, invoke]
    rw [run_callFunc hok]
    congr 2
    apply Array.ext'
    simp
  have hv := hrel.opd hf
  simp only [AOp.step] at h
  cases hav : allVals (f'.ev fr :: evs fr args') with
  | some us =>
    rw [hav] at h
    obtain ⟨g, hg0, h⟩ := Option.bind_eq_some_iff.1 h
    cases he : f'.ev fr with
    | val u0 =>
      rw [he] at hav hv
      simp only [allVals, Option.map_eq_some_iff] at hav
      obtain ⟨us', hav, rfl⟩ := hav
      simp only [List.getElem?_cons_zero, Option.some.injEq] at hg0
      subst hg0
      cases u0 with
      | fn q caps =>
        simp only [U.asFn, List.tail_cons] at h
        obtain ⟨u, hE, h⟩ := Option.bind_eq_some_iff.1 h
        obtain ⟨vs, e1, h1, h2⟩ := VD_fn hv
        exact call_end hg hE h (hrun q vs e1) (.inl ((hrel.args hx hav).append (Args.caps h1 h2))) hK
      | _ => cases h
    | _ => rw [he] at hav; cases hav
  | none =>
    rw [hav] at h
    obtain ⟨g, hg0, h⟩ := Option.bind_eq_some_iff.1 h
    cases g with
    | fn q caps =>
      simp only [U.asFn] at h
      obtain ⟨us, hs, h⟩ := Option.bind_eq_some_iff.1 h
      obtain ⟨u, hE, h⟩ := Option.bind_eq_some_iff.1 h
      obtain ⟨vs, e1, h1, h2⟩ := VD_fn (hrel.snap (β' := β) hv hg0)
      exact call_end hg hE h (hrun q vs e1) (.inr ⟨rfl, (hrel.snapArgs hx hs).append (Args.caps h1 h2)⟩) hK
    | _ => cases h

/-- A call that hands back a new slice. -/
theorem sound_callF (hg : Good P ρ E) {k q : Nat} {f : FuncId} {args : Array Operand} {tys : Array TypeId} {args' : List Opd} (hq : q < 100000) (hrel : Rel ρ S₀ base N fr Γ β B a w) (ho : o.op = .call { callee := .value (.func f), args := args, argTypes := tys }) (hf : ρ (100000 + q) = f) (hx : opdsOK ρ N args.toList args' = true)
    (h : (AOp.callF k q args').step E fr Γ K = some r) (hK : Cont P ρ S₀ Γ β B a w o K r G) : G := by
  subst hf
  simp only [AOp.step] at h
  obtain ⟨us, hs, h⟩ := Option.bind_eq_some_iff.1 h
  obtain ⟨u, hE, h⟩ := Option.bind_eq_some_iff.1 h
  obtain ⟨hok, _, hF, _⟩ := hg _ us u hE
  obtain ⟨k', xs, rfl, hcalls⟩ := hF (by omega)
  simp only [U.asSl] at h
  split at h
  rotate_left
  · cases h
  rename_i hc
  obtain ⟨rfl, _⟩ := hc
  refine hK.callF k' xs (ρ (100000 + q)) (args.toList.map a.eval).toArray h (fun w' _ => ?_) fun w' hw' => ?_
  · simp only [execOp, ho, resolve, Deferred.ofValue, Act.eval, Sem.run_bind, Sem.run_pure, Result.andThen_ok, invoke]
    rw [run_callFunc hok]
    congr 2
    apply Array.ext'
    simp
  · have hcell : ∀ b o v, b < w.heap.size → w.cell? ⟨b, o, none⟩ = some v → w'.cell? ⟨b, o, none⟩ = some v := fun b o v hb hv => (hw'.cell (p := ⟨b, o, none⟩) hb).trans hv
    exact hcalls w' (fun b => S₀ b ∧ b < w.heap.size) _ (fun b hb => Nat.lt_of_lt_of_le hb.2 hw'.size) ((hrel.snapArgs hx hs).mono (fun _ h => h) (fun b o v hb hv => hcell b o v hb.2 hv))

/-- A call that changes a slice of the call's own. -/
theorem sound_callM (hg : Good P ρ E) {k q : Nat} {f : FuncId} {args : Array Operand} {x : Operand} {xs0 : List Operand} {tys : Array TypeId} {x' : Opd} {args' : List Opd} (hrel : Rel ρ S₀ base N fr Γ β B a w) (ho : o.op = .call { callee := .value (.func f), args := args, argTypes := tys }) (hf : ρ (200000 + q) = f) (ha : args.toList = x :: xs0) (hx0 : opdOK ρ N x x' = true) (hx : opdsOK ρ N xs0 args' = true)
    (h : (AOp.callM k q x' args').step E fr Γ K = some r) (hK : Cont P ρ S₀ Γ β B a w o K r G) : G := by
  subst hf
  simp only [AOp.step] at h
  split at h
  rotate_left
  · cases h
  rename_i R k' hxe
  split at h
  rotate_left
  · cases h
  rename_i k2 xs hR
  obtain ⟨us, hus, h⟩ := Option.bind_eq_some_iff.1 h
  split at h
  rotate_left
  · cases h
  rename_i hc
  obtain ⟨rfl, rfl, hflat⟩ := hc
  obtain ⟨u, hE, h⟩ := Option.bind_eq_some_iff.1 h
  obtain ⟨hok, _, _, hM⟩ := hg _ _ u hE
  obtain ⟨k3, xs3, us3, y, ys, he, rfl, hcalls⟩ := hM (by omega)
  simp only [List.cons.injEq, U.agg.injEq, U.tup.injEq, U.sl.injEq, and_true] at he
  obtain ⟨⟨rfl, rfl⟩, rfl⟩ := he
  simp only [U.asMut, if_true] at h
  split at h
  rotate_left
  · cases h
  have hroot := hrel.roots R _ hR
  have hv := hrel.opd hx0
  rw [hxe] at hv
  obtain ⟨v0, hv0, hsub⟩ := VD_ref hv
  obtain ⟨hev, _⟩ := hsub
  have hroot' : ∀ β', RootOK ρ w (fun _ => False) β' (.arr k2 xs) (.vir v0) (B R) := fun β' => by
    rw [hv0] at hroot
    rcases hroot with h1 | ⟨b, cap, cur, e, c1, h1, h2, h3, h4, h5, h6, h7, h8, h9⟩
    · exact .inl h1
    · exact .inr ⟨b, cap, cur, e, c1, h1, h2, h3, h4, h5, h6, h7, h8, h9.flat_any hflat⟩
  refine hK.callM R k2 ys y (ρ (200000 + q)) (v0 :: xs0.map a.eval).toArray h (by rw [hR]; rfl) ?_ ?_
  · simp only [execOp, ho, resolve, Deferred.ofValue, Act.eval, Sem.run_bind, Sem.run_pure, Result.andThen_ok, invoke]
    rw [run_callFunc hok]
    congr 2
    apply Array.ext'
    simp [ha, ← hev, Act.eval]
  · refine (hcalls w (Stands S₀ w Γ B) v0 (xs0.map a.eval) (B R) (fun b hb => ⟨hb.1, hb.2 R (by rw [hR]; rfl)⟩) (fun b hb => (hrel.inside R (by rw [hR]; rfl) b hb).2) hroot' (hrel.args hx hus)).mono fun e w'' he => ?_
    obtain ⟨v, h1, h2, h3, h4⟩ := he
    exact ⟨v, h1, h2, h3, fun β' => by rw [hv0]; exact h4 β'⟩

/-! ### min and max -/
theorem intsOf_some (hrel : Rel ρ S₀ base N fr Γ β B a w) : ∀ {xs : List Operand} {xs' : List Opd} {F : List Int → Option α}, opdsOK ρ N xs xs' = true → intsOf fr xs' F = some r → ∃ ns : List Int, xs.map a.eval = ns.map (.int .i64 ·) ∧ F ns = some r
  | [], [], F, _, h => ⟨[], rfl, h⟩
  | [], _ :: _, _, h, _ => by cases h
  | _ :: _, [], _, h, _ => by cases h
  | x :: xs, x' :: xs', F, hx, h => by
    simp only [opdsOK, Bool.and_eq_true] at hx
    obtain ⟨n, hn, h⟩ := dInt_some (K := fun n => intsOf fr xs' fun ns => F (n :: ns)) h
    obtain ⟨ns, hns, h⟩ := intsOf_some hrel (F := fun ns => F (n :: ns)) hx.2 h
    exact ⟨n :: ns, by simp [hrel.int hx.1 hn, hns], h⟩

theorem run_fold_max (w : World) : ∀ (ns : List Int) (n : Int), ((ns.map (Value.int .i64 ·)).foldlM Builtin.max2 (.int .i64 n)).run P w = .ok (.int .i64 (ns.foldl (fun a b => if a < b then b else a) n)) w
  | [], n => rfl
  | m :: ns, n => by
    simp only [List.map_cons, List.foldlM_cons, Builtin.max2, Sem.run_bind, Sem.run_pure, Result.andThen_ok, List.foldl_cons]
    exact run_fold_max w ns _

theorem run_fold_min (w : World) : ∀ (ns : List Int) (n : Int), ((ns.map (Value.int .i64 ·)).foldlM Builtin.min2 (.int .i64 n)).run P w = .ok (.int .i64 (ns.foldl (fun a b => if b < a then b else a) n)) w
  | [], n => rfl
  | m :: ns, n => by
    simp only [List.map_cons, List.foldlM_cons, Builtin.min2, Sem.run_bind, Sem.run_pure, Result.andThen_ok, List.foldl_cons]
    exact run_fold_min w ns _

theorem sound_minmax {mx : Bool} {args : Array Operand} {tys : Array TypeId} {args' : List Opd} (hrel : Rel ρ S₀ base N fr Γ β B a w) (ho : o.op = .call { callee := .builtin (if mx then .max else .min), args := args, argTypes := tys }) (hx : opdsOK ρ N args.toList args' = true)
    (h : (AOp.minmax mx args').step E fr Γ K = some r) (hK : Cont P ρ S₀ Γ β B a w o K r G) : G := by
  simp only [AOp.step] at h
  obtain ⟨ns, hns, h⟩ := intsOf_some (F := fun ns => match ns with
    | [] => none
    | n :: ns => K (.v (.val (.int .i64 (ns.foldl (fun a b => if mx then (if a < b then b else a) else (if b < a then b else a)) n))))) hrel hx h
  cases ns with
  | nil => cases h
  | cons n ns =>
    have hargs : (args.map a.eval).toList = .int .i64 n :: ns.map (Value.int .i64 ·) := by simpa using hns
    refine hK.here _ _ h (VD_val (UV_int _ _ _)) fun w' _ => ?_
    cases mx with
    | true =>
      simp only [if_true, execOp, ho, resolve, Sem.run_bind, Sem.run_pure, Result.andThen_ok, invoke, builtin, Builtin.max_, hargs, run_fold_max]
    | false =>
      simp only [Bool.false_eq_true, if_false, execOp, ho, resolve, Sem.run_bind, Sem.run_pure, Result.andThen_ok, invoke, builtin, Builtin.min_, hargs, run_fold_min]
end
end Go.Proofs.YticokpflinlgbaaGreat.Am
