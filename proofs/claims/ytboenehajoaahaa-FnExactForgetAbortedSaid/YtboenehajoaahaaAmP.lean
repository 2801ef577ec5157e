import Derived.Test.YtboenehajoaahaaAmO
namespace Go.Proofs.Ytboenehajoaahaa.Am
open Go Go.RowKit
section
variable {ρ : Nat → FuncId} {w w' : World} {S S' : Nat → Prop} {β β' : Nat → Lay}
theorem URs.flat_any {us : List U} {cs : List Value} (h : URs ρ w S us cs) (hf : U.flat.flats us = true) : URs ρ w' S' us cs := by
  induction h with
  | nil => exact .nil
  | int k n h ih => exact .int k n (ih (by simpa [U.flat.flats, U.flat] using hf))
  | bool b h ih => exact .bool b (ih (by simpa [U.flat.flats, U.flat] using hf))
  | str s h ih => exact .str s (ih (by simpa [U.flat.flats, U.flat] using hf))
  | raw s hv h ih => exact .raw s hv (ih (by simpa [U.flat.flats, U.flat] using hf))
  | nilp h ih => exact .nilp (ih (by simpa [U.flat.flats, U.flat] using hf))
  | nsl k h ih => exact .nsl k (ih (by simpa [U.flat.flats, U.flat] using hf))
  | agg h1 h ih1 ih =>
    simp only [U.flat.flats, U.flat, Bool.and_eq_true] at hf
    exact .agg (ih1 hf.1) (ih hf.2)
  | _ => simp [U.flat.flats, U.flat] at hf
theorem URs.flat_unique {us : List U} {cs cs' : List Value} (h : URs ρ w S us cs) (h' : URs ρ w' S' us cs') (hf : U.flat.flats us = true) : cs = cs' := by
  induction h generalizing cs' with
  | nil => cases h'; rfl
  | int k n h ih => cases h' with | int k n h' => rw [ih h' (by simpa [U.flat.flats, U.flat] using hf)]
  | bool b h ih => cases h' with | bool b h' => rw [ih h' (by simpa [U.flat.flats, U.flat] using hf)]
  | str s h ih => cases h' with | str s h' => rw [ih h' (by simpa [U.flat.flats, U.flat] using hf)]
  | raw s hv h ih => cases h' with | raw s hv h' => rw [ih h' (by simpa [U.flat.flats, U.flat] using hf)]
  | nilp h ih => cases h' with | nilp h' => rw [ih h' (by simpa [U.flat.flats, U.flat] using hf)]
  | nsl k h ih => cases h' with | nsl k h' => rw [ih h' (by simpa [U.flat.flats, U.flat] using hf)]
  | agg h1 h ih1 ih =>
    simp only [U.flat.flats, U.flat, Bool.and_eq_true] at hf
    cases h' with
    | agg h1' h' => rw [ih1 h1' hf.1, ih h' hf.2]
  | _ => simp [U.flat.flats, U.flat] at hf
theorem UV.flat_any {u : U} {v : Value} (h : UV ρ w S u v) (hf : u.flat = true) : UV ρ w' S' u v :=
  let ⟨cs, h1, h2⟩ := h
  ⟨cs, h1.flat_any (by simp [U.flat.flats, hf]), h2⟩
theorem UV.flat_unique {u : U} {v v' : Value} (h : UV ρ w S u v) (h' : UV ρ w' S' u v') (hf : u.flat = true) : v = v' := by
  obtain ⟨cs, h1, h2⟩ := h
  obtain ⟨cs', h1', h2'⟩ := h'
  have := h1.flat_unique h1' (by simp [U.flat.flats, hf])
  subst this
  split at h2
  · rename_i hc
    rw [if_pos hc] at h2'
    rw [h2, h2']
  · rename_i hc
    rw [if_neg hc] at h2'
    rw [h2] at h2'
    simpa using h2'
theorem Qh5 : ∀ {us : List U} {vs : List Value}, V1s ρ w S β (us.map .val) vs → U.flat.flats us = true → V1s ρ w' S' β' (us.map .val) vs
  | [], _, h, _ => h
  | u :: us, vs, h, hf => by
    obtain ⟨v, vs', rfl, h1, h2⟩ := h
    simp only [U.flat.flats, Bool.and_eq_true] at hf
    exact ⟨v, vs', rfl, (h1.uv.flat_any hf.1).v1, Qh5 h2 hf.2⟩
theorem Qh6 : ∀ {us : List U} {vs vs' : List Value}, V1s ρ w S β (us.map .val) vs → V1s ρ w' S' β' (us.map .val) vs' → U.flat.flats us = true → vs = vs'
  | [], vs, vs', h, h', _ => by
    have h : vs = [] := h
    have h' : vs' = [] := h'
    rw [h, h']
  | u :: us, vs, vs', h, h', hf => by
    obtain ⟨v, vs1, rfl, h1, h2⟩ := h
    obtain ⟨v', vs1', rfl, h1', h2'⟩ := h'
    simp only [U.flat.flats, Bool.and_eq_true] at hf
    rw [h1.uv.flat_unique h1'.uv hf.1, Qh6 h2 h2' hf.2]
theorem VD.flat_any {u : U} {v : Value} (h : VD ρ w S β (.val u) v) (hf : u.flat = true) : VD ρ w' S' β' (.val u) v := by
  by_cases ht : ∃ us, u = .tup us
  · obtain ⟨us, rfl⟩ := ht
    obtain ⟨vs, e, h1⟩ := h
    exact ⟨vs, e, Qh5 h1 (by simpa [U.flat] using hf)⟩
  · exact Ql ((h.uv (fun us e => ht ⟨us, e⟩)).flat_any hf)
theorem VD.flat_unique {u : U} {v v' : Value} (h : VD ρ w S β (.val u) v) (h' : VD ρ w' S' β' (.val u) v') (hf : u.flat = true) : v = v' := by
  by_cases ht : ∃ us, u = .tup us
  · obtain ⟨us, rfl⟩ := ht
    obtain ⟨vs, e, h1⟩ := h
    obtain ⟨vs', e', h1'⟩ := h'
    rw [e, e', Qh6 h1 h1' (by simpa [U.flat] using hf)]
  · exact (h.uv (fun us e => ht ⟨us, e⟩)).flat_unique (h'.uv (fun us e => ht ⟨us, e⟩)) hf
def Args (ρ : Nat → FuncId) (w : World) (S : Nat → Prop) : List U → List Value → Prop
  | [], [] => True
  | u :: us, v :: vs => (∀ β, VD ρ w S β (.val u) v) ∧ Args ρ w S us vs
  | _, _ => False
theorem Args.mono (hS : ∀ b, S b → S' b) (hc : ∀ b o v, S b → w.cell? ⟨b, o, none⟩ = some v → w'.cell? ⟨b, o, none⟩ = some v) : ∀ {us : List U} {vs : List Value}, Args ρ w S us vs → Args ρ w' S' us vs
  | [], [], _ => trivial
  | [], _ :: _, h => h.elim
  | _ :: _, [], h => h.elim
  | _ :: _, _ :: _, h => ⟨fun β => (h.1 β).val_mono hS hc, Args.mono hS hc h.2⟩
theorem Args.append : ∀ {us us2 : List U} {vs vs2 : List Value}, Args ρ w S us vs → Args ρ w S us2 vs2 → Args ρ w S (us ++ us2) (vs ++ vs2)
  | [], _, [], _, _, h2 => h2
  | [], _, _ :: _, _, h, _ => h.elim
  | _ :: _, _, [], _, h, _ => h.elim
  | _ :: _, _, _ :: _, _, h, h2 => ⟨h.1, Args.append h.2 h2⟩
theorem Args.caps : ∀ {us : List U} {vs : List Value}, URs ρ w S us vs → (∀ u ∈ us, u.isVp = true) → Args ρ w S us vs
  | [], vs, h, _ => by cases h; trivial
  | u :: us, vs, h, ha => by
    have hu := ha u (by simp)
    cases u with
    | vp u =>
      cases h with
      | vp b off hb hc h1 h => exact ⟨fun β => Ql ⟨[_], .vp b off hb hc h1 .nil, rfl⟩, Args.caps h (fun u hu => ha u (by simp [hu]))⟩
    | _ => cases hu
end
def callOK (P : Program) (f : FuncId) : Bool := match P.funcs[f]? with
  | some fn => fn.body.isSome && !(fn.name == "runtime.NumGoroutine")
  | none => false
theorem Qbl {P : Program} {f : FuncId} (h : callOK P f = true) (args : Array Value) (w : World) : (callFunc f args).run P w = .ok (.enter f args) w := by
  unfold callOK at h
  split at h
  · rename_i fn hf
    simp only [Bool.and_eq_true, Bool.not_eq_true'] at h
    obtain ⟨h1, h2⟩ := h
    have h3 : fn.body ≠ none := by intro hb; rw [hb] at h1; cases h1
    have h4 : fn.name ≠ "runtime.NumGoroutine" := by intro hn; rw [hn] at h2; simp at h2
    simp [callFunc, hf, h3, h4]
  · cases h
def GoodV (P : Program) (ρ : Nat → FuncId) (q : Nat) (us : List U) (u : U) : Prop :=
  ∀ (w : World) (S : Nat → Prop) (vs : List Value), (∀ b, S b → b < w.heap.size) → Args ρ w S us vs →
    Calls P (ρ q) vs.toArray w fun e w' => ∃ v, e = .returned v ∧ Below w.heap.size w w' ∧ ∀ β, VD ρ w' (fun b => S b ∨ (w.heap.size ≤ b ∧ b < w'.heap.size)) β (.val u) v
def Own (ρ : Nat → FuncId) (w : World) (u : U) (h : Hdr) (cs : List Value) (B : List Nat) : Prop := TCs ρ w (fun _ => False) (fun _ => ⟨.dead, noHdr⟩) [(h, u.ex)] cs B
def Own1 (ρ : Nat → FuncId) (w : World) (u : U) (v : Value) (h : Hdr) (B : List Nat) : Prop := ∃ cs, Own ρ w u h cs B ∧ (if (D.val u).isAgg then v = .agg cs.toArray else cs = [v])
def Owns (ρ : Nat → FuncId) (w : World) : List U → List Value → List Hdr → List Nat → Prop
  | [], vs, hs, B => vs = [] ∧ hs = [] ∧ B = []
  | u :: us, vs, hs, B => ∃ v vs' h hs' B1 B2, vs = v :: vs' ∧ hs = h :: hs' ∧ B = B1 ++ B2 ∧ Own1 ρ w u v h B1 ∧ Owns ρ w us vs' hs' B2
def OwnRes (ρ : Nat → FuncId) (w : World) (u : U) (v : Value) (B : List Nat) : Prop := match u with
  | .tup us => ∃ vs hs, v = .tuple vs.toArray ∧ Owns ρ w us vs hs B
  | u => ∃ h, Own1 ρ w u v h B
def GoodF (P : Program) (ρ : Nat → FuncId) (q : Nat) (us : List U) (u : U) : Prop :=
  ∀ (w : World) (S : Nat → Prop) (vs : List Value), (∀ b, S b → b < w.heap.size) → Args ρ w S us vs →
    Calls P (ρ q) vs.toArray w fun e w' => ∃ v B, e = .returned v ∧ Below w.heap.size w w' ∧ B.Nodup ∧ (∀ b ∈ B, w.heap.size ≤ b ∧ b < w'.heap.size) ∧ OwnRes ρ w' u v B
def GoodM (P : Program) (ρ : Nat → FuncId) (q : Nat) (us : List U) (u : U) : Prop :=
  ∃ k xs us' y ys, us = .agg [.tup [.sl k xs]] :: us' ∧ u = .tup [y, .sl k ys] ∧ ∀ (w : World) (S : Nat → Prop) (v0 : Value) (vs : List Value) (h : Hdr) (Bs : List Nat), (∀ b, S b → b < w.heap.size ∧ b ∉ Bs) → (∀ b ∈ Bs, b < w.heap.size) → Bs.Nodup →
    Own ρ w (.sl k xs) h [v0] Bs → Args ρ w S us' vs →
    Calls P (ρ q) (v0 :: vs).toArray w fun e w' => ∃ v h' Bs', e = .returned v ∧ (∀ S β, VD ρ w' S β (.val y) v) ∧ Behind (fun b => b ∈ Bs) w w' ∧ Bs'.Nodup ∧ (∀ b ∈ Bs', b ∈ Bs ∨ (w.heap.size ≤ b ∧ b < w'.heap.size)) ∧ Own ρ w' (.sl k ys) h' [v0] Bs'
def GoodC (P : Program) (ρ : Nat → FuncId) (q : Nat) (us : List U) (u : U) : Prop :=
  ∃ k xs us', us = .agg [.tup [.sl k xs]] :: us' ∧ ∀ ys, u = .sl k ys → ∀ (w : World) (S : Nat → Prop) (v0 : Value) (vs : List Value) (h : Hdr) (Bs : List Nat), (∀ b, S b → b < w.heap.size ∧ b ∉ Bs) → (∀ b ∈ Bs, b < w.heap.size) → Bs.Nodup →
    Own ρ w (.sl k xs) h [v0] Bs → Args ρ w S us' vs →
    Calls P (ρ q) (v0 :: vs).toArray w fun e w' => ∃ v h' Bs', e = .returned v ∧ Behind (fun b => b ∈ Bs) w w' ∧ Bs'.Nodup ∧ (∀ b ∈ Bs', b ∈ Bs ∨ (w.heap.size ≤ b ∧ b < w'.heap.size)) ∧ Own ρ w' (.sl k ys) h' [v] Bs'
def PCs (ρ : Nat → FuncId) (w : World) (S : Nat → Prop) (c : U) (h : Hdr) (cs : List Value) (B : List Nat) : Prop := ∀ β, TCs ρ w S β [(h, c.pdec.ex)] cs B
def pargs (l : Bool) (p : Value) (vs : List Value) : List Value := if l then vs ++ [p] else p :: vs
def GoodP (l : Bool) (P : Program) (ρ : Nat → FuncId) (q : Nat) (us : List U) (u : U) : Prop :=
  ∃ c us' y c', us = .agg [.tup [c]] :: us' ∧ u = .tup [y, c'] ∧ ∀ (w : World) (S : Nat → Prop) (b : Nat) (e : TypeId) (vs : List Value) (h : Hdr) (cs : List Value) (Bs : List Nat), (∀ x, S x → x < w.heap.size ∧ x ∉ b :: Bs) → (∀ x ∈ b :: Bs, x < w.heap.size) → (b :: Bs).Nodup →
    w.heap[b]? = some (.cells cs.toArray e (0, 0)) → PCs ρ w S c h cs Bs → Args ρ w S us' vs →
    Calls P (ρ q) (pargs l (.pointer (some ⟨b, 0, none⟩)) vs).toArray w fun en w' => ∃ v h' cs' e' Bs', en = .returned v ∧ Behind (fun x => x ∈ b :: Bs) w w' ∧ (b :: Bs').Nodup ∧ (∀ x ∈ Bs', x ∈ Bs ∨ (w.heap.size ≤ x ∧ x < w'.heap.size)) ∧ w'.heap[b]? = some (.cells cs'.toArray e' (0, 0)) ∧
      (∀ β, VD ρ w' (fun x => (S x ∨ x ∈ Bs ∨ (w.heap.size ≤ x ∧ x < w'.heap.size)) ∧ x ∉ b :: Bs') β (.val y) v) ∧ PCs ρ w' (fun x => (S x ∨ x ∈ Bs ∨ (w.heap.size ≤ x ∧ x < w'.heap.size)) ∧ x ∉ b :: Bs') c' h' cs' Bs'
def GoodI (P : Program) (ρ : Nat → FuncId) (q : Nat) (us : List U) (u : U) : Prop :=
  ∃ k xs n ys, us = [.sl k xs, .int .i64 n, .sl k ys] ∧ ∀ zs, u = .sl k zs → ∀ (w : World) (v0 v1 : Value) (h0 h1 : Hdr) (B0 B1 : List Nat), (∀ b ∈ B0 ++ B1, b < w.heap.size) → (B0 ++ B1).Nodup →
    Own ρ w (.sl k xs) h0 [v0] B0 → Own ρ w (.sl k ys) h1 [v1] B1 →
    Calls P (ρ q) #[v0, .int .i64 n, v1] w fun e w' => ∃ v h' Bs', e = .returned v ∧ Behind (fun b => b ∈ B0 ++ B1) w w' ∧ Bs'.Nodup ∧ (∀ b ∈ Bs', b ∈ B0 ++ B1 ∨ (w.heap.size ≤ b ∧ b < w'.heap.size)) ∧ Own ρ w' (.sl k zs) h' [v] Bs'
def GoodX (P : Program) (ρ : Nat → FuncId) (q : Nat) (us : List U) (u : U) : Prop := (q / 100000 = 5 → GoodP true P ρ q us u) ∧ (6 ≤ q / 100000 → GoodI P ρ q us u)
def GoodAt (P : Program) (ρ : Nat → FuncId) (q : Nat) (us : List U) (u : U) : Prop :=
  callOK P (ρ q) = true ∧ match q / 100000 with
  | 0 => GoodV P ρ q us u
  | 1 => GoodF P ρ q us u
  | 2 => GoodM P ρ q us u
  | 3 => GoodC P ρ q us u
  | 4 => GoodP false P ρ q us u
  | _ => GoodX P ρ q us u
def Good (P : Program) (ρ : Nat → FuncId) (E : Env) : Prop := ∀ q us u, E q us = some u → GoodAt P ρ q us u
section
variable {ρ : Nat → FuncId} {w w' : World} {S S' : Nat → Prop} {β β' : Nat → Lay}
theorem Qdh : ∀ (u : U) (h : Hdr) (cs : List Value) (B : List Nat), TCs ρ w S β [(h, u.ex)] cs B → TCs ρ w S' β' [(h, u.ex)] cs B
  | .agg us, h, cs, B, t => TCs.of_agg (go us h cs B 0 0 t.agg_inv)
  | .sl k us, h, cs, B, t => by
    have key := fun c1 B1 => goe us h k c1 B1 0
    simp only [U.ex] at t ⊢
    generalize U.ex.exs us = es at t key ⊢
    cases t with
    | osl0 hh t => cases t; exact .osl0 hh .nil
    | osl hh hb hsz hle hmax hks ht h1 t => cases t; exact .osl hh hb hsz hle hmax hks ht (key _ _ h1) .nil
  | .int k n, h, cs, B, t => by obtain ⟨t1, rfl⟩ := t.val_inv; exact TCs.of_val (t1.flat_any rfl)
  | .bool b, h, cs, B, t => by obtain ⟨t1, rfl⟩ := t.val_inv; exact TCs.of_val (t1.flat_any rfl)
  | .str s, h, cs, B, t => by obtain ⟨t1, rfl⟩ := t.val_inv; exact TCs.of_val (t1.flat_any rfl)
  | .raw s, h, cs, B, t => by obtain ⟨t1, rfl⟩ := t.val_inv; exact TCs.of_val (t1.flat_any rfl)
  | .nil, h, cs, B, t => by obtain ⟨t1, rfl⟩ := t.val_inv; exact TCs.of_val (t1.flat_any rfl)
  | .nsl k, h, cs, B, t => by obtain ⟨t1, rfl⟩ := t.val_inv; exact TCs.of_val (t1.flat_any rfl)
  | .vp u, _, _, _, t => by cases t
  | .fn r us, _, _, _, t => by cases t
  | .tup us, _, _, _, t => by cases t
where
  go : ∀ (us : List U) (h : Hdr) (cs : List Value) (B : List Nat) (j off : Nat), TCs ρ w S β (flds h j off (U.ex.exs us)) cs B → TCs ρ w S' β' (flds h j off (U.ex.exs us)) cs B
    | [], h, cs, B, j, off, t => by cases t; exact .nil
    | u :: us, h, cs, B, j, off, t => by
      obtain ⟨c1, c2, B1, B2, rfl, rfl, _, h1, h2⟩ := TCs.cons_inv t
      exact (Qdh u _ c1 B1 h1).append (go us h c2 B2 _ _ h2)
  goe : ∀ (us : List U) (h : Hdr) (k : Nat) (cs : List Value) (B : List Nat) (i : Nat), TCs ρ w S β (elts h k i (U.ex.exs us)) cs B → TCs ρ w S' β' (elts h k i (U.ex.exs us)) cs B
    | [], h, k, cs, B, i, t => by cases t; exact .nil
    | u :: us, h, k, cs, B, i, t => by
      obtain ⟨c1, c2, B1, B2, rfl, rfl, _, h1, h2⟩ := TCs.cons_inv t
      exact (Qdh u _ c1 B1 h1).append (goe us h k c2 B2 _ h2)
theorem Own.cells {u : U} {h : Hdr} {cs : List Value} {B : List Nat} (o : Own ρ w u h cs B) : TCs ρ w S β [(h, u.ex)] cs B := Qdh u h cs B o
theorem Own.of {u : U} {h : Hdr} {cs : List Value} {B : List Nat} (o : TCs ρ w S β [(h, u.ex)] cs B) : Own ρ w u h cs B := Qdh u h cs B o
theorem Own.hdr {k : Nat} {us : List U} {h : Hdr} {v : Value} {B : List Nat} (o : Own ρ w (.sl k us) h [v] B) : h [] = some v ∧ v.oneCell' = true := by
  obtain ⟨_, v', e, h1, h2, _⟩ := Qda (α := Nat) (d := .own (.sl k us)) (k := k) (K := some 0) (r := 0) (by simp [D.isSl, U.asSlK]) o
  cases e
  exact ⟨h1, h2⟩
theorem Qd4 (m : Tag) : ∀ (s : Shp) (R : Nat) (p : List Step) (u : U) (c d : D), s.viewO R p u = some (c, d) → c.retag m = c
  | .flat ag sz, R, p, u, c, d, hv => by
    rw [Qhz] at hv
    obtain ⟨_, _, hv⟩ := Qag (K := fun u => u.asFlat fun u => some (D.val u, D.val u)) hv
    unfold U.asFlat at hv
    split at hv
    · cases hv; rfl
    · cases hv
  | .int, R, p, u, c, d, hv => by
    cases u with
    | int k n => cases k <;> first | (cases hv; rfl) | cases hv
    | _ => cases hv
  | .bool, R, p, u, c, d, hv => by
    cases u with
    | bool b => cases hv; rfl
    | _ => cases hv
  | .sl k, R, p, u, c, d, hv => by
    rw [Qh0] at hv
    cases u with
    | sl k' us =>
      simp only [U.asSlK] at hv
      split at hv
      · cases hv; rfl
      · cases hv
    | _ => cases hv
  | .agg ss, R, p, u, c, d, hv => by
    rw [Qhy] at hv
    cases u with
    | agg us =>
      simp only [U.asAgg] at hv
      obtain ⟨⟨cs', ds'⟩, h1, h2⟩ := Option.bind_eq_some_iff.1 hv
      cases h2
      simp only [D.retag]
      rw [go ss R p 0 0 us cs' ds' h1]
    | _ => cases hv
where go : ∀ (ss : List Shp) (R : Nat) (p : List Step) (j off : Nat) (us : List U) (c d : List D), viewsO ss R p j off us = some (c, d) → D.retag.retags m c = c
  | [], R, p, j, off, us, c, d, hv => by
    rw [Qh3] at hv
    cases us with
    | nil => cases hv; rfl
    | cons _ _ => cases hv
  | s :: ss, R, p, j, off, us, c, d, hv => by
    rw [Qh2] at hv
    cases us with
    | nil => cases hv
    | cons u us =>
      obtain ⟨⟨c1, d1⟩, h1, hv⟩ := Option.bind_eq_some_iff.1 hv
      obtain ⟨⟨cs', ds'⟩, h2, hv⟩ := Option.bind_eq_some_iff.1 hv
      cases hv
      simp only [D.retag.retags]
      rw [Qd4 m s R _ u c1 d1 h1, go ss R p _ _ us cs' ds' h2]
theorem Qaaq {s : Shp} {R : Nat} {p : List Step} {u : U} {c d : D} (hv : s.viewO R p u = some (c, d)) : (D.val u).isAgg = s.isAgg := by
  cases s with
  | flat ag sz => rw [Qhz] at hv; exact (Qag (K := fun u => u.asFlat fun u => some (D.val u, D.val u)) hv).1
  | int =>
    cases u with
    | int k n => rfl
    | _ => cases hv
  | bool =>
    cases u with
    | bool b => rfl
    | _ => cases hv
  | sl k =>
    rw [Qh0] at hv
    cases u with
    | sl k' us => rfl
    | _ => cases hv
  | agg ss =>
    rw [Qhy] at hv
    cases u with
    | agg us => rfl
    | _ => cases hv
theorem Qpp {s : Shp} {R : Nat} {p : List Step} {u : U} {c d : D} {v : Value} {Bs : List Nat} (hv : s.viewO R p u = some (c, d)) (hl : (β R).live) (o : Own1 ρ w u v ((β R).h.sub p) Bs) :
    V1 ρ w S β d v ∧ ∃ cs, TCs ρ w S β [((β R).h.sub p, c.ex)] cs Bs ∧ c.size = s.size := by
  obtain ⟨cs, h1, h2⟩ := o
  obtain ⟨h3, h4, h5, _, h6, h7, _⟩ := Qh1 (S := S) (β := β) s R p u c d cs Bs hv h1.cells hl
  refine ⟨.inr ⟨cs, h3, ?_⟩, cs, h4, h6⟩
  rw [h5, ← Qaaq hv]
  exact h2
theorem Qpq : ∀ (ss : List Shp) (R : Nat) (j off : Nat) (us : List U) (c d : List D) (vs : List Value) (hs hs0 : List Hdr) (Bs : List Nat), viewsO ss R [] j off us = some (c, d) → (β R).h = mkH hs0 → (β R).live → (∀ i, hs[i]? = hs0[j + i]?) → Owns ρ w us vs hs Bs →
    V1s ρ w S β d vs ∧ ∃ cs, TCs ρ w S β (flds (mkH hs0) j off (D.ex.exs c)) cs Bs
  | [], R, j, off, us, c, d, vs, hs, hs0, Bs, hv, hh, hl, hi, o => by
    rw [Qh3] at hv
    cases us with
    | nil =>
      cases hv
      obtain ⟨rfl, rfl, rfl⟩ := o
      exact ⟨rfl, [], .nil⟩
    | cons _ _ => cases hv
  | s :: ss, R, j, off, us, c, d, vs, hs, hs0, Bs, hv, hh, hl, hi, o => by
    rw [Qh2] at hv
    cases us with
    | nil => cases hv
    | cons u us =>
      obtain ⟨⟨c1, d1⟩, h1, hv⟩ := Option.bind_eq_some_iff.1 hv
      obtain ⟨⟨cs', ds'⟩, h2, hv⟩ := Option.bind_eq_some_iff.1 hv
      cases hv
      obtain ⟨v, vs', h, hs', B1, B2, rfl, rfl, rfl, o1, o2⟩ := o
      have e : (β R).h.sub ([] ++ [.fld j off]) = h := by
        rw [hh]
        funext q
        have := hi 0
        simp only [List.getElem?_cons_zero, Nat.add_zero] at this
        simp only [Hdr.sub, List.nil_append, List.cons_append, mkH, ← this]
      rw [← e] at o1
      obtain ⟨h3, cs1, h4, h5⟩ := Qpp (S := S) h1 hl o1
      obtain ⟨h6, cs2, h7⟩ := Qpq ss R (j + 1) (off + s.size) us cs' ds' vs' hs' hs0 B2 h2 hh hl (fun i => by
        have := hi (i + 1)
        simp only [List.getElem?_cons_succ] at this
        rw [this]
        congr 1
        omega) o2
      refine ⟨⟨v, vs', rfl, h3, h6⟩, cs1 ++ cs2, ?_⟩
      have e2 : (β R).h.sub ([] ++ [.fld j off]) = (mkH hs0).at (.fld j off) := by
        rw [hh]; rfl
      rw [e2] at h4
      simp only [D.ex.exs, flds]
      rw [Qz, h5]
      exact h4.append h7
end
section
variable {α : Type} {P : Program} {ρ : Nat → FuncId} {base : Nat → Prop} {F : Fm} {fr : Frm} {S₀ : Nat → Prop} {Γ : Hp} {β : Nat → Lay} {B : Nat → List Nat} {a : Act} {w w' : World} {E : Env}
  {K : Eff → Option α} {r : α} {G : Prop} {o : Oper}
def opdsOK (ρ : Nat → FuncId) (N : Nat × Nat) : List Operand → List Opd → Bool
  | [], [] => true
  | x :: xs, x' :: xs' => opdOK ρ N x x' && opdsOK ρ N xs xs'
  | _, _ => false
theorem Rel.args (hrel : Rel ρ S₀ base F fr Γ β B a w) : ∀ {xs : List Operand} {xs' : List Opd} {us : List U}, opdsOK ρ F.wd xs xs' = true → allVals (evs fr xs') = some us → Args ρ w (Stands S₀ w Γ B) us (xs.map a.eval)
  | [], [], us, _, h => by
    simp only [evs, List.map_nil, allVals, Option.some.injEq] at h
    subst h; trivial
  | [], _ :: _, _, h, _ => by cases h
  | _ :: _, [], _, h, _ => by cases h
  | x :: xs, x' :: xs', us, hx, h => by
    simp only [opdsOK, Bool.and_eq_true] at hx
    have hv := hrel.opd hx.1
    simp only [evs, List.map_cons] at h
    cases he : x'.ev fr with
    | val u =>
      rw [he] at h hv
      simp only [allVals, Option.map_eq_some_iff] at h
      obtain ⟨us', h, rfl⟩ := h
      exact ⟨fun β' => hv.val_mono (fun _ h => h) (fun _ _ _ _ h => h), hrel.args hx.2 h⟩
    | _ => rw [he] at h; cases h
theorem Rel.snapArgs (hrel : Rel ρ S₀ base F fr Γ β B a w) {n : Nat} : ∀ {xs : List Operand} {xs' : List Opd} {us : List U}, opdsOK ρ F.wd xs xs' = true → snaps (Am.snap Γ n) (evs fr xs') = some us → Args ρ w (fun b => S₀ b ∧ b < w.heap.size) us (xs.map a.eval)
  | [], [], us, _, h => by
    simp only [evs, List.map_nil, snaps, snap.snaps, Option.some.injEq] at h
    subst h; trivial
  | [], _ :: _, _, h, _ => by cases h
  | _ :: _, [], _, h, _ => by cases h
  | x :: xs, x' :: xs', us, hx, h => by
    simp only [opdsOK, Bool.and_eq_true] at hx
    have hv := hrel.opd hx.1
    simp only [evs, List.map_cons, snaps, snap.snaps, Option.bind_eq_some_iff, Option.map_eq_some_iff] at h
    obtain ⟨u, hu, us', hus, rfl⟩ := h
    exact ⟨fun β' => hrel.snap hv hu, hrel.snapArgs hx.2 hus⟩
theorem Qef (hg : Good P ρ E) {q : Nat} {us : List U} {u : U} {vs : List Value} (hq : q < 100000) (hE : E q us = some u) {fl : Bool} (h : u.res fl K = some r)
    (hrun : ∀ w', Below w.heap.size w w' → callOK P (ρ q) = true → (execOp a.eval o).run P w' = .ok (.enter (ρ q) vs.toArray) w')
    (hargs : Args ρ w (Stands S₀ w Γ B) us vs ∨ (fl = true ∧ Args ρ w (fun b => S₀ b ∧ b < w.heap.size) us vs)) (hK : Cont P ρ S₀ base F fr Γ β B a w o K r G) : G := by
  obtain ⟨hok, hcalls⟩ := hg q us u hE
  rw [Nat.div_eq_of_lt hq] at hcalls
  have hres : ∃ fl', K (.cl fl' u) = some r ∧ (fl' = true → u.flat = true) ∧ (fl = true → fl' = true) := by
    cases fl with
    | false => exact ⟨false, h, fun e => (by cases e), fun e => (by cases e)⟩
    | true =>
      simp only [U.res, U.asFlat] at h
      split at h
      · rename_i hf; exact ⟨true, h, fun _ => hf, fun _ => rfl⟩
      · cases h
  obtain ⟨fl', hr, hflat, hfl⟩ := hres
  refine hK.call fl' u (ρ q) vs.toArray hr hflat (fun w' hw' => hrun w' hw' hok) fun w' hw' => ?_
  have hcell : ∀ b o v, b < w.heap.size → w.cell? ⟨b, o, none⟩ = some v → w'.cell? ⟨b, o, none⟩ = some v := fun b o v hb hv => (hw'.cell (p := ⟨b, o, none⟩) hb).trans hv
  rcases hargs with hargs | ⟨hf, hargs⟩
  · refine (hcalls w' (Stands S₀ w Γ B) vs (fun b hb => Nat.lt_of_lt_of_le hb.1 hw'.size) (hargs.mono (fun _ h => h) (fun b o v hb hv => hcell b o v hb.1 hv))).mono fun e w'' he => ?_
    obtain ⟨v, h1, h2, h3⟩ := he
    exact ⟨v, h1, h2, h3 β⟩
  · refine (hcalls w' (fun b => S₀ b ∧ b < w.heap.size) vs (fun b hb => Nat.lt_of_lt_of_le hb.2 hw'.size) (hargs.mono (fun _ h => h) (fun b o v hb hv => hcell b o v hb.2 hv))).mono fun e w'' he => ?_
    obtain ⟨v, h1, h2, h3⟩ := he
    exact ⟨v, h1, h2, (h3 β).flat_any (hflat (hfl hf))⟩
theorem Qyu (hg : Good P ρ E) {q : Nat} (hq : q < 100000) {f : FuncId} {args : Array Operand} {tys : Array TypeId} {args' : List Opd} {fl : Bool} (hrel : Rel ρ S₀ base F fr Γ β B a w) (ho : o.op = .call { callee := .value (.func f), args := args, argTypes := tys }) (hf : ρ q = f) (hx : opdsOK ρ F.wd args.toList args' = true)
    (h : (AOp.call fl q args').step E fr Γ K = some r) (hK : Cont P ρ S₀ base F fr Γ β B a w o K r G) : G := by
  subst hf
  have hrun : ∀ w', Below w.heap.size w w' → callOK P (ρ q) = true → (execOp a.eval o).run P w' = .ok (.enter (ρ q) (args.toList.map a.eval).toArray) w' := fun w' _ hok => by
    simp only [execOp, ho, resolve, Deferred.ofValue, Act.eval, Sem.run_bind, Sem.run_pure, Result.andThen_ok, invoke]
    rw [Qbl hok]
    congr 2
    apply Array.ext'
    simp
  simp only [AOp.step] at h
  cases hv : allVals (evs fr args') with
  | some us =>
    rw [hv] at h
    obtain ⟨u, hE, h⟩ := Option.bind_eq_some_iff.1 h
    exact Qef hg hq hE h hrun (.inl (hrel.args hx hv)) hK
  | none =>
    rw [hv] at h
    obtain ⟨us, hs, h⟩ := Option.bind_eq_some_iff.1 h
    obtain ⟨u, hE, h⟩ := Option.bind_eq_some_iff.1 h
    exact Qef hg hq hE h hrun (.inr ⟨rfl, hrel.snapArgs hx hs⟩) hK
theorem Qpu {S : Nat → Prop} {d : D} {v : Value} (h : VD ρ w S β d v) : VD ρ w S β d.plain v := by
  cases d with
  | fnv q caps =>
    simp only [D.plain]
    split
    · rename_i us hav
      obtain rfl := Qdk hav
      rcases h with h | ⟨cs, h1, h2⟩
      · cases h
      · cases h1 with
        | fnv r h1 hv h =>
          cases h
          have h2 : _ = _ := h2
          simp only [List.cons.injEq, and_true] at h2
          subst h2
          exact Ql ⟨[_], .fn q h1.vals_inv (fun u hu => by
            have := hv (.val u) (List.mem_map_of_mem hu)
            cases u <;> first | rfl | cases this) .nil, rfl⟩
    · exact h
  | _ => exact h
theorem Qy2 (hg : Good P ρ E) {f : Operand} {f' : Opd} {args : Array Operand} {tys : Array TypeId} {args' : List Opd} {fl : Bool} (hrel : Rel ρ S₀ base F fr Γ β B a w) (ho : o.op = .call { callee := .value f, args := args, argTypes := tys }) (hf : opdOK ρ F.wd f f' = true) (hx : opdsOK ρ F.wd args.toList args' = true)
    (h : (AOp.callv fl f' args').step E fr Γ K = some r) (hK : Cont P ρ S₀ base F fr Γ β B a w o K r G) : G := by
  have hrun : ∀ (q : Nat) (vs : List Value), a.eval f = .func (.func (ρ q)) #[] vs.toArray → ∀ w', Below w.heap.size w w' → callOK P (ρ q) = true → (execOp a.eval o).run P w' = .ok (.enter (ρ q) (args.toList.map a.eval ++ vs).toArray) w' := fun q vs e1 w' _ hok => by
    simp only [execOp, ho, resolve, e1, Deferred.ofValue, Sem.run_bind, Sem.run_pure, Result.andThen_ok, invoke]
    rw [Qbl hok]
    congr 2
    apply Array.ext'
    simp
  have hv := hrel.opd hf
  simp only [AOp.step] at h
  have hvp := Qpu hv
  cases hav : allVals ((f'.ev fr).plain :: evs fr args') with
  | some us =>
    rw [hav] at h
    obtain ⟨g, hg0, h⟩ := Option.bind_eq_some_iff.1 h
    cases he : (f'.ev fr).plain with
    | val u0 =>
      rw [he] at hav hvp
      simp only [allVals, Option.map_eq_some_iff] at hav
      obtain ⟨us', hav, rfl⟩ := hav
      simp only [List.getElem?_cons_zero, Option.some.injEq] at hg0
      subst hg0
      cases u0 with
      | fn q caps =>
        simp only [U.asFn, List.tail_cons] at h
        split at h
        rotate_left
        · cases h
        rename_i hq
        obtain ⟨u, hE, h⟩ := Option.bind_eq_some_iff.1 h
        obtain ⟨vs, e1, h1, h2⟩ := VD_fn hvp
        exact Qef hg hq hE h (hrun q vs e1) (.inl ((hrel.args hx hav).append (Args.caps h1 h2))) hK
      | _ => cases h
    | _ => rw [he] at hav; cases hav
  | none =>
    rw [hav] at h
    obtain ⟨g, hg0, h⟩ := Option.bind_eq_some_iff.1 h
    cases g with
    | fn q caps =>
      simp only [U.asFn] at h
      split at h
      rotate_left
      · cases h
      rename_i hq
      obtain ⟨us, hs, h⟩ := Option.bind_eq_some_iff.1 h
      obtain ⟨u, hE, h⟩ := Option.bind_eq_some_iff.1 h
      obtain ⟨vs, e1, h1, h2⟩ := VD_fn (hrel.snap (β' := β) hv hg0)
      exact Qef hg hq hE h (hrun q vs e1) (.inr ⟨rfl, (hrel.snapArgs hx hs).append (Args.caps h1 h2)⟩) hK
    | _ => cases h
theorem Qgm {u : U} {K : U → Option α} (h : u.noTup K = some r) : (∀ us, u ≠ .tup us) ∧ K u = some r := by
  cases u <;> first | exact ⟨fun us e => (by cases e), h⟩ | cases h
theorem Qyx (hg : Good P ρ E) {nm q : Nat} {tup : Bool} {ss : List Shp} {f : FuncId} {args : Array Operand} {tys : Array TypeId} {args' : List Opd} (hq : q < 100000) (hrel : Rel ρ S₀ base F fr Γ β B a w) (ho : o.op = .call { callee := .value (.func f), args := args, argTypes := tys }) (hf : ρ (100000 + q) = f) (hx : opdsOK ρ F.wd args.toList args' = true)
    (h : (AOp.callF nm tup ss q args').step E fr Γ K = some r) (hK : Cont P ρ S₀ base F fr Γ β B a w o K r G) : G := by
  subst hf
  simp only [AOp.step, Qba, Qbb] at h
  obtain ⟨us, hs, h⟩ := Option.bind_eq_some_iff.1 h
  obtain ⟨u, hE, h⟩ := Option.bind_eq_some_iff.1 h
  obtain ⟨hok, hF⟩ := hg _ us u hE
  rw [show (100000 + q) / 100000 = 1 by omega] at hF
  have hcalls := hF w (fun b => S₀ b ∧ b < w.heap.size) _ (fun b hb => hb.2) (hrel.snapArgs hx hs)
  have hrun : (execOp a.eval o).run P w = .ok (.enter (ρ (100000 + q)) (args.toList.map a.eval).toArray) w := by
    simp only [execOp, ho, resolve, Deferred.ofValue, Act.eval, Sem.run_bind, Sem.run_pure, Result.andThen_ok, invoke]
    rw [Qbl hok]
    congr 2
    apply Array.ext'
    simp
  have fin : ∀ (c d : D), mkVar Γ nm (.vir c) d K = some r → c.retag (.purge nm) = c → (∀ v w' Bs, OwnRes ρ w' u v Bs → ∃ hd : Hdr, ∀ (S' : Nat → Prop) (β' : Nat → Lay), β' nm = ⟨.vir, hd⟩ → VD ρ w' S' β' d v ∧ ∃ cs, TCs ρ w' S' β' [(hd, c.ex)] cs Bs) → G := fun c d h hc hv => by
    obtain ⟨hnm, hr⟩ := Qy h
    refine hK.ent _ _ _ _ _ hr hrun (hcalls.mono fun e w' he => ?_)
    obtain ⟨v, Bs, he, hb, hn, hfr, hres⟩ := he
    obtain ⟨hd, hv⟩ := hv v w' Bs hres
    refine ⟨v, he, hb.drawn, After.make hrel hrel.parts hnm (.vir c) ⟨.vir, hd⟩ Bs hb.os hb.tape hb.output hb.size (fun b hlt _ => hb.block b hlt) (fun b hb => .inr (hfr b hb)) (fun S' _ => ?_) fun S' => (hv S' _ (Qd _ _ _)).1⟩
    obtain ⟨_, cs, h2⟩ := hv S' (upd β nm ⟨.vir, hd⟩) (Qd _ _ _)
    simp only [Cn.retag, hc]
    exact ⟨hn, cs, rfl, h2⟩
  revert h
  match tup, ss with
  | false, [s] =>
    intro h
    obtain ⟨hnt, h'⟩ := Qgm (K := fun u => (s.viewO nm [] u).bind fun x => mkVar Γ nm (Cn.vir x.fst) x.snd K) h
    obtain ⟨⟨c, d⟩, h1, h2⟩ := Option.bind_eq_some_iff.1 h'
    refine fin c d h2 (Qd4 _ s nm [] u c d h1) fun v w' Bs hres => ?_
    have hres : ∃ h, Own1 ρ w' u v h Bs := by
      unfold OwnRes at hres
      split at hres
      · exact absurd rfl (hnt _)
      · exact hres
    obtain ⟨hd, o1⟩ := hres
    refine ⟨hd, fun S' β' hβ => ?_⟩
    have e : (β' nm).h.sub [] = hd := by rw [hβ]; rfl
    rw [← e] at o1
    obtain ⟨h3, cs, h4, _⟩ := Qpp (S := S') (β := β') h1 (by rw [hβ]; exact fun e => by cases e) o1
    rw [e] at h4
    exact ⟨Qbd h3, cs, h4⟩
  | true, ss =>
    intro h
    cases u with
    | tup us2 =>
      simp only [U.asTup] at h
      obtain ⟨⟨cs', ds'⟩, h1, h2⟩ := Option.bind_eq_some_iff.1 h
      refine fin (.agg cs') (.tup ds') h2 (by simp only [D.retag]; rw [Qd4.go _ ss nm [] 0 0 us2 cs' ds' h1]) fun v w' Bs hres => ?_
      obtain ⟨vs, hs0, rfl, o⟩ := hres
      refine ⟨mkH hs0, fun S' β' hβ => ?_⟩
      obtain ⟨h3, cs, h4⟩ := Qpq (S := S') (β := β') ss nm 0 0 us2 cs' ds' vs hs0 hs0 Bs h1 (by rw [hβ]) (by rw [hβ]; exact fun e => by cases e) (fun i => by rw [Nat.zero_add]) o
      exact ⟨⟨vs, rfl, h3⟩, cs, TCs.of_agg h4⟩
    | _ => cases h
  | false, [] => intro h; cases h
  | false, _ :: _ :: _ => intro h; cases h
theorem snapArgs' {S' : Nat → Prop} {Γ1 : Hp} {B1 : Nat → List Nat} (hrel : Rel ρ S₀ base F fr Γ β B a w) (hroots : ∀ R c, Γ1 R = some c → (β R).live → RootOK ρ w (Stands S₀ w Γ B) β c (β R) (B1 R)) (hin : ∀ R, (Γ1 R).isSome = true → ∀ b ∈ B1 R, S' b) (hst : ∀ b, Stands S₀ w Γ B b → S' b) {n : Nat} : ∀ {xs : List Operand} {xs' : List Opd} {us : List U}, opdsOK ρ F.wd xs xs' = true → snaps (Am.snap Γ1 n) (evs fr xs') = some us → Args ρ w S' us (xs.map a.eval)
  | [], [], us, _, h => by
    rw [Qb1 h]; trivial
  | [], _ :: _, _, h, _ => by cases h
  | _ :: _, [], _, h, _ => by cases h
  | x :: xs, x' :: xs', us, hx, h => by
    simp only [opdsOK, Bool.and_eq_true] at hx
    simp only [evs, List.map_cons] at h
    obtain ⟨u, us', hu, hus, rfl⟩ := Qa9 h
    exact ⟨fun β' => Qhd hroots hin hst (hrel.opd hx.1) hu, snapArgs' hrel hroots hin hst hx.2 hus⟩
theorem Qy0 (hg : Good P ρ E) {k q : Nat} {f : FuncId} {args : Array Operand} {x : Operand} {xs0 : List Operand} {tys : Array TypeId} {x' : Opd} {args' : List Opd} (hq : q < 100000) (hrel : Rel ρ S₀ base F fr Γ β B a w) (ho : o.op = .call { callee := .value (.func f), args := args, argTypes := tys }) (hf : ρ (200000 + q) = f) (ha : args.toList = x :: xs0) (hx0 : opdOK ρ F.wd x x' = true) (hx : opdsOK ρ F.wd xs0 args' = true)
    (h : (AOp.callM k q x' args').step E fr Γ K = some r) (hK : Cont P ρ S₀ base F fr Γ β B a w o K r G) : G := by
  subst hf
  simp only [AOp.step, at_eq, Qab, Qaf] at h
  split at h
  rotate_left
  · cases h
  rename_i R p k' hxe
  split at h
  rotate_left
  · cases h
  rename_i hkk
  subst hkk
  obtain ⟨d, hat, h⟩ := Option.bind_eq_some_iff.1 h
  obtain ⟨h, ds0, hex⟩ := Qa4 h
  obtain ⟨u0, hown, h⟩ := Option.bind_eq_some_iff.1 h
  cases u0 with
  | sl k2 xs =>
    simp only [U.asSlK] at h
    split at h
    rotate_left
    · cases h
    rename_i hk2
    subst hk2
    obtain ⟨us, hus, h⟩ := Option.bind_eq_some_iff.1 h
    obtain ⟨u, hE, h⟩ := Option.bind_eq_some_iff.1 h
    obtain ⟨hok, hM⟩ := hg _ _ u hE
    rw [show (200000 + q) / 100000 = 2 by omega] at hM
    obtain ⟨k3, xs3, us3, y, ys, he, rfl, hcalls⟩ := hM
    simp only [List.cons.injEq, U.agg.injEq, U.tup.injEq, U.sl.injEq, and_true] at he
    obtain ⟨⟨rfl, rfl⟩, rfl⟩ := he
    simp only [U.asMut, if_true, U.asFlat] at h
    split at h
    rotate_left
    · cases h
    rename_i hflat
    obtain ⟨Γ', hset, hr⟩ := Option.bind_eq_some_iff.1 h
    obtain ⟨c, d0, d2, hc, hd, hsetd, rfl⟩ := Qbm hset
    obtain ⟨c', d0', hc', hd', hg0⟩ := Qat hat
    rw [hc] at hc'; cases hc'
    rw [hd] at hd'; cases hd'
    have hv := hrel.opd hx0
    rw [hxe] at hv
    obtain ⟨v0, hv0, hsub⟩ := Qaz hv
    obtain ⟨hev, _⟩ := hsub
    have hl := Lay.live_of_hdr hv0
    rw [Lay.hdr_live hl] at hv0
    have hR : (Γ R).isSome = true := by rw [hc]; rfl
    obtain ⟨cs, Bo, Bc, mk, hpart⟩ := (hrel.roots R c hc hl).part hd hg0
    have t1 := (Qak (ρ := ρ) (w := w) (S := Stands S₀ w Γ B) (β := β) d _ hown).2 _ _ _ hpart.cells
    have hsz : d.size = 1 := Qe8 hex
    have hcs : cs = [v0] := by
      obtain ⟨_, v', e, h1, _⟩ := Qda (α := Nat) (d := .own (.sl k2 xs)) (k := k2) (K := some 0) (r := 0) (by simp [D.isSl, U.asSlK]) t1
      have : (β R).h p = some v' := by simpa [Hdr.sub] using h1
      rw [hv0] at this
      cases this
      exact e
    subst hcs
    have hBc : ∀ b ∈ Bc, b ∈ B R := fun b hb => (hpart.mem b).2 (.inr hb)
    have hapart : ∀ b ∈ B R, ∀ R', R' ≠ R → (Γ R').isSome = true → b ∉ B R' := fun b hb R' hne hR' => hrel.apart R R' (Ne.symm hne) hR hR' b hb
    have hargs := snapArgs' (S' := fun b => b < w.heap.size ∧ b ∉ Bc) (Γ1 := upd Γ R none) (B1 := B) (n := 8) hrel (fun R' c' hR' hl' => by
        by_cases e : R' = R
        · rw [e, Qd] at hR'; cases hR'
        · rw [Qa _ _ e] at hR'; exact hrel.roots R' c' hR' hl') (fun R' hR' b hb => by
        by_cases e : R' = R
        · rw [e, Qd] at hR'; cases hR'
        · rw [Qa _ _ e] at hR'
          exact ⟨(hrel.inside R' hR' b hb).2, fun hm => hapart b (hBc b hm) R' e hR' hb⟩) (fun b hb => ⟨hb.1, fun hm => hb.2 R hR (hBc b hm)⟩) hx hus
    refine hK.ent _ _ _ (ρ (200000 + q)) (v0 :: xs0.map a.eval).toArray hr ?_ ((hcalls w _ v0 (xs0.map a.eval) _ Bc (fun b hb => hb) (fun b hb => (hrel.inside R hR b (hBc b hb)).2) (List.nodup_append.1 hpart.nodup).2.1 (Own.of t1) hargs).mono fun e w'' he => ?_)
    · simp only [execOp, ho, resolve, Deferred.ofValue, Act.eval, Sem.run_bind, Sem.run_pure, Result.andThen_ok, invoke]
      rw [Qbl hok]
      congr 2
      apply Array.ext'
      simp [ha, ← hev, Act.eval]
    · obtain ⟨v, h', Bs', rfl, hy, hbeh, hn', hB', ho'⟩ := he
      obtain ⟨hh', _⟩ := ho'.hdr
      have hkeep : Keeps (Stands S₀ w Γ B) w w'' := fun b hb => hbeh.block b hb.1 fun hm => hb.2 R hR (hBc b hm)
      have htag : TagOK (.below R p) β (upd β R ⟨(β R).root, (β R).h.put p h'⟩) := TagOK.below (by rw [hh', hv0])
      have hno : ∀ b ∈ Bo, b ∉ Bc := fun b hb hm => (List.nodup_append.1 hpart.nodup).2.2 b hb b hm rfl
      have hBo : ∀ b ∈ Bo, w''.heap[b]? = w.heap[b]? := fun b hb => hbeh.block b (hrel.inside R hR b ((hpart.mem b).2 (.inl hb))).2 (hno b hb)
      have hnd : (Bo ++ Bs').Nodup := List.nodup_append.2 ⟨(List.nodup_append.1 hpart.nodup).1, hn', fun a ha b hb e => by
        subst e
        rcases hB' a hb with h1 | h1
        · exact hno a ha h1
        · have := (hrel.inside R hR a ((hpart.mem a).2 (.inl ha))).2
          omega⟩
      have hcells : ∀ (S' : Nat → Prop) (β' : Nat → Lay) x', LeafOf (.own (.sl k2 ys)) x' → TCs ρ w'' S' β' [(h', x'.retag (.below R p))] [v0] Bs' := fun S' β' x' hl => by
        rcases hl with rfl | ⟨u, e, _⟩
        · simp only [D.ex]
          rw [Qfh]
          exact ho'.cells
        · cases e
      have hroot : ∀ S' : Nat → Prop, (∀ b, Stands S₀ w Γ B b → S' b) → RootOK ρ w'' S' (upd β R ⟨(β R).root, (β R).h.put p h'⟩) ((c.with d2).retag (.below R p)) ⟨(β R).root, (β R).h.put p h'⟩ (mk Bs') := fun S' hS' => by
        rcases hpart.spot with ⟨b, off, cur, e, g1, g2, g3, g4, g5, g6⟩ | ⟨g1, g6⟩
        · exact g6 w'' S' _ (.below R p) 1 (.own (.sl k2 ys)) d0 d2 h' [v0] Bs' hS' hkeep htag (fun b' hb' _ => hBo b' hb') (by rw [Qnq g4 g5, hBo b g2]; exact g3) rfl hd hsetd rfl (hcells S' _) hnd
        · exact g6 w'' S' _ (.below R p) 1 (.own (.sl k2 ys)) d0 d2 h' [v0] Bs' hS' hkeep htag hBo hd hsetd rfl (hcells S' _) hnd
      refine ⟨v, rfl, hbeh.drawn, (hbeh.mono fun b hb => (hrel.inside R hR b (hBc b hb)).1).toBehind0, upd β R ⟨(β R).root, (β R).h.put p h'⟩, upd B R (mk Bs'), ?_, hy _ _, fun R' hlt hR' => ?_⟩
      · rw [Qc2]
        exact hrel.setP hrel.parts R _ _ (mk Bs') (fun b => b ∈ Bc) htag hbeh.size hbeh.block (fun b hb => ⟨⟨R, hR, hBc b hb⟩, fun R' hne hR' => hapart b (hBc b hb) R' hne hR'⟩) (fun b hb => by
          rcases (hpart.mkmem Bs' b).1 hb with h1 | h1
          · have h2 := (hpart.mem b).2 (.inl h1)
            exact .inl ⟨⟨R, hR, h2⟩, fun R' hne hR' => hapart b h2 R' hne hR'⟩
          · rcases hB' b h1 with h1 | h1
            · exact .inl ⟨⟨R, hR, hBc b h1⟩, fun R' hne hR' => hapart b (hBc b h1) R' hne hR'⟩
            · exact .inr h1) hroot
      · by_cases e : R' = R
        · subst e
          refine ⟨hR, by rw [Qd], fun hvir => ?_⟩
          rw [Qd]
          cases p with
          | nil =>
            rw [Qe0]
            simp only [Lay.hdr, hvir, hh', hv0]
          | cons s p => exact Qeq rfl
        · refine ⟨?_, by rw [Qa _ _ e], fun _ => by rw [Qa _ _ e]⟩
          rw [Qc2, Qa _ _ e] at hR'
          simpa [Hp.retag] using hR'
  | _ => cases h
theorem Qyw (hg : Good P ρ E) {nm k q : Nat} {f : FuncId} {args : Array Operand} {x : Operand} {xs0 : List Operand} {tys : Array TypeId} {x' : Opd} {args' : List Opd} (hq : q < 100000) (hrel : Rel ρ S₀ base F fr Γ β B a w) (ho : o.op = .call { callee := .value (.func f), args := args, argTypes := tys }) (hf : ρ (300000 + q) = f) (ha : args.toList = x :: xs0) (hx0 : opdOK ρ F.wd x x' = true) (hx : opdsOK ρ F.wd xs0 args' = true)
    (h : (AOp.callC nm k q x' args').step E fr Γ K = some r) (hK : Cont P ρ S₀ base F fr Γ β B a w o K r G) : G := by
  subst hf
  simp only [AOp.step, Qae] at h
  obtain ⟨⟨xs, Γ1⟩, htk, h⟩ := Option.bind_eq_some_iff.1 h
  obtain ⟨us, hus, h⟩ := Option.bind_eq_some_iff.1 h
  obtain ⟨u, hE, h⟩ := Option.bind_eq_some_iff.1 h
  obtain ⟨hok, hC⟩ := hg _ _ u hE
  rw [show (300000 + q) / 100000 = 3 by omega] at hC
  obtain ⟨k3, xs3, us3, he, hcalls⟩ := hC
  simp only [List.cons.injEq, U.agg.injEq, U.tup.injEq, U.sl.injEq, and_true] at he
  obtain ⟨⟨rfl, rfl⟩, rfl⟩ := he
  cases u with
  | sl k2 ys =>
    simp only [U.asSlK] at h
    split at h
    rotate_left
    · cases h
    rename_i hk2
    subst hk2
    obtain ⟨hnm, hr⟩ := Qy h
    have hvx := hrel.opd hx0
    have hdx : DCs ρ w (Stands S₀ w Γ B) β [x'.ev fr] [a.eval x] := by
      cases hxe : x'.ev fr with
      | ref R p k' part => rw [hxe] at hvx; exact hvx.one
      | _ => rw [hxe] at htk; cases htk
    obtain ⟨hh, B1, Bc, hp, t1⟩ := Qdf htk hdx hrel.parts
    rw [List.nil_append] at hp
    have hargs := snapArgs' (S' := fun b => b < w.heap.size ∧ b ∉ Bc) (Γ1 := Γ1) (B1 := B1) (n := 8) hrel hp.roots (fun R' hR' b hb => ⟨(hrel.inside R' (hp.sub R' hR').1 b ((hp.sub R' hR').2 b hb)).2, fun hm => (hp.out b hm).2 R' hR' hb⟩) (fun b hb => ⟨hb.1, fun hm => Qcd (hp.out b hm).1 hb⟩) hx hus
    refine hK.ent _ _ _ (ρ (300000 + q)) (a.eval x :: xs0.map a.eval).toArray hr ?_ ((hcalls ys rfl w _ (a.eval x) (xs0.map a.eval) hh Bc (fun b hb => hb) (fun b hb => (hrel.owned (hp.out b hb).1).2) hp.nodup (Own.of (u := .sl k2 xs) t1) hargs).mono fun e w'' he => ?_)
    · simp only [execOp, ho, resolve, Deferred.ofValue, Act.eval, Sem.run_bind, Sem.run_pure, Result.andThen_ok, invoke]
      rw [Qbl hok]
      congr 2
      apply Array.ext'
      simp [ha, Act.eval]
    · obtain ⟨v, h', Bs', rfl, hbeh, hn', hB', ho'⟩ := he
      obtain ⟨hh', hone⟩ := ho'.hdr
      exact ⟨v, rfl, hbeh.drawn, After.made hrel hp hnm (.own (.sl k2 ys)) hbeh.os hbeh.tape hbeh.output hbeh.size hbeh.block hB' hn' hh' hone fun S' β' _ _ _ => ho'.cells⟩
  | _ => cases h
theorem Qyy (hg : Good P ρ E) {nm k q : Nat} {f : FuncId} {args : Array Operand} {x i y : Operand} {tys : Array TypeId} {x' i' y' : Opd} (hq : q < 100000) (hrel : Rel ρ S₀ base F fr Γ β B a w) (ho : o.op = .call { callee := .value (.func f), args := args, argTypes := tys }) (hf : ρ (600000 + q) = f) (ha : args.toList = [x, i, y]) (hx : opdOK ρ F.wd x x' = true) (hi : opdOK ρ F.wd i i' = true) (hy : opdOK ρ F.wd y y' = true)
    (h : (AOp.callI nm k q x' i' y').step E fr Γ K = some r) (hK : Cont P ρ S₀ base F fr Γ β B a w o K r G) : G := by
  subst hf
  simp only [AOp.step, Qae] at h
  obtain ⟨⟨xs, Γ1⟩, htk, h⟩ := Option.bind_eq_some_iff.1 h
  obtain ⟨n, hn, h⟩ := Qad (K := fun n => (takeElO Γ1 k (y'.ev fr)).bind fun z => (E (600000 + q) [.sl k xs, .int .i64 n, .sl k z.1]).bind fun u => u.asSlK k fun zs => mkVar z.2 nm (.vir (.own (.sl k zs))) (.ref nm [] k none) K) h
  obtain ⟨⟨ys, Γ2⟩, htk2, h⟩ := Option.bind_eq_some_iff.1 h
  obtain ⟨u, hE, h⟩ := Option.bind_eq_some_iff.1 h
  obtain ⟨hok, hC⟩ := hg _ _ u hE
  rw [show (600000 + q) / 100000 = 6 by omega] at hC
  obtain ⟨k3, xs3, n3, ys3, he, hcalls⟩ := hC.2 (by omega)
  simp only [List.cons.injEq, U.sl.injEq, U.int.injEq, true_and, and_true] at he
  obtain ⟨⟨rfl, rfl⟩, rfl, _, rfl⟩ := he
  cases u with
  | sl k2 zs =>
    simp only [U.asSlK] at h
    split at h
    rotate_left
    · cases h
    rename_i hk2
    subst hk2
    obtain ⟨hnm, hr⟩ := Qy h
    have hone : ∀ {z : Operand} {z' : Opd} {Γ' : Hp} {t : List U × Hp}, opdOK ρ F.wd z z' = true → takeElO Γ' k2 (z'.ev fr) = some t → DCs ρ w (Stands S₀ w Γ B) β [z'.ev fr] [a.eval z] := fun {z z' Γ' t} hz ht => by
      have hv := hrel.opd hz
      cases hxe : z'.ev fr with
      | ref R p k' part => rw [hxe] at hv; exact hv.one
      | _ => rw [hxe] at ht; cases ht
    obtain ⟨hh1, B1, Bc1, hp1, t1⟩ := Qdf htk (hone hx htk) hrel.parts
    obtain ⟨hh2, B2, Bc2, hp2, t2⟩ := Qdf htk2 (hone hy htk2) hp1
    rw [List.nil_append] at hp2
    have hnv := hrel.int hi hn
    refine hK.ent _ _ _ (ρ (600000 + q)) #[a.eval x, .int .i64 n, a.eval y] hr ?_ ((hcalls zs rfl w (a.eval x) (a.eval y) hh1 hh2 Bc1 Bc2 (fun b hb => (hrel.owned (hp2.out b hb).1).2) hp2.nodup (Own.of (u := .sl k2 xs) t1) (Own.of (u := .sl k2 ys) t2)).mono fun e w'' he => ?_)
    · simp only [execOp, ho, resolve, Deferred.ofValue, Act.eval, Sem.run_bind, Sem.run_pure, Result.andThen_ok, invoke]
      rw [Qbl hok]
      congr 2
      apply Array.ext'
      simp [ha, hnv]
      exact ⟨by simp [Act.eval], by simp [Act.eval]⟩
    · obtain ⟨v, h', Bs', rfl, hbeh, hn', hB', ho'⟩ := he
      obtain ⟨hh', hone'⟩ := ho'.hdr
      exact ⟨v, rfl, hbeh.drawn, After.made hrel hp2 hnm (.own (.sl k2 zs)) hbeh.os hbeh.tape hbeh.output hbeh.size hbeh.block hB' hn' hh' hone' fun S' β' _ _ _ => ho'.cells⟩
  | _ => cases h
theorem Qw9 {u : U} {h : Hdr} {cs : List Value} {B' : List Nat} {S : Nat → Prop} {β β' : Nat → Lay} (t : TCs ρ w S β [(h, u.ex)] cs B') : TCs ρ w S β' [(h, u.pdec.ex)] cs B' := by
  cases u with
  | vp u => cases t
  | _ => exact Qdh _ h cs B' t
theorem Qgw {d : D} {c : U} {h : Hdr} {cs : List Value} {B' : List Nat} {S : Nat → Prop} {β : Nat → Lay} (hc : d.pcode = some c) (t : TCs ρ w S β [(h, d.ex)] cs B') : PCs ρ w S c h cs B' := fun β' => by
  have own : ∀ d : D, d.ownO = some c → TCs ρ w S β [(h, d.ex)] cs B' → TCs ρ w S β' [(h, c.pdec.ex)] cs B' := fun d hd t => Qw9 ((Qak d c hd).2 _ _ _ t)
  cases d with
  | val u =>
    cases hc
    obtain ⟨t1, rfl⟩ := t.val_inv
    cases u with
    | agg us =>
      have key : (U.pdec (.vp (.agg us))).ex = .agg (us.map .val) := by
        show D.agg (D.ex.exs (us.map .val)) = _
        rw [Qr, Qet]
      rw [key]
      cases t1 with
      | agg h1 h2 =>
        cases h2
        rw [List.append_nil]
        exact TCs.of_agg (TCs.of_vals h1 0 0)
    | _ => exact TCs.of_val t1
  | agg ds =>
    simp only [D.pcode] at hc
    cases ha : allVals ds with
    | some us =>
      rw [ha] at hc
      cases hc
      obtain rfl := Qdk ha
      have key : (D.agg (us.map .val)).ex = .agg (us.map .val) := by
        show D.agg (D.ex.exs (us.map .val)) = _
        rw [Qr, Qet]
      show TCs ρ w S β' [(h, (D.agg (us.map .val)).ex)] cs B'
      rw [key] at t ⊢
      obtain ⟨h1, rfl⟩ := t.agg_inv.vals_inv
      exact TCs.of_agg (TCs.of_vals h1 0 0)
    | none =>
      rw [ha] at hc
      exact own (.agg ds) hc t
  | _ => exact own _ hc t
theorem Qfb {α : Type} {r : α} : ∀ {ss : List Shp} {us : List U} {K : List U → Option α}, spellS ss us K = some r → K us = some r
  | [], us, K, h => by
    cases us with
    | nil => exact h
    | cons u us => cases h
  | .int :: ss, us, K, h => by
    cases us with
    | nil => cases h
    | cons u us =>
      cases u with
      | int k n => cases k <;> first | exact Qfb (K := fun us => K (.int .i64 n :: us)) h | cases h
      | _ => cases h
  | .sl k :: ss, us, K, h => by
    cases us with
    | nil => cases h
    | cons u us =>
      cases u with
      | sl k' xs =>
        simp only [spellS, U.asSlK] at h
        split at h
        · rename_i e; subst e; exact Qfb (K := fun us => K (.sl k' xs :: us)) h
        · cases h
      | _ => cases h
  | .flat _ _ :: _, us, K, h => by cases us <;> cases h
  | .bool :: _, us, K, h => by cases us <;> cases h
  | .agg _ :: _, us, K, h => by cases us <;> cases h
theorem Qii {α : Type} {r : α} {sh : Shp} {u : U} {K : U → Option α} (h : u.asP sh K = some r) : K u = some r := by
  unfold U.asP at h
  split at h
  · rename_i k
    cases u with
    | sl k' us =>
      simp only [U.asSlK] at h
      split at h
      · rename_i e; subst e; exact h
      · cases h
    | _ => cases h
  · cases u with
    | agg us => exact Qfb (K := fun us => K (.agg us)) h
    | _ => cases h
  · rename_i ss
    cases u with
    | vp u =>
      simp only [U.asVp] at h
      cases u with
      | agg us => exact Qfb (K := fun us => K (.vp (.agg us))) h
      | _ => cases h
    | _ => cases h
  · cases h
theorem Qij {R : Nat} {d : D} {c y c' : U} {us : List U} {l : Bool} {v0 : Value} {vs : List Value} {Q : Nat} (hrel : Rel ρ S₀ base F fr Γ β B a w) (hG : Γ R = some (.box d)) (hc : d.pcode = some c)
    (hcalls : ∀ (w : World) (S : Nat → Prop) (b : Nat) (e : TypeId) (vs : List Value) (h : Hdr) (cs : List Value) (Bs : List Nat), (∀ x, S x → x < w.heap.size ∧ x ∉ b :: Bs) → (∀ x ∈ b :: Bs, x < w.heap.size) → (b :: Bs).Nodup →
      w.heap[b]? = some (.cells cs.toArray e (0, 0)) → PCs ρ w S c h cs Bs → Args ρ w S us vs →
      Calls P (ρ Q) (pargs l (.pointer (some ⟨b, 0, none⟩)) vs).toArray w fun en w' => ∃ v h' cs' e' Bs', en = .returned v ∧ Behind (fun x => x ∈ b :: Bs) w w' ∧ (b :: Bs').Nodup ∧ (∀ x ∈ Bs', x ∈ Bs ∨ (w.heap.size ≤ x ∧ x < w'.heap.size)) ∧ w'.heap[b]? = some (.cells cs'.toArray e' (0, 0)) ∧
        (∀ β, VD ρ w' (fun x => (S x ∨ x ∈ Bs ∨ (w.heap.size ≤ x ∧ x < w'.heap.size)) ∧ x ∉ b :: Bs') β (.val y) v) ∧ PCs ρ w' (fun x => (S x ∨ x ∈ Bs ∨ (w.heap.size ≤ x ∧ x < w'.heap.size)) ∧ x ∉ b :: Bs') c' h' cs' Bs')
    (hv : VD ρ w (Stands S₀ w Γ B) β (.ptr R []) v0) (hargs : Args ρ w (Stands S₀ w Γ B) us vs) (hrun : (execOp a.eval o).run P w = .ok (.enter (ρ Q) (pargs l v0 vs).toArray) w)
    (hr : K (.st [.cut R []] (.val y) (upd (Γ.retag (.cut R [])) R (some (.box c'.pdec)))) = some r) (hK : Cont P ρ S₀ base F fr Γ β B a w o K r G) : G := by
  obtain ⟨b, o1, hpv, hgo⟩ := Qas hv
  have hR : (Γ R).isSome = true := by rw [hG]; rfl
  have hl : (β R).live := Lay.live_of_go hgo
  obtain ⟨hn, b', cs, e, Bs, hroot, hblk, t, hBR⟩ := hrel.roots R _ hG hl
  have hgo' : some (β R).root = some (.adr b o1) := hgo
  rw [hroot] at hgo'
  cases hgo'
  have hBs : ∀ x ∈ b :: Bs, x ∈ B R := fun x hx => by rw [hBR]; exact hx
  have hapart : ∀ x ∈ B R, ∀ R', R' ≠ R → (Γ R').isSome = true → x ∉ B R' := fun x hx R' hne hR' => hrel.apart R R' (Ne.symm hne) hR hR' x hx
  rw [hBR] at hn
  subst hpv
  refine hK.ent _ _ _ (ρ Q) (pargs l (.pointer (some ⟨b, 0, none⟩)) vs).toArray hr hrun ((hcalls w (Stands S₀ w Γ B) b e vs _ cs Bs (fun x hx => ⟨hx.1, fun hm => hx.2 R hR (hBs x hm)⟩) (fun x hx => (hrel.inside R hR x (hBs x hx)).2) hn hblk (Qgw hc t) hargs).mono fun en w'' he => ?_)
  obtain ⟨v, h', cs', e', Bs', rfl, hbeh, hn', hB', hblk', hy, ht'⟩ := he
  have hst : ∀ x, (Stands S₀ w Γ B x ∨ x ∈ Bs ∨ (w.heap.size ≤ x ∧ x < w''.heap.size)) ∧ x ∉ b :: Bs' → Stands S₀ w'' (upd (Hp.retag Γ (.cut R [])) R (some (.box c'.pdec))) (upd B R (b :: Bs')) x := fun x hx => by
    refine ⟨?_, fun R' hR' hm => ?_, ?_⟩
    · rcases hx.1 with h1 | h1 | h1
      · exact Nat.lt_of_lt_of_le h1.1 hbeh.size
      · exact Nat.lt_of_lt_of_le (hrel.inside R hR x (hBs x (by simp [h1]))).2 hbeh.size
      · exact h1.2
    · by_cases e : R' = R
      · subst e
        rw [Qd] at hm
        exact hx.2 hm
      · rw [Qa _ _ e] at hm hR'
        have hR'' : (Γ R').isSome = true := by simpa [Hp.retag] using hR'
        rcases hx.1 with h1 | h1 | h1
        · exact h1.2 R' hR'' hm
        · exact hapart x (hBs x (by simp [h1])) R' e hR'' hm
        · have := (hrel.inside R' hR'' x hm).2
          omega
    · rcases hx.1 with h1 | h1 | h1
      · exact h1.3
      · exact hrel.fresh x (hrel.inside R hR x (hBs x (by simp [h1]))).1
      · exact hrel.fresh x (hrel.low x h1.1)
  have htag : TagOK (.cut R []) β (upd β R ⟨(β R).root, (β R).h.put [] h'⟩) := TagOK.cut
  rw [Qe0] at htag
  refine ⟨v, rfl, hbeh.drawn, (hbeh.mono fun x hx => (hrel.inside R hR x (hBs x hx)).1).toBehind0, upd β R ⟨(β R).root, h'⟩, upd B R (b :: Bs'), ?_, ?_, fun R' hlt hR' => ?_⟩
  · refine hrel.setQ hrel.parts R _ _ (b :: Bs') (fun x => x ∈ b :: Bs) htag hbeh.size hbeh.block (fun x hx => ⟨⟨R, hR, hBs x hx⟩, fun R' hne hR' => hapart x (hBs x hx) R' hne hR'⟩) (fun x hx => ?_) fun _ => ?_
    · rcases List.mem_cons.1 hx with rfl | hx
      · exact .inl ⟨⟨R, hR, hBs _ (by simp)⟩, fun R' hne hR' => hapart _ (hBs _ (by simp)) R' hne hR'⟩
      · rcases hB' x hx with h1 | h1
        · exact .inl ⟨⟨R, hR, hBs x (by simp [h1])⟩, fun R' hne hR' => hapart x (hBs x (by simp [h1])) R' hne hR'⟩
        · exact .inr h1
    · exact ⟨hn', b, cs', e', Bs', hroot, hblk', (ht' _).mono hst (fun _ _ => rfl) (fun _ _ => rfl) (fun _ _ => rfl), rfl⟩
  · exact (hy _).mono hst (fun _ _ => rfl) (fun _ _ => rfl)
  · by_cases e : R' = R
    · subst e
      refine ⟨hR, by rw [Qd], fun hvir => ?_⟩
      rw [hroot] at hvir
      cases hvir
    · refine ⟨?_, by rw [Qa _ _ e], fun _ => by rw [Qa _ _ e]⟩
      rw [Qa _ _ e] at hR'
      simpa [Hp.retag] using hR'
theorem Qy1 (hg : Good P ρ E) {sh : Shp} {q : Nat} {f : FuncId} {args : Array Operand} {x : Operand} {xs0 : List Operand} {tys : Array TypeId} {x' : Opd} {args' : List Opd} (hq : q < 100000) (hrel : Rel ρ S₀ base F fr Γ β B a w) (ho : o.op = .call { callee := .value (.func f), args := args, argTypes := tys }) (hf : ρ (400000 + q) = f) (ha : args.toList = x :: xs0) (hx0 : opdOK ρ F.wd x x' = true) (hx : opdsOK ρ F.wd xs0 args' = true)
    (h : (AOp.callP sh q x' args').step E fr Γ K = some r) (hK : Cont P ρ S₀ base F fr Γ β B a w o K r G) : G := by
  subst hf
  simp only [AOp.step] at h
  split at h
  rotate_left
  · cases h
  rename_i R hxe
  split at h
  rotate_left
  · cases h
  rename_i d hG
  obtain ⟨c, hc, h⟩ := Option.bind_eq_some_iff.1 h
  obtain ⟨us, hus, h⟩ := Option.bind_eq_some_iff.1 h
  obtain ⟨u, hE, h⟩ := Option.bind_eq_some_iff.1 h
  obtain ⟨hok, hP⟩ := hg _ _ u hE
  rw [show (400000 + q) / 100000 = 4 by omega] at hP
  obtain ⟨c1, us1, y, c', he, rfl, hcalls⟩ := hP
  simp only [List.cons.injEq, U.agg.injEq, U.tup.injEq, and_true] at he
  obtain ⟨rfl, rfl⟩ := he
  refine Qij (l := false) (v0 := a.eval x) (vs := xs0.map a.eval) hrel hG hc hcalls (by have := hrel.opd hx0; rwa [hxe] at this) (hrel.args hx hus) ?_ (Qii (K := fun c' => K (.st [.cut R []] (.val y) (upd (Γ.retag (.cut R [])) R (some (.box c'.pdec))))) h) hK
  simp only [execOp, ho, resolve, Deferred.ofValue, Act.eval, Sem.run_bind, Sem.run_pure, Result.andThen_ok, invoke]
  rw [Qbl hok]
  congr 2
  apply Array.ext'
  simp [ha, pargs, Act.eval]
theorem Qpt {S : Nat → Prop} {q R : Nat} {v : Value} (h : VD ρ w S β (.fnv q [.ptr R []]) v) : ∃ v0, v = .func (.func (ρ q)) #[] #[v0] ∧ VD ρ w S β (.ptr R []) v0 := by
  rcases h with h | ⟨cs, h1, h2⟩
  · cases h
  · cases h1 with
    | fnv r h1 hv h =>
      cases h
      cases h1 with
      | ptr R p b o hp h =>
        cases h
        have h2 : _ = _ := h2
        refine ⟨.pointer (some ⟨b, o, none⟩), ?_, Qbp hp⟩
        simpa [D.isAgg] using h2.symm
theorem Qyz (hg : Good P ρ E) {sh : Shp} {q : Nat} {f : Operand} {f' : Opd} {args : Array Operand} {tys : Array TypeId} {args' : List Opd} (hq : q < 100000) (hrel : Rel ρ S₀ base F fr Γ β B a w) (ho : o.op = .call { callee := .value f, args := args, argTypes := tys }) (hρ : ρ (500000 + q) = ρ q) (hf : opdOK ρ F.wd f f' = true) (hx : opdsOK ρ F.wd args.toList args' = true)
    (h : (AOp.callL sh q f' args').step E fr Γ K = some r) (hK : Cont P ρ S₀ base F fr Γ β B a w o K r G) : G := by
  simp only [AOp.step] at h
  split at h
  rotate_left
  · cases h
  rename_i q' R hfe
  split at h
  rotate_left
  · cases h
  rename_i d hG
  split at h
  rotate_left
  · cases h
  rename_i hqq
  subst hqq
  obtain ⟨c, hc, h⟩ := Option.bind_eq_some_iff.1 h
  obtain ⟨us, hus, h⟩ := Option.bind_eq_some_iff.1 h
  obtain ⟨u, hE, h⟩ := Option.bind_eq_some_iff.1 h
  obtain ⟨hok, hP⟩ := hg _ _ u hE
  rw [show (500000 + q') / 100000 = 5 by omega] at hP
  obtain ⟨c1, us1, y, c', he, rfl, hcalls⟩ := hP.1 (by omega)
  simp only [List.cons.injEq, U.agg.injEq, U.tup.injEq, and_true] at he
  obtain ⟨rfl, rfl⟩ := he
  have hv := hrel.opd hf
  rw [hfe] at hv
  obtain ⟨v0, e0, hv0⟩ := Qpt hv
  refine Qij (l := true) (v0 := v0) (vs := args.toList.map a.eval) hrel hG hc hcalls hv0 (hrel.args hx hus) ?_ (Qii (K := fun c' => K (.st [.cut R []] (.val y) (upd (Γ.retag (.cut R [])) R (some (.box c'.pdec))))) h) hK
  rw [hρ] at hok ⊢
  simp only [execOp, ho, resolve, e0, Deferred.ofValue, Sem.run_bind, Sem.run_pure, Result.andThen_ok, invoke]
  rw [Qbl hok]
  congr 2
  apply Array.ext'
  simp [pargs]
theorem Qmj (hrel : Rel ρ S₀ base F fr Γ β B a w) : ∀ {xs : List Operand} {xs' : List Opd} {KF : List Int → Option α}, opdsOK ρ F.wd xs xs' = true → intsOf fr xs' KF = some r → ∃ ns : List Int, xs.map a.eval = ns.map (.int .i64 ·) ∧ KF ns = some r
  | [], [], KF, _, h => ⟨[], rfl, h⟩
  | [], _ :: _, _, h, _ => by cases h
  | _ :: _, [], _, h, _ => by cases h
  | x :: xs, x' :: xs', KF, hx, h => by
    simp only [opdsOK, Bool.and_eq_true] at hx
    obtain ⟨n, hn, h⟩ := Qad (K := fun n => intsOf fr xs' fun ns => KF (n :: ns)) h
    obtain ⟨ns, hns, h⟩ := Qmj hrel (KF := fun ns => KF (n :: ns)) hx.2 h
    exact ⟨n :: ns, by simp [hrel.int hx.1 hn, hns], h⟩
theorem Qod (w : World) : ∀ (ns : List Int) (n : Int), ((ns.map (Value.int .i64 ·)).foldlM Builtin.max2 (.int .i64 n)).run P w = .ok (.int .i64 (ns.foldl (fun a b => if a < b then b else a) n)) w
  | [], n => rfl
  | m :: ns, n => by
    simp only [List.map_cons, List.foldlM_cons, Builtin.max2, Sem.run_bind, Sem.run_pure, Result.andThen_ok, List.foldl_cons]
    exact Qod w ns _
theorem Qoe (w : World) : ∀ (ns : List Int) (n : Int), ((ns.map (Value.int .i64 ·)).foldlM Builtin.min2 (.int .i64 n)).run P w = .ok (.int .i64 (ns.foldl (fun a b => if b < a then b else a) n)) w
  | [], n => rfl
  | m :: ns, n => by
    simp only [List.map_cons, List.foldlM_cons, Builtin.min2, Sem.run_bind, Sem.run_pure, Result.andThen_ok, List.foldl_cons]
    exact Qoe w ns _
theorem Qzh {mx : Bool} {args : Array Operand} {tys : Array TypeId} {args' : List Opd} (hrel : Rel ρ S₀ base F fr Γ β B a w) (ho : o.op = .call { callee := .builtin (if mx then .max else .min), args := args, argTypes := tys }) (hx : opdsOK ρ F.wd args.toList args' = true)
    (h : (AOp.minmax mx args').step E fr Γ K = some r) (hK : Cont P ρ S₀ base F fr Γ β B a w o K r G) : G := by
  simp only [AOp.step] at h
  obtain ⟨ns, hns, h⟩ := Qmj (KF := fun ns => match ns with
    | [] => none
    | n :: ns => K (.v (.val (.int .i64 (ns.foldl (fun a b => if mx then (if a < b then b else a) else (if b < a then b else a)) n))))) hrel hx h
  cases ns with
  | nil => cases h
  | cons n ns =>
    have hargs : (args.map a.eval).toList = .int .i64 n :: ns.map (Value.int .i64 ·) := by simpa using hns
    refine hK.here _ _ h (Ql (Qv _ _ _)) fun w' _ => ?_
    cases mx with
    | true =>
      simp only [if_true, execOp, ho, resolve, Sem.run_bind, Sem.run_pure, Result.andThen_ok, invoke, builtin, Builtin.max_, hargs, Qod]
    | false =>
      simp only [Bool.false_eq_true, if_false, execOp, ho, resolve, Sem.run_bind, Sem.run_pure, Result.andThen_ok, invoke, builtin, Builtin.min_, hargs, Qoe]
end
end Go.Proofs.Ytboenehajoaahaa.Am
