import Derived.Laws.StructEq
import Derived.Test.YticokpflinlgbaaGreatAmG
/-
  What the model's operation does, for each operation of the abstract machine: the simple ones.
-/
namespace Go.Proofs.YticokpflinlgbaaGreat.Am
open Go Go.RowKit

/-- But for the blocks in A the world w' is as w was. -/
structure Behind (A : Nat → Prop) (w w' : World) : Prop where
  os : w'.os = w.os
  tape : w'.tape = w.tape
  output : w'.output = w.output
  size : w.heap.size ≤ w'.heap.size
  block : ∀ k, k < w.heap.size → ¬ A k → w'.heap[k]? = w.heap[k]?

theorem Behind.refl (A : Nat → Prop) (w : World) : Behind A w w := ⟨rfl, rfl, rfl, Nat.le_refl _, fun _ _ _ => rfl⟩
theorem Behind.trans {A : Nat → Prop} {a b c : World} (h : Behind A a b) (k : Behind A b c) : Behind A a c :=
  ⟨k.os.trans h.os, k.tape.trans h.tape, k.output.trans h.output, Nat.le_trans h.size k.size, fun i hi hA => (k.block i (Nat.lt_of_lt_of_le hi h.size) hA).trans (h.block i hi hA)⟩
theorem Behind.of_below {A : Nat → Prop} {w w' : World} (h : Below w.heap.size w w') : Behind A w w' := ⟨h.os, h.tape, h.output, h.size, fun k hk _ => h.block k hk⟩
theorem Behind.below {w w' : World} (h : Behind (fun b => w.heap.size ≤ b) w w') : Below w.heap.size w w' := ⟨h.os, h.tape, h.output, h.size, fun k hk => h.block k hk (by omega)⟩

/-- A new slice of the call's own: its elements, its value, its block. -/
def ArrNew (ρ : Nat → FuncId) (w w' : World) (S : Nat → Prop) (k : Nat) (us : List U) (v : Value) : Prop :=
  ∃ Bs, (∀ b ∈ Bs, w.heap.size ≤ b ∧ b < w'.heap.size) ∧ ∀ β, RootOK ρ w' S β (.arr k us) (.vir v) Bs

/-- What is to follow an operation: how the goal 'G' is won from what the operation does. -/
structure Cont {α : Type} (P : Program) (ρ : Nat → FuncId) (S₀ : Nat → Prop) (Γ : Hp) (β : Nat → Pl) (B : Nat → List Nat) (a : Act) (w : World) (o : Oper) (K : Eff → Option α) (r : α) (G : Prop) : Prop where
  here : ∀ d v, K (.v d) = some r → VD ρ w (Stands S₀ w Γ B) β d v → (∀ w', Below w.heap.size w w' → (execOp a.eval o).run P w' = .ok (.value v) w') → G
  vnew : ∀ u v w', K (.vnew u) = some r → (execOp a.eval o).run P w = .ok (.value v) w' → Below w.heap.size w w' → VD ρ w' (Stands S₀ w' Γ B) β (.val u) v → G
  call : ∀ fl u f args, K (.cl fl u) = some r → (fl = true → u.flat = true) → (∀ w', Below w.heap.size w w' → (execOp a.eval o).run P w' = .ok (.enter f args) w') →
    (∀ w', Below w.heap.size w w' → Calls P f args w' fun e w'' => ∃ v, e = .returned v ∧ Below w'.heap.size w' w'' ∧ VD ρ w'' (fun b => Stands S₀ w Γ B b ∨ (w'.heap.size ≤ b ∧ b < w''.heap.size)) β (.val u) v) → G
  box : ∀ d cs e, K (.new (.box d)) = some r → DCs ρ w (Stands S₀ w Γ B) β [d] cs → (execOp a.eval o).run P w = .ok (.value (.pointer (some ⟨w.heap.size, 0, none⟩))) (w.alloc (.cells cs.toArray e)) → G
  callF : ∀ k us f args, K (.new (.arr k us)) = some r → (∀ w', Below w.heap.size w w' → (execOp a.eval o).run P w' = .ok (.enter f args) w') →
    (∀ w', Below w.heap.size w w' → Calls P f args w' fun e w'' => ∃ v, e = .returned v ∧ Below w'.heap.size w' w'' ∧ ArrNew ρ w' w'' (fun _ => False) k us v) → G
  callM : ∀ R k us u f args, K (.chgv R (.arr k us) u) = some r → (Γ R).isSome = true → (execOp a.eval o).run P w = .ok (.enter f args) w →
    (Calls P f args w fun e w'' => ∃ v, e = .returned v ∧ (∀ S β, VD ρ w'' S β (.val u) v) ∧ Behind (fun b => b ∈ B R) w w'' ∧ ∀ β', RootOK ρ w'' (fun _ => False) β' (.arr k us) (β R) (B R)) → G
  arr : ∀ k us v w', K (.new (.arr k us)) = some r → (execOp a.eval o).run P w = .ok (.value v) w' → Below w.heap.size w w' → ArrNew ρ w w' (Stands S₀ w Γ B) k us v → G
  chg : ∀ R c w', K (.chg R c) = some r → (execOp a.eval o).run P w = .ok .skip w' → (Γ R).isSome = true → w'.os = w.os → w'.tape = w.tape → w'.output = w.output → w'.heap.size = w.heap.size → (∀ b, b ∉ B R → w'.heap[b]? = w.heap[b]?) →
    RootOK ρ w' (Stands S₀ w Γ B) β c (β R) (B R) → G
  swap : ∀ R k us v w' Bs, K (.swap R (.arr k us)) = some r → (execOp a.eval o).run P w = .ok (.value v) w' → (Γ R).isSome = true → w'.os = w.os → w'.tape = w.tape → w'.output = w.output → w.heap.size ≤ w'.heap.size →
    (∀ b, b < w.heap.size → b ∉ B R → w'.heap[b]? = w.heap[b]?) → (∀ b ∈ Bs, b ∈ B R ∨ (w.heap.size ≤ b ∧ b < w'.heap.size)) → (∀ β, RootOK ρ w' (Stands S₀ w Γ B) β (.arr k us) (.vir v) Bs) → G

section
variable {P : Program} {o : Oper} {a : Act} {w w' : World}

theorem run_v {s : Sem Value} {v : Value} (h : s.run P w = .ok v w') : (do pure (Next.value (← s)) : Sem Next).run P w = .ok (.value v) w' := by
  rw [Sem.run_bind, h]; rfl

theorem rangeAt_below {b off : Nat} {c : List Value} (h : w.rangeAt b off c) (hb : Below w.heap.size w w') : w'.rangeAt b off c := fun j v hv => by
  have h1 := h j v hv
  rw [hb.cell ?_]
  · exact h1
  · refine Nat.lt_of_not_le fun hle => ?_
    simp [World.cell?, Array.getElem?_eq_none hle] at h1
end

section
variable {α : Type} {P : Program} {ρ : Nat → FuncId} {base : Nat → Prop} {N : Nat} {fr : Frm} {S₀ : Nat → Prop} {Γ : Hp} {β : Nat → Pl} {B : Nat → List Nat} {a : Act} {w w' : World} {E : Env}
  {K : Eff → Option α} {r : α} {G : Prop} {o : Oper}

/-! ### Values -/
theorem VD_int {S : Nat → Prop} {k : IntKind} {n : Int} {v : Value} (h : VD ρ w S β (.val (.int k n)) v) : v = .int k n := by
  obtain ⟨cs, h1, h2⟩ := h.uv (fun _ e => by cases e)
  cases h1 with | int k n h => cases h; simpa [D.isAgg] using h2.symm

theorem VD_bool {S : Nat → Prop} {b : Bool} {v : Value} (h : VD ρ w S β (.val (.bool b)) v) : v = .bool b := by
  obtain ⟨cs, h1, h2⟩ := h.uv (fun _ e => by cases e)
  cases h1 with | bool b h => cases h; simpa [D.isAgg] using h2.symm

theorem VD_str {S : Nat → Prop} {s : ByteArray} {v : Value} (h : VD ρ w S β (.val (.str s)) v) : v = .string s := by
  obtain ⟨cs, h1, h2⟩ := h.uv (fun _ e => by cases e)
  cases h1 with | str b h => cases h; simpa [D.isAgg] using h2.symm

theorem VD_nil {S : Nat → Prop} {v : Value} (h : VD ρ w S β (.val .nil) v) : v = .pointer none := by
  obtain ⟨cs, h1, h2⟩ := h.uv (fun _ e => by cases e)
  cases h1 with | nilp h => cases h; simpa [D.isAgg] using h2.symm

theorem VD_nsl {S : Nat → Prop} {k : Nat} {v : Value} (h : VD ρ w S β (.val (.nsl k)) v) : v = .slice none 0 0 := by
  obtain ⟨cs, h1, h2⟩ := h.uv (fun _ e => by cases e)
  cases h1 with | nsl k h => cases h; simpa [D.isAgg] using h2.symm

theorem VD_vp {S : Nat → Prop} {u : U} {v : Value} (h : VD ρ w S β (.val (.vp u)) v) : ∃ b off c1, v = .pointer (some ⟨b, off, none⟩) ∧ S b ∧ w.rangeAt b off c1 ∧ URs ρ w S [u] c1 := by
  obtain ⟨cs, h1, h2⟩ := h.uv (fun _ e => by cases e)
  cases h1 with | vp b off hb hc h1 h => cases h; exact ⟨b, off, _, by simpa [D.isAgg] using h2.symm, hb, hc, h1⟩

theorem VD_sl {S : Nat → Prop} {k : Nat} {us : List U} {v : Value} (h : VD ρ w S β (.val (.sl k us)) v) :
    (us = [] ∧ ∃ a cap, v = .slice a 0 cap) ∨ ∃ b off cap c1, us ≠ [] ∧ v = .slice (some ⟨b, off, none⟩) us.length cap ∧ S b ∧ us.length ≤ cap ∧ cap ≤ maxLen ∧ (∀ u ∈ us, u.size = k) ∧ w.rangeAt b off c1 ∧ URs ρ w S us c1 := by
  obtain ⟨cs, h1, h2⟩ := h.uv (fun _ e => by cases e)
  cases h1 with
  | sl0 k a cap h => cases h; exact .inl ⟨rfl, a, cap, by simpa [D.isAgg] using h2.symm⟩
  | sl1 k b off cap hne hb hcap hmax hk hc h1 h => cases h; exact .inr ⟨b, off, cap, _, hne, by simpa [D.isAgg] using h2.symm, hb, hcap, hmax, hk, hc, h1⟩

theorem VD_agg {S : Nat → Prop} {us : List U} {v : Value} (h : VD ρ w S β (.val (.agg us)) v) : ∃ cs, v = .agg cs.toArray ∧ URs ρ w S us cs := by
  obtain ⟨cs, h1, h2⟩ := h.uv (fun _ e => by cases e)
  exact ⟨cs, by simpa [D.isAgg] using h2, h1.agg_inv⟩

theorem VD_tup {S : Nat → Prop} {us : List U} {v : Value} (h : VD ρ w S β (.val (.tup us)) v) : ∃ vs : List Value, v = .tuple vs.toArray ∧ V1s ρ w S β (us.map .val) vs := h

theorem VD_fn {S : Nat → Prop} {q : Nat} {caps : List U} {v : Value} (h : VD ρ w S β (.val (.fn q caps)) v) : ∃ vs : List Value, v = .func (.func (ρ q)) #[] vs.toArray ∧ URs ρ w S caps vs ∧ ∀ u ∈ caps, u.isVp = true := by
  obtain ⟨cs, h1, h2⟩ := h.uv (fun _ e => by cases e)
  cases h1 with | fn q h1 hv h => cases h; exact ⟨_, by simpa [D.isAgg] using h2.symm, h1, hv⟩

theorem UV_int (S : Nat → Prop) (k : IntKind) (n : Int) : UV ρ w S (.int k n) (.int k n) := ⟨[_], .int k n .nil, rfl⟩
theorem UV_bool (S : Nat → Prop) (b : Bool) : UV ρ w S (.bool b) (.bool b) := ⟨[_], .bool b .nil, rfl⟩
theorem UV_str (S : Nat → Prop) (s : ByteArray) : UV ρ w S (.str s) (.string s) := ⟨[_], .str s .nil, rfl⟩

theorem VD_ptr {S : Nat → Prop} {R : Nat} {p : List Step} {v : Value} (h : VD ρ w S β (.ptr R p) v) : ∃ b off, v = .pointer (some ⟨b, off, none⟩) ∧ (β R).go p = some (.adr b off) := by
  rcases h with h | ⟨cs, h1, h2⟩
  · cases h
  · cases h1 with | ptr R p b off hp h => cases h; exact ⟨b, off, by simpa [D.isAgg] using h2.symm, hp⟩

theorem VD_of_ptr {S : Nat → Prop} {R : Nat} {p : List Step} {b off : Nat} (h : (β R).go p = some (.adr b off)) : VD ρ w S β (.ptr R p) (.pointer (some ⟨b, off, none⟩)) :=
  .inr ⟨[_], .ptr R p b off h .nil, rfl⟩

theorem VD_ref {S : Nat → Prop} {R k : Nat} {part : Option (Nat × Nat)} {v : Value} (h : VD ρ w S β (.ref R k part) v) : ∃ v0, β R = .vir v0 ∧ subSlice k part v0 v := by
  rcases h with h | ⟨cs, h1, h2⟩
  · cases h
  · cases h1 with
    | ref R k part v1 v0 hv hs h =>
      cases h
      have : v = v1 := by simpa [D.isAgg] using h2.symm
      exact ⟨v0, hv, this ▸ hs⟩

theorem VD_of_ref {S : Nat → Prop} {R k : Nat} {part : Option (Nat × Nat)} {v v0 : Value} (hv : β R = .vir v0) (hs : subSlice k part v0 v) : VD ρ w S β (.ref R k part) v :=
  .inr ⟨[_], .ref R k part v v0 hv hs .nil, rfl⟩

/-! ### The operations, one by one -/
theorem sound_mv {x : Operand} {x' : Opd} (hrel : Rel ρ S₀ base N fr Γ β B a w) (ho : o.op = .move x ∨ o.op = .assign x) (hx : opdOK ρ N x x' = true)
    (h : (AOp.mv x').step E fr Γ K = some r) (hK : Cont P ρ S₀ Γ β B a w o K r G) : G := by
  refine hK.here _ _ h (hrel.opd hx) fun w' _ => ?_
  rcases ho with ho | ho <;> simp [execOp, ho]

theorem sound_pick {c x y : Operand} {c' x' y' : Opd} (hrel : Rel ρ S₀ base N fr Γ β B a w) (ho : o.op = .pick c x y) (hc : opdOK ρ N c c' = true) (hx : opdOK ρ N x x' = true) (hy : opdOK ρ N y y' = true)
    (h : (AOp.pick c' x' y').step E fr Γ K = some r) (hK : Cont P ρ S₀ Γ β B a w o K r G) : G := by
  simp only [AOp.step] at h
  have hv := hrel.opd hc
  cases he : c'.ev fr with
  | val u =>
    rw [he] at h hv
    cases u with
    | bool b =>
      have hb := VD_bool hv
      cases b with
      | true => exact hK.here _ _ h (hrel.opd hx) (fun w' _ => by simp [execOp, ho, hb, asBool])
      | false => exact hK.here _ _ h (hrel.opd hy) (fun w' _ => by simp [execOp, ho, hb, asBool])
    | _ => cases h
  | _ => rw [he] at h; cases h

theorem V1.cells' {S : Nat → Prop} {d : D} {v : Value} (h : V1 ρ w S β d v) (hne : d ≠ .undef) : ∃ cs, v.cells = cs.toArray ∧ DCs ρ w S β [d] cs := by
  rcases h with h | ⟨cs, h1, h2⟩
  · exact absurd h hne
  · refine ⟨cs, ?_, h1⟩
    split at h2
    · rw [h2]; rfl
    · subst h2
      have h3 := h1.oneCell v (by simp)
      cases v <;> simp_all [Value.cells, Value.oneCell']

theorem alloc_range (w : World) (cs : List Value) (e : TypeId) : (w.alloc (.cells cs.toArray e)).rangeAt w.heap.size 0 cs := fun j v hv => by
  have : (w.alloc (.cells cs.toArray e)).heap[w.heap.size]? = some (.cells cs.toArray e (0, 0)) := heap_alloc_new w _
  unfold World.cell?
  simp only [this]
  simpa using hv

theorem sound_box {t : TypeId} {x : Operand} {fz : Bool} {x' : Opd} (hrel : Rel ρ S₀ base N fr Γ β B a w) (ho : o.op = .box t x) (hx : opdOK ρ N x x' = true)
    (h : (AOp.box fz x').step E fr Γ K = some r) (hK : Cont P ρ S₀ Γ β B a w o K r G) : G := by
  simp only [AOp.step] at h
  have hv := hrel.opd hx
  have hrun : ∀ cs : List Value, (a.eval x).cells = cs.toArray → (execOp a.eval o).run P w = .ok (.value (.pointer (some ⟨w.heap.size, 0, none⟩))) (w.alloc (.cells cs.toArray t)) := fun cs hc => by
    simp [execOp, ho, Instr.box, newVar, newRow, hc]
  have key : ∀ d, V1 ρ w (Stands S₀ w Γ B) β d (a.eval x) → d ≠ .undef → K (.new (.box d)) = some r → G := by
    intro d hd hne hr
    obtain ⟨cs, hc, h1⟩ := hd.cells' hne
    exact hK.box d cs t hr h1 (hrun cs hc)
  cases he : x'.ev fr with
  | val u =>
    rw [he] at h hv
    simp only at h
    have hn : ∀ us, u ≠ .tup us := by
      rintro us rfl
      cases h
    have h' : (match fz with | true => K (.vnew (.vp u)) | false => K (.new (.box (.val u)))) = some r := by
      unfold U.noTup at h
      split at h
      · cases h
      · cases fz <;> exact h
    cases fz with
    | false => exact key (.val u) (hv.uv hn).v1 (fun e => by cases e) h'
    | true =>
      obtain ⟨cs, hc, h1⟩ := (hv.uv hn).v1 (β := β) |>.cells' (fun e => by cases e)
      have hb : Below w.heap.size w (w.alloc (.cells cs.toArray t)) := (Below.refl _ _).alloc (Nat.le_refl _) _
      refine hK.vnew _ _ _ h' (hrun cs hc) hb (VD_val ⟨[_], .vp w.heap.size 0 ?_ (alloc_range w cs t) (h1.val_inv.mono ?_ ?_) .nil, rfl⟩)
      · exact ⟨by simp, fun R hR hm => by have := (hrel.inside R hR _ hm).2; omega, hrel.fresh _ (hrel.low _ (Nat.le_refl _))⟩
      · exact fun b hb => ⟨by have := hb.1; simp; omega, hb.2, hb.3⟩
      · intro b o v hS hv
        exact (hb.cell (p := ⟨b, o, none⟩) hS.1).trans hv
  | tup ds => rw [he] at h; cases h
  | skip => rw [he] at h; cases h
  | undef => rw [he] at h; cases h
  | agg ds => rw [he] at h hv; cases fz <;> first | cases h | exact key _ hv (fun e => by cases e) h
  | ref R k part => rw [he] at h hv; cases fz <;> first | cases h | exact key _ hv (fun e => by cases e) h
  | ptr R p => rw [he] at h hv; cases fz <;> first | cases h | exact key _ hv (fun e => by cases e) h
  | fnv q caps => rw [he] at h hv; cases fz <;> first | cases h | exact key _ hv (fun e => by cases e) h

def tyZero (P : Program) (t : TypeId) : Option Value := (P.info? t).bind (·.zero)

theorem run_zeroValue' {t : TypeId} {z : Value} (h : tyZero P t = some z) : (zeroValue t).run P w = .ok z w := by
  unfold tyZero at h
  cases hi : P.info? t with
  | none => simp [hi] at h
  | some i =>
    simp only [hi, Option.bind_some] at h
    simp [zeroValue, typeInfo, hi, h]

theorem UV.cells {S : Nat → Prop} {u : U} {v : Value} (h : UV ρ w S u v) : ∃ cs, v.cells = cs.toArray ∧ URs ρ w S [u] cs := by
  obtain ⟨cs, h1, h2⟩ := h
  refine ⟨cs, ?_, h1⟩
  split at h2
  · rw [h2]; rfl
  · subst h2
    have h3 := h1.oneCell v (by simp)
    cases v <;> simp_all [Value.cells, Value.oneCell']

theorem sound_alloc {t : TypeId} {z : U} {zv : Value} (ho : o.op = .alloc t) (hz : tyZero P t = some zv) (hc : constOK zv z = true)
    (h : (AOp.alloc z).step E fr Γ K = some r) (hK : Cont P ρ S₀ Γ β B a w o K r G) : G := by
  obtain ⟨cs, h1, h2⟩ := (constOK_sound (ρ := ρ) (w := w) (S := Stands S₀ w Γ B) hc).cells
  refine hK.box (.val z) cs t h (DCs.of_val h2) ?_
  simp [execOp, ho, Instr.alloc, run_zeroValue' hz, newVar, newRow, h1]

theorem sound_un {op : UnOp} {t : TypeId} {x : Operand} {x' : Opd} (hrel : Rel ρ S₀ base N fr Γ β B a w) (ho : o.op = .unOp op t x) (hx : opdOK ρ N x x' = true)
    (h : (AOp.un op x').step E fr Γ K = some r) (hK : Cont P ρ S₀ Γ β B a w o K r G) : G := by
  simp only [AOp.step] at h
  have hv := hrel.opd hx
  cases he : x'.ev fr with
  | val u =>
    rw [he] at h hv
    simp only [D.asVal, Option.bind_eq_some_iff] at h
    obtain ⟨u', hu, hr⟩ := h
    unfold U.un at hu
    split at hu
    · cases hu
      exact hK.here _ _ hr (VD_val (UV_bool _ _)) (fun w' _ => by simp [execOp, ho, VD_bool hv, Op.unary])
    · cases hu
      exact hK.here _ _ hr (VD_val (UV_int _ _ _)) (fun w' _ => by simp [execOp, ho, VD_int hv, Op.unary, Op.intArith])
    · cases hu
  | _ => rw [he] at h; cases h

theorem sound_conv {s t : TypeId} {k : IntKind} {x : Operand} {x' : Opd} (hrel : Rel ρ S₀ base N fr Γ β B a w) (ho : o.op = .convert s t x) (hs : ∃ k', P.underlying s = some (.int k')) (ht : P.underlying t = some (.int k)) (hx : opdOK ρ N x x' = true)
    (h : (AOp.conv k x').step E fr Γ K = some r) (hK : Cont P ρ S₀ Γ β B a w o K r G) : G := by
  obtain ⟨k', hs⟩ := hs
  simp only [AOp.step] at h
  have hv := hrel.opd hx
  cases he : x'.ev fr with
  | val u =>
    rw [he] at h hv
    simp only [D.asVal, Option.bind_eq_some_iff] at h
    obtain ⟨u', hu, hr⟩ := h
    unfold U.conv at hu
    split at hu
    · cases hu
      exact hK.here _ _ hr (VD_val (UV_int _ _ _)) (fun w' _ => by simp [execOp, ho, VD_int hv, convert, run_underlying hs, run_underlying ht, Conv.intToInt])
    · cases hu
  | _ => rw [he] at h; cases h

theorem eqGuard_int (op : BinOp) (t : TypeId) (x y : Operand) (k k' : IntKind) (m n : Int) : (eqGuard op t x y (.int k m) (.int k' n)).run P w = .ok () w := by
  unfold eqGuard
  split <;> rfl

theorem eqGuard_str (op : BinOp) (t : TypeId) (x y : Operand) (m n : ByteArray) : (eqGuard op t x y (.string m) (.string n)).run P w = .ok () w := by
  unfold eqGuard
  split <;> rfl

theorem bin_run (op : BinOp) (t : TypeId) (x y : Operand) (u1 u2 u : U) (v1 v2 : Value) {S : Nat → Prop} (h1 : VD ρ w S β (.val u1) v1) (h2 : VD ρ w S β (.val u2) v2) (h : U.bin op u1 u2 = some u) :
    ∃ v, (∀ w2, (do eqGuard op t x y v1 v2; binOp op t v1 v2 : Sem Value).run P w2 = .ok v w2) ∧ UV ρ w S u v := by
  unfold U.bin at h
  split at h
  · obtain rfl := VD_int h1
    obtain rfl := VD_int h2
    split at h
    · rename_i k m k' n hk
      subst hk
      simp only [Sem.run_bind, eqGuard_int, Result.andThen_ok]
      split at h
      · cases h; exact ⟨_, fun w2 => by simp [binOp, Op.intArith], UV_int _ _ _⟩
      · cases h; exact ⟨_, fun w2 => by simp [binOp, Op.intArith], UV_int _ _ _⟩
      · cases h; exact ⟨_, fun w2 => by simp [binOp, Op.intArith], UV_int _ _ _⟩
      · split at h
        · cases h
        · rename_i h0; cases h; exact ⟨_, fun w2 => by simp [binOp, Op.intDiv, h0], UV_int _ _ _⟩
      · split at h
        · cases h
        · rename_i h0; cases h; exact ⟨_, fun w2 => by simp [binOp, Op.intDiv, h0], UV_int _ _ _⟩
      · cases h; exact ⟨_, fun w2 => by simp [binOp, Op.intCmp], UV_bool _ _⟩
      · cases h; exact ⟨_, fun w2 => by simp [binOp, Op.intCmp], UV_bool _ _⟩
      · cases h; exact ⟨_, fun w2 => by simp [binOp, Op.intCmp], UV_bool _ _⟩
      · cases h; exact ⟨_, fun w2 => by simp [binOp, Op.intCmp], UV_bool _ _⟩
      · cases h; exact ⟨_, fun w2 => by simp [binOp, Op.intCmp], UV_bool _ _⟩
      · cases h; exact ⟨_, fun w2 => by simp [binOp, Op.intCmp], UV_bool _ _⟩
      · cases h
    · cases h
  · obtain rfl := VD_str h1
    obtain rfl := VD_str h2
    split at h
    · rename_i hs
      cases h
      refine ⟨_, fun w2 => ?_, UV_str _ _⟩
      simp only [Sem.run_bind, eqGuard_str, Result.andThen_ok]
      rename_i s1 s2
      have : ¬ (((s1.size + s2.size : Nat) : Int) > IntKind.i64.max) := by
        have : IntKind.i64.max = 9223372036854775807 := by decide
        omega
      simp [binOp, Op.stringOp]
      omega
    · cases h
  · obtain rfl := VD_str h1
    obtain rfl := VD_str h2
    cases h
    refine ⟨_, fun w2 => ?_, UV_bool _ _⟩
    simp only [Sem.run_bind, eqGuard_str, Result.andThen_ok]
    simp [binOp, Op.stringOp]
  · obtain rfl := VD_str h1
    obtain rfl := VD_str h2
    cases h
    refine ⟨_, fun w2 => ?_, UV_bool _ _⟩
    simp only [Sem.run_bind, eqGuard_str, Result.andThen_ok]
    simp [binOp, Op.stringOp]
  · cases h

theorem sound_bin {op : BinOp} {t t' : TypeId} {x y : Operand} {x' y' : Opd} (hrel : Rel ρ S₀ base N fr Γ β B a w) (ho : o.op = .binOp op t x y t') (hx : opdOK ρ N x x' = true) (hy : opdOK ρ N y y' = true)
    (h : (AOp.bin op x' y').step E fr Γ K = some r) (hK : Cont P ρ S₀ Γ β B a w o K r G) : G := by
  simp only [AOp.step] at h
  have h1 := hrel.opd hx
  have h2 := hrel.opd hy
  cases he : x'.ev fr with
  | val u1 =>
    cases he2 : y'.ev fr with
    | val u2 =>
      rw [he] at h h1
      rw [he2] at h h2
      simp only [D.asVal, Option.bind_eq_some_iff] at h
      obtain ⟨u, hu, hr⟩ := h
      obtain ⟨v, hv, huv⟩ := bin_run (P := P) op t x y u1 u2 u _ _ h1 h2 hu
      exact hK.here _ _ hr (VD_val huv) (fun w' _ => by simp only [execOp, ho]; exact run_v (hv w'))
    | _ => rw [he, he2] at h; cases h
  | _ => rw [he] at h; cases h

/-- May structs of this type be compared, int by int? -/
def flatInts (P : Program) : Nat → List Field → Bool
  | _, [] => true
  | i, f :: fs => f.offset == i && !(f.name == "_") && (match P.underlying f.type with | some (.int .i64) => true | _ => false) && flatInts P (i + 1) fs

def eqTyOK (P : Program) (t : TypeId) : Nat → Bool
  | 0 => match P.underlying t with | some .bool => true | _ => false
  | 1 => match P.underlying t with | some (.pointer _) => true | _ => false
  | n + 2 => (match P.underlying t with | some (.struct fs) => flatInts P 0 fs.toList && fs.size == n | _ => false) && !P.stoodInHeld t && !P.eqGuardType P.depth t

theorem part_int {t : TypeId} {cs : Array Value} {i : Nat} {v : Value} (ht : P.underlying t = some (.int .i64)) (hv : cs[i]? = some v) : (part t cs i).run P w = .ok v w := by
  unfold part isAgg
  simp [run_underlying ht, hv]

theorem eqInts_run {S : Nat → Prop} {d : Nat} {w2 : World} : ∀ (us vs : List U) (fs : List Field) (i : Nat) (cs ds : List Value) (pre1 pre2 : List Value) (b : Bool), eqInts us vs = some b → flatInts P i fs = true → pre1.length = i → pre2.length = i → fs.length = us.length →
    URs ρ w S us cs → URs ρ w S vs ds → (Op.eqFields (d + 1) (pre1 ++ cs).toArray (pre2 ++ ds).toArray fs).run P w2 = .ok b w2
  | [], [], fs, i, cs, ds, pre1, pre2, b, hb, hf, h1, h2, hl, hc, hd => by
    simp only [eqInts, Option.some.injEq] at hb
    obtain rfl : fs = [] := List.eq_nil_of_length_eq_zero (by simpa using hl)
    simp [Op.eqFields, hb]
  | [], v :: vs, fs, i, cs, ds, pre1, pre2, b, hb, hf, h1, h2, hl, hc, hd => by simp [eqInts] at hb
  | u :: us, [], fs, i, cs, ds, pre1, pre2, b, hb, hf, h1, h2, hl, hc, hd => by cases u <;> simp [eqInts] at hb
  | u :: us, v :: vs, fs, i, cs, ds, pre1, pre2, b, hb, hf, h1, h2, hl, hc, hd => by
    obtain ⟨m, n, rfl, rfl⟩ : ∃ m n, u = .int .i64 m ∧ v = .int .i64 n := by
      unfold eqInts at hb
      split at hb
      · simp_all
      · rename_i e1 e2; cases e1; cases e2; exact ⟨_, _, rfl, rfl⟩
      · cases hb
    cases fs with
    | nil => simp at hl
    | cons f fs =>
      simp only [eqInts, Option.map_eq_some_iff] at hb
      obtain ⟨b', hb', rfl⟩ := hb
      simp only [flatInts, Bool.and_eq_true, beq_iff_eq, Bool.not_eq_true'] at hf
      obtain ⟨⟨⟨hoff, hname⟩, hty⟩, hrest⟩ := hf
      have hu : P.underlying f.type = some (.int .i64) := by
        split at hty
        · assumption
        · cases hty
      cases hc with
      | int _ _ hc =>
        cases hd with
        | int _ _ hd =>
          rename_i cs ds
          have ih := eqInts_run (d := d) (w2 := w2) us vs fs (i + 1) cs ds (pre1 ++ [.int .i64 m]) (pre2 ++ [.int .i64 n]) b' hb' hrest (by simp [h1]) (by simp [h2]) (by simpa using hl) hc hd
          have hn : f.name ≠ "_" := by
            intro e; rw [e] at hname; simp at hname
          have p1 : (part f.type (pre1 ++ .int .i64 m :: cs).toArray f.offset).run P w2 = .ok (.int .i64 m) w2 := part_int hu (by simp [hoff, ← h1])
          have p2 : (part f.type (pre2 ++ .int .i64 n :: ds).toArray f.offset).run P w2 = .ok (.int .i64 n) w2 := part_int hu (by simp [hoff, ← h2])
          have e1 : (pre1 ++ [Value.int .i64 m] ++ cs) = pre1 ++ .int .i64 m :: cs := by simp
          have e2 : (pre2 ++ [Value.int .i64 n] ++ ds) = pre2 ++ .int .i64 n :: ds := by simp
          rw [e1, e2] at ih
          simp only [Op.eqFields, if_pos hn, Sem.run_bind, p1, p2, Result.andThen_ok, run_equalIn_int w2 d f.type .i64 .i64 m n hu]
          cases hmn : (m == n)
          · simp
          · simpa using ih

theorem eqGuard_nil (op : BinOp) (t : TypeId) (x y : Operand) (v1 v2 : Value) (h1 : ∀ cs, v1 ≠ .agg cs) (h2 : v1 ≠ .nilIface) : (eqGuard op t x y v1 v2).run P w = .ok () w := by
  unfold eqGuard
  cases v1 <;> first
    | exact absurd rfl h2
    | exact absurd rfl (h1 _)
    | (cases op <;> rfl)

theorem equal_of {t : TypeId} {x y : Value} {b : Bool} (h : ∀ d, (Op.equalIn (d + 1) t x y).run P w = .ok b w) : (Op.equal t x y).run P w = .ok b w := h 9999

theorem equalIn_nil (d : Nat) (t e : TypeId) (p : Option Addr) (hu : P.underlying t = some (.pointer e)) : (Op.equalIn (d + 1) t (.pointer p) (.pointer none)).run P w = .ok p.isNone w := by
  cases p <;> simp [Op.equalIn, run_underlying hu]

theorem run_eql_nilp (neg : Bool) (t e : TypeId) (x y : Operand) (p : Option Addr) (hu : P.underlying t = some (.pointer e)) :
    (do eqGuard (if neg then .neq else .eql) t x y (.pointer p) (.pointer none); binOp (if neg then .neq else .eql) t (.pointer p) (.pointer none) : Sem Value).run P w = .ok (.bool (if neg then !p.isNone else p.isNone)) w := by
  have he := equal_of (P := P) (w := w) fun d => equalIn_nil d t e p hu
  rw [Sem.run_bind, eqGuard_nil _ _ _ _ _ _ (fun _ e => by cases e) (fun e => by cases e)]
  cases neg
  · show (do pure (Value.bool (← Op.equal t (.pointer p) (.pointer none))) : Sem Value).run P w = _
    rw [Sem.run_bind, he]; rfl
  · show (do pure (Value.bool (!(← Op.equal t (.pointer p) (.pointer none)))) : Sem Value).run P w = _
    rw [Sem.run_bind, he]; rfl

theorem run_eql_bools (neg : Bool) (t : TypeId) (x y : Operand) (a b : Bool) (hu : P.underlying t = some .bool) :
    (do eqGuard (if neg then .neq else .eql) t x y (.bool a) (.bool b); binOp (if neg then .neq else .eql) t (.bool a) (.bool b) : Sem Value).run P w = .ok (.bool (if neg then !(a == b) else (a == b))) w := by
  have he := equal_of (P := P) (w := w) fun d => run_equalIn_bool w d t a b hu
  rw [Sem.run_bind, eqGuard_nil _ _ _ _ _ _ (fun _ e => by cases e) (fun e => by cases e)]
  cases neg
  · show (do pure (Value.bool (← Op.equal t (.bool a) (.bool b))) : Sem Value).run P w = _
    rw [Sem.run_bind, he]; rfl
  · show (do pure (Value.bool (!(← Op.equal t (.bool a) (.bool b)))) : Sem Value).run P w = _
    rw [Sem.run_bind, he]; rfl

theorem eqv_run (neg : Bool) (cls : Nat) (t : TypeId) (x y : Operand) (u1 u2 : U) (b : Bool) (v1 v2 : Value) (w2 : World) {S : Nat → Prop} (ht : eqTyOK P t cls = true) (h1 : VD ρ w S β (.val u1) v1) (h2 : VD ρ w S β (.val u2) v2)
    (h : U.eqv cls u1 u2 = some b) : (do eqGuard (if neg then .neq else .eql) t x y v1 v2; binOp (if neg then .neq else .eql) t v1 v2 : Sem Value).run P w2 = .ok (.bool (if neg then !b else b)) w2 := by
  unfold U.eqv at h
  split at h
  · obtain rfl := VD_bool h1
    obtain rfl := VD_bool h2
    cases h
    have hu : P.underlying t = some .bool := by
      unfold eqTyOK at ht
      simp only at ht
      split at ht
      · assumption
      · cases ht
    exact run_eql_bools neg t x y _ _ hu
  · obtain rfl := VD_nil h1
    obtain rfl := VD_nil h2
    cases h
    unfold eqTyOK at ht
    simp only at ht
    split at ht
    · rename_i hu
      exact run_eql_nilp neg t _ x y _ hu
    · cases ht
  · obtain ⟨b1, off, c1, rfl, _⟩ := VD_vp h1
    obtain rfl := VD_nil h2
    cases h
    unfold eqTyOK at ht
    simp only at ht
    split at ht
    · rename_i hu
      exact run_eql_nilp neg t _ x y _ hu
    · cases ht
  · rename_i n us vs
    split at h
    · rename_i hlen
      obtain ⟨cs, rfl, hc⟩ := VD_agg h1
      obtain ⟨ds, rfl, hd⟩ := VD_agg h2
      unfold eqTyOK at ht
      simp only [Bool.and_eq_true, Bool.not_eq_true'] at ht
      obtain ⟨⟨hf, hp⟩, hg⟩ := ht
      split at hf
      · rename_i fs hu
        simp only [Bool.and_eq_true, beq_iff_eq] at hf
        have hfo : P.fieldsOf t = fs := by simp [Program.fieldsOf, hu]
        have key := eqInts_run (P := P) (d := 9998) (w2 := w2) us vs fs.toList 0 cs ds [] [] b h hf.1 rfl rfl (by simp [hf.2, hlen]) hc hd
        have he : (Op.equalIn 10000 t (.agg cs.toArray) (.agg ds.toArray)).run P w2 = .ok b w2 := by
          rw [run_equalIn_struct w2 9999 t _ _ (by rw [hfo]; exact hu) hp, hfo]
          simpa using key
        rw [Sem.run_bind, run_eqGuard_agg w2 _ _ _ _ _ _ hg]
        cases neg
        · simp only [Bool.false_eq_true, if_false, Result.andThen_ok, run_eql_struct, he]
        · simp only [if_true, Result.andThen_ok, run_neq_struct, he]
      · cases hf
    · cases h
  · cases h

theorem sound_eqv {neg : Bool} {cls : Nat} {t t' : TypeId} {x y : Operand} {x' y' : Opd} (hrel : Rel ρ S₀ base N fr Γ β B a w) (ho : o.op = .binOp (if neg then .neq else .eql) t x y t') (ht : eqTyOK P t cls = true)
    (hx : opdOK ρ N x x' = true) (hy : opdOK ρ N y y' = true)
    (h : (AOp.eqv neg cls x' y').step E fr Γ K = some r) (hK : Cont P ρ S₀ Γ β B a w o K r G) : G := by
  simp only [AOp.step] at h
  have h1 := hrel.opd hx
  have h2 := hrel.opd hy
  cases he : x'.ev fr with
  | val u1 =>
    cases he2 : y'.ev fr with
    | val u2 =>
      rw [he] at h h1
      rw [he2] at h h2
      simp only [D.asVal, Option.bind_eq_some_iff] at h
      obtain ⟨b, hu, hr⟩ := h
      exact hK.here _ _ hr (VD_val (UV_bool _ _)) (fun w' _ => by simp only [execOp, ho]; exact run_v (eqv_run neg cls t x y u1 u2 b _ _ w' ht h1 h2 hu))
    | _ => rw [he, he2] at h; cases h
  | ptr R p =>
    rw [he] at h h1
    simp only at h
    split at h
    · rename_i hn
      rw [hn] at h2
      have e1 := VD_nil h2
      obtain ⟨b1, off, e2, _⟩ := VD_ptr h1
      unfold eqTyOK at ht
      simp only at ht
      split at ht
      · rename_i hu
        refine hK.here _ _ h (VD_val (UV_bool _ _)) fun w' _ => ?_
        simp only [execOp, ho, e1, e2]
        refine run_v ((run_eql_nilp neg t _ x y _ hu).trans ?_)
        cases neg <;> rfl
      · cases ht
    · cases h
  | _ => rw [he] at h; cases h
end
end Go.Proofs.YticokpflinlgbaaGreat.Am
