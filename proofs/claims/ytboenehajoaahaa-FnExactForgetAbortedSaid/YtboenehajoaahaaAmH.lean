import Derived.Laws.StructEq
import Derived.Test.YtboenehajoaahaaAmG
namespace Go.Proofs.Ytboenehajoaahaa.Am
open Go Go.RowKit
def Given (Γ : Hp) (β : Nat → Lay) (Γ' : Hp) (β' : Nat → Lay) : Prop := ∀ R, 5000 ≤ R → (Γ' R).isSome = true → (Γ R).isSome = true ∧ (β' R).root = (β R).root ∧ ((β R).root = .vir → (β' R).hdr [] = (β R).hdr [])
structure After (ρ : Nat → FuncId) (S₀ base : Nat → Prop) (F : Fm) (fr : Frm) (Γ : Hp) (β : Nat → Lay) (a : Act) (w : World) (ms : List Tag) (d : D) (Γ' : Hp) (v : Value) (w' : World) : Prop where
  behind : Behind0 base w w'
  rel : ∃ β' B', Rel ρ S₀ base F (fr.retags ms) Γ' β' B' a w' ∧ VD ρ w' (Stands S₀ w' Γ' B') β' d v ∧ Given Γ β Γ' β'
structure Cont {α : Type} (P : Program) (ρ : Nat → FuncId) (S₀ base : Nat → Prop) (F : Fm) (fr : Frm) (Γ : Hp) (β : Nat → Lay) (B : Nat → List Nat) (a : Act) (w : World) (o : Oper) (K : Eff → Option α) (r : α) (G : Prop) : Prop where
  here : ∀ d v, K (.v d) = some r → VD ρ w (Stands S₀ w Γ B) β d v → (∀ w', Below w.heap.size w w' → (execOp a.eval o).run P w' = .ok (.value v) w') → G
  vnew : ∀ u v w', K (.vnew u) = some r → (execOp a.eval o).run P w = .ok (.value v) w' → Below w.heap.size w w' → VD ρ w' (Stands S₀ w' Γ B) β (.val u) v → G
  call : ∀ fl u f args, K (.cl fl u) = some r → (fl = true → u.flat = true) → (∀ w', Below w.heap.size w w' → (execOp a.eval o).run P w' = .ok (.enter f args) w') →
    (∀ w', Below w.heap.size w w' → Calls P f args w' fun e w'' => ∃ v, e = .returned v ∧ Below w'.heap.size w' w'' ∧ VD ρ w'' (fun b => Stands S₀ w Γ B b ∨ (w'.heap.size ≤ b ∧ b < w''.heap.size)) β (.val u) v) → G
  val : ∀ ms d Γ' v w', K (.st ms d Γ') = some r → (execOp a.eval o).run P w = .ok (.value v) w' → After ρ S₀ base F fr Γ β a w ms d Γ' v w' → G
  skp : ∀ ms Γ' w', K (.st ms .skip Γ') = some r → (execOp a.eval o).run P w = .ok .skip w' → After ρ S₀ base F fr Γ β a w ms .skip Γ' Go.undef w' → G
  ent : ∀ ms d Γ' f args, K (.st ms d Γ') = some r → (execOp a.eval o).run P w = .ok (.enter f args) w → (Calls P f args w fun e w' => ∃ v, e = .returned v ∧ w.drawn ≤ w'.drawn ∧ After ρ S₀ base F fr Γ β a w ms d Γ' v w') → G
section
variable {P : Program} {o : Oper} {a : Act} {w w' : World}
theorem run_v {s : Sem Value} {v : Value} (h : s.run P w = .ok v w') : (do pure (Next.value (← s)) : Sem Next).run P w = .ok (.value v) w' := by
  rw [Sem.run_bind, h]; rfl
theorem Qnx {b off : Nat} {c : List Value} (h : w.rangeAt b off c) (hb : Below w.heap.size w w') : w'.rangeAt b off c := fun j v hv => by
  have h1 := h j v hv
  rw [hb.cell ?_]
  · exact h1
  · refine Nat.lt_of_not_le fun hle => ?_
    simp [World.cell?, Array.getElem?_eq_none hle] at h1
end
section
variable {α : Type} {P : Program} {ρ : Nat → FuncId} {base : Nat → Prop} {F : Fm} {fr : Frm} {S₀ : Nat → Prop} {Γ : Hp} {β : Nat → Lay} {B : Nat → List Nat} {a : Act} {w w' : World} {E : Env}
  {K : Eff → Option α} {r : α} {G : Prop} {o : Oper}
theorem Qbc {S : Nat → Prop} {k : IntKind} {n : Int} {v : Value} (h : VD ρ w S β (.val (.int k n)) v) : v = .int k n := by
  obtain ⟨cs, h1, h2⟩ := h.uv (fun _ e => by cases e)
  cases h1 with | int k n h => cases h; simpa [D.isAgg] using h2.symm
theorem Qb4 {S : Nat → Prop} {b : Bool} {v : Value} (h : VD ρ w S β (.val (.bool b)) v) : v = .bool b := by
  obtain ⟨cs, h1, h2⟩ := h.uv (fun _ e => by cases e)
  cases h1 with | bool b h => cases h; simpa [D.isAgg] using h2.symm
theorem Qbe {S : Nat → Prop} {s : ByteArray} {v : Value} (h : VD ρ w S β (.val (.str s)) v) : v = .string s := by
  obtain ⟨cs, h1, h2⟩ := h.uv (fun _ e => by cases e)
  cases h1 with | str b h => cases h; simpa [D.isAgg] using h2.symm
theorem Qd6 {S : Nat → Prop} {v : Value} (h : VD ρ w S β (.val .nil) v) : v = .pointer none := by
  obtain ⟨cs, h1, h2⟩ := h.uv (fun _ e => by cases e)
  cases h1 with | nilp h => cases h; simpa [D.isAgg] using h2.symm
theorem Qar {S : Nat → Prop} {k : Nat} {v : Value} (h : VD ρ w S β (.val (.nsl k)) v) : v = .slice none 0 0 := by
  obtain ⟨cs, h1, h2⟩ := h.uv (fun _ e => by cases e)
  cases h1 with | nsl k h => cases h; simpa [D.isAgg] using h2.symm
theorem VD_vp {S : Nat → Prop} {u : U} {v : Value} (h : VD ρ w S β (.val (.vp u)) v) : ∃ b off c1, v = .pointer (some ⟨b, off, none⟩) ∧ S b ∧ w.rangeAt b off c1 ∧ URs ρ w S [u] c1 := by
  obtain ⟨cs, h1, h2⟩ := h.uv (fun _ e => by cases e)
  cases h1 with | vp b off hb hc h1 h => cases h; exact ⟨b, off, _, by simpa [D.isAgg] using h2.symm, hb, hc, h1⟩
theorem VD_sl {S : Nat → Prop} {k : Nat} {us : List U} {v : Value} (h : VD ρ w S β (.val (.sl k us)) v) :
    (us = [] ∧ ∃ a cap, v = .slice a 0 cap) ∨ ∃ b off cap c1, us ≠ [] ∧ v = .slice (some ⟨b, off, none⟩) us.length cap ∧ S b ∧ us.length ≤ cap ∧ cap ≤ maxLen ∧ (∀ u ∈ us, u.size = k) ∧ w.rangeAt b off c1 ∧ URs ρ w S us c1 := by
  obtain ⟨cs, h1, h2⟩ := h.uv (fun _ e => by cases e)
  cases h1 with
  | sl0 k a cap h => cases h; exact .inl ⟨rfl, a, cap, by simpa [D.isAgg] using h2.symm⟩
  | sl1 k b off cap hne hb hcap hmax hk hc h1 h => cases h; exact .inr ⟨b, off, cap, _, hne, by simpa [D.isAgg] using h2.symm, hb, hcap, hmax, hk, hc, h1⟩
theorem Qd5 {S : Nat → Prop} {us : List U} {v : Value} (h : VD ρ w S β (.val (.agg us)) v) : ∃ cs, v = .agg cs.toArray ∧ URs ρ w S us cs := by
  obtain ⟨cs, h1, h2⟩ := h.uv (fun _ e => by cases e)
  exact ⟨cs, by simpa [D.isAgg] using h2, h1.agg_inv⟩
theorem Qpv {S : Nat → Prop} {us : List U} {v : Value} (h : VD ρ w S β (.val (.tup us)) v) : ∃ vs : List Value, v = .tuple vs.toArray ∧ V1s ρ w S β (us.map .val) vs := h
theorem VD_fn {S : Nat → Prop} {q : Nat} {caps : List U} {v : Value} (h : VD ρ w S β (.val (.fn q caps)) v) : ∃ vs : List Value, v = .func (.func (ρ q)) #[] vs.toArray ∧ URs ρ w S caps vs ∧ ∀ u ∈ caps, u.isVp = true := by
  obtain ⟨cs, h1, h2⟩ := h.uv (fun _ e => by cases e)
  cases h1 with | fn q h1 hv h => cases h; exact ⟨_, by simpa [D.isAgg] using h2.symm, h1, hv⟩
theorem Qv (S : Nat → Prop) (k : IntKind) (n : Int) : UV ρ w S (.int k n) (.int k n) := ⟨[_], .int k n .nil, rfl⟩
theorem Qap (S : Nat → Prop) (b : Bool) : UV ρ w S (.bool b) (.bool b) := ⟨[_], .bool b .nil, rfl⟩
theorem Qh4 (S : Nat → Prop) (s : ByteArray) : UV ρ w S (.str s) (.string s) := ⟨[_], .str s .nil, rfl⟩
theorem Qas {S : Nat → Prop} {R : Nat} {p : List Step} {v : Value} (h : VD ρ w S β (.ptr R p) v) : ∃ b off, v = .pointer (some ⟨b, off, none⟩) ∧ (β R).go p = some (.adr b off) := by
  rcases h with h | ⟨cs, h1, h2⟩
  · cases h
  · cases h1 with | ptr R p b off hp h => cases h; exact ⟨b, off, by simpa [D.isAgg] using h2.symm, hp⟩
theorem Qbp {S : Nat → Prop} {R : Nat} {p : List Step} {b off : Nat} (h : (β R).go p = some (.adr b off)) : VD ρ w S β (.ptr R p) (.pointer (some ⟨b, off, none⟩)) :=
  .inr ⟨[_], .ptr R p b off h .nil, rfl⟩
theorem Qaz {S : Nat → Prop} {R k : Nat} {p : List Step} {part : Option (Nat × Nat)} {v : Value} (h : VD ρ w S β (.ref R p k part) v) : ∃ v0, (β R).hdr p = some v0 ∧ subSlice k part v0 v := by
  rcases h with h | ⟨cs, h1, h2⟩
  · cases h
  · cases h1 with
    | ref R p k part v1 v0 hv hs h =>
      cases h
      have : v = v1 := by simpa [D.isAgg] using h2.symm
      exact ⟨v0, hv, this ▸ hs⟩
theorem Qcr {S : Nat → Prop} {R k : Nat} {p : List Step} {part : Option (Nat × Nat)} {v v0 : Value} (hv : (β R).hdr p = some v0) (hs : subSlice k part v0 v) : VD ρ w S β (.ref R p k part) v :=
  .inr ⟨[_], .ref R p k part v v0 hv hs .nil, rfl⟩
theorem Qos {x : Operand} {x' : Opd} (hrel : Rel ρ S₀ base F fr Γ β B a w) (ho : o.op = .move x ∨ o.op = .assign x) (hx : opdOK ρ F.wd x x' = true)
    (h : (AOp.mv x').step E fr Γ K = some r) (hK : Cont P ρ S₀ base F fr Γ β B a w o K r G) : G := by
  refine hK.here _ _ h (hrel.opd hx) fun w' _ => ?_
  rcases ho with ho | ho <;> simp [execOp, ho]
theorem Qzm {c x y : Operand} {c' x' y' : Opd} (hrel : Rel ρ S₀ base F fr Γ β B a w) (ho : o.op = .pick c x y) (hc : opdOK ρ F.wd c c' = true) (hx : opdOK ρ F.wd x x' = true) (hy : opdOK ρ F.wd y y' = true)
    (h : (AOp.pick c' x' y').step E fr Γ K = some r) (hK : Cont P ρ S₀ base F fr Γ β B a w o K r G) : G := by
  simp only [AOp.step] at h
  have hv := hrel.opd hc
  cases he : c'.ev fr with
  | val u =>
    rw [he] at h hv
    cases u with
    | bool b =>
      have hb := Qb4 hv
      cases b with
      | true => exact hK.here _ _ h (hrel.opd hx) (fun w' _ => by simp [execOp, ho, hb, asBool])
      | false => exact hK.here _ _ h (hrel.opd hy) (fun w' _ => by simp [execOp, ho, hb, asBool])
    | _ => cases h
  | _ => rw [he] at h; cases h
theorem V1.cells' {S : Nat → Prop} {d : D} {v : Value} (h : V1 ρ w S β d v) (hne : d ≠ .undef) : ∃ cs, v.cells = cs.toArray ∧ DCs ρ w S β [d] cs := by
  rcases h with h | ⟨cs, h1, h2⟩
  · exact absurd h hne
  · refine ⟨cs, ?_, h1⟩
    split at h2
    · rw [h2]; rfl
    · subst h2
      have h3 := h1.oneCell v (by simp)
      cases v <;> simp_all [Value.cells, Value.oneCell']
theorem Qie (w : World) (cs : List Value) (e : TypeId) : (w.alloc (.cells cs.toArray e)).rangeAt w.heap.size 0 cs := fun j v hv => by
  have : (w.alloc (.cells cs.toArray e)).heap[w.heap.size]? = some (.cells cs.toArray e (0, 0)) := heap_alloc_new w _
  unfold World.cell?
  simp only [this]
  simpa using hv
theorem After.make {Γ1 : Hp} {B1 : Nat → List Nat} {Bx : List Nat} (h : Rel ρ S₀ base F fr Γ β B a w) (hp : Parts ρ w (Stands S₀ w Γ B) β Γ B Γ1 B1 Bx) {nm : Nat} (hnm : nm < 5000) (c : Cn) (L : Lay) (Bs : List Nat) {d : D} {v : Value}
    (h1 : w'.os = w.os) (h2 : w'.tape = w.tape) (h3 : w'.output = w.output) (hs : w.heap.size ≤ w'.heap.size) (hc : ∀ b, b < w.heap.size → b ∉ Bx → w'.heap[b]? = w.heap[b]?) (hB : ∀ b ∈ Bs, b ∈ Bx ∨ (w.heap.size ≤ b ∧ b < w'.heap.size))
    (hok : ∀ S' : Nat → Prop, (∀ b, Stands S₀ w Γ B b → S' b) → RootOK ρ w' S' (upd β nm L) (c.retag (.purge nm)) L Bs) (hd : ∀ S', VD ρ w' S' (upd β nm L) d v) :
    After ρ S₀ base F fr Γ β a w [.purge nm] d (upd (Hp.retag Γ1 (.purge nm)) nm (some (c.retag (.purge nm)))) v w' := by
  refine ⟨⟨h1, h2, h3, hs, fun k hk hn => hc k hk fun hm => hn (h.owned (hp.out k hm).1).1⟩, _, _,
    h.setP hp nm _ L Bs (fun b => b ∈ Bx) (TagOK.purge fun R' hR _ => Qa β L hR) hs hc (fun b hb => ⟨(hp.out b hb).1, fun R' _ hR' => (hp.out b hb).2 R' hR'⟩) (fun b hb => (hB b hb).imp (fun hb => ⟨(hp.out b hb).1, fun R' _ hR' => (hp.out b hb).2 R' hR'⟩) id) hok, hd _, fun R hR hs' => ?_⟩
  have hne : R ≠ nm := by omega
  rw [Qa _ _ hne] at hs' ⊢
  have : (Γ1 R).isSome = true := by simpa [Hp.retag] using hs'
  exact ⟨(hp.sub R this).1, rfl, fun _ => rfl⟩
theorem After.box {Γ1 : Hp} {B1 : Nat → List Nat} {Bx : List Nat} (h : Rel ρ S₀ base F fr Γ β B a w) (hp : Parts ρ w (Stands S₀ w Γ B) β Γ B Γ1 B1 Bx) {nm : Nat} (hnm : nm < 5000) {c : D} {hd : Hdr} {cs : List Value} (t : TCs ρ w (Stands S₀ w Γ B) β [(hd, c.ex)] cs Bx) (e : TypeId) :
    After ρ S₀ base F fr Γ β a w [.purge nm] (.ptr nm []) (upd (Hp.retag Γ1 (.purge nm)) nm (some ((Cn.box c).retag (.purge nm)))) (.pointer (some ⟨w.heap.size, 0, none⟩)) (w.alloc (.cells cs.toArray e)) := by
  have hb : Below w.heap.size w (w.alloc (.cells cs.toArray e)) := (Below.refl _ _).alloc (Nat.le_refl _) _
  have hlt : ∀ b ∈ Bx, b < w.heap.size := fun b hb => (h.owned (hp.out b hb).1).2
  refine After.make h hp hnm (.box c) ⟨.adr w.heap.size 0, hd⟩ (w.heap.size :: Bx) hb.os hb.tape hb.output hb.size (fun b hlt _ => hb.block b hlt) (fun b hb' => ?_) (fun S' hS' => ⟨List.nodup_cons.2 ⟨fun hm => Nat.lt_irrefl _ (hlt _ hm), hp.nodup⟩, w.heap.size, cs, e, Bx, rfl, heap_alloc_new w _, ?_, rfl⟩) fun S' => Qbp (by rw [Qd]; rfl)
  · rcases List.mem_cons.1 hb' with rfl | hb'
    · exact .inr ⟨Nat.le_refl _, by simp⟩
    · exact .inl hb'
  · have := t.retag (m := .purge nm) (w' := w.alloc (.cells cs.toArray e)) (S' := S') (β' := upd β nm ⟨.adr w.heap.size 0, hd⟩) hS' (fun b hb' => hb.block b hb'.lt) (fun b hb' => hb.block b (hlt b hb')) (TagOK.purge fun R' hR _ => Qa β _ hR)
    rw [Qav]
    exact this
theorem Qy {nm : Nat} {c : Cn} {d : D} (h : mkVar Γ nm c d K = some r) : nm < 5000 ∧ K (.st [.purge nm] d (upd (Γ.retag (.purge nm)) nm (some (c.retag (.purge nm))))) = some r := by
  unfold mkVar at h
  split at h
  · exact ⟨‹_›, h⟩
  · cases h
theorem Qoq {t : TypeId} {x : Operand} {fz : Bool} {nm : Nat} {x' : Opd} (hrel : Rel ρ S₀ base F fr Γ β B a w) (ho : o.op = .box t x) (hx : opdOK ρ F.wd x x' = true)
    (h : (AOp.box fz nm x').step E fr Γ K = some r) (hK : Cont P ρ S₀ base F fr Γ β B a w o K r G) : G := by
  simp only [AOp.step] at h
  have hv := hrel.opd hx
  have hrun : ∀ cs : List Value, (a.eval x).cells = cs.toArray → (execOp a.eval o).run P w = .ok (.value (.pointer (some ⟨w.heap.size, 0, none⟩))) (w.alloc (.cells cs.toArray t)) := fun cs hc => by
    simp [execOp, ho, Instr.box, newVar, newRow, hc]
  split at h
  · rename_i u he
    rw [he] at hv
    have hn : ∀ us, u ≠ .tup us := by
      rintro us rfl
      cases h
    have h' : (match fz with | true => K (.vnew (.vp u)) | false => mkVar Γ nm (.box (.val u)) (.ptr nm []) K) = some r := by
      unfold U.noTup at h
      split at h
      · cases h
      · cases fz <;> exact h
    obtain ⟨cs, hc, h1⟩ := (hv.uv hn).v1 (β := β) |>.cells' (fun e => by cases e)
    cases fz with
    | false =>
      obtain ⟨hnm, hr⟩ := Qy h'
      exact hK.val _ _ _ _ _ hr (hrun cs hc) (After.box hrel hrel.parts hnm (hd := noHdr) (TCs.of_val h1.val_inv) t)
    | true =>
      have hb : Below w.heap.size w (w.alloc (.cells cs.toArray t)) := (Below.refl _ _).alloc (Nat.le_refl _) _
      refine hK.vnew _ _ _ h' (hrun cs hc) hb (Ql ⟨[_], .vp w.heap.size 0 ?_ (Qie w cs t) (h1.val_inv.mono ?_ ?_) .nil, rfl⟩)
      · exact ⟨by simp, fun R hR hm => by have := (hrel.inside R hR _ hm).2; omega, hrel.fresh _ (hrel.low _ (Nat.le_refl _))⟩
      · exact fun b hb => ⟨by have := hb.1; simp; omega, hb.2, hb.3⟩
      · intro b o v hS hv
        exact (hb.cell (p := ⟨b, o, none⟩) hS.1).trans hv
  · rename_i d hnv
    cases fz with
    | true => cases h
    | false =>
      simp only [Qao] at h
      obtain ⟨⟨c, Γ1⟩, ht, h⟩ := Option.bind_eq_some_iff.1 h
      obtain ⟨hnm, hr⟩ := Qy h
      have hne : x'.ev fr ≠ .undef := fun e => by rw [e] at ht; cases ht
      have hv1 : V1 ρ w (Stands S₀ w Γ B) β (x'.ev fr) (a.eval x) := by
        cases hxe : x'.ev fr with
        | tup ds => rw [hxe] at ht; cases ht
        | skip => rw [hxe] at ht; cases ht
        | val u => exact absurd hxe (hnv u)
        | _ => rw [hxe] at hv; exact hv
      obtain ⟨cs, hc, h1⟩ := hv1.cells' hne
      obtain ⟨hd, B2, Bc, hp, t2, _⟩ := Parts.take _ ht h1 hrel.parts
      exact hK.val _ _ _ _ _ hr (hrun cs hc) (After.box hrel hp hnm (by simpa using t2) t)
theorem Qhj {α : Type} {r : α} : ∀ {n : Nat} {us : List U} {K : List U → Option α}, spellN n us K = some r → K us = some r
  | 0, [], _, h => h
  | 0, _ :: _, _, h => by cases h
  | _ + 1, [], _, h => by cases h
  | n + 1, u :: us, K, h => Qhj (n := n) (us := us) (K := fun us => K (u :: us)) h
theorem Qyq {t : TypeId} {x : Operand} {n nm : Nat} {x' : Opd} (hrel : Rel ρ S₀ base F fr Γ β B a w) (ho : o.op = .box t x) (hx : opdOK ρ F.wd x x' = true)
    (h : (AOp.boxN n nm x').step E fr Γ K = some r) (hK : Cont P ρ S₀ base F fr Γ β B a w o K r G) : G := by
  refine Qoq (E := E) (fz := false) (nm := nm) hrel ho hx ?_ hK
  simp only [AOp.step] at h ⊢
  split at h
  · rename_i u he
    cases u with
    | agg us => exact Qhj (K := fun us => mkVar Γ nm (.box (.val (.agg us))) (.ptr nm []) K) h
    | _ => cases h
  · cases h
theorem Qhb {S : Nat → Prop} : ∀ (d : D) (h : Hdr) (cs : List Value), sharable d = true → DCs ρ w S β [d] cs → TCs ρ w S β [(h, d.ex)] cs []
  | .val u, h, cs, _, t => TCs.of_val t.val_inv
  | .ref R p k part, h, cs, _, t => by cases t with | ref R p k part v v0 hv hs hd => cases hd; exact .ref hv hs .nil
  | .ptr R p, h, cs, _, t => by cases t with | ptr R p b o hp hd => cases hd; exact .ptr hp .nil
  | .fnv r caps, h, cs, _, t => by cases t with | fnv q h1 hv hd => cases hd; exact .fnv h1 hv .nil
  | .agg ds, h, cs, hs, t => by
    cases t with
    | agg h1 t => cases t; rw [List.append_nil]; exact TCs.of_agg (go ds h 0 0 _ hs h1)
  | .own u, _, _, hs, _ => by cases hs
  | .tup ds, _, _, hs, _ => by cases hs
  | .asl k us, _, _, hs, _ => by cases hs
  | .osl k us, _, _, hs, _ => by cases hs
  | .junk n, _, _, hs, _ => by cases hs
  | .skip, _, _, hs, _ => by cases hs
  | .undef, _, _, hs, _ => by cases hs
where go {S : Nat → Prop} : ∀ (ds : List D) (h : Hdr) (j off : Nat) (cs : List Value), sharable.sharables ds = true → DCs ρ w S β ds cs → TCs ρ w S β (flds h j off (D.ex.exs ds)) cs []
  | [], h, j, off, cs, _, t => by cases t; exact .nil
  | d :: ds, h, j, off, cs, hs, t => by
    simp only [sharable.sharables, Bool.and_eq_true] at hs
    obtain ⟨c1, c2, rfl, _, t1, t2⟩ := t.cons_inv
    exact (Qhb d (h.at (.fld j off)) c1 hs.1 t1).append (go ds h (j + 1) (off + d.ex.size) c2 hs.2 t2)
theorem Qyr {t : TypeId} {x : Operand} {nm : Nat} {x' : Opd} (hrel : Rel ρ S₀ base F fr Γ β B a w) (ho : o.op = .box t x) (hx : opdOK ρ F.wd x x' = true)
    (h : (AOp.boxS nm x').step E fr Γ K = some r) (hK : Cont P ρ S₀ base F fr Γ β B a w o K r G) : G := by
  simp only [AOp.step] at h
  have hv := hrel.opd hx
  split at h
  rotate_left
  · cases h
  rename_i hs
  obtain ⟨hnm, hr⟩ := Qy h
  have hs2 : sharable (x'.ev fr) = true := by
    revert hs
    cases x'.ev fr <;> intro hs <;> first | exact hs | cases hs
  have hv1 : V1 ρ w (Stands S₀ w Γ B) β (x'.ev fr) (a.eval x) := by
    cases hxe : x'.ev fr with
    | val u => rw [hxe] at hs; cases hs
    | tup ds => rw [hxe] at hs; cases hs
    | skip => rw [hxe] at hs; cases hs
    | _ => rw [hxe] at hv; exact hv
  obtain ⟨cs, hc, h1⟩ := hv1.cells' (fun e => by rw [e] at hs; cases hs)
  exact hK.val _ _ _ _ _ hr (by simp [execOp, ho, Instr.box, newVar, newRow, hc]) (After.box hrel hrel.parts hnm (hd := noHdr) (Qhb _ _ cs hs2 h1) t)
def tyZero (P : Program) (t : TypeId) : Option Value := (P.info? t).bind (·.zero)
theorem Qg9 {t : TypeId} {z : Value} (h : tyZero P t = some z) : (zeroValue t).run P w = .ok z w := by
  unfold tyZero at h
  cases hi : P.info? t with
  | none => simp [hi] at h
  | some i =>
    simp only [hi, Option.bind_some] at h
    simp [zeroValue, typeInfo, hi, h]
theorem UV.cells {S : Nat → Prop} {u : U} {v : Value} (h : UV ρ w S u v) : ∃ cs, v.cells = cs.toArray ∧ URs ρ w S [u] cs := by
  obtain ⟨cs, h1, h2⟩ := h
  refine ⟨cs, ?_, h1⟩
  split at h2
  · rw [h2]; rfl
  · subst h2
    have h3 := h1.oneCell v (by simp)
    cases v <;> simp_all [Value.cells, Value.oneCell']
theorem Qym {t : TypeId} {nm : Nat} {z : U} {zv : Value} (hrel : Rel ρ S₀ base F fr Γ β B a w) (ho : o.op = .alloc t) (hz : tyZero P t = some zv) (hc : constOK zv z = true)
    (h : (AOp.alloc nm z).step E fr Γ K = some r) (hK : Cont P ρ S₀ base F fr Γ β B a w o K r G) : G := by
  obtain ⟨cs, h1, h2⟩ := (Qcw (ρ := ρ) (w := w) (S := Stands S₀ w Γ B) hc).cells
  obtain ⟨hnm, hr⟩ := Qy h
  refine hK.val _ _ _ _ _ hr ?_ (After.box hrel hrel.parts hnm (c := .val z) (hd := noHdr) (TCs.of_val h2) t)
  simp [execOp, ho, Instr.alloc, Qg9 hz, newVar, newRow, h1]
theorem Qyn {t : TypeId} {nm : Nat} (hrel : Rel ρ S₀ base F fr Γ β B a w) (ho : o.op = .alloc t) (hz : tyZero P t = some .nilFunc)
    (h : (AOp.allocJ nm).step E fr Γ K = some r) (hK : Cont P ρ S₀ base F fr Γ β B a w o K r G) : G := by
  obtain ⟨hnm, hr⟩ := Qy h
  refine hK.val _ _ _ _ _ hr ?_ (After.box hrel hrel.parts hnm (c := .junk 1) (hd := noHdr) (cs := [.nilFunc]) (TCs.junk (c1 := [.nilFunc]) rfl (fun v hv => by simp at hv; subst hv; rfl) .nil) t)
  simp [execOp, ho, Instr.alloc, Qg9 hz, newVar, newRow, Value.cells]
theorem Qzv {op : UnOp} {t : TypeId} {x : Operand} {x' : Opd} (hrel : Rel ρ S₀ base F fr Γ β B a w) (ho : o.op = .unOp op t x) (hx : opdOK ρ F.wd x x' = true)
    (h : (AOp.un op x').step E fr Γ K = some r) (hK : Cont P ρ S₀ base F fr Γ β B a w o K r G) : G := by
  simp only [AOp.step] at h
  have hv := hrel.opd hx
  cases he : x'.ev fr with
  | val u =>
    rw [he] at h hv
    simp only [D.asVal, Option.bind_eq_some_iff] at h
    obtain ⟨u', hu, hr⟩ := h
    unfold U.un at hu
    split at hu
    · cases hu
      exact hK.here _ _ hr (Ql (Qap _ _)) (fun w' _ => by simp [execOp, ho, Qb4 hv, Op.unary])
    · cases hu
      exact hK.here _ _ hr (Ql (Qv _ _ _)) (fun w' _ => by simp [execOp, ho, Qbc hv, Op.unary, Op.intArith])
    · cases hu
  | _ => rw [he] at h; cases h
theorem Qy4 {s t : TypeId} {k : IntKind} {x : Operand} {x' : Opd} (hrel : Rel ρ S₀ base F fr Γ β B a w) (ho : o.op = .convert s t x) (hs : ∃ k', P.underlying s = some (.int k')) (ht : P.underlying t = some (.int k)) (hx : opdOK ρ F.wd x x' = true)
    (h : (AOp.conv k x').step E fr Γ K = some r) (hK : Cont P ρ S₀ base F fr Γ β B a w o K r G) : G := by
  obtain ⟨k', hs⟩ := hs
  simp only [AOp.step] at h
  have hv := hrel.opd hx
  cases he : x'.ev fr with
  | val u =>
    rw [he] at h hv
    simp only [D.asVal, Option.bind_eq_some_iff] at h
    obtain ⟨u', hu, hr⟩ := h
    unfold U.conv at hu
    split at hu
    · cases hu
      exact hK.here _ _ hr (Ql (Qv _ _ _)) (fun w' _ => by simp [execOp, ho, Qbc hv, convert, run_underlying hs, run_underlying ht, Conv.intToInt])
    · cases hu
  | _ => rw [he] at h; cases h
theorem Qi1 (op : BinOp) (t : TypeId) (x y : Operand) (k k' : IntKind) (m n : Int) : (eqGuard op t x y (.int k m) (.int k' n)).run P w = .ok () w := by
  unfold eqGuard
  split <;> rfl
theorem Qf5 (op : BinOp) (t : TypeId) (x y : Operand) (m n : ByteArray) : (eqGuard op t x y (.string m) (.string n)).run P w = .ok () w := by
  unfold eqGuard
  split <;> rfl
theorem Qp5 (op : BinOp) (t : TypeId) (x y : Operand) (u1 u2 u : U) (v1 v2 : Value) {S : Nat → Prop} (h1 : VD ρ w S β (.val u1) v1) (h2 : VD ρ w S β (.val u2) v2) (h : U.bin op u1 u2 = some u) :
    ∃ v, (∀ w2, (do eqGuard op t x y v1 v2; binOp op t v1 v2 : Sem Value).run P w2 = .ok v w2) ∧ UV ρ w S u v := by
  unfold U.bin at h
  split at h
  · obtain rfl := Qbc h1
    obtain rfl := Qbc h2
    split at h
    · cases h
    · rename_i h0
      cases h
      exact ⟨_, fun w2 => by simp only [Sem.run_bind, Qi1, Result.andThen_ok]; simp [binOp, Op.shift, h0], Qv _ _ _⟩
  · obtain rfl := Qbc h1
    obtain rfl := Qbc h2
    split at h
    · rename_i k m k' n hk
      subst hk
      simp only [Sem.run_bind, Qi1, Result.andThen_ok]
      split at h
      · cases h; exact ⟨_, fun w2 => by simp [binOp, Op.intArith], Qv _ _ _⟩
      · cases h; exact ⟨_, fun w2 => by simp [binOp, Op.intArith], Qv _ _ _⟩
      · cases h; exact ⟨_, fun w2 => by simp [binOp, Op.intArith], Qv _ _ _⟩
      · split at h
        · cases h
        · rename_i h0; cases h; exact ⟨_, fun w2 => by simp [binOp, Op.intDiv, h0], Qv _ _ _⟩
      · split at h
        · cases h
        · rename_i h0; cases h; exact ⟨_, fun w2 => by simp [binOp, Op.intDiv, h0], Qv _ _ _⟩
      · cases h; exact ⟨_, fun w2 => by simp [binOp, Op.intCmp], Qap _ _⟩
      · cases h; exact ⟨_, fun w2 => by simp [binOp, Op.intCmp], Qap _ _⟩
      · cases h; exact ⟨_, fun w2 => by simp [binOp, Op.intCmp], Qap _ _⟩
      · cases h; exact ⟨_, fun w2 => by simp [binOp, Op.intCmp], Qap _ _⟩
      · cases h; exact ⟨_, fun w2 => by simp [binOp, Op.intCmp], Qap _ _⟩
      · cases h; exact ⟨_, fun w2 => by simp [binOp, Op.intCmp], Qap _ _⟩
      · cases h; exact ⟨_, fun w2 => by simp [binOp, Op.intBits], Qv _ _ _⟩
      · cases h; exact ⟨_, fun w2 => by simp [binOp, Op.intBits], Qv _ _ _⟩
      · cases h
    · cases h
  · obtain rfl := Qbe h1
    obtain rfl := Qbe h2
    split at h
    · rename_i hs
      cases h
      refine ⟨_, fun w2 => ?_, Qh4 _ _⟩
      simp only [Sem.run_bind, Qf5, Result.andThen_ok]
      rename_i s1 s2
      have : ¬ (((s1.size + s2.size : Nat) : Int) > IntKind.i64.max) := by
        have : IntKind.i64.max = 9223372036854775807 := by decide
        omega
      simp [binOp, Op.stringOp]
      omega
    · cases h
  · obtain rfl := Qbe h1
    obtain rfl := Qbe h2
    cases h
    refine ⟨_, fun w2 => ?_, Qap _ _⟩
    simp only [Sem.run_bind, Qf5, Result.andThen_ok]
    simp [binOp, Op.stringOp]
  · obtain rfl := Qbe h1
    obtain rfl := Qbe h2
    cases h
    refine ⟨_, fun w2 => ?_, Qap _ _⟩
    simp only [Sem.run_bind, Qf5, Result.andThen_ok]
    simp [binOp, Op.stringOp]
  · cases h
theorem Qyp {op : BinOp} {t t' : TypeId} {x y : Operand} {x' y' : Opd} (hrel : Rel ρ S₀ base F fr Γ β B a w) (ho : o.op = .binOp op t x y t') (hx : opdOK ρ F.wd x x' = true) (hy : opdOK ρ F.wd y y' = true)
    (h : (AOp.bin op x' y').step E fr Γ K = some r) (hK : Cont P ρ S₀ base F fr Γ β B a w o K r G) : G := by
  simp only [AOp.step] at h
  have h1 := hrel.opd hx
  have h2 := hrel.opd hy
  cases he : x'.ev fr with
  | val u1 =>
    cases he2 : y'.ev fr with
    | val u2 =>
      rw [he] at h h1
      rw [he2] at h h2
      simp only [D.asVal, Option.bind_eq_some_iff] at h
      obtain ⟨u, hu, hr⟩ := h
      obtain ⟨v, hv, huv⟩ := Qp5 (P := P) op t x y u1 u2 u _ _ h1 h2 hu
      exact hK.here _ _ hr (Ql huv) (fun w' _ => by simp only [execOp, ho]; exact run_v (hv w'))
    | _ => rw [he, he2] at h; cases h
  | _ => rw [he] at h; cases h
def flatInts (P : Program) : Nat → List Field → Bool
  | _, [] => true
  | i, f :: fs => f.offset == i && !(f.name == "_") && (match P.underlying f.type with | some (.int .i64) => true | _ => false) && flatInts P (i + 1) fs
def eqTyOK (P : Program) (t : TypeId) : Nat → Bool
  | 0 => match P.underlying t with | some .bool => true | _ => false
  | 1 => match P.underlying t with | some (.pointer _) => true | _ => false
  | n + 2 => (match P.underlying t with | some (.struct fs) => flatInts P 0 fs.toList && fs.size == n | _ => false) && !P.stoodInHeld t && !P.eqGuardType P.depth t
theorem Qnm {t : TypeId} {cs : Array Value} {i : Nat} {v : Value} (ht : P.underlying t = some (.int .i64)) (hv : cs[i]? = some v) : (part t cs i).run P w = .ok v w := by
  unfold part isAgg
  simp [run_underlying ht, hv]
theorem Qi2 {S : Nat → Prop} {d : Nat} {w2 : World} : ∀ (us vs : List U) (fs : List Field) (i : Nat) (cs ds : List Value) (pre1 pre2 : List Value) (b : Bool), eqInts us vs = some b → flatInts P i fs = true → pre1.length = i → pre2.length = i → fs.length = us.length →
    URs ρ w S us cs → URs ρ w S vs ds → (Op.eqFields (d + 1) (pre1 ++ cs).toArray (pre2 ++ ds).toArray fs).run P w2 = .ok b w2
  | [], [], fs, i, cs, ds, pre1, pre2, b, hb, hf, h1, h2, hl, hc, hd => by
    simp only [eqInts, Option.some.injEq] at hb
    obtain rfl : fs = [] := List.eq_nil_of_length_eq_zero (by simpa using hl)
    simp [Op.eqFields, hb]
  | [], v :: vs, fs, i, cs, ds, pre1, pre2, b, hb, hf, h1, h2, hl, hc, hd => by simp [eqInts] at hb
  | u :: us, [], fs, i, cs, ds, pre1, pre2, b, hb, hf, h1, h2, hl, hc, hd => by cases u <;> simp [eqInts] at hb
  | u :: us, v :: vs, fs, i, cs, ds, pre1, pre2, b, hb, hf, h1, h2, hl, hc, hd => by
    obtain ⟨m, n, rfl, rfl⟩ : ∃ m n, u = .int .i64 m ∧ v = .int .i64 n := by
      unfold eqInts at hb
      split at hb
      · simp_all
      · rename_i e1 e2; cases e1; cases e2; exact ⟨_, _, rfl, rfl⟩
      · cases hb
    cases fs with
    | nil => simp at hl
    | cons f fs =>
      simp only [eqInts, Option.map_eq_some_iff] at hb
      obtain ⟨b', hb', rfl⟩ := hb
      simp only [flatInts, Bool.and_eq_true, beq_iff_eq, Bool.not_eq_true'] at hf
      obtain ⟨⟨⟨hoff, hname⟩, hty⟩, hrest⟩ := hf
      have hu : P.underlying f.type = some (.int .i64) := by
        split at hty
        · assumption
        · cases hty
      cases hc with
      | int _ _ hc =>
        cases hd with
        | int _ _ hd =>
          rename_i cs ds
          have ih := Qi2 (d := d) (w2 := w2) us vs fs (i + 1) cs ds (pre1 ++ [.int .i64 m]) (pre2 ++ [.int .i64 n]) b' hb' hrest (by simp [h1]) (by simp [h2]) (by simpa using hl) hc hd
          have hn : f.name ≠ "_" := by
            intro e; rw [e] at hname; simp at hname
          have p1 : (part f.type (pre1 ++ .int .i64 m :: cs).toArray f.offset).run P w2 = .ok (.int .i64 m) w2 := Qnm hu (by simp [hoff, ← h1])
          have p2 : (part f.type (pre2 ++ .int .i64 n :: ds).toArray f.offset).run P w2 = .ok (.int .i64 n) w2 := Qnm hu (by simp [hoff, ← h2])
          have e1 : (pre1 ++ [Value.int .i64 m] ++ cs) = pre1 ++ .int .i64 m :: cs := by simp
          have e2 : (pre2 ++ [Value.int .i64 n] ++ ds) = pre2 ++ .int .i64 n :: ds := by simp
          rw [e1, e2] at ih
          simp only [Op.eqFields, if_pos hn, Sem.run_bind, p1, p2, Result.andThen_ok, run_equalIn_int w2 d f.type .i64 .i64 m n hu]
          cases hmn : (m == n)
          · simp
          · simpa using ih
theorem Qf4 (op : BinOp) (t : TypeId) (x y : Operand) (v1 v2 : Value) (h1 : ∀ cs, v1 ≠ .agg cs) (h2 : v1 ≠ .nilIface) : (eqGuard op t x y v1 v2).run P w = .ok () w := by
  unfold eqGuard
  cases v1 <;> first
    | exact absurd rfl h2
    | exact absurd rfl (h1 _)
    | (cases op <;> rfl)
theorem Qf6 {t : TypeId} {x y : Value} {b : Bool} (h : ∀ d, (Op.equalIn (d + 1) t x y).run P w = .ok b w) : (Op.equal t x y).run P w = .ok b w := h 9999
theorem Qqp (d : Nat) (t e : TypeId) (p : Option Addr) (hu : P.underlying t = some (.pointer e)) : (Op.equalIn (d + 1) t (.pointer p) (.pointer none)).run P w = .ok p.isNone w := by
  cases p <;> simp [Op.equalIn, run_underlying hu]
theorem Qg5 (neg : Bool) (t e : TypeId) (x y : Operand) (p : Option Addr) (hu : P.underlying t = some (.pointer e)) :
    (do eqGuard (if neg then .neq else .eql) t x y (.pointer p) (.pointer none); binOp (if neg then .neq else .eql) t (.pointer p) (.pointer none) : Sem Value).run P w = .ok (.bool (if neg then !p.isNone else p.isNone)) w := by
  have he := Qf6 (P := P) (w := w) fun d => Qqp d t e p hu
  rw [Sem.run_bind, Qf4 _ _ _ _ _ _ (fun _ e => by cases e) (fun e => by cases e)]
  cases neg
  · show (do pure (Value.bool (← Op.equal t (.pointer p) (.pointer none))) : Sem Value).run P w = _
    rw [Sem.run_bind, he]; rfl
  · show (do pure (Value.bool (!(← Op.equal t (.pointer p) (.pointer none)))) : Sem Value).run P w = _
    rw [Sem.run_bind, he]; rfl
theorem Qx7 (neg : Bool) (t : TypeId) (x y : Operand) (a b : Bool) (hu : P.underlying t = some .bool) :
    (do eqGuard (if neg then .neq else .eql) t x y (.bool a) (.bool b); binOp (if neg then .neq else .eql) t (.bool a) (.bool b) : Sem Value).run P w = .ok (.bool (if neg then !(a == b) else (a == b))) w := by
  have he := Qf6 (P := P) (w := w) fun d => run_equalIn_bool w d t a b hu
  rw [Sem.run_bind, Qf4 _ _ _ _ _ _ (fun _ e => by cases e) (fun e => by cases e)]
  cases neg
  · show (do pure (Value.bool (← Op.equal t (.bool a) (.bool b))) : Sem Value).run P w = _
    rw [Sem.run_bind, he]; rfl
  · show (do pure (Value.bool (!(← Op.equal t (.bool a) (.bool b)))) : Sem Value).run P w = _
    rw [Sem.run_bind, he]; rfl
theorem Qqr (neg : Bool) (cls : Nat) (t : TypeId) (x y : Operand) (u1 u2 : U) (b : Bool) (v1 v2 : Value) (w2 : World) {S : Nat → Prop} (ht : eqTyOK P t cls = true) (h1 : VD ρ w S β (.val u1) v1) (h2 : VD ρ w S β (.val u2) v2)
    (h : U.eqv cls u1 u2 = some b) : (do eqGuard (if neg then .neq else .eql) t x y v1 v2; binOp (if neg then .neq else .eql) t v1 v2 : Sem Value).run P w2 = .ok (.bool (if neg then !b else b)) w2 := by
  unfold U.eqv at h
  split at h
  · obtain rfl := Qb4 h1
    obtain rfl := Qb4 h2
    cases h
    have hu : P.underlying t = some .bool := by
      unfold eqTyOK at ht
      simp only at ht
      split at ht
      · assumption
      · cases ht
    exact Qx7 neg t x y _ _ hu
  · obtain rfl := Qd6 h1
    obtain rfl := Qd6 h2
    cases h
    unfold eqTyOK at ht
    simp only at ht
    split at ht
    · rename_i hu
      exact Qg5 neg t _ x y _ hu
    · cases ht
  · obtain ⟨b1, off, c1, rfl, _⟩ := VD_vp h1
    obtain rfl := Qd6 h2
    cases h
    unfold eqTyOK at ht
    simp only at ht
    split at ht
    · rename_i hu
      exact Qg5 neg t _ x y _ hu
    · cases ht
  · rename_i n us vs
    split at h
    · rename_i hlen
      obtain ⟨cs, rfl, hc⟩ := Qd5 h1
      obtain ⟨ds, rfl, hd⟩ := Qd5 h2
      unfold eqTyOK at ht
      simp only [Bool.and_eq_true, Bool.not_eq_true'] at ht
      obtain ⟨⟨hf, hp⟩, hg⟩ := ht
      split at hf
      · rename_i fs hu
        simp only [Bool.and_eq_true, beq_iff_eq] at hf
        have hfo : P.fieldsOf t = fs := by simp [Program.fieldsOf, hu]
        have key := Qi2 (P := P) (d := 9998) (w2 := w2) us vs fs.toList 0 cs ds [] [] b h hf.1 rfl rfl (by simp [hf.2, hlen]) hc hd
        have he : (Op.equalIn 10000 t (.agg cs.toArray) (.agg ds.toArray)).run P w2 = .ok b w2 := by
          rw [run_equalIn_struct w2 9999 t _ _ (by rw [hfo]; exact hu) hp, hfo]
          simpa using key
        rw [Sem.run_bind, run_eqGuard_agg w2 _ _ _ _ _ _ hg]
        cases neg
        · simp only [Bool.false_eq_true, if_false, Result.andThen_ok, run_eql_struct, he]
        · simp only [if_true, Result.andThen_ok, run_neq_struct, he]
      · cases hf
    · cases h
  · cases h
theorem Qy7 {neg : Bool} {cls : Nat} {t t' : TypeId} {x y : Operand} {x' y' : Opd} (hrel : Rel ρ S₀ base F fr Γ β B a w) (ho : o.op = .binOp (if neg then .neq else .eql) t x y t') (ht : eqTyOK P t cls = true)
    (hx : opdOK ρ F.wd x x' = true) (hy : opdOK ρ F.wd y y' = true)
    (h : (AOp.eqv neg cls x' y').step E fr Γ K = some r) (hK : Cont P ρ S₀ base F fr Γ β B a w o K r G) : G := by
  simp only [AOp.step] at h
  have h1 := hrel.opd hx
  have h2 := hrel.opd hy
  cases he : x'.ev fr with
  | val u1 =>
    cases he2 : y'.ev fr with
    | val u2 =>
      rw [he] at h h1
      rw [he2] at h h2
      simp only [D.asVal, Option.bind_eq_some_iff] at h
      obtain ⟨b, hu, hr⟩ := h
      exact hK.here _ _ hr (Ql (Qap _ _)) (fun w' _ => by simp only [execOp, ho]; exact run_v (Qqr neg cls t x y u1 u2 b _ _ w' ht h1 h2 hu))
    | _ => rw [he, he2] at h; cases h
  | ptr R p =>
    rw [he] at h h1
    simp only at h
    split at h
    · rename_i hn
      rw [hn] at h2
      have e1 := Qd6 h2
      obtain ⟨b1, off, e2, _⟩ := Qas h1
      unfold eqTyOK at ht
      simp only at ht
      split at ht
      · rename_i hu
        refine hK.here _ _ h (Ql (Qap _ _)) fun w' _ => ?_
        simp only [execOp, ho, e1, e2]
        refine run_v ((Qg5 neg t _ x y _ hu).trans ?_)
        cases neg <;> rfl
      · cases ht
    · cases h
  | _ => rw [he] at h; cases h
end
end Go.Proofs.Ytboenehajoaahaa.Am
