import Derived.Test.YtboenehajoaahaaAmDb
import Derived.Test.YtboenehajoaahaaAmF
namespace Go.Proofs.Ytboenehajoaahaa.Am
open Go
theorem Others.mk {ρ : Nat → FuncId} {w w2 : World} {S S2 : Nat → Prop} {β β2 : Nat → Lay} {m : Tag} {Ok : Nat → Prop} (hS : ∀ b, S b → S2 b) (hc : Keeps S w w2) (hm : TagOK m β β2) (hB : ∀ b, Ok b → w2.heap[b]? = w.heap[b]?) : Others ρ w w2 S S2 β β2 m Ok :=
  fun _ _ _ t hC => t.retag hS hc (fun b hb => hB b (hC b hb)) hm
theorem Qnq {cur : Array Value} {off : Nat} {c : List Value} (h : ∀ (j : Nat) v, c[j]? = some v → cur[off + j]? = some v) (hl : off + c.length ≤ cur.size) : patch cur off c = cur := by
  apply Array.ext'
  unfold patch
  simp only
  have e : c = (cur.toList.drop off).take c.length := by
    apply List.ext_getElem?
    intro j
    by_cases hj : j < c.length
    · rw [List.getElem?_take_of_lt hj, List.getElem?_drop]
      have := h j c[j] (List.getElem?_eq_getElem hj)
      rw [List.getElem?_eq_getElem hj]
      simpa using this.symm
    · rw [List.getElem?_eq_none (by omega), List.getElem?_take_eq_none (by omega)]
  have e2 : cur.toList.take off ++ (cur.toList.drop off).take c.length ++ cur.toList.drop (off + c.length) = cur.toList := by
    rw [← List.drop_drop, List.append_assoc, List.take_append_drop, List.take_append_drop]
  rw [← e] at e2
  exact e2
def Cn.dat : Cn → Option D
  | .box d => some d
  | .vir d => some d
  | .held _ => none
structure Part (ρ : Nat → FuncId) (w : World) (S : Nat → Prop) (β : Nat → Lay) (c : Cn) (L : Lay) (B : List Nat) (p : List Step) (d' : D) (cs : List Value) (Bo Bc : List Nat) (mk : List Nat → List Nat) : Prop where
  mkmem : ∀ Bx b, b ∈ mk Bx ↔ b ∈ Bo ∨ b ∈ Bx
  mem : ∀ b, b ∈ B ↔ b ∈ Bo ∨ b ∈ Bc
  nodup : (Bo ++ Bc).Nodup
  cells : TCs ρ w S β [(L.h.sub p, d'.ex)] cs Bc
  len : cs.length = d'.size
  spot : (∃ b off cur e, L.go p = some (.adr b off) ∧ b ∈ Bo ∧ w.heap[b]? = some (.cells cur e (0, 0)) ∧ (∀ (j : Nat) v, cs[j]? = some v → cur[off + j]? = some v) ∧ off + cs.length ≤ cur.size ∧
      ∀ (w2 : World) (S2 : Nat → Prop) (β2 : Nat → Lay) (m : Tag) n x d d2 hx cx Bx, (∀ b, S b → S2 b) → Keeps S w w2 → TagOK m β β2 → (∀ b' ∈ Bo, b' ≠ b → w2.heap[b']? = w.heap[b']?) → w2.heap[b]? = some (.cells (patch cur off cx) e (0, 0)) → cx.length = cs.length →
        c.dat = some d → setD n x d p = some d2 → x.size = n → (∀ x', LeafOf x x' → TCs ρ w2 S2 β2 [(hx, x'.retag m)] cx Bx) → (Bo ++ Bx).Nodup →
        RootOK ρ w2 S2 β2 ((c.with d2).retag m) ⟨L.root, L.h.put p hx⟩ (mk Bx)) ∨
    (L.go p = some .vir ∧
      ∀ (w2 : World) (S2 : Nat → Prop) (β2 : Nat → Lay) (m : Tag) n x d d2 hx cx Bx, (∀ b, S b → S2 b) → Keeps S w w2 → TagOK m β β2 → (∀ b' ∈ Bo, w2.heap[b']? = w.heap[b']?) →
        c.dat = some d → setD n x d p = some d2 → x.size = n → (∀ x', LeafOf x x' → TCs ρ w2 S2 β2 [(hx, x'.retag m)] cx Bx) → (Bo ++ Bx).Nodup →
        RootOK ρ w2 S2 β2 ((c.with d2).retag m) ⟨L.root, L.h.put p hx⟩ (mk Bx))
section
variable {ρ : Nat → FuncId} {w w' : World} {S S' : Nat → Prop} {β β' : Nat → Lay}
theorem Qeu {L Bc Q Bx : List Nat} (h : ((L ++ Q) ++ Bx).Nodup) : (L ++ Bx ++ Q).Nodup := by
  have : (L ++ Bx ++ Q).Perm (L ++ Q ++ Bx) := by
    rw [List.append_assoc, List.append_assoc]
    exact List.Perm.append_left L List.perm_append_comm
  exact this.nodup_iff.2 h
theorem RootOK.part {c : Cn} {L : Lay} {B : List Nat} {p : List Step} {d d' : D} (h : RootOK ρ w S β c L B) (hd : c.dat = some d) (hg : getD d p = some d') : ∃ cs Bo Bc mk, Part ρ w S β c L B p d' cs Bo Bc mk := by
  obtain ⟨hn, h⟩ := h
  have hgx := Qv6 hg
  cases c with
  | held t => cases hd
  | box d0 =>
    cases hd
    obtain ⟨b, cs0, e, Bs, h1, h2, h3, rfl⟩ := h
    have hn1 := (List.nodup_cons.1 hn)
    obtain ⟨c', L', Bc, Q, rfl, tp, hlc, hcase⟩ := h3.loc hn1.2 hgx
    rw [Qz] at hlc
    have hnb : (b :: (L' ++ Q) ++ Bc).Nodup := by
      rw [List.cons_append]
      refine List.nodup_cons.2 ⟨fun hm => hn1.1 (by simp only [List.mem_append] at hm ⊢; grind), ?_⟩
      have : (L' ++ Q ++ Bc).Perm (L' ++ Bc ++ Q) := by
        rw [List.append_assoc, List.append_assoc]
        exact List.Perm.append_left L' List.perm_append_comm
      exact this.nodup_iff.2 hn1.2
    refine ⟨c', b :: (L' ++ Q), Bc, fun Bx => b :: (L' ++ Bx ++ Q), ⟨fun Bx b' => by simp only [List.mem_cons, List.mem_append]; grind, fun b' => by simp only [List.mem_cons, List.mem_append]; grind, hnb, tp, hlc, .inl ?_⟩⟩
    rcases hcase with ⟨pre, post, rfl, g1, g2, g3⟩ | ⟨b2, o2, cur, e2, hbL, hb2, g1, g2, g3, g4⟩
    · refine ⟨b, pre.length, _, e, ?_, by simp, h2, fun j v hv => ?_, by simp <;> omega, fun w2 S2 β2 m n x d d2 hx cx Bx hS hc hm hB hw2 hlx hd hset hxs hcx hnx => ?_⟩
      · unfold Lay.go
        rw [h1, g1, Nat.zero_add]
      · have hj : j < c'.length := (List.getElem?_eq_some_iff.1 hv).1
        simp only [List.getElem?_toArray, List.append_assoc]
        rw [List.getElem?_append_right (by omega), Nat.add_sub_cancel_left, List.getElem?_append_left hj]
        exact hv
      · cases hd
        obtain ⟨x', hlf, d3, hd3, himp⟩ := Qe6 hset hxs
        have ho : Others ρ w w2 S S2 β β2 m (fun b' => b' ∈ L' ++ Q) := Others.mk hS hc hm fun b' hb' => hB b' (by simp only [List.mem_cons]; exact .inr hb') (fun e => hn1.1 (by subst e; simp only [List.mem_append] at hb' ⊢; grind))
        have t := g3 w2 S2 β2 m hx x' cx Bx d3 ho hd3 (hcx x' hlf)
        have hnx2 : (L' ++ Bx ++ Q).Nodup := Qeu (Bc := []) (by
          rw [List.cons_append] at hnx
          exact (List.nodup_cons.1 hnx).2)
        refine ⟨List.nodup_cons.2 ⟨fun hm => ?_, hnx2⟩, b, pre ++ cx ++ post, e, L' ++ Bx ++ Q, h1, ?_, ?_, rfl⟩
        · rw [List.cons_append] at hnx
          exact (List.nodup_cons.1 hnx).1 (by simp only [List.mem_append] at hm ⊢; grind)
        · rw [hw2, Qnp hlx.symm]
        · rw [Qav]
          exact himp.2 m _ _ _ _ _ _ _ t
    · refine ⟨b2, o2, cur, e2, ?_, by simp [hbL], hb2, g2, g3, fun w2 S2 β2 m n x d d2 hx cx Bx hS hc hm hB hw2 hlx hd hset hxs hcx hnx => ?_⟩
      · unfold Lay.go
        rw [h1]
        exact g1 _ (fun e => by cases e)
      · cases hd
        have hbne : b ≠ b2 := fun e => hn1.1 (by rw [e]; simp [hbL])
        obtain ⟨x', hlf, d3, hd3, himp⟩ := Qe6 hset hxs
        have ho : Others ρ w w2 S S2 β β2 m (fun b' => b' ∈ L' ++ Q ∧ b' ≠ b2) := Others.mk hS hc hm fun b' hb' => hB b' (by simp only [List.mem_cons]; exact .inr hb'.1) hb'.2
        have t := g4 w2 S2 β2 m hx x' cx Bx d3 ho (fun b' hb' hne => hB b' (by simp only [List.mem_cons]; exact .inr hb') hne) hw2 hlx hd3 (hcx x' hlf)
        have hnx2 : (L' ++ Bx ++ Q).Nodup := Qeu (Bc := []) (by
          rw [List.cons_append] at hnx
          exact (List.nodup_cons.1 hnx).2)
        refine ⟨List.nodup_cons.2 ⟨fun hm => ?_, hnx2⟩, b, cs0, e, L' ++ Bx ++ Q, h1, (hB b (by simp) hbne).trans h2, ?_, rfl⟩
        · rw [List.cons_append] at hnx
          exact (List.nodup_cons.1 hnx).1 (by simp only [List.mem_append] at hm ⊢; grind)
        · rw [Qav]
          exact himp.2 m _ _ _ _ _ _ _ t
  | vir d0 =>
    cases hd
    obtain ⟨cs0, h1, h3⟩ := h
    obtain ⟨c', L', Bc, Q, rfl, tp, hlc, hcase⟩ := h3.loc hn hgx
    rw [Qz] at hlc
    have hnb : ((L' ++ Q) ++ Bc).Nodup := by
      have : (L' ++ Q ++ Bc).Perm (L' ++ Bc ++ Q) := by
        rw [List.append_assoc, List.append_assoc]
        exact List.Perm.append_left L' List.perm_append_comm
      exact this.nodup_iff.2 hn
    refine ⟨c', L' ++ Q, Bc, fun Bx => L' ++ Bx ++ Q, ⟨fun Bx b' => by simp only [List.mem_append]; grind, fun b' => by simp only [List.mem_append]; grind, hnb, tp, hlc, ?_⟩⟩
    rcases hcase with ⟨pre, post, rfl, g1, g2, g3⟩ | ⟨b2, o2, cur, e2, hbL, hb2, g1, g2, g3, g4⟩
    · refine .inr ⟨?_, fun w2 S2 β2 m n x d d2 hx cx Bx hS hc hm hB hd hset hxs hcx hnx => ?_⟩
      · unfold Lay.go
        rw [h1, g2]
      · cases hd
        obtain ⟨x', hlf, d3, hd3, himp⟩ := Qe6 hset hxs
        have ho : Others ρ w w2 S S2 β β2 m (fun b' => b' ∈ L' ++ Q) := Others.mk hS hc hm fun b' hb' => hB b' hb'
        have t := g3 w2 S2 β2 m hx x' cx Bx d3 ho hd3 (hcx x' hlf)
        refine ⟨Qeu (Bc := []) hnx, pre ++ cx ++ post, h1, ?_⟩
        rw [Qav]
        exact himp.2 m _ _ _ _ _ _ _ t
    · refine .inl ⟨b2, o2, cur, e2, ?_, by simp [hbL], hb2, g2, g3, fun w2 S2 β2 m n x d d2 hx cx Bx hS hc hm hB hw2 hlx hd hset hxs hcx hnx => ?_⟩
      · unfold Lay.go
        rw [h1]
        exact g1 _ (fun e => by cases e)
      · cases hd
        obtain ⟨x', hlf, d3, hd3, himp⟩ := Qe6 hset hxs
        have ho : Others ρ w w2 S S2 β β2 m (fun b' => b' ∈ L' ++ Q ∧ b' ≠ b2) := Others.mk hS hc hm fun b' hb' => hB b' hb'.1 hb'.2
        have t := g4 w2 S2 β2 m hx x' cx Bx d3 ho (fun b' hb' hne => hB b' hb' hne) hw2 hlx hd3 (hcx x' hlf)
        refine ⟨Qeu (Bc := []) hnx, cs0, h1, ?_⟩
        rw [Qav]
        exact himp.2 m _ _ _ _ _ _ _ t
end
end Go.Proofs.Ytboenehajoaahaa.Am
