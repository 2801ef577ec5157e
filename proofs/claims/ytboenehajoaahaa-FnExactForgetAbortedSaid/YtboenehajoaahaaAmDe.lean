import Derived.Below
import Derived.Test.YtboenehajoaahaaAmDd
namespace Go.Proofs.Ytboenehajoaahaa.Am
open Go Go.RowKit
structure Behind0 (A : Nat → Prop) (w w' : World) : Prop where
  os : w'.os = w.os
  tape : w'.tape = w.tape
  output : w'.output = w.output
  size : w.heap.size ≤ w'.heap.size
  block : ∀ k, k < w.heap.size → ¬ A k → w'.heap[k]? = w.heap[k]?
theorem Behind0.refl (A : Nat → Prop) (w : World) : Behind0 A w w := ⟨rfl, rfl, rfl, Nat.le_refl _, fun _ _ _ => rfl⟩
theorem Behind0.trans {A : Nat → Prop} {a b c : World} (h : Behind0 A a b) (k : Behind0 A b c) : Behind0 A a c :=
  ⟨k.os.trans h.os, k.tape.trans h.tape, k.output.trans h.output, Nat.le_trans h.size k.size, fun i hi hA => (k.block i (Nat.lt_of_lt_of_le hi h.size) hA).trans (h.block i hi hA)⟩
theorem Behind0.mono {A A' : Nat → Prop} {w w' : World} (h : Behind0 A w w') (hA : ∀ b, A b → A' b) : Behind0 A' w w' := ⟨h.os, h.tape, h.output, h.size, fun k hk hn => h.block k hk fun ha => hn (hA k ha)⟩
structure Below (B : Nat) (w w' : World) : Prop extends Go.RowKit.Below B w w' where
  drawn : w.drawn ≤ w'.drawn
theorem Below.refl (B : Nat) (w : World) : Below B w w := ⟨Go.RowKit.Below.refl B w, Nat.le_refl _⟩
theorem Below.drew {B : Nat} {a w : World} (h : Below B a w) : Below B a w.drew := ⟨h.toBelow.drew, Nat.le_succ_of_le h.drawn⟩
theorem Below.alloc {B : Nat} {a w : World} (h : Below B a w) (hB : B ≤ w.heap.size) (o : Obj) : Below B a (w.alloc o) := ⟨h.toBelow.alloc hB o, h.drawn⟩
structure Behind (A : Nat → Prop) (w w' : World) : Prop extends Behind0 A w w' where
  drawn : w.drawn ≤ w'.drawn
theorem Behind.refl (A : Nat → Prop) (w : World) : Behind A w w := ⟨Behind0.refl A w, Nat.le_refl _⟩
theorem Behind.trans {A : Nat → Prop} {a b c : World} (h : Behind A a b) (k : Behind A b c) : Behind A a c := ⟨h.toBehind0.trans k.toBehind0, Nat.le_trans h.drawn k.drawn⟩
theorem Behind.mono {A A' : Nat → Prop} {w w' : World} (h : Behind A w w') (hA : ∀ b, A b → A' b) : Behind A' w w' := ⟨h.toBehind0.mono hA, h.drawn⟩
theorem Behind.of_below {A : Nat → Prop} {w w' : World} (h : Below w.heap.size w w') : Behind A w w' := ⟨⟨h.os, h.tape, h.output, h.size, fun k hk _ => h.block k hk⟩, h.drawn⟩
theorem Behind.below {w w' : World} (h : Behind (fun b => w.heap.size ≤ b) w w') : Below w.heap.size w w' := ⟨⟨h.os, h.tape, h.output, h.size, fun k hk => h.block k hk (by omega)⟩, h.drawn⟩
theorem Qaap {p : Program} {w w' : World} {at_ : Addr} {u : TypeId} {k : Addr} {v : Value} {atomic : Bool} {l : List Addr} (h : w.viewStore p at_ u k v atomic = .ok (w', l)) : w'.drawn = w.drawn := by
  unfold World.viewStore at h
  simp only [bind, Except.bind, pure, Except.pure] at h
  repeat' (split at h)
  all_goals first | (cases h; done) | (cases h; rfl) | skip
theorem Qvm {p : Program} {w w' : World} {a : Addr} {v : Value} {atomic : Bool} {l : List Addr} (h : w.farStore p a v atomic = .ok (w', l)) : w'.drawn = w.drawn := by
  unfold World.farStore at h
  split at h
  · split at h
    · rename_i r hr
      cases h
      exact Qaap hr
    · cases h
  · cases h
theorem Qft {α : Type} : ∀ (k : Ask α) (w : World), w.drawn ≤ (w.ask k).2.drawn
  | .done a, w => Nat.le_refl _
  | .ask what range k, w => by
    simp only [World.ask]
    split
    · exact Qft _ w
    · exact Nat.le_trans (Nat.le_succ _) (Qft _ { w with drawn := w.drawn + 1 })
theorem Qz8 (w : World) (c : Sys) : w.drawn ≤ (w.sys c).2.drawn := by
  have h := Qft (Kernel.perform c w.os) w
  unfold World.sys
  generalize w.ask (Kernel.perform c w.os) = x at h
  obtain ⟨⟨r, os⟩, w1⟩ := x
  cases r <;> first | exact h | exact Nat.le_refl _
theorem Qob {α : Type} {P : Program} : ∀ (s : Sem α) (w : World) (v : α) (w' : World), s.run P w = .ok v w' → w.drawn ≤ w'.drawn := by
  intro s
  induction s with
  | pure a => intro w v w' h; cases h; exact Nat.le_refl _
  | load m a k ih =>
    intro w v w' h
    simp only [Sem.run] at h
    split at h
    · exact ih _ _ _ _ h
    · split at h
      · exact ih _ _ _ _ h
      · cases h
  | store m a x k ih =>
    intro w v w' h
    cases x <;> simp only [Sem.run] at h <;> first | (cases h; done) | skip
    all_goals
      split at h
      · split at h
        · cases h
        · exact ih (w.setCell _ _) _ _ h
      · split at h
        · rename_i w1 l hf
          have := Qvm hf
          exact Nat.le_trans (Nat.le_of_eq this.symm) (ih _ _ _ h)
        · cases h
  | new o k ih =>
    intro w v w' h
    simp only [Sem.run] at h
    exact ih _ { w with heap := w.heap.push o } _ _ h
  | shape r k ih => intro w v w' h; exact ih _ _ _ _ h
  | freeze a n k ih =>
    intro w v w' h
    simp only [Sem.run] at h
    exact Nat.le_trans (Nat.le_of_eq (by unfold World.freeze; split <;> rfl)) (ih _ _ _ h)
  | frozen a k ih => intro w v w' h; exact ih _ _ _ _ h
  | getObj r k ih =>
    intro w v w' h
    simp only [Sem.run] at h
    split at h
    · cases h
    · exact ih _ _ _ _ h
    · cases h
  | setObj r o k ih =>
    intro w v w' h
    simp only [Sem.run] at h
    split at h
    · cases h
    · exact ih { w with heap := w.heap.setIfInBounds r o } _ _ h
    · cases h
  | choose q k ih =>
    intro w v w' h
    simp only [Sem.run] at h
    split at h
    · exact ih _ _ _ _ h
    · exact Nat.le_trans (Nat.le_succ _) (ih _ { w with drawn := w.drawn + 1 } _ _ h)
  | sys c k ih =>
    intro w v w' h
    simp only [Sem.run] at h
    exact Nat.le_trans (Qz8 w c) (ih _ _ _ _ h)
  | program k ih => intro w v w' h; exact ih _ _ _ _ h
  | mark m k ih => intro w v w' h; exact ih _ _ _ h
  | halt h0 => intro w v w' h; cases h
section
variable {ρ : Nat → FuncId} {base : Nat → Prop} {F : Fm} {fr : Frm} {S₀ : Nat → Prop} {Γ Γ1 : Hp} {β : Nat → Lay} {B B1 : Nat → List Nat} {Bx : List Nat} {a : Act} {w w' : World} {m : Tag}
theorem Rel.parts (h : Rel ρ S₀ base F fr Γ β B a w) : Parts ρ w (Stands S₀ w Γ B) β Γ B Γ B [] :=
  ⟨h.roots, h.apart, fun R hR => ⟨hR, fun b hb => hb⟩, fun b hb => (by cases hb), List.nodup_nil⟩
theorem Rel.owned (h : Rel ρ S₀ base F fr Γ β B a w) {b : Nat} (hb : Owned Γ B b) : base b ∧ b < w.heap.size := by
  obtain ⟨R, h1, h2⟩ := hb
  exact h.inside R h1 b h2
theorem Qcd {b : Nat} (hb : Owned Γ B b) : ¬ Stands S₀ w Γ B b := fun hs => by
  obtain ⟨R, h1, h2⟩ := hb
  exact hs.own R h1 h2
theorem Rel.setQ (h : Rel ρ S₀ base F fr Γ β B a w) (hp : Parts ρ w (Stands S₀ w Γ B) β Γ B Γ1 B1 Bx) (R : Nat) (c : Cn) (L : Lay) (Bs : List Nat) (A : Nat → Prop) (htag : TagOK m β (upd β R L)) (hs : w.heap.size ≤ w'.heap.size)
    (hc : ∀ b, b < w.heap.size → ¬ A b → w'.heap[b]? = w.heap[b]?) (hA : ∀ b, A b → Owned Γ B b ∧ ∀ R', R' ≠ R → (Γ1 R').isSome = true → b ∉ B1 R')
    (hB : ∀ b ∈ Bs, (Owned Γ B b ∧ ∀ R', R' ≠ R → (Γ1 R').isSome = true → b ∉ B1 R') ∨ (w.heap.size ≤ b ∧ b < w'.heap.size))
    (hok : (∀ b, Stands S₀ w Γ B b → Stands S₀ w' (upd (Hp.retag Γ1 m) R (some c)) (upd B1 R Bs) b) → RootOK ρ w' (Stands S₀ w' (upd (Hp.retag Γ1 m) R (some c)) (upd B1 R Bs)) (upd β R L) c L Bs) :
    Rel ρ S₀ base F (fr.retag m) (upd (Hp.retag Γ1 m) R (some c)) (upd β R L) (upd B1 R Bs) a w' := by
  have hsome : ∀ R', R' ≠ R → ((upd (Hp.retag Γ1 m) R (some c) R').isSome = true ↔ (Γ1 R').isSome = true) := fun R' hR => by simp [Qa _ _ hR, Hp.retag]
  have hst : Keeps (Stands S₀ w Γ B) w w' := fun b hb => hc b hb.lt fun ha => Qcd (hA b ha).1 hb
  refine h.chg ⟨hs, hst, fun b hb R' hR' hm => ?_, htag, fun hS R' c' hR' hl => ?_, fun R1 R2 hne h1 h2 b hb1 hb2 => ?_, fun R' hR' b hb => ?_⟩
  · by_cases e : R' = R
    · subst e
      rw [Qd] at hm
      rcases hB b hm with h1 | h1
      · exact Qcd h1.1 hb
      · have := hb.lt; omega
    · rw [Qa _ _ e] at hm
      have h1 := hp.sub R' ((hsome R' e).1 hR')
      exact hb.own R' h1.1 (h1.2 b hm)
  · by_cases e : R' = R
    · subst e
      rw [Qd] at hR'
      cases hR'
      rw [Qd, Qd]
      exact hok hS
    · have h1 := (hsome R' e).1 (by rw [hR']; rfl)
      rw [Qa _ _ e] at hR' hl ⊢
      rw [Qa _ _ e]
      cases hg : Γ1 R' with
      | none => rw [hg] at h1; cases h1
      | some c0 =>
        simp only [Hp.retag, hg, Option.map_some, Option.some.injEq] at hR'
        subst hR'
        refine (hp.roots R' c0 hg hl).retag hS hst (fun b hb => ?_) htag
        have h2 := hp.sub R' h1
        exact hc b (h.inside R' h2.1 b (h2.2 b hb)).2 fun ha => (hA b ha).2 R' e h1 hb
  · have key : ∀ R1 R2, R1 = R → R2 ≠ R → (Γ1 R2).isSome = true → ∀ b, b ∈ Bs → b ∉ B1 R2 := fun R1 R2 _ e2 h2 b hb1 hb2 => by
      rcases hB b hb1 with h3 | h3
      · exact h3.2 R2 e2 h2 hb2
      · have h4 := hp.sub R2 h2
        have := (h.inside R2 h4.1 b (h4.2 b hb2)).2
        omega
    by_cases e1 : R1 = R
    · have e2 : R2 ≠ R := fun e => hne (e1.trans e.symm)
      rw [e1, Qd] at hb1
      rw [Qa _ _ e2] at hb2
      exact key R1 R2 e1 e2 ((hsome R2 e2).1 h2) b hb1 hb2
    · by_cases e2 : R2 = R
      · rw [e2, Qd] at hb2
        rw [Qa _ _ e1] at hb1
        exact key R2 R1 e2 e1 ((hsome R1 e1).1 h1) b hb2 hb1
      · rw [Qa _ _ e2] at hb2
        rw [Qa _ _ e1] at hb1
        exact hp.apart R1 R2 hne ((hsome R1 e1).1 h1) ((hsome R2 e2).1 h2) b hb1 hb2
  · by_cases e : R' = R
    · subst e
      rw [Qd] at hb
      rcases hB b hb with h1 | h1
      · have := h.owned h1.1
        exact ⟨this.1, Nat.lt_of_lt_of_le this.2 hs⟩
      · exact ⟨h.low b h1.1, h1.2⟩
    · rw [Qa _ _ e] at hb
      have h1 := hp.sub R' ((hsome R' e).1 hR')
      have := h.inside R' h1.1 b (h1.2 b hb)
      exact ⟨this.1, Nat.lt_of_lt_of_le this.2 hs⟩
theorem Rel.setP (h : Rel ρ S₀ base F fr Γ β B a w) (hp : Parts ρ w (Stands S₀ w Γ B) β Γ B Γ1 B1 Bx) (R : Nat) (c : Cn) (L : Lay) (Bs : List Nat) (A : Nat → Prop) (htag : TagOK m β (upd β R L)) (hs : w.heap.size ≤ w'.heap.size)
    (hc : ∀ b, b < w.heap.size → ¬ A b → w'.heap[b]? = w.heap[b]?) (hA : ∀ b, A b → Owned Γ B b ∧ ∀ R', R' ≠ R → (Γ1 R').isSome = true → b ∉ B1 R')
    (hB : ∀ b ∈ Bs, (Owned Γ B b ∧ ∀ R', R' ≠ R → (Γ1 R').isSome = true → b ∉ B1 R') ∨ (w.heap.size ≤ b ∧ b < w'.heap.size))
    (hok : ∀ S' : Nat → Prop, (∀ b, Stands S₀ w Γ B b → S' b) → RootOK ρ w' S' (upd β R L) c L Bs) :
    Rel ρ S₀ base F (fr.retag m) (upd (Hp.retag Γ1 m) R (some c)) (upd β R L) (upd B1 R Bs) a w' :=
  h.setQ hp R c L Bs A htag hs hc hA hB fun hS => hok _ hS
theorem Qeg : ∀ (p q q' : List Step), dropPre p q = some q' → q = p ++ q'
  | [], q, q', h => by simp only [dropPre, Option.some.injEq] at h; simp [h]
  | s :: p, [], q', h => by cases h
  | s :: p, t :: q, q', h => by
    simp only [dropPre] at h
    split at h
    · rename_i e; subst e; rw [List.cons_append, ← Qeg p q q' h]
    · cases h
theorem Qxi {h hx : Hdr} {p q : List Step} (hd : dropPre p q = none) : h.put p hx q = h q := by
  simp only [Hdr.put, hd]
theorem Qnr : ∀ (q : List Step) (h : Hdr) (a a' : Pl), hasElt q = true → a ≠ .dead → a' ≠ .dead → place h a q = place h a' q
  | [], _, _, _, h, _, _ => by cases h
  | .elt i k :: q, h, a, a', _, ha, ha' => by
    have : ∀ a : Pl, a ≠ .dead → place h a (.elt i k :: q) = ((hdrAddr (h [])).bind fun x => place (h.at (.elt i k)) (.adr x.block (x.off + i * k)) q) := fun a ha => by
      cases a with
      | dead => exact absurd rfl ha
      | adr b o => simp only [place]
      | vir => simp only [place]
    rw [this a ha, this a' ha']
  | .fld j off :: q, h, a, a', he, ha, ha' => by
    have : ∀ a : Pl, a ≠ .dead → ∃ a2 : Pl, a2 ≠ .dead ∧ place h a (.fld j off :: q) = place (h.at (.fld j off)) a2 q := fun a ha => by
      cases a with
      | dead => exact absurd rfl ha
      | adr b o => exact ⟨.adr b (o + off), fun e => (by cases e), by simp only [place]⟩
      | vir => exact ⟨.vir, fun e => (by cases e), by simp only [place]⟩
    obtain ⟨x, hx, e1⟩ := this a ha
    obtain ⟨y, hy, e2⟩ := this a' ha'
    rw [e1, e2]
    exact Qnr q _ x y he hx hy
theorem Qey : ∀ (p q : List Step) (h : Hdr) (a b : Pl), place h a (p ++ q) = some b → a ≠ .dead → ∃ c, c ≠ .dead ∧ place h a p = some c ∧ place (h.sub p) c q = some b
  | [], q, h, a, b, hp, ha => ⟨a, ha, by cases a <;> rfl, hp⟩
  | .elt i k :: p, q, h, a, b, hp, ha => by
    have : ∀ r : List Step, place h a (.elt i k :: r) = ((hdrAddr (h [])).bind fun x => place (h.at (.elt i k)) (.adr x.block (x.off + i * k)) r) := fun r => by
      cases a with
      | dead => exact absurd rfl ha
      | adr b o => simp only [place]
      | vir => simp only [place]
    rw [List.cons_append, this] at hp
    rw [this]
    cases hh : hdrAddr (h []) with
    | none => rw [hh] at hp; cases hp
    | some x =>
      rw [hh] at hp
      exact Qey p q _ _ b hp (fun e => by cases e)
  | .fld j off :: p, q, h, a, b, hp, ha => by
    cases a with
    | dead => exact absurd rfl ha
    | adr b0 o => simp only [List.cons_append, place] at hp ⊢; exact Qey p q _ _ b hp (fun e => by cases e)
    | vir => simp only [List.cons_append, place] at hp ⊢; exact Qey p q _ _ b hp (fun e => by cases e)
theorem Qcg : ∀ (p : List Step) (q : List Step) (h : Hdr) (a c : Pl), place h a p = some c → c ≠ .dead → place h a (p ++ q) = place (h.sub p) c q
  | [], q, h, a, c, hp, _ => by
    have : a = c := by cases a <;> (simp only [place, Option.some.injEq] at hp; exact hp)
    subst this
    rfl
  | .elt i k :: p, q, h, a, c, hp, hc => by
    cases a with
    | dead => simp only [place] at hp; cases hp
    | adr b o =>
      simp only [place, List.cons_append] at hp ⊢
      cases hh : hdrAddr (h []) with
      | none => rw [hh] at hp; cases hp
      | some x =>
        rw [hh] at hp
        exact Qcg p q _ _ c hp hc
    | vir =>
      simp only [place, List.cons_append] at hp ⊢
      cases hh : hdrAddr (h []) with
      | none => rw [hh] at hp; cases hp
      | some x =>
        rw [hh] at hp
        exact Qcg p q _ _ c hp hc
  | .fld j off :: p, q, h, a, c, hp, hc => by
    cases a with
    | dead => simp only [place] at hp; cases hp
    | adr b o => simp only [place, List.cons_append] at hp ⊢; exact Qcg p q _ _ c hp hc
    | vir => simp only [place, List.cons_append] at hp ⊢; exact Qcg p q _ _ c hp hc
theorem Qc5 : ∀ (q p : List Step) (h hx : Hdr) (a : Pl), (dropPre p q = none ∨ ∃ q', dropPre p q = some q' ∧ hasElt q' = false) → place (h.put p hx) a q = place h a q
  | [], p, h, hx, a, _ => by cases a <;> rfl
  | .fld j off :: q, p, h, hx, a, hd => by
    have key : ∀ a, place ((h.put p hx).at (.fld j off)) a q = place (h.at (.fld j off)) a q := fun a => by
      cases p with
      | nil =>
        rw [Qe0]
        rcases hd with hd | ⟨q', h1, h2⟩
        · cases hd
        · cases h1
          have flat : ∀ (q : List Step) (h h' : Hdr) (a : Pl), hasElt q = false → place h a q = place h' a q := by
            intro q
            induction q with
            | nil => intros; cases ‹Pl› <;> rfl
            | cons s q ih =>
              intro h h' a he
              cases s with
              | elt i k => cases he
              | fld j o => cases a <;> simp only [place] <;> exact ih _ _ _ he
          exact flat q _ _ a h2
      | cons s p =>
        by_cases e : (Step.fld j off) = s
        · subst e
          rw [Qez]
          refine Qc5 q p _ hx a ?_
          simpa [dropPre] using hd
        · rw [Qc6 h hx s _ p e]
    cases a with
    | dead => rfl
    | adr b o => simp only [place]; exact key _
    | vir => simp only [place]; exact key _
  | .elt i k :: q, p, h, hx, a, hd => by
    cases p with
    | nil =>
      rcases hd with hd | ⟨q', h1, h2⟩
      · cases hd
      · cases h1; cases h2
    | cons s p =>
      have h0 : (h.put (s :: p) hx) [] = h [] := rfl
      have key : ∀ a, place ((h.put (s :: p) hx).at (.elt i k)) a q = place (h.at (.elt i k)) a q := fun a => by
        by_cases e : (Step.elt i k) = s
        · subst e
          rw [Qez]
          refine Qc5 q p _ hx a ?_
          simpa [dropPre] using hd
        · rw [Qc6 h hx s _ p e]
      cases a with
      | dead => rfl
      | adr b o =>
        simp only [place, h0, key]
      | vir =>
        simp only [place, h0, key]
theorem Qeq {L : Lay} {hx : Hdr} {p q : List Step} (hd : dropPre p q = none) : (Lay.mk L.root (L.h.put p hx)).hdr q = L.hdr q := by
  unfold Lay.hdr
  simp only
  split
  · rfl
  · exact Qxi hd
theorem TagOK.cut {R : Nat} {p : List Step} {hx : Hdr} : TagOK (.cut R p) β (upd β R ⟨(β R).root, (β R).h.put p hx⟩) := by
  refine ⟨fun R' q v h x hm => ?_, fun R' q b o h x hm => ?_⟩
  · simp only [Tag.cut] at hm
    split at hm
    · rename_i e
      subst e
      cases hd : dropPre p q with
      | some q' => rw [hd] at hm; cases hm
      | none =>
        rw [hd] at hm
        cases hm
        rw [Qd, Qeq hd]
        exact h
    · rename_i e
      cases hm
      rw [Qa _ _ e]
      exact h
  · simp only [Tag.cut] at hm
    split at hm
    · rename_i e
      subst e
      cases hd : dropPre p q with
      | some q' =>
        rw [hd] at hm
        simp only at hm
        split at hm
        · cases hm
        · rename_i he
          cases hm
          rw [Qd]
          unfold Lay.go at h ⊢
          rw [Qc5 _ _ _ _ _ (.inr ⟨q', hd, by simpa using he⟩)]
          exact h
      | none =>
        rw [hd] at hm
        cases hm
        rw [Qd]
        unfold Lay.go at h ⊢
        rw [Qc5 _ _ _ _ _ (.inl hd)]
        exact h
    · rename_i e
      cases hm
      rw [Qa _ _ e]
      exact h
theorem TagOK.below {R : Nat} {p : List Step} {hx : Hdr} (h0 : hx [] = (β R).h p) : TagOK (.below R p) β (upd β R ⟨(β R).root, (β R).h.put p hx⟩) := by
  refine ⟨fun R' q v h x hm => ?_, fun R' q b o h x hm => ?_⟩
  · simp only [Tag.below] at hm
    split at hm
    · rename_i e
      subst e
      cases hd : dropPre p q with
      | some q' =>
        rw [hd] at hm
        cases q' with
        | cons s q' => cases hm
        | nil =>
          cases hm
          rw [Qd]
          have e1 := Qeg p q [] hd
          rw [List.append_nil] at e1
          subst e1
          have hl0 := Lay.live_of_hdr h
          have hl : (Lay.mk (β R').root ((β R').h.put q hx)).live := hl0
          rw [Lay.hdr_live (Lay.live_of_hdr h)] at h
          rw [Lay.hdr_live hl]
          simp only [Hdr.put, hd, h0, h]
      | none =>
        rw [hd] at hm
        cases hm
        rw [Qd, Qeq hd]
        exact h
    · rename_i e
      cases hm
      rw [Qa _ _ e]
      exact h
  · simp only [Tag.below] at hm
    split at hm
    · rename_i e
      subst e
      cases hd : dropPre p q with
      | some q' =>
        rw [hd] at hm
        simp only at hm
        split at hm
        · cases hm
        · rename_i he
          cases hm
          rw [Qd]
          unfold Lay.go at h ⊢
          rw [Qc5 _ _ _ _ _ (.inr ⟨q', hd, by simpa using he⟩)]
          exact h
      | none =>
        rw [hd] at hm
        cases hm
        rw [Qd]
        unfold Lay.go at h ⊢
        rw [Qc5 _ _ _ _ _ (.inl hd)]
        exact h
    · rename_i e
      cases hm
      rw [Qa _ _ e]
      exact h
theorem TagOK.move {R nm : Nat} {p : List Step} (hne : R ≠ nm) : TagOK (.move R p nm) β (upd β nm ⟨.vir, (β R).h.sub p⟩) := by
  refine ⟨fun R' q v h x hm => ?_, fun R' q b o h x hm => ?_⟩
  · simp only [Tag.move] at hm
    split at hm
    · rename_i e
      subst e
      cases hd : dropPre p q with
      | some q' =>
        rw [hd] at hm
        cases hm
        rw [Qd]
        have e1 := Qeg p q q' hd
        rw [Lay.hdr_live (Lay.live_of_hdr h), e1] at h
        exact h
      | none =>
        rw [hd] at hm
        cases hm
        rw [Qa _ _ hne]
        exact h
    · split at hm
      · cases hm
      · rename_i hn
        cases hm
        rw [Qa _ _ hn]
        exact h
  · simp only [Tag.move] at hm
    split at hm
    · rename_i e
      subst e
      cases hd : dropPre p q with
      | some q' =>
        rw [hd] at hm
        simp only at hm
        split at hm
        · rename_i he
          cases hm
          rw [Qd]
          have e1 := Qeg p q q' hd
          have hl := Lay.live_of_go h
          unfold Lay.go at h
          rw [e1] at h
          obtain ⟨c, h1, h2, h3⟩ := Qey p q' _ _ _ h hl
          rw [Qnr q' _ c .vir he h1 (fun e => by cases e)] at h3
          exact h3
        · cases hm
          rw [Qa _ _ hne]
          exact h
      | none =>
        rw [hd] at hm
        cases hm
        rw [Qa _ _ hne]
        exact h
    · split at hm
      · cases hm
      · rename_i hn
        cases hm
        rw [Qa _ _ hn]
        exact h
theorem TagOK.stay {R : Nat} : TagOK (.move R [] R) β β := by
  refine ⟨fun R' q v h x hm => ?_, fun R' q b o h x hm => ?_⟩
  · simp only [Tag.move, dropPre] at hm
    split at hm
    · rename_i e; cases hm; rw [← e]; exact h
    · cases hm; exact h
  · simp only [Tag.move, dropPre] at hm
    split at hm
    · rename_i e
      split at hm
      · cases hm; rw [← e]; exact h
      · cases hm; exact h
    · cases hm; exact h
end
end Go.Proofs.Ytboenehajoaahaa.Am
