import Derived.Deep.Quiet
import Derived.Test.YtboenehajoaahaaAmQ
namespace Go.Proofs.Ytboenehajoaahaa.Am
open Go Go.RowKit
structure Org where
  w : World
  may : Nat → Prop
  Γ : Hp
  β : Nat → Lay
theorem Given.refl {Γ : Hp} {β : Nat → Lay} : Given Γ β Γ β := fun _ _ h => ⟨h, rfl, fun _ => rfl⟩
theorem Given.trans {Γ Γ1 Γ2 : Hp} {β β1 β2 : Nat → Lay} (h : Given Γ β Γ1 β1) (k : Given Γ1 β1 Γ2 β2) : Given Γ β Γ2 β2 := fun R hR hs => by
  obtain ⟨k1, k2, k3⟩ := k R hR hs
  obtain ⟨h1, h2, h3⟩ := h R hR k1
  exact ⟨h1, k2.trans h2, fun hv => (k3 (h2.trans hv)).trans (h3 hv)⟩
theorem Given.sub {Γ Γ1 Γ2 : Hp} {β β1 : Nat → Lay} (h : Given Γ β Γ1 β1) (k : ∀ R, (Γ2 R).isSome = true → (Γ1 R).isSome = true) : Given Γ β Γ2 β1 := fun R hR hs => h R hR (k R hs)
structure Inv (ρ : Nat → FuncId) (S₀ : Nat → Prop) (w0 : Org) (F : Fm) (s : St) (β : Nat → Lay) (B : Nat → List Nat) (a : Act) (w : World) : Prop where
  rel : Rel ρ S₀ w0.may F s.fr s.Γ β B a w
  below : Behind w0.may w0.w w
  given : Given w0.Γ w0.β s.Γ β
def Inv' (ρ : Nat → FuncId) (S₀ : Nat → Prop) (w0 : Org) (F : Fm) (s : St) (a : Act) (w : World) : Prop := ∃ β B, Inv ρ S₀ w0 F s β B a w
section
variable {α : Type} {P : Program} {ρ : Nat → FuncId} {F : Fm} {s : St} {S₀ : Nat → Prop} {β : Nat → Lay} {B : Nat → List Nat} {a : Act} {w0 : Org} {w w' : World} {E : Env}
  {r : α} {o : Oper}
theorem Inv.grow (h : Inv ρ S₀ w0 F s β B a w) (hb : Below w.heap.size w w') : Inv ρ S₀ w0 F s β B a w' :=
  ⟨h.rel.grow hb.block hb.size, h.below.trans (.of_below hb), h.given⟩
theorem Inv.after (h : Inv ρ S₀ w0 F s β B a w) {ms : List Tag} {d : D} {Γ' : Hp} {v : Value} (ha : After ρ S₀ w0.may F s.fr s.Γ β a w ms d Γ' v w') (hd : w.drawn ≤ w'.drawn) (dst : Option Nat) : Inv' ρ S₀ w0 F ⟨(s.fr.retags ms).put (F.dst dst) d, Γ'⟩ (a.put dst v) w' := by
  obtain ⟨hb, β', B', hrel, hv, hgv⟩ := ha
  exact ⟨β', B', hrel.put hv, h.below.trans ⟨hb, hd⟩, h.given.trans hgv⟩
theorem Qc4 (hg : Good P ρ E) {o' : AOp} {next : Act → World → Prop} {Q : Exit → Act → World → Prop} {K : St → Option α} (hinv : Inv ρ S₀ w0 F s β B a w) (hm : matchOp ρ P F.wd o.op o' = true)
    (h : (o'.step E s.fr s.Γ fun e => e.apply false (F.dst o.dst) s K) = some r) (hn : ∀ s' a' w', Inv' ρ S₀ w0 F s' a' w' → K s' = some r → next a' w') : o.wp P a w next Q := by
  refine Qzl (G := o.wp P a w next Q) hg hinv.rel hm h ⟨?_, ?_, ?_, ?_, ?_, ?_⟩
  · intro d v hk hv hrun
    unfold Oper.wp
    rw [hrun w (Below.refl _ _), Oper.upon_value]
    refine hn _ _ _ ?_ hk
    exact ⟨β, B, hinv.rel.put hv, hinv.below, hinv.given⟩
  · intro u v w' hk hrun hb hv
    unfold Oper.wp
    rw [hrun, Oper.upon_value]
    have h2 := hinv.grow hb
    refine hn _ _ _ ?_ hk
    exact ⟨β, B, h2.rel.put hv, h2.below, h2.given⟩
  · intro fl u f args hk _ hrun hcalls
    unfold Oper.wp
    rw [hrun w (Below.refl _ _), Oper.upon_enter]
    refine (hcalls w (Below.refl _ _)).mono fun e w'' he => ?_
    obtain ⟨v, rfl, hb, hv⟩ := he
    have h2 := hinv.grow hb
    refine hn _ _ _ ?_ hk
    refine ⟨β, B, h2.rel.put (d := .val u) (hv.val_mono (fun b hb' => ?_) (fun _ _ _ _ h => h)), h2.below, h2.given⟩
    rcases hb' with hb' | hb'
    · exact ⟨Nat.lt_of_lt_of_le hb'.1 hb.size, hb'.2, hb'.3⟩
    · exact ⟨hb'.2, fun R hR hm => by have := (hinv.rel.inside R hR b hm).2; omega, hinv.rel.fresh b (hinv.rel.low b hb'.1)⟩
  · intro ms d Γ' v w' hk hrun ha
    unfold Oper.wp
    have hd := Qob _ _ _ _ hrun
    rw [hrun, Oper.upon_value]
    exact hn _ _ _ (hinv.after ha hd o.dst) hk
  · intro ms Γ' w' hk hrun ha
    unfold Oper.wp
    have hd := Qob _ _ _ _ hrun
    rw [hrun, Oper.upon_skip]
    exact hn _ _ _ (hinv.after ha hd o.dst) hk
  · intro ms d Γ' f args hk hrun hcalls
    unfold Oper.wp
    rw [hrun, Oper.upon_enter]
    refine hcalls.mono fun e w'' he => ?_
    obtain ⟨v, rfl, hd, ha⟩ := he
    exact hn _ _ _ (hinv.after ha hd o.dst) hk
def guardOK (N : Nat × Nat) (ops : Array Oper) : Option (Nat × Bool) → Option (Nat × Bool) → Bool
  | none, none => true
  | some (j, want), some (g, want') => want == want' && (match (ops[j]?).bind (·.dst) with | some l => g == N.1 + l && decide (l < N.2) | none => false)
  | _, _ => false
theorem Qdv {fr : Frm} {g : Nat} {d : D} (h : fr g = d) : fr.put (some g) d = fr := by
  funext i
  simp only [Frm.put, Option.some.injEq]
  split
  · rename_i e; rw [← e, h]
  · rfl
theorem Qcz {dr : Bool} {o' : AOper} {ops : Array Oper} {K : St → Option α} (hinv : Inv ρ S₀ w0 F s β B a w) (hgd : guardOK F.wd ops o.guard o'.guard = true) (h : o'.exec dr E s K = some r) :
    (Region.wanted o (yielded ops a.tmps) = true ∧ (o'.op.step E s.fr s.Γ fun e => e.apply dr o'.dst s K) = some r) ∨ (Region.wanted o (yielded ops a.tmps) = false ∧ K ⟨s.fr.put o'.dst .skip, s.Γ⟩ = some r) := by
  unfold AOper.exec at h
  unfold guardOK at hgd
  unfold Region.wanted
  split at hgd
  · rename_i h1 h2
    rw [h2] at h
    rw [h1]
    exact .inl ⟨rfl, h⟩
  · rename_i j want g want' h1 h2
    simp only [Bool.and_eq_true, beq_iff_eq] at hgd
    obtain ⟨rfl, hj⟩ := hgd
    rw [h2] at h
    rw [h1]
    have hget : ∃ l, (ops[j]?).bind (·.dst) = some l ∧ g = F.off + l ∧ l < F.N := by
      split at hj
      · rename_i l hl
        simp only [Bool.and_eq_true, beq_iff_eq, decide_eq_true_eq] at hj
        exact ⟨l, hl, hj.1, hj.2⟩
      · cases hj
    obtain ⟨l, hget, rfl, hlt⟩ := hget
    have hslot := hinv.rel.slots l hlt
    have htmp : a.tmps[l]? = some (a.tmps.getD l Go.undef) := by
      have : l < a.tmps.size := by rw [hinv.rel.size]; exact hlt
      simp [Array.getD_eq_getD_getElem?, this]
    have hy : yielded ops a.tmps j = match a.tmps.getD l Go.undef with | .bool b => some b | _ => none := by
      unfold yielded
      rw [hget]
      simp only [Option.bind_some, htmp]
      generalize a.tmps.getD l Go.undef = x
      cases x <;> rfl
    simp only at h
    cases hs : s.fr (F.off + l) with
    | skip =>
      rw [hs] at h hslot
      have hv : a.tmps.getD l Go.undef = Go.undef := hslot
      refine .inr ⟨?_, h⟩
      simp only [hy, hv]
      rfl
    | val u =>
      rw [hs] at h hslot
      cases u with
      | bool b =>
        have hv := Qb4 hslot
        have hp : s.fr.put (some (F.off + l)) (.val (.bool b)) = s.fr := Qdv hs
        simp only [hy, hv]
        cases b <;> cases want <;> simp only [U.asBool, hp, if_true, Bool.false_eq_true, if_false] at h <;> first | exact .inl ⟨by decide, h⟩ | exact .inr ⟨by decide, h⟩
      | _ => cases h
    | _ => rw [hs] at h; cases h
  · cases hgd
def matchOps (ρ : Nat → FuncId) (P : Program) (N : Nat × Nat) (ops : Array Oper) : List Oper → List AOper → Bool
  | [], [] => true
  | o :: os, o' :: os' => o.dst.map (N.1 + ·) == o'.dst && guardOK N ops o.guard o'.guard && matchOp ρ P N o.op o'.op && matchOps ρ P N ops os os'
  | _, _ => false
theorem Qbj (hg : Good P ρ E) {ops : Array Oper} {Q : Exit → Act → World → Prop} {K : St → Option α} : ∀ (os : List Oper) (os' : List AOper) (s : St) (a : Act) (w : World), matchOps ρ P F.wd ops os os' = true → Inv' ρ S₀ w0 F s a w →
    execOps false E os' s K = some r → (∀ s' a' w', Inv' ρ S₀ w0 F s' a' w' → K s' = some r → Q .normal a' w') → wpList P ops Q os a w
  | [], [], s, a, w, _, hinv, h, hK => hK s a w hinv h
  | [], _ :: _, _, _, _, hm, _, _, _ => by cases hm
  | _ :: _, [], _, _, _, hm, _, _, _ => by cases hm
  | o :: os, o' :: os', s, a, w, hm, ⟨β, B, hinv⟩, h, hK => by
    simp only [matchOps, Bool.and_eq_true, beq_iff_eq] at hm
    obtain ⟨⟨⟨hdst, hgd⟩, hop⟩, hos⟩ := hm
    simp only [wpList]
    rcases Qcz hinv hgd h with ⟨hw, h⟩ | ⟨hw, h⟩
    · rw [if_pos hw]
      left
      rw [← hdst] at h
      exact Qc4 hg hinv hop h fun s' a' w' hinv' h' => Qbj hg os os' s' a' w' hos hinv' h' hK
    · rw [if_neg (by rw [hw]; simp)]
      refine Qbj hg os os' _ _ w hos ?_ h hK
      rw [← hdst]
      exact ⟨β, B, hinv.rel.put (d := .skip) (v := Go.undef) rfl, hinv.below, hinv.given⟩
theorem Qxt (hg : Good P ρ E) {id : Nat} {ops : Array Oper} {os' : List AOper} {Q : Exit → Act → World → Prop} {K : St → Option α} (hm : matchOps ρ P F.wd ops ops.toList os' = true) (hinv : Inv' ρ S₀ w0 F s a w)
    (h : execOps false E os' s K = some r) (hK : ∀ s' a' w', Inv' ρ S₀ w0 F s' a' w' → K s' = some r → Q .normal a' w') : (Code.region id ops false).wp P Q a w :=
  wp_region_list (Qbj hg ops.toList os' s a w hm hinv h hK)
end
end Go.Proofs.Ytboenehajoaahaa.Am
