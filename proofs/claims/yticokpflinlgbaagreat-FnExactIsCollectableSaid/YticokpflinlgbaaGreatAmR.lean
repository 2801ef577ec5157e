import Derived.Deep.Quiet
import Derived.Test.YticokpflinlgbaaGreatAmQ
/-
  The machine's state stands to the model's ('Inv'), operation by operation, region by region; regions that draw their order included.
-/
namespace Go.Proofs.YticokpflinlgbaaGreat.Am
open Go Go.RowKit

section
variable {ρ : Nat → FuncId} {base : Nat → Prop} {N : Nat} {fr : Frm} {S₀ : Nat → Prop} {Γ : Hp} {β : Nat → Pl} {B : Nat → List Nat} {a : Act} {w w' : World}

/-- A slice of the call's own gets another place and another name. -/
theorem Rel.swap (h : Rel ρ S₀ base N fr Γ β B a w) (R0 R : Nat) (hR0 : (Γ R0).isSome = true) (c : Cn) (q : Pl) (Bs : List Nat)
    (hc : ∀ b, b < w.heap.size → b ∉ B R0 → w'.heap[b]? = w.heap[b]?) (hs : w.heap.size ≤ w'.heap.size) (hB : ∀ b ∈ Bs, b ∈ B R0 ∨ (w.heap.size ≤ b ∧ b < w'.heap.size))
    (hok : ∀ S' : Nat → Prop, (∀ b, Stands S₀ w Γ B b → S' b) → RootOK ρ w' S' (upd β R q) c q Bs) :
    Rel ρ S₀ base N (fr.purge R) (upd (Hp.purge (upd Γ R0 none) R) R (some c)) (upd β R q) (upd B R Bs) a w' := by
  have hβ : ∀ R', R' ≠ R → upd β R q R' = β R' := fun R' hR => upd_other β q hR
  have hsome : ∀ R', R' ≠ R → (upd (Hp.purge (upd Γ R0 none) R) R (some c) R').isSome = true → R' ≠ R0 ∧ (Γ R').isSome = true := fun R' hR h => by
    rw [upd_other _ _ hR] at h
    by_cases e : R' = R0
    · subst e; simp [Hp.purge] at h
    · refine ⟨e, ?_⟩
      simpa [Hp.purge, upd_other _ _ e] using h
  have hBs : ∀ b ∈ Bs, base b ∧ b < w'.heap.size := fun b hb => by
    rcases hB b hb with hb | hb
    · have := h.inside R0 hR0 b hb
      exact ⟨this.1, Nat.lt_of_lt_of_le this.2 hs⟩
    · exact ⟨h.low b hb.1, hb.2⟩
  have hS : ∀ b, Stands S₀ w Γ B b → Stands S₀ w' (upd (Hp.purge (upd Γ R0 none) R) R (some c)) (upd B R Bs) b := fun b hb => ⟨Nat.lt_of_lt_of_le hb.1 hs, fun R' hR' => by
    by_cases e : R' = R
    · subst e
      rw [upd_same]
      intro hm
      rcases hB b hm with h1 | h1
      · exact hb.2 R0 hR0 h1
      · have := hb.1; omega
    · rw [upd_other _ _ e]
      exact hb.2 R' (hsome R' e hR').2, hb.3⟩
  have hst : ∀ b, Stands S₀ w Γ B b → w'.heap[b]? = w.heap[b]? := fun b hb => hc b hb.1 (hb.2 R0 hR0)
  refine ⟨h.size, h.defers, fun i hi => ?_, fun R' c' hR' => ?_, fun R1 R2 hne h1 h2 b hb1 hb2 => ?_, fun R' hR' b hb => ?_, fun b hb => h.low b (Nat.le_trans hs hb), h.fresh⟩
  · exact ((h.slots i hi).purge (R := R) hβ).mono hS hst (fun _ => rfl)
  · by_cases e : R' = R
    · subst e
      rw [upd_same] at hR'
      cases hR'
      rw [upd_same, upd_same]
      exact hok _ hS
    · have h1 := hsome R' e (by rw [hR']; rfl)
      rw [upd_other _ _ e] at hR'
      rw [upd_other _ _ e, upd_other _ _ e]
      cases hg : Γ R' with
      | none => rw [hg] at h1; cases h1.2
      | some c0 =>
        simp only [Hp.purge, upd_other _ _ h1.1, hg, Option.map_some, Option.some.injEq] at hR'
        subst hR'
        refine ((h.roots R' c0 hg).purge (R := R) hβ).mono hS hst (fun b hb => hc b (h.inside R' (by simp [hg]) b hb).2 (h.apart R' R0 h1.1 (by simp [hg]) hR0 b hb)) (fun _ => rfl)
  · by_cases e1 : R1 = R
    · subst e1
      have e2 : R2 ≠ R1 := Ne.symm hne
      rw [upd_same] at hb1
      rw [upd_other _ _ e2] at hb2
      obtain ⟨e3, e4⟩ := hsome R2 e2 h2
      rcases hB b hb1 with h3 | h3
      · exact h.apart R2 R0 e3 e4 hR0 b hb2 h3
      · have := (h.inside R2 e4 b hb2).2; omega
    · by_cases e2 : R2 = R
      · subst e2
        rw [upd_same] at hb2
        rw [upd_other _ _ e1] at hb1
        obtain ⟨e3, e4⟩ := hsome R1 e1 h1
        rcases hB b hb2 with h3 | h3
        · exact h.apart R1 R0 e3 e4 hR0 b hb1 h3
        · have := (h.inside R1 e4 b hb1).2; omega
      · rw [upd_other _ _ e1] at hb1
        rw [upd_other _ _ e2] at hb2
        exact h.apart R1 R2 hne (hsome R1 e1 h1).2 (hsome R2 e2 h2).2 b hb1 hb2
  · by_cases e : R' = R
    · subst e
      rw [upd_same] at hb
      exact hBs b hb
    · rw [upd_other _ _ e] at hb
      have := h.inside R' (hsome R' e hR').2 b hb
      exact ⟨this.1, Nat.lt_of_lt_of_le this.2 hs⟩
end

/-- Where a call began: the world; the blocks that it may own; where the variables lie that it was given (they bear the numbers from 5000 on). -/
structure Org where
  w : World
  may : Nat → Prop
  β : Nat → Pl
  B : Nat → List Nat

/-- The state of a call that began at w0. -/
structure Inv (ρ : Nat → FuncId) (S₀ : Nat → Prop) (w0 : Org) (N : Nat) (s : St) (β : Nat → Pl) (B : Nat → List Nat) (a : Act) (w : World) : Prop where
  rel : Rel ρ S₀ w0.may N s.fr s.Γ β B a w
  below : Behind w0.may w0.w w
  given : ∀ R, 5000 ≤ R → (s.Γ R).isSome = true → β R = w0.β R ∧ B R = w0.B R

def Inv' (ρ : Nat → FuncId) (S₀ : Nat → Prop) (w0 : Org) (N : Nat) (s : St) (a : Act) (w : World) : Prop := ∃ β B, Inv ρ S₀ w0 N s β B a w

/-- What was given stays where it is while another variable is made. -/
theorem given_upd {w0 : Org} {Γ Γ' : Hp} {β : Nat → Pl} {B : Nat → List Nat} {R : Nat} {q : Pl} {Bs : List Nat} (hR : R < 5000) (h : ∀ R, 5000 ≤ R → (Γ R).isSome = true → β R = w0.β R ∧ B R = w0.B R)
    (hs : ∀ R', R' ≠ R → (Γ' R').isSome = true → (Γ R').isSome = true) : ∀ R', 5000 ≤ R' → (Γ' R').isSome = true → upd β R q R' = w0.β R' ∧ upd B R Bs R' = w0.B R' := fun R' h1 h2 => by
  have hne : R' ≠ R := by omega
  rw [upd_other _ _ hne, upd_other _ _ hne]
  exact h R' h1 (hs R' hne h2)

section
variable {α : Type} {P : Program} {ρ : Nat → FuncId} {N : Nat} {s : St} {S₀ : Nat → Prop} {β : Nat → Pl} {B : Nat → List Nat} {a : Act} {w0 : Org} {w w' : World} {E : Env}
  {r : α} {o : Oper}

theorem Behind.chg {R : Nat} (h : Inv ρ S₀ w0 N s β B a w) (hR : (s.Γ R).isSome = true) (h1 : w'.os = w.os) (h2 : w'.tape = w.tape) (h3 : w'.output = w.output) (h4 : w.heap.size ≤ w'.heap.size) (h5 : ∀ b, b < w.heap.size → b ∉ B R → w'.heap[b]? = w.heap[b]?) : Behind w0.may w0.w w' :=
  h.below.trans ⟨h1, h2, h3, h4, fun k hk hA => h5 k hk fun hm => hA (h.rel.inside R hR k hm).1⟩

theorem Inv.grow (h : Inv ρ S₀ w0 N s β B a w) (hb : Below w.heap.size w w') : Inv ρ S₀ w0 N s β B a w' :=
  ⟨h.rel.grow hb.block hb.size, h.below.trans (.of_below hb), h.given⟩

/-- One operation, in its turn. -/
theorem oper_wp (hg : Good P ρ E) {o' : AOp} {next : Act → World → Prop} {Q : Exit → Act → World → Prop} {K : St → Option α} (hinv : Inv ρ S₀ w0 N s β B a w) (hm : matchOp ρ P N o.op o' = true)
    (h : (o'.step E s.fr s.Γ fun e => e.apply false o.dst s K) = some r) (hn : ∀ s' a' w', Inv' ρ S₀ w0 N s' a' w' → K s' = some r → next a' w') : o.wp P a w next Q := by
  refine sound_op (G := o.wp P a w next Q) hg hinv.rel hm h ⟨?_, ?_, ?_, ?_, ?_, ?_, ?_, ?_, ?_⟩
  · intro d v hk hv hrun
    unfold Oper.wp
    rw [hrun w (Below.refl _ _), Oper.upon_value]
    refine hn _ _ _ ?_ hk
    exact ⟨β, B, hinv.rel.put hv, hinv.below, hinv.given⟩
  · intro u v w' hk hrun hb hv
    unfold Oper.wp
    rw [hrun, Oper.upon_value]
    have h2 := hinv.grow hb
    refine hn _ _ _ ?_ hk
    exact ⟨β, B, h2.rel.put hv, h2.below, h2.given⟩
  · intro fl u f args hk _ hrun hcalls
    unfold Oper.wp
    rw [hrun w (Below.refl _ _), Oper.upon_enter]
    refine (hcalls w (Below.refl _ _)).mono fun e w'' he => ?_
    obtain ⟨v, rfl, hb, hv⟩ := he
    have h2 := hinv.grow hb
    refine hn _ _ _ ?_ hk
    refine ⟨β, B, h2.rel.put (d := .val u) (hv.val_mono (fun b hb' => ?_) (fun _ _ _ _ h => h)), h2.below, h2.given⟩
    rcases hb' with hb' | hb'
    · exact ⟨Nat.lt_of_lt_of_le hb'.1 hb.size, hb'.2, hb'.3⟩
    · exact ⟨hb'.2, fun R hR hm => by have := (hinv.rel.inside R hR b hm).2; omega, hinv.rel.fresh b (hinv.rel.low b hb'.1)⟩
  · intro d cs e hk hd hrun
    unfold Oper.wp
    rw [hrun, Oper.upon_value]
    simp only [Eff.apply] at hk
    split at hk
    · rename_i R _ hdst
      split at hk
      rotate_left
      · cases hk
      rename_i hlt
      have hb : Below w.heap.size w (w.alloc (.cells cs.toArray e)) := (Below.refl _ _).alloc (Nat.le_refl _) _
      have hnew := hinv.rel.new (w' := w.alloc (.cells cs.toArray e)) R (.box (d.purge R)) (.adr w.heap.size 0) [w.heap.size] hb.block hb.size (by simp) (fun S' hS' => by
        refine ⟨w.heap.size, cs, e, rfl, rfl, heap_alloc_new w _, ?_⟩
        have := DCs.purge (R := R) (β' := upd β R (.adr w.heap.size 0)) hd (fun R' hR' => upd_other β _ hR')
        exact this.mono hS' (fun b hb' => hb.block b hb'.1) (fun _ => rfl))
      rw [hdst]
      refine hn _ _ _ ?_ hk
      exact ⟨_, _, hnew.put (dst := some R) (d := .ptr R []) (VD_of_ptr (b := w.heap.size) (off := 0) (by rw [upd_same]; rfl)), hinv.below.trans (.of_below hb), given_upd hlt hinv.given fun R' hne h => by simpa [upd_other _ _ hne, Hp.purge] using h⟩
    · cases hk
  · intro k us f args hk hrun hcalls
    unfold Oper.wp
    rw [hrun w (Below.refl _ _), Oper.upon_enter]
    refine (hcalls w (Below.refl _ _)).mono fun e w'' he => ?_
    obtain ⟨v, rfl, hb, Bs, hBs, hroot⟩ := he
    simp only [Eff.apply] at hk
    split at hk
    · rename_i R _ hdst
      split at hk
      rotate_left
      · cases hk
      rename_i hlt
      have hnew := hinv.rel.new (w' := w'') R (.arr k us) (.vir v) Bs hb.block hb.size hBs (fun S' hS' => (hroot _).mono (fun _ h => h.elim) (fun _ _ => rfl) (fun _ _ => rfl) (fun _ => rfl))
      have hone : v.oneCell' = true := by
        rcases hroot β with ⟨_, h1, _⟩ | ⟨_, _, _, _, _, h1, _⟩ <;> (injection h1 with h1; rw [h1]; rfl)
      rw [hdst]
      refine hn _ _ _ ?_ hk
      exact ⟨_, _, hnew.put (dst := some R) (d := .ref R k none) (v := v) (VD_of_ref (v0 := v) (by rw [upd_same]) ⟨rfl, hone⟩), hinv.below.trans (.of_below hb), given_upd hlt hinv.given fun R' hne h => by simpa [upd_other _ _ hne, Hp.purge] using h⟩
    · cases hk
  · intro R k us u f args hk hR hrun hcalls
    unfold Oper.wp
    rw [hrun, Oper.upon_enter]
    refine hcalls.mono fun e w'' he => ?_
    obtain ⟨v, rfl, hv, hb, hroot⟩ := he
    obtain ⟨c0, hc0⟩ := Option.isSome_iff_exists.1 hR
    have hch := hinv.rel.changeG R (.arr k us) c0 hc0 hb.size hb.block ((hroot β).mono (fun _ h => h.elim) (fun _ _ => rfl) (fun _ _ => rfl) (fun _ => rfl))
    refine hn _ _ _ ?_ hk
    exact ⟨_, _, hch.put (d := .val u) (hv _ _), hinv.below.trans ⟨hb.os, hb.tape, hb.output, hb.size, fun b hlt hA => hb.block b hlt fun hm => hA (hinv.rel.inside R hR b hm).1⟩, fun R' h1 h2 => hinv.given R' h1 (by
      by_cases e : R' = R
      · rw [e]; exact hR
      · simpa [upd_other _ _ e] using h2)⟩
  · intro k us v w' hk hrun hb harr
    unfold Oper.wp
    rw [hrun, Oper.upon_value]
    simp only [Eff.apply] at hk
    split at hk
    · rename_i R _ hdst
      split at hk
      rotate_left
      · cases hk
      rename_i hlt
      obtain ⟨Bs, hBs, hroot⟩ := harr
      have hnew := hinv.rel.new (w' := w') R (.arr k us) (.vir v) Bs hb.block hb.size hBs (fun S' hS' => (hroot _).mono hS' (fun _ _ => rfl) (fun _ _ => rfl) (fun _ => rfl))
      have hone : v.oneCell' = true := by
        rcases hroot β with ⟨_, h1, _⟩ | ⟨_, _, _, _, _, h1, _⟩ <;> (injection h1 with h1; rw [h1]; rfl)
      rw [hdst]
      refine hn _ _ _ ?_ hk
      exact ⟨_, _, hnew.put (dst := some R) (d := .ref R k none) (v := v) (VD_of_ref (v0 := v) (by rw [upd_same]) ⟨rfl, hone⟩), hinv.below.trans (.of_below hb), given_upd hlt hinv.given fun R' hne h => by simpa [upd_other _ _ hne, Hp.purge] using h⟩
    · cases hk
  · intro R c w' hk hrun hR h1 h2 h3 h4 h5 hok
    unfold Oper.wp
    rw [hrun, Oper.upon_skip]
    obtain ⟨c0, hc0⟩ := Option.isSome_iff_exists.1 hR
    have hch := hinv.rel.change R c c0 hc0 h4 h5 hok
    refine hn _ _ _ ?_ hk
    exact ⟨_, _, hch.put (d := .skip) (v := Go.undef) rfl, Behind.chg hinv hR h1 h2 h3 (by rw [h4]; exact Nat.le_refl _) (fun b _ hb => h5 b hb), fun R' h1 h2 => hinv.given R' h1 (by
      by_cases e : R' = R
      · rw [e]; exact hR
      · simpa [upd_other _ _ e] using h2)⟩
  · intro R0 k us v w' Bs hk hrun hR h1 h2 h3 h4 h5 hBs hroot
    unfold Oper.wp
    rw [hrun, Oper.upon_value]
    simp only [Eff.apply] at hk
    split at hk
    · rename_i R _ hdst
      split at hk
      rotate_left
      · cases hk
      rename_i hlt
      have hsw := hinv.rel.swap (w' := w') R0 R hR (.arr k us) (.vir v) Bs h5 h4 hBs (fun S' hS' => (hroot _).mono hS' (fun _ _ => rfl) (fun _ _ => rfl) (fun _ => rfl))
      have hone : v.oneCell' = true := by
        rcases hroot β with ⟨_, h1, _⟩ | ⟨_, _, _, _, _, h1, _⟩ <;> (injection h1 with h1; rw [h1]; rfl)
      rw [hdst]
      refine hn _ _ _ ?_ hk
      exact ⟨_, _, hsw.put (dst := some R) (d := .ref R k none) (v := v) (VD_of_ref (v0 := v) (by rw [upd_same]) ⟨rfl, hone⟩), Behind.chg hinv hR h1 h2 h3 h4 h5, given_upd hlt hinv.given fun R' hne h => by
        by_cases e : R' = R0
        · rw [e]; exact hR
        · simpa [upd_other _ _ hne, Hp.purge, upd_other _ _ e] using h⟩
    · cases hk

theorem calls_some {f : FuncId} {args : Array Value} {R : Ending → World → Prop} (h : Calls P f args w R) : ∃ e w', R e w' := by
  obtain ⟨e, w', fr, hR, _⟩ := h []
  exact ⟨e, w', hR⟩

/-! ### Guards -/
def guardOK (N : Nat) (ops : Array Oper) : Option (Nat × Bool) → Option (Nat × Bool) → Bool
  | none, none => true
  | some (j, want), some (g, want') => want == want' && (ops[j]?).bind (·.dst) == some g && decide (g < N)
  | _, _ => false

theorem put_same {fr : Frm} {g : Nat} {d : D} (h : fr g = d) : fr.put (some g) d = fr := by
  funext i
  simp only [Frm.put, Option.some.injEq]
  split
  · rename_i e; rw [← e, h]
  · rfl

/-- Whether an operation is carried out. -/
theorem exec_guard {dr : Bool} {o' : AOper} {ops : Array Oper} {K : St → Option α} (hinv : Inv ρ S₀ w0 N s β B a w) (hgd : guardOK N ops o.guard o'.guard = true) (h : o'.exec dr E s K = some r) :
    (Region.wanted o (yielded ops a.tmps) = true ∧ (o'.op.step E s.fr s.Γ fun e => e.apply dr o'.dst s K) = some r) ∨ (Region.wanted o (yielded ops a.tmps) = false ∧ K ⟨s.fr.put o'.dst .skip, s.Γ⟩ = some r) := by
  unfold AOper.exec at h
  unfold guardOK at hgd
  unfold Region.wanted
  split at hgd
  · rename_i h1 h2
    rw [h2] at h
    rw [h1]
    exact .inl ⟨rfl, h⟩
  · rename_i j want g want' h1 h2
    simp only [Bool.and_eq_true, beq_iff_eq, decide_eq_true_eq] at hgd
    obtain ⟨⟨rfl, hj⟩, hlt⟩ := hgd
    rw [h2] at h
    rw [h1]
    have hslot := hinv.rel.slots g hlt
    have hget : (ops[j]?).bind (·.dst) = some g := hj
    have htmp : a.tmps[g]? = some (a.tmps.getD g Go.undef) := by
      have : g < a.tmps.size := by rw [hinv.rel.size]; exact hlt
      simp [Array.getD_eq_getD_getElem?, this]
    have hy : yielded ops a.tmps j = match a.tmps.getD g Go.undef with | .bool b => some b | _ => none := by
      unfold yielded
      rw [hget]
      simp only [Option.bind_some, htmp]
      generalize a.tmps.getD g Go.undef = x
      cases x <;> rfl
    simp only at h
    cases hs : s.fr g with
    | skip =>
      rw [hs] at h hslot
      have hv : a.tmps.getD g Go.undef = Go.undef := hslot
      refine .inr ⟨?_, h⟩
      simp only [hy, hv]
      rfl
    | val u =>
      rw [hs] at h hslot
      cases u with
      | bool b =>
        have hv := VD_bool hslot
        have hp : s.fr.put (some g) (.val (.bool b)) = s.fr := put_same hs
        simp only [hy, hv]
        cases b <;> cases want <;> simp only [U.asBool, hp, if_true, Bool.false_eq_true, if_false] at h <;> first | exact .inl ⟨by decide, h⟩ | exact .inr ⟨by decide, h⟩
      | _ => cases h
    | _ => rw [hs] at h; cases h
  · cases hgd

/-! ### Lists of operations -/
def matchOps (ρ : Nat → FuncId) (P : Program) (N : Nat) (ops : Array Oper) : List Oper → List AOper → Bool
  | [], [] => true
  | o :: os, o' :: os' => o.dst == o'.dst && guardOK N ops o.guard o'.guard && matchOp ρ P N o.op o'.op && matchOps ρ P N ops os os'
  | _, _ => false

theorem ops_wp (hg : Good P ρ E) {ops : Array Oper} {Q : Exit → Act → World → Prop} {K : St → Option α} : ∀ (os : List Oper) (os' : List AOper) (s : St) (a : Act) (w : World), matchOps ρ P N ops os os' = true → Inv' ρ S₀ w0 N s a w →
    execOps false E os' s K = some r → (∀ s' a' w', Inv' ρ S₀ w0 N s' a' w' → K s' = some r → Q .normal a' w') → wpList P ops Q os a w
  | [], [], s, a, w, _, hinv, h, hK => hK s a w hinv h
  | [], _ :: _, _, _, _, hm, _, _, _ => by cases hm
  | _ :: _, [], _, _, _, hm, _, _, _ => by cases hm
  | o :: os, o' :: os', s, a, w, hm, ⟨β, B, hinv⟩, h, hK => by
    simp only [matchOps, Bool.and_eq_true, beq_iff_eq] at hm
    obtain ⟨⟨⟨hdst, hgd⟩, hop⟩, hos⟩ := hm
    simp only [wpList]
    rcases exec_guard hinv hgd h with ⟨hw, h⟩ | ⟨hw, h⟩
    · rw [if_pos hw]
      left
      rw [← hdst] at h
      exact oper_wp hg hinv hop h fun s' a' w' hinv' h' => ops_wp hg os os' s' a' w' hos hinv' h' hK
    · rw [if_neg (by rw [hw]; simp)]
      rw [hdst]
      refine ops_wp hg os os' _ _ w hos ?_ h hK
      exact ⟨β, B, hinv.rel.put (d := .skip) (v := Go.undef) rfl, hinv.below, hinv.given⟩

/-! ### Regions -/
theorem region_wp (hg : Good P ρ E) {id : Nat} {ops : Array Oper} {os' : List AOper} {Q : Exit → Act → World → Prop} {K : St → Option α} (hm : matchOps ρ P N ops ops.toList os' = true) (hinv : Inv' ρ S₀ w0 N s a w)
    (h : execOps false E os' s K = some r) (hK : ∀ s' a' w', Inv' ρ S₀ w0 N s' a' w' → K s' = some r → Q .normal a' w') : (Code.region id ops false).wp P Q a w :=
  wp_region_list (ops_wp hg ops.toList os' s a w hm hinv h hK)

end
end Go.Proofs.YticokpflinlgbaaGreat.Am
