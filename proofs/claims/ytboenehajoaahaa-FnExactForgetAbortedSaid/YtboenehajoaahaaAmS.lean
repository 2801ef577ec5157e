import Derived.LoopN
import Derived.Test.YtboenehajoaahaaAmUc
import Derived.Test.YtboenehajoaahaaAmUd
namespace Go.Proofs.Ytboenehajoaahaa.Am
open Go Go.RowKit
section
variable {ρ : Nat → FuncId} {base : Nat → Prop} {F : Fm} {fr : Frm} {S₀ : Nat → Prop} {Γ : Hp} {β : Nat → Lay} {B : Nat → List Nat} {a : Act} {w0 : Org} {w : World} {s s' : St}
theorem Rel.retype (h : Rel ρ S₀ base F fr Γ β B a w) {n : Nat} {d : D} (hd : ∀ i, i < F.N → F.off + i = n → VD ρ w (Stands S₀ w Γ B) β d (a.tmps.getD i Go.undef)) (hb : ∀ x ∈ F.bg, x.1 = n → VD ρ w (Stands S₀ w Γ B) β d x.2) : Rel ρ S₀ base F (fr.put (some n) d) Γ β B a w := by
  refine ⟨h.size, h.defers, fun i hi => ?_, fun x hx => ⟨(h.back x hx).1, ?_⟩, h.roots, h.apart, h.inside, h.low, h.fresh⟩
  · simp only [Frm.put, Option.some.injEq]
    split
    · rename_i e
      exact hd i hi e.symm
    · exact h.slots i hi
  · simp only [Frm.put, Option.some.injEq]
    split
    · rename_i e
      exact hb x hx e.symm
    · exact (h.back x hx).2
theorem Rel.moveDead (h : Rel ρ S₀ base F fr Γ β B a w) {R0 nm : Nat} (hd : ¬ (β R0).live) (c : Cn) : Rel ρ S₀ base F (fr.retag (.move R0 [] nm)) (upd (Hp.retag (upd Γ R0 none) (.move R0 [] nm)) nm (some c)) (upd β nm ⟨.dead, noHdr⟩) (upd B nm []) a w := by
  have hsome : ∀ R', R' ≠ nm → (upd (Hp.retag (upd Γ R0 none) (.move R0 [] nm)) nm (some c) R').isSome = true → (Γ R').isSome = true ∧ R' ≠ R0 := fun R' hR h1 => by
    rw [Qa _ _ hR] at h1
    by_cases e : R' = R0
    · subst e; simp [Hp.retag] at h1
    · refine ⟨?_, e⟩
      simpa [Hp.retag, Qa _ _ e] using h1
  have htag : TagOK (.move R0 [] nm) β (upd β nm ⟨.dead, noHdr⟩) := by
    refine ⟨fun R' q v hv x hm => ?_, fun R' q b o hv x hm => ?_⟩
    · simp only [Tag.move] at hm
      split at hm
      · rename_i e; subst e; exact absurd (Lay.live_of_hdr hv) hd
      · split at hm
        · cases hm
        · rename_i hn; cases hm; rw [Qa _ _ hn]; exact hv
    · simp only [Tag.move] at hm
      split at hm
      · rename_i e; subst e; exact absurd (Lay.live_of_go hv) hd
      · split at hm
        · cases hm
        · rename_i hn; cases hm; rw [Qa _ _ hn]; exact hv
  refine h.chg ⟨Nat.le_refl _, fun _ _ => rfl, fun b hb R' hR' => ?_, htag, fun hS R' c' hR' hl => ?_, fun R1 R2 hne h1 h2 b hb1 hb2 => ?_, fun R' hR' b hb => ?_⟩
  · by_cases e : R' = nm
    · subst e; rw [Qd]; simp
    · rw [Qa _ _ e]; exact hb.own R' (hsome R' e hR').1
  · by_cases e : R' = nm
    · subst e
      rw [Qd] at hl
      exact absurd rfl hl
    · have h1 := hsome R' e (by rw [hR']; rfl)
      rw [Qa _ _ e] at hR' hl ⊢
      rw [Qa _ _ e]
      cases hg : Γ R' with
      | none => rw [hg] at h1; cases h1.1
      | some c0 =>
        simp only [Hp.retag, Qa _ _ h1.2, hg, Option.map_some, Option.some.injEq] at hR'
        subst hR'
        exact (h.roots R' c0 hg hl).retag hS (fun _ _ => rfl) (fun _ _ => rfl) htag
  · by_cases e1 : R1 = nm
    · subst e1; rw [Qd] at hb1; cases hb1
    · by_cases e2 : R2 = nm
      · subst e2; rw [Qd] at hb2; cases hb2
      · rw [Qa _ _ e1] at hb1
        rw [Qa _ _ e2] at hb2
        exact h.apart R1 R2 hne (hsome R1 e1 h1).1 (hsome R2 e2 h2).1 b hb1 hb2
  · by_cases e : R' = nm
    · subst e; rw [Qd] at hb; cases hb
    · rw [Qa _ _ e] at hb; exact h.inside R' (hsome R' e hR').1 b hb
theorem Inv'.rename (hinv : Inv' ρ S₀ w0 F s a w) {R0 nm : Nat} {d d' : D} (hnm : nm < 5000) (hg : s.Γ R0 = some (.vir d)) (himp : ∀ (S : Nat → Prop) (β : Nat → Lay) h cs B, TCs ρ w S β [(h, d.ex)] cs B → TCs ρ w S β [(h, d'.ex)] cs B) (hbare : ∀ m, d'.retag m = d') :
    Inv' ρ S₀ w0 F ⟨s.fr.retag (.move R0 [] nm), upd (Hp.retag (upd s.Γ R0 none) (.move R0 [] nm)) nm (some (.vir d'))⟩ a w := by
  obtain ⟨β, B, hi⟩ := hinv
  have hgiven : ∀ L, Given w0.Γ w0.β (upd (Hp.retag (upd s.Γ R0 none) (.move R0 [] nm)) nm (some (.vir d'))) (upd β nm L) := fun L R hR hs => by
    have hne : R ≠ nm := by omega
    rw [Qa _ _ hne] at hs ⊢
    by_cases e : R = R0
    · subst e; simp [Hp.retag] at hs
    · exact hi.given R hR (by simpa [Hp.retag, Qa _ _ e] using hs)
  by_cases hl : (β R0).live
  · obtain ⟨cs, hp, t⟩ := hi.rel.parts.pullAll hg hl
    rw [List.nil_append] at hp
    have hroot := hi.rel.roots R0 _ hg hl
    obtain ⟨hn, cs1, hvir, _⟩ := hroot
    have htag : TagOK (.move R0 [] nm) β (upd β nm ⟨.vir, (β R0).h.sub []⟩) := by
      by_cases e : R0 = nm
      · subst e
        have : (⟨.vir, (β R0).h.sub []⟩ : Lay) = β R0 := by
          have h2 : (β R0).h.sub [] = (β R0).h := rfl
          rw [h2, ← hvir]
        rw [this, Qcq]
        exact TagOK.stay
      · exact TagOK.move e
    have hrel := hi.rel.setP (w' := w) hp nm (.vir d') ⟨.vir, (β R0).h.sub []⟩ (B R0) (fun _ => False) htag (Nat.le_refl _) (fun _ _ _ => rfl) (fun _ h => h.elim)
      (fun b hb => .inl ⟨(hp.out b hb).1, fun R' _ hR' => (hp.out b hb).2 R' hR'⟩) (fun S' hS' => ⟨hn, cs, rfl, by
        have := (himp _ _ _ _ _ t).retag (w' := w) hS' (fun _ _ => rfl) (fun _ _ => rfl) htag
        simp only [List.map_cons, List.map_nil] at this
        rw [← Qav, hbare] at this
        exact this⟩)
    exact ⟨_, _, ⟨hrel, hi.below, hgiven _⟩⟩
  · exact ⟨_, _, ⟨hi.rel.moveDead hl _, hi.below, hgiven _⟩⟩
theorem Qd9 : ∀ (as : List (Nat × Nat × Bool)) (s s' : St), Inv' ρ S₀ w0 F s a w → adoptO as s = some s' → Inv' ρ S₀ w0 F s' a w
  | [], s, s', hinv, h => by
    cases h
    exact hinv
  | (n, k, o) :: as, s, s', hinv, h => by
    unfold adoptO at h
    simp only [adoptAs] at h
    split at h
    rotate_left
    · cases h
    rename_i hn4
    split at h
    · rename_i R0 k' hsl
      split at h
      · rename_i d hR0
        split at h
        rotate_left
        · cases h
        rename_i hkk
        subst hkk
        split at h
        · rename_i k2 us
          split at h
          · rename_i hk2
            subst hk2
            exact Qd9 as _ s' (hinv.rename (by omega) hR0 (fun _ _ _ _ _ t => t) (fun _ => rfl)) h
          · cases h
        · rw [Qaf] at h
          obtain ⟨u, hu, h⟩ := Option.bind_eq_some_iff.1 h
          cases u with
          | sl k2 us =>
            simp only [U.asSlK] at h
            split at h
            · rename_i hk2
              subst hk2
              exact Qd9 as _ s' (hinv.rename (d' := .own (.sl _ us)) (by omega) hR0 (fun S β h cs B t => (Qak (ρ := ρ) (w := w) (S := S) (β := β) _ _ hu).2 h cs B t) (fun _ => rfl)) h
            · cases h
          | _ => cases h
        · cases h
      · cases h
    · rename_i u hsl
      cases u with
      | nsl k' =>
        simp only [U.asNsl] at h
        split at h
        rotate_left
        · cases h
        rename_i hkk
        subst hkk
        obtain ⟨β, B, hi⟩ := hinv
        have hex : ∀ o : Bool, (if o then D.own (.sl k' []) else .asl k' []).ex = .osl k' [] := fun o => by cases o <;> rfl
        have hrel := hi.rel.setP (w' := w) hi.rel.parts (1000 + n) (.vir (if o then .own (.sl k' []) else .asl k' [])) ⟨.vir, mkE (.slice none 0 0) []⟩ [] (fun _ => False) (TagOK.purge (R := 1000 + n) fun R' hR _ => Qa β _ hR) (Nat.le_refl _) (fun _ _ _ => rfl) (fun _ h => h.elim)
          (fun b hb => by cases hb) (fun S' hS' => ⟨List.nodup_nil, [.slice none 0 0], rfl, by rw [hex]; exact .osl0 rfl .nil⟩)
        have hvd : ∀ {S : Nat → Prop} {v : Value}, VD ρ w S β (.val (.nsl k')) v → ∀ S', VD ρ w S' (upd β (1000 + n) ⟨.vir, mkE (.slice none 0 0) []⟩) (.ref (1000 + n) [] k' none) v := fun hv S' =>
          Qcr (v0 := .slice none 0 0) (by rw [Qd]; rfl) ⟨Qar hv, by rw [Qar hv]; rfl⟩
        refine Qd9 as _ s' ⟨_, _, ⟨hrel.retype (fun i hi' e => ?_) (fun x hx e => ?_), hi.below, fun R hR hs => ?_⟩⟩ h
        · have h1 := hi.rel.slots i hi'
          rw [e, hsl] at h1
          exact hvd h1 _
        · have h1 := (hi.rel.back x hx).2
          rw [e, hsl] at h1
          exact hvd h1 _
        · have hne : R ≠ 1000 + n := by omega
          have hs1 : (upd (Hp.retag s.Γ (Tag.purge (1000 + n))) (1000 + n) (some (Cn.vir (if o = true then D.own (U.sl k' []) else D.asl k' []))) R).isSome = true := hs
          rw [Qa _ _ hne] at hs1 ⊢
          exact hi.given R hR (by simpa [Hp.retag] using hs1)
      | _ => cases h
    · cases h
theorem Rel.content (h : Rel ρ S₀ base F fr Γ β B a w) {R : Nat} {c c' : Cn} (hc : Γ R = some c) (hok : ∀ S, (β R).live → RootOK ρ w S β c (β R) (B R) → RootOK ρ w S β c' (β R) (B R)) : Rel ρ S₀ base F fr (upd Γ R (some c')) β B a w := by
  have hsome : ∀ R', (upd Γ R (some c') R').isSome = (Γ R').isSome := fun R' => by
    by_cases e : R' = R
    · subst e; rw [Qd, hc]; rfl
    · rw [Qa _ _ e]
  refine h.chg0 ⟨Nat.le_refl _, fun _ _ => rfl, fun b hb R' hR' => hb.own R' (by rw [← hsome]; exact hR'), TagOK.same fun _ _ => rfl, fun hS R' c0 hR' hl => ?_, fun R1 R2 hne h1 h2 => h.apart R1 R2 hne (by rw [← hsome]; exact h1) (by rw [← hsome]; exact h2), fun R' hR' => h.inside R' (by rw [← hsome]; exact hR')⟩
  by_cases e : R' = R
  · subst e
    rw [Qd] at hR'
    cases hR'
    exact hok _ hl ((h.roots R' c hc hl).mono hS (fun _ _ => rfl) (fun _ _ => rfl) (fun _ _ => rfl))
  · rw [Qa _ _ e] at hR'
    exact (h.roots R' c0 hR' hl).mono hS (fun _ _ => rfl) (fun _ _ => rfl) (fun _ _ => rfl)
theorem Qgt : ∀ (rs : List (Nat × Bool)) (Γ Γ' : Hp), Inv' ρ S₀ w0 F ⟨fr, Γ⟩ a w → ownRsO rs Γ = some Γ' → Inv' ρ S₀ w0 F ⟨fr, Γ'⟩ a w
  | [], Γ, Γ', hinv, h => by
    cases h
    exact hinv
  | (R, false) :: rs, Γ, Γ', hinv, h => Qgt rs Γ Γ' hinv h
  | (R, true) :: rs, Γ, Γ', ⟨β, B, hi⟩, h => by
    unfold ownRsO at h
    simp only [ownRs] at h
    split at h
    rotate_left
    · cases h
    rename_i c hc
    obtain ⟨d, hd, h⟩ := Qfv h
    rw [Qaf] at h
    obtain ⟨u, hu, h⟩ := Option.bind_eq_some_iff.1 h
    refine Qgt rs _ Γ' ⟨β, B, ⟨hi.rel.content hc (fun S hl hr => ?_), hi.below, hi.given.sub fun R' hR' => ?_⟩⟩ h
    · cases c with
      | held t => cases hd
      | box d0 =>
        cases hd
        obtain ⟨hn, b, cs, e, Bs, h1, h2, h3, h4⟩ := hr
        exact ⟨hn, b, cs, e, Bs, h1, h2, (Qak (ρ := ρ) (w := w) (S := S) (β := β) _ _ hu).2 _ _ _ h3, h4⟩
      | vir d0 =>
        cases hd
        obtain ⟨hn, cs, h1, h2⟩ := hr
        exact ⟨hn, cs, h1, (Qak (ρ := ρ) (w := w) (S := S) (β := β) _ _ hu).2 _ _ _ h2⟩
    · by_cases e : R' = R
      · show (Γ R').isSome = true
        rw [e, hc]; rfl
      · simpa [Qa _ _ e] using hR'
def PartSt (st s : St) : Prop := (∀ i, st.fr i = s.fr i ∨ st.fr i = .undef) ∧ ∀ R, st.Γ R = s.Γ R ∨ st.Γ R = none
theorem Qnl : ∀ (ss : List Nat) (fr : Frm), (∀ i, fr i = s.fr i ∨ fr i = .undef) → ∀ i, unpackFr ss (ss.map s.fr) fr i = s.fr i ∨ unpackFr ss (ss.map s.fr) fr i = .undef
  | [], fr, h, i => h i
  | n :: ss, fr, h, i => by
    simp only [List.map_cons, unpackFr, Frm.put, Option.some.injEq]
    split
    · rename_i e; left; rw [e]
    · exact Qnl ss fr h i
theorem Qnk : ∀ (as : List (Nat × Nat × Bool)) (qs cs : List Cn) (st : St), takeArrs s as = some qs → PartSt st s → (unpackAs as (qs ++ cs) st).2 = cs ∧ PartSt (unpackAs as (qs ++ cs) st).1 s
  | [], qs, cs, st, h, hp => by
    simp only [takeArrs, Option.some.injEq] at h
    subst h
    exact ⟨rfl, hp⟩
  | (n, k, o) :: as, qs, cs, st, h, hp => by
    simp only [takeArrs] at h
    split at h
    · rename_i R k' hsl
      split at h
      · rename_i hc
        obtain ⟨rfl, rfl⟩ := hc
        simp only [Option.bind_eq_some_iff, Option.map_eq_some_iff] at h
        obtain ⟨c, hc, qs', hqs, rfl⟩ := h
        obtain ⟨h1, h2, h3⟩ := Qnk as qs' cs st hqs hp
        refine ⟨h1, fun i => ?_, fun R => ?_⟩
        · simp only [unpackAs, List.cons_append, Frm.put, Option.some.injEq]
          split
          · rename_i e; left; rw [← e, hsl]
          · exact h2 i
        · simp only [unpackAs, List.cons_append]
          by_cases e : R = 1000 + n
          · subst e; left; rw [Qd, hc]
          · rw [Qa _ _ e]; exact h3 R
      · cases h
    · cases h
theorem Qnn : ∀ (rs : List (Nat × Bool)) (cs : List Cn) (Γ : Hp), takeRoots s.Γ rs = some cs → (∀ R, Γ R = s.Γ R ∨ Γ R = none) → ∀ R, unpackRs rs cs Γ R = s.Γ R ∨ unpackRs rs cs Γ R = none
  | [], cs, Γ, h, hp, R => by
    simp only [takeRoots, Option.some.injEq] at h
    subst h
    exact hp R
  | (R0, o) :: rs, cs, Γ, h, hp, R => by
    simp only [takeRoots, Option.bind_eq_some_iff, Option.map_eq_some_iff] at h
    obtain ⟨c, hc, cs', hcs, rfl⟩ := h
    simp only [unpackRs]
    by_cases e : R = R0
    · subst e; left; rw [Qd, hc]
    · rw [Qa _ _ e]; exact Qnn rs cs' Γ hcs hp R
theorem Qgu {l : Live} {p : Packed} (hinv : Inv' ρ S₀ w0 F s a w) (h : packO l s = some p) : Inv' ρ S₀ w0 F (unpack l p) a w := by
  simp only [packO, pack, Qid, Qng, Option.bind_eq_some_iff, Option.some.injEq] at h
  obtain ⟨s1, h1, Γ1, h0, qs, h2, cs, h3, rfl⟩ := h
  obtain ⟨β, B, hinv1⟩ := Qgt l.rs s1.Γ Γ1 (fr := s1.fr) (Qd9 l.as s s1 hinv h1) h0
  have hfr := Qnl (s := ⟨s1.fr, Γ1⟩) l.ss (fun _ => .undef) (fun _ => .inr rfl)
  obtain ⟨h4, h5⟩ := Qnk (s := ⟨s1.fr, Γ1⟩) l.as qs cs ⟨unpackFr l.ss (l.ss.map s1.fr) fun _ => .undef, fun _ => none⟩ h2 ⟨hfr, fun _ => .inr rfl⟩
  have hrs := Qnn (s := ⟨s1.fr, Γ1⟩) l.rs cs _ h3 h5.2
  have hg : ∀ R, (unpack l (l.ss.map s1.fr, qs ++ cs)).Γ R = Γ1 R ∨ (unpack l (l.ss.map s1.fr, qs ++ cs)).Γ R = none := by
    simp only [unpack]
    rw [h4]
    exact hrs
  refine ⟨β, B, ⟨hinv1.rel.keep _ _ ?_ hg, hinv1.below, hinv1.given.sub fun R h7 => ?_⟩⟩
  · exact h5.1
  · rcases hg R with e | e
    · show (Γ1 R).isSome = true
      rw [← e]; exact h7
    · rw [e] at h7; cases h7
end
theorem least {Φ : Nat → Prop} (h : ∃ n, Φ n) : ∃ n, Φ n ∧ ∀ m, Φ m → n ≤ m := by
  obtain ⟨n, hn⟩ := h
  induction n using Nat.strongRecOn with
  | _ n ih =>
    by_cases hl : ∃ m, m < n ∧ Φ m
    · obtain ⟨m, h1, h2⟩ := hl
      exact ih m h1 h2
    · exact ⟨n, hn, fun m hm => Nat.le_of_not_lt fun hlt => hl ⟨m, hlt, hm⟩⟩
inductive Tgt where
  | code (c : Code)
  | rest (ops : Array Oper) (os : List Oper)
def Tgt.wp (P : Program) (Q : Exit → Act → World → Prop) : Tgt → Act → World → Prop
  | .code c => c.wp P Q
  | .rest ops os => wpList P ops Q os
def resTmps : List ResultVar → List Nat → Bool
  | [], [] => true
  | .tmp t :: rs, t' :: rs' => t == t' && resTmps rs rs'
  | _, _ => false
theorem Qn5 : ∀ {rvs : List ResultVar} {rs : List Nat}, resTmps rvs rs = true → rvs = rs.map ResultVar.tmp
  | [], [], _ => rfl
  | [], _ :: _, h => by cases h
  | .tmp _ :: _, [], h => by cases h
  | .cell _ _ :: _, [], h => by cases h
  | .cell _ _ :: _, _ :: _, h => by cases h
  | .tmp t :: rvs, t' :: rs, h => by
    simp only [resTmps, Bool.and_eq_true, beq_iff_eq] at h
    rw [h.1, Qn5 h.2]
    rfl
def retV (tmps : Array Value) : List Nat → Value
  | [r] => tmps.getD r Go.undef
  | rs => .tuple (rs.map fun r => tmps.getD r Go.undef).toArray
def matchInl (ρ : Nat → FuncId) (P : Program) (N : Nat × Nat) (c : Inl) (o : Oper) : Option Code := match o.op, o.guard with
  | .call ⟨.value (.func f), args, _⟩, none => match P.funcs[f]? with
    | some fn => if (c.dst == o.dst.map (N.1 + ·) && opdsOK ρ N args.toList c.args && decide (N.1 + N.2 ≤ c.off) && callOK P f && fn.ntmps == c.N && decide (c.args.length ≤ c.N) && resTmps fn.results.toList c.rs && c.rs.all fun r => decide (r < c.N)) = true then fn.body else none
    | none => none
  | _, _ => none
def matchAC (ρ : Nat → FuncId) (P : Program) : AC → Nat × Nat → Tgt → Bool
  | .skip, _, .code .skip => true
  | .region k ops', N, .code (.region _ ops dr) => match dr with
    | false => k == 0 && matchOps ρ P N ops ops.toList ops'
    | true => (drawB .any ops k (ops'.take k) && matchOps ρ P N ops (ops.toList.take k) (ops'.take k) && matchOps ρ P N ops (ops.toList.drop k) (ops'.drop k)) ||
      (lateB .any ops k ops' && matchOps ρ P N ops (ops.toList.take (k + 1)) (lateOps ops' k) && matchOps ρ P N ops (ops.toList.drop (k + 1)) (ops'.drop (k + 1)))
  | .region k ops', N, .rest ops os => k == 0 && matchOps ρ P N ops os ops'
  | .regI k ops' c body more, N, .code (.region _ ops dr) => (match dr with
    | false => k == 0
    | true => drawB .any ops k (ops'.take k) && matchOps ρ P N ops (ops.toList.take k) (ops'.take k)) &&
      matchOps ρ P N ops ((ops.toList.drop k).take (ops'.drop k).length) (ops'.drop k) && (match (ops.toList.drop k).drop (ops'.drop k).length with
        | o :: os => (match matchInl ρ P N c o with | some cd => matchAC ρ P body (c.off, c.N) (.code cd) | none => false) && matchAC ρ P more N (.rest ops os)
        | [] => false)
  | .regI k ops' c body more, N, .rest ops os => k == 0 && matchOps ρ P N ops (os.take ops'.length) ops' && (match os.drop ops'.length with
        | o :: os => (match matchInl ρ P N c o with | some cd => matchAC ρ P body (c.off, c.N) (.code cd) | none => false) && matchAC ρ P more N (.rest ops os)
        | [] => false)
  | .regN k M prs ps ops', N, .code (.region _ ops dr) => dr && anyNB .any ops k M prs ps ops' && matchOps ρ P N ops (ops.toList.take k) (ops'.take k) && matchOps ρ P N ops (ops.toList.drop k) (ops'.drop k)
  | .regC k _ ops', N, .code (.region _ ops dr) => dr && chainB .any ops k ops' && matchOps ρ P N ops (ops.toList.take k) (ops'.take k) && matchOps ρ P N ops (ops.toList.drop k) (ops'.drop k)
  | .regD k _ prs _ _ ops', N, .code (.region _ ops dr) => dr && partB .any ops k prs ops' && matchOps ρ P N ops (ops.toList.take k) (ops'.take k) && matchOps ρ P N ops (ops.toList.drop k) (ops'.drop k)
  | .seq a' b', N, .code (.seq a b) => matchAC ρ P a' N (.code a) && matchAC ρ P b' N (.code b)
  | .cond c' a' b', N, .code (.cond c a b) => opdOK ρ N c c' && matchAC ρ P a' N (.code a) && matchAC ρ P b' N (.code b)
  | .block id' c', N, .code (.block id c) => id == id' && matchAC ρ P c' N (.code c)
  | .loop _ c', N, .code (.loop c) => matchAC ρ P c' N (.code c)
  | .loopU _ c', N, .code (.loop c) => matchAC ρ P c' N (.code c)
  | .exit id', _, .code (.exit id) => id == id'
  | .ret, _, .code .ret => true
  | _, _, _ => false
def Ex.to : Ex → Exit
  | .normal => .normal
  | .exit id => .exit id
  | .ret => .ret
section
variable {α : Type} {P : Program} {ρ : Nat → FuncId} {S₀ : Nat → Prop} {w0 : Org} {E : Env} {r : α}
def Fm.inner (F : Fm) (c : Inl) (a : Act) : Fm := ⟨c.off, c.N, (List.range F.N).map (fun i => (F.off + i, a.tmps.getD i Go.undef)) ++ F.bg⟩
theorem Qm6 {F : Fm} : ∀ {xs : List Operand} {xs' : List Opd}, opdsOK ρ F.wd xs xs' = true → xs.length = xs'.length ∧ ∀ (i : Nat) x', xs'[i]? = some x' → ∃ x, xs[i]? = some x ∧ opdOK ρ F.wd x x' = true
  | [], [], _ => ⟨rfl, fun i x' h => by simp at h⟩
  | [], _ :: _, h => by cases h
  | _ :: _, [], h => by cases h
  | x :: xs, x' :: xs', h => by
    simp only [opdsOK, Bool.and_eq_true] at h
    obtain ⟨h1, h2⟩ := Qm6 h.2
    refine ⟨by simp [h1], fun i y hy => ?_⟩
    cases i with
    | zero =>
      simp only [List.getElem?_cons_zero, Option.some.injEq] at hy
      subst hy
      exact ⟨x, rfl, h.1⟩
    | succ i =>
      simp only [List.getElem?_cons_succ] at hy ⊢
      exact h2 i y hy
theorem Qql {F : Fm} {c : Inl} {s : St} {a : Act} {w : World} {args : List Operand} (hinv : Inv' ρ S₀ w0 F s a w) (hx : opdsOK ρ F.wd args c.args = true) (hoff : F.off + F.N ≤ c.off) (hl : c.args.length ≤ c.N) :
    Inv' ρ S₀ w0 (F.inner c a) (c.enter s) { tmps := (args.map a.eval).toArray ++ Array.replicate (c.N - (args.map a.eval).toArray.size) Go.undef, defers := [] } w := by
  obtain ⟨β, B, hi⟩ := hinv
  obtain ⟨hlen, hget⟩ := Qm6 hx
  refine ⟨β, B, ⟨⟨?_, rfl, fun i hi' => ?_, fun x hx' => ?_, hi.rel.roots, hi.rel.apart, hi.rel.inside, hi.rel.low, hi.rel.fresh⟩, hi.below, hi.given⟩⟩
  · simp [Fm.inner]; omega
  · have e1 : (c.enter s).fr (c.off + i) = match (evs s.fr c.args)[i]? with | some d => d | none => .skip := by
      simp only [Inl.enter]
      rw [if_neg (by omega), Nat.add_sub_cancel_left]
      cases (evs s.fr c.args)[i]? <;> rfl
    have e2 : ((args.map a.eval).toArray ++ Array.replicate (c.N - (args.map a.eval).toArray.size) Go.undef).getD i Go.undef = ((args.map a.eval) ++ List.replicate (c.N - args.length) Go.undef)[i]?.getD Go.undef := by
      rw [Array.getD_eq_getD_getElem?]
      congr 1
      rw [← Array.getElem?_toList]
      simp
    show VD ρ w _ β ((c.enter s).fr (c.off + i)) _
    rw [e1, e2]
    cases hc : c.args[i]? with
    | none =>
      have h1 : (evs s.fr c.args)[i]? = none := by simp [evs, hc]
      rw [h1]
      have h2 : (List.map a.eval args ++ List.replicate (c.N - args.length) Go.undef)[i]?.getD Go.undef = Go.undef := by
        have : c.args.length ≤ i := List.getElem?_eq_none_iff.1 hc
        rw [List.getElem?_append_right (by simp; omega), List.getElem?_replicate]
        split <;> rfl
      rw [h2]
      rfl
    | some x' =>
      obtain ⟨x, hx1, hx2⟩ := hget i x' hc
      have h1 : (evs s.fr c.args)[i]? = some (x'.ev s.fr) := by simp [evs, hc]
      rw [h1]
      have h2 : (List.map a.eval args ++ List.replicate (c.N - args.length) Go.undef)[i]?.getD Go.undef = a.eval x := by
        have : i < args.length := (List.getElem?_eq_some_iff.1 hx1).1
        rw [List.getElem?_append_left (by simpa using this)]
        simp [hx1]
      rw [h2]
      exact hi.rel.opd hx2
  · simp only [Fm.inner, List.mem_append, List.mem_map, List.mem_range] at hx'
    rcases hx' with ⟨i, hi', rfl⟩ | hx'
    · refine ⟨by show F.off + i < c.off; omega, ?_⟩
      simp only [Inl.enter]
      rw [if_pos (by omega)]
      exact hi.rel.slots i hi'
    · obtain ⟨h1, h2⟩ := hi.rel.back x hx'
      refine ⟨by show x.1 < c.off; omega, ?_⟩
      simp only [Inl.enter]
      rw [if_pos (by omega)]
      exact h2
theorem Qwh {F : Fm} {c : Inl} {s' : St} {a a' : Act} {w' : World} (ha : a.tmps.size = F.N) (hd : a.defers = []) (hinv : Inv' ρ S₀ w0 (F.inner c a) s' a' w') {d : D} {v : Value} (hF : ∀ x ∈ F.bg, x.1 < F.off)
    (hv : ∀ S β, (∀ i, i < c.N → VD ρ w' S β (s'.fr (c.off + i)) (a'.tmps.getD i Go.undef)) → VD ρ w' S β d v) {dst : Option Nat} : Inv' ρ S₀ w0 F ⟨s'.fr.put (F.dst dst) d, s'.Γ⟩ (a.put dst v) w' := by
  obtain ⟨β, B, hi⟩ := hinv
  have hrel : Rel ρ S₀ w0.may F s'.fr s'.Γ β B a w' :=
    ⟨ha, hd, fun i hi' => (hi.rel.back (F.off + i, a.tmps.getD i Go.undef) (by simp only [Fm.inner, List.mem_append, List.mem_map, List.mem_range]; exact .inl ⟨i, hi', rfl⟩)).2,
      fun x hx => ⟨hF x hx, (hi.rel.back x (by simp only [Fm.inner, List.mem_append]; exact .inr hx)).2⟩, hi.rel.roots, hi.rel.apart, hi.rel.inside, hi.rel.low, hi.rel.fresh⟩
  exact ⟨β, B, ⟨hrel.put (hv _ _ hi.rel.slots), hi.below, hi.given⟩⟩
theorem Qxu {fn : Func} {rs : List Nat} (h : fn.results.toList = rs.map ResultVar.tmp) (a : Act) (w : World) :
    (Go.results fn a.tmps).run P w = .ok (retV a.tmps rs) w := by
  have e0 : Go.results fn a.tmps = (do let vs ← fn.results.mapM (fun rv => match rv with | .tmp t => pure (a.tmps.getD t Go.undef) | .cell c t => do loadVar t (← asAddr (a.tmps.getD c Go.undef))); pure (if h : vs.size = 1 then vs[0] else .tuple vs)) := by
    unfold Go.results
    congr 1
  rw [e0, Array.mapM_eq_mapM_toList, h]
  have key : ∀ rs : List Nat, ((rs.map ResultVar.tmp).mapM (fun rv => match rv with | .tmp t => pure (a.tmps.getD t Go.undef) | .cell c t => do loadVar t (← asAddr (a.tmps.getD c Go.undef)) : ResultVar → Sem Value)).run P w = .ok (rs.map fun r => a.tmps.getD r Go.undef) w := by
    intro rs
    induction rs with
    | nil => rfl
    | cons r rs ih => simp only [List.map_cons, List.mapM_cons, Sem.run_bind, Sem.run_pure, Result.andThen_ok, ih]
  match rs with
  | [] => simp [retV]
  | [r] => simp [retV]
  | r1 :: r2 :: rs =>
    have := key (r1 :: r2 :: rs)
    simp only [Sem.run_map, Sem.run_bind, this, Result.andThen_ok, Sem.run_pure]
    simp [retV]
theorem Qww {F : Fm} {c : Inl} {o : Oper} {cd : Code} (h : matchInl ρ P F.wd c o = some cd) :
    ∃ f args tys fn, o.op = .call ⟨.value (.func f), args, tys⟩ ∧ o.guard = none ∧ P.funcs[f]? = some fn ∧ c.dst = F.dst o.dst ∧ opdsOK ρ F.wd args.toList c.args = true ∧ F.off + F.N ≤ c.off ∧ callOK P f = true ∧ fn.ntmps = c.N ∧ c.args.length ≤ c.N ∧
      fn.results.toList = c.rs.map ResultVar.tmp ∧ (∀ r ∈ c.rs, r < c.N) ∧ fn.body = some cd := by
  unfold matchInl at h
  split at h
  · rename_i f args tys h1 h2
    split at h
    · rename_i fn hfn
      split at h
      · rename_i hc
        simp only [Bool.and_eq_true, beq_iff_eq, decide_eq_true_eq, List.all_eq_true] at hc
        obtain ⟨⟨⟨⟨⟨⟨⟨c1, c2⟩, c3⟩, c4⟩, c5⟩, c6⟩, c7⟩, c8⟩ := hc
        exact ⟨f, args, tys, fn, h1, h2, hfn, c1, c2, c3, c4, c5, c6, Qn5 c7, c8, h⟩
      · cases h
    · cases h
  · cases h
theorem Qh7 {S : Nat → Prop} {β : Nat → Lay} {w : World} {g : Nat → D} {gv : Nat → Value} : ∀ (rs : List Nat), (∀ r ∈ rs, V1 ρ w S β (g r) (gv r)) → V1s ρ w S β (rs.map g) (rs.map gv)
  | [], _ => rfl
  | r :: rs, h => ⟨gv r, _, rfl, h r (by simp), Qh7 rs fun r' hr' => h r' (by simp [hr'])⟩
theorem Qwi {c : Inl} {K : St → Option α} {e : Ex} {s' : St} (h : c.leave K e s' = some r) : (∀ id, e ≠ .exit id) ∧ ∃ d, K ⟨s'.fr.put c.dst d, s'.Γ⟩ = some r ∧
    ∀ (w : World) (S : Nat → Prop) (β : Nat → Lay) (a' : Act), (∀ i ∈ c.rs, VD ρ w S β (s'.fr (c.off + i)) (a'.tmps.getD i Go.undef)) → VD ρ w S β d (retV a'.tmps c.rs) := by
  have main : (match c.rs with
    | [r] => if partable (s'.fr (c.off + r)) = true then K ⟨s'.fr.put c.dst (s'.fr (c.off + r)), s'.Γ⟩ else none
    | rs => if (rs.map fun r => s'.fr (c.off + r)).all partable = true then K ⟨s'.fr.put c.dst (.tup (rs.map fun r => s'.fr (c.off + r))), s'.Γ⟩ else none) = some r →
      ∃ d, K ⟨s'.fr.put c.dst d, s'.Γ⟩ = some r ∧ ∀ (w : World) (S : Nat → Prop) (β : Nat → Lay) (a' : Act), (∀ i ∈ c.rs, VD ρ w S β (s'.fr (c.off + i)) (a'.tmps.getD i Go.undef)) → VD ρ w S β d (retV a'.tmps c.rs) := by
    generalize c.rs = rs
    have gen : ∀ rs : List Nat, (if (rs.map fun r => s'.fr (c.off + r)).all partable = true then K ⟨s'.fr.put c.dst (.tup (rs.map fun r => s'.fr (c.off + r))), s'.Γ⟩ else none) = some r →
        ∃ d, K ⟨s'.fr.put c.dst d, s'.Γ⟩ = some r ∧ ∀ (w : World) (S : Nat → Prop) (β : Nat → Lay) (a' : Act), (∀ i ∈ rs, VD ρ w S β (s'.fr (c.off + i)) (a'.tmps.getD i Go.undef)) → VD ρ w S β d (.tuple (rs.map fun r => a'.tmps.getD r Go.undef).toArray) := fun rs h => by
      split at h
      · rename_i hp
        refine ⟨_, h, fun w S β a' hs => ⟨_, rfl, Qh7 rs fun r hr => ?_⟩⟩
        rw [List.all_map, List.all_eq_true] at hp
        exact ((hs r hr).v1p (hp r hr)).1
      · cases h
    match rs with
    | [] => exact gen []
    | [r0] =>
      intro h
      simp only at h
      split at h
      · exact ⟨_, h, fun w S β a' hs => hs r0 (by simp)⟩
      · cases h
    | r1 :: r2 :: rs => exact gen (r1 :: r2 :: rs)
  cases e with
  | exit id => cases h
  | normal => exact ⟨fun id e => (by cases e), main h⟩
  | ret => exact ⟨fun id e => (by cases e), main h⟩
def CodeWp (α : Type) (P : Program) (ρ : Nat → FuncId) (S₀ : Nat → Prop) (w0 : Org) (E : Env) (r : α) (ac : AC) : Prop :=
  ∀ (F : Fm) (t : Tgt) (s : St) (a : Act) (w : World) (K : Ex → St → Option α) (Q : Exit → Act → World → Prop), matchAC ρ P ac F.wd t = true → Inv' ρ S₀ w0 F s a w →
    exec E ac s K = some r → (∀ e s' a' w', Inv' ρ S₀ w0 F s' a' w' → K e s' = some r → Q e.to a' w') → t.wp P Q a w
theorem Qgf (hg : Good P ρ E) {c : Inl} {body more : AC} (ihb : CodeWp α P ρ S₀ w0 E r body) (ihm : CodeWp α P ρ S₀ w0 E r more) {F : Fm} {ops : Array Oper} {os : List Oper} {ops' : List AOper} {s : St} {a : Act} {w : World} {K : Ex → St → Option α} {Q : Exit → Act → World → Prop}
    (hm : matchOps ρ P F.wd ops (os.take ops'.length) ops' = true) (hc : (match os.drop ops'.length with
        | o :: os => (match matchInl ρ P F.wd c o with | some cd => matchAC ρ P body (c.off, c.N) (.code cd) | none => false) && matchAC ρ P more F.wd (.rest ops os)
        | [] => false) = true) (hinv : Inv' ρ S₀ w0 F s a w)
    (h : execOps false E ops' s (fun s => exec E body (c.enter s) (c.leave fun s => exec E more s K)) = some r) (hK : ∀ e s' a' w', Inv' ρ S₀ w0 F s' a' w' → K e s' = some r → Q e.to a' w') : wpList P ops Q os a w := by
  have front : ∀ (os1 os2 : List Oper) (ops' : List AOper) (s : St) (a : Act) (w : World) (K1 : St → Option α), matchOps ρ P F.wd ops os1 ops' = true → Inv' ρ S₀ w0 F s a w → execOps false E ops' s K1 = some r →
      (∀ s' a' w', Inv' ρ S₀ w0 F s' a' w' → K1 s' = some r → wpList P ops Q os2 a' w') → wpList P ops Q (os1 ++ os2) a w := by
    intro os1
    induction os1 with
    | nil =>
      intro os2 ops' s a w K1 hm hinv h hK
      cases ops' with
      | cons _ _ => cases hm
      | nil => exact hK s a w hinv h
    | cons o os1 ih =>
      intro os2 ops' s a w K1 hm hinv h hK
      cases ops' with
      | nil => cases hm
      | cons o' os' =>
        obtain ⟨β, B, hinv⟩ := hinv
        simp only [matchOps, Bool.and_eq_true, beq_iff_eq] at hm
        obtain ⟨⟨⟨hdst, hgd⟩, hop⟩, hos⟩ := hm
        simp only [List.cons_append, wpList]
        rcases Qcz hinv hgd h with ⟨hw, h⟩ | ⟨hw, h⟩
        · rw [if_pos hw]
          left
          rw [← hdst] at h
          exact Qc4 hg hinv hop h fun s' a' w' hinv' h' => ih os2 os' s' a' w' K1 hos hinv' h' hK
        · rw [if_neg (by rw [hw]; simp)]
          refine ih os2 os' _ _ w K1 hos ?_ h hK
          rw [← hdst]
          exact ⟨β, B, hinv.rel.put (d := .skip) (v := Go.undef) rfl, hinv.below, hinv.given⟩
  rw [← List.take_append_drop ops'.length os]
  refine front _ _ ops' s a w _ hm hinv h fun s1 a1 w1 hinv1 h1 => ?_
  split at hc
  rotate_left
  · cases hc
  rename_i o os2 hos
  rw [hos]
  simp only [Bool.and_eq_true] at hc
  obtain ⟨hc1, hc2⟩ := hc
  split at hc1
  rotate_left
  · cases hc1
  rename_i cd hcd
  obtain ⟨f, args, tys, fn, ho, hgd, hfn, hdst, hx, hoff, hok, hN, hlen, hres, hrs, hbody⟩ := Qww hcd
  simp only [wpList]
  rw [if_pos (by unfold Region.wanted; rw [hgd])]
  left
  have hrun : (execOp a1.eval o).run P w1 = .ok (.enter f (args.toList.map a1.eval).toArray) w1 := by
    simp only [execOp, ho, resolve, Deferred.ofValue, Act.eval, Sem.run_bind, Sem.run_pure, Result.andThen_ok, invoke]
    rw [Qbl hok]
    congr 2
    apply Array.ext'
    simp
  unfold Oper.wp
  rw [hrun, Oper.upon_enter]
  have hsz : a1.tmps.size = F.N ∧ a1.defers = [] ∧ ∀ x ∈ F.bg, x.1 < F.off := by
    obtain ⟨β, B, hi⟩ := hinv1
    exact ⟨hi.rel.size, hi.rel.defers, fun x hx => (hi.rel.back x hx).1⟩
  refine calls_of_wp hfn hbody ?_
  rw [hN]
  refine ihb (F.inner c a1) (.code cd) (c.enter s1) _ w1 _ _ hc1 (Qql hinv1 hx hoff hlen) h1 fun e s' a' w' hinv' h' => ?_
  obtain ⟨hne, d, h2, hd⟩ := Qwi (ρ := ρ) h'
  have hpost : a'.defers = [] ∧ ∃ v, (Go.results fn a'.tmps).run P w' = .ok v w' ∧ wpList P ops Q os2 (a1.put o.dst v) w' := by
    refine ⟨by obtain ⟨β, B, hi⟩ := hinv'; exact hi.rel.defers, _, Qxu hres a' w', ?_⟩
    rw [hdst] at h2
    exact ihm F (.rest ops os2) _ _ w' K Q hc2 (Qwh hsz.1 hsz.2.1 hinv' hsz.2.2 fun S β hs => hd w' S β a' fun i hi => hs i (hrs i hi)) h2 hK
  cases e with
  | exit id => exact absurd rfl (hne id)
  | normal => exact hpost
  | ret => exact hpost
theorem Qbr (hg : Good P ρ E) (hp : P.follows .mixedOrders = true) (ac : AC) : CodeWp α P ρ S₀ w0 E r ac := by
  induction ac with
  | skip =>
    intro F t s a w K Q hm hinv h hK
    cases t with
    | rest ops os => cases hm
    | code c =>
      cases c <;> try cases hm
      exact wp_skip (hK .normal s a w hinv h)
  | exit id =>
    intro F t s a w K Q hm hinv h hK
    cases t with
    | rest ops os => cases hm
    | code c =>
      cases c <;> try cases hm
      simp only [matchAC, beq_iff_eq] at hm
      subst hm
      exact wp_exit (hK (.exit _) s a w hinv h)
  | ret =>
    intro F t s a w K Q hm hinv h hK
    cases t with
    | rest ops os => cases hm
    | code c =>
      cases c <;> try cases hm
      exact wp_ret (hK .ret s a w hinv h)
  | region k ops' =>
    intro F t s a w K Q hm hinv h hK
    cases t with
    | rest ops os =>
      simp only [matchAC, Bool.and_eq_true, beq_iff_eq] at hm
      obtain ⟨rfl, h1⟩ := hm
      exact Qbj hg os ops' s a w h1 hinv h fun s' a' w' hinv' h' => hK .normal s' a' w' hinv' h'
    | code c =>
      cases c <;> try cases hm
      rename_i id ops dr
      cases dr with
      | false =>
        simp only [matchAC, Bool.and_eq_true, beq_iff_eq] at hm
        obtain ⟨rfl, h1⟩ := hm
        exact Qxt hg h1 hinv h fun s' a' w' hinv' h' => hK .normal s' a' w' hinv' h'
      | true =>
        simp only [matchAC, Bool.and_eq_true, Bool.or_eq_true] at hm
        rcases hm with ⟨⟨hB, h1⟩, h2⟩ | ⟨⟨hB, h1⟩, h2⟩
        rotate_left
        · exact Qxo hg hp hB h1 h2 hinv h fun s' a' w' hinv' h' => hK .normal s' a' w' hinv' h'
        exact Qxq hg hp hB h1 h2 hinv h fun s' a' w' hinv' h' => hK .normal s' a' w' hinv' h'
  | regI k ops' c body more ihb ihm =>
    intro F t s a w K Q hm hinv h hK
    cases t with
    | rest ops os =>
      simp only [matchAC, Bool.and_eq_true, beq_iff_eq] at hm
      obtain ⟨⟨rfl, h1⟩, h2⟩ := hm
      exact Qgf hg ihb ihm h1 h2 hinv h hK
    | code cc =>
      cases cc <;> try cases hm
      rename_i id ops dr
      cases dr with
      | false =>
        simp only [matchAC, Bool.and_eq_true, beq_iff_eq] at hm
        obtain ⟨⟨rfl, h1⟩, h2⟩ := hm
        exact wp_region_list (Qgf hg ihb ihm h1 h2 hinv h hK)
      | true =>
        simp only [matchAC, Bool.and_eq_true] at hm
        obtain ⟨⟨⟨hB, h0⟩, h1⟩, h2⟩ := hm
        exact Qn3 hg hp hB h0 hinv h fun s' a' w' hinv' h' => Qgf hg ihb ihm h1 h2 hinv' h' hK
  | regC k T ops' =>
    intro F t s a w K Q hm hinv h hK
    cases t with
    | rest ops os => cases hm
    | code c =>
      cases c <;> try cases hm
      rename_i id ops dr
      simp only [matchAC, Bool.and_eq_true] at hm
      obtain ⟨⟨⟨rfl, hB⟩, h1⟩, h2⟩ := hm
      exact Qxr hg hp hB h1 h2 hinv h fun s' a' w' hinv' h' => hK .normal s' a' w' hinv' h'
  | regD k T prs slots names ops' =>
    intro F t s a w K Q hm hinv h hK
    cases t with
    | rest ops os => cases hm
    | code c =>
      cases c <;> try cases hm
      rename_i id ops dr
      simp only [matchAC, Bool.and_eq_true] at hm
      obtain ⟨⟨⟨rfl, hB⟩, h1⟩, h2⟩ := hm
      exact Qxs hg hp hB h1 h2 hinv h fun s' a' w' hinv' h' => hK .normal s' a' w' hinv' h'
  | regN k M prs ps ops' =>
    intro F t s a w K Q hm hinv h hK
    cases t with
    | rest ops os => cases hm
    | code c =>
      cases c <;> try cases hm
      rename_i id ops dr
      simp only [matchAC, Bool.and_eq_true] at hm
      obtain ⟨⟨⟨rfl, hB⟩, h1⟩, h2⟩ := hm
      exact Qxp hg hp hB h1 h2 hinv h fun s' a' w' hinv' h' => hK .normal s' a' w' hinv' h'
  | seq x y ihx ihy =>
    intro F t s a w K Q hm hinv h hK
    cases t with
    | rest ops os => cases hm
    | code c =>
    cases c <;> try cases hm
    simp only [matchAC, Bool.and_eq_true] at hm
    refine wp_seq (ihx F (.code _) s a w _ _ hm.1 hinv h fun e s' a' w' hinv' h' => ?_)
    cases e with
    | normal => exact ihy F (.code _) s' a' w' K Q hm.2 hinv' h' hK
    | exit id => exact hK (.exit id) s' a' w' hinv' h'
    | ret => exact hK .ret s' a' w' hinv' h'
  | cond x y z ihy ihz =>
    intro F t s a w K Q hm hinv h hK
    cases t with
    | rest ops os => cases hm
    | code c =>
    cases c <;> try cases hm
    simp only [matchAC, Bool.and_eq_true] at hm
    obtain ⟨⟨h1, h2⟩, h3⟩ := hm
    obtain ⟨β, B, hi⟩ := hinv
    have hv := hi.rel.opd h1
    simp only [exec] at h
    cases he : x.ev s.fr with
    | val u =>
      rw [he] at hv
      simp only [he] at h
      cases u with
      | bool t =>
        have hb := Qb4 hv
        cases t with
        | true => exact wp_cond_true hb (ihy F (.code _) s a w K Q h2 ⟨β, B, hi⟩ h hK)
        | false => exact wp_cond_false hb (ihz F (.code _) s a w K Q h3 ⟨β, B, hi⟩ h hK)
      | _ => cases h
    | _ => simp only [he] at h; cases h
  | block id x ih =>
    intro F t s a w K Q hm hinv h hK
    cases t with
    | rest ops os => cases hm
    | code c =>
    cases c <;> try cases hm
    simp only [matchAC, Bool.and_eq_true, beq_iff_eq] at hm
    obtain ⟨rfl, h1⟩ := hm
    refine wp_block (ih F (.code _) s a w _ _ h1 hinv h fun e s' a' w' hinv' h' => ?_)
    cases e with
    | normal => exact hK .normal s' a' w' hinv' h'
    | ret => exact hK .ret s' a' w' hinv' h'
    | exit id' =>
      simp only [Ex.to, Exit.inBlock]
      simp only [blockK] at h'
      split at h'
      · rename_i e; rw [if_pos e]; exact hK .normal s' a' w' hinv' h'
      · rename_i e; rw [if_neg e]; exact hK (.exit id') s' a' w' hinv' h'
  | loopU n x ih =>
    intro F t s a w K Q hm hinv h hK
    cases t with
    | rest ops os => cases hm
    | code c =>
    cases c <;> try cases hm
    rename_i body
    simp only [matchAC] at hm
    refine wp_loop_rounds n ?_
    have key : ∀ n s a w, Inv' ρ S₀ w0 F s a w → iterU (fun s K => exec E x s K) K n s = some r → Code.rounds P body Q n a w := by
      intro n
      induction n with
      | zero => intro s a w _ h; cases h
      | succ n ihn =>
        intro s a w hinv h
        refine ih F (.code _) s a w _ _ hm hinv h fun e s' a' w' hinv' h' => ?_
        cases e with
        | normal => exact ihn s' a' w' hinv' h'
        | exit id => exact hK (.exit id) s' a' w' hinv' h'
        | ret => exact hK .ret s' a' w' hinv' h'
    exact key n s a w hinv h
  | loop l x ih =>
    intro F t s a w K Q hm hinv h hK
    cases t with
    | rest ops os => cases hm
    | code c =>
    cases c <;> try cases hm
    rename_i body
    simp only [matchAC] at hm
    have e1 : exec E (.loop l x) s K = (packO l s).bind (loopK (roundOf E l x K)) := Qaw _ _ _
    rw [e1] at h
    obtain ⟨p, hpk, h⟩ := Option.bind_eq_some_iff.1 h
    obtain ⟨n, hn⟩ := (Qbw (Qck E (Qbs E x) l K) p r).1 h
    let Φ : Act → World → Nat → Prop := fun a w n => ∃ p, Inv' ρ S₀ w0 F (unpack l p) a w ∧ loopN (roundOf E l x K) n p = some r
    classical
    let μ : Act → World → Nat := fun a w => if h : ∃ n, Φ a w n then (least h).choose else 0
    refine wp_loop (fun a w => ∃ n, Φ a w n) μ ⟨n, p, Qgu hinv hpk, hn⟩ fun a1 w1 hI => ?_
    have hμ : μ a1 w1 = (least hI).choose := by simp only [μ, dif_pos hI]
    have hspec := (least hI).choose_spec.1
    rw [← hμ] at hspec
    obtain ⟨p1, hinv1, hn1⟩ := hspec
    generalize hm1 : μ a1 w1 = m at hn1
    cases m with
    | zero => cases hn1
    | succ m =>
      refine ih F (.code _) (unpack l p1) a1 w1 _ _ hm hinv1 hn1 fun e s' a' w' hinv' h' => ?_
      cases e with
      | normal =>
        simp only [roundK, Qaw] at h'
        obtain ⟨p2, hp2, h2⟩ := Option.bind_eq_some_iff.1 h'
        have hΦ : ∃ n, Φ a' w' n := ⟨m, p2, Qgu hinv' hp2, h2⟩
        refine ⟨hΦ, ?_⟩
        have : μ a' w' = (least hΦ).choose := by simp only [μ, dif_pos hΦ]
        rw [this]
        exact Nat.lt_succ_of_le ((least hΦ).choose_spec.2 m ⟨p2, Qgu hinv' hp2, h2⟩)
      | exit id => exact hK (.exit id) s' a' w' hinv' h'
      | ret => exact hK .ret s' a' w' hinv' h'
end
end Go.Proofs.Ytboenehajoaahaa.Am
