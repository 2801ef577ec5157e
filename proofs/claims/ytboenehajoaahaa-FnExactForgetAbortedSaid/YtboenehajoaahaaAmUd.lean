import Derived.Test.YtboenehajoaahaaAmUc
namespace Go.Proofs.Ytboenehajoaahaa.Am
open Go Go.RowKit
theorem Qmy {α : Type} (a : Option α) : meet a a = a := by
  unfold meet
  exact if_pos rfl
theorem Qwx {α : Type} {a b : Option α} {r : α} (h : meet a b = some r) : a = some r ∧ b = some r := by
  unfold meet at h
  split at h
  · rename_i e
    exact ⟨h, e ▸ h⟩
  · cases h
theorem Qgl {α : Type} {r : α} : ∀ {l : List (Option α)}, meets l = some r → ∀ a ∈ l, a = some r
  | [], h, _, _ => by cases h
  | [a], h, b, hb => by
    rcases List.mem_singleton.1 hb with rfl
    exact h
  | a :: b :: l, h, c, hc => by
    obtain ⟨h1, h2⟩ := Qwx (a := a) (b := meets (b :: l)) h
    rcases List.mem_cons.1 hc with rfl | hc
    · exact h1
    · exact Qgl h2 c hc
section
variable {α : Type} {E : Env} {r : α}
structure Past (T : List Nat) (es : List AOper) (s0 s : St) : Prop where
  fr : ∀ t d, calm T d = true → (∀ o ∈ es, o.dst ≠ some t) → s0.fr t = d → s.fr t = d
  gam : ∀ R c, T.contains R = false → s0.Γ R = some c → bare c = true → s.Γ R = some c
theorem Past.refl (T : List Nat) (es : List AOper) (s : St) : Past T es s s := ⟨fun _ _ _ _ h => h, fun _ _ _ h _ => h⟩
theorem Past.step {T : List Nat} {es : List AOper} {s0 s s' : St} (h : Past T es s0 s) {o : AOper} (ho : o ∈ es) (h1 : Step1 E r T o s s') : Past T es s0 s' := by
  obtain ⟨ms, d2, hm, hg, h2, _⟩ := h1
  refine ⟨fun t d hd ht h0 => ?_, fun R c hR h0 hb => hg R c hR (h.gam R c hR h0 hb) hb⟩
  have h3 := h.fr t d hd ht h0
  rw [h2]
  have := ht o ho
  simp only [Frm.put, this, if_false]
  exact retagsC hd ms _ t hm h3
theorem Qqx {T : List Nat} {prs : List (Nat × Nat)} {n : Nat} {rem : List (Nat × AOper)} {s : St} {K : St → Option α} (h : execT E T prs n rem s K = some r) {i : Nat} {o : AOper} (hi : (i, o) ∈ rem) (hf : freeP prs rem i = true) (hg : o.guard = none) :
    ∃ s' m, n = m + 1 ∧ Step1 E r T o s s' ∧ execT E T prs m (rem.filter fun q2 => q2.1 != i) s' K = some r := by
  cases rem with
  | nil => cases hi
  | cons q0 rem =>
    cases n with
    | zero => simp only [execT] at h; cases h
    | succ n =>
      simp only [execT] at h
      have h1 := Qgl h _ (List.mem_map.2 ⟨(i, o), List.mem_filter.2 ⟨hi, hf⟩, rfl⟩)
      simp only at h1
      split at h1
      · rename_i hc
        obtain ⟨s', h2, h3⟩ := Qo0 (K := fun s' => execT E T prs n ((q0 :: rem).filter fun q2 => q2.1 != i) s' K) hc h1 hg
        exact ⟨s', n, rfl, h2, h3⟩
      · cases h1
end
def linkP (md : Region.Mode) (ops : Array Oper) (i j : Nat) (o o2 : AOper) : Bool :=
  if o.op.still = true then (!readsOf o o2 || (o2.op.still && decide (j < i) && nearB md ops i j)) && (j == i || o2.dst != o.dst)
  else !readsOf o o2 || !o2.op.still || nearB md ops i j
section
variable {α : Type} {E : Env} {r : α}
variable {C : Eff → Prop} {β : Type}
variable {α : Type} {P : Program} {ρ : Nat → FuncId} {F : Fm} {S₀ : Nat → Prop} {w0 : Org} {w : World} {E : Env} {s : St} {a : Act} {r : α} {ops : Array Oper} {k : Nat} {md : Region.Mode} {Q : Exit → Act → World → Prop} {os' : List AOper}
theorem Qxg (hg : Good P ρ E) (hk : k ≤ ops.size) (hback : backB md ops k = true) (hcover : coverB md ops k = true) (hm : matchOps ρ P F.wd ops (ops.toList.take k) os' = true)
    (hgu : ∀ (m : Nat) (o : AOper), os'[m]? = some o → o.guard = none)
    (hlink : ∀ (i j : Nat) (o o2 : AOper), os'[i]? = some o → os'[j]? = some o2 → linkP md ops i j o o2 = true)
    {prs : List (Nat × Nat)} (hprs : ∀ p ∈ prs, nearB md ops p.2 p.1 = true) {s0 : St} {fp : Frm} (hV0 : s0.fr = fp) {T : List Nat} {Kf : St → Option α}
    (hval : ∀ o ∈ stills os', Still1 E r T s0.Γ fp o) :
    ∀ (fuel : Nat) (l : Array Bool) (a : Act) (w : World), l.size = k → Down md ops l → unlisted l k ≤ fuel → ∀ (n : Nat) (rem : List (Nat × AOper)) (s : St), Past T (chain os') s0 s → execT E T prs n rem s Kf = some r → (∀ (i : Nat) (o : AOper), (i, o) ∈ rem ↔ os'[i]? = some o ∧ o.op.still = false ∧ lst l i = false) → Inv' ρ S₀ w0 F ⟨mask os' (lst l) s.fr, s.Γ⟩ a w →
    (∀ (s : St) (a : Act) (w : World) (fuel : Nat), ops.size - k ≤ fuel → Kf s = some r → Inv' ρ S₀ w0 F s a w → wpAny P md ops Q fuel (upto ops.size k) a w) → wpAny P md ops Q (fuel + (ops.size - k)) (l ++ Array.replicate (ops.size - k) false) a w := by
  obtain ⟨hml, hmg⟩ := Qbi hm
  have hkl : os'.length = k := by
    rw [← hml, List.length_take, Array.length_toList]
    omega
  have hlt : ∀ (i : Nat) (o : AOper), os'[i]? = some o → i < k := fun i o ho => by
    have := (List.getElem?_eq_some_iff.1 ho).1
    omega
  have htrue : ∀ m, m < k → lst (Array.replicate k true) m = true := fun m hm => by
    simp [lst, Array.getD_eq_getD_getElem?, hm]
  have hend : ∀ {a : Act} {w : World} (n : Nat) (rem : List (Nat × AOper)) (s : St), execT E T prs n rem s Kf = some r → (∀ (i : Nat) (o : AOper), (i, o) ∈ rem ↔ os'[i]? = some o ∧ o.op.still = false ∧ lst (Array.replicate k true) i = false) → Inv' ρ S₀ w0 F ⟨mask os' (lst (Array.replicate k true)) s.fr, s.Γ⟩ a w → Kf s = some r ∧ Inv' ρ S₀ w0 F s a w := fun {a w} n rem s hex hrem hinv => by
    have e1 : rem = [] := by
      cases rem with
      | nil => rfl
      | cons q rem =>
        obtain ⟨h1, _, h3⟩ := (hrem q.1 q.2).1 (List.mem_cons_self ..)
        rw [htrue q.1 (hlt q.1 q.2 h1)] at h3
        cases h3
    subst e1
    have e2 : mask os' (lst (Array.replicate k true)) s.fr = s.fr := funext fun t => Qx fun i o ho _ _ => htrue i (hlt i o ho)
    rw [e2] at hinv
    refine ⟨?_, hinv⟩
    cases n <;> simpa [execT] using hex
  have hcd : ∀ o ∈ chain os', ∃ i : Nat, os'[i]? = some o ∧ o.op.still = false := fun o ho => by
    simp only [chain, List.mem_filter, Bool.not_eq_true'] at ho
    obtain ⟨i, hi⟩ := List.mem_iff_getElem?.1 ho.1
    exact ⟨i, hi, ho.2⟩
  intro fuel
  induction fuel with
  | zero =>
    intro l a w hs hd hu n rem s hpast hex0 hrem hinv hK
    obtain rfl := Qb3 hs (by omega)
    exact (fun h => hK s a w _ (by omega) h.1 h.2) (hend n rem s hex0 hrem hinv)
  | succ fuel ih =>
    intro l a w hs hd hu n rem s hpast hex0 hrem hinv hK
    by_cases hz : unlisted l k = 0
    · obtain rfl := Qb3 hs hz
      exact (fun h => hK s a w _ (by omega) h.1 h.2) (hend n rem s hex0 hrem hinv)
    · -- one may come up
      have hex : ∃ i, i < k ∧ l.getD i false = false := by
        unfold unlisted at hz
        obtain ⟨i, hi⟩ := List.exists_mem_of_length_pos (Nat.pos_of_ne_zero hz)
        simp only [List.mem_filter, List.mem_range, lst, Bool.not_eq_true'] at hi
        exact ⟨i, hi⟩
      obtain ⟨i0, hi0, hl0⟩ := hex
      obtain ⟨j0, hj0, hjl0, o0, ho0, hall0⟩ := Qee (l := l) hback hk i0 i0 rfl hi0 hl0
      have hready0 : j0 ∈ Region.ready md ops (l ++ Array.replicate (ops.size - k) false) := mem_ready.2 ⟨by rw [Qac (by omega), Qbu (by omega)]; exact hjl0, o0, ho0, fun e he hbd => (by
        obtain ⟨h1, h2⟩ := hall0 e he hbd
        rw [Qac (by omega)]; exact h1)⟩
      have hsub : ∀ i, i ∈ Region.ready md ops (l ++ Array.replicate (ops.size - k) false) → i < k ∧ l.getD i false = false ∧ ∃ o, ops[i]? = some o ∧ ∀ e ∈ o.after, Region.binds md e = true → l.getD e.on false = true := by
        intro i hi
        obtain ⟨h0, o, ho, hall⟩ := mem_ready.1 hi
        have hin : i < ops.size := (Array.getElem?_eq_some_iff.1 ho).1
        have hall' : ∀ e ∈ o.after, Region.binds md e = true → l.getD e.on false = true := fun e he hbd => by
          have h1 := hall e he hbd
          by_cases hek : e.on < k
          · rw [Qac (by omega)] at h1; exact h1
          · rw [Qep (by omega)] at h1; cases h1
        by_cases hik : i < k
        · exact ⟨hik, by rw [Qac (by omega), Qbu (by omega)] at h0; exact h0, o, ho, hall'⟩
        · exfalso
          simp only [coverB, List.all_eq_true, List.mem_range] at hcover
          have h2 := hcover (i - k) (by omega) i0 hi0
          rw [show k + (i - k) = i by omega] at h2
          have := Qbk hd ho hall' h2
          rw [hl0] at this
          cases this
      rw [show fuel + 1 + (ops.size - k) = (fuel + (ops.size - k)) + 1 by omega]
      refine ⟨fun hr0 => (by rw [hr0] at hready0; cases hready0), fun i hi => ?_⟩
      obtain ⟨hik, hil, o, ho, hall⟩ := hsub i hi
      have hset : (l ++ Array.replicate (ops.size - k) false).setIfInBounds i true = l.setIfInBounds i true ++ Array.replicate (ops.size - k) false := by
        rw [Array.setIfInBounds_append_left (by omega)]
      rw [hset]
      have hd' : Down md ops (l.setIfInBounds i true) := by
        intro j oj hj hoj e he hbd
        by_cases e1 : i = j
        · subst e1
          rw [ho] at hoj
          cases hoj
          exact getD_set_true (hall e he hbd)
        · rw [getD_set_ne false e1] at hj
          exact getD_set_true (hd j oj hj hoj e he hbd)
      have hu' : unlisted (l.setIfInBounds i true) k ≤ fuel := by
        have := Qfi hik hs hil
        omega
      obtain ⟨o', ho', hdst, hgd, hop⟩ := hmg i o (by rw [List.getElem?_take_of_lt hik, Array.getElem?_toList]; exact ho)
      have hli : lst (l.setIfInBounds i true) i = true := by simp [lst, hs, hik]
      have hlo : ∀ m, m ≠ i → lst (l.setIfInBounds i true) m = lst l m := fun m hm => getD_set_ne (listed := l) false (Ne.symm hm)
      have hnear : ∀ m, nearB md ops i m = true → lst l m = true := fun m h6 => by
        show l.getD m false = true
        unfold nearB at h6
        simp only [Bool.or_eq_true] at h6
        rcases h6 with h6 | h6
        · rw [ho] at h6
          simp only [Option.map_some, Option.getD_some, Array.any_eq_true, Bool.and_eq_true, beq_iff_eq] at h6
          obtain ⟨x, hx, hbd, he⟩ := h6
          rw [← he]
          exact hall _ (Array.getElem_mem hx) hbd
        · exact Qbk hd ho hall h6
      have hgn := hgu i o' ho'
      classical
      have key : ∃ (n' : Nat) (rem' : List (Nat × AOper)) (s' : St), Past T (chain os') s0 s' ∧ execT E T prs n' rem' s' Kf = some r ∧ (∀ (m : Nat) (o2 : AOper), (m, o2) ∈ rem' ↔ os'[m]? = some o2 ∧ o2.op.still = false ∧ lst (l.setIfInBounds i true) m = false) ∧
          ∀ Kt : St → Option α, Kt ⟨mask os' (lst (l.setIfInBounds i true)) s'.fr, s'.Γ⟩ = some r → o'.exec false E ⟨mask os' (lst l) s.fr, s.Γ⟩ Kt = some r := by
        cases hst : o'.op.still with
        | true =>
          obtain ⟨huse, hlo2, x, u, hx, hfx, hcu, hstep⟩ := hval o' (by simp only [stills, List.mem_filter]; exact ⟨List.mem_of_getElem? ho', hst⟩)
          refine ⟨n, rem, s, hpast, hex0, fun m o2 => ?_, fun Kt hKt => ?_⟩
          · rw [hrem m o2]
            constructor
            · rintro ⟨h1, h2, h3⟩
              refine ⟨h1, h2, ?_⟩
              have : m ≠ i := by
                rintro rfl
                rw [ho'] at h1
                cases h1
                rw [hst] at h2
                cases h2
              rw [hlo m this]
              exact h3
            · rintro ⟨h1, h2, h3⟩
              refine ⟨h1, h2, ?_⟩
              have : m ≠ i := by
                rintro rfl
                rw [ho'] at h1
                cases h1
                rw [hst] at h2
                cases h2
              rw [hlo m this] at h3
              exact h3
          · have hnoc : ∀ t, (t ∈ o'.op.uses ∨ t = x) → ∀ o2 ∈ chain os', o2.dst ≠ some t := fun t ht o2 ho2 he => by
              obtain ⟨m, hm2, hs2⟩ := hcd o2 ho2
              have h7 := hlink i m o' o2 ho' hm2
              unfold linkP at h7
              rw [if_pos hst] at h7
              simp only [hs2, Bool.and_eq_true, Bool.or_eq_true, Bool.not_eq_true', beq_iff_eq, bne_iff_ne, ne_eq, Bool.false_and, Bool.false_eq_true, or_false] at h7
              rcases ht with ht | rfl
              · have : readsOf o' o2 = true := by simp only [readsOf, he]; simpa using ht
                rw [this] at h7
                exact absurd h7.1 (by simp)
              · rcases h7.2 with h8 | h8
                · subst h8
                  rw [ho'] at hm2
                  cases hm2
                  rw [hst] at hs2
                  cases hs2
                · exact h8 (by rw [he, hx])
            have hag : ∀ t ∈ o'.op.uses, fp t = mask os' (lst l) s.fr t := fun t ht => by
              rw [Qx (fun m o2 hm2 hs2 hd2 => ?_), hpast.fr t (fp t) (huse t ht) (hnoc t (.inl ht)) (by rw [hV0])]
              have h7 := hlink i m o' o2 ho' hm2
              unfold linkP at h7
              rw [if_pos hst] at h7
              have : readsOf o' o2 = true := by simp only [readsOf, hd2]; simpa using ht
              simp only [this, Bool.and_eq_true, Bool.or_eq_true, Bool.not_true, Bool.false_eq_true, false_or] at h7
              exact hnear m h7.1.2
            have hx2 : s.fr x = u := hpast.fr x u hcu (hnoc x (.inr rfl)) (by rw [hV0]; exact hfx)
            have hfrm : (mask os' (lst l) s.fr).put o'.dst u = mask os' (lst (l.setIfInBounds i true)) s.fr := by
              have huniq : ∀ (m : Nat) (o2 : AOper), os'[m]? = some o2 → o2.dst = some x → m = i := fun m o2 hm2 hd2 => by
                have h7 := hlink i m o' o2 ho' hm2
                unfold linkP at h7
                rw [if_pos hst] at h7
                simp only [Bool.and_eq_true, Bool.or_eq_true, beq_iff_eq, bne_iff_ne, ne_eq] at h7
                rcases h7.2 with h8 | h8
                · exact h8
                · exact absurd (by rw [hd2, hx]) h8
              funext t
              simp only [Frm.put, hx, Option.some.injEq]
              split
              · rename_i e
                subst e
                rw [Qx (fun m o2 hm2 _ hd2 => by rw [huniq m o2 hm2 hd2]; exact hli), hx2]
              · rename_i e
                by_cases hw : ∃ (m : Nat) (o2 : AOper), os'[m]? = some o2 ∧ o2.op.still = true ∧ o2.dst = some t ∧ lst l m = false
                · obtain ⟨m, o2, hm2, hs2, hd2, hl2⟩ := hw
                  rw [Qa5 hm2 hs2 hd2 hl2, Qa5 hm2 hs2 hd2 (by
                    rw [hlo m (fun e2 => ?_)]
                    · exact hl2
                    · subst e2
                      rw [ho'] at hm2
                      cases hm2
                      rw [hx] at hd2
                      cases hd2
                      exact e rfl)]
                · have hall2 : ∀ (m : Nat) (o2 : AOper), os'[m]? = some o2 → o2.op.still = true → o2.dst = some t → lst l m = true := fun m o2 hm2 hs2 hd2 => by
                    cases hl2 : lst l m with
                    | true => rfl
                    | false => exact absurd ⟨m, o2, hm2, hs2, hd2, hl2⟩ hw
                  rw [Qx hall2, Qx (fun m o2 hm2 hs2 hd2 => by
                    by_cases e2 : m = i
                    · rw [e2]; exact hli
                    · rw [hlo m e2]; exact hall2 m o2 hm2 hs2 hd2)]
            have hv := hstep (fun d => if d = u then some r else none) (by simp)
            rw [Qo4 hst huse hlo2 hpast.gam, Qbn hag] at hv
            obtain ⟨e, he1, he2⟩ := Qay E o'.op _ _ _ r hv
            unfold AOper.exec
            rw [hgn]
            refine he2 _ ?_
            have hfin : Kt ⟨(mask os' (lst l) s.fr).put o'.dst u, s.Γ⟩ = some r := by rw [hfrm]; exact hKt
            cases e with
            | v d =>
              simp only [Eff.value] at he1
              split at he1
              · rename_i e; subst e; exact hfin
              · cases he1
            | cl fl u2 =>
              simp only [Eff.value] at he1
              split at he1
              · rename_i e; subst e; exact hfin
              · cases he1
            | vnew u2 =>
              simp only [Eff.value] at he1
              split at he1
              · rename_i e; subst e; exact hfin
              · cases he1
            | st ms d g => cases he1
        | false =>
          have hmem : (i, o') ∈ rem := (hrem i o').2 ⟨ho', hst, hil⟩
          have hfree : freeP prs rem i = true := by
            unfold freeP
            rw [List.all_eq_true]
            intro pr hpr
            rw [Bool.or_eq_true, Bool.not_eq_true', Bool.not_eq_true']
            by_cases e : pr.2 = i
            · right
              rw [Bool.eq_false_iff]
              intro h4
              obtain ⟨q, hq, hq2⟩ := List.any_eq_true.1 h4
              have h5 := ((hrem q.1 q.2).1 hq).2.2
              have h6 := hprs pr hpr
              rw [e] at h6
              rw [beq_iff_eq] at hq2
              rw [hq2, hnear pr.1 h6] at h5
              cases h5
            · left
              simpa using e
          obtain ⟨s', n', rfl, hst1, hex1⟩ := Qqx hex0 hmem hfree hgn
          have hchain : o' ∈ chain os' := List.mem_filter.2 ⟨List.mem_of_getElem? ho', by rw [hst]; rfl⟩
          refine ⟨n', _, s', hpast.step hchain hst1, hex1, fun m o2 => ?_, fun Kt hKt => ?_⟩
          · rw [List.mem_filter, hrem m o2]
            simp only [bne_iff_ne, ne_eq]
            constructor
            · rintro ⟨⟨h1, h2, h3⟩, h4⟩
              exact ⟨h1, h2, by rw [hlo m h4]; exact h3⟩
            · rintro ⟨h1, h2, h3⟩
              have h4 : m ≠ i := by
                rintro rfl
                rw [hli] at h3
                cases h3
              exact ⟨⟨h1, h2, by rw [← hlo m h4]; exact h3⟩, h4⟩
          obtain ⟨ms, d, _, _, hfr, hex⟩ := hst1
          · refine hex _ (fun t ht => ?_) Kt ?_
            · refine (Qx fun m o2 hm2 hs2 hd2 => ?_).symm
              have h7 := hlink i m o' o2 ho' hm2
              unfold linkP at h7
              rw [if_neg (by rw [hst]; simp)] at h7
              have : readsOf o' o2 = true := by simp only [readsOf, hd2]; simpa using ht
              simp only [this, hs2, Bool.and_eq_true, Bool.or_eq_true, Bool.not_true, Bool.false_eq_true, false_or] at h7
              exact hnear m h7
            · have hfrm : ((mask os' (lst l) s.fr).retags ms).put o'.dst d = mask os' (lst (l.setIfInBounds i true)) s'.fr := by
                rw [hfr]
                funext t
                by_cases hw : ∃ (m : Nat) (o2 : AOper), os'[m]? = some o2 ∧ o2.op.still = true ∧ o2.dst = some t ∧ lst l m = false
                · obtain ⟨m, o2, hm2, hs2, hd2, hl2⟩ := hw
                  have hmi : m ≠ i := by
                    rintro rfl
                    rw [ho'] at hm2
                    cases hm2
                    rw [hst] at hs2
                    cases hs2
                  have hnd : o'.dst ≠ some t := fun he => by
                    have h7 := hlink m i o2 o' hm2 ho'
                    unfold linkP at h7
                    rw [if_pos hs2] at h7
                    simp only [Bool.and_eq_true, Bool.or_eq_true, beq_iff_eq, bne_iff_ne, ne_eq] at h7
                    rcases h7.2 with h8 | h8
                    · exact hmi h8.symm
                    · exact h8 (by rw [he, hd2])
                  rw [Qa5 hm2 hs2 hd2 (by rw [hlo m hmi]; exact hl2)]
                  simp only [Frm.put, hnd, if_false]
                  exact retagsU ms _ t (Qa5 hm2 hs2 hd2 hl2)
                · have hall2 : ∀ (m : Nat) (o2 : AOper), os'[m]? = some o2 → o2.op.still = true → o2.dst = some t → lst l m = true := fun m o2 hm2 hs2 hd2 => by
                    cases hl2 : lst l m with
                    | true => rfl
                    | false => exact absurd ⟨m, o2, hm2, hs2, hd2, hl2⟩ hw
                  rw [Qx (fun m o2 hm2 hs2 hd2 => by
                    by_cases e2 : m = i
                    · rw [e2]; exact hli
                    · rw [hlo m e2]; exact hall2 m o2 hm2 hs2 hd2)]
                  simp only [Frm.put]
                  split
                  · rfl
                  · exact retagsA ms _ _ t (Qx hall2)
              rw [hfrm]
              exact hKt
      obtain ⟨n', rem', s', hpast', hex', hrem', hkey⟩ := key
      let Kt : St → Option α := fun s1 => if s1 = ⟨mask os' (lst (l.setIfInBounds i true)) s'.fr, s'.Γ⟩ then some r else none
      have hex : o'.exec false E ⟨mask os' (lst l) s.fr, s.Γ⟩ Kt = some r := hkey Kt (by simp [Kt])
      have hnext : ∀ s1 a' w', Inv' ρ S₀ w0 F s1 a' w' → Kt s1 = some r → wpAny P md ops Q (fuel + (ops.size - k)) (l.setIfInBounds i true ++ Array.replicate (ops.size - k) false) a' w' := fun s1 a' w' hinv' hk' => by
        simp only [Kt] at hk'
        split at hk'
        · rename_i e
          subst e
          exact ih _ a' w' (by simp [hs]) hd' hu' n' rem' s' hpast' hex' hrem' hinv' hK
        · cases hk'
      obtain ⟨β, B, hinv⟩ := hinv
      unfold wpOp
      rw [ho]
      simp only
      rcases Qcz hinv hgd hex with ⟨hw, h⟩ | ⟨hw, h⟩
      · rw [if_pos hw]
        rw [← hdst] at h
        exact .inl (Qc4 hg hinv hop h hnext)
      · rw [if_neg (by rw [hw]; simp)]
        refine hnext _ _ w ?_ h
        rw [← hdst]
        exact ⟨β, B, hinv.rel.put (d := .skip) (v := Go.undef) rfl, hinv.below, hinv.given⟩
theorem Qes {β : Type} (f : Nat → β) (t : Nat) : ∀ l : List Nat, (l.zip (l.map f)).lookup t = if t ∈ l then some (f t) else none
  | [] => rfl
  | x :: l => by
    simp only [List.map_cons, List.zip_cons_cons, List.lookup_cons, Qes f t l, List.mem_cons]
    by_cases e : t = x
    · subst e; simp
    · have : (t == x) = false := by simpa using e
      simp [this, e]
theorem Inv'.pack {slots names : List Nat} (h : Inv' ρ S₀ w0 F s a w) : Inv' ρ S₀ w0 F (unpackS slots names (packS slots names s)) a w := by
  obtain ⟨β, B, hi⟩ := h
  refine ⟨β, B, hi.rel.keep _ _ (fun i => ?_) (fun R => ?_), hi.below, hi.given.sub fun R hR => ?_⟩
  · simp only [unpackS, packS, Qes]
    split
    · exact .inl rfl
    · exact .inr rfl
  · simp only [unpackS, packS, Qes]
    split
    · exact .inl rfl
    · exact .inr rfl
  · simp only [unpackS, packS, Qes] at hR
    split at hR
    · exact hR
    · cases hR
def partB (md : Region.Mode) (ops : Array Oper) (k : Nat) (prs : List (Nat × Nat)) (os' : List AOper) : Bool := decide (k ≤ ops.size) && backB md ops k && coverB md ops k && forcedB md ops k &&
  ((List.range k).all fun i => match os'[i]? with
    | some o => o.guard.isNone && (List.range k).all fun j => match os'[j]? with
      | some o2 => linkP md ops i j o o2
      | none => true
    | none => false) && prs.all fun p => nearB md ops p.2 p.1
theorem Qwy {os : List AOper} {i : Nat} {o : AOper} : (i, o) ∈ chainI os ↔ os[i]? = some o ∧ o.op.still = false := by
  unfold chainI
  rw [List.mem_filterMap]
  constructor
  · rintro ⟨j, _, h⟩
    split at h
    · rename_i o2 ho
      split at h
      · cases h
      · rename_i hs
        cases h
        exact ⟨ho, by simpa using hs⟩
    · cases h
  · rintro ⟨h1, h2⟩
    refine ⟨i, List.mem_range.2 (List.getElem?_eq_some_iff.1 h1).1, ?_⟩
    rw [h1]
    simp [h2]
theorem Qxs (hg : Good P ρ E) (hp : P.follows .mixedOrders = true) {id : Nat} {prs : List (Nat × Nat)} {slots names : List Nat} (hB : partB .any ops k prs os' = true) (hm : matchOps ρ P F.wd ops (ops.toList.take k) (os'.take k) = true) (hm2 : matchOps ρ P F.wd ops (ops.toList.drop k) (os'.drop k) = true) {K : St → Option α}
    (hinv : Inv' ρ S₀ w0 F s a w) {T : List Nat} (h : ((execV E T s.Γ (stills (os'.take k)) (blank (stills (os'.take k)) s.fr) fun fr => execT E T prs k (chainI (os'.take k)) ⟨fr, s.Γ⟩ fun s' => some (packS slots names s')).bind fun p => execOps false E (os'.drop k) (unpackS slots names p) K) = some r)
    (hK : ∀ s' a' w', Inv' ρ S₀ w0 F s' a' w' → K s' = some r → Q .normal a' w') : (Code.region id ops true).wp P Q a w := by
  simp only [partB, Bool.and_eq_true, decide_eq_true_eq] at hB
  obtain ⟨⟨⟨⟨⟨hk, hback⟩, hcover⟩, hforced⟩, hq⟩, hprs⟩ := hB
  rw [List.all_eq_true] at hprs
  obtain ⟨pk, h, hrest⟩ := Option.bind_eq_some_iff.1 h
  have hkl : (os'.take k).length = k := by
    have := (Qbi hm).1
    rw [List.length_take, Array.length_toList] at this
    omega
  have hget : ∀ (i : Nat) (o : AOper), (os'.take k)[i]? = some o → i < k ∧ os'[i]? = some o := fun i o ho => by
    have h1 := (List.getElem?_eq_some_iff.1 ho).1
    have h2 : i < k := by omega
    rw [List.getElem?_take_of_lt h2] at ho
    exact ⟨h2, ho⟩
  simp only [List.all_eq_true, List.mem_range] at hq
  have hgu : ∀ (m : Nat) (o : AOper), (os'.take k)[m]? = some o → o.guard = none := fun m o ho => by
    obtain ⟨h1, h2⟩ := hget m o ho
    have := hq m h1
    rw [h2] at this
    simp only [Bool.and_eq_true, Option.isNone_iff_eq_none] at this
    exact this.1
  have hlink : ∀ (i j : Nat) (o o2 : AOper), (os'.take k)[i]? = some o → (os'.take k)[j]? = some o2 → linkP .any ops i j o o2 = true := fun i j o o2 ho ho2 => by
    obtain ⟨h1, h2⟩ := hget i o ho
    obtain ⟨h3, h4⟩ := hget j o2 ho2
    have := hq i h1
    rw [h2] at this
    simp only [Bool.and_eq_true, List.all_eq_true, List.mem_range] at this
    have := this.2 j h3
    rw [h4] at this
    exact this
  generalize hos : os'.take k = os at *
  have hpair : (stills os).Pairwise fun o o2 => ∀ t, o2.dst = some t → t ∉ o.op.uses ∧ o.dst ≠ some t := by
    unfold stills
    rw [List.pairwise_filter, List.pairwise_iff_getElem]
    intro i j hi hj hij hs1 hs2 t hd
    have h7 := hlink i j os[i] os[j] (List.getElem?_eq_getElem hi) (List.getElem?_eq_getElem hj)
    unfold linkP at h7
    rw [if_pos hs1] at h7
    simp only [hs2, Bool.and_eq_true, Bool.or_eq_true, Bool.not_eq_true', beq_iff_eq, bne_iff_ne, ne_eq, decide_eq_true_eq] at h7
    constructor
    · intro hu
      have : readsOf os[i] os[j] = true := by simp only [readsOf, hd]; simpa using hu
      rw [this] at h7
      rcases h7.1 with h8 | h8
      · cases h8
      · omega
    · intro he
      rcases h7.2 with h8 | h8
      · omega
      · exact h8 (by rw [hd, he])
  have hself : ∀ o ∈ stills os, ∀ t, o.dst = some t → t ∉ o.op.uses := fun o ho t hd hu => by
    simp only [stills, List.mem_filter] at ho
    obtain ⟨i, hi⟩ := List.mem_iff_getElem?.1 ho.1
    have h7 := hlink i i o o hi hi
    unfold linkP at h7
    rw [if_pos ho.2] at h7
    have : readsOf o o = true := by simp only [readsOf, hd]; simpa using hu
    simp [this] at h7
  obtain ⟨fp, h1, h2, h3⟩ := Qf8 _ _ h hpair hself
  refine wp_region_any hp ?_
  have e1 : ops.size = k + (ops.size - k) := by omega
  have e2 : Array.replicate ops.size false = Array.replicate k false ++ Array.replicate (ops.size - k) false := by
    rw [Array.replicate_append_replicate, ← e1]
  rw [e2]
  have hfalse : ∀ m, lst (Array.replicate k false) m = false := fun m => by
    simp only [lst, Array.getD_eq_getD_getElem?, Array.getElem?_replicate]
    split <;> rfl
  have hinv2 : Inv' ρ S₀ w0 F ⟨mask os (lst (Array.replicate k false)) fp, s.Γ⟩ a { w with drawn := w.drawn + 1 } := by
    have e3 : mask os (lst (Array.replicate k false)) fp = blank (stills os) s.fr := by
      funext t
      by_cases hw : ∃ (m : Nat) (o2 : AOper), os[m]? = some o2 ∧ o2.op.still = true ∧ o2.dst = some t
      · obtain ⟨m, o2, hm2, hs2, hd2⟩ := hw
        rw [Qa5 hm2 hs2 hd2 (hfalse m)]
        unfold blank
        rw [if_pos]
        simp only [List.any_eq_true, stills, List.mem_filter]
        exact ⟨o2, ⟨List.mem_of_getElem? hm2, hs2⟩, by simp [hd2]⟩
      · rw [Qx (fun m o2 hm2 hs2 hd2 => absurd ⟨m, o2, hm2, hs2, hd2⟩ hw)]
        refine h2 t fun o ho hd => hw ?_
        simp only [stills, List.mem_filter] at ho
        obtain ⟨i, hi⟩ := List.mem_iff_getElem?.1 ho.1
        exact ⟨i, o, hi, ho.2, hd⟩
    rw [e3]
    obtain ⟨β, B, hi⟩ := hinv.blank (os := stills os)
    exact ⟨β, B, hi.grow ((Below.refl _ _).drew)⟩
  have key := Qxg (Q := Q) (r := pk) (fp := fp) (s0 := ⟨fp, s.Γ⟩) hg hk hback hcover hm hgu hlink (prs := prs) (fun pr hpr => hprs pr hpr) rfl h3
    k (Array.replicate k false) a { w with drawn := w.drawn + 1 } (by simp) (fun i o hi => by
      exfalso
      have := hfalse i
      rw [lst] at this
      rw [this] at hi
      cases hi) (by
      unfold unlisted
      exact Nat.le_trans (List.length_filter_le _ _) (by simp)) k (chainI os) ⟨fp, s.Γ⟩ (Past.refl _ _ _) h1 (fun i o => by rw [Qwy, hfalse i]; simp) hinv2 (fun s' a' w' fuel hfu hks hinv' => Qdy hforced (ops.size - k) k (by omega) (Nat.le_refl _) fuel a' w' hfu (by
      have := wpOps_eq_wpList (P := P) (ops := ops) (Q := Q) (ops.toList.drop k) k (fun j => by simp)
      rw [List.length_drop, Array.length_toList] at this
      rw [this]
      have hpk : packS slots names s' = pk := by simpa using hks
      have hinv3 := Inv'.pack (slots := slots) (names := names) hinv'
      rw [hpk] at hinv3
      exact Qbj hg _ _ _ a' w' hm2 hinv3 hrest hK))
  rwa [← e1] at key
end
end Go.Proofs.Ytboenehajoaahaa.Am
