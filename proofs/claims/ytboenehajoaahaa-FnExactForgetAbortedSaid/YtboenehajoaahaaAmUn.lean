import Derived.Test.YtboenehajoaahaaAmU
namespace Go.Proofs.Ytboenehajoaahaa.Am
open Go Go.RowKit
section
variable {α : Type} {P : Program} {ρ : Nat → FuncId} {F : Fm} {S₀ : Nat → Prop} {w0 : Org} {w : World} {E : Env} {s : St} {a : Act} {r : α} {ops : Array Oper} {k : Nat} {md : Region.Mode} {Q : Exit → Act → World → Prop} {os' : List AOper} {ds : List D}
theorem Qc1 {nm : Nat} : ∀ (d : D), freeB nm d = true → d.retag (.purge nm) = d
  | .agg ds, h => by simp only [D.retag]; rw [go ds h]
  | .tup ds, h => by simp only [D.retag]; rw [go ds h]
  | .osl k ds, h => by simp only [D.retag]; rw [go ds h]
  | .fnv r ds, h => by simp only [D.retag]; rw [go ds h]
  | .ref R p k part, h => by
    simp only [freeB, bne_iff_ne, ne_eq] at h
    simp only [D.retag, Tag.purge, h, if_false]
  | .ptr R p, h => by
    simp only [freeB, bne_iff_ne, ne_eq] at h
    simp only [D.retag, Tag.purge, h, if_false]
  | .val u, _ => rfl
  | .own u, _ => rfl
  | .asl k us, _ => rfl
  | .junk n, _ => rfl
  | .skip, _ => rfl
  | .undef, _ => rfl
where go : ∀ ds : List D, freeB.frees nm ds = true → D.retag.retags (.purge nm) ds = ds
  | [], _ => rfl
  | d :: ds, h => by
    simp only [freeB.frees, Bool.and_eq_true] at h
    simp only [D.retag.retags]
    rw [Qc1 d h.1, go ds h.2]
def addL : Nat → List AOper → List Cn → (Nat → Bool) → Hp → Hp
  | j, o :: os, c :: cs, l, Γ => addL (j + 1) os cs l (match o.op.gives with
    | some nm => if l j = true then upd Γ nm (some c) else Γ
    | none => Γ)
  | _, _, _, _, Γ => Γ
theorem Qd7 : ∀ (os : List AOper) (cs : List Cn) (j : Nat) (l l' : Nat → Bool) (Γ : Hp), (∀ (m : Nat) (o : AOper), os[m]? = some o → o.op.gives ≠ none → l (j + m) = l' (j + m)) → addL j os cs l Γ = addL j os cs l' Γ
  | [], _, _, _, _, _, _ => rfl
  | _ :: _, [], _, _, _, _, _ => rfl
  | o :: os, c :: cs, j, l, l', Γ, h => by
    simp only [addL]
    have e : (match o.op.gives with | some nm => if l j = true then upd Γ nm (some c) else Γ | none => Γ) = (match o.op.gives with | some nm => if l' j = true then upd Γ nm (some c) else Γ | none => Γ) := by
      have h0 := h 0 o rfl
      cases hm : o.op.gives with
      | none => rfl
      | some nm =>
        have := h0 (by rw [hm]; exact fun e => by cases e)
        rw [Nat.add_zero] at this
        simp only [this]
    rw [e]
    exact Qd7 os cs (j + 1) l l' _ (fun m o' h1 h2 => by
      have := h (m + 1) o' (by simpa using h1) h2
      rwa [show j + (m + 1) = j + 1 + m by omega] at this)
theorem Qaal {Γ : Hp} {a b : Nat} {x y : Option Cn} (h : a ≠ b) : upd (upd Γ a x) b y = upd (upd Γ b y) a x := by
  funext R
  simp only [upd]
  split <;> split <;> simp_all
theorem Qdj {nm : Nat} {x : Option Cn} : ∀ (os : List AOper) (cs : List Cn) (j : Nat) (l : Nat → Bool) (Γ : Hp), (∀ (m : Nat) (o : AOper), os[m]? = some o → o.op.gives = some nm → l (j + m) = false) → addL j os cs l (upd Γ nm x) = upd (addL j os cs l Γ) nm x
  | [], _, _, _, _, _ => rfl
  | _ :: _, [], _, _, _, _ => rfl
  | o :: os, c :: cs, j, l, Γ, h => by
    simp only [addL]
    have h0 := h 0 o rfl
    have ht : ∀ (m : Nat) (o : AOper), os[m]? = some o → o.op.gives = some nm → l (j + 1 + m) = false := fun m o' h1 h2 => by
      have := h (m + 1) o' (by simpa using h1) h2
      rwa [show j + (m + 1) = j + 1 + m by omega] at this
    cases hm : o.op.gives with
    | none => exact Qdj os cs (j + 1) l Γ ht
    | some nm2 =>
      simp only
      split
      · rename_i hl
        have hne : nm2 ≠ nm := fun e => by
          have := h0 (by rw [hm, e])
          rw [Nat.add_zero, hl] at this
          cases this
        rw [Qaal (Ne.symm hne)]
        exact Qdj os cs (j + 1) l _ ht
      · exact Qdj os cs (j + 1) l Γ ht
theorem Qic : ∀ (os : List AOper) (cs : List Cn) (j : Nat) (l l' : Nat → Bool) (Γ : Hp) (i : Nat) (o : AOper) (nm : Nat) (c : Cn), os[i]? = some o → cs[i]? = some c → o.op.gives = some nm → l (j + i) = false → l' (j + i) = true → (∀ m, m ≠ i → l' (j + m) = l (j + m)) →
    (∀ (m : Nat) (o2 : AOper), os[m]? = some o2 → o2.op.gives = some nm → m ≤ i ∨ l (j + m) = false) → addL j os cs l' Γ = upd (addL j os cs l Γ) nm (some c)
  | [], _, _, _, _, _, _, _, _, _, h, _, _, _, _, _, _ => by simp at h
  | _ :: _, [], _, _, _, _, _, _, _, _, _, h, _, _, _, _, _ => by simp at h
  | o1 :: os, c1 :: cs, j, l, l', Γ, i, o, nm, c, ho, hc, hm, hl, hl', hlo, hdis => by
    cases i with
    | zero =>
      simp only [List.getElem?_cons_zero, Option.some.injEq] at ho hc
      subst ho; subst hc
      rw [Nat.add_zero] at hl hl'
      simp only [addL, hm, hl, hl', if_true, Bool.false_eq_true, if_false]
      rw [Qd7 os cs (j + 1) l' l _ (fun m o2 h1 _ => by
        have := hlo (m + 1) (by omega)
        rwa [show j + (m + 1) = j + 1 + m by omega] at this)]
      exact Qdj os cs (j + 1) l Γ (fun m o2 h1 h2 => by
        rcases hdis (m + 1) o2 (by simpa using h1) h2 with h3 | h3
        · omega
        · rwa [show j + (m + 1) = j + 1 + m by omega] at h3)
    | succ i =>
      have h0 := hlo 0 (by omega)
      rw [Nat.add_zero] at h0
      simp only [addL, h0]
      refine Qic os cs (j + 1) l l' _ i o nm c (by simpa using ho) (by simpa using hc) hm (by rwa [show j + 1 + i = j + (i + 1) by omega]) (by rwa [show j + 1 + i = j + (i + 1) by omega]) (fun m hne => ?_) (fun m o2 h1 h2 => ?_)
      · have := hlo (m + 1) (by omega)
        rwa [show j + (m + 1) = j + 1 + m by omega] at this
      · rcases hdis (m + 1) o2 (by simpa using h1) h2 with h3 | h3
        · left; omega
        · right; rwa [show j + (m + 1) = j + 1 + m by omega] at h3
theorem Qia : ∀ (os : List AOper) (cs : List Cn) (j : Nat) (l : Nat → Bool) (Γ : Hp) (i : Nat) (o : AOper) (nm : Nat) (c : Cn), os[i]? = some o → cs[i]? = some c → o.op.gives = some nm → l (j + i) = true →
    (∀ (m : Nat) (o2 : AOper), os[m]? = some o2 → o2.op.gives = some nm → m ≤ i ∨ l (j + m) = false) → addL j os cs l Γ nm = some c
  | [], _, _, _, _, _, _, _, _, h, _, _, _, _ => by simp at h
  | _ :: _, [], _, _, _, _, _, _, _, _, h, _, _, _ => by simp at h
  | o1 :: os, c1 :: cs, j, l, Γ, i, o, nm, c, ho, hc, hm, hl, hdis => by
    cases i with
    | zero =>
      simp only [List.getElem?_cons_zero, Option.some.injEq] at ho hc
      subst ho; subst hc
      rw [Nat.add_zero] at hl
      simp only [addL, hm, hl, if_true]
      rw [Qdj os cs (j + 1) l Γ (fun m o2 h1 h2 => by
        rcases hdis (m + 1) o2 (by simpa using h1) h2 with h3 | h3
        · omega
        · rwa [show j + (m + 1) = j + 1 + m by omega] at h3)]
      exact Qd _ _ _
    | succ i =>
      simp only [addL]
      refine Qia os cs (j + 1) l _ i o nm c (by simpa using ho) (by simpa using hc) hm (by rwa [show j + 1 + i = j + (i + 1) by omega]) (fun m o2 h1 h2 => ?_)
      rcases hdis (m + 1) o2 (by simpa using h1) h2 with h3 | h3
      · left; omega
      · right; rwa [show j + (m + 1) = j + 1 + m by omega] at h3
theorem Qv8 {Γ : Hp} {nm : Nat} {c : Cn} {m : Tag} (hΓ : Hp.retag Γ m = Γ) (hc : c.retag m = c) : Hp.retag (upd Γ nm (some c)) m = upd Γ nm (some c) := by
  funext R
  by_cases e : R = nm
  · subst e
    simp [Hp.retag, Qd, hc]
  · have := congrFun hΓ R
    simp only [Hp.retag, Qa _ _ e] at this ⊢
    exact this
theorem Qh9 : ∀ (os : List AOper) (cs : List Cn) (j : Nat) (l : Nat → Bool) (Γ : Hp) (m : Tag), Hp.retag Γ m = Γ → (∀ (i : Nat) (o : AOper) (c : Cn) (nm : Nat), os[i]? = some o → cs[i]? = some c → o.op.gives = some nm → l (j + i) = true → c.retag m = c) → Hp.retag (addL j os cs l Γ) m = addL j os cs l Γ
  | [], _, _, _, _, _, h, _ => h
  | _ :: _, [], _, _, _, _, h, _ => h
  | o :: os, c :: cs, j, l, Γ, m, h, hc => by
    simp only [addL]
    refine Qh9 os cs (j + 1) l _ m ?_ (fun i o2 c2 nm h1 h2 h3 h4 => hc (i + 1) o2 c2 nm (by simpa using h1) (by simpa using h2) h3 (by rwa [show j + (i + 1) = j + 1 + i by omega]))
    split
    · rename_i nm hm
      split
      · rename_i hlj
        exact Qv8 h (hc 0 o c nm rfl rfl hm (by rwa [Nat.add_zero]))
      · exact h
    · exact h
theorem Qib {R : Nat} : ∀ (os : List AOper) (cs : List Cn) (j : Nat) (l : Nat → Bool) (Γ : Hp), (∀ (i : Nat) (o : AOper), os[i]? = some o → o.op.gives ≠ some R) → addL j os cs l Γ R = Γ R
  | [], _, _, _, _, _ => rfl
  | _ :: _, [], _, _, _, _ => rfl
  | o :: os, c :: cs, j, l, Γ, h => by
    simp only [addL]
    rw [Qib os cs (j + 1) l _ (fun i o2 h1 => h (i + 1) o2 (by simpa using h1))]
    cases hm : o.op.gives with
    | none => rfl
    | some nm =>
      have : nm ≠ R := fun e => h 0 o rfl (by rw [hm, e])
      simp only
      split
      · exact Qa _ _ (Ne.symm this)
      · rfl
theorem Qfo : ∀ (os : List AOper) (cs : List Cn) (j : Nat) (l : Nat → Bool) (Γ : Hp), (∀ m, j ≤ m → l m = false) → addL j os cs l Γ = Γ
  | [], _, _, _, _, _ => rfl
  | _ :: _, [], _, _, _, _ => rfl
  | o :: os, c :: cs, j, l, Γ, h => by
    simp only [addL, h j (Nat.le_refl _)]
    rw [Qfo os cs (j + 1) l _ (fun m hm => h m (by omega))]
    cases o.op.gives <;> rfl
theorem Qnu : ∀ (os : List AOper) (ds : List D) (j : Nat) (l : Nat → Bool) (fr : Frm) (m : Tag), (∀ t, (fr t).retag m = fr t) → (∀ (i : Nat) (o : AOper) (d : D), os[i]? = some o → ds[i]? = some d → l (j + i) = true → d.retag m = d) → ∀ t, (putsL j os ds l fr t).retag m = putsL j os ds l fr t
  | [], _, _, _, _, _, h, _ => h
  | _ :: _, [], _, _, _, _, h, _ => h
  | o :: os, d :: ds, j, l, fr, m, h, hd => by
    simp only [putsL]
    refine Qnu os ds (j + 1) l _ m (fun t => ?_) (fun i o2 d2 h1 h2 h3 => hd (i + 1) o2 d2 (by simpa using h1) (by simpa using h2) (by rwa [show j + (i + 1) = j + 1 + i by omega]))
    split
    · rename_i hl
      simp only [Frm.put]
      split
      · exact hd 0 o d rfl rfl (by rwa [Nat.add_zero])
      · exact h t
    · exact h t
theorem Qxe {Γn : Hp} (hg : Good P ρ E) (hb : drawB md ops k os' = true) (hm : matchOps ρ P F.wd ops (ops.toList.take k) os' = true) (hlen : ds.length = os'.length) {cs : List Cn}
    (hgu : ∀ (m : Nat) (o : AOper), os'[m]? = some o → o.guard = none)
    (hone : ∀ (i : Nat) (oi : AOper) (nm : Nat), os'[i]? = some oi → oi.op.gives = some nm → ∀ (m : Nat) (om : AOper), os'[m]? = some om → om.op.gives = some nm → m ≤ i ∨ nearB md ops m i = true)
    (hval : ∀ (m : Nat) (o : AOper) (d : D), os'[m]? = some o → ds[m]? = some d → o.op.gives = none → ∀ (l : Nat → Bool) (Kd : D → Option α), Kd d = some r → o.value E (putsL 0 os' ds (fun i => decide (i < 0 + m)) s.fr) (addL 0 os' cs l s.Γ) Kd = some r)
    (hmk : ∀ (m : Nat) (o : AOper) (d : D) (nm : Nat), os'[m]? = some o → ds[m]? = some d → o.op.made = some nm → ∃ c, cs[m]? = some c ∧ (∀ m' : Tag, c.retag m' = c) ∧
      ∀ fr' : Frm, (∀ t ∈ o.uses, putsL 0 os' ds (fun i => decide (i < 0 + m)) s.fr t = fr' t) → ∀ (Γ' : Hp), (∀ R c, Γn R = some c → Γ' R = some c) → ∀ (K' : Eff → Option α), K' (.st [.purge nm] d (upd (Hp.retag Γ' (.purge nm)) nm (some c))) = some r → o.op.step E fr' Γ' K' = some r)
    (hout : ∀ (l : Nat → Bool) (R : Nat) (c : Cn), Γn R = some c → addL 0 os' cs l s.Γ R = some c)
    (hput : ∀ (m : Nat) (o : AOper) (d : D) (nm : Nat), os'[m]? = some o → ds[m]? = some d → o.op.made = none → o.op.puts = some nm → o.dst = none ∧ ∃ c i0 o0 c0, cs[m]? = some c ∧ (∀ (i : Nat) (oi : AOper) (nm' : Nat), os'[i]? = some oi → oi.op.made = some nm' → i ≠ m → nearB md ops m i = true ∨ c.retag (.purge nm') = c) ∧ os'[i0]? = some o0 ∧ cs[i0]? = some c0 ∧ o0.op.gives = some nm ∧ i0 ≠ m ∧ nearB md ops m i0 = true ∧ (∀ (m2 : Nat) (o2 : AOper), os'[m2]? = some o2 → o2.op.gives = some nm → m2 = i0 ∨ m2 = m) ∧
      ∀ fr' : Frm, (∀ t ∈ o.uses, putsL 0 os' ds (fun i => decide (i < 0 + m)) s.fr t = fr' t) → ∀ (Γ' : Hp), Γ' nm = some c0 → ∀ (K' : Eff → Option α), K' (.st [] .skip (upd Γ' nm (some c))) = some r → o.op.step E fr' Γ' K' = some r)
    (hfree : ∀ (i : Nat) (oi : AOper) (nm : Nat), os'[i]? = some oi → oi.op.made = some nm → (∀ t, (s.fr t).retag (.purge nm) = s.fr t) ∧ Hp.retag s.Γ (.purge nm) = s.Γ ∧ ∀ (j : Nat) (d : D), j ≠ i → ds[j]? = some d → nearB md ops j i = true ∨ d.retag (.purge nm) = d) :
    ∀ (fuel : Nat) (l : Array Bool) (a : Act) (w : World), l.size = k → Down md ops l → unlisted l k ≤ fuel → Inv' ρ S₀ w0 F ⟨putsL 0 os' ds (lst l) s.fr, addL 0 os' cs (lst l) s.Γ⟩ a w →
    (∀ (a : Act) (w : World) (fuel : Nat), ops.size - k ≤ fuel → Inv' ρ S₀ w0 F ⟨putsL 0 os' ds (lst (Array.replicate k true)) s.fr, addL 0 os' cs (lst (Array.replicate k true)) s.Γ⟩ a w → wpAny P md ops Q fuel (upto ops.size k) a w) → wpAny P md ops Q (fuel + (ops.size - k)) (l ++ Array.replicate (ops.size - k) false) a w := by
  simp only [drawB, Bool.and_eq_true, decide_eq_true_eq] at hb
  obtain ⟨⟨⟨⟨hk, hback⟩, hcover⟩, _⟩, hssa⟩ := hb
  obtain ⟨hml, hmg⟩ := Qbi hm
  have hkl : os'.length = k := by
    rw [← hml, List.length_take, Array.length_toList]
    omega
  have hspec := Qfc os' 0 _ hssa
  intro fuel
  induction fuel with
  | zero =>
    intro l a w hs hd hu hinv hK
    obtain rfl := Qb3 hs (by omega)
    exact hK a w _ (by omega) hinv
  | succ fuel ih =>
    intro l a w hs hd hu hinv hK
    by_cases hz : unlisted l k = 0
    · obtain rfl := Qb3 hs hz
      exact hK a w _ (by omega) hinv
    · -- one may come up
      have hex : ∃ i, i < k ∧ l.getD i false = false := by
        unfold unlisted at hz
        obtain ⟨i, hi⟩ := List.exists_mem_of_length_pos (Nat.pos_of_ne_zero hz)
        simp only [List.mem_filter, List.mem_range, lst, Bool.not_eq_true'] at hi
        exact ⟨i, hi⟩
      obtain ⟨i0, hi0, hl0⟩ := hex
      obtain ⟨j0, hj0, hjl0, o0, ho0, hall0⟩ := Qee (l := l) hback hk i0 i0 rfl hi0 hl0
      have hready0 : j0 ∈ Region.ready md ops (l ++ Array.replicate (ops.size - k) false) := mem_ready.2 ⟨by rw [Qac (by omega), Qbu (by omega)]; exact hjl0, o0, ho0, fun e he hbd => (by
        obtain ⟨h1, h2⟩ := hall0 e he hbd
        rw [Qac (by omega)]; exact h1)⟩
      have hsub : ∀ i, i ∈ Region.ready md ops (l ++ Array.replicate (ops.size - k) false) → i < k ∧ l.getD i false = false ∧ ∃ o, ops[i]? = some o ∧ ∀ e ∈ o.after, Region.binds md e = true → l.getD e.on false = true := by
        intro i hi
        obtain ⟨h0, o, ho, hall⟩ := mem_ready.1 hi
        have hin : i < ops.size := (Array.getElem?_eq_some_iff.1 ho).1
        have hall' : ∀ e ∈ o.after, Region.binds md e = true → l.getD e.on false = true := fun e he hbd => by
          have h1 := hall e he hbd
          by_cases hek : e.on < k
          · rw [Qac (by omega)] at h1; exact h1
          · rw [Qep (by omega)] at h1; cases h1
        by_cases hik : i < k
        · exact ⟨hik, by rw [Qac (by omega), Qbu (by omega)] at h0; exact h0, o, ho, hall'⟩
        · exfalso
          simp only [coverB, List.all_eq_true, List.mem_range] at hcover
          have h2 := hcover (i - k) (by omega) i0 hi0
          rw [show k + (i - k) = i by omega] at h2
          have := Qbk hd ho hall' h2
          rw [hl0] at this
          cases this
      rw [show fuel + 1 + (ops.size - k) = (fuel + (ops.size - k)) + 1 by omega]
      refine ⟨fun hr0 => (by rw [hr0] at hready0; cases hready0), fun i hi => ?_⟩
      obtain ⟨hik, hil, o, ho, hall⟩ := hsub i hi
      have hset : (l ++ Array.replicate (ops.size - k) false).setIfInBounds i true = l.setIfInBounds i true ++ Array.replicate (ops.size - k) false := by
        rw [Array.setIfInBounds_append_left (by omega)]
      rw [hset]
      have hd' : Down md ops (l.setIfInBounds i true) := by
        intro j oj hj hoj e he hbd
        by_cases e1 : i = j
        · subst e1
          rw [ho] at hoj
          cases hoj
          exact getD_set_true (hall e he hbd)
        · rw [getD_set_ne false e1] at hj
          exact getD_set_true (hd j oj hj hoj e he hbd)
      have hu' : unlisted (l.setIfInBounds i true) k ≤ fuel := by
        have := Qfi hik hs hil
        omega
      obtain ⟨o', ho', hdst, hgd, hop⟩ := hmg i o (by rw [List.getElem?_take_of_lt hik, Array.getElem?_toList]; exact ho)
      have hdl : i < ds.length := by omega
      have hdi : ds[i]? = some ds[i] := List.getElem?_eq_getElem hdl
      obtain ⟨hs1, hs2⟩ := hspec i o' ho'
      have hlast : ∀ (m : Nat) (o1 : AOper) (t : Nat), os'[m]? = some o1 → o1.dst = some t → ∀ (m' : Nat) (o2 : AOper), m < m' → os'[m']? = some o2 → o2.dst ≠ some t := fun m o1 t h1 h2 m' o2 hmm h3 h4 => ((hspec m' o2 h3).2 t h4).2 m o1 hmm h1 h2
      have hnear : ∀ m, nearB md ops i m = true → l.getD m false = true := fun m h6 => by
        unfold nearB at h6
        simp only [Bool.or_eq_true] at h6
        rcases h6 with h6 | h6
        · rw [ho] at h6
          simp only [Option.map_some, Option.getD_some, Array.any_eq_true, Bool.and_eq_true, beq_iff_eq] at h6
          obtain ⟨x, hx, hbd, he⟩ := h6
          rw [← he]
          exact hall _ (Array.getElem_mem hx) hbd
        · exact Qbk hd ho hall h6
      have hagree : ∀ t ∈ o'.uses, putsL 0 os' ds (fun i' => decide (i' < 0 + i)) s.fr t = putsL 0 os' ds (lst l) s.fr t := fun t ht => by
        obtain ⟨_, hw⟩ := hs1 t ht
        by_cases hwr : ∃ (m : Nat) (o1 : AOper), os'[m]? = some o1 ∧ o1.dst = some t
        · obtain ⟨m, o1, ho1, hd1⟩ := hwr
          have hml2 : m < ds.length := by rw [hlen]; exact (List.getElem?_eq_some_iff.1 ho1).1
          rcases hw m o1 ho1 hd1 with h5 | ⟨h5, h6⟩ | ⟨h5, h6⟩
          · cases h5
          rotate_left
          · rw [Nat.zero_add, Nat.zero_add] at h6
            have hml3 : ¬ l.getD m false = true := fun hh => by
              have := Qc3 hd h6 hh
              rw [hil] at this
              cases this
            have only : ∀ (m2 : Nat) (o2 : AOper), os'[m2]? = some o2 → o2.dst = some t → m2 = m := fun m2 o2 h7 h8 => by
              rcases Nat.lt_trichotomy m2 m with h9 | h9 | h9
              · exact absurd hd1 (hlast m2 o2 t h7 h8 m o1 h9 ho1)
              · exact h9
              · exact absurd h8 (hlast m o1 t ho1 hd1 m2 o2 h9 h7)
            rw [Qai _ _ _ _ _ _ (fun m2 o2 h7 h9 h8 => by
                have := only m2 o2 h7 h8
                subst this
                simp only [decide_eq_true_eq] at h9
                omega),
              Qai _ _ _ _ _ _ (fun m2 o2 h7 h9 h8 => by
                have := only m2 o2 h7 h8
                subst this
                rw [Nat.zero_add] at h9
                exact hml3 h9)]
          · have hlm : l.getD m false = true := by
              rw [Nat.zero_add, Nat.zero_add] at h6
              unfold nearB at h6
              simp only [Bool.or_eq_true] at h6
              rcases h6 with h6 | h6
              · rw [ho] at h6
                simp only [Option.map_some, Option.getD_some, Array.any_eq_true, Bool.and_eq_true, beq_iff_eq] at h6
                obtain ⟨x, hx, hbd, he⟩ := h6
                rw [← he]
                exact hall _ (Array.getElem_mem hx) hbd
              · exact Qbk hd ho hall h6
            rw [Qax os' ds 0 _ s.fr t m o1 ds[m] ho1 (List.getElem?_eq_getElem hml2) hd1 (by simpa using h5) (hlast m o1 t ho1 hd1),
              Qax os' ds 0 _ s.fr t m o1 ds[m] ho1 (List.getElem?_eq_getElem hml2) hd1 (by rw [Nat.zero_add]; exact hlm) (hlast m o1 t ho1 hd1)]
        · rw [Qai _ _ _ _ _ _ (fun m o1 h1 _ h2 => hwr ⟨m, o1, h1, h2⟩), Qai _ _ _ _ _ _ (fun m o1 h1 _ h2 => hwr ⟨m, o1, h1, h2⟩)]
      have hframe : (putsL 0 os' ds (lst l) s.fr).put o'.dst ds[i] = putsL 0 os' ds (lst (l.setIfInBounds i true)) s.fr := by
        funext t
        have hli : (l.setIfInBounds i true).getD i false = true := by simp [hs, hik]
        simp only [Frm.put]
        split
        · rename_i e
          exact (Qax os' ds 0 _ s.fr t i o' ds[i] ho' hdi e (by rw [Nat.zero_add]; exact hli) (hlast i o' t ho' e)).symm
        · rename_i e
          by_cases hwr : ∃ (m : Nat) (o1 : AOper), os'[m]? = some o1 ∧ o1.dst = some t ∧ l.getD m false = true
          · obtain ⟨m, o1, ho1, hd1, hlm⟩ := hwr
            have hml2 : m < ds.length := by rw [hlen]; exact (List.getElem?_eq_some_iff.1 ho1).1
            rw [Qax os' ds 0 _ s.fr t m o1 ds[m] ho1 (List.getElem?_eq_getElem hml2) hd1 (by rw [Nat.zero_add]; exact hlm) (hlast m o1 t ho1 hd1),
              Qax os' ds 0 _ s.fr t m o1 ds[m] ho1 (List.getElem?_eq_getElem hml2) hd1 (by rw [Nat.zero_add]; exact getD_set_true hlm) (hlast m o1 t ho1 hd1)]
          · rw [Qai _ _ _ _ _ _ (fun m o1 h1 h3 h2 => hwr ⟨m, o1, h1, h2, by rwa [Nat.zero_add] at h3⟩), Qai _ _ _ _ _ _ (fun m o1 h1 h3 h2 => ?_)]
            rw [Nat.zero_add] at h3
            by_cases emi : i = m
            · subst emi
              rw [ho'] at h1
              cases h1
              exact e h2
            · refine hwr ⟨m, o1, h1, h2, ?_⟩
              have := getD_set_ne (listed := l) false emi
              rw [lst, this] at h3
              exact h3
      classical
      let Kt : St → Option α := fun s' => if s' = ⟨putsL 0 os' ds (lst (l.setIfInBounds i true)) s.fr, addL 0 os' cs (lst (l.setIfInBounds i true)) s.Γ⟩ then some r else none
      have hli : lst (l.setIfInBounds i true) i = true := by simp [lst, hs, hik]
      have hlo : ∀ m, m ≠ i → lst (l.setIfInBounds i true) m = lst l m := fun m hm => getD_set_ne (listed := l) false (Ne.symm hm)
      have hex : o'.exec false E ⟨putsL 0 os' ds (lst l) s.fr, addL 0 os' cs (lst l) s.Γ⟩ Kt = some r := by
        have hgset : ∀ nm c, cs[i]? = some c → o'.op.gives = some nm → addL 0 os' cs (lst (l.setIfInBounds i true)) s.Γ = upd (addL 0 os' cs (lst l) s.Γ) nm (some c) := fun nm c hci hg =>
          Qic os' cs 0 (lst l) (lst (l.setIfInBounds i true)) s.Γ i o' nm c ho' hci hg (by rw [Nat.zero_add]; exact hil) (by rw [Nat.zero_add]; exact hli) (fun m hm => by rw [Nat.zero_add]; exact hlo m hm) (fun m o2 h1 h2 => by
            rw [Nat.zero_add]
            rcases hone i o' nm ho' hg m o2 h1 h2 with h3 | h3
            · exact .inl h3
            · right
              cases hv : lst l m with
              | false => rfl
              | true =>
                have := Qc3 hd h3 hv
                rw [hil] at this
                cases this)
        cases hmd : o'.op.made with
        | none =>
          cases hpt : o'.op.puts with
          | none =>
            have hgn : o'.op.gives = none := by unfold AOp.gives; rw [hmd]; exact hpt
            have hgs : addL 0 os' cs (lst (l.setIfInBounds i true)) s.Γ = addL 0 os' cs (lst l) s.Γ := Qd7 _ _ _ _ _ _ fun m o2 h1 h2 => by
              rw [Nat.zero_add]
              by_cases e : m = i
              · subst e
                rw [ho'] at h1
                cases h1
                exact absurd hgn h2
              · exact hlo m e
            have hv := hval i o' ds[i] ho' hdi hgn (lst l) (fun d => if d = ds[i] then some r else none) (by simp)
            rw [Qpm hagree] at hv
            refine Qpo (o := o') (s := ⟨putsL 0 os' ds (lst l) s.fr, addL 0 os' cs (lst l) s.Γ⟩) (K := Kt) (r := r) (E := E) ?_
            obtain ⟨d, hd1, hd2⟩ := Qhx hv
            refine hd2 _ ?_
            have : d = ds[i] := by
              refine Classical.byContradiction fun hne => ?_
              simp only [hne, if_false] at hd1
              cases hd1
            subst this
            show Kt ⟨(putsL 0 os' ds (lst l) s.fr).put o'.dst ds[i], addL 0 os' cs (lst l) s.Γ⟩ = some r
            simp only [Kt, hframe, hgs, if_true]
          | some nm =>
            obtain ⟨hdn, c, i0, o0, c0, hci, hbare, ho0, hc0, hg0, hne0, hn0, honly, hstep⟩ := hput i o' ds[i] nm ho' hdi hmd hpt
            have hgn : o'.op.gives = some nm := by unfold AOp.gives; rw [hmd]; exact hpt
            have hgs := hgset nm c hci hgn
            have hl0 : lst l i0 = true := hnear i0 hn0
            have hhit : addL 0 os' cs (lst l) s.Γ nm = some c0 := Qia os' cs 0 (lst l) s.Γ i0 o0 nm c0 ho0 hc0 hg0 (by rw [Nat.zero_add]; exact hl0) (fun m o2 h1 h2 => by
              rcases honly m o2 h1 h2 with h3 | h3
              · left; omega
              · right; rw [Nat.zero_add, h3]; exact hil)
            unfold AOper.exec
            rw [hgu i o' ho']
            refine hstep _ hagree _ hhit _ ?_
            have hfr0 : (putsL 0 os' ds (lst l) s.fr).put o'.dst .skip = (putsL 0 os' ds (lst l) s.fr).put o'.dst ds[i] := by rw [hdn]; rfl
            show Kt ⟨(putsL 0 os' ds (lst l) s.fr).put o'.dst .skip, upd (addL 0 os' cs (lst l) s.Γ) nm (some c)⟩ = some r
            rw [hfr0, ← hgs]
            simp only [Kt, hframe, if_true]
        | some nm =>
          obtain ⟨c, hci, hbare, hstep⟩ := hmk i o' ds[i] nm ho' hdi hmd
          obtain ⟨hf1, hf2, hf3⟩ := hfree i o' nm ho' hmd
          have hgs := hgset nm c hci (by unfold AOp.gives; rw [hmd])
          have hfr : Frm.retag (putsL 0 os' ds (lst l) s.fr) (.purge nm) = putsL 0 os' ds (lst l) s.fr := by
            funext t
            refine Qnu os' ds 0 (lst l) s.fr (.purge nm) hf1 (fun j o2 d2 h1 h2 h3 => ?_) t
            rw [Nat.zero_add] at h3
            have hji : j ≠ i := by
              rintro rfl
              have h3 : l.getD j false = true := h3
              rw [hil] at h3
              cases h3
            rcases hf3 j d2 hji h2 with h4 | h4
            · exfalso
              have := Qc3 hd h4 h3
              rw [hil] at this
              cases this
            · exact h4
          have hΓ : Hp.retag (addL 0 os' cs (lst l) s.Γ) (.purge nm) = addL 0 os' cs (lst l) s.Γ := Qh9 os' cs 0 (lst l) s.Γ (.purge nm) hf2 (fun j o2 c2 nm2 h1 h2 h3 h7 => by
            have hjd : j < ds.length := by rw [hlen]; exact (List.getElem?_eq_some_iff.1 h1).1
            cases hm2 : o2.op.made with
            | some nm3 =>
              obtain ⟨c3, h4, h5, _⟩ := hmk j o2 ds[j] nm3 h1 (List.getElem?_eq_getElem hjd) hm2
              rw [h2] at h4
              cases h4
              exact h5 _
            | none =>
              have h6 : o2.op.puts = some nm2 := by unfold AOp.gives at h3; rw [hm2] at h3; exact h3
              obtain ⟨_, c3, _, _, _, h4, h5, _⟩ := hput j o2 ds[j] nm2 h1 (List.getElem?_eq_getElem hjd) hm2 h6
              rw [h2] at h4
              cases h4
              have hji : i ≠ j := by
                rintro rfl
                rw [ho'] at h1
                cases h1
                rw [hmd] at hm2
                cases hm2
              rcases h5 i o' nm ho' hmd hji with h8 | h8
              · exfalso
                rw [Nat.zero_add] at h7
                have := Qc3 hd h8 h7
                rw [hil] at this
                cases this
              · exact h8)
          unfold AOper.exec
          rw [hgu i o' ho']
          refine hstep _ hagree _ (hout _) _ ?_
          show Kt ⟨(Frm.retag (putsL 0 os' ds (lst l) s.fr) (.purge nm)).put o'.dst ds[i], upd (Hp.retag (addL 0 os' cs (lst l) s.Γ) (.purge nm)) nm (some c)⟩ = some r
          rw [hfr, hΓ, ← hgs]
          simp only [Kt, hframe, if_true]
      have hnext : ∀ s' a' w', Inv' ρ S₀ w0 F s' a' w' → Kt s' = some r → wpAny P md ops Q (fuel + (ops.size - k)) (l.setIfInBounds i true ++ Array.replicate (ops.size - k) false) a' w' := fun s' a' w' hinv' hk' => by
        simp only [Kt] at hk'
        split at hk'
        · rename_i e
          subst e
          exact ih _ a' w' (by simp [hs]) hd' hu' hinv' hK
        · cases hk'
      obtain ⟨β, B, hinv⟩ := hinv
      unfold wpOp
      rw [ho]
      simp only
      rcases Qcz hinv hgd hex with ⟨hw, h⟩ | ⟨hw, h⟩
      · rw [if_pos hw]
        rw [← hdst] at h
        exact .inl (Qc4 hg hinv hop h hnext)
      · rw [if_neg (by rw [hw]; simp)]
        refine hnext _ _ w ?_ h
        rw [← hdst]
        exact ⟨β, B, hinv.rel.put (d := .skip) (v := Go.undef) rfl, hinv.below, hinv.given⟩
theorem Qwt {fr : Frm} {Γ : Hp} {op : AOp} {K : D → Cn → Option α} {r : α} (h : op.make E fr Γ K = some r) : ∃ d c, K d c = some r ∧ ∀ K' : D → Cn → Option α, K' d c = some r → op.make E fr Γ K' = some r := by
  obtain ⟨⟨d, c⟩, h1, h2⟩ := Qgk E op fr Γ (fun x => K x.1 x.2) r h
  exact ⟨d, c, h1, fun K' h' => h2 (fun x => K' x.1 x.2) h'⟩
theorem Qxh {fr : Frm} {op : AOp} {K : D → Option α} {r : α} (h : op.putD fr K = some r) : ∃ u, K u = some r ∧ ∀ K' : D → Option α, K' u = some r → op.putD fr K' = some r := Qgy op fr K r h
theorem Qem {α : Type} {E : Env} {Γ0 : Hp} {r : α} {K : List D → St → Option α} : ∀ (os : List AOper) (j : Nat) (s : St) (acc : List D), execN E Γ0 os s acc K = some r →
    ∃ (ds : List D) (cs : List Cn), ds.length = os.length ∧ cs.length = os.length ∧ K (acc ++ ds) ⟨putsL j os ds (fun _ => true) s.fr, addL j os cs (fun _ => true) s.Γ⟩ = some r ∧
      (∀ (m : Nat) (o : AOper), os[m]? = some o → o.guard = none) ∧
      (∀ (m : Nat) (o : AOper) (d : D), os[m]? = some o → ds[m]? = some d → o.op.gives = none → ∀ Kd : D → Option α, Kd d = some r → o.op.stepQ E (putsL j os ds (fun i => decide (i < j + m)) s.fr) (addL j os cs (fun i => decide (i < j + m)) s.Γ) (Eff.value Kd) = some r) ∧
      (∀ (m : Nat) (o : AOper) (d : D) (c : Cn) (nm : Nat), os[m]? = some o → ds[m]? = some d → cs[m]? = some c → o.op.made = some nm → nm < 5000 ∧ ∀ K' : D → Cn → Option α, K' d c = some r → o.op.make E (putsL j os ds (fun i => decide (i < j + m)) s.fr) Γ0 K' = some r) ∧
      (∀ (m : Nat) (o : AOper) (d : D) (c : Cn) (nm : Nat), os[m]? = some o → ds[m]? = some d → cs[m]? = some c → o.op.made = none → o.op.puts = some nm → o.dst = none ∧ c = .box d ∧ ∀ K' : D → Option α, K' d = some r → o.op.putD (putsL j os ds (fun i => decide (i < j + m)) s.fr) K' = some r)
  | [], j, s, acc, h => ⟨[], [], rfl, rfl, by simpa [putsL, addL, execN] using h, fun m o ho => by simp at ho, fun m o d ho => by simp at ho, fun m o d c nm ho => by simp at ho, fun m o d c nm ho => by simp at ho⟩
  | o :: os, j, s, acc, h => by
    simp only [execN] at h
    cases hgu : o.guard with
    | some g => rw [hgu] at h; cases h
    | none =>
      rw [hgu] at h
      simp only at h
      cases hmd : o.op.made with
      | none =>
        rw [hmd] at h
        simp only at h
        cases hpt : o.op.puts with
        | none =>
          rw [hpt] at h
          simp only at h
          have hgv : o.op.gives = none := by unfold AOp.gives; rw [hmd]; exact hpt
          obtain ⟨d, hd, hv⟩ := Qfk _ (Qo2 E o.op s.fr s.Γ) (fun d => execN E Γ0 os ⟨s.fr.put o.dst d, s.Γ⟩ (acc ++ [d]) K) r h
          obtain ⟨ds, cs, h1, h1c, h2, h3, h4, h5, h6⟩ := Qem os (j + 1) ⟨s.fr.put o.dst d, s.Γ⟩ (acc ++ [d]) hd
          refine ⟨d :: ds, .held false :: cs, by simp [h1], by simp [h1c], by simpa [putsL, addL, hgv] using h2, fun m o' ho' => ?_, fun m o' d' ho' hd' hn Kd hKd => ?_, fun m o' d' c' nm ho' hd' hc' hn => ?_, fun m o' d' c' nm' ho' hd' hc' hn1 hn2 => ?_⟩
          · cases m with
            | zero => simp only [List.getElem?_cons_zero, Option.some.injEq] at ho'; subst ho'; exact hgu
            | succ m => exact h3 m o' (by simpa using ho')
          · cases m with
            | zero =>
              simp only [List.getElem?_cons_zero, Option.some.injEq] at ho' hd'
              subst ho'; subst hd'
              rw [Qbz _ _ _ _ _ (fun m hm => by simp; omega)]
              have e : addL j (o :: os) (.held false :: cs) (fun i => decide (i < j + 0)) s.Γ = s.Γ := by
                simp only [addL, hgv]
                exact Qfo _ _ _ _ _ fun m hm => by simp; omega
              rw [e]
              exact hv Kd hKd
            | succ m =>
              have := h4 m o' d' (by simpa using ho') (by simpa using hd') hn Kd hKd
              simp only [putsL, addL, hgv, decide_eq_true_eq]
              rw [if_pos (by omega)]
              rw [show j + (m + 1) = j + 1 + m by omega]
              exact this
          · cases m with
            | zero =>
              simp only [List.getElem?_cons_zero, Option.some.injEq] at ho'
              subst ho'
              rw [hmd] at hn
              cases hn
            | succ m =>
              have := h5 m o' d' c' nm (by simpa using ho') (by simpa using hd') (by simpa using hc') hn
              simp only [putsL, decide_eq_true_eq]
              rw [if_pos (by omega)]
              rw [show j + (m + 1) = j + 1 + m by omega]
              exact this
          · cases m with
            | zero =>
              simp only [List.getElem?_cons_zero, Option.some.injEq] at ho'
              subst ho'
              rw [hpt] at hn2
              cases hn2
            | succ m =>
              have := h6 m o' d' c' nm' (by simpa using ho') (by simpa using hd') (by simpa using hc') hn1 hn2
              simp only [putsL, decide_eq_true_eq]
              rw [if_pos (by omega)]
              rw [show j + (m + 1) = j + 1 + m by omega]
              exact this
        | some nmp =>
          rw [hpt] at h
          simp only at h
          have hdn : o.dst = none := by
            cases hdn : o.dst with
            | none => rfl
            | some x => rw [hdn] at h; cases h
          rw [hdn] at h
          simp only at h
          have hgv : o.op.gives = some nmp := by unfold AOp.gives; rw [hmd]; exact hpt
          obtain ⟨u, hd, hv⟩ := Qxh h
          obtain ⟨ds, cs, h1, h1c, h2, h3, h4, h5, h6⟩ := Qem os (j + 1) ⟨s.fr.put none u, upd s.Γ nmp (some (.box u))⟩ (acc ++ [u]) hd
          refine ⟨u :: ds, .box u :: cs, by simp [h1], by simp [h1c], by simpa [putsL, addL, hgv, hdn] using h2, fun m o' ho' => ?_, fun m o' d' ho' hd' hn Kd hKd => ?_, fun m o' d' c' nm' ho' hd' hc' hn => ?_, fun m o' d' c' nm' ho' hd' hc' hn1 hn2 => ?_⟩
          · cases m with
            | zero => simp only [List.getElem?_cons_zero, Option.some.injEq] at ho'; subst ho'; exact hgu
            | succ m => exact h3 m o' (by simpa using ho')
          · cases m with
            | zero =>
              simp only [List.getElem?_cons_zero, Option.some.injEq] at ho'
              subst ho'
              rw [hgv] at hn
              cases hn
            | succ m =>
              have := h4 m o' d' (by simpa using ho') (by simpa using hd') hn Kd hKd
              simp only [putsL, addL, hgv, hdn, decide_eq_true_eq]
              rw [if_pos (by omega), if_pos (by omega)]
              rw [show j + (m + 1) = j + 1 + m by omega]
              exact this
          · cases m with
            | zero =>
              simp only [List.getElem?_cons_zero, Option.some.injEq] at ho'
              subst ho'
              rw [hmd] at hn
              cases hn
            | succ m =>
              have := h5 m o' d' c' nm' (by simpa using ho') (by simpa using hd') (by simpa using hc') hn
              simp only [putsL, hdn, decide_eq_true_eq]
              rw [if_pos (by omega)]
              rw [show j + (m + 1) = j + 1 + m by omega]
              exact this
          · cases m with
            | zero =>
              simp only [List.getElem?_cons_zero, Option.some.injEq] at ho' hd' hc'
              subst ho'; subst hd'; subst hc'
              rw [Qbz _ _ _ _ _ (fun m hm => by simp; omega)]
              exact ⟨hdn, rfl, hv⟩
            | succ m =>
              have := h6 m o' d' c' nm' (by simpa using ho') (by simpa using hd') (by simpa using hc') hn1 hn2
              simp only [putsL, hdn, decide_eq_true_eq]
              rw [if_pos (by omega)]
              rw [show j + (m + 1) = j + 1 + m by omega]
              exact this
      | some nm =>
        rw [hmd] at h
        simp only at h
        split at h
        rotate_left
        · cases h
        rename_i hlt
        obtain ⟨d, c, hd, hv⟩ := Qwt h
        have hgv : o.op.gives = some nm := by unfold AOp.gives; rw [hmd]
        obtain ⟨ds, cs, h1, h1c, h2, h3, h4, h5, h6⟩ := Qem os (j + 1) ⟨s.fr.put o.dst d, upd s.Γ nm (some c)⟩ (acc ++ [d]) hd
        refine ⟨d :: ds, c :: cs, by simp [h1], by simp [h1c], by simpa [putsL, addL, hgv] using h2, fun m o' ho' => ?_, fun m o' d' ho' hd' hn Kd hKd => ?_, fun m o' d' c' nm' ho' hd' hc' hn => ?_, fun m o' d' c' nm' ho' hd' hc' hn1 hn2 => ?_⟩
        · cases m with
          | zero => simp only [List.getElem?_cons_zero, Option.some.injEq] at ho'; subst ho'; exact hgu
          | succ m => exact h3 m o' (by simpa using ho')
        · cases m with
          | zero =>
            simp only [List.getElem?_cons_zero, Option.some.injEq] at ho'
            subst ho'
            rw [hgv] at hn
            cases hn
          | succ m =>
            have := h4 m o' d' (by simpa using ho') (by simpa using hd') hn Kd hKd
            simp only [putsL, addL, hgv, decide_eq_true_eq]
            rw [if_pos (by omega), if_pos (by omega)]
            rw [show j + (m + 1) = j + 1 + m by omega]
            exact this
        · cases m with
          | zero =>
            simp only [List.getElem?_cons_zero, Option.some.injEq] at ho' hd' hc'
            subst ho'; subst hd'; subst hc'
            rw [hmd] at hn
            cases hn
            rw [Qbz _ _ _ _ _ (fun m hm => by simp; omega)]
            exact ⟨hlt, hv⟩
          | succ m =>
            have := h5 m o' d' c' nm' (by simpa using ho') (by simpa using hd') (by simpa using hc') hn
            simp only [putsL, decide_eq_true_eq]
            rw [if_pos (by omega)]
            rw [show j + (m + 1) = j + 1 + m by omega]
            exact this
        · cases m with
          | zero =>
            simp only [List.getElem?_cons_zero, Option.some.injEq] at ho'
            subst ho'
            rw [hmd] at hn1
            cases hn1
          | succ m =>
            have := h6 m o' d' c' nm' (by simpa using ho') (by simpa using hd') (by simpa using hc') hn1 hn2
            simp only [putsL, decide_eq_true_eq]
            rw [if_pos (by omega)]
            rw [show j + (m + 1) = j + 1 + m by omega]
            exact this
theorem Qyk {Γ Γ' : Hp} (hs : ∀ R c, Γ R = some c → Γ' R = some c) : ∀ (n : Nat) (d : D) (u : U), snap Γ n d = some u → snap Γ' n d = some u := by
  intro n
  induction n with
  | zero => intro d u h; cases d <;> first | exact h | cases h
  | succ n ih =>
    have lst : ∀ (ds : List D) (us : List U), snaps (snap Γ n) ds = some us → snaps (snap Γ' n) ds = some us := by
      intro ds
      induction ds with
      | nil => intro us h; exact h
      | cons d ds ihd =>
        intro us h
        obtain ⟨u, us', h1, h2, rfl⟩ := Qa9 h
        show (snap Γ' n d).bind (fun u => (snaps (snap Γ' n) ds).map (u :: ·)) = _
        rw [ih d u h1, ihd us' h2]
        rfl
    have hat : ∀ {R : Nat} {p : List Step} {K K' : D → Option U} {u : U}, (∀ d v, K d = some v → K' d = some v) → Γ.at R p K = some u → Γ'.at R p K' = some u := fun {R p K K' u} hk h => by
      rw [at_eq] at h ⊢
      obtain ⟨d, h1, h2⟩ := Option.bind_eq_some_iff.1 h
      have h3 : Γ'.atO R p = some d := by
        unfold Hp.atO Hp.at at h1 ⊢
        cases hR : Γ R with
        | none => rw [hR] at h1; cases h1
        | some c => rw [hR] at h1; rw [hs R c hR]; exact h1
      rw [h3]
      exact hk d u h2
    have hsl : ∀ {k : Nat} {d : D} {x y : Option U} {u : U}, (∀ v, x = some v → y = some v) → d.isSl k x = some u → d.isSl k y = some u := fun {k d x y u} hxy h => by
      cases d with
      | own w =>
        cases w with
        | sl k' us =>
          simp only [D.isSl, U.asSlK] at h ⊢
          split at h
          · rename_i e; rw [if_pos e]; exact hxy _ h
          · cases h
        | _ => cases h
      | asl k' us =>
        simp only [D.isSl] at h ⊢
        split at h
        · rename_i e; rw [if_pos e]; exact hxy _ h
        · cases h
      | osl k' us =>
        simp only [D.isSl] at h ⊢
        split at h
        · rename_i e; rw [if_pos e]; exact hxy _ h
        · cases h
      | _ => cases h
    intro d u h
    cases d with
    | val v => exact h
    | own v => exact h
    | asl k us => exact h
    | agg ds =>
      simp only [snap, Option.map_eq_some_iff] at h ⊢
      obtain ⟨us, h1, rfl⟩ := h
      exact ⟨us, lst ds us h1, rfl⟩
    | osl k ds =>
      simp only [snap, Option.map_eq_some_iff] at h ⊢
      obtain ⟨us, h1, rfl⟩ := h
      exact ⟨us, lst ds us h1, rfl⟩
    | fnv q ds =>
      simp only [snap, Option.map_eq_some_iff] at h ⊢
      obtain ⟨us, h1, rfl⟩ := h
      exact ⟨us, lst ds us h1, rfl⟩
    | ptr R p =>
      simp only [snap] at h ⊢
      refine hat (fun d v hv => ?_) h
      obtain ⟨w, h1, rfl⟩ := Option.map_eq_some_iff.1 hv
      rw [ih d w h1]
      rfl
    | ref R p k part =>
      cases part with
      | none =>
        simp only [snap] at h ⊢
        exact hat (fun d v hv => hsl (fun v hv => ih d v hv) hv) h
      | some om =>
        obtain ⟨off, len⟩ := om
        simp only [snap] at h ⊢
        refine hat (fun d v hv => hsl (fun v hv => ?_) hv) h
        obtain ⟨w, h1, h2⟩ := Option.bind_eq_some_iff.1 hv
        rw [ih d w h1]
        exact h2
    | _ => cases h
theorem Qhg {Γ Γ' : Hp} (hs : ∀ R c, Γ R = some c → Γ' R = some c) {n : Nat} : ∀ (ds : List D) (us : List U), snaps (snap Γ n) ds = some us → snaps (snap Γ' n) ds = some us
  | [], us, h => h
  | d :: ds, us, h => by
    obtain ⟨u, us', h1, h2, rfl⟩ := Qa9 h
    show (snap Γ' n d).bind (fun u => (snaps (snap Γ' n) ds).map (u :: ·)) = _
    rw [Qyk hs n d u h1, Qhg hs ds us' h2]
    rfl
theorem Qwu {fr : Frm} {Γ0 : Hp} {op : AOp} {nm : Nat} {d : D} {c : Cn} (hm : op.made = some nm) (hlt : nm < 5000) (h : ∀ K' : D → Cn → Option α, K' d c = some r → op.make E fr Γ0 K' = some r) :
    (∀ m : Tag, c.retag m = c) ∧ ∀ (Γ' : Hp) (_ : ∀ R c, Γ0 R = some c → Γ' R = some c) (K' : Eff → Option α), K' (.st [.purge nm] d (upd (Hp.retag Γ' (.purge nm)) nm (some c))) = some r → op.step E fr Γ' K' = some r := by
  classical
  have h' := h (fun d' c' => if d' = d ∧ c' = c then some r else none) (by simp)
  have same : ∀ {d' c'}, (if d' = d ∧ c' = c then some r else none) = some r → d' = d ∧ c' = c := fun hh => by
    split at hh
    · assumption
    · cases hh
  cases op with
  | alloc nm' z =>
    simp only [AOp.made, Option.some.injEq] at hm
    subst hm
    obtain ⟨rfl, rfl⟩ := same h'
    refine ⟨fun _ => rfl, fun Γ' hsub K' hK => ?_⟩
    simp only [AOp.step, mkVar, if_pos hlt]
    exact hK
  | mkslice nm' k bytes z l0 c0 =>
    simp only [AOp.made, Option.some.injEq] at hm
    subst hm
    simp only [AOp.make] at h'
    obtain ⟨n, hn, h'⟩ := Qad (K := fun l => (c0.ev fr).asInt fun c' => if 0 ≤ l ∧ l ≤ c' ∧ c' * bytes ≤ 140737488355328 ∧ z.size = k then (if D.ref nm' [] k none = d ∧ Cn.vir (.asl k (List.replicate l.toNat z)) = c then some r else none) else none) h'
    obtain ⟨n2, hn2, h'⟩ := Qad (K := fun c' => if 0 ≤ n ∧ n ≤ c' ∧ c' * bytes ≤ 140737488355328 ∧ z.size = k then (if D.ref nm' [] k none = d ∧ Cn.vir (.asl k (List.replicate n.toNat z)) = c then some r else none) else none) h'
    split at h'
    rotate_left
    · cases h'
    rename_i hc
    obtain ⟨rfl, rfl⟩ := same h'
    refine ⟨fun _ => rfl, fun Γ' hsub K' hK => ?_⟩
    simp only [AOp.step, hn, hn2, D.asInt, U.asInt]
    rw [if_pos hc]
    simp only [mkVar, if_pos hlt]
    exact hK
  | callF nm' tup ss q args =>
    simp only [AOp.made, Option.some.injEq] at hm
    subst hm
    simp only [AOp.make] at h'
    obtain ⟨us, hus, h'⟩ := Option.bind_eq_some_iff.1 h'
    obtain ⟨u, hu, h'⟩ := Option.bind_eq_some_iff.1 h'
    cases tup with
    | false =>
      have hs : ∃ s', ss = [s'] := by
        cases ss with
        | nil => cases h'
        | cons s' ss =>
          cases ss with
          | nil => exact ⟨s', rfl⟩
          | cons _ _ => cases h'
      obtain ⟨s', rfl⟩ := hs
      simp only [Qba] at h'
      obtain ⟨hnt, h'⟩ := Qgm (K := fun u => (s'.viewO nm' [] u).bind fun x => if x.2 = d ∧ Cn.vir x.1 = c then some r else none) h'
      obtain ⟨⟨c1, d1⟩, h1, h2⟩ := Option.bind_eq_some_iff.1 h'
      obtain ⟨rfl, rfl⟩ := same h2
      have hb : ∀ m : Tag, c1.retag m = c1 := fun m => Qd4 m s' nm' [] u c1 d1 h1
      refine ⟨fun m => by simp only [Cn.retag, hb], fun Γ' hsub K' hK => ?_⟩
      simp only [AOp.step, Qhg hsub _ _ hus, Option.bind_some, hu, Qba]
      have e : u.noTup (fun u => (s'.viewO nm' [] u).bind fun x => mkVar Γ' nm' (Cn.vir x.1) x.2 K') = (s'.viewO nm' [] u).bind fun x => mkVar Γ' nm' (Cn.vir x.1) x.2 K' := by
        cases u with
        | tup vs => exact absurd rfl (hnt vs)
        | _ => rfl
      rw [e, h1]
      simp only [Option.bind_some, mkVar, if_pos hlt, Cn.retag, hb]
      exact hK
    | true =>
      simp only [Qbb] at h'
      cases u with
      | tup vs =>
        simp only [U.asTup] at h'
        obtain ⟨⟨cs1, ds1⟩, h1, h2⟩ := Option.bind_eq_some_iff.1 h'
        obtain ⟨rfl, rfl⟩ := same h2
        have hb : ∀ m : Tag, (D.agg cs1).retag m = D.agg cs1 := fun m => by simp only [D.retag]; rw [Qd4.go m ss nm' [] 0 0 vs cs1 ds1 h1]
        refine ⟨fun m => by simp only [Cn.retag, hb], fun Γ' hsub K' hK => ?_⟩
        simp only [AOp.step, Qhg hsub _ _ hus, Option.bind_some, hu, Qbb, U.asTup, h1, mkVar, if_pos hlt, Cn.retag, hb]
        exact hK
      | _ => cases h'
  | _ => cases hm
theorem Qxj {fr : Frm} {op : AOp} {nm : Nat} {d : D} {z : U} (hm : op.puts = some nm) (h : ∀ K' : D → Option α, K' d = some r → op.putD fr K' = some r) (hz : ∀ size a x, op = .storeN nm size a x → z.size = size) :
    ∀ (Γ' : Hp), Γ' nm = some (.box (.val z)) → ∀ (K' : Eff → Option α), K' (.st [] .skip (upd Γ' nm (some (.box d)))) = some r → op.step E fr Γ' K' = some r := by
  classical
  intro Γ' hΓ K' hK
  have h' := h (fun u' => if u' = d then some r else none) (by simp)
  have same : ∀ {d'}, (if d' = d then some r else none) = some r → d' = d := fun hh => by
    split at hh
    · assumption
    · cases hh
  cases op with
  | storeN nm' size a x =>
    simp only [AOp.puts, Option.some.injEq] at hm
    subst hm
    have hsz := hz size a x rfl
    simp only [AOp.putD] at h'
    split at h'
    rotate_left
    · cases h'
    rename_i R he
    split at h'
    rotate_left
    · cases h'
    rename_i hR
    simp only [AOp.step, he, hR, if_true]
    split at h'
    · rename_i u' hu
      obtain ⟨hnt, h'⟩ := Qm5 h'
      split at h'
      rotate_left
      · cases h'
      rename_i hsu
      obtain rfl := same h'
      simp only [hu, hΓ]
      have e2 : (u'.noTup fun u => if u.size = size then (if z.size = size then K' (.st [] .skip (upd Γ' nm' (some (.box (.val u))))) else none) else none) = K' (.st [] .skip (upd Γ' nm' (some (.box (.val u'))))) := by
        have : ∀ (F : U → Option α), u'.noTup F = F u' := fun F => by
          cases u' with
          | tup vs => exact absurd rfl (hnt vs)
          | _ => rfl
        rw [this, if_pos hsu, if_pos hsz]
      exact e2.trans hK
    · rename_i hnv
      split at h'
      rotate_left
      · cases h'
      rename_i hst
      obtain rfl := same h'
      rw [if_pos hst]
      simp only [hΓ]
      rw [if_pos hsz]
      exact hK
  | _ => cases hm
def quietN (os' : List AOper) (k : Nat) (ps : List Opd) (i : Nat) (op : AOp) : Bool := pureOp op || match op with
  | .load _ _ (.t n) => ptrIn n ps && ((os'.take k).drop i).all fun o => o.dst != some n
  | .loadO _ (.t n) => ptrIn n ps && ((os'.take k).drop i).all fun o => o.dst != some n
  | .call _ _ _ => true
  | .callv _ _ _ => true
  | .iaddr _ _ _ => true
  | _ => false
theorem Qz2 {op : AOp} {E : Env} {fr : Frm} {Γ : Hp} {K : Eff → Option α} {r : α} (h : op.stepQ E fr Γ K = some r) : op.step E fr Γ K = some r := by
  cases op with
  | call fl q args =>
    simp only [AOp.stepQ] at h
    obtain ⟨us, hus, h⟩ := Option.bind_eq_some_iff.1 h
    simp only [AOp.step, hus]
    exact h
  | callv fl f args =>
    simp only [AOp.stepQ] at h
    split at h
    · exact h
    · cases h
  | iaddr k x i =>
    simp only [AOp.stepQ] at h
    split at h
    · exact h
    · cases h
  | _ => exact h
def anyNB (md : Region.Mode) (ops : Array Oper) (k : Nat) (N : List Nat) (prs : List (Nat × Nat)) (ps : List Opd) (os' : List AOper) : Bool := drawB md ops k (os'.take k) &&
  (List.range k).all fun i => match os'[i]? with
    | some o => (match o.op.made with
      | some nm => N.contains nm && (List.range k).all fun j => j == i || ((match os'[j]? with | some o2 => o2.op.gives != some nm || nearB md ops j i | none => true) && (nearB md ops j i || prs.contains (j, nm)))
      | none => match o.op with
        | .storeN nm size _ _ => N.contains nm && (List.range k).any fun i0 => (match os'[i0]? with | some ⟨_, .alloc nm' z, _⟩ => nm' == nm && z.size == size | _ => false) && decide (i0 < i) && nearB md ops i i0 && (List.range k).all fun j => j == i || j == i0 || (match os'[j]? with | some o2 => o2.op.gives != some nm | none => true)
        | op => quietN os' k ps i op)
    | none => true
theorem Qfp {N : List Nat} {n : Nat} {fr : Frm} : ∀ {ps : List Opd}, apartN N (evs fr ps) = true → ptrIn n ps = true → (∃ R' p, fr n = .ptr R' p ∧ N.contains R' = false) ∨ ∃ u, fr n = .val u
  | [], _, h => by cases h
  | p :: ps, ha, h => by
    simp only [ptrIn, List.any_cons, Bool.or_eq_true] at h
    have tail : apartN N (evs fr ps) = true := by
      simp only [evs, List.map_cons] at ha ⊢
      cases hp : p.ev fr with
      | ptr R' q => rw [hp] at ha; simp only [apartN, Bool.and_eq_true] at ha; exact ha.2
      | val u => rw [hp] at ha; exact ha
      | _ => rw [hp] at ha; cases ha
    rcases h with h | h
    · cases p with
      | c u => cases h
      | t m =>
        obtain rfl : m = n := by simpa using h
        simp only [evs, List.map_cons, Opd.ev] at ha
        cases hp : fr m with
        | ptr R' q =>
          rw [hp] at ha
          simp only [apartN, Bool.and_eq_true, Bool.not_eq_true'] at ha
          exact .inl ⟨R', q, rfl, ha.1⟩
        | val u => exact .inr ⟨u, rfl⟩
        | _ => rw [hp] at ha; cases ha
    · exact Qfp tail (by simpa [ptrIn] using h)
theorem Qv0 {N : List Nat} {nm : Nat} (h : N.contains nm = true) (s : St) (t : Nat) : ((forget N s).fr t).retag (.purge nm) = (forget N s).fr t := by
  simp only [forget]
  split
  · rename_i hf
    simp only [freeAll, List.all_eq_true] at hf
    exact Qc1 _ (hf nm (by simpa using h))
  · rfl
theorem Qv1 {N : List Nat} {nm : Nat} (h : N.contains nm = true) (s : St) : Hp.retag (forget N s).Γ (.purge nm) = (forget N s).Γ := by
  funext R
  simp only [Hp.retag, forget]
  split
  · rfl
  · cases hR : s.Γ R with
    | none => rfl
    | some c =>
      simp only
      split
      · rename_i hf
        have hm : nm ∈ N := by simpa using h
        cases c with
        | box d =>
          simp only [freeCn, freeAll, List.all_eq_true] at hf
          simp only [Option.map_some, Cn.retag, Qc1 _ (hf nm hm)]
        | vir d =>
          simp only [freeCn, freeAll, List.all_eq_true] at hf
          simp only [Option.map_some, Cn.retag, Qc1 _ (hf nm hm)]
        | held t => rfl
      · rfl
theorem Inv'.forget {N : List Nat} (h : Inv' ρ S₀ w0 F s a w) : Inv' ρ S₀ w0 F (forget N s) a w := by
  obtain ⟨β, B, hi⟩ := h
  have hg : ∀ R, (Go.Proofs.Ytboenehajoaahaa.Am.forget N s).Γ R = s.Γ R ∨ (Go.Proofs.Ytboenehajoaahaa.Am.forget N s).Γ R = none := fun R => by
    simp only [Go.Proofs.Ytboenehajoaahaa.Am.forget]
    split
    · exact .inr rfl
    · cases s.Γ R with
      | none => exact .inl rfl
      | some c =>
        simp only
        split
        · exact .inl rfl
        · exact .inr rfl
  refine ⟨β, B, hi.rel.keep _ _ (fun i => ?_) hg, hi.below, hi.given.sub fun R hR => ?_⟩
  · simp only [Go.Proofs.Ytboenehajoaahaa.Am.forget]
    split
    · exact .inl rfl
    · exact .inr rfl
  · rcases hg R with e | e
    · rw [← e]; exact hR
    · rw [e] at hR; cases hR
theorem Qxp (hg : Good P ρ E) (hp : P.follows .mixedOrders = true) {id : Nat} {N : List Nat} {prs : List (Nat × Nat)} {ps : List Opd} (hB : anyNB .any ops k N prs ps os' = true) (hm : matchOps ρ P F.wd ops (ops.toList.take k) (os'.take k) = true) (hm2 : matchOps ρ P F.wd ops (ops.toList.drop k) (os'.drop k) = true) {K : St → Option α}
    (hinv : Inv' ρ S₀ w0 F s a w) (h : execN E (forget N s).Γ (os'.take k) (forget N s) [] (fun ds s => if pairsB prs ds = true ∧ apartN N (evs s.fr ps) = true then execOps false E (os'.drop k) s K else none) = some r)
    (hK : ∀ s' a' w', Inv' ρ S₀ w0 F s' a' w' → K s' = some r → Q .normal a' w') : (Code.region id ops true).wp P Q a w := by
  simp only [anyNB, Bool.and_eq_true] at hB
  obtain ⟨hB, hq⟩ := hB
  simp only [List.all_eq_true, List.mem_range] at hq
  obtain ⟨ds, cs, hl, hlc, hfin, hgu, hval, hmk, hpts⟩ := Qem _ 0 _ _ h
  rw [List.nil_append] at hfin
  split at hfin
  rotate_left
  · cases hfin
  rename_i hcond
  obtain ⟨hprs, hap⟩ := hcond
  have hap : apartN N (evs (putsL 0 (os'.take k) ds (fun _ => true) (forget N s).fr) ps) = true := hap
  have hinv := hinv.forget (N := N)
  generalize hs0 : forget N s = s0 at *
  have hB' := hB
  simp only [drawB, Bool.and_eq_true, decide_eq_true_eq] at hB'
  obtain ⟨⟨⟨⟨hk, _⟩, _⟩, hforced⟩, _⟩ := hB'
  refine wp_region_any hp ?_
  have hkl : (os'.take k).length = k := by
    have := (Qbi hm).1
    rw [List.length_take, Array.length_toList] at this
    omega
  have hget : ∀ (i : Nat) (o : AOper), (os'.take k)[i]? = some o → i < k ∧ os'[i]? = some o := fun i o ho => by
    have h1 := (List.getElem?_eq_some_iff.1 ho).1
    have h2 : i < k := by omega
    rw [List.getElem?_take_of_lt h2] at ho
    exact ⟨h2, ho⟩
  have hmade : ∀ (i : Nat) (o : AOper) (nm : Nat), (os'.take k)[i]? = some o → o.op.made = some nm → N.contains nm = true ∧ ∀ (j : Nat), j < k → j ≠ i → (∀ o2, os'[j]? = some o2 → o2.op.gives = some nm → nearB .any ops j i = true) ∧ (nearB .any ops j i = true ∨ (j, nm) ∈ prs) := fun i o nm ho hnm => by
    obtain ⟨h1, h2⟩ := hget i o ho
    have h3 := hq i h1
    rw [h2] at h3
    simp only [hnm, Bool.and_eq_true, List.all_eq_true, List.mem_range, Bool.or_eq_true, beq_iff_eq, List.contains_iff_mem] at h3
    refine ⟨by simpa using h3.1, fun j hj hne => ?_⟩
    rcases h3.2 j hj with h4 | ⟨h4, h5⟩
    · exact absurd h4 hne
    · refine ⟨fun o2 ho2 hg2 => ?_, h5⟩
      rw [ho2] at h4
      simp only [hg2, bne_self_eq_false, Bool.false_or] at h4
      exact h4
  have hputd : ∀ (i : Nat) (o : AOper) (nm : Nat), (os'.take k)[i]? = some o → o.op.made = none → o.op.puts = some nm → N.contains nm = true ∧ ∃ i0 o0 z, (os'.take k)[i0]? = some o0 ∧ o0.op = .alloc nm z ∧ (∀ size a x, o.op = .storeN nm size a x → z.size = size) ∧ i0 < i ∧ nearB .any ops i i0 = true ∧ ∀ (m2 : Nat) (o2 : AOper), (os'.take k)[m2]? = some o2 → o2.op.gives = some nm → m2 = i0 ∨ m2 = i := fun i o nm ho hn hpn => by
    obtain ⟨h1, h2⟩ := hget i o ho
    have h3 := hq i h1
    rw [h2] at h3
    obtain ⟨odst, oop, ogd⟩ := o
    cases oop with
    | storeN nm' size a x =>
      simp only [AOp.puts, Option.some.injEq] at hpn
      subst hpn
      simp only [AOp.made, Bool.and_eq_true, List.any_eq_true, List.mem_range] at h3
      obtain ⟨hN, i0, hi0, ⟨⟨ha, hlt⟩, hnr⟩, honly⟩ := h3
      refine ⟨hN, ?_⟩
      cases ho0 : os'[i0]? with
      | none => rw [ho0] at ha; cases ha
      | some o0 =>
        rw [ho0] at ha
        obtain ⟨d0, op0, g0⟩ := o0
        cases op0 with
        | alloc nm0 z =>
          simp only [Bool.and_eq_true, beq_iff_eq] at ha
          obtain ⟨rfl, hz⟩ := ha
          refine ⟨i0, _, z, by rw [List.getElem?_take_of_lt hi0]; exact ho0, rfl, fun size' a' x' e => (by cases e; exact hz), by simpa using hlt, hnr, fun m2 o2 hm2' hg2 => ?_⟩
          obtain ⟨h5, h6⟩ := hget m2 o2 hm2'
          simp only [List.all_eq_true, List.mem_range, Bool.or_eq_true, beq_iff_eq] at honly
          rcases honly m2 h5 with (h7 | h7) | h7
          · exact .inr h7
          · exact .inl h7
          · rw [h6] at h7
            simp only [hg2, bne_self_eq_false] at h7
            cases h7
        | _ => cases ha
    | _ => cases hpn
  have hgives : ∀ (i : Nat) (o : AOper) (nm : Nat), (os'.take k)[i]? = some o → o.op.gives = some nm → N.contains nm = true := fun i o nm ho hg' => by
    unfold AOp.gives at hg'
    cases hm1 : o.op.made with
    | some nm1 => rw [hm1] at hg'; cases hg'; exact (hmade i o _ ho hm1).1
    | none => rw [hm1] at hg'; exact (hputd i o nm ho hm1 hg').1
  have e1 : ops.size = k + (ops.size - k) := by omega
  have e2 : Array.replicate ops.size false = Array.replicate k false ++ Array.replicate (ops.size - k) false := by
    rw [Array.replicate_append_replicate, ← e1]
  rw [e2]
  have hfalse : ∀ m, lst (Array.replicate k false) m = false := fun m => by
    simp only [lst, Array.getD_eq_getD_getElem?, Array.getElem?_replicate]
    split <;> rfl
  have htrue : ∀ m, m < k → lst (Array.replicate k true) m = true := fun m hm => by
    simp [lst, Array.getD_eq_getD_getElem?, hm]
  have hinv2 : Inv' ρ S₀ w0 F ⟨putsL 0 (os'.take k) ds (lst (Array.replicate k false)) s0.fr, addL 0 (os'.take k) cs (lst (Array.replicate k false)) s0.Γ⟩ a { w with drawn := w.drawn + 1 } := by
    rw [Qbz _ _ _ _ _ (fun m _ => hfalse m), Qfo _ _ _ _ _ (fun m _ => hfalse m)]
    obtain ⟨β, B, hi⟩ := hinv
    exact ⟨β, B, hi.grow ((Below.refl _ _).drew)⟩
  have hoff : ∀ (R : Nat), N.contains R = false → ∀ l, addL 0 (os'.take k) cs l s0.Γ R = s0.Γ R := fun R hR l => Qib _ _ _ _ _ fun i o ho hnm => by
    have := hgives i o R ho hnm
    rw [hR] at this
    cases this
  have key := Qxe (Q := Q) (cs := cs) (r := r) hg hB hm hl hgu
    (fun i oi nm hi h1 m om hm' h2 => by
      cases hm1 : oi.op.made with
      | some nm1 =>
        have e : nm1 = nm := by unfold AOp.gives at h1; rw [hm1] at h1; cases h1; rfl
        subst e
        by_cases e2 : m = i
        · left; omega
        · exact .inr (((hmade i oi _ hi hm1).2 m (hget m om hm').1 e2).1 om (hget m om hm').2 h2)
      | none =>
        have hp1 : oi.op.puts = some nm := by unfold AOp.gives at h1; rw [hm1] at h1; exact h1
        obtain ⟨_, i0, o0, z, _, _, _, hlt, _, honly⟩ := hputd i oi nm hi hm1 hp1
        left
        rcases honly m om hm' h2 with h3 | h3 <;> omega)
    (fun m o d ho hd hn l Kd hKd => by
      have hv := hval m o d ho hd hn Kd hKd
      unfold AOper.value
      rw [hgu m o ho]
      obtain ⟨h1, h2⟩ := hget m o ho
      have h3 := hq m h1
      rw [h2] at h3
      have hmn : o.op.made = none := by
        cases hm1 : o.op.made with
        | none => rfl
        | some nm1 => unfold AOp.gives at hn; rw [hm1] at hn; cases hn
      have hpn : o.op.puts = none := by unfold AOp.gives at hn; rw [hmn] at hn; exact hn
      simp only [hmn] at h3
      replace h3 : quietN os' k ps m o.op = true := by
        obtain ⟨odst, oop, ogd⟩ := o
        cases oop <;> first | exact h3 | cases hpn
      unfold quietN at h3
      simp only [Bool.or_eq_true] at h3
      have hvQ := hv
      replace hv := Qz2 hv
      rcases h3 with h3 | h3
      · rw [Qgx h3 E _ _ (addL 0 (os'.take k) cs (fun i => decide (i < 0 + m)) s0.Γ)]
        exact hv
      · have stab : ∀ n : Nat, (((os'.take k).drop m).all fun o => o.dst != some n) = true → putsL 0 (os'.take k) ds (fun i => decide (i < 0 + m)) s0.fr n = putsL 0 (os'.take k) ds (fun _ => true) s0.fr n := fun n hall => Qnw _ _ _ _ _ _ fun m' o' ho' hne => by
          simp only [Nat.zero_add, decide_eq_true_eq, ne_eq] at hne
          have hge : m ≤ m' := by omega
          rw [List.all_eq_true] at hall
          have := hall o' (List.mem_of_getElem? (i := m' - m) (by rw [List.getElem?_drop, show m + (m' - m) = m' by omega]; exact ho'))
          simpa using this
        obtain ⟨o1, o2, o3⟩ := o
        simp only at h3 hv hvQ ⊢
        split at h3
        · rename_i ag sz n
          clear hvQ
          simp only [Bool.and_eq_true] at h3
          have hn := stab n h3.2
          simp only [AOp.step, Opd.ev] at hv ⊢
          rw [hn] at hv ⊢
          rcases Qfp hap h3.1 with ⟨R', p, e, hne⟩ | ⟨u, e⟩
          · rw [e] at hv ⊢
            simp only [Hp.at] at hv ⊢
            rw [hoff R' hne] at hv ⊢
            exact hv
          · rw [e] at hv ⊢
            exact hv
        · rename_i sh n
          simp only [Bool.and_eq_true] at h3
          have hn := stab n h3.2
          simp only [AOp.step, Opd.ev] at hv ⊢
          rw [hn] at hv ⊢
          rcases Qfp hap h3.1 with ⟨R', p, e, hne⟩ | ⟨u, e⟩
          · rw [e] at hv ⊢
            simp only [Hp.at] at hv ⊢
            rw [hoff R' hne] at hv ⊢
            exact hv
          · rw [e] at hv ⊢
            exact hv
        · simp only [AOp.stepQ] at hvQ
          obtain ⟨us, hus, hvQ⟩ := Option.bind_eq_some_iff.1 hvQ
          simp only [AOp.step, hus]
          exact hvQ
        · simp only [AOp.stepQ] at hvQ
          split at hvQ
          · rename_i hc
            obtain ⟨us, hus⟩ := Option.isSome_iff_exists.1 hc
            simp only [AOp.step, hus] at hvQ ⊢
            exact hvQ
          · cases hvQ
        · simp only [AOp.stepQ] at hvQ
          split at hvQ
          · rename_i hc
            simp only [AOp.step] at hvQ ⊢
            unfold D.isVal at hc
            split at hc
            · rename_i u hx
              simp only [hx] at hvQ ⊢
              exact hvQ
            · cases hc
          · cases hvQ
        · cases h3)
    (fun m o d nm ho hd hnm => by
      have hml : m < cs.length := by rw [hlc]; exact (List.getElem?_eq_some_iff.1 ho).1
      obtain ⟨hlt, hk'⟩ := hmk m o d cs[m] nm ho hd (List.getElem?_eq_getElem hml) hnm
      obtain ⟨hb, hst⟩ := Qwu hnm hlt hk'
      refine ⟨cs[m], List.getElem?_eq_getElem hml, hb, fun fr' hag Γ' hsub K' hK' => ?_⟩
      rw [← Qbn (fun t ht => hag t (by simp only [AOper.uses, List.mem_append]; exact .inl ht))]
      exact hst Γ' hsub K' hK')
    (fun l R c hR => by
      have hN : N.contains R = false := by
        cases hN : N.contains R with
        | false => rfl
        | true =>
          subst hs0
          simp only [forget, hN, if_true] at hR
          cases hR
      rw [hoff R hN l]
      exact hR)
    (fun m o d nm ho hd hn hpn => by
      obtain ⟨_, i0, o0, z, ho0, hop0, hz, hlt, hnr, honly⟩ := hputd m o nm ho hn hpn
      have hml : m < cs.length := by rw [hlc]; exact (List.getElem?_eq_some_iff.1 ho).1
      have hil : i0 < cs.length := by rw [hlc]; exact (List.getElem?_eq_some_iff.1 ho0).1
      have hid : i0 < ds.length := by rw [hl]; exact (List.getElem?_eq_some_iff.1 ho0).1
      obtain ⟨hdn, hc, hk'⟩ := hpts m o d cs[m] nm ho hd (List.getElem?_eq_getElem hml) hn hpn
      have hm0 : o0.op.made = some nm := by rw [hop0]; rfl
      obtain ⟨_, hk0⟩ := hmk i0 o0 ds[i0] cs[i0] nm ho0 (List.getElem?_eq_getElem hid) (List.getElem?_eq_getElem hil) hm0
      classical
      have h0 := hk0 (fun _ c' => if c' = cs[i0] then some r else none) (by simp)
      rw [hop0] at h0
      simp only [AOp.make] at h0
      have e0 : Cn.box (.val z) = cs[i0] := by
        split at h0
        · assumption
        · cases h0
      refine ⟨hdn, .box d, i0, o0, .box (.val z), by rw [← hc]; exact List.getElem?_eq_getElem hml, fun i oi nm' hi hmi hne => ?_, ho0, by rw [e0]; exact List.getElem?_eq_getElem hil, by unfold AOp.gives; rw [hm0], by omega, hnr, honly, fun fr' hag Γ' hΓ K' hK' => ?_⟩
      · have hmk2 : m < k := by
          have := (List.getElem?_eq_some_iff.1 ho).1
          omega
        rcases ((hmade i oi nm' hi hmi).2 m hmk2 (Ne.symm hne)).2 with h3 | h3
        · exact .inl h3
        · refine .inr ?_
          simp only [pairsB, List.all_eq_true] at hprs
          have := hprs _ h3
          simp only [hd] at this
          show Cn.box (d.retag (.purge nm')) = .box d
          rw [Qc1 _ this]
      rw [← Qbn (fun t ht => hag t (by simp only [AOper.uses, List.mem_append]; exact .inl ht))]
      exact Qxj hpn hk' hz Γ' hΓ K' hK')
    (fun i oi nm hi hnm => by
      obtain ⟨h1, h2⟩ := hmade i oi nm hi hnm
      subst hs0
      refine ⟨Qv0 h1 s, Qv1 h1 s, fun j d hne hd => ?_⟩
      have hj : j < k := by
        have := (List.getElem?_eq_some_iff.1 hd).1
        omega
      rcases (h2 j hj hne).2 with h3 | h3
      · exact .inl h3
      · refine .inr (Qc1 _ ?_)
        simp only [pairsB, List.all_eq_true] at hprs
        have := hprs _ h3
        simp only [hd] at this
        exact this)
    k (Array.replicate k false) a { w with drawn := w.drawn + 1 } (by simp) (fun i o hi => by
      exfalso
      have := hfalse i
      rw [lst] at this
      rw [this] at hi
      cases hi) (by
      unfold unlisted
      exact Nat.le_trans (List.length_filter_le _ _) (by simp)) hinv2 (fun a' w' fuel hfu hinv' => Qdy hforced (ops.size - k) k (by omega) (Nat.le_refl _) fuel a' w' hfu (by
      have := wpOps_eq_wpList (P := P) (ops := ops) (Q := Q) (ops.toList.drop k) k (fun j => by simp)
      rw [List.length_drop, Array.length_toList] at this
      rw [this]
      have e3 : putsL 0 (os'.take k) ds (lst (Array.replicate k true)) s0.fr = putsL 0 (os'.take k) ds (fun _ => true) s0.fr :=
        Qe1 _ _ _ _ _ _ fun m _ hm => htrue m (by omega)
      have e4 : addL 0 (os'.take k) cs (lst (Array.replicate k true)) s0.Γ = addL 0 (os'.take k) cs (fun _ => true) s0.Γ :=
        Qd7 _ _ _ _ _ _ fun m o ho _ => htrue _ (by have := (hget m o ho).1; omega)
      rw [e3, e4] at hinv'
      exact Qbj hg _ _ _ a' w' hm2 hinv' hfin hK))
  rwa [← e1] at key
end
end Go.Proofs.Ytboenehajoaahaa.Am
