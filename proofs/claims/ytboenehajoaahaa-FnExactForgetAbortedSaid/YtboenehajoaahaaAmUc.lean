import Derived.Test.YtboenehajoaahaaAmUn
namespace Go.Proofs.Ytboenehajoaahaa.Am
open Go Go.RowKit
def readsOf (o o2 : AOper) : Bool := match o2.dst with
  | some t => o.op.uses.contains t
  | none => false
def linkB (md : Region.Mode) (ops : Array Oper) (i j : Nat) (o o2 : AOper) : Bool :=
  if o.op.still = true then (!readsOf o o2 || (o2.op.still && decide (j < i) && nearB md ops i j)) && (j == i || o2.dst != o.dst)
  else (!readsOf o o2 || !o2.op.still || nearB md ops i j) && (o2.op.still || !decide (j < i) || nearB md ops i j)
def chainB (md : Region.Mode) (ops : Array Oper) (k : Nat) (os' : List AOper) : Bool := decide (k ≤ ops.size) && backB md ops k && coverB md ops k && forcedB md ops k &&
  (List.range k).all fun i => match os'[i]? with
    | some o => o.guard.isNone && (List.range k).all fun j => match os'[j]? with
      | some o2 => linkB md ops i j o o2
      | none => true
    | none => false
section
variable {α : Type} {E : Env} {r : α}
theorem Qik {T : List Nat} {d : D} (h : calm T d = true) : (∃ u, d = .val u) ∨ (∃ R p, d = .ptr R p ∧ T.contains R = false) ∨ ∃ R p k part, d = .ref R p k part ∧ T.contains R = false := by
  cases d <;> first | exact .inl ⟨_, rfl⟩ | exact .inr (.inl ⟨_, _, rfl, by simpa [calm] using h⟩) | exact .inr (.inr ⟨_, _, _, _, rfl, by simpa [calm] using h⟩) | cases h
theorem Qm1 (m : Tag) : ∀ d : D, nameless d = true → d.retag m = d
  | .val _, _ => rfl
  | .own _, _ => rfl
  | .asl _ _, _ => rfl
  | .junk _, _ => rfl
  | .agg ds, h => by simp only [D.retag]; rw [go ds h]
  | .tup _, h => by cases h
  | .osl _ _, h => by cases h
  | .ref _ _ _ _, h => by cases h
  | .ptr _ _, h => by cases h
  | .fnv _ _, h => by cases h
  | .skip, h => by cases h
  | .undef, h => by cases h
where go : ∀ ds : List D, nameless.namelesss ds = true → D.retag.retags m ds = ds
  | [], _ => rfl
  | d :: ds, h => by
    simp only [nameless.namelesss, Bool.and_eq_true] at h
    simp only [D.retag.retags]
    rw [Qm1 m d h.1, go ds h.2]
theorem Qp3 {c : Cn} (h : bare c = true) (m : Tag) : c.retag m = c := by
  cases c with
  | box d => show Cn.box (d.retag m) = _; rw [Qm1 m d h]
  | vir d => cases d <;> first | rfl | cases h
  | held t => cases h
theorem Qo4 {op : AOp} (h : op.still = true) {T : List Nat} {fr : Frm} {Γ Γ' : Hp} (hv : ∀ t ∈ op.uses, calm T (fr t) = true) (hl : loadsOK Γ fr op = true) (hΓ : ∀ R c, T.contains R = false → Γ R = some c → bare c = true → Γ' R = some c) (K : Eff → Option α) : op.step E fr Γ K = op.step E fr Γ' K := by
  by_cases hp : pureOp op = true
  · exact Qgx hp E fr Γ Γ' K
  have ev : ∀ x : Opd, (∀ t ∈ x.use, t ∈ op.uses) → bareAt Γ (x.ev fr) = true → (∃ u, x.ev fr = .val u) ∨ (∃ R p, x.ev fr = .ptr R p ∧ Γ' R = Γ R) ∨ ∃ R p k part, x.ev fr = .ref R p k part ∧ Γ' R = Γ R := fun x hx hb => by
    cases x with
    | c u => exact .inl ⟨u, rfl⟩
    | t n =>
      have key : ∀ R, T.contains R = false → (match Γ R with | some c => bare c | none => false) = true → Γ' R = Γ R := fun R hR hb => by
        split at hb
        · rename_i c hc
          rw [hc]
          exact hΓ R c hR hc hb
        · cases hb
      rcases Qik (hv n (hx n (by simp [Opd.use]))) with h1 | ⟨R, p, h1, hR⟩ | ⟨R, p, k, part, h1, hR⟩
      · exact .inl h1
      · refine .inr (.inl ⟨R, p, h1, key R hR ?_⟩)
        have h2 : (Opd.t n).ev fr = .ptr R p := h1
        rw [h2] at hb
        exact hb
      · refine .inr (.inr ⟨R, p, k, part, h1, key R hR ?_⟩)
        have h2 : (Opd.t n).ev fr = .ref R p k part := h1
        rw [h2] at hb
        exact hb
  cases op with
  | slice str k x lo hi =>
    rcases ev x (fun t ht => by simp [AOp.uses, ht]) hl with ⟨u, hu⟩ | ⟨R, p, hu, hR⟩ | ⟨R, p, k, part, hu, hR⟩ <;> simp only [AOp.step, hu]
    cases part <;> simp only [Hp.at, hR]
  | load ag k x =>
    rcases ev x (fun t ht => by simp [AOp.uses, ht]) hl with ⟨u, hu⟩ | ⟨R, p, hu, hR⟩ | ⟨R, p, k, part, hu, hR⟩ <;> simp only [AOp.step, hu]
    simp only [Hp.at, hR]
  | loadO k x =>
    rcases ev x (fun t ht => by simp [AOp.uses, ht]) hl with ⟨u, hu⟩ | ⟨R, p, hu, hR⟩ | ⟨R, p, k, part, hu, hR⟩ <;> simp only [AOp.step, hu]
    simp only [Hp.at, hR]
  | iaddr k x i =>
    rcases ev x (fun t ht => by simp [AOp.uses, ht]) hl with ⟨u, hu⟩ | ⟨R, p, hu, hR⟩ | ⟨R, p, k, part, hu, hR⟩ <;> simp only [AOp.step, hu]
    cases part <;> simp only [Hp.at, hR]
  | len str x =>
    rcases ev x (fun t ht => by simp [AOp.uses, ht]) hl with ⟨u, hu⟩ | ⟨R, p, hu, hR⟩ | ⟨R, p, k, part, hu, hR⟩ <;> simp only [AOp.step, hu]
    cases part <;> simp only [Hp.at, hR]
  | _ => exact absurd h hp
theorem Qwj {Γ : Hp} {fr fr' : Frm} {op : AOp} (h : ∀ t ∈ op.uses, fr t = fr' t) : loadsOK Γ fr op = loadsOK Γ fr' op := by
  cases op with
  | load ag k x => simp only [loadsOK, Qb (x := x) (fun t ht => h t (by simp [AOp.uses, ht]))]
  | loadO k x => simp only [loadsOK, Qb (x := x) (fun t ht => h t (by simp [AOp.uses, ht]))]
  | slice str k x lo hi => simp only [loadsOK, Qb (x := x) (fun t ht => h t (by simp [AOp.uses, ht]))]
  | iaddr k x i => simp only [loadsOK, Qb (x := x) (fun t ht => h t (by simp [AOp.uses, ht]))]
  | len str x => simp only [loadsOK, Qb (x := x) (fun t ht => h t (by simp [AOp.uses, ht]))]
  | _ => rfl
def Still1 (E : Env) (r : α) (T : List Nat) (Γ : Hp) (fp : Frm) (o : AOper) : Prop := (∀ t ∈ o.op.uses, calm T (fp t) = true) ∧ loadsOK Γ fp o.op = true ∧ ∃ x d, o.dst = some x ∧ fp x = d ∧ calm T d = true ∧ ∀ Kd : D → Option α, Kd d = some r → o.op.step E fp Γ (Eff.value Kd) = some r
theorem Qf8 {T : List Nat} {Γ : Hp} {K : Frm → Option α} : ∀ (os : List AOper) (fr : Frm), execV E T Γ os fr K = some r →
    (os.Pairwise fun o o2 => ∀ t, o2.dst = some t → t ∉ o.op.uses ∧ o.dst ≠ some t) → (∀ o ∈ os, ∀ t, o.dst = some t → t ∉ o.op.uses) →
    ∃ fp : Frm, K fp = some r ∧ (∀ t, (∀ o ∈ os, o.dst ≠ some t) → fp t = fr t) ∧ ∀ o ∈ os, Still1 E r T Γ fp o
  | [], fr, h, _, _ => ⟨fr, h, fun _ _ => rfl, fun o ho => by cases ho⟩
  | o :: os, fr, h, hp, hs => by
    simp only [execV] at h
    split at h
    · rename_i x hg hx
      split at h
      · rename_i hc
        simp only [Bool.and_eq_true] at hc
        obtain ⟨d, hd, hv⟩ := Qfk _ (Qay E o.op fr Γ) _ r h
        split at hd
        · rename_i hcd
          obtain ⟨hp1, hp2⟩ := List.pairwise_cons.1 hp
          obtain ⟨fp, h1, h2, h3⟩ := Qf8 os (fr.put (some x) d) hd hp2 (fun o2 h => hs o2 (List.mem_cons_of_mem _ h))
          have hfx : fp x = d := by
            rw [h2 x (fun o2 ho2 he => (hp1 o2 ho2 x he).2 hx)]
            simp [Frm.put]
          have hst : ∀ t ∈ o.op.uses, fr t = fp t := fun t ht => by
            rw [h2 t (fun o2 ho2 he => (hp1 o2 ho2 t he).1 ht)]
            have : x ≠ t := fun e => hs o (List.mem_cons_self ..) t (by rw [hx, e]) ht
            simp [Frm.put, this]
          refine ⟨fp, h1, fun t ht => ?_, fun o2 ho2 => ?_⟩
          · rw [h2 t (fun o2 ho2 => ht o2 (List.mem_cons_of_mem _ ho2))]
            have : x ≠ t := fun e => ht o (List.mem_cons_self ..) (by rw [hx, e])
            simp [Frm.put, this]
          · rcases List.mem_cons.1 ho2 with rfl | ho2
            · refine ⟨fun t ht => ?_, ?_, x, d, hx, hfx, hcd, fun Kd hKd => ?_⟩
              · rw [← hst t ht]
                exact List.all_eq_true.1 hc.1 t ht
              · rw [← Qwj hst]
                exact hc.2
              · rw [← Qbn hst]
                exact hv Kd hKd
            · exact h3 o2 ho2
        · cases hd
      · cases h
    · cases h
def calmE (T : List Nat) (Γ : Hp) : Eff → Prop
  | .st ms _ Γ' => (∀ m ∈ ms, ∃ nm, T.contains nm = true ∧ m = .purge nm) ∧ ∀ R c, T.contains R = false → Γ R = some c → bare c = true → Γ' R = some c
  | _ => True
def SR (C : Eff → Prop) (f : (Eff → Option α) → Option α) : Prop := ∀ K r, f K = some r → ∃ e, C e ∧ K e = some r ∧ ∀ K', K' e = some r → f K' = some r
section
variable {C : Eff → Prop} {β : Type}
theorem SR.ret {e : Eff} (h : C e) : SR (α := α) C (fun K => K e) := fun _ _ hk => ⟨e, h, hk, fun _ h => h⟩
theorem SR.none : SR (α := α) C (fun _ => Option.none) := fun _ _ h => by cases h
theorem SR.bind (x : Option β) {g : β → (Eff → Option α) → Option α} (h : ∀ b, x = some b → SR C (g b)) : SR C (fun K => x.bind fun b => g b K) := by
  cases x with
  | none => exact SR.none
  | some b => exact h b rfl
theorem SR.ite (c : Prop) [Decidable c] {f : (Eff → Option α) → Option α} (h1 : SR C f) : SR C (fun K => if c then f K else Option.none) := by
  by_cases h : c
  · simp only [h, if_true]; exact h1
  · simp only [h, if_false]; exact SR.none
theorem SR.dInt (d : D) {g : Int → (Eff → Option α) → Option α} (h : ∀ n, SR C (g n)) : SR C (fun K => d.asInt fun n => g n K) := by
  cases d with
  | val u => cases u with
    | int k n => cases k <;> first | exact h _ | exact SR.none
    | _ => exact SR.none
  | _ => exact SR.none
theorem SR.asNsl (u : U) {g : Nat → (Eff → Option α) → Option α} (h : ∀ n, SR C (g n)) : SR C (fun K => u.asNsl fun n => g n K) := by
  cases u <;> first | exact SR.none | exact h _
theorem SR.noTup (u : U) {g : U → (Eff → Option α) → Option α} (h : ∀ n, SR C (g n)) : SR C (fun K => u.noTup fun n => g n K) := by
  cases u <;> first | exact SR.none | exact h _
theorem SR.asTup (u : U) {g : List U → (Eff → Option α) → Option α} (h : ∀ n, SR C (g n)) : SR C (fun K => u.asTup fun n => g n K) := by
  cases u <;> first | exact SR.none | exact h _
theorem SR.asSlK (k : Nat) (u : U) {g : List U → (Eff → Option α) → Option α} (h : ∀ n, SR C (g n)) : SR C (fun K => u.asSlK k fun n => g n K) := by
  unfold U.asSlK
  split
  · exact SR.ite _ (h _)
  · exact SR.none
theorem SR.setParts (fr : Frm) {g : List D → (Eff → Option α) → Option α} (h : ∀ n, SR C (g n)) (parts : List (Nat × Opd)) : ∀ ds, SR C (fun K => Am.setParts fr (fun ds => g ds K) ds parts) := by
  induction parts with
  | nil => exact fun ds => h ds
  | cons p parts ih =>
    obtain ⟨i, x⟩ := p
    exact fun ds => SR.bind _ fun d _ => SR.ite _ (ih _)
theorem SR.res {T : List Nat} {Γ : Hp} (fl : Bool) (u : U) : SR (α := α) (calmE T Γ) (fun K => u.res fl K) := by
  cases fl with
  | true => exact SR.ite _ (SR.ret trivial)
  | false => exact SR.ret trivial
theorem SR.mkVar {T : List Nat} {Γ Γ1 : Hp} {nm : Nat} (hT : T.contains nm = true) (hΓ : ∀ R, T.contains R = false → Γ1 R = Γ R) (c : Cn) (d : D) : SR (α := α) (calmE T Γ) (fun K => Am.mkVar Γ1 nm c d K) := by
  refine SR.ite _ (SR.ret ⟨fun m hm => ⟨nm, hT, by simpa using hm⟩, fun R u hR hb hu => ?_⟩)
  have hne : R ≠ nm := fun e => by rw [e, hT] at hR; cases hR
  rw [Qa _ _ hne]
  simp only [Hp.retag, hΓ R hR, hb, Option.map_some, Qp3 hu]
end
theorem Qhq {Γ : Hp} {R p k} {d : D} {Γ' : Hp} (h : (D.ref R p k none).takeO Γ = some (d, Γ')) {R2 : Nat} (hne : R2 ≠ R) : Γ' R2 = Γ R2 := by
  unfold D.takeO at h
  simp only [D.take, at_eq] at h
  obtain ⟨d0, _, h⟩ := Option.bind_eq_some_iff.1 h
  have key : ∀ {β : Type} {x : Option β} {r : β}, d0.isSl k x = some r → x = some r := fun {β x r} hx => by
    unfold D.isSl at hx
    split at hx
    · unfold U.asSlK at hx
      split at hx
      · split at hx
        · exact hx
        · cases hx
      · cases hx
    · split at hx
      · exact hx
      · cases hx
    · split at hx
      · exact hx
      · cases hx
    · cases hx
  have h := key h
  split at h
  · cases h
    exact Qa _ _ hne
  · rw [Qab] at h
    obtain ⟨g, hg, h⟩ := Option.bind_eq_some_iff.1 h
    cases h
    obtain ⟨c, e, d2, _, _, _, rfl⟩ := Qbm hg
    exact Qa _ _ hne
mutual
theorem Qaac {T : List Nat} : ∀ (d : D) (Γ : Hp) (c : D) (Γ1 : Hp), d.takeO Γ = some (c, Γ1) → calmIn T d = true → ∀ R2, T.contains R2 = false → Γ1 R2 = Γ R2
  | .val u, Γ, c, Γ1, h, _, R2, _ => by
    simp only [D.takeO, D.take] at h
    cases u <;> simp_all [U.noTup]
  | .ref R p k none, Γ, c, Γ1, h, hT, R2, h2 => Qhq h fun e => by
    simp only [calmIn] at hT
    rw [e, hT] at h2; cases h2
  | .ref R p k (some _), Γ, c, Γ1, h, _, R2, _ => by simp only [D.takeO, D.take] at h; cases h
  | .ptr R p, Γ, c, Γ1, h, _, R2, _ => by simp only [D.takeO, D.take] at h; cases h; rfl
  | .fnv r cs, Γ, c, Γ1, h, _, R2, _ => by simp only [D.takeO, D.take] at h; cases h; rfl
  | .agg ds, Γ, c, Γ1, h, hT, R2, h2 => by
    simp only [D.takeO, D.take, Qcp] at h
    obtain ⟨⟨c2, g⟩, h1, h⟩ := Option.bind_eq_some_iff.1 h
    cases h
    exact Qhs ds Γ _ _ h1 hT R2 h2
  | .own u, Γ, c, Γ1, h, hT, R2, h2 => by cases hT
  | .asl k us, Γ, c, Γ1, h, hT, R2, h2 => by cases hT
  | .osl k us, Γ, c, Γ1, h, hT, R2, h2 => by cases hT
  | .junk n, Γ, c, Γ1, h, hT, R2, h2 => by cases hT
  | .skip, Γ, c, Γ1, h, hT, R2, h2 => by cases hT
  | .undef, Γ, c, Γ1, h, hT, R2, h2 => by cases hT
  | .tup ds, Γ, c, Γ1, h, hT, R2, h2 => by cases hT
theorem Qhs {T : List Nat} : ∀ (ds : List D) (Γ : Hp) (cs : List D) (Γ1 : Hp), takesO ds Γ = some (cs, Γ1) → calmIn.calmIns T ds = true → ∀ R2, T.contains R2 = false → Γ1 R2 = Γ R2
  | [], Γ, cs, Γ1, h, _, R2, _ => by rw [Qfg] at h; cases h; rfl
  | d :: ds, Γ, cs, Γ1, h, hT, R2, h2 => by
    simp only [calmIn.calmIns, Bool.and_eq_true] at hT
    rw [Qff] at h
    obtain ⟨⟨c, g⟩, h1, h⟩ := Option.bind_eq_some_iff.1 h
    obtain ⟨⟨c2, g2⟩, h3, h⟩ := Option.bind_eq_some_iff.1 h
    cases h
    exact (Qhs ds _ _ _ h3 hT.2 R2 h2).trans (Qaac d _ _ _ h1 hT.1 R2 h2)
end
theorem Qd0 {T : List Nat} {Γ Γ1 : Hp} {k : Nat} {d : D} {us : List U} (h : takeElO Γ k d = some (us, Γ1)) (hT : refIn T d = true) : ∀ R2, T.contains R2 = false → Γ1 R2 = Γ R2 := by
  intro R2 h2
  unfold takeElO takeElems at h
  split at h
  rotate_left
  · cases h
  rename_i R p k'
  have hR : T.contains R = true := hT
  split at h
  rotate_left
  · cases h
  simp only [Qao, Qaf] at h
  obtain ⟨⟨c, Γ3⟩, h1, h⟩ := Option.bind_eq_some_iff.1 h
  obtain ⟨u, _, h7⟩ := Option.bind_eq_some_iff.1 h
  have e : Γ3 = Γ1 := by
    cases u with
    | sl k2 us2 =>
      simp only [U.asSlK] at h7
      split at h7
      · cases h7; rfl
      · cases h7
    | _ => cases h7
  subst e
  exact Qhq h1 fun e => by rw [e, hR] at h2; cases h2
theorem Qp8 {T : List Nat} {fr : Frm} {Γ : Hp} {op : AOp} (h : chainOK T fr op = true) : SR (α := α) (calmE T Γ) (fun K => op.step E fr Γ K) := by
  have hrefl : ∀ R, T.contains R = false → Γ R = Γ R := fun _ _ => rfl
  cases op with
  | alloc nm z => exact SR.mkVar h hrefl _ _
  | mkslice nm k b z l c => exact SR.dInt _ fun _ => SR.dInt _ fun _ => SR.ite _ (SR.mkVar h hrefl _ _)
  | buildL z parts => exact SR.setParts fr (fun ds => by cases allVals ds <;> exact SR.ret trivial) parts _
  | bslice mode nm k n z parts =>
    match mode, n, parts, h with
    | 1, _, ps, h => exact SR.ite _ (SR.setParts fr (fun ds => SR.bind _ fun us _ => SR.mkVar h hrefl _ _) ps _)
    | 2, 1, [(0, x)], h =>
      simp only [chainOK, Bool.and_eq_true] at h
      refine SR.ite _ (SR.bind _ fun d _ => SR.ite _ ?_)
      show SR (calmE T Γ) fun K => D.take.takes [x.ev fr] Γ fun ds Γ' => D.toOwn.toOwns ds fun us => Am.mkVar Γ' nm (.vir (.own (.sl k us))) (.ref nm [] k none) K
      simp only [Qcp]
      refine SR.bind _ fun y hy => ?_
      obtain ⟨ds, Γ1⟩ := y
      have hoff := Qhs (T := T) [x.ev fr] Γ ds Γ1 hy (by simp only [calmIn.calmIns, h.2, Bool.and_self])
      simp only [Qdg]
      exact SR.bind _ fun us _ => SR.mkVar h.1 hoff _ _
  | call fl q args =>
    simp only [AOp.step]
    split
    · exact SR.bind _ fun u _ => SR.res fl u
    · exact SR.bind _ fun us _ => SR.bind _ fun u _ => SR.res true u
  | callF nm tup ss q args =>
    simp only [AOp.step]
    refine SR.bind _ fun us _ => SR.bind _ fun u _ => ?_
    split
    · refine SR.noTup _ fun u => ?_
      simp only [Qba]
      exact SR.bind _ fun x _ => SR.mkVar h hrefl _ _
    · refine SR.asTup _ fun us => ?_
      simp only [Qbb]
      exact SR.bind _ fun x _ => SR.mkVar h hrefl _ _
    · exact SR.none
  | append mv nm k b s x =>
    cases mv with
    | true =>
      simp only [chainOK, Bool.and_eq_true] at h
      simp only [AOp.step, Qae]
      refine SR.bind _ fun z hz => ?_
      obtain ⟨ys, Γ1⟩ := z
      have hoff := Qd0 hz h.1.2
      split
      · exact SR.asNsl _ fun k' => SR.ite _ (SR.mkVar h.1.1 hoff _ _)
      · rename_i hnv
        refine SR.bind _ fun z2 hz2 => ?_
        obtain ⟨us, Γ2⟩ := z2
        have hd : refIn T (s.ev fr) = true := by
          have := h.2
          split at this
          · rename_i u hu; exact absurd hu (hnv u)
          · exact this
        exact SR.ite _ (SR.mkVar h.1.1 (fun R2 h2 => (Qd0 hz2 hd R2 h2).trans (hoff R2 h2)) _ _)
    | false =>
      simp only [chainOK, Bool.and_eq_true] at h
      simp only [AOp.step, Qdd]
      refine SR.bind _ fun ys _ => ?_
      split
      · exact SR.asNsl _ fun k' => SR.ite _ (SR.mkVar h.1 hrefl _ _)
      · rename_i R p k' hs
        have hR : T.contains R = true := by have := h.2; rw [hs] at this; exact this
        simp only [Qao]
        refine SR.bind _ fun y hy => ?_
        obtain ⟨d, Γ1⟩ := y
        have hoff : ∀ R2, T.contains R2 = false → Γ1 R2 = Γ R2 := fun R2 h2 => Qhq hy fun e => by rw [e, hR] at h2; cases h2
        cases d with
        | asl k2 us => exact SR.ite _ (SR.mkVar h.1 hoff _ _)
        | own u => exact SR.asSlK _ _ fun us => SR.ite _ (SR.mkVar h.1 hoff _ _)
        | _ => exact SR.none
      · exact SR.none
  | callC nm k q x args =>
    simp only [chainOK, Bool.and_eq_true] at h
    simp only [AOp.step, Qae]
    refine SR.bind _ fun z hz => ?_
    obtain ⟨xs, Γ1⟩ := z
    exact SR.bind _ fun us _ => SR.bind _ fun u _ => SR.asSlK _ _ fun ys => SR.mkVar h.1 (Qd0 hz h.2) _ _
  | callI nm k q x i y =>
    simp only [chainOK, Bool.and_eq_true] at h
    simp only [AOp.step, Qae]
    refine SR.bind _ fun z hz => ?_
    obtain ⟨xs, Γ1⟩ := z
    refine SR.dInt _ fun n => SR.bind _ fun z2 hz2 => ?_
    obtain ⟨ys, Γ2⟩ := z2
    exact SR.bind _ fun u _ => SR.asSlK _ _ fun zs => SR.mkVar h.1.1 (fun R2 h2 => (Qd0 hz2 h.2 R2 h2).trans (Qd0 hz h.1.2 R2 h2)) _ _
  | _ => cases h
theorem retagsC {T : List Nat} {d : D} (hd : calm T d = true) : ∀ (ms : List Tag) (fr : Frm) (t : Nat), (∀ m ∈ ms, ∃ nm, T.contains nm = true ∧ m = .purge nm) → fr t = d → (fr.retags ms) t = d
  | [], _, _, _, h => h
  | m :: ms, fr, t, hm, h => retagsC hd ms _ t (fun m' h' => hm m' (List.mem_cons_of_mem _ h')) (by
    obtain ⟨nm, hnm, rfl⟩ := hm m (List.mem_cons_self ..)
    simp only [Frm.retag, h]
    rcases Qik hd with ⟨u, rfl⟩ | ⟨R, p, rfl, hR⟩ | ⟨R, p, k, part, rfl, hR⟩
    · rfl
    · have : R ≠ nm := fun e => by rw [e, hnm] at hR; cases hR
      simp only [D.retag, Tag.purge, this, if_false]
    · have : R ≠ nm := fun e => by rw [e, hnm] at hR; cases hR
      simp only [D.retag, Tag.purge, this, if_false])
theorem retagsU : ∀ (ms : List Tag) (fr : Frm) (t : Nat), fr t = .undef → (fr.retags ms) t = .undef
  | [], _, _, h => h
  | m :: ms, fr, t, h => retagsU ms _ t (by simp only [Frm.retag, h, D.retag])
theorem retagsA : ∀ (ms : List Tag) (fr fr' : Frm) (t : Nat), fr t = fr' t → (fr.retags ms) t = (fr'.retags ms) t
  | [], _, _, _, h => h
  | m :: ms, fr, fr', t, h => retagsA ms _ _ t (by simp only [Frm.retag, h])
def Step1 (E : Env) (r : α) (T : List Nat) (o : AOper) (s s' : St) : Prop := ∃ ms d, (∀ m ∈ ms, ∃ nm, T.contains nm = true ∧ m = .purge nm) ∧ (∀ R c, T.contains R = false → s.Γ R = some c → bare c = true → s'.Γ R = some c) ∧ s'.fr = (s.fr.retags ms).put o.dst d ∧ ∀ fr' : Frm, (∀ t ∈ o.op.uses, s.fr t = fr' t) → ∀ K' : St → Option α, K' ⟨(fr'.retags ms).put o.dst d, s'.Γ⟩ = some r → o.exec false E ⟨fr', s.Γ⟩ K' = some r
theorem Qo0 {T : List Nat} {o : AOper} {s : St} {K : St → Option α} (hc : chainOK T s.fr o.op = true) (h : o.exec false E s K = some r) (hg : o.guard = none) : ∃ s', Step1 E r T o s s' ∧ K s' = some r := by
  unfold AOper.exec at h
  rw [hg] at h
  obtain ⟨e, hce, he, hk⟩ := Qp8 (E := E) (Γ := s.Γ) hc _ r h
  have go : ∀ (fr' : Frm), (∀ t ∈ o.op.uses, s.fr t = fr' t) → ∀ K' : St → Option α, e.apply false o.dst ⟨fr', s.Γ⟩ K' = some r → o.exec false E ⟨fr', s.Γ⟩ K' = some r := fun fr' hag K' h' => by
    unfold AOper.exec
    rw [hg]
    show (o.op.step E fr' s.Γ fun e => e.apply false o.dst ⟨fr', s.Γ⟩ K') = some r
    rw [← Qbn hag]
    exact hk (fun e => e.apply false o.dst ⟨fr', s.Γ⟩ K') h'
  have nil : ∀ m ∈ ([] : List Tag), ∃ nm, T.contains nm = true ∧ m = .purge nm := fun m hm => by cases hm
  cases e with
  | v d => exact ⟨⟨s.fr.put o.dst d, s.Γ⟩, ⟨[], d, nil, fun _ _ _ h _ => h, rfl, fun fr' hag K' h' => go fr' hag K' h'⟩, he⟩
  | cl fl u => exact ⟨⟨s.fr.put o.dst (.val u), s.Γ⟩, ⟨[], .val u, nil, fun _ _ _ h _ => h, rfl, fun fr' hag K' h' => go fr' hag K' h'⟩, he⟩
  | vnew u => exact ⟨⟨s.fr.put o.dst (.val u), s.Γ⟩, ⟨[], .val u, nil, fun _ _ _ h _ => h, rfl, fun fr' hag K' h' => go fr' hag K' h'⟩, he⟩
  | st ms d Γ => exact ⟨⟨(s.fr.retags ms).put o.dst d, Γ⟩, ⟨ms, d, hce.1, hce.2, rfl, fun fr' hag K' h' => go fr' hag K' h'⟩, he⟩
theorem Qiu {T : List Nat} {K : St → Option α} : ∀ (es : List AOper) (s : St), execC E T es s K = some r → (∀ o ∈ es, o.guard = none) →
    ∃ V : Nat → St, V 0 = s ∧ K (V es.length) = some r ∧ ∀ j o, es[j]? = some o → Step1 E r T o (V j) (V (j + 1))
  | [], s, h, _ => ⟨fun _ => s, rfl, h, fun j o ho => by simp at ho⟩
  | o :: es, s, h, hg => by
    simp only [execC] at h
    split at h
    · rename_i hc
      obtain ⟨s', h1, h2⟩ := Qo0 (K := fun s' => execC E T es s' K) hc h (hg o (List.mem_cons_self ..))
      obtain ⟨V, h3, h4, h5⟩ := Qiu es s' h2 (fun o2 h => hg o2 (List.mem_cons_of_mem _ h))
      refine ⟨fun n => match n with | 0 => s | n + 1 => V n, rfl, h4, fun j o2 ho2 => ?_⟩
      cases j with
      | zero =>
        simp only [List.getElem?_cons_zero, Option.some.injEq] at ho2
        subst ho2
        show Step1 E r T o s (V 0)
        rw [h3]
        exact h1
      | succ j => exact h5 j o2 (by simpa using ho2)
    · cases h
theorem Qpl {T : List Nat} {es : List AOper} {V : Nat → St} (hV : ∀ j o, es[j]? = some o → Step1 E r T o (V j) (V (j + 1))) {t : Nat} {d : D} (hd : calm T d = true) (ht : ∀ o ∈ es, o.dst ≠ some t) (h0 : (V 0).fr t = d) : ∀ j, j ≤ es.length → (V j).fr t = d := by
  intro j
  induction j with
  | zero => exact fun _ => h0
  | succ j ih =>
    intro hj
    have h1 := ih (by omega)
    obtain ⟨ms, d2, hm, _, h2, _⟩ := hV j es[j] (List.getElem?_eq_getElem (by omega))
    rw [h2]
    have := ht es[j] (List.getElem_mem _)
    simp only [Frm.put, this, if_false]
    exact retagsC hd ms _ t hm h1
theorem Qv4 {T : List Nat} {es : List AOper} {V : Nat → St} (hV : ∀ j o, es[j]? = some o → Step1 E r T o (V j) (V (j + 1))) : ∀ j, j ≤ es.length → ∀ R c, T.contains R = false → (V 0).Γ R = some c → bare c = true → (V j).Γ R = some c := by
  intro j
  induction j with
  | zero => exact fun _ _ _ _ h _ => h
  | succ j ih =>
    intro hj R u hR h0 hu
    obtain ⟨ms, d2, _, hg, _⟩ := hV j es[j] (List.getElem?_eq_getElem (by omega))
    exact hg R u hR (ih (by omega) R u hR h0 hu) hu
def rank (os : List AOper) (i : Nat) : Nat := (chain (os.take i)).length
theorem Qe3 (os : List AOper) : rank os 0 = 0 := by simp [rank, chain]
theorem Qci (o : AOper) (os : List AOper) (i : Nat) : rank (o :: os) (i + 1) = rank os i + (if o.op.still = true then 0 else 1) := by
  unfold rank chain
  rw [List.take_succ_cons, List.filter_cons]
  cases o.op.still <;> simp
theorem Qny : ∀ (os : List AOper) (i : Nat) (o : AOper), os[i]? = some o → o.op.still = false → (chain os)[rank os i]? = some o
  | [], _, _, h, _ => by simp at h
  | o1 :: os, 0, o, h, hs => by
    simp only [List.getElem?_cons_zero, Option.some.injEq] at h
    subst h
    rw [Qe3]
    simp [chain, List.filter_cons, hs]
  | o1 :: os, i + 1, o, h, hs => by
    have ih := Qny os i o (by simpa using h) hs
    rw [Qci]
    unfold chain at ih ⊢
    rw [List.filter_cons]
    cases h1 : o1.op.still <;> simpa using ih
theorem Qe2 : ∀ (os : List AOper) (i j : Nat), j < rank os i → ∃ i2 o2, i2 < i ∧ os[i2]? = some o2 ∧ o2.op.still = false ∧ rank os i2 = j
  | [], i, j, h => by simp [rank, chain] at h
  | o :: os, 0, j, h => by rw [Qe3] at h; omega
  | o :: os, i + 1, j, h => by
    rw [Qci] at h
    cases hs : o.op.still with
    | true =>
      rw [hs] at h
      obtain ⟨i2, o2, h1, h2, h3, h4⟩ := Qe2 os i j (by simpa using h)
      exact ⟨i2 + 1, o2, by omega, by simpa using h2, h3, by rw [Qci, hs, h4]; rfl⟩
    | false =>
      rw [hs] at h
      cases j with
      | zero => exact ⟨0, o, by omega, rfl, hs, Qe3 _⟩
      | succ j =>
        obtain ⟨i2, o2, h1, h2, h3, h4⟩ := Qe2 os i j (by simpa using h)
        exact ⟨i2 + 1, o2, by omega, by simpa using h2, h3, by rw [Qci, hs, h4]; rfl⟩
theorem Qg0 : ∀ (os : List AOper) (i i' : Nat) (o : AOper), i < i' → os[i]? = some o → o.op.still = false → rank os i < rank os i'
  | [], _, _, _, _, h, _ => by simp at h
  | o1 :: os, 0, i', o, hi, h, hs => by
    simp only [List.getElem?_cons_zero, Option.some.injEq] at h
    subst h
    obtain ⟨m, rfl⟩ : ∃ m, i' = m + 1 := ⟨i' - 1, by omega⟩
    rw [Qe3, Qci, hs]
    simp
  | o1 :: os, i + 1, 0, o, hi, _, _ => by omega
  | o1 :: os, i + 1, i' + 1, o, hi, h, hs => by
    rw [Qci, Qci]
    have := Qg0 os i i' o (by omega) (by simpa using h) hs
    omega
def mask (os : List AOper) (l : Nat → Bool) (fr : Frm) : Frm := fun t => if ((List.range os.length).any fun i => !l i && match os[i]? with | some o => o.op.still && o.dst == some t | none => false) = true then .undef else fr t
theorem Qx {os : List AOper} {l : Nat → Bool} {fr : Frm} {t : Nat} (h : ∀ i o, os[i]? = some o → o.op.still = true → o.dst = some t → l i = true) : mask os l fr t = fr t := by
  unfold mask
  rw [if_neg]
  intro hc
  simp only [List.any_eq_true, List.mem_range, Bool.and_eq_true, Bool.not_eq_true'] at hc
  obtain ⟨i, _, h1, h2⟩ := hc
  cases ho : os[i]? with
  | none => rw [ho] at h2; cases h2
  | some o =>
    rw [ho] at h2
    simp only [Bool.and_eq_true, beq_iff_eq] at h2
    rw [h i o ho h2.1 h2.2] at h1
    cases h1
theorem Qa5 {os : List AOper} {l : Nat → Bool} {fr : Frm} {t i : Nat} {o : AOper} (ho : os[i]? = some o) (hs : o.op.still = true) (hd : o.dst = some t) (hl : l i = false) : mask os l fr t = .undef := by
  unfold mask
  rw [if_pos]
  simp only [List.any_eq_true, List.mem_range, Bool.and_eq_true, Bool.not_eq_true']
  exact ⟨i, (List.getElem?_eq_some_iff.1 ho).1, hl, by rw [ho]; simp [hs, hd]⟩
end
section
variable {α : Type} {P : Program} {ρ : Nat → FuncId} {F : Fm} {S₀ : Nat → Prop} {w0 : Org} {w : World} {E : Env} {s : St} {a : Act} {r : α} {ops : Array Oper} {k : Nat} {md : Region.Mode} {Q : Exit → Act → World → Prop} {os' : List AOper}
theorem Qxf (hg : Good P ρ E) (hk : k ≤ ops.size) (hback : backB md ops k = true) (hcover : coverB md ops k = true) (hm : matchOps ρ P F.wd ops (ops.toList.take k) os' = true)
    (hgu : ∀ (m : Nat) (o : AOper), os'[m]? = some o → o.guard = none)
    (hlink : ∀ (i j : Nat) (o o2 : AOper), os'[i]? = some o → os'[j]? = some o2 → linkB md ops i j o o2 = true)
    {V : Nat → St} {fp : Frm} (hV0 : (V 0).fr = fp) {T : List Nat} (hV : ∀ j o, (chain os')[j]? = some o → Step1 E r T o (V j) (V (j + 1)))
    (hval : ∀ o ∈ stills os', Still1 E r T (V 0).Γ fp o) :
    ∀ (fuel : Nat) (l : Array Bool) (a : Act) (w : World), l.size = k → Down md ops l → unlisted l k ≤ fuel → ∀ (c : Nat), c ≤ (chain os').length → (∀ (i : Nat) (o : AOper), os'[i]? = some o → o.op.still = false → (lst l i = true ↔ rank os' i < c)) → Inv' ρ S₀ w0 F ⟨mask os' (lst l) (V c).fr, (V c).Γ⟩ a w →
    (∀ (a : Act) (w : World) (fuel : Nat), ops.size - k ≤ fuel → Inv' ρ S₀ w0 F (V (chain os').length) a w → wpAny P md ops Q fuel (upto ops.size k) a w) → wpAny P md ops Q (fuel + (ops.size - k)) (l ++ Array.replicate (ops.size - k) false) a w := by
  obtain ⟨hml, hmg⟩ := Qbi hm
  have hkl : os'.length = k := by
    rw [← hml, List.length_take, Array.length_toList]
    omega
  have hlt : ∀ (i : Nat) (o : AOper), os'[i]? = some o → i < k := fun i o ho => by
    have := (List.getElem?_eq_some_iff.1 ho).1
    omega
  have htrue : ∀ m, m < k → lst (Array.replicate k true) m = true := fun m hm => by
    simp [lst, Array.getD_eq_getD_getElem?, hm]
  have hend : ∀ {a : Act} {w : World} (c : Nat), c ≤ (chain os').length → (∀ (i : Nat) (o : AOper), os'[i]? = some o → o.op.still = false → (lst (Array.replicate k true) i = true ↔ rank os' i < c)) → Inv' ρ S₀ w0 F ⟨mask os' (lst (Array.replicate k true)) (V c).fr, (V c).Γ⟩ a w → Inv' ρ S₀ w0 F (V (chain os').length) a w := fun {a w} c hc hcl hinv => by
    have e1 : c = (chain os').length := by
      refine Classical.byContradiction fun hne => ?_
      obtain ⟨i2, o2, h1, h2, h3, h4⟩ := Qe2 os' os'.length c (by
        unfold rank
        rw [List.take_length]
        omega)
      have := (hcl i2 o2 h2 h3).1 (htrue i2 (hlt i2 o2 h2))
      omega
    subst e1
    have e2 : mask os' (lst (Array.replicate k true)) (V (chain os').length).fr = (V (chain os').length).fr := funext fun t => Qx fun i o ho _ _ => htrue i (hlt i o ho)
    rw [e2] at hinv
    exact hinv
  have hcd : ∀ o ∈ chain os', ∃ i : Nat, os'[i]? = some o ∧ o.op.still = false := fun o ho => by
    simp only [chain, List.mem_filter, Bool.not_eq_true'] at ho
    obtain ⟨i, hi⟩ := List.mem_iff_getElem?.1 ho.1
    exact ⟨i, hi, ho.2⟩
  intro fuel
  induction fuel with
  | zero =>
    intro l a w hs hd hu c hc hcl hinv hK
    obtain rfl := Qb3 hs (by omega)
    exact hK a w _ (by omega) (hend c hc hcl hinv)
  | succ fuel ih =>
    intro l a w hs hd hu c hc hcl hinv hK
    by_cases hz : unlisted l k = 0
    · obtain rfl := Qb3 hs hz
      exact hK a w _ (by omega) (hend c hc hcl hinv)
    · -- one may come up
      have hex : ∃ i, i < k ∧ l.getD i false = false := by
        unfold unlisted at hz
        obtain ⟨i, hi⟩ := List.exists_mem_of_length_pos (Nat.pos_of_ne_zero hz)
        simp only [List.mem_filter, List.mem_range, lst, Bool.not_eq_true'] at hi
        exact ⟨i, hi⟩
      obtain ⟨i0, hi0, hl0⟩ := hex
      obtain ⟨j0, hj0, hjl0, o0, ho0, hall0⟩ := Qee (l := l) hback hk i0 i0 rfl hi0 hl0
      have hready0 : j0 ∈ Region.ready md ops (l ++ Array.replicate (ops.size - k) false) := mem_ready.2 ⟨by rw [Qac (by omega), Qbu (by omega)]; exact hjl0, o0, ho0, fun e he hbd => (by
        obtain ⟨h1, h2⟩ := hall0 e he hbd
        rw [Qac (by omega)]; exact h1)⟩
      have hsub : ∀ i, i ∈ Region.ready md ops (l ++ Array.replicate (ops.size - k) false) → i < k ∧ l.getD i false = false ∧ ∃ o, ops[i]? = some o ∧ ∀ e ∈ o.after, Region.binds md e = true → l.getD e.on false = true := by
        intro i hi
        obtain ⟨h0, o, ho, hall⟩ := mem_ready.1 hi
        have hin : i < ops.size := (Array.getElem?_eq_some_iff.1 ho).1
        have hall' : ∀ e ∈ o.after, Region.binds md e = true → l.getD e.on false = true := fun e he hbd => by
          have h1 := hall e he hbd
          by_cases hek : e.on < k
          · rw [Qac (by omega)] at h1; exact h1
          · rw [Qep (by omega)] at h1; cases h1
        by_cases hik : i < k
        · exact ⟨hik, by rw [Qac (by omega), Qbu (by omega)] at h0; exact h0, o, ho, hall'⟩
        · exfalso
          simp only [coverB, List.all_eq_true, List.mem_range] at hcover
          have h2 := hcover (i - k) (by omega) i0 hi0
          rw [show k + (i - k) = i by omega] at h2
          have := Qbk hd ho hall' h2
          rw [hl0] at this
          cases this
      rw [show fuel + 1 + (ops.size - k) = (fuel + (ops.size - k)) + 1 by omega]
      refine ⟨fun hr0 => (by rw [hr0] at hready0; cases hready0), fun i hi => ?_⟩
      obtain ⟨hik, hil, o, ho, hall⟩ := hsub i hi
      have hset : (l ++ Array.replicate (ops.size - k) false).setIfInBounds i true = l.setIfInBounds i true ++ Array.replicate (ops.size - k) false := by
        rw [Array.setIfInBounds_append_left (by omega)]
      rw [hset]
      have hd' : Down md ops (l.setIfInBounds i true) := by
        intro j oj hj hoj e he hbd
        by_cases e1 : i = j
        · subst e1
          rw [ho] at hoj
          cases hoj
          exact getD_set_true (hall e he hbd)
        · rw [getD_set_ne false e1] at hj
          exact getD_set_true (hd j oj hj hoj e he hbd)
      have hu' : unlisted (l.setIfInBounds i true) k ≤ fuel := by
        have := Qfi hik hs hil
        omega
      obtain ⟨o', ho', hdst, hgd, hop⟩ := hmg i o (by rw [List.getElem?_take_of_lt hik, Array.getElem?_toList]; exact ho)
      have hli : lst (l.setIfInBounds i true) i = true := by simp [lst, hs, hik]
      have hlo : ∀ m, m ≠ i → lst (l.setIfInBounds i true) m = lst l m := fun m hm => getD_set_ne (listed := l) false (Ne.symm hm)
      have hnear : ∀ m, nearB md ops i m = true → lst l m = true := fun m h6 => by
        show l.getD m false = true
        unfold nearB at h6
        simp only [Bool.or_eq_true] at h6
        rcases h6 with h6 | h6
        · rw [ho] at h6
          simp only [Option.map_some, Option.getD_some, Array.any_eq_true, Bool.and_eq_true, beq_iff_eq] at h6
          obtain ⟨x, hx, hbd, he⟩ := h6
          rw [← he]
          exact hall _ (Array.getElem_mem hx) hbd
        · exact Qbk hd ho hall h6
      have hgn := hgu i o' ho'
      classical
      have key : ∃ c' : Nat, c' ≤ (chain os').length ∧ (∀ (m : Nat) (o2 : AOper), os'[m]? = some o2 → o2.op.still = false → (lst (l.setIfInBounds i true) m = true ↔ rank os' m < c')) ∧
          ∀ Kt : St → Option α, Kt ⟨mask os' (lst (l.setIfInBounds i true)) (V c').fr, (V c').Γ⟩ = some r → o'.exec false E ⟨mask os' (lst l) (V c).fr, (V c).Γ⟩ Kt = some r := by
        cases hst : o'.op.still with
        | true =>
          obtain ⟨huse, hlo2, x, u, hx, hfx, hcu, hstep⟩ := hval o' (by simp only [stills, List.mem_filter]; exact ⟨List.mem_of_getElem? ho', hst⟩)
          refine ⟨c, hc, fun m o2 hm2 hs2 => ?_, fun Kt hKt => ?_⟩
          · have : m ≠ i := by
              rintro rfl
              rw [ho'] at hm2
              cases hm2
              rw [hst] at hs2
              cases hs2
            rw [hlo m this]
            exact hcl m o2 hm2 hs2
          · have hnoc : ∀ t, (t ∈ o'.op.uses ∨ t = x) → ∀ o2 ∈ chain os', o2.dst ≠ some t := fun t ht o2 ho2 he => by
              obtain ⟨m, hm2, hs2⟩ := hcd o2 ho2
              have h7 := hlink i m o' o2 ho' hm2
              unfold linkB at h7
              rw [if_pos hst] at h7
              simp only [hs2, Bool.and_eq_true, Bool.or_eq_true, Bool.not_eq_true', beq_iff_eq, bne_iff_ne, ne_eq, Bool.false_and, Bool.false_eq_true, or_false] at h7
              rcases ht with ht | rfl
              · have : readsOf o' o2 = true := by simp only [readsOf, he]; simpa using ht
                rw [this] at h7
                exact absurd h7.1 (by simp)
              · rcases h7.2 with h8 | h8
                · subst h8
                  rw [ho'] at hm2
                  cases hm2
                  rw [hst] at hs2
                  cases hs2
                · exact h8 (by rw [he, hx])
            have hag : ∀ t ∈ o'.op.uses, fp t = mask os' (lst l) (V c).fr t := fun t ht => by
              rw [Qx (fun m o2 hm2 hs2 hd2 => ?_), Qpl hV (huse t ht) (hnoc t (.inl ht)) (by rw [hV0]) c hc]
              have h7 := hlink i m o' o2 ho' hm2
              unfold linkB at h7
              rw [if_pos hst] at h7
              have : readsOf o' o2 = true := by simp only [readsOf, hd2]; simpa using ht
              simp only [this, Bool.and_eq_true, Bool.or_eq_true, Bool.not_true, Bool.false_eq_true, false_or] at h7
              exact hnear m h7.1.2
            have hx2 : (V c).fr x = u := Qpl hV hcu (hnoc x (.inr rfl)) (by rw [hV0]; exact hfx) c hc
            have hfrm : (mask os' (lst l) (V c).fr).put o'.dst u = mask os' (lst (l.setIfInBounds i true)) (V c).fr := by
              have huniq : ∀ (m : Nat) (o2 : AOper), os'[m]? = some o2 → o2.dst = some x → m = i := fun m o2 hm2 hd2 => by
                have h7 := hlink i m o' o2 ho' hm2
                unfold linkB at h7
                rw [if_pos hst] at h7
                simp only [Bool.and_eq_true, Bool.or_eq_true, beq_iff_eq, bne_iff_ne, ne_eq] at h7
                rcases h7.2 with h8 | h8
                · exact h8
                · exact absurd (by rw [hd2, hx]) h8
              funext t
              simp only [Frm.put, hx, Option.some.injEq]
              split
              · rename_i e
                subst e
                rw [Qx (fun m o2 hm2 _ hd2 => by rw [huniq m o2 hm2 hd2]; exact hli), hx2]
              · rename_i e
                by_cases hw : ∃ (m : Nat) (o2 : AOper), os'[m]? = some o2 ∧ o2.op.still = true ∧ o2.dst = some t ∧ lst l m = false
                · obtain ⟨m, o2, hm2, hs2, hd2, hl2⟩ := hw
                  rw [Qa5 hm2 hs2 hd2 hl2, Qa5 hm2 hs2 hd2 (by
                    rw [hlo m (fun e2 => ?_)]
                    · exact hl2
                    · subst e2
                      rw [ho'] at hm2
                      cases hm2
                      rw [hx] at hd2
                      cases hd2
                      exact e rfl)]
                · have hall2 : ∀ (m : Nat) (o2 : AOper), os'[m]? = some o2 → o2.op.still = true → o2.dst = some t → lst l m = true := fun m o2 hm2 hs2 hd2 => by
                    cases hl2 : lst l m with
                    | true => rfl
                    | false => exact absurd ⟨m, o2, hm2, hs2, hd2, hl2⟩ hw
                  rw [Qx hall2, Qx (fun m o2 hm2 hs2 hd2 => by
                    by_cases e2 : m = i
                    · rw [e2]; exact hli
                    · rw [hlo m e2]; exact hall2 m o2 hm2 hs2 hd2)]
            have hv := hstep (fun d => if d = u then some r else none) (by simp)
            rw [Qo4 hst huse hlo2 (Qv4 hV c hc), Qbn hag] at hv
            obtain ⟨e, he1, he2⟩ := Qay E o'.op _ _ _ r hv
            unfold AOper.exec
            rw [hgn]
            refine he2 _ ?_
            have hfin : Kt ⟨(mask os' (lst l) (V c).fr).put o'.dst u, (V c).Γ⟩ = some r := by rw [hfrm]; exact hKt
            cases e with
            | v d =>
              simp only [Eff.value] at he1
              split at he1
              · rename_i e; subst e; exact hfin
              · cases he1
            | cl fl u2 =>
              simp only [Eff.value] at he1
              split at he1
              · rename_i e; subst e; exact hfin
              · cases he1
            | vnew u2 =>
              simp only [Eff.value] at he1
              split at he1
              · rename_i e; subst e; exact hfin
              · cases he1
            | st ms d g => cases he1
        | false =>
          have hrc : rank os' i = c := by
            have h1 : ¬ rank os' i < c := fun h => by
              have := (hcl i o' ho' hst).2 h
              rw [lst, hil] at this
              cases this
            have h2 : ¬ c < rank os' i := fun h => by
              obtain ⟨m, o2, h3, h4, h5, h6⟩ := Qe2 os' i c h
              have h7 := hlink i m o' o2 ho' h4
              unfold linkB at h7
              rw [if_neg (by rw [hst]; simp)] at h7
              simp only [h5, h3, decide_true, Bool.and_eq_true, Bool.or_eq_true, Bool.not_true, Bool.false_eq_true, false_or] at h7
              have := (hcl m o2 h4 h5).1 (hnear m h7.2)
              omega
            omega
          have hget := Qny os' i o' ho' hst
          rw [hrc] at hget
          have hcl2 : c < (chain os').length := (List.getElem?_eq_some_iff.1 hget).1
          obtain ⟨ms, d, _, _, hfr, hex⟩ := hV c o' hget
          refine ⟨c + 1, hcl2, fun m o2 hm2 hs2 => ?_, fun Kt hKt => ?_⟩
          · by_cases e : m = i
            · subst e
              constructor
              · intro _; omega
              · intro _; exact hli
            · rw [hlo m e, hcl m o2 hm2 hs2]
              constructor
              · intro h; omega
              · intro h
                refine Classical.byContradiction fun hne => ?_
                have e2 : rank os' m = rank os' i := by omega
                rcases Nat.lt_or_gt_of_ne e with h3 | h3
                · have := Qg0 os' m i o2 h3 hm2 hs2
                  omega
                · have := Qg0 os' i m o' h3 ho' hst
                  omega
          · refine hex _ (fun t ht => ?_) Kt ?_
            · refine (Qx fun m o2 hm2 hs2 hd2 => ?_).symm
              have h7 := hlink i m o' o2 ho' hm2
              unfold linkB at h7
              rw [if_neg (by rw [hst]; simp)] at h7
              have : readsOf o' o2 = true := by simp only [readsOf, hd2]; simpa using ht
              simp only [this, hs2, Bool.and_eq_true, Bool.or_eq_true, Bool.not_true, Bool.false_eq_true, false_or] at h7
              exact hnear m h7.1
            · have hfrm : ((mask os' (lst l) (V c).fr).retags ms).put o'.dst d = mask os' (lst (l.setIfInBounds i true)) (V (c + 1)).fr := by
                rw [hfr]
                funext t
                by_cases hw : ∃ (m : Nat) (o2 : AOper), os'[m]? = some o2 ∧ o2.op.still = true ∧ o2.dst = some t ∧ lst l m = false
                · obtain ⟨m, o2, hm2, hs2, hd2, hl2⟩ := hw
                  have hmi : m ≠ i := by
                    rintro rfl
                    rw [ho'] at hm2
                    cases hm2
                    rw [hst] at hs2
                    cases hs2
                  have hnd : o'.dst ≠ some t := fun he => by
                    have h7 := hlink m i o2 o' hm2 ho'
                    unfold linkB at h7
                    rw [if_pos hs2] at h7
                    simp only [Bool.and_eq_true, Bool.or_eq_true, beq_iff_eq, bne_iff_ne, ne_eq] at h7
                    rcases h7.2 with h8 | h8
                    · exact hmi h8.symm
                    · exact h8 (by rw [he, hd2])
                  rw [Qa5 hm2 hs2 hd2 (by rw [hlo m hmi]; exact hl2)]
                  simp only [Frm.put, hnd, if_false]
                  exact retagsU ms _ t (Qa5 hm2 hs2 hd2 hl2)
                · have hall2 : ∀ (m : Nat) (o2 : AOper), os'[m]? = some o2 → o2.op.still = true → o2.dst = some t → lst l m = true := fun m o2 hm2 hs2 hd2 => by
                    cases hl2 : lst l m with
                    | true => rfl
                    | false => exact absurd ⟨m, o2, hm2, hs2, hd2, hl2⟩ hw
                  rw [Qx (fun m o2 hm2 hs2 hd2 => by
                    by_cases e2 : m = i
                    · rw [e2]; exact hli
                    · rw [hlo m e2]; exact hall2 m o2 hm2 hs2 hd2)]
                  simp only [Frm.put]
                  split
                  · rfl
                  · exact retagsA ms _ _ t (Qx hall2)
              rw [hfrm]
              exact hKt
      obtain ⟨c', hc', hcl', hkey⟩ := key
      let Kt : St → Option α := fun s' => if s' = ⟨mask os' (lst (l.setIfInBounds i true)) (V c').fr, (V c').Γ⟩ then some r else none
      have hex : o'.exec false E ⟨mask os' (lst l) (V c).fr, (V c).Γ⟩ Kt = some r := hkey Kt (by simp [Kt])
      have hnext : ∀ s' a' w', Inv' ρ S₀ w0 F s' a' w' → Kt s' = some r → wpAny P md ops Q (fuel + (ops.size - k)) (l.setIfInBounds i true ++ Array.replicate (ops.size - k) false) a' w' := fun s' a' w' hinv' hk' => by
        simp only [Kt] at hk'
        split at hk'
        · rename_i e
          subst e
          exact ih _ a' w' (by simp [hs]) hd' hu' c' hc' hcl' hinv' hK
        · cases hk'
      obtain ⟨β, B, hinv⟩ := hinv
      unfold wpOp
      rw [ho]
      simp only
      rcases Qcz hinv hgd hex with ⟨hw, h⟩ | ⟨hw, h⟩
      · rw [if_pos hw]
        rw [← hdst] at h
        exact .inl (Qc4 hg hinv hop h hnext)
      · rw [if_neg (by rw [hw]; simp)]
        refine hnext _ _ w ?_ h
        rw [← hdst]
        exact ⟨β, B, hinv.rel.put (d := .skip) (v := Go.undef) rfl, hinv.below, hinv.given⟩
theorem Inv'.blank {os : List AOper} (h : Inv' ρ S₀ w0 F s a w) : Inv' ρ S₀ w0 F ⟨Go.Proofs.Ytboenehajoaahaa.Am.blank os s.fr, s.Γ⟩ a w := by
  obtain ⟨β, B, hi⟩ := h
  refine ⟨β, B, hi.rel.keep _ _ (fun i => ?_) (fun R => .inl rfl), hi.below, hi.given⟩
  simp only [Go.Proofs.Ytboenehajoaahaa.Am.blank]
  split
  · exact .inr rfl
  · exact .inl rfl
theorem Qxr (hg : Good P ρ E) (hp : P.follows .mixedOrders = true) {id : Nat} (hB : chainB .any ops k os' = true) (hm : matchOps ρ P F.wd ops (ops.toList.take k) (os'.take k) = true) (hm2 : matchOps ρ P F.wd ops (ops.toList.drop k) (os'.drop k) = true) {K : St → Option α}
    (hinv : Inv' ρ S₀ w0 F s a w) {T : List Nat} (h : execV E T s.Γ (stills (os'.take k)) (blank (stills (os'.take k)) s.fr) (fun fr => execC E T (chain (os'.take k)) ⟨fr, s.Γ⟩ fun s => execOps false E (os'.drop k) s K) = some r)
    (hK : ∀ s' a' w', Inv' ρ S₀ w0 F s' a' w' → K s' = some r → Q .normal a' w') : (Code.region id ops true).wp P Q a w := by
  simp only [chainB, Bool.and_eq_true, decide_eq_true_eq] at hB
  obtain ⟨⟨⟨⟨hk, hback⟩, hcover⟩, hforced⟩, hq⟩ := hB
  have hkl : (os'.take k).length = k := by
    have := (Qbi hm).1
    rw [List.length_take, Array.length_toList] at this
    omega
  have hget : ∀ (i : Nat) (o : AOper), (os'.take k)[i]? = some o → i < k ∧ os'[i]? = some o := fun i o ho => by
    have h1 := (List.getElem?_eq_some_iff.1 ho).1
    have h2 : i < k := by omega
    rw [List.getElem?_take_of_lt h2] at ho
    exact ⟨h2, ho⟩
  simp only [List.all_eq_true, List.mem_range] at hq
  have hgu : ∀ (m : Nat) (o : AOper), (os'.take k)[m]? = some o → o.guard = none := fun m o ho => by
    obtain ⟨h1, h2⟩ := hget m o ho
    have := hq m h1
    rw [h2] at this
    simp only [Bool.and_eq_true, Option.isNone_iff_eq_none] at this
    exact this.1
  have hlink : ∀ (i j : Nat) (o o2 : AOper), (os'.take k)[i]? = some o → (os'.take k)[j]? = some o2 → linkB .any ops i j o o2 = true := fun i j o o2 ho ho2 => by
    obtain ⟨h1, h2⟩ := hget i o ho
    obtain ⟨h3, h4⟩ := hget j o2 ho2
    have := hq i h1
    rw [h2] at this
    simp only [Bool.and_eq_true, List.all_eq_true, List.mem_range] at this
    have := this.2 j h3
    rw [h4] at this
    exact this
  generalize hos : os'.take k = os at *
  have hpair : (stills os).Pairwise fun o o2 => ∀ t, o2.dst = some t → t ∉ o.op.uses ∧ o.dst ≠ some t := by
    unfold stills
    rw [List.pairwise_filter, List.pairwise_iff_getElem]
    intro i j hi hj hij hs1 hs2 t hd
    have h7 := hlink i j os[i] os[j] (List.getElem?_eq_getElem hi) (List.getElem?_eq_getElem hj)
    unfold linkB at h7
    rw [if_pos hs1] at h7
    simp only [hs2, Bool.and_eq_true, Bool.or_eq_true, Bool.not_eq_true', beq_iff_eq, bne_iff_ne, ne_eq, decide_eq_true_eq] at h7
    constructor
    · intro hu
      have : readsOf os[i] os[j] = true := by simp only [readsOf, hd]; simpa using hu
      rw [this] at h7
      rcases h7.1 with h8 | h8
      · cases h8
      · omega
    · intro he
      rcases h7.2 with h8 | h8
      · omega
      · exact h8 (by rw [hd, he])
  have hself : ∀ o ∈ stills os, ∀ t, o.dst = some t → t ∉ o.op.uses := fun o ho t hd hu => by
    simp only [stills, List.mem_filter] at ho
    obtain ⟨i, hi⟩ := List.mem_iff_getElem?.1 ho.1
    have h7 := hlink i i o o hi hi
    unfold linkB at h7
    rw [if_pos ho.2] at h7
    have : readsOf o o = true := by simp only [readsOf, hd]; simpa using hu
    simp [this] at h7
  obtain ⟨fp, h1, h2, h3⟩ := Qf8 _ _ h hpair hself
  obtain ⟨V, hV0, hVend, hV⟩ := Qiu _ _ h1 (fun o ho => by
    simp only [chain, List.mem_filter] at ho
    obtain ⟨i, hi⟩ := List.mem_iff_getElem?.1 ho.1
    exact hgu i o hi)
  refine wp_region_any hp ?_
  have e1 : ops.size = k + (ops.size - k) := by omega
  have e2 : Array.replicate ops.size false = Array.replicate k false ++ Array.replicate (ops.size - k) false := by
    rw [Array.replicate_append_replicate, ← e1]
  rw [e2]
  have hfalse : ∀ m, lst (Array.replicate k false) m = false := fun m => by
    simp only [lst, Array.getD_eq_getD_getElem?, Array.getElem?_replicate]
    split <;> rfl
  have hinv2 : Inv' ρ S₀ w0 F ⟨mask os (lst (Array.replicate k false)) (V 0).fr, (V 0).Γ⟩ a { w with drawn := w.drawn + 1 } := by
    have e3 : mask os (lst (Array.replicate k false)) (V 0).fr = blank (stills os) s.fr := by
      funext t
      rw [hV0]
      by_cases hw : ∃ (m : Nat) (o2 : AOper), os[m]? = some o2 ∧ o2.op.still = true ∧ o2.dst = some t
      · obtain ⟨m, o2, hm2, hs2, hd2⟩ := hw
        rw [Qa5 hm2 hs2 hd2 (hfalse m)]
        unfold blank
        rw [if_pos]
        simp only [List.any_eq_true, stills, List.mem_filter]
        exact ⟨o2, ⟨List.mem_of_getElem? hm2, hs2⟩, by simp [hd2]⟩
      · rw [Qx (fun m o2 hm2 hs2 hd2 => absurd ⟨m, o2, hm2, hs2, hd2⟩ hw)]
        refine h2 t fun o ho hd => hw ?_
        simp only [stills, List.mem_filter] at ho
        obtain ⟨i, hi⟩ := List.mem_iff_getElem?.1 ho.1
        exact ⟨i, o, hi, ho.2, hd⟩
    rw [e3, hV0]
    obtain ⟨β, B, hi⟩ := hinv.blank (os := stills os)
    exact ⟨β, B, hi.grow ((Below.refl _ _).drew)⟩
  have key := Qxf (Q := Q) (r := r) (fp := fp) hg hk hback hcover hm hgu hlink (by rw [hV0]) hV (by rw [hV0]; exact h3)
    k (Array.replicate k false) a { w with drawn := w.drawn + 1 } (by simp) (fun i o hi => by
      exfalso
      have := hfalse i
      rw [lst] at this
      rw [this] at hi
      cases hi) (by
      unfold unlisted
      exact Nat.le_trans (List.length_filter_le _ _) (by simp)) 0 (Nat.zero_le _) (fun i o _ _ => by rw [hfalse i]; simp) hinv2 (fun a' w' fuel hfu hinv' => Qdy hforced (ops.size - k) k (by omega) (Nat.le_refl _) fuel a' w' hfu (by
      have := wpOps_eq_wpList (P := P) (ops := ops) (Q := Q) (ops.toList.drop k) k (fun j => by simp)
      rw [List.length_drop, Array.length_toList] at this
      rw [this]
      exact Qbj hg _ _ _ a' w' hm2 hinv' hVend hK))
  rwa [← e1] at key
end
end Go.Proofs.Ytboenehajoaahaa.Am
