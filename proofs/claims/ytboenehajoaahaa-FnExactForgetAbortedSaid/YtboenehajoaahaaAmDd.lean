import Derived.Test.YtboenehajoaahaaAmDc
namespace Go.Proofs.Ytboenehajoaahaa.Am
open Go
def Owned (Γ : Hp) (B : Nat → List Nat) (b : Nat) : Prop := ∃ R, (Γ R).isSome = true ∧ b ∈ B R
structure Parts (ρ : Nat → FuncId) (w : World) (S : Nat → Prop) (β : Nat → Lay) (Γ : Hp) (B : Nat → List Nat) (Γ1 : Hp) (B1 : Nat → List Nat) (Bx : List Nat) : Prop where
  roots : ∀ R c, Γ1 R = some c → (β R).live → RootOK ρ w S β c (β R) (B1 R)
  apart : ∀ R R', R ≠ R' → (Γ1 R).isSome = true → (Γ1 R').isSome = true → ∀ b ∈ B1 R, b ∉ B1 R'
  sub : ∀ R, (Γ1 R).isSome = true → (Γ R).isSome = true ∧ ∀ b ∈ B1 R, b ∈ B R
  out : ∀ b ∈ Bx, Owned Γ B b ∧ ∀ R, (Γ1 R).isSome = true → b ∉ B1 R
  nodup : Bx.Nodup
section
variable {ρ : Nat → FuncId} {w w' : World} {S S' : Nat → Prop} {β β' : Nat → Lay} {Γ Γ1 Γ2 : Hp} {B B1 : Nat → List Nat} {Bx : List Nat}
theorem TCs.oneCell {xs : List (Hdr × D)} {cs : List Value} {B : List Nat} (h : TCs ρ w S β xs cs B) : ∀ v ∈ cs, v.oneCell' = true := by
  induction h with
  | nil => simp
  | val h1 t ih =>
    intro v hv
    rcases List.mem_append.1 hv with hv | hv
    · exact h1.oneCell v hv
    · exact ih v hv
  | agg h1 t ih1 ih =>
    intro v hv
    rcases List.mem_append.1 hv with hv | hv
    · exact ih1 v hv
    · exact ih v hv
  | junk hl ho t ih =>
    intro v hv
    rcases List.mem_append.1 hv with hv | hv
    · exact ho v hv
    · exact ih v hv
  | ref hr hs t ih =>
    intro v hv
    rcases List.mem_cons.1 hv with rfl | hv
    · exact hs.oneCell
    · exact ih v hv
  | _ =>
    intro v hv
    rcases List.mem_cons.1 hv with rfl | hv
    · first | rfl | assumption
    · simp_all
theorem Qda {α : Type} {h : Hdr} {k : Nat} {d : D} {cs : List Value} {B : List Nat} {K : Option α} {r : α} (hs : d.isSl k K = some r) (t : TCs ρ w S β [(h, d.ex)] cs B) : K = some r ∧ ∃ v, cs = [v] ∧ h [] = some v ∧ v.oneCell' = true ∧ ∃ ds, d.ex = .osl k ds := by
  have key : ∀ ds, d.ex = .osl k ds → ∃ v, cs = [v] ∧ h [] = some v ∧ v.oneCell' = true ∧ ∃ ds, d.ex = .osl k ds := fun ds e => by
    rw [e] at t
    cases t with
    | osl0 hh t => cases t; exact ⟨_, rfl, hh, rfl, _, e⟩
    | osl hh hb hsz hle hmax hks ht h1 t => cases t; exact ⟨_, rfl, hh, rfl, _, e⟩
  cases d with
  | own u =>
    cases u with
    | sl k' us =>
      simp only [D.isSl, U.asSlK] at hs
      split at hs
      · rename_i e; subst e; exact ⟨hs, key _ rfl⟩
      · cases hs
    | _ => cases hs
  | asl k' us =>
    simp only [D.isSl] at hs
    split at hs
    · rename_i e; subst e; exact ⟨hs, key _ rfl⟩
    · cases hs
  | osl k' ds =>
    simp only [D.isSl] at hs
    split at hs
    · rename_i e; subst e; exact ⟨hs, key _ rfl⟩
    · cases hs
  | _ => cases hs
theorem Qfv {α : Type} {c : Cn} {K : D → Option α} {r : α} (h : c.data K = some r) : ∃ d, c.dat = some d ∧ K d = some r := by
  cases c with
  | box d => exact ⟨d, rfl, h⟩
  | vir d => exact ⟨d, rfl, h⟩
  | held t => cases h
theorem Qat {R : Nat} {p : List Step} {d' : D} (h : Γ.atO R p = some d') : ∃ c d, Γ R = some c ∧ c.dat = some d ∧ getD d p = some d' := by
  unfold Hp.atO Hp.at at h
  split at h
  · rename_i c hc
    obtain ⟨d, h1, h2⟩ := Qfv h
    exact ⟨c, d, hc, h1, h2⟩
  · cases h
theorem Qbm {R n : Nat} {x : D} {p : List Step} {Γ' : Hp} (h : Γ.setO n x R p = some Γ') : ∃ c d d2, Γ R = some c ∧ c.dat = some d ∧ setD n x d p = some d2 ∧ Γ' = upd Γ R (some (c.with d2)) := by
  unfold Hp.setO Hp.setAt at h
  split at h
  · rename_i c hc
    obtain ⟨d, h1, h2⟩ := Qfv h
    rw [Qal] at h2
    obtain ⟨d2, h3, h4⟩ := Option.bind_eq_some_iff.1 h2
    cases h4
    exact ⟨c, d, d2, hc, h1, h3, rfl⟩
  · cases h
theorem Qwg {n : Nat} {x' : D} (h : LeafOf (.junk n) x') : x' = .junk n := by
  rcases h with rfl | ⟨v, e, _⟩
  · rfl
  · cases e
theorem Parts.pull (hp : Parts ρ w S β Γ B Γ1 B1 Bx) {R : Nat} {c : Cn} {d d' d2 : D} {p : List Step} {n : Nat} (hc : Γ1 R = some c) (hl : (β R).live) (hd : c.dat = some d) (hg : getD d p = some d') (hn : d'.size = n) (hs : setD n (.junk n) d p = some d2) :
    ∃ cs B2 Bc, Parts ρ w S β Γ B (upd Γ1 R (some (c.with d2))) B2 (Bx ++ Bc) ∧ TCs ρ w S β [((β R).h.sub p, d'.ex)] cs Bc ∧ cs.length = n ∧ (∀ b off, (β R).go p = some (.adr b off) → w.rangeAt b off cs) := by
  obtain ⟨cs, Bo, Bc, mk, hpart⟩ := (hp.roots R c hc hl).part hd hg
  have hj : ∀ x', LeafOf (.junk n) x' → TCs ρ w S β [((β R).h.sub p, x'.retag .id)] cs [] := fun x' hx => by
    rw [Qwg hx]
    have := TCs.junk (ρ := ρ) (w := w) (S := S) (β := β) (h := (β R).h.sub p) (n := n) (by rw [hpart.len, hn]) hpart.cells.oneCell .nil
    rw [List.append_nil] at this
    exact this
  have hno : (Bo ++ []).Nodup := by simpa using (List.nodup_append.1 hpart.nodup).1
  have hroot : RootOK ρ w S β (c.with d2) (β R) (mk []) := by
    rcases hpart.spot with ⟨b, off, cur, e, h1, h2, h3, h4, h5, h6⟩ | ⟨h1, h6⟩
    · have := h6 w S β .id n (.junk n) d d2 ((β R).h.sub p) cs [] (fun _ h => h) (fun _ _ => rfl) (TagOK.same fun _ _ => rfl) (fun _ _ _ => rfl) (by rw [Qnq h4 h5]; exact h3) rfl hd hs rfl hj hno
      rw [Qdo, Qgz] at this
      exact this
    · have := h6 w S β .id n (.junk n) d d2 ((β R).h.sub p) cs [] (fun _ h => h) (fun _ _ => rfl) (TagOK.same fun _ _ => rfl) (fun _ _ => rfl) hd hs rfl hj hno
      rw [Qdo, Qgz] at this
      exact this
  obtain ⟨B', hB', hroot⟩ : ∃ B', (∀ b, b ∈ B' ↔ b ∈ Bo ∨ b ∈ ([] : List Nat)) ∧ RootOK ρ w S β (c.with d2) (β R) B' := ⟨_, hpart.mkmem [], hroot⟩
  have hB'sub : ∀ b ∈ B', b ∈ B1 R := fun b hb => (hpart.mem b).2 (.inl (by simpa using (hB' b).1 hb))
  have hRs : (Γ1 R).isSome = true := by rw [hc]; rfl
  have hsome : ∀ R', (upd Γ1 R (some (c.with d2)) R').isSome = (Γ1 R').isSome := fun R' => by
    by_cases e : R' = R
    · subst e; rw [Qd, hc]; rfl
    · rw [Qa _ _ e]
  have hsub : ∀ R', ∀ b ∈ upd B1 R B' R', b ∈ B1 R' := fun R' b hb => by
    by_cases e : R' = R
    · subst e; rw [Qd] at hb; exact hB'sub b hb
    · rw [Qa _ _ e] at hb; exact hb
  refine ⟨cs, upd B1 R B', Bc, ⟨fun R' c' hR' hl' => ?_, fun R1 R2 hne h1 h2 b hb1 hb2 => hp.apart R1 R2 hne (by rw [← hsome]; exact h1) (by rw [← hsome]; exact h2) b (hsub R1 b hb1) (hsub R2 b hb2), fun R' hR' => ?_, fun b hb => ?_, ?_⟩, hpart.cells, by rw [hpart.len, hn], fun b off hgo => ?_⟩
  · by_cases e : R' = R
    · subst e
      rw [Qd] at hR' ⊢
      cases hR'
      exact hroot
    · rw [Qa _ _ e] at hR' ⊢
      exact hp.roots R' c' hR' hl'
  · rw [hsome] at hR'
    exact ⟨(hp.sub R' hR').1, fun b hb => (hp.sub R' hR').2 b (hsub R' b hb)⟩
  · rcases List.mem_append.1 hb with hb | hb
    · exact ⟨(hp.out b hb).1, fun R' hR' hm => (hp.out b hb).2 R' (by rw [← hsome]; exact hR') (hsub R' b hm)⟩
    · have hbR : b ∈ B1 R := (hpart.mem b).2 (.inr hb)
      refine ⟨⟨R, (hp.sub R hRs).1, (hp.sub R hRs).2 b hbR⟩, fun R' hR' hm => ?_⟩
      by_cases e : R' = R
      · subst e
        rw [Qd] at hm
        have : b ∈ Bo := by simpa using (hB' b).1 hm
        exact (List.nodup_append.1 hpart.nodup).2.2 b this b hb rfl
      · rw [Qa _ _ e] at hm
        exact hp.apart R R' (Ne.symm e) hRs (by rw [← hsome]; exact hR') b hbR hm
  · refine List.nodup_append.2 ⟨hp.nodup, (List.nodup_append.1 hpart.nodup).2.1, fun a ha b hb e => ?_⟩
    subst e
    exact (hp.out a ha).2 R hRs ((hpart.mem a).2 (.inr hb))
  · rcases hpart.spot with ⟨b', off', cur, e, h1, h2, h3, h4, h5, h6⟩ | ⟨h1, h6⟩
    · rw [hgo] at h1
      cases h1
      exact Qch h3 h4
    · rw [hgo] at h1; cases h1
theorem Parts.pullAll (hp : Parts ρ w S β Γ B Γ1 B1 Bx) {R : Nat} {d : D} (hc : Γ1 R = some (.vir d)) (hl : (β R).live) :
    ∃ cs, Parts ρ w S β Γ B (upd Γ1 R none) B1 (Bx ++ B1 R) ∧ TCs ρ w S β [((β R).h, d.ex)] cs (B1 R) := by
  obtain ⟨hn, cs, h1, h2⟩ := hp.roots R _ hc hl
  have hRs : (Γ1 R).isSome = true := by rw [hc]; rfl
  have hsome : ∀ R', (upd Γ1 R none R').isSome = true → R' ≠ R ∧ (Γ1 R').isSome = true := fun R' h => by
    by_cases e : R' = R
    · subst e; rw [Qd] at h; cases h
    · rw [Qa _ _ e] at h; exact ⟨e, h⟩
  refine ⟨cs, ⟨fun R' c' hR' hl' => ?_, fun R1 R2 hne h1 h2 => hp.apart R1 R2 hne (hsome R1 h1).2 (hsome R2 h2).2, fun R' hR' => hp.sub R' (hsome R' hR').2, fun b hb => ?_, ?_⟩, h2⟩
  · have h := hsome R' (by rw [hR']; rfl)
    rw [Qa _ _ h.1] at hR'
    exact hp.roots R' c' hR' hl'
  · rcases List.mem_append.1 hb with hb | hb
    · exact ⟨(hp.out b hb).1, fun R' hR' => (hp.out b hb).2 R' (hsome R' hR').2⟩
    · exact ⟨⟨R, (hp.sub R hRs).1, (hp.sub R hRs).2 b hb⟩, fun R' hR' hm => hp.apart R R' (Ne.symm (hsome R' hR').1) hRs (hsome R' hR').2 b hb hm⟩
  · refine List.nodup_append.2 ⟨hp.nodup, hn, fun a ha b hb e => ?_⟩
    subst e
    exact (hp.out a ha).2 R hRs hb
def mkH (hs : List Hdr) : Hdr
  | .fld j _ :: q => match hs[j]? with
    | some h => h q
    | none => none
  | _ => none
theorem Qmb (hs0 : List Hdr) : ∀ (ds : List D) (hs : List Hdr) (j off : Nat), hs.length = ds.length → (∀ i, hs[i]? = hs0[j + i]?) → flds (mkH hs0) j off ds = hs.zip ds
  | [], hs, j, off, hl, _ => by
    obtain rfl : hs = [] := List.length_eq_zero_iff.1 hl
    rfl
  | d :: ds, [], j, off, hl, _ => by cases hl
  | d :: ds, h :: hs, j, off, hl, hi => by
    simp only [flds, List.zip_cons_cons]
    rw [Qmb hs0 ds hs (j + 1) _ (by simpa using hl) fun i => by
      have := hi (i + 1)
      simp only [List.getElem?_cons_succ] at this
      rw [this]
      congr 1
      omega]
    congr 2
    funext q
    have := hi 0
    simp only [List.getElem?_cons_zero, Nat.add_zero] at this
    simp only [Hdr.at, mkH, ← this]
theorem Qe8 {k : Nat} {d : D} {ds : List D} (h : d.ex = .osl k ds) : d.size = 1 := by rw [← Qz, h]; rfl
theorem Parts.take : ∀ (d : D) {Γ1 : Hp} {B1 : Nat → List Nat} {Bx : List Nat} {c : D} {Γ2 : Hp} {vs : List Value}, d.takeO Γ1 = some (c, Γ2) → DCs ρ w S β [d] vs → Parts ρ w S β Γ B Γ1 B1 Bx →
    ∃ h B2 Bc, Parts ρ w S β Γ B Γ2 B2 (Bx ++ Bc) ∧ TCs ρ w S β [(h, c.ex)] vs Bc ∧ c.size = d.size
  | .val u, Γ1, B1, Bx, c, Γ2, vs, ht, hd, hp => by
    have : c = .val u ∧ Γ2 = Γ1 := by cases u <;> (simp [D.takeO, D.take, U.noTup] at ht) <;> exact ⟨ht.1.symm, ht.2.symm⟩
    obtain ⟨rfl, rfl⟩ := this
    cases hd with
    | val h1 hd => cases hd; exact ⟨noHdr, B1, [], by simpa using hp, TCs.val h1 .nil, rfl⟩
  | .ptr R p, Γ1, B1, Bx, c, Γ2, vs, ht, hd, hp => by
    simp only [D.takeO, D.take, Option.some.injEq, Prod.mk.injEq] at ht
    obtain ⟨rfl, rfl⟩ := ht
    cases hd with
    | ptr R p b o hgo hd => cases hd; exact ⟨noHdr, B1, [], by simpa using hp, .ptr hgo .nil, rfl⟩
  | .fnv r caps, Γ1, B1, Bx, c, Γ2, vs, ht, hd, hp => by
    simp only [D.takeO, D.take, Option.some.injEq, Prod.mk.injEq] at ht
    obtain ⟨rfl, rfl⟩ := ht
    cases hd with
    | fnv r h1 hv hd => cases hd; exact ⟨noHdr, B1, [], by simpa using hp, .fnv h1 hv .nil, rfl⟩
  | .ref R p k none, Γ1, B1, Bx, c, Γ2, vs, ht, hd, hp => by
    simp only [D.takeO, D.take, at_eq] at ht
    rw [Option.bind_eq_some_iff] at ht
    obtain ⟨d', hat, ht⟩ := ht
    obtain ⟨cn, d0, hcn, hdat, hget⟩ := Qat hat
    cases hd with
    | ref R p k part v v0 hv hs hd =>
      cases hd
      have hl := Lay.live_of_hdr hv
      rw [Lay.hdr_live hl] at hv
      obtain ⟨cs1, Bo1, Bc1, mk1, hpart⟩ := (hp.roots R cn hcn hl).part hdat hget
      obtain ⟨ht, v1, hcs1, hh1, hone, ds, hex⟩ := Qda ht hpart.cells
      have hv1 : v1 = v0 := by
        have : (β R).h p = some v1 := by simpa [Hdr.sub] using hh1
        rw [hv] at this
        exact (Option.some.inj this).symm
      obtain ⟨hvv, _⟩ := hs
      subst hvv
      have hsz := Qe8 hex
      have setc : ∀ Γ', Γ1.setO 1 (.junk 1) R p = some Γ' → ∃ h B2 Bc, Parts ρ w S β Γ B Γ' B2 (Bx ++ Bc) ∧ TCs ρ w S β [(h, d'.ex)] [v] Bc ∧ d'.size = 1 := fun Γ' hset => by
        obtain ⟨c2, d3, d2, hc2, hd3, hset, rfl⟩ := Qbm hset
        rw [hcn] at hc2
        cases hc2
        rw [hdat] at hd3
        cases hd3
        obtain ⟨cs, B2, Bc, h1, h2, h3, _⟩ := hp.pull hcn hl hdat hget hsz hset
        have hv2 : cs = [v] := by
          rw [hex] at h2
          cases h2 with
          | osl0 hh t => cases t; simp only [Hdr.sub, List.append_nil] at hh; rw [hv] at hh; cases hh; rfl
          | osl hh _ _ _ _ _ _ _ t => cases t; simp only [Hdr.sub, List.append_nil] at hh; rw [hv] at hh; cases hh; rfl
        rw [hv2] at h2
        exact ⟨_, B2, Bc, h1, h2, hsz⟩
      split at ht
      · rename_i d1 hg1 _
        simp only [Option.some.injEq, Prod.mk.injEq] at ht
        obtain ⟨rfl, rfl⟩ := ht
        rw [hcn] at hg1
        cases hg1
        obtain ⟨cs, h1, h2⟩ := hp.pullAll hcn hl
        cases hdat
        have hdd : d' = d0 := by
          unfold getD at hget
          cases d0 <;> (simp only [getDK, Option.some.injEq] at hget; exact hget.symm)
        subst hdd
        have hv2 : cs = [v] := by
          have h3 := h2
          rw [hex] at h3
          generalize B1 R = Bz at h3
          cases h3 with
          | osl0 hh t => cases t; rw [hv] at hh; cases hh; rfl
          | osl hh _ _ _ _ _ _ _ t => cases t; rw [hv] at hh; cases hh; rfl
        rw [hv2] at h2
        exact ⟨_, B1, _, h1, h2, hsz⟩
      · rw [Qab] at ht
        obtain ⟨Γ', hset, ht⟩ := Option.bind_eq_some_iff.1 ht
        simp only [Option.some.injEq, Prod.mk.injEq] at ht
        obtain ⟨rfl, rfl⟩ := ht
        exact setc _ hset
  | .ref R p k (some x), _, _, _, _, _, _, ht, _, _ => by cases ht
  | .agg ds, Γ1, B1, Bx, c, Γ2, vs, ht, hd, hp => by
    rw [Qhp] at ht
    obtain ⟨⟨cs, Γ3⟩, h1, h2⟩ := Option.bind_eq_some_iff.1 ht
    cases h2
    cases hd with
    | agg h3 hd =>
      cases hd
      obtain ⟨hs, B2, Bc, h4, h5, h6, h7⟩ := go ds h1 h3 hp
      refine ⟨mkH hs, B2, Bc, h4, ?_, h7⟩
      simp only [D.ex, Qr, List.append_nil]
      refine TCs.of_agg ?_
      rw [Qmb hs (cs.map D.ex) hs 0 0 (by rw [h5, List.length_map]) (fun i => by rw [Nat.zero_add])]
      exact h6
  | .own u, _, _, _, _, _, _, ht, _, _ => by cases ht
  | .asl k us, _, _, _, _, _, _, ht, _, _ => by cases ht
  | .osl k ds, _, _, _, _, _, _, ht, _, _ => by cases ht
  | .tup ds, _, _, _, _, _, _, ht, _, _ => by cases ht
  | .junk n, _, _, _, _, _, _, ht, _, _ => by cases ht
  | .skip, _, _, _, _, _, _, ht, _, _ => by cases ht
  | .undef, _, _, _, _, _, _, ht, _, _ => by cases ht
where go : ∀ (ds : List D) {Γ1 : Hp} {B1 : Nat → List Nat} {Bx : List Nat} {cs : List D} {Γ2 : Hp} {vs : List Value}, takesO ds Γ1 = some (cs, Γ2) → DCs ρ w S β ds vs → Parts ρ w S β Γ B Γ1 B1 Bx →
    ∃ (hs : List Hdr) (B2 : Nat → List Nat) (Bc : List Nat), Parts ρ w S β Γ B Γ2 B2 (Bx ++ Bc) ∧ hs.length = cs.length ∧ TCs ρ w S β (hs.zip (cs.map D.ex)) vs Bc ∧ dsizes cs = dsizes ds
  | [], Γ1, B1, Bx, cs, Γ2, vs, ht, hd, hp => by
    rw [Qfg] at ht
    simp only [Option.some.injEq, Prod.mk.injEq] at ht
    obtain ⟨rfl, rfl⟩ := ht
    cases hd
    exact ⟨[], B1, [], by simpa using hp, rfl, .nil, rfl⟩
  | d :: ds, Γ1, B1, Bx, cs, Γ2, vs, ht, hd, hp => by
    rw [Qff] at ht
    obtain ⟨⟨c, Γ3⟩, h1, ht⟩ := Option.bind_eq_some_iff.1 ht
    obtain ⟨⟨cs', Γ4⟩, h2, ht⟩ := Option.bind_eq_some_iff.1 ht
    cases ht
    have hd' : ∃ c1 c2, vs = c1 ++ c2 ∧ DCs ρ w S β [d] c1 ∧ DCs ρ w S β ds c2 := by
      cases hd with
      | val g1 g => exact ⟨_, _, rfl, by simpa using DCs.val (β := β) g1 .nil, g⟩
      | agg g1 g => exact ⟨_, _, rfl, by simpa using DCs.agg g1 .nil, g⟩
      | ref R p k part v v0 hv hs g => exact ⟨[_], _, rfl, .ref R p k part v v0 hv hs .nil, g⟩
      | ptr R p b o hp g => exact ⟨[_], _, rfl, .ptr R p b o hp .nil, g⟩
      | fnv r g1 hv g => exact ⟨[_], _, rfl, .fnv r g1 hv .nil, g⟩
      | undef v g1 g => exact ⟨[_], _, rfl, .undef v g1 .nil, g⟩
    obtain ⟨v1, v2, rfl, hd1, hd2⟩ := hd'
    obtain ⟨h, B2, Bc, g1, g2, g3⟩ := Parts.take d h1 hd1 hp
    obtain ⟨hs, B3, Bc2, g4, g5, g6, g7⟩ := go ds h2 hd2 g1
    refine ⟨h :: hs, B3, Bc ++ Bc2, by rw [← List.append_assoc]; exact g4, by simp [g5], ?_, by simp [g3, g7]⟩
    simp only [List.map_cons, List.zip_cons_cons]
    exact g2.append g6
theorem Qex {k : Nat} {h : Hdr} : ∀ (us : List U) (cs : List Value) (B : List Nat) (i : Nat), U.flat.flats us = true → TCs ρ w S β (elts h k i (us.map .val)) cs B → TCs ρ w S β (elts h k i (U.ex.exs us)) cs B
  | [], cs, B, i, _, t => t
  | u :: us, cs, B, i, hf, t => by
    simp only [U.flat.flats, Bool.and_eq_true] at hf
    obtain ⟨c1, c2, B1, B2, rfl, rfl, _, h1, h2⟩ := TCs.cons_inv t
    obtain ⟨h3, rfl⟩ := h1.val_inv
    exact (Qc0 u _ c1 hf.1 h3).append (Qex us c2 B2 _ hf.2 h2)
theorem Qnb {h : Hdr} {k : Nat} {ds es : List D} {cs : List Value} {B : List Nat} (t : TCs ρ w S β [(h, .osl k ds)] cs B) (hl : es.length = ds.length) (hk : (∀ d ∈ ds, d.size = k) → ∀ d ∈ es, d.size = k) (hr : ∀ c1 B1, TCs ρ w S β (elts h k 0 ds) c1 B1 → TCs ρ w S β (elts h k 0 es) c1 B1) : TCs ρ w S β [(h, .osl k es)] cs B := by
  cases t with
  | osl0 hh t =>
    obtain rfl : es = [] := List.length_eq_zero_iff.1 hl
    exact .osl0 hh t
  | osl hh hb hsz hle hmax hks ht h1 t =>
    have := TCs.osl (ρ := ρ) (w := w) (S := S) (β := β) (h := h) (k := k) (ds := es) (by rw [hl]; exact hh) hb hsz (by rw [hl]; exact hle) hmax (hk hks) (by rw [hl]; exact ht) (hr _ _ h1) t
    rw [hl] at this
    exact this
theorem Qak : ∀ (d : D) (u : U), d.ownO = some u → (u.size = d.size ∧ ∀ (h : Hdr) (cs : List Value) (B : List Nat), TCs ρ w S β [(h, d.ex)] cs B → TCs ρ w S β [(h, u.ex)] cs B)
  | .own u, u', h => by cases h; exact ⟨rfl, fun _ _ _ t => t⟩
  | .val u, u', h => by
    simp only [D.ownO, D.toOwn, U.asFlat] at h
    split at h
    · rename_i hf
      cases h
      refine ⟨rfl, fun h cs B t => ?_⟩
      obtain ⟨h1, rfl⟩ := t.val_inv
      exact Qc0 u h cs hf h1
    · cases h
  | .asl k us, u', h => by
    simp only [D.ownO, D.toOwn] at h
    split at h
    · rename_i hf
      cases h
      refine ⟨rfl, fun h cs B t => ?_⟩
      simp only [D.ex, U.ex] at t ⊢
      refine Qnb t (by rw [Qi]; simp) (fun hk d hd => ?_) fun c1 B1 t1 => Qex us c1 B1 0 hf t1
      rw [Qi] at hd
      obtain ⟨u, hu, rfl⟩ := List.mem_map.1 hd
      rw [Qan]
      exact hk (.val u) (List.mem_map_of_mem hu)
    · cases h
  | .agg ds, u', h => by
    rw [Qgq] at h
    obtain ⟨us, h1, h2⟩ := Option.bind_eq_some_iff.1 h
    cases h2
    obtain ⟨h3, h4, _⟩ := go ds us h1
    refine ⟨h3, fun h cs B t => ?_⟩
    simp only [D.ex, U.ex] at t ⊢
    exact TCs.of_agg (h4 h cs B 0 0 t.agg_inv)
  | .osl k ds, u', h => by
    rw [Qgr] at h
    obtain ⟨us, h1, h2⟩ := Option.bind_eq_some_iff.1 h
    cases h2
    obtain ⟨_, _, h5, h6, h7⟩ := go ds us h1
    refine ⟨rfl, fun h cs B t => ?_⟩
    simp only [D.ex, U.ex] at t ⊢
    exact Qnb t (by rw [Qi, Qr, List.length_map, List.length_map, h6]) (fun hk => h7 k hk) fun c1 B1 t1 => h5 h k c1 B1 0 t1
  | .tup ds, _, h => by cases h
  | .ref R p k part, _, h => by cases h
  | .ptr R p, _, h => by cases h
  | .fnv r ds, _, h => by cases h
  | .junk n, _, h => by cases h
  | .skip, _, h => by cases h
  | .undef, _, h => by cases h
where go : ∀ (ds : List D) (us : List U), ownsO ds = some us → (sizes us = dsizes ds ∧ (∀ (h : Hdr) (cs : List Value) (B : List Nat) (j off : Nat), TCs ρ w S β (flds h j off (D.ex.exs ds)) cs B → TCs ρ w S β (flds h j off (U.ex.exs us)) cs B) ∧
    (∀ (h : Hdr) (k : Nat) (cs : List Value) (B : List Nat) (i : Nat), TCs ρ w S β (elts h k i (D.ex.exs ds)) cs B → TCs ρ w S β (elts h k i (U.ex.exs us)) cs B) ∧ us.length = ds.length ∧ ∀ k : Nat, (∀ d ∈ D.ex.exs ds, d.size = k) → ∀ d ∈ U.ex.exs us, d.size = k)
  | [], us, h => by
    rw [Qxc] at h
    cases h
    exact ⟨rfl, fun _ _ _ _ _ t => t, fun _ _ _ _ _ t => t, rfl, fun _ h => h⟩
  | d :: ds, us, h => by
    rw [Qxb] at h
    obtain ⟨u, h1, h⟩ := Option.bind_eq_some_iff.1 h
    obtain ⟨us', h2, h⟩ := Option.bind_eq_some_iff.1 h
    cases h
    obtain ⟨g1, g2⟩ := Qak d u h1
    obtain ⟨g3, g4, g5, g6, g7⟩ := go ds us' h2
    refine ⟨by simp [g1, g3], fun h cs B j off t => ?_, fun h k cs B i t => ?_, by simp [g6], fun k hk d' hd' => ?_⟩
    · simp only [D.ex.exs, U.ex.exs, flds] at t ⊢
      obtain ⟨c1, c2, B1, B2, rfl, rfl, _, t1, t2⟩ := TCs.cons_inv t
      rw [Qz] at t2
      rw [Qan, g1]
      exact (g2 _ _ _ t1).append (g4 _ _ _ _ _ t2)
    · simp only [D.ex.exs, U.ex.exs, elts] at t ⊢
      obtain ⟨c1, c2, B1, B2, rfl, rfl, _, t1, t2⟩ := TCs.cons_inv t
      exact (g2 _ _ _ t1).append (g5 _ _ _ _ _ t2)
    · simp only [D.ex.exs, U.ex.exs, List.mem_cons] at hk hd'
      rcases hd' with rfl | hd'
      · rw [Qan, g1, ← Qz]
        exact hk _ (.inl rfl)
      · exact g7 k (fun d hd => hk d (.inr hd)) d' hd'
end
end Go.Proofs.Ytboenehajoaahaa.Am
