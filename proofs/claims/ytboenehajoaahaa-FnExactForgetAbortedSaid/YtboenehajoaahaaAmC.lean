import Derived.Test.YtboenehajoaahaaAmB
namespace Go.Proofs.Ytboenehajoaahaa.Am
open Go
section
variable {ρ : Nat → FuncId} {w w' : World} {S S' : Nat → Prop} {β β' : Nat → Lay} {m : Tag}
theorem Qwa (m : Tag) (d : D) (h : d.retag m ≠ .undef) : (d.retag m).isAgg = d.isAgg := by
  cases d with
  | ref R p k part => simp only [D.retag] at h ⊢; split <;> rfl
  | ptr R p => simp only [D.retag] at h ⊢; split <;> rfl
  | _ => rfl
theorem V1.retag {d : D} {v : Value} (h : V1 ρ w S β d v) (hS : ∀ b, S b → S' b) (hc : Keeps S w w') (hm : TagOK m β β') : V1 ρ w' S' β' (d.retag m) v := by
  by_cases hu : d.retag m = .undef
  · exact .inl hu
  rcases h with rfl | ⟨cs, h1, h2⟩
  · exact .inl rfl
  · exact .inr ⟨cs, h1.retag hS hc hm, by rw [Qwa m d hu]; exact h2⟩
theorem V1.mono {d : D} {v : Value} (h : V1 ρ w S β d v) (hS : ∀ b, S b → S' b) (hc : Keeps S w w') (hβ : ∀ R, (β R).live → β' R = β R) : V1 ρ w' S' β' d v := by
  have := h.retag hS hc (TagOK.same hβ)
  rwa [Qcj] at this
theorem V1s.retag {ds : List D} {vs : List Value} (h : V1s ρ w S β ds vs) (hS : ∀ b, S b → S' b) (hc : Keeps S w w') (hm : TagOK m β β') : V1s ρ w' S' β' (D.retag.retags m ds) vs := by
  induction ds generalizing vs with
  | nil => exact h
  | cons d ds ih =>
    obtain ⟨v, vs', e, h1, h2⟩ := h
    exact ⟨v, vs', e, h1.retag hS hc hm, ih h2⟩
theorem Qe5 (m : Tag) (us : List U) : D.retag.retags m (us.map .val) = us.map .val := by
  induction us with
  | nil => rfl
  | cons u us ih => simp [D.retag.retags, D.retag, ih]
theorem VD.retag {d : D} {v : Value} (h : VD ρ w S β d v) (hS : ∀ b, S b → S' b) (hc : Keeps S w w') (hm : TagOK m β β') : VD ρ w' S' β' (d.retag m) v := by
  unfold VD at h
  split at h
  · obtain ⟨vs, e, h⟩ := h
    exact ⟨vs, e, h.retag hS hc hm⟩
  · obtain ⟨vs, e, h⟩ := h
    have := h.retag hS hc hm
    rw [Qe5] at this
    exact ⟨vs, e, this⟩
  · exact h
  · rename_i h1 h2 h4
    have h3 : V1 ρ w' S' β' (d.retag m) v := V1.retag h hS hc hm
    unfold VD
    cases d with
    | tup ds => exact absurd rfl (h1 ds)
    | skip => exact absurd rfl h4
    | val u =>
      cases u with
      | tup us => exact absurd rfl (h2 us)
      | _ => exact h3
    | ref R p k part => simp only [D.retag] at h3 ⊢; split at h3 <;> (rename_i hh; simp only [hh]; exact h3)
    | ptr R p => simp only [D.retag] at h3 ⊢; split at h3 <;> (rename_i hh; simp only [hh]; exact h3)
    | _ => exact h3
theorem VD.mono {d : D} {v : Value} (h : VD ρ w S β d v) (hS : ∀ b, S b → S' b) (hc : Keeps S w w') (hβ : ∀ R, (β R).live → β' R = β R) : VD ρ w' S' β' d v := by
  have := h.retag hS hc (TagOK.same hβ)
  rwa [Qcj] at this
theorem Qgd (m : Tag) (h : Hdr) : ∀ (ds : List D) (j off : Nat), (flds h j off ds).map (fun x => (x.1, x.2.retag m)) = flds h j off (D.retag.retags m ds)
  | [], _, _ => rfl
  | d :: ds, j, off => by simp only [flds, List.map_cons, D.retag.retags, Qam]; rw [Qgd m h ds]
theorem Qdr (m : Tag) (h : Hdr) (k : Nat) : ∀ (ds : List D) (i : Nat), (elts h k i ds).map (fun x => (x.1, x.2.retag m)) = elts h k i (D.retag.retags m ds)
  | [], _ => rfl
  | d :: ds, i => by simp only [elts, List.map_cons, D.retag.retags]; rw [Qdr m h k ds]
theorem TCs.retag {xs : List (Hdr × D)} {cs : List Value} {B : List Nat} (h : TCs ρ w S β xs cs B) (hS : ∀ b, S b → S' b) (hc : Keeps S w w') (hB : ∀ b ∈ B, w'.heap[b]? = w.heap[b]?) (hm : TagOK m β β') :
    TCs ρ w' S' β' (xs.map fun x => (x.1, x.2.retag m)) cs B := by
  induction h with
  | nil => exact .nil
  | val h1 t ih => exact .val (h1.mono hS hc.cell) (ih hB)
  | agg h1 t ih1 ih =>
    simp only [List.mem_append] at hB
    have := ih1 fun b hb => hB b (.inl hb)
    rw [Qgd] at this
    exact .agg this (ih fun b hb => hB b (.inr hb))
  | osl0 hh t ih => exact .osl0 hh (ih hB)
  | osl hh hb hsz hle hmax hk ht h1 t ih1 ih =>
    rename_i h k ds xs b cap cur e c1 cs B1 B
    simp only [List.mem_cons, List.mem_append] at hB
    have h2 := ih1 fun b hb => hB b (.inl (.inr hb))
    rw [Qdr] at h2
    have hl : (D.retag.retags m ds).length = ds.length := by rw [Qs, List.length_map]
    have h3 := TCs.osl (ρ := ρ) (w := w') (S := S') (β := β') (h := h) (k := k) (ds := D.retag.retags m ds) (b := b) (cap := cap) (cur := cur) (e := e) (by rw [hl]; exact hh) ((hB b (.inl (.inl rfl))).trans hb) hsz (by rw [hl]; exact hle) hmax
      (fun d hd => by rw [Qs] at hd; obtain ⟨d', hd', rfl⟩ := List.mem_map.1 hd; rw [Qam]; exact hk d' hd') (by rw [hl]; exact ht) h2 (ih fun b hb => hB b (.inr hb))
    rw [hl] at h3
    exact h3
  | ref hv hs t ih =>
    simp only [List.map_cons, D.retag]
    split
    · rename_i x hx
      exact .ref (hm.mr _ _ _ hv x hx) hs (ih hB)
    · exact .undef hs.oneCell (ih hB)
  | ptr hp t ih =>
    simp only [List.map_cons, D.retag]
    split
    · rename_i x hx
      exact .ptr (hm.mp _ _ _ _ hp x hx) (ih hB)
    · exact .undef rfl (ih hB)
  | fnv h1 hv t ih =>
    refine .fnv (h1.retag hS hc hm) ?_ (ih hB)
    intro d hd
    rw [Qs] at hd
    obtain ⟨d', hd', rfl⟩ := List.mem_map.1 hd
    exact Qmk (hv d' hd')
  | junk hl ho t ih => exact .junk hl ho (ih hB)
  | undef h1 t ih => exact .undef h1 (ih hB)
theorem Qwv (xs : List (Hdr × D)) : (xs.map fun x => (x.1, x.2.retag .id)) = xs := by
  induction xs with
  | nil => rfl
  | cons x xs ih => rw [List.map_cons, ih, Qcj]
theorem TCs.mono {xs : List (Hdr × D)} {cs : List Value} {B : List Nat} (h : TCs ρ w S β xs cs B) (hS : ∀ b, S b → S' b) (hc : Keeps S w w') (hB : ∀ b ∈ B, w'.heap[b]? = w.heap[b]?) (hβ : ∀ R, (β R).live → β' R = β R) : TCs ρ w' S' β' xs cs B := by
  have := h.retag hS hc hB (TagOK.same hβ)
  rwa [Qwv] at this
theorem Qfh (m : Tag) : ∀ u : U, u.ex.retag m = u.ex
  | .agg us => by simp only [U.ex, D.retag]; rw [go us]
  | .sl k us => by simp only [U.ex, D.retag]; rw [go us]
  | .int k n => rfl
  | .bool b => rfl
  | .str s => rfl
  | .raw s => rfl
  | .nil => rfl
  | .nsl k => rfl
  | .vp u => rfl
  | .fn r us => rfl
  | .tup us => rfl
where go : ∀ us : List U, D.retag.retags m (U.ex.exs us) = U.ex.exs us
  | [] => rfl
  | u :: us => by simp only [U.ex.exs, D.retag.retags]; rw [Qfh m u, go us]
theorem Qav (m : Tag) : ∀ d : D, (d.retag m).ex = d.ex.retag m
  | .agg ds => by simp only [D.ex, D.retag]; rw [go ds]
  | .osl k ds => by simp only [D.ex, D.retag]; rw [go ds]
  | .own u => (Qfh m u).symm
  | .asl k us => by simp only [D.ex, D.retag, Qe5]
  | .ref R p k part => by simp only [D.ex, D.retag]; split <;> rfl
  | .ptr R p => by simp only [D.ex, D.retag]; split <;> rfl
  | .val u => rfl
  | .tup ds => rfl
  | .fnv r ds => rfl
  | .junk n => rfl
  | .skip => rfl
  | .undef => rfl
where go : ∀ ds : List D, D.ex.exs (D.retag.retags m ds) = D.retag.retags m (D.ex.exs ds)
  | [] => rfl
  | d :: ds => by simp only [D.ex.exs, D.retag.retags]; rw [Qav m d, go ds]
theorem RootOK.retag {c : Cn} {L : Lay} {B : List Nat} (h : RootOK ρ w S β c L B) (hS : ∀ b, S b → S' b) (hc : Keeps S w w') (hB : ∀ b ∈ B, w'.heap[b]? = w.heap[b]?) (hm : TagOK m β β') : RootOK ρ w' S' β' (c.retag m) L B := by
  obtain ⟨hn, h⟩ := h
  refine ⟨hn, ?_⟩
  cases c with
  | box d =>
    obtain ⟨b, cs, e, Bs, h1, h2, h3, rfl⟩ := h
    refine ⟨b, cs, e, Bs, h1, (hB b (by simp)).trans h2, ?_, rfl⟩
    have := h3.retag hS hc (fun b hb => hB b (by simp [hb])) hm
    rw [Qav]
    exact this
  | vir d =>
    obtain ⟨cs, h1, h3⟩ := h
    refine ⟨cs, h1, ?_⟩
    have := h3.retag hS hc hB hm
    rw [Qav]
    exact this
  | held t => exact h
theorem Qdo (c : Cn) : c.retag .id = c := by
  cases c <;> simp only [Cn.retag, Qcj]
theorem RootOK.mono {c : Cn} {L : Lay} {B : List Nat} (h : RootOK ρ w S β c L B) (hS : ∀ b, S b → S' b) (hc : Keeps S w w') (hB : ∀ b ∈ B, w'.heap[b]? = w.heap[b]?) (hβ : ∀ R, (β R).live → β' R = β R) : RootOK ρ w' S' β' c L B := by
  have := h.retag hS hc hB (TagOK.same hβ)
  rwa [Qdo] at this
end
def Frm.put (fr : Frm) (dst : Option Nat) (d : D) : Frm := fun i => if dst = some i then d else fr i
def upd {α : Type} (f : Nat → α) (R : Nat) (x : α) : Nat → α := fun i => if i = R then x else f i
def Frm.retag (fr : Frm) (m : Tag) : Frm := fun i => (fr i).retag m
def Hp.retag (Γ : Hp) (m : Tag) : Hp := fun i => (Γ i).map (·.retag m)
@[simp] theorem Qd {α : Type} (f : Nat → α) (R : Nat) (x : α) : upd f R x R = x := by simp [upd]
theorem Qa {α : Type} (f : Nat → α) {R i : Nat} (x : α) (h : i ≠ R) : upd f R x i = f i := by simp [upd, h]
section
variable {ρ : Nat → FuncId} {base : Nat → Prop} {F : Fm} {fr : Frm} {S₀ : Nat → Prop} {Γ Γ' : Hp} {β β' : Nat → Lay} {B B' : Nat → List Nat} {a : Act} {w w' : World} {m : Tag}
def Fm.dst (F : Fm) (dst : Option Nat) : Option Nat := dst.map (F.off + ·)
theorem Rel.put (h : Rel ρ S₀ base F fr Γ β B a w) {dst : Option Nat} {d : D} {v : Value} (hd : VD ρ w (Stands S₀ w Γ B) β d v) : Rel ρ S₀ base F (fr.put (F.dst dst) d) Γ β B (a.put dst v) w := by
  refine ⟨?_, ?_, fun i hi => ?_, fun x hx => ?_, h.roots, h.apart, h.inside, h.low, h.fresh⟩
  · cases dst <;> simp [Act.put, h.size]
  · cases dst <;> simp [Act.put, h.defers]
  · cases dst with
    | none => simpa [Act.put, Frm.put, Fm.dst] using h.slots i hi
    | some j =>
      simp only [Act.put, Frm.put, Fm.dst, Option.map_some, Option.some.injEq, Nat.add_left_cancel_iff]
      by_cases e : j = i
      · subst e
        have : j < a.tmps.size := by rw [h.size]; exact hi
        simpa [Array.getD_eq_getD_getElem?, this] using hd
      · have := h.slots i hi
        simpa [Array.getD_eq_getD_getElem?, e, Array.getElem?_setIfInBounds_ne e] using this
  · obtain ⟨h1, h2⟩ := h.back x hx
    refine ⟨h1, ?_⟩
    have : F.dst dst ≠ some x.1 := by
      cases dst with
      | none => simp [Fm.dst]
      | some j => simp only [Fm.dst, Option.map_some, ne_eq, Option.some.injEq]; omega
    simp only [Frm.put, this, if_false]
    exact h2
structure Chg (ρ : Nat → FuncId) (S₀ base : Nat → Prop) (Γ : Hp) (β : Nat → Lay) (B : Nat → List Nat) (w : World) (m : Tag) (Γ' : Hp) (β' : Nat → Lay) (B' : Nat → List Nat) (w' : World) : Prop where
  size : w.heap.size ≤ w'.heap.size
  keep : Keeps (Stands S₀ w Γ B) w w'
  own : ∀ b, Stands S₀ w Γ B b → ∀ R, (Γ' R).isSome = true → b ∉ B' R
  tag : TagOK m β β'
  roots : (∀ b, Stands S₀ w Γ B b → Stands S₀ w' Γ' B' b) → ∀ R c, Γ' R = some c → (β' R).live → RootOK ρ w' (Stands S₀ w' Γ' B') β' c (β' R) (B' R)
  apart : ∀ R R', R ≠ R' → (Γ' R).isSome = true → (Γ' R').isSome = true → ∀ b ∈ B' R, b ∉ B' R'
  inside : ∀ R, (Γ' R).isSome = true → ∀ b ∈ B' R, base b ∧ b < w'.heap.size
theorem Chg.st (c : Chg ρ S₀ base Γ β B w m Γ' β' B' w') : ∀ b, Stands S₀ w Γ B b → Stands S₀ w' Γ' B' b := fun b hb => ⟨Nat.lt_of_lt_of_le hb.lt c.size, c.own b hb, hb.may⟩
theorem Rel.chg (h : Rel ρ S₀ base F fr Γ β B a w) (c : Chg ρ S₀ base Γ β B w m Γ' β' B' w') : Rel ρ S₀ base F (fr.retag m) Γ' β' B' a w' :=
  ⟨h.size, h.defers, fun i hi => (h.slots i hi).retag c.st c.keep c.tag, fun x hx => ⟨(h.back x hx).1, (h.back x hx).2.retag c.st c.keep c.tag⟩, c.roots c.st, c.apart, c.inside, fun b hb => h.low b (Nat.le_trans c.size hb), h.fresh⟩
theorem Qeo (fr : Frm) : fr.retag .id = fr := funext fun i => Qcj (fr i)
theorem Rel.chg0 (h : Rel ρ S₀ base F fr Γ β B a w) (c : Chg ρ S₀ base Γ β B w .id Γ' β' B' w') : Rel ρ S₀ base F fr Γ' β' B' a w' := by
  have := h.chg c
  rwa [Qeo] at this
theorem Rel.grow (h : Rel ρ S₀ base F fr Γ β B a w) (hc : ∀ b, b < w.heap.size → w'.heap[b]? = w.heap[b]?) (hs : w.heap.size ≤ w'.heap.size) : Rel ρ S₀ base F fr Γ β B a w' := by
  refine h.chg0 ⟨hs, fun b hb => hc b hb.lt, fun b hb => hb.own, TagOK.same fun _ _ => rfl, fun hS R c hR hl => (h.roots R c hR hl).mono hS (fun b hb => hc b hb.lt) (fun b hb => hc b (h.inside R (by simp [hR]) b hb).2) (fun _ _ => rfl), h.apart,
    fun R hR b hb => ⟨(h.inside R hR b hb).1, Nat.lt_of_lt_of_le (h.inside R hR b hb).2 hs⟩⟩
theorem Rel.keep (h : Rel ρ S₀ base F fr Γ β B a w) (fr' : Frm) (Γ' : Hp) (hf : ∀ i, fr' i = fr i ∨ fr' i = .undef) (hg : ∀ R, Γ' R = Γ R ∨ Γ' R = none) : Rel ρ S₀ base F fr' Γ' β B a w := by
  have hsome : ∀ R, (Γ' R).isSome = true → Γ' R = Γ R := fun R hR => by
    rcases hg R with e | e
    · exact e
    · rw [e] at hR; cases hR
  have hS : ∀ b, Stands S₀ w Γ B b → Stands S₀ w Γ' B b := fun b hb => ⟨hb.1, fun R hR => hb.2 R (by rw [← hsome R hR]; exact hR), hb.3⟩
  refine ⟨h.size, h.defers, fun i hi => ?_, fun x hx => ⟨(h.back x hx).1, ?_⟩, fun R c hR hl => ?_, fun R1 R2 hne h1 h2 => h.apart R1 R2 hne (by rw [← hsome R1 h1]; exact h1) (by rw [← hsome R2 h2]; exact h2), fun R hR => h.inside R (by rw [← hsome R hR]; exact hR), h.low, h.fresh⟩
  · rcases hf (F.off + i) with e | e
    · rw [e]; exact (h.slots i hi).mono hS (fun _ _ => rfl) (fun _ _ => rfl)
    · rw [e]; exact .inl rfl
  · rcases hf x.1 with e | e
    · rw [e]; exact (h.back x hx).2.mono hS (fun _ _ => rfl) (fun _ _ => rfl)
    · rw [e]; exact .inl rfl
  · have e := hsome R (by simp [hR])
    exact (h.roots R c (by rw [← e]; exact hR) hl).mono hS (fun _ _ => rfl) (fun _ _ => rfl) (fun _ _ => rfl)
theorem TagOK.purge {R : Nat} (hβ : ∀ R', R' ≠ R → (β R').live → β' R' = β R') : TagOK (.purge R) β β' := by
  refine ⟨fun R' p v h x hx => ?_, fun R' p b o h x hx => ?_⟩
  · simp only [Tag.purge] at hx
    split at hx
    · cases hx
    · rename_i hne
      cases hx
      rw [hβ R' hne (Lay.live_of_hdr h)]
      exact h
  · simp only [Tag.purge] at hx
    split at hx
    · cases hx
    · rename_i hne
      cases hx
      rw [hβ R' hne (Lay.live_of_go h)]
      exact h
theorem Rel.make (h : Rel ρ S₀ base F fr Γ β B a w) (R H : Nat) (c : Cn) (L : Lay) (Bs : List Nat) (hc : ∀ b, b < w.heap.size → b ∉ B H → w'.heap[b]? = w.heap[b]?) (hs : w.heap.size ≤ w'.heap.size) (hH : (Γ H).isSome = true ∨ B H = [])
    (hB : ∀ b ∈ Bs, b ∈ B H ∨ (w.heap.size ≤ b ∧ b < w'.heap.size))
    (hok : ∀ S' : Nat → Prop, (∀ b, Stands S₀ w Γ B b → S' b) → RootOK ρ w' S' (upd β R L) c L Bs) :
    Rel ρ S₀ base F (fr.retag (.purge R)) (upd (Hp.retag (upd Γ H none) (.purge R)) R (some c)) (upd β R L) (upd B R Bs) a w' := by
  have hsome : ∀ R', R' ≠ R → (upd (Hp.retag (upd Γ H none) (.purge R)) R (some c) R').isSome = true → R' ≠ H ∧ (Γ R').isSome = true := fun R' hR h1 => by
    rw [Qa _ _ hR] at h1
    by_cases e : R' = H
    · subst e; simp [Hp.retag] at h1
    · refine ⟨e, ?_⟩
      simpa [Hp.retag, Qa _ _ e] using h1
  have hBH : ∀ b ∈ B H, (Γ H).isSome = true := fun b hb => by
    rcases hH with hH | hH
    · exact hH
    · rw [hH] at hb; cases hb
  have htag : TagOK (.purge R) β (upd β R L) := TagOK.purge fun R' hR _ => Qa β L hR
  have hst : Keeps (Stands S₀ w Γ B) w w' := fun b hb => hc b hb.lt fun hm => hb.own H (hBH b hm) hm
  refine h.chg ⟨hs, hst, fun b hb R' hR' => ?_, htag, fun hS R' c' hR' hl => ?_, fun R1 R2 hne h1 h2 b hb1 hb2 => ?_, fun R' hR' b hb => ?_⟩
  · by_cases e : R' = R
    · subst e
      rw [Qd]
      intro hm
      rcases hB b hm with h1 | h1
      · exact hb.own H (hBH b h1) h1
      · have := hb.lt; omega
    · rw [Qa _ _ e]
      exact hb.own R' (hsome R' e hR').2
  · by_cases e : R' = R
    · subst e
      rw [Qd] at hR'
      cases hR'
      rw [Qd, Qd]
      exact hok _ hS
    · have h1 := hsome R' e (by rw [hR']; rfl)
      rw [Qa _ _ e] at hR'
      rw [Qa _ _ e] at hl ⊢
      rw [Qa _ _ e]
      cases hg : Γ R' with
      | none => rw [hg] at h1; cases h1.2
      | some c0 =>
        simp only [Hp.retag, Qa _ _ h1.1, hg, Option.map_some, Option.some.injEq] at hR'
        subst hR'
        refine (h.roots R' c0 hg hl).retag hS hst (fun b hb => ?_) htag
        have hlt := (h.inside R' (by simp [hg]) b hb).2
        refine hc b hlt fun hbH => ?_
        exact h.apart R' H h1.1 (by simp [hg]) (hBH b hbH) b hb hbH
  · by_cases e1 : R1 = R
    · subst e1
      have e2 : R2 ≠ R1 := Ne.symm hne
      rw [Qd] at hb1
      rw [Qa _ _ e2] at hb2
      obtain ⟨e3, e4⟩ := hsome R2 e2 h2
      rcases hB b hb1 with h3 | h3
      · exact h.apart R2 H e3 e4 (hBH b h3) b hb2 h3
      · have := (h.inside R2 e4 b hb2).2; omega
    · by_cases e2 : R2 = R
      · subst e2
        rw [Qd] at hb2
        rw [Qa _ _ e1] at hb1
        obtain ⟨e3, e4⟩ := hsome R1 e1 h1
        rcases hB b hb2 with h3 | h3
        · exact h.apart R1 H e3 e4 (hBH b h3) b hb1 h3
        · have := (h.inside R1 e4 b hb1).2; omega
      · rw [Qa _ _ e1] at hb1
        rw [Qa _ _ e2] at hb2
        exact h.apart R1 R2 hne (hsome R1 e1 h1).2 (hsome R2 e2 h2).2 b hb1 hb2
  · by_cases e : R' = R
    · subst e
      rw [Qd] at hb
      rcases hB b hb with h1 | h1
      · have := h.inside H (hBH b h1) b h1
        exact ⟨this.1, Nat.lt_of_lt_of_le this.2 hs⟩
      · exact ⟨h.low b h1.1, h1.2⟩
    · rw [Qa _ _ e] at hb
      have := h.inside R' (hsome R' e hR').2 b hb
      exact ⟨this.1, Nat.lt_of_lt_of_le this.2 hs⟩
end
end Go.Proofs.Ytboenehajoaahaa.Am
