import Derived.Test.YtboenehajoaahaaAmDa
namespace Go.Proofs.Ytboenehajoaahaa.Am
open Go
theorem URs.of_agg' {ρ : Nat → FuncId} {w : World} {S : Nat → Prop} {us : List U} {cs : List Value} (h : URs ρ w S us cs) : URs ρ w S [.agg us] cs := by simpa using URs.agg h .nil
theorem URs.agg_inv' {ρ : Nat → FuncId} {w : World} {S : Nat → Prop} {us : List U} {cs : List Value} (h : URs ρ w S [.agg us] cs) : URs ρ w S us cs := by
  cases h with
  | agg h1 h => cases h; simpa using h1
def Imp (d d' : D) : Prop := d.size = d'.size ∧ ∀ (m : Tag) ρ w S β h cs B, TCs ρ w S β [(h, d.retag m)] cs B → TCs ρ w S β [(h, d'.retag m)] cs B
theorem Imp.refl (d : D) : Imp d d := ⟨rfl, fun _ _ _ _ _ _ _ _ h => h⟩
theorem Imp.trans {a b c : D} (h : Imp a b) (k : Imp b c) : Imp a c := ⟨h.1.trans k.1, fun m ρ w S β hd cs B t => k.2 m ρ w S β hd cs B (h.2 m ρ w S β hd cs B t)⟩
theorem Qqe {ds : List D} {j : Nat} {d d' : D} (h : ds[j]? = some d) (hs : d'.size = d.size) : dsizes (ds.set j d') = dsizes ds := by
  induction ds generalizing j with
  | nil => simp at h
  | cons d0 ds ih =>
    cases j with
    | zero =>
      simp only [List.getElem?_cons_zero, Option.some.injEq] at h
      subst h
      simp [hs]
    | succ j => simp [ih (by simpa using h)]
theorem Imp.agg_set {ds : List D} {j : Nat} {d d' : D} (h : Imp d d') (hj : j < ds.length) : Imp (.agg (ds.set j d)) (.agg (ds.set j d')) := by
  have e1 : (ds.set j d)[j]? = some d := List.getElem?_set_self hj
  refine ⟨?_, fun m ρ w S β hd cs B t => ?_⟩
  · show dsizes _ = dsizes _
    rw [← Qqe (d' := d') e1 h.1.symm]
    simp
  · simp only [D.retag, Qc7] at t ⊢
    have t := t.agg_inv
    have hl : j < (D.retag.retags m ds).length := by rw [Qs, List.length_map]; exact hj
    rw [Qdt hd _ 0 0 j (d.retag m) (List.getElem?_set_self hl)] at t
    refine TCs.of_agg ?_
    rw [Qdt hd _ 0 0 j (d'.retag m) (List.getElem?_set_self hl)]
    obtain ⟨c1, c2, B1, B2, rfl, rfl, _, h1, h2⟩ := t.split
    obtain ⟨c3, c4, B3, B4, rfl, rfl, _, h3, h4⟩ := h2.cons_inv
    rw [List.take_set_of_le (Nat.le_refl _)] at h1 h3 h4 ⊢
    rw [List.drop_set_of_lt (by omega)] at h4 ⊢
    rw [Qam] at h4 ⊢
    rw [← h.1]
    exact h1.append ((h.2 m _ _ _ _ _ _ _ h3).append h4)
theorem Imp.osl_set {k : Nat} {ds : List D} {i : Nat} {d d' : D} (h : Imp d d') (hi : i < ds.length) : Imp (.osl k (ds.set i d)) (.osl k (ds.set i d')) := by
  refine ⟨rfl, fun m ρ w S β hd cs B t => ?_⟩
  simp only [D.retag, Qc7] at t ⊢
  have hl : i < (D.retag.retags m ds).length := by rw [Qs, List.length_map]; exact hi
  generalize hx : (D.retag.retags m ds).set i (d.retag m) = xs at t
  have hne : xs ≠ [] := fun e => by rw [e] at hx; have := congrArg List.length hx; rw [List.length_set, List.length_nil] at this; omega
  cases t with
  | osl0 hh t => exact absurd rfl hne
  | osl hh hb hsz hle hmax hk ht h1 t =>
    cases t
    subst hx
    rw [Qdq hd k _ 0 i (d.retag m) (List.getElem?_set_self hl)] at h1
    obtain ⟨c1, c2, B1, B2, hc, rfl, _, t1, t2⟩ := h1.split
    obtain ⟨c3, c4, B3, B4, rfl, rfl, _, t3, t4⟩ := t2.cons_inv
    have e1 := Qdq hd k ((D.retag.retags m ds).set i (d'.retag m)) 0 i (d'.retag m) (List.getElem?_set_self hl)
    rw [List.take_set_of_le (Nat.le_refl _)] at t1 e1
    rw [List.drop_set_of_lt (by omega)] at t4 e1
    have h5 := t1.append ((h.2 m _ _ _ _ _ _ _ t3).append t4)
    have hl2 : ((D.retag.retags m ds).set i (d'.retag m)).length = ((D.retag.retags m ds).set i (d.retag m)).length := by simp
    have := TCs.osl (ρ := ρ) (w := w) (S := S) (β := β) (h := hd) (k := k) (ds := (D.retag.retags m ds).set i (d'.retag m)) (c1 := c1 ++ (c3 ++ c4)) (by rw [hl2]; exact hh) hb hsz (by rw [hl2]; exact hle) hmax (fun x hx => by
      obtain ⟨j, hj, rfl⟩ := List.getElem_of_mem hx
      by_cases e : j = i
      · subst e
        rw [List.getElem_set_self, Qam, ← h.1, ← Qam m d]
        exact hk _ (List.mem_of_getElem? (List.getElem?_set_self hl))
      · rw [List.getElem_set_ne (Ne.symm e)]
        refine hk _ (List.mem_of_getElem? (i := j) ?_)
        rw [List.getElem?_set_ne (Ne.symm e)]
        exact List.getElem?_eq_getElem _) (by rw [hl2]; exact ht.trans hc) (by rw [e1]; simpa using h5) .nil
    rw [hl2] at this
    simpa using this
theorem Imp.vals (us : List U) : Imp (.agg (us.map .val)) (.val (.agg us)) := by
  refine ⟨?_, fun m ρ w S β h cs B t => ?_⟩
  · show dsizes _ = sizes _
    exact Qcx us
  · simp only [D.retag, Qe5] at t ⊢
    obtain ⟨h1, rfl⟩ := t.agg_inv.vals_inv
    exact TCs.of_val (URs.of_agg' h1)
theorem Qet (us : List U) : (us.map D.val).map D.ex = us.map .val := by
  rw [List.map_map]
  rfl
theorem Qmw (us : List U) : (us.map D.own).map D.ex = U.ex.exs us := by
  rw [List.map_map, Qi]
  rfl
theorem Qqt {us : List U} {j : Nat} {d3 d' : D} (hj : j < us.length) (h : Imp d3 d'.ex) : Imp (.agg ((us.map .val).set j d3)) (asAggOf us j d').ex := by
  have h1 : Imp (.agg ((us.map .val).set j d3)) (.agg ((us.map .val).set j d'.ex)) := Imp.agg_set h (by simpa using hj)
  have key : ∀ d : D, (D.agg ((us.map .val).set j d)).ex = .agg ((us.map .val).set j d.ex) := fun d => by
    simp only [D.ex]
    rw [Qr, List.map_set, Qet]
  refine h1.trans ?_
  cases d' with
  | val u =>
    simp only [asAggOf, D.ex]
    rw [← List.map_set]
    exact Imp.vals _
  | _ =>
    show Imp _ (D.agg ((us.map D.val).set j _)).ex
    rw [key]
    exact Imp.refl _
theorem Qqv (us : List U) (j : Nat) (d' : D) : (asOwnAgg us j d').ex = .agg ((U.ex.exs us).set j d'.ex) := by
  have key : ∀ d : D, (D.agg ((us.map .own).set j d)).ex = .agg ((U.ex.exs us).set j d.ex) := fun d => by
    simp only [D.ex]
    rw [Qr, List.map_set, Qmw]
  cases d' with
  | own u => simp only [asOwnAgg, D.ex, U.ex]; rw [Qi, Qi, List.map_set]
  | _ => exact key _
theorem Qqw (k : Nat) (us : List U) (j : Nat) (d' : D) : (asOwnSl k us j d').ex = .osl k ((U.ex.exs us).set j d'.ex) := by
  have key : ∀ d : D, (D.osl k ((us.map .own).set j d)).ex = .osl k ((U.ex.exs us).set j d.ex) := fun d => by
    simp only [D.ex]
    rw [Qr, List.map_set, Qmw]
  cases d' with
  | own u => simp only [asOwnSl, D.ex, U.ex]; rw [Qi, Qi, List.map_set]
  | _ => exact key _
theorem Qqu (k : Nat) (us : List U) (j : Nat) (d' : D) : (asAsl k us j d').ex = .osl k ((us.map .val).set j d'.ex) := by
  have key : ∀ d : D, (D.osl k ((us.map .val).set j d)).ex = .osl k ((us.map .val).set j d.ex) := fun d => by
    simp only [D.ex]
    rw [Qr, List.map_set, Qet]
  cases d' with
  | val u => simp only [asAsl, D.ex]; rw [List.map_set]
  | _ => exact key _
theorem Qp1 {α : Type} {x : D} {K : D → Option α} {r : α} (h : asLeaf x K = some r) : ∃ y, K y = some r ∧ LeafOf x y.ex ∧ y.size = x.size := by
  cases x with
  | val v =>
    simp only [asLeaf, U.asFlat] at h
    split at h
    · rename_i hf
      exact ⟨_, h, .inr ⟨v, rfl, hf, rfl⟩, rfl⟩
    · cases h
  | _ => exact ⟨_, h, .inl rfl, rfl⟩
theorem Qe6 {n : Nat} {x : D} {p : List Step} : ∀ {d d2 : D}, setD n x d p = some d2 → x.size = n → ∃ x', LeafOf x x' ∧ ∃ d3, setX x' d.ex p = some d3 ∧ Imp d3 d2.ex := by
  induction p with
  | nil =>
    intro d d2 h hn
    have leaf : ∀ y : D, LeafOf x y.ex → y.size = x.size → d.size = n → d2 = y → ∃ x', LeafOf x x' ∧ ∃ d3, setX x' d.ex [] = some d3 ∧ Imp d3 d2.ex := by
      rintro y h1 h2 h3 rfl
      refine ⟨d2.ex, h1, d2.ex, ?_, Imp.refl _⟩
      have : d.ex.size = d2.ex.size := by rw [Qz, Qz, h2, h3, hn]
      cases hd : d.ex <;> (rw [hd] at this; simp only [setX]; rw [if_pos this])
    unfold setD at h
    cases d with
    | own u =>
      simp only [setDK] at h
      split at h
      · rename_i hs
        obtain ⟨y, h1, h2, h3⟩ := Qp1 h
        cases h1
        exact leaf _ h2 h3 hs rfl
      · cases h
    | _ =>
      simp only [setDK] at h
      split at h
      · rename_i hs
        cases h
        exact leaf _ (.inl rfl) rfl hs rfl
      · cases h
  | cons s p ih =>
    intro d d2 h hn
    unfold setD at h
    cases s with
    | fld j off =>
      cases d with
      | val u =>
        cases u with
        | agg us =>
          simp only [setDK, U.asAgg] at h
          split at h
          · rename_i hoff
            obtain ⟨u, hu, h⟩ := Option.bind_eq_some_iff.1 h
            rw [Qal] at h
            obtain ⟨d', hd', h⟩ := Option.bind_eq_some_iff.1 h
            cases h
            obtain ⟨x', hx', d3, hd3, himp⟩ := ih hd' hn
            refine ⟨x', hx', .agg ((us.map .val).set j d3), ?_, Qqt (List.getElem?_eq_some_iff.1 hu).1 himp⟩
            simp only [D.ex] at hd3 ⊢
            simp only [setX, if_pos hoff, hu, Option.bind_some, hd3, Option.map_some]
          · cases h
        | _ => simp [setDK, U.asAgg] at h
      | own u =>
        cases u with
        | agg us =>
          simp only [setDK, U.asAgg] at h
          split at h
          · rename_i hoff
            obtain ⟨u, hu, h⟩ := Option.bind_eq_some_iff.1 h
            rw [Qal] at h
            obtain ⟨d', hd', h⟩ := Option.bind_eq_some_iff.1 h
            cases h
            obtain ⟨x', hx', d3, hd3, himp⟩ := ih hd' hn
            refine ⟨x', hx', .agg ((U.ex.exs us).set j d3), ?_, ?_⟩
            · simp only [D.ex, U.ex, setX, Qok, if_pos hoff]
              rw [Qi, List.getElem?_map, hu]
              simp only [Option.map_some, Option.bind_some]
              simp only [D.ex] at hd3
              rw [hd3]; rfl
            · rw [Qqv]
              exact Imp.agg_set himp (by rw [Qi, List.length_map]; exact (List.getElem?_eq_some_iff.1 hu).1)
          · cases h
        | _ => simp [setDK, U.asAgg] at h
      | agg ds =>
        simp only [setDK] at h
        split at h
        · rename_i hoff
          obtain ⟨d, hd, h⟩ := Option.bind_eq_some_iff.1 h
          rw [Qal] at h
          obtain ⟨d', hd', h⟩ := Option.bind_eq_some_iff.1 h
          cases h
          obtain ⟨x', hx', d3, hd3, himp⟩ := ih hd' hn
          refine ⟨x', hx', .agg ((D.ex.exs ds).set j d3), ?_, ?_⟩
          · simp only [D.ex, setX, Qit, if_pos hoff]
            rw [Qr, List.getElem?_map, hd]
            simp only [Option.map_some, Option.bind_some]
            rw [hd3]; rfl
          · simp only [D.ex]
            rw [Qr, Qr, List.map_set]
            exact Imp.agg_set himp (by rw [List.length_map]; exact (List.getElem?_eq_some_iff.1 hd).1)
        · cases h
      | _ => simp [setDK] at h
    | elt i k =>
      cases d with
      | own u =>
        cases u with
        | sl k' us =>
          simp only [setDK, U.asSlK] at h
          split at h
          · rename_i hk
            obtain ⟨u, hu, h⟩ := Option.bind_eq_some_iff.1 h
            rw [Qal] at h
            obtain ⟨d', hd', h⟩ := Option.bind_eq_some_iff.1 h
            cases h
            obtain ⟨x', hx', d3, hd3, himp⟩ := ih hd' hn
            refine ⟨x', hx', .osl k' ((U.ex.exs us).set i d3), ?_, ?_⟩
            · simp only [D.ex, U.ex, setX, if_pos hk.symm]
              rw [Qi, List.getElem?_map, hu]
              simp only [Option.map_some, Option.bind_some]
              simp only [D.ex] at hd3
              rw [hd3]; rfl
            · rw [Qqw, hk]
              exact Imp.osl_set himp (by rw [Qi, List.length_map]; exact (List.getElem?_eq_some_iff.1 hu).1)
          · cases h
        | _ => simp [setDK, U.asSlK] at h
      | asl k' us =>
        simp only [setDK] at h
        split at h
        · rename_i hk
          obtain ⟨u, hu, h⟩ := Option.bind_eq_some_iff.1 h
          rw [Qal] at h
          obtain ⟨d', hd', h⟩ := Option.bind_eq_some_iff.1 h
          cases h
          obtain ⟨x', hx', d3, hd3, himp⟩ := ih hd' hn
          refine ⟨x', hx', .osl k' ((us.map .val).set i d3), ?_, ?_⟩
          · simp only [D.ex, setX, if_pos hk, List.getElem?_map, hu, Option.map_some, Option.bind_some]
            simp only [D.ex] at hd3
            rw [hd3]; rfl
          · rw [Qqu]
            exact Imp.osl_set himp (by rw [List.length_map]; exact (List.getElem?_eq_some_iff.1 hu).1)
        · cases h
      | osl k' ds =>
        simp only [setDK] at h
        split at h
        · rename_i hk
          obtain ⟨d, hd, h⟩ := Option.bind_eq_some_iff.1 h
          rw [Qal] at h
          obtain ⟨d', hd', h⟩ := Option.bind_eq_some_iff.1 h
          cases h
          obtain ⟨x', hx', d3, hd3, himp⟩ := ih hd' hn
          refine ⟨x', hx', .osl k' ((D.ex.exs ds).set i d3), ?_, ?_⟩
          · simp only [D.ex, setX, if_pos hk]
            rw [Qr, List.getElem?_map, hd]
            simp only [Option.map_some, Option.bind_some]
            rw [hd3]; rfl
          · simp only [D.ex]
            rw [Qr, Qr, List.map_set]
            exact Imp.osl_set himp (by rw [List.length_map]; exact (List.getElem?_eq_some_iff.1 hd).1)
        · cases h
      | val u => simp [setDK] at h
      | _ => simp [setDK] at h
section
variable {ρ : Nat → FuncId} {w w' : World} {S S' : Nat → Prop} {β β' : Nat → Lay}
theorem Qc0 : ∀ (u : U) (h : Hdr) (cs : List Value), u.flat = true → URs ρ w S [u] cs → TCs ρ w' S' β [(h, u.ex)] cs []
  | .agg us, h, cs, hf, t => TCs.of_agg (go us h cs hf t.agg_inv' 0 0)
  | .int k n, h, cs, _, t => by cases t with | int _ _ t => cases t; exact TCs.of_val (.int k n .nil)
  | .bool b, h, cs, _, t => by cases t with | bool _ t => cases t; exact TCs.of_val (.bool b .nil)
  | .str s, h, cs, _, t => by cases t with | str _ t => cases t; exact TCs.of_val (.str s .nil)
  | .raw s, h, cs, _, t => by cases t with | raw _ hv t => cases t; exact TCs.of_val (.raw s hv .nil)
  | .nil, h, cs, _, t => by cases t with | nilp t => cases t; exact TCs.of_val (.nilp .nil)
  | .nsl k, h, cs, _, t => by cases t with | nsl _ t => cases t; exact TCs.of_val (.nsl k .nil)
  | .sl k us, _, _, hf, _ => by cases hf
  | .vp u, _, _, hf, _ => by cases hf
  | .fn r us, _, _, hf, _ => by cases hf
  | .tup us, _, _, _, t => by cases t
where go : ∀ (us : List U) (h : Hdr) (cs : List Value), U.flat.flats us = true → URs ρ w S us cs → ∀ j off, TCs ρ w' S' β (flds h j off (U.ex.exs us)) cs []
  | [], h, cs, _, t, _, _ => by cases t; exact .nil
  | u :: us, h, cs, hf, t, j, off => by
    simp only [U.flat.flats, Bool.and_eq_true] at hf
    obtain ⟨c1, c2, rfl, _, h1, h2⟩ := t.cons_inv
    exact (Qc0 u _ c1 hf.1 h1).append (go us h c2 hf.2 h2 _ _)
theorem Qaa : ∀ (u : U) (h : Hdr) (cs : List Value) (B : List Nat), u.flat = true → (∀ us, u ≠ .tup us) → TCs ρ w S β [(h, u.ex)] cs B → URs ρ w' S' [u] cs ∧ B = []
  | .agg us, h, cs, B, hf, _, t => by
    obtain ⟨h1, h2⟩ := go us h cs B hf t.agg_inv
    exact ⟨h1.of_agg', h2⟩
  | .int k n, h, cs, B, _, _, t => by obtain ⟨t1, rfl⟩ := t.val_inv; cases t1 with | int _ _ t2 => cases t2; exact ⟨.int k n .nil, rfl⟩
  | .bool b, h, cs, B, _, _, t => by obtain ⟨t1, rfl⟩ := t.val_inv; cases t1 with | bool _ t2 => cases t2; exact ⟨.bool b .nil, rfl⟩
  | .str s, h, cs, B, _, _, t => by obtain ⟨t1, rfl⟩ := t.val_inv; cases t1 with | str _ t2 => cases t2; exact ⟨.str s .nil, rfl⟩
  | .raw s, h, cs, B, _, _, t => by obtain ⟨t1, rfl⟩ := t.val_inv; cases t1 with | raw _ hv t2 => cases t2; exact ⟨.raw s hv .nil, rfl⟩
  | .nil, h, cs, B, _, _, t => by obtain ⟨t1, rfl⟩ := t.val_inv; cases t1 with | nilp t2 => cases t2; exact ⟨.nilp .nil, rfl⟩
  | .nsl k, h, cs, B, _, _, t => by obtain ⟨t1, rfl⟩ := t.val_inv; cases t1 with | nsl _ t2 => cases t2; exact ⟨.nsl k .nil, rfl⟩
  | .sl k us, _, _, _, hf, _, _ => by cases hf
  | .vp u, _, _, _, hf, _, _ => by cases hf
  | .fn r us, _, _, _, hf, _, _ => by cases hf
  | .tup us, _, _, _, _, hn, _ => absurd rfl (hn us)
where go : ∀ (us : List U) (h : Hdr) (cs : List Value) (B : List Nat), U.flat.flats us = true → ∀ {j off}, TCs ρ w S β (flds h j off (U.ex.exs us)) cs B → URs ρ w' S' us cs ∧ B = []
  | [], h, cs, B, _, j, off, t => by cases t; exact ⟨.nil, rfl⟩
  | u :: us, h, cs, B, hf, j, off, t => by
    simp only [U.flat.flats, Bool.and_eq_true] at hf
    obtain ⟨c1, c2, B1, B2, rfl, rfl, _, h1, h2⟩ := TCs.cons_inv t
    by_cases hn : ∃ vs, u = .tup vs
    · obtain ⟨vs, rfl⟩ := hn
      cases h1
    · obtain ⟨h3, rfl⟩ := Qaa u _ c1 B1 hf.1 (fun vs e => hn ⟨vs, e⟩) h1
      obtain ⟨h4, rfl⟩ := go us h c2 B2 hf.2 h2
      exact ⟨h3.append h4, rfl⟩
theorem Qch {b : Nat} {cur : Array Value} {e : TypeId} {f : Nat × Nat} (h : w.heap[b]? = some (.cells cur e f)) {off : Nat} {c : List Value} (hc : ∀ j v, c[j]? = some v → cur[off + j]? = some v) : w.rangeAt b off c := fun j v hv => by
  rw [cell_of_row w b (off + j) cur e f h]
  exact hc j v hv
theorem Qgp {h : Hdr} {k : Nat} {ds : List D} {us : List U} {cs : List Value} {B : List Nat} (t : TCs ρ w S β [(h, .osl k ds)] cs B) (hl : us.length = ds.length) (hk : ∀ u ∈ us, u.size = k) (hB : ∀ b ∈ B, S' b)
    (hr : ∀ c1 B1, TCs ρ w S β (elts h k 0 ds) c1 B1 → (∀ b ∈ B1, S' b) → URs ρ w S' us c1) : URs ρ w S' [.sl k us] cs := by
  cases t with
  | osl0 hh t =>
    cases t
    obtain rfl : us = [] := List.length_eq_zero_iff.1 hl
    exact .sl0 k _ 0 .nil
  | osl hh hb hsz hle hmax hks ht h1 t =>
    rename_i b cap cur e c1 cs B1 B
    cases t
    by_cases hne : us = []
    · subst hne
      rw [← hl]
      exact .sl0 k _ cap .nil
    · have h2 := hr _ _ h1 fun b hb => hB b (by simp [hb])
      rw [← hl]
      refine .sl1 k b 0 cap hne (hB b (by simp)) (by omega) hmax hk (Qch hb fun j v hv => ?_) h2 .nil
      rw [← ht, List.getElem?_take] at hv
      split at hv
      · simpa using hv
      · cases hv
theorem Qew : ∀ (u : U) (h : Hdr) (cs : List Value) (B : List Nat), TCs ρ w S β [(h, u.ex)] cs B → (∀ b ∈ B, S' b) → URs ρ w S' [u] cs
  | .agg us, h, cs, B, t, hB => (go us h cs B 0 0 t.agg_inv hB).of_agg'
  | .sl k us, h, cs, B, t, hB => by
    have hsz : ∀ d ∈ U.ex.exs us, (∃ c B1, TCs ρ w S β [(h, .osl k (U.ex.exs us))] c B1) → d.size = k := fun d hd ⟨c, B1, t⟩ => by
      generalize U.ex.exs us = ds at t hd
      cases t with
      | osl0 hh t => cases hd
      | osl hh hb hsz hle hmax hks ht h1 t => exact hks d hd
    refine Qgp t (by rw [Qi, List.length_map]) (fun u hu => ?_) hB fun c1 B1 t1 hB1 => goe us h k c1 B1 0 t1 hB1
    rw [← Qan]
    exact hsz _ (by rw [Qi]; exact List.mem_map_of_mem hu) ⟨_, _, t⟩
  | .int k n, h, cs, B, t, _ => (Qaa _ h cs B rfl (fun _ e => by cases e) t).1
  | .bool b, h, cs, B, t, _ => (Qaa _ h cs B rfl (fun _ e => by cases e) t).1
  | .str s, h, cs, B, t, _ => (Qaa _ h cs B rfl (fun _ e => by cases e) t).1
  | .raw s, h, cs, B, t, _ => (Qaa _ h cs B rfl (fun _ e => by cases e) t).1
  | .nil, h, cs, B, t, _ => (Qaa _ h cs B rfl (fun _ e => by cases e) t).1
  | .nsl k, h, cs, B, t, _ => (Qaa _ h cs B rfl (fun _ e => by cases e) t).1
  | .vp u, _, _, _, t, _ => by cases t
  | .fn r us, _, _, _, t, _ => by cases t
  | .tup us, _, _, _, t, _ => by cases t
where
  go : ∀ (us : List U) (h : Hdr) (cs : List Value) (B : List Nat) (j off : Nat), TCs ρ w S β (flds h j off (U.ex.exs us)) cs B → (∀ b ∈ B, S' b) → URs ρ w S' us cs
    | [], h, cs, B, j, off, t, _ => by cases t; exact .nil
    | u :: us, h, cs, B, j, off, t, hB => by
      obtain ⟨c1, c2, B1, B2, rfl, rfl, _, h1, h2⟩ := TCs.cons_inv t
      exact (Qew u _ c1 B1 h1 fun b hb => hB b (by simp [hb])).append (go us h c2 B2 _ _ h2 fun b hb => hB b (by simp [hb]))
  goe : ∀ (us : List U) (h : Hdr) (k : Nat) (cs : List Value) (B : List Nat) (i : Nat), TCs ρ w S β (elts h k i (U.ex.exs us)) cs B → (∀ b ∈ B, S' b) → URs ρ w S' us cs
    | [], h, k, cs, B, i, t, _ => by cases t; exact .nil
    | u :: us, h, k, cs, B, i, t, hB => by
      obtain ⟨c1, c2, B1, B2, rfl, rfl, _, h1, h2⟩ := TCs.cons_inv t
      exact (Qew u _ c1 B1 h1 fun b hb => hB b (by simp [hb])).append (goe us h k c2 B2 _ h2 fun b hb => hB b (by simp [hb]))
end
end Go.Proofs.Ytboenehajoaahaa.Am
