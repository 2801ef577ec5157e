import Derived.Test.YticokpflinlgbaaGreatAmH
/-
  Variables of the call's own are read and written.
-/
namespace Go.Proofs.YticokpflinlgbaaGreat.Am
open Go Go.RowKit

section
variable {ρ : Nat → FuncId} {w w' : World} {S S' : Nat → Prop} {β β' : Nat → Pl}

theorem go_append (q : Pl) (p p' : List Step) : q.go (p ++ p') = (q.go p).bind fun q' => q'.go p' := by
  induction p generalizing q with
  | nil => simp [Pl.go]
  | cons s p ih =>
    simp only [List.cons_append, Pl.go]
    cases q.step s with
    | none => rfl
    | some q' => simp [ih]

theorem rangeAt_of_row {b : Nat} {cur : Array Value} {e : TypeId} {f : Nat × Nat} (h : w.heap[b]? = some (.cells cur e f)) {off : Nat} {c : List Value} (hc : ∀ j v, c[j]? = some v → cur[off + j]? = some v) : w.rangeAt b off c := fun j v hv => by
  rw [cell_of_row w b (off + j) cur e f h]
  exact hc j v hv

/-- What lies at the end of a way into a variable. -/
theorem root_read {c : Cn} {q : Pl} {B : List Nat} {p : List Step} {d : D} (h : RootOK ρ w S β c q B) (hg : c.get p = some d) :
    ∃ b off c', q.go p = some (.adr b off) ∧ b ∈ B ∧ w.rangeAt b off c' ∧ DCs ρ w S β [d] c' ∧ c'.length = d.size := by
  cases c with
  | box d0 =>
    obtain ⟨b, cs, e, rfl, rfl, hb, hd⟩ := h
    obtain ⟨pre, c', post, rfl, hl, hgo, hd', _⟩ := hd.loc hg
    refine ⟨b, pre.length, c', by simpa using hgo b 0, by simp, rangeAt_of_row hb fun j v hv => ?_, hd', hl⟩
    have hj : j < c'.length := (List.getElem?_eq_some_iff.1 hv).1
    simp only [List.getElem?_toArray, List.append_assoc]
    rw [List.getElem?_append_right (by omega), Nat.add_sub_cancel_left, List.getElem?_append_left hj]
    exact hv
  | arr k us =>
    cases p with
    | nil => simp [Cn.get] at hg
    | cons s p =>
      cases s with
      | fld j off => simp [Cn.get] at hg
      | elt i k' =>
        simp only [Cn.get] at hg
        split at hg
        · rename_i hk
          subst hk
          cases hi : us[i]? with
          | none => simp [hi] at hg
          | some u =>
            simp only [hi, Option.bind_some] at hg
            rcases h with ⟨rfl, _⟩ | ⟨b, cap, cur, e, c1, rfl, rfl, hb, h1, h2, h3, h4, h5, h6⟩
            · simp at hi
            · obtain ⟨cu, hlu, hu, hat⟩ := h6.elem h4 hi
              obtain ⟨pre, c', post, rfl, hl, hgo, hd', _⟩ := (DCs.of_val (β := β) hu).loc hg
              refine ⟨b, i * k' + pre.length, c', ?_, by simp, rangeAt_of_row hb fun j v hv => ?_, hd', hl⟩
              · simp only [Pl.go, Pl.step, Option.bind_some, hgo, Nat.zero_add]
              · have hj : j < c'.length := (List.getElem?_eq_some_iff.1 hv).1
                have := hat (pre.length + j) v (by
                  rw [List.append_assoc, List.getElem?_append_right (by omega), Nat.add_sub_cancel_left, List.getElem?_append_left hj]
                  exact hv)
                rw [← h5, List.getElem?_take] at this
                split at this
                · rw [← Nat.add_assoc] at this
                  simpa using this
                · cases this
        · cases hg

theorem setD_get {n : Nat} {x : D} {p : List Step} : ∀ {d d2 : D}, setD n x d p = some d2 → ∃ d', getD d p = some d' := by
  induction p with
  | nil => intro d d2 _; exact ⟨d, by cases d <;> rfl⟩
  | cons s p ih =>
    intro d d2 h
    cases s with
    | elt i k => cases d with
      | val u => cases u <;> simp [setD] at h
      | _ => simp [setD] at h
    | fld j off =>
      cases d with
      | val u =>
        cases u with
        | agg us =>
          simp only [setD] at h
          split at h
          · rename_i hoff
            cases hj : us[j]? with
            | none => simp [hj] at h
            | some u =>
              simp only [hj, Option.bind_some, Option.map_eq_some_iff] at h
              obtain ⟨d3, h3, _⟩ := h
              obtain ⟨d', hd'⟩ := ih h3
              exact ⟨d', by simp only [getD]; rw [if_pos hoff, hj]; exact hd'⟩
          · cases h
        | _ => simp [setD] at h
      | agg ds =>
        simp only [setD] at h
        split at h
        · rename_i hoff
          cases hj : ds[j]? with
          | none => simp [hj] at h
          | some d1 =>
            simp only [hj, Option.bind_some, Option.map_eq_some_iff] at h
            obtain ⟨d3, h3, _⟩ := h
            obtain ⟨d', hd'⟩ := ih h3
            exact ⟨d', by simp only [getD]; rw [if_pos hoff, hj]; exact hd'⟩
        · cases h
      | _ => simp [setD] at h

/-- The cells of a block once some of them are written. -/
def patch (cur : Array Value) (off : Nat) (cx : List Value) : Array Value := (cur.toList.take off ++ cx ++ cur.toList.drop (off + cx.length)).toArray

theorem size_patch {cur : Array Value} {off : Nat} {cx : List Value} (h : off + cx.length ≤ cur.size) : (patch cur off cx).size = cur.size := by
  simp [patch]; omega

theorem patch_mid {pre c' post cx : List Value} (h : c'.length = cx.length) : patch (pre ++ c' ++ post).toArray pre.length cx = (pre ++ cx ++ post).toArray := by
  unfold patch
  congr 1
  simp only [List.append_assoc]
  rw [List.take_left]
  congr 2
  rw [← h, ← List.append_assoc, ← List.length_append, List.drop_left]

/-- A variable is written at the end of a way. -/
theorem root_write {c c2 : Cn} {q : Pl} {B : List Nat} {p : List Step} {n : Nat} {x : D} {cx : List Value} (h : RootOK ρ w S β c q B) (hs : c.set n x p = some c2) (hx : DCs ρ w S β [x] cx) (hn : x.size = n)
    (hS : ∀ b ∈ B, ¬ S b) :
    ∃ b off cur e, q.go p = some (.adr b off) ∧ B = [b] ∧ w.heap[b]? = some (.cells cur e (0, 0)) ∧ off + cx.length ≤ cur.size ∧ RootOK ρ (w.setRow b (patch cur off cx)) S β c2 q B := by
  have hm : ∀ (b : Nat) (cs' : Array Value), b ∈ B → ∀ b', S b' → (w.setRow b cs').heap[b']? = w.heap[b']? := fun b cs' hb b' hb' => setRow_other w b b' cs' (fun e => hS b hb (e ▸ hb'))
  have hcell : ∀ (b : Nat) (cs' : Array Value), b ∈ B → ∀ b' o v, S b' → w.cell? ⟨b', o, none⟩ = some v → (w.setRow b cs').cell? ⟨b', o, none⟩ = some v := fun b cs' hb b' o v hb' hv => by
    rw [World.cell?_of_block (w := w) (hm b cs' hb b' hb')]; exact hv
  have hlx : cx.length = n := by rw [hx.length]; simp [hn]
  cases c with
  | box d0 =>
    obtain ⟨b, cs, e, rfl, rfl, hb, hd⟩ := h
    simp only [Cn.set, Option.map_eq_some_iff] at hs
    obtain ⟨d2, hs, rfl⟩ := hs
    obtain ⟨d', hg⟩ := setD_get hs
    obtain ⟨pre, c', post, rfl, hl, hgo, hd', hset⟩ := hd.loc hg
    refine ⟨b, pre.length, _, e, by simpa using hgo b 0, rfl, hb, ?_, ?_⟩
    all_goals
      obtain ⟨hsz, hd2⟩ := hset (w.setRow b (patch (pre ++ c' ++ post).toArray pre.length cx)) β S x cx d2 (fun ds c h => h.mono (fun _ h => h) (hm b _ (by simp)) (fun _ => rfl)) (fun us c h => h.mono (fun _ h => h) (hcell b _ (by simp)))
        n hs (hx.mono (fun _ h => h) (hm b _ (by simp)) (fun _ => rfl))
      have hlc : c'.length = cx.length := by rw [hl, hsz, hlx]
    · simp; omega
    · exact ⟨b, pre ++ cx ++ post, e, rfl, rfl, by rw [← patch_mid (cx := cx) hlc]; exact setRow_heap w b _ _ e _ hb, hd2⟩
  | arr k us =>
    cases p with
    | nil => simp [Cn.set] at hs
    | cons s p =>
      cases s with
      | fld j off => simp [Cn.set] at hs
      | elt i k' =>
        simp only [Cn.set] at hs
        split at hs
        · rename_i hk
          subst hk
          cases hi : us[i]? with
          | none => simp [hi] at hs
          | some u =>
            simp only [hi, Option.bind_some, Option.bind_eq_some_iff, Option.map_eq_some_iff] at hs
            obtain ⟨d2, hs, u', hu', rfl⟩ := hs
            have : d2 = .val u' := by cases d2 <;> simp_all [D.toU]
            subst this
            obtain ⟨d', hg⟩ := setD_get hs
            rcases h with ⟨rfl, _⟩ | ⟨b, cap, cur, e, c1, rfl, rfl, hb, h1, h2, h3, h4, h5, h6⟩
            · simp at hi
            · have hlt : i < us.length := (List.getElem?_eq_some_iff.1 hi).1
              obtain ⟨ca, cu, cb, hc1, hla, hlu, ha, hu, hbk⟩ := h6.at_ hi
              have hla' : ca.length = i * k' := by
                rw [hla, sizes_uniform (k := k') (fun u hu => h4 u (List.mem_of_mem_take hu)), List.length_take, Nat.min_eq_left (by omega)]
              obtain ⟨pre, c', post, rfl, hl, hgo, hd', hset⟩ := (DCs.of_val (β := β) hu).loc hg
              have hck : c1.length = us.length * k' := by rw [h6.length, sizes_uniform h4]
              have hle : us.length * k' ≤ cur.size := by rw [h1]; exact Nat.mul_le_mul_right _ h2
              refine ⟨b, i * k' + pre.length, cur, e, by simp only [Pl.go, Pl.step, Option.bind_some, hgo, Nat.zero_add], rfl, hb, ?_, ?_⟩
              all_goals
                obtain ⟨hsz, hd2⟩ := hset (w.setRow b (patch cur (i * k' + pre.length) cx)) β S x cx (.val u') (fun ds c h => h.mono (fun _ h => h) (hm b _ (by simp)) (fun _ => rfl)) (fun us c h => h.mono (fun _ h => h) (hcell b _ (by simp)))
                  n hs (hx.mono (fun _ h => h) (hm b _ (by simp)) (fun _ => rfl))
                have hlc : c'.length = cx.length := by rw [hl, hsz, hlx]
                have hin : i * k' + pre.length + cx.length ≤ us.length * k' := by
                  have := congrArg List.length hc1
                  simp only [List.length_append] at this
                  omega
              · omega
              · refine .inr ⟨b, cap, patch cur (i * k' + pre.length) cx, e, ca ++ (pre ++ cx ++ post) ++ cb, by simp, rfl, setRow_heap w b _ _ e _ hb, by rw [size_patch (by omega)]; exact h1, by simpa using h2, h3, ?_, ?_, ?_⟩
                · intro v hv
                  rcases List.mem_or_eq_of_mem_set hv with hv | rfl
                  · exact h4 v hv
                  · have e1 := hd2.val_inv.length
                    have e2 : (pre ++ c' ++ post).length = k' := by rw [hlu]; exact h4 u (List.mem_of_getElem? hi)
                    simp only [sizes_cons, sizes_nil, List.length_append] at e1 e2
                    omega
                · have ecur : cur.toList = ca ++ (pre ++ c' ++ post) ++ cb ++ cur.toList.drop (us.length * k') := by
                    rw [← hc1, ← h5, List.take_append_drop]
                  have e3 : (patch cur (i * k' + pre.length) cx).toList = ca ++ (pre ++ cx ++ post) ++ cb ++ cur.toList.drop (us.length * k') := by
                    have e4 : cur = ((ca ++ pre) ++ c' ++ (post ++ cb ++ cur.toList.drop (us.length * k'))).toArray := by
                      apply Array.ext'
                      exact ecur.trans (by simp)
                    have e5 : i * k' + pre.length = (ca ++ pre).length := by simp [hla']
                    rw [e5]
                    conv => lhs; rw [e4]
                    rw [patch_mid hlc]
                    simp
                  rw [e3, List.length_set]
                  have e6 : (ca ++ (pre ++ cx ++ post) ++ cb).length = us.length * k' := by
                    have := congrArg List.length hc1
                    simp only [List.length_append] at this ⊢
                    omega
                  rw [← e6, List.take_left]
                · rw [set_parts us i u' hlt]
                  have := (ha.mono (w' := w.setRow b (patch cur (i * k' + pre.length) cx)) (fun _ h => h) (hcell b _ (by simp))).append (hd2.val_inv.append (hbk.mono (w' := w.setRow b (patch cur (i * k' + pre.length) cx)) (fun _ h => h) (hcell b _ (by simp))))
                  simpa using this
        · cases hs
end
end Go.Proofs.YticokpflinlgbaaGreat.Am
