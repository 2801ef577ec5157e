import Derived.Test.YticokpflinlgbaaGreatAmM
/-
  What the model's operation does: append, make, min and max.
-/
namespace Go.Proofs.YticokpflinlgbaaGreat.Am
open Go Go.RowKit

section
variable {ρ : Nat → FuncId} {w w' : World} {S S' : Nat → Prop} {β β' : Nat → Pl} {S₀ : Nat → Prop} {Γ : Hp} {B : Nat → List Nat} {base : Nat → Prop} {N : Nat} {fr : Frm} {a : Act}

theorem UV.mono {u : U} {v : Value} (h : UV ρ w S u v) (hS : ∀ b, S b → S' b) (hc : ∀ b o v, S b → w.cell? ⟨b, o, none⟩ = some v → w'.cell? ⟨b, o, none⟩ = some v) : UV ρ w' S' u v :=
  let ⟨cs, h1, h2⟩ := h
  ⟨cs, h1.mono hS hc, h2⟩

theorem V1s_vals (hS : ∀ b, S b → S' b) (hc : ∀ b o v, S b → w.cell? ⟨b, o, none⟩ = some v → w'.cell? ⟨b, o, none⟩ = some v) : ∀ {us : List U} {vs : List Value}, V1s ρ w S β (us.map .val) vs → V1s ρ w' S' β' (us.map .val) vs
  | [], _, h => h
  | u :: us, vs, h => by
    obtain ⟨v, vs', rfl, h1, h2⟩ := h
    exact ⟨v, vs', rfl, (h1.uv.mono hS hc).v1, V1s_vals hS hc h2⟩

theorem VD.val_mono {u : U} {v : Value} (h : VD ρ w S β (.val u) v) (hS : ∀ b, S b → S' b) (hc : ∀ b o v, S b → w.cell? ⟨b, o, none⟩ = some v → w'.cell? ⟨b, o, none⟩ = some v) : VD ρ w' S' β' (.val u) v := by
  by_cases ht : ∃ us, u = .tup us
  · obtain ⟨us, rfl⟩ := ht
    obtain ⟨vs, e, h1⟩ := h
    exact ⟨vs, e, V1s_vals hS hc h1⟩
  · exact VD_val ((h.uv (fun us e => ht ⟨us, e⟩)).mono hS hc)

theorem snap_isAgg {n : Nat} {d : D} {u : U} (h : snap Γ n d = some u) : (D.val u).isAgg = d.isAgg := by
  cases n with
  | zero =>
    cases d with
    | val u' => simp only [snap, Option.some.injEq] at h; rw [h]
    | _ => cases h
  | succ n =>
    cases d with
    | val u' => simp only [snap, Option.some.injEq] at h; rw [h]
    | agg ds => simp only [snap, Option.map_eq_some_iff] at h; obtain ⟨us, _, rfl⟩ := h; rfl
    | fnv q ds => simp only [snap, Option.map_eq_some_iff] at h; obtain ⟨us, _, rfl⟩ := h; rfl
    | ptr R p =>
      simp only [snap] at h
      split at h
      · simp only [Option.bind_eq_some_iff, Option.map_eq_some_iff] at h
        obtain ⟨d, hd, u, hu, rfl⟩ := h
        rfl
      · cases h
    | ref R k part =>
      cases part with
      | none =>
        simp only [snap] at h
        split at h
        · split at h
          · cases h; rfl
          · cases h
        · cases h
      | some om =>
        obtain ⟨off, m⟩ := om
        simp only [snap] at h
        split at h
        · split at h
          · cases h; rfl
          · cases h
        · cases h
    | _ => cases h

/-- A slot, as it is seen now. -/
theorem Rel.snap (hrel : Rel ρ S₀ base N fr Γ β B a w) {n : Nat} {d : D} {v : Value} {u : U} (h : VD ρ w (Stands S₀ w Γ B) β d v) (hs : snap Γ n d = some u) : VD ρ w (fun b => S₀ b ∧ b < w.heap.size) β' (.val u) v := by
  have main : V1 ρ w (Stands S₀ w Γ B) β d v → d ≠ .undef → VD ρ w (fun b => S₀ b ∧ b < w.heap.size) β' (.val u) v := by
    intro h1 hne
    rcases h1 with h1 | ⟨cs, h1, h2⟩
    · exact absurd h1 hne
    · refine VD_val ⟨cs, snap_sound hrel.roots (fun R hR b hb => ⟨hrel.fresh b (hrel.inside R hR b hb).1, (hrel.inside R hR b hb).2⟩) (fun b hb => ⟨hb.3, hb.1⟩) n d cs u h1 hs, ?_⟩
      rw [snap_isAgg hs]
      exact h2
  cases d with
  | val u' =>
    have : Am.snap Γ n (.val u') = some u' := by cases n <;> rfl
    rw [this] at hs
    cases hs
    exact h.val_mono (fun b hb => ⟨hb.3, hb.1⟩) (fun _ _ _ _ h => h)
  | tup ds => cases n <;> cases hs
  | skip => cases n <;> cases hs
  | undef => cases n <;> cases hs
  | agg ds => exact main h (fun e => by cases e)
  | ref R k part => exact main h (fun e => by cases e)
  | ptr R p => exact main h (fun e => by cases e)
  | fnv q ds => exact main h (fun e => by cases e)
end

/-! ### append -/
section
variable {P : Program} {w : World}

theorem run_app_none (t t2 ty e e2 : TypeId) (i : TypeInfo) (ht : P.underlying t = some (.slice e)) (ht2 : P.underlying t2 = some (.slice e2)) (hi : P.info? e = some i) (b ad : Option Addr) (n cap c : Nat) (h : n ≤ cap) :
    (Builtin.append_ #[t, t2] ty #[.slice b n cap, .slice ad 0 c]).run P w = .ok (.slice b n cap) w := by
  cases ad with
  | none => cases b <;> simp [Builtin.append_, run_underlying ht, run_underlying ht2, sizeOf, typeInfo, hi, Builtin.lenOf, Builtin.firstCells, h, storeCells]
  | some ad =>
    have hf := run_firstCells_some (P := P) w i.size 0 ad 0 c [] (by simp) (by simp)
    cases b <;> simp [Builtin.append_, run_underlying ht, run_underlying ht2, sizeOf, typeInfo, hi, Builtin.lenOf, hf, h, storeCells]

theorem run_app_room (t t2 ty e e2 el : TypeId) (i : TypeInfo) (ht : P.underlying t = some (.slice e)) (ht2 : P.underlying t2 = some (.slice e2)) (hi : P.info? e = some i)
    (g sLen sCap : Nat) (cur : Array Value) (hg : w.heap[g]? = some (.cells cur el (0, 0)))
    (ad : Addr) (m c : Nat) (news : List Value) (hl : news.length = m * i.size) (hnews : ∀ j u, news[j]? = some u → w.cell? (ad.add j) = some u) (h1 : ∀ u ∈ news, u.oneCell' = true)
    (hroom : sLen + m ≤ sCap) (hfit : sLen * i.size + news.length ≤ cur.size) :
    (Builtin.append_ #[t, t2] ty #[.slice (some ⟨g, 0, none⟩) sLen sCap, .slice (some ad) m c]).run P w =
      .ok (.slice (some ⟨g, 0, none⟩) (sLen + m) sCap) (w.setRow g (cur.toList.take (sLen * i.size) ++ news ++ cur.toList.drop (sLen * i.size + news.length)).toArray) := by
  have hf := run_firstCells_some (P := P) w i.size m ad m c news hl hnews
  have hst := run_storeCells_at P g (sLen * i.size) el news 0 cur w hg (by simpa using hfit) h1
  simp only [Nat.add_zero] at hst
  simp [Builtin.append_, run_underlying ht, run_underlying ht2, sizeOf, typeInfo, hi, Builtin.lenOf, hroom, hf, Addr.add_lit, hst]

theorem run_app_grow (t t2 ty e e2 : TypeId) (i : TypeInfo) (z : Value) (ht : P.underlying t = some (.slice e)) (ht2 : P.underlying t2 = some (.slice e2)) (hi : P.info? e = some i) (hz : i.zero = some z)
    (b : Option Addr) (sLen sCap : Nat) (olds : List Value) (holds : (Builtin.firstCells i.size sLen (.slice b sLen sCap)).run P w.drew = .ok olds.toArray w.drew)
    (ad : Addr) (n c : Nat) (news : List Value) (hl : news.length = n * i.size) (hnews : ∀ j v, news[j]? = some v → w.cell? (ad.add j) = some v)
    (hg : sCap < sLen + n) (h63 : ((sLen + n : Nat) : Int) ≤ 9223372036854775807) (hfit : Builtin.nextslicecap (sLen + n) sCap * i.bytes ≤ 281474976710656) :
    (Builtin.append_ #[t, t2] ty #[.slice b sLen sCap, .slice (some ad) n c]).run P w =
      .ok (.slice (some ⟨w.heap.size, 0, none⟩) (sLen + n) (grownCap w (sLen + n) sCap e))
        (w.drew.alloc (.cells (olds ++ news ++ (Builtin.zeroCells z.cells (grownCap w (sLen + n) sCap e - (sLen + n))).toList).toArray e)) := by
  have hn : ¬ (sLen + n ≤ sCap) := by omega
  have h63' : ¬ (9223372036854775807 < ((sLen : Int) + (n : Int))) := by omega
  have h48' : ¬ (281474976710656 < Builtin.nextslicecap (sLen + n) sCap * i.bytes) := by omega
  have hf := run_firstCells_some (P := P) w.drew i.size n ad n c news hl (by simpa using hnews)
  simp [Builtin.append_, run_underlying ht, run_underlying ht2, sizeOf, typeInfo, zeroValue, hi, hz, Builtin.lenOf, hn, h63', h48', Question.forced, hf, holds, newRow, grownCap]
  congr 2
  apply Array.ext'
  simp

/-- What append needs to know of a type of elements. -/
def elemOK (P : Program) (e : TypeId) (k bytes : Nat) : Bool := match P.info? e with
  | some i => i.size == k && i.bytes == bytes && decide (0 < k) && decide (0 < bytes) && (match i.zero with | some z => z.cells.size == k | none => false)
  | none => false

theorem elemOK_some {e : TypeId} {k bytes : Nat} (h : elemOK P e k bytes = true) : ∃ i z, P.info? e = some i ∧ i.zero = some z ∧ i.size = k ∧ i.bytes = bytes ∧ 0 < k ∧ 0 < bytes ∧ z.cells.size = k := by
  unfold elemOK at h
  split at h
  · rename_i i hi
    simp only [Bool.and_eq_true, beq_iff_eq, decide_eq_true_eq] at h
    obtain ⟨⟨⟨⟨h1, h2⟩, h3⟩, h4⟩, h5⟩ := h
    split at h5
    · rename_i z hz
      exact ⟨i, z, hi, hz, h1, h2, h3, h4, by simpa using h5⟩
    · cases h5
  · cases h
end

section
variable {α : Type} {P : Program} {ρ : Nat → FuncId} {base : Nat → Prop} {N : Nat} {fr : Frm} {S₀ : Nat → Prop} {Γ : Hp} {β : Nat → Pl} {B : Nat → List Nat} {a : Act} {w w' : World} {E : Env}
  {K : Eff → Option α} {r : α} {G : Prop} {o : Oper}

theorem run_appOp {args : Array Operand} {tys : Array TypeId} (ho : o.op = .call { callee := .builtin .append, args := args, argTypes := tys }) {v1 v2 u : Value} (hargs : args.map a.eval = #[v1, v2])
    (h : (Builtin.append_ tys o.type #[v1, v2]).run P w = .ok u w') : (execOp a.eval o).run P w = .ok (.value u) w' := by
  simp only [execOp, ho, resolve, hargs, Sem.run_bind, Sem.run_pure, Result.andThen_ok, invoke, builtin, h]

/-- The source of an append: its elements, and where they lie. -/
theorem Rel.src (hrel : Rel ρ S₀ base N fr Γ β B a w) {k : Nat} {d : D} {ys : List U} {v : Value} (h : VD ρ w (Stands S₀ w Γ B) β d v) (he : srcElems Γ k d = some ys) :
    (ys = [] ∧ ∃ ad c, v = .slice ad 0 c) ∨
      ∃ b off cap c1, ys ≠ [] ∧ v = .slice (some ⟨b, off, none⟩) ys.length cap ∧ (∀ u ∈ ys, u.size = k) ∧ w.rangeAt b off c1 ∧ URs ρ w (Stands S₀ w Γ B) ys c1 := by
  cases d with
  | val u =>
    simp only [srcElems] at he
    cases u with
    | sl k' us =>
      simp only [U.elems] at he
      split at he
      · rename_i hk
        cases he
        subst hk
        rcases VD_sl h with ⟨rfl, ad, cap, e1⟩ | ⟨b, off, cap, c1, hne, e1, hb, hcap, hmax, hks, hrg, hus⟩
        · exact .inl ⟨rfl, ad, cap, e1⟩
        · exact .inr ⟨b, off, cap, c1, hne, e1, hks, hrg, hus⟩
      · cases he
    | nsl k' =>
      simp only [U.elems] at he
      split at he
      · cases he
        exact .inl ⟨rfl, none, 0, VD_nsl h⟩
      · cases he
    | _ => cases he
  | ref R k' part =>
    obtain ⟨v0, hβ, hsub⟩ := VD_ref h
    cases part with
    | none =>
      simp only [srcElems] at he
      split at he
      · rename_i k2 us hR
        split at he
        · rename_i hc
          obtain ⟨rfl, rfl⟩ := hc
          cases he
          obtain ⟨rfl, _⟩ := hsub
          rcases hrel.roots R _ hR with ⟨rfl, hq, _⟩ | ⟨b, cap, cur, e, c1, hq, hB, hb, h1, h2, h3, h4, h5, h6⟩
          · rw [hβ] at hq; injection hq with hq
            exact .inl ⟨rfl, none, 0, hq⟩
          · rw [hβ] at hq; injection hq with hq
            by_cases hne : ys = []
            · exact .inl ⟨hne, _, cap, by rw [hq, hne]; rfl⟩
            · refine .inr ⟨b, 0, cap, c1, hne, hq, h4, rangeAt_of_row hb fun j v hv => ?_, h6⟩
              rw [← h5, List.getElem?_take] at hv
              split at hv
              · simpa using hv
              · cases hv
        · cases he
      · cases he
    | some om =>
      obtain ⟨off, len⟩ := om
      simp only [srcElems] at he
      split at he
      · rename_i k2 us hR
        split at he
        · rename_i hc
          obtain ⟨rfl, rfl, hle⟩ := hc
          cases he
          obtain ⟨ad, l, c, ad', hv0, rfl, h7, h8, h9, h10⟩ := hsub
          have hlen : ((us.drop off).take len).length = len := by rw [List.length_take, List.length_drop]; omega
          by_cases hne : (us.drop off).take len = []
          · rw [hne] at hlen
            exact .inl ⟨hne, ad', c - off, by rw [← hlen]; rfl⟩
          · have hpos := List.length_pos_iff.2 hne
            rcases hrel.roots R _ hR with ⟨rfl, hq, _⟩ | ⟨b, cap, cur, e, c1, hq, hB, hb, h1, h2, h3, h4, h5, h6⟩
            · simp at hne
            · rw [hβ] at hq; injection hq with hq; rw [hv0] at hq; injection hq with hq1 hq2 hq3
              subst hq1
              have had : ad' = some ⟨b, 0 + off * k2, none⟩ := by
                rcases h10 with h10 | h10
                · omega
                · rw [h10]; simp [Addr.add_mid]
              obtain ⟨c2, hc2, hat⟩ := h6.mid h4 (l := off) (h := off + len) (by omega) (by omega)
              have e1 : (us.take (off + len)).drop off = (us.drop off).take len := by rw [List.drop_take]; congr 1; omega
              rw [e1] at hc2
              refine .inr ⟨b, 0 + off * k2, c - off, c2, hne, by rw [hlen, had], fun u hu => h4 u (List.mem_of_mem_drop (List.mem_of_mem_take hu)), rangeAt_of_row hb fun j v hv => ?_, hc2⟩
              have h11 := hat j v hv
              rw [← h5, List.getElem?_take] at h11
              split at h11
              · simpa using h11
              · cases h11
        · cases he
      · cases he
  | _ => cases he

theorem rangeAt_add {b off : Nat} {c : List Value} (h : w.rangeAt b off c) : ∀ j u, c[j]? = some u → w.cell? ((⟨b, off, none⟩ : Addr).add j) = some u := fun j u hu => by
  rw [Addr.add_mid]; exact h j u hu

theorem sound_append {t t2 e e2 : TypeId} {s x : Operand} {k bytes : Nat} {s' x' : Opd} (hrel : Rel ρ S₀ base N fr Γ β B a w) (ho : o.op = .call { callee := .builtin .append, args := #[s, x], argTypes := #[t, t2] })
    (ht : tyElem P t = some e) (ht2 : tyElem P t2 = some e2) (he : elemOK P e k bytes = true) (hs : opdOK ρ N s s' = true) (hx : opdOK ρ N x x' = true)
    (h : (AOp.append k bytes s' x').step E fr Γ K = some r) (hK : Cont P ρ S₀ Γ β B a w o K r G) : G := by
  obtain ⟨i, z, hi, hz, rfl, rfl, hk0, hb0, hzs⟩ := elemOK_some he
  have ht := tyElem_eq ht
  have ht2 := tyElem_eq ht2
  simp only [AOp.step, Option.bind_eq_some_iff] at h
  obtain ⟨ys, hys, h⟩ := h
  have hvs := hrel.opd hs
  have hsrc := hrel.src (hrel.opd hx) hys
  -- a new row, behind what was there
  have fresh : ∀ (us : List U) (olds : List Value) (b : Option Addr) (cap : Nat), a.eval s = .slice b us.length cap → us.length ≤ cap → URs ρ w (Stands S₀ w Γ B) us olds → (∀ u ∈ us, u.size = i.size) →
      (Builtin.firstCells i.size us.length (.slice b us.length cap)).run P w.drew = .ok olds.toArray w.drew → ys ≠ [] → cap < us.length + ys.length → (us.length + ys.length) * i.bytes ≤ 140737488355328 →
      ∃ v w', (execOp a.eval o).run P w = .ok (.value v) w' ∧ Below w.heap.size w w' ∧ w'.heap.size = w.heap.size + 1 ∧
        ∃ cur, v = .slice (some ⟨w.heap.size, 0, none⟩) (us ++ ys).length (grownCap w (us.length + ys.length) cap e) ∧ w'.heap[w.heap.size]? = some (.cells cur e (0, 0)) ∧
          cur.size = grownCap w (us.length + ys.length) cap e * i.size ∧ (us ++ ys).length ≤ grownCap w (us.length + ys.length) cap e ∧ grownCap w (us.length + ys.length) cap e ≤ maxLen ∧ (∀ u ∈ us ++ ys, u.size = i.size) ∧
          ∃ news, cur.toList.take ((us ++ ys).length * i.size) = olds ++ news ∧ URs ρ w (Stands S₀ w Γ B) ys news := by
    intro us olds b cap hs1 hcap holds hks hfirst hne hgt hbytes
    rcases hsrc with ⟨hys0, _⟩ | ⟨bx, ox, cx, news, _, hxe, hksy, hrg, hnews⟩
    · exact absurd hys0 hne
    · have hlo : olds.length = us.length * i.size := by rw [holds.length, sizes_uniform hks]
      have hln : news.length = ys.length * i.size := by rw [hnews.length, sizes_uniform hksy]
      have hle : us.length + ys.length ≤ 140737488355328 := Nat.le_trans (Nat.le_mul_of_pos_right _ hb0) hbytes
      have hml : us.length + ys.length ≤ maxLen := by simp only [maxLen]; omega
      have hr := run_app_grow (P := P) (w := w) t t2 o.type e e2 i z ht ht2 hi hz b us.length cap olds hfirst ⟨bx, ox, none⟩ ys.length cx news hln (rangeAt_add hrg) hgt (by omega) (growslice_fits hgt hbytes)
      refine ⟨_, _, run_appOp ho (by simp [hs1, hxe]) hr, ?_, by simp, _, by simp, heap_alloc_new w.drew _, ?_, ?_, grownCap_le_maxLen w _ _ _ hml, ?_, news, ?_, hnews⟩
      · exact (Below.refl _ _).drew.alloc (Nat.le_refl _) _
      · have := grownCap_ge w (us.length + ys.length) cap e
        simp only [List.size_toArray, List.length_append, Array.length_toList, size_zeroCells, hzs, hlo, hln]
        rw [← Nat.add_mul, ← Nat.add_mul]
        congr 1
        omega
      · rw [List.length_append]; exact grownCap_ge w _ _ _
      · intro u hu
        rcases List.mem_append.1 hu with hu | hu
        · exact hks u hu
        · exact hksy u hu
      · have e1 : (us ++ ys).length * i.size = (olds ++ news).length := by rw [List.length_append, List.length_append, hlo, hln, Nat.add_mul]
        rw [e1, List.append_assoc, ← List.append_assoc olds news]
        exact List.take_left
  cases hes : s'.ev fr with
  | val u =>
    rw [hes] at h hvs
    cases u with
    | nsl k' =>
      simp only [U.asNsl] at h
      split at h
      · rename_i hc
        obtain ⟨rfl, hbytes⟩ := hc
        have es := VD_nsl hvs
        by_cases hne : ys = []
        · subst hne
          rcases hsrc with ⟨_, ad, c, hxe⟩ | ⟨_, _, _, _, hne, _⟩
          · exact hK.arr _ _ _ w h (run_appOp ho (by simp [es, hxe]) (run_app_none t t2 o.type e e2 i ht ht2 hi none ad 0 0 c (Nat.le_refl _))) (Below.refl _ _) ⟨[], by simp, fun β' => .inl ⟨rfl, rfl, rfl⟩⟩
          · exact absurd rfl hne
        · have hpos := List.length_pos_iff.2 hne
          obtain ⟨v, w', hrun, hbel, hsz, cur, hv, hcur, h1, h2, h3, h4, news, h5, h6⟩ := fresh [] [] none 0 (by simpa using es) (Nat.le_refl _) .nil (by simp) (by simp [Builtin.firstCells]) hne (by simpa using hpos) (by simpa using hbytes)
          refine hK.arr _ _ v w' h hrun hbel ⟨[w.heap.size], by simp [hsz], fun β' => .inr ⟨w.heap.size, _, cur, e, news, by rw [hv]; rfl, rfl, hcur, h1, h2, h3, h4, by simpa using h5, ?_⟩⟩
          exact h6.mono (fun _ h => h) (fun b o v hb hv => (hbel.cell (p := ⟨b, o, none⟩) hb.1).trans hv)
      · cases h
    | _ => cases h
  | ref R k' part =>
    rw [hes] at h hvs
    cases part with
    | some om => cases h
    | none =>
      simp only at h
      cases hR : Γ R with
      | none => rw [hR] at h; cases h
      | some c =>
        rw [hR] at h
        cases c with
        | box d => cases h
        | arr k2 us =>
          simp only at h
          split at h
          · rename_i hc
            obtain ⟨rfl, rfl, hbytes⟩ := hc
            have hsome : (Γ R).isSome = true := by simp [hR]
            obtain ⟨v0, hβ, hsub, _⟩ := VD_ref hvs
            have hroot := hrel.roots R _ hR
            rcases hroot with ⟨rfl, hq, hB⟩ | ⟨b, cap, cur, el, c1, hq, hB, hb, h1, h2, h3, h4, h5, h6⟩
            · rw [hβ] at hq; injection hq with hq
              have es : a.eval s = .slice none 0 0 := hsub.trans hq
              by_cases hne : ys = []
              · subst hne
                rcases hsrc with ⟨_, ad, c, hxe⟩ | ⟨_, _, _, _, hne, _⟩
                · exact hK.swap R _ _ _ w [] h (run_appOp ho (by simp [es, hxe]) (run_app_none t t2 o.type e e2 i ht ht2 hi none ad 0 0 c (Nat.le_refl _))) hsome rfl rfl rfl (Nat.le_refl _) (fun _ _ _ => rfl) (by simp) fun β' => .inl ⟨rfl, rfl, rfl⟩
                · exact absurd rfl hne
              · have hpos := List.length_pos_iff.2 hne
                obtain ⟨v, w', hrun, hbel, hsz, cur, hv, hcur, h1, h2, h3, h4, news, h5, h6⟩ := fresh [] [] none 0 (by simpa using es) (Nat.le_refl _) .nil (by simp) (by simp [Builtin.firstCells]) hne (by simpa using hpos) (by simpa using hbytes)
                refine hK.swap R _ _ v w' [w.heap.size] h hrun hsome hbel.os hbel.tape hbel.output hbel.size (fun b hb _ => hbel.block b hb) (by simp [hsz]) fun β' => .inr ⟨w.heap.size, _, cur, e, news, by rw [hv], rfl, hcur, h1, h2, h3, h4, by simpa using h5, ?_⟩
                exact h6.mono (fun _ h => h) (fun b o v hb hv => (hbel.cell (p := ⟨b, o, none⟩) hb.1).trans hv)
            · rw [hβ] at hq; injection hq with hq
              have es : a.eval s = .slice (some ⟨b, 0, none⟩) us.length cap := hsub.trans hq
              by_cases hne : ys = []
              · subst hne
                rcases hsrc with ⟨_, ad, c, hxe⟩ | ⟨_, _, _, _, hne, _⟩
                · refine hK.swap R _ _ _ w [b] h (run_appOp ho (by simp [es, hxe]) (run_app_none t t2 o.type e e2 i ht ht2 hi (some ⟨b, 0, none⟩) ad us.length cap c h2)) hsome rfl rfl rfl (Nat.le_refl _) (fun _ _ _ => rfl) (by simp [hB]) fun β' => .inr ⟨b, cap, cur, el, c1, by simp, rfl, hb, h1, by simpa using h2, h3, by simpa using h4, by simpa using h5, by simpa using h6⟩
                · exact absurd rfl hne
              · have hpos := List.length_pos_iff.2 hne
                have hl1 : c1.length = us.length * i.size := by rw [h6.length, sizes_uniform h4]
                by_cases hroom : us.length + ys.length ≤ cap
                · rcases hsrc with ⟨hys0, _⟩ | ⟨bx, ox, cx, news, _, hxe, hksy, hrg, hnews⟩
                  · exact absurd hys0 hne
                  · have hln : news.length = ys.length * i.size := by rw [hnews.length, sizes_uniform hksy]
                    have hfit : us.length * i.size + news.length ≤ cur.size := by rw [hln, h1, ← Nat.add_mul]; exact Nat.mul_le_mul_right _ hroom
                    have hr := run_app_room (P := P) (w := w) t t2 o.type e e2 el i ht ht2 hi b us.length cap cur hb ⟨bx, ox, none⟩ ys.length cx news hln (rangeAt_add hrg) hnews.oneCell hroom hfit
                    have hoth : ∀ b', b' ∉ B R → (w.setRow b (cur.toList.take (us.length * i.size) ++ news ++ cur.toList.drop (us.length * i.size + news.length)).toArray).heap[b']? = w.heap[b']? := fun b' hb' => setRow_other w b b' _ (fun e => hb' (by rw [hB, e]; simp))
                    have hcell : ∀ b' o v, Stands S₀ w Γ B b' → w.cell? ⟨b', o, none⟩ = some v → (w.setRow b (cur.toList.take (us.length * i.size) ++ news ++ cur.toList.drop (us.length * i.size + news.length)).toArray).cell? ⟨b', o, none⟩ = some v := fun b' o v hS hv => by
                      rw [World.cell?_of_block (w := w) (hoth b' (hS.2 R hsome))]; exact hv
                    refine hK.swap R _ _ _ _ [b] h (run_appOp ho (by simp [es, hxe]) hr) hsome rfl rfl rfl (by simp) (fun b' _ hb' => hoth b' hb') (by simp [hB]) fun β' => .inr ⟨b, cap, _, el, c1 ++ news, by simp, rfl, setRow_heap w b cur _ el _ hb, ?_, by simpa using hroom, h3, ?_, ?_, ?_⟩
                    · simp only [List.size_toArray, List.length_append, List.length_take, List.length_drop, Array.length_toList]
                      omega
                    · intro u hu
                      rcases List.mem_append.1 hu with hu | hu
                      · exact h4 u hu
                      · exact hksy u hu
                    · have e1 : (us ++ ys).length * i.size = (c1 ++ news).length := by rw [List.length_append, List.length_append, hl1, hln, Nat.add_mul]
                      rw [h5, e1]
                      exact List.take_left
                    · exact (h6.mono (fun _ h => h) hcell).append (hnews.mono (fun _ h => h) hcell)
                · have hfirst : (Builtin.firstCells i.size us.length (.slice (some ⟨b, 0, none⟩) us.length cap)).run P w.drew = .ok c1.toArray w.drew := by
                    refine run_firstCells_some (P := P) w.drew i.size us.length ⟨b, 0, none⟩ us.length cap c1 hl1 fun j v hv => ?_
                    have hrg : w.rangeAt b 0 c1 := rangeAt_of_row hb fun j v hv => by
                      rw [← h5, List.getElem?_take] at hv
                      split at hv
                      · simpa using hv
                      · cases hv
                    exact rangeAt_add hrg j v hv
                  obtain ⟨v, w', hrun, hbel, hsz, cur', hv, hcur, g1, g2, g3, g4, news, g5, g6⟩ := fresh us c1 (some ⟨b, 0, none⟩) cap es h2 h6 h4 hfirst hne (by omega) hbytes
                  have hcell : ∀ b o v, Stands S₀ w Γ B b → w.cell? ⟨b, o, none⟩ = some v → w'.cell? ⟨b, o, none⟩ = some v := fun b o v hb hv => (hbel.cell (p := ⟨b, o, none⟩) hb.1).trans hv
                  exact hK.swap R _ _ v w' [w.heap.size] h hrun hsome hbel.os hbel.tape hbel.output hbel.size (fun b hb _ => hbel.block b hb) (by simp [hsz]) fun β' => .inr ⟨w.heap.size, _, cur', e, c1 ++ news, by rw [hv], rfl, hcur, g1, g2, g3, g4, g5, (h6.mono (fun _ h => h) hcell).append (g6.mono (fun _ h => h) hcell)⟩
          · cases h
  | _ => rw [hes] at h; cases h
end
end Go.Proofs.YticokpflinlgbaaGreat.Am
