import Derived.Test.YticokpflinlgbaaGreatAmI
/-
  What the model's operation does, for each operation of the abstract machine: memory, places, parts.
-/
namespace Go.Proofs.YticokpflinlgbaaGreat.Am
open Go Go.RowKit

theorem isAgg_size {d : D} (h : d.isAgg = false) : d.size = 1 := by
  cases d with
  | val u => cases u <;> first | rfl | (simp [D.isAgg] at h)
  | agg ds => simp [D.isAgg] at h
  | _ => rfl

section
variable {α : Type} {P : Program} {ρ : Nat → FuncId} {base : Nat → Prop} {N : Nat} {fr : Frm} {S₀ : Nat → Prop} {Γ : Hp} {β : Nat → Pl} {B : Nat → List Nat} {a : Act} {w w' : World} {E : Env}
  {K : Eff → Option α} {r : α} {G : Prop} {o : Oper}

/-! ### Loads -/
theorem run_loadPlace {S : Nat → Prop} {t : TypeId} {d : D} {b off : Nat} {c : List Value} (hag : tyAgg P t = some d.isAgg) (hsz : tySize P t = some d.size) (hc : w.rangeAt b off c) (hd : DCs ρ w S β [d] c) :
    ∃ v, (∀ w2, Below w.heap.size w w2 → (Instr.loadAt t (.pointer (some ⟨b, off, none⟩))).run P w2 = .ok v w2) ∧ V1 ρ w S β d v := by
  have hl : c.length = d.size := by rw [hd.length]; simp
  cases hda : d.isAgg with
  | true =>
    rw [hda] at hag
    refine ⟨.agg c.toArray, fun w2 hw2 => ?_, .inr ⟨c, hd, by simp [hda]⟩⟩
    unfold tyAgg at hag
    have : ∃ ty, P.underlying t = some ty ∧ ty.isRow = true := by
      split at hag
      · exact ⟨_, ‹_›, rfl⟩
      · exact ⟨_, ‹_›, rfl⟩
      · cases hag
      · cases hag
    obtain ⟨ty, hu, hr⟩ := this
    exact run_loadAt_mid w2 b off t c ty (rangeAt_below hc hw2) hu hr (by rw [hl]; exact hsz)
  | false =>
    have h1 : c.length = 1 := by rw [hl, isAgg_size hda]
    match c, h1 with
    | [v], _ =>
      refine ⟨v, fun w2 hw2 => ?_, .inr ⟨[v], hd, by simp [hda]⟩⟩
      rw [hda] at hag
      have hcell : w2.cell? ⟨b, off, none⟩ = some v := by simpa using rangeAt_below hc hw2 0 v rfl
      simp only [Instr.loadAt, Instr.sureAddr, Sem.run_bind, Sem.run_pure, Result.andThen_ok, loadVar, run_isAgg' hag]
      simp [hcell]

theorem VD_of_V1 {S : Nat → Prop} {d : D} {v : Value} (h : V1 ρ w S β d v) : VD ρ w S β d v := by
  unfold VD
  cases d with
  | tup ds =>
    rcases h with h | ⟨cs, h, _⟩
    · cases h
    · cases h
  | val u =>
    cases u with
    | tup us =>
      rcases h with h | ⟨cs, h, _⟩
      · cases h
      · have := h.val_inv; cases this
    | _ => exact h
  | skip =>
    rcases h with h | ⟨cs, h, _⟩
    · cases h
    · cases h
  | _ => exact h

theorem asVar_some {agg : Bool} {size : Nat} {u : U} {K : U → Option α} (h : u.asVar agg size K = some r) : (D.val u).isAgg = agg ∧ u.size = size ∧ K u = some r := by
  unfold U.asVar at h
  by_cases hc : (D.val u).isAgg = agg ∧ u.size = size
  · rw [if_pos hc] at h
    exact ⟨hc.1, hc.2, h⟩
  · rw [if_neg hc] at h; cases h

theorem sound_load {t : TypeId} {x : Operand} {agg : Bool} {size : Nat} {x' : Opd} (hrel : Rel ρ S₀ base N fr Γ β B a w) (ho : o.op = .load t x) (hag : tyAgg P t = some agg) (hsz : tySize P t = some size) (hx : opdOK ρ N x x' = true)
    (h : (AOp.load agg size x').step E fr Γ K = some r) (hK : Cont P ρ S₀ Γ β B a w o K r G) : G := by
  simp only [AOp.step] at h
  have hv := hrel.opd hx
  cases he : x'.ev fr with
  | val u =>
    rw [he] at h hv
    cases u with
    | vp u =>
      obtain ⟨hA, hZ, hr⟩ := asVar_some (K := fun u => K (.v (.val u))) h
      obtain ⟨b, off, c1, e, hb, hc, hu⟩ := VD_vp hv
      subst hA; subst hZ
      obtain ⟨v, hrun, hv1⟩ := run_loadPlace (β := β) (d := .val u) hag hsz hc (DCs.of_val hu)
      exact hK.here _ _ hr (VD_of_V1 hv1) (fun w' hw' => by simp only [execOp, ho, e]; exact run_v (hrun w' hw'))
    | _ => cases h
  | ptr R p =>
    rw [he] at h hv
    simp only at h
    split at h
    · rename_i c hR
      rw [Cn.getK_eq] at h
      obtain ⟨d, hg, hr⟩ := Option.bind_eq_some_iff.1 h
      have hd : d.isAgg = agg ∧ d.size = size ∧ K (.v d) = some r := by
        cases d with
        | val u => exact asVar_some (K := fun u => K (.v (.val u))) hr
        | _ =>
          simp only at hr
          split at hr
          · rename_i hc; exact ⟨hc.1, hc.2, hr⟩
          · cases hr
      obtain ⟨rfl, rfl, hr2⟩ := hd
      obtain ⟨b, off, e, hgo⟩ := VD_ptr hv
      obtain ⟨b', off', c', hgo', hbB, hc, hdc, _⟩ := root_read (hrel.roots R c hR) hg
      rw [hgo] at hgo'
      cases hgo'
      obtain ⟨v, hrun, hv1⟩ := run_loadPlace hag hsz hc hdc
      exact hK.here _ _ hr2 (VD_of_V1 hv1) (fun w' hw' => by simp only [execOp, ho, e]; exact run_v (hrun w' hw'))
    · cases h
  | _ => rw [he] at h; cases h

/-! ### Stores -/
theorem V1.cells {S : Nat → Prop} {d : D} {v : Value} (h : V1 ρ w S β d v) (hne : d ≠ .undef) : ∃ cs, v.cells = cs.toArray ∧ DCs ρ w S β [d] cs := by
  rcases h with h | ⟨cs, h1, h2⟩
  · exact absurd h hne
  · refine ⟨cs, ?_, h1⟩
    split at h2
    · rw [h2]; rfl
    · subst h2
      have h3 := h1.oneCell v (by simp)
      cases v <;> simp_all [Value.cells, Value.oneCell']

theorem VD.v1 {S : Nat → Prop} {d : D} {v : Value} (h : VD ρ w S β d v) (hs : storable d = true) : V1 ρ w S β d v ∧ d ≠ .undef := by
  cases d with
  | val u => cases u <;> first | exact ⟨h, fun e => by cases e⟩ | cases hs
  | tup ds => cases hs
  | skip => cases hs
  | undef => cases hs
  | _ => exact ⟨h, fun e => by cases e⟩

theorem sound_store {t : TypeId} {x y : Operand} {size : Nat} {x' y' : Opd} (hrel : Rel ρ S₀ base N fr Γ β B a w) (ho : o.op = .store t x y) (hsz : tySize P t = some size) (hx : opdOK ρ N x x' = true) (hy : opdOK ρ N y y' = true)
    (h : (AOp.store size x' y').step E fr Γ K = some r) (hK : Cont P ρ S₀ Γ β B a w o K r G) : G := by
  simp only [AOp.step] at h
  have hv := hrel.opd hx
  have hw := hrel.opd hy
  cases he : x'.ev fr with
  | ptr R p =>
    rw [he] at h hv
    simp only at h
    split at h
    · rename_i c hR
      split at h
      · rename_i hst
        obtain ⟨hst, hn⟩ := hst
        rw [Cn.setK_eq] at h
        obtain ⟨c2, hset, hr⟩ := Option.bind_eq_some_iff.1 h
        obtain ⟨hv1, hne⟩ := hw.v1 hst
        obtain ⟨cx, hcx, hdx⟩ := hv1.cells hne
        obtain ⟨b, off, e, hgo⟩ := VD_ptr hv
        have hsome : (Γ R).isSome = true := by simp [hR]
        obtain ⟨b', off', cur, el, hgo', hB, hb, hle, hok⟩ := root_write (hrel.roots R c hR) hset hdx hn (fun b hb hS => hS.2 R hsome hb)
        rw [hgo] at hgo'
        cases hgo'
        have hsize : cx.length = size := by rw [hdx.length]; simp [hn]
        have hrun := run_storeCells_at P b off el cx 0 cur w hb (by omega) hdx.oneCell
        have hchg : ∀ b', b' ∉ B R → (w.setRow b (patch cur off cx)).heap[b']? = w.heap[b']? := fun b' hb' => setRow_other w b b' _ (fun e => hb' (by rw [hB, e]; simp))
        refine hK.chg R c2 (w.setRow b (patch cur off cx)) hr ?_ hsome rfl rfl rfl (by simp) hchg hok
        simp only [Nat.add_zero] at hrun
        have hz := run_sizeOf' (w := w) hsz
        simp only [execOp, ho, e, Instr.storeAt, Instr.sureAddr, Sem.run_bind, Sem.run_pure, Result.andThen_ok, storeVar, hcx]
        rw [hz]
        simp only [Result.andThen_ok, List.size_toArray, hsize, ne_eq, not_true, if_false]
        rw [hrun]
        rfl
      · cases h
    · cases h
  | _ => rw [he] at h; cases h
end
end Go.Proofs.YticokpflinlgbaaGreat.Am
