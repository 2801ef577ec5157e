import Derived.Test.YticokpflinlgbaaGreatAmL
/-
  Data as they are seen now ('snap'), and what is made of them: calls' arguments, what is appended.
-/
namespace Go.Proofs.YticokpflinlgbaaGreat.Am
open Go Go.RowKit

section
variable {ρ : Nat → FuncId} {base : Nat → Prop} {N : Nat} {fr : Frm} {S₀ : Nat → Prop} {Γ : Hp} {β β' : Nat → Pl} {B : Nat → List Nat} {a : Act} {w w' : World} {S S' : Nat → Prop}

theorem snap_list {n : Nat} (ih : ∀ d cs u, DCs ρ w (Stands S₀ w Γ B) β [d] cs → snap Γ n d = some u → URs ρ w S' [u] cs) :
    ∀ ds cs us, DCs ρ w (Stands S₀ w Γ B) β ds cs → snaps (snap Γ n) ds = some us → URs ρ w S' us cs
  | [], cs, us, h, hs => by
    simp only [snaps, snap.snaps, Option.some.injEq] at hs
    subst hs
    cases h
    exact .nil
  | d :: ds, cs, us, h, hs => by
    simp only [snaps, snap.snaps, Option.bind_eq_some_iff, Option.map_eq_some_iff] at hs
    obtain ⟨u, hu, us', hus, rfl⟩ := hs
    obtain ⟨c1, c2, rfl, _, h1, h2⟩ := h.cons_inv
    exact (ih d c1 u h1 hu).append (snap_list ih ds c2 us' h2 hus)

theorem snap_caps {n : Nat} (ih : ∀ d u, snap Γ n d = some u → d.isCap = true → u.isVp = true) : ∀ ds us, snaps (snap Γ n) ds = some us → (∀ d ∈ ds, d.isCap = true) → ∀ u ∈ us, u.isVp = true
  | [], us, hs, _ => by
    simp only [snaps, snap.snaps, Option.some.injEq] at hs
    subst hs
    simp
  | d :: ds, us, hs, h => by
    simp only [snaps, snap.snaps, Option.bind_eq_some_iff, Option.map_eq_some_iff] at hs
    obtain ⟨u, hu, us', hus, rfl⟩ := hs
    intro v hv
    rcases List.mem_cons.1 hv with rfl | hv
    · exact ih d v hu (h d (by simp))
    · exact snap_caps ih ds us' hus (fun d hd => h d (by simp [hd])) v hv

theorem snap_size : ∀ (n : Nat) d u, snap Γ n d = some u → u.size = d.size
  | n, .val u, u', h => by
    cases n <;> (simp only [snap, Option.some.injEq] at h; subst h; rfl)
  | 0, .agg ds, u', h => by cases h
  | n + 1, .agg ds, u', h => by
    simp only [snap, Option.map_eq_some_iff] at h
    obtain ⟨us, hs, rfl⟩ := h
    have key : ∀ ds us, snaps (snap Γ n) ds = some us → sizes us = dsizes ds := by
      intro ds
      induction ds with
      | nil => intro us hs; simp only [snaps, snap.snaps, Option.some.injEq] at hs; subst hs; rfl
      | cons d ds ih =>
        intro us hs
        simp only [snaps, snap.snaps, Option.bind_eq_some_iff, Option.map_eq_some_iff] at hs
        obtain ⟨u, hu, us', hus, rfl⟩ := hs
        simp [snap_size n d u hu, ih us' hus]
    exact key ds us hs
  | 0, .tup ds, u', h => by cases h
  | 0, .ref R k part, u', h => by cases h
  | 0, .ptr R p, u', h => by cases h
  | 0, .fnv q caps, u', h => by cases h
  | 0, .skip, u', h => by cases h
  | 0, .undef, u', h => by cases h
  | n + 1, .tup ds, u', h => by cases h
  | n + 1, .skip, u', h => by cases h
  | n + 1, .undef, u', h => by cases h
  | n + 1, .fnv q caps, u', h => by
    simp only [snap, Option.map_eq_some_iff] at h
    obtain ⟨us, hs, rfl⟩ := h
    rfl
  | n + 1, .ptr R p, u', h => by
    simp only [snap] at h
    split at h
    · simp only [Option.bind_eq_some_iff, Option.map_eq_some_iff] at h
      obtain ⟨d, hd, u, hu, rfl⟩ := h
      rfl
    · cases h
  | n + 1, .ref R k none, u', h => by
    simp only [snap] at h
    split at h
    · split at h
      · cases h; rfl
      · cases h
    · cases h
  | n + 1, .ref R k (some (off, len)), u', h => by
    simp only [snap] at h
    split at h
    · split at h
      · cases h; rfl
      · cases h
    · cases h

theorem snap_cap {n : Nat} {d : D} {u : U} (h : snap Γ n d = some u) (hd : d.isCap = true) : u.isVp = true := by
  cases d with
  | val u' =>
    have : snap Γ n (.val u') = some u' := by cases n <;> rfl
    rw [this] at h
    cases h
    cases u <;> first | rfl | cases hd
  | ptr R p =>
    cases n with
    | zero => cases h
    | succ n =>
      simp only [snap] at h
      split at h
      · simp only [Option.bind_eq_some_iff, Option.map_eq_some_iff] at h
        obtain ⟨d, _, u, _, rfl⟩ := h
        rfl
      · cases h
  | undef => cases n <;> cases h
  | _ => cases hd

/-- Cells of the machine's values, read as data. -/
theorem snap_sound (hroots : ∀ R c, Γ R = some c → RootOK ρ w (Stands S₀ w Γ B) β c (β R) (B R)) (hin : ∀ R, (Γ R).isSome = true → ∀ b ∈ B R, S' b) (hst : ∀ b, Stands S₀ w Γ B b → S' b) :
    ∀ (n : Nat) d cs u, DCs ρ w (Stands S₀ w Γ B) β [d] cs → snap Γ n d = some u → URs ρ w S' [u] cs
  | n, .val u, cs, u', h, hs => by
    have : snap Γ n (.val u) = some u := by cases n <;> rfl
    rw [this] at hs
    cases hs
    exact h.val_inv.mono hst (fun _ _ _ _ h => h)
  | 0, .agg ds, cs, u', h, hs => by cases hs
  | n + 1, .agg ds, cs, u', h, hs => by
    simp only [snap, Option.map_eq_some_iff] at hs
    obtain ⟨us, hs, rfl⟩ := hs
    exact URs.of_agg (snap_list (snap_sound hroots hin hst n) ds cs us h.agg_inv hs)
  | 0, .tup ds, cs, u', h, hs => by cases hs
  | 0, .ref R k part, cs, u', h, hs => by cases hs
  | 0, .ptr R p, cs, u', h, hs => by cases hs
  | 0, .fnv q caps, cs, u', h, hs => by cases hs
  | 0, .skip, cs, u', h, hs => by cases hs
  | 0, .undef, cs, u', h, hs => by cases hs
  | n + 1, .tup ds, cs, u', h, hs => by cases hs
  | n + 1, .skip, cs, u', h, hs => by cases hs
  | n + 1, .undef, cs, u', h, hs => by cases hs
  | n + 1, .fnv q caps, cs, u', h, hs => by
    simp only [snap, Option.map_eq_some_iff] at hs
    obtain ⟨us, hs, rfl⟩ := hs
    cases h with
    | fnv r h1 hv h =>
      cases h
      refine .fn q (snap_list (snap_sound hroots hin hst n) caps _ us h1 hs) (snap_caps (fun d u hu hd => snap_cap hu hd) caps us hs hv) .nil
  | n + 1, .ptr R p, cs, u', h, hs => by
    simp only [snap] at hs
    split at hs
    · rename_i c hR
      simp only [Option.bind_eq_some_iff, Option.map_eq_some_iff] at hs
      obtain ⟨d, hd, u, hu, rfl⟩ := hs
      cases h with
      | ptr R p b o hp h =>
        cases h
        obtain ⟨b', off', c', hgo, hb, hr, hd', _⟩ := root_read (hroots R c hR) hd
        rw [hp] at hgo
        cases hgo
        exact .vp b o (hin R (by simp [hR]) b hb) hr (snap_sound hroots hin hst n d c' u hd' hu) .nil
    · cases hs
  | n + 1, .ref R k none, cs, u', h, hs => by
    simp only [snap] at hs
    split at hs
    · rename_i k' us hR
      split at hs
      · rename_i hk
        subst hk
        cases hs
        cases h with
        | ref R k part v v0 hv hsub h =>
          cases h
          obtain ⟨rfl, _⟩ := hsub
          rcases hroots R _ hR with ⟨rfl, hq, _⟩ | ⟨b, cap, cur, e, c1, hq, hB, hb, h1, h2, h3, h4, h5, h6⟩
          · rw [hv] at hq; injection hq with hq; subst hq
            exact .sl0 _ _ _ .nil
          · rw [hv] at hq; injection hq with hq; subst hq
            by_cases hne : us = []
            · subst hne; exact .sl0 _ _ _ .nil
            · refine .sl1 _ b 0 cap hne (hin R (by simp [hR]) b (by simp [hB])) h2 h3 h4 (rangeAt_of_row hb fun j v hv => ?_) (h6.mono hst (fun _ _ _ _ h => h)) .nil
              rw [← h5, List.getElem?_take] at hv
              split at hv
              · simpa using hv
              · cases hv
      · cases hs
    · cases hs
  | n + 1, .ref R k (some (off, len)), cs, u', h, hs => by
    simp only [snap] at hs
    split at hs
    · rename_i k' us hR
      split at hs
      · rename_i hc
        obtain ⟨rfl, hle⟩ := hc
        cases hs
        cases h with
        | ref R k part v v0 hv hsub h =>
          cases h
          obtain ⟨ad, l, c, ad', rfl, rfl, h7, h8, h9, h10⟩ := hsub
          have hlen : ((us.drop off).take len).length = len := by rw [List.length_take, List.length_drop]; omega
          by_cases hne : (us.drop off).take len = []
          · rw [hne] at hlen ⊢
            rw [← hlen]
            exact .sl0 _ _ _ .nil
          · have hpos := List.length_pos_iff.2 hne
            rcases hroots R _ hR with ⟨rfl, hq, _⟩ | ⟨b, cap, cur, e, c1, hq, hB, hb, h1, h2, h3, h4, h5, h6⟩
            · simp at hne
            · rw [hv] at hq; injection hq with hq; injection hq with hq1 hq2 hq3
              subst hq1
              have had : ad' = some ⟨b, 0 + off * k', none⟩ := by
                rcases h10 with h10 | h10
                · omega
                · rw [h10]; simp [Addr.add_mid]
              subst had
              obtain ⟨c2, hc2, hat⟩ := h6.mid h4 (l := off) (h := off + len) (by omega) (by omega)
              have e1 : (us.take (off + len)).drop off = (us.drop off).take len := by rw [List.drop_take]; congr 1; omega
              rw [e1] at hc2
              conv => rw [← hlen]
              have hsl := URs.sl1 (ρ := ρ) (w := w) (S := S') (us := []) (cs := []) (c1 := c2) k' b (0 + off * k') (c - off) hne (hin R (by simp [hR]) b (by simp [hB])) (by omega) (by omega)
                (fun u hu => h4 u (List.mem_of_mem_drop (List.mem_of_mem_take hu))) (rangeAt_of_row hb fun j v hv => ?_) (hc2.mono hst (fun _ _ _ _ h => h)) .nil
              · simpa [hlen] using hsl
              · have h11 := hat j v hv
                rw [← h5, List.getElem?_take] at h11
                split at h11
                · simpa using h11
                · cases h11
      · cases hs
    · cases hs
end
end Go.Proofs.YticokpflinlgbaaGreat.Am
