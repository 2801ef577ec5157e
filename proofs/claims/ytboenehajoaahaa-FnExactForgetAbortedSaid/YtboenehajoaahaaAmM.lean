import Derived.Test.YtboenehajoaahaaAmL
namespace Go.Proofs.Ytboenehajoaahaa.Am
open Go Go.RowKit
section
variable {ρ : Nat → FuncId} {base : Nat → Prop} {F : Fm} {fr : Frm} {S₀ : Nat → Prop} {Γ : Hp} {β β' : Nat → Lay} {B : Nat → List Nat} {a : Act} {w w' : World} {S S' : Nat → Prop}
theorem Qa9 {f : D → Option U} {d : D} {ds : List D} {us : List U} (h : snaps f (d :: ds) = some us) : ∃ u us', f d = some u ∧ snaps f ds = some us' ∧ us = u :: us' := by
  simp only [snaps, snap.snaps, Option.bind_eq_some_iff, Option.map_eq_some_iff] at h
  obtain ⟨u, hu, us', hus, rfl⟩ := h
  exact ⟨u, us', hu, hus, rfl⟩
theorem Qb1 {f : D → Option U} {us : List U} (h : snaps f [] = some us) : us = [] := by
  simp only [snaps, snap.snaps, Option.some.injEq] at h
  exact h.symm
theorem Qoo {f : D → Option U} : ∀ {ds : List D} {us : List U}, snaps f ds = some us → us.length = ds.length
  | [], us, h => by rw [Qb1 h]; rfl
  | d :: ds, us, h => by
    obtain ⟨u, us', _, h2, rfl⟩ := Qa9 h
    simp [Qoo h2]
theorem Qb0 (n : Nat) (u : U) : snap Γ n (.val u) = some u := by cases n <;> rfl
theorem Qdc (n : Nat) (u : U) : snap Γ n (.own u) = some u := by cases n <;> rfl
theorem Qdb (n k : Nat) (us : List U) : snap Γ n (.asl k us) = some (.sl k us) := by cases n <;> rfl
theorem Qa4 {α : Type} {k : Nat} {d : D} {K : Option α} {r : α} (h : d.isSl k K = some r) : K = some r ∧ ∃ ds, d.ex = .osl k ds := by
  cases d with
  | own u =>
    cases u with
    | sl k' us =>
      simp only [D.isSl, U.asSlK] at h
      split at h
      · rename_i e; subst e; exact ⟨h, _, rfl⟩
      · cases h
    | _ => cases h
  | asl k' us =>
    simp only [D.isSl] at h
    split at h
    · rename_i e; subst e; exact ⟨h, _, rfl⟩
    · cases h
  | osl k' ds =>
    simp only [D.isSl] at h
    split at h
    · rename_i e; subst e; exact ⟨h, _, rfl⟩
    · cases h
  | _ => cases h
theorem Qhf : ∀ (n : Nat) (d : D) (u : U), snap Γ n d = some u → u.size = d.size
  | n, .val u, u', h => by rw [Qb0] at h; cases h; rfl
  | n, .own u, u', h => by rw [Qdc] at h; cases h; rfl
  | n, .asl k us, u', h => by rw [Qdb] at h; cases h; rfl
  | 0, .agg ds, u', h => by cases h
  | n + 1, .agg ds, u', h => by
    simp only [snap, Option.map_eq_some_iff] at h
    obtain ⟨us, hs, rfl⟩ := h
    have key : ∀ ds us, snaps (snap Γ n) ds = some us → sizes us = dsizes ds := by
      intro ds
      induction ds with
      | nil => intro us hs; rw [Qb1 hs]; rfl
      | cons d ds ih =>
        intro us hs
        obtain ⟨u, us', hu, hus, rfl⟩ := Qa9 hs
        simp [Qhf n d u hu, ih us' hus]
    exact key ds us hs
  | 0, .osl k ds, u', h => by cases h
  | n + 1, .osl k ds, u', h => by
    simp only [snap, Option.map_eq_some_iff] at h
    obtain ⟨us, hs, rfl⟩ := h
    rfl
  | 0, .tup ds, u', h => by cases h
  | 0, .ref R p k part, u', h => by cases h
  | 0, .ptr R p, u', h => by cases h
  | 0, .fnv q caps, u', h => by cases h
  | 0, .skip, u', h => by cases h
  | 0, .undef, u', h => by cases h
  | 0, .junk m, u', h => by cases h
  | n + 1, .tup ds, u', h => by cases h
  | n + 1, .skip, u', h => by cases h
  | n + 1, .undef, u', h => by cases h
  | n + 1, .junk m, u', h => by cases h
  | n + 1, .fnv q caps, u', h => by
    simp only [snap, Option.map_eq_some_iff] at h
    obtain ⟨us, hs, rfl⟩ := h
    rfl
  | n + 1, .ptr R p, u', h => by
    simp only [snap, at_eq, Option.bind_eq_some_iff, Option.map_eq_some_iff] at h
    obtain ⟨d, hd, u, hu, rfl⟩ := h
    rfl
  | n + 1, .ref R p k none, u', h => by
    simp only [snap, at_eq, Option.bind_eq_some_iff] at h
    obtain ⟨d, hd, h⟩ := h
    obtain ⟨h1, ds, h2⟩ := Qa4 h
    rw [Qhf n d u' h1, Qe8 h2]
    rfl
  | n + 1, .ref R p k (some (off, len)), u', h => by
    simp only [snap, at_eq, Option.bind_eq_some_iff] at h
    obtain ⟨d, hd, h⟩ := h
    obtain ⟨h1, ds, h2⟩ := Qa4 h
    obtain ⟨u, h3, h4⟩ := Option.bind_eq_some_iff.1 h1
    cases u with
    | sl k us =>
      simp only at h4
      split at h4
      · cases h4; rfl
      · cases h4
    | _ => cases h4
theorem Qyi {n : Nat} {d : D} {u : U} (h : snap Γ n d = some u) (hd : d.isCap = true) : u.isVp = true := by
  cases d with
  | val u' =>
    rw [Qb0] at h
    cases h
    cases u <;> first | rfl | cases hd
  | ptr R p =>
    cases n with
    | zero => cases h
    | succ n =>
      simp only [snap, at_eq, Option.bind_eq_some_iff, Option.map_eq_some_iff] at h
      obtain ⟨d, _, u, _, rfl⟩ := h
      rfl
  | undef => cases n <;> cases h
  | _ => cases hd
theorem Qhe {n : Nat} : ∀ ds us, snaps (snap Γ n) ds = some us → (∀ d ∈ ds, d.isCap = true) → ∀ u ∈ us, u.isVp = true
  | [], us, hs, _ => by rw [Qb1 hs]; simp
  | d :: ds, us, hs, h => by
    obtain ⟨u, us', hu, hus, rfl⟩ := Qa9 hs
    intro v hv
    rcases List.mem_cons.1 hv with rfl | hv
    · exact Qyi hu (h d (by simp))
    · exact Qhe ds us' hus (fun d hd => h d (by simp [hd])) v hv
theorem Qe9 {n : Nat} {SS : Nat → Prop} (ih : ∀ d cs u, DCs ρ w SS β [d] cs → snap Γ n d = some u → URs ρ w S' [u] cs) :
    ∀ ds cs us, DCs ρ w SS β ds cs → snaps (snap Γ n) ds = some us → URs ρ w S' us cs
  | [], cs, us, h, hs => by
    rw [Qb1 hs]
    cases h
    exact .nil
  | d :: ds, cs, us, h, hs => by
    obtain ⟨u, us', hu, hus, rfl⟩ := Qa9 hs
    obtain ⟨c1, c2, rfl, _, h1, h2⟩ := h.cons_inv
    exact (ih d c1 u h1 hu).append (Qe9 ih ds c2 us' h2 hus)
theorem Qom {n : Nat} {SS : Nat → Prop} (ih : ∀ d h cs Bc u, TCs ρ w SS β [(h, d.ex)] cs Bc → (∀ b ∈ Bc, S' b) → snap Γ n d = some u → URs ρ w S' [u] cs) :
    ∀ ds h j off cs Bc us, TCs ρ w SS β (flds h j off (D.ex.exs ds)) cs Bc → (∀ b ∈ Bc, S' b) → snaps (snap Γ n) ds = some us → URs ρ w S' us cs
  | [], h, j, off, cs, Bc, us, t, _, hs => by
    rw [Qb1 hs]
    cases t
    exact .nil
  | d :: ds, h, j, off, cs, Bc, us, t, hB, hs => by
    obtain ⟨u, us', hu, hus, rfl⟩ := Qa9 hs
    simp only [D.ex.exs, flds] at t
    obtain ⟨c1, c2, B1, B2, rfl, rfl, _, t1, t2⟩ := t.cons_inv
    exact (ih d _ c1 B1 u t1 (fun b hb => hB b (by simp [hb])) hu).append (Qom ih ds h _ _ c2 B2 us' t2 (fun b hb => hB b (by simp [hb])) hus)
theorem Qol {n : Nat} {SS : Nat → Prop} (ih : ∀ d h cs Bc u, TCs ρ w SS β [(h, d.ex)] cs Bc → (∀ b ∈ Bc, S' b) → snap Γ n d = some u → URs ρ w S' [u] cs) :
    ∀ ds h k i cs Bc us, TCs ρ w SS β (elts h k i (D.ex.exs ds)) cs Bc → (∀ b ∈ Bc, S' b) → snaps (snap Γ n) ds = some us → URs ρ w S' us cs
  | [], h, k, i, cs, Bc, us, t, _, hs => by
    rw [Qb1 hs]
    cases t
    exact .nil
  | d :: ds, h, k, i, cs, Bc, us, t, hB, hs => by
    obtain ⟨u, us', hu, hus, rfl⟩ := Qa9 hs
    simp only [D.ex.exs, elts] at t
    obtain ⟨c1, c2, B1, B2, rfl, rfl, _, t1, t2⟩ := t.cons_inv
    exact (ih d _ c1 B1 u t1 (fun b hb => hB b (by simp [hb])) hu).append (Qol ih ds h k _ c2 B2 us' t2 (fun b hb => hB b (by simp [hb])) hus)
theorem Qop {f : D → Option U} : ∀ {ds : List D} {us : List U}, snaps f ds = some us → ∀ u ∈ us, ∃ d ∈ ds, f d = some u
  | [], us, h, u, hu => by rw [Qb1 h] at hu; cases hu
  | d :: ds, us, h, u, hu => by
    obtain ⟨u0, us', h1, h2, rfl⟩ := Qa9 h
    rcases List.mem_cons.1 hu with rfl | hu
    · exact ⟨d, by simp, h1⟩
    · obtain ⟨d', hd', h3⟩ := Qop h2 u hu
      exact ⟨d', by simp [hd'], h3⟩
theorem Qej {h : Hdr} {k : Nat} : ∀ {us : List U} {cs : List Value} {Bc : List Nat} {i : Nat}, TCs ρ w S β (elts h k i (us.map .val)) cs Bc → URs ρ w S us cs ∧ Bc = []
  | [], cs, Bc, i, t => by cases t; exact ⟨.nil, rfl⟩
  | u :: us, cs, Bc, i, t => by
    obtain ⟨c1, c2, B1, B2, rfl, rfl, _, h1, h2⟩ := TCs.cons_inv t
    obtain ⟨h3, rfl⟩ := h1.val_inv
    obtain ⟨h4, rfl⟩ := Qej h2
    exact ⟨h3.append h4, rfl⟩
theorem Qaao {k k' off len : Nat} {us : List U} {v0 v : Value} (h : URs ρ w S [.sl k' us] [v0]) (hs : subSlice k' (some (off, len)) v0 v) (hle : off + len ≤ us.length) : URs ρ w S [.sl k' ((us.drop off).take len)] [v] := by
  obtain ⟨ad, l, c, ad', rfl, rfl, h7, h8, h9, h10⟩ := hs
  have hlen : ((us.drop off).take len).length = len := by rw [List.length_take, List.length_drop]; omega
  by_cases hne : (us.drop off).take len = []
  · rw [hne] at hlen ⊢
    rw [← hlen]
    exact .sl0 _ _ _ .nil
  · have hpos := List.length_pos_iff.2 hne
    cases h with
    | sl0 k a cap h => simp at hne
    | sl1 k b o cap hne2 hb hcap hmax hk hc h1 h =>
      have had : ad' = some ⟨b, o + off * k', none⟩ := by
        rcases h10 with h10 | h10
        · omega
        · rw [h10]; simp [Addr.add_mid]
      subst had
      obtain ⟨c2, hc2, hat⟩ := h1.mid hk (l := off) (h := off + len) (by omega) (by omega)
      have e1 : (us.take (off + len)).drop off = (us.drop off).take len := by rw [List.drop_take]; congr 1; omega
      rw [e1] at hc2
      have hsl := URs.sl1 (ρ := ρ) (w := w) (S := S) (us := []) (cs := []) (c1 := c2) k' b (o + off * k') (c - off) hne hb (by omega) (by omega)
        (fun u hu => hk u (List.mem_of_mem_drop (List.mem_of_mem_take hu))) (fun j v hv => by rw [Nat.add_assoc]; exact hc _ _ (hat j v hv)) hc2 .nil
      simpa [hlen] using hsl
theorem Qon {SS : Nat → Prop} (hroots : ∀ R c, Γ R = some c → (β R).live → RootOK ρ w SS β c (β R) (B R)) (hin : ∀ R, (Γ R).isSome = true → ∀ b ∈ B R, S' b) (hst : ∀ b, SS b → S' b) :
    ∀ (n : Nat), (∀ d cs u, DCs ρ w SS β [d] cs → snap Γ n d = some u → URs ρ w S' [u] cs) ∧ (∀ d h cs Bc u, TCs ρ w SS β [(h, d.ex)] cs Bc → (∀ b ∈ Bc, S' b) → snap Γ n d = some u → URs ρ w S' [u] cs) := by
  have valS : ∀ u cs, DCs ρ w SS β [.val u] cs → URs ρ w S' [u] cs := fun u cs h => h.val_inv.mono hst (fun _ _ _ _ h => h)
  have noS : ∀ (d : D) (cs : List Value), (∃ u, d = .own u) ∨ (∃ k us, d = .asl k us) ∨ (∃ k ds, d = .osl k ds) ∨ (∃ n, d = .junk n) ∨ (∃ ds, d = .tup ds) → ¬ DCs ρ w SS β [d] cs := fun d cs h t => by
    rcases h with ⟨u, rfl⟩ | ⟨k, us, rfl⟩ | ⟨k, ds, rfl⟩ | ⟨n, rfl⟩ | ⟨ds, rfl⟩ <;> cases t
  have valT : ∀ u h cs Bc, TCs ρ w SS β [(h, (D.val u).ex)] cs Bc → URs ρ w S' [u] cs := fun u h cs Bc t => t.val_inv.1.mono hst (fun _ _ _ _ h => h)
  have aslT : ∀ k us h cs Bc, TCs ρ w SS β [(h, (D.asl k us).ex)] cs Bc → (∀ b ∈ Bc, S' b) → URs ρ w S' [.sl k us] cs := fun k us h cs Bc t hB => by
    simp only [D.ex] at t
    have hk : ∀ d ∈ us.map D.val, d.size = k := by
      cases us with
      | nil => simp
      | cons u us => cases t with
        | osl hh hb hsz hle hmax hks ht h1 t => exact hks
    refine Qgp t (by simp) (fun u hu => hk (.val u) (List.mem_map_of_mem hu)) hB fun c1 B1 t1 _ => (Qej t1).1.mono hst (fun _ _ _ _ h => h)
  have ptrS : ∀ n, (∀ d h cs Bc u, TCs ρ w SS β [(h, d.ex)] cs Bc → (∀ b ∈ Bc, S' b) → snap Γ n d = some u → URs ρ w S' [u] cs) → ∀ R p b o u, (β R).go p = some (.adr b o) → snap Γ (n + 1) (.ptr R p) = some u → URs ρ w S' [u] [.pointer (some ⟨b, o, none⟩)] := by
    intro n ih R p b o u hp hs
    simp only [snap, at_eq, Option.bind_eq_some_iff, Option.map_eq_some_iff] at hs
    obtain ⟨d, hd, u, hu, rfl⟩ := hs
    obtain ⟨c, d0, hc, hdd, hg⟩ := Qat hd
    obtain ⟨cs, Bo, Bc, mk, hpart⟩ := (hroots R c hc (Lay.live_of_go hp)).part hdd hg
    have hR : (Γ R).isSome = true := by rw [hc]; rfl
    have hb : b ∈ Bo := by
      rcases hpart.spot with ⟨b', off', cur, e, g1, g2, _⟩ | ⟨g1, _⟩
      · rw [hp] at g1; cases g1; exact g2
      · rw [hp] at g1; cases g1
    exact .vp b o (hin R hR b ((hpart.mem b).2 (.inl hb))) (by
      rcases hpart.spot with ⟨b', off', cur, e, g1, g2, g3, g4, _⟩ | ⟨g1, _⟩
      · rw [hp] at g1; cases g1; exact Qch g3 g4
      · rw [hp] at g1; cases g1) (ih d _ cs Bc u hpart.cells (fun x hx => hin R hR x ((hpart.mem x).2 (.inr hx))) hu) .nil
  have refS : ∀ n, (∀ d h cs Bc u, TCs ρ w SS β [(h, d.ex)] cs Bc → (∀ b ∈ Bc, S' b) → snap Γ n d = some u → URs ρ w S' [u] cs) → ∀ R p k part v v0 u, (β R).hdr p = some v0 → subSlice k part v0 v → snap Γ (n + 1) (.ref R p k part) = some u → URs ρ w S' [u] [v] := by
    intro n ih R p k part v v0 u hv hsub hs
    have whole : ∀ d u, Γ.atO R p = some d → snap Γ n d = some u → (∃ ds, d.ex = .osl k ds) → URs ρ w S' [u] [v0] := fun d u hd hu ⟨ds, hex⟩ => by
      obtain ⟨c, d0, hc, hdd, hg⟩ := Qat hd
      have hl := Lay.live_of_hdr hv
      obtain ⟨cs, Bo, Bc, mk, hpart⟩ := (hroots R c hc hl).part hdd hg
      have hR : (Γ R).isSome = true := by rw [hc]; rfl
      have h1 := ih d _ cs Bc u hpart.cells (fun x hx => hin R hR x ((hpart.mem x).2 (.inr hx))) hu
      have hcs : cs = [v0] := by
        have t := hpart.cells
        rw [hex] at t
        rw [Lay.hdr_live hl] at hv
        cases t with
        | osl0 hh t => cases t; simp only [Hdr.sub, List.append_nil] at hh; rw [hv] at hh; cases hh; rfl
        | osl hh _ _ _ _ _ _ _ t => cases t; simp only [Hdr.sub, List.append_nil] at hh; rw [hv] at hh; cases hh; rfl
      rw [hcs] at h1
      exact h1
    cases part with
    | none =>
      simp only [snap, at_eq, Option.bind_eq_some_iff] at hs
      obtain ⟨d, hd, h⟩ := hs
      obtain ⟨h1, h2⟩ := Qa4 h
      obtain ⟨rfl, _⟩ := hsub
      exact whole d u hd h1 h2
    | some x =>
      obtain ⟨off, len⟩ := x
      simp only [snap, at_eq, Option.bind_eq_some_iff] at hs
      obtain ⟨d, hd, h⟩ := hs
      obtain ⟨h1, ds, h2⟩ := Qa4 h
      obtain ⟨u2, h3, h4⟩ := Option.bind_eq_some_iff.1 h1
      have h5 := whole d u2 hd h3 ⟨ds, h2⟩
      have hk2 : ∀ k2 us, u2 = .sl k2 us → us ≠ [] → k2 = k := by
        rintro k2 us rfl hne
        have : ∀ (d : D), d.ex = .osl k ds → snap Γ n d = some (.sl k2 us) → k2 = k := by
          intro d hex hs
          cases d with
          | own u => rw [Qdc] at hs; cases hs; simp only [D.ex, U.ex, D.osl.injEq] at hex; exact hex.1
          | asl k' us' => rw [Qdb] at hs; cases hs; simp only [D.ex, D.osl.injEq] at hex; exact hex.1
          | osl k' ds' =>
            cases n with
            | zero => cases hs
            | succ n =>
              simp only [snap, Option.map_eq_some_iff] at hs
              obtain ⟨_, _, e⟩ := hs
              cases e
              simp only [D.ex, D.osl.injEq] at hex
              exact hex.1
          | _ => simp [D.ex] at hex
        exact this d h2 h3
      cases u2 with
      | sl k2 us =>
        simp only at h4
        split at h4
        · rename_i hle
          cases h4
          by_cases hne : us = []
          · subst hne
            simp only [List.length_nil] at hle
            obtain ⟨ad, l, c, ad', rfl, rfl, h7, h8, h9, h10⟩ := hsub
            obtain rfl : len = 0 := by omega
            simp only [List.drop_nil, List.take_nil]
            exact .sl0 _ _ _ .nil
          · obtain rfl := hk2 k2 us rfl hne
            exact Qaao (k := 0) h5 hsub hle
        · cases h4
      | _ => cases h4
  intro n
  induction n with
  | zero =>
    refine ⟨fun d cs u h hs => ?_, fun d h cs Bc u t hB hs => ?_⟩
    · cases d with
      | val u' => rw [Qb0] at hs; cases hs; exact valS _ _ h
      | own u' => exact absurd h (noS _ _ (.inl ⟨_, rfl⟩))
      | asl k us => exact absurd h (noS _ _ (.inr (.inl ⟨_, _, rfl⟩)))
      | _ => cases hs
    · cases d with
      | val u' => rw [Qb0] at hs; cases hs; exact valT _ _ _ _ t
      | own u' => rw [Qdc] at hs; cases hs; exact Qew _ h cs Bc t hB
      | asl k us => rw [Qdb] at hs; cases hs; exact aslT _ _ _ _ _ t hB
      | _ => cases hs
  | succ n ih =>
    obtain ⟨ihS, ihT⟩ := ih
    refine ⟨fun d cs u h hs => ?_, fun d h cs Bc u t hB hs => ?_⟩
    · cases d with
      | val u' => rw [Qb0] at hs; cases hs; exact valS _ _ h
      | own u' => exact absurd h (noS _ _ (.inl ⟨_, rfl⟩))
      | asl k us => exact absurd h (noS _ _ (.inr (.inl ⟨_, _, rfl⟩)))
      | osl k ds => exact absurd h (noS _ _ (.inr (.inr (.inl ⟨_, _, rfl⟩))))
      | agg ds =>
        simp only [snap, Option.map_eq_some_iff] at hs
        obtain ⟨us, hs, rfl⟩ := hs
        exact URs.of_agg (Qe9 ihS ds cs us h.agg_inv hs)
      | fnv q caps =>
        simp only [snap, Option.map_eq_some_iff] at hs
        obtain ⟨us, hs, rfl⟩ := hs
        cases h with
        | fnv r h1 hv h =>
          cases h
          exact .fn q (Qe9 ihS caps _ us h1 hs) (Qhe caps us hs hv) .nil
      | ptr R p =>
        cases h with
        | ptr R p b o hp h => cases h; exact ptrS n ihT R p b o u hp hs
      | ref R p k part =>
        cases h with
        | ref R p k part v v0 hv hsub h => cases h; exact refS n ihT R p k part v v0 u hv hsub hs
      | _ => cases hs
    · cases d with
      | val u' => rw [Qb0] at hs; cases hs; exact valT _ _ _ _ t
      | own u' => rw [Qdc] at hs; cases hs; exact Qew _ h cs Bc t hB
      | asl k us => rw [Qdb] at hs; cases hs; exact aslT _ _ _ _ _ t hB
      | agg ds =>
        simp only [snap, Option.map_eq_some_iff] at hs
        obtain ⟨us, hs, rfl⟩ := hs
        simp only [D.ex] at t
        exact URs.of_agg (Qom ihT ds h 0 0 cs Bc us t.agg_inv hB hs)
      | osl k ds =>
        simp only [snap, Option.map_eq_some_iff] at hs
        obtain ⟨us, hs, rfl⟩ := hs
        simp only [D.ex] at t
        have hk : ∀ d ∈ D.ex.exs ds, d.size = k := by
          generalize D.ex.exs ds = es at t
          cases t with
          | osl0 hh t => simp
          | osl hh hb hsz hle hmax hks ht h1 t => exact hks
        refine Qgp t (by rw [Qoo hs, Qr, List.length_map]) (fun u hu => ?_) hB fun c1 B1 t1 hB1 => Qol ihT ds h k 0 c1 B1 us t1 hB1 hs
        obtain ⟨d, hd, h1⟩ := Qop hs u hu
        rw [Qhf n d u h1, ← Qz]
        exact hk _ (by rw [Qr]; exact List.mem_map_of_mem hd)
      | fnv q caps =>
        simp only [snap, Option.map_eq_some_iff] at hs
        obtain ⟨us, hs, rfl⟩ := hs
        cases t with
        | fnv h1 hv t =>
          cases t
          exact .fn q (Qe9 ihS caps _ us h1 hs) (Qhe caps us hs hv) .nil
      | ptr R p =>
        cases t with
        | ptr hp t => cases t; exact ptrS n ihT R p _ _ u hp hs
      | ref R p k part =>
        cases t with
        | ref hv hsub t => cases t; exact refS n ihT R p k part _ _ u hv hsub hs
      | _ => cases hs
end
end Go.Proofs.Ytboenehajoaahaa.Am
