import Derived.Test.YtboenehajoaahaaAmPa
namespace Go.Proofs.Ytboenehajoaahaa.Am
open Go Go.RowKit
section
variable {α : Type} {P : Program} {ρ : Nat → FuncId} {base : Nat → Prop} {F : Fm} {fr : Frm} {S₀ : Nat → Prop} {Γ : Hp} {β : Nat → Lay} {B : Nat → List Nat} {a : Act} {w w' : World} {E : Env}
  {K : Eff → Option α} {r : α} {G : Prop} {o : Oper}
theorem URs.takesK {S : Nat → Prop} {k : Nat} {us : List U} {cs : List Value} (h : URs ρ w S us cs) (hk : ∀ u ∈ us, u.size = k) (n : Nat) (hn : n ≤ us.length) : URs ρ w S (us.take n) (cs.take (n * k)) ∧ URs ρ w S (us.drop n) (cs.drop (n * k)) := by
  have e : us = us.take n ++ us.drop n := (List.take_append_drop n us).symm
  have h0 := h
  rw [e] at h0
  obtain ⟨c1, c2, rfl, hl, h1, h2⟩ := h0.split
  rw [Qc9 (k := k) fun u hu => hk u (List.mem_of_mem_take hu), List.length_take, Nat.min_eq_left hn] at hl
  rw [← hl, List.take_left', List.drop_left']
  · exact ⟨h1, h2⟩
  · rfl
  · rfl
theorem Qix {S S' : Nat → Prop} {h : Hdr} {k : Nat} : ∀ {us : List U} {cs : List Value} {Bc : List Nat} {i : Nat}, U.flat.flats us = true → TCs ρ w S β (elts h k i (U.ex.exs us)) cs Bc → URs ρ w' S' us cs ∧ Bc = []
  | [], cs, Bc, i, _, t => by cases t; exact ⟨.nil, rfl⟩
  | u :: us, cs, Bc, i, hf, t => by
    simp only [U.flat.flats, Bool.and_eq_true] at hf
    simp only [U.ex.exs, elts] at t
    obtain ⟨c1, c2, B1, B2, rfl, rfl, _, h1, h2⟩ := TCs.cons_inv t
    have hn : ∀ vs, u ≠ .tup vs := by rintro vs rfl; cases h1
    obtain ⟨g1, rfl⟩ := Qaa (w' := w') (S' := S') u _ c1 B1 hf.1 hn h1
    obtain ⟨g2, rfl⟩ := Qix (S' := S') hf.2 h2
    exact ⟨g1.append g2, rfl⟩
theorem Qvx {us : List U} (h : ∀ u ∈ us, u.flat = true) : U.flat.flats us = true := by
  induction us with
  | nil => rfl
  | cons u us ih => simp only [U.flat.flats, Bool.and_eq_true]; exact ⟨h u (by simp), ih fun v hv => h v (by simp [hv])⟩
theorem Qm0 {us : List U} (h : U.flat.flats us = true) : ∀ u ∈ us, u.flat = true := by
  induction us with
  | nil => simp
  | cons u us ih =>
    simp only [U.flat.flats, Bool.and_eq_true] at h
    intro v hv
    rcases List.mem_cons.1 hv with rfl | hv
    · exact h.1
    · exact ih h.2 v hv
theorem Qx3 (w : World) (T : TypeId) (ty : TypeId) (ad : Option Addr) (n c : Nat) (e : TypeId) (ht : P.underlying T = some (.slice e)) (h : n = 0) : (Builtin.clear_ #[T] ty #[.slice ad n c]).run P w = .ok (.tuple #[]) w := by
  subst h
  cases ad <;> simp [Builtin.clear_, run_underlying ht]
theorem Qx4 (w : World) (T e : TypeId) (ty : TypeId) (b off n c : Nat) (z : Value) (cur : Array Value) (t : TypeId) (ht : P.underlying T = some (.slice e)) (hz : tyZero P e = some z) (h : n ≠ 0) (hb : w.heap[b]? = some (.cells cur t (0, 0)))
    (hl : off + n * z.cells.size ≤ cur.size) (h1 : ∀ v ∈ z.cells.toList, v.oneCell' = true) : (Builtin.clear_ #[T] ty #[.slice (some ⟨b, off, none⟩) n c]).run P w = .ok (.tuple #[]) (w.setRow b (cur.toList.take off ++ (List.replicate n z.cells.toList).flatten ++ cur.toList.drop (off + n * z.cells.size)).toArray) := by
  obtain ⟨n, rfl⟩ : ∃ m, n = m + 1 := ⟨n - 1, by omega⟩
  have e1 : (Builtin.zeroCells z.cells (n + 1)).toList = (List.replicate (n + 1) z.cells.toList).flatten := Qgj z.cells (n + 1)
  have hlen : (List.replicate (n + 1) z.cells.toList).flatten.length = (n + 1) * z.cells.size := by simp
  have hst := run_storeCells_at P b off t (List.replicate (n + 1) z.cells.toList).flatten 0 cur w hb (by rw [hlen]; simpa using hl) (fun v hv => by
    obtain ⟨l, hl, hv⟩ := List.mem_flatten.1 hv
    rw [List.eq_of_mem_replicate hl] at hv
    exact h1 v hv)
  rw [hlen] at hst
  simp only [Nat.add_zero] at hst
  simp only [Builtin.clear_, run_underlying ht, Sem.run_bind, Sem.run_pure, Result.andThen_ok, Qg9 hz, e1, hst, List.getElem?_toArray, List.getElem?_cons_zero]
theorem Qy3 {x : Operand} {T e : TypeId} {k : Nat} {z : U} {x' : Opd} (hrel : Rel ρ S₀ base F fr Γ β B a w) (ho : o.op = .call { callee := .builtin .clear, args := #[x], argTypes := #[T] }) (he : P.underlying T = some (.slice e))
    (hz : ∃ zv, tyZero P e = some zv ∧ constOK zv z = true) (hx : opdOK ρ F.wd x x' = true)
    (h : (AOp.clear k z x').step E fr Γ K = some r) (hK : Cont P ρ S₀ base F fr Γ β B a w o K r G) : G := by
  obtain ⟨zv, hzv, hco⟩ := hz
  simp only [AOp.step] at h
  have hv := hrel.opd hx
  split at h
  rotate_left
  · cases h
  rename_i R k' off m hxe
  rw [hxe] at hv
  split at h
  rotate_left
  · cases h
  rename_i u hΓ
  cases u with
  | sl k2 us =>
    simp only [U.asSlK] at h
    split at h
    rotate_left
    · cases h
    rename_i hk2
    subst hk2
    split at h
    rotate_left
    · cases h
    rename_i hc
    obtain ⟨rfl, hzs, hk0, hzf, hfl, hle⟩ := hc
    obtain ⟨v0, hv0, hsub⟩ := Qaz hv
    have hl := Lay.live_of_hdr hv0
    rw [Lay.hdr_live hl] at hv0
    have hR : (Γ R).isSome = true := by rw [hΓ]; rfl
    obtain ⟨hnd, cs, hrt, t⟩ := hrel.roots R _ hΓ hl
    obtain ⟨ad, l, c, ad', e1, h2, h3, h4, h5, h10⟩ := hsub
    by_cases hm : m = 0
    · have hus : us.take off ++ List.replicate m z ++ us.drop (off + m) = us := by subst hm; simp
      rw [hus] at h
      have hΓ' : upd Γ R (some (.vir (.own (.sl k' us)))) = Γ := by
        funext R'
        by_cases e : R' = R
        · rw [e, Qd, hΓ]
        · rw [Qa _ _ e]
      rw [hΓ'] at h
      refine hK.val [] _ _ (.tuple #[]) w h ?_ ⟨Behind0.refl _ _, β, B, by simpa [Frm.retags] using hrel, ⟨[], rfl, rfl⟩, fun R' hlt hR' => ⟨hR', rfl, fun _ => rfl⟩⟩
      simp only [execOp, ho, resolve, Sem.run_bind, Sem.run_pure, Result.andThen_ok, invoke, builtin, List.map_toArray, List.map_cons, List.map_nil, h2]
      rw [Qx3 (P := P) w T _ ad' m (c - off) _ he hm]
      rfl
    · simp only [D.ex, U.ex] at t
      obtain ⟨b, cap, cur, e0, c1, hh, hb, hsz, hcap, hmax, ht, hks, hus, hBR, hcs⟩ : ∃ b cap cur e0 c1, (β R).h [] = some (.slice (some ⟨b, 0, none⟩) us.length cap) ∧ w.heap[b]? = some (.cells cur e0 (0, 0)) ∧ cur.size = cap * k' ∧ us.length ≤ cap ∧ cap ≤ maxLen ∧ cur.toList.take (us.length * k') = c1 ∧ (∀ u ∈ us, u.size = k') ∧ URs ρ w (Stands S₀ w Γ B) us c1 ∧ B R = [b] ∧ cs = [.slice (some ⟨b, 0, none⟩) us.length cap] := by
        have hlm : (U.ex.exs us).length = us.length := by rw [Qi, List.length_map]
        generalize hds : U.ex.exs us = ds at t hlm
        generalize hBs : B R = Bs at t
        cases t with
        | osl0 hh t =>
          have : us.length = 0 := hlm.symm
          omega
        | osl hh hb hsz hle' hmax hks ht h1 t =>
          rename_i b cap cur e0 c1 cs0 B1 B0
          cases t
          rw [hlm] at hh hle' ht
          subst hds
          obtain ⟨h6, rfl⟩ := Qix (S' := Stands S₀ w Γ B) (w' := w) hfl h1
          refine ⟨b, cap, cur, e0, c1, hh, hb, hsz, hle', hmax, ht, fun u hu => ?_, h6, by simp, by rw [hlm]⟩
          have := hks u.ex (by rw [Qi]; exact List.mem_map_of_mem hu)
          rwa [Qan] at this
      rw [hv0] at hh
      cases hh
      cases e1
      have had : ad' = some ⟨b, off * k', none⟩ := by
        rcases h10 with h10 | h10
        · exact absurd h10 hm
        · rw [h10]; simp [Addr.add_mid]
      obtain ⟨zc, hzc, hzu⟩ := (Qcw (ρ := ρ) (w := w) (S := Stands S₀ w Γ B) hco).cells
      have hzl : zc.length = k' := by rw [hzu.length]; simp [hzs]
      have hzsz : zv.cells.size = k' := by rw [hzc]; simp [hzl]
      have hlc : cur.toList.length = c * k' := by simpa using hsz
      have hmul : (off + m) * k' ≤ us.length * k' := Nat.mul_le_mul_right _ hle
      have hmul2 : us.length * k' ≤ c * k' := Nat.mul_le_mul_right _ hcap
      have hoff : off * k' + m * k' = (off + m) * k' := (Nat.add_mul ..).symm
      have hrun := Qx4 (P := P) w T e o.type b (off * k') m (c - off) zv cur e0 he hzv hm hb (by rw [hzsz, hsz]; omega) (by rw [hzc]; exact hzu.oneCell)
      rw [hzsz, hzc, hoff] at hrun
      have hbm : b ∈ B R := by rw [hBR]; simp
      have hfll : (List.replicate m zc).flatten.length = m * k' := by simp [hzl]
      have hul : (us.take off ++ List.replicate m z ++ us.drop (off + m)).length = us.length := by
        simp only [List.length_append, List.length_take, List.length_drop, List.length_replicate]; omega
      have hapart : ∀ b' ∈ B R, ∀ R', R' ≠ R → (Γ R').isSome = true → b' ∉ B R' := fun b' hb' R' hne hR' => hrel.apart R R' (Ne.symm hne) hR hR' b' hb'
      have hown : Owned Γ B b := ⟨R, hR, hbm⟩
      have hβ : upd β R (β R) = β := Qcq β R
      have hB : upd B R (B R) = B := Qcq B R
      have hks' : ∀ u ∈ us.take off ++ List.replicate m z ++ us.drop (off + m), u.size = k' := fun u hu => by
        simp only [List.mem_append] at hu
        rcases hu with (hu | hu) | hu
        · exact hks u (List.mem_of_mem_take hu)
        · rw [List.eq_of_mem_replicate hu]; exact hzs
        · exact hks u (List.mem_of_mem_drop hu)
      have hfl' : U.flat.flats (us.take off ++ List.replicate m z ++ us.drop (off + m)) = true := Qvx fun u hu => by
        simp only [List.mem_append] at hu
        rcases hu with (hu | hu) | hu
        · exact Qm0 hfl u (List.mem_of_mem_take hu)
        · rw [List.eq_of_mem_replicate hu]; exact hzf
        · exact Qm0 hfl u (List.mem_of_mem_drop hu)
      have hnew : URs ρ w (Stands S₀ w Γ B) (us.take off ++ List.replicate m z ++ us.drop (off + m)) (c1.take (off * k') ++ (List.replicate m zc).flatten ++ c1.drop ((off + m) * k')) :=
        ((hus.takesK hks off (by omega)).1.append (Qfm hzu m)).append (hus.takesK hks (off + m) hle).2
      have hrel' := hrel.setP (w' := w.setRow b (cur.toList.take (off * k') ++ (List.replicate m zc).flatten ++ cur.toList.drop ((off + m) * k')).toArray) (m := .id) hrel.parts R (.vir (.own (.sl k' (us.take off ++ List.replicate m z ++ us.drop (off + m))))) (β R) (B R) (fun b' => b' = b) (by rw [hβ]; exact TagOK.same fun _ _ => rfl) (by simp)
        (fun b' _ hn' => setRow_other w b b' _ hn') (fun b' e' => by subst e'; exact ⟨hown, fun R' hne hR' => hapart b' hbm R' hne hR'⟩) (fun b' hb' => .inl ⟨⟨R, hR, hb'⟩, fun R' hne hR' => hapart b' hb' R' hne hR'⟩) (fun S' hS' => ⟨hnd, cs, hrt, by
          simp only [D.ex, U.ex]
          rw [hBR, hcs]
          have hlx : (U.ex.exs (us.take off ++ List.replicate m z ++ us.drop (off + m))).length = us.length := by rw [Qi, List.length_map, hul]
          have hm' := TCs.osl (ρ := ρ) (w := w.setRow b (cur.toList.take (off * k') ++ (List.replicate m zc).flatten ++ cur.toList.drop ((off + m) * k')).toArray) (S := S') (β := upd β R (β R)) (h := (β R).h) (k := k') (ds := U.ex.exs (us.take off ++ List.replicate m z ++ us.drop (off + m))) (xs := []) (b := b) (cap := c) (e := e0) (cs := []) (B := [])
            (cur := (cur.toList.take (off * k') ++ (List.replicate m zc).flatten ++ cur.toList.drop ((off + m) * k')).toArray) (c1 := c1.take (off * k') ++ (List.replicate m zc).flatten ++ c1.drop ((off + m) * k')) (B1 := [])
            (by rw [hlx]; exact hv0) (setRow_heap w b cur _ e0 (0, 0) hb) (by
              simp only [List.size_toArray, List.length_append, List.length_take, List.length_drop, hlc, hfll]
              omega) (by rw [hlx]; exact hcap) hmax (fun d hd => by
              rw [Qi] at hd
              obtain ⟨u, hu, rfl⟩ := List.mem_map.1 hd
              rw [Qan]
              exact hks' u hu) (by
              rw [hlx, ← hoff, Qn7 hfll (by omega) (by rw [hlc]; exact hmul2), ht]) (Qex _ _ _ _ hfl' (Qds _ _ _ (hnew.flat_any hfl'))) .nil
          rw [hlx] at hm'
          simpa using hm'⟩)
      rw [Qeo, Qge, hβ, hB] at hrel'
      refine hK.val [] _ _ (.tuple #[]) _ h ?_ ⟨Qdm (hrel.inside R hR b hbm).1, β, B, hrel', ⟨[], rfl, rfl⟩, fun R' hlt hR' => ⟨?_, rfl, fun _ => rfl⟩⟩
      · simp only [execOp, ho, resolve, Sem.run_bind, Sem.run_pure, Result.andThen_ok, invoke, builtin, List.map_toArray, List.map_cons, List.map_nil, h2, had, hrun]
      · by_cases e' : R' = R
        · rw [e']; exact hR
        · rwa [Qa _ _ e'] at hR'
  | _ => cases h
def topH (v : Value) (h : Hdr) : Hdr
  | [] => some v
  | q => h q
theorem Qiz (v : Value) (h : Hdr) (k : Nat) : ∀ (ds : List D) (i : Nat), elts (topH v h) k i ds = elts h k i ds
  | [], _ => rfl
  | d :: ds, i => by
    simp only [elts, Qiz v h k ds (i + 1)]
    rfl
theorem Qzp {t : TypeId} {x hi : Operand} {nm k : Nat} {x' hi' : Opd} (hrel : Rel ρ S₀ base F fr Γ β B a w) (ho : o.op = .slice t x none (some hi) none)
    (ht : ∃ e, tyElem P t = some e ∧ tySize P e = some k) (hx : opdOK ρ F.wd x x' = true) (hh : opdOK ρ F.wd hi hi' = true)
    (h : (AOp.sliceO nm k x' hi').step E fr Γ K = some r) (hK : Cont P ρ S₀ base F fr Γ β B a w o K r G) : G := by
  obtain ⟨e, ht, hk⟩ := ht
  simp only [AOp.step, Qae] at h
  obtain ⟨n, hn, h⟩ := Qad (K := fun n => (takeElO Γ k (x'.ev fr)).bind fun x => if 0 ≤ n ∧ n ≤ x.1.length then mkVar x.2 nm (.vir (.own (.sl k (x.1.take n.toNat)))) (.ref nm [] k none) K else none) h
  have e1 := hrel.int hh hn
  obtain ⟨⟨us, Γ1⟩, htk, h2⟩ := Option.bind_eq_some_iff.1 h
  clear h
  split at h2
  rotate_left
  · cases h2
  rename_i hc
  obtain ⟨h0, h1⟩ := hc
  replace h1 : n ≤ (us.length : Int) := h1
  obtain ⟨hnm, hr⟩ := Qy h2
  have hvx := hrel.opd hx
  have hdx : DCs ρ w (Stands S₀ w Γ B) β [x'.ev fr] [a.eval x] := by
    cases hxe : x'.ev fr with
    | ref R p k' part => rw [hxe] at hvx; exact hvx.one
    | _ => rw [hxe] at htk; cases htk
  obtain ⟨hd0, B1, Bc, hp, t1⟩ := Qdf htk hdx hrel.parts
  rw [List.nil_append] at hp
  have hrun : ∀ ad len cap, a.eval x = .slice ad len cap → n ≤ (len : Int) → len ≤ cap → (execOp a.eval o).run P w = .ok (.value (.slice (if cap = 0 then ad else ad.map (·.add (0 * k))) n.toNat cap)) w := fun ad len cap e2 g1 g2 => by
    have := Qoa (P := P) ht hk ad len cap none (some n) (by simp) (by simpa using h0) (by simpa using g1) g2 w
    simp only [Option.getD_none, Option.getD_some, Int.toNat_zero, Nat.sub_zero, Option.map_some, Option.map_none] at this
    simp only [execOp, ho, e1, e2, Option.map_some, Option.map_none]
    exact run_v this
  have hlen : (U.ex.exs us).length = us.length := by rw [Qi, List.length_map]
  have hlt : (us.take n.toNat).length = n.toNat := by rw [List.length_take]; omega
  have hex : U.ex.exs us = U.ex.exs (us.take n.toNat) ++ U.ex.exs (us.drop n.toNat) := by
    rw [Qi, Qi, Qi, ← List.map_append, List.take_append_drop]
  generalize hds : U.ex.exs us = ds at t1 hlen
  generalize hev : a.eval x = v0 at t1 hrun
  cases t1 with
  | osl0 hh2 t =>
    rename_i ad
    cases t
    have hz : us.length = 0 := hlen.symm
    have hn0 : n = 0 := by omega
    subst hn0
    have hus : us = [] := List.length_eq_zero_iff.1 hz
    subst hus
    refine hK.val _ _ _ _ w hr (hrun ad 0 0 rfl (by simp) (by simp)) (After.made hrel hp hnm (.own (.sl k (([] : List U).take (0 : Int).toNat))) (h' := topH (.slice ad 0 0) hd0) (Bn := []) rfl rfl rfl (Nat.le_refl _) (fun _ _ _ => rfl) (fun b hb => by cases hb) List.nodup_nil (by simp [topH]) rfl fun S' β' _ _ _ => ?_)
    simp only [D.retag, D.ex, List.take_nil, U.ex, U.ex.exs]
    exact .osl0 (by simp [topH]) .nil
  | osl hh2 hb hsz hle hmax hks hct g1 t =>
    rename_i x0 b cap cur e0 c1 Be B0
    cases t
    subst hds
    rw [hlen] at hle
    rw [hex, Qfy] at g1
    obtain ⟨ca, cb, Ba, Bb, rfl, rfl, hla, ga, gb⟩ := TCs.split g1
    have hnd := hp.nodup
    rw [List.append_nil] at hnd
    have hsa : ca.length = n.toNat * k := by
      rw [ga.length]
      have : ∀ (ds : List D) (i : Nat), (∀ d ∈ ds, d.size = k) → xsizes (elts hd0 k i ds) = ds.length * k := by
        intro ds
        induction ds with
        | nil => intro i _; simp [elts, xsizes]
        | cons d ds ih =>
          intro i hd
          simp only [elts, xsizes, ih (i + 1) fun d' hd' => hd d' (by simp [hd']), hd d (by simp), List.length_cons, Nat.succ_mul, Nat.add_comm]
      rw [this _ _ fun d hd => hks d (by rw [hex]; exact List.mem_append_left _ hd), Qi, List.length_map, hlt]
    have hval : (if cap = 0 then some (⟨b, 0, none⟩ : Addr) else (some (⟨b, 0, none⟩ : Addr)).map (·.add (0 * k))) = some ⟨b, 0, none⟩ := by
      split
      · rfl
      · simp [Addr.add_mid]
    have hrun' := hrun (some ⟨b, 0, none⟩) (U.ex.exs us).length cap rfl (by rw [hlen]; exact h1) (by rw [hlen]; exact hle)
    rw [hval] at hrun'
    refine hK.val _ _ _ _ w hr hrun' (After.made hrel hp hnm (.own (.sl k (us.take n.toNat))) (h' := topH (.slice (some ⟨b, 0, none⟩) n.toNat cap) hd0) (Bn := b :: Ba) rfl rfl rfl (Nat.le_refl _) (fun _ _ _ => rfl) (fun b' hb' => .inl ?_) ?_ (by simp [topH]) rfl fun S' β' hS' _ htag => ?_)
    · rcases List.mem_cons.1 hb' with rfl | hb'
      · simp
      · simp [hb']
    · rw [← List.cons_append] at hnd
      exact (List.nodup_append.1 hnd).1
    · have hlx : (U.ex.exs (us.take n.toNat)).length = n.toNat := by rw [Qi, List.length_map, hlt]
      simp only [D.retag, D.ex, U.ex]
      have := TCs.osl (ρ := ρ) (w := w) (S := S') (β := β') (h := topH (.slice (some ⟨b, 0, none⟩) n.toNat cap) hd0) (k := k) (ds := U.ex.exs (us.take n.toNat)) (xs := []) (b := b) (cap := cap) (e := e0) (cs := []) (B := []) (cur := cur) (c1 := ca) (B1 := Ba)
        (by rw [hlx]; simp [topH]) hb hsz (by rw [hlx]; omega) hmax (fun d hd => hks d (by rw [hex]; exact List.mem_append_left _ hd)) (by
          rw [hlx, ← hsa]
          have e5 : cur.toList.take ca.length = (cur.toList.take ((U.ex.exs us).length * k)).take ca.length := by
            rw [List.take_take, Nat.min_eq_left]
            rw [hsa, hlen]
            exact Nat.mul_le_mul_right _ (by omega)
          rw [e5, hct, List.take_left']
          rfl) (by
          rw [Qiz]
          exact Qdh.goe _ _ _ _ _ _ ga) .nil
      rw [hlx] at this
      simpa using this
end
end Go.Proofs.Ytboenehajoaahaa.Am
