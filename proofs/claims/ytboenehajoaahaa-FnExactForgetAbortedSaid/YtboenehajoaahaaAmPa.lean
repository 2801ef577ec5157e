import Derived.Laws.CopyRow
import Derived.Test.YtboenehajoaahaaAmP
namespace Go.Proofs.Ytboenehajoaahaa.Am
open Go Go.RowKit
section
variable {α : Type} {P : Program} {ρ : Nat → FuncId} {base : Nat → Prop} {F : Fm} {fr : Frm} {S₀ : Nat → Prop} {Γ : Hp} {β : Nat → Lay} {B : Nat → List Nat} {a : Act} {w w' : World} {E : Env}
  {K : Eff → Option α} {r : α} {G : Prop} {o : Oper}
theorem Qhc {us : List U} (hk : ∀ u ∈ us, u.size = 1) : sizes us = us.length := by
  rw [Qc9 hk, Nat.mul_one]
theorem URs.takes {S : Nat → Prop} {us : List U} {cs : List Value} (h : URs ρ w S us cs) (hk : ∀ u ∈ us, u.size = 1) (n : Nat) : URs ρ w S (us.take n) (cs.take n) ∧ URs ρ w S (us.drop n) (cs.drop n) := by
  have e : us = us.take n ++ us.drop n := (List.take_append_drop n us).symm
  have h0 := h
  rw [e] at h0
  obtain ⟨c1, c2, rfl, hl, h1, h2⟩ := h0.split
  rw [Qhc fun u hu => hk u (List.mem_of_mem_take hu), List.length_take] at hl
  by_cases hn : n ≤ us.length
  · have hl' : c1.length = n := by omega
    rw [← hl', List.take_left', List.drop_left']
    · rw [hl']; exact ⟨h1, h2⟩
    · rfl
    · rfl
  · have hd : us.drop n = [] := List.drop_eq_nil_iff.2 (by omega)
    rw [hd] at h2
    cases h2
    have hl' : c1.length ≤ n := by omega
    rw [List.append_nil, List.take_of_length_le hl', List.drop_eq_nil_iff.2 hl', hd]
    exact ⟨h1, .nil⟩
theorem Qn7 {cur ccs : List Value} {L o n : Nat} (hn : ccs.length = n) (h1 : o + n ≤ L) (h2 : L ≤ cur.length) :
    (cur.take o ++ ccs ++ cur.drop (o + n)).take L = (cur.take L).take o ++ ccs ++ (cur.take L).drop (o + n) := by
  have e1 : (cur.take o).length = o := by rw [List.length_take]; omega
  rw [List.take_append, List.take_of_length_le (by rw [List.length_append, e1, hn]; exact h1)]
  rw [List.length_append, e1, hn, List.take_take, Nat.min_eq_left (by omega), List.drop_take]
theorem Qy5 {d x : Operand} {dT sT e : TypeId} {d' x' : Opd} (hrel : Rel ρ S₀ base F fr Γ β B a w) (ho : o.op = .call { callee := .builtin .copy, args := #[d, x], argTypes := #[dT, sT] }) (he : P.underlying dT = some (.slice e)) (hs : (P.info? e).map (·.size) = some 1)
    (hd : opdOK ρ F.wd d d' = true) (hx : opdOK ρ F.wd x x' = true)
    (h : (AOp.copy d' x').step E fr Γ K = some r) (hK : Cont P ρ S₀ base F fr Γ β B a w o K r G) : G := by
  simp only [AOp.step, Qdd] at h
  have hv := hrel.opd hd
  have hw := hrel.opd hx
  split at h
  rotate_left
  · cases h
  rename_i R k part hde
  rw [hde] at hv
  split at h
  rotate_left
  · cases h
  rename_i k2 us hΓ
  obtain ⟨ys, hys, h3⟩ := Option.bind_eq_some_iff.1 h
  clear h
  split at h3
  rotate_left
  · cases h3
  rename_i hc
  obtain ⟨rfl, rfl, hn, hle⟩ := hc
  obtain ⟨v0, hv0, hsub⟩ := Qaz hv
  have hl := Lay.live_of_hdr hv0
  rw [Lay.hdr_live hl] at hv0
  have hR : (Γ R).isSome = true := by rw [hΓ]; rfl
  obtain ⟨hnd, cs, hrt, t⟩ := hrel.roots R _ hΓ hl
  simp only [D.ex] at t
  have hlm : (us.map D.val).length = us.length := List.length_map ..
  have hpos : 0 < us.length := by omega
  have hsz1 : ∀ u ∈ us, u.size = 1 ∨ False := fun u hu => by
    left
    have : ∀ d ∈ us.map D.val, d.size = 1 := by
      generalize us.map D.val = ds at t
      generalize B R = Bs at t
      cases t with
      | osl0 hh t => simp
      | osl hh hb hsz hle hmax hks ht h1 t => exact hks
    exact this (.val u) (List.mem_map_of_mem hu)
  have hk1 : ∀ u ∈ us, u.size = 1 := fun u hu => (hsz1 u hu).resolve_right id
  obtain ⟨b, cap, cur, e0, c1, hh, hb, hsz, hcap, hmax, ht, hus, hBR, hcs⟩ : ∃ b cap cur e0 c1, (β R).h [] = some (.slice (some ⟨b, 0, none⟩) us.length cap) ∧ w.heap[b]? = some (.cells cur e0 (0, 0)) ∧ cur.size = cap * 1 ∧ us.length ≤ cap ∧ cap ≤ maxLen ∧ cur.toList.take (us.length * 1) = c1 ∧ URs ρ w (Stands S₀ w Γ B) us c1 ∧ B R = [b] ∧ cs = [.slice (some ⟨b, 0, none⟩) us.length cap] := by
    generalize hds : us.map D.val = ds at t
    generalize hBs : B R = Bs at t
    rw [hds] at hlm
    cases t with
    | osl0 hh t => simp at hlm; omega
    | osl hh hb hsz hle hmax hks ht h1 t =>
      rename_i b cap cur e0 c1 cs0 B1 B0
      cases t
      rw [hlm] at hh hle ht
      subst hds
      obtain ⟨h2, rfl⟩ := Qej h1
      exact ⟨b, cap, cur, e0, c1, hh, hb, hsz, hle, hmax, ht, h2, by simp, by rw [hlm]⟩
  rw [Nat.mul_one] at hsz ht
  have hbm : b ∈ B R := by rw [hBR]; simp
  generalize hom : part.getD (0, us.length) = om at hn hle h3
  obtain ⟨dc, hdv⟩ : ∃ dc, a.eval d = .slice (some ⟨b, om.1, none⟩) om.2 dc := by
    rw [hv0] at hh
    cases hh
    cases part with
    | none =>
      obtain ⟨hev, _⟩ := hsub
      simp only [Option.getD_none] at hom
      subst hom
      exact ⟨cap, hev⟩
    | some q =>
      simp only [Option.getD_some] at hom
      subst hom
      obtain ⟨off, m⟩ := q
      obtain ⟨ad, l, c, ad', e1, h2, _, _, _, h10⟩ := hsub
      cases e1
      simp only at hn
      have had : ad' = some ⟨b, 0 + off * 1, none⟩ := by
        rcases h10 with h10 | h10
        · omega
        · rw [h10]; simp [Addr.add_mid]
      exact ⟨cap - off, by rw [h2, had]; simp⟩
  rcases hrel.src hw hys with ⟨rfl, _⟩ | ⟨b2, off2, cap2, c2, hne, hxv, hk2, hrg2, hu2⟩
  · simp at hn
  have hl1 : c1.length = us.length := by rw [hus.length, Qhc hk1]
  have hl2 : c2.length = ys.length := by rw [hu2.length, Qhc hk2]
  generalize hnn : min ys.length om.2 = n at hn h3
  have hcl : (c2.take n).length = n := by rw [List.length_take, hl2]; omega
  have hu3 := (hu2.takes hk2 n).1
  have hlc : cur.toList.length = cap := by simpa using hsz
  have hrun := run_copy_row (P := P) w dT sT o.type e b om.1 om.2 dc ⟨b2, off2, none⟩ ys.length cap2 cur e0 (c2.take n) he hs hb (by rw [hcl, ← hnn]) (fun j v hv => by
    rw [List.getElem?_take] at hv
    split at hv
    · rw [Addr.add_mid]; exact hrg2 j v hv
    · cases hv) (by rw [hcl, hsz]; omega) hu3.oneCell
  rw [hcl] at hrun
  have hle3 : om.1 + n ≤ us.length := by omega
  have hu1 := (hus.takes hk1 om.1).1
  have hu4 := (hus.takes hk1 (om.1 + n)).2
  have hul : (us.take om.1 ++ ys.take n ++ us.drop (om.1 + n)).length = us.length := by
    simp only [List.length_append, List.length_take, List.length_drop]; omega
  have hapart : ∀ b' ∈ B R, ∀ R', R' ≠ R → (Γ R').isSome = true → b' ∉ B R' := fun b' hb' R' hne hR' => hrel.apart R R' (Ne.symm hne) hR hR' b' hb'
  have hown : Owned Γ B b := ⟨R, hR, hbm⟩
  have hkeep : Keeps (Stands S₀ w Γ B) w (w.setRow b (cur.toList.take om.1 ++ c2.take n ++ cur.toList.drop (om.1 + n)).toArray) := fun b' hb' => setRow_other w b b' _ fun e => Qcd hown (e ▸ hb')
  have hβ : upd β R (β R) = β := Qcq β R
  have hB : upd B R (B R) = B := Qcq B R
  have hrel' := hrel.setP (w' := w.setRow b (cur.toList.take om.1 ++ c2.take n ++ cur.toList.drop (om.1 + n)).toArray) (m := .id) hrel.parts R (.vir (.asl 1 (us.take om.1 ++ ys.take n ++ us.drop (om.1 + n)))) (β R) (B R) (fun b' => b' = b) (by rw [hβ]; exact TagOK.same fun _ _ => rfl) (by simp)
    (fun b' _ hn' => setRow_other w b b' _ hn') (fun b' e' => by subst e'; exact ⟨hown, fun R' hne hR' => hapart b' hbm R' hne hR'⟩) (fun b' hb' => .inl ⟨⟨R, hR, hb'⟩, fun R' hne hR' => hapart b' hb' R' hne hR'⟩) (fun S' hS' => ⟨hnd, cs, hrt, by
      simp only [D.ex]
      rw [hBR, hcs]
      have hm := TCs.osl (ρ := ρ) (w := w.setRow b (cur.toList.take om.1 ++ c2.take n ++ cur.toList.drop (om.1 + n)).toArray) (S := S') (β := upd β R (β R)) (h := (β R).h) (k := 1) (ds := (us.take om.1 ++ ys.take n ++ us.drop (om.1 + n)).map .val) (xs := []) (b := b) (cap := cap) (e := e0) (cs := []) (B := [])
        (cur := (cur.toList.take om.1 ++ c2.take n ++ cur.toList.drop (om.1 + n)).toArray) (c1 := c1.take om.1 ++ c2.take n ++ c1.drop (om.1 + n)) (B1 := [])
        (by rw [List.length_map, hul]; exact hh) (setRow_heap w b cur _ e0 (0, 0) hb) (by
          simp only [List.size_toArray, List.length_append, List.length_take, List.length_drop, hlc, hl2]
          omega) (by rw [List.length_map, hul]; exact hcap) hmax (fun d hd => by
          obtain ⟨u, hu, rfl⟩ := List.mem_map.1 hd
          show u.size = 1
          simp only [List.mem_append] at hu
          rcases hu with (hu | hu) | hu
          · exact hk1 u (List.mem_of_mem_take hu)
          · exact hk2 u (List.mem_of_mem_take hu)
          · exact hk1 u (List.mem_of_mem_drop hu)) (by
          rw [List.length_map, hul, Nat.mul_one, Qn7 hcl hle3 (by rw [hlc]; exact hcap), ht]) (Qds _ _ _ (((hu1.append hu3).append hu4).mono hS' hkeep.cell)) .nil
      rw [List.length_map, hul] at hm
      simpa using hm⟩)
  rw [Qeo, Qge, hβ, hB] at hrel'
  refine hK.val [] _ _ (goInt n) _ h3 ?_ ⟨Qdm (hrel.inside R hR b hbm).1, β, B, hrel', Ql (Qv _ _ _), fun R' hlt hR' => ⟨?_, rfl, fun _ => rfl⟩⟩
  · simp only [execOp, ho, resolve, Sem.run_bind, Sem.run_pure, Result.andThen_ok, invoke, builtin, List.map_toArray, List.map_cons, List.map_nil, hdv, hxv, hrun]
  · by_cases e' : R' = R
    · rw [e']; exact hR
    · rwa [Qa _ _ e'] at hR'
theorem Qqq (d : Nat) (t e : TypeId) (p : Option Addr) (n c : Nat) (hu : P.underlying t = some (.slice e)) : (Op.equalIn (d + 1) t (.slice p n c) (.slice none 0 0)).run P w = .ok p.isNone w := by
  cases p <;> simp [Op.equalIn, run_underlying hu]
theorem Qx8 (neg : Bool) (t e : TypeId) (x y : Operand) (p : Option Addr) (n c : Nat) (hu : P.underlying t = some (.slice e)) :
    (do eqGuard (if neg then .neq else .eql) t x y (.slice p n c) (.slice none 0 0); binOp (if neg then .neq else .eql) t (.slice p n c) (.slice none 0 0) : Sem Value).run P w = .ok (.bool (if neg then !p.isNone else p.isNone)) w := by
  have he := Qf6 (P := P) (w := w) fun d => Qqq d t e p n c hu
  rw [Sem.run_bind, Qf4 _ _ _ _ _ _ (fun _ e => by cases e) (fun e => by cases e)]
  cases neg
  · show (do pure (Value.bool (← Op.equal t (.slice p n c) (.slice none 0 0))) : Sem Value).run P w = _
    rw [Sem.run_bind, he]; rfl
  · show (do pure (Value.bool (!(← Op.equal t (.slice p n c) (.slice none 0 0)))) : Sem Value).run P w = _
    rw [Sem.run_bind, he]; rfl
theorem Qy6 {neg : Bool} {t t' e : TypeId} {x y : Operand} {x' : Opd} (hrel : Rel ρ S₀ base F fr Γ β B a w) (ho : o.op = .binOp (if neg then .neq else .eql) t x y t') (he : tyElem P t = some e) (hx : opdOK ρ F.wd x x' = true) (hy : opdOK ρ F.wd y (.c (.nsl 0)) = true)
    (h : (AOp.eqnil neg x').step E fr Γ K = some r) (hK : Cont P ρ S₀ base F fr Γ β B a w o K r G) : G := by
  simp only [AOp.step] at h
  have hv := hrel.opd hx
  have hw : a.eval y = .slice none 0 0 := Qar (hrel.opd hy)
  have fin : ∀ (p : Option Addr) (n c : Nat), a.eval x = .slice p n c → K (.v (.val (.bool (if neg then !p.isNone else p.isNone)))) = some r → G := fun p n c e1 h1 =>
    hK.here _ _ h1 (Ql (Qap _ _)) (fun w' _ => by simp only [execOp, ho, e1, hw]; exact run_v (Qx8 (P := P) (w := w') neg t e x y p n c (Qbo he)))
  split at h
  · rename_i u hxe
    rw [hxe] at hv
    obtain ⟨t1, ht, h⟩ := Option.bind_eq_some_iff.1 h
    cases u with
    | nsl k =>
      cases ht
      exact fin none 0 0 (Qar hv) (by simpa using h)
    | sl k us =>
      cases us with
      | nil => cases ht
      | cons u us =>
        cases ht
        rcases VD_sl hv with ⟨e1, _⟩ | ⟨b, off, cap, c1, _, e1, _⟩
        · cases e1
        · exact fin _ _ _ e1 (by simpa using h)
    | _ => cases ht
  · rename_i R k hxe
    rw [hxe] at hv
    split at h
    rotate_left
    · cases h
    rename_i t1 hΓ
    obtain ⟨v0, hβ, hsub⟩ := Qaz hv
    have hl := Lay.live_of_hdr hβ
    obtain ⟨_, _, _, ad, cap, hh, rfl⟩ := hrel.roots R _ hΓ hl
    rw [Lay.hdr_live hl, hh] at hβ
    cases hβ
    exact fin ad 0 cap hsub.1 h
  · cases h
end
end Go.Proofs.Ytboenehajoaahaa.Am
