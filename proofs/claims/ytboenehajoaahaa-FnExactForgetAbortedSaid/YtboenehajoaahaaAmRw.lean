import Derived.Test.YtboenehajoaahaaAmTk
set_option linter.unusedVariables false
namespace Go.Proofs.Ytboenehajoaahaa.Am
open Go Go.RowKit Go.Proofs
def rawCell : Value → U
  | .int k n => .int k n
  | .bool b => .bool b
  | v => .raw v
def rawU (cs : List Value) : U := .agg (cs.map rawCell)
section
variable {P : Program} {ρ : Nat → FuncId} {w w' : World} {S : Nat → Prop} {k : Nat}
theorem Qnz (v : Value) : (rawCell v).size = 1 := by
  unfold rawCell; split <;> rfl
theorem Qxl (v : Value) : (rawCell v).flat = true := by
  unfold rawCell; split <;> rfl
theorem Qn1 : ∀ cs : List Value, (rawU cs).size = cs.length
  | [] => rfl
  | v :: cs => by
    have := Qn1 cs
    simp only [rawU, Qe7, List.map_cons, Qaq, Qnz, List.length_cons] at this ⊢
    omega
theorem Qe4 (cs : List Value) : (rawU cs).flat = true := by
  show U.flat.flats (cs.map rawCell) = true
  induction cs with
  | nil => rfl
  | cons v cs ih => simp only [List.map_cons, U.flat.flats, Qxl, ih, Bool.and_self]
theorem rawCells : ∀ {cs : List Value}, (∀ v ∈ cs, v.oneCell' = true) → URs ρ w S (cs.map rawCell) cs
  | [], _ => .nil
  | v :: cs, h => by
    have ih := rawCells (cs := cs) fun x hx => h x (by simp [hx])
    have hv := h v (by simp)
    rw [List.map_cons]
    unfold rawCell
    split
    · exact .int _ _ ih
    · exact .bool _ ih
    · exact .raw _ hv ih
theorem Qn0 {cs : List Value} (h : ∀ v ∈ cs, v.oneCell' = true) : URs ρ w S [rawU cs] cs := (rawCells h).of_agg
theorem Tok.ok.cell {t : Tok} (h : t.ok ρ w k) : ∀ v ∈ t.c, v.oneCell' = true := h.1.oneCell
def Tok.raw (t : Tok) : Tok := ⟨noHdr, rawU t.c, t.c, []⟩
theorem Tok.ok.raw {t : Tok} (h : t.ok ρ w k) : t.raw.ok ρ w' k := ⟨Qc0 (w := w') (S := fun _ => False) _ _ _ (Qe4 _) (Qn0 h.cell), h.2⟩
theorem Qxm {c : List Value} {h : Hdr} {c' : List Value} {B : List Nat} (hc : ∀ v ∈ c, v.oneCell' = true) (t : TCs ρ w (fun _ => False) (fun _ => ⟨.dead, noHdr⟩) [(h, (rawU c).ex)] c' B) : c' = c := by
  obtain ⟨h1, _⟩ := Qaa (w' := w) (S' := fun _ => False) (rawU c) h c' B (Qe4 c) (fun _ e => by cases e) t
  exact h1.flat_unique (Qn0 (ρ := ρ) (w := w) (S := fun _ => False) hc) (by simp only [U.flat.flats, Qe4, Bool.and_self])
theorem Qpa : ∀ (T : List Tok) (T2 : List Tok), (∀ t ∈ T, t.ok ρ w k) → (∀ t ∈ T2, t.ok ρ w' k) → T2.map (·.u) = T.map (fun t => rawU t.c) → T2.map (·.c) = T.map (·.c)
  | [], T2, _, _, h => by
    have : T2 = [] := by simpa using h
    rw [this]
  | t :: T, [], _, _, h => by simp at h
  | t :: T, t2 :: T2, h1, h2, h => by
    simp only [List.map_cons, List.cons.injEq] at h ⊢
    refine ⟨?_, Qpa T T2 (fun x hx => h1 x (by simp [hx])) (fun x hx => h2 x (by simp [hx])) h.2⟩
    have := (h2 t2 (by simp)).1
    rw [h.1] at this
    exact Qxm (h1 t (by simp)).cell this
theorem Qz6 {α : Type} {l l' : List (List α)} (h : l.Sublist l') : l.flatten.Sublist l'.flatten := by
  induction h with
  | slnil => exact List.Sublist.slnil
  | cons a _ ih => exact ih.trans (List.sublist_append_right _ _)
  | cons_cons a _ ih => exact (List.Sublist.refl a).append ih
theorem Qqc {E1 : Env} (hg : Good P ρ E1) {q c : Nat} (hq : q / 100000 = 3) {okU pu : U → Bool} {okc pc : List Value → Bool} {N : Nat}
    (hE : ∀ cs : List (List Value), (∀ x ∈ cs, okc x = true) → cs.length ≤ N → E1 q [.agg [.tup [.sl k (cs.map rawU)]], .fn c []] = some (.sl k ((cs.filter fun x => !pc x).map rawU)))
    (hag : ∀ (w : World) (t : Tok), t.ok ρ w k → okU t.u = true → okc t.c = true ∧ pc t.c = pu t.u)
    {xs : List U} (hx : ∀ x ∈ xs, okU x = true) (hN : xs.length ≤ N) : GoodAt P ρ q [.agg [.tup [.sl k xs]], .fn c []] (.sl k (xs.filter fun u => !pu u)) := by
  refine ⟨(hg _ _ _ (hE [] (by simp) (by simp))).1, Qdp.2 ⟨fun h1 => by omega, fun h1 => by omega, fun h1 => by omega, fun _ => ?_, fun h1 => by omega, fun h1 => by omega⟩⟩
  refine ⟨k, xs, [.fn c []], rfl, fun ys hys w S v0 vs h Bs hS hlt hnd hown hargs => ?_⟩
  cases hys
  have good : ∀ (cs : List (List Value)), (∀ x ∈ cs, okc x = true) → cs.length ≤ N → GoodC P ρ q [.agg [.tup [.sl k (cs.map rawU)]], .fn c []] (.sl k ((cs.filter fun x => !pc x).map rawU)) := fun cs h1 h2 => by
    have := (hg _ _ _ (hE cs h1 h2)).2
    rw [hq] at this
    exact this
  rcases Qni hown with ⟨hl0, a, hv⟩ | ⟨b, cap, cur, e, cs, B1, hv, hb, hsz, hle, hmax, hks, ht, g1, hBs⟩
  · subst hl0
    obtain ⟨k', xs', us', e1, hC⟩ := good [] (by simp) (by simp)
    simp only [List.map_nil, List.cons.injEq, U.agg.injEq, U.tup.injEq, U.sl.injEq, and_true] at e1
    obtain ⟨⟨rfl, rfl⟩, rfl⟩ := e1
    exact hC _ rfl w S v0 vs h Bs hS hlt hnd hown hargs
  · obtain ⟨T, rfl, rfl, rfl, hT⟩ := Qhw xs h 0 cs B1 g1 hks
    have hlen : (T.map (·.u)).length = T.length := List.length_map ..
    rw [hlen] at hle ht hv
    have hok : ∀ t ∈ T, okc t.c = true ∧ pc t.c = pu t.u := fun t ht => hag w t (hT t ht) (hx t.u (List.mem_map.2 ⟨t, ht, rfl⟩))
    have hBt : ∀ t ∈ T, ∀ x ∈ t.B, x < w.heap.size ∧ x ≠ b := fun t ht x hx => by
      have m : x ∈ (T.map (·.B)).flatten := List.mem_flatten.2 ⟨t.B, List.mem_map.2 ⟨t, ht, rfl⟩, hx⟩
      refine ⟨hlt x (by rw [hBs]; exact List.mem_cons_of_mem _ m), fun e => ?_⟩
      rw [hBs] at hnd
      exact (List.nodup_cons.1 hnd).1 (e ▸ m)
    have hbl : b < w.heap.size := hlt b (by rw [hBs]; simp)
    have rT : ∀ t ∈ T.map Tok.raw, t.ok ρ w k := fun t ht => by
      obtain ⟨t0, h0, rfl⟩ := List.mem_map.1 ht
      exact (hT t0 h0).raw
    have rl : (T.map Tok.raw).length = T.length := List.length_map ..
    have rc : (T.map Tok.raw).map (·.c) = T.map (·.c) := by rw [List.map_map]; rfl
    have ru : (T.map Tok.raw).map (·.u) = (T.map (·.c)).map rawU := by rw [List.map_map, List.map_map]; rfl
    have rB : ((T.map Tok.raw).map (·.B)).flatten = [] := by
      rw [List.map_map]
      exact List.flatten_eq_nil_iff.2 fun l hl => by obtain ⟨t, _, rfl⟩ := List.mem_map.1 hl; rfl
    have rown := Qnh (ρ := ρ) rT hb hsz (by rw [rl]; exact hle) hmax (by rw [rl, rc]; exact ht)
    rw [ru, rB, rl] at rown
    obtain ⟨k', xs', us', e1, hC⟩ := good (T.map (·.c)) (fun x hx => by obtain ⟨t, ht, rfl⟩ := List.mem_map.1 hx; exact (hok t ht).1) (by simpa using hN)
    simp only [List.cons.injEq, U.agg.injEq, U.tup.injEq, U.sl.injEq, and_true] at e1
    obtain ⟨⟨rfl, rfl⟩, rfl⟩ := e1
    subst hv
    refine (hC _ rfl w S _ vs _ [b] (fun x hx => ⟨(hS x hx).1, fun hm => (hS x hx).2 (by rw [hBs, List.mem_singleton.1 hm]; simp)⟩) (fun x hx => by rw [List.mem_singleton.1 hx]; exact hbl) (by simp) rown hargs).mono fun en w' he => ?_
    obtain ⟨v, h', Bs', rfl, hbe, hn', hB', ho'⟩ := he
    let T' : List Tok := T.filter fun t => !pu t.u
    have hsub : ∀ t ∈ T', t ∈ T := fun t ht => (List.mem_filter.1 ht).1
    have hT' : ∀ t ∈ T', t.ok ρ w' k := fun t ht => (hT t (hsub t ht)).keep fun x hx => hbe.block x (hBt t (hsub t ht) x hx).1 fun hm => (hBt t (hsub t ht) x hx).2 (List.mem_singleton.1 hm)
    have hfu : (T.map (·.u)).filter (fun u => !pu u) = T'.map (·.u) := by rw [List.filter_map]; rfl
    have hfc : ((T.map (·.c)).filter fun x => !pc x).map rawU = T'.map fun t => rawU t.c := by
      rw [List.filter_map, List.map_map]
      have : T.filter ((fun x => !pc x) ∘ fun t => t.c) = T' := List.filter_congr fun t ht => by simp only [Function.comp, (hok t ht).2]
      rw [this]
      rfl
    rw [hfu]
    rw [hfc] at ho'
    have hBsub : ((T'.map (·.B)).flatten).Sublist ((T.map (·.B)).flatten) := Qz6 (List.filter_sublist.map _)
    rcases Qni ho' with ⟨hl0, a, hv'⟩ | ⟨nb, ncap, ncur, ne, ncs, nB, hv', hnb, hnsz, hnle, hnmax, hnks, hnt, ng, hnBs⟩
    · have hT0 : T' = [] := by simpa using hl0
      rw [hT0] at ho' ⊢
      exact ⟨v, h', Bs', rfl, hbe.mono fun x hx => by rw [hBs, List.mem_singleton.1 hx]; simp, hn', fun x hx => (hB' x hx).imp (fun hm => by rw [hBs, List.mem_singleton.1 hm]; simp) id, ho'⟩
    · obtain ⟨T2, hu2, rfl, hB2, hT2⟩ := Qhw _ h' 0 ncs nB ng hnks
      have hc2 := Qpa T' T2 hT' hT2 hu2.symm
      have hl2 : (T'.map fun t => rawU t.c).length = T'.length := List.length_map ..
      rw [hl2] at hv' hnle hnt
      have own' := Qnh hT' hnb hnsz hnle hnmax (by rw [hnt, hc2])
      subst hv'
      have hnb' : nb = b ∨ w.heap.size ≤ nb ∧ nb < w'.heap.size := (hB' nb (by rw [hnBs]; simp)).imp List.mem_singleton.1 id
      rw [hBs] at hnd
      have hin : ∀ x ∈ (T'.map (·.B)).flatten, x ∈ (T.map (·.B)).flatten := fun x hx => hBsub.subset hx
      refine ⟨_, _, _, rfl, hbe.mono fun x hx => by rw [hBs, List.mem_singleton.1 hx]; simp, List.nodup_cons.2 ⟨fun hm => ?_, hBsub.nodup (List.nodup_cons.1 hnd).2⟩, fun x hx => ?_, own'⟩
      · rcases hnb' with rfl | h3
        · exact (List.nodup_cons.1 hnd).1 (hin _ hm)
        · have := hlt nb (by rw [hBs]; exact List.mem_cons_of_mem _ (hin _ hm))
          omega
      · rcases List.mem_cons.1 hx with rfl | hx
        · exact hnb'.imp (fun e => by rw [hBs, e]; simp) id
        · exact .inl (by rw [hBs]; exact List.mem_cons_of_mem _ (hin _ hx))
end
def delE (q c k N : Nat) (okU pu : U → Bool) (E0 : Env) : Env := fun r us =>
  if r = q then (match us with
    | [.agg [.tup [.sl k' xs]], .fn c' []] => if k' = k ∧ c' = c ∧ xs.length ≤ N ∧ xs.all okU = true then some (.sl k (xs.filter fun u => !pu u)) else none
    | _ => none) else E0 r us
theorem Qv7 {P : Program} {ρ : Nat → FuncId} {E1 E0 : Env} (hg : Good P ρ E1) (h0 : Good P ρ E0) {q c k : Nat} (hq : q / 100000 = 3) {okU pu : U → Bool} {okc pc : List Value → Bool} {N : Nat}
    (hE : ∀ cs : List (List Value), (∀ x ∈ cs, okc x = true) → cs.length ≤ N → E1 q [.agg [.tup [.sl k (cs.map rawU)]], .fn c []] = some (.sl k ((cs.filter fun x => !pc x).map rawU)))
    (hag : ∀ (w : World) (t : Tok), t.ok ρ w k → okU t.u = true → okc t.c = true ∧ pc t.c = pu t.u) : Good P ρ (delE q c k N okU pu E0) := fun r us u h => by
  unfold delE at h
  split at h
  · rename_i hr
    subst hr
    split at h
    · split at h
      · rename_i hx
        obtain ⟨rfl, rfl, hN, ha⟩ := hx
        cases h
        exact Qqc hg hq hE hag (List.all_eq_true.1 ha) hN
      · cases h
    · cases h
  · exact h0 r us u h
structure IsDel (E : Env) (q c k N : Nat) (okU pu : U → Bool) : Prop where
  ex : ∀ xs : List U, xs.length ≤ N → xs.all okU = true → E (300000 + q) (.agg [.tup [.sl k xs]] :: [.fn c []]) = some (.sl k (xs.filter fun u => !pu u))
theorem Qwb {q c k N : Nat} {okU pu : U → Bool} {E0 : Env} {tbl : Nat → Option Fn} (h1 : tbl (300000 + q) = none) : IsDel (EnvW (delE (300000 + q) c k N okU pu E0) tbl) q c k N okU pu := by
  refine ⟨fun xs hs ha => ?_⟩
  rw [Qf3 h1]
  unfold delE
  rw [if_pos rfl]
  simp only
  rw [if_pos ⟨by trivial, by trivial, hs, ha⟩]
theorem Qdu {r c k' N : Nat} {okU pu : U → Bool} {l : List (Nat × Nat × Nat × AC)} {tbl : Nat → Option Fn} {q k b : Nat} {ac : AC} (hr : 300000 ≤ r) (hq : q < 100000) (h1 : tbl q = none) (h2 : tbl (100000 + q) = none) (hl : l.lookup q = some (k, b, ac)) :
    IsClone (EnvW (delE r c k' N okU pu (cloneE l)) tbl) q k b := by
  have e1 : q / 100000 = 0 := Nat.div_eq_of_lt hq
  have e2 : q % 100000 = q := Nat.mod_eq_of_lt hq
  have e3 : (100000 + q) / 100000 = 1 := by omega
  have e4 : (100000 + q) % 100000 = q := by omega
  have n1 : q ≠ r := by omega
  have n2 : 100000 + q ≠ r := by omega
  refine ⟨fun us => ?_, fun us => ?_⟩
  · rw [Qf3 h1]
    simp [delE, n1, cloneE, e1, e2, hl]
  · rw [Qf3 h2]
    simp [delE, n2, cloneE, e3, e4, hl]
def okc9 (c : List Value) : Bool := decide (c.length = 9) && (match (c[2]? : Option Value) with
  | some (.int .i64 _) => true
  | _ => false)
def pc9 (c : List Value) : Bool := match (c[2]? : Option Value) with
  | some (.int .i64 n) => decide (n = 3)
  | _ => false
def isTx9 : U → Bool
  | .agg [.int .i64 _, .int .i64 _, .int .i64 _, .int .i64 _, .int .i64 _, .int .i64 _, .int .i64 _, .sl 2 _, .sl 2 _] => true
  | _ => false
def isAb9 : U → Bool
  | .agg (_ :: _ :: .int .i64 n :: _) => decide (n = 3)
  | _ => false
theorem Qhv {ρ : Nat → FuncId} {w : World} {S : Nat → Prop} {β : Nat → Lay} {h : Hdr} {k : IntKind} {n : Int} {xs : List (Hdr × D)} {cs : List Value} {B : List Nat} (t : TCs ρ w S β ((h, .val (.int k n)) :: xs) cs B) : ∃ cs' B', cs = .int k n :: cs' ∧ TCs ρ w S β xs cs' B' := by
  obtain ⟨c1, c2, B1, B2, rfl, rfl, _, t1, t2⟩ := TCs.cons_inv t
  obtain ⟨h1, _⟩ := t1.val_inv
  cases h1 with
  | int _ _ h1 => cases h1; exact ⟨c2, B2, rfl, t2⟩
theorem Qaah {ρ : Nat → FuncId} (w : World) (t : Tok) (ht : t.ok ρ w 9) (hu : isTx9 t.u = true) : okc9 t.c = true ∧ pc9 t.c = isAb9 t.u := by
  obtain ⟨h, u, c, B⟩ := t
  simp only at hu ⊢
  obtain ⟨h1, h2⟩ := ht
  simp only at h1 h2
  unfold isTx9 at hu
  split at hu
  · rename_i a0 a1 a2 a3 a4 a5 a6 r wr
    have g0 := TCs.agg_inv h1
    obtain ⟨c1, _, e1, g1⟩ := Qhv g0
    obtain ⟨c2, _, e2, g2⟩ := Qhv g1
    obtain ⟨c3, _, e3, g3⟩ := Qhv g2
    subst e3 e2 e1
    exact ⟨by simp only [okc9, h2]; rfl, rfl⟩
  · cases hu
end Go.Proofs.Ytboenehajoaahaa.Am
