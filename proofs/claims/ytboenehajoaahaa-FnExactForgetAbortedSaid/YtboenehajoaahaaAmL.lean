import Derived.Maps.AppendAt
import Derived.Test.YtboenehajoaahaaAmK
namespace Go.Proofs.Ytboenehajoaahaa.Am
open Go Go.RowKit
section
variable {α : Type} {P : Program} {ρ : Nat → FuncId} {base : Nat → Prop} {F : Fm} {fr : Frm} {S₀ : Nat → Prop} {Γ : Hp} {β : Nat → Lay} {B : Nat → List Nat} {a : Act} {w w' : World} {E : Env}
  {K : Eff → Option α} {r : α} {G : Prop} {o : Oper}
def optOK (ρ : Nat → FuncId) (N : Nat × Nat) : Option Operand → Option Opd → Bool
  | none, none => true
  | some x, some x' => opdOK ρ N x x'
  | _, _ => false
theorem Qby {x : Option Operand} {x' : Option Opd} {K : Option Int → Option α} (hrel : Rel ρ S₀ base F fr Γ β B a w) (hx : optOK ρ F.wd x x' = true) (h : optInt fr x' K = some r) :
    ∃ l : Option Int, x.map a.eval = l.map (.int .i64 ·) ∧ K l = some r := by
  cases x with
  | none => cases x' with
    | none => exact ⟨none, rfl, h⟩
    | some x' => cases hx
  | some x => cases x' with
    | none => cases hx
    | some x' =>
      obtain ⟨n, hn, h⟩ := Qad (K := fun n => K (some n)) h
      exact ⟨some n, by simp [hrel.int hx hn], h⟩
theorem Qoa {t e : TypeId} {k : Nat} (ht : tyElem P t = some e) (hk : tySize P e = some k) (ad : Option Addr) (len cap : Nat) (lo hi : Option Int) (h0 : 0 ≤ lo.getD 0) (h1 : lo.getD 0 ≤ hi.getD len) (h2 : hi.getD len ≤ len) (h3 : len ≤ cap) (w : World) :
    (Instr.sliceAt t (.slice ad len cap) (lo.map (.int .i64 ·)) (hi.map (.int .i64 ·)) none).run P w =
      .ok (.slice (if cap = (lo.getD 0).toNat then ad else ad.map (·.add ((lo.getD 0).toNat * k))) ((hi.getD len).toNat - (lo.getD 0).toNat) (cap - (lo.getD 0).toNat)) w := by
  have hu := Qbo ht
  have hz := Qa7 (w := w) hk
  cases lo with
  | none =>
    cases hi with
    | none => simp [Instr.sliceAt, Instr.slice, Instr.sliceBounds, run_underlying hu, hz]
    | some n =>
      simp only [Option.getD_some, Option.getD_none] at h0 h1 h2
      have : 0 ≤ n ∧ n ≤ (cap : Int) := by omega
      simp [Instr.sliceAt, Instr.slice, Instr.sliceBounds, run_underlying hu, hz, Instr.sliceBound, asIntOf, this]
  | some m =>
    cases hi with
    | none =>
      simp only [Option.getD_some, Option.getD_none] at h0 h1 h2
      have : 0 ≤ m ∧ m ≤ (len : Int) := by omega
      simp [Instr.sliceAt, Instr.slice, Instr.sliceBounds, run_underlying hu, hz, Instr.sliceBound, asIntOf, this]
    | some n =>
      simp only [Option.getD_some] at h0 h1 h2
      have h4 : 0 ≤ n ∧ n ≤ (cap : Int) := by omega
      have h5 : 0 ≤ m ∧ m ≤ n := by omega
      have h6 : (n.toNat : Int) = n := by omega
      simp [Instr.sliceAt, Instr.slice, Instr.sliceBounds, run_underlying hu, hz, Instr.sliceBound, asIntOf, h4, h5, h6]
theorem Qx6 {t : TypeId} (hu : P.underlying t = some .string) (s : ByteArray) (lo hi : Option Int) (h0 : 0 ≤ lo.getD 0) (h1 : lo.getD 0 ≤ hi.getD s.size) (h2 : hi.getD s.size ≤ s.size) (w : World) :
    (Instr.sliceAt t (.string s) (lo.map (.int .i64 ·)) (hi.map (.int .i64 ·)) none).run P w = .ok (.string (s.extract (lo.getD 0).toNat (hi.getD s.size).toNat)) w := by
  cases lo with
  | none =>
    cases hi with
    | none => simp [Instr.sliceAt, Instr.slice, Instr.sliceBounds, run_underlying hu]
    | some n =>
      simp only [Option.getD_some, Option.getD_none] at h0 h1 h2
      have : 0 ≤ n ∧ n ≤ (s.size : Int) := by omega
      simp [Instr.sliceAt, Instr.slice, Instr.sliceBounds, run_underlying hu, Instr.sliceBound, asIntOf, this]
  | some m =>
    cases hi with
    | none =>
      simp only [Option.getD_some, Option.getD_none] at h0 h1 h2
      have : 0 ≤ m ∧ m ≤ (s.size : Int) := by omega
      simp [Instr.sliceAt, Instr.slice, Instr.sliceBounds, run_underlying hu, Instr.sliceBound, asIntOf, this]
    | some n =>
      simp only [Option.getD_some] at h0 h1 h2
      have h4 : 0 ≤ n ∧ n ≤ (s.size : Int) := by omega
      have h5 : 0 ≤ m ∧ m ≤ n := by omega
      have h6 : (n.toNat : Int) = n := by omega
      simp [Instr.sliceAt, Instr.slice, Instr.sliceBounds, run_underlying hu, Instr.sliceBound, asIntOf, h4, h5, h6]
theorem URs.mid {S : Nat → Prop} {k l h : Nat} {us : List U} {cs : List Value} (hc : URs ρ w S us cs) (hk : ∀ u ∈ us, u.size = k) (hlh : l ≤ h) (hh : h ≤ us.length) :
    ∃ c, URs ρ w S ((us.take h).drop l) c ∧ ∀ j v, c[j]? = some v → cs[l * k + j]? = some v := by
  have e : us = us.take l ++ ((us.take h).drop l ++ us.drop h) := by
    rw [← List.append_assoc]
    have e2 : us.take l = (us.take h).take l := by rw [List.take_take, Nat.min_eq_left hlh]
    rw [e2, List.take_append_drop, List.take_append_drop]
  rw [e] at hc
  obtain ⟨c1, c2, rfl, hl1, _, h2⟩ := hc.split
  obtain ⟨c3, c4, rfl, hl3, h3, _⟩ := h2.split
  have hl : c1.length = l * k := by
    rw [hl1, Qc9 (k := k) (fun u hu => hk u (List.mem_of_mem_take hu)), List.length_take, Nat.min_eq_left (by omega)]
  refine ⟨c3, h3, fun j v hv => ?_⟩
  rw [← hl, List.getElem?_append_right (by omega), Nat.add_sub_cancel_left, List.getElem?_append_left (List.getElem?_eq_some_iff.1 hv).1]
  exact hv
theorem Qwz {us : List U} {l h : Nat} {u : U} (hu : u ∈ (us.take h).drop l) : u ∈ us := List.mem_of_mem_take (List.mem_of_mem_drop hu)
theorem Qzn {t : TypeId} {x : Operand} {lo hi : Option Operand} {k : Nat} {x' : Opd} {lo' hi' : Option Opd} (hrel : Rel ρ S₀ base F fr Γ β B a w) (ho : o.op = .slice t x lo hi none)
    (ht : ∃ e, tyElem P t = some e ∧ tySize P e = some k) (hx : opdOK ρ F.wd x x' = true) (hl : optOK ρ F.wd lo lo' = true) (hh : optOK ρ F.wd hi hi' = true)
    (h : (AOp.slice false k x' lo' hi').step E fr Γ K = some r) (hK : Cont P ρ S₀ base F fr Γ β B a w o K r G) : G := by
  obtain ⟨e, ht, hk⟩ := ht
  simp only [AOp.step] at h
  have hv := hrel.opd hx
  have hrun : ∀ ad len cap l h', a.eval x = .slice ad len cap → lo.map a.eval = (l : Option Int).map (.int .i64 ·) → hi.map a.eval = (h' : Option Int).map (.int .i64 ·) → 0 ≤ l.getD 0 → l.getD 0 ≤ h'.getD len → h'.getD len ≤ len → len ≤ cap → ∀ w2 : World,
      (execOp a.eval o).run P w2 = .ok (.value (.slice (if cap = (l.getD 0).toNat then ad else ad.map (·.add ((l.getD 0).toNat * k))) ((h'.getD len).toNat - (l.getD 0).toNat) (cap - (l.getD 0).toNat))) w2 := by
    intro ad len cap l h' e1 e2 e3 h0 h1 h2 h3 w2
    simp only [execOp, ho, e1, e2, e3]
    exact run_v (Qoa ht hk ad len cap l h' h0 h1 h2 h3 w2)
  cases he : x'.ev fr with
  | val u =>
    rw [he] at h hv
    simp only at h
    obtain ⟨l, el, h⟩ := Qby (K := fun l => optInt fr hi' fun h => (U.cut false k u l h).bind fun u' => K (.v (.val u'))) hrel hl h
    obtain ⟨h', eh, h⟩ := Qby (K := fun h => (U.cut false k u l h).bind fun u' => K (.v (.val u'))) hrel hh h
    obtain ⟨u', hcut, hr⟩ := Option.bind_eq_some_iff.1 h
    cases u with
    | sl k' us =>
      simp only [U.cut] at hcut
      split at hcut
      · rename_i hc
        obtain ⟨rfl, h0, h1, h2⟩ := hc
        cases hcut
        rcases VD_sl hv with ⟨rfl, ad, cap, e1⟩ | ⟨b, off, cap, c1, hne, e1, hb, hcap, hmax, hks, hrg, hus⟩
        · simp only [List.length_nil] at h1 h2
          have hz : (h'.getD ((0 : Nat) : Int)).toNat - (l.getD 0).toNat = 0 := by omega
          refine hK.here _ _ hr (Ql ?_) fun w2 _ => hrun ad 0 cap l h' e1 el eh h0 h1 h2 (Nat.zero_le _) w2
          rw [hz]
          simp only [List.take_nil, List.drop_nil]
          exact ⟨[_], .sl0 _ _ _ .nil, rfl⟩
        · refine hK.here _ _ hr (Ql ?_) fun w2 _ => hrun (some ⟨b, off, none⟩) us.length cap l h' e1 el eh h0 h1 h2 hcap w2
          obtain ⟨c2, hc2, hat⟩ := hus.mid hks (l := (l.getD 0).toNat) (h := (h'.getD us.length).toNat) (by omega) (by omega)
          have hlen : ((us.take (h'.getD us.length).toNat).drop (l.getD 0).toNat).length = (h'.getD us.length).toNat - (l.getD 0).toNat := by
            rw [List.length_drop, List.length_take, Nat.min_eq_left (by omega)]
          by_cases hz : (us.take (h'.getD us.length).toNat).drop (l.getD 0).toNat = []
          · rw [hz] at hlen ⊢
            rw [← hlen]
            exact ⟨[_], .sl0 _ _ _ .nil, rfl⟩
          · have hpos := List.length_pos_iff.2 hz
            have hne2 : cap ≠ (l.getD 0).toNat := by omega
            rw [if_neg hne2, ← hlen]
            refine ⟨[_], .sl1 k' b (off + (l.getD 0).toNat * k') (cap - (l.getD 0).toNat) hz hb (by omega) (by omega) (fun u hu => hks u (Qwz hu)) (fun j v hv => ?_) hc2 .nil, ?_⟩
            · rw [Nat.add_assoc]
              exact hrg _ _ (hat j v hv)
            · simp [D.isAgg, Addr.add_mid]
      · cases hcut
    | _ => cases hcut
  | ref R p k' part =>
    rw [he] at h hv
    obtain ⟨v0, hβ, hsub⟩ := Qaz hv
    cases part with
    | some om => cases h
    | none =>
      simp only [at_eq, Qa8] at h
      obtain ⟨d, hat, h⟩ := Option.bind_eq_some_iff.1 h
      obtain ⟨n, hlen, h⟩ := Option.bind_eq_some_iff.1 h
      obtain ⟨l, el, h⟩ := Qby (K := fun l => optInt fr hi' fun h => if True ∧ k' = k ∧ 0 ≤ l.getD 0 ∧ l.getD 0 ≤ h.getD n ∧ h.getD n ≤ n then
        K (.v (.ref R p k (some ((l.getD 0).toNat, (h.getD n).toNat - (l.getD 0).toNat)))) else none) hrel hl h
      obtain ⟨h', eh, h⟩ := Qby (K := fun h => if True ∧ k' = k ∧ 0 ≤ l.getD 0 ∧ l.getD 0 ≤ h.getD n ∧ h.getD n ≤ n then
        K (.v (.ref R p k (some ((l.getD 0).toNat, (h.getD n).toNat - (l.getD 0).toNat)))) else none) hrel hh h
      split at h
      · rename_i hc
        obtain ⟨_, rfl, h0, h1, h2⟩ := hc
        obtain ⟨hsub, _⟩ := hsub
        obtain ⟨ad, cap, rfl, hcap, hmax, _⟩ := hrel.at_ref hβ hat hlen
        refine hK.here _ _ h (Qcr hβ ?_) fun w2 _ => hrun ad n cap l h' hsub el eh h0 h1 h2 hcap w2
        refine ⟨ad, n, cap, _, rfl, rfl, by omega, hcap, hmax, ?_⟩
        by_cases hz : cap = (l.getD 0).toNat
        · left; omega
        · right; rw [if_neg hz]
      · cases h
  | _ => rw [he] at h; cases h
theorem Qzq {t : TypeId} {x : Operand} {lo hi : Option Operand} {k : Nat} {x' : Opd} {lo' hi' : Option Opd} (hrel : Rel ρ S₀ base F fr Γ β B a w) (ho : o.op = .slice t x lo hi none)
    (ht : P.underlying t = some .string) (hx : opdOK ρ F.wd x x' = true) (hl : optOK ρ F.wd lo lo' = true) (hh : optOK ρ F.wd hi hi' = true)
    (h : (AOp.slice true k x' lo' hi').step E fr Γ K = some r) (hK : Cont P ρ S₀ base F fr Γ β B a w o K r G) : G := by
  simp only [AOp.step] at h
  have hv := hrel.opd hx
  cases he : x'.ev fr with
  | val u =>
    rw [he] at h hv
    simp only at h
    obtain ⟨l, el, h⟩ := Qby (K := fun l => optInt fr hi' fun h => (U.cut true k u l h).bind fun u' => K (.v (.val u'))) hrel hl h
    obtain ⟨h', eh, h⟩ := Qby (K := fun h => (U.cut true k u l h).bind fun u' => K (.v (.val u'))) hrel hh h
    obtain ⟨u', hcut, hr⟩ := Option.bind_eq_some_iff.1 h
    cases u with
    | str s =>
      simp only [U.cut] at hcut
      split at hcut
      · rename_i hc
        obtain ⟨h0, h1, h2⟩ := hc
        cases hcut
        refine hK.here _ _ hr (Ql (Qh4 _ _)) fun w2 _ => ?_
        simp only [execOp, ho, Qbe hv, el, eh]
        exact run_v (Qx6 ht s l h' h0 h1 h2 w2)
      · cases hcut
    | _ => cases hcut
  | ref R p k' part =>
    rw [he] at h
    cases part with
    | some om => cases h
    | none =>
      simp only [at_eq, Qa8] at h
      obtain ⟨d, hat, h⟩ := Option.bind_eq_some_iff.1 h
      obtain ⟨n, hlen, h⟩ := Option.bind_eq_some_iff.1 h
      obtain ⟨l, el, h⟩ := Qby (K := fun l => optInt fr hi' fun h => if False ∧ k' = k ∧ 0 ≤ l.getD 0 ∧ l.getD 0 ≤ h.getD n ∧ h.getD n ≤ n then
        K (.v (.ref R p k (some ((l.getD 0).toNat, (h.getD n).toNat - (l.getD 0).toNat)))) else none) hrel hl h
      obtain ⟨h', eh, h⟩ := Qby (K := fun h => if False ∧ k' = k ∧ 0 ≤ l.getD 0 ∧ l.getD 0 ≤ h.getD n ∧ h.getD n ≤ n then
        K (.v (.ref R p k (some ((l.getD 0).toNat, (h.getD n).toNat - (l.getD 0).toNat)))) else none) hrel hh h
      rw [if_neg (by simp)] at h
      cases h
  | _ => rw [he] at h; cases h
end
end Go.Proofs.Ytboenehajoaahaa.Am
