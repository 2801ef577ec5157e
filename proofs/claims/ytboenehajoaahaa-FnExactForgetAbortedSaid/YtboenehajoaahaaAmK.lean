import Derived.Test.YtboenehajoaahaaAmJa
namespace Go.Proofs.Ytboenehajoaahaa.Am
open Go Go.RowKit
section
variable {α : Type} {P : Program} {ρ : Nat → FuncId} {base : Nat → Prop} {F : Fm} {fr : Frm} {S₀ : Nat → Prop} {Γ : Hp} {β : Nat → Lay} {B : Nat → List Nat} {a : Act} {w w' : World} {E : Env}
  {K : Eff → Option α} {r : α} {G : Prop} {o : Oper}
theorem Qzk {x : Operand} {x' : Opd} (hrel : Rel ρ S₀ base F fr Γ β B a w) (ho : o.op = .nilCheck x) (hx : opdOK ρ F.wd x x' = true)
    (h : (AOp.nilck x').step E fr Γ K = some r) (hK : Cont P ρ S₀ base F fr Γ β B a w o K r G) : G := by
  simp only [AOp.step] at h
  have hv := hrel.opd hx
  cases he : x'.ev fr with
  | val u =>
    rw [he] at h hv
    cases u with
    | vp u =>
      obtain ⟨b, off, c1, e, _⟩ := VD_vp hv
      exact hK.here _ _ h hv (fun w' _ => by simp [execOp, ho, e])
    | _ => cases h
  | ptr R p =>
    rw [he] at h hv
    obtain ⟨b, off, e, _⟩ := Qas hv
    exact hK.here _ _ h hv (fun w' _ => by simp [execOp, ho, e])
  | _ => rw [he] at h; cases h
def fieldOK (P : Program) (t : TypeId) (j off : Nat) : Bool := match P.underlying t with
  | some (.struct fs) => match fs[j]? with
    | some f => f.offset == off && (match tySize P f.type with | some 0 => false | some _ => true | none => false)
    | none => false
  | _ => false
theorem Qoc {t : TypeId} {j off : Nat} (h : fieldOK P t j off = true) (b o : Nat) : (Instr.fieldAt t (.pointer (some ⟨b, o, none⟩)) j).run P w = .ok (.pointer (some ⟨b, o + off, none⟩)) w := by
  unfold fieldOK at h
  split at h
  · rename_i fs hu
    split at h
    · rename_i f hf
      simp only [Bool.and_eq_true, beq_iff_eq] at h
      obtain ⟨rfl, hz⟩ := h
      split at hz
      · cases hz
      · rename_i n hn0 hn
        have hne : n ≠ 0 := fun e => hn0 e
        have hrun := Qa7 (w := w) hn
        unfold Instr.fieldAt
        simp only [Sem.run_bind, run_underlying hu, Result.andThen_ok, hf, Instr.sureAddr, Sem.run_pure, fieldPlace, hrun, hne, if_false, Addr.add_mid]
      · cases hz
    · cases h
  · cases h
theorem Qgb {j off : Nat} {u : U} {K : U → Option α} (h : u.fieldAt j off K = some r) : ∃ us u', u = .agg us ∧ off = sizes (us.take j) ∧ us[j]? = some u' ∧ K u' = some r := by
  cases u with
  | agg us =>
    simp only [U.fieldAt] at h
    split at h
    · obtain ⟨u', hu, hr⟩ := Option.bind_eq_some_iff.1 h
      exact ⟨us, u', rfl, ‹_›, hu, hr⟩
    · cases h
  | _ => cases h
theorem Qxk {b off : Nat} {c1 c2 c3 : List Value} (h : w.rangeAt b off (c1 ++ c2 ++ c3)) : w.rangeAt b (off + c1.length) c2 := fun j v hv => by
  have hj : j < c2.length := (List.getElem?_eq_some_iff.1 hv).1
  rw [Nat.add_assoc]
  refine h _ v ?_
  rw [List.append_assoc, List.getElem?_append_right (by omega), Nat.add_sub_cancel_left, List.getElem?_append_left hj]
  exact hv
theorem Qy9 {t : TypeId} {x : Operand} {j off : Nat} {x' : Opd} (hrel : Rel ρ S₀ base F fr Γ β B a w) (ho : o.op = .fieldAddr t x j) (ht : fieldOK P t j off = true) (hx : opdOK ρ F.wd x x' = true)
    (h : (AOp.faddr j off x').step E fr Γ K = some r) (hK : Cont P ρ S₀ base F fr Γ β B a w o K r G) : G := by
  simp only [AOp.step] at h
  have hv := hrel.opd hx
  cases he : x'.ev fr with
  | val u =>
    rw [he] at h hv
    cases u with
    | vp u =>
      obtain ⟨us, u', rfl, hoff, hj, hr⟩ := Qgb (K := fun u' => K (.v (.val (.vp u')))) h
      obtain ⟨b, o1, c1, e, hb, hc, hu⟩ := VD_vp hv
      obtain ⟨ca, cb, cc, rfl, hla, hlb, _, hub, _⟩ := hu.agg_inv.at_ hj
      refine hK.here _ _ hr (Ql ⟨[.pointer (some ⟨b, o1 + off, none⟩)], .vp b (o1 + off) hb ?_ hub .nil, rfl⟩) (fun w' _ => by simp only [execOp, ho, e]; exact run_v (Qoc ht b o1))
      rw [hoff, ← hla]
      exact Qxk hc
    | _ => cases h
  | ptr R p =>
    rw [he] at h hv
    obtain ⟨b, o1, e, hgo⟩ := Qas hv
    refine hK.here _ _ h (Qbp (b := b) (off := o1 + off) ?_) (fun w' _ => by simp only [execOp, ho, e]; exact run_v (Qoc ht b o1))
    unfold Lay.go at hgo ⊢
    rw [Qcg _ _ _ _ _ hgo (fun e => by cases e)]
    rfl
  | _ => rw [he] at h; cases h
theorem Qya {t : TypeId} {j off : Nat} {S : Nat → Prop} {u' : U} (h : fieldOK P t j off = true) {us : List U} {cs : List Value} (hc : URs ρ w S us cs) (hoff : off = sizes (us.take j)) (hj : us[j]? = some u')
    (hty : ∀ fs f, P.underlying t = some (.struct fs) → fs[j]? = some f → tyAgg P f.type = some (D.val u').isAgg ∧ tySize P f.type = some u'.size) :
    ∃ v, (∀ w2, (Instr.field t (.agg cs.toArray) j).run P w2 = .ok v w2) ∧ UV ρ w S u' v := by
  obtain ⟨ca, cb, cc, rfl, hla, hlb, _, hub, _⟩ := hc.at_ hj
  unfold fieldOK at h
  split at h
  · rename_i fs hu
    split at h
    · rename_i f hf
      simp only [Bool.and_eq_true, beq_iff_eq] at h
      obtain ⟨hfo, _⟩ := h
      obtain ⟨hta, htz⟩ := hty fs f hu hf
      have hag := fun w2 => Qdw (w := w2) hta
      cases hag2 : (D.val u').isAgg with
      | true =>
        simp only [hag2] at hag
        refine ⟨.agg cb.toArray, fun w2 => ?_, cb, hub, by simp [hag2]⟩
        unfold Instr.field
        simp only [Sem.run_bind, run_underlying hu, Result.andThen_ok, hf, asAgg, Sem.run_pure, part, hag, if_true, Qa7 (w := w2) htz]
        congr 2
        rw [hfo, hoff, ← hla, ← hlb]
        apply Array.ext'
        simp
      | false =>
        simp only [hag2] at hag
        have h1 : cb.length = 1 := by rw [hlb]; exact Qer hag2
        match cb, h1 with
        | [v], _ =>
          refine ⟨v, fun w2 => ?_, [v], hub, by simp [hag2]⟩
          have hv : (ca ++ [v] ++ cc).toArray[f.offset]? = some v := by rw [hfo, hoff, ← hla]; simp
          unfold Instr.field
          simp only [Sem.run_bind, run_underlying hu, Result.andThen_ok, hf, asAgg, Sem.run_pure, part, hag, Bool.false_eq_true, if_false, hv]
    · cases h
  · cases h
def fieldTy (P : Program) (t : TypeId) (j : Nat) (agg : Bool) (size : Nat) : Bool := match P.underlying t with
  | some (.struct fs) => match fs[j]? with
    | some f => tyAgg P f.type == some agg && tySize P f.type == some size
    | none => false
  | _ => false
theorem DCs.undef_free {S : Nat → Prop} {ds : List D} {j : Nat} {d : D} {cs : List Value} (h : DCs ρ w S β ds cs) (hj : ds[j]? = some d) : ∃ c1 c2 c3, cs = c1 ++ c2 ++ c3 ∧ c1.length = dsizes (ds.take j) ∧ c2.length = d.size ∧ DCs ρ w S β [d] c2 := by
  obtain ⟨c1, c2, c3, h1, h2, h3, _, h4, _⟩ := h.at_ hj
  exact ⟨c1, c2, c3, h1, h2, h3, h4⟩
theorem Qx9 {t : TypeId} {j off : Nat} {S : Nat → Prop} {d : D} {agg : Bool} {size : Nat} (h : fieldOK P t j off = true) (hty : fieldTy P t j agg size = true) {ds : List D} {cs : List Value} (hc : DCs ρ w S β ds cs) (hoff : off = dsizes (ds.take j)) (hj : ds[j]? = some d) (hA : d.isAgg = agg) (hZ : d.size = size) :
    ∃ v, (∀ w2, (Instr.field t (.agg cs.toArray) j).run P w2 = .ok v w2) ∧ V1 ρ w S β d v := by
  obtain ⟨ca, cb, cc, rfl, hla, hlb, hub⟩ := hc.undef_free hj
  unfold fieldOK at h
  split at h
  · rename_i fs hu
    split at h
    · rename_i f hf
      simp only [Bool.and_eq_true, beq_iff_eq] at h
      obtain ⟨hfo, _⟩ := h
      have hty2 : tyAgg P f.type = some agg ∧ tySize P f.type = some size := by
        unfold fieldTy at hty
        simp only [hu, hf, Bool.and_eq_true, beq_iff_eq] at hty
        exact hty
      obtain ⟨hta, htz⟩ := hty2
      have hag := fun w2 => Qdw (w := w2) hta
      cases hag2 : agg with
      | true =>
        simp only [hag2] at hag
        refine ⟨.agg cb.toArray, fun w2 => ?_, .inr ⟨cb, hub, by rw [hA, hag2]; rfl⟩⟩
        unfold Instr.field
        simp only [Sem.run_bind, run_underlying hu, Result.andThen_ok, hf, asAgg, Sem.run_pure, part, hag, if_true, Qa7 (w := w2) htz]
        congr 2
        rw [hfo, hoff, ← hla, ← hZ, ← hlb]
        apply Array.ext'
        simp
      | false =>
        simp only [hag2] at hag
        have h1 : cb.length = 1 := by
          rw [hlb]
          exact Qgg (hA.trans hag2) (fun ⟨_, e⟩ => by subst e; cases hub) (fun ⟨_, e⟩ => by subst e; cases hub)
        match cb, h1 with
        | [v], _ =>
          refine ⟨v, fun w2 => ?_, .inr ⟨[v], hub, by rw [hA, hag2]; rfl⟩⟩
          have hv : (ca ++ [v] ++ cc).toArray[f.offset]? = some v := by rw [hfo, hoff, ← hla]; simp
          unfold Instr.field
          simp only [Sem.run_bind, run_underlying hu, Result.andThen_ok, hf, asAgg, Sem.run_pure, part, hag, Bool.false_eq_true, if_false, hv]
    · cases h
  · cases h
theorem Qza {t : TypeId} {x : Operand} {agg : Bool} {size j off : Nat} {x' : Opd} (hrel : Rel ρ S₀ base F fr Γ β B a w) (ho : o.op = .field t x j) (ht : fieldOK P t j off = true) (hty : fieldTy P t j agg size = true) (hx : opdOK ρ F.wd x x' = true)
    (h : (AOp.field agg size j off x').step E fr Γ K = some r) (hK : Cont P ρ S₀ base F fr Γ β B a w o K r G) : G := by
  simp only [AOp.step] at h
  have hv := hrel.opd hx
  cases he : x'.ev fr with
  | val u =>
    rw [he] at h hv
    obtain ⟨us, u', rfl, hoff, hj, hr⟩ := Qgb (K := fun u' => u'.asVar agg size fun u' => K (.v (.val u'))) h
    obtain ⟨hA, hZ, hr⟩ := Qag (K := fun u' => K (.v (.val u'))) hr
    obtain ⟨cs, e, hc⟩ := Qd5 hv
    obtain ⟨v, hrun, hvv⟩ := Qya (P := P) ht hc hoff hj (fun fs f hu hf => by
      unfold fieldTy at hty
      simp only [hu, hf, Bool.and_eq_true, beq_iff_eq] at hty
      rw [hA, hZ]
      exact hty)
    exact hK.here _ _ hr (Ql hvv) (fun w' _ => by simp only [execOp, ho, e]; exact run_v (hrun w'))
  | agg ds =>
    rw [he] at h hv
    simp only at h
    split at h
    rotate_left
    · cases h
    rename_i hoff
    obtain ⟨d, hj, h⟩ := Option.bind_eq_some_iff.1 h
    split at h
    rotate_left
    · cases h
    rename_i hc
    obtain ⟨hA, hZ, _⟩ := hc
    rcases hv with hv | ⟨cs, h1, h2⟩
    · cases hv
    · have e : a.eval x = .agg cs.toArray := by simpa [D.isAgg] using h2
      obtain ⟨v, hrun, hvv⟩ := Qx9 (P := P) ht hty h1.agg_inv hoff hj hA hZ
      exact hK.here _ _ h (Qbd hvv) (fun w' _ => by simp only [execOp, ho, e]; exact run_v (hrun w'))
  | _ => rw [he] at h; cases h
theorem Qaai {u : U} {K : Int → Option α} (h : u.asInt K = some r) : ∃ n, u = .int .i64 n ∧ K n = some r := by
  unfold U.asInt at h
  split at h
  · exact ⟨_, rfl, h⟩
  · cases h
theorem Qad {d : D} {K : Int → Option α} (h : d.asInt K = some r) : ∃ n, d = .val (.int .i64 n) ∧ K n = some r := by
  unfold D.asInt at h
  split at h
  · obtain ⟨n, rfl, hr⟩ := Qaai h
    exact ⟨n, rfl, hr⟩
  · cases h
theorem Rel.int (hrel : Rel ρ S₀ base F fr Γ β B a w) {x : Operand} {x' : Opd} (hx : opdOK ρ F.wd x x' = true) {n : Int} (h : x'.ev fr = .val (.int .i64 n)) : a.eval x = .int .i64 n := by
  have := hrel.opd hx
  rw [h] at this
  exact Qbc this
theorem Qg6 {t e : TypeId} {k : Nat} (ht : tyElem P t = some e) (hk : tySize P e = some k) (b off len cap : Nat) (i : Int) (h0 : 0 ≤ i) (h1 : i < len) :
    (Instr.indexAt t (.slice (some ⟨b, off, none⟩) len cap) (.int .i64 i)).run P w = .ok (.pointer (some ⟨b, off + i.toNat * k, none⟩)) w := by
  unfold Instr.indexAt
  simp only [asIntOf, Sem.run_bind, Sem.run_pure, Result.andThen_ok, run_underlying (Qbo ht), h0, h1, and_self, if_true, Qa7 (w := w) hk, Addr.add_mid]
theorem Qyh {S : Nat → Prop} {h : Hdr} {k n : Nat} {d : D} {cs : List Value} {Bc : List Nat} (hs : d.slLenO k = some n) (t : TCs ρ w S β [(h, d.ex)] cs Bc) :
    ∃ ad cap, cs = [.slice ad n cap] ∧ h [] = some (.slice ad n cap) ∧ n ≤ cap ∧ cap ≤ maxLen ∧ (0 < n → ∃ b, ad = some ⟨b, 0, none⟩) := by
  have key : ∀ ds, ds.length = n → d.ex = .osl k ds → ∃ ad cap, cs = [.slice ad n cap] ∧ h [] = some (.slice ad n cap) ∧ n ≤ cap ∧ cap ≤ maxLen ∧ (0 < n → ∃ b, ad = some ⟨b, 0, none⟩) := fun ds hl e => by
    rw [e] at t
    cases t with
    | osl0 hh t =>
      cases t
      simp only [List.length_nil] at hl
      subst hl
      exact ⟨_, 0, rfl, hh, Nat.le_refl _, Nat.zero_le _, fun h => by omega⟩
    | osl hh hb hsz hle hmax hks ht h1 t =>
      cases t
      rw [hl] at hh hle ⊢
      exact ⟨_, _, rfl, hh, hle, hmax, fun _ => ⟨_, rfl⟩⟩
  unfold D.slLenO at hs
  cases d with
  | own u =>
    cases u with
    | sl k' us =>
      simp only [D.slLen, U.asSlK] at hs
      split at hs
      · rename_i e; subst e; cases hs; exact key (U.ex.exs us) (by rw [Qi, List.length_map]) rfl
      · cases hs
    | _ => cases hs
  | asl k' us =>
    simp only [D.slLen] at hs
    split at hs
    · rename_i e; subst e; cases hs; exact key _ (by simp) rfl
    · cases hs
  | osl k' ds =>
    simp only [D.slLen] at hs
    split at hs
    · rename_i e; subst e; cases hs; exact key (D.ex.exs ds) (by rw [Qr, List.length_map]) rfl
    · cases hs
  | _ => cases hs
theorem Rel.at_ref (hrel : Rel ρ S₀ base F fr Γ β B a w) {R k n : Nat} {p : List Step} {d : D} {v0 : Value} (hv : (β R).hdr p = some v0) (hat : Γ.atO R p = some d) (hs : d.slLenO k = some n) :
    ∃ ad cap, v0 = .slice ad n cap ∧ n ≤ cap ∧ cap ≤ maxLen ∧ (0 < n → ∃ b, ad = some ⟨b, 0, none⟩ ∧ ∀ i k', (β R).go (p ++ [.elt i k']) = some (.adr b (0 + i * k'))) := by
  obtain ⟨c, d0, hc, hd, hg⟩ := Qat hat
  have hl := Lay.live_of_hdr hv
  obtain ⟨cs, Bo, Bc, mk, hpart⟩ := (hrel.roots R c hc hl).part hd hg
  obtain ⟨ad, cap, rfl, hh, h1, h2, h3⟩ := Qyh hs hpart.cells
  have hh2 : (β R).h p = some (.slice ad n cap) := by simpa [Hdr.sub] using hh
  rw [Lay.hdr_live hl, hh2] at hv
  cases hv
  refine ⟨ad, cap, rfl, h1, h2, fun hn => ?_⟩
  obtain ⟨b, rfl⟩ := h3 hn
  refine ⟨b, rfl, fun i k' => ?_⟩
  have hgo : ∃ c, (β R).go p = some c ∧ c ≠ .dead := by
    rcases hpart.spot with ⟨b', off', cur, e, g1, _⟩ | ⟨g1, _⟩
    · exact ⟨_, g1, fun e => by cases e⟩
    · exact ⟨_, g1, fun e => by cases e⟩
  obtain ⟨c, g1, g2⟩ := hgo
  unfold Lay.go at g1 ⊢
  rw [Qcg _ _ _ _ _ g1 g2]
  cases c with
  | dead => exact absurd rfl g2
  | adr b' o' => simp only [place, hh, hdrAddr, Option.bind_some]
  | vir => simp only [place, hh, hdrAddr, Option.bind_some]
theorem Qzb {t e : TypeId} {x i : Operand} {k : Nat} {x' i' : Opd} (hrel : Rel ρ S₀ base F fr Γ β B a w) (ho : o.op = .indexAddr t x i) (ht : tyElem P t = some e) (hk : tySize P e = some k) (hx : opdOK ρ F.wd x x' = true) (hi : opdOK ρ F.wd i i' = true)
    (h : (AOp.iaddr k x' i').step E fr Γ K = some r) (hK : Cont P ρ S₀ base F fr Γ β B a w o K r G) : G := by
  simp only [AOp.step] at h
  have hv := hrel.opd hx
  cases he : x'.ev fr with
  | val u =>
    rw [he] at h hv
    simp only at h
    obtain ⟨n, hn, h'⟩ := Qad (K := fun n => u.elemAt k n fun u' => K (.v (.val (.vp u')))) h
    clear h
    have h := h'
    clear h'
    have hin := hrel.int hi hn
    cases u with
    | sl k' us =>
      simp only [U.elemAt] at h
      by_cases hkk : k' = k
      · rw [if_pos hkk] at h
        subst hkk
        by_cases h0 : 0 ≤ n
        · rw [if_pos h0] at h
          obtain ⟨u', hu', hr⟩ := Option.bind_eq_some_iff.1 h
          have hlt : n.toNat < us.length := (List.getElem?_eq_some_iff.1 hu').1
          rcases VD_sl hv with ⟨rfl, _⟩ | ⟨b, off, cap, c1, hne, e1, hb, hcap, hmax, hks, hc, hus⟩
          · simp at hu'
          · obtain ⟨c, hlc, hcu, hat⟩ := hus.elem hks hu'
            refine hK.here _ _ hr (Ql ⟨[.pointer (some ⟨b, off + n.toNat * k', none⟩)], .vp b _ hb (fun j v hv => ?_) hcu .nil, rfl⟩)
              (fun w' _ => by simp only [execOp, ho, e1, hin]; exact run_v (Qg6 ht hk b off us.length cap n h0 (by omega)))
            rw [Nat.add_assoc]
            exact hc _ _ (hat j v hv)
        · rw [if_neg h0] at h; cases h
      · rw [if_neg hkk] at h; cases h
    | _ => cases h
  | ref R p k' part =>
    rw [he] at h hv
    obtain ⟨v0, hβ, hsub⟩ := Qaz hv
    cases part with
    | none =>
      simp only [at_eq, Qa8] at h
      obtain ⟨d, hat, h⟩ := Option.bind_eq_some_iff.1 h
      obtain ⟨m, hlen, h⟩ := Option.bind_eq_some_iff.1 h
      obtain ⟨n, hn, h⟩ := Qad (K := fun n => if k' = k ∧ 0 ≤ n ∧ n < m then K (.v (.ptr R (p ++ [.elt n.toNat k]))) else none) h
      have hin := hrel.int hi hn
      split at h
      · rename_i hc
        obtain ⟨rfl, h0, h1⟩ := hc
        obtain ⟨hsub, _⟩ := hsub
        obtain ⟨ad, cap, rfl, h2, h3, h4⟩ := hrel.at_ref hβ hat hlen
        obtain ⟨b, rfl, hgo⟩ := h4 (by omega)
        exact hK.here _ _ h (Qbp (hgo _ _)) (fun w' _ => by simp only [execOp, ho, hin, hsub]; exact run_v (Qg6 ht hk b 0 m cap n h0 h1))
      · cases h
    | some om =>
      obtain ⟨off, m⟩ := om
      simp only [at_eq, Qa8] at h
      obtain ⟨d, hat, h⟩ := Option.bind_eq_some_iff.1 h
      obtain ⟨l, hlen, h⟩ := Option.bind_eq_some_iff.1 h
      obtain ⟨n, hn, h⟩ := Qad (K := fun n => if k' = k ∧ 0 ≤ n ∧ n < m ∧ off + m ≤ l then K (.v (.ptr R (p ++ [.elt (off + n.toNat) k]))) else none) h
      have hin := hrel.int hi hn
      split at h
      · rename_i hc
        obtain ⟨rfl, h0, h1, h2⟩ := hc
        obtain ⟨ad, cap, rfl, g2, g3, g4⟩ := hrel.at_ref hβ hat hlen
        obtain ⟨b, rfl, hgo⟩ := g4 (by omega)
        obtain ⟨ad', l', c, ad2, hv0, e1, hle, hlc, hcm, had⟩ := hsub
        cases hv0
        have had' : ad2 = some ⟨b, 0 + off * k', none⟩ := by
          rcases had with had | had
          · omega
          · rw [had]; simp [Addr.add_mid]
        rw [had'] at e1
        refine hK.here _ _ h (Qbp (hgo _ _)) (fun w' _ => ?_)
        simp only [execOp, ho, hin, e1]
        have := Qg6 (w := w') ht hk b (0 + off * k') m (cap - off) n h0 h1
        rw [Nat.add_assoc, ← Nat.add_mul] at this
        exact run_v this
      · cases h
  | _ => rw [he] at h; cases h
def arrOK (P : Program) (t : TypeId) (n k : Nat) : Bool := match P.underlying t with
  | some (.array m e) => m == n && tySize P e == some k
  | _ => false
theorem Qyl {t : TypeId} {x i : Operand} {n k : Nat} {x' i' : Opd} (hrel : Rel ρ S₀ base F fr Γ β B a w) (ho : o.op = .indexAddr t x i) (ht : arrOK P t n k = true) (hx : opdOK ρ F.wd x x' = true) (hi : opdOK ρ F.wd i i' = true)
    (h : (AOp.aaddr n k x' i').step E fr Γ K = some r) (hK : Cont P ρ S₀ base F fr Γ β B a w o K r G) : G := by
  simp only [AOp.step] at h
  have hv := hrel.opd hx
  cases he : x'.ev fr with
  | ptr R p =>
    rw [he] at h hv
    simp only at h
    obtain ⟨m, hm, h'⟩ := Qad (K := fun m => if 0 ≤ m ∧ m < n then K (.v (.ptr R (p ++ [.fld m.toNat (m.toNat * k)]))) else none) h
    clear h
    have h := h'
    clear h'
    have hin := hrel.int hi hm
    split at h
    · rename_i hc
      obtain ⟨h0, h1⟩ := hc
      obtain ⟨b, off, e1, hgo⟩ := Qas hv
      unfold arrOK at ht
      split at ht
      · rename_i m' e hu
        simp only [Bool.and_eq_true, beq_iff_eq] at ht
        obtain ⟨rfl, hk⟩ := ht
        refine hK.here _ _ h (Qbp (b := b) (off := off + m.toNat * k) ?_) fun w' _ => ?_
        · unfold Lay.go at hgo ⊢
          rw [Qcg _ _ _ _ _ hgo (fun e => by cases e)]
          rfl
        · simp only [execOp, ho, hin, e1]
          refine run_v ?_
          unfold Instr.indexAt
          simp only [asIntOf, Sem.run_bind, Sem.run_pure, Result.andThen_ok, run_underlying hu, Instr.sureAddr, h0, h1, and_self, if_true, Qa7 (w := w') hk, Addr.add_mid]
      · cases ht
    · cases h
  | _ => rw [he] at h; cases h
theorem Qzd {t : TypeId} {x i : Operand} {x' i' : Opd} (hrel : Rel ρ S₀ base F fr Γ β B a w) (ho : o.op = .index t x i) (ht : P.underlying t = some .string) (hx : opdOK ρ F.wd x x' = true) (hi : opdOK ρ F.wd i i' = true)
    (h : (AOp.idxs x' i').step E fr Γ K = some r) (hK : Cont P ρ S₀ base F fr Γ β B a w o K r G) : G := by
  simp only [AOp.step] at h
  have hv := hrel.opd hx
  cases he : x'.ev fr with
  | val u =>
    rw [he] at h hv
    obtain ⟨n, hn, h⟩ := Qad h
    have hin := hrel.int hi hn
    cases u with
    | str s =>
      simp only [U.charAt] at h
      split at h
      · rename_i h0
        obtain ⟨b, hb, hr⟩ := Option.bind_eq_some_iff.1 h
        refine hK.here _ _ hr (Ql (Qv _ _ _)) fun w' _ => ?_
        simp only [execOp, ho, hin, Qbe hv]
        refine run_v ?_
        unfold Instr.index
        simp only [asIntOf, Sem.run_bind, Sem.run_pure, Result.andThen_ok, run_underlying ht, h0, if_true, hb]
      · cases h
    | _ => cases h
  | _ => rw [he] at h; cases h
theorem Qyb {S : Nat → Prop} {ty : TypeId} {us : List U} {cs : List Value} {j off : Nat} {u' : U} (hta : tyAgg P ty = some (D.val u').isAgg) (htz : tySize P ty = some u'.size) (hc : URs ρ w S us cs) (hoff : off = sizes (us.take j)) (hj : us[j]? = some u') :
    ∃ v, (∀ w2, (part ty cs.toArray off).run P w2 = .ok v w2) ∧ UV ρ w S u' v := by
  obtain ⟨ca, cb, cc, rfl, hla, hlb, _, hub, _⟩ := hc.at_ hj
  have hag := fun w2 => Qdw (w := w2) hta
  cases hag2 : (D.val u').isAgg with
  | true =>
    simp only [hag2] at hag
    refine ⟨.agg cb.toArray, fun w2 => ?_, cb, hub, by simp [hag2]⟩
    unfold part
    simp only [Sem.run_bind, Result.andThen_ok, Sem.run_pure, hag, if_true, Qa7 (w := w2) htz]
    congr 2
    rw [hoff, ← hla, ← hlb]
    apply Array.ext'
    simp
  | false =>
    simp only [hag2] at hag
    have h1 : cb.length = 1 := by rw [hlb]; exact Qer hag2
    match cb, h1 with
    | [v], _ =>
      refine ⟨v, fun w2 => ?_, [v], hub, by simp [hag2]⟩
      have hv : (ca ++ [v] ++ cc).toArray[off]? = some v := by rw [hoff, ← hla]; simp
      unfold part
      simp only [Sem.run_bind, Result.andThen_ok, Sem.run_pure, hag, Bool.false_eq_true, if_false, hv]
def idxaOK (P : Program) (t : TypeId) (agg : Bool) (size n k : Nat) : Bool := match P.underlying t with
  | some (.array m e) => m == n && tySize P e == some k && tyAgg P e == some agg && tySize P e == some size
  | _ => false
theorem Qzc {t : TypeId} {x i : Operand} {agg : Bool} {size n k : Nat} {x' i' : Opd} (hrel : Rel ρ S₀ base F fr Γ β B a w) (ho : o.op = .index t x i) (ht : idxaOK P t agg size n k = true) (hx : opdOK ρ F.wd x x' = true) (hi : opdOK ρ F.wd i i' = true)
    (h : (AOp.idxa agg size n k x' i').step E fr Γ K = some r) (hK : Cont P ρ S₀ base F fr Γ β B a w o K r G) : G := by
  simp only [AOp.step] at h
  have hv := hrel.opd hx
  cases he : x'.ev fr with
  | val u =>
    rw [he] at h hv
    simp only [D.asVal] at h
    obtain ⟨m, hm, h'⟩ := Qad (K := fun m => if 0 ≤ m ∧ m < n then u.fieldAt m.toNat (m.toNat * k) fun u' => u'.asVar agg size fun u' => K (.v (.val u')) else none) h
    clear h
    have h := h'
    clear h'
    have hin := hrel.int hi hm
    split at h
    · rename_i hc
      obtain ⟨us, u', rfl, hoff, hj, hr⟩ := Qgb (K := fun u' => u'.asVar agg size fun u' => K (.v (.val u'))) h
      obtain ⟨hA, hZ, hr⟩ := Qag (K := fun u' => K (.v (.val u'))) hr
      obtain ⟨cs, e, hcs⟩ := Qd5 hv
      unfold idxaOK at ht
      split at ht
      · rename_i m' el hu
        simp only [Bool.and_eq_true, beq_iff_eq] at ht
        obtain ⟨⟨⟨rfl, hk⟩, hag⟩, hsz⟩ := ht
        obtain ⟨v, hrun, hvv⟩ := Qyb (P := P) (ty := el) (by rw [hA]; exact hag) (by rw [hZ]; exact hsz) hcs hoff hj
        refine hK.here _ _ hr (Ql hvv) fun w' _ => ?_
        simp only [execOp, ho, e, hin]
        refine run_v ?_
        unfold Instr.index
        simp only [asIntOf, Sem.run_bind, Sem.run_pure, Result.andThen_ok, run_underlying hu, hc, and_self, if_true, Qa7 (w := w') hk]
        exact hrun w'
      · cases ht
    · cases h
  | _ => rw [he] at h; cases h
theorem Qfn {S : Nat → Prop} : ∀ {ds : List D} {vs : List Value} {j : Nat} {d : D}, V1s ρ w S β ds vs → ds[j]? = some d → ∃ v, vs[j]? = some v ∧ V1 ρ w S β d v
  | [], vs, j, d, h, hj => by simp at hj
  | d0 :: ds, vs, 0, d, h, hj => by
    obtain ⟨v, vs', rfl, h1, h2⟩ := h
    simp only [List.getElem?_cons_zero, Option.some.injEq] at hj
    subst hj
    exact ⟨v, rfl, h1⟩
  | d0 :: ds, vs, j + 1, d, h, hj => by
    obtain ⟨v, vs', rfl, h1, h2⟩ := h
    simp only [List.getElem?_cons_succ] at hj ⊢
    exact Qfn h2 hj
theorem Qy8 {x : Operand} {j : Nat} {x' : Opd} (hrel : Rel ρ S₀ base F fr Γ β B a w) (ho : o.op = .extract x j) (hx : opdOK ρ F.wd x x' = true)
    (h : (AOp.extract j x').step E fr Γ K = some r) (hK : Cont P ρ S₀ base F fr Γ β B a w o K r G) : G := by
  simp only [AOp.step] at h
  have hv := hrel.opd hx
  cases he : x'.ev fr with
  | val u =>
    rw [he] at h hv
    cases u with
    | tup us =>
      simp only [U.part] at h
      obtain ⟨u', hu, hr⟩ := Option.bind_eq_some_iff.1 h
      obtain ⟨vs, e1, hvs⟩ := Qpv hv
      obtain ⟨v, hj, hv1⟩ := Qfn (j := j) (d := .val u') hvs (by simp [hu])
      refine hK.here _ _ hr (Qbd hv1) fun w' _ => ?_
      simp only [execOp, ho, e1]
      exact run_v (by simp [Instr.extract, hj])
    | _ => cases h
  | tup ds =>
    rw [he] at h hv
    obtain ⟨d', hu, hr⟩ := Option.bind_eq_some_iff.1 h
    obtain ⟨vs, e1, hvs⟩ := hv
    obtain ⟨v, hj, hv1⟩ := Qfn (j := j) hvs hu
    refine hK.here _ _ hr (Qbd hv1) fun w' _ => ?_
    simp only [execOp, ho, e1]
    exact run_v (by simp [Instr.extract, hj])
  | _ => rw [he] at h; cases h
def lenTyOK (P : Program) (t : TypeId) : Bool → Bool
  | true => match P.underlying t with | some .string => true | _ => false
  | false => match P.underlying t with | some (.slice _) => true | _ => false
theorem Qog {args : Array Operand} {tys : Array TypeId} (ho : o.op = .call { callee := .builtin .len, args := args, argTypes := tys }) {v u : Value} (hargs : args.map a.eval = #[v])
    (h : (Builtin.len_ tys o.type #[v]).run P w = .ok u w) : (execOp a.eval o).run P w = .ok (.value u) w := by
  simp only [execOp, ho, resolve, hargs, Sem.run_bind, Sem.run_pure, Result.andThen_ok, invoke, builtin, h]
theorem Qze {t : TypeId} {x : Operand} {str : Bool} {x' : Opd} (hrel : Rel ρ S₀ base F fr Γ β B a w) (ho : o.op = .call { callee := .builtin .len, args := #[x], argTypes := #[t] }) (ht : lenTyOK P t str = true) (hx : opdOK ρ F.wd x x' = true)
    (h : (AOp.len str x').step E fr Γ K = some r) (hK : Cont P ρ S₀ base F fr Γ β B a w o K r G) : G := by
  simp only [AOp.step] at h
  have hv := hrel.opd hx
  have hsl : str = false → ∃ e, P.underlying t = some (.slice e) := by
    rintro rfl
    unfold lenTyOK at ht
    simp only at ht
    split at ht
    · exact ⟨_, ‹_›⟩
    · cases ht
  have hslice : str = false → ∀ ad n c, a.eval x = .slice ad n c → ∀ w2, Below w.heap.size w w2 → (execOp a.eval o).run P w2 = .ok (.value (.int .i64 n)) w2 := by
    intro hs ad n c e1 w2 _
    obtain ⟨e, hu⟩ := hsl hs
    exact Qog ho (v := .slice ad n c) (by simp [e1]) (by simp [Builtin.len_, run_underlying hu, goInt])
  cases he : x'.ev fr with
  | val u =>
    rw [he] at h hv
    obtain ⟨n, hn, hr⟩ := Option.bind_eq_some_iff.1 h
    unfold U.lenOf at hn
    split at hn
    · cases hn
      rcases VD_sl hv with ⟨rfl, ad, cap, e1⟩ | ⟨b, off, cap, c1, hne, e1, _⟩
      · exact hK.here _ _ hr (Ql (Qv _ _ _)) (hslice rfl _ _ _ e1)
      · exact hK.here _ _ hr (Ql (Qv _ _ _)) (hslice rfl _ _ _ e1)
    · cases hn
      exact hK.here _ _ hr (Ql (Qv _ _ _)) (hslice rfl _ _ _ (Qar hv))
    · cases hn
      rename_i s0
      have e1 := Qbe hv
      unfold lenTyOK at ht
      simp only at ht
      split at ht
      · rename_i hu
        refine hK.here _ _ hr (Ql (Qv _ _ _)) fun w' _ => (Qog ho (v := .string s0) (by simp [e1]) ?_)
        simp [Builtin.len_, run_underlying hu, goInt]
      · cases ht
    · cases hn
  | ref R p k part =>
    rw [he] at h hv
    obtain ⟨v0, hβ, hsub⟩ := Qaz hv
    cases part with
    | none =>
      cases str with
      | true => cases h
      | false =>
        simp only [at_eq, Qa8, Bool.false_eq_true, if_false] at h
        obtain ⟨d, hat, h⟩ := Option.bind_eq_some_iff.1 h
        obtain ⟨m, hlen, h⟩ := Option.bind_eq_some_iff.1 h
        obtain ⟨hsub, _⟩ := hsub
        obtain ⟨ad, cap, rfl, _⟩ := hrel.at_ref hβ hat hlen
        exact hK.here _ _ h (Ql (Qv _ _ _)) (hslice rfl _ _ _ hsub)
    | some om =>
      obtain ⟨off, m⟩ := om
      cases str with
      | true => cases h
      | false =>
        obtain ⟨ad, l, c, ad', rfl, e1, _⟩ := hsub
        exact hK.here _ _ h (Ql (Qv _ _ _)) (hslice rfl _ _ _ e1)
  | _ => rw [he] at h; cases h
theorem Qzi {q : FuncId} {caps : Array Operand} {m : Nat} {caps' : List Opd} (hrel : Rel ρ S₀ base F fr Γ β B a w) (ho : o.op = .makeFunc (.func q) #[] caps) (hq : ρ m = q) (hc : ∃ cl : List Operand, caps = cl.toArray ∧ cl.length = caps'.length ∧ ∀ p ∈ cl.zip caps', opdOK ρ F.wd p.1 p.2 = true)
    (h : (AOp.mkfn m caps').step E fr Γ K = some r) (hK : Cont P ρ S₀ base F fr Γ β B a w o K r G) : G := by
  simp only [AOp.step] at h
  split at h
  · rename_i hok
    obtain ⟨cl, rfl, hlen, hall⟩ := hc
    have key : ∀ (cl : List Operand) (caps' : List Opd), cl.length = caps'.length → (∀ p ∈ cl.zip caps', opdOK ρ F.wd p.1 p.2 = true) → capsOK (evs fr caps') = true →
        DCs ρ w (Stands S₀ w Γ B) β (evs fr caps') (cl.map a.eval) ∧ ∀ d ∈ evs fr caps', d.isCap = true := by
      intro cl
      induction cl with
      | nil =>
        intro caps' hl _ _
        obtain rfl : caps' = [] := List.eq_nil_of_length_eq_zero (by simpa using hl.symm)
        exact ⟨.nil, by simp [evs]⟩
      | cons x cl ih =>
        intro caps' hl hall hok
        cases caps' with
        | nil => simp at hl
        | cons x' caps' =>
          have hx := hrel.opd (hall (x, x') (by simp))
          simp only [evs, List.map_cons] at hok ⊢
          cases he : x'.ev fr with
          | ptr R p =>
            rw [he] at hok hx
            obtain ⟨h1, h2⟩ := ih caps' (by simpa using hl) (fun p hp => hall p (by simp [hp])) hok
            obtain ⟨b, off, e1, hgo⟩ := Qas hx
            rw [e1]
            exact ⟨.ptr R p b off hgo h1, by intro d hd; rcases List.mem_cons.1 hd with rfl | hd; rfl; exact h2 d hd⟩
          | val u =>
            rw [he] at hok hx
            cases u with
            | vp u =>
              obtain ⟨h1, h2⟩ := ih caps' (by simpa using hl) (fun p hp => hall p (by simp [hp])) hok
              obtain ⟨b, off, c1, e1, hb, hcc, hu⟩ := VD_vp hx
              rw [e1]
              refine ⟨?_, by intro d hd; rcases List.mem_cons.1 hd with rfl | hd; rfl; exact h2 d hd⟩
              have := DCs.val (β := β) (URs.vp (ρ := ρ) (w := w) (us := []) (cs := []) b off hb hcc hu .nil) h1
              simpa [evs] using this
            | _ => cases hok
          | _ => rw [he] at hok; cases hok
    obtain ⟨h1, h2⟩ := key cl caps' hlen hall hok
    refine hK.here _ (.func (.func (ρ m)) #[] (cl.map a.eval).toArray) h (Qbd (.inr ⟨[_], .fnv m h1 h2 .nil, rfl⟩)) fun w' _ => ?_
    simp only [execOp, ho, Instr.makeFunc]
    subst hq
    simp
  · cases h
end
end Go.Proofs.Ytboenehajoaahaa.Am
