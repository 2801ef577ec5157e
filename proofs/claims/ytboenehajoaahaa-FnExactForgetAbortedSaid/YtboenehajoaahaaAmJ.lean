import Derived.Test.YtboenehajoaahaaAmH
namespace Go.Proofs.Ytboenehajoaahaa.Am
open Go Go.RowKit
theorem Qgg {d : D} (h : d.isAgg = false) (h2 : (∃ u, d = .own u) → False) (h3 : (∃ n, d = .junk n) → False) : d.size = 1 := by
  cases d with
  | val u => cases u <;> first | rfl | (simp [D.isAgg] at h)
  | agg ds => simp [D.isAgg] at h
  | own u => exact absurd ⟨u, rfl⟩ h2
  | junk n => exact absurd ⟨n, rfl⟩ h3
  | _ => rfl
theorem Qer {u : U} (h : (D.val u).isAgg = false) : u.size = 1 := Qgg (d := .val u) h (fun ⟨_, e⟩ => by cases e) (fun ⟨_, e⟩ => by cases e)
section
variable {α : Type} {P : Program} {ρ : Nat → FuncId} {base : Nat → Prop} {F : Fm} {fr : Frm} {S₀ : Nat → Prop} {Γ : Hp} {β : Nat → Lay} {B : Nat → List Nat} {a : Act} {w w' : World} {E : Env}
  {K : Eff → Option α} {r : α} {G : Prop} {o : Oper}
theorem Qg7 {S : Nat → Prop} {t : TypeId} {d : D} {b off : Nat} {c : List Value} (hag : tyAgg P t = some d.isAgg) (hsz : tySize P t = some d.size) (hc : w.rangeAt b off c) (hd : DCs ρ w S β [d] c) :
    ∃ v, (∀ w2, Below w.heap.size w w2 → (Instr.loadAt t (.pointer (some ⟨b, off, none⟩))).run P w2 = .ok v w2) ∧ V1 ρ w S β d v := by
  have hl : c.length = d.size := by rw [hd.length]; simp
  cases hda : d.isAgg with
  | true =>
    rw [hda] at hag
    refine ⟨.agg c.toArray, fun w2 hw2 => ?_, .inr ⟨c, hd, by simp [hda]⟩⟩
    unfold tyAgg at hag
    have : ∃ ty, P.underlying t = some ty ∧ ty.isRow = true := by
      split at hag
      · exact ⟨_, ‹_›, rfl⟩
      · exact ⟨_, ‹_›, rfl⟩
      · cases hag
      · cases hag
    obtain ⟨ty, hu, hr⟩ := this
    exact run_loadAt_mid w2 b off t c ty (Qnx hc hw2) hu hr (by rw [hl]; exact hsz)
  | false =>
    have h1 : c.length = 1 := by
      rw [hl]
      exact Qgg hda (fun ⟨_, e⟩ => by subst e; cases hd) (fun ⟨_, e⟩ => by subst e; cases hd)
    match c, h1 with
    | [v], _ =>
      refine ⟨v, fun w2 hw2 => ?_, .inr ⟨[v], hd, by simp [hda]⟩⟩
      rw [hda] at hag
      have hcell : w2.cell? ⟨b, off, none⟩ = some v := by simpa using Qnx hc hw2 0 v rfl
      simp only [Instr.loadAt, Instr.sureAddr, Sem.run_bind, Sem.run_pure, Result.andThen_ok, loadVar, Qdw hag]
      simp [hcell]
theorem Qbd {S : Nat → Prop} {d : D} {v : Value} (h : V1 ρ w S β d v) : VD ρ w S β d v := by
  unfold VD
  cases d with
  | tup ds =>
    rcases h with h | ⟨cs, h, _⟩
    · cases h
    · cases h
  | val u =>
    cases u with
    | tup us =>
      rcases h with h | ⟨cs, h, _⟩
      · cases h
      · have := h.val_inv; cases this
    | _ => exact h
  | skip =>
    rcases h with h | ⟨cs, h, _⟩
    · cases h
    · cases h
  | _ => exact h
theorem Qag {agg : Bool} {size : Nat} {u : U} {K : U → Option α} (h : u.asVar agg size K = some r) : (D.val u).isAgg = agg ∧ u.size = size ∧ K u = some r := by
  unfold U.asVar at h
  by_cases hc : (D.val u).isAgg = agg ∧ u.size = size
  · rw [if_pos hc] at h
    exact ⟨hc.1, hc.2, h⟩
  · rw [if_neg hc] at h; cases h
theorem Part.range {c : Cn} {L : Lay} {Bz : List Nat} {p : List Step} {d' : D} {cs : List Value} {Bo Bc : List Nat} {mk : List Nat → List Nat} {S : Nat → Prop} (h : Part ρ w S β c L Bz p d' cs Bo Bc mk) {b off : Nat} (hg : L.go p = some (.adr b off)) : w.rangeAt b off cs := by
  rcases h.spot with ⟨b', off', cur, e, h1, h2, h3, h4, h5, h6⟩ | ⟨h1, h6⟩
  · rw [hg] at h1
    cases h1
    exact Qch h3 h4
  · rw [hg] at h1; cases h1
theorem Rel.at_ptr (hrel : Rel ρ S₀ base F fr Γ β B a w) {R : Nat} {p : List Step} {d : D} {v : Value} (hv : VD ρ w (Stands S₀ w Γ B) β (.ptr R p) v) (hat : Γ.atO R p = some d) :
    ∃ b off cs Bc, v = .pointer (some ⟨b, off, none⟩) ∧ (β R).go p = some (.adr b off) ∧ w.rangeAt b off cs ∧ cs.length = d.size ∧ TCs ρ w (Stands S₀ w Γ B) β [((β R).h.sub p, d.ex)] cs Bc ∧ (∀ x ∈ Bc, x ∈ B R) ∧ (β R).live := by
  obtain ⟨b, off, e, hgo⟩ := Qas hv
  obtain ⟨c, d0, hc, hd, hg⟩ := Qat hat
  have hl := Lay.live_of_go hgo
  obtain ⟨cs, Bo, Bc, mk, hpart⟩ := (hrel.roots R c hc hl).part hd hg
  exact ⟨b, off, cs, Bc, e, hgo, hpart.range hgo, hpart.len, hpart.cells, fun x hx => (hpart.mem x).2 (.inr hx), hl⟩
theorem Qhh {t : TypeId} {x : Operand} {agg : Bool} {size : Nat} {x' : Opd} (hrel : Rel ρ S₀ base F fr Γ β B a w) (ho : o.op = .load t x) (hag : tyAgg P t = some agg) (hsz : tySize P t = some size) (hx : opdOK ρ F.wd x x' = true)
    (h : (AOp.load agg size x').step E fr Γ K = some r) (hK : Cont P ρ S₀ base F fr Γ β B a w o K r G) : G := by
  simp only [AOp.step] at h
  have hv := hrel.opd hx
  cases he : x'.ev fr with
  | val u =>
    rw [he] at h hv
    cases u with
    | vp u =>
      obtain ⟨hA, hZ, hr⟩ := Qag (K := fun u => K (.v (.val u))) h
      obtain ⟨b, off, c1, e, hb, hc, hu⟩ := VD_vp hv
      subst hA; subst hZ
      obtain ⟨v, hrun, hv1⟩ := Qg7 (β := β) (d := .val u) hag hsz hc (DCs.of_val hu)
      exact hK.here _ _ hr (Qbd hv1) (fun w' hw' => by simp only [execOp, ho, e]; exact run_v (hrun w' hw'))
    | _ => cases h
  | ptr R p =>
    rw [he] at h hv
    simp only [at_eq] at h
    obtain ⟨d, hat, h⟩ := Option.bind_eq_some_iff.1 h
    obtain ⟨b, off, cs, Bc, e, hgo, hrg, hlen, t, _⟩ := hrel.at_ptr hv hat
    have fin : ∀ d2 : D, d2.isAgg = agg → d2.size = size → DCs ρ w (Stands S₀ w Γ B) β [d2] cs → K (.v d2) = some r → G := fun d2 h1 h2 h3 h4 => by
      subst h1; subst h2
      obtain ⟨v, hrun, hv1⟩ := Qg7 hag hsz hrg h3
      exact hK.here _ _ h4 (Qbd hv1) (fun w' hw' => by simp only [execOp, ho, e]; exact run_v (hrun w' hw'))
    split at h
    · obtain ⟨hA, hZ, hr⟩ := Qag (K := fun u => K (.v (.val u))) h
      exact fin _ hA hZ (DCs.of_val t.val_inv.1) hr
    · obtain ⟨hA, hZ, hr⟩ := Qag (K := fun u => u.asFlat fun u => K (.v (.val u))) h
      unfold U.asFlat at hr
      split at hr
      · rename_i u hf
        have hnt : ∀ us, u ≠ .tup us := by rintro us rfl; cases t
        exact fin _ hA hZ (DCs.of_val (Qaa u _ cs Bc hf hnt t).1) hr
      · cases hr
    · split at h
      · rename_i hc
        cases t with
        | ref hv hs t => cases t; exact fin (.ref _ _ _ _) hc.1.symm hc.2.symm (.ref _ _ _ _ _ _ hv hs .nil) h
      · cases h
    · split at h
      · rename_i hc
        cases t with
        | ptr hp t => cases t; exact fin (.ptr _ _) hc.1.symm hc.2.symm (.ptr _ _ _ _ hp .nil) h
      · cases h
    · split at h
      · rename_i hc
        cases t with
        | fnv h1 hv t => cases t; exact fin (.fnv _ _) hc.1.symm hc.2.symm (.fnv _ h1 hv .nil) h
      · cases h
    · cases h
  | _ => rw [he] at h; cases h
theorem Qot {α : Type} {r : α} {n size : Nat} {u : U} {K : U → Option α} (h : u.spell n size K = some r) : u.asVar true size K = some r := by
  unfold U.spell U.asVar at h
  unfold U.asVar
  split at h
  · rename_i hc
    rw [if_pos hc]
    cases u with
    | agg us => exact Qhj (K := fun us => K (.agg us)) h
    | _ => cases h
  · cases h
theorem Qzf {t : TypeId} {x : Operand} {n size : Nat} {x' : Opd} (hrel : Rel ρ S₀ base F fr Γ β B a w) (ho : o.op = .load t x) (hag : tyAgg P t = some true) (hsz : tySize P t = some size) (hx : opdOK ρ F.wd x x' = true)
    (h : (AOp.loadN n size x').step E fr Γ K = some r) (hK : Cont P ρ S₀ base F fr Γ β B a w o K r G) : G := by
  refine Qhh (E := E) hrel ho hag hsz hx ?_ hK
  simp only [AOp.step] at h ⊢
  split at h
  · rename_i u he
    cases u with
    | vp u =>
      have h : (u.spell n size fun u => K (.v (.val u))) = some r := h
      exact Qot h
    | _ => cases h
  · rename_i R p he
    simp only [at_eq] at h ⊢
    obtain ⟨d, hat, h⟩ := Option.bind_eq_some_iff.1 h
    rw [hat, Option.bind_some]
    split at h
    · exact Qot h
    · cases h
  · cases h
theorem Qhk (h : Hdr) (p : List Step) (s : Step) : h.sub (p ++ [s]) = (h.sub p).at s := by
  funext q
  simp [Hdr.sub, Hdr.at]
theorem Qh1 {S : Nat → Prop} : ∀ (s : Shp) (R : Nat) (p : List Step) (u : U) (c d : D) (cs : List Value) (Bc : List Nat), s.viewO R p u = some (c, d) → TCs ρ w S β [((β R).h.sub p, u.ex)] cs Bc → (β R).live →
    DCs ρ w S β [d] cs ∧ TCs ρ w S β [((β R).h.sub p, c.ex)] cs Bc ∧ d.isAgg = s.isAgg ∧ d.size = s.size ∧ c.size = s.size ∧ u.size = s.size ∧ partable d = true
  | .flat ag sz, R, p, u, c, d, cs, Bc, hv, t, hl => by
    rw [Qhz] at hv
    obtain ⟨h1, h2, hv⟩ := Qag (K := fun u => u.asFlat fun u => some (D.val u, D.val u)) hv
    unfold U.asFlat at hv
    split at hv
    · rename_i hf
      cases hv
      have hnt : ∀ us, u ≠ .tup us := by rintro us rfl; cases t
      obtain ⟨h3, rfl⟩ := Qaa (w' := w) (S' := S) u _ cs Bc hf hnt t
      exact ⟨DCs.of_val h3, TCs.of_val h3, h1, h2, h2, h2, by cases u <;> first | rfl | exact absurd rfl (hnt _)⟩
    · cases hv
  | .int, R, p, u, c, d, cs, Bc, hv, t, hl => by
    cases u with
    | int k n =>
      cases k with
      | i64 =>
        cases hv
        obtain ⟨h3, rfl⟩ := Qaa (w' := w) (S' := S) (.int .i64 n) _ cs Bc rfl (fun _ e => by cases e) t
        exact ⟨DCs.of_val h3, TCs.of_val h3, rfl, rfl, rfl, rfl, rfl⟩
      | _ => cases hv
    | _ => cases hv
  | .bool, R, p, u, c, d, cs, Bc, hv, t, hl => by
    cases u with
    | bool b =>
      cases hv
      obtain ⟨h3, rfl⟩ := Qaa (w' := w) (S' := S) (.bool b) _ cs Bc rfl (fun _ e => by cases e) t
      exact ⟨DCs.of_val h3, TCs.of_val h3, rfl, rfl, rfl, rfl, rfl⟩
    | _ => cases hv
  | .sl k, R, p, u, c, d, cs, Bc, hv, t, hl => by
    rw [Qh0] at hv
    cases u with
    | sl k' us =>
      simp only [U.asSlK] at hv
      split at hv
      · rename_i hk
        subst hk
        cases hv
        refine ⟨?_, t, rfl, rfl, rfl, rfl, rfl⟩
        obtain ⟨_, v, rfl, h1, h2, _⟩ := Qda (α := Nat) (d := .own (.sl k' us)) (k := k') (K := some 0) (r := 0) (by simp [D.isSl, U.asSlK]) t
        refine .ref R p k' none v v ?_ ⟨rfl, h2⟩ .nil
        rw [Lay.hdr_live hl]
        simpa [Hdr.sub] using h1
      · cases hv
    | _ => cases hv
  | .agg ss, R, p, u, c, d, cs, Bc, hv, t, hl => by
    rw [Qhy] at hv
    cases u with
    | agg us =>
      simp only [U.asAgg] at hv
      obtain ⟨⟨cs', ds'⟩, h1, h2⟩ := Option.bind_eq_some_iff.1 hv
      cases h2
      obtain ⟨h3, h4, h5, h6, h7⟩ := go ss R p 0 0 us cs' ds' cs Bc h1 t.agg_inv hl
      refine ⟨DCs.of_agg h3, ?_, rfl, h5, h6, h7, rfl⟩
      simp only [D.ex]
      exact TCs.of_agg h4
    | _ => cases hv
where go {S : Nat → Prop} : ∀ (ss : List Shp) (R : Nat) (p : List Step) (j off : Nat) (us : List U) (c d : List D) (cs : List Value) (Bc : List Nat), viewsO ss R p j off us = some (c, d) → TCs ρ w S β (flds ((β R).h.sub p) j off (U.ex.exs us)) cs Bc → (β R).live →
    DCs ρ w S β d cs ∧ TCs ρ w S β (flds ((β R).h.sub p) j off (D.ex.exs c)) cs Bc ∧ dsizes d = Shp.size.sizes ss ∧ dsizes c = Shp.size.sizes ss ∧ sizes us = Shp.size.sizes ss
  | [], R, p, j, off, us, c, d, cs, Bc, hv, t, hl => by
    rw [Qh3] at hv
    cases us with
    | nil => cases hv; cases t; exact ⟨.nil, .nil, rfl, rfl, rfl⟩
    | cons u us => cases hv
  | s :: ss, R, p, j, off, us, c, d, cs, Bc, hv, t, hl => by
    rw [Qh2] at hv
    cases us with
    | nil => cases hv
    | cons u us =>
      simp only at hv
      obtain ⟨⟨c1, d1⟩, h1, hv⟩ := Option.bind_eq_some_iff.1 hv
      obtain ⟨⟨c2, d2⟩, h2, hv⟩ := Option.bind_eq_some_iff.1 hv
      cases hv
      simp only [U.ex.exs, flds] at t
      obtain ⟨cs1, cs2, B1, B2, rfl, rfl, _, t1, t2⟩ := TCs.cons_inv t
      rw [← Qhk] at t1
      rw [Qan] at t2
      obtain ⟨g1, g2, _, g3, g4, g5, _⟩ := Qh1 s R _ u c1 d1 cs1 B1 h1 t1 hl
      rw [g5] at t2
      obtain ⟨k1, k2, k3, k4, k5⟩ := go ss R p _ _ us c2 d2 cs2 B2 h2 t2 hl
      refine ⟨g1.append k1, ?_, by simp [g3, k3, Shp.size.sizes], by simp [g4, k4, Shp.size.sizes], by simp [g5, k5, Shp.size.sizes]⟩
      simp only [D.ex.exs, flds]
      rw [← Qhk, Qz, g4]
      exact g2.append k2
theorem Qmt {S : Nat → Prop} : ∀ (s : Shp) (R : Nat) (p : List Step) (c d : D) (cs : List Value) (Bc : List Nat), s.lookO R p c = some d → TCs ρ w S β [((β R).h.sub p, c.ex)] cs Bc → (β R).live →
    DCs ρ w S β [d] cs ∧ d.isAgg = s.isAgg ∧ d.size = s.size
  | .flat ag sz, R, p, c, d, cs, Bc, hv, t, hl => by
    cases c with
    | val u =>
      obtain ⟨h1, h2, hv⟩ := Qag (K := fun u => some (D.val u)) hv
      cases hv
      exact ⟨DCs.of_val t.val_inv.1, h1, h2⟩
    | own u =>
      obtain ⟨h1, h2, hv⟩ := Qag (K := fun u => u.asFlat fun u => some (D.val u)) hv
      unfold U.asFlat at hv
      split at hv
      · rename_i hf
        cases hv
        have hnt : ∀ us, u ≠ .tup us := by rintro us rfl; cases t
        exact ⟨DCs.of_val (Qaa u _ cs Bc hf hnt t).1, h1, h2⟩
      · cases hv
    | ptr R' q =>
      simp only [Shp.lookO, Shp.look] at hv
      split at hv
      · rename_i hc
        cases hv
        cases t with
        | ptr hp t => cases t; exact ⟨.ptr _ _ _ _ hp .nil, hc.1.symm, hc.2.symm⟩
      · cases hv
    | fnv q caps =>
      simp only [Shp.lookO, Shp.look] at hv
      split at hv
      · rename_i hc
        cases hv
        cases t with
        | fnv h1 hv t => cases t; exact ⟨.fnv _ h1 hv .nil, hc.1.symm, hc.2.symm⟩
      · cases hv
    | _ => cases hv
  | .int, R, p, c, d, cs, Bc, hv, t, hl => by
    cases c with
    | val u =>
      cases u with
      | int k n =>
        cases k with
        | i64 => cases hv; exact ⟨DCs.of_val t.val_inv.1, rfl, rfl⟩
        | _ => cases hv
      | _ => cases hv
    | own u =>
      cases u with
      | int k n =>
        cases k with
        | i64 =>
          cases hv
          exact ⟨DCs.of_val (Qaa (.int .i64 n) _ cs Bc rfl (fun _ e => by cases e) t).1, rfl, rfl⟩
        | _ => cases hv
      | _ => cases hv
    | _ => cases hv
  | .bool, R, p, c, d, cs, Bc, hv, t, hl => by
    cases c with
    | val u =>
      cases u with
      | bool b => cases hv; exact ⟨DCs.of_val t.val_inv.1, rfl, rfl⟩
      | _ => cases hv
    | own u =>
      cases u with
      | bool b =>
        cases hv
        exact ⟨DCs.of_val (Qaa (.bool b) _ cs Bc rfl (fun _ e => by cases e) t).1, rfl, rfl⟩
      | _ => cases hv
    | _ => cases hv
  | .sl k, R, p, c, d, cs, Bc, hv, t, hl => by
    have other : ∀ c : D, c.isSl k (some (D.ref R p k none)) = some d → TCs ρ w S β [((β R).h.sub p, c.ex)] cs Bc → DCs ρ w S β [d] cs ∧ d.isAgg = false ∧ d.size = 1 := fun c hs t => by
      obtain ⟨h0, v, rfl, h1, h2, _⟩ := Qda hs t
      cases h0
      refine ⟨.ref R p k none v v ?_ ⟨rfl, h2⟩ .nil, rfl, rfl⟩
      rw [Lay.hdr_live hl]
      simpa [Hdr.sub] using h1
    cases c with
    | val u =>
      obtain ⟨h1, h2, hv⟩ := Qag (K := fun u => some (D.val u)) hv
      cases hv
      exact ⟨DCs.of_val t.val_inv.1, h1, h2⟩
    | own u => exact other (.own u) hv t
    | agg ds => exact other (.agg ds) hv t
    | tup ds => exact other (.tup ds) hv t
    | asl k us => exact other (.asl k us) hv t
    | osl k ds => exact other (.osl k ds) hv t
    | ref R' q k' part =>
      simp only [Shp.lookO, Shp.look] at hv
      split at hv
      · cases hv
        cases t with
        | ref hv hs t => cases t; exact ⟨.ref _ _ _ _ _ _ hv hs .nil, rfl, rfl⟩
      · cases hv
    | ptr R p => exact other (.ptr R p) hv t
    | fnv r caps => exact other (.fnv r caps) hv t
    | junk n => exact other (.junk n) hv t
    | skip => exact other .skip hv t
    | undef => exact other .undef hv t
  | .agg ss, R, p, c, d, cs, Bc, hv, t, hl => by
    cases c with
    | val u =>
      obtain ⟨h1, h2, hv⟩ := Qag (K := fun u => some (D.val u)) hv
      cases hv
      exact ⟨DCs.of_val t.val_inv.1, h1, h2⟩
    | own u =>
      rw [Qwl] at hv
      obtain ⟨⟨c2, d2⟩, h1, hv⟩ := Option.bind_eq_some_iff.1 hv
      cases hv
      obtain ⟨g1, _, g2, g3, _⟩ := Qh1 (.agg ss) R p u c2 d2 cs Bc h1 t hl
      exact ⟨g1, g2, g3⟩
    | agg ds =>
      rw [Qwk] at hv
      obtain ⟨ds2, h1, hv⟩ := Option.bind_eq_some_iff.1 hv
      cases hv
      simp only [D.ex] at t
      obtain ⟨h3, h4⟩ := go ss R p 0 0 ds ds2 cs Bc h1 t.agg_inv hl
      exact ⟨DCs.of_agg h3, rfl, h4⟩
    | _ => cases hv
where go {S : Nat → Prop} : ∀ (ss : List Shp) (R : Nat) (p : List Step) (j off : Nat) (c d : List D) (cs : List Value) (Bc : List Nat), looksO ss R p j off c = some d → TCs ρ w S β (flds ((β R).h.sub p) j off (D.ex.exs c)) cs Bc → (β R).live →
    DCs ρ w S β d cs ∧ dsizes d = Shp.size.sizes ss
  | [], R, p, j, off, c, d, cs, Bc, hv, t, hl => by
    rw [Qwo] at hv
    cases c with
    | nil => cases hv; cases t; exact ⟨.nil, rfl⟩
    | cons u us => cases hv
  | s :: ss, R, p, j, off, c, d, cs, Bc, hv, t, hl => by
    rw [Qwn] at hv
    cases c with
    | nil => cases hv
    | cons c0 c =>
      simp only at hv
      obtain ⟨d1, h1, hv⟩ := Option.bind_eq_some_iff.1 hv
      obtain ⟨d2, h2, hv⟩ := Option.bind_eq_some_iff.1 hv
      cases hv
      simp only [D.ex.exs, flds] at t
      obtain ⟨cs1, cs2, B1, B2, rfl, rfl, _, t1, t2⟩ := TCs.cons_inv t
      rw [← Qhk] at t1
      rw [Qz] at t2
      obtain ⟨g1, _, g3⟩ := Qmt s R _ c0 d1 cs1 B1 h1 t1 hl
      have e0 : c0.size = s.size := by
        have e1 := g1.length
        have e2 := t1.length
        simp only [xsizes, Qz, Qau, Qis, Nat.add_zero] at e1 e2
        omega
      rw [e0] at t2
      obtain ⟨k1, k3⟩ := go ss R p _ _ c d2 cs2 B2 h2 t2 hl
      exact ⟨g1.append k1, by simp [g3, k3, Shp.size.sizes]⟩
theorem Qwm {α : Type} {K : D → Option α} {r : α} (s : Shp) (R : Nat) (p : List Step) (u : U) (h : s.look R p (.val u) K = some r) : u.asVar s.isAgg s.size (fun u => K (.val u)) = some r := by
  cases s with
  | flat ag sz => exact h
  | int =>
    cases u <;> first | exact h | cases h | skip
    rename_i k n
    cases k <;> first | exact h | cases h
  | bool => cases u <;> first | exact h | cases h
  | sl k => exact h
  | agg ss => exact h
theorem Qzg {t : TypeId} {x : Operand} {sh : Shp} {x' : Opd} (hrel : Rel ρ S₀ base F fr Γ β B a w) (ho : o.op = .load t x) (hag : tyAgg P t = some sh.isAgg) (hsz : tySize P t = some sh.size) (hx : opdOK ρ F.wd x x' = true)
    (h : (AOp.loadO sh x').step E fr Γ K = some r) (hK : Cont P ρ S₀ base F fr Γ β B a w o K r G) : G := by
  simp only [AOp.step] at h
  have hv := hrel.opd hx
  cases he : x'.ev fr with
  | val u =>
    refine Qhh (E := E) hrel ho hag hsz hx ?_ hK
    simp only [AOp.step]
    rw [he] at h ⊢
    cases u with
    | vp u => exact Qwm sh 0 [] u h
    | _ => cases h
  | ptr R p =>
    rw [he] at h hv
    simp only [at_eq, Qgi] at h
    obtain ⟨d, hat, h⟩ := Option.bind_eq_some_iff.1 h
    obtain ⟨d2, hlook, hr⟩ := Option.bind_eq_some_iff.1 h
    obtain ⟨b, off, cs, Bc, e, hgo, hrg, hlen, t, _, hl⟩ := hrel.at_ptr hv hat
    obtain ⟨h1, h2, h3⟩ := Qmt sh R p d d2 cs Bc hlook t hl
    rw [← h2] at hag
    rw [← h3] at hsz
    obtain ⟨v, hrun, hv1⟩ := Qg7 hag hsz hrg h1
    exact hK.here _ _ hr (Qbd hv1) (fun w' hw' => by simp only [execOp, ho, e]; exact run_v (hrun w' hw'))
  | _ => rw [he] at h; cases h
end
end Go.Proofs.Ytboenehajoaahaa.Am
