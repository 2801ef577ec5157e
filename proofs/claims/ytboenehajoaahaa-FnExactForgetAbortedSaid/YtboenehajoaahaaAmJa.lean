import Derived.Test.YtboenehajoaahaaAmJ
namespace Go.Proofs.Ytboenehajoaahaa.Am
open Go Go.RowKit
theorem Qge (Γ : Hp) : Γ.retag .id = Γ := by
  funext R
  simp only [Hp.retag]
  cases Γ R with
  | none => rfl
  | some c => simp [Qdo]
theorem Qcq {α : Type} (f : Nat → α) (R : Nat) : upd f R (f R) = f := by
  funext i
  simp only [upd]
  split
  · rename_i e; rw [e]
  · rfl
theorem Qc2 (Γ : Hp) (R : Nat) (c : Cn) (m : Tag) : Hp.retag (upd Γ R (some c)) m = upd (Hp.retag Γ m) R (some (c.retag m)) := by
  funext i
  simp only [Hp.retag, upd]
  split <;> rfl
theorem Qyc {n : Nat} {x : D} {p : List Step} : ∀ {d d2 : D}, setD n x d p = some d2 → ∃ d', getD d p = some d' ∧ d'.size = n := by
  unfold setD getD
  induction p with
  | nil =>
    intro d d2 h
    cases d <;> (simp only [setDK] at h; split at h <;> first | (rename_i hs; exact ⟨_, rfl, hs⟩) | cases h)
  | cons s p ih =>
    intro d d2 h
    cases s with
    | fld j off =>
      cases d with
      | val u =>
        cases u with
        | agg us =>
          simp only [setDK, getDK, U.asAgg] at h ⊢
          split at h
          · rename_i hoff
            obtain ⟨u, hu, h⟩ := Option.bind_eq_some_iff.1 h
            rw [Qal] at h
            obtain ⟨d', hd', _⟩ := Option.bind_eq_some_iff.1 h
            rw [if_pos hoff, hu]
            exact ih hd'
          · cases h
        | _ => simp [setDK, U.asAgg] at h
      | own u =>
        cases u with
        | agg us =>
          simp only [setDK, getDK, U.asAgg] at h ⊢
          split at h
          · rename_i hoff
            obtain ⟨u, hu, h⟩ := Option.bind_eq_some_iff.1 h
            rw [Qal] at h
            obtain ⟨d', hd', _⟩ := Option.bind_eq_some_iff.1 h
            rw [if_pos hoff, hu]
            exact ih hd'
          · cases h
        | _ => simp [setDK, U.asAgg] at h
      | agg ds =>
        simp only [setDK, getDK] at h ⊢
        split at h
        · rename_i hoff
          obtain ⟨u, hu, h⟩ := Option.bind_eq_some_iff.1 h
          rw [Qal] at h
          obtain ⟨d', hd', _⟩ := Option.bind_eq_some_iff.1 h
          rw [if_pos hoff, hu]
          exact ih hd'
        · cases h
      | _ => simp [setDK] at h
    | elt i k =>
      cases d with
      | own u =>
        cases u with
        | sl k' us =>
          simp only [setDK, getDK, U.asSlK] at h ⊢
          split at h
          · rename_i hk
            obtain ⟨u, hu, h⟩ := Option.bind_eq_some_iff.1 h
            rw [Qal] at h
            obtain ⟨d', hd', _⟩ := Option.bind_eq_some_iff.1 h
            rw [if_pos hk, hu]
            exact ih hd'
          · cases h
        | _ => simp [setDK, U.asSlK] at h
      | asl k' us =>
        simp only [setDK, getDK] at h ⊢
        split at h
        · rename_i hk
          obtain ⟨u, hu, h⟩ := Option.bind_eq_some_iff.1 h
          rw [Qal] at h
          obtain ⟨d', hd', _⟩ := Option.bind_eq_some_iff.1 h
          rw [if_pos hk, hu]
          exact ih hd'
        · cases h
      | osl k' ds =>
        simp only [setDK, getDK] at h ⊢
        split at h
        · rename_i hk
          obtain ⟨u, hu, h⟩ := Option.bind_eq_some_iff.1 h
          rw [Qal] at h
          obtain ⟨d', hd', _⟩ := Option.bind_eq_some_iff.1 h
          rw [if_pos hk, hu]
          exact ih hd'
        · cases h
      | val u => simp [setDK] at h
      | _ => simp [setDK] at h
section
variable {α : Type} {P : Program} {ρ : Nat → FuncId} {base : Nat → Prop} {F : Fm} {fr : Frm} {S₀ : Nat → Prop} {Γ Γ1 : Hp} {β : Nat → Lay} {B B1 : Nat → List Nat} {Bx : List Nat} {a : Act} {w w' : World} {E : Env}
  {K : Eff → Option α} {r : α} {G : Prop} {o : Oper}
theorem Rel.write (h : Rel ρ S₀ base F fr Γ β B a w) (hp : Parts ρ w (Stands S₀ w Γ B) β Γ B Γ1 B1 Bx) {R : Nat} {c : Cn} {d d2 x : D} {p : List Step} {n b off : Nat} (hc : Γ1 R = some c) (hd : c.dat = some d) (hset : setD n x d p = some d2) (hxs : x.size = n)
    (hgo : (β R).go p = some (.adr b off)) (m : Tag) (hx : Hdr) (cx : List Value) (htag : TagOK m β (upd β R ⟨(β R).root, (β R).h.put p hx⟩)) (hcx : ∀ x', LeafOf x x' → TCs ρ w (Stands S₀ w Γ B) β [(hx, x')] cx Bx) :
    ∃ cur e, w.heap[b]? = some (.cells cur e (0, 0)) ∧ off + cx.length ≤ cur.size ∧ cx.length = n ∧ base b ∧ (∀ v ∈ cx, v.oneCell' = true) ∧
      ∃ B', Rel ρ S₀ base F (fr.retag m) (upd (Hp.retag Γ1 m) R (some ((c.with d2).retag m))) (upd β R ⟨(β R).root, (β R).h.put p hx⟩) B' a (w.setRow b (patch cur off cx)) := by
  obtain ⟨d', hg, hdn⟩ := Qyc hset
  have hl := Lay.live_of_go hgo
  have hRs : (Γ1 R).isSome = true := by rw [hc]; rfl
  obtain ⟨cs, Bo, Bc, mk, hpart⟩ := (hp.roots R c hc hl).part hd hg
  have hcl : cx.length = n := by
    have := (hcx x.ex (.inl rfl)).length
    rw [this]
    simp [xsizes, Qz, hxs]
  have hcl2 : cx.length = cs.length := by rw [hcl, hpart.len, hdn]
  rcases hpart.spot with ⟨b', off', cur, e, h1, h2, h3, h4, h5, h6⟩ | ⟨h1, _⟩
  rotate_left
  · rw [hgo] at h1; cases h1
  rw [hgo] at h1
  cases h1
  have hbR : b ∈ B1 R := (hpart.mem b).2 (.inl h2)
  have hown : Owned Γ B b := ⟨R, (hp.sub R hRs).1, (hp.sub R hRs).2 b hbR⟩
  have hother : ∀ b', b' ≠ b → (w.setRow b (patch cur off cx)).heap[b']? = w.heap[b']? := fun b' hne => setRow_other w b b' _ hne
  have hbx : b ∉ Bx := fun hm => (hp.out b hm).2 R hRs hbR
  have hnbs : ¬ Stands S₀ w Γ B b := Qcd hown
  have hnd : (Bo ++ Bx).Nodup := List.nodup_append.2 ⟨(List.nodup_append.1 hpart.nodup).1, hp.nodup, fun a ha b hb e => by
    subst e
    exact (hp.out a hb).2 R hRs ((hpart.mem a).2 (.inl ha))⟩
  have hkeep : Keeps (Stands S₀ w Γ B) w (w.setRow b (patch cur off cx)) := fun b' hb' => hother b' fun e => hnbs (e ▸ hb')
  have hroot : ∀ S' : Nat → Prop, (∀ b, Stands S₀ w Γ B b → S' b) → RootOK ρ (w.setRow b (patch cur off cx)) S' (upd β R ⟨(β R).root, (β R).h.put p hx⟩) ((c.with d2).retag m) ⟨(β R).root, (β R).h.put p hx⟩ (mk Bx) := fun S' hS' =>
    h6 _ S' _ m n x d d2 hx cx Bx hS' hkeep htag (fun b' _ hne => hother b' hne) (setRow_heap w b cur _ e _ h3) hcl2 hd hset hxs (fun x' hx' => (hcx x' hx').retag hS' hkeep (fun b' hb' => hother b' fun e => hbx (e ▸ hb')) htag) hnd
  have hmem : ∀ b' : Nat, (b' ∈ Bo ∨ b' ∈ Bx) → Owned Γ B b' ∧ ∀ R', R' ≠ R → (Γ1 R').isSome = true → b' ∉ B1 R' := fun b' hb' => by
    rcases hb' with hb' | hb'
    · have h7 : b' ∈ B1 R := (hpart.mem b').2 (.inl hb')
      exact ⟨⟨R, (hp.sub R hRs).1, (hp.sub R hRs).2 b' h7⟩, fun R' hne hR' => hp.apart R R' (Ne.symm hne) hRs hR' b' h7⟩
    · exact ⟨(hp.out b' hb').1, fun R' _ hR' => (hp.out b' hb').2 R' hR'⟩
  refine ⟨cur, e, h3, by omega, hcl, (h.owned hown).1, (hcx x.ex (.inl rfl)).oneCell, upd B1 R (mk Bx), ?_⟩
  exact h.setP (w' := w.setRow b (patch cur off cx)) hp R _ _ (mk Bx) (fun b' => b' = b) htag (by simp) (fun b' _ hne => hother b' hne) (fun b' hb' => ⟨hb' ▸ hown, fun R' hne hR' => hb' ▸ hp.apart R R' (Ne.symm hne) hRs hR' b hbR⟩)
    (fun b' hb' => .inl (hmem b' ((hpart.mkmem Bx b').1 hb'))) hroot
theorem Qg8 {t : TypeId} {x y : Operand} {b off size : Nat} {cur : Array Value} {el : TypeId} {cx : List Value} (ho : o.op = .store t x y) (hsz : tySize P t = some size) (e : a.eval x = .pointer (some ⟨b, off, none⟩)) (hcx : (a.eval y).cells = cx.toArray)
    (hb : w.heap[b]? = some (.cells cur el (0, 0))) (hle : off + cx.length ≤ cur.size) (hsize : cx.length = size) (hone : ∀ v ∈ cx, v.oneCell' = true) : (execOp a.eval o).run P w = .ok .skip (w.setRow b (patch cur off cx)) := by
  have hrun := run_storeCells_at P b off el cx 0 cur w hb (by omega) hone
  simp only [Nat.add_zero] at hrun
  have hz := Qa7 (w := w) hsz
  simp only [execOp, ho, e, Instr.storeAt, Instr.sureAddr, Sem.run_bind, Sem.run_pure, Result.andThen_ok, storeVar, hcx]
  rw [hz]
  simp only [Result.andThen_ok, List.size_toArray, hsize, ne_eq, not_true, if_false]
  rw [hrun]
  rfl
theorem Qdm {b : Nat} {cs : Array Value} (hb : base b) : Behind0 base w (w.setRow b cs) := ⟨rfl, rfl, rfl, by simp, fun k _ hn => setRow_other w b k cs (fun e => hn (e ▸ hb))⟩
theorem Qz4 {S : Nat → Prop} {d : D} {v : Value} (h : VD ρ w S β d v) (hs : storable d = true) : ∃ cx, v.cells = cx.toArray ∧ ∀ hx x', LeafOf d x' → TCs ρ w S β [(hx, x')] cx [] := by
  have key : d ≠ .undef → V1 ρ w S β d v → (∀ cs, DCs ρ w S β [d] cs → ∀ hx x', LeafOf d x' → TCs ρ w S β [(hx, x')] cs []) → ∃ cx, v.cells = cx.toArray ∧ ∀ hx x', LeafOf d x' → TCs ρ w S β [(hx, x')] cx [] := fun hne h1 h2 => by
    obtain ⟨cs, hc, h3⟩ := h1.cells' hne
    exact ⟨cs, hc, h2 cs h3⟩
  cases d with
  | val u =>
    have hn : ∀ us, u ≠ .tup us := by rintro us rfl; cases hs
    refine key (fun e => by cases e) (h.uv hn).v1 fun cs hd hx x' hl => ?_
    have h1 := hd.val_inv
    rcases hl with rfl | ⟨v, e, hf, rfl⟩
    · exact TCs.of_val h1
    · cases e; exact Qc0 _ hx cs hf h1
  | ref R p k part =>
    refine key (fun e => by cases e) h fun cs hd hx x' hl => ?_
    rcases hl with rfl | ⟨v, e, _⟩
    · cases hd with | ref R p k part v v0 hv hs hd => cases hd; exact .ref hv hs .nil
    · cases e
  | ptr R p =>
    refine key (fun e => by cases e) h fun cs hd hx x' hl => ?_
    rcases hl with rfl | ⟨v, e, _⟩
    · cases hd with | ptr R p b o hp hd => cases hd; exact .ptr hp .nil
    · cases e
  | fnv q caps =>
    refine key (fun e => by cases e) h fun cs hd hx x' hl => ?_
    rcases hl with rfl | ⟨v, e, _⟩
    · cases hd with | fnv q h1 hv hd => cases hd; exact .fnv h1 hv .nil
    · cases e
  | agg ds =>
    refine key (fun e => by cases e) h fun cs hd hx x' hl => ?_
    rcases hl with rfl | ⟨v, e, _⟩
    · exact Qhb (.agg ds) hx cs hs hd
    · cases e
  | _ => cases hs
theorem Qmd {R : Nat} {p : List Step} {hx : Hdr} {b off : Nat} (hgo : (β R).go p = some (.adr b off)) : (upd β R ⟨(β R).root, (β R).h.put p hx⟩ R).root = (β R).root ∧ ((β R).root = .vir → (upd β R ⟨(β R).root, (β R).h.put p hx⟩ R).hdr [] = (β R).hdr []) := by
  rw [Qd]
  refine ⟨rfl, fun hv => ?_⟩
  cases p with
  | nil =>
    unfold Lay.go at hgo
    rw [hv] at hgo
    cases hgo
  | cons s p => exact Qeq rfl
theorem Qhi {t : TypeId} {x y : Operand} {size : Nat} {x' y' : Opd} (hrel : Rel ρ S₀ base F fr Γ β B a w) (ho : o.op = .store t x y) (hsz : tySize P t = some size) (hx : opdOK ρ F.wd x x' = true) (hy : opdOK ρ F.wd y y' = true)
    (h : (AOp.store size x' y').step E fr Γ K = some r) (hK : Cont P ρ S₀ base F fr Γ β B a w o K r G) : G := by
  simp only [AOp.step] at h
  have hv := hrel.opd hx
  have hw := hrel.opd hy
  cases he : x'.ev fr with
  | ptr R p =>
    rw [he] at h hv
    simp only [Qab] at h
    split at h
    rotate_left
    · cases h
    rename_i hst
    obtain ⟨hst, hn⟩ := hst
    obtain ⟨Γ', hset, hr⟩ := Option.bind_eq_some_iff.1 h
    obtain ⟨c, d, d2, hc, hd, hsetd, rfl⟩ := Qbm hset
    obtain ⟨b, off, e, hgo⟩ := Qas hv
    obtain ⟨cx, hcx, ht⟩ := Qz4 hw hst
    have hput : (⟨(β R).root, (β R).h.put p ((β R).h.sub p)⟩ : Lay) = β R := by rw [Qgz]
    obtain ⟨cur, el, hb, hle, hlen, hbase, hone, B', hrel'⟩ := hrel.write hrel.parts hc hd hsetd hn hgo .id ((β R).h.sub p) cx (by rw [hput, Qcq]; exact TagOK.same fun _ _ => rfl) (fun x' hl => ht _ x' hl)
    rw [hput, Qcq, Qeo, Qge, Qdo] at hrel'
    refine hK.skp [] _ _ hr (Qg8 ho hsz e hcx hb hle hlen hone) ⟨Qdm hbase, β, B', hrel', rfl, fun R' _ hR' => ⟨?_, rfl, fun _ => rfl⟩⟩
    by_cases e : R' = R
    · rw [e, hc]; rfl
    · rwa [Qa _ _ e] at hR'
  | _ => rw [he] at h; cases h
theorem Qzu {t : TypeId} {x y : Operand} {size : Nat} {x' y' : Opd} {ps : List Opd} (hrel : Rel ρ S₀ base F fr Γ β B a w) (ho : o.op = .store t x y) (hsz : tySize P t = some size) (hx : opdOK ρ F.wd x x' = true) (hy : opdOK ρ F.wd y y' = true)
    (h : (AOp.storeS size x' y' ps).step E fr Γ K = some r) (hK : Cont P ρ S₀ base F fr Γ β B a w o K r G) : G := by
  refine Qhi hrel ho hsz hx hy (E := E) ?_ hK
  simp only [AOp.step] at h ⊢
  split at h
  · rename_i R p he
    split at h
    · exact h
    · cases h
  · cases h
theorem Qzt {t : TypeId} {x y : Operand} {nm size : Nat} {x' y' : Opd} (hrel : Rel ρ S₀ base F fr Γ β B a w) (ho : o.op = .store t x y) (hsz : tySize P t = some size) (hx : opdOK ρ F.wd x x' = true) (hy : opdOK ρ F.wd y y' = true)
    (h : (AOp.storeN nm size x' y').step E fr Γ K = some r) (hK : Cont P ρ S₀ base F fr Γ β B a w o K r G) : G := by
  refine Qhi hrel ho hsz hx hy (E := E) ?_ hK
  simp only [AOp.step] at h ⊢
  split at h
  rotate_left
  · cases h
  rename_i R he
  split at h
  rotate_left
  · cases h
  rename_i hR
  subst hR
  rw [he]
  split at h
  · rename_i u hu
    obtain ⟨hnt, h⟩ := Qm5 h
    split at h
    rotate_left
    · cases h
    rename_i hsu
    split at h
    rotate_left
    · cases h
    rename_i z hz
    split at h
    rotate_left
    · cases h
    rename_i hsz2
    have hst : storable (.val u) = true := by
      cases u with
      | tup us => exact absurd rfl (hnt us)
      | _ => rfl
    simp only [hu]
    rw [if_pos ⟨hst, hsu⟩]
    simp only [Hp.setAt, hz, Cn.data, setDK]
    rw [if_pos (show (D.val z).size = size from hsz2)]
    exact h
  · split at h
    rotate_left
    · cases h
    rename_i hst
    split at h
    rotate_left
    · cases h
    rename_i z hz
    split at h
    rotate_left
    · cases h
    rename_i hsz2
    simp only
    rw [if_pos hst]
    simp only [Hp.setAt, hz, Cn.data, setDK]
    rw [if_pos (show (D.val z).size = size from hsz2)]
    exact h
theorem Qqs (y : Opd) (m : Tag) : y.ev (fr.retag m) = (y.ev fr).retag m := by cases y <;> rfl
theorem Qzs {t : TypeId} {x y : Operand} {nm size : Nat} {x' y' : Opd} (hrel : Rel ρ S₀ base F fr Γ β B a w) (ho : o.op = .store t x y) (hsz : tySize P t = some size) (hx : opdOK ρ F.wd x x' = true) (hy : opdOK ρ F.wd y y' = true)
    (h : (AOp.storeM nm size x' y').step E fr Γ K = some r) (hK : Cont P ρ S₀ base F fr Γ β B a w o K r G) : G := by
  simp only [AOp.step] at h
  have hv := hrel.opd hx
  cases he : x'.ev fr with
  | ptr R p =>
    rw [he] at h hv
    simp only [Qab, at_eq, Qao] at h
    split at h
    rotate_left
    · cases h
    rename_i hc0
    obtain ⟨hnm, hRn⟩ := hc0
    obtain ⟨old, hat, h⟩ := Option.bind_eq_some_iff.1 h
    obtain ⟨Γ1, hset1, h⟩ := Option.bind_eq_some_iff.1 h
    obtain ⟨⟨c, Γ3⟩, htake, h⟩ := Option.bind_eq_some_iff.1 h
    split at h
    rotate_left
    · cases h
    rename_i hcs
    obtain ⟨Γ4, hset2, hr⟩ := Option.bind_eq_some_iff.1 h
    obtain ⟨b, off, e, hgo⟩ := Qas hv
    have hl := Lay.live_of_go hgo
    obtain ⟨c1, d1, hc1, hd1, hg1⟩ := Qat hat
    obtain ⟨c1', d1', d2, hc1', hd1', hset1d, rfl⟩ := Qbm hset1
    rw [hc1] at hc1'; cases hc1'
    rw [hd1] at hd1'; cases hd1'
    obtain ⟨cs, B2, Bc, hp1, t1, _, _⟩ := hrel.parts.pull hc1 hl hd1 hg1 rfl hset1d
    rw [List.nil_append] at hp1
    have htag := TagOK.move (β := β) (p := p) hRn
    have hrel1 := hrel.setP (w' := w) hp1 nm (.vir (old.retag (.move R p nm))) ⟨.vir, (β R).h.sub p⟩ Bc (fun _ => False) htag (Nat.le_refl _) (fun _ _ _ => rfl) (fun _ h => h.elim)
      (fun b hb => .inl ⟨(hp1.out b hb).1, fun R' _ hR' => (hp1.out b hb).2 R' hR'⟩) (fun S' hS' => ⟨hp1.nodup, cs, rfl, by
        have := t1.retag (w' := w) hS' (fun _ _ => rfl) (fun _ _ => rfl) htag
        rw [Qav]
        exact this⟩)
    have hw := hrel1.opd hy
    rw [Qqs] at hw
    have hne : (y'.ev fr).retag (.move R p nm) ≠ .undef := fun e => by rw [e] at htake; cases htake
    have hv1 : V1 ρ w (Stands S₀ w (upd (Hp.retag (upd Γ R (some (c1.with d2))) (.move R p nm)) nm (some (.vir (old.retag (.move R p nm))))) (upd B2 nm Bc)) (upd β nm ⟨.vir, (β R).h.sub p⟩) ((y'.ev fr).retag (.move R p nm)) (a.eval y) := by
      cases hye : (y'.ev fr).retag (.move R p nm) with
      | tup ds => rw [hye] at htake; cases htake
      | skip => rw [hye] at htake; cases htake
      | val u =>
        rw [hye] at hw htake
        refine (hw.uv ?_).v1
        rintro us rfl
        cases htake
      | _ => rw [hye] at hw; exact hw
    obtain ⟨cx, hcx, hdc⟩ := hv1.cells' hne
    obtain ⟨hxh, B3, Bx, hp3, tx, _⟩ := Parts.take _ htake hdc hrel1.parts
    rw [List.nil_append] at hp3
    obtain ⟨c4, d4, d5, hc4, hd4, hset4, rfl⟩ := Qbm hset2
    have hgo1 : (upd β nm ⟨.vir, (β R).h.sub p⟩ R).go p = some (.adr b off) := by rw [Qa _ _ hRn]; exact hgo
    obtain ⟨cur, el, hb, hle, hlen, hbase, hone, B', hrel'⟩ := hrel1.write hp3 hc4 hd4 hset4 hcs hgo1 (.cut R p) hxh cx TagOK.cut (fun x' hl => by
      rcases hl with rfl | ⟨u, rfl, hf, rfl⟩
      · exact tx
      · obtain ⟨h1, rfl⟩ := tx.val_inv
        exact Qc0 u _ cx hf h1)
    rw [← Qc2] at hrel'
    refine hK.skp _ _ _ hr (Qg8 ho hsz e hcx hb hle hlen hone) ⟨Qdm hbase, _, B', hrel', rfl, fun R' hlt hR' => ?_⟩
    have hn' : R' ≠ nm := by omega
    by_cases e' : R' = R
    · subst e'
      have := Qmd (hx := hxh) hgo1
      rw [Qa _ _ hn'] at this
      refine ⟨by rw [hc1]; rfl, ?_⟩
      rw [Qa _ _ hn']
      exact this
    · have hR3 : (Γ3 R').isSome = true := by
        rw [Qc2, Qa _ _ e'] at hR'
        simpa [Hp.retag] using hR'
      have h5 := (hp3.sub R' hR3).1
      rw [Qa _ _ hn'] at h5
      have h6 : (Γ R').isSome = true := by
        have : (upd Γ R (some (c1.with d2)) R').isSome = true := by simpa [Hp.retag] using h5
        rwa [Qa _ _ e'] at this
      refine ⟨h6, ?_⟩
      rw [Qa _ _ e', Qa _ _ hn']
      exact ⟨rfl, fun _ => rfl⟩
  | _ => rw [he] at h; cases h
theorem Qzr {t : TypeId} {x y : Operand} {size : Nat} {x' y' : Opd} (hrel : Rel ρ S₀ base F fr Γ β B a w) (ho : o.op = .store t x y) (hsz : tySize P t = some size) (hx : opdOK ρ F.wd x x' = true) (hy : opdOK ρ F.wd y y' = true)
    (h : (AOp.storeE size x' y').step E fr Γ K = some r) (hK : Cont P ρ S₀ base F fr Γ β B a w o K r G) : G := by
  simp only [AOp.step] at h
  have hv := hrel.opd hx
  cases he : x'.ev fr with
  | ptr R p =>
    rw [he] at h hv
    simp only [Qab, Qao, Qaf] at h
    obtain ⟨⟨c, Γ3⟩, htake, h⟩ := Option.bind_eq_some_iff.1 h
    obtain ⟨u0, hown, h⟩ := Option.bind_eq_some_iff.1 h
    split at h
    rotate_left
    · cases h
    rename_i hcs
    obtain ⟨Γ4, hset2, hr⟩ := Option.bind_eq_some_iff.1 h
    obtain ⟨b, off, e, hgo⟩ := Qas hv
    have hw := hrel.opd hy
    have hne : y'.ev fr ≠ .undef := fun e => by rw [e] at htake; cases htake
    have hv1 : V1 ρ w (Stands S₀ w Γ B) β (y'.ev fr) (a.eval y) := by
      cases hye : y'.ev fr with
      | tup ds => rw [hye] at htake; cases htake
      | skip => rw [hye] at htake; cases htake
      | val u =>
        rw [hye] at hw htake
        refine (hw.uv ?_).v1
        rintro us rfl
        cases htake
      | _ => rw [hye] at hw; exact hw
    obtain ⟨cx, hcx, hdc⟩ := hv1.cells' hne
    obtain ⟨hxh, B3, Bx, hp3, tx, _⟩ := Parts.take _ htake hdc hrel.parts
    rw [List.nil_append] at hp3
    obtain ⟨c4, d4, d5, hc4, hd4, hset4, rfl⟩ := Qbm hset2
    obtain ⟨cur, el, hb, hle, hlen, hbase, hone, B', hrel'⟩ := hrel.write hp3 hc4 hd4 hset4 hcs hgo (.cut R p) hxh cx TagOK.cut (fun x' hl => by
      have tx2 := (Qak c u0 hown).2 _ _ _ tx
      rcases hl with rfl | ⟨u, hu, _, rfl⟩
      · exact tx2
      · cases hu)
    rw [← Qc2] at hrel'
    refine hK.skp _ _ _ hr (Qg8 ho hsz e hcx hb hle hlen hone) ⟨Qdm hbase, _, B', hrel', rfl, fun R' hlt hR' => ?_⟩
    by_cases e' : R' = R
    · subst e'
      have h8 : (Γ3 R').isSome = true := by first | exact (congrArg Option.isSome hc4).trans rfl | simp [hc4]
      have h5 := (hp3.sub R' h8).1
      exact ⟨h5, Qmd (hx := hxh) hgo⟩
    · have hR3 : (Γ3 R').isSome = true := by
        rw [Qc2, Qa _ _ e'] at hR'
        simpa [Hp.retag] using hR'
      refine ⟨(hp3.sub R' hR3).1, ?_⟩
      rw [Qa _ _ e']
      exact ⟨rfl, fun _ => rfl⟩
  | _ => rw [he] at h; cases h
end
end Go.Proofs.Ytboenehajoaahaa.Am
