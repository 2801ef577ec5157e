import Derived.Test.YtboenehajoaahaaAmS
namespace Go.Proofs.Ytboenehajoaahaa.Am
open Go Go.RowKit
def matchRes (P : Program) (N : Nat) : List ResultVar → List (Nat × Option (Bool × Nat)) → Bool
  | [], [] => true
  | .tmp t :: rs, (t', none) :: rs' => t == t' && decide (t < N) && matchRes P N rs rs'
  | .cell t ty :: rs, (t', some (agg, size)) :: rs' => t == t' && decide (t < N) && tyAgg P ty == some agg && tySize P ty == some size && matchRes P N rs rs'
  | _, _ => false
def matchFn (P : Program) (ρ : Nat → FuncId) (q np : Nat) (ac : AC) (rs : List (Nat × Option (Bool × Nat))) : Bool := match P.funcs[ρ q]? with
  | some fn => callOK P (ρ q) && (match fn.body with | some c => matchAC ρ P ac (0, fn.ntmps) (.code c) | none => false) && decide (np ≤ fn.ntmps) && matchRes P fn.ntmps fn.results.toList rs
  | none => false
def Fm.whole (N : Nat) : Fm := ⟨0, N, []⟩
section
variable {P : Program} {ρ : Nat → FuncId} {N : Nat} {S₀ : Nat → Prop} {w0 : Org} {w : World} {E : Env} {s : St} {β β' : Nat → Lay} {B : Nat → List Nat} {a : Act}
def resRun (tmps : Array Value) : ResultVar → Sem Value
  | .tmp t => pure (tmps.getD t Go.undef)
  | .cell a t => do loadVar t (← asAddr (tmps.getD a Go.undef))
theorem Inv.slot (hinv : Inv ρ S₀ w0 (.whole N) s β B a w) {t : Nat} (ht : t < N) : VD ρ w (Stands S₀ w s.Γ B) β (s.fr t) (a.tmps.getD t Go.undef) := by
  have := hinv.rel.slots t ht
  simp only [Fm.whole, Nat.zero_add] at this
  exact this
theorem Qoh {t : TypeId} {ag : Bool} {b off : Nat} {c : List Value} (hag : tyAgg P t = some ag) (hsz : tySize P t = some c.length) (hc : w.rangeAt b off c) (h1 : ag = false → c.length = 1) :
    ∃ v, (loadVar t ⟨b, off, none⟩).run P w = .ok v w ∧ (if ag then v = .agg c.toArray else c = [v]) := by
  cases ag with
  | true =>
    refine ⟨.agg c.toArray, ?_, by simp⟩
    unfold tyAgg at hag
    have : ∃ ty, P.underlying t = some ty ∧ ty.isRow = true := by
      split at hag
      · exact ⟨_, ‹_›, rfl⟩
      · exact ⟨_, ‹_›, rfl⟩
      · cases hag
      · cases hag
    obtain ⟨ty, hu, hr⟩ := this
    have := run_loadAt_mid (P := P) w b off t c ty hc hu hr hsz
    simpa [Instr.loadAt, Instr.sureAddr] using this
  | false =>
    match c, h1 rfl with
    | [v], _ =>
      refine ⟨v, ?_, by simp⟩
      have hcell : w.cell? ⟨b, off, none⟩ = some v := by simpa using hc 0 v rfl
      simp only [loadVar, Qdw hag, Sem.run_bind, Result.andThen_ok]
      simp [hcell]
theorem Qn6 {α : Type} {K : U → Option α} {x : α} (hinv : Inv ρ S₀ w0 (.whole N) s β B a w) {Γ' : Hp} {S' : Nat → Prop} (hΓ : ∀ R c, Γ' R = some c → s.Γ R = some c) (hin : ∀ R, (Γ' R).isSome = true → ∀ b ∈ B R, S' b) (hst : ∀ b, Stands S₀ w s.Γ B b → S' b) {rv : ResultVar} {r : Nat × Option (Bool × Nat)} {rvs : List ResultVar} {rs : List (Nat × Option (Bool × Nat))} (hm : matchRes P N (rv :: rvs) (r :: rs) = true) (h : resOf ⟨s.fr, Γ'⟩ K r = some x) :
    ∃ u v, K u = some x ∧ (resRun a.tmps rv).run P w = .ok v w ∧ ∀ β', VD ρ w S' β' (.val u) v := by
  obtain ⟨t', ro⟩ := r
  cases rv with
  | tmp t =>
    cases ro with
    | some x => obtain ⟨_, _⟩ := x; cases hm
    | none =>
      simp only [matchRes, Bool.and_eq_true, beq_iff_eq, decide_eq_true_eq] at hm
      obtain ⟨⟨rfl, ht⟩, _⟩ := hm
      obtain ⟨u, hu, h⟩ := Option.bind_eq_some_iff.1 h
      exact ⟨u, _, h, rfl, fun β' => Qhd (fun R c hR hl => hinv.rel.roots R c (hΓ R c hR) hl) hin hst (hinv.slot ht) hu⟩
  | cell t ty =>
    cases ro with
    | none => cases hm
    | some x =>
      obtain ⟨agg, size⟩ := x
      simp only [matchRes, Bool.and_eq_true, beq_iff_eq, decide_eq_true_eq] at hm
      obtain ⟨⟨⟨⟨rfl, ht⟩, hag⟩, hsz⟩, _⟩ := hm
      have hslot := hinv.slot ht
      simp only [resOf] at h
      split at h
      · rename_i R p hR
        rw [hR] at hslot
        simp only [at_eq] at h
        obtain ⟨d, hat, h⟩ := Option.bind_eq_some_iff.1 h
        obtain ⟨u', hu', h⟩ := Option.bind_eq_some_iff.1 h
        obtain ⟨hA, hZ, hu⟩ := Qag h
        have hat' : s.Γ.atO R p = some d := by
          obtain ⟨c, d0, hc, hd0, hg⟩ := Qat hat
          unfold Hp.atO Hp.at at hat ⊢
          rw [hc] at hat
          rw [hΓ R c hc]
          exact hat
        obtain ⟨b, off, cs, Bc, e1, hgo, hrg, hlen, t1, hBc, hl⟩ := hinv.rel.at_ptr hslot hat'
        have hR' : (Γ' R).isSome = true := by
          obtain ⟨c, _, hc, _⟩ := Qat hat
          rw [hc]; rfl
        have hus := (Qon (fun R c hR hl => hinv.rel.roots R c (hΓ R c hR) hl) (S' := S') hin hst 8).2 d _ cs Bc u' t1 (fun b hb => hin R hR' b (hBc b hb)) hu'
        have hcl : cs.length = size := by rw [hus.length, ← hZ]; simp
        obtain ⟨v, hrun, hv⟩ := Qoh (P := P) hag (by rw [hcl]; exact hsz) hrg (fun e => by rw [hcl, ← hZ]; exact Qer (hA.trans e))
        refine ⟨u', v, hu, ?_, fun β' => Ql ⟨cs, hus, by rw [hA]; exact hv⟩⟩
        simp only [resRun, e1, asAddr, Sem.run_bind, Sem.run_pure, Result.andThen_ok]
        exact hrun
      · cases h
theorem Qn4 {α : Type} {x : α} (hinv : Inv ρ S₀ w0 (.whole N) s β B a w) {Γ' : Hp} {S' : Nat → Prop} (hΓ : ∀ R c, Γ' R = some c → s.Γ R = some c) (hin : ∀ R, (Γ' R).isSome = true → ∀ b ∈ B R, S' b) (hst : ∀ b, Stands S₀ w s.Γ B b → S' b) : ∀ {rvs : List ResultVar} {rs : List (Nat × Option (Bool × Nat))} {K : List U → Option α}, matchRes P N rvs rs = true → resAll ⟨s.fr, Γ'⟩ rs K = some x →
    ∃ (us : List U) (vs : List Value), K us = some x ∧ (rvs.mapM (resRun a.tmps)).run P w = .ok vs w ∧ vs.length = rs.length ∧ ∀ β', V1s ρ w S' β' (us.map .val) vs
  | [], [], K, _, h => ⟨[], [], h, by simp, rfl, fun β' => rfl⟩
  | [], _ :: _, _, hm, _ => by cases hm
  | rv :: _, [], _, hm, _ => by cases rv <;> cases hm
  | rv :: rvs, r :: rs, K, hm, h => by
    simp only [resAll] at h
    obtain ⟨u, v, hu, hrun, hv⟩ := Qn6 hinv hΓ hin hst hm h
    obtain ⟨hnt, h⟩ := Qgm hu
    have hm' : matchRes P N rvs rs = true := by
      obtain ⟨t', ro⟩ := r
      cases rv <;> cases ro <;> (try cases hm)
      · simp only [matchRes, Bool.and_eq_true] at hm; exact hm.2
      · rename_i x; obtain ⟨_, _⟩ := x; simp only [matchRes, Bool.and_eq_true] at hm; exact hm.2
    obtain ⟨us, vs, hus, hruns, hlen, hvs⟩ := Qn4 hinv hΓ hin hst hm' h
    refine ⟨u :: us, v :: vs, hus, ?_, by simp [hlen], fun β' => ⟨v, vs, rfl, ((hv β').uv hnt).v1, hvs β'⟩⟩
    simp only [List.mapM_cons, Sem.run_bind, hrun, Result.andThen_ok, hruns, Sem.run_pure]
theorem Qg3 (hinv : Inv ρ S₀ w0 (.whole N) s β B a w) {Γ' : Hp} {S' : Nat → Prop} (hΓ : ∀ R c, Γ' R = some c → s.Γ R = some c) (hin : ∀ R, (Γ' R).isSome = true → ∀ b ∈ B R, S' b) (hst : ∀ b, Stands S₀ w s.Γ B b → S' b) {fn : Func} {rs : List (Nat × Option (Bool × Nat))} (hm : matchRes P N fn.results.toList rs = true) {e : Ex} {u : U} (h : finish rs e ⟨s.fr, Γ'⟩ = some u) :
    ∃ v, (Go.results fn a.tmps).run P w = .ok v w ∧ ∀ β', VD ρ w S' β' (.val u) v := by
  have e0 : Go.results fn a.tmps = (do let vs ← fn.results.mapM (resRun a.tmps); pure (if h : vs.size = 1 then vs[0] else .tuple vs)) := by
    unfold Go.results
    congr 1
  rw [e0, Array.mapM_eq_mapM_toList]
  have hfin : Am.results ⟨s.fr, Γ'⟩ rs = some u := by
    cases e with
    | exit id => cases h
    | normal => exact h
    | ret => exact h
  unfold Am.results at hfin
  split at hfin
  · rename_i r
    cases hl : fn.results.toList with
    | nil => rw [hl] at hm; cases hm
    | cons rv rvs =>
      rw [hl] at hm
      obtain ⟨u', v, hu', hrun, hv⟩ := Qn6 hinv hΓ hin hst hm hfin
      cases hu'
      have hm' : rvs = [] := by
        obtain ⟨t', ro⟩ := r
        cases rvs with
        | nil => rfl
        | cons rv2 rvs =>
          exfalso
          cases rv <;> cases ro <;> (try cases hm)
          · simp only [matchRes, Bool.and_eq_true] at hm
            cases rv2 <;> (have := hm.2; cases this)
          · rename_i x; obtain ⟨_, _⟩ := x
            simp only [matchRes, Bool.and_eq_true] at hm
            cases rv2 <;> (have := hm.2; cases this)
      subst hm'
      refine ⟨v, ?_, hv⟩
      simp [hrun]
  · rename_i hne
    obtain ⟨us, vs, hus, hrun, hlen, hvs⟩ := Qn4 hinv hΓ hin hst hm hfin
    cases hus
    refine ⟨.tuple vs.toArray, ?_, fun β' => ⟨vs, rfl, hvs β'⟩⟩
    have h1 : vs.toArray.size ≠ 1 := by
      intro h1
      have h2 : rs.length = 1 := by rw [← hlen]; simpa using h1
      match rs, h2 with
      | [r], _ => exact hne r (rfl)
    have h1' : vs.length ≠ 1 := by simpa using h1
    simp [hrun, h1']
theorem Qg2 (hinv : Inv ρ S₀ w0 (.whole N) s β B a w) {fn : Func} {rs : List (Nat × Option (Bool × Nat))} (hm : matchRes P N fn.results.toList rs = true) {e : Ex} {u : U} (h : finish rs e s = some u) :
    ∃ v, (Go.results fn a.tmps).run P w = .ok v w ∧ ∀ β', VD ρ w (fun b => S₀ b ∧ b < w.heap.size) β' (.val u) v :=
  Qg3 hinv (Γ' := s.Γ) (fun _ _ h => h) (fun R hR b hb => ⟨hinv.rel.fresh b (hinv.rel.inside R hR b hb).1, (hinv.rel.inside R hR b hb).2⟩) (fun b hb => ⟨hb.3, hb.1⟩) hm h
theorem Qfd {us : List U} {vs : List Value} {S : Nat → Prop} (h : Args ρ w S us vs) (n : Nat) (i : Nat) : VD ρ w S β ((start us).fr i) ((vs ++ List.replicate n Go.undef)[i]?.getD Go.undef) := by
  induction us generalizing vs i with
  | nil =>
    cases vs with
    | cons _ _ => exact h.elim
    | nil =>
      show VD ρ w S β .skip _
      have : (List.replicate n Go.undef)[i]?.getD Go.undef = Go.undef := by
        simp only [List.getElem?_replicate]
        split <;> rfl
      simp only [List.nil_append, this]
      rfl
  | cons u us ih =>
    cases vs with
    | nil => exact h.elim
    | cons v vs =>
      cases i with
      | zero => exact h.1 β
      | succ i =>
        have := ih h.2 i
        simpa [start] using this
theorem Qcs : ∀ {us : List U} {vs : List Value} {S : Nat → Prop}, Args ρ w S us vs → vs.length = us.length
  | [], [], _, _ => rfl
  | [], _ :: _, _, h => h.elim
  | _ :: _, [], _, h => h.elim
  | _ :: us, _ :: vs, _, h => by simp [Qcs h.2]
theorem Qaad {d c : D} {Γ1 Γ2 : Hp} (h : d.takeO Γ1 = some (c, Γ2)) : c.isAgg = d.isAgg := by
  cases d with
  | val u => cases u <;> (simp [D.takeO, D.take, U.noTup] at h) <;> (rw [← h.1])
  | ptr R p => simp only [D.takeO, D.take, Option.some.injEq, Prod.mk.injEq] at h; rw [← h.1]
  | fnv r caps => simp only [D.takeO, D.take, Option.some.injEq, Prod.mk.injEq] at h; rw [← h.1]
  | ref R p k part =>
    cases part with
    | some x => cases h
    | none =>
      simp only [D.takeO, D.take, at_eq] at h
      obtain ⟨d', hat, h⟩ := Option.bind_eq_some_iff.1 h
      obtain ⟨h, ds, hex⟩ := Qa4 h
      have hd : d'.isAgg = false := by
        cases d' with
        | val u => cases u <;> first | rfl | (simp [D.ex] at hex)
        | own u => cases u <;> first | rfl | (simp [D.ex, U.ex] at hex)
        | agg ds => simp [D.ex] at hex
        | _ => rfl
      split at h
      · simp only [Option.some.injEq, Prod.mk.injEq] at h
        rw [← h.1, hd]; rfl
      · rw [Qab] at h
        obtain ⟨Γ', _, h⟩ := Option.bind_eq_some_iff.1 h
        simp only [Option.some.injEq, Prod.mk.injEq] at h
        rw [← h.1, hd]; rfl
  | agg ds =>
    rw [Qhp] at h
    obtain ⟨⟨cs, Γ3⟩, h1, h2⟩ := Option.bind_eq_some_iff.1 h
    cases h2
    rfl
  | _ => cases h
theorem Qw8 {d : D} {u : U} (h : d.ownO = some u) : (D.val u).isAgg = d.isAgg := by
  cases d with
  | own u' => cases h; cases u <;> rfl
  | val u' =>
    simp only [D.ownO, D.toOwn, U.asFlat] at h
    split at h
    · cases h; rfl
    · cases h
  | asl k us =>
    simp only [D.ownO, D.toOwn] at h
    split at h
    · cases h; rfl
    · cases h
  | agg ds =>
    rw [Qgq] at h
    obtain ⟨us, h1, h2⟩ := Option.bind_eq_some_iff.1 h
    cases h2
    rfl
  | osl k ds =>
    rw [Qgr] at h
    obtain ⟨us, h1, h2⟩ := Option.bind_eq_some_iff.1 h
    cases h2
    rfl
  | _ => cases h
theorem Qxa (hinv : Inv ρ S₀ w0 (.whole N) s β B a w) {Γ1 Γ2 : Hp} {B1 : Nat → List Nat} {Bx : List Nat} (hp : Parts ρ w (Stands S₀ w s.Γ B) β s.Γ B Γ1 B1 Bx) {u : U} {rv : ResultVar} {r : Nat × Option (Bool × Nat)} {rvs : List ResultVar} {rs : List (Nat × Option (Bool × Nat))} (hm : matchRes P N (rv :: rvs) (r :: rs) = true) (h : ownOf0O s Γ1 r = some (u, Γ2)) :
    ∃ v hd B2 Bc, (resRun a.tmps rv).run P w = .ok v w ∧ Own1 ρ w u v hd Bc ∧ Parts ρ w (Stands S₀ w s.Γ B) β s.Γ B Γ2 B2 (Bx ++ Bc) := by
  obtain ⟨t', ro⟩ := r
  cases rv with
  | tmp t =>
    cases ro with
    | some x => obtain ⟨_, _⟩ := x; cases hm
    | none =>
      simp only [matchRes, Bool.and_eq_true, beq_iff_eq, decide_eq_true_eq] at hm
      obtain ⟨⟨rfl, ht⟩, _⟩ := hm
      have hslot := hinv.slot ht
      have fin : ((s.fr t).take Γ1 fun c Γ' => c.toOwn fun u => some (u, Γ')) = some (u, Γ2) → ∃ v hd B2 Bc, (resRun a.tmps (.tmp t)).run P w = .ok v w ∧ Own1 ρ w u v hd Bc ∧ Parts ρ w (Stands S₀ w s.Γ B) β s.Γ B Γ2 B2 (Bx ++ Bc) := fun h => by
        simp only [Qao, Qaf] at h
        obtain ⟨⟨c, Γ3⟩, htk, h⟩ := Option.bind_eq_some_iff.1 h
        obtain ⟨u', hu', h⟩ := Option.bind_eq_some_iff.1 h
        simp only [Option.some.injEq, Prod.mk.injEq] at h
        obtain ⟨rfl, rfl⟩ := h
        have hne : s.fr t ≠ .undef := fun e => by rw [e] at htk; cases htk
        have hv1 : V1 ρ w (Stands S₀ w s.Γ B) β (s.fr t) (a.tmps.getD t Go.undef) := by
          cases hxe : s.fr t with
          | tup ds => rw [hxe] at htk; cases htk
          | skip => rw [hxe] at htk; cases htk
          | val u =>
            rw [hxe] at hslot htk
            refine (hslot.uv ?_).v1
            rintro us rfl
            cases htk
          | _ => rw [hxe] at hslot; exact hslot
        rcases hv1 with hv1 | ⟨cs, h1, h2⟩
        · exact absurd hv1 hne
        · obtain ⟨hd, B2, Bc, g1, g2, g3⟩ := Parts.take _ htk h1 hp
          refine ⟨_, hd, B2, Bc, rfl, ⟨cs, Own.of ((Qak c _ hu').2 _ _ _ g2), ?_⟩, g1⟩
          rw [Qw8 hu', Qaad htk]
          exact h2
      unfold ownOf0O at h
      simp only [ownOf0] at h
      split at h
      · rename_i u0 hs
        by_cases hnsl : ∃ k, u0 = .nsl k
        · obtain ⟨k, rfl⟩ := hnsl
          cases h
          rw [hs] at hslot
          refine ⟨_, mkE (.slice none 0 0) [], B1, [], rfl, ⟨[.slice none 0 0], .osl0 rfl .nil, ?_⟩, by simpa using hp⟩
          rw [Qar hslot]
          simp [D.isAgg]
        · have h2 := (Qw7 (fun k e => hnsl ⟨k, e⟩) Γ1 (fun u g => some (u, g))).symm.trans h
          rw [← hs] at h2
          exact fin h2
      · rename_i d hd0 
        exact fin h
  | cell t ty =>
    cases ro with
    | none => cases hm
    | some x =>
      obtain ⟨agg, size⟩ := x
      simp only [matchRes, Bool.and_eq_true, beq_iff_eq, decide_eq_true_eq] at hm
      obtain ⟨⟨⟨⟨rfl, ht⟩, hag⟩, hsz⟩, _⟩ := hm
      have hslot := hinv.slot ht
      unfold ownOf0O at h
      simp only [ownOf0] at h
      split at h
      rotate_left
      · cases h
      rename_i R p hR
      rw [hR] at hslot
      simp only [at_eq, Qab, Qaf] at h
      obtain ⟨d, hat, h⟩ := Option.bind_eq_some_iff.1 h
      obtain ⟨Γ3, hset, h⟩ := Option.bind_eq_some_iff.1 h
      obtain ⟨u', hu', h⟩ := Option.bind_eq_some_iff.1 h
      obtain ⟨hA, hZ, h⟩ := Qag (K := fun u => some (u, Γ3)) h
      simp only [Option.some.injEq, Prod.mk.injEq] at h
      obtain ⟨rfl, rfl⟩ := h
      obtain ⟨b, off, e1, hgo⟩ := Qas hslot
      obtain ⟨c, d0, hc, hd, hg⟩ := Qat hat
      obtain ⟨c', d0', d2, hc', hd', hset, rfl⟩ := Qbm hset
      rw [hc] at hc'; cases hc'
      rw [hd] at hd'; cases hd'
      obtain ⟨cs, B2, Bc, g1, g2, g3, g4⟩ := hp.pull hc (Lay.live_of_go hgo) hd hg rfl hset
      have hcl : cs.length = size := by rw [g3, ← hZ, (Qak (ρ := ρ) (w := w) (S := Stands S₀ w s.Γ B) (β := β) d _ hu').1]
      obtain ⟨v, hrun, hv⟩ := Qoh (P := P) hag (by rw [hcl]; exact hsz) (g4 b off hgo) (fun e => by rw [hcl, ← hZ]; exact Qer (hA.trans e))
      refine ⟨v, _, B2, Bc, ?_, ⟨cs, Own.of ((Qak d _ hu').2 _ _ _ g2), by rw [hA]; exact hv⟩, g1⟩
      simp only [resRun, e1, asAddr, Sem.run_bind, Sem.run_pure, Result.andThen_ok]
      exact hrun
theorem Qm2 : ∀ u : U, u.nilOwn.ex.size = u.ex.size
  | .nsl _ => rfl
  | .agg us => by
    show (D.agg (U.ex.exs (U.nilOwn.nils us))).size = (D.agg (U.ex.exs us)).size
    simp only [D.size]
    exact go us
  | .int _ _ | .bool _ | .str _ | .nil | .sl _ _ | .vp _ | .fn _ _ | .tup _ | .raw _ => rfl
where go : ∀ us : List U, D.size.dsizes (U.ex.exs (U.nilOwn.nils us)) = D.size.dsizes (U.ex.exs us)
  | [] => rfl
  | u :: us => by
    simp only [U.nilOwn.nils, U.ex.exs, D.size.dsizes]
    rw [Qm2 u, go us]
theorem Qmc {h h2 : Hdr} : ∀ (ds : List D) (j off : Nat), (∀ j' o q, j ≤ j' → h (.fld j' o :: q) = h2 (.fld j' o :: q)) → flds h j off ds = flds h2 j off ds
  | [], _, _, _ => rfl
  | d :: ds, j, off, he => by
    simp only [flds]
    rw [Qmc ds (j + 1) (off + d.size) (fun j' o q hj => he j' o q (by omega))]
    have : h.at (.fld j off) = h2.at (.fld j off) := funext fun q => he j off q (Nat.le_refl _)
    rw [this]
theorem Qm3 {S : Nat → Prop} {β : Nat → Lay} : ∀ (u : U) {h : Hdr} {cs : List Value} {B : List Nat}, TCs ρ w S β [(h, u.ex)] cs B → ∃ h', TCs ρ w S β [(h', u.nilOwn.ex)] cs B
  | .nsl k, h, cs, B, t => by
    obtain ⟨h1, rfl⟩ := TCs.val_inv t
    cases h1 with
    | nsl k h2 =>
      cases h2
      exact ⟨mkE (.slice none 0 0) [], .osl0 rfl .nil⟩
  | .agg us, h, cs, B, t => by
    obtain ⟨h', t'⟩ := go us 0 0 (TCs.agg_inv t)
    exact ⟨h', TCs.of_agg t'⟩
  | .int _ _, h, _, _, t | .bool _, h, _, _, t | .str _, h, _, _, t | .nil, h, _, _, t | .sl _ _, h, _, _, t | .vp _, h, _, _, t | .fn _ _, h, _, _, t | .tup _, h, _, _, t | .raw _, h, _, _, t => ⟨h, t⟩
where go : ∀ (us : List U) (j off : Nat) {h : Hdr} {cs : List Value} {B : List Nat}, TCs ρ w S β (flds h j off (U.ex.exs us)) cs B → ∃ h', TCs ρ w S β (flds h' j off (U.ex.exs (U.nilOwn.nils us))) cs B
  | [], _, _, h, _, _, t => ⟨h, t⟩
  | u :: us, j, off, h, cs, B, t => by
    obtain ⟨c1, c2, B1, B2, rfl, rfl, _, t1, t2⟩ := TCs.cons_inv t
    obtain ⟨h1, t1⟩ := Qm3 u t1
    obtain ⟨h2, t2⟩ := go us (j + 1) (off + u.ex.size) t2
    let h' : Hdr := fun p => match p with
      | .fld j' o' :: q => if j' = j then h1 q else h2 (.fld j' o' :: q)
      | p => h2 p
    refine ⟨h', ?_⟩
    have e1 : h'.at (.fld j off) = h1 := funext fun q => by simp [h', Hdr.at]
    have e2 : flds h' (j + 1) (off + u.ex.size) (U.ex.exs (U.nilOwn.nils us)) = flds h2 (j + 1) (off + u.ex.size) (U.ex.exs (U.nilOwn.nils us)) := Qmc _ _ _ fun j' o q hj => by
      have : j' ≠ j := by omega
      simp [h', this]
    show TCs ρ w S β ((h'.at (.fld j off), u.nilOwn.ex) :: flds h' (j + 1) (off + u.nilOwn.ex.size) (U.ex.exs (U.nilOwn.nils us))) (c1 ++ c2) (B1 ++ B2)
    rw [Qm2, e1, e2]
    exact TCs.append t1 t2
theorem Qw0 (u : U) : (D.val u.nilOwn).isAgg = (D.val u).isAgg := by cases u <;> rfl
theorem Own1.nil {u : U} {v : Value} {h : Hdr} {B : List Nat} (o : Own1 ρ w u v h B) : ∃ h', Own1 ρ w u.nilOwn v h' B := by
  obtain ⟨cs, h1, h2⟩ := o
  obtain ⟨h', h3⟩ := Qm3 u h1
  exact ⟨h', cs, h3, by rw [Qw0]; exact h2⟩
theorem Qnj (hinv : Inv ρ S₀ w0 (.whole N) s β B a w) {Γ1 Γ2 : Hp} {B1 : Nat → List Nat} {Bx : List Nat} (hp : Parts ρ w (Stands S₀ w s.Γ B) β s.Γ B Γ1 B1 Bx) {u : U} {rv : ResultVar} {r : Nat × Option (Bool × Nat)} {rvs : List ResultVar} {rs : List (Nat × Option (Bool × Nat))} (hm : matchRes P N (rv :: rvs) (r :: rs) = true) (h : ownOfO s Γ1 r = some (u, Γ2)) :
    ∃ v hd B2 Bc, (resRun a.tmps rv).run P w = .ok v w ∧ Own1 ρ w u v hd Bc ∧ Parts ρ w (Stands S₀ w s.Γ B) β s.Γ B Γ2 B2 (Bx ++ Bc) := by
  rw [Qne] at h
  obtain ⟨⟨u0, g0⟩, h0, h1⟩ := Option.map_eq_some_iff.1 h
  cases h1
  obtain ⟨v, hd, B2, Bc, g1, g2, g3⟩ := Qxa hinv hp hm h0
  obtain ⟨hd', g4⟩ := g2.nil
  exact ⟨v, hd', B2, Bc, g1, g4, g3⟩
theorem Qnc {α : Type} {x : α} (hinv : Inv ρ S₀ w0 (.whole N) s β B a w) : ∀ {rvs : List ResultVar} {rs : List (Nat × Option (Bool × Nat))} {K : List U → Hp → Option α} {Γ1 : Hp} {B1 : Nat → List Nat} {Bx : List Nat}, Parts ρ w (Stands S₀ w s.Γ B) β s.Γ B Γ1 B1 Bx → matchRes P N rvs rs = true → ownAll s Γ1 rs K = some x →
    ∃ (us : List U) (vs : List Value) (hs : List Hdr) (Γ2 : Hp) (B2 : Nat → List Nat) (Bc : List Nat), K us Γ2 = some x ∧ (rvs.mapM (resRun a.tmps)).run P w = .ok vs w ∧ vs.length = rs.length ∧ Owns ρ w us vs hs Bc ∧ Parts ρ w (Stands S₀ w s.Γ B) β s.Γ B Γ2 B2 (Bx ++ Bc)
  | [], [], K, Γ1, B1, Bx, hp, _, h => ⟨[], [], [], Γ1, B1, [], h, by simp, rfl, ⟨rfl, rfl, rfl⟩, by simpa using hp⟩
  | [], _ :: _, _, _, _, _, _, hm, _ => by cases hm
  | rv :: _, [], _, _, _, _, _, hm, _ => by cases rv <;> cases hm
  | rv :: rvs, r :: rs, K, Γ1, B1, Bx, hp, hm, h => by
    simp only [ownAll, Qnf] at h
    obtain ⟨⟨u, Γ3⟩, hu, h⟩ := Option.bind_eq_some_iff.1 h
    obtain ⟨v, hd, B3, Bc, hrun, ho, hp3⟩ := Qnj hinv hp hm hu
    have hm' : matchRes P N rvs rs = true := by
      obtain ⟨t', ro⟩ := r
      cases rv <;> cases ro <;> (try cases hm)
      · simp only [matchRes, Bool.and_eq_true] at hm; exact hm.2
      · rename_i x; obtain ⟨_, _⟩ := x; simp only [matchRes, Bool.and_eq_true] at hm; exact hm.2
    obtain ⟨us, vs, hs, Γ2, B2, Bc2, hk, hruns, hlen, hos, hp2⟩ := Qnc hinv hp3 hm' h
    refine ⟨u :: us, v :: vs, hd :: hs, Γ2, B2, Bc ++ Bc2, hk, ?_, by simp [hlen], ⟨v, vs, hd, hs, Bc, Bc2, rfl, rfl, rfl, ho, hos⟩, by rw [← List.append_assoc]; exact hp2⟩
    simp only [List.mapM_cons, Sem.run_bind, hrun, Result.andThen_ok, hruns, Sem.run_pure]
theorem Qg1 (hinv : Inv ρ S₀ w0 (.whole N) s β B a w) {fn : Func} {rs : List (Nat × Option (Bool × Nat))} (hm : matchRes P N fn.results.toList rs = true) {e : Ex} {u : U} (h : finishF rs e s = some u) :
    ∃ v Bc, (Go.results fn a.tmps).run P w = .ok v w ∧ OwnRes ρ w u v Bc ∧ Bc.Nodup ∧ (∀ b ∈ Bc, Owned s.Γ B b) := by
  have e0 : Go.results fn a.tmps = (do let vs ← fn.results.mapM (resRun a.tmps); pure (if h : vs.size = 1 then vs[0] else .tuple vs)) := by
    unfold Go.results
    congr 1
  rw [e0, Array.mapM_eq_mapM_toList]
  have hfin : ownRes s (fun u _ => some u) rs = some u := by
    cases e with
    | exit id => cases h
    | normal => exact h
    | ret => exact h
  unfold ownRes at hfin
  split at hfin
  · rename_i r
    cases hl : fn.results.toList with
    | nil => rw [hl] at hm; cases hm
    | cons rv rvs =>
      rw [hl] at hm
      rw [Qnf] at hfin
      obtain ⟨⟨u', Γ2⟩, hu, hfin⟩ := Option.bind_eq_some_iff.1 hfin
      cases hfin
      obtain ⟨v, hd, B2, Bc, hrun, ho, hp⟩ := Qnj hinv hinv.rel.parts hm hu
      rw [List.nil_append] at hp
      have hm' : rvs = [] := by
        obtain ⟨t', ro⟩ := r
        cases rvs with
        | nil => rfl
        | cons rv2 rvs =>
          exfalso
          cases rv <;> cases ro <;> (try cases hm)
          · simp only [matchRes, Bool.and_eq_true] at hm
            cases rv2 <;> (have := hm.2; cases this)
          · rename_i x; obtain ⟨_, _⟩ := x
            simp only [matchRes, Bool.and_eq_true] at hm
            cases rv2 <;> (have := hm.2; cases this)
      subst hm'
      refine ⟨v, Bc, by simp [hrun], ?_, hp.nodup, fun b hb => (hp.out b hb).1⟩
      show OwnRes ρ w u' v Bc
      cases u' with
      | tup us =>
        obtain ⟨cs, o, _⟩ := ho
        cases o
      | _ => exact ⟨hd, ho⟩
  · rename_i hne
    obtain ⟨us, vs, hs, Γ2, B2, Bc, hk, hrun, hlen, ho, hp⟩ := Qnc hinv hinv.rel.parts hm hfin
    rw [List.nil_append] at hp
    cases hk
    refine ⟨.tuple vs.toArray, Bc, ?_, ⟨vs, hs, rfl, ho⟩, hp.nodup, fun b hb => (hp.out b hb).1⟩
    have h1 : vs.toArray.size ≠ 1 := by
      intro h1
      have h2 : rs.length = 1 := by rw [← hlen]; simpa using h1
      match rs, h2 with
      | [r], _ => exact hne r (rfl)
    have h1' : vs.length ≠ 1 := by simpa using h1
    simp [hrun, h1']
theorem Qd2 (vs : List Value) (n i : Nat) : (vs.toArray ++ Array.replicate (n - vs.toArray.size) Go.undef).getD i Go.undef = (vs ++ List.replicate (n - vs.length) Go.undef)[i]?.getD Go.undef := by
  rw [Array.getD_eq_getD_getElem?]
  congr 1
  rw [← Array.getElem?_toList]
  simp
theorem Qoz {S : Nat → Prop} {us : List U} {vs : List Value} {fn : Func} (hS : ∀ b, S b → b < w.heap.size) (hargs : Args ρ w S us vs) (hnp : us.length ≤ fn.ntmps) :
    Inv' ρ (fun b => S b ∨ w.heap.size ≤ b) ⟨w, fun b => w.heap.size ≤ b, fun _ => none, fun _ => ⟨.dead, noHdr⟩⟩ (.whole fn.ntmps) (start us) { tmps := vs.toArray ++ Array.replicate (fn.ntmps - vs.toArray.size) Go.undef, defers := [] } w := by
  have hvl : vs.length = us.length := Qcs hargs
  have hargs' : Args ρ w (Stands (fun b => S b ∨ w.heap.size ≤ b) w (start us).Γ (fun _ => [])) us vs := hargs.mono (fun b hb => ⟨hS b hb, fun R hR => (by cases hR), .inl hb⟩) (fun _ _ _ _ h => h)
  refine ⟨fun _ => ⟨.dead, noHdr⟩, fun _ => [], ⟨⟨?_, rfl, fun i hi => ?_, fun x hx => (by cases hx), fun R c hR => (by cases hR), fun R R' _ hR => (by cases hR), fun R hR => (by cases hR), fun b hb => hb, fun b hb => .inr hb⟩, Behind.refl _ _, fun R _ hR => (by cases hR)⟩⟩
  · simp [Fm.whole]; omega
  · have := Qfd (β := fun _ => ⟨.dead, noHdr⟩) hargs' (fn.ntmps - vs.length) i
    rw [Qd2]
    show VD ρ w _ _ ((start us).fr (0 + i)) _
    rw [Nat.zero_add]
    exact this
theorem Qoy {S : Nat → Prop} {k : Nat} {xs us : List U} {v0 : Value} {vs : List Value} {h : Hdr} {Bs : List Nat} {fn : Func} (hS : ∀ b, S b → b < w.heap.size ∧ b ∉ Bs) (hB : ∀ b ∈ Bs, b < w.heap.size) (hn : Bs.Nodup)
    (hown : Own ρ w (.sl k xs) h [v0] Bs) (hargs : Args ρ w S us vs) (hnp : us.length + 1 ≤ fn.ntmps) :
    Inv' ρ (fun b => S b ∨ w.heap.size ≤ b ∨ b ∈ Bs) ⟨w, fun b => w.heap.size ≤ b ∨ b ∈ Bs, (startM k xs us).Γ, fun _ => ⟨.vir, h⟩⟩ (.whole fn.ntmps) (startM k xs us) { tmps := (v0 :: vs).toArray ++ Array.replicate (fn.ntmps - (v0 :: vs).toArray.size) Go.undef, defers := [] } w := by
  have hvl : vs.length = us.length := Qcs hargs
  have h5 : ∀ R, ((startM k xs us).Γ R).isSome = true → R = 5000 := fun R hR => by
    simp only [startM] at hR
    split at hR
    · assumption
    · cases hR
  have hargs' : Args ρ w (Stands (fun b => S b ∨ w.heap.size ≤ b ∨ b ∈ Bs) w (startM k xs us).Γ (fun _ => Bs)) us vs := hargs.mono (fun b hb => ⟨(hS b hb).1, fun R _ => (hS b hb).2, .inl hb⟩) (fun _ _ _ _ h => h)
  obtain ⟨hh, hone⟩ := hown.hdr
  refine ⟨fun _ => ⟨.vir, h⟩, fun _ => Bs, ⟨⟨?_, rfl, fun i hi => ?_, fun x hx => (by cases hx), fun R c hR _ => ?_, fun R R' hne hR hR' => ?_, fun R hR b hb => ⟨.inr hb, hB b hb⟩, fun b hb => .inl hb, fun b hb => .inr hb⟩, Behind.refl _ _, Given.refl⟩⟩
  · simp [Fm.whole]; omega
  · rw [Qd2]
    show VD ρ w _ _ ((startM k xs us).fr (0 + i)) _
    rw [Nat.zero_add]
    cases i with
    | zero => exact Qcr (v0 := v0) hh ⟨rfl, hone⟩
    | succ i => exact Qfd (β := fun _ => ⟨.vir, h⟩) hargs' (fn.ntmps - (vs.length + 1)) i
  · obtain rfl := h5 R (by rw [hR]; rfl)
    simp only [startM, if_true, Option.some.injEq] at hR
    subst hR
    exact ⟨hn, [v0], rfl, hown.cells⟩
  · exact absurd ((h5 R hR).trans (h5 R' hR').symm) hne
theorem Qz0 {S : Nat → Prop} {c : U} {us : List U} {vs : List Value} {h : Hdr} {cs : List Value} {b : Nat} {e : TypeId} {Bs : List Nat} {fn : Func} (hS : ∀ x, S x → x < w.heap.size ∧ x ∉ b :: Bs) (hB : ∀ x ∈ b :: Bs, x < w.heap.size) (hn : (b :: Bs).Nodup)
    (hblk : w.heap[b]? = some (.cells cs.toArray e (0, 0))) (hown : PCs ρ w S c h cs Bs) (hargs : Args ρ w S us vs) (hnp : us.length + 1 ≤ fn.ntmps) :
    Inv' ρ (fun x => S x ∨ w.heap.size ≤ x ∨ x ∈ b :: Bs) ⟨w, fun x => w.heap.size ≤ x ∨ x ∈ b :: Bs, (startP c us).Γ, fun _ => ⟨.adr b 0, h⟩⟩ (.whole fn.ntmps) (startP c us) { tmps := (.pointer (some ⟨b, 0, none⟩) :: vs).toArray ++ Array.replicate (fn.ntmps - (.pointer (some ⟨b, 0, none⟩) :: vs : List Value).toArray.size) Go.undef, defers := [] } w := by
  have hvl : vs.length = us.length := Qcs hargs
  have h5 : ∀ R, ((startP c us).Γ R).isSome = true → R = 5000 := fun R hR => by
    simp only [startP] at hR
    split at hR
    · assumption
    · cases hR
  have hS' : ∀ x, S x → Stands (fun x => S x ∨ w.heap.size ≤ x ∨ x ∈ b :: Bs) w (startP c us).Γ (fun _ => b :: Bs) x := fun x hx => ⟨(hS x hx).1, fun R _ => (hS x hx).2, .inl hx⟩
  have hargs' : Args ρ w (Stands (fun x => S x ∨ w.heap.size ≤ x ∨ x ∈ b :: Bs) w (startP c us).Γ (fun _ => b :: Bs)) us vs := hargs.mono hS' (fun _ _ _ _ h => h)
  refine ⟨fun _ => ⟨.adr b 0, h⟩, fun _ => b :: Bs, ⟨⟨?_, rfl, fun i hi => ?_, fun x hx => (by cases hx), fun R c' hR _ => ?_, fun R R' hne hR hR' => ?_, fun R hR x hx => ⟨.inr hx, hB x hx⟩, fun x hx => .inl hx, fun x hx => .inr hx⟩, Behind.refl _ _, Given.refl⟩⟩
  · simp [Fm.whole]; omega
  · rw [Qd2]
    show VD ρ w _ _ ((startP c us).fr (0 + i)) _
    rw [Nat.zero_add]
    cases i with
    | zero => exact Qbp rfl
    | succ i => exact Qfd (β := fun _ => ⟨.adr b 0, h⟩) hargs' (fn.ntmps - (vs.length + 1)) i
  · obtain rfl := h5 R (by rw [hR]; rfl)
    simp only [startP, if_true, Option.some.injEq] at hR
    subst hR
    exact ⟨hn, b, cs, e, Bs, rfl, hblk, (hown _).mono hS' (fun _ _ => rfl) (fun _ _ => rfl) (fun _ _ => rfl), rfl⟩
  · exact absurd ((h5 R hR).trans (h5 R' hR').symm) hne
theorem Qzz {us : List U} {vs : List Value} {S : Nat → Prop} (h : Args ρ w S us vs) (p : Value) (n : Nat) (i : Nat) (hi : i ≠ us.length) : VD ρ w S β ((start us).fr i) ((vs ++ [p] ++ List.replicate n Go.undef)[i]?.getD Go.undef) := by
  have hl := Qcs h
  by_cases h1 : i < us.length
  · have := Qfd (β := β) h 0 i
    rw [List.append_assoc, List.getElem?_append_left (by omega)]
    rwa [List.replicate_zero, List.append_nil] at this
  · have h2 : (start us).fr i = .skip := by
      simp only [start]
      rw [List.getElem?_eq_none (by omega)]
    rw [h2, List.getElem?_append_right (by simp; omega)]
    show _ = Go.undef
    simp only [List.getElem?_replicate]
    split <;> rfl
theorem Qzy {S : Nat → Prop} {c : U} {us : List U} {vs : List Value} {h : Hdr} {cs : List Value} {b : Nat} {e : TypeId} {Bs : List Nat} {fn : Func} (hS : ∀ x, S x → x < w.heap.size ∧ x ∉ b :: Bs) (hB : ∀ x ∈ b :: Bs, x < w.heap.size) (hn : (b :: Bs).Nodup)
    (hblk : w.heap[b]? = some (.cells cs.toArray e (0, 0))) (hown : PCs ρ w S c h cs Bs) (hargs : Args ρ w S us vs) (hnp : us.length + 1 ≤ fn.ntmps) :
    Inv' ρ (fun x => S x ∨ w.heap.size ≤ x ∨ x ∈ b :: Bs) ⟨w, fun x => w.heap.size ≤ x ∨ x ∈ b :: Bs, (startL c us).Γ, fun _ => ⟨.adr b 0, h⟩⟩ (.whole fn.ntmps) (startL c us) { tmps := (vs ++ [Value.pointer (some ⟨b, 0, none⟩)]).toArray ++ Array.replicate (fn.ntmps - (vs ++ [Value.pointer (some ⟨b, 0, none⟩)]).toArray.size) Go.undef, defers := [] } w := by
  have hvl : vs.length = us.length := Qcs hargs
  have h5 : ∀ R, ((startL c us).Γ R).isSome = true → R = 5000 := fun R hR => by
    simp only [startL] at hR
    split at hR
    · assumption
    · cases hR
  have hS' : ∀ x, S x → Stands (fun x => S x ∨ w.heap.size ≤ x ∨ x ∈ b :: Bs) w (startL c us).Γ (fun _ => b :: Bs) x := fun x hx => ⟨(hS x hx).1, fun R _ => (hS x hx).2, .inl hx⟩
  have hargs' : Args ρ w (Stands (fun x => S x ∨ w.heap.size ≤ x ∨ x ∈ b :: Bs) w (startL c us).Γ (fun _ => b :: Bs)) us vs := hargs.mono hS' (fun _ _ _ _ h => h)
  refine ⟨fun _ => ⟨.adr b 0, h⟩, fun _ => b :: Bs, ⟨⟨?_, rfl, fun i hi => ?_, fun x hx => (by cases hx), fun R c' hR _ => ?_, fun R R' hne hR hR' => ?_, fun R hR x hx => ⟨.inr hx, hB x hx⟩, fun x hx => .inl hx, fun x hx => .inr hx⟩, Behind.refl _ _, Given.refl⟩⟩
  · simp [Fm.whole]; omega
  · rw [Qd2]
    show VD ρ w _ _ ((startL c us).fr (0 + i)) _
    rw [Nat.zero_add]
    by_cases hi' : i = us.length
    · subst hi'
      simp only [startL, if_true]
      have : ((vs ++ [Value.pointer (some ⟨b, 0, none⟩)] ++ List.replicate (fn.ntmps - (vs ++ [Value.pointer (some ⟨b, 0, none⟩)]).length) Go.undef)[us.length]?).getD Go.undef = .pointer (some ⟨b, 0, none⟩) := by
        rw [← hvl]; simp
      rw [this]
      exact Qbp rfl
    · have e0 : (startL c us).fr i = (start us).fr i := by simp only [startL]; rw [if_neg hi']
      rw [e0]
      exact Qzz (β := fun _ => ⟨.adr b 0, h⟩) hargs' _ _ i hi'
  · obtain rfl := h5 R (by rw [hR]; rfl)
    simp only [startL, if_true, Option.some.injEq] at hR
    subst hR
    exact ⟨hn, b, cs, e, Bs, rfl, hblk, (hown _).mono hS' (fun _ _ => rfl) (fun _ _ => rfl) (fun _ _ => rfl), rfl⟩
  · exact absurd ((h5 R hR).trans (h5 R' hR').symm) hne
theorem Qdp {q : Nat} {V F M C L N : Prop} : (match q / 100000 with | 0 => V | 1 => F | 2 => M | 3 => C | 4 => L | _ => N) ↔ (q / 100000 = 0 → V) ∧ (q / 100000 = 1 → F) ∧ (q / 100000 = 2 → M) ∧ (q / 100000 = 3 → C) ∧ (q / 100000 = 4 → L) ∧ (5 ≤ q / 100000 → N) := by
  generalize q / 100000 = n
  match n with
  | 0 => simp
  | 1 => simp
  | 2 => simp
  | 3 => simp
  | 4 => simp
  | n + 5 => simp
theorem Qcc (hg : Good P ρ E) (hp : P.follows .mixedOrders = true) {q np : Nat} {ac : AC} {rs : List (Nat × Option (Bool × Nat))} (hm : matchFn P ρ q np ac rs = true) {us : List U} {u : U} (hl : us.length = np) (h : runQ q E ac rs us = some u) : GoodAt P ρ q us u := by
  unfold matchFn at hm
  split at hm
  rotate_left
  · cases hm
  rename_i fn hf
  simp only [Bool.and_eq_true, decide_eq_true_eq] at hm
  obtain ⟨⟨⟨hok, hbody⟩, hnp⟩, hres⟩ := hm
  cases hb : fn.body with
  | none => rw [hb] at hbody; cases hbody
  | some c =>
    rw [hb] at hbody
    obtain ⟨⟨st, fin⟩, hset, h⟩ := Option.bind_eq_some_iff.1 h
    unfold setup at hset
    refine ⟨hok, Qdp.2 ?_⟩
    split at hset
    · -- what reads so
      rename_i hq
      cases hset
      refine ⟨fun _ w S vs hS hargs => ?_, fun h1 => by omega, fun h1 => by omega, fun h1 => by omega, fun h1 => by omega, fun h1 => by omega⟩
      refine calls_of_wp hf hb ?_
      refine Qbr hg hp ac (.whole fn.ntmps) (.code c) (start us) _ w _ _ hbody (Qoz hS hargs (by omega)) h fun e s' a' w' hinv' h' => ?_
      obtain ⟨β, B, hi⟩ := hinv'
      obtain ⟨v, hrun, hv⟩ := Qg2 hi hres h'
      have hpost : a'.defers = [] ∧ ∃ v, (Go.results fn a'.tmps).run P w' = .ok v w' ∧ ∃ v', Ending.returned v = .returned v' ∧ Below w.heap.size w w' ∧ ∀ β, VD ρ w' (fun b => S b ∨ (w.heap.size ≤ b ∧ b < w'.heap.size)) β (.val u) v' :=
        ⟨hi.rel.defers, v, hrun, v, rfl, hi.below.below, fun β' => (hv β').val_mono (fun b hb => hb.1.imp id fun h => ⟨h, hb.2⟩) (fun _ _ _ _ h => h)⟩
      cases e with
      | normal => exact hpost
      | ret => exact hpost
      | exit id => cases h'
    · -- data of the caller's own
      rename_i hq
      cases hset
      refine ⟨fun h1 => by omega, fun _ w S vs hS hargs => ?_, fun h1 => by omega, fun h1 => by omega, fun h1 => by omega, fun h1 => by omega⟩
      refine calls_of_wp hf hb ?_
      refine Qbr hg hp ac (.whole fn.ntmps) (.code c) (start us) _ w _ _ hbody (Qoz hS hargs (by omega)) h fun e s' a' w' hinv' h' => ?_
      obtain ⟨β, B, hi⟩ := hinv'
      obtain ⟨v, Bc, hrun, hown, hn, hBc⟩ := Qg1 hi hres h'
      have hpost : a'.defers = [] ∧ ∃ v, (Go.results fn a'.tmps).run P w' = .ok v w' ∧ ∃ v' B, Ending.returned v = .returned v' ∧ Below w.heap.size w w' ∧ B.Nodup ∧ (∀ b ∈ B, w.heap.size ≤ b ∧ b < w'.heap.size) ∧ OwnRes ρ w' u v' B :=
        ⟨hi.rel.defers, v, hrun, v, Bc, rfl, hi.below.below, hn, fun b hb => hi.rel.owned (hBc b hb), hown⟩
      cases e with
      | normal => exact hpost
      | ret => exact hpost
      | exit id => cases h'
    · -- a slice is changed
      rename_i hq
      split at hset
      rotate_left
      · cases hset
      rename_i k xs us'
      cases hset
      refine ⟨fun h1 => by omega, fun h1 => by omega, fun _ => ?_, fun h1 => by omega, fun h1 => by omega, fun h1 => by omega⟩
      have hu : ∃ y ys, u = .tup [y, .sl k ys] ∧ y.flat = true := by
        obtain ⟨e, s', h1, _⟩ := Qbs E ac (startM k xs us') _ _ h
        obtain ⟨y, hy, h1⟩ := Option.bind_eq_some_iff.1 h1
        split at h1
        rotate_left
        · cases h1
        rw [Qaf] at h1
        obtain ⟨u0, _, h1⟩ := Option.bind_eq_some_iff.1 h1
        cases u0 with
        | sl k' ys =>
          simp only [U.asSlK] at h1
          split at h1
          rotate_left
          · cases h1
          rename_i hkk
          subst hkk
          split at h1
          · rename_i hyf
            cases h1
            exact ⟨y, ys, rfl, hyf⟩
          · cases h1
        | _ => cases h1
      obtain ⟨y, ys, rfl, hyf⟩ := hu
      refine ⟨k, xs, us', y, ys, rfl, rfl, fun w S v0 vs hd Bs hS hB hn hown hargs => ?_⟩
      refine calls_of_wp hf hb ?_
      refine Qbr hg hp ac (.whole fn.ntmps) (.code c) (startM k xs us') _ w _ _ hbody (Qoy hS hB hn hown hargs (by simp only [List.length_cons] at hl; omega)) h fun e s' a' w' hinv' h' => ?_
      obtain ⟨β, B, hi⟩ := hinv'
      obtain ⟨y2, hy2, h2⟩ := Option.bind_eq_some_iff.1 h'
      split at h2
      rotate_left
      · cases h2
      rename_i d hG
      rw [Qaf] at h2
      obtain ⟨u0, hu0, h2⟩ := Option.bind_eq_some_iff.1 h2
      cases u0 with
      | sl k' ys' =>
        simp only [U.asSlK] at h2
        split at h2
        rotate_left
        · cases h2
        rename_i hkk
        subst hkk
        split at h2
        rotate_left
        · cases h2
        simp only [Option.some.injEq, U.tup.injEq, List.cons.injEq, U.sl.injEq, true_and, and_true] at h2
        obtain ⟨rfl, rfl⟩ := h2
        obtain ⟨v, hrun, hv⟩ := Qg2 hi hres hy2
        have hsome : (s'.Γ 5000).isSome = true := by rw [hG]; rfl
        obtain ⟨_, g1, g2⟩ := hi.given 5000 (Nat.le_refl _) hsome
        have hl5 : (β 5000).live := fun e => by rw [g1] at e; cases e
        obtain ⟨hn5, cs5, _, t5⟩ := hi.rel.roots 5000 _ hG hl5
        have o5 : Own ρ w' (.sl k' ys') (β 5000).h cs5 (B 5000) := Own.of ((Qak d _ hu0).2 _ _ _ t5)
        have hcs : cs5 = [v0] := by
          obtain ⟨_, v', e1, h3, _⟩ := Qda (α := Nat) (d := .own (.sl k' ys')) (k := k') (K := some 0) (r := 0) (by simp [D.isSl, U.asSlK]) o5
          have h4 := g2 rfl
          rw [Lay.hdr_live hl5, h3] at h4
          have h5 := hown.hdr.1
          have h6 : (⟨.vir, hd⟩ : Lay).hdr [] = some v0 := h5
          rw [h6] at h4
          rw [e1]
          cases h4
          rfl
        subst hcs
        have hbeh : Behind (fun b => b ∈ Bs) w w' := ⟨⟨hi.below.os, hi.below.tape, hi.below.output, hi.below.size, fun b hlt hnb => hi.below.block b hlt (fun hh => by
          rcases hh with hh | hh
          · have : w.heap.size ≤ b := hh
            omega
          · exact hnb hh)⟩, hi.below.drawn⟩
        have hpost : a'.defers = [] ∧ ∃ v, (Go.results fn a'.tmps).run P w' = .ok v w' ∧ ∃ v' h' Bs', Ending.returned v = .returned v' ∧ (∀ S β, VD ρ w' S β (.val y2) v') ∧ Behind (fun b => b ∈ Bs) w w' ∧ Bs'.Nodup ∧ (∀ b ∈ Bs', b ∈ Bs ∨ (w.heap.size ≤ b ∧ b < w'.heap.size)) ∧ Own ρ w' (.sl k' ys') h' [v0] Bs' :=
          ⟨hi.rel.defers, v, hrun, v, _, _, rfl, fun S β' => (hv β').flat_any hyf, hbeh, hn5, fun b hb => by
            have h7 := hi.rel.inside 5000 hsome b hb
            rcases h7.1 with h8 | h8
            · exact .inr ⟨h8, h7.2⟩
            · exact .inl h8, o5⟩
        cases e with
        | normal => exact hpost
        | ret => exact hpost
        | exit id => cases hy2
      | _ => cases h2
    · -- a slice is given
      rename_i hq
      split at hset
      rotate_left
      · cases hset
      rename_i k xs us'
      cases hset
      refine ⟨fun h1 => by omega, fun h1 => by omega, fun h1 => by omega, fun _ => ?_, fun h1 => by omega, fun h1 => by omega⟩
      refine ⟨k, xs, us', rfl, fun ys hys w S v0 vs hd Bs hS hB hn hown hargs => ?_⟩
      subst hys
      refine calls_of_wp hf hb ?_
      refine Qbr hg hp ac (.whole fn.ntmps) (.code c) (startM k xs us') _ w _ _ hbody (Qoy hS hB hn hown hargs (by simp only [List.length_cons] at hl; omega)) h fun e s' a' w' hinv' h' => ?_
      obtain ⟨β, B, hi⟩ := hinv'
      obtain ⟨v, Bc, hrun, hown', hn', hBc⟩ := Qg1 hi hres h'
      obtain ⟨h9, cs, o9, hcs⟩ := hown'
      have hcs : cs = [v] := hcs
      subst hcs
      have hbeh : Behind (fun b => b ∈ Bs) w w' := ⟨⟨hi.below.os, hi.below.tape, hi.below.output, hi.below.size, fun b hlt hnb => hi.below.block b hlt (fun hh => by
        rcases hh with hh | hh
        · have : w.heap.size ≤ b := hh
          omega
        · exact hnb hh)⟩, hi.below.drawn⟩
      have hpost : a'.defers = [] ∧ ∃ v, (Go.results fn a'.tmps).run P w' = .ok v w' ∧ ∃ v' h' Bs', Ending.returned v = .returned v' ∧ Behind (fun b => b ∈ Bs) w w' ∧ Bs'.Nodup ∧ (∀ b ∈ Bs', b ∈ Bs ∨ (w.heap.size ≤ b ∧ b < w'.heap.size)) ∧ Own ρ w' (.sl k ys) h' [v'] Bs' :=
        ⟨hi.rel.defers, v, hrun, v, h9, Bc, rfl, hbeh, hn', fun b hb => by
          have h7 := hi.rel.owned (hBc b hb)
          rcases h7.1 with h8 | h8
          · exact .inr ⟨h8, h7.2⟩
          · exact .inl h8, o9⟩
      cases e with
      | normal => exact hpost
      | ret => exact hpost
      | exit id => cases h'
    · -- an address is given
      rename_i hq
      split at hset
      rotate_left
      · cases hset
      rename_i c0 us'
      cases hset
      refine ⟨fun h1 => by omega, fun h1 => by omega, fun h1 => by omega, fun h1 => by omega, fun _ => ?_, fun h1 => by omega⟩
      have hu : ∃ y c', u = .tup [y, c'] := by
        obtain ⟨e, s', h1, _⟩ := Qbs E ac (startP c0 us') _ _ h
        obtain ⟨y, hy, h1⟩ := Option.bind_eq_some_iff.1 h1
        split at h1
        rotate_left
        · cases h1
        obtain ⟨c', _, h1⟩ := Option.bind_eq_some_iff.1 h1
        cases h1
        exact ⟨y, c', rfl⟩
      obtain ⟨y, c', rfl⟩ := hu
      refine ⟨c0, us', y, c', rfl, rfl, fun w S b e0 vs hd cs Bs hS hB hn hblk hown hargs => ?_⟩
      refine calls_of_wp hf hb ?_
      refine Qbr hg hp ac (.whole fn.ntmps) (.code c) (startP c0 us') _ w _ _ hbody (Qz0 (fn := fn) hS hB hn hblk hown hargs (by simp only [List.length_cons] at hl; omega)) h fun e s' a' w' hinv' h' => ?_
      obtain ⟨β, B, hi⟩ := hinv'
      obtain ⟨y2, hy2, h2⟩ := Option.bind_eq_some_iff.1 h'
      split at h2
      rotate_left
      · cases h2
      rename_i d hG
      obtain ⟨c2, hc2, h2⟩ := Option.bind_eq_some_iff.1 h2
      cases h2
      have hsome : (s'.Γ 5000).isSome = true := by rw [hG]; rfl
      obtain ⟨_, g1, _⟩ := hi.given 5000 (Nat.le_refl _) hsome
      have g1' : (β 5000).root = .adr b 0 := g1
      have hl5 : (β 5000).live := fun e => by rw [g1'] at e; cases e
      obtain ⟨hn5, b5, cs5, e5, Bs5, r5, k5, t5, e55⟩ := hi.rel.roots 5000 _ hG hl5
      rw [g1'] at r5
      cases r5
      obtain ⟨v, hrun, hv⟩ := Qg3 hi (Γ' := upd s'.Γ 5000 none) (S' := fun x => (S x ∨ x ∈ Bs ∨ (w.heap.size ≤ x ∧ x < w'.heap.size)) ∧ x ∉ b :: Bs5) (fun R c hR => by
          by_cases e : R = 5000
          · rw [e, Qd] at hR; cases hR
          · rw [Qa _ _ e] at hR; exact hR) (fun R hR x hx => by
          by_cases e : R = 5000
          · rw [e, Qd] at hR; cases hR
          · rw [Qa _ _ e] at hR
            have h7 := hi.rel.inside R hR x hx
            have h8 := hi.rel.apart R 5000 e hR hsome x hx
            rw [e55] at h8
            refine ⟨?_, h8⟩
            rcases h7.1 with h9 | h9
            · exact .inr (.inr ⟨h9, h7.2⟩)
            · rcases List.mem_cons.1 h9 with rfl | h9
              · exact absurd (by simp) h8
              · exact .inr (.inl h9)) (fun x hx => by
          have h8 := hx.2 5000 hsome
          rw [e55] at h8
          refine ⟨?_, h8⟩
          rcases hx.3 with h9 | h9 | h9
          · exact .inl h9
          · exact .inr (.inr ⟨h9, hx.1⟩)
          · rcases List.mem_cons.1 h9 with rfl | h9
            · exact absurd (by simp) h8
            · exact .inr (.inl h9)) hres hy2
      have hbeh : Behind (fun x => x ∈ b :: Bs) w w' := ⟨⟨hi.below.os, hi.below.tape, hi.below.output, hi.below.size, fun x hlt hnb => hi.below.block x hlt (fun hh => by
        rcases hh with hh | hh
        · have : w.heap.size ≤ x := hh
          omega
        · exact hnb hh)⟩, hi.below.drawn⟩
      rw [e55] at hn5
      have hb5 : ∀ x ∈ Bs5, x ∈ Bs ∨ (w.heap.size ≤ x ∧ x < w'.heap.size) := fun x hx => by
        have h7 := hi.rel.inside 5000 hsome x (by rw [e55]; simp [hx])
        rcases h7.1 with h8 | h8
        · exact .inr ⟨h8, h7.2⟩
        · rcases List.mem_cons.1 h8 with rfl | h8
          · exact absurd hx (List.nodup_cons.1 hn5).1
          · exact .inl h8
      have ht5 : PCs ρ w' (fun x => (S x ∨ x ∈ Bs ∨ (w.heap.size ≤ x ∧ x < w'.heap.size)) ∧ x ∉ b :: Bs5) c' (β 5000).h cs5 Bs5 := fun β' => (Qgw hc2 t5 β').mono (fun x hx => by
          have h8 := hx.2 5000 hsome
          rw [e55] at h8
          refine ⟨?_, h8⟩
          rcases hx.3 with h9 | h9 | h9
          · exact .inl h9
          · exact .inr (.inr ⟨h9, hx.1⟩)
          · rcases List.mem_cons.1 h9 with rfl | h9
            · exact absurd (by simp) h8
            · exact .inr (.inl h9)) (fun _ _ => rfl) (fun _ _ => rfl) (fun _ _ => rfl)
      have hpost : a'.defers = [] ∧ ∃ v, (Go.results fn a'.tmps).run P w' = .ok v w' ∧ ∃ v' h' cs' e' Bs', Ending.returned v = .returned v' ∧ Behind (fun x => x ∈ b :: Bs) w w' ∧ (b :: Bs').Nodup ∧ (∀ x ∈ Bs', x ∈ Bs ∨ (w.heap.size ≤ x ∧ x < w'.heap.size)) ∧ w'.heap[b]? = some (.cells cs'.toArray e' (0, 0)) ∧
          (∀ β, VD ρ w' (fun x => (S x ∨ x ∈ Bs ∨ (w.heap.size ≤ x ∧ x < w'.heap.size)) ∧ x ∉ b :: Bs') β (.val y) v') ∧ PCs ρ w' (fun x => (S x ∨ x ∈ Bs ∨ (w.heap.size ≤ x ∧ x < w'.heap.size)) ∧ x ∉ b :: Bs') c' h' cs' Bs' :=
        ⟨hi.rel.defers, v, hrun, v, _, cs5, e5, Bs5, rfl, hbeh, hn5, hb5, k5, hv, ht5⟩
      cases e with
      | normal => exact hpost
      | ret => exact hpost
      | exit id => cases hy2
    · -- an address is given, behind the others
      rename_i hq
      split at hset
      rotate_left
      · cases hset
      rename_i c0 us'
      cases hset
      refine ⟨fun h1 => by omega, fun h1 => by omega, fun h1 => by omega, fun h1 => by omega, fun h1 => by omega, fun _ => ⟨fun _ => ?_, fun h1 => by omega⟩⟩
      have hu : ∃ y c', u = .tup [y, c'] := by
        obtain ⟨e, s', h1, _⟩ := Qbs E ac (startL c0 us') _ _ h
        obtain ⟨y, hy, h1⟩ := Option.bind_eq_some_iff.1 h1
        split at h1
        rotate_left
        · cases h1
        obtain ⟨c', _, h1⟩ := Option.bind_eq_some_iff.1 h1
        cases h1
        exact ⟨y, c', rfl⟩
      obtain ⟨y, c', rfl⟩ := hu
      refine ⟨c0, us', y, c', rfl, rfl, fun w S b e0 vs hd cs Bs hS hB hn hblk hown hargs => ?_⟩
      refine calls_of_wp hf hb ?_
      refine Qbr hg hp ac (.whole fn.ntmps) (.code c) (startL c0 us') _ w _ _ hbody (Qzy (fn := fn) hS hB hn hblk hown hargs (by simp only [List.length_cons] at hl; omega)) h fun e s' a' w' hinv' h' => ?_
      obtain ⟨β, B, hi⟩ := hinv'
      obtain ⟨y2, hy2, h2⟩ := Option.bind_eq_some_iff.1 h'
      split at h2
      rotate_left
      · cases h2
      rename_i d hG
      obtain ⟨c2, hc2, h2⟩ := Option.bind_eq_some_iff.1 h2
      cases h2
      have hsome : (s'.Γ 5000).isSome = true := by rw [hG]; rfl
      obtain ⟨_, g1, _⟩ := hi.given 5000 (Nat.le_refl _) hsome
      have g1' : (β 5000).root = .adr b 0 := g1
      have hl5 : (β 5000).live := fun e => by rw [g1'] at e; cases e
      obtain ⟨hn5, b5, cs5, e5, Bs5, r5, k5, t5, e55⟩ := hi.rel.roots 5000 _ hG hl5
      rw [g1'] at r5
      cases r5
      obtain ⟨v, hrun, hv⟩ := Qg3 hi (Γ' := upd s'.Γ 5000 none) (S' := fun x => (S x ∨ x ∈ Bs ∨ (w.heap.size ≤ x ∧ x < w'.heap.size)) ∧ x ∉ b :: Bs5) (fun R c hR => by
          by_cases e : R = 5000
          · rw [e, Qd] at hR; cases hR
          · rw [Qa _ _ e] at hR; exact hR) (fun R hR x hx => by
          by_cases e : R = 5000
          · rw [e, Qd] at hR; cases hR
          · rw [Qa _ _ e] at hR
            have h7 := hi.rel.inside R hR x hx
            have h8 := hi.rel.apart R 5000 e hR hsome x hx
            rw [e55] at h8
            refine ⟨?_, h8⟩
            rcases h7.1 with h9 | h9
            · exact .inr (.inr ⟨h9, h7.2⟩)
            · rcases List.mem_cons.1 h9 with rfl | h9
              · exact absurd (by simp) h8
              · exact .inr (.inl h9)) (fun x hx => by
          have h8 := hx.2 5000 hsome
          rw [e55] at h8
          refine ⟨?_, h8⟩
          rcases hx.3 with h9 | h9 | h9
          · exact .inl h9
          · exact .inr (.inr ⟨h9, hx.1⟩)
          · rcases List.mem_cons.1 h9 with rfl | h9
            · exact absurd (by simp) h8
            · exact .inr (.inl h9)) hres hy2
      have hbeh : Behind (fun x => x ∈ b :: Bs) w w' := ⟨⟨hi.below.os, hi.below.tape, hi.below.output, hi.below.size, fun x hlt hnb => hi.below.block x hlt (fun hh => by
        rcases hh with hh | hh
        · have : w.heap.size ≤ x := hh
          omega
        · exact hnb hh)⟩, hi.below.drawn⟩
      rw [e55] at hn5
      have hb5 : ∀ x ∈ Bs5, x ∈ Bs ∨ (w.heap.size ≤ x ∧ x < w'.heap.size) := fun x hx => by
        have h7 := hi.rel.inside 5000 hsome x (by rw [e55]; simp [hx])
        rcases h7.1 with h8 | h8
        · exact .inr ⟨h8, h7.2⟩
        · rcases List.mem_cons.1 h8 with rfl | h8
          · exact absurd hx (List.nodup_cons.1 hn5).1
          · exact .inl h8
      have ht5 : PCs ρ w' (fun x => (S x ∨ x ∈ Bs ∨ (w.heap.size ≤ x ∧ x < w'.heap.size)) ∧ x ∉ b :: Bs5) c' (β 5000).h cs5 Bs5 := fun β' => (Qgw hc2 t5 β').mono (fun x hx => by
          have h8 := hx.2 5000 hsome
          rw [e55] at h8
          refine ⟨?_, h8⟩
          rcases hx.3 with h9 | h9 | h9
          · exact .inl h9
          · exact .inr (.inr ⟨h9, hx.1⟩)
          · rcases List.mem_cons.1 h9 with rfl | h9
            · exact absurd (by simp) h8
            · exact .inr (.inl h9)) (fun _ _ => rfl) (fun _ _ => rfl) (fun _ _ => rfl)
      have hpost : a'.defers = [] ∧ ∃ v, (Go.results fn a'.tmps).run P w' = .ok v w' ∧ ∃ v' h' cs' e' Bs', Ending.returned v = .returned v' ∧ Behind (fun x => x ∈ b :: Bs) w w' ∧ (b :: Bs').Nodup ∧ (∀ x ∈ Bs', x ∈ Bs ∨ (w.heap.size ≤ x ∧ x < w'.heap.size)) ∧ w'.heap[b]? = some (.cells cs'.toArray e' (0, 0)) ∧
          (∀ β, VD ρ w' (fun x => (S x ∨ x ∈ Bs ∨ (w.heap.size ≤ x ∧ x < w'.heap.size)) ∧ x ∉ b :: Bs') β (.val y) v') ∧ PCs ρ w' (fun x => (S x ∨ x ∈ Bs ∨ (w.heap.size ≤ x ∧ x < w'.heap.size)) ∧ x ∉ b :: Bs') c' h' cs' Bs' :=
        ⟨hi.rel.defers, v, hrun, v, _, cs5, e5, Bs5, rfl, hbeh, hn5, hb5, k5, hv, ht5⟩
      cases e with
      | normal => exact hpost
      | ret => exact hpost
      | exit id => cases hy2
    · cases hset
end
end Go.Proofs.Ytboenehajoaahaa.Am
