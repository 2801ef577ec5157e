import Derived.Test.YtcmkhpjehecloaaGreatAmS
/-
  A function as a whole: 'fn_good'.
-/
namespace Go.Proofs.YtcmkhpjehecloaaGreat.Am
open Go Go.RowKit

def matchRes (P : Program) (N : Nat) : List ResultVar → List (Nat × Option (Bool × Nat)) → Bool
  | [], [] => true
  | .tmp t :: rs, (t', none) :: rs' => t == t' && decide (t < N) && matchRes P N rs rs'
  | .cell t ty :: rs, (t', some (agg, size)) :: rs' => t == t' && decide (t < N) && tyAgg P ty == some agg && tySize P ty == some size && matchRes P N rs rs'
  | _, _ => false

/-- Is this the code of the function number q, of np arguments, with these results? -/
def matchFn (P : Program) (ρ : Nat → FuncId) (q np : Nat) (ac : AC) (rs : List (Nat × Option (Bool × Nat))) : Bool := match P.funcs[ρ q]? with
  | some fn => callOK P (ρ q) && (match fn.body with | some c => matchCode ρ P fn.ntmps c ac | none => false) && decide (np ≤ fn.ntmps) && matchRes P fn.ntmps fn.results.toList rs
  | none => false

section
variable {P : Program} {ρ : Nat → FuncId} {N : Nat} {S₀ : Nat → Prop} {w0 w : World} {E : Env} {s : St} {β β' : Nat → Pl} {B : Nat → List Nat} {a : Act}

def resRun (tmps : Array Value) : ResultVar → Sem Value
  | .tmp t => pure (tmps.getD t Go.undef)
  | .cell a t => do loadVar t (← asAddr (tmps.getD a Go.undef))

theorem run_loadVarOf {S : Nat → Prop} {t : TypeId} {d : D} {b off : Nat} {c : List Value} (hag : tyAgg P t = some d.isAgg) (hsz : tySize P t = some d.size) (hc : w.rangeAt b off c) (hd : DCs ρ w S β [d] c) :
    ∃ v, (loadVar t ⟨b, off, none⟩).run P w = .ok v w ∧ V1 ρ w S β d v := by
  obtain ⟨v, h1, h2⟩ := run_loadPlace (P := P) hag hsz hc hd
  refine ⟨v, ?_, h2⟩
  have := h1 w (Below.refl _ _)
  simpa [Instr.loadAt, Instr.sureAddr] using this

theorem res_run {α : Type} {K : U → Option α} {x : α} (hinv : Inv ρ S₀ w0 N s β B a w) {rv : ResultVar} {r : Nat × Option (Bool × Nat)} {rvs : List ResultVar} {rs : List (Nat × Option (Bool × Nat))} (hm : matchRes P N (rv :: rvs) (r :: rs) = true) (h : resOf s K r = some x) :
    ∃ u v, K u = some x ∧ (resRun a.tmps rv).run P w = .ok v w ∧ ∀ β', VD ρ w (fun b => S₀ b ∧ b < w.heap.size) β' (.val u) v := by
  obtain ⟨t', ro⟩ := r
  cases rv with
  | tmp t =>
    cases ro with
    | some x => obtain ⟨_, _⟩ := x; cases hm
    | none =>
      simp only [matchRes, Bool.and_eq_true, beq_iff_eq, decide_eq_true_eq] at hm
      obtain ⟨⟨rfl, ht⟩, _⟩ := hm
      obtain ⟨u, hu, h⟩ := Option.bind_eq_some_iff.1 h
      exact ⟨u, _, h, rfl, fun β' => hinv.rel.snap (hinv.rel.slots t ht) hu⟩
  | cell t ty =>
    cases ro with
    | none => cases hm
    | some x =>
      obtain ⟨agg, size⟩ := x
      simp only [matchRes, Bool.and_eq_true, beq_iff_eq, decide_eq_true_eq] at hm
      obtain ⟨⟨⟨⟨rfl, ht⟩, hag⟩, hsz⟩, _⟩ := hm
      have hslot := hinv.rel.slots t ht
      simp only [resOf] at h
      split at h
      · rename_i R p hR
        rw [hR] at hslot
        split at h
        · rename_i c hc
          simp only [Option.bind_eq_some_iff] at h
          obtain ⟨d, hd, u', hu', hv⟩ := h
          obtain ⟨hA, hZ, hu⟩ := asVar_some hv
          obtain ⟨b, off, e1, hgo⟩ := VD_ptr hslot
          obtain ⟨b', off', c', hgo', hbB, hr, hdc, _⟩ := root_read (hinv.rel.roots R c hc) hd
          rw [hgo] at hgo'
          cases hgo'
          rw [snap_isAgg hu'] at hA
          rw [snap_size _ _ _ hu'] at hZ
          subst hA; subst hZ
          obtain ⟨v, hrun, hv1⟩ := run_loadVarOf (P := P) hag hsz hr hdc
          refine ⟨u', v, hu, ?_, fun β' => hinv.rel.snap (VD_of_V1 hv1) hu'⟩
          simp only [resRun, e1, asAddr, Sem.run_bind, Sem.run_pure, Result.andThen_ok]
          exact hrun
        · cases h
      · cases h

theorem noTup_some {α : Type} {u : U} {K : U → Option α} {r : α} (h : u.noTup K = some r) : (∀ us, u ≠ .tup us) ∧ K u = some r := by
  unfold U.noTup at h
  split at h
  · cases h
  · rename_i h1; exact ⟨fun us e => h1 us e, h⟩

theorem resAll_run {α : Type} {x : α} (hinv : Inv ρ S₀ w0 N s β B a w) : ∀ {rvs : List ResultVar} {rs : List (Nat × Option (Bool × Nat))} {K : List U → Option α}, matchRes P N rvs rs = true → resAll s rs K = some x →
    ∃ (us : List U) (vs : List Value), K us = some x ∧ (rvs.mapM (resRun a.tmps)).run P w = .ok vs w ∧ vs.length = rs.length ∧ ∀ β', V1s ρ w (fun b => S₀ b ∧ b < w.heap.size) β' (us.map .val) vs
  | [], [], K, _, h => ⟨[], [], h, by simp, rfl, fun β' => rfl⟩
  | [], _ :: _, _, hm, _ => by cases hm
  | rv :: _, [], _, hm, _ => by cases rv <;> cases hm
  | rv :: rvs, r :: rs, K, hm, h => by
    simp only [resAll] at h
    obtain ⟨u, v, hu, hrun, hv⟩ := res_run hinv hm h
    obtain ⟨hnt, h⟩ := noTup_some hu
    have hm' : matchRes P N rvs rs = true := by
      obtain ⟨t', ro⟩ := r
      cases rv <;> cases ro <;> (try cases hm)
      · simp only [matchRes, Bool.and_eq_true] at hm; exact hm.2
      · rename_i x; obtain ⟨_, _⟩ := x; simp only [matchRes, Bool.and_eq_true] at hm; exact hm.2
    obtain ⟨us, vs, hus, hruns, hlen, hvs⟩ := resAll_run hinv hm' h
    refine ⟨u :: us, v :: vs, hus, ?_, by simp [hlen], fun β' => ⟨v, vs, rfl, ((hv β').uv hnt).v1, hvs β'⟩⟩
    simp only [List.mapM_cons, Sem.run_bind, hrun, Result.andThen_ok, hruns, Sem.run_pure]

theorem results_run (hinv : Inv ρ S₀ w0 N s β B a w) {fn : Func} {rs : List (Nat × Option (Bool × Nat))} (hm : matchRes P N fn.results.toList rs = true) {e : Ex} {u : U} (h : finish rs e s = some u) :
    ∃ v, (Go.results fn a.tmps).run P w = .ok v w ∧ ∀ β', VD ρ w (fun b => S₀ b ∧ b < w.heap.size) β' (.val u) v := by
  have e0 : Go.results fn a.tmps = (do let vs ← fn.results.mapM (resRun a.tmps); pure (if h : vs.size = 1 then vs[0] else .tuple vs)) := by
    unfold Go.results
    congr 1
  rw [e0, Array.mapM_eq_mapM_toList]
  have hfin : Am.results s rs = some u := by
    cases e with
    | exit id => cases h
    | normal => exact h
    | ret => exact h
  unfold Am.results at hfin
  split at hfin
  · rename_i r
    cases hl : fn.results.toList with
    | nil => rw [hl] at hm; cases hm
    | cons rv rvs =>
      rw [hl] at hm
      obtain ⟨u', v, hu', hrun, hv⟩ := res_run hinv hm hfin
      cases hu'
      have hm' : rvs = [] := by
        obtain ⟨t', ro⟩ := r
        cases rvs with
        | nil => rfl
        | cons rv2 rvs =>
          exfalso
          cases rv <;> cases ro <;> (try cases hm)
          · simp only [matchRes, Bool.and_eq_true] at hm
            cases rv2 <;> (have := hm.2; cases this)
          · rename_i x; obtain ⟨_, _⟩ := x
            simp only [matchRes, Bool.and_eq_true] at hm
            cases rv2 <;> (have := hm.2; cases this)
      subst hm'
      refine ⟨v, ?_, hv⟩
      simp [hrun]
  · rename_i hne
    obtain ⟨us, vs, hus, hrun, hlen, hvs⟩ := resAll_run hinv hm hfin
    cases hus
    refine ⟨.tuple vs.toArray, ?_, fun β' => ⟨vs, rfl, hvs β'⟩⟩
    have h1 : vs.toArray.size ≠ 1 := by
      intro h1
      have h2 : rs.length = 1 := by rw [← hlen]; simpa using h1
      match rs, h2 with
      | [r], _ => exact hne r (rfl)
    have h1' : vs.length ≠ 1 := by simpa using h1
    simp [hrun, h1']

theorem start_slots {us : List U} {vs : List Value} {S : Nat → Prop} (h : Args ρ w S us vs) (n : Nat) (i : Nat) : VD ρ w S β ((start us).fr i) ((vs ++ List.replicate n Go.undef)[i]?.getD Go.undef) := by
  induction us generalizing vs i with
  | nil =>
    cases vs with
    | cons _ _ => exact h.elim
    | nil =>
      show VD ρ w S β .skip _
      have : (List.replicate n Go.undef)[i]?.getD Go.undef = Go.undef := by
        simp only [List.getElem?_replicate]
        split <;> rfl
      simp only [List.nil_append, this]
      rfl
  | cons u us ih =>
    cases vs with
    | nil => exact h.elim
    | cons v vs =>
      cases i with
      | zero => exact h.1 β
      | succ i =>
        have := ih h.2 i
        simpa [start] using this

theorem args_length : ∀ {us : List U} {vs : List Value} {S : Nat → Prop}, Args ρ w S us vs → vs.length = us.length
  | [], [], _, _ => rfl
  | [], _ :: _, _, h => h.elim
  | _ :: _, [], _, h => h.elim
  | _ :: us, _ :: vs, _, h => by simp [args_length h.2]

/-- **WHAT THE MACHINE COMPUTES IS WHAT A CALL HANDS BACK.** -/
theorem fn_good (hg : Good P ρ E) (hp : P.follows .mixedOrders = true) {q np : Nat} {ac : AC} {rs : List (Nat × Option (Bool × Nat))} (hm : matchFn P ρ q np ac rs = true) {us : List U} {u : U} (hl : us.length = np) (h : run E ac rs us = some u) : GoodAt P ρ q us u := by
  unfold matchFn at hm
  split at hm
  · rename_i fn hf
    simp only [Bool.and_eq_true, decide_eq_true_eq] at hm
    obtain ⟨⟨⟨hok, hbody⟩, hnp⟩, hres⟩ := hm
    cases hb : fn.body with
    | none => rw [hb] at hbody; cases hbody
    | some c =>
      rw [hb] at hbody
      refine ⟨hok, fun w S vs hS hargs => ?_⟩
      have hvl : vs.length = us.length := args_length hargs
      refine calls_of_wp hf hb ?_
      have hargs' : Args ρ w (Stands (fun b => S b ∨ w.heap.size ≤ b) w (start us).Γ (fun _ => [])) us vs := hargs.mono (fun b hb => ⟨hS b hb, fun R hR => (by cases hR), .inl hb⟩) (fun _ _ _ _ h => h)
      have hinv : Inv' ρ (fun b => S b ∨ w.heap.size ≤ b) w fn.ntmps (start us) { tmps := vs.toArray ++ Array.replicate (fn.ntmps - vs.toArray.size) Go.undef, defers := [] } w := by
        refine ⟨fun _ => .adr 0 0, fun _ => [], ⟨⟨?_, rfl, fun i hi => ?_, fun R c hR => (by cases hR), fun R R' _ hR => (by cases hR), fun R hR => (by cases hR), Nat.le_refl _, fun b hb => .inr hb⟩, Below.refl _ _⟩⟩
        · simp; omega
        · have := start_slots (β := fun _ => .adr 0 0) hargs' (fn.ntmps - vs.length) i
          have e : (vs.toArray ++ Array.replicate (fn.ntmps - vs.toArray.size) Go.undef).getD i Go.undef = (vs ++ List.replicate (fn.ntmps - vs.length) Go.undef)[i]?.getD Go.undef := by
            rw [Array.getD_eq_getD_getElem?]
            congr 1
            rw [← Array.getElem?_toList]
            simp
          rw [e]
          exact this
      refine code_wp hg hp ac c (start us) _ w _ _ hbody hinv h fun e s' a' w' hinv' h' => ?_
      obtain ⟨β, B, hi⟩ := hinv'
      obtain ⟨v, hrun, hv⟩ := results_run hi hres h'
      have hpost : a'.defers = [] ∧ ∃ v, (Go.results fn a'.tmps).run P w' = .ok v w' ∧ ∃ v', Ending.returned v = .returned v' ∧ Below w.heap.size w w' ∧ ∀ β, VD ρ w' (fun b => S b ∨ (w.heap.size ≤ b ∧ b < w'.heap.size)) β (.val u) v' :=
        ⟨hi.rel.defers, v, hrun, v, rfl, hi.below, fun β' => (hv β').val_mono (fun b hb => hb.1.imp id fun h => ⟨h, hb.2⟩) (fun _ _ _ _ h => h)⟩
      cases e with
      | normal => exact hpost
      | ret => exact hpost
      | exit id => cases h'
  · cases hm
end
end Go.Proofs.YtcmkhpjehecloaaGreat.Am
