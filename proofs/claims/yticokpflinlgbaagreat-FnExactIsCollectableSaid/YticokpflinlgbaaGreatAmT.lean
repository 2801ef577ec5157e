import Derived.Test.YticokpflinlgbaaGreatAmS
/-
  A function as a whole: 'fn_good'.
-/
namespace Go.Proofs.YticokpflinlgbaaGreat.Am
open Go Go.RowKit

def matchRes (P : Program) (N : Nat) : List ResultVar → List (Nat × Option (Bool × Nat)) → Bool
  | [], [] => true
  | .tmp t :: rs, (t', none) :: rs' => t == t' && decide (t < N) && matchRes P N rs rs'
  | .cell t ty :: rs, (t', some (agg, size)) :: rs' => t == t' && decide (t < N) && tyAgg P ty == some agg && tySize P ty == some size && matchRes P N rs rs'
  | _, _ => false

/-- Is this the code of the function number q, of np arguments, with these results? -/
def matchFn (P : Program) (ρ : Nat → FuncId) (q np : Nat) (ac : AC) (rs : List (Nat × Option (Bool × Nat))) : Bool := match P.funcs[ρ q]? with
  | some fn => callOK P (ρ q) && (match fn.body with | some c => matchCode ρ P fn.ntmps c ac | none => false) && decide (np ≤ fn.ntmps) && matchRes P fn.ntmps fn.results.toList rs
  | none => false

section
variable {P : Program} {ρ : Nat → FuncId} {N : Nat} {S₀ : Nat → Prop} {w0 : Org} {w : World} {E : Env} {s : St} {β β' : Nat → Pl} {B : Nat → List Nat} {a : Act}

def resRun (tmps : Array Value) : ResultVar → Sem Value
  | .tmp t => pure (tmps.getD t Go.undef)
  | .cell a t => do loadVar t (← asAddr (tmps.getD a Go.undef))

theorem run_loadVarOf {S : Nat → Prop} {t : TypeId} {d : D} {b off : Nat} {c : List Value} (hag : tyAgg P t = some d.isAgg) (hsz : tySize P t = some d.size) (hc : w.rangeAt b off c) (hd : DCs ρ w S β [d] c) :
    ∃ v, (loadVar t ⟨b, off, none⟩).run P w = .ok v w ∧ V1 ρ w S β d v := by
  obtain ⟨v, h1, h2⟩ := run_loadPlace (P := P) hag hsz hc hd
  refine ⟨v, ?_, h2⟩
  have := h1 w (Below.refl _ _)
  simpa [Instr.loadAt, Instr.sureAddr] using this

theorem res_run {α : Type} {K : U → Option α} {x : α} (hinv : Inv ρ S₀ w0 N s β B a w) {rv : ResultVar} {r : Nat × Option (Bool × Nat)} {rvs : List ResultVar} {rs : List (Nat × Option (Bool × Nat))} (hm : matchRes P N (rv :: rvs) (r :: rs) = true) (h : resOf s K r = some x) :
    ∃ u v, K u = some x ∧ (resRun a.tmps rv).run P w = .ok v w ∧ ∀ β', VD ρ w (fun b => S₀ b ∧ b < w.heap.size) β' (.val u) v := by
  obtain ⟨t', ro⟩ := r
  cases rv with
  | tmp t =>
    cases ro with
    | some x => obtain ⟨_, _⟩ := x; cases hm
    | none =>
      simp only [matchRes, Bool.and_eq_true, beq_iff_eq, decide_eq_true_eq] at hm
      obtain ⟨⟨rfl, ht⟩, _⟩ := hm
      obtain ⟨u, hu, h⟩ := Option.bind_eq_some_iff.1 h
      exact ⟨u, _, h, rfl, fun β' => hinv.rel.snap (hinv.rel.slots t ht) hu⟩
  | cell t ty =>
    cases ro with
    | none => cases hm
    | some x =>
      obtain ⟨agg, size⟩ := x
      simp only [matchRes, Bool.and_eq_true, beq_iff_eq, decide_eq_true_eq] at hm
      obtain ⟨⟨⟨⟨rfl, ht⟩, hag⟩, hsz⟩, _⟩ := hm
      have hslot := hinv.rel.slots t ht
      simp only [resOf] at h
      split at h
      · rename_i R p hR
        rw [hR] at hslot
        split at h
        · rename_i c hc
          simp only [Option.bind_eq_some_iff] at h
          obtain ⟨d, hd, u', hu', hv⟩ := h
          obtain ⟨hA, hZ, hu⟩ := asVar_some hv
          obtain ⟨b, off, e1, hgo⟩ := VD_ptr hslot
          obtain ⟨b', off', c', hgo', hbB, hr, hdc, _⟩ := root_read (hinv.rel.roots R c hc) hd
          rw [hgo] at hgo'
          cases hgo'
          rw [snap_isAgg hu'] at hA
          rw [snap_size _ _ _ hu'] at hZ
          subst hA; subst hZ
          obtain ⟨v, hrun, hv1⟩ := run_loadVarOf (P := P) hag hsz hr hdc
          refine ⟨u', v, hu, ?_, fun β' => hinv.rel.snap (VD_of_V1 hv1) hu'⟩
          simp only [resRun, e1, asAddr, Sem.run_bind, Sem.run_pure, Result.andThen_ok]
          exact hrun
        · cases h
      · cases h

theorem noTup_some {α : Type} {u : U} {K : U → Option α} {r : α} (h : u.noTup K = some r) : (∀ us, u ≠ .tup us) ∧ K u = some r := by
  unfold U.noTup at h
  split at h
  · cases h
  · rename_i h1; exact ⟨fun us e => h1 us e, h⟩

theorem resAll_run {α : Type} {x : α} (hinv : Inv ρ S₀ w0 N s β B a w) : ∀ {rvs : List ResultVar} {rs : List (Nat × Option (Bool × Nat))} {K : List U → Option α}, matchRes P N rvs rs = true → resAll s rs K = some x →
    ∃ (us : List U) (vs : List Value), K us = some x ∧ (rvs.mapM (resRun a.tmps)).run P w = .ok vs w ∧ vs.length = rs.length ∧ ∀ β', V1s ρ w (fun b => S₀ b ∧ b < w.heap.size) β' (us.map .val) vs
  | [], [], K, _, h => ⟨[], [], h, by simp, rfl, fun β' => rfl⟩
  | [], _ :: _, _, hm, _ => by cases hm
  | rv :: _, [], _, hm, _ => by cases rv <;> cases hm
  | rv :: rvs, r :: rs, K, hm, h => by
    simp only [resAll] at h
    obtain ⟨u, v, hu, hrun, hv⟩ := res_run hinv hm h
    obtain ⟨hnt, h⟩ := noTup_some hu
    have hm' : matchRes P N rvs rs = true := by
      obtain ⟨t', ro⟩ := r
      cases rv <;> cases ro <;> (try cases hm)
      · simp only [matchRes, Bool.and_eq_true] at hm; exact hm.2
      · rename_i x; obtain ⟨_, _⟩ := x; simp only [matchRes, Bool.and_eq_true] at hm; exact hm.2
    obtain ⟨us, vs, hus, hruns, hlen, hvs⟩ := resAll_run hinv hm' h
    refine ⟨u :: us, v :: vs, hus, ?_, by simp [hlen], fun β' => ⟨v, vs, rfl, ((hv β').uv hnt).v1, hvs β'⟩⟩
    simp only [List.mapM_cons, Sem.run_bind, hrun, Result.andThen_ok, hruns, Sem.run_pure]

theorem results_run (hinv : Inv ρ S₀ w0 N s β B a w) {fn : Func} {rs : List (Nat × Option (Bool × Nat))} (hm : matchRes P N fn.results.toList rs = true) {e : Ex} {u : U} (h : finish rs e s = some u) :
    ∃ v, (Go.results fn a.tmps).run P w = .ok v w ∧ ∀ β', VD ρ w (fun b => S₀ b ∧ b < w.heap.size) β' (.val u) v := by
  have e0 : Go.results fn a.tmps = (do let vs ← fn.results.mapM (resRun a.tmps); pure (if h : vs.size = 1 then vs[0] else .tuple vs)) := by
    unfold Go.results
    congr 1
  rw [e0, Array.mapM_eq_mapM_toList]
  have hfin : Am.results s rs = some u := by
    cases e with
    | exit id => cases h
    | normal => exact h
    | ret => exact h
  unfold Am.results at hfin
  split at hfin
  · rename_i r
    cases hl : fn.results.toList with
    | nil => rw [hl] at hm; cases hm
    | cons rv rvs =>
      rw [hl] at hm
      obtain ⟨u', v, hu', hrun, hv⟩ := res_run hinv hm hfin
      cases hu'
      have hm' : rvs = [] := by
        obtain ⟨t', ro⟩ := r
        cases rvs with
        | nil => rfl
        | cons rv2 rvs =>
          exfalso
          cases rv <;> cases ro <;> (try cases hm)
          · simp only [matchRes, Bool.and_eq_true] at hm
            cases rv2 <;> (have := hm.2; cases this)
          · rename_i x; obtain ⟨_, _⟩ := x
            simp only [matchRes, Bool.and_eq_true] at hm
            cases rv2 <;> (have := hm.2; cases this)
      subst hm'
      refine ⟨v, ?_, hv⟩
      simp [hrun]
  · rename_i hne
    obtain ⟨us, vs, hus, hrun, hlen, hvs⟩ := resAll_run hinv hm hfin
    cases hus
    refine ⟨.tuple vs.toArray, ?_, fun β' => ⟨vs, rfl, hvs β'⟩⟩
    have h1 : vs.toArray.size ≠ 1 := by
      intro h1
      have h2 : rs.length = 1 := by rw [← hlen]; simpa using h1
      match rs, h2 with
      | [r], _ => exact hne r (rfl)
    have h1' : vs.length ≠ 1 := by simpa using h1
    simp [hrun, h1']

theorem start_slots {us : List U} {vs : List Value} {S : Nat → Prop} (h : Args ρ w S us vs) (n : Nat) (i : Nat) : VD ρ w S β ((start us).fr i) ((vs ++ List.replicate n Go.undef)[i]?.getD Go.undef) := by
  induction us generalizing vs i with
  | nil =>
    cases vs with
    | cons _ _ => exact h.elim
    | nil =>
      show VD ρ w S β .skip _
      have : (List.replicate n Go.undef)[i]?.getD Go.undef = Go.undef := by
        simp only [List.getElem?_replicate]
        split <;> rfl
      simp only [List.nil_append, this]
      rfl
  | cons u us ih =>
    cases vs with
    | nil => exact h.elim
    | cons v vs =>
      cases i with
      | zero => exact h.1 β
      | succ i =>
        have := ih h.2 i
        simpa [start] using this

theorem args_length : ∀ {us : List U} {vs : List Value} {S : Nat → Prop}, Args ρ w S us vs → vs.length = us.length
  | [], [], _, _ => rfl
  | [], _ :: _, _, h => h.elim
  | _ :: _, [], _, h => h.elim
  | _ :: us, _ :: vs, _, h => by simp [args_length h.2]

/-- The three ways in which a function is called. -/
theorem runQ_V {q : Nat} {E : Env} {c : AC} {rs : List (Nat × Option (Bool × Nat))} {us : List U} (h : q / 100000 = 0) : runQ q E c rs us = run E c rs us := by
  unfold runQ setup
  rw [h]
  rfl
theorem runQ_F {q : Nat} {E : Env} {c : AC} {rs : List (Nat × Option (Bool × Nat))} {us : List U} (h : q / 100000 = 1) : runQ q E c rs us = exec E c (start us) (finishF rs) := by
  unfold runQ setup
  rw [h]
  rfl
theorem runQ_M {q k : Nat} {E : Env} {c : AC} {rs : List (Nat × Option (Bool × Nat))} {xs us : List U} (h : q / 100000 = 2) : runQ q E c rs (.agg [.tup [.sl k xs]] :: us) = exec E c (startM k xs us) (finishM k rs) := by
  unfold runQ setup
  rw [h]
  rfl

/-- A new slice may be read. -/
theorem ArrNew.val {w w' : World} {k : Nat} {xs : List U} {v : Value} (h : ArrNew ρ w w' (fun _ => False) k xs v) {S : Nat → Prop} (hS : ∀ b, w.heap.size ≤ b ∧ b < w'.heap.size → S b) : VD ρ w' S β (.val (.sl k xs)) v := by
  obtain ⟨Bs, hBs, hroot⟩ := h
  rcases hroot β with ⟨rfl, h1, _⟩ | ⟨b, cap, cur, e, c1, h1, rfl, hb, hsz, hle, hmax, hk, htake, hc⟩
  · cases h1
    exact VD_val ⟨[_], .sl0 k none 0 .nil, rfl⟩
  · cases h1
    cases xs with
    | nil => exact VD_val ⟨[_], .sl0 k _ cap .nil, rfl⟩
    | cons x xs =>
      refine VD_val ⟨[_], .sl1 k b 0 cap (by simp) (hS b (hBs b (by simp))) hle hmax hk (rangeAt_of_row hb fun j v hv => ?_) (hc.mono (fun _ h => h.elim) (fun _ _ _ h _ => h.elim)) .nil, rfl⟩
      rw [← htake] at hv
      simp only [List.getElem?_take] at hv
      split at hv
      · simpa using hv
      · cases hv

/-- Nothing lies in memory as a tuple. -/
theorem no_tup {w : World} {S : Nat → Prop} {us : List U} {v : Value} (h : VD ρ w S β (.val (.agg [.tup us])) v) : False := by
  obtain ⟨cs, _, h⟩ := VD_agg h
  cases h

theorem finishF_some {rs : List (Nat × Option (Bool × Nat))} {e : Ex} {u : U} (h : finishF rs e s = some u) : (∀ id, e ≠ .exit id) ∧ ∃ t, rs = [(t, none)] ∧
    ((∃ R k us, s.fr t = .ref R k none ∧ s.Γ R = some (.arr k us) ∧ U.flat.flats us = true ∧ u = .sl k us) ∨ ∃ k, s.fr t = .val (.nsl k) ∧ u = .sl k []) := by
  unfold finishF at h
  split at h
  · cases h
  · rename_i t hne
    refine ⟨fun id e1 => hne id e1, t, rfl, ?_⟩
    split at h
    · rename_i R k hR
      split at h
      · rename_i k' us hG
        split at h
        · rename_i hc
          obtain ⟨rfl, hf⟩ := hc
          cases h
          exact .inl ⟨R, k', us, hR, hG, hf, rfl⟩
        · cases h
      · cases h
    · rename_i k hR
      cases h
      exact .inr ⟨k, hR, rfl⟩
    · cases h
  · cases h

theorem match_one {rvs : List ResultVar} {t : Nat} (hm : matchRes P N rvs [(t, none)] = true) : rvs = [.tmp t] ∧ t < N := by
  cases rvs with
  | nil => cases hm
  | cons rv rvs =>
    cases rv with
    | cell _ _ => cases hm
    | tmp t' =>
      simp only [matchRes, Bool.and_eq_true, beq_iff_eq, decide_eq_true_eq] at hm
      obtain ⟨⟨rfl, ht⟩, h2⟩ := hm
      cases rvs with
      | nil => exact ⟨rfl, ht⟩
      | cons rv2 rvs => cases rv2 <;> cases h2

theorem results_one {fn : Func} {t : Nat} (h : fn.results.toList = [.tmp t]) (a : Act) (w : World) : (Go.results fn a.tmps).run P w = .ok (a.tmps.getD t Go.undef) w := by
  have e0 : Go.results fn a.tmps = (do let vs ← fn.results.mapM (resRun a.tmps); pure (if h : vs.size = 1 then vs[0] else .tuple vs)) := by
    unfold Go.results
    congr 1
  rw [e0, Array.mapM_eq_mapM_toList, h]
  simp [resRun]

/-- Where a call begins. -/
theorem start_inv {S : Nat → Prop} {us : List U} {vs : List Value} {fn : Func} (hS : ∀ b, S b → b < w.heap.size) (hargs : Args ρ w S us vs) (hnp : us.length ≤ fn.ntmps) :
    Inv' ρ (fun b => S b ∨ w.heap.size ≤ b) ⟨w, fun b => w.heap.size ≤ b, fun _ => .adr 0 0, fun _ => []⟩ fn.ntmps (start us) { tmps := vs.toArray ++ Array.replicate (fn.ntmps - vs.toArray.size) Go.undef, defers := [] } w := by
  have hvl : vs.length = us.length := args_length hargs
  have hargs' : Args ρ w (Stands (fun b => S b ∨ w.heap.size ≤ b) w (start us).Γ (fun _ => [])) us vs := hargs.mono (fun b hb => ⟨hS b hb, fun R hR => (by cases hR), .inl hb⟩) (fun _ _ _ _ h => h)
  refine ⟨fun _ => .adr 0 0, fun _ => [], ⟨⟨?_, rfl, fun i hi => ?_, fun R c hR => (by cases hR), fun R R' _ hR => (by cases hR), fun R hR => (by cases hR), fun b hb => hb, fun b hb => .inr hb⟩, Behind.refl _ _, fun R _ hR => (by cases hR)⟩⟩
  · simp; omega
  · have := start_slots (β := fun _ => .adr 0 0) hargs' (fn.ntmps - vs.length) i
    have e : (vs.toArray ++ Array.replicate (fn.ntmps - vs.toArray.size) Go.undef).getD i Go.undef = (vs ++ List.replicate (fn.ntmps - vs.length) Go.undef)[i]?.getD Go.undef := by
      rw [Array.getD_eq_getD_getElem?]
      congr 1
      rw [← Array.getElem?_toList]
      simp
    rw [e]
    exact this

/-- Where a call begins that is given a slice to change. -/
theorem startM_inv {S : Nat → Prop} {k : Nat} {xs us : List U} {v0 : Value} {vs : List Value} {Bs : List Nat} {fn : Func} (hS : ∀ b, S b → b < w.heap.size ∧ b ∉ Bs) (hB : ∀ b ∈ Bs, b < w.heap.size)
    (hroot : ∀ β, RootOK ρ w (fun _ => False) β (.arr k xs) (.vir v0) Bs) (hargs : Args ρ w S us vs) (hnp : us.length + 1 ≤ fn.ntmps) :
    Inv' ρ (fun b => S b ∨ w.heap.size ≤ b ∨ b ∈ Bs) ⟨w, fun b => w.heap.size ≤ b ∨ b ∈ Bs, fun _ => .vir v0, fun _ => Bs⟩ fn.ntmps (startM k xs us) { tmps := (v0 :: vs).toArray ++ Array.replicate (fn.ntmps - (v0 :: vs).toArray.size) Go.undef, defers := [] } w := by
  have hvl : vs.length = us.length := args_length hargs
  have h5 : ∀ R, ((startM k xs us).Γ R).isSome = true → R = 5000 := fun R hR => by
    simp only [startM] at hR
    split at hR
    · assumption
    · cases hR
  have hargs' : Args ρ w (Stands (fun b => S b ∨ w.heap.size ≤ b ∨ b ∈ Bs) w (startM k xs us).Γ (fun _ => Bs)) us vs := hargs.mono (fun b hb => ⟨(hS b hb).1, fun R _ => (hS b hb).2, .inl hb⟩) (fun _ _ _ _ h => h)
  have hone : v0.oneCell' = true := by
    rcases hroot (fun _ => .adr 0 0) with ⟨_, h1, _⟩ | ⟨_, _, _, _, _, h1, _⟩ <;> (injection h1 with h1; rw [h1]; rfl)
  refine ⟨fun _ => .vir v0, fun _ => Bs, ⟨⟨?_, rfl, fun i hi => ?_, fun R c hR => ?_, fun R R' hne hR hR' => ?_, fun R hR b hb => ⟨.inr hb, hB b hb⟩, fun b hb => .inl hb, fun b hb => .inr hb⟩, Behind.refl _ _, fun R _ hR => ⟨rfl, rfl⟩⟩⟩
  · simp; omega
  · have e : ((v0 :: vs).toArray ++ Array.replicate (fn.ntmps - (v0 :: vs).toArray.size) Go.undef).getD i Go.undef = ((v0 :: vs) ++ List.replicate (fn.ntmps - (vs.length + 1)) Go.undef)[i]?.getD Go.undef := by
      rw [Array.getD_eq_getD_getElem?]
      congr 1
      rw [← Array.getElem?_toList]
      simp
    rw [e]
    cases i with
    | zero => exact VD_of_ref (v0 := v0) rfl ⟨rfl, hone⟩
    | succ i => exact start_slots (β := fun _ => .vir v0) hargs' (fn.ntmps - (vs.length + 1)) i
  · obtain rfl := h5 R (by rw [hR]; rfl)
    simp only [startM, if_true, Option.some.injEq] at hR
    subst hR
    exact (hroot _).mono (fun _ h => h.elim) (fun _ _ => rfl) (fun _ _ => rfl) (fun _ => rfl)
  · exact absurd ((h5 R hR).trans (h5 R' hR').symm) hne

/-- **WHAT THE MACHINE COMPUTES IS WHAT A CALL HANDS BACK.** -/
theorem fn_good (hg : Good P ρ E) (hp : P.follows .mixedOrders = true) {q np : Nat} {ac : AC} {rs : List (Nat × Option (Bool × Nat))} (hm : matchFn P ρ q np ac rs = true) {us : List U} {u : U} (hl : us.length = np) (h : runQ q E ac rs us = some u) : GoodAt P ρ q us u := by
  unfold matchFn at hm
  split at hm
  rotate_left
  · cases hm
  rename_i fn hf
  simp only [Bool.and_eq_true, decide_eq_true_eq] at hm
  obtain ⟨⟨⟨hok, hbody⟩, hnp⟩, hres⟩ := hm
  cases hb : fn.body with
  | none => rw [hb] at hbody; cases hbody
  | some c =>
    rw [hb] at hbody
    obtain ⟨⟨st, fin⟩, hset, h⟩ := Option.bind_eq_some_iff.1 h
    unfold setup at hset
    split at hset
    · -- what reads so
      rename_i hq
      cases hset
      refine ⟨hok, fun w S vs hS hargs => ?_, fun h1 => by omega, fun h1 => by omega⟩
      refine calls_of_wp hf hb ?_
      refine code_wp hg hp ac c (start us) _ w _ _ hbody (start_inv hS hargs (by omega)) h fun e s' a' w' hinv' h' => ?_
      obtain ⟨β, B, hi⟩ := hinv'
      obtain ⟨v, hrun, hv⟩ := results_run hi hres h'
      have hpost : a'.defers = [] ∧ ∃ v, (Go.results fn a'.tmps).run P w' = .ok v w' ∧ ∃ v', Ending.returned v = .returned v' ∧ Below w.heap.size w w' ∧ ∀ β, VD ρ w' (fun b => S b ∨ (w.heap.size ≤ b ∧ b < w'.heap.size)) β (.val u) v' :=
        ⟨hi.rel.defers, v, hrun, v, rfl, hi.below.below, fun β' => (hv β').val_mono (fun b hb => hb.1.imp id fun h => ⟨h, hb.2⟩) (fun _ _ _ _ h => h)⟩
      cases e with
      | normal => exact hpost
      | ret => exact hpost
      | exit id => cases h'
    · -- a new slice
      rename_i hq
      cases hset
      have hF : GoodF P ρ q us u := by
        have hu : ∃ k xs, u = .sl k xs ∧ U.flat.flats xs = true := by
          obtain ⟨e, s', h1, _⟩ := exec_reach E ac (start us) _ _ h
          obtain ⟨_, t, _, h2⟩ := finishF_some h1
          rcases h2 with ⟨R, k, xs, _, _, hfl, rfl⟩ | ⟨k, _, rfl⟩
          · exact ⟨k, xs, rfl, hfl⟩
          · exact ⟨k, [], rfl, rfl⟩
        obtain ⟨k, xs, rfl, hfl⟩ := hu
        refine ⟨k, xs, rfl, fun w S vs hS hargs => ?_⟩
        refine calls_of_wp hf hb ?_
        refine code_wp hg hp ac c (start us) _ w _ _ hbody (start_inv hS hargs (by omega)) h fun e s' a' w' hinv' h' => ?_
        obtain ⟨β, B, hi⟩ := hinv'
        obtain ⟨hne, t, rfl, h2⟩ := finishF_some h'
        obtain ⟨hr1, ht⟩ := match_one hres
        have harr : ArrNew ρ w w' (fun _ => False) k xs (a'.tmps.getD t Go.undef) := by
          have hslot := hi.rel.slots t ht
          rcases h2 with ⟨R, k1, xs1, hR, hG, hfl1, he⟩ | ⟨k1, hR, he⟩
          · cases he
            rw [hR] at hslot
            obtain ⟨v0, hv0, hsub, _⟩ := VD_ref hslot
            have hroot := hi.rel.roots R _ hG
            rw [hv0, ← hsub] at hroot
            refine ⟨B R, fun b hb => hi.rel.inside R (by rw [hG]; rfl) b hb, fun β' => ?_⟩
            rcases hroot with h1 | ⟨b, cap, cur, e, c1, h1, h2, h3, h4, h5, h6, h7, h8, h9⟩
            · exact .inl h1
            · exact .inr ⟨b, cap, cur, e, c1, h1, h2, h3, h4, h5, h6, h7, h8, h9.flat_any hfl⟩
          · cases he
            rw [hR] at hslot
            exact ⟨[], by simp, fun β' => .inl ⟨rfl, by rw [VD_nsl hslot], rfl⟩⟩
        have hpost : a'.defers = [] ∧ ∃ v, (Go.results fn a'.tmps).run P w' = .ok v w' ∧ ∃ v', Ending.returned v = .returned v' ∧ Below w.heap.size w w' ∧ ArrNew ρ w w' (fun _ => False) k xs v' :=
          ⟨hi.rel.defers, _, results_one hr1 a' w', _, rfl, hi.below.below, harr⟩
        cases e with
        | normal => exact hpost
        | ret => exact hpost
        | exit id => exact absurd rfl (hne id)
      refine ⟨hok, fun w S vs hS hargs => ?_, fun _ => hF, fun h1 => by omega⟩
      obtain ⟨k, xs, rfl, hcalls⟩ := hF
      refine (hcalls w S vs hS hargs).mono fun e w' he => ?_
      obtain ⟨v, h1, h2, h3⟩ := he
      exact ⟨v, h1, h2, fun β => h3.val fun b hb => .inr hb⟩
    · -- a slice is changed
      rename_i hq0 hq1
      split at hset
      rotate_left
      · cases hset
      rename_i k xs us'
      cases hset
      refine ⟨hok, fun w S vs hS hargs => ?_, fun h1 => absurd h1 (by simpa using hq1), fun _ => ?_⟩
      · exfalso
        cases vs with
        | nil => exact hargs.elim
        | cons v vs => exact no_tup (hargs.1 (fun _ => .adr 0 0))
      · have hu : ∃ y ys, u = .tup [y, .sl k ys] ∧ y.flat = true := by
          obtain ⟨e, s', h1, _⟩ := exec_reach E ac (startM k xs us') _ _ h
          obtain ⟨y, hy, h1⟩ := Option.bind_eq_some_iff.1 h1
          split at h1
          · split at h1
            · rename_i hc
              cases h1
              exact ⟨y, _, rfl, hc.2.1⟩
            · cases h1
          · cases h1
        obtain ⟨y, ys, rfl, hyf⟩ := hu
        refine ⟨k, xs, us', y, ys, rfl, rfl, fun w S v0 vs Bs hS hB hroot hargs => ?_⟩
        refine calls_of_wp hf hb ?_
        refine code_wp hg hp ac c (startM k xs us') _ w _ _ hbody (startM_inv hS hB hroot hargs (by simp only [List.length_cons] at hl; omega)) h fun e s' a' w' hinv' h' => ?_
        obtain ⟨β, B, hi⟩ := hinv'
        obtain ⟨y2, hy2, h2⟩ := Option.bind_eq_some_iff.1 h'
        split at h2
        rotate_left
        · cases h2
        rename_i k' ys' hG
        split at h2
        rotate_left
        · cases h2
        rename_i hc
        obtain ⟨rfl, _, hyf2⟩ := hc
        simp only [Option.some.injEq, U.tup.injEq, List.cons.injEq, U.sl.injEq, true_and, and_true] at h2
        obtain ⟨rfl, rfl⟩ := h2
        obtain ⟨v, hrun, hv⟩ := results_run hi hres hy2
        obtain ⟨g1, g2⟩ := hi.given 5000 (Nat.le_refl _) (by rw [hG]; rfl)
        have hroot2 := hi.rel.roots 5000 _ hG
        rw [g1, g2] at hroot2
        have hroot3 : ∀ β', RootOK ρ w' (fun _ => False) β' (.arr k' ys') (.vir v0) Bs := fun β' => by
          rcases hroot2 with h1 | ⟨b, cap, cur, e, c1, h1, h2, h3, h4, h5, h6, h7, h8, h9⟩
          · exact .inl h1
          · exact .inr ⟨b, cap, cur, e, c1, h1, h2, h3, h4, h5, h6, h7, h8, h9.flat_any hyf2⟩
        have hbeh : Behind (fun b => b ∈ Bs) w w' := ⟨hi.below.os, hi.below.tape, hi.below.output, hi.below.size, fun b hlt hnb => hi.below.block b hlt (fun hh => by
          rcases hh with hh | hh
          · have : w.heap.size ≤ b := hh
            omega
          · exact hnb hh)⟩
        have hpost : a'.defers = [] ∧ ∃ v, (Go.results fn a'.tmps).run P w' = .ok v w' ∧ ∃ v', Ending.returned v = .returned v' ∧ (∀ S β, VD ρ w' S β (.val y2) v') ∧ Behind (fun b => b ∈ Bs) w w' ∧ ∀ β, RootOK ρ w' (fun _ => False) β (.arr k' ys') (.vir v0) Bs :=
          ⟨hi.rel.defers, v, hrun, v, rfl, fun S β' => (hv β').flat_any hyf, hbeh, hroot3⟩
        cases e with
        | normal => exact hpost
        | ret => exact hpost
        | exit id => cases hy2
end
end Go.Proofs.YticokpflinlgbaaGreat.Am
