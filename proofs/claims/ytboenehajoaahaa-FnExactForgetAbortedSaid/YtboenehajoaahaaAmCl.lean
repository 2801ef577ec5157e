import Derived.Test.YtboenehajoaahaaAmW
namespace Go.Proofs.Ytboenehajoaahaa.Am
open Go Go.RowKit
def startH (k : Nat) (t : Bool) : St := ⟨fun i => match i with | 0 => .ref 5000 [] k none | _ + 1 => .skip, fun R => if R = 5000 then some (.held t) else none⟩
structure CloneOK (ac : AC) (k b : Nat) : Prop where
  v : ∀ (E : Env) (u : U) (us : List U), (us.length + 1) * b ≤ 140737488355328 → run E ac [(2, none)] [.sl k (u :: us)] = some (.sl k (u :: us))
  f : ∀ (E : Env) (u : U) (us : List U), (us.length + 1) * b ≤ 140737488355328 → U.flat.flats (u :: us) = true → exec E ac (start [.sl k (u :: us)]) (finishF [(2, none)]) = some (.sl k (u :: us))
  vn : ∀ (E : Env), run E ac [(2, none)] [.nsl k] = some (.nsl k)
  fn : ∀ (E : Env), exec E ac (start [.nsl k]) (finishF [(2, none)]) = some (.sl k [])
  vt : ∀ (E : Env), exec E ac (startH k true) (finish [(2, none)]) = some (.nsl k)
  vf : ∀ (E : Env), exec E ac (startH k false) (finish [(2, none)]) = some (.sl k [])
  ft : ∀ (E : Env), exec E ac (startH k true) (finishF [(2, none)]) = some (.sl k [])
  ff : ∀ (E : Env), exec E ac (startH k false) (finishF [(2, none)]) = some (.sl k [])
def cloneV (k b : Nat) : List U → Option U
  | [.sl k' us] => if k' = k ∧ us.length * b ≤ 140737488355328 then some (.sl k us) else none
  | [.nsl k'] => if k' = k then some (.nsl k) else none
  | _ => none
def cloneF (k b : Nat) : List U → Option U
  | [.sl k' us] => if k' = k ∧ us.length * b ≤ 140737488355328 ∧ U.flat.flats us = true then some (.sl k us) else none
  | [.nsl k'] => if k' = k then some (.sl k []) else none
  | _ => none
def cloneE (tbl : List (Nat × Nat × Nat × AC)) : Env := fun q us => match tbl.lookup (q % 100000) with
  | some (k, b, _) => if q / 100000 = 0 then cloneV k b us else if q / 100000 = 1 then cloneF k b us else none
  | none => none
def CloneAll (P : Program) (ρ : Nat → FuncId) : List (Nat × Nat × Nat × AC) → Prop
  | [] => True
  | (q, k, b, ac) :: l => q < 100000 ∧ matchFn P ρ q 1 ac [(2, none)] = true ∧ matchFn P ρ (100000 + q) 1 ac [(2, none)] = true ∧ CloneOK ac k b ∧ CloneAll P ρ l
structure IsClone (E : Env) (q k b : Nat) : Prop where
  v : ∀ us, E q us = cloneV k b us
  f : ∀ us, E (100000 + q) us = cloneF k b us
section
variable {P : Program} {ρ : Nat → FuncId} {w : World}
theorem Qox {S : Nat → Prop} {k : Nat} {a : Option Addr} {cap : Nat} {fn : Func} (hS : ∀ b, S b → b < w.heap.size) (hnp : 1 ≤ fn.ntmps) :
    Inv' ρ (fun b => S b ∨ w.heap.size ≤ b) ⟨w, fun b => w.heap.size ≤ b, (startH k a.isNone).Γ, fun _ => ⟨.vir, mkE (.slice a 0 cap) []⟩⟩ (.whole fn.ntmps) (startH k a.isNone) { tmps := [Value.slice a 0 cap].toArray ++ Array.replicate (fn.ntmps - [Value.slice a 0 cap].toArray.size) Go.undef, defers := [] } w := by
  have h5 : ∀ R, ((startH k a.isNone).Γ R).isSome = true → R = 5000 := fun R hR => by
    simp only [startH] at hR
    split at hR
    · assumption
    · cases hR
  refine ⟨fun _ => ⟨.vir, mkE (.slice a 0 cap) []⟩, fun _ => [], ⟨⟨?_, rfl, fun i hi => ?_, fun x hx => (by cases hx), fun R c hR _ => ?_, fun R R' hne hR hR' => ?_, fun R hR b hb => (by cases hb), fun b hb => hb, fun b hb => .inr hb⟩, Behind.refl _ _, Given.refl⟩⟩
  · simp [Fm.whole]; omega
  · rw [Qd2]
    show VD ρ w _ _ ((startH k a.isNone).fr (0 + i)) _
    rw [Nat.zero_add]
    cases i with
    | zero => exact Qcr (v0 := .slice a 0 cap) rfl ⟨rfl, rfl⟩
    | succ i =>
      show VD ρ w _ _ .skip _
      have : (([Value.slice a 0 cap] ++ List.replicate (fn.ntmps - [Value.slice a 0 cap].length) Go.undef)[i + 1]?).getD Go.undef = Go.undef := by
        simp only [List.singleton_append, List.getElem?_cons_succ, List.getElem?_replicate]
        split <;> rfl
      rw [this]
      rfl
  · obtain rfl := h5 R (by rw [hR]; rfl)
    simp only [startH, if_true, Option.some.injEq] at hR
    subst hR
    exact ⟨List.nodup_nil, rfl, rfl, a, cap, rfl, rfl⟩
  · exact absurd ((h5 R hR).trans (h5 R' hR').symm) hne
theorem Qw1 {S : Nat → Prop} {β : Nat → Lay} {k : Nat} {v : Value} (h : VD ρ w S β (.val (.nsl k)) v) : VD ρ w S β (.val (.sl k [])) v := by
  rw [Qar h]
  exact Ql ⟨[_], .sl0 k none 0 .nil, rfl⟩
theorem Qqa (hp : P.follows .mixedOrders = true) {q k b : Nat} {ac : AC} (hq : q / 100000 = 0) (hm : matchFn P ρ q 1 ac [(2, none)] = true) (hc : CloneOK ac k b) {us : List U} (hl : us.length * b ≤ 140737488355328) : GoodAt P ρ q [.sl k us] (.sl k us) := by
  cases us with
  | cons u us => exact Qcc (E := noEnv) Qbv hp hm rfl (by rw [Qe hq]; exact hc.v _ u us (by simpa using hl))
  | nil =>
    have hn := Qcc (E := noEnv) Qbv hp hm (us := [.nsl k]) (u := .nsl k) rfl (by rw [Qe hq]; exact hc.vn _)
    refine ⟨hn.1, Qdp.2 ⟨fun _ w S vs hS hargs => ?_, fun h1 => by omega, fun h1 => by omega, fun h1 => by omega, fun h1 => by omega, fun h1 => by omega⟩⟩
    unfold matchFn at hm
    split at hm
    rotate_left
    · cases hm
    rename_i fn hf
    simp only [Bool.and_eq_true, decide_eq_true_eq] at hm
    obtain ⟨⟨⟨hok, hbody⟩, hnp⟩, hres⟩ := hm
    cases hb : fn.body with
    | none => rw [hb] at hbody; cases hbody
    | some c =>
      rw [hb] at hbody
      match vs, hargs with
      | [v], hargs =>
        rcases VD_sl (hargs.1 fun _ => ⟨.dead, noHdr⟩) with ⟨_, a, cap, rfl⟩ | ⟨_, _, _, _, hne, _⟩
        rotate_left
        · exact absurd rfl hne
        have hex : ∃ u, exec noEnv ac (startH k a.isNone) (finish [(2, none)]) = some u ∧ ∀ (w : World) (S : Nat → Prop) (β : Nat → Lay) (v : Value), VD ρ w S β (.val u) v → VD ρ w S β (.val (.sl k [])) v := by
          cases a with
          | none => exact ⟨_, hc.vt _, fun _ _ _ _ h => Qw1 h⟩
          | some a => exact ⟨_, hc.vf _, fun _ _ _ _ h => h⟩
        obtain ⟨u, h, hu⟩ := hex
        refine calls_of_wp hf hb ?_
        refine Qbr Qbv hp ac (.whole fn.ntmps) (.code c) (startH k a.isNone) _ w _ _ hbody (Qox hS (by omega)) h fun e s' a' w' hinv' h' => ?_
        obtain ⟨β, B, hi⟩ := hinv'
        obtain ⟨v, hrun, hv⟩ := Qg2 hi hres h'
        have hpost : a'.defers = [] ∧ ∃ v, (Go.results fn a'.tmps).run P w' = .ok v w' ∧ ∃ v', Ending.returned v = .returned v' ∧ Below w.heap.size w w' ∧ ∀ β, VD ρ w' (fun b => S b ∨ (w.heap.size ≤ b ∧ b < w'.heap.size)) β (.val (.sl k [])) v' :=
          ⟨hi.rel.defers, v, hrun, v, rfl, hi.below.below, fun β' => hu _ _ _ _ ((hv β').val_mono (fun b hb => hb.1.imp id fun h => ⟨h, hb.2⟩) (fun _ _ _ _ h => h))⟩
        cases e with
        | normal => exact hpost
        | ret => exact hpost
        | exit id => cases h'
theorem Qp9 (hp : P.follows .mixedOrders = true) {q k b : Nat} {ac : AC} (hq : q / 100000 = 1) (hm : matchFn P ρ q 1 ac [(2, none)] = true) (hc : CloneOK ac k b) {us : List U} (hl : us.length * b ≤ 140737488355328) (hfl : U.flat.flats us = true) : GoodAt P ρ q [.sl k us] (.sl k us) := by
  cases us with
  | cons u us => exact Qcc (E := noEnv) Qbv hp hm rfl (by rw [Qt hq]; exact hc.f _ u us (by simpa using hl) hfl)
  | nil =>
    have hn := Qcc (E := noEnv) Qbv hp hm (us := [.nsl k]) (u := .sl k []) rfl (by rw [Qt hq]; exact hc.fn _)
    refine ⟨hn.1, Qdp.2 ⟨fun h1 => by omega, fun _ w S vs hS hargs => ?_, fun h1 => by omega, fun h1 => by omega, fun h1 => by omega, fun h1 => by omega⟩⟩
    unfold matchFn at hm
    split at hm
    rotate_left
    · cases hm
    rename_i fn hf
    simp only [Bool.and_eq_true, decide_eq_true_eq] at hm
    obtain ⟨⟨⟨hok, hbody⟩, hnp⟩, hres⟩ := hm
    cases hb : fn.body with
    | none => rw [hb] at hbody; cases hbody
    | some c =>
      rw [hb] at hbody
      match vs, hargs with
      | [v], hargs =>
        rcases VD_sl (hargs.1 fun _ => ⟨.dead, noHdr⟩) with ⟨_, a, cap, rfl⟩ | ⟨_, _, _, _, hne, _⟩
        rotate_left
        · exact absurd rfl hne
        have h : exec noEnv ac (startH k a.isNone) (finishF [(2, none)]) = some (.sl k []) := by
          cases a with
          | none => exact hc.ft _
          | some a => exact hc.ff _
        refine calls_of_wp hf hb ?_
        refine Qbr Qbv hp ac (.whole fn.ntmps) (.code c) (startH k a.isNone) _ w _ _ hbody (Qox hS (by omega)) h fun e s' a' w' hinv' h' => ?_
        obtain ⟨β, B, hi⟩ := hinv'
        obtain ⟨v, Bc, hrun, hown, hn, hBc⟩ := Qg1 hi hres h'
        have hpost : a'.defers = [] ∧ ∃ v, (Go.results fn a'.tmps).run P w' = .ok v w' ∧ ∃ v' B, Ending.returned v = .returned v' ∧ Below w.heap.size w w' ∧ B.Nodup ∧ (∀ b ∈ B, w.heap.size ≤ b ∧ b < w'.heap.size) ∧ OwnRes ρ w' (.sl k []) v' B :=
          ⟨hi.rel.defers, v, hrun, v, Bc, rfl, hi.below.below, hn, fun b hb => hi.rel.owned (hBc b hb), hown⟩
        cases e with
        | normal => exact hpost
        | ret => exact hpost
        | exit id => cases h'
theorem Qio : ∀ {l : List (Nat × Nat × Nat × AC)} {q k b : Nat} {ac : AC}, CloneAll P ρ l → l.lookup q = some (k, b, ac) → q < 100000 ∧ matchFn P ρ q 1 ac [(2, none)] = true ∧ matchFn P ρ (100000 + q) 1 ac [(2, none)] = true ∧ CloneOK ac k b
  | [], _, _, _, _, _, h => by cases h
  | (q', k', b', ac') :: l, q, k, b, ac, ha, h => by
    simp only [List.lookup] at h
    split at h
    · rename_i e
      have e : q = q' := by simpa using e
      cases h
      subst e
      exact ⟨ha.1, ha.2.1, ha.2.2.1, ha.2.2.2.1⟩
    · exact Qio ha.2.2.2.2 h
theorem Qmg (hp : P.follows .mixedOrders = true) {l : List (Nat × Nat × Nat × AC)} (ha : CloneAll P ρ l) : Good P ρ (cloneE l) := fun q us u h => by
  unfold cloneE at h
  split at h
  rotate_left
  · cases h
  rename_i k b ac hlk
  obtain ⟨hlt, hm, hmF, hc⟩ := Qio ha hlk
  split at h
  · rename_i hq
    have e : q % 100000 = q := Nat.mod_eq_of_lt (by omega)
    rw [e] at hm
    unfold cloneV at h
    split at h
    · split at h
      · rename_i hk
        cases h
        rw [hk.1]
        exact Qqa hp hq hm hc hk.2
      · cases h
    · split at h
      · rename_i hk
        cases h
        subst hk
        exact Qcc (E := noEnv) Qbv hp hm rfl (by rw [Qe hq]; exact hc.vn _)
      · cases h
    · cases h
  · split at h
    · rename_i hq
      have e : 100000 + q % 100000 = q := by omega
      rw [e] at hmF
      unfold cloneF at h
      split at h
      · split at h
        · rename_i hk
          cases h
          rw [hk.1]
          exact Qp9 hp hq hmF hc hk.2.1 hk.2.2
        · cases h
      · split at h
        · rename_i hk
          cases h
          subst hk
          exact Qcc (E := noEnv) Qbv hp hmF rfl (by rw [Qt hq]; exact hc.fn _)
        · cases h
      · cases h
    · cases h
end
end Go.Proofs.Ytboenehajoaahaa.Am
