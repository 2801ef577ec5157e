import Derived.Test.YticokpflinlgbaaGreatAmU
/-
  Code and functions: what the machine computes of a function's code is what a call of the function hands back.
-/
namespace Go.Proofs.YticokpflinlgbaaGreat.Am
open Go Go.RowKit

section
variable {ρ : Nat → FuncId} {base : Nat → Prop} {N : Nat} {fr : Frm} {S₀ : Nat → Prop} {Γ : Hp} {β : Nat → Pl} {B : Nat → List Nat} {a : Act} {w0 : Org} {w : World} {s s' : St}

/-- A slot's value is seen in another way. -/
theorem Rel.retype (h : Rel ρ S₀ base N fr Γ β B a w) {n : Nat} {d : D} (hd : n < N → VD ρ w (Stands S₀ w Γ B) β d (a.tmps.getD n Go.undef)) : Rel ρ S₀ base N (fr.put (some n) d) Γ β B a w := by
  refine ⟨h.size, h.defers, fun i hi => ?_, h.roots, h.apart, h.inside, h.low, h.fresh⟩
  simp only [Frm.put, Option.some.injEq]
  split
  · rename_i e
    subst e
    exact hd hi
  · exact h.slots i hi

theorem adopt_inv : ∀ (as : List (Nat × Nat)) (s s' : St), Inv' ρ S₀ w0 N s a w → adoptAs as s = some s' → Inv' ρ S₀ w0 N s' a w
  | [], s, s', hinv, h => by
    simp only [adoptAs, Option.some.injEq] at h
    subst h
    exact hinv
  | (n, k) :: as, s, s', ⟨β, B, hinv⟩, h => by
    simp only [adoptAs] at h
    split at h
    · rename_i R0 k' hsl
      split at h
      · rename_i k2 us hR0
        split at h
        · rename_i hc
          obtain ⟨rfl, rfl, hn4⟩ := hc
          have hroot := hinv.rel.roots R0 _ hR0
          have hroot' : ∀ β', RootOK ρ w (Stands S₀ w s.Γ B) β' (.arr k2 us) (β R0) (B R0) := fun β' => hroot
          have hsw := hinv.rel.swap (w' := w) R0 (1000 + n) (by simp [hR0]) (.arr k2 us) (β R0) (B R0) (fun _ _ _ => rfl) (Nat.le_refl _) (fun b hb => .inl hb) (fun S' hS' => (hroot' _).mono hS' (fun _ _ => rfl) (fun _ _ => rfl) (fun _ => rfl))
          refine adopt_inv as _ s' ⟨_, _, ⟨hsw.retype fun hn => ?_, hinv.below, given_upd (by omega) hinv.given fun R' hne h => ?_⟩⟩ h
          rotate_left
          · by_cases e : R' = R0
            · rw [e, hR0]; rfl
            · simpa [upd_other _ _ hne, Hp.purge, upd_other _ _ e] using h
          have h1 := hinv.rel.slots n hn
          rw [hsl] at h1
          obtain ⟨v0, hv0, hsub⟩ := VD_ref h1
          exact VD_of_ref (v0 := v0) (by rw [upd_same, hv0]) hsub
        · cases h
      · cases h
    · rename_i k' hsl
      split at h
      · rename_i hk
        obtain ⟨rfl, hn4⟩ := hk
        have hnew := hinv.rel.new (w' := w) (1000 + n) (.arr k' []) (.vir (.slice none 0 0)) [] (fun _ _ => rfl) (Nat.le_refl _) (by simp) (fun S' hS' => .inl ⟨rfl, rfl, rfl⟩)
        refine adopt_inv as _ s' ⟨_, _, ⟨hnew.retype fun hn => ?_, hinv.below, given_upd (by omega) hinv.given fun R' hne h => by simpa [upd_other _ _ hne, Hp.purge] using h⟩⟩ h
        have h1 := hinv.rel.slots n hn
        rw [hsl] at h1
        exact VD_of_ref (v0 := .slice none 0 0) (by rw [upd_same]) ⟨VD_nsl h1, by rw [VD_nsl h1]; rfl⟩
      · cases h
    · cases h

/-- A part of a state. -/
def Part (st s : St) : Prop := (∀ i, st.fr i = s.fr i ∨ st.fr i = .undef) ∧ ∀ R, st.Γ R = s.Γ R ∨ st.Γ R = none

theorem part_fr : ∀ (ss : List Nat) (fr : Frm), (∀ i, fr i = s.fr i ∨ fr i = .undef) → ∀ i, unpackFr ss (ss.map s.fr) fr i = s.fr i ∨ unpackFr ss (ss.map s.fr) fr i = .undef
  | [], fr, h, i => h i
  | n :: ss, fr, h, i => by
    simp only [List.map_cons, unpackFr, Frm.put, Option.some.injEq]
    split
    · rename_i e; left; rw [e]
    · exact part_fr ss fr h i

theorem part_as : ∀ (as : List (Nat × Nat)) (qs cs : List Cn) (st : St), takeArrs s as = some qs → Part st s → (unpackAs as (qs ++ cs) st).2 = cs ∧ Part (unpackAs as (qs ++ cs) st).1 s
  | [], qs, cs, st, h, hp => by
    simp only [takeArrs, Option.some.injEq] at h
    subst h
    exact ⟨rfl, hp⟩
  | (n, k) :: as, qs, cs, st, h, hp => by
    simp only [takeArrs] at h
    split at h
    · rename_i R k' hsl
      split at h
      · rename_i hc
        obtain ⟨rfl, rfl⟩ := hc
        simp only [Option.bind_eq_some_iff, Option.map_eq_some_iff] at h
        obtain ⟨c, hc, qs', hqs, rfl⟩ := h
        obtain ⟨h1, h2, h3⟩ := part_as as qs' cs st hqs hp
        refine ⟨h1, fun i => ?_, fun R => ?_⟩
        · simp only [unpackAs, List.cons_append, Frm.put, Option.some.injEq]
          split
          · rename_i e; left; rw [← e, hsl]
          · exact h2 i
        · simp only [unpackAs, List.cons_append]
          by_cases e : R = 1000 + n
          · subst e; left; rw [upd_same, hc]
          · rw [upd_other _ _ e]; exact h3 R
      · cases h
    · cases h

theorem part_rs : ∀ (rs : List Nat) (cs : List Cn) (Γ : Hp), takeRoots s.Γ rs = some cs → (∀ R, Γ R = s.Γ R ∨ Γ R = none) → ∀ R, unpackRs rs cs Γ R = s.Γ R ∨ unpackRs rs cs Γ R = none
  | [], cs, Γ, h, hp, R => by
    simp only [takeRoots, Option.some.injEq] at h
    subst h
    exact hp R
  | R0 :: rs, cs, Γ, h, hp, R => by
    simp only [takeRoots, Option.bind_eq_some_iff, Option.map_eq_some_iff] at h
    obtain ⟨c, hc, cs', hcs, rfl⟩ := h
    simp only [unpackRs]
    by_cases e : R = R0
    · subst e; left; rw [upd_same, hc]
    · rw [upd_other _ _ e]; exact part_rs rs cs' Γ hcs hp R

theorem pack_inv {l : Live} {p : Packed} (hinv : Inv' ρ S₀ w0 N s a w) (h : pack l s = some p) : Inv' ρ S₀ w0 N (unpack l p) a w := by
  simp only [pack, Option.bind_eq_some_iff, Option.some.injEq] at h
  obtain ⟨s1, h1, qs, h2, cs, h3, rfl⟩ := h
  obtain ⟨β, B, hinv1⟩ := adopt_inv l.as s s1 hinv h1
  have hfr := part_fr (s := s1) l.ss (fun _ => .undef) (fun _ => .inr rfl)
  obtain ⟨h4, h5⟩ := part_as (s := s1) l.as qs cs ⟨unpackFr l.ss (l.ss.map s1.fr) fun _ => .undef, fun _ => none⟩ h2 ⟨hfr, fun _ => .inr rfl⟩
  have hrs := part_rs (s := s1) l.rs cs _ h3 h5.2
  have hg : ∀ R, (unpack l (l.ss.map s1.fr, qs ++ cs)).Γ R = s1.Γ R ∨ (unpack l (l.ss.map s1.fr, qs ++ cs)).Γ R = none := by
    simp only [unpack]
    rw [h4]
    exact hrs
  refine ⟨β, B, ⟨hinv1.rel.keep _ _ ?_ hg, hinv1.below, fun R h6 h7 => hinv1.given R h6 ?_⟩⟩
  · exact h5.1
  · rcases hg R with e | e
    · rw [← e]; exact h7
    · rw [e] at h7; cases h7
end

theorem least {Φ : Nat → Prop} (h : ∃ n, Φ n) : ∃ n, Φ n ∧ ∀ m, Φ m → n ≤ m := by
  obtain ⟨n, hn⟩ := h
  induction n using Nat.strongRecOn with
  | _ n ih =>
    by_cases hl : ∃ m, m < n ∧ Φ m
    · obtain ⟨m, h1, h2⟩ := hl
      exact ih m h1 h2
    · exact ⟨n, hn, fun m hm => Nat.le_of_not_lt fun hlt => hl ⟨m, hlt, hm⟩⟩

/-! ### Code -/
def matchRegion (ρ : Nat → FuncId) (P : Program) (N : Nat) (ops : Array Oper) (k : Nat) (ops' : List AOper) : Bool → Bool
  | false => k == 0 && matchOps ρ P N ops ops.toList ops'
  | true => drawB .any ops k (ops'.take k) && matchOps ρ P N ops (ops.toList.take k) (ops'.take k) && matchOps ρ P N ops (ops.toList.drop k) (ops'.drop k)

def matchCode (ρ : Nat → FuncId) (P : Program) (N : Nat) : Code → AC → Bool
  | .skip, .skip => true
  | .region _ ops dr, .region k ops' => matchRegion ρ P N ops k ops' dr
  | .seq a b, .seq a' b' => matchCode ρ P N a a' && matchCode ρ P N b b'
  | .cond c a b, .cond c' a' b' => opdOK ρ N c c' && matchCode ρ P N a a' && matchCode ρ P N b b'
  | .block id c, .block id' c' => id == id' && matchCode ρ P N c c'
  | .loop c, .loop _ c' => matchCode ρ P N c c'
  | .exit id, .exit id' => id == id'
  | .ret, .ret => true
  | _, _ => false

def Ex.to : Ex → Exit
  | .normal => .normal
  | .exit id => .exit id
  | .ret => .ret

section
variable {α : Type} {P : Program} {ρ : Nat → FuncId} {N : Nat} {S₀ : Nat → Prop} {w0 : Org} {E : Env} {r : α}

theorem code_wp (hg : Good P ρ E) (hp : P.follows .mixedOrders = true) (ac : AC) : ∀ (c : Code) (s : St) (a : Act) (w : World) (K : Ex → St → Option α) (Q : Exit → Act → World → Prop), matchCode ρ P N c ac = true → Inv' ρ S₀ w0 N s a w →
    exec E ac s K = some r → (∀ e s' a' w', Inv' ρ S₀ w0 N s' a' w' → K e s' = some r → Q e.to a' w') → c.wp P Q a w := by
  induction ac with
  | skip =>
    intro c s a w K Q hm hinv h hK
    cases c <;> try cases hm
    exact wp_skip (hK .normal s a w hinv h)
  | exit id =>
    intro c s a w K Q hm hinv h hK
    cases c <;> try cases hm
    simp only [matchCode, beq_iff_eq] at hm
    subst hm
    exact wp_exit (hK (.exit _) s a w hinv h)
  | ret =>
    intro c s a w K Q hm hinv h hK
    cases c <;> try cases hm
    exact wp_ret (hK .ret s a w hinv h)
  | region k ops' =>
    intro c s a w K Q hm hinv h hK
    cases c <;> try cases hm
    rename_i id ops dr
    cases dr with
    | false =>
      simp only [matchCode, matchRegion, Bool.and_eq_true, beq_iff_eq] at hm
      obtain ⟨rfl, h1⟩ := hm
      exact region_wp hg h1 hinv h fun s' a' w' hinv' h' => hK .normal s' a' w' hinv' h'
    | true =>
      simp only [matchCode, matchRegion, Bool.and_eq_true] at hm
      obtain ⟨⟨hB, h1⟩, h2⟩ := hm
      exact region_any_wp hg hp hB h1 h2 hinv h fun s' a' w' hinv' h' => hK .normal s' a' w' hinv' h'
  | seq x y ihx ihy =>
    intro c s a w K Q hm hinv h hK
    cases c <;> try cases hm
    simp only [matchCode, Bool.and_eq_true] at hm
    refine wp_seq (ihx _ s a w _ _ hm.1 hinv h fun e s' a' w' hinv' h' => ?_)
    cases e with
    | normal => exact ihy _ s' a' w' K Q hm.2 hinv' h' hK
    | exit id => exact hK (.exit id) s' a' w' hinv' h'
    | ret => exact hK .ret s' a' w' hinv' h'
  | cond x y z ihy ihz =>
    intro c s a w K Q hm hinv h hK
    cases c <;> try cases hm
    simp only [matchCode, Bool.and_eq_true] at hm
    obtain ⟨⟨h1, h2⟩, h3⟩ := hm
    obtain ⟨β, B, hi⟩ := hinv
    have hv := hi.rel.opd h1
    simp only [exec] at h
    cases he : x.ev s.fr with
    | val u =>
      rw [he] at hv
      simp only [he] at h
      cases u with
      | bool t =>
        have hb := VD_bool hv
        cases t with
        | true => exact wp_cond_true hb (ihy _ s a w K Q h2 ⟨β, B, hi⟩ h hK)
        | false => exact wp_cond_false hb (ihz _ s a w K Q h3 ⟨β, B, hi⟩ h hK)
      | _ => cases h
    | _ => simp only [he] at h; cases h
  | block id x ih =>
    intro c s a w K Q hm hinv h hK
    cases c <;> try cases hm
    simp only [matchCode, Bool.and_eq_true, beq_iff_eq] at hm
    obtain ⟨rfl, h1⟩ := hm
    refine wp_block (ih _ s a w _ _ h1 hinv h fun e s' a' w' hinv' h' => ?_)
    cases e with
    | normal => exact hK .normal s' a' w' hinv' h'
    | ret => exact hK .ret s' a' w' hinv' h'
    | exit id' =>
      simp only [Ex.to, Exit.inBlock]
      simp only [blockK] at h'
      split at h'
      · rename_i e; rw [if_pos e]; exact hK .normal s' a' w' hinv' h'
      · rename_i e; rw [if_neg e]; exact hK (.exit id') s' a' w' hinv' h'
  | loop l x ih =>
    intro c s a w K Q hm hinv h hK
    cases c <;> try cases hm
    rename_i body
    simp only [matchCode] at hm
    have e1 : exec E (.loop l x) s K = (pack l s).bind (loopK (roundOf E l x K)) := rfl
    rw [e1] at h
    obtain ⟨p, hpk, h⟩ := Option.bind_eq_some_iff.1 h
    obtain ⟨n, hn⟩ := (loopK_iff (round_mono E (exec_reach E x) l K) p r).1 h
    -- n rounds more
    let Φ : Act → World → Nat → Prop := fun a w n => ∃ p, Inv' ρ S₀ w0 N (unpack l p) a w ∧ loopN (roundOf E l x K) n p = some r
    classical
    let μ : Act → World → Nat := fun a w => if h : ∃ n, Φ a w n then (least h).choose else 0
    refine wp_loop (fun a w => ∃ n, Φ a w n) μ ⟨n, p, pack_inv hinv hpk, hn⟩ fun a1 w1 hI => ?_
    have hμ : μ a1 w1 = (least hI).choose := by simp only [μ, dif_pos hI]
    have hspec := (least hI).choose_spec.1
    rw [← hμ] at hspec
    obtain ⟨p1, hinv1, hn1⟩ := hspec
    generalize hm1 : μ a1 w1 = m at hn1
    cases m with
    | zero => cases hn1
    | succ m =>
      refine ih _ (unpack l p1) a1 w1 _ _ hm hinv1 hn1 fun e s' a' w' hinv' h' => ?_
      cases e with
      | normal =>
        simp only [roundK] at h'
        obtain ⟨p2, hp2, h2⟩ := Option.bind_eq_some_iff.1 h'
        have hΦ : ∃ n, Φ a' w' n := ⟨m, p2, pack_inv hinv' hp2, h2⟩
        refine ⟨hΦ, ?_⟩
        have : μ a' w' = (least hΦ).choose := by simp only [μ, dif_pos hΦ]
        rw [this]
        exact Nat.lt_succ_of_le ((least hΦ).choose_spec.2 m ⟨p2, pack_inv hinv' hp2, h2⟩)
      | exit id => exact hK (.exit id) s' a' w' hinv' h'
      | ret => exact hK .ret s' a' w' hinv' h'
end
end Go.Proofs.YticokpflinlgbaaGreat.Am
