import Derived.Test.YtboenehajoaahaaAmV
namespace Go.Proofs.Ytboenehajoaahaa.Am
open Go
def EnvLe (E E' : Env) : Prop := ∀ q us u, E q us = some u → E' q us = some u
theorem Qp6 {α : Type} (Γ : Hp) (nm : Nat) (tup : Bool) (ss : List Shp) (u : U) : Reach (fun K : Eff → Option α => (match tup, ss with
    | false, [s] => u.noTup fun u => s.view nm [] u fun c d => mkVar Γ nm (.vir c) d K
    | true, ss => u.asTup fun us => Shp.view.views ss nm [] 0 0 us fun cs ds => mkVar Γ nm (.vir (.agg cs)) (.tup ds) K
    | _, _ => none)) := by
  split
  · simp only [Qba]
    exact Reach.noTup _ fun u => Reach.bind _ fun x => Reach.mkVar _ _ _ _
  · simp only [Qbb]
    exact Reach.asTup _ fun us => Reach.bind _ fun x => Reach.mkVar _ _ _ _
  · exact Reach.none
theorem Qz3 {α : Type} (E : Env) (op : AOp) (fr : Frm) (Γ : Hp) (K : Eff → Option α) (r : α) (h : op.step E fr Γ K = some r) :
    ∃ e, K e = some r ∧ ∃ C : Option (Nat × List U × U), (∀ c, C = some c → E c.1 c.2.1 = some c.2.2) ∧ ∀ (E' : Env), (∀ c, C = some c → E' c.1 c.2.1 = some c.2.2) → ∀ K' : Eff → Option α, K' e = some r → op.step E' fr Γ K' = some r := by
  have other : (∀ E' : Env, ∀ K' : Eff → Option α, op.step E' fr Γ K' = op.step E fr Γ K') → ∃ e, K e = some r ∧ ∃ C : Option (Nat × List U × U), (∀ c, C = some c → E c.1 c.2.1 = some c.2.2) ∧ ∀ (E' : Env), (∀ c, C = some c → E' c.1 c.2.1 = some c.2.2) → ∀ K' : Eff → Option α, K' e = some r → op.step E' fr Γ K' = some r := fun ho => by
    obtain ⟨e, he, hK⟩ := Qay (α := α) E op fr Γ K r h
    exact ⟨e, he, none, fun c hc => (by cases hc), fun E' _ K' h' => by rw [ho E' K']; exact hK K' h'⟩
  cases op with
  | call fl q args =>
    simp only [AOp.step] at h
    cases hv : allVals (evs fr args) with
    | some us =>
      rw [hv] at h
      obtain ⟨u, hu, h⟩ := Option.bind_eq_some_iff.1 h
      obtain ⟨e, he, hK⟩ := Qa6 (α := α) fl u K r h
      exact ⟨e, he, some (q, us, u), fun c hc => (by cases hc; exact hu), fun E' hE K' h' => by
        simp only [AOp.step, hv]; rw [hE _ rfl]; exact hK K' h'⟩
    | none =>
      rw [hv] at h
      obtain ⟨us, hus, h⟩ := Option.bind_eq_some_iff.1 h
      obtain ⟨u, hu, h⟩ := Option.bind_eq_some_iff.1 h
      obtain ⟨e, he, hK⟩ := Qa6 (α := α) true u K r h
      exact ⟨e, he, some (q, us, u), fun c hc => (by cases hc; exact hu), fun E' hE K' h' => by
        simp only [AOp.step, hv]; rw [hus, Option.bind_some, hE _ rfl]; exact hK K' h'⟩
  | callv fl f args =>
    simp only [AOp.step] at h
    cases hv : allVals ((f.ev fr).plain :: evs fr args) with
    | some us =>
      rw [hv] at h
      obtain ⟨g, hg, h⟩ := Option.bind_eq_some_iff.1 h
      cases g <;> first | (simp only [U.asFn] at h; cases h; done) | skip
      rename_i q caps
      simp only [U.asFn] at h
      by_cases hq : q < 100000
      rotate_left
      · rw [if_neg hq] at h; cases h
      rw [if_pos hq] at h
      obtain ⟨u, hu, h⟩ := Option.bind_eq_some_iff.1 h
      obtain ⟨e, he, hK⟩ := Qa6 (α := α) fl u K r h
      exact ⟨e, he, some (q, us.tail ++ caps, u), fun c hc => (by cases hc; exact hu), fun E' hE K' h' => by
        simp only [AOp.step, hv]; rw [hg, Option.bind_some]; simp only [U.asFn]; rw [if_pos hq, hE _ rfl]; exact hK K' h'⟩
    | none =>
      rw [hv] at h
      obtain ⟨g, hg, h⟩ := Option.bind_eq_some_iff.1 h
      cases g <;> first | (simp only [U.asFn] at h; cases h; done) | skip
      rename_i q caps
      simp only [U.asFn] at h
      by_cases hq : q < 100000
      rotate_left
      · rw [if_neg hq] at h; cases h
      rw [if_pos hq] at h
      obtain ⟨us, hus, h⟩ := Option.bind_eq_some_iff.1 h
      obtain ⟨u, hu, h⟩ := Option.bind_eq_some_iff.1 h
      obtain ⟨e, he, hK⟩ := Qa6 (α := α) true u K r h
      exact ⟨e, he, some (q, us ++ caps, u), fun c hc => (by cases hc; exact hu), fun E' hE K' h' => by
        simp only [AOp.step, hv]; rw [hg, Option.bind_some]; simp only [U.asFn]; rw [if_pos hq, hus, Option.bind_some, hE _ rfl]; exact hK K' h'⟩
  | callF nm tup ss q args =>
    simp only [AOp.step] at h
    obtain ⟨us, hus, h⟩ := Option.bind_eq_some_iff.1 h
    obtain ⟨u, hu, h⟩ := Option.bind_eq_some_iff.1 h
    obtain ⟨e, he, hK⟩ := Qp6 Γ nm tup ss u K r h
    exact ⟨e, he, some (100000 + q, us, u), fun c hc => (by cases hc; exact hu), fun E' hE K' h' => by
      simp only [AOp.step]; rw [hus, Option.bind_some, hE _ rfl]; exact hK K' h'⟩
  | callM k q x args =>
    simp only [AOp.step, at_eq, Qab, Qaf] at h
    split at h
    rotate_left
    · cases h
    rename_i R p k' hx
    by_cases hkk : k' = k
    rotate_left
    · rw [if_neg hkk] at h; cases h
    rw [if_pos hkk] at h
    obtain ⟨d, hat, h⟩ := Option.bind_eq_some_iff.1 h
    obtain ⟨h, _⟩ := Qa4 h
    obtain ⟨u0, hown, h⟩ := Option.bind_eq_some_iff.1 h
    cases u0 with
    | sl k2 xs =>
      simp only [U.asSlK] at h
      by_cases hk2 : k2 = k
      rotate_left
      · rw [if_neg hk2] at h; cases h
      rw [if_pos hk2] at h
      obtain ⟨us, hus, h⟩ := Option.bind_eq_some_iff.1 h
      obtain ⟨u, hu, h⟩ := Option.bind_eq_some_iff.1 h
      obtain ⟨e, he, hK⟩ := Reach.asMut (α := α) k u (g := fun y ys (K : Eff → Option α) => y.asFlat fun y => (Γ.setO 1 (.own (.sl k ys)) R p).bind fun Γ' => K (.st [Tag.below R p] (.val y) (Γ'.retag (Tag.below R p)))) (fun _ _ => Reach.asFlat _ fun y => Reach.bind _ fun g => Reach.ret _) K r h
      have hsl : ∀ X : Option α, d.isSl k X = X := fun X => by
        cases d <;> first | (simp only [D.ownO, D.toOwn] at hown; cases hown; done) | skip
        · simp only [D.ownO, D.toOwn, U.asFlat] at hown
          split at hown
          · cases hown; rename_i hf; cases hf
          · cases hown
        · cases hown
          simp [D.isSl, U.asSlK, hk2]
        · rw [Qgq] at hown
          obtain ⟨us, _, h2⟩ := Option.bind_eq_some_iff.1 hown
          cases h2
        · simp only [D.ownO, D.toOwn] at hown
          split at hown
          · cases hown; simp [D.isSl, hk2]
          · cases hown
        · rw [Qgr] at hown
          obtain ⟨us, _, h2⟩ := Option.bind_eq_some_iff.1 hown
          cases h2
          simp [D.isSl, hk2]
      exact ⟨e, he, some (200000 + q, .agg [.tup [.sl k xs]] :: us, u), fun c hc => (by cases hc; exact hu), fun E' hE K' h' => by
        simp only [AOp.step, hx, at_eq, Qab, Qaf]
        rw [if_pos hkk, hat, Option.bind_some, hsl, hown, Option.bind_some]
        simp only [U.asSlK]
        rw [if_pos hk2, hus, Option.bind_some, hE _ rfl]
        exact hK K' h'⟩
    | _ => cases h
  | callC nm k q x args =>
    simp only [AOp.step, Qae] at h
    obtain ⟨⟨xs, Γ1⟩, htk, h⟩ := Option.bind_eq_some_iff.1 h
    obtain ⟨us, hus, h⟩ := Option.bind_eq_some_iff.1 h
    obtain ⟨u, hu, h⟩ := Option.bind_eq_some_iff.1 h
    obtain ⟨e, he, hK⟩ := Reach.asSlK (α := α) k u (g := fun ys (K : Eff → Option α) => mkVar Γ1 nm (.vir (.own (.sl k ys))) (.ref nm [] k none) K) (fun _ => Reach.mkVar _ _ _ _) K r h
    exact ⟨e, he, some (300000 + q, .agg [.tup [.sl k xs]] :: us, u), fun c hc => (by cases hc; exact hu), fun E' hE K' h' => by
      simp only [AOp.step, Qae]; rw [htk, Option.bind_some, hus, Option.bind_some, hE _ rfl]; exact hK K' h'⟩
  | callI nm k q x i y =>
    simp only [AOp.step, Qae] at h
    obtain ⟨⟨xs, Γ1⟩, htk, h⟩ := Option.bind_eq_some_iff.1 h
    obtain ⟨n, hn, h⟩ := Qad (K := fun n => (takeElO Γ1 k (y.ev fr)).bind fun z => (E (600000 + q) [.sl k xs, .int .i64 n, .sl k z.1]).bind fun u => u.asSlK k fun zs => mkVar z.2 nm (.vir (.own (.sl k zs))) (.ref nm [] k none) K) h
    obtain ⟨⟨ys, Γ2⟩, htk2, h⟩ := Option.bind_eq_some_iff.1 h
    obtain ⟨u, hu, h⟩ := Option.bind_eq_some_iff.1 h
    obtain ⟨e, he, hK⟩ := Reach.asSlK (α := α) k u (g := fun ys (K : Eff → Option α) => mkVar Γ2 nm (.vir (.own (.sl k ys))) (.ref nm [] k none) K) (fun _ => Reach.mkVar _ _ _ _) K r h
    exact ⟨e, he, some (600000 + q, [.sl k xs, .int .i64 n, .sl k ys], u), fun c hc => (by cases hc; exact hu), fun E' hE K' h' => by
      simp only [AOp.step, Qae]; rw [htk, Option.bind_some]; simp only [hn, D.asInt, U.asInt]; rw [htk2, Option.bind_some, hE _ rfl]; exact hK K' h'⟩
  | callP sh q x args =>
    simp only [AOp.step] at h
    split at h
    rotate_left
    · cases h
    rename_i R hx
    split at h
    rotate_left
    · cases h
    rename_i d hG
    obtain ⟨c, hc, h⟩ := Option.bind_eq_some_iff.1 h
    obtain ⟨us, hus, h⟩ := Option.bind_eq_some_iff.1 h
    obtain ⟨u, hu, h⟩ := Option.bind_eq_some_iff.1 h
    obtain ⟨e, he, hK⟩ := Reach.asPtr (α := α) u (g := fun y c' (K : Eff → Option α) => c'.asP sh fun c' => K (.st [.cut R []] (.val y) (upd (Γ.retag (.cut R [])) R (some (.box c'.pdec))))) (fun _ _ => Reach.asP _ _ fun _ => Reach.ret _) K r h
    exact ⟨e, he, some (400000 + q, .agg [.tup [c]] :: us, u), fun c hc => (by cases hc; exact hu), fun E' hE K' h' => by
      simp only [AOp.step]; rw [hx]; simp only []; rw [hG]; simp only []; rw [hc, Option.bind_some, hus, Option.bind_some, hE _ rfl]; exact hK K' h'⟩
  | callL sh q f args =>
    simp only [AOp.step] at h
    split at h
    rotate_left
    · cases h
    rename_i r' R hx
    split at h
    rotate_left
    · cases h
    rename_i d hG
    by_cases hr : r' = q
    rotate_left
    · rw [if_neg hr] at h; cases h
    rw [if_pos hr] at h
    obtain ⟨c, hc, h⟩ := Option.bind_eq_some_iff.1 h
    obtain ⟨us, hus, h⟩ := Option.bind_eq_some_iff.1 h
    obtain ⟨u, hu, h⟩ := Option.bind_eq_some_iff.1 h
    obtain ⟨e, he, hK⟩ := Reach.asPtr (α := α) u (g := fun y c' (K : Eff → Option α) => c'.asP sh fun c' => K (.st [.cut R []] (.val y) (upd (Γ.retag (.cut R [])) R (some (.box c'.pdec))))) (fun _ _ => Reach.asP _ _ fun _ => Reach.ret _) K r h
    exact ⟨e, he, some (500000 + q, .agg [.tup [c]] :: us, u), fun c hc => (by cases hc; exact hu), fun E' hE K' h' => by
      simp only [AOp.step]; rw [hx]; simp only []; rw [hG]; simp only []; rw [if_pos hr, hc, Option.bind_some, hus, Option.bind_some, hE _ rfl]; exact hK K' h'⟩
  | append mv nm k bytes s x => exact other fun E' K' => by cases mv <;> rfl
  | _ => exact other fun E' K' => rfl
section
variable {σ τ α β : Type}
def CReach (En : Nat → Env) (E : Env) (f : Env → (σ → Option α) → Option α) : Prop :=
  ∀ K r, f E K = some r → ∃ e, K e = some r ∧ ∃ n, ∀ m, n ≤ m → ∀ K', K' e = some r → f (En m) K' = some r
variable {En : Nat → Env} {E : Env}
theorem CReach.const {f : (σ → Option α) → Option α} (h : Reach f) : CReach En E fun _ => f := fun K r hr => by
  obtain ⟨e, he, hK⟩ := h K r hr
  exact ⟨e, he, 0, fun _ _ K' h' => hK K' h'⟩
theorem CReach.asBool (u : U) {f g : Env → (σ → Option α) → Option α} (h1 : CReach En E f) (h2 : CReach En E g) : CReach En E (fun E K => u.asBool (f E K) (g E K)) := fun K r h => by
  unfold U.asBool at h ⊢
  split at h
  · exact h1 K r h
  · exact h2 K r h
  · cases h
theorem CReach.then {f : Env → (σ → Option α) → Option α} {g : σ → Env → (τ → Option α) → Option α} (h1 : CReach En E f) (h2 : ∀ e, CReach En E (g e)) : CReach En E (fun E K => f E fun e => g e E K) := fun K r h => by
  obtain ⟨e, he, n, hn⟩ := h1 _ r h
  obtain ⟨e', he', n', hn'⟩ := h2 e K r he
  refine ⟨e', he', max n n', fun m hm K' hr => hn m (by omega) _ (hn' m (by omega) K' hr)⟩
end
section
variable {α : Type} {En : Nat → Env} {E : Env} (hEn : ∀ q us u, E q us = some u → ∃ n, ∀ m, n ≤ m → En m q us = some u)
include hEn
theorem Qdx (op : AOp) (fr : Frm) (Γ : Hp) : CReach En E (fun E (K : Eff → Option α) => op.step E fr Γ K) := fun K r h => by
  obtain ⟨e, he, C, hC, hK⟩ := Qz3 E op fr Γ K r h
  cases C with
  | none => exact ⟨e, he, 0, fun m _ K' h' => hK _ (fun c hc => (by cases hc)) K' h'⟩
  | some c =>
    obtain ⟨n, hn⟩ := hEn _ _ _ (hC c rfl)
    exact ⟨e, he, n, fun m hm K' h' => hK _ (fun c hc => by cases hc; exact hn m hm) K' h'⟩
theorem Qgo (dr : Bool) (o : AOper) (s : St) : CReach En E (fun E (K : St → Option α) => o.exec dr E s K) := by
  have go : ∀ s : St, CReach En E (fun E (K : St → Option α) => o.op.step E s.fr s.Γ fun e => e.apply dr o.dst s K) := fun s => (Qdx hEn o.op s.fr s.Γ).then fun e => CReach.const (Qif dr o.dst s e)
  unfold AOper.exec
  cases hg : o.guard with
  | none => exact go s
  | some gw =>
    obtain ⟨g, want⟩ := gw
    dsimp only
    cases hs : s.fr g with
    | skip => exact CReach.const (Reach.ret _)
    | val u =>
      refine CReach.asBool _ ?_ ?_
      · cases want
        · exact CReach.const (Reach.ret _)
        · exact go _
      · cases want
        · exact go _
        · exact CReach.const (Reach.ret _)
    | _ => exact CReach.const Reach.none
theorem Qce (dr : Bool) (os : List AOper) (s : St) : CReach En E (fun E (K : St → Option α) => execOps dr E os s K) := by
  induction os generalizing s with
  | nil => exact CReach.const (Reach.ret _)
  | cons o os ih => exact (Qgo hEn dr o s).then fun s' => ih s'
omit hEn in
theorem Qwr {α : Type} (nm : Nat) (tup : Bool) (ss : List Shp) (u : U) : Reach (fun K : D × Cn → Option α => (match tup, ss with
    | false, [s] => u.noTup fun u => s.view nm [] u fun c d => K (d, .vir c)
    | true, ss => u.asTup fun us => Shp.view.views ss nm [] 0 0 us fun cs ds => K (.tup ds, .vir (.agg cs))
    | _, _ => none)) := by
  split
  · simp only [Qba]
    exact Reach.noTup _ fun u => Reach.bind _ fun x => Reach.ret _
  · simp only [Qbb]
    exact Reach.asTup _ fun us => Reach.bind _ fun x => Reach.ret _
  · exact Reach.none
theorem Qws (op : AOp) (fr : Frm) (Γ : Hp) : CReach En E (fun E (K : D × Cn → Option α) => op.make E fr Γ fun d c => K (d, c)) := by
  cases op with
  | callF nm tup ss r args =>
    intro K x h
    simp only [AOp.make] at h
    obtain ⟨us, hus, h⟩ := Option.bind_eq_some_iff.1 h
    obtain ⟨u, hu, h⟩ := Option.bind_eq_some_iff.1 h
    obtain ⟨n, hn⟩ := hEn _ _ _ hu
    obtain ⟨e, h1, h2⟩ := Qwr (α := α) nm tup ss u K x h
    exact ⟨e, h1, n, fun m hm K' h' => by
      simp only [AOp.make, hus, Option.bind_some, hn m hm]
      exact h2 K' h'⟩
  | _ => exact CReach.const (Qgk E _ fr Γ)
theorem Qz1 (op : AOp) (fr : Frm) (Γ : Hp) : CReach En E (fun E (K : Eff → Option α) => op.stepQ E fr Γ K) := by
  rcases Qo1 (α := α) op with ⟨fl, r, args, rfl⟩ | ⟨fl, f, args, rfl⟩ | ⟨k, x, i, rfl⟩ | h
  · intro K x h
    simp only [AOp.stepQ] at h
    obtain ⟨us, hus, h⟩ := Option.bind_eq_some_iff.1 h
    obtain ⟨u, hu, h⟩ := Option.bind_eq_some_iff.1 h
    obtain ⟨n, hn⟩ := hEn _ _ _ hu
    obtain ⟨e, h1, h2⟩ := Qa6 (α := α) fl u K x h
    exact ⟨e, h1, n, fun m hm K' h' => by
      simp only [AOp.stepQ, hus, Option.bind_some, hn m hm]
      exact h2 K' h'⟩
  · simp only [AOp.stepQ]
    by_cases hc : (allVals ((f.ev fr).plain :: evs fr args)).isSome = true
    · simp only [hc, if_true]
      exact Qdx hEn (.callv fl f args) fr Γ
    · simp only [hc, if_false]
      exact CReach.const Reach.none
  · simp only [AOp.stepQ]
    by_cases hc : (x.ev fr).isVal = true
    · simp only [hc, if_true]
      exact Qdx hEn (.iaddr k x i) fr Γ
    · simp only [hc, if_false]
      exact CReach.const Reach.none
  · have e : (fun (E : Env) (K : Eff → Option α) => op.stepQ E fr Γ K) = fun E K => op.step E fr Γ K := funext fun E => funext (h E fr Γ)
    rw [e]
    exact Qdx hEn op fr Γ
omit hEn in
theorem Qpn (f : Env → (Eff → Option α) → Option α) (hf : CReach En E f) : CReach En E (fun E (K : D → Option α) => f E (Eff.value K)) := fun K r h => by
  obtain ⟨e, h1, n, h2⟩ := hf _ r h
  cases e with
  | v d => exact ⟨d, h1, n, fun m hm K' h' => h2 m hm _ h'⟩
  | vnew u => exact ⟨_, h1, n, fun m hm K' h' => h2 m hm _ h'⟩
  | cl fl u => exact ⟨_, h1, n, fun m hm K' h' => h2 m hm _ h'⟩
  | st ms d g => cases h1
theorem Qf7 (T : List Nat) (Γ : Hp) : ∀ (os : List AOper) (fr : Frm), CReach En E (fun E (K : Frm → Option α) => execV E T Γ os fr K)
  | [], fr => CReach.const (Reach.ret _)
  | o :: os, fr => by
    simp only [execV]
    split
    · rename_i x _ _
      by_cases hc : ((o.op.uses.all fun t => calm T (fr t)) && loadsOK Γ fr o.op) = true
      · simp only [hc, if_true]
        refine CReach.then (Qpn (fun E K => o.op.step E fr Γ K) (Qdx hEn o.op fr Γ)) (g := fun (d : D) E (K : Frm → Option α) => if calm T d = true then execV E T Γ os (fr.put (some x) d) K else none) fun d => ?_
        by_cases hd : calm T d = true
        · simp only [hd, if_true]
          exact Qf7 T Γ os _
        · simp only [hd, if_false]
          exact CReach.const Reach.none
      · simp only [hc, if_false]
        exact CReach.const Reach.none
    · exact CReach.const Reach.none
theorem Qi3 (T : List Nat) : ∀ (os : List AOper) (s : St), CReach En E (fun E (K : St → Option α) => execC E T os s K)
  | [], s => CReach.const (Reach.ret _)
  | o :: os, s => by
    simp only [execC]
    by_cases hc : chainOK T s.fr o.op = true
    · simp only [hc, if_true]
      exact (Qgo hEn false o s).then fun s' => Qi3 T os s'
    · simp only [hc, if_false]
      exact CReach.const Reach.none
theorem Qek (Γ0 : Hp) : ∀ (os : List AOper) (s : St) (acc : List D), CReach En E (fun E (K : List D × St → Option α) => execN E Γ0 os s acc fun ds s => K (ds, s))
  | [], s, acc => CReach.const (Reach.ret _)
  | o :: os, s, acc => by
    simp only [execN]
    split
    · exact CReach.const Reach.none
    · split
      · rename_i nm hm
        by_cases hlt : nm < 5000
        · simp only [hlt, if_true]
          exact CReach.then (Qws hEn o.op s.fr Γ0) (g := fun (x : D × Cn) E (K : List D × St → Option α) => execN E Γ0 os ⟨s.fr.put o.dst x.1, upd s.Γ nm (some x.2)⟩ (acc ++ [x.1]) fun ds s => K (ds, s)) fun x => Qek Γ0 os _ _
        · simp only [hlt, if_false]
          exact CReach.const Reach.none
      · split
        · rename_i nm _
          split
          · exact CReach.then (CReach.const (Qgy o.op s.fr)) (g := fun (d : D) E (K : List D × St → Option α) => execN E Γ0 os ⟨s.fr.put none d, upd s.Γ nm (some (.box d))⟩ (acc ++ [d]) fun ds s => K (ds, s)) fun d => Qek Γ0 os _ _
          · exact CReach.const Reach.none
        · exact CReach.then (Qpn (fun E K => o.op.stepQ E s.fr s.Γ K) (Qz1 hEn o.op s.fr s.Γ)) (g := fun (d : D) E (K : List D × St → Option α) => execN E Γ0 os ⟨s.fr.put o.dst d, s.Γ⟩ (acc ++ [d]) fun ds s => K (ds, s)) fun d => Qek Γ0 os _ _
omit hEn in
theorem Qmz {r : α} : ∀ {l : List (Option α)}, l ≠ [] → (∀ a ∈ l, a = some r) → meets l = some r
  | [], h, _ => absurd rfl h
  | [a], _, h => h a (by simp)
  | a :: b :: l, _, h => by
    show meet a (meets (b :: l)) = some r
    rw [h a (by simp), Qmz (l := b :: l) (by simp) fun c hc => h c (List.mem_cons_of_mem _ hc)]
    exact Qmy _
omit hEn in
theorem Qmq {β : Type} {p : β → Nat → Prop} : ∀ {l : List β}, (∀ a ∈ l, ∃ n, ∀ m, n ≤ m → p a m) → ∃ n, ∀ m, n ≤ m → ∀ a ∈ l, p a m
  | [], _ => ⟨0, fun _ _ _ h => by cases h⟩
  | a :: l, h => by
    obtain ⟨n1, h1⟩ := h a (by simp)
    obtain ⟨n2, h2⟩ := Qmq (l := l) fun b hb => h b (by simp [hb])
    refine ⟨max n1 n2, fun m hm b hb => ?_⟩
    rcases List.mem_cons.1 hb with rfl | hb
    · exact h1 m (by omega)
    · exact h2 m (by omega) b hb
theorem Qi5 (T : List Nat) (prs : List (Nat × Nat)) (K : St → Option α) : ∀ (n : Nat) (rem : List (Nat × AOper)) (s : St) (r : α), execT E T prs n rem s K = some r → ∃ N, ∀ m, N ≤ m → execT (En m) T prs n rem s K = some r
  | 0, [], s, r, h => ⟨0, fun _ _ => h⟩
  | n + 1, [], s, r, h => ⟨0, fun _ _ => h⟩
  | 0, _ :: _, s, r, h => by cases h
  | n + 1, q0 :: rem, s, r, h => by
    simp only [execT] at h ⊢
    have hne : ((q0 :: rem).filter fun q => freeP prs (q0 :: rem) q.1) ≠ [] := fun e => by
      rw [e] at h
      cases h
    obtain ⟨N, hN⟩ := Qmq (l := (q0 :: rem).filter fun q => freeP prs (q0 :: rem) q.1) (p := fun q m => (if chainOK T s.fr q.2.op = true then q.2.exec false (En m) s fun s' => execT (En m) T prs n ((q0 :: rem).filter fun q2 => q2.1 != q.1) s' K else none) = some r) fun q hq => by
      have h1 := Qgl h _ (List.mem_map.2 ⟨q, hq, rfl⟩)
      by_cases hc : chainOK T s.fr q.2.op = true
      · simp only [hc, if_true] at h1 ⊢
        obtain ⟨x, h2, n1, h3⟩ := Qgo hEn false q.2 s _ r h1
        obtain ⟨n2, h4⟩ := Qi5 T prs K n _ x r h2
        exact ⟨max n1 n2, fun m hm => h3 m (by omega) _ (h4 m (by omega))⟩
      · simp only [hc, if_false] at h1
        cases h1
    refine ⟨N, fun m hm => Qmz (by simpa using hne) fun a ha => ?_⟩
    obtain ⟨q, hq, rfl⟩ := List.mem_map.1 ha
    exact hN m hm q hq
def CReach2 (En : Nat → Env) (E : Env) (f : Env → (Ex → St → Option α) → Option α) : Prop :=
  ∀ K r, f E K = some r → ∃ e s, K e s = some r ∧ ∃ n, ∀ m, n ≤ m → ∀ K', K' e s = some r → f (En m) K' = some r
theorem Qqy (c : AC) : ∀ s, CReach2 (α := α) En E (fun E K => exec E c s K) := by
  induction c with
  | skip => exact fun s K r h => ⟨_, _, h, 0, fun _ _ _ h => h⟩
  | exit id => exact fun s K r h => ⟨_, _, h, 0, fun _ _ _ h => h⟩
  | ret => exact fun s K r h => ⟨_, _, h, 0, fun _ _ _ h => h⟩
  | region dr ops =>
    intro s K r h
    obtain ⟨s', h1, n, h2⟩ := ((Qce (α := α) hEn true (ops.take dr) s).then fun s' => Qce hEn false (ops.drop dr) s') (K .normal) r h
    exact ⟨_, s', h1, n, fun m hm K' h => h2 m hm (K' .normal) h⟩
  | regC k T ops =>
    intro s K r h
    obtain ⟨fr, h1, n1, h2⟩ := Qf7 (α := α) hEn T s.Γ (stills (ops.take k)) (blank (stills (ops.take k)) s.fr) (fun fr => execC E T (chain (ops.take k)) ⟨fr, s.Γ⟩ fun s => execOps false E (ops.drop k) s (K .normal)) r h
    obtain ⟨s', h3, n2, h4⟩ := ((Qi3 (α := α) hEn T (chain (ops.take k)) ⟨fr, s.Γ⟩).then fun s => Qce hEn false (ops.drop k) s) (K .normal) r h1
    exact ⟨_, s', h3, max n1 n2, fun m hm K' h' => h2 m (by omega) (fun fr => execC (En m) T (chain (ops.take k)) ⟨fr, s.Γ⟩ fun s => execOps false (En m) (ops.drop k) s (K' .normal)) (h4 m (by omega) (K' .normal) h')⟩
  | regD k T prs slots names ops =>
    intro s K r h
    obtain ⟨p, h0, hd⟩ := Option.bind_eq_some_iff.1 h
    obtain ⟨fr, h1, n1, h2⟩ := Qf7 hEn T s.Γ (stills (ops.take k)) (blank (stills (ops.take k)) s.fr) (fun fr => execT E T prs k (chainI (ops.take k)) ⟨fr, s.Γ⟩ fun s' => some (packS slots names s')) p h0
    obtain ⟨n2, h4⟩ := Qi5 hEn T prs (fun s' => some (packS slots names s')) k (chainI (ops.take k)) ⟨fr, s.Γ⟩ p h1
    obtain ⟨s', h5, n3, h6⟩ := (Qce (α := α) hEn false (ops.drop k) (unpackS slots names p)) (K .normal) r hd
    refine ⟨_, s', h5, max n1 (max n2 n3), fun m hm K' h' => Option.bind_eq_some_iff.2 ⟨p, h2 m (by omega) (fun fr => execT (En m) T prs k (chainI (ops.take k)) ⟨fr, s.Γ⟩ fun s' => some (packS slots names s')) (h4 m (by omega)), h6 m (by omega) (K' .normal) h'⟩⟩
  | regN k N prs ps ops =>
    intro s K r h
    obtain ⟨x, h1, n1, h2⟩ := (Qek (α := α) hEn (forget N s).Γ (ops.take k) (forget N s) []) (fun x => if pairsB prs x.1 = true ∧ apartN N (evs x.2.fr ps) = true then execOps false E (ops.drop k) x.2 (K .normal) else none) r h
    split at h1
    rotate_left
    · cases h1
    rename_i hc
    obtain ⟨s', h3, n2, h4⟩ := (Qce (α := α) hEn false (ops.drop k) x.2) (K .normal) r h1
    exact ⟨_, s', h3, max n1 n2, fun m hm K' h' => h2 m (by omega) (fun x => if pairsB prs x.1 = true ∧ apartN N (evs x.2.fr ps) = true then execOps false (En m) (ops.drop k) x.2 (K' .normal) else none) (by rw [if_pos hc]; exact h4 m (by omega) (K' .normal) h')⟩
  | regI k ops c body more ihb ihm =>
    intro s K r h
    obtain ⟨s1, h1, n1, h2⟩ := ((Qce (α := α) hEn true (ops.take k) s).then fun s' => Qce hEn false (ops.drop k) s') (fun s => exec E body (c.enter s) (c.leave fun s => exec E more s K)) r h
    obtain ⟨e, s2, h3, n2, h4⟩ := ihb _ _ r h1
    obtain ⟨s3, h5, h6⟩ := Qms (α := α) c e s2 _ r h3
    obtain ⟨e2, s4, h7, n3, h8⟩ := ihm s3 K r h5
    exact ⟨e2, s4, h7, max n1 (max n2 n3), fun m hm K' hr => h2 m (by omega) (fun s => exec (En m) body (c.enter s) (c.leave fun s => exec (En m) more s K')) (h4 m (by omega) _ (h6 _ (h8 m (by omega) K' hr)))⟩
  | seq a b iha ihb =>
    intro s K r h
    obtain ⟨e, s', h1, n, h2⟩ := iha s _ r h
    cases e with
    | normal =>
      obtain ⟨e2, s2, h3, n', h4⟩ := ihb s' K r h1
      exact ⟨e2, s2, h3, max n n', fun m hm K' hr => h2 m (by omega) (seqK (fun s' => exec (En m) b s' K') K') (h4 m (by omega) K' hr)⟩
    | exit id => exact ⟨_, s', h1, n, fun m hm K' hr => h2 m hm (seqK (fun s' => exec (En m) b s' K') K') hr⟩
    | ret => exact ⟨_, s', h1, n, fun m hm K' hr => h2 m hm (seqK (fun s' => exec (En m) b s' K') K') hr⟩
  | cond x a b iha ihb =>
    intro s K r h
    simp only [exec] at h ⊢
    cases hx : x.ev s.fr with
    | val u =>
      simp only [hx] at h
      cases u with
      | bool t =>
        cases t with
        | true => exact iha s K r h
        | false => exact ihb s K r h
      | _ => cases h
    | _ => simp only [hx] at h; cases h
  | block id c ih =>
    intro s K r h
    obtain ⟨e, s', h1, n, h2⟩ := ih s _ r h
    cases e with
    | exit id' =>
      by_cases hid : id' = id
      · simp only [blockK, hid, if_true] at h1
        exact ⟨_, s', h1, n, fun m hm K' hr => h2 m hm (blockK id K') (by simp only [blockK, hid, if_true]; exact hr)⟩
      · simp only [blockK, hid, if_false] at h1
        exact ⟨_, s', h1, n, fun m hm K' hr => h2 m hm (blockK id K') (by simp only [blockK, hid, if_false]; exact hr)⟩
    | normal => exact ⟨_, s', h1, n, fun m hm K' hr => h2 m hm (blockK id K') hr⟩
    | ret => exact ⟨_, s', h1, n, fun m hm K' hr => h2 m hm (blockK id K') hr⟩
  | loopU n c ih =>
    intro s K r h
    have key : ∀ n s, iterU (fun s K => exec E c s K) K n s = some r → ∃ e s', K e s' = some r ∧ ∃ N, ∀ m, N ≤ m → ∀ K', K' e s' = some r → iterU (fun s K => exec (En m) c s K) K' n s = some r := by
      intro n
      induction n with
      | zero => intro s h; cases h
      | succ n ihn =>
        intro s h
        obtain ⟨e, s1, h1, N1, h2⟩ := ih _ _ _ h
        cases e with
        | normal =>
          obtain ⟨e2, s2, h3, N2, h4⟩ := ihn s1 h1
          exact ⟨e2, s2, h3, max N1 N2, fun m hm K' hr => h2 m (by omega) (seqK (iterU (fun s K => exec (En m) c s K) K' n) K') (h4 m (by omega) K' hr)⟩
        | exit id => exact ⟨_, s1, h1, N1, fun m hm K' hr => h2 m hm (seqK (iterU (fun s K => exec (En m) c s K) K' n) K') hr⟩
        | ret => exact ⟨_, s1, h1, N1, fun m hm K' hr => h2 m hm (seqK (iterU (fun s K => exec (En m) c s K) K' n) K') hr⟩
    exact key n s h
  | loop l c ih =>
    intro s K r h
    have e1 : ∀ (E : Env) (K : Ex → St → Option α), exec E (.loop l c) s K = (packO l s).bind (loopK (roundOf E l c K)) := fun _ _ => Qaw _ _ _
    replace h := (e1 E K).symm.trans h
    cases hp : packO l s with
    | none => rw [hp] at h; cases h
    | some p =>
      rw [hp] at h
      obtain ⟨n, hn⟩ := (Qbw (Qck E (Qbs E c) l K) p r).1 h
      have key : ∀ n p, loopN (roundOf E l c K) n p = some r → ∃ e s', K e s' = some r ∧ ∃ N, ∀ m, N ≤ m → ∀ K', K' e s' = some r → ∃ j, loopN (roundOf (En m) l c K') j p = some r := by
        intro n
        induction n with
        | zero => intro p h; cases h
        | succ n ihn =>
          intro p h
          obtain ⟨e, s1, h1, N1, h2⟩ := ih _ _ _ h
          cases e with
          | normal =>
            simp only [roundK, Qaw] at h1
            cases hq : packO l s1 with
            | none => rw [hq] at h1; cases h1
            | some q =>
              rw [hq] at h1
              obtain ⟨e2, s2, h3, N2, h4⟩ := ihn q h1
              refine ⟨e2, s2, h3, max N1 N2, fun m hm K' hr => ?_⟩
              obtain ⟨j, hj⟩ := h4 m (by omega) K' hr
              exact ⟨j + 1, h2 m (by omega) (roundK l (loopN (roundOf (En m) l c K') j) K') (by simp only [roundK, Qaw, hq]; exact hj)⟩
          | exit id => exact ⟨_, s1, h1, N1, fun m hm K' hr => ⟨1, h2 m hm (roundK l (loopN (roundOf (En m) l c K') 0) K') hr⟩⟩
          | ret => exact ⟨_, s1, h1, N1, fun m hm K' hr => ⟨1, h2 m hm (roundK l (loopN (roundOf (En m) l c K') 0) K') hr⟩⟩
      obtain ⟨e, s', h3, N, h4⟩ := key n p hn
      refine ⟨e, s', h3, N, fun m hm K' hr => ?_⟩
      obtain ⟨j, hj⟩ := h4 m hm K' hr
      show exec (En m) (.loop l c) s K' = some r
      rw [e1, hp]
      exact (Qbw (Qck (En m) (Qbs (En m) c) l K') p r).2 ⟨j, hj⟩
theorem Qn9 {q : Nat} {c : AC} {rs : List (Nat × Option (Bool × Nat))} {us : List U} {u : U} (h : runQ q E c rs us = some u) : ∃ n, ∀ m, n ≤ m → runQ q (En m) c rs us = some u := by
  obtain ⟨⟨st, fin⟩, hs, h⟩ := Option.bind_eq_some_iff.1 h
  obtain ⟨e, s, h1, n, h2⟩ := Qqy hEn c st fin u h
  exact ⟨n, fun m hm => by unfold runQ; rw [hs]; exact h2 m hm _ h1⟩
end
section
variable {E0 : Env} {tbl : Nat → Option Fn}
theorem Qof {E E' : Env} (h : EnvLe E E') {q : Nat} {c : AC} {rs : List (Nat × Option (Bool × Nat))} {us : List U} {u : U} (hr : runQ q E c rs us = some u) : runQ q E' c rs us = some u := by
  obtain ⟨n, hn⟩ := Qn9 (En := fun _ => E') (E := E) (fun q us u hu => ⟨0, fun _ _ => h q us u hu⟩) hr
  exact hn n (Nat.le_refl _)
theorem Qqm (n : Nat) : EnvLe (EnvN E0 tbl n) (EnvN E0 tbl (n + 1)) := by
  induction n with
  | zero =>
    intro q us u h
    simp only [EnvN] at h ⊢
    split at h
    · cases h
    · exact h
  | succ n ih =>
    intro q us u h
    rw [EnvN] at h ⊢
    split at h
    · split at h
      · rename_i f hf hl
        rw [if_pos hl]
        exact Qof ih h
      · cases h
    · exact h
theorem Qf2 {n m : Nat} (h : n ≤ m) : EnvLe (EnvN E0 tbl n) (EnvN E0 tbl m) := by
  induction h with
  | refl => exact fun _ _ _ h => h
  | step _ ih => exact fun q us u h => Qqm _ q us u (ih q us u h)
open Classical in
noncomputable def EnvW (E0 : Env) (tbl : Nat → Option Fn) : Env := fun q us => if h : ∃ n u, EnvN E0 tbl n q us = some u then some h.choose_spec.choose else none
theorem Qb7 {q : Nat} {us : List U} {u : U} : EnvW E0 tbl q us = some u ↔ ∃ n, EnvN E0 tbl n q us = some u := by
  unfold EnvW
  split
  · rename_i h
    have h2 := h.choose_spec.choose_spec
    constructor
    · intro e
      cases e
      exact ⟨_, h2⟩
    · rintro ⟨n, hn⟩
      have a1 := Qf2 (Nat.le_max_left n h.choose) q us u hn
      have a2 := Qf2 (Nat.le_max_right n h.choose) q us _ h2
      rw [a1] at a2
      exact a2.symm
  · rename_i h
    constructor
    · intro e; cases e
    · rintro ⟨n, hn⟩; exact absurd ⟨n, u, hn⟩ h
theorem Qqo : ∀ q us u, EnvW E0 tbl q us = some u → ∃ n, ∀ m, n ≤ m → EnvN E0 tbl m q us = some u := fun q us u h => by
  obtain ⟨n, hn⟩ := Qb7.1 h
  exact ⟨n, fun m hm => Qf2 hm q us u hn⟩
theorem Qqn {q : Nat} {f : Fn} (hf : tbl q = some f) {us : List U} (hl : us.length = f.np) : EnvW E0 tbl q us = runQ q (EnvW E0 tbl) f.ac f.rs us := by
  have key : ∀ u, EnvW E0 tbl q us = some u ↔ runQ q (EnvW E0 tbl) f.ac f.rs us = some u := fun u => by
    constructor
    · intro h
      obtain ⟨n, hn⟩ := Qb7.1 h
      cases n with
      | zero => simp only [EnvN, hf] at hn; cases hn
      | succ n =>
        rw [Qi0 hf hl] at hn
        exact Qof (fun q us u h => Qb7.2 ⟨n, h⟩) hn
    · intro h
      obtain ⟨n, hn⟩ := Qn9 (En := EnvN E0 tbl) Qqo h
      exact Qb7.2 ⟨n + 1, by rw [Qi0 hf hl]; exact hn n (Nat.le_refl _)⟩
  cases h1 : EnvW E0 tbl q us with
  | some u => exact ((key u).1 h1).symm
  | none =>
    cases h2 : runQ q (EnvW E0 tbl) f.ac f.rs us with
    | none => rfl
    | some u => rw [(key u).2 h2] at h1; cases h1
theorem Qmf {P : Program} {ρ : Nat → FuncId} (ht : TblOK P ρ tbl) (hp : P.follows .mixedOrders = true) (h0 : Good P ρ E0) : Good P ρ (EnvW E0 tbl) := fun q us u h => by
  obtain ⟨n, hn⟩ := Qb7.1 h
  exact Qme ht hp h0 n q us u hn
end
theorem Qf3 {E0 : Env} {tbl : Nat → Option Fn} {q : Nat} (hf : tbl q = none) (us : List U) : EnvW E0 tbl q us = E0 q us := by
  have key : ∀ n, EnvN E0 tbl n q us = E0 q us := fun n => by cases n <;> simp only [EnvN, hf]
  cases h1 : EnvW E0 tbl q us with
  | some u =>
    obtain ⟨n, hn⟩ := Qb7.1 h1
    rw [← key n, hn]
  | none =>
    cases h2 : E0 q us with
    | none => rfl
    | some u => rw [Qb7.2 ⟨0, (key 0).trans h2⟩] at h1; cases h1
def Is (E : Env) (q np : Nat) (ac : AC) (rs : List (Nat × Option (Bool × Nat))) : Prop := ∀ us : List U, us.length = np → E q us = runQ q E ac rs us
theorem is_W {E0 : Env} {tbl : Nat → Option Fn} {q np : Nat} {ac : AC} {rs : List (Nat × Option (Bool × Nat))} (h : tbl q = some ⟨np, ac, rs⟩) : Is (EnvW E0 tbl) q np ac rs := fun _ hl => Qqn h hl
abbrev oo (d : Nat) (x : AOp) : AOper := ⟨some d, x, none⟩
abbrev rg (l : List AOper) : AC := .region 0 l
abbrev ci (n : Int) : Opd := .c (.int .i64 n)
end Go.Proofs.Ytboenehajoaahaa.Am
