import Derived.Test.YtmdnjglkdddaeaaGreatSafeEntryP0
import Derived.Test.YtmdnjglkdddaeaaGreatSafeEntryF0
import Derived.Test.YtmdnjglkdddaeaaGreatSafeEntryF1
namespace Go.Proofs.YtmdnjglkdddaeaaGreat.Am
open Go
variable {E : Env}
set_option linter.unusedVariables false
def locks1 (p : Option Lock) (w : Lock) : Bool := inR w.key 0 5 && inR w.owner 1 9 && (match p with | none => true | some q => decide (q.key < w.key))
def locksFrom : Option Lock → List Lock → Bool
  | _, [] => true
  | p, w :: r => locks1 p w && locksFrom (some w) r
def waits1 (p : Option Wait) (w : Wait) : Bool := inR w.id 1 9 && inR w.for_ 1 9 && !decide (w.id = w.for_) && (match p with | none => true | some q => decide (q.id < w.id))
def waitsFrom : Option Wait → List Wait → Bool
  | _, [] => true
  | p, w :: r => waits1 p w && waitsFrom (some w) r
theorem neg_le (a b : Int) : (!decide (b ≤ a)) = decide (a < b) := by rw [← decide_not]; congr 1; simp only [eq_iff_iff]; omega
theorem f3_l0_is (h : G_f3 E) (l : List Lock) (hl : l.length ≤ 1048576) : ∀ (r p : List Lock) (i : Int), l = p ++ r → i = p.length →
    f3_l0 E (.sl 2 (l.map Lock.u)) (.sl 2 (l.map Lock.u)) (.int .i64 l.length) (.int .i64 i) = some (.bool (locksFrom p.getLast? r))
  | [], p, i, e, hi => by
    rw [f3_l0_eq]
    simp [mid_end e hi, locksFrom]
  | x :: r, p, i, e, hi => by
    obtain ⟨h0, hlt, hx, hw, hn, _⟩ := mid_at e hi (by omega)
    have ih := f3_l0_is h l hl r (p ++ [x]) (i + 1) (mid_next e) hn
    rw [List.getLast?_concat] at ih
    rw [f3_l0_eq]
    by_cases hp : p = []
    · have hi0 : ¬ 0 < i := by subst hp; simp at hi; omega
      simp [h0, hlt, hx, hw, ih, f38_is h.c_f38, f37_is h.c_f37, hi0, hp, ite_f, locksFrom, locks1, Bool.and_assoc]
    · obtain ⟨q, j, hq, hpos, hw1, h1, hq1, _⟩ := mid_last e hi (by omega) hp
      simp [h0, hlt, hx, hw, ih, f38_is h.c_f38, f37_is h.c_f37, hpos, hq, hw1, hq1, ite_f, ite_n, locksFrom, locks1, Bool.and_assoc, neg_le]
theorem f3_is (h : G_f3 E) (l : List Lock) (hl : l.length ≤ 1048576) : E 150 [.sl 2 (l.map Lock.u)] = some (.bool (locksFrom none l)) := by
  rw [f3_E h]
  simp [f3_l0_is h l hl l [] 0 rfl rfl]
theorem f116_l0_is (h : G_f116 E) (l : List Lock) (hl : l.length ≤ 1048576) : ∀ (r p : List Lock) (i : Int), l = p ++ r → i = p.length →
    f116_l0 E (.sl 2 (l.map Lock.u)) (.int .i64 i) = some (.bool (locksFrom p.getLast? r))
  | [], p, i, e, hi => by
    rw [f116_l0_eq]
    simp [mid_end e hi, locksFrom]
  | x :: r, p, i, e, hi => by
    obtain ⟨h0, hlt, hx, hw, hn, _⟩ := mid_at e hi (by omega)
    have ih := f116_l0_is h l hl r (p ++ [x]) (i + 1) (mid_next e) hn
    rw [List.getLast?_concat] at ih
    rw [f116_l0_eq]
    by_cases hp : p = []
    · have hi0 : ¬ 0 < i := by subst hp; simp at hi; omega
      simp [h0, hlt, hx, hw, ih, f136_is h.c_f136, hi0, hp, ite_f, locksFrom, locks1, Bool.and_assoc]
    · obtain ⟨q, j, hq, hpos, hw1, h1, hq1, _⟩ := mid_last e hi (by omega) hp
      simp [h0, hlt, hx, hw, ih, f136_is h.c_f136, hpos, hq, hw1, hq1, ite_f, ite_n, locksFrom, locks1, Bool.and_assoc, neg_le]
theorem f116_is (h : G_f116 E) (l : List Lock) (hl : l.length ≤ 1048576) : E 137 [.sl 2 (l.map Lock.u)] = some (.bool (locksFrom none l)) := by
  rw [f116_E h]
  simp [f116_l0_is h l hl l [] 0 rfl rfl]
theorem f4_l0_is (h : G_f4 E) (l : List Wait) (hl : l.length ≤ 1048576) : ∀ (r p : List Wait) (i : Int), l = p ++ r → i = p.length →
    f4_l0 E (.sl 2 (l.map Wait.u)) (.sl 2 (l.map Wait.u)) (.int .i64 l.length) (.int .i64 i) = some (.bool (waitsFrom p.getLast? r))
  | [], p, i, e, hi => by
    rw [f4_l0_eq]
    simp [mid_end e hi, waitsFrom]
  | x :: r, p, i, e, hi => by
    obtain ⟨h0, hlt, hx, hw, hn, _⟩ := mid_at e hi (by omega)
    have ih := f4_l0_is h l hl r (p ++ [x]) (i + 1) (mid_next e) hn
    rw [List.getLast?_concat] at ih
    rw [f4_l0_eq]
    by_cases hp : p = []
    · have hi0 : ¬ 0 < i := by subst hp; simp at hi; omega
      simp [h0, hlt, hx, hw, ih, f37_is h.c_f37, hi0, hp, ite_f, ite_n, waitsFrom, waits1, Bool.and_assoc]
    · obtain ⟨q, j, hq, hpos, hw1, h1, hq1, _⟩ := mid_last e hi (by omega) hp
      simp [h0, hlt, hx, hw, ih, f37_is h.c_f37, hpos, hq, hw1, hq1, ite_f, ite_n, waitsFrom, waits1, Bool.and_assoc, neg_le]
theorem f4_is (h : G_f4 E) (l : List Wait) (hl : l.length ≤ 1048576) : E 151 [.sl 2 (l.map Wait.u)] = some (.bool (waitsFrom none l)) := by
  rw [f4_E h]
  simp [f4_l0_is h l hl l [] 0 rfl rfl]
theorem f117_l0_is (h : G_f117 E) (l : List Wait) (hl : l.length ≤ 1048576) : ∀ (r p : List Wait) (i : Int), l = p ++ r → i = p.length →
    f117_l0 E (.sl 2 (l.map Wait.u)) (.int .i64 i) = some (.bool (waitsFrom p.getLast? r))
  | [], p, i, e, hi => by
    rw [f117_l0_eq]
    simp [mid_end e hi, waitsFrom]
  | x :: r, p, i, e, hi => by
    obtain ⟨h0, hlt, hx, hw, hn, _⟩ := mid_at e hi (by omega)
    have ih := f117_l0_is h l hl r (p ++ [x]) (i + 1) (mid_next e) hn
    rw [List.getLast?_concat] at ih
    rw [f117_l0_eq]
    by_cases hp : p = []
    · have hi0 : ¬ 0 < i := by subst hp; simp at hi; omega
      simp [h0, hlt, hx, hw, ih, f136_is h.c_f136, hi0, hp, ite_f, ite_n, waitsFrom, waits1, Bool.and_assoc]
    · obtain ⟨q, j, hq, hpos, hw1, h1, hq1, _⟩ := mid_last e hi (by omega) hp
      simp [h0, hlt, hx, hw, ih, f136_is h.c_f136, hpos, hq, hw1, hq1, ite_f, ite_n, waitsFrom, waits1, Bool.and_assoc, neg_le]
theorem f117_is (h : G_f117 E) (l : List Wait) (hl : l.length ≤ 1048576) : E 138 [.sl 2 (l.map Wait.u)] = some (.bool (waitsFrom none l)) := by
  rw [f117_E h]
  simp [f117_l0_is h l hl l [] 0 rfl rfl]
def hasID (c : Int) (t : Transaction) : Bool := decide (t.id = c)
theorem f11_is (h : G_f11 E) (t : Transaction) (c : Int) : E 171 [t.u, .vp (.int .i64 c)] = some (.bool (hasID c t)) := by
  rw [f11_E h]; simp [hasID]
theorem f10_is (h : G_f10 E) (e : Engine) (ho : e.ok) (c : Int) : E 170 [e.u, .int .i64 c] = some (.int .i64 (idxF (hasID c) e.transactions 0)) := by
  rw [f10_E h]
  have := f114_is h.c_f114 e.transactions (by have := ho.2.1; omega) 171 [.vp (.int .i64 c)] (hasID c) (fun t _ => f11_is h.c_f11 t c)
  simp [this]
theorem f118_l0_is (e : Engine) (ho : e.ok) (c : Int) : ∀ (r p : List Transaction) (i : Int), e.transactions = p ++ r → i = p.length →
    f118_l0 E (.int .i64 c) (.int .i64 i) e.u = some (.int .i64 (idxF (hasID c) r i))
  | [], p, i, el, hi => by
    rw [f118_l0_eq]
    simp [mid_end el hi, idxF]
  | x :: r, p, i, el, hi => by
    obtain ⟨h0, hlt, hx, hw, hn, _⟩ := mid_at el hi (by have := ho.2.1; omega)
    have ih := f118_l0_is e ho c r (p ++ [x]) (i + 1) (mid_next el) hn
    rw [f118_l0_eq]
    by_cases h1 : x.id = c <;> simp [hlt, hx, hw, ih, h1, idxF, hasID]
theorem f118_is (h : G_f118 E) (e : Engine) (ho : e.ok) (c : Int) : E 141 [e.u, .int .i64 c] = some (.int .i64 (idxF (hasID c) e.transactions 0)) := by
  rw [f118_E h]
  simp [f118_l0_is e ho c e.transactions [] 0 rfl rfl]
def Engine.tx (e : Engine) (c : Int) : Option Transaction := e.transactions.find? (hasID c)
theorem find_idx {α : Type} (P : α → Bool) (l : List α) (hl : l.length ≤ 9223372036854775807) : (l.find? P = none ∧ idxF P l 0 = -1) ∨
    ∃ x j, l.find? P = some x ∧ x ∈ l ∧ P x = true ∧ idxF P l 0 = j ∧ (0 ≤ j) ∧ j < l.length ∧ ∀ {γ : Type} (k : Nat) (f : α → U) (K : U → Option γ), U.elemAt k (.sl k (l.map f)) j K = K (f x) := by
  rcases idxF_cases P l 0 with ⟨e1, e2⟩ | ⟨p, x, r, e1, e2, e3, e4⟩
  · exact Or.inl ⟨by simpa using e2, e1⟩
  · refine Or.inr ⟨x, 0 + p.length, ?_, by rw [e1]; simp, e3, e2, by omega, by rw [e1]; simp; omega, fun k f K => ?_⟩
    · rw [e1, List.find?_append]
      have : p.find? P = none := by simpa using e4
      rw [this]; simp [e3]
    · exact elemAt_get f (by omega) (by rw [e1]; have : ((0 : Int) + p.length).toNat = p.length := by omega
                                        rw [this]; simp) K
def Engine.active (e : Engine) (c : Int) : Bool := match e.tx c with | none => false | some t => decide (t.state = 1)
theorem impl_isActive_is (h : G_f7 E) (e : Engine) (ho : e.ok) (c : Int) : E 169 [e.u, .int .i64 c] = some (.bool (e.active c)) := by
  rw [f7_E h]
  have hf := f10_is h.c_f10 e ho c
  rcases find_idx (hasID c) e.transactions (by have := ho.2.1; omega) with ⟨e1, e2⟩ | ⟨x, j, e1, e2, e3, e4, e5, e6, e7⟩
  · rw [e2] at hf
    simp [hf, Engine.active, Engine.tx, e1]
  · rw [e4] at hf
    simp [hf, Engine.active, Engine.tx, e1, e5, e7]
theorem spec_active_is (h : G_f135 E) (e : Engine) (ho : e.ok) (c : Int) : E 135 [e.u, .int .i64 c] = some (.bool (e.active c)) := by
  rw [f135_E h]
  have hf := f118_is h.c_f118 e ho c
  rcases find_idx (hasID c) e.transactions (by have := ho.2.1; omega) with ⟨e1, e2⟩ | ⟨x, j, e1, e2, e3, e4, e5, e6, e7⟩
  · rw [e2] at hf
    simp [hf, Engine.active, Engine.tx, e1]
  · rw [e4] at hf
    simp [hf, Engine.active, Engine.tx, e1, e5, e7]
def txs1 (e : Engine) (p : Option Transaction) (t : Transaction) : Bool :=
  t.valid && ((match p with | none => true | some q => decide (q.id < t.id)) && (decide (t.begin_ ≤ e.stamp) && (decide (t.commit ≤ e.stamp) && (if t.state = 1 then marksExist e.store t.reads else true))))
def txsFrom (e : Engine) : Option Transaction → List Transaction → Bool
  | _, [] => true
  | p, t :: r => txs1 e p t && txsFrom e (some t) r
def Engine.holds (e : Engine) : Bool := e.locks.all (fun w => e.active w.owner) && e.waits.all (fun w => e.active w.id && e.active w.for_)
def Engine.valid (e : Engine) : Bool :=
  e.store.valid && (locksFrom none e.locks && (waitsFrom none e.waits && (inR e.stamp e.store.last 999 && (txsFrom e none e.transactions && decide (e.transactions.length ≤ 6) && e.holds))))
theorem neg_lt (a b : Int) : (!decide (b < a)) = decide (a ≤ b) := by rw [← decide_not]; congr 1; simp only [eq_iff_iff]; omega
theorem impl_areTransactions_l0_is (h : G_f5 E) (e : Engine) (ho : e.ok) (hv : e.store.valid = true) : ∀ (r p : List Transaction) (i : Int), e.transactions = p ++ r → i = p.length →
    f5_l0 E (.sl 9 (e.transactions.map Transaction.u)) (.int .i64 e.transactions.length) (.int .i64 i) e.u = some (.bool (txsFrom e p.getLast? r && decide (e.transactions.length ≤ 6)))
  | [], p, i, el, hi => by
    have h1 : decide ((e.transactions.length : Int) ≤ 6) = decide (e.transactions.length ≤ 6) := by congr 1; simp only [eq_iff_iff]; omega
    rw [f5_l0_eq]
    simp [mid_end el hi, txsFrom, h1]
  | t :: r, p, i, el, hi => by
    obtain ⟨h0, hlt, hx, hw, hn, _⟩ := mid_at el hi (by have := ho.2.1; omega)
    have ih := impl_areTransactions_l0_is h e ho hv r (p ++ [t]) (i + 1) (mid_next el) hn
    rw [List.getLast?_concat] at ih
    have hto : t.ok := ho.2.2.1 t (by rw [el]; simp)
    have v := f21_is h.c_f21 t hto
    rw [f5_l0_eq]
    cases tv : t.valid
    · simp [hlt, hx, hw, v, tv, txsFrom, txs1]
    have m := impl_readsExist_is h.c_f30 e.store ho.1 hv t.reads hto.1 (valid_keys tv)
    by_cases hp : p = []
    · have hi0 : ¬ 0 < i := by subst hp; simp at hi; omega
      by_cases hs : t.state = 1 <;>
      simp [h0, hlt, hx, hw, ih, v, tv, m, hi0, hp, hs, ite_f, ite_n, txsFrom, txs1, Bool.and_assoc, neg_lt]
    · obtain ⟨q, j, hq, hpos, hw1, h1, hq1, _⟩ := mid_last el hi (by have := ho.2.1; omega) hp
      by_cases hs : t.state = 1 <;>
      simp [h0, hlt, hx, hw, ih, v, tv, m, hpos, hq, hw1, hq1, hs, ite_f, ite_n, txsFrom, txs1, Bool.and_assoc, neg_lt, neg_le]
theorem impl_areTransactions_is (h : G_f5 E) (e : Engine) (ho : e.ok) (hv : e.store.valid = true) :
    E 153 [e.u] = some (.bool (txsFrom e none e.transactions && decide (e.transactions.length ≤ 6))) := by
  rw [f5_E h]
  simp [impl_areTransactions_l0_is h e ho hv e.transactions [] 0 rfl rfl]
theorem f17_is (h : G_f17 E) (e : Engine) (ho : e.ok) (w : Lock) : E 154 [w.u, .vp e.u] = some (.bool (!e.active w.owner)) := by
  rw [f17_E h]
  simp [impl_isActive_is h.c_f7 e ho]
theorem f18_is (h : G_f18 E) (e : Engine) (ho : e.ok) (w : Wait) : E 156 [w.u, .vp e.u] = some (.bool (!(e.active w.id && e.active w.for_))) := by
  rw [f18_E h]
  simp [impl_isActive_is h.c_f7 e ho]
  cases e.active w.id <;> simp
theorem not_any {α : Type} (l : List α) (P : α → Bool) : (!l.any fun m => !P m) = l.all P := by
  rw [List.not_any_eq_all_not]; simp
theorem f16_is (h : G_f16 E) (e : Engine) (ho : e.ok) : E 148 [e.u] = some (.bool e.valid) := by
  rw [f16_E h]
  have s1 := f19_is h.c_f19 e.store ho.1
  have s2 := f3_is h.c_f3 e.locks ho.2.2.2.1
  have s3 := f4_is h.c_f4 e.waits ho.2.2.2.2
  have s4 := impl_lastStamp_is h.c_f29 e.store ho.1
  have s5 := f107_is h.c_f107 e.locks (by have := ho.2.2.2.1; omega) 154 [.vp e.u] (fun w => !e.active w.owner) (fun w _ => f17_is h.c_f17 e ho w)
  have s6 := f108_is h.c_f108 e.waits (by have := ho.2.2.2.2; omega) 156 [.vp e.u] (fun w => !(e.active w.id && e.active w.for_)) (fun w _ => f18_is h.c_f18 e ho w)
  have n5 := not_any e.locks (fun w => e.active w.owner)
  have n6 := not_any e.waits (fun w => e.active w.id && e.active w.for_)
  cases hv : e.store.valid
  · simp [s1, hv, Engine.valid]
  have s7 := impl_areTransactions_is h.c_f5 e ho hv
  simp [s1, s2, s3, s4, s5, s6, s7, hv, f36_is h.c_f36, Engine.valid, Engine.holds, ite_t, -List.any_eq_true, -List.all_eq_true, n5, n6, -Bool.not_and, Bool.and_assoc]
  cases locksFrom none e.locks <;> cases waitsFrom none e.waits <;> cases inR e.stamp e.store.last 999 <;> cases txsFrom e none e.transactions <;> by_cases hz : e.transactions.length ≤ 6 <;> simp [hz, -List.any_eq_true, -List.all_eq_true]
theorem spec_IsVE_l0_is (h : G_f122 E) (e : Engine) (ho : e.ok) : ∀ (r p : List Wait) (i : Int), e.waits = p ++ r → i = p.length →
    f122_l0 E (.int .i64 i) e.u = some (.bool (r.all fun w => e.active w.id && e.active w.for_))
  | [], p, i, el, hi => by
    rw [f122_l0_eq]
    simp [mid_end el hi]
  | x :: r, p, i, el, hi => by
    obtain ⟨h0, hlt, hx, hw, hn, _⟩ := mid_at el hi (by have := ho.2.2.2.2; omega)
    have ih := spec_IsVE_l0_is h e ho r (p ++ [x]) (i + 1) (mid_next el) hn
    rw [f122_l0_eq]
    simp [hlt, hx, hw, ih, spec_active_is h.c_f135 e ho, ite_f, Bool.and_assoc, -List.all_eq_true]
theorem spec_IsVE_l1_is (h : G_f122 E) (e : Engine) (ho : e.ok) : ∀ (r p : List Lock) (i : Int), e.locks = p ++ r → i = p.length →
    f122_l1 E (.int .i64 i) e.u = some (.bool (r.all (fun w => e.active w.owner) && e.waits.all fun w => e.active w.id && e.active w.for_))
  | [], p, i, el, hi => by
    rw [f122_l1_eq]
    simp [mid_end el hi, spec_IsVE_l0_is h e ho e.waits [] 0 rfl rfl, -List.all_eq_true]
  | x :: r, p, i, el, hi => by
    obtain ⟨h0, hlt, hx, hw, hn, _⟩ := mid_at el hi (by have := ho.2.2.2.1; omega)
    have ih := spec_IsVE_l1_is h e ho r (p ++ [x]) (i + 1) (mid_next el) hn
    rw [f122_l1_eq]
    simp [hlt, hx, hw, ih, spec_active_is h.c_f135 e ho, ite_f, Bool.and_assoc, -List.all_eq_true]
theorem spec_IsVE_l2_is (h : G_f122 E) (e : Engine) (ho : e.ok) (hv : e.store.valid = true) : ∀ (r p : List Transaction) (i : Int), e.transactions = p ++ r → i = p.length →
    f122_l2 E (.int .i64 i) e.u = some (.bool (txsFrom e p.getLast? r && e.holds))
  | [], p, i, el, hi => by
    rw [f122_l2_eq]
    simp [mid_end el hi, txsFrom, spec_IsVE_l1_is h e ho e.locks [] 0 rfl rfl, Engine.holds, -List.all_eq_true]
  | t :: r, p, i, el, hi => by
    obtain ⟨h0, hlt, hx, hw, hn, _⟩ := mid_at el hi (by have := ho.2.1; omega)
    have ih := spec_IsVE_l2_is h e ho hv r (p ++ [t]) (i + 1) (mid_next el) hn
    rw [List.getLast?_concat] at ih
    have hto : t.ok := ho.2.2.1 t (by rw [el]; simp)
    have v := f124_is h.c_f124 t hto
    rw [f122_l2_eq]
    cases tv : t.valid
    · simp [hlt, hx, hw, v, tv, txsFrom, txs1]
    have m := f129_is h.c_f129 e.store ho.1 t hto
    simp only [hv, tv, Bool.true_and] at m
    by_cases hp : p = []
    · have hi0 : ¬ 0 < i := by subst hp; simp at hi; omega
      by_cases hs : t.state = 1 <;>
      simp [h0, hlt, hx, hw, ih, v, tv, m, hi0, hp, hs, ite_f, ite_n, txsFrom, txs1, Bool.and_assoc, neg_lt]
    · obtain ⟨q, j, hq, hpos, hw1, h1, hq1, _⟩ := mid_last el hi (by have := ho.2.1; omega) hp
      by_cases hs : t.state = 1 <;>
      simp [h0, hlt, hx, hw, ih, v, tv, m, hpos, hq, hw1, hq1, hs, ite_f, ite_n, txsFrom, txs1, Bool.and_assoc, neg_lt, neg_le]
theorem f122_is (h : G_f122 E) (e : Engine) (ho : e.ok) : E 133 [e.u] = some (.bool e.valid) := by
  rw [f122_E h]
  have s1 := f123_is h.c_f123 e.store ho.1
  have s2 := f116_is h.c_f116 e.locks ho.2.2.2.1
  have s3 := f117_is h.c_f117 e.waits ho.2.2.2.2
  cases hv : e.store.valid
  · simp [s1, hv, Engine.valid]
  have s4 := f126_is h.c_f126 e.store ho.1 hv
  have s5 := spec_IsVE_l2_is h e ho hv e.transactions [] 0 rfl rfl
  have h1 : (!decide (6 < (e.transactions.length : Int))) = decide (e.transactions.length ≤ 6) := by rw [← decide_not]; congr 1; simp only [eq_iff_iff]; omega
  simp [s1, s2, s3, s4, s5, hv, f136_is h.c_f136, Engine.valid, ite_f, ite_n, h1]
  intros
  simp [Bool.and_assoc, Bool.and_comm, Bool.and_left_comm]
def mn (a b : Int) : Int := if b < a then b else a
def high1 (s : Store) (a : Int) (m : ReadMark) : Int := match (s.chain m.key).find? (isAt m.created) with | none => a | some v => mn a v.successor
def refreshHigh (s : Store) (l : List ReadMark) : Int := l.foldl (high1 s) 1000
theorem exist_find {s : Store} {m : ReadMark} (h : hasMark s m = true) : ∃ v, (s.chain m.key).find? (isAt m.created) = some v := by
  unfold hasMark at h
  rw [← find_any] at h
  exact Option.isSome_iff_exists.1 h
theorem impl_refreshHigh_l0_is (h : G_f32 E) (s : Store) (ho : s.ok) (hv : s.valid = true) (l : List ReadMark) (hl : l.length ≤ 1048576) (hk : KeysOK l) (hm : ∀ m ∈ l, hasMark s m = true) : ∀ (r p : List ReadMark) (i a : Int), l = p ++ r → i = p.length →
    f32_l0 E (.int .i64 a) (.sl 2 (l.map ReadMark.u)) (.int .i64 l.length) (.int .i64 i) s.u = some (.int .i64 (r.foldl (high1 s) a))
  | [], p, i, a, e, hi => by
    rw [f32_l0_eq]
    simp [mid_end e hi]
  | m :: r, p, i, a, e, hi => by
    obtain ⟨h0, hlt, hx, hw, hn, _⟩ := mid_at e hi (by omega)
    have hmem : m ∈ l := by rw [e]; simp
    obtain ⟨v, hf⟩ := exist_find (hm m hmem)
    have hfi := impl_find_is h.c_f28 s ho hv m (hk m hmem).1 (hk m hmem).2
    rw [hf] at hfi
    have ih := impl_refreshHigh_l0_is h s ho hv l hl hk hm r (p ++ [m]) (i + 1) (mn a v.successor) (mid_next e) hn
    rw [f32_l0_eq]
    simp only [mn] at ih
    simp [hlt, hx, hw, hfi, ih, high1, hf, mn]
theorem impl_refreshHigh_is (h : G_f32 E) (s : Store) (ho : s.ok) (hv : s.valid = true) (t : Transaction) (ht : t.ok) (hk : KeysOK t.reads) (hm : marksExist s t.reads = true) :
    E 186 [s.u, t.u] = some (.int .i64 (refreshHigh s t.reads)) := by
  rw [f32_E h]
  simp [impl_refreshHigh_l0_is h s ho hv t.reads ht.1 hk (by simpa [marksExist] using hm) t.reads [] 0 1000 rfl rfl, refreshHigh]
theorem f130_l0_is (h : G_f130 E) (s : Store) (ho : s.ok) (hv : s.valid = true) (t : Transaction) (ht : t.ok) (hk : KeysOK t.reads) (hm : ∀ m ∈ t.reads, hasMark s m = true) : ∀ (r p : List ReadMark) (i a : Int), t.reads = p ++ r → i = p.length →
    f130_l0 E (.int .i64 a) (.int .i64 i) s.u t.u = some (.int .i64 (r.foldl (high1 s) a))
  | [], p, i, a, e, hi => by
    rw [f130_l0_eq]
    simp [mid_end e hi]
  | m :: r, p, i, a, e, hi => by
    obtain ⟨h0, hlt, hx, hw, hn, _⟩ := mid_at e hi (by have := ht.1; omega)
    have hmem : m ∈ t.reads := by rw [e]; simp
    have hkk := hk m hmem
    have hc : chainOk (s.chain m.key) := ho.2 _ (chain_get hv hkk.1 hkk.2).2
    have hfi := f119_is h.c_f119 (s.chain m.key) hc m.created
    obtain ⟨v0, hf0⟩ := exist_find (hm m hmem)
    rcases find_idx (isAt m.created) (s.chain m.key) (by unfold chainOk at hc; omega) with ⟨e1, e2⟩ | ⟨v, j, hf, e2, e3, e4, e5, e6, e7⟩
    · rw [e1] at hf0; simp at hf0
    rw [e4] at hfi
    have ih := f130_l0_is h s ho hv t ht hk hm r (p ++ [m]) (i + 1) (mn a v.successor) (mid_next e) hn
    rw [f130_l0_eq]
    simp only [mn] at ih
    have e7' := fun {γ : Type} (K : U → Option γ) => e7 5 Version.u K
    have hel : ∀ {γ : Type} (K : U → Option γ), U.elemAt 5 (chainU (s.chain m.key)) j K = K v.u := fun K => e7 5 Version.u K
    simp [hlt, hx, hw, chain_elem hv hkk.1 hkk.2, hfi, hel, e7', ih, high1, hf, mn]
theorem f130_is (h : G_f130 E) (s : Store) (ho : s.ok) (hv : s.valid = true) (t : Transaction) (ht : t.ok) (htv : t.valid = true) (hm : marksExist s t.reads = true) :
    E 183 [s.u, t.u] = some (.int .i64 (refreshHigh s t.reads)) := by
  rw [f130_E h]
  simp [f129_is h.c_f129 s ho t ht, hv, htv, hm, f130_l0_is h s ho hv t ht (valid_keys htv) (by simpa [marksExist] using hm) t.reads [] 0 1000 rfl rfl, refreshHigh]
theorem txsFrom_mem {e : Engine} : ∀ {l : List Transaction} {p : Option Transaction}, txsFrom e p l = true → ∀ t ∈ l, t.valid = true ∧ t.begin_ ≤ e.stamp ∧ t.commit ≤ e.stamp ∧ (t.state = 1 → marksExist e.store t.reads = true)
  | [], _, _ => fun t ht => by simp at ht
  | x :: r, p, h => by
    simp only [txsFrom, txs1, Bool.and_eq_true, decide_eq_true_eq] at h
    intro t ht
    rcases List.mem_cons.1 ht with rfl | ht
    · refine ⟨h.1.1, h.1.2.2.1, h.1.2.2.2.1, fun hs => ?_⟩
      have := h.1.2.2.2.2
      rwa [if_pos hs] at this
    · exact txsFrom_mem h.2 t ht
theorem foldl_mx (f : Version → Int) : ∀ (l : List Version) (n : Int), n ≤ l.foldl (fun a v => mx a (f v)) n
  | [], n => Int.le_refl _
  | v :: r, n => Int.le_trans mx_ge.1 (foldl_mx f r (mx n (f v)))
theorem last_ge : ∀ (l : List (List Version)) (n : Int), n ≤ l.foldl lastC n
  | [], n => Int.le_refl _
  | c :: r, n => Int.le_trans (foldl_mx Version.reader c n) (last_ge r (lastC n c))
theorem Engine.valid_all {e : Engine} (h : e.valid = true) : e.store.valid = true ∧ 0 ≤ e.stamp ∧ e.stamp ≤ 999 ∧ ∀ t ∈ e.transactions, t.valid = true ∧ t.begin_ ≤ e.stamp ∧ t.commit ≤ e.stamp ∧ (t.state = 1 → marksExist e.store t.reads = true) := by
  simp only [Engine.valid, inR, Bool.and_eq_true, decide_eq_true_eq] at h
  have := last_ge e.store.chains 0
  unfold Store.last at h
  exact ⟨h.1, by omega, by omega, txsFrom_mem h.2.2.2.2.1.1⟩
def unsafe1 (e : Engine) (n : Int) (t : Transaction) : Bool :=
  if t.state = 2 then decide (n < t.commit) && decide (t.high ≤ n)
  else if t.state = 1 then decide (refreshHigh e.store t.reads ≤ n) || (decide (t.scheme = 2) && decide (t.begin_ < n))
  else false
def becauseIn (e : Engine) (n : Int) : List Transaction → Int
  | [] => 0
  | t :: r => if unsafe1 e n t then t.id else becauseIn e n r
def because (e : Engine) (n : Int) : Int := becauseIn e n e.transactions
theorem impl_unsafe_is (h : G_f9 E) (e : Engine) (ho : e.ok) (hv : e.valid = true) (t : Transaction) (ht : t ∈ e.transactions) (n : Int) : E 185 [e.u, t.u, .int .i64 n] = some (.bool (unsafe1 e n t)) := by
  rw [f9_E h]
  obtain ⟨v1, v2, v3, v4⟩ := Engine.valid_all hv
  obtain ⟨w1, w2, w3, w4⟩ := v4 t ht
  by_cases h2 : t.state = 2
  · simp [h2, unsafe1, ite_p]
  by_cases h1 : t.state = 1
  · have hh := impl_refreshHigh_is h.c_f32 e.store ho.1 v1 t (ho.2.2.1 t ht) (valid_keys w1) (w4 h1)
    simp [h1, hh, unsafe1, ite_p, ite_pt]
  · simp [h1, h2, unsafe1]
theorem impl_because_l0_is (h : G_f6 E) (e : Engine) (ho : e.ok) (hv : e.valid = true) (n : Int) : ∀ (r p : List Transaction) (i : Int), e.transactions = p ++ r → i = p.length →
    f6_l0 E (.int .i64 n) (.sl 9 (e.transactions.map Transaction.u)) (.int .i64 e.transactions.length) (.int .i64 i) e.u = some (.int .i64 (becauseIn e n r))
  | [], p, i, el, hi => by
    rw [f6_l0_eq]
    simp [mid_end el hi, becauseIn]
  | t :: r, p, i, el, hi => by
    obtain ⟨h0, hlt, hx, hw, hn, _⟩ := mid_at el hi (by have := ho.2.1; omega)
    have ih := impl_because_l0_is h e ho hv n r (p ++ [t]) (i + 1) (mid_next el) hn
    have hu := impl_unsafe_is h.c_f9 e ho hv t (by rw [el]; simp) n
    rw [f6_l0_eq]
    cases hb : unsafe1 e n t <;> simp [hlt, hx, hw, hu, hb, ih, becauseIn]
theorem impl_because_is (h : G_f6 E) (e : Engine) (ho : e.ok) (hv : e.valid = true) (n : Int) : E 184 [e.u, .int .i64 n] = some (.int .i64 (because e n)) := by
  rw [f6_E h]
  simp [impl_because_l0_is h e ho hv n e.transactions [] 0 rfl rfl, because]
def unsafeBecause (e : Engine) (n : Int) : Int := if e.valid && inR n 0 e.stamp then because e n else 0
theorem f133_l0_is (h : G_f133 E) (e : Engine) (ho : e.ok) (hv : e.valid = true) (n : Int) (hr : inR n 0 e.stamp = true) : ∀ (r p : List Transaction) (i : Int), e.transactions = p ++ r → i = p.length →
    f133_l0 E (.int .i64 n) (.int .i64 i) e.u = some (.int .i64 (becauseIn e n r))
  | [], p, i, el, hi => by
    rw [f133_l0_eq]
    simp [mid_end el hi, becauseIn]
  | t :: r, p, i, el, hi => by
    obtain ⟨h0, hlt, hx, hw, hn, _⟩ := mid_at el hi (by have := ho.2.1; omega)
    have ih := f133_l0_is h e ho hv n hr r (p ++ [t]) (i + 1) (mid_next el) hn
    obtain ⟨v1, v2, v3, v4⟩ := Engine.valid_all hv
    have ht : t ∈ e.transactions := by rw [el]; simp
    obtain ⟨w1, w2, w3, w4⟩ := v4 t ht
    have g1 := f122_is h.c_f122 e ho
    rw [hv] at g1
    rw [f133_l0_eq]
    by_cases h2 : t.state = 2
    · by_cases q1 : n < t.commit <;> by_cases q2 : t.high ≤ n <;> simp [hlt, hx, hw, g1, f136_is h.c_f136, hr, h2, q1, q2, ih, becauseIn, unsafe1]
    by_cases h1 : t.state = 1
    · have hh := f130_is h.c_f130 e.store ho.1 v1 t (ho.2.2.1 t ht) w1 (w4 h1)
      by_cases q1 : refreshHigh e.store t.reads ≤ n
      · simp [hlt, hx, hw, g1, f136_is h.c_f136, hr, h1, hh, q1, ih, becauseIn, unsafe1]
      by_cases q2 : t.scheme = 2 <;> by_cases q3 : t.begin_ < n <;> simp [hlt, hx, hw, g1, f136_is h.c_f136, hr, h1, hh, q1, q2, q3, ih, becauseIn, unsafe1]
    · simp [hlt, hx, hw, g1, f136_is h.c_f136, hr, h1, h2, ih, becauseIn, unsafe1]
theorem f133_is (h : G_f133 E) (e : Engine) (ho : e.ok) (n : Int) : E 182 [e.u, .int .i64 n] = some (.int .i64 (unsafeBecause e n)) := by
  rw [f133_E h]
  cases hg : (e.valid && inR n 0 e.stamp)
  · simp only [unsafeBecause, hg, U.asBool, Engine.u_noTup]
    rw [f133_l0_eq]
    have g1 := f122_is h.c_f122 e ho
    by_cases hz : (0 : Int) < e.transactions.length
    · cases hv : e.valid
      · rw [hv] at g1
        simp [hz, g1]
        try omega
      · rw [hv] at g1 hg
        simp only [Bool.true_and] at hg
        simp [hz, g1, f136_is h.c_f136, hg]
        try omega
    · simp [hz]
      try omega
  · have hg' := hg
    simp only [Bool.and_eq_true] at hg'
    simp [f133_l0_is h e ho hg'.1 n hg'.2 e.transactions [] 0 rfl rfl, unsafeBecause, hg, because, hg'.1, hg'.2]
def isSafe (e : Engine) (n : Int) : Bool := e.valid && (inR n 0 e.stamp && decide (because e n = 0))
theorem f120_is (h : G_f120 E) (e : Engine) (ho : e.ok) (n : Int) : E 189 [e.u, .int .i64 n] = some (.bool (isSafe e n)) := by
  rw [f120_E h]
  cases hv : e.valid
  · simp [f122_is h.c_f122 e ho, hv, isSafe]
  cases hr : inR n 0 e.stamp
  · simp [f122_is h.c_f122 e ho, f136_is h.c_f136, hv, hr, isSafe]
  · simp [f122_is h.c_f122 e ho, f136_is h.c_f136, hv, hr, isSafe, f133_is h.c_f133 e ho, unsafeBecause]
def safeN (e : Engine) : Nat → Int
  | 0 => 0
  | k + 1 => if because e ((k + 1 : Nat) : Int) = 0 then ((k + 1 : Nat) : Int) else safeN e k
def safeStamp (e : Engine) : Int := if e.valid then safeN e e.stamp.toNat else 0
theorem impl_safe_l0_is (h : G_f8 E) (e : Engine) (ho : e.ok) (hv : e.valid = true) : ∀ (k : Nat), k ≤ 999 → f8_l0 E (.int .i64 (k : Int)) e.u = some (.int .i64 (safeN e k))
  | 0, _ => by
    rw [f8_l0_eq]
    simp [safeN]
  | k + 1, hk => by
    have ih := impl_safe_l0_is h e ho hv k (by omega)
    have hw : IntKind.i64.wrap (((k + 1 : Nat) : Int) - 1) = (k : Int) := by rw [wrap_in (by omega)]; omega
    have hpos : (0 : Int) < ((k + 1 : Nat) : Int) := by omega
    rw [f8_l0_eq]
    by_cases hb : because e ((k + 1 : Nat) : Int) = 0 <;>
    simp [-Int.natCast_add, hpos, impl_because_is h.c_f6 e ho hv, hb, safeN, hw, ih]
theorem impl_safe_is (h : G_f8 E) (e : Engine) (ho : e.ok) (hv : e.valid = true) : E 193 [e.u] = some (.int .i64 (safeStamp e)) := by
  rw [f8_E h]
  obtain ⟨v1, v2, v3, v4⟩ := Engine.valid_all hv
  have := impl_safe_l0_is h e ho hv e.stamp.toNat (by omega)
  rw [Int.toNat_of_nonneg v2] at this
  simp [this, safeStamp, hv]
theorem f132_l0_is (h : G_f132 E) (e : Engine) (ho : e.ok) (hv : e.valid = true) : ∀ (k : Nat), k ≤ 999 → (k : Int) ≤ e.stamp → f132_l0 E (.int .i64 (k : Int)) e.u = some (.int .i64 (safeN e k))
  | 0, _, _ => by
    rw [f132_l0_eq]
    simp [safeN]
  | k + 1, hk, hs => by
    have ih := f132_l0_is h e ho hv k (by omega) (by omega)
    have hw : IntKind.i64.wrap (((k + 1 : Nat) : Int) - 1) = (k : Int) := by rw [wrap_in (by omega)]; omega
    have hpos : (0 : Int) < ((k + 1 : Nat) : Int) := by omega
    have hr : inR ((k + 1 : Nat) : Int) 0 e.stamp = true := by simp only [inR, decide_eq_true_eq]; omega
    have g1 := f122_is h.c_f122 e ho
    have g2 := f120_is h.c_f120 e ho ((k + 1 : Nat) : Int)
    rw [hv] at g1
    rw [f132_l0_eq]
    by_cases hb : because e ((k + 1 : Nat) : Int) = 0 <;>
    simp [-Int.natCast_add, hpos, g1, g2, isSafe, hv, hr, hb, safeN, hw, ih]
theorem f132_is (h : G_f132 E) (e : Engine) (ho : e.ok) : E 192 [e.u] = some (.int .i64 (safeStamp e)) := by
  rw [f132_E h]
  cases hv : e.valid
  · have g1 := f122_is h.c_f122 e ho
    rw [hv] at g1
    simp only [safeStamp, hv]
    have : f132_l0 E (.int .i64 e.stamp) e.u = some (.int .i64 0) := by
      rw [f132_l0_eq]
      by_cases hp : 0 < e.stamp <;> simp [hp, g1]
    simp [this]
  · obtain ⟨v1, v2, v3, v4⟩ := Engine.valid_all hv
    have := f132_l0_is h e ho hv e.stamp.toNat (by omega) (by omega)
    rw [Int.toNat_of_nonneg v2] at this
    simp [this, safeStamp, hv]
def lastAt (t : Int) : List Version → Int → Int → Int
  | [], _, c => c
  | v :: r, i, c => lastAt t r (i + 1) (if v.created ≤ t then i else c)
theorem lastAt_snoc (t : Int) (x : Version) : ∀ (p : List Version) (i c : Int), lastAt t (p ++ [x]) i c = if x.created ≤ t then i + p.length else lastAt t p i c
  | [], i, c => by simp [lastAt]
  | v :: p, i, c => by
    simp only [List.cons_append, lastAt]
    rw [lastAt_snoc t x p]
    simp only [List.length_cons]
    split <;> omega
theorem lastAt_cases (t : Int) : ∀ (l p : List Version) (c : Int), (c = -1 ∨ ∃ v, p[c.toNat]? = some v ∧ 0 ≤ c) → (lastAt t l p.length c = -1 ∨ ∃ v, (p ++ l)[(lastAt t l p.length c).toNat]? = some v ∧ 0 ≤ lastAt t l p.length c)
  | [], p, c, h => by simpa [lastAt] using h
  | v :: r, p, c, h => by
    have := lastAt_cases t r (p ++ [v]) (if v.created ≤ t then p.length else c) (by
      split
      · right; exact ⟨v, by simp, by omega⟩
      · rcases h with h | ⟨w, h1, h2⟩
        · exact .inl h
        · right
          refine ⟨w, ?_, h2⟩
          rw [List.getElem?_append_left (List.getElem?_eq_some_iff.1 h1).1]
          exact h1)
    simp only [List.length_append, List.length_cons, List.length_nil, Nat.zero_add, List.append_assoc, List.cons_append, List.nil_append] at this
    simp only [lastAt]
    have e : ((p.length + 1 : Nat) : Int) = (p.length : Int) + 1 := by omega
    rw [e] at this
    exact this
theorem f134_l0_is (h : G_f134 E) (l : List Version) (hl : chainOk l) (hv : validChain l = true) (t : Int) : ∀ (r p : List Version) (i c : Int), l = p ++ r → i = p.length →
    f134_l0 E (chainU l) (.int .i64 t) (.int .i64 c) (.int .i64 i) = some (.int .i64 (lastAt t r i c))
  | [], p, i, c, e, hi => by
    rw [f134_l0_eq]
    simp [chainU, mid_end e hi, lastAt]
  | x :: r, p, i, c, e, hi => by
    obtain ⟨h0, hlt, hx, hw, hn, _⟩ := mid_at e hi (by unfold chainOk at hl; omega)
    have ih := fun c => f134_l0_is h l hl hv t r (p ++ [x]) (i + 1) c (mid_next e) hn
    have hvc := f121_is h.c_f121 l hl
    rw [hv] at hvc
    unfold chainU at ih hvc ⊢
    rw [f134_l0_eq]
    by_cases h1 : x.created ≤ t <;> simp [hlt, hx, hw, ih, h1, lastAt, hvc]
theorem f134_is (h : G_f134 E) (l : List Version) (hl : chainOk l) (hv : validChain l = true) (t : Int) : E 106 [chainU l, .int .i64 t] = some (.int .i64 (lastAt t l 0 (-1))) := by
  rw [f134_E h]
  exact f134_l0_is h l hl hv t l [] 0 (-1) rfl rfl
theorem f43_l0_is (l : List Version) (hl : chainOk l) (t : Int) : ∀ (n : Nat) (p r : List Version), p.length = n → l = p ++ r →
    f43_l0 E (chainU l) (.int .i64 t) (.int .i64 (n - 1)) = some (.int .i64 (lastAt t p 0 (-1)))
  | 0, p, r, hn, e => by
    obtain rfl : p = [] := List.length_eq_zero_iff.1 hn
    rw [f43_l0_eq]
    simp [lastAt]
  | n + 1, p, r, hn, e => by
    have hne : p ≠ [] := by rintro rfl; cases hn
    obtain ⟨q, x, rfl⟩ : ∃ q x, p = q ++ [x] := ⟨p.dropLast, p.getLast hne, (List.dropLast_concat_getLast hne).symm⟩
    have hq : q.length = n := by simpa using hn
    have ih := f43_l0_is l hl t n q (x :: r) hq (by rw [e]; simp)
    have e2 : l = q ++ x :: r := by rw [e]; simp
    obtain ⟨h0, hlt, hx, hw, _, _⟩ := mid_at (i := (n : Int)) e2 (by omega) (by unfold chainOk at hl; omega)
    have hnl : n ≤ 1048576 := by unfold chainOk at hl; rw [e2] at hl; simp at hl; omega
    have hw2 : IntKind.i64.wrap ((n : Int) - 1) = n - 1 := wrap_in (by omega)
    have e3 : ((n + 1 : Nat) : Int) - 1 = n := by omega
    rw [lastAt_snoc, e3]
    unfold chainU at ih ⊢
    rw [f43_l0_eq]
    by_cases h1 : t < x.created
    · have h2 : ¬ x.created ≤ t := by omega
      simp [hx, h1, h2, hw2, ih]
    · have h2 : x.created ≤ t := by omega
      simp [hx, h1, h2, hq]
theorem f43_is (h : G_f43 E) (l : List Version) (hl : chainOk l) (t : Int) : E 111 [chainU l, .int .i64 t] = some (.int .i64 (lastAt t l 0 (-1))) := by
  rw [f43_E h]
  have := f43_l0_is (E := E) l hl t l.length l [] rfl (by simp)
  have hw : IntKind.i64.wrap ((l.length : Int) - 1) = l.length - 1 := wrap_in (by unfold chainOk at hl; omega)
  unfold chainU at this ⊢
  simp [hw, this]
def readAt (s : Store) (k t : Int) : Option Version := if s.valid && inR k 0 5 then (if lastAt t (s.chain k) 0 (-1) < 0 then none else (s.chain k)[(lastAt t (s.chain k) 0 (-1)).toNat]?) else none
def readU : Option Version → U
  | none => .tup [(⟨0, 0, 0, 0, 0⟩ : Version).u, .bool false]
  | some v => .tup [v.u, .bool true]
theorem lastAt_get (t : Int) (l : List Version) : (lastAt t l 0 (-1) < 0) ∨ ∃ v, l[(lastAt t l 0 (-1)).toNat]? = some v ∧ 0 ≤ lastAt t l 0 (-1) := by
  rcases lastAt_cases t l [] (-1) (.inl rfl) with h | h
  · left
    simp only [List.length_nil, Int.natCast_zero] at h
    omega
  · right
    simpa using h
theorem f128_is (h : G_f128 E) (s : Store) (ho : s.ok) (k t : Int) : E 102 [s.u, .int .i64 k, .int .i64 t] = some (readU (readAt s k t)) := by
  rw [f128_E h]
  have g1 := f123_is h.c_f123 s ho
  cases hv : s.valid with
  | false => simp [g1, hv, readAt, readU, Version.u]
  | true =>
    cases hr : inR k 0 5 with
    | false => simp [g1, hv, f136_is h.c_f136, hr, readAt, readU, Version.u]
    | true =>
      have hr2 : 0 ≤ k ∧ k ≤ 5 := by simpa [inR] using hr
      obtain ⟨hm, hmem⟩ := chain_get hv hr2.1 hr2.2
      have hc : chainOk (s.chain k) := ho.2 _ hmem
      have hch := fun {γ : Type} (K : U → Option γ) => chain_elem hv hr2.1 hr2.2 K
      have hva := f134_is h.c_f134 (s.chain k) hc (Store.valid_mem hv hmem).1 t
      rcases lastAt_get t (s.chain k) with hneg | ⟨v, hg, hpos⟩
      · simp [g1, hv, f136_is h.c_f136, hr, hch, hva, hneg, readAt, readU, Version.u]
      · have hneg : ¬ lastAt t (s.chain k) 0 (-1) < 0 := by omega
        have hy : ∀ {γ : Type} (K : U → Option γ), U.elemAt 5 (chainU (s.chain k)) (lastAt t (s.chain k) 0 (-1)) K = K v.u := fun K => elemAt_get Version.u hpos hg K
        have hy2 : ∀ {γ : Type} (K : U → Option γ), U.elemAt 5 (.sl 5 ((s.chain k).map Version.u)) (lastAt t (s.chain k) 0 (-1)) K = K v.u := fun K => hy K
        simp [g1, hv, f136_is h.c_f136, hr, hch, hva, hneg, hy, hy2, readAt, readU, hg]
theorem f25_is (h : G_f25 E) (s : Store) (ho : s.ok) (k t : Int) : E 110 [s.u, .int .i64 k, .int .i64 t] = some (readU (readAt s k t)) := by
  rw [f25_E h]
  have g1 := f19_is h.c_f19 s ho
  cases hv : s.valid with
  | false => simp [g1, hv, readAt, readU, Version.u]
  | true =>
    cases hr : inR k 0 5 with
    | false => simp [g1, hv, f38_is h.c_f38, hr, readAt, readU, Version.u]
    | true =>
      have hr2 : 0 ≤ k ∧ k ≤ 5 := by simpa [inR] using hr
      obtain ⟨hm, hmem⟩ := chain_get hv hr2.1 hr2.2
      have hc : chainOk (s.chain k) := ho.2 _ hmem
      have hch := fun {γ : Type} (K : U → Option γ) => chain_elem hv hr2.1 hr2.2 K
      have hva := f43_is h.c_f43 (s.chain k) hc t
      rcases lastAt_get t (s.chain k) with hneg | ⟨v, hg, hpos⟩
      · simp [g1, hv, f38_is h.c_f38, hr, hch, hva, hneg, readAt, readU, Version.u]
      · have hneg : ¬ lastAt t (s.chain k) 0 (-1) < 0 := by omega
        have hy : ∀ {γ : Type} (K : U → Option γ), U.elemAt 5 (chainU (s.chain k)) (lastAt t (s.chain k) 0 (-1)) K = K v.u := fun K => elemAt_get Version.u hpos hg K
        have hy2 : ∀ {γ : Type} (K : U → Option γ), U.elemAt 5 (.sl 5 ((s.chain k).map Version.u)) (lastAt t (s.chain k) 0 (-1)) K = K v.u := fun K => hy K
        simp [g1, hv, f38_is h.c_f38, hr, hch, hva, hneg, hy, hy2, readAt, readU, hg]
theorem flats_map {α : Type} (f : α → U) (h : ∀ x, (f x).flat = true) : ∀ l : List α, U.flat.flats (l.map f) = true
  | [] => rfl
  | x :: l => by
    simp only [List.map_cons, U.flat.flats, h x, flats_map f h l, Bool.and_self]
@[simp] theorem flats_edges (l : List Edge) : U.flat.flats (l.map Edge.u) = true := flats_map _ (fun _ => rfl) l
@[simp] theorem flats_ints (l : List Int) : U.flat.flats (l.map intU) = true := flats_map _ (fun _ => rfl) l
def marksFrom (s : Store) (t : Int) : Nat → Int → List ReadMark → Option (List ReadMark)
  | 0, _, c => some c
  | n + 1, k, c => match readAt s k t with
    | none => none
    | some v => marksFrom s t n (k + 1) (c ++ [⟨k, v.created⟩])
def marksU (z : U) : Option (List ReadMark) → U
  | none => z
  | some l => .sl 2 (l.map ReadMark.u)
theorem flats_RM (l : List ReadMark) : U.flat.flats (l.map ReadMark.u) = true := flats_map _ (fun _ => rfl) l
theorem f23_l0_is (h : G_f23 E) (s : Store) (ho : s.ok) (t : Int) : ∀ (n : Nat) (k : Int) (c : List ReadMark), k + n = 6 → c.length + n ≤ 6 → 0 ≤ k →
    f23_l0 E (.int .i64 t) (.int .i64 k) (c.map ReadMark.u) s.u = some (marksU (.nsl 2) (marksFrom s t n k c))
  | 0, k, c, e, hc, h0 => by
    have h1 : ¬ k < 6 := by omega
    rw [f23_l0_eq]
    simp [h1, marksFrom, marksU]
  | n + 1, k, c, e, hc, h0 => by
    have h1 : k < 6 := by omega
    have hw : IntKind.i64.wrap (k + 1) = k + 1 := wrap_in (by omega)
    have g := f25_is h.c_f25 s ho k t
    rw [f23_l0_eq]
    cases hr : readAt s k t with
    | none =>
      rw [hr] at g
      simp [h1, g, readU, U.part, Version.u, storable, U.size, marksFrom, hr, marksU]
    | some v =>
      rw [hr] at g
      have ih := f23_l0_is h s ho t n (k + 1) (c ++ [⟨k, v.created⟩]) (by omega) (by simp; omega) (by omega)
      have hlen : (c.length + 1) * 16 ≤ 140737488355328 := by omega
      simp only [List.map_append, List.map_cons, List.map_nil, ReadMark.u] at ih
      simp [h1, g, readU, U.part, Version.u, storable, partable, U.size, marksFrom, hr, hw, hlen, ih, ReadMark.u]
theorem f23_is (h : G_f23 E) (s : Store) (ho : s.ok) (t : Int) : E 94 [s.u, .int .i64 t] = some (marksU (.nsl 2) (marksFrom s t 6 0 [])) := by
  rw [f23_E h]
  have := f23_l0_is h s ho t 6 0 [] (by decide) (by decide) (by decide)
  simpa using this
theorem f24_l0_is (h : G_f24 E) (s : Store) (ho : s.ok) (t : Int) : ∀ (n : Nat) (k : Int) (c : List ReadMark), k + n = 6 → c.length + n ≤ 6 → 0 ≤ k →
    f24_l0 E (.int .i64 t) (.int .i64 k) (c.map ReadMark.u) s.u = some (marksU (.sl 2 []) (marksFrom s t n k c))
  | 0, k, c, e, hc, h0 => by
    have h1 : ¬ k < 6 := by omega
    rw [f24_l0_eq]
    simp [h1, marksFrom, marksU, flats_RM]
  | n + 1, k, c, e, hc, h0 => by
    have h1 : k < 6 := by omega
    have hw : IntKind.i64.wrap (k + 1) = k + 1 := wrap_in (by omega)
    have g := f25_is h.c_f25 s ho k t
    rw [f24_l0_eq]
    cases hr : readAt s k t with
    | none =>
      rw [hr] at g
      simp [h1, g, readU, U.part, Version.u, storable, U.size, marksFrom, hr, marksU]
    | some v =>
      rw [hr] at g
      have ih := f24_l0_is h s ho t n (k + 1) (c ++ [⟨k, v.created⟩]) (by omega) (by simp; omega) (by omega)
      have hlen : (c.length + 1) * 16 ≤ 140737488355328 := by omega
      simp only [List.map_append, List.map_cons, List.map_nil, ReadMark.u] at ih
      simp [h1, g, readU, U.part, Version.u, storable, partable, U.size, marksFrom, hr, hw, hlen, ih, ReadMark.u]
theorem f24_is (h : G_f24 E) (s : Store) (ho : s.ok) (t : Int) : E 100094 [s.u, .int .i64 t] = some (marksU (.sl 2 []) (marksFrom s t 6 0 [])) := by
  rw [f24_E h]
  have := f24_l0_is h s ho t 6 0 [] (by decide) (by decide) (by decide)
  simpa using this
theorem f127_l0_is (h : G_f127 E) (s : Store) (ho : s.ok) (hv : s.valid = true) (t : Int) : ∀ (n : Nat) (k : Int) (c : List ReadMark), k + n = 6 → c.length + n ≤ 6 → 0 ≤ k →
    f127_l0 E (.int .i64 t) (.int .i64 k) (c.map ReadMark.u) s.u = some (marksU (.sl 2 []) (marksFrom s t n k c))
  | 0, k, c, e, hc, h0 => by
    have h1 : ¬ k < 6 := by omega
    rw [f127_l0_eq]
    simp [h1, marksFrom, marksU]
  | n + 1, k, c, e, hc, h0 => by
    have h1 : k < 6 := by omega
    have hw : IntKind.i64.wrap (k + 1) = k + 1 := wrap_in (by omega)
    have g1 := f123_is h.c_f123 s ho
    have g := f128_is h.c_f128 s ho k t
    rw [f127_l0_eq]
    cases hr : readAt s k t with
    | none =>
      rw [hr] at g
      simp [h1, g1, hv, g, readU, U.part, Version.u, storable, U.size, marksFrom, hr, marksU]
    | some v =>
      rw [hr] at g
      have ih := f127_l0_is h s ho hv t n (k + 1) (c ++ [⟨k, v.created⟩]) (by omega) (by simp; omega) (by omega)
      have hlen : (c.length + 1) * 16 ≤ 140737488355328 := by omega
      simp only [List.map_append, List.map_cons, List.map_nil, ReadMark.u] at ih
      simp [h1, g1, hv, g, readU, U.part, Version.u, storable, partable, U.size, marksFrom, hr, hw, hlen, ih, ReadMark.u]
theorem f127_is (h : G_f127 E) (s : Store) (ho : s.ok) (t : Int) : E 98 [s.u, .int .i64 t] = some (marksU (.sl 2 []) (marksFrom s t 6 0 [])) := by
  rw [f127_E h]
  cases hv : s.valid with
  | true =>
    have := f127_l0_is h s ho hv t 6 0 [] (by decide) (by decide) (by decide)
    simpa using this
  | false =>
    have g1 := f123_is h.c_f123 s ho
    have e : readAt s 0 t = none := by simp [readAt, hv]
    have g2 : marksFrom s t 6 0 [] = none := by simp [marksFrom, e]
    simp only [Store.u_noTup]
    rw [f127_l0_eq, g2]
    simp [g1, hv, marksU]
theorem f86_is (h : G_f86 E) (x : ReadMark) : E 29 [x.u] = some x.u := by
  rw [f86_E h]
  simp [ReadMark.u]
theorem f87_l0_is (h : G_f87 E) (l : List ReadMark) (hl : l.length ≤ 1048576) : ∀ (r p : List ReadMark) (i : Int) (c : List U), l = p ++ r → i = p.length → c.length = r.length → (∀ z ∈ c, z.size = 2) →
    f87_l0 E (.sl 2 (l.map ReadMark.u)) (.int .i64 i) (p.map ReadMark.u ++ c) = some (.sl 2 (l.map ReadMark.u))
  | [], p, i, c, e, hi, hc, _ => by
    obtain rfl : c = [] := List.length_eq_zero_iff.1 hc
    rw [f87_l0_eq]
    simp [mid_end e hi]
    simp [e]
  | x :: r, p, i, [], e, hi, hc, _ => by cases hc
  | x :: r, p, i, z :: c, e, hi, hc, hz => by
    obtain ⟨h0, hlt, hx, hw, hn, _⟩ := mid_at e hi (by omega)
    have hzs : z.size = 2 := hz z (by simp)
    obtain ⟨hg, hs, hlen⟩ := mid_set ReadMark.u p z c hi
    have ih := f87_l0_is h l hl r (p ++ [x]) (i + 1) c (mid_next e) hn (by simpa using hc) (fun y hy => hz y (by simp [hy]))
    simp only [List.map_append, List.map_cons, List.map_nil, List.append_assoc, List.cons_append, List.nil_append] at ih
    rw [f87_l0_eq]
    simp only [hg, hs, hx, hw, asInt_int, bin_lss, lenOf_sl, List.length_map, Option.bind_some, asBool_bool, hlt, decide_true, if_true, h0, hlen, and_self, bin_add, f86_is h.c_f86 x, hzs, ReadMark.u_var, ReadMark.u_size, ReadMark.u_storable, ReadMark.u_partable]
    simpa using ih
theorem f87_is (h : G_f87 E) (l : List ReadMark) (hl : l.length ≤ 1048576) : E 28 [.sl 2 (l.map ReadMark.u)] = some (.sl 2 (l.map ReadMark.u)) := by
  have h1 := f87_l0_is h l hl l [] 0 (List.replicate l.length (.agg [.int .i64 0, .int .i64 0])) rfl rfl (by simp) (by simp)
  rw [f87_E h]
  simp only [lenOf_sl, Option.bind_some, List.length_map]
  rw [if_pos (by refine ⟨by omega, by omega, by omega, rfl⟩)]
  simpa using h1
theorem f49_is (h : G_f49 E) (x y : ReadMark) : E 35 [x.u, y.u] = some (.bool (decide (x = y))) := by
  rw [f49_E h]
  obtain ⟨a0, a1⟩ := x
  obtain ⟨b0, b1⟩ := y
  simp only [ReadMark.mk.injEq]
  by_cases h0 : a0 = b0
  case neg => simp [h0]
  subst h0
  by_cases h1 : a1 = b1
  case neg => simp [h1]
  subst h1
  simp []
theorem f50_l0_is (h : G_f50 E) (a b : List ReadMark) (ha : a.length ≤ 1048576) (hb : b.length ≤ 1048576) : ∀ (r s p p2 : List ReadMark) (i : Int), a = p ++ r → b = p2 ++ s → i = p.length → i = p2.length → r.length = s.length →
    f50_l0 E (.sl 2 (a.map ReadMark.u)) (.sl 2 (b.map ReadMark.u)) (.int .i64 i) = some (.bool (decide (r = s)))
  | [], [], p, p2, i, e, e2, hi, hi2, _ => by
    rw [f50_l0_eq]
    simp [mid_end e hi]
  | [], y :: s, _, _, _, _, _, _, _, hl => by cases hl
  | x :: r, [], _, _, _, _, _, _, _, hl => by cases hl
  | x :: r, y :: s, p, p2, i, e, e2, hi, hi2, hl => by
    obtain ⟨h0, hlt, hx, hw, hn, _⟩ := mid_at e hi (by omega)
    obtain ⟨_, _, hy, _, hn2, _⟩ := mid_at e2 hi2 (by omega)
    have ih := f50_l0_is h a b ha hb r s (p ++ [x]) (p2 ++ [y]) (i + 1) (mid_next e) (mid_next e2) hn hn2 (by simpa using hl)
    rw [f50_l0_eq]
    by_cases hxy : x = y
    · subst hxy
      simp [hlt, hx, hy, hw, ih, f49_is h.c_f49]
    · simp [hlt, hx, hy, hw, ih, f49_is h.c_f49, hxy]
theorem f50_is (h : G_f50 E) (a b : List ReadMark) (ha : a.length ≤ 1048576) (hb : b.length ≤ 1048576) : E 34 [.sl 2 (a.map ReadMark.u), .sl 2 (b.map ReadMark.u)] = some (.bool (decide (a = b))) := by
  rw [f50_E h]
  by_cases hl : a.length = b.length
  · simp [hl, f50_l0_is h a b ha hb a b [] [] 0 rfl rfl rfl rfl hl]
  · have h1 : a ≠ b := fun e => hl (by rw [e])
    have h2 : (a.length : Int) ≠ b.length := by omega
    simp [h1, h2]
theorem f73_is (h : G_f73 E) (l : List ReadMark) (hl : l.length ≤ maxLen) (left : Int) (h0 : 0 ≤ left) (h1 : left ≤ 1048576) : E 24 [.sl 2 (l.map ReadMark.u), .int .i64 left] = some (.int .i64 (szc l.length left)) := by
  rw [f73_E h]
  unfold maxLen at hl
  have hw : IntKind.i64.wrap (left - (l.length : Int)) = left - l.length := wrap_in (by omega)
  by_cases h2 : left - (l.length : Int) < 0 <;> simp [hw, szc, h2]
theorem marksFrom_len (s : Store) (t : Int) : ∀ (n : Nat) (k : Int) (c l : List ReadMark), marksFrom s t n k c = some l → l.length = c.length + n
  | 0, k, c, l, h => by cases h; simp
  | n + 1, k, c, l, h => by
    simp only [marksFrom] at h
    split at h
    · cases h
    · have := marksFrom_len s t n (k + 1) _ l h
      simp at this
      omega
def entV (id st : Int) : Option (List ReadMark) → U
  | none => .agg [.int .i64 0, .int .i64 0, .nsl 2, .nsl 2]
  | some l => .agg [.int .i64 id, .int .i64 st, .sl 2 (l.map ReadMark.u), .nsl 2]
def entF (id st : Int) : Option (List ReadMark) → U
  | none => .agg [.int .i64 0, .int .i64 0, .sl 2 [], .sl 2 []]
  | some l => .agg [.int .i64 id, .int .i64 st, .sl 2 (l.map ReadMark.u), .sl 2 []]
theorem entV_noTup (id st : Int) (q : Option (List ReadMark)) (K : U → Option U) : U.noTup (entV id st q) K = K (entV id st q) := by cases q <;> rfl
theorem entV_var (id st : Int) (q : Option (List ReadMark)) (K : U → Option U) : U.asVar true 4 (entV id st q) K = K (entV id st q) := by cases q <;> rfl
theorem entV_ok (id st : Int) (q : Option (List ReadMark)) : storable (.val (entV id st q)) = true ∧ (entV id st q).size = 4 := by cases q <;> exact ⟨rfl, rfl⟩
def stamp1 (t : Int) : Int := if t < 1 then 1 else t
theorem stamp1_a (t : Int) : ([1] : List Int).foldl (fun a b => if true then (if a < b then b else a) else (if b < a then b else a)) t = stamp1 t := rfl
theorem stamp1_b (t : Int) : ([t] : List Int).foldl (fun a b => if true then (if a < b then b else a) else (if b < a then b else a)) 1 = stamp1 t := by
  show (if (1 : Int) < t then t else 1) = if t < 1 then 1 else t
  split <;> split <;> omega
theorem marks6 {s : Store} {t : Int} {l : List ReadMark} (h : marksFrom s t 6 0 [] = some l) : l.length = 6 := by
  have := marksFrom_len s t 6 0 [] l h
  simpa using this
def readerE (s : Store) (id t : Int) : Option (List ReadMark) := if inR id 1 9 then marksFrom s t 6 0 [] else none
theorem f41_is (h : G_f41 E) (s : Store) (ho : s.ok) (id t : Int) : E 406 [s.u, .int .i64 id, .int .i64 t] = some (.tup [entV id (stamp1 t) (readerE s id t), .bool (readerE s id t).isSome]) := by
  rw [f41_E h]
  have g1 := f23_is h.c_f23 s ho t
  have g2 := f37_is h.c_f37 id
  have nt : ∀ (k : Nat) (us : List U) (K : U → Option U), U.noTup (.sl k us) K = K (.sl k us) := fun _ _ _ => rfl
  simp only [stamp1_a]
  unfold readerE
  cases hi : inR id 1 9 with
  | false =>
    rw [hi] at g2
    simp [g1, g2, entV]
  | true =>
    rw [hi] at g2
    cases hm : marksFrom s t 6 0 [] with
    | none =>
      rw [hm] at g1
      simp [g1, g2, entV, marksU]
    | some l =>
      rw [hm] at g1
      have hl := marks6 hm
      simp [g1, g2, entV, marksU, hl, partable, storable, U.size]
      rfl
theorem f42_is (h : G_f42 E) (s : Store) (ho : s.ok) (id t : Int) : E 100406 [s.u, .int .i64 id, .int .i64 t] = some (.tup [entF id (stamp1 t) (readerE s id t), .bool (readerE s id t).isSome]) := by
  rw [f42_E h]
  have g1 := f24_is h.c_f24 s ho t
  have g2 := f37_is h.c_f37 id
  have nt : ∀ (k : Nat) (us : List U) (K : U → Option U), U.noTup (.sl k us) K = K (.sl k us) := fun _ _ _ => rfl
  simp only [stamp1_a]
  unfold readerE
  cases hi : inR id 1 9 with
  | false =>
    rw [hi] at g2
    cases hm : marksFrom s t 6 0 [] <;> rw [hm] at g1 <;> simp [g1, g2, entF, marksU, U.asSlK, nt, noTup_int]
  | true =>
    rw [hi] at g2
    cases hm : marksFrom s t 6 0 [] with
    | none =>
      rw [hm] at g1
      simp [g1, g2, entF, marksU, U.asSlK, nt, noTup_int]
    | some l =>
      rw [hm] at g1
      have hl := marks6 hm
      have hne : l ≠ [] := fun e => by rw [e] at hl; cases hl
      simp [g1, g2, entF, marksU, hl, hne, partable, storable, U.asSlK, nt, noTup_int, D.size, dsizes, D.size.dsizes, U.flat]
      rfl
def hasTx (e : Engine) (c : Int) : Bool := decide (0 ≤ idxF (hasID c) e.transactions 0)
def safeEnt (e : Engine) (id : Int) : Option (List ReadMark) := if e.valid && !hasTx e id then readerE e.store id (safeStamp e) else none
theorem f26_is (h : G_f26 E) (e : Engine) (ho : e.ok) (id : Int) : E 404 [e.u, .int .i64 id] = some (.tup [entV id (stamp1 (safeStamp e)) (safeEnt e id), .bool (safeEnt e id).isSome]) := by
  rw [f26_E h]
  have g1 := f16_is h.c_f16 e ho
  unfold safeEnt
  cases hv : e.valid with
  | false => simp [g1, hv, entV]
  | true =>
    have g2 := impl_safe_is h.c_f8 e ho hv
    have g3 := f10_is h.c_f10 e ho id
    by_cases hf : 0 ≤ idxF (hasID id) e.transactions 0
    · simp [g1, hv, g3, hf, hasTx, entV]
    · have g4 := f41_is h.c_f41 e.store ho.1 id (safeStamp e)
      simp [g1, hv, g3, hf, hasTx, g2, g4, (entV_ok _ _ _).1, (entV_ok _ _ _).2, entV_var, entV_noTup]
theorem f27_is (h : G_f27 E) (e : Engine) (ho : e.ok) (id : Int) : E 100404 [e.u, .int .i64 id] = some (.tup [entF id (stamp1 (safeStamp e)) (safeEnt e id), .bool (safeEnt e id).isSome]) := by
  rw [f27_E h]
  have g1 := f16_is h.c_f16 e ho
  unfold safeEnt
  cases hv : e.valid with
  | false => simp [g1, hv, entF]
  | true =>
    have g2 := impl_safe_is h.c_f8 e ho hv
    have g3 := f10_is h.c_f10 e ho id
    by_cases hf : 0 ≤ idxF (hasID id) e.transactions 0
    · simp [g1, hv, g3, hf, hasTx, entF]
    · have g4 := f42_is h.c_f42 e.store ho.1 id (safeStamp e)
      cases hq : readerE e.store id (safeStamp e) <;> rw [hq] at g4 <;> simp [g1, hv, g3, hf, hasTx, g2, g4, hq, entF, U.asTup, U.asSlK, U.asB]
theorem f131_is (h : G_f131 E) (e : Engine) (ho : e.ok) (id : Int) : E 405 [e.u, .int .i64 id] = some (.tup [entV id (stamp1 (safeStamp e)) (safeEnt e id), .bool (safeEnt e id).isSome]) := by
  rw [f131_E h]
  have g1 := f122_is h.c_f122 e ho
  have g2 := f132_is h.c_f132 e ho
  have g3 := f118_is h.c_f118 e ho id
  have g4 := f127_is h.c_f127 e.store ho.1 (safeStamp e)
  have g5 := f136_is h.c_f136 id 1 9
  unfold safeEnt readerE
  cases hv : e.valid with
  | false => simp [g1, g2, g4, hv, entV]
  | true =>
    cases hi : inR id 1 9 with
    | false =>
      rw [hi] at g5
      simp [g1, g2, g4, g5, hv, entV]
    | true =>
      rw [hi] at g5
      by_cases hf : 0 ≤ idxF (hasID id) e.transactions 0
      · simp [g1, g2, g4, g5, g3, hv, hf, hasTx, entV]
      · cases hm : marksFrom e.store (safeStamp e) 6 0 [] with
        | none =>
          rw [hm] at g4
          simp [g1, g2, g4, g5, g3, hv, hf, hasTx, entV, marksU]
        | some l =>
          rw [hm] at g4
          have hl := marks6 hm
          have h1 := stamp1_b (safeStamp e)
          simp only [List.foldl_cons, List.foldl_nil, if_true] at h1
          simp [g1, g2, g4, g5, g3, hv, hf, hasTx, entV, marksU, hl, partable, storable, U.size, h1]
theorem f103_is (h : G_f103 E) (x : Write) : E 30 [x.u] = some x.u := by
  rw [f103_E h]
  simp [Write.u]
theorem f104_l0_is (h : G_f104 E) (l : List Write) (hl : l.length ≤ 1048576) : ∀ (r p : List Write) (i : Int) (c : List U), l = p ++ r → i = p.length → c.length = r.length → (∀ z ∈ c, z.size = 2) →
    f104_l0 E (.sl 2 (l.map Write.u)) (.int .i64 i) (p.map Write.u ++ c) = some (.sl 2 (l.map Write.u))
  | [], p, i, c, e, hi, hc, _ => by
    obtain rfl : c = [] := List.length_eq_zero_iff.1 hc
    rw [f104_l0_eq]
    simp [mid_end e hi]
    simp [e]
  | x :: r, p, i, [], e, hi, hc, _ => by cases hc
  | x :: r, p, i, z :: c, e, hi, hc, hz => by
    obtain ⟨h0, hlt, hx, hw, hn, _⟩ := mid_at e hi (by omega)
    have hzs : z.size = 2 := hz z (by simp)
    obtain ⟨hg, hs, hlen⟩ := mid_set Write.u p z c hi
    have ih := f104_l0_is h l hl r (p ++ [x]) (i + 1) c (mid_next e) hn (by simpa using hc) (fun y hy => hz y (by simp [hy]))
    simp only [List.map_append, List.map_cons, List.map_nil, List.append_assoc, List.cons_append, List.nil_append] at ih
    rw [f104_l0_eq]
    simp only [hg, hs, hx, hw, asInt_int, bin_lss, lenOf_sl, List.length_map, Option.bind_some, asBool_bool, hlt, decide_true, if_true, h0, hlen, and_self, bin_add, f103_is h.c_f103 x, hzs, Write.u_var, Write.u_size, Write.u_storable, Write.u_partable]
    simpa using ih
theorem f104_is (h : G_f104 E) (l : List Write) (hl : l.length ≤ 1048576) : E 27 [.sl 2 (l.map Write.u)] = some (.sl 2 (l.map Write.u)) := by
  have h1 := f104_l0_is h l hl l [] 0 (List.replicate l.length (.agg [.int .i64 0, .int .i64 0])) rfl rfl (by simp) (by simp)
  rw [f104_E h]
  simp only [lenOf_sl, Option.bind_some, List.length_map]
  rw [if_pos (by refine ⟨by omega, by omega, by omega, rfl⟩)]
  simpa using h1
theorem f59_is (h : G_f59 E) (x y : Write) : E 36 [x.u, y.u] = some (.bool (decide (x = y))) := by
  rw [f59_E h]
  obtain ⟨a0, a1⟩ := x
  obtain ⟨b0, b1⟩ := y
  simp only [Write.mk.injEq]
  by_cases h0 : a0 = b0
  case neg => simp [h0]
  subst h0
  by_cases h1 : a1 = b1
  case neg => simp [h1]
  subst h1
  simp []
theorem f60_l0_is (h : G_f60 E) (a b : List Write) (ha : a.length ≤ 1048576) (hb : b.length ≤ 1048576) : ∀ (r s p p2 : List Write) (i : Int), a = p ++ r → b = p2 ++ s → i = p.length → i = p2.length → r.length = s.length →
    f60_l0 E (.sl 2 (a.map Write.u)) (.sl 2 (b.map Write.u)) (.int .i64 i) = some (.bool (decide (r = s)))
  | [], [], p, p2, i, e, e2, hi, hi2, _ => by
    rw [f60_l0_eq]
    simp [mid_end e hi]
  | [], y :: s, _, _, _, _, _, _, _, hl => by cases hl
  | x :: r, [], _, _, _, _, _, _, _, hl => by cases hl
  | x :: r, y :: s, p, p2, i, e, e2, hi, hi2, hl => by
    obtain ⟨h0, hlt, hx, hw, hn, _⟩ := mid_at e hi (by omega)
    obtain ⟨_, _, hy, _, hn2, _⟩ := mid_at e2 hi2 (by omega)
    have ih := f60_l0_is h a b ha hb r s (p ++ [x]) (p2 ++ [y]) (i + 1) (mid_next e) (mid_next e2) hn hn2 (by simpa using hl)
    rw [f60_l0_eq]
    by_cases hxy : x = y
    · subst hxy
      simp [hlt, hx, hy, hw, ih, f59_is h.c_f59]
    · simp [hlt, hx, hy, hw, ih, f59_is h.c_f59, hxy]
theorem f60_is (h : G_f60 E) (a b : List Write) (ha : a.length ≤ 1048576) (hb : b.length ≤ 1048576) : E 33 [.sl 2 (a.map Write.u), .sl 2 (b.map Write.u)] = some (.bool (decide (a = b))) := by
  rw [f60_E h]
  by_cases hl : a.length = b.length
  · simp [hl, f60_l0_is h a b ha hb a b [] [] 0 rfl rfl rfl rfl hl]
  · have h1 : a ≠ b := fun e => hl (by rw [e])
    have h2 : (a.length : Int) ≠ b.length := by omega
    simp [h1, h2]
theorem f80_is (h : G_f80 E) (l : List Write) (hl : l.length ≤ maxLen) (left : Int) (h0 : 0 ≤ left) (h1 : left ≤ 1048576) : E 23 [.sl 2 (l.map Write.u), .int .i64 left] = some (.int .i64 (szc l.length left)) := by
  rw [f80_E h]
  unfold maxLen at hl
  have hw : IntKind.i64.wrap (left - (l.length : Int)) = left - l.length := wrap_in (by omega)
  by_cases h2 : left - (l.length : Int) < 0 <;> simp [hw, szc, h2]
theorem f95_is (h : G_f95 E) (x : Version) : E 109 [x.u] = some x.u := by
  rw [f95_E h]
  simp [Version.u]
theorem f96_l0_is (h : G_f96 E) (l : List Version) (hl : l.length ≤ 1048576) : ∀ (r p : List Version) (i : Int) (c : List U), l = p ++ r → i = p.length → c.length = r.length → (∀ z ∈ c, z.size = 5) →
    f96_l0 E (.sl 5 (l.map Version.u)) (.int .i64 i) (p.map Version.u ++ c) = some (.sl 5 (l.map Version.u))
  | [], p, i, c, e, hi, hc, _ => by
    obtain rfl : c = [] := List.length_eq_zero_iff.1 hc
    rw [f96_l0_eq]
    simp [mid_end e hi]
    simp [e]
  | x :: r, p, i, [], e, hi, hc, _ => by cases hc
  | x :: r, p, i, z :: c, e, hi, hc, hz => by
    obtain ⟨h0, hlt, hx, hw, hn, _⟩ := mid_at e hi (by omega)
    have hzs : z.size = 5 := hz z (by simp)
    obtain ⟨hg, hs, hlen⟩ := mid_set Version.u p z c hi
    have ih := f96_l0_is h l hl r (p ++ [x]) (i + 1) c (mid_next e) hn (by simpa using hc) (fun y hy => hz y (by simp [hy]))
    simp only [List.map_append, List.map_cons, List.map_nil, List.append_assoc, List.cons_append, List.nil_append] at ih
    rw [f96_l0_eq]
    simp only [hg, hs, hx, hw, asInt_int, bin_lss, lenOf_sl, List.length_map, Option.bind_some, asBool_bool, hlt, decide_true, if_true, h0, hlen, and_self, bin_add, f95_is h.c_f95 x, hzs, Version.u_var, Version.u_size, Version.u_storable, Version.u_partable]
    simpa using ih
theorem f96_is (h : G_f96 E) (l : List Version) (hl : l.length ≤ 1048576) : E 108 [.sl 5 (l.map Version.u)] = some (.sl 5 (l.map Version.u)) := by
  have h1 := f96_l0_is h l hl l [] 0 (List.replicate l.length (.agg [.int .i64 0, .int .i64 0, .int .i64 0, .int .i64 0, .int .i64 0])) rfl rfl (by simp) (by simp)
  rw [f96_E h]
  simp only [lenOf_sl, Option.bind_some, List.length_map]
  rw [if_pos (by refine ⟨by omega, by omega, by omega, rfl⟩)]
  simpa using h1
theorem f54_is (h : G_f54 E) (x y : Version) : E 120 [x.u, y.u] = some (.bool (decide (x = y))) := by
  rw [f54_E h]
  obtain ⟨a0, a1, a2, a3, a4⟩ := x
  obtain ⟨b0, b1, b2, b3, b4⟩ := y
  simp only [Version.mk.injEq]
  by_cases h0 : a0 = b0
  case neg => simp [h0]
  subst h0
  by_cases h1 : a1 = b1
  case neg => simp [h1]
  subst h1
  by_cases h2 : a2 = b2
  case neg => simp [h2]
  subst h2
  by_cases h3 : a3 = b3
  case neg => simp [h3]
  subst h3
  by_cases h4 : a4 = b4
  case neg => simp [h4]
  subst h4
  simp []
theorem f55_l0_is (h : G_f55 E) (a b : List Version) (ha : a.length ≤ 1048576) (hb : b.length ≤ 1048576) : ∀ (r s p p2 : List Version) (i : Int), a = p ++ r → b = p2 ++ s → i = p.length → i = p2.length → r.length = s.length →
    f55_l0 E (.sl 5 (a.map Version.u)) (.sl 5 (b.map Version.u)) (.int .i64 i) = some (.bool (decide (r = s)))
  | [], [], p, p2, i, e, e2, hi, hi2, _ => by
    rw [f55_l0_eq]
    simp [mid_end e hi]
  | [], y :: s, _, _, _, _, _, _, _, hl => by cases hl
  | x :: r, [], _, _, _, _, _, _, _, hl => by cases hl
  | x :: r, y :: s, p, p2, i, e, e2, hi, hi2, hl => by
    obtain ⟨h0, hlt, hx, hw, hn, _⟩ := mid_at e hi (by omega)
    obtain ⟨_, _, hy, _, hn2, _⟩ := mid_at e2 hi2 (by omega)
    have ih := f55_l0_is h a b ha hb r s (p ++ [x]) (p2 ++ [y]) (i + 1) (mid_next e) (mid_next e2) hn hn2 (by simpa using hl)
    rw [f55_l0_eq]
    by_cases hxy : x = y
    · subst hxy
      simp [hlt, hx, hy, hw, ih, f54_is h.c_f54]
    · simp [hlt, hx, hy, hw, ih, f54_is h.c_f54, hxy]
theorem f55_is (h : G_f55 E) (a b : List Version) (ha : a.length ≤ 1048576) (hb : b.length ≤ 1048576) : E 119 [.sl 5 (a.map Version.u), .sl 5 (b.map Version.u)] = some (.bool (decide (a = b))) := by
  rw [f55_E h]
  by_cases hl : a.length = b.length
  · simp [hl, f55_l0_is h a b ha hb a b [] [] 0 rfl rfl rfl rfl hl]
  · have h1 : a ≠ b := fun e => hl (by rw [e])
    have h2 : (a.length : Int) ≠ b.length := by omega
    simp [h1, h2]
theorem f77_is (h : G_f77 E) (l : List Version) (hl : l.length ≤ maxLen) (left : Int) (h0 : 0 ≤ left) (h1 : left ≤ 1048576) : E 101 [.sl 5 (l.map Version.u), .int .i64 left] = some (.int .i64 (szc l.length left)) := by
  rw [f77_E h]
  unfold maxLen at hl
  have hw : IntKind.i64.wrap (left - (l.length : Int)) = left - l.length := wrap_in (by omega)
  by_cases h2 : left - (l.length : Int) < 0 <;> simp [hw, szc, h2]
theorem f96_ch (h : G_f96 E) (x : List Version) (hx : chainOk x) : E 108 [chainU x] = some (chainU x) := f96_is h x hx
theorem f55_ch (h : G_f55 E) (x y : List Version) (hx : chainOk x) (hy : chainOk y) : E 119 [chainU x, chainU y] = some (.bool (decide (x = y))) := f55_is h x y hx hy
theorem f77_ch (h : G_f77 E) (x : List Version) (hx : chainFit x) (left : Int) (h0 : 0 ≤ left) (h1 : left ≤ 1048576) : E 101 [chainU x, .int .i64 left] = some (.int .i64 (chainSz x left)) := f77_is h x hx left h0 h1
theorem f97_l0_is (h : G_f97 E) (l : List (List Version)) (hl : l.length ≤ 1048576) (hok : ∀ x ∈ l, chainOk x) : ∀ (r p : List (List Version)) (i : Int) (c : List U), l = p ++ r → i = p.length → c.length = r.length → (∀ z ∈ c, z.size = 1) →
    f97_l0 E (.sl 1 (l.map chainU)) (.int .i64 i) (p.map chainU ++ c) = some (.sl 1 (l.map chainU))
  | [], p, i, c, e, hi, hc, _ => by
    obtain rfl : c = [] := List.length_eq_zero_iff.1 hc
    rw [f97_l0_eq]
    simp [mid_end e hi]
    simp [e]
  | x :: r, p, i, [], e, hi, hc, _ => by cases hc
  | x :: r, p, i, z :: c, e, hi, hc, hz => by
    obtain ⟨h0, hlt, hx, hw, hn, _⟩ := mid_at e hi (by omega)
    have hox : chainOk x := hok x (by rw [e]; simp)
    have hzs : z.size = 1 := hz z (by simp)
    obtain ⟨hg, hs, hlen⟩ := mid_set chainU p z c hi
    have ih := f97_l0_is h l hl hok r (p ++ [x]) (i + 1) c (mid_next e) hn (by simpa using hc) (fun y hy => hz y (by simp [hy]))
    simp only [List.map_append, List.map_cons, List.map_nil, List.append_assoc, List.cons_append, List.nil_append] at ih
    rw [f97_l0_eq]
    simp only [hg, hs, hx, hw, asInt_int, bin_lss, lenOf_sl, List.length_map, Option.bind_some, asBool_bool, hlt, decide_true, if_true, h0, hlen, and_self, bin_add, f96_ch h.c_f96 x hox, hzs, asVar_chainU, chainU_size, storable_chainU, partable_chainU]
    simpa using ih
theorem f97_is (h : G_f97 E) (l : List (List Version)) (hl : l.length ≤ 1048576) (hok : ∀ x ∈ l, chainOk x) : E 107 [.sl 1 (l.map chainU)] = some (.sl 1 (l.map chainU)) := by
  have h1 := f97_l0_is h l hl hok l [] 0 (List.replicate l.length (.nsl 5)) rfl rfl (by simp) (by simp)
  rw [f97_E h]
  simp only [lenOf_sl, Option.bind_some, List.length_map]
  rw [if_pos (by refine ⟨by omega, by omega, by omega, rfl⟩)]
  simpa using h1
theorem f56_l0_is (h : G_f56 E) (a b : List (List Version)) (ha : a.length ≤ 1048576) (hb : b.length ≤ 1048576) (hao : ∀ x ∈ a, chainOk x) (hbo : ∀ x ∈ b, chainOk x) : ∀ (r s p p2 : List (List Version)) (i : Int), a = p ++ r → b = p2 ++ s → i = p.length → i = p2.length → r.length = s.length →
    f56_l0 E (.sl 1 (a.map chainU)) (.sl 1 (b.map chainU)) (.int .i64 i) = some (.bool (decide (r = s)))
  | [], [], p, p2, i, e, e2, hi, hi2, _ => by
    rw [f56_l0_eq]
    simp [mid_end e hi]
  | [], y :: s, _, _, _, _, _, _, _, hl => by cases hl
  | x :: r, [], _, _, _, _, _, _, _, hl => by cases hl
  | x :: r, y :: s, p, p2, i, e, e2, hi, hi2, hl => by
    obtain ⟨h0, hlt, hx, hw, hn, _⟩ := mid_at e hi (by omega)
    obtain ⟨_, _, hy, _, hn2, _⟩ := mid_at e2 hi2 (by omega)
    have hox : chainOk x := hao x (by rw [e]; simp)
    have hoy : chainOk y := hbo y (by rw [e2]; simp)
    have ih := f56_l0_is h a b ha hb hao hbo r s (p ++ [x]) (p2 ++ [y]) (i + 1) (mid_next e) (mid_next e2) hn hn2 (by simpa using hl)
    rw [f56_l0_eq]
    by_cases hxy : x = y
    · subst hxy
      simp [hlt, hx, hy, hw, ih, f55_ch h.c_f55 _ _ hox hoy]
    · simp [hlt, hx, hy, hw, ih, f55_ch h.c_f55 _ _ hox hoy, hxy]
theorem f56_is (h : G_f56 E) (a b : List (List Version)) (ha : a.length ≤ 1048576) (hb : b.length ≤ 1048576) (hao : ∀ x ∈ a, chainOk x) (hbo : ∀ x ∈ b, chainOk x) : E 118 [.sl 1 (a.map chainU), .sl 1 (b.map chainU)] = some (.bool (decide (a = b))) := by
  rw [f56_E h]
  by_cases hl : a.length = b.length
  · simp [hl, f56_l0_is h a b ha hb hao hbo a b [] [] 0 rfl rfl rfl rfl hl]
  · have h1 : a ≠ b := fun e => hl (by rw [e])
    have h2 : (a.length : Int) ≠ b.length := by omega
    simp [h1, h2]
theorem f78_l0_is (h : G_f78 E) (l : List (List Version)) (hl : l.length ≤ 1048576) (hf : ∀ x ∈ l, chainFit x) : ∀ (r p : List (List Version)) (i left : Int), l = p ++ r → i = p.length → 0 ≤ left → left ≤ 1048576 →
    f78_l0 E (.sl 1 (l.map chainU)) (.int .i64 left) (.int .i64 i) = some (.int .i64 (szl chainSz r left))
  | [], p, i, left, e, hi, _, _ => by
    rw [f78_l0_eq]
    simp [mid_end e hi, szl]
  | x :: r, p, i, left, e, hi, h1, h2 => by
    obtain ⟨h0, hlt, hx, hw, hn, _⟩ := mid_at e hi (by omega)
    have hfx : chainFit x := hf x (by rw [e]; simp)
    rw [f78_l0_eq]
    rcases chainSz_szs x left h1 h2 with h3 | ⟨_, h3, h4⟩
    · simp [hlt, hx, hw, szl, f77_ch h.c_f77 x hfx left h1 h2, h3]
    · have ih := f78_l0_is h l hl hf r (p ++ [x]) (i + 1) (chainSz x left) (mid_next e) hn h3 (by omega)
      have h5 : ¬ chainSz x left < 0 := by omega
      simp [hlt, hx, hw, szl, f77_ch h.c_f77 x hfx left h1 h2, h5, ih]
theorem f78_is (h : G_f78 E) (l : List (List Version)) (hl : l.length ≤ maxLen) (hf : ∀ x ∈ l, chainFit x) (left : Int) (h0 : 0 ≤ left) (h1 : left ≤ 1048576) : E 100 [.sl 1 (l.map chainU), .int .i64 left] = some (.int .i64 (szL chainSz l left)) := by
  rw [f78_E h]
  unfold maxLen at hl
  have hw : IntKind.i64.wrap (left - (l.length : Int)) = left - l.length := wrap_in (by omega)
  by_cases h2 : left - (l.length : Int) < 0
  · simp [hw, szL, h2]
  · simp [hw, szL, h2, f78_l0_is h l (by omega) hf l [] 0 (left - l.length) rfl rfl (by omega) (by omega)]
theorem f89_is (h : G_f89 E) (s : Store) (ho : s.ok) : E 93 [s.u] = some s.u := by
  rw [f89_E h]
  have h1 := f97_is h.c_f97 s.chains ho.1 ho.2
  simp [h1]
  rfl
theorem f51_is (h : G_f51 E) (s t : Store) (ho : s.ok) (ho2 : t.ok) : E 97 [s.u, t.u] = some (.bool (decide (s = t))) := by
  rw [f51_E h]
  have h1 := f56_is h.c_f56 s.chains t.chains ho.1 ho2.1 ho.2 ho2.2
  by_cases h2 : s.chains = t.chains <;> simp [h1, h2, Store.eq_iff]
  rw [h2] at h1
  simp [h1]
theorem f74_is (h : G_f74 E) (s : Store) (hf : s.fit) (left : Int) (h0 : 0 ≤ left) (h1 : left ≤ 1048576) : E 99 [s.u, .int .i64 left] = some (.int .i64 (s.sz left)) := by
  rw [f74_E h]
  have a1 := f78_is h.c_f78 s.chains hf.1 hf.2 left h0 h1
  by_cases h2 : szL chainSz s.chains left < 0
  · have h3 := szL_neg chainSz_neg h2
    simp [a1, h3, Store.sz]
  · simp [a1, h2, Store.sz]
theorem f75_is (h : G_f75 E) (x : Transaction) (hf : x.fit) (left : Int) (h0 : 0 ≤ left) (h1 : left ≤ 1048576) : E 132 [x.u, .int .i64 left] = some (.int .i64 (x.sz left)) := by
  rw [f75_E h]
  obtain ⟨hf1, hf2⟩ := hf
  have a1 := f73_is h.c_f73 x.reads hf1 left h0 h1
  rcases szc_szs x.reads.length left h0 h1 with h2 | ⟨_, h3, h4⟩
  · simp [a1, Transaction.sz, h2]
  · have h5 : ¬ szc x.reads.length left < 0 := by omega
    have a2 := f80_is h.c_f80 x.writes hf2 _ h3 (by omega)
    by_cases h6 : szc x.writes.length (szc x.reads.length left) < 0
    · have h7 : szc x.writes.length (szc x.reads.length left) = -1 := szc_neg h6
      simp [a1, a2, Transaction.sz, h5, h7]
    · simp [a1, a2, Transaction.sz, h5, h6]
theorem f91_is (h : G_f91 E) (x : Transaction) (ho : x.ok) : E 145 [x.u] = some x.u := by
  rw [f91_E h]
  simp [Transaction.u, f87_is h.c_f87 x.reads ho.1, f104_is h.c_f104 x.writes ho.2]
theorem f52_is (h : G_f52 E) (x y : Transaction) (hx : x.ok) (hy : y.ok) : E 177 [x.u, y.u] = some (.bool (decide (x = y))) := by
  rw [f52_E h]
  obtain ⟨a0, a1, a2, a3, a4, a5, a6, a7, a8⟩ := x
  obtain ⟨b0, b1, b2, b3, b4, b5, b6, b7, b8⟩ := y
  simp only [Transaction.mk.injEq]
  by_cases h0 : a0 = b0
  case neg => simp [f50_is h.c_f50 a7 b7 hx.1 hy.1, f60_is h.c_f60 a8 b8 hx.2 hy.2, h0]
  subst h0
  by_cases h1 : a1 = b1
  case neg => simp [f50_is h.c_f50 a7 b7 hx.1 hy.1, f60_is h.c_f60 a8 b8 hx.2 hy.2, h1]
  subst h1
  by_cases h2 : a2 = b2
  case neg => simp [f50_is h.c_f50 a7 b7 hx.1 hy.1, f60_is h.c_f60 a8 b8 hx.2 hy.2, h2]
  subst h2
  by_cases h3 : a3 = b3
  case neg => simp [f50_is h.c_f50 a7 b7 hx.1 hy.1, f60_is h.c_f60 a8 b8 hx.2 hy.2, h3]
  subst h3
  by_cases h4 : a4 = b4
  case neg => simp [f50_is h.c_f50 a7 b7 hx.1 hy.1, f60_is h.c_f60 a8 b8 hx.2 hy.2, h4]
  subst h4
  by_cases h5 : a5 = b5
  case neg => simp [f50_is h.c_f50 a7 b7 hx.1 hy.1, f60_is h.c_f60 a8 b8 hx.2 hy.2, h5]
  subst h5
  by_cases h6 : a6 = b6
  case neg => simp [f50_is h.c_f50 a7 b7 hx.1 hy.1, f60_is h.c_f60 a8 b8 hx.2 hy.2, h6]
  subst h6
  by_cases h7 : a7 = b7
  case neg => simp [f50_is h.c_f50 a7 b7 hx.1 hy.1, f60_is h.c_f60 a8 b8 hx.2 hy.2, h7]
  subst h7
  by_cases h8 : a8 = b8
  case neg => simp [f50_is h.c_f50 a7 a7 hx.1 hy.1, f60_is h.c_f60 a8 b8 hx.2 hy.2, h8]
  subst h8
  simp [f50_is h.c_f50 a7 a7 hx.1 hy.1, f60_is h.c_f60 a8 a8 hx.2 hy.2]
theorem f92_l0_is (h : G_f92 E) (l : List Transaction) (hl : l.length ≤ 1048576) (hok : ∀ x ∈ l, Transaction.ok x) : ∀ (r p : List Transaction) (i : Int) (c : List U), l = p ++ r → i = p.length → c.length = r.length → (∀ z ∈ c, z.size = 9) →
    f92_l0 E (.sl 9 (l.map Transaction.u)) (.int .i64 i) (p.map Transaction.u ++ c) = some (.sl 9 (l.map Transaction.u))
  | [], p, i, c, e, hi, hc, _ => by
    obtain rfl : c = [] := List.length_eq_zero_iff.1 hc
    rw [f92_l0_eq]
    simp [mid_end e hi]
    simp [e]
  | x :: r, p, i, [], e, hi, hc, _ => by cases hc
  | x :: r, p, i, z :: c, e, hi, hc, hz => by
    obtain ⟨h0, hlt, hx, hw, hn, _⟩ := mid_at e hi (by omega)
    have hox : Transaction.ok x := hok x (by rw [e]; simp)
    have hzs : z.size = 9 := hz z (by simp)
    obtain ⟨hg, hs, hlen⟩ := mid_set Transaction.u p z c hi
    have ih := f92_l0_is h l hl hok r (p ++ [x]) (i + 1) c (mid_next e) hn (by simpa using hc) (fun y hy => hz y (by simp [hy]))
    simp only [List.map_append, List.map_cons, List.map_nil, List.append_assoc, List.cons_append, List.nil_append] at ih
    rw [f92_l0_eq]
    simp only [hg, hs, hx, hw, asInt_int, bin_lss, lenOf_sl, List.length_map, Option.bind_some, asBool_bool, hlt, decide_true, if_true, h0, hlen, and_self, bin_add, f91_is h.c_f91 x hox, hzs, Transaction.u_var, Transaction.u_size, Transaction.u_storable, Transaction.u_partable]
    simpa using ih
theorem f92_is (h : G_f92 E) (l : List Transaction) (hl : l.length ≤ 1048576) (hok : ∀ x ∈ l, Transaction.ok x) : E 144 [.sl 9 (l.map Transaction.u)] = some (.sl 9 (l.map Transaction.u)) := by
  have h1 := f92_l0_is h l hl hok l [] 0 (List.replicate l.length (.agg [.int .i64 0, .int .i64 0, .int .i64 0, .int .i64 0, .int .i64 0, .int .i64 0, .int .i64 0, .nsl 2, .nsl 2])) rfl rfl (by simp) (by simp)
  rw [f92_E h]
  simp only [lenOf_sl, Option.bind_some, List.length_map]
  rw [if_pos (by refine ⟨by omega, by omega, by omega, rfl⟩)]
  simpa using h1
theorem f53_l0_is (h : G_f53 E) (a b : List Transaction) (ha : a.length ≤ 1048576) (hb : b.length ≤ 1048576) (hao : ∀ x ∈ a, Transaction.ok x) (hbo : ∀ x ∈ b, Transaction.ok x) : ∀ (r s p p2 : List Transaction) (i : Int), a = p ++ r → b = p2 ++ s → i = p.length → i = p2.length → r.length = s.length →
    f53_l0 E (.sl 9 (a.map Transaction.u)) (.sl 9 (b.map Transaction.u)) (.int .i64 i) = some (.bool (decide (r = s)))
  | [], [], p, p2, i, e, e2, hi, hi2, _ => by
    rw [f53_l0_eq]
    simp [mid_end e hi]
  | [], y :: s, _, _, _, _, _, _, _, hl => by cases hl
  | x :: r, [], _, _, _, _, _, _, _, hl => by cases hl
  | x :: r, y :: s, p, p2, i, e, e2, hi, hi2, hl => by
    obtain ⟨h0, hlt, hx, hw, hn, _⟩ := mid_at e hi (by omega)
    obtain ⟨_, _, hy, _, hn2, _⟩ := mid_at e2 hi2 (by omega)
    have hox : Transaction.ok x := hao x (by rw [e]; simp)
    have hoy : Transaction.ok y := hbo y (by rw [e2]; simp)
    have ih := f53_l0_is h a b ha hb hao hbo r s (p ++ [x]) (p2 ++ [y]) (i + 1) (mid_next e) (mid_next e2) hn hn2 (by simpa using hl)
    rw [f53_l0_eq]
    by_cases hxy : x = y
    · subst hxy
      simp [hlt, hx, hy, hw, ih, f52_is h.c_f52 _ _ hox hoy]
    · simp [hlt, hx, hy, hw, ih, f52_is h.c_f52 _ _ hox hoy, hxy]
theorem f53_is (h : G_f53 E) (a b : List Transaction) (ha : a.length ≤ 1048576) (hb : b.length ≤ 1048576) (hao : ∀ x ∈ a, Transaction.ok x) (hbo : ∀ x ∈ b, Transaction.ok x) : E 176 [.sl 9 (a.map Transaction.u), .sl 9 (b.map Transaction.u)] = some (.bool (decide (a = b))) := by
  rw [f53_E h]
  by_cases hl : a.length = b.length
  · simp [hl, f53_l0_is h a b ha hb hao hbo a b [] [] 0 rfl rfl rfl rfl hl]
  · have h1 : a ≠ b := fun e => hl (by rw [e])
    have h2 : (a.length : Int) ≠ b.length := by omega
    simp [h1, h2]
theorem f76_l0_is (h : G_f76 E) (l : List Transaction) (hl : l.length ≤ 1048576) (hf : ∀ x ∈ l, Transaction.fit x) : ∀ (r p : List Transaction) (i left : Int), l = p ++ r → i = p.length → 0 ≤ left → left ≤ 1048576 →
    f76_l0 E (.sl 9 (l.map Transaction.u)) (.int .i64 left) (.int .i64 i) = some (.int .i64 (szl Transaction.sz r left))
  | [], p, i, left, e, hi, _, _ => by
    rw [f76_l0_eq]
    simp [mid_end e hi, szl]
  | x :: r, p, i, left, e, hi, h1, h2 => by
    obtain ⟨h0, hlt, hx, hw, hn, _⟩ := mid_at e hi (by omega)
    have hfx : Transaction.fit x := hf x (by rw [e]; simp)
    rw [f76_l0_eq]
    rcases Transaction.sz_szs x left h1 h2 with h3 | ⟨_, h3, h4⟩
    · simp [hlt, hx, hw, szl, f75_is h.c_f75 x hfx left h1 h2, h3]
    · have ih := f76_l0_is h l hl hf r (p ++ [x]) (i + 1) (Transaction.sz x left) (mid_next e) hn h3 (by omega)
      have h5 : ¬ Transaction.sz x left < 0 := by omega
      simp [hlt, hx, hw, szl, f75_is h.c_f75 x hfx left h1 h2, h5, ih]
theorem f76_is (h : G_f76 E) (l : List Transaction) (hl : l.length ≤ maxLen) (hf : ∀ x ∈ l, Transaction.fit x) (left : Int) (h0 : 0 ≤ left) (h1 : left ≤ 1048576) : E 131 [.sl 9 (l.map Transaction.u), .int .i64 left] = some (.int .i64 (szL Transaction.sz l left)) := by
  rw [f76_E h]
  unfold maxLen at hl
  have hw : IntKind.i64.wrap (left - (l.length : Int)) = left - l.length := wrap_in (by omega)
  by_cases h2 : left - (l.length : Int) < 0
  · simp [hw, szL, h2]
  · simp [hw, szL, h2, f76_l0_is h l (by omega) hf l [] 0 (left - l.length) rfl rfl (by omega) (by omega)]
theorem f83_is (h : G_f83 E) (x : Lock) : E 146 [x.u] = some x.u := by
  rw [f83_E h]
  simp [Lock.u]
theorem f84_l0_is (h : G_f84 E) (l : List Lock) (hl : l.length ≤ 1048576) : ∀ (r p : List Lock) (i : Int) (c : List U), l = p ++ r → i = p.length → c.length = r.length → (∀ z ∈ c, z.size = 2) →
    f84_l0 E (.sl 2 (l.map Lock.u)) (.int .i64 i) (p.map Lock.u ++ c) = some (.sl 2 (l.map Lock.u))
  | [], p, i, c, e, hi, hc, _ => by
    obtain rfl : c = [] := List.length_eq_zero_iff.1 hc
    rw [f84_l0_eq]
    simp [mid_end e hi]
    simp [e]
  | x :: r, p, i, [], e, hi, hc, _ => by cases hc
  | x :: r, p, i, z :: c, e, hi, hc, hz => by
    obtain ⟨h0, hlt, hx, hw, hn, _⟩ := mid_at e hi (by omega)
    have hzs : z.size = 2 := hz z (by simp)
    obtain ⟨hg, hs, hlen⟩ := mid_set Lock.u p z c hi
    have ih := f84_l0_is h l hl r (p ++ [x]) (i + 1) c (mid_next e) hn (by simpa using hc) (fun y hy => hz y (by simp [hy]))
    simp only [List.map_append, List.map_cons, List.map_nil, List.append_assoc, List.cons_append, List.nil_append] at ih
    rw [f84_l0_eq]
    simp only [hg, hs, hx, hw, asInt_int, bin_lss, lenOf_sl, List.length_map, Option.bind_some, asBool_bool, hlt, decide_true, if_true, h0, hlen, and_self, bin_add, f83_is h.c_f83 x, hzs, Lock.u_var, Lock.u_size, Lock.u_storable, Lock.u_partable]
    simpa using ih
theorem f84_is (h : G_f84 E) (l : List Lock) (hl : l.length ≤ 1048576) : E 143 [.sl 2 (l.map Lock.u)] = some (.sl 2 (l.map Lock.u)) := by
  have h1 := f84_l0_is h l hl l [] 0 (List.replicate l.length (.agg [.int .i64 0, .int .i64 0])) rfl rfl (by simp) (by simp)
  rw [f84_E h]
  simp only [lenOf_sl, Option.bind_some, List.length_map]
  rw [if_pos (by refine ⟨by omega, by omega, by omega, rfl⟩)]
  simpa using h1
theorem f47_is (h : G_f47 E) (x y : Lock) : E 178 [x.u, y.u] = some (.bool (decide (x = y))) := by
  rw [f47_E h]
  obtain ⟨a0, a1⟩ := x
  obtain ⟨b0, b1⟩ := y
  simp only [Lock.mk.injEq]
  by_cases h0 : a0 = b0
  case neg => simp [h0]
  subst h0
  by_cases h1 : a1 = b1
  case neg => simp [h1]
  subst h1
  simp []
theorem f48_l0_is (h : G_f48 E) (a b : List Lock) (ha : a.length ≤ 1048576) (hb : b.length ≤ 1048576) : ∀ (r s p p2 : List Lock) (i : Int), a = p ++ r → b = p2 ++ s → i = p.length → i = p2.length → r.length = s.length →
    f48_l0 E (.sl 2 (a.map Lock.u)) (.sl 2 (b.map Lock.u)) (.int .i64 i) = some (.bool (decide (r = s)))
  | [], [], p, p2, i, e, e2, hi, hi2, _ => by
    rw [f48_l0_eq]
    simp [mid_end e hi]
  | [], y :: s, _, _, _, _, _, _, _, hl => by cases hl
  | x :: r, [], _, _, _, _, _, _, _, hl => by cases hl
  | x :: r, y :: s, p, p2, i, e, e2, hi, hi2, hl => by
    obtain ⟨h0, hlt, hx, hw, hn, _⟩ := mid_at e hi (by omega)
    obtain ⟨_, _, hy, _, hn2, _⟩ := mid_at e2 hi2 (by omega)
    have ih := f48_l0_is h a b ha hb r s (p ++ [x]) (p2 ++ [y]) (i + 1) (mid_next e) (mid_next e2) hn hn2 (by simpa using hl)
    rw [f48_l0_eq]
    by_cases hxy : x = y
    · subst hxy
      simp [hlt, hx, hy, hw, ih, f47_is h.c_f47]
    · simp [hlt, hx, hy, hw, ih, f47_is h.c_f47, hxy]
theorem f48_is (h : G_f48 E) (a b : List Lock) (ha : a.length ≤ 1048576) (hb : b.length ≤ 1048576) : E 175 [.sl 2 (a.map Lock.u), .sl 2 (b.map Lock.u)] = some (.bool (decide (a = b))) := by
  rw [f48_E h]
  by_cases hl : a.length = b.length
  · simp [hl, f48_l0_is h a b ha hb a b [] [] 0 rfl rfl rfl rfl hl]
  · have h1 : a ≠ b := fun e => hl (by rw [e])
    have h2 : (a.length : Int) ≠ b.length := by omega
    simp [h1, h2]
theorem f72_is (h : G_f72 E) (l : List Lock) (hl : l.length ≤ maxLen) (left : Int) (h0 : 0 ≤ left) (h1 : left ≤ 1048576) : E 130 [.sl 2 (l.map Lock.u), .int .i64 left] = some (.int .i64 (szc l.length left)) := by
  rw [f72_E h]
  unfold maxLen at hl
  have hw : IntKind.i64.wrap (left - (l.length : Int)) = left - l.length := wrap_in (by omega)
  by_cases h2 : left - (l.length : Int) < 0 <;> simp [hw, szc, h2]
theorem f100_is (h : G_f100 E) (x : Wait) : E 147 [x.u] = some x.u := by
  rw [f100_E h]
  simp [Wait.u]
theorem f101_l0_is (h : G_f101 E) (l : List Wait) (hl : l.length ≤ 1048576) : ∀ (r p : List Wait) (i : Int) (c : List U), l = p ++ r → i = p.length → c.length = r.length → (∀ z ∈ c, z.size = 2) →
    f101_l0 E (.sl 2 (l.map Wait.u)) (.int .i64 i) (p.map Wait.u ++ c) = some (.sl 2 (l.map Wait.u))
  | [], p, i, c, e, hi, hc, _ => by
    obtain rfl : c = [] := List.length_eq_zero_iff.1 hc
    rw [f101_l0_eq]
    simp [mid_end e hi]
    simp [e]
  | x :: r, p, i, [], e, hi, hc, _ => by cases hc
  | x :: r, p, i, z :: c, e, hi, hc, hz => by
    obtain ⟨h0, hlt, hx, hw, hn, _⟩ := mid_at e hi (by omega)
    have hzs : z.size = 2 := hz z (by simp)
    obtain ⟨hg, hs, hlen⟩ := mid_set Wait.u p z c hi
    have ih := f101_l0_is h l hl r (p ++ [x]) (i + 1) c (mid_next e) hn (by simpa using hc) (fun y hy => hz y (by simp [hy]))
    simp only [List.map_append, List.map_cons, List.map_nil, List.append_assoc, List.cons_append, List.nil_append] at ih
    rw [f101_l0_eq]
    simp only [hg, hs, hx, hw, asInt_int, bin_lss, lenOf_sl, List.length_map, Option.bind_some, asBool_bool, hlt, decide_true, if_true, h0, hlen, and_self, bin_add, f100_is h.c_f100 x, hzs, Wait.u_var, Wait.u_size, Wait.u_storable, Wait.u_partable]
    simpa using ih
theorem f101_is (h : G_f101 E) (l : List Wait) (hl : l.length ≤ 1048576) : E 142 [.sl 2 (l.map Wait.u)] = some (.sl 2 (l.map Wait.u)) := by
  have h1 := f101_l0_is h l hl l [] 0 (List.replicate l.length (.agg [.int .i64 0, .int .i64 0])) rfl rfl (by simp) (by simp)
  rw [f101_E h]
  simp only [lenOf_sl, Option.bind_some, List.length_map]
  rw [if_pos (by refine ⟨by omega, by omega, by omega, rfl⟩)]
  simpa using h1
theorem f57_is (h : G_f57 E) (x y : Wait) : E 179 [x.u, y.u] = some (.bool (decide (x = y))) := by
  rw [f57_E h]
  obtain ⟨a0, a1⟩ := x
  obtain ⟨b0, b1⟩ := y
  simp only [Wait.mk.injEq]
  by_cases h0 : a0 = b0
  case neg => simp [h0]
  subst h0
  by_cases h1 : a1 = b1
  case neg => simp [h1]
  subst h1
  simp []
theorem f58_l0_is (h : G_f58 E) (a b : List Wait) (ha : a.length ≤ 1048576) (hb : b.length ≤ 1048576) : ∀ (r s p p2 : List Wait) (i : Int), a = p ++ r → b = p2 ++ s → i = p.length → i = p2.length → r.length = s.length →
    f58_l0 E (.sl 2 (a.map Wait.u)) (.sl 2 (b.map Wait.u)) (.int .i64 i) = some (.bool (decide (r = s)))
  | [], [], p, p2, i, e, e2, hi, hi2, _ => by
    rw [f58_l0_eq]
    simp [mid_end e hi]
  | [], y :: s, _, _, _, _, _, _, _, hl => by cases hl
  | x :: r, [], _, _, _, _, _, _, _, hl => by cases hl
  | x :: r, y :: s, p, p2, i, e, e2, hi, hi2, hl => by
    obtain ⟨h0, hlt, hx, hw, hn, _⟩ := mid_at e hi (by omega)
    obtain ⟨_, _, hy, _, hn2, _⟩ := mid_at e2 hi2 (by omega)
    have ih := f58_l0_is h a b ha hb r s (p ++ [x]) (p2 ++ [y]) (i + 1) (mid_next e) (mid_next e2) hn hn2 (by simpa using hl)
    rw [f58_l0_eq]
    by_cases hxy : x = y
    · subst hxy
      simp [hlt, hx, hy, hw, ih, f57_is h.c_f57]
    · simp [hlt, hx, hy, hw, ih, f57_is h.c_f57, hxy]
theorem f58_is (h : G_f58 E) (a b : List Wait) (ha : a.length ≤ 1048576) (hb : b.length ≤ 1048576) : E 174 [.sl 2 (a.map Wait.u), .sl 2 (b.map Wait.u)] = some (.bool (decide (a = b))) := by
  rw [f58_E h]
  by_cases hl : a.length = b.length
  · simp [hl, f58_l0_is h a b ha hb a b [] [] 0 rfl rfl rfl rfl hl]
  · have h1 : a ≠ b := fun e => hl (by rw [e])
    have h2 : (a.length : Int) ≠ b.length := by omega
    simp [h1, h2]
theorem f79_is (h : G_f79 E) (l : List Wait) (hl : l.length ≤ maxLen) (left : Int) (h0 : 0 ≤ left) (h1 : left ≤ 1048576) : E 129 [.sl 2 (l.map Wait.u), .int .i64 left] = some (.int .i64 (szc l.length left)) := by
  rw [f79_E h]
  unfold maxLen at hl
  have hw : IntKind.i64.wrap (left - (l.length : Int)) = left - l.length := wrap_in (by omega)
  by_cases h2 : left - (l.length : Int) < 0 <;> simp [hw, szc, h2]
theorem f81_is (h : G_f81 E) (e : Engine) (ho : e.ok) : E 124 [e.u] = some e.u := by
  obtain ⟨o1, o2, o3, o4, o5⟩ := ho
  rw [f81_E h]
  have a1 := f89_is h.c_f89 e.store o1
  have a2 := f92_is h.c_f92 e.transactions o2 o3
  have a3 := f84_is h.c_f84 e.locks o4
  have a4 := f101_is h.c_f101 e.waits o5
  simp [a1, a2, a3, a4]
  rfl
theorem f45_is (h : G_f45 E) (x y : Engine) (hx : x.ok) (hy : y.ok) : E 125 [x.u, y.u] = some (.bool (decide (x = y))) := by
  obtain ⟨o1, o2, o3, o4, o5⟩ := hx
  obtain ⟨p1, p2, p3, p4, p5⟩ := hy
  rw [f45_E h]
  have a1 := f51_is h.c_f51 x.store y.store o1 p1
  have a2 := f53_is h.c_f53 x.transactions y.transactions o2 p2 o3 p3
  have a3 := f48_is h.c_f48 x.locks y.locks o4 p4
  have a4 := f58_is h.c_f58 x.waits y.waits o5 p5
  simp only [Engine.eq_iff]
  by_cases h0 : x.certify = y.certify
  case neg => simp [h0]
  by_cases h1 : x.store = y.store
  case neg => simp [h0, a1, h1]
  rw [h1] at a1
  by_cases h2 : x.transactions = y.transactions
  case neg => simp [h0, a1, h1, a2, h2]
  rw [h2] at a2
  by_cases h3 : x.locks = y.locks
  case neg => simp [h0, a1, h1, a2, h2, a3, h3]
  rw [h3] at a3
  by_cases h4 : x.waits = y.waits
  case neg => simp [h0, a1, h1, a2, h2, a3, h3, a4, h4]
  rw [h4] at a4
  by_cases h5 : x.stamp = y.stamp <;> simp [h0, a1, h1, a2, h2, a3, h3, a4, h4, h5]
theorem f71_is (h : G_f71 E) (e : Engine) (hf : e.fit) (left : Int) (h0 : 0 ≤ left) (h1 : left ≤ 1048576) : E 128 [e.u, .int .i64 left] = some (.int .i64 (e.sz left)) := by
  obtain ⟨f1, f2, f3, f4, f5⟩ := hf
  rw [f71_E h]
  have a1 := f74_is h.c_f74 e.store f1 left h0 h1
  rcases Store.sz_szs e.store left h0 h1 with n1 | ⟨_, n1, n2⟩
  · simp [a1, n1, Engine.sz]
  have n3 : ¬ e.store.sz left < 0 := by omega
  have a2 := f76_is h.c_f76 e.transactions f2 f3 _ n1 (by omega)
  rcases szL_szs Transaction.sz_szs e.transactions _ n1 (by omega) with m1 | ⟨_, m1, m2⟩
  · simp [a1, n3, a2, m1, Engine.sz]
  have m3 : ¬ szL Transaction.sz e.transactions (e.store.sz left) < 0 := by omega
  have a3 := f72_is h.c_f72 e.locks f4 _ m1 (by omega)
  rcases szc_szs e.locks.length _ m1 (by omega) with k1 | ⟨_, k1, k2⟩
  · simp [a1, n3, a2, m3, a3, k1, Engine.sz]
  have k3 : ¬ szc e.locks.length (szL Transaction.sz e.transactions (e.store.sz left)) < 0 := by omega
  have a4 := f79_is h.c_f79 e.waits f5 _ k1 (by omega)
  by_cases j1 : szc e.waits.length (szc e.locks.length (szL Transaction.sz e.transactions (e.store.sz left))) < 0
  · have j2 := szc_neg j1
    simp [a1, n3, a2, m3, a3, k3, a4, j2, Engine.sz]
  · simp [a1, n3, a2, m3, a3, k3, a4, j1, Engine.sz]
end Go.Proofs.YtmdnjglkdddaeaaGreat.Am
