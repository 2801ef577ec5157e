import Derived.Test.YtmdnjglkdddaeaaGreatRecordOfP0
import Derived.Test.YtmdnjglkdddaeaaGreatRecordOfF0
import Derived.Test.YtmdnjglkdddaeaaGreatRecordOfF1
namespace Go.Proofs.YtmdnjglkdddaeaaGreat.Am
open Go
variable {E : Env}
set_option linter.unusedVariables false
def locks1 (p : Option Lock) (w : Lock) : Bool := inR w.key 0 5 && inR w.owner 1 9 && (match p with | none => true | some q => decide (q.key < w.key))
def locksFrom : Option Lock → List Lock → Bool
  | _, [] => true
  | p, w :: r => locks1 p w && locksFrom (some w) r
def waits1 (p : Option Wait) (w : Wait) : Bool := inR w.id 1 9 && inR w.for_ 1 9 && !decide (w.id = w.for_) && (match p with | none => true | some q => decide (q.id < w.id))
def waitsFrom : Option Wait → List Wait → Bool
  | _, [] => true
  | p, w :: r => waits1 p w && waitsFrom (some w) r
theorem Qco (a b : Int) : (!decide (b ≤ a)) = decide (a < b) := by rw [← decide_not]; congr 1; simp only [eq_iff_iff]; omega
theorem Qku (h : G_f3 E) (l : List Lock) (hl : l.length ≤ 1048576) : ∀ (r p : List Lock) (i : Int), l = p ++ r → i = p.length →
    f3_l0 E (.sl 2 (l.map Lock.u)) (.sl 2 (l.map Lock.u)) (.int .i64 l.length) (.int .i64 i) = some (.bool (locksFrom p.getLast? r))
  | [], p, i, e, hi => by
    rw [Qkt]
    simp [Qf e hi, locksFrom]
  | x :: r, p, i, e, hi => by
    obtain ⟨h0, hlt, hx, hw, hn, _⟩ := Qd e hi (by omega)
    have ih := Qku h l hl r (p ++ [x]) (i + 1) (Qe e) hn
    rw [List.getLast?_concat] at ih
    rw [Qkt]
    by_cases hp : p = []
    · have hi0 : ¬ 0 < i := by subst hp; simp at hi; omega
      simp [h0, hlt, hx, hw, ih, Qcl h.c_f41, Qab h.c_f40, hi0, hp, ite_f, locksFrom, locks1, Bool.and_assoc]
    · obtain ⟨q, j, hq, hpos, hw1, h1, hq1, _⟩ := Qak e hi (by omega) hp
      simp [h0, hlt, hx, hw, ih, Qcl h.c_f41, Qab h.c_f40, hpos, hq, hw1, hq1, ite_f, ite_n, locksFrom, locks1, Bool.and_assoc, Qco]
theorem f3_is (h : G_f3 E) (l : List Lock) (hl : l.length ≤ 1048576) : E 150 [.sl 2 (l.map Lock.u)] = some (.bool (locksFrom none l)) := by
  rw [f3_E h]
  simp [Qku h l hl l [] 0 rfl rfl]
theorem Qjj (h : G_f118 E) (l : List Lock) (hl : l.length ≤ 1048576) : ∀ (r p : List Lock) (i : Int), l = p ++ r → i = p.length →
    f118_l0 E (.sl 2 (l.map Lock.u)) (.int .i64 i) = some (.bool (locksFrom p.getLast? r))
  | [], p, i, e, hi => by
    rw [Qji]
    simp [Qf e hi, locksFrom]
  | x :: r, p, i, e, hi => by
    obtain ⟨h0, hlt, hx, hw, hn, _⟩ := Qd e hi (by omega)
    have ih := Qjj h l hl r (p ++ [x]) (i + 1) (Qe e) hn
    rw [List.getLast?_concat] at ih
    rw [Qji]
    by_cases hp : p = []
    · have hi0 : ¬ 0 < i := by subst hp; simp at hi; omega
      simp [h0, hlt, hx, hw, ih, Qu h.c_f136, hi0, hp, ite_f, locksFrom, locks1, Bool.and_assoc]
    · obtain ⟨q, j, hq, hpos, hw1, h1, hq1, _⟩ := Qak e hi (by omega) hp
      simp [h0, hlt, hx, hw, ih, Qu h.c_f136, hpos, hq, hw1, hq1, ite_f, ite_n, locksFrom, locks1, Bool.and_assoc, Qco]
theorem Qtg (h : G_f118 E) (l : List Lock) (hl : l.length ≤ 1048576) : E 137 [.sl 2 (l.map Lock.u)] = some (.bool (locksFrom none l)) := by
  rw [Qtf h]
  simp [Qjj h l hl l [] 0 rfl rfl]
theorem Qk1 (h : G_f4 E) (l : List Wait) (hl : l.length ≤ 1048576) : ∀ (r p : List Wait) (i : Int), l = p ++ r → i = p.length →
    f4_l0 E (.sl 2 (l.map Wait.u)) (.sl 2 (l.map Wait.u)) (.int .i64 l.length) (.int .i64 i) = some (.bool (waitsFrom p.getLast? r))
  | [], p, i, e, hi => by
    rw [Qk0]
    simp [Qf e hi, waitsFrom]
  | x :: r, p, i, e, hi => by
    obtain ⟨h0, hlt, hx, hw, hn, _⟩ := Qd e hi (by omega)
    have ih := Qk1 h l hl r (p ++ [x]) (i + 1) (Qe e) hn
    rw [List.getLast?_concat] at ih
    rw [Qk0]
    by_cases hp : p = []
    · have hi0 : ¬ 0 < i := by subst hp; simp at hi; omega
      simp [h0, hlt, hx, hw, ih, Qab h.c_f40, hi0, hp, ite_f, ite_n, waitsFrom, waits1, Bool.and_assoc]
    · obtain ⟨q, j, hq, hpos, hw1, h1, hq1, _⟩ := Qak e hi (by omega) hp
      simp [h0, hlt, hx, hw, ih, Qab h.c_f40, hpos, hq, hw1, hq1, ite_f, ite_n, waitsFrom, waits1, Bool.and_assoc, Qco]
theorem f4_is (h : G_f4 E) (l : List Wait) (hl : l.length ≤ 1048576) : E 151 [.sl 2 (l.map Wait.u)] = some (.bool (waitsFrom none l)) := by
  rw [f4_E h]
  simp [Qk1 h l hl l [] 0 rfl rfl]
theorem Qjl (h : G_f119 E) (l : List Wait) (hl : l.length ≤ 1048576) : ∀ (r p : List Wait) (i : Int), l = p ++ r → i = p.length →
    f119_l0 E (.sl 2 (l.map Wait.u)) (.int .i64 i) = some (.bool (waitsFrom p.getLast? r))
  | [], p, i, e, hi => by
    rw [Qjk]
    simp [Qf e hi, waitsFrom]
  | x :: r, p, i, e, hi => by
    obtain ⟨h0, hlt, hx, hw, hn, _⟩ := Qd e hi (by omega)
    have ih := Qjl h l hl r (p ++ [x]) (i + 1) (Qe e) hn
    rw [List.getLast?_concat] at ih
    rw [Qjk]
    by_cases hp : p = []
    · have hi0 : ¬ 0 < i := by subst hp; simp at hi; omega
      simp [h0, hlt, hx, hw, ih, Qu h.c_f136, hi0, hp, ite_f, ite_n, waitsFrom, waits1, Bool.and_assoc]
    · obtain ⟨q, j, hq, hpos, hw1, h1, hq1, _⟩ := Qak e hi (by omega) hp
      simp [h0, hlt, hx, hw, ih, Qu h.c_f136, hpos, hq, hw1, hq1, ite_f, ite_n, waitsFrom, waits1, Bool.and_assoc, Qco]
theorem Qtj (h : G_f119 E) (l : List Wait) (hl : l.length ≤ 1048576) : E 138 [.sl 2 (l.map Wait.u)] = some (.bool (waitsFrom none l)) := by
  rw [Qti h]
  simp [Qjl h l hl l [] 0 rfl rfl]
def hasID (c : Int) (t : Transaction) : Bool := decide (t.id = c)
theorem Qu4 (h : G_f14 E) (t : Transaction) (c : Int) : E 171 [t.u, .vp (.int .i64 c)] = some (.bool (hasID c t)) := by
  rw [f14_E h]; simp [hasID]
theorem Qu2 (h : G_f13 E) (e : Engine) (ho : e.ok) (c : Int) : E 170 [e.u, .int .i64 c] = some (.int .i64 (idxF (hasID c) e.transactions 0)) := by
  rw [f13_E h]
  have := Qfq h.c_f116 e.transactions (by have := ho.2.1; omega) 171 [.vp (.int .i64 c)] (hasID c) (fun t _ => Qu4 h.c_f14 t c)
  simp [this]
theorem Qjo (e : Engine) (ho : e.ok) (c : Int) : ∀ (r p : List Transaction) (i : Int), e.transactions = p ++ r → i = p.length →
    f120_l0 E (.int .i64 c) (.int .i64 i) e.u = some (.int .i64 (idxF (hasID c) r i))
  | [], p, i, el, hi => by
    rw [Qjn]
    simp [Qf el hi, idxF]
  | x :: r, p, i, el, hi => by
    obtain ⟨h0, hlt, hx, hw, hn, _⟩ := Qd el hi (by have := ho.2.1; omega)
    have ih := Qjo e ho c r (p ++ [x]) (i + 1) (Qe el) hn
    rw [Qjn]
    by_cases h1 : x.id = c <;> simp [hlt, hx, hw, ih, h1, idxF, hasID]
theorem Qtn (h : G_f120 E) (e : Engine) (ho : e.ok) (c : Int) : E 141 [e.u, .int .i64 c] = some (.int .i64 (idxF (hasID c) e.transactions 0)) := by
  rw [Qtm h]
  simp [Qjo e ho c e.transactions [] 0 rfl rfl]
def Engine.tx (e : Engine) (c : Int) : Option Transaction := e.transactions.find? (hasID c)
theorem Qdb {α : Type} (P : α → Bool) (l : List α) (hl : l.length ≤ 9223372036854775807) : (l.find? P = none ∧ idxF P l 0 = -1) ∨
    ∃ x j, l.find? P = some x ∧ x ∈ l ∧ P x = true ∧ idxF P l 0 = j ∧ (0 ≤ j) ∧ j < l.length ∧ ∀ {γ : Type} (k : Nat) (f : α → U) (K : U → Option γ), U.elemAt k (.sl k (l.map f)) j K = K (f x) := by
  rcases Qnj P l 0 with ⟨e1, e2⟩ | ⟨p, x, r, e1, e2, e3, e4⟩
  · exact Or.inl ⟨by simpa using e2, e1⟩
  · refine Or.inr ⟨x, 0 + p.length, ?_, by rw [e1]; simp, e3, e2, by omega, by rw [e1]; simp; omega, fun k f K => ?_⟩
    · rw [e1, List.find?_append]
      have : p.find? P = none := by simpa using e4
      rw [this]; simp [e3]
    · have h9 : ((0 : Int) + p.length).toNat = p.length := by omega
      exact Qck f (by omega) (by rw [e1, h9]; simp) K
def Engine.active (e : Engine) (c : Int) : Bool := match e.tx c with | none => false | some t => decide (t.state = 1)
theorem Qnn (h : G_f7 E) (e : Engine) (ho : e.ok) (c : Int) : E 169 [e.u, .int .i64 c] = some (.bool (e.active c)) := by
  rw [f7_E h]
  have hf := Qu2 h.c_f13 e ho c
  rcases Qdb (hasID c) e.transactions (by have := ho.2.1; omega) with ⟨e1, e2⟩ | ⟨x, j, e1, e2, e3, e4, e5, e6, e7⟩
  · rw [e2] at hf
    simp [hf, Engine.active, Engine.tx, e1]
  · rw [e4] at hf
    simp [hf, Engine.active, Engine.tx, e1, e5, e7]
theorem Qp2 (h : G_f135 E) (e : Engine) (ho : e.ok) (c : Int) : E 135 [e.u, .int .i64 c] = some (.bool (e.active c)) := by
  rw [Qup h]
  have hf := Qtn h.c_f120 e ho c
  rcases Qdb (hasID c) e.transactions (by have := ho.2.1; omega) with ⟨e1, e2⟩ | ⟨x, j, e1, e2, e3, e4, e5, e6, e7⟩
  · rw [e2] at hf
    simp [hf, Engine.active, Engine.tx, e1]
  · rw [e4] at hf
    simp [hf, Engine.active, Engine.tx, e1, e5, e7]
def txs1 (e : Engine) (p : Option Transaction) (t : Transaction) : Bool :=
  t.valid && ((match p with | none => true | some q => decide (q.id < t.id)) && (decide (t.begin_ ≤ e.stamp) && (decide (t.commit ≤ e.stamp) && (if t.state = 1 then marksExist e.store t.reads else true))))
def txsFrom (e : Engine) : Option Transaction → List Transaction → Bool
  | _, [] => true
  | p, t :: r => txs1 e p t && txsFrom e (some t) r
def Engine.holds (e : Engine) : Bool := e.locks.all (fun w => e.active w.owner) && e.waits.all (fun w => e.active w.id && e.active w.for_)
def Engine.valid (e : Engine) : Bool :=
  e.store.valid && (locksFrom none e.locks && (waitsFrom none e.waits && (inR e.stamp e.store.last 999 && (txsFrom e none e.transactions && decide (e.transactions.length ≤ 6) && e.holds))))
theorem Qer (a b : Int) : (!decide (b < a)) = decide (a ≤ b) := by rw [← decide_not]; congr 1; simp only [eq_iff_iff]; omega
theorem Qnk (h : G_f5 E) (e : Engine) (ho : e.ok) (hv : e.store.valid = true) : ∀ (r p : List Transaction) (i : Int), e.transactions = p ++ r → i = p.length →
    f5_l0 E (.sl 9 (e.transactions.map Transaction.u)) (.int .i64 e.transactions.length) (.int .i64 i) e.u = some (.bool (txsFrom e p.getLast? r && decide (e.transactions.length ≤ 6)))
  | [], p, i, el, hi => by
    have h1 : decide ((e.transactions.length : Int) ≤ 6) = decide (e.transactions.length ≤ 6) := by congr 1; simp only [eq_iff_iff]; omega
    rw [Qlg]
    simp [Qf el hi, txsFrom, h1]
  | t :: r, p, i, el, hi => by
    obtain ⟨h0, hlt, hx, hw, hn, _⟩ := Qd el hi (by have := ho.2.1; omega)
    have ih := Qnk h e ho hv r (p ++ [t]) (i + 1) (Qe el) hn
    rw [List.getLast?_concat] at ih
    have hto : t.ok := ho.2.2.1 t (by rw [el]; simp)
    have v := Qvo h.c_f25 t hto
    rw [Qlg]
    cases tv : t.valid
    · simp [hlt, hx, hw, v, tv, txsFrom, txs1]
    have m := Qaan h.c_f31 e.store ho.1 hv t.reads hto.1 (Qe8 tv)
    by_cases hp : p = []
    · have hi0 : ¬ 0 < i := by subst hp; simp at hi; omega
      by_cases hs : t.state = 1 <;>
      simp [h0, hlt, hx, hw, ih, v, tv, m, hi0, hp, hs, ite_f, ite_n, txsFrom, txs1, Bool.and_assoc, Qer]
    · obtain ⟨q, j, hq, hpos, hw1, h1, hq1, _⟩ := Qak el hi (by have := ho.2.1; omega) hp
      by_cases hs : t.state = 1 <;>
      simp [h0, hlt, hx, hw, ih, v, tv, m, hpos, hq, hw1, hq1, hs, ite_f, ite_n, txsFrom, txs1, Bool.and_assoc, Qer, Qco]
theorem Qaah (h : G_f5 E) (e : Engine) (ho : e.ok) (hv : e.store.valid = true) :
    E 153 [e.u] = some (.bool (txsFrom e none e.transactions && decide (e.transactions.length ≤ 6))) := by
  rw [f5_E h]
  simp [Qnk h e ho hv e.transactions [] 0 rfl rfl]
theorem Qvf (h : G_f20 E) (e : Engine) (ho : e.ok) (w : Lock) : E 154 [w.u, .vp e.u] = some (.bool (!e.active w.owner)) := by
  rw [f20_E h]
  simp [Qnn h.c_f7 e ho]
theorem Qvh (h : G_f21 E) (e : Engine) (ho : e.ok) (w : Wait) : E 156 [w.u, .vp e.u] = some (.bool (!(e.active w.id && e.active w.for_))) := by
  rw [f21_E h]
  simp [Qnn h.c_f7 e ho]
  cases e.active w.id <;> simp
theorem Qof {α : Type} (l : List α) (P : α → Bool) : (!l.any fun m => !P m) = l.all P := by
  rw [List.not_any_eq_all_not]; simp
theorem Qkg (h : G_f19 E) (e : Engine) (ho : e.ok) : E 148 [e.u] = some (.bool e.valid) := by
  rw [f19_E h]
  have s1 := Qvk h.c_f23 e.store ho.1
  have s2 := f3_is h.c_f3 e.locks ho.2.2.2.1
  have s3 := f4_is h.c_f4 e.waits ho.2.2.2.2
  have s4 := Qaal h.c_f30 e.store ho.1
  have s5 := Qsp h.c_f109 e.locks (by have := ho.2.2.2.1; omega) 154 [.vp e.u] (fun w => !e.active w.owner) (fun w _ => Qvf h.c_f20 e ho w)
  have s6 := Qst h.c_f110 e.waits (by have := ho.2.2.2.2; omega) 156 [.vp e.u] (fun w => !(e.active w.id && e.active w.for_)) (fun w _ => Qvh h.c_f21 e ho w)
  have n5 := Qof e.locks (fun w => e.active w.owner)
  have n6 := Qof e.waits (fun w => e.active w.id && e.active w.for_)
  cases hv : e.store.valid
  · simp [s1, hv, Engine.valid]
  have s7 := Qaah h.c_f5 e ho hv
  simp [s1, s2, s3, s4, s5, s6, s7, hv, Qx h.c_f39, Engine.valid, Engine.holds, ite_t, -List.any_eq_true, -List.all_eq_true, n5, n6, -Bool.not_and, Bool.and_assoc]
  cases locksFrom none e.locks <;> cases waitsFrom none e.waits <;> cases inR e.stamp e.store.last 999 <;> cases txsFrom e none e.transactions <;> by_cases hz : e.transactions.length ≤ 6 <;> simp [hz, -List.any_eq_true, -List.all_eq_true]
theorem Qpx (h : G_f124 E) (e : Engine) (ho : e.ok) : ∀ (r p : List Wait) (i : Int), e.waits = p ++ r → i = p.length →
    f124_l0 E (.int .i64 i) e.u = some (.bool (r.all fun w => e.active w.id && e.active w.for_))
  | [], p, i, el, hi => by
    rw [Qju]
    simp [Qf el hi]
  | x :: r, p, i, el, hi => by
    obtain ⟨h0, hlt, hx, hw, hn, _⟩ := Qd el hi (by have := ho.2.2.2.2; omega)
    have ih := Qpx h e ho r (p ++ [x]) (i + 1) (Qe el) hn
    rw [Qju]
    simp [hlt, hx, hw, ih, Qp2 h.c_f135 e ho, ite_f, Bool.and_assoc, -List.all_eq_true]
theorem Qpy (h : G_f124 E) (e : Engine) (ho : e.ok) : ∀ (r p : List Lock) (i : Int), e.locks = p ++ r → i = p.length →
    f124_l1 E (.int .i64 i) e.u = some (.bool (r.all (fun w => e.active w.owner) && e.waits.all fun w => e.active w.id && e.active w.for_))
  | [], p, i, el, hi => by
    rw [Qjv]
    simp [Qf el hi, Qpx h e ho e.waits [] 0 rfl rfl, -List.all_eq_true]
  | x :: r, p, i, el, hi => by
    obtain ⟨h0, hlt, hx, hw, hn, _⟩ := Qd el hi (by have := ho.2.2.2.1; omega)
    have ih := Qpy h e ho r (p ++ [x]) (i + 1) (Qe el) hn
    rw [Qjv]
    simp [hlt, hx, hw, ih, Qp2 h.c_f135 e ho, ite_f, Bool.and_assoc, -List.all_eq_true]
theorem Qpz (h : G_f124 E) (e : Engine) (ho : e.ok) (hv : e.store.valid = true) : ∀ (r p : List Transaction) (i : Int), e.transactions = p ++ r → i = p.length →
    f124_l2 E (.int .i64 i) e.u = some (.bool (txsFrom e p.getLast? r && e.holds))
  | [], p, i, el, hi => by
    rw [Qjw]
    simp [Qf el hi, txsFrom, Qpy h e ho e.locks [] 0 rfl rfl, Engine.holds, -List.all_eq_true]
  | t :: r, p, i, el, hi => by
    obtain ⟨h0, hlt, hx, hw, hn, _⟩ := Qd el hi (by have := ho.2.1; omega)
    have ih := Qpz h e ho hv r (p ++ [t]) (i + 1) (Qe el) hn
    rw [List.getLast?_concat] at ih
    have hto : t.ok := ho.2.2.1 t (by rw [el]; simp)
    have v := Qek h.c_f127 t hto
    rw [Qjw]
    cases tv : t.valid
    · simp [hlt, hx, hw, v, tv, txsFrom, txs1]
    have m := Qj6 h.c_f130 e.store ho.1 t hto
    simp only [hv, tv, Bool.true_and] at m
    by_cases hp : p = []
    · have hi0 : ¬ 0 < i := by subst hp; simp at hi; omega
      by_cases hs : t.state = 1 <;>
      simp [h0, hlt, hx, hw, ih, v, tv, m, hi0, hp, hs, ite_f, ite_n, txsFrom, txs1, Bool.and_assoc, Qer]
    · obtain ⟨q, j, hq, hpos, hw1, h1, hq1, _⟩ := Qak el hi (by have := ho.2.1; omega) hp
      by_cases hs : t.state = 1 <;>
      simp [h0, hlt, hx, hw, ih, v, tv, m, hpos, hq, hw1, hq1, hs, ite_f, ite_n, txsFrom, txs1, Bool.and_assoc, Qer, Qco]
theorem Qa9 (h : G_f124 E) (e : Engine) (ho : e.ok) : E 133 [e.u] = some (.bool e.valid) := by
  rw [Qtw h]
  have s1 := Qc9 h.c_f126 e.store ho.1
  have s2 := Qtg h.c_f118 e.locks ho.2.2.2.1
  have s3 := Qtj h.c_f119 e.waits ho.2.2.2.2
  cases hv : e.store.valid
  · simp [s1, hv, Engine.valid]
  have s4 := Qt8 h.c_f129 e.store ho.1 hv
  have s5 := Qpz h e ho hv e.transactions [] 0 rfl rfl
  have h1 : (!decide (6 < (e.transactions.length : Int))) = decide (e.transactions.length ≤ 6) := by rw [← decide_not]; congr 1; simp only [eq_iff_iff]; omega
  simp [s1, s2, s3, s4, s5, hv, Qu h.c_f136, Engine.valid, ite_f, ite_n, h1]
  intros
  simp [Bool.and_assoc, Bool.and_comm, Bool.and_left_comm]
def mn (a b : Int) : Int := if b < a then b else a
def high1 (s : Store) (a : Int) (m : ReadMark) : Int := match (s.chain m.key).find? (isAt m.created) with | none => a | some v => mn a v.successor
def refreshHigh (s : Store) (l : List ReadMark) : Int := l.foldl (high1 s) 1000
theorem Qiv {s : Store} {m : ReadMark} (h : hasMark s m = true) : ∃ v, (s.chain m.key).find? (isAt m.created) = some v := by
  unfold hasMark at h
  rw [← Qmy] at h
  exact Option.isSome_iff_exists.1 h
theorem Qnr (h : G_f33 E) (s : Store) (ho : s.ok) (hv : s.valid = true) (l : List ReadMark) (hl : l.length ≤ 1048576) (hk : KeysOK l) (hm : ∀ m ∈ l, hasMark s m = true) : ∀ (r p : List ReadMark) (i a : Int), l = p ++ r → i = p.length →
    f33_l0 E (.int .i64 a) (.sl 2 (l.map ReadMark.u)) (.int .i64 l.length) (.int .i64 i) s.u = some (.int .i64 (r.foldl (high1 s) a))
  | [], p, i, a, e, hi => by
    rw [Qkm]
    simp [Qf e hi]
  | m :: r, p, i, a, e, hi => by
    obtain ⟨h0, hlt, hx, hw, hn, _⟩ := Qd e hi (by omega)
    have hmem : m ∈ l := by rw [e]; simp
    obtain ⟨v, hf⟩ := Qiv (hm m hmem)
    have hfi := Qnm h.c_f29 s ho hv m (hk m hmem).1 (hk m hmem).2
    rw [hf] at hfi
    have ih := Qnr h s ho hv l hl hk hm r (p ++ [m]) (i + 1) (mn a v.successor) (Qe e) hn
    rw [Qkm]
    simp only [mn] at ih
    simp [hlt, hx, hw, hfi, ih, high1, hf, mn]
theorem Qaaq (h : G_f33 E) (s : Store) (ho : s.ok) (hv : s.valid = true) (t : Transaction) (ht : t.ok) (hk : KeysOK t.reads) (hm : marksExist s t.reads = true) :
    E 186 [s.u, t.u] = some (.int .i64 (refreshHigh s t.reads)) := by
  rw [f33_E h]
  simp [Qnr h s ho hv t.reads ht.1 hk (by simpa [marksExist] using hm) t.reads [] 0 1000 rfl rfl, refreshHigh]
theorem Qkb (h : G_f132 E) (s : Store) (ho : s.ok) (hv : s.valid = true) (t : Transaction) (ht : t.ok) (hk : KeysOK t.reads) (hm : ∀ m ∈ t.reads, hasMark s m = true) : ∀ (r p : List ReadMark) (i a : Int), t.reads = p ++ r → i = p.length →
    f132_l0 E (.int .i64 a) (.int .i64 i) s.u t.u = some (.int .i64 (r.foldl (high1 s) a))
  | [], p, i, a, e, hi => by
    rw [Qka]
    simp [Qf e hi]
  | m :: r, p, i, a, e, hi => by
    obtain ⟨h0, hlt, hx, hw, hn, _⟩ := Qd e hi (by have := ht.1; omega)
    have hmem : m ∈ t.reads := by rw [e]; simp
    have hkk := hk m hmem
    have hc : chainOk (s.chain m.key) := ho.2 _ (Qd8 hv hkk.1 hkk.2).2
    have hfi := Qjp h.c_f121 (s.chain m.key) hc m.created
    obtain ⟨v0, hf0⟩ := Qiv (hm m hmem)
    rcases Qdb (isAt m.created) (s.chain m.key) (by unfold chainOk at hc; omega) with ⟨e1, e2⟩ | ⟨v, j, hf, e2, e3, e4, e5, e6, e7⟩
    · rw [e1] at hf0; simp at hf0
    rw [e4] at hfi
    have ih := Qkb h s ho hv t ht hk hm r (p ++ [m]) (i + 1) (mn a v.successor) (Qe e) hn
    rw [Qka]
    simp only [mn] at ih
    have e7' := fun {γ : Type} (K : U → Option γ) => e7 5 Version.u K
    have hel : ∀ {γ : Type} (K : U → Option γ), U.elemAt 5 (chainU (s.chain m.key)) j K = K v.u := fun K => e7 5 Version.u K
    simp [hlt, hx, hw, Qc4 hv hkk.1 hkk.2, hfi, hel, e7', ih, high1, hf, mn]
theorem Quh (h : G_f132 E) (s : Store) (ho : s.ok) (hv : s.valid = true) (t : Transaction) (ht : t.ok) (htv : t.valid = true) (hm : marksExist s t.reads = true) :
    E 183 [s.u, t.u] = some (.int .i64 (refreshHigh s t.reads)) := by
  rw [Qug h]
  simp [Qj6 h.c_f130 s ho t ht, hv, htv, hm, Qkb h s ho hv t ht (Qe8 htv) (by simpa [marksExist] using hm) t.reads [] 0 1000 rfl rfl, refreshHigh]
theorem Qql {e : Engine} : ∀ {l : List Transaction} {p : Option Transaction}, txsFrom e p l = true → ∀ t ∈ l, t.valid = true ∧ t.begin_ ≤ e.stamp ∧ t.commit ≤ e.stamp ∧ (t.state = 1 → marksExist e.store t.reads = true)
  | [], _, _ => fun t ht => by simp at ht
  | x :: r, p, h => by
    simp only [txsFrom, txs1, Bool.and_eq_true, decide_eq_true_eq] at h
    intro t ht
    rcases List.mem_cons.1 ht with rfl | ht
    · refine ⟨h.1.1, h.1.2.2.1, h.1.2.2.2.1, fun hs => ?_⟩
      have := h.1.2.2.2.2
      rwa [if_pos hs] at this
    · exact Qql h.2 t ht
theorem Qm8 (f : Version → Int) : ∀ (l : List Version) (n : Int), n ≤ l.foldl (fun a v => mx a (f v)) n
  | [], n => Int.le_refl _
  | v :: r, n => Int.le_trans mx_ge.1 (Qm8 f r (mx n (f v)))
theorem Qn2 : ∀ (l : List (List Version)) (n : Int), n ≤ l.foldl lastC n
  | [], n => Int.le_refl _
  | c :: r, n => Int.le_trans (Qm8 Version.reader c n) (Qn2 r (lastC n c))
theorem Engine.valid_all {e : Engine} (h : e.valid = true) : e.store.valid = true ∧ 0 ≤ e.stamp ∧ e.stamp ≤ 999 ∧ ∀ t ∈ e.transactions, t.valid = true ∧ t.begin_ ≤ e.stamp ∧ t.commit ≤ e.stamp ∧ (t.state = 1 → marksExist e.store t.reads = true) := by
  simp only [Engine.valid, inR, Bool.and_eq_true, decide_eq_true_eq] at h
  have := Qn2 e.store.chains 0
  unfold Store.last at h
  exact ⟨h.1, by omega, by omega, Qql h.2.2.2.2.1.1⟩
def unsafe1 (e : Engine) (n : Int) (t : Transaction) : Bool :=
  if t.state = 2 then decide (n < t.commit) && decide (t.high ≤ n)
  else if t.state = 1 then decide (refreshHigh e.store t.reads ≤ n) || (decide (t.scheme = 2) && decide (t.begin_ < n))
  else false
def becauseIn (e : Engine) (n : Int) : List Transaction → Int
  | [] => 0
  | t :: r => if unsafe1 e n t then t.id else becauseIn e n r
def because (e : Engine) (n : Int) : Int := becauseIn e n e.transactions
theorem Qaar (h : G_f12 E) (e : Engine) (ho : e.ok) (hv : e.valid = true) (t : Transaction) (ht : t ∈ e.transactions) (n : Int) : E 185 [e.u, t.u, .int .i64 n] = some (.bool (unsafe1 e n t)) := by
  rw [f12_E h]
  obtain ⟨v1, v2, v3, v4⟩ := Engine.valid_all hv
  obtain ⟨w1, w2, w3, w4⟩ := v4 t ht
  by_cases h2 : t.state = 2
  · simp [h2, unsafe1, ite_p]
  by_cases h1 : t.state = 1
  · have hh := Qaaq h.c_f33 e.store ho.1 v1 t (ho.2.2.1 t ht) (Qe8 w1) (w4 h1)
    simp [h1, hh, unsafe1, ite_p, Qaau]
  · simp [h1, h2, unsafe1]
theorem Qnl (h : G_f6 E) (e : Engine) (ho : e.ok) (hv : e.valid = true) (n : Int) : ∀ (r p : List Transaction) (i : Int), e.transactions = p ++ r → i = p.length →
    f6_l0 E (.int .i64 n) (.sl 9 (e.transactions.map Transaction.u)) (.int .i64 e.transactions.length) (.int .i64 i) e.u = some (.int .i64 (becauseIn e n r))
  | [], p, i, el, hi => by
    rw [Qlz]
    simp [Qf el hi, becauseIn]
  | t :: r, p, i, el, hi => by
    obtain ⟨h0, hlt, hx, hw, hn, _⟩ := Qd el hi (by have := ho.2.1; omega)
    have ih := Qnl h e ho hv n r (p ++ [t]) (i + 1) (Qe el) hn
    have hu := Qaar h.c_f12 e ho hv t (by rw [el]; simp) n
    rw [Qlz]
    cases hb : unsafe1 e n t <;> simp [hlt, hx, hw, hu, hb, ih, becauseIn]
theorem Qaai (h : G_f6 E) (e : Engine) (ho : e.ok) (hv : e.valid = true) (n : Int) : E 184 [e.u, .int .i64 n] = some (.int .i64 (because e n)) := by
  rw [f6_E h]
  simp [Qnl h e ho hv n e.transactions [] 0 rfl rfl, because]
def unsafeBecause (e : Engine) (n : Int) : Int := if e.valid && inR n 0 e.stamp then because e n else 0
theorem Qkd (h : G_f134 E) (e : Engine) (ho : e.ok) (hv : e.valid = true) (n : Int) (hr : inR n 0 e.stamp = true) : ∀ (r p : List Transaction) (i : Int), e.transactions = p ++ r → i = p.length →
    f134_l0 E (.int .i64 n) (.int .i64 i) e.u = some (.int .i64 (becauseIn e n r))
  | [], p, i, el, hi => by
    rw [Qfu]
    simp [Qf el hi, becauseIn]
  | t :: r, p, i, el, hi => by
    obtain ⟨h0, hlt, hx, hw, hn, _⟩ := Qd el hi (by have := ho.2.1; omega)
    have ih := Qkd h e ho hv n hr r (p ++ [t]) (i + 1) (Qe el) hn
    obtain ⟨v1, v2, v3, v4⟩ := Engine.valid_all hv
    have ht : t ∈ e.transactions := by rw [el]; simp
    obtain ⟨w1, w2, w3, w4⟩ := v4 t ht
    have g1 := Qa9 h.c_f124 e ho
    rw [hv] at g1
    rw [Qfu]
    by_cases h2 : t.state = 2
    · by_cases q1 : n < t.commit <;> by_cases q2 : t.high ≤ n <;> simp [hlt, hx, hw, g1, Qu h.c_f136, hr, h2, q1, q2, ih, becauseIn, unsafe1]
    by_cases h1 : t.state = 1
    · have hh := Quh h.c_f132 e.store ho.1 v1 t (ho.2.2.1 t ht) w1 (w4 h1)
      by_cases q1 : refreshHigh e.store t.reads ≤ n
      · simp [hlt, hx, hw, g1, Qu h.c_f136, hr, h1, hh, q1, ih, becauseIn, unsafe1]
      by_cases q2 : t.scheme = 2 <;> by_cases q3 : t.begin_ < n <;> simp [hlt, hx, hw, g1, Qu h.c_f136, hr, h1, hh, q1, q2, q3, ih, becauseIn, unsafe1]
    · simp [hlt, hx, hw, g1, Qu h.c_f136, hr, h1, h2, ih, becauseIn, unsafe1]
theorem Qun (h : G_f134 E) (e : Engine) (ho : e.ok) (n : Int) : E 182 [e.u, .int .i64 n] = some (.int .i64 (unsafeBecause e n)) := by
  rw [Qum h]
  cases hg : (e.valid && inR n 0 e.stamp)
  · simp only [unsafeBecause, hg, U.asBool, Engine.u_noTup]
    rw [Qfu]
    have g1 := Qa9 h.c_f124 e ho
    by_cases hz : (0 : Int) < e.transactions.length
    · cases hv : e.valid
      · rw [hv] at g1
        simp [hz, g1]
        try omega
      · rw [hv] at g1 hg
        simp only [Bool.true_and] at hg
        simp [hz, g1, Qu h.c_f136, hg]
        try omega
    · simp [hz]
      try omega
  · have hg' := hg
    simp only [Bool.and_eq_true] at hg'
    simp [Qkd h e ho hg'.1 n hg'.2 e.transactions [] 0 rfl rfl, unsafeBecause, hg, because, hg'.1, hg'.2]
def isSafe (e : Engine) (n : Int) : Bool := e.valid && (inR n 0 e.stamp && decide (because e n = 0))
theorem Qts (h : G_f122 E) (e : Engine) (ho : e.ok) (n : Int) : E 189 [e.u, .int .i64 n] = some (.bool (isSafe e n)) := by
  rw [Qtr h]
  cases hv : e.valid
  · simp [Qa9 h.c_f124 e ho, hv, isSafe]
  cases hr : inR n 0 e.stamp
  · simp [Qa9 h.c_f124 e ho, Qu h.c_f136, hv, hr, isSafe]
  · simp [Qa9 h.c_f124 e ho, Qu h.c_f136, hv, hr, isSafe, Qun h.c_f134 e ho, unsafeBecause]
def safeN (e : Engine) : Nat → Int
  | 0 => 0
  | k + 1 => if because e ((k + 1 : Nat) : Int) = 0 then ((k + 1 : Nat) : Int) else safeN e k
def safeStamp (e : Engine) : Int := if e.valid then safeN e e.stamp.toNat else 0
theorem Qnt (h : G_f11 E) (e : Engine) (ho : e.ok) (hv : e.valid = true) : ∀ (k : Nat), k ≤ 999 → f11_l0 E (.int .i64 (k : Int)) e.u = some (.int .i64 (safeN e k))
  | 0, _ => by
    rw [Qjm]
    simp [safeN]
  | k + 1, hk => by
    have ih := Qnt h e ho hv k (by omega)
    have hw : IntKind.i64.wrap (((k + 1 : Nat) : Int) - 1) = (k : Int) := by rw [Qi (by omega)]; omega
    have hpos : (0 : Int) < ((k + 1 : Nat) : Int) := by omega
    rw [Qjm]
    by_cases hb : because e ((k + 1 : Nat) : Int) = 0 <;>
    simp [-Int.natCast_add, hpos, Qaai h.c_f6 e ho hv, hb, safeN, hw, ih]
theorem Qns (h : G_f11 E) (e : Engine) (ho : e.ok) (hv : e.valid = true) : E 193 [e.u] = some (.int .i64 (safeStamp e)) := by
  rw [f11_E h]
  obtain ⟨v1, v2, v3, v4⟩ := Engine.valid_all hv
  have := Qnt h e ho hv e.stamp.toNat (by omega)
  rw [Int.toNat_of_nonneg v2] at this
  simp [this, safeStamp, hv]
theorem Qkc (h : G_f133 E) (e : Engine) (ho : e.ok) (hv : e.valid = true) : ∀ (k : Nat), k ≤ 999 → (k : Int) ≤ e.stamp → f133_l0 E (.int .i64 (k : Int)) e.u = some (.int .i64 (safeN e k))
  | 0, _, _ => by
    rw [Qft]
    simp [safeN]
  | k + 1, hk, hs => by
    have ih := Qkc h e ho hv k (by omega) (by omega)
    have hw : IntKind.i64.wrap (((k + 1 : Nat) : Int) - 1) = (k : Int) := by rw [Qi (by omega)]; omega
    have hpos : (0 : Int) < ((k + 1 : Nat) : Int) := by omega
    have hr : inR ((k + 1 : Nat) : Int) 0 e.stamp = true := by simp only [inR, decide_eq_true_eq]; omega
    have g1 := Qa9 h.c_f124 e ho
    have g2 := Qts h.c_f122 e ho ((k + 1 : Nat) : Int)
    rw [hv] at g1
    rw [Qft]
    by_cases hb : because e ((k + 1 : Nat) : Int) = 0 <;>
    simp [-Int.natCast_add, hpos, g1, g2, isSafe, hv, hr, hb, safeN, hw, ih]
theorem Quk (h : G_f133 E) (e : Engine) (ho : e.ok) : E 192 [e.u] = some (.int .i64 (safeStamp e)) := by
  rw [Quj h]
  cases hv : e.valid
  · have g1 := Qa9 h.c_f124 e ho
    rw [hv] at g1
    simp only [safeStamp, hv]
    have : f133_l0 E (.int .i64 e.stamp) e.u = some (.int .i64 0) := by
      rw [Qft]
      by_cases hp : 0 < e.stamp <;> simp [hp, g1]
    simp [this]
  · obtain ⟨v1, v2, v3, v4⟩ := Engine.valid_all hv
    have := Qkc h e ho hv e.stamp.toNat (by omega) (by omega)
    rw [Int.toNat_of_nonneg v2] at this
    simp [this, safeStamp, hv]
theorem Qa0 {α : Type} (f : α → U) (h : ∀ x, (f x).flat = true) : ∀ l : List α, U.flat.flats (l.map f) = true
  | [] => rfl
  | x :: l => by
    simp only [List.map_cons, U.flat.flats, h x, Qa0 f h l, Bool.and_self]
@[simp] theorem Qaf6 (l : List Edge) : U.flat.flats (l.map Edge.u) = true := Qa0 _ (fun _ => rfl) l
@[simp] theorem Qaf7 (l : List Int) : U.flat.flats (l.map intU) = true := Qa0 _ (fun _ => rfl) l
theorem Qid {q k b : Nat} (h : IsClone E q k b) (us : List U) (hl : us.length * b ≤ 140737488355328) : E q [.sl k us] = some (.sl k us) := by
  rw [h.v]; simp [cloneV, hl]
theorem Qic {q k b : Nat} (h : IsClone E q k b) (us : List U) (hl : us.length * b ≤ 140737488355328) (hf : U.flat.flats us = true) : E (100000 + q) [.sl k us] = some (.sl k us) := by
  rw [h.f]; simp [cloneF, hl, hf]
theorem flatsR (l : List ReadMark) : U.flat.flats (l.map ReadMark.u) = true := Qa0 _ (fun _ => rfl) l
theorem flatsW (l : List Write) : U.flat.flats (l.map Write.u) = true := Qa0 _ (fun _ => rfl) l
theorem Qaak (h : G_f34 E) (x : Transaction) (ho : x.ok) : E 222 [x.u] = some x.u := by
  rw [f34_E h]
  have h1 := Qid h.c_f106 (x.reads.map ReadMark.u) (by have := ho.1; simp; omega)
  have h2 := Qid h.c_f107 (x.writes.map Write.u) (by have := ho.2; simp; omega)
  simp [h1, h2]
  simp [Transaction.u, U.asVar, D.isAgg, U.size, storable]
theorem Qaaj (h : G_f35 E) (x : Transaction) (ho : x.ok) : E 100222 [x.u] = some x.u := by
  rw [f35_E h]
  have h1 : E 100224 [.sl 2 (x.reads.map ReadMark.u)] = _ := Qic h.c_f106 (x.reads.map ReadMark.u) (by have := ho.1; simp; omega) (flatsR _)
  have h2 : E 100225 [.sl 2 (x.writes.map Write.u)] = _ := Qic h.c_f107 (x.writes.map Write.u) (by have := ho.2; simp; omega) (flatsW _)
  simp [h1, h2, Qabj, U.asSlK, D.size, dsizes, D.size.dsizes, U.size]
  rfl
theorem Qu0 (h : G_f139 E) (x : Transaction) (ho : x.ok) : E 212 [x.u] = some x.u := by
  rw [Quz h]
  have h1 : x.reads.length * 16 ≤ 140737488355328 := by have := ho.1; omega
  have h2 : x.writes.length * 16 ≤ 140737488355328 := by have := ho.2; omega
  simp [U.elems, h1, h2, D.size, dsizes, D.size.dsizes, U.size, storable]
  rfl
theorem Quu (h : G_f137 E) (r : LogRecord) : E 25 [r.u] = some r.tx.u := by
  rw [Qut h]
  simp [LogRecord.tx, Transaction.u]
theorem Qtz (h : G_f125 E) (r : LogRecord) (ho : r.ok) : E 69 [r.u] = some (.bool r.valid) := by
  rw [Qty h]
  simp [Quu h.c_f137, Qek h.c_f127 r.tx ho, Qu h.c_f136, ite_t, ite_p, LogRecord.valid]
theorem Qki (h : G_f22 E) (r : LogRecord) (ho : r.ok) : E 68 [r.u] = some (.bool r.valid) := by
  rw [f22_E h]
  have h2 : (inR r.id 1 9 && (inR r.stamp 1 999 && (inR r.high 1 r.stamp && (inR r.safe 0 r.stamp && (areReads r.reads && areWrites r.writes))))) = r.valid := by
    unfold LogRecord.valid Transaction.valid LogRecord.tx inR
    rw [Bool.eq_iff_iff]
    simp only [Bool.and_eq_true, decide_eq_true_eq, beq_iff_eq]
    constructor
    · rintro ⟨h1, h2, h3, h4, h5, h6⟩
      refine ⟨⟨h1, by omega, by omega, by omega, by omega, by omega, ?_, by omega, h5, h6⟩, by omega, h4⟩
      have : 0 < r.stamp := by omega
      simp [this]
    · rintro ⟨⟨h1, _, _, _, _, h3, h4, h5, h6, h7⟩, h8, h9⟩
      have h10 : 0 < r.stamp := by simpa using h4
      exact ⟨h1, by omega, by omega, h9, h6, h7⟩
  simp [Qab h.c_f40, Qda h.c_f17, Qx h.c_f39, Qkn h.c_f36 _ ho.1, Qkq h.c_f37 _ ho.2, ite_t, h2]
theorem Qme (h : G_f86 E) (x : ReadMark) : E 29 [x.u] = some x.u := by
  rw [f86_E h]
  simp [ReadMark.u]
theorem Qmg (h : G_f87 E) (l : List ReadMark) (hl : l.length ≤ 1048576) : ∀ (r p : List ReadMark) (i : Int) (c : List U), l = p ++ r → i = p.length → c.length = r.length → (∀ z ∈ c, z.size = 2) →
    f87_l0 E (.sl 2 (l.map ReadMark.u)) (.int .i64 i) (p.map ReadMark.u ++ c) = some (.sl 2 (l.map ReadMark.u))
  | [], p, i, c, e, hi, hc, _ => by
    obtain rfl : c = [] := List.length_eq_zero_iff.1 hc
    rw [Qmf]
    simp [Qf e hi]
    simp [e]
  | x :: r, p, i, [], e, hi, hc, _ => by cases hc
  | x :: r, p, i, z :: c, e, hi, hc, hz => by
    obtain ⟨h0, hlt, hx, hw, hn, _⟩ := Qd e hi (by omega)
    have hzs : z.size = 2 := hz z (by simp)
    obtain ⟨hg, hs, hlen⟩ := Qv ReadMark.u p z c hi
    have ih := Qmg h l hl r (p ++ [x]) (i + 1) c (Qe e) hn (by simpa using hc) (fun y hy => hz y (by simp [hy]))
    simp only [List.map_append, List.map_cons, List.map_nil, List.append_assoc, List.cons_append, List.nil_append] at ih
    rw [Qmf]
    simp only [hg, hs, hx, hw, Qq, Qm, Qk, List.length_map, Option.bind_some, Ql, hlt, decide_true, if_true, h0, hlen, and_self, Qr, Qme h.c_f86 x, hzs, ReadMark.u_var, ReadMark.u_size, ReadMark.u_storable, ReadMark.u_partable]
    simpa using ih
theorem Qyf (h : G_f87 E) (l : List ReadMark) (hl : l.length ≤ 1048576) : E 28 [.sl 2 (l.map ReadMark.u)] = some (.sl 2 (l.map ReadMark.u)) := by
  have h1 := Qmg h l hl l [] 0 (List.replicate l.length (.agg [.int .i64 0, .int .i64 0])) rfl rfl (by simp) (by simp)
  rw [f87_E h]
  simp only [Qk, Option.bind_some, List.length_map]
  rw [if_pos (by refine ⟨by omega, by omega, by omega, rfl⟩)]
  simpa using h1
theorem Qkz (h : G_f49 E) (x y : ReadMark) : E 35 [x.u, y.u] = some (.bool (decide (x = y))) := by
  rw [f49_E h]
  obtain ⟨a0, a1⟩ := x
  obtain ⟨b0, b1⟩ := y
  simp only [ReadMark.mk.injEq]
  by_cases h0 : a0 = b0
  case neg => simp [h0]
  subst h0
  by_cases h1 : a1 = b1
  case neg => simp [h1]
  subst h1
  simp []
theorem Qk2 (h : G_f50 E) (a b : List ReadMark) (ha : a.length ≤ 1048576) (hb : b.length ≤ 1048576) : ∀ (r s p p2 : List ReadMark) (i : Int), a = p ++ r → b = p2 ++ s → i = p.length → i = p2.length → r.length = s.length →
    f50_l0 E (.sl 2 (a.map ReadMark.u)) (.sl 2 (b.map ReadMark.u)) (.int .i64 i) = some (.bool (decide (r = s)))
  | [], [], p, p2, i, e, e2, hi, hi2, _ => by
    rw [Qfw]
    simp [Qf e hi]
  | [], y :: s, _, _, _, _, _, _, _, hl => by cases hl
  | x :: r, [], _, _, _, _, _, _, _, hl => by cases hl
  | x :: r, y :: s, p, p2, i, e, e2, hi, hi2, hl => by
    obtain ⟨h0, hlt, hx, hw, hn, _⟩ := Qd e hi (by omega)
    obtain ⟨_, _, hy, _, hn2, _⟩ := Qd e2 hi2 (by omega)
    have ih := Qk2 h a b ha hb r s (p ++ [x]) (p2 ++ [y]) (i + 1) (Qe e) (Qe e2) hn hn2 (by simpa using hl)
    rw [Qfw]
    by_cases hxy : x = y
    · subst hxy
      simp [hlt, hx, hy, hw, ih, Qkz h.c_f49]
    · simp [hlt, hx, hy, hw, ih, Qkz h.c_f49, hxy]
theorem Qz (h : G_f50 E) (a b : List ReadMark) (ha : a.length ≤ 1048576) (hb : b.length ≤ 1048576) : E 34 [.sl 2 (a.map ReadMark.u), .sl 2 (b.map ReadMark.u)] = some (.bool (decide (a = b))) := by
  rw [f50_E h]
  by_cases hl : a.length = b.length
  · simp [hl, Qk2 h a b ha hb a b [] [] 0 rfl rfl rfl rfl hl]
  · have h1 : a ≠ b := fun e => hl (by rw [e])
    have h2 : (a.length : Int) ≠ b.length := by omega
    simp [h1, h2]
theorem Qxp (h : G_f73 E) (l : List ReadMark) (hl : l.length ≤ maxLen) (left : Int) (h0 : 0 ≤ left) (h1 : left ≤ 1048576) : E 24 [.sl 2 (l.map ReadMark.u), .int .i64 left] = some (.int .i64 (szc l.length left)) := by
  rw [f73_E h]
  unfold maxLen at hl
  have hw : IntKind.i64.wrap (left - (l.length : Int)) = left - l.length := Qi (by omega)
  by_cases h2 : left - (l.length : Int) < 0 <;> simp [hw, szc, h2]
theorem Qi1 (h : G_f103 E) (x : Write) : E 30 [x.u] = some x.u := by
  rw [Qr3 h]
  simp [Write.u]
theorem Qi3 (h : G_f104 E) (l : List Write) (hl : l.length ≤ 1048576) : ∀ (r p : List Write) (i : Int) (c : List U), l = p ++ r → i = p.length → c.length = r.length → (∀ z ∈ c, z.size = 2) →
    f104_l0 E (.sl 2 (l.map Write.u)) (.int .i64 i) (p.map Write.u ++ c) = some (.sl 2 (l.map Write.u))
  | [], p, i, c, e, hi, hc, _ => by
    obtain rfl : c = [] := List.length_eq_zero_iff.1 hc
    rw [Qi2]
    simp [Qf e hi]
    simp [e]
  | x :: r, p, i, [], e, hi, hc, _ => by cases hc
  | x :: r, p, i, z :: c, e, hi, hc, hz => by
    obtain ⟨h0, hlt, hx, hw, hn, _⟩ := Qd e hi (by omega)
    have hzs : z.size = 2 := hz z (by simp)
    obtain ⟨hg, hs, hlen⟩ := Qv Write.u p z c hi
    have ih := Qi3 h l hl r (p ++ [x]) (i + 1) c (Qe e) hn (by simpa using hc) (fun y hy => hz y (by simp [hy]))
    simp only [List.map_append, List.map_cons, List.map_nil, List.append_assoc, List.cons_append, List.nil_append] at ih
    rw [Qi2]
    simp only [hg, hs, hx, hw, Qq, Qm, Qk, List.length_map, Option.bind_some, Ql, hlt, decide_true, if_true, h0, hlen, and_self, Qr, Qi1 h.c_f103 x, hzs, Write.u_var, Write.u_size, Write.u_storable, Write.u_partable]
    simpa using ih
theorem Qr6 (h : G_f104 E) (l : List Write) (hl : l.length ≤ 1048576) : E 27 [.sl 2 (l.map Write.u)] = some (.sl 2 (l.map Write.u)) := by
  have h1 := Qi3 h l hl l [] 0 (List.replicate l.length (.agg [.int .i64 0, .int .i64 0])) rfl rfl (by simp) (by simp)
  rw [Qr5 h]
  simp only [Qk, Option.bind_some, List.length_map]
  rw [if_pos (by refine ⟨by omega, by omega, by omega, rfl⟩)]
  simpa using h1
theorem Qlf (h : G_f59 E) (x y : Write) : E 36 [x.u, y.u] = some (.bool (decide (x = y))) := by
  rw [f59_E h]
  obtain ⟨a0, a1⟩ := x
  obtain ⟨b0, b1⟩ := y
  simp only [Write.mk.injEq]
  by_cases h0 : a0 = b0
  case neg => simp [h0]
  subst h0
  by_cases h1 : a1 = b1
  case neg => simp [h1]
  subst h1
  simp []
theorem Qlh (h : G_f60 E) (a b : List Write) (ha : a.length ≤ 1048576) (hb : b.length ≤ 1048576) : ∀ (r s p p2 : List Write) (i : Int), a = p ++ r → b = p2 ++ s → i = p.length → i = p2.length → r.length = s.length →
    f60_l0 E (.sl 2 (a.map Write.u)) (.sl 2 (b.map Write.u)) (.int .i64 i) = some (.bool (decide (r = s)))
  | [], [], p, p2, i, e, e2, hi, hi2, _ => by
    rw [Qfx]
    simp [Qf e hi]
  | [], y :: s, _, _, _, _, _, _, _, hl => by cases hl
  | x :: r, [], _, _, _, _, _, _, _, hl => by cases hl
  | x :: r, y :: s, p, p2, i, e, e2, hi, hi2, hl => by
    obtain ⟨h0, hlt, hx, hw, hn, _⟩ := Qd e hi (by omega)
    obtain ⟨_, _, hy, _, hn2, _⟩ := Qd e2 hi2 (by omega)
    have ih := Qlh h a b ha hb r s (p ++ [x]) (p2 ++ [y]) (i + 1) (Qe e) (Qe e2) hn hn2 (by simpa using hl)
    rw [Qfx]
    by_cases hxy : x = y
    · subst hxy
      simp [hlt, hx, hy, hw, ih, Qlf h.c_f59]
    · simp [hlt, hx, hy, hw, ih, Qlf h.c_f59, hxy]
theorem Qaa (h : G_f60 E) (a b : List Write) (ha : a.length ≤ 1048576) (hb : b.length ≤ 1048576) : E 33 [.sl 2 (a.map Write.u), .sl 2 (b.map Write.u)] = some (.bool (decide (a = b))) := by
  rw [f60_E h]
  by_cases hl : a.length = b.length
  · simp [hl, Qlh h a b ha hb a b [] [] 0 rfl rfl rfl rfl hl]
  · have h1 : a ≠ b := fun e => hl (by rw [e])
    have h2 : (a.length : Int) ≠ b.length := by omega
    simp [h1, h2]
theorem Qx3 (h : G_f80 E) (l : List Write) (hl : l.length ≤ maxLen) (left : Int) (h0 : 0 ≤ left) (h1 : left ≤ 1048576) : E 23 [.sl 2 (l.map Write.u), .int .i64 left] = some (.int .i64 (szc l.length left)) := by
  rw [f80_E h]
  unfold maxLen at hl
  have hw : IntKind.i64.wrap (left - (l.length : Int)) = left - l.length := Qi (by omega)
  by_cases h2 : left - (l.length : Int) < 0 <;> simp [hw, szc, h2]
def emp2 (u : U) : Prop := u = .sl 2 [] ∨ u = .nsl 2
theorem Qef {u : U} (h : emp2 u) : U.lenOf false u = some 0 := by rcases h with rfl | rfl <;> rfl
theorem Qit (h : G_f50 E) {a b : U} (ha : emp2 a) (hb : emp2 b) : E 34 [a, b] = some (.bool true) := by
  rw [f50_E h, Qfw]; simp [Qef ha, Qef hb]
theorem Qiu (h : G_f60 E) {a b : U} (ha : emp2 a) (hb : emp2 b) : E 33 [a, b] = some (.bool true) := by
  rw [f60_E h, Qfx]; simp [Qef ha, Qef hb]
theorem Qcn {n : Int} (h : 0 ≤ n) : U.bin .lss (.int .i64 n) (.int .i64 0) = some (.bool false) := by
  have : ¬ n < 0 := by omega
  simp [this]
theorem Qh4 (k : Nat) (y : U) (ys : List U) (K : U → List U → Option U) : U.asMut k (.tup [y, .sl k ys]) K = K y ys := if_pos rfl
theorem Qc0 (n : Int) (K : U → Option U) : U.asFlat (.int .i64 n) K = K (.int .i64 n) := rfl
theorem Qbv (a b : Option U) : U.asBool (.bool false) a b = b := rfl
def isCommit (stamp : Int) (t : Transaction) : Bool := decide (t.state = 2) && decide (t.commit = stamp)
def recOf (e : Engine) (stamp : Int) (t : Transaction) : LogRecord := ⟨stamp, t.id, t.high, mn stamp (safeStamp e), t.reads, t.writes⟩
def keepRec (r : LogRecord) : Option LogRecord := if r.valid then some r else none
def recordOf (e : Engine) (stamp : Int) : Option LogRecord := match e.transactions.find? (isCommit stamp) with
  | none => none
  | some t => keepRec (recOf e stamp t)
def recordAt (e : Engine) (stamp : Int) : Option LogRecord := if e.valid then recordOf e stamp else none
def recV : Option LogRecord → U
  | none => .agg [.int .i64 0, .int .i64 0, .int .i64 0, .int .i64 0, .nsl 2, .nsl 2]
  | some r => r.u
def rec0 : LogRecord := ⟨0, 0, 0, 0, [], []⟩
def recF (q : Option LogRecord) : LogRecord := q.getD rec0
theorem Qab4 (q : Option LogRecord) (K : U → Option U) : U.noTup (recV q) K = K (recV q) := by cases q <;> rfl
theorem Qab6 (q : Option LogRecord) (K : U → Option U) : U.asVar true 6 (recV q) K = K (recV q) := by cases q <;> rfl
theorem Qo8 (q : Option LogRecord) : storable (.val (recV q)) = true ∧ (recV q).size = 6 := by cases q <;> exact ⟨rfl, rfl⟩
theorem Qoa (a b : Int) : ([b] : List Int).foldl (fun a b => if false then (if a < b then b else a) else (if b < a then b else a)) a = mn a b := by
  simp [mn]
theorem Qnq (h : G_f9 E) (t : Transaction) (n : Int) : E 401 [t.u, .vp (.int .i64 n)] = some (.bool (isCommit n t)) := by
  rw [f9_E h]
  by_cases h1 : t.state = 2 <;> simp [isCommit, h1]
theorem Qez (e : Engine) (ho : e.ok) (n : Int) (t : Transaction) (ht : t ∈ e.transactions) : (recOf e n t).ok := ho.2.2.1 t ht
theorem Qaap (h : G_f8 E) (e : Engine) (ho : e.ok) (hv : e.valid = true) (n : Int) : E 400 [e.u, .int .i64 n] = some (.tup [recV (recordOf e n), .bool (recordOf e n).isSome]) := by
  rw [f8_E h]
  have hI := Qfq h.c_f116 e.transactions (by have := ho.2.1; omega) 401 [.vp (.int .i64 n)] (isCommit n) (fun t _ => Qnq h.c_f9 t n)
  have hs := Qns h.c_f11 e ho hv
  unfold recordOf
  rcases Qdb (isCommit n) e.transactions (by have := ho.2.1; omega) with ⟨e1, e2⟩ | ⟨t, j, e1, e2, e3, e4, e5, e6, e7⟩
  · rw [e2] at hI
    simp [hI, e1, recV, Qod]
  · rw [e4] at hI
    have hc := Qaak h.c_f34 t (ho.2.2.1 t e2)
    have hV := Qki h.c_f22 _ (Qez e ho n t e2)
    have hneg : ¬ j < 0 := by omega
    have e7' := fun {γ : Type} (K : U → Option γ) => e7 9 Transaction.u K
    have hm := Qoa n (safeStamp e)
    simp only [List.foldl_cons, List.foldl_nil, Bool.false_eq_true, if_false] at hm
    simp only [LogRecord.u, recOf] at hV
    have sg : ∀ us, storable (.val (.agg us)) = true := fun _ => rfl
    have pg : ∀ n, partable (.val (.int .i64 n)) = true := fun _ => rfl
    have ps : ∀ k us, partable (.val (.sl k us)) = true := fun _ _ => rfl
    cases hr : (recOf e n t).valid <;> simp only [recOf] at hr <;> rw [hr] at hV <;>
      simp [hI, e1, recV, Qod, hneg, e7', hc, hs, hm, hV, keepRec, recOf, hr, sg, pg, ps, LogRecord.u, Option.isSome]
theorem Qaao (h : G_f10 E) (e : Engine) (ho : e.ok) (hv : e.valid = true) (n : Int) : E 100400 [e.u, .int .i64 n] = some (.tup [(recF (recordOf e n)).u, .bool (recordOf e n).isSome]) := by
  rw [f10_E h]
  have hI := Qfq h.c_f116 e.transactions (by have := ho.2.1; omega) 401 [.vp (.int .i64 n)] (isCommit n) (fun t _ => Qnq h.c_f9 t n)
  have hs := Qns h.c_f11 e ho hv
  rcases Qdb (isCommit n) e.transactions (by have := ho.2.1; omega) with ⟨e1, e2⟩ | ⟨t, j, e1, e2, e3, e4, e5, e6, e7⟩
  · rw [e2] at hI
    have hR : recordOf e n = none := by simp [recordOf, e1]
    rw [hR]
    show (E 172 [.sl 9 (e.transactions.map Transaction.u), .fn 401 [.vp (.int .i64 n)]]).bind _ = _
    rw [hI]
    rfl
  · rw [e4] at hI
    have hc := Qaaj h.c_f35 t (ho.2.2.1 t e2)
    have hV := Qki h.c_f22 _ (Qez e ho n t e2)
    have hR : recordOf e n = keepRec (recOf e n t) := by simp [recordOf, e1]
    rw [hR]
    have key : ∀ K : U → Option U, (U.asAgg e.u fun us9 => if 2 = sizes (us9.take 2) then (us9[2]?).bind fun e10 => U.asVar false 1 e10 fun e11 => U.asInt (.int .i64 j) fun n12 => U.elemAt 9 e11 n12 fun e13 => U.asVar true 9 e13 K else none) = K t.u := fun K => by
      have e7' := fun {γ : Type} (K : U → Option γ) => e7 9 Transaction.u K
      simp [e7']
    show (E 172 [.sl 9 (e.transactions.map Transaction.u), .fn 401 [.vp (.int .i64 n)]]).bind _ = _
    rw [hI, Option.bind_some, Qc0, Qcn e5, Option.bind_some, Qbv]
    refine (key _).trans ?_
    show (E 100222 [t.u]).bind _ = _
    rw [hc]
    show (E 193 [e.u]).bind _ = _
    rw [hs]
    show (E 68 [(recOf e n t).u]).bind _ = _
    rw [hV]
    unfold keepRec
    cases hr : (recOf e n t).valid <;> rfl
theorem Qvr (h : G_f27 E) (e : Engine) (ho : e.ok) (n : Int) : E 397 [e.u, .int .i64 n] = some (.tup [recV (recordAt e n), .bool (recordAt e n).isSome]) := by
  rw [f27_E h]
  have g1 := Qkg h.c_f19 e ho
  unfold recordAt
  cases hv : e.valid with
  | false => simp [g1, hv, recV]
  | true =>
    have g2 := Qaap h.c_f8 e ho hv n
    simp [g1, hv, g2, (Qo8 _).1, (Qo8 _).2, Qab6, Qab4]
theorem Qvt (h : G_f28 E) (e : Engine) (ho : e.ok) (n : Int) : E 100397 [e.u, .int .i64 n] = some (.tup [(recF (recordAt e n)).u, .bool (recordAt e n).isSome]) := by
  rw [f28_E h]
  have g1 := Qkg h.c_f19 e ho
  unfold recordAt
  cases hv : e.valid with
  | false => simp [g1, hv, recF, rec0, LogRecord.u]
  | true =>
    have g2 := Qaao h.c_f10 e ho hv n
    simp only [if_true]
    generalize recF (recordOf e n) = x at g2 ⊢
    generalize (recordOf e n).isSome = b at g2 ⊢
    show (E 148 [e.u]).bind _ = _
    rw [g1, hv]
    show (E 100400 [e.u, .int .i64 n]).bind _ = _
    rw [g2]
    rfl
theorem Qj9 (h : G_f131 E) (e : Engine) (ho : e.ok) (hv : e.valid = true) (n : Int) : ∀ (r p : List Transaction) (i : Int), e.transactions = p ++ r → i = p.length →
    f131_l0 E (.int .i64 n) (.int .i64 i) e.u (recV none) = some (.tup [recV (match r.find? (isCommit n) with | none => none | some t => keepRec (recOf e n t)), .bool (match r.find? (isCommit n) with | none => none | some t => keepRec (recOf e n t)).isSome])
  | [], p, i, el, hi => by
    rw [Qfs]
    simp [Qf el hi, recV, U.size]
  | t :: r, p, i, el, hi => by
    obtain ⟨h0, hlt, hx, hw, hn, _⟩ := Qd el hi (by have := ho.2.1; omega)
    have ih := Qj9 h e ho hv n r (p ++ [t]) (i + 1) (Qe el) hn
    have ht : t ∈ e.transactions := by rw [el]; simp
    have g1 := Qa9 h.c_f124 e ho
    have hc := Qu0 h.c_f139 t (ho.2.2.1 t ht)
    have hs := Quk h.c_f133 e ho
    have hV := Qtz h.c_f125 _ (Qez e ho n t ht)
    have hm := Qoa n (safeStamp e)
    simp only [List.foldl_cons, List.foldl_nil, Bool.false_eq_true, if_false] at hm
    simp only [LogRecord.u, recOf] at hV
    rw [Qfs]
    have hsz : (recV none).size = 6 := rfl
    have sg : ∀ us, storable (.val (.agg us)) = true := fun _ => rfl
    have pg : ∀ n, partable (.val (.int .i64 n)) = true := fun _ => rfl
    have ps : ∀ k us, partable (.val (.sl k us)) = true := fun _ _ => rfl
    by_cases h2 : t.state = 2
    · by_cases h3 : t.commit = n
      · have hP : isCommit n t = true := by simp [isCommit, h2, h3]
        cases hr : (recOf e n t).valid <;> simp only [recOf] at hr <;> rw [hr] at hV <;>
          simp [hlt, hx, hw, g1, hv, h2, h3, hc, hs, hm, hV, hP, keepRec, recOf, hr, hsz, recV, sg, pg, ps, LogRecord.u, Option.isSome]
      · have hP : isCommit n t = false := by simp [isCommit, h2, h3]
        simp [hlt, hx, hw, g1, hv, h2, h3, hP, ih]
    · have hP : isCommit n t = false := by simp [isCommit, h2]
      simp [hlt, hx, hw, g1, hv, h2, hP, ih]
theorem Que (h : G_f131 E) (e : Engine) (ho : e.ok) (n : Int) : E 399 [e.u, .int .i64 n] = some (.tup [recV (recordAt e n), .bool (recordAt e n).isSome]) := by
  rw [Qud h]
  unfold recordAt
  cases hv : e.valid with
  | true =>
    have := Qj9 h e ho hv n e.transactions [] 0 rfl rfl
    simp only [Engine.u_noTup, if_true]
    exact this
  | false =>
    have g1 := Qa9 h.c_f124 e ho
    rw [hv] at g1
    simp only [Engine.u_noTup]
    rw [Qfs]
    by_cases hz : (0 : Int) < e.transactions.length <;> simp [hz, g1, recV, U.size]
theorem Qky (h : G_f48 E) (x y : LogRecord) (hx : x.ok) (hy : y.ok) : E 19 [x.u, y.u] = some (.bool (decide (x = y))) := by
  rw [f48_E h]
  obtain ⟨a0, a1, a2, a3, a4, a5⟩ := x
  obtain ⟨b0, b1, b2, b3, b4, b5⟩ := y
  simp only [LogRecord.mk.injEq]
  by_cases h0 : a0 = b0
  case neg => simp [Qz h.c_f50 a4 b4 hx.1 hy.1, Qaa h.c_f60 a5 b5 hx.2 hy.2, h0]
  subst h0
  by_cases h1 : a1 = b1
  case neg => simp [Qz h.c_f50 a4 b4 hx.1 hy.1, Qaa h.c_f60 a5 b5 hx.2 hy.2, h1]
  subst h1
  by_cases h2 : a2 = b2
  case neg => simp [Qz h.c_f50 a4 b4 hx.1 hy.1, Qaa h.c_f60 a5 b5 hx.2 hy.2, h2]
  subst h2
  by_cases h3 : a3 = b3
  case neg => simp [Qz h.c_f50 a4 b4 hx.1 hy.1, Qaa h.c_f60 a5 b5 hx.2 hy.2, h3]
  subst h3
  by_cases h4 : a4 = b4
  case neg => simp [Qz h.c_f50 a4 b4 hx.1 hy.1, Qaa h.c_f60 a5 b5 hx.2 hy.2, h4]
  subst h4
  by_cases h5 : a5 = b5
  case neg => simp [Qz h.c_f50 a4 a4 hx.1 hy.1, Qaa h.c_f60 a5 b5 hx.2 hy.2, h5]
  subst h5
  simp [Qz h.c_f50 a4 a4 hx.1 hy.1, Qaa h.c_f60 a5 a5 hx.2 hy.2]
theorem Qmn (h : G_f95 E) (x : Version) : E 109 [x.u] = some x.u := by
  rw [f95_E h]
  simp [Version.u]
theorem Qmp (h : G_f96 E) (l : List Version) (hl : l.length ≤ 1048576) : ∀ (r p : List Version) (i : Int) (c : List U), l = p ++ r → i = p.length → c.length = r.length → (∀ z ∈ c, z.size = 5) →
    f96_l0 E (.sl 5 (l.map Version.u)) (.int .i64 i) (p.map Version.u ++ c) = some (.sl 5 (l.map Version.u))
  | [], p, i, c, e, hi, hc, _ => by
    obtain rfl : c = [] := List.length_eq_zero_iff.1 hc
    rw [Qmo]
    simp [Qf e hi]
    simp [e]
  | x :: r, p, i, [], e, hi, hc, _ => by cases hc
  | x :: r, p, i, z :: c, e, hi, hc, hz => by
    obtain ⟨h0, hlt, hx, hw, hn, _⟩ := Qd e hi (by omega)
    have hzs : z.size = 5 := hz z (by simp)
    obtain ⟨hg, hs, hlen⟩ := Qv Version.u p z c hi
    have ih := Qmp h l hl r (p ++ [x]) (i + 1) c (Qe e) hn (by simpa using hc) (fun y hy => hz y (by simp [hy]))
    simp only [List.map_append, List.map_cons, List.map_nil, List.append_assoc, List.cons_append, List.nil_append] at ih
    rw [Qmo]
    simp only [hg, hs, hx, hw, Qq, Qm, Qk, List.length_map, Option.bind_some, Ql, hlt, decide_true, if_true, h0, hlen, and_self, Qr, Qmn h.c_f95 x, hzs, Version.u_var, Version.u_size, Version.u_storable, Version.u_partable]
    simpa using ih
theorem Qyy (h : G_f96 E) (l : List Version) (hl : l.length ≤ 1048576) : E 108 [.sl 5 (l.map Version.u)] = some (.sl 5 (l.map Version.u)) := by
  have h1 := Qmp h l hl l [] 0 (List.replicate l.length (.agg [.int .i64 0, .int .i64 0, .int .i64 0, .int .i64 0, .int .i64 0])) rfl rfl (by simp) (by simp)
  rw [f96_E h]
  simp only [Qk, Option.bind_some, List.length_map]
  rw [if_pos (by refine ⟨by omega, by omega, by omega, rfl⟩)]
  simpa using h1
theorem Qk6 (h : G_f54 E) (x y : Version) : E 120 [x.u, y.u] = some (.bool (decide (x = y))) := by
  rw [f54_E h]
  obtain ⟨a0, a1, a2, a3, a4⟩ := x
  obtain ⟨b0, b1, b2, b3, b4⟩ := y
  simp only [Version.mk.injEq]
  by_cases h0 : a0 = b0
  case neg => simp [h0]
  subst h0
  by_cases h1 : a1 = b1
  case neg => simp [h1]
  subst h1
  by_cases h2 : a2 = b2
  case neg => simp [h2]
  subst h2
  by_cases h3 : a3 = b3
  case neg => simp [h3]
  subst h3
  by_cases h4 : a4 = b4
  case neg => simp [h4]
  subst h4
  simp []
theorem Qk9 (h : G_f55 E) (a b : List Version) (ha : a.length ≤ 1048576) (hb : b.length ≤ 1048576) : ∀ (r s p p2 : List Version) (i : Int), a = p ++ r → b = p2 ++ s → i = p.length → i = p2.length → r.length = s.length →
    f55_l0 E (.sl 5 (a.map Version.u)) (.sl 5 (b.map Version.u)) (.int .i64 i) = some (.bool (decide (r = s)))
  | [], [], p, p2, i, e, e2, hi, hi2, _ => by
    rw [Qk8]
    simp [Qf e hi]
  | [], y :: s, _, _, _, _, _, _, _, hl => by cases hl
  | x :: r, [], _, _, _, _, _, _, _, hl => by cases hl
  | x :: r, y :: s, p, p2, i, e, e2, hi, hi2, hl => by
    obtain ⟨h0, hlt, hx, hw, hn, _⟩ := Qd e hi (by omega)
    obtain ⟨_, _, hy, _, hn2, _⟩ := Qd e2 hi2 (by omega)
    have ih := Qk9 h a b ha hb r s (p ++ [x]) (p2 ++ [y]) (i + 1) (Qe e) (Qe e2) hn hn2 (by simpa using hl)
    rw [Qk8]
    by_cases hxy : x = y
    · subst hxy
      simp [hlt, hx, hy, hw, ih, Qk6 h.c_f54]
    · simp [hlt, hx, hy, hw, ih, Qk6 h.c_f54, hxy]
theorem Qwt (h : G_f55 E) (a b : List Version) (ha : a.length ≤ 1048576) (hb : b.length ≤ 1048576) : E 119 [.sl 5 (a.map Version.u), .sl 5 (b.map Version.u)] = some (.bool (decide (a = b))) := by
  rw [f55_E h]
  by_cases hl : a.length = b.length
  · simp [hl, Qk9 h a b ha hb a b [] [] 0 rfl rfl rfl rfl hl]
  · have h1 : a ≠ b := fun e => hl (by rw [e])
    have h2 : (a.length : Int) ≠ b.length := by omega
    simp [h1, h2]
theorem Qxw (h : G_f77 E) (l : List Version) (hl : l.length ≤ maxLen) (left : Int) (h0 : 0 ≤ left) (h1 : left ≤ 1048576) : E 101 [.sl 5 (l.map Version.u), .int .i64 left] = some (.int .i64 (szc l.length left)) := by
  rw [f77_E h]
  unfold maxLen at hl
  have hw : IntKind.i64.wrap (left - (l.length : Int)) = left - l.length := Qi (by omega)
  by_cases h2 : left - (l.length : Int) < 0 <;> simp [hw, szc, h2]
theorem Qyx (h : G_f96 E) (x : List Version) (hx : chainOk x) : E 108 [chainU x] = some (chainU x) := Qyy h x hx
theorem Qk7 (h : G_f55 E) (x y : List Version) (hx : chainOk x) (hy : chainOk y) : E 119 [chainU x, chainU y] = some (.bool (decide (x = y))) := Qwt h x y hx hy
theorem Ql6 (h : G_f77 E) (x : List Version) (hx : chainFit x) (left : Int) (h0 : 0 ≤ left) (h1 : left ≤ 1048576) : E 101 [chainU x, .int .i64 left] = some (.int .i64 (chainSz x left)) := Qxw h x hx left h0 h1
theorem Qmr (h : G_f97 E) (l : List (List Version)) (hl : l.length ≤ 1048576) (hok : ∀ x ∈ l, chainOk x) : ∀ (r p : List (List Version)) (i : Int) (c : List U), l = p ++ r → i = p.length → c.length = r.length → (∀ z ∈ c, z.size = 1) →
    f97_l0 E (.sl 1 (l.map chainU)) (.int .i64 i) (p.map chainU ++ c) = some (.sl 1 (l.map chainU))
  | [], p, i, c, e, hi, hc, _ => by
    obtain rfl : c = [] := List.length_eq_zero_iff.1 hc
    rw [Qmq]
    simp [Qf e hi]
    simp [e]
  | x :: r, p, i, [], e, hi, hc, _ => by cases hc
  | x :: r, p, i, z :: c, e, hi, hc, hz => by
    obtain ⟨h0, hlt, hx, hw, hn, _⟩ := Qd e hi (by omega)
    have hox : chainOk x := hok x (by rw [e]; simp)
    have hzs : z.size = 1 := hz z (by simp)
    obtain ⟨hg, hs, hlen⟩ := Qv chainU p z c hi
    have ih := Qmr h l hl hok r (p ++ [x]) (i + 1) c (Qe e) hn (by simpa using hc) (fun y hy => hz y (by simp [hy]))
    simp only [List.map_append, List.map_cons, List.map_nil, List.append_assoc, List.cons_append, List.nil_append] at ih
    rw [Qmq]
    simp only [hg, hs, hx, hw, Qq, Qm, Qk, List.length_map, Option.bind_some, Ql, hlt, decide_true, if_true, h0, hlen, and_self, Qr, Qyx h.c_f96 x hox, hzs, Qc2, Qib, Qqe, Qov]
    simpa using ih
theorem Qy0 (h : G_f97 E) (l : List (List Version)) (hl : l.length ≤ 1048576) (hok : ∀ x ∈ l, chainOk x) : E 107 [.sl 1 (l.map chainU)] = some (.sl 1 (l.map chainU)) := by
  have h1 := Qmr h l hl hok l [] 0 (List.replicate l.length (.nsl 5)) rfl rfl (by simp) (by simp)
  rw [f97_E h]
  simp only [Qk, Option.bind_some, List.length_map]
  rw [if_pos (by refine ⟨by omega, by omega, by omega, rfl⟩)]
  simpa using h1
theorem Qlb (h : G_f56 E) (a b : List (List Version)) (ha : a.length ≤ 1048576) (hb : b.length ≤ 1048576) (hao : ∀ x ∈ a, chainOk x) (hbo : ∀ x ∈ b, chainOk x) : ∀ (r s p p2 : List (List Version)) (i : Int), a = p ++ r → b = p2 ++ s → i = p.length → i = p2.length → r.length = s.length →
    f56_l0 E (.sl 1 (a.map chainU)) (.sl 1 (b.map chainU)) (.int .i64 i) = some (.bool (decide (r = s)))
  | [], [], p, p2, i, e, e2, hi, hi2, _ => by
    rw [Qla]
    simp [Qf e hi]
  | [], y :: s, _, _, _, _, _, _, _, hl => by cases hl
  | x :: r, [], _, _, _, _, _, _, _, hl => by cases hl
  | x :: r, y :: s, p, p2, i, e, e2, hi, hi2, hl => by
    obtain ⟨h0, hlt, hx, hw, hn, _⟩ := Qd e hi (by omega)
    obtain ⟨_, _, hy, _, hn2, _⟩ := Qd e2 hi2 (by omega)
    have hox : chainOk x := hao x (by rw [e]; simp)
    have hoy : chainOk y := hbo y (by rw [e2]; simp)
    have ih := Qlb h a b ha hb hao hbo r s (p ++ [x]) (p2 ++ [y]) (i + 1) (Qe e) (Qe e2) hn hn2 (by simpa using hl)
    rw [Qla]
    by_cases hxy : x = y
    · subst hxy
      simp [hlt, hx, hy, hw, ih, Qk7 h.c_f55 _ _ hox hoy]
    · simp [hlt, hx, hy, hw, ih, Qk7 h.c_f55 _ _ hox hoy, hxy]
theorem Qwv (h : G_f56 E) (a b : List (List Version)) (ha : a.length ≤ 1048576) (hb : b.length ≤ 1048576) (hao : ∀ x ∈ a, chainOk x) (hbo : ∀ x ∈ b, chainOk x) : E 118 [.sl 1 (a.map chainU), .sl 1 (b.map chainU)] = some (.bool (decide (a = b))) := by
  rw [f56_E h]
  by_cases hl : a.length = b.length
  · simp [hl, Qlb h a b ha hb hao hbo a b [] [] 0 rfl rfl rfl rfl hl]
  · have h1 : a ≠ b := fun e => hl (by rw [e])
    have h2 : (a.length : Int) ≠ b.length := by omega
    simp [h1, h2]
theorem Ql8 (h : G_f78 E) (l : List (List Version)) (hl : l.length ≤ 1048576) (hf : ∀ x ∈ l, chainFit x) : ∀ (r p : List (List Version)) (i left : Int), l = p ++ r → i = p.length → 0 ≤ left → left ≤ 1048576 →
    f78_l0 E (.sl 1 (l.map chainU)) (.int .i64 left) (.int .i64 i) = some (.int .i64 (szl chainSz r left))
  | [], p, i, left, e, hi, _, _ => by
    rw [Ql7]
    simp [Qf e hi, szl]
  | x :: r, p, i, left, e, hi, h1, h2 => by
    obtain ⟨h0, hlt, hx, hw, hn, _⟩ := Qd e hi (by omega)
    have hfx : chainFit x := hf x (by rw [e]; simp)
    rw [Ql7]
    rcases Qia x left h1 h2 with h3 | ⟨_, h3, h4⟩
    · simp [hlt, hx, hw, szl, Ql6 h.c_f77 x hfx left h1 h2, h3]
    · have ih := Ql8 h l hl hf r (p ++ [x]) (i + 1) (chainSz x left) (Qe e) hn h3 (by omega)
      have h5 : ¬ chainSz x left < 0 := by omega
      simp [hlt, hx, hw, szl, Ql6 h.c_f77 x hfx left h1 h2, h5, ih]
theorem Qxy (h : G_f78 E) (l : List (List Version)) (hl : l.length ≤ maxLen) (hf : ∀ x ∈ l, chainFit x) (left : Int) (h0 : 0 ≤ left) (h1 : left ≤ 1048576) : E 100 [.sl 1 (l.map chainU), .int .i64 left] = some (.int .i64 (szL chainSz l left)) := by
  rw [f78_E h]
  unfold maxLen at hl
  have hw : IntKind.i64.wrap (left - (l.length : Int)) = left - l.length := Qi (by omega)
  by_cases h2 : left - (l.length : Int) < 0
  · simp [hw, szL, h2]
  · simp [hw, szL, h2, Ql8 h l (by omega) hf l [] 0 (left - l.length) rfl rfl (by omega) (by omega)]
theorem Qyj (h : G_f89 E) (s : Store) (ho : s.ok) : E 93 [s.u] = some s.u := by
  rw [f89_E h]
  have h1 := Qy0 h.c_f97 s.chains ho.1 ho.2
  simp [h1]
  rfl
theorem Qwn (h : G_f51 E) (s t : Store) (ho : s.ok) (ho2 : t.ok) : E 97 [s.u, t.u] = some (.bool (decide (s = t))) := by
  rw [f51_E h]
  have h1 := Qwv h.c_f56 s.chains t.chains ho.1 ho2.1 ho.2 ho2.2
  by_cases h2 : s.chains = t.chains <;> simp [h1, h2, Store.eq_iff]
  rw [h2] at h1
  simp [h1]
theorem Qxr (h : G_f74 E) (s : Store) (hf : s.fit) (left : Int) (h0 : 0 ≤ left) (h1 : left ≤ 1048576) : E 99 [s.u, .int .i64 left] = some (.int .i64 (s.sz left)) := by
  rw [f74_E h]
  have a1 := Qxy h.c_f78 s.chains hf.1 hf.2 left h0 h1
  by_cases h2 : szL chainSz s.chains left < 0
  · have h3 := Qaeg Qq3 h2
    simp [a1, h3, Store.sz]
  · simp [a1, h2, Store.sz]
theorem Ql3 (h : G_f75 E) (x : Transaction) (hf : x.fit) (left : Int) (h0 : 0 ≤ left) (h1 : left ≤ 1048576) : E 132 [x.u, .int .i64 left] = some (.int .i64 (x.sz left)) := by
  rw [f75_E h]
  obtain ⟨hf1, hf2⟩ := hf
  have a1 := Qxp h.c_f73 x.reads hf1 left h0 h1
  rcases Qcd x.reads.length left h0 h1 with h2 | ⟨_, h3, h4⟩
  · simp [a1, Transaction.sz, h2]
  · have h5 : ¬ szc x.reads.length left < 0 := by omega
    have a2 := Qx3 h.c_f80 x.writes hf2 _ h3 (by omega)
    by_cases h6 : szc x.writes.length (szc x.reads.length left) < 0
    · have h7 : szc x.writes.length (szc x.reads.length left) = -1 := Qg8 h6
      simp [a1, a2, Transaction.sz, h5, h7]
    · simp [a1, a2, Transaction.sz, h5, h6]
theorem Qyo (h : G_f91 E) (x : Transaction) (ho : x.ok) : E 145 [x.u] = some x.u := by
  rw [f91_E h]
  simp [Transaction.u, Qyf h.c_f87 x.reads ho.1, Qr6 h.c_f104 x.writes ho.2]
theorem Qk3 (h : G_f52 E) (x y : Transaction) (hx : x.ok) (hy : y.ok) : E 177 [x.u, y.u] = some (.bool (decide (x = y))) := by
  rw [f52_E h]
  obtain ⟨a0, a1, a2, a3, a4, a5, a6, a7, a8⟩ := x
  obtain ⟨b0, b1, b2, b3, b4, b5, b6, b7, b8⟩ := y
  simp only [Transaction.mk.injEq]
  by_cases h0 : a0 = b0
  case neg => simp [Qz h.c_f50 a7 b7 hx.1 hy.1, Qaa h.c_f60 a8 b8 hx.2 hy.2, h0]
  subst h0
  by_cases h1 : a1 = b1
  case neg => simp [Qz h.c_f50 a7 b7 hx.1 hy.1, Qaa h.c_f60 a8 b8 hx.2 hy.2, h1]
  subst h1
  by_cases h2 : a2 = b2
  case neg => simp [Qz h.c_f50 a7 b7 hx.1 hy.1, Qaa h.c_f60 a8 b8 hx.2 hy.2, h2]
  subst h2
  by_cases h3 : a3 = b3
  case neg => simp [Qz h.c_f50 a7 b7 hx.1 hy.1, Qaa h.c_f60 a8 b8 hx.2 hy.2, h3]
  subst h3
  by_cases h4 : a4 = b4
  case neg => simp [Qz h.c_f50 a7 b7 hx.1 hy.1, Qaa h.c_f60 a8 b8 hx.2 hy.2, h4]
  subst h4
  by_cases h5 : a5 = b5
  case neg => simp [Qz h.c_f50 a7 b7 hx.1 hy.1, Qaa h.c_f60 a8 b8 hx.2 hy.2, h5]
  subst h5
  by_cases h6 : a6 = b6
  case neg => simp [Qz h.c_f50 a7 b7 hx.1 hy.1, Qaa h.c_f60 a8 b8 hx.2 hy.2, h6]
  subst h6
  by_cases h7 : a7 = b7
  case neg => simp [Qz h.c_f50 a7 b7 hx.1 hy.1, Qaa h.c_f60 a8 b8 hx.2 hy.2, h7]
  subst h7
  by_cases h8 : a8 = b8
  case neg => simp [Qz h.c_f50 a7 a7 hx.1 hy.1, Qaa h.c_f60 a8 b8 hx.2 hy.2, h8]
  subst h8
  simp [Qz h.c_f50 a7 a7 hx.1 hy.1, Qaa h.c_f60 a8 a8 hx.2 hy.2]
theorem Qmk (h : G_f92 E) (l : List Transaction) (hl : l.length ≤ 1048576) (hok : ∀ x ∈ l, Transaction.ok x) : ∀ (r p : List Transaction) (i : Int) (c : List U), l = p ++ r → i = p.length → c.length = r.length → (∀ z ∈ c, z.size = 9) →
    f92_l0 E (.sl 9 (l.map Transaction.u)) (.int .i64 i) (p.map Transaction.u ++ c) = some (.sl 9 (l.map Transaction.u))
  | [], p, i, c, e, hi, hc, _ => by
    obtain rfl : c = [] := List.length_eq_zero_iff.1 hc
    rw [Qmj]
    simp [Qf e hi]
    simp [e]
  | x :: r, p, i, [], e, hi, hc, _ => by cases hc
  | x :: r, p, i, z :: c, e, hi, hc, hz => by
    obtain ⟨h0, hlt, hx, hw, hn, _⟩ := Qd e hi (by omega)
    have hox : Transaction.ok x := hok x (by rw [e]; simp)
    have hzs : z.size = 9 := hz z (by simp)
    obtain ⟨hg, hs, hlen⟩ := Qv Transaction.u p z c hi
    have ih := Qmk h l hl hok r (p ++ [x]) (i + 1) c (Qe e) hn (by simpa using hc) (fun y hy => hz y (by simp [hy]))
    simp only [List.map_append, List.map_cons, List.map_nil, List.append_assoc, List.cons_append, List.nil_append] at ih
    rw [Qmj]
    simp only [hg, hs, hx, hw, Qq, Qm, Qk, List.length_map, Option.bind_some, Ql, hlt, decide_true, if_true, h0, hlen, and_self, Qr, Qyo h.c_f91 x hox, hzs, Transaction.u_var, Transaction.u_size, Transaction.u_storable, Transaction.u_partable]
    simpa using ih
theorem Qyq (h : G_f92 E) (l : List Transaction) (hl : l.length ≤ 1048576) (hok : ∀ x ∈ l, Transaction.ok x) : E 144 [.sl 9 (l.map Transaction.u)] = some (.sl 9 (l.map Transaction.u)) := by
  have h1 := Qmk h l hl hok l [] 0 (List.replicate l.length (.agg [.int .i64 0, .int .i64 0, .int .i64 0, .int .i64 0, .int .i64 0, .int .i64 0, .int .i64 0, .nsl 2, .nsl 2])) rfl rfl (by simp) (by simp)
  rw [f92_E h]
  simp only [Qk, Option.bind_some, List.length_map]
  rw [if_pos (by refine ⟨by omega, by omega, by omega, rfl⟩)]
  simpa using h1
theorem Qk5 (h : G_f53 E) (a b : List Transaction) (ha : a.length ≤ 1048576) (hb : b.length ≤ 1048576) (hao : ∀ x ∈ a, Transaction.ok x) (hbo : ∀ x ∈ b, Transaction.ok x) : ∀ (r s p p2 : List Transaction) (i : Int), a = p ++ r → b = p2 ++ s → i = p.length → i = p2.length → r.length = s.length →
    f53_l0 E (.sl 9 (a.map Transaction.u)) (.sl 9 (b.map Transaction.u)) (.int .i64 i) = some (.bool (decide (r = s)))
  | [], [], p, p2, i, e, e2, hi, hi2, _ => by
    rw [Qk4]
    simp [Qf e hi]
  | [], y :: s, _, _, _, _, _, _, _, hl => by cases hl
  | x :: r, [], _, _, _, _, _, _, _, hl => by cases hl
  | x :: r, y :: s, p, p2, i, e, e2, hi, hi2, hl => by
    obtain ⟨h0, hlt, hx, hw, hn, _⟩ := Qd e hi (by omega)
    obtain ⟨_, _, hy, _, hn2, _⟩ := Qd e2 hi2 (by omega)
    have hox : Transaction.ok x := hao x (by rw [e]; simp)
    have hoy : Transaction.ok y := hbo y (by rw [e2]; simp)
    have ih := Qk5 h a b ha hb hao hbo r s (p ++ [x]) (p2 ++ [y]) (i + 1) (Qe e) (Qe e2) hn hn2 (by simpa using hl)
    rw [Qk4]
    by_cases hxy : x = y
    · subst hxy
      simp [hlt, hx, hy, hw, ih, Qk3 h.c_f52 _ _ hox hoy]
    · simp [hlt, hx, hy, hw, ih, Qk3 h.c_f52 _ _ hox hoy, hxy]
theorem Qwq (h : G_f53 E) (a b : List Transaction) (ha : a.length ≤ 1048576) (hb : b.length ≤ 1048576) (hao : ∀ x ∈ a, Transaction.ok x) (hbo : ∀ x ∈ b, Transaction.ok x) : E 176 [.sl 9 (a.map Transaction.u), .sl 9 (b.map Transaction.u)] = some (.bool (decide (a = b))) := by
  rw [f53_E h]
  by_cases hl : a.length = b.length
  · simp [hl, Qk5 h a b ha hb hao hbo a b [] [] 0 rfl rfl rfl rfl hl]
  · have h1 : a ≠ b := fun e => hl (by rw [e])
    have h2 : (a.length : Int) ≠ b.length := by omega
    simp [h1, h2]
theorem Ql5 (h : G_f76 E) (l : List Transaction) (hl : l.length ≤ 1048576) (hf : ∀ x ∈ l, Transaction.fit x) : ∀ (r p : List Transaction) (i left : Int), l = p ++ r → i = p.length → 0 ≤ left → left ≤ 1048576 →
    f76_l0 E (.sl 9 (l.map Transaction.u)) (.int .i64 left) (.int .i64 i) = some (.int .i64 (szl Transaction.sz r left))
  | [], p, i, left, e, hi, _, _ => by
    rw [Ql4]
    simp [Qf e hi, szl]
  | x :: r, p, i, left, e, hi, h1, h2 => by
    obtain ⟨h0, hlt, hx, hw, hn, _⟩ := Qd e hi (by omega)
    have hfx : Transaction.fit x := hf x (by rw [e]; simp)
    rw [Ql4]
    rcases Transaction.sz_szs x left h1 h2 with h3 | ⟨_, h3, h4⟩
    · simp [hlt, hx, hw, szl, Ql3 h.c_f75 x hfx left h1 h2, h3]
    · have ih := Ql5 h l hl hf r (p ++ [x]) (i + 1) (Transaction.sz x left) (Qe e) hn h3 (by omega)
      have h5 : ¬ Transaction.sz x left < 0 := by omega
      simp [hlt, hx, hw, szl, Ql3 h.c_f75 x hfx left h1 h2, h5, ih]
theorem Qxu (h : G_f76 E) (l : List Transaction) (hl : l.length ≤ maxLen) (hf : ∀ x ∈ l, Transaction.fit x) (left : Int) (h0 : 0 ≤ left) (h1 : left ≤ 1048576) : E 131 [.sl 9 (l.map Transaction.u), .int .i64 left] = some (.int .i64 (szL Transaction.sz l left)) := by
  rw [f76_E h]
  unfold maxLen at hl
  have hw : IntKind.i64.wrap (left - (l.length : Int)) = left - l.length := Qi (by omega)
  by_cases h2 : left - (l.length : Int) < 0
  · simp [hw, szL, h2]
  · simp [hw, szL, h2, Ql5 h l (by omega) hf l [] 0 (left - l.length) rfl rfl (by omega) (by omega)]
theorem Ql9 (h : G_f83 E) (x : Lock) : E 146 [x.u] = some x.u := by
  rw [f83_E h]
  simp [Lock.u]
theorem Qmb (h : G_f84 E) (l : List Lock) (hl : l.length ≤ 1048576) : ∀ (r p : List Lock) (i : Int) (c : List U), l = p ++ r → i = p.length → c.length = r.length → (∀ z ∈ c, z.size = 2) →
    f84_l0 E (.sl 2 (l.map Lock.u)) (.int .i64 i) (p.map Lock.u ++ c) = some (.sl 2 (l.map Lock.u))
  | [], p, i, c, e, hi, hc, _ => by
    obtain rfl : c = [] := List.length_eq_zero_iff.1 hc
    rw [Qma]
    simp [Qf e hi]
    simp [e]
  | x :: r, p, i, [], e, hi, hc, _ => by cases hc
  | x :: r, p, i, z :: c, e, hi, hc, hz => by
    obtain ⟨h0, hlt, hx, hw, hn, _⟩ := Qd e hi (by omega)
    have hzs : z.size = 2 := hz z (by simp)
    obtain ⟨hg, hs, hlen⟩ := Qv Lock.u p z c hi
    have ih := Qmb h l hl r (p ++ [x]) (i + 1) c (Qe e) hn (by simpa using hc) (fun y hy => hz y (by simp [hy]))
    simp only [List.map_append, List.map_cons, List.map_nil, List.append_assoc, List.cons_append, List.nil_append] at ih
    rw [Qma]
    simp only [hg, hs, hx, hw, Qq, Qm, Qk, List.length_map, Option.bind_some, Ql, hlt, decide_true, if_true, h0, hlen, and_self, Qr, Ql9 h.c_f83 x, hzs, Lock.u_var, Lock.u_size, Lock.u_storable, Lock.u_partable]
    simpa using ih
theorem Qya (h : G_f84 E) (l : List Lock) (hl : l.length ≤ 1048576) : E 143 [.sl 2 (l.map Lock.u)] = some (.sl 2 (l.map Lock.u)) := by
  have h1 := Qmb h l hl l [] 0 (List.replicate l.length (.agg [.int .i64 0, .int .i64 0])) rfl rfl (by simp) (by simp)
  rw [f84_E h]
  simp only [Qk, Option.bind_some, List.length_map]
  rw [if_pos (by refine ⟨by omega, by omega, by omega, rfl⟩)]
  simpa using h1
theorem Qkv (h : G_f46 E) (x y : Lock) : E 178 [x.u, y.u] = some (.bool (decide (x = y))) := by
  rw [f46_E h]
  obtain ⟨a0, a1⟩ := x
  obtain ⟨b0, b1⟩ := y
  simp only [Lock.mk.injEq]
  by_cases h0 : a0 = b0
  case neg => simp [h0]
  subst h0
  by_cases h1 : a1 = b1
  case neg => simp [h1]
  subst h1
  simp []
theorem Qkx (h : G_f47 E) (a b : List Lock) (ha : a.length ≤ 1048576) (hb : b.length ≤ 1048576) : ∀ (r s p p2 : List Lock) (i : Int), a = p ++ r → b = p2 ++ s → i = p.length → i = p2.length → r.length = s.length →
    f47_l0 E (.sl 2 (a.map Lock.u)) (.sl 2 (b.map Lock.u)) (.int .i64 i) = some (.bool (decide (r = s)))
  | [], [], p, p2, i, e, e2, hi, hi2, _ => by
    rw [Qkw]
    simp [Qf e hi]
  | [], y :: s, _, _, _, _, _, _, _, hl => by cases hl
  | x :: r, [], _, _, _, _, _, _, _, hl => by cases hl
  | x :: r, y :: s, p, p2, i, e, e2, hi, hi2, hl => by
    obtain ⟨h0, hlt, hx, hw, hn, _⟩ := Qd e hi (by omega)
    obtain ⟨_, _, hy, _, hn2, _⟩ := Qd e2 hi2 (by omega)
    have ih := Qkx h a b ha hb r s (p ++ [x]) (p2 ++ [y]) (i + 1) (Qe e) (Qe e2) hn hn2 (by simpa using hl)
    rw [Qkw]
    by_cases hxy : x = y
    · subst hxy
      simp [hlt, hx, hy, hw, ih, Qkv h.c_f46]
    · simp [hlt, hx, hy, hw, ih, Qkv h.c_f46, hxy]
theorem Qwh (h : G_f47 E) (a b : List Lock) (ha : a.length ≤ 1048576) (hb : b.length ≤ 1048576) : E 175 [.sl 2 (a.map Lock.u), .sl 2 (b.map Lock.u)] = some (.bool (decide (a = b))) := by
  rw [f47_E h]
  by_cases hl : a.length = b.length
  · simp [hl, Qkx h a b ha hb a b [] [] 0 rfl rfl rfl rfl hl]
  · have h1 : a ≠ b := fun e => hl (by rw [e])
    have h2 : (a.length : Int) ≠ b.length := by omega
    simp [h1, h2]
theorem Qxn (h : G_f72 E) (l : List Lock) (hl : l.length ≤ maxLen) (left : Int) (h0 : 0 ≤ left) (h1 : left ≤ 1048576) : E 130 [.sl 2 (l.map Lock.u), .int .i64 left] = some (.int .i64 (szc l.length left)) := by
  rw [f72_E h]
  unfold maxLen at hl
  have hw : IntKind.i64.wrap (left - (l.length : Int)) = left - l.length := Qi (by omega)
  by_cases h2 : left - (l.length : Int) < 0 <;> simp [hw, szc, h2]
theorem Qiw (h : G_f100 E) (x : Wait) : E 147 [x.u] = some x.u := by
  rw [Qrv h]
  simp [Wait.u]
theorem Qiy (h : G_f101 E) (l : List Wait) (hl : l.length ≤ 1048576) : ∀ (r p : List Wait) (i : Int) (c : List U), l = p ++ r → i = p.length → c.length = r.length → (∀ z ∈ c, z.size = 2) →
    f101_l0 E (.sl 2 (l.map Wait.u)) (.int .i64 i) (p.map Wait.u ++ c) = some (.sl 2 (l.map Wait.u))
  | [], p, i, c, e, hi, hc, _ => by
    obtain rfl : c = [] := List.length_eq_zero_iff.1 hc
    rw [Qix]
    simp [Qf e hi]
    simp [e]
  | x :: r, p, i, [], e, hi, hc, _ => by cases hc
  | x :: r, p, i, z :: c, e, hi, hc, hz => by
    obtain ⟨h0, hlt, hx, hw, hn, _⟩ := Qd e hi (by omega)
    have hzs : z.size = 2 := hz z (by simp)
    obtain ⟨hg, hs, hlen⟩ := Qv Wait.u p z c hi
    have ih := Qiy h l hl r (p ++ [x]) (i + 1) c (Qe e) hn (by simpa using hc) (fun y hy => hz y (by simp [hy]))
    simp only [List.map_append, List.map_cons, List.map_nil, List.append_assoc, List.cons_append, List.nil_append] at ih
    rw [Qix]
    simp only [hg, hs, hx, hw, Qq, Qm, Qk, List.length_map, Option.bind_some, Ql, hlt, decide_true, if_true, h0, hlen, and_self, Qr, Qiw h.c_f100 x, hzs, Wait.u_var, Wait.u_size, Wait.u_storable, Wait.u_partable]
    simpa using ih
theorem Qry (h : G_f101 E) (l : List Wait) (hl : l.length ≤ 1048576) : E 142 [.sl 2 (l.map Wait.u)] = some (.sl 2 (l.map Wait.u)) := by
  have h1 := Qiy h l hl l [] 0 (List.replicate l.length (.agg [.int .i64 0, .int .i64 0])) rfl rfl (by simp) (by simp)
  rw [Qrx h]
  simp only [Qk, Option.bind_some, List.length_map]
  rw [if_pos (by refine ⟨by omega, by omega, by omega, rfl⟩)]
  simpa using h1
theorem Qlc (h : G_f57 E) (x y : Wait) : E 179 [x.u, y.u] = some (.bool (decide (x = y))) := by
  rw [f57_E h]
  obtain ⟨a0, a1⟩ := x
  obtain ⟨b0, b1⟩ := y
  simp only [Wait.mk.injEq]
  by_cases h0 : a0 = b0
  case neg => simp [h0]
  subst h0
  by_cases h1 : a1 = b1
  case neg => simp [h1]
  subst h1
  simp []
theorem Qle (h : G_f58 E) (a b : List Wait) (ha : a.length ≤ 1048576) (hb : b.length ≤ 1048576) : ∀ (r s p p2 : List Wait) (i : Int), a = p ++ r → b = p2 ++ s → i = p.length → i = p2.length → r.length = s.length →
    f58_l0 E (.sl 2 (a.map Wait.u)) (.sl 2 (b.map Wait.u)) (.int .i64 i) = some (.bool (decide (r = s)))
  | [], [], p, p2, i, e, e2, hi, hi2, _ => by
    rw [Qld]
    simp [Qf e hi]
  | [], y :: s, _, _, _, _, _, _, _, hl => by cases hl
  | x :: r, [], _, _, _, _, _, _, _, hl => by cases hl
  | x :: r, y :: s, p, p2, i, e, e2, hi, hi2, hl => by
    obtain ⟨h0, hlt, hx, hw, hn, _⟩ := Qd e hi (by omega)
    obtain ⟨_, _, hy, _, hn2, _⟩ := Qd e2 hi2 (by omega)
    have ih := Qle h a b ha hb r s (p ++ [x]) (p2 ++ [y]) (i + 1) (Qe e) (Qe e2) hn hn2 (by simpa using hl)
    rw [Qld]
    by_cases hxy : x = y
    · subst hxy
      simp [hlt, hx, hy, hw, ih, Qlc h.c_f57]
    · simp [hlt, hx, hy, hw, ih, Qlc h.c_f57, hxy]
theorem Qwy (h : G_f58 E) (a b : List Wait) (ha : a.length ≤ 1048576) (hb : b.length ≤ 1048576) : E 174 [.sl 2 (a.map Wait.u), .sl 2 (b.map Wait.u)] = some (.bool (decide (a = b))) := by
  rw [f58_E h]
  by_cases hl : a.length = b.length
  · simp [hl, Qle h a b ha hb a b [] [] 0 rfl rfl rfl rfl hl]
  · have h1 : a ≠ b := fun e => hl (by rw [e])
    have h2 : (a.length : Int) ≠ b.length := by omega
    simp [h1, h2]
theorem Qx0 (h : G_f79 E) (l : List Wait) (hl : l.length ≤ maxLen) (left : Int) (h0 : 0 ≤ left) (h1 : left ≤ 1048576) : E 129 [.sl 2 (l.map Wait.u), .int .i64 left] = some (.int .i64 (szc l.length left)) := by
  rw [f79_E h]
  unfold maxLen at hl
  have hw : IntKind.i64.wrap (left - (l.length : Int)) = left - l.length := Qi (by omega)
  by_cases h2 : left - (l.length : Int) < 0 <;> simp [hw, szc, h2]
theorem Qx5 (h : G_f81 E) (e : Engine) (ho : e.ok) : E 124 [e.u] = some e.u := by
  obtain ⟨o1, o2, o3, o4, o5⟩ := ho
  rw [f81_E h]
  have a1 := Qyj h.c_f89 e.store o1
  have a2 := Qyq h.c_f92 e.transactions o2 o3
  have a3 := Qya h.c_f84 e.locks o4
  have a4 := Qry h.c_f101 e.waits o5
  simp [a1, a2, a3, a4]
  rfl
theorem Qwe (h : G_f45 E) (x y : Engine) (hx : x.ok) (hy : y.ok) : E 125 [x.u, y.u] = some (.bool (decide (x = y))) := by
  obtain ⟨o1, o2, o3, o4, o5⟩ := hx
  obtain ⟨p1, p2, p3, p4, p5⟩ := hy
  rw [f45_E h]
  have a1 := Qwn h.c_f51 x.store y.store o1 p1
  have a2 := Qwq h.c_f53 x.transactions y.transactions o2 p2 o3 p3
  have a3 := Qwh h.c_f47 x.locks y.locks o4 p4
  have a4 := Qwy h.c_f58 x.waits y.waits o5 p5
  simp only [Engine.eq_iff]
  by_cases h0 : x.certify = y.certify
  case neg => simp [h0]
  by_cases h1 : x.store = y.store
  case neg => simp [h0, a1, h1]
  rw [h1] at a1
  by_cases h2 : x.transactions = y.transactions
  case neg => simp [h0, a1, h1, a2, h2]
  rw [h2] at a2
  by_cases h3 : x.locks = y.locks
  case neg => simp [h0, a1, h1, a2, h2, a3, h3]
  rw [h3] at a3
  by_cases h4 : x.waits = y.waits
  case neg => simp [h0, a1, h1, a2, h2, a3, h3, a4, h4]
  rw [h4] at a4
  by_cases h5 : x.stamp = y.stamp <;> simp [h0, a1, h1, a2, h2, a3, h3, a4, h4, h5]
theorem Qxl (h : G_f71 E) (e : Engine) (hf : e.fit) (left : Int) (h0 : 0 ≤ left) (h1 : left ≤ 1048576) : E 128 [e.u, .int .i64 left] = some (.int .i64 (e.sz left)) := by
  obtain ⟨f1, f2, f3, f4, f5⟩ := hf
  rw [f71_E h]
  have a1 := Qxr h.c_f74 e.store f1 left h0 h1
  rcases Store.sz_szs e.store left h0 h1 with n1 | ⟨_, n1, n2⟩
  · simp [a1, n1, Engine.sz]
  have n3 : ¬ e.store.sz left < 0 := by omega
  have a2 := Qxu h.c_f76 e.transactions f2 f3 _ n1 (by omega)
  rcases Qg7 Transaction.sz_szs e.transactions _ n1 (by omega) with m1 | ⟨_, m1, m2⟩
  · simp [a1, n3, a2, m1, Engine.sz]
  have m3 : ¬ szL Transaction.sz e.transactions (e.store.sz left) < 0 := by omega
  have a3 := Qxn h.c_f72 e.locks f4 _ m1 (by omega)
  rcases Qcd e.locks.length _ m1 (by omega) with k1 | ⟨_, k1, k2⟩
  · simp [a1, n3, a2, m3, a3, k1, Engine.sz]
  have k3 : ¬ szc e.locks.length (szL Transaction.sz e.transactions (e.store.sz left)) < 0 := by omega
  have a4 := Qx0 h.c_f79 e.waits f5 _ k1 (by omega)
  by_cases j1 : szc e.waits.length (szc e.locks.length (szL Transaction.sz e.transactions (e.store.sz left))) < 0
  · have j2 := Qg8 j1
    simp [a1, n3, a2, m3, a3, k3, a4, j2, Engine.sz]
  · simp [a1, n3, a2, m3, a3, k3, a4, j1, Engine.sz]
def upVersion : Int → Nat → List Version
  | _, 0 => []
  | k, n + 1 => ⟨k, k + 1, k + 2, k + 3, k + 4⟩ :: upVersion (k + 5) n
theorem Qm3 (l : List Version) : U.flat.flats (l.map Version.u) = true := Qa0 _ (fun _ => rfl) l
theorem Qlw (h : G_f68 E) : ∀ (r p : List Version) (k i : Int), i = p.length → p.length + r.length ≤ 1048576 → 0 ≤ k → k + 5 * r.length ≤ 1099511627776 →
    f68_l0 E (.int .i64 k) (.int .i64 i) (p.map Version.u ++ r.map Version.u) = some (.tup [.int .i64 (k + 5 * r.length), .sl 5 (p.map Version.u ++ (upVersion k r.length).map Version.u)])
  | [], p, k, i, hi, hb, hk, hk2 => by
    have h1 : ¬ i < ((p.map Version.u ++ ([] : List Version).map Version.u).length : Int) := by simp [hi]
    rw [Qlv]
    simp only [Qm, h1, decide_false, Option.bind_some, Ql, Bool.false_eq_true, if_false]
    rw [← List.map_append]
    simp [upVersion, Qm3]
  | x :: r, p, k, i, hi, hb, hk, hk2 => by
    simp only [List.length_cons] at hb hk2
    have hm := fun z => Qv Version.u p z (r.map Version.u) hi
    have hg := fun z => (hm z).1
    have hs := fun z => (hm z).2.1
    have hlen := fun z => (hm z).2.2
    have h0 : 0 ≤ i := by omega
    have hw0 : IntKind.i64.wrap (k + 1) = k + 1 := by rw [Qi (by omega)]
    have hw1 : IntKind.i64.wrap (k + 1 + 1) = k + 2 := by rw [Qi (by omega)]; omega
    have hw2 : IntKind.i64.wrap (k + 2 + 1) = k + 3 := by rw [Qi (by omega)]; omega
    have hw3 : IntKind.i64.wrap (k + 3 + 1) = k + 4 := by rw [Qi (by omega)]; omega
    have hw4 : IntKind.i64.wrap (k + 4 + 1) = k + 5 := by rw [Qi (by omega)]; omega
    have hwi : IntKind.i64.wrap (i + 1) = i + 1 := Qi (by omega)
    have ih := Qlw h r (p ++ [⟨k, k + 1, k + 2, k + 3, k + 4⟩]) (k + 5) (i + 1) (by simp [hi]) (by simp; omega) (by omega) (by omega)
    simp only [List.map_append, List.map_cons, List.map_nil, List.append_assoc, List.cons_append, List.nil_append] at ih
    rw [Qlv]
    simp only [List.map_cons, Qm, hlen, decide_true, Option.bind_some, Ql, if_true, Qq, h0, and_self, Qcw, Qcc, Qb2, hg, hs, Version.u_agg, Qch, List.take_zero, List.take_succ_cons, Qay, Qbc, Nat.add_zero, Nat.zero_add, List.getElem?_cons_zero, List.getElem?_cons_succ, List.set_cons_zero, List.set_cons_succ, Qr, hw0, hw1, hw2, hw3, hw4, hwi, Nat.reduceAdd]
    have e : k + 5 + 5 * (r.length : Int) = k + 5 * ((r.length + 1 : Nat) : Int) := by omega
    rw [e] at ih
    simpa [upVersion, Version.u] using ih
theorem Qxf (h : G_f68 E) (l : List Version) (hl : l.length ≤ 1048576) (k : Int) (hk : 0 ≤ k) (hk2 : k ≤ 1073741824) :
    E 200122 (.agg [.tup [.sl 5 (l.map Version.u)]] :: [.int .i64 k]) = some (.tup [.int .i64 (k + 5 * l.length), .sl 5 ((upVersion k l.length).map Version.u)]) := by
  rw [f68_E h]
  exact Qlw h l [] k 0 rfl (by simpa using hl) hk (by omega)
end Go.Proofs.YtmdnjglkdddaeaaGreat.Am
