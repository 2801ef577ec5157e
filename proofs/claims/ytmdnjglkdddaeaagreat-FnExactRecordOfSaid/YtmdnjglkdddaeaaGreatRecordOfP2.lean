import Derived.Test.YtmdnjglkdddaeaaGreatRecordOfP1
import Derived.Test.YtmdnjglkdddaeaaGreatRecordOfF1
import Derived.Test.YtmdnjglkdddaeaaGreatRecordOfP0
import Derived.Test.YtmdnjglkdddaeaaGreatRecordOfF2
import Derived.Test.YtmdnjglkdddaeaaGreatAmY
namespace Go.Proofs.YtmdnjglkdddaeaaGreat.Am
open Go
variable {E : Env}
set_option linter.unusedVariables false
theorem Qmw (h : G_f99 E) (l : List Version) (hl : l.length ≤ 1048576) : ∀ (r p : List Version) (i : Int) (c : List U), l = p ++ r → i = p.length → c.length = r.length → (∀ z ∈ c, z.size = 5) →
    f99_l0 E (.sl 5 (l.map Version.u)) (.int .i64 i) (p.map Version.u ++ c) = some (.sl 5 (l.map Version.u))
  | [], p, i, c, e, hi, hc, _ => by
    obtain rfl : c = [] := List.length_eq_zero_iff.1 hc
    rw [Qmv]
    simp [Qf e hi]
    simp [e, Qm3, ← List.map_append, ← List.map_cons]
  | x :: r, p, i, [], e, hi, hc, _ => by cases hc
  | x :: r, p, i, z :: c, e, hi, hc, hz => by
    obtain ⟨h0, hlt, hx, hw, hn, _⟩ := Qd e hi (by omega)
    have hzs : z.size = 5 := hz z (by simp)
    obtain ⟨hg, hs, hlen⟩ := Qv Version.u p z c hi
    have ih := Qmw h l hl r (p ++ [x]) (i + 1) c (Qe e) hn (by simpa using hc) (fun y hy => hz y (by simp [hy]))
    simp only [List.map_append, List.map_cons, List.map_nil, List.append_assoc, List.cons_append, List.nil_append] at ih
    rw [Qmv]
    simp only [hg, hs, hx, hw, Qq, Qm, Qk, List.length_map, Option.bind_some, Ql, hlt, decide_true, if_true, h0, hlen, and_self, Qr, Qmn h.c_f95 x, hzs, Version.u_var, Version.u_size, Version.u_storable, Version.u_partable]
    simpa using ih
theorem Qmu (h : G_f99 E) (l : List Version) (hl : l.length ≤ 1048576) : E 100108 [.sl 5 (l.map Version.u)] = some (.sl 5 (l.map Version.u)) := by
  have h1 := Qmw h l hl l [] 0 (List.replicate l.length (.agg [.int .i64 0, .int .i64 0, .int .i64 0, .int .i64 0, .int .i64 0])) rfl rfl (by simp) (by simp)
  rw [f99_E h]
  simp only [Qk, Option.bind_some, List.length_map]
  rw [if_pos (by refine ⟨by omega, by omega, by omega, rfl⟩)]
  simpa using h1
theorem Qmt (h : G_f98 E) (l : List (List Version)) (hl : l.length ≤ 1048576) (hok : ∀ x ∈ l, chainOk x) : ∀ (r p : List (List Version)) (i : Int) (c : List U), l = p ++ r → i = p.length → c.length = r.length → (∀ z ∈ c, z.size = 1) →
    f98_l0 E (.sl 1 (l.map chainU)) (.int .i64 i) (p.map chainU ++ c) = some (.sl 1 (l.map chainU))
  | [], p, i, c, e, hi, hc, _ => by
    obtain rfl : c = [] := List.length_eq_zero_iff.1 hc
    rw [Qms]
    simp [Qf e hi]
    simp [e]
  | x :: r, p, i, [], e, hi, hc, _ => by cases hc
  | x :: r, p, i, z :: c, e, hi, hc, hz => by
    obtain ⟨h0, hlt, hx, hw, hn, _⟩ := Qd e hi (by omega)
    have hox : chainOk x := hok x (by rw [e]; simp)
    have hzs : z.size = 1 := hz z (by simp)
    obtain ⟨hg, hs, hlen⟩ := Qv chainU p z c hi
    have ih := Qmt h l hl hok r (p ++ [x]) (i + 1) c (Qe e) hn (by simpa using hc) (fun y hy => hz y (by simp [hy]))
    simp only [List.map_append, List.map_cons, List.map_nil, List.append_assoc, List.cons_append, List.nil_append] at ih
    have hF : E 100108 [U.sl 5 (x.map Version.u)] = some (U.sl 5 (x.map Version.u)) := Qmu h.c_f99 x hox
    rw [Qms]
    simp only [hg, hs, hx, hw, Qq, Qm, Qk, List.length_map, Option.bind_some, Ql, hlt, decide_true, if_true, h0, hlen, and_self, Qr, Qmu h.c_f99 x hox, chainU, U.noTup, U.asSlK, hzs, Qc2, Qib, Qqe, Qov]
    simpa [hF, chainU] using ih
theorem Qy2 (h : G_f98 E) (l : List (List Version)) (hl : l.length ≤ 1048576) (hok : ∀ x ∈ l, chainOk x) : E 100107 [.sl 1 (l.map chainU)] = some (.sl 1 (l.map chainU)) := by
  have h1 := Qmt h l hl hok l [] 0 (List.replicate l.length (.nsl 5)) rfl rfl (by simp) (by simp)
  rw [f98_E h]
  simp only [Qk, Option.bind_some, List.length_map]
  rw [if_pos (by refine ⟨by omega, by omega, by omega, rfl⟩)]
  have hfl : ∀ n : Nat, U.flat.flats (List.replicate n (U.nsl 5)) = true := by
    intro n
    induction n with
    | zero => rfl
    | succ n ih => simp [List.replicate_succ, U.flat.flats, U.flat, ih]
  simpa [hfl] using h1
theorem Qym (h : G_f90 E) (s : Store) (ho : s.ok) : E 100093 [s.u] = some s.u := by
  rw [f90_E h]
  have h1 := Qy2 h.c_f98 s.chains ho.1 ho.2
  have h2 : ∀ (us : List U) (K : U → Option U), U.noTup (.sl 1 us) K = K (.sl 1 us) := fun _ _ => rfl
  simp [h1, U.asSlK, h2]
  rfl
def upReadMark : Int → Nat → List ReadMark
  | _, 0 => []
  | k, n + 1 => ⟨k, k + 1⟩ :: upReadMark (k + 2) n
theorem Qqn : ∀ (n : Nat) (k : Int), (upReadMark k n).length = n
  | 0, _ => rfl
  | n + 1, k => by simp [upReadMark, Qqn n]
theorem Qm2 (l : List ReadMark) : U.flat.flats (l.map ReadMark.u) = true := Qa0 _ (fun _ => rfl) l
theorem Qlq (h : G_f65 E) : ∀ (r p : List ReadMark) (k i : Int), i = p.length → p.length + r.length ≤ 1048576 → 0 ≤ k → k + 2 * r.length ≤ 1099511627776 →
    f65_l0 E (.int .i64 k) (.int .i64 i) (p.map ReadMark.u ++ r.map ReadMark.u) = some (.tup [.int .i64 (k + 2 * r.length), .sl 2 (p.map ReadMark.u ++ (upReadMark k r.length).map ReadMark.u)])
  | [], p, k, i, hi, hb, hk, hk2 => by
    have h1 : ¬ i < ((p.map ReadMark.u ++ ([] : List ReadMark).map ReadMark.u).length : Int) := by simp [hi]
    rw [Qlp]
    simp only [Qm, h1, decide_false, Option.bind_some, Ql, Bool.false_eq_true, if_false]
    rw [← List.map_append]
    simp [upReadMark, Qm2]
  | x :: r, p, k, i, hi, hb, hk, hk2 => by
    simp only [List.length_cons] at hb hk2
    have hm := fun z => Qv ReadMark.u p z (r.map ReadMark.u) hi
    have hg := fun z => (hm z).1
    have hs := fun z => (hm z).2.1
    have hlen := fun z => (hm z).2.2
    have h0 : 0 ≤ i := by omega
    have hw0 : IntKind.i64.wrap (k + 1) = k + 1 := by rw [Qi (by omega)]
    have hw1 : IntKind.i64.wrap (k + 1 + 1) = k + 2 := by rw [Qi (by omega)]; omega
    have hwi : IntKind.i64.wrap (i + 1) = i + 1 := Qi (by omega)
    have ih := Qlq h r (p ++ [⟨k, k + 1⟩]) (k + 2) (i + 1) (by simp [hi]) (by simp; omega) (by omega) (by omega)
    simp only [List.map_append, List.map_cons, List.map_nil, List.append_assoc, List.cons_append, List.nil_append] at ih
    rw [Qlp]
    simp only [List.map_cons, Qm, hlen, decide_true, Option.bind_some, Ql, if_true, Qq, h0, and_self, Qcw, Qcc, Qb2, hg, hs, ReadMark.u_agg, Qch, List.take_zero, List.take_succ_cons, Qay, Qbc, Nat.add_zero, Nat.zero_add, List.getElem?_cons_zero, List.getElem?_cons_succ, List.set_cons_zero, List.set_cons_succ, Qr, hw0, hw1, hwi, Nat.reduceAdd]
    have e : k + 2 + 2 * (r.length : Int) = k + 2 * ((r.length + 1 : Nat) : Int) := by omega
    rw [e] at ih
    simpa [upReadMark, ReadMark.u] using ih
theorem Qlo (h : G_f65 E) (l : List ReadMark) (hl : l.length ≤ 1048576) (k : Int) (hk : 0 ≤ k) (hk2 : k ≤ 1073741824) :
    E 200095 (.agg [.tup [.sl 2 (l.map ReadMark.u)]] :: [.int .i64 k]) = some (.tup [.int .i64 (k + 2 * l.length), .sl 2 ((upReadMark k l.length).map ReadMark.u)]) := by
  rw [f65_E h]
  exact Qlq h l [] k 0 rfl (by simpa using hl) hk (by omega)
theorem Qlj (h : G_f62 E) (l : List ReadMark) (hl : l.length ≤ 1048576) : ∀ (n : Nat) (p : List ReadMark) (k i : Int), l = p ++ upReadMark k n → i = p.length → 0 ≤ k → k + 2 * n ≤ 1099511627776 →
    f62_l0 E (.sl 2 (l.map ReadMark.u)) (.int .i64 k) (.int .i64 i) = some (.int .i64 (k + 2 * n))
  | 0, p, k, i, e, hi, hk, hk2 => by
    rw [Qli]
    simp [Qf e hi]
  | n + 1, p, k, i, e0, hi, hk, hk2 => by
    have e : l = p ++ (⟨k, k + 1⟩ : ReadMark) :: upReadMark (k + 2) n := e0
    obtain ⟨h0, hlt, hx, hw, hn, _⟩ := Qd e hi (by omega)
    have hw0 : IntKind.i64.wrap (k + 1) = k + 1 := by rw [Qi (by omega)]
    have hw1 : IntKind.i64.wrap (k + 1 + 1) = k + 2 := by rw [Qi (by omega)]; omega
    have ih := Qlj h l hl n (p ++ [⟨k, k + 1⟩]) (k + 2) (i + 1) (Qe e) hn (by omega) (by omega)
    have e2 : k + 2 + 2 * (n : Int) = k + 2 * ((n + 1 : Nat) : Int) := by omega
    rw [e2] at ih
    rw [Qli]
    simp only [Qk, List.length_map, Option.bind_some, Qm, hlt, decide_true, Ql, if_true, Qq, hx, ReadMark.u_at0, ReadMark.u_at1, Qc3, Qh7, ne_eq, not_true_eq_false, decide_false, Bool.false_eq_true, if_false, Qr, hw, hw0, hw1]
    exact ih
theorem Qw4 (h : G_f62 E) (n : Nat) (hn : n ≤ 1048576) (k : Int) (hk : 0 ≤ k) (hk2 : k ≤ 1048576) : E 92 [.sl 2 ((upReadMark k n).map ReadMark.u), .int .i64 k] = some (.int .i64 (k + 2 * n)) := by
  rw [f62_E h]
  exact Qlj h _ (by rw [Qqn]; exact hn) n [] k 0 rfl rfl hk (by omega)
def upWrite : Int → Nat → List Write
  | _, 0 => []
  | k, n + 1 => ⟨k, k + 1⟩ :: upWrite (k + 2) n
theorem Qqo : ∀ (n : Nat) (k : Int), (upWrite k n).length = n
  | 0, _ => rfl
  | n + 1, k => by simp [upWrite, Qqo n]
theorem Qm5 (l : List Write) : U.flat.flats (l.map Write.u) = true := Qa0 _ (fun _ => rfl) l
theorem Ql2 (h : G_f70 E) : ∀ (r p : List Write) (k i : Int), i = p.length → p.length + r.length ≤ 1048576 → 0 ≤ k → k + 2 * r.length ≤ 1099511627776 →
    f70_l0 E (.int .i64 k) (.int .i64 i) (p.map Write.u ++ r.map Write.u) = some (.tup [.int .i64 (k + 2 * r.length), .sl 2 (p.map Write.u ++ (upWrite k r.length).map Write.u)])
  | [], p, k, i, hi, hb, hk, hk2 => by
    have h1 : ¬ i < ((p.map Write.u ++ ([] : List Write).map Write.u).length : Int) := by simp [hi]
    rw [Ql1]
    simp only [Qm, h1, decide_false, Option.bind_some, Ql, Bool.false_eq_true, if_false]
    rw [← List.map_append]
    simp [upWrite, Qm5]
  | x :: r, p, k, i, hi, hb, hk, hk2 => by
    simp only [List.length_cons] at hb hk2
    have hm := fun z => Qv Write.u p z (r.map Write.u) hi
    have hg := fun z => (hm z).1
    have hs := fun z => (hm z).2.1
    have hlen := fun z => (hm z).2.2
    have h0 : 0 ≤ i := by omega
    have hw0 : IntKind.i64.wrap (k + 1) = k + 1 := by rw [Qi (by omega)]
    have hw1 : IntKind.i64.wrap (k + 1 + 1) = k + 2 := by rw [Qi (by omega)]; omega
    have hwi : IntKind.i64.wrap (i + 1) = i + 1 := Qi (by omega)
    have ih := Ql2 h r (p ++ [⟨k, k + 1⟩]) (k + 2) (i + 1) (by simp [hi]) (by simp; omega) (by omega) (by omega)
    simp only [List.map_append, List.map_cons, List.map_nil, List.append_assoc, List.cons_append, List.nil_append] at ih
    rw [Ql1]
    simp only [List.map_cons, Qm, hlen, decide_true, Option.bind_some, Ql, if_true, Qq, h0, and_self, Qcw, Qcc, Qb2, hg, hs, Write.u_agg, Qch, List.take_zero, List.take_succ_cons, Qay, Qbc, Nat.add_zero, Nat.zero_add, List.getElem?_cons_zero, List.getElem?_cons_succ, List.set_cons_zero, List.set_cons_succ, Qr, hw0, hw1, hwi, Nat.reduceAdd]
    have e : k + 2 + 2 * (r.length : Int) = k + 2 * ((r.length + 1 : Nat) : Int) := by omega
    rw [e] at ih
    simpa [upWrite, Write.u] using ih
theorem Ql0 (h : G_f70 E) (l : List Write) (hl : l.length ≤ 1048576) (k : Int) (hk : 0 ≤ k) (hk2 : k ≤ 1073741824) :
    E 200232 (.agg [.tup [.sl 2 (l.map Write.u)]] :: [.int .i64 k]) = some (.tup [.int .i64 (k + 2 * l.length), .sl 2 ((upWrite k l.length).map Write.u)]) := by
  rw [f70_E h]
  exact Ql2 h l [] k 0 rfl (by simpa using hl) hk (by omega)
theorem Qmi (h : G_f88 E) (l : List ReadMark) (hl : l.length ≤ 1048576) : ∀ (r p : List ReadMark) (i : Int) (c : List U), l = p ++ r → i = p.length → c.length = r.length → (∀ z ∈ c, z.size = 2) →
    f88_l0 E (.sl 2 (l.map ReadMark.u)) (.int .i64 i) (p.map ReadMark.u ++ c) = some (.sl 2 (l.map ReadMark.u))
  | [], p, i, c, e, hi, hc, _ => by
    obtain rfl : c = [] := List.length_eq_zero_iff.1 hc
    rw [Qmh]
    simp [Qf e hi]
    simp [e, Qm2, ← List.map_append, ← List.map_cons]
  | x :: r, p, i, [], e, hi, hc, _ => by cases hc
  | x :: r, p, i, z :: c, e, hi, hc, hz => by
    obtain ⟨h0, hlt, hx, hw, hn, _⟩ := Qd e hi (by omega)
    have hzs : z.size = 2 := hz z (by simp)
    obtain ⟨hg, hs, hlen⟩ := Qv ReadMark.u p z c hi
    have ih := Qmi h l hl r (p ++ [x]) (i + 1) c (Qe e) hn (by simpa using hc) (fun y hy => hz y (by simp [hy]))
    simp only [List.map_append, List.map_cons, List.map_nil, List.append_assoc, List.cons_append, List.nil_append] at ih
    rw [Qmh]
    simp only [hg, hs, hx, hw, Qq, Qm, Qk, List.length_map, Option.bind_some, Ql, hlt, decide_true, if_true, h0, hlen, and_self, Qr, Qme h.c_f86 x, hzs, ReadMark.u_var, ReadMark.u_size, ReadMark.u_storable, ReadMark.u_partable]
    simpa using ih
theorem Qyh (h : G_f88 E) (l : List ReadMark) (hl : l.length ≤ 1048576) : E 100028 [.sl 2 (l.map ReadMark.u)] = some (.sl 2 (l.map ReadMark.u)) := by
  have h1 := Qmi h l hl l [] 0 (List.replicate l.length (.agg [.int .i64 0, .int .i64 0])) rfl rfl (by simp) (by simp)
  rw [f88_E h]
  simp only [Qk, Option.bind_some, List.length_map]
  rw [if_pos (by refine ⟨by omega, by omega, by omega, rfl⟩)]
  simpa using h1
theorem Qi5 (h : G_f105 E) (l : List Write) (hl : l.length ≤ 1048576) : ∀ (r p : List Write) (i : Int) (c : List U), l = p ++ r → i = p.length → c.length = r.length → (∀ z ∈ c, z.size = 2) →
    f105_l0 E (.sl 2 (l.map Write.u)) (.int .i64 i) (p.map Write.u ++ c) = some (.sl 2 (l.map Write.u))
  | [], p, i, c, e, hi, hc, _ => by
    obtain rfl : c = [] := List.length_eq_zero_iff.1 hc
    rw [Qi4]
    simp [Qf e hi]
    simp [e, Qm5, ← List.map_append, ← List.map_cons]
  | x :: r, p, i, [], e, hi, hc, _ => by cases hc
  | x :: r, p, i, z :: c, e, hi, hc, hz => by
    obtain ⟨h0, hlt, hx, hw, hn, _⟩ := Qd e hi (by omega)
    have hzs : z.size = 2 := hz z (by simp)
    obtain ⟨hg, hs, hlen⟩ := Qv Write.u p z c hi
    have ih := Qi5 h l hl r (p ++ [x]) (i + 1) c (Qe e) hn (by simpa using hc) (fun y hy => hz y (by simp [hy]))
    simp only [List.map_append, List.map_cons, List.map_nil, List.append_assoc, List.cons_append, List.nil_append] at ih
    rw [Qi4]
    simp only [hg, hs, hx, hw, Qq, Qm, Qk, List.length_map, Option.bind_some, Ql, hlt, decide_true, if_true, h0, hlen, and_self, Qr, Qi1 h.c_f103 x, hzs, Write.u_var, Write.u_size, Write.u_storable, Write.u_partable]
    simpa using ih
theorem Qr9 (h : G_f105 E) (l : List Write) (hl : l.length ≤ 1048576) : E 100027 [.sl 2 (l.map Write.u)] = some (.sl 2 (l.map Write.u)) := by
  have h1 := Qi5 h l hl l [] 0 (List.replicate l.length (.agg [.int .i64 0, .int .i64 0])) rfl rfl (by simp) (by simp)
  rw [Qr8 h]
  simp only [Qk, Option.bind_some, List.length_map]
  rw [if_pos (by refine ⟨by omega, by omega, by omega, rfl⟩)]
  simpa using h1
theorem Qyu (h : G_f94 E) (x : Transaction) (ho : x.ok) : E 100145 [x.u] = some x.u := by
  rw [f94_E h]
  have h1 := Qyh h.c_f88 x.reads ho.1
  have h2 := Qr9 h.c_f105 x.writes ho.2
  have h3 : ∀ (k : Nat) (us : List U) (K : U → Option U), U.noTup (.sl k us) K = K (.sl k us) := fun _ _ _ => rfl
  have h4 : ∀ (n : Int) (K : U → Option U), U.noTup (.int .i64 n) K = K (.int .i64 n) := fun _ _ => rfl
  simp [h1, h2, U.asSlK, h3, h4, D.size, dsizes, D.size.dsizes]
  rfl
def upLock : Int → Nat → List Lock
  | _, 0 => []
  | k, n + 1 => ⟨k, k + 1⟩ :: upLock (k + 2) n
theorem Qm1 (l : List Lock) : U.flat.flats (l.map Lock.u) = true := Qa0 _ (fun _ => rfl) l
theorem Qln (h : G_f64 E) : ∀ (r p : List Lock) (k i : Int), i = p.length → p.length + r.length ≤ 1048576 → 0 ≤ k → k + 2 * r.length ≤ 1099511627776 →
    f64_l0 E (.int .i64 k) (.int .i64 i) (p.map Lock.u ++ r.map Lock.u) = some (.tup [.int .i64 (k + 2 * r.length), .sl 2 (p.map Lock.u ++ (upLock k r.length).map Lock.u)])
  | [], p, k, i, hi, hb, hk, hk2 => by
    have h1 : ¬ i < ((p.map Lock.u ++ ([] : List Lock).map Lock.u).length : Int) := by simp [hi]
    rw [Qlm]
    simp only [Qm, h1, decide_false, Option.bind_some, Ql, Bool.false_eq_true, if_false]
    rw [← List.map_append]
    simp [upLock, Qm1]
  | x :: r, p, k, i, hi, hb, hk, hk2 => by
    simp only [List.length_cons] at hb hk2
    have hm := fun z => Qv Lock.u p z (r.map Lock.u) hi
    have hg := fun z => (hm z).1
    have hs := fun z => (hm z).2.1
    have hlen := fun z => (hm z).2.2
    have h0 : 0 ≤ i := by omega
    have hw0 : IntKind.i64.wrap (k + 1) = k + 1 := by rw [Qi (by omega)]
    have hw1 : IntKind.i64.wrap (k + 1 + 1) = k + 2 := by rw [Qi (by omega)]; omega
    have hwi : IntKind.i64.wrap (i + 1) = i + 1 := Qi (by omega)
    have ih := Qln h r (p ++ [⟨k, k + 1⟩]) (k + 2) (i + 1) (by simp [hi]) (by simp; omega) (by omega) (by omega)
    simp only [List.map_append, List.map_cons, List.map_nil, List.append_assoc, List.cons_append, List.nil_append] at ih
    rw [Qlm]
    simp only [List.map_cons, Qm, hlen, decide_true, Option.bind_some, Ql, if_true, Qq, h0, and_self, Qcw, Qcc, Qb2, hg, hs, Lock.u_agg, Qch, List.take_zero, List.take_succ_cons, Qay, Qbc, Nat.add_zero, Nat.zero_add, List.getElem?_cons_zero, List.getElem?_cons_succ, List.set_cons_zero, List.set_cons_succ, Qr, hw0, hw1, hwi, Nat.reduceAdd]
    have e : k + 2 + 2 * (r.length : Int) = k + 2 * ((r.length + 1 : Nat) : Int) := by omega
    rw [e] at ih
    simpa [upLock, Lock.u] using ih
theorem Qw8 (h : G_f64 E) (l : List Lock) (hl : l.length ≤ 1048576) (k : Int) (hk : 0 ≤ k) (hk2 : k ≤ 1073741824) :
    E 200317 (.agg [.tup [.sl 2 (l.map Lock.u)]] :: [.int .i64 k]) = some (.tup [.int .i64 (k + 2 * l.length), .sl 2 ((upLock k l.length).map Lock.u)]) := by
  rw [f64_E h]
  exact Qln h l [] k 0 rfl (by simpa using hl) hk (by omega)
def upWait : Int → Nat → List Wait
  | _, 0 => []
  | k, n + 1 => ⟨k, k + 1⟩ :: upWait (k + 2) n
theorem Qm4 (l : List Wait) : U.flat.flats (l.map Wait.u) = true := Qa0 _ (fun _ => rfl) l
theorem Qly (h : G_f69 E) : ∀ (r p : List Wait) (k i : Int), i = p.length → p.length + r.length ≤ 1048576 → 0 ≤ k → k + 2 * r.length ≤ 1099511627776 →
    f69_l0 E (.int .i64 k) (.int .i64 i) (p.map Wait.u ++ r.map Wait.u) = some (.tup [.int .i64 (k + 2 * r.length), .sl 2 (p.map Wait.u ++ (upWait k r.length).map Wait.u)])
  | [], p, k, i, hi, hb, hk, hk2 => by
    have h1 : ¬ i < ((p.map Wait.u ++ ([] : List Wait).map Wait.u).length : Int) := by simp [hi]
    rw [Qlx]
    simp only [Qm, h1, decide_false, Option.bind_some, Ql, Bool.false_eq_true, if_false]
    rw [← List.map_append]
    simp [upWait, Qm4]
  | x :: r, p, k, i, hi, hb, hk, hk2 => by
    simp only [List.length_cons] at hb hk2
    have hm := fun z => Qv Wait.u p z (r.map Wait.u) hi
    have hg := fun z => (hm z).1
    have hs := fun z => (hm z).2.1
    have hlen := fun z => (hm z).2.2
    have h0 : 0 ≤ i := by omega
    have hw0 : IntKind.i64.wrap (k + 1) = k + 1 := by rw [Qi (by omega)]
    have hw1 : IntKind.i64.wrap (k + 1 + 1) = k + 2 := by rw [Qi (by omega)]; omega
    have hwi : IntKind.i64.wrap (i + 1) = i + 1 := Qi (by omega)
    have ih := Qly h r (p ++ [⟨k, k + 1⟩]) (k + 2) (i + 1) (by simp [hi]) (by simp; omega) (by omega) (by omega)
    simp only [List.map_append, List.map_cons, List.map_nil, List.append_assoc, List.cons_append, List.nil_append] at ih
    rw [Qlx]
    simp only [List.map_cons, Qm, hlen, decide_true, Option.bind_some, Ql, if_true, Qq, h0, and_self, Qcw, Qcc, Qb2, hg, hs, Wait.u_agg, Qch, List.take_zero, List.take_succ_cons, Qay, Qbc, Nat.add_zero, Nat.zero_add, List.getElem?_cons_zero, List.getElem?_cons_succ, List.set_cons_zero, List.set_cons_succ, Qr, hw0, hw1, hwi, Nat.reduceAdd]
    have e : k + 2 + 2 * (r.length : Int) = k + 2 * ((r.length + 1 : Nat) : Int) := by omega
    rw [e] at ih
    simpa [upWait, Wait.u] using ih
theorem Qxh (h : G_f69 E) (l : List Wait) (hl : l.length ≤ 1048576) (k : Int) (hk : 0 ≤ k) (hk2 : k ≤ 1073741824) :
    E 200316 (.agg [.tup [.sl 2 (l.map Wait.u)]] :: [.int .i64 k]) = some (.tup [.int .i64 (k + 2 * l.length), .sl 2 ((upWait k l.length).map Wait.u)]) := by
  rw [f69_E h]
  exact Qly h l [] k 0 rfl (by simpa using hl) hk (by omega)
theorem Qmd (h : G_f85 E) (l : List Lock) (hl : l.length ≤ 1048576) : ∀ (r p : List Lock) (i : Int) (c : List U), l = p ++ r → i = p.length → c.length = r.length → (∀ z ∈ c, z.size = 2) →
    f85_l0 E (.sl 2 (l.map Lock.u)) (.int .i64 i) (p.map Lock.u ++ c) = some (.sl 2 (l.map Lock.u))
  | [], p, i, c, e, hi, hc, _ => by
    obtain rfl : c = [] := List.length_eq_zero_iff.1 hc
    rw [Qmc]
    simp [Qf e hi]
    simp [e, Qm1, ← List.map_append, ← List.map_cons]
  | x :: r, p, i, [], e, hi, hc, _ => by cases hc
  | x :: r, p, i, z :: c, e, hi, hc, hz => by
    obtain ⟨h0, hlt, hx, hw, hn, _⟩ := Qd e hi (by omega)
    have hzs : z.size = 2 := hz z (by simp)
    obtain ⟨hg, hs, hlen⟩ := Qv Lock.u p z c hi
    have ih := Qmd h l hl r (p ++ [x]) (i + 1) c (Qe e) hn (by simpa using hc) (fun y hy => hz y (by simp [hy]))
    simp only [List.map_append, List.map_cons, List.map_nil, List.append_assoc, List.cons_append, List.nil_append] at ih
    rw [Qmc]
    simp only [hg, hs, hx, hw, Qq, Qm, Qk, List.length_map, Option.bind_some, Ql, hlt, decide_true, if_true, h0, hlen, and_self, Qr, Ql9 h.c_f83 x, hzs, Lock.u_var, Lock.u_size, Lock.u_storable, Lock.u_partable]
    simpa using ih
theorem Qyc (h : G_f85 E) (l : List Lock) (hl : l.length ≤ 1048576) : E 100143 [.sl 2 (l.map Lock.u)] = some (.sl 2 (l.map Lock.u)) := by
  have h1 := Qmd h l hl l [] 0 (List.replicate l.length (.agg [.int .i64 0, .int .i64 0])) rfl rfl (by simp) (by simp)
  rw [f85_E h]
  simp only [Qk, Option.bind_some, List.length_map]
  rw [if_pos (by refine ⟨by omega, by omega, by omega, rfl⟩)]
  simpa using h1
theorem Qi0 (h : G_f102 E) (l : List Wait) (hl : l.length ≤ 1048576) : ∀ (r p : List Wait) (i : Int) (c : List U), l = p ++ r → i = p.length → c.length = r.length → (∀ z ∈ c, z.size = 2) →
    f102_l0 E (.sl 2 (l.map Wait.u)) (.int .i64 i) (p.map Wait.u ++ c) = some (.sl 2 (l.map Wait.u))
  | [], p, i, c, e, hi, hc, _ => by
    obtain rfl : c = [] := List.length_eq_zero_iff.1 hc
    rw [Qiz]
    simp [Qf e hi]
    simp [e, Qm4, ← List.map_append, ← List.map_cons]
  | x :: r, p, i, [], e, hi, hc, _ => by cases hc
  | x :: r, p, i, z :: c, e, hi, hc, hz => by
    obtain ⟨h0, hlt, hx, hw, hn, _⟩ := Qd e hi (by omega)
    have hzs : z.size = 2 := hz z (by simp)
    obtain ⟨hg, hs, hlen⟩ := Qv Wait.u p z c hi
    have ih := Qi0 h l hl r (p ++ [x]) (i + 1) c (Qe e) hn (by simpa using hc) (fun y hy => hz y (by simp [hy]))
    simp only [List.map_append, List.map_cons, List.map_nil, List.append_assoc, List.cons_append, List.nil_append] at ih
    rw [Qiz]
    simp only [hg, hs, hx, hw, Qq, Qm, Qk, List.length_map, Option.bind_some, Ql, hlt, decide_true, if_true, h0, hlen, and_self, Qr, Qiw h.c_f100 x, hzs, Wait.u_var, Wait.u_size, Wait.u_storable, Wait.u_partable]
    simpa using ih
theorem Qr1 (h : G_f102 E) (l : List Wait) (hl : l.length ≤ 1048576) : E 100142 [.sl 2 (l.map Wait.u)] = some (.sl 2 (l.map Wait.u)) := by
  have h1 := Qi0 h l hl l [] 0 (List.replicate l.length (.agg [.int .i64 0, .int .i64 0])) rfl rfl (by simp) (by simp)
  rw [Qr0 h]
  simp only [Qk, Option.bind_some, List.length_map]
  rw [if_pos (by refine ⟨by omega, by omega, by omega, rfl⟩)]
  simpa using h1
theorem Qmm (h : G_f93 E) (l : List Transaction) (hl : l.length ≤ 1048576) (hok : ∀ x ∈ l, Transaction.ok x) : ∀ (r p : List Transaction) (i : Int) (c : List U), l = p ++ r → i = p.length → c.length = r.length → (∀ z ∈ c, z.size = 9) →
    f93_l0 E (.sl 9 (l.map Transaction.u)) (.int .i64 i) (p.map Transaction.u ++ c) = some (.sl 9 (l.map Transaction.u))
  | [], p, i, c, e, hi, hc, _ => by
    obtain rfl : c = [] := List.length_eq_zero_iff.1 hc
    rw [Qml]
    simp [Qf e hi]
    simp [e]
  | x :: r, p, i, [], e, hi, hc, _ => by cases hc
  | x :: r, p, i, z :: c, e, hi, hc, hz => by
    obtain ⟨h0, hlt, hx, hw, hn, _⟩ := Qd e hi (by omega)
    have hox : x.ok := hok x (by rw [e]; simp)
    have hzs : z.size = 9 := hz z (by simp)
    obtain ⟨hg, hs, hlen⟩ := Qv Transaction.u p z c hi
    have ih := Qmm h l hl hok r (p ++ [x]) (i + 1) c (Qe e) hn (by simpa using hc) (fun y hy => hz y (by simp [hy]))
    simp only [List.map_append, List.map_cons, List.map_nil, List.append_assoc, List.cons_append, List.nil_append] at ih
    have hF := Qyu h.c_f94 x hox
    have h3 : ∀ (k : Nat) (us : List U) (K : U → Option U), U.noTup (.sl k us) K = K (.sl k us) := fun _ _ _ => rfl
    have h4 : ∀ (n : Int) (K : U → Option U), U.noTup (.int .i64 n) K = K (.int .i64 n) := fun _ _ => rfl
    have hu : U.agg [.int .i64 x.id, .int .i64 x.scheme, .int .i64 x.state, .int .i64 x.begin_, .int .i64 x.low, .int .i64 x.high, .int .i64 x.commit, .sl 2 (x.reads.map ReadMark.u), .sl 2 (x.writes.map Write.u)] = x.u := rfl
    rw [Qml]
    simp only [hx, hw, Qq, Qm, Qk, List.length_map, Option.bind_some, Ql, hlt, decide_true, if_true, h0, hlen, and_self, Qr, Transaction.u_var, hF, Transaction.u_noTup, Transaction.u_agg, Qc3, Qb2, U.asSlK, h4]
    simp only [Qat, Qih, D.size, Qcc, Nat.reduceAdd, if_true, hu, Transaction.u_size, hg, hs, hzs, Option.bind_some]
    simpa using ih
theorem Qys (h : G_f93 E) (l : List Transaction) (hl : l.length ≤ 1048576) (hok : ∀ x ∈ l, Transaction.ok x) : E 100144 [.sl 9 (l.map Transaction.u)] = some (.sl 9 (l.map Transaction.u)) := by
  have h1 := Qmm h l hl hok l [] 0 (List.replicate l.length (.agg [.int .i64 0, .int .i64 0, .int .i64 0, .int .i64 0, .int .i64 0, .int .i64 0, .int .i64 0, .nsl 2, .nsl 2])) rfl rfl (by simp) (by simp)
  rw [f93_E h]
  simp only [Qk, Option.bind_some, List.length_map]
  rw [if_pos (by refine ⟨by omega, by omega, by omega, rfl⟩)]
  have hfl : ∀ n : Nat, U.flat.flats (List.replicate n (.agg [.int .i64 0, .int .i64 0, .int .i64 0, .int .i64 0, .int .i64 0, .int .i64 0, .int .i64 0, .nsl 2, .nsl 2])) = true := by
    intro n
    induction n with
    | zero => rfl
    | succ n ih => simp [List.replicate_succ, U.flat.flats, U.flat, ih]
  simpa [hfl] using h1
theorem Qx7 (h : G_f82 E) (e : Engine) (ho : e.ok) : E 100124 [e.u] = some e.u := by
  rw [f82_E h]
  obtain ⟨h1, h2, h3, h4, h5⟩ := ho
  have g1 := Qym h.c_f90 e.store h1
  have g2 := Qys h.c_f93 e.transactions h2 h3
  have g3 := Qyc h.c_f85 e.locks h4
  have g4 := Qr1 h.c_f102 e.waits h5
  have q3 : ∀ (k : Nat) (us : List U) (K : U → Option U), U.noTup (.sl k us) K = K (.sl k us) := fun _ _ _ => rfl
  have q4 : ∀ (n : Int) (K : U → Option U), U.noTup (.int .i64 n) K = K (.int .i64 n) := fun _ _ => rfl
  simp [g1, g2, g3, g4, U.asSlK, q3, q4, D.size, dsizes, D.size.dsizes]
  rfl
def sumLen : List (List Version) → Int
  | [] => 0
  | c :: r => c.length + sumLen r
theorem Qqf : ∀ l, 0 ≤ sumLen l
  | [] => by simp [sumLen]
  | c :: r => by have := Qqf r; simp only [sumLen]; omega
theorem Qqg : ∀ (r : List (List Version)) (left : Int), 0 ≤ left → 0 ≤ szl chainSz r left → sumLen r ≤ left
  | [], left, h0, h => by simpa [sumLen] using h0
  | x :: r, left, h0, h => by
    simp only [szl] at h
    by_cases h1 : chainSz x left < 0
    · rw [if_pos h1] at h; omega
    · rw [if_neg h1] at h
      have h2 := Qqg r (chainSz x left) (by omega) h
      simp only [chainSz, szc] at h1 h2
      simp only [sumLen]
      split at h2 <;> omega
theorem Qaef (s : Store) (left : Int) (h0 : 0 ≤ left) (h : 0 ≤ s.sz left) : sumLen s.chains ≤ left := by
  simp only [Store.sz, szL] at h
  split at h
  · omega
  · have := Qqg s.chains _ (by omega) h
    omega
def upChains : Int → List Nat → List (List Version)
  | _, [] => []
  | k, n :: ns => upVersion k n :: upChains (k + 5 * n) ns
def sumN : List Nat → Int
  | [] => 0
  | n :: ns => n + sumN ns
theorem Qqh : ∀ l, 0 ≤ sumN l
  | [] => by simp [sumN]
  | c :: r => by have := Qqh r; simp only [sumN]; omega
theorem Qlu (h : G_f67 E) : ∀ (r : List (List Version)) (p : List U) (k i : Int), i = p.length → p.length + r.length ≤ 1048576 → (∀ x ∈ r, chainOk x) → 0 ≤ k → k + 5 * sumN (r.map List.length) ≤ 1073741824 →
    f67_l0 E (.int .i64 k) (.int .i64 i) (p ++ r.map chainU) = some (.tup [.int .i64 (k + 5 * sumN (r.map List.length)), .sl 1 (p ++ (upChains k (r.map List.length)).map chainU)])
  | [], p, k, i, hi, hb, hr, hk, hk2 => by
    have h1 : ¬ i < (p.length : Int) := by omega
    rw [Qlt]
    simp [h1, sumN, upChains, U.flat]
  | x :: r, p, k, i, hi, hb, hr, hk, hk2 => by
    simp only [List.length_cons, List.map_cons, sumN] at hb hk2
    have hs := Qqh (r.map List.length)
    have hx : x.length ≤ 1048576 := hr x (by simp)
    have hm := Qxf h.c_f68 x hx k hk (by omega)
    have h1 := Qlu h r (p ++ [.sl 5 ((upVersion k x.length).map Version.u)]) (k + 5 * x.length) (i + 1) (by simp [hi]) (by simp; omega) (fun y hy => hr y (by simp [hy])) (by omega) (by omega)
    have hn : i.toNat = p.length := by omega
    have hlt : i < ((p ++ chainU x :: r.map chainU).length : Int) := by simp; omega
    have h0 : 0 ≤ i := by omega
    have hw : IntKind.i64.wrap (i + 1) = i + 1 := Qi (by omega)
    have hg : (p ++ chainU x :: r.map chainU)[p.length]? = some (.sl 5 (x.map Version.u)) := by simp [chainU]
    have hset : ∀ z, (p ++ chainU x :: r.map chainU).set p.length z = p ++ z :: r.map chainU := fun z => by simp
    have e : k + 5 * (x.length : Int) + 5 * sumN (r.map List.length) = k + 5 * ((x.length : Int) + sumN (r.map List.length)) := by omega
    rw [Qlt]
    simp only [List.append_assoc, List.cons_append, List.nil_append, e] at h1
    simp only [List.map_cons, Qm, hlt, decide_true, Option.bind_some, Ql, if_true, Qq, h0, and_self, hn, hg, U.asSlK, hm, U.asMut, U.asFlat, U.flat, U.size, Qr, hw, hset, sumN, upChains]
    exact h1
theorem Qxd (h : G_f67 E) (l : List (List Version)) (hl : l.length ≤ 1048576) (hc : ∀ x ∈ l, chainOk x) (k : Int) (hk : 0 ≤ k) (hk2 : k + 5 * sumN (l.map List.length) ≤ 1073741824) :
    E 200121 (.agg [.tup [.sl 1 (l.map chainU)]] :: [.int .i64 k]) = some (.tup [.int .i64 (k + 5 * sumN (l.map List.length)), .sl 1 ((upChains k (l.map List.length)).map chainU)]) := by
  rw [f67_E h]
  exact Qlu h l [] k 0 rfl (by simpa using hl) hc hk hk2
theorem Qg6 : ∀ l : List (List Version), sumN (l.map List.length) = sumLen l
  | [] => rfl
  | c :: r => by simp only [List.map_cons, sumN, sumLen, Qg6 r]
def trxInts : List Transaction → Int
  | [] => 0
  | x :: r => 7 + 2 * x.reads.length + 2 * x.writes.length + trxInts r
theorem Qhg : ∀ l, 0 ≤ trxInts l
  | [] => by simp [trxInts]
  | x :: r => by have := Qhg r; simp only [trxInts]; omega
theorem Qls (h : G_f66 E) : ∀ (r : List Transaction) (p : List U) (k i : Int), i = p.length → p.length + r.length ≤ 1048576 → (∀ x ∈ r, x.ok) → 0 ≤ k → k + trxInts r ≤ 1073741824 →
    ∃ us, f66_l0 E (.int .i64 k) (.int .i64 i) (p ++ r.map Transaction.u) = some (.tup [.int .i64 (k + trxInts r), .sl 9 us])
  | [], p, k, i, hi, hb, hr, hk, hk2 => by
    simp only [trxInts] at hk2
    refine ⟨p, ?_⟩
    have h1 : ¬ i < (p.length : Int) := by omega
    rw [Qlr]
    simp [h1, trxInts]
  | x :: r, p, k, i, hi, hb, hr, hk, hk2 => by
    simp only [List.length_cons, trxInts] at hb hk2
    have hs := Qhg r
    have hx : x.ok := hr x (by simp)
    have hm1 := Qlo h.c_f65 x.reads hx.1 (k + 7) (by omega) (by omega)
    have hm2 := Ql0 h.c_f70 x.writes hx.2 (k + 7 + 2 * x.reads.length) (by omega) (by omega)
    obtain ⟨us, h1⟩ := Qls h r (p ++ [.agg [.int .i64 k, .int .i64 (k + 1), .int .i64 (k + 2), .int .i64 (k + 3), .int .i64 (k + 4), .int .i64 (k + 5), .int .i64 (k + 6), .sl 2 ((upReadMark (k + 7) x.reads.length).map ReadMark.u), .sl 2 ((upWrite (k + 7 + 2 * x.reads.length) x.writes.length).map Write.u)]]) (k + 7 + 2 * x.reads.length + 2 * x.writes.length) (i + 1) (by simp [hi]) (by simp; omega) (fun y hy => hr y (by simp [hy])) (by omega) (by omega)
    refine ⟨us, ?_⟩
    have e9 : k + 7 + 2 * x.reads.length + 2 * x.writes.length + trxInts r = k + (7 + 2 * x.reads.length + 2 * x.writes.length + trxInts r) := by omega
    rw [e9] at h1
    rw [show trxInts (x :: r) = 7 + 2 * x.reads.length + 2 * x.writes.length + trxInts r from rfl]
    have hn : i.toNat = p.length := by omega
    have hlt : ∀ z : U, i < ((p ++ z :: r.map Transaction.u).length : Int) := fun z => by simp; omega
    have h0 : 0 ≤ i := by omega
    have hw : IntKind.i64.wrap (i + 1) = i + 1 := Qi (by omega)
    have hw1 : IntKind.i64.wrap (k + 1) = k + 1 := Qi (by omega)
    have hw2 : IntKind.i64.wrap (k + 1 + 1) = k + 2 := by rw [Qi (by omega)]; omega
    have hw3 : IntKind.i64.wrap (k + 2 + 1) = k + 3 := by rw [Qi (by omega)]; omega
    have hw4 : IntKind.i64.wrap (k + 3 + 1) = k + 4 := by rw [Qi (by omega)]; omega
    have hw5 : IntKind.i64.wrap (k + 4 + 1) = k + 5 := by rw [Qi (by omega)]; omega
    have hw6 : IntKind.i64.wrap (k + 5 + 1) = k + 6 := by rw [Qi (by omega)]; omega
    have hw7 : IntKind.i64.wrap (k + 6 + 1) = k + 7 := by rw [Qi (by omega)]; omega
    have hg : ∀ z : U, (p ++ z :: r.map Transaction.u)[p.length]? = some z := fun z => by simp
    have hset : ∀ y z : U, (p ++ y :: r.map Transaction.u).set p.length z = p ++ z :: r.map Transaction.u := fun y z => by simp
    rw [Qlr]
    simp only [List.append_assoc, List.cons_append, List.nil_append] at h1
    simp only [List.map_cons, Qm, hlt, decide_true, Option.bind_some, Ql, if_true, Qq, h0, and_self, hn, hg, hset, Transaction.u_agg, Qch, List.take_zero, List.take_succ_cons, Qay, Qbc, Qcc, U.size, Nat.add_zero, Nat.zero_add, Nat.reduceAdd, List.getElem?_cons_zero, List.getElem?_cons_succ, List.set_cons_zero, List.set_cons_succ, Qcw, Qb2, Qr, hw, hw1, hw2, hw3, hw4, hw5, hw6, hw7, U.asSlK, hm1, hm2, U.asMut, U.asFlat, U.flat, Qabw]
    exact h1
theorem Qxb (h : G_f66 E) (l : List Transaction) (hl : l.length ≤ 1048576) (ho : ∀ x ∈ l, x.ok) (k : Int) (hk : 0 ≤ k) (hk2 : k + trxInts l ≤ 1073741824) :
    ∃ us, E 200318 (.agg [.tup [.sl 9 (l.map Transaction.u)]] :: [.int .i64 k]) = some (.tup [.int .i64 (k + trxInts l), .sl 9 us]) := by
  rw [f66_E h]
  exact Qls h l [] k 0 rfl (by simpa using hl) ho hk hk2
theorem Qqk : ∀ (r : List Transaction) (left : Int), 0 ≤ left → 0 ≤ szl Transaction.sz r left → trxInts r ≤ 7 * r.length + 2 * left
  | [], left, h0, h => by simp [trxInts]; omega
  | x :: r, left, h0, h => by
    simp only [szl] at h
    by_cases h1 : Transaction.sz x left < 0
    · rw [if_pos h1] at h; omega
    · rw [if_neg h1] at h
      have h2 := Qqk r (Transaction.sz x left) (by omega) h
      simp only [Transaction.sz, szc] at h1 h2
      simp only [trxInts, List.length_cons]
      split at h2
      · omega
      · split at h2
        · omega
        · omega
theorem Qaem (l : List Transaction) (left : Int) (h0 : 0 ≤ left) (h1 : left ≤ 1048576) (h : 0 ≤ szL Transaction.sz l left) : trxInts l ≤ 9437184 := by
  simp only [szL] at h
  split at h
  · omega
  · have := Qqk l _ (by omega) h
    omega
theorem Qabd (hS : G_f67 E) (hT : G_f66 E) (hL : G_f64 E) (hW : G_f69 E) (e : Engine) (ho : e.ok) (hz : 0 ≤ e.sz 1048576) :
    ∃ (k1 k2 k3 k4 : Int) (u1 u2 u3 u4 : List U), E 200121 (.agg [.tup [.sl 1 (e.store.chains.map chainU)]] :: [.int .i64 1]) = some (.tup [.int .i64 k1, .sl 1 u1])
      ∧ E 200318 (.agg [.tup [.sl 9 (e.transactions.map Transaction.u)]] :: [.int .i64 k1]) = some (.tup [.int .i64 k2, .sl 9 u2])
      ∧ E 200317 (.agg [.tup [.sl 2 (e.locks.map Lock.u)]] :: [.int .i64 k2]) = some (.tup [.int .i64 k3, .sl 2 u3])
      ∧ E 200316 (.agg [.tup [.sl 2 (e.waits.map Wait.u)]] :: [.int .i64 k3]) = some (.tup [.int .i64 k4, .sl 2 u4])
      ∧ 0 ≤ k1 ∧ 0 ≤ k2 ∧ 0 ≤ k3 ∧ 0 ≤ k4 ∧ k4 ≤ 1000000000 := by
  obtain ⟨o1, o2, o3, o4, o5⟩ := ho
  unfold Engine.sz at hz
  by_cases q1 : e.store.sz 1048576 < 0
  · rw [if_pos q1] at hz; omega
  rw [if_neg q1] at hz
  by_cases q2 : szL Transaction.sz e.transactions (e.store.sz 1048576) < 0
  · rw [if_pos q2] at hz; omega
  have b1 := Qaef e.store 1048576 (by omega) (by omega)
  have b0 : e.store.sz 1048576 ≤ 1048576 := by
    rcases Store.sz_szs e.store 1048576 (by omega) (by omega) with n | ⟨_, _, n⟩ <;> omega
  have b2 := Qaem e.transactions _ (by omega) b0 (by omega)
  have p2 := Qhg e.transactions
  have p1 := Qqf e.store.chains
  have m1 := Qxd hS e.store.chains o1.1 o1.2 1 (by omega) (by rw [Qg6]; omega)
  rw [Qg6] at m1
  obtain ⟨u2, m2⟩ := Qxb hT e.transactions o2 o3 (1 + 5 * sumLen e.store.chains) (by omega) (by omega)
  have m3 := Qw8 hL e.locks o4 (1 + 5 * sumLen e.store.chains + trxInts e.transactions) (by omega) (by omega)
  have m4 := Qxh hW e.waits o5 (1 + 5 * sumLen e.store.chains + trxInts e.transactions + 2 * e.locks.length) (by omega) (by omega)
  exact ⟨_, _, _, _, _, _, _, _, m1, m2, m3, m4, by omega, by omega, by omega, by omega, by omega⟩
theorem Qll (h : G_f63 E) (l : List Write) (hl : l.length ≤ 1048576) : ∀ (n : Nat) (p : List Write) (k i : Int), l = p ++ upWrite k n → i = p.length → 0 ≤ k → k + 2 * n ≤ 1099511627776 →
    f63_l0 E (.sl 2 (l.map Write.u)) (.int .i64 k) (.int .i64 i) = some (.int .i64 (k + 2 * n))
  | 0, p, k, i, e, hi, hk, hk2 => by
    rw [Qlk]
    simp [Qf e hi]
  | n + 1, p, k, i, e0, hi, hk, hk2 => by
    have e : l = p ++ (⟨k, k + 1⟩ : Write) :: upWrite (k + 2) n := e0
    obtain ⟨h0, hlt, hx, hw, hn, _⟩ := Qd e hi (by omega)
    have hw0 : IntKind.i64.wrap (k + 1) = k + 1 := by rw [Qi (by omega)]
    have hw1 : IntKind.i64.wrap (k + 1 + 1) = k + 2 := by rw [Qi (by omega)]; omega
    have ih := Qll h l hl n (p ++ [⟨k, k + 1⟩]) (k + 2) (i + 1) (Qe e) hn (by omega) (by omega)
    have e2 : k + 2 + 2 * (n : Int) = k + 2 * ((n + 1 : Nat) : Int) := by omega
    rw [e2] at ih
    rw [Qlk]
    simp only [Qk, List.length_map, Option.bind_some, Qm, hlt, decide_true, Ql, if_true, Qq, hx, Write.u_at0, Write.u_at1, Qc3, Qh7, ne_eq, not_true_eq_false, decide_false, Bool.false_eq_true, if_false, Qr, hw, hw0, hw1]
    exact ih
theorem Qw6 (h : G_f63 E) (n : Nat) (hn : n ≤ 1048576) (k : Int) (hk : 0 ≤ k) (hk2 : k ≤ 4194304) : E 235 [.sl 2 ((upWrite k n).map Write.u), .int .i64 k] = some (.int .i64 (k + 2 * n)) := by
  rw [f63_E h]
  exact Qll h _ (by rw [Qqo]; exact hn) n [] k 0 rfl rfl hk (by omega)
abbrev shI : Sh := .int .i64
theorem Qt {u : U} (h : Fits shI u) : ∃ n, u = .int .i64 n ∧ -9223372036854775808 ≤ n ∧ n ≤ 9223372036854775807 := by
  cases u <;> first | exact h.elim | skip
  rename_i k n
  obtain ⟨rfl, h1, h2⟩ := h
  exact ⟨n, rfl, h1, h2⟩
theorem Qze {u : U} (h : Fits .bool u) : ∃ b, u = .bool b := by
  cases u <;> first | exact h.elim | exact ⟨_, rfl⟩
theorem Qbj {ss : List Sh} {u : U} (h : Fits (.agg ss) u) : ∃ us, u = .agg us ∧ Fits.fits ss us := by
  cases u <;> first | exact h.elim | exact ⟨_, rfl, h⟩
theorem Qn {s : Sh} {ss : List Sh} {us : List U} (h : Fits.fits (s :: ss) us) : ∃ u us', us = u :: us' ∧ Fits s u ∧ Fits.fits ss us' := by
  cases us with
  | nil => exact h.elim
  | cons u us => exact ⟨u, us, rfl, h.1, h.2⟩
theorem Qbb {us : List U} (h : Fits.fits [] us) : us = [] := by
  cases us with
  | nil => rfl
  | cons u us => exact h.elim
theorem Qmz {α : Type} {s : Sh} {f : α → U} {Q : α → Prop} (hs : ∀ u, Fits s u → ∃ x, u = f x ∧ Q x) : ∀ us : List U, (∀ u ∈ us, Fits s u) → ∃ l : List α, us = l.map f ∧ ∀ x ∈ l, Q x
  | [], _ => ⟨[], rfl, by simp⟩
  | u :: us, h => by
    obtain ⟨x, rfl, hx⟩ := hs u (h u (by simp))
    obtain ⟨l, rfl, hl⟩ := Qmz hs us (fun v hv => h v (by simp [hv]))
    exact ⟨x :: l, rfl, by simpa using ⟨hx, hl⟩⟩
theorem Qb1 {α : Type} {k : Nat} {s : Sh} {f : α → U} {Q : α → Prop} (hs : ∀ u, Fits s u → ∃ x, u = f x ∧ Q x) {u : U} (h : Fits (.sl k s) u) : ∃ l : List α, u = .sl k (l.map f) ∧ l.length ≤ maxLen ∧ ∀ x ∈ l, Q x := by
  cases u <;> first | exact h.elim | skip
  obtain ⟨rfl, h1, h2⟩ := h
  obtain ⟨l, rfl, hl⟩ := Qmz hs _ h2
  exact ⟨l, rfl, by simpa using h1, hl⟩
abbrev shReadMark : Sh := .agg [shI, shI]
theorem Qy8 (u : U) (h : Fits shReadMark u) : ∃ x : ReadMark, u = x.u ∧ True := by
  obtain ⟨us0, rfl, hs0⟩ := Qbj h
  obtain ⟨u0, us1, rfl, h0, hs1⟩ := Qn hs0
  obtain ⟨a0, rfl, _⟩ := Qt h0
  obtain ⟨u1, us2, rfl, h1, hs2⟩ := Qn hs1
  obtain ⟨a1, rfl, _⟩ := Qt h1
  obtain rfl := Qbb hs2
  exact ⟨⟨a0, a1⟩, rfl, trivial⟩
abbrev shWrite : Sh := .agg [shI, shI]
theorem Qzd (u : U) (h : Fits shWrite u) : ∃ x : Write, u = x.u ∧ True := by
  obtain ⟨us0, rfl, hs0⟩ := Qbj h
  obtain ⟨u0, us1, rfl, h0, hs1⟩ := Qn hs0
  obtain ⟨a0, rfl, _⟩ := Qt h0
  obtain ⟨u1, us2, rfl, h1, hs2⟩ := Qn hs1
  obtain ⟨a1, rfl, _⟩ := Qt h1
  obtain rfl := Qbb hs2
  exact ⟨⟨a0, a1⟩, rfl, trivial⟩
abbrev shLock : Sh := .agg [shI, shI]
theorem Qy7 (u : U) (h : Fits shLock u) : ∃ x : Lock, u = x.u ∧ True := by
  obtain ⟨us0, rfl, hs0⟩ := Qbj h
  obtain ⟨u0, us1, rfl, h0, hs1⟩ := Qn hs0
  obtain ⟨a0, rfl, _⟩ := Qt h0
  obtain ⟨u1, us2, rfl, h1, hs2⟩ := Qn hs1
  obtain ⟨a1, rfl, _⟩ := Qt h1
  obtain rfl := Qbb hs2
  exact ⟨⟨a0, a1⟩, rfl, trivial⟩
abbrev shWait : Sh := .agg [shI, shI]
theorem Qzc (u : U) (h : Fits shWait u) : ∃ x : Wait, u = x.u ∧ True := by
  obtain ⟨us0, rfl, hs0⟩ := Qbj h
  obtain ⟨u0, us1, rfl, h0, hs1⟩ := Qn hs0
  obtain ⟨a0, rfl, _⟩ := Qt h0
  obtain ⟨u1, us2, rfl, h1, hs2⟩ := Qn hs1
  obtain ⟨a1, rfl, _⟩ := Qt h1
  obtain rfl := Qbb hs2
  exact ⟨⟨a0, a1⟩, rfl, trivial⟩
abbrev shVersion : Sh := .agg [shI, shI, shI, shI, shI]
theorem Qzb (u : U) (h : Fits shVersion u) : ∃ x : Version, u = x.u ∧ True := by
  obtain ⟨us0, rfl, hs0⟩ := Qbj h
  obtain ⟨u0, us1, rfl, h0, hs1⟩ := Qn hs0
  obtain ⟨a0, rfl, _⟩ := Qt h0
  obtain ⟨u1, us2, rfl, h1, hs2⟩ := Qn hs1
  obtain ⟨a1, rfl, _⟩ := Qt h1
  obtain ⟨u2, us3, rfl, h2, hs3⟩ := Qn hs2
  obtain ⟨a2, rfl, _⟩ := Qt h2
  obtain ⟨u3, us4, rfl, h3, hs4⟩ := Qn hs3
  obtain ⟨a3, rfl, _⟩ := Qt h3
  obtain ⟨u4, us5, rfl, h4, hs5⟩ := Qn hs4
  obtain ⟨a4, rfl, _⟩ := Qt h4
  obtain rfl := Qbb hs5
  exact ⟨⟨a0, a1, a2, a3, a4⟩, rfl, trivial⟩
abbrev shTransaction : Sh := .agg [shI, shI, shI, shI, shI, shI, shI, .sl 2 shReadMark, .sl 2 shWrite]
theorem Qza (u : U) (h : Fits shTransaction u) : ∃ x : Transaction, u = x.u ∧ x.fit := by
  obtain ⟨us0, rfl, hs0⟩ := Qbj h
  obtain ⟨u0, us1, rfl, h0, hs1⟩ := Qn hs0
  obtain ⟨a0, rfl, _⟩ := Qt h0
  obtain ⟨u1, us2, rfl, h1, hs2⟩ := Qn hs1
  obtain ⟨a1, rfl, _⟩ := Qt h1
  obtain ⟨u2, us3, rfl, h2, hs3⟩ := Qn hs2
  obtain ⟨a2, rfl, _⟩ := Qt h2
  obtain ⟨u3, us4, rfl, h3, hs4⟩ := Qn hs3
  obtain ⟨a3, rfl, _⟩ := Qt h3
  obtain ⟨u4, us5, rfl, h4, hs5⟩ := Qn hs4
  obtain ⟨a4, rfl, _⟩ := Qt h4
  obtain ⟨u5, us6, rfl, h5, hs6⟩ := Qn hs5
  obtain ⟨a5, rfl, _⟩ := Qt h5
  obtain ⟨u6, us7, rfl, h6, hs7⟩ := Qn hs6
  obtain ⟨a6, rfl, _⟩ := Qt h6
  obtain ⟨u7, us8, rfl, h7, hs8⟩ := Qn hs7
  obtain ⟨a7, rfl, l7, _⟩ := Qb1 Qy8 h7
  obtain ⟨u8, us9, rfl, h8, hs9⟩ := Qn hs8
  obtain ⟨a8, rfl, l8, _⟩ := Qb1 Qzd h8
  obtain rfl := Qbb hs9
  exact ⟨⟨a0, a1, a2, a3, a4, a5, a6, a7, a8⟩, rfl, ⟨l7, l8⟩⟩
abbrev shStore : Sh := .agg [.sl 1 (.sl 5 shVersion)]
theorem Qzf (u : U) (h : Fits (.sl 5 shVersion) u) : ∃ l : List Version, u = chainU l ∧ chainFit l := by
  obtain ⟨l, h1, h2, _⟩ := Qb1 Qzb h
  exact ⟨l, h1, h2⟩
theorem Qy9 (u : U) (h : Fits shStore u) : ∃ s : Store, u = s.u ∧ s.fit := by
  obtain ⟨us0, rfl, hs0⟩ := Qbj h
  obtain ⟨u0, us1, rfl, h0, hs1⟩ := Qn hs0
  obtain ⟨l, rfl, h1, h2⟩ := Qb1 Qzf h0
  obtain rfl := Qbb hs1
  exact ⟨⟨l⟩, rfl, h1, h2⟩
abbrev shEngine : Sh := .agg [.bool, shStore, .sl 9 shTransaction, .sl 2 shLock, .sl 2 shWait, shI]
theorem Qy6 (u : U) (h : Fits shEngine u) : ∃ e : Engine, u = e.u ∧ e.fit := by
  obtain ⟨us0, rfl, hs0⟩ := Qbj h
  obtain ⟨u0, us1, rfl, h0, hs1⟩ := Qn hs0
  obtain ⟨b, rfl⟩ := Qze h0
  obtain ⟨u1, us2, rfl, h1, hs2⟩ := Qn hs1
  obtain ⟨s, rfl, f1⟩ := Qy9 _ h1
  obtain ⟨u2, us3, rfl, h2, hs3⟩ := Qn hs2
  obtain ⟨ts, rfl, f2, f3⟩ := Qb1 Qza h2
  obtain ⟨u3, us4, rfl, h3, hs4⟩ := Qn hs3
  obtain ⟨ls, rfl, f4, _⟩ := Qb1 Qy7 h3
  obtain ⟨u4, us5, rfl, h4, hs5⟩ := Qn hs4
  obtain ⟨ws, rfl, f5, _⟩ := Qb1 Qzc h4
  obtain ⟨u5, us6, rfl, h5, hs6⟩ := Qn hs5
  obtain ⟨n, rfl, _⟩ := Qt h5
  obtain rfl := Qbb hs6
  exact ⟨⟨b, s, ts, ls, ws, n⟩, rfl, f1, f2, f3, f4, f5⟩
theorem eqRec (h : G_f48 E) (a b c d : Int) {r w r' w' : U} (hr : E 34 [r, r'] = some (.bool true)) (hw : E 33 [w, w'] = some (.bool true)) (vr : ∀ K : U → Option U, U.asVar false 1 r K = K r) (vr' : ∀ K : U → Option U, U.asVar false 1 r' K = K r') (vw : ∀ K : U → Option U, U.asVar false 1 w K = K w) (vw' : ∀ K : U → Option U, U.asVar false 1 w' K = K w') (zr : r.size = 1) (zr' : r'.size = 1) :
    E 19 [.agg [.int .i64 a, .int .i64 b, .int .i64 c, .int .i64 d, r, w], .agg [.int .i64 a, .int .i64 b, .int .i64 c, .int .i64 d, r', w']] = some (.bool true) := by
  rw [f48_E h]
  have nt : ∀ (us : List U) (K : U → Option U), U.noTup (.agg us) K = K (.agg us) := fun _ _ => rfl
  simp [nt, hr, hw, vr, vr', vw, vw', zr, zr']
theorem Qri (h : G_f48 E) (q : Option LogRecord) (hq : ∀ r, q = some r → r.ok) : E 19 [(recF q).u, recV q] = some (.bool true) := by
  cases q with
  | none => exact eqRec h 0 0 0 0 (Qit h.c_f50 (.inl rfl) (.inr rfl)) (Qiu h.c_f60 (.inl rfl) (.inr rfl)) (fun _ => rfl) (fun _ => rfl) (fun _ => rfl) (fun _ => rfl) rfl rfl
  | some r =>
    have h1 := Qky h r r (hq r rfl) (hq r rfl)
    rw [decide_eq_true rfl] at h1
    exact h1
theorem Qrj (h : G_f48 E) (q : Option LogRecord) (hq : ∀ r, q = some r → r.ok) : E 19 [recV q, recV q] = some (.bool true) := by
  cases q with
  | none => exact eqRec h 0 0 0 0 (Qit h.c_f50 (.inr rfl) (.inr rfl)) (Qiu h.c_f60 (.inr rfl) (.inr rfl)) (fun _ => rfl) (fun _ => rfl) (fun _ => rfl) (fun _ => rfl) rfl rfl
  | some r =>
    have h1 := Qky h r r (hq r rfl) (hq r rfl)
    rw [decide_eq_true rfl] at h1
    exact h1
theorem heldRec (h : G_f61 E) (a b c d : Int) (n m : Nat) (hn : n ≤ 1048576) (hm : m ≤ 1048576) : E 396 [.agg [.int .i64 a, .int .i64 b, .int .i64 c, .int .i64 d, .sl 2 ((upReadMark 1 n).map ReadMark.u), .sl 2 ((upWrite (1 + 2 * n) m).map Write.u)], .int .i64 1] = some (.int .i64 (1 + 2 * n + 2 * m)) := by
  rw [f61_E h]
  have h1 := Qw4 h.c_f62 n hn 1 (by omega) (by omega)
  have h2 := Qw6 h.c_f63 m hm (1 + 2 * n) (by omega) (by omega)
  have nt : ∀ (us : List U) (K : U → Option U), U.noTup (.agg us) K = K (.agg us) := fun _ _ => rfl
  have h3 : ¬ (1 + 2 * (n : Int)) < 0 := by omega
  have h4 : ¬ (1 + 2 * (n : Int) + 2 * m) < 0 := by omega
  simp [nt, h1, h2, h3, h4]
theorem Qab5 (q : Option LogRecord) : (∃ a b c d us vs, recV q = .agg [.int .i64 a, .int .i64 b, .int .i64 c, .int .i64 d, .sl 2 us, .sl 2 vs]) ∨ recV q = .agg [.int .i64 0, .int .i64 0, .int .i64 0, .int .i64 0, .nsl 2, .nsl 2] := by
  cases q with
  | none => exact .inr rfl
  | some l => exact .inl ⟨_, _, _, _, _, _, rfl⟩
theorem Qab7 (e : Engine) (oe : e.ok) (n : Int) : ∀ r, recordAt e n = some r → r.ok := fun r hr => by
  unfold recordAt at hr
  split at hr
  · unfold recordOf at hr
    cases hf : e.transactions.find? (isCommit n) with
    | none => rw [hf] at hr; cases hr
    | some t =>
      rw [hf] at hr
      simp only [keepRec] at hr
      split at hr
      · cases hr
        exact Qez e oe n t (List.mem_of_find?_eq_some hf)
      · cases hr
  · cases hr
theorem Qaav (h : G_f44 E) (us : List U) (hus : Fits.fits [shEngine, shI] us) : E 395 us = some (.bool true) := by
  obtain ⟨u0, us1, rfl, h0, hus1⟩ := Qn hus
  obtain ⟨u1, us2, rfl, h1, hus2⟩ := Qn hus1
  obtain rfl := Qbb hus2
  obtain ⟨id, rfl, hn⟩ := Qt h1
  obtain ⟨e, rfl, hx⟩ := Qy6 _ h0
  rw [f44_E h]
  have s1 := Qxl h.c_f71 e hx 1048576 (by omega) (by omega)
  rcases Engine.sz_szs e 1048576 (by omega) (by omega) with n1 | ⟨oe, n1, n2⟩
  · show (E 128 [e.u, .int .i64 1048576]).bind _ = _
    have hlt : U.bin .lss (.int .i64 (e.sz 1048576)) (.int .i64 0) = some (.bool true) := by simp [n1]
    rw [s1, Option.bind_some, hlt]
    rfl
  obtain ⟨k1, k2, k3, k4, v1, v2, v3, v4, m1, m2, m3, m4, p1, p2, p3, p4, _⟩ := Qabd h.c_f67 h.c_f66 h.c_f64 h.c_f69 e oe n1
  have g1 := Que h.c_f131 e oe id
  have g2 := Qvt h.c_f28 e oe id
  have g3 := Qvr h.c_f27 e oe id
  have t1 := Qx5 h.c_f81 e oe
  have t2 := Qx7 h.c_f82 e oe
  have q1 := Qwe h.c_f45 e e oe oe
  rw [decide_eq_true rfl] at q1
  have hok := Qab7 e oe id
  have e1 := Qri h.c_f48 _ hok
  have e2 := Qrj h.c_f48 _ hok
  have hl : (recF (recordAt e id)).ok := by
    cases hq : recordAt e id with
    | none => exact ⟨by decide, by decide⟩
    | some l => exact hok l hq
  have hv := Qab5 (recordAt e id)
  generalize recF (recordAt e id) = x at *
  generalize recV (recordAt e id) = v at *
  generalize (recordAt e id).isSome = b at *
  obtain ⟨xa, xb, xc, xd, xr, xw⟩ := x
  have hl1 : xr.length ≤ 1048576 := hl.1
  have hl2 : xw.length ≤ 1048576 := hl.2
  have r1 := Qlo h.c_f65 xr hl1 1 (by omega) (by omega)
  have r2 := Ql0 h.c_f70 xw hl2 (1 + 2 * xr.length) (by omega) (by omega)
  have hd := heldRec h.c_f61 xa xb xc xd xr.length xw.length hl1 hl2
  have hne : U.bin .neq (.int .i64 (1 + 2 * (xr.length : Int) + 2 * (xw.length : Int))) (.int .i64 (1 + 2 * (xr.length : Int) + 2 * (xw.length : Int))) = some (.bool false) := by simp
  have hdf' : ¬ (1 + 2 * (xr.length : Int) + 2 * (xw.length : Int)) < 0 := by omega
  have hdf : U.bin .lss (.int .i64 (1 + 2 * (xr.length : Int) + 2 * (xw.length : Int))) (.int .i64 0) = some (.bool false) := Qcn (by omega)
  rcases hv with ⟨va, vb, vc, vd, vs, ws, rfl⟩ | rfl
  · cases b <;> (
      show (E 128 [e.u, .int .i64 1048576]).bind _ = _
      rw [s1, Option.bind_some, Qcn n1]
      show (E 124 [e.u]).bind _ = _
      rw [t1]
      show (E 399 [e.u, .int .i64 id]).bind _ = _
      rw [g1]
      show ite (storable (.val (U.agg [.int .i64 va, .int .i64 vb, .int .i64 vc, .int .i64 vd, .sl 2 vs, .sl 2 ws])) = true ∧ U.size (U.agg [.int .i64 va, .int .i64 vb, .int .i64 vc, .int .i64 vd, .sl 2 vs, .sl 2 ws]) = 6) _ (none : Option U) = _
      rw [if_pos ⟨rfl, rfl⟩]
      show (E 100124 [e.u]).bind _ = _
      rw [t2]
      show (E 100397 [e.u, .int .i64 id]).bind _ = _
      rw [g2]
      show (E 19 [LogRecord.u ⟨xa, xb, xc, xd, xr, xw⟩, _]).bind _ = _
      rw [e1]
      show (E 124 [e.u]).bind _ = _
      rw [t1]
      show (E 125 [e.u, e.u]).bind _ = _
      rw [q1]
      show (E 200121 (.agg [.tup [.sl 1 (e.store.chains.map chainU)]] :: [.int .i64 1])).bind _ = _
      rw [m1]
      show (E 200318 (.agg [.tup [.sl 9 (e.transactions.map Transaction.u)]] :: [.int .i64 k1])).bind _ = _
      rw [m2]
      show (E 200317 (.agg [.tup [.sl 2 (e.locks.map Lock.u)]] :: [.int .i64 k2])).bind _ = _
      rw [m3]
      show (E 200316 (.agg [.tup [.sl 2 (e.waits.map Wait.u)]] :: [.int .i64 k3])).bind _ = _
      rw [m4, Option.bind_some, Qh4, Qc0, if_pos (show partable (.val (.int .i64 k4)) = true from rfl), Qcn p4, Option.bind_some, Qbv]
      show (E 19 [LogRecord.u ⟨xa, xb, xc, xd, xr, xw⟩, _]).bind _ = _
      rw [e1]
      show (E 200095 (.agg [.tup [.sl 2 (xr.map ReadMark.u)]] :: [.int .i64 1])).bind _ = _
      rw [r1]
      show (E 200232 (.agg [.tup [.sl 2 (xw.map Write.u)]] :: [.int .i64 (1 + 2 * xr.length)])).bind _ = _
      rw [r2]
      show (E 396 [.agg [.int .i64 xa, .int .i64 xb, .int .i64 xc, .int .i64 xd, .sl 2 ((upReadMark 1 xr.length).map ReadMark.u), .sl 2 ((upWrite (1 + 2 * xr.length) xw.length).map Write.u)], .int .i64 1]).bind _ = _
      rw [hd, Option.bind_some, Qc0, hdf, Option.bind_some, Qbv, hne, Option.bind_some, Qbv]
      show (E 124 [e.u]).bind _ = _
      rw [t1]
      show (E 397 [e.u, .int .i64 id]).bind _ = _
      rw [g3]
      show ite (storable (.val (U.agg [.int .i64 va, .int .i64 vb, .int .i64 vc, .int .i64 vd, .sl 2 vs, .sl 2 ws])) = true ∧ U.size (U.agg [.int .i64 va, .int .i64 vb, .int .i64 vc, .int .i64 vd, .sl 2 vs, .sl 2 ws]) = 6) _ (none : Option U) = _
      rw [if_pos ⟨rfl, rfl⟩]
      show (E 19 [_, _]).bind _ = _
      rw [e2]
      simp [hdf', U.un, U.eqv])
  · cases b <;> (
      show (E 128 [e.u, .int .i64 1048576]).bind _ = _
      rw [s1, Option.bind_some, Qcn n1]
      show (E 124 [e.u]).bind _ = _
      rw [t1]
      show (E 399 [e.u, .int .i64 id]).bind _ = _
      rw [g1]
      show ite (storable (.val (U.agg [.int .i64 0, .int .i64 0, .int .i64 0, .int .i64 0, .nsl 2, .nsl 2])) = true ∧ U.size (U.agg [.int .i64 0, .int .i64 0, .int .i64 0, .int .i64 0, .nsl 2, .nsl 2]) = 6) _ (none : Option U) = _
      rw [if_pos ⟨rfl, rfl⟩]
      show (E 100124 [e.u]).bind _ = _
      rw [t2]
      show (E 100397 [e.u, .int .i64 id]).bind _ = _
      rw [g2]
      show (E 19 [LogRecord.u ⟨xa, xb, xc, xd, xr, xw⟩, _]).bind _ = _
      rw [e1]
      show (E 124 [e.u]).bind _ = _
      rw [t1]
      show (E 125 [e.u, e.u]).bind _ = _
      rw [q1]
      show (E 200121 (.agg [.tup [.sl 1 (e.store.chains.map chainU)]] :: [.int .i64 1])).bind _ = _
      rw [m1]
      show (E 200318 (.agg [.tup [.sl 9 (e.transactions.map Transaction.u)]] :: [.int .i64 k1])).bind _ = _
      rw [m2]
      show (E 200317 (.agg [.tup [.sl 2 (e.locks.map Lock.u)]] :: [.int .i64 k2])).bind _ = _
      rw [m3]
      show (E 200316 (.agg [.tup [.sl 2 (e.waits.map Wait.u)]] :: [.int .i64 k3])).bind _ = _
      rw [m4, Option.bind_some, Qh4, Qc0, if_pos (show partable (.val (.int .i64 k4)) = true from rfl), Qcn p4, Option.bind_some, Qbv]
      show (E 19 [LogRecord.u ⟨xa, xb, xc, xd, xr, xw⟩, _]).bind _ = _
      rw [e1]
      show (E 200095 (.agg [.tup [.sl 2 (xr.map ReadMark.u)]] :: [.int .i64 1])).bind _ = _
      rw [r1]
      show (E 200232 (.agg [.tup [.sl 2 (xw.map Write.u)]] :: [.int .i64 (1 + 2 * xr.length)])).bind _ = _
      rw [r2]
      show (E 396 [.agg [.int .i64 xa, .int .i64 xb, .int .i64 xc, .int .i64 xd, .sl 2 ((upReadMark 1 xr.length).map ReadMark.u), .sl 2 ((upWrite (1 + 2 * xr.length) xw.length).map Write.u)], .int .i64 1]).bind _ = _
      rw [hd, Option.bind_some, Qc0, hdf, Option.bind_some, Qbv, hne, Option.bind_some, Qbv]
      show (E 124 [e.u]).bind _ = _
      rw [t1]
      show (E 397 [e.u, .int .i64 id]).bind _ = _
      rw [g3]
      show ite (storable (.val (U.agg [.int .i64 0, .int .i64 0, .int .i64 0, .int .i64 0, .nsl 2, .nsl 2])) = true ∧ U.size (U.agg [.int .i64 0, .int .i64 0, .int .i64 0, .int .i64 0, .nsl 2, .nsl 2]) = 6) _ (none : Option U) = _
      rw [if_pos ⟨rfl, rfl⟩]
      show (E 19 [_, _]).bind _ = _
      rw [e2]
      simp [hdf', U.un, U.eqv])
end Go.Proofs.YtmdnjglkdddaeaaGreat.Am
