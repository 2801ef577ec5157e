import Derived.Test.YtboenehajoaahaaForgetAbortedP0
import Derived.Test.YtboenehajoaahaaForgetAbortedF0
import Derived.Test.YtboenehajoaahaaForgetAbortedF1
import Derived.Test.YtboenehajoaahaaAmY
namespace Go.Proofs.Ytboenehajoaahaa.Am
open Go
variable {E : Env}
set_option linter.unusedVariables false
theorem Qlm (h : G_f71 E) (x : Write) : E 30 [x.u] = some x.u := by
  rw [f71_E h]
  simp [Write.u]
theorem Qlo (h : G_f72 E) (l : List Write) (hl : l.length ≤ 1048576) : ∀ (r p : List Write) (i : Int) (c : List U), l = p ++ r → i = p.length → c.length = r.length → (∀ z ∈ c, z.size = 2) →
    f72_l0 E (.sl 2 (l.map Write.u)) (.int .i64 i) (p.map Write.u ++ c) = some (.sl 2 (l.map Write.u))
  | [], p, i, c, e, hi, hc, _ => by
    obtain rfl : c = [] := List.length_eq_zero_iff.1 hc
    rw [Qln]
    simp [Qk e hi]
    simp [e]
  | x :: r, p, i, [], e, hi, hc, _ => by cases hc
  | x :: r, p, i, z :: c, e, hi, hc, hz => by
    obtain ⟨h0, hlt, hx, hw, hn, _⟩ := Qh e hi (by omega)
    have hzs : z.size = 2 := hz z (by simp)
    obtain ⟨hg, hs, hlen⟩ := Qw Write.u p z c hi
    have ih := Qlo h l hl r (p ++ [x]) (i + 1) c (Qg e) hn (by simpa using hc) (fun y hy => hz y (by simp [hy]))
    simp only [List.map_append, List.map_cons, List.map_nil, List.append_assoc, List.cons_append, List.nil_append] at ih
    rw [Qln]
    simp only [hg, hs, hx, hw, Qp, Qm, Qn, List.length_map, Option.bind_some, Qj, hlt, decide_true, if_true, h0, hlen, and_self, Qo, Qlm h.c_f71 x, hzs, Write.u_var, Write.u_size, Write.u_storable, Write.u_partable]
    simpa using ih
theorem Qub (h : G_f72 E) (l : List Write) (hl : l.length ≤ 1048576) : E 27 [.sl 2 (l.map Write.u)] = some (.sl 2 (l.map Write.u)) := by
  have h1 := Qlo h l hl l [] 0 (List.replicate l.length (.agg [.int .i64 0, .int .i64 0])) rfl rfl (by simp) (by simp)
  rw [f72_E h]
  simp only [Qn, Option.bind_some, List.length_map]
  rw [if_pos (by refine ⟨by omega, by omega, by omega, rfl⟩)]
  simpa using h1
theorem Qjq (h : G_f21 E) (x y : Write) : E 36 [x.u, y.u] = some (.bool (decide (x = y))) := by
  rw [f21_E h]
  obtain ⟨a0, a1⟩ := x
  obtain ⟨b0, b1⟩ := y
  simp only [Write.mk.injEq]
  by_cases h0 : a0 = b0
  case neg => simp [h0]
  subst h0
  by_cases h1 : a1 = b1
  case neg => simp [h1]
  subst h1
  simp []
theorem Qjs (h : G_f22 E) (a b : List Write) (ha : a.length ≤ 1048576) (hb : b.length ≤ 1048576) : ∀ (r s p p2 : List Write) (i : Int), a = p ++ r → b = p2 ++ s → i = p.length → i = p2.length → r.length = s.length →
    f22_l0 E (.sl 2 (a.map Write.u)) (.sl 2 (b.map Write.u)) (.int .i64 i) = some (.bool (decide (r = s)))
  | [], [], p, p2, i, e, e2, hi, hi2, _ => by
    rw [Qjr]
    simp [Qk e hi]
  | [], y :: s, _, _, _, _, _, _, _, hl => by cases hl
  | x :: r, [], _, _, _, _, _, _, _, hl => by cases hl
  | x :: r, y :: s, p, p2, i, e, e2, hi, hi2, hl => by
    obtain ⟨h0, hlt, hx, hw, hn, _⟩ := Qh e hi (by omega)
    obtain ⟨_, _, hy, _, hn2, _⟩ := Qh e2 hi2 (by omega)
    have ih := Qjs h a b ha hb r s (p ++ [x]) (p2 ++ [y]) (i + 1) (Qg e) (Qg e2) hn hn2 (by simpa using hl)
    rw [Qjr]
    by_cases hxy : x = y
    · subst hxy
      simp [hlt, hx, hy, hw, ih, Qjq h.c_f21]
    · simp [hlt, hx, hy, hw, ih, Qjq h.c_f21, hxy]
theorem Qa3 (h : G_f22 E) (a b : List Write) (ha : a.length ≤ 1048576) (hb : b.length ≤ 1048576) : E 33 [.sl 2 (a.map Write.u), .sl 2 (b.map Write.u)] = some (.bool (decide (a = b))) := by
  rw [f22_E h]
  by_cases hl : a.length = b.length
  · simp [hl, Qjs h a b ha hb a b [] [] 0 rfl rfl rfl rfl hl]
  · have h1 : a ≠ b := fun e => hl (by rw [e])
    have h2 : (a.length : Int) ≠ b.length := by omega
    simp [h1, h2]
theorem Qs1 (h : G_f48 E) (l : List Write) (hl : l.length ≤ maxLen) (left : Int) (h0 : 0 ≤ left) (h1 : left ≤ 1048576) : E 23 [.sl 2 (l.map Write.u), .int .i64 left] = some (.int .i64 (szc l.length left)) := by
  rw [f48_E h]
  unfold maxLen at hl
  have hw : IntKind.i64.wrap (left - (l.length : Int)) = left - l.length := Qc (by omega)
  by_cases h2 : left - (l.length : Int) < 0 <;> simp [hw, szc, h2]
theorem Qkl (h : G_f43 E) (x : Transaction) (hf : x.fit) (left : Int) (h0 : 0 ≤ left) (h1 : left ≤ 1048576) : E 132 [x.u, .int .i64 left] = some (.int .i64 (x.sz left)) := by
  rw [f43_E h]
  obtain ⟨hf1, hf2⟩ := hf
  have a1 := Qso h.c_f41 x.reads hf1 left h0 h1
  rcases Qco x.reads.length left h0 h1 with h2 | ⟨_, h3, h4⟩
  · simp [a1, Transaction.sz, h2]
  · have h5 : ¬ szc x.reads.length left < 0 := by omega
    have a2 := Qs1 h.c_f48 x.writes hf2 _ h3 (by omega)
    by_cases h6 : szc x.writes.length (szc x.reads.length left) < 0
    · have h7 : szc x.writes.length (szc x.reads.length left) = -1 := Qhn h6
      simp [a1, a2, Transaction.sz, h5, h7]
    · simp [a1, a2, Transaction.sz, h5, h6]
theorem Qtn (h : G_f59 E) (x : Transaction) (ho : x.ok) : E 145 [x.u] = some x.u := by
  rw [f59_E h]
  simp [Transaction.u, Qtf h.c_f55 x.reads ho.1, Qub h.c_f72 x.writes ho.2]
theorem Qje (h : G_f14 E) (x y : Transaction) (hx : x.ok) (hy : y.ok) : E 177 [x.u, y.u] = some (.bool (decide (x = y))) := by
  rw [f14_E h]
  obtain ⟨a0, a1, a2, a3, a4, a5, a6, a7, a8⟩ := x
  obtain ⟨b0, b1, b2, b3, b4, b5, b6, b7, b8⟩ := y
  simp only [Transaction.mk.injEq]
  by_cases h0 : a0 = b0
  case neg => simp [Qa2 h.c_f12 a7 b7 hx.1 hy.1, Qa3 h.c_f22 a8 b8 hx.2 hy.2, h0]
  subst h0
  by_cases h1 : a1 = b1
  case neg => simp [Qa2 h.c_f12 a7 b7 hx.1 hy.1, Qa3 h.c_f22 a8 b8 hx.2 hy.2, h1]
  subst h1
  by_cases h2 : a2 = b2
  case neg => simp [Qa2 h.c_f12 a7 b7 hx.1 hy.1, Qa3 h.c_f22 a8 b8 hx.2 hy.2, h2]
  subst h2
  by_cases h3 : a3 = b3
  case neg => simp [Qa2 h.c_f12 a7 b7 hx.1 hy.1, Qa3 h.c_f22 a8 b8 hx.2 hy.2, h3]
  subst h3
  by_cases h4 : a4 = b4
  case neg => simp [Qa2 h.c_f12 a7 b7 hx.1 hy.1, Qa3 h.c_f22 a8 b8 hx.2 hy.2, h4]
  subst h4
  by_cases h5 : a5 = b5
  case neg => simp [Qa2 h.c_f12 a7 b7 hx.1 hy.1, Qa3 h.c_f22 a8 b8 hx.2 hy.2, h5]
  subst h5
  by_cases h6 : a6 = b6
  case neg => simp [Qa2 h.c_f12 a7 b7 hx.1 hy.1, Qa3 h.c_f22 a8 b8 hx.2 hy.2, h6]
  subst h6
  by_cases h7 : a7 = b7
  case neg => simp [Qa2 h.c_f12 a7 b7 hx.1 hy.1, Qa3 h.c_f22 a8 b8 hx.2 hy.2, h7]
  subst h7
  by_cases h8 : a8 = b8
  case neg => simp [Qa2 h.c_f12 a7 a7 hx.1 hy.1, Qa3 h.c_f22 a8 b8 hx.2 hy.2, h8]
  subst h8
  simp [Qa2 h.c_f12 a7 a7 hx.1 hy.1, Qa3 h.c_f22 a8 a8 hx.2 hy.2]
def upReadMark : Int → Nat → List ReadMark
  | _, 0 => []
  | k, n + 1 => ⟨k, k + 1⟩ :: upReadMark (k + 2) n
theorem Qpg : ∀ (n : Nat) (k : Int), (upReadMark k n).length = n
  | 0, _ => rfl
  | n + 1, k => by simp [upReadMark, Qpg n]
theorem Ql6 (l : List ReadMark) : U.flat.flats (l.map ReadMark.u) = true := Qaj _ (fun _ => rfl) l
theorem Qka (h : G_f33 E) : ∀ (r p : List ReadMark) (k i : Int), i = p.length → p.length + r.length ≤ 1048576 → 0 ≤ k → k + 2 * r.length ≤ 1099511627776 →
    f33_l0 E (.int .i64 k) (.int .i64 i) (p.map ReadMark.u ++ r.map ReadMark.u) = some (.tup [.int .i64 (k + 2 * r.length), .sl 2 (p.map ReadMark.u ++ (upReadMark k r.length).map ReadMark.u)])
  | [], p, k, i, hi, hb, hk, hk2 => by
    have h1 : ¬ i < ((p.map ReadMark.u ++ ([] : List ReadMark).map ReadMark.u).length : Int) := by simp [hi]
    rw [Qj9]
    simp only [Qm, h1, decide_false, Option.bind_some, Qj, Bool.false_eq_true, if_false]
    rw [← List.map_append]
    simp [upReadMark, Ql6]
  | x :: r, p, k, i, hi, hb, hk, hk2 => by
    simp only [List.length_cons] at hb hk2
    have hm := fun z => Qw ReadMark.u p z (r.map ReadMark.u) hi
    have hg := fun z => (hm z).1
    have hs := fun z => (hm z).2.1
    have hlen := fun z => (hm z).2.2
    have h0 : 0 ≤ i := by omega
    have hw0 : IntKind.i64.wrap (k + 1) = k + 1 := by rw [Qc (by omega)]
    have hw1 : IntKind.i64.wrap (k + 1 + 1) = k + 2 := by rw [Qc (by omega)]; omega
    have hwi : IntKind.i64.wrap (i + 1) = i + 1 := Qc (by omega)
    have ih := Qka h r (p ++ [⟨k, k + 1⟩]) (k + 2) (i + 1) (by simp [hi]) (by simp; omega) (by omega) (by omega)
    simp only [List.map_append, List.map_cons, List.map_nil, List.append_assoc, List.cons_append, List.nil_append] at ih
    rw [Qj9]
    simp only [List.map_cons, Qm, hlen, decide_true, Option.bind_some, Qj, if_true, Qp, h0, and_self, Qde, Qcm, Qcb, hg, hs, ReadMark.u_agg, Qb5, List.take_zero, List.take_succ_cons, Qaq, Qcn, Nat.add_zero, Nat.zero_add, List.getElem?_cons_zero, List.getElem?_cons_succ, List.set_cons_zero, List.set_cons_succ, Qo, hw0, hw1, hwi, Nat.reduceAdd]
    have e : k + 2 + 2 * (r.length : Int) = k + 2 * ((r.length + 1 : Nat) : Int) := by omega
    rw [e] at ih
    simpa [upReadMark, ReadMark.u] using ih
theorem Qr7 (h : G_f33 E) (l : List ReadMark) (hl : l.length ≤ 1048576) (k : Int) (hk : 0 ≤ k) (hk2 : k ≤ 1073741824) :
    E 200095 (.agg [.tup [.sl 2 (l.map ReadMark.u)]] :: [.int .i64 k]) = some (.tup [.int .i64 (k + 2 * l.length), .sl 2 ((upReadMark k l.length).map ReadMark.u)]) := by
  rw [f33_E h]
  exact Qka h l [] k 0 rfl (by simpa using hl) hk (by omega)
theorem Qjw (h : G_f25 E) (l : List ReadMark) (hl : l.length ≤ 1048576) : ∀ (n : Nat) (p : List ReadMark) (k i : Int), l = p ++ upReadMark k n → i = p.length → 0 ≤ k → k + 2 * n ≤ 1099511627776 →
    f25_l0 E (.sl 2 (l.map ReadMark.u)) (.int .i64 k) (.int .i64 i) = some (.int .i64 (k + 2 * n))
  | 0, p, k, i, e, hi, hk, hk2 => by
    rw [Qjv]
    simp [Qk e hi]
  | n + 1, p, k, i, e0, hi, hk, hk2 => by
    have e : l = p ++ (⟨k, k + 1⟩ : ReadMark) :: upReadMark (k + 2) n := e0
    obtain ⟨h0, hlt, hx, hw, hn, _⟩ := Qh e hi (by omega)
    have hw0 : IntKind.i64.wrap (k + 1) = k + 1 := by rw [Qc (by omega)]
    have hw1 : IntKind.i64.wrap (k + 1 + 1) = k + 2 := by rw [Qc (by omega)]; omega
    have ih := Qjw h l hl n (p ++ [⟨k, k + 1⟩]) (k + 2) (i + 1) (Qg e) hn (by omega) (by omega)
    have e2 : k + 2 + 2 * (n : Int) = k + 2 * ((n + 1 : Nat) : Int) := by omega
    rw [e2] at ih
    rw [Qjv]
    simp only [Qn, List.length_map, Option.bind_some, Qm, hlt, decide_true, Qj, if_true, Qp, hx, ReadMark.u_at0, ReadMark.u_at1, Qb6, Qcv, ne_eq, not_true_eq_false, decide_false, Bool.false_eq_true, if_false, Qo, hw, hw0, hw1]
    exact ih
theorem Qrq (h : G_f25 E) (n : Nat) (hn : n ≤ 1048576) (k : Int) (hk : 0 ≤ k) (hk2 : k ≤ 16777216) : E 92 [.sl 2 ((upReadMark k n).map ReadMark.u), .int .i64 k] = some (.int .i64 (k + 2 * n)) := by
  rw [f25_E h]
  exact Qjw h _ (by rw [Qpg]; exact hn) n [] k 0 rfl rfl hk (by omega)
def upWrite : Int → Nat → List Write
  | _, 0 => []
  | k, n + 1 => ⟨k, k + 1⟩ :: upWrite (k + 2) n
theorem Qpk : ∀ (n : Nat) (k : Int), (upWrite k n).length = n
  | 0, _ => rfl
  | n + 1, k => by simp [upWrite, Qpk n]
theorem Ql9 (l : List Write) : U.flat.flats (l.map Write.u) = true := Qaj _ (fun _ => rfl) l
theorem Qkk (h : G_f38 E) : ∀ (r p : List Write) (k i : Int), i = p.length → p.length + r.length ≤ 1048576 → 0 ≤ k → k + 2 * r.length ≤ 1099511627776 →
    f38_l0 E (.int .i64 k) (.int .i64 i) (p.map Write.u ++ r.map Write.u) = some (.tup [.int .i64 (k + 2 * r.length), .sl 2 (p.map Write.u ++ (upWrite k r.length).map Write.u)])
  | [], p, k, i, hi, hb, hk, hk2 => by
    have h1 : ¬ i < ((p.map Write.u ++ ([] : List Write).map Write.u).length : Int) := by simp [hi]
    rw [Qkj]
    simp only [Qm, h1, decide_false, Option.bind_some, Qj, Bool.false_eq_true, if_false]
    rw [← List.map_append]
    simp [upWrite, Ql9]
  | x :: r, p, k, i, hi, hb, hk, hk2 => by
    simp only [List.length_cons] at hb hk2
    have hm := fun z => Qw Write.u p z (r.map Write.u) hi
    have hg := fun z => (hm z).1
    have hs := fun z => (hm z).2.1
    have hlen := fun z => (hm z).2.2
    have h0 : 0 ≤ i := by omega
    have hw0 : IntKind.i64.wrap (k + 1) = k + 1 := by rw [Qc (by omega)]
    have hw1 : IntKind.i64.wrap (k + 1 + 1) = k + 2 := by rw [Qc (by omega)]; omega
    have hwi : IntKind.i64.wrap (i + 1) = i + 1 := Qc (by omega)
    have ih := Qkk h r (p ++ [⟨k, k + 1⟩]) (k + 2) (i + 1) (by simp [hi]) (by simp; omega) (by omega) (by omega)
    simp only [List.map_append, List.map_cons, List.map_nil, List.append_assoc, List.cons_append, List.nil_append] at ih
    rw [Qkj]
    simp only [List.map_cons, Qm, hlen, decide_true, Option.bind_some, Qj, if_true, Qp, h0, and_self, Qde, Qcm, Qcb, hg, hs, Write.u_agg, Qb5, List.take_zero, List.take_succ_cons, Qaq, Qcn, Nat.add_zero, Nat.zero_add, List.getElem?_cons_zero, List.getElem?_cons_succ, List.set_cons_zero, List.set_cons_succ, Qo, hw0, hw1, hwi, Nat.reduceAdd]
    have e : k + 2 + 2 * (r.length : Int) = k + 2 * ((r.length + 1 : Nat) : Int) := by omega
    rw [e] at ih
    simpa [upWrite, Write.u] using ih
theorem Qsh (h : G_f38 E) (l : List Write) (hl : l.length ≤ 1048576) (k : Int) (hk : 0 ≤ k) (hk2 : k ≤ 1073741824) :
    E 200232 (.agg [.tup [.sl 2 (l.map Write.u)]] :: [.int .i64 k]) = some (.tup [.int .i64 (k + 2 * l.length), .sl 2 ((upWrite k l.length).map Write.u)]) := by
  rw [f38_E h]
  exact Qkk h l [] k 0 rfl (by simpa using hl) hk (by omega)
def trxInts : List Transaction → Int
  | [] => 0
  | x :: r => 7 + 2 * x.reads.length + 2 * x.writes.length + trxInts r
theorem Qd3 : ∀ l, 0 ≤ trxInts l
  | [] => by simp [trxInts]
  | x :: r => by have := Qd3 r; simp only [trxInts]; omega
theorem Qpc : ∀ (r : List Transaction) (left : Int), 0 ≤ left → 0 ≤ szl Transaction.sz r left → trxInts r ≤ 7 * r.length + 2 * left
  | [], left, h0, h => by simp [trxInts]; omega
  | x :: r, left, h0, h => by
    simp only [szl] at h
    by_cases h1 : Transaction.sz x left < 0
    · rw [if_pos h1] at h; omega
    · rw [if_neg h1] at h
      have h2 := Qpc r (Transaction.sz x left) (by omega) h
      simp only [Transaction.sz, szc] at h1 h2
      simp only [trxInts, List.length_cons]
      split at h2
      · omega
      · split at h2
        · omega
        · omega
theorem Qaag (l : List Transaction) (left : Int) (h0 : 0 ≤ left) (h1 : left ≤ 1048576) (h : 0 ≤ szL Transaction.sz l left) : trxInts l ≤ 9437184 := by
  simp only [szL] at h
  split at h
  · omega
  · have := Qpc l _ (by omega) h
    omega
def upLock : Int → Nat → List Lock
  | _, 0 => []
  | k, n + 1 => ⟨k, k + 1⟩ :: upLock (k + 2) n
theorem Qpf : ∀ (n : Nat) (k : Int), (upLock k n).length = n
  | 0, _ => rfl
  | n + 1, k => by simp [upLock, Qpf n]
theorem Ql5 (l : List Lock) : U.flat.flats (l.map Lock.u) = true := Qaj _ (fun _ => rfl) l
theorem Qj8 (h : G_f32 E) : ∀ (r p : List Lock) (k i : Int), i = p.length → p.length + r.length ≤ 1048576 → 0 ≤ k → k + 2 * r.length ≤ 1099511627776 →
    f32_l0 E (.int .i64 k) (.int .i64 i) (p.map Lock.u ++ r.map Lock.u) = some (.tup [.int .i64 (k + 2 * r.length), .sl 2 (p.map Lock.u ++ (upLock k r.length).map Lock.u)])
  | [], p, k, i, hi, hb, hk, hk2 => by
    have h1 : ¬ i < ((p.map Lock.u ++ ([] : List Lock).map Lock.u).length : Int) := by simp [hi]
    rw [Qj7]
    simp only [Qm, h1, decide_false, Option.bind_some, Qj, Bool.false_eq_true, if_false]
    rw [← List.map_append]
    simp [upLock, Ql5]
  | x :: r, p, k, i, hi, hb, hk, hk2 => by
    simp only [List.length_cons] at hb hk2
    have hm := fun z => Qw Lock.u p z (r.map Lock.u) hi
    have hg := fun z => (hm z).1
    have hs := fun z => (hm z).2.1
    have hlen := fun z => (hm z).2.2
    have h0 : 0 ≤ i := by omega
    have hw0 : IntKind.i64.wrap (k + 1) = k + 1 := by rw [Qc (by omega)]
    have hw1 : IntKind.i64.wrap (k + 1 + 1) = k + 2 := by rw [Qc (by omega)]; omega
    have hwi : IntKind.i64.wrap (i + 1) = i + 1 := Qc (by omega)
    have ih := Qj8 h r (p ++ [⟨k, k + 1⟩]) (k + 2) (i + 1) (by simp [hi]) (by simp; omega) (by omega) (by omega)
    simp only [List.map_append, List.map_cons, List.map_nil, List.append_assoc, List.cons_append, List.nil_append] at ih
    rw [Qj7]
    simp only [List.map_cons, Qm, hlen, decide_true, Option.bind_some, Qj, if_true, Qp, h0, and_self, Qde, Qcm, Qcb, hg, hs, Lock.u_agg, Qb5, List.take_zero, List.take_succ_cons, Qaq, Qcn, Nat.add_zero, Nat.zero_add, List.getElem?_cons_zero, List.getElem?_cons_succ, List.set_cons_zero, List.set_cons_succ, Qo, hw0, hw1, hwi, Nat.reduceAdd]
    have e : k + 2 + 2 * (r.length : Int) = k + 2 * ((r.length + 1 : Nat) : Int) := by omega
    rw [e] at ih
    simpa [upLock, Lock.u] using ih
theorem Qr5 (h : G_f32 E) (l : List Lock) (hl : l.length ≤ 1048576) (k : Int) (hk : 0 ≤ k) (hk2 : k ≤ 1073741824) :
    E 200317 (.agg [.tup [.sl 2 (l.map Lock.u)]] :: [.int .i64 k]) = some (.tup [.int .i64 (k + 2 * l.length), .sl 2 ((upLock k l.length).map Lock.u)]) := by
  rw [f32_E h]
  exact Qj8 h l [] k 0 rfl (by simpa using hl) hk (by omega)
def upWait : Int → Nat → List Wait
  | _, 0 => []
  | k, n + 1 => ⟨k, k + 1⟩ :: upWait (k + 2) n
theorem Qpj : ∀ (n : Nat) (k : Int), (upWait k n).length = n
  | 0, _ => rfl
  | n + 1, k => by simp [upWait, Qpj n]
theorem Ql8 (l : List Wait) : U.flat.flats (l.map Wait.u) = true := Qaj _ (fun _ => rfl) l
theorem Qki (h : G_f37 E) : ∀ (r p : List Wait) (k i : Int), i = p.length → p.length + r.length ≤ 1048576 → 0 ≤ k → k + 2 * r.length ≤ 1099511627776 →
    f37_l0 E (.int .i64 k) (.int .i64 i) (p.map Wait.u ++ r.map Wait.u) = some (.tup [.int .i64 (k + 2 * r.length), .sl 2 (p.map Wait.u ++ (upWait k r.length).map Wait.u)])
  | [], p, k, i, hi, hb, hk, hk2 => by
    have h1 : ¬ i < ((p.map Wait.u ++ ([] : List Wait).map Wait.u).length : Int) := by simp [hi]
    rw [Qkh]
    simp only [Qm, h1, decide_false, Option.bind_some, Qj, Bool.false_eq_true, if_false]
    rw [← List.map_append]
    simp [upWait, Ql8]
  | x :: r, p, k, i, hi, hb, hk, hk2 => by
    simp only [List.length_cons] at hb hk2
    have hm := fun z => Qw Wait.u p z (r.map Wait.u) hi
    have hg := fun z => (hm z).1
    have hs := fun z => (hm z).2.1
    have hlen := fun z => (hm z).2.2
    have h0 : 0 ≤ i := by omega
    have hw0 : IntKind.i64.wrap (k + 1) = k + 1 := by rw [Qc (by omega)]
    have hw1 : IntKind.i64.wrap (k + 1 + 1) = k + 2 := by rw [Qc (by omega)]; omega
    have hwi : IntKind.i64.wrap (i + 1) = i + 1 := Qc (by omega)
    have ih := Qki h r (p ++ [⟨k, k + 1⟩]) (k + 2) (i + 1) (by simp [hi]) (by simp; omega) (by omega) (by omega)
    simp only [List.map_append, List.map_cons, List.map_nil, List.append_assoc, List.cons_append, List.nil_append] at ih
    rw [Qkh]
    simp only [List.map_cons, Qm, hlen, decide_true, Option.bind_some, Qj, if_true, Qp, h0, and_self, Qde, Qcm, Qcb, hg, hs, Wait.u_agg, Qb5, List.take_zero, List.take_succ_cons, Qaq, Qcn, Nat.add_zero, Nat.zero_add, List.getElem?_cons_zero, List.getElem?_cons_succ, List.set_cons_zero, List.set_cons_succ, Qo, hw0, hw1, hwi, Nat.reduceAdd]
    have e : k + 2 + 2 * (r.length : Int) = k + 2 * ((r.length + 1 : Nat) : Int) := by omega
    rw [e] at ih
    simpa [upWait, Wait.u] using ih
theorem Qsf (h : G_f37 E) (l : List Wait) (hl : l.length ≤ 1048576) (k : Int) (hk : 0 ≤ k) (hk2 : k ≤ 1073741824) :
    E 200316 (.agg [.tup [.sl 2 (l.map Wait.u)]] :: [.int .i64 k]) = some (.tup [.int .i64 (k + 2 * l.length), .sl 2 ((upWait k l.length).map Wait.u)]) := by
  rw [f37_E h]
  exact Qki h l [] k 0 rfl (by simpa using hl) hk (by omega)
theorem Qk4 (h : G_f60 E) (l : List Transaction) (hl : l.length ≤ 1048576) (hok : ∀ x ∈ l, Transaction.ok x) : ∀ (r p : List Transaction) (i : Int) (c : List U), l = p ++ r → i = p.length → c.length = r.length → (∀ z ∈ c, z.size = 9) →
    f60_l0 E (.sl 9 (l.map Transaction.u)) (.int .i64 i) (p.map Transaction.u ++ c) = some (.sl 9 (l.map Transaction.u))
  | [], p, i, c, e, hi, hc, _ => by
    obtain rfl : c = [] := List.length_eq_zero_iff.1 hc
    rw [Qk3]
    simp [Qk e hi]
    simp [e]
  | x :: r, p, i, [], e, hi, hc, _ => by cases hc
  | x :: r, p, i, z :: c, e, hi, hc, hz => by
    obtain ⟨h0, hlt, hx, hw, hn, _⟩ := Qh e hi (by omega)
    have hox : Transaction.ok x := hok x (by rw [e]; simp)
    have hzs : z.size = 9 := hz z (by simp)
    obtain ⟨hg, hs, hlen⟩ := Qw Transaction.u p z c hi
    have ih := Qk4 h l hl hok r (p ++ [x]) (i + 1) c (Qg e) hn (by simpa using hc) (fun y hy => hz y (by simp [hy]))
    simp only [List.map_append, List.map_cons, List.map_nil, List.append_assoc, List.cons_append, List.nil_append] at ih
    rw [Qk3]
    simp only [hg, hs, hx, hw, Qp, Qm, Qn, List.length_map, Option.bind_some, Qj, hlt, decide_true, if_true, h0, hlen, and_self, Qo, Qtn h.c_f59 x hox, hzs, Transaction.u_var, Transaction.u_size, Transaction.u_storable, Transaction.u_partable]
    simpa using ih
theorem Qtp (h : G_f60 E) (l : List Transaction) (hl : l.length ≤ 1048576) (hok : ∀ x ∈ l, Transaction.ok x) : E 144 [.sl 9 (l.map Transaction.u)] = some (.sl 9 (l.map Transaction.u)) := by
  have h1 := Qk4 h l hl hok l [] 0 (List.replicate l.length (.agg [.int .i64 0, .int .i64 0, .int .i64 0, .int .i64 0, .int .i64 0, .int .i64 0, .int .i64 0, .nsl 2, .nsl 2])) rfl rfl (by simp) (by simp)
  rw [f60_E h]
  simp only [Qn, Option.bind_some, List.length_map]
  rw [if_pos (by refine ⟨by omega, by omega, by omega, rfl⟩)]
  simpa using h1
theorem Qjg (h : G_f15 E) (a b : List Transaction) (ha : a.length ≤ 1048576) (hb : b.length ≤ 1048576) (hao : ∀ x ∈ a, Transaction.ok x) (hbo : ∀ x ∈ b, Transaction.ok x) : ∀ (r s p p2 : List Transaction) (i : Int), a = p ++ r → b = p2 ++ s → i = p.length → i = p2.length → r.length = s.length →
    f15_l0 E (.sl 9 (a.map Transaction.u)) (.sl 9 (b.map Transaction.u)) (.int .i64 i) = some (.bool (decide (r = s)))
  | [], [], p, p2, i, e, e2, hi, hi2, _ => by
    rw [Qjf]
    simp [Qk e hi]
  | [], y :: s, _, _, _, _, _, _, _, hl => by cases hl
  | x :: r, [], _, _, _, _, _, _, _, hl => by cases hl
  | x :: r, y :: s, p, p2, i, e, e2, hi, hi2, hl => by
    obtain ⟨h0, hlt, hx, hw, hn, _⟩ := Qh e hi (by omega)
    obtain ⟨_, _, hy, _, hn2, _⟩ := Qh e2 hi2 (by omega)
    have hox : Transaction.ok x := hao x (by rw [e]; simp)
    have hoy : Transaction.ok y := hbo y (by rw [e2]; simp)
    have ih := Qjg h a b ha hb hao hbo r s (p ++ [x]) (p2 ++ [y]) (i + 1) (Qg e) (Qg e2) hn hn2 (by simpa using hl)
    rw [Qjf]
    by_cases hxy : x = y
    · subst hxy
      simp [hlt, hx, hy, hw, ih, Qje h.c_f14 _ _ hox hoy]
    · simp [hlt, hx, hy, hw, ih, Qje h.c_f14 _ _ hox hoy, hxy]
theorem Qq9 (h : G_f15 E) (a b : List Transaction) (ha : a.length ≤ 1048576) (hb : b.length ≤ 1048576) (hao : ∀ x ∈ a, Transaction.ok x) (hbo : ∀ x ∈ b, Transaction.ok x) : E 176 [.sl 9 (a.map Transaction.u), .sl 9 (b.map Transaction.u)] = some (.bool (decide (a = b))) := by
  rw [f15_E h]
  by_cases hl : a.length = b.length
  · simp [hl, Qjg h a b ha hb hao hbo a b [] [] 0 rfl rfl rfl rfl hl]
  · have h1 : a ≠ b := fun e => hl (by rw [e])
    have h2 : (a.length : Int) ≠ b.length := by omega
    simp [h1, h2]
theorem Qkn (h : G_f44 E) (l : List Transaction) (hl : l.length ≤ 1048576) (hf : ∀ x ∈ l, Transaction.fit x) : ∀ (r p : List Transaction) (i left : Int), l = p ++ r → i = p.length → 0 ≤ left → left ≤ 1048576 →
    f44_l0 E (.sl 9 (l.map Transaction.u)) (.int .i64 left) (.int .i64 i) = some (.int .i64 (szl Transaction.sz r left))
  | [], p, i, left, e, hi, _, _ => by
    rw [Qkm]
    simp [Qk e hi, szl]
  | x :: r, p, i, left, e, hi, h1, h2 => by
    obtain ⟨h0, hlt, hx, hw, hn, _⟩ := Qh e hi (by omega)
    have hfx : Transaction.fit x := hf x (by rw [e]; simp)
    rw [Qkm]
    rcases Transaction.sz_szs x left h1 h2 with h3 | ⟨_, h3, h4⟩
    · simp [hlt, hx, hw, szl, Qkl h.c_f43 x hfx left h1 h2, h3]
    · have ih := Qkn h l hl hf r (p ++ [x]) (i + 1) (Transaction.sz x left) (Qg e) hn h3 (by omega)
      have h5 : ¬ Transaction.sz x left < 0 := by omega
      simp [hlt, hx, hw, szl, Qkl h.c_f43 x hfx left h1 h2, h5, ih]
theorem Qst (h : G_f44 E) (l : List Transaction) (hl : l.length ≤ maxLen) (hf : ∀ x ∈ l, Transaction.fit x) (left : Int) (h0 : 0 ≤ left) (h1 : left ≤ 1048576) : E 131 [.sl 9 (l.map Transaction.u), .int .i64 left] = some (.int .i64 (szL Transaction.sz l left)) := by
  rw [f44_E h]
  unfold maxLen at hl
  have hw : IntKind.i64.wrap (left - (l.length : Int)) = left - l.length := Qc (by omega)
  by_cases h2 : left - (l.length : Int) < 0
  · simp [hw, szL, h2]
  · simp [hw, szL, h2, Qkn h l (by omega) hf l [] 0 (left - l.length) rfl rfl (by omega) (by omega)]
theorem Qkt (h : G_f51 E) (x : Lock) : E 146 [x.u] = some x.u := by
  rw [f51_E h]
  simp [Lock.u]
theorem Qkv (h : G_f52 E) (l : List Lock) (hl : l.length ≤ 1048576) : ∀ (r p : List Lock) (i : Int) (c : List U), l = p ++ r → i = p.length → c.length = r.length → (∀ z ∈ c, z.size = 2) →
    f52_l0 E (.sl 2 (l.map Lock.u)) (.int .i64 i) (p.map Lock.u ++ c) = some (.sl 2 (l.map Lock.u))
  | [], p, i, c, e, hi, hc, _ => by
    obtain rfl : c = [] := List.length_eq_zero_iff.1 hc
    rw [Qku]
    simp [Qk e hi]
    simp [e]
  | x :: r, p, i, [], e, hi, hc, _ => by cases hc
  | x :: r, p, i, z :: c, e, hi, hc, hz => by
    obtain ⟨h0, hlt, hx, hw, hn, _⟩ := Qh e hi (by omega)
    have hzs : z.size = 2 := hz z (by simp)
    obtain ⟨hg, hs, hlen⟩ := Qw Lock.u p z c hi
    have ih := Qkv h l hl r (p ++ [x]) (i + 1) c (Qg e) hn (by simpa using hc) (fun y hy => hz y (by simp [hy]))
    simp only [List.map_append, List.map_cons, List.map_nil, List.append_assoc, List.cons_append, List.nil_append] at ih
    rw [Qku]
    simp only [hg, hs, hx, hw, Qp, Qm, Qn, List.length_map, Option.bind_some, Qj, hlt, decide_true, if_true, h0, hlen, and_self, Qo, Qkt h.c_f51 x, hzs, Lock.u_var, Lock.u_size, Lock.u_storable, Lock.u_partable]
    simpa using ih
theorem Qta (h : G_f52 E) (l : List Lock) (hl : l.length ≤ 1048576) : E 143 [.sl 2 (l.map Lock.u)] = some (.sl 2 (l.map Lock.u)) := by
  have h1 := Qkv h l hl l [] 0 (List.replicate l.length (.agg [.int .i64 0, .int .i64 0])) rfl rfl (by simp) (by simp)
  rw [f52_E h]
  simp only [Qn, Option.bind_some, List.length_map]
  rw [if_pos (by refine ⟨by omega, by omega, by omega, rfl⟩)]
  simpa using h1
theorem f9_is (h : G_f9 E) (x y : Lock) : E 178 [x.u, y.u] = some (.bool (decide (x = y))) := by
  rw [f9_E h]
  obtain ⟨a0, a1⟩ := x
  obtain ⟨b0, b1⟩ := y
  simp only [Lock.mk.injEq]
  by_cases h0 : a0 = b0
  case neg => simp [h0]
  subst h0
  by_cases h1 : a1 = b1
  case neg => simp [h1]
  subst h1
  simp []
theorem Qja (h : G_f10 E) (a b : List Lock) (ha : a.length ≤ 1048576) (hb : b.length ≤ 1048576) : ∀ (r s p p2 : List Lock) (i : Int), a = p ++ r → b = p2 ++ s → i = p.length → i = p2.length → r.length = s.length →
    f10_l0 E (.sl 2 (a.map Lock.u)) (.sl 2 (b.map Lock.u)) (.int .i64 i) = some (.bool (decide (r = s)))
  | [], [], p, p2, i, e, e2, hi, hi2, _ => by
    rw [Qi9]
    simp [Qk e hi]
  | [], y :: s, _, _, _, _, _, _, _, hl => by cases hl
  | x :: r, [], _, _, _, _, _, _, _, hl => by cases hl
  | x :: r, y :: s, p, p2, i, e, e2, hi, hi2, hl => by
    obtain ⟨h0, hlt, hx, hw, hn, _⟩ := Qh e hi (by omega)
    obtain ⟨_, _, hy, _, hn2, _⟩ := Qh e2 hi2 (by omega)
    have ih := Qja h a b ha hb r s (p ++ [x]) (p2 ++ [y]) (i + 1) (Qg e) (Qg e2) hn hn2 (by simpa using hl)
    rw [Qi9]
    by_cases hxy : x = y
    · subst hxy
      simp [hlt, hx, hy, hw, ih, f9_is h.c_f9]
    · simp [hlt, hx, hy, hw, ih, f9_is h.c_f9, hxy]
theorem Qq2 (h : G_f10 E) (a b : List Lock) (ha : a.length ≤ 1048576) (hb : b.length ≤ 1048576) : E 175 [.sl 2 (a.map Lock.u), .sl 2 (b.map Lock.u)] = some (.bool (decide (a = b))) := by
  rw [f10_E h]
  by_cases hl : a.length = b.length
  · simp [hl, Qja h a b ha hb a b [] [] 0 rfl rfl rfl rfl hl]
  · have h1 : a ≠ b := fun e => hl (by rw [e])
    have h2 : (a.length : Int) ≠ b.length := by omega
    simp [h1, h2]
theorem Qsm (h : G_f40 E) (l : List Lock) (hl : l.length ≤ maxLen) (left : Int) (h0 : 0 ≤ left) (h1 : left ≤ 1048576) : E 130 [.sl 2 (l.map Lock.u), .int .i64 left] = some (.int .i64 (szc l.length left)) := by
  rw [f40_E h]
  unfold maxLen at hl
  have hw : IntKind.i64.wrap (left - (l.length : Int)) = left - l.length := Qc (by omega)
  by_cases h2 : left - (l.length : Int) < 0 <;> simp [hw, szc, h2]
theorem Qlh (h : G_f68 E) (x : Wait) : E 147 [x.u] = some x.u := by
  rw [f68_E h]
  simp [Wait.u]
theorem Qlj (h : G_f69 E) (l : List Wait) (hl : l.length ≤ 1048576) : ∀ (r p : List Wait) (i : Int) (c : List U), l = p ++ r → i = p.length → c.length = r.length → (∀ z ∈ c, z.size = 2) →
    f69_l0 E (.sl 2 (l.map Wait.u)) (.int .i64 i) (p.map Wait.u ++ c) = some (.sl 2 (l.map Wait.u))
  | [], p, i, c, e, hi, hc, _ => by
    obtain rfl : c = [] := List.length_eq_zero_iff.1 hc
    rw [Qli]
    simp [Qk e hi]
    simp [e]
  | x :: r, p, i, [], e, hi, hc, _ => by cases hc
  | x :: r, p, i, z :: c, e, hi, hc, hz => by
    obtain ⟨h0, hlt, hx, hw, hn, _⟩ := Qh e hi (by omega)
    have hzs : z.size = 2 := hz z (by simp)
    obtain ⟨hg, hs, hlen⟩ := Qw Wait.u p z c hi
    have ih := Qlj h l hl r (p ++ [x]) (i + 1) c (Qg e) hn (by simpa using hc) (fun y hy => hz y (by simp [hy]))
    simp only [List.map_append, List.map_cons, List.map_nil, List.append_assoc, List.cons_append, List.nil_append] at ih
    rw [Qli]
    simp only [hg, hs, hx, hw, Qp, Qm, Qn, List.length_map, Option.bind_some, Qj, hlt, decide_true, if_true, h0, hlen, and_self, Qo, Qlh h.c_f68 x, hzs, Wait.u_var, Wait.u_size, Wait.u_storable, Wait.u_partable]
    simpa using ih
theorem Qt5 (h : G_f69 E) (l : List Wait) (hl : l.length ≤ 1048576) : E 142 [.sl 2 (l.map Wait.u)] = some (.sl 2 (l.map Wait.u)) := by
  have h1 := Qlj h l hl l [] 0 (List.replicate l.length (.agg [.int .i64 0, .int .i64 0])) rfl rfl (by simp) (by simp)
  rw [f69_E h]
  simp only [Qn, Option.bind_some, List.length_map]
  rw [if_pos (by refine ⟨by omega, by omega, by omega, rfl⟩)]
  simpa using h1
theorem Qjn (h : G_f19 E) (x y : Wait) : E 179 [x.u, y.u] = some (.bool (decide (x = y))) := by
  rw [f19_E h]
  obtain ⟨a0, a1⟩ := x
  obtain ⟨b0, b1⟩ := y
  simp only [Wait.mk.injEq]
  by_cases h0 : a0 = b0
  case neg => simp [h0]
  subst h0
  by_cases h1 : a1 = b1
  case neg => simp [h1]
  subst h1
  simp []
theorem Qjp (h : G_f20 E) (a b : List Wait) (ha : a.length ≤ 1048576) (hb : b.length ≤ 1048576) : ∀ (r s p p2 : List Wait) (i : Int), a = p ++ r → b = p2 ++ s → i = p.length → i = p2.length → r.length = s.length →
    f20_l0 E (.sl 2 (a.map Wait.u)) (.sl 2 (b.map Wait.u)) (.int .i64 i) = some (.bool (decide (r = s)))
  | [], [], p, p2, i, e, e2, hi, hi2, _ => by
    rw [Qjo]
    simp [Qk e hi]
  | [], y :: s, _, _, _, _, _, _, _, hl => by cases hl
  | x :: r, [], _, _, _, _, _, _, _, hl => by cases hl
  | x :: r, y :: s, p, p2, i, e, e2, hi, hi2, hl => by
    obtain ⟨h0, hlt, hx, hw, hn, _⟩ := Qh e hi (by omega)
    obtain ⟨_, _, hy, _, hn2, _⟩ := Qh e2 hi2 (by omega)
    have ih := Qjp h a b ha hb r s (p ++ [x]) (p2 ++ [y]) (i + 1) (Qg e) (Qg e2) hn hn2 (by simpa using hl)
    rw [Qjo]
    by_cases hxy : x = y
    · subst hxy
      simp [hlt, hx, hy, hw, ih, Qjn h.c_f19]
    · simp [hlt, hx, hy, hw, ih, Qjn h.c_f19, hxy]
theorem Qri (h : G_f20 E) (a b : List Wait) (ha : a.length ≤ 1048576) (hb : b.length ≤ 1048576) : E 174 [.sl 2 (a.map Wait.u), .sl 2 (b.map Wait.u)] = some (.bool (decide (a = b))) := by
  rw [f20_E h]
  by_cases hl : a.length = b.length
  · simp [hl, Qjp h a b ha hb a b [] [] 0 rfl rfl rfl rfl hl]
  · have h1 : a ≠ b := fun e => hl (by rw [e])
    have h2 : (a.length : Int) ≠ b.length := by omega
    simp [h1, h2]
theorem Qsz (h : G_f47 E) (l : List Wait) (hl : l.length ≤ maxLen) (left : Int) (h0 : 0 ≤ left) (h1 : left ≤ 1048576) : E 129 [.sl 2 (l.map Wait.u), .int .i64 left] = some (.int .i64 (szc l.length left)) := by
  rw [f47_E h]
  unfold maxLen at hl
  have hw : IntKind.i64.wrap (left - (l.length : Int)) = left - l.length := Qc (by omega)
  by_cases h2 : left - (l.length : Int) < 0 <;> simp [hw, szc, h2]
theorem Qs3 (h : G_f49 E) (e : Engine) (ho : e.ok) : E 124 [e.u] = some e.u := by
  obtain ⟨o1, o2, o3, o4, o5⟩ := ho
  rw [f49_E h]
  have a1 := Qtj h.c_f57 e.store o1
  have a2 := Qtp h.c_f60 e.transactions o2 o3
  have a3 := Qta h.c_f52 e.locks o4
  have a4 := Qt5 h.c_f69 e.waits o5
  simp [a1, a2, a3, a4]
  rfl
theorem f8_is (h : G_f8 E) (x y : Engine) (hx : x.ok) (hy : y.ok) : E 125 [x.u, y.u] = some (.bool (decide (x = y))) := by
  obtain ⟨o1, o2, o3, o4, o5⟩ := hx
  obtain ⟨p1, p2, p3, p4, p5⟩ := hy
  rw [f8_E h]
  have a1 := Qq6 h.c_f13 x.store y.store o1 p1
  have a2 := Qq9 h.c_f15 x.transactions y.transactions o2 p2 o3 p3
  have a3 := Qq2 h.c_f10 x.locks y.locks o4 p4
  have a4 := Qri h.c_f20 x.waits y.waits o5 p5
  simp only [Engine.eq_iff]
  by_cases h0 : x.certify = y.certify
  case neg => simp [h0]
  by_cases h1 : x.store = y.store
  case neg => simp [h0, a1, h1]
  rw [h1] at a1
  by_cases h2 : x.transactions = y.transactions
  case neg => simp [h0, a1, h1, a2, h2]
  rw [h2] at a2
  by_cases h3 : x.locks = y.locks
  case neg => simp [h0, a1, h1, a2, h2, a3, h3]
  rw [h3] at a3
  by_cases h4 : x.waits = y.waits
  case neg => simp [h0, a1, h1, a2, h2, a3, h3, a4, h4]
  rw [h4] at a4
  by_cases h5 : x.stamp = y.stamp <;> simp [h0, a1, h1, a2, h2, a3, h3, a4, h4, h5]
theorem Qsj (h : G_f39 E) (e : Engine) (hf : e.fit) (left : Int) (h0 : 0 ≤ left) (h1 : left ≤ 1048576) : E 128 [e.u, .int .i64 left] = some (.int .i64 (e.sz left)) := by
  obtain ⟨f1, f2, f3, f4, f5⟩ := hf
  rw [f39_E h]
  have a1 := Qsq h.c_f42 e.store f1 left h0 h1
  rcases Store.sz_szs e.store left h0 h1 with n1 | ⟨_, n1, n2⟩
  · simp [a1, n1, Engine.sz]
  have n3 : ¬ e.store.sz left < 0 := by omega
  have a2 := Qst h.c_f44 e.transactions f2 f3 _ n1 (by omega)
  rcases Qhm Transaction.sz_szs e.transactions _ n1 (by omega) with m1 | ⟨_, m1, m2⟩
  · simp [a1, n3, a2, m1, Engine.sz]
  have m3 : ¬ szL Transaction.sz e.transactions (e.store.sz left) < 0 := by omega
  have a3 := Qsm h.c_f40 e.locks f4 _ m1 (by omega)
  rcases Qco e.locks.length _ m1 (by omega) with k1 | ⟨_, k1, k2⟩
  · simp [a1, n3, a2, m3, a3, k1, Engine.sz]
  have k3 : ¬ szc e.locks.length (szL Transaction.sz e.transactions (e.store.sz left)) < 0 := by omega
  have a4 := Qsz h.c_f47 e.waits f5 _ k1 (by omega)
  by_cases j1 : szc e.waits.length (szc e.locks.length (szL Transaction.sz e.transactions (e.store.sz left))) < 0
  · have j2 := Qhn j1
    simp [a1, n3, a2, m3, a3, k3, a4, j2, Engine.sz]
  · simp [a1, n3, a2, m3, a3, k3, a4, j1, Engine.sz]
theorem Qj0 (h : G_f28 E) (l : List Version) (hl : l.length ≤ 1048576) : ∀ (n : Nat) (p : List Version) (k i : Int), l = p ++ upVersion k n → i = p.length → 0 ≤ k → k + 5 * n ≤ 1099511627776 →
    f28_l0 E (.sl 5 (l.map Version.u)) (.int .i64 k) (.int .i64 i) = some (.int .i64 (k + 5 * n))
  | 0, p, k, i, e, hi, hk, hk2 => by
    rw [Qjz]
    simp [Qk e hi]
  | n + 1, p, k, i, e0, hi, hk, hk2 => by
    have e : l = p ++ (⟨k, k + 1, k + 2, k + 3, k + 4⟩ : Version) :: upVersion (k + 5) n := e0
    obtain ⟨h0, hlt, hx, hw, hn, _⟩ := Qh e hi (by omega)
    have hw0 : IntKind.i64.wrap (k + 1) = k + 1 := by rw [Qc (by omega)]
    have hw1 : IntKind.i64.wrap (k + 1 + 1) = k + 2 := by rw [Qc (by omega)]; omega
    have hw2 : IntKind.i64.wrap (k + 2 + 1) = k + 3 := by rw [Qc (by omega)]; omega
    have hw3 : IntKind.i64.wrap (k + 3 + 1) = k + 4 := by rw [Qc (by omega)]; omega
    have hw4 : IntKind.i64.wrap (k + 4 + 1) = k + 5 := by rw [Qc (by omega)]; omega
    have ih := Qj0 h l hl n (p ++ [⟨k, k + 1, k + 2, k + 3, k + 4⟩]) (k + 5) (i + 1) (Qg e) hn (by omega) (by omega)
    have e2 : k + 5 + 5 * (n : Int) = k + 5 * ((n + 1 : Nat) : Int) := by omega
    rw [e2] at ih
    rw [Qjz]
    simp only [Qn, List.length_map, Option.bind_some, Qm, hlt, decide_true, Qj, if_true, Qp, hx, Version.u_at0, Version.u_at1, Version.u_at2, Version.u_at3, Version.u_at4, Qb6, Qcv, ne_eq, not_true_eq_false, decide_false, Bool.false_eq_true, if_false, Qo, hw, hw0, hw1, hw2, hw3, hw4]
    exact ih
theorem Qrw (h : G_f28 E) (n : Nat) (hn : n ≤ 1048576) (k : Int) (hk : 0 ≤ k) (hk2 : k ≤ 1073741824) : E 234 [chainU (upVersion k n), .int .i64 k] = some (.int .i64 (k + 5 * n)) := by
  rw [f28_E h]
  exact Qj0 h _ (by rw [Qpi]; exact hn) n [] k 0 rfl rfl hk (by omega)
theorem Qj2 (h : G_f29 E) (l : List (List Version)) (hl : l.length ≤ 1048576) : ∀ (ns : List Nat) (p : List (List Version)) (k i : Int), l = p ++ upChains k ns → i = p.length → (∀ n ∈ ns, n ≤ 1048576) → 0 ≤ k → k + 5 * sumN ns ≤ 1073741824 →
    f29_l0 E (.sl 1 (l.map chainU)) (.int .i64 k) (.int .i64 i) = some (.int .i64 (k + 5 * sumN ns))
  | [], p, k, i, e, hi, hn, hk, hk2 => by
    rw [Qj1]
    simp [Qk e hi, sumN]
  | n :: ns, p, k, i, e0, hi, hns, hk, hk2 => by
    have e : l = p ++ upVersion k n :: upChains (k + 5 * n) ns := e0
    simp only [sumN] at hk2
    have hs := Qfe ns
    obtain ⟨h0, hlt, hx, hw, hn, _⟩ := Qh e hi (by omega)
    have hh := Qrw h.c_f28 n (hns n (by simp)) k hk (by omega)
    have ih := Qj2 h l hl ns (p ++ [upVersion k n]) (k + 5 * n) (i + 1) (Qg e) hn (fun m hm => hns m (by simp [hm])) (by omega) (by omega)
    have e2 : k + 5 * (n : Int) + 5 * sumN ns = k + 5 * ((n : Int) + sumN ns) := by omega
    have hneg : ¬ k + 5 * (n : Int) < 0 := by omega
    rw [e2] at ih
    rw [Qj1]
    simp only [Qn, List.length_map, Option.bind_some, Qm, hlt, decide_true, Qj, if_true, Qp, hx, Qfs, hh, hneg, decide_false, Bool.false_eq_true, if_false, Qo, hw, sumN]
    exact ih
theorem Qry (h : G_f29 E) (ns : List Nat) (hl : ns.length ≤ 1048576) (hns : ∀ n ∈ ns, n ≤ 1048576) (k : Int) (hk : 0 ≤ k) (hk2 : k + 5 * sumN ns ≤ 1073741824) : E 233 [.sl 1 ((upChains k ns).map chainU), .int .i64 k] = some (.int .i64 (k + 5 * sumN ns)) := by
  rw [f29_E h]
  exact Qj2 h _ (by rw [Qpe]; exact hl) ns [] k 0 rfl rfl hns hk hk2
theorem Qrs (h : G_f26 E) (ns : List Nat) (hl : ns.length ≤ 1048576) (hns : ∀ n ∈ ns, n ≤ 1048576) (k : Int) (hk : 0 ≤ k) (hk2 : k + 5 * sumN ns ≤ 1073741824) : E 206 [.agg [.sl 1 ((upChains k ns).map chainU)], .int .i64 k] = some (.int .i64 (k + 5 * sumN ns)) := by
  rw [f26_E h]
  have hs := Qfe ns
  have hneg : ¬ k + 5 * sumN ns < 0 := by omega
  have h1 := Qry h.c_f29 ns hl hns k hk hk2
  have nt : ∀ (us : List U) (K : U → Option U), U.noTup (.agg us) K = K (.agg us) := fun _ _ => rfl
  simp only [nt, Qb5, List.take_zero, Qcn, if_true, List.getElem?_cons_zero, Option.bind_some, Qp2, h1, Qm, hneg, decide_false, Qj, Bool.false_eq_true, if_false]
theorem Qj6 (h : G_f31 E) (l : List Write) (hl : l.length ≤ 1048576) : ∀ (n : Nat) (p : List Write) (k i : Int), l = p ++ upWrite k n → i = p.length → 0 ≤ k → k + 2 * n ≤ 1099511627776 →
    f31_l0 E (.sl 2 (l.map Write.u)) (.int .i64 k) (.int .i64 i) = some (.int .i64 (k + 2 * n))
  | 0, p, k, i, e, hi, hk, hk2 => by
    rw [Qj5]
    simp [Qk e hi]
  | n + 1, p, k, i, e0, hi, hk, hk2 => by
    have e : l = p ++ (⟨k, k + 1⟩ : Write) :: upWrite (k + 2) n := e0
    obtain ⟨h0, hlt, hx, hw, hn, _⟩ := Qh e hi (by omega)
    have hw0 : IntKind.i64.wrap (k + 1) = k + 1 := by rw [Qc (by omega)]
    have hw1 : IntKind.i64.wrap (k + 1 + 1) = k + 2 := by rw [Qc (by omega)]; omega
    have ih := Qj6 h l hl n (p ++ [⟨k, k + 1⟩]) (k + 2) (i + 1) (Qg e) hn (by omega) (by omega)
    have e2 : k + 2 + 2 * (n : Int) = k + 2 * ((n + 1 : Nat) : Int) := by omega
    rw [e2] at ih
    rw [Qj5]
    simp only [Qn, List.length_map, Option.bind_some, Qm, hlt, decide_true, Qj, if_true, Qp, hx, Write.u_at0, Write.u_at1, Qb6, Qcv, ne_eq, not_true_eq_false, decide_false, Bool.false_eq_true, if_false, Qo, hw, hw0, hw1]
    exact ih
theorem Qr3 (h : G_f31 E) (n : Nat) (hn : n ≤ 1048576) (k : Int) (hk : 0 ≤ k) (hk2 : k ≤ 16777216) : E 235 [.sl 2 ((upWrite k n).map Write.u), .int .i64 k] = some (.int .i64 (k + 2 * n)) := by
  rw [f31_E h]
  exact Qj6 h _ (by rw [Qpk]; exact hn) n [] k 0 rfl rfl hk (by omega)
theorem Qbx {n : Int} (h : 0 ≤ n) : U.bin .lss (.int .i64 n) (.int .i64 0) = some (.bool false) := by
  have : ¬ n < 0 := by omega
  simp [this]
theorem Qbq (k : Nat) (y : U) (ys : List U) (K : U → List U → Option U) : U.asMut k (.tup [y, .sl k ys]) K = K y ys := if_pos rfl
theorem Qa1 (n : Int) (K : U → Option U) : U.asFlat (.int .i64 n) K = K (.int .i64 n) := rfl
theorem Qa0 (a b : Option U) : U.asBool (.bool false) a b = b := rfl
def upTxs : Int → List Transaction → List Transaction
  | _, [] => []
  | k, x :: r => ⟨k, k + 1, k + 2, k + 3, k + 4, k + 5, k + 6, upReadMark (k + 7) x.reads.length, upWrite (k + 7 + 2 * x.reads.length) x.writes.length⟩ :: upTxs (k + 7 + 2 * x.reads.length + 2 * x.writes.length) r
theorem Qph : ∀ (l : List Transaction) (k : Int), (upTxs k l).length = l.length
  | [], _ => rfl
  | x :: r, k => by simp [upTxs, Qph r]
theorem Qkc (h : G_f34 E) : ∀ (r : List Transaction) (p : List U) (k i : Int), i = p.length → p.length + r.length ≤ 1048576 → (∀ x ∈ r, x.ok) → 0 ≤ k → k + trxInts r ≤ 1073741824 →
    f34_l0 E (.int .i64 k) (.int .i64 i) (p ++ r.map Transaction.u) = some (.tup [.int .i64 (k + trxInts r), .sl 9 (p ++ (upTxs k r).map Transaction.u)])
  | [], p, k, i, hi, hb, hr, hk, hk2 => by
    simp only [trxInts] at hk2
    have h1 : ¬ i < (p.length : Int) := by omega
    rw [Qkb]
    simp [h1, trxInts, upTxs]
  | x :: r, p, k, i, hi, hb, hr, hk, hk2 => by
    simp only [List.length_cons, trxInts] at hb hk2
    have hs := Qd3 r
    have hx : x.ok := hr x (by simp)
    have hm1 := Qr7 h.c_f33 x.reads hx.1 (k + 7) (by omega) (by omega)
    have hm2 := Qsh h.c_f38 x.writes hx.2 (k + 7 + 2 * x.reads.length) (by omega) (by omega)
    have h1 := Qkc h r (p ++ [.agg [.int .i64 k, .int .i64 (k + 1), .int .i64 (k + 2), .int .i64 (k + 3), .int .i64 (k + 4), .int .i64 (k + 5), .int .i64 (k + 6), .sl 2 ((upReadMark (k + 7) x.reads.length).map ReadMark.u), .sl 2 ((upWrite (k + 7 + 2 * x.reads.length) x.writes.length).map Write.u)]]) (k + 7 + 2 * x.reads.length + 2 * x.writes.length) (i + 1) (by simp [hi]) (by simp; omega) (fun y hy => hr y (by simp [hy])) (by omega) (by omega)
    have e9 : k + 7 + 2 * x.reads.length + 2 * x.writes.length + trxInts r = k + (7 + 2 * x.reads.length + 2 * x.writes.length + trxInts r) := by omega
    rw [e9] at h1
    rw [show trxInts (x :: r) = 7 + 2 * x.reads.length + 2 * x.writes.length + trxInts r from rfl]
    have hn : i.toNat = p.length := by omega
    have hlt : ∀ z : U, i < ((p ++ z :: r.map Transaction.u).length : Int) := fun z => by simp; omega
    have h0 : 0 ≤ i := by omega
    have hw : IntKind.i64.wrap (i + 1) = i + 1 := Qc (by omega)
    have hw1 : IntKind.i64.wrap (k + 1) = k + 1 := Qc (by omega)
    have hw2 : IntKind.i64.wrap (k + 1 + 1) = k + 2 := by rw [Qc (by omega)]; omega
    have hw3 : IntKind.i64.wrap (k + 2 + 1) = k + 3 := by rw [Qc (by omega)]; omega
    have hw4 : IntKind.i64.wrap (k + 3 + 1) = k + 4 := by rw [Qc (by omega)]; omega
    have hw5 : IntKind.i64.wrap (k + 4 + 1) = k + 5 := by rw [Qc (by omega)]; omega
    have hw6 : IntKind.i64.wrap (k + 5 + 1) = k + 6 := by rw [Qc (by omega)]; omega
    have hw7 : IntKind.i64.wrap (k + 6 + 1) = k + 7 := by rw [Qc (by omega)]; omega
    have hg : ∀ z : U, (p ++ z :: r.map Transaction.u)[p.length]? = some z := fun z => by simp
    have hset : ∀ y z : U, (p ++ y :: r.map Transaction.u).set p.length z = p ++ z :: r.map Transaction.u := fun y z => by simp
    rw [Qkb]
    simp only [List.append_assoc, List.cons_append, List.nil_append] at h1
    simp only [List.map_cons, Qm, hlt, decide_true, Option.bind_some, Qj, if_true, Qp, h0, and_self, hn, hg, hset, Transaction.u_agg, Qb5, List.take_zero, List.take_succ_cons, Qaq, Qcn, Qcm, U.size, Nat.add_zero, Nat.zero_add, Nat.reduceAdd, List.getElem?_cons_zero, List.getElem?_cons_succ, List.set_cons_zero, List.set_cons_succ, Qde, Qcb, Qo, hw, hw1, hw2, hw3, hw4, hw5, hw6, hw7, U.asSlK, hm1, hm2, U.asMut, U.asFlat, U.flat, Qxd]
    exact h1
theorem Qsa (h : G_f34 E) (l : List Transaction) (hl : l.length ≤ 1048576) (ho : ∀ x ∈ l, x.ok) (k : Int) (hk : 0 ≤ k) (hk2 : k + trxInts l ≤ 1073741824) :
    E 200318 (.agg [.tup [.sl 9 (l.map Transaction.u)]] :: [.int .i64 k]) = some (.tup [.int .i64 (k + trxInts l), .sl 9 ((upTxs k l).map Transaction.u)]) := by
  rw [f34_E h]
  simpa using Qkc h l [] k 0 rfl (by simpa using hl) ho hk hk2
theorem Qjy (h : G_f27 E) (L : List Transaction) (hL : L.length ≤ 1048576) : ∀ (r p : List Transaction) (k i : Int), L = p ++ upTxs k r → i = p.length → (∀ x ∈ r, x.ok) → 0 ≤ k → k + trxInts r ≤ 16777216 →
    f27_l0 E (.sl 9 (L.map Transaction.u)) (.int .i64 k) (.int .i64 i) = some (.int .i64 (k + trxInts r))
  | [], p, k, i, e, hi, ho, hk, hk2 => by
    rw [Qjx]
    have he : L = p ++ [] := by simpa [upTxs] using e
    simp [Qk he hi, trxInts]
  | x :: r, p, k, i, e, hi, ho, hk, hk2 => by
    simp only [upTxs] at e
    simp only [trxInts] at hk2
    have hs := Qd3 r
    have hx := ho x (by simp)
    obtain ⟨h0, hlt, hel, hw, hn, _⟩ := Qh e hi (by omega)
    have h1 := Qrq h.c_f25 x.reads.length hx.1 (k + 7) (by omega) (by omega)
    have h2 := Qr3 h.c_f31 x.writes.length hx.2 (k + 7 + 2 * x.reads.length) (by omega) (by omega)
    have ih := Qjy h L hL r _ (k + 7 + 2 * x.reads.length + 2 * x.writes.length) (i + 1) (Qg e) hn (fun y hy => ho y (by simp [hy])) (by omega) (by omega)
    have hw1 : IntKind.i64.wrap (k + 1) = k + 1 := Qc (by omega)
    have hw2 : IntKind.i64.wrap (k + 1 + 1) = k + 2 := by rw [Qc (by omega)]; omega
    have hw3 : IntKind.i64.wrap (k + 2 + 1) = k + 3 := by rw [Qc (by omega)]; omega
    have hw4 : IntKind.i64.wrap (k + 3 + 1) = k + 4 := by rw [Qc (by omega)]; omega
    have hw5 : IntKind.i64.wrap (k + 4 + 1) = k + 5 := by rw [Qc (by omega)]; omega
    have hw6 : IntKind.i64.wrap (k + 5 + 1) = k + 6 := by rw [Qc (by omega)]; omega
    have hw7 : IntKind.i64.wrap (k + 6 + 1) = k + 7 := by rw [Qc (by omega)]; omega
    have n1 : ¬ k + 7 + 2 * (x.reads.length : Int) < 0 := by omega
    have n2 : ¬ k + 7 + 2 * (x.reads.length : Int) + 2 * (x.writes.length : Int) < 0 := by omega
    have av : ∀ (us : List U) (K : U → Option U), U.asVar false 1 (.sl 2 us) K = K (.sl 2 us) := fun _ _ => rfl
    have ee : k + (7 + 2 * (x.reads.length : Int) + 2 * (x.writes.length : Int) + trxInts r) = k + 7 + 2 * x.reads.length + 2 * x.writes.length + trxInts r := by omega
    rw [Qjx]
    simp only [Qn, List.length_map, Option.bind_some, Qm, hlt, decide_true, Qj, if_true, Qp, hel, Transaction.u_at0, Transaction.u_at1, Transaction.u_at2, Transaction.u_at3, Transaction.u_at4, Transaction.u_at5, Transaction.u_at6, Transaction.u_at7, Transaction.u_at8, Qb6, av, Qcv, ne_eq, not_true_eq_false, decide_false, Bool.false_eq_true, if_false, Qo, hw, hw1, hw2, hw3, hw4, hw5, hw6, hw7, h1, h2, n1, n2, ih, trxInts, ee]
theorem Qru (h : G_f27 E) (l : List Transaction) (hl : l.length ≤ 1048576) (ho : ∀ x ∈ l, x.ok) (k : Int) (hk : 0 ≤ k) (hk2 : k + trxInts l ≤ 16777216) : E 322 [.sl 9 ((upTxs k l).map Transaction.u), .int .i64 k] = some (.int .i64 (k + trxInts l)) := by
  rw [f27_E h]
  exact Qjy h (upTxs k l) (by rw [Qph]; exact hl) l [] k 0 rfl rfl ho hk hk2
theorem Qju (h : G_f24 E) (l : List Lock) (hl : l.length ≤ 1048576) : ∀ (n : Nat) (p : List Lock) (k i : Int), l = p ++ upLock k n → i = p.length → 0 ≤ k → k + 2 * n ≤ 1099511627776 →
    f24_l0 E (.sl 2 (l.map Lock.u)) (.int .i64 k) (.int .i64 i) = some (.int .i64 (k + 2 * n))
  | 0, p, k, i, e, hi, hk, hk2 => by
    rw [Qjt]
    simp [Qk e hi]
  | n + 1, p, k, i, e0, hi, hk, hk2 => by
    have e : l = p ++ (⟨k, k + 1⟩ : Lock) :: upLock (k + 2) n := e0
    obtain ⟨h0, hlt, hx, hw, hn, _⟩ := Qh e hi (by omega)
    have hw0 : IntKind.i64.wrap (k + 1) = k + 1 := by rw [Qc (by omega)]
    have hw1 : IntKind.i64.wrap (k + 1 + 1) = k + 2 := by rw [Qc (by omega)]; omega
    have ih := Qju h l hl n (p ++ [⟨k, k + 1⟩]) (k + 2) (i + 1) (Qg e) hn (by omega) (by omega)
    have e2 : k + 2 + 2 * (n : Int) = k + 2 * ((n + 1 : Nat) : Int) := by omega
    rw [e2] at ih
    rw [Qjt]
    simp only [Qn, List.length_map, Option.bind_some, Qm, hlt, decide_true, Qj, if_true, Qp, hx, Lock.u_at0, Lock.u_at1, Qb6, Qcv, ne_eq, not_true_eq_false, decide_false, Bool.false_eq_true, if_false, Qo, hw, hw0, hw1]
    exact ih
theorem Qro (h : G_f24 E) (n : Nat) (hn : n ≤ 1048576) (k : Int) (hk : 0 ≤ k) (hk2 : k ≤ 1073741824) : E 321 [.sl 2 ((upLock k n).map Lock.u), .int .i64 k] = some (.int .i64 (k + 2 * n)) := by
  rw [f24_E h]
  exact Qju h _ (by rw [Qpf]; exact hn) n [] k 0 rfl rfl hk (by omega)
theorem Qj4 (h : G_f30 E) (l : List Wait) (hl : l.length ≤ 1048576) : ∀ (n : Nat) (p : List Wait) (k i : Int), l = p ++ upWait k n → i = p.length → 0 ≤ k → k + 2 * n ≤ 1099511627776 →
    f30_l0 E (.sl 2 (l.map Wait.u)) (.int .i64 k) (.int .i64 i) = some (.int .i64 (k + 2 * n))
  | 0, p, k, i, e, hi, hk, hk2 => by
    rw [Qj3]
    simp [Qk e hi]
  | n + 1, p, k, i, e0, hi, hk, hk2 => by
    have e : l = p ++ (⟨k, k + 1⟩ : Wait) :: upWait (k + 2) n := e0
    obtain ⟨h0, hlt, hx, hw, hn, _⟩ := Qh e hi (by omega)
    have hw0 : IntKind.i64.wrap (k + 1) = k + 1 := by rw [Qc (by omega)]
    have hw1 : IntKind.i64.wrap (k + 1 + 1) = k + 2 := by rw [Qc (by omega)]; omega
    have ih := Qj4 h l hl n (p ++ [⟨k, k + 1⟩]) (k + 2) (i + 1) (Qg e) hn (by omega) (by omega)
    have e2 : k + 2 + 2 * (n : Int) = k + 2 * ((n + 1 : Nat) : Int) := by omega
    rw [e2] at ih
    rw [Qj3]
    simp only [Qn, List.length_map, Option.bind_some, Qm, hlt, decide_true, Qj, if_true, Qp, hx, Wait.u_at0, Wait.u_at1, Qb6, Qcv, ne_eq, not_true_eq_false, decide_false, Bool.false_eq_true, if_false, Qo, hw, hw0, hw1]
    exact ih
theorem Qr1 (h : G_f30 E) (n : Nat) (hn : n ≤ 1048576) (k : Int) (hk : 0 ≤ k) (hk2 : k ≤ 1073741824) : E 320 [.sl 2 ((upWait k n).map Wait.u), .int .i64 k] = some (.int .i64 (k + 2 * n)) := by
  rw [f30_E h]
  exact Qj4 h _ (by rw [Qpj]; exact hn) n [] k 0 rfl rfl hk (by omega)
def Engine.up (e : Engine) : Engine :=
  { e with
    store := ⟨upChains 1 (e.store.chains.map List.length)⟩
    transactions := upTxs (1 + 5 * sumLen e.store.chains) e.transactions
    locks := upLock (1 + 5 * sumLen e.store.chains + trxInts e.transactions) e.locks.length
    waits := upWait (1 + 5 * sumLen e.store.chains + trxInts e.transactions + 2 * e.locks.length) e.waits.length }
def Engine.ints (e : Engine) : Int := 1 + 5 * sumLen e.store.chains + trxInts e.transactions + 2 * e.locks.length + 2 * e.waits.length
theorem Qrm (h : G_f23 E) (e : Engine) (ho : e.ok) (b : 5 * sumLen e.store.chains + trxInts e.transactions ≤ 16000000) : E 319 [e.up.u, .int .i64 1] = some (.int .i64 e.ints) := by
  obtain ⟨o1, o2, o3, o4, o5⟩ := ho
  have p2 := Qd3 e.transactions
  have p1 := Qhl e.store.chains
  have hst := Qrs h.c_f26 (e.store.chains.map List.length) (by simpa using o1.1) (fun n hn => by
    obtain ⟨c, hc, rfl⟩ := List.mem_map.1 hn
    exact o1.2 c hc) 1 (by omega) (by rw [Qdz]; omega)
  rw [Qdz] at hst
  have ht := Qru h.c_f27 e.transactions o2 o3 (1 + 5 * sumLen e.store.chains) (by omega) (by omega)
  have hl := Qro h.c_f24 e.locks.length o4 (1 + 5 * sumLen e.store.chains + trxInts e.transactions) (by omega) (by omega)
  have hw := Qr1 h.c_f30 e.waits.length o5 (1 + 5 * sumLen e.store.chains + trxInts e.transactions + 2 * e.locks.length) (by omega) (by omega)
  rw [f23_E h]
  show (E 206 [.agg [.sl 1 ((upChains 1 (e.store.chains.map List.length)).map chainU)], .int .i64 1]).bind _ = _
  rw [hst, Option.bind_some, Qbx (by omega)]
  show (E 322 [.sl 9 ((upTxs (1 + 5 * sumLen e.store.chains) e.transactions).map Transaction.u), .int .i64 (1 + 5 * sumLen e.store.chains)]).bind _ = _
  rw [ht, Option.bind_some, Qbx (by omega)]
  show (E 321 [.sl 2 ((upLock (1 + 5 * sumLen e.store.chains + trxInts e.transactions) e.locks.length).map Lock.u), .int .i64 (1 + 5 * sumLen e.store.chains + trxInts e.transactions)]).bind _ = _
  rw [hl, Option.bind_some, Qbx (by omega)]
  show (E 320 [.sl 2 ((upWait (1 + 5 * sumLen e.store.chains + trxInts e.transactions + 2 * e.locks.length) e.waits.length).map Wait.u), .int .i64 (1 + 5 * sumLen e.store.chains + trxInts e.transactions + 2 * e.locks.length)]).bind _ = _
  rw [hw, Option.bind_some, Qbx (by omega)]
  rfl
theorem Qqk (e : Engine) (hz : 0 ≤ e.sz 1048576) : 5 * sumLen e.store.chains + trxInts e.transactions ≤ 16000000 := by
  unfold Engine.sz at hz
  by_cases q1 : e.store.sz 1048576 < 0
  · rw [if_pos q1] at hz; omega
  rw [if_neg q1] at hz
  by_cases q2 : szL Transaction.sz e.transactions (e.store.sz 1048576) < 0
  · rw [if_pos q2] at hz; omega
  have b1 := Qz7 e.store 1048576 (by omega) (by omega)
  have b0 : e.store.sz 1048576 ≤ 1048576 := by
    rcases Store.sz_szs e.store 1048576 (by omega) (by omega) with n | ⟨_, _, n⟩ <;> omega
  have b2 := Qaag e.transactions _ (by omega) b0 (by omega)
  omega
theorem Qmx (hS : G_f35 E) (hT : G_f34 E) (hL : G_f32 E) (hW : G_f37 E) (e : Engine) (ho : e.ok) (b : 5 * sumLen e.store.chains + trxInts e.transactions ≤ 16000000) :
    ∃ (k1 k2 k3 : Int), E 200121 (.agg [.tup [.sl 1 (e.store.chains.map chainU)]] :: [.int .i64 1]) = some (.tup [.int .i64 k1, .sl 1 (e.up.store.chains.map chainU)])
      ∧ E 200318 (.agg [.tup [.sl 9 (e.transactions.map Transaction.u)]] :: [.int .i64 k1]) = some (.tup [.int .i64 k2, .sl 9 (e.up.transactions.map Transaction.u)])
      ∧ E 200317 (.agg [.tup [.sl 2 (e.locks.map Lock.u)]] :: [.int .i64 k2]) = some (.tup [.int .i64 k3, .sl 2 (e.up.locks.map Lock.u)])
      ∧ E 200316 (.agg [.tup [.sl 2 (e.waits.map Wait.u)]] :: [.int .i64 k3]) = some (.tup [.int .i64 e.ints, .sl 2 (e.up.waits.map Wait.u)])
      ∧ 0 ≤ k1 ∧ 0 ≤ k2 ∧ 0 ≤ k3 ∧ 0 ≤ e.ints := by
  obtain ⟨o1, o2, o3, o4, o5⟩ := ho
  have p2 := Qd3 e.transactions
  have p1 := Qhl e.store.chains
  have m1 := Qsb hS e.store.chains o1.1 o1.2 1 (by omega) (by rw [Qdz]; omega)
  rw [Qdz] at m1
  have m2 := Qsa hT e.transactions o2 o3 (1 + 5 * sumLen e.store.chains) (by omega) (by omega)
  have m3 := Qr5 hL e.locks o4 (1 + 5 * sumLen e.store.chains + trxInts e.transactions) (by omega) (by omega)
  have m4 := Qsf hW e.waits o5 (1 + 5 * sumLen e.store.chains + trxInts e.transactions + 2 * e.locks.length) (by omega) (by omega)
  exact ⟨_, _, _, m1, m2, m3, m4, by omega, by omega, by omega, by unfold Engine.ints; omega⟩
theorem Qlg (h : G_f67 E) (l : List Version) (hl : l.length ≤ 1048576) : ∀ (r p : List Version) (i : Int) (c : List U), l = p ++ r → i = p.length → c.length = r.length → (∀ z ∈ c, z.size = 5) →
    f67_l0 E (.sl 5 (l.map Version.u)) (.int .i64 i) (p.map Version.u ++ c) = some (.sl 5 (l.map Version.u))
  | [], p, i, c, e, hi, hc, _ => by
    obtain rfl : c = [] := List.length_eq_zero_iff.1 hc
    rw [Qlf]
    simp [Qk e hi]
    simp [e, Ql7, ← List.map_append, ← List.map_cons]
  | x :: r, p, i, [], e, hi, hc, _ => by cases hc
  | x :: r, p, i, z :: c, e, hi, hc, hz => by
    obtain ⟨h0, hlt, hx, hw, hn, _⟩ := Qh e hi (by omega)
    have hzs : z.size = 5 := hz z (by simp)
    obtain ⟨hg, hs, hlen⟩ := Qw Version.u p z c hi
    have ih := Qlg h l hl r (p ++ [x]) (i + 1) c (Qg e) hn (by simpa using hc) (fun y hy => hz y (by simp [hy]))
    simp only [List.map_append, List.map_cons, List.map_nil, List.append_assoc, List.cons_append, List.nil_append] at ih
    rw [Qlf]
    simp only [hg, hs, hx, hw, Qp, Qm, Qn, List.length_map, Option.bind_some, Qj, hlt, decide_true, if_true, h0, hlen, and_self, Qo, Qk7 h.c_f63 x, hzs, Version.u_var, Version.u_size, Version.u_storable, Version.u_partable]
    simpa using ih
theorem Qle (h : G_f67 E) (l : List Version) (hl : l.length ≤ 1048576) : E 100108 [.sl 5 (l.map Version.u)] = some (.sl 5 (l.map Version.u)) := by
  have h1 := Qlg h l hl l [] 0 (List.replicate l.length (.agg [.int .i64 0, .int .i64 0, .int .i64 0, .int .i64 0, .int .i64 0])) rfl rfl (by simp) (by simp)
  rw [f67_E h]
  simp only [Qn, Option.bind_some, List.length_map]
  rw [if_pos (by refine ⟨by omega, by omega, by omega, rfl⟩)]
  simpa using h1
theorem Qld (h : G_f66 E) (l : List (List Version)) (hl : l.length ≤ 1048576) (hok : ∀ x ∈ l, chainOk x) : ∀ (r p : List (List Version)) (i : Int) (c : List U), l = p ++ r → i = p.length → c.length = r.length → (∀ z ∈ c, z.size = 1) →
    f66_l0 E (.sl 1 (l.map chainU)) (.int .i64 i) (p.map chainU ++ c) = some (.sl 1 (l.map chainU))
  | [], p, i, c, e, hi, hc, _ => by
    obtain rfl : c = [] := List.length_eq_zero_iff.1 hc
    rw [Qlc]
    simp [Qk e hi]
    simp [e]
  | x :: r, p, i, [], e, hi, hc, _ => by cases hc
  | x :: r, p, i, z :: c, e, hi, hc, hz => by
    obtain ⟨h0, hlt, hx, hw, hn, _⟩ := Qh e hi (by omega)
    have hox : chainOk x := hok x (by rw [e]; simp)
    have hzs : z.size = 1 := hz z (by simp)
    obtain ⟨hg, hs, hlen⟩ := Qw chainU p z c hi
    have ih := Qld h l hl hok r (p ++ [x]) (i + 1) c (Qg e) hn (by simpa using hc) (fun y hy => hz y (by simp [hy]))
    simp only [List.map_append, List.map_cons, List.map_nil, List.append_assoc, List.cons_append, List.nil_append] at ih
    have hF : E 100108 [U.sl 5 (x.map Version.u)] = some (U.sl 5 (x.map Version.u)) := Qle h.c_f67 x hox
    rw [Qlc]
    simp only [hg, hs, hx, hw, Qp, Qm, Qn, List.length_map, Option.bind_some, Qj, hlt, decide_true, if_true, h0, hlen, and_self, Qo, Qle h.c_f67 x hox, chainU, U.noTup, U.asSlK, hzs, Qfs, Qim, Qo5, Qno]
    simpa [hF, chainU] using ih
theorem Qt1 (h : G_f66 E) (l : List (List Version)) (hl : l.length ≤ 1048576) (hok : ∀ x ∈ l, chainOk x) : E 100107 [.sl 1 (l.map chainU)] = some (.sl 1 (l.map chainU)) := by
  have h1 := Qld h l hl hok l [] 0 (List.replicate l.length (.nsl 5)) rfl rfl (by simp) (by simp)
  rw [f66_E h]
  simp only [Qn, Option.bind_some, List.length_map]
  rw [if_pos (by refine ⟨by omega, by omega, by omega, rfl⟩)]
  have hfl : ∀ n : Nat, U.flat.flats (List.replicate n (U.nsl 5)) = true := by
    intro n
    induction n with
    | zero => rfl
    | succ n ih => simp [List.replicate_succ, U.flat.flats, U.flat, ih]
  simpa [hfl] using h1
theorem Qtl (h : G_f58 E) (s : Store) (ho : s.ok) : E 100093 [s.u] = some s.u := by
  rw [f58_E h]
  have h1 := Qt1 h.c_f66 s.chains ho.1 ho.2
  have h2 : ∀ (us : List U) (K : U → Option U), U.noTup (.sl 1 us) K = K (.sl 1 us) := fun _ _ => rfl
  simp [h1, U.asSlK, h2]
  rfl
theorem Qk2 (h : G_f56 E) (l : List ReadMark) (hl : l.length ≤ 1048576) : ∀ (r p : List ReadMark) (i : Int) (c : List U), l = p ++ r → i = p.length → c.length = r.length → (∀ z ∈ c, z.size = 2) →
    f56_l0 E (.sl 2 (l.map ReadMark.u)) (.int .i64 i) (p.map ReadMark.u ++ c) = some (.sl 2 (l.map ReadMark.u))
  | [], p, i, c, e, hi, hc, _ => by
    obtain rfl : c = [] := List.length_eq_zero_iff.1 hc
    rw [Qk1]
    simp [Qk e hi]
    simp [e, Ql6, ← List.map_append, ← List.map_cons]
  | x :: r, p, i, [], e, hi, hc, _ => by cases hc
  | x :: r, p, i, z :: c, e, hi, hc, hz => by
    obtain ⟨h0, hlt, hx, hw, hn, _⟩ := Qh e hi (by omega)
    have hzs : z.size = 2 := hz z (by simp)
    obtain ⟨hg, hs, hlen⟩ := Qw ReadMark.u p z c hi
    have ih := Qk2 h l hl r (p ++ [x]) (i + 1) c (Qg e) hn (by simpa using hc) (fun y hy => hz y (by simp [hy]))
    simp only [List.map_append, List.map_cons, List.map_nil, List.append_assoc, List.cons_append, List.nil_append] at ih
    rw [Qk1]
    simp only [hg, hs, hx, hw, Qp, Qm, Qn, List.length_map, Option.bind_some, Qj, hlt, decide_true, if_true, h0, hlen, and_self, Qo, Qky h.c_f54 x, hzs, ReadMark.u_var, ReadMark.u_size, ReadMark.u_storable, ReadMark.u_partable]
    simpa using ih
theorem Qth (h : G_f56 E) (l : List ReadMark) (hl : l.length ≤ 1048576) : E 100028 [.sl 2 (l.map ReadMark.u)] = some (.sl 2 (l.map ReadMark.u)) := by
  have h1 := Qk2 h l hl l [] 0 (List.replicate l.length (.agg [.int .i64 0, .int .i64 0])) rfl rfl (by simp) (by simp)
  rw [f56_E h]
  simp only [Qn, Option.bind_some, List.length_map]
  rw [if_pos (by refine ⟨by omega, by omega, by omega, rfl⟩)]
  simpa using h1
theorem Qlq (h : G_f73 E) (l : List Write) (hl : l.length ≤ 1048576) : ∀ (r p : List Write) (i : Int) (c : List U), l = p ++ r → i = p.length → c.length = r.length → (∀ z ∈ c, z.size = 2) →
    f73_l0 E (.sl 2 (l.map Write.u)) (.int .i64 i) (p.map Write.u ++ c) = some (.sl 2 (l.map Write.u))
  | [], p, i, c, e, hi, hc, _ => by
    obtain rfl : c = [] := List.length_eq_zero_iff.1 hc
    rw [Qlp]
    simp [Qk e hi]
    simp [e, Ql9, ← List.map_append, ← List.map_cons]
  | x :: r, p, i, [], e, hi, hc, _ => by cases hc
  | x :: r, p, i, z :: c, e, hi, hc, hz => by
    obtain ⟨h0, hlt, hx, hw, hn, _⟩ := Qh e hi (by omega)
    have hzs : z.size = 2 := hz z (by simp)
    obtain ⟨hg, hs, hlen⟩ := Qw Write.u p z c hi
    have ih := Qlq h l hl r (p ++ [x]) (i + 1) c (Qg e) hn (by simpa using hc) (fun y hy => hz y (by simp [hy]))
    simp only [List.map_append, List.map_cons, List.map_nil, List.append_assoc, List.cons_append, List.nil_append] at ih
    rw [Qlp]
    simp only [hg, hs, hx, hw, Qp, Qm, Qn, List.length_map, Option.bind_some, Qj, hlt, decide_true, if_true, h0, hlen, and_self, Qo, Qlm h.c_f71 x, hzs, Write.u_var, Write.u_size, Write.u_storable, Write.u_partable]
    simpa using ih
theorem Qud (h : G_f73 E) (l : List Write) (hl : l.length ≤ 1048576) : E 100027 [.sl 2 (l.map Write.u)] = some (.sl 2 (l.map Write.u)) := by
  have h1 := Qlq h l hl l [] 0 (List.replicate l.length (.agg [.int .i64 0, .int .i64 0])) rfl rfl (by simp) (by simp)
  rw [f73_E h]
  simp only [Qn, Option.bind_some, List.length_map]
  rw [if_pos (by refine ⟨by omega, by omega, by omega, rfl⟩)]
  simpa using h1
theorem Qtt (h : G_f62 E) (x : Transaction) (ho : x.ok) : E 100145 [x.u] = some x.u := by
  rw [f62_E h]
  have h1 := Qth h.c_f56 x.reads ho.1
  have h2 := Qud h.c_f73 x.writes ho.2
  have h3 : ∀ (k : Nat) (us : List U) (K : U → Option U), U.noTup (.sl k us) K = K (.sl k us) := fun _ _ _ => rfl
  have h4 : ∀ (n : Int) (K : U → Option U), U.noTup (.int .i64 n) K = K (.int .i64 n) := fun _ _ => rfl
  simp [h1, h2, U.asSlK, h3, h4, D.size, dsizes, D.size.dsizes]
  rfl
theorem Qkx (h : G_f53 E) (l : List Lock) (hl : l.length ≤ 1048576) : ∀ (r p : List Lock) (i : Int) (c : List U), l = p ++ r → i = p.length → c.length = r.length → (∀ z ∈ c, z.size = 2) →
    f53_l0 E (.sl 2 (l.map Lock.u)) (.int .i64 i) (p.map Lock.u ++ c) = some (.sl 2 (l.map Lock.u))
  | [], p, i, c, e, hi, hc, _ => by
    obtain rfl : c = [] := List.length_eq_zero_iff.1 hc
    rw [Qkw]
    simp [Qk e hi]
    simp [e, Ql5, ← List.map_append, ← List.map_cons]
  | x :: r, p, i, [], e, hi, hc, _ => by cases hc
  | x :: r, p, i, z :: c, e, hi, hc, hz => by
    obtain ⟨h0, hlt, hx, hw, hn, _⟩ := Qh e hi (by omega)
    have hzs : z.size = 2 := hz z (by simp)
    obtain ⟨hg, hs, hlen⟩ := Qw Lock.u p z c hi
    have ih := Qkx h l hl r (p ++ [x]) (i + 1) c (Qg e) hn (by simpa using hc) (fun y hy => hz y (by simp [hy]))
    simp only [List.map_append, List.map_cons, List.map_nil, List.append_assoc, List.cons_append, List.nil_append] at ih
    rw [Qkw]
    simp only [hg, hs, hx, hw, Qp, Qm, Qn, List.length_map, Option.bind_some, Qj, hlt, decide_true, if_true, h0, hlen, and_self, Qo, Qkt h.c_f51 x, hzs, Lock.u_var, Lock.u_size, Lock.u_storable, Lock.u_partable]
    simpa using ih
theorem Qtc (h : G_f53 E) (l : List Lock) (hl : l.length ≤ 1048576) : E 100143 [.sl 2 (l.map Lock.u)] = some (.sl 2 (l.map Lock.u)) := by
  have h1 := Qkx h l hl l [] 0 (List.replicate l.length (.agg [.int .i64 0, .int .i64 0])) rfl rfl (by simp) (by simp)
  rw [f53_E h]
  simp only [Qn, Option.bind_some, List.length_map]
  rw [if_pos (by refine ⟨by omega, by omega, by omega, rfl⟩)]
  simpa using h1
theorem Qll (h : G_f70 E) (l : List Wait) (hl : l.length ≤ 1048576) : ∀ (r p : List Wait) (i : Int) (c : List U), l = p ++ r → i = p.length → c.length = r.length → (∀ z ∈ c, z.size = 2) →
    f70_l0 E (.sl 2 (l.map Wait.u)) (.int .i64 i) (p.map Wait.u ++ c) = some (.sl 2 (l.map Wait.u))
  | [], p, i, c, e, hi, hc, _ => by
    obtain rfl : c = [] := List.length_eq_zero_iff.1 hc
    rw [Qlk]
    simp [Qk e hi]
    simp [e, Ql8, ← List.map_append, ← List.map_cons]
  | x :: r, p, i, [], e, hi, hc, _ => by cases hc
  | x :: r, p, i, z :: c, e, hi, hc, hz => by
    obtain ⟨h0, hlt, hx, hw, hn, _⟩ := Qh e hi (by omega)
    have hzs : z.size = 2 := hz z (by simp)
    obtain ⟨hg, hs, hlen⟩ := Qw Wait.u p z c hi
    have ih := Qll h l hl r (p ++ [x]) (i + 1) c (Qg e) hn (by simpa using hc) (fun y hy => hz y (by simp [hy]))
    simp only [List.map_append, List.map_cons, List.map_nil, List.append_assoc, List.cons_append, List.nil_append] at ih
    rw [Qlk]
    simp only [hg, hs, hx, hw, Qp, Qm, Qn, List.length_map, Option.bind_some, Qj, hlt, decide_true, if_true, h0, hlen, and_self, Qo, Qlh h.c_f68 x, hzs, Wait.u_var, Wait.u_size, Wait.u_storable, Wait.u_partable]
    simpa using ih
theorem Qt8 (h : G_f70 E) (l : List Wait) (hl : l.length ≤ 1048576) : E 100142 [.sl 2 (l.map Wait.u)] = some (.sl 2 (l.map Wait.u)) := by
  have h1 := Qll h l hl l [] 0 (List.replicate l.length (.agg [.int .i64 0, .int .i64 0])) rfl rfl (by simp) (by simp)
  rw [f70_E h]
  simp only [Qn, Option.bind_some, List.length_map]
  rw [if_pos (by refine ⟨by omega, by omega, by omega, rfl⟩)]
  simpa using h1
theorem Qk6 (h : G_f61 E) (l : List Transaction) (hl : l.length ≤ 1048576) (hok : ∀ x ∈ l, Transaction.ok x) : ∀ (r p : List Transaction) (i : Int) (c : List U), l = p ++ r → i = p.length → c.length = r.length → (∀ z ∈ c, z.size = 9) →
    f61_l0 E (.sl 9 (l.map Transaction.u)) (.int .i64 i) (p.map Transaction.u ++ c) = some (.sl 9 (l.map Transaction.u))
  | [], p, i, c, e, hi, hc, _ => by
    obtain rfl : c = [] := List.length_eq_zero_iff.1 hc
    rw [Qk5]
    simp [Qk e hi]
    simp [e]
  | x :: r, p, i, [], e, hi, hc, _ => by cases hc
  | x :: r, p, i, z :: c, e, hi, hc, hz => by
    obtain ⟨h0, hlt, hx, hw, hn, _⟩ := Qh e hi (by omega)
    have hox : x.ok := hok x (by rw [e]; simp)
    have hzs : z.size = 9 := hz z (by simp)
    obtain ⟨hg, hs, hlen⟩ := Qw Transaction.u p z c hi
    have ih := Qk6 h l hl hok r (p ++ [x]) (i + 1) c (Qg e) hn (by simpa using hc) (fun y hy => hz y (by simp [hy]))
    simp only [List.map_append, List.map_cons, List.map_nil, List.append_assoc, List.cons_append, List.nil_append] at ih
    have hF := Qtt h.c_f62 x hox
    have h3 : ∀ (k : Nat) (us : List U) (K : U → Option U), U.noTup (.sl k us) K = K (.sl k us) := fun _ _ _ => rfl
    have h4 : ∀ (n : Int) (K : U → Option U), U.noTup (.int .i64 n) K = K (.int .i64 n) := fun _ _ => rfl
    have hu : U.agg [.int .i64 x.id, .int .i64 x.scheme, .int .i64 x.state, .int .i64 x.begin_, .int .i64 x.low, .int .i64 x.high, .int .i64 x.commit, .sl 2 (x.reads.map ReadMark.u), .sl 2 (x.writes.map Write.u)] = x.u := rfl
    rw [Qk5]
    simp only [hx, hw, Qp, Qm, Qn, List.length_map, Option.bind_some, Qj, hlt, decide_true, if_true, h0, hlen, and_self, Qo, Transaction.u_var, hF, Transaction.u_noTup, Transaction.u_agg, Qb6, Qcb, U.asSlK, h4]
    simp only [Qau, Qis, D.size, Qcm, Nat.reduceAdd, if_true, hu, Transaction.u_size, hg, hs, hzs, Option.bind_some]
    simpa using ih
theorem Qtr (h : G_f61 E) (l : List Transaction) (hl : l.length ≤ 1048576) (hok : ∀ x ∈ l, Transaction.ok x) : E 100144 [.sl 9 (l.map Transaction.u)] = some (.sl 9 (l.map Transaction.u)) := by
  have h1 := Qk6 h l hl hok l [] 0 (List.replicate l.length (.agg [.int .i64 0, .int .i64 0, .int .i64 0, .int .i64 0, .int .i64 0, .int .i64 0, .int .i64 0, .nsl 2, .nsl 2])) rfl rfl (by simp) (by simp)
  rw [f61_E h]
  simp only [Qn, Option.bind_some, List.length_map]
  rw [if_pos (by refine ⟨by omega, by omega, by omega, rfl⟩)]
  have hfl : ∀ n : Nat, U.flat.flats (List.replicate n (.agg [.int .i64 0, .int .i64 0, .int .i64 0, .int .i64 0, .int .i64 0, .int .i64 0, .int .i64 0, .nsl 2, .nsl 2])) = true := by
    intro n
    induction n with
    | zero => rfl
    | succ n ih => simp [List.replicate_succ, U.flat.flats, U.flat, ih]
  simpa [hfl] using h1
theorem Qs7 (h : G_f50 E) (e : Engine) (ho : e.ok) : E 100124 [e.u] = some e.u := by
  rw [f50_E h]
  obtain ⟨h1, h2, h3, h4, h5⟩ := ho
  have g1 := Qtl h.c_f58 e.store h1
  have g2 := Qtr h.c_f61 e.transactions h2 h3
  have g3 := Qtc h.c_f53 e.locks h4
  have g4 := Qt8 h.c_f70 e.waits h5
  have q3 : ∀ (k : Nat) (us : List U) (K : U → Option U), U.noTup (.sl k us) K = K (.sl k us) := fun _ _ _ => rfl
  have q4 : ∀ (n : Int) (K : U → Option U), U.noTup (.int .i64 n) K = K (.int .i64 n) := fun _ _ => rfl
  simp [g1, g2, g3, g4, U.asSlK, q3, q4, D.size, dsizes, D.size.dsizes]
  rfl
abbrev shI : Sh := .int .i64
theorem Qu {u : U} (h : Fits shI u) : ∃ n, u = .int .i64 n ∧ -9223372036854775808 ≤ n ∧ n ≤ 9223372036854775807 := by
  cases u <;> first | exact h.elim | skip
  rename_i k n
  obtain ⟨rfl, h1, h2⟩ := h
  exact ⟨n, rfl, h1, h2⟩
theorem Qvv {u : U} (h : Fits .bool u) : ∃ b, u = .bool b := by
  cases u <;> first | exact h.elim | exact ⟨_, rfl⟩
theorem Qbt {ss : List Sh} {u : U} (h : Fits (.agg ss) u) : ∃ us, u = .agg us ∧ Fits.fits ss us := by
  cases u <;> first | exact h.elim | exact ⟨_, rfl, h⟩
theorem Qq {s : Sh} {ss : List Sh} {us : List U} (h : Fits.fits (s :: ss) us) : ∃ u us', us = u :: us' ∧ Fits s u ∧ Fits.fits ss us' := by
  cases us with
  | nil => exact h.elim
  | cons u us => exact ⟨u, us, rfl, h.1, h.2⟩
theorem Qbh {us : List U} (h : Fits.fits [] us) : us = [] := by
  cases us with
  | nil => rfl
  | cons u us => exact h.elim
theorem Ql3 {α : Type} {s : Sh} {f : α → U} {Q : α → Prop} (hs : ∀ u, Fits s u → ∃ x, u = f x ∧ Q x) : ∀ us : List U, (∀ u ∈ us, Fits s u) → ∃ l : List α, us = l.map f ∧ ∀ x ∈ l, Q x
  | [], _ => ⟨[], rfl, by simp⟩
  | u :: us, h => by
    obtain ⟨x, rfl, hx⟩ := hs u (h u (by simp))
    obtain ⟨l, rfl, hl⟩ := Ql3 hs us (fun v hv => h v (by simp [hv]))
    exact ⟨x :: l, rfl, by simpa using ⟨hx, hl⟩⟩
theorem Qca {α : Type} {k : Nat} {s : Sh} {f : α → U} {Q : α → Prop} (hs : ∀ u, Fits s u → ∃ x, u = f x ∧ Q x) {u : U} (h : Fits (.sl k s) u) : ∃ l : List α, u = .sl k (l.map f) ∧ l.length ≤ maxLen ∧ ∀ x ∈ l, Q x := by
  cases u <;> first | exact h.elim | skip
  obtain ⟨rfl, h1, h2⟩ := h
  obtain ⟨l, rfl, hl⟩ := Ql3 hs _ h2
  exact ⟨l, rfl, by simpa using h1, hl⟩
abbrev shReadMark : Sh := .agg [shI, shI]
theorem Qvp (u : U) (h : Fits shReadMark u) : ∃ x : ReadMark, u = x.u ∧ True := by
  obtain ⟨us0, rfl, hs0⟩ := Qbt h
  obtain ⟨u0, us1, rfl, h0, hs1⟩ := Qq hs0
  obtain ⟨a0, rfl, _⟩ := Qu h0
  obtain ⟨u1, us2, rfl, h1, hs2⟩ := Qq hs1
  obtain ⟨a1, rfl, _⟩ := Qu h1
  obtain rfl := Qbh hs2
  exact ⟨⟨a0, a1⟩, rfl, trivial⟩
abbrev shWrite : Sh := .agg [shI, shI]
theorem Qvu (u : U) (h : Fits shWrite u) : ∃ x : Write, u = x.u ∧ True := by
  obtain ⟨us0, rfl, hs0⟩ := Qbt h
  obtain ⟨u0, us1, rfl, h0, hs1⟩ := Qq hs0
  obtain ⟨a0, rfl, _⟩ := Qu h0
  obtain ⟨u1, us2, rfl, h1, hs2⟩ := Qq hs1
  obtain ⟨a1, rfl, _⟩ := Qu h1
  obtain rfl := Qbh hs2
  exact ⟨⟨a0, a1⟩, rfl, trivial⟩
abbrev shLock : Sh := .agg [shI, shI]
theorem Qvo (u : U) (h : Fits shLock u) : ∃ x : Lock, u = x.u ∧ True := by
  obtain ⟨us0, rfl, hs0⟩ := Qbt h
  obtain ⟨u0, us1, rfl, h0, hs1⟩ := Qq hs0
  obtain ⟨a0, rfl, _⟩ := Qu h0
  obtain ⟨u1, us2, rfl, h1, hs2⟩ := Qq hs1
  obtain ⟨a1, rfl, _⟩ := Qu h1
  obtain rfl := Qbh hs2
  exact ⟨⟨a0, a1⟩, rfl, trivial⟩
abbrev shWait : Sh := .agg [shI, shI]
theorem Qvt (u : U) (h : Fits shWait u) : ∃ x : Wait, u = x.u ∧ True := by
  obtain ⟨us0, rfl, hs0⟩ := Qbt h
  obtain ⟨u0, us1, rfl, h0, hs1⟩ := Qq hs0
  obtain ⟨a0, rfl, _⟩ := Qu h0
  obtain ⟨u1, us2, rfl, h1, hs2⟩ := Qq hs1
  obtain ⟨a1, rfl, _⟩ := Qu h1
  obtain rfl := Qbh hs2
  exact ⟨⟨a0, a1⟩, rfl, trivial⟩
abbrev shVersion : Sh := .agg [shI, shI, shI, shI, shI]
theorem Qvs (u : U) (h : Fits shVersion u) : ∃ x : Version, u = x.u ∧ True := by
  obtain ⟨us0, rfl, hs0⟩ := Qbt h
  obtain ⟨u0, us1, rfl, h0, hs1⟩ := Qq hs0
  obtain ⟨a0, rfl, _⟩ := Qu h0
  obtain ⟨u1, us2, rfl, h1, hs2⟩ := Qq hs1
  obtain ⟨a1, rfl, _⟩ := Qu h1
  obtain ⟨u2, us3, rfl, h2, hs3⟩ := Qq hs2
  obtain ⟨a2, rfl, _⟩ := Qu h2
  obtain ⟨u3, us4, rfl, h3, hs4⟩ := Qq hs3
  obtain ⟨a3, rfl, _⟩ := Qu h3
  obtain ⟨u4, us5, rfl, h4, hs5⟩ := Qq hs4
  obtain ⟨a4, rfl, _⟩ := Qu h4
  obtain rfl := Qbh hs5
  exact ⟨⟨a0, a1, a2, a3, a4⟩, rfl, trivial⟩
abbrev shTransaction : Sh := .agg [shI, shI, shI, shI, shI, shI, shI, .sl 2 shReadMark, .sl 2 shWrite]
theorem Qvr (u : U) (h : Fits shTransaction u) : ∃ x : Transaction, u = x.u ∧ x.fit := by
  obtain ⟨us0, rfl, hs0⟩ := Qbt h
  obtain ⟨u0, us1, rfl, h0, hs1⟩ := Qq hs0
  obtain ⟨a0, rfl, _⟩ := Qu h0
  obtain ⟨u1, us2, rfl, h1, hs2⟩ := Qq hs1
  obtain ⟨a1, rfl, _⟩ := Qu h1
  obtain ⟨u2, us3, rfl, h2, hs3⟩ := Qq hs2
  obtain ⟨a2, rfl, _⟩ := Qu h2
  obtain ⟨u3, us4, rfl, h3, hs4⟩ := Qq hs3
  obtain ⟨a3, rfl, _⟩ := Qu h3
  obtain ⟨u4, us5, rfl, h4, hs5⟩ := Qq hs4
  obtain ⟨a4, rfl, _⟩ := Qu h4
  obtain ⟨u5, us6, rfl, h5, hs6⟩ := Qq hs5
  obtain ⟨a5, rfl, _⟩ := Qu h5
  obtain ⟨u6, us7, rfl, h6, hs7⟩ := Qq hs6
  obtain ⟨a6, rfl, _⟩ := Qu h6
  obtain ⟨u7, us8, rfl, h7, hs8⟩ := Qq hs7
  obtain ⟨a7, rfl, l7, _⟩ := Qca Qvp h7
  obtain ⟨u8, us9, rfl, h8, hs9⟩ := Qq hs8
  obtain ⟨a8, rfl, l8, _⟩ := Qca Qvu h8
  obtain rfl := Qbh hs9
  exact ⟨⟨a0, a1, a2, a3, a4, a5, a6, a7, a8⟩, rfl, ⟨l7, l8⟩⟩
abbrev shStore : Sh := .agg [.sl 1 (.sl 5 shVersion)]
theorem Qvw (u : U) (h : Fits (.sl 5 shVersion) u) : ∃ l : List Version, u = chainU l ∧ chainFit l := by
  obtain ⟨l, h1, h2, _⟩ := Qca Qvs h
  exact ⟨l, h1, h2⟩
theorem Qvq (u : U) (h : Fits shStore u) : ∃ s : Store, u = s.u ∧ s.fit := by
  obtain ⟨us0, rfl, hs0⟩ := Qbt h
  obtain ⟨u0, us1, rfl, h0, hs1⟩ := Qq hs0
  obtain ⟨l, rfl, h1, h2⟩ := Qca Qvw h0
  obtain rfl := Qbh hs1
  exact ⟨⟨l⟩, rfl, h1, h2⟩
abbrev shEngine : Sh := .agg [.bool, shStore, .sl 9 shTransaction, .sl 2 shLock, .sl 2 shWait, shI]
theorem Qvn (u : U) (h : Fits shEngine u) : ∃ e : Engine, u = e.u ∧ e.fit := by
  obtain ⟨us0, rfl, hs0⟩ := Qbt h
  obtain ⟨u0, us1, rfl, h0, hs1⟩ := Qq hs0
  obtain ⟨b, rfl⟩ := Qvv h0
  obtain ⟨u1, us2, rfl, h1, hs2⟩ := Qq hs1
  obtain ⟨s, rfl, f1⟩ := Qvq _ h1
  obtain ⟨u2, us3, rfl, h2, hs3⟩ := Qq hs2
  obtain ⟨ts, rfl, f2, f3⟩ := Qca Qvr h2
  obtain ⟨u3, us4, rfl, h3, hs4⟩ := Qq hs3
  obtain ⟨ls, rfl, f4, _⟩ := Qca Qvo h3
  obtain ⟨u4, us5, rfl, h4, hs5⟩ := Qq hs4
  obtain ⟨ws, rfl, f5, _⟩ := Qca Qvt h4
  obtain ⟨u5, us6, rfl, h5, hs6⟩ := Qq hs5
  obtain ⟨n, rfl, _⟩ := Qu h5
  obtain rfl := Qbh hs6
  exact ⟨⟨b, s, ts, ls, ws, n⟩, rfl, f1, f2, f3, f4, f5⟩
theorem Qpb : ∀ l : List Transaction, trxInts (kept l) ≤ trxInts l
  | [] => Int.le_refl _
  | x :: l => by
    have ih := Qpb l
    by_cases g : x.state = 3
    · have : kept (x :: l) = kept l := by simp [kept, g]
      rw [this]
      simp only [trxInts]
      omega
    · have : kept (x :: l) = x :: kept l := by simp [kept, g]
      rw [this]
      simp only [trxInts]
      omega
theorem Qf0 (f : Engine) (K : Bool → List U → List U → List U → List U → Int → Option U) :
    (U.noTup f.u fun x8 => U.asAgg x8 fun us9 => (uncons us9 fun u10 us11 => U.asB u10 fun b12 => (uncons us11 fun u13 us14 => U.asAgg u13 fun us15 => (uncons us15 fun u16 us17 => U.asSlK 1 u16 fun us18 => (unnil us17 ((uncons us14 fun u19 us20 => U.asSlK 9 u19 fun us21 => (uncons us20 fun u22 us23 => U.asSlK 2 u22 fun us24 => (uncons us23 fun u25 us26 => U.asSlK 2 u25 fun us27 => (uncons us26 fun u28 us29 => U.asInt u28 fun n30 => (unnil us29 (K b12 us18 us21 us24 us27 n30)))))))))))) =
      K f.certify (f.store.chains.map chainU) (f.transactions.map Transaction.u) (f.locks.map Lock.u) (f.waits.map Wait.u) f.stamp := rfl
theorem Qf1 (f : Engine) : U.agg [.bool f.certify, .agg [.sl 1 (f.store.chains.map chainU)], .sl 9 (f.transactions.map Transaction.u), .sl 2 (f.locks.map Lock.u), .sl 2 (f.waits.map Wait.u), .int .i64 f.stamp] = f.u := rfl
theorem Qcy (f : Engine) (K : U → Option U) : U.asVar true 6 f.u K = K f.u := rfl
theorem Qqj (f : Engine) (K : U → Option U) : U.noTup f.u K = K f.u := rfl
theorem Qec (b : Bool) (K : U → Option U) : U.asFlat (.bool b) K = K (.bool b) := rfl
theorem Qev : U.un .not (.bool true) = some (.bool false) := rfl
theorem Qwe (h : G_f7 E) (us : List U) (hus : Fits.fits [shEngine] us) : E 341 us = some (.bool true) := by
  obtain ⟨u0, us1, rfl, h0, hus1⟩ := Qq hus
  obtain rfl := Qbh hus1
  obtain ⟨e, rfl, hx⟩ := Qvn _ h0
  rw [f7_E h]
  have s1 := Qsj h.c_f39 e hx 1048576 (by omega) (by omega)
  rcases Engine.sz_szs e 1048576 (by omega) (by omega) with n1 | ⟨oe, n1, n2⟩
  · show (E 128 [e.u, .int .i64 1048576]).bind _ = _
    have hlt : U.bin .lss (.int .i64 (e.sz 1048576)) (.int .i64 0) = some (.bool true) := by simp [n1]
    rw [s1, Option.bind_some, hlt]
    rfl
  have b1 := Qqk e n1
  have of := Qvz oe
  have b2 : 5 * sumLen (forgetE e).store.chains + trxInts (forgetE e).transactions ≤ 16000000 := by
    have := Qpb e.transactions
    show 5 * sumLen e.store.chains + trxInts (kept e.transactions) ≤ 16000000
    omega
  obtain ⟨k1, k2, k3, m1, m2, m3, m4, p1, p2, p3, p4⟩ := Qmx h.c_f35 h.c_f34 h.c_f32 h.c_f37 e oe b1
  obtain ⟨j1, j2, j3, r1, r2, r3, r4, z1, z2, z3, z4⟩ := Qmx h.c_f35 h.c_f34 h.c_f32 h.c_f37 (forgetE e) of b2
  have g1 := Qu7 h.c_f81 e oe
  have g2 := f3_is h.c_f3 e oe
  have g3 := f1_is h.c_f1 e oe
  have t1 := Qs3 h.c_f49 e oe
  have t2 := Qs7 h.c_f50 e oe
  have q1 := f8_is h.c_f8 e e oe oe
  rw [decide_eq_true rfl] at q1
  have q2 := f8_is h.c_f8 (forgetE e) (forgetE e) of of
  rw [decide_eq_true rfl] at q2
  have hd := Qrm h.c_f23 (forgetE e) of b2
  have hne : U.bin .neq (.int .i64 (forgetE e).ints) (.int .i64 (forgetE e).ints) = some (.bool false) := by simp
  generalize forgetE e = f at *
  have hsz : f.u.size = 6 := rfl
  have i1 : (1 : Nat) = 1 := rfl
  have pa : ∀ n : Int, partable (.val (.int .i64 n)) = true := fun _ => rfl
  rw [Qqj, Qcy, s1, Option.bind_some, Qbx n1, Option.bind_some, Qa0, Qcy, t1, Option.bind_some, g1, Option.bind_some, Qf0, Qf1, Qcy, t2, Option.bind_some, Qf0, Qf1, g2, Option.bind_some, Qf0, Qf1, q2, Option.bind_some, Qec, Qev, Option.bind_some, Qa0, Qcy, t1, Option.bind_some, q1, Option.bind_some, Qec, Qev, Option.bind_some, Qa0, if_pos i1]
  rw [m1, Option.bind_some, Qbq, Qa1, if_pos (pa k1), m2, Option.bind_some, Qbq, Qa1, m3, Option.bind_some, Qbq, Qa1, m4, Option.bind_some, Qbq, Qa1, if_pos (pa _), Qbx p4, Option.bind_some, Qa0]
  rw [Option.bind_some, Qec, Qev, Option.bind_some, Qa0, if_pos i1]
  rw [r1, Option.bind_some, Qbq, Qa1, if_pos (pa j1), r2, Option.bind_some, Qbq, Qa1, r3, Option.bind_some, Qbq, Qa1, r4, Option.bind_some, Qbq, Qa1, if_pos (pa _)]
  show (E 319 [f.up.u, .int .i64 1]).bind _ = _
  rw [hd, Option.bind_some, Qa1, Qbx z4, Option.bind_some, Qa0, hne, Option.bind_some, Qa0, Qcy, t1, Option.bind_some, g3, Option.bind_some, if_pos (And.intro (show storable (.val f.u) = true from rfl) hsz), Qcy, q2, Option.bind_some, Qec, Qev, Option.bind_some, Qa0]
  show (E 319 [f.up.u, .int .i64 1]).bind _ = _
  rw [hd, Option.bind_some, Qa1, Qbx z4, Option.bind_some, Qa0, hne, Option.bind_some, Qa0]
end Go.Proofs.Ytboenehajoaahaa.Am
