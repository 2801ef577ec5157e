import Derived.Test.YtlgblpngiamhaaaGreatFindAnomalyP2
import Derived.Test.YtlgblpngiamhaaaGreatFindAnomalyF1
import Derived.Test.YtlgblpngiamhaaaGreatFindAnomalyP0
import Derived.Test.YtlgblpngiamhaaaGreatAmY
namespace Go.Proofs.YtlgblpngiamhaaaGreat.Am
open Go
variable {E : Env}
set_option linter.unusedVariables false
theorem Qmq (h : G_f63 E) (l : List ReadMark) (hl : l.length ≤ 1048576) : ∀ (r p : List ReadMark) (i : Int) (c : List U), l = p ++ r → i = p.length → c.length = r.length → (∀ z ∈ c, z.size = 2) →
  f63_l0 E (.sl 2 (l.map ReadMark.u)) (.int .i64 i) (p.map ReadMark.u ++ c) = some (.sl 2 (l.map ReadMark.u))
 | [], p, i, c, e, hi, hc, _ => by
  obtain rfl : c = [] := List.length_eq_zero_iff.1 hc
  rw [Qmp]
  simp [Qi e hi]
  simp [e, Qoq, ← List.map_append, ← List.map_cons]
 | x :: r, p, i, [], e, hi, hc, _ => by cases hc
 | x :: r, p, i, z :: c, e, hi, hc, hz => by
  obtain ⟨h0, hlt, hx, hw, hn, _⟩ := Qg e hi (by omega)
  have hzs : z.size = 2 := hz z (by simp)
  obtain ⟨hg, hs, hlen⟩ := Qbi ReadMark.u p z c hi
  have ih := Qmq h l hl r (p ++ [x]) (i + 1) c (Qf e) hn (by simpa using hc) (fun y hy => hz y (by simp [hy]))
  simp only [List.map_append, List.map_cons, List.map_nil, List.append_assoc, List.cons_append, List.nil_append] at ih
  rw [Qmp]
  simp only [hg, hs, hx, hw, Ql, Qk, Qr, List.length_map, Option.bind_some, Qc, hlt, decide_true, if_true, h0, hlen, and_self, Qn, Qmm h.c_f61 x, hzs, ReadMark.u_var, ReadMark.u_size, ReadMark.u_storable, ReadMark.u_partable]
  simpa using ih
theorem Qwh (h : G_f63 E) (l : List ReadMark) (hl : l.length ≤ 1048576) : E 100028 [.sl 2 (l.map ReadMark.u)] = some (.sl 2 (l.map ReadMark.u)) := by
 have h1 := Qmq h l hl l [] 0 (List.replicate l.length (.agg [.int .i64 0, .int .i64 0])) rfl rfl (by simp) (by simp)
 rw [f63_E h]
 simp only [Qr, Option.bind_some, List.length_map]
 rw [if_pos (by refine ⟨by omega, by omega, by omega, rfl⟩)]
 simpa using h1
theorem Qmv (h : G_f66 E) (l : List Write) (hl : l.length ≤ 1048576) : ∀ (r p : List Write) (i : Int) (c : List U), l = p ++ r → i = p.length → c.length = r.length → (∀ z ∈ c, z.size = 2) →
  f66_l0 E (.sl 2 (l.map Write.u)) (.int .i64 i) (p.map Write.u ++ c) = some (.sl 2 (l.map Write.u))
 | [], p, i, c, e, hi, hc, _ => by
  obtain rfl : c = [] := List.length_eq_zero_iff.1 hc
  rw [Qmu]
  simp [Qi e hi]
  simp [e, Qor, ← List.map_append, ← List.map_cons]
 | x :: r, p, i, [], e, hi, hc, _ => by cases hc
 | x :: r, p, i, z :: c, e, hi, hc, hz => by
  obtain ⟨h0, hlt, hx, hw, hn, _⟩ := Qg e hi (by omega)
  have hzs : z.size = 2 := hz z (by simp)
  obtain ⟨hg, hs, hlen⟩ := Qbi Write.u p z c hi
  have ih := Qmv h l hl r (p ++ [x]) (i + 1) c (Qf e) hn (by simpa using hc) (fun y hy => hz y (by simp [hy]))
  simp only [List.map_append, List.map_cons, List.map_nil, List.append_assoc, List.cons_append, List.nil_append] at ih
  rw [Qmu]
  simp only [hg, hs, hx, hw, Ql, Qk, Qr, List.length_map, Option.bind_some, Qc, hlt, decide_true, if_true, h0, hlen, and_self, Qn, Qmr h.c_f64 x, hzs, Write.u_var, Write.u_size, Write.u_storable, Write.u_partable]
  simpa using ih
theorem Qwm (h : G_f66 E) (l : List Write) (hl : l.length ≤ 1048576) : E 100027 [.sl 2 (l.map Write.u)] = some (.sl 2 (l.map Write.u)) := by
 have h1 := Qmv h l hl l [] 0 (List.replicate l.length (.agg [.int .i64 0, .int .i64 0])) rfl rfl (by simp) (by simp)
 rw [f66_E h]
 simp only [Qr, Option.bind_some, List.length_map]
 rw [if_pos (by refine ⟨by omega, by omega, by omega, rfl⟩)]
 simpa using h1
theorem Qwa (h : G_f59 E) (x : Entry) (ho : x.ok) : E 100051 [x.u] = some x.u := by
 rw [f59_E h]
 have h1 := Qwh h.c_f63 x.reads ho.1
 have h2 := Qwm h.c_f66 x.writes ho.2
 have h3 : ∀ (k : Nat) (us : List U) (K : U → Option U), U.noTup (.sl k us) K = K (.sl k us) := fun _ _ _ => rfl
 have h4 : ∀ (n : Int) (K : U → Option U), U.noTup (.int .i64 n) K = K (.int .i64 n) := fun _ _ => rfl
 simp [h1, h2, U.asSlK, h3, h4, D.size, dsizes, D.size.dsizes]
 rfl
theorem Qmk (h : G_f58 E) (l : List Entry) (hl : l.length ≤ 1048576) (hok : ∀ x ∈ l, Entry.ok x) : ∀ (r p : List Entry) (i : Int) (c : List U), l = p ++ r → i = p.length → c.length = r.length → (∀ z ∈ c, z.size = 4) →
  f58_l0 E (.sl 4 (l.map Entry.u)) (.int .i64 i) (p.map Entry.u ++ c) = some (.sl 4 (l.map Entry.u))
 | [], p, i, c, e, hi, hc, _ => by
  obtain rfl : c = [] := List.length_eq_zero_iff.1 hc
  rw [Qmj]
  simp [Qi e hi]
  simp [e]
 | x :: r, p, i, [], e, hi, hc, _ => by cases hc
 | x :: r, p, i, z :: c, e, hi, hc, hz => by
  obtain ⟨h0, hlt, hx, hw, hn, _⟩ := Qg e hi (by omega)
  have hox : x.ok := hok x (by rw [e]; simp)
  have hzs : z.size = 4 := hz z (by simp)
  obtain ⟨hg, hs, hlen⟩ := Qbi Entry.u p z c hi
  have ih := Qmk h l hl hok r (p ++ [x]) (i + 1) c (Qf e) hn (by simpa using hc) (fun y hy => hz y (by simp [hy]))
  simp only [List.map_append, List.map_cons, List.map_nil, List.append_assoc, List.cons_append, List.nil_append] at ih
  have hF := Qwa h.c_f59 x hox
  have h3 : ∀ (k : Nat) (us : List U) (K : U → Option U), U.noTup (.sl k us) K = K (.sl k us) := fun _ _ _ => rfl
  have h4 : ∀ (n : Int) (K : U → Option U), U.noTup (.int .i64 n) K = K (.int .i64 n) := fun _ _ => rfl
  have hu : U.agg [.int .i64 x.id, .int .i64 x.stamp, .sl 2 (x.reads.map ReadMark.u), .sl 2 (x.writes.map Write.u)] = x.u := rfl
  rw [Qmj]
  simp only [hx, hw, Ql, Qk, Qr, List.length_map, Option.bind_some, Qc, hlt, decide_true, if_true, h0, hlen, and_self, Qn, Entry.u_var, hF, Entry.u_noTup, Entry.u_agg, Qem, Qfb, U.asSlK, h4]
  simp only [Qau, Qkb, D.size, Qab, Nat.reduceAdd, if_true, hu, Entry.u_size, hg, hs, hzs, Option.bind_some]
  simpa using ih
theorem Qv8 (h : G_f58 E) (l : List Entry) (hl : l.length ≤ 1048576) (hok : ∀ x ∈ l, Entry.ok x) : E 100045 [.sl 4 (l.map Entry.u)] = some (.sl 4 (l.map Entry.u)) := by
 have h1 := Qmk h l hl hok l [] 0 (List.replicate l.length (.agg [.int .i64 0, .int .i64 0, .nsl 2, .nsl 2])) rfl rfl (by simp) (by simp)
 rw [f58_E h]
 simp only [Qr, Option.bind_some, List.length_map]
 rw [if_pos (by refine ⟨by omega, by omega, by omega, rfl⟩)]
 have hfl : ∀ n : Nat, U.flat.flats (List.replicate n (.agg [.int .i64 0, .int .i64 0, .nsl 2, .nsl 2])) = true := by
  intro n
  induction n with
  | zero => rfl
  | succ n ih => simp [List.replicate_succ, U.flat.flats, U.flat, ih]
 simpa [hfl] using h1
def entInts : List Entry → Int
 | [] => 0
 | x :: r => 2 + 2 * x.reads.length + 2 * x.writes.length + entInts r
theorem Qkn : ∀ l, 0 ≤ entInts l
 | [] => by simp [entInts]
 | x :: r => by have := Qkn r; simp only [entInts]; omega
theorem Ql7 (h : G_f48 E) : ∀ (r : List Entry) (p : List U) (k i : Int), i = p.length → p.length + r.length ≤ 1048576 → (∀ x ∈ r, x.ok) → 0 ≤ k → k + entInts r ≤ 1073741824 →
  ∃ k' us, f48_l0 E (.int .i64 k) (.int .i64 i) (p ++ r.map Entry.u) = some (.tup [.int .i64 k', .sl 4 us]) ∧ 0 ≤ k' ∧ k' ≤ 1073741824
 | [], p, k, i, hi, hb, hr, hk, hk2 => by
  simp only [entInts] at hk2
  refine ⟨k, p, ?_, hk, by omega⟩
  have h1 : ¬ i < (p.length : Int) := by omega
  rw [Ql6]
  simp [h1]
 | x :: r, p, k, i, hi, hb, hr, hk, hk2 => by
  simp only [List.length_cons, entInts] at hb hk2
  have hs := Qkn r
  have hx : x.ok := hr x (by simp)
  have hm1 := Qvt h.c_f50 x.reads hx.1 (k + 2) (by omega) (by omega)
  have hm2 := Qvv h.c_f51 x.writes hx.2 (k + 2 + 2 * x.reads.length) (by omega) (by omega)
  obtain ⟨k', us, h1, h2⟩ := Ql7 h r (p ++ [.agg [.int .i64 k, .int .i64 (k + 1), .sl 2 ((upReadMark (k + 2) x.reads.length).map ReadMark.u), .sl 2 ((upWrite (k + 2 + 2 * x.reads.length) x.writes.length).map Write.u)]]) (k + 2 + 2 * x.reads.length + 2 * x.writes.length) (i + 1) (by simp [hi]) (by simp; omega) (fun y hy => hr y (by simp [hy])) (by omega) (by omega)
  refine ⟨k', us, ?_, h2⟩
  have hn : i.toNat = p.length := by omega
  have hlt : ∀ z : U, i < ((p ++ z :: r.map Entry.u).length : Int) := fun z => by simp; omega
  have h0 : 0 ≤ i := by omega
  have hw : IntKind.i64.wrap (i + 1) = i + 1 := Qj (by omega)
  have hw1 : IntKind.i64.wrap (k + 1) = k + 1 := Qj (by omega)
  have hw2 : IntKind.i64.wrap (k + 1 + 1) = k + 2 := by rw [Qj (by omega)]; omega
  have hg : ∀ z : U, (p ++ z :: r.map Entry.u)[p.length]? = some z := fun z => by simp
  have hset : ∀ y z : U, (p ++ y :: r.map Entry.u).set p.length z = p ++ z :: r.map Entry.u := fun y z => by simp
  rw [Ql6]
  simp only [List.append_assoc, List.cons_append, List.nil_append] at h1
  simp only [List.map_cons, Qk, hlt, decide_true, Option.bind_some, Qc, if_true, Ql, h0, and_self, hn, hg, hset, Entry.u_agg, Qah, List.take_zero, List.take_succ_cons, Qaq, Qc1, Qab, U.size, Nat.add_zero, Nat.zero_add, Nat.reduceAdd, List.getElem?_cons_zero, List.getElem?_cons_succ, List.set_cons_zero, List.set_cons_succ, Qan, Qfb, Qn, hw, hw1, hw2, U.asSlK, hm1, hm2, U.asMut, U.asFlat, U.flat, Qax]
  exact h1
theorem Qko : ∀ (r : List Entry) (left : Int), 0 ≤ left → 0 ≤ szl Entry.sz r left → entInts r ≤ 2 * r.length + 2 * left
 | [], left, h0, h => by simp [entInts]; omega
 | x :: r, left, h0, h => by
  simp only [szl] at h
  by_cases h1 : Entry.sz x left < 0
  ·rw [if_pos h1] at h; omega
  ·rw [if_neg h1] at h
   have h2 := Qko r (Entry.sz x left) (by omega) h
   simp only [Entry.sz, szc] at h1 h2
   simp only [entInts, List.length_cons]
   split at h2
   ·omega
   ·split at h2
    ·omega
    ·omega
theorem Qtn (l : List Entry) (left : Int) (h0 : 0 ≤ left) (h1 : left ≤ 1048576) (h : 0 ≤ szL Entry.sz l left) : entInts l ≤ 4194304 := by
 simp only [szL] at h
 split at h
 ·omega
 ·have := Qko l _ (by omega) h
  omega
def upInts : Int → Nat → List Int
 | _, 0 => []
 | k, n + 1 => k :: upInts (k + 1) n
theorem Qsh : ∀ (n : Nat) (k : Int), (upInts k n).length = n
 | 0, _ => rfl
 | n + 1, k => by simp [upInts, Qsh n]
theorem Ql9 (h : G_f49 E) : ∀ (r p : List Int) (k i : Int), i = p.length → p.length + r.length ≤ 1048576 → 0 ≤ k → k + r.length ≤ 1099511627776 →
  f49_l0 E (.int .i64 k) (.int .i64 i) (p.map intU ++ r.map intU) = some (.tup [.int .i64 (k + r.length), .sl 1 (p.map intU ++ (upInts k r.length).map intU)])
 | [], p, k, i, hi, hb, hk, hk2 => by
  have h1 : ¬ i < ((p.map intU ++ ([] : List Int).map intU).length : Int) := by simp [hi]
  rw [Ql8]
  simp only [Qk, h1, decide_false, Option.bind_some, Qc, Bool.false_eq_true, if_false]
  rw [← List.map_append]
  simp [upInts]
 | x :: r, p, k, i, hi, hb, hk, hk2 => by
  simp only [List.length_cons] at hb hk2
  obtain ⟨hg, hs, hlen⟩ := Qbi intU p (intU x) (r.map intU) hi
  have h0 : 0 ≤ i := by omega
  have hw : IntKind.i64.wrap (k + 1) = k + 1 := Qj (by omega)
  have hw2 : IntKind.i64.wrap (i + 1) = i + 1 := Qj (by omega)
  have ih := Ql9 h r (p ++ [k]) (k + 1) (i + 1) (by simp [hi]) (by simp; omega) (by omega) (by omega)
  simp only [List.map_append, List.map_cons, List.map_nil, List.append_assoc, List.cons_append, List.nil_append] at ih
  rw [Ql8]
  simp only [List.map_cons, Qk, hlen, decide_true, Option.bind_some, Qc, if_true, Ql, h0, and_self, Qan, Qax, Qab, hg, Qdz, Qn, hw, hw2, hs]
  have e : k + 1 + (r.length : Int) = k + ((r.length + 1 : Nat) : Int) := by omega
  rw [e] at ih
  simpa [upInts, intU] using ih
theorem Qvq (h : G_f49 E) (l : List Int) (hl : l.length ≤ 1048576) (k : Int) (hk : 0 ≤ k) (hk2 : k ≤ 1048576) :
  E 200086 (.agg [.tup [.sl 1 (l.map intU)]] :: [.int .i64 k]) = some (.tup [.int .i64 (k + l.length), .sl 1 ((upInts k l.length).map intU)]) := by
 rw [f49_E h]
 exact Ql9 h l [] k 0 rfl (by simpa using hl) hk (by omega)
theorem Ql5 (h : G_f46 E) (l : List Int) (hl : l.length ≤ 1048576) : ∀ (n : Nat) (p : List Int) (k i : Int), l = p ++ upInts k n → i = p.length → 0 ≤ k → k + n ≤ 1099511627776 →
  f46_l0 E (.sl 1 (l.map intU)) (.int .i64 k) (.int .i64 i) = some (.int .i64 (k + n))
 | 0, p, k, i, e, hi, hk, hk2 => by
  rw [Ql4]
  simp [Qi e hi]
 | n + 1, p, k, i, e, hi, hk, hk2 => by
  obtain ⟨h0, hlt, hx, hw, hn, _⟩ := Qg e hi (by omega)
  have hw1 : IntKind.i64.wrap (k + 1) = k + 1 := Qj (by omega)
  have ih := Ql5 h l hl n (p ++ [k]) (k + 1) (i + 1) (Qf e) hn (by omega) (by omega)
  have e2 : k + 1 + (n : Int) = k + ((n + 1 : Nat) : Int) := by omega
  rw [e2] at ih
  rw [Ql4]
  simp only [Qr, List.length_map, Option.bind_some, Qk, hlt, decide_true, Qc, if_true, Ql, hx, Qs, Qj1, ne_eq, not_true_eq_false, decide_false, Bool.false_eq_true, if_false, Qn, hw, hw1]
  exact ih
theorem Qvn (h : G_f46 E) (n : Nat) (hn : n ≤ 1048576) (k : Int) (hk : 0 ≤ k) (hk2 : k ≤ 1048576) : E 90 [.sl 1 ((upInts k n).map intU), .int .i64 k] = some (.int .i64 (k + n)) := by
 rw [f46_E h]
 exact Ql5 h _ (by rw [Qsh]; exact hn) n [] k 0 rfl rfl hk (by omega)
abbrev shI : Sh := .int .i64
theorem Qcp {u : U} (h : Fits shI u) : ∃ n, u = .int .i64 n ∧ -9223372036854775808 ≤ n ∧ n ≤ 9223372036854775807 := by
 cases u <;> first | exact h.elim | skip
 rename_i k n
 obtain ⟨rfl, h1, h2⟩ := h
 exact ⟨n, rfl, h1, h2⟩
theorem Qhe {ss : List Sh} {u : U} (h : Fits (.agg ss) u) : ∃ us, u = .agg us ∧ Fits.fits ss us := by
 cases u <;> first | exact h.elim | exact ⟨_, rfl, h⟩
theorem Qbg {s : Sh} {ss : List Sh} {us : List U} (h : Fits.fits (s :: ss) us) : ∃ u us', us = u :: us' ∧ Fits s u ∧ Fits.fits ss us' := by
 cases us with
 | nil => exact h.elim
 | cons u us => exact ⟨u, us, rfl, h.1, h.2⟩
theorem Qfa {us : List U} (h : Fits.fits [] us) : us = [] := by
 cases us with
 | nil => rfl
 | cons u us => exact h.elim
theorem Qon {α : Type} {s : Sh} {f : α → U} {Q : α → Prop} (hs : ∀ u, Fits s u → ∃ x, u = f x ∧ Q x) : ∀ us : List U, (∀ u ∈ us, Fits s u) → ∃ l : List α, us = l.map f ∧ ∀ x ∈ l, Q x
 | [], _ => ⟨[], rfl, by simp⟩
 | u :: us, h => by
  obtain ⟨x, rfl, hx⟩ := hs u (h u (by simp))
  obtain ⟨l, rfl, hl⟩ := Qon hs us (fun v hv => h v (by simp [hv]))
  exact ⟨x :: l, rfl, by simpa using ⟨hx, hl⟩⟩
theorem Qhf {α : Type} {k : Nat} {s : Sh} {f : α → U} {Q : α → Prop} (hs : ∀ u, Fits s u → ∃ x, u = f x ∧ Q x) {u : U} (h : Fits (.sl k s) u) : ∃ l : List α, u = .sl k (l.map f) ∧ l.length ≤ maxLen ∧ ∀ x ∈ l, Q x := by
 cases u <;> first | exact h.elim | skip
 obtain ⟨rfl, h1, h2⟩ := h
 obtain ⟨l, rfl, hl⟩ := Qon hs _ h2
 exact ⟨l, rfl, by simpa using h1, hl⟩
abbrev shReadMark : Sh := .agg [shI, shI]
theorem Qx6 (u : U) (h : Fits shReadMark u) : ∃ x : ReadMark, u = x.u ∧ True := by
 obtain ⟨us0, rfl, hs0⟩ := Qhe h
 obtain ⟨u0, us1, rfl, h0, hs1⟩ := Qbg hs0
 obtain ⟨a0, rfl, _⟩ := Qcp h0
 obtain ⟨u1, us2, rfl, h1, hs2⟩ := Qbg hs1
 obtain ⟨a1, rfl, _⟩ := Qcp h1
 obtain rfl := Qfa hs2
 exact ⟨⟨a0, a1⟩, rfl, trivial⟩
abbrev shWrite : Sh := .agg [shI, shI]
theorem Qx7 (u : U) (h : Fits shWrite u) : ∃ x : Write, u = x.u ∧ True := by
 obtain ⟨us0, rfl, hs0⟩ := Qhe h
 obtain ⟨u0, us1, rfl, h0, hs1⟩ := Qbg hs0
 obtain ⟨a0, rfl, _⟩ := Qcp h0
 obtain ⟨u1, us2, rfl, h1, hs2⟩ := Qbg hs1
 obtain ⟨a1, rfl, _⟩ := Qcp h1
 obtain rfl := Qfa hs2
 exact ⟨⟨a0, a1⟩, rfl, trivial⟩
abbrev shEntry : Sh := .agg [shI, shI, .sl 2 shReadMark, .sl 2 shWrite]
theorem Qx5 (u : U) (h : Fits shEntry u) : ∃ x : Entry, u = x.u ∧ x.fit := by
 obtain ⟨us0, rfl, hs0⟩ := Qhe h
 obtain ⟨u0, us1, rfl, h0, hs1⟩ := Qbg hs0
 obtain ⟨a0, rfl, _⟩ := Qcp h0
 obtain ⟨u1, us2, rfl, h1, hs2⟩ := Qbg hs1
 obtain ⟨a1, rfl, _⟩ := Qcp h1
 obtain ⟨u2, us3, rfl, h2, hs3⟩ := Qbg hs2
 obtain ⟨a2, rfl, l2, _⟩ := Qhf Qx6 h2
 obtain ⟨u3, us4, rfl, h3, hs4⟩ := Qbg hs3
 obtain ⟨a3, rfl, l3, _⟩ := Qhf Qx7 h3
 obtain rfl := Qfa hs4
 exact ⟨⟨a0, a1, a2, a3⟩, rfl, ⟨l2, l3⟩⟩
theorem Qy1 (h : G_f38 E) (us : List U) (hus : Fits.fits [.sl 4 shEntry] us) : E 448 us = some (.bool true) := by
 obtain ⟨u0, us1, rfl, h0, hus1⟩ := Qbg hus
 obtain rfl := Qfa hus1
 obtain ⟨l, rfl, hl, hf⟩ := Qhf Qx5 h0
 rw [f38_E h]
 have s1 := Qvy h.c_f53 l hl hf 1048576 (by omega) (by omega)
 rcases Qi3 Entry.sz_szs l 1048576 (by omega) (by omega) with n1 | ⟨⟨hl2, ok⟩, n1, n2⟩
 ·simp [s1, n1]
 have n3 : ¬ szL Entry.sz l 1048576 < 0 := by omega
 have hsum := Qtn l 1048576 (by omega) (by omega) n1
 have hsl : (shortest (buildGraph l)).length ≤ 1048576 := Nat.le_trans (Qaa4 _) (by omega)
 have ht := Qv6 h.c_f57 l hl2 ok
 have hF := Qv8 h.c_f58 l hl2 ok
 have hsp := Qxc h.c_f82 l hl2 ok hsl
 have him := Qt9 h.c_f14 l hl2 ok hsl
 have hif := Qub h.c_f15 l hl2 ok hsl
 have hst := Qvg h.c_f40 l l hl2 hl2 ok ok
 have hm1 : ∃ k' us, E 200287 (.agg [.tup [.sl 4 (l.map Entry.u)]] :: [.int .i64 1]) = some (.tup [.int .i64 k', .sl 4 us]) ∧ 0 ≤ k' ∧ k' ≤ 1073741824 := by
  rw [f48_E h.c_f48]
  exact Ql7 h.c_f48 l [] 1 0 rfl (by simpa using hl2) ok (by omega) (by omega)
 obtain ⟨k', us', hm1, hk'⟩ := hm1
 have hk2 : ¬ k' < 0 := by omega
 generalize hc : shortest (buildGraph l) = c at *
 have he := Qlw h.c_f41 c c hsl hsl
 have hen := Qtt h.c_f41 c hsl
 have hm2 := Qvq h.c_f49 c hsl 1 (by omega) (by omega)
 have hh := Qvn h.c_f46 c.length hsl 1 (by omega) (by omega)
 have n4 : ¬ (1 + (c.length : Int)) < 0 := by omega
 simp only [intsU] at hsp hif hen
 simp [s1, n3, ht, hF, hsp, hif, U.asSlK, he, hen, hst, hm1, hk2, U.asMut, hm2, hh, him, n4, intsU]
end Go.Proofs.YtlgblpngiamhaaaGreat.Am
