import Derived.Test.YtlgblpngiamhaaaGreatFindAnomalyP0
import Derived.Test.YtlgblpngiamhaaaGreatFindAnomalyF0
import Derived.Test.YtlgblpngiamhaaaGreatFindAnomalyF1
namespace Go.Proofs.YtlgblpngiamhaaaGreat.Am
open Go Go.Sort
variable {E : Env}
set_option linter.unusedVariables false
def readEdges (l : List Entry) (x : Entry) : List ReadMark → List Edge
 | [] => []
 | m :: r => ⟨writerOf l m, x.id, 1, m.key⟩ :: ⟨x.id, nextWriter l m.key m.created, 3, m.key⟩ :: readEdges l x r
def writeEdges (l : List Entry) (x : Entry) : List Write → List Edge
 | [] => []
 | w :: r => ⟨x.id, nextWriter l w.key x.stamp, 2, w.key⟩ :: writeEdges l x r
def entryEdges (l : List Entry) (x : Entry) : List Edge := readEdges l x x.reads ++ writeEdges l x x.writes
def rawEdges (l : List Entry) : List Entry → List Edge
 | [] => []
 | x :: r => entryEdges l x ++ rawEdges l r
def graphOf (l : List Entry) : List Edge := (rawEdges l l).foldl putE []
def buildGraph (l : List Entry) : List Edge := if isHistory l = true then graphOf l else []
theorem Qft (l : List Entry) (x : Entry) : ∀ r : List ReadMark, (readEdges l x r).length = 2 * r.length
 | [] => rfl
 | m :: r => by simp only [readEdges, List.length_cons, Qft l x r]; omega
theorem Qf9 (l : List Entry) (x : Entry) : ∀ r : List Write, (writeEdges l x r).length = r.length
 | [] => rfl
 | m :: r => by simp only [writeEdges, List.length_cons, Qf9 l x r]
def addRaw (es : List Edge) (e : Edge) : List Edge := es ++ [e].filter keepE
theorem Qgd (es : List Edge) (e : Edge) : (addRaw es e).length ≤ es.length + 1 := by
 unfold addRaw
 rw [List.length_append]
 have := List.length_filter_le keepE [e]
 simp only [List.length_cons, List.length_nil] at this
 omega
theorem Qg3 (h : G_f32 E) (es : List Edge) (hl : es.length ≤ 100000000) (a b c d : Int) :
  E 500363 (.agg [.tup [.sl 4 (es.map Edge.u)]] :: [.int .i64 a, .int .i64 b, .int .i64 c, .int .i64 d]) = some (.tup [.tup [], .sl 4 ((addRaw es ⟨a, b, c, d⟩).map Edge.u)]) := by
 rw [f32_E h]
 have e1 : U.flat.flats [(.agg [.int .i64 a, .int .i64 b, .int .i64 c, .int .i64 d] : U)] = true := rfl
 have e2 : ((es.map Edge.u).length + ([(.agg [.int .i64 a, .int .i64 b, .int .i64 c, .int .i64 d])] : List U).length) * 32 ≤ 140737488355328 := by
  rw [List.length_map, List.length_cons, List.length_nil]; omega
 have e3 : (partable (.val (.agg [.int .i64 a, .int .i64 b, .int .i64 c, .int .i64 d])) = true ∧ ((.agg [.int .i64 a, .int .i64 b, .int .i64 c, .int .i64 d]) : U).size = 4) := ⟨rfl, rfl⟩
 have e4 : ∀ n : Int, (partable (.val (.int .i64 n)) = true ∧ (.int .i64 n : U).size = 1) := fun n => ⟨rfl, rfl⟩
 by_cases h1 : a = 0
 ·simp [h1, addRaw, keepE]
 ·by_cases h2 : b = 0
  ·simp [h1, h2, addRaw, keepE]
  ·by_cases h3 : a = b
   ·simp [h1, h2, h3, addRaw, keepE]
   ·have e5 : (es.length + 1) * 32 ≤ 140737488355328 := by omega
    simp [addRaw, keepE, h1, h2, h3, Edge.u, e1, e3, e4, e5]
theorem Qir : ∀ (rest out mid : List Edge) (y : Edge) (k0 k1 n : Nat) (i j : Int), i = out.length → j = k1 → 1 ≤ k1 → out.length + mid.length + 1 = k0 + k1 → (out ++ mid ++ y :: rest).length = n → n ≤ 100000000 →
  f67_l1 E (.int .i64 i) k0 (n - k0) (.int .i64 j) ((out ++ mid ++ y :: rest).map Edge.u) = some (.sl 4 ((out ++ dedupFrom y rest).map Edge.u))
 | [], out, mid, y, k0, k1, n, i, j, hi, hj, hk, hlen, hn, hb => by
  subst hi; subst hj
  have hn2 : n = out.length + mid.length + 1 := by rw [← hn]; simp [Nat.add_assoc]
  rw [Qmx]
  have c1 : ¬ ((k1 : Int) < ((n - k0 : Nat) : Int)) := by omega
  have hL : ((out ++ mid ++ [y]).map Edge.u).length = n := by rw [List.length_map]; exact hn
  simp only [Qk, decide_eq_false c1, Option.bind_some, Qc, Bool.false_eq_true, if_false, Ql, hL]
  rw [if_pos ⟨by trivial, by trivial, by omega, by omega, by omega⟩, if_pos ⟨by trivial, by rfl, by omega, by rfl, Qyb _, by omega⟩, if_pos]
  ·simp only [dedupFrom, List.append_nil, Option.some.injEq, U.sl.injEq, true_and]
   rw [List.map_append, List.map_append, List.append_assoc]
   have e1 : (out.length : Int).toNat = (out.map Edge.u).length := by simp
   have e2 : List.take (out.map Edge.u).length (out.map Edge.u ++ (mid.map Edge.u ++ [y].map Edge.u)) = out.map Edge.u := List.take_left' rfl
   rw [e1]
   simp only [List.append_assoc]
   rw [e2]
   exact List.take_left' rfl
  ·refine ⟨by omega, ?_⟩
   simp only [List.length_append, List.length_take, List.length_map, List.length_replicate]
   omega
 | z :: rest, out, mid, y, k0, k1, n, i, j, hi, hj, hk, hlen, hn, hb => by
  subst hi; subst hj
  have hn2 : n = out.length + mid.length + 2 + rest.length := by rw [← hn]; simp; omega
  rw [Qmx]
  have c1 : ((k1 : Int) < ((n - k0 : Nat) : Int)) := by omega
  have hL : ((out ++ mid ++ y :: z :: rest).map Edge.u).length = n := by rw [List.length_map]; exact hn
  have hat : ((out ++ mid ++ y :: z :: rest).map Edge.u)[k0 + (k1 : Int).toNat]? = some z.u := by
   rw [List.getElem?_map, List.getElem?_append_right (by simp; omega)]
   have : k0 + (k1 : Int).toNat - (out ++ mid).length = 1 := by simp; omega
   rw [this]
   rfl
  have hat2 : ((out ++ mid ++ y :: z :: rest).map Edge.u)[k0 + ((k1 : Int) - 1).toNat]? = some y.u := by
   rw [List.getElem?_map, List.getElem?_append_right (by simp; omega)]
   have : k0 + ((k1 : Int) - 1).toNat - (out ++ mid).length = 0 := by simp; omega
   rw [this]
   rfl
  have w1 : IntKind.i64.wrap ((k1 : Int) - 1) = (k1 : Int) - 1 := Qj (by omega)
  have w2 : IntKind.i64.wrap ((k1 : Int) + 1) = (k1 : Int) + 1 := Qj (by omega)
  have w3 : IntKind.i64.wrap ((out.length : Int) + 1) = (out.length : Int) + 1 := Qj (by omega)
  simp only [Qk, decide_eq_true c1, Option.bind_some, Qc, if_true, Ql, hL]
  rw [if_pos ⟨by trivial, by omega, by omega, by omega⟩, hat]
  simp only [Option.bind_some, Edge.u_var, Edge.u_flat, if_true, Qa2, w1, Ql]
  rw [if_pos ⟨by trivial, by omega, by omega, by omega⟩, hat2]
  simp only [Option.bind_some, Edge.u_var, Edge.u_flat, if_true, Edge.u_eqv, Qc]
  by_cases hzy : z = y
  ·subst hzy
   have ih := Qir rest out (mid ++ [z]) z k0 (k1 + 1) n out.length ((k1 : Int) + 1) rfl (by omega) (by omega) (by simp; omega) (by rw [← hn]; simp) hb
   simp only [decide_true, Bool.not_true, Bool.false_eq_true, if_false, Qn, w2, Option.bind_some]
   rw [show out ++ mid ++ z :: z :: rest = out ++ (mid ++ [z]) ++ z :: rest by simp, ih]
   simp [dedupFrom]
  ·simp only [decide_eq_false hzy, Bool.not_false, if_true]
   rw [if_pos ⟨by trivial, by omega, by omega⟩]
   simp only [Edge.u_storable, Edge.u_size, and_self, if_true]
   obtain ⟨q, mid', hq⟩ : ∃ (q : Edge) (mid' : List Edge), mid ++ [y] = q :: mid' := by
    cases mid with
    | nil => exact ⟨y, [], rfl⟩
    | cons a m => exact ⟨a, m ++ [y], rfl⟩
   have hsp : out ++ mid ++ y :: z :: rest = out ++ q :: (mid' ++ z :: rest) := by
    have : out ++ mid ++ y :: z :: rest = out ++ (mid ++ [y]) ++ z :: rest := by simp
    rw [this, hq]
    simp
   have hml : mid'.length = mid.length := by
    have := congrArg List.length hq
    simp at this
    omega
   have hget : ((out ++ mid ++ y :: z :: rest).map Edge.u)[(out.length : Int).toNat]? = some q.u := by
    rw [hsp, List.map_append, Int.toNat_natCast, List.getElem?_append_right (by simp)]
    simp
   rw [hget]
   simp only [Option.bind_some, Edge.u_size, Edge.u_flat, if_true, Qn, w3, w2]
   have hset : ((out ++ mid ++ y :: z :: rest).map Edge.u).set (out.length : Int).toNat z.u = ((out ++ [z]) ++ mid' ++ z :: rest).map Edge.u := by
    rw [hsp, List.map_append, Int.toNat_natCast, List.set_append_right _ _ (by simp)]
    simp
   rw [hset]
   have ih := Qir rest (out ++ [z]) mid' z k0 (k1 + 1) n ((out.length : Int) + 1) ((k1 : Int) + 1) (by simp) (by omega) (by omega) (by simp; omega) (by rw [← hn]; simp; omega) hb
   rw [ih]
   simp [dedupFrom, hzy]
   omega
theorem Qrn : ∀ (r p : List Edge) (y : Edge) (i : Int), i = p.length + 1 → p.length + r.length ≤ 99999990 →
  f67_l0 E (.int .i64 i) ((p ++ y :: r).map Edge.u) = some (.sl 4 ((p ++ y :: dedupFrom y r).map Edge.u))
 | [], p, y, i, hi, hb => by
  subst hi
  rw [Qmw]
  have c1 : ¬ ((p.length : Int) + 1 < (((p ++ [y]).map Edge.u).length : Int)) := by simp
  simp only [Qk, decide_eq_false c1, Option.bind_some, Qc, Bool.false_eq_true, if_false, dedupFrom]
 | z :: r, p, y, i, hi, hb => by
  subst hi
  rw [Qmw]
  have hL : ((p ++ y :: z :: r).map Edge.u).length = p.length + 2 + r.length := by simp; omega
  simp only [List.length_cons] at hb
  have c1 : ((p.length : Int) + 1 < ((p.length + 2 + r.length : Nat) : Int)) := by omega
  have hat : ((p ++ y :: z :: r).map Edge.u)[((p.length : Int) + 1).toNat]? = some z.u := by
   rw [List.getElem?_map, List.getElem?_append_right (by omega)]
   have : ((p.length : Int) + 1).toNat - p.length = 1 := by omega
   rw [this]
   rfl
  have hat2 : ((p ++ y :: z :: r).map Edge.u)[(p.length : Int).toNat]? = some y.u := by
   rw [List.getElem?_map, List.getElem?_append_right (by omega)]
   have : (p.length : Int).toNat - p.length = 0 := by omega
   rw [this]
   rfl
  have w1 : IntKind.i64.wrap ((p.length : Int) + 1 - 1) = (p.length : Int) := by rw [Qj (by omega)]; omega
  have w2 : IntKind.i64.wrap ((p.length : Int) + 1 + 1) = (p.length : Int) + 1 + 1 := Qj (by omega)
  simp only [Qk, hL, decide_eq_true c1, Option.bind_some, Qc, if_true, Ql]
  rw [if_pos ⟨by trivial, by omega, by omega⟩, hat]
  simp only [Option.bind_some, Edge.u_var, Edge.u_flat, if_true, Qa2, w1, Ql]
  rw [if_pos ⟨by trivial, by omega, by omega⟩, hat2]
  simp only [Option.bind_some, Edge.u_var, Edge.u_flat, if_true, Edge.u_eqv, Qc]
  by_cases hzy : z = y
  ·subst hzy
   simp only [decide_true, if_true]
   rw [if_pos ⟨by trivial, by trivial, by omega, by omega, by omega⟩]
   have := Qir (E := E) r (p ++ [z]) [] z (p.length + 1) 1 (p.length + 2 + r.length) ((p.length : Int) + 1) 1 (by simp) rfl (by omega) (by simp) (by simp; omega) (by omega)
   rw [show (p.length : Int) + 1 = ((p.length + 1 : Nat) : Int) by omega] at this ⊢
   simp only [Int.toNat_natCast]
   rw [show p ++ [z] ++ [] ++ z :: r = p ++ z :: z :: r by simp] at this
   rw [this]
   simp [dedupFrom]
  ·have ih := Qrn r (p ++ [y]) z ((p.length : Int) + 1 + 1) (by simp) (by simp; omega)
   simp only [decide_eq_false hzy, Bool.false_eq_true, if_false, Qn, w2, Option.bind_some]
   rw [show p ++ y :: z :: r = p ++ [y] ++ z :: r by simp, ih]
   simp [dedupFrom, hzy]
theorem Qaa8 (h : G_f67 E) (l : List Edge) (hl : l.length ≤ 99999990) : E 300361 (.agg [.tup [.sl 4 (l.map Edge.u)]] :: []) = some (.sl 4 ((compactE l).map Edge.u)) := by
 rw [f67_E h]
 match l, hl with
 | [], _ => simp [compactE]
 | [x], _ => simp [compactE, dedupFrom]
 | x :: y :: r, hl =>
  have c : ¬ (((((x :: y :: r).map Edge.u).length : Nat) : Int) < 2) := by simp; omega
  have := Qrn (E := E) (y :: r) [] x 1 rfl (by simp at hl ⊢; omega)
  simp only [Qk, decide_eq_false c, Option.bind_some, Qc, Bool.false_eq_true, if_false]
  rw [List.nil_append] at this
  rw [this]
  rfl
@[simp] theorem Qadt {γ : Type} (a b : U) (K : U → U → Option γ) : U.asPtr (.tup [a, b]) K = K a b := rfl
theorem Qaa9 (h : IsSort E 362 12) (hc : G_f28 E) (l : List Edge) (hl : l.length ≤ 1099511627776) : E 200362 (.agg [.tup [.sl 4 (l.map Edge.u)]] :: [.fn 12 []]) = some (.tup [.tup [], .sl 4 ((sortBy edgeCmp l).map Edge.u)]) := by
 obtain ⟨cf, h1, h2⟩ := h.ex
 have e : cf = edgeCmp := funext fun a => funext fun b => by
  have := (h1 a b).symm.trans (Qe0 hc a b)
  simpa using this
 subst e
 exact h2 l hl
theorem Qlo (h : G_f31 E) (l : List Entry) (hl : l.length ≤ 1048576) (ho : ∀ x ∈ l, x.ok) (x : Entry) (hx : x ∈ l) (n i : Int) : ∀ (r p : List Write) (j : Int) (es : List Edge), x.writes = p ++ r → j = p.length → es.length + r.length ≤ 100000000 →
  f31_l1 E (.sl 4 (l.map Entry.u)) (.sl 4 (l.map Entry.u)) (.int .i64 n) (.int .i64 i) (.sl 2 (x.writes.map Write.u)) (.int .i64 x.writes.length) (.int .i64 j) (es.map Edge.u) x.u =
   (U.bin .add (.int .i64 i) (.int .i64 1)).bind fun t => f31_l0 E (.sl 4 (l.map Entry.u)) (.sl 4 (l.map Entry.u)) (.int .i64 n) t ((es ++ (writeEdges l x r).filter keepE).map Edge.u)
 | [], p, j, es, e, hj, hb => by
  rw [Qln]
  simp [Qi e hj, writeEdges]
 | w :: r, p, j, es, e, hj, hb => by
  simp only [List.length_cons] at hb
  have hox := ho x hx
  obtain ⟨j0, hlt, hy, hwj, hn, _⟩ := Qg e hj (by have := hox.2; omega)
  have hnw := Qk7 h.c_f22 l hl ho w.key x.stamp
  have hput := Qg3 h.c_f32 es (by omega) x.id (nextWriter l w.key x.stamp) 2 w.key
  have hle := Qgd es ⟨x.id, nextWriter l w.key x.stamp, 2, w.key⟩
  have ih := Qlo h l hl ho x hx n i r (p ++ [w]) (j + 1) (addRaw es ⟨x.id, nextWriter l w.key x.stamp, 2, w.key⟩) (Qf e) hn (by omega)
  have hcat : addRaw es ⟨x.id, nextWriter l w.key x.stamp, 2, w.key⟩ ++ (writeEdges l x r).filter keepE = es ++ (writeEdges l x (w :: r)).filter keepE := by
   simp only [addRaw, writeEdges, List.append_assoc]
   rw [show (⟨x.id, nextWriter l w.key x.stamp, 2, w.key⟩ :: writeEdges l x r : List Edge) = [⟨x.id, nextWriter l w.key x.stamp, 2, w.key⟩] ++ writeEdges l x r from rfl, List.filter_append]
  rw [hcat] at ih
  rw [Qln]
  simp [hlt, hy, hwj, hnw, hput, ih]
theorem Qlq (h : G_f31 E) (l : List Entry) (hl : l.length ≤ 1048576) (ho : ∀ x ∈ l, x.ok) (x : Entry) (hx : x ∈ l) (n i : Int) : ∀ (r p : List ReadMark) (j : Int) (es : List Edge), x.reads = p ++ r → j = p.length → es.length + 2 * r.length ≤ 90000000 →
  f31_l2 E (.sl 4 (l.map Entry.u)) (.sl 4 (l.map Entry.u)) (.int .i64 n) (.int .i64 i) (.sl 2 (x.reads.map ReadMark.u)) (.int .i64 x.reads.length) (.int .i64 j) (es.map Edge.u) x.u =
   (U.bin .add (.int .i64 i) (.int .i64 1)).bind fun t => f31_l0 E (.sl 4 (l.map Entry.u)) (.sl 4 (l.map Entry.u)) (.int .i64 n) t ((es ++ (readEdges l x r ++ writeEdges l x x.writes).filter keepE).map Edge.u)
 | [], p, j, es, e, hj, hb => by
  have h1 := Qlo h l hl ho x hx n i x.writes [] 0 es rfl rfl (by have := (ho x hx).2; omega)
  rw [Qlp]
  simp [Qi e hj, readEdges] at h1 ⊢
  rw [h1]
 | m :: r, p, j, es, e, hj, hb => by
  simp only [List.length_cons] at hb
  have hox := ho x hx
  obtain ⟨j0, hlt, hy, hwj, hn, _⟩ := Qg e hj (by have := hox.1; omega)
  have hnw := Qk7 h.c_f22 l hl ho m.key m.created
  have hwr := Qld h.c_f25 l hl ho m
  have hput := Qg3 h.c_f32 es (by omega) (writerOf l m) x.id 1 m.key
  have hle := Qgd es ⟨writerOf l m, x.id, 1, m.key⟩
  have hput2 := Qg3 h.c_f32 (addRaw es ⟨writerOf l m, x.id, 1, m.key⟩) (by omega) x.id (nextWriter l m.key m.created) 3 m.key
  have hle2 := Qgd (addRaw es ⟨writerOf l m, x.id, 1, m.key⟩) ⟨x.id, nextWriter l m.key m.created, 3, m.key⟩
  have ih := Qlq h l hl ho x hx n i r (p ++ [m]) (j + 1) (addRaw (addRaw es ⟨writerOf l m, x.id, 1, m.key⟩) ⟨x.id, nextWriter l m.key m.created, 3, m.key⟩) (Qf e) hn (by omega)
  have hcat : addRaw (addRaw es ⟨writerOf l m, x.id, 1, m.key⟩) ⟨x.id, nextWriter l m.key m.created, 3, m.key⟩ ++ (readEdges l x r ++ writeEdges l x x.writes).filter keepE = es ++ (readEdges l x (m :: r) ++ writeEdges l x x.writes).filter keepE := by
   simp only [addRaw, readEdges, List.cons_append, List.append_assoc]
   rw [show (⟨writerOf l m, x.id, 1, m.key⟩ :: ⟨x.id, nextWriter l m.key m.created, 3, m.key⟩ :: (readEdges l x r ++ writeEdges l x x.writes) : List Edge) = [⟨writerOf l m, x.id, 1, m.key⟩] ++ ([⟨x.id, nextWriter l m.key m.created, 3, m.key⟩] ++ (readEdges l x r ++ writeEdges l x x.writes)) from rfl]
   simp only [List.filter_append]
  rw [hcat] at ih
  rw [Qlp]
  simp [hlt, hy, hwj, hnw, hwr, hput, hput2, ih]
theorem Qlm (h : G_f31 E) (l : List Entry) (hl : l.length ≤ 1048576) (ho : ∀ x ∈ l, x.ok) : ∀ (r p : List Entry) (i : Int) (es : List Edge), l = p ++ r → i = p.length → (∀ x ∈ l, x.reads.length ≤ 60) → es.length + 2000000 * r.length ≤ 80000000 →
  f31_l0 E (.sl 4 (l.map Entry.u)) (.sl 4 (l.map Entry.u)) (.int .i64 l.length) (.int .i64 i) (es.map Edge.u) = some (.sl 4 ((compactE (sortBy edgeCmp (es ++ (rawEdges l r).filter keepE))).map Edge.u))
 | [], p, i, es, e, hi, hr, hb => by
  have hs := Qaa9 h.c_slices_SortFunc_g362 h.c_f28 es (by simp at hb; omega)
  have hc := Qaa8 h.c_f67 (sortBy edgeCmp es) (by rw [Qrt]; simp at hb; omega)
  rw [Qll]
  simp [Qi e hi, rawEdges, hs, hc]
 | x :: r, p, i, es, e, hi, hr, hb => by
  simp only [List.length_cons] at hb
  have hx : x ∈ l := by rw [e]; simp
  have hox := ho x hx
  obtain ⟨h0, hlt, hxx, hw, hn, _⟩ := Qg e hi (by omega)
  have h2 := Qlq h l hl ho x hx l.length i x.reads [] 0 es rfl rfl (by have := hr x hx; omega)
  have hlen : ((entryEdges l x).filter keepE).length ≤ 2000000 := by
   refine Nat.le_trans (List.length_filter_le _ _) ?_
   rw [entryEdges, List.length_append, Qft, Qf9]
   have := hr x hx
   have := hox.2
   omega
  have ih := Qlm h l hl ho r (p ++ [x]) (i + 1) (es ++ (entryEdges l x).filter keepE) (Qf e) hn hr (by rw [List.length_append]; omega)
  rw [Qll]
  simp only [List.nil_append, entryEdges] at h2 ih
  simp [hlt, hxx] at h2 ih ⊢
  rw [h2]
  simp [hw, ih, rawEdges, entryEdges]
theorem Qu4 (h : G_f31 E) (l : List Entry) (hl : l.length ≤ 9) (ho : ∀ x ∈ l, x.ok) (hr : ∀ x ∈ l, x.reads.length ≤ 60) : E 357 [.sl 4 (l.map Entry.u)] = some (.sl 4 ((graphOf l).map Edge.u)) := by
 rw [f31_E h]
 have := Qlm h l (by omega) ho l [] 0 [] rfl rfl hr (by simp; omega)
 simp at this ⊢
 rw [this, Qte]
 rfl
theorem Qpp {β : Type} {l p r : List β} {k : Nat} {i : Int} (f : β → U) (e : l = p ++ r) (hi : i = p.length) : U.cut false k (.sl k (l.map f)) (some i) none = some (.sl k (r.map f)) := by
 subst e; subst hi
 simp only [U.cut, Option.getD_none, Option.getD_some, List.length_map, List.length_append]
 rw [if_pos (by refine ⟨trivial, by omega, by omega, by omega⟩)]
 have e3 : (((p.length + r.length : Nat) : Int)).toNat = (List.map f (p ++ r)).length := by rw [Int.toNat_natCast, List.length_map, List.length_append]
 rw [e3, List.take_length]
 simp
theorem Qo8 (e : Edge) : ∀ l : List Edge, (insS l e).length ≤ l.length + 1
 | [] => by simp [insS]
 | x :: r => by
  have := Qo8 e r
  simp only [insS]
  split
  ·simp; omega
  ·split <;> simp
theorem Qfm (l : List Edge) (e : Edge) : (putE l e).length ≤ l.length + 1 := by
 unfold putE
 split
 ·exact Qo8 e l
 ·omega
theorem Qib : ∀ (es l : List Edge), (es.foldl putE l).length ≤ l.length + es.length
 | [], l => by simp
 | e :: es, l => by
  have h1 := Qib es (putE l e)
  have h2 := Qfm l e
  simp only [List.foldl_cons, List.length_cons]
  omega
theorem Qxs (l : List Edge) (hl : l.length ≤ 100000000) (e : Edge) (i : Int) (hi : i = l.length) :
  f92_l0 E (.sl 4 (l.map Edge.u)) (.vp e.u) (.int .i64 i) = some (.sl 4 ((l ++ [e]).map Edge.u)) := by
 have hc1 := Qfi (k := 4) Edge.u (l := l) (p := l) (r := []) (by simp) hi
 have hc2 := Qpp (k := 4) Edge.u (l := l) (p := l) (r := []) (by simp) hi
 have hb : (l.length + 1) * 32 ≤ 140737488355328 := by omega
 have hb0 : l.length * 32 ≤ 140737488355328 := by omega
 have hlt : ¬ (i < (l.length : Int)) := by omega
 rw [Qe7]
 simp [hlt, hc1, hc2, U.asVp, U.elems, hb, hb0]
theorem Qxv (h : G_f92 E) (l : List Edge) (e x : Edge) (i : Int) (hlt : i < (l.length : Int)) (hx : ∀ {γ : Type} (K : U → Option γ), U.elemAt 4 (.sl 4 (l.map Edge.u)) i K = K x.u) (hw : IntKind.i64.wrap (i + 1) = i + 1) (hlx : edgeLt x e = true) :
  f92_l0 E (.sl 4 (l.map Edge.u)) (.vp e.u) (.int .i64 i) = f92_l0 E (.sl 4 (l.map Edge.u)) (.vp e.u) (.int .i64 (i + 1)) := by
 have hls := Qe6 h.c_f91 x e
 rw [Qe7]
 simp [hlt, hx, hw, hls, hlx, U.asVp]
theorem Qxt (h : G_f92 E) (l : List Edge) (e : Edge) (i : Int) (hlt : i < (l.length : Int)) (hx : ∀ {γ : Type} (K : U → Option γ), U.elemAt 4 (.sl 4 (l.map Edge.u)) i K = K e.u) :
  f92_l0 E (.sl 4 (l.map Edge.u)) (.vp e.u) (.int .i64 i) = some (.sl 4 (l.map Edge.u)) := by
 have hls := Qe6 h.c_f91 e e
 rw [Qe7]
 simp [hlt, hx, hls, Qdg, U.asVp]
theorem Qxr (h : G_f92 E) (l p r : List Edge) (hl : l.length ≤ 100000000) (e x : Edge) (i : Int) (el : l = p ++ x :: r) (hi : i = p.length) (hlt : i < (l.length : Int)) (hx : ∀ {γ : Type} (K : U → Option γ), U.elemAt 4 (.sl 4 (l.map Edge.u)) i K = K x.u) (hlx : edgeLt x e = false) (he : x ≠ e) :
  f92_l0 E (.sl 4 (l.map Edge.u)) (.vp e.u) (.int .i64 i) = some (.sl 4 ((p ++ e :: x :: r).map Edge.u)) := by
 have hll : l.length = p.length + r.length + 1 := by rw [el]; simp; omega
 have hls := Qe6 h.c_f91 x e
 have hc1 := Qfi (k := 4) Edge.u el hi
 have hc2 := Qpp (k := 4) Edge.u el hi
 have hb0 : p.length * 32 ≤ 140737488355328 := by omega
 have hb1 : (p.length + 1) * 32 ≤ 140737488355328 := by omega
 have hb2 : (p.length + 1 + (r.length + 1)) * 32 ≤ 140737488355328 := by omega
 rw [Qe7]
 simp [hlt, hx, hls, hlx, he, U.asVp, hc1, hc2, U.elems, hb0, hb1, hb2]
theorem Qoc (h : G_f92 E) (l : List Edge) (hl : l.length ≤ 100000000) (e : Edge) : ∀ (r p : List Edge) (i : Int), l = p ++ r → i = p.length →
  f92_l0 E (.sl 4 (l.map Edge.u)) (.vp e.u) (.int .i64 i) = some (.sl 4 ((p ++ insS r e).map Edge.u))
 | [], p, i, el, hi => by
  have : l = p := by rw [el]; simp
  subst this
  exact Qxs l hl e i hi
 | x :: r, p, i, el, hi => by
  have hll : l.length = p.length + r.length + 1 := by rw [el]; simp; omega
  obtain ⟨h0, hlt, hx, hw, hn, _⟩ := Qg el hi (by omega)
  have ih := Qoc h l hl e r (p ++ [x]) (i + 1) (Qf el) hn
  cases hlx : edgeLt x e with
  | true =>
   rw [Qxv h l e x i hlt (fun K => hx 4 Edge.u K) hw hlx, ih]
   simp [insS, hlx]
  | false =>
   by_cases he : x = e
   ·subst he
    rw [Qxt h l x i hlt (fun K => hx 4 Edge.u K)]
    simp only [insS, hlx, Bool.false_eq_true, if_false, if_true]
    rw [← el]
   ·rw [Qxr h l p r hl e x i el hi hlt (fun K => hx 4 Edge.u K) hlx he]
    simp [insS, hlx, he]
theorem Qhb (h : G_f92 E) (l : List Edge) (hl : l.length ≤ 100000000) (e : Edge) : E 356 [.sl 4 (l.map Edge.u), e.u] = some (.sl 4 ((putE l e).map Edge.u)) := by
 rw [f92_E h]
 have h1 := Qoc h l hl e l [] 0 rfl rfl
 by_cases c1 : e.frm = 0
 ·simp [c1, putE, keepE]
 ·by_cases c2 : e.to = 0
  ·simp [c1, c2, putE, keepE]
  ·by_cases c3 : e.frm = e.to
   ·simp [c1, c2, c3, putE, keepE]
   ·simp [c1, c2, c3, putE, keepE, h1]
theorem Qne (h : G_f78 E) (l : List Entry) (hl : l.length ≤ 1048576) (ho : ∀ x ∈ l, x.ok) (x : Entry) (hx : x ∈ l) (i : Int) (h0 : 0 ≤ i) (hi : l[i.toNat]? = some x) (hw : IntKind.i64.wrap (i + 1) = i + 1) : ∀ (r p : List Write) (j : Int) (es : List Edge), x.writes = p ++ r → j = p.length → es.length + r.length ≤ 100000000 →
  f78_l1 E (.sl 4 (l.map Entry.u)) (.sl 4 (es.map Edge.u)) (.int .i64 i) (.int .i64 j) = f78_l0 E (.sl 4 (l.map Entry.u)) (.sl 4 (((writeEdges l x r).foldl putE es).map Edge.u)) (.int .i64 (i + 1))
 | [], p, j, es, e, hj, hb => by
  have hxx : ∀ {γ : Type} (K : U → Option γ), U.elemAt 4 (.sl 4 (l.map Entry.u)) i K = K x.u := fun K => Qu Entry.u h0 hi K
  rw [Qnd]
  simp [hxx, Qi e hj, hw, writeEdges]
 | w :: r, p, j, es, e, hj, hb => by
  simp only [List.length_cons] at hb
  have hxx : ∀ {γ : Type} (K : U → Option γ), U.elemAt 4 (.sl 4 (l.map Entry.u)) i K = K x.u := fun K => Qu Entry.u h0 hi K
  have hox := ho x hx
  obtain ⟨j0, hlt, hy, hwj, hn, _⟩ := Qg e hj (by have := hox.2; omega)
  have hnw := Qn2 h.c_f87 l hl ho w.key x.stamp
  have hput := Qhb h.c_f92 es (by omega) ⟨x.id, nextWriter l w.key x.stamp, 2, w.key⟩
  have hle := Qfm es ⟨x.id, nextWriter l w.key x.stamp, 2, w.key⟩
  have ih := Qne h l hl ho x hx i h0 hi hw r (p ++ [w]) (j + 1) (putE es ⟨x.id, nextWriter l w.key x.stamp, 2, w.key⟩) (Qf e) hn (by omega)
  simp only [Edge.u] at hput
  rw [Qnd]
  simp [hlt, hxx, hy, hwj, hnw, hput, ih, writeEdges]
theorem Qng (h : G_f78 E) (l : List Entry) (hl : l.length ≤ 1048576) (ho : ∀ x ∈ l, x.ok) (x : Entry) (hx : x ∈ l) (i : Int) (h0 : 0 ≤ i) (hi : l[i.toNat]? = some x) (hw : IntKind.i64.wrap (i + 1) = i + 1) : ∀ (r p : List ReadMark) (j : Int) (es : List Edge), x.reads = p ++ r → j = p.length → es.length + 2 * r.length ≤ 90000000 →
  f78_l2 E (.sl 4 (l.map Entry.u)) (.sl 4 (es.map Edge.u)) (.int .i64 i) (.int .i64 j) = f78_l0 E (.sl 4 (l.map Entry.u)) (.sl 4 (((readEdges l x r ++ writeEdges l x x.writes).foldl putE es).map Edge.u)) (.int .i64 (i + 1))
 | [], p, j, es, e, hj, hb => by
  have hxx : ∀ {γ : Type} (K : U → Option γ), U.elemAt 4 (.sl 4 (l.map Entry.u)) i K = K x.u := fun K => Qu Entry.u h0 hi K
  have h1 := Qne h l hl ho x hx i h0 hi hw x.writes [] 0 es rfl rfl (by have := (ho x hx).2; omega)
  rw [Qnf]
  simp [hxx, Qi e hj, readEdges, h1]
 | m :: r, p, j, es, e, hj, hb => by
  simp only [List.length_cons] at hb
  have hxx : ∀ {γ : Type} (K : U → Option γ), U.elemAt 4 (.sl 4 (l.map Entry.u)) i K = K x.u := fun K => Qu Entry.u h0 hi K
  have hox := ho x hx
  obtain ⟨j0, hlt, hy, hwj, hn, _⟩ := Qg e hj (by have := hox.1; omega)
  have hnw := Qn2 h.c_f87 l hl ho m.key m.created
  have hwr := Qn7 h.c_f89 l hl ho m
  have hput := Qhb h.c_f92 es (by omega) ⟨writerOf l m, x.id, 1, m.key⟩
  have hle := Qfm es ⟨writerOf l m, x.id, 1, m.key⟩
  have hput2 := Qhb h.c_f92 (putE es ⟨writerOf l m, x.id, 1, m.key⟩) (by omega) ⟨x.id, nextWriter l m.key m.created, 3, m.key⟩
  have hle2 := Qfm (putE es ⟨writerOf l m, x.id, 1, m.key⟩) ⟨x.id, nextWriter l m.key m.created, 3, m.key⟩
  have ih := Qng h l hl ho x hx i h0 hi hw r (p ++ [m]) (j + 1) (putE (putE es ⟨writerOf l m, x.id, 1, m.key⟩) ⟨x.id, nextWriter l m.key m.created, 3, m.key⟩) (Qf e) hn (by omega)
  simp only [Edge.u] at hput hput2
  rw [Qnf]
  simp [hlt, hxx, hy, hwj, hnw, hwr, hput, hput2, ih, readEdges]
theorem Qnc (h : G_f78 E) (l : List Entry) (hl : l.length ≤ 1048576) (ho : ∀ x ∈ l, x.ok) (hr : ∀ x ∈ l, x.reads.length ≤ 60) (hh : isHistory l = true) : ∀ (r p : List Entry) (i : Int) (es : List Edge), l = p ++ r → i = p.length → es.length + 2000000 * r.length ≤ 80000000 →
  f78_l0 E (.sl 4 (l.map Entry.u)) (.sl 4 (es.map Edge.u)) (.int .i64 i) = some (.sl 4 (((rawEdges l r).foldl putE es).map Edge.u))
 | [], p, i, es, e, hi, hb => by
  rw [Qg7]
  simp [Qi e hi, rawEdges]
 | x :: r, p, i, es, e, hi, hb => by
  simp only [List.length_cons] at hb
  have hx : x ∈ l := by rw [e]; simp
  have hox := ho x hx
  obtain ⟨h0, hlt, hxx, hw, hn, hxi⟩ := Qg e hi (by omega)
  have h2 := Qng h l hl ho x hx i h0 hxi hw x.reads [] 0 es rfl rfl (by have := hr x hx; omega)
  rw [← show entryEdges l x = readEdges l x x.reads ++ writeEdges l x x.writes from rfl] at h2
  have hlen : (entryEdges l x).length ≤ 2000000 := by
   rw [entryEdges, List.length_append, Qft, Qf9]
   have := hr x hx
   have := hox.2
   omega
  have hpl := Qib (entryEdges l x) es
  have ih := Qnc h l hl ho hr hh r (p ++ [x]) (i + 1) ((entryEdges l x).foldl putE es) (Qf e) hn (by omega)
  rw [Qg7]
  simp only [Qr, List.length_map, Option.bind_some, Qk, hlt, decide_true, Qc, if_true, Qnt h.c_f85 l hl ho, hh, h2]
  rw [show rawEdges l (x :: r) = entryEdges l x ++ rawEdges l r from rfl, List.foldl_append, ← ih]
theorem Qo0 : ∀ {r p : List Entry}, histA p r = true → ∀ x ∈ r, x.good = true
 | [], _, _, x, hx => by cases hx
 | y :: r, p, h, x, hx => by
  simp only [histA, Bool.and_eq_true] at h
  rcases List.mem_cons.1 hx with rfl | hx
  ·exact h.1.1.1
  ·exact Qo0 h.2 x hx
theorem Qdy {l : List Entry} (h : isHistory l = true) : (∀ x ∈ l, x.good = true) ∧ l.length ≤ 9 := by
 simp only [isHistory, Bool.and_eq_true, decide_eq_true_eq] at h
 exact ⟨Qo0 h.1.1, h.2⟩
theorem Qhl {l : List Entry} (h : isHistory l = true) : ∀ x ∈ l, x.reads.length ≤ 60 := fun x hx => by
 have := (Qdy h).1 x hx
 simp only [Entry.good, areReads, Bool.and_eq_true, decide_eq_true_eq] at this
 exact this.2.2.1.2
theorem Qnb (h : G_f78 E) (l : List Entry) (hl : l.length ≤ 1048576) (ho : ∀ x ∈ l, x.ok) : E 353 [.sl 4 (l.map Entry.u)] = some (.sl 4 ((buildGraph l).map Edge.u)) := by
 rw [f78_E h]
 cases g : isHistory l with
 | true =>
  have hk := Qdy g
  have := Qnc h l hl ho (Qhl g) g l [] 0 [] rfl rfl (by simp; omega)
  rw [List.map_nil] at this
  rw [this]
  simp [buildGraph, g, graphOf]
 | false =>
  rw [Qg7]
  cases l with
  | nil => simp [buildGraph, g]
  | cons x r =>
   have c : (0 : Int) < (((x :: r).length : Nat) : Int) := by simp
   simp only [Qr, List.length_map, Option.bind_some, Qk, c, decide_true, Qc, if_true, Qnt h.c_f85 (x :: r) hl ho, g]
   simp [buildGraph, g]
def buildGraphU (l : List Entry) : U := if isHistory l = true then .sl 4 ((buildGraph l).map Edge.u) else .nsl 4
theorem f4_is (h : G_f4 E) (l : List Entry) (hl : l.length ≤ 1048576) (ho : ∀ x ∈ l, x.ok) : E 408 [.sl 4 (l.map Entry.u)] = some (buildGraphU l) := by
 rw [f4_E h]
 cases g : isHistory l with
 | true => simp [Qkz h.c_f20 l hl ho, g, Qu4 h.c_f31 l (Qdy g).2 ho (Qhl g), buildGraph, buildGraphU]
 | false => simp [Qkz h.c_f20 l hl ho, g, buildGraphU]
theorem Qsr : ∀ (l : List Write) (q : Write), q.key ≤ 5 → writesFrom (some q) l = true → (l.length : Int) + q.key ≤ 5
 | [], q, hq, _ => by simpa using hq
 | w :: r, q, hq, h => by
  simp only [writesFrom, writes1, inR, Bool.and_eq_true, decide_eq_true_eq] at h
  have := Qsr r w h.1.1.1.2 h.2
  have := h.1.2
  simp only [List.length_cons]
  omega
theorem Qyp {l : List Entry} (h : isHistory l = true) : ∀ x ∈ l, x.writes.length ≤ 6 := fun x hx => by
 have := (Qdy h).1 x hx
 simp only [Entry.good, areWrites, Bool.and_eq_true] at this
 have h2 := this.2.2.2
 cases hw : x.writes with
 | nil => simp
 | cons w r =>
  rw [hw] at h2
  simp only [writesFrom, writes1, inR, Bool.and_eq_true, decide_eq_true_eq] at h2
  have h3 := Qsr r w h2.1.1.1.2 h2.2
  have := h2.1.1.1.1
  simp only [List.length_cons]
  omega
theorem Qqt (l : List Entry) : ∀ r : List Entry, (∀ x ∈ r, x.reads.length ≤ 60 ∧ x.writes.length ≤ 6) → (rawEdges l r).length ≤ 126 * r.length
 | [], _ => by simp [rawEdges]
 | x :: r, h => by
  have ih := Qqt l r fun y hy => h y (by simp [hy])
  have := h x (by simp)
  simp only [rawEdges, entryEdges, List.length_append, Qft, Qf9, List.length_cons]
  omega
theorem Qb5 (l : List Entry) : (buildGraph l).length ≤ 1134 := by
 unfold buildGraph
 split
 ·rename_i h
  have h1 := Qqt l l fun x hx => ⟨Qhl h x hx, Qyp h x hx⟩
  have h2 := Qib (rawEdges l l) []
  have h3 := (Qdy h).2
  rw [graphOf]
  simp only [List.length_nil] at h2
  omega
 ·simp
open Go
def inIds (l : List Entry) (c : Int) : Prop := ∃ y ∈ l, y.id = c
theorem Qadi (l : List Entry) (m : ReadMark) : writerOf l m = 0 ∨ inIds l (writerOf l m) := by
 unfold writerOf
 cases h : l.find? (wrote m) with
 | none => exact .inl rfl
 | some x => exact .inr ⟨x, List.mem_of_find?_eq_some h, rfl⟩
theorem Qpu (l : List Entry) (key stamp : Int) : ∀ (r : List Entry) (cur : Option Entry), (∀ x ∈ r, x ∈ l) → (∀ c, cur = some c → c ∈ l) → ∀ c, r.foldl (nwStep key stamp) cur = some c → c ∈ l
 | [], cur, _, hc, c, h => hc c h
 | x :: r, cur, hr, hc, c, h => by
  refine Qpu l key stamp r (nwStep key stamp cur x) (fun y hy => hr y (by simp [hy])) (fun d hd => ?_) c h
  unfold nwStep at hd
  split at hd
  ·cases hd
   exact hr x (by simp)
  ·exact hc d hd
theorem Qpq (l : List Entry) (key stamp : Int) : nextWriter l key stamp = 0 ∨ inIds l (nextWriter l key stamp) := by
 unfold nextWriter
 cases h : l.foldl (nwStep key stamp) none with
 | none => exact .inl rfl
 | some x => exact .inr ⟨x, Qpu l key stamp l none (fun _ h => h) (fun _ h => by cases h) x h, rfl⟩
def okEdge (l : List Entry) (e : Edge) : Prop := (e.frm = 0 ∨ inIds l e.frm) ∧ (e.to = 0 ∨ inIds l e.to)
theorem Qqv (l : List Entry) (x : Entry) (hx : x ∈ l) : ∀ (r : List ReadMark), ∀ e ∈ readEdges l x r, okEdge l e
 | [], e, he => by cases he
 | m :: r, e, he => by
  simp only [readEdges, List.mem_cons] at he
  rcases he with rfl | rfl | he
  ·exact ⟨Qadi l m, .inr ⟨x, hx, rfl⟩⟩
  ·exact ⟨.inr ⟨x, hx, rfl⟩, Qpq l _ _⟩
  ·exact Qqv l x hx r e he
theorem Qsq (l : List Entry) (x : Entry) (hx : x ∈ l) : ∀ (r : List Write), ∀ e ∈ writeEdges l x r, okEdge l e
 | [], e, he => by cases he
 | m :: r, e, he => by
  simp only [writeEdges, List.mem_cons] at he
  rcases he with rfl | he
  ·exact ⟨.inr ⟨x, hx, rfl⟩, Qpq l _ _⟩
  ·exact Qsq l x hx r e he
theorem Qqu (l : List Entry) : ∀ (r : List Entry), (∀ x ∈ r, x ∈ l) → ∀ e ∈ rawEdges l r, okEdge l e
 | [], _, e, he => by cases he
 | x :: r, hr, e, he => by
  simp only [rawEdges, entryEdges, List.mem_append] at he
  rcases he with (he | he) | he
  ·exact Qqv l x (hr x (by simp)) _ e he
  ·exact Qsq l x (hr x (by simp)) _ e he
  ·exact Qqu l r (fun y hy => hr y (by simp [hy])) e he
theorem Qs3 (l : List Entry) : ∀ e ∈ buildGraph l, inIds l e.frm ∧ inIds l e.to := fun e he => by
 unfold buildGraph at he
 split at he
 ·rw [graphOf, Qfq] at he
  rcases he with he | ⟨he, hk⟩
  ·cases he
  ·obtain ⟨h1, h2⟩ := Qqu l l (fun _ h => h) e he
   simp only [keepE, Bool.and_eq_true, Bool.not_eq_true', decide_eq_false_iff_not] at hk
   exact ⟨h1.resolve_left hk.1, h2.resolve_left hk.2.1⟩
 ·cases he
theorem Qo1 {α : Type} (P : α → Bool) : ∀ (l : List α) (i : Int), (∃ y ∈ l, P y = true) → ∃ x, l.find? P = some x ∧ i ≤ idxF P l i ∧ l[(idxF P l i - i).toNat]? = some x
 | [], i, h => by obtain ⟨y, hy, _⟩ := h; cases hy
 | z :: l, i, h => by
  cases hz : P z with
  | true => exact ⟨z, by simp [hz], by simp [idxF, hz], by simp [idxF, hz]⟩
  | false =>
   have h2 : ∃ y ∈ l, P y = true := by
    obtain ⟨y, hy, hp⟩ := h
    rcases List.mem_cons.1 hy with rfl | hy
    ·rw [hz] at hp; cases hp
    ·exact ⟨y, hy, hp⟩
   obtain ⟨x, h3, h4, h5⟩ := Qo1 P l (i + 1) h2
   refine ⟨x, by simp [hz, h3], by simp only [idxF, hz]; simp; omega, ?_⟩
   have e : (idxF P (z :: l) i - i).toNat = (idxF P l (i + 1) - (i + 1)).toNat + 1 := by simp only [idxF, hz]; simp; omega
   rw [e, List.getElem?_cons_succ]
   exact h5
def entryOf (l : List Entry) (c : Int) : Option Entry := l.find? (hasId c)
theorem Qx3 (l : List Entry) (c : Int) (h : inIds l c) : ∃ x, entryOf l c = some x ∧ x ∈ l ∧ x.id = c ∧ ∀ {γ : Type} (K : U → Option γ), U.elemAt 4 (.sl 4 (l.map Entry.u)) (findE l c) K = K x.u := by
 obtain ⟨y, hy, hc⟩ := h
 obtain ⟨x, h1, h2, h3⟩ := Qo1 (hasId c) l 0 ⟨y, hy, by simp [hasId, hc]⟩
 have hm := List.find?_some h1
 refine ⟨x, h1, List.mem_of_find?_eq_some h1, by simpa [hasId] using hm, fun K => ?_⟩
 refine Qu Entry.u h2 ?_ K
 rw [Int.sub_zero] at h3
 exact h3
def edgeOK (e : Edge) : Bool := inR e.frm 1 9 && inR e.to 1 9 && !decide (e.frm = e.to) && inR e.kind 1 3 && inR e.key 0 5
def edgesFrom : Option Edge → List Edge → Bool
 | _, [] => true
 | p, e :: r => edgeOK e && (match p with | none => true | some q => edgeLt q e) && edgesFrom (some e) r
def areEdges (l : List Edge) : Bool := edgesFrom none l
abbrev edgesU (l : List Edge) : U := .sl 4 (l.map Edge.u)
theorem Qna (h : G_f77 E) (l : List Edge) (hl : l.length ≤ 1048576) : ∀ (r p : List Edge) (i : Int), l = p ++ r → i = p.length →
  f77_l0 E (edgesU l) (.int .i64 i) = some (.bool (edgesFrom p.getLast? r))
 | [], p, i, e, hi => by
  rw [Qm9]
  simp [Qi e hi, edgesFrom]
 | x :: r, p, i, e, hi => by
  obtain ⟨h0, hlt, hx, hw, hn, _⟩ := Qg e hi (by omega)
  have ih := Qna h l hl r (p ++ [x]) (i + 1) (Qf e) hn
  rw [List.getLast?_concat] at ih
  rw [Qm9]
  by_cases hp : p = []
  ·have hi0 : ¬ 0 < i := by subst hp; simp at hi; omega
   simp [h0, hlt, hx, hw, ih, Qa4 h.c_f93, edgesFrom, edgeOK, hi0, hp]
   cases inR x.frm 1 9 <;> cases inR x.to 1 9 <;> cases inR x.kind 1 3 <;> cases inR x.key 0 5 <;> by_cases h3 : x.frm = x.to <;> simp [h3]
  ·obtain ⟨q, j, hq, hpos, hw1, h1, hq1, _⟩ := Qct e hi (by omega) hp
   simp [h0, hlt, hx, hw, ih, Qa4 h.c_f93, edgesFrom, edgeOK, hq, hpos, hw1, h1, hq1, Qe6 h.c_f91]
   cases inR x.frm 1 9 <;> cases inR x.to 1 9 <;> cases inR x.kind 1 3 <;> cases inR x.key 0 5 <;> by_cases h3 : x.frm = x.to <;> cases edgeLt q x <;> simp [h3]
theorem Qdt (h : G_f77 E) (l : List Edge) (hl : l.length ≤ 1048576) : E 4 [edgesU l] = some (.bool (areEdges l)) := by
 rw [f77_E h]
 simp [Qna h l hl l [] 0 rfl rfl, areEdges]
theorem Qlt (h : G_f3 E) (l : List Edge) (hl : l.length ≤ 1048576) : ∀ (r p : List Edge) (i : Int), l = p ++ r → i = p.length →
  f3_l0 E (edgesU l) (edgesU l) (.int .i64 l.length) (.int .i64 i) = some (.bool (edgesFrom p.getLast? r))
 | [], p, i, e, hi => by
  rw [Qe3]
  simp [Qi e hi, edgesFrom]
 | x :: r, p, i, e, hi => by
  obtain ⟨h0, hlt, hx, hw, hn, _⟩ := Qg e hi (by omega)
  have ih := Qlt h l hl r (p ++ [x]) (i + 1) (Qf e) hn
  rw [List.getLast?_concat] at ih
  rw [Qe3]
  by_cases hp : p = []
  ·have hi0 : ¬ 0 < i := by subst hp; simp at hi; omega
   simp [h0, hlt, hx, hw, ih, Qdp h.c_f35, Qbs h.c_f33, Qco h.c_f36, edgesFrom, edgeOK, hi0, hp]
   cases inR x.frm 1 9 <;> cases inR x.to 1 9 <;> cases inR x.kind 1 3 <;> cases inR x.key 0 5 <;> by_cases h3 : x.frm = x.to <;> simp [h3]
  ·obtain ⟨q, j, hq, hpos, hw1, h1, hq1, _⟩ := Qct e hi (by omega) hp
   have hc := Qkd q x
   simp [h0, hlt, hx, hw, ih, Qdp h.c_f35, Qbs h.c_f33, Qco h.c_f36, edgesFrom, edgeOK, hq, hpos, hw1, h1, hq1, Qe0 h.c_f28]
   cases inR x.frm 1 9 <;> cases inR x.to 1 9 <;> cases inR x.kind 1 3 <;> cases inR x.key 0 5 <;> by_cases h3 : x.frm = x.to <;> cases h4 : edgeLt q x <;> simp_all <;> omega
theorem f3_is (h : G_f3 E) (l : List Edge) (hl : l.length ≤ 1048576) : E 3 [edgesU l] = some (.bool (areEdges l)) := by
 rw [f3_E h]
 simp [Qlt h l hl l [] 0 rfl rfl, areEdges]
theorem Qm6 (l : List Edge) (hl : l.length ≤ 9223372036854775807) (q : Nat) (caps : List U) (P : Edge → Bool) (hp : ∀ x ∈ l, E q (Edge.u x :: caps) = some (.bool (P x))) (hq : q < 100000) : ∀ (r p : List Edge) (i : Int), l = p ++ r → i = p.length →
  f75_l0 E (.sl 4 (l.map Edge.u)) (.fn q caps) (.int .i64 l.length) (.int .i64 i) = some (.int .i64 (idxF P r i))
 | [], p, i, e, hi => by
  rw [Qg6]
  simp [Qi e hi, idxF]
 | x :: r, p, i, e, hi => by
  obtain ⟨h0, hlt, hx, hw, hn, _⟩ := Qg e hi hl
  have hpx := hp x (by rw [e]; simp)
  have ih := Qm6 l hl q caps P hp hq r (p ++ [x]) (i + 1) (Qf e) hn
  rw [Qg6]
  cases h1 : P x <;> simp [hlt, hx, hw, ih, hpx, hq, h1, idxF]
theorem Qw1 (h : G_f75 E) (l : List Edge) (hl : l.length ≤ 9223372036854775807) (q : Nat) (caps : List U) (P : Edge → Bool) (hp : ∀ x ∈ l, E q (Edge.u x :: caps) = some (.bool (P x))) (hq : q < 100000 := by decide) :
  E 66 [.sl 4 (l.map Edge.u), .fn q caps] = some (.int .i64 (idxF P l 0)) := by
 rw [f75_E h]
 simp [Qm6 l hl q caps P hp hq l [] 0 rfl rfl]
theorem Qmz (h : G_f70 E) (l : List Edge) (hl : l.length ≤ 9223372036854775807) (q : Nat) (caps : List U) (P : Edge → Bool) (hp : ∀ x ∈ l, E q (Edge.u x :: caps) = some (.bool (P x))) (hq : q < 100000 := by decide) :
  E 65 [.sl 4 (l.map Edge.u), .fn q caps] = some (.bool (l.any P)) := by
 rw [f70_E h]
 simp [Qw1 h.c_f75 l hl q caps P hp hq, Qff]
theorem Qm8 (l : List Int) (hl : l.length ≤ 9223372036854775807) (v : Int) : ∀ (r p : List Int) (i : Int), l = p ++ r → i = p.length →
  f76_l0 E (.sl 1 (l.map intU)) (.int .i64 v) (.int .i64 l.length) (.int .i64 i) = some (.int .i64 (idxF (fun x => decide (x = v)) r i))
 | [], p, i, e, hi => by
  rw [Qm7]
  simp [Qi e hi, idxF]
 | x :: r, p, i, e, hi => by
  obtain ⟨h0, hlt, hx, hw, hn, _⟩ := Qg e hi hl
  have ih := Qm8 l hl v r (p ++ [x]) (i + 1) (Qf e) hn
  rw [Qm7]
  by_cases h1 : x = v
  ·simp [hlt, hx, hw, ih, h1, idxF]
  ·have h2 : v ≠ x := fun e => h1 e.symm
   simp [hlt, hx, hw, ih, h1, h2, idxF]
theorem Qw3 (h : G_f76 E) (l : List Int) (hl : l.length ≤ 9223372036854775807) (v : Int) :
  E 43 [.sl 1 (l.map intU), .int .i64 v] = some (.int .i64 (idxF (fun x => decide (x = v)) l 0)) := by
 rw [f76_E h]
 simp [Qm8 l hl v l [] 0 rfl rfl]
theorem Qds (h : G_f71 E) (l : List Int) (hl : l.length ≤ 9223372036854775807) (v : Int) :
  E 42 [.sl 1 (l.map intU), .int .i64 v] = some (.bool (decide (v ∈ l))) := by
 rw [f71_E h]
 simp [Qw3 h.c_f76 l hl v, Qyr]
def isEdge (a b : Int) (e : Edge) : Bool := decide (e.frm = a) && decide (e.to = b)
def hasEdge (l : List Edge) (a b : Int) : Bool := l.any (isEdge a b)
theorem Quh (h : G_f19 E) (e : Edge) (a b : Int) : E 64 [e.u, .vp (.int .i64 a), .vp (.int .i64 b)] = some (.bool (isEdge a b e)) := by
 rw [f19_E h]
 by_cases h1 : e.frm = a <;> simp [isEdge, h1]
theorem Qdl (h : G_f18 E) (l : List Edge) (hl : l.length ≤ 1048576) (a b : Int) : E 63 [edgesU l, .int .i64 a, .int .i64 b] = some (.bool (hasEdge l a b)) := by
 rw [f18_E h]
 simp [Qmz h.c_f70 l (by omega) 64 [.vp (.int .i64 a), .vp (.int .i64 b)] (isEdge a b) (fun e _ => Quh h.c_f19 e a b), hasEdge]
theorem Qns (l : List Edge) (hl : l.length ≤ 1048576) (a b : Int) : ∀ (r p : List Edge) (i : Int), l = p ++ r → i = p.length →
  f84_l0 E (edgesU l) (.int .i64 a) (.int .i64 b) (.int .i64 i) = some (.bool (r.any (isEdge a b)))
 | [], p, i, e, hi => by
  rw [Qnr]
  simp [Qi e hi]
 | x :: r, p, i, e, hi => by
  obtain ⟨h0, hlt, hx, hw, hn, _⟩ := Qg e hi (by omega)
  have ih := Qns l hl a b r (p ++ [x]) (i + 1) (Qf e) hn
  rw [Qnr]
  by_cases h1 : x.frm = a <;> by_cases h2 : x.to = b <;> simp [hlt, hx, hw, ih, h1, h2, isEdge]
theorem Qe4 (h : G_f84 E) (l : List Edge) (hl : l.length ≤ 1048576) (a b : Int) : E 62 [edgesU l, .int .i64 a, .int .i64 b] = some (.bool (hasEdge l a b)) := by
 rw [f84_E h]
 exact Qns l hl a b l [] 0 rfl rfl
def cycFrom (l : List Edge) (c : List Int) : List Int → List Int → Bool
 | _, [] => true
 | p, x :: r => !decide (x ∈ p) && hasEdge l x (c.getD ((p.length + 1) % c.length) 0) && cycFrom l c (p ++ [x]) r
def isCycle (l : List Edge) (c : List Int) : Bool := areEdges l && decide (1 < c.length) && cycFrom l c [] c
theorem Qhz {c p r : List Int} {x i : Int} (e : c = p ++ x :: r) (hi : i = p.length) (hl : c.length ≤ 1048576) :
  ∃ j, (i + 1).tmod c.length = j ∧ ((c.length : Int) = 0 → False) ∧ ∀ {γ : Type} (K : U → Option γ), U.elemAt 1 (.sl 1 (c.map intU)) j K = K (intU (c.getD ((p.length + 1) % c.length) 0)) := by
 have hpos : 0 < c.length := by rw [e, List.length_append, List.length_cons]; omega
 refine ⟨((p.length + 1) % c.length : Nat), ?_, by omega, fun K => ?_⟩
 ·subst hi
  rw [Int.tmod_eq_emod_of_nonneg (by omega)]
  rw [Int.natCast_emod]
  rfl
 ·have hlt : (p.length + 1) % c.length < c.length := Nat.mod_lt _ hpos
  exact Qu intU (Int.natCast_nonneg _) (by rw [Int.toNat_natCast, List.getElem?_eq_getElem hlt, List.getD_eq_getElem?_getD, List.getElem?_eq_getElem hlt]; rfl) K
theorem Qml (h : G_f5 E) (l : List Edge) (hl : l.length ≤ 1048576) (c : List Int) (hc : c.length ≤ 1048576) : ∀ (r p : List Int) (i : Int), c = p ++ r → i = p.length →
  f5_l0 E (edgesU l) (intsU c) (intsU c) (.int .i64 c.length) (.int .i64 i) = some (.bool (cycFrom l c p r))
 | [], p, i, e, hi => by
  rw [Qg5]
  simp [Qi e hi, cycFrom]
 | x :: r, p, i, e, hi => by
  obtain ⟨h0, hlt, hx, hw, hn, _⟩ := Qg e hi (by omega)
  obtain ⟨j, hj, hz, hj2⟩ := Qhz e hi hc
  have ih := Qml h l hl c hc r (p ++ [x]) (i + 1) (Qf e) hn
  have hp : p.length ≤ 9223372036854775807 := by have := congrArg List.length e; simp at this; omega
  have hcut := Qfi (k := 1) intU e hi
  have hz' : c ≠ [] := by rw [e]; simp
  rw [Qg5]
  by_cases h1 : x ∈ p
  ·simp [hlt, hx, hw, hcut, Qds h.c_f71 p hp, h1, cycFrom]
  ·cases h2 : hasEdge l x (c.getD ((p.length + 1) % c.length) 0) <;>
    simp [hlt, hx, hw, hcut, Qds h.c_f71 p hp, h1, cycFrom, hj, hz', hj2, Qdl h.c_f18 l hl, h2, ih, -List.getD_eq_getElem?_getD]
theorem f5_is (h : G_f5 E) (l : List Edge) (hl : l.length ≤ 1048576) (c : List Int) (hc : c.length ≤ 1048576) : E 60 [edgesU l, intsU c] = some (.bool (isCycle l c)) := by
 rw [f5_E h]
 have h1 := f3_is h.c_f3 l hl
 cases h2 : areEdges l
 ·simp [h1, h2, isCycle]
 ·by_cases h3 : (c.length : Int) < 2
  ·have : ¬ 1 < c.length := by omega
   simp [h1, h2, h3, isCycle, this]
  ·have : 1 < c.length := by omega
   simp [h1, h2, h3, isCycle, this, Qml h l hl c hc c [] 0 rfl rfl]
theorem Qnk (h : G_f79 E) (l : List Edge) (hl : l.length ≤ 1048576) (c : List Int) (hc : c.length ≤ 1048576) (x : Int) (r p : List Int) (i : Int) (e : c = p ++ x :: r) (hi : i = p.length) : ∀ (s q : List Int) (k : Int), p = q ++ s → k = q.length →
  f79_l1 E (edgesU l) (intsU c) (.int .i64 i) (.int .i64 k) = if x ∈ s ∨ hasEdge l x (c.getD ((p.length + 1) % c.length) 0) = false then some (.bool false) else f79_l0 E (edgesU l) (intsU c) (.int .i64 (i + 1))
 | [], q, k, e2, hk => by
  obtain ⟨h0, hlt, hx, hw, hn, _⟩ := Qg e hi (by omega)
  obtain ⟨j, hj, hz, hj2⟩ := Qhz e hi hc
  have hki : ¬ k < i := by rw [hi, e2, hk]; simp
  have hz' : c ≠ [] := by rw [e]; simp
  rw [Qnj]
  cases h2 : hasEdge l x (c.getD ((p.length + 1) % c.length) 0) <;>
   simp [hki, hx, hw, hj, hj2, hz', Qe4 h.c_f84 l hl, h2, -List.getD_eq_getElem?_getD]
 | y :: s, q, k, e2, hk => by
  obtain ⟨h0, hlt, hx, hw, hn, _⟩ := Qg e hi (by omega)
  have hki : k < i := by rw [hi, e2, hk]; simp; omega
  have e3 : c = q ++ y :: (s ++ x :: r) := by rw [e, e2]; simp
  obtain ⟨k0, klt, kx, kw, kn, _⟩ := Qg e3 hk (by omega)
  have ih := Qnk h l hl c hc x r p i e hi s (q ++ [y]) (k + 1) (Qf e2) kn
  rw [Qnj]
  by_cases h1 : y = x
  ·simp [hki, kx, hx, h1]
  ·have h1' : ¬ x = y := fun e => h1 e.symm
   simp only [Qk, Option.bind_some, hki, decide_true, Qc, if_true, Ql, kx, hx, Qs, Qy, h1, decide_false, Bool.false_eq_true, if_false, Qn, kw, List.mem_cons, h1', false_or]
   exact ih
theorem Qni (h : G_f79 E) (l : List Edge) (hl : l.length ≤ 1048576) (c : List Int) (hc : c.length ≤ 1048576) : ∀ (r p : List Int) (i : Int), c = p ++ r → i = p.length →
  f79_l0 E (edgesU l) (intsU c) (.int .i64 i) = some (.bool (cycFrom l c p r && (areEdges l && decide (1 < c.length))))
 | [], p, i, e, hi => by
  rw [Qnh]
  have h1 : decide (1 < (c.length : Int)) = decide (1 < c.length) := by congr 1; simp only [eq_iff_iff]; omega
  cases h2 : areEdges l <;> simp [Qi e hi, cycFrom, Qdt h.c_f77 l hl, h2, h1]
 | x :: r, p, i, e, hi => by
  obtain ⟨h0, hlt, hx, hw, hn, _⟩ := Qg e hi (by omega)
  have ih := Qni h l hl c hc r (p ++ [x]) (i + 1) (Qf e) hn
  have h1 := Qnk h l hl c hc x r p i e hi p [] 0 rfl rfl
  rw [Qnh]
  simp only [Qr, List.length_map, Option.bind_some, Qk, hlt, decide_true, Qc, if_true]
  rw [h1, ih]
  simp only [cycFrom]
  by_cases h3 : x ∈ p
  ·simp [h3]
  ·cases h2 : hasEdge l x (c.getD ((p.length + 1) % c.length) 0) <;> simp [h3]
theorem Qw7 (h : G_f79 E) (l : List Edge) (hl : l.length ≤ 1048576) (c : List Int) (hc : c.length ≤ 1048576) : E 61 [edgesU l, intsU c] = some (.bool (isCycle l c)) := by
 rw [f79_E h, Qni h l hl c hc c [] 0 rfl rfl]
 simp only [isCycle, Bool.and_comm]
theorem Qwd (h : G_f5 E) (c : List Int) (hc : c.length ≤ 1048576) : E 60 [.nsl 4, intsU c] = some (.bool false) := by
 have h3 : E 3 [.nsl 4] = some (.bool true) := by
  rw [f3_E h.c_f3]
  simp
  rw [Qe3]
  simp
 have h63 : ∀ a b : Int, E 63 [.nsl 4, .int .i64 a, .int .i64 b] = some (.bool false) := fun a b => by
  rw [f18_E h.c_f18]
  simp
  rw [f70_E h.c_f18.c_f70, f75_E h.c_f18.c_f70.c_f75]
  simp
  rw [Qg6]
  simp
 rw [f5_E h]
 by_cases h2 : (c.length : Int) < 2
 ·simp [h3, h2]
 ·obtain ⟨x, r, e⟩ : ∃ x r, c = [] ++ x :: r := by
   cases c with
   | nil => exact absurd (by simp) h2
   | cons x r => exact ⟨x, r, rfl⟩
  have hcon := Qds h.c_f71 [] (by simp) x
  have hz' : c ≠ [] := by rw [e]; simp
  have hl : ∀ i : Int, i = (([] : List Int).length : Int) → f5_l0 E (.nsl 4) (intsU c) (intsU c) (.int .i64 c.length) (.int .i64 i) = some (.bool false) := fun i hi => by
   obtain ⟨h0, hlt, hx, hw, hn, _⟩ := Qg e hi (by omega)
   obtain ⟨j, hj, hz, hj2⟩ := Qhz e hi hc
   have hcut := Qfi (k := 1) intU e hi
   simp only [List.map_nil] at hcon hcut
   rw [Qg5]
   simp [hlt, hx, hw, hcut, hcon, hj, hz', hj2, h63, -List.getD_eq_getElem?_getD]
  have hl0 := hl 0 rfl
  simp [h3, h2, hl0]
theorem Qj8 (l : List Entry) (g : List Edge) (hg : ∀ e ∈ g, inIds l e.frm) (c : List Int) : ∀ (r p : List Int), cycFrom g c p r = true → ∀ x ∈ r, inIds l x
 | [], _, _, x, hx => by cases hx
 | y :: r, p, h, x, hx => by
  simp only [cycFrom, Bool.and_eq_true] at h
  rcases List.mem_cons.1 hx with rfl | hx
  ·obtain ⟨e, he, hp⟩ := List.any_eq_true.1 h.1.2
   simp only [isEdge, Bool.and_eq_true, decide_eq_true_eq] at hp
   rw [← hp.1]
   exact hg e he
  ·exact Qj8 l g hg c r (p ++ [y]) h.2 x hx
theorem Qgn (l : List Entry) (c : List Int) (h : isCycle (buildGraph l) c = true) : (∀ x ∈ c, inIds l x) ∧ 1 < c.length := by
 simp only [isCycle, Bool.and_eq_true, decide_eq_true_eq] at h
 exact ⟨Qj8 l (buildGraph l) (fun e he => (Qs3 l e he).1) c c [] h.2, h.1.2⟩
theorem f5_of (h : G_f5 E) (l : List Entry) (c : List Int) (hc : c.length ≤ 1048576) : E 60 [buildGraphU l, intsU c] = some (.bool (isCycle (buildGraph l) c)) := by
 have hlen := Qb5 l
 unfold buildGraphU
 split
 ·exact f5_is h (buildGraph l) (by omega) c hc
 ·rename_i g
  rw [Qwd h c hc]
  have : buildGraph l = [] := by unfold buildGraph; rw [if_neg g]
  rw [this]
  cases c with
  | nil => simp [isCycle]
  | cons x r => simp [isCycle, cycFrom, hasEdge]
theorem Qm3 (l : List Int) (hl : l.length ≤ 9223372036854775807) (q : Nat) (caps : List U) (P : Int → Bool) (hp : ∀ x ∈ l, E q (intU x :: caps) = some (.bool (P x))) (hq : q < 100000) : ∀ (r p : List Int) (i : Int), l = p ++ r → i = p.length →
  f73_l0 E (.sl 1 (l.map intU)) (.fn q caps) (.int .i64 l.length) (.int .i64 i) = some (.int .i64 (idxF P r i))
 | [], p, i, e, hi => by
  rw [Qm2]
  simp [Qi e hi, idxF]
 | x :: r, p, i, e, hi => by
  obtain ⟨h0, hlt, hx, hw, hn, _⟩ := Qg e hi hl
  have hpx := hp x (by rw [e]; simp)
  simp only [intU] at hpx
  have ih := Qm3 l hl q caps P hp hq r (p ++ [x]) (i + 1) (Qf e) hn
  rw [Qm2]
  cases h1 : P x <;> simp [hlt, hx, hw, ih, hpx, hq, h1, idxF]
theorem Qwx (h : G_f73 E) (l : List Int) (hl : l.length ≤ 9223372036854775807) (q : Nat) (caps : List U) (P : Int → Bool) (hp : ∀ x ∈ l, E q (intU x :: caps) = some (.bool (P x))) (hq : q < 100000 := by decide) :
  E 447 [.sl 1 (l.map intU), .fn q caps] = some (.int .i64 (idxF P l 0)) := by
 rw [f73_E h]
 simp [Qm3 l hl q caps P hp hq l [] 0 rfl rfl]
theorem Qwp (h : G_f68 E) (l : List Int) (hl : l.length ≤ 9223372036854775807) (q : Nat) (caps : List U) (P : Int → Bool) (hp : ∀ x ∈ l, E q (intU x :: caps) = some (.bool (P x))) (hq : q < 100000 := by decide) :
  E 445 [.sl 1 (l.map intU), .fn q caps] = some (.bool (l.any P)) := by
 rw [f68_E h]
 simp [Qwx h.c_f73 l hl q caps P hp hq, Qff]
def writesOf (l : List Entry) (c : Int) : List Write := match entryOf l c with
 | some x => x.writes
 | none => []
def onlyAnti (g : List Edge) (a b : Int) : Bool := g.all fun e => !(decide (e.frm = a) && (decide (e.to = b) && decide (e.kind ≠ 3)))
def common (w1 w2 : List Write) : Bool := w1.any fun w => w2.any fun v => decide (v.key = w.key)
def classify (l : List Entry) (c : List Int) : Int :=
 if isCycle (buildGraph l) c = true then
  if (c.any fun id => decide ((writesOf l id).length = 0)) = true then 3
  else if c.length = 2 then
   if common (writesOf l (c.getD 0 0)) (writesOf l (c.getD 1 0)) = true then 1
   else if onlyAnti (buildGraph l) (c.getD 0 0) (c.getD 1 0) = true ∧ onlyAnti (buildGraph l) (c.getD 1 0) (c.getD 0 0) = true then 2 else 4
  else 4
 else 0
theorem Qs4 (l : List Entry) : ∀ e ∈ buildGraph l, e.frm ≠ e.to := fun e he => by
 unfold buildGraph at he
 split at he
 ·rw [graphOf, Qfq] at he
  rcases he with he | ⟨_, hk⟩
  ·cases he
  ·simp only [keepE, Bool.and_eq_true, Bool.not_eq_true', decide_eq_false_iff_not] at hk
   exact hk.2.2
 ·cases he
theorem Qe9 (l : List Entry) (c : Int) (h : inIds l c) : ∃ x, entryOf l c = some x ∧ x ∈ l ∧ writesOf l c = x.writes ∧ ∀ {γ : Type} (K : U → Option γ), U.elemAt 4 (.sl 4 (l.map Entry.u)) (findE l c) K = K x.u := by
 obtain ⟨x, h1, h2, _, h4⟩ := Qx3 l c h
 exact ⟨x, h1, h2, by simp [writesOf, h1], h4⟩
theorem Qs9 {l : List Entry} {c : List Int} (g : isCycle (buildGraph l) c = false) : classify l c = 0 := by
 unfold classify
 rw [if_neg (by rw [g]; simp)]
theorem Qta {l : List Entry} {c : List Int} (g : isCycle (buildGraph l) c = true) (hr : (c.any fun id => decide ((writesOf l id).length = 0)) = true) : classify l c = 3 := by
 unfold classify
 rw [if_pos g, if_pos hr]
theorem Qs8 {l : List Entry} {c : List Int} (g : isCycle (buildGraph l) c = true) (hr : (c.any fun id => decide ((writesOf l id).length = 0)) = false) (h2 : ¬ c.length = 2) : classify l c = 4 := by
 unfold classify
 rw [if_pos g, if_neg (by rw [hr]; simp), if_neg h2]
theorem Qgm {l : List Entry} {a b : Int} (g : isCycle (buildGraph l) [a, b] = true) (hr : ([a, b].any fun id => decide ((writesOf l id).length = 0)) = false) : classify l [a, b] = if common (writesOf l a) (writesOf l b) = true then 1 else if onlyAnti (buildGraph l) a b = true ∧ onlyAnti (buildGraph l) b a = true then 2 else 4 := by
 unfold classify
 rw [if_pos g, if_neg (by rw [hr]; simp), if_pos (show [a, b].length = 2 from rfl)]
 rfl
theorem Qhn (h : G_f7 E) (l : List Entry) (hl : l.length ≤ 1048576) (c : Int) (hc : inIds l c) : ∃ x, entryOf l c = some x ∧ x ∈ l ∧ writesOf l c = x.writes ∧ E 446 [.int .i64 c, .vp (.sl 4 (l.map Entry.u))] = some x.u := by
 obtain ⟨x, h1, h2, h3, h4⟩ := Qe9 l c hc
 refine ⟨x, h1, h2, h3, ?_⟩
 rw [f7_E h]
 simp [U.asVp, Qkx h.c_f16 l hl, h4]
theorem Qys (h : G_f8 E) (h1 : G_f7 E) (l : List Entry) (hl : l.length ≤ 1048576) (c : Int) (hc : inIds l c) : E 444 [.int .i64 c, .vp (.fn 446 [.vp (.sl 4 (l.map Entry.u))])] = some (.bool (decide ((writesOf l c).length = 0))) := by
 obtain ⟨x, _, _, h3, h4⟩ := Qhn h1 l hl c hc
 rw [f8_E h, h3]
 simp [U.asVp, U.asFn, h4]
def between (c : List Int) (e : Edge) : Bool := decide (e.frm ∈ c) && decide (e.to ∈ c)
theorem Qyt (h : G_f9 E) (c : List Int) (hc : c.length ≤ 1048576) (e : Edge) : E 443 [e.u, .vp (.sl 1 (c.map intU))] = some (.bool (between c e)) := by
 rw [f9_E h]
 have h1 := fun x => Qds h.c_f71 c (by omega) x
 by_cases h2 : e.frm ∈ c <;> simp [U.asVp, h1, h2, between]
theorem Qyv (h : G_f11 E) (h3 : G_f9 E) (c : List Int) (hc : c.length ≤ 1048576) (e : Edge) : E 441 [e.u, .vp (.fn 443 [.vp (.sl 1 (c.map intU))])] = some (.bool (between c e && decide (e.kind ≠ 3))) := by
 rw [f11_E h]
 have h1 := Qyt h3 c hc e
 cases h2 : between c e <;> simp [U.asVp, U.asFn, h1, h2]
theorem Qyu (h : G_f10 E) (x : Entry) (hx : x.ok) (w : Write) : E 442 [w.u, .vp x.u] = some (.bool (x.has w.key)) := by
 rw [f10_E h]
 simp [U.asVp, Qhq h.c_f12 x (by have := hx.2; omega)]
theorem onlyBoth (l : List Entry) (a b : Int) (hab : a ≠ b) : (!((buildGraph l).any fun e => between [a, b] e && decide (e.kind ≠ 3))) = decide (onlyAnti (buildGraph l) a b = true ∧ onlyAnti (buildGraph l) b a = true) := by
 rw [Bool.eq_iff_iff]
 simp only [Bool.not_eq_true', decide_eq_true_eq, onlyAnti, List.all_eq_true, List.any_eq_false, between, List.mem_cons, List.not_mem_nil, or_false, Bool.and_eq_true, Bool.not_eq_true', Bool.and_eq_false_iff, decide_eq_false_iff_not, Bool.decide_and, Bool.decide_eq_true]
 constructor
 ·intro h
  refine ⟨fun e he => ?_, fun e he => ?_⟩
  ·have := h e he
   by_cases h1 : e.frm = a
   ·by_cases h2 : e.to = b
    ·right; right
     intro h3
     exact this ⟨⟨.inl h1, .inr h2⟩, h3⟩
    ·exact .inr (.inl h2)
   ·exact .inl h1
  ·have := h e he
   by_cases h1 : e.frm = b
   ·by_cases h2 : e.to = a
    ·right; right
     intro h3
     exact this ⟨⟨.inr h1, .inl h2⟩, h3⟩
    ·exact .inr (.inl h2)
   ·exact .inl h1
 ·rintro ⟨h1, h2⟩ e he ⟨⟨h3, h4⟩, h5⟩
  have hne := Qs4 l e he
  rcases h3 with h3 | h3 <;> rcases h4 with h4 | h4
  ·exact hne (h3.trans h4.symm)
  ·rcases h1 e he with h | h | h
   ·exact h h3
   ·exact h h4
   ·exact h h5
  ·rcases h2 e he with h | h | h
   ·exact h h3
   ·exact h h4
   ·exact h h5
  ·exact hne (h3.trans h4.symm)
theorem Qqa {c : List Int} (h : c.length = 2) : ∃ a b, c = [a, b] := by
 match c, h with
 | [a, b], _ => exact ⟨a, b, rfl⟩
theorem Qth (g : List Edge) (a b : Int) (h : isCycle g [a, b] = true) : a ≠ b := by
 simp only [isCycle, cycFrom, Bool.and_eq_true, Bool.not_eq_true', decide_eq_false_iff_not] at h
 have := h.2.2.1.1
 intro e
 subst e
 simp at this
theorem Qo3 (h : G_f6 E) (l : List Entry) (hl : l.length ≤ 1048576) (ho : ∀ x ∈ l, x.ok) (c : List Int) (hc : c.length ≤ 1048576) : E 438 [.sl 4 (l.map Entry.u), .sl 1 (c.map intU)] = some (.int .i64 (classify l c)) := by
 rw [f6_E h]
 have hg := f4_is h.c_f4 l hl ho
 have hk := f5_of h.c_f5 l c hc
 cases g : isCycle (buildGraph l) c with
 | false => simp [hg, hk, g, Qs9 g]
 | true =>
  obtain ⟨hin, hlen⟩ := Qgn l c g
  have hU : buildGraphU l = .sl 4 ((buildGraph l).map Edge.u) := by
   unfold buildGraphU
   split
   ·rfl
   ·rename_i hn
    have : buildGraph l = [] := by unfold buildGraph; rw [if_neg hn]
    rw [this] at g
    cases c with
    | nil => simp at hlen
    | cons x r => simp [isCycle, cycFrom, hasEdge] at g
  have h445 := Qwp h.c_f68 c (by omega) 444 [.vp (.fn 446 [.vp (.sl 4 (l.map Entry.u))])] (fun id => decide ((writesOf l id).length = 0)) (fun x hx => Qys h.c_f8 h.c_f7 l hl x (hin x hx))
  cases hr : c.any (fun id => decide ((writesOf l id).length = 0)) with
  | true =>
   rw [hr] at h445
   simp [hg, hk, g, Qta g hr, h445]
  | false =>
   rw [hr] at h445
   by_cases h2 : c.length = 2
   ·obtain ⟨a, b, rfl⟩ := Qqa h2
    have hab := Qth _ a b g
    obtain ⟨xa, _, ma, wa, ea⟩ := Qhn h.c_f7 l hl a (hin a (by simp))
    obtain ⟨xb, _, mb, wb, eb⟩ := Qhn h.c_f7 l hl b (hin b (by simp))
    have h54 := Qmy h.c_f69 xa.writes (by have := (ho xa ma).2; omega) 442 [.vp xb.u] (fun w => xb.has w.key) (fun w _ => Qyu h.c_f10 xb (ho xb mb) w)
    have h65 := Qmz h.c_f70 (buildGraph l) (by have := Qb5 l; omega) 441 [.vp (.fn 443 [.vp (.sl 1 ([a, b].map intU))])] (fun e => between [a, b] e && decide (e.kind ≠ 3)) (fun e _ => Qyv h.c_f11 h.c_f9 [a, b] hc e)
    have hbo := onlyBoth l a b hab
    have hco : (xa.writes.any fun w => xb.has w.key) = common (writesOf l a) (writesOf l b) := by rw [wa, wb]; rfl
    rw [hco] at h54
    have hx0 : ∀ {γ : Type} (K : U → Option γ), U.elemAt 1 (.sl 1 ([a, b].map intU)) 0 K = K (intU a) := fun K => rfl
    have hx1 : ∀ {γ : Type} (K : U → Option γ), U.elemAt 1 (.sl 1 ([a, b].map intU)) 1 K = K (intU b) := fun K => rfl
    rw [hU] at hg hk
    simp only [intsU, List.map_cons, List.map_nil, intU] at h445 h65 hx0 hx1 hk
    cases hcm : common (writesOf l a) (writesOf l b) with
    | true =>
     rw [hcm] at h54
     simp [hg, hk, g, Qgm g hr, h445, hx0, hx1, ea, eb, h54, hcm, intU]
    | false =>
     rw [hcm] at h54
     by_cases hb2 : onlyAnti (buildGraph l) a b = true ∧ onlyAnti (buildGraph l) b a = true
     ·have hf : (buildGraph l).any (fun e => between [a, b] e && decide (e.kind ≠ 3)) = false := by
       simpa [hb2] using hbo
      rw [hf] at h65
      simp [hg, hk, g, Qgm g hr, h445, hx0, hx1, ea, eb, h54, hcm, h65, hb2, intU]
     ·have hf : (buildGraph l).any (fun e => between [a, b] e && decide (e.kind ≠ 3)) = true := by
       rw [decide_eq_false hb2] at hbo
       simpa using hbo
      rw [hf] at h65
      simp [hg, hk, g, Qgm g hr, h445, hx0, hx1, ea, eb, h54, hcm, h65, hb2, intU]
   ·have h3 : ¬ (c.length : Int) = 2 := by omega
    simp [hg, hk, g, Qs8 g hr h2, h445, h3]
theorem Qol (g : List Edge) (hg : g.length ≤ 1048576) (a b : Int) : ∀ (r p : List Edge) (i : Int), g = p ++ r → i = p.length →
  f95_l0 E (.sl 4 (g.map Edge.u)) (.int .i64 a) (.int .i64 b) (.int .i64 i) = some (.bool (onlyAnti r a b))
 | [], p, i, e, hi => by
  rw [Qok]
  simp [Qi e hi, onlyAnti]
 | x :: r, p, i, e, hi => by
  obtain ⟨h0, hlt, hx, hw, hn, _⟩ := Qg e hi (by omega)
  have ih := Qol g hg a b r (p ++ [x]) (i + 1) (Qf e) hn
  simp only [onlyAnti] at ih ⊢
  rw [Qok]
  by_cases h1 : x.frm = a
  ·by_cases h2 : x.to = b
   ·by_cases h3 : x.kind = 3 <;> simp [hlt, hx, hw, ih, h1, h2, h3]
   ·simp [hlt, hx, hw, ih, h1, h2]
  ·simp [hlt, hx, hw, ih, h1]
theorem Qoj (h : G_f95 E) (g : List Edge) (hg : g.length ≤ 1048576) (a b : Int) : E 440 [.sl 4 (g.map Edge.u), .int .i64 a, .int .i64 b] = some (.bool (onlyAnti g a b)) := by
 rw [f95_E h]
 exact Qol g hg a b g [] 0 rfl rfl
def kindOf (g : List Edge) (a b : Int) : Int := if onlyAnti g a b = true ∧ onlyAnti g b a = true then 2 else 4
theorem Qrx (g : List Edge) (a b : Int) (xa xb : Entry) (hoa : xa.ok) (hob : xb.ok) (i : Int) (w : Write) (h0 : 0 ≤ i) (hi : xa.writes[i.toNat]? = some w) (hw : IntKind.i64.wrap (i + 1) = i + 1) : ∀ (r p : List Write) (j : Int), xb.writes = p ++ r → j = p.length →
  f80_l1 E (.sl 1 [.int .i64 a, .int .i64 b]) (.sl 4 (g.map Edge.u)) (.int .i64 i) (.int .i64 j) xa.u xb.u = if (r.any fun v => decide (v.key = w.key)) = true then some (.int .i64 1) else f80_l0 E (.sl 1 [.int .i64 a, .int .i64 b]) (.sl 4 (g.map Edge.u)) (.int .i64 (i + 1)) xa.u xb.u
 | [], p, j, e, hj => by
  rw [Qnm]
  simp [Qi e hj, hw]
 | y :: r, p, j, e, hj => by
  have hwx : ∀ {γ : Type} (K : U → Option γ), U.elemAt 2 (.sl 2 (xa.writes.map Write.u)) i K = K w.u := fun K => Qu Write.u h0 hi K
  obtain ⟨j0, hlt, hy, hwj, hn, _⟩ := Qg e hj (by have := hob.2; omega)
  have ih := Qrx g a b xa xb hoa hob i w h0 hi hw r (p ++ [y]) (j + 1) (Qf e) hn
  rw [Qnm]
  by_cases h1 : y.key = w.key
  ·simp [hlt, hwx, hy, h1]
  ·have h2 : ¬ w.key = y.key := fun e => h1 e.symm
   simp [hlt, hwx, hy, hwj, h1, h2, ih]
theorem Qrw (h : G_f80 E) (g : List Edge) (hg : g.length ≤ 1048576) (a b : Int) (xa xb : Entry) (hoa : xa.ok) (hob : xb.ok) : ∀ (r p : List Write) (i : Int), xa.writes = p ++ r → i = p.length →
  f80_l0 E (.sl 1 [.int .i64 a, .int .i64 b]) (.sl 4 (g.map Edge.u)) (.int .i64 i) xa.u xb.u = some (.int .i64 (if common r xb.writes = true then 1 else kindOf g a b))
 | [], p, i, e, hi => by
  have h1 := Qoj h.c_f95 g hg a b
  have h2 := Qoj h.c_f95 g hg b a
  have hx0 : ∀ {γ : Type} (K : U → Option γ), U.elemAt 1 (.sl 1 [.int .i64 a, .int .i64 b]) 0 K = K (.int .i64 a) := fun K => rfl
  have hx1 : ∀ {γ : Type} (K : U → Option γ), U.elemAt 1 (.sl 1 [.int .i64 a, .int .i64 b]) 1 K = K (.int .i64 b) := fun K => rfl
  rw [Qnl]
  cases c1 : onlyAnti g a b
  ·simp [Qi e hi, common, kindOf, hx0, hx1, h1, c1]
  ·cases c2 : onlyAnti g b a <;> simp [Qi e hi, common, kindOf, hx0, hx1, h1, h2, c1, c2]
 | w :: r, p, i, e, hi => by
  obtain ⟨h0, hlt, hx, hw, hn, hwi⟩ := Qg e hi (by have := hoa.2; omega)
  have ih := Qrw h g hg a b xa xb hoa hob r (p ++ [w]) (i + 1) (Qf e) hn
  have h1 := Qrx (E := E) g a b xa xb hoa hob i w h0 hwi hw xb.writes [] 0 rfl rfl
  have hce : common (w :: r) xb.writes = ((xb.writes.any fun v => decide (v.key = w.key)) || common r xb.writes) := by simp [common]
  rw [Qnl, hce]
  cases c1 : xb.writes.any (fun v => decide (v.key = w.key)) with
  | true =>
   rw [c1] at h1
   simp [hlt, h1]
  | false =>
   rw [c1] at h1
   simp [hlt, h1, ih]
theorem Qry (h : G_f80 E) (l : List Entry) (hl : l.length ≤ 1048576) (ho : ∀ x ∈ l, x.ok) (g : List Edge) (hg : g.length ≤ 1048576) (c : List Int) (hc : c.length ≤ 1048576) (hlen : 1 < c.length) (hin : ∀ x ∈ c, inIds l x) : ∀ (r p : List Int) (i : Int), c = p ++ r → i = p.length →
  f80_l2 E (.sl 4 (l.map Entry.u)) (.sl 1 (c.map intU)) (.sl 4 (g.map Edge.u)) (.int .i64 i) = some (.int .i64 (if (r.any fun id => decide ((writesOf l id).length = 0)) = true then 3 else if c.length = 2 then (if common (writesOf l (c.getD 0 0)) (writesOf l (c.getD 1 0)) = true then 1 else kindOf g (c.getD 0 0) (c.getD 1 0)) else 4))
 | [], p, i, e, hi => by
  have hlt := Qi e hi
  rw [Qnn]
  by_cases h2 : c.length = 2
  ·obtain ⟨a, b, rfl⟩ := Qqa h2
   obtain ⟨xa, _, ma, wa, ea⟩ := Qe9 l a (hin a (by simp))
   obtain ⟨xb, _, mb, wb, eb⟩ := Qe9 l b (hin b (by simp))
   have hf := fun d => Qg8 h.c_f83 l hl d
   have h0 := Qrw h g hg a b xa xb (ho xa ma) (ho xb mb) xa.writes [] 0 rfl rfl
   have hx0 : ∀ {γ : Type} (K : U → Option γ), U.elemAt 1 (.sl 1 [.int .i64 a, .int .i64 b]) 0 K = K (.int .i64 a) := fun K => rfl
   have hx1 : ∀ {γ : Type} (K : U → Option γ), U.elemAt 1 (.sl 1 [.int .i64 a, .int .i64 b]) 1 K = K (.int .i64 b) := fun K => rfl
   have hi2 : ¬ i < 2 := by simpa using hlt
   simp [hi2, intU, hx0, hx1, hf, ea, eb, h0, wa, wb]
  ·have h3 : (2 : Int) < c.length := by omega
   simp only [Qr, List.length_map, Option.bind_some, Qk, decide_eq_false hlt, Qc, Bool.false_eq_true, if_false, Qv, h3, decide_true, if_true, List.any_nil, h2]
 | x :: r, p, i, e, hi => by
  obtain ⟨h0, hlt, hx, hw, hn, _⟩ := Qg e hi (by omega)
  have ih := Qry h l hl ho g hg c hc hlen hin r (p ++ [x]) (i + 1) (Qf e) hn
  obtain ⟨xa, _, ma, wa, ea⟩ := Qe9 l x (hin x (by rw [e]; simp))
  have hf := Qg8 h.c_f83 l hl x
  rw [Qnn, List.any_cons]
  by_cases h1 : xa.writes.length = 0
  ·have h1' : xa.writes = [] := List.length_eq_zero_iff.1 h1
   simp only [Qr, List.length_map, Option.bind_some, Qk, hlt, decide_true, Qc, if_true, Ql, hx, Qs]
   simp [intU, hf, ea, wa, h1']
  ·have h1' : ¬ (xa.writes.length : Int) = 0 := by omega
   have h1n : ¬ xa.writes = [] := fun e => h1 (by rw [e]; rfl)
   simp only [wa, h1, decide_false, Bool.false_or]
   rw [← ih]
   simp only [Qr, List.length_map, Option.bind_some, Qk, hlt, decide_true, Qc, if_true, Ql, hx, Qs]
   simp [intU, hf, ea, h1n, hw]
theorem Qacp (h : G_f80 E) (l : List Entry) (hl : l.length ≤ 1048576) (ho : ∀ x ∈ l, x.ok) (c : List Int) (hc : c.length ≤ 1048576) : E 439 [.sl 4 (l.map Entry.u), .sl 1 (c.map intU)] = some (.int .i64 (classify l c)) := by
 rw [f80_E h]
 have hlen := Qb5 l
 have hg := Qnb h.c_f78 l hl ho
 have hk := Qw7 h.c_f79 (buildGraph l) (by omega) c hc
 cases g : isCycle (buildGraph l) c with
 | false => simp [hg, hk, g, classify]
 | true =>
  obtain ⟨hin, hl2⟩ := Qgn l c g
  have h1 := Qry h l hl ho (buildGraph l) (by omega) c hc hl2 hin c [] 0 rfl rfl
  simp only [hg, hk, g, Option.bind_some, Qec, Bool.not_true, Qc, Bool.false_eq_true, if_false, h1, classify, if_true, kindOf]
end Go.Proofs.YtlgblpngiamhaaaGreat.Am
