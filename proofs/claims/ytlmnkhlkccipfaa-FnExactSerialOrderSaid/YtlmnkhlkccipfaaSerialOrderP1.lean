import Derived.Test.YtlmnkhlkccipfaaSerialOrderP0
import Derived.Test.YtlmnkhlkccipfaaSerialOrderF0
import Derived.Test.YtlmnkhlkccipfaaSerialOrderF1
namespace Go.Proofs.Ytlmnkhlkccipfaa.Am
open Go Go.Sort
variable {E : Env}
set_option linter.unusedVariables false
def readEdges (l : List Entry) (x : Entry) : List ReadMark → List Edge
  | [] => []
  | m :: r => ⟨writerOf l m, x.id, 1, m.key⟩ :: ⟨x.id, nextWriter l m.key m.created, 3, m.key⟩ :: readEdges l x r
def writeEdges (l : List Entry) (x : Entry) : List Write → List Edge
  | [] => []
  | w :: r => ⟨x.id, nextWriter l w.key x.stamp, 2, w.key⟩ :: writeEdges l x r
def entryEdges (l : List Entry) (x : Entry) : List Edge := readEdges l x x.reads ++ writeEdges l x x.writes
def rawEdges (l : List Entry) : List Entry → List Edge
  | [] => []
  | x :: r => entryEdges l x ++ rawEdges l r
def graphOf (l : List Entry) : List Edge := (rawEdges l l).foldl putE []
def buildGraph (l : List Entry) : List Edge := if isHistory l = true then graphOf l else []
theorem readEdges_length (l : List Entry) (x : Entry) : ∀ r : List ReadMark, (readEdges l x r).length = 2 * r.length
  | [] => rfl
  | m :: r => by simp only [readEdges, List.length_cons, readEdges_length l x r]; omega
theorem writeEdges_length (l : List Entry) (x : Entry) : ∀ r : List Write, (writeEdges l x r).length = r.length
  | [] => rfl
  | m :: r => by simp only [writeEdges, List.length_cons, writeEdges_length l x r]
def addRaw (es : List Edge) (e : Edge) : List Edge := es ++ [e].filter keepE
theorem addRaw_length (es : List Edge) (e : Edge) : (addRaw es e).length ≤ es.length + 1 := by
  unfold addRaw
  rw [List.length_append]
  have := List.length_filter_le keepE [e]
  simp only [List.length_cons, List.length_nil] at this
  omega
theorem f22_is (h : G_f22 E) (es : List Edge) (hl : es.length ≤ 100000000) (a b c d : Int) :
    E 500363 (.agg [.tup [.sl 4 (es.map Edge.u)]] :: [.int .i64 a, .int .i64 b, .int .i64 c, .int .i64 d]) = some (.tup [.tup [], .sl 4 ((addRaw es ⟨a, b, c, d⟩).map Edge.u)]) := by
  rw [f22_E h]
  have e1 : U.flat.flats [(.agg [.int .i64 a, .int .i64 b, .int .i64 c, .int .i64 d] : U)] = true := rfl
  have e2 : ((es.map Edge.u).length + ([(.agg [.int .i64 a, .int .i64 b, .int .i64 c, .int .i64 d])] : List U).length) * 32 ≤ 140737488355328 := by
    rw [List.length_map, List.length_cons, List.length_nil]; omega
  have e3 : (partable (.val (.agg [.int .i64 a, .int .i64 b, .int .i64 c, .int .i64 d])) = true ∧ ((.agg [.int .i64 a, .int .i64 b, .int .i64 c, .int .i64 d]) : U).size = 4) := ⟨rfl, rfl⟩
  have e4 : ∀ n : Int, (partable (.val (.int .i64 n)) = true ∧ (.int .i64 n : U).size = 1) := fun n => ⟨rfl, rfl⟩
  by_cases h1 : a = 0
  · simp [h1, addRaw, keepE]
  · by_cases h2 : b = 0
    · simp [h1, h2, addRaw, keepE]
    · by_cases h3 : a = b
      · simp [h1, h2, h3, addRaw, keepE]
      · have e5 : (es.length + 1) * 32 ≤ 140737488355328 := by omega
        simp [addRaw, keepE, h1, h2, h3, Edge.u, e1, e3, e4, e5]
theorem slices_Compact_l1_is : ∀ (rest out mid : List Edge) (y : Edge) (k0 k1 n : Nat) (i j : Int), i = out.length → j = k1 → 1 ≤ k1 → out.length + mid.length + 1 = k0 + k1 → (out ++ mid ++ y :: rest).length = n → n ≤ 100000000 →
    f62_l1 E (.int .i64 i) k0 (n - k0) (.int .i64 j) ((out ++ mid ++ y :: rest).map Edge.u) = some (.sl 4 ((out ++ dedupFrom y rest).map Edge.u))
  | [], out, mid, y, k0, k1, n, i, j, hi, hj, hk, hlen, hn, hb => by
    subst hi; subst hj
    have hn2 : n = out.length + mid.length + 1 := by rw [← hn]; simp [Nat.add_assoc]
    rw [f62_l1_eq]
    have c1 : ¬ ((k1 : Int) < ((n - k0 : Nat) : Int)) := by omega
    have hL : ((out ++ mid ++ [y]).map Edge.u).length = n := by rw [List.length_map]; exact hn
    simp only [bin_lss, decide_eq_false c1, Option.bind_some, asBool_bool, Bool.false_eq_true, if_false, asInt_int, hL]
    rw [if_pos ⟨by trivial, by trivial, by omega, by omega, by omega⟩, if_pos ⟨by trivial, by rfl, by omega, by rfl, flats_edges _, by omega⟩, if_pos]
    · simp only [dedupFrom, List.append_nil, Option.some.injEq, U.sl.injEq, true_and]
      rw [List.map_append, List.map_append, List.append_assoc]
      have e1 : (out.length : Int).toNat = (out.map Edge.u).length := by simp
      have e2 : List.take (out.map Edge.u).length (out.map Edge.u ++ (mid.map Edge.u ++ [y].map Edge.u)) = out.map Edge.u := List.take_left' rfl
      rw [e1]
      simp only [List.append_assoc]
      rw [e2]
      exact List.take_left' rfl
    · refine ⟨by omega, ?_⟩
      simp only [List.length_append, List.length_take, List.length_map, List.length_replicate]
      omega
  | z :: rest, out, mid, y, k0, k1, n, i, j, hi, hj, hk, hlen, hn, hb => by
    subst hi; subst hj
    have hn2 : n = out.length + mid.length + 2 + rest.length := by rw [← hn]; simp; omega
    rw [f62_l1_eq]
    have c1 : ((k1 : Int) < ((n - k0 : Nat) : Int)) := by omega
    have hL : ((out ++ mid ++ y :: z :: rest).map Edge.u).length = n := by rw [List.length_map]; exact hn
    have hat : ((out ++ mid ++ y :: z :: rest).map Edge.u)[k0 + (k1 : Int).toNat]? = some z.u := by
      rw [List.getElem?_map, List.getElem?_append_right (by simp; omega)]
      have : k0 + (k1 : Int).toNat - (out ++ mid).length = 1 := by simp; omega
      rw [this]
      rfl
    have hat2 : ((out ++ mid ++ y :: z :: rest).map Edge.u)[k0 + ((k1 : Int) - 1).toNat]? = some y.u := by
      rw [List.getElem?_map, List.getElem?_append_right (by simp; omega)]
      have : k0 + ((k1 : Int) - 1).toNat - (out ++ mid).length = 0 := by simp; omega
      rw [this]
      rfl
    have w1 : IntKind.i64.wrap ((k1 : Int) - 1) = (k1 : Int) - 1 := wrap_in (by omega)
    have w2 : IntKind.i64.wrap ((k1 : Int) + 1) = (k1 : Int) + 1 := wrap_in (by omega)
    have w3 : IntKind.i64.wrap ((out.length : Int) + 1) = (out.length : Int) + 1 := wrap_in (by omega)
    simp only [bin_lss, decide_eq_true c1, Option.bind_some, asBool_bool, if_true, asInt_int, hL]
    rw [if_pos ⟨by trivial, by omega, by omega, by omega⟩, hat]
    simp only [Option.bind_some, Edge.u_var, Edge.u_flat, if_true, bin_sub, w1, asInt_int]
    rw [if_pos ⟨by trivial, by omega, by omega, by omega⟩, hat2]
    simp only [Option.bind_some, Edge.u_var, Edge.u_flat, if_true, Edge.u_eqv, asBool_bool]
    by_cases hzy : z = y
    · subst hzy
      have ih := slices_Compact_l1_is rest out (mid ++ [z]) z k0 (k1 + 1) n out.length ((k1 : Int) + 1) rfl (by omega) (by omega) (by simp; omega) (by rw [← hn]; simp) hb
      simp only [decide_true, Bool.not_true, Bool.false_eq_true, if_false, bin_add, w2, Option.bind_some]
      rw [show out ++ mid ++ z :: z :: rest = out ++ (mid ++ [z]) ++ z :: rest by simp, ih]
      simp [dedupFrom]
    · simp only [decide_eq_false hzy, Bool.not_false, if_true]
      rw [if_pos ⟨by trivial, by omega, by omega⟩]
      simp only [Edge.u_storable, Edge.u_size, and_self, if_true]
      obtain ⟨q, mid', hq⟩ : ∃ (q : Edge) (mid' : List Edge), mid ++ [y] = q :: mid' := by
        cases mid with
        | nil => exact ⟨y, [], rfl⟩
        | cons a m => exact ⟨a, m ++ [y], rfl⟩
      have hsp : out ++ mid ++ y :: z :: rest = out ++ q :: (mid' ++ z :: rest) := by
        have : out ++ mid ++ y :: z :: rest = out ++ (mid ++ [y]) ++ z :: rest := by simp
        rw [this, hq]
        simp
      have hml : mid'.length = mid.length := by
        have := congrArg List.length hq
        simp at this
        omega
      have hget : ((out ++ mid ++ y :: z :: rest).map Edge.u)[(out.length : Int).toNat]? = some q.u := by
        rw [hsp, List.map_append, Int.toNat_natCast, List.getElem?_append_right (by simp)]
        simp
      rw [hget]
      simp only [Option.bind_some, Edge.u_size, Edge.u_flat, if_true, bin_add, w3, w2]
      have hset : ((out ++ mid ++ y :: z :: rest).map Edge.u).set (out.length : Int).toNat z.u = ((out ++ [z]) ++ mid' ++ z :: rest).map Edge.u := by
        rw [hsp, List.map_append, Int.toNat_natCast, List.set_append_right _ _ (by simp)]
        simp
      rw [hset]
      have ih := slices_Compact_l1_is rest (out ++ [z]) mid' z k0 (k1 + 1) n ((out.length : Int) + 1) ((k1 : Int) + 1) (by simp) (by omega) (by omega) (by simp; omega) (by rw [← hn]; simp; omega) hb
      rw [ih]
      simp [dedupFrom, hzy]
      omega
theorem slices_Compact_l0_is : ∀ (r p : List Edge) (y : Edge) (i : Int), i = p.length + 1 → p.length + r.length ≤ 99999990 →
    f62_l0 E (.int .i64 i) ((p ++ y :: r).map Edge.u) = some (.sl 4 ((p ++ y :: dedupFrom y r).map Edge.u))
  | [], p, y, i, hi, hb => by
    subst hi
    rw [f62_l0_eq]
    have c1 : ¬ ((p.length : Int) + 1 < (((p ++ [y]).map Edge.u).length : Int)) := by simp
    simp only [bin_lss, decide_eq_false c1, Option.bind_some, asBool_bool, Bool.false_eq_true, if_false, dedupFrom]
  | z :: r, p, y, i, hi, hb => by
    subst hi
    rw [f62_l0_eq]
    have hL : ((p ++ y :: z :: r).map Edge.u).length = p.length + 2 + r.length := by simp; omega
    simp only [List.length_cons] at hb
    have c1 : ((p.length : Int) + 1 < ((p.length + 2 + r.length : Nat) : Int)) := by omega
    have hat : ((p ++ y :: z :: r).map Edge.u)[((p.length : Int) + 1).toNat]? = some z.u := by
      rw [List.getElem?_map, List.getElem?_append_right (by omega)]
      have : ((p.length : Int) + 1).toNat - p.length = 1 := by omega
      rw [this]
      rfl
    have hat2 : ((p ++ y :: z :: r).map Edge.u)[(p.length : Int).toNat]? = some y.u := by
      rw [List.getElem?_map, List.getElem?_append_right (by omega)]
      have : (p.length : Int).toNat - p.length = 0 := by omega
      rw [this]
      rfl
    have w1 : IntKind.i64.wrap ((p.length : Int) + 1 - 1) = (p.length : Int) := by rw [wrap_in (by omega)]; omega
    have w2 : IntKind.i64.wrap ((p.length : Int) + 1 + 1) = (p.length : Int) + 1 + 1 := wrap_in (by omega)
    simp only [bin_lss, hL, decide_eq_true c1, Option.bind_some, asBool_bool, if_true, asInt_int]
    rw [if_pos ⟨by trivial, by omega, by omega⟩, hat]
    simp only [Option.bind_some, Edge.u_var, Edge.u_flat, if_true, bin_sub, w1, asInt_int]
    rw [if_pos ⟨by trivial, by omega, by omega⟩, hat2]
    simp only [Option.bind_some, Edge.u_var, Edge.u_flat, if_true, Edge.u_eqv, asBool_bool]
    by_cases hzy : z = y
    · subst hzy
      simp only [decide_true, if_true]
      rw [if_pos ⟨by trivial, by trivial, by omega, by omega, by omega⟩]
      have := slices_Compact_l1_is (E := E) r (p ++ [z]) [] z (p.length + 1) 1 (p.length + 2 + r.length) ((p.length : Int) + 1) 1 (by simp) rfl (by omega) (by simp) (by simp; omega) (by omega)
      rw [show (p.length : Int) + 1 = ((p.length + 1 : Nat) : Int) by omega] at this ⊢
      simp only [Int.toNat_natCast]
      rw [show p ++ [z] ++ [] ++ z :: r = p ++ z :: z :: r by simp] at this
      rw [this]
      simp [dedupFrom]
    · have ih := slices_Compact_l0_is r (p ++ [y]) z ((p.length : Int) + 1 + 1) (by simp) (by simp; omega)
      simp only [decide_eq_false hzy, Bool.false_eq_true, if_false, bin_add, w2, Option.bind_some]
      rw [show p ++ y :: z :: r = p ++ [y] ++ z :: r by simp, ih]
      simp [dedupFrom, hzy]
theorem slices_Compact_g361_is (h : G_f62 E) (l : List Edge) (hl : l.length ≤ 99999990) : E 300361 (.agg [.tup [.sl 4 (l.map Edge.u)]] :: []) = some (.sl 4 ((compactE l).map Edge.u)) := by
  rw [f62_E h]
  match l, hl with
  | [], _ => simp [compactE]
  | [x], _ => simp [compactE, dedupFrom]
  | x :: y :: r, hl =>
    have c : ¬ (((((x :: y :: r).map Edge.u).length : Nat) : Int) < 2) := by simp; omega
    have := slices_Compact_l0_is (E := E) (y :: r) [] x 1 rfl (by simp at hl ⊢; omega)
    simp only [bin_lss, decide_eq_false c, Option.bind_some, asBool_bool, Bool.false_eq_true, if_false]
    rw [List.nil_append] at this
    rw [this]
    rfl
@[simp] theorem asPtr_tup {γ : Type} (a b : U) (K : U → U → Option γ) : U.asPtr (.tup [a, b]) K = K a b := rfl
theorem slices_SortFunc_g362_is (h : IsSort E 362 12) (hc : G_f19 E) (l : List Edge) (hl : l.length ≤ 1099511627776) : E 200362 (.agg [.tup [.sl 4 (l.map Edge.u)]] :: [.fn 12 []]) = some (.tup [.tup [], .sl 4 ((sortBy edgeCmp l).map Edge.u)]) := by
  obtain ⟨cf, h1, h2⟩ := h.ex
  have e : cf = edgeCmp := funext fun a => funext fun b => by
    have := (h1 a b).symm.trans (f19_is hc a b)
    simpa using this
  subst e
  exact h2 l hl
theorem f21_l1_is (h : G_f21 E) (l : List Entry) (hl : l.length ≤ 1048576) (ho : ∀ x ∈ l, x.ok) (x : Entry) (hx : x ∈ l) (n i : Int) : ∀ (r p : List Write) (j : Int) (es : List Edge), x.writes = p ++ r → j = p.length → es.length + r.length ≤ 100000000 →
    f21_l1 E (.sl 4 (l.map Entry.u)) (.sl 4 (l.map Entry.u)) (.int .i64 n) (.int .i64 i) (.sl 2 (x.writes.map Write.u)) (.int .i64 x.writes.length) (.int .i64 j) (es.map Edge.u) x.u =
      (U.bin .add (.int .i64 i) (.int .i64 1)).bind fun t => f21_l0 E (.sl 4 (l.map Entry.u)) (.sl 4 (l.map Entry.u)) (.int .i64 n) t ((es ++ (writeEdges l x r).filter keepE).map Edge.u)
  | [], p, j, es, e, hj, hb => by
    rw [f21_l1_eq]
    simp [mid_end e hj, writeEdges]
  | w :: r, p, j, es, e, hj, hb => by
    simp only [List.length_cons] at hb
    have hox := ho x hx
    obtain ⟨j0, hlt, hy, hwj, hn, _⟩ := mid_at e hj (by have := hox.2; omega)
    have hnw := f12_is h.c_f12 l hl ho w.key x.stamp
    have hput := f22_is h.c_f22 es (by omega) x.id (nextWriter l w.key x.stamp) 2 w.key
    have hle := addRaw_length es ⟨x.id, nextWriter l w.key x.stamp, 2, w.key⟩
    have ih := f21_l1_is h l hl ho x hx n i r (p ++ [w]) (j + 1) (addRaw es ⟨x.id, nextWriter l w.key x.stamp, 2, w.key⟩) (mid_next e) hn (by omega)
    have hcat : addRaw es ⟨x.id, nextWriter l w.key x.stamp, 2, w.key⟩ ++ (writeEdges l x r).filter keepE = es ++ (writeEdges l x (w :: r)).filter keepE := by
      simp only [addRaw, writeEdges, List.append_assoc]
      rw [show (⟨x.id, nextWriter l w.key x.stamp, 2, w.key⟩ :: writeEdges l x r : List Edge) = [⟨x.id, nextWriter l w.key x.stamp, 2, w.key⟩] ++ writeEdges l x r from rfl, List.filter_append]
    rw [hcat] at ih
    rw [f21_l1_eq]
    simp [hlt, hy, hwj, hnw, hput, ih]
theorem f21_l2_is (h : G_f21 E) (l : List Entry) (hl : l.length ≤ 1048576) (ho : ∀ x ∈ l, x.ok) (x : Entry) (hx : x ∈ l) (n i : Int) : ∀ (r p : List ReadMark) (j : Int) (es : List Edge), x.reads = p ++ r → j = p.length → es.length + 2 * r.length ≤ 90000000 →
    f21_l2 E (.sl 4 (l.map Entry.u)) (.sl 4 (l.map Entry.u)) (.int .i64 n) (.int .i64 i) (.sl 2 (x.reads.map ReadMark.u)) (.int .i64 x.reads.length) (.int .i64 j) (es.map Edge.u) x.u =
      (U.bin .add (.int .i64 i) (.int .i64 1)).bind fun t => f21_l0 E (.sl 4 (l.map Entry.u)) (.sl 4 (l.map Entry.u)) (.int .i64 n) t ((es ++ (readEdges l x r ++ writeEdges l x x.writes).filter keepE).map Edge.u)
  | [], p, j, es, e, hj, hb => by
    have h1 := f21_l1_is h l hl ho x hx n i x.writes [] 0 es rfl rfl (by have := (ho x hx).2; omega)
    rw [f21_l2_eq]
    simp [mid_end e hj, readEdges] at h1 ⊢
    rw [h1]
  | m :: r, p, j, es, e, hj, hb => by
    simp only [List.length_cons] at hb
    have hox := ho x hx
    obtain ⟨j0, hlt, hy, hwj, hn, _⟩ := mid_at e hj (by have := hox.1; omega)
    have hnw := f12_is h.c_f12 l hl ho m.key m.created
    have hwr := f16_is h.c_f16 l hl ho m
    have hput := f22_is h.c_f22 es (by omega) (writerOf l m) x.id 1 m.key
    have hle := addRaw_length es ⟨writerOf l m, x.id, 1, m.key⟩
    have hput2 := f22_is h.c_f22 (addRaw es ⟨writerOf l m, x.id, 1, m.key⟩) (by omega) x.id (nextWriter l m.key m.created) 3 m.key
    have hle2 := addRaw_length (addRaw es ⟨writerOf l m, x.id, 1, m.key⟩) ⟨x.id, nextWriter l m.key m.created, 3, m.key⟩
    have ih := f21_l2_is h l hl ho x hx n i r (p ++ [m]) (j + 1) (addRaw (addRaw es ⟨writerOf l m, x.id, 1, m.key⟩) ⟨x.id, nextWriter l m.key m.created, 3, m.key⟩) (mid_next e) hn (by omega)
    have hcat : addRaw (addRaw es ⟨writerOf l m, x.id, 1, m.key⟩) ⟨x.id, nextWriter l m.key m.created, 3, m.key⟩ ++ (readEdges l x r ++ writeEdges l x x.writes).filter keepE = es ++ (readEdges l x (m :: r) ++ writeEdges l x x.writes).filter keepE := by
      simp only [addRaw, readEdges, List.cons_append, List.append_assoc]
      rw [show (⟨writerOf l m, x.id, 1, m.key⟩ :: ⟨x.id, nextWriter l m.key m.created, 3, m.key⟩ :: (readEdges l x r ++ writeEdges l x x.writes) : List Edge) = [⟨writerOf l m, x.id, 1, m.key⟩] ++ ([⟨x.id, nextWriter l m.key m.created, 3, m.key⟩] ++ (readEdges l x r ++ writeEdges l x x.writes)) from rfl]
      simp only [List.filter_append]
    rw [hcat] at ih
    rw [f21_l2_eq]
    simp [hlt, hy, hwj, hnw, hwr, hput, hput2, ih]
theorem f21_l0_is (h : G_f21 E) (l : List Entry) (hl : l.length ≤ 1048576) (ho : ∀ x ∈ l, x.ok) : ∀ (r p : List Entry) (i : Int) (es : List Edge), l = p ++ r → i = p.length → (∀ x ∈ l, x.reads.length ≤ 60) → es.length + 2000000 * r.length ≤ 80000000 →
    f21_l0 E (.sl 4 (l.map Entry.u)) (.sl 4 (l.map Entry.u)) (.int .i64 l.length) (.int .i64 i) (es.map Edge.u) = some (.sl 4 ((compactE (sortBy edgeCmp (es ++ (rawEdges l r).filter keepE))).map Edge.u))
  | [], p, i, es, e, hi, hr, hb => by
    have hs := slices_SortFunc_g362_is h.c_slices_SortFunc_g362 h.c_f19 es (by simp at hb; omega)
    have hc := slices_Compact_g361_is h.c_f62 (sortBy edgeCmp es) (by rw [sortBy_length]; simp at hb; omega)
    rw [f21_l0_eq]
    simp [mid_end e hi, rawEdges, hs, hc]
  | x :: r, p, i, es, e, hi, hr, hb => by
    simp only [List.length_cons] at hb
    have hx : x ∈ l := by rw [e]; simp
    have hox := ho x hx
    obtain ⟨h0, hlt, hxx, hw, hn, _⟩ := mid_at e hi (by omega)
    have h2 := f21_l2_is h l hl ho x hx l.length i x.reads [] 0 es rfl rfl (by have := hr x hx; omega)
    have hlen : ((entryEdges l x).filter keepE).length ≤ 2000000 := by
      refine Nat.le_trans (List.length_filter_le _ _) ?_
      rw [entryEdges, List.length_append, readEdges_length, writeEdges_length]
      have := hr x hx
      have := hox.2
      omega
    have ih := f21_l0_is h l hl ho r (p ++ [x]) (i + 1) (es ++ (entryEdges l x).filter keepE) (mid_next e) hn hr (by rw [List.length_append]; omega)
    rw [f21_l0_eq]
    simp only [List.nil_append, entryEdges] at h2 ih
    simp [hlt, hxx] at h2 ih ⊢
    rw [h2]
    simp [hw, ih, rawEdges, entryEdges]
theorem f21_is (h : G_f21 E) (l : List Entry) (hl : l.length ≤ 9) (ho : ∀ x ∈ l, x.ok) (hr : ∀ x ∈ l, x.reads.length ≤ 60) : E 357 [.sl 4 (l.map Entry.u)] = some (.sl 4 ((graphOf l).map Edge.u)) := by
  rw [f21_E h]
  have := f21_l0_is h l (by omega) ho l [] 0 [] rfl rfl hr (by simp; omega)
  simp at this ⊢
  rw [this, compact_sort]
  rfl
theorem mid_cut2 {β : Type} {l p r : List β} {k : Nat} {i : Int} (f : β → U) (e : l = p ++ r) (hi : i = p.length) : U.cut false k (.sl k (l.map f)) (some i) none = some (.sl k (r.map f)) := by
  subst e; subst hi
  simp only [U.cut, Option.getD_none, Option.getD_some, List.length_map, List.length_append]
  rw [if_pos (by refine ⟨trivial, by omega, by omega, by omega⟩)]
  have e3 : (((p.length + r.length : Nat) : Int)).toNat = (List.map f (p ++ r)).length := by rw [Int.toNat_natCast, List.length_map, List.length_append]
  rw [e3, List.take_length]
  simp
theorem insS_length (e : Edge) : ∀ l : List Edge, (insS l e).length ≤ l.length + 1
  | [] => by simp [insS]
  | x :: r => by
    have := insS_length e r
    simp only [insS]
    split
    · simp; omega
    · split <;> simp
theorem putE_length (l : List Edge) (e : Edge) : (putE l e).length ≤ l.length + 1 := by
  unfold putE
  split
  · exact insS_length e l
  · omega
theorem puts_length : ∀ (es l : List Edge), (es.foldl putE l).length ≤ l.length + es.length
  | [], l => by simp
  | e :: es, l => by
    have h1 := puts_length es (putE l e)
    have h2 := putE_length l e
    simp only [List.foldl_cons, List.length_cons]
    omega
theorem f81_end (l : List Edge) (hl : l.length ≤ 100000000) (e : Edge) (i : Int) (hi : i = l.length) :
    f81_l0 E (.sl 4 (l.map Edge.u)) (.vp e.u) (.int .i64 i) = some (.sl 4 ((l ++ [e]).map Edge.u)) := by
  have hc1 := mid_cut (k := 4) Edge.u (l := l) (p := l) (r := []) (by simp) hi
  have hc2 := mid_cut2 (k := 4) Edge.u (l := l) (p := l) (r := []) (by simp) hi
  have hb : (l.length + 1) * 32 ≤ 140737488355328 := by omega
  have hb0 : l.length * 32 ≤ 140737488355328 := by omega
  have hlt : ¬ (i < (l.length : Int)) := by omega
  rw [f81_l0_eq]
  simp [hlt, hc1, hc2, U.asVp, U.elems, hb, hb0]
theorem f81_on (h : G_f81 E) (l : List Edge) (e x : Edge) (i : Int) (hlt : i < (l.length : Int)) (hx : ∀ {γ : Type} (K : U → Option γ), U.elemAt 4 (.sl 4 (l.map Edge.u)) i K = K x.u) (hw : IntKind.i64.wrap (i + 1) = i + 1) (hlx : edgeLt x e = true) :
    f81_l0 E (.sl 4 (l.map Edge.u)) (.vp e.u) (.int .i64 i) = f81_l0 E (.sl 4 (l.map Edge.u)) (.vp e.u) (.int .i64 (i + 1)) := by
  have hls := f80_is h.c_f80 x e
  rw [f81_l0_eq]
  simp [hlt, hx, hw, hls, hlx, U.asVp]
theorem f81_here (h : G_f81 E) (l : List Edge) (e : Edge) (i : Int) (hlt : i < (l.length : Int)) (hx : ∀ {γ : Type} (K : U → Option γ), U.elemAt 4 (.sl 4 (l.map Edge.u)) i K = K e.u) :
    f81_l0 E (.sl 4 (l.map Edge.u)) (.vp e.u) (.int .i64 i) = some (.sl 4 (l.map Edge.u)) := by
  have hls := f80_is h.c_f80 e e
  rw [f81_l0_eq]
  simp [hlt, hx, hls, edgeLt_irrefl, U.asVp]
theorem f81_ahead (h : G_f81 E) (l p r : List Edge) (hl : l.length ≤ 100000000) (e x : Edge) (i : Int) (el : l = p ++ x :: r) (hi : i = p.length) (hlt : i < (l.length : Int)) (hx : ∀ {γ : Type} (K : U → Option γ), U.elemAt 4 (.sl 4 (l.map Edge.u)) i K = K x.u) (hlx : edgeLt x e = false) (he : x ≠ e) :
    f81_l0 E (.sl 4 (l.map Edge.u)) (.vp e.u) (.int .i64 i) = some (.sl 4 ((p ++ e :: x :: r).map Edge.u)) := by
  have hll : l.length = p.length + r.length + 1 := by rw [el]; simp; omega
  have hls := f80_is h.c_f80 x e
  have hc1 := mid_cut (k := 4) Edge.u el hi
  have hc2 := mid_cut2 (k := 4) Edge.u el hi
  have hb0 : p.length * 32 ≤ 140737488355328 := by omega
  have hb1 : (p.length + 1) * 32 ≤ 140737488355328 := by omega
  have hb2 : (p.length + 1 + (r.length + 1)) * 32 ≤ 140737488355328 := by omega
  rw [f81_l0_eq]
  simp [hlt, hx, hls, hlx, he, U.asVp, hc1, hc2, U.elems, hb0, hb1, hb2]
theorem f81_l0_is (h : G_f81 E) (l : List Edge) (hl : l.length ≤ 100000000) (e : Edge) : ∀ (r p : List Edge) (i : Int), l = p ++ r → i = p.length →
    f81_l0 E (.sl 4 (l.map Edge.u)) (.vp e.u) (.int .i64 i) = some (.sl 4 ((p ++ insS r e).map Edge.u))
  | [], p, i, el, hi => by
    have : l = p := by rw [el]; simp
    subst this
    exact f81_end l hl e i hi
  | x :: r, p, i, el, hi => by
    have hll : l.length = p.length + r.length + 1 := by rw [el]; simp; omega
    obtain ⟨h0, hlt, hx, hw, hn, _⟩ := mid_at el hi (by omega)
    have ih := f81_l0_is h l hl e r (p ++ [x]) (i + 1) (mid_next el) hn
    cases hlx : edgeLt x e with
    | true =>
      rw [f81_on h l e x i hlt (fun K => hx 4 Edge.u K) hw hlx, ih]
      simp [insS, hlx]
    | false =>
      by_cases he : x = e
      · subst he
        rw [f81_here h l x i hlt (fun K => hx 4 Edge.u K)]
        simp only [insS, hlx, Bool.false_eq_true, if_false, if_true]
        rw [← el]
      · rw [f81_ahead h l p r hl e x i el hi hlt (fun K => hx 4 Edge.u K) hlx he]
        simp [insS, hlx, he]
theorem f81_is (h : G_f81 E) (l : List Edge) (hl : l.length ≤ 100000000) (e : Edge) : E 356 [.sl 4 (l.map Edge.u), e.u] = some (.sl 4 ((putE l e).map Edge.u)) := by
  rw [f81_E h]
  have h1 := f81_l0_is h l hl e l [] 0 rfl rfl
  by_cases c1 : e.frm = 0
  · simp [c1, putE, keepE]
  · by_cases c2 : e.to = 0
    · simp [c1, c2, putE, keepE]
    · by_cases c3 : e.frm = e.to
      · simp [c1, c2, c3, putE, keepE]
      · simp [c1, c2, c3, putE, keepE, h1]
theorem f71_l1_is (h : G_f71 E) (l : List Entry) (hl : l.length ≤ 1048576) (ho : ∀ x ∈ l, x.ok) (x : Entry) (hx : x ∈ l) (i : Int) (h0 : 0 ≤ i) (hi : l[i.toNat]? = some x) (hw : IntKind.i64.wrap (i + 1) = i + 1) : ∀ (r p : List Write) (j : Int) (es : List Edge), x.writes = p ++ r → j = p.length → es.length + r.length ≤ 100000000 →
    f71_l1 E (.sl 4 (l.map Entry.u)) (.sl 4 (es.map Edge.u)) (.int .i64 i) (.int .i64 j) = f71_l0 E (.sl 4 (l.map Entry.u)) (.sl 4 (((writeEdges l x r).foldl putE es).map Edge.u)) (.int .i64 (i + 1))
  | [], p, j, es, e, hj, hb => by
    have hxx : ∀ {γ : Type} (K : U → Option γ), U.elemAt 4 (.sl 4 (l.map Entry.u)) i K = K x.u := fun K => elemAt_get Entry.u h0 hi K
    rw [f71_l1_eq]
    simp [hxx, mid_end e hj, hw, writeEdges]
  | w :: r, p, j, es, e, hj, hb => by
    simp only [List.length_cons] at hb
    have hxx : ∀ {γ : Type} (K : U → Option γ), U.elemAt 4 (.sl 4 (l.map Entry.u)) i K = K x.u := fun K => elemAt_get Entry.u h0 hi K
    have hox := ho x hx
    obtain ⟨j0, hlt, hy, hwj, hn, _⟩ := mid_at e hj (by have := hox.2; omega)
    have hnw := f76_is h.c_f76 l hl ho w.key x.stamp
    have hput := f81_is h.c_f81 es (by omega) ⟨x.id, nextWriter l w.key x.stamp, 2, w.key⟩
    have hle := putE_length es ⟨x.id, nextWriter l w.key x.stamp, 2, w.key⟩
    have ih := f71_l1_is h l hl ho x hx i h0 hi hw r (p ++ [w]) (j + 1) (putE es ⟨x.id, nextWriter l w.key x.stamp, 2, w.key⟩) (mid_next e) hn (by omega)
    simp only [Edge.u] at hput
    rw [f71_l1_eq]
    simp [hlt, hxx, hy, hwj, hnw, hput, ih, writeEdges]
theorem f71_l2_is (h : G_f71 E) (l : List Entry) (hl : l.length ≤ 1048576) (ho : ∀ x ∈ l, x.ok) (x : Entry) (hx : x ∈ l) (i : Int) (h0 : 0 ≤ i) (hi : l[i.toNat]? = some x) (hw : IntKind.i64.wrap (i + 1) = i + 1) : ∀ (r p : List ReadMark) (j : Int) (es : List Edge), x.reads = p ++ r → j = p.length → es.length + 2 * r.length ≤ 90000000 →
    f71_l2 E (.sl 4 (l.map Entry.u)) (.sl 4 (es.map Edge.u)) (.int .i64 i) (.int .i64 j) = f71_l0 E (.sl 4 (l.map Entry.u)) (.sl 4 (((readEdges l x r ++ writeEdges l x x.writes).foldl putE es).map Edge.u)) (.int .i64 (i + 1))
  | [], p, j, es, e, hj, hb => by
    have hxx : ∀ {γ : Type} (K : U → Option γ), U.elemAt 4 (.sl 4 (l.map Entry.u)) i K = K x.u := fun K => elemAt_get Entry.u h0 hi K
    have h1 := f71_l1_is h l hl ho x hx i h0 hi hw x.writes [] 0 es rfl rfl (by have := (ho x hx).2; omega)
    rw [f71_l2_eq]
    simp [hxx, mid_end e hj, readEdges, h1]
  | m :: r, p, j, es, e, hj, hb => by
    simp only [List.length_cons] at hb
    have hxx : ∀ {γ : Type} (K : U → Option γ), U.elemAt 4 (.sl 4 (l.map Entry.u)) i K = K x.u := fun K => elemAt_get Entry.u h0 hi K
    have hox := ho x hx
    obtain ⟨j0, hlt, hy, hwj, hn, _⟩ := mid_at e hj (by have := hox.1; omega)
    have hnw := f76_is h.c_f76 l hl ho m.key m.created
    have hwr := f78_is h.c_f78 l hl ho m
    have hput := f81_is h.c_f81 es (by omega) ⟨writerOf l m, x.id, 1, m.key⟩
    have hle := putE_length es ⟨writerOf l m, x.id, 1, m.key⟩
    have hput2 := f81_is h.c_f81 (putE es ⟨writerOf l m, x.id, 1, m.key⟩) (by omega) ⟨x.id, nextWriter l m.key m.created, 3, m.key⟩
    have hle2 := putE_length (putE es ⟨writerOf l m, x.id, 1, m.key⟩) ⟨x.id, nextWriter l m.key m.created, 3, m.key⟩
    have ih := f71_l2_is h l hl ho x hx i h0 hi hw r (p ++ [m]) (j + 1) (putE (putE es ⟨writerOf l m, x.id, 1, m.key⟩) ⟨x.id, nextWriter l m.key m.created, 3, m.key⟩) (mid_next e) hn (by omega)
    simp only [Edge.u] at hput hput2
    rw [f71_l2_eq]
    simp [hlt, hxx, hy, hwj, hnw, hwr, hput, hput2, ih, readEdges]
theorem f71_l0_is (h : G_f71 E) (l : List Entry) (hl : l.length ≤ 1048576) (ho : ∀ x ∈ l, x.ok) (hr : ∀ x ∈ l, x.reads.length ≤ 60) (hh : isHistory l = true) : ∀ (r p : List Entry) (i : Int) (es : List Edge), l = p ++ r → i = p.length → es.length + 2000000 * r.length ≤ 80000000 →
    f71_l0 E (.sl 4 (l.map Entry.u)) (.sl 4 (es.map Edge.u)) (.int .i64 i) = some (.sl 4 (((rawEdges l r).foldl putE es).map Edge.u))
  | [], p, i, es, e, hi, hb => by
    rw [f71_l0_eq]
    simp [mid_end e hi, rawEdges]
  | x :: r, p, i, es, e, hi, hb => by
    simp only [List.length_cons] at hb
    have hx : x ∈ l := by rw [e]; simp
    have hox := ho x hx
    obtain ⟨h0, hlt, hxx, hw, hn, hxi⟩ := mid_at e hi (by omega)
    have h2 := f71_l2_is h l hl ho x hx i h0 hxi hw x.reads [] 0 es rfl rfl (by have := hr x hx; omega)
    rw [← show entryEdges l x = readEdges l x x.reads ++ writeEdges l x x.writes from rfl] at h2
    have hlen : (entryEdges l x).length ≤ 2000000 := by
      rw [entryEdges, List.length_append, readEdges_length, writeEdges_length]
      have := hr x hx
      have := hox.2
      omega
    have hpl := puts_length (entryEdges l x) es
    have ih := f71_l0_is h l hl ho hr hh r (p ++ [x]) (i + 1) ((entryEdges l x).foldl putE es) (mid_next e) hn (by omega)
    rw [f71_l0_eq]
    simp only [lenOf_sl, List.length_map, Option.bind_some, bin_lss, hlt, decide_true, asBool_bool, if_true, f73_is h.c_f73 l hl ho, hh, h2]
    rw [show rawEdges l (x :: r) = entryEdges l x ++ rawEdges l r from rfl, List.foldl_append, ← ih]
theorem histA_ok : ∀ {r p : List Entry}, histA p r = true → ∀ x ∈ r, x.good = true
  | [], _, _, x, hx => by cases hx
  | y :: r, p, h, x, hx => by
    simp only [histA, Bool.and_eq_true] at h
    rcases List.mem_cons.1 hx with rfl | hx
    · exact h.1.1.1
    · exact histA_ok h.2 x hx
theorem history_ok {l : List Entry} (h : isHistory l = true) : (∀ x ∈ l, x.good = true) ∧ l.length ≤ 9 := by
  simp only [isHistory, Bool.and_eq_true, decide_eq_true_eq] at h
  exact ⟨histA_ok h.1.1, h.2⟩
theorem history_reads {l : List Entry} (h : isHistory l = true) : ∀ x ∈ l, x.reads.length ≤ 60 := fun x hx => by
  have := (history_ok h).1 x hx
  simp only [Entry.good, areReads, Bool.and_eq_true, decide_eq_true_eq] at this
  exact this.2.2.1.2
theorem f71_is (h : G_f71 E) (l : List Entry) (hl : l.length ≤ 1048576) (ho : ∀ x ∈ l, x.ok) : E 353 [.sl 4 (l.map Entry.u)] = some (.sl 4 ((buildGraph l).map Edge.u)) := by
  rw [f71_E h]
  cases g : isHistory l with
  | true =>
    have hk := history_ok g
    have := f71_l0_is h l hl ho (history_reads g) g l [] 0 [] rfl rfl (by simp; omega)
    rw [List.map_nil] at this
    rw [this]
    simp [buildGraph, g, graphOf]
  | false =>
    rw [f71_l0_eq]
    cases l with
    | nil => simp [buildGraph, g]
    | cons x r =>
      have c : (0 : Int) < (((x :: r).length : Nat) : Int) := by simp
      simp only [lenOf_sl, List.length_map, Option.bind_some, bin_lss, c, decide_true, asBool_bool, if_true, f73_is h.c_f73 (x :: r) hl ho, g]
      simp [buildGraph, g]
theorem writesFrom_length : ∀ (l : List Write) (q : Write), q.key ≤ 5 → writesFrom (some q) l = true → (l.length : Int) + q.key ≤ 5
  | [], q, hq, _ => by simpa using hq
  | w :: r, q, hq, h => by
    simp only [writesFrom, writes1, inR, Bool.and_eq_true, decide_eq_true_eq] at h
    have := writesFrom_length r w h.1.1.1.2 h.2
    have := h.1.2
    simp only [List.length_cons]
    omega
theorem history_writes {l : List Entry} (h : isHistory l = true) : ∀ x ∈ l, x.writes.length ≤ 6 := fun x hx => by
  have := (history_ok h).1 x hx
  simp only [Entry.good, areWrites, Bool.and_eq_true] at this
  have h2 := this.2.2.2
  cases hw : x.writes with
  | nil => simp
  | cons w r =>
    rw [hw] at h2
    simp only [writesFrom, writes1, inR, Bool.and_eq_true, decide_eq_true_eq] at h2
    have h3 := writesFrom_length r w h2.1.1.1.2 h2.2
    have := h2.1.1.1.1
    simp only [List.length_cons]
    omega
theorem rawEdges_length (l : List Entry) : ∀ r : List Entry, (∀ x ∈ r, x.reads.length ≤ 60 ∧ x.writes.length ≤ 6) → (rawEdges l r).length ≤ 126 * r.length
  | [], _ => by simp [rawEdges]
  | x :: r, h => by
    have ih := rawEdges_length l r fun y hy => h y (by simp [hy])
    have := h x (by simp)
    simp only [rawEdges, entryEdges, List.length_append, readEdges_length, writeEdges_length, List.length_cons]
    omega
theorem buildGraph_length (l : List Entry) : (buildGraph l).length ≤ 1134 := by
  unfold buildGraph
  split
  · rename_i h
    have h1 := rawEdges_length l l fun x hx => ⟨history_reads h x hx, history_writes h x hx⟩
    have h2 := puts_length (rawEdges l l) []
    have h3 := (history_ok h).2
    rw [graphOf]
    simp only [List.length_nil] at h2
    omega
  · simp
open Go
theorem idxF_at {α : Type} (P : α → Bool) : ∀ (l : List α) (i : Int), (∃ y ∈ l, P y = true) → ∃ x, l.find? P = some x ∧ i ≤ idxF P l i ∧ l[(idxF P l i - i).toNat]? = some x
  | [], i, h => by obtain ⟨y, hy, _⟩ := h; cases hy
  | z :: l, i, h => by
    cases hz : P z with
    | true => exact ⟨z, by simp [hz], by simp [idxF, hz], by simp [idxF, hz]⟩
    | false =>
      have h2 : ∃ y ∈ l, P y = true := by
        obtain ⟨y, hy, hp⟩ := h
        rcases List.mem_cons.1 hy with rfl | hy
        · rw [hz] at hp; cases hp
        · exact ⟨y, hy, hp⟩
      obtain ⟨x, h3, h4, h5⟩ := idxF_at P l (i + 1) h2
      refine ⟨x, by simp [hz, h3], by simp only [idxF, hz]; simp; omega, ?_⟩
      have e : (idxF P (z :: l) i - i).toNat = (idxF P l (i + 1) - (i + 1)).toNat + 1 := by simp only [idxF, hz]; simp; omega
      rw [e, List.getElem?_cons_succ]
      exact h5
theorem f70_l0_is (l : List Int) (hl : l.length ≤ 9223372036854775807) (v : Int) : ∀ (r p : List Int) (i : Int), l = p ++ r → i = p.length →
    f70_l0 E (.sl 1 (l.map intU)) (.int .i64 v) (.int .i64 l.length) (.int .i64 i) = some (.int .i64 (idxF (fun x => decide (x = v)) r i))
  | [], p, i, e, hi => by
    rw [f70_l0_eq]
    simp [mid_end e hi, idxF]
  | x :: r, p, i, e, hi => by
    obtain ⟨h0, hlt, hx, hw, hn, _⟩ := mid_at e hi hl
    have ih := f70_l0_is l hl v r (p ++ [x]) (i + 1) (mid_next e) hn
    rw [f70_l0_eq]
    by_cases h1 : x = v
    · simp [hlt, hx, hw, ih, h1, idxF]
    · have h2 : v ≠ x := fun e => h1 e.symm
      simp [hlt, hx, hw, ih, h1, h2, idxF]
theorem f70_is (h : G_f70 E) (l : List Int) (hl : l.length ≤ 9223372036854775807) (v : Int) :
    E 43 [.sl 1 (l.map intU), .int .i64 v] = some (.int .i64 (idxF (fun x => decide (x = v)) l 0)) := by
  rw [f70_E h]
  simp [f70_l0_is l hl v l [] 0 rfl rfl]
theorem f66_is (h : G_f66 E) (l : List Int) (hl : l.length ≤ 9223372036854775807) (v : Int) :
    E 42 [.sl 1 (l.map intU), .int .i64 v] = some (.bool (decide (v ∈ l))) := by
  rw [f66_E h]
  simp [f70_is h.c_f70 l hl v, idxF_mem]
theorem f69_l0_is (l : List Edge) (hl : l.length ≤ 9223372036854775807) (q : Nat) (caps : List U) (P : Edge → Bool) (hp : ∀ x ∈ l, E q (Edge.u x :: caps) = some (.bool (P x))) (hq : q < 100000) : ∀ (r p : List Edge) (i : Int), l = p ++ r → i = p.length →
    f69_l0 E (.sl 4 (l.map Edge.u)) (.fn q caps) (.int .i64 l.length) (.int .i64 i) = some (.int .i64 (idxF P r i))
  | [], p, i, e, hi => by
    rw [f69_l0_eq]
    simp [mid_end e hi, idxF]
  | x :: r, p, i, e, hi => by
    obtain ⟨h0, hlt, hx, hw, hn, _⟩ := mid_at e hi hl
    have hpx := hp x (by rw [e]; simp)
    have ih := f69_l0_is l hl q caps P hp hq r (p ++ [x]) (i + 1) (mid_next e) hn
    rw [f69_l0_eq]
    cases h1 : P x <;> simp [hlt, hx, hw, ih, hpx, hq, h1, idxF]
theorem f69_is (h : G_f69 E) (l : List Edge) (hl : l.length ≤ 9223372036854775807) (q : Nat) (caps : List U) (P : Edge → Bool) (hp : ∀ x ∈ l, E q (Edge.u x :: caps) = some (.bool (P x))) (hq : q < 100000 := by decide) :
    E 66 [.sl 4 (l.map Edge.u), .fn q caps] = some (.int .i64 (idxF P l 0)) := by
  rw [f69_E h]
  simp [f69_l0_is l hl q caps P hp hq l [] 0 rfl rfl]
theorem f65_is (h : G_f65 E) (l : List Edge) (hl : l.length ≤ 9223372036854775807) (q : Nat) (caps : List U) (P : Edge → Bool) (hp : ∀ x ∈ l, E q (Edge.u x :: caps) = some (.bool (P x))) (hq : q < 100000 := by decide) :
    E 65 [.sl 4 (l.map Edge.u), .fn q caps] = some (.bool (l.any P)) := by
  rw [f65_E h]
  simp [f69_is h.c_f69 l hl q caps P hp hq, idxF_any]
def readyE (placed : List Int) (id : Int) (e : Edge) : Bool := !(decide (e.to = id) && !decide (e.frm ∈ placed))
def ready (g : List Edge) (placed : List Int) (id : Int) : Bool := g.all (readyE placed id)
theorem any_not {α : Type} (P : α → Bool) : ∀ l : List α, (!(l.any fun e => !P e)) = l.all P
  | [] => rfl
  | x :: l => by
    have := any_not P l
    simp only [List.any_cons, List.all_cons, ← this, Bool.not_or, Bool.not_not]
theorem f31_is (h : G_f31 E) (pU : U) (placed : List Int) (hv : ∀ K : U → Option U, U.asVar false 1 pU K = K pU) (hc : ∀ x : Int, E 42 [pU, .int .i64 x] = some (.bool (decide (x ∈ placed)))) (id : Int) (e : Edge) : E 432 [e.u, .vp (.int .i64 id), .vp pU] = some (.bool (!readyE placed id e)) := by
  rw [f31_E h]
  by_cases h1 : e.to = id
  · simp [h1, U.asVp, hv, hc, readyE]
  · simp [h1, U.asVp, readyE]
theorem f30_is' (h : G_f30 E) (g : List Edge) (hg : g.length ≤ 1048576) (pU : U) (placed : List Int) (hn : ∀ K : U → Option U, U.noTup pU K = K pU) (hv : ∀ K : U → Option U, U.asVar false 1 pU K = K pU) (hc : ∀ x : Int, E 42 [pU, .int .i64 x] = some (.bool (decide (x ∈ placed)))) (id : Int) : E 360 [.sl 4 (g.map Edge.u), .int .i64 id, pU] = some (.bool (ready g placed id)) := by
  rw [f30_E h]
  have h1 := f65_is h.c_f65 g (by omega) 432 [.vp (.int .i64 id), .vp pU] (fun e => !readyE placed id e) (fun e _ => f31_is h.c_f31 pU placed hv hc id e)
  have h2 : (!(g.any fun e => !readyE placed id e)) = ready g placed id := any_not _ g
  simp [hn, h1, ← h2]
theorem f30_is (h : G_f30 E) (hc : G_f66 E) (g : List Edge) (hg : g.length ≤ 1048576) (placed : List Int) (hp : placed.length ≤ 1048576) (id : Int) : E 360 [.sl 4 (g.map Edge.u), .int .i64 id, .sl 1 (placed.map intU)] = some (.bool (ready g placed id)) :=
  f30_is' h g hg _ placed (fun _ => rfl) (fun _ => rfl) (fun x => f66_is hc placed (by omega) x) id
theorem f84_l0_is (l : List Int) (hl : l.length ≤ 1048576) (c : Int) : ∀ (r p : List Int) (i : Int), l = p ++ r → i = p.length → f84_l0 E (.sl 1 (l.map intU)) (.int .i64 c) (.int .i64 i) = some (.bool (decide (c ∈ r)))
  | [], p, i, e, hi => by
    rw [f84_l0_eq]
    simp [mid_end e hi]
  | x :: r, p, i, e, hi => by
    obtain ⟨h0, hlt, hx, hw, hn, _⟩ := mid_at e hi (by omega)
    have ih := f84_l0_is l hl c r (p ++ [x]) (i + 1) (mid_next e) hn
    rw [f84_l0_eq]
    by_cases h1 : x = c
    · simp [hlt, hx, h1]
    · have h2 : ¬ c = x := fun e => h1 e.symm
      simp [hlt, hx, hw, ih, h1, h2]
theorem f84_is (h : G_f84 E) (l : List Int) (hl : l.length ≤ 1048576) (c : Int) : E 242 [.sl 1 (l.map intU), .int .i64 c] = some (.bool (decide (c ∈ l))) := by
  rw [f84_E h]
  exact f84_l0_is l hl c l [] 0 rfl rfl
theorem f83_l0_is (h : G_f83 E) (g : List Edge) (hg : g.length ≤ 1048576) (placed : List Int) (hp : placed.length ≤ 1048576) (id : Int) : ∀ (r p : List Edge) (i : Int), g = p ++ r → i = p.length →
    f83_l0 E (.sl 4 (g.map Edge.u)) (.sl 1 (placed.map intU)) (.int .i64 id) (.int .i64 i) = some (.bool (r.all (readyE placed id)))
  | [], p, i, e, hi => by
    rw [f83_l0_eq]
    simp [mid_end e hi]
  | x :: r, p, i, e, hi => by
    obtain ⟨h0, hlt, hx, hw, hn, _⟩ := mid_at e hi (by omega)
    have ih := f83_l0_is h g hg placed hp id r (p ++ [x]) (i + 1) (mid_next e) hn
    have hh := f84_is h.c_f84 placed hp x.frm
    rw [f83_l0_eq]
    by_cases h1 : x.to = id
    · by_cases h2 : x.frm ∈ placed
      · simp [hlt, hx, hw, hh, ih, h1, h2, readyE]
      · simp [hlt, hx, hw, hh, ih, h1, h2, readyE]
    · simp [hlt, hx, hw, hh, ih, h1, readyE]
theorem f83_is (h : G_f83 E) (g : List Edge) (hg : g.length ≤ 1048576) (placed : List Int) (hp : placed.length ≤ 1048576) (id : Int) : E 355 [.sl 4 (g.map Edge.u), .sl 1 (placed.map intU), .int .i64 id] = some (.bool (ready g placed id)) := by
  rw [f83_E h]
  exact f83_l0_is h g hg placed hp id g [] 0 rfl rfl
theorem graph_length (l : List Entry) (h : isHistory l = true) : (graphOf l).length ≤ 1134 := by
  have := buildGraph_length l
  rwa [buildGraph, if_pos h] at this
def mayNext (g : List Edge) (out : List Int) (x : Entry) : Bool := !decide (x.id ∈ out) && ready g out x.id
def serialGo (l : List Entry) (g : List Edge) : Nat → List Int → Option (List Int)
  | 0, out => some out
  | n + 1, out => match l.find? (mayNext g out) with
    | none => none
    | some x => serialGo l g n (out ++ [x.id])
def serialOrder (l : List Entry) : Option (List Int) := if isHistory l = true then serialGo l (graphOf l) l.length [] else none
def orderU (z : U) : Option (List Int) → U
  | none => .tup [z, .bool false]
  | some out => .tup [.sl 1 (out.map intU), .bool true]
theorem serialGo_length (l : List Entry) (g : List Edge) : ∀ (n : Nat) (out r : List Int), serialGo l g n out = some r → r.length = out.length + n
  | 0, out, r, h => by
    simp only [serialGo, Option.some.injEq] at h
    rw [← h]
    rfl
  | n + 1, out, r, h => by
    simp only [serialGo] at h
    split at h
    · cases h
    · have := serialGo_length l g n _ r h
      simp at this
      omega
theorem f14_is (h : G_f14 E) (g : List Edge) (hg : g.length ≤ 1048576) (out : List Int) (ho : out.length ≤ 1000) (x : Entry) : E 436 [x.u, .vp (.sl 1 (out.map intU)), .vp (.sl 4 (g.map Edge.u))] = some (.bool (mayNext g out x)) := by
  rw [f14_E h]
  have hc := f66_is h.c_f66 out (by omega) x.id
  have hr := f30_is h.c_f30 h.c_f66 g hg out (by omega) x.id
  by_cases h1 : x.id ∈ out
  · simp [U.asVp, hc, h1, mayNext]
  · simp [U.asVp, hc, hr, h1, mayNext]
theorem find_split {α : Type} (P : α → Bool) (l : List α) : (idxF P l 0 = -1 ∧ l.find? P = none) ∨ ∃ x, l.find? P = some x ∧ 0 ≤ idxF P l 0 ∧ l[(idxF P l 0).toNat]? = some x := by
  by_cases h : ∃ y ∈ l, P y = true
  · obtain ⟨x, h1, h2, h3⟩ := idxF_at P l 0 h
    rw [Int.sub_zero] at h3
    exact .inr ⟨x, h1, h2, h3⟩
  · left
    have h2 : ∀ x ∈ l, ¬ P x = true := fun x hx hp => h ⟨x, hx, hp⟩
    refine ⟨?_, List.find?_eq_none.2 h2⟩
    have : ∀ (r : List α) (i : Int), (∀ x ∈ r, ¬ P x = true) → idxF P r i = -1 := by
      intro r
      induction r with
      | nil => intro i _; rfl
      | cons y r ih =>
        intro i hy
        simp only [idxF, hy y (by simp)]
        exact ih _ fun x hx => hy x (by simp [hx])
    exact this l 0 h2
theorem f13_l0_is (h : G_f13 E) (l : List Entry) (hl : l.length ≤ 9) (g : List Edge) (hg : g.length ≤ 1048576) : ∀ (n : Nat) (out : List Int), out.length + n = l.length →
    f13_l0 E (.sl 4 (l.map Entry.u)) (.sl 4 (g.map Edge.u)) (out.map intU) = some (orderU (.nsl 1) (serialGo l g n out))
  | 0, out, hn => by
    rw [f13_l0_eq]
    have : ¬ out.length < l.length := by omega
    simp [this, serialGo, orderU]
  | n + 1, out, hn => by
    have hlt : out.length < l.length := by omega
    have hi := f67_is h.c_f67 l (by omega) 436 [.vp (.sl 1 (out.map intU)), .vp (.sl 4 (g.map Edge.u))] (mayNext g out) (fun x _ => f14_is h.c_f14 g hg out (by omega) x)
    rw [f13_l0_eq]
    rcases find_split (mayNext g out) l with ⟨h1, h2⟩ | ⟨x, h1, h2, h3⟩
    · simp [hlt, hi, h1, h2, serialGo, orderU]
    · have ih := f13_l0_is h l hl g hg n (out ++ [x.id]) (by simp; omega)
      have hx : ∀ {γ : Type} (K : U → Option γ), U.elemAt 4 (.sl 4 (l.map Entry.u)) (idxF (mayNext g out) l 0) K = K x.u := fun K => elemAt_get Entry.u h2 h3 K
      have hnn : ¬ idxF (mayNext g out) l 0 < 0 := by omega
      have hb : (out.length + 1) * 8 ≤ 140737488355328 := by omega
      simp only [List.map_append, List.map_cons, List.map_nil, intU] at ih
      simp [hlt, hi, hnn, hx, h1, serialGo, hb, ih, U.flat.flats, U.flat]
theorem f13_is (h : G_f13 E) (l : List Entry) (hl : l.length ≤ 1048576) (ho : ∀ x ∈ l, x.ok) : E 434 [.sl 4 (l.map Entry.u)] = some (orderU (.nsl 1) (serialOrder l)) := by
  rw [f13_E h]
  cases g : isHistory l with
  | false => simp [f9_is h.c_f9 l hl ho, g, serialOrder, orderU]
  | true =>
    have hgr := f21_is h.c_f21 l (history_ok g).2 ho (history_reads g)
    have hs := f13_l0_is h l (history_ok g).2 (graphOf l) (by have := graph_length l g; omega) l.length [] (by simp)
    rw [List.map_nil] at hs
    simp [f9_is h.c_f9 l hl ho, g, serialOrder, hgr, hs]
theorem f15_l0_is (h : G_f15 E) (l : List Entry) (hl : l.length ≤ 9) (g : List Edge) (hg : g.length ≤ 1048576) : ∀ (n : Nat) (out : List Int), out.length + n = l.length →
    f15_l0 E (.sl 4 (l.map Entry.u)) (.sl 4 (g.map Edge.u)) (out.map intU) = some (orderU (.sl 1 []) (serialGo l g n out))
  | 0, out, hn => by
    rw [f15_l0_eq]
    have : ¬ out.length < l.length := by omega
    simp [this, serialGo, orderU]
  | n + 1, out, hn => by
    have hlt : out.length < l.length := by omega
    have hi := f67_is h.c_f67 l (by omega) 436 [.vp (.sl 1 (out.map intU)), .vp (.sl 4 (g.map Edge.u))] (mayNext g out) (fun x _ => f14_is h.c_f14 g hg out (by omega) x)
    rw [f15_l0_eq]
    rcases find_split (mayNext g out) l with ⟨h1, h2⟩ | ⟨x, h1, h2, h3⟩
    · simp [hlt, hi, h1, h2, serialGo, orderU]
    · have ih := f15_l0_is h l hl g hg n (out ++ [x.id]) (by simp; omega)
      have hx : ∀ {γ : Type} (K : U → Option γ), U.elemAt 4 (.sl 4 (l.map Entry.u)) (idxF (mayNext g out) l 0) K = K x.u := fun K => elemAt_get Entry.u h2 h3 K
      have hnn : ¬ idxF (mayNext g out) l 0 < 0 := by omega
      have hb : (out.length + 1) * 8 ≤ 140737488355328 := by omega
      simp only [List.map_append, List.map_cons, List.map_nil, intU] at ih
      simp [hlt, hi, hnn, hx, h1, serialGo, hb, ih, U.flat.flats, U.flat]
theorem f15_is (h : G_f15 E) (l : List Entry) (hl : l.length ≤ 1048576) (ho : ∀ x ∈ l, x.ok) : E 100434 [.sl 4 (l.map Entry.u)] = some (orderU (.sl 1 []) (serialOrder l)) := by
  rw [f15_E h]
  cases g : isHistory l with
  | false => simp [f9_is h.c_f9 l hl ho, g, serialOrder, orderU]
  | true =>
    have hgr := f21_is h.c_f21 l (history_ok g).2 ho (history_reads g)
    have hs := f15_l0_is h l (history_ok g).2 (graphOf l) (by have := graph_length l g; omega) l.length [] (by simp)
    rw [List.map_nil] at hs
    simp [f9_is h.c_f9 l hl ho, g, serialOrder, hgr, hs]
noncomputable def afterFind (E : Env) (l : List Entry) (g : List Edge) (out : List Int) : Option Entry → Option U
  | none => some (.tup [.sl 1 [], .bool false])
  | some x => f77_l0 E (.sl 4 (l.map Entry.u)) (.sl 4 (g.map Edge.u)) ((out ++ [x.id]).map intU)
theorem f77_l1_found (l : List Entry) (g : List Edge) (out : List Int) (ho : out.length ≤ 1000) (x : Entry) (hx0 : x.id ≠ 0) (i : Int) :
    f77_l1 E (.sl 4 (l.map Entry.u)) (.sl 4 (g.map Edge.u)) (.int .i64 x.id) (.int .i64 i) (out.map intU) = f77_l0 E (.sl 4 (l.map Entry.u)) (.sl 4 (g.map Edge.u)) ((out ++ [x.id]).map intU) := by
  have hb : (out.length + 1) * 8 ≤ 140737488355328 := by omega
  rw [f77_l1_eq]
  by_cases hlt : i < (l.length : Int) <;> simp [hlt, hx0, hb, intU]
theorem f77_l1_is (h : G_f77 E) (l : List Entry) (hl : l.length ≤ 9) (hid : ∀ x ∈ l, x.id ≠ 0) (g : List Edge) (hg : g.length ≤ 1048576) (out : List Int) (ho : out.length ≤ 1000) : ∀ (r p : List Entry) (i : Int), l = p ++ r → i = p.length →
    f77_l1 E (.sl 4 (l.map Entry.u)) (.sl 4 (g.map Edge.u)) (.int .i64 0) (.int .i64 i) (out.map intU) = afterFind E l g out (r.find? (mayNext g out))
  | [], p, i, e, hi => by
    rw [f77_l1_eq]
    simp [mid_end e hi, afterFind]
  | x :: r, p, i, e, hi => by
    obtain ⟨h0, hlt, hx, hw, hn, _⟩ := mid_at e hi (by omega)
    have ih := f77_l1_is h l hl hid g hg out ho r (p ++ [x]) (i + 1) (mid_next e) hn
    have hh := f84_is h.c_f84 out (by omega) x.id
    have hr := f83_is h.c_f83 g hg out (by omega) x.id
    have hf := f77_l1_found (E := E) l g out ho x (hid x (by rw [e]; simp)) (i + 1)
    have ef : ∀ (b : Bool) (K : U → Option U), U.asFlat (.bool b) K = K (.bool b) := fun _ _ => rfl
    rw [f77_l1_eq, List.find?_cons]
    by_cases h1 : x.id ∈ out
    · have hm : mayNext g out x = false := by simp [mayNext, h1]
      simp only [hm]
      rw [← ih]
      simp [hlt, hx, hw, hh, h1]
    · cases h2 : ready g out x.id with
      | false =>
        have hm : mayNext g out x = false := by simp [mayNext, h2]
        simp only [hm]
        rw [← ih]
        simp [hlt, hx, hw, hh, hr, h1, h2]
      | true =>
        have hm : mayNext g out x = true := by simp [mayNext, h1, h2]
        simp only [hm, afterFind]
        rw [← hf]
        simp [hlt, hx, hw, hh, hr, h1, h2]
theorem f77_l0_is (h : G_f77 E) (l : List Entry) (hl : l.length ≤ 9) (hid : ∀ x ∈ l, x.id ≠ 0) (g : List Edge) (hg : g.length ≤ 1048576) : ∀ (n : Nat) (out : List Int), out.length + n = l.length →
    f77_l0 E (.sl 4 (l.map Entry.u)) (.sl 4 (g.map Edge.u)) (out.map intU) = some (orderU (.sl 1 []) (serialGo l g n out))
  | 0, out, hn => by
    rw [f77_l0_eq]
    have : ¬ out.length < l.length := by omega
    simp [this, serialGo, orderU]
  | n + 1, out, hn => by
    have hlt : (out.length : Int) < l.length := by omega
    have h1 := f77_l1_is h l hl hid g hg out (by omega) l [] 0 rfl rfl
    rw [f77_l0_eq]
    simp only [lenOf_sl, List.length_map, Option.bind_some, bin_lss, hlt, decide_true, asBool_bool, if_true, h1, serialGo]
    cases hf : l.find? (mayNext g out) with
    | none => rfl
    | some x => exact f77_l0_is h l hl hid g hg n (out ++ [x.id]) (by simp; omega)
theorem history_ids {l : List Entry} (h : isHistory l = true) : ∀ x ∈ l, x.id ≠ 0 := fun x hx => by
  have := (history_ok h).1 x hx
  simp only [Entry.good, inR, Bool.and_eq_true, decide_eq_true_eq] at this
  omega
theorem f77_is (h : G_f77 E) (l : List Entry) (hl : l.length ≤ 1048576) (ho : ∀ x ∈ l, x.ok) : E 435 [.sl 4 (l.map Entry.u)] = some (orderU (.sl 1 []) (serialOrder l)) := by
  rw [f77_E h]
  cases g : isHistory l with
  | false => simp [f73_is h.c_f73 l hl ho, g, serialOrder, orderU]
  | true =>
    have hgr := f71_is h.c_f71 l hl ho
    rw [buildGraph, if_pos g] at hgr
    have hs := f77_l0_is h l (history_ok g).2 (history_ids g) (graphOf l) (by have := graph_length l g; omega) l.length [] (by simp)
    rw [List.map_nil] at hs
    simp [f73_is h.c_f73 l hl ho, g, serialOrder, hgr, hs]
theorem f56_is (h : G_f56 E) (x : ReadMark) : E 29 [x.u] = some x.u := by
  rw [f56_E h]
  simp [ReadMark.u]
theorem f57_l0_is (h : G_f57 E) (l : List ReadMark) (hl : l.length ≤ 1048576) : ∀ (r p : List ReadMark) (i : Int) (c : List U), l = p ++ r → i = p.length → c.length = r.length → (∀ z ∈ c, z.size = 2) →
    f57_l0 E (.sl 2 (l.map ReadMark.u)) (.int .i64 i) (p.map ReadMark.u ++ c) = some (.sl 2 (l.map ReadMark.u))
  | [], p, i, c, e, hi, hc, _ => by
    obtain rfl : c = [] := List.length_eq_zero_iff.1 hc
    rw [f57_l0_eq]
    simp [mid_end e hi]
    simp [e]
  | x :: r, p, i, [], e, hi, hc, _ => by cases hc
  | x :: r, p, i, z :: c, e, hi, hc, hz => by
    obtain ⟨h0, hlt, hx, hw, hn, _⟩ := mid_at e hi (by omega)
    have hzs : z.size = 2 := hz z (by simp)
    obtain ⟨hg, hs, hlen⟩ := mid_set ReadMark.u p z c hi
    have ih := f57_l0_is h l hl r (p ++ [x]) (i + 1) c (mid_next e) hn (by simpa using hc) (fun y hy => hz y (by simp [hy]))
    simp only [List.map_append, List.map_cons, List.map_nil, List.append_assoc, List.cons_append, List.nil_append] at ih
    rw [f57_l0_eq]
    simp only [hg, hs, hx, hw, asInt_int, bin_lss, lenOf_sl, List.length_map, Option.bind_some, asBool_bool, hlt, decide_true, if_true, h0, hlen, and_self, bin_add, f56_is h.c_f56 x, hzs, ReadMark.u_var, ReadMark.u_size, ReadMark.u_storable, ReadMark.u_partable]
    simpa using ih
theorem f57_is (h : G_f57 E) (l : List ReadMark) (hl : l.length ≤ 1048576) : E 28 [.sl 2 (l.map ReadMark.u)] = some (.sl 2 (l.map ReadMark.u)) := by
  have h1 := f57_l0_is h l hl l [] 0 (List.replicate l.length (.agg [.int .i64 0, .int .i64 0])) rfl rfl (by simp) (by simp)
  rw [f57_E h]
  simp only [lenOf_sl, Option.bind_some, List.length_map]
  rw [if_pos (by refine ⟨by omega, by omega, by omega, rfl⟩)]
  simpa using h1
theorem f37_is (h : G_f37 E) (x y : ReadMark) : E 35 [x.u, y.u] = some (.bool (decide (x = y))) := by
  rw [f37_E h]
  obtain ⟨a0, a1⟩ := x
  obtain ⟨b0, b1⟩ := y
  simp only [ReadMark.mk.injEq]
  by_cases h0 : a0 = b0
  case neg => simp [h0]
  subst h0
  by_cases h1 : a1 = b1
  case neg => simp [h1]
  subst h1
  simp []
theorem f38_l0_is (h : G_f38 E) (a b : List ReadMark) (ha : a.length ≤ 1048576) (hb : b.length ≤ 1048576) : ∀ (r s p p2 : List ReadMark) (i : Int), a = p ++ r → b = p2 ++ s → i = p.length → i = p2.length → r.length = s.length →
    f38_l0 E (.sl 2 (a.map ReadMark.u)) (.sl 2 (b.map ReadMark.u)) (.int .i64 i) = some (.bool (decide (r = s)))
  | [], [], p, p2, i, e, e2, hi, hi2, _ => by
    rw [f38_l0_eq]
    simp [mid_end e hi]
  | [], y :: s, _, _, _, _, _, _, _, hl => by cases hl
  | x :: r, [], _, _, _, _, _, _, _, hl => by cases hl
  | x :: r, y :: s, p, p2, i, e, e2, hi, hi2, hl => by
    obtain ⟨h0, hlt, hx, hw, hn, _⟩ := mid_at e hi (by omega)
    obtain ⟨_, _, hy, _, hn2, _⟩ := mid_at e2 hi2 (by omega)
    have ih := f38_l0_is h a b ha hb r s (p ++ [x]) (p2 ++ [y]) (i + 1) (mid_next e) (mid_next e2) hn hn2 (by simpa using hl)
    rw [f38_l0_eq]
    by_cases hxy : x = y
    · subst hxy
      simp [hlt, hx, hy, hw, ih, f37_is h.c_f37]
    · simp [hlt, hx, hy, hw, ih, f37_is h.c_f37, hxy]
theorem f38_is (h : G_f38 E) (a b : List ReadMark) (ha : a.length ≤ 1048576) (hb : b.length ≤ 1048576) : E 34 [.sl 2 (a.map ReadMark.u), .sl 2 (b.map ReadMark.u)] = some (.bool (decide (a = b))) := by
  rw [f38_E h]
  by_cases hl : a.length = b.length
  · simp [hl, f38_l0_is h a b ha hb a b [] [] 0 rfl rfl rfl rfl hl]
  · have h1 : a ≠ b := fun e => hl (by rw [e])
    have h2 : (a.length : Int) ≠ b.length := by omega
    simp [h1, h2]
theorem f49_is (h : G_f49 E) (l : List ReadMark) (hl : l.length ≤ maxLen) (left : Int) (h0 : 0 ≤ left) (h1 : left ≤ 1048576) : E 24 [.sl 2 (l.map ReadMark.u), .int .i64 left] = some (.int .i64 (szc l.length left)) := by
  rw [f49_E h]
  unfold maxLen at hl
  have hw : IntKind.i64.wrap (left - (l.length : Int)) = left - l.length := wrap_in (by omega)
  by_cases h2 : left - (l.length : Int) < 0 <;> simp [hw, szc, h2]
theorem f59_is (h : G_f59 E) (x : Write) : E 30 [x.u] = some x.u := by
  rw [f59_E h]
  simp [Write.u]
theorem f60_l0_is (h : G_f60 E) (l : List Write) (hl : l.length ≤ 1048576) : ∀ (r p : List Write) (i : Int) (c : List U), l = p ++ r → i = p.length → c.length = r.length → (∀ z ∈ c, z.size = 2) →
    f60_l0 E (.sl 2 (l.map Write.u)) (.int .i64 i) (p.map Write.u ++ c) = some (.sl 2 (l.map Write.u))
  | [], p, i, c, e, hi, hc, _ => by
    obtain rfl : c = [] := List.length_eq_zero_iff.1 hc
    rw [f60_l0_eq]
    simp [mid_end e hi]
    simp [e]
  | x :: r, p, i, [], e, hi, hc, _ => by cases hc
  | x :: r, p, i, z :: c, e, hi, hc, hz => by
    obtain ⟨h0, hlt, hx, hw, hn, _⟩ := mid_at e hi (by omega)
    have hzs : z.size = 2 := hz z (by simp)
    obtain ⟨hg, hs, hlen⟩ := mid_set Write.u p z c hi
    have ih := f60_l0_is h l hl r (p ++ [x]) (i + 1) c (mid_next e) hn (by simpa using hc) (fun y hy => hz y (by simp [hy]))
    simp only [List.map_append, List.map_cons, List.map_nil, List.append_assoc, List.cons_append, List.nil_append] at ih
    rw [f60_l0_eq]
    simp only [hg, hs, hx, hw, asInt_int, bin_lss, lenOf_sl, List.length_map, Option.bind_some, asBool_bool, hlt, decide_true, if_true, h0, hlen, and_self, bin_add, f59_is h.c_f59 x, hzs, Write.u_var, Write.u_size, Write.u_storable, Write.u_partable]
    simpa using ih
theorem f60_is (h : G_f60 E) (l : List Write) (hl : l.length ≤ 1048576) : E 27 [.sl 2 (l.map Write.u)] = some (.sl 2 (l.map Write.u)) := by
  have h1 := f60_l0_is h l hl l [] 0 (List.replicate l.length (.agg [.int .i64 0, .int .i64 0])) rfl rfl (by simp) (by simp)
  rw [f60_E h]
  simp only [lenOf_sl, Option.bind_some, List.length_map]
  rw [if_pos (by refine ⟨by omega, by omega, by omega, rfl⟩)]
  simpa using h1
theorem f39_is (h : G_f39 E) (x y : Write) : E 36 [x.u, y.u] = some (.bool (decide (x = y))) := by
  rw [f39_E h]
  obtain ⟨a0, a1⟩ := x
  obtain ⟨b0, b1⟩ := y
  simp only [Write.mk.injEq]
  by_cases h0 : a0 = b0
  case neg => simp [h0]
  subst h0
  by_cases h1 : a1 = b1
  case neg => simp [h1]
  subst h1
  simp []
theorem f40_l0_is (h : G_f40 E) (a b : List Write) (ha : a.length ≤ 1048576) (hb : b.length ≤ 1048576) : ∀ (r s p p2 : List Write) (i : Int), a = p ++ r → b = p2 ++ s → i = p.length → i = p2.length → r.length = s.length →
    f40_l0 E (.sl 2 (a.map Write.u)) (.sl 2 (b.map Write.u)) (.int .i64 i) = some (.bool (decide (r = s)))
  | [], [], p, p2, i, e, e2, hi, hi2, _ => by
    rw [f40_l0_eq]
    simp [mid_end e hi]
  | [], y :: s, _, _, _, _, _, _, _, hl => by cases hl
  | x :: r, [], _, _, _, _, _, _, _, hl => by cases hl
  | x :: r, y :: s, p, p2, i, e, e2, hi, hi2, hl => by
    obtain ⟨h0, hlt, hx, hw, hn, _⟩ := mid_at e hi (by omega)
    obtain ⟨_, _, hy, _, hn2, _⟩ := mid_at e2 hi2 (by omega)
    have ih := f40_l0_is h a b ha hb r s (p ++ [x]) (p2 ++ [y]) (i + 1) (mid_next e) (mid_next e2) hn hn2 (by simpa using hl)
    rw [f40_l0_eq]
    by_cases hxy : x = y
    · subst hxy
      simp [hlt, hx, hy, hw, ih, f39_is h.c_f39]
    · simp [hlt, hx, hy, hw, ih, f39_is h.c_f39, hxy]
theorem f40_is (h : G_f40 E) (a b : List Write) (ha : a.length ≤ 1048576) (hb : b.length ≤ 1048576) : E 33 [.sl 2 (a.map Write.u), .sl 2 (b.map Write.u)] = some (.bool (decide (a = b))) := by
  rw [f40_E h]
  by_cases hl : a.length = b.length
  · simp [hl, f40_l0_is h a b ha hb a b [] [] 0 rfl rfl rfl rfl hl]
  · have h1 : a ≠ b := fun e => hl (by rw [e])
    have h2 : (a.length : Int) ≠ b.length := by omega
    simp [h1, h2]
theorem f50_is (h : G_f50 E) (l : List Write) (hl : l.length ≤ maxLen) (left : Int) (h0 : 0 ≤ left) (h1 : left ≤ 1048576) : E 23 [.sl 2 (l.map Write.u), .int .i64 left] = some (.int .i64 (szc l.length left)) := by
  rw [f50_E h]
  unfold maxLen at hl
  have hw : IntKind.i64.wrap (left - (l.length : Int)) = left - l.length := wrap_in (by omega)
  by_cases h2 : left - (l.length : Int) < 0 <;> simp [hw, szc, h2]
theorem f34_is (h : G_f34 E) (x y : Entry) (hx : x.ok) (hy : y.ok) : E 56 [x.u, y.u] = some (.bool (decide (x = y))) := by
  rw [f34_E h]
  obtain ⟨a0, a1, a2, a3⟩ := x
  obtain ⟨b0, b1, b2, b3⟩ := y
  simp only [Entry.mk.injEq]
  by_cases h0 : a0 = b0
  case neg => simp [f38_is h.c_f38 a2 b2 hx.1 hy.1, f40_is h.c_f40 a3 b3 hx.2 hy.2, h0]
  subst h0
  by_cases h1 : a1 = b1
  case neg => simp [f38_is h.c_f38 a2 b2 hx.1 hy.1, f40_is h.c_f40 a3 b3 hx.2 hy.2, h1]
  subst h1
  by_cases h2 : a2 = b2
  case neg => simp [f38_is h.c_f38 a2 b2 hx.1 hy.1, f40_is h.c_f40 a3 b3 hx.2 hy.2, h2]
  subst h2
  by_cases h3 : a3 = b3
  case neg => simp [f38_is h.c_f38 a2 a2 hx.1 hy.1, f40_is h.c_f40 a3 b3 hx.2 hy.2, h3]
  subst h3
  simp [f38_is h.c_f38 a2 a2 hx.1 hy.1, f40_is h.c_f40 a3 a3 hx.2 hy.2]
def Entry.sz (e : Entry) (left : Int) : Int := let v := szc e.reads.length left; if v < 0 then -1 else szc e.writes.length v
theorem Entry.sz_szs : Szs Entry.sz Entry.ok := fun e left h0 h1 => by
  unfold Entry.sz Entry.ok
  rcases szc_szs e.reads.length left h0 h1 with h | ⟨h2, h3, h4⟩
  · left; simp [h]
  · have h5 : ¬ szc e.reads.length left < 0 := by omega
    rcases szc_szs e.writes.length _ h3 (by omega) with h | ⟨h6, h7, h8⟩
    · left; simp [h5, h]
    · right; simp only [h5, if_false]; exact ⟨⟨h2, h6⟩, h7, by omega⟩
theorem f47_is (h : G_f47 E) (x : Entry) (hf : x.fit) (left : Int) (h0 : 0 ≤ left) (h1 : left ≤ 1048576) : E 50 [x.u, .int .i64 left] = some (.int .i64 (x.sz left)) := by
  rw [f47_E h]
  obtain ⟨hf1, hf2⟩ := hf
  have a1 := f49_is h.c_f49 x.reads hf1 left h0 h1
  rcases szc_szs x.reads.length left h0 h1 with h2 | ⟨_, h3, h4⟩
  · simp [a1, Entry.sz, h2]
  · have h5 : ¬ szc x.reads.length left < 0 := by omega
    have a2 := f50_is h.c_f50 x.writes hf2 _ h3 (by omega)
    by_cases h6 : szc x.writes.length (szc x.reads.length left) < 0
    · have h7 : szc x.writes.length (szc x.reads.length left) = -1 := szc_neg h6
      simp [a1, a2, Entry.sz, h5, h7]
    · simp [a1, a2, Entry.sz, h5, h6]
theorem f51_is (h : G_f51 E) (x : Entry) (ho : x.ok) : E 51 [x.u] = some x.u := by
  rw [f51_E h]
  simp [Entry.u, f57_is h.c_f57 x.reads ho.1, f60_is h.c_f60 x.writes ho.2]
theorem f52_l0_is (h : G_f52 E) (l : List Entry) (hl : l.length ≤ 1048576) (hok : ∀ x ∈ l, Entry.ok x) : ∀ (r p : List Entry) (i : Int) (c : List U), l = p ++ r → i = p.length → c.length = r.length → (∀ z ∈ c, z.size = 4) →
    f52_l0 E (.sl 4 (l.map Entry.u)) (.int .i64 i) (p.map Entry.u ++ c) = some (.sl 4 (l.map Entry.u))
  | [], p, i, c, e, hi, hc, _ => by
    obtain rfl : c = [] := List.length_eq_zero_iff.1 hc
    rw [f52_l0_eq]
    simp [mid_end e hi]
    simp [e]
  | x :: r, p, i, [], e, hi, hc, _ => by cases hc
  | x :: r, p, i, z :: c, e, hi, hc, hz => by
    obtain ⟨h0, hlt, hx, hw, hn, _⟩ := mid_at e hi (by omega)
    have hox : Entry.ok x := hok x (by rw [e]; simp)
    have hzs : z.size = 4 := hz z (by simp)
    obtain ⟨hg, hs, hlen⟩ := mid_set Entry.u p z c hi
    have ih := f52_l0_is h l hl hok r (p ++ [x]) (i + 1) c (mid_next e) hn (by simpa using hc) (fun y hy => hz y (by simp [hy]))
    simp only [List.map_append, List.map_cons, List.map_nil, List.append_assoc, List.cons_append, List.nil_append] at ih
    rw [f52_l0_eq]
    simp only [hg, hs, hx, hw, asInt_int, bin_lss, lenOf_sl, List.length_map, Option.bind_some, asBool_bool, hlt, decide_true, if_true, h0, hlen, and_self, bin_add, f51_is h.c_f51 x hox, hzs, Entry.u_var, Entry.u_size, Entry.u_storable, Entry.u_partable]
    simpa using ih
theorem f52_is (h : G_f52 E) (l : List Entry) (hl : l.length ≤ 1048576) (hok : ∀ x ∈ l, Entry.ok x) : E 45 [.sl 4 (l.map Entry.u)] = some (.sl 4 (l.map Entry.u)) := by
  have h1 := f52_l0_is h l hl hok l [] 0 (List.replicate l.length (.agg [.int .i64 0, .int .i64 0, .nsl 2, .nsl 2])) rfl rfl (by simp) (by simp)
  rw [f52_E h]
  simp only [lenOf_sl, Option.bind_some, List.length_map]
  rw [if_pos (by refine ⟨by omega, by omega, by omega, rfl⟩)]
  simpa using h1
theorem f35_l0_is (h : G_f35 E) (a b : List Entry) (ha : a.length ≤ 1048576) (hb : b.length ≤ 1048576) (hao : ∀ x ∈ a, Entry.ok x) (hbo : ∀ x ∈ b, Entry.ok x) : ∀ (r s p p2 : List Entry) (i : Int), a = p ++ r → b = p2 ++ s → i = p.length → i = p2.length → r.length = s.length →
    f35_l0 E (.sl 4 (a.map Entry.u)) (.sl 4 (b.map Entry.u)) (.int .i64 i) = some (.bool (decide (r = s)))
  | [], [], p, p2, i, e, e2, hi, hi2, _ => by
    rw [f35_l0_eq]
    simp [mid_end e hi]
  | [], y :: s, _, _, _, _, _, _, _, hl => by cases hl
  | x :: r, [], _, _, _, _, _, _, _, hl => by cases hl
  | x :: r, y :: s, p, p2, i, e, e2, hi, hi2, hl => by
    obtain ⟨h0, hlt, hx, hw, hn, _⟩ := mid_at e hi (by omega)
    obtain ⟨_, _, hy, _, hn2, _⟩ := mid_at e2 hi2 (by omega)
    have hox : Entry.ok x := hao x (by rw [e]; simp)
    have hoy : Entry.ok y := hbo y (by rw [e2]; simp)
    have ih := f35_l0_is h a b ha hb hao hbo r s (p ++ [x]) (p2 ++ [y]) (i + 1) (mid_next e) (mid_next e2) hn hn2 (by simpa using hl)
    rw [f35_l0_eq]
    by_cases hxy : x = y
    · subst hxy
      simp [hlt, hx, hy, hw, ih, f34_is h.c_f34 _ _ hox hoy]
    · simp [hlt, hx, hy, hw, ih, f34_is h.c_f34 _ _ hox hoy, hxy]
theorem f35_is (h : G_f35 E) (a b : List Entry) (ha : a.length ≤ 1048576) (hb : b.length ≤ 1048576) (hao : ∀ x ∈ a, Entry.ok x) (hbo : ∀ x ∈ b, Entry.ok x) : E 46 [.sl 4 (a.map Entry.u), .sl 4 (b.map Entry.u)] = some (.bool (decide (a = b))) := by
  rw [f35_E h]
  by_cases hl : a.length = b.length
  · simp [hl, f35_l0_is h a b ha hb hao hbo a b [] [] 0 rfl rfl rfl rfl hl]
  · have h1 : a ≠ b := fun e => hl (by rw [e])
    have h2 : (a.length : Int) ≠ b.length := by omega
    simp [h1, h2]
theorem f48_l0_is (h : G_f48 E) (l : List Entry) (hl : l.length ≤ 1048576) (hf : ∀ x ∈ l, Entry.fit x) : ∀ (r p : List Entry) (i left : Int), l = p ++ r → i = p.length → 0 ≤ left → left ≤ 1048576 →
    f48_l0 E (.sl 4 (l.map Entry.u)) (.int .i64 left) (.int .i64 i) = some (.int .i64 (szl Entry.sz r left))
  | [], p, i, left, e, hi, _, _ => by
    rw [f48_l0_eq]
    simp [mid_end e hi, szl]
  | x :: r, p, i, left, e, hi, h1, h2 => by
    obtain ⟨h0, hlt, hx, hw, hn, _⟩ := mid_at e hi (by omega)
    have hfx : Entry.fit x := hf x (by rw [e]; simp)
    rw [f48_l0_eq]
    rcases Entry.sz_szs x left h1 h2 with h3 | ⟨_, h3, h4⟩
    · simp [hlt, hx, hw, szl, f47_is h.c_f47 x hfx left h1 h2, h3]
    · have ih := f48_l0_is h l hl hf r (p ++ [x]) (i + 1) (Entry.sz x left) (mid_next e) hn h3 (by omega)
      have h5 : ¬ Entry.sz x left < 0 := by omega
      simp [hlt, hx, hw, szl, f47_is h.c_f47 x hfx left h1 h2, h5, ih]
theorem f48_is (h : G_f48 E) (l : List Entry) (hl : l.length ≤ maxLen) (hf : ∀ x ∈ l, Entry.fit x) (left : Int) (h0 : 0 ≤ left) (h1 : left ≤ 1048576) : E 49 [.sl 4 (l.map Entry.u), .int .i64 left] = some (.int .i64 (szL Entry.sz l left)) := by
  rw [f48_E h]
  unfold maxLen at hl
  have hw : IntKind.i64.wrap (left - (l.length : Int)) = left - l.length := wrap_in (by omega)
  by_cases h2 : left - (l.length : Int) < 0
  · simp [hw, szL, h2]
  · simp [hw, szL, h2, f48_l0_is h l (by omega) hf l [] 0 (left - l.length) rfl rfl (by omega) (by omega)]
def upReadMark : Int → Nat → List ReadMark
  | _, 0 => []
  | k, n + 1 => ⟨k, k + 1⟩ :: upReadMark (k + 2) n
theorem flats_ReadMark (l : List ReadMark) : U.flat.flats (l.map ReadMark.u) = true := flats_map _ (fun _ => rfl) l
theorem f45_l0_is (h : G_f45 E) : ∀ (r p : List ReadMark) (k i : Int), i = p.length → p.length + r.length ≤ 1048576 → 0 ≤ k → k + 2 * r.length ≤ 1099511627776 →
    f45_l0 E (.int .i64 k) (.int .i64 i) (p.map ReadMark.u ++ r.map ReadMark.u) = some (.tup [.int .i64 (k + 2 * r.length), .sl 2 (p.map ReadMark.u ++ (upReadMark k r.length).map ReadMark.u)])
  | [], p, k, i, hi, hb, hk, hk2 => by
    have h1 : ¬ i < ((p.map ReadMark.u ++ ([] : List ReadMark).map ReadMark.u).length : Int) := by simp [hi]
    rw [f45_l0_eq]
    simp only [bin_lss, h1, decide_false, Option.bind_some, asBool_bool, Bool.false_eq_true, if_false]
    rw [← List.map_append]
    simp [upReadMark, flats_ReadMark]
  | x :: r, p, k, i, hi, hb, hk, hk2 => by
    simp only [List.length_cons] at hb hk2
    have hm := fun z => mid_set ReadMark.u p z (r.map ReadMark.u) hi
    have hg := fun z => (hm z).1
    have hs := fun z => (hm z).2.1
    have hlen := fun z => (hm z).2.2
    have h0 : 0 ≤ i := by omega
    have hw0 : IntKind.i64.wrap (k + 1) = k + 1 := by rw [wrap_in (by omega)]
    have hw1 : IntKind.i64.wrap (k + 1 + 1) = k + 2 := by rw [wrap_in (by omega)]; omega
    have hwi : IntKind.i64.wrap (i + 1) = i + 1 := wrap_in (by omega)
    have ih := f45_l0_is h r (p ++ [⟨k, k + 1⟩]) (k + 2) (i + 1) (by simp [hi]) (by simp; omega) (by omega) (by omega)
    simp only [List.map_append, List.map_cons, List.map_nil, List.append_assoc, List.cons_append, List.nil_append] at ih
    rw [f45_l0_eq]
    simp only [List.map_cons, bin_lss, hlen, decide_true, Option.bind_some, asBool_bool, if_true, asInt_int, h0, and_self, storable_int, size_int, flat_int, hg, hs, ReadMark.u_agg, asAgg_agg, List.take_zero, List.take_succ_cons, sizes_cons, sizes_nil, Nat.add_zero, Nat.zero_add, List.getElem?_cons_zero, List.getElem?_cons_succ, List.set_cons_zero, List.set_cons_succ, bin_add, hw0, hw1, hwi, Nat.reduceAdd]
    have e : k + 2 + 2 * (r.length : Int) = k + 2 * ((r.length + 1 : Nat) : Int) := by omega
    rw [e] at ih
    simpa [upReadMark, ReadMark.u] using ih
theorem f45_is (h : G_f45 E) (l : List ReadMark) (hl : l.length ≤ 1048576) (k : Int) (hk : 0 ≤ k) (hk2 : k ≤ 1073741824) :
    E 200095 (.agg [.tup [.sl 2 (l.map ReadMark.u)]] :: [.int .i64 k]) = some (.tup [.int .i64 (k + 2 * l.length), .sl 2 ((upReadMark k l.length).map ReadMark.u)]) := by
  rw [f45_E h]
  exact f45_l0_is h l [] k 0 rfl (by simpa using hl) hk (by omega)
def upWrite : Int → Nat → List Write
  | _, 0 => []
  | k, n + 1 => ⟨k, k + 1⟩ :: upWrite (k + 2) n
theorem flats_Write (l : List Write) : U.flat.flats (l.map Write.u) = true := flats_map _ (fun _ => rfl) l
theorem f46_l0_is (h : G_f46 E) : ∀ (r p : List Write) (k i : Int), i = p.length → p.length + r.length ≤ 1048576 → 0 ≤ k → k + 2 * r.length ≤ 1099511627776 →
    f46_l0 E (.int .i64 k) (.int .i64 i) (p.map Write.u ++ r.map Write.u) = some (.tup [.int .i64 (k + 2 * r.length), .sl 2 (p.map Write.u ++ (upWrite k r.length).map Write.u)])
  | [], p, k, i, hi, hb, hk, hk2 => by
    have h1 : ¬ i < ((p.map Write.u ++ ([] : List Write).map Write.u).length : Int) := by simp [hi]
    rw [f46_l0_eq]
    simp only [bin_lss, h1, decide_false, Option.bind_some, asBool_bool, Bool.false_eq_true, if_false]
    rw [← List.map_append]
    simp [upWrite, flats_Write]
  | x :: r, p, k, i, hi, hb, hk, hk2 => by
    simp only [List.length_cons] at hb hk2
    have hm := fun z => mid_set Write.u p z (r.map Write.u) hi
    have hg := fun z => (hm z).1
    have hs := fun z => (hm z).2.1
    have hlen := fun z => (hm z).2.2
    have h0 : 0 ≤ i := by omega
    have hw0 : IntKind.i64.wrap (k + 1) = k + 1 := by rw [wrap_in (by omega)]
    have hw1 : IntKind.i64.wrap (k + 1 + 1) = k + 2 := by rw [wrap_in (by omega)]; omega
    have hwi : IntKind.i64.wrap (i + 1) = i + 1 := wrap_in (by omega)
    have ih := f46_l0_is h r (p ++ [⟨k, k + 1⟩]) (k + 2) (i + 1) (by simp [hi]) (by simp; omega) (by omega) (by omega)
    simp only [List.map_append, List.map_cons, List.map_nil, List.append_assoc, List.cons_append, List.nil_append] at ih
    rw [f46_l0_eq]
    simp only [List.map_cons, bin_lss, hlen, decide_true, Option.bind_some, asBool_bool, if_true, asInt_int, h0, and_self, storable_int, size_int, flat_int, hg, hs, Write.u_agg, asAgg_agg, List.take_zero, List.take_succ_cons, sizes_cons, sizes_nil, Nat.add_zero, Nat.zero_add, List.getElem?_cons_zero, List.getElem?_cons_succ, List.set_cons_zero, List.set_cons_succ, bin_add, hw0, hw1, hwi, Nat.reduceAdd]
    have e : k + 2 + 2 * (r.length : Int) = k + 2 * ((r.length + 1 : Nat) : Int) := by omega
    rw [e] at ih
    simpa [upWrite, Write.u] using ih
theorem f46_is (h : G_f46 E) (l : List Write) (hl : l.length ≤ 1048576) (k : Int) (hk : 0 ≤ k) (hk2 : k ≤ 1073741824) :
    E 200232 (.agg [.tup [.sl 2 (l.map Write.u)]] :: [.int .i64 k]) = some (.tup [.int .i64 (k + 2 * l.length), .sl 2 ((upWrite k l.length).map Write.u)]) := by
  rw [f46_E h]
  exact f46_l0_is h l [] k 0 rfl (by simpa using hl) hk (by omega)
theorem f58_l0_is (h : G_f58 E) (l : List ReadMark) (hl : l.length ≤ 1048576) : ∀ (r p : List ReadMark) (i : Int) (c : List U), l = p ++ r → i = p.length → c.length = r.length → (∀ z ∈ c, z.size = 2) →
    f58_l0 E (.sl 2 (l.map ReadMark.u)) (.int .i64 i) (p.map ReadMark.u ++ c) = some (.sl 2 (l.map ReadMark.u))
  | [], p, i, c, e, hi, hc, _ => by
    obtain rfl : c = [] := List.length_eq_zero_iff.1 hc
    rw [f58_l0_eq]
    simp [mid_end e hi]
    simp [e, flats_ReadMark, ← List.map_append, ← List.map_cons]
  | x :: r, p, i, [], e, hi, hc, _ => by cases hc
  | x :: r, p, i, z :: c, e, hi, hc, hz => by
    obtain ⟨h0, hlt, hx, hw, hn, _⟩ := mid_at e hi (by omega)
    have hzs : z.size = 2 := hz z (by simp)
    obtain ⟨hg, hs, hlen⟩ := mid_set ReadMark.u p z c hi
    have ih := f58_l0_is h l hl r (p ++ [x]) (i + 1) c (mid_next e) hn (by simpa using hc) (fun y hy => hz y (by simp [hy]))
    simp only [List.map_append, List.map_cons, List.map_nil, List.append_assoc, List.cons_append, List.nil_append] at ih
    rw [f58_l0_eq]
    simp only [hg, hs, hx, hw, asInt_int, bin_lss, lenOf_sl, List.length_map, Option.bind_some, asBool_bool, hlt, decide_true, if_true, h0, hlen, and_self, bin_add, f56_is h.c_f56 x, hzs, ReadMark.u_var, ReadMark.u_size, ReadMark.u_storable, ReadMark.u_partable]
    simpa using ih
theorem f58_is (h : G_f58 E) (l : List ReadMark) (hl : l.length ≤ 1048576) : E 100028 [.sl 2 (l.map ReadMark.u)] = some (.sl 2 (l.map ReadMark.u)) := by
  have h1 := f58_l0_is h l hl l [] 0 (List.replicate l.length (.agg [.int .i64 0, .int .i64 0])) rfl rfl (by simp) (by simp)
  rw [f58_E h]
  simp only [lenOf_sl, Option.bind_some, List.length_map]
  rw [if_pos (by refine ⟨by omega, by omega, by omega, rfl⟩)]
  simpa using h1
theorem f61_l0_is (h : G_f61 E) (l : List Write) (hl : l.length ≤ 1048576) : ∀ (r p : List Write) (i : Int) (c : List U), l = p ++ r → i = p.length → c.length = r.length → (∀ z ∈ c, z.size = 2) →
    f61_l0 E (.sl 2 (l.map Write.u)) (.int .i64 i) (p.map Write.u ++ c) = some (.sl 2 (l.map Write.u))
  | [], p, i, c, e, hi, hc, _ => by
    obtain rfl : c = [] := List.length_eq_zero_iff.1 hc
    rw [f61_l0_eq]
    simp [mid_end e hi]
    simp [e, flats_Write, ← List.map_append, ← List.map_cons]
  | x :: r, p, i, [], e, hi, hc, _ => by cases hc
  | x :: r, p, i, z :: c, e, hi, hc, hz => by
    obtain ⟨h0, hlt, hx, hw, hn, _⟩ := mid_at e hi (by omega)
    have hzs : z.size = 2 := hz z (by simp)
    obtain ⟨hg, hs, hlen⟩ := mid_set Write.u p z c hi
    have ih := f61_l0_is h l hl r (p ++ [x]) (i + 1) c (mid_next e) hn (by simpa using hc) (fun y hy => hz y (by simp [hy]))
    simp only [List.map_append, List.map_cons, List.map_nil, List.append_assoc, List.cons_append, List.nil_append] at ih
    rw [f61_l0_eq]
    simp only [hg, hs, hx, hw, asInt_int, bin_lss, lenOf_sl, List.length_map, Option.bind_some, asBool_bool, hlt, decide_true, if_true, h0, hlen, and_self, bin_add, f59_is h.c_f59 x, hzs, Write.u_var, Write.u_size, Write.u_storable, Write.u_partable]
    simpa using ih
theorem f61_is (h : G_f61 E) (l : List Write) (hl : l.length ≤ 1048576) : E 100027 [.sl 2 (l.map Write.u)] = some (.sl 2 (l.map Write.u)) := by
  have h1 := f61_l0_is h l hl l [] 0 (List.replicate l.length (.agg [.int .i64 0, .int .i64 0])) rfl rfl (by simp) (by simp)
  rw [f61_E h]
  simp only [lenOf_sl, Option.bind_some, List.length_map]
  rw [if_pos (by refine ⟨by omega, by omega, by omega, rfl⟩)]
  simpa using h1
theorem f54_is (h : G_f54 E) (x : Entry) (ho : x.ok) : E 100051 [x.u] = some x.u := by
  rw [f54_E h]
  have h1 := f58_is h.c_f58 x.reads ho.1
  have h2 := f61_is h.c_f61 x.writes ho.2
  have h3 : ∀ (k : Nat) (us : List U) (K : U → Option U), U.noTup (.sl k us) K = K (.sl k us) := fun _ _ _ => rfl
  have h4 : ∀ (n : Int) (K : U → Option U), U.noTup (.int .i64 n) K = K (.int .i64 n) := fun _ _ => rfl
  simp [h1, h2, U.asSlK, h3, h4, D.size, dsizes, D.size.dsizes]
  rfl
theorem f53_l0_is (h : G_f53 E) (l : List Entry) (hl : l.length ≤ 1048576) (hok : ∀ x ∈ l, Entry.ok x) : ∀ (r p : List Entry) (i : Int) (c : List U), l = p ++ r → i = p.length → c.length = r.length → (∀ z ∈ c, z.size = 4) →
    f53_l0 E (.sl 4 (l.map Entry.u)) (.int .i64 i) (p.map Entry.u ++ c) = some (.sl 4 (l.map Entry.u))
  | [], p, i, c, e, hi, hc, _ => by
    obtain rfl : c = [] := List.length_eq_zero_iff.1 hc
    rw [f53_l0_eq]
    simp [mid_end e hi]
    simp [e]
  | x :: r, p, i, [], e, hi, hc, _ => by cases hc
  | x :: r, p, i, z :: c, e, hi, hc, hz => by
    obtain ⟨h0, hlt, hx, hw, hn, _⟩ := mid_at e hi (by omega)
    have hox : x.ok := hok x (by rw [e]; simp)
    have hzs : z.size = 4 := hz z (by simp)
    obtain ⟨hg, hs, hlen⟩ := mid_set Entry.u p z c hi
    have ih := f53_l0_is h l hl hok r (p ++ [x]) (i + 1) c (mid_next e) hn (by simpa using hc) (fun y hy => hz y (by simp [hy]))
    simp only [List.map_append, List.map_cons, List.map_nil, List.append_assoc, List.cons_append, List.nil_append] at ih
    have hF := f54_is h.c_f54 x hox
    have h3 : ∀ (k : Nat) (us : List U) (K : U → Option U), U.noTup (.sl k us) K = K (.sl k us) := fun _ _ _ => rfl
    have h4 : ∀ (n : Int) (K : U → Option U), U.noTup (.int .i64 n) K = K (.int .i64 n) := fun _ _ => rfl
    have hu : U.agg [.int .i64 x.id, .int .i64 x.stamp, .sl 2 (x.reads.map ReadMark.u), .sl 2 (x.writes.map Write.u)] = x.u := rfl
    rw [f53_l0_eq]
    simp only [hx, hw, asInt_int, bin_lss, lenOf_sl, List.length_map, Option.bind_some, asBool_bool, hlt, decide_true, if_true, h0, hlen, and_self, bin_add, Entry.u_var, hF, Entry.u_noTup, Entry.u_agg, asVar_int, flat_int, U.asSlK, h4]
    simp only [dsizes_cons, dsizes_nil, D.size, size_int, Nat.reduceAdd, if_true, hu, Entry.u_size, hg, hs, hzs, Option.bind_some]
    simpa using ih
theorem f53_is (h : G_f53 E) (l : List Entry) (hl : l.length ≤ 1048576) (hok : ∀ x ∈ l, Entry.ok x) : E 100045 [.sl 4 (l.map Entry.u)] = some (.sl 4 (l.map Entry.u)) := by
  have h1 := f53_l0_is h l hl hok l [] 0 (List.replicate l.length (.agg [.int .i64 0, .int .i64 0, .nsl 2, .nsl 2])) rfl rfl (by simp) (by simp)
  rw [f53_E h]
  simp only [lenOf_sl, Option.bind_some, List.length_map]
  rw [if_pos (by refine ⟨by omega, by omega, by omega, rfl⟩)]
  have hfl : ∀ n : Nat, U.flat.flats (List.replicate n (.agg [.int .i64 0, .int .i64 0, .nsl 2, .nsl 2])) = true := by
    intro n
    induction n with
    | zero => rfl
    | succ n ih => simp [List.replicate_succ, U.flat.flats, U.flat, ih]
  simpa [hfl] using h1
def entInts : List Entry → Int
  | [] => 0
  | x :: r => 2 + 2 * x.reads.length + 2 * x.writes.length + entInts r
theorem entInts_nonneg : ∀ l, 0 ≤ entInts l
  | [] => by simp [entInts]
  | x :: r => by have := entInts_nonneg r; simp only [entInts]; omega
theorem f43_l0_is (h : G_f43 E) : ∀ (r : List Entry) (p : List U) (k i : Int), i = p.length → p.length + r.length ≤ 1048576 → (∀ x ∈ r, x.ok) → 0 ≤ k → k + entInts r ≤ 1073741824 →
    ∃ k' us, f43_l0 E (.int .i64 k) (.int .i64 i) (p ++ r.map Entry.u) = some (.tup [.int .i64 k', .sl 4 us]) ∧ 0 ≤ k' ∧ k' ≤ 1073741824
  | [], p, k, i, hi, hb, hr, hk, hk2 => by
    simp only [entInts] at hk2
    refine ⟨k, p, ?_, hk, by omega⟩
    have h1 : ¬ i < (p.length : Int) := by omega
    rw [f43_l0_eq]
    simp [h1]
  | x :: r, p, k, i, hi, hb, hr, hk, hk2 => by
    simp only [List.length_cons, entInts] at hb hk2
    have hs := entInts_nonneg r
    have hx : x.ok := hr x (by simp)
    have hm1 := f45_is h.c_f45 x.reads hx.1 (k + 2) (by omega) (by omega)
    have hm2 := f46_is h.c_f46 x.writes hx.2 (k + 2 + 2 * x.reads.length) (by omega) (by omega)
    obtain ⟨k', us, h1, h2⟩ := f43_l0_is h r (p ++ [.agg [.int .i64 k, .int .i64 (k + 1), .sl 2 ((upReadMark (k + 2) x.reads.length).map ReadMark.u), .sl 2 ((upWrite (k + 2 + 2 * x.reads.length) x.writes.length).map Write.u)]]) (k + 2 + 2 * x.reads.length + 2 * x.writes.length) (i + 1) (by simp [hi]) (by simp; omega) (fun y hy => hr y (by simp [hy])) (by omega) (by omega)
    refine ⟨k', us, ?_, h2⟩
    have hn : i.toNat = p.length := by omega
    have hlt : ∀ z : U, i < ((p ++ z :: r.map Entry.u).length : Int) := fun z => by simp; omega
    have h0 : 0 ≤ i := by omega
    have hw : IntKind.i64.wrap (i + 1) = i + 1 := wrap_in (by omega)
    have hw1 : IntKind.i64.wrap (k + 1) = k + 1 := wrap_in (by omega)
    have hw2 : IntKind.i64.wrap (k + 1 + 1) = k + 2 := by rw [wrap_in (by omega)]; omega
    have hg : ∀ z : U, (p ++ z :: r.map Entry.u)[p.length]? = some z := fun z => by simp
    have hset : ∀ y z : U, (p ++ y :: r.map Entry.u).set p.length z = p ++ z :: r.map Entry.u := fun y z => by simp
    rw [f43_l0_eq]
    simp only [List.append_assoc, List.cons_append, List.nil_append] at h1
    simp only [List.map_cons, bin_lss, hlt, decide_true, Option.bind_some, asBool_bool, if_true, asInt_int, h0, and_self, hn, hg, hset, Entry.u_agg, asAgg_agg, List.take_zero, List.take_succ_cons, sizes_cons, sizes_nil, size_int, U.size, Nat.add_zero, Nat.zero_add, Nat.reduceAdd, List.getElem?_cons_zero, List.getElem?_cons_succ, List.set_cons_zero, List.set_cons_succ, storable_int, flat_int, bin_add, hw, hw1, hw2, U.asSlK, hm1, hm2, U.asMut, U.asFlat, U.flat, partable_int]
    exact h1
theorem entInts_szl : ∀ (r : List Entry) (left : Int), 0 ≤ left → 0 ≤ szl Entry.sz r left → entInts r ≤ 2 * r.length + 2 * left
  | [], left, h0, h => by simp [entInts]; omega
  | x :: r, left, h0, h => by
    simp only [szl] at h
    by_cases h1 : Entry.sz x left < 0
    · rw [if_pos h1] at h; omega
    · rw [if_neg h1] at h
      have h2 := entInts_szl r (Entry.sz x left) (by omega) h
      simp only [Entry.sz, szc] at h1 h2
      simp only [entInts, List.length_cons]
      split at h2
      · omega
      · split at h2
        · omega
        · omega
theorem entInts_sz (l : List Entry) (left : Int) (h0 : 0 ≤ left) (h1 : left ≤ 1048576) (h : 0 ≤ szL Entry.sz l left) : entInts l ≤ 4194304 := by
  simp only [szL] at h
  split at h
  · omega
  · have := entInts_szl l _ (by omega) h
    omega
def upInts : Int → Nat → List Int
  | _, 0 => []
  | k, n + 1 => k :: upInts (k + 1) n
theorem upInts_length : ∀ (n : Nat) (k : Int), (upInts k n).length = n
  | 0, _ => rfl
  | n + 1, k => by simp [upInts, upInts_length n]
theorem f44_l0_is (h : G_f44 E) : ∀ (r p : List Int) (k i : Int), i = p.length → p.length + r.length ≤ 1048576 → 0 ≤ k → k + r.length ≤ 1099511627776 →
    f44_l0 E (.int .i64 k) (.int .i64 i) (p.map intU ++ r.map intU) = some (.tup [.int .i64 (k + r.length), .sl 1 (p.map intU ++ (upInts k r.length).map intU)])
  | [], p, k, i, hi, hb, hk, hk2 => by
    have h1 : ¬ i < ((p.map intU ++ ([] : List Int).map intU).length : Int) := by simp [hi]
    rw [f44_l0_eq]
    simp only [bin_lss, h1, decide_false, Option.bind_some, asBool_bool, Bool.false_eq_true, if_false]
    rw [← List.map_append]
    simp [upInts]
  | x :: r, p, k, i, hi, hb, hk, hk2 => by
    simp only [List.length_cons] at hb hk2
    obtain ⟨hg, hs, hlen⟩ := mid_set intU p (intU x) (r.map intU) hi
    have h0 : 0 ≤ i := by omega
    have hw : IntKind.i64.wrap (k + 1) = k + 1 := wrap_in (by omega)
    have hw2 : IntKind.i64.wrap (i + 1) = i + 1 := wrap_in (by omega)
    have ih := f44_l0_is h r (p ++ [k]) (k + 1) (i + 1) (by simp [hi]) (by simp; omega) (by omega) (by omega)
    simp only [List.map_append, List.map_cons, List.map_nil, List.append_assoc, List.cons_append, List.nil_append] at ih
    rw [f44_l0_eq]
    simp only [List.map_cons, bin_lss, hlen, decide_true, Option.bind_some, asBool_bool, if_true, asInt_int, h0, and_self, storable_int, partable_int, size_int, hg, intU_size, bin_add, hw, hw2, hs]
    have e : k + 1 + (r.length : Int) = k + ((r.length + 1 : Nat) : Int) := by omega
    rw [e] at ih
    simpa [upInts, intU] using ih
theorem f44_is (h : G_f44 E) (l : List Int) (hl : l.length ≤ 1048576) (k : Int) (hk : 0 ≤ k) (hk2 : k ≤ 1048576) :
    E 200086 (.agg [.tup [.sl 1 (l.map intU)]] :: [.int .i64 k]) = some (.tup [.int .i64 (k + l.length), .sl 1 ((upInts k l.length).map intU)]) := by
  rw [f44_E h]
  exact f44_l0_is h l [] k 0 rfl (by simpa using hl) hk (by omega)
theorem f41_l0_is (h : G_f41 E) (l : List Int) (hl : l.length ≤ 1048576) : ∀ (n : Nat) (p : List Int) (k i : Int), l = p ++ upInts k n → i = p.length → 0 ≤ k → k + n ≤ 1099511627776 →
    f41_l0 E (.sl 1 (l.map intU)) (.int .i64 k) (.int .i64 i) = some (.int .i64 (k + n))
  | 0, p, k, i, e, hi, hk, hk2 => by
    rw [f41_l0_eq]
    simp [mid_end e hi]
  | n + 1, p, k, i, e, hi, hk, hk2 => by
    obtain ⟨h0, hlt, hx, hw, hn, _⟩ := mid_at e hi (by omega)
    have hw1 : IntKind.i64.wrap (k + 1) = k + 1 := wrap_in (by omega)
    have ih := f41_l0_is h l hl n (p ++ [k]) (k + 1) (i + 1) (mid_next e) hn (by omega) (by omega)
    have e2 : k + 1 + (n : Int) = k + ((n + 1 : Nat) : Int) := by omega
    rw [e2] at ih
    rw [f41_l0_eq]
    simp only [lenOf_sl, List.length_map, Option.bind_some, bin_lss, hlt, decide_true, asBool_bool, if_true, asInt_int, hx, asVar_intU, bin_neq, ne_eq, not_true_eq_false, decide_false, Bool.false_eq_true, if_false, bin_add, hw, hw1]
    exact ih
theorem f41_is (h : G_f41 E) (n : Nat) (hn : n ≤ 1048576) (k : Int) (hk : 0 ≤ k) (hk2 : k ≤ 1048576) : E 90 [.sl 1 ((upInts k n).map intU), .int .i64 k] = some (.int .i64 (k + n)) := by
  rw [f41_E h]
  exact f41_l0_is h _ (by rw [upInts_length]; exact hn) n [] k 0 rfl rfl hk (by omega)
theorem f36_l0_is (h : G_f36 E) (a b : List Int) (ha : a.length ≤ 1048576) (hb : b.length ≤ 1048576) : ∀ (r s p p2 : List Int) (i : Int), a = p ++ r → b = p2 ++ s → i = p.length → i = p2.length → r.length = s.length →
    f36_l0 E (.sl 1 (a.map intU)) (.sl 1 (b.map intU)) (.int .i64 i) = some (.bool (decide (r = s)))
  | [], [], p, p2, i, e, e2, hi, hi2, _ => by
    rw [f36_l0_eq]
    simp [mid_end e hi]
  | [], y :: s, _, _, _, _, _, _, _, hl => by cases hl
  | x :: r, [], _, _, _, _, _, _, _, hl => by cases hl
  | x :: r, y :: s, p, p2, i, e, e2, hi, hi2, hl => by
    obtain ⟨h0, hlt, hx, hw, hn, _⟩ := mid_at e hi (by omega)
    obtain ⟨_, _, hy, _, hn2, _⟩ := mid_at e2 hi2 (by omega)
    have ih := f36_l0_is h a b ha hb r s (p ++ [x]) (p2 ++ [y]) (i + 1) (mid_next e) (mid_next e2) hn hn2 (by simpa using hl)
    rw [f36_l0_eq]
    by_cases hxy : x = y
    · subst hxy
      simp [intU, hlt, hx, hy, hw, ih]
    · simp [intU, hlt, hx, hy, hw, ih, hxy]
theorem f36_is (h : G_f36 E) (a b : List Int) (ha : a.length ≤ 1048576) (hb : b.length ≤ 1048576) : E 59 [.sl 1 (a.map intU), .sl 1 (b.map intU)] = some (.bool (decide (a = b))) := by
  rw [f36_E h]
  by_cases hl : a.length = b.length
  · simp [hl, f36_l0_is h a b ha hb a b [] [] 0 rfl rfl rfl rfl hl]
  · have h1 : a ≠ b := fun e => hl (by rw [e])
    have h2 : (a.length : Int) ≠ b.length := by omega
    simp [h1, h2]
end Go.Proofs.Ytlmnkhlkccipfaa.Am
