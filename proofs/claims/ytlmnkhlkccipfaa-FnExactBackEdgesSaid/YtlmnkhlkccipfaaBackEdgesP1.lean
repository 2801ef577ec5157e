import Derived.Test.YtlmnkhlkccipfaaBackEdgesP0
import Derived.Test.YtlmnkhlkccipfaaBackEdgesF0
import Derived.Test.YtlmnkhlkccipfaaBackEdgesF1
namespace Go.Proofs.Ytlmnkhlkccipfaa.Am
open Go Go.Sort
variable {E : Env}
set_option linter.unusedVariables false
def readEdges (l : List Entry) (x : Entry) : List ReadMark → List Edge
  | [] => []
  | m :: r => ⟨writerOf l m, x.id, 1, m.key⟩ :: ⟨x.id, nextWriter l m.key m.created, 3, m.key⟩ :: readEdges l x r
def writeEdges (l : List Entry) (x : Entry) : List Write → List Edge
  | [] => []
  | w :: r => ⟨x.id, nextWriter l w.key x.stamp, 2, w.key⟩ :: writeEdges l x r
def entryEdges (l : List Entry) (x : Entry) : List Edge := readEdges l x x.reads ++ writeEdges l x x.writes
def rawEdges (l : List Entry) : List Entry → List Edge
  | [] => []
  | x :: r => entryEdges l x ++ rawEdges l r
def graphOf (l : List Entry) : List Edge := (rawEdges l l).foldl putE []
def buildGraph (l : List Entry) : List Edge := if isHistory l = true then graphOf l else []
theorem readEdges_length (l : List Entry) (x : Entry) : ∀ r : List ReadMark, (readEdges l x r).length = 2 * r.length
  | [] => rfl
  | m :: r => by simp only [readEdges, List.length_cons, readEdges_length l x r]; omega
theorem writeEdges_length (l : List Entry) (x : Entry) : ∀ r : List Write, (writeEdges l x r).length = r.length
  | [] => rfl
  | m :: r => by simp only [writeEdges, List.length_cons, writeEdges_length l x r]
def addRaw (es : List Edge) (e : Edge) : List Edge := es ++ [e].filter keepE
theorem addRaw_length (es : List Edge) (e : Edge) : (addRaw es e).length ≤ es.length + 1 := by
  unfold addRaw
  rw [List.length_append]
  have := List.length_filter_le keepE [e]
  simp only [List.length_cons, List.length_nil] at this
  omega
theorem f21_is (h : G_f21 E) (es : List Edge) (hl : es.length ≤ 100000000) (a b c d : Int) :
    E 500363 (.agg [.tup [.sl 4 (es.map Edge.u)]] :: [.int .i64 a, .int .i64 b, .int .i64 c, .int .i64 d]) = some (.tup [.tup [], .sl 4 ((addRaw es ⟨a, b, c, d⟩).map Edge.u)]) := by
  rw [f21_E h]
  have e1 : U.flat.flats [(.agg [.int .i64 a, .int .i64 b, .int .i64 c, .int .i64 d] : U)] = true := rfl
  have e2 : ((es.map Edge.u).length + ([(.agg [.int .i64 a, .int .i64 b, .int .i64 c, .int .i64 d])] : List U).length) * 32 ≤ 140737488355328 := by
    rw [List.length_map, List.length_cons, List.length_nil]; omega
  have e3 : (partable (.val (.agg [.int .i64 a, .int .i64 b, .int .i64 c, .int .i64 d])) = true ∧ ((.agg [.int .i64 a, .int .i64 b, .int .i64 c, .int .i64 d]) : U).size = 4) := ⟨rfl, rfl⟩
  have e4 : ∀ n : Int, (partable (.val (.int .i64 n)) = true ∧ (.int .i64 n : U).size = 1) := fun n => ⟨rfl, rfl⟩
  by_cases h1 : a = 0
  · simp [h1, addRaw, keepE]
  · by_cases h2 : b = 0
    · simp [h1, h2, addRaw, keepE]
    · by_cases h3 : a = b
      · simp [h1, h2, h3, addRaw, keepE]
      · have e5 : (es.length + 1) * 32 ≤ 140737488355328 := by omega
        simp [addRaw, keepE, h1, h2, h3, Edge.u, e1, e3, e4, e5]
theorem slices_Compact_l1_is : ∀ (rest out mid : List Edge) (y : Edge) (k0 k1 n : Nat) (i j : Int), i = out.length → j = k1 → 1 ≤ k1 → out.length + mid.length + 1 = k0 + k1 → (out ++ mid ++ y :: rest).length = n → n ≤ 100000000 →
    f57_l1 E (.int .i64 i) k0 (n - k0) (.int .i64 j) ((out ++ mid ++ y :: rest).map Edge.u) = some (.sl 4 ((out ++ dedupFrom y rest).map Edge.u))
  | [], out, mid, y, k0, k1, n, i, j, hi, hj, hk, hlen, hn, hb => by
    subst hi; subst hj
    have hn2 : n = out.length + mid.length + 1 := by rw [← hn]; simp [Nat.add_assoc]
    rw [f57_l1_eq]
    have c1 : ¬ ((k1 : Int) < ((n - k0 : Nat) : Int)) := by omega
    have hL : ((out ++ mid ++ [y]).map Edge.u).length = n := by rw [List.length_map]; exact hn
    simp only [bin_lss, decide_eq_false c1, Option.bind_some, asBool_bool, Bool.false_eq_true, if_false, asInt_int, hL]
    rw [if_pos ⟨by trivial, by trivial, by omega, by omega, by omega⟩, if_pos ⟨by trivial, by rfl, by omega, by rfl, flats_edges _, by omega⟩, if_pos]
    · simp only [dedupFrom, List.append_nil, Option.some.injEq, U.sl.injEq, true_and]
      rw [List.map_append, List.map_append, List.append_assoc]
      have e1 : (out.length : Int).toNat = (out.map Edge.u).length := by simp
      have e2 : List.take (out.map Edge.u).length (out.map Edge.u ++ (mid.map Edge.u ++ [y].map Edge.u)) = out.map Edge.u := List.take_left' rfl
      rw [e1]
      simp only [List.append_assoc]
      rw [e2]
      exact List.take_left' rfl
    · refine ⟨by omega, ?_⟩
      simp only [List.length_append, List.length_take, List.length_map, List.length_replicate]
      omega
  | z :: rest, out, mid, y, k0, k1, n, i, j, hi, hj, hk, hlen, hn, hb => by
    subst hi; subst hj
    have hn2 : n = out.length + mid.length + 2 + rest.length := by rw [← hn]; simp; omega
    rw [f57_l1_eq]
    have c1 : ((k1 : Int) < ((n - k0 : Nat) : Int)) := by omega
    have hL : ((out ++ mid ++ y :: z :: rest).map Edge.u).length = n := by rw [List.length_map]; exact hn
    have hat : ((out ++ mid ++ y :: z :: rest).map Edge.u)[k0 + (k1 : Int).toNat]? = some z.u := by
      rw [List.getElem?_map, List.getElem?_append_right (by simp; omega)]
      have : k0 + (k1 : Int).toNat - (out ++ mid).length = 1 := by simp; omega
      rw [this]
      rfl
    have hat2 : ((out ++ mid ++ y :: z :: rest).map Edge.u)[k0 + ((k1 : Int) - 1).toNat]? = some y.u := by
      rw [List.getElem?_map, List.getElem?_append_right (by simp; omega)]
      have : k0 + ((k1 : Int) - 1).toNat - (out ++ mid).length = 0 := by simp; omega
      rw [this]
      rfl
    have w1 : IntKind.i64.wrap ((k1 : Int) - 1) = (k1 : Int) - 1 := wrap_in (by omega)
    have w2 : IntKind.i64.wrap ((k1 : Int) + 1) = (k1 : Int) + 1 := wrap_in (by omega)
    have w3 : IntKind.i64.wrap ((out.length : Int) + 1) = (out.length : Int) + 1 := wrap_in (by omega)
    simp only [bin_lss, decide_eq_true c1, Option.bind_some, asBool_bool, if_true, asInt_int, hL]
    rw [if_pos ⟨by trivial, by omega, by omega, by omega⟩, hat]
    simp only [Option.bind_some, Edge.u_var, Edge.u_flat, if_true, bin_sub, w1, asInt_int]
    rw [if_pos ⟨by trivial, by omega, by omega, by omega⟩, hat2]
    simp only [Option.bind_some, Edge.u_var, Edge.u_flat, if_true, Edge.u_eqv, asBool_bool]
    by_cases hzy : z = y
    · subst hzy
      have ih := slices_Compact_l1_is rest out (mid ++ [z]) z k0 (k1 + 1) n out.length ((k1 : Int) + 1) rfl (by omega) (by omega) (by simp; omega) (by rw [← hn]; simp) hb
      simp only [decide_true, Bool.not_true, Bool.false_eq_true, if_false, bin_add, w2, Option.bind_some]
      rw [show out ++ mid ++ z :: z :: rest = out ++ (mid ++ [z]) ++ z :: rest by simp, ih]
      simp [dedupFrom]
    · simp only [decide_eq_false hzy, Bool.not_false, if_true]
      rw [if_pos ⟨by trivial, by omega, by omega⟩]
      simp only [Edge.u_storable, Edge.u_size, and_self, if_true]
      obtain ⟨q, mid', hq⟩ : ∃ (q : Edge) (mid' : List Edge), mid ++ [y] = q :: mid' := by
        cases mid with
        | nil => exact ⟨y, [], rfl⟩
        | cons a m => exact ⟨a, m ++ [y], rfl⟩
      have hsp : out ++ mid ++ y :: z :: rest = out ++ q :: (mid' ++ z :: rest) := by
        have : out ++ mid ++ y :: z :: rest = out ++ (mid ++ [y]) ++ z :: rest := by simp
        rw [this, hq]
        simp
      have hml : mid'.length = mid.length := by
        have := congrArg List.length hq
        simp at this
        omega
      have hget : ((out ++ mid ++ y :: z :: rest).map Edge.u)[(out.length : Int).toNat]? = some q.u := by
        rw [hsp, List.map_append, Int.toNat_natCast, List.getElem?_append_right (by simp)]
        simp
      rw [hget]
      simp only [Option.bind_some, Edge.u_size, Edge.u_flat, if_true, bin_add, w3, w2]
      have hset : ((out ++ mid ++ y :: z :: rest).map Edge.u).set (out.length : Int).toNat z.u = ((out ++ [z]) ++ mid' ++ z :: rest).map Edge.u := by
        rw [hsp, List.map_append, Int.toNat_natCast, List.set_append_right _ _ (by simp)]
        simp
      rw [hset]
      have ih := slices_Compact_l1_is rest (out ++ [z]) mid' z k0 (k1 + 1) n ((out.length : Int) + 1) ((k1 : Int) + 1) (by simp) (by omega) (by omega) (by simp; omega) (by rw [← hn]; simp; omega) hb
      rw [ih]
      simp [dedupFrom, hzy]
      omega
theorem slices_Compact_l0_is : ∀ (r p : List Edge) (y : Edge) (i : Int), i = p.length + 1 → p.length + r.length ≤ 99999990 →
    f57_l0 E (.int .i64 i) ((p ++ y :: r).map Edge.u) = some (.sl 4 ((p ++ y :: dedupFrom y r).map Edge.u))
  | [], p, y, i, hi, hb => by
    subst hi
    rw [f57_l0_eq]
    have c1 : ¬ ((p.length : Int) + 1 < (((p ++ [y]).map Edge.u).length : Int)) := by simp
    simp only [bin_lss, decide_eq_false c1, Option.bind_some, asBool_bool, Bool.false_eq_true, if_false, dedupFrom]
  | z :: r, p, y, i, hi, hb => by
    subst hi
    rw [f57_l0_eq]
    have hL : ((p ++ y :: z :: r).map Edge.u).length = p.length + 2 + r.length := by simp; omega
    simp only [List.length_cons] at hb
    have c1 : ((p.length : Int) + 1 < ((p.length + 2 + r.length : Nat) : Int)) := by omega
    have hat : ((p ++ y :: z :: r).map Edge.u)[((p.length : Int) + 1).toNat]? = some z.u := by
      rw [List.getElem?_map, List.getElem?_append_right (by omega)]
      have : ((p.length : Int) + 1).toNat - p.length = 1 := by omega
      rw [this]
      rfl
    have hat2 : ((p ++ y :: z :: r).map Edge.u)[(p.length : Int).toNat]? = some y.u := by
      rw [List.getElem?_map, List.getElem?_append_right (by omega)]
      have : (p.length : Int).toNat - p.length = 0 := by omega
      rw [this]
      rfl
    have w1 : IntKind.i64.wrap ((p.length : Int) + 1 - 1) = (p.length : Int) := by rw [wrap_in (by omega)]; omega
    have w2 : IntKind.i64.wrap ((p.length : Int) + 1 + 1) = (p.length : Int) + 1 + 1 := wrap_in (by omega)
    simp only [bin_lss, hL, decide_eq_true c1, Option.bind_some, asBool_bool, if_true, asInt_int]
    rw [if_pos ⟨by trivial, by omega, by omega⟩, hat]
    simp only [Option.bind_some, Edge.u_var, Edge.u_flat, if_true, bin_sub, w1, asInt_int]
    rw [if_pos ⟨by trivial, by omega, by omega⟩, hat2]
    simp only [Option.bind_some, Edge.u_var, Edge.u_flat, if_true, Edge.u_eqv, asBool_bool]
    by_cases hzy : z = y
    · subst hzy
      simp only [decide_true, if_true]
      rw [if_pos ⟨by trivial, by trivial, by omega, by omega, by omega⟩]
      have := slices_Compact_l1_is (E := E) r (p ++ [z]) [] z (p.length + 1) 1 (p.length + 2 + r.length) ((p.length : Int) + 1) 1 (by simp) rfl (by omega) (by simp) (by simp; omega) (by omega)
      rw [show (p.length : Int) + 1 = ((p.length + 1 : Nat) : Int) by omega] at this ⊢
      simp only [Int.toNat_natCast]
      rw [show p ++ [z] ++ [] ++ z :: r = p ++ z :: z :: r by simp] at this
      rw [this]
      simp [dedupFrom]
    · have ih := slices_Compact_l0_is r (p ++ [y]) z ((p.length : Int) + 1 + 1) (by simp) (by simp; omega)
      simp only [decide_eq_false hzy, Bool.false_eq_true, if_false, bin_add, w2, Option.bind_some]
      rw [show p ++ y :: z :: r = p ++ [y] ++ z :: r by simp, ih]
      simp [dedupFrom, hzy]
theorem slices_Compact_g361_is (h : G_f57 E) (l : List Edge) (hl : l.length ≤ 99999990) : E 300361 (.agg [.tup [.sl 4 (l.map Edge.u)]] :: []) = some (.sl 4 ((compactE l).map Edge.u)) := by
  rw [f57_E h]
  match l, hl with
  | [], _ => simp [compactE]
  | [x], _ => simp [compactE, dedupFrom]
  | x :: y :: r, hl =>
    have c : ¬ (((((x :: y :: r).map Edge.u).length : Nat) : Int) < 2) := by simp; omega
    have := slices_Compact_l0_is (E := E) (y :: r) [] x 1 rfl (by simp at hl ⊢; omega)
    simp only [bin_lss, decide_eq_false c, Option.bind_some, asBool_bool, Bool.false_eq_true, if_false]
    rw [List.nil_append] at this
    rw [this]
    rfl
@[simp] theorem asPtr_tup {γ : Type} (a b : U) (K : U → U → Option γ) : U.asPtr (.tup [a, b]) K = K a b := rfl
theorem slices_SortFunc_g362_is (h : IsSort E 362 12) (hc : G_f18 E) (l : List Edge) (hl : l.length ≤ 1099511627776) : E 200362 (.agg [.tup [.sl 4 (l.map Edge.u)]] :: [.fn 12 []]) = some (.tup [.tup [], .sl 4 ((sortBy edgeCmp l).map Edge.u)]) := by
  obtain ⟨cf, h1, h2⟩ := h.ex
  have e : cf = edgeCmp := funext fun a => funext fun b => by
    have := (h1 a b).symm.trans (f18_is hc a b)
    simpa using this
  subst e
  exact h2 l hl
theorem f22_l1_is (h : G_f22 E) (l : List Entry) (hl : l.length ≤ 1048576) (ho : ∀ x ∈ l, x.ok) (x : Entry) (hx : x ∈ l) (n i : Int) : ∀ (r p : List Write) (j : Int) (es : List Edge), x.writes = p ++ r → j = p.length → es.length + r.length ≤ 100000000 →
    f22_l1 E (.sl 4 (l.map Entry.u)) (.sl 4 (l.map Entry.u)) (.int .i64 n) (.int .i64 i) (.sl 2 (x.writes.map Write.u)) (.int .i64 x.writes.length) (.int .i64 j) (es.map Edge.u) x.u =
      (U.bin .add (.int .i64 i) (.int .i64 1)).bind fun t => f22_l0 E (.sl 4 (l.map Entry.u)) (.sl 4 (l.map Entry.u)) (.int .i64 n) t ((es ++ (writeEdges l x r).filter keepE).map Edge.u)
  | [], p, j, es, e, hj, hb => by
    rw [f22_l1_eq]
    simp [mid_end e hj, writeEdges]
  | w :: r, p, j, es, e, hj, hb => by
    simp only [List.length_cons] at hb
    have hox := ho x hx
    obtain ⟨j0, hlt, hy, hwj, hn, _⟩ := mid_at e hj (by have := hox.2; omega)
    have hnw := f14_is h.c_f14 l hl ho w.key x.stamp
    have hput := f21_is h.c_f21 es (by omega) x.id (nextWriter l w.key x.stamp) 2 w.key
    have hle := addRaw_length es ⟨x.id, nextWriter l w.key x.stamp, 2, w.key⟩
    have ih := f22_l1_is h l hl ho x hx n i r (p ++ [w]) (j + 1) (addRaw es ⟨x.id, nextWriter l w.key x.stamp, 2, w.key⟩) (mid_next e) hn (by omega)
    have hcat : addRaw es ⟨x.id, nextWriter l w.key x.stamp, 2, w.key⟩ ++ (writeEdges l x r).filter keepE = es ++ (writeEdges l x (w :: r)).filter keepE := by
      simp only [addRaw, writeEdges, List.append_assoc]
      rw [show (⟨x.id, nextWriter l w.key x.stamp, 2, w.key⟩ :: writeEdges l x r : List Edge) = [⟨x.id, nextWriter l w.key x.stamp, 2, w.key⟩] ++ writeEdges l x r from rfl, List.filter_append]
    rw [hcat] at ih
    rw [f22_l1_eq]
    simp [hlt, hy, hwj, hnw, hput, ih]
theorem f22_l2_is (h : G_f22 E) (l : List Entry) (hl : l.length ≤ 1048576) (ho : ∀ x ∈ l, x.ok) (x : Entry) (hx : x ∈ l) (n i : Int) : ∀ (r p : List ReadMark) (j : Int) (es : List Edge), x.reads = p ++ r → j = p.length → es.length + 2 * r.length ≤ 90000000 →
    f22_l2 E (.sl 4 (l.map Entry.u)) (.sl 4 (l.map Entry.u)) (.int .i64 n) (.int .i64 i) (.sl 2 (x.reads.map ReadMark.u)) (.int .i64 x.reads.length) (.int .i64 j) (es.map Edge.u) x.u =
      (U.bin .add (.int .i64 i) (.int .i64 1)).bind fun t => f22_l0 E (.sl 4 (l.map Entry.u)) (.sl 4 (l.map Entry.u)) (.int .i64 n) t ((es ++ (readEdges l x r ++ writeEdges l x x.writes).filter keepE).map Edge.u)
  | [], p, j, es, e, hj, hb => by
    have h1 := f22_l1_is h l hl ho x hx n i x.writes [] 0 es rfl rfl (by have := (ho x hx).2; omega)
    rw [f22_l2_eq]
    simp [mid_end e hj, readEdges] at h1 ⊢
    rw [h1]
  | m :: r, p, j, es, e, hj, hb => by
    simp only [List.length_cons] at hb
    have hox := ho x hx
    obtain ⟨j0, hlt, hy, hwj, hn, _⟩ := mid_at e hj (by have := hox.1; omega)
    have hnw := f14_is h.c_f14 l hl ho m.key m.created
    have hwr := f15_is h.c_f15 l hl ho m
    have hput := f21_is h.c_f21 es (by omega) (writerOf l m) x.id 1 m.key
    have hle := addRaw_length es ⟨writerOf l m, x.id, 1, m.key⟩
    have hput2 := f21_is h.c_f21 (addRaw es ⟨writerOf l m, x.id, 1, m.key⟩) (by omega) x.id (nextWriter l m.key m.created) 3 m.key
    have hle2 := addRaw_length (addRaw es ⟨writerOf l m, x.id, 1, m.key⟩) ⟨x.id, nextWriter l m.key m.created, 3, m.key⟩
    have ih := f22_l2_is h l hl ho x hx n i r (p ++ [m]) (j + 1) (addRaw (addRaw es ⟨writerOf l m, x.id, 1, m.key⟩) ⟨x.id, nextWriter l m.key m.created, 3, m.key⟩) (mid_next e) hn (by omega)
    have hcat : addRaw (addRaw es ⟨writerOf l m, x.id, 1, m.key⟩) ⟨x.id, nextWriter l m.key m.created, 3, m.key⟩ ++ (readEdges l x r ++ writeEdges l x x.writes).filter keepE = es ++ (readEdges l x (m :: r) ++ writeEdges l x x.writes).filter keepE := by
      simp only [addRaw, readEdges, List.cons_append, List.append_assoc]
      rw [show (⟨writerOf l m, x.id, 1, m.key⟩ :: ⟨x.id, nextWriter l m.key m.created, 3, m.key⟩ :: (readEdges l x r ++ writeEdges l x x.writes) : List Edge) = [⟨writerOf l m, x.id, 1, m.key⟩] ++ ([⟨x.id, nextWriter l m.key m.created, 3, m.key⟩] ++ (readEdges l x r ++ writeEdges l x x.writes)) from rfl]
      simp only [List.filter_append]
    rw [hcat] at ih
    rw [f22_l2_eq]
    simp [hlt, hy, hwj, hnw, hwr, hput, hput2, ih]
theorem f22_l0_is (h : G_f22 E) (l : List Entry) (hl : l.length ≤ 1048576) (ho : ∀ x ∈ l, x.ok) : ∀ (r p : List Entry) (i : Int) (es : List Edge), l = p ++ r → i = p.length → (∀ x ∈ l, x.reads.length ≤ 60) → es.length + 2000000 * r.length ≤ 80000000 →
    f22_l0 E (.sl 4 (l.map Entry.u)) (.sl 4 (l.map Entry.u)) (.int .i64 l.length) (.int .i64 i) (es.map Edge.u) = some (.sl 4 ((compactE (sortBy edgeCmp (es ++ (rawEdges l r).filter keepE))).map Edge.u))
  | [], p, i, es, e, hi, hr, hb => by
    have hs := slices_SortFunc_g362_is h.c_slices_SortFunc_g362 h.c_f18 es (by simp at hb; omega)
    have hc := slices_Compact_g361_is h.c_f57 (sortBy edgeCmp es) (by rw [sortBy_length]; simp at hb; omega)
    rw [f22_l0_eq]
    simp [mid_end e hi, rawEdges, hs, hc]
  | x :: r, p, i, es, e, hi, hr, hb => by
    simp only [List.length_cons] at hb
    have hx : x ∈ l := by rw [e]; simp
    have hox := ho x hx
    obtain ⟨h0, hlt, hxx, hw, hn, _⟩ := mid_at e hi (by omega)
    have h2 := f22_l2_is h l hl ho x hx l.length i x.reads [] 0 es rfl rfl (by have := hr x hx; omega)
    have hlen : ((entryEdges l x).filter keepE).length ≤ 2000000 := by
      refine Nat.le_trans (List.length_filter_le _ _) ?_
      rw [entryEdges, List.length_append, readEdges_length, writeEdges_length]
      have := hr x hx
      have := hox.2
      omega
    have ih := f22_l0_is h l hl ho r (p ++ [x]) (i + 1) (es ++ (entryEdges l x).filter keepE) (mid_next e) hn hr (by rw [List.length_append]; omega)
    rw [f22_l0_eq]
    simp only [List.nil_append, entryEdges] at h2 ih
    simp [hlt, hxx] at h2 ih ⊢
    rw [h2]
    simp [hw, ih, rawEdges, entryEdges]
theorem f22_is (h : G_f22 E) (l : List Entry) (hl : l.length ≤ 9) (ho : ∀ x ∈ l, x.ok) (hr : ∀ x ∈ l, x.reads.length ≤ 60) : E 100357 [.sl 4 (l.map Entry.u)] = some (.sl 4 ((graphOf l).map Edge.u)) := by
  rw [f22_E h]
  have := f22_l0_is h l (by omega) ho l [] 0 [] rfl rfl hr (by simp; omega)
  simp at this ⊢
  rw [this, compact_sort]
  rfl
theorem mid_cut2 {β : Type} {l p r : List β} {k : Nat} {i : Int} (f : β → U) (e : l = p ++ r) (hi : i = p.length) : U.cut false k (.sl k (l.map f)) (some i) none = some (.sl k (r.map f)) := by
  subst e; subst hi
  simp only [U.cut, Option.getD_none, Option.getD_some, List.length_map, List.length_append]
  rw [if_pos (by refine ⟨trivial, by omega, by omega, by omega⟩)]
  have e3 : (((p.length + r.length : Nat) : Int)).toNat = (List.map f (p ++ r)).length := by rw [Int.toNat_natCast, List.length_map, List.length_append]
  rw [e3, List.take_length]
  simp
theorem insS_length (e : Edge) : ∀ l : List Edge, (insS l e).length ≤ l.length + 1
  | [] => by simp [insS]
  | x :: r => by
    have := insS_length e r
    simp only [insS]
    split
    · simp; omega
    · split <;> simp
theorem putE_length (l : List Edge) (e : Edge) : (putE l e).length ≤ l.length + 1 := by
  unfold putE
  split
  · exact insS_length e l
  · omega
theorem puts_length : ∀ (es l : List Edge), (es.foldl putE l).length ≤ l.length + es.length
  | [], l => by simp
  | e :: es, l => by
    have h1 := puts_length es (putE l e)
    have h2 := putE_length l e
    simp only [List.foldl_cons, List.length_cons]
    omega
theorem f72_end (l : List Edge) (hl : l.length ≤ 100000000) (e : Edge) (i : Int) (hi : i = l.length) :
    f72_l0 E (.sl 4 (l.map Edge.u)) (.vp e.u) (.int .i64 i) = some (.sl 4 ((l ++ [e]).map Edge.u)) := by
  have hc1 := mid_cut (k := 4) Edge.u (l := l) (p := l) (r := []) (by simp) hi
  have hc2 := mid_cut2 (k := 4) Edge.u (l := l) (p := l) (r := []) (by simp) hi
  have hb : (l.length + 1) * 32 ≤ 140737488355328 := by omega
  have hb0 : l.length * 32 ≤ 140737488355328 := by omega
  have hlt : ¬ (i < (l.length : Int)) := by omega
  rw [f72_l0_eq]
  simp [hlt, hc1, hc2, U.asVp, U.elems, hb, hb0]
theorem f72_on (h : G_f72 E) (l : List Edge) (e x : Edge) (i : Int) (hlt : i < (l.length : Int)) (hx : ∀ {γ : Type} (K : U → Option γ), U.elemAt 4 (.sl 4 (l.map Edge.u)) i K = K x.u) (hw : IntKind.i64.wrap (i + 1) = i + 1) (hlx : edgeLt x e = true) :
    f72_l0 E (.sl 4 (l.map Edge.u)) (.vp e.u) (.int .i64 i) = f72_l0 E (.sl 4 (l.map Edge.u)) (.vp e.u) (.int .i64 (i + 1)) := by
  have hls := f71_is h.c_f71 x e
  rw [f72_l0_eq]
  simp [hlt, hx, hw, hls, hlx, U.asVp]
theorem f72_here (h : G_f72 E) (l : List Edge) (e : Edge) (i : Int) (hlt : i < (l.length : Int)) (hx : ∀ {γ : Type} (K : U → Option γ), U.elemAt 4 (.sl 4 (l.map Edge.u)) i K = K e.u) :
    f72_l0 E (.sl 4 (l.map Edge.u)) (.vp e.u) (.int .i64 i) = some (.sl 4 (l.map Edge.u)) := by
  have hls := f71_is h.c_f71 e e
  rw [f72_l0_eq]
  simp [hlt, hx, hls, edgeLt_irrefl, U.asVp]
theorem f72_ahead (h : G_f72 E) (l p r : List Edge) (hl : l.length ≤ 100000000) (e x : Edge) (i : Int) (el : l = p ++ x :: r) (hi : i = p.length) (hlt : i < (l.length : Int)) (hx : ∀ {γ : Type} (K : U → Option γ), U.elemAt 4 (.sl 4 (l.map Edge.u)) i K = K x.u) (hlx : edgeLt x e = false) (he : x ≠ e) :
    f72_l0 E (.sl 4 (l.map Edge.u)) (.vp e.u) (.int .i64 i) = some (.sl 4 ((p ++ e :: x :: r).map Edge.u)) := by
  have hll : l.length = p.length + r.length + 1 := by rw [el]; simp; omega
  have hls := f71_is h.c_f71 x e
  have hc1 := mid_cut (k := 4) Edge.u el hi
  have hc2 := mid_cut2 (k := 4) Edge.u el hi
  have hb0 : p.length * 32 ≤ 140737488355328 := by omega
  have hb1 : (p.length + 1) * 32 ≤ 140737488355328 := by omega
  have hb2 : (p.length + 1 + (r.length + 1)) * 32 ≤ 140737488355328 := by omega
  rw [f72_l0_eq]
  simp [hlt, hx, hls, hlx, he, U.asVp, hc1, hc2, U.elems, hb0, hb1, hb2]
theorem f72_l0_is (h : G_f72 E) (l : List Edge) (hl : l.length ≤ 100000000) (e : Edge) : ∀ (r p : List Edge) (i : Int), l = p ++ r → i = p.length →
    f72_l0 E (.sl 4 (l.map Edge.u)) (.vp e.u) (.int .i64 i) = some (.sl 4 ((p ++ insS r e).map Edge.u))
  | [], p, i, el, hi => by
    have : l = p := by rw [el]; simp
    subst this
    exact f72_end l hl e i hi
  | x :: r, p, i, el, hi => by
    have hll : l.length = p.length + r.length + 1 := by rw [el]; simp; omega
    obtain ⟨h0, hlt, hx, hw, hn, _⟩ := mid_at el hi (by omega)
    have ih := f72_l0_is h l hl e r (p ++ [x]) (i + 1) (mid_next el) hn
    cases hlx : edgeLt x e with
    | true =>
      rw [f72_on h l e x i hlt (fun K => hx 4 Edge.u K) hw hlx, ih]
      simp [insS, hlx]
    | false =>
      by_cases he : x = e
      · subst he
        rw [f72_here h l x i hlt (fun K => hx 4 Edge.u K)]
        simp only [insS, hlx, Bool.false_eq_true, if_false, if_true]
        rw [← el]
      · rw [f72_ahead h l p r hl e x i el hi hlt (fun K => hx 4 Edge.u K) hlx he]
        simp [insS, hlx, he]
theorem f72_is (h : G_f72 E) (l : List Edge) (hl : l.length ≤ 100000000) (e : Edge) : E 356 [.sl 4 (l.map Edge.u), e.u] = some (.sl 4 ((putE l e).map Edge.u)) := by
  rw [f72_E h]
  have h1 := f72_l0_is h l hl e l [] 0 rfl rfl
  by_cases c1 : e.frm = 0
  · simp [c1, putE, keepE]
  · by_cases c2 : e.to = 0
    · simp [c1, c2, putE, keepE]
    · by_cases c3 : e.frm = e.to
      · simp [c1, c2, c3, putE, keepE]
      · simp [c1, c2, c3, putE, keepE, h1]
theorem f64_l1_is (h : G_f64 E) (l : List Entry) (hl : l.length ≤ 1048576) (ho : ∀ x ∈ l, x.ok) (x : Entry) (hx : x ∈ l) (i : Int) (h0 : 0 ≤ i) (hi : l[i.toNat]? = some x) (hw : IntKind.i64.wrap (i + 1) = i + 1) : ∀ (r p : List Write) (j : Int) (es : List Edge), x.writes = p ++ r → j = p.length → es.length + r.length ≤ 100000000 →
    f64_l1 E (.sl 4 (l.map Entry.u)) (.sl 4 (es.map Edge.u)) (.int .i64 i) (.int .i64 j) = f64_l0 E (.sl 4 (l.map Entry.u)) (.sl 4 (((writeEdges l x r).foldl putE es).map Edge.u)) (.int .i64 (i + 1))
  | [], p, j, es, e, hj, hb => by
    have hxx : ∀ {γ : Type} (K : U → Option γ), U.elemAt 4 (.sl 4 (l.map Entry.u)) i K = K x.u := fun K => elemAt_get Entry.u h0 hi K
    rw [f64_l1_eq]
    simp [hxx, mid_end e hj, hw, writeEdges]
  | w :: r, p, j, es, e, hj, hb => by
    simp only [List.length_cons] at hb
    have hxx : ∀ {γ : Type} (K : U → Option γ), U.elemAt 4 (.sl 4 (l.map Entry.u)) i K = K x.u := fun K => elemAt_get Entry.u h0 hi K
    have hox := ho x hx
    obtain ⟨j0, hlt, hy, hwj, hn, _⟩ := mid_at e hj (by have := hox.2; omega)
    have hnw := f68_is h.c_f68 l hl ho w.key x.stamp
    have hput := f72_is h.c_f72 es (by omega) ⟨x.id, nextWriter l w.key x.stamp, 2, w.key⟩
    have hle := putE_length es ⟨x.id, nextWriter l w.key x.stamp, 2, w.key⟩
    have ih := f64_l1_is h l hl ho x hx i h0 hi hw r (p ++ [w]) (j + 1) (putE es ⟨x.id, nextWriter l w.key x.stamp, 2, w.key⟩) (mid_next e) hn (by omega)
    simp only [Edge.u] at hput
    rw [f64_l1_eq]
    simp [hlt, hxx, hy, hwj, hnw, hput, ih, writeEdges]
theorem f64_l2_is (h : G_f64 E) (l : List Entry) (hl : l.length ≤ 1048576) (ho : ∀ x ∈ l, x.ok) (x : Entry) (hx : x ∈ l) (i : Int) (h0 : 0 ≤ i) (hi : l[i.toNat]? = some x) (hw : IntKind.i64.wrap (i + 1) = i + 1) : ∀ (r p : List ReadMark) (j : Int) (es : List Edge), x.reads = p ++ r → j = p.length → es.length + 2 * r.length ≤ 90000000 →
    f64_l2 E (.sl 4 (l.map Entry.u)) (.sl 4 (es.map Edge.u)) (.int .i64 i) (.int .i64 j) = f64_l0 E (.sl 4 (l.map Entry.u)) (.sl 4 (((readEdges l x r ++ writeEdges l x x.writes).foldl putE es).map Edge.u)) (.int .i64 (i + 1))
  | [], p, j, es, e, hj, hb => by
    have hxx : ∀ {γ : Type} (K : U → Option γ), U.elemAt 4 (.sl 4 (l.map Entry.u)) i K = K x.u := fun K => elemAt_get Entry.u h0 hi K
    have h1 := f64_l1_is h l hl ho x hx i h0 hi hw x.writes [] 0 es rfl rfl (by have := (ho x hx).2; omega)
    rw [f64_l2_eq]
    simp [hxx, mid_end e hj, readEdges, h1]
  | m :: r, p, j, es, e, hj, hb => by
    simp only [List.length_cons] at hb
    have hxx : ∀ {γ : Type} (K : U → Option γ), U.elemAt 4 (.sl 4 (l.map Entry.u)) i K = K x.u := fun K => elemAt_get Entry.u h0 hi K
    have hox := ho x hx
    obtain ⟨j0, hlt, hy, hwj, hn, _⟩ := mid_at e hj (by have := hox.1; omega)
    have hnw := f68_is h.c_f68 l hl ho m.key m.created
    have hwr := f69_is h.c_f69 l hl ho m
    have hput := f72_is h.c_f72 es (by omega) ⟨writerOf l m, x.id, 1, m.key⟩
    have hle := putE_length es ⟨writerOf l m, x.id, 1, m.key⟩
    have hput2 := f72_is h.c_f72 (putE es ⟨writerOf l m, x.id, 1, m.key⟩) (by omega) ⟨x.id, nextWriter l m.key m.created, 3, m.key⟩
    have hle2 := putE_length (putE es ⟨writerOf l m, x.id, 1, m.key⟩) ⟨x.id, nextWriter l m.key m.created, 3, m.key⟩
    have ih := f64_l2_is h l hl ho x hx i h0 hi hw r (p ++ [m]) (j + 1) (putE (putE es ⟨writerOf l m, x.id, 1, m.key⟩) ⟨x.id, nextWriter l m.key m.created, 3, m.key⟩) (mid_next e) hn (by omega)
    simp only [Edge.u] at hput hput2
    rw [f64_l2_eq]
    simp [hlt, hxx, hy, hwj, hnw, hwr, hput, hput2, ih, readEdges]
theorem f64_l0_is (h : G_f64 E) (l : List Entry) (hl : l.length ≤ 1048576) (ho : ∀ x ∈ l, x.ok) (hr : ∀ x ∈ l, x.reads.length ≤ 60) (hh : isHistory l = true) : ∀ (r p : List Entry) (i : Int) (es : List Edge), l = p ++ r → i = p.length → es.length + 2000000 * r.length ≤ 80000000 →
    f64_l0 E (.sl 4 (l.map Entry.u)) (.sl 4 (es.map Edge.u)) (.int .i64 i) = some (.sl 4 (((rawEdges l r).foldl putE es).map Edge.u))
  | [], p, i, es, e, hi, hb => by
    rw [f64_l0_eq]
    simp [mid_end e hi, rawEdges]
  | x :: r, p, i, es, e, hi, hb => by
    simp only [List.length_cons] at hb
    have hx : x ∈ l := by rw [e]; simp
    have hox := ho x hx
    obtain ⟨h0, hlt, hxx, hw, hn, hxi⟩ := mid_at e hi (by omega)
    have h2 := f64_l2_is h l hl ho x hx i h0 hxi hw x.reads [] 0 es rfl rfl (by have := hr x hx; omega)
    rw [← show entryEdges l x = readEdges l x x.reads ++ writeEdges l x x.writes from rfl] at h2
    have hlen : (entryEdges l x).length ≤ 2000000 := by
      rw [entryEdges, List.length_append, readEdges_length, writeEdges_length]
      have := hr x hx
      have := hox.2
      omega
    have hpl := puts_length (entryEdges l x) es
    have ih := f64_l0_is h l hl ho hr hh r (p ++ [x]) (i + 1) ((entryEdges l x).foldl putE es) (mid_next e) hn (by omega)
    rw [f64_l0_eq]
    simp only [lenOf_sl, List.length_map, Option.bind_some, bin_lss, hlt, decide_true, asBool_bool, if_true, f66_is h.c_f66 l hl ho, hh, h2]
    rw [show rawEdges l (x :: r) = entryEdges l x ++ rawEdges l r from rfl, List.foldl_append, ← ih]
theorem histA_ok : ∀ {r p : List Entry}, histA p r = true → ∀ x ∈ r, x.good = true
  | [], _, _, x, hx => by cases hx
  | y :: r, p, h, x, hx => by
    simp only [histA, Bool.and_eq_true] at h
    rcases List.mem_cons.1 hx with rfl | hx
    · exact h.1.1.1
    · exact histA_ok h.2 x hx
theorem history_ok {l : List Entry} (h : isHistory l = true) : (∀ x ∈ l, x.good = true) ∧ l.length ≤ 9 := by
  simp only [isHistory, Bool.and_eq_true, decide_eq_true_eq] at h
  exact ⟨histA_ok h.1.1, h.2⟩
theorem history_reads {l : List Entry} (h : isHistory l = true) : ∀ x ∈ l, x.reads.length ≤ 60 := fun x hx => by
  have := (history_ok h).1 x hx
  simp only [Entry.good, areReads, Bool.and_eq_true, decide_eq_true_eq] at this
  exact this.2.2.1.2
theorem f64_is (h : G_f64 E) (l : List Entry) (hl : l.length ≤ 1048576) (ho : ∀ x ∈ l, x.ok) : E 353 [.sl 4 (l.map Entry.u)] = some (.sl 4 ((buildGraph l).map Edge.u)) := by
  rw [f64_E h]
  cases g : isHistory l with
  | true =>
    have hk := history_ok g
    have := f64_l0_is h l hl ho (history_reads g) g l [] 0 [] rfl rfl (by simp; omega)
    rw [List.map_nil] at this
    rw [this]
    simp [buildGraph, g, graphOf]
  | false =>
    rw [f64_l0_eq]
    cases l with
    | nil => simp [buildGraph, g]
    | cons x r =>
      have c : (0 : Int) < (((x :: r).length : Nat) : Int) := by simp
      simp only [lenOf_sl, List.length_map, Option.bind_some, bin_lss, c, decide_true, asBool_bool, if_true, f66_is h.c_f66 (x :: r) hl ho, g]
      simp [buildGraph, g]
theorem f7_is (h : G_f7 E) (l : List Entry) (hl : l.length ≤ 1048576) (ho : ∀ x ∈ l, x.ok) : E 100408 [.sl 4 (l.map Entry.u)] = some (.sl 4 ((buildGraph l).map Edge.u)) := by
  rw [f7_E h]
  cases g : isHistory l with
  | true => simp [f12_is h.c_f12 l hl ho, g, f22_is h.c_f22 l (history_ok g).2 ho (history_reads g), buildGraph, U.asSlK]
  | false => simp [f12_is h.c_f12 l hl ho, g, buildGraph]
theorem writesFrom_length : ∀ (l : List Write) (q : Write), q.key ≤ 5 → writesFrom (some q) l = true → (l.length : Int) + q.key ≤ 5
  | [], q, hq, _ => by simpa using hq
  | w :: r, q, hq, h => by
    simp only [writesFrom, writes1, inR, Bool.and_eq_true, decide_eq_true_eq] at h
    have := writesFrom_length r w h.1.1.1.2 h.2
    have := h.1.2
    simp only [List.length_cons]
    omega
theorem history_writes {l : List Entry} (h : isHistory l = true) : ∀ x ∈ l, x.writes.length ≤ 6 := fun x hx => by
  have := (history_ok h).1 x hx
  simp only [Entry.good, areWrites, Bool.and_eq_true] at this
  have h2 := this.2.2.2
  cases hw : x.writes with
  | nil => simp
  | cons w r =>
    rw [hw] at h2
    simp only [writesFrom, writes1, inR, Bool.and_eq_true, decide_eq_true_eq] at h2
    have h3 := writesFrom_length r w h2.1.1.1.2 h2.2
    have := h2.1.1.1.1
    simp only [List.length_cons]
    omega
theorem rawEdges_length (l : List Entry) : ∀ r : List Entry, (∀ x ∈ r, x.reads.length ≤ 60 ∧ x.writes.length ≤ 6) → (rawEdges l r).length ≤ 126 * r.length
  | [], _ => by simp [rawEdges]
  | x :: r, h => by
    have ih := rawEdges_length l r fun y hy => h y (by simp [hy])
    have := h x (by simp)
    simp only [rawEdges, entryEdges, List.length_append, readEdges_length, writeEdges_length, List.length_cons]
    omega
theorem buildGraph_length (l : List Entry) : (buildGraph l).length ≤ 1134 := by
  unfold buildGraph
  split
  · rename_i h
    have h1 := rawEdges_length l l fun x hx => ⟨history_reads h x hx, history_writes h x hx⟩
    have h2 := puts_length (rawEdges l l) []
    have h3 := (history_ok h).2
    rw [graphOf]
    simp only [List.length_nil] at h2
    omega
  · simp
open Go
def inIds (l : List Entry) (c : Int) : Prop := ∃ y ∈ l, y.id = c
theorem writerOf_in (l : List Entry) (m : ReadMark) : writerOf l m = 0 ∨ inIds l (writerOf l m) := by
  unfold writerOf
  cases h : l.find? (wrote m) with
  | none => exact .inl rfl
  | some x => exact .inr ⟨x, List.mem_of_find?_eq_some h, rfl⟩
theorem nwFold_in (l : List Entry) (key stamp : Int) : ∀ (r : List Entry) (cur : Option Entry), (∀ x ∈ r, x ∈ l) → (∀ c, cur = some c → c ∈ l) → ∀ c, r.foldl (nwStep key stamp) cur = some c → c ∈ l
  | [], cur, _, hc, c, h => hc c h
  | x :: r, cur, hr, hc, c, h => by
    refine nwFold_in l key stamp r (nwStep key stamp cur x) (fun y hy => hr y (by simp [hy])) (fun d hd => ?_) c h
    unfold nwStep at hd
    split at hd
    · cases hd
      exact hr x (by simp)
    · exact hc d hd
theorem nextWriter_in (l : List Entry) (key stamp : Int) : nextWriter l key stamp = 0 ∨ inIds l (nextWriter l key stamp) := by
  unfold nextWriter
  cases h : l.foldl (nwStep key stamp) none with
  | none => exact .inl rfl
  | some x => exact .inr ⟨x, nwFold_in l key stamp l none (fun _ h => h) (fun _ h => by cases h) x h, rfl⟩
def okEdge (l : List Entry) (e : Edge) : Prop := (e.frm = 0 ∨ inIds l e.frm) ∧ (e.to = 0 ∨ inIds l e.to)
theorem readEdges_ok (l : List Entry) (x : Entry) (hx : x ∈ l) : ∀ (r : List ReadMark), ∀ e ∈ readEdges l x r, okEdge l e
  | [], e, he => by cases he
  | m :: r, e, he => by
    simp only [readEdges, List.mem_cons] at he
    rcases he with rfl | rfl | he
    · exact ⟨writerOf_in l m, .inr ⟨x, hx, rfl⟩⟩
    · exact ⟨.inr ⟨x, hx, rfl⟩, nextWriter_in l _ _⟩
    · exact readEdges_ok l x hx r e he
theorem writeEdges_ok (l : List Entry) (x : Entry) (hx : x ∈ l) : ∀ (r : List Write), ∀ e ∈ writeEdges l x r, okEdge l e
  | [], e, he => by cases he
  | m :: r, e, he => by
    simp only [writeEdges, List.mem_cons] at he
    rcases he with rfl | he
    · exact ⟨.inr ⟨x, hx, rfl⟩, nextWriter_in l _ _⟩
    · exact writeEdges_ok l x hx r e he
theorem rawEdges_ok (l : List Entry) : ∀ (r : List Entry), (∀ x ∈ r, x ∈ l) → ∀ e ∈ rawEdges l r, okEdge l e
  | [], _, e, he => by cases he
  | x :: r, hr, e, he => by
    simp only [rawEdges, entryEdges, List.mem_append] at he
    rcases he with (he | he) | he
    · exact readEdges_ok l x (hr x (by simp)) _ e he
    · exact writeEdges_ok l x (hr x (by simp)) _ e he
    · exact rawEdges_ok l r (fun y hy => hr y (by simp [hy])) e he
theorem buildGraph_in (l : List Entry) : ∀ e ∈ buildGraph l, inIds l e.frm ∧ inIds l e.to := fun e he => by
  unfold buildGraph at he
  split at he
  · rw [graphOf, puts_mem] at he
    rcases he with he | ⟨he, hk⟩
    · cases he
    · obtain ⟨h1, h2⟩ := rawEdges_ok l l (fun _ h => h) e he
      simp only [keepE, Bool.and_eq_true, Bool.not_eq_true', decide_eq_false_iff_not] at hk
      exact ⟨h1.resolve_left hk.1, h2.resolve_left hk.2.1⟩
  · cases he
theorem idxF_at {α : Type} (P : α → Bool) : ∀ (l : List α) (i : Int), (∃ y ∈ l, P y = true) → ∃ x, l.find? P = some x ∧ i ≤ idxF P l i ∧ l[(idxF P l i - i).toNat]? = some x
  | [], i, h => by obtain ⟨y, hy, _⟩ := h; cases hy
  | z :: l, i, h => by
    cases hz : P z with
    | true => exact ⟨z, by simp [hz], by simp [idxF, hz], by simp [idxF, hz]⟩
    | false =>
      have h2 : ∃ y ∈ l, P y = true := by
        obtain ⟨y, hy, hp⟩ := h
        rcases List.mem_cons.1 hy with rfl | hy
        · rw [hz] at hp; cases hp
        · exact ⟨y, hy, hp⟩
      obtain ⟨x, h3, h4, h5⟩ := idxF_at P l (i + 1) h2
      refine ⟨x, by simp [hz, h3], by simp only [idxF, hz]; simp; omega, ?_⟩
      have e : (idxF P (z :: l) i - i).toNat = (idxF P l (i + 1) - (i + 1)).toNat + 1 := by simp only [idxF, hz]; simp; omega
      rw [e, List.getElem?_cons_succ]
      exact h5
def entryOf (l : List Entry) (c : Int) : Option Entry := l.find? (hasId c)
def stampOf (l : List Entry) (c : Int) : Int := match entryOf l c with
  | some x => x.stamp
  | none => 0
theorem findE_at (l : List Entry) (c : Int) (h : inIds l c) : ∃ x, entryOf l c = some x ∧ x ∈ l ∧ x.id = c ∧ ∀ {γ : Type} (K : U → Option γ), U.elemAt 4 (.sl 4 (l.map Entry.u)) (findE l c) K = K x.u := by
  obtain ⟨y, hy, hc⟩ := h
  obtain ⟨x, h1, h2, h3⟩ := idxF_at (hasId c) l 0 ⟨y, hy, by simp [hasId, hc]⟩
  have hm := List.find?_some h1
  refine ⟨x, h1, List.mem_of_find?_eq_some h1, by simpa [hasId] using hm, fun K => ?_⟩
  refine elemAt_get Entry.u h2 ?_ K
  rw [Int.sub_zero] at h3
  exact h3
theorem f62_l0_is (l : List Edge) (hl : l.length ≤ 9223372036854775807) (q : Nat) (caps : List U) (P : Edge → Bool) (hp : ∀ x ∈ l, E q (Edge.u x :: caps) = some (.bool (P x))) (hq : q < 100000) : ∀ (r p : List Edge) (i : Int), l = p ++ r → i = p.length →
    f62_l0 E (.sl 4 (l.map Edge.u)) (.fn q caps) (.int .i64 l.length) (.int .i64 i) = some (.int .i64 (idxF P r i))
  | [], p, i, e, hi => by
    rw [f62_l0_eq]
    simp [mid_end e hi, idxF]
  | x :: r, p, i, e, hi => by
    obtain ⟨h0, hlt, hx, hw, hn, _⟩ := mid_at e hi hl
    have hpx := hp x (by rw [e]; simp)
    have ih := f62_l0_is l hl q caps P hp hq r (p ++ [x]) (i + 1) (mid_next e) hn
    rw [f62_l0_eq]
    cases h1 : P x <;> simp [hlt, hx, hw, ih, hpx, hq, h1, idxF]
theorem f62_is (h : G_f62 E) (l : List Edge) (hl : l.length ≤ 9223372036854775807) (q : Nat) (caps : List U) (P : Edge → Bool) (hp : ∀ x ∈ l, E q (Edge.u x :: caps) = some (.bool (P x))) (hq : q < 100000 := by decide) :
    E 66 [.sl 4 (l.map Edge.u), .fn q caps] = some (.int .i64 (idxF P l 0)) := by
  rw [f62_E h]
  simp [f62_l0_is l hl q caps P hp hq l [] 0 rfl rfl]
theorem slices_DeleteFunc_l0_is (q : Nat) (caps : List U) (P : Edge → Bool) (hq : q < 100000) : ∀ (rest out mid : List Edge) (i j : Int) (n : Nat), i = out.length → j = out.length + mid.length → mid ≠ [] → (out ++ mid ++ rest).length = n → n ≤ 100000000 → (∀ x ∈ rest, E q (Edge.u x :: caps) = some (.bool (P x))) →
    f59_l0 E (.fn q caps) (.int .i64 i) (.int .i64 j) ((out ++ mid ++ rest).map Edge.u) = some (.sl 4 ((out ++ rest.filter fun x => !P x).map Edge.u))
  | [], out, mid, i, j, n, hi, hj, hm, hn, hb, hp => by
    subst hi; subst hj
    have hn2 : n = out.length + mid.length := by rw [← hn]; simp
    rw [f59_l0_eq]
    have hL : ((out ++ mid ++ []).map Edge.u).length = n := by rw [List.length_map]; exact hn
    have c1 : ¬ ((out.length : Int) + (mid.length : Int) < (n : Int)) := by omega
    simp only [bin_lss, hL, decide_eq_false c1, Option.bind_some, asBool_bool, Bool.false_eq_true, if_false, asInt_int]
    rw [if_pos ⟨by trivial, by trivial, by omega, by omega, by omega⟩, if_pos ⟨by trivial, by rfl, by omega, by rfl, flats_edges _, by omega⟩, if_pos]
    · simp only [List.filter_nil, List.append_nil, Option.some.injEq, U.sl.injEq, true_and]
      rw [List.map_append]
      have e1 : (out.length : Int).toNat = (out.map Edge.u).length := by simp
      have e2 : List.take (out.map Edge.u).length (out.map Edge.u ++ mid.map Edge.u) = out.map Edge.u := List.take_left' rfl
      rw [e1]
      simp only [List.append_assoc]
      rw [e2]
      exact List.take_left' rfl
    · refine ⟨by omega, ?_⟩
      simp only [List.length_append, List.length_take, List.length_map, List.length_replicate]
      omega
  | z :: rest, out, mid, i, j, n, hi, hj, hm, hn, hb, hp => by
    subst hi; subst hj
    have hn2 : n = out.length + mid.length + 1 + rest.length := by rw [← hn]; simp; omega
    rw [f59_l0_eq]
    have hL : ((out ++ mid ++ z :: rest).map Edge.u).length = n := by rw [List.length_map]; exact hn
    have c1 : ((out.length : Int) + (mid.length : Int) < (n : Int)) := by omega
    have hat : ((out ++ mid ++ z :: rest).map Edge.u)[((out.length : Int) + (mid.length : Int)).toNat]? = some z.u := by
      rw [List.getElem?_map, List.getElem?_append_right (by rw [List.length_append]; omega)]
      have : ((out.length : Int) + (mid.length : Int)).toNat - (out ++ mid).length = 0 := by rw [List.length_append]; omega
      rw [this]
      rfl
    have w2 : IntKind.i64.wrap ((out.length : Int) + (mid.length : Int) + 1) = (out.length : Int) + (mid.length : Int) + 1 := wrap_in (by omega)
    have w3 : IntKind.i64.wrap ((out.length : Int) + 1) = (out.length : Int) + 1 := wrap_in (by omega)
    have hpz := hp z (by simp)
    simp only [bin_lss, hL, decide_eq_true c1, Option.bind_some, asBool_bool, if_true, asInt_int]
    rw [if_pos ⟨by trivial, by omega, by omega⟩, hat]
    have hfn : ∀ {γ : Type} (K : Nat → List U → Option γ), U.asFn (.fn q caps) K = K q caps := fun K => by simp [U.asFn, hq]
    simp only [Option.bind_some, Edge.u_var, Edge.u_flat, if_true, Edge.u_storable, Edge.u_size, and_self, hfn, List.cons_append, List.nil_append, hpz]
    cases hz : P z with
    | true =>
      have ih := slices_DeleteFunc_l0_is q caps P hq rest out (mid ++ [z]) out.length ((out.length : Int) + (mid.length : Int) + 1) n rfl (by simp; omega) (by simp) (by rw [← hn]; simp) hb (fun x hx => hp x (by simp [hx]))
      simp only [un_not, Option.bind_some, Bool.not_true, asBool_bool, Bool.false_eq_true, if_false, bin_add, w2]
      rw [show out ++ mid ++ z :: rest = out ++ (mid ++ [z]) ++ rest by simp, ih]
      simp [hz]
    | false =>
      simp only [un_not, Option.bind_some, Bool.not_false, asBool_bool, if_true]
      rw [if_pos ⟨by trivial, by omega, by omega⟩]
      obtain ⟨y, mid', rfl⟩ : ∃ (y : Edge) (mid' : List Edge), mid = y :: mid' := by
        cases mid with
        | nil => exact absurd rfl hm
        | cons a m => exact ⟨a, m, rfl⟩
      have hget : ((out ++ y :: mid' ++ z :: rest).map Edge.u)[(out.length : Int).toNat]? = some y.u := by
        rw [List.append_assoc, List.map_append, Int.toNat_natCast, List.getElem?_append_right (by simp)]
        simp
      have hset : ((out ++ y :: mid' ++ z :: rest).map Edge.u).set (out.length : Int).toNat z.u = ((out ++ [z]) ++ (mid' ++ [z]) ++ rest).map Edge.u := by
        rw [List.append_assoc, List.map_append, Int.toNat_natCast, List.set_append_right _ _ (by simp)]
        simp
      rw [hget]
      simp only [Option.bind_some, Edge.u_size, if_true, bin_add, w3, w2]
      rw [hset]
      have ih := slices_DeleteFunc_l0_is q caps P hq rest (out ++ [z]) (mid' ++ [z]) ((out.length : Int) + 1) ((out.length : Int) + ((y :: mid').length : Int) + 1) n (by simp) (by simp only [List.length_append, List.length_cons, List.length_nil]; omega) (by simp) (by rw [← hn]; simp) hb (fun x hx => hp x (by simp [hx]))
      rw [ih]
      simp [hz]
theorem idxF_split {α : Type} (P : α → Bool) : ∀ (l : List α) (i : Int), 0 ≤ i → (idxF P l i = -1 ∧ ∀ x ∈ l, P x = false) ∨ ∃ p y r, l = p ++ y :: r ∧ idxF P l i = i + p.length ∧ P y = true ∧ ∀ x ∈ p, P x = false
  | [], i, _ => .inl ⟨rfl, fun x hx => by cases hx⟩
  | z :: l, i, hi => by
    cases hz : P z with
    | true => exact .inr ⟨[], z, l, rfl, by simp [idxF, hz], hz, fun x hx => by cases hx⟩
    | false =>
      rcases idxF_split P l (i + 1) (by omega) with ⟨h1, h2⟩ | ⟨p, y, r, h1, h2, h3, h4⟩
      · refine .inl ⟨by simp [idxF, hz, h1], fun x hx => ?_⟩
        rcases List.mem_cons.1 hx with rfl | hx
        · exact hz
        · exact h2 x hx
      · refine .inr ⟨z :: p, y, r, by rw [h1]; rfl, by simp only [idxF, hz, h2]; simp; omega, h3, fun x hx => ?_⟩
        rcases List.mem_cons.1 hx with rfl | hx
        · exact hz
        · exact h4 x hx
theorem slices_DeleteFunc_g424_is (h : G_f59 E) (l : List Edge) (hl : l.length ≤ 99999990) (q : Nat) (caps : List U) (P : Edge → Bool) (hq : q < 100000) (hp : ∀ x ∈ l, E q (Edge.u x :: caps) = some (.bool (P x))) :
    E 300424 (.agg [.tup [.sl 4 (l.map Edge.u)]] :: [.fn q caps]) = some (.sl 4 ((l.filter fun x => !P x).map Edge.u)) := by
  rw [f59_E h, f62_is h.c_f62 l (by omega) q caps P hp hq]
  rcases idxF_split P l 0 (by omega) with ⟨h1, h2⟩ | ⟨p, y, r, h1, h2, h3, h4⟩
  · have : l.filter (fun x => !P x) = l := List.filter_eq_self.2 fun x hx => by simp [h2 x hx]
    simp [h1, this]
  · have hll : l.length = p.length + r.length + 1 := by rw [h1]; simp; omega
    have hne : ¬ ((0 : Int) + p.length = -1) := by omega
    have hw : IntKind.i64.wrap ((0 : Int) + p.length + 1) = (p.length : Int) + 1 := by rw [wrap_in (by omega)]; omega
    have ih := slices_DeleteFunc_l0_is (E := E) q caps P hq r p [y] (0 + p.length) ((p.length : Int) + 1) l.length (by omega) (by simp) (by simp) (by rw [h1]; simp) (by omega) (fun x hx => hp x (by rw [h1]; simp [hx]))
    have hf : (p ++ r.filter fun x => !P x) = l.filter fun x => !P x := by
      have : p.filter (fun x => !P x) = p := List.filter_eq_self.2 fun x hx => by simp [h4 x hx]
      rw [h1, List.filter_append, this]
      simp [h3]
    rw [h2]
    simp only [Option.bind_some, (show ∀ (n : Int) (K : U → Option U), U.asFlat (.int .i64 n) K = K (.int .i64 n) from fun _ _ => rfl), bin_eql, hne, decide_false, asBool_bool, Bool.false_eq_true, if_false, bin_add, hw]
    rw [show p ++ [y] ++ r = l by rw [h1]; simp] at ih
    rw [ih, hf]
def isBack (l : List Entry) (e : Edge) : Bool := decide (stampOf l e.to < stampOf l e.frm)
def backEdges (l : List Entry) : List Edge := (buildGraph l).filter (isBack l)
theorem stampOf_some {l : List Entry} {c : Int} {x : Entry} (h : entryOf l c = some x) : stampOf l c = x.stamp := by
  simp only [stampOf, h]
theorem f4_is (h : G_f4 E) (l : List Entry) (hl : l.length ≤ 1048576) (e : Edge) (h1 : inIds l e.frm) (h2 : inIds l e.to) : E 423 [e.u, .vp (.sl 4 (l.map Entry.u))] = some (.bool (!isBack l e)) := by
  rw [f4_E h]
  obtain ⟨x, a1, _, _, a2⟩ := findE_at l e.frm h1
  obtain ⟨y, b1, _, _, b2⟩ := findE_at l e.to h2
  have hf := fun c => f10_is h.c_f10 l hl c
  simp [U.asVp, hf, a2, b2, isBack, stampOf_some a1, stampOf_some b1]
  by_cases hc : x.stamp ≤ y.stamp
  · simp [hc]
  · simp [hc]; omega
theorem f63_l0_is (h : G_f63 E) (l : List Entry) (hl : l.length ≤ 1048576) (g : List Edge) (hg : g.length ≤ 1048576) (hin : ∀ e ∈ g, inIds l e.frm ∧ inIds l e.to) : ∀ (r p : List Edge) (i : Int) (out : List Edge), g = p ++ r → i = p.length → out.length + r.length ≤ 1048576 →
    f63_l0 E (.sl 4 (l.map Entry.u)) (.sl 4 (g.map Edge.u)) (.int .i64 i) (out.map Edge.u) = some (.sl 4 ((out ++ r.filter (isBack l)).map Edge.u))
  | [], p, i, out, e, hi, hb => by
    rw [f63_l0_eq]
    simp [mid_end e hi]
  | x :: r, p, i, out, e, hi, hb => by
    simp only [List.length_cons] at hb
    obtain ⟨h0, hlt, hx, hw, hn, _⟩ := mid_at e hi (by omega)
    obtain ⟨g1, g2⟩ := hin x (by rw [e]; simp)
    obtain ⟨a, a1, _, _, a2⟩ := findE_at l x.frm g1
    obtain ⟨b, b1, _, _, b2⟩ := findE_at l x.to g2
    have hf := fun c => f65_is h.c_f65 l hl c
    have ih1 := f63_l0_is h l hl g hg hin r (p ++ [x]) (i + 1) (out ++ [x]) (mid_next e) hn (by simp; omega)
    have ih2 := f63_l0_is h l hl g hg hin r (p ++ [x]) (i + 1) out (mid_next e) hn (by omega)
    have hk : (out.length + 1) * 32 ≤ 140737488355328 := by omega
    have e1 := stampOf_some a1
    have e2 := stampOf_some b1
    rw [f63_l0_eq]
    by_cases hc : b.stamp < a.stamp
    · have hbk : isBack l x = true := by simp [isBack, e1, e2, hc]
      simp only [List.map_append, List.map_cons, List.map_nil] at ih1
      simp [hlt, hx, hw, hf, a2, b2, hc, hk, ih1, hbk]
    · have hbk : isBack l x = false := by simp [isBack, e1, e2, hc]
      simp [hlt, hx, hw, hf, a2, b2, hc, hk, ih2, hbk]
theorem f63_is (h : G_f63 E) (l : List Entry) (hl : l.length ≤ 1048576) (ho : ∀ x ∈ l, x.ok) : E 422 [.sl 4 (l.map Entry.u)] = some (.sl 4 ((backEdges l).map Edge.u)) := by
  rw [f63_E h]
  have hlen := buildGraph_length l
  have := f63_l0_is h l hl (buildGraph l) (by omega) (buildGraph_in l) (buildGraph l) [] 0 [] rfl rfl (by simp; omega)
  simp only [List.map_nil, List.nil_append] at this
  simp [f64_is h.c_f64 l hl ho, this, backEdges]
theorem backEdges_del (l : List Entry) : ((buildGraph l).filter fun x => !!isBack l x) = backEdges l := by simp [backEdges]
theorem backEdges_length (l : List Entry) : (backEdges l).length ≤ 1134 := Nat.le_trans (List.length_filter_le _ _) (buildGraph_length l)
theorem f5_is (h : G_f5 E) (l : List Entry) (hl : l.length ≤ 1048576) (ho : ∀ x ∈ l, x.ok) : E 100421 [.sl 4 (l.map Entry.u)] = some (.sl 4 ((backEdges l).map Edge.u)) := by
  rw [f5_E h]
  have hlen := buildGraph_length l
  have hd := slices_DeleteFunc_g424_is h.c_f59 (buildGraph l) (by omega) 423 [.vp (.sl 4 (l.map Entry.u))] (fun x => !isBack l x) (by omega) (fun e he => f4_is h.c_f4 l hl e (buildGraph_in l e he).1 (buildGraph_in l e he).2)
  rw [backEdges_del] at hd
  simp [f7_is h.c_f7 l hl ho, hd, U.asSlK]
theorem f3_is (h : G_f3 E) (l : List Entry) (hl : l.length ≤ 1048576) (ho : ∀ x ∈ l, x.ok) : E 421 [.sl 4 (l.map Entry.u)] = some (.sl 4 ((backEdges l).map Edge.u)) := by
  rw [f3_E h]
  have hlen := buildGraph_length l
  have hd := slices_DeleteFunc_g424_is h.c_f59 (buildGraph l) (by omega) 423 [.vp (.sl 4 (l.map Entry.u))] (fun x => !isBack l x) (by omega) (fun e he => f4_is h.c_f4 l hl e (buildGraph_in l e he).1 (buildGraph_in l e he).2)
  rw [backEdges_del] at hd
  simp [f7_is h.c_f7 l hl ho, hd, U.asSlK]
theorem f29_is (h : G_f29 E) (x y : Edge) : E 16 [x.u, y.u] = some (.bool (decide (x = y))) := by
  rw [f29_E h]
  obtain ⟨a0, a1, a2, a3⟩ := x
  obtain ⟨b0, b1, b2, b3⟩ := y
  simp only [Edge.mk.injEq]
  by_cases h0 : a0 = b0
  case neg => simp [h0]
  subst h0
  by_cases h1 : a1 = b1
  case neg => simp [h1]
  subst h1
  by_cases h2 : a2 = b2
  case neg => simp [h2]
  subst h2
  by_cases h3 : a3 = b3
  case neg => simp [h3]
  subst h3
  simp []
theorem f30_l0_is (h : G_f30 E) (a b : List Edge) (ha : a.length ≤ 1048576) (hb : b.length ≤ 1048576) : ∀ (r s p p2 : List Edge) (i : Int), a = p ++ r → b = p2 ++ s → i = p.length → i = p2.length → r.length = s.length →
    f30_l0 E (.sl 4 (a.map Edge.u)) (.sl 4 (b.map Edge.u)) (.int .i64 i) = some (.bool (decide (r = s)))
  | [], [], p, p2, i, e, e2, hi, hi2, _ => by
    rw [f30_l0_eq]
    simp [mid_end e hi]
  | [], y :: s, _, _, _, _, _, _, _, hl => by cases hl
  | x :: r, [], _, _, _, _, _, _, _, hl => by cases hl
  | x :: r, y :: s, p, p2, i, e, e2, hi, hi2, hl => by
    obtain ⟨h0, hlt, hx, hw, hn, _⟩ := mid_at e hi (by omega)
    obtain ⟨_, _, hy, _, hn2, _⟩ := mid_at e2 hi2 (by omega)
    have ih := f30_l0_is h a b ha hb r s (p ++ [x]) (p2 ++ [y]) (i + 1) (mid_next e) (mid_next e2) hn hn2 (by simpa using hl)
    rw [f30_l0_eq]
    by_cases hxy : x = y
    · subst hxy
      simp [hlt, hx, hy, hw, ih, f29_is h.c_f29]
    · simp [hlt, hx, hy, hw, ih, f29_is h.c_f29, hxy]
theorem f30_is (h : G_f30 E) (a b : List Edge) (ha : a.length ≤ 1048576) (hb : b.length ≤ 1048576) : E 2 [.sl 4 (a.map Edge.u), .sl 4 (b.map Edge.u)] = some (.bool (decide (a = b))) := by
  rw [f30_E h]
  by_cases hl : a.length = b.length
  · simp [hl, f30_l0_is h a b ha hb a b [] [] 0 rfl rfl rfl rfl hl]
  · have h1 : a ≠ b := fun e => hl (by rw [e])
    have h2 : (a.length : Int) ≠ b.length := by omega
    simp [h1, h2]
def upEdges : Int → Nat → List Edge
  | _, 0 => []
  | k, n + 1 => ⟨k, k + 1, k + 2, k + 3⟩ :: upEdges (k + 4) n
theorem upEdges_length : ∀ (n : Nat) (k : Int), (upEdges k n).length = n
  | 0, _ => rfl
  | n + 1, k => by simp [upEdges, upEdges_length n]
theorem f39_l0_is (h : G_f39 E) : ∀ (r p : List Edge) (k i : Int), i = p.length → p.length + r.length ≤ 1048576 → 0 ≤ k → k + 4 * r.length ≤ 1099511627776 →
    f39_l0 E (.int .i64 k) (.int .i64 i) (p.map Edge.u ++ r.map Edge.u) = some (.tup [.int .i64 (k + 4 * r.length), .sl 4 (p.map Edge.u ++ (upEdges k r.length).map Edge.u)])
  | [], p, k, i, hi, hb, hk, hk2 => by
    have h1 : ¬ i < ((p.map Edge.u ++ ([] : List Edge).map Edge.u).length : Int) := by simp [hi]
    rw [f39_l0_eq]
    simp only [bin_lss, h1, decide_false, Option.bind_some, asBool_bool, Bool.false_eq_true, if_false]
    rw [← List.map_append]
    simp [upEdges]
  | x :: r, p, k, i, hi, hb, hk, hk2 => by
    simp only [List.length_cons] at hb hk2
    have hm := fun z => mid_set Edge.u p z (r.map Edge.u) hi
    have hg := fun z => (hm z).1
    have hs := fun z => (hm z).2.1
    have hlen := fun z => (hm z).2.2
    have h0 : 0 ≤ i := by omega
    have hw : IntKind.i64.wrap (k + 1) = k + 1 := wrap_in (by omega)
    have hw1 : IntKind.i64.wrap (k + 1 + 1) = k + 2 := by rw [wrap_in (by omega)]; omega
    have hw2 : IntKind.i64.wrap (k + 2 + 1) = k + 3 := by rw [wrap_in (by omega)]; omega
    have hw3 : IntKind.i64.wrap (k + 3 + 1) = k + 4 := by rw [wrap_in (by omega)]; omega
    have hwi : IntKind.i64.wrap (i + 1) = i + 1 := wrap_in (by omega)
    have ih := f39_l0_is h r (p ++ [⟨k, k + 1, k + 2, k + 3⟩]) (k + 4) (i + 1) (by simp [hi]) (by simp; omega) (by omega) (by omega)
    simp only [List.map_append, List.map_cons, List.map_nil, List.append_assoc, List.cons_append, List.nil_append] at ih
    rw [f39_l0_eq]
    simp only [List.map_cons, bin_lss, hlen, decide_true, Option.bind_some, asBool_bool, if_true, asInt_int, h0, and_self, storable_int, partable_int, size_int, hg, hs, Edge.u_agg, asAgg_agg, List.take_zero, List.take_succ_cons, sizes_cons, sizes_nil, Nat.add_zero, Nat.zero_add, List.getElem?_cons_zero, List.getElem?_cons_succ, List.set_cons_zero, List.set_cons_succ, bin_add, hw, hw1, hw2, hw3, hwi, Nat.reduceAdd]
    have e : k + 4 + 4 * (r.length : Int) = k + 4 * ((r.length + 1 : Nat) : Int) := by omega
    rw [e] at ih
    simpa [upEdges, Edge.u] using ih
theorem f39_is (h : G_f39 E) (l : List Edge) (hl : l.length ≤ 1048576) (k : Int) (hk : 0 ≤ k) (hk2 : k ≤ 1048576) :
    E 200085 (.agg [.tup [.sl 4 (l.map Edge.u)]] :: [.int .i64 k]) = some (.tup [.int .i64 (k + 4 * l.length), .sl 4 ((upEdges k l.length).map Edge.u)]) := by
  rw [f39_E h]
  exact f39_l0_is h l [] k 0 rfl (by simpa using hl) hk (by omega)
theorem f37_l0_is (h : G_f37 E) (l : List Edge) (hl : l.length ≤ 1048576) : ∀ (n : Nat) (p : List Edge) (k i : Int), l = p ++ upEdges k n → i = p.length → 0 ≤ k → k + 4 * n ≤ 1099511627776 →
    f37_l0 E (.sl 4 (l.map Edge.u)) (.int .i64 k) (.int .i64 i) = some (.int .i64 (k + 4 * n))
  | 0, p, k, i, e, hi, hk, hk2 => by
    rw [f37_l0_eq]
    simp [mid_end e hi]
  | n + 1, p, k, i, e0, hi, hk, hk2 => by
    have e : l = p ++ (⟨k, k + 1, k + 2, k + 3⟩ : Edge) :: upEdges (k + 4) n := e0
    obtain ⟨h0, hlt, hx, hw, hn, _⟩ := mid_at e hi (by omega)
    have hw0 : IntKind.i64.wrap (k + 1) = k + 1 := wrap_in (by omega)
    have hw1 : IntKind.i64.wrap (k + 1 + 1) = k + 2 := by rw [wrap_in (by omega)]; omega
    have hw2 : IntKind.i64.wrap (k + 2 + 1) = k + 3 := by rw [wrap_in (by omega)]; omega
    have hw3 : IntKind.i64.wrap (k + 3 + 1) = k + 4 := by rw [wrap_in (by omega)]; omega
    have ih := f37_l0_is h l hl n (p ++ [⟨k, k + 1, k + 2, k + 3⟩]) (k + 4) (i + 1) (mid_next e) hn (by omega) (by omega)
    have e2 : k + 4 + 4 * (n : Int) = k + 4 * ((n + 1 : Nat) : Int) := by omega
    rw [e2] at ih
    rw [f37_l0_eq]
    simp only [lenOf_sl, List.length_map, Option.bind_some, bin_lss, hlt, decide_true, asBool_bool, if_true, asInt_int, hx, Edge.u_at0, Edge.u_at1, Edge.u_at2, Edge.u_at3, asVar_int, bin_neq, ne_eq, not_true_eq_false, decide_false, Bool.false_eq_true, if_false, bin_add, hw, hw0, hw1, hw2, hw3]
    exact ih
theorem f37_is (h : G_f37 E) (n : Nat) (hn : n ≤ 1048576) (k : Int) (hk : 0 ≤ k) (hk2 : k ≤ 1048576) : E 83 [.sl 4 ((upEdges k n).map Edge.u), .int .i64 k] = some (.int .i64 (k + 4 * n)) := by
  rw [f37_E h]
  exact f37_l0_is h _ (by rw [upEdges_length]; exact hn) n [] k 0 rfl rfl hk (by omega)
theorem f51_is (h : G_f51 E) (x : ReadMark) : E 29 [x.u] = some x.u := by
  rw [f51_E h]
  simp [ReadMark.u]
theorem f52_l0_is (h : G_f52 E) (l : List ReadMark) (hl : l.length ≤ 1048576) : ∀ (r p : List ReadMark) (i : Int) (c : List U), l = p ++ r → i = p.length → c.length = r.length → (∀ z ∈ c, z.size = 2) →
    f52_l0 E (.sl 2 (l.map ReadMark.u)) (.int .i64 i) (p.map ReadMark.u ++ c) = some (.sl 2 (l.map ReadMark.u))
  | [], p, i, c, e, hi, hc, _ => by
    obtain rfl : c = [] := List.length_eq_zero_iff.1 hc
    rw [f52_l0_eq]
    simp [mid_end e hi]
    simp [e]
  | x :: r, p, i, [], e, hi, hc, _ => by cases hc
  | x :: r, p, i, z :: c, e, hi, hc, hz => by
    obtain ⟨h0, hlt, hx, hw, hn, _⟩ := mid_at e hi (by omega)
    have hzs : z.size = 2 := hz z (by simp)
    obtain ⟨hg, hs, hlen⟩ := mid_set ReadMark.u p z c hi
    have ih := f52_l0_is h l hl r (p ++ [x]) (i + 1) c (mid_next e) hn (by simpa using hc) (fun y hy => hz y (by simp [hy]))
    simp only [List.map_append, List.map_cons, List.map_nil, List.append_assoc, List.cons_append, List.nil_append] at ih
    rw [f52_l0_eq]
    simp only [hg, hs, hx, hw, asInt_int, bin_lss, lenOf_sl, List.length_map, Option.bind_some, asBool_bool, hlt, decide_true, if_true, h0, hlen, and_self, bin_add, f51_is h.c_f51 x, hzs, ReadMark.u_var, ReadMark.u_size, ReadMark.u_storable, ReadMark.u_partable]
    simpa using ih
theorem f52_is (h : G_f52 E) (l : List ReadMark) (hl : l.length ≤ 1048576) : E 28 [.sl 2 (l.map ReadMark.u)] = some (.sl 2 (l.map ReadMark.u)) := by
  have h1 := f52_l0_is h l hl l [] 0 (List.replicate l.length (.agg [.int .i64 0, .int .i64 0])) rfl rfl (by simp) (by simp)
  rw [f52_E h]
  simp only [lenOf_sl, Option.bind_some, List.length_map]
  rw [if_pos (by refine ⟨by omega, by omega, by omega, rfl⟩)]
  simpa using h1
theorem f33_is (h : G_f33 E) (x y : ReadMark) : E 35 [x.u, y.u] = some (.bool (decide (x = y))) := by
  rw [f33_E h]
  obtain ⟨a0, a1⟩ := x
  obtain ⟨b0, b1⟩ := y
  simp only [ReadMark.mk.injEq]
  by_cases h0 : a0 = b0
  case neg => simp [h0]
  subst h0
  by_cases h1 : a1 = b1
  case neg => simp [h1]
  subst h1
  simp []
theorem f34_l0_is (h : G_f34 E) (a b : List ReadMark) (ha : a.length ≤ 1048576) (hb : b.length ≤ 1048576) : ∀ (r s p p2 : List ReadMark) (i : Int), a = p ++ r → b = p2 ++ s → i = p.length → i = p2.length → r.length = s.length →
    f34_l0 E (.sl 2 (a.map ReadMark.u)) (.sl 2 (b.map ReadMark.u)) (.int .i64 i) = some (.bool (decide (r = s)))
  | [], [], p, p2, i, e, e2, hi, hi2, _ => by
    rw [f34_l0_eq]
    simp [mid_end e hi]
  | [], y :: s, _, _, _, _, _, _, _, hl => by cases hl
  | x :: r, [], _, _, _, _, _, _, _, hl => by cases hl
  | x :: r, y :: s, p, p2, i, e, e2, hi, hi2, hl => by
    obtain ⟨h0, hlt, hx, hw, hn, _⟩ := mid_at e hi (by omega)
    obtain ⟨_, _, hy, _, hn2, _⟩ := mid_at e2 hi2 (by omega)
    have ih := f34_l0_is h a b ha hb r s (p ++ [x]) (p2 ++ [y]) (i + 1) (mid_next e) (mid_next e2) hn hn2 (by simpa using hl)
    rw [f34_l0_eq]
    by_cases hxy : x = y
    · subst hxy
      simp [hlt, hx, hy, hw, ih, f33_is h.c_f33]
    · simp [hlt, hx, hy, hw, ih, f33_is h.c_f33, hxy]
theorem f34_is (h : G_f34 E) (a b : List ReadMark) (ha : a.length ≤ 1048576) (hb : b.length ≤ 1048576) : E 34 [.sl 2 (a.map ReadMark.u), .sl 2 (b.map ReadMark.u)] = some (.bool (decide (a = b))) := by
  rw [f34_E h]
  by_cases hl : a.length = b.length
  · simp [hl, f34_l0_is h a b ha hb a b [] [] 0 rfl rfl rfl rfl hl]
  · have h1 : a ≠ b := fun e => hl (by rw [e])
    have h2 : (a.length : Int) ≠ b.length := by omega
    simp [h1, h2]
theorem f45_is (h : G_f45 E) (l : List ReadMark) (hl : l.length ≤ maxLen) (left : Int) (h0 : 0 ≤ left) (h1 : left ≤ 1048576) : E 24 [.sl 2 (l.map ReadMark.u), .int .i64 left] = some (.int .i64 (szc l.length left)) := by
  rw [f45_E h]
  unfold maxLen at hl
  have hw : IntKind.i64.wrap (left - (l.length : Int)) = left - l.length := wrap_in (by omega)
  by_cases h2 : left - (l.length : Int) < 0 <;> simp [hw, szc, h2]
theorem f54_is (h : G_f54 E) (x : Write) : E 30 [x.u] = some x.u := by
  rw [f54_E h]
  simp [Write.u]
theorem f55_l0_is (h : G_f55 E) (l : List Write) (hl : l.length ≤ 1048576) : ∀ (r p : List Write) (i : Int) (c : List U), l = p ++ r → i = p.length → c.length = r.length → (∀ z ∈ c, z.size = 2) →
    f55_l0 E (.sl 2 (l.map Write.u)) (.int .i64 i) (p.map Write.u ++ c) = some (.sl 2 (l.map Write.u))
  | [], p, i, c, e, hi, hc, _ => by
    obtain rfl : c = [] := List.length_eq_zero_iff.1 hc
    rw [f55_l0_eq]
    simp [mid_end e hi]
    simp [e]
  | x :: r, p, i, [], e, hi, hc, _ => by cases hc
  | x :: r, p, i, z :: c, e, hi, hc, hz => by
    obtain ⟨h0, hlt, hx, hw, hn, _⟩ := mid_at e hi (by omega)
    have hzs : z.size = 2 := hz z (by simp)
    obtain ⟨hg, hs, hlen⟩ := mid_set Write.u p z c hi
    have ih := f55_l0_is h l hl r (p ++ [x]) (i + 1) c (mid_next e) hn (by simpa using hc) (fun y hy => hz y (by simp [hy]))
    simp only [List.map_append, List.map_cons, List.map_nil, List.append_assoc, List.cons_append, List.nil_append] at ih
    rw [f55_l0_eq]
    simp only [hg, hs, hx, hw, asInt_int, bin_lss, lenOf_sl, List.length_map, Option.bind_some, asBool_bool, hlt, decide_true, if_true, h0, hlen, and_self, bin_add, f54_is h.c_f54 x, hzs, Write.u_var, Write.u_size, Write.u_storable, Write.u_partable]
    simpa using ih
theorem f55_is (h : G_f55 E) (l : List Write) (hl : l.length ≤ 1048576) : E 27 [.sl 2 (l.map Write.u)] = some (.sl 2 (l.map Write.u)) := by
  have h1 := f55_l0_is h l hl l [] 0 (List.replicate l.length (.agg [.int .i64 0, .int .i64 0])) rfl rfl (by simp) (by simp)
  rw [f55_E h]
  simp only [lenOf_sl, Option.bind_some, List.length_map]
  rw [if_pos (by refine ⟨by omega, by omega, by omega, rfl⟩)]
  simpa using h1
theorem f35_is (h : G_f35 E) (x y : Write) : E 36 [x.u, y.u] = some (.bool (decide (x = y))) := by
  rw [f35_E h]
  obtain ⟨a0, a1⟩ := x
  obtain ⟨b0, b1⟩ := y
  simp only [Write.mk.injEq]
  by_cases h0 : a0 = b0
  case neg => simp [h0]
  subst h0
  by_cases h1 : a1 = b1
  case neg => simp [h1]
  subst h1
  simp []
theorem f36_l0_is (h : G_f36 E) (a b : List Write) (ha : a.length ≤ 1048576) (hb : b.length ≤ 1048576) : ∀ (r s p p2 : List Write) (i : Int), a = p ++ r → b = p2 ++ s → i = p.length → i = p2.length → r.length = s.length →
    f36_l0 E (.sl 2 (a.map Write.u)) (.sl 2 (b.map Write.u)) (.int .i64 i) = some (.bool (decide (r = s)))
  | [], [], p, p2, i, e, e2, hi, hi2, _ => by
    rw [f36_l0_eq]
    simp [mid_end e hi]
  | [], y :: s, _, _, _, _, _, _, _, hl => by cases hl
  | x :: r, [], _, _, _, _, _, _, _, hl => by cases hl
  | x :: r, y :: s, p, p2, i, e, e2, hi, hi2, hl => by
    obtain ⟨h0, hlt, hx, hw, hn, _⟩ := mid_at e hi (by omega)
    obtain ⟨_, _, hy, _, hn2, _⟩ := mid_at e2 hi2 (by omega)
    have ih := f36_l0_is h a b ha hb r s (p ++ [x]) (p2 ++ [y]) (i + 1) (mid_next e) (mid_next e2) hn hn2 (by simpa using hl)
    rw [f36_l0_eq]
    by_cases hxy : x = y
    · subst hxy
      simp [hlt, hx, hy, hw, ih, f35_is h.c_f35]
    · simp [hlt, hx, hy, hw, ih, f35_is h.c_f35, hxy]
theorem f36_is (h : G_f36 E) (a b : List Write) (ha : a.length ≤ 1048576) (hb : b.length ≤ 1048576) : E 33 [.sl 2 (a.map Write.u), .sl 2 (b.map Write.u)] = some (.bool (decide (a = b))) := by
  rw [f36_E h]
  by_cases hl : a.length = b.length
  · simp [hl, f36_l0_is h a b ha hb a b [] [] 0 rfl rfl rfl rfl hl]
  · have h1 : a ≠ b := fun e => hl (by rw [e])
    have h2 : (a.length : Int) ≠ b.length := by omega
    simp [h1, h2]
theorem f46_is (h : G_f46 E) (l : List Write) (hl : l.length ≤ maxLen) (left : Int) (h0 : 0 ≤ left) (h1 : left ≤ 1048576) : E 23 [.sl 2 (l.map Write.u), .int .i64 left] = some (.int .i64 (szc l.length left)) := by
  rw [f46_E h]
  unfold maxLen at hl
  have hw : IntKind.i64.wrap (left - (l.length : Int)) = left - l.length := wrap_in (by omega)
  by_cases h2 : left - (l.length : Int) < 0 <;> simp [hw, szc, h2]
theorem f31_is (h : G_f31 E) (x y : Entry) (hx : x.ok) (hy : y.ok) : E 56 [x.u, y.u] = some (.bool (decide (x = y))) := by
  rw [f31_E h]
  obtain ⟨a0, a1, a2, a3⟩ := x
  obtain ⟨b0, b1, b2, b3⟩ := y
  simp only [Entry.mk.injEq]
  by_cases h0 : a0 = b0
  case neg => simp [f34_is h.c_f34 a2 b2 hx.1 hy.1, f36_is h.c_f36 a3 b3 hx.2 hy.2, h0]
  subst h0
  by_cases h1 : a1 = b1
  case neg => simp [f34_is h.c_f34 a2 b2 hx.1 hy.1, f36_is h.c_f36 a3 b3 hx.2 hy.2, h1]
  subst h1
  by_cases h2 : a2 = b2
  case neg => simp [f34_is h.c_f34 a2 b2 hx.1 hy.1, f36_is h.c_f36 a3 b3 hx.2 hy.2, h2]
  subst h2
  by_cases h3 : a3 = b3
  case neg => simp [f34_is h.c_f34 a2 a2 hx.1 hy.1, f36_is h.c_f36 a3 b3 hx.2 hy.2, h3]
  subst h3
  simp [f34_is h.c_f34 a2 a2 hx.1 hy.1, f36_is h.c_f36 a3 a3 hx.2 hy.2]
def Entry.sz (e : Entry) (left : Int) : Int := let v := szc e.reads.length left; if v < 0 then -1 else szc e.writes.length v
theorem Entry.sz_szs : Szs Entry.sz Entry.ok := fun e left h0 h1 => by
  unfold Entry.sz Entry.ok
  rcases szc_szs e.reads.length left h0 h1 with h | ⟨h2, h3, h4⟩
  · left; simp [h]
  · have h5 : ¬ szc e.reads.length left < 0 := by omega
    rcases szc_szs e.writes.length _ h3 (by omega) with h | ⟨h6, h7, h8⟩
    · left; simp [h5, h]
    · right; simp only [h5, if_false]; exact ⟨⟨h2, h6⟩, h7, by omega⟩
theorem f43_is (h : G_f43 E) (x : Entry) (hf : x.fit) (left : Int) (h0 : 0 ≤ left) (h1 : left ≤ 1048576) : E 50 [x.u, .int .i64 left] = some (.int .i64 (x.sz left)) := by
  rw [f43_E h]
  obtain ⟨hf1, hf2⟩ := hf
  have a1 := f45_is h.c_f45 x.reads hf1 left h0 h1
  rcases szc_szs x.reads.length left h0 h1 with h2 | ⟨_, h3, h4⟩
  · simp [a1, Entry.sz, h2]
  · have h5 : ¬ szc x.reads.length left < 0 := by omega
    have a2 := f46_is h.c_f46 x.writes hf2 _ h3 (by omega)
    by_cases h6 : szc x.writes.length (szc x.reads.length left) < 0
    · have h7 : szc x.writes.length (szc x.reads.length left) = -1 := szc_neg h6
      simp [a1, a2, Entry.sz, h5, h7]
    · simp [a1, a2, Entry.sz, h5, h6]
theorem f47_is (h : G_f47 E) (x : Entry) (ho : x.ok) : E 51 [x.u] = some x.u := by
  rw [f47_E h]
  simp [Entry.u, f52_is h.c_f52 x.reads ho.1, f55_is h.c_f55 x.writes ho.2]
theorem f48_l0_is (h : G_f48 E) (l : List Entry) (hl : l.length ≤ 1048576) (hok : ∀ x ∈ l, Entry.ok x) : ∀ (r p : List Entry) (i : Int) (c : List U), l = p ++ r → i = p.length → c.length = r.length → (∀ z ∈ c, z.size = 4) →
    f48_l0 E (.sl 4 (l.map Entry.u)) (.int .i64 i) (p.map Entry.u ++ c) = some (.sl 4 (l.map Entry.u))
  | [], p, i, c, e, hi, hc, _ => by
    obtain rfl : c = [] := List.length_eq_zero_iff.1 hc
    rw [f48_l0_eq]
    simp [mid_end e hi]
    simp [e]
  | x :: r, p, i, [], e, hi, hc, _ => by cases hc
  | x :: r, p, i, z :: c, e, hi, hc, hz => by
    obtain ⟨h0, hlt, hx, hw, hn, _⟩ := mid_at e hi (by omega)
    have hox : Entry.ok x := hok x (by rw [e]; simp)
    have hzs : z.size = 4 := hz z (by simp)
    obtain ⟨hg, hs, hlen⟩ := mid_set Entry.u p z c hi
    have ih := f48_l0_is h l hl hok r (p ++ [x]) (i + 1) c (mid_next e) hn (by simpa using hc) (fun y hy => hz y (by simp [hy]))
    simp only [List.map_append, List.map_cons, List.map_nil, List.append_assoc, List.cons_append, List.nil_append] at ih
    rw [f48_l0_eq]
    simp only [hg, hs, hx, hw, asInt_int, bin_lss, lenOf_sl, List.length_map, Option.bind_some, asBool_bool, hlt, decide_true, if_true, h0, hlen, and_self, bin_add, f47_is h.c_f47 x hox, hzs, Entry.u_var, Entry.u_size, Entry.u_storable, Entry.u_partable]
    simpa using ih
theorem f48_is (h : G_f48 E) (l : List Entry) (hl : l.length ≤ 1048576) (hok : ∀ x ∈ l, Entry.ok x) : E 45 [.sl 4 (l.map Entry.u)] = some (.sl 4 (l.map Entry.u)) := by
  have h1 := f48_l0_is h l hl hok l [] 0 (List.replicate l.length (.agg [.int .i64 0, .int .i64 0, .nsl 2, .nsl 2])) rfl rfl (by simp) (by simp)
  rw [f48_E h]
  simp only [lenOf_sl, Option.bind_some, List.length_map]
  rw [if_pos (by refine ⟨by omega, by omega, by omega, rfl⟩)]
  simpa using h1
theorem f32_l0_is (h : G_f32 E) (a b : List Entry) (ha : a.length ≤ 1048576) (hb : b.length ≤ 1048576) (hao : ∀ x ∈ a, Entry.ok x) (hbo : ∀ x ∈ b, Entry.ok x) : ∀ (r s p p2 : List Entry) (i : Int), a = p ++ r → b = p2 ++ s → i = p.length → i = p2.length → r.length = s.length →
    f32_l0 E (.sl 4 (a.map Entry.u)) (.sl 4 (b.map Entry.u)) (.int .i64 i) = some (.bool (decide (r = s)))
  | [], [], p, p2, i, e, e2, hi, hi2, _ => by
    rw [f32_l0_eq]
    simp [mid_end e hi]
  | [], y :: s, _, _, _, _, _, _, _, hl => by cases hl
  | x :: r, [], _, _, _, _, _, _, _, hl => by cases hl
  | x :: r, y :: s, p, p2, i, e, e2, hi, hi2, hl => by
    obtain ⟨h0, hlt, hx, hw, hn, _⟩ := mid_at e hi (by omega)
    obtain ⟨_, _, hy, _, hn2, _⟩ := mid_at e2 hi2 (by omega)
    have hox : Entry.ok x := hao x (by rw [e]; simp)
    have hoy : Entry.ok y := hbo y (by rw [e2]; simp)
    have ih := f32_l0_is h a b ha hb hao hbo r s (p ++ [x]) (p2 ++ [y]) (i + 1) (mid_next e) (mid_next e2) hn hn2 (by simpa using hl)
    rw [f32_l0_eq]
    by_cases hxy : x = y
    · subst hxy
      simp [hlt, hx, hy, hw, ih, f31_is h.c_f31 _ _ hox hoy]
    · simp [hlt, hx, hy, hw, ih, f31_is h.c_f31 _ _ hox hoy, hxy]
theorem f32_is (h : G_f32 E) (a b : List Entry) (ha : a.length ≤ 1048576) (hb : b.length ≤ 1048576) (hao : ∀ x ∈ a, Entry.ok x) (hbo : ∀ x ∈ b, Entry.ok x) : E 46 [.sl 4 (a.map Entry.u), .sl 4 (b.map Entry.u)] = some (.bool (decide (a = b))) := by
  rw [f32_E h]
  by_cases hl : a.length = b.length
  · simp [hl, f32_l0_is h a b ha hb hao hbo a b [] [] 0 rfl rfl rfl rfl hl]
  · have h1 : a ≠ b := fun e => hl (by rw [e])
    have h2 : (a.length : Int) ≠ b.length := by omega
    simp [h1, h2]
theorem f44_l0_is (h : G_f44 E) (l : List Entry) (hl : l.length ≤ 1048576) (hf : ∀ x ∈ l, Entry.fit x) : ∀ (r p : List Entry) (i left : Int), l = p ++ r → i = p.length → 0 ≤ left → left ≤ 1048576 →
    f44_l0 E (.sl 4 (l.map Entry.u)) (.int .i64 left) (.int .i64 i) = some (.int .i64 (szl Entry.sz r left))
  | [], p, i, left, e, hi, _, _ => by
    rw [f44_l0_eq]
    simp [mid_end e hi, szl]
  | x :: r, p, i, left, e, hi, h1, h2 => by
    obtain ⟨h0, hlt, hx, hw, hn, _⟩ := mid_at e hi (by omega)
    have hfx : Entry.fit x := hf x (by rw [e]; simp)
    rw [f44_l0_eq]
    rcases Entry.sz_szs x left h1 h2 with h3 | ⟨_, h3, h4⟩
    · simp [hlt, hx, hw, szl, f43_is h.c_f43 x hfx left h1 h2, h3]
    · have ih := f44_l0_is h l hl hf r (p ++ [x]) (i + 1) (Entry.sz x left) (mid_next e) hn h3 (by omega)
      have h5 : ¬ Entry.sz x left < 0 := by omega
      simp [hlt, hx, hw, szl, f43_is h.c_f43 x hfx left h1 h2, h5, ih]
theorem f44_is (h : G_f44 E) (l : List Entry) (hl : l.length ≤ maxLen) (hf : ∀ x ∈ l, Entry.fit x) (left : Int) (h0 : 0 ≤ left) (h1 : left ≤ 1048576) : E 49 [.sl 4 (l.map Entry.u), .int .i64 left] = some (.int .i64 (szL Entry.sz l left)) := by
  rw [f44_E h]
  unfold maxLen at hl
  have hw : IntKind.i64.wrap (left - (l.length : Int)) = left - l.length := wrap_in (by omega)
  by_cases h2 : left - (l.length : Int) < 0
  · simp [hw, szL, h2]
  · simp [hw, szL, h2, f44_l0_is h l (by omega) hf l [] 0 (left - l.length) rfl rfl (by omega) (by omega)]
def upReadMark : Int → Nat → List ReadMark
  | _, 0 => []
  | k, n + 1 => ⟨k, k + 1⟩ :: upReadMark (k + 2) n
theorem flats_ReadMark (l : List ReadMark) : U.flat.flats (l.map ReadMark.u) = true := flats_map _ (fun _ => rfl) l
theorem f41_l0_is (h : G_f41 E) : ∀ (r p : List ReadMark) (k i : Int), i = p.length → p.length + r.length ≤ 1048576 → 0 ≤ k → k + 2 * r.length ≤ 1099511627776 →
    f41_l0 E (.int .i64 k) (.int .i64 i) (p.map ReadMark.u ++ r.map ReadMark.u) = some (.tup [.int .i64 (k + 2 * r.length), .sl 2 (p.map ReadMark.u ++ (upReadMark k r.length).map ReadMark.u)])
  | [], p, k, i, hi, hb, hk, hk2 => by
    have h1 : ¬ i < ((p.map ReadMark.u ++ ([] : List ReadMark).map ReadMark.u).length : Int) := by simp [hi]
    rw [f41_l0_eq]
    simp only [bin_lss, h1, decide_false, Option.bind_some, asBool_bool, Bool.false_eq_true, if_false]
    rw [← List.map_append]
    simp [upReadMark, flats_ReadMark]
  | x :: r, p, k, i, hi, hb, hk, hk2 => by
    simp only [List.length_cons] at hb hk2
    have hm := fun z => mid_set ReadMark.u p z (r.map ReadMark.u) hi
    have hg := fun z => (hm z).1
    have hs := fun z => (hm z).2.1
    have hlen := fun z => (hm z).2.2
    have h0 : 0 ≤ i := by omega
    have hw0 : IntKind.i64.wrap (k + 1) = k + 1 := by rw [wrap_in (by omega)]
    have hw1 : IntKind.i64.wrap (k + 1 + 1) = k + 2 := by rw [wrap_in (by omega)]; omega
    have hwi : IntKind.i64.wrap (i + 1) = i + 1 := wrap_in (by omega)
    have ih := f41_l0_is h r (p ++ [⟨k, k + 1⟩]) (k + 2) (i + 1) (by simp [hi]) (by simp; omega) (by omega) (by omega)
    simp only [List.map_append, List.map_cons, List.map_nil, List.append_assoc, List.cons_append, List.nil_append] at ih
    rw [f41_l0_eq]
    simp only [List.map_cons, bin_lss, hlen, decide_true, Option.bind_some, asBool_bool, if_true, asInt_int, h0, and_self, storable_int, size_int, flat_int, hg, hs, ReadMark.u_agg, asAgg_agg, List.take_zero, List.take_succ_cons, sizes_cons, sizes_nil, Nat.add_zero, Nat.zero_add, List.getElem?_cons_zero, List.getElem?_cons_succ, List.set_cons_zero, List.set_cons_succ, bin_add, hw0, hw1, hwi, Nat.reduceAdd]
    have e : k + 2 + 2 * (r.length : Int) = k + 2 * ((r.length + 1 : Nat) : Int) := by omega
    rw [e] at ih
    simpa [upReadMark, ReadMark.u] using ih
theorem f41_is (h : G_f41 E) (l : List ReadMark) (hl : l.length ≤ 1048576) (k : Int) (hk : 0 ≤ k) (hk2 : k ≤ 1073741824) :
    E 200095 (.agg [.tup [.sl 2 (l.map ReadMark.u)]] :: [.int .i64 k]) = some (.tup [.int .i64 (k + 2 * l.length), .sl 2 ((upReadMark k l.length).map ReadMark.u)]) := by
  rw [f41_E h]
  exact f41_l0_is h l [] k 0 rfl (by simpa using hl) hk (by omega)
def upWrite : Int → Nat → List Write
  | _, 0 => []
  | k, n + 1 => ⟨k, k + 1⟩ :: upWrite (k + 2) n
theorem flats_Write (l : List Write) : U.flat.flats (l.map Write.u) = true := flats_map _ (fun _ => rfl) l
theorem f42_l0_is (h : G_f42 E) : ∀ (r p : List Write) (k i : Int), i = p.length → p.length + r.length ≤ 1048576 → 0 ≤ k → k + 2 * r.length ≤ 1099511627776 →
    f42_l0 E (.int .i64 k) (.int .i64 i) (p.map Write.u ++ r.map Write.u) = some (.tup [.int .i64 (k + 2 * r.length), .sl 2 (p.map Write.u ++ (upWrite k r.length).map Write.u)])
  | [], p, k, i, hi, hb, hk, hk2 => by
    have h1 : ¬ i < ((p.map Write.u ++ ([] : List Write).map Write.u).length : Int) := by simp [hi]
    rw [f42_l0_eq]
    simp only [bin_lss, h1, decide_false, Option.bind_some, asBool_bool, Bool.false_eq_true, if_false]
    rw [← List.map_append]
    simp [upWrite, flats_Write]
  | x :: r, p, k, i, hi, hb, hk, hk2 => by
    simp only [List.length_cons] at hb hk2
    have hm := fun z => mid_set Write.u p z (r.map Write.u) hi
    have hg := fun z => (hm z).1
    have hs := fun z => (hm z).2.1
    have hlen := fun z => (hm z).2.2
    have h0 : 0 ≤ i := by omega
    have hw0 : IntKind.i64.wrap (k + 1) = k + 1 := by rw [wrap_in (by omega)]
    have hw1 : IntKind.i64.wrap (k + 1 + 1) = k + 2 := by rw [wrap_in (by omega)]; omega
    have hwi : IntKind.i64.wrap (i + 1) = i + 1 := wrap_in (by omega)
    have ih := f42_l0_is h r (p ++ [⟨k, k + 1⟩]) (k + 2) (i + 1) (by simp [hi]) (by simp; omega) (by omega) (by omega)
    simp only [List.map_append, List.map_cons, List.map_nil, List.append_assoc, List.cons_append, List.nil_append] at ih
    rw [f42_l0_eq]
    simp only [List.map_cons, bin_lss, hlen, decide_true, Option.bind_some, asBool_bool, if_true, asInt_int, h0, and_self, storable_int, size_int, flat_int, hg, hs, Write.u_agg, asAgg_agg, List.take_zero, List.take_succ_cons, sizes_cons, sizes_nil, Nat.add_zero, Nat.zero_add, List.getElem?_cons_zero, List.getElem?_cons_succ, List.set_cons_zero, List.set_cons_succ, bin_add, hw0, hw1, hwi, Nat.reduceAdd]
    have e : k + 2 + 2 * (r.length : Int) = k + 2 * ((r.length + 1 : Nat) : Int) := by omega
    rw [e] at ih
    simpa [upWrite, Write.u] using ih
theorem f42_is (h : G_f42 E) (l : List Write) (hl : l.length ≤ 1048576) (k : Int) (hk : 0 ≤ k) (hk2 : k ≤ 1073741824) :
    E 200232 (.agg [.tup [.sl 2 (l.map Write.u)]] :: [.int .i64 k]) = some (.tup [.int .i64 (k + 2 * l.length), .sl 2 ((upWrite k l.length).map Write.u)]) := by
  rw [f42_E h]
  exact f42_l0_is h l [] k 0 rfl (by simpa using hl) hk (by omega)
theorem f53_l0_is (h : G_f53 E) (l : List ReadMark) (hl : l.length ≤ 1048576) : ∀ (r p : List ReadMark) (i : Int) (c : List U), l = p ++ r → i = p.length → c.length = r.length → (∀ z ∈ c, z.size = 2) →
    f53_l0 E (.sl 2 (l.map ReadMark.u)) (.int .i64 i) (p.map ReadMark.u ++ c) = some (.sl 2 (l.map ReadMark.u))
  | [], p, i, c, e, hi, hc, _ => by
    obtain rfl : c = [] := List.length_eq_zero_iff.1 hc
    rw [f53_l0_eq]
    simp [mid_end e hi]
    simp [e, flats_ReadMark, ← List.map_append, ← List.map_cons]
  | x :: r, p, i, [], e, hi, hc, _ => by cases hc
  | x :: r, p, i, z :: c, e, hi, hc, hz => by
    obtain ⟨h0, hlt, hx, hw, hn, _⟩ := mid_at e hi (by omega)
    have hzs : z.size = 2 := hz z (by simp)
    obtain ⟨hg, hs, hlen⟩ := mid_set ReadMark.u p z c hi
    have ih := f53_l0_is h l hl r (p ++ [x]) (i + 1) c (mid_next e) hn (by simpa using hc) (fun y hy => hz y (by simp [hy]))
    simp only [List.map_append, List.map_cons, List.map_nil, List.append_assoc, List.cons_append, List.nil_append] at ih
    rw [f53_l0_eq]
    simp only [hg, hs, hx, hw, asInt_int, bin_lss, lenOf_sl, List.length_map, Option.bind_some, asBool_bool, hlt, decide_true, if_true, h0, hlen, and_self, bin_add, f51_is h.c_f51 x, hzs, ReadMark.u_var, ReadMark.u_size, ReadMark.u_storable, ReadMark.u_partable]
    simpa using ih
theorem f53_is (h : G_f53 E) (l : List ReadMark) (hl : l.length ≤ 1048576) : E 100028 [.sl 2 (l.map ReadMark.u)] = some (.sl 2 (l.map ReadMark.u)) := by
  have h1 := f53_l0_is h l hl l [] 0 (List.replicate l.length (.agg [.int .i64 0, .int .i64 0])) rfl rfl (by simp) (by simp)
  rw [f53_E h]
  simp only [lenOf_sl, Option.bind_some, List.length_map]
  rw [if_pos (by refine ⟨by omega, by omega, by omega, rfl⟩)]
  simpa using h1
theorem f56_l0_is (h : G_f56 E) (l : List Write) (hl : l.length ≤ 1048576) : ∀ (r p : List Write) (i : Int) (c : List U), l = p ++ r → i = p.length → c.length = r.length → (∀ z ∈ c, z.size = 2) →
    f56_l0 E (.sl 2 (l.map Write.u)) (.int .i64 i) (p.map Write.u ++ c) = some (.sl 2 (l.map Write.u))
  | [], p, i, c, e, hi, hc, _ => by
    obtain rfl : c = [] := List.length_eq_zero_iff.1 hc
    rw [f56_l0_eq]
    simp [mid_end e hi]
    simp [e, flats_Write, ← List.map_append, ← List.map_cons]
  | x :: r, p, i, [], e, hi, hc, _ => by cases hc
  | x :: r, p, i, z :: c, e, hi, hc, hz => by
    obtain ⟨h0, hlt, hx, hw, hn, _⟩ := mid_at e hi (by omega)
    have hzs : z.size = 2 := hz z (by simp)
    obtain ⟨hg, hs, hlen⟩ := mid_set Write.u p z c hi
    have ih := f56_l0_is h l hl r (p ++ [x]) (i + 1) c (mid_next e) hn (by simpa using hc) (fun y hy => hz y (by simp [hy]))
    simp only [List.map_append, List.map_cons, List.map_nil, List.append_assoc, List.cons_append, List.nil_append] at ih
    rw [f56_l0_eq]
    simp only [hg, hs, hx, hw, asInt_int, bin_lss, lenOf_sl, List.length_map, Option.bind_some, asBool_bool, hlt, decide_true, if_true, h0, hlen, and_self, bin_add, f54_is h.c_f54 x, hzs, Write.u_var, Write.u_size, Write.u_storable, Write.u_partable]
    simpa using ih
theorem f56_is (h : G_f56 E) (l : List Write) (hl : l.length ≤ 1048576) : E 100027 [.sl 2 (l.map Write.u)] = some (.sl 2 (l.map Write.u)) := by
  have h1 := f56_l0_is h l hl l [] 0 (List.replicate l.length (.agg [.int .i64 0, .int .i64 0])) rfl rfl (by simp) (by simp)
  rw [f56_E h]
  simp only [lenOf_sl, Option.bind_some, List.length_map]
  rw [if_pos (by refine ⟨by omega, by omega, by omega, rfl⟩)]
  simpa using h1
theorem f50_is (h : G_f50 E) (x : Entry) (ho : x.ok) : E 100051 [x.u] = some x.u := by
  rw [f50_E h]
  have h1 := f53_is h.c_f53 x.reads ho.1
  have h2 := f56_is h.c_f56 x.writes ho.2
  have h3 : ∀ (k : Nat) (us : List U) (K : U → Option U), U.noTup (.sl k us) K = K (.sl k us) := fun _ _ _ => rfl
  have h4 : ∀ (n : Int) (K : U → Option U), U.noTup (.int .i64 n) K = K (.int .i64 n) := fun _ _ => rfl
  simp [h1, h2, U.asSlK, h3, h4, D.size, dsizes, D.size.dsizes]
  rfl
theorem f49_l0_is (h : G_f49 E) (l : List Entry) (hl : l.length ≤ 1048576) (hok : ∀ x ∈ l, Entry.ok x) : ∀ (r p : List Entry) (i : Int) (c : List U), l = p ++ r → i = p.length → c.length = r.length → (∀ z ∈ c, z.size = 4) →
    f49_l0 E (.sl 4 (l.map Entry.u)) (.int .i64 i) (p.map Entry.u ++ c) = some (.sl 4 (l.map Entry.u))
  | [], p, i, c, e, hi, hc, _ => by
    obtain rfl : c = [] := List.length_eq_zero_iff.1 hc
    rw [f49_l0_eq]
    simp [mid_end e hi]
    simp [e]
  | x :: r, p, i, [], e, hi, hc, _ => by cases hc
  | x :: r, p, i, z :: c, e, hi, hc, hz => by
    obtain ⟨h0, hlt, hx, hw, hn, _⟩ := mid_at e hi (by omega)
    have hox : x.ok := hok x (by rw [e]; simp)
    have hzs : z.size = 4 := hz z (by simp)
    obtain ⟨hg, hs, hlen⟩ := mid_set Entry.u p z c hi
    have ih := f49_l0_is h l hl hok r (p ++ [x]) (i + 1) c (mid_next e) hn (by simpa using hc) (fun y hy => hz y (by simp [hy]))
    simp only [List.map_append, List.map_cons, List.map_nil, List.append_assoc, List.cons_append, List.nil_append] at ih
    have hF := f50_is h.c_f50 x hox
    have h3 : ∀ (k : Nat) (us : List U) (K : U → Option U), U.noTup (.sl k us) K = K (.sl k us) := fun _ _ _ => rfl
    have h4 : ∀ (n : Int) (K : U → Option U), U.noTup (.int .i64 n) K = K (.int .i64 n) := fun _ _ => rfl
    have hu : U.agg [.int .i64 x.id, .int .i64 x.stamp, .sl 2 (x.reads.map ReadMark.u), .sl 2 (x.writes.map Write.u)] = x.u := rfl
    rw [f49_l0_eq]
    simp only [hx, hw, asInt_int, bin_lss, lenOf_sl, List.length_map, Option.bind_some, asBool_bool, hlt, decide_true, if_true, h0, hlen, and_self, bin_add, Entry.u_var, hF, Entry.u_noTup, Entry.u_agg, asVar_int, flat_int, U.asSlK, h4]
    simp only [dsizes_cons, dsizes_nil, D.size, size_int, Nat.reduceAdd, if_true, hu, Entry.u_size, hg, hs, hzs, Option.bind_some]
    simpa using ih
theorem f49_is (h : G_f49 E) (l : List Entry) (hl : l.length ≤ 1048576) (hok : ∀ x ∈ l, Entry.ok x) : E 100045 [.sl 4 (l.map Entry.u)] = some (.sl 4 (l.map Entry.u)) := by
  have h1 := f49_l0_is h l hl hok l [] 0 (List.replicate l.length (.agg [.int .i64 0, .int .i64 0, .nsl 2, .nsl 2])) rfl rfl (by simp) (by simp)
  rw [f49_E h]
  simp only [lenOf_sl, Option.bind_some, List.length_map]
  rw [if_pos (by refine ⟨by omega, by omega, by omega, rfl⟩)]
  have hfl : ∀ n : Nat, U.flat.flats (List.replicate n (.agg [.int .i64 0, .int .i64 0, .nsl 2, .nsl 2])) = true := by
    intro n
    induction n with
    | zero => rfl
    | succ n ih => simp [List.replicate_succ, U.flat.flats, U.flat, ih]
  simpa [hfl] using h1
def entInts : List Entry → Int
  | [] => 0
  | x :: r => 2 + 2 * x.reads.length + 2 * x.writes.length + entInts r
theorem entInts_nonneg : ∀ l, 0 ≤ entInts l
  | [] => by simp [entInts]
  | x :: r => by have := entInts_nonneg r; simp only [entInts]; omega
theorem f40_l0_is (h : G_f40 E) : ∀ (r : List Entry) (p : List U) (k i : Int), i = p.length → p.length + r.length ≤ 1048576 → (∀ x ∈ r, x.ok) → 0 ≤ k → k + entInts r ≤ 1073741824 →
    ∃ k' us, f40_l0 E (.int .i64 k) (.int .i64 i) (p ++ r.map Entry.u) = some (.tup [.int .i64 k', .sl 4 us]) ∧ 0 ≤ k' ∧ k' ≤ 1073741824
  | [], p, k, i, hi, hb, hr, hk, hk2 => by
    simp only [entInts] at hk2
    refine ⟨k, p, ?_, hk, by omega⟩
    have h1 : ¬ i < (p.length : Int) := by omega
    rw [f40_l0_eq]
    simp [h1]
  | x :: r, p, k, i, hi, hb, hr, hk, hk2 => by
    simp only [List.length_cons, entInts] at hb hk2
    have hs := entInts_nonneg r
    have hx : x.ok := hr x (by simp)
    have hm1 := f41_is h.c_f41 x.reads hx.1 (k + 2) (by omega) (by omega)
    have hm2 := f42_is h.c_f42 x.writes hx.2 (k + 2 + 2 * x.reads.length) (by omega) (by omega)
    obtain ⟨k', us, h1, h2⟩ := f40_l0_is h r (p ++ [.agg [.int .i64 k, .int .i64 (k + 1), .sl 2 ((upReadMark (k + 2) x.reads.length).map ReadMark.u), .sl 2 ((upWrite (k + 2 + 2 * x.reads.length) x.writes.length).map Write.u)]]) (k + 2 + 2 * x.reads.length + 2 * x.writes.length) (i + 1) (by simp [hi]) (by simp; omega) (fun y hy => hr y (by simp [hy])) (by omega) (by omega)
    refine ⟨k', us, ?_, h2⟩
    have hn : i.toNat = p.length := by omega
    have hlt : ∀ z : U, i < ((p ++ z :: r.map Entry.u).length : Int) := fun z => by simp; omega
    have h0 : 0 ≤ i := by omega
    have hw : IntKind.i64.wrap (i + 1) = i + 1 := wrap_in (by omega)
    have hw1 : IntKind.i64.wrap (k + 1) = k + 1 := wrap_in (by omega)
    have hw2 : IntKind.i64.wrap (k + 1 + 1) = k + 2 := by rw [wrap_in (by omega)]; omega
    have hg : ∀ z : U, (p ++ z :: r.map Entry.u)[p.length]? = some z := fun z => by simp
    have hset : ∀ y z : U, (p ++ y :: r.map Entry.u).set p.length z = p ++ z :: r.map Entry.u := fun y z => by simp
    rw [f40_l0_eq]
    simp only [List.append_assoc, List.cons_append, List.nil_append] at h1
    simp only [List.map_cons, bin_lss, hlt, decide_true, Option.bind_some, asBool_bool, if_true, asInt_int, h0, and_self, hn, hg, hset, Entry.u_agg, asAgg_agg, List.take_zero, List.take_succ_cons, sizes_cons, sizes_nil, size_int, U.size, Nat.add_zero, Nat.zero_add, Nat.reduceAdd, List.getElem?_cons_zero, List.getElem?_cons_succ, List.set_cons_zero, List.set_cons_succ, storable_int, flat_int, bin_add, hw, hw1, hw2, U.asSlK, hm1, hm2, U.asMut, U.asFlat, U.flat, partable_int]
    exact h1
theorem entInts_szl : ∀ (r : List Entry) (left : Int), 0 ≤ left → 0 ≤ szl Entry.sz r left → entInts r ≤ 2 * r.length + 2 * left
  | [], left, h0, h => by simp [entInts]; omega
  | x :: r, left, h0, h => by
    simp only [szl] at h
    by_cases h1 : Entry.sz x left < 0
    · rw [if_pos h1] at h; omega
    · rw [if_neg h1] at h
      have h2 := entInts_szl r (Entry.sz x left) (by omega) h
      simp only [Entry.sz, szc] at h1 h2
      simp only [entInts, List.length_cons]
      split at h2
      · omega
      · split at h2
        · omega
        · omega
theorem entInts_sz (l : List Entry) (left : Int) (h0 : 0 ≤ left) (h1 : left ≤ 1048576) (h : 0 ≤ szL Entry.sz l left) : entInts l ≤ 4194304 := by
  simp only [szL] at h
  split at h
  · omega
  · have := entInts_szl l _ (by omega) h
    omega
end Go.Proofs.Ytlmnkhlkccipfaa.Am
