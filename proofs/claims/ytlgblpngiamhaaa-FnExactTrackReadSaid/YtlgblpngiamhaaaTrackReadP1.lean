import Derived.Test.YtlgblpngiamhaaaTrackReadP0
import Derived.Test.YtlgblpngiamhaaaTrackReadF0
import Derived.Test.YtlgblpngiamhaaaAmY
import Derived.Test.YtlgblpngiamhaaaAmX
namespace Go.Proofs.Ytlgblpngiamhaaa.Am
open Go
variable {E : Env}
set_option linter.unusedVariables false
theorem f36_l0_is (h : G_f36 E) (l : List ReadMark) (hl : l.length ≤ 1048576) : ∀ (r p : List ReadMark) (i : Int) (c : List U), l = p ++ r → i = p.length → c.length = r.length → (∀ z ∈ c, z.size = 2) →
    f36_l0 E (.sl 2 (l.map ReadMark.u)) (.int .i64 i) (p.map ReadMark.u ++ c) = some (.sl 2 (l.map ReadMark.u))
  | [], p, i, c, e, hi, hc, _ => by
    obtain rfl : c = [] := List.length_eq_zero_iff.1 hc
    rw [f36_l0_eq]
    simp [mid_end e hi]
    simp [e, flats_ReadMark, ← List.map_append, ← List.map_cons]
  | x :: r, p, i, [], e, hi, hc, _ => by cases hc
  | x :: r, p, i, z :: c, e, hi, hc, hz => by
    obtain ⟨h0, hlt, hx, hw, hn, _⟩ := mid_at e hi (by omega)
    have hzs : z.size = 2 := hz z (by simp)
    obtain ⟨hg, hs, hlen⟩ := mid_set ReadMark.u p z c hi
    have ih := f36_l0_is h l hl r (p ++ [x]) (i + 1) c (mid_next e) hn (by simpa using hc) (fun y hy => hz y (by simp [hy]))
    simp only [List.map_append, List.map_cons, List.map_nil, List.append_assoc, List.cons_append, List.nil_append] at ih
    rw [f36_l0_eq]
    simp only [hg, hs, hx, hw, asInt_int, bin_lss, lenOf_sl, List.length_map, Option.bind_some, asBool_bool, hlt, decide_true, if_true, h0, hlen, and_self, bin_add, f34_is h.c_f34 x, hzs, ReadMark.u_var, ReadMark.u_size, ReadMark.u_storable, ReadMark.u_partable]
    simpa using ih
theorem f36_is (h : G_f36 E) (l : List ReadMark) (hl : l.length ≤ 1048576) : E 100028 [.sl 2 (l.map ReadMark.u)] = some (.sl 2 (l.map ReadMark.u)) := by
  have h1 := f36_l0_is h l hl l [] 0 (List.replicate l.length (.agg [.int .i64 0, .int .i64 0])) rfl rfl (by simp) (by simp)
  rw [f36_E h]
  simp only [lenOf_sl, Option.bind_some, List.length_map]
  rw [if_pos (by refine ⟨by omega, by omega, by omega, rfl⟩)]
  simpa using h1
theorem f42_l0_is (h : G_f42 E) (l : List Write) (hl : l.length ≤ 1048576) : ∀ (r p : List Write) (i : Int) (c : List U), l = p ++ r → i = p.length → c.length = r.length → (∀ z ∈ c, z.size = 2) →
    f42_l0 E (.sl 2 (l.map Write.u)) (.int .i64 i) (p.map Write.u ++ c) = some (.sl 2 (l.map Write.u))
  | [], p, i, c, e, hi, hc, _ => by
    obtain rfl : c = [] := List.length_eq_zero_iff.1 hc
    rw [f42_l0_eq]
    simp [mid_end e hi]
    simp [e, flats_Write, ← List.map_append, ← List.map_cons]
  | x :: r, p, i, [], e, hi, hc, _ => by cases hc
  | x :: r, p, i, z :: c, e, hi, hc, hz => by
    obtain ⟨h0, hlt, hx, hw, hn, _⟩ := mid_at e hi (by omega)
    have hzs : z.size = 2 := hz z (by simp)
    obtain ⟨hg, hs, hlen⟩ := mid_set Write.u p z c hi
    have ih := f42_l0_is h l hl r (p ++ [x]) (i + 1) c (mid_next e) hn (by simpa using hc) (fun y hy => hz y (by simp [hy]))
    simp only [List.map_append, List.map_cons, List.map_nil, List.append_assoc, List.cons_append, List.nil_append] at ih
    rw [f42_l0_eq]
    simp only [hg, hs, hx, hw, asInt_int, bin_lss, lenOf_sl, List.length_map, Option.bind_some, asBool_bool, hlt, decide_true, if_true, h0, hlen, and_self, bin_add, f40_is h.c_f40 x, hzs, Write.u_var, Write.u_size, Write.u_storable, Write.u_partable]
    simpa using ih
theorem f42_is (h : G_f42 E) (l : List Write) (hl : l.length ≤ 1048576) : E 100027 [.sl 2 (l.map Write.u)] = some (.sl 2 (l.map Write.u)) := by
  have h1 := f42_l0_is h l hl l [] 0 (List.replicate l.length (.agg [.int .i64 0, .int .i64 0])) rfl rfl (by simp) (by simp)
  rw [f42_E h]
  simp only [lenOf_sl, Option.bind_some, List.length_map]
  rw [if_pos (by refine ⟨by omega, by omega, by omega, rfl⟩)]
  simpa using h1
theorem f38_is (h : G_f38 E) (x : Transaction) (ho : x.ok) : E 100145 [x.u] = some x.u := by
  rw [f38_E h]
  have h1 := f36_is h.c_f36 x.reads ho.1
  have h2 := f42_is h.c_f42 x.writes ho.2
  have h3 : ∀ (k : Nat) (us : List U) (K : U → Option U), U.noTup (.sl k us) K = K (.sl k us) := fun _ _ _ => rfl
  have h4 : ∀ (n : Int) (K : U → Option U), U.noTup (.int .i64 n) K = K (.int .i64 n) := fun _ _ => rfl
  simp [h1, h2, U.asSlK, h3, h4, D.size, dsizes, D.size.dsizes]
  rfl
theorem f39_is (h : G_f39 E) (x : Version) : E 109 [x.u] = some x.u := by
  rw [f39_E h]
  simp [Version.u]
theorem f28_l0_is (h : G_f28 E) (l : List Write) (hl : l.length ≤ 1048576) : ∀ (n : Nat) (p : List Write) (k i : Int), l = p ++ upWrite k n → i = p.length → 0 ≤ k → k + 2 * n ≤ 1099511627776 →
    f28_l0 E (.sl 2 (l.map Write.u)) (.int .i64 k) (.int .i64 i) = some (.int .i64 (k + 2 * n))
  | 0, p, k, i, e, hi, hk, hk2 => by
    rw [f28_l0_eq]
    simp [mid_end e hi]
  | n + 1, p, k, i, e0, hi, hk, hk2 => by
    have e : l = p ++ (⟨k, k + 1⟩ : Write) :: upWrite (k + 2) n := e0
    obtain ⟨h0, hlt, hx, hw, hn, _⟩ := mid_at e hi (by omega)
    have hw0 : IntKind.i64.wrap (k + 1) = k + 1 := by rw [wrap_in (by omega)]
    have hw1 : IntKind.i64.wrap (k + 1 + 1) = k + 2 := by rw [wrap_in (by omega)]; omega
    have ih := f28_l0_is h l hl n (p ++ [⟨k, k + 1⟩]) (k + 2) (i + 1) (mid_next e) hn (by omega) (by omega)
    have e2 : k + 2 + 2 * (n : Int) = k + 2 * ((n + 1 : Nat) : Int) := by omega
    rw [e2] at ih
    rw [f28_l0_eq]
    simp only [lenOf_sl, List.length_map, Option.bind_some, bin_lss, hlt, decide_true, asBool_bool, if_true, asInt_int, hx, Write.u_at0, Write.u_at1, asVar_int, bin_neq, ne_eq, not_true_eq_false, decide_false, Bool.false_eq_true, if_false, bin_add, hw, hw0, hw1]
    exact ih
theorem f28_is (h : G_f28 E) (n : Nat) (hn : n ≤ 1048576) (k : Int) (hk : 0 ≤ k) (hk2 : k ≤ 4194304) : E 235 [.sl 2 ((upWrite k n).map Write.u), .int .i64 k] = some (.int .i64 (k + 2 * n)) := by
  rw [f28_E h]
  exact f28_l0_is h _ (by rw [upWrite_length]; exact hn) n [] k 0 rfl rfl hk (by omega)
def Transaction.marked (x : Transaction) (k : Int) : Transaction := { x with reads := upReadMark k x.reads.length, writes := upWrite (k + 2 * x.reads.length) x.writes.length }
theorem f27_is (h : G_f27 E) (x : Transaction) (ho : x.ok) : E 205 [(x.marked 1).u, .int .i64 1] = some (.int .i64 (1 + 2 * x.reads.length + 2 * x.writes.length)) := by
  rw [f27_E h]
  obtain ⟨h1, h2⟩ := ho
  have a1 := f26_is h.c_f26 x.reads.length h1 1 (by omega) (by omega)
  have a2 := f28_is h.c_f28 x.writes.length h2 (1 + 2 * x.reads.length) (by omega) (by omega)
  have n1 : ¬ 1 + 2 * (x.reads.length : Int) < 0 := by omega
  have n2 : ¬ 1 + 2 * (x.reads.length : Int) + 2 * (x.writes.length : Int) < 0 := by omega
  simp [Transaction.marked, a1, a2, n1, n2]
abbrev shI : Sh := .int .i64
theorem fits_int {u : U} (h : Fits shI u) : ∃ n, u = .int .i64 n ∧ -9223372036854775808 ≤ n ∧ n ≤ 9223372036854775807 := by
  cases u <;> first | exact h.elim | skip
  rename_i k n
  obtain ⟨rfl, h1, h2⟩ := h
  exact ⟨n, rfl, h1, h2⟩
theorem fits_agg {ss : List Sh} {u : U} (h : Fits (.agg ss) u) : ∃ us, u = .agg us ∧ Fits.fits ss us := by
  cases u <;> first | exact h.elim | exact ⟨_, rfl, h⟩
theorem fits_cons {s : Sh} {ss : List Sh} {us : List U} (h : Fits.fits (s :: ss) us) : ∃ u us', us = u :: us' ∧ Fits s u ∧ Fits.fits ss us' := by
  cases us with
  | nil => exact h.elim
  | cons u us => exact ⟨u, us, rfl, h.1, h.2⟩
theorem fits_nil {us : List U} (h : Fits.fits [] us) : us = [] := by
  cases us with
  | nil => rfl
  | cons u us => exact h.elim
theorem fits_map {α : Type} {s : Sh} {f : α → U} {Q : α → Prop} (hs : ∀ u, Fits s u → ∃ x, u = f x ∧ Q x) : ∀ us : List U, (∀ u ∈ us, Fits s u) → ∃ l : List α, us = l.map f ∧ ∀ x ∈ l, Q x
  | [], _ => ⟨[], rfl, by simp⟩
  | u :: us, h => by
    obtain ⟨x, rfl, hx⟩ := hs u (h u (by simp))
    obtain ⟨l, rfl, hl⟩ := fits_map hs us (fun v hv => h v (by simp [hv]))
    exact ⟨x :: l, rfl, by simpa using ⟨hx, hl⟩⟩
theorem fits_sl {α : Type} {k : Nat} {s : Sh} {f : α → U} {Q : α → Prop} (hs : ∀ u, Fits s u → ∃ x, u = f x ∧ Q x) {u : U} (h : Fits (.sl k s) u) : ∃ l : List α, u = .sl k (l.map f) ∧ l.length ≤ maxLen ∧ ∀ x ∈ l, Q x := by
  cases u <;> first | exact h.elim | skip
  obtain ⟨rfl, h1, h2⟩ := h
  obtain ⟨l, rfl, hl⟩ := fits_map hs _ h2
  exact ⟨l, rfl, by simpa using h1, hl⟩
abbrev shReadMark : Sh := .agg [shI, shI]
theorem fits_ReadMark (u : U) (h : Fits shReadMark u) : ∃ x : ReadMark, u = x.u ∧ True := by
  obtain ⟨us0, rfl, hs0⟩ := fits_agg h
  obtain ⟨u0, us1, rfl, h0, hs1⟩ := fits_cons hs0
  obtain ⟨a0, rfl, _⟩ := fits_int h0
  obtain ⟨u1, us2, rfl, h1, hs2⟩ := fits_cons hs1
  obtain ⟨a1, rfl, _⟩ := fits_int h1
  obtain rfl := fits_nil hs2
  exact ⟨⟨a0, a1⟩, rfl, trivial⟩
abbrev shWrite : Sh := .agg [shI, shI]
theorem fits_Write (u : U) (h : Fits shWrite u) : ∃ x : Write, u = x.u ∧ True := by
  obtain ⟨us0, rfl, hs0⟩ := fits_agg h
  obtain ⟨u0, us1, rfl, h0, hs1⟩ := fits_cons hs0
  obtain ⟨a0, rfl, _⟩ := fits_int h0
  obtain ⟨u1, us2, rfl, h1, hs2⟩ := fits_cons hs1
  obtain ⟨a1, rfl, _⟩ := fits_int h1
  obtain rfl := fits_nil hs2
  exact ⟨⟨a0, a1⟩, rfl, trivial⟩
abbrev shVersion : Sh := .agg [shI, shI, shI, shI, shI]
theorem fits_Version (u : U) (h : Fits shVersion u) : ∃ x : Version, u = x.u ∧ True := by
  obtain ⟨us0, rfl, hs0⟩ := fits_agg h
  obtain ⟨u0, us1, rfl, h0, hs1⟩ := fits_cons hs0
  obtain ⟨a0, rfl, _⟩ := fits_int h0
  obtain ⟨u1, us2, rfl, h1, hs2⟩ := fits_cons hs1
  obtain ⟨a1, rfl, _⟩ := fits_int h1
  obtain ⟨u2, us3, rfl, h2, hs3⟩ := fits_cons hs2
  obtain ⟨a2, rfl, _⟩ := fits_int h2
  obtain ⟨u3, us4, rfl, h3, hs4⟩ := fits_cons hs3
  obtain ⟨a3, rfl, _⟩ := fits_int h3
  obtain ⟨u4, us5, rfl, h4, hs5⟩ := fits_cons hs4
  obtain ⟨a4, rfl, _⟩ := fits_int h4
  obtain rfl := fits_nil hs5
  exact ⟨⟨a0, a1, a2, a3, a4⟩, rfl, trivial⟩
abbrev shTransaction : Sh := .agg [shI, shI, shI, shI, shI, shI, shI, .sl 2 shReadMark, .sl 2 shWrite]
theorem fits_Transaction (u : U) (h : Fits shTransaction u) : ∃ x : Transaction, u = x.u ∧ x.fit := by
  obtain ⟨us0, rfl, hs0⟩ := fits_agg h
  obtain ⟨u0, us1, rfl, h0, hs1⟩ := fits_cons hs0
  obtain ⟨a0, rfl, _⟩ := fits_int h0
  obtain ⟨u1, us2, rfl, h1, hs2⟩ := fits_cons hs1
  obtain ⟨a1, rfl, _⟩ := fits_int h1
  obtain ⟨u2, us3, rfl, h2, hs3⟩ := fits_cons hs2
  obtain ⟨a2, rfl, _⟩ := fits_int h2
  obtain ⟨u3, us4, rfl, h3, hs4⟩ := fits_cons hs3
  obtain ⟨a3, rfl, _⟩ := fits_int h3
  obtain ⟨u4, us5, rfl, h4, hs5⟩ := fits_cons hs4
  obtain ⟨a4, rfl, _⟩ := fits_int h4
  obtain ⟨u5, us6, rfl, h5, hs6⟩ := fits_cons hs5
  obtain ⟨a5, rfl, _⟩ := fits_int h5
  obtain ⟨u6, us7, rfl, h6, hs7⟩ := fits_cons hs6
  obtain ⟨a6, rfl, _⟩ := fits_int h6
  obtain ⟨u7, us8, rfl, h7, hs8⟩ := fits_cons hs7
  obtain ⟨a7, rfl, l7, _⟩ := fits_sl fits_ReadMark h7
  obtain ⟨u8, us9, rfl, h8, hs9⟩ := fits_cons hs8
  obtain ⟨a8, rfl, l8, _⟩ := fits_sl fits_Write h8
  obtain rfl := fits_nil hs9
  exact ⟨⟨a0, a1, a2, a3, a4, a5, a6, a7, a8⟩, rfl, ⟨l7, l8⟩⟩
def tx9 (a1 a2 a3 a4 a5 a6 a7 : Int) (R W : List U) : U := .agg [.int .i64 a1, .int .i64 a2, .int .i64 a3, .int .i64 a4, .int .i64 a5, .int .i64 a6, .int .i64 a7, .sl 2 R, .sl 2 W]
theorem track_core (h : G_f20 E) {k : U} {v : Version} {a1 a2 a3 a4 a5 a6 a7 y1 y2 y3 y4 y5 y6 y7 : Int} {R W R2 W2 Y Z Y2 Z2 : List U} {b : Bool} {n c1 c2 d1 d2 : Int} (n3 : ¬ n < 0) (n4 : ¬ c2 < 0) (n5 : ¬ d2 < 0)
    (s1 : E 132 [tx9 a1 a2 a3 a4 a5 a6 a7 R W, .int .i64 1048576] = some (.int .i64 n))
    (ht : E 145 [tx9 a1 a2 a3 a4 a5 a6 a7 R W] = some (tx9 a1 a2 a3 a4 a5 a6 a7 R W))
    (hF : E 100145 [tx9 a1 a2 a3 a4 a5 a6 a7 R W] = some (tx9 a1 a2 a3 a4 a5 a6 a7 R W))
    (hw : E 109 [v.u] = some v.u)
    (hsp : E 299 [tx9 a1 a2 a3 a4 a5 a6 a7 R W, k, v.u] = some (.tup [tx9 y1 y2 y3 y4 y5 y6 y7 Y Z, .bool b]))
    (him : E 298 [tx9 a1 a2 a3 a4 a5 a6 a7 R W, k, v.u] = some (.tup [tx9 y1 y2 y3 y4 y5 y6 y7 Y Z, .bool b]))
    (hif : E 100298 [tx9 a1 a2 a3 a4 a5 a6 a7 R W, k, v.u] = some (.tup [tx9 y1 y2 y3 y4 y5 y6 y7 Y Z, .bool b]))
    (he1 : E 177 [tx9 a1 a2 a3 a4 a5 a6 a7 R W, tx9 a1 a2 a3 a4 a5 a6 a7 R W] = some (.bool true))
    (he2 : E 177 [tx9 y1 y2 y3 y4 y5 y6 y7 Y Z, tx9 y1 y2 y3 y4 y5 y6 y7 Y Z] = some (.bool true))
    (m1 : E 200095 [.agg [.tup [.sl 2 R]], .int .i64 1] = some (.tup [.int .i64 c1, .sl 2 R2]))
    (m2 : E 200232 [.agg [.tup [.sl 2 W]], .int .i64 c1] = some (.tup [.int .i64 c2, .sl 2 W2]))
    (m3 : E 200095 [.agg [.tup [.sl 2 Y]], .int .i64 1] = some (.tup [.int .i64 d1, .sl 2 Y2]))
    (m4 : E 200232 [.agg [.tup [.sl 2 Z]], .int .i64 d1] = some (.tup [.int .i64 d2, .sl 2 Z2]))
    (hh : E 205 [tx9 y1 y2 y3 y4 y5 y6 y7 Y2 Z2, .int .i64 1] = some (.int .i64 d2)) : E 297 [tx9 a1 a2 a3 a4 a5 a6 a7 R W, k, v.u] = some (.bool true) := by
  rw [f20_E h]
  have nt : ∀ (a1 a2 a3 a4 a5 a6 a7 : Int) (R W : List U) (K : U → Option U), U.noTup (tx9 a1 a2 a3 a4 a5 a6 a7 R W) K = K (tx9 a1 a2 a3 a4 a5 a6 a7 R W) := fun _ _ _ _ _ _ _ _ _ _ => rfl
  have av : ∀ (a1 a2 a3 a4 a5 a6 a7 : Int) (R W : List U) (K : U → Option U), U.asVar true 9 (tx9 a1 a2 a3 a4 a5 a6 a7 R W) K = K (tx9 a1 a2 a3 a4 a5 a6 a7 R W) := fun _ _ _ _ _ _ _ _ _ _ => rfl
  have ag : ∀ (a1 a2 a3 a4 a5 a6 a7 : Int) (R W : List U) (K : List U → Option U), U.asAgg (tx9 a1 a2 a3 a4 a5 a6 a7 R W) K = K [.int .i64 a1, .int .i64 a2, .int .i64 a3, .int .i64 a4, .int .i64 a5, .int .i64 a6, .int .i64 a7, .sl 2 R, .sl 2 W] := fun _ _ _ _ _ _ _ _ _ _ => rfl
  have sz : ∀ (a1 a2 a3 a4 a5 a6 a7 : Int) (R W : List U), (tx9 a1 a2 a3 a4 a5 a6 a7 R W).size = 9 := fun _ _ _ _ _ _ _ _ _ => rfl
  have fl : ∀ (b : Bool) (K : U → Option U), U.asFlat (.bool b) K = K (.bool b) := fun _ _ => rfl
  have fi : ∀ (n : Int) (K : U → Option U), U.asFlat (.int .i64 n) K = K (.int .i64 n) := fun _ _ => rfl
  have mu : ∀ (y : U) (ys : List U) (K : U → List U → Option U), U.asMut 2 (.tup [y, .sl 2 ys]) K = K y ys := fun _ _ _ => rfl
  have at2 : ∀ (us : List U) (K : List U → Option U), U.asTup (.tup us) K = K us := fun _ _ => rfl
  have pa : ∀ n : Int, partable (.val (.int .i64 n)) = true := fun _ => rfl
  have eb : ∀ b : Bool, U.eqv 0 (.bool b) (.bool b) = some true := fun b => by cases b <;> rfl
  have i2 : ∀ {α : Type} (x y : α), (if 2 = 2 then x else y) = x := fun _ _ => rfl
  have vn : ∀ K : U → Option U, U.noTup v.u K = K v.u := fun _ => rfl
  have vv : ∀ K : U → Option U, U.asVar true 5 v.u K = K v.u := fun _ => rfl
  rw [nt, vn, av, s1, Option.bind_some, bin_lss, Option.bind_some, asBool_bool, if_neg (by simpa using n3), av, ht, Option.bind_some, vv, hw, Option.bind_some, hsp, Option.bind_some, part_tup, List.getElem?_cons_zero, Option.bind_some, part_tup, List.getElem?_cons_succ, List.getElem?_cons_zero, Option.bind_some, nt, sz, if_pos rfl, av, hF, Option.bind_some, nt, ag]
  show (E 109 [v.u]).bind _ = _
  rw [hw, Option.bind_some]
  show (E 100298 [tx9 a1 a2 a3 a4 a5 a6 a7 R W, k, v.u]).bind _ = _
  rw [hif, Option.bind_some, at2]
  show (E 177 [tx9 y1 y2 y3 y4 y5 y6 y7 Y Z, tx9 y1 y2 y3 y4 y5 y6 y7 Y Z]).bind _ = _
  rw [he2, Option.bind_some, fl, un_not, Option.bind_some, asBool_bool, if_neg (by simp), eb, Option.bind_some, asBool_bool, if_neg (by simp), av, ht, Option.bind_some]
  show (E 177 [tx9 a1 a2 a3 a4 a5 a6 a7 R W, tx9 a1 a2 a3 a4 a5 a6 a7 R W]).bind _ = _
  rw [he1, Option.bind_some, fl, un_not, Option.bind_some, asBool_bool, if_neg (by simp), m1, Option.bind_some, mu, fi, m2, Option.bind_some, mu, fi, if_pos (pa _), bin_lss, Option.bind_some, asBool_bool, if_neg (by simpa using n4), i2, i2, av]
  show (E 177 [tx9 y1 y2 y3 y4 y5 y6 y7 Y Z, tx9 y1 y2 y3 y4 y5 y6 y7 Y Z]).bind _ = _
  rw [he2, Option.bind_some, fl, un_not, Option.bind_some, asBool_bool, if_neg (by simp), Option.bind_some, asBool_bool, if_neg (by simp), i2, i2, m3, Option.bind_some, mu, fi, m4, Option.bind_some, mu, fi, if_pos (pa _), i2, i2]
  show (E 205 [tx9 y1 y2 y3 y4 y5 y6 y7 Y2 Z2, _]).bind _ = _
  rw [hh, Option.bind_some, fi, bin_lss, Option.bind_some, asBool_bool, if_neg (by simpa using n5), bin_neq, Option.bind_some, asBool_bool, if_neg (by simp), av, ht, Option.bind_some, vv, hw, Option.bind_some, him, Option.bind_some, part_tup, List.getElem?_cons_zero, Option.bind_some, part_tup, List.getElem?_cons_succ, List.getElem?_cons_zero, Option.bind_some, nt, sz, if_pos rfl, av, av, he2, Option.bind_some, un_not, Option.bind_some, asBool_bool, if_neg (by simp), eb, Option.bind_some, asBool_bool, if_neg (by simp), i2, i2]
  show (E 205 [tx9 y1 y2 y3 y4 y5 y6 y7 Y2 Z2, _]).bind _ = _
  rw [hh, Option.bind_some, fi, bin_lss, Option.bind_some, asBool_bool, if_neg (by simpa using n5), bin_neq, Option.bind_some, asBool_bool, if_neg (by simp)]
theorem law_TrackRead (h : G_f20 E) (us : List U) (hus : Fits.fits [shTransaction, shI, shVersion] us) : E 297 us = some (.bool true) := by
  obtain ⟨u0, us1, rfl, h0, hus1⟩ := fits_cons hus
  obtain ⟨u1, us2, rfl, h1, hus2⟩ := fits_cons hus1
  obtain ⟨u2, us3, rfl, h2, hus3⟩ := fits_cons hus2
  obtain rfl := fits_nil hus3
  obtain ⟨x, rfl, hf⟩ := fits_Transaction _ h0
  obtain ⟨k, rfl, _⟩ := fits_int h1
  obtain ⟨v, rfl, _⟩ := fits_Version _ h2
  have s1 := f32_is h.c_f32 x hf 1048576 (by omega) (by omega)
  rcases Transaction.sz_szs x 1048576 (by omega) (by omega) with n1 | ⟨ok, n1, n2⟩
  · rw [f20_E h]
    rw [show ∀ K : U → Option U, U.noTup x.u K = K x.u from fun _ => rfl, show ∀ K : U → Option U, U.noTup v.u K = K v.u from fun _ => rfl, Transaction.u_var, s1, Option.bind_some, bin_lss, Option.bind_some, asBool_bool, if_pos (by simpa using n1)]
  have n3 : ¬ x.sz 1048576 < 0 := by omega
  have ok' := track_ok ok k v
  have ht := f37_is h.c_f37 x ok
  have hF := f38_is h.c_f38 x ok
  have hw := f39_is h.c_f39 v
  have hsp := f48_is h.c_f48 x ok k v
  have him := f6_is h.c_f6 x ok k v
  have hif := f7_is h.c_f7 x ok k v
  have he1 := f23_is h.c_f23 x x ok ok
  have he2 := f23_is h.c_f23 (x.track k v).1 (x.track k v).1 ok' ok'
  have m1 := f29_is h.c_f29 x.reads ok.1 1 (by omega) (by omega)
  have m2 := f30_is h.c_f30 x.writes ok.2 (1 + 2 * x.reads.length) (by have := ok.1; omega) (by have := ok.1; omega)
  have m3 := f29_is h.c_f29 (x.track k v).1.reads ok'.1 1 (by omega) (by omega)
  have m4 := f30_is h.c_f30 (x.track k v).1.writes ok'.2 (1 + 2 * (x.track k v).1.reads.length) (by have := ok'.1; omega) (by have := ok'.1; omega)
  have hh := f27_is h.c_f27 (x.track k v).1 ok'
  have n4 : ¬ (1 + 2 * (x.reads.length : Int) + 2 * (x.writes.length : Int)) < 0 := by omega
  have n5 : ¬ (1 + 2 * ((x.track k v).1.reads.length : Int) + 2 * ((x.track k v).1.writes.length : Int)) < 0 := by omega
  rw [decide_eq_true rfl] at he1 he2
  generalize x.track k v = y at *
  obtain ⟨y, b⟩ := y
  exact track_core h n3 n4 n5 s1 ht hF hw hsp him hif he1 he2 m1 m2 m3 m4 hh
end Go.Proofs.Ytlgblpngiamhaaa.Am
