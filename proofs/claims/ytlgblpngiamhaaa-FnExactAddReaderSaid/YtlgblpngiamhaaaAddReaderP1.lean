import Derived.Test.YtlgblpngiamhaaaAddReaderP0
import Derived.Test.YtlgblpngiamhaaaAddReaderF0
import Derived.Test.YtlgblpngiamhaaaAmY
namespace Go.Proofs.Ytlgblpngiamhaaa.Am
open Go
variable {E : Env}
set_option linter.unusedVariables false
theorem f72_is (h : G_f72 E) (x : Write) : E 30 [x.u] = some x.u := by
  rw [f72_E h]
  simp [Write.u]
theorem f73_l0_is (h : G_f73 E) (l : List Write) (hl : l.length ≤ 1048576) : ∀ (r p : List Write) (i : Int) (c : List U), l = p ++ r → i = p.length → c.length = r.length → (∀ z ∈ c, z.size = 2) →
    f73_l0 E (.sl 2 (l.map Write.u)) (.int .i64 i) (p.map Write.u ++ c) = some (.sl 2 (l.map Write.u))
  | [], p, i, c, e, hi, hc, _ => by
    obtain rfl : c = [] := List.length_eq_zero_iff.1 hc
    rw [f73_l0_eq]
    simp [mid_end e hi]
    simp [e]
  | x :: r, p, i, [], e, hi, hc, _ => by cases hc
  | x :: r, p, i, z :: c, e, hi, hc, hz => by
    obtain ⟨h0, hlt, hx, hw, hn, _⟩ := mid_at e hi (by omega)
    have hzs : z.size = 2 := hz z (by simp)
    obtain ⟨hg, hs, hlen⟩ := mid_set Write.u p z c hi
    have ih := f73_l0_is h l hl r (p ++ [x]) (i + 1) c (mid_next e) hn (by simpa using hc) (fun y hy => hz y (by simp [hy]))
    simp only [List.map_append, List.map_cons, List.map_nil, List.append_assoc, List.cons_append, List.nil_append] at ih
    rw [f73_l0_eq]
    simp only [hg, hs, hx, hw, asInt_int, bin_lss, lenOf_sl, List.length_map, Option.bind_some, asBool_bool, hlt, decide_true, if_true, h0, hlen, and_self, bin_add, f72_is h.c_f72 x, hzs, Write.u_var, Write.u_size, Write.u_storable, Write.u_partable]
    simpa using ih
theorem f73_is (h : G_f73 E) (l : List Write) (hl : l.length ≤ 1048576) : E 27 [.sl 2 (l.map Write.u)] = some (.sl 2 (l.map Write.u)) := by
  have h1 := f73_l0_is h l hl l [] 0 (List.replicate l.length (.agg [.int .i64 0, .int .i64 0])) rfl rfl (by simp) (by simp)
  rw [f73_E h]
  simp only [lenOf_sl, Option.bind_some, List.length_map]
  rw [if_pos (by refine ⟨by omega, by omega, by omega, rfl⟩)]
  simpa using h1
theorem f53_is (h : G_f53 E) (x y : Write) : E 36 [x.u, y.u] = some (.bool (decide (x = y))) := by
  rw [f53_E h]
  obtain ⟨a0, a1⟩ := x
  obtain ⟨b0, b1⟩ := y
  simp only [Write.mk.injEq]
  by_cases h0 : a0 = b0
  case neg => simp [h0]
  subst h0
  by_cases h1 : a1 = b1
  case neg => simp [h1]
  subst h1
  simp []
theorem f54_l0_is (h : G_f54 E) (a b : List Write) (ha : a.length ≤ 1048576) (hb : b.length ≤ 1048576) : ∀ (r s p p2 : List Write) (i : Int), a = p ++ r → b = p2 ++ s → i = p.length → i = p2.length → r.length = s.length →
    f54_l0 E (.sl 2 (a.map Write.u)) (.sl 2 (b.map Write.u)) (.int .i64 i) = some (.bool (decide (r = s)))
  | [], [], p, p2, i, e, e2, hi, hi2, _ => by
    rw [f54_l0_eq]
    simp [mid_end e hi]
  | [], y :: s, _, _, _, _, _, _, _, hl => by cases hl
  | x :: r, [], _, _, _, _, _, _, _, hl => by cases hl
  | x :: r, y :: s, p, p2, i, e, e2, hi, hi2, hl => by
    obtain ⟨h0, hlt, hx, hw, hn, _⟩ := mid_at e hi (by omega)
    obtain ⟨_, _, hy, _, hn2, _⟩ := mid_at e2 hi2 (by omega)
    have ih := f54_l0_is h a b ha hb r s (p ++ [x]) (p2 ++ [y]) (i + 1) (mid_next e) (mid_next e2) hn hn2 (by simpa using hl)
    rw [f54_l0_eq]
    by_cases hxy : x = y
    · subst hxy
      simp [hlt, hx, hy, hw, ih, f53_is h.c_f53]
    · simp [hlt, hx, hy, hw, ih, f53_is h.c_f53, hxy]
theorem f54_is (h : G_f54 E) (a b : List Write) (ha : a.length ≤ 1048576) (hb : b.length ≤ 1048576) : E 33 [.sl 2 (a.map Write.u), .sl 2 (b.map Write.u)] = some (.bool (decide (a = b))) := by
  rw [f54_E h]
  by_cases hl : a.length = b.length
  · simp [hl, f54_l0_is h a b ha hb a b [] [] 0 rfl rfl rfl rfl hl]
  · have h1 : a ≠ b := fun e => hl (by rw [e])
    have h2 : (a.length : Int) ≠ b.length := by omega
    simp [h1, h2]
theorem f64_is (h : G_f64 E) (l : List Write) (hl : l.length ≤ maxLen) (left : Int) (h0 : 0 ≤ left) (h1 : left ≤ 1048576) : E 23 [.sl 2 (l.map Write.u), .int .i64 left] = some (.int .i64 (szc l.length left)) := by
  rw [f64_E h]
  unfold maxLen at hl
  have hw : IntKind.i64.wrap (left - (l.length : Int)) = left - l.length := wrap_in (by omega)
  by_cases h2 : left - (l.length : Int) < 0 <;> simp [hw, szc, h2]
theorem f49_is (h : G_f49 E) (x y : Entry) (hx : x.ok) (hy : y.ok) : E 56 [x.u, y.u] = some (.bool (decide (x = y))) := by
  rw [f49_E h]
  obtain ⟨a0, a1, a2, a3⟩ := x
  obtain ⟨b0, b1, b2, b3⟩ := y
  simp only [Entry.mk.injEq]
  by_cases h0 : a0 = b0
  case neg => simp [f52_is h.c_f52 a2 b2 hx.1 hy.1, f54_is h.c_f54 a3 b3 hx.2 hy.2, h0]
  subst h0
  by_cases h1 : a1 = b1
  case neg => simp [f52_is h.c_f52 a2 b2 hx.1 hy.1, f54_is h.c_f54 a3 b3 hx.2 hy.2, h1]
  subst h1
  by_cases h2 : a2 = b2
  case neg => simp [f52_is h.c_f52 a2 b2 hx.1 hy.1, f54_is h.c_f54 a3 b3 hx.2 hy.2, h2]
  subst h2
  by_cases h3 : a3 = b3
  case neg => simp [f52_is h.c_f52 a2 a2 hx.1 hy.1, f54_is h.c_f54 a3 b3 hx.2 hy.2, h3]
  subst h3
  simp [f52_is h.c_f52 a2 a2 hx.1 hy.1, f54_is h.c_f54 a3 a3 hx.2 hy.2]
def Entry.sz (e : Entry) (left : Int) : Int := let v := szc e.reads.length left; if v < 0 then -1 else szc e.writes.length v
theorem Entry.sz_szs : Szs Entry.sz Entry.ok := fun e left h0 h1 => by
  unfold Entry.sz Entry.ok
  rcases szc_szs e.reads.length left h0 h1 with h | ⟨h2, h3, h4⟩
  · left; simp [h]
  · have h5 : ¬ szc e.reads.length left < 0 := by omega
    rcases szc_szs e.writes.length _ h3 (by omega) with h | ⟨h6, h7, h8⟩
    · left; simp [h5, h]
    · right; simp only [h5, if_false]; exact ⟨⟨h2, h6⟩, h7, by omega⟩
theorem f61_is (h : G_f61 E) (x : Entry) (hf : x.fit) (left : Int) (h0 : 0 ≤ left) (h1 : left ≤ 1048576) : E 50 [x.u, .int .i64 left] = some (.int .i64 (x.sz left)) := by
  rw [f61_E h]
  obtain ⟨hf1, hf2⟩ := hf
  have a1 := f63_is h.c_f63 x.reads hf1 left h0 h1
  rcases szc_szs x.reads.length left h0 h1 with h2 | ⟨_, h3, h4⟩
  · simp [a1, Entry.sz, h2]
  · have h5 : ¬ szc x.reads.length left < 0 := by omega
    have a2 := f64_is h.c_f64 x.writes hf2 _ h3 (by omega)
    by_cases h6 : szc x.writes.length (szc x.reads.length left) < 0
    · have h7 : szc x.writes.length (szc x.reads.length left) = -1 := szc_neg h6
      simp [a1, a2, Entry.sz, h5, h7]
    · simp [a1, a2, Entry.sz, h5, h6]
theorem f65_is (h : G_f65 E) (x : Entry) (ho : x.ok) : E 51 [x.u] = some x.u := by
  rw [f65_E h]
  simp [Entry.u, f70_is h.c_f70 x.reads ho.1, f73_is h.c_f73 x.writes ho.2]
theorem f66_l0_is (h : G_f66 E) (l : List Entry) (hl : l.length ≤ 1048576) (hok : ∀ x ∈ l, Entry.ok x) : ∀ (r p : List Entry) (i : Int) (c : List U), l = p ++ r → i = p.length → c.length = r.length → (∀ z ∈ c, z.size = 4) →
    f66_l0 E (.sl 4 (l.map Entry.u)) (.int .i64 i) (p.map Entry.u ++ c) = some (.sl 4 (l.map Entry.u))
  | [], p, i, c, e, hi, hc, _ => by
    obtain rfl : c = [] := List.length_eq_zero_iff.1 hc
    rw [f66_l0_eq]
    simp [mid_end e hi]
    simp [e]
  | x :: r, p, i, [], e, hi, hc, _ => by cases hc
  | x :: r, p, i, z :: c, e, hi, hc, hz => by
    obtain ⟨h0, hlt, hx, hw, hn, _⟩ := mid_at e hi (by omega)
    have hox : Entry.ok x := hok x (by rw [e]; simp)
    have hzs : z.size = 4 := hz z (by simp)
    obtain ⟨hg, hs, hlen⟩ := mid_set Entry.u p z c hi
    have ih := f66_l0_is h l hl hok r (p ++ [x]) (i + 1) c (mid_next e) hn (by simpa using hc) (fun y hy => hz y (by simp [hy]))
    simp only [List.map_append, List.map_cons, List.map_nil, List.append_assoc, List.cons_append, List.nil_append] at ih
    rw [f66_l0_eq]
    simp only [hg, hs, hx, hw, asInt_int, bin_lss, lenOf_sl, List.length_map, Option.bind_some, asBool_bool, hlt, decide_true, if_true, h0, hlen, and_self, bin_add, f65_is h.c_f65 x hox, hzs, Entry.u_var, Entry.u_size, Entry.u_storable, Entry.u_partable]
    simpa using ih
theorem f66_is (h : G_f66 E) (l : List Entry) (hl : l.length ≤ 1048576) (hok : ∀ x ∈ l, Entry.ok x) : E 45 [.sl 4 (l.map Entry.u)] = some (.sl 4 (l.map Entry.u)) := by
  have h1 := f66_l0_is h l hl hok l [] 0 (List.replicate l.length (.agg [.int .i64 0, .int .i64 0, .nsl 2, .nsl 2])) rfl rfl (by simp) (by simp)
  rw [f66_E h]
  simp only [lenOf_sl, Option.bind_some, List.length_map]
  rw [if_pos (by refine ⟨by omega, by omega, by omega, rfl⟩)]
  simpa using h1
theorem f50_l0_is (h : G_f50 E) (a b : List Entry) (ha : a.length ≤ 1048576) (hb : b.length ≤ 1048576) (hao : ∀ x ∈ a, Entry.ok x) (hbo : ∀ x ∈ b, Entry.ok x) : ∀ (r s p p2 : List Entry) (i : Int), a = p ++ r → b = p2 ++ s → i = p.length → i = p2.length → r.length = s.length →
    f50_l0 E (.sl 4 (a.map Entry.u)) (.sl 4 (b.map Entry.u)) (.int .i64 i) = some (.bool (decide (r = s)))
  | [], [], p, p2, i, e, e2, hi, hi2, _ => by
    rw [f50_l0_eq]
    simp [mid_end e hi]
  | [], y :: s, _, _, _, _, _, _, _, hl => by cases hl
  | x :: r, [], _, _, _, _, _, _, _, hl => by cases hl
  | x :: r, y :: s, p, p2, i, e, e2, hi, hi2, hl => by
    obtain ⟨h0, hlt, hx, hw, hn, _⟩ := mid_at e hi (by omega)
    obtain ⟨_, _, hy, _, hn2, _⟩ := mid_at e2 hi2 (by omega)
    have hox : Entry.ok x := hao x (by rw [e]; simp)
    have hoy : Entry.ok y := hbo y (by rw [e2]; simp)
    have ih := f50_l0_is h a b ha hb hao hbo r s (p ++ [x]) (p2 ++ [y]) (i + 1) (mid_next e) (mid_next e2) hn hn2 (by simpa using hl)
    rw [f50_l0_eq]
    by_cases hxy : x = y
    · subst hxy
      simp [hlt, hx, hy, hw, ih, f49_is h.c_f49 _ _ hox hoy]
    · simp [hlt, hx, hy, hw, ih, f49_is h.c_f49 _ _ hox hoy, hxy]
theorem f50_is (h : G_f50 E) (a b : List Entry) (ha : a.length ≤ 1048576) (hb : b.length ≤ 1048576) (hao : ∀ x ∈ a, Entry.ok x) (hbo : ∀ x ∈ b, Entry.ok x) : E 46 [.sl 4 (a.map Entry.u), .sl 4 (b.map Entry.u)] = some (.bool (decide (a = b))) := by
  rw [f50_E h]
  by_cases hl : a.length = b.length
  · simp [hl, f50_l0_is h a b ha hb hao hbo a b [] [] 0 rfl rfl rfl rfl hl]
  · have h1 : a ≠ b := fun e => hl (by rw [e])
    have h2 : (a.length : Int) ≠ b.length := by omega
    simp [h1, h2]
theorem f62_l0_is (h : G_f62 E) (l : List Entry) (hl : l.length ≤ 1048576) (hf : ∀ x ∈ l, Entry.fit x) : ∀ (r p : List Entry) (i left : Int), l = p ++ r → i = p.length → 0 ≤ left → left ≤ 1048576 →
    f62_l0 E (.sl 4 (l.map Entry.u)) (.int .i64 left) (.int .i64 i) = some (.int .i64 (szl Entry.sz r left))
  | [], p, i, left, e, hi, _, _ => by
    rw [f62_l0_eq]
    simp [mid_end e hi, szl]
  | x :: r, p, i, left, e, hi, h1, h2 => by
    obtain ⟨h0, hlt, hx, hw, hn, _⟩ := mid_at e hi (by omega)
    have hfx : Entry.fit x := hf x (by rw [e]; simp)
    rw [f62_l0_eq]
    rcases Entry.sz_szs x left h1 h2 with h3 | ⟨_, h3, h4⟩
    · simp [hlt, hx, hw, szl, f61_is h.c_f61 x hfx left h1 h2, h3]
    · have ih := f62_l0_is h l hl hf r (p ++ [x]) (i + 1) (Entry.sz x left) (mid_next e) hn h3 (by omega)
      have h5 : ¬ Entry.sz x left < 0 := by omega
      simp [hlt, hx, hw, szl, f61_is h.c_f61 x hfx left h1 h2, h5, ih]
theorem f62_is (h : G_f62 E) (l : List Entry) (hl : l.length ≤ maxLen) (hf : ∀ x ∈ l, Entry.fit x) (left : Int) (h0 : 0 ≤ left) (h1 : left ≤ 1048576) : E 49 [.sl 4 (l.map Entry.u), .int .i64 left] = some (.int .i64 (szL Entry.sz l left)) := by
  rw [f62_E h]
  unfold maxLen at hl
  have hw : IntKind.i64.wrap (left - (l.length : Int)) = left - l.length := wrap_in (by omega)
  by_cases h2 : left - (l.length : Int) < 0
  · simp [hw, szL, h2]
  · simp [hw, szL, h2, f62_l0_is h l (by omega) hf l [] 0 (left - l.length) rfl rfl (by omega) (by omega)]
def upReadMark : Int → Nat → List ReadMark
  | _, 0 => []
  | k, n + 1 => ⟨k, k + 1⟩ :: upReadMark (k + 2) n
theorem upReadMark_length : ∀ (n : Nat) (k : Int), (upReadMark k n).length = n
  | 0, _ => rfl
  | n + 1, k => by simp [upReadMark, upReadMark_length n]
theorem flats_ReadMark (l : List ReadMark) : U.flat.flats (l.map ReadMark.u) = true := flats_map _ (fun _ => rfl) l
theorem f59_l0_is (h : G_f59 E) : ∀ (r p : List ReadMark) (k i : Int), i = p.length → p.length + r.length ≤ 1048576 → 0 ≤ k → k + 2 * r.length ≤ 1099511627776 →
    f59_l0 E (.int .i64 k) (.int .i64 i) (p.map ReadMark.u ++ r.map ReadMark.u) = some (.tup [.int .i64 (k + 2 * r.length), .sl 2 (p.map ReadMark.u ++ (upReadMark k r.length).map ReadMark.u)])
  | [], p, k, i, hi, hb, hk, hk2 => by
    have h1 : ¬ i < ((p.map ReadMark.u ++ ([] : List ReadMark).map ReadMark.u).length : Int) := by simp [hi]
    rw [f59_l0_eq]
    simp only [bin_lss, h1, decide_false, Option.bind_some, asBool_bool, Bool.false_eq_true, if_false]
    rw [← List.map_append]
    simp [upReadMark, flats_ReadMark]
  | x :: r, p, k, i, hi, hb, hk, hk2 => by
    simp only [List.length_cons] at hb hk2
    have hm := fun z => mid_set ReadMark.u p z (r.map ReadMark.u) hi
    have hg := fun z => (hm z).1
    have hs := fun z => (hm z).2.1
    have hlen := fun z => (hm z).2.2
    have h0 : 0 ≤ i := by omega
    have hw0 : IntKind.i64.wrap (k + 1) = k + 1 := by rw [wrap_in (by omega)]
    have hw1 : IntKind.i64.wrap (k + 1 + 1) = k + 2 := by rw [wrap_in (by omega)]; omega
    have hwi : IntKind.i64.wrap (i + 1) = i + 1 := wrap_in (by omega)
    have ih := f59_l0_is h r (p ++ [⟨k, k + 1⟩]) (k + 2) (i + 1) (by simp [hi]) (by simp; omega) (by omega) (by omega)
    simp only [List.map_append, List.map_cons, List.map_nil, List.append_assoc, List.cons_append, List.nil_append] at ih
    rw [f59_l0_eq]
    simp only [List.map_cons, bin_lss, hlen, decide_true, Option.bind_some, asBool_bool, if_true, asInt_int, h0, and_self, storable_int, size_int, flat_int, hg, hs, ReadMark.u_agg, asAgg_agg, List.take_zero, List.take_succ_cons, sizes_cons, sizes_nil, Nat.add_zero, Nat.zero_add, List.getElem?_cons_zero, List.getElem?_cons_succ, List.set_cons_zero, List.set_cons_succ, bin_add, hw0, hw1, hwi, Nat.reduceAdd]
    have e : k + 2 + 2 * (r.length : Int) = k + 2 * ((r.length + 1 : Nat) : Int) := by omega
    rw [e] at ih
    simpa [upReadMark, ReadMark.u] using ih
theorem f59_is (h : G_f59 E) (l : List ReadMark) (hl : l.length ≤ 1048576) (k : Int) (hk : 0 ≤ k) (hk2 : k ≤ 1073741824) :
    E 200095 (.agg [.tup [.sl 2 (l.map ReadMark.u)]] :: [.int .i64 k]) = some (.tup [.int .i64 (k + 2 * l.length), .sl 2 ((upReadMark k l.length).map ReadMark.u)]) := by
  rw [f59_E h]
  exact f59_l0_is h l [] k 0 rfl (by simpa using hl) hk (by omega)
theorem f56_l0_is (h : G_f56 E) (l : List ReadMark) (hl : l.length ≤ 1048576) : ∀ (n : Nat) (p : List ReadMark) (k i : Int), l = p ++ upReadMark k n → i = p.length → 0 ≤ k → k + 2 * n ≤ 1099511627776 →
    f56_l0 E (.sl 2 (l.map ReadMark.u)) (.int .i64 k) (.int .i64 i) = some (.int .i64 (k + 2 * n))
  | 0, p, k, i, e, hi, hk, hk2 => by
    rw [f56_l0_eq]
    simp [mid_end e hi]
  | n + 1, p, k, i, e0, hi, hk, hk2 => by
    have e : l = p ++ (⟨k, k + 1⟩ : ReadMark) :: upReadMark (k + 2) n := e0
    obtain ⟨h0, hlt, hx, hw, hn, _⟩ := mid_at e hi (by omega)
    have hw0 : IntKind.i64.wrap (k + 1) = k + 1 := by rw [wrap_in (by omega)]
    have hw1 : IntKind.i64.wrap (k + 1 + 1) = k + 2 := by rw [wrap_in (by omega)]; omega
    have ih := f56_l0_is h l hl n (p ++ [⟨k, k + 1⟩]) (k + 2) (i + 1) (mid_next e) hn (by omega) (by omega)
    have e2 : k + 2 + 2 * (n : Int) = k + 2 * ((n + 1 : Nat) : Int) := by omega
    rw [e2] at ih
    rw [f56_l0_eq]
    simp only [lenOf_sl, List.length_map, Option.bind_some, bin_lss, hlt, decide_true, asBool_bool, if_true, asInt_int, hx, ReadMark.u_at0, ReadMark.u_at1, asVar_int, bin_neq, ne_eq, not_true_eq_false, decide_false, Bool.false_eq_true, if_false, bin_add, hw, hw0, hw1]
    exact ih
theorem f56_is (h : G_f56 E) (n : Nat) (hn : n ≤ 1048576) (k : Int) (hk : 0 ≤ k) (hk2 : k ≤ 16777216) : E 92 [.sl 2 ((upReadMark k n).map ReadMark.u), .int .i64 k] = some (.int .i64 (k + 2 * n)) := by
  rw [f56_E h]
  exact f56_l0_is h _ (by rw [upReadMark_length]; exact hn) n [] k 0 rfl rfl hk (by omega)
def upWrite : Int → Nat → List Write
  | _, 0 => []
  | k, n + 1 => ⟨k, k + 1⟩ :: upWrite (k + 2) n
theorem upWrite_length : ∀ (n : Nat) (k : Int), (upWrite k n).length = n
  | 0, _ => rfl
  | n + 1, k => by simp [upWrite, upWrite_length n]
theorem flats_Write (l : List Write) : U.flat.flats (l.map Write.u) = true := flats_map _ (fun _ => rfl) l
theorem f60_l0_is (h : G_f60 E) : ∀ (r p : List Write) (k i : Int), i = p.length → p.length + r.length ≤ 1048576 → 0 ≤ k → k + 2 * r.length ≤ 1099511627776 →
    f60_l0 E (.int .i64 k) (.int .i64 i) (p.map Write.u ++ r.map Write.u) = some (.tup [.int .i64 (k + 2 * r.length), .sl 2 (p.map Write.u ++ (upWrite k r.length).map Write.u)])
  | [], p, k, i, hi, hb, hk, hk2 => by
    have h1 : ¬ i < ((p.map Write.u ++ ([] : List Write).map Write.u).length : Int) := by simp [hi]
    rw [f60_l0_eq]
    simp only [bin_lss, h1, decide_false, Option.bind_some, asBool_bool, Bool.false_eq_true, if_false]
    rw [← List.map_append]
    simp [upWrite, flats_Write]
  | x :: r, p, k, i, hi, hb, hk, hk2 => by
    simp only [List.length_cons] at hb hk2
    have hm := fun z => mid_set Write.u p z (r.map Write.u) hi
    have hg := fun z => (hm z).1
    have hs := fun z => (hm z).2.1
    have hlen := fun z => (hm z).2.2
    have h0 : 0 ≤ i := by omega
    have hw0 : IntKind.i64.wrap (k + 1) = k + 1 := by rw [wrap_in (by omega)]
    have hw1 : IntKind.i64.wrap (k + 1 + 1) = k + 2 := by rw [wrap_in (by omega)]; omega
    have hwi : IntKind.i64.wrap (i + 1) = i + 1 := wrap_in (by omega)
    have ih := f60_l0_is h r (p ++ [⟨k, k + 1⟩]) (k + 2) (i + 1) (by simp [hi]) (by simp; omega) (by omega) (by omega)
    simp only [List.map_append, List.map_cons, List.map_nil, List.append_assoc, List.cons_append, List.nil_append] at ih
    rw [f60_l0_eq]
    simp only [List.map_cons, bin_lss, hlen, decide_true, Option.bind_some, asBool_bool, if_true, asInt_int, h0, and_self, storable_int, size_int, flat_int, hg, hs, Write.u_agg, asAgg_agg, List.take_zero, List.take_succ_cons, sizes_cons, sizes_nil, Nat.add_zero, Nat.zero_add, List.getElem?_cons_zero, List.getElem?_cons_succ, List.set_cons_zero, List.set_cons_succ, bin_add, hw0, hw1, hwi, Nat.reduceAdd]
    have e : k + 2 + 2 * (r.length : Int) = k + 2 * ((r.length + 1 : Nat) : Int) := by omega
    rw [e] at ih
    simpa [upWrite, Write.u] using ih
theorem f60_is (h : G_f60 E) (l : List Write) (hl : l.length ≤ 1048576) (k : Int) (hk : 0 ≤ k) (hk2 : k ≤ 1073741824) :
    E 200232 (.agg [.tup [.sl 2 (l.map Write.u)]] :: [.int .i64 k]) = some (.tup [.int .i64 (k + 2 * l.length), .sl 2 ((upWrite k l.length).map Write.u)]) := by
  rw [f60_E h]
  exact f60_l0_is h l [] k 0 rfl (by simpa using hl) hk (by omega)
theorem f71_l0_is (h : G_f71 E) (l : List ReadMark) (hl : l.length ≤ 1048576) : ∀ (r p : List ReadMark) (i : Int) (c : List U), l = p ++ r → i = p.length → c.length = r.length → (∀ z ∈ c, z.size = 2) →
    f71_l0 E (.sl 2 (l.map ReadMark.u)) (.int .i64 i) (p.map ReadMark.u ++ c) = some (.sl 2 (l.map ReadMark.u))
  | [], p, i, c, e, hi, hc, _ => by
    obtain rfl : c = [] := List.length_eq_zero_iff.1 hc
    rw [f71_l0_eq]
    simp [mid_end e hi]
    simp [e, flats_ReadMark, ← List.map_append, ← List.map_cons]
  | x :: r, p, i, [], e, hi, hc, _ => by cases hc
  | x :: r, p, i, z :: c, e, hi, hc, hz => by
    obtain ⟨h0, hlt, hx, hw, hn, _⟩ := mid_at e hi (by omega)
    have hzs : z.size = 2 := hz z (by simp)
    obtain ⟨hg, hs, hlen⟩ := mid_set ReadMark.u p z c hi
    have ih := f71_l0_is h l hl r (p ++ [x]) (i + 1) c (mid_next e) hn (by simpa using hc) (fun y hy => hz y (by simp [hy]))
    simp only [List.map_append, List.map_cons, List.map_nil, List.append_assoc, List.cons_append, List.nil_append] at ih
    rw [f71_l0_eq]
    simp only [hg, hs, hx, hw, asInt_int, bin_lss, lenOf_sl, List.length_map, Option.bind_some, asBool_bool, hlt, decide_true, if_true, h0, hlen, and_self, bin_add, f69_is h.c_f69 x, hzs, ReadMark.u_var, ReadMark.u_size, ReadMark.u_storable, ReadMark.u_partable]
    simpa using ih
theorem f71_is (h : G_f71 E) (l : List ReadMark) (hl : l.length ≤ 1048576) : E 100028 [.sl 2 (l.map ReadMark.u)] = some (.sl 2 (l.map ReadMark.u)) := by
  have h1 := f71_l0_is h l hl l [] 0 (List.replicate l.length (.agg [.int .i64 0, .int .i64 0])) rfl rfl (by simp) (by simp)
  rw [f71_E h]
  simp only [lenOf_sl, Option.bind_some, List.length_map]
  rw [if_pos (by refine ⟨by omega, by omega, by omega, rfl⟩)]
  simpa using h1
theorem f74_l0_is (h : G_f74 E) (l : List Write) (hl : l.length ≤ 1048576) : ∀ (r p : List Write) (i : Int) (c : List U), l = p ++ r → i = p.length → c.length = r.length → (∀ z ∈ c, z.size = 2) →
    f74_l0 E (.sl 2 (l.map Write.u)) (.int .i64 i) (p.map Write.u ++ c) = some (.sl 2 (l.map Write.u))
  | [], p, i, c, e, hi, hc, _ => by
    obtain rfl : c = [] := List.length_eq_zero_iff.1 hc
    rw [f74_l0_eq]
    simp [mid_end e hi]
    simp [e, flats_Write, ← List.map_append, ← List.map_cons]
  | x :: r, p, i, [], e, hi, hc, _ => by cases hc
  | x :: r, p, i, z :: c, e, hi, hc, hz => by
    obtain ⟨h0, hlt, hx, hw, hn, _⟩ := mid_at e hi (by omega)
    have hzs : z.size = 2 := hz z (by simp)
    obtain ⟨hg, hs, hlen⟩ := mid_set Write.u p z c hi
    have ih := f74_l0_is h l hl r (p ++ [x]) (i + 1) c (mid_next e) hn (by simpa using hc) (fun y hy => hz y (by simp [hy]))
    simp only [List.map_append, List.map_cons, List.map_nil, List.append_assoc, List.cons_append, List.nil_append] at ih
    rw [f74_l0_eq]
    simp only [hg, hs, hx, hw, asInt_int, bin_lss, lenOf_sl, List.length_map, Option.bind_some, asBool_bool, hlt, decide_true, if_true, h0, hlen, and_self, bin_add, f72_is h.c_f72 x, hzs, Write.u_var, Write.u_size, Write.u_storable, Write.u_partable]
    simpa using ih
theorem f74_is (h : G_f74 E) (l : List Write) (hl : l.length ≤ 1048576) : E 100027 [.sl 2 (l.map Write.u)] = some (.sl 2 (l.map Write.u)) := by
  have h1 := f74_l0_is h l hl l [] 0 (List.replicate l.length (.agg [.int .i64 0, .int .i64 0])) rfl rfl (by simp) (by simp)
  rw [f74_E h]
  simp only [lenOf_sl, Option.bind_some, List.length_map]
  rw [if_pos (by refine ⟨by omega, by omega, by omega, rfl⟩)]
  simpa using h1
theorem f68_is (h : G_f68 E) (x : Entry) (ho : x.ok) : E 100051 [x.u] = some x.u := by
  rw [f68_E h]
  have h1 := f71_is h.c_f71 x.reads ho.1
  have h2 := f74_is h.c_f74 x.writes ho.2
  have h3 : ∀ (k : Nat) (us : List U) (K : U → Option U), U.noTup (.sl k us) K = K (.sl k us) := fun _ _ _ => rfl
  have h4 : ∀ (n : Int) (K : U → Option U), U.noTup (.int .i64 n) K = K (.int .i64 n) := fun _ _ => rfl
  simp [h1, h2, U.asSlK, h3, h4, D.size, dsizes, D.size.dsizes]
  rfl
theorem f67_l0_is (h : G_f67 E) (l : List Entry) (hl : l.length ≤ 1048576) (hok : ∀ x ∈ l, Entry.ok x) : ∀ (r p : List Entry) (i : Int) (c : List U), l = p ++ r → i = p.length → c.length = r.length → (∀ z ∈ c, z.size = 4) →
    f67_l0 E (.sl 4 (l.map Entry.u)) (.int .i64 i) (p.map Entry.u ++ c) = some (.sl 4 (l.map Entry.u))
  | [], p, i, c, e, hi, hc, _ => by
    obtain rfl : c = [] := List.length_eq_zero_iff.1 hc
    rw [f67_l0_eq]
    simp [mid_end e hi]
    simp [e]
  | x :: r, p, i, [], e, hi, hc, _ => by cases hc
  | x :: r, p, i, z :: c, e, hi, hc, hz => by
    obtain ⟨h0, hlt, hx, hw, hn, _⟩ := mid_at e hi (by omega)
    have hox : x.ok := hok x (by rw [e]; simp)
    have hzs : z.size = 4 := hz z (by simp)
    obtain ⟨hg, hs, hlen⟩ := mid_set Entry.u p z c hi
    have ih := f67_l0_is h l hl hok r (p ++ [x]) (i + 1) c (mid_next e) hn (by simpa using hc) (fun y hy => hz y (by simp [hy]))
    simp only [List.map_append, List.map_cons, List.map_nil, List.append_assoc, List.cons_append, List.nil_append] at ih
    have hF := f68_is h.c_f68 x hox
    have h3 : ∀ (k : Nat) (us : List U) (K : U → Option U), U.noTup (.sl k us) K = K (.sl k us) := fun _ _ _ => rfl
    have h4 : ∀ (n : Int) (K : U → Option U), U.noTup (.int .i64 n) K = K (.int .i64 n) := fun _ _ => rfl
    have hu : U.agg [.int .i64 x.id, .int .i64 x.stamp, .sl 2 (x.reads.map ReadMark.u), .sl 2 (x.writes.map Write.u)] = x.u := rfl
    rw [f67_l0_eq]
    simp only [hx, hw, asInt_int, bin_lss, lenOf_sl, List.length_map, Option.bind_some, asBool_bool, hlt, decide_true, if_true, h0, hlen, and_self, bin_add, Entry.u_var, hF, Entry.u_noTup, Entry.u_agg, asVar_int, flat_int, U.asSlK, h4]
    simp only [dsizes_cons, dsizes_nil, D.size, size_int, Nat.reduceAdd, if_true, hu, Entry.u_size, hg, hs, hzs, Option.bind_some]
    simpa using ih
theorem f67_is (h : G_f67 E) (l : List Entry) (hl : l.length ≤ 1048576) (hok : ∀ x ∈ l, Entry.ok x) : E 100045 [.sl 4 (l.map Entry.u)] = some (.sl 4 (l.map Entry.u)) := by
  have h1 := f67_l0_is h l hl hok l [] 0 (List.replicate l.length (.agg [.int .i64 0, .int .i64 0, .nsl 2, .nsl 2])) rfl rfl (by simp) (by simp)
  rw [f67_E h]
  simp only [lenOf_sl, Option.bind_some, List.length_map]
  rw [if_pos (by refine ⟨by omega, by omega, by omega, rfl⟩)]
  have hfl : ∀ n : Nat, U.flat.flats (List.replicate n (.agg [.int .i64 0, .int .i64 0, .nsl 2, .nsl 2])) = true := by
    intro n
    induction n with
    | zero => rfl
    | succ n ih => simp [List.replicate_succ, U.flat.flats, U.flat, ih]
  simpa [hfl] using h1
def entInts : List Entry → Int
  | [] => 0
  | x :: r => 2 + 2 * x.reads.length + 2 * x.writes.length + entInts r
theorem entInts_nonneg : ∀ l, 0 ≤ entInts l
  | [] => by simp [entInts]
  | x :: r => by have := entInts_nonneg r; simp only [entInts]; omega
theorem f57_l0_is (h : G_f57 E) (l : List Write) (hl : l.length ≤ 1048576) : ∀ (n : Nat) (p : List Write) (k i : Int), l = p ++ upWrite k n → i = p.length → 0 ≤ k → k + 2 * n ≤ 1099511627776 →
    f57_l0 E (.sl 2 (l.map Write.u)) (.int .i64 k) (.int .i64 i) = some (.int .i64 (k + 2 * n))
  | 0, p, k, i, e, hi, hk, hk2 => by
    rw [f57_l0_eq]
    simp [mid_end e hi]
  | n + 1, p, k, i, e0, hi, hk, hk2 => by
    have e : l = p ++ (⟨k, k + 1⟩ : Write) :: upWrite (k + 2) n := e0
    obtain ⟨h0, hlt, hx, hw, hn, _⟩ := mid_at e hi (by omega)
    have hw0 : IntKind.i64.wrap (k + 1) = k + 1 := by rw [wrap_in (by omega)]
    have hw1 : IntKind.i64.wrap (k + 1 + 1) = k + 2 := by rw [wrap_in (by omega)]; omega
    have ih := f57_l0_is h l hl n (p ++ [⟨k, k + 1⟩]) (k + 2) (i + 1) (mid_next e) hn (by omega) (by omega)
    have e2 : k + 2 + 2 * (n : Int) = k + 2 * ((n + 1 : Nat) : Int) := by omega
    rw [e2] at ih
    rw [f57_l0_eq]
    simp only [lenOf_sl, List.length_map, Option.bind_some, bin_lss, hlt, decide_true, asBool_bool, if_true, asInt_int, hx, Write.u_at0, Write.u_at1, asVar_int, bin_neq, ne_eq, not_true_eq_false, decide_false, Bool.false_eq_true, if_false, bin_add, hw, hw0, hw1]
    exact ih
theorem f57_is (h : G_f57 E) (n : Nat) (hn : n ≤ 1048576) (k : Int) (hk : 0 ≤ k) (hk2 : k ≤ 16777216) : E 235 [.sl 2 ((upWrite k n).map Write.u), .int .i64 k] = some (.int .i64 (k + 2 * n)) := by
  rw [f57_E h]
  exact f57_l0_is h _ (by rw [upWrite_length]; exact hn) n [] k 0 rfl rfl hk (by omega)
def upEnts : Int → List Entry → List Entry
  | _, [] => []
  | k, x :: r => ⟨k, k + 1, upReadMark (k + 2) x.reads.length, upWrite (k + 2 + 2 * x.reads.length) x.writes.length⟩ :: upEnts (k + 2 + 2 * x.reads.length + 2 * x.writes.length) r
theorem upEnts_len : ∀ (l : List Entry) (k : Int), (upEnts k l).length = l.length
  | [], _ => rfl
  | x :: r, k => by simp [upEnts, upEnts_len r]
theorem f58_l0_up (h : G_f58 E) : ∀ (r : List Entry) (p : List U) (k i : Int), i = p.length → p.length + r.length ≤ 1048576 → (∀ x ∈ r, x.ok) → 0 ≤ k → k + entInts r ≤ 1073741824 →
    f58_l0 E (.int .i64 k) (.int .i64 i) (p ++ r.map Entry.u) = some (.tup [.int .i64 (k + entInts r), .sl 4 (p ++ (upEnts k r).map Entry.u)])
  | [], p, k, i, hi, hb, hr, hk, hk2 => by
    simp only [entInts] at hk2
    have h1 : ¬ i < (p.length : Int) := by omega
    rw [f58_l0_eq]
    simp [h1, upEnts, entInts]
  | x :: r, p, k, i, hi, hb, hr, hk, hk2 => by
    simp only [List.length_cons, entInts] at hb hk2
    have hs := entInts_nonneg r
    have hx : x.ok := hr x (by simp)
    have hm1 := f59_is h.c_f59 x.reads hx.1 (k + 2) (by omega) (by omega)
    have hm2 := f60_is h.c_f60 x.writes hx.2 (k + 2 + 2 * x.reads.length) (by omega) (by omega)
    have h1 := f58_l0_up h r (p ++ [.agg [.int .i64 k, .int .i64 (k + 1), .sl 2 ((upReadMark (k + 2) x.reads.length).map ReadMark.u), .sl 2 ((upWrite (k + 2 + 2 * x.reads.length) x.writes.length).map Write.u)]]) (k + 2 + 2 * x.reads.length + 2 * x.writes.length) (i + 1) (by simp [hi]) (by simp; omega) (fun y hy => hr y (by simp [hy])) (by omega) (by omega)
    have hn : i.toNat = p.length := by omega
    have hlt : ∀ z : U, i < ((p ++ z :: r.map Entry.u).length : Int) := fun z => by simp; omega
    have h0 : 0 ≤ i := by omega
    have hw : IntKind.i64.wrap (i + 1) = i + 1 := wrap_in (by omega)
    have hw1 : IntKind.i64.wrap (k + 1) = k + 1 := wrap_in (by omega)
    have hw2 : IntKind.i64.wrap (k + 1 + 1) = k + 2 := by rw [wrap_in (by omega)]; omega
    have hg : ∀ z : U, (p ++ z :: r.map Entry.u)[p.length]? = some z := fun z => by simp
    have hset : ∀ y z : U, (p ++ y :: r.map Entry.u).set p.length z = p ++ z :: r.map Entry.u := fun y z => by simp
    rw [f58_l0_eq]
    simp only [List.append_assoc, List.cons_append, List.nil_append] at h1
    simp only [List.map_cons, bin_lss, hlt, decide_true, Option.bind_some, asBool_bool, if_true, asInt_int, h0, and_self, hn, hg, hset, Entry.u_agg, asAgg_agg, List.take_zero, List.take_succ_cons, sizes_cons, sizes_nil, size_int, U.size, Nat.add_zero, Nat.zero_add, Nat.reduceAdd, List.getElem?_cons_zero, List.getElem?_cons_succ, List.set_cons_zero, List.set_cons_succ, storable_int, flat_int, bin_add, hw, hw1, hw2, U.asSlK, hm1, hm2, U.asMut, U.asFlat, U.flat, partable_int]
    simp only [entInts, upEnts, List.map_cons]
    rw [show k + (2 + 2 * (x.reads.length : Int) + 2 * (x.writes.length : Int) + entInts r) = k + 2 + 2 * x.reads.length + 2 * x.writes.length + entInts r by omega]
    exact h1
theorem f58_up (h : G_f58 E) (l : List Entry) (hl : l.length ≤ 1048576) (ho : ∀ x ∈ l, x.ok) (k : Int) (hk : 0 ≤ k) (hk2 : k + entInts l ≤ 1073741824) :
    E 200287 (.agg [.tup [.sl 4 (l.map Entry.u)]] :: [.int .i64 k]) = some (.tup [.int .i64 (k + entInts l), .sl 4 ((upEnts k l).map Entry.u)]) := by
  rw [f58_E h]
  simpa using f58_l0_up h l [] k 0 rfl (by simpa using hl) ho hk hk2
theorem f55_l0_is (h : G_f55 E) (L : List Entry) (hL : L.length ≤ 1048576) : ∀ (r : List Entry) (p : List Entry) (k i : Int), L = p ++ upEnts k r → i = p.length → (∀ x ∈ r, x.ok) → 0 ≤ k → k + entInts r ≤ 16000000 →
    f55_l0 E (.sl 4 (L.map Entry.u)) (.int .i64 k) (.int .i64 i) = some (.int .i64 (k + entInts r))
  | [], p, k, i, e, hi, ho, hk, hk2 => by
    rw [f55_l0_eq]
    have he : L = p ++ [] := by simpa [upEnts] using e
    simp [mid_end he hi, entInts]
  | x :: r, p, k, i, e, hi, ho, hk, hk2 => by
    simp only [upEnts] at e
    simp only [entInts] at hk2
    have hs := entInts_nonneg r
    have hx := ho x (by simp)
    obtain ⟨h0, hlt, hel, hw, hn, _⟩ := mid_at e hi (by omega)
    have h1 := f56_is h.c_f56 x.reads.length hx.1 (k + 2) (by omega) (by omega)
    have h2 := f57_is h.c_f57 x.writes.length hx.2 (k + 2 + 2 * x.reads.length) (by omega) (by omega)
    have ih := f55_l0_is h L hL r _ (k + 2 + 2 * x.reads.length + 2 * x.writes.length) (i + 1) (mid_next e) hn (fun y hy => ho y (by simp [hy])) (by omega) (by omega)
    have hw1 : IntKind.i64.wrap (k + 1) = k + 1 := wrap_in (by omega)
    have hw2 : IntKind.i64.wrap (k + 1 + 1) = k + 2 := by rw [wrap_in (by omega)]; omega
    have n1 : ¬ k + 2 + 2 * (x.reads.length : Int) < 0 := by omega
    have n2 : ¬ k + 2 + 2 * (x.reads.length : Int) + 2 * (x.writes.length : Int) < 0 := by omega
    have av : ∀ (us : List U) (K : U → Option U), U.asVar false 1 (.sl 2 us) K = K (.sl 2 us) := fun _ _ => rfl
    have ee : k + (2 + 2 * (x.reads.length : Int) + 2 * (x.writes.length : Int) + entInts r) = k + 2 + 2 * x.reads.length + 2 * x.writes.length + entInts r := by omega
    rw [f55_l0_eq]
    simp [hlt, hel, hw, hw1, hw2, h1, h2, n1, n2, ih, entInts, ee]
theorem f55_is (h : G_f55 E) (l : List Entry) (hl : l.length ≤ 1048576) (ho : ∀ x ∈ l, x.ok) (k : Int) (hk : 0 ≤ k) (hk2 : k + entInts l ≤ 16000000) : E 285 [.sl 4 ((upEnts k l).map Entry.u), .int .i64 k] = some (.int .i64 (k + entInts l)) := by
  rw [f55_E h]
  exact f55_l0_is h (upEnts k l) (by rw [upEnts_len]; exact hl) l [] k 0 rfl rfl ho hk hk2
theorem entInts_szl : ∀ (r : List Entry) (left : Int), 0 ≤ left → 0 ≤ szl Entry.sz r left → entInts r ≤ 2 * r.length + 2 * left
  | [], left, h0, h => by simp [entInts]; omega
  | x :: r, left, h0, h => by
    simp only [szl] at h
    by_cases h1 : Entry.sz x left < 0
    · rw [if_pos h1] at h; omega
    · rw [if_neg h1] at h
      have h2 := entInts_szl r (Entry.sz x left) (by omega) h
      simp only [Entry.sz, szc] at h1 h2
      simp only [entInts, List.length_cons]
      split at h2
      · omega
      · split at h2
        · omega
        · omega
theorem entInts_sz (l : List Entry) (left : Int) (h0 : 0 ≤ left) (h1 : left ≤ 1048576) (h : 0 ≤ szL Entry.sz l left) : entInts l ≤ 4194304 := by
  simp only [szL] at h
  split at h
  · omega
  · have := entInts_szl l _ (by omega) h
    omega
theorem lss_false {n : Int} (h : 0 ≤ n) : U.bin .lss (.int .i64 n) (.int .i64 0) = some (.bool false) := by
  have : ¬ n < 0 := by omega
  simp [this]
theorem asMut_t (k : Nat) (y : U) (ys : List U) (K : U → List U → Option U) : U.asMut k (.tup [y, .sl k ys]) K = K y ys := if_pos rfl
theorem asFlat_i (n : Int) (K : U → Option U) : U.asFlat (.int .i64 n) K = K (.int .i64 n) := rfl
theorem asBool_ff (a b : Option U) : U.asBool (.bool false) a b = b := rfl
abbrev shI : Sh := .int .i64
theorem fits_int {u : U} (h : Fits shI u) : ∃ n, u = .int .i64 n ∧ -9223372036854775808 ≤ n ∧ n ≤ 9223372036854775807 := by
  cases u <;> first | exact h.elim | skip
  rename_i k n
  obtain ⟨rfl, h1, h2⟩ := h
  exact ⟨n, rfl, h1, h2⟩
theorem fits_agg {ss : List Sh} {u : U} (h : Fits (.agg ss) u) : ∃ us, u = .agg us ∧ Fits.fits ss us := by
  cases u <;> first | exact h.elim | exact ⟨_, rfl, h⟩
theorem fits_cons {s : Sh} {ss : List Sh} {us : List U} (h : Fits.fits (s :: ss) us) : ∃ u us', us = u :: us' ∧ Fits s u ∧ Fits.fits ss us' := by
  cases us with
  | nil => exact h.elim
  | cons u us => exact ⟨u, us, rfl, h.1, h.2⟩
theorem fits_nil {us : List U} (h : Fits.fits [] us) : us = [] := by
  cases us with
  | nil => rfl
  | cons u us => exact h.elim
theorem fits_map {α : Type} {s : Sh} {f : α → U} {Q : α → Prop} (hs : ∀ u, Fits s u → ∃ x, u = f x ∧ Q x) : ∀ us : List U, (∀ u ∈ us, Fits s u) → ∃ l : List α, us = l.map f ∧ ∀ x ∈ l, Q x
  | [], _ => ⟨[], rfl, by simp⟩
  | u :: us, h => by
    obtain ⟨x, rfl, hx⟩ := hs u (h u (by simp))
    obtain ⟨l, rfl, hl⟩ := fits_map hs us (fun v hv => h v (by simp [hv]))
    exact ⟨x :: l, rfl, by simpa using ⟨hx, hl⟩⟩
theorem fits_sl {α : Type} {k : Nat} {s : Sh} {f : α → U} {Q : α → Prop} (hs : ∀ u, Fits s u → ∃ x, u = f x ∧ Q x) {u : U} (h : Fits (.sl k s) u) : ∃ l : List α, u = .sl k (l.map f) ∧ l.length ≤ maxLen ∧ ∀ x ∈ l, Q x := by
  cases u <;> first | exact h.elim | skip
  obtain ⟨rfl, h1, h2⟩ := h
  obtain ⟨l, rfl, hl⟩ := fits_map hs _ h2
  exact ⟨l, rfl, by simpa using h1, hl⟩
abbrev shReadMark : Sh := .agg [shI, shI]
theorem fits_ReadMark (u : U) (h : Fits shReadMark u) : ∃ x : ReadMark, u = x.u ∧ True := by
  obtain ⟨us0, rfl, hs0⟩ := fits_agg h
  obtain ⟨u0, us1, rfl, h0, hs1⟩ := fits_cons hs0
  obtain ⟨a0, rfl, _⟩ := fits_int h0
  obtain ⟨u1, us2, rfl, h1, hs2⟩ := fits_cons hs1
  obtain ⟨a1, rfl, _⟩ := fits_int h1
  obtain rfl := fits_nil hs2
  exact ⟨⟨a0, a1⟩, rfl, trivial⟩
abbrev shWrite : Sh := .agg [shI, shI]
theorem fits_Write (u : U) (h : Fits shWrite u) : ∃ x : Write, u = x.u ∧ True := by
  obtain ⟨us0, rfl, hs0⟩ := fits_agg h
  obtain ⟨u0, us1, rfl, h0, hs1⟩ := fits_cons hs0
  obtain ⟨a0, rfl, _⟩ := fits_int h0
  obtain ⟨u1, us2, rfl, h1, hs2⟩ := fits_cons hs1
  obtain ⟨a1, rfl, _⟩ := fits_int h1
  obtain rfl := fits_nil hs2
  exact ⟨⟨a0, a1⟩, rfl, trivial⟩
abbrev shEntry : Sh := .agg [shI, shI, .sl 2 shReadMark, .sl 2 shWrite]
theorem fits_Entry (u : U) (h : Fits shEntry u) : ∃ x : Entry, u = x.u ∧ x.fit := by
  obtain ⟨us0, rfl, hs0⟩ := fits_agg h
  obtain ⟨u0, us1, rfl, h0, hs1⟩ := fits_cons hs0
  obtain ⟨a0, rfl, _⟩ := fits_int h0
  obtain ⟨u1, us2, rfl, h1, hs2⟩ := fits_cons hs1
  obtain ⟨a1, rfl, _⟩ := fits_int h1
  obtain ⟨u2, us3, rfl, h2, hs3⟩ := fits_cons hs2
  obtain ⟨a2, rfl, l2, _⟩ := fits_sl fits_ReadMark h2
  obtain ⟨u3, us4, rfl, h3, hs4⟩ := fits_cons hs3
  obtain ⟨a3, rfl, l3, _⟩ := fits_sl fits_Write h3
  obtain rfl := fits_nil hs4
  exact ⟨⟨a0, a1, a2, a3⟩, rfl, ⟨l2, l3⟩⟩
theorem entInts_append : ∀ (a b : List Entry), entInts (a ++ b) = entInts a + entInts b
  | [], b => by simp [entInts]
  | x :: a, b => by simp only [List.cons_append, entInts, entInts_append a b]; omega
theorem entInts_insAt (x : Entry) (l : List Entry) : entInts (insAt x l) = entInts l + (2 + 2 * x.reads.length + 2 * x.writes.length) := by
  have h : entInts l = entInts (l.take (insPos x l)) + entInts (l.drop (insPos x l)) := by rw [← entInts_append, List.take_append_drop]
  unfold insAt
  simp only [entInts_append, entInts]
  omega
theorem addReader_small (l : List Entry) (x : Entry) (hl : l.length ≤ 1048576) (ho : ∀ t ∈ l, t.ok) (hx : x.ok) :
    (addReader l x).1.length ≤ 1048576 ∧ (∀ t ∈ (addReader l x).1, t.ok) ∧ entInts (addReader l x).1 ≤ entInts l + (2 + 2 * x.reads.length + 2 * x.writes.length) := by
  unfold addReader
  split
  · rename_i h
    have h9 : l.length ≤ 9 := by
      have h1 := h.1
      simp only [isHistory, Bool.and_eq_true, decide_eq_true_eq] at h1
      exact h1.2
    exact ⟨by rw [insAt_length]; omega, insAt_ok hx ho, by rw [entInts_insAt]; exact Int.le_refl _⟩
  · exact ⟨hl, ho, by simp only; omega⟩
theorem asFlat_bb (b : Bool) (K : U → Option U) : U.asFlat (.bool b) K = K (.bool b) := rfl
theorem eqv_b (b : Bool) : U.eqv 0 (.bool b) (.bool b) = some true := by cases b <;> rfl
theorem law_AddReader (ha : AddIs E) (h : G_f48 E) (us : List U) (hus : Fits.fits [.sl 4 shEntry, shEntry] us) : E 284 us = some (.bool true) := by
  obtain ⟨u0, us1, rfl, h0, hus1⟩ := fits_cons hus
  obtain ⟨u1, us2, rfl, h1, hus2⟩ := fits_cons hus1
  obtain rfl := fits_nil hus2
  obtain ⟨l, rfl, hl, hf⟩ := fits_sl fits_Entry h0
  obtain ⟨x, rfl, hfx⟩ := fits_Entry _ h1
  rw [f48_E h]
  have s1 := f62_is h.c_f62 l hl hf 1048576 (by omega) (by omega)
  rcases szL_szs Entry.sz_szs l 1048576 (by omega) (by omega) with n1 | ⟨⟨hl2, ok⟩, n1, n2⟩
  · show (E 49 [.sl 4 (l.map Entry.u), .int .i64 1048576]).bind _ = _
    have hlt : U.bin .lss (.int .i64 (szL Entry.sz l 1048576)) (.int .i64 0) = some (.bool true) := by simp [n1]
    rw [s1, Option.bind_some, hlt]
    rfl
  have s2 := f61_is h.c_f61 x hfx (szL Entry.sz l 1048576) n1 n2
  rcases Entry.sz_szs x (szL Entry.sz l 1048576) n1 n2 with m1 | ⟨okx, m1, m2⟩
  · have hlt : U.bin .lss (.int .i64 (x.sz (szL Entry.sz l 1048576))) (.int .i64 0) = some (.bool true) := by simp [m1]
    show (E 49 [.sl 4 (l.map Entry.u), .int .i64 1048576]).bind _ = _
    rw [s1, Option.bind_some, lss_false n1]
    show (E 50 [x.u, .int .i64 (szL Entry.sz l 1048576)]).bind _ = _
    rw [s2, Option.bind_some, hlt]
    rfl
  have hsum := entInts_sz l 1048576 (by omega) (by omega) n1
  have hnn := entInts_nonneg l
  obtain ⟨al, aok, aint⟩ := addReader_small l x hl2 ok okx
  have hr : (x.reads.length : Int) ≤ 1048576 ∧ (x.writes.length : Int) ≤ 1048576 := ⟨by have := okx.1; omega, by have := okx.2; omega⟩
  have ia := ha l x hl2 ok okx
  have i1 := ia.2
  have i2 := ia.1
  have g1 := f90_is h.c_f90 l hl2 ok x okx
  have t1 := f66_is h.c_f66 l hl2 ok
  have t2 := f65_is h.c_f65 x okx
  have t3 := f67_is h.c_f67 l hl2 ok
  have t4 := f68_is h.c_f68 x okx
  have q1 := f50_is h.c_f50 l l hl2 hl2 ok ok
  rw [decide_eq_true rfl] at q1
  have q2 := f49_is h.c_f49 x x okx okx
  rw [decide_eq_true rfl] at q2
  have q3 := f50_is h.c_f50 (addReader l x).1 (addReader l x).1 al al aok aok
  rw [decide_eq_true rfl] at q3
  have k1 := f58_up h.c_f58 l hl2 ok 1 (by omega) (by omega)
  have k2 := f59_is h.c_f59 x.reads okx.1 (1 + entInts l) (by omega) (by omega)
  have k3 := f60_is h.c_f60 x.writes okx.2 (1 + entInts l + 2 * x.reads.length) (by omega) (by omega)
  have hA := entInts_nonneg (addReader l x).1
  have r1 := f58_up h.c_f58 (addReader l x).1 al aok 1 (by omega) (by omega)
  have hd := f55_is h.c_f55 (addReader l x).1 al aok 1 (by omega) (by omega)
  have z1 : 0 ≤ 1 + entInts l + 2 * (x.reads.length : Int) + 2 * (x.writes.length : Int) := by omega
  generalize addReader l x = A at *
  obtain ⟨H, b⟩ := A
  simp only at al aok aint i1 i2 g1 q3 hA r1 hd
  have hdf : U.bin .lss (.int .i64 (1 + entInts H)) (.int .i64 0) = some (.bool false) := lss_false (by omega)
  have hne : U.bin .neq (.int .i64 (1 + entInts H)) (.int .i64 (1 + entInts H)) = some (.bool false) := by simp
  show (E 49 [.sl 4 (l.map Entry.u), .int .i64 1048576]).bind _ = _
  rw [s1, Option.bind_some, lss_false n1]
  show (E 50 [x.u, .int .i64 (szL Entry.sz l 1048576)]).bind _ = _
  rw [s2, Option.bind_some, lss_false m1]
  first | (show (E 45 [.sl 4 (l.map Entry.u)]).bind _ = _; rw [t1]) | skip
  first | (show (E 51 [x.u]).bind _ = _; rw [t2]) | skip
  first | (show (E 289 [.sl 4 (l.map Entry.u), x.u]).bind _ = _; rw [g1]) | skip
  first | (show (E 100045 [.sl 4 (l.map Entry.u)]).bind _ = _; rw [t3]) | skip
  first | (show (E 100051 [x.u]).bind _ = _; rw [t4]) | skip
  first | (show (E 100286 [.sl 4 (l.map Entry.u), x.u]).bind _ = _; rw [i1]) | skip
  first | (show (E 46 [.sl 4 (H.map Entry.u), .sl 4 (H.map Entry.u)]).bind _ = _; rw [q3]) | (show (Option.bind (some (U.bool true)) _) = _)
  rw [Option.bind_some, asFlat_bb, un_not, Option.bind_some, asBool_bool, if_neg (by simp)]
  first | rw [eqv_b] | skip
  rw [Option.bind_some, asBool_bool, if_neg (by simp)]
  first | (show (E 45 [.sl 4 (l.map Entry.u)]).bind _ = _; rw [t1]) | skip
  first | (show (E 46 [.sl 4 (l.map Entry.u), .sl 4 (l.map Entry.u)]).bind _ = _; rw [q1]) | skip
  first | (show (E 51 [x.u]).bind _ = _; rw [t2]) | skip
  first | (show (E 56 [x.u, x.u]).bind _ = _; rw [q2]) | skip
  first | (show (E 200287 (.agg [.tup [.sl 4 (l.map Entry.u)]] :: [.int .i64 1])).bind _ = _; rw [k1]) | skip
  first | (show (E 200095 (.agg [.tup [.sl 2 (x.reads.map ReadMark.u)]] :: [.int .i64 (1 + entInts l)])).bind _ = _; rw [k2]) | skip
  show (E 200232 (.agg [.tup [.sl 2 (x.writes.map Write.u)]] :: [.int .i64 (1 + entInts l + 2 * x.reads.length)])).bind _ = _
  rw [k3, Option.bind_some, asMut_t, asFlat_i, if_pos (show partable (.val (.int .i64 (1 + entInts l + 2 * (x.reads.length : Int) + 2 * (x.writes.length : Int)))) = true from rfl), lss_false z1, Option.bind_some, asBool_ff]
  first | (show (E 46 [.sl 4 (H.map Entry.u), .sl 4 (H.map Entry.u)]).bind _ = _; rw [q3]) | (show (Option.bind (some (U.bool true)) _) = _)
  rw [Option.bind_some, asFlat_bb, un_not, Option.bind_some, asBool_bool, if_neg (by simp)]
  first | rw [eqv_b] | skip
  rw [Option.bind_some, asBool_bool, if_neg (by simp)]
  first | (show (E 200287 (.agg [.tup [.sl 4 (H.map Entry.u)]] :: [.int .i64 1])).bind _ = _; rw [r1]) | skip
  first | (show (E 285 [.sl 4 ((upEnts 1 H).map Entry.u), .int .i64 1]).bind _ = _; rw [hd]) | skip
  rw [Option.bind_some, asFlat_i, hdf, Option.bind_some, asBool_ff, hne, Option.bind_some, asBool_ff]
  first | (show (E 45 [.sl 4 (l.map Entry.u)]).bind _ = _; rw [t1]) | skip
  first | (show (E 51 [x.u]).bind _ = _; rw [t2]) | skip
  first | (show (E 286 [.sl 4 (l.map Entry.u), x.u]).bind _ = _; rw [i2]) | skip
  first | (show (E 46 [.sl 4 (H.map Entry.u), .sl 4 (H.map Entry.u)]).bind _ = _; rw [q3]) | (show (Option.bind (some (U.bool true)) _) = _)
  rw [Option.bind_some, un_not, Option.bind_some, asBool_bool, if_neg (by simp)]
  first | rw [eqv_b] | skip
  rw [Option.bind_some, asBool_bool, if_neg (by simp)]
  first | (show (E 285 [.sl 4 ((upEnts 1 H).map Entry.u), .int .i64 1]).bind _ = _; rw [hd]) | skip
  rw [Option.bind_some, asFlat_i, hdf, Option.bind_some, asBool_ff, hne, Option.bind_some, asBool_ff]
end Go.Proofs.Ytlgblpngiamhaaa.Am
