import Derived.Test.YtmdnjglkdddaeaaFnCyclesP0
import Derived.Test.YtmdnjglkdddaeaaFnCyclesF0
import Derived.Test.YtmdnjglkdddaeaaAmY
namespace Go.Proofs.Ytmdnjglkdddaeaa.Am
open Go
variable {E : Env}
set_option linter.unusedVariables false
theorem rounds_know {l : List Edge} {to : Int} (hE : Ends l) : ∀ (n : Nat) (d : Int) (o : List Int), Know to d o → Know to (d + n) (rounds l to n d o)
  | 0, d, o, h => by simpa [rounds] using h
  | n + 1, d, o, h => by
    have := rounds_know hE n (d + 1) _ (h.next hE)
    rw [rounds]
    have e : d + ((n + 1 : Nat) : Int) = d + 1 + n := by omega
    rw [e]
    exact this
theorem dist_le {l : List Edge} (hE : Ends l) (to v : Int) (hv : 0 ≤ v) : at_ (dist l to) v ≤ 9 := by
  have := (rounds_know hE 9 1 _ (know_start to)).below v hv
  unfold dist
  omega
def scStep (l : List Edge) (cur : Option (Int × Int)) (a : Int) : Option (Int × Int) :=
  if decide (0 < at_ (dist l a) a) && (match cur with | none => true | some c => decide (at_ (dist l a) a < c.2)) then some (a, at_ (dist l a) a) else cur
def scScan (l : List Edge) : Nat → Option (Int × Int) → Option (Int × Int)
  | 0, cur => cur
  | n + 1, cur => scScan l n (scStep l cur (9 - n))
def scNext (l : List Edge) (far : List Int) (d at0 : Int) : Nat → Option Int
  | 0 => none
  | n + 1 => if decide (at_ far (9 - n) = d) && hasEdge l at0 (9 - n) then some (9 - n) else scNext l far d at0 n
def scChain (l : List Edge) (far : List Int) : Nat → Int → List Int → List Int
  | 0, _, out => out
  | d + 1, at0, out => match scNext l far (d + 1) at0 9 with
    | some b => scChain l far d b (out ++ [b])
    | none => scChain l far d at0 out
def scEnd (l : List Edge) : Option (Int × Int) → List Int
  | none => []
  | some (s, n) => scChain l (dist l s) (n - 1).toNat s [s]
def shortest (l : List Edge) : List Int := if areEdges l then scEnd l (scScan l 9 none) else []
def scS : Option (Int × Int) → Int
  | none => 0
  | some c => c.1
def scN : Option (Int × Int) → Int → Int
  | none, x => x
  | some c, _ => c.2
def ScOK (l : List Edge) (cur : Option (Int × Int)) : Prop := ∀ c, cur = some c → 1 ≤ c.1 ∧ c.1 ≤ 9 ∧ 1 ≤ c.2 ∧ c.2 ≤ 9
theorem scStep_ok {l : List Edge} (hE : Ends l) {cur : Option (Int × Int)} (h : ScOK l cur) {a : Int} (h1 : 1 ≤ a) (h2 : a ≤ 9) : ScOK l (scStep l cur a) := by
  have hle := dist_le hE a a (by omega)
  have key : scStep l cur a = cur ∨ (0 < at_ (dist l a) a ∧ scStep l cur a = some (a, at_ (dist l a) a)) := by
    by_cases hp : 0 < at_ (dist l a) a
    · cases cur with
      | none => right; simp [scStep, hp]
      | some c =>
        by_cases hq : at_ (dist l a) a < c.2
        · right; simp [scStep, hp, hq]
        · left; simp [scStep, hq]
    · left; simp [scStep, hp]
  rcases key with k | ⟨k1, k2⟩
  · rw [k]; exact h
  · rw [k2]
    intro c e
    cases e
    exact ⟨h1, h2, by simp only; omega, hle⟩
theorem spec_SC_l1_is (h : G_f31 E) (l : List Edge) (hl : l.length ≤ 1048576) (far : List Int) (hf : far.length = 10) (d at0 : Int) (hd : 1 ≤ d) (hd2 : d ≤ 9) (c : List Int) (hc : c.length ≤ 1000) : ∀ (n : Nat) (b : Int), b = 10 - n → 1 ≤ b →
    f31_l1 E (edgesU l) (intsU far) (.int .i64 at0) (.int .i64 d) (.int .i64 b) (c.map intU) =
      match scNext l far d at0 n with
      | some v => f31_l0 E (edgesU l) (intsU far) (.int .i64 v) (.int .i64 (d - 1)) ((c ++ [v]).map intU)
      | none => f31_l0 E (edgesU l) (intsU far) (.int .i64 at0) (.int .i64 (d - 1)) (c.map intU)
  | 0, b, hb, h1 => by
    have : ¬ b ≤ 9 := by omega
    have hw : IntKind.i64.wrap (d - 1) = d - 1 := wrap_in (by omega)
    rw [f31_l1_eq]
    simp [this, hw, scNext]
  | n + 1, b, hb, h1 => by
    have hb9 : b ≤ 9 := by omega
    have h0 : 0 ≤ b := by omega
    have hw : IntKind.i64.wrap (d - 1) = d - 1 := wrap_in (by omega)
    have hw2 : IntKind.i64.wrap (b + 1) = b + 1 := wrap_in (by omega)
    have e : (9 : Int) - n = b := by omega
    have ih := spec_SC_l1_is h l hl far hf d at0 hd hd2 c hc n (b + 1) (by omega) (by omega)
    have i1 := idx_ok hf (v := b) h0 hb9
    have hlen : ((c.map intU).length + 1) * 8 ≤ 140737488355328 := by rw [List.length_map]; omega
    rw [f31_l1_eq]
    simp only [scNext, e]
    cases hg : hasEdge l at0 b with
    | false =>
      simp only [bin_leq, hb9, decide_true, Option.bind_some, asBool_bool, if_true, f29_is h.c_f29 l hl, hg, Bool.false_eq_true, if_false, bin_add, hw2, Bool.and_false]
      exact ih
    | true =>
      by_cases hq : at_ far b = d
      · simp only [bin_leq, hb9, decide_true, Option.bind_some, asBool_bool, if_true, f29_is h.c_f29 l hl, hg, asInt_int, elemAt_sl, h0, i1, asVar_intU, bin_eql, hq, storable_int, partable_int, size_int, and_self, List.length_cons, List.length_nil, hlen, bin_sub, hw, Bool.and_self, List.map_append, List.map_cons, List.map_nil, intU, asVar_int]
      · simp only [bin_leq, hb9, decide_true, Option.bind_some, asBool_bool, if_true, f29_is h.c_f29 l hl, hg, asInt_int, elemAt_sl, h0, i1, asVar_intU, bin_eql, hq, decide_false, Bool.false_eq_true, if_false, bin_add, hw2, Bool.false_and]
        exact ih
theorem scNext_range {l : List Edge} {far : List Int} {d at0 : Int} : ∀ {n : Nat} {v : Int}, n ≤ 9 → scNext l far d at0 n = some v → 1 ≤ v ∧ v ≤ 9
  | 0, _, _, h => by cases h
  | n + 1, v, hn, h => by
    simp only [scNext] at h
    split at h
    · cases h; omega
    · exact scNext_range (by omega) h
theorem spec_SC_l0_is (h : G_f31 E) (l : List Edge) (hl : l.length ≤ 1048576) (far : List Int) (hf : far.length = 10) : ∀ (n : Nat) (d at0 : Int) (c : List Int), d = n → n ≤ 9 → c.length + n ≤ 1000 →
    f31_l0 E (edgesU l) (intsU far) (.int .i64 at0) (.int .i64 d) (c.map intU) = some (intsU (scChain l far n at0 c))
  | 0, d, at0, c, hd, _, _ => by
    have : ¬ 0 < d := by omega
    rw [f31_l0_eq]
    simp [this, scChain]
  | n + 1, d, at0, c, hd, h9, hc => by
    have hpos : 0 < d := by omega
    rw [f31_l0_eq]
    simp only [bin_gtr, hpos, decide_true, Option.bind_some, asBool_bool, if_true]
    rw [spec_SC_l1_is h l hl far hf d at0 (by omega) (by omega) c (by omega) 9 1 rfl (by omega)]
    have e : (n : Int) + 1 = d := by omega
    simp only [scChain, e]
    cases hx : scNext l far d at0 9 with
    | none => exact spec_SC_l0_is h l hl far hf n (d - 1) at0 c (by omega) (by omega) (by omega)
    | some v => exact spec_SC_l0_is h l hl far hf n (d - 1) v (c ++ [v]) (by omega) (by omega) (by simp; omega)
theorem spec_SC_l2_is (h : G_f31 E) (l : List Edge) (hl : l.length ≤ 1048576) (ha : areEdges l = true) : ∀ (n : Nat) (a : Int) (cur : Option (Int × Int)), a = 10 - n → 1 ≤ a → ScOK l cur →
    f31_l2 E (edgesU l) (.int .i64 (scS cur)) (.int .i64 (scN cur (-1))) (.int .i64 a) = some (intsU (scEnd l (scScan l n cur)))
  | 0, a, cur, hb, h1, hok => by
    have : ¬ a ≤ 9 := by omega
    rw [f31_l2_eq]
    cases cur with
    | none => simp [this, scScan, scEnd, scN]
    | some c =>
      obtain ⟨s, k⟩ := c
      obtain ⟨c1, c2, c3, c4⟩ := hok _ rfl
      simp only at c1 c2 c3 c4
      have hk : ¬ k < 0 := by omega
      have hw : IntKind.i64.wrap (k - 1) = k - 1 := wrap_in (by omega)
      simp only [bin_leq, this, decide_false, Option.bind_some, asBool_bool, Bool.false_eq_true, if_false, scN, scS, bin_lss, hk, f40_is h.c_f40 l hl (areEdges_ends ha), storable_int, partable_int, size_int, and_self, if_true, bin_sub, hw, scScan, scEnd]
      exact spec_SC_l0_is h l hl (dist l s) (dist_length s) (k - 1).toNat (k - 1) s [s] (by omega) (by omega) (by simp; omega)
  | n + 1, a, cur, hb, h1, hok => by
    have h9 : a ≤ 9 := by omega
    have hw : IntKind.i64.wrap (a + 1) = a + 1 := wrap_in (by omega)
    have e : (9 : Int) - n = a := by omega
    have hE := areEdges_ends ha
    have ih := spec_SC_l2_is h l hl ha n (a + 1) (scStep l cur a) (by omega) (by omega) (scStep_ok hE hok h1 h9)
    have hd : E 39 [edgesU l, .int .i64 a, .int .i64 a] = some (.int .i64 (at_ (dist l a) a)) := by
      rw [f28_is h.c_f28 l hl]
      have : inR a 1 9 = true := by simp [inR]; omega
      simp [edgeDistance, ha, this]
    rw [f31_l2_eq]
    simp only [scScan, e]
    rw [← ih]
    by_cases hp : 0 < at_ (dist l a) a
    · cases cur with
      | none =>
        simp only [bin_leq, h9, decide_true, Option.bind_some, asBool_bool, if_true, hd, bin_gtr, hp, scN, bin_lss, Int.reduceLT, bin_add, hw, scStep, Bool.and_self, scS, Int.reduceNeg]
      | some c =>
        obtain ⟨s, k⟩ := c
        obtain ⟨c1, c2, c3, c4⟩ := hok _ rfl
        simp only at c1 c2 c3 c4
        have hk : ¬ k < 0 := by omega
        by_cases hlt : at_ (dist l a) a < k
        · simp only [bin_leq, h9, decide_true, Option.bind_some, asBool_bool, if_true, hd, bin_gtr, hp, scN, bin_lss, hk, decide_false, Bool.false_eq_true, if_false, hlt, bin_add, hw, scStep, Bool.and_self, scS]
        · simp only [bin_leq, h9, decide_true, Option.bind_some, asBool_bool, if_true, hd, bin_gtr, hp, scN, bin_lss, hk, decide_false, Bool.false_eq_true, if_false, hlt, bin_add, hw, scStep, Bool.and_false, scS]
    · simp only [bin_leq, h9, decide_true, Option.bind_some, asBool_bool, if_true, hd, bin_gtr, hp, decide_false, Bool.false_eq_true, if_false, bin_add, hw, scStep, Bool.false_and]
theorem spec_SC_none (h : G_f31 E) (l : List Edge) (hl : l.length ≤ 1048576) (ha : areEdges l = false) : ∀ (n : Nat) (a : Int), a = 10 - n → 1 ≤ a →
    f31_l2 E (edgesU l) (.int .i64 0) (.int .i64 (-1)) (.int .i64 a) = some (.sl 1 [])
  | 0, a, hb, h1 => by
    have : ¬ a ≤ 9 := by omega
    rw [f31_l2_eq]
    simp [this]
  | n + 1, a, hb, h1 => by
    have h9 : a ≤ 9 := by omega
    have hw : IntKind.i64.wrap (a + 1) = a + 1 := wrap_in (by omega)
    have ih := spec_SC_none h l hl ha n (a + 1) (by omega) (by omega)
    have hd : E 39 [edgesU l, .int .i64 a, .int .i64 a] = some (.int .i64 (-1)) := by
      rw [f28_is h.c_f28 l hl]
      simp [edgeDistance, ha]
    rw [f31_l2_eq]
    simp [h9, hd, hw, ih]
theorem f31_is (h : G_f31 E) (l : List Edge) (hl : l.length ≤ 1048576) : E 80 [edgesU l] = some (intsU (shortest l)) := by
  rw [f31_E h]
  unfold shortest
  cases ha : areEdges l with
  | false => exact spec_SC_none h l hl ha 9 1 rfl (by omega)
  | true => exact spec_SC_l2_is h l hl ha 9 1 none rfl (by omega) (fun c e => by cases e)
theorem impl_SC_l1_is (h : G_f11 E) (l : List Edge) (hl : l.length ≤ 1048576) (far : List Int) (hf : far.length = 10) (d at0 : Int) (hd : 1 ≤ d) (hd2 : d ≤ 9) (c : List Int) (hc : c.length ≤ 1000) : ∀ (n : Nat) (b : Int), b = 10 - n → 1 ≤ b →
    f11_l1 E (edgesU l) (.int .i64 d) (.int .i64 b) ((c ++ [at0]).map intU) (arrU far) =
      match scNext l far d at0 n with
      | some v => f11_l0 E (edgesU l) (.int .i64 (d - 1)) ((c ++ [at0] ++ [v]).map intU) (arrU far)
      | none => f11_l0 E (edgesU l) (.int .i64 (d - 1)) ((c ++ [at0]).map intU) (arrU far)
  | 0, b, hb, h1 => by
    have : ¬ b ≤ 9 := by omega
    have hw : IntKind.i64.wrap (d - 1) = d - 1 := wrap_in (by omega)
    rw [f11_l1_eq]
    simp [this, hw, scNext]
  | n + 1, b, hb, h1 => by
    have hb9 : b ≤ 9 := by omega
    have h0 : 0 ≤ b ∧ b < 10 := by omega
    have hw : IntKind.i64.wrap (d - 1) = d - 1 := wrap_in (by omega)
    have hw2 : IntKind.i64.wrap (b + 1) = b + 1 := wrap_in (by omega)
    have e : (9 : Int) - n = b := by omega
    have ih := impl_SC_l1_is h l hl far hf d at0 hd hd2 c hc n (b + 1) (by omega) (by omega)
    have i1 := idx_ok hf (v := b) h0.1 hb9
    have hst := sizes_take hf (v := b) h0.1 hb9
    have hlen : ((c ++ [at0]).length + 1) * 8 ≤ 140737488355328 := by simp; omega
    have hw3 : IntKind.i64.wrap (((c ++ [at0]).length : Int) - 1) = c.length := by rw [wrap_in (by simp; omega)]; simp
    have hlast : ((c ++ [at0]).map intU)[((c.length : Int)).toNat]? = some (intU at0) := by simp
    have hlt : (0 : Int) ≤ c.length ∧ (c.length : Int) < ((c ++ [at0]).length : Int) := by simp; omega
    rw [f11_l1_eq]
    simp only [scNext, e]
    by_cases hq : at_ far b = d
    · cases hg : hasEdge l at0 b with
      | false =>
        simp only [bin_leq, hb9, decide_true, Option.bind_some, asBool_bool, if_true, asInt_int, h0, and_self, asAgg_agg, hst, i1, asVar_intU, bin_eql, hq, List.length_map, bin_sub, hw3, hlt, hlast, f8_is h.c_f8 l hl, hg, Bool.false_eq_true, if_false, bin_add, hw2, Bool.and_false]
        exact ih
      | true =>
        simp only [bin_leq, hb9, decide_true, Option.bind_some, asBool_bool, if_true, asInt_int, h0, and_self, asAgg_agg, hst, i1, asVar_intU, bin_eql, hq, List.length_map, bin_sub, hw3, hlt, hlast, f8_is h.c_f8 l hl, hg, storable_int, partable_int, size_int, List.length_cons, List.length_nil, hlen, hw, Bool.and_self]
        rw [List.map_append (l₁ := c ++ [at0])]
        simp only [List.map_cons, List.map_nil, intU]
    · simp only [bin_leq, hb9, decide_true, Option.bind_some, asBool_bool, if_true, asInt_int, h0, and_self, asAgg_agg, hst, i1, asVar_intU, bin_eql, hq, decide_false, Bool.false_eq_true, if_false, bin_add, hw2, Bool.false_and]
      exact ih
theorem impl_SC_l0_is (h : G_f11 E) (l : List Edge) (hl : l.length ≤ 1048576) (far : List Int) (hf : far.length = 10) : ∀ (n : Nat) (d at0 : Int) (c : List Int), d = n → n ≤ 9 → c.length + n ≤ 990 →
    f11_l0 E (edgesU l) (.int .i64 d) ((c ++ [at0]).map intU) (arrU far) = some (intsU (scChain l far n at0 (c ++ [at0])))
  | 0, d, at0, c, hd, _, _ => by
    have : ¬ 0 < d := by omega
    rw [f11_l0_eq]
    simp [this, scChain]
  | n + 1, d, at0, c, hd, h9, hc => by
    have hpos : 0 < d := by omega
    rw [f11_l0_eq]
    simp only [bin_gtr, hpos, decide_true, Option.bind_some, asBool_bool, if_true]
    rw [impl_SC_l1_is h l hl far hf d at0 (by omega) (by omega) c (by omega) 9 1 rfl (by omega)]
    have e : (n : Int) + 1 = d := by omega
    simp only [scChain, e]
    cases hx : scNext l far d at0 9 with
    | none => exact impl_SC_l0_is h l hl far hf n (d - 1) at0 c (by omega) (by omega) (by omega)
    | some v => exact impl_SC_l0_is h l hl far hf n (d - 1) v (c ++ [at0]) (by omega) (by omega) (by simp; omega)
def orNil (l : List Int) : U := if l = [] then .nsl 1 else intsU l
theorem scChain_ne (l : List Edge) (far : List Int) : ∀ (n : Nat) (a : Int) (c : List Int), c ≠ [] → scChain l far n a c ≠ []
  | 0, _, c, h => h
  | n + 1, a, c, h => by
    simp only [scChain]
    split
    · exact scChain_ne l far n _ _ (by simp)
    · exact scChain_ne l far n _ _ h
theorem impl_SC_l2_is (h : G_f11 E) (l : List Edge) (hl : l.length ≤ 1048576) (ha : areEdges l = true) : ∀ (n : Nat) (a : Int) (cur : Option (Int × Int)), a = 10 - n → 1 ≤ a → ScOK l cur →
    f11_l2 E (edgesU l) (.int .i64 (scS cur)) (.int .i64 (scN cur 0)) (.int .i64 a) = some (orNil (scEnd l (scScan l n cur)))
  | 0, a, cur, hb, h1, hok => by
    have : ¬ a ≤ 9 := by omega
    rw [f11_l2_eq]
    cases cur with
    | none => simp [this, scScan, scEnd, scS, orNil]
    | some c =>
      obtain ⟨s, k⟩ := c
      obtain ⟨c1, c2, c3, c4⟩ := hok _ rfl
      simp only at c1 c2 c3 c4
      have hs : ¬ s = 0 := by omega
      have hw : IntKind.i64.wrap (k - 1) = k - 1 := wrap_in (by omega)
      have hsz : (arrU (dist l s)).size = 10 := by show sizes _ = 10; rw [sizes_ints, dist_length]
      have hl0 := impl_SC_l0_is h l hl (dist l s) (dist_length s) (k - 1).toNat (k - 1) s [] (by omega) (by omega) (by simp; omega)
      have hne := scChain_ne l (dist l s) (k - 1).toNat s [s] (by simp)
      simp only [bin_leq, this, decide_false, Option.bind_some, asBool_bool, Bool.false_eq_true, if_false, scN, scS, bin_eql, hs, storable_int, partable_int, size_int, and_self, if_true, f13_is h.c_f13 l hl (areEdges_ends ha), storable_agg, partable_agg, hsz, bin_sub, hw, scScan, scEnd, orNil, hne]
      exact hl0
  | n + 1, a, cur, hb, h1, hok => by
    have h9 : a ≤ 9 := by omega
    have h0 : 0 ≤ a ∧ a < 10 := by omega
    have hw : IntKind.i64.wrap (a + 1) = a + 1 := wrap_in (by omega)
    have e : (9 : Int) - n = a := by omega
    have hE := areEdges_ends ha
    have ih := impl_SC_l2_is h l hl ha n (a + 1) (scStep l cur a) (by omega) (by omega) (scStep_ok hE hok h1 h9)
    have hat := fun {γ : Type} (K : U → Option γ) => arr_at (dist_length (l := l) a) h0.1 h9 K
    rw [f11_l2_eq]
    simp only [scScan, e]
    rw [← ih]
    by_cases hp : 0 < at_ (dist l a) a
    · cases cur with
      | none =>
        simp only [bin_leq, h9, decide_true, Option.bind_some, asBool_bool, if_true, f13_is h.c_f13 l hl hE, asInt_int, h0, and_self, hat, asVar_intU, bin_gtr, hp, scS, bin_eql, bin_add, hw, scStep, Bool.and_self, scN]
      | some c =>
        obtain ⟨s, k⟩ := c
        obtain ⟨c1, c2, c3, c4⟩ := hok _ rfl
        simp only at c1 c2 c3 c4
        have hs : ¬ s = 0 := by omega
        by_cases hlt : at_ (dist l a) a < k
        · simp only [bin_leq, h9, decide_true, Option.bind_some, asBool_bool, if_true, f13_is h.c_f13 l hl hE, asInt_int, h0, and_self, hat, asVar_intU, bin_gtr, hp, scS, bin_eql, hs, decide_false, Bool.false_eq_true, if_false, bin_lss, hlt, bin_add, hw, scStep, Bool.and_self, scN]
        · simp only [bin_leq, h9, decide_true, Option.bind_some, asBool_bool, if_true, f13_is h.c_f13 l hl hE, asInt_int, h0, and_self, hat, asVar_intU, bin_gtr, hp, scS, bin_eql, hs, decide_false, Bool.false_eq_true, if_false, bin_lss, hlt, bin_add, hw, scStep, Bool.and_false, scN]
    · simp only [bin_leq, h9, decide_true, Option.bind_some, asBool_bool, if_true, f13_is h.c_f13 l hl hE, asInt_int, h0, and_self, hat, asVar_intU, bin_gtr, hp, decide_false, Bool.false_eq_true, if_false, bin_add, hw, scStep, Bool.false_and]
theorem f11_is (h : G_f11 E) (l : List Edge) (hl : l.length ≤ 1048576) : E 81 [edgesU l] = some (orNil (shortest l)) := by
  rw [f11_E h]
  unfold shortest
  cases ha : areEdges l with
  | false => simp [f3_is h.c_f3 l hl, ha, orNil]
  | true =>
    simp only [f3_is h.c_f3 l hl, ha, Option.bind_some, un_not, Bool.not_true, asBool_bool, Bool.false_eq_true, if_false]
    exact impl_SC_l2_is h l hl ha 9 1 none rfl (by omega) (fun c e => by cases e)
def isAcyclic (l : List Edge) : Bool := areEdges l && decide (shortest l = [])
theorem lenOf_orNil (l : List Int) : U.lenOf false (orNil l) = some l.length := by
  unfold orNil
  split
  · rename_i h; subst h; rfl
  · simp
theorem f30_is (h : G_f30 E) (l : List Edge) (hl : l.length ≤ 1048576) : E 79 [edgesU l] = some (.bool (isAcyclic l)) := by
  rw [f30_E h]
  have e : decide (((shortest l).length : Int) = 0) = decide (shortest l = []) := by
    congr 1; simp
  simp only [f24_is h.c_f24 l hl, f31_is h.c_f31 l hl, Option.bind_some, asBool_bool, lenOf_sl, List.length_map, bin_eql, e, ite_t, isAcyclic]
theorem f10_is (h : G_f10 E) (l : List Edge) (hl : l.length ≤ 1048576) : E 78 [edgesU l] = some (.bool (isAcyclic l)) := by
  rw [f10_E h]
  have e : decide (((shortest l).length : Int) = 0) = decide (shortest l = []) := by
    congr 1; simp
  simp only [f3_is h.c_f3 l hl, f11_is h.c_f11 l hl, Option.bind_some, asBool_bool, lenOf_orNil, bin_eql, e, ite_t, isAcyclic]
theorem spec_SCF_l1_is (h : G_f32 E) (l : List Edge) (hl : l.length ≤ 1048576) (far : List Int) (hf : far.length = 10) (d at0 : Int) (hd : 1 ≤ d) (hd2 : d ≤ 9) (c : List Int) (hc : c.length ≤ 1000) : ∀ (n : Nat) (b : Int), b = 10 - n → 1 ≤ b →
    f32_l1 E (edgesU l) (intsU far) (.int .i64 at0) (.int .i64 d) (.int .i64 b) (c.map intU) =
      match scNext l far d at0 n with
      | some v => f32_l0 E (edgesU l) (intsU far) (.int .i64 v) (.int .i64 (d - 1)) ((c ++ [v]).map intU)
      | none => f32_l0 E (edgesU l) (intsU far) (.int .i64 at0) (.int .i64 (d - 1)) (c.map intU)
  | 0, b, hb, h1 => by
    have : ¬ b ≤ 9 := by omega
    have hw : IntKind.i64.wrap (d - 1) = d - 1 := wrap_in (by omega)
    rw [f32_l1_eq]
    simp [this, hw, scNext]
  | n + 1, b, hb, h1 => by
    have hb9 : b ≤ 9 := by omega
    have h0 : 0 ≤ b := by omega
    have hw : IntKind.i64.wrap (d - 1) = d - 1 := wrap_in (by omega)
    have hw2 : IntKind.i64.wrap (b + 1) = b + 1 := wrap_in (by omega)
    have e : (9 : Int) - n = b := by omega
    have ih := spec_SCF_l1_is h l hl far hf d at0 hd hd2 c hc n (b + 1) (by omega) (by omega)
    have i1 := idx_ok hf (v := b) h0 hb9
    have hlen : ((c.map intU).length + 1) * 8 ≤ 140737488355328 := by rw [List.length_map]; omega
    rw [f32_l1_eq]
    simp only [scNext, e]
    cases hg : hasEdge l at0 b with
    | false =>
      simp only [bin_leq, hb9, decide_true, Option.bind_some, asBool_bool, if_true, f29_is h.c_f29 l hl, hg, Bool.false_eq_true, if_false, bin_add, hw2, Bool.and_false]
      exact ih
    | true =>
      by_cases hq : at_ far b = d
      · simp only [bin_leq, hb9, decide_true, Option.bind_some, asBool_bool, if_true, f29_is h.c_f29 l hl, hg, asInt_int, elemAt_sl, h0, i1, asVar_intU, bin_eql, hq, storable_int, partable_int, size_int, and_self, List.length_cons, List.length_nil, hlen, bin_sub, hw, Bool.and_self, List.map_append, List.map_cons, List.map_nil, intU, asVar_int]
      · simp only [bin_leq, hb9, decide_true, Option.bind_some, asBool_bool, if_true, f29_is h.c_f29 l hl, hg, asInt_int, elemAt_sl, h0, i1, asVar_intU, bin_eql, hq, decide_false, Bool.false_eq_true, if_false, bin_add, hw2, Bool.false_and]
        exact ih
theorem spec_SCF_l0_is (h : G_f32 E) (l : List Edge) (hl : l.length ≤ 1048576) (far : List Int) (hf : far.length = 10) : ∀ (n : Nat) (d at0 : Int) (c : List Int), d = n → n ≤ 9 → c.length + n ≤ 1000 →
    f32_l0 E (edgesU l) (intsU far) (.int .i64 at0) (.int .i64 d) (c.map intU) = some (intsU (scChain l far n at0 c))
  | 0, d, at0, c, hd, _, _ => by
    have : ¬ 0 < d := by omega
    rw [f32_l0_eq]
    simp [this, scChain]
  | n + 1, d, at0, c, hd, h9, hc => by
    have hpos : 0 < d := by omega
    rw [f32_l0_eq]
    simp only [bin_gtr, hpos, decide_true, Option.bind_some, asBool_bool, if_true]
    rw [spec_SCF_l1_is h l hl far hf d at0 (by omega) (by omega) c (by omega) 9 1 rfl (by omega)]
    have e : (n : Int) + 1 = d := by omega
    simp only [scChain, e]
    cases hx : scNext l far d at0 9 with
    | none => exact spec_SCF_l0_is h l hl far hf n (d - 1) at0 c (by omega) (by omega) (by omega)
    | some v => exact spec_SCF_l0_is h l hl far hf n (d - 1) v (c ++ [v]) (by omega) (by omega) (by simp; omega)
theorem spec_SCF_l2_is (h : G_f32 E) (l : List Edge) (hl : l.length ≤ 1048576) (ha : areEdges l = true) : ∀ (n : Nat) (a : Int) (cur : Option (Int × Int)), a = 10 - n → 1 ≤ a → ScOK l cur →
    f32_l2 E (edgesU l) (.int .i64 (scS cur)) (.int .i64 (scN cur (-1))) (.int .i64 a) = some (intsU (scEnd l (scScan l n cur)))
  | 0, a, cur, hb, h1, hok => by
    have : ¬ a ≤ 9 := by omega
    rw [f32_l2_eq]
    cases cur with
    | none => simp [this, scScan, scEnd, scN]
    | some c =>
      obtain ⟨s, k⟩ := c
      obtain ⟨c1, c2, c3, c4⟩ := hok _ rfl
      simp only at c1 c2 c3 c4
      have hk : ¬ k < 0 := by omega
      have hw : IntKind.i64.wrap (k - 1) = k - 1 := wrap_in (by omega)
      simp only [bin_leq, this, decide_false, Option.bind_some, asBool_bool, Bool.false_eq_true, if_false, scN, scS, bin_lss, hk, f40_is h.c_f40 l hl (areEdges_ends ha), storable_int, partable_int, size_int, and_self, if_true, bin_sub, hw, scScan, scEnd]
      exact spec_SCF_l0_is h l hl (dist l s) (dist_length s) (k - 1).toNat (k - 1) s [s] (by omega) (by omega) (by simp; omega)
  | n + 1, a, cur, hb, h1, hok => by
    have h9 : a ≤ 9 := by omega
    have hw : IntKind.i64.wrap (a + 1) = a + 1 := wrap_in (by omega)
    have e : (9 : Int) - n = a := by omega
    have hE := areEdges_ends ha
    have ih := spec_SCF_l2_is h l hl ha n (a + 1) (scStep l cur a) (by omega) (by omega) (scStep_ok hE hok h1 h9)
    have hd : E 39 [edgesU l, .int .i64 a, .int .i64 a] = some (.int .i64 (at_ (dist l a) a)) := by
      rw [f28_is h.c_f28 l hl]
      have : inR a 1 9 = true := by simp [inR]; omega
      simp [edgeDistance, ha, this]
    rw [f32_l2_eq]
    simp only [scScan, e]
    rw [← ih]
    by_cases hp : 0 < at_ (dist l a) a
    · cases cur with
      | none =>
        simp only [bin_leq, h9, decide_true, Option.bind_some, asBool_bool, if_true, hd, bin_gtr, hp, scN, bin_lss, Int.reduceLT, bin_add, hw, scStep, Bool.and_self, scS, Int.reduceNeg]
      | some c =>
        obtain ⟨s, k⟩ := c
        obtain ⟨c1, c2, c3, c4⟩ := hok _ rfl
        simp only at c1 c2 c3 c4
        have hk : ¬ k < 0 := by omega
        by_cases hlt : at_ (dist l a) a < k
        · simp only [bin_leq, h9, decide_true, Option.bind_some, asBool_bool, if_true, hd, bin_gtr, hp, scN, bin_lss, hk, decide_false, Bool.false_eq_true, if_false, hlt, bin_add, hw, scStep, Bool.and_self, scS]
        · simp only [bin_leq, h9, decide_true, Option.bind_some, asBool_bool, if_true, hd, bin_gtr, hp, scN, bin_lss, hk, decide_false, Bool.false_eq_true, if_false, hlt, bin_add, hw, scStep, Bool.and_false, scS]
    · simp only [bin_leq, h9, decide_true, Option.bind_some, asBool_bool, if_true, hd, bin_gtr, hp, decide_false, Bool.false_eq_true, if_false, bin_add, hw, scStep, Bool.false_and]
theorem spec_SCF_none (h : G_f32 E) (l : List Edge) (hl : l.length ≤ 1048576) (ha : areEdges l = false) : ∀ (n : Nat) (a : Int), a = 10 - n → 1 ≤ a →
    f32_l2 E (edgesU l) (.int .i64 0) (.int .i64 (-1)) (.int .i64 a) = some (.sl 1 [])
  | 0, a, hb, h1 => by
    have : ¬ a ≤ 9 := by omega
    rw [f32_l2_eq]
    simp [this]
  | n + 1, a, hb, h1 => by
    have h9 : a ≤ 9 := by omega
    have hw : IntKind.i64.wrap (a + 1) = a + 1 := wrap_in (by omega)
    have ih := spec_SCF_none h l hl ha n (a + 1) (by omega) (by omega)
    have hd : E 39 [edgesU l, .int .i64 a, .int .i64 a] = some (.int .i64 (-1)) := by
      rw [f28_is h.c_f28 l hl]
      simp [edgeDistance, ha]
    rw [f32_l2_eq]
    simp [h9, hd, hw, ih]
theorem f32_is (h : G_f32 E) (l : List Edge) (hl : l.length ≤ 1048576) : E 100080 [edgesU l] = some (intsU (shortest l)) := by
  rw [f32_E h]
  unfold shortest
  cases ha : areEdges l with
  | false => exact spec_SCF_none h l hl ha 9 1 rfl (by omega)
  | true => exact spec_SCF_l2_is h l hl ha 9 1 none rfl (by omega) (fun c e => by cases e)
def nxt (c p : List Int) : Int := c.getD ((p.length + 1) % c.length) 0
def cycEdges (l : List Edge) (c : List Int) : List Int → List Int → List Edge
  | _, [] => []
  | p, x :: r => match l.find? (isEdge x (nxt c p)) with
    | some e => e :: cycEdges l c (p ++ [x]) r
    | none => cycEdges l c (p ++ [x]) r
def edgesOf (l : List Edge) (c : List Int) : List Edge := if isCycle l c then cycEdges l c [] c else []
theorem idxF_find {α : Type} (P : α → Bool) (l : List α) : ∀ (i : Int), (l.find? P = none ∧ idxF P l i = -1) ∨ ∃ p x r, l = p ++ x :: r ∧ idxF P l i = i + p.length ∧ l.find? P = some x := by
  induction l with
  | nil => intro i; left; simp [idxF]
  | cons x r ih =>
    intro i
    cases h : P x with
    | true => right; exact ⟨[], x, r, rfl, by simp [idxF, h], by simp [h]⟩
    | false =>
      rcases ih (i + 1) with ⟨h1, h2⟩ | ⟨p, y, s, h1, h2, h3⟩
      · left; simp [h, h1, h2, idxF]
      · right
        refine ⟨x :: p, y, s, by rw [h1]; rfl, ?_, by simp [h, h3]⟩
        simp only [idxF, h, Bool.false_eq_true, if_false, h2, List.length_cons]
        omega
theorem f6_is (h : G_f6 E) (e : Edge) (a b : Int) : E 88 [e.u, .vp (.int .i64 a), .vp (.int .i64 b)] = some (.bool (isEdge a b e)) := by
  rw [f6_E h]
  by_cases h1 : e.frm = a <;> simp [isEdge, h1]
theorem cycFrom_find {l : List Edge} {c p r : List Int} {x : Int} (h : cycFrom l c p (x :: r) = true) : (∃ e, l.find? (isEdge x (nxt c p)) = some e) ∧ cycFrom l c (p ++ [x]) r = true := by
  simp only [cycFrom, Bool.and_eq_true] at h
  obtain ⟨⟨_, h1⟩, h2⟩ := h
  refine ⟨?_, h2⟩
  cases hf : l.find? (isEdge x (nxt c p)) with
  | some e => exact ⟨e, rfl⟩
  | none =>
    rw [List.find?_eq_none] at hf
    simp only [hasEdge, List.any_eq_true] at h1
    obtain ⟨y, hy, h3⟩ := h1
    exact absurd h3 (hf y hy)
theorem impl_CE_l0_is (h : G_f5 E) (l : List Edge) (hl : l.length ≤ 1048576) (c : List Int) (hc : c.length ≤ 1048576) : ∀ (r p : List Int) (i : Int) (out : List Edge), c = p ++ r → i = p.length → out.length ≤ p.length → cycFrom l c p r = true →
    f5_l0 E (edgesU l) (intsU c) (intsU c) (.int .i64 c.length) (.int .i64 i) (out.map Edge.u) = some (edgesU (out ++ cycEdges l c p r))
  | [], p, i, out, e, hi, ho, hy => by
    have hlt : ¬ i < (c.length : Int) := mid_end e hi
    rw [f5_l0_eq]
    simp only [bin_lss, hlt, decide_false, Option.bind_some, asBool_bool, Bool.false_eq_true, if_false, cycEdges, List.append_nil, true_and, flats_edges, if_true]
  | x :: r, p, i, out, e, hi, ho, hy => by
    obtain ⟨h0, hlt, hx, hw, hn, _⟩ := mid_at e hi (by omega)
    obtain ⟨j, hj, hz, hj2⟩ := next_at e hi hc
    have hz2 : ¬ (c.length : Int) = 0 := fun e => hz e
    have hpl : p.length ≤ 1048576 := by have := congrArg List.length e; simp at this; omega
    obtain ⟨⟨y, hf⟩, hy2⟩ := cycFrom_find hy
    have hi66 := f22_is h.c_f22 l (by omega) 88 [.vp (.int .i64 x), .vp (.int .i64 (nxt c p))] (isEdge x (nxt c p)) (fun e _ => f6_is h.c_f6 e x (nxt c p))
    obtain ⟨q, y2, s, e2, hk, hf2⟩ : ∃ q y s, l = q ++ y :: s ∧ idxF (isEdge x (nxt c p)) l 0 = (q.length : Int) ∧ l.find? (isEdge x (nxt c p)) = some y := by
      rcases idxF_find (isEdge x (nxt c p)) l 0 with ⟨h1, _⟩ | ⟨q, y2, s, h1, h2, h3⟩
      · rw [hf] at h1; cases h1
      · exact ⟨q, y2, s, h1, by rw [h2]; omega, h3⟩
    rw [hf] at hf2
    cases hf2
    obtain ⟨k0, klt, kx, kw, kn, _⟩ := mid_at (i := (q.length : Int)) e2 rfl (by omega)
    have hlen : ((out.map Edge.u).length + [Edge.u y].length) * 32 ≤ 140737488355328 := by simp; omega
    have ih := impl_CE_l0_is h l hl c hc r (p ++ [x]) (i + 1) (out ++ [y]) (mid_next e) hn (by simp; omega) hy2
    have hnx : c.getD ((p.length + 1) % c.length) 0 = nxt c p := rfl
    rw [f5_l0_eq]
    simp only [bin_lss, hlt, decide_true, Option.bind_some, asBool_bool, if_true, asInt_int, hx, asVar_intU, storable_int, partable_int, size_int, and_self, bin_add, hw, lenOf_sl, List.length_map, bin_rem, hz2, if_false, hj, hj2, hnx]
    simp only [edgesU, hi66, Option.bind_some, asFlat_int, asInt_int, hk, kx, Edge.u_var, Edge.u_storable, Edge.u_partable, Edge.u_size, and_self, if_true]
    simp only [List.length_map] at hlen
    rw [if_pos ⟨trivial, trivial, hlen⟩]
    simp only [List.map_append, List.map_cons, List.map_nil, edgesU] at ih
    simp only [cycEdges, hf]
    rw [ih]
    simp
def orNilE (l : List Edge) (c : List Int) : U := if isCycle l c then edgesU (edgesOf l c) else .nsl 4
theorem f5_is (h : G_f5 E) (l : List Edge) (hl : l.length ≤ 1048576) (c : List Int) (hc : c.length ≤ 1048576) : E 84 [edgesU l, intsU c] = some (orNilE l c) := by
  rw [f5_E h]
  unfold orNilE edgesOf
  cases hy : isCycle l c with
  | false => simp [f4_is h.c_f4 l hl c hc, hy]
  | true =>
    have hy2 : cycFrom l c [] c = true := by
      simp only [isCycle, Bool.and_eq_true] at hy
      exact hy.2
    simp only [f4_is h.c_f4 l hl c hc, hy, Option.bind_some, un_not, Bool.not_true, asBool_bool, Bool.false_eq_true, if_false, lenOf_sl, List.length_map, if_true]
    exact impl_CE_l0_is h l hl c hc c [] 0 [] rfl rfl (by simp) hy2
def walk (l : List Edge) (to : Int) : Nat → Int → Prop
  | 0, v => v = to
  | n + 1, v => ∃ e ∈ l, e.frm = v ∧ walk l to n e.to
structure FarK (l : List Edge) (to : Int) (d : Int) (o : List Int) : Prop where
  know : Know to d o
  some_ : ∀ v : Int, 0 ≤ v → v ≤ 9 → at_ o v < 0 ∨ (1 ≤ at_ o v ∧ walk l to (at_ o v).toNat v)
  all_ : ∀ v : Int, 0 ≤ v → v ≤ 9 → ∀ n : Nat, 1 ≤ n → (n : Int) < d → walk l to n v → 1 ≤ at_ o v ∧ at_ o v ≤ n
theorem far_start (l : List Edge) (to : Int) : FarK l to 1 (List.replicate 10 (-1)) := by
  refine ⟨know_start to, fun v h0 h9 => .inl ?_, fun v h0 h9 n h1 h2 => by omega⟩
  unfold at_
  rw [List.getD_eq_getElem?_getD, List.getElem?_replicate, if_pos (by omega)]
  show (-1 : Int) < 0
  omega
theorem FarK.next {l : List Edge} {to d : Int} {o : List Int} (hE : Ends l) (h : FarK l to d o) : FarK l to (d + 1) (round l to d o) := by
  have hd := h.know.pos
  have hat : ∀ v, 0 ≤ v → at_ (round l to d o) v = if at_ o v < 0 ∧ (∃ e ∈ l, e.frm = v ∧ layer to d o e.to = true) then d else at_ o v := fun v hv => by
    rw [round, fold_at _ d (by omega) l o hE h.know.len v hv]
  have hlay : ∀ v : Int, 0 ≤ v → v ≤ 9 → layer to d o v = true → walk l to (d - 1).toNat v := fun v h0 h9 hl => by
    unfold layer at hl
    split at hl
    · rename_i e
      subst e
      simpa [walk] using hl
    · rename_i hne
      have hv : at_ o v = d - 1 := by simpa using hl
      rcases h.some_ v h0 h9 with h1 | ⟨h1, h2⟩
      · omega
      · rw [← hv]; exact h2
  refine ⟨h.know.next hE, fun v h0 h9 => ?_, fun v h0 h9 n h1 hn hw => ?_⟩
  · rw [hat v h0]
    split
    · rename_i hc
      obtain ⟨_, e, he, hf, hl⟩ := hc
      have hee := hE e he
      refine .inr ⟨hd, ?_⟩
      have : d.toNat = (d - 1).toNat + 1 := by omega
      rw [this]
      exact ⟨e, he, hf, hlay e.to (by omega) (by omega) hl⟩
    · exact h.some_ v h0 h9
  · rw [hat v h0]
    by_cases hlt : (n : Int) < d
    · have := h.all_ v h0 h9 n h1 hlt hw
      rw [if_neg (by intro hc; omega)]
      exact this
    · have hnd : (n : Int) = d := by omega
      have hb := h.know.below v h0
      by_cases hneg : at_ o v < 0
      · suffices hs : ∃ e ∈ l, e.frm = v ∧ layer to d o e.to = true by
          rw [if_pos ⟨hneg, hs⟩]
          omega
        obtain ⟨m, rfl⟩ : ∃ m, n = m + 1 := ⟨n - 1, by omega⟩
        obtain ⟨e, he, hf, hw2⟩ := hw
        have hee := hE e he
        refine ⟨e, he, hf, ?_⟩
        unfold layer
        by_cases hd1 : d = 1
        · rw [if_pos hd1]
          obtain rfl : m = 0 := by omega
          simpa [walk] using hw2
        · rw [if_neg hd1]
          have h3 := h.all_ e.to (by omega) (by omega) m (by omega) (by omega) hw2
          by_cases heq : at_ o e.to = d - 1
          · simpa using heq
          · exfalso
            rcases h.some_ e.to (by omega) (by omega) with h4 | ⟨_, h4⟩
            · omega
            · have h5 := h.all_ v h0 h9 ((at_ o e.to).toNat + 1) (by omega) (by omega) ⟨e, he, hf, h4⟩
              omega
      · rw [if_neg (by intro hc; exact hneg hc.1)]
        rcases h.some_ v h0 h9 with h4 | ⟨h4, _⟩
        · exact absurd h4 hneg
        · omega
theorem far_rounds {l : List Edge} {to : Int} (hE : Ends l) : ∀ (n : Nat) (d : Int) (o : List Int), FarK l to d o → FarK l to (d + n) (rounds l to n d o)
  | 0, d, o, h => by simpa [rounds] using h
  | n + 1, d, o, h => by
    have := far_rounds hE n (d + 1) _ (h.next hE)
    rw [rounds]
    have e : d + ((n + 1 : Nat) : Int) = d + 1 + n := by omega
    rw [e]
    exact this
theorem far_dist {l : List Edge} (hE : Ends l) (to : Int) : FarK l to 10 (dist l to) := far_rounds hE 9 1 _ (far_start l to)
theorem dist_walk {l : List Edge} (hE : Ends l) (to v : Int) (h0 : 0 ≤ v) (h9 : v ≤ 9) (h : 0 < at_ (dist l to) v) : walk l to (at_ (dist l to) v).toNat v := by
  rcases (far_dist hE to).some_ v h0 h9 with h1 | ⟨_, h2⟩
  · omega
  · exact h2
theorem walk_dist {l : List Edge} (hE : Ends l) (to v : Int) (h0 : 0 ≤ v) (h9 : v ≤ 9) (n : Nat) (h1 : 1 ≤ n) (hn : n ≤ 9) (h : walk l to n v) : 1 ≤ at_ (dist l to) v ∧ at_ (dist l to) v ≤ n := (far_dist hE to).all_ v h0 h9 n h1 (by omega) h
theorem hasEdge_iff {l : List Edge} {a b : Int} : hasEdge l a b = true ↔ ∃ e ∈ l, e.frm = a ∧ e.to = b := by
  simp [hasEdge, isEdge]
theorem dist_next {l : List Edge} (hE : Ends l) (to v : Int) (h0 : 0 ≤ v) (h9 : v ≤ 9) (d : Nat) (hd : 1 ≤ d) (h : at_ (dist l to) v = (d : Int) + 1) : ∃ b, 1 ≤ b ∧ b ≤ 9 ∧ at_ (dist l to) b = d ∧ hasEdge l v b = true := by
  have hle := dist_le hE to v h0
  have hw := dist_walk hE to v h0 h9 (by omega)
  have e1 : (at_ (dist l to) v).toNat = d + 1 := by omega
  rw [e1] at hw
  obtain ⟨e, he, hf, hw2⟩ := hw
  have hee := hE e he
  have h3 := walk_dist hE to e.to (by omega) (by omega) d hd (by omega) hw2
  refine ⟨e.to, by omega, by omega, ?_, hasEdge_iff.2 ⟨e, he, hf, rfl⟩⟩
  refine Classical.byContradiction fun hne => ?_
  have hw3 := dist_walk hE to e.to (by omega) (by omega) (by omega)
  have h4 := walk_dist hE to v h0 h9 ((at_ (dist l to) e.to).toNat + 1) (by omega) (by omega) ⟨e, he, hf, hw3⟩
  omega
theorem dist_one {l : List Edge} (hE : Ends l) (to v : Int) (h0 : 0 ≤ v) (h9 : v ≤ 9) (h : at_ (dist l to) v = 1) : hasEdge l v to = true := by
  have hw := dist_walk hE to v h0 h9 (by omega)
  rw [h] at hw
  obtain ⟨e, he, hf, hw2⟩ := hw
  exact hasEdge_iff.2 ⟨e, he, hf, hw2⟩
theorem scNext_some {l : List Edge} {far : List Int} {d at0 : Int} : ∀ {n : Nat} {b : Int}, n ≤ 9 → 9 - n < b → b ≤ 9 → at_ far b = d → hasEdge l at0 b = true → ∃ b', scNext l far d at0 n = some b' ∧ at_ far b' = d ∧ hasEdge l at0 b' = true
  | 0, b, hn, h1, h2, _, _ => by omega
  | n + 1, b, hn, h1, h2, h3, h4 => by
    simp only [scNext]
    split
    · rename_i hc
      simp only [Bool.and_eq_true, decide_eq_true_eq] at hc
      exact ⟨9 - n, rfl, hc.1, hc.2⟩
    · rename_i hc
      refine scNext_some (n := n) (b := b) (by omega) ?_ h2 h3 h4
      by_cases hb : b = 9 - n
      · exfalso
        apply hc
        rw [← hb]
        simp [h3, h4]
      · omega
def path (l : List Edge) (far : List Int) (s : Int) : Nat → Int → List Int → Prop
  | 0, a, bs => bs = [] ∧ hasEdge l a s = true
  | d + 1, a, bs => ∃ b r, bs = b :: r ∧ hasEdge l a b = true ∧ at_ far b = d + 1 ∧ (1 ≤ b ∧ b ≤ 9) ∧ path l far s d b r
theorem scChain_path {l : List Edge} (hE : Ends l) (s : Int) : ∀ (d : Nat) (a : Int) (out : List Int), 0 ≤ a → a ≤ 9 → at_ (dist l s) a = d + 1 → ∃ bs, scChain l (dist l s) d a out = out ++ bs ∧ bs.length = d ∧ path l (dist l s) s d a bs
  | 0, a, out, h0, h9, h => ⟨[], by simp [scChain], rfl, rfl, dist_one hE s a h0 h9 (by omega)⟩
  | d + 1, a, out, h0, h9, h => by
    obtain ⟨b, hb1, hb9, hb, he⟩ := dist_next hE s a h0 h9 (d + 1) (by omega) h
    obtain ⟨b', hs, hb', he'⟩ := scNext_some (l := l) (far := dist l s) (d := ((d + 1 : Nat) : Int)) (at0 := a) (n := 9) (b := b) (by omega) (by omega) hb9 hb he
    have hr := scNext_range (n := 9) (by omega) hs
    obtain ⟨bs, h1, h2, h3⟩ := scChain_path hE s d b' (out ++ [b']) (by omega) (by omega) (by omega)
    refine ⟨b' :: bs, ?_, by simp [h2], b', bs, rfl, he', by omega, hr, h3⟩
    have hs' : scNext l (dist l s) ((d : Int) + 1) a 9 = some b' := by simpa using hs
    simp only [scChain, hs', h1]
    simp
structure Scan (l : List Edge) (m : Int) (cur : Option (Int × Int)) : Prop where
  ok : ∀ c, cur = some c → 1 ≤ c.1 ∧ c.1 ≤ 9 ∧ c.2 = at_ (dist l c.1) c.1 ∧ 0 < c.2
  least : ∀ a : Int, 1 ≤ a → a < m → 0 < at_ (dist l a) a → ∃ c, cur = some c ∧ c.2 ≤ at_ (dist l a) a
theorem Scan.step {l : List Edge} {m : Int} {cur : Option (Int × Int)} (h : Scan l m cur) (h1 : 1 ≤ m) (h9 : m ≤ 9) : Scan l (m + 1) (scStep l cur m) := by
  have key : (scStep l cur m = cur ∧ (0 < at_ (dist l m) m → ∃ c, cur = some c ∧ c.2 ≤ at_ (dist l m) m)) ∨ (0 < at_ (dist l m) m ∧ scStep l cur m = some (m, at_ (dist l m) m) ∧ ∀ c, cur = some c → at_ (dist l m) m ≤ c.2) := by
    by_cases hp : 0 < at_ (dist l m) m
    · cases cur with
      | none => right; exact ⟨hp, by simp [scStep, hp], fun c hc => by cases hc⟩
      | some c =>
        by_cases hq : at_ (dist l m) m < c.2
        · right; exact ⟨hp, by simp [scStep, hp, hq], fun c' hc => by cases hc; omega⟩
        · left; exact ⟨by simp [scStep, hq], fun _ => ⟨c, rfl, by omega⟩⟩
    · left; exact ⟨by simp [scStep, hp], fun hp' => absurd hp' hp⟩
  rcases key with ⟨k1, k2⟩ | ⟨k0, k1, k2⟩
  · rw [k1]
    refine ⟨h.ok, fun a ha1 ha2 ha3 => ?_⟩
    by_cases e : a = m
    · subst e; exact k2 ha3
    · exact h.least a ha1 (by omega) ha3
  · rw [k1]
    refine ⟨fun c hc => ?_, fun a ha1 ha2 ha3 => ?_⟩
    · cases hc
      exact ⟨h1, h9, rfl, k0⟩
    · by_cases e : a = m
      · subst e; exact ⟨_, rfl, Int.le_refl _⟩
      · obtain ⟨c, hc, hle⟩ := h.least a ha1 (by omega) ha3
        have := k2 c hc
        exact ⟨_, rfl, by simp only; omega⟩
theorem scScan_scan {l : List Edge} : ∀ (n : Nat) (cur : Option (Int × Int)), n ≤ 9 → Scan l (10 - n) cur → Scan l 10 (scScan l n cur)
  | 0, cur, _, h => by simpa [scScan] using h
  | n + 1, cur, hn, h => by
    have e : (10 : Int) - ((n + 1 : Nat) : Int) = 9 - n := by omega
    rw [e] at h
    have := h.step (by omega) (by omega)
    have e2 : (9 : Int) - n + 1 = 10 - n := by omega
    rw [e2] at this
    exact scScan_scan n _ (by omega) this
theorem scan_all (l : List Edge) : Scan l 10 (scScan l 9 none) := scScan_scan 9 none (by omega) ⟨fun c hc => (by cases hc), fun a h1 h2 => (by omega)⟩
theorem path_cycle {l : List Edge} {far : List Int} {s : Int} {c : List Int} (hs : c.head? = some s) : ∀ (d : Nat) (a : Int) (bs p : List Int), path l far s d a bs → c = p ++ a :: bs → at_ far a = d + 1 → (∀ y ∈ p, (d : Int) + 1 < at_ far y) → cycFrom l c p (a :: bs) = true
  | 0, a, bs, p, hp, e, ha, hy => by
    obtain ⟨rfl, he⟩ := hp
    have hlen : c.length = p.length + 1 := by rw [e]; simp
    have hn : a ∉ p := fun h => by have := hy a h; omega
    have h0 : c.getD ((p.length + 1) % c.length) 0 = s := by
      rw [hlen, Nat.mod_self]
      cases c with
      | nil => simp at hlen
      | cons x r => simpa using hs
    simp only [cycFrom, hn, decide_false, Bool.not_false, Bool.true_and, h0, he, Bool.and_true]
  | d + 1, a, bs, p, hp, e, ha, hy => by
    obtain ⟨b, r, rfl, he, hb, _, hp2⟩ := hp
    have hlen : c.length = p.length + 2 + r.length := by rw [e]; simp; omega
    have hn : a ∉ p := fun h => by have := hy a h; omega
    have h0 : c.getD ((p.length + 1) % c.length) 0 = b := by
      rw [Nat.mod_eq_of_lt (by omega), List.getD_eq_getElem?_getD, e, List.getElem?_append_right (by omega)]
      simp
    have ih := path_cycle hs d b r (p ++ [a]) hp2 (by rw [e]; simp) (by omega) (fun y hyp => by
      rcases List.mem_append.1 hyp with h1 | h1
      · have := hy y h1; omega
      · obtain rfl : y = a := by simpa using h1
        omega)
    rw [cycFrom]
    simp only [hn, decide_false, Bool.not_false, Bool.true_and, h0, he, ih]
theorem areEdges_loop {l : List Edge} (h : areEdges l = true) : ∀ e ∈ l, e.frm ≠ e.to := by
  have : ∀ (l : List Edge) (p : Option Edge), edgesFrom p l = true → ∀ e ∈ l, e.frm ≠ e.to := by
    intro l
    induction l with
    | nil => intro p _ e he; cases he
    | cons x r ih =>
      intro p h e he
      simp only [edgesFrom, Bool.and_eq_true] at h
      rcases List.mem_cons.1 he with rfl | he
      · have := h.1.1
        simp only [edgeOK, Bool.and_eq_true, Bool.not_eq_true', decide_eq_false_iff_not] at this
        exact this.1.1.2
      · exact ih _ h.2 e he
  exact this l none h
theorem shortest_spec (l : List Edge) (h : areEdges l = true) : (shortest l = [] ∧ ∀ a : Int, 1 ≤ a → a ≤ 9 → at_ (dist l a) a ≤ 0) ∨
    ∃ s bs, shortest l = s :: bs ∧ 1 ≤ s ∧ s ≤ 9 ∧ at_ (dist l s) s = ((s :: bs).length : Int) ∧ isCycle l (shortest l) = true ∧ ∀ a : Int, 1 ≤ a → a ≤ 9 → 0 < at_ (dist l a) a → ((s :: bs).length : Int) ≤ at_ (dist l a) a := by
  have hE := areEdges_ends h
  have hsc := scan_all l
  unfold shortest
  rw [if_pos h]
  cases hr : scScan l 9 none with
  | none =>
    left
    refine ⟨rfl, fun a h1 h9 => ?_⟩
    refine Classical.byContradiction fun hn => ?_
    obtain ⟨c, hc, _⟩ := hsc.least a h1 (by omega) (by omega)
    rw [hr] at hc
    cases hc
  | some c =>
    obtain ⟨s, n⟩ := c
    obtain ⟨h1, h9, hn, hpos⟩ := hsc.ok (s, n) hr
    simp only at h1 h9 hn hpos
    obtain ⟨bs, hb1, hb2, hb3⟩ := scChain_path hE s (n - 1).toNat s [s] (by omega) h9 (by omega)
    have hb1' : scEnd l (some (s, n)) = s :: bs := by simpa [scEnd] using hb1
    have hlen : ((s :: bs).length : Int) = n := by simp only [List.length_cons, hb2]; omega
    have hn1 : n ≠ 1 := fun e => by
      have := dist_one hE s s (by omega) h9 (by omega)
      obtain ⟨e2, he2, hf, ht⟩ := hasEdge_iff.1 this
      exact areEdges_loop h e2 he2 (by rw [hf, ht])
    right
    refine ⟨s, bs, hb1', h1, h9, by omega, ?_, fun a ha1 ha9 hap => ?_⟩
    · rw [hb1']
      have hcf := path_cycle (l := l) (far := dist l s) (s := s) (c := s :: bs) rfl (n - 1).toNat s bs [] hb3 rfl (by omega) (fun y hy => by cases hy)
      have hl2 : 1 < (s :: bs).length := by omega
      simp only [isCycle, h, hcf, Bool.true_and, Bool.and_true, decide_eq_true_eq]
      exact hl2
    · obtain ⟨c, hc, hle⟩ := hsc.least a ha1 (by omega) hap
      rw [hr] at hc
      cases hc
      simp only at hle
      omega
theorem cycFrom_walk {l : List Edge} {c : List Int} {x0 : Int} (hx : c.head? = some x0) : ∀ (r p : List Int) (a : Int), c = p ++ a :: r → cycFrom l c p (a :: r) = true → walk l x0 (r.length + 1) a
  | [], p, a, e, h => by
    simp only [cycFrom, Bool.and_eq_true] at h
    have hlen : c.length = p.length + 1 := by rw [e]; simp
    have h0 : c.getD ((p.length + 1) % c.length) 0 = x0 := by
      rw [hlen, Nat.mod_self]
      cases c with
      | nil => simp at hlen
      | cons x r => simpa using hx
    rw [h0] at h
    obtain ⟨ed, he, hf, ht⟩ := hasEdge_iff.1 h.1.2
    exact ⟨ed, he, hf, ht⟩
  | b :: r, p, a, e, h => by
    rw [cycFrom] at h
    simp only [Bool.and_eq_true] at h
    have hlen : c.length = p.length + 2 + r.length := by rw [e]; simp; omega
    have h0 : c.getD ((p.length + 1) % c.length) 0 = b := by
      rw [Nat.mod_eq_of_lt (by omega), List.getD_eq_getElem?_getD, e, List.getElem?_append_right (by omega)]
      simp
    rw [h0] at h
    obtain ⟨ed, he, hf, ht⟩ := hasEdge_iff.1 h.1.2
    refine ⟨ed, he, hf, ?_⟩
    rw [ht]
    exact cycFrom_walk hx r (p ++ [a]) b (by rw [e]; simp) h.2
theorem cycFrom_nodup {l : List Edge} {c : List Int} : ∀ (r p : List Int), cycFrom l c p r = true → p.Nodup → (p ++ r).Nodup
  | [], p, _, hp => by simpa using hp
  | x :: r, p, h, hp => by
    simp only [cycFrom, Bool.and_eq_true, Bool.not_eq_true', decide_eq_false_iff_not] at h
    have h2 : (p ++ [x]).Nodup := List.nodup_append.2 ⟨hp, by simp, fun a ha b hb => by
      obtain rfl : b = x := by simpa using hb
      exact fun e => h.1.1 (e ▸ ha)⟩
    have := cycFrom_nodup r (p ++ [x]) h.2 h2
    simpa using this
theorem cycFrom_ends {l : List Edge} (hE : Ends l) {c : List Int} : ∀ (r p : List Int), cycFrom l c p r = true → ∀ x ∈ r, 1 ≤ x ∧ x ≤ 9
  | [], p, _, x, hx => by cases hx
  | y :: r, p, h, x, hx => by
    simp only [cycFrom, Bool.and_eq_true] at h
    rcases List.mem_cons.1 hx with rfl | hx
    · obtain ⟨ed, he, hf, _⟩ := hasEdge_iff.1 h.1.2
      have := hE ed he
      omega
    · exact cycFrom_ends hE r (p ++ [y]) h.2 x hx
theorem nodup_len9 : ∀ (n : Nat) (l : List Int), l.Nodup → (∀ x ∈ l, 1 ≤ x ∧ x ≤ n) → l.length ≤ n
  | 0, [], _, _ => Nat.le_refl _
  | 0, x :: l, _, h => by have := h x (by simp); omega
  | n + 1, l, hn, h => by
    have h1 := nodup_len9 n (l.erase ((n : Int) + 1)) (hn.erase _) (fun x hx => by
      have h2 := (hn.mem_erase_iff).1 hx
      have h3 := h x h2.2
      have h4 := h2.1
      omega)
    have := List.length_erase_le (a := (n : Int) + 1) (l := l)
    rw [List.length_erase] at h1
    split at h1 <;> omega
theorem cycle_long (l : List Edge) (c : List Int) (h : isCycle l c = true) : (shortest l).length ≤ c.length := by
  simp only [isCycle, Bool.and_eq_true, decide_eq_true_eq] at h
  obtain ⟨⟨ha, hl⟩, hc⟩ := h
  have hE := areEdges_ends ha
  cases c with
  | nil => simp at hl
  | cons x0 r =>
    have hw := cycFrom_walk (x0 := x0) rfl r [] x0 rfl hc
    have hnd := cycFrom_nodup (x0 :: r) [] hc List.nodup_nil
    rw [List.nil_append] at hnd
    have hen := cycFrom_ends hE (x0 :: r) [] hc
    have h9 := nodup_len9 9 (x0 :: r) hnd (fun x hx => hen x hx)
    simp only [List.length_cons] at h9
    have hx0 := hen x0 (by simp)
    have hd := walk_dist hE x0 x0 (by omega) hx0.2 (r.length + 1) (by omega) (by omega) hw
    rcases shortest_spec l ha with ⟨h1, _⟩ | ⟨s, bs, h1, _, _, _, _, h2⟩
    · rw [h1]; simp
    · have := h2 x0 hx0.1 hx0.2 (by omega)
      rw [h1]
      simp only [List.length_cons] at this ⊢
      omega
theorem cycEdges_at (l : List Edge) (c : List Int) : ∀ (r p : List Int), c = p ++ r → cycFrom l c p r = true → (cycEdges l c p r).length = r.length ∧ ∀ (i : Nat) (e : Edge), (cycEdges l c p r)[i]? = some e → e.frm = c.getD (p.length + i) 0 ∧ e.to = c.getD ((p.length + i + 1) % c.length) 0
  | [], p, e, h => ⟨rfl, fun i e2 h2 => by simp [cycEdges] at h2⟩
  | x :: r, p, e, h => by
    obtain ⟨⟨ed, hf⟩, hr⟩ := cycFrom_find h
    obtain ⟨h1, h2⟩ := cycEdges_at l c r (p ++ [x]) (by rw [e]; simp) hr
    have hp := List.find?_some hf
    simp only [isEdge, Bool.and_eq_true, decide_eq_true_eq] at hp
    simp only [cycEdges, hf]
    refine ⟨by simp [h1], fun i e2 he2 => ?_⟩
    cases i with
    | zero =>
      simp only [List.getElem?_cons_zero, Option.some.injEq] at he2
      subst he2
      refine ⟨?_, hp.2⟩
      rw [hp.1, List.getD_eq_getElem?_getD, e, List.getElem?_append_right (by omega)]
      simp
    | succ i =>
      have := h2 i e2 (by simpa using he2)
      simp only [List.length_append, List.length_cons, List.length_nil] at this
      rw [show p.length + (i + 1) = p.length + (0 + 1) + i by omega]
      exact this
theorem spec_l19PutC_end (l : List Edge) (hl : l.length ≤ 100000000) (e : Edge) :
    f35_l0 E (.vp e.u) (.int .i64 l.length) (l.map Edge.u) = some (.sl 4 ((l ++ [e]).map Edge.u)) := by
  have hb : (l.length + 1) * 32 ≤ 140737488355328 := by omega
  have hb0 : l.length * 32 ≤ 140737488355328 := by omega
  have hf : U.flat.flats (l.map Edge.u ++ [e.u]) = true := by
    have := flats_edges (l ++ [e])
    rwa [List.map_append] at this
  have ht : List.take l.length (l.map Edge.u) = l.map Edge.u := List.take_of_length_le (by simp)
  have hd : List.drop l.length (l.map Edge.u) = [] := List.drop_of_length_le (by simp)
  rw [f35_l0_eq]
  simp [U.asVp, hb, hb0, hf, ht, hd]
theorem edge_get {l p r : List Edge} {x : Edge} (el : l = p ++ x :: r) : (l.map Edge.u)[p.length]? = some x.u := by
  rw [el, List.map_append, List.getElem?_append_right (by simp)]
  simp
theorem spec_l19PutC_on (h : G_f35 E) (l p r : List Edge) (hl : l.length ≤ 100000000) (e x : Edge) (el : l = p ++ x :: r) (hlx : edgeLt x e = true) :
    f35_l0 E (.vp e.u) (.int .i64 p.length) (l.map Edge.u) = f35_l0 E (.vp e.u) (.int .i64 (p.length + 1)) (l.map Edge.u) := by
  have hll : l.length = p.length + r.length + 1 := by rw [el]; simp; omega
  have hls := f34_is h.c_f34 x e
  have hlt : p.length < l.length := by omega
  have hg := edge_get el
  have hw : IntKind.i64.wrap ((p.length : Int) + 1) = p.length + 1 := wrap_in (by omega)
  rw [List.getElem?_map] at hg
  rw [f35_l0_eq]
  simp only [bin_lss, List.length_map, Option.bind_some, Int.ofNat_lt, hlt, decide_true, asBool_bool, if_true, asInt_int, Int.toNat_natCast, List.getElem?_map, hg, Edge.u_var, Edge.u_flat, U.asVp, hls, hlx, bin_add, hw]
  rw [if_pos ⟨by trivial, by omega, by trivial⟩]
theorem spec_l19PutC_here (h : G_f35 E) (l p r : List Edge) (hl : l.length ≤ 100000000) (e : Edge) (el : l = p ++ e :: r) (hlx : edgeLt e e = false) :
    f35_l0 E (.vp e.u) (.int .i64 p.length) (l.map Edge.u) = some (.sl 4 (l.map Edge.u)) := by
  have hll : l.length = p.length + r.length + 1 := by rw [el]; simp; omega
  have hls := f34_is h.c_f34 e e
  have hlt : p.length < l.length := by omega
  have hg := edge_get el
  rw [List.getElem?_map] at hg
  rw [f35_l0_eq]
  simp only [bin_lss, List.length_map, Option.bind_some, Int.ofNat_lt, hlt, decide_true, asBool_bool, if_true, asInt_int, Int.toNat_natCast, List.getElem?_map, hg, Edge.u_var, Edge.u_flat, U.asVp, hls, hlx, Bool.false_eq_true, if_false, Edge.u_eqv]
  rw [if_pos ⟨by trivial, by omega, by trivial⟩, if_pos ⟨by trivial, by omega, by trivial⟩]
theorem spec_l19PutC_ahead (h : G_f35 E) (l p r : List Edge) (hl : l.length ≤ 100000000) (e x : Edge) (el : l = p ++ x :: r) (hlx : edgeLt x e = false) (he : x ≠ e) :
    f35_l0 E (.vp e.u) (.int .i64 p.length) (l.map Edge.u) = some (.sl 4 ((p ++ e :: x :: r).map Edge.u)) := by
  have hll : l.length = p.length + r.length + 1 := by rw [el]; simp; omega
  have hls := f34_is h.c_f34 x e
  have hlt : p.length < l.length := by omega
  have hg := edge_get el
  rw [List.getElem?_map] at hg
  have hA : List.take (p.length - 0) (List.drop 0 (l.map Edge.u)) = p.map Edge.u := by
    rw [el, List.map_append]
    simp
  have hB : List.take (l.length - p.length) (List.drop p.length (l.map Edge.u)) = (x :: r).map Edge.u := by
    rw [el, List.map_append, List.drop_append_of_le_length (by simp), List.drop_of_length_le (by simp)]
    rw [List.nil_append]
    refine List.take_of_length_le ?_
    simp
  have hf : U.flat.flats ([] ++ p.map Edge.u ++ [e.u] ++ (x :: r).map Edge.u) = true := by
    have := flats_edges (p ++ e :: x :: r)
    simpa [List.map_append] using this
  rw [f35_l0_eq]
  simp only [bin_lss, List.length_map, Option.bind_some, Int.ofNat_lt, hlt, decide_true, asBool_bool, if_true, asInt_int, Int.toNat_natCast, List.getElem?_map, hg, Edge.u_var, Edge.u_flat, U.asVp, hls, hlx, Bool.false_eq_true, if_false, Edge.u_eqv, decide_eq_false he, Int.toNat_zero, hA, hB, hf, flats_edges, Edge.u_partable, Edge.u_size, and_self]
  rw [if_pos ⟨by trivial, by omega, by trivial⟩, if_pos ⟨by trivial, by omega, by trivial⟩, if_pos ⟨by trivial, by trivial, by omega, by omega, by omega⟩, if_pos ⟨by trivial, by trivial, by omega, by omega, by omega⟩]
  rw [if_pos (by omega), if_pos ⟨by trivial, by trivial, by simp; omega⟩, if_pos ⟨by trivial, by trivial, by simp; omega⟩, if_pos (by omega), if_pos ⟨by trivial, by trivial, by simp; omega⟩]
  simp
theorem spec_l19PutC_l0_is (h : G_f35 E) (l : List Edge) (hl : l.length ≤ 100000000) (e : Edge) : ∀ (r p : List Edge), l = p ++ r →
    ∃ es : List Edge, f35_l0 E (.vp e.u) (.int .i64 p.length) (l.map Edge.u) = some (.sl 4 (es.map Edge.u)) ∧ es.length ≤ l.length + 1
  | [], p, el => by
    have : l = p := by rw [el]; simp
    subst this
    exact ⟨l ++ [e], spec_l19PutC_end l hl e, by simp⟩
  | x :: r, p, el => by
    have hll : l.length = p.length + r.length + 1 := by rw [el]; simp; omega
    obtain ⟨es, ih, ih2⟩ := spec_l19PutC_l0_is h l hl e r (p ++ [x]) (by rw [el]; simp)
    rw [List.length_append, List.length_cons, List.length_nil] at ih
    cases hlx : edgeLt x e with
    | true => exact ⟨es, by rw [spec_l19PutC_on h l p r hl e x el hlx]; simpa using ih, ih2⟩
    | false =>
      by_cases he : x = e
      · subst he
        exact ⟨l, spec_l19PutC_here h l p r hl x el hlx, by omega⟩
      · exact ⟨p ++ e :: x :: r, spec_l19PutC_ahead h l p r hl e x el hlx he, by simp; omega⟩
theorem spec_l19PutC_is (h : G_f35 E) (l : List Edge) (hl : l.length ≤ 100000000) (e : Edge) : ∃ es : List Edge, E 300356 (.agg [.tup [.sl 4 (l.map Edge.u)]] :: [e.u]) = some (.sl 4 (es.map Edge.u)) ∧ es.length ≤ l.length + 1 := by
  rw [f35_E h]
  obtain ⟨es, h1, h2⟩ := spec_l19PutC_l0_is h l hl e l [] rfl
  rw [show ((([] : List Edge).length : Nat) : Int) = 0 from rfl] at h1
  by_cases c1 : e.frm = 0
  · exact ⟨l, by simp [c1], by omega⟩
  · by_cases c2 : e.to = 0
    · exact ⟨l, by simp [c1, c2], by omega⟩
    · by_cases c3 : e.frm = e.to
      · exact ⟨l, by simp [c1, c2, c3], by omega⟩
      · exact ⟨es, by simp [c1, c2, c3, h1], h2⟩
def DrawsE (bs : List Int) (o : Option U) : Prop := ∃ (es : List Edge) (i s : Int), o = some (.tup [.sl 4 (es.map Edge.u), curU bs i s]) ∧ es.length ≤ 1000 ∧ 0 ≤ i ∧ i ≤ 2000000
theorem spec_l19Edges_l0_is (h : G_f33 E) (bs : List Int) (hb : bs.length ≤ 1048576) : ∀ (n : Nat) (es : List Edge) (i s : Int), n ≤ 8 → es.length + n ≤ 900 → 0 ≤ i → i ≤ 2000000 →
    DrawsE bs (f33_l0 E (.int .i64 n) (es.map Edge.u) (.sl 1 (bs.map byteU)) (.int .i64 i) (.int .i64 s))
  | 0, es, i, s, hn, hl, h0, h1 => by
    obtain ⟨b, i1, s1, e1, a1, b1⟩ := spec_l1Once_is h.c_f39 bs hb 14 (by omega) (by omega) i s h0 h1
    obtain ⟨x2, i2, s2, e2, _, a2, b2⟩ := spec_l1Below_is h.c_f36 bs hb 11 (by omega) (by omega) i1 s1 a1 b1
    obtain ⟨x3, i3, s3, e3, _, a3, b3⟩ := spec_l1Below_is h.c_f36 bs hb 11 (by omega) (by omega) i2 s2 a2 b2
    obtain ⟨x4, i4, s4, e4, _, a4, b4⟩ := spec_l1Below_is h.c_f36 bs hb 5 (by omega) (by omega) i3 s3 a3 b3
    obtain ⟨x5, i5, s5, e5, _, a5, b5⟩ := spec_l1Below_is h.c_f36 bs hb 7 (by omega) (by omega) i4 s4 a4 b4
    have hk : (es.length + 1) * 32 ≤ 140737488355328 := by omega
    have p1 : ∀ n : Int, (partable (.val (.int .i64 n)) = true ∧ (.int .i64 n : U).size = 1) := fun n => ⟨rfl, rfl⟩
    have p2 : (partable (.val (.agg [.int .i64 x2, .int .i64 x3, .int .i64 x4, .int .i64 x5])) = true ∧ ((.agg [.int .i64 x2, .int .i64 x3, .int .i64 x4, .int .i64 x5]) : U).size = 4) := ⟨rfl, rfl⟩
    have p3 : U.flat.flats [(.agg [.int .i64 x2, .int .i64 x3, .int .i64 x4, .int .i64 x5] : U)] = true := rfl
    cases b with
    | false =>
      refine ⟨es, i1, s1, ?_, by omega, a1, b1⟩
      rw [f33_l0_eq]
      simp [e1, U.asVp, U.asSlK]
    | true =>
      refine ⟨es ++ [⟨x2, x3, x4, x5⟩], i5, s5, ?_, by simp; omega, a5, b5⟩
      rw [f33_l0_eq]
      simp [e1, e2, e3, e4, e5, U.asVp, U.asSlK, p1, p2, p3, hk, Edge.u]
  | n + 1, es, i, s, hn, hl, h0, h1 => by
    obtain ⟨x2, i2, s2, e2, r2, a2, b2⟩ := spec_l1Below_is h.c_f36 bs hb 5 (by omega) (by omega) i s h0 h1
    obtain ⟨x3, i3, s3, e3, r3, a3, b3⟩ := spec_l1Below_is h.c_f36 bs hb 5 (by omega) (by omega) i2 s2 a2 b2
    obtain ⟨x4, i4, s4, e4, r4, a4, b4⟩ := spec_l1Below_is h.c_f36 bs hb 3 (by omega) (by omega) i3 s3 a3 b3
    obtain ⟨x5, i5, s5, e5, r5, a5, b5⟩ := spec_l1Below_is h.c_f36 bs hb 3 (by omega) (by omega) i4 s4 a4 b4
    have w2 : IntKind.i64.wrap (1 + x2) = 1 + x2 := wrap_in (by omega)
    have w3 : IntKind.i64.wrap (1 + x3) = 1 + x3 := wrap_in (by omega)
    have w4 : IntKind.i64.wrap (1 + x4) = 1 + x4 := wrap_in (by omega)
    obtain ⟨es', e6, l6⟩ := spec_l19PutC_is h.c_f35 es (by omega) ⟨1 + x2, 1 + x3, 1 + x4, x5⟩
    have ih := spec_l19Edges_l0_is h bs hb n es' i5 s5 (by omega) (by omega) a5 b5
    have hpos : (0 : Int) < ((n + 1 : Nat) : Int) := by omega
    have hw : IntKind.i64.wrap (((n + 1 : Nat) : Int) - 1) = n := by rw [wrap_in (by omega)]; omega
    have p1 : ∀ n : Int, (partable (.val (.int .i64 n)) = true ∧ (.int .i64 n : U).size = 1) := fun n => ⟨rfl, rfl⟩
    simp only [Edge.u] at e6
    rw [f33_l0_eq]
    simp only [bin_gtr, hpos, decide_true, Option.bind_some, asBool_bool, if_true, e2, e3, e4, e5, asPtr_of, U.asVp, asAgg_agg, U.asSlK, asInt_int, bin_add, w2, w3, w4, if_pos (p1 _), e6, bin_sub, hw]
    exact ih
theorem spec_l19Edges_is (h : G_f33 E) (bs : List Int) (hb : bs.length ≤ 1048576) (i s : Int) (h0 : 0 ≤ i) (h1 : i ≤ 2000000) : DrawsE bs (E 400415 (.agg [.tup [curU bs i s]] :: [])) := by
  obtain ⟨x, i1, s1, e1, r1, a1, b1⟩ := spec_l1Below_is h.c_f36 bs hb 8 (by omega) (by omega) i s h0 h1
  have h2 := spec_l19Edges_l0_is h bs hb x.toNat [] i1 s1 (by omega) (by simp; omega) a1 b1
  have e : ((x.toNat : Nat) : Int) = x := by omega
  rw [e] at h2
  rw [f33_E h]
  simp only [e1, Option.bind_some, asPtr_of, U.asVp, asAgg_agg, U.asSlK, if_true, asInt_int]
  rw [if_pos (by rfl)]
  exact h2
theorem spec_DSC_l0_is (h : G_f27 E) (bs : List Int) (hb : bs.length ≤ 1048576) : ∀ (r p : List Int) (i s : Int), bs = p ++ r → i = p.length →
    ∃ es : List Edge, f27_i0_l0 E (.sl 1 (bs.map byteU)) (.int .i64 s) (.int .i64 i) = some (.sl 4 (es.map Edge.u)) ∧ es.length ≤ 1000
  | [], p, i, s, e, hi => by
    obtain ⟨es, i1, s1, e1, l1, _⟩ := spec_l19Edges_is h.c_f33 bs hb 0 s (by omega) (by omega)
    refine ⟨es, ?_, l1⟩
    rw [f27_i0_l0_eq]
    simp [mid_end e hi, e1, U.asVp, U.asSlK]
  | x :: r, p, i, s, e, hi => by
    obtain ⟨h0, hlt, hx, hw, hn, _⟩ := mid_at e hi (by omega)
    rw [f27_i0_l0_eq]
    by_cases h4 : i < 4000
    · obtain ⟨a, ea⟩ := and_some (IntKind.i64.wrap (IntKind.i64.wrap (IntKind.i64.wrap (s * 131) + IntKind.i64.wrap x) + 7)) 1073741823
      obtain ⟨es, ih, l1⟩ := spec_DSC_l0_is h bs hb r (p ++ [x]) (i + 1) a (mid_next e) hn
      refine ⟨es, ?_, l1⟩
      simp [hlt, h4, hx, hw, byteU, U.conv, ea, ih]
    · obtain ⟨es, i1, s1, e1, l1, _⟩ := spec_l19Edges_is h.c_f33 bs hb 0 s (by omega) (by omega)
      refine ⟨es, ?_, l1⟩
      simp [hlt, h4, e1, U.asVp, U.asSlK]
theorem f27_is (h : G_f27 E) (bs : List Int) (hb : bs.length ≤ 1048576) : ∃ es : List Edge, E 412 [.sl 1 (bs.map byteU)] = some (.sl 4 (es.map Edge.u)) ∧ es.length ≤ 1000 := by
  obtain ⟨es, e1, l1⟩ := spec_DSC_l0_is h bs hb bs [] 0 (IntKind.i64.wrap (10101 + bs.length)) rfl rfl
  refine ⟨es, ?_, l1⟩
  rw [f27_E h]
  simp [e1]
theorem shortest_length (l : List Edge) : (shortest l).length ≤ 900 := by
  cases h : areEdges l with
  | false => simp [shortest, h]
  | true =>
    rcases shortest_spec l h with ⟨h1, _⟩ | ⟨s, bs, h1, hs1, hs9, h2, _, _⟩
    · rw [h1]; simp
    · have := dist_le (areEdges_ends h) s s (by omega)
      rw [h1]
      omega
theorem l20_rest (h : G_f41 E) (bs : List Int) (hb : bs.length ≤ 1048576) (s : Int) : ∃ (es : List Edge) (c : List Int) (i1 s1 i2 s2 i3 s3 x : Int) (b : Bool),
    E 400415 (.agg [.tup [curU bs 0 s]] :: []) = some (.tup [.sl 4 (es.map Edge.u), curU bs i1 s1]) ∧ E 100080 [edgesU es] = some (intsU (shortest es)) ∧ E 400417 (.agg [.tup [curU bs i1 s1]] :: [.int .i64 4]) = some (.tup [.bool b, curU bs i2 s2]) ∧
    E 400416 (.agg [.tup [curU bs i2 s2]] :: [.int .i64 5]) = some (.tup [.int .i64 x, curU bs i3 s3]) ∧ es.length ≤ 1000 ∧ IntKind.i64.wrap (1 + x) = 1 + x ∧ (shortest es).length ≤ 900 := by
  obtain ⟨es, i1, s1, e1, l1, a1, b1⟩ := spec_l19Edges_is h.c_f33 bs hb 0 s (by omega) (by omega)
  obtain ⟨b, i2, s2, e2, a2, b2⟩ := spec_l1Once_is h.c_f39 bs hb 4 (by omega) (by omega) i1 s1 a1 b1
  obtain ⟨x, i3, s3, e3, r3, a3, b3⟩ := spec_l1Below_is h.c_f36 bs hb 5 (by omega) (by omega) i2 s2 a2 b2
  exact ⟨es, [], i1, s1, i2, s2, i3, s3, x, b, e1, f32_is h.c_f32 es (by omega), e2, e3, l1, wrap_in (by omega), shortest_length es⟩
def DrawsP (o : Option U) : Prop := ∃ (es : List Edge) (c : List Int), o = some (.tup [.sl 4 (es.map Edge.u), .sl 1 (c.map intU)]) ∧ es.length ≤ 1000 ∧ c.length ≤ 1000
theorem asBoolF {γ : Type} (a b : Option γ) : U.asBool (.bool false) a b = b := rfl
theorem asBoolT {γ : Type} (a b : Option γ) : U.asBool (.bool true) a b = a := rfl
theorem len_bytes (bs : List Int) : U.lenOf false (.sl 1 (bs.map byteU)) = some bs.length := by simp
theorem partB_ok (bs : List Int) : partable (.val (.sl 1 (bs.map byteU))) = true ∧ (.sl 1 (bs.map byteU) : U).size = 1 := ⟨rfl, rfl⟩
theorem partI_ok (n : Int) : partable (.val (.int .i64 n)) = true ∧ (.int .i64 n : U).size = 1 := ⟨rfl, rfl⟩
theorem f41_end (h : G_f41 E) (bs : List Int) (hb : bs.length ≤ 1048576) (i s : Int) (hlt : ¬ i < (bs.length : Int)) :
    DrawsP (f41_i0_l0 E (.sl 1 (bs.map byteU)) (.int .i64 s) (.int .i64 i)) := by
  obtain ⟨es, c, i1, s1, i2, s2, i3, s3, x, b, e1, e2, e3, e4, l1, w1, l2⟩ := l20_rest h bs hb s
  have hk : ((shortest es).length + 1) * 8 ≤ 140737488355328 := by omega
  have p3 : U.flat.flats [(.int .i64 (1 + x) : U)] = true := rfl
  rw [f41_i0_l0_eq, len_bytes, Option.bind_some, bin_lss, Option.bind_some, decide_eq_false hlt, asBoolF, if_pos (partB_ok bs), if_pos (partI_ok s), e1, Option.bind_some, asPtr_of]
  cases b with
  | false =>
    refine ⟨es, shortest es, ?_, l1, by omega⟩
    simp [e2, e3, U.asVp, U.asSlK]
  | true =>
    refine ⟨es, shortest es ++ [1 + x], ?_, l1, by simp; omega⟩
    simp [e2, e3, e4, U.asVp, U.asSlK, w1, hk, p3, intU]
theorem f41_far (h : G_f41 E) (bs : List Int) (hb : bs.length ≤ 1048576) (i s : Int) (hlt : i < (bs.length : Int)) (h4 : ¬ i < 4000) :
    DrawsP (f41_i0_l0 E (.sl 1 (bs.map byteU)) (.int .i64 s) (.int .i64 i)) := by
  obtain ⟨es, c, i1, s1, i2, s2, i3, s3, x, b, e1, e2, e3, e4, l1, w1, l2⟩ := l20_rest h bs hb s
  have hk : ((shortest es).length + 1) * 8 ≤ 140737488355328 := by omega
  have p3 : U.flat.flats [(.int .i64 (1 + x) : U)] = true := rfl
  rw [f41_i0_l0_eq, len_bytes, Option.bind_some, bin_lss, Option.bind_some, decide_eq_true hlt, asBoolT, bin_lss, Option.bind_some, decide_eq_false h4, asBoolF, if_pos (partB_ok bs), if_pos (partI_ok s), e1, Option.bind_some, asPtr_of]
  cases b with
  | false =>
    refine ⟨es, shortest es, ?_, l1, by omega⟩
    simp [e2, e3, U.asVp, U.asSlK]
  | true =>
    refine ⟨es, shortest es ++ [1 + x], ?_, l1, by simp; omega⟩
    simp [e2, e3, e4, U.asVp, U.asSlK, w1, hk, p3, intU]
theorem f41_on (bs : List Int) (x i s a : Int) (hlt : i < (bs.length : Int)) (h4 : i < 4000) (hx : ∀ {γ : Type} (K : U → Option γ), U.elemAt 1 (.sl 1 (bs.map byteU)) i K = K (byteU x)) (hw : IntKind.i64.wrap (i + 1) = i + 1)
    (ea : U.bin .and (.int .i64 (IntKind.i64.wrap (IntKind.i64.wrap (IntKind.i64.wrap (s * 131) + IntKind.i64.wrap x) + 7))) (.int .i64 1073741823) = some (.int .i64 a)) :
    f41_i0_l0 E (.sl 1 (bs.map byteU)) (.int .i64 s) (.int .i64 i) = f41_i0_l0 E (.sl 1 (bs.map byteU)) (.int .i64 a) (.int .i64 (i + 1)) := by
  rw [f41_i0_l0_eq, len_bytes, Option.bind_some, bin_lss, Option.bind_some, decide_eq_true hlt, asBoolT, bin_lss, Option.bind_some, decide_eq_true h4, asBoolT, bin_mul, Option.bind_some, asInt_int, hx]
  simp [byteU, U.conv, ea, hw]
theorem f41_l0_is (h : G_f41 E) (bs : List Int) (hb : bs.length ≤ 1048576) : ∀ (r p : List Int) (i s : Int), bs = p ++ r → i = p.length →
    DrawsP (f41_i0_l0 E (.sl 1 (bs.map byteU)) (.int .i64 s) (.int .i64 i))
  | [], p, i, s, e, hi => f41_end h bs hb i s (mid_end e hi)
  | y :: r, p, i, s, e, hi => by
    obtain ⟨h0, hlt, hx, hw, hn, _⟩ := mid_at e hi (by omega)
    by_cases h4 : i < 4000
    · obtain ⟨a, ea⟩ := and_some (IntKind.i64.wrap (IntKind.i64.wrap (IntKind.i64.wrap (s * 131) + IntKind.i64.wrap y) + 7)) 1073741823
      rw [f41_on bs y i s a hlt h4 (fun K => hx 1 byteU K) hw ea]
      exact f41_l0_is h bs hb r (p ++ [y]) (i + 1) a (mid_next e) hn
    · exact f41_far h bs hb i s hlt h4
theorem f26_is (h : G_f26 E) (bs : List Int) (hb : bs.length ≤ 1048576) : DrawsP (E 410 [.sl 1 (bs.map byteU)]) := by
  obtain ⟨es, c, e1, l1⟩ := f41_l0_is h.c_f41 bs hb bs [] 0 (IntKind.i64.wrap (10101 + bs.length)) rfl rfl
  refine ⟨es, c, ?_, l1⟩
  rw [f26_E h, f41_E h.c_f41]
  simp [e1]
theorem fits_cons {s : Sh} {ss : List Sh} {us : List U} (h : Fits.fits (s :: ss) us) : ∃ u us', us = u :: us' ∧ Fits s u ∧ Fits.fits ss us' := by
  cases us with
  | nil => exact h.elim
  | cons u us => exact ⟨u, us, rfl, h.1, h.2⟩
theorem fits_nil {us : List U} (h : Fits.fits [] us) : us = [] := by
  cases us with
  | nil => rfl
  | cons u us => exact h.elim
theorem fits_map {α : Type} {s : Sh} {f : α → U} {Q : α → Prop} (hs : ∀ u, Fits s u → ∃ x, u = f x ∧ Q x) : ∀ us : List U, (∀ u ∈ us, Fits s u) → ∃ l : List α, us = l.map f ∧ ∀ x ∈ l, Q x
  | [], _ => ⟨[], rfl, by simp⟩
  | u :: us, h => by
    obtain ⟨x, rfl, hx⟩ := hs u (h u (by simp))
    obtain ⟨l, rfl, hl⟩ := fits_map hs us (fun v hv => h v (by simp [hv]))
    exact ⟨x :: l, rfl, by simpa using ⟨hx, hl⟩⟩
theorem fits_sl {α : Type} {k : Nat} {s : Sh} {f : α → U} {Q : α → Prop} (hs : ∀ u, Fits s u → ∃ x, u = f x ∧ Q x) {u : U} (h : Fits (.sl k s) u) : ∃ l : List α, u = .sl k (l.map f) ∧ l.length ≤ maxLen ∧ ∀ x ∈ l, Q x := by
  cases u <;> first | exact h.elim | skip
  obtain ⟨rfl, h1, h2⟩ := h
  obtain ⟨l, rfl, hl⟩ := fits_map hs _ h2
  exact ⟨l, rfl, by simpa using h1, hl⟩
theorem f18_is (h : G_f18 E) (bs : List Int) : E 413 [.sl 1 (bs.map byteU)] = some (.bool (decide (1048576 < (bs.length : Int)))) := by
  rw [f18_E h]
  simp
theorem sameInts_l0_is (a : List Int) (ha : a.length ≤ 1048576) : ∀ (r p : List Int) (i : Int), a = p ++ r → i = p.length → f19_l0 E (.sl 1 (a.map intU)) (.sl 1 (a.map intU)) (.int .i64 i) = some (.bool true)
  | [], p, i, e, hi => by
    rw [f19_l0_eq]
    simp [mid_end e hi]
  | x :: r, p, i, e, hi => by
    obtain ⟨h0, hlt, hx, hw, hn, _⟩ := mid_at e hi (by omega)
    have ih := sameInts_l0_is a ha r (p ++ [x]) (i + 1) (mid_next e) hn
    rw [f19_l0_eq]
    simp [hlt, hx, hw, ih]
theorem sameInts_is (h : G_f19 E) (l : List Int) (hl : l.length ≤ 1048576) : E 411 [orNil l, intsU l] = some (.bool true) := by
  rw [f19_E h]
  unfold orNil
  split
  · rename_i e
    subst e
    simp
    rw [f19_l0_eq]
    simp
  · have h1 := sameInts_l0_is (E := E) l hl l [] 0 rfl rfl
    simp only [intsU]
    simp [h1]
def lastPart (E : Env) (bs : U) : Option U := (E 410 [bs]).bind fun t26 => U.part 0 t26 fun p27 => U.part 1 t26 fun p28 => (E 60 [p27, p28]).bind fun t29 => (E 61 [p27, p28]).bind fun t30 => (U.eqv 0 t29 t30).bind fun q31 => U.asBool (.bool (!q31))
  (some (.bool false))
  ((E 60 [p27, p28]).bind fun t32 => (U.un .not t32).bind fun t33 => U.asBool t33
  (some (.bool true))
  ((U.lenOf false p28).bind fun n34 => (E 80 [p27]).bind fun t35 => (U.lenOf false t35).bind fun n36 => (U.bin .geq (.int .i64 (n34 : Int)) (.int .i64 (n36 : Int))).bind fun t37 => some t37))
theorem lastPart_is (h : G_f17 E) (bs : List Int) (hb : bs.length ≤ 1048576) : lastPart E (.sl 1 (bs.map byteU)) = some (.bool true) := by
  obtain ⟨es, c, e1, l1, l2⟩ := f26_is h.c_f26 bs hb
  have hi := f4_is h.c_f4 es (by omega) c (by omega)
  have hs := f25_is h.c_f25 es (by omega) c (by omega)
  have hsc := f31_is h.c_f31 es (by omega)
  unfold lastPart
  cases g : isCycle es c with
  | false =>
    simp only [edgesU, intsU] at hi hs
    simp [e1, hi, hs, g]
  | true =>
    have := cycle_long es c g
    simp only [edgesU, intsU] at hi hs hsc
    simp [e1, hi, hs, g, hsc, this]
theorem f17_l0_is (h : G_f17 E) (bs : List Int) (hb : bs.length ≤ 1048576) (c : List Int) (hc : c.length ≤ 1048576) (es : List Edge) (hl : es.length = c.length) (hat : ∀ (i : Nat) (e : Edge), es[i]? = some e → e.frm = c.getD i 0 ∧ e.to = c.getD ((i + 1) % c.length) 0) : ∀ (r p : List Edge) (i : Int), es = p ++ r → i = p.length →
    f17_l0 E (.sl 1 (bs.map byteU)) (.sl 1 (c.map intU)) (.sl 4 (es.map Edge.u)) (.int .i64 i) = some (.bool true)
  | [], p, i, e, hi => by
    have h1 := lastPart_is h bs hb
    unfold lastPart at h1
    have hlt := mid_end e hi
    rw [f17_l0_eq, show U.lenOf false (.sl 4 (es.map Edge.u)) = some es.length from by simp, Option.bind_some, bin_lss, Option.bind_some, decide_eq_false hlt, asBoolF]
    exact h1
  | x :: r, p, i, e, hi => by
    have hll : es.length = p.length + r.length + 1 := by rw [e]; simp; omega
    obtain ⟨h0, hlt, hx, hw, hn, hxi⟩ := mid_at e hi (by omega)
    have ih := f17_l0_is h bs hb c hc es hl hat r (p ++ [x]) (i + 1) (mid_next e) hn
    obtain ⟨hf, ht⟩ := hat i.toNat x hxi
    have hpos : 0 < c.length := by omega
    have hil : i.toNat < c.length := by omega
    have hc1 : ∀ {γ : Type} (K : U → Option γ), U.elemAt 1 (.sl 1 (c.map intU)) i K = K (intU x.frm) := fun K => by
      rw [hf]
      exact elemAt_get intU h0 (by rw [List.getElem?_eq_getElem hil, List.getD_eq_getElem?_getD, List.getElem?_eq_getElem hil]; rfl) K
    have hm : (i + 1).tmod c.length = (((i.toNat + 1) % c.length : Nat) : Int) := by
      rw [Int.tmod_eq_emod_of_nonneg (by omega), Int.natCast_emod]
      congr 1
      omega
    have hml : (i.toNat + 1) % c.length < c.length := Nat.mod_lt _ hpos
    have hc2 : ∀ {γ : Type} (K : U → Option γ), U.elemAt 1 (.sl 1 (c.map intU)) (((i.toNat + 1) % c.length : Nat) : Int) K = K (intU x.to) := fun K => by
      rw [ht]
      exact elemAt_get intU (Int.natCast_nonneg _) (by rw [Int.toNat_natCast, List.getElem?_eq_getElem hml, List.getD_eq_getElem?_getD, List.getElem?_eq_getElem hml]; rfl) K
    have hne : ¬ (c.length : Int) = 0 := by omega
    rw [f17_l0_eq, show U.lenOf false (.sl 4 (es.map Edge.u)) = some es.length from by simp, Option.bind_some, bin_lss, Option.bind_some, decide_eq_true hlt, asBoolT]
    simp only [asInt_int, hx, Edge.u_at0, Edge.u_at1, asVar_int, hc1, intU, bin_neq, ne_eq, not_true_eq_false, decide_false, Option.bind_some, asBoolF, bin_add, hw, show U.lenOf false (.sl 1 (c.map intU)) = some c.length from by simp, bin_rem, hne, if_false, hm, hc2]
    exact ih
theorem law_Cycles (h : G_f17 E) (us : List U) (hus : Fits.fits [.sl 1 (.int .u8)] us) : E 409 us = some (.bool true) := by
  obtain ⟨u0, us1, rfl, h0, hus1⟩ := fits_cons hus
  obtain rfl := fits_nil hus1
  obtain ⟨bs, rfl, _, _⟩ := fits_sl (f := byteU) (Q := fun _ => True) (fun u hu => by
    cases u with
    | int k n => exact ⟨n, by obtain ⟨rfl, _⟩ := hu; rfl, trivial⟩
    | _ => exact absurd hu (by simp [Fits])) h0
  rw [f17_E h]
  by_cases hbig : 1048576 < (bs.length : Int)
  · simp [f18_is h.c_f18, hbig]
  have hb : bs.length ≤ 1048576 := by omega
  obtain ⟨l, e1, l1⟩ := f27_is h.c_f27 bs hb
  have hl : l.length ≤ 1048576 := by omega
  have hlast := lastPart_is h bs hb
  unfold lastPart at hlast
  have h81 := f11_is h.c_f11 l hl
  have h80 := f31_is h.c_f31 l hl
  have h411 := sameInts_is h.c_f19 (shortest l) (by have := shortest_length l; omega)
  have h78 := f10_is h.c_f10 l hl
  have h79 := f30_is h.c_f30 l hl
  simp only [edgesU] at h81 h80 h78 h79
  rw [f18_is h.c_f18, Option.bind_some, decide_eq_false hbig, asBoolF, e1, Option.bind_some, h81, Option.bind_some, h80, Option.bind_some, h411, Option.bind_some]
  rw [show U.un .not (.bool true) = some (.bool false) from rfl, Option.bind_some, asBoolF, h78, Option.bind_some, h79, Option.bind_some, show U.eqv 0 (.bool (isAcyclic l)) (.bool (isAcyclic l)) = some true from by simp, Option.bind_some, Bool.not_true, asBoolF, lenOf_orNil, Option.bind_some]
  by_cases hs : shortest l = []
  · rw [hs]
    rw [show U.bin .gtr (.int .i64 ((([] : List Int).length : Nat) : Int)) (.int .i64 0) = some (.bool false) from by simp, Option.bind_some, asBoolF]
    exact hlast
  · have ha : areEdges l = true := by
      cases g : areEdges l with
      | true => rfl
      | false => exact absurd (by simp [shortest, g]) hs
    rcases shortest_spec l ha with ⟨h1, _⟩ | ⟨s, bs2, h1, hs1, hs9, hd, hcy, _⟩
    · exact absurd h1 hs
    have hcl := shortest_length l
    have hor : orNil (shortest l) = .sl 1 ((shortest l).map intU) := by unfold orNil; rw [if_neg hs]
    have h84 := f5_is h.c_f5 l hl (shortest l) (by omega)
    have h60 := f4_is h.c_f4 l hl (shortest l) (by omega)
    rw [hcy] at h60
    have hE : orNilE l (shortest l) = .sl 4 ((edgesOf l (shortest l)).map Edge.u) := by unfold orNilE; rw [if_pos hcy]
    rw [hE] at h84
    have hcf : cycFrom l (shortest l) [] (shortest l) = true := by
      have := hcy
      simp only [isCycle, Bool.and_eq_true] at this
      exact this.2
    obtain ⟨hel, hat⟩ := cycEdges_at l (shortest l) (shortest l) [] rfl hcf
    have heo : edgesOf l (shortest l) = cycEdges l (shortest l) [] (shortest l) := by unfold edgesOf; rw [if_pos hcy]
    have h38 := f7_is h.c_f7 l hl s s
    have hin : inR s 1 9 = true := by simp [inR]; omega
    have hdist : edgeDistance l s s = ((shortest l).length : Int) := by
      rw [h1]
      simp only [edgeDistance, ha, hin, Bool.and_self, if_true]
      exact hd
    rw [hdist] at h38
    have hac : isAcyclic l = false := by simp [isAcyclic, hs]
    have hx0 : ∀ {γ : Type} (K : U → Option γ), U.elemAt 1 (.sl 1 ((shortest l).map intU)) 0 K = K (intU s) := fun K => elemAt_get intU (by omega) (by rw [h1]; rfl) K
    have hloop := f17_l0_is h bs hb (shortest l) (by omega) (edgesOf l (shortest l)) (by rw [heo]; exact hel) (fun i e he => by
      rw [heo] at he
      have := hat i e he
      simpa using this) (edgesOf l (shortest l)) [] 0 rfl rfl
    have hpos : (0 : Int) < ((shortest l).length : Int) := by rw [h1]; simp
    have hlen : (edgesOf l (shortest l)).length = (shortest l).length := by rw [heo]; exact hel
    simp only [edgesU, intsU] at h84 h60 h38
    rw [bin_gtr, Option.bind_some, decide_eq_true hpos, asBoolT, hor, h84, Option.bind_some, h60, Option.bind_some, show U.un .not (.bool true) = some (.bool false) from rfl, Option.bind_some, asBoolF]
    rw [show U.lenOf false (.sl 4 ((edgesOf l (shortest l)).map Edge.u)) = some (shortest l).length from by simp [hlen], Option.bind_some, Option.bind_some]
    rw [show U.bin .neq (.int .i64 ((shortest l).length : Int)) (.int .i64 ((shortest l).length : Int)) = some (.bool false) from by simp, Option.bind_some, asBoolF, hx0, asVar_intU, hx0, asVar_intU]
    rw [h38, Option.bind_some, Option.bind_some]
    rw [show U.bin .neq (.int .i64 ((shortest l).length : Int)) (.int .i64 ((shortest l).length : Int)) = some (.bool false) from by simp, Option.bind_some, asBoolF, Option.bind_some, hac, asBoolF]
    exact hloop
end Go.Proofs.Ytmdnjglkdddaeaa.Am
