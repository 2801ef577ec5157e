import Derived.IntWalk
import Derived.Test.YtlgblpngiamhaaaAmE
namespace Go.Proofs.Ytlgblpngiamhaaa.Am
open Go
section
variable {α β : Type}
@[simp] theorem size_int (k : IntKind) (n : Int) : (U.int k n).size = 1 := rfl
@[simp] theorem size_bool (b : Bool) : (U.bool b).size = 1 := rfl
@[simp] theorem size_str (b : ByteArray) : (U.str b).size = 1 := rfl
@[simp] theorem size_nil : (U.nil).size = 1 := rfl
@[simp] theorem size_sl (k : Nat) (us : List U) : (U.sl k us).size = 1 := rfl
@[simp] theorem size_nsl (k : Nat) : (U.nsl k).size = 1 := rfl
@[simp] theorem size_vp (u : U) : (U.vp u).size = 1 := rfl
@[simp] theorem size_fn (k : Nat) (us : List U) : (U.fn k us).size = 1 := rfl
@[simp] theorem dsize_val (u : U) : (D.val u).size = u.size := rfl
@[simp] theorem asB_bool {α : Type} (b : Bool) (K : Bool → Option α) : U.asB (.bool b) K = K b := rfl
@[simp] theorem ownV_int {α : Type} (k : IntKind) (n : Int) (K : U → Option α) : U.ownV (.int k n) K = K (.int k n) := rfl
@[simp] theorem ownV_bool {α : Type} (b : Bool) (K : U → Option α) : U.ownV (.bool b) K = K (.bool b) := rfl
@[simp] theorem ownV_str {α : Type} (b : ByteArray) (K : U → Option α) : U.ownV (.str b) K = K (.str b) := rfl
@[simp] theorem storable_int (k : IntKind) (n : Int) : storable (.val (.int k n)) = true := rfl
@[simp] theorem storable_bool (b : Bool) : storable (.val (.bool b)) = true := rfl
@[simp] theorem storable_str (b : ByteArray) : storable (.val (.str b)) = true := rfl
@[simp] theorem storable_nil : storable (.val .nil) = true := rfl
@[simp] theorem storable_agg (us : List U) : storable (.val (.agg us)) = true := rfl
@[simp] theorem storable_sl (k : Nat) (us : List U) : storable (.val (.sl k us)) = true := rfl
@[simp] theorem storable_nsl (k : Nat) : storable (.val (.nsl k)) = true := rfl
@[simp] theorem storable_vp (u : U) : storable (.val (.vp u)) = true := rfl
@[simp] theorem storable_fn (k : Nat) (us : List U) : storable (.val (.fn k us)) = true := rfl
@[simp] theorem partable_int (k : IntKind) (n : Int) : partable (.val (.int k n)) = true := rfl
@[simp] theorem partable_bool (b : Bool) : partable (.val (.bool b)) = true := rfl
@[simp] theorem partable_str (b : ByteArray) : partable (.val (.str b)) = true := rfl
@[simp] theorem partable_nil : partable (.val .nil) = true := rfl
@[simp] theorem partable_agg (us : List U) : partable (.val (.agg us)) = true := rfl
@[simp] theorem partable_sl (k : Nat) (us : List U) : partable (.val (.sl k us)) = true := rfl
@[simp] theorem partable_nsl (k : Nat) : partable (.val (.nsl k)) = true := rfl
@[simp] theorem partable_vp (u : U) : partable (.val (.vp u)) = true := rfl
@[simp] theorem partable_fn (k : Nat) (us : List U) : partable (.val (.fn k us)) = true := rfl
@[simp] theorem nilOwn_int (k : IntKind) (n : Int) : U.nilOwn (.int k n) = .int k n := rfl
@[simp] theorem nilOwn_bool (b : Bool) : U.nilOwn (.bool b) = .bool b := rfl
@[simp] theorem nilOwn_str (b : ByteArray) : U.nilOwn (.str b) = .str b := rfl
@[simp] theorem nilOwn_nil : U.nilOwn .nil = .nil := rfl
@[simp] theorem nilOwn_sl (k : Nat) (us : List U) : U.nilOwn (.sl k us) = .sl k us := rfl
@[simp] theorem nilOwn_nsl (k : Nat) : U.nilOwn (.nsl k) = .sl k [] := rfl
@[simp] theorem asInt_int (n : Int) (K : Int → Option α) : U.asInt (.int .i64 n) K = K n := rfl
@[simp] theorem asBool_bool (b : Bool) (T F : Option α) : U.asBool (.bool b) T F = if b = true then T else F := by cases b <;> rfl
@[simp] theorem asAgg_agg (us : List U) (K : List U → Option α) : U.asAgg (.agg us) K = K us := rfl
@[simp] theorem asVp_vp (u : U) (K : U → Option α) : U.asVp (.vp u) K = K u := rfl
@[simp] theorem asFn_fn (r : Nat) (c : List U) (K : Nat → List U → Option α) : U.asFn (.fn r c) K = if r < 100000 then K r c else none := rfl
@[simp] theorem asTup_tup (us : List U) (K : List U → Option α) : U.asTup (.tup us) K = K us := rfl
@[simp] theorem asSlK_sl (k : Nat) (us : List U) (K : List U → Option α) : U.asSlK k (.sl k us) K = K us := by simp only [U.asSlK, if_true]
@[simp] theorem asMut_tup (k : Nat) (x : U) (ys : List U) (K : U → List U → Option α) : U.asMut k (.tup [x, .sl k ys]) K = K x ys := by simp only [U.asMut, if_true]
@[simp] theorem asNsl_nsl (k : Nat) (K : Nat → Option α) : U.asNsl (.nsl k) K = K k := rfl
@[simp] theorem asVar_int (k : IntKind) (n : Int) (K : U → Option α) : U.asVar false 1 (.int k n) K = K (.int k n) := rfl
@[simp] theorem asVar_bool (b : Bool) (K : U → Option α) : U.asVar false 1 (.bool b) K = K (.bool b) := rfl
@[simp] theorem asVar_str (b : ByteArray) (K : U → Option α) : U.asVar false 1 (.str b) K = K (.str b) := rfl
@[simp] theorem asVar_nil (K : U → Option α) : U.asVar false 1 .nil K = K .nil := rfl
@[simp] theorem asVar_sl (k : Nat) (us : List U) (K : U → Option α) : U.asVar false 1 (.sl k us) K = K (.sl k us) := rfl
@[simp] theorem asVar_nsl (k : Nat) (K : U → Option α) : U.asVar false 1 (.nsl k) K = K (.nsl k) := rfl
@[simp] theorem asVar_vp (u : U) (K : U → Option α) : U.asVar false 1 (.vp u) K = K (.vp u) := rfl
@[simp] theorem asVar_fn (r : Nat) (c : List U) (K : U → Option α) : U.asVar false 1 (.fn r c) K = K (.fn r c) := rfl
@[simp] theorem asVar_agg (n : Nat) (us : List U) (K : U → Option α) : U.asVar true n (.agg us) K = if sizes us = n then K (.agg us) else none := by
  simp only [U.asVar, D.isAgg, true_and, size_agg]
@[simp] theorem asFlat_int (k : IntKind) (n : Int) (K : U → Option α) : U.asFlat (.int k n) K = K (.int k n) := rfl
@[simp] theorem asFlat_bool (b : Bool) (K : U → Option α) : U.asFlat (.bool b) K = K (.bool b) := rfl
@[simp] theorem asFlat_str (b : ByteArray) (K : U → Option α) : U.asFlat (.str b) K = K (.str b) := rfl
@[simp] theorem asFlat_nil (K : U → Option α) : U.asFlat .nil K = K .nil := rfl
@[simp] theorem asFlat_nsl (k : Nat) (K : U → Option α) : U.asFlat (.nsl k) K = K (.nsl k) := rfl
@[simp] theorem asFlat_agg (us : List U) (K : U → Option α) : U.asFlat (.agg us) K = if U.flat.flats us = true then K (.agg us) else none := rfl
@[simp] theorem asFlat_tup (us : List U) (K : U → Option α) : U.asFlat (.tup us) K = if U.flat.flats us = true then K (.tup us) else none := rfl
@[simp] theorem flats_nil : U.flat.flats [] = true := rfl
@[simp] theorem flats_cons (u : U) (us : List U) : U.flat.flats (u :: us) = (u.flat && U.flat.flats us) := rfl
@[simp] theorem flat_int (k : IntKind) (n : Int) : (U.int k n).flat = true := rfl
@[simp] theorem flat_bool (b : Bool) : (U.bool b).flat = true := rfl
@[simp] theorem flat_str (b : ByteArray) : (U.str b).flat = true := rfl
@[simp] theorem flat_nil : U.nil.flat = true := rfl
@[simp] theorem flat_nsl (k : Nat) : (U.nsl k).flat = true := rfl
@[simp] theorem flat_agg (us : List U) : (U.agg us).flat = U.flat.flats us := rfl
@[simp] theorem noTup_int (k : IntKind) (n : Int) (K : U → Option α) : U.noTup (.int k n) K = K (.int k n) := rfl
@[simp] theorem noTup_bool (b : Bool) (K : U → Option α) : U.noTup (.bool b) K = K (.bool b) := rfl
@[simp] theorem noTup_str (b : ByteArray) (K : U → Option α) : U.noTup (.str b) K = K (.str b) := rfl
@[simp] theorem noTup_nil (K : U → Option α) : U.noTup .nil K = K .nil := rfl
@[simp] theorem noTup_agg (us : List U) (K : U → Option α) : U.noTup (.agg us) K = K (.agg us) := rfl
@[simp] theorem noTup_sl (k : Nat) (us : List U) (K : U → Option α) : U.noTup (.sl k us) K = K (.sl k us) := rfl
@[simp] theorem noTup_nsl (k : Nat) (K : U → Option α) : U.noTup (.nsl k) K = K (.nsl k) := rfl
@[simp] theorem noTup_vp (u : U) (K : U → Option α) : U.noTup (.vp u) K = K (.vp u) := rfl
@[simp] theorem noTup_fn (r : Nat) (c : List U) (K : U → Option α) : U.noTup (.fn r c) K = K (.fn r c) := rfl
theorem elemAt_sl (k : Nat) (us : List U) (i : Int) (K : U → Option α) : U.elemAt k (.sl k us) i K = if 0 ≤ i then (us[i.toNat]?).bind K else none := by
  simp only [U.elemAt, if_true]
@[simp] theorem fieldAt_agg (j off : Nat) (us : List U) (K : U → Option α) : U.fieldAt j off (.agg us) K = if off = sizes (us.take j) then (us[j]?).bind K else none := rfl
@[simp] theorem charAt_str (s : ByteArray) (i : Int) (K : U → Option α) : U.charAt (.str s) i K = if 0 ≤ i then (s[i.toNat]?).bind fun b => K (.int .u8 b.toNat) else none := rfl
@[simp] theorem part_tup (j : Nat) (us : List U) (K : U → Option α) : U.part j (.tup us) K = (us[j]?).bind K := rfl
@[simp] theorem lenOf_sl (k : Nat) (us : List U) : U.lenOf false (.sl k us) = some us.length := rfl
@[simp] theorem lenOf_nsl (k : Nat) : U.lenOf false (.nsl k) = some 0 := rfl
@[simp] theorem lenOf_str (s : ByteArray) : U.lenOf true (.str s) = some s.size := rfl
@[simp] theorem elems_sl (k : Nat) (us : List U) : U.elems k (.sl k us) = some us := by simp only [U.elems, if_true]
@[simp] theorem elems_nsl (k : Nat) : U.elems k (.nsl k) = some [] := by simp only [U.elems, if_true]
@[simp] theorem bin_add (k : IntKind) (a b : Int) : U.bin .add (.int k a) (.int k b) = some (.int k (k.wrap (a + b))) := by simp only [U.bin, if_true]
@[simp] theorem bin_sub (k : IntKind) (a b : Int) : U.bin .sub (.int k a) (.int k b) = some (.int k (k.wrap (a - b))) := by simp only [U.bin, if_true]
@[simp] theorem bin_mul (k : IntKind) (a b : Int) : U.bin .mul (.int k a) (.int k b) = some (.int k (k.wrap (a * b))) := by simp only [U.bin, if_true]
@[simp] theorem bin_quo (k : IntKind) (a b : Int) : U.bin .quo (.int k a) (.int k b) = if b = 0 then none else some (.int k (k.wrap (a.tdiv b))) := by simp only [U.bin, if_true]
@[simp] theorem bin_rem (k : IntKind) (a b : Int) : U.bin .rem (.int k a) (.int k b) = if b = 0 then none else some (.int k (a.tmod b)) := by simp only [U.bin, if_true]
@[simp] theorem bin_eql (k : IntKind) (a b : Int) : U.bin .eql (.int k a) (.int k b) = some (.bool (decide (a = b))) := by
  simp only [U.bin, if_true]; congr 2
@[simp] theorem bin_neq (k : IntKind) (a b : Int) : U.bin .neq (.int k a) (.int k b) = some (.bool (decide (a ≠ b))) := by
  simp only [U.bin, if_true]; congr 2; by_cases h : a = b <;> simp [h]
@[simp] theorem bin_lss (k : IntKind) (a b : Int) : U.bin .lss (.int k a) (.int k b) = some (.bool (decide (a < b))) := by simp only [U.bin, if_true]
@[simp] theorem bin_leq (k : IntKind) (a b : Int) : U.bin .leq (.int k a) (.int k b) = some (.bool (decide (a ≤ b))) := by simp only [U.bin, if_true]
@[simp] theorem bin_gtr (k : IntKind) (a b : Int) : U.bin .gtr (.int k a) (.int k b) = some (.bool (decide (b < a))) := by simp only [U.bin, if_true]
@[simp] theorem bin_geq (k : IntKind) (a b : Int) : U.bin .geq (.int k a) (.int k b) = some (.bool (decide (b ≤ a))) := by simp only [U.bin, if_true]
@[simp] theorem bin_addS (a b : ByteArray) : U.bin .add (.str a) (.str b) = if a.size + b.size ≤ 140737488355328 then some (.str (a ++ b)) else none := rfl
@[simp] theorem bin_eqlS (a b : ByteArray) : U.bin .eql (.str a) (.str b) = some (.bool (a.toList == b.toList)) := rfl
@[simp] theorem bin_neqS (a b : ByteArray) : U.bin .neq (.str a) (.str b) = some (.bool !(a.toList == b.toList)) := rfl
@[simp] theorem un_not (b : Bool) : U.un .not (.bool b) = some (.bool !b) := rfl
@[simp] theorem un_neg (k : IntKind) (n : Int) : U.un .neg (.int k n) = some (.int k (k.wrap (0 - n))) := rfl
@[simp] theorem conv_int (k k' : IntKind) (n : Int) : U.conv k (.int k' n) = some (.int k (k.wrap n)) := rfl
@[simp] theorem eqv_bool (a b : Bool) : U.eqv 0 (.bool a) (.bool b) = some (a == b) := rfl
@[simp] theorem eqv_nil : U.eqv 1 .nil .nil = some true := rfl
@[simp] theorem eqv_vp (u : U) : U.eqv 1 (.vp u) .nil = some false := rfl
@[simp] theorem eqv_agg (n : Nat) (us vs : List U) : U.eqv (n + 2) (.agg us) (.agg vs) = if us.length = n then eqInts us vs else none := rfl
@[simp] theorem eqInts_nil : eqInts [] [] = some true := rfl
@[simp] theorem eqInts_cons (a b : Int) (us vs : List U) : eqInts (.int .i64 a :: us) (.int .i64 b :: vs) = (eqInts us vs).map fun r => (a == b) && r := rfl
attribute [simp] List.getElem?_cons_zero
theorem wrap_in {n : Int} (h : -9223372036854775808 ≤ n ∧ n ≤ 9223372036854775807) : IntKind.i64.wrap n = n := IntWalk.i64_in n h
end
theorem ite_t (b c : Bool) : (if b = true then some (U.bool c) else some (U.bool false)) = some (U.bool (b && c)) := by cases b <;> rfl
theorem ite_f (b c : Bool) : (if b = false then some (U.bool false) else some (U.bool c)) = some (U.bool (b && c)) := by cases b <;> rfl
theorem ite_p (p : Prop) [Decidable p] (c : Bool) : (if p then some (U.bool c) else some (U.bool false)) = some (U.bool (decide p && c)) := by by_cases h : p <;> simp [h]
theorem ite_n (p : Prop) [Decidable p] (c : Bool) : (if p then some (U.bool false) else some (U.bool c)) = some (U.bool (!decide p && c)) := by by_cases h : p <;> simp [h]
section
variable {β : Type} {l p r : List β} {x : β} {i : Int}
theorem mid_next (h : l = p ++ x :: r) : l = (p ++ [x]) ++ r := by subst h; simp
theorem elemAt_get {γ : Type} {k : Nat} (f : β → U) (h0 : 0 ≤ i) (h : l[i.toNat]? = some x) (K : U → Option γ) : U.elemAt k (.sl k (l.map f)) i K = K (f x) := by
  rw [elemAt_sl, if_pos h0, List.getElem?_map, h]; rfl
theorem mid_at (e : l = p ++ x :: r) (hi : i = p.length) (hl : l.length ≤ 9223372036854775807) :
    0 ≤ i ∧ i < (l.length : Int) ∧ (∀ {γ : Type} (k : Nat) (f : β → U) (K : U → Option γ), U.elemAt k (.sl k (l.map f)) i K = K (f x)) ∧ IntKind.i64.wrap (i + 1) = i + 1 ∧ i + 1 = ((p ++ [x]).length : Int) ∧ l[i.toNat]? = some x := by
  have hx : l[i.toNat]? = some x := by subst e; subst hi; simp
  have h0 : 0 ≤ i := by omega
  refine ⟨h0, ?_, fun k f K => elemAt_get f h0 hx K, ?_, by simp [hi], hx⟩
  · subst e; subst hi; simp only [List.length_append, List.length_cons]; omega
  · subst e; subst hi
    simp only [List.length_append, List.length_cons] at hl
    exact wrap_in (by omega)
theorem mid_end (e : l = p ++ []) (hi : i = p.length) : ¬ i < (l.length : Int) := by
  subst e; subst hi; simp
theorem mid_last (e : l = p ++ r) (hi : i = p.length) (hl : l.length ≤ 9223372036854775807) (hp : p ≠ []) :
    ∃ q j, p.getLast? = some q ∧ 0 < i ∧ IntKind.i64.wrap (i - 1) = j ∧ 0 ≤ j ∧ (∀ {γ : Type} (k : Nat) (f : β → U) (K : U → Option γ), U.elemAt k (.sl k (l.map f)) j K = K (f q)) ∧ l[j.toNat]? = some q := by
  subst e; subst hi
  have h1 : 0 < p.length := List.length_pos_iff.2 hp
  simp only [List.length_append] at hl
  have e1 : ((p.length : Int) - 1).toNat = p.length - 1 := by omega
  have hx : (p ++ r)[((p.length : Int) - 1).toNat]? = some (p.getLast hp) := by
    rw [e1, List.getElem?_append_left (by omega), ← List.getLast?_eq_getElem?, List.getLast?_eq_some_getLast hp]
  exact ⟨p.getLast hp, (p.length : Int) - 1, List.getLast?_eq_some_getLast hp, by omega, wrap_in (by omega), by omega, fun k f K => elemAt_get f (by omega) hx K, hx⟩
end
end Go.Proofs.Ytlgblpngiamhaaa.Am
