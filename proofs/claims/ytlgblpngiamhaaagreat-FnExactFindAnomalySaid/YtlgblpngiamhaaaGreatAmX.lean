import Derived.IntWalk
import Derived.Test.YtlgblpngiamhaaaGreatAmE
namespace Go.Proofs.YtlgblpngiamhaaaGreat.Am
open Go
section
variable {α β : Type}
@[simp] theorem Qab (k : IntKind) (n : Int) : (U.int k n).size = 1 := rfl
@[simp] theorem Qafp (b : Bool) : (U.bool b).size = 1 := rfl
@[simp] theorem Qafu (b : ByteArray) : (U.str b).size = 1 := rfl
@[simp] theorem Qafr : (U.nil).size = 1 := rfl
@[simp] theorem Qaft (k : Nat) (us : List U) : (U.sl k us).size = 1 := rfl
@[simp] theorem Qafs (k : Nat) : (U.nsl k).size = 1 := rfl
@[simp] theorem Qafv (u : U) : (U.vp u).size = 1 := rfl
@[simp] theorem Qafq (k : Nat) (us : List U) : (U.fn k us).size = 1 := rfl
@[simp] theorem Qaef (u : U) : (D.val u).size = u.size := rfl
@[simp] theorem Qadj {α : Type} (b : Bool) (K : Bool → Option α) : U.asB (.bool b) K = K b := rfl
@[simp] theorem Qafd {α : Type} (k : IntKind) (n : Int) (K : U → Option α) : U.ownV (.int k n) K = K (.int k n) := rfl
@[simp] theorem Qafc {α : Type} (b : Bool) (K : U → Option α) : U.ownV (.bool b) K = K (.bool b) := rfl
@[simp] theorem Qafe {α : Type} (b : ByteArray) (K : U → Option α) : U.ownV (.str b) K = K (.str b) := rfl
@[simp] theorem Qan (k : IntKind) (n : Int) : storable (.val (.int k n)) = true := rfl
@[simp] theorem Qafw (b : Bool) : storable (.val (.bool b)) = true := rfl
@[simp] theorem Qaf3 (b : ByteArray) : storable (.val (.str b)) = true := rfl
@[simp] theorem Qaf0 : storable (.val .nil) = true := rfl
@[simp] theorem Qsd (us : List U) : storable (.val (.agg us)) = true := rfl
@[simp] theorem Qaf2 (k : Nat) (us : List U) : storable (.val (.sl k us)) = true := rfl
@[simp] theorem Qaf1 (k : Nat) : storable (.val (.nsl k)) = true := rfl
@[simp] theorem Qaf4 (u : U) : storable (.val (.vp u)) = true := rfl
@[simp] theorem Qafy (k : Nat) (us : List U) : storable (.val (.fn k us)) = true := rfl
@[simp] theorem Qax (k : IntKind) (n : Int) : partable (.val (.int k n)) = true := rfl
@[simp] theorem Qafg (b : Bool) : partable (.val (.bool b)) = true := rfl
@[simp] theorem Qafn (b : ByteArray) : partable (.val (.str b)) = true := rfl
@[simp] theorem Qafk : partable (.val .nil) = true := rfl
@[simp] theorem Qqf (us : List U) : partable (.val (.agg us)) = true := rfl
@[simp] theorem Qafm (k : Nat) (us : List U) : partable (.val (.sl k us)) = true := rfl
@[simp] theorem Qafl (k : Nat) : partable (.val (.nsl k)) = true := rfl
@[simp] theorem Qafo (u : U) : partable (.val (.vp u)) = true := rfl
@[simp] theorem Qafi (k : Nat) (us : List U) : partable (.val (.fn k us)) = true := rfl
@[simp] theorem Qaez (k : IntKind) (n : Int) : U.nilOwn (.int k n) = .int k n := rfl
@[simp] theorem Qaey (b : Bool) : U.nilOwn (.bool b) = .bool b := rfl
@[simp] theorem Qae3 (b : ByteArray) : U.nilOwn (.str b) = .str b := rfl
@[simp] theorem Qae0 : U.nilOwn .nil = .nil := rfl
@[simp] theorem Qae2 (k : Nat) (us : List U) : U.nilOwn (.sl k us) = .sl k us := rfl
@[simp] theorem Qae1 (k : Nat) : U.nilOwn (.nsl k) = .sl k [] := rfl
@[simp] theorem Ql (n : Int) (K : Int → Option α) : U.asInt (.int .i64 n) K = K n := rfl
@[simp] theorem Qc (b : Bool) (T F : Option α) : U.asBool (.bool b) T F = if b = true then T else F := by cases b <;> rfl
@[simp] theorem Qah (us : List U) (K : List U → Option α) : U.asAgg (.agg us) K = K us := rfl
@[simp] theorem Qad4 (u : U) (K : U → Option α) : U.asVp (.vp u) K = K u := rfl
@[simp] theorem Qadq (r : Nat) (c : List U) (K : Nat → List U → Option α) : U.asFn (.fn r c) K = if r < 100000 then K r c else none := rfl
@[simp] theorem Qadv (us : List U) (K : List U → Option α) : U.asTup (.tup us) K = K us := rfl
@[simp] theorem Qadu (k : Nat) (us : List U) (K : List U → Option α) : U.asSlK k (.sl k us) K = K us := by simp only [U.asSlK, if_true]
@[simp] theorem Qadr (k : Nat) (x : U) (ys : List U) (K : U → List U → Option α) : U.asMut k (.tup [x, .sl k ys]) K = K x ys := by simp only [U.asMut, if_true]
@[simp] theorem Qads (k : Nat) (K : Nat → Option α) : U.asNsl (.nsl k) K = K k := rfl
@[simp] theorem Qem (k : IntKind) (n : Int) (K : U → Option α) : U.asVar false 1 (.int k n) K = K (.int k n) := rfl
@[simp] theorem Qadx (b : Bool) (K : U → Option α) : U.asVar false 1 (.bool b) K = K (.bool b) := rfl
@[simp] theorem Qad2 (b : ByteArray) (K : U → Option α) : U.asVar false 1 (.str b) K = K (.str b) := rfl
@[simp] theorem Qad0 (K : U → Option α) : U.asVar false 1 .nil K = K .nil := rfl
@[simp] theorem Qsz (k : Nat) (us : List U) (K : U → Option α) : U.asVar false 1 (.sl k us) K = K (.sl k us) := rfl
@[simp] theorem Qad1 (k : Nat) (K : U → Option α) : U.asVar false 1 (.nsl k) K = K (.nsl k) := rfl
@[simp] theorem Qad3 (u : U) (K : U → Option α) : U.asVar false 1 (.vp u) K = K (.vp u) := rfl
@[simp] theorem Qadz (r : Nat) (c : List U) (K : U → Option α) : U.asVar false 1 (.fn r c) K = K (.fn r c) := rfl
@[simp] theorem Qadw (n : Nat) (us : List U) (K : U → Option α) : U.asVar true n (.agg us) K = if sizes us = n then K (.agg us) else none := by
 simp only [U.asVar, D.isAgg, true_and, Qip]
@[simp] theorem Qadl (k : IntKind) (n : Int) (K : U → Option α) : U.asFlat (.int k n) K = K (.int k n) := rfl
@[simp] theorem Qjy (b : Bool) (K : U → Option α) : U.asFlat (.bool b) K = K (.bool b) := rfl
@[simp] theorem Qado (b : ByteArray) (K : U → Option α) : U.asFlat (.str b) K = K (.str b) := rfl
@[simp] theorem Qadm (K : U → Option α) : U.asFlat .nil K = K .nil := rfl
@[simp] theorem Qadn (k : Nat) (K : U → Option α) : U.asFlat (.nsl k) K = K (.nsl k) := rfl
@[simp] theorem Qadk (us : List U) (K : U → Option α) : U.asFlat (.agg us) K = if U.flat.flats us = true then K (.agg us) else none := rfl
@[simp] theorem Qadp (us : List U) (K : U → Option α) : U.asFlat (.tup us) K = if U.flat.flats us = true then K (.tup us) else none := rfl
@[simp] theorem Qaev : U.flat.flats [] = true := rfl
@[simp] theorem Qaet (u : U) (us : List U) : U.flat.flats (u :: us) = (u.flat && U.flat.flats us) := rfl
@[simp] theorem Qfb (k : IntKind) (n : Int) : (U.int k n).flat = true := rfl
@[simp] theorem Qaep (b : Bool) : (U.bool b).flat = true := rfl
@[simp] theorem Qaes (b : ByteArray) : (U.str b).flat = true := rfl
@[simp] theorem Qaeq : U.nil.flat = true := rfl
@[simp] theorem Qaer (k : Nat) : (U.nsl k).flat = true := rfl
@[simp] theorem Qaeo (us : List U) : (U.agg us).flat = U.flat.flats us := rfl
@[simp] theorem Qzp (k : IntKind) (n : Int) (K : U → Option α) : U.noTup (.int k n) K = K (.int k n) := rfl
@[simp] theorem Qae5 (b : Bool) (K : U → Option α) : U.noTup (.bool b) K = K (.bool b) := rfl
@[simp] theorem Qafa (b : ByteArray) (K : U → Option α) : U.noTup (.str b) K = K (.str b) := rfl
@[simp] theorem Qae8 (K : U → Option α) : U.noTup .nil K = K .nil := rfl
@[simp] theorem Qae4 (us : List U) (K : U → Option α) : U.noTup (.agg us) K = K (.agg us) := rfl
@[simp] theorem Qzq (k : Nat) (us : List U) (K : U → Option α) : U.noTup (.sl k us) K = K (.sl k us) := rfl
@[simp] theorem Qae9 (k : Nat) (K : U → Option α) : U.noTup (.nsl k) K = K (.nsl k) := rfl
@[simp] theorem Qafb (u : U) (K : U → Option α) : U.noTup (.vp u) K = K (.vp u) := rfl
@[simp] theorem Qae7 (r : Nat) (c : List U) (K : U → Option α) : U.noTup (.fn r c) K = K (.fn r c) := rfl
theorem Qes (k : Nat) (us : List U) (i : Int) (K : U → Option α) : U.elemAt k (.sl k us) i K = if 0 ≤ i then (us[i.toNat]?).bind K else none := by
 simp only [U.elemAt, if_true]
@[simp] theorem Qaen (j off : Nat) (us : List U) (K : U → Option α) : U.fieldAt j off (.agg us) K = if off = sizes (us.take j) then (us[j]?).bind K else none := rfl
@[simp] theorem Qaed (s : ByteArray) (i : Int) (K : U → Option α) : U.charAt (.str s) i K = if 0 ≤ i then (s[i.toNat]?).bind fun b => K (.int .u8 b.toNat) else none := rfl
@[simp] theorem Qaff (j : Nat) (us : List U) (K : U → Option α) : U.part j (.tup us) K = (us[j]?).bind K := rfl
@[simp] theorem Qr (k : Nat) (us : List U) : U.lenOf false (.sl k us) = some us.length := rfl
@[simp] theorem Qhu (k : Nat) : U.lenOf false (.nsl k) = some 0 := rfl
@[simp] theorem Qaex (s : ByteArray) : U.lenOf true (.str s) = some s.size := rfl
@[simp] theorem Qaei (k : Nat) (us : List U) : U.elems k (.sl k us) = some us := by simp only [U.elems, if_true]
@[simp] theorem Qaeh (k : Nat) : U.elems k (.nsl k) = some [] := by simp only [U.elems, if_true]
@[simp] theorem Qn (k : IntKind) (a b : Int) : U.bin .add (.int k a) (.int k b) = some (.int k (k.wrap (a + b))) := by simp only [U.bin, if_true]
@[simp] theorem Qa2 (k : IntKind) (a b : Int) : U.bin .sub (.int k a) (.int k b) = some (.int k (k.wrap (a - b))) := by simp only [U.bin, if_true]
@[simp] theorem Qad8 (k : IntKind) (a b : Int) : U.bin .mul (.int k a) (.int k b) = some (.int k (k.wrap (a * b))) := by simp only [U.bin, if_true]
@[simp] theorem Qaea (k : IntKind) (a b : Int) : U.bin .quo (.int k a) (.int k b) = if b = 0 then none else some (.int k (k.wrap (a.tdiv b))) := by simp only [U.bin, if_true]
@[simp] theorem Qaeb (k : IntKind) (a b : Int) : U.bin .rem (.int k a) (.int k b) = if b = 0 then none else some (.int k (a.tmod b)) := by simp only [U.bin, if_true]
@[simp] theorem Qy (k : IntKind) (a b : Int) : U.bin .eql (.int k a) (.int k b) = some (.bool (decide (a = b))) := by
 simp only [U.bin, if_true]; congr 2
@[simp] theorem Qj1 (k : IntKind) (a b : Int) : U.bin .neq (.int k a) (.int k b) = some (.bool (decide (a ≠ b))) := by
 simp only [U.bin, if_true]; congr 2; by_cases h : a = b <;> simp [h]
@[simp] theorem Qk (k : IntKind) (a b : Int) : U.bin .lss (.int k a) (.int k b) = some (.bool (decide (a < b))) := by simp only [U.bin, if_true]
@[simp] theorem Qp (k : IntKind) (a b : Int) : U.bin .leq (.int k a) (.int k b) = some (.bool (decide (a ≤ b))) := by simp only [U.bin, if_true]
@[simp] theorem Qv (k : IntKind) (a b : Int) : U.bin .gtr (.int k a) (.int k b) = some (.bool (decide (b < a))) := by simp only [U.bin, if_true]
@[simp] theorem Qad7 (k : IntKind) (a b : Int) : U.bin .geq (.int k a) (.int k b) = some (.bool (decide (b ≤ a))) := by simp only [U.bin, if_true]
@[simp] theorem Qad5 (a b : ByteArray) : U.bin .add (.str a) (.str b) = if a.size + b.size ≤ 140737488355328 then some (.str (a ++ b)) else none := rfl
@[simp] theorem Qad6 (a b : ByteArray) : U.bin .eql (.str a) (.str b) = some (.bool (a.toList == b.toList)) := rfl
@[simp] theorem Qad9 (a b : ByteArray) : U.bin .neq (.str a) (.str b) = some (.bool !(a.toList == b.toList)) := rfl
@[simp] theorem Qec (b : Bool) : U.un .not (.bool b) = some (.bool !b) := rfl
@[simp] theorem Qaf5 (k : IntKind) (n : Int) : U.un .neg (.int k n) = some (.int k (k.wrap (0 - n))) := rfl
@[simp] theorem Qaee (k k' : IntKind) (n : Int) : U.conv k (.int k' n) = some (.int k (k.wrap n)) := rfl
@[simp] theorem Qaek (a b : Bool) : U.eqv 0 (.bool a) (.bool b) = some (a == b) := rfl
@[simp] theorem Qael : U.eqv 1 .nil .nil = some true := rfl
@[simp] theorem Qaem (u : U) : U.eqv 1 (.vp u) .nil = some false := rfl
@[simp] theorem Qaej (n : Nat) (us vs : List U) : U.eqv (n + 2) (.agg us) (.agg vs) = if us.length = n then eqInts us vs else none := rfl
@[simp] theorem Qb8 : eqInts [] [] = some true := rfl
@[simp] theorem Qb7 (a b : Int) (us vs : List U) : eqInts (.int .i64 a :: us) (.int .i64 b :: vs) = (eqInts us vs).map fun r => (a == b) && r := rfl
attribute [simp] List.getElem?_cons_zero
theorem Qj {n : Int} (h : -9223372036854775808 ≤ n ∧ n ≤ 9223372036854775807) : IntKind.i64.wrap n = n := IntWalk.i64_in n h
end
theorem ite_t (b c : Bool) : (if b = true then some (U.bool c) else some (U.bool false)) = some (U.bool (b && c)) := by cases b <;> rfl
theorem ite_f (b c : Bool) : (if b = false then some (U.bool false) else some (U.bool c)) = some (U.bool (b && c)) := by cases b <;> rfl
theorem ite_p (p : Prop) [Decidable p] (c : Bool) : (if p then some (U.bool c) else some (U.bool false)) = some (U.bool (decide p && c)) := by by_cases h : p <;> simp [h]
theorem ite_n (p : Prop) [Decidable p] (c : Bool) : (if p then some (U.bool false) else some (U.bool c)) = some (U.bool (!decide p && c)) := by by_cases h : p <;> simp [h]
section
variable {β : Type} {l p r : List β} {x : β} {i : Int}
theorem Qf (h : l = p ++ x :: r) : l = (p ++ [x]) ++ r := by subst h; simp
theorem Qu {γ : Type} {k : Nat} (f : β → U) (h0 : 0 ≤ i) (h : l[i.toNat]? = some x) (K : U → Option γ) : U.elemAt k (.sl k (l.map f)) i K = K (f x) := by
 rw [Qes, if_pos h0, List.getElem?_map, h]; rfl
theorem Qg (e : l = p ++ x :: r) (hi : i = p.length) (hl : l.length ≤ 9223372036854775807) :
  0 ≤ i ∧ i < (l.length : Int) ∧ (∀ {γ : Type} (k : Nat) (f : β → U) (K : U → Option γ), U.elemAt k (.sl k (l.map f)) i K = K (f x)) ∧ IntKind.i64.wrap (i + 1) = i + 1 ∧ i + 1 = ((p ++ [x]).length : Int) ∧ l[i.toNat]? = some x := by
 have hx : l[i.toNat]? = some x := by subst e; subst hi; simp
 have h0 : 0 ≤ i := by omega
 refine ⟨h0, ?_, fun k f K => Qu f h0 hx K, ?_, by simp [hi], hx⟩
 ·subst e; subst hi; simp only [List.length_append, List.length_cons]; omega
 ·subst e; subst hi
  simp only [List.length_append, List.length_cons] at hl
  exact Qj (by omega)
theorem Qi (e : l = p ++ []) (hi : i = p.length) : ¬ i < (l.length : Int) := by
 subst e; subst hi; simp
theorem Qct (e : l = p ++ r) (hi : i = p.length) (hl : l.length ≤ 9223372036854775807) (hp : p ≠ []) :
  ∃ q j, p.getLast? = some q ∧ 0 < i ∧ IntKind.i64.wrap (i - 1) = j ∧ 0 ≤ j ∧ (∀ {γ : Type} (k : Nat) (f : β → U) (K : U → Option γ), U.elemAt k (.sl k (l.map f)) j K = K (f q)) ∧ l[j.toNat]? = some q := by
 subst e; subst hi
 have h1 : 0 < p.length := List.length_pos_iff.2 hp
 simp only [List.length_append] at hl
 have e1 : ((p.length : Int) - 1).toNat = p.length - 1 := by omega
 have hx : (p ++ r)[((p.length : Int) - 1).toNat]? = some (p.getLast hp) := by
  rw [e1, List.getElem?_append_left (by omega), ← List.getLast?_eq_getElem?, List.getLast?_eq_some_getLast hp]
 exact ⟨p.getLast hp, (p.length : Int) - 1, List.getLast?_eq_some_getLast hp, by omega, Qj (by omega), by omega, fun k f K => Qu f (by omega) hx K, hx⟩
theorem Qfi {k : Nat} (f : β → U) (e : l = p ++ r) (hi : i = p.length) : U.cut false k (.sl k (l.map f)) none (some i) = some (.sl k (p.map f)) := by
 subst e; subst hi
 simp only [U.cut, Option.getD_none, Option.getD_some, List.length_map, List.length_append]
 rw [if_pos (by refine ⟨trivial, by omega, by omega, by omega⟩)]
 simp
end
end Go.Proofs.YtlgblpngiamhaaaGreat.Am
