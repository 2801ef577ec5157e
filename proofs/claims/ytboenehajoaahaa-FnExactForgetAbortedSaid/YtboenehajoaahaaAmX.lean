import Derived.IntWalk
import Derived.Test.YtboenehajoaahaaAmE
namespace Go.Proofs.Ytboenehajoaahaa.Am
open Go
section
variable {α β : Type}
@[simp] theorem Qcm (k : IntKind) (n : Int) : (U.int k n).size = 1 := rfl
@[simp] theorem Qac3 (b : Bool) : (U.bool b).size = 1 := rfl
@[simp] theorem Qac8 (b : ByteArray) : (U.str b).size = 1 := rfl
@[simp] theorem Qac5 : (U.nil).size = 1 := rfl
@[simp] theorem Qac7 (k : Nat) (us : List U) : (U.sl k us).size = 1 := rfl
@[simp] theorem Qac6 (k : Nat) : (U.nsl k).size = 1 := rfl
@[simp] theorem Qac9 (u : U) : (U.vp u).size = 1 := rfl
@[simp] theorem Qac4 (k : Nat) (us : List U) : (U.fn k us).size = 1 := rfl
@[simp] theorem Qabp (u : U) : (D.val u).size = u.size := rfl
@[simp] theorem Qaar {α : Type} (b : Bool) (K : Bool → Option α) : U.asB (.bool b) K = K b := rfl
@[simp] theorem Qacr {α : Type} (k : IntKind) (n : Int) (K : U → Option α) : U.ownV (.int k n) K = K (.int k n) := rfl
@[simp] theorem Qacq {α : Type} (b : Bool) (K : U → Option α) : U.ownV (.bool b) K = K (.bool b) := rfl
@[simp] theorem Qacs {α : Type} (b : ByteArray) (K : U → Option α) : U.ownV (.str b) K = K (.str b) := rfl
@[simp] theorem Qde (k : IntKind) (n : Int) : storable (.val (.int k n)) = true := rfl
@[simp] theorem Qadb (b : Bool) : storable (.val (.bool b)) = true := rfl
@[simp] theorem Qadh (b : ByteArray) : storable (.val (.str b)) = true := rfl
@[simp] theorem Qade : storable (.val .nil) = true := rfl
@[simp] theorem Qada (us : List U) : storable (.val (.agg us)) = true := rfl
@[simp] theorem Qadg (k : Nat) (us : List U) : storable (.val (.sl k us)) = true := rfl
@[simp] theorem Qadf (k : Nat) : storable (.val (.nsl k)) = true := rfl
@[simp] theorem Qadi (u : U) : storable (.val (.vp u)) = true := rfl
@[simp] theorem Qadc (k : Nat) (us : List U) : storable (.val (.fn k us)) = true := rfl
@[simp] theorem Qxd (k : IntKind) (n : Int) : partable (.val (.int k n)) = true := rfl
@[simp] theorem Qacv (b : Bool) : partable (.val (.bool b)) = true := rfl
@[simp] theorem Qac1 (b : ByteArray) : partable (.val (.str b)) = true := rfl
@[simp] theorem Qacy : partable (.val .nil) = true := rfl
@[simp] theorem Qacu (us : List U) : partable (.val (.agg us)) = true := rfl
@[simp] theorem Qac0 (k : Nat) (us : List U) : partable (.val (.sl k us)) = true := rfl
@[simp] theorem Qacz (k : Nat) : partable (.val (.nsl k)) = true := rfl
@[simp] theorem Qac2 (u : U) : partable (.val (.vp u)) = true := rfl
@[simp] theorem Qacw (k : Nat) (us : List U) : partable (.val (.fn k us)) = true := rfl
@[simp] theorem Qacc (k : IntKind) (n : Int) : U.nilOwn (.int k n) = .int k n := rfl
@[simp] theorem Qacb (b : Bool) : U.nilOwn (.bool b) = .bool b := rfl
@[simp] theorem Qacg (b : ByteArray) : U.nilOwn (.str b) = .str b := rfl
@[simp] theorem Qacd : U.nilOwn .nil = .nil := rfl
@[simp] theorem Qacf (k : Nat) (us : List U) : U.nilOwn (.sl k us) = .sl k us := rfl
@[simp] theorem Qace (k : Nat) : U.nilOwn (.nsl k) = .sl k [] := rfl
@[simp] theorem Qp (n : Int) (K : Int → Option α) : U.asInt (.int .i64 n) K = K n := rfl
@[simp] theorem Qj (b : Bool) (T F : Option α) : U.asBool (.bool b) T F = if b = true then T else F := by cases b <;> rfl
@[simp] theorem Qb5 (us : List U) (K : List U → Option α) : U.asAgg (.agg us) K = K us := rfl
@[simp] theorem Qabc (u : U) (K : U → Option α) : U.asVp (.vp u) K = K u := rfl
@[simp] theorem Qaaz (r : Nat) (c : List U) (K : Nat → List U → Option α) : U.asFn (.fn r c) K = if r < 100000 then K r c else none := rfl
@[simp] theorem Qaa3 (us : List U) (K : List U → Option α) : U.asTup (.tup us) K = K us := rfl
@[simp] theorem Qaa2 (k : Nat) (us : List U) (K : List U → Option α) : U.asSlK k (.sl k us) K = K us := by simp only [U.asSlK, if_true]
@[simp] theorem Qaa0 (k : Nat) (x : U) (ys : List U) (K : U → List U → Option α) : U.asMut k (.tup [x, .sl k ys]) K = K x ys := by simp only [U.asMut, if_true]
@[simp] theorem Qaa1 (k : Nat) (K : Nat → Option α) : U.asNsl (.nsl k) K = K k := rfl
@[simp] theorem Qb6 (k : IntKind) (n : Int) (K : U → Option α) : U.asVar false 1 (.int k n) K = K (.int k n) := rfl
@[simp] theorem Qaa5 (b : Bool) (K : U → Option α) : U.asVar false 1 (.bool b) K = K (.bool b) := rfl
@[simp] theorem Qaba (b : ByteArray) (K : U → Option α) : U.asVar false 1 (.str b) K = K (.str b) := rfl
@[simp] theorem Qaa8 (K : U → Option α) : U.asVar false 1 .nil K = K .nil := rfl
@[simp] theorem Qp2 (k : Nat) (us : List U) (K : U → Option α) : U.asVar false 1 (.sl k us) K = K (.sl k us) := rfl
@[simp] theorem Qaa9 (k : Nat) (K : U → Option α) : U.asVar false 1 (.nsl k) K = K (.nsl k) := rfl
@[simp] theorem Qabb (u : U) (K : U → Option α) : U.asVar false 1 (.vp u) K = K (.vp u) := rfl
@[simp] theorem Qaa6 (r : Nat) (c : List U) (K : U → Option α) : U.asVar false 1 (.fn r c) K = K (.fn r c) := rfl
@[simp] theorem Qaa4 (n : Nat) (us : List U) (K : U → Option α) : U.asVar true n (.agg us) K = if sizes us = n then K (.agg us) else none := by
  simp only [U.asVar, D.isAgg, true_and, Qe7]
@[simp] theorem Qaau (k : IntKind) (n : Int) (K : U → Option α) : U.asFlat (.int k n) K = K (.int k n) := rfl
@[simp] theorem Qaat (b : Bool) (K : U → Option α) : U.asFlat (.bool b) K = K (.bool b) := rfl
@[simp] theorem Qaax (b : ByteArray) (K : U → Option α) : U.asFlat (.str b) K = K (.str b) := rfl
@[simp] theorem Qaav (K : U → Option α) : U.asFlat .nil K = K .nil := rfl
@[simp] theorem Qaaw (k : Nat) (K : U → Option α) : U.asFlat (.nsl k) K = K (.nsl k) := rfl
@[simp] theorem Qaas (us : List U) (K : U → Option α) : U.asFlat (.agg us) K = if U.flat.flats us = true then K (.agg us) else none := rfl
@[simp] theorem Qaay (us : List U) (K : U → Option α) : U.asFlat (.tup us) K = if U.flat.flats us = true then K (.tup us) else none := rfl
@[simp] theorem Qab6 : U.flat.flats [] = true := rfl
@[simp] theorem Qab3 (u : U) (us : List U) : U.flat.flats (u :: us) = (u.flat && U.flat.flats us) := rfl
@[simp] theorem Qcb (k : IntKind) (n : Int) : (U.int k n).flat = true := rfl
@[simp] theorem Qabz (b : Bool) : (U.bool b).flat = true := rfl
@[simp] theorem Qab2 (b : ByteArray) : (U.str b).flat = true := rfl
@[simp] theorem Qab0 : U.nil.flat = true := rfl
@[simp] theorem Qab1 (k : Nat) : (U.nsl k).flat = true := rfl
@[simp] theorem Qaby (us : List U) : (U.agg us).flat = U.flat.flats us := rfl
@[simp] theorem Qacl (k : IntKind) (n : Int) (K : U → Option α) : U.noTup (.int k n) K = K (.int k n) := rfl
@[simp] theorem Qaci (b : Bool) (K : U → Option α) : U.noTup (.bool b) K = K (.bool b) := rfl
@[simp] theorem Qaco (b : ByteArray) (K : U → Option α) : U.noTup (.str b) K = K (.str b) := rfl
@[simp] theorem Qacm (K : U → Option α) : U.noTup .nil K = K .nil := rfl
@[simp] theorem Qach (us : List U) (K : U → Option α) : U.noTup (.agg us) K = K (.agg us) := rfl
@[simp] theorem Qw2 (k : Nat) (us : List U) (K : U → Option α) : U.noTup (.sl k us) K = K (.sl k us) := rfl
@[simp] theorem Qacn (k : Nat) (K : U → Option α) : U.noTup (.nsl k) K = K (.nsl k) := rfl
@[simp] theorem Qacp (u : U) (K : U → Option α) : U.noTup (.vp u) K = K (.vp u) := rfl
@[simp] theorem Qack (r : Nat) (c : List U) (K : U → Option α) : U.noTup (.fn r c) K = K (.fn r c) := rfl
theorem Qqh (k : Nat) (us : List U) (i : Int) (K : U → Option α) : U.elemAt k (.sl k us) i K = if 0 ≤ i then (us[i.toNat]?).bind K else none := by
  simp only [U.elemAt, if_true]
@[simp] theorem Qabx (j off : Nat) (us : List U) (K : U → Option α) : U.fieldAt j off (.agg us) K = if off = sizes (us.take j) then (us[j]?).bind K else none := rfl
@[simp] theorem Qabn (s : ByteArray) (i : Int) (K : U → Option α) : U.charAt (.str s) i K = if 0 ≤ i then (s[i.toNat]?).bind fun b => K (.int .u8 b.toNat) else none := rfl
@[simp] theorem Qact (j : Nat) (us : List U) (K : U → Option α) : U.part j (.tup us) K = (us[j]?).bind K := rfl
@[simp] theorem Qn (k : Nat) (us : List U) : U.lenOf false (.sl k us) = some us.length := rfl
@[simp] theorem Qab9 (k : Nat) : U.lenOf false (.nsl k) = some 0 := rfl
@[simp] theorem Qaca (s : ByteArray) : U.lenOf true (.str s) = some s.size := rfl
@[simp] theorem Qabs (k : Nat) (us : List U) : U.elems k (.sl k us) = some us := by simp only [U.elems, if_true]
@[simp] theorem Qabr (k : Nat) : U.elems k (.nsl k) = some [] := by simp only [U.elems, if_true]
@[simp] theorem Qo (k : IntKind) (a b : Int) : U.bin .add (.int k a) (.int k b) = some (.int k (k.wrap (a + b))) := by simp only [U.bin, if_true]
@[simp] theorem Qabm (k : IntKind) (a b : Int) : U.bin .sub (.int k a) (.int k b) = some (.int k (k.wrap (a - b))) := by simp only [U.bin, if_true]
@[simp] theorem Qabi (k : IntKind) (a b : Int) : U.bin .mul (.int k a) (.int k b) = some (.int k (k.wrap (a * b))) := by simp only [U.bin, if_true]
@[simp] theorem Qabk (k : IntKind) (a b : Int) : U.bin .quo (.int k a) (.int k b) = if b = 0 then none else some (.int k (k.wrap (a.tdiv b))) := by simp only [U.bin, if_true]
@[simp] theorem Qabl (k : IntKind) (a b : Int) : U.bin .rem (.int k a) (.int k b) = if b = 0 then none else some (.int k (a.tmod b)) := by simp only [U.bin, if_true]
@[simp] theorem Qp4 (k : IntKind) (a b : Int) : U.bin .eql (.int k a) (.int k b) = some (.bool (decide (a = b))) := by
  simp only [U.bin, if_true]; congr 2
@[simp] theorem Qcv (k : IntKind) (a b : Int) : U.bin .neq (.int k a) (.int k b) = some (.bool (decide (a ≠ b))) := by
  simp only [U.bin, if_true]; congr 2; by_cases h : a = b <;> simp [h]
@[simp] theorem Qm (k : IntKind) (a b : Int) : U.bin .lss (.int k a) (.int k b) = some (.bool (decide (a < b))) := by simp only [U.bin, if_true]
@[simp] theorem Qabh (k : IntKind) (a b : Int) : U.bin .leq (.int k a) (.int k b) = some (.bool (decide (a ≤ b))) := by simp only [U.bin, if_true]
@[simp] theorem Qabg (k : IntKind) (a b : Int) : U.bin .gtr (.int k a) (.int k b) = some (.bool (decide (b < a))) := by simp only [U.bin, if_true]
@[simp] theorem Qabf (k : IntKind) (a b : Int) : U.bin .geq (.int k a) (.int k b) = some (.bool (decide (b ≤ a))) := by simp only [U.bin, if_true]
@[simp] theorem Qabd (a b : ByteArray) : U.bin .add (.str a) (.str b) = if a.size + b.size ≤ 140737488355328 then some (.str (a ++ b)) else none := rfl
@[simp] theorem Qabe (a b : ByteArray) : U.bin .eql (.str a) (.str b) = some (.bool (a.toList == b.toList)) := rfl
@[simp] theorem Qabj (a b : ByteArray) : U.bin .neq (.str a) (.str b) = some (.bool !(a.toList == b.toList)) := rfl
@[simp] theorem Qpd (b : Bool) : U.un .not (.bool b) = some (.bool !b) := rfl
@[simp] theorem Qadj (k : IntKind) (n : Int) : U.un .neg (.int k n) = some (.int k (k.wrap (0 - n))) := rfl
@[simp] theorem Qabo (k k' : IntKind) (n : Int) : U.conv k (.int k' n) = some (.int k (k.wrap n)) := rfl
@[simp] theorem Qabu (a b : Bool) : U.eqv 0 (.bool a) (.bool b) = some (a == b) := rfl
@[simp] theorem Qabv : U.eqv 1 .nil .nil = some true := rfl
@[simp] theorem Qabw (u : U) : U.eqv 1 (.vp u) .nil = some false := rfl
@[simp] theorem Qabt (n : Nat) (us vs : List U) : U.eqv (n + 2) (.agg us) (.agg vs) = if us.length = n then eqInts us vs else none := rfl
@[simp] theorem Qb9 : eqInts [] [] = some true := rfl
@[simp] theorem Qb8 (a b : Int) (us vs : List U) : eqInts (.int .i64 a :: us) (.int .i64 b :: vs) = (eqInts us vs).map fun r => (a == b) && r := rfl
attribute [simp] List.getElem?_cons_zero
theorem Qc {n : Int} (h : -9223372036854775808 ≤ n ∧ n ≤ 9223372036854775807) : IntKind.i64.wrap n = n := IntWalk.i64_in n h
end
section
variable {β : Type} {l p r : List β} {x : β} {i : Int}
theorem Qg (h : l = p ++ x :: r) : l = (p ++ [x]) ++ r := by subst h; simp
theorem Qqg {γ : Type} {k : Nat} (f : β → U) (h0 : 0 ≤ i) (h : l[i.toNat]? = some x) (K : U → Option γ) : U.elemAt k (.sl k (l.map f)) i K = K (f x) := by
  rw [Qqh, if_pos h0, List.getElem?_map, h]; rfl
theorem Qh (e : l = p ++ x :: r) (hi : i = p.length) (hl : l.length ≤ 9223372036854775807) :
    0 ≤ i ∧ i < (l.length : Int) ∧ (∀ {γ : Type} (k : Nat) (f : β → U) (K : U → Option γ), U.elemAt k (.sl k (l.map f)) i K = K (f x)) ∧ IntKind.i64.wrap (i + 1) = i + 1 ∧ i + 1 = ((p ++ [x]).length : Int) ∧ l[i.toNat]? = some x := by
  have hx : l[i.toNat]? = some x := by subst e; subst hi; simp
  have h0 : 0 ≤ i := by omega
  refine ⟨h0, ?_, fun k f K => Qqg f h0 hx K, ?_, by simp [hi], hx⟩
  · subst e; subst hi; simp only [List.length_append, List.length_cons]; omega
  · subst e; subst hi
    simp only [List.length_append, List.length_cons] at hl
    exact Qc (by omega)
theorem Qk (e : l = p ++ []) (hi : i = p.length) : ¬ i < (l.length : Int) := by
  subst e; subst hi; simp
end
end Go.Proofs.Ytboenehajoaahaa.Am
