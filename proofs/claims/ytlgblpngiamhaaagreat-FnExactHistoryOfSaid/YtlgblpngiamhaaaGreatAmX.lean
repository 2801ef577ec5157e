import Derived.IntWalk
import Derived.Test.YtlgblpngiamhaaaGreatAmE
namespace Go.Proofs.YtlgblpngiamhaaaGreat.Am
open Go
section
variable {α β:Type}
@[simp] theorem Qb6 (k:IntKind) (n:Int):(U.int k n).size = 1:=rfl
@[simp] theorem Qaiv (b:Bool):(U.bool b).size = 1:=rfl
@[simp] theorem Qai0 (b:ByteArray):(U.str b).size = 1:=rfl
@[simp] theorem Qaix:(U.nil).size = 1:=rfl
@[simp] theorem Qaiz (k:Nat) (us:List U):(U.sl k us).size = 1:=rfl
@[simp] theorem Qaiy (k:Nat):(U.nsl k).size = 1:=rfl
@[simp] theorem Qai1 (u:U):(U.vp u).size = 1:=rfl
@[simp] theorem Qaiw (k:Nat) (us:List U):(U.fn k us).size = 1:=rfl
@[simp] theorem Qahj (u:U):(D.val u).size = u.size:=rfl
@[simp] theorem Qagn {α:Type} (b:Bool) (K:Bool→Option α):U.asB (.bool b) K = K b:=rfl
@[simp] theorem Qaij {α:Type} (k:IntKind) (n:Int) (K:U→Option α):U.ownV (.int k n) K = K (.int k n):=rfl
@[simp] theorem Qaii {α:Type} (b:Bool) (K:U→Option α):U.ownV (.bool b) K = K (.bool b):=rfl
@[simp] theorem Qaik {α:Type} (b:ByteArray) (K:U→Option α):U.ownV (.str b) K = K (.str b):=rfl
@[simp] theorem Qcr (k:IntKind) (n:Int):storable (.val (.int k n)) = true:=rfl
@[simp] theorem Qai3 (b:Bool):storable (.val (.bool b)) = true:=rfl
@[simp] theorem Qai9 (b:ByteArray):storable (.val (.str b)) = true:=rfl
@[simp] theorem Qai6:storable (.val .nil) = true:=rfl
@[simp] theorem Qai2 (us:List U):storable (.val (.agg us)) = true:=rfl
@[simp] theorem Qai8 (k:Nat) (us:List U):storable (.val (.sl k us)) = true:=rfl
@[simp] theorem Qai7 (k:Nat):storable (.val (.nsl k)) = true:=rfl
@[simp] theorem Qaja (u:U):storable (.val (.vp u)) = true:=rfl
@[simp] theorem Qai4 (k:Nat) (us:List U):storable (.val (.fn k us)) = true:=rfl
@[simp] theorem Qpv (k:IntKind) (n:Int):partable (.val (.int k n)) = true:=rfl
@[simp] theorem Qain (b:Bool):partable (.val (.bool b)) = true:=rfl
@[simp] theorem Qait (b:ByteArray):partable (.val (.str b)) = true:=rfl
@[simp] theorem Qaiq:partable (.val .nil) = true:=rfl
@[simp] theorem Qaim (us:List U):partable (.val (.agg us)) = true:=rfl
@[simp] theorem Qais (k:Nat) (us:List U):partable (.val (.sl k us)) = true:=rfl
@[simp] theorem Qair (k:Nat):partable (.val (.nsl k)) = true:=rfl
@[simp] theorem Qaiu (u:U):partable (.val (.vp u)) = true:=rfl
@[simp] theorem Qaio (k:Nat) (us:List U):partable (.val (.fn k us)) = true:=rfl
@[simp] theorem Qah4 (k:IntKind) (n:Int):U.nilOwn (.int k n) = .int k n:=rfl
@[simp] theorem Qah3 (b:Bool):U.nilOwn (.bool b) = .bool b:=rfl
@[simp] theorem Qah8 (b:ByteArray):U.nilOwn (.str b) = .str b:=rfl
@[simp] theorem Qah5:U.nilOwn .nil = .nil:=rfl
@[simp] theorem Qah7 (k:Nat) (us:List U):U.nilOwn (.sl k us) = .sl k us:=rfl
@[simp] theorem Qah6 (k:Nat):U.nilOwn (.nsl k) = .sl k []:=rfl
@[simp] theorem Qp (n:Int) (K:Int→Option α):U.asInt (.int .i64 n) K = K n:=rfl
@[simp] theorem Qi (b:Bool) (T F:Option α):U.asBool (.bool b) T F = if b = true then T else F:=by cases b <;> rfl
@[simp] theorem Qcc (us:List U) (K:List U→Option α):U.asAgg (.agg us) K = K us:=rfl
@[simp] theorem Qag8 (u:U) (K:U→Option α):U.asVp (.vp u) K = K u:=rfl
@[simp] theorem Qagv (r:Nat) (c:List U) (K:Nat→List U→Option α):U.asFn (.fn r c) K = if r < 100000 then K r c else none:=rfl
@[simp] theorem Qagz (us:List U) (K:List U→Option α):U.asTup (.tup us) K = K us:=rfl
@[simp] theorem Qagy (k:Nat) (us:List U) (K:List U→Option α):U.asSlK k (.sl k us) K = K us:=by simp only [U.asSlK,if_true]
@[simp] theorem Qagw (k:Nat) (x:U) (ys:List U) (K:U→List U→Option α):U.asMut k (.tup [x,.sl k ys]) K = K x ys:=by simp only [U.asMut,if_true]
@[simp] theorem Qagx (k:Nat) (K:Nat→Option α):U.asNsl (.nsl k) K = K k:=rfl
@[simp] theorem Qan (k:IntKind) (n:Int) (K:U→Option α):U.asVar false 1 (.int k n) K = K (.int k n):=rfl
@[simp] theorem Qag1 (b:Bool) (K:U→Option α):U.asVar false 1 (.bool b) K = K (.bool b):=rfl
@[simp] theorem Qag6 (b:ByteArray) (K:U→Option α):U.asVar false 1 (.str b) K = K (.str b):=rfl
@[simp] theorem Qag4 (K:U→Option α):U.asVar false 1 .nil K = K .nil:=rfl
@[simp] theorem Qcx (k:Nat) (us:List U) (K:U→Option α):U.asVar false 1 (.sl k us) K = K (.sl k us):=rfl
@[simp] theorem Qag5 (k:Nat) (K:U→Option α):U.asVar false 1 (.nsl k) K = K (.nsl k):=rfl
@[simp] theorem Qag7 (u:U) (K:U→Option α):U.asVar false 1 (.vp u) K = K (.vp u):=rfl
@[simp] theorem Qag2 (r:Nat) (c:List U) (K:U→Option α):U.asVar false 1 (.fn r c) K = K (.fn r c):=rfl
@[simp] theorem Qag0 (n:Nat) (us:List U) (K:U→Option α):U.asVar true n (.agg us) K = if sizes us = n then K (.agg us) else none:=by
 simp only [U.asVar,D.isAgg,true_and,Qhl]
@[simp] theorem Qagq (k:IntKind) (n:Int) (K:U→Option α):U.asFlat (.int k n) K = K (.int k n):=rfl
@[simp] theorem Qagp (b:Bool) (K:U→Option α):U.asFlat (.bool b) K = K (.bool b):=rfl
@[simp] theorem Qagt (b:ByteArray) (K:U→Option α):U.asFlat (.str b) K = K (.str b):=rfl
@[simp] theorem Qagr (K:U→Option α):U.asFlat .nil K = K .nil:=rfl
@[simp] theorem Qags (k:Nat) (K:U→Option α):U.asFlat (.nsl k) K = K (.nsl k):=rfl
@[simp] theorem Qago (us:List U) (K:U→Option α):U.asFlat (.agg us) K = if U.flat.flats us = true then K (.agg us) else none:=rfl
@[simp] theorem Qagu (us:List U) (K:U→Option α):U.asFlat (.tup us) K = if U.flat.flats us = true then K (.tup us) else none:=rfl
@[simp] theorem Qahz:U.flat.flats [] = true:=rfl
@[simp] theorem Qahw (u:U) (us:List U):U.flat.flats (u :: us) = (u.flat && U.flat.flats us):=rfl
@[simp] theorem Qb0 (k:IntKind) (n:Int):(U.int k n).flat = true:=rfl
@[simp] theorem Qahs (b:Bool):(U.bool b).flat = true:=rfl
@[simp] theorem Qahv (b:ByteArray):(U.str b).flat = true:=rfl
@[simp] theorem Qaht:U.nil.flat = true:=rfl
@[simp] theorem Qahu (k:Nat):(U.nsl k).flat = true:=rfl
@[simp] theorem Qahr (us:List U):(U.agg us).flat = U.flat.flats us:=rfl
@[simp] theorem Qaid (k:IntKind) (n:Int) (K:U→Option α):U.noTup (.int k n) K = K (.int k n):=rfl
@[simp] theorem Qaia (b:Bool) (K:U→Option α):U.noTup (.bool b) K = K (.bool b):=rfl
@[simp] theorem Qaig (b:ByteArray) (K:U→Option α):U.noTup (.str b) K = K (.str b):=rfl
@[simp] theorem Qaie (K:U→Option α):U.noTup .nil K = K .nil:=rfl
@[simp] theorem Qah9 (us:List U) (K:U→Option α):U.noTup (.agg us) K = K (.agg us):=rfl
@[simp] theorem Qacx (k:Nat) (us:List U) (K:U→Option α):U.noTup (.sl k us) K = K (.sl k us):=rfl
@[simp] theorem Qaif (k:Nat) (K:U→Option α):U.noTup (.nsl k) K = K (.nsl k):=rfl
@[simp] theorem Qaih (u:U) (K:U→Option α):U.noTup (.vp u) K = K (.vp u):=rfl
@[simp] theorem Qaic (r:Nat) (c:List U) (K:U→Option α):U.noTup (.fn r c) K = K (.fn r c):=rfl
theorem Qjg (k:Nat) (us:List U) (i:Int) (K:U→Option α):U.elemAt k (.sl k us) i K = if 0 ≤ i then (us[i.toNat]?).bind K else none:=by
 simp only [U.elemAt,if_true]
@[simp] theorem Qahq (j off:Nat) (us:List U) (K:U→Option α):U.fieldAt j off (.agg us) K = if off = sizes (us.take j) then (us[j]?).bind K else none:=rfl
@[simp] theorem Qahh (s:ByteArray) (i:Int) (K:U→Option α):U.charAt (.str s) i K = if 0 ≤ i then (s[i.toNat]?).bind fun b=>K (.int .u8 b.toNat) else none:=rfl
@[simp] theorem Qail (j:Nat) (us:List U) (K:U→Option α):U.part j (.tup us) K = (us[j]?).bind K:=rfl
@[simp] theorem Qn (k:Nat) (us:List U):U.lenOf false (.sl k us) = some us.length:=rfl
@[simp] theorem Qah1 (k:Nat):U.lenOf false (.nsl k) = some 0:=rfl
@[simp] theorem Qah2 (s:ByteArray):U.lenOf true (.str s) = some s.size:=rfl
@[simp] theorem Qahl (k:Nat) (us:List U):U.elems k (.sl k us) = some us:=by simp only [U.elems,if_true]
@[simp] theorem Qahk (k:Nat):U.elems k (.nsl k) = some []:=by simp only [U.elems,if_true]
@[simp] theorem Qo (k:IntKind) (a b:Int):U.bin .add (.int k a) (.int k b) = some (.int k (k.wrap (a + b))):=by simp only [U.bin,if_true]
@[simp] theorem Qahg (k:IntKind) (a b:Int):U.bin .sub (.int k a) (.int k b) = some (.int k (k.wrap (a - b))):=by simp only [U.bin,if_true]
@[simp] theorem Qahc (k:IntKind) (a b:Int):U.bin .mul (.int k a) (.int k b) = some (.int k (k.wrap (a * b))):=by simp only [U.bin,if_true]
@[simp] theorem Qahe (k:IntKind) (a b:Int):U.bin .quo (.int k a) (.int k b) = if b = 0 then none else some (.int k (k.wrap (a.tdiv b))):=by simp only [U.bin,if_true]
@[simp] theorem Qahf (k:IntKind) (a b:Int):U.bin .rem (.int k a) (.int k b) = if b = 0 then none else some (.int k (a.tmod b)):=by simp only [U.bin,if_true]
@[simp] theorem Qcd (k:IntKind) (a b:Int):U.bin .eql (.int k a) (.int k b) = some (.bool (decide (a = b))):=by
 simp only [U.bin,if_true]; congr 2
@[simp] theorem Qiv (k:IntKind) (a b:Int):U.bin .neq (.int k a) (.int k b) = some (.bool (decide (a ≠ b))):=by
 simp only [U.bin,if_true]; congr 2; by_cases h:a = b <;> simp [h]
@[simp] theorem Ql (k:IntKind) (a b:Int):U.bin .lss (.int k a) (.int k b) = some (.bool (decide (a < b))):=by simp only [U.bin,if_true]
@[simp] theorem Qiu (k:IntKind) (a b:Int):U.bin .leq (.int k a) (.int k b) = some (.bool (decide (a ≤ b))):=by simp only [U.bin,if_true]
@[simp] theorem Qit (k:IntKind) (a b:Int):U.bin .gtr (.int k a) (.int k b) = some (.bool (decide (b < a))):=by simp only [U.bin,if_true]
@[simp] theorem Qahb (k:IntKind) (a b:Int):U.bin .geq (.int k a) (.int k b) = some (.bool (decide (b ≤ a))):=by simp only [U.bin,if_true]
@[simp] theorem Qag9 (a b:ByteArray):U.bin .add (.str a) (.str b) = if a.size + b.size ≤ 140737488355328 then some (.str (a ++ b)) else none:=rfl
@[simp] theorem Qaha (a b:ByteArray):U.bin .eql (.str a) (.str b) = some (.bool (a.toList == b.toList)):=rfl
@[simp] theorem Qahd (a b:ByteArray):U.bin .neq (.str a) (.str b) = some (.bool !(a.toList == b.toList)):=rfl
@[simp] theorem Qcs (b:Bool):U.un .not (.bool b) = some (.bool !b):=rfl
@[simp] theorem Qajb (k:IntKind) (n:Int):U.un .neg (.int k n) = some (.int k (k.wrap (0 - n))):=rfl
@[simp] theorem Qahi (k k':IntKind) (n:Int):U.conv k (.int k' n) = some (.int k (k.wrap n)):=rfl
@[simp] theorem Qahn (a b:Bool):U.eqv 0 (.bool a) (.bool b) = some (a == b):=rfl
@[simp] theorem Qaho:U.eqv 1 .nil .nil = some true:=rfl
@[simp] theorem Qahp (u:U):U.eqv 1 (.vp u) .nil = some false:=rfl
@[simp] theorem Qahm (n:Nat) (us vs:List U):U.eqv (n + 2) (.agg us) (.agg vs) = if us.length = n then eqInts us vs else none:=rfl
@[simp] theorem Qcg:eqInts [] [] = some true:=rfl
@[simp] theorem Qcf (a b:Int) (us vs:List U):eqInts (.int .i64 a :: us) (.int .i64 b :: vs) = (eqInts us vs).map fun r=>(a == b) && r:=rfl
attribute [simp] List.getElem?_cons_zero
theorem Qj {n:Int} (h:-9223372036854775808 ≤ n ∧ n ≤ 9223372036854775807):IntKind.i64.wrap n = n:=IntWalk.i64_in n h
end
theorem ite_t (b c:Bool):(if b = true then some (U.bool c) else some (U.bool false)) = some (U.bool (b && c)):=by cases b <;> rfl
theorem ite_f (b c:Bool):(if b = false then some (U.bool false) else some (U.bool c)) = some (U.bool (b && c)):=by cases b <;> rfl
theorem ite_p (p:Prop) [Decidable p] (c:Bool):(if p then some (U.bool c) else some (U.bool false)) = some (U.bool (decide p && c)):=by by_cases h:p <;> simp [h]
theorem ite_n (p:Prop) [Decidable p] (c:Bool):(if p then some (U.bool false) else some (U.bool c)) = some (U.bool (!decide p && c)):=by by_cases h:p <;> simp [h]
section
variable {β:Type} {l p r:List β} {x:β} {i:Int}
theorem Qc (h:l = p ++ x :: r):l = (p ++ [x]) ++ r:=by subst h; simp
theorem Qc2 {γ:Type} {k:Nat} (f:β→U) (h0:0 ≤ i) (h:l[i.toNat]? = some x) (K:U→Option γ):U.elemAt k (.sl k (l.map f)) i K = K (f x):=by
 rw [Qjg,if_pos h0,List.getElem?_map,h]; rfl
theorem Qd (e:l = p ++ x :: r) (hi:i = p.length) (hl:l.length ≤ 9223372036854775807) :
  0 ≤ i ∧ i < (l.length:Int) ∧ (∀ {γ:Type} (k:Nat) (f:β→U) (K:U→Option γ),U.elemAt k (.sl k (l.map f)) i K = K (f x)) ∧ IntKind.i64.wrap (i + 1) = i + 1 ∧ i + 1 = ((p ++ [x]).length:Int) ∧ l[i.toNat]? = some x:=by
 have hx:l[i.toNat]? = some x:=by subst e; subst hi; simp
 have h0:0 ≤ i:=by omega
 refine ⟨h0,?_,fun k f K=>Qc2 f h0 hx K,?_,by simp [hi],hx⟩
 ·subst e; subst hi; simp only [List.length_append,List.length_cons]; omega
 ·subst e; subst hi
  simp only [List.length_append,List.length_cons] at hl
  exact Qj (by omega)
theorem Qg (e:l = p ++ []) (hi:i = p.length):¬ i < (l.length:Int):=by
 subst e; subst hi; simp
theorem Qao (e:l = p ++ r) (hi:i = p.length) (hl:l.length ≤ 9223372036854775807) (hp:p ≠ []) :
  ∃ q j,p.getLast? = some q ∧ 0 < i ∧ IntKind.i64.wrap (i - 1) = j ∧ 0 ≤ j ∧ (∀ {γ:Type} (k:Nat) (f:β→U) (K:U→Option γ),U.elemAt k (.sl k (l.map f)) j K = K (f q)) ∧ l[j.toNat]? = some q:=by
 subst e; subst hi
 have h1:0 < p.length:=List.length_pos_iff.2 hp
 simp only [List.length_append] at hl
 have e1:((p.length:Int) - 1).toNat = p.length - 1:=by omega
 have hx:(p ++ r)[((p.length:Int) - 1).toNat]? = some (p.getLast hp):=by
  rw [e1,List.getElem?_append_left (by omega),← List.getLast?_eq_getElem?,List.getLast?_eq_some_getLast hp]
 exact ⟨p.getLast hp,(p.length:Int) - 1,List.getLast?_eq_some_getLast hp,by omega,Qj (by omega),by omega,fun k f K=>Qc2 f (by omega) hx K,hx⟩
end
end Go.Proofs.YtlgblpngiamhaaaGreat.Am
