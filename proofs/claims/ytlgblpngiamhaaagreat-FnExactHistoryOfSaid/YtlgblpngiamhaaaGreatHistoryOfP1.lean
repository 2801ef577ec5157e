import Derived.Test.YtlgblpngiamhaaaGreatHistoryOfP0
import Derived.Test.YtlgblpngiamhaaaGreatHistoryOfF1
import Derived.Test.YtlgblpngiamhaaaGreatAmX
import Derived.Test.YtlgblpngiamhaaaGreatHistoryOfF0
namespace Go.Proofs.YtlgblpngiamhaaaGreat.Am
open Go
variable {E:Env}
set_option linter.unusedVariables false
def locks1 (p:Option Lock) (w:Lock):Bool:=inR w.key 0 5 && inR w.owner 1 9 && (match p with | none=>true | some q=>decide (q.key < w.key))
def locksFrom:Option Lock→List Lock→Bool
 | _,[]=>true
 | p,w :: r=>locks1 p w && locksFrom (some w) r
def waits1 (p:Option Wait) (w:Wait):Bool:=inR w.id 1 9 && inR w.for_ 1 9 && !decide (w.id = w.for_) && (match p with | none=>true | some q=>decide (q.id < w.id))
def waitsFrom:Option Wait→List Wait→Bool
 | _,[]=>true
 | p,w :: r=>waits1 p w && waitsFrom (some w) r
theorem Qc8 (a b:Int):(!decide (b ≤ a)) = decide (a < b):=by rw [← decide_not]; congr 1; simp only [eq_iff_iff]; omega
theorem Qlp (h:G_f3 E) (l:List Lock) (hl:l.length ≤ 1048576):∀ (r p:List Lock) (i:Int),l = p ++ r→i = p.length →
  f3_l0 E (.sl 2 (l.map Lock.u)) (.sl 2 (l.map Lock.u)) (.int .i64 l.length) (.int .i64 i) = some (.bool (locksFrom p.getLast? r))
 | [],p,i,e,hi=>by
  rw [Qlo]
  simp [Qg e hi,locksFrom]
 | x :: r,p,i,e,hi=>by
  obtain ⟨h0,hlt,hx,hw,hn,_⟩:=Qd e hi (by omega)
  have ih:=Qlp h l hl r (p ++ [x]) (i + 1) (Qc e) hn
  rw [List.getLast?_concat] at ih
  rw [Qlo]
  by_cases hp:p = []
  ·have hi0:¬ 0 < i:=by subst hp; simp at hi; omega
   simp [h0,hlt,hx,hw,ih,Qc4 h.c_f34,Qae h.c_f33,hi0,hp,ite_f,locksFrom,locks1,Bool.and_assoc]
  ·obtain ⟨q,j,hq,hpos,hw1,h1,hq1,_⟩:=Qao e hi (by omega) hp
   simp [h0,hlt,hx,hw,ih,Qc4 h.c_f34,Qae h.c_f33,hpos,hq,hw1,hq1,ite_f,ite_n,locksFrom,locks1,Bool.and_assoc,Qc8]
theorem f3_is (h:G_f3 E) (l:List Lock) (hl:l.length ≤ 1048576):E 150 [.sl 2 (l.map Lock.u)] = some (.bool (locksFrom none l)):=by
 rw [f3_E h]
 simp [Qlp h l hl l [] 0 rfl rfl]
theorem Qkj (h:G_f119 E) (l:List Lock) (hl:l.length ≤ 1048576):∀ (r p:List Lock) (i:Int),l = p ++ r→i = p.length →
  f119_l0 E (.sl 2 (l.map Lock.u)) (.int .i64 i) = some (.bool (locksFrom p.getLast? r))
 | [],p,i,e,hi=>by
  rw [Qki]
  simp [Qg e hi,locksFrom]
 | x :: r,p,i,e,hi=>by
  obtain ⟨h0,hlt,hx,hw,hn,_⟩:=Qd e hi (by omega)
  have ih:=Qkj h l hl r (p ++ [x]) (i + 1) (Qc e) hn
  rw [List.getLast?_concat] at ih
  rw [Qki]
  by_cases hp:p = []
  ·have hi0:¬ 0 < i:=by subst hp; simp at hi; omega
   simp [h0,hlt,hx,hw,ih,Qa1 h.c_f133,hi0,hp,ite_f,locksFrom,locks1,Bool.and_assoc]
  ·obtain ⟨q,j,hq,hpos,hw1,h1,hq1,_⟩:=Qao e hi (by omega) hp
   simp [h0,hlt,hx,hw,ih,Qa1 h.c_f133,hpos,hq,hw1,hq1,ite_f,ite_n,locksFrom,locks1,Bool.and_assoc,Qc8]
theorem Qu0 (h:G_f119 E) (l:List Lock) (hl:l.length ≤ 1048576):E 137 [.sl 2 (l.map Lock.u)] = some (.bool (locksFrom none l)):=by
 rw [Quz h]
 simp [Qkj h l hl l [] 0 rfl rfl]
theorem Ql5 (h:G_f4 E) (l:List Wait) (hl:l.length ≤ 1048576):∀ (r p:List Wait) (i:Int),l = p ++ r→i = p.length →
  f4_l0 E (.sl 2 (l.map Wait.u)) (.sl 2 (l.map Wait.u)) (.int .i64 l.length) (.int .i64 i) = some (.bool (waitsFrom p.getLast? r))
 | [],p,i,e,hi=>by
  rw [Ql4]
  simp [Qg e hi,waitsFrom]
 | x :: r,p,i,e,hi=>by
  obtain ⟨h0,hlt,hx,hw,hn,_⟩:=Qd e hi (by omega)
  have ih:=Ql5 h l hl r (p ++ [x]) (i + 1) (Qc e) hn
  rw [List.getLast?_concat] at ih
  rw [Ql4]
  by_cases hp:p = []
  ·have hi0:¬ 0 < i:=by subst hp; simp at hi; omega
   simp [h0,hlt,hx,hw,ih,Qae h.c_f33,hi0,hp,ite_f,ite_n,waitsFrom,waits1,Bool.and_assoc]
  ·obtain ⟨q,j,hq,hpos,hw1,h1,hq1,_⟩:=Qao e hi (by omega) hp
   simp [h0,hlt,hx,hw,ih,Qae h.c_f33,hpos,hq,hw1,hq1,ite_f,ite_n,waitsFrom,waits1,Bool.and_assoc,Qc8]
theorem f4_is (h:G_f4 E) (l:List Wait) (hl:l.length ≤ 1048576):E 151 [.sl 2 (l.map Wait.u)] = some (.bool (waitsFrom none l)):=by
 rw [f4_E h]
 simp [Ql5 h l hl l [] 0 rfl rfl]
theorem Qkn (h:G_f120 E) (l:List Wait) (hl:l.length ≤ 1048576):∀ (r p:List Wait) (i:Int),l = p ++ r→i = p.length →
  f120_l0 E (.sl 2 (l.map Wait.u)) (.int .i64 i) = some (.bool (waitsFrom p.getLast? r))
 | [],p,i,e,hi=>by
  rw [Qkm]
  simp [Qg e hi,waitsFrom]
 | x :: r,p,i,e,hi=>by
  obtain ⟨h0,hlt,hx,hw,hn,_⟩:=Qd e hi (by omega)
  have ih:=Qkn h l hl r (p ++ [x]) (i + 1) (Qc e) hn
  rw [List.getLast?_concat] at ih
  rw [Qkm]
  by_cases hp:p = []
  ·have hi0:¬ 0 < i:=by subst hp; simp at hi; omega
   simp [h0,hlt,hx,hw,ih,Qa1 h.c_f133,hi0,hp,ite_f,ite_n,waitsFrom,waits1,Bool.and_assoc]
  ·obtain ⟨q,j,hq,hpos,hw1,h1,hq1,_⟩:=Qao e hi (by omega) hp
   simp [h0,hlt,hx,hw,ih,Qa1 h.c_f133,hpos,hq,hw1,hq1,ite_f,ite_n,waitsFrom,waits1,Bool.and_assoc,Qc8]
theorem Qu5 (h:G_f120 E) (l:List Wait) (hl:l.length ≤ 1048576):E 138 [.sl 2 (l.map Wait.u)] = some (.bool (waitsFrom none l)):=by
 rw [Qu4 h]
 simp [Qkn h l hl l [] 0 rfl rfl]
def hasID (c:Int) (t:Transaction):Bool:=decide (t.id = c)
theorem f8_is (h:G_f8 E) (t:Transaction) (c:Int):E 171 [t.u,.vp (.int .i64 c)] = some (.bool (hasID c t)):=by
 rw [f8_E h]; simp [hasID]
theorem f7_is (h:G_f7 E) (e:Engine) (ho:e.ok) (c:Int):E 170 [e.u,.int .i64 c] = some (.int .i64 (idxF (hasID c) e.transactions 0)):=by
 rw [f7_E h]
 have:=Quu h.c_f117 e.transactions (by have:=ho.2.1; omega) 171 [.vp (.int .i64 c)] (hasID c) (fun t _=>f8_is h.c_f8 t c)
 simp [this]
theorem Qkp (e:Engine) (ho:e.ok) (c:Int):∀ (r p:List Transaction) (i:Int),e.transactions = p ++ r→i = p.length →
  f121_l0 E (.int .i64 c) (.int .i64 i) e.u = some (.int .i64 (idxF (hasID c) r i))
 | [],p,i,el,hi=>by
  rw [Qko]
  simp [Qg el hi,idxF]
 | x :: r,p,i,el,hi=>by
  obtain ⟨h0,hlt,hx,hw,hn,_⟩:=Qd el hi (by have:=ho.2.1; omega)
  have ih:=Qkp e ho c r (p ++ [x]) (i + 1) (Qc el) hn
  rw [Qko]
  by_cases h1:x.id = c <;> simp [hlt,hx,hw,ih,h1,idxF,hasID]
theorem Qu8 (h:G_f121 E) (e:Engine) (ho:e.ok) (c:Int):E 141 [e.u,.int .i64 c] = some (.int .i64 (idxF (hasID c) e.transactions 0)):=by
 rw [Qu7 h]
 simp [Qkp e ho c e.transactions [] 0 rfl rfl]
def Engine.tx (e:Engine) (c:Int):Option Transaction:=e.transactions.find? (hasID c)
theorem Qnv {α:Type} (P:α→Bool) (l:List α) (hl:l.length ≤ 9223372036854775807):(l.find? P = none ∧ idxF P l 0 = -1) ∨
  ∃ x j,l.find? P = some x ∧ x ∈ l ∧ P x = true ∧ idxF P l 0 = j ∧ (0 ≤ j) ∧ j < l.length ∧ ∀ {γ:Type} (k:Nat) (f:α→U) (K:U→Option γ),U.elemAt k (.sl k (l.map f)) j K = K (f x):=by
 rcases Qog P l 0 with ⟨e1,e2⟩ | ⟨p,x,r,e1,e2,e3,e4⟩
 ·exact Or.inl ⟨by simpa using e2,e1⟩
 ·refine Or.inr ⟨x,0 + p.length,?_,by rw [e1]; simp,e3,e2,by omega,by rw [e1]; simp; omega,fun k f K=>?_⟩
  ·rw [e1,List.find?_append]
   have:p.find? P = none:=by simpa using e4
   rw [this]; simp [e3]
  ·have h9:((0:Int) + p.length).toNat = p.length:=by omega
   exact Qc2 f (by omega) (by rw [e1,h9]; simp) K
def Engine.active (e:Engine) (c:Int):Bool:=match e.tx c with | none=>false | some t=>decide (t.state = 1)
theorem Qoj (h:G_f6 E) (e:Engine) (ho:e.ok) (c:Int):E 169 [e.u,.int .i64 c] = some (.bool (e.active c)):=by
 rw [f6_E h]
 have hf:=f7_is h.c_f7 e ho c
 rcases Qnv (hasID c) e.transactions (by have:=ho.2.1; omega) with ⟨e1,e2⟩ | ⟨x,j,e1,e2,e3,e4,e5,e6,e7⟩
 ·rw [e2] at hf
  simp [hf,Engine.active,Engine.tx,e1]
 ·rw [e4] at hf
  simp [hf,Engine.active,Engine.tx,e1,e5,e7]
theorem Qq4 (h:G_f131 E) (e:Engine) (ho:e.ok) (c:Int):E 135 [e.u,.int .i64 c] = some (.bool (e.active c)):=by
 rw [Qvy h]
 have hf:=Qu8 h.c_f121 e ho c
 rcases Qnv (hasID c) e.transactions (by have:=ho.2.1; omega) with ⟨e1,e2⟩ | ⟨x,j,e1,e2,e3,e4,e5,e6,e7⟩
 ·rw [e2] at hf
  simp [hf,Engine.active,Engine.tx,e1]
 ·rw [e4] at hf
  simp [hf,Engine.active,Engine.tx,e1,e5,e7]
def txs1 (e:Engine) (p:Option Transaction) (t:Transaction):Bool :=
 t.valid && ((match p with | none=>true | some q=>decide (q.id < t.id)) && (decide (t.begin_ ≤ e.stamp) && (decide (t.commit ≤ e.stamp) && (if t.state = 1 then marksExist e.store t.reads else true))))
def txsFrom (e:Engine):Option Transaction→List Transaction→Bool
 | _,[]=>true
 | p,t :: r=>txs1 e p t && txsFrom e (some t) r
def Engine.holds (e:Engine):Bool:=e.locks.all (fun w=>e.active w.owner) && e.waits.all (fun w=>e.active w.id && e.active w.for_)
def Engine.valid (e:Engine):Bool :=
 e.store.valid && (locksFrom none e.locks && (waitsFrom none e.waits && (inR e.stamp e.store.last 999 && (txsFrom e none e.transactions && decide (e.transactions.length ≤ 6) && e.holds))))
theorem Qe5 (a b:Int):(!decide (b < a)) = decide (a ≤ b):=by rw [← decide_not]; congr 1; simp only [eq_iff_iff]; omega
theorem Qoh (h:G_f5 E) (e:Engine) (ho:e.ok) (hv:e.store.valid = true):∀ (r p:List Transaction) (i:Int),e.transactions = p ++ r→i = p.length →
  f5_l0 E (.sl 9 (e.transactions.map Transaction.u)) (.int .i64 e.transactions.length) (.int .i64 i) e.u = some (.bool (txsFrom e p.getLast? r && decide (e.transactions.length ≤ 6)))
 | [],p,i,el,hi=>by
  have h1:decide ((e.transactions.length:Int) ≤ 6) = decide (e.transactions.length ≤ 6):=by congr 1; simp only [eq_iff_iff]; omega
  rw [Qmo]
  simp [Qg el hi,txsFrom,h1]
 | t :: r,p,i,el,hi=>by
  obtain ⟨h0,hlt,hx,hw,hn,_⟩:=Qd el hi (by have:=ho.2.1; omega)
  have ih:=Qoh h e ho hv r (p ++ [t]) (i + 1) (Qc el) hn
  rw [List.getLast?_concat] at ih
  have hto:t.ok:=ho.2.2.1 t (by rw [el]; simp)
  have v:=Qwo h.c_f21 t hto
  rw [Qmo]
  cases tv:t.valid
  ·simp [hlt,hx,hw,v,tv,txsFrom,txs1]
  have m:=Qabx h.c_f25 e.store ho.1 hv t.reads hto.1 (Qrw tv)
  by_cases hp:p = []
  ·have hi0:¬ 0 < i:=by subst hp; simp at hi; omega
   by_cases hs:t.state = 1 <;>
   simp [h0,hlt,hx,hw,ih,v,tv,m,hi0,hp,hs,ite_f,ite_n,txsFrom,txs1,Bool.and_assoc,Qe5]
  ·obtain ⟨q,j,hq,hpos,hw1,h1,hq1,_⟩:=Qao el hi (by have:=ho.2.1; omega) hp
   by_cases hs:t.state = 1 <;>
   simp [h0,hlt,hx,hw,ih,v,tv,m,hpos,hq,hw1,hq1,hs,ite_f,ite_n,txsFrom,txs1,Bool.and_assoc,Qe5,Qc8]
theorem Qabt (h:G_f5 E) (e:Engine) (ho:e.ok) (hv:e.store.valid = true) :
  E 153 [e.u] = some (.bool (txsFrom e none e.transactions && decide (e.transactions.length ≤ 6))):=by
 rw [f5_E h]
 simp [Qoh h e ho hv e.transactions [] 0 rfl rfl]
theorem Qwf (h:G_f17 E) (e:Engine) (ho:e.ok) (w:Lock):E 154 [w.u,.vp e.u] = some (.bool (!e.active w.owner)):=by
 rw [f17_E h]
 simp [Qoj h.c_f6 e ho]
theorem Qwh (h:G_f18 E) (e:Engine) (ho:e.ok) (w:Wait):E 156 [w.u,.vp e.u] = some (.bool (!(e.active w.id && e.active w.for_))):=by
 rw [f18_E h]
 simp [Qoj h.c_f6 e ho]
 cases e.active w.id <;> simp
theorem Qpd {α:Type} (l:List α) (P:α→Bool):(!l.any fun m=>!P m) = l.all P:=by
 rw [List.not_any_eq_all_not]; simp
theorem Qle (h:G_f16 E) (e:Engine) (ho:e.ok):E 148 [e.u] = some (.bool e.valid):=by
 rw [f16_E h]
 have s1:=Qwj h.c_f19 e.store ho.1
 have s2:=f3_is h.c_f3 e.locks ho.2.2.2.1
 have s3:=f4_is h.c_f4 e.waits ho.2.2.2.2
 have s4:=Qabv h.c_f24 e.store ho.1
 have s5:=Qt9 h.c_f110 e.locks (by have:=ho.2.2.2.1; omega) 154 [.vp e.u] (fun w=>!e.active w.owner) (fun w _=>Qwf h.c_f17 e ho w)
 have s6:=Quc h.c_f111 e.waits (by have:=ho.2.2.2.2; omega) 156 [.vp e.u] (fun w=>!(e.active w.id && e.active w.for_)) (fun w _=>Qwh h.c_f18 e ho w)
 have n5:=Qpd e.locks (fun w=>e.active w.owner)
 have n6:=Qpd e.waits (fun w=>e.active w.id && e.active w.for_)
 cases hv:e.store.valid
 ·simp [s1,hv,Engine.valid]
 have s7:=Qabt h.c_f5 e ho hv
 simp [s1,s2,s3,s4,s5,s6,s7,hv,Qz h.c_f32,Engine.valid,Engine.holds,ite_t,-List.any_eq_true,-List.all_eq_true,n5,n6,-Bool.not_and,Bool.and_assoc]
 cases locksFrom none e.locks <;> cases waitsFrom none e.waits <;> cases inR e.stamp e.store.last 999 <;> cases txsFrom e none e.transactions <;> by_cases hz:e.transactions.length ≤ 6 <;> simp [hz,-List.any_eq_true,-List.all_eq_true]
theorem Qqz (h:G_f125 E) (e:Engine) (ho:e.ok):∀ (r p:List Wait) (i:Int),e.waits = p ++ r→i = p.length →
  f125_l0 E (.int .i64 i) e.u = some (.bool (r.all fun w=>e.active w.id && e.active w.for_))
 | [],p,i,el,hi=>by
  rw [Qkw]
  simp [Qg el hi]
 | x :: r,p,i,el,hi=>by
  obtain ⟨h0,hlt,hx,hw,hn,_⟩:=Qd el hi (by have:=ho.2.2.2.2; omega)
  have ih:=Qqz h e ho r (p ++ [x]) (i + 1) (Qc el) hn
  rw [Qkw]
  simp [hlt,hx,hw,ih,Qq4 h.c_f131 e ho,ite_f,Bool.and_assoc,-List.all_eq_true]
theorem Qq0 (h:G_f125 E) (e:Engine) (ho:e.ok):∀ (r p:List Lock) (i:Int),e.locks = p ++ r→i = p.length →
  f125_l1 E (.int .i64 i) e.u = some (.bool (r.all (fun w=>e.active w.owner) && e.waits.all fun w=>e.active w.id && e.active w.for_))
 | [],p,i,el,hi=>by
  rw [Qkx]
  simp [Qg el hi,Qqz h e ho e.waits [] 0 rfl rfl,-List.all_eq_true]
 | x :: r,p,i,el,hi=>by
  obtain ⟨h0,hlt,hx,hw,hn,_⟩:=Qd el hi (by have:=ho.2.2.2.1; omega)
  have ih:=Qq0 h e ho r (p ++ [x]) (i + 1) (Qc el) hn
  rw [Qkx]
  simp [hlt,hx,hw,ih,Qq4 h.c_f131 e ho,ite_f,Bool.and_assoc,-List.all_eq_true]
theorem Qq1 (h:G_f125 E) (e:Engine) (ho:e.ok) (hv:e.store.valid = true):∀ (r p:List Transaction) (i:Int),e.transactions = p ++ r→i = p.length →
  f125_l2 E (.int .i64 i) e.u = some (.bool (txsFrom e p.getLast? r && e.holds))
 | [],p,i,el,hi=>by
  rw [Qky]
  simp [Qg el hi,txsFrom,Qq0 h e ho e.locks [] 0 rfl rfl,Engine.holds,-List.all_eq_true]
 | t :: r,p,i,el,hi=>by
  obtain ⟨h0,hlt,hx,hw,hn,_⟩:=Qd el hi (by have:=ho.2.1; omega)
  have ih:=Qq1 h e ho hv r (p ++ [t]) (i + 1) (Qc el) hn
  rw [List.getLast?_concat] at ih
  have hto:t.ok:=ho.2.2.1 t (by rw [el]; simp)
  have v:=Qgd h.c_f127 t hto
  rw [Qky]
  cases tv:t.valid
  ·simp [hlt,hx,hw,v,tv,txsFrom,txs1]
  have m:=Qvw h.c_f130 e.store ho.1 t hto
  simp only [hv,tv,Bool.true_and] at m
  by_cases hp:p = []
  ·have hi0:¬ 0 < i:=by subst hp; simp at hi; omega
   by_cases hs:t.state = 1 <;>
   simp [h0,hlt,hx,hw,ih,v,tv,m,hi0,hp,hs,ite_f,ite_n,txsFrom,txs1,Bool.and_assoc,Qe5]
  ·obtain ⟨q,j,hq,hpos,hw1,h1,hq1,_⟩:=Qao el hi (by have:=ho.2.1; omega) hp
   by_cases hs:t.state = 1 <;>
   simp [h0,hlt,hx,hw,ih,v,tv,m,hpos,hq,hw1,hq1,hs,ite_f,ite_n,txsFrom,txs1,Bool.and_assoc,Qe5,Qc8]
theorem Qvj (h:G_f125 E) (e:Engine) (ho:e.ok):E 133 [e.u] = some (.bool e.valid):=by
 rw [Qvi h]
 have s1:=Qdw h.c_f126 e.store ho.1
 have s2:=Qu0 h.c_f119 e.locks ho.2.2.2.1
 have s3:=Qu5 h.c_f120 e.waits ho.2.2.2.2
 cases hv:e.store.valid
 ·simp [s1,hv,Engine.valid]
 have s4:=Qvs h.c_f129 e.store ho.1 hv
 have s5:=Qq1 h e ho hv e.transactions [] 0 rfl rfl
 have h1:(!decide (6 < (e.transactions.length:Int))) = decide (e.transactions.length ≤ 6):=by rw [← decide_not]; congr 1; simp only [eq_iff_iff]; omega
 simp [s1,s2,s3,s4,s5,hv,Qa1 h.c_f133,Engine.valid,ite_f,ite_n,h1]
 intros
 simp [Bool.and_assoc,Bool.and_comm,Bool.and_left_comm]
theorem Qa7 {α:Type} (f:α→U) (h:∀ x,(f x).flat = true):∀ l:List α,U.flat.flats (l.map f) = true
 | []=>rfl
 | x :: l=>by
  simp only [List.map_cons,U.flat.flats,h x,Qa7 f h l,Bool.and_self]
@[simp] theorem Qahx (l:List Edge):U.flat.flats (l.map Edge.u) = true:=Qa7 _ (fun _=>rfl) l
@[simp] theorem Qahy (l:List Int):U.flat.flats (l.map intU) = true:=Qa7 _ (fun _=>rfl) l
theorem Qi6 {q k b:Nat} (h:IsClone E q k b) (us:List U) (hl:us.length * b ≤ 140737488355328) (hf:U.flat.flats us = true):E (100000 + q) [.sl k us] = some (.sl k us):=by
 rw [h.f]; simp [cloneF,hl,hf]
theorem flatsR (l:List ReadMark):U.flat.flats (l.map ReadMark.u) = true:=Qa7 _ (fun _=>rfl) l
theorem flatsW (l:List Write):U.flat.flats (l.map Write.u) = true:=Qa7 _ (fun _=>rfl) l
theorem Qoi (h:G_f28 E) (x:Transaction) (ho:x.ok):E 100222 [x.u] = some x.u:=by
 rw [f28_E h]
 have h1:E 100224 [.sl 2 (x.reads.map ReadMark.u)] = _:=Qi6 h.c_f107 (x.reads.map ReadMark.u) (by have:=ho.1; simp; omega) (flatsR _)
 have h2:E 100225 [.sl 2 (x.writes.map Write.u)] = _:=Qi6 h.c_f108 (x.writes.map Write.u) (by have:=ho.2; simp; omega) (flatsW _)
 simp [h1,h2,Qacx,U.asSlK,D.size,dsizes,D.size.dsizes,U.size]
 rfl
def entOf (t:Transaction):Entry:=⟨t.id,t.commit,t.reads,t.writes⟩
def commitsOf (l:List Transaction):List Entry:=(l.filter fun t=>decide (t.state = 2)).map entOf
def historyOf (e:Engine):List Entry:=if e.valid then histSt (commitsOf e.transactions) else []
theorem Qso (t:Transaction) (l:List Transaction):commitsOf (t :: l) = if t.state = 2 then entOf t :: commitsOf l else commitsOf l:=by
 unfold commitsOf
 by_cases g:t.state = 2 <;> simp [List.filter_cons,g]
theorem Qcz (l:List Transaction):(commitsOf l).length ≤ l.length:=by
 unfold commitsOf
 rw [List.length_map]
 exact List.length_filter_le _ _
theorem big64 (n:Nat) (h:n ≤ 1048577):n * 64 ≤ 140737488355328:=by omega
theorem Qv2 (h:G_f132 E) (x:Entry) (ho:x.ok):E 290 [x.u] = some x.u:=by
 rw [Qv0 h]
 have h1:x.reads.length * 16 ≤ 140737488355328:=by have:=ho.1; omega
 have h2:x.writes.length * 16 ≤ 140737488355328:=by have:=ho.2; omega
 simp [U.elems,h1,h2,D.size,dsizes,D.size.dsizes,U.size,storable]
 rfl
theorem Qof (h:IsStab E 472 471 4 key1 isEnt) (l:List Entry) (hl:l.length < 20):E 200472 (.agg [.tup [.sl 4 (l.map Entry.u)]] :: [.fn 471 []]) = some (.tup [.tup [],.sl 4 ((histSt l).map Entry.u)]):=by
 have:=h.ex (l.map Entry.u) (by simpa using hl) (Qab1 l)
 rw [Qafs] at this
 exact this
theorem Qkl (h:G_f11 E) (l:List Transaction) (hl:l.length < 20) (ho:∀ t ∈ l,t.ok):∀ (r p:List Transaction) (i:Int),l = p ++ r→i = p.length →
  f11_l0 E (.sl 9 (l.map Transaction.u)) (.int .i64 (l.length:Int)) (.int .i64 i) ((commitsOf p).map Entry.u) = some (.sl 4 ((histSt (commitsOf l)).map Entry.u))
 | [],p,i,e,hi=>by
  have hp:p = l:=by rw [e]; simp
  have hs:=Qof h.c_slices_SortStableFunc_g472 (commitsOf l) (by have:=Qcz l; omega)
  rw [Qkk,hp]
  simp only [Ql,Qg e hi,decide_false,Option.bind_some,Qi,Bool.false_eq_true,if_false,hs]
  rfl
 | t :: r,p,i,e,hi=>by
  obtain ⟨h0,hlt,hx,hw,hn,_⟩:=Qd e hi (by omega)
  have ih:=Qkl h l hl ho r (p ++ [t]) (i + 1) (Qc e) hn
  have hot:=ho t (by rw [e]; simp)
  have hc:=Qoi h.c_f28 t hot
  have ec:commitsOf (p ++ [t]) = commitsOf p ++ (if t.state = 2 then [entOf t] else []):=by
   unfold commitsOf
   by_cases g:t.state = 2 <;> simp [g]
  have hcl:(commitsOf p).length ≤ p.length:=Qcz p
  have hpl:p.length < l.length:=by rw [e]; simp
  rw [Qkk]
  have z2:(2 = sizes (List.take 2 [U.int .i64 t.id,U.int .i64 t.scheme,U.int .i64 t.state,U.int .i64 t.begin_,U.int .i64 t.low,U.int .i64 t.high,U.int .i64 t.commit,U.sl 2 (t.reads.map ReadMark.u),U.sl 2 (t.writes.map Write.u)])) = True:=eq_true rfl
  by_cases g:t.state = 2
  ·have g2:decide (t.state = 2) = true:=decide_eq_true g
   rw [if_pos g] at ec
   simp only [Ql,hlt,decide_true,Option.bind_some,Qi,if_true,Qp,hx,Transaction.u_var,Transaction.u_storable,Transaction.u_size,and_self,Transaction.u_agg,z2,List.getElem?_cons_succ,List.getElem?_cons_zero,Qan,Qcd,g2,hc,Transaction.u_noTup]
   show (if _ then (U.bin .add (.int .i64 i) (.int .i64 1)).bind (fun t48=>f11_l0 E (.sl 9 (l.map Transaction.u)) (.int .i64 (l.length:Int)) t48 ((commitsOf p).map Entry.u ++ [(entOf t).u])) else none) = _
   rw [if_pos (big64 _ (by simp only [List.length_map,List.length_cons,List.length_nil]; omega)),Qo,Option.bind_some,hw]
   rw [ec,List.map_append] at ih
   exact ih
  ·have g2:decide (t.state = 2) = false:=decide_eq_false g
   rw [if_neg g,List.append_nil] at ec
   rw [ec] at ih
   simp only [Ql,hlt,decide_true,Option.bind_some,Qi,if_true,Qp,hx,Transaction.u_var,Transaction.u_storable,Transaction.u_size,and_self,Transaction.u_agg,z2,List.getElem?_cons_succ,List.getElem?_cons_zero,Qan,Qcd,g2,Bool.false_eq_true,if_false,Qo,hw,ih]
theorem Qu2 (h:G_f11 E) (e:Engine) (ho:e.ok):E 469 [e.u] = some (if e.valid then .sl 4 ((historyOf e).map Entry.u) else .nsl 4):=by
 rw [f11_E h]
 have hv:=Qle h.c_f16 e ho
 have nt:∀ K:U→Option U,U.noTup e.u K = K e.u:=fun _=>rfl
 have av:∀ K:U→Option U,U.asVar true 6 e.u K = K e.u:=fun _=>rfl
 rw [nt,av,hv,Option.bind_some,Qcs,Option.bind_some,Qi]
 cases g:e.valid
 ·rw [if_pos (by simp)]; rfl
 rw [if_neg (by simp)]
 have hlen:e.transactions.length < 20:=by
  simp only [Engine.valid,Bool.and_eq_true,decide_eq_true_eq] at g
  omega
 have h1:=Qkl h e.transactions hlen ho.2.2.1 e.transactions [] 0 rfl rfl
 show f11_l0 E (.sl 9 (e.transactions.map Transaction.u)) (.int .i64 ((e.transactions.map Transaction.u).length:Int)) (.int .i64 0) [] = _
 rw [List.length_map,if_pos rfl]
 unfold historyOf
 rw [if_pos g]
 exact h1
theorem Qlb (h:G_f13 E) (l:List Transaction) (hl:l.length < 20) (ho:∀ t ∈ l,t.ok):∀ (r p:List Transaction) (i:Int),l = p ++ r→i = p.length →
  f13_l0 E (.sl 9 (l.map Transaction.u)) (.int .i64 (l.length:Int)) (.int .i64 i) ((commitsOf p).map Entry.u) = some (.sl 4 ((histSt (commitsOf l)).map Entry.u))
 | [],p,i,e,hi=>by
  have hp:p = l:=by rw [e]; simp
  have hs:=Qof h.c_slices_SortStableFunc_g472 (commitsOf l) (by have:=Qcz l; omega)
  rw [Qla,hp]
  simp only [Ql,Qg e hi,decide_false,Option.bind_some,Qi,Bool.false_eq_true,if_false,hs]
  rfl
 | t :: r,p,i,e,hi=>by
  obtain ⟨h0,hlt,hx,hw,hn,_⟩:=Qd e hi (by omega)
  have ih:=Qlb h l hl ho r (p ++ [t]) (i + 1) (Qc e) hn
  have hot:=ho t (by rw [e]; simp)
  have hc:=Qoi h.c_f28 t hot
  have ec:commitsOf (p ++ [t]) = commitsOf p ++ (if t.state = 2 then [entOf t] else []):=by
   unfold commitsOf
   by_cases g:t.state = 2 <;> simp [g]
  have hcl:(commitsOf p).length ≤ p.length:=Qcz p
  have hpl:p.length < l.length:=by rw [e]; simp
  rw [Qla]
  have z2:(2 = sizes (List.take 2 [U.int .i64 t.id,U.int .i64 t.scheme,U.int .i64 t.state,U.int .i64 t.begin_,U.int .i64 t.low,U.int .i64 t.high,U.int .i64 t.commit,U.sl 2 (t.reads.map ReadMark.u),U.sl 2 (t.writes.map Write.u)])) = True:=eq_true rfl
  by_cases g:t.state = 2
  ·have g2:decide (t.state = 2) = true:=decide_eq_true g
   rw [if_pos g] at ec
   simp only [Ql,hlt,decide_true,Option.bind_some,Qi,if_true,Qp,hx,Transaction.u_var,Transaction.u_storable,Transaction.u_size,and_self,Transaction.u_agg,z2,List.getElem?_cons_succ,List.getElem?_cons_zero,Qan,Qcd,g2,hc,Transaction.u_noTup]
   show (if _ then (U.bin .add (.int .i64 i) (.int .i64 1)).bind (fun t48=>f13_l0 E (.sl 9 (l.map Transaction.u)) (.int .i64 (l.length:Int)) t48 ((commitsOf p).map Entry.u ++ [(entOf t).u])) else none) = _
   rw [if_pos (big64 _ (by simp only [List.length_map,List.length_cons,List.length_nil]; omega)),Qo,Option.bind_some,hw]
   rw [ec,List.map_append] at ih
   exact ih
  ·have g2:decide (t.state = 2) = false:=decide_eq_false g
   rw [if_neg g,List.append_nil] at ec
   rw [ec] at ih
   simp only [Ql,hlt,decide_true,Option.bind_some,Qi,if_true,Qp,hx,Transaction.u_var,Transaction.u_storable,Transaction.u_size,and_self,Transaction.u_agg,z2,List.getElem?_cons_succ,List.getElem?_cons_zero,Qan,Qcd,g2,Bool.false_eq_true,if_false,Qo,hw,ih]
theorem Qv9 (h:G_f13 E) (e:Engine) (ho:e.ok):E 100469 [e.u] = some (if e.valid then .sl 4 ((historyOf e).map Entry.u) else .sl 4 []):=by
 rw [f13_E h]
 have hv:=Qle h.c_f16 e ho
 have nt:∀ K:U→Option U,U.noTup e.u K = K e.u:=fun _=>rfl
 have av:∀ K:U→Option U,U.asVar true 6 e.u K = K e.u:=fun _=>rfl
 rw [nt,av,hv,Option.bind_some,Qcs,Option.bind_some,Qi]
 cases g:e.valid
 ·rw [if_pos (by simp)]; rfl
 rw [if_neg (by simp)]
 have hlen:e.transactions.length < 20:=by
  simp only [Engine.valid,Bool.and_eq_true,decide_eq_true_eq] at g
  omega
 have h1:=Qlb h e.transactions hlen ho.2.2.1 e.transactions [] 0 rfl rfl
 show f13_l0 E (.sl 9 (e.transactions.map Transaction.u)) (.int .i64 ((e.transactions.map Transaction.u).length:Int)) (.int .i64 0) [] = _
 rw [List.length_map,if_pos rfl]
 unfold historyOf
 rw [if_pos g]
 exact h1
theorem Qht (h:G_f123 E) (e:Engine) (ho:e.ok) (s:Int) (hs0:0 ≤ s) (hs:s ≤ 1000000):∀ (r p:List Transaction) (i:Int) (c:List Entry),e.transactions = p ++ r→i = p.length→c.length + r.length ≤ 1048576 →
  f123_l1 E (.int .i64 s) (.int .i64 i) (c.map Entry.u) e.u = f123_l0 E (.int .i64 (s + 1)) ((c ++ (commitsOf r).filter fun x=>decide (x.stamp = s)).map Entry.u) e.u
 | [],p,i,c,e1,hi,hl=>by
  have ag:∀ K:List U→Option U,U.asAgg e.u K = K [.bool e.certify,e.store.u,.sl 9 (e.transactions.map Transaction.u),.sl 2 (e.locks.map Lock.u),.sl 2 (e.waits.map Wait.u),.int .i64 e.stamp]:=fun _=>rfl
  have zE:(2 = sizes (List.take 2 [.bool e.certify,e.store.u,.sl 9 (e.transactions.map Transaction.u),.sl 2 (e.locks.map Lock.u),.sl 2 (e.waits.map Wait.u),.int .i64 e.stamp])) = True:=eq_true rfl
  have hw:IntKind.i64.wrap (s + 1) = s + 1:=Qj (by omega)
  rw [Qkt,ag]
  simp only [zE,if_true,List.getElem?_cons_succ,List.getElem?_cons_zero,Qcx,Qn,List.length_map,Option.bind_some,Ql,Qg e1 hi,decide_false,Qi,Bool.false_eq_true,if_false,Qo,hw]
  simp [commitsOf]
 | t :: r,p,i,c,e1,hi,hl=>by
  have hel:e.transactions.length ≤ 1048576:=ho.2.1
  obtain ⟨h0,hlt,hx,hw,hn,_⟩:=Qd e1 hi (by omega)
  have ag:∀ K:List U→Option U,U.asAgg e.u K = K [.bool e.certify,e.store.u,.sl 9 (e.transactions.map Transaction.u),.sl 2 (e.locks.map Lock.u),.sl 2 (e.waits.map Wait.u),.int .i64 e.stamp]:=fun _=>rfl
  have zE:(2 = sizes (List.take 2 [.bool e.certify,e.store.u,.sl 9 (e.transactions.map Transaction.u),.sl 2 (e.locks.map Lock.u),.sl 2 (e.waits.map Wait.u),.int .i64 e.stamp])) = True:=eq_true rfl
  have zT:∀ x:Transaction,(2 = sizes (List.take 2 [.int .i64 x.id,.int .i64 x.scheme,.int .i64 x.state,.int .i64 x.begin_,.int .i64 x.low,.int .i64 x.high,.int .i64 x.commit,.sl 2 (x.reads.map ReadMark.u),.sl 2 (x.writes.map Write.u)])) = True:=fun _=>eq_true rfl
  have zT6:∀ x:Transaction,(6 = sizes (List.take 6 [.int .i64 x.id,.int .i64 x.scheme,.int .i64 x.state,.int .i64 x.begin_,.int .i64 x.low,.int .i64 x.high,.int .i64 x.commit,.sl 2 (x.reads.map ReadMark.u),.sl 2 (x.writes.map Write.u)])) = True:=fun _=>eq_true rfl
  have hot:=ho.2.2.1 t (by rw [e1]; simp)
  have hl':c.length + r.length + 1 ≤ 1048576:=by simp only [List.length_cons] at hl; omega
  have ihn:=Qht h e ho s hs0 hs r (p ++ [t]) (i + 1) c (Qc e1) hn (by omega)
  have ihy:=Qht h e ho s hs0 hs r (p ++ [t]) (i + 1) (c ++ [entOf t]) (Qc e1) hn (by simp; omega)
  have hcp:=Qv2 h.c_f132 (entOf t) hot
  rw [Qso]
  rw [Qkt,ag]
  simp only [zE,if_true,List.getElem?_cons_succ,List.getElem?_cons_zero,Qcx,Qn,List.length_map,Option.bind_some,Ql,hlt,decide_true,Qi,if_true]
  rw [ag]
  simp only [zE,if_true,List.getElem?_cons_succ,List.getElem?_cons_zero,Option.bind_some,Qcx,Qp,hx,Transaction.u_var,Transaction.u_storable,Transaction.u_size,and_self,if_true]
  rw [Transaction.u_agg]
  simp only [zT,if_true,List.getElem?_cons_succ,List.getElem?_cons_zero,Option.bind_some,Qan,Qcd,Qi]
  by_cases g:t.state = 2
  ·rw [if_pos (by simp [g]),if_pos g]
   rw [Transaction.u_agg]
   simp only [zT6,if_true,List.getElem?_cons_succ,List.getElem?_cons_zero,Option.bind_some,Qan,Qcd,Qi]
   by_cases g2:t.commit = s
   ·rw [if_pos (by simp [g2])]
    have ef:(entOf t :: commitsOf r).filter (fun x=>decide (x.stamp = s)) = entOf t :: (commitsOf r).filter fun x=>decide (x.stamp = s):=by
     rw [List.filter_cons,if_pos (by simp [entOf,g2])]
    rw [ef,List.append_cons]
    have hcp':E 290 [.agg [.int .i64 t.id,.int .i64 s,.sl 2 (t.reads.map ReadMark.u),.sl 2 (t.writes.map Write.u)]] = some (entOf t).u:=by
     rw [← g2]; exact hcp
    show (E 290 [.agg [.int .i64 t.id,.int .i64 s,.sl 2 (t.reads.map ReadMark.u),.sl 2 (t.writes.map Write.u)]]).bind _ = _
    rw [hcp',Option.bind_some,if_pos ⟨rfl,rfl⟩,if_pos ⟨by trivial,by trivial,big64 _ (by simp only [List.length_map,List.length_cons,List.length_nil]; omega)⟩,Qo,hw,Option.bind_some]
    rw [List.map_append] at ihy
    exact ihy
   ·rw [if_neg (by simp [g2])]
    have ef:(entOf t :: commitsOf r).filter (fun x=>decide (x.stamp = s)) = (commitsOf r).filter fun x=>decide (x.stamp = s):=by
     rw [List.filter_cons,if_neg (by simp [entOf,g2])]
    rw [ef,Qo,hw,Option.bind_some]
    exact ihn
  ·rw [if_neg (by simp [g]),if_neg g,Qo,hw,Option.bind_some]
   exact ihn
theorem Qix (l:List Entry):∀ n,(buckets l n).length ≤ n * l.length
 | 0=>by simp [buckets]
 | n + 1=>by
  have:=Qix l n
  have h2:=List.length_filter_le (fun x=>decide (x.stamp = ((n + 1:Nat):Int))) l
  rw [buckets,List.length_append,Nat.succ_mul]
  omega
theorem Qq5 (h:G_f123 E) (e:Engine) (ho:e.ok) (hl:e.transactions.length ≤ 6) (h9:e.stamp ≤ 999):∀ (d n:Nat),(n:Int) + d = e.stamp →
  f123_l0 E (.int .i64 ((n:Int) + 1)) ((buckets (commitsOf e.transactions) n).map Entry.u) e.u = some (.sl 4 ((buckets (commitsOf e.transactions) (n + d)).map Entry.u))
 | 0,n,hn=>by
  have ag:∀ K:List U→Option U,U.asAgg e.u K = K [.bool e.certify,e.store.u,.sl 9 (e.transactions.map Transaction.u),.sl 2 (e.locks.map Lock.u),.sl 2 (e.waits.map Wait.u),.int .i64 e.stamp]:=fun _=>rfl
  have z5:(5 = sizes (List.take 5 [.bool e.certify,e.store.u,.sl 9 (e.transactions.map Transaction.u),.sl 2 (e.locks.map Lock.u),.sl 2 (e.waits.map Wait.u),.int .i64 e.stamp])) = True:=eq_true rfl
  rw [Qks,ag]
  simp only [z5,if_true,List.getElem?_cons_succ,List.getElem?_cons_zero,Option.bind_some,Qan,Qiu,Qi]
  rw [if_neg (by simp only [decide_eq_true_eq]; omega)]
  rfl
 | d + 1,n,hn=>by
  have ag:∀ K:List U→Option U,U.asAgg e.u K = K [.bool e.certify,e.store.u,.sl 9 (e.transactions.map Transaction.u),.sl 2 (e.locks.map Lock.u),.sl 2 (e.waits.map Wait.u),.int .i64 e.stamp]:=fun _=>rfl
  have hb:=Qix (commitsOf e.transactions) n
  have hc:=Qcz e.transactions
  have hm:n * (commitsOf e.transactions).length ≤ 999 * 6:=Nat.mul_le_mul (by omega) (by omega)
  have ih:=Qq5 h e ho hl h9 d (n + 1) (by omega)
  have h1:=Qht h e ho ((n:Int) + 1) (by omega) (by omega) e.transactions [] 0 (buckets (commitsOf e.transactions) n) rfl rfl (by omega)
  have z5:(5 = sizes (List.take 5 [.bool e.certify,e.store.u,.sl 9 (e.transactions.map Transaction.u),.sl 2 (e.locks.map Lock.u),.sl 2 (e.waits.map Wait.u),.int .i64 e.stamp])) = True:=eq_true rfl
  rw [Qks,ag]
  simp only [z5,if_true,List.getElem?_cons_succ,List.getElem?_cons_zero,Option.bind_some,Qan,Qiu,Qi]
  rw [if_pos (by simp only [decide_eq_true_eq]; omega),h1]
  rw [Nat.add_right_comm] at ih
  exact ih
theorem Qab4 (c:List Version):∀ n,n ≤ lastC n c:=by
 unfold lastC
 induction c with
 | nil=>exact fun n=>Int.le_refl n
 | cons v c ih=>exact fun n=>Int.le_trans (mx_ge (a:=n) (b:=v.reader)).1 (ih _)
theorem Qab5 (s:Store):0 ≤ s.last:=by
 unfold Store.last
 have:∀ (l:List (List Version)) (n:Int),n ≤ l.foldl lastC n:=by
  intro l
  induction l with
  | nil=>exact fun n=>Int.le_refl n
  | cons c l ih=>exact fun n=>Int.le_trans (Qab4 c n) (ih _)
 exact this s.chains 0
theorem Qja {e:Engine} (hv:e.valid = true):e.transactions.length ≤ 6 ∧ e.stamp ≤ 999 ∧ 0 ≤ e.stamp ∧ ∀ x ∈ commitsOf e.transactions,1 ≤ x.stamp ∧ x.stamp ≤ e.stamp:=by
 simp only [Engine.valid,Bool.and_eq_true,decide_eq_true_eq] at hv
 obtain ⟨_,_,_,hst,⟨htx,hlen⟩,_⟩:=hv
 have go:∀ (r:List Transaction) (o:Option Transaction),txsFrom e o r = true→∀ t ∈ r,t.valid = true ∧ t.commit ≤ e.stamp:=by
  intro r
  induction r with
  | nil=>intro o _ t ht; cases ht
  | cons y r ih =>
   intro o h t ht
   simp only [txsFrom,txs1,Bool.and_eq_true,decide_eq_true_eq] at h
   rcases List.mem_cons.1 ht with rfl | ht
   ·exact ⟨h.1.1,h.1.2.2.2.1⟩
   ·exact ih (some y) h.2 t ht
 have hcm:∀ x ∈ commitsOf e.transactions,1 ≤ x.stamp ∧ x.stamp ≤ e.stamp:=fun x hx=>by
  unfold commitsOf at hx
  obtain ⟨t,ht,rfl⟩:=List.mem_map.1 hx
  obtain ⟨ht,hs⟩:=List.mem_filter.1 ht
  obtain ⟨h1,h2⟩:=go _ _ htx t ht
  simp only [decide_eq_true_eq] at hs
  simp only [Transaction.valid,Bool.and_eq_true,beq_iff_eq] at h1
  have h3:=h1.2.2.2.2.2.2.1
  rw [decide_eq_true hs] at h3
  have h4:0 < t.commit:=by simpa using h3.symm
  exact ⟨by simp only [entOf]; omega,h2⟩
 have h9:e.store.last ≤ e.stamp ∧ e.stamp ≤ 999:=by simpa [inR] using hst
 refine ⟨hlen,h9.2,?_,hcm⟩
 have:=Qab5 e.store
 omega
theorem Qve (h:G_f123 E) (e:Engine) (ho:e.ok):E 470 [e.u] = some (.sl 4 ((historyOf e).map Entry.u)):=by
 rw [Qvd h]
 have hv:=Qvj h.c_f125 e ho
 have nt:∀ K:U→Option U,U.noTup e.u K = K e.u:=fun _=>rfl
 have av:∀ K:U→Option U,U.asVar true 6 e.u K = K e.u:=fun _=>rfl
 rw [nt,av,hv,Option.bind_some,Qcs,Option.bind_some,Qi]
 unfold historyOf
 cases g:e.valid
 ·rw [if_pos (by simp)]; rfl
 rw [if_neg (by simp),if_pos rfl]
 obtain ⟨hl,h9,hs0,hc⟩:=Qja g
 have h1:=Qq5 h e ho hl h9 e.stamp.toNat 0 (by omega)
 rw [Qabo (commitsOf e.transactions) e.stamp.toNat (fun x hx=>by have:=hc x hx; omega)]
 rw [Nat.zero_add] at h1
 exact h1
theorem Qne (h:G_f87 E) (x:ReadMark):E 29 [x.u] = some x.u:=by
 rw [f87_E h]
 simp [ReadMark.u]
theorem Qng (h:G_f88 E) (l:List ReadMark) (hl:l.length ≤ 1048576):∀ (r p:List ReadMark) (i:Int) (c:List U),l = p ++ r→i = p.length→c.length = r.length→(∀ z ∈ c,z.size = 2) →
  f88_l0 E (.sl 2 (l.map ReadMark.u)) (.int .i64 i) (p.map ReadMark.u ++ c) = some (.sl 2 (l.map ReadMark.u))
 | [],p,i,c,e,hi,hc,_=>by
  obtain rfl:c = []:=List.length_eq_zero_iff.1 hc
  rw [Qnf]
  simp [Qg e hi]
  simp [e]
 | x :: r,p,i,[],e,hi,hc,_=>by cases hc
 | x :: r,p,i,z :: c,e,hi,hc,hz=>by
  obtain ⟨h0,hlt,hx,hw,hn,_⟩:=Qd e hi (by omega)
  have hzs:z.size = 2:=hz z (by simp)
  obtain ⟨hg,hs,hlen⟩:=Qv ReadMark.u p z c hi
  have ih:=Qng h l hl r (p ++ [x]) (i + 1) c (Qc e) hn (by simpa using hc) (fun y hy=>hz y (by simp [hy]))
  simp only [List.map_append,List.map_cons,List.map_nil,List.append_assoc,List.cons_append,List.nil_append] at ih
  rw [Qnf]
  simp only [hg,hs,hx,hw,Qp,Ql,Qn,List.length_map,Option.bind_some,Qi,hlt,decide_true,if_true,h0,hlen,and_self,Qo,Qne h.c_f87 x,hzs,ReadMark.u_var,ReadMark.u_size,ReadMark.u_storable,ReadMark.u_partable]
  simpa using ih
theorem Qzg (h:G_f88 E) (l:List ReadMark) (hl:l.length ≤ 1048576):E 28 [.sl 2 (l.map ReadMark.u)] = some (.sl 2 (l.map ReadMark.u)):=by
 have h1:=Qng h l hl l [] 0 (List.replicate l.length (.agg [.int .i64 0,.int .i64 0])) rfl rfl (by simp) (by simp)
 rw [f88_E h]
 simp only [Qn,Option.bind_some,List.length_map]
 rw [if_pos (by refine ⟨by omega,by omega,by omega,rfl⟩)]
 simpa using h1
theorem Qlu (h:G_f43 E) (x y:ReadMark):E 35 [x.u,y.u] = some (.bool (decide (x = y))):=by
 rw [f43_E h]
 obtain ⟨a0,a1⟩:=x
 obtain ⟨b0,b1⟩:=y
 simp only [ReadMark.mk.injEq]
 by_cases h0:a0 = b0
 case neg=>simp [h0]
 subst h0
 by_cases h1:a1 = b1
 case neg=>simp [h1]
 subst h1
 simp []
theorem Qlw (h:G_f44 E) (a b:List ReadMark) (ha:a.length ≤ 1048576) (hb:b.length ≤ 1048576):∀ (r s p p2:List ReadMark) (i:Int),a = p ++ r→b = p2 ++ s→i = p.length→i = p2.length→r.length = s.length →
  f44_l0 E (.sl 2 (a.map ReadMark.u)) (.sl 2 (b.map ReadMark.u)) (.int .i64 i) = some (.bool (decide (r = s)))
 | [],[],p,p2,i,e,e2,hi,hi2,_=>by
  rw [Qlv]
  simp [Qg e hi]
 | [],y :: s,_,_,_,_,_,_,_,hl=>by cases hl
 | x :: r,[],_,_,_,_,_,_,_,hl=>by cases hl
 | x :: r,y :: s,p,p2,i,e,e2,hi,hi2,hl=>by
  obtain ⟨h0,hlt,hx,hw,hn,_⟩:=Qd e hi (by omega)
  obtain ⟨_,_,hy,_,hn2,_⟩:=Qd e2 hi2 (by omega)
  have ih:=Qlw h a b ha hb r s (p ++ [x]) (p2 ++ [y]) (i + 1) (Qc e) (Qc e2) hn hn2 (by simpa using hl)
  rw [Qlv]
  by_cases hxy:x = y
  ·subst hxy
   simp [hlt,hx,hy,hw,ih,Qlu h.c_f43]
  ·simp [hlt,hx,hy,hw,ih,Qlu h.c_f43,hxy]
theorem Qaf (h:G_f44 E) (a b:List ReadMark) (ha:a.length ≤ 1048576) (hb:b.length ≤ 1048576):E 34 [.sl 2 (a.map ReadMark.u),.sl 2 (b.map ReadMark.u)] = some (.bool (decide (a = b))):=by
 rw [f44_E h]
 by_cases hl:a.length = b.length
 ·simp [hl,Qlw h a b ha hb a b [] [] 0 rfl rfl rfl rfl hl]
 ·have h1:a ≠ b:=fun e=>hl (by rw [e])
  have h2:(a.length:Int) ≠ b.length:=by omega
  simp [h1,h2]
theorem Qyq (h:G_f70 E) (l:List ReadMark) (hl:l.length ≤ maxLen) (left:Int) (h0:0 ≤ left) (h1:left ≤ 1048576):E 24 [.sl 2 (l.map ReadMark.u),.int .i64 left] = some (.int .i64 (szc l.length left)):=by
 rw [f70_E h]
 unfold maxLen at hl
 have hw:IntKind.i64.wrap (left - (l.length:Int)) = left - l.length:=Qj (by omega)
 by_cases h2:left - (l.length:Int) < 0 <;> simp [hw,szc,h2]
theorem Qj1 (h:G_f104 E) (x:Write):E 30 [x.u] = some x.u:=by
 rw [Qtl h]
 simp [Write.u]
theorem Qj3 (h:G_f105 E) (l:List Write) (hl:l.length ≤ 1048576):∀ (r p:List Write) (i:Int) (c:List U),l = p ++ r→i = p.length→c.length = r.length→(∀ z ∈ c,z.size = 2) →
  f105_l0 E (.sl 2 (l.map Write.u)) (.int .i64 i) (p.map Write.u ++ c) = some (.sl 2 (l.map Write.u))
 | [],p,i,c,e,hi,hc,_=>by
  obtain rfl:c = []:=List.length_eq_zero_iff.1 hc
  rw [Qj2]
  simp [Qg e hi]
  simp [e]
 | x :: r,p,i,[],e,hi,hc,_=>by cases hc
 | x :: r,p,i,z :: c,e,hi,hc,hz=>by
  obtain ⟨h0,hlt,hx,hw,hn,_⟩:=Qd e hi (by omega)
  have hzs:z.size = 2:=hz z (by simp)
  obtain ⟨hg,hs,hlen⟩:=Qv Write.u p z c hi
  have ih:=Qj3 h l hl r (p ++ [x]) (i + 1) c (Qc e) hn (by simpa using hc) (fun y hy=>hz y (by simp [hy]))
  simp only [List.map_append,List.map_cons,List.map_nil,List.append_assoc,List.cons_append,List.nil_append] at ih
  rw [Qj2]
  simp only [hg,hs,hx,hw,Qp,Ql,Qn,List.length_map,Option.bind_some,Qi,hlt,decide_true,if_true,h0,hlen,and_self,Qo,Qj1 h.c_f104 x,hzs,Write.u_var,Write.u_size,Write.u_storable,Write.u_partable]
  simpa using ih
theorem Qto (h:G_f105 E) (l:List Write) (hl:l.length ≤ 1048576):E 27 [.sl 2 (l.map Write.u)] = some (.sl 2 (l.map Write.u)):=by
 have h1:=Qj3 h l hl l [] 0 (List.replicate l.length (.agg [.int .i64 0,.int .i64 0])) rfl rfl (by simp) (by simp)
 rw [Qtn h]
 simp only [Qn,Option.bind_some,List.length_map]
 rw [if_pos (by refine ⟨by omega,by omega,by omega,rfl⟩)]
 simpa using h1
theorem Qmb (h:G_f53 E) (x y:Write):E 36 [x.u,y.u] = some (.bool (decide (x = y))):=by
 rw [f53_E h]
 obtain ⟨a0,a1⟩:=x
 obtain ⟨b0,b1⟩:=y
 simp only [Write.mk.injEq]
 by_cases h0:a0 = b0
 case neg=>simp [h0]
 subst h0
 by_cases h1:a1 = b1
 case neg=>simp [h1]
 subst h1
 simp []
theorem Qmd (h:G_f54 E) (a b:List Write) (ha:a.length ≤ 1048576) (hb:b.length ≤ 1048576):∀ (r s p p2:List Write) (i:Int),a = p ++ r→b = p2 ++ s→i = p.length→i = p2.length→r.length = s.length →
  f54_l0 E (.sl 2 (a.map Write.u)) (.sl 2 (b.map Write.u)) (.int .i64 i) = some (.bool (decide (r = s)))
 | [],[],p,p2,i,e,e2,hi,hi2,_=>by
  rw [Qmc]
  simp [Qg e hi]
 | [],y :: s,_,_,_,_,_,_,_,hl=>by cases hl
 | x :: r,[],_,_,_,_,_,_,_,hl=>by cases hl
 | x :: r,y :: s,p,p2,i,e,e2,hi,hi2,hl=>by
  obtain ⟨h0,hlt,hx,hw,hn,_⟩:=Qd e hi (by omega)
  obtain ⟨_,_,hy,_,hn2,_⟩:=Qd e2 hi2 (by omega)
  have ih:=Qmd h a b ha hb r s (p ++ [x]) (p2 ++ [y]) (i + 1) (Qc e) (Qc e2) hn hn2 (by simpa using hl)
  rw [Qmc]
  by_cases hxy:x = y
  ·subst hxy
   simp [hlt,hx,hy,hw,ih,Qmb h.c_f53]
  ·simp [hlt,hx,hy,hw,ih,Qmb h.c_f53,hxy]
theorem Qag (h:G_f54 E) (a b:List Write) (ha:a.length ≤ 1048576) (hb:b.length ≤ 1048576):E 33 [.sl 2 (a.map Write.u),.sl 2 (b.map Write.u)] = some (.bool (decide (a = b))):=by
 rw [f54_E h]
 by_cases hl:a.length = b.length
 ·simp [hl,Qmd h a b ha hb a b [] [] 0 rfl rfl rfl rfl hl]
 ·have h1:a ≠ b:=fun e=>hl (by rw [e])
  have h2:(a.length:Int) ≠ b.length:=by omega
  simp [h1,h2]
theorem Qy3 (h:G_f77 E) (l:List Write) (hl:l.length ≤ maxLen) (left:Int) (h0:0 ≤ left) (h1:left ≤ 1048576):E 23 [.sl 2 (l.map Write.u),.int .i64 left] = some (.int .i64 (szc l.length left)):=by
 rw [f77_E h]
 unfold maxLen at hl
 have hw:IntKind.i64.wrap (left - (l.length:Int)) = left - l.length:=Qj (by omega)
 by_cases h2:left - (l.length:Int) < 0 <;> simp [hw,szc,h2]
theorem Qln (h:G_f39 E) (x y:Entry) (hx:x.ok) (hy:y.ok):E 56 [x.u,y.u] = some (.bool (decide (x = y))):=by
 rw [f39_E h]
 obtain ⟨a0,a1,a2,a3⟩:=x
 obtain ⟨b0,b1,b2,b3⟩:=y
 simp only [Entry.mk.injEq]
 by_cases h0:a0 = b0
 case neg=>simp [Qaf h.c_f44 a2 b2 hx.1 hy.1,Qag h.c_f54 a3 b3 hx.2 hy.2,h0]
 subst h0
 by_cases h1:a1 = b1
 case neg=>simp [Qaf h.c_f44 a2 b2 hx.1 hy.1,Qag h.c_f54 a3 b3 hx.2 hy.2,h1]
 subst h1
 by_cases h2:a2 = b2
 case neg=>simp [Qaf h.c_f44 a2 b2 hx.1 hy.1,Qag h.c_f54 a3 b3 hx.2 hy.2,h2]
 subst h2
 by_cases h3:a3 = b3
 case neg=>simp [Qaf h.c_f44 a2 a2 hx.1 hy.1,Qag h.c_f54 a3 b3 hx.2 hy.2,h3]
 subst h3
 simp [Qaf h.c_f44 a2 a2 hx.1 hy.1,Qag h.c_f54 a3 a3 hx.2 hy.2]
def Entry.sz (e:Entry) (left:Int):Int:=let v:=szc e.reads.length left; if v < 0 then -1 else szc e.writes.length v
theorem Entry.sz_szs:Szs Entry.sz Entry.ok:=fun e left h0 h1=>by
 unfold Entry.sz Entry.ok
 rcases Qbu e.reads.length left h0 h1 with h | ⟨h2,h3,h4⟩
 ·left; simp [h]
 ·have h5:¬ szc e.reads.length left < 0:=by omega
  rcases Qbu e.writes.length _ h3 (by omega) with h | ⟨h6,h7,h8⟩
  ·left; simp [h5,h]
  ·right; simp only [h5,if_false]; exact ⟨⟨h2,h6⟩,h7,by omega⟩
theorem Qlq (h:G_f40 E) (a b:List Entry) (ha:a.length ≤ 1048576) (hb:b.length ≤ 1048576) (hao:∀ x ∈ a,Entry.ok x) (hbo:∀ x ∈ b,Entry.ok x):∀ (r s p p2:List Entry) (i:Int),a = p ++ r→b = p2 ++ s→i = p.length→i = p2.length→r.length = s.length →
  f40_l0 E (.sl 4 (a.map Entry.u)) (.sl 4 (b.map Entry.u)) (.int .i64 i) = some (.bool (decide (r = s)))
 | [],[],p,p2,i,e,e2,hi,hi2,_=>by
  rw [Qgf]
  simp [Qg e hi]
 | [],y :: s,_,_,_,_,_,_,_,hl=>by cases hl
 | x :: r,[],_,_,_,_,_,_,_,hl=>by cases hl
 | x :: r,y :: s,p,p2,i,e,e2,hi,hi2,hl=>by
  obtain ⟨h0,hlt,hx,hw,hn,_⟩:=Qd e hi (by omega)
  obtain ⟨_,_,hy,_,hn2,_⟩:=Qd e2 hi2 (by omega)
  have hox:Entry.ok x:=hao x (by rw [e]; simp)
  have hoy:Entry.ok y:=hbo y (by rw [e2]; simp)
  have ih:=Qlq h a b ha hb hao hbo r s (p ++ [x]) (p2 ++ [y]) (i + 1) (Qc e) (Qc e2) hn hn2 (by simpa using hl)
  rw [Qgf]
  by_cases hxy:x = y
  ·subst hxy
   simp [hlt,hx,hy,hw,ih,Qln h.c_f39 _ _ hox hoy]
  ·simp [hlt,hx,hy,hw,ih,Qln h.c_f39 _ _ hox hoy,hxy]
theorem Qxd (h:G_f40 E) (a b:List Entry) (ha:a.length ≤ 1048576) (hb:b.length ≤ 1048576) (hao:∀ x ∈ a,Entry.ok x) (hbo:∀ x ∈ b,Entry.ok x):E 46 [.sl 4 (a.map Entry.u),.sl 4 (b.map Entry.u)] = some (.bool (decide (a = b))):=by
 rw [f40_E h]
 by_cases hl:a.length = b.length
 ·simp [hl,Qlq h a b ha hb hao hbo a b [] [] 0 rfl rfl rfl rfl hl]
 ·have h1:a ≠ b:=fun e=>hl (by rw [e])
  have h2:(a.length:Int) ≠ b.length:=by omega
  simp [h1,h2]
def upReadMark:Int→Nat→List ReadMark
 | _,0=>[]
 | k,n + 1=>⟨k,k + 1⟩ :: upReadMark (k + 2) n
theorem Qrt:∀ (n:Nat) (k:Int),(upReadMark k n).length = n
 | 0,_=>rfl
 | n + 1,k=>by simp [upReadMark,Qrt n]
theorem Qn1 (l:List ReadMark):U.flat.flats (l.map ReadMark.u) = true:=Qa7 _ (fun _=>rfl) l
theorem Qmr (h:G_f60 E):∀ (r p:List ReadMark) (k i:Int),i = p.length→p.length + r.length ≤ 1048576→0 ≤ k→k + 2 * r.length ≤ 1099511627776 →
  f60_l0 E (.int .i64 k) (.int .i64 i) (p.map ReadMark.u ++ r.map ReadMark.u) = some (.tup [.int .i64 (k + 2 * r.length),.sl 2 (p.map ReadMark.u ++ (upReadMark k r.length).map ReadMark.u)])
 | [],p,k,i,hi,hb,hk,hk2=>by
  have h1:¬ i < ((p.map ReadMark.u ++ ([]:List ReadMark).map ReadMark.u).length:Int):=by simp [hi]
  rw [Qmq]
  simp only [Ql,h1,decide_false,Option.bind_some,Qi,Bool.false_eq_true,if_false]
  rw [← List.map_append]
  simp [upReadMark,Qn1]
 | x :: r,p,k,i,hi,hb,hk,hk2=>by
  simp only [List.length_cons] at hb hk2
  have hm:=fun z=>Qv ReadMark.u p z (r.map ReadMark.u) hi
  have hg:=fun z=>(hm z).1
  have hs:=fun z=>(hm z).2.1
  have hlen:=fun z=>(hm z).2.2
  have h0:0 ≤ i:=by omega
  have hw0:IntKind.i64.wrap (k + 1) = k + 1:=by rw [Qj (by omega)]
  have hw1:IntKind.i64.wrap (k + 1 + 1) = k + 2:=by rw [Qj (by omega)]; omega
  have hwi:IntKind.i64.wrap (i + 1) = i + 1:=Qj (by omega)
  have ih:=Qmr h r (p ++ [⟨k,k + 1⟩]) (k + 2) (i + 1) (by simp [hi]) (by simp; omega) (by omega) (by omega)
  simp only [List.map_append,List.map_cons,List.map_nil,List.append_assoc,List.cons_append,List.nil_append] at ih
  rw [Qmq]
  simp only [List.map_cons,Ql,hlen,decide_true,Option.bind_some,Qi,if_true,Qp,h0,and_self,Qcr,Qb6,Qb0,hg,hs,ReadMark.u_agg,Qcc,List.take_zero,List.take_succ_cons,Qav,Qbd,Nat.add_zero,Nat.zero_add,List.getElem?_cons_zero,List.getElem?_cons_succ,List.set_cons_zero,List.set_cons_succ,Qo,hw0,hw1,hwi,Nat.reduceAdd]
  have e:k + 2 + 2 * (r.length:Int) = k + 2 * ((r.length + 1:Nat):Int):=by omega
  rw [e] at ih
  simpa [upReadMark,ReadMark.u] using ih
theorem Qmp (h:G_f60 E) (l:List ReadMark) (hl:l.length ≤ 1048576) (k:Int) (hk:0 ≤ k) (hk2:k ≤ 1073741824) :
  E 200095 (.agg [.tup [.sl 2 (l.map ReadMark.u)]] :: [.int .i64 k]) = some (.tup [.int .i64 (k + 2 * l.length),.sl 2 ((upReadMark k l.length).map ReadMark.u)]):=by
 rw [f60_E h]
 exact Qmr h l [] k 0 rfl (by simpa using hl) hk (by omega)
theorem Qmh (h:G_f56 E) (l:List ReadMark) (hl:l.length ≤ 1048576):∀ (n:Nat) (p:List ReadMark) (k i:Int),l = p ++ upReadMark k n→i = p.length→0 ≤ k→k + 2 * n ≤ 1099511627776 →
  f56_l0 E (.sl 2 (l.map ReadMark.u)) (.int .i64 k) (.int .i64 i) = some (.int .i64 (k + 2 * n))
 | 0,p,k,i,e,hi,hk,hk2=>by
  rw [Qmg]
  simp [Qg e hi]
 | n + 1,p,k,i,e0,hi,hk,hk2=>by
  have e:l = p ++ (⟨k,k + 1⟩:ReadMark) :: upReadMark (k + 2) n:=e0
  obtain ⟨h0,hlt,hx,hw,hn,_⟩:=Qd e hi (by omega)
  have hw0:IntKind.i64.wrap (k + 1) = k + 1:=by rw [Qj (by omega)]
  have hw1:IntKind.i64.wrap (k + 1 + 1) = k + 2:=by rw [Qj (by omega)]; omega
  have ih:=Qmh h l hl n (p ++ [⟨k,k + 1⟩]) (k + 2) (i + 1) (Qc e) hn (by omega) (by omega)
  have e2:k + 2 + 2 * (n:Int) = k + 2 * ((n + 1:Nat):Int):=by omega
  rw [e2] at ih
  rw [Qmg]
  simp only [Qn,List.length_map,Option.bind_some,Ql,hlt,decide_true,Qi,if_true,Qp,hx,ReadMark.u_at0,ReadMark.u_at1,Qan,Qiv,ne_eq,not_true_eq_false,decide_false,Bool.false_eq_true,if_false,Qo,hw,hw0,hw1]
  exact ih
theorem Qx2 (h:G_f56 E) (n:Nat) (hn:n ≤ 1048576) (k:Int) (hk:0 ≤ k) (hk2:k ≤ 1048576):E 92 [.sl 2 ((upReadMark k n).map ReadMark.u),.int .i64 k] = some (.int .i64 (k + 2 * n)):=by
 rw [f56_E h]
 exact Qmh h _ (by rw [Qrt]; exact hn) n [] k 0 rfl rfl hk (by omega)
def upWrite:Int→Nat→List Write
 | _,0=>[]
 | k,n + 1=>⟨k,k + 1⟩ :: upWrite (k + 2) n
theorem Qru:∀ (n:Nat) (k:Int),(upWrite k n).length = n
 | 0,_=>rfl
 | n + 1,k=>by simp [upWrite,Qru n]
theorem Qn4 (l:List Write):U.flat.flats (l.map Write.u) = true:=Qa7 _ (fun _=>rfl) l
theorem Qm2 (h:G_f65 E):∀ (r p:List Write) (k i:Int),i = p.length→p.length + r.length ≤ 1048576→0 ≤ k→k + 2 * r.length ≤ 1099511627776 →
  f65_l0 E (.int .i64 k) (.int .i64 i) (p.map Write.u ++ r.map Write.u) = some (.tup [.int .i64 (k + 2 * r.length),.sl 2 (p.map Write.u ++ (upWrite k r.length).map Write.u)])
 | [],p,k,i,hi,hb,hk,hk2=>by
  have h1:¬ i < ((p.map Write.u ++ ([]:List Write).map Write.u).length:Int):=by simp [hi]
  rw [Qm1]
  simp only [Ql,h1,decide_false,Option.bind_some,Qi,Bool.false_eq_true,if_false]
  rw [← List.map_append]
  simp [upWrite,Qn4]
 | x :: r,p,k,i,hi,hb,hk,hk2=>by
  simp only [List.length_cons] at hb hk2
  have hm:=fun z=>Qv Write.u p z (r.map Write.u) hi
  have hg:=fun z=>(hm z).1
  have hs:=fun z=>(hm z).2.1
  have hlen:=fun z=>(hm z).2.2
  have h0:0 ≤ i:=by omega
  have hw0:IntKind.i64.wrap (k + 1) = k + 1:=by rw [Qj (by omega)]
  have hw1:IntKind.i64.wrap (k + 1 + 1) = k + 2:=by rw [Qj (by omega)]; omega
  have hwi:IntKind.i64.wrap (i + 1) = i + 1:=Qj (by omega)
  have ih:=Qm2 h r (p ++ [⟨k,k + 1⟩]) (k + 2) (i + 1) (by simp [hi]) (by simp; omega) (by omega) (by omega)
  simp only [List.map_append,List.map_cons,List.map_nil,List.append_assoc,List.cons_append,List.nil_append] at ih
  rw [Qm1]
  simp only [List.map_cons,Ql,hlen,decide_true,Option.bind_some,Qi,if_true,Qp,h0,and_self,Qcr,Qb6,Qb0,hg,hs,Write.u_agg,Qcc,List.take_zero,List.take_succ_cons,Qav,Qbd,Nat.add_zero,Nat.zero_add,List.getElem?_cons_zero,List.getElem?_cons_succ,List.set_cons_zero,List.set_cons_succ,Qo,hw0,hw1,hwi,Nat.reduceAdd]
  have e:k + 2 + 2 * (r.length:Int) = k + 2 * ((r.length + 1:Nat):Int):=by omega
  rw [e] at ih
  simpa [upWrite,Write.u] using ih
theorem Qm0 (h:G_f65 E) (l:List Write) (hl:l.length ≤ 1048576) (k:Int) (hk:0 ≤ k) (hk2:k ≤ 1073741824) :
  E 200232 (.agg [.tup [.sl 2 (l.map Write.u)]] :: [.int .i64 k]) = some (.tup [.int .i64 (k + 2 * l.length),.sl 2 ((upWrite k l.length).map Write.u)]):=by
 rw [f65_E h]
 exact Qm2 h l [] k 0 rfl (by simpa using hl) hk (by omega)
theorem Qni (h:G_f89 E) (l:List ReadMark) (hl:l.length ≤ 1048576):∀ (r p:List ReadMark) (i:Int) (c:List U),l = p ++ r→i = p.length→c.length = r.length→(∀ z ∈ c,z.size = 2) →
  f89_l0 E (.sl 2 (l.map ReadMark.u)) (.int .i64 i) (p.map ReadMark.u ++ c) = some (.sl 2 (l.map ReadMark.u))
 | [],p,i,c,e,hi,hc,_=>by
  obtain rfl:c = []:=List.length_eq_zero_iff.1 hc
  rw [Qnh]
  simp [Qg e hi]
  simp [e,Qn1,← List.map_append,← List.map_cons]
 | x :: r,p,i,[],e,hi,hc,_=>by cases hc
 | x :: r,p,i,z :: c,e,hi,hc,hz=>by
  obtain ⟨h0,hlt,hx,hw,hn,_⟩:=Qd e hi (by omega)
  have hzs:z.size = 2:=hz z (by simp)
  obtain ⟨hg,hs,hlen⟩:=Qv ReadMark.u p z c hi
  have ih:=Qni h l hl r (p ++ [x]) (i + 1) c (Qc e) hn (by simpa using hc) (fun y hy=>hz y (by simp [hy]))
  simp only [List.map_append,List.map_cons,List.map_nil,List.append_assoc,List.cons_append,List.nil_append] at ih
  rw [Qnh]
  simp only [hg,hs,hx,hw,Qp,Ql,Qn,List.length_map,Option.bind_some,Qi,hlt,decide_true,if_true,h0,hlen,and_self,Qo,Qne h.c_f87 x,hzs,ReadMark.u_var,ReadMark.u_size,ReadMark.u_storable,ReadMark.u_partable]
  simpa using ih
theorem Qzi (h:G_f89 E) (l:List ReadMark) (hl:l.length ≤ 1048576):E 100028 [.sl 2 (l.map ReadMark.u)] = some (.sl 2 (l.map ReadMark.u)):=by
 have h1:=Qni h l hl l [] 0 (List.replicate l.length (.agg [.int .i64 0,.int .i64 0])) rfl rfl (by simp) (by simp)
 rw [f89_E h]
 simp only [Qn,Option.bind_some,List.length_map]
 rw [if_pos (by refine ⟨by omega,by omega,by omega,rfl⟩)]
 simpa using h1
theorem Qj5 (h:G_f106 E) (l:List Write) (hl:l.length ≤ 1048576):∀ (r p:List Write) (i:Int) (c:List U),l = p ++ r→i = p.length→c.length = r.length→(∀ z ∈ c,z.size = 2) →
  f106_l0 E (.sl 2 (l.map Write.u)) (.int .i64 i) (p.map Write.u ++ c) = some (.sl 2 (l.map Write.u))
 | [],p,i,c,e,hi,hc,_=>by
  obtain rfl:c = []:=List.length_eq_zero_iff.1 hc
  rw [Qj4]
  simp [Qg e hi]
  simp [e,Qn4,← List.map_append,← List.map_cons]
 | x :: r,p,i,[],e,hi,hc,_=>by cases hc
 | x :: r,p,i,z :: c,e,hi,hc,hz=>by
  obtain ⟨h0,hlt,hx,hw,hn,_⟩:=Qd e hi (by omega)
  have hzs:z.size = 2:=hz z (by simp)
  obtain ⟨hg,hs,hlen⟩:=Qv Write.u p z c hi
  have ih:=Qj5 h l hl r (p ++ [x]) (i + 1) c (Qc e) hn (by simpa using hc) (fun y hy=>hz y (by simp [hy]))
  simp only [List.map_append,List.map_cons,List.map_nil,List.append_assoc,List.cons_append,List.nil_append] at ih
  rw [Qj4]
  simp only [hg,hs,hx,hw,Qp,Ql,Qn,List.length_map,Option.bind_some,Qi,hlt,decide_true,if_true,h0,hlen,and_self,Qo,Qj1 h.c_f104 x,hzs,Write.u_var,Write.u_size,Write.u_storable,Write.u_partable]
  simpa using ih
theorem Qtr (h:G_f106 E) (l:List Write) (hl:l.length ≤ 1048576):E 100027 [.sl 2 (l.map Write.u)] = some (.sl 2 (l.map Write.u)):=by
 have h1:=Qj5 h l hl l [] 0 (List.replicate l.length (.agg [.int .i64 0,.int .i64 0])) rfl rfl (by simp) (by simp)
 rw [Qtq h]
 simp only [Qn,Option.bind_some,List.length_map]
 rw [if_pos (by refine ⟨by omega,by omega,by omega,rfl⟩)]
 simpa using h1
def entInts:List Entry→Int
 | []=>0
 | x :: r=>2 + 2 * x.reads.length + 2 * x.writes.length + entInts r
theorem Qes:∀ l,0 ≤ entInts l
 | []=>by simp [entInts]
 | x :: r=>by have:=Qes r; simp only [entInts]; omega
theorem Qmj (h:G_f57 E) (l:List Write) (hl:l.length ≤ 1048576):∀ (n:Nat) (p:List Write) (k i:Int),l = p ++ upWrite k n→i = p.length→0 ≤ k→k + 2 * n ≤ 1099511627776 →
  f57_l0 E (.sl 2 (l.map Write.u)) (.int .i64 k) (.int .i64 i) = some (.int .i64 (k + 2 * n))
 | 0,p,k,i,e,hi,hk,hk2=>by
  rw [Qmi]
  simp [Qg e hi]
 | n + 1,p,k,i,e0,hi,hk,hk2=>by
  have e:l = p ++ (⟨k,k + 1⟩:Write) :: upWrite (k + 2) n:=e0
  obtain ⟨h0,hlt,hx,hw,hn,_⟩:=Qd e hi (by omega)
  have hw0:IntKind.i64.wrap (k + 1) = k + 1:=by rw [Qj (by omega)]
  have hw1:IntKind.i64.wrap (k + 1 + 1) = k + 2:=by rw [Qj (by omega)]; omega
  have ih:=Qmj h l hl n (p ++ [⟨k,k + 1⟩]) (k + 2) (i + 1) (Qc e) hn (by omega) (by omega)
  have e2:k + 2 + 2 * (n:Int) = k + 2 * ((n + 1:Nat):Int):=by omega
  rw [e2] at ih
  rw [Qmi]
  simp only [Qn,List.length_map,Option.bind_some,Ql,hlt,decide_true,Qi,if_true,Qp,hx,Write.u_at0,Write.u_at1,Qan,Qiv,ne_eq,not_true_eq_false,decide_false,Bool.false_eq_true,if_false,Qo,hw,hw0,hw1]
  exact ih
theorem Qx4 (h:G_f57 E) (n:Nat) (hn:n ≤ 1048576) (k:Int) (hk:0 ≤ k) (hk2:k ≤ 4194304):E 235 [.sl 2 ((upWrite k n).map Write.u),.int .i64 k] = some (.int .i64 (k + 2 * n)):=by
 rw [f57_E h]
 exact Qmj h _ (by rw [Qru]; exact hn) n [] k 0 rfl rfl hk (by omega)
def upEnts:Int→List Entry→List Entry
 | _,[]=>[]
 | k,x :: r=>⟨k,k + 1,upReadMark (k + 2) x.reads.length,upWrite (k + 2 + 2 * x.reads.length) x.writes.length⟩ :: upEnts (k + 2 + 2 * x.reads.length + 2 * x.writes.length) r
theorem Qrs:∀ (l:List Entry) (k:Int),(upEnts k l).length = l.length
 | [],_=>rfl
 | x :: r,k=>by simp [upEnts,Qrs r]
theorem Qml (h:G_f58 E):∀ (r:List Entry) (p:List U) (k i:Int),i = p.length→p.length + r.length ≤ 1048576→(∀ x ∈ r,x.ok)→0 ≤ k→k + entInts r ≤ 1073741824 →
  f58_l0 E (.int .i64 k) (.int .i64 i) (p ++ r.map Entry.u) = some (.tup [.int .i64 (k + entInts r),.sl 4 (p ++ (upEnts k r).map Entry.u)])
 | [],p,k,i,hi,hb,hr,hk,hk2=>by
  simp only [entInts] at hk2
  have h1:¬ i < (p.length:Int):=by omega
  rw [Qmk]
  simp [h1,upEnts,entInts]
 | x :: r,p,k,i,hi,hb,hr,hk,hk2=>by
  simp only [List.length_cons,entInts] at hb hk2
  have hs:=Qes r
  have hx:x.ok:=hr x (by simp)
  have hm1:=Qmp h.c_f60 x.reads hx.1 (k + 2) (by omega) (by omega)
  have hm2:=Qm0 h.c_f65 x.writes hx.2 (k + 2 + 2 * x.reads.length) (by omega) (by omega)
  have h1:=Qml h r (p ++ [.agg [.int .i64 k,.int .i64 (k + 1),.sl 2 ((upReadMark (k + 2) x.reads.length).map ReadMark.u),.sl 2 ((upWrite (k + 2 + 2 * x.reads.length) x.writes.length).map Write.u)]]) (k + 2 + 2 * x.reads.length + 2 * x.writes.length) (i + 1) (by simp [hi]) (by simp; omega) (fun y hy=>hr y (by simp [hy])) (by omega) (by omega)
  have hn:i.toNat = p.length:=by omega
  have hlt:∀ z:U,i < ((p ++ z :: r.map Entry.u).length:Int):=fun z=>by simp; omega
  have h0:0 ≤ i:=by omega
  have hw:IntKind.i64.wrap (i + 1) = i + 1:=Qj (by omega)
  have hw1:IntKind.i64.wrap (k + 1) = k + 1:=Qj (by omega)
  have hw2:IntKind.i64.wrap (k + 1 + 1) = k + 2:=by rw [Qj (by omega)]; omega
  have hg:∀ z:U,(p ++ z :: r.map Entry.u)[p.length]? = some z:=fun z=>by simp
  have hset:∀ y z:U,(p ++ y :: r.map Entry.u).set p.length z = p ++ z :: r.map Entry.u:=fun y z=>by simp
  rw [Qmk]
  simp only [List.append_assoc,List.cons_append,List.nil_append] at h1
  simp only [List.map_cons,Ql,hlt,decide_true,Option.bind_some,Qi,if_true,Qp,h0,and_self,hn,hg,hset,Entry.u_agg,Qcc,List.take_zero,List.take_succ_cons,Qav,Qbd,Qb6,U.size,Nat.add_zero,Nat.zero_add,Nat.reduceAdd,List.getElem?_cons_zero,List.getElem?_cons_succ,List.set_cons_zero,List.set_cons_succ,Qcr,Qb0,Qo,hw,hw1,hw2,U.asSlK,hm1,hm2,U.asMut,U.asFlat,U.flat,Qpv]
  simp only [entInts,upEnts,List.map_cons]
  rw [show k + (2 + 2 * (x.reads.length:Int) + 2 * (x.writes.length:Int) + entInts r) = k + 2 + 2 * x.reads.length + 2 * x.writes.length + entInts r by omega]
  exact h1
theorem Qx7 (h:G_f58 E) (l:List Entry) (hl:l.length ≤ 1048576) (ho:∀ x ∈ l,x.ok) (k:Int) (hk:0 ≤ k) (hk2:k + entInts l ≤ 1073741824) :
  E 200287 (.agg [.tup [.sl 4 (l.map Entry.u)]] :: [.int .i64 k]) = some (.tup [.int .i64 (k + entInts l),.sl 4 ((upEnts k l).map Entry.u)]):=by
 rw [f58_E h]
 simpa using Qml h l [] k 0 rfl (by simpa using hl) ho hk hk2
theorem Qmf (h:G_f55 E) (L:List Entry) (hL:L.length ≤ 1048576):∀ (r:List Entry) (p:List Entry) (k i:Int),L = p ++ upEnts k r→i = p.length→(∀ x ∈ r,x.ok)→0 ≤ k→k + entInts r ≤ 1048576 →
  f55_l0 E (.sl 4 (L.map Entry.u)) (.int .i64 k) (.int .i64 i) = some (.int .i64 (k + entInts r))
 | [],p,k,i,e,hi,ho,hk,hk2=>by
  rw [Qme]
  have he:L = p ++ []:=by simpa [upEnts] using e
  simp [Qg he hi,entInts]
 | x :: r,p,k,i,e,hi,ho,hk,hk2=>by
  simp only [upEnts] at e
  simp only [entInts] at hk2
  have hs:=Qes r
  have hx:=ho x (by simp)
  obtain ⟨h0,hlt,hel,hw,hn,_⟩:=Qd e hi (by omega)
  have h1:=Qx2 h.c_f56 x.reads.length hx.1 (k + 2) (by omega) (by omega)
  have h2:=Qx4 h.c_f57 x.writes.length hx.2 (k + 2 + 2 * x.reads.length) (by omega) (by omega)
  have ih:=Qmf h L hL r _ (k + 2 + 2 * x.reads.length + 2 * x.writes.length) (i + 1) (Qc e) hn (fun y hy=>ho y (by simp [hy])) (by omega) (by omega)
  have hw1:IntKind.i64.wrap (k + 1) = k + 1:=Qj (by omega)
  have hw2:IntKind.i64.wrap (k + 1 + 1) = k + 2:=by rw [Qj (by omega)]; omega
  have n1:¬ k + 2 + 2 * (x.reads.length:Int) < 0:=by omega
  have n2:¬ k + 2 + 2 * (x.reads.length:Int) + 2 * (x.writes.length:Int) < 0:=by omega
  have av:∀ (us:List U) (K:U→Option U),U.asVar false 1 (.sl 2 us) K = K (.sl 2 us):=fun _ _=>rfl
  have ee:k + (2 + 2 * (x.reads.length:Int) + 2 * (x.writes.length:Int) + entInts r) = k + 2 + 2 * x.reads.length + 2 * x.writes.length + entInts r:=by omega
  rw [Qme]
  simp [hlt,hel,hw,hw1,hw2,h1,h2,n1,n2,ih,entInts,ee]
theorem Qx0 (h:G_f55 E) (l:List Entry) (hl:l.length ≤ 1048576) (ho:∀ x ∈ l,x.ok) (k:Int) (hk:0 ≤ k) (hk2:k + entInts l ≤ 1048576):E 285 [.sl 4 ((upEnts k l).map Entry.u),.int .i64 k] = some (.int .i64 (k + entInts l)):=by
 rw [f55_E h]
 exact Qmf h (upEnts k l) (by rw [Qrs]; exact hl) l [] k 0 rfl rfl ho hk hk2
theorem Qgs {n:Int} (h:0 ≤ n):U.bin .lss (.int .i64 n) (.int .i64 0) = some (.bool false):=by
 have:¬ n < 0:=by omega
 simp [this]
theorem Qsc (k:Nat) (y:U) (ys:List U) (K:U→List U→Option U):U.asMut k (.tup [y,.sl k ys]) K = K y ys:=if_pos rfl
theorem Qfw (n:Int) (K:U→Option U):U.asFlat (.int .i64 n) K = K (.int .i64 n):=rfl
theorem Qdo (a b:Option U):U.asBool (.bool false) a b = b:=rfl
theorem Qnn (h:G_f96 E) (x:Version):E 109 [x.u] = some x.u:=by
 rw [f96_E h]
 simp [Version.u]
theorem Qnp (h:G_f97 E) (l:List Version) (hl:l.length ≤ 1048576):∀ (r p:List Version) (i:Int) (c:List U),l = p ++ r→i = p.length→c.length = r.length→(∀ z ∈ c,z.size = 5) →
  f97_l0 E (.sl 5 (l.map Version.u)) (.int .i64 i) (p.map Version.u ++ c) = some (.sl 5 (l.map Version.u))
 | [],p,i,c,e,hi,hc,_=>by
  obtain rfl:c = []:=List.length_eq_zero_iff.1 hc
  rw [Qno]
  simp [Qg e hi]
  simp [e]
 | x :: r,p,i,[],e,hi,hc,_=>by cases hc
 | x :: r,p,i,z :: c,e,hi,hc,hz=>by
  obtain ⟨h0,hlt,hx,hw,hn,_⟩:=Qd e hi (by omega)
  have hzs:z.size = 5:=hz z (by simp)
  obtain ⟨hg,hs,hlen⟩:=Qv Version.u p z c hi
  have ih:=Qnp h l hl r (p ++ [x]) (i + 1) c (Qc e) hn (by simpa using hc) (fun y hy=>hz y (by simp [hy]))
  simp only [List.map_append,List.map_cons,List.map_nil,List.append_assoc,List.cons_append,List.nil_append] at ih
  rw [Qno]
  simp only [hg,hs,hx,hw,Qp,Ql,Qn,List.length_map,Option.bind_some,Qi,hlt,decide_true,if_true,h0,hlen,and_self,Qo,Qnn h.c_f96 x,hzs,Version.u_var,Version.u_size,Version.u_storable,Version.u_partable]
  simpa using ih
theorem Qzz (h:G_f97 E) (l:List Version) (hl:l.length ≤ 1048576):E 108 [.sl 5 (l.map Version.u)] = some (.sl 5 (l.map Version.u)):=by
 have h1:=Qnp h l hl l [] 0 (List.replicate l.length (.agg [.int .i64 0,.int .i64 0,.int .i64 0,.int .i64 0,.int .i64 0])) rfl rfl (by simp) (by simp)
 rw [f97_E h]
 simp only [Qn,Option.bind_some,List.length_map]
 rw [if_pos (by refine ⟨by omega,by omega,by omega,rfl⟩)]
 simpa using h1
theorem Ql0 (h:G_f48 E) (x y:Version):E 120 [x.u,y.u] = some (.bool (decide (x = y))):=by
 rw [f48_E h]
 obtain ⟨a0,a1,a2,a3,a4⟩:=x
 obtain ⟨b0,b1,b2,b3,b4⟩:=y
 simp only [Version.mk.injEq]
 by_cases h0:a0 = b0
 case neg=>simp [h0]
 subst h0
 by_cases h1:a1 = b1
 case neg=>simp [h1]
 subst h1
 by_cases h2:a2 = b2
 case neg=>simp [h2]
 subst h2
 by_cases h3:a3 = b3
 case neg=>simp [h3]
 subst h3
 by_cases h4:a4 = b4
 case neg=>simp [h4]
 subst h4
 simp []
theorem Ql3 (h:G_f49 E) (a b:List Version) (ha:a.length ≤ 1048576) (hb:b.length ≤ 1048576):∀ (r s p p2:List Version) (i:Int),a = p ++ r→b = p2 ++ s→i = p.length→i = p2.length→r.length = s.length →
  f49_l0 E (.sl 5 (a.map Version.u)) (.sl 5 (b.map Version.u)) (.int .i64 i) = some (.bool (decide (r = s)))
 | [],[],p,p2,i,e,e2,hi,hi2,_=>by
  rw [Ql2]
  simp [Qg e hi]
 | [],y :: s,_,_,_,_,_,_,_,hl=>by cases hl
 | x :: r,[],_,_,_,_,_,_,_,hl=>by cases hl
 | x :: r,y :: s,p,p2,i,e,e2,hi,hi2,hl=>by
  obtain ⟨h0,hlt,hx,hw,hn,_⟩:=Qd e hi (by omega)
  obtain ⟨_,_,hy,_,hn2,_⟩:=Qd e2 hi2 (by omega)
  have ih:=Ql3 h a b ha hb r s (p ++ [x]) (p2 ++ [y]) (i + 1) (Qc e) (Qc e2) hn hn2 (by simpa using hl)
  rw [Ql2]
  by_cases hxy:x = y
  ·subst hxy
   simp [hlt,hx,hy,hw,ih,Ql0 h.c_f48]
  ·simp [hlt,hx,hy,hw,ih,Ql0 h.c_f48,hxy]
theorem Qxq (h:G_f49 E) (a b:List Version) (ha:a.length ≤ 1048576) (hb:b.length ≤ 1048576):E 119 [.sl 5 (a.map Version.u),.sl 5 (b.map Version.u)] = some (.bool (decide (a = b))):=by
 rw [f49_E h]
 by_cases hl:a.length = b.length
 ·simp [hl,Ql3 h a b ha hb a b [] [] 0 rfl rfl rfl rfl hl]
 ·have h1:a ≠ b:=fun e=>hl (by rw [e])
  have h2:(a.length:Int) ≠ b.length:=by omega
  simp [h1,h2]
theorem Qyx (h:G_f74 E) (l:List Version) (hl:l.length ≤ maxLen) (left:Int) (h0:0 ≤ left) (h1:left ≤ 1048576):E 101 [.sl 5 (l.map Version.u),.int .i64 left] = some (.int .i64 (szc l.length left)):=by
 rw [f74_E h]
 unfold maxLen at hl
 have hw:IntKind.i64.wrap (left - (l.length:Int)) = left - l.length:=Qj (by omega)
 by_cases h2:left - (l.length:Int) < 0 <;> simp [hw,szc,h2]
theorem Qzy (h:G_f97 E) (x:List Version) (hx:chainOk x):E 108 [chainU x] = some (chainU x):=Qzz h x hx
theorem Ql1 (h:G_f49 E) (x y:List Version) (hx:chainOk x) (hy:chainOk y):E 119 [chainU x,chainU y] = some (.bool (decide (x = y))):=Qxq h x y hx hy
theorem Qm6 (h:G_f74 E) (x:List Version) (hx:chainFit x) (left:Int) (h0:0 ≤ left) (h1:left ≤ 1048576):E 101 [chainU x,.int .i64 left] = some (.int .i64 (chainSz x left)):=Qyx h x hx left h0 h1
theorem Qnr (h:G_f98 E) (l:List (List Version)) (hl:l.length ≤ 1048576) (hok:∀ x ∈ l,chainOk x):∀ (r p:List (List Version)) (i:Int) (c:List U),l = p ++ r→i = p.length→c.length = r.length→(∀ z ∈ c,z.size = 1) →
  f98_l0 E (.sl 1 (l.map chainU)) (.int .i64 i) (p.map chainU ++ c) = some (.sl 1 (l.map chainU))
 | [],p,i,c,e,hi,hc,_=>by
  obtain rfl:c = []:=List.length_eq_zero_iff.1 hc
  rw [Qnq]
  simp [Qg e hi]
  simp [e]
 | x :: r,p,i,[],e,hi,hc,_=>by cases hc
 | x :: r,p,i,z :: c,e,hi,hc,hz=>by
  obtain ⟨h0,hlt,hx,hw,hn,_⟩:=Qd e hi (by omega)
  have hox:chainOk x:=hok x (by rw [e]; simp)
  have hzs:z.size = 1:=hz z (by simp)
  obtain ⟨hg,hs,hlen⟩:=Qv chainU p z c hi
  have ih:=Qnr h l hl hok r (p ++ [x]) (i + 1) c (Qc e) hn (by simpa using hc) (fun y hy=>hz y (by simp [hy]))
  simp only [List.map_append,List.map_cons,List.map_nil,List.append_assoc,List.cons_append,List.nil_append] at ih
  rw [Qnq]
  simp only [hg,hs,hx,hw,Qp,Ql,Qn,List.length_map,Option.bind_some,Qi,hlt,decide_true,if_true,h0,hlen,and_self,Qo,Qzy h.c_f97 x hox,hzs,Qdp,Qi5,Qri,Qpu]
  simpa using ih
theorem Qz1 (h:G_f98 E) (l:List (List Version)) (hl:l.length ≤ 1048576) (hok:∀ x ∈ l,chainOk x):E 107 [.sl 1 (l.map chainU)] = some (.sl 1 (l.map chainU)):=by
 have h1:=Qnr h l hl hok l [] 0 (List.replicate l.length (.nsl 5)) rfl rfl (by simp) (by simp)
 rw [f98_E h]
 simp only [Qn,Option.bind_some,List.length_map]
 rw [if_pos (by refine ⟨by omega,by omega,by omega,rfl⟩)]
 simpa using h1
theorem Ql7 (h:G_f50 E) (a b:List (List Version)) (ha:a.length ≤ 1048576) (hb:b.length ≤ 1048576) (hao:∀ x ∈ a,chainOk x) (hbo:∀ x ∈ b,chainOk x):∀ (r s p p2:List (List Version)) (i:Int),a = p ++ r→b = p2 ++ s→i = p.length→i = p2.length→r.length = s.length →
  f50_l0 E (.sl 1 (a.map chainU)) (.sl 1 (b.map chainU)) (.int .i64 i) = some (.bool (decide (r = s)))
 | [],[],p,p2,i,e,e2,hi,hi2,_=>by
  rw [Ql6]
  simp [Qg e hi]
 | [],y :: s,_,_,_,_,_,_,_,hl=>by cases hl
 | x :: r,[],_,_,_,_,_,_,_,hl=>by cases hl
 | x :: r,y :: s,p,p2,i,e,e2,hi,hi2,hl=>by
  obtain ⟨h0,hlt,hx,hw,hn,_⟩:=Qd e hi (by omega)
  obtain ⟨_,_,hy,_,hn2,_⟩:=Qd e2 hi2 (by omega)
  have hox:chainOk x:=hao x (by rw [e]; simp)
  have hoy:chainOk y:=hbo y (by rw [e2]; simp)
  have ih:=Ql7 h a b ha hb hao hbo r s (p ++ [x]) (p2 ++ [y]) (i + 1) (Qc e) (Qc e2) hn hn2 (by simpa using hl)
  rw [Ql6]
  by_cases hxy:x = y
  ·subst hxy
   simp [hlt,hx,hy,hw,ih,Ql1 h.c_f49 _ _ hox hoy]
  ·simp [hlt,hx,hy,hw,ih,Ql1 h.c_f49 _ _ hox hoy,hxy]
theorem Qxt (h:G_f50 E) (a b:List (List Version)) (ha:a.length ≤ 1048576) (hb:b.length ≤ 1048576) (hao:∀ x ∈ a,chainOk x) (hbo:∀ x ∈ b,chainOk x):E 118 [.sl 1 (a.map chainU),.sl 1 (b.map chainU)] = some (.bool (decide (a = b))):=by
 rw [f50_E h]
 by_cases hl:a.length = b.length
 ·simp [hl,Ql7 h a b ha hb hao hbo a b [] [] 0 rfl rfl rfl rfl hl]
 ·have h1:a ≠ b:=fun e=>hl (by rw [e])
  have h2:(a.length:Int) ≠ b.length:=by omega
  simp [h1,h2]
theorem Qm8 (h:G_f75 E) (l:List (List Version)) (hl:l.length ≤ 1048576) (hf:∀ x ∈ l,chainFit x):∀ (r p:List (List Version)) (i left:Int),l = p ++ r→i = p.length→0 ≤ left→left ≤ 1048576 →
  f75_l0 E (.sl 1 (l.map chainU)) (.int .i64 left) (.int .i64 i) = some (.int .i64 (szl chainSz r left))
 | [],p,i,left,e,hi,_,_=>by
  rw [Qm7]
  simp [Qg e hi,szl]
 | x :: r,p,i,left,e,hi,h1,h2=>by
  obtain ⟨h0,hlt,hx,hw,hn,_⟩:=Qd e hi (by omega)
  have hfx:chainFit x:=hf x (by rw [e]; simp)
  rw [Qm7]
  rcases Qi4 x left h1 h2 with h3 | ⟨_,h3,h4⟩
  ·simp [hlt,hx,hw,szl,Qm6 h.c_f74 x hfx left h1 h2,h3]
  ·have ih:=Qm8 h l hl hf r (p ++ [x]) (i + 1) (chainSz x left) (Qc e) hn h3 (by omega)
   have h5:¬ chainSz x left < 0:=by omega
   simp [hlt,hx,hw,szl,Qm6 h.c_f74 x hfx left h1 h2,h5,ih]
theorem Qyz (h:G_f75 E) (l:List (List Version)) (hl:l.length ≤ maxLen) (hf:∀ x ∈ l,chainFit x) (left:Int) (h0:0 ≤ left) (h1:left ≤ 1048576):E 100 [.sl 1 (l.map chainU),.int .i64 left] = some (.int .i64 (szL chainSz l left)):=by
 rw [f75_E h]
 unfold maxLen at hl
 have hw:IntKind.i64.wrap (left - (l.length:Int)) = left - l.length:=Qj (by omega)
 by_cases h2:left - (l.length:Int) < 0
 ·simp [hw,szL,h2]
 ·simp [hw,szL,h2,Qm8 h l (by omega) hf l [] 0 (left - l.length) rfl rfl (by omega) (by omega)]
theorem Qzl (h:G_f90 E) (s:Store) (ho:s.ok):E 93 [s.u] = some s.u:=by
 rw [f90_E h]
 have h1:=Qz1 h.c_f98 s.chains ho.1 ho.2
 simp [h1]
 rfl
theorem Qxk (h:G_f45 E) (s t:Store) (ho:s.ok) (ho2:t.ok):E 97 [s.u,t.u] = some (.bool (decide (s = t))):=by
 rw [f45_E h]
 have h1:=Qxt h.c_f50 s.chains t.chains ho.1 ho2.1 ho.2 ho2.2
 by_cases h2:s.chains = t.chains <;> simp [h1,h2,Store.eq_iff]
 rw [h2] at h1
 simp [h1]
theorem Qys (h:G_f71 E) (s:Store) (hf:s.fit) (left:Int) (h0:0 ≤ left) (h1:left ≤ 1048576):E 99 [s.u,.int .i64 left] = some (.int .i64 (s.sz left)):=by
 rw [f71_E h]
 have a1:=Qyz h.c_f75 s.chains hf.1 hf.2 left h0 h1
 by_cases h2:szL chainSz s.chains left < 0
 ·have h3:=Qaf6 Qsi h2
  simp [a1,h3,Store.sz]
 ·simp [a1,h2,Store.sz]
theorem Qm3 (h:G_f72 E) (x:Transaction) (hf:x.fit) (left:Int) (h0:0 ≤ left) (h1:left ≤ 1048576):E 132 [x.u,.int .i64 left] = some (.int .i64 (x.sz left)):=by
 rw [f72_E h]
 obtain ⟨hf1,hf2⟩:=hf
 have a1:=Qyq h.c_f70 x.reads hf1 left h0 h1
 rcases Qbu x.reads.length left h0 h1 with h2 | ⟨_,h3,h4⟩
 ·simp [a1,Transaction.sz,h2]
 ·have h5:¬ szc x.reads.length left < 0:=by omega
  have a2:=Qy3 h.c_f77 x.writes hf2 _ h3 (by omega)
  by_cases h6:szc x.writes.length (szc x.reads.length left) < 0
  ·have h7:szc x.writes.length (szc x.reads.length left) = -1:=Qhy h6
   simp [a1,a2,Transaction.sz,h5,h7]
  ·simp [a1,a2,Transaction.sz,h5,h6]
theorem Qzp (h:G_f92 E) (x:Transaction) (ho:x.ok):E 145 [x.u] = some x.u:=by
 rw [f92_E h]
 simp [Transaction.u,Qzg h.c_f88 x.reads ho.1,Qto h.c_f105 x.writes ho.2]
theorem Qlx (h:G_f46 E) (x y:Transaction) (hx:x.ok) (hy:y.ok):E 177 [x.u,y.u] = some (.bool (decide (x = y))):=by
 rw [f46_E h]
 obtain ⟨a0,a1,a2,a3,a4,a5,a6,a7,a8⟩:=x
 obtain ⟨b0,b1,b2,b3,b4,b5,b6,b7,b8⟩:=y
 simp only [Transaction.mk.injEq]
 by_cases h0:a0 = b0
 case neg=>simp [Qaf h.c_f44 a7 b7 hx.1 hy.1,Qag h.c_f54 a8 b8 hx.2 hy.2,h0]
 subst h0
 by_cases h1:a1 = b1
 case neg=>simp [Qaf h.c_f44 a7 b7 hx.1 hy.1,Qag h.c_f54 a8 b8 hx.2 hy.2,h1]
 subst h1
 by_cases h2:a2 = b2
 case neg=>simp [Qaf h.c_f44 a7 b7 hx.1 hy.1,Qag h.c_f54 a8 b8 hx.2 hy.2,h2]
 subst h2
 by_cases h3:a3 = b3
 case neg=>simp [Qaf h.c_f44 a7 b7 hx.1 hy.1,Qag h.c_f54 a8 b8 hx.2 hy.2,h3]
 subst h3
 by_cases h4:a4 = b4
 case neg=>simp [Qaf h.c_f44 a7 b7 hx.1 hy.1,Qag h.c_f54 a8 b8 hx.2 hy.2,h4]
 subst h4
 by_cases h5:a5 = b5
 case neg=>simp [Qaf h.c_f44 a7 b7 hx.1 hy.1,Qag h.c_f54 a8 b8 hx.2 hy.2,h5]
 subst h5
 by_cases h6:a6 = b6
 case neg=>simp [Qaf h.c_f44 a7 b7 hx.1 hy.1,Qag h.c_f54 a8 b8 hx.2 hy.2,h6]
 subst h6
 by_cases h7:a7 = b7
 case neg=>simp [Qaf h.c_f44 a7 b7 hx.1 hy.1,Qag h.c_f54 a8 b8 hx.2 hy.2,h7]
 subst h7
 by_cases h8:a8 = b8
 case neg=>simp [Qaf h.c_f44 a7 a7 hx.1 hy.1,Qag h.c_f54 a8 b8 hx.2 hy.2,h8]
 subst h8
 simp [Qaf h.c_f44 a7 a7 hx.1 hy.1,Qag h.c_f54 a8 a8 hx.2 hy.2]
theorem Qnk (h:G_f93 E) (l:List Transaction) (hl:l.length ≤ 1048576) (hok:∀ x ∈ l,Transaction.ok x):∀ (r p:List Transaction) (i:Int) (c:List U),l = p ++ r→i = p.length→c.length = r.length→(∀ z ∈ c,z.size = 9) →
  f93_l0 E (.sl 9 (l.map Transaction.u)) (.int .i64 i) (p.map Transaction.u ++ c) = some (.sl 9 (l.map Transaction.u))
 | [],p,i,c,e,hi,hc,_=>by
  obtain rfl:c = []:=List.length_eq_zero_iff.1 hc
  rw [Qnj]
  simp [Qg e hi]
  simp [e]
 | x :: r,p,i,[],e,hi,hc,_=>by cases hc
 | x :: r,p,i,z :: c,e,hi,hc,hz=>by
  obtain ⟨h0,hlt,hx,hw,hn,_⟩:=Qd e hi (by omega)
  have hox:Transaction.ok x:=hok x (by rw [e]; simp)
  have hzs:z.size = 9:=hz z (by simp)
  obtain ⟨hg,hs,hlen⟩:=Qv Transaction.u p z c hi
  have ih:=Qnk h l hl hok r (p ++ [x]) (i + 1) c (Qc e) hn (by simpa using hc) (fun y hy=>hz y (by simp [hy]))
  simp only [List.map_append,List.map_cons,List.map_nil,List.append_assoc,List.cons_append,List.nil_append] at ih
  rw [Qnj]
  simp only [hg,hs,hx,hw,Qp,Ql,Qn,List.length_map,Option.bind_some,Qi,hlt,decide_true,if_true,h0,hlen,and_self,Qo,Qzp h.c_f92 x hox,hzs,Transaction.u_var,Transaction.u_size,Transaction.u_storable,Transaction.u_partable]
  simpa using ih
theorem Qzr (h:G_f93 E) (l:List Transaction) (hl:l.length ≤ 1048576) (hok:∀ x ∈ l,Transaction.ok x):E 144 [.sl 9 (l.map Transaction.u)] = some (.sl 9 (l.map Transaction.u)):=by
 have h1:=Qnk h l hl hok l [] 0 (List.replicate l.length (.agg [.int .i64 0,.int .i64 0,.int .i64 0,.int .i64 0,.int .i64 0,.int .i64 0,.int .i64 0,.nsl 2,.nsl 2])) rfl rfl (by simp) (by simp)
 rw [f93_E h]
 simp only [Qn,Option.bind_some,List.length_map]
 rw [if_pos (by refine ⟨by omega,by omega,by omega,rfl⟩)]
 simpa using h1
theorem Qlz (h:G_f47 E) (a b:List Transaction) (ha:a.length ≤ 1048576) (hb:b.length ≤ 1048576) (hao:∀ x ∈ a,Transaction.ok x) (hbo:∀ x ∈ b,Transaction.ok x):∀ (r s p p2:List Transaction) (i:Int),a = p ++ r→b = p2 ++ s→i = p.length→i = p2.length→r.length = s.length →
  f47_l0 E (.sl 9 (a.map Transaction.u)) (.sl 9 (b.map Transaction.u)) (.int .i64 i) = some (.bool (decide (r = s)))
 | [],[],p,p2,i,e,e2,hi,hi2,_=>by
  rw [Qly]
  simp [Qg e hi]
 | [],y :: s,_,_,_,_,_,_,_,hl=>by cases hl
 | x :: r,[],_,_,_,_,_,_,_,hl=>by cases hl
 | x :: r,y :: s,p,p2,i,e,e2,hi,hi2,hl=>by
  obtain ⟨h0,hlt,hx,hw,hn,_⟩:=Qd e hi (by omega)
  obtain ⟨_,_,hy,_,hn2,_⟩:=Qd e2 hi2 (by omega)
  have hox:Transaction.ok x:=hao x (by rw [e]; simp)
  have hoy:Transaction.ok y:=hbo y (by rw [e2]; simp)
  have ih:=Qlz h a b ha hb hao hbo r s (p ++ [x]) (p2 ++ [y]) (i + 1) (Qc e) (Qc e2) hn hn2 (by simpa using hl)
  rw [Qly]
  by_cases hxy:x = y
  ·subst hxy
   simp [hlt,hx,hy,hw,ih,Qlx h.c_f46 _ _ hox hoy]
  ·simp [hlt,hx,hy,hw,ih,Qlx h.c_f46 _ _ hox hoy,hxy]
theorem Qxn (h:G_f47 E) (a b:List Transaction) (ha:a.length ≤ 1048576) (hb:b.length ≤ 1048576) (hao:∀ x ∈ a,Transaction.ok x) (hbo:∀ x ∈ b,Transaction.ok x):E 176 [.sl 9 (a.map Transaction.u),.sl 9 (b.map Transaction.u)] = some (.bool (decide (a = b))):=by
 rw [f47_E h]
 by_cases hl:a.length = b.length
 ·simp [hl,Qlz h a b ha hb hao hbo a b [] [] 0 rfl rfl rfl rfl hl]
 ·have h1:a ≠ b:=fun e=>hl (by rw [e])
  have h2:(a.length:Int) ≠ b.length:=by omega
  simp [h1,h2]
theorem Qm5 (h:G_f73 E) (l:List Transaction) (hl:l.length ≤ 1048576) (hf:∀ x ∈ l,Transaction.fit x):∀ (r p:List Transaction) (i left:Int),l = p ++ r→i = p.length→0 ≤ left→left ≤ 1048576 →
  f73_l0 E (.sl 9 (l.map Transaction.u)) (.int .i64 left) (.int .i64 i) = some (.int .i64 (szl Transaction.sz r left))
 | [],p,i,left,e,hi,_,_=>by
  rw [Qm4]
  simp [Qg e hi,szl]
 | x :: r,p,i,left,e,hi,h1,h2=>by
  obtain ⟨h0,hlt,hx,hw,hn,_⟩:=Qd e hi (by omega)
  have hfx:Transaction.fit x:=hf x (by rw [e]; simp)
  rw [Qm4]
  rcases Transaction.sz_szs x left h1 h2 with h3 | ⟨_,h3,h4⟩
  ·simp [hlt,hx,hw,szl,Qm3 h.c_f72 x hfx left h1 h2,h3]
  ·have ih:=Qm5 h l hl hf r (p ++ [x]) (i + 1) (Transaction.sz x left) (Qc e) hn h3 (by omega)
   have h5:¬ Transaction.sz x left < 0:=by omega
   simp [hlt,hx,hw,szl,Qm3 h.c_f72 x hfx left h1 h2,h5,ih]
theorem Qyv (h:G_f73 E) (l:List Transaction) (hl:l.length ≤ maxLen) (hf:∀ x ∈ l,Transaction.fit x) (left:Int) (h0:0 ≤ left) (h1:left ≤ 1048576):E 131 [.sl 9 (l.map Transaction.u),.int .i64 left] = some (.int .i64 (szL Transaction.sz l left)):=by
 rw [f73_E h]
 unfold maxLen at hl
 have hw:IntKind.i64.wrap (left - (l.length:Int)) = left - l.length:=Qj (by omega)
 by_cases h2:left - (l.length:Int) < 0
 ·simp [hw,szL,h2]
 ·simp [hw,szL,h2,Qm5 h l (by omega) hf l [] 0 (left - l.length) rfl rfl (by omega) (by omega)]
end Go.Proofs.YtlgblpngiamhaaaGreat.Am
