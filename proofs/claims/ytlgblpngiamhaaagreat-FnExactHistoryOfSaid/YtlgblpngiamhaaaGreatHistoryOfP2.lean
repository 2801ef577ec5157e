import Derived.Test.YtlgblpngiamhaaaGreatHistoryOfP0
import Derived.Test.YtlgblpngiamhaaaGreatHistoryOfF0
import Derived.Test.YtlgblpngiamhaaaGreatHistoryOfF1
import Derived.Test.YtlgblpngiamhaaaGreatHistoryOfP1
import Derived.Test.YtlgblpngiamhaaaGreatAmY
namespace Go.Proofs.YtlgblpngiamhaaaGreat.Am
open Go
variable {E:Env}
set_option linter.unusedVariables false
theorem Qm9 (h:G_f84 E) (x:Lock):E 146 [x.u] = some x.u:=by
 rw [f84_E h]
 simp [Lock.u]
theorem Qnb (h:G_f85 E) (l:List Lock) (hl:l.length ≤ 1048576):∀ (r p:List Lock) (i:Int) (c:List U),l = p ++ r→i = p.length→c.length = r.length→(∀ z ∈ c,z.size = 2) →
  f85_l0 E (.sl 2 (l.map Lock.u)) (.int .i64 i) (p.map Lock.u ++ c) = some (.sl 2 (l.map Lock.u))
 | [],p,i,c,e,hi,hc,_=>by
  obtain rfl:c = []:=List.length_eq_zero_iff.1 hc
  rw [Qna]
  simp [Qg e hi]
  simp [e]
 | x :: r,p,i,[],e,hi,hc,_=>by cases hc
 | x :: r,p,i,z :: c,e,hi,hc,hz=>by
  obtain ⟨h0,hlt,hx,hw,hn,_⟩:=Qd e hi (by omega)
  have hzs:z.size = 2:=hz z (by simp)
  obtain ⟨hg,hs,hlen⟩:=Qv Lock.u p z c hi
  have ih:=Qnb h l hl r (p ++ [x]) (i + 1) c (Qc e) hn (by simpa using hc) (fun y hy=>hz y (by simp [hy]))
  simp only [List.map_append,List.map_cons,List.map_nil,List.append_assoc,List.cons_append,List.nil_append] at ih
  rw [Qna]
  simp only [hg,hs,hx,hw,Qp,Ql,Qn,List.length_map,Option.bind_some,Qi,hlt,decide_true,if_true,h0,hlen,and_self,Qo,Qm9 h.c_f84 x,hzs,Lock.u_var,Lock.u_size,Lock.u_storable,Lock.u_partable]
  simpa using ih
theorem Qzb (h:G_f85 E) (l:List Lock) (hl:l.length ≤ 1048576):E 143 [.sl 2 (l.map Lock.u)] = some (.sl 2 (l.map Lock.u)):=by
 have h1:=Qnb h l hl l [] 0 (List.replicate l.length (.agg [.int .i64 0,.int .i64 0])) rfl rfl (by simp) (by simp)
 rw [f85_E h]
 simp only [Qn,Option.bind_some,List.length_map]
 rw [if_pos (by refine ⟨by omega,by omega,by omega,rfl⟩)]
 simpa using h1
theorem Qlr (h:G_f41 E) (x y:Lock):E 178 [x.u,y.u] = some (.bool (decide (x = y))):=by
 rw [f41_E h]
 obtain ⟨a0,a1⟩:=x
 obtain ⟨b0,b1⟩:=y
 simp only [Lock.mk.injEq]
 by_cases h0:a0 = b0
 case neg=>simp [h0]
 subst h0
 by_cases h1:a1 = b1
 case neg=>simp [h1]
 subst h1
 simp []
theorem Qlt (h:G_f42 E) (a b:List Lock) (ha:a.length ≤ 1048576) (hb:b.length ≤ 1048576):∀ (r s p p2:List Lock) (i:Int),a = p ++ r→b = p2 ++ s→i = p.length→i = p2.length→r.length = s.length →
  f42_l0 E (.sl 2 (a.map Lock.u)) (.sl 2 (b.map Lock.u)) (.int .i64 i) = some (.bool (decide (r = s)))
 | [],[],p,p2,i,e,e2,hi,hi2,_=>by
  rw [Qls]
  simp [Qg e hi]
 | [],y :: s,_,_,_,_,_,_,_,hl=>by cases hl
 | x :: r,[],_,_,_,_,_,_,_,hl=>by cases hl
 | x :: r,y :: s,p,p2,i,e,e2,hi,hi2,hl=>by
  obtain ⟨h0,hlt,hx,hw,hn,_⟩:=Qd e hi (by omega)
  obtain ⟨_,_,hy,_,hn2,_⟩:=Qd e2 hi2 (by omega)
  have ih:=Qlt h a b ha hb r s (p ++ [x]) (p2 ++ [y]) (i + 1) (Qc e) (Qc e2) hn hn2 (by simpa using hl)
  rw [Qls]
  by_cases hxy:x = y
  ·subst hxy
   simp [hlt,hx,hy,hw,ih,Qlr h.c_f41]
  ·simp [hlt,hx,hy,hw,ih,Qlr h.c_f41,hxy]
theorem Qxg (h:G_f42 E) (a b:List Lock) (ha:a.length ≤ 1048576) (hb:b.length ≤ 1048576):E 175 [.sl 2 (a.map Lock.u),.sl 2 (b.map Lock.u)] = some (.bool (decide (a = b))):=by
 rw [f42_E h]
 by_cases hl:a.length = b.length
 ·simp [hl,Qlt h a b ha hb a b [] [] 0 rfl rfl rfl rfl hl]
 ·have h1:a ≠ b:=fun e=>hl (by rw [e])
  have h2:(a.length:Int) ≠ b.length:=by omega
  simp [h1,h2]
theorem Qyn (h:G_f69 E) (l:List Lock) (hl:l.length ≤ maxLen) (left:Int) (h0:0 ≤ left) (h1:left ≤ 1048576):E 130 [.sl 2 (l.map Lock.u),.int .i64 left] = some (.int .i64 (szc l.length left)):=by
 rw [f69_E h]
 unfold maxLen at hl
 have hw:IntKind.i64.wrap (left - (l.length:Int)) = left - l.length:=Qj (by omega)
 by_cases h2:left - (l.length:Int) < 0 <;> simp [hw,szc,h2]
theorem Qjw (h:G_f101 E) (x:Wait):E 147 [x.u] = some x.u:=by
 rw [Qtd h]
 simp [Wait.u]
theorem Qjy (h:G_f102 E) (l:List Wait) (hl:l.length ≤ 1048576):∀ (r p:List Wait) (i:Int) (c:List U),l = p ++ r→i = p.length→c.length = r.length→(∀ z ∈ c,z.size = 2) →
  f102_l0 E (.sl 2 (l.map Wait.u)) (.int .i64 i) (p.map Wait.u ++ c) = some (.sl 2 (l.map Wait.u))
 | [],p,i,c,e,hi,hc,_=>by
  obtain rfl:c = []:=List.length_eq_zero_iff.1 hc
  rw [Qjx]
  simp [Qg e hi]
  simp [e]
 | x :: r,p,i,[],e,hi,hc,_=>by cases hc
 | x :: r,p,i,z :: c,e,hi,hc,hz=>by
  obtain ⟨h0,hlt,hx,hw,hn,_⟩:=Qd e hi (by omega)
  have hzs:z.size = 2:=hz z (by simp)
  obtain ⟨hg,hs,hlen⟩:=Qv Wait.u p z c hi
  have ih:=Qjy h l hl r (p ++ [x]) (i + 1) c (Qc e) hn (by simpa using hc) (fun y hy=>hz y (by simp [hy]))
  simp only [List.map_append,List.map_cons,List.map_nil,List.append_assoc,List.cons_append,List.nil_append] at ih
  rw [Qjx]
  simp only [hg,hs,hx,hw,Qp,Ql,Qn,List.length_map,Option.bind_some,Qi,hlt,decide_true,if_true,h0,hlen,and_self,Qo,Qjw h.c_f101 x,hzs,Wait.u_var,Wait.u_size,Wait.u_storable,Wait.u_partable]
  simpa using ih
theorem Qtg (h:G_f102 E) (l:List Wait) (hl:l.length ≤ 1048576):E 142 [.sl 2 (l.map Wait.u)] = some (.sl 2 (l.map Wait.u)):=by
 have h1:=Qjy h l hl l [] 0 (List.replicate l.length (.agg [.int .i64 0,.int .i64 0])) rfl rfl (by simp) (by simp)
 rw [Qtf h]
 simp only [Qn,Option.bind_some,List.length_map]
 rw [if_pos (by refine ⟨by omega,by omega,by omega,rfl⟩)]
 simpa using h1
theorem Ql8 (h:G_f51 E) (x y:Wait):E 179 [x.u,y.u] = some (.bool (decide (x = y))):=by
 rw [f51_E h]
 obtain ⟨a0,a1⟩:=x
 obtain ⟨b0,b1⟩:=y
 simp only [Wait.mk.injEq]
 by_cases h0:a0 = b0
 case neg=>simp [h0]
 subst h0
 by_cases h1:a1 = b1
 case neg=>simp [h1]
 subst h1
 simp []
theorem Qma (h:G_f52 E) (a b:List Wait) (ha:a.length ≤ 1048576) (hb:b.length ≤ 1048576):∀ (r s p p2:List Wait) (i:Int),a = p ++ r→b = p2 ++ s→i = p.length→i = p2.length→r.length = s.length →
  f52_l0 E (.sl 2 (a.map Wait.u)) (.sl 2 (b.map Wait.u)) (.int .i64 i) = some (.bool (decide (r = s)))
 | [],[],p,p2,i,e,e2,hi,hi2,_=>by
  rw [Ql9]
  simp [Qg e hi]
 | [],y :: s,_,_,_,_,_,_,_,hl=>by cases hl
 | x :: r,[],_,_,_,_,_,_,_,hl=>by cases hl
 | x :: r,y :: s,p,p2,i,e,e2,hi,hi2,hl=>by
  obtain ⟨h0,hlt,hx,hw,hn,_⟩:=Qd e hi (by omega)
  obtain ⟨_,_,hy,_,hn2,_⟩:=Qd e2 hi2 (by omega)
  have ih:=Qma h a b ha hb r s (p ++ [x]) (p2 ++ [y]) (i + 1) (Qc e) (Qc e2) hn hn2 (by simpa using hl)
  rw [Ql9]
  by_cases hxy:x = y
  ·subst hxy
   simp [hlt,hx,hy,hw,ih,Ql8 h.c_f51]
  ·simp [hlt,hx,hy,hw,ih,Ql8 h.c_f51,hxy]
theorem Qxw (h:G_f52 E) (a b:List Wait) (ha:a.length ≤ 1048576) (hb:b.length ≤ 1048576):E 174 [.sl 2 (a.map Wait.u),.sl 2 (b.map Wait.u)] = some (.bool (decide (a = b))):=by
 rw [f52_E h]
 by_cases hl:a.length = b.length
 ·simp [hl,Qma h a b ha hb a b [] [] 0 rfl rfl rfl rfl hl]
 ·have h1:a ≠ b:=fun e=>hl (by rw [e])
  have h2:(a.length:Int) ≠ b.length:=by omega
  simp [h1,h2]
theorem Qy1 (h:G_f76 E) (l:List Wait) (hl:l.length ≤ maxLen) (left:Int) (h0:0 ≤ left) (h1:left ≤ 1048576):E 129 [.sl 2 (l.map Wait.u),.int .i64 left] = some (.int .i64 (szc l.length left)):=by
 rw [f76_E h]
 unfold maxLen at hl
 have hw:IntKind.i64.wrap (left - (l.length:Int)) = left - l.length:=Qj (by omega)
 by_cases h2:left - (l.length:Int) < 0 <;> simp [hw,szc,h2]
theorem Qy5 (h:G_f78 E) (e:Engine) (ho:e.ok):E 124 [e.u] = some e.u:=by
 obtain ⟨o1,o2,o3,o4,o5⟩:=ho
 rw [f78_E h]
 have a1:=Qzl h.c_f90 e.store o1
 have a2:=Qzr h.c_f93 e.transactions o2 o3
 have a3:=Qzb h.c_f85 e.locks o4
 have a4:=Qtg h.c_f102 e.waits o5
 simp [a1,a2,a3,a4]
 rfl
theorem Qw9 (h:G_f38 E) (x y:Engine) (hx:x.ok) (hy:y.ok):E 125 [x.u,y.u] = some (.bool (decide (x = y))):=by
 obtain ⟨o1,o2,o3,o4,o5⟩:=hx
 obtain ⟨p1,p2,p3,p4,p5⟩:=hy
 rw [f38_E h]
 have a1:=Qxk h.c_f45 x.store y.store o1 p1
 have a2:=Qxn h.c_f47 x.transactions y.transactions o2 p2 o3 p3
 have a3:=Qxg h.c_f42 x.locks y.locks o4 p4
 have a4:=Qxw h.c_f52 x.waits y.waits o5 p5
 simp only [Engine.eq_iff]
 by_cases h0:x.certify = y.certify
 case neg=>simp [h0]
 by_cases h1:x.store = y.store
 case neg=>simp [h0,a1,h1]
 rw [h1] at a1
 by_cases h2:x.transactions = y.transactions
 case neg=>simp [h0,a1,h1,a2,h2]
 rw [h2] at a2
 by_cases h3:x.locks = y.locks
 case neg=>simp [h0,a1,h1,a2,h2,a3,h3]
 rw [h3] at a3
 by_cases h4:x.waits = y.waits
 case neg=>simp [h0,a1,h1,a2,h2,a3,h3,a4,h4]
 rw [h4] at a4
 by_cases h5:x.stamp = y.stamp <;> simp [h0,a1,h1,a2,h2,a3,h3,a4,h4,h5]
theorem Qyl (h:G_f66 E) (e:Engine) (hf:e.fit) (left:Int) (h0:0 ≤ left) (h1:left ≤ 1048576):E 128 [e.u,.int .i64 left] = some (.int .i64 (e.sz left)):=by
 obtain ⟨f1,f2,f3,f4,f5⟩:=hf
 rw [f66_E h]
 have a1:=Qys h.c_f71 e.store f1 left h0 h1
 rcases Store.sz_szs e.store left h0 h1 with n1 | ⟨_,n1,n2⟩
 ·simp [a1,n1,Engine.sz]
 have n3:¬ e.store.sz left < 0:=by omega
 have a2:=Qyv h.c_f73 e.transactions f2 f3 _ n1 (by omega)
 rcases Qhx Transaction.sz_szs e.transactions _ n1 (by omega) with m1 | ⟨_,m1,m2⟩
 ·simp [a1,n3,a2,m1,Engine.sz]
 have m3:¬ szL Transaction.sz e.transactions (e.store.sz left) < 0:=by omega
 have a3:=Qyn h.c_f69 e.locks f4 _ m1 (by omega)
 rcases Qbu e.locks.length _ m1 (by omega) with k1 | ⟨_,k1,k2⟩
 ·simp [a1,n3,a2,m3,a3,k1,Engine.sz]
 have k3:¬ szc e.locks.length (szL Transaction.sz e.transactions (e.store.sz left)) < 0:=by omega
 have a4:=Qy1 h.c_f76 e.waits f5 _ k1 (by omega)
 by_cases j1:szc e.waits.length (szc e.locks.length (szL Transaction.sz e.transactions (e.store.sz left))) < 0
 ·have j2:=Qhy j1
  simp [a1,n3,a2,m3,a3,k3,a4,j2,Engine.sz]
 ·simp [a1,n3,a2,m3,a3,k3,a4,j1,Engine.sz]
def upVersion:Int→Nat→List Version
 | _,0=>[]
 | k,n + 1=>⟨k,k + 1,k + 2,k + 3,k + 4⟩ :: upVersion (k + 5) n
theorem Qn2 (l:List Version):U.flat.flats (l.map Version.u) = true:=Qa7 _ (fun _=>rfl) l
theorem Qmx (h:G_f63 E):∀ (r p:List Version) (k i:Int),i = p.length→p.length + r.length ≤ 1048576→0 ≤ k→k + 5 * r.length ≤ 1099511627776 →
  f63_l0 E (.int .i64 k) (.int .i64 i) (p.map Version.u ++ r.map Version.u) = some (.tup [.int .i64 (k + 5 * r.length),.sl 5 (p.map Version.u ++ (upVersion k r.length).map Version.u)])
 | [],p,k,i,hi,hb,hk,hk2=>by
  have h1:¬ i < ((p.map Version.u ++ ([]:List Version).map Version.u).length:Int):=by simp [hi]
  rw [Qmw]
  simp only [Ql,h1,decide_false,Option.bind_some,Qi,Bool.false_eq_true,if_false]
  rw [← List.map_append]
  simp [upVersion,Qn2]
 | x :: r,p,k,i,hi,hb,hk,hk2=>by
  simp only [List.length_cons] at hb hk2
  have hm:=fun z=>Qv Version.u p z (r.map Version.u) hi
  have hg:=fun z=>(hm z).1
  have hs:=fun z=>(hm z).2.1
  have hlen:=fun z=>(hm z).2.2
  have h0:0 ≤ i:=by omega
  have hw0:IntKind.i64.wrap (k + 1) = k + 1:=by rw [Qj (by omega)]
  have hw1:IntKind.i64.wrap (k + 1 + 1) = k + 2:=by rw [Qj (by omega)]; omega
  have hw2:IntKind.i64.wrap (k + 2 + 1) = k + 3:=by rw [Qj (by omega)]; omega
  have hw3:IntKind.i64.wrap (k + 3 + 1) = k + 4:=by rw [Qj (by omega)]; omega
  have hw4:IntKind.i64.wrap (k + 4 + 1) = k + 5:=by rw [Qj (by omega)]; omega
  have hwi:IntKind.i64.wrap (i + 1) = i + 1:=Qj (by omega)
  have ih:=Qmx h r (p ++ [⟨k,k + 1,k + 2,k + 3,k + 4⟩]) (k + 5) (i + 1) (by simp [hi]) (by simp; omega) (by omega) (by omega)
  simp only [List.map_append,List.map_cons,List.map_nil,List.append_assoc,List.cons_append,List.nil_append] at ih
  rw [Qmw]
  simp only [List.map_cons,Ql,hlen,decide_true,Option.bind_some,Qi,if_true,Qp,h0,and_self,Qcr,Qb6,Qb0,hg,hs,Version.u_agg,Qcc,List.take_zero,List.take_succ_cons,Qav,Qbd,Nat.add_zero,Nat.zero_add,List.getElem?_cons_zero,List.getElem?_cons_succ,List.set_cons_zero,List.set_cons_succ,Qo,hw0,hw1,hw2,hw3,hw4,hwi,Nat.reduceAdd]
  have e:k + 5 + 5 * (r.length:Int) = k + 5 * ((r.length + 1:Nat):Int):=by omega
  rw [e] at ih
  simpa [upVersion,Version.u] using ih
theorem Qyg (h:G_f63 E) (l:List Version) (hl:l.length ≤ 1048576) (k:Int) (hk:0 ≤ k) (hk2:k ≤ 1073741824) :
  E 200122 (.agg [.tup [.sl 5 (l.map Version.u)]] :: [.int .i64 k]) = some (.tup [.int .i64 (k + 5 * l.length),.sl 5 ((upVersion k l.length).map Version.u)]):=by
 rw [f63_E h]
 exact Qmx h l [] k 0 rfl (by simpa using hl) hk (by omega)
theorem Qjv (h:G_f100 E) (l:List Version) (hl:l.length ≤ 1048576):∀ (r p:List Version) (i:Int) (c:List U),l = p ++ r→i = p.length→c.length = r.length→(∀ z ∈ c,z.size = 5) →
  f100_l0 E (.sl 5 (l.map Version.u)) (.int .i64 i) (p.map Version.u ++ c) = some (.sl 5 (l.map Version.u))
 | [],p,i,c,e,hi,hc,_=>by
  obtain rfl:c = []:=List.length_eq_zero_iff.1 hc
  rw [Qju]
  simp [Qg e hi]
  simp [e,Qn2,← List.map_append,← List.map_cons]
 | x :: r,p,i,[],e,hi,hc,_=>by cases hc
 | x :: r,p,i,z :: c,e,hi,hc,hz=>by
  obtain ⟨h0,hlt,hx,hw,hn,_⟩:=Qd e hi (by omega)
  have hzs:z.size = 5:=hz z (by simp)
  obtain ⟨hg,hs,hlen⟩:=Qv Version.u p z c hi
  have ih:=Qjv h l hl r (p ++ [x]) (i + 1) c (Qc e) hn (by simpa using hc) (fun y hy=>hz y (by simp [hy]))
  simp only [List.map_append,List.map_cons,List.map_nil,List.append_assoc,List.cons_append,List.nil_append] at ih
  rw [Qju]
  simp only [hg,hs,hx,hw,Qp,Ql,Qn,List.length_map,Option.bind_some,Qi,hlt,decide_true,if_true,h0,hlen,and_self,Qo,Qnn h.c_f96 x,hzs,Version.u_var,Version.u_size,Version.u_storable,Version.u_partable]
  simpa using ih
theorem Qjt (h:G_f100 E) (l:List Version) (hl:l.length ≤ 1048576):E 100108 [.sl 5 (l.map Version.u)] = some (.sl 5 (l.map Version.u)):=by
 have h1:=Qjv h l hl l [] 0 (List.replicate l.length (.agg [.int .i64 0,.int .i64 0,.int .i64 0,.int .i64 0,.int .i64 0])) rfl rfl (by simp) (by simp)
 rw [Qtb h]
 simp only [Qn,Option.bind_some,List.length_map]
 rw [if_pos (by refine ⟨by omega,by omega,by omega,rfl⟩)]
 simpa using h1
theorem Qnt (h:G_f99 E) (l:List (List Version)) (hl:l.length ≤ 1048576) (hok:∀ x ∈ l,chainOk x):∀ (r p:List (List Version)) (i:Int) (c:List U),l = p ++ r→i = p.length→c.length = r.length→(∀ z ∈ c,z.size = 1) →
  f99_l0 E (.sl 1 (l.map chainU)) (.int .i64 i) (p.map chainU ++ c) = some (.sl 1 (l.map chainU))
 | [],p,i,c,e,hi,hc,_=>by
  obtain rfl:c = []:=List.length_eq_zero_iff.1 hc
  rw [Qns]
  simp [Qg e hi]
  simp [e]
 | x :: r,p,i,[],e,hi,hc,_=>by cases hc
 | x :: r,p,i,z :: c,e,hi,hc,hz=>by
  obtain ⟨h0,hlt,hx,hw,hn,_⟩:=Qd e hi (by omega)
  have hox:chainOk x:=hok x (by rw [e]; simp)
  have hzs:z.size = 1:=hz z (by simp)
  obtain ⟨hg,hs,hlen⟩:=Qv chainU p z c hi
  have ih:=Qnt h l hl hok r (p ++ [x]) (i + 1) c (Qc e) hn (by simpa using hc) (fun y hy=>hz y (by simp [hy]))
  simp only [List.map_append,List.map_cons,List.map_nil,List.append_assoc,List.cons_append,List.nil_append] at ih
  have hF:E 100108 [U.sl 5 (x.map Version.u)] = some (U.sl 5 (x.map Version.u)):=Qjt h.c_f100 x hox
  rw [Qns]
  simp only [hg,hs,hx,hw,Qp,Ql,Qn,List.length_map,Option.bind_some,Qi,hlt,decide_true,if_true,h0,hlen,and_self,Qo,Qjt h.c_f100 x hox,chainU,U.noTup,U.asSlK,hzs,Qdp,Qi5,Qri,Qpu]
  simpa [hF,chainU] using ih
theorem Qz3 (h:G_f99 E) (l:List (List Version)) (hl:l.length ≤ 1048576) (hok:∀ x ∈ l,chainOk x):E 100107 [.sl 1 (l.map chainU)] = some (.sl 1 (l.map chainU)):=by
 have h1:=Qnt h l hl hok l [] 0 (List.replicate l.length (.nsl 5)) rfl rfl (by simp) (by simp)
 rw [f99_E h]
 simp only [Qn,Option.bind_some,List.length_map]
 rw [if_pos (by refine ⟨by omega,by omega,by omega,rfl⟩)]
 have hfl:∀ n:Nat,U.flat.flats (List.replicate n (U.nsl 5)) = true:=by
  intro n
  induction n with
  | zero=>rfl
  | succ n ih=>simp [List.replicate_succ,U.flat.flats,U.flat,ih]
 simpa [hfl] using h1
theorem Qzn (h:G_f91 E) (s:Store) (ho:s.ok):E 100093 [s.u] = some s.u:=by
 rw [f91_E h]
 have h1:=Qz3 h.c_f99 s.chains ho.1 ho.2
 have h2:∀ (us:List U) (K:U→Option U),U.noTup (.sl 1 us) K = K (.sl 1 us):=fun _ _=>rfl
 simp [h1,U.asSlK,h2]
 rfl
theorem Qzv (h:G_f95 E) (x:Transaction) (ho:x.ok):E 100145 [x.u] = some x.u:=by
 rw [f95_E h]
 have h1:=Qzi h.c_f89 x.reads ho.1
 have h2:=Qtr h.c_f106 x.writes ho.2
 have h3:∀ (k:Nat) (us:List U) (K:U→Option U),U.noTup (.sl k us) K = K (.sl k us):=fun _ _ _=>rfl
 have h4:∀ (n:Int) (K:U→Option U),U.noTup (.int .i64 n) K = K (.int .i64 n):=fun _ _=>rfl
 simp [h1,h2,U.asSlK,h3,h4,D.size,dsizes,D.size.dsizes]
 rfl
def upLock:Int→Nat→List Lock
 | _,0=>[]
 | k,n + 1=>⟨k,k + 1⟩ :: upLock (k + 2) n
theorem Qn0 (l:List Lock):U.flat.flats (l.map Lock.u) = true:=Qa7 _ (fun _=>rfl) l
theorem Qmn (h:G_f59 E):∀ (r p:List Lock) (k i:Int),i = p.length→p.length + r.length ≤ 1048576→0 ≤ k→k + 2 * r.length ≤ 1099511627776 →
  f59_l0 E (.int .i64 k) (.int .i64 i) (p.map Lock.u ++ r.map Lock.u) = some (.tup [.int .i64 (k + 2 * r.length),.sl 2 (p.map Lock.u ++ (upLock k r.length).map Lock.u)])
 | [],p,k,i,hi,hb,hk,hk2=>by
  have h1:¬ i < ((p.map Lock.u ++ ([]:List Lock).map Lock.u).length:Int):=by simp [hi]
  rw [Qmm]
  simp only [Ql,h1,decide_false,Option.bind_some,Qi,Bool.false_eq_true,if_false]
  rw [← List.map_append]
  simp [upLock,Qn0]
 | x :: r,p,k,i,hi,hb,hk,hk2=>by
  simp only [List.length_cons] at hb hk2
  have hm:=fun z=>Qv Lock.u p z (r.map Lock.u) hi
  have hg:=fun z=>(hm z).1
  have hs:=fun z=>(hm z).2.1
  have hlen:=fun z=>(hm z).2.2
  have h0:0 ≤ i:=by omega
  have hw0:IntKind.i64.wrap (k + 1) = k + 1:=by rw [Qj (by omega)]
  have hw1:IntKind.i64.wrap (k + 1 + 1) = k + 2:=by rw [Qj (by omega)]; omega
  have hwi:IntKind.i64.wrap (i + 1) = i + 1:=Qj (by omega)
  have ih:=Qmn h r (p ++ [⟨k,k + 1⟩]) (k + 2) (i + 1) (by simp [hi]) (by simp; omega) (by omega) (by omega)
  simp only [List.map_append,List.map_cons,List.map_nil,List.append_assoc,List.cons_append,List.nil_append] at ih
  rw [Qmm]
  simp only [List.map_cons,Ql,hlen,decide_true,Option.bind_some,Qi,if_true,Qp,h0,and_self,Qcr,Qb6,Qb0,hg,hs,Lock.u_agg,Qcc,List.take_zero,List.take_succ_cons,Qav,Qbd,Nat.add_zero,Nat.zero_add,List.getElem?_cons_zero,List.getElem?_cons_succ,List.set_cons_zero,List.set_cons_succ,Qo,hw0,hw1,hwi,Nat.reduceAdd]
  have e:k + 2 + 2 * (r.length:Int) = k + 2 * ((r.length + 1:Nat):Int):=by omega
  rw [e] at ih
  simpa [upLock,Lock.u] using ih
theorem Qx8 (h:G_f59 E) (l:List Lock) (hl:l.length ≤ 1048576) (k:Int) (hk:0 ≤ k) (hk2:k ≤ 1073741824) :
  E 200317 (.agg [.tup [.sl 2 (l.map Lock.u)]] :: [.int .i64 k]) = some (.tup [.int .i64 (k + 2 * l.length),.sl 2 ((upLock k l.length).map Lock.u)]):=by
 rw [f59_E h]
 exact Qmn h l [] k 0 rfl (by simpa using hl) hk (by omega)
def upWait:Int→Nat→List Wait
 | _,0=>[]
 | k,n + 1=>⟨k,k + 1⟩ :: upWait (k + 2) n
theorem Qn3 (l:List Wait):U.flat.flats (l.map Wait.u) = true:=Qa7 _ (fun _=>rfl) l
theorem Qmz (h:G_f64 E):∀ (r p:List Wait) (k i:Int),i = p.length→p.length + r.length ≤ 1048576→0 ≤ k→k + 2 * r.length ≤ 1099511627776 →
  f64_l0 E (.int .i64 k) (.int .i64 i) (p.map Wait.u ++ r.map Wait.u) = some (.tup [.int .i64 (k + 2 * r.length),.sl 2 (p.map Wait.u ++ (upWait k r.length).map Wait.u)])
 | [],p,k,i,hi,hb,hk,hk2=>by
  have h1:¬ i < ((p.map Wait.u ++ ([]:List Wait).map Wait.u).length:Int):=by simp [hi]
  rw [Qmy]
  simp only [Ql,h1,decide_false,Option.bind_some,Qi,Bool.false_eq_true,if_false]
  rw [← List.map_append]
  simp [upWait,Qn3]
 | x :: r,p,k,i,hi,hb,hk,hk2=>by
  simp only [List.length_cons] at hb hk2
  have hm:=fun z=>Qv Wait.u p z (r.map Wait.u) hi
  have hg:=fun z=>(hm z).1
  have hs:=fun z=>(hm z).2.1
  have hlen:=fun z=>(hm z).2.2
  have h0:0 ≤ i:=by omega
  have hw0:IntKind.i64.wrap (k + 1) = k + 1:=by rw [Qj (by omega)]
  have hw1:IntKind.i64.wrap (k + 1 + 1) = k + 2:=by rw [Qj (by omega)]; omega
  have hwi:IntKind.i64.wrap (i + 1) = i + 1:=Qj (by omega)
  have ih:=Qmz h r (p ++ [⟨k,k + 1⟩]) (k + 2) (i + 1) (by simp [hi]) (by simp; omega) (by omega) (by omega)
  simp only [List.map_append,List.map_cons,List.map_nil,List.append_assoc,List.cons_append,List.nil_append] at ih
  rw [Qmy]
  simp only [List.map_cons,Ql,hlen,decide_true,Option.bind_some,Qi,if_true,Qp,h0,and_self,Qcr,Qb6,Qb0,hg,hs,Wait.u_agg,Qcc,List.take_zero,List.take_succ_cons,Qav,Qbd,Nat.add_zero,Nat.zero_add,List.getElem?_cons_zero,List.getElem?_cons_succ,List.set_cons_zero,List.set_cons_succ,Qo,hw0,hw1,hwi,Nat.reduceAdd]
  have e:k + 2 + 2 * (r.length:Int) = k + 2 * ((r.length + 1:Nat):Int):=by omega
  rw [e] at ih
  simpa [upWait,Wait.u] using ih
theorem Qyi (h:G_f64 E) (l:List Wait) (hl:l.length ≤ 1048576) (k:Int) (hk:0 ≤ k) (hk2:k ≤ 1073741824) :
  E 200316 (.agg [.tup [.sl 2 (l.map Wait.u)]] :: [.int .i64 k]) = some (.tup [.int .i64 (k + 2 * l.length),.sl 2 ((upWait k l.length).map Wait.u)]):=by
 rw [f64_E h]
 exact Qmz h l [] k 0 rfl (by simpa using hl) hk (by omega)
theorem Qnd (h:G_f86 E) (l:List Lock) (hl:l.length ≤ 1048576):∀ (r p:List Lock) (i:Int) (c:List U),l = p ++ r→i = p.length→c.length = r.length→(∀ z ∈ c,z.size = 2) →
  f86_l0 E (.sl 2 (l.map Lock.u)) (.int .i64 i) (p.map Lock.u ++ c) = some (.sl 2 (l.map Lock.u))
 | [],p,i,c,e,hi,hc,_=>by
  obtain rfl:c = []:=List.length_eq_zero_iff.1 hc
  rw [Qnc]
  simp [Qg e hi]
  simp [e,Qn0,← List.map_append,← List.map_cons]
 | x :: r,p,i,[],e,hi,hc,_=>by cases hc
 | x :: r,p,i,z :: c,e,hi,hc,hz=>by
  obtain ⟨h0,hlt,hx,hw,hn,_⟩:=Qd e hi (by omega)
  have hzs:z.size = 2:=hz z (by simp)
  obtain ⟨hg,hs,hlen⟩:=Qv Lock.u p z c hi
  have ih:=Qnd h l hl r (p ++ [x]) (i + 1) c (Qc e) hn (by simpa using hc) (fun y hy=>hz y (by simp [hy]))
  simp only [List.map_append,List.map_cons,List.map_nil,List.append_assoc,List.cons_append,List.nil_append] at ih
  rw [Qnc]
  simp only [hg,hs,hx,hw,Qp,Ql,Qn,List.length_map,Option.bind_some,Qi,hlt,decide_true,if_true,h0,hlen,and_self,Qo,Qm9 h.c_f84 x,hzs,Lock.u_var,Lock.u_size,Lock.u_storable,Lock.u_partable]
  simpa using ih
theorem Qzd (h:G_f86 E) (l:List Lock) (hl:l.length ≤ 1048576):E 100143 [.sl 2 (l.map Lock.u)] = some (.sl 2 (l.map Lock.u)):=by
 have h1:=Qnd h l hl l [] 0 (List.replicate l.length (.agg [.int .i64 0,.int .i64 0])) rfl rfl (by simp) (by simp)
 rw [f86_E h]
 simp only [Qn,Option.bind_some,List.length_map]
 rw [if_pos (by refine ⟨by omega,by omega,by omega,rfl⟩)]
 simpa using h1
theorem Qj0 (h:G_f103 E) (l:List Wait) (hl:l.length ≤ 1048576):∀ (r p:List Wait) (i:Int) (c:List U),l = p ++ r→i = p.length→c.length = r.length→(∀ z ∈ c,z.size = 2) →
  f103_l0 E (.sl 2 (l.map Wait.u)) (.int .i64 i) (p.map Wait.u ++ c) = some (.sl 2 (l.map Wait.u))
 | [],p,i,c,e,hi,hc,_=>by
  obtain rfl:c = []:=List.length_eq_zero_iff.1 hc
  rw [Qjz]
  simp [Qg e hi]
  simp [e,Qn3,← List.map_append,← List.map_cons]
 | x :: r,p,i,[],e,hi,hc,_=>by cases hc
 | x :: r,p,i,z :: c,e,hi,hc,hz=>by
  obtain ⟨h0,hlt,hx,hw,hn,_⟩:=Qd e hi (by omega)
  have hzs:z.size = 2:=hz z (by simp)
  obtain ⟨hg,hs,hlen⟩:=Qv Wait.u p z c hi
  have ih:=Qj0 h l hl r (p ++ [x]) (i + 1) c (Qc e) hn (by simpa using hc) (fun y hy=>hz y (by simp [hy]))
  simp only [List.map_append,List.map_cons,List.map_nil,List.append_assoc,List.cons_append,List.nil_append] at ih
  rw [Qjz]
  simp only [hg,hs,hx,hw,Qp,Ql,Qn,List.length_map,Option.bind_some,Qi,hlt,decide_true,if_true,h0,hlen,and_self,Qo,Qjw h.c_f101 x,hzs,Wait.u_var,Wait.u_size,Wait.u_storable,Wait.u_partable]
  simpa using ih
theorem Qtj (h:G_f103 E) (l:List Wait) (hl:l.length ≤ 1048576):E 100142 [.sl 2 (l.map Wait.u)] = some (.sl 2 (l.map Wait.u)):=by
 have h1:=Qj0 h l hl l [] 0 (List.replicate l.length (.agg [.int .i64 0,.int .i64 0])) rfl rfl (by simp) (by simp)
 rw [Qti h]
 simp only [Qn,Option.bind_some,List.length_map]
 rw [if_pos (by refine ⟨by omega,by omega,by omega,rfl⟩)]
 simpa using h1
theorem Qnm (h:G_f94 E) (l:List Transaction) (hl:l.length ≤ 1048576) (hok:∀ x ∈ l,Transaction.ok x):∀ (r p:List Transaction) (i:Int) (c:List U),l = p ++ r→i = p.length→c.length = r.length→(∀ z ∈ c,z.size = 9) →
  f94_l0 E (.sl 9 (l.map Transaction.u)) (.int .i64 i) (p.map Transaction.u ++ c) = some (.sl 9 (l.map Transaction.u))
 | [],p,i,c,e,hi,hc,_=>by
  obtain rfl:c = []:=List.length_eq_zero_iff.1 hc
  rw [Qnl]
  simp [Qg e hi]
  simp [e]
 | x :: r,p,i,[],e,hi,hc,_=>by cases hc
 | x :: r,p,i,z :: c,e,hi,hc,hz=>by
  obtain ⟨h0,hlt,hx,hw,hn,_⟩:=Qd e hi (by omega)
  have hox:x.ok:=hok x (by rw [e]; simp)
  have hzs:z.size = 9:=hz z (by simp)
  obtain ⟨hg,hs,hlen⟩:=Qv Transaction.u p z c hi
  have ih:=Qnm h l hl hok r (p ++ [x]) (i + 1) c (Qc e) hn (by simpa using hc) (fun y hy=>hz y (by simp [hy]))
  simp only [List.map_append,List.map_cons,List.map_nil,List.append_assoc,List.cons_append,List.nil_append] at ih
  have hF:=Qzv h.c_f95 x hox
  have h3:∀ (k:Nat) (us:List U) (K:U→Option U),U.noTup (.sl k us) K = K (.sl k us):=fun _ _ _=>rfl
  have h4:∀ (n:Int) (K:U→Option U),U.noTup (.int .i64 n) K = K (.int .i64 n):=fun _ _=>rfl
  have hu:U.agg [.int .i64 x.id,.int .i64 x.scheme,.int .i64 x.state,.int .i64 x.begin_,.int .i64 x.low,.int .i64 x.high,.int .i64 x.commit,.sl 2 (x.reads.map ReadMark.u),.sl 2 (x.writes.map Write.u)] = x.u:=rfl
  rw [Qnl]
  simp only [hx,hw,Qp,Ql,Qn,List.length_map,Option.bind_some,Qi,hlt,decide_true,if_true,h0,hlen,and_self,Qo,Transaction.u_var,hF,Transaction.u_noTup,Transaction.u_agg,Qan,Qb0,U.asSlK,h4]
  simp only [Qaz,Qjc,D.size,Qb6,Nat.reduceAdd,if_true,hu,Transaction.u_size,hg,hs,hzs,Option.bind_some]
  simpa using ih
theorem Qzt (h:G_f94 E) (l:List Transaction) (hl:l.length ≤ 1048576) (hok:∀ x ∈ l,Transaction.ok x):E 100144 [.sl 9 (l.map Transaction.u)] = some (.sl 9 (l.map Transaction.u)):=by
 have h1:=Qnm h l hl hok l [] 0 (List.replicate l.length (.agg [.int .i64 0,.int .i64 0,.int .i64 0,.int .i64 0,.int .i64 0,.int .i64 0,.int .i64 0,.nsl 2,.nsl 2])) rfl rfl (by simp) (by simp)
 rw [f94_E h]
 simp only [Qn,Option.bind_some,List.length_map]
 rw [if_pos (by refine ⟨by omega,by omega,by omega,rfl⟩)]
 have hfl:∀ n:Nat,U.flat.flats (List.replicate n (.agg [.int .i64 0,.int .i64 0,.int .i64 0,.int .i64 0,.int .i64 0,.int .i64 0,.int .i64 0,.nsl 2,.nsl 2])) = true:=by
  intro n
  induction n with
  | zero=>rfl
  | succ n ih=>simp [List.replicate_succ,U.flat.flats,U.flat,ih]
 simpa [hfl] using h1
theorem Qy7 (h:G_f79 E) (e:Engine) (ho:e.ok):E 100124 [e.u] = some e.u:=by
 rw [f79_E h]
 obtain ⟨h1,h2,h3,h4,h5⟩:=ho
 have g1:=Qzn h.c_f91 e.store h1
 have g2:=Qzt h.c_f94 e.transactions h2 h3
 have g3:=Qzd h.c_f86 e.locks h4
 have g4:=Qtj h.c_f103 e.waits h5
 have q3:∀ (k:Nat) (us:List U) (K:U→Option U),U.noTup (.sl k us) K = K (.sl k us):=fun _ _ _=>rfl
 have q4:∀ (n:Int) (K:U→Option U),U.noTup (.int .i64 n) K = K (.int .i64 n):=fun _ _=>rfl
 simp [g1,g2,g3,g4,U.asSlK,q3,q4,D.size,dsizes,D.size.dsizes]
 rfl
def sumLen:List (List Version)→Int
 | []=>0
 | c :: r=>c.length + sumLen r
theorem Qrj:∀ l,0 ≤ sumLen l
 | []=>by simp [sumLen]
 | c :: r=>by have:=Qrj r; simp only [sumLen]; omega
theorem Qrk:∀ (r:List (List Version)) (left:Int),0 ≤ left→0 ≤ szl chainSz r left→sumLen r ≤ left
 | [],left,h0,h=>by simpa [sumLen] using h0
 | x :: r,left,h0,h=>by
  simp only [szl] at h
  by_cases h1:chainSz x left < 0
  ·rw [if_pos h1] at h; omega
  ·rw [if_neg h1] at h
   have h2:=Qrk r (chainSz x left) (by omega) h
   simp only [chainSz,szc] at h1 h2
   simp only [sumLen]
   split at h2 <;> omega
theorem Qaf2 (s:Store) (left:Int) (h0:0 ≤ left) (h:0 ≤ s.sz left):sumLen s.chains ≤ left:=by
 simp only [Store.sz,szL] at h
 split at h
 ·omega
 ·have:=Qrk s.chains _ (by omega) h
  omega
def upChains:Int→List Nat→List (List Version)
 | _,[]=>[]
 | k,n :: ns=>upVersion k n :: upChains (k + 5 * n) ns
def sumN:List Nat→Int
 | []=>0
 | n :: ns=>n + sumN ns
theorem Qrl:∀ l,0 ≤ sumN l
 | []=>by simp [sumN]
 | c :: r=>by have:=Qrl r; simp only [sumN]; omega
theorem Qmv (h:G_f62 E):∀ (r:List (List Version)) (p:List U) (k i:Int),i = p.length→p.length + r.length ≤ 1048576→(∀ x ∈ r,chainOk x)→0 ≤ k→k + 5 * sumN (r.map List.length) ≤ 1073741824 →
  f62_l0 E (.int .i64 k) (.int .i64 i) (p ++ r.map chainU) = some (.tup [.int .i64 (k + 5 * sumN (r.map List.length)),.sl 1 (p ++ (upChains k (r.map List.length)).map chainU)])
 | [],p,k,i,hi,hb,hr,hk,hk2=>by
  have h1:¬ i < (p.length:Int):=by omega
  rw [Qmu]
  simp [h1,sumN,upChains,U.flat]
 | x :: r,p,k,i,hi,hb,hr,hk,hk2=>by
  simp only [List.length_cons,List.map_cons,sumN] at hb hk2
  have hs:=Qrl (r.map List.length)
  have hx:x.length ≤ 1048576:=hr x (by simp)
  have hm:=Qyg h.c_f63 x hx k hk (by omega)
  have h1:=Qmv h r (p ++ [.sl 5 ((upVersion k x.length).map Version.u)]) (k + 5 * x.length) (i + 1) (by simp [hi]) (by simp; omega) (fun y hy=>hr y (by simp [hy])) (by omega) (by omega)
  have hn:i.toNat = p.length:=by omega
  have hlt:i < ((p ++ chainU x :: r.map chainU).length:Int):=by simp; omega
  have h0:0 ≤ i:=by omega
  have hw:IntKind.i64.wrap (i + 1) = i + 1:=Qj (by omega)
  have hg:(p ++ chainU x :: r.map chainU)[p.length]? = some (.sl 5 (x.map Version.u)):=by simp [chainU]
  have hset:∀ z,(p ++ chainU x :: r.map chainU).set p.length z = p ++ z :: r.map chainU:=fun z=>by simp
  have e:k + 5 * (x.length:Int) + 5 * sumN (r.map List.length) = k + 5 * ((x.length:Int) + sumN (r.map List.length)):=by omega
  rw [Qmu]
  simp only [List.append_assoc,List.cons_append,List.nil_append,e] at h1
  simp only [List.map_cons,Ql,hlt,decide_true,Option.bind_some,Qi,if_true,Qp,h0,and_self,hn,hg,U.asSlK,hm,U.asMut,U.asFlat,U.flat,U.size,Qo,hw,hset,sumN,upChains]
  exact h1
theorem Qye (h:G_f62 E) (l:List (List Version)) (hl:l.length ≤ 1048576) (hc:∀ x ∈ l,chainOk x) (k:Int) (hk:0 ≤ k) (hk2:k + 5 * sumN (l.map List.length) ≤ 1073741824) :
  E 200121 (.agg [.tup [.sl 1 (l.map chainU)]] :: [.int .i64 k]) = some (.tup [.int .i64 (k + 5 * sumN (l.map List.length)),.sl 1 ((upChains k (l.map List.length)).map chainU)]):=by
 rw [f62_E h]
 exact Qmv h l [] k 0 rfl (by simpa using hl) hc hk hk2
theorem Qhw:∀ l:List (List Version),sumN (l.map List.length) = sumLen l
 | []=>rfl
 | c :: r=>by simp only [List.map_cons,sumN,sumLen,Qhw r]
def trxInts:List Transaction→Int
 | []=>0
 | x :: r=>7 + 2 * x.reads.length + 2 * x.writes.length + trxInts r
theorem Qh6:∀ l,0 ≤ trxInts l
 | []=>by simp [trxInts]
 | x :: r=>by have:=Qh6 r; simp only [trxInts]; omega
theorem Qmt (h:G_f61 E):∀ (r:List Transaction) (p:List U) (k i:Int),i = p.length→p.length + r.length ≤ 1048576→(∀ x ∈ r,x.ok)→0 ≤ k→k + trxInts r ≤ 1073741824 →
  ∃ us,f61_l0 E (.int .i64 k) (.int .i64 i) (p ++ r.map Transaction.u) = some (.tup [.int .i64 (k + trxInts r),.sl 9 us])
 | [],p,k,i,hi,hb,hr,hk,hk2=>by
  simp only [trxInts] at hk2
  refine ⟨p,?_⟩
  have h1:¬ i < (p.length:Int):=by omega
  rw [Qms]
  simp [h1,trxInts]
 | x :: r,p,k,i,hi,hb,hr,hk,hk2=>by
  simp only [List.length_cons,trxInts] at hb hk2
  have hs:=Qh6 r
  have hx:x.ok:=hr x (by simp)
  have hm1:=Qmp h.c_f60 x.reads hx.1 (k + 7) (by omega) (by omega)
  have hm2:=Qm0 h.c_f65 x.writes hx.2 (k + 7 + 2 * x.reads.length) (by omega) (by omega)
  obtain ⟨us,h1⟩:=Qmt h r (p ++ [.agg [.int .i64 k,.int .i64 (k + 1),.int .i64 (k + 2),.int .i64 (k + 3),.int .i64 (k + 4),.int .i64 (k + 5),.int .i64 (k + 6),.sl 2 ((upReadMark (k + 7) x.reads.length).map ReadMark.u),.sl 2 ((upWrite (k + 7 + 2 * x.reads.length) x.writes.length).map Write.u)]]) (k + 7 + 2 * x.reads.length + 2 * x.writes.length) (i + 1) (by simp [hi]) (by simp; omega) (fun y hy=>hr y (by simp [hy])) (by omega) (by omega)
  refine ⟨us,?_⟩
  have e9:k + 7 + 2 * x.reads.length + 2 * x.writes.length + trxInts r = k + (7 + 2 * x.reads.length + 2 * x.writes.length + trxInts r):=by omega
  rw [e9] at h1
  rw [show trxInts (x :: r) = 7 + 2 * x.reads.length + 2 * x.writes.length + trxInts r from rfl]
  have hn:i.toNat = p.length:=by omega
  have hlt:∀ z:U,i < ((p ++ z :: r.map Transaction.u).length:Int):=fun z=>by simp; omega
  have h0:0 ≤ i:=by omega
  have hw:IntKind.i64.wrap (i + 1) = i + 1:=Qj (by omega)
  have hw1:IntKind.i64.wrap (k + 1) = k + 1:=Qj (by omega)
  have hw2:IntKind.i64.wrap (k + 1 + 1) = k + 2:=by rw [Qj (by omega)]; omega
  have hw3:IntKind.i64.wrap (k + 2 + 1) = k + 3:=by rw [Qj (by omega)]; omega
  have hw4:IntKind.i64.wrap (k + 3 + 1) = k + 4:=by rw [Qj (by omega)]; omega
  have hw5:IntKind.i64.wrap (k + 4 + 1) = k + 5:=by rw [Qj (by omega)]; omega
  have hw6:IntKind.i64.wrap (k + 5 + 1) = k + 6:=by rw [Qj (by omega)]; omega
  have hw7:IntKind.i64.wrap (k + 6 + 1) = k + 7:=by rw [Qj (by omega)]; omega
  have hg:∀ z:U,(p ++ z :: r.map Transaction.u)[p.length]? = some z:=fun z=>by simp
  have hset:∀ y z:U,(p ++ y :: r.map Transaction.u).set p.length z = p ++ z :: r.map Transaction.u:=fun y z=>by simp
  rw [Qms]
  simp only [List.append_assoc,List.cons_append,List.nil_append] at h1
  simp only [List.map_cons,Ql,hlt,decide_true,Option.bind_some,Qi,if_true,Qp,h0,and_self,hn,hg,hset,Transaction.u_agg,Qcc,List.take_zero,List.take_succ_cons,Qav,Qbd,Qb6,U.size,Nat.add_zero,Nat.zero_add,Nat.reduceAdd,List.getElem?_cons_zero,List.getElem?_cons_succ,List.set_cons_zero,List.set_cons_succ,Qcr,Qb0,Qo,hw,hw1,hw2,hw3,hw4,hw5,hw6,hw7,U.asSlK,hm1,hm2,U.asMut,U.asFlat,U.flat,Qpv]
  exact h1
theorem Qyc (h:G_f61 E) (l:List Transaction) (hl:l.length ≤ 1048576) (ho:∀ x ∈ l,x.ok) (k:Int) (hk:0 ≤ k) (hk2:k + trxInts l ≤ 1073741824) :
  ∃ us,E 200318 (.agg [.tup [.sl 9 (l.map Transaction.u)]] :: [.int .i64 k]) = some (.tup [.int .i64 (k + trxInts l),.sl 9 us]):=by
 rw [f61_E h]
 exact Qmt h l [] k 0 rfl (by simpa using hl) ho hk hk2
theorem Qrr:∀ (r:List Transaction) (left:Int),0 ≤ left→0 ≤ szl Transaction.sz r left→trxInts r ≤ 7 * r.length + 2 * left
 | [],left,h0,h=>by simp [trxInts]; omega
 | x :: r,left,h0,h=>by
  simp only [szl] at h
  by_cases h1:Transaction.sz x left < 0
  ·rw [if_pos h1] at h; omega
  ·rw [if_neg h1] at h
   have h2:=Qrr r (Transaction.sz x left) (by omega) h
   simp only [Transaction.sz,szc] at h1 h2
   simp only [trxInts,List.length_cons]
   split at h2
   ·omega
   ·split at h2
    ·omega
    ·omega
theorem Qagb (l:List Transaction) (left:Int) (h0:0 ≤ left) (h1:left ≤ 1048576) (h:0 ≤ szL Transaction.sz l left):trxInts l ≤ 9437184:=by
 simp only [szL] at h
 split at h
 ·omega
 ·have:=Qrr l _ (by omega) h
  omega
theorem Qacp (hS:G_f62 E) (hT:G_f61 E) (hL:G_f59 E) (hW:G_f64 E) (e:Engine) (ho:e.ok) (hz:0 ≤ e.sz 1048576) :
  ∃ (k1 k2 k3 k4:Int) (u1 u2 u3 u4:List U),E 200121 (.agg [.tup [.sl 1 (e.store.chains.map chainU)]] :: [.int .i64 1]) = some (.tup [.int .i64 k1,.sl 1 u1])
   ∧ E 200318 (.agg [.tup [.sl 9 (e.transactions.map Transaction.u)]] :: [.int .i64 k1]) = some (.tup [.int .i64 k2,.sl 9 u2])
   ∧ E 200317 (.agg [.tup [.sl 2 (e.locks.map Lock.u)]] :: [.int .i64 k2]) = some (.tup [.int .i64 k3,.sl 2 u3])
   ∧ E 200316 (.agg [.tup [.sl 2 (e.waits.map Wait.u)]] :: [.int .i64 k3]) = some (.tup [.int .i64 k4,.sl 2 u4])
   ∧ 0 ≤ k1 ∧ 0 ≤ k2 ∧ 0 ≤ k3 ∧ 0 ≤ k4 ∧ k4 ≤ 1000000000:=by
 obtain ⟨o1,o2,o3,o4,o5⟩:=ho
 unfold Engine.sz at hz
 by_cases q1:e.store.sz 1048576 < 0
 ·rw [if_pos q1] at hz; omega
 rw [if_neg q1] at hz
 by_cases q2:szL Transaction.sz e.transactions (e.store.sz 1048576) < 0
 ·rw [if_pos q2] at hz; omega
 have b1:=Qaf2 e.store 1048576 (by omega) (by omega)
 have b0:e.store.sz 1048576 ≤ 1048576:=by
  rcases Store.sz_szs e.store 1048576 (by omega) (by omega) with n | ⟨_,_,n⟩ <;> omega
 have b2:=Qagb e.transactions _ (by omega) b0 (by omega)
 have p2:=Qh6 e.transactions
 have p1:=Qrj e.store.chains
 have m1:=Qye hS e.store.chains o1.1 o1.2 1 (by omega) (by rw [Qhw]; omega)
 rw [Qhw] at m1
 obtain ⟨u2,m2⟩:=Qyc hT e.transactions o2 o3 (1 + 5 * sumLen e.store.chains) (by omega) (by omega)
 have m3:=Qx8 hL e.locks o4 (1 + 5 * sumLen e.store.chains + trxInts e.transactions) (by omega) (by omega)
 have m4:=Qyi hW e.waits o5 (1 + 5 * sumLen e.store.chains + trxInts e.transactions + 2 * e.locks.length) (by omega) (by omega)
 exact ⟨_,_,_,_,_,_,_,_,m1,m2,m3,m4,by omega,by omega,by omega,by omega,by omega⟩
abbrev shI:Sh:=.int .i64
theorem Qt {u:U} (h:Fits shI u):∃ n,u = .int .i64 n ∧ -9223372036854775808 ≤ n ∧ n ≤ 9223372036854775807:=by
 cases u <;> first | exact h.elim | skip
 rename_i k n
 obtain ⟨rfl,h1,h2⟩:=h
 exact ⟨n,rfl,h1,h2⟩
theorem Qaag {u:U} (h:Fits .bool u):∃ b,u = .bool b:=by
 cases u <;> first | exact h.elim | exact ⟨_,rfl⟩
theorem Qbz {ss:List Sh} {u:U} (h:Fits (.agg ss) u):∃ us,u = .agg us ∧ Fits.fits ss us:=by
 cases u <;> first | exact h.elim | exact ⟨_,rfl,h⟩
theorem Qq {s:Sh} {ss:List Sh} {us:List U} (h:Fits.fits (s :: ss) us):∃ u us',us = u :: us' ∧ Fits s u ∧ Fits.fits ss us':=by
 cases us with
 | nil=>exact h.elim
 | cons u us=>exact ⟨u,us,rfl,h.1,h.2⟩
theorem Qbn {us:List U} (h:Fits.fits [] us):us = []:=by
 cases us with
 | nil=>rfl
 | cons u us=>exact h.elim
theorem Qnw {α:Type} {s:Sh} {f:α→U} {Q:α→Prop} (hs:∀ u,Fits s u→∃ x,u = f x ∧ Q x):∀ us:List U,(∀ u ∈ us,Fits s u)→∃ l:List α,us = l.map f ∧ ∀ x ∈ l,Q x
 | [],_=>⟨[],rfl,by simp⟩
 | u :: us,h=>by
  obtain ⟨x,rfl,hx⟩:=hs u (h u (by simp))
  obtain ⟨l,rfl,hl⟩:=Qnw hs us (fun v hv=>h v (by simp [hv]))
  exact ⟨x :: l,rfl,by simpa using ⟨hx,hl⟩⟩
theorem Qch {α:Type} {k:Nat} {s:Sh} {f:α→U} {Q:α→Prop} (hs:∀ u,Fits s u→∃ x,u = f x ∧ Q x) {u:U} (h:Fits (.sl k s) u):∃ l:List α,u = .sl k (l.map f) ∧ l.length ≤ maxLen ∧ ∀ x ∈ l,Q x:=by
 cases u <;> first | exact h.elim | skip
 obtain ⟨rfl,h1,h2⟩:=h
 obtain ⟨l,rfl,hl⟩:=Qnw hs _ h2
 exact ⟨l,rfl,by simpa using h1,hl⟩
abbrev shReadMark:Sh:=.agg [shI,shI]
theorem Qaaa (u:U) (h:Fits shReadMark u):∃ x:ReadMark,u = x.u ∧ True:=by
 obtain ⟨us0,rfl,hs0⟩:=Qbz h
 obtain ⟨u0,us1,rfl,h0,hs1⟩:=Qq hs0
 obtain ⟨a0,rfl,_⟩:=Qt h0
 obtain ⟨u1,us2,rfl,h1,hs2⟩:=Qq hs1
 obtain ⟨a1,rfl,_⟩:=Qt h1
 obtain rfl:=Qbn hs2
 exact ⟨⟨a0,a1⟩,rfl,trivial⟩
abbrev shWrite:Sh:=.agg [shI,shI]
theorem Qaaf (u:U) (h:Fits shWrite u):∃ x:Write,u = x.u ∧ True:=by
 obtain ⟨us0,rfl,hs0⟩:=Qbz h
 obtain ⟨u0,us1,rfl,h0,hs1⟩:=Qq hs0
 obtain ⟨a0,rfl,_⟩:=Qt h0
 obtain ⟨u1,us2,rfl,h1,hs2⟩:=Qq hs1
 obtain ⟨a1,rfl,_⟩:=Qt h1
 obtain rfl:=Qbn hs2
 exact ⟨⟨a0,a1⟩,rfl,trivial⟩
abbrev shLock:Sh:=.agg [shI,shI]
theorem Qz9 (u:U) (h:Fits shLock u):∃ x:Lock,u = x.u ∧ True:=by
 obtain ⟨us0,rfl,hs0⟩:=Qbz h
 obtain ⟨u0,us1,rfl,h0,hs1⟩:=Qq hs0
 obtain ⟨a0,rfl,_⟩:=Qt h0
 obtain ⟨u1,us2,rfl,h1,hs2⟩:=Qq hs1
 obtain ⟨a1,rfl,_⟩:=Qt h1
 obtain rfl:=Qbn hs2
 exact ⟨⟨a0,a1⟩,rfl,trivial⟩
abbrev shWait:Sh:=.agg [shI,shI]
theorem Qaae (u:U) (h:Fits shWait u):∃ x:Wait,u = x.u ∧ True:=by
 obtain ⟨us0,rfl,hs0⟩:=Qbz h
 obtain ⟨u0,us1,rfl,h0,hs1⟩:=Qq hs0
 obtain ⟨a0,rfl,_⟩:=Qt h0
 obtain ⟨u1,us2,rfl,h1,hs2⟩:=Qq hs1
 obtain ⟨a1,rfl,_⟩:=Qt h1
 obtain rfl:=Qbn hs2
 exact ⟨⟨a0,a1⟩,rfl,trivial⟩
abbrev shVersion:Sh:=.agg [shI,shI,shI,shI,shI]
theorem Qaad (u:U) (h:Fits shVersion u):∃ x:Version,u = x.u ∧ True:=by
 obtain ⟨us0,rfl,hs0⟩:=Qbz h
 obtain ⟨u0,us1,rfl,h0,hs1⟩:=Qq hs0
 obtain ⟨a0,rfl,_⟩:=Qt h0
 obtain ⟨u1,us2,rfl,h1,hs2⟩:=Qq hs1
 obtain ⟨a1,rfl,_⟩:=Qt h1
 obtain ⟨u2,us3,rfl,h2,hs3⟩:=Qq hs2
 obtain ⟨a2,rfl,_⟩:=Qt h2
 obtain ⟨u3,us4,rfl,h3,hs4⟩:=Qq hs3
 obtain ⟨a3,rfl,_⟩:=Qt h3
 obtain ⟨u4,us5,rfl,h4,hs5⟩:=Qq hs4
 obtain ⟨a4,rfl,_⟩:=Qt h4
 obtain rfl:=Qbn hs5
 exact ⟨⟨a0,a1,a2,a3,a4⟩,rfl,trivial⟩
abbrev shTransaction:Sh:=.agg [shI,shI,shI,shI,shI,shI,shI,.sl 2 shReadMark,.sl 2 shWrite]
theorem Qaac (u:U) (h:Fits shTransaction u):∃ x:Transaction,u = x.u ∧ x.fit:=by
 obtain ⟨us0,rfl,hs0⟩:=Qbz h
 obtain ⟨u0,us1,rfl,h0,hs1⟩:=Qq hs0
 obtain ⟨a0,rfl,_⟩:=Qt h0
 obtain ⟨u1,us2,rfl,h1,hs2⟩:=Qq hs1
 obtain ⟨a1,rfl,_⟩:=Qt h1
 obtain ⟨u2,us3,rfl,h2,hs3⟩:=Qq hs2
 obtain ⟨a2,rfl,_⟩:=Qt h2
 obtain ⟨u3,us4,rfl,h3,hs4⟩:=Qq hs3
 obtain ⟨a3,rfl,_⟩:=Qt h3
 obtain ⟨u4,us5,rfl,h4,hs5⟩:=Qq hs4
 obtain ⟨a4,rfl,_⟩:=Qt h4
 obtain ⟨u5,us6,rfl,h5,hs6⟩:=Qq hs5
 obtain ⟨a5,rfl,_⟩:=Qt h5
 obtain ⟨u6,us7,rfl,h6,hs7⟩:=Qq hs6
 obtain ⟨a6,rfl,_⟩:=Qt h6
 obtain ⟨u7,us8,rfl,h7,hs8⟩:=Qq hs7
 obtain ⟨a7,rfl,l7,_⟩:=Qch Qaaa h7
 obtain ⟨u8,us9,rfl,h8,hs9⟩:=Qq hs8
 obtain ⟨a8,rfl,l8,_⟩:=Qch Qaaf h8
 obtain rfl:=Qbn hs9
 exact ⟨⟨a0,a1,a2,a3,a4,a5,a6,a7,a8⟩,rfl,⟨l7,l8⟩⟩
abbrev shStore:Sh:=.agg [.sl 1 (.sl 5 shVersion)]
theorem Qaah (u:U) (h:Fits (.sl 5 shVersion) u):∃ l:List Version,u = chainU l ∧ chainFit l:=by
 obtain ⟨l,h1,h2,_⟩:=Qch Qaad h
 exact ⟨l,h1,h2⟩
theorem Qaab (u:U) (h:Fits shStore u):∃ s:Store,u = s.u ∧ s.fit:=by
 obtain ⟨us0,rfl,hs0⟩:=Qbz h
 obtain ⟨u0,us1,rfl,h0,hs1⟩:=Qq hs0
 obtain ⟨l,rfl,h1,h2⟩:=Qch Qaah h0
 obtain rfl:=Qbn hs1
 exact ⟨⟨l⟩,rfl,h1,h2⟩
abbrev shEngine:Sh:=.agg [.bool,shStore,.sl 9 shTransaction,.sl 2 shLock,.sl 2 shWait,shI]
theorem Qz8 (u:U) (h:Fits shEngine u):∃ e:Engine,u = e.u ∧ e.fit:=by
 obtain ⟨us0,rfl,hs0⟩:=Qbz h
 obtain ⟨u0,us1,rfl,h0,hs1⟩:=Qq hs0
 obtain ⟨b,rfl⟩:=Qaag h0
 obtain ⟨u1,us2,rfl,h1,hs2⟩:=Qq hs1
 obtain ⟨s,rfl,f1⟩:=Qaab _ h1
 obtain ⟨u2,us3,rfl,h2,hs3⟩:=Qq hs2
 obtain ⟨ts,rfl,f2,f3⟩:=Qch Qaac h2
 obtain ⟨u3,us4,rfl,h3,hs4⟩:=Qq hs3
 obtain ⟨ls,rfl,f4,_⟩:=Qch Qz9 h3
 obtain ⟨u4,us5,rfl,h4,hs5⟩:=Qq hs4
 obtain ⟨ws,rfl,f5,_⟩:=Qch Qaae h4
 obtain ⟨u5,us6,rfl,h5,hs6⟩:=Qq hs5
 obtain ⟨n,rfl,_⟩:=Qt h5
 obtain rfl:=Qbn hs6
 exact ⟨⟨b,s,ts,ls,ws,n⟩,rfl,f1,f2,f3,f4,f5⟩
theorem Qagj {t:Transaction} (hv:t.valid = true):t.reads.length ≤ 60:=by
 simp only [Transaction.valid,areReads,Bool.and_eq_true,decide_eq_true_eq] at hv
 exact hv.2.2.2.2.2.2.2.2.1.2
theorem Qr2:∀ (l:List Write) (o:Option Write),writesFrom o l = true→(∀ q,o = some q→0 ≤ q.key)→(l.length:Int) ≤ (match o with | none=>6 | some q=>5 - q.key) ∨ l = []
 | [],o,_,_=>.inr rfl
 | m :: r,o,h,h0=>by
  left
  simp only [writesFrom,writes1,Bool.and_eq_true,inR,decide_eq_true_eq] at h
  obtain ⟨⟨⟨h3,_⟩,h1⟩,h2⟩:=h
  have ih:=Qr2 r (some m) h2 (fun q hq=>by cases hq; exact h3.1)
  have hm:=h3
  cases o with
  | none =>
   rcases ih with ih | rfl
   ·simp only [List.length_cons] at ih ⊢; omega
   ·simp
  | some q =>
   simp only [decide_eq_true_eq] at h1
   have:=h0 q rfl
   rcases ih with ih | rfl
   ·simp only [List.length_cons] at ih ⊢; omega
   ·simp only [List.length_cons,List.length_nil]; omega
theorem Qagk {t:Transaction} (hv:t.valid = true):t.writes.length ≤ 6:=by
 simp only [Transaction.valid,areWrites,Bool.and_eq_true] at hv
 rcases Qr2 _ _ hv.2.2.2.2.2.2.2.2.2 (by simp) with h | h
 ·simp only at h; omega
 ·rw [h]; simp
theorem Qabr (e:Engine) (ho:e.ok):(∀ x ∈ historyOf e,x.ok) ∧ (historyOf e).length ≤ 6 ∧ entInts (historyOf e) ≤ 1000:=by
 unfold historyOf
 cases g:e.valid
 ·simp [entInts]
 rw [if_pos rfl]
 obtain ⟨hp,_⟩:=Qoe (commitsOf e.transactions)
 obtain ⟨hl,_,_,_⟩:=Qja g
 have hv:∀ (r:List Transaction) (o:Option Transaction),txsFrom e o r = true→∀ t ∈ r,t.valid = true:=by
  intro r
  induction r with
  | nil=>intro o _ t ht; cases ht
  | cons y r ih =>
   intro o h t ht
   simp only [txsFrom,txs1,Bool.and_eq_true] at h
   rcases List.mem_cons.1 ht with rfl | ht
   ·exact h.1.1
   ·exact ih (some y) h.2 t ht
 have hsm:∀ x ∈ histSt (commitsOf e.transactions),x.reads.length ≤ 60 ∧ x.writes.length ≤ 6:=fun x hx=>by
  have hx:=hp.mem_iff.1 hx
  unfold commitsOf at hx
  obtain ⟨t,ht,rfl⟩:=List.mem_map.1 hx
  have hm:=(List.mem_filter.1 ht).1
  simp only [Engine.valid,Bool.and_eq_true] at g
  have:=hv _ _ g.2.2.2.2.1.1 t hm
  exact ⟨(Qagj this),(Qagk this)⟩
 have hn:(histSt (commitsOf e.transactions)).length ≤ 6:=by rw [hp.length_eq]; exact Nat.le_trans (Qcz _) hl
 have sum:∀ l:List Entry,(∀ x ∈ l,x.reads.length ≤ 60 ∧ x.writes.length ≤ 6)→entInts l ≤ 134 * l.length:=by
  intro l
  induction l with
  | nil=>intro _; simp [entInts]
  | cons x l ih =>
   intro h
   have h1:=h x (by simp)
   have h2:=ih fun y hy=>h y (by simp [hy])
   simp only [entInts,List.length_cons]
   omega
 have hs:=sum _ hsm
 refine ⟨fun x hx=>?_,hn,by omega⟩
 have:=hsm x hx
 exact ⟨by omega,by omega⟩
theorem Qsy (h:G_f40 E):E 46 [.nsl 4,.sl 4 []] = some (.bool true):=by
 rw [f40_E h]
 simp [U.lenOf]
 rw [Qgf]
 simp [U.lenOf]
theorem Qab6 (h:G_f37 E) (us:List U) (hus:Fits.fits [shEngine] us):E 468 us = some (.bool true):=by
 obtain ⟨u0,us1,rfl,h0,hus1⟩:=Qq hus
 obtain rfl:=Qbn hus1
 obtain ⟨e,rfl,hx⟩:=Qz8 _ h0
 rw [f37_E h]
 have s1:=Qyl h.c_f66 e hx 1048576 (by omega) (by omega)
 rcases Engine.sz_szs e 1048576 (by omega) (by omega) with n1 | ⟨oe,n1,n2⟩
 ·show (E 128 [e.u,.int .i64 1048576]).bind _ = _
  have hlt:U.bin .lss (.int .i64 (e.sz 1048576)) (.int .i64 0) = some (.bool true):=by simp [n1]
  rw [s1,Option.bind_some,hlt]
  rfl
 obtain ⟨k1,k2,k3,k4,v1,v2,v3,v4,m1,m2,m3,m4,p1,p2,p3,p4,_⟩:=Qacp h.c_f62 h.c_f61 h.c_f59 h.c_f64 e oe n1
 have g1:=Qve h.c_f123 e oe
 have g2:=Qv9 h.c_f13 e oe
 have g3:=Qu2 h.c_f11 e oe
 have t1:=Qy5 h.c_f78 e oe
 have t2:=Qy7 h.c_f79 e oe
 have q1:=Qw9 h.c_f38 e e oe oe
 rw [decide_eq_true rfl] at q1
 obtain ⟨ho,hl,hi⟩:=Qabr e oe
 have h0':=Qes (historyOf e)
 have e1:=Qxd h.c_f40 (historyOf e) (historyOf e) (by omega) (by omega) ho ho
 rw [decide_eq_true rfl] at e1
 have r1:=Qx7 h.c_f58 (historyOf e) (by omega) ho 1 (by omega) (by omega)
 have hd:=Qx0 h.c_f55 (historyOf e) (by omega) ho 1 (by omega) (by omega)
 have g2':E 100469 [e.u] = some (.sl 4 ((historyOf e).map Entry.u)):=by
  rw [g2]
  cases g:e.valid
  ·simp [historyOf,g]
  ·rfl
 have e2:∃ z,E 469 [e.u] = some z ∧ E 46 [z,.sl 4 ((historyOf e).map Entry.u)] = some (.bool true):=by
  cases g:e.valid
  ·rw [g] at g3
   refine ⟨_,g3,?_⟩
   have:historyOf e = []:=by simp [historyOf,g]
   rw [this]
   exact Qsy h.c_f40
  ·rw [g] at g3
   exact ⟨_,g3,e1⟩
 obtain ⟨z,g4,e3⟩:=e2
 clear g3 g2
 generalize historyOf e = H at *
 have hdf:U.bin .lss (.int .i64 (1 + entInts H)) (.int .i64 0) = some (.bool false):=Qgs (by omega)
 have hne:U.bin .neq (.int .i64 (1 + entInts H)) (.int .i64 (1 + entInts H)) = some (.bool false):=by simp
 show (E 128 [e.u,.int .i64 1048576]).bind _ = _
 rw [s1,Option.bind_some,Qgs n1]
 show (E 124 [e.u]).bind _ = _
 rw [t1]
 show (E 470 [e.u]).bind _ = _
 rw [g1]
 show (E 100124 [e.u]).bind _ = _
 rw [t2]
 show (E 100469 [e.u]).bind _ = _
 rw [g2']
 show (E 46 [.sl 4 (H.map Entry.u),.sl 4 (H.map Entry.u)]).bind _ = _
 rw [e1]
 show (E 124 [e.u]).bind _ = _
 rw [t1]
 show (E 125 [e.u,e.u]).bind _ = _
 rw [q1]
 show (E 200121 (.agg [.tup [.sl 1 (e.store.chains.map chainU)]] :: [.int .i64 1])).bind _ = _
 rw [m1]
 show (E 200318 (.agg [.tup [.sl 9 (e.transactions.map Transaction.u)]] :: [.int .i64 k1])).bind _ = _
 rw [m2]
 show (E 200317 (.agg [.tup [.sl 2 (e.locks.map Lock.u)]] :: [.int .i64 k2])).bind _ = _
 rw [m3]
 show (E 200316 (.agg [.tup [.sl 2 (e.waits.map Wait.u)]] :: [.int .i64 k3])).bind _ = _
 rw [m4,Option.bind_some,Qsc,Qfw,if_pos (show partable (.val (.int .i64 k4)) = true from rfl),Qgs p4,Option.bind_some,Qdo]
 show (E 200287 (.agg [.tup [.sl 4 (H.map Entry.u)]] :: [.int .i64 1])).bind _ = _
 rw [r1]
 show (E 285 [.sl 4 ((upEnts 1 H).map Entry.u),.int .i64 1]).bind _ = _
 rw [hd,Option.bind_some,Qfw,hdf,Option.bind_some,Qdo,hne,Option.bind_some,Qdo]
 show (E 124 [e.u]).bind _ = _
 rw [t1]
 show (E 469 [e.u]).bind _ = _
 rw [g4]
 show (E 46 [z,.sl 4 (H.map Entry.u)]).bind _ = _
 rw [e3]
 rw [Option.bind_some,Qcs,Option.bind_some,Qi,if_neg (by simp),Option.bind_some,Qfw,hdf,Option.bind_some,Qdo,hne,Option.bind_some,Qdo]
end Go.Proofs.YtlgblpngiamhaaaGreat.Am
