import Derived.Test.YtlgblpngiamhaaaGreatAmTk
import Derived.Test.YtlgblpngiamhaaaGreatAmSo
set_option linter.unusedVariables false
namespace Go.Proofs.YtlgblpngiamhaaaGreat.Am
open Go Go.RowKit Go.Sort Go.Shelf Go.Proofs
section
variable {α β:Type} [Inhabited α] [Inhabited β]
theorem Qe4 (f:α→β) (d:Array α) (i:Nat) (h:i < d.size):(d.map f)[i]! = f d[i]!:=by
 rw [getElem!_pos (d.map f) i (by simpa using h),getElem!_pos d i h,Array.getElem_map]
theorem Qaf4 (f:α→β) (d:Array α) (i j:Nat) (hi:i < d.size) (hj:j < d.size):(swp d i j).map f = swp (d.map f) i j:=by
 unfold swp
 rw [Qe4 f d i hi,Qe4 f d j hj]
 simp
theorem Qgo (lt:α→α→Bool) (a:Nat):∀ (j:Nat) (d:Array α),(insInner lt a j d).size = d.size
 | 0,d=>rfl
 | j + 1,d=>by
  unfold insInner
  split
  ·rw [Qgo lt a j,swp]; simp
  ·rfl
theorem Qon (lt:α→α→Bool) (lt':β→β→Bool) (f:α→β) (hl:∀ x y,lt x y = lt' (f x) (f y)) (a:Nat):∀ (j:Nat) (d:Array α),j < d.size→(insInner lt a j d).map f = insInner lt' a j (d.map f)
 | 0,d,_=>rfl
 | j + 1,d,h=>by
  unfold insInner
  rw [Qe4 f d (j + 1) h,Qe4 f d j (by omega),hl]
  split
  ·rw [← Qaf4 f d (j + 1) j h (by omega)]
   exact Qon lt lt' f hl a j _ (by rw [swp]; simp; omega)
  ·rfl
theorem Qop (lt:α→α→Bool) (lt':β→β→Bool) (f:α→β) (hl:∀ x y,lt x y = lt' (f x) (f y)) (a b:Nat):∀ (n i:Nat) (d:Array α),b - i = n→b ≤ d.size→(insOuter lt a b i d).map f = insOuter lt' a b i (d.map f)
 | 0,i,d,hn,hb=>by
  rw [insOuter.eq_1 lt,insOuter.eq_1 lt',if_neg (by omega),if_neg (by omega)]
 | n + 1,i,d,hn,hb=>by
  rw [insOuter.eq_1 lt,insOuter.eq_1 lt',if_pos (by omega),if_pos (by omega),← Qon lt lt' f hl a i d (by omega)]
  exact Qop lt lt' f hl a b n (i + 1) _ (by omega) (by rw [Qgo]; exact hb)
theorem Qoq (lt:α→α→Bool) (lt':β→β→Bool) (f:α→β) (hl:∀ x y,lt x y = lt' (f x) (f y)) (d:Array α) (a b:Nat) (hb:b ≤ d.size):(insertionSort lt d a b).map f = insertionSort lt' (d.map f) a b:=by
 unfold insertionSort
 exact Qop lt lt' f hl a b _ (a + 1) d rfl hb
end
def stabU (κ:U→Int) (xs:List U):List U:=(insertionSort (fun x y=>decide (κ x < κ y)) xs.toArray 0 xs.length).toList
def κcmp (κ:U→Int) (x y:U):Int:=if κ x < κ y then -1 else if κ y < κ x then 1 else 0
theorem κcmp_neg (κ:U→Int) (x y:U):ltOf (κcmp κ) x y = decide (κ x < κ y):=by
 unfold ltOf κcmp
 congr 1
 rw [eq_iff_iff]
 split
 ·simp_all
 ·split <;> simp_all
section
variable {α:Type} [Inhabited α] (enc:α→List Value) {k:Nat} (hk:∀ x,(enc x).length = k)
include hk
omit [Inhabited α] in
theorem Qgi:∀ l:List α,(l.map enc).flatten.length = l.length * k
 | []=>by simp
 | e :: l=>by
  simp only [List.map_cons,List.flatten_cons,List.length_append,List.length_cons,Qgi l,hk,Nat.succ_mul]
  omega
theorem Qnz (h0:0 < k):∀ (l:List α) (j:Nat),j < l.length * k→(l.map enc).flatten[j]? = (enc (l.getD (j / k) default))[j % k]?
 | [],j,h=>by simp at h
 | e :: l,j,h=>by
  rw [List.map_cons,List.flatten_cons]
  by_cases h4:j < k
  ·rw [List.getElem?_append_left (by rw [hk]; exact h4),Nat.div_eq_of_lt h4,Nat.mod_eq_of_lt h4]
   rfl
  ·rw [List.getElem?_append_right (by rw [hk]; omega),hk,Qnz h0 l (j - k) (by simp only [List.length_cons,Nat.succ_mul] at h; omega)]
   have e1:j / k = (j - k) / k + 1:=Nat.div_eq_sub_div h0 (by omega)
   have e2:j % k = (j - k) % k:=Nat.mod_eq_sub_mod (by omega)
   rw [e1,e2]
   rfl
theorem Qny (h0:0 < k) (l:List α):flatK enc k l.toArray = (l.map enc).flatten.toArray:=by
 apply Array.ext_getElem?
 intro j
 conv=>rhs; rw [List.getElem?_toArray]
 have hsz:(flatK enc k l.toArray).size = l.length * k:=by simp
 have hfl:=Qgi enc hk l
 by_cases hj:j < l.length * k
 ·rw [Qnz enc hk h0 l j hj]
  have h1:=get_flatK enc k l.toArray j (by simpa using hj)
  have h2:(flatK enc k l.toArray)[j]? = some (flatK enc k l.toArray)[j]!:=by
   rw [getElem!_pos _ j (by rw [hsz]; exact hj)]
   exact Array.getElem?_eq_getElem (by rw [hsz]; exact hj)
  rw [h2,h1]
  have h3:l.toArray[j / k]! = l.getD (j / k) default:=by simp [List.getD_eq_getElem?_getD]
  rw [h3]
  have h4:j % k < (enc (l.getD (j / k) default)).length:=by rw [hk]; exact Nat.mod_lt _ h0
  rw [List.getElem?_eq_getElem h4,getElem!_pos (enc (l.getD (j / k) default)) (j % k) h4]
 ·rw [Array.getElem?_eq_none (by rw [hsz]; omega),List.getElem?_eq_none (by rw [hfl]; omega)]
end
section
variable {P:Program} {ρ:Nat→FuncId} {w:World} {k:Nat}
theorem Qqv {α:Type} [Inhabited α] (enc:α→List Value) (b n:Nat) (d:Array α) (os:Array Obj) (j:Nat) (hj:j < w.heap.size):(sortWorldK enc k w b 0 n d os).heap[j]? = (putRowK enc k w b 0 d).heap[j]?:=by
 show ((putRowK enc k (Sort.ahead w n) b 0 d).heap ++ os)[j]? = _
 have e1:(putRowK enc k (Sort.ahead w n) b 0 d).heap = (putRowK enc k w b 0 d).heap:=rfl
 rw [e1,Array.getElem?_append_left (by unfold putRowK; rw [_root_.Go.Sort.size_putRow]; exact hj)]
theorem Qqw {α:Type} [Inhabited α] (enc:α→List Value) (b n:Nat) (d:Array α) (os:Array Obj) (j:Nat) (hj:j < w.heap.size) (hne:j ≠ b):(sortWorldK enc k w b 0 n d os).heap[j]? = w.heap[j]?:=by
 rw [Qqv enc b n d os j hj]
 simp only [putRowK,putRow,mapBlock,Array.getElem?_modify]
 rw [if_neg (Ne.symm hne)]
theorem Qaft {R:Ren} (L:SlLaysF0.n20 P R) (aE:∀ w,(isAgg (R.t 24)).run P w = .ok true w) (zE:∀ w,(Go.sizeOf (R.t 24)).run P w = .ok k w) (h0:0 < k) {E1:Env} (hg:Good P ρ E1) {c:Nat} (hc:c / 100000 = 0) (hcok:callOK P (ρ c) = true)
  {κ:U→Int} {T:List Tok} (hne:T ≠ []) (hT:∀ t ∈ T,t.ok ρ w k) (hcmp:∀ x ∈ T,∀ y ∈ T,E1 c [x.u,y.u] = some (.int .i64 (κcmp κ x.u y.u))) (hagg:∀ t ∈ T,(D.val t.u).isAgg = true)
  {b cap:Nat} {cur:Array Value} {e:TypeId} (hb:w.heap[b]? = some (.cells cur e (0,0))) (hsz:cur.size = cap * k) (hle:T.length ≤ cap) (ht:cur.toList.take (T.length * k) = (T.map (·.c)).flatten)
  (hB:∀ t ∈ T,∀ x ∈ t.B,x < w.heap.size ∧ x ≠ b) (small:T.length < 20) :
  Calls P (R.f 20) #[.slice (some ⟨b,0,none⟩) T.length cap,.int .i64 0,.int .i64 T.length,.func (.func (ρ c)) #[] #[]] w fun en w'=>en = .returned (.tuple #[]) ∧
   ∃ T':List Tok,T'.Perm T ∧ T'.map (·.u) = stabU κ (T.map (·.u)) ∧ Behind (fun x=>x = b) w w' ∧ ∃ cur',w'.heap[b]? = some (.cells cur' e (0,0)) ∧ cur'.size = cap * k ∧ cur'.toList.take (T.length * k) = (T'.map (·.c)).flatten:=by
 cases hT0:T with
 | nil=>exact absurd hT0 hne
 | cons t0 _ =>
 have m0:t0 ∈ T:=by rw [hT0]; simp
 rw [← hT0]
 clear hT0
 letI:Inhabited {t:Tok // t ∈ T}:=⟨⟨t0,m0⟩⟩
 let enc:{t:Tok // t ∈ T}→List Value:=fun x=>x.1.c
 have hk:∀ x,(enc x).length = k:=fun x=>(hT x.1 x.2).2
 let d:Array {t:Tok // t ∈ T}:=T.attach.toArray
 have hd:d.size = T.length:=by simp [d]
 have hlt:b < w.heap.size:=by
  rcases Nat.lt_or_ge b w.heap.size with h | h
  ·exact h
  ·rw [Array.getElem?_eq_none h] at hb; cases hb
 have hfl:(T.attach.map enc).flatten = (T.map (·.c)).flatten:=by
  have:T.attach.map enc = T.map (·.c):=by
   conv=>rhs; rw [← List.attach_map_subtype_val T,List.map_map]
   rfl
  rw [this]
 have hH:HoldsK enc k w b 0 d:=fun j hj=>by
  have hj4:j < T.length * k:=by simpa [hd] using hj
  constructor
  ·have h2:cur[j]? = (T.attach.map enc).flatten[j]?:=by
    rw [hfl,← ht,List.getElem?_take,if_pos hj4]; simp
   have h3:(flatK enc k d)[j]? = some (flatK enc k d)[j]!:=by
    rw [getElem!_pos _ j hj]; exact Array.getElem?_eq_getElem hj
   have h4:flatK enc k d = (T.attach.map enc).flatten.toArray:=Qny enc hk h0 T.attach
   rw [h4,List.getElem?_toArray] at h3
   simp only [World.cell?,hb,Nat.zero_add,Option.isSome_none,Bool.false_eq_true,if_false,id]
   rw [h2,h3,h4]
  ·simp [World.frozen?,hb]
 have eg:∀ args w,(callFunc (ρ c) args).run P w = .ok (.enter (ρ c) args) w:=fun args w=>Qbb hcok args w
 have hcl:CmpLays P (ρ c) #[] enc k (fun x y=>κcmp κ x.1.u y.1.u) b 0 d.size w:=fun m os dk hs x y=>by
  obtain ⟨_,hV⟩:=hg c [x.1.u,y.1.u] _ (hcmp x.1 x.2 y.1 y.2)
  rw [hc] at hV
  have rd:∀ z:{t:Tok // t ∈ T},∀ β,VD ρ (sortWorldK enc k w b 0 m dk os) (fun q=>q < w.heap.size) β (.val z.1.u) (.agg (enc z).toArray):=fun z β=>by
   have:=((hT z.1 z.2).keep (w':=sortWorldK enc k w b 0 m dk os) fun q hq=>Qqw enc b m dk os q (hB z.1 z.2 q hq).1 (hB z.1 z.2 q hq).2).read (S:=fun q=>q < w.heap.size) fun q hq=>(hB z.1 z.2 q hq).1
   exact Qm ⟨_,this,by rw [if_pos (hagg z.1 z.2)]⟩
  refine (hV (sortWorldK enc k w b 0 m dk os) (fun q=>q < w.heap.size) [.agg (enc x).toArray,.agg (enc y).toArray] (fun q hq=>Nat.lt_of_lt_of_le hq (size_sortWorldK_c enc k w b 0 m dk os)) ⟨rd x,rd y,trivial⟩).mono fun en w' he=>?_
  obtain ⟨v,rfl,hbl,hv⟩:=he
  exact ⟨by rw [Qa5 (hv fun _=>⟨.dead,noHdr⟩)],Qse hbl⟩
 have key:=AnyQ.insertionSortCmpFunc L k aE zE enc hk (fun x v hv=>(hT x.1 x.2).1.oneCell v hv) (fun x y=>κcmp κ x.1.u y.1.u) (ρ c) #[] b 0 cap 0 T.length d w eg hcl hH hlt (Nat.zero_le _) (by omega) (by omega)
 rw [hd] at key
 refine key.mono fun en w' he=>?_
 obtain ⟨rfl,n,os,rfl⟩:=he
 have hO:SWO (ltOf fun x y:{t:Tok // t ∈ T}=>κcmp κ x.1.u y.1.u):=by
  have e:∀ x y:{t:Tok // t ∈ T},ltOf (fun x y:{t:Tok // t ∈ T}=>κcmp κ x.1.u y.1.u) x y = decide (κ x.1.u < κ y.1.u):=fun x y=>κcmp_neg κ x.1.u y.1.u
  refine ⟨fun x=>?_,fun x y z h1 h2=>?_,fun x y z h1 h2=>?_⟩ <;> simp only [e,decide_eq_true_eq,decide_eq_false_iff_not] at * <;> omega
 obtain ⟨⟨p1,_,p3⟩,_⟩:=insertionSort_holds hO d 0 T.length (Nat.zero_le _) (by omega)
 have hmap:=Qoq (ltOf fun x y:{t:Tok // t ∈ T}=>κcmp κ x.1.u y.1.u) (fun x y=>decide (κ x < κ y)) (fun x=>x.1.u) (fun x y=>κcmp_neg κ x.1.u y.1.u) d 0 T.length (by omega)
 generalize insertionSort (ltOf fun x y:{t:Tok // t ∈ T}=>κcmp κ x.1.u y.1.u) d 0 T.length = d' at *
 have hd':d'.size = T.length:=by rw [p1,hd]
 have ed:d.extract 0 T.length = d:=by rw [← hd]; simp
 have ed':d'.extract 0 T.length = d':=by rw [← hd']; simp
 rw [ed,ed'] at p3
 have hp:(d'.toList.map (·.1)).Perm T:=by
  have:=p3.map (·.1)
  rwa [show d.toList.map (·.1) = T from by simp [d]] at this
 have hput:(putCells id 0 (flatK enc k d') cur).toList.take (T.length * k) = ((d'.toList.map (·.1)).map (·.c)).flatten:=by
  have h4:flatK enc k d' = (d'.toList.map enc).flatten.toArray:=Qny enc hk h0 d'.toList
  have hfl:=Qgi enc hk d'.toList
  have hl:d'.toList.length = T.length:=by simp [hd']
  rw [hl] at hfl
  rw [h4,List.map_map]
  show _ = (d'.toList.map enc).flatten
  apply List.ext_getElem?
  intro j
  have hcs:T.length * k ≤ cur.size:=by rw [hsz]; exact Nat.mul_le_mul_right _ hle
  by_cases hj:j < T.length * k
  ·rw [List.getElem?_take,if_pos hj]
   have hjc:j < cur.size:=by omega
   have hjf:j < (d'.toList.map enc).flatten.toArray.size:=by rw [List.size_toArray,hfl]; exact hj
   have hcond:0 ≤ j ∧ j < 0 + (d'.toList.map enc).flatten.toArray.size:=⟨Nat.zero_le _,by omega⟩
   simp only [putCells,Array.getElem?_toList,Array.getElem?_mapIdx,Array.getElem?_eq_getElem hjc,Option.map_some,if_pos hcond,id,Nat.sub_zero]
   rw [getElem!_pos _ j hjf,List.getElem?_eq_getElem (by rw [hfl]; exact hj)]
   simp
  ·rw [List.getElem?_take,if_neg hj,List.getElem?_eq_none (by rw [hfl]; omega)]
 refine ⟨rfl,d'.toList.map (·.1),hp,?_,⟨⟨rfl,rfl,rfl,?_,fun j hj hjb=>Qqw enc b n d' os j hj hjb⟩,?_⟩,putCells id 0 (flatK enc k d') cur,?_,by simp [putCells,hsz],hput⟩
 ·unfold stabU
  have e1:(d.map fun x=>x.1.u) = (T.map (·.u)).toArray:=by
   simp only [d,List.map_toArray]
   congr 1
   conv=>rhs; rw [← List.attach_map_subtype_val T,List.map_map]
   rfl
  rw [e1] at hmap
  rw [List.length_map,← hmap,Array.toList_map,List.map_map]
  rfl
 ·show _ ≤ ((putRowK enc k (Sort.ahead w n) b 0 d').heap ++ os).size
  rw [Array.size_append]
  have:(putRowK enc k (Sort.ahead w n) b 0 d').heap.size = w.heap.size:=by unfold putRowK; rw [_root_.Go.Sort.size_putRow]; rfl
  omega
 ·show w.drawn ≤ w.drawn + n
  omega
 ·rw [Qqv enc b n d' os b hlt]
  exact Qabn _ hb
structure StabP (P:Program) (R:Ren) (f:FuncId):Prop where
 lay:SlLaysF0.n20 P R
 walk:∀ (a:Option Addr) (n cap:Nat) (fv:Value) (w:World) (Q:World→Prop),n < 20→Calls P (R.f 20) #[.slice a n cap,.int .i64 0,.int .i64 n,fv] w (fun e w'=>e = .returned (.tuple #[]) ∧ Q w')→Calls P f #[.slice a n cap,fv] w (fun e w'=>e = .returned (.tuple #[]) ∧ Q w')
theorem Qada {α:Type} {l l':List (List α)} (h:l.Perm l'):l.flatten.Perm l'.flatten:=by
 induction h with
 | nil=>exact .refl _
 | cons x _ ih=>simp only [List.flatten_cons]; exact (List.Perm.refl x).append ih
 | swap x y l=>simp only [List.flatten_cons,← List.append_assoc]; exact List.perm_append_comm.append (.refl _)
 | trans _ _ h1 h2=>exact h1.trans h2
theorem Qabl {R:Ren} {q:Nat} (L:StabP P R (ρ q)) (aE:∀ w,(isAgg (R.t 24)).run P w = .ok true w) (zE:∀ w,(Go.sizeOf (R.t 24)).run P w = .ok k w) (h0:0 < k) {E1:Env} (hg:Good P ρ E1) {c:Nat} (hc:c / 100000 = 0) (hcok:callOK P (ρ c) = true) (hq:q / 100000 = 2) (hok:callOK P (ρ q) = true)
  {κ:U→Int} {xs:List U} (hcmp:∀ x ∈ xs,∀ y ∈ xs,E1 c [x,y] = some (.int .i64 (κcmp κ x y))) (hagg:∀ x ∈ xs,(D.val x).isAgg = true) (small:xs.length < 20) :
  GoodAt P ρ q [.agg [.tup [.sl k xs]],.fn c []] (.tup [.tup [],.sl k (stabU κ xs)]):=by
 refine ⟨hok,Qds.2 ⟨fun h1=>by omega,fun h1=>by omega,fun _=>?_,fun h1=>by omega,fun h1=>by omega,fun h1=>by omega⟩⟩
 refine ⟨k,xs,[.fn c []],.tup [],stabU κ xs,rfl,rfl,fun w S v0 vs h Bs hS hB hn hown hargs=>?_⟩
 match vs,hargs with
 | [fv],hargs =>
  obtain ⟨caps,e1,h1,_⟩:=VD_fn (hargs.1 fun _=>⟨.dead,noHdr⟩)
  cases h1
  subst e1
  have none_:xs = []→∀ a cap,v0 = .slice a 0 cap→Calls P (ρ q) [v0,.func (.func (ρ c)) #[] #[]].toArray w fun e w'=>∃ v h' Bs',e = .returned v ∧ (∀ S β,VD ρ w' S β (.val (.tup [])) v) ∧ Behind (fun b=>b ∈ Bs) w w' ∧ Bs'.Nodup ∧ (∀ b ∈ Bs',b ∈ Bs ∨ (w.heap.size ≤ b ∧ b < w'.heap.size)) ∧ Own ρ w' (.sl k (stabU κ xs)) h' [v0] Bs':=fun hl0 a cap hv=>by
   subst hl0
   subst hv
   refine (L.walk a 0 cap (.func (.func (ρ c)) #[] #[]) w (fun w'=>w' = w) (by omega) (AnyF.insertionSortCmpFunc_none L.lay a cap _ w)).mono fun e w' he=>?_
   obtain ⟨rfl,rfl⟩:=he
   refine ⟨_,h,Bs,rfl,fun _ _=>⟨[],rfl,rfl⟩,Behind.refl _ _,hn,fun b hb=>.inl hb,?_⟩
   have e0:stabU κ [] = []:=by unfold stabU insertionSort; rw [insOuter,if_neg (by simp)]
   rw [e0]; exact hown
  rcases Qac5 hown with ⟨hl0,a,hv⟩ | ⟨b,cap,cur,e,cs,B1,hv,hb,hsz,hle,hmax,hks,ht,g1,hBs⟩
  ·exact none_ hl0 a 0 hv
  ·by_cases hl0:xs = []
   ·exact none_ hl0 _ _ (by rw [hv,hl0]; rfl)
   obtain ⟨T,rfl,rfl,rfl,hT⟩:=Qrq xs h 0 cs B1 g1 hks
   have hlen:(T.map (·.u)).length = T.length:=List.length_map ..
   rw [hlen] at hle ht hv small
   have hne:T ≠ []:=fun h=>hl0 (by rw [h]; rfl)
   have hBt:∀ t ∈ T,∀ x ∈ t.B,x < w.heap.size ∧ x ≠ b:=fun t ht x hx=>by
    have m:x ∈ (T.map (·.B)).flatten:=List.mem_flatten.2 ⟨t.B,List.mem_map.2 ⟨t,ht,rfl⟩,hx⟩
    refine ⟨hB x (by rw [hBs]; exact List.mem_cons_of_mem _ m),fun e=>?_⟩
    rw [hBs] at hn
    exact (List.nodup_cons.1 hn).1 (e ▸ m)
   have key:=Qaft L.lay aE zE h0 hg hc hcok (κ:=κ) hne hT (fun x hx y hy=>hcmp x.u (List.mem_map.2 ⟨x,hx,rfl⟩) y.u (List.mem_map.2 ⟨y,hy,rfl⟩)) (fun t ht=>hagg t.u (List.mem_map.2 ⟨t,ht,rfl⟩)) hb hsz hle ht hBt small
   subst hv
   refine (L.walk _ _ _ _ w _ small key).mono fun en w' he=>?_
   obtain ⟨rfl,T',hp,hu,hbe,cur',hb',hsz',ht'⟩:=he
   have hl':T'.length = T.length:=hp.length_eq
   have hT':∀ t ∈ T',t.ok ρ w' k:=fun t ht=>(hT t (hp.mem_iff.1 ht)).keep fun x hx=>hbe.block x (hBt t (hp.mem_iff.1 ht) x hx).1 (hBt t (hp.mem_iff.1 ht) x hx).2
   have own':=Qac4 hT' hb' hsz' (by rw [hl']; exact hle) hmax (by rw [hl']; exact ht')
   rw [hu,hl'] at own'
   have hpB:(b :: (T'.map (·.B)).flatten).Perm Bs:=by rw [hBs]; exact (Qada (hp.map _)).cons b
   refine ⟨_,_,_,rfl,fun _ _=>⟨[],rfl,rfl⟩,hbe.mono fun x hx=>by rw [hBs,hx]; simp,hpB.nodup_iff.2 hn,fun x hx=>.inl (hpB.mem_iff.1 hx),own'⟩
end
def key1:U→Int
 | .agg (_ :: .int .i64 s :: _)=>s
 | _=>0
def isEnt:U→Bool
 | .agg [.int .i64 _,.int .i64 _,.sl 2 _,.sl 2 _]=>true
 | _=>false
theorem Qab0 (x:U) (h:isEnt x = true):(D.val x).isAgg = true:=by
 unfold isEnt at h
 split at h
 ·rfl
 ·cases h
def stabE (q c k:Nat) (κ:U→Int) (ok:U→Bool) (E0:Env):Env:=fun r us =>
 if r = q then (match us with
  | [.agg [.tup [.sl k' xs]],.fn c' []]=>if k' = k ∧ c' = c ∧ xs.length < 20 ∧ xs.all ok = true then some (.tup [.tup [],.sl k (stabU κ xs)]) else none
  | _=>none) else E0 r us
theorem Qabm {P:Program} {ρ:Nat→FuncId} {R:Ren} {q k:Nat} (L:StabP P R (ρ q)) (aE:∀ w,(isAgg (R.t 24)).run P w = .ok true w) (zE:∀ w,(Go.sizeOf (R.t 24)).run P w = .ok k w) (h0:0 < k) {E1 E0:Env} (hg:Good P ρ E1) (hE:Good P ρ E0) {c:Nat} (hc:c / 100000 = 0) (hcok:callOK P (ρ c) = true) (hq:q / 100000 = 2) (hok:callOK P (ρ q) = true)
  {κ:U→Int} {ok:U→Bool} (hcmp:∀ x y,ok x = true→ok y = true→E1 c [x,y] = some (.int .i64 (κcmp κ x y))) (hagg:∀ x,ok x = true→(D.val x).isAgg = true):Good P ρ (stabE q c k κ ok E0):=fun r us u h=>by
 unfold stabE at h
 split at h
 ·rename_i hr
  subst hr
  split at h
  ·split at h
   ·rename_i hx
    obtain ⟨rfl,rfl,hs,ha⟩:=hx
    cases h
    have ha':=List.all_eq_true.1 ha
    exact Qabl L aE zE h0 hg hc hcok hq hok (fun x hx y hy=>hcmp x y (ha' x hx) (ha' y hy)) (fun x hx=>hagg x (ha' x hx)) hs
   ·cases h
  ·cases h
 ·exact hE r us u h
structure IsStab (E:Env) (q c k:Nat) (κ:U→Int) (ok:U→Bool):Prop where
 ex:∀ xs:List U,xs.length < 20→xs.all ok = true→E (200000 + q) (.agg [.tup [.sl k xs]] :: [.fn c []]) = some (.tup [.tup [],.sl k (stabU κ xs)])
theorem Qab2 {q c k:Nat} {κ:U→Int} {ok:U→Bool} {E0:Env} {tbl:Nat→Option Fn} (h1:tbl (200000 + q) = none):IsStab (EnvW (stabE (200000 + q) c k κ ok E0) tbl) q c k κ ok:=by
 refine ⟨fun xs hs ha=>?_⟩
 rw [Qf5 h1]
 unfold stabE
 rw [if_pos rfl]
 simp only
 rw [if_pos ⟨by trivial,by trivial,hs,ha⟩]
theorem Qot {r c k':Nat} {κ:U→Int} {ok:U→Bool} {l:List (Nat × Nat × Nat × AC)} {tbl:Nat→Option Fn} {q k b:Nat} {ac:AC} (hr:200000 ≤ r) (hq:q < 100000) (h1:tbl q = none) (h2:tbl (100000 + q) = none) (hl:l.lookup q = some (k,b,ac)):IsClone (EnvW (stabE r c k' κ ok (cloneE l)) tbl) q k b:=by
 have e1:q / 100000 = 0:=Nat.div_eq_of_lt hq
 have e2:q % 100000 = q:=Nat.mod_eq_of_lt hq
 have e3:(100000 + q) / 100000 = 1:=by omega
 have e4:(100000 + q) % 100000 = q:=by omega
 have n1:q ≠ r:=by omega
 have n2:100000 + q ≠ r:=by omega
 refine ⟨fun us=>?_,fun us=>?_⟩
 ·rw [Qf5 h1]
  simp [stabE,n1,cloneE,e1,e2,hl]
 ·rw [Qf5 h2]
  simp [stabE,n2,cloneE,e3,e4,hl]
end Go.Proofs.YtlgblpngiamhaaaGreat.Am
