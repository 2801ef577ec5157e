import Derived.Test.YtboenehajoaahaaAmDa
namespace Go.Proofs.Ytboenehajoaahaa.Am
open Go
inductive Opd where
  | t (n : Nat)
  | c (u : U)
  deriving Inhabited
def Opd.ev (fr : Frm) : Opd → D
  | .t n => fr n
  | .c u => .val u
inductive Shp where
  | flat (agg : Bool) (size : Nat)
  | int
  | bool
  | sl (k : Nat)
  | agg (ss : List Shp)
  deriving Inhabited
inductive AOp where
  | mv (x : Opd)
  | pick (c a b : Opd)
  | box (fz : Bool) (nm : Nat) (x : Opd)
  | boxS (nm : Nat) (x : Opd)
  | boxN (n nm : Nat) (x : Opd)
  | alloc (nm : Nat) (z : U)
  | build (z : List U) (parts : List (Nat × Opd))
  | buildL (z : List U) (parts : List (Nat × Opd))
  | bslice (mode nm : Nat) (k n : Nat) (z : U) (parts : List (Nat × Opd))
  | load (agg : Bool) (size : Nat) (a : Opd)
  | loadO (sh : Shp) (a : Opd)
  | loadN (n size : Nat) (a : Opd)
  | store (size : Nat) (a x : Opd)
  | storeM (nm size : Nat) (a x : Opd)
  | storeE (size : Nat) (a x : Opd)
  | storeS (size : Nat) (a x : Opd) (ps : List Opd)
  | storeN (nm size : Nat) (a x : Opd)
  | nilck (x : Opd)
  | bin (op : BinOp) (x y : Opd)
  | eqv (neg : Bool) (cls : Nat) (x y : Opd)
  | eqnil (neg : Bool) (x : Opd)
  | un (op : UnOp) (x : Opd)
  | conv (k : IntKind) (x : Opd)
  | mkfn (r : Nat) (caps : List Opd)
  | mkslice (nm : Nat) (k bytes : Nat) (z : U) (len cap : Opd)
  | slice (str : Bool) (k : Nat) (x : Opd) (lo hi : Option Opd)
  | slice0 (nm k : Nat) (x : Opd)
  | faddr (j off : Nat) (x : Opd)
  | iaddr (k : Nat) (x i : Opd)
  | aaddr (n k : Nat) (x i : Opd)
  | field (agg : Bool) (size j off : Nat) (x : Opd)
  | idxs (x i : Opd)
  | idxa (agg : Bool) (size n k : Nat) (x i : Opd)
  | extract (j : Nat) (x : Opd)
  | call (fl : Bool) (r : Nat) (args : List Opd)
  | callv (fl : Bool) (f : Opd) (args : List Opd)
  | callF (nm : Nat) (tup : Bool) (ss : List Shp) (r : Nat) (args : List Opd)
  | callM (k r : Nat) (x : Opd) (args : List Opd)
  | callC (nm k r : Nat) (x : Opd) (args : List Opd)
  | callI (nm k r : Nat) (x i y : Opd)
  | callP (sh : Shp) (r : Nat) (x : Opd) (args : List Opd)
  | callL (sh : Shp) (r : Nat) (f : Opd) (args : List Opd)
  | clear (k : Nat) (z : U) (x : Opd)
  | sliceO (nm k : Nat) (x hi : Opd)
  | allocJ (nm : Nat)
  | len (str : Bool) (x : Opd)
  | append (mv : Bool) (nm : Nat) (k bytes : Nat) (s x : Opd)
  | copy (d x : Opd)
  | minmax (mx : Bool) (xs : List Opd)
  | bad
  deriving Inhabited
structure AOper where
  dst : Option Nat
  op : AOp
  guard : Option (Nat × Bool) := none
  deriving Inhabited
structure Live where
  ss : List Nat
  as : List (Nat × Nat × Bool)
  rs : List (Nat × Bool)
  deriving Inhabited
structure Inl where
  dst : Option Nat
  off : Nat
  N : Nat
  fn : Nat
  args : List Opd
  rs : List Nat
  deriving Inhabited
inductive AC where
  | skip
  | region (k : Nat) (ops : List AOper)
  | regI (k : Nat) (ops : List AOper) (c : Inl) (body more : AC)
  | regN (k : Nat) (N : List Nat) (prs : List (Nat × Nat)) (ps : List Opd) (ops : List AOper)
  | regC (k : Nat) (T : List Nat) (ops : List AOper)
  | regD (k : Nat) (T : List Nat) (prs : List (Nat × Nat)) (slots names : List Nat) (ops : List AOper)
  | seq (a b : AC)
  | cond (c : Opd) (thn els : AC)
  | block (id : Nat) (body : AC)
  | loop (l : Live) (body : AC)
  | loopU (n : Nat) (body : AC)
  | exit (id : Nat)
  | ret
  deriving Inhabited
def U.bin : BinOp → U → U → Option U
  | .shr, .int k a, .int _ b => if b < 0 then none else some (.int k (a.fdiv (2 ^ (min b.toNat k.bits))))
  | op, .int k a, .int k' b => if k = k' then
      match op with
      | .add => some (.int k (k.wrap (a + b)))
      | .sub => some (.int k (k.wrap (a - b)))
      | .mul => some (.int k (k.wrap (a * b)))
      | .quo => if b = 0 then none else some (.int k (k.wrap (a.tdiv b)))
      | .rem => if b = 0 then none else some (.int k (a.tmod b))
      | .eql => some (.bool (a == b))
      | .neq => some (.bool (a != b))
      | .lss => some (.bool (decide (a < b)))
      | .leq => some (.bool (decide (a ≤ b)))
      | .gtr => some (.bool (decide (a > b)))
      | .geq => some (.bool (decide (a ≥ b)))
      | .and => some (.int k (k.wrap (BitVec.ofInt k.bits a &&& BitVec.ofInt k.bits b).toNat))
      | .xor => some (.int k (k.wrap (BitVec.ofInt k.bits a ^^^ BitVec.ofInt k.bits b).toNat))
      | _ => none
    else none
  | .add, .str a, .str b => if a.size + b.size ≤ 140737488355328 then some (.str (a ++ b)) else none
  | .eql, .str a, .str b => some (.bool (a.toList == b.toList))
  | .neq, .str a, .str b => some (.bool !(a.toList == b.toList))
  | _, _, _ => none
def eqInts : List U → List U → Option Bool
  | [], [] => some true
  | .int .i64 a :: us, .int .i64 b :: vs => (eqInts us vs).map fun r => (a == b) && r
  | _, _ => none
def U.eqv : Nat → U → U → Option Bool
  | 0, .bool a, .bool b => some (a == b)
  | 1, .nil, .nil => some true
  | 1, .vp _, .nil => some false
  | n + 2, .agg us, .agg vs => if us.length = n then eqInts us vs else none
  | _, _, _ => none
def U.isNil : U → Option Bool
  | .nsl _ => some true
  | .sl _ (_ :: _) => some false
  | _ => none
def U.un : UnOp → U → Option U
  | .not, .bool b => some (.bool !b)
  | .neg, .int k n => some (.int k (k.wrap (0 - n)))
  | _, _ => none
def U.conv (k : IntKind) : U → Option U
  | .int _ n => some (.int k (k.wrap n))
  | _ => none
def U.asInt {α : Type} (u : U) (K : Int → Option α) : Option α := match u with
  | .int .i64 n => K n
  | _ => none
def U.elemAt {α : Type} (k : Nat) (u : U) (i : Int) (K : U → Option α) : Option α := match u with
  | .sl k' us => if k' = k then (if 0 ≤ i then (us[i.toNat]?).bind K else none) else none
  | _ => none
def U.fieldAt {α : Type} (j off : Nat) (u : U) (K : U → Option α) : Option α := match u with
  | .agg us => if off = sizes (us.take j) then (us[j]?).bind K else none
  | _ => none
def U.charAt {α : Type} (u : U) (i : Int) (K : U → Option α) : Option α := match u with
  | .str s => if 0 ≤ i then (s[i.toNat]?).bind fun b => K (.int .u8 b.toNat) else none
  | _ => none
def U.part {α : Type} (j : Nat) (u : U) (K : U → Option α) : Option α := match u with
  | .tup us => (us[j]?).bind K
  | _ => none
def U.lenOf : Bool → U → Option Nat
  | false, .sl _ us => some us.length
  | false, .nsl _ => some 0
  | true, .str s => some s.size
  | _, _ => none
def U.cut (str : Bool) (k : Nat) (u : U) (lo hi : Option Int) : Option U := match str, u with
  | false, .sl k' us =>
    let h := hi.getD us.length
    let l := lo.getD 0
    if k' = k ∧ 0 ≤ l ∧ l ≤ h ∧ h ≤ us.length then some (.sl k ((us.take h.toNat).drop l.toNat)) else none
  | true, .str s =>
    let h := hi.getD s.size
    let l := lo.getD 0
    if 0 ≤ l ∧ l ≤ h ∧ h ≤ s.size then some (.str (s.extract l.toNat h.toNat)) else none
  | _, _ => none
def U.elems (k : Nat) : U → Option (List U)
  | .sl k' us => if k' = k then some us else none
  | .nsl k' => if k' = k then some [] else none
  | _ => none
def U.asBool {α : Type} (u : U) (T F : Option α) : Option α := match u with
  | .bool true => T
  | .bool false => F
  | _ => none
def U.asVp {α : Type} (u : U) (K : U → Option α) : Option α := match u with
  | .vp u => K u
  | _ => none
def U.asFn {α : Type} (u : U) (K : Nat → List U → Option α) : Option α := match u with
  | .fn r us => if r < 100000 then K r us else none
  | _ => none
def U.asNsl {α : Type} (u : U) (K : Nat → Option α) : Option α := match u with
  | .nsl k => K k
  | _ => none
def U.asMut {α : Type} (k : Nat) (u : U) (K : U → List U → Option α) : Option α := match u with
  | .tup [x, .sl k' ys] => if k' = k then K x ys else none
  | _ => none
def U.asPtr {α : Type} (u : U) (K : U → U → Option α) : Option α := match u with
  | .tup [y, c] => K y c
  | _ => none
def U.asTup {α : Type} (u : U) (K : List U → Option α) : Option α := match u with
  | .tup us => K us
  | _ => none
def U.noTup {α : Type} (u : U) (K : U → Option α) : Option α := match u with
  | .tup _ => none
  | u => K u
def U.asVar {α : Type} (agg : Bool) (size : Nat) (u : U) (K : U → Option α) : Option α :=
  if (D.val u).isAgg = agg ∧ u.size = size then K u else none
def Cn.data {α : Type} (c : Cn) (K : D → Option α) : Option α := match c with
  | .box d => K d
  | .vir d => K d
  | .held _ => none
def Cn.with (c : Cn) (d : D) : Cn := match c with
  | .box _ => .box d
  | .vir _ => .vir d
  | .held t => .held t
def Hp.at {α : Type} (Γ : Hp) (R : Nat) (p : List Step) (K : D → Option α) : Option α := match Γ R with
  | some c => c.data fun d => getDK K d p
  | none => none
def Hp.setAt {α : Type} (Γ : Hp) (n : Nat) (x : D) (R : Nat) (p : List Step) (K : Hp → Option α) : Option α := match Γ R with
  | some c => c.data fun d => setDK n x (fun d' => K (upd Γ R (some (c.with d')))) d p
  | none => none
def D.isSl {α : Type} (k : Nat) (d : D) (K : Option α) : Option α := match d with
  | .own u => u.asSlK k fun _ => K
  | .asl k' _ => if k' = k then K else none
  | .osl k' _ => if k' = k then K else none
  | _ => none
def D.slLen {α : Type} (k : Nat) (d : D) (K : Nat → Option α) : Option α := match d with
  | .own u => u.asSlK k fun us => K us.length
  | .asl k' us => if k' = k then K us.length else none
  | .osl k' ds => if k' = k then K ds.length else none
  | _ => none
def snap (Γ : Hp) : Nat → D → Option U
  | _, .val u => some u
  | _, .own u => some u
  | _, .asl k us => some (.sl k us)
  | 0, _ => none
  | n + 1, .agg ds => (snaps (snap Γ n) ds).map .agg
  | n + 1, .osl k ds => (snaps (snap Γ n) ds).map (.sl k)
  | n + 1, .ref R p k none => Γ.at R p fun d => d.isSl k (snap Γ n d)
  | n + 1, .ref R p k (some (off, len)) => Γ.at R p fun d => d.isSl k ((snap Γ n d).bind fun u => match u with
    | .sl k us => if off + len ≤ us.length then some (.sl k ((us.drop off).take len)) else none
    | _ => none)
  | n + 1, .ptr R p => Γ.at R p fun d => (snap Γ n d).map .vp
  | n + 1, .fnv r caps => (snaps (snap Γ n) caps).map (.fn r)
  | _ + 1, _ => none
where snaps (f : D → Option U) : List D → Option (List U)
  | [] => some []
  | d :: ds => (f d).bind fun u => (snaps f ds).map (u :: ·)
abbrev snaps := snap.snaps
def D.toOwn {α : Type} : D → (U → Option α) → Option α
  | .own u, K => K u
  | .val u, K => u.asFlat K
  | .asl k us, K => if U.flat.flats us = true then K (.sl k us) else none
  | .agg ds, K => toOwns ds fun us => K (.agg us)
  | .osl k ds, K => toOwns ds fun us => K (.sl k us)
  | _, _ => none
where toOwns : List D → (List U → Option α) → Option α
  | [], K => K []
  | d :: ds, K => d.toOwn fun u => toOwns ds fun us => K (u :: us)
def D.take {α : Type} : D → Hp → (D → Hp → Option α) → Option α
  | .val u, Γ, K => u.noTup fun u => K (.val u) Γ
  | .ref R p k none, Γ, K => Γ.at R p fun d => d.isSl k (match p, Γ R with
    | [], some (.vir _) => K d (upd Γ R none)
    | _, _ => Γ.setAt 1 (.junk 1) R p fun Γ' => K d Γ')
  | .ptr R p, Γ, K => K (.ptr R p) Γ
  | .fnv r caps, Γ, K => K (.fnv r caps) Γ
  | .agg ds, Γ, K => takes ds Γ fun ds' Γ' => K (.agg ds') Γ'
  | _, _, _ => none
where takes : List D → Hp → (List D → Hp → Option α) → Option α
  | [], Γ, K => K [] Γ
  | d :: ds, Γ, K => d.take Γ fun d' Γ' => takes ds Γ' fun ds' Γ'' => K (d' :: ds') Γ''
def Shp.size : Shp → Nat
  | .flat _ n => n
  | .int | .bool => 1
  | .sl _ => 1
  | .agg ss => sizes ss
where sizes : List Shp → Nat
  | [] => 0
  | s :: ss => s.size + sizes ss
def Shp.isAgg : Shp → Bool
  | .flat a _ => a
  | .int | .bool => false
  | .sl _ => false
  | .agg _ => true
def U.asB {α : Type} (u : U) (K : Bool → Option α) : Option α := match u with
  | .bool b => K b
  | _ => none
def Shp.view {α : Type} : Shp → Nat → List Step → U → (D → D → Option α) → Option α
  | .flat ag sz, _, _, u, K => u.asVar ag sz fun u => u.asFlat fun u => K (.val u) (.val u)
  | .int, _, _, u, K => u.asInt fun n => K (.val (.int .i64 n)) (.val (.int .i64 n))
  | .bool, _, _, u, K => u.asB fun b => K (.val (.bool b)) (.val (.bool b))
  | .sl k, R, p, u, K => u.asSlK k fun us => K (.own (.sl k us)) (.ref R p k none)
  | .agg ss, R, p, u, K => u.asAgg fun us => views ss R p 0 0 us fun cs ds => K (.agg cs) (.agg ds)
where views : List Shp → Nat → List Step → Nat → Nat → List U → (List D → List D → Option α) → Option α
  | [], _, _, _, _, us, K => match us with
    | [] => K [] []
    | _ => none
  | s :: ss, R, p, j, off, us, K => match us with
    | u :: us => s.view R (p ++ [.fld j off]) u fun c d => views ss R p (j + 1) (off + s.size) us fun cs ds => K (c :: cs) (d :: ds)
    | [] => none
def Shp.look {α : Type} : Shp → Nat → List Step → D → (D → Option α) → Option α
  | .flat ag sz, _, _, d, K => match d with
    | .val u => u.asVar ag sz fun u => K (.val u)
    | .own u => u.asVar ag sz fun u => u.asFlat fun u => K (.val u)
    | .ptr R p => if ag = false ∧ sz = 1 then K (.ptr R p) else none
    | .fnv r caps => if ag = false ∧ sz = 1 then K (.fnv r caps) else none
    | _ => none
  | .int, _, _, d, K => match d with
    | .val u => u.asInt fun n => K (.val (.int .i64 n))
    | .own u => u.asInt fun n => K (.val (.int .i64 n))
    | _ => none
  | .bool, _, _, d, K => match d with
    | .val u => u.asB fun b => K (.val (.bool b))
    | .own u => u.asB fun b => K (.val (.bool b))
    | _ => none
  | .sl k, R, p, d, K => match d with
    | .val u => u.asVar false 1 fun u => K (.val u)
    | .ref R' p' k' part => if k' = k then K (.ref R' p' k' part) else none
    | d => d.isSl k (K (.ref R p k none))
  | .agg ss, R, p, d, K => match d with
    | .val u => u.asVar true (Shp.size.sizes ss) fun u => K (.val u)
    | .own u => (Shp.agg ss).view R p u fun _ d => K d
    | .agg ds => looks ss R p 0 0 ds fun ds => K (.agg ds)
    | _ => none
where looks : List Shp → Nat → List Step → Nat → Nat → List D → (List D → Option α) → Option α
  | [], _, _, _, _, ds, K => match ds with
    | [] => K []
    | _ => none
  | s :: ss, R, p, j, off, ds, K => match ds with
    | d :: ds => s.look R (p ++ [.fld j off]) d fun d' => looks ss R p (j + 1) (off + s.size) ds fun ds' => K (d' :: ds')
    | [] => none
def srcElems1 {α : Type} (Γ : Hp) (k : Nat) (d : D) (K : List U → Option α) : Option α := match d with
  | .val u => (u.elems k).bind K
  | .ref R p k' part => Γ.at R p fun d => (match d with
    | .asl k2 us => if k' = k ∧ k2 = k then (match part with
      | none => K us
      | some (off, len) => if off + len ≤ us.length then K ((us.drop off).take len) else none) else none
    | .own u => u.asSlK k fun us => if k' = k ∧ U.flat.flats us = true then (match part with
      | none => K us
      | some (off, len) => if off + len ≤ us.length then K ((us.drop off).take len) else none) else none
    | _ => none)
  | _ => none
def srcElems {α : Type} (Γ : Hp) (k : Nat) (d : D) (K : List U → Option α) : Option α := match d with
  | .ref R [] k' none => (match Γ R with
    | some (.held _) => if k' = k then K [] else none
    | _ => srcElems1 Γ k (.ref R [] k' none) K)
  | d => srcElems1 Γ k d K
def sharable : D → Bool
  | .val _ | .ref _ _ _ _ | .ptr _ _ | .fnv _ _ => true
  | .agg ds => sharables ds
  | _ => false
where sharables : List D → Bool
  | [] => true
  | d :: ds => sharable d && sharables ds
def storable : D → Bool
  | .val (.tup _) => false
  | .val _ | .ref _ _ _ _ | .ptr _ _ | .fnv _ _ => true
  | .agg ds => sharable.sharables ds
  | _ => false
def spellN {α : Type} : Nat → List U → (List U → Option α) → Option α
  | 0, us, K => match us with
    | [] => K []
    | _ => none
  | n + 1, us, K => match us with
    | u :: us => spellN n us fun us => K (u :: us)
    | [] => none
def U.spell {α : Type} (n size : Nat) (u : U) (K : U → Option α) : Option α := u.asVar true size fun u => u.asAgg fun us => spellN n us fun us => K (.agg us)
def apart (R : Nat) : List D → Bool
  | [] => true
  | .ptr R' _ :: ds => (R' != R) && apart R ds
  | .val _ :: ds => apart R ds
  | _ => false
def topShare : D → Bool
  | .val _ => false
  | d => sharable d
def partable : D → Bool
  | .val (.tup _) | .tup _ | .skip | .undef => false
  | _ => true
def capsOK : List D → Bool
  | [] => true
  | .ptr _ _ :: ds => capsOK ds
  | .val (.vp _) :: ds => capsOK ds
  | _ => false
inductive Eff where
  | v (d : D)
  | vnew (u : U)
  | cl (fl : Bool) (u : U)
  | st (ms : List Tag) (d : D) (Γ : Hp)
def allVals : List D → Option (List U)
  | [] => some []
  | .val u :: ds => (allVals ds).map (u :: ·)
  | _ :: _ => none
def D.plain : D → D
  | .fnv r caps => match allVals caps with
    | some us => .val (.fn r us)
    | none => .fnv r caps
  | d => d
def spellS {α : Type} : List Shp → List U → (List U → Option α) → Option α
  | [], us, K => match us with
    | [] => K []
    | _ => none
  | .int :: ss, us, K => match us with
    | u :: us => u.asInt fun n => spellS ss us fun us => K (.int .i64 n :: us)
    | [] => none
  | .sl k :: ss, us, K => match us with
    | u :: us => u.asSlK k fun xs => spellS ss us fun us => K (.sl k xs :: us)
    | [] => none
  | _ :: _, _, _ => none
def U.asP {α : Type} (sh : Shp) (u : U) (K : U → Option α) : Option α := match sh with
  | .sl k => u.asSlK k fun us => K (.sl k us)
  | .agg [.agg ss] => u.asAgg fun us => spellS ss us fun us => K (.agg us)
  | .agg ss => u.asVp fun u => u.asAgg fun us => spellS ss us fun us => K (.vp (.agg us))
  | _ => none
def D.pcode : D → Option U
  | .val u => some (.vp u)
  | .agg ds => match allVals ds with
    | some us => some (.vp (.agg us))
    | none => D.toOwn (.agg ds) some
  | d => d.toOwn some
def U.pdec : U → D
  | .vp (.agg us) => .agg (us.map .val)
  | .vp u => .val u
  | u => .own u
def evs (fr : Frm) (xs : List Opd) : List D := xs.map (·.ev fr)
def setParts {α : Type} (fr : Frm) (K : List D → Option α) : List D → List (Nat × Opd) → Option α
  | ds, [] => K ds
  | ds, (i, x) :: rest => (ds[i]?).bind fun d => if partable (x.ev fr) = true ∧ (x.ev fr).size = d.size then setParts fr K (ds.set i (x.ev fr)) rest else none
abbrev Env := Nat → List U → Option U
section
variable {α : Type}
def D.asVal (d : D) (K : U → Option α) : Option α := match d with
  | .val u => K u
  | _ => none
def D.asInt (d : D) (K : Int → Option α) : Option α := match d with
  | .val u => u.asInt K
  | _ => none
def optInt (fr : Frm) (x : Option Opd) (K : Option Int → Option α) : Option α := match x with
  | none => K none
  | some x => (x.ev fr).asInt fun n => K (some n)
def intsOf (fr : Frm) : List Opd → (List Int → Option α) → Option α
  | [], K => K []
  | x :: xs, K => (x.ev fr).asInt fun n => intsOf fr xs fun ns => K (n :: ns)
def U.res (fl : Bool) (u : U) (K : Eff → Option α) : Option α := match fl with
  | true => u.asFlat fun u => K (.cl true u)
  | false => K (.cl false u)
def mkVar (Γ : Hp) (nm : Nat) (c : Cn) (d : D) (K : Eff → Option α) : Option α :=
  if nm < 5000 then K (.st [.purge nm] d (upd (Γ.retag (.purge nm)) nm (some (c.retag (.purge nm))))) else none
def takeElems (Γ : Hp) (k : Nat) (d : D) (K : List U → Hp → Option α) : Option α := match d with
  | .ref R p k' none => if k' = k then (D.ref R p k none).take Γ fun d Γ' => d.toOwn fun u => u.asSlK k fun us => K us Γ' else none
  | _ => none
def AOp.step (E : Env) (fr : Frm) (Γ : Hp) (K : Eff → Option α) : AOp → Option α
  | .mv x => K (.v (x.ev fr))
  | .pick c a b => match c.ev fr with
    | .val u => u.asBool (K (.v (a.ev fr))) (K (.v (b.ev fr)))
    | _ => none
  | .box fz nm x => match x.ev fr with
    | .val u => u.noTup fun u => match fz with
      | true => K (.vnew (.vp u))
      | false => mkVar Γ nm (.box (.val u)) (.ptr nm []) K
    | d => match fz with
      | true => none
      | false => d.take Γ fun c Γ' => mkVar Γ' nm (.box c) (.ptr nm []) K
  | .boxS nm x => if topShare (x.ev fr) = true then mkVar Γ nm (.box (x.ev fr)) (.ptr nm []) K else none
  | .boxN n nm x => match x.ev fr with
    | .val u => u.asAgg fun us => spellN n us fun us => mkVar Γ nm (.box (.val (.agg us))) (.ptr nm []) K
    | _ => none
  | .alloc nm z => mkVar Γ nm (.box (.val z)) (.ptr nm []) K
  | .allocJ nm => mkVar Γ nm (.box (.junk 1)) (.ptr nm []) K
  | .build z parts => setParts fr (fun ds => match allVals ds with
      | some us => K (.v (.val (.agg us)))
      | none => K (.v (.agg ds))) (z.map .val) parts
  | .buildL z parts => setParts fr (fun ds => match allVals ds with
      | some us => K (.v (.val (.agg us)))
      | none => K (.v (.agg ds))) (z.map .val) parts
  | .bslice mode nm k n z parts => if z.size = k then setParts fr (fun ds => match mode with
      | 0 => (allVals ds).bind fun us => K (.vnew (.sl k us))
      | 1 => (allVals ds).bind fun us => mkVar Γ nm (.vir (.asl k us)) (.ref nm [] k none) K
      | 2 => D.take.takes ds Γ fun ds Γ' => D.toOwn.toOwns ds fun us => mkVar Γ' nm (.vir (.own (.sl k us))) (.ref nm [] k none) K
      | _ => D.take.takes ds Γ fun ds Γ' => mkVar Γ' nm (.vir (.osl k ds)) (.ref nm [] k none) K) (List.replicate n (.val z)) parts else none
  | .load agg size a => match a.ev fr with
    | .val u => u.asVp fun u => u.asVar agg size fun u => K (.v (.val u))
    | .ptr R p => Γ.at R p fun d => match d with
        | .val u => u.asVar agg size fun u => K (.v (.val u))
        | .own u => u.asVar agg size fun u => u.asFlat fun u => K (.v (.val u))
        | .ref R p k part => if agg = false ∧ size = 1 then K (.v (.ref R p k part)) else none
        | .ptr R p => if agg = false ∧ size = 1 then K (.v (.ptr R p)) else none
        | .fnv r caps => if agg = false ∧ size = 1 then K (.v (.fnv r caps)) else none
        | _ => none
    | _ => none
  | .loadO sh a => match a.ev fr with
    | .val u => u.asVp fun u => sh.look 0 [] (.val u) fun d => K (.v d)
    | .ptr R p => Γ.at R p fun d => sh.look R p d fun d => K (.v d)
    | _ => none
  | .loadN n size a => match a.ev fr with
    | .val u => u.asVp fun u => u.spell n size fun u => K (.v (.val u))
    | .ptr R p => Γ.at R p fun d => match d with
        | .val u => u.spell n size fun u => K (.v (.val u))
        | _ => none
    | _ => none
  | .store size a x => match a.ev fr with
    | .ptr R p => if storable (x.ev fr) = true ∧ (x.ev fr).size = size then Γ.setAt size (x.ev fr) R p fun Γ' => K (.st [] .skip Γ') else none
    | _ => none
  | .storeS size a x ps => match a.ev fr with
    | .ptr R p => if apart R (evs fr ps) = true then (if storable (x.ev fr) = true ∧ (x.ev fr).size = size then Γ.setAt size (x.ev fr) R p fun Γ' => K (.st [] .skip Γ') else none) else none
    | _ => none
  | .storeN nm size a x => match a.ev fr with
    | .ptr R [] => if R = nm then (match x.ev fr with
      | .val u => u.noTup fun u => if u.size = size then (match Γ nm with
        | some (.box (.val z)) => if z.size = size then K (.st [] .skip (upd Γ nm (some (.box (.val u))))) else none
        | _ => none) else none
      | d => if storable d = true ∧ d.size = size then (match Γ nm with
        | some (.box (.val z)) => if z.size = size then K (.st [] .skip (upd Γ nm (some (.box d)))) else none
        | _ => none) else none) else none
    | _ => none
  | .storeM nm size a x => match a.ev fr with
    | .ptr R p => if nm < 5000 ∧ R ≠ nm then
        Γ.at R p fun old => Γ.setAt old.size (.junk old.size) R p fun Γ1 =>
          let m := Tag.move R p nm
          let Γ2 := upd (Hp.retag Γ1 m) nm (some (.vir (old.retag m)))
          ((x.ev fr).retag m).take Γ2 fun c Γ3 => if c.size = size then
            let m2 := Tag.cut R p
            Γ3.setAt size c R p fun Γ4 => K (.st [m, m2] .skip (Γ4.retag m2)) else none
      else none
    | _ => none
  | .storeE size a x => match a.ev fr with
    | .ptr R p => (x.ev fr).take Γ fun c Γ3 => c.toOwn fun u => if u.size = size then
          let m := Tag.cut R p
          Γ3.setAt size (.own u) R p fun Γ4 => K (.st [m] .skip (Γ4.retag m)) else none
    | _ => none
  | .nilck x => match x.ev fr with
    | .val u => u.asVp fun u => K (.v (.val (.vp u)))
    | .ptr R p => K (.v (.ptr R p))
    | _ => none
  | .bin op x y => (x.ev fr).asVal fun a => (y.ev fr).asVal fun b => (U.bin op a b).bind fun u => K (.v (.val u))
  | .eqv neg cls x y => match x.ev fr with
    | .val a => (y.ev fr).asVal fun b => (U.eqv cls a b).bind fun t => K (.v (.val (.bool (if neg then !t else t))))
    | .ptr _ _ => match cls, y.ev fr with
      | 1, .val .nil => K (.v (.val (.bool neg)))
      | _, _ => none
    | _ => none
  | .eqnil neg x => match x.ev fr with
    | .val u => (U.isNil u).bind fun t => K (.v (.val (.bool (if neg then !t else t))))
    | .ref R [] _ none => match Γ R with
      | some (.held t) => K (.v (.val (.bool (if neg then !t else t))))
      | _ => none
    | _ => none
  | .un op x => (x.ev fr).asVal fun a => (U.un op a).bind fun u => K (.v (.val u))
  | .conv k x => (x.ev fr).asVal fun a => (U.conv k a).bind fun u => K (.v (.val u))
  | .mkfn r caps => if capsOK (evs fr caps) then K (.v (.fnv r (evs fr caps))) else none
  | .mkslice nm k bytes z l0 c0 => (l0.ev fr).asInt fun l => (c0.ev fr).asInt fun c =>
      if 0 ≤ l ∧ l ≤ c ∧ c * bytes ≤ 140737488355328 ∧ z.size = k then mkVar Γ nm (.vir (.asl k (List.replicate l.toNat z))) (.ref nm [] k none) K else none
  | .slice str k x lo hi => match x.ev fr with
    | .val u => optInt fr lo fun l => optInt fr hi fun h => (U.cut str k u l h).bind fun u' => K (.v (.val u'))
    | .ref R p k' none => Γ.at R p fun d => d.slLen k fun n => optInt fr lo fun l => optInt fr hi fun h =>
          if str = false ∧ k' = k ∧ 0 ≤ l.getD 0 ∧ l.getD 0 ≤ h.getD n ∧ h.getD n ≤ n then
            K (.v (.ref R p k (some ((l.getD 0).toNat, (h.getD n).toNat - (l.getD 0).toNat)))) else none
    | _ => none
  | .slice0 nm k x => match x.ev fr with
    | .val u => (u.elems k).bind fun _ => mkVar Γ nm (.vir (.own (.sl k []))) (.ref nm [] k none) K
    | .ref R p k' none => Γ.at R p fun d => d.slLen k fun _ => if k' = k then mkVar Γ nm (.vir (.own (.sl k []))) (.ref nm [] k none) K else none
    | _ => none
  | .faddr j off x => match x.ev fr with
    | .val u => u.asVp fun u => u.fieldAt j off fun u' => K (.v (.val (.vp u')))
    | .ptr R p => K (.v (.ptr R (p ++ [.fld j off])))
    | _ => none
  | .iaddr k x i => match x.ev fr with
    | .val u => (i.ev fr).asInt fun n => u.elemAt k n fun u' => K (.v (.val (.vp u')))
    | .ref R p k' none => Γ.at R p fun d => d.slLen k fun m => (i.ev fr).asInt fun n => if k' = k ∧ 0 ≤ n ∧ n < m then K (.v (.ptr R (p ++ [.elt n.toNat k]))) else none
    | .ref R p k' (some (off, m)) => Γ.at R p fun d => d.slLen k fun l => (i.ev fr).asInt fun n => if k' = k ∧ 0 ≤ n ∧ n < m ∧ off + m ≤ l then K (.v (.ptr R (p ++ [.elt (off + n.toNat) k]))) else none
    | _ => none
  | .aaddr n k x i => match x.ev fr with
    | .ptr R p => (i.ev fr).asInt fun m => if 0 ≤ m ∧ m < n then K (.v (.ptr R (p ++ [.fld m.toNat (m.toNat * k)]))) else none
    | _ => none
  | .field agg size j off x => match x.ev fr with
    | .val u => u.fieldAt j off fun u' => u'.asVar agg size fun u' => K (.v (.val u'))
    | .agg ds => if off = dsizes (ds.take j) then (ds[j]?).bind fun d => if d.isAgg = agg ∧ d.size = size ∧ partable d = true then K (.v d) else none else none
    | _ => none
  | .idxa agg size n k x i => (x.ev fr).asVal fun u => (i.ev fr).asInt fun m => if 0 ≤ m ∧ m < n then u.fieldAt m.toNat (m.toNat * k) fun u' => u'.asVar agg size fun u' => K (.v (.val u')) else none
  | .idxs x i => (x.ev fr).asVal fun u => (i.ev fr).asInt fun n => u.charAt n fun u' => K (.v (.val u'))
  | .extract j x => match x.ev fr with
    | .val u => u.part j fun u' => K (.v (.val u'))
    | .tup ds => (ds[j]?).bind fun d => K (.v d)
    | _ => none
  | .call fl r args => match allVals (evs fr args) with
    | some us => (E r us).bind fun u => u.res fl K
    | none => (snaps (snap Γ 8) (evs fr args)).bind fun us => (E r us).bind fun u => u.res true K
  | .callv fl f args => match allVals ((f.ev fr).plain :: evs fr args) with
    | some us => (us[0]?).bind fun g => g.asFn fun r caps => (E r (us.tail ++ caps)).bind fun u => u.res fl K
    | none => (snap Γ 8 (f.ev fr)).bind fun g => g.asFn fun r caps => (snaps (snap Γ 8) (evs fr args)).bind fun us => (E r (us ++ caps)).bind fun u => u.res true K
  | .callF nm tup ss r args => (snaps (snap Γ 8) (evs fr args)).bind fun us => (E (100000 + r) us).bind fun u => match tup, ss with
    | false, [s] => u.noTup fun u => s.view nm [] u fun c d => mkVar Γ nm (.vir c) d K
    | true, ss => u.asTup fun us => Shp.view.views ss nm [] 0 0 us fun cs ds => mkVar Γ nm (.vir (.agg cs)) (.tup ds) K
    | _, _ => none
  | .callM k r x args => match x.ev fr with
    | .ref R p k' none => if k' = k then Γ.at R p fun d => d.isSl k (d.toOwn fun u0 => u0.asSlK k fun xs => (snaps (snap (upd Γ R none) 8) (evs fr args)).bind fun us =>
        (E (200000 + r) (.agg [.tup [.sl k xs]] :: us)).bind fun u => u.asMut k fun y ys => y.asFlat fun y =>
          let m := Tag.below R p
          Γ.setAt 1 (.own (.sl k ys)) R p fun Γ' => K (.st [m] (.val y) (Γ'.retag m))) else none
    | _ => none
  | .callC nm k r x args => takeElems Γ k (x.ev fr) fun xs Γ1 => (snaps (snap Γ1 8) (evs fr args)).bind fun us =>
      (E (300000 + r) (.agg [.tup [.sl k xs]] :: us)).bind fun u => u.asSlK k fun ys => mkVar Γ1 nm (.vir (.own (.sl k ys))) (.ref nm [] k none) K
  | .callI nm k r x i y => takeElems Γ k (x.ev fr) fun xs Γ1 => (i.ev fr).asInt fun n => takeElems Γ1 k (y.ev fr) fun ys Γ2 =>
      (E (600000 + r) [.sl k xs, .int .i64 n, .sl k ys]).bind fun u => u.asSlK k fun zs => mkVar Γ2 nm (.vir (.own (.sl k zs))) (.ref nm [] k none) K
  | .callP sh r x args => match x.ev fr with
    | .ptr R [] => (match Γ R with
      | some (.box d) => d.pcode.bind fun c => (allVals (evs fr args)).bind fun us => (E (400000 + r) (.agg [.tup [c]] :: us)).bind fun u => u.asPtr fun y c' => c'.asP sh fun c' =>
          K (.st [.cut R []] (.val y) (upd (Γ.retag (.cut R [])) R (some (.box c'.pdec))))
      | _ => none)
    | _ => none
  | .callL sh r f args => match f.ev fr with
    | .fnv r' [.ptr R []] => (match Γ R with
      | some (.box d) => if r' = r then d.pcode.bind fun c => (allVals (evs fr args)).bind fun us => (E (500000 + r) (.agg [.tup [c]] :: us)).bind fun u => u.asPtr fun y c' => c'.asP sh fun c' =>
          K (.st [.cut R []] (.val y) (upd (Γ.retag (.cut R [])) R (some (.box c'.pdec)))) else none
      | _ => none)
    | _ => none
  | .clear k z x => match x.ev fr with
    | .ref R [] k' (some (off, m)) => (match Γ R with
      | some (.vir (.own u)) => u.asSlK k fun us => if k' = k ∧ z.size = k ∧ 0 < k ∧ z.flat = true ∧ U.flat.flats us = true ∧ off + m ≤ us.length then
          K (.st [] (.val (.tup [])) (upd Γ R (some (.vir (.own (.sl k (us.take off ++ List.replicate m z ++ us.drop (off + m)))))))) else none
      | _ => none)
    | _ => none
  | .sliceO nm k x hi => (hi.ev fr).asInt fun n => takeElems Γ k (x.ev fr) fun us Γ1 => if 0 ≤ n ∧ n ≤ us.length then mkVar Γ1 nm (.vir (.own (.sl k (us.take n.toNat)))) (.ref nm [] k none) K else none
  | .len str x => match x.ev fr with
    | .val u => (U.lenOf str u).bind fun n => K (.v (.val (.int .i64 n)))
    | .ref _ _ _ (some (_, m)) => if str then none else K (.v (.val (.int .i64 m)))
    | .ref R p k none => if str then none else Γ.at R p fun d => d.slLen k fun n => K (.v (.val (.int .i64 n)))
    | _ => none
  | .append false nm k bytes s x => srcElems Γ k (x.ev fr) fun ys => match s.ev fr with
    | .val u => u.asNsl fun k' => if k' = k ∧ ys.length * bytes ≤ 140737488355328 then mkVar Γ nm (.vir (.asl k ys)) (.ref nm [] k none) K else none
    | .ref R p k' none => (D.ref R p k' none).take Γ fun d Γ' => match d with
      | .asl k2 us => if k' = k ∧ k2 = k ∧ (us.length + ys.length) * bytes ≤ 140737488355328 then mkVar Γ' nm (.vir (.asl k (us ++ ys))) (.ref nm [] k none) K else none
      | .own u => u.asSlK k fun us => if k' = k ∧ U.flat.flats ys = true ∧ (us.length + ys.length) * bytes ≤ 140737488355328 then mkVar Γ' nm (.vir (.own (.sl k (us ++ ys)))) (.ref nm [] k none) K else none
      | _ => none
    | _ => none
  | .append true nm k bytes s x => takeElems Γ k (x.ev fr) fun ys Γ1 => match s.ev fr with
    | .val u => u.asNsl fun k' => if k' = k ∧ ys.length * bytes ≤ 140737488355328 then mkVar Γ1 nm (.vir (.own (.sl k ys))) (.ref nm [] k none) K else none
    | d => takeElems Γ1 k d fun us Γ2 => if (us.length + ys.length) * bytes ≤ 140737488355328 then mkVar Γ2 nm (.vir (.own (.sl k (us ++ ys)))) (.ref nm [] k none) K else none
  | .copy d x => match d.ev fr with
    | .ref R [] k part => match Γ R with
      | some (.vir (.asl k2 us)) => srcElems Γ 1 (x.ev fr) fun ys => if k = 1 ∧ k2 = 1 ∧ 0 < min ys.length (part.getD (0, us.length)).2 ∧ (part.getD (0, us.length)).1 + (part.getD (0, us.length)).2 ≤ us.length then
          K (.st [] (.val (.int .i64 (min ys.length (part.getD (0, us.length)).2 : Nat))) (upd Γ R (some (.vir (.asl 1 (us.take (part.getD (0, us.length)).1 ++ ys.take (min ys.length (part.getD (0, us.length)).2) ++ us.drop ((part.getD (0, us.length)).1 + min ys.length (part.getD (0, us.length)).2)))))))
        else none
      | _ => none
    | _ => none
  | .bad => none
  | .minmax mx xs => intsOf fr xs fun ns => match ns with
    | [] => none
    | n :: ns => K (.v (.val (.int .i64 (ns.foldl (fun a b => if mx then (if a < b then b else a) else (if b < a then b else a)) n))))
structure St where
  fr : Frm
  Γ : Hp
def Eff.value (Kd : D → Option α) : Eff → Option α
  | .v d => Kd d
  | .cl _ u => Kd (.val u)
  | .vnew u => Kd (.val u)
  | _ => none
def AOp.made : AOp → Option Nat
  | .alloc nm _ => some nm
  | .mkslice nm _ _ _ _ _ => some nm
  | .callF nm _ _ _ _ => some nm
  | _ => none
def AOp.puts : AOp → Option Nat
  | .storeN nm _ _ _ => some nm
  | _ => none
def AOp.putD (fr : Frm) (K : D → Option α) : AOp → Option α
  | .storeN nm size a x => match a.ev fr with
    | .ptr R [] => if R = nm then (match x.ev fr with
      | .val u => u.noTup fun u => if u.size = size then K (.val u) else none
      | d => if storable d = true ∧ d.size = size then K d else none) else none
    | _ => none
  | _ => none
def AOp.gives (op : AOp) : Option Nat := match op.made with
  | some nm => some nm
  | none => op.puts
def AOp.make (E : Env) (fr : Frm) (Γ : Hp) (K : D → Cn → Option α) : AOp → Option α
  | .alloc nm z => K (.ptr nm []) (.box (.val z))
  | .mkslice nm k bytes z l0 c0 => (l0.ev fr).asInt fun l => (c0.ev fr).asInt fun c =>
      if 0 ≤ l ∧ l ≤ c ∧ c * bytes ≤ 140737488355328 ∧ z.size = k then K (.ref nm [] k none) (.vir (.asl k (List.replicate l.toNat z))) else none
  | .callF nm tup ss r args => (snaps (snap Γ 8) (evs fr args)).bind fun us => (E (100000 + r) us).bind fun u => match tup, ss with
    | false, [s] => u.noTup fun u => s.view nm [] u fun c d => K d (.vir c)
    | true, ss => u.asTup fun us => Shp.view.views ss nm [] 0 0 us fun cs ds => K (.tup ds) (.vir (.agg cs))
    | _, _ => none
  | _ => none
def D.isVal : D → Bool
  | .val _ => true
  | _ => false
def AOp.stepQ (E : Env) (fr : Frm) (Γ : Hp) (K : Eff → Option α) (op : AOp) : Option α := match op with
  | .call fl r args => (allVals (evs fr args)).bind fun us => (E r us).bind fun u => u.res fl K
  | .callv fl f args => if (allVals ((f.ev fr).plain :: evs fr args)).isSome = true then (AOp.callv fl f args).step E fr Γ K else none
  | .iaddr k x i => if (x.ev fr).isVal = true then (AOp.iaddr k x i).step E fr Γ K else none
  | op => op.step E fr Γ K
def freeB (nm : Nat) : D → Bool
  | .agg ds => frees nm ds
  | .tup ds => frees nm ds
  | .osl _ ds => frees nm ds
  | .fnv _ ds => frees nm ds
  | .ref R _ _ _ => R != nm
  | .ptr R _ => R != nm
  | _ => true
where frees (nm : Nat) : List D → Bool
  | [] => true
  | d :: ds => freeB nm d && frees nm ds
def freeAll (N : List Nat) (d : D) : Bool := N.all fun nm => freeB nm d
def freeCn (N : List Nat) : Cn → Bool
  | .box d => freeAll N d
  | .vir d => freeAll N d
  | .held _ => true
def forget (N : List Nat) (s : St) : St :=
  ⟨fun t => if freeAll N (s.fr t) = true then s.fr t else .undef, fun R => if N.contains R = true then none else match s.Γ R with
    | some c => if freeCn N c = true then some c else none
    | none => none⟩
def apartN (N : List Nat) : List D → Bool
  | [] => true
  | .ptr R _ :: ds => !N.contains R && apartN N ds
  | .val _ :: ds => apartN N ds
  | _ => false
def pairsB (prs : List (Nat × Nat)) (ds : List D) : Bool := prs.all fun p => match ds[p.1]? with
  | some d => freeB p.2 d
  | none => false
def execN (E : Env) (Γ0 : Hp) : List AOper → St → List D → (List D → St → Option α) → Option α
  | [], s, acc, K => K acc s
  | o :: os, s, acc, K => match o.guard with
    | some _ => none
    | none => match o.op.made with
      | some nm => if nm < 5000 then o.op.make E s.fr Γ0 fun d c => execN E Γ0 os ⟨s.fr.put o.dst d, upd s.Γ nm (some c)⟩ (acc ++ [d]) K else none
      | none => match o.op.puts with
        | some nm => match o.dst with
          | none => o.op.putD s.fr fun d => execN E Γ0 os ⟨s.fr.put none d, upd s.Γ nm (some (.box d))⟩ (acc ++ [d]) K
          | some _ => none
        | none => o.op.stepQ E s.fr s.Γ (Eff.value fun d => execN E Γ0 os ⟨s.fr.put o.dst d, s.Γ⟩ (acc ++ [d]) K)
def Frm.retags (fr : Frm) : List Tag → Frm
  | [] => fr
  | m :: ms => (fr.retag m).retags ms
def Eff.apply (dr : Bool) (dst : Option Nat) (s : St) (K : St → Option α) : Eff → Option α
  | .v d => K ⟨s.fr.put dst d, s.Γ⟩
  | .cl _ u => K ⟨s.fr.put dst (.val u), s.Γ⟩
  | .vnew u => K ⟨s.fr.put dst (.val u), s.Γ⟩
  | .st ms d Γ => match dr with
    | true => none
    | false => K ⟨(s.fr.retags ms).put dst d, Γ⟩
def AOper.exec (dr : Bool) (E : Env) (o : AOper) (s : St) (K : St → Option α) : Option α :=
  let go (s : St) : Option α := o.op.step E s.fr s.Γ fun e => e.apply dr o.dst s K
  let no (s : St) : Option α := K ⟨s.fr.put o.dst .skip, s.Γ⟩
  match o.guard with
  | none => go s
  | some (g, want) => match s.fr g with
    | .skip => no s
    | .val u => u.asBool
        ((fun s => if want then go s else no s) ⟨s.fr.put (some g) (.val (.bool true)), s.Γ⟩)
        ((fun s => if want then no s else go s) ⟨s.fr.put (some g) (.val (.bool false)), s.Γ⟩)
    | _ => none
def execOps (dr : Bool) (E : Env) : List AOper → St → (St → Option α) → Option α
  | [], s, K => K s
  | o :: os, s, K => o.exec dr E s fun s' => execOps dr E os s' K
def Opd.use : Opd → List Nat
  | .t n => [n]
  | .c _ => []
def AOp.uses : AOp → List Nat
  | .mv x => x.use
  | .pick c a b => c.use ++ a.use ++ b.use
  | .box _ _ x => x.use
  | .boxS _ x => x.use
  | .boxN _ _ x => x.use
  | .alloc _ _ => []
  | .build _ parts => parts.flatMap fun p => p.2.use
  | .buildL _ parts => parts.flatMap fun p => p.2.use
  | .bslice _ _ _ _ _ parts => parts.flatMap fun p => p.2.use
  | .load _ _ a => a.use
  | .loadO _ a => a.use
  | .loadN _ _ a => a.use
  | .store _ a x => a.use ++ x.use
  | .storeM _ _ a x => a.use ++ x.use
  | .storeE _ a x => a.use ++ x.use
  | .storeN _ _ a x => a.use ++ x.use
  | .storeS _ a x ps => a.use ++ x.use ++ ps.flatMap Opd.use
  | .nilck x => x.use
  | .bin _ x y => x.use ++ y.use
  | .eqv _ _ x y => x.use ++ y.use
  | .eqnil _ x => x.use
  | .un _ x => x.use
  | .conv _ x => x.use
  | .mkfn _ caps => caps.flatMap Opd.use
  | .mkslice _ _ _ _ l c => l.use ++ c.use
  | .slice _ _ x lo hi => x.use ++ (lo.map Opd.use).getD [] ++ (hi.map Opd.use).getD []
  | .slice0 _ _ x => x.use
  | .faddr _ _ x => x.use
  | .iaddr _ x i => x.use ++ i.use
  | .aaddr _ _ x i => x.use ++ i.use
  | .field _ _ _ _ x => x.use
  | .idxs x i => x.use ++ i.use
  | .idxa _ _ _ _ x i => x.use ++ i.use
  | .extract _ x => x.use
  | .call _ _ args => args.flatMap Opd.use
  | .callv _ f args => f.use ++ args.flatMap Opd.use
  | .callF _ _ _ _ args => args.flatMap Opd.use
  | .callM _ _ x args => x.use ++ args.flatMap Opd.use
  | .callC _ _ _ x args => x.use ++ args.flatMap Opd.use
  | .callI _ _ _ x i y => x.use ++ (i.use ++ y.use)
  | .callP _ _ x args => x.use ++ args.flatMap Opd.use
  | .callL _ _ f args => f.use ++ args.flatMap Opd.use
  | .clear _ _ x => x.use
  | .sliceO _ _ x hi => x.use ++ hi.use
  | .allocJ _ => []
  | .len _ x => x.use
  | .append _ _ _ _ s x => s.use ++ x.use
  | .copy s x => s.use ++ x.use
  | .bad => []
  | .minmax _ xs => xs.flatMap Opd.use
def pureOp : AOp → Bool
  | .mv _ | .pick _ _ _ | .build _ _ | .bslice 0 _ _ _ _ _ | .nilck _ | .bin _ _ _ | .eqv _ _ _ _ | .un _ _ | .conv _ _ | .faddr _ _ _ | .field _ _ _ _ _ | .idxs _ _ | .idxa _ _ _ _ _ _ | .extract _ _ | .aaddr _ _ _ _ | .minmax _ _ => true
  | _ => false
def AOp.still : AOp → Bool
  | .slice _ _ _ _ _ | .load _ _ _ | .loadO _ _ | .iaddr _ _ _ | .len _ _ => true
  | op => pureOp op
def calm (T : List Nat) : D → Bool
  | .val _ => true
  | .ptr R _ => !T.contains R
  | .ref R _ _ _ => !T.contains R
  | _ => false
def nameless : D → Bool
  | .val _ | .own _ | .asl _ _ | .junk _ => true
  | .agg ds => namelesss ds
  | _ => false
where namelesss : List D → Bool
  | [] => true
  | d :: ds => nameless d && namelesss ds
def bare : Cn → Bool
  | .box d => nameless d
  | .vir (.own _) => true
  | _ => false
def bareAt (Γ : Hp) (d : D) : Bool := match d with
  | .ptr R _ | .ref R _ _ _ => (match Γ R with
    | some c => bare c
    | none => false)
  | _ => true
def loadsOK (Γ : Hp) (fr : Frm) : AOp → Bool
  | .load _ _ a | .loadO _ a | .slice _ _ a _ _ | .iaddr _ a _ | .len _ a => bareAt Γ (a.ev fr)
  | _ => true
def execV (E : Env) (T : List Nat) (Γ : Hp) : List AOper → Frm → (Frm → Option α) → Option α
  | [], fr, K => K fr
  | o :: os, fr, K => match o.guard, o.dst with
    | none, some x => if ((o.op.uses.all fun t => calm T (fr t)) && loadsOK Γ fr o.op) = true then o.op.step E fr Γ (Eff.value fun d => if calm T d = true then execV E T Γ os (fr.put (some x) d) K else none) else none
    | _, _ => none
def refIn (T : List Nat) : D → Bool
  | .ref R _ _ _ => T.contains R
  | _ => false
def calmIn (T : List Nat) : D → Bool
  | .val _ | .ptr _ _ | .fnv _ _ => true
  | .ref R _ _ _ => T.contains R
  | .agg ds => calmIns ds
  | _ => false
where calmIns : List D → Bool
  | [] => true
  | d :: ds => calmIn T d && calmIns ds
def chainOK (T : List Nat) (fr : Frm) : AOp → Bool
  | .alloc nm _ => T.contains nm
  | .mkslice nm _ _ _ _ _ => T.contains nm
  | .bslice 1 nm _ _ _ _ => T.contains nm
  | .bslice 2 nm _ 1 _ [(0, x)] => T.contains nm && calmIn T (x.ev fr)
  | .buildL _ _ => true
  | .callF nm _ _ _ _ => T.contains nm
  | .call _ _ _ => true
  | .append false nm _ _ s _ => T.contains nm && (match s.ev fr with
    | .ref R _ _ _ => T.contains R
    | _ => true)
  | .append true nm _ _ s x => T.contains nm && refIn T (x.ev fr) && (match s.ev fr with
    | .val _ => true
    | d => refIn T d)
  | .callC nm _ _ x _ => T.contains nm && refIn T (x.ev fr)
  | .callI nm _ _ x _ y => T.contains nm && refIn T (x.ev fr) && refIn T (y.ev fr)
  | _ => false
def execC (E : Env) (T : List Nat) : List AOper → St → (St → Option α) → Option α
  | [], s, K => K s
  | o :: os, s, K => if chainOK T s.fr o.op = true then o.exec false E s fun s' => execC E T os s' K else none
def stills (os : List AOper) : List AOper := os.filter fun o => o.op.still
def chain (os : List AOper) : List AOper := os.filter fun o => !o.op.still
def blank (os : List AOper) (fr : Frm) : Frm := fun t => if (os.any fun o => o.dst == some t) = true then .undef else fr t
inductive Ex where
  | normal
  | exit (id : Nat)
  | ret
abbrev Packed := List D × List Cn
def adoptAs : List (Nat × Nat × Bool) → St → (St → Option α) → Option α
  | [], s, K => K s
  | (n, k, o) :: as, s, K => if n < 4000 then (match s.fr n with
    | .ref R0 [] k' none => match s.Γ R0 with
      | some (.vir d) => if k' = k then
          let m := Tag.move R0 [] (1000 + n)
          let Γ := Hp.retag (upd s.Γ R0 none) m
          (match o, d with
            | false, .asl k2 us => if k2 = k then adoptAs as ⟨s.fr.retag m, upd Γ (1000 + n) (some (.vir (.asl k us)))⟩ K else none
            | true, d => d.toOwn fun u => u.asSlK k fun us => adoptAs as ⟨s.fr.retag m, upd Γ (1000 + n) (some (.vir (.own (.sl k us))))⟩ K
            | _, _ => none) else none
      | _ => none
    | .val u => u.asNsl fun k' => if k' = k then
        let m := Tag.purge (1000 + n)
        adoptAs as ⟨(s.fr.retag m).put (some n) (.ref (1000 + n) [] k none), upd (s.Γ.retag m) (1000 + n) (some (.vir (if o then .own (.sl k []) else .asl k [])))⟩ K else none
    | _ => none) else none
def ownRs : List (Nat × Bool) → Hp → (Hp → Option α) → Option α
  | [], Γ, K => K Γ
  | (R, o) :: rs, Γ, K => match o with
    | false => ownRs rs Γ K
    | true => match Γ R with
      | some c => c.data fun d => d.toOwn fun u => ownRs rs (upd Γ R (some (c.with (.own u)))) K
      | none => none
def takeRoots (Γ : Hp) : List (Nat × Bool) → Option (List Cn)
  | [] => some []
  | (R, _) :: rs => (Γ R).bind fun c => (takeRoots Γ rs).map (c :: ·)
def takeArrs (s : St) : List (Nat × Nat × Bool) → Option (List Cn)
  | [] => some []
  | (n, k, _) :: as => match s.fr n with
    | .ref R [] k' none => if R = 1000 + n ∧ k' = k then (s.Γ R).bind fun c => (takeArrs s as).map (c :: ·) else none
    | _ => none
def pack (l : Live) (s : St) (K : Packed → Option α) : Option α :=
  adoptAs l.as s fun s => ownRs l.rs s.Γ fun Γ => (takeArrs ⟨s.fr, Γ⟩ l.as).bind fun qs => (takeRoots Γ l.rs).bind fun cs => K (l.ss.map s.fr, qs ++ cs)
def unpackFr (ss : List Nat) (ds : List D) (fr : Frm) : Frm := match ss, ds with
  | s :: ss, d :: ds => (unpackFr ss ds fr).put (some s) d
  | _, _ => fr
def unpackAs (as : List (Nat × Nat × Bool)) (cs : List Cn) (s : St) : St × List Cn := match as, cs with
  | (n, k, _) :: as, c :: cs => let (s', rest) := unpackAs as cs s; (⟨s'.fr.put (some n) (.ref (1000 + n) [] k none), upd s'.Γ (1000 + n) (some c)⟩, rest)
  | _, cs => (s, cs)
def unpackRs (rs : List (Nat × Bool)) (cs : List Cn) (Γ : Hp) : Hp := match rs, cs with
  | R :: rs, c :: cs => upd (unpackRs rs cs Γ) R.1 (some c)
  | _, _ => Γ
def unpack (l : Live) (p : Packed) : St :=
  let (s, cs) := unpackAs l.as p.2 ⟨unpackFr l.ss p.1 fun _ => .undef, fun _ => none⟩
  ⟨s.fr, unpackRs l.rs cs s.Γ⟩
def loopN (F : (Packed → Option α) → Packed → Option α) : Nat → Packed → Option α
  | 0, _ => none
  | n + 1, p => F (loopN F n) p
open Classical in
noncomputable def loopK (F : (Packed → Option α) → Packed → Option α) (p : Packed) : Option α :=
  if h : ∃ n r, loopN F n p = some r then some h.choose_spec.choose else none
def seqK (f : St → Option α) (K : Ex → St → Option α) : Ex → St → Option α
  | .normal, s => f s
  | e, s => K e s
def blockK (id : Nat) (K : Ex → St → Option α) : Ex → St → Option α
  | .exit id', s => if id' = id then K .normal s else K (.exit id') s
  | e, s => K e s
def roundK (l : Live) (rec : Packed → Option α) (K : Ex → St → Option α) : Ex → St → Option α
  | .normal, s => pack l s rec
  | e, s => K e s
def iterU (f : St → (Ex → St → Option α) → Option α) (K : Ex → St → Option α) : Nat → St → Option α
  | 0, _ => none
  | n + 1, s => f s (seqK (iterU f K n) K)
def Inl.enter (c : Inl) (s : St) : St :=
  ⟨fun i => if i < c.off then s.fr i else match (evs s.fr c.args)[i - c.off]? with | some d => d | none => .skip, s.Γ⟩
def Inl.leave (c : Inl) (K : St → Option α) : Ex → St → Option α
  | .exit _, _ => none
  | _, s => match c.rs with
    | [r] => if partable (s.fr (c.off + r)) = true then K ⟨s.fr.put c.dst (s.fr (c.off + r)), s.Γ⟩ else none
    | rs => if (rs.map fun r => s.fr (c.off + r)).all partable = true then K ⟨s.fr.put c.dst (.tup (rs.map fun r => s.fr (c.off + r))), s.Γ⟩ else none
noncomputable def meet {α : Type} (a b : Option α) : Option α := by
  classical exact if a = b then a else none
def freeP (prs : List (Nat × Nat)) (rem : List (Nat × AOper)) (i : Nat) : Bool := prs.all fun p => !(p.2 == i) || !(rem.any fun q => q.1 == p.1)
noncomputable def meets {α : Type} : List (Option α) → Option α
  | [] => none
  | [a] => a
  | a :: l => meet a (meets l)
noncomputable def execT {α : Type} (E : Env) (T : List Nat) (prs : List (Nat × Nat)) : Nat → List (Nat × AOper) → St → (St → Option α) → Option α
  | _, [], s, K => K s
  | 0, _ :: _, _, _ => none
  | n + 1, rem, s, K => meets ((rem.filter fun q => freeP prs rem q.1).map fun q => if chainOK T s.fr q.2.op = true then q.2.exec false E s fun s' => execT E T prs n (rem.filter fun q2 => q2.1 != q.1) s' K else none)
def packS (slots names : List Nat) (s : St) : List D × List (Option Cn) := (slots.map s.fr, names.map s.Γ)
def unpackS (slots names : List Nat) (p : List D × List (Option Cn)) : St := ⟨fun t => ((slots.zip p.1).lookup t).getD .undef, fun R => ((names.zip p.2).lookup R).getD none⟩
def chainI (os : List AOper) : List (Nat × AOper) := (List.range os.length).filterMap fun i => match os[i]? with
  | some o => if o.op.still = true then none else some (i, o)
  | none => none
noncomputable def exec (E : Env) : AC → St → (Ex → St → Option α) → Option α
  | .skip, s, K => K .normal s
  | .region k ops, s, K => execOps true E (ops.take k) s fun s => execOps false E (ops.drop k) s (K .normal)
  | .regI k ops c body more, s, K => execOps true E (ops.take k) s fun s => execOps false E (ops.drop k) s fun s => exec E body (c.enter s) (c.leave fun s => exec E more s K)
  | .regC k T ops, s, K => execV E T s.Γ (stills (ops.take k)) (blank (stills (ops.take k)) s.fr) fun fr => execC E T (chain (ops.take k)) ⟨fr, s.Γ⟩ fun s => execOps false E (ops.drop k) s (K .normal)
  | .regD k T prs slots names ops, s, K => (execV E T s.Γ (stills (ops.take k)) (blank (stills (ops.take k)) s.fr) fun fr => execT E T prs k (chainI (ops.take k)) ⟨fr, s.Γ⟩ fun s' => some (packS slots names s')).bind fun p => execOps false E (ops.drop k) (unpackS slots names p) (K .normal)
  | .regN k N prs ps ops, s, K => execN E (forget N s).Γ (ops.take k) (forget N s) [] fun ds s => if pairsB prs ds = true ∧ apartN N (evs s.fr ps) = true then execOps false E (ops.drop k) s (K .normal) else none
  | .seq a b, s, K => exec E a s (seqK (fun s' => exec E b s' K) K)
  | .cond c a b, s, K => match c.ev s.fr with
    | .val u => u.asBool (exec E a s K) (exec E b s K)
    | _ => none
  | .block id c, s, K => exec E c s (blockK id K)
  | .loop l c, s, K => pack l s (loopK fun rec p => exec E c (unpack l p) (roundK l rec K))
  | .loopU n c, s, K => iterU (fun s K => exec E c s K) K n s
  | .exit id, s, K => K (.exit id) s
  | .ret, s, K => K .ret s
end
def resOf {α : Type} (s : St) (K : U → Option α) : Nat × Option (Bool × Nat) → Option α
  | (t, none) => (snap s.Γ 8 (s.fr t)).bind K
  | (t, some (agg, size)) => match s.fr t with
    | .ptr R p => s.Γ.at R p fun d => (snap s.Γ 8 d).bind fun u => u.asVar agg size K
    | _ => none
def resAll {α : Type} (s : St) : List (Nat × Option (Bool × Nat)) → (List U → Option α) → Option α
  | [], K => K []
  | r :: rs, K => resOf s (fun u => u.noTup fun u => resAll s rs fun us => K (u :: us)) r
def results (s : St) : List (Nat × Option (Bool × Nat)) → Option U
  | [r] => resOf s some r
  | rs => resAll s rs fun us => some (.tup us)
def finish (rs : List (Nat × Option (Bool × Nat))) (e : Ex) (s : St) : Option U := match e with
  | .exit _ => none
  | _ => results s rs
def start (us : List U) : St := ⟨fun i => match us[i]? with | some u => .val u | none => .skip, fun _ => none⟩
noncomputable def run (E : Env) (c : AC) (rs : List (Nat × Option (Bool × Nat))) (us : List U) : Option U := exec E c (start us) (finish rs)
def U.ownV {α : Type} (u : U) (K : U → Option α) : Option α := match u with
  | .nsl k => K (.sl k [])
  | .tup _ => none
  | u => u.asFlat K
def U.nilOwn : U → U
  | .nsl k => .sl k []
  | .agg us => .agg (nils us)
  | u => u
where nils : List U → List U
  | [] => []
  | u :: us => u.nilOwn :: nils us
def ownOf0 {α : Type} (s : St) (Γ : Hp) (K : U → Hp → Option α) : Nat × Option (Bool × Nat) → Option α
  | (t, none) => match s.fr t with
    | .val u => u.ownV fun u => K u Γ
    | d => d.take Γ fun c Γ' => c.toOwn fun u => K u Γ'
  | (t, some (agg, size)) => match s.fr t with
    | .ptr R p => Γ.at R p fun d => Γ.setAt d.size (.junk d.size) R p fun Γ' => d.toOwn fun u => u.asVar agg size fun u => K u Γ'
    | _ => none
def ownOf {α : Type} (s : St) (Γ : Hp) (K : U → Hp → Option α) (r : Nat × Option (Bool × Nat)) : Option α := ownOf0 s Γ (fun u Γ' => K u.nilOwn Γ') r
def ownAll {α : Type} (s : St) (Γ : Hp) : List (Nat × Option (Bool × Nat)) → (List U → Hp → Option α) → Option α
  | [], K => K [] Γ
  | r :: rs, K => ownOf s Γ (fun u Γ' => ownAll s Γ' rs fun us Γ'' => K (u :: us) Γ'') r
def ownRes {α : Type} (s : St) (K : U → Hp → Option α) : List (Nat × Option (Bool × Nat)) → Option α
  | [r] => ownOf s s.Γ K r
  | rs => ownAll s s.Γ rs fun us Γ => K (.tup us) Γ
def finishF (rs : List (Nat × Option (Bool × Nat))) (e : Ex) (s : St) : Option U := match e with
  | .exit _ => none
  | _ => ownRes s (fun u _ => some u) rs
def startM (k : Nat) (xs : List U) (us : List U) : St := ⟨fun i => match i with | 0 => .ref 5000 [] k none | i + 1 => (start us).fr i, fun R => if R = 5000 then some (.vir (.own (.sl k xs))) else none⟩
def finishM (k : Nat) (rs : List (Nat × Option (Bool × Nat))) (e : Ex) (s : St) : Option U := (finish rs e s).bind fun y => match s.Γ 5000 with
  | some (.vir d) => d.toOwn fun u => u.asSlK k fun ys => if y.flat = true then some (.tup [y, .sl k ys]) else none
  | _ => none
def startP (c : U) (us : List U) : St := ⟨fun i => match i with | 0 => .ptr 5000 [] | i + 1 => (start us).fr i, fun R => if R = 5000 then some (.box c.pdec) else none⟩
def startL (c : U) (us : List U) : St := ⟨fun i => if i = us.length then .ptr 5000 [] else (start us).fr i, fun R => if R = 5000 then some (.box c.pdec) else none⟩
def finishP (rs : List (Nat × Option (Bool × Nat))) (e : Ex) (s : St) : Option U := (finish rs e ⟨s.fr, upd s.Γ 5000 none⟩).bind fun y => match s.Γ 5000 with
  | some (.box d) => d.pcode.bind fun c => some (.tup [y, c])
  | _ => none
def setup (q : Nat) (rs : List (Nat × Option (Bool × Nat))) (us : List U) : Option (St × (Ex → St → Option U)) := match q / 100000 with
  | 0 => some (start us, finish rs)
  | 1 => some (start us, finishF rs)
  | 2 => match us with
    | .agg [.tup [.sl k xs]] :: us' => some (startM k xs us', finishM k rs)
    | _ => none
  | 3 => match us with
    | .agg [.tup [.sl k xs]] :: us' => some (startM k xs us', finishF rs)
    | _ => none
  | 4 => match us with
    | .agg [.tup [c]] :: us' => some (startP c us', finishP rs)
    | _ => none
  | 5 => match us with
    | .agg [.tup [c]] :: us' => some (startL c us', finishP rs)
    | _ => none
  | _ => none
noncomputable def runQ (q : Nat) (E : Env) (c : AC) (rs : List (Nat × Option (Bool × Nat))) (us : List U) : Option U := (setup q rs us).bind fun x => exec E c x.1 x.2
end Go.Proofs.Ytboenehajoaahaa.Am
