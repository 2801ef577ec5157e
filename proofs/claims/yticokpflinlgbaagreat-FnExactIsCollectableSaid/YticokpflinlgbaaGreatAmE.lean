import Derived.Test.YticokpflinlgbaaGreatAmD
/-
  The abstract machine's code and its meaning, in the style of continuations: every way through the code ends in what the continuation says, or in 'none'.
-/
namespace Go.Proofs.YticokpflinlgbaaGreat.Am
open Go

inductive Opd where
  | t (n : Nat)
  | c (u : U)
  deriving Inhabited

def Opd.ev (fr : Frm) : Opd → D
  | .t n => fr n
  | .c u => .val u

inductive AOp where
  | mv (x : Opd)
  | pick (c a b : Opd)
  | box (fz : Bool) (x : Opd)
  | alloc (z : U)
  | build (z : List U) (parts : List (Nat × Opd))
  | bslice (frozen : Bool) (k n : Nat) (z : U) (parts : List (Nat × Opd))
  | load (agg : Bool) (size : Nat) (a : Opd)
  | store (size : Nat) (a x : Opd)
  | nilck (x : Opd)
  | bin (op : BinOp) (x y : Opd)
  | eqv (neg : Bool) (cls : Nat) (x y : Opd)
  | un (op : UnOp) (x : Opd)
  | conv (k : IntKind) (x : Opd)
  | mkfn (r : Nat) (caps : List Opd)
  | mkslice (k bytes : Nat) (z : U) (len cap : Opd)
  | slice (str : Bool) (k : Nat) (x : Opd) (lo hi : Option Opd)
  | faddr (j off : Nat) (x : Opd)
  | iaddr (k : Nat) (x i : Opd)
  | aaddr (n k : Nat) (x i : Opd)
  | field (agg : Bool) (size j off : Nat) (x : Opd)
  | idxs (x i : Opd)
  | idxa (agg : Bool) (size n k : Nat) (x i : Opd)
  | extract (j : Nat) (x : Opd)
  | call (fl : Bool) (r : Nat) (args : List Opd)
  | callv (fl : Bool) (f : Opd) (args : List Opd)
  | callF (k r : Nat) (args : List Opd)
  | callM (k r : Nat) (x : Opd) (args : List Opd)
  | len (str : Bool) (x : Opd)
  | append (k bytes : Nat) (s x : Opd)
  | minmax (mx : Bool) (xs : List Opd)
  deriving Inhabited

structure AOper where
  dst : Option Nat
  op : AOp
  guard : Option (Nat × Bool) := none
  deriving Inhabited

/-- What is alive at a loop's head: slots; slots that hold a slice of the call's own (with its elements' size); variables. -/
structure Live where
  ss : List Nat
  as : List (Nat × Nat)
  rs : List Nat
  deriving Inhabited

inductive AC where
  | skip
  | region (k : Nat) (ops : List AOper)
  | seq (a b : AC)
  | cond (c : Opd) (thn els : AC)
  | block (id : Nat) (body : AC)
  | loop (l : Live) (body : AC)
  | exit (id : Nat)
  | ret
  deriving Inhabited

/-! ### Pure data -/
def U.bin : BinOp → U → U → Option U
  | op, .int k a, .int k' b => if k = k' then
      match op with
      | .add => some (.int k (k.wrap (a + b)))
      | .sub => some (.int k (k.wrap (a - b)))
      | .mul => some (.int k (k.wrap (a * b)))
      | .quo => if b = 0 then none else some (.int k (k.wrap (a.tdiv b)))
      | .rem => if b = 0 then none else some (.int k (a.tmod b))
      | .eql => some (.bool (a == b))
      | .neq => some (.bool (a != b))
      | .lss => some (.bool (decide (a < b)))
      | .leq => some (.bool (decide (a ≤ b)))
      | .gtr => some (.bool (decide (a > b)))
      | .geq => some (.bool (decide (a ≥ b)))
      | _ => none
    else none
  | .add, .str a, .str b => if a.size + b.size ≤ 140737488355328 then some (.str (a ++ b)) else none
  | .eql, .str a, .str b => some (.bool (a.toList == b.toList))
  | .neq, .str a, .str b => some (.bool !(a.toList == b.toList))
  | _, _, _ => none

/-- Whole numbers, pair by pair. -/
def eqInts : List U → List U → Option Bool
  | [], [] => some true
  | .int .i64 a :: us, .int .i64 b :: vs => (eqInts us vs).map fun r => (a == b) && r
  | _, _ => none

/-- Equality of bools (0), of a pointer and nil (1), of structs of n ints (n + 2). -/
def U.eqv : Nat → U → U → Option Bool
  | 0, .bool a, .bool b => some (a == b)
  | 1, .nil, .nil => some true
  | 1, .vp _, .nil => some false
  | n + 2, .agg us, .agg vs => if us.length = n then eqInts us vs else none
  | _, _, _ => none

def U.un : UnOp → U → Option U
  | .not, .bool b => some (.bool !b)
  | .neg, .int k n => some (.int k (k.wrap (0 - n)))
  | _, _ => none

def U.conv (k : IntKind) : U → Option U
  | .int _ n => some (.int k (k.wrap n))
  | _ => none

def U.asInt {α : Type} (u : U) (K : Int → Option α) : Option α := match u with
  | .int .i64 n => K n
  | _ => none

def U.elemAt {α : Type} (k : Nat) (u : U) (i : Int) (K : U → Option α) : Option α := match u with
  | .sl k' us => if k' = k then (if 0 ≤ i then (us[i.toNat]?).bind K else none) else none
  | _ => none

def U.fieldAt {α : Type} (j off : Nat) (u : U) (K : U → Option α) : Option α := match u with
  | .agg us => if off = sizes (us.take j) then (us[j]?).bind K else none
  | _ => none

def U.charAt {α : Type} (u : U) (i : Int) (K : U → Option α) : Option α := match u with
  | .str s => if 0 ≤ i then (s[i.toNat]?).bind fun b => K (.int .u8 b.toNat) else none
  | _ => none

def U.part {α : Type} (j : Nat) (u : U) (K : U → Option α) : Option α := match u with
  | .tup us => (us[j]?).bind K
  | _ => none

def U.lenOf : Bool → U → Option Nat
  | false, .sl _ us => some us.length
  | false, .nsl _ => some 0
  | true, .str s => some s.size
  | _, _ => none

def U.cut (str : Bool) (k : Nat) (u : U) (lo hi : Option Int) : Option U := match str, u with
  | false, .sl k' us =>
    let h := hi.getD us.length
    let l := lo.getD 0
    if k' = k ∧ 0 ≤ l ∧ l ≤ h ∧ h ≤ us.length then some (.sl k ((us.take h.toNat).drop l.toNat)) else none
  | true, .str s =>
    let h := hi.getD s.size
    let l := lo.getD 0
    if 0 ≤ l ∧ l ≤ h ∧ h ≤ s.size then some (.str (s.extract l.toNat h.toNat)) else none
  | _, _ => none

def U.elems (k : Nat) : U → Option (List U)
  | .sl k' us => if k' = k then some us else none
  | .nsl k' => if k' = k then some [] else none
  | _ => none

def U.asBool {α : Type} (u : U) (T F : Option α) : Option α := match u with
  | .bool true => T
  | .bool false => F
  | _ => none

def U.asVp {α : Type} (u : U) (K : U → Option α) : Option α := match u with
  | .vp u => K u
  | _ => none

def U.asSl {α : Type} (u : U) (K : Nat → List U → Option α) : Option α := match u with
  | .sl k us => K k us
  | _ => none

def U.asFn {α : Type} (u : U) (K : Nat → List U → Option α) : Option α := match u with
  | .fn r us => K r us
  | _ => none

def U.asNsl {α : Type} (u : U) (K : Nat → Option α) : Option α := match u with
  | .nsl k => K k
  | _ => none

/-- Data without places. -/
def U.flat : U → Bool
  | .int _ _ | .bool _ | .str _ | .nil | .nsl _ => true
  | .agg us | .tup us => flats us
  | _ => false
where flats : List U → Bool
  | [] => true
  | u :: us => u.flat && flats us

/-- What a call hands back that changes a slice of its caller's. -/
def U.asMut {α : Type} (k : Nat) (u : U) (K : U → List U → Option α) : Option α := match u with
  | .tup [x, .sl k' ys] => if k' = k then K x ys else none
  | _ => none

def U.asFlat {α : Type} (u : U) (K : U → Option α) : Option α := if u.flat = true then K u else none

def U.noTup {α : Type} (u : U) (K : U → Option α) : Option α := match u with
  | .tup _ => none
  | u => K u

/-- Read as a variable of this make. -/
def U.asVar {α : Type} (agg : Bool) (size : Nat) (u : U) (K : U → Option α) : Option α :=
  if (D.val u).isAgg = agg ∧ u.size = size then K u else none

/-! ### The machine's values -/
/-- Data as they are seen now. -/
def snap (Γ : Hp) : Nat → D → Option U
  | _, .val u => some u
  | 0, _ => none
  | n + 1, .agg ds => (snaps (snap Γ n) ds).map .agg
  | _ + 1, .ref R k none => match Γ R with
    | some (.arr k' us) => if k' = k then some (.sl k us) else none
    | _ => none
  | _ + 1, .ref R k (some (off, len)) => match Γ R with
    | some (.arr k' us) => if k' = k ∧ off + len ≤ us.length then some (.sl k ((us.drop off).take len)) else none
    | _ => none
  | n + 1, .ptr R p => match Γ R with
    | some c => (c.get p).bind fun d => (snap Γ n d).map .vp
    | none => none
  | n + 1, .fnv r caps => (snaps (snap Γ n) caps).map (.fn r)
  | _ + 1, _ => none
where snaps (f : D → Option U) : List D → Option (List U)
  | [] => some []
  | d :: ds => (f d).bind fun u => (snaps f ds).map (u :: ·)

abbrev snaps := snap.snaps

/-- The elements of a slice: of one that stands, or of the call's own. -/
def srcElems (Γ : Hp) (k : Nat) : D → Option (List U)
  | .val u => u.elems k
  | .ref R k' none => match Γ R with
    | some (.arr k2 us) => if k' = k ∧ k2 = k then some us else none
    | _ => none
  | .ref R k' (some (off, len)) => match Γ R with
    | some (.arr k2 us) => if k' = k ∧ k2 = k ∧ off + len ≤ us.length then some ((us.drop off).take len) else none
    | _ => none
  | _ => none

/-- What may be stored. -/
def storable : D → Bool
  | .val (.tup _) | .tup _ | .skip | .undef => false
  | _ => true

/-- What a closure may hold. -/
def capsOK : List D → Bool
  | [] => true
  | .ptr _ _ :: ds => capsOK ds
  | .val (.vp _) :: ds => capsOK ds
  | _ => false

inductive Eff where
  | v (d : D)
  | vnew (u : U)
  | cl (fl : Bool) (u : U)
  | new (c : Cn)
  | chg (R : Nat) (c : Cn)
  | swap (R : Nat) (c : Cn)
  | chgv (R : Nat) (c : Cn) (u : U)

def allVals : List D → Option (List U)
  | [] => some []
  | .val u :: ds => (allVals ds).map (u :: ·)
  | _ :: _ => none

def evs (fr : Frm) (xs : List Opd) : List D := xs.map (·.ev fr)

/-- Parts of a struct or an array, each of the size of what stood there. -/
def setParts {α : Type} (fr : Frm) (K : List D → Option α) : List D → List (Nat × Opd) → Option α
  | ds, [] => K ds
  | ds, (i, x) :: rest => (ds[i]?).bind fun d => if storable (x.ev fr) = true ∧ (x.ev fr).size = d.size then setParts fr K (ds.set i (x.ev fr)) rest else none

abbrev Env := Nat → List U → Option U

section
variable {α : Type}

def D.asVal (d : D) (K : U → Option α) : Option α := match d with
  | .val u => K u
  | _ => none

def D.asInt (d : D) (K : Int → Option α) : Option α := match d with
  | .val u => u.asInt K
  | _ => none

/-- The bound of a cut, if one is given. -/
def optInt (fr : Frm) (x : Option Opd) (K : Option Int → Option α) : Option α := match x with
  | none => K none
  | some x => (x.ev fr).asInt fun n => K (some n)

def intsOf (fr : Frm) : List Opd → (List Int → Option α) → Option α
  | [], K => K []
  | x :: xs, K => (x.ev fr).asInt fun n => intsOf fr xs fun ns => K (n :: ns)

/-- What a call hands back: 'fl': data without places only. -/
def U.res (fl : Bool) (u : U) (K : Eff → Option α) : Option α := match fl with
  | true => u.asFlat fun u => K (.cl true u)
  | false => K (.cl false u)

def AOp.step (E : Env) (fr : Frm) (Γ : Hp) (K : Eff → Option α) : AOp → Option α
  | .mv x => K (.v (x.ev fr))
  | .pick c a b => match c.ev fr with
    | .val u => u.asBool (K (.v (a.ev fr))) (K (.v (b.ev fr)))
    | _ => none
  | .box fz x => match x.ev fr with
    | .val u => u.noTup fun u => match fz with
      | true => K (.vnew (.vp u))
      | false => K (.new (.box (.val u)))
    | .tup _ | .skip | .undef => none
    | d => match fz with
      | true => none
      | false => K (.new (.box d))
  | .alloc z => K (.new (.box (.val z)))
  | .build z parts => setParts fr (fun ds => match allVals ds with
      | some us => K (.v (.val (.agg us)))
      | none => K (.v (.agg ds))) (z.map .val) parts
  | .bslice frozen k n z parts => if z.size = k then setParts fr (fun ds => (allVals ds).bind fun us =>
      if frozen then K (.vnew (.sl k us)) else K (.new (.arr k us))) (List.replicate n (.val z)) parts else none
  | .load agg size a => match a.ev fr with
    | .val u => u.asVp fun u => u.asVar agg size fun u => K (.v (.val u))
    | .ptr R p => match Γ R with
      | some c => c.getK (fun d => match d with
        | .val u => u.asVar agg size fun u => K (.v (.val u))
        | d => if d.isAgg = agg ∧ d.size = size then K (.v d) else none) p
      | none => none
    | _ => none
  | .store size a x => match a.ev fr with
    | .ptr R p => match Γ R with
      | some c => if storable (x.ev fr) = true ∧ (x.ev fr).size = size then c.setK size (x.ev fr) (fun c' => K (.chg R c')) p else none
      | none => none
    | _ => none
  | .nilck x => match x.ev fr with
    | .val u => u.asVp fun u => K (.v (.val (.vp u)))
    | .ptr R p => K (.v (.ptr R p))
    | _ => none
  | .bin op x y => (x.ev fr).asVal fun a => (y.ev fr).asVal fun b => (U.bin op a b).bind fun u => K (.v (.val u))
  | .eqv neg cls x y => match x.ev fr with
    | .val a => (y.ev fr).asVal fun b => (U.eqv cls a b).bind fun t => K (.v (.val (.bool (if neg then !t else t))))
    | .ptr _ _ => match cls, y.ev fr with
      | 1, .val .nil => K (.v (.val (.bool neg)))
      | _, _ => none
    | _ => none
  | .un op x => (x.ev fr).asVal fun a => (U.un op a).bind fun u => K (.v (.val u))
  | .conv k x => (x.ev fr).asVal fun a => (U.conv k a).bind fun u => K (.v (.val u))
  | .mkfn r caps => if capsOK (evs fr caps) then K (.v (.fnv r (evs fr caps))) else none
  | .mkslice k bytes z l0 c0 => (l0.ev fr).asInt fun l => (c0.ev fr).asInt fun c =>
      if 0 ≤ l ∧ l ≤ c ∧ c * bytes ≤ 140737488355328 ∧ z.size = k then K (.new (.arr k (List.replicate l.toNat z))) else none
  | .slice str k x lo hi => match x.ev fr with
    | .val u => optInt fr lo fun l => optInt fr hi fun h => (U.cut str k u l h).bind fun u' => K (.v (.val u'))
    | .ref R k' none => match Γ R with
      | some (.arr k2 us) => optInt fr lo fun l => optInt fr hi fun h =>
          if str = false ∧ k' = k ∧ k2 = k ∧ 0 ≤ l.getD 0 ∧ l.getD 0 ≤ h.getD us.length ∧ h.getD us.length ≤ us.length then
            K (.v (.ref R k (some ((l.getD 0).toNat, (h.getD us.length).toNat - (l.getD 0).toNat)))) else none
      | _ => none
    | _ => none
  | .faddr j off x => match x.ev fr with
    | .val u => u.asVp fun u => u.fieldAt j off fun u' => K (.v (.val (.vp u')))
    | .ptr R p => K (.v (.ptr R (p ++ [.fld j off])))
    | _ => none
  | .iaddr k x i => match x.ev fr with
    | .val u => (i.ev fr).asInt fun n => u.elemAt k n fun u' => K (.v (.val (.vp u')))
    | .ref R k' none => match Γ R with
      | some (.arr k2 us) => (i.ev fr).asInt fun n => if k' = k ∧ k2 = k ∧ 0 ≤ n ∧ n < us.length then K (.v (.ptr R [.elt n.toNat k])) else none
      | _ => none
    | .ref R k' (some (off, m)) => match Γ R with
      | some (.arr k2 us) => (i.ev fr).asInt fun n => if k' = k ∧ k2 = k ∧ 0 ≤ n ∧ n < m ∧ off + m ≤ us.length then K (.v (.ptr R [.elt (off + n.toNat) k])) else none
      | _ => none
    | _ => none
  | .aaddr n k x i => match x.ev fr with
    | .ptr R p => (i.ev fr).asInt fun m => if 0 ≤ m ∧ m < n then K (.v (.ptr R (p ++ [.fld m.toNat (m.toNat * k)]))) else none
    | _ => none
  | .field agg size j off x => (x.ev fr).asVal fun u => u.fieldAt j off fun u' => u'.asVar agg size fun u' => K (.v (.val u'))
  | .idxa agg size n k x i => (x.ev fr).asVal fun u => (i.ev fr).asInt fun m => if 0 ≤ m ∧ m < n then u.fieldAt m.toNat (m.toNat * k) fun u' => u'.asVar agg size fun u' => K (.v (.val u')) else none
  | .idxs x i => (x.ev fr).asVal fun u => (i.ev fr).asInt fun n => u.charAt n fun u' => K (.v (.val u'))
  | .extract j x => match x.ev fr with
    | .val u => u.part j fun u' => K (.v (.val u'))
    | .tup ds => (ds[j]?).bind fun d => K (.v d)
    | _ => none
  | .call fl r args => match allVals (evs fr args) with
    | some us => (E r us).bind fun u => u.res fl K
    | none => (snaps (snap Γ 8) (evs fr args)).bind fun us => (E r us).bind fun u => u.res true K
  | .callv fl f args => match allVals (f.ev fr :: evs fr args) with
    | some us => (us[0]?).bind fun g => g.asFn fun r caps => (E r (us.tail ++ caps)).bind fun u => u.res fl K
    | none => (snap Γ 8 (f.ev fr)).bind fun g => g.asFn fun r caps => (snaps (snap Γ 8) (evs fr args)).bind fun us => (E r (us ++ caps)).bind fun u => u.res true K
  | .callF k r args => (snaps (snap Γ 8) (evs fr args)).bind fun us => (E (100000 + r) us).bind fun u => u.asSl fun k' xs => if k' = k ∧ U.flat.flats xs = true then K (.new (.arr k xs)) else none
  | .callM k r x args => match x.ev fr with
    | .ref R k' none => match Γ R with
      | some (.arr k2 xs) => (allVals (evs fr args)).bind fun us => if k' = k ∧ k2 = k ∧ U.flat.flats xs = true then
          (E (200000 + r) (.agg [.tup [.sl k xs]] :: us)).bind fun u => u.asMut k fun y ys => if y.flat = true ∧ U.flat.flats ys = true then K (.chgv R (.arr k ys) y) else none else none
      | _ => none
    | _ => none
  | .len str x => match x.ev fr with
    | .val u => (U.lenOf str u).bind fun n => K (.v (.val (.int .i64 n)))
    | .ref _ _ (some (_, m)) => if str then none else K (.v (.val (.int .i64 m)))
    | .ref R _ none => match Γ R with
      | some (.arr _ us) => if str then none else K (.v (.val (.int .i64 us.length)))
      | _ => none
    | _ => none
  | .append k bytes s x => (srcElems Γ k (x.ev fr)).bind fun ys => match s.ev fr with
    | .val u => u.asNsl fun k' => if k' = k ∧ ys.length * bytes ≤ 140737488355328 then K (.new (.arr k ys)) else none
    | .ref R k' none => match Γ R with
      | some (.arr k2 us) => if k' = k ∧ k2 = k ∧ (us.length + ys.length) * bytes ≤ 140737488355328 then K (.swap R (.arr k (us ++ ys))) else none
      | _ => none
    | _ => none
  | .minmax mx xs => intsOf fr xs fun ns => match ns with
    | [] => none
    | n :: ns => K (.v (.val (.int .i64 (ns.foldl (fun a b => if mx then (if a < b then b else a) else (if b < a then b else a)) n))))

structure St where
  fr : Frm
  Γ : Hp

/-- The slot of a variable that is made. -/
def Cn.slot (R : Nat) : Cn → D
  | .box _ => .ptr R []
  | .arr k _ => .ref R k none

def Eff.apply (dr : Bool) (dst : Option Nat) (s : St) (K : St → Option α) : Eff → Option α
  | .v d => K ⟨s.fr.put dst d, s.Γ⟩
  | .cl _ u => K ⟨s.fr.put dst (.val u), s.Γ⟩
  | .vnew u => K ⟨s.fr.put dst (.val u), s.Γ⟩
  | .new c => match dr, dst with
    | false, some R => if R < 5000 then K ⟨(s.fr.purge R).put (some R) (c.slot R), upd (s.Γ.purge R) R (some (c.purge R))⟩ else none
    | _, _ => none
  | .chg R c => match dr with
    | true => none
    | false => K ⟨s.fr.put dst .skip, upd s.Γ R (some c)⟩
  | .chgv R c u => match dr with
    | true => none
    | false => K ⟨s.fr.put dst (.val u), upd s.Γ R (some c)⟩
  | .swap R0 c => match dr, dst with
    | false, some R => if R < 5000 then K ⟨(s.fr.purge R).put (some R) (c.slot R), upd (Hp.purge (upd s.Γ R0 none) R) R (some (c.purge R))⟩ else none
    | _, _ => none

def AOper.exec (dr : Bool) (E : Env) (o : AOper) (s : St) (K : St → Option α) : Option α :=
  let go (s : St) : Option α := o.op.step E s.fr s.Γ fun e => e.apply dr o.dst s K
  let no (s : St) : Option α := K ⟨s.fr.put o.dst .skip, s.Γ⟩
  match o.guard with
  | none => go s
  | some (g, want) => match s.fr g with
    | .skip => no s
    | .val u => u.asBool
        ((fun s => if want then go s else no s) ⟨s.fr.put (some g) (.val (.bool true)), s.Γ⟩)
        ((fun s => if want then no s else go s) ⟨s.fr.put (some g) (.val (.bool false)), s.Γ⟩)
    | _ => none

def execOps (dr : Bool) (E : Env) : List AOper → St → (St → Option α) → Option α
  | [], s, K => K s
  | o :: os, s, K => o.exec dr E s fun s' => execOps dr E os s' K

inductive Ex where
  | normal
  | exit (id : Nat)
  | ret

abbrev Packed := List D × List Cn

/-- Slices of the call's own get the numbers of the slots that hold them. -/
def adoptAs : List (Nat × Nat) → St → Option St
  | [], s => some s
  | (n, k) :: as, s => match s.fr n with
    | .ref R0 k' none => match s.Γ R0 with
      | some (.arr k2 us) => if k' = k ∧ k2 = k ∧ n < 4000 then
          adoptAs as ⟨(s.fr.purge (1000 + n)).put (some n) (.ref (1000 + n) k none), upd (Hp.purge (upd s.Γ R0 none) (1000 + n)) (1000 + n) (some (.arr k us))⟩ else none
      | _ => none
    | .val (.nsl k') => if k' = k ∧ n < 4000 then
        adoptAs as ⟨(s.fr.purge (1000 + n)).put (some n) (.ref (1000 + n) k none), upd (s.Γ.purge (1000 + n)) (1000 + n) (some (.arr k []))⟩ else none
    | _ => none

def takeRoots (Γ : Hp) : List Nat → Option (List Cn)
  | [] => some []
  | R :: rs => (Γ R).bind fun c => (takeRoots Γ rs).map (c :: ·)

def takeArrs (s : St) : List (Nat × Nat) → Option (List Cn)
  | [] => some []
  | (n, k) :: as => match s.fr n with
    | .ref R k' none => if R = 1000 + n ∧ k' = k then (s.Γ R).bind fun c => (takeArrs s as).map (c :: ·) else none
    | _ => none

def pack (l : Live) (s : St) : Option Packed :=
  (adoptAs l.as s).bind fun s => (takeArrs s l.as).bind fun qs => (takeRoots s.Γ l.rs).bind fun cs => some (l.ss.map s.fr, qs ++ cs)

def unpackFr (ss : List Nat) (ds : List D) (fr : Frm) : Frm := match ss, ds with
  | s :: ss, d :: ds => (unpackFr ss ds fr).put (some s) d
  | _, _ => fr

def unpackAs (as : List (Nat × Nat)) (cs : List Cn) (s : St) : St × List Cn := match as, cs with
  | (n, k) :: as, c :: cs => let (s', rest) := unpackAs as cs s; (⟨s'.fr.put (some n) (.ref (1000 + n) k none), upd s'.Γ (1000 + n) (some c)⟩, rest)
  | _, cs => (s, cs)

def unpackRs (rs : List Nat) (cs : List Cn) (Γ : Hp) : Hp := match rs, cs with
  | R :: rs, c :: cs => upd (unpackRs rs cs Γ) R (some c)
  | _, _ => Γ

def unpack (l : Live) (p : Packed) : St :=
  let (s, cs) := unpackAs l.as p.2 ⟨unpackFr l.ss p.1 fun _ => .undef, fun _ => none⟩
  ⟨s.fr, unpackRs l.rs cs s.Γ⟩

/-- A loop's meaning: the limit of its unfoldings. -/
def loopN (F : (Packed → Option α) → Packed → Option α) : Nat → Packed → Option α
  | 0, _ => none
  | n + 1, p => F (loopN F n) p

open Classical in
noncomputable def loopK (F : (Packed → Option α) → Packed → Option α) (p : Packed) : Option α :=
  if h : ∃ n r, loopN F n p = some r then some h.choose_spec.choose else none

/-- What is to be done behind the first part of two. -/
def seqK (f : St → Option α) (K : Ex → St → Option α) : Ex → St → Option α
  | .normal, s => f s
  | e, s => K e s

/-- What is to be done behind a block's body. -/
def blockK (id : Nat) (K : Ex → St → Option α) : Ex → St → Option α
  | .exit id', s => if id' = id then K .normal s else K (.exit id') s
  | e, s => K e s

/-- What is to be done behind a loop's round. -/
def roundK (l : Live) (rec : Packed → Option α) (K : Ex → St → Option α) : Ex → St → Option α
  | .normal, s => (pack l s).bind rec
  | e, s => K e s

noncomputable def exec (E : Env) : AC → St → (Ex → St → Option α) → Option α
  | .skip, s, K => K .normal s
  | .region k ops, s, K => execOps true E (ops.take k) s fun s => execOps false E (ops.drop k) s (K .normal)
  | .seq a b, s, K => exec E a s (seqK (fun s' => exec E b s' K) K)
  | .cond c a b, s, K => match c.ev s.fr with
    | .val u => u.asBool (exec E a s K) (exec E b s K)
    | _ => none
  | .block id c, s, K => exec E c s (blockK id K)
  | .loop l c, s, K => (pack l s).bind (loopK fun rec p => exec E c (unpack l p) (roundK l rec K))
  | .exit id, s, K => K (.exit id) s
  | .ret, s, K => K .ret s
end

/-! ### A function -/
/-- A result: a slot, or what the variable holds that a slot points at ('agg', 'size': its make). -/
def resOf {α : Type} (s : St) (K : U → Option α) : Nat × Option (Bool × Nat) → Option α
  | (t, none) => (snap s.Γ 8 (s.fr t)).bind K
  | (t, some (agg, size)) => match s.fr t with
    | .ptr R p => match s.Γ R with
      | some c => (c.get p).bind fun d => (snap s.Γ 8 d).bind fun u => u.asVar agg size K
      | none => none
    | _ => none

def resAll {α : Type} (s : St) : List (Nat × Option (Bool × Nat)) → (List U → Option α) → Option α
  | [], K => K []
  | r :: rs, K => resOf s (fun u => u.noTup fun u => resAll s rs fun us => K (u :: us)) r

def results (s : St) : List (Nat × Option (Bool × Nat)) → Option U
  | [r] => resOf s some r
  | rs => resAll s rs fun us => some (.tup us)

def finish (rs : List (Nat × Option (Bool × Nat))) (e : Ex) (s : St) : Option U := match e with
  | .exit _ => none
  | _ => results s rs

def start (us : List U) : St := ⟨fun i => match us[i]? with | some u => .val u | none => .skip, fun _ => none⟩

noncomputable def run (E : Env) (c : AC) (rs : List (Nat × Option (Bool × Nat))) (us : List U) : Option U := exec E c (start us) (finish rs)

/-- .. of which the result is a new slice of flat data. -/
def finishF (rs : List (Nat × Option (Bool × Nat))) (e : Ex) (s : St) : Option U := match e, rs with
  | .exit _, _ => none
  | _, [(t, none)] => match s.fr t with
    | .ref R k none => match s.Γ R with
      | some (.arr k' us) => if k' = k ∧ U.flat.flats us = true then some (.sl k us) else none
      | _ => none
    | .val (.nsl k) => some (.sl k [])
    | _ => none
  | _, _ => none

/-- .. that is given a slice of its caller's to change: variable 5000. -/
def startM (k : Nat) (xs : List U) (us : List U) : St := ⟨fun i => match i with | 0 => .ref 5000 k none | i + 1 => (start us).fr i, fun R => if R = 5000 then some (.arr k xs) else none⟩

def finishM (k : Nat) (rs : List (Nat × Option (Bool × Nat))) (e : Ex) (s : St) : Option U := (finish rs e s).bind fun y => match s.Γ 5000 with
  | some (.arr k' ys) => if k' = k ∧ y.flat = true ∧ U.flat.flats ys = true then some (.tup [y, .sl k ys]) else none
  | _ => none

/-- The function number q: from 100000 on it hands back a new slice, from 200000 on it changes its first argument. -/
def setup (q : Nat) (rs : List (Nat × Option (Bool × Nat))) (us : List U) : Option (St × (Ex → St → Option U)) := match q / 100000 with
  | 0 => some (start us, finish rs)
  | 1 => some (start us, finishF rs)
  | _ => match us with
    | .agg [.tup [.sl k xs]] :: us' => some (startM k xs us', finishM k rs)
    | _ => none

noncomputable def runQ (q : Nat) (E : Env) (c : AC) (rs : List (Nat × Option (Bool × Nat))) (us : List U) : Option U := (setup q rs us).bind fun x => exec E c x.1 x.2
end Go.Proofs.YticokpflinlgbaaGreat.Am
