import Derived.Test.YtlgblpngiamhaaaGreatAmX
import Derived.Test.YtlgblpngiamhaaaGreatAmEd
import Derived.Test.YtlgblpngiamhaaaGreatHistoryOfF0
import Derived.Test.YtlgblpngiamhaaaGreatAmSs
import Derived.Test.YtlgblpngiamhaaaGreatHistoryOfF1
namespace Go.Proofs.YtlgblpngiamhaaaGreat.Am
open Go
variable {α:Type}
def intU (n:Int):U:=.int .i64 n
@[simp] theorem Qah0 (n:Int):(intU n).size = 1:=rfl
@[simp] theorem Qag3 (n:Int) (K:U→Option α):U.asVar false 1 (intU n) K = K (.int .i64 n):=rfl
@[simp] theorem Qai5 (n:Int):storable (.val (intU n)) = true:=rfl
@[simp] theorem Qaip (n:Int):partable (.val (intU n)) = true:=rfl
abbrev intsU (l:List Int):U:=.sl 1 (l.map intU)
theorem Edge.eq_iff (x y:Edge):x = y ↔ x.frm = y.frm ∧ x.to = y.to ∧ x.kind = y.kind ∧ x.key = y.key:=by cases x; cases y; simp only [Edge.mk.injEq]
@[simp] theorem Edge.u_size (e:Edge):e.u.size = 4:=rfl
@[simp] theorem Edge.u_var (e:Edge) (K:U→Option α):U.asVar true 4 e.u K = K e.u:=rfl
@[simp] theorem Edge.u_storable (e:Edge):storable (.val e.u) = true:=rfl
@[simp] theorem Edge.u_partable (e:Edge):partable (.val e.u) = true:=rfl
@[simp] theorem Edge.u_noTup (e:Edge) (K:U→Option α):U.noTup e.u K = K e.u:=rfl
@[simp] theorem Edge.u_agg (e:Edge) (K:List U→Option α):U.asAgg e.u K = K [.int .i64 e.frm,.int .i64 e.to,.int .i64 e.kind,.int .i64 e.key]:=rfl
@[simp] theorem Edge.u_at0 (e:Edge) (K:U→Option α):U.fieldAt 0 0 e.u K = K (.int .i64 e.frm):=rfl
@[simp] theorem Edge.u_at1 (e:Edge) (K:U→Option α):U.fieldAt 1 1 e.u K = K (.int .i64 e.to):=rfl
@[simp] theorem Edge.u_at2 (e:Edge) (K:U→Option α):U.fieldAt 2 2 e.u K = K (.int .i64 e.kind):=rfl
@[simp] theorem Edge.u_at3 (e:Edge) (K:U→Option α):U.fieldAt 3 3 e.u K = K (.int .i64 e.key):=rfl
@[simp] theorem Edge.u_flat (e:Edge):e.u.flat = true:=rfl
@[simp] theorem Edge.u_asFlat (e:Edge) (K:U→Option α):U.asFlat e.u K = K e.u:=rfl
@[simp] theorem Edge.u_eqv (x y:Edge):U.eqv 6 x.u y.u = some (decide (x = y)):=by
 obtain ⟨a0,a1,a2,a3⟩:=x
 obtain ⟨b0,b1,b2,b3⟩:=y
 simp only [Edge.mk.injEq]
 show (if 4 = 4 then eqInts _ _ else none) = _
 simp only [if_true,Qcf,Qcg,Option.map_some,Bool.decide_and,Bool.and_true]
 rfl
structure ReadMark where
 key:Int
 created:Int
 deriving DecidableEq
theorem ReadMark.eq_iff (x y:ReadMark):x = y ↔ x.key = y.key ∧ x.created = y.created:=by cases x; cases y; simp only [ReadMark.mk.injEq]
def ReadMark.u (e:ReadMark):U:=.agg [.int .i64 e.key,.int .i64 e.created]
@[simp] theorem ReadMark.u_size (e:ReadMark):e.u.size = 2:=rfl
@[simp] theorem ReadMark.u_var (e:ReadMark) (K:U→Option α):U.asVar true 2 e.u K = K e.u:=rfl
@[simp] theorem ReadMark.u_storable (e:ReadMark):storable (.val e.u) = true:=rfl
@[simp] theorem ReadMark.u_partable (e:ReadMark):partable (.val e.u) = true:=rfl
@[simp] theorem ReadMark.u_noTup (e:ReadMark) (K:U→Option α):U.noTup e.u K = K e.u:=rfl
@[simp] theorem ReadMark.u_agg (e:ReadMark) (K:List U→Option α):U.asAgg e.u K = K [.int .i64 e.key,.int .i64 e.created]:=rfl
@[simp] theorem ReadMark.u_at0 (e:ReadMark) (K:U→Option α):U.fieldAt 0 0 e.u K = K (.int .i64 e.key):=rfl
@[simp] theorem ReadMark.u_at1 (e:ReadMark) (K:U→Option α):U.fieldAt 1 1 e.u K = K (.int .i64 e.created):=rfl
@[simp] theorem ReadMark.u_flat (e:ReadMark):e.u.flat = true:=rfl
@[simp] theorem ReadMark.u_asFlat (e:ReadMark) (K:U→Option α):U.asFlat e.u K = K e.u:=rfl
@[simp] theorem ReadMark.u_eqv (x y:ReadMark):U.eqv 4 x.u y.u = some (decide (x = y)):=by
 obtain ⟨a0,a1⟩:=x
 obtain ⟨b0,b1⟩:=y
 simp only [ReadMark.mk.injEq]
 show (if 2 = 2 then eqInts _ _ else none) = _
 simp only [if_true,Qcf,Qcg,Option.map_some,Bool.decide_and,Bool.and_true]
 rfl
structure Write where
 key:Int
 value:Int
 deriving DecidableEq
theorem Write.eq_iff (x y:Write):x = y ↔ x.key = y.key ∧ x.value = y.value:=by cases x; cases y; simp only [Write.mk.injEq]
def Write.u (e:Write):U:=.agg [.int .i64 e.key,.int .i64 e.value]
@[simp] theorem Write.u_size (e:Write):e.u.size = 2:=rfl
@[simp] theorem Write.u_var (e:Write) (K:U→Option α):U.asVar true 2 e.u K = K e.u:=rfl
@[simp] theorem Write.u_storable (e:Write):storable (.val e.u) = true:=rfl
@[simp] theorem Write.u_partable (e:Write):partable (.val e.u) = true:=rfl
@[simp] theorem Write.u_noTup (e:Write) (K:U→Option α):U.noTup e.u K = K e.u:=rfl
@[simp] theorem Write.u_agg (e:Write) (K:List U→Option α):U.asAgg e.u K = K [.int .i64 e.key,.int .i64 e.value]:=rfl
@[simp] theorem Write.u_at0 (e:Write) (K:U→Option α):U.fieldAt 0 0 e.u K = K (.int .i64 e.key):=rfl
@[simp] theorem Write.u_at1 (e:Write) (K:U→Option α):U.fieldAt 1 1 e.u K = K (.int .i64 e.value):=rfl
@[simp] theorem Write.u_flat (e:Write):e.u.flat = true:=rfl
@[simp] theorem Write.u_asFlat (e:Write) (K:U→Option α):U.asFlat e.u K = K e.u:=rfl
@[simp] theorem Write.u_eqv (x y:Write):U.eqv 4 x.u y.u = some (decide (x = y)):=by
 obtain ⟨a0,a1⟩:=x
 obtain ⟨b0,b1⟩:=y
 simp only [Write.mk.injEq]
 show (if 2 = 2 then eqInts _ _ else none) = _
 simp only [if_true,Qcf,Qcg,Option.map_some,Bool.decide_and,Bool.and_true]
 rfl
structure Lock where
 key:Int
 owner:Int
 deriving DecidableEq
theorem Lock.eq_iff (x y:Lock):x = y ↔ x.key = y.key ∧ x.owner = y.owner:=by cases x; cases y; simp only [Lock.mk.injEq]
def Lock.u (e:Lock):U:=.agg [.int .i64 e.key,.int .i64 e.owner]
@[simp] theorem Lock.u_size (e:Lock):e.u.size = 2:=rfl
@[simp] theorem Lock.u_var (e:Lock) (K:U→Option α):U.asVar true 2 e.u K = K e.u:=rfl
@[simp] theorem Lock.u_storable (e:Lock):storable (.val e.u) = true:=rfl
@[simp] theorem Lock.u_partable (e:Lock):partable (.val e.u) = true:=rfl
@[simp] theorem Lock.u_noTup (e:Lock) (K:U→Option α):U.noTup e.u K = K e.u:=rfl
@[simp] theorem Lock.u_agg (e:Lock) (K:List U→Option α):U.asAgg e.u K = K [.int .i64 e.key,.int .i64 e.owner]:=rfl
@[simp] theorem Lock.u_at0 (e:Lock) (K:U→Option α):U.fieldAt 0 0 e.u K = K (.int .i64 e.key):=rfl
@[simp] theorem Lock.u_at1 (e:Lock) (K:U→Option α):U.fieldAt 1 1 e.u K = K (.int .i64 e.owner):=rfl
@[simp] theorem Lock.u_flat (e:Lock):e.u.flat = true:=rfl
@[simp] theorem Lock.u_asFlat (e:Lock) (K:U→Option α):U.asFlat e.u K = K e.u:=rfl
@[simp] theorem Lock.u_eqv (x y:Lock):U.eqv 4 x.u y.u = some (decide (x = y)):=by
 obtain ⟨a0,a1⟩:=x
 obtain ⟨b0,b1⟩:=y
 simp only [Lock.mk.injEq]
 show (if 2 = 2 then eqInts _ _ else none) = _
 simp only [if_true,Qcf,Qcg,Option.map_some,Bool.decide_and,Bool.and_true]
 rfl
structure Wait where
 id:Int
 for_:Int
 deriving DecidableEq
theorem Wait.eq_iff (x y:Wait):x = y ↔ x.id = y.id ∧ x.for_ = y.for_:=by cases x; cases y; simp only [Wait.mk.injEq]
def Wait.u (e:Wait):U:=.agg [.int .i64 e.id,.int .i64 e.for_]
@[simp] theorem Wait.u_size (e:Wait):e.u.size = 2:=rfl
@[simp] theorem Wait.u_var (e:Wait) (K:U→Option α):U.asVar true 2 e.u K = K e.u:=rfl
@[simp] theorem Wait.u_storable (e:Wait):storable (.val e.u) = true:=rfl
@[simp] theorem Wait.u_partable (e:Wait):partable (.val e.u) = true:=rfl
@[simp] theorem Wait.u_noTup (e:Wait) (K:U→Option α):U.noTup e.u K = K e.u:=rfl
@[simp] theorem Wait.u_agg (e:Wait) (K:List U→Option α):U.asAgg e.u K = K [.int .i64 e.id,.int .i64 e.for_]:=rfl
@[simp] theorem Wait.u_at0 (e:Wait) (K:U→Option α):U.fieldAt 0 0 e.u K = K (.int .i64 e.id):=rfl
@[simp] theorem Wait.u_at1 (e:Wait) (K:U→Option α):U.fieldAt 1 1 e.u K = K (.int .i64 e.for_):=rfl
@[simp] theorem Wait.u_flat (e:Wait):e.u.flat = true:=rfl
@[simp] theorem Wait.u_asFlat (e:Wait) (K:U→Option α):U.asFlat e.u K = K e.u:=rfl
@[simp] theorem Wait.u_eqv (x y:Wait):U.eqv 4 x.u y.u = some (decide (x = y)):=by
 obtain ⟨a0,a1⟩:=x
 obtain ⟨b0,b1⟩:=y
 simp only [Wait.mk.injEq]
 show (if 2 = 2 then eqInts _ _ else none) = _
 simp only [if_true,Qcf,Qcg,Option.map_some,Bool.decide_and,Bool.and_true]
 rfl
structure Version where
 writer:Int
 value:Int
 created:Int
 reader:Int
 successor:Int
 deriving DecidableEq
theorem Version.eq_iff (x y:Version):x = y ↔ x.writer = y.writer ∧ x.value = y.value ∧ x.created = y.created ∧ x.reader = y.reader ∧ x.successor = y.successor:=by cases x; cases y; simp only [Version.mk.injEq]
def Version.u (e:Version):U:=.agg [.int .i64 e.writer,.int .i64 e.value,.int .i64 e.created,.int .i64 e.reader,.int .i64 e.successor]
@[simp] theorem Version.u_size (e:Version):e.u.size = 5:=rfl
@[simp] theorem Version.u_var (e:Version) (K:U→Option α):U.asVar true 5 e.u K = K e.u:=rfl
@[simp] theorem Version.u_storable (e:Version):storable (.val e.u) = true:=rfl
@[simp] theorem Version.u_partable (e:Version):partable (.val e.u) = true:=rfl
@[simp] theorem Version.u_noTup (e:Version) (K:U→Option α):U.noTup e.u K = K e.u:=rfl
@[simp] theorem Version.u_agg (e:Version) (K:List U→Option α):U.asAgg e.u K = K [.int .i64 e.writer,.int .i64 e.value,.int .i64 e.created,.int .i64 e.reader,.int .i64 e.successor]:=rfl
@[simp] theorem Version.u_at0 (e:Version) (K:U→Option α):U.fieldAt 0 0 e.u K = K (.int .i64 e.writer):=rfl
@[simp] theorem Version.u_at1 (e:Version) (K:U→Option α):U.fieldAt 1 1 e.u K = K (.int .i64 e.value):=rfl
@[simp] theorem Version.u_at2 (e:Version) (K:U→Option α):U.fieldAt 2 2 e.u K = K (.int .i64 e.created):=rfl
@[simp] theorem Version.u_at3 (e:Version) (K:U→Option α):U.fieldAt 3 3 e.u K = K (.int .i64 e.reader):=rfl
@[simp] theorem Version.u_at4 (e:Version) (K:U→Option α):U.fieldAt 4 4 e.u K = K (.int .i64 e.successor):=rfl
@[simp] theorem Version.u_flat (e:Version):e.u.flat = true:=rfl
@[simp] theorem Version.u_asFlat (e:Version) (K:U→Option α):U.asFlat e.u K = K e.u:=rfl
@[simp] theorem Version.u_eqv (x y:Version):U.eqv 7 x.u y.u = some (decide (x = y)):=by
 obtain ⟨a0,a1,a2,a3,a4⟩:=x
 obtain ⟨b0,b1,b2,b3,b4⟩:=y
 simp only [Version.mk.injEq]
 show (if 5 = 5 then eqInts _ _ else none) = _
 simp only [if_true,Qcf,Qcg,Option.map_some,Bool.decide_and,Bool.and_true]
 rfl
structure Entry where
 id:Int
 stamp:Int
 reads:List ReadMark
 writes:List Write
 deriving DecidableEq
theorem Entry.eq_iff (x y:Entry):x = y ↔ x.id = y.id ∧ x.stamp = y.stamp ∧ x.reads = y.reads ∧ x.writes = y.writes:=by cases x; cases y; simp only [Entry.mk.injEq]
def Entry.u (e:Entry):U:=.agg [.int .i64 e.id,.int .i64 e.stamp,.sl 2 (e.reads.map ReadMark.u),.sl 2 (e.writes.map Write.u)]
@[simp] theorem Entry.u_size (e:Entry):e.u.size = 4:=rfl
@[simp] theorem Entry.u_var (e:Entry) (K:U→Option α):U.asVar true 4 e.u K = K e.u:=rfl
@[simp] theorem Entry.u_storable (e:Entry):storable (.val e.u) = true:=rfl
@[simp] theorem Entry.u_partable (e:Entry):partable (.val e.u) = true:=rfl
@[simp] theorem Entry.u_noTup (e:Entry) (K:U→Option α):U.noTup e.u K = K e.u:=rfl
@[simp] theorem Entry.u_agg (e:Entry) (K:List U→Option α):U.asAgg e.u K = K [.int .i64 e.id,.int .i64 e.stamp,.sl 2 (e.reads.map ReadMark.u),.sl 2 (e.writes.map Write.u)]:=rfl
@[simp] theorem Entry.u_at0 (e:Entry) (K:U→Option α):U.fieldAt 0 0 e.u K = K (.int .i64 e.id):=rfl
@[simp] theorem Entry.u_at1 (e:Entry) (K:U→Option α):U.fieldAt 1 1 e.u K = K (.int .i64 e.stamp):=rfl
@[simp] theorem Entry.u_at2 (e:Entry) (K:U→Option α):U.fieldAt 2 2 e.u K = K (.sl 2 (e.reads.map ReadMark.u)):=rfl
@[simp] theorem Entry.u_at3 (e:Entry) (K:U→Option α):U.fieldAt 3 3 e.u K = K (.sl 2 (e.writes.map Write.u)):=rfl
structure LogRecord where
 stamp:Int
 id:Int
 high:Int
 safe:Int
 reads:List ReadMark
 writes:List Write
 deriving DecidableEq
theorem LogRecord.eq_iff (x y:LogRecord):x = y ↔ x.stamp = y.stamp ∧ x.id = y.id ∧ x.high = y.high ∧ x.safe = y.safe ∧ x.reads = y.reads ∧ x.writes = y.writes:=by cases x; cases y; simp only [LogRecord.mk.injEq]
def LogRecord.u (e:LogRecord):U:=.agg [.int .i64 e.stamp,.int .i64 e.id,.int .i64 e.high,.int .i64 e.safe,.sl 2 (e.reads.map ReadMark.u),.sl 2 (e.writes.map Write.u)]
@[simp] theorem LogRecord.u_size (e:LogRecord):e.u.size = 6:=rfl
@[simp] theorem LogRecord.u_var (e:LogRecord) (K:U→Option α):U.asVar true 6 e.u K = K e.u:=rfl
@[simp] theorem LogRecord.u_storable (e:LogRecord):storable (.val e.u) = true:=rfl
@[simp] theorem LogRecord.u_partable (e:LogRecord):partable (.val e.u) = true:=rfl
@[simp] theorem LogRecord.u_noTup (e:LogRecord) (K:U→Option α):U.noTup e.u K = K e.u:=rfl
@[simp] theorem LogRecord.u_agg (e:LogRecord) (K:List U→Option α):U.asAgg e.u K = K [.int .i64 e.stamp,.int .i64 e.id,.int .i64 e.high,.int .i64 e.safe,.sl 2 (e.reads.map ReadMark.u),.sl 2 (e.writes.map Write.u)]:=rfl
@[simp] theorem LogRecord.u_at0 (e:LogRecord) (K:U→Option α):U.fieldAt 0 0 e.u K = K (.int .i64 e.stamp):=rfl
@[simp] theorem LogRecord.u_at1 (e:LogRecord) (K:U→Option α):U.fieldAt 1 1 e.u K = K (.int .i64 e.id):=rfl
@[simp] theorem LogRecord.u_at2 (e:LogRecord) (K:U→Option α):U.fieldAt 2 2 e.u K = K (.int .i64 e.high):=rfl
@[simp] theorem LogRecord.u_at3 (e:LogRecord) (K:U→Option α):U.fieldAt 3 3 e.u K = K (.int .i64 e.safe):=rfl
@[simp] theorem LogRecord.u_at4 (e:LogRecord) (K:U→Option α):U.fieldAt 4 4 e.u K = K (.sl 2 (e.reads.map ReadMark.u)):=rfl
@[simp] theorem LogRecord.u_at5 (e:LogRecord) (K:U→Option α):U.fieldAt 5 5 e.u K = K (.sl 2 (e.writes.map Write.u)):=rfl
structure Transaction where
 id:Int
 scheme:Int
 state:Int
 begin_:Int
 low:Int
 high:Int
 commit:Int
 reads:List ReadMark
 writes:List Write
 deriving DecidableEq
theorem Transaction.eq_iff (x y:Transaction):x = y ↔ x.id = y.id ∧ x.scheme = y.scheme ∧ x.state = y.state ∧ x.begin_ = y.begin_ ∧ x.low = y.low ∧ x.high = y.high ∧ x.commit = y.commit ∧ x.reads = y.reads ∧ x.writes = y.writes:=by cases x; cases y; simp only [Transaction.mk.injEq]
def Transaction.u (e:Transaction):U:=.agg [.int .i64 e.id,.int .i64 e.scheme,.int .i64 e.state,.int .i64 e.begin_,.int .i64 e.low,.int .i64 e.high,.int .i64 e.commit,.sl 2 (e.reads.map ReadMark.u),.sl 2 (e.writes.map Write.u)]
@[simp] theorem Transaction.u_size (e:Transaction):e.u.size = 9:=rfl
@[simp] theorem Transaction.u_var (e:Transaction) (K:U→Option α):U.asVar true 9 e.u K = K e.u:=rfl
@[simp] theorem Transaction.u_storable (e:Transaction):storable (.val e.u) = true:=rfl
@[simp] theorem Transaction.u_partable (e:Transaction):partable (.val e.u) = true:=rfl
@[simp] theorem Transaction.u_noTup (e:Transaction) (K:U→Option α):U.noTup e.u K = K e.u:=rfl
@[simp] theorem Transaction.u_agg (e:Transaction) (K:List U→Option α):U.asAgg e.u K = K [.int .i64 e.id,.int .i64 e.scheme,.int .i64 e.state,.int .i64 e.begin_,.int .i64 e.low,.int .i64 e.high,.int .i64 e.commit,.sl 2 (e.reads.map ReadMark.u),.sl 2 (e.writes.map Write.u)]:=rfl
@[simp] theorem Transaction.u_at0 (e:Transaction) (K:U→Option α):U.fieldAt 0 0 e.u K = K (.int .i64 e.id):=rfl
@[simp] theorem Transaction.u_at1 (e:Transaction) (K:U→Option α):U.fieldAt 1 1 e.u K = K (.int .i64 e.scheme):=rfl
@[simp] theorem Transaction.u_at2 (e:Transaction) (K:U→Option α):U.fieldAt 2 2 e.u K = K (.int .i64 e.state):=rfl
@[simp] theorem Transaction.u_at3 (e:Transaction) (K:U→Option α):U.fieldAt 3 3 e.u K = K (.int .i64 e.begin_):=rfl
@[simp] theorem Transaction.u_at4 (e:Transaction) (K:U→Option α):U.fieldAt 4 4 e.u K = K (.int .i64 e.low):=rfl
@[simp] theorem Transaction.u_at5 (e:Transaction) (K:U→Option α):U.fieldAt 5 5 e.u K = K (.int .i64 e.high):=rfl
@[simp] theorem Transaction.u_at6 (e:Transaction) (K:U→Option α):U.fieldAt 6 6 e.u K = K (.int .i64 e.commit):=rfl
@[simp] theorem Transaction.u_at7 (e:Transaction) (K:U→Option α):U.fieldAt 7 7 e.u K = K (.sl 2 (e.reads.map ReadMark.u)):=rfl
@[simp] theorem Transaction.u_at8 (e:Transaction) (K:U→Option α):U.fieldAt 8 8 e.u K = K (.sl 2 (e.writes.map Write.u)):=rfl
structure Op where
 kind:Int
 id:Int
 scheme:Int
 key:Int
 high:Int
 value:Int
 deriving DecidableEq
theorem Op.eq_iff (x y:Op):x = y ↔ x.kind = y.kind ∧ x.id = y.id ∧ x.scheme = y.scheme ∧ x.key = y.key ∧ x.high = y.high ∧ x.value = y.value:=by cases x; cases y; simp only [Op.mk.injEq]
def Op.u (e:Op):U:=.agg [.int .i64 e.kind,.int .i64 e.id,.int .i64 e.scheme,.int .i64 e.key,.int .i64 e.high,.int .i64 e.value]
@[simp] theorem Op.u_size (e:Op):e.u.size = 6:=rfl
@[simp] theorem Op.u_var (e:Op) (K:U→Option α):U.asVar true 6 e.u K = K e.u:=rfl
@[simp] theorem Op.u_storable (e:Op):storable (.val e.u) = true:=rfl
@[simp] theorem Op.u_partable (e:Op):partable (.val e.u) = true:=rfl
@[simp] theorem Op.u_noTup (e:Op) (K:U→Option α):U.noTup e.u K = K e.u:=rfl
@[simp] theorem Op.u_agg (e:Op) (K:List U→Option α):U.asAgg e.u K = K [.int .i64 e.kind,.int .i64 e.id,.int .i64 e.scheme,.int .i64 e.key,.int .i64 e.high,.int .i64 e.value]:=rfl
@[simp] theorem Op.u_at0 (e:Op) (K:U→Option α):U.fieldAt 0 0 e.u K = K (.int .i64 e.kind):=rfl
@[simp] theorem Op.u_at1 (e:Op) (K:U→Option α):U.fieldAt 1 1 e.u K = K (.int .i64 e.id):=rfl
@[simp] theorem Op.u_at2 (e:Op) (K:U→Option α):U.fieldAt 2 2 e.u K = K (.int .i64 e.scheme):=rfl
@[simp] theorem Op.u_at3 (e:Op) (K:U→Option α):U.fieldAt 3 3 e.u K = K (.int .i64 e.key):=rfl
@[simp] theorem Op.u_at4 (e:Op) (K:U→Option α):U.fieldAt 4 4 e.u K = K (.int .i64 e.high):=rfl
@[simp] theorem Op.u_at5 (e:Op) (K:U→Option α):U.fieldAt 5 5 e.u K = K (.int .i64 e.value):=rfl
@[simp] theorem Op.u_flat (e:Op):e.u.flat = true:=rfl
@[simp] theorem Op.u_asFlat (e:Op) (K:U→Option α):U.asFlat e.u K = K e.u:=rfl
@[simp] theorem Op.u_eqv (x y:Op):U.eqv 8 x.u y.u = some (decide (x = y)):=by
 obtain ⟨a0,a1,a2,a3,a4,a5⟩:=x
 obtain ⟨b0,b1,b2,b3,b4,b5⟩:=y
 simp only [Op.mk.injEq]
 show (if 6 = 6 then eqInts _ _ else none) = _
 simp only [if_true,Qcf,Qcg,Option.map_some,Bool.decide_and,Bool.and_true]
 rfl
structure StepR where
 code:Int
 values:List Int
 deriving DecidableEq
theorem StepR.eq_iff (x y:StepR):x = y ↔ x.code = y.code ∧ x.values = y.values:=by cases x; cases y; simp only [StepR.mk.injEq]
def StepR.u (e:StepR):U:=.agg [.int .i64 e.code,.sl 1 (e.values.map intU)]
@[simp] theorem StepR.u_size (e:StepR):e.u.size = 2:=rfl
@[simp] theorem StepR.u_var (e:StepR) (K:U→Option α):U.asVar true 2 e.u K = K e.u:=rfl
@[simp] theorem StepR.u_storable (e:StepR):storable (.val e.u) = true:=rfl
@[simp] theorem StepR.u_partable (e:StepR):partable (.val e.u) = true:=rfl
@[simp] theorem StepR.u_noTup (e:StepR) (K:U→Option α):U.noTup e.u K = K e.u:=rfl
@[simp] theorem StepR.u_agg (e:StepR) (K:List U→Option α):U.asAgg e.u K = K [.int .i64 e.code,.sl 1 (e.values.map intU)]:=rfl
@[simp] theorem StepR.u_at0 (e:StepR) (K:U→Option α):U.fieldAt 0 0 e.u K = K (.int .i64 e.code):=rfl
@[simp] theorem StepR.u_at1 (e:StepR) (K:U→Option α):U.fieldAt 1 1 e.u K = K (.sl 1 (e.values.map intU)):=rfl
def chainU (l:List Version):U:=.sl 5 (l.map Version.u)
@[simp] theorem Qi5 (l:List Version):(chainU l).size = 1:=rfl
@[simp] theorem Qdp (l:List Version) (K:U→Option α):U.asVar false 1 (chainU l) K = K (chainU l):=rfl
@[simp] theorem Qri (l:List Version):storable (.val (chainU l)) = true:=rfl
@[simp] theorem Qpu (l:List Version):partable (.val (chainU l)) = true:=rfl
@[simp] theorem Qaib (l:List Version) (K:U→Option α):U.noTup (chainU l) K = K (chainU l):=rfl
@[simp] theorem Qe1 (l:List Version):U.lenOf false (chainU l) = some l.length:=by simp [chainU]
@[simp] theorem Qjf (l:List Version) (i:Int) (K:U→Option α):U.elemAt 5 (chainU l) i K = U.elemAt 5 (.sl 5 (l.map Version.u)) i K:=rfl
structure Store where
 chains:List (List Version)
 deriving DecidableEq
theorem Store.eq_iff (x y:Store):x = y ↔ x.chains = y.chains:=by cases x; cases y; simp only [Store.mk.injEq]
def Store.u (e:Store):U:=.agg [.sl 1 (e.chains.map chainU)]
@[simp] theorem Store.u_size (e:Store):e.u.size = 1:=rfl
@[simp] theorem Store.u_var (e:Store) (K:U→Option α):U.asVar true 1 e.u K = K e.u:=rfl
@[simp] theorem Store.u_storable (e:Store):storable (.val e.u) = true:=rfl
@[simp] theorem Store.u_partable (e:Store):partable (.val e.u) = true:=rfl
@[simp] theorem Store.u_noTup (e:Store) (K:U→Option α):U.noTup e.u K = K e.u:=rfl
@[simp] theorem Store.u_agg (e:Store) (K:List U→Option α):U.asAgg e.u K = K [.sl 1 (e.chains.map chainU)]:=rfl
@[simp] theorem Store.u_at0 (e:Store) (K:U→Option α):U.fieldAt 0 0 e.u K = K (.sl 1 (e.chains.map chainU)):=rfl
structure Engine where
 certify:Bool
 store:Store
 transactions:List Transaction
 locks:List Lock
 waits:List Wait
 stamp:Int
 deriving DecidableEq
theorem Engine.eq_iff (x y:Engine):x = y ↔ x.certify = y.certify ∧ x.store = y.store ∧ x.transactions = y.transactions ∧ x.locks = y.locks ∧ x.waits = y.waits ∧ x.stamp = y.stamp:=by cases x; cases y; simp only [Engine.mk.injEq]
def Engine.u (e:Engine):U:=.agg [.bool e.certify,e.store.u,.sl 9 (e.transactions.map Transaction.u),.sl 2 (e.locks.map Lock.u),.sl 2 (e.waits.map Wait.u),.int .i64 e.stamp]
@[simp] theorem Engine.u_size (e:Engine):e.u.size = 6:=rfl
@[simp] theorem Engine.u_var (e:Engine) (K:U→Option α):U.asVar true 6 e.u K = K e.u:=rfl
@[simp] theorem Engine.u_storable (e:Engine):storable (.val e.u) = true:=rfl
@[simp] theorem Engine.u_partable (e:Engine):partable (.val e.u) = true:=rfl
@[simp] theorem Engine.u_noTup (e:Engine) (K:U→Option α):U.noTup e.u K = K e.u:=rfl
@[simp] theorem Engine.u_agg (e:Engine) (K:List U→Option α):U.asAgg e.u K = K [.bool e.certify,e.store.u,.sl 9 (e.transactions.map Transaction.u),.sl 2 (e.locks.map Lock.u),.sl 2 (e.waits.map Wait.u),.int .i64 e.stamp]:=rfl
@[simp] theorem Engine.u_at0 (e:Engine) (K:U→Option α):U.fieldAt 0 0 e.u K = K (.bool e.certify):=rfl
@[simp] theorem Engine.u_at1 (e:Engine) (K:U→Option α):U.fieldAt 1 1 e.u K = K (e.store.u):=rfl
@[simp] theorem Engine.u_at2 (e:Engine) (K:U→Option α):U.fieldAt 2 2 e.u K = K (.sl 9 (e.transactions.map Transaction.u)):=rfl
@[simp] theorem Engine.u_at3 (e:Engine) (K:U→Option α):U.fieldAt 3 3 e.u K = K (.sl 2 (e.locks.map Lock.u)):=rfl
@[simp] theorem Engine.u_at4 (e:Engine) (K:U→Option α):U.fieldAt 4 4 e.u K = K (.sl 2 (e.waits.map Wait.u)):=rfl
@[simp] theorem Engine.u_at5 (e:Engine) (K:U→Option α):U.fieldAt 5 5 e.u K = K (.int .i64 e.stamp):=rfl
structure Node where
 engine:Engine
 log:ByteArray
 deriving DecidableEq
theorem Node.eq_iff (x y:Node):x = y ↔ x.engine = y.engine ∧ x.log = y.log:=by cases x; cases y; simp only [Node.mk.injEq]
def Node.u (e:Node):U:=.agg [e.engine.u,.str e.log]
@[simp] theorem Node.u_size (e:Node):e.u.size = 7:=rfl
@[simp] theorem Node.u_var (e:Node) (K:U→Option α):U.asVar true 7 e.u K = K e.u:=rfl
@[simp] theorem Node.u_storable (e:Node):storable (.val e.u) = true:=rfl
@[simp] theorem Node.u_partable (e:Node):partable (.val e.u) = true:=rfl
@[simp] theorem Node.u_noTup (e:Node) (K:U→Option α):U.noTup e.u K = K e.u:=rfl
@[simp] theorem Node.u_agg (e:Node) (K:List U→Option α):U.asAgg e.u K = K [e.engine.u,.str e.log]:=rfl
@[simp] theorem Node.u_at0 (e:Node) (K:U→Option α):U.fieldAt 0 0 e.u K = K (e.engine.u):=rfl
@[simp] theorem Node.u_at1 (e:Node) (K:U→Option α):U.fieldAt 1 6 e.u K = K (.str e.log):=rfl
structure Report where
 order:List Int
 cycle:List Int
 kind:Int
 deriving DecidableEq
theorem Report.eq_iff (x y:Report):x = y ↔ x.order = y.order ∧ x.cycle = y.cycle ∧ x.kind = y.kind:=by cases x; cases y; simp only [Report.mk.injEq]
def Report.u (e:Report):U:=.agg [.sl 1 (e.order.map intU),.sl 1 (e.cycle.map intU),.int .i64 e.kind]
@[simp] theorem Report.u_size (e:Report):e.u.size = 3:=rfl
@[simp] theorem Report.u_var (e:Report) (K:U→Option α):U.asVar true 3 e.u K = K e.u:=rfl
@[simp] theorem Report.u_storable (e:Report):storable (.val e.u) = true:=rfl
@[simp] theorem Report.u_partable (e:Report):partable (.val e.u) = true:=rfl
@[simp] theorem Report.u_noTup (e:Report) (K:U→Option α):U.noTup e.u K = K e.u:=rfl
@[simp] theorem Report.u_agg (e:Report) (K:List U→Option α):U.asAgg e.u K = K [.sl 1 (e.order.map intU),.sl 1 (e.cycle.map intU),.int .i64 e.kind]:=rfl
@[simp] theorem Report.u_at0 (e:Report) (K:U→Option α):U.fieldAt 0 0 e.u K = K (.sl 1 (e.order.map intU)):=rfl
@[simp] theorem Report.u_at1 (e:Report) (K:U→Option α):U.fieldAt 1 1 e.u K = K (.sl 1 (e.cycle.map intU)):=rfl
@[simp] theorem Report.u_at2 (e:Report) (K:U→Option α):U.fieldAt 2 2 e.u K = K (.int .i64 e.kind):=rfl
variable {E:Env}
def inR (n lo hi:Int):Bool:=decide (lo ≤ n ∧ n ≤ hi)
theorem Qa1 (h:G_f133 E) (n lo hi:Int):E 6 [.int .i64 n,.int .i64 lo,.int .i64 hi] = some (.bool (inR n lo hi)):=by
 rw [Qv4 h]
 by_cases h1:lo ≤ n <;> simp [inR,h1]
theorem Qz (h:G_f32 E) (n lo hi:Int):E 10 [.int .i64 n,.int .i64 lo,.int .i64 hi] = some (.bool (inR n lo hi)):=by
 rw [f32_E h]
 by_cases h1:lo ≤ n <;> simp [inR,h1]
theorem Qae (h:G_f33 E) (n:Int):E 9 [.int .i64 n] = some (.bool (inR n 1 9)):=by
 rw [f33_E h]; simp [Qz h.c_f32]
theorem Qc4 (h:G_f34 E) (n:Int):E 11 [.int .i64 n] = some (.bool (inR n 0 5)):=by
 rw [f34_E h]; simp [Qz h.c_f32]
def cmpI (a b:Int):Int:=if a < b then -1 else if b < a then 1 else 0
theorem Qsn (h:G_f2 E) (n:Int):E 15 [.int .i64 n] = some (.bool false):=by
 rw [f2_E h]; simp
theorem Qi8 (h:G_f0 E) (a b:Int):E 13 [.int .i64 a,.int .i64 b] = some (.int .i64 (cmpI a b)):=by
 rw [f0_E h]
 simp only [Qsn h.c_f2,cmpI]
 by_cases h1:a < b <;> by_cases h2:b < a <;> simp [h1,h2]
def cmpOr:List Int→Int
 | []=>0
 | n :: l=>if n = 0 then cmpOr l else n
theorem Qi9 (l:List Int) (hl:l.length ≤ 1000):∀ (r p:List Int) (i:Int),l = p ++ r→i = p.length→f1_l0 E (.int .i64 0) (intsU l) (.int .i64 l.length) (.int .i64 i) = some (.int .i64 (cmpOr r))
 | [],p,i,e,hi=>by
  rw [Qlf]
  simp [Qg e hi,cmpOr]
 | x :: r,p,i,e,hi=>by
  obtain ⟨h0,hlt,hx,hw,hn,_⟩:=Qd e hi (by omega)
  have ih:=Qi9 l hl r (p ++ [x]) (i + 1) (Qc e) hn
  rw [Qlf]
  simp [h0,hlt,hx,hw,cmpOr,ih]
  split <;> simp_all
theorem Qsm (h:G_f1 E) (l:List Int) (hl:l.length ≤ 1000):E 14 [intsU l] = some (.int .i64 (cmpOr l)):=by
 rw [f1_E h]
 simp [Qi9 (E:=E) l hl l [] 0 rfl rfl]
def LogRecord.tx (r:LogRecord):Transaction:=⟨r.id,1,2,0,0,r.high,r.stamp,r.reads,r.writes⟩
theorem Qov {x:U} (h:isEnt x = true):∃ a b l1 l2,x = .agg [.int .i64 a,.int .i64 b,.sl 2 l1,.sl 2 l2]:=by
 unfold isEnt at h
 split at h
 ·exact ⟨_,_,_,_,rfl⟩
 ·cases h
theorem Qabq (h:G_f12 E) (x y:U) (hx:isEnt x = true) (hy:isEnt y = true):E 471 [x,y] = some (.int .i64 (κcmp key1 x y)):=by
 obtain ⟨a,b,l1,l2,rfl⟩:=Qov hx
 obtain ⟨a',b',l3,l4,rfl⟩:=Qov hy
 rw [f12_E h]
 have e:κcmp key1 (.agg [.int .i64 a,.int .i64 b,.sl 2 l1,.sl 2 l2]) (.agg [.int .i64 a',.int .i64 b',.sl 2 l3,.sl 2 l4]) = cmpI b b':=rfl
 rw [e]
 simp [Qi8 h.c_f0]
open Go Go.Sort
set_option linter.unusedVariables false
instance:Inhabited Entry:=⟨⟨0,0,[],[]⟩⟩
def stE (x y:Entry):Bool:=decide (x.stamp < y.stamp)
def histSt (l:List Entry):List Entry:=(insertionSort stE l.toArray 0 l.length).toList
theorem Qafr:SWO stE:=by
 refine ⟨fun x=>?_,fun x y z h1 h2=>?_,fun x y z h1 h2=>?_⟩ <;> simp only [stE,decide_eq_true_eq,decide_eq_false_iff_not] at * <;> omega
theorem Qafs (l:List Entry):stabU key1 (l.map Entry.u) = (histSt l).map Entry.u:=by
 unfold stabU histSt
 have:=Qoq stE (fun x y=>decide (key1 x < key1 y)) Entry.u (fun x y=>rfl) l.toArray 0 l.length (by simp)
 rw [List.length_map,← List.map_toArray,← this,Array.toList_map]
theorem Qab1 (l:List Entry):(l.map Entry.u).all isEnt = true:=by
 rw [List.all_eq_true]
 intro u hu
 obtain ⟨x,_,rfl⟩:=List.mem_map.1 hu
 rfl
theorem Qagc {α:Type} [Inhabited α] (d:Array α) (j:Nat) (h:j + 1 < d.size):∃ a b,d.toList = a ++ d[j]! :: d[j + 1]! :: b ∧ a.length = j:=by
 refine ⟨d.toList.take j,d.toList.drop (j + 2),?_,by simp; omega⟩
 have h1:d.toList.drop j = d[j]! :: d.toList.drop (j + 1):=by
  rw [List.drop_eq_getElem_cons (by simpa using Nat.lt_of_succ_lt h),getElem!_pos d j (Nat.lt_of_succ_lt h),Array.getElem_toList]
 have h2:d.toList.drop (j + 1) = d[j + 1]! :: d.toList.drop (j + 2):=by
  rw [List.drop_eq_getElem_cons (by simpa using h),getElem!_pos d (j + 1) h,Array.getElem_toList]
 rw [← h2,← h1,List.take_append_drop]
theorem Qaf3 {α:Type} [Inhabited α] (d:Array α) (j:Nat) {a b:List α} {x y:α} (e:d.toList = a ++ x :: y :: b) (ha:a.length = j):(swp d (j + 1) j).toList = a ++ y :: x :: b:=by
 have hx:d[j]! = x:=by
  have hj:j < d.size:=by have:=congrArg List.length e; simp at this; omega
  rw [getElem!_pos d j hj,← Array.getElem_toList]
  simp [e,← ha]
 have hy:d[j + 1]! = y:=by
  have hj:j + 1 < d.size:=by have:=congrArg List.length e; simp at this; omega
  rw [getElem!_pos d (j + 1) hj,← Array.getElem_toList]
  simp [e,← ha]
 unfold swp
 rw [hx,hy]
 simp only [Array.toList_setIfInBounds,e]
 subst ha
 simp
theorem Qom (s:Int) (a:Nat):∀ (j:Nat) (d:Array Entry),j < d.size→(insInner stE a j d).toList.filter (fun x=>decide (x.stamp = s)) = d.toList.filter (fun x=>decide (x.stamp = s))
 | 0,d,_=>rfl
 | j + 1,d,h=>by
  unfold insInner
  split
  ·rename_i hc
   simp only [Bool.and_eq_true,stE,decide_eq_true_eq] at hc
   obtain ⟨p,q,e,hp⟩:=Qagc d j h
   rw [Qom s a j _ (by rw [swp]; simp; omega),Qaf3 d j e hp,e]
   generalize d[j]! = x at hc
   generalize d[j + 1]! = y at hc
   simp only [List.filter_append,List.filter_cons]
   by_cases h1:x.stamp = s
   ·have h2:¬ y.stamp = s:=by omega
    simp [h1,h2]
   ·by_cases h2:y.stamp = s <;> simp [h1,h2]
  ·rfl
theorem Qoo (s:Int) (a b:Nat):∀ (n i:Nat) (d:Array Entry),b - i = n→b ≤ d.size→(insOuter stE a b i d).toList.filter (fun x=>decide (x.stamp = s)) = d.toList.filter (fun x=>decide (x.stamp = s))
 | 0,i,d,hn,hb=>by rw [insOuter,if_neg (by omega)]
 | n + 1,i,d,hn,hb=>by
  rw [insOuter,if_pos (by omega),Qoo s a b n (i + 1) _ (by omega) (by rw [Qgo]; exact hb),Qom s a i d (by omega)]
theorem Qabp (l:List Entry) (s:Int):(histSt l).filter (fun x=>decide (x.stamp = s)) = l.filter (fun x=>decide (x.stamp = s)):=by
 unfold histSt insertionSort
 rw [Qoo s 0 l.length _ 1 l.toArray rfl (by simp)]
def ByStamp (l:List Entry):Prop:=l.Pairwise fun x y=>x.stamp ≤ y.stamp
theorem Qoe (l:List Entry):(histSt l).Perm l ∧ ByStamp (histSt l):=by
 obtain ⟨⟨p1,_,p3⟩,p4⟩:=insertionSort_holds Qafr l.toArray 0 l.length (Nat.zero_le _) (by simp)
 unfold histSt
 generalize insertionSort stE l.toArray 0 l.length = d at *
 have hd:d.size = l.length:=by simpa using p1
 constructor
 ·have e1:d.extract 0 l.length = d:=by rw [← hd]; simp
  rw [e1] at p3
  simpa using p3
 ·unfold ByStamp
  rw [List.pairwise_iff_getElem]
  intro i j hi hj hij
  have hi':i < d.size:=by simpa using hi
  have hj':j < d.size:=by simpa using hj
  have:=p4 i j (Nat.zero_le _) hij (by omega)
  rw [getElem!_pos d j hj',getElem!_pos d i hi'] at this
  simp only [stE,decide_eq_false_iff_not] at this
  simp only [Array.getElem_toList]
  omega
theorem Qiz:∀ (l:List Entry) (m:Int),ByStamp l→l = l.filter (fun x=>decide (x.stamp ≤ m)) ++ l.filter (fun x=>!decide (x.stamp ≤ m))
 | [],m,_=>rfl
 | x :: l,m,h=>by
  have h1:∀ y ∈ l,x.stamp ≤ y.stamp:=(List.pairwise_cons.1 h).1
  by_cases g:x.stamp ≤ m
  ·have ih:=Qiz l m (List.Pairwise.of_cons h)
   simp only [List.filter_cons,g,decide_true,if_true,Bool.not_true,Bool.false_eq_true,if_false,List.cons_append]
   rw [← ih]
  ·have e1:l.filter (fun y=>decide (y.stamp ≤ m)) = []:=by
    rw [List.filter_eq_nil_iff]
    intro y hy
    have:=h1 y hy
    simp only [decide_eq_true_eq]
    omega
   have e2:l.filter (fun y=>!decide (y.stamp ≤ m)) = l:=by
    rw [List.filter_eq_self]
    intro y hy
    have:=h1 y hy
    simp only [Bool.not_eq_true',decide_eq_false_iff_not]
    omega
   simp [List.filter_cons,g,e1,e2]
def buckets (l:List Entry):Nat→List Entry
 | 0=>[]
 | n + 1=>buckets l n ++ l.filter (fun x=>decide (x.stamp = ((n + 1:Nat):Int)))
theorem Qiy (l:List Entry) (h:ByStamp l) (h1:∀ x ∈ l,1 ≤ x.stamp):∀ n:Nat,buckets l n = l.filter (fun x=>decide (x.stamp ≤ (n:Int)))
 | 0=>by
  symm
  rw [buckets,List.filter_eq_nil_iff]
  intro x hx
  have:=h1 x hx
  simp only [decide_eq_true_eq]
  omega
 | n + 1=>by
  rw [buckets,Qiy l h h1 n]
  have hs:=Qiz (l.filter fun x=>decide (x.stamp ≤ ((n + 1:Nat):Int))) n (List.Pairwise.filter _ h)
  rw [List.filter_filter,List.filter_filter] at hs
  rw [hs]
  congr 1
  ·apply List.filter_congr
   intro x _
   rw [Bool.eq_iff_iff]
   simp only [Bool.and_eq_true,decide_eq_true_eq]
   omega
  ·apply List.filter_congr
   intro x _
   rw [Bool.eq_iff_iff]
   simp only [Bool.and_eq_true,decide_eq_true_eq,Bool.not_eq_true',decide_eq_false_iff_not]
   omega
theorem Qiw (l l':List Entry) (h:∀ s:Int,l.filter (fun x=>decide (x.stamp = s)) = l'.filter (fun x=>decide (x.stamp = s))):∀ n,buckets l n = buckets l' n
 | 0=>rfl
 | n + 1=>by rw [buckets,buckets,Qiw l l' h n,h]
theorem Qabo (l:List Entry) (n:Nat) (h1:∀ x ∈ l,1 ≤ x.stamp ∧ x.stamp ≤ (n:Int)):histSt l = buckets l n:=by
 obtain ⟨hp,hb⟩:=Qoe l
 have h1':∀ x ∈ histSt l,1 ≤ x.stamp ∧ x.stamp ≤ (n:Int):=fun x hx=>h1 x (hp.mem_iff.1 hx)
 rw [← Qiw (histSt l) l (Qabp l) n,Qiy (histSt l) hb (fun x hx=>(h1' x hx).1) n]
 symm
 rw [List.filter_eq_self]
 intro x hx
 simpa using (h1' x hx).2
def szc (n:Nat) (left:Int):Int:=if left - n < 0 then -1 else left - n
def szl {α:Type} (f:α→Int→Int):List α→Int→Int
 | [],left=>left
 | x :: r,left=>if f x left < 0 then -1 else szl f r (f x left)
def szL {α:Type} (f:α→Int→Int) (l:List α) (left:Int):Int:=if left - (l.length:Int) < 0 then -1 else szl f l (left - l.length)
def Szs {α:Type} (f:α→Int→Int) (ok:α→Prop):Prop:=∀ x left,0 ≤ left→left ≤ 1048576→f x left < 0 ∨ (ok x ∧ 0 ≤ f x left ∧ f x left ≤ left)
theorem Qbu:Szs szc (fun n=>n ≤ 1048576):=fun n left h0 h1=>by
 unfold szc
 split
 ·left; omega
 ·right; refine ⟨by omega,by omega,by omega⟩
theorem Qhy {n:Nat} {left:Int} (h:szc n left < 0):szc n left = -1:=by
 unfold szc at h ⊢
 split at h
 ·rename_i h1; rw [if_pos h1]
 ·rename_i h1; omega
theorem Qaf7 {α:Type} {f:α→Int→Int} {ok:α→Prop} (h:Szs f ok):Szs (szl f) (fun l=>∀ x ∈ l,ok x):=fun l=>by
 induction l with
 | nil=>exact fun left h0 _=>.inr ⟨by simp,h0,Int.le_refl _⟩
 | cons x r ih =>
  intro left h0 h1
  rcases h x left h0 h1 with h2 | ⟨h2,h3,h4⟩
  ·left; simp [szl,h2]
  ·have h5:¬ f x left < 0:=by omega
   simp only [szl,h5,if_false]
   rcases ih _ h3 (by omega) with h6 | ⟨h6,h7,h8⟩
   ·exact .inl h6
   ·exact .inr ⟨by simpa using ⟨h2,h6⟩,h7,by omega⟩
theorem Qhx {α:Type} {f:α→Int→Int} {ok:α→Prop} (h:Szs f ok):Szs (szL f) (fun l=>l.length ≤ 1048576 ∧ ∀ x ∈ l,ok x):=fun l left h0 h1=>by
 unfold szL
 split
 ·left; omega
 ·rcases Qaf7 h l (left - l.length) (by omega) (by omega) with h6 | ⟨h6,h7,h8⟩
  ·exact .inl h6
  ·exact .inr ⟨⟨by omega,h6⟩,h7,by omega⟩
theorem Qv {α:Type} (f:α→U) (p:List α) (z:U) (c:List U) {i:Int} (hi:i = p.length) :
  (p.map f ++ z :: c)[i.toNat]? = some z ∧ (∀ y,(p.map f ++ z :: c).set i.toNat y = p.map f ++ y :: c) ∧ i < ((p.map f ++ z :: c).length:Int):=by
 subst hi
 refine ⟨by simp,fun y=>by simp,by simp; omega⟩
def Entry.fit (e:Entry):Prop:=e.reads.length ≤ maxLen ∧ e.writes.length ≤ maxLen
def Entry.ok (e:Entry):Prop:=e.reads.length ≤ 1048576 ∧ e.writes.length ≤ 1048576
def LogRecord.fit (e:LogRecord):Prop:=e.reads.length ≤ maxLen ∧ e.writes.length ≤ maxLen
def LogRecord.ok (e:LogRecord):Prop:=e.reads.length ≤ 1048576 ∧ e.writes.length ≤ 1048576
def Transaction.fit (e:Transaction):Prop:=e.reads.length ≤ maxLen ∧ e.writes.length ≤ maxLen
def Transaction.ok (e:Transaction):Prop:=e.reads.length ≤ 1048576 ∧ e.writes.length ≤ 1048576
def chainOk (l:List Version):Prop:=l.length ≤ 1048576
def chainFit (l:List Version):Prop:=l.length ≤ maxLen
def chainSz (l:List Version) (left:Int):Int:=szc l.length left
theorem Qi4:Szs chainSz chainOk:=fun l left h0 h1=>Qbu l.length left h0 h1
theorem Qsi {l:List Version} {left:Int} (h:chainSz l left < 0):chainSz l left = -1:=Qhy h
theorem Qrm {α:Type} {f:α→Int→Int}:∀ {l:List α} {left:Int},0 ≤ left→szl f l left < 0→szl f l left = -1
 | [],left,h0,h=>by simp only [szl] at h; omega
 | x :: r,left,h0,h=>by
  simp only [szl] at h ⊢
  by_cases h1:f x left < 0
  ·simp [h1]
  ·simp only [h1,if_false] at h ⊢
   exact Qrm (by omega) h
theorem Qaf6 {α:Type} {f:α→Int→Int} (_:∀ {x:α} {left:Int},f x left < 0→f x left = -1) {l:List α} {left:Int} (h:szL f l left < 0):szL f l left = -1:=by
 unfold szL at h ⊢
 by_cases h1:left - (l.length:Int) < 0
 ·simp [h1]
 ·simp only [h1,if_false] at h ⊢
  exact Qrm (by omega) h
def Store.fit (s:Store):Prop:=s.chains.length ≤ maxLen ∧ ∀ c ∈ s.chains,chainFit c
def Store.ok (s:Store):Prop:=s.chains.length ≤ 1048576 ∧ ∀ c ∈ s.chains,chainOk c
def Store.sz (s:Store) (left:Int):Int:=szL chainSz s.chains left
theorem Store.sz_szs:Szs Store.sz Store.ok:=fun s left h0 h1=>Qhx Qi4 s.chains left h0 h1
def Transaction.sz (e:Transaction) (left:Int):Int:=let v:=szc e.reads.length left; if v < 0 then -1 else szc e.writes.length v
theorem Transaction.sz_szs:Szs Transaction.sz Transaction.ok:=fun e left h0 h1=>by
 unfold Transaction.sz Transaction.ok
 rcases Qbu e.reads.length left h0 h1 with h | ⟨h2,h3,h4⟩
 ·left; simp [h]
 ·have h5:¬ szc e.reads.length left < 0:=by omega
  rcases Qbu e.writes.length _ h3 (by omega) with h | ⟨h6,h7,h8⟩
  ·left; simp [h5,h]
  ·right; simp only [h5,if_false]; exact ⟨⟨h2,h6⟩,h7,by omega⟩
def Engine.fit (e:Engine):Prop:=e.store.fit ∧ e.transactions.length ≤ maxLen ∧ (∀ t ∈ e.transactions,t.fit) ∧ e.locks.length ≤ maxLen ∧ e.waits.length ≤ maxLen
def Engine.ok (e:Engine):Prop:=e.store.ok ∧ e.transactions.length ≤ 1048576 ∧ (∀ t ∈ e.transactions,t.ok) ∧ e.locks.length ≤ 1048576 ∧ e.waits.length ≤ 1048576
def Engine.sz (e:Engine) (left:Int):Int :=
 if e.store.sz left < 0 then -1 else
 if szL Transaction.sz e.transactions (e.store.sz left) < 0 then -1 else
 if szc e.locks.length (szL Transaction.sz e.transactions (e.store.sz left)) < 0 then -1 else
 szc e.waits.length (szc e.locks.length (szL Transaction.sz e.transactions (e.store.sz left)))
theorem Engine.sz_szs:Szs Engine.sz Engine.ok:=fun e left h0 h1=>by
 unfold Engine.sz Engine.ok
 rcases Store.sz_szs e.store left h0 h1 with n1 | ⟨o1,n1,n2⟩
 ·left; simp [n1]
 have n3:¬ e.store.sz left < 0:=by omega
 rcases Qhx Transaction.sz_szs e.transactions _ n1 (by omega) with m1 | ⟨⟨o2,o3⟩,m1,m2⟩
 ·left; simp [n3,m1]
 have m3:¬ szL Transaction.sz e.transactions (e.store.sz left) < 0:=by omega
 rcases Qbu e.locks.length _ m1 (by omega) with k1 | ⟨o4,k1,k2⟩
 ·left; simp [n3,m3,k1]
 have k3:¬ szc e.locks.length (szL Transaction.sz e.transactions (e.store.sz left)) < 0:=by omega
 rcases Qbu e.waits.length _ k1 (by omega) with j1 | ⟨o5,j1,j2⟩
 ·left; simp [n3,m3,k3,j1]
 ·right
  simp only [n3,m3,k3,if_false]
  exact ⟨⟨o1,o2,o3,o4,o5⟩,j1,by omega⟩
def idxF {α:Type} (P:α→Bool):List α→Int→Int
 | [],_=>-1
 | x :: r,i=>if P x then i else idxF P r (i + 1)
theorem Qd0 {α:Type} (P:α→Bool) (l:List α):∀ {i:Int},0 ≤ i→(decide (0 ≤ idxF P l i)) = l.any P:=by
 induction l with
 | nil=>intro i _; simp [idxF]
 | cons x r ih =>
  intro i hi
  cases h:P x
  ·simp [idxF,h,ih (i:=i + 1) (by omega)]
  ·simp [idxF,h,hi]
theorem Qog {α:Type} (P:α→Bool) (l:List α):∀ (i:Int),(idxF P l i = -1 ∧ ∀ x ∈ l,P x = false) ∨ ∃ p x r,l = p ++ x :: r ∧ idxF P l i = i + p.length ∧ P x = true ∧ ∀ y ∈ p,P y = false:=by
 induction l with
 | nil=>intro i; exact .inl ⟨rfl,by simp⟩
 | cons x r ih =>
  intro i
  cases h:P x with
  | true=>exact .inr ⟨[],x,r,rfl,by simp [idxF,h],h,by simp⟩
  | false =>
   rcases ih (i + 1) with ⟨h1,h2⟩ | ⟨p,y,s,h1,h2,h3,h4⟩
   ·exact .inl ⟨by simp [idxF,h,h1],by simpa [h] using h2⟩
   ·exact .inr ⟨x :: p,y,s,by simp [h1],by simp [idxF,h,h2]; omega,h3,by simpa [h] using h4⟩
theorem Qj7 (l:List (List Version)) (hl:l.length ≤ 9223372036854775807) (q:Nat) (caps:List U) (P:(List Version)→Bool) (hp:∀ x ∈ l,E q (chainU x :: caps) = some (.bool (P x))) (hq:q < 100000):∀ (r p:List (List Version)) (i:Int),l = p ++ r→i = p.length →
  f113_l0 E (.sl 1 (l.map chainU)) (.fn q caps) (.int .i64 l.length) (.int .i64 i) = some (.int .i64 (idxF P r i))
 | [],p,i,e,hi=>by
  rw [Qj6]
  simp [Qg e hi,idxF]
 | x :: r,p,i,e,hi=>by
  obtain ⟨h0,hlt,hx,hw,hn,_⟩:=Qd e hi hl
  have hpx:=hp x (by rw [e]; simp)
  have ih:=Qj7 l hl q caps P hp hq r (p ++ [x]) (i + 1) (Qc e) hn
  rw [Qj6]
  cases h1:P x <;> simp [hlt,hx,hw,ih,hpx,hq,h1,idxF]
theorem Qui (h:G_f113 E) (l:List (List Version)) (hl:l.length ≤ 9223372036854775807) (q:Nat) (caps:List U) (P:(List Version)→Bool) (hp:∀ x ∈ l,E q (chainU x :: caps) = some (.bool (P x))) (hq:q < 100000:=by decide) :
  E 115 [.sl 1 (l.map chainU),.fn q caps] = some (.int .i64 (idxF P l 0)):=by
 rw [Quh h]
 simp [Qj7 l hl q caps P hp hq l [] 0 rfl rfl]
theorem Qt4 (h:G_f109 E) (l:List (List Version)) (hl:l.length ≤ 9223372036854775807) (q:Nat) (caps:List U) (P:(List Version)→Bool) (hp:∀ x ∈ l,E q (chainU x :: caps) = some (.bool (P x))) (hq:q < 100000:=by decide) :
  E 114 [.sl 1 (l.map chainU),.fn q caps] = some (.bool (l.any P)):=by
 rw [Qt3 h]
 simp [Qui h.c_f113 l hl q caps P hp hq,Qd0]
def markLt (a b:ReadMark):Bool:=decide (a.key < b.key) || (decide (a.key = b.key) && decide (a.created < b.created))
def markCmp (a b:ReadMark):Int:=cmpOr [cmpI a.key b.key,cmpI a.created b.created]
theorem Qaco (a b:ReadMark):decide (0 ≤ markCmp a b) = !markLt a b:=by
 unfold markCmp markLt cmpI
 simp only [cmpOr]
 by_cases h1:a.key < b.key
 ·simp [h1]
 ·by_cases h2:b.key < a.key
  ·have h3:¬ a.key = b.key:=by omega
   simp [h1,h2,h3]
  ·have h3:a.key = b.key:=by omega
   by_cases h4:a.created < b.created
   ·simp [h3,h4]
   ·by_cases h5:b.created < a.created <;> simp [h3,h4,h5]
def reads1 (p:Option ReadMark) (m:ReadMark):Bool:=inR m.key 0 5 && inR m.created 0 999 && (match p with | none=>true | some q=>markLt q m)
def readsFrom:Option ReadMark→List ReadMark→Bool
 | _,[]=>true
 | p,m :: r=>reads1 p m && readsFrom (some m) r
def areReads (l:List ReadMark):Bool:=readsFrom none l && decide (l.length ≤ 60)
def writes1 (p:Option Write) (w:Write):Bool:=inR w.key 0 5 && inR w.value (-1) 99 && (match p with | none=>true | some q=>decide (q.key < w.key))
def writesFrom:Option Write→List Write→Bool
 | _,[]=>true
 | p,w :: r=>writes1 p w && writesFrom (some w) r
def areWrites (l:List Write):Bool:=writesFrom none l
def Transaction.valid (t:Transaction):Bool :=
 inR t.id 1 9 && (inR t.scheme 1 4 && (inR t.begin_ 0 999 && (inR t.state 1 3 && (inR t.low 0 999 && (inR t.high 1 1000 && ((decide (t.state = 2) == decide (0 < t.commit)) && (inR t.commit 0 999 && (areReads t.reads && areWrites t.writes))))))))
def LogRecord.valid (r:LogRecord):Bool:=r.tx.valid && (decide (r.high ≤ r.stamp) && inR r.safe 0 r.stamp)
theorem Qw1 (h:G_f31 E) (a b:ReadMark):E 75 [a.u,b.u] = some (.int .i64 (markCmp a b)):=by
 rw [f31_E h]
 have:=Qsm h.c_f1 [cmpI a.key b.key,cmpI a.created b.created] (by simp)
 simp only [intsU,List.map_cons,List.map_nil,intU] at this
 simp [Qi8 h.c_f0,this,markCmp]
theorem Qv7 (h:G_f134 E) (a b:ReadMark):E 71 [a.u,b.u] = some (.bool (markLt a b)):=by
 rw [Qv6 h]
 by_cases h1:a.key < b.key
 ·simp [markLt,h1]
 ·by_cases h2:a.key = b.key <;> simp [markLt,h1,h2]
theorem Qew (h:G_f14 E) (n:Int):E 72 [.int .i64 n] = some (.bool (inR n 1 999)):=by
 rw [f14_E h]; simp [Qz h.c_f32]
theorem Qge (h:G_f36 E) (n:Int):E 76 [.int .i64 n] = some (.bool (inR n (-1) 99)):=by
 rw [f36_E h]; simp [Qz h.c_f32]
theorem Qlk (h:G_f29 E) (l:List ReadMark) (hl:l.length ≤ 1048576):∀ (r p:List ReadMark) (i:Int),l = p ++ r→i = p.length →
  f29_l0 E (.sl 2 (l.map ReadMark.u)) (.sl 2 (l.map ReadMark.u)) (.int .i64 l.length) (.int .i64 i) = some (.bool (readsFrom p.getLast? r && decide (l.length ≤ 60)))
 | [],p,i,e,hi=>by
  rw [Qlj]
  have h1:decide ((l.length:Int) ≤ 60) = decide (l.length ≤ 60):=by congr 1; simp only [eq_iff_iff]; omega
  simp [Qg e hi,readsFrom,h1]
 | x :: r,p,i,e,hi=>by
  obtain ⟨h0,hlt,hx,hw,hn,_⟩:=Qd e hi (by omega)
  have ih:=Qlk h l hl r (p ++ [x]) (i + 1) (Qc e) hn
  rw [List.getLast?_concat] at ih
  rw [Qlj]
  by_cases hp:p = []
  ·have hi0:¬ 0 < i:=by subst hp; simp at hi; omega
   simp [h0,hlt,hx,hw,ih,Qc4 h.c_f34,Qz h.c_f32,hi0,hp,ite_f,readsFrom,reads1,Bool.and_assoc]
  ·obtain ⟨q,j,hq,hpos,hw1,h1,hq1,_⟩:=Qao e hi (by omega) hp
   simp [h0,hlt,hx,hw,ih,Qc4 h.c_f34,Qz h.c_f32,hpos,hq,hw1,hq1,Qw1 h.c_f31,ite_f,ite_n,Qaco,readsFrom,reads1,Bool.and_assoc]
theorem Qww (h:G_f29 E) (l:List ReadMark) (hl:l.length ≤ 1048576):E 73 [.sl 2 (l.map ReadMark.u)] = some (.bool (areReads l)):=by
 rw [f29_E h]
 simp [Qlk h l hl l [] 0 rfl rfl,areReads]
theorem Qlm (h:G_f30 E) (l:List Write) (hl:l.length ≤ 1048576):∀ (r p:List Write) (i:Int),l = p ++ r→i = p.length →
  f30_l0 E (.sl 2 (l.map Write.u)) (.sl 2 (l.map Write.u)) (.int .i64 l.length) (.int .i64 i) = some (.bool (writesFrom p.getLast? r))
 | [],p,i,e,hi=>by
  rw [Qll]
  simp [Qg e hi,writesFrom]
 | x :: r,p,i,e,hi=>by
  obtain ⟨h0,hlt,hx,hw,hn,_⟩:=Qd e hi (by omega)
  have ih:=Qlm h l hl r (p ++ [x]) (i + 1) (Qc e) hn
  rw [List.getLast?_concat] at ih
  rw [Qll]
  by_cases hp:p = []
  ·have hi0:¬ 0 < i:=by subst hp; simp at hi; omega
   simp [h0,hlt,hx,hw,ih,Qc4 h.c_f34,Qge h.c_f36,hi0,hp,ite_f,writesFrom,writes1,Bool.and_assoc]
  ·obtain ⟨q,j,hq,hpos,hw1,h1,hq1,_⟩:=Qao e hi (by omega) hp
   have hc:(!decide (x.key ≤ q.key)) = decide (q.key < x.key):=by rw [← decide_not]; congr 1; simp only [eq_iff_iff]; omega
   simp [h0,hlt,hx,hw,ih,Qc4 h.c_f34,Qge h.c_f36,hpos,hq,hw1,hq1,ite_f,ite_n,writesFrom,writes1,Bool.and_assoc,hc]
theorem Qwz (h:G_f30 E) (l:List Write) (hl:l.length ≤ 1048576):E 74 [.sl 2 (l.map Write.u)] = some (.bool (areWrites l)):=by
 rw [f30_E h]
 simp [Qlm h l hl l [] 0 rfl rfl,areWrites]
def Transaction.tail (t:Transaction):Bool :=
 inR t.id 1 9 && (inR t.scheme 1 4 && (inR t.begin_ 0 999 && (inR t.state 1 3 && (inR t.low 0 999 && (inR t.high 1 1000 && ((decide (t.state = 2) == decide (0 < t.commit)) && (inR t.commit 0 999 && decide (t.reads.length ≤ 60))))))))
theorem Qq2 (h:G_f127 E) (t:Transaction) (ho:t.ok):∀ (r p:List Write) (i:Int),t.writes = p ++ r→i = p.length →
  f127_l0 E (.int .i64 i) t.u = some (.bool (writesFrom p.getLast? r && t.tail))
 | [],p,i,e,hi=>by
  rw [Qk1]
  have h1:decide ((t.reads.length:Int) ≤ 60) = decide (t.reads.length ≤ 60):=by congr 1; simp only [eq_iff_iff]; omega
  have h2:decide (t.state = 2 ↔ 0 < t.commit) = (decide (t.state = 2) == decide (0 < t.commit)):=by
   by_cases a:t.state = 2 <;> by_cases b:0 < t.commit <;> simp [a,b]
  simp [Qg e hi,Qa1 h.c_f133,ite_f,ite_t,ite_p,writesFrom,Transaction.tail,h1,h2]
 | x :: r,p,i,e,hi=>by
  obtain ⟨h0,hlt,hx,hw,hn,_⟩:=Qd e hi (by have:=ho.2; omega)
  have ih:=Qq2 h t ho r (p ++ [x]) (i + 1) (Qc e) hn
  rw [List.getLast?_concat] at ih
  rw [Qk1]
  by_cases hp:p = []
  ·have hi0:¬ 0 < i:=by subst hp; simp at hi; omega
   simp [h0,hlt,hx,hw,ih,Qa1 h.c_f133,hi0,hp,ite_f,writesFrom,writes1,Bool.and_assoc]
  ·obtain ⟨q,j,hq,hpos,hw1,h1,hq1,_⟩:=Qao e hi (by have:=ho.2; omega) hp
   have hc:(!decide (x.key ≤ q.key)) = decide (q.key < x.key):=by rw [← decide_not]; congr 1; simp only [eq_iff_iff]; omega
   simp [h0,hlt,hx,hw,ih,Qa1 h.c_f133,hpos,hq,hw1,hq1,ite_f,ite_n,writesFrom,writes1,Bool.and_assoc,hc]
theorem Qq3 (h:G_f127 E) (t:Transaction) (ho:t.ok):∀ (r p:List ReadMark) (i:Int),t.reads = p ++ r→i = p.length →
  f127_l1 E (.int .i64 i) t.u = some (.bool (readsFrom p.getLast? r && (writesFrom none t.writes && t.tail)))
 | [],p,i,e,hi=>by
  rw [Qk2]
  simp [Qg e hi,readsFrom,Qq2 h t ho t.writes [] 0 rfl rfl]
 | x :: r,p,i,e,hi=>by
  obtain ⟨h0,hlt,hx,hw,hn,_⟩:=Qd e hi (by have:=ho.1; omega)
  have ih:=Qq3 h t ho r (p ++ [x]) (i + 1) (Qc e) hn
  rw [List.getLast?_concat] at ih
  rw [Qk2]
  by_cases hp:p = []
  ·have hi0:¬ 0 < i:=by subst hp; simp at hi; omega
   simp [h0,hlt,hx,hw,ih,Qa1 h.c_f133,hi0,hp,ite_f,readsFrom,reads1,Bool.and_assoc]
  ·obtain ⟨q,j,hq,hpos,hw1,h1,hq1,_⟩:=Qao e hi (by have:=ho.1; omega) hp
   simp [h0,hlt,hx,hw,ih,Qa1 h.c_f133,hpos,hq,hw1,hq1,ite_f,ite_n,readsFrom,reads1,Bool.and_assoc,Qv7 h.c_f134]
theorem Qgd (h:G_f127 E) (t:Transaction) (ho:t.ok):E 70 [t.u] = some (.bool t.valid):=by
 rw [Qvn h]
 have h1:=Qq3 h t ho t.reads [] 0 rfl rfl
 have h2:(readsFrom none t.reads && (writesFrom none t.writes && t.tail)) = t.valid:=by
  unfold Transaction.valid Transaction.tail areReads areWrites
  ac_rfl
 simp [h1,h2]
theorem Qoz (p:Prop) [Decidable p] (a b:Bool):(if p then some (U.bool a) else some (U.bool b)) = some (U.bool (if p then a else b)):=by split <;> rfl
def Version.valid (v:Version):Bool :=
 inR v.value (-1) 99 && (inR v.created 0 999 && (inR v.reader v.created 999 && (inR v.successor 1 1000 && (if v.created = 0 then decide (v.writer = 0) && decide (v.value = -1) else inR v.writer 1 9))))
theorem Qk3 (h:G_f128 E) (v:Version):E 105 [v.u] = some (.bool v.valid):=by
 rw [Qvp h]
 simp [Qa1 h.c_f133,ite_f,ite_p,Qoz,Version.valid]
theorem Qlg (h:G_f22 E) (v:Version):E 117 [v.u] = some (.bool v.valid):=by
 rw [f22_E h]
 simp [Qz h.c_f32,Qae h.c_f33,Qge h.c_f36,ite_f,ite_p,Qoz,Version.valid]
def behind (v w:Version):Bool:=decide (v.created < w.created) && decide (v.successor ≤ w.created)
def chainRest:List Version→Bool
 | []=>true
 | [v]=>v.valid
 | v :: w :: r=>v.valid && (behind v w && chainRest (w :: r))
def chainLast (l:List Version):Bool:=match l.getLast? with
 | none=>false
 | some v=>decide (v.successor = 1000)
def validChain (l:List Version):Bool:=chainRest l && chainLast l
theorem Qkv (h:G_f124 E) (l:List Version) (hl:l.length ≤ 1048576):∀ (r p:List Version) (i:Int),l = p ++ r→i = p.length →
  f124_l0 E (.sl 5 (l.map Version.u)) (.int .i64 i) = some (.bool (chainRest r && chainLast l))
 | [],p,i,e,hi=>by
  rw [Qku]
  have hend:=Qg e hi
  by_cases hp:l = []
  ·subst hp
   have hneg:¬ i < 0:=by omega
   simp [hneg,chainRest,chainLast]
  ·obtain ⟨q,j,hq,hpos,hw1,h1,hq1,_⟩:=Qao (l:=l) (p:=l) (r:=[]) (i:=l.length) (by simp) rfl (by omega) hp
   have hpos':0 < l.length:=by omega
   simp [hend,chainRest,chainLast,hq,hw1,hq1,hpos']
 | x :: r,p,i,e,hi=>by
  obtain ⟨h0,hlt,hx,hw,hn,_⟩:=Qd e hi (by omega)
  have ih:=Qkv h l hl r (p ++ [x]) (i + 1) (Qc e) hn
  rw [Qku]
  cases r with
  | nil =>
   have hend:=Qg (Qc e) hn
   simp [hlt,hx,hw,hend,ih,Qk3 h.c_f128,ite_f,chainRest]
  | cons y r =>
   obtain ⟨_,hlt2,hy,_,_,_⟩:=Qd (Qc e) hn (by omega)
   have hc:(!decide (y.created ≤ x.created)) = decide (x.created < y.created):=by rw [← decide_not]; congr 1; simp only [eq_iff_iff]; omega
   have hc2:(!decide (y.created < x.successor)) = decide (x.successor ≤ y.created):=by rw [← decide_not]; congr 1; simp only [eq_iff_iff]; omega
   simp [hlt,hx,hw,hlt2,hy,ih,Qk3 h.c_f128,ite_f,ite_n,hc,hc2,chainRest,behind,Bool.and_assoc]
theorem Qgc (h:G_f124 E) (l:List Version) (hl:chainOk l):E 104 [chainU l] = some (.bool (validChain l)):=by
 rw [Qvg h]
 exact Qkv h l hl l [] 0 rfl rfl
def chainFrom:Option Version→List Version→Bool
 | _,[]=>true
 | none,v :: r=>v.valid && chainFrom (some v) r
 | some q,v :: r=>v.valid && (behind q v && chainFrom (some v) r)
theorem Qi2:∀ (r:List Version) (q:Version),(q.valid && chainFrom (some q) r) = chainRest (q :: r)
 | [],q=>by simp [chainFrom,chainRest]
 | v :: r,q=>by
  have:=Qi2 r v
  simp only [chainFrom,chainRest]
  rw [← this]
  ac_rfl
theorem Qsh (l:List Version):chainFrom none l = chainRest l:=by
 cases l with
 | nil=>rfl
 | cons v r=>simp only [chainFrom]; exact Qi2 r v
theorem Qld (h:G_f15 E) (l:List Version) (hl:l.length ≤ 1048576):∀ (r p:List Version) (i:Int),l = p ++ r→i = p.length →
  f15_l0 E (.sl 5 (l.map Version.u)) (.sl 5 (l.map Version.u)) (.int .i64 l.length) (.int .i64 i) = some (.bool (chainFrom p.getLast? r && chainLast l))
 | [],p,i,e,hi=>by
  rw [Qlc]
  have hend:=Qg e hi
  by_cases hp:l = []
  ·subst hp
   have hneg:¬ i < 0:=by omega
   simp [hneg,chainFrom,chainLast]
  ·obtain ⟨q,j,hq,hpos,hw1,h1,hq1,_⟩:=Qao (l:=l) (p:=l) (r:=[]) (i:=l.length) (by simp) rfl (by omega) hp
   have hpos':0 < l.length:=by omega
   simp [hend,chainFrom,chainLast,hq,hw1,hq1,hpos']
 | x :: r,p,i,e,hi=>by
  obtain ⟨h0,hlt,hx,hw,hn,_⟩:=Qd e hi (by omega)
  have ih:=Qld h l hl r (p ++ [x]) (i + 1) (Qc e) hn
  rw [List.getLast?_concat] at ih
  rw [Qlc]
  by_cases hp:p = []
  ·have hi0:¬ 0 < i:=by subst hp; simp at hi; omega
   simp [h0,hlt,hx,hw,ih,Qlg h.c_f22,hi0,hp,ite_f,chainFrom,Bool.and_assoc]
  ·obtain ⟨q,j,hq,hpos,hw1,h1,hq1,_⟩:=Qao e hi (by omega) hp
   have hc:(!decide (x.created ≤ q.created)) = decide (q.created < x.created):=by rw [← decide_not]; congr 1; simp only [eq_iff_iff]; omega
   have hc2:(!decide (x.created < q.successor)) = decide (q.successor ≤ x.created):=by rw [← decide_not]; congr 1; simp only [eq_iff_iff]; omega
   simp [h0,hlt,hx,hw,ih,Qlg h.c_f22,hpos,hq,hw1,hq1,ite_f,ite_n,chainFrom,hc,hc2,behind,Bool.and_assoc]
theorem Qwc (h:G_f15 E) (l:List Version) (hl:chainOk l):E 116 [chainU l] = some (.bool (validChain l)):=by
 rw [f15_E h]
 have h1:=Qld h l hl l [] 0 rfl rfl
 simp only [List.getLast?_nil,Qsh] at h1
 simp only [Qe1,Option.bind_some]
 exact h1
def okChain (l:List Version):Bool:=validChain l && decide (l.length ≤ 50)
def Store.valid (s:Store):Bool:=s.chains.all okChain && decide (s.chains.length = 6)
theorem Qagi {l:List Version} (h:validChain l = true):l ≠ []:=by
 rintro rfl
 simp [validChain,chainLast] at h
theorem Qk0 (h:G_f126 E) (s:Store) (ho:s.ok):∀ (r p:List (List Version)) (i:Int),s.chains = p ++ r→i = p.length →
  f126_l0 E (.int .i64 i) s.u = some (.bool (r.all okChain && decide (s.chains.length = 6)))
 | [],p,i,e,hi=>by
  rw [Qkz]
  have h1:decide ((s.chains.length:Int) = 6) = decide (s.chains.length = 6):=by congr 1; simp only [eq_iff_iff]; omega
  simp [Qg e hi,h1]
 | x :: r,p,i,e,hi=>by
  obtain ⟨h0,hlt,hx,hw,hn,_⟩:=Qd e hi (by have:=ho.1; omega)
  have hox:chainOk x:=ho.2 x (by rw [e]; simp)
  have ih:=Qk0 h s ho r (p ++ [x]) (i + 1) (Qc e) hn
  rw [Qkz]
  cases hv:validChain x with
  | false=>simp [hlt,hx,Qgc h.c_f124 x hox,hv,okChain]
  | true =>
   obtain ⟨v,x',rfl⟩:∃ v x',x = v :: x':=by
    cases x with
    | nil=>exact absurd rfl (Qagi hv)
    | cons v x'=>exact ⟨v,x',rfl⟩
   have hfst:∀ {γ:Type} (K:U→Option γ),U.elemAt 5 (.sl 5 ((v :: x').map Version.u)) 0 K = K v.u:=fun K=>by
    rw [Qjg]; rfl
   have hlen:decide ((50:Int) < ((v :: x').length:Int)) = !decide ((v :: x').length ≤ 50):=by
    rw [← decide_not]; congr 1; simp only [eq_iff_iff]; omega
   by_cases hc:0 < v.created
   ·cases h50:decide ((v :: x').length ≤ 50) <;>
     simp only [Store.u_agg,Qbd,List.take_zero,if_true,List.getElem?_cons_zero,Option.bind_some,Qcx,Qn,List.length_map,Ql,hlt,decide_true,Qi,Qp,hx,Qdp,Qgc h.c_f124 _ hox,hv,Qcs,Bool.not_true,Bool.false_eq_true,if_false,Qjf,hfst,Version.u_at2,Qan,Qit,hc,Qe1,hlen,h50,Bool.not_false,Qo,hw,ih,okChain,List.all_cons,Bool.and_false,Bool.false_and,Bool.true_and,Bool.and_true]
   ·cases h50:decide ((v :: x').length ≤ 50) <;>
     simp only [Store.u_agg,Qbd,List.take_zero,if_true,List.getElem?_cons_zero,Option.bind_some,Qcx,Qn,List.length_map,Ql,hlt,decide_true,decide_false,Qi,Qp,hx,Qdp,Qgc h.c_f124 _ hox,hv,Qcs,Bool.not_true,Bool.false_eq_true,if_false,Qjf,hfst,Version.u_at2,Qan,Qit,hc,Qe1,hlen,h50,Bool.not_false,Qo,hw,ih,okChain,List.all_cons,Bool.and_false,Bool.false_and,Bool.true_and,Bool.and_true]
theorem Qdw (h:G_f126 E) (s:Store) (ho:s.ok):E 103 [s.u] = some (.bool s.valid):=by
 rw [Qvl h]
 simp [Qk0 h s ho s.chains [] 0 rfl rfl,Store.valid]
theorem Qwm (h:G_f20 E) (l:List Version) (hl:chainOk l):E 113 [chainU l] = some (.bool (!okChain l)):=by
 rw [f20_E h]
 have hlen:decide ((50:Int) < (l.length:Int)) = !decide (l.length ≤ 50):=by
  rw [← decide_not]; congr 1; simp only [eq_iff_iff]; omega
 cases hv:validChain l <;> simp [Qwc h.c_f15 l hl,hv,okChain]
 omega
theorem Qwj (h:G_f19 E) (s:Store) (ho:s.ok):E 112 [s.u] = some (.bool s.valid):=by
 rw [f19_E h]
 have h1:decide ((s.chains.length:Int) = 6) = decide (s.chains.length = 6):=by congr 1; simp only [eq_iff_iff]; omega
 have h2:=Qt4 h.c_f109 s.chains (by have:=ho.1; omega) 113 [] (fun l=>!okChain l) (fun c hc=>Qwm h.c_f20 c (ho.2 c hc))
 have h3:(!s.chains.any fun l=>!okChain l) = s.chains.all okChain:=by
  rw [List.not_any_eq_all_not]; simp
 simp only [Store.u_noTup,Store.u_agg,Qbd,List.take_zero,if_true,List.getElem?_cons_zero,Option.bind_some,Qcx,Qn,List.length_map,Qcd,h1,Qi,h2,Qcs,h3,ite_t,Store.valid,Bool.and_comm]
theorem Qi3:∀ {l:List Version},chainRest l = true→∀ v ∈ l,v.valid = true
 | [],_,v,hv=>by simp at hv
 | [x],h,v,hv=>by
  simp only [List.mem_singleton] at hv
  subst hv
  exact h
 | x :: y :: r,h,v,hv=>by
  simp only [chainRest,Bool.and_eq_true] at h
  rcases List.mem_cons.1 hv with rfl | hv
  ·exact h.1
  ·exact Qi3 h.2.2 v hv
theorem Version.valid_le {v:Version} (h:v.valid = true):v.created ≤ v.reader ∧ 0 ≤ v.created ∧ v.reader ≤ 999 ∧ 1 ≤ v.successor ∧ v.successor ≤ 1000:=by
 simp only [Version.valid,inR,Bool.and_eq_true,decide_eq_true_eq] at h
 omega
theorem Store.valid_mem {s:Store} (h:s.valid = true) {c:List Version} (hc:c ∈ s.chains):validChain c = true ∧ c.length ≤ 50 ∧ ∀ v ∈ c,v.valid = true:=by
 simp only [Store.valid,Bool.and_eq_true,List.all_eq_true] at h
 have:=h.1 c hc
 simp only [okChain,Bool.and_eq_true,decide_eq_true_eq] at this
 refine ⟨this.1,this.2,?_⟩
 have h2:=this.1
 simp only [validChain,Bool.and_eq_true] at h2
 exact Qi3 h2.1
def Store.chain (s:Store) (k:Int):List Version:=s.chains.getD k.toNat []
theorem Qfz {s:Store} (hv:s.valid = true) {k:Int} (h0:0 ≤ k) (h1:k ≤ 5):s.chains[k.toNat]? = some (s.chain k) ∧ s.chain k ∈ s.chains:=by
 simp only [Store.valid,Bool.and_eq_true,decide_eq_true_eq] at hv
 have hlt:k.toNat < s.chains.length:=by omega
 have e:s.chain k = s.chains[k.toNat]:=by unfold Store.chain; simp [List.getElem?_eq_getElem hlt]
 rw [e]
 exact ⟨List.getElem?_eq_getElem hlt,List.getElem_mem hlt⟩
theorem Qen {s:Store} (hv:s.valid = true) {k:Int} (h0:0 ≤ k) (h1:k ≤ 5) {γ:Type} (K:U→Option γ):U.elemAt 1 (.sl 1 (s.chains.map chainU)) k K = K (chainU (s.chain k)) :=
 Qc2 chainU h0 (Qfz hv h0 h1).1 K
theorem Qbm (h:G_f35 E) (n:Int):E 160 [.int .i64 n] = some (.bool (inR n 1 4)):=by
 rw [f35_E h]; simp [Qz h.c_f32]
theorem Qwo (h:G_f21 E) (t:Transaction) (ho:t.ok):E 159 [t.u] = some (.bool t.valid):=by
 rw [f21_E h]
 have r1:=Qww h.c_f29 t.reads ho.1
 have r2:=Qwz h.c_f30 t.writes ho.2
 cases c1:inR t.id 1 9
 ·simp [Qae h.c_f33,c1,Transaction.valid]
 cases c2:inR t.scheme 1 4
 ·simp [Qae h.c_f33,Qbm h.c_f35,c1,c2,Transaction.valid]
 cases c3:inR t.state 1 3
 ·simp [Qae h.c_f33,Qbm h.c_f35,Qz h.c_f32,c1,c2,c3,Transaction.valid]
 cases c4:inR t.begin_ 0 999
 ·simp [Qae h.c_f33,Qbm h.c_f35,Qz h.c_f32,c1,c2,c3,c4,Transaction.valid]
 cases c5:inR t.low 0 999
 ·simp [Qae h.c_f33,Qbm h.c_f35,Qz h.c_f32,c1,c2,c3,c4,c5,Transaction.valid]
 cases c6:inR t.high 1 1000
 ·simp [Qae h.c_f33,Qbm h.c_f35,Qz h.c_f32,c1,c2,c3,c4,c5,c6,Transaction.valid]
 have Hf:=fun (X:Bool)=>(rfl:(false && X) = false)
 by_cases hs:t.state = 2
 ·have hd:(t.state = 2) = True:=eq_true hs
  cases c7:inR t.commit 1 999
  ·have e:(decide (0 < t.commit) && (inR t.commit 0 999 && (areReads t.reads && areWrites t.writes))) = false:=by
    simp only [inR,decide_eq_false_iff_not] at c7
    by_cases h0:0 < t.commit
    ·have:inR t.commit 0 999 = false:=by simp only [inR,decide_eq_false_iff_not]; omega
     simp [this]
    ·simp [h0]
   simp [Qae h.c_f33,Qbm h.c_f35,Qz h.c_f32,Qew h.c_f14,c1,c2,c3,c4,c5,c6,hd,c7,Transaction.valid] at e ⊢
   intro a b
   exact e a b
  ·have e1:decide (0 < t.commit) = true:=by simp only [inR,decide_eq_true_eq] at c7 ⊢; omega
   have e2:inR t.commit 0 999 = true:=by simp only [inR,decide_eq_true_eq] at c7 ⊢; omega
   have e3:(0 < t.commit) = True:=eq_true (by simpa using e1)
   simp [Qae h.c_f33,Qbm h.c_f35,Qz h.c_f32,Qew h.c_f14,c1,c2,c3,c4,c5,c6,hd,c7,Transaction.valid,r1,r2,ite_t,e3,e2]
 ·have hd:(t.state = 2) = False:=eq_false hs
  by_cases hz:t.commit = 0
  ·have e2:inR t.commit 0 999 = true:=by simp only [inR,decide_eq_true_eq]; omega
   rw [hz] at e2
   simp [Qae h.c_f33,Qbm h.c_f35,Qz h.c_f32,Qew h.c_f14,c1,c2,c3,c4,c5,c6,hd,hz,Transaction.valid,r1,r2,ite_t,e2]
  ·have hz':(t.commit = 0) = False:=eq_false hz
   simp [Qae h.c_f33,Qbm h.c_f35,Qz h.c_f32,Qew h.c_f14,c1,c2,c3,c4,c5,c6,hd,hz',Transaction.valid]
   intro a b c
   simp only [inR,decide_eq_true_eq] at b
   omega
theorem Qj9 (l:List ReadMark) (hl:l.length ≤ 9223372036854775807) (q:Nat) (caps:List U) (P:ReadMark→Bool) (hp:∀ x ∈ l,E q (ReadMark.u x :: caps) = some (.bool (P x))) (hq:q < 100000):∀ (r p:List ReadMark) (i:Int),l = p ++ r→i = p.length →
  f114_l0 E (.sl 2 (l.map ReadMark.u)) (.fn q caps) (.int .i64 l.length) (.int .i64 i) = some (.int .i64 (idxF P r i))
 | [],p,i,e,hi=>by
  rw [Qj8]
  simp [Qg e hi,idxF]
 | x :: r,p,i,e,hi=>by
  obtain ⟨h0,hlt,hx,hw,hn,_⟩:=Qd e hi hl
  have hpx:=hp x (by rw [e]; simp)
  have ih:=Qj9 l hl q caps P hp hq r (p ++ [x]) (i + 1) (Qc e) hn
  rw [Qj8]
  cases h1:P x <;> simp [hlt,hx,hw,ih,hpx,hq,h1,idxF]
theorem Qul (h:G_f114 E) (l:List ReadMark) (hl:l.length ≤ 9223372036854775807) (q:Nat) (caps:List U) (P:ReadMark→Bool) (hp:∀ x ∈ l,E q (ReadMark.u x :: caps) = some (.bool (P x))) (hq:q < 100000:=by decide) :
  E 163 [.sl 2 (l.map ReadMark.u),.fn q caps] = some (.int .i64 (idxF P l 0)):=by
 rw [Quk h]
 simp [Qj9 l hl q caps P hp hq l [] 0 rfl rfl]
theorem Quf (h:G_f112 E) (l:List ReadMark) (hl:l.length ≤ 9223372036854775807) (q:Nat) (caps:List U) (P:ReadMark→Bool) (hp:∀ x ∈ l,E q (ReadMark.u x :: caps) = some (.bool (P x))) (hq:q < 100000:=by decide) :
  E 162 [.sl 2 (l.map ReadMark.u),.fn q caps] = some (.bool (l.any P)):=by
 rw [Que h]
 simp [Qul h.c_f114 l hl q caps P hp hq,Qd0]
theorem Qkb (l:List Version) (hl:l.length ≤ 9223372036854775807) (q:Nat) (caps:List U) (P:Version→Bool) (hp:∀ x ∈ l,E q (Version.u x :: caps) = some (.bool (P x))) (hq:q < 100000):∀ (r p:List Version) (i:Int),l = p ++ r→i = p.length →
  f115_l0 E (.sl 5 (l.map Version.u)) (.fn q caps) (.int .i64 l.length) (.int .i64 i) = some (.int .i64 (idxF P r i))
 | [],p,i,e,hi=>by
  rw [Qka]
  simp [Qg e hi,idxF]
 | x :: r,p,i,e,hi=>by
  obtain ⟨h0,hlt,hx,hw,hn,_⟩:=Qd e hi hl
  have hpx:=hp x (by rw [e]; simp)
  have ih:=Qkb l hl q caps P hp hq r (p ++ [x]) (i + 1) (Qc e) hn
  rw [Qka]
  cases h1:P x <;> simp [hlt,hx,hw,ih,hpx,hq,h1,idxF]
theorem Quo (h:G_f115 E) (l:List Version) (hl:l.length ≤ 9223372036854775807) (q:Nat) (caps:List U) (P:Version→Bool) (hp:∀ x ∈ l,E q (Version.u x :: caps) = some (.bool (P x))) (hq:q < 100000:=by decide) :
  E 167 [.sl 5 (l.map Version.u),.fn q caps] = some (.int .i64 (idxF P l 0)):=by
 rw [Qun h]
 simp [Qkb l hl q caps P hp hq l [] 0 rfl rfl]
theorem Qkf (l:List Transaction) (hl:l.length ≤ 9223372036854775807) (q:Nat) (caps:List U) (P:Transaction→Bool) (hp:∀ x ∈ l,E q (Transaction.u x :: caps) = some (.bool (P x))) (hq:q < 100000):∀ (r p:List Transaction) (i:Int),l = p ++ r→i = p.length →
  f117_l0 E (.sl 9 (l.map Transaction.u)) (.fn q caps) (.int .i64 l.length) (.int .i64 i) = some (.int .i64 (idxF P r i))
 | [],p,i,e,hi=>by
  rw [Qke]
  simp [Qg e hi,idxF]
 | x :: r,p,i,e,hi=>by
  obtain ⟨h0,hlt,hx,hw,hn,_⟩:=Qd e hi hl
  have hpx:=hp x (by rw [e]; simp)
  have ih:=Qkf l hl q caps P hp hq r (p ++ [x]) (i + 1) (Qc e) hn
  rw [Qke]
  cases h1:P x <;> simp [hlt,hx,hw,ih,hpx,hq,h1,idxF]
theorem Quu (h:G_f117 E) (l:List Transaction) (hl:l.length ≤ 9223372036854775807) (q:Nat) (caps:List U) (P:Transaction→Bool) (hp:∀ x ∈ l,E q (Transaction.u x :: caps) = some (.bool (P x))) (hq:q < 100000:=by decide) :
  E 172 [.sl 9 (l.map Transaction.u),.fn q caps] = some (.int .i64 (idxF P l 0)):=by
 rw [Qut h]
 simp [Qkf l hl q caps P hp hq l [] 0 rfl rfl]
def isAt (created:Int) (v:Version):Bool:=decide (v.created = created)
theorem Qt6 (h:G_f10 E) (v:Version) (c:Int):E 166 [v.u,.vp (.int .i64 c)] = some (.bool (isAt c v)):=by
 rw [f10_E h]; simp [isAt]
theorem f9_is (h:G_f9 E) (l:List Version) (hl:chainOk l) (c:Int):E 165 [chainU l,.int .i64 c] = some (.int .i64 (idxF (isAt c) l 0)):=by
 rw [f9_E h]
 have:=Quo h.c_f115 l (by unfold chainOk at hl; omega) 166 [.vp (.int .i64 c)] (isAt c) (fun v _=>Qt6 h.c_f10 v c)
 unfold chainU
 simp [this]
theorem Qkr (l:List Version) (hl:chainOk l) (c:Int):∀ (r p:List Version) (i:Int),l = p ++ r→i = p.length →
  f122_l0 E (.sl 5 (l.map Version.u)) (.int .i64 c) (.int .i64 i) = some (.int .i64 (idxF (isAt c) r i))
 | [],p,i,e,hi=>by
  rw [Qkq]
  simp [Qg e hi,idxF]
 | x :: r,p,i,e,hi=>by
  obtain ⟨h0,hlt,hx,hw,hn,_⟩:=Qd e hi (by unfold chainOk at hl; omega)
  have ih:=Qkr l hl c r (p ++ [x]) (i + 1) (Qc e) hn
  rw [Qkq]
  by_cases h1:x.created = c <;> simp [hlt,hx,hw,ih,h1,idxF,isAt]
theorem Qvb (h:G_f122 E) (l:List Version) (hl:chainOk l) (c:Int):E 140 [chainU l,.int .i64 c] = some (.int .i64 (idxF (isAt c) l 0)):=by
 rw [Qva h]
 exact Qkr l hl c l [] 0 rfl rfl
def hasMark (s:Store) (m:ReadMark):Bool:=(s.chain m.key).any (isAt m.created)
theorem Qabu (h:G_f23 E) (s:Store) (ho:s.ok) (hv:s.valid = true) (m:ReadMark) (h0:0 ≤ m.key) (h1:m.key ≤ 5) :
  E 164 [s.u,m.u] = some (match (s.chain m.key).find? (isAt m.created) with | none=>.nil | some v=>.vp v.u):=by
 rw [f23_E h]
 have hc:chainOk (s.chain m.key):=ho.2 _ (Qfz hv h0 h1).2
 have hf:=f9_is h.c_f9 (s.chain m.key) hc m.created
 rcases Qog (isAt m.created) (s.chain m.key) 0 with ⟨e1,e2⟩ | ⟨p,x,r,e1,e2,e3,e4⟩
 ·have:(s.chain m.key).find? (isAt m.created) = none:=by simpa using e2
  rw [e1] at hf
  rw [this]
  simp [Qen hv h0 h1,hf]
 ·have:(s.chain m.key).find? (isAt m.created) = some x:=by
   rw [e1,List.find?_append]
   have:p.find? (isAt m.created) = none:=by simpa using e4
   rw [this]; simp [e3]
  rw [this]
  rw [e2] at hf
  have hneg:¬ (0:Int) + p.length < 0:=by omega
  obtain ⟨_,_,hx,_,_,_⟩:=Qd e1 (i:=(0:Int) + p.length) (by omega) (by unfold chainOk at hc; omega)
  simp [Qen hv h0 h1,hf,hneg] at hx ⊢
  simp [hx]
theorem Qz7 {α:Type} (P:α→Bool) (l:List α):(l.find? P).isSome = l.any P:=by
 induction l with
 | nil=>rfl
 | cons x r ih=>cases h:P x <;> simp [List.find?_cons,h,ih]
theorem Qabw (h:G_f26 E) (s:Store) (ho:s.ok) (hv:s.valid = true) (m:ReadMark) (h0:0 ≤ m.key) (h1:m.key ≤ 5) :
  E 161 [m.u,.vp s.u] = some (.bool (!hasMark s m)):=by
 rw [f26_E h]
 have hf:=Qabu h.c_f23 s ho hv m h0 h1
 unfold hasMark
 rw [← Qz7]
 cases hx:(s.chain m.key).find? (isAt m.created) <;> rw [hx] at hf <;> simp [hf]
def KeysOK (l:List ReadMark):Prop:=∀ m ∈ l,0 ≤ m.key ∧ m.key ≤ 5
theorem Qp7:∀ {l:List ReadMark} {p:Option ReadMark},readsFrom p l = true→KeysOK l
 | [],_,_=>fun m hm=>by simp at hm
 | x :: r,p,h=>by
  simp only [readsFrom,reads1,inR,Bool.and_eq_true,decide_eq_true_eq] at h
  intro m hm
  rcases List.mem_cons.1 hm with rfl | hm
  ·exact h.1.1.1
  ·exact Qp7 h.2 m hm
theorem Qrw {t:Transaction} (h:t.valid = true):KeysOK t.reads:=by
 simp only [Transaction.valid,areReads,Bool.and_eq_true] at h
 exact Qp7 h.2.2.2.2.2.2.2.2.1.1
def marksExist (s:Store) (l:List ReadMark):Bool:=l.all (hasMark s)
theorem Qabx (h:G_f25 E) (s:Store) (ho:s.ok) (hv:s.valid = true) (l:List ReadMark) (hl:l.length ≤ 1048576) (hk:KeysOK l) :
  E 158 [s.u,.sl 2 (l.map ReadMark.u)] = some (.bool (marksExist s l)):=by
 rw [f25_E h]
 have h2:=Quf h.c_f112 l (by omega) 161 [.vp s.u] (fun m=>!hasMark s m) (fun m hm=>Qabw h.c_f26 s ho hv m (hk m hm).1 (hk m hm).2)
 have h3:(!l.any fun m=>!hasMark s m) = marksExist s l:=by
  rw [List.not_any_eq_all_not]; simp [marksExist]
 simp [h2,h3]
theorem Qk9 (h:G_f130 E) (s:Store) (ho:s.ok) (hv:s.valid = true) (t:Transaction) (ht:t.ok) (hk:KeysOK t.reads):∀ (r p:List ReadMark) (i:Int),t.reads = p ++ r→i = p.length →
  f130_l0 E (.int .i64 i) s.u t.u = some (.bool (marksExist s r))
 | [],p,i,e,hi=>by
  rw [Qk8]
  simp [Qg e hi,marksExist]
 | m :: r,p,i,e,hi=>by
  obtain ⟨h0,hlt,hx,hw,hn,_⟩:=Qd e hi (by have:=ht.1; omega)
  have ih:=Qk9 h s ho hv t ht hk r (p ++ [m]) (i + 1) (Qc e) hn
  have hm:=hk m (by rw [e]; simp)
  have hc:chainOk (s.chain m.key):=ho.2 _ (Qfz hv hm.1 hm.2).2
  have hf:=Qvb h.c_f122 (s.chain m.key) hc m.created
  have hany:=Qd0 (isAt m.created) (s.chain m.key) (i:=0) (by omega)
  rw [Qk8]
  cases hb:hasMark s m with
  | false =>
   have:idxF (isAt m.created) (s.chain m.key) 0 < 0:=by
    unfold hasMark at hb
    rw [hb] at hany
    simp only [decide_eq_false_iff_not] at hany
    omega
   simp [hlt,hx,Qen hv hm.1 hm.2,hf,this,marksExist,hb]
  | true =>
   have:¬ idxF (isAt m.created) (s.chain m.key) 0 < 0:=by
    unfold hasMark at hb
    rw [hb] at hany
    simp only [decide_eq_true_eq] at hany
    omega
   simp [hlt,hx,hw,Qen hv hm.1 hm.2,hf,this,ih]
   simp [marksExist,hb]
theorem Qvw (h:G_f130 E) (s:Store) (ho:s.ok) (t:Transaction) (ht:t.ok):E 136 [s.u,t.u] = some (.bool (s.valid && (t.valid && marksExist s t.reads))):=by
 rw [Qvv h]
 cases hv:s.valid
 ·simp [Qdw h.c_f126 s ho,hv]
 cases hv2:t.valid
 ·simp [Qdw h.c_f126 s ho,hv,Qgd h.c_f127 t ht,hv2]
 simp [Qdw h.c_f126 s ho,hv,Qgd h.c_f127 t ht,hv2,Qk9 h s ho hv t ht (Qrw hv2) t.reads [] 0 rfl rfl]
def mx (a b:Int):Int:=if a < b then b else a
theorem mx_ge {a b:Int}:a ≤ mx a b ∧ b ≤ mx a b:=by unfold mx; split <;> omega
def lastC (n:Int) (c:List Version):Int:=c.foldl (fun a v=>mx a v.reader) n
def Store.last (s:Store):Int:=s.chains.foldl lastC 0
theorem Qol (s:Store) (ho:s.ok) (i:Int) (hi0:0 ≤ i) (hi1:i ≤ 1048576) (c:List Version) (hc:chainOk c):∀ (r p:List Version) (j n:Int),c = p ++ r→j = p.length →
  f24_l1 E (.int .i64 n) (.sl 1 (s.chains.map chainU)) (.int .i64 s.chains.length) (.int .i64 i) (chainU c) (.int .i64 c.length) (.int .i64 j) = f24_l0 E (.int .i64 (lastC n r)) (.sl 1 (s.chains.map chainU)) (.int .i64 s.chains.length) (.int .i64 (i + 1))
 | [],p,j,n,e,hj=>by
  have hw:IntKind.i64.wrap (i + 1) = i + 1:=Qj (by omega)
  rw [Qli]
  simp [Qg e hj,hw,lastC]
 | v :: r,p,j,n,e,hj=>by
  obtain ⟨h0,hlt,hx,hw,hn,_⟩:=Qd e hj (by unfold chainOk at hc; omega)
  have ih:=Qol s ho i hi0 hi1 c hc r (p ++ [v]) (j + 1) (mx n v.reader) (Qc e) hn
  rw [Qli]
  simp only [lastC,List.foldl_cons] at ih ⊢
  rw [← ih]
  simp [hlt,hx,hw,mx]
theorem Qok (s:Store) (ho:s.ok):∀ (r p:List (List Version)) (i n:Int),s.chains = p ++ r→i = p.length →
  f24_l0 E (.int .i64 n) (.sl 1 (s.chains.map chainU)) (.int .i64 s.chains.length) (.int .i64 i) = some (.int .i64 (r.foldl lastC n))
 | [],p,i,n,e,hi=>by
  rw [Qlh]
  simp [Qg e hi]
 | c :: r,p,i,n,e,hi=>by
  obtain ⟨h0,hlt,hx,hw,hn,_⟩:=Qd e hi (by have:=ho.1; omega)
  have hc:chainOk c:=ho.2 c (by rw [e]; simp)
  have h1:=Qol (E:=E) s ho i h0 (by have:=ho.1; omega) c hc c [] 0 n rfl rfl
  have ih:=Qok s ho r (p ++ [c]) (i + 1) (lastC n c) (Qc e) hn
  rw [Qlh]
  simp only [Ql,hlt,decide_true,Option.bind_some,Qi,if_true,Qp,hx,Qdp,Qe1,List.foldl_cons]
  rw [h1,ih]
theorem Qabv (h:G_f24 E) (s:Store) (ho:s.ok):E 152 [s.u] = some (.int .i64 s.last):=by
 rw [f24_E h]
 simp [Qok s ho s.chains [] 0 0 rfl rfl,Store.last]
theorem Qk7 (s:Store) (ho:s.ok) (hv:s.valid = true) (i:Int) (c:List Version) (hc:chainOk c) (h0:0 ≤ i) (hi1:i ≤ 1048576) (hi:s.chains[i.toNat]? = some c):∀ (r p:List Version) (j n:Int),c = p ++ r→j = p.length →
  f129_l1 E (.int .i64 n) (.int .i64 i) (.int .i64 j) s.u = f129_l0 E (.int .i64 (lastC n r)) (.int .i64 (i + 1)) s.u
 | [],p,j,n,e,hj=>by
  have hw:IntKind.i64.wrap (i + 1) = i + 1:=Qj (by omega)
  rw [Qk6]
  simp [Qg e hj,hw,lastC,Qc2 chainU h0 hi]
 | v :: r,p,j,n,e,hj=>by
  obtain ⟨j0,hlt,hx,hw,hn,_⟩:=Qd e hj (by unfold chainOk at hc; omega)
  have hvv:=((Store.valid_mem hv (List.mem_of_getElem? hi)).2.2 v (by rw [e]; simp))
  have hle:=(Version.valid_le hvv).1
  have ih:=Qk7 s ho hv i c hc h0 hi1 hi r (p ++ [v]) (j + 1) (mx n v.reader) (Qc e) hn
  rw [Qk6]
  simp only [lastC,List.foldl_cons] at ih ⊢
  rw [← ih]
  have hm:(if (if n < v.created then v.created else n) < v.reader then v.reader else if n < v.created then v.created else n) = mx n v.reader:=by
   unfold mx; split <;> (try split) <;> (try split) <;> omega
  simp [hlt,hx,hw,Qc2 chainU h0 hi,hm]
theorem Qk5 (h:G_f129 E) (s:Store) (ho:s.ok) (hv:s.valid = true):∀ (r p:List (List Version)) (i n:Int),s.chains = p ++ r→i = p.length →
  f129_l0 E (.int .i64 n) (.int .i64 i) s.u = some (.int .i64 (r.foldl lastC n))
 | [],p,i,n,e,hi=>by
  rw [Qk4]
  simp [Qg e hi]
 | c :: r,p,i,n,e,hi=>by
  obtain ⟨h0,hlt,hx,hw,hn,hxi⟩:=Qd e hi (by have:=ho.1; omega)
  have hc:chainOk c:=ho.2 c (by rw [e]; simp)
  have h1:=Qk7 (E:=E) s ho hv i c hc h0 (by have:=ho.1; omega) hxi c [] 0 n rfl rfl
  have ih:=Qk5 h s ho hv r (p ++ [c]) (i + 1) (lastC n c) (Qc e) hn
  rw [Qk4]
  simp [hlt,Qdw h.c_f126 s ho,hv,h1,ih]
theorem Qvs (h:G_f129 E) (s:Store) (ho:s.ok) (hv:s.valid = true):E 139 [s.u] = some (.int .i64 s.last):=by
 rw [Qvr h]
 simp [Qk5 h s ho hv s.chains [] 0 0 rfl rfl,Store.last]
theorem Qkd (l:List Lock) (hl:l.length ≤ 9223372036854775807) (q:Nat) (caps:List U) (P:Lock→Bool) (hp:∀ x ∈ l,E q (Lock.u x :: caps) = some (.bool (P x))) (hq:q < 100000):∀ (r p:List Lock) (i:Int),l = p ++ r→i = p.length →
  f116_l0 E (.sl 2 (l.map Lock.u)) (.fn q caps) (.int .i64 l.length) (.int .i64 i) = some (.int .i64 (idxF P r i))
 | [],p,i,e,hi=>by
  rw [Qkc]
  simp [Qg e hi,idxF]
 | x :: r,p,i,e,hi=>by
  obtain ⟨h0,hlt,hx,hw,hn,_⟩:=Qd e hi hl
  have hpx:=hp x (by rw [e]; simp)
  have ih:=Qkd l hl q caps P hp hq r (p ++ [x]) (i + 1) (Qc e) hn
  rw [Qkc]
  cases h1:P x <;> simp [hlt,hx,hw,ih,hpx,hq,h1,idxF]
theorem Qur (h:G_f116 E) (l:List Lock) (hl:l.length ≤ 9223372036854775807) (q:Nat) (caps:List U) (P:Lock→Bool) (hp:∀ x ∈ l,E q (Lock.u x :: caps) = some (.bool (P x))) (hq:q < 100000:=by decide) :
  E 168 [.sl 2 (l.map Lock.u),.fn q caps] = some (.int .i64 (idxF P l 0)):=by
 rw [Quq h]
 simp [Qkd l hl q caps P hp hq l [] 0 rfl rfl]
theorem Qt9 (h:G_f110 E) (l:List Lock) (hl:l.length ≤ 9223372036854775807) (q:Nat) (caps:List U) (P:Lock→Bool) (hp:∀ x ∈ l,E q (Lock.u x :: caps) = some (.bool (P x))) (hq:q < 100000:=by decide) :
  E 155 [.sl 2 (l.map Lock.u),.fn q caps] = some (.bool (l.any P)):=by
 rw [Qt8 h]
 simp [Qur h.c_f116 l hl q caps P hp hq,Qd0]
theorem Qkh (l:List Wait) (hl:l.length ≤ 9223372036854775807) (q:Nat) (caps:List U) (P:Wait→Bool) (hp:∀ x ∈ l,E q (Wait.u x :: caps) = some (.bool (P x))) (hq:q < 100000):∀ (r p:List Wait) (i:Int),l = p ++ r→i = p.length →
  f118_l0 E (.sl 2 (l.map Wait.u)) (.fn q caps) (.int .i64 l.length) (.int .i64 i) = some (.int .i64 (idxF P r i))
 | [],p,i,e,hi=>by
  rw [Qkg]
  simp [Qg e hi,idxF]
 | x :: r,p,i,e,hi=>by
  obtain ⟨h0,hlt,hx,hw,hn,_⟩:=Qd e hi hl
  have hpx:=hp x (by rw [e]; simp)
  have ih:=Qkh l hl q caps P hp hq r (p ++ [x]) (i + 1) (Qc e) hn
  rw [Qkg]
  cases h1:P x <;> simp [hlt,hx,hw,ih,hpx,hq,h1,idxF]
theorem Qux (h:G_f118 E) (l:List Wait) (hl:l.length ≤ 9223372036854775807) (q:Nat) (caps:List U) (P:Wait→Bool) (hp:∀ x ∈ l,E q (Wait.u x :: caps) = some (.bool (P x))) (hq:q < 100000:=by decide) :
  E 173 [.sl 2 (l.map Wait.u),.fn q caps] = some (.int .i64 (idxF P l 0)):=by
 rw [Quw h]
 simp [Qkh l hl q caps P hp hq l [] 0 rfl rfl]
theorem Quc (h:G_f111 E) (l:List Wait) (hl:l.length ≤ 9223372036854775807) (q:Nat) (caps:List U) (P:Wait→Bool) (hp:∀ x ∈ l,E q (Wait.u x :: caps) = some (.bool (P x))) (hq:q < 100000:=by decide) :
  E 157 [.sl 2 (l.map Wait.u),.fn q caps] = some (.bool (l.any P)):=by
 rw [Qub h]
 simp [Qux h.c_f118 l hl q caps P hp hq,Qd0]
end Go.Proofs.YtlgblpngiamhaaaGreat.Am
