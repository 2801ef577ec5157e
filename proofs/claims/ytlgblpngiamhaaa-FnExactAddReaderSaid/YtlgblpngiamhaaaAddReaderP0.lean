import Derived.Test.YtlgblpngiamhaaaAmX
import Derived.Test.YtlgblpngiamhaaaAmEd
import Derived.Test.YtlgblpngiamhaaaAddReaderF0
import Derived.Test.YtlgblpngiamhaaaAmAr
import Derived.Test.YtlgblpngiamhaaaAmSs
namespace Go.Proofs.Ytlgblpngiamhaaa.Am
open Go
variable {α : Type}
def intU (n : Int) : U := .int .i64 n
@[simp] theorem intU_size (n : Int) : (intU n).size = 1 := rfl
@[simp] theorem asVar_intU (n : Int) (K : U → Option α) : U.asVar false 1 (intU n) K = K (.int .i64 n) := rfl
@[simp] theorem storable_intU (n : Int) : storable (.val (intU n)) = true := rfl
@[simp] theorem partable_intU (n : Int) : partable (.val (intU n)) = true := rfl
abbrev intsU (l : List Int) : U := .sl 1 (l.map intU)
@[simp] theorem Edge.u_size (e : Edge) : e.u.size = 4 := rfl
@[simp] theorem Edge.u_var (e : Edge) (K : U → Option α) : U.asVar true 4 e.u K = K e.u := rfl
@[simp] theorem Edge.u_storable (e : Edge) : storable (.val e.u) = true := rfl
@[simp] theorem Edge.u_partable (e : Edge) : partable (.val e.u) = true := rfl
@[simp] theorem Edge.u_noTup (e : Edge) (K : U → Option α) : U.noTup e.u K = K e.u := rfl
@[simp] theorem Edge.u_agg (e : Edge) (K : List U → Option α) : U.asAgg e.u K = K [.int .i64 e.frm, .int .i64 e.to, .int .i64 e.kind, .int .i64 e.key] := rfl
@[simp] theorem Edge.u_at0 (e : Edge) (K : U → Option α) : U.fieldAt 0 0 e.u K = K (.int .i64 e.frm) := rfl
@[simp] theorem Edge.u_at1 (e : Edge) (K : U → Option α) : U.fieldAt 1 1 e.u K = K (.int .i64 e.to) := rfl
@[simp] theorem Edge.u_at2 (e : Edge) (K : U → Option α) : U.fieldAt 2 2 e.u K = K (.int .i64 e.kind) := rfl
@[simp] theorem Edge.u_at3 (e : Edge) (K : U → Option α) : U.fieldAt 3 3 e.u K = K (.int .i64 e.key) := rfl
@[simp] theorem Edge.u_flat (e : Edge) : e.u.flat = true := rfl
@[simp] theorem Edge.u_asFlat (e : Edge) (K : U → Option α) : U.asFlat e.u K = K e.u := rfl
@[simp] theorem Edge.u_eqv (x y : Edge) : U.eqv 6 x.u y.u = some (decide (x = y)) := by
  obtain ⟨a0, a1, a2, a3⟩ := x
  obtain ⟨b0, b1, b2, b3⟩ := y
  simp only [Edge.mk.injEq]
  show (if 4 = 4 then eqInts _ _ else none) = _
  simp only [if_true, eqInts_cons, eqInts_nil, Option.map_some, Bool.decide_and, Bool.and_true]
  rfl
structure ReadMark where
  key : Int
  created : Int
  deriving DecidableEq
def ReadMark.u (e : ReadMark) : U := .agg [.int .i64 e.key, .int .i64 e.created]
@[simp] theorem ReadMark.u_size (e : ReadMark) : e.u.size = 2 := rfl
@[simp] theorem ReadMark.u_var (e : ReadMark) (K : U → Option α) : U.asVar true 2 e.u K = K e.u := rfl
@[simp] theorem ReadMark.u_storable (e : ReadMark) : storable (.val e.u) = true := rfl
@[simp] theorem ReadMark.u_partable (e : ReadMark) : partable (.val e.u) = true := rfl
@[simp] theorem ReadMark.u_noTup (e : ReadMark) (K : U → Option α) : U.noTup e.u K = K e.u := rfl
@[simp] theorem ReadMark.u_agg (e : ReadMark) (K : List U → Option α) : U.asAgg e.u K = K [.int .i64 e.key, .int .i64 e.created] := rfl
@[simp] theorem ReadMark.u_at0 (e : ReadMark) (K : U → Option α) : U.fieldAt 0 0 e.u K = K (.int .i64 e.key) := rfl
@[simp] theorem ReadMark.u_at1 (e : ReadMark) (K : U → Option α) : U.fieldAt 1 1 e.u K = K (.int .i64 e.created) := rfl
@[simp] theorem ReadMark.u_flat (e : ReadMark) : e.u.flat = true := rfl
@[simp] theorem ReadMark.u_asFlat (e : ReadMark) (K : U → Option α) : U.asFlat e.u K = K e.u := rfl
@[simp] theorem ReadMark.u_eqv (x y : ReadMark) : U.eqv 4 x.u y.u = some (decide (x = y)) := by
  obtain ⟨a0, a1⟩ := x
  obtain ⟨b0, b1⟩ := y
  simp only [ReadMark.mk.injEq]
  show (if 2 = 2 then eqInts _ _ else none) = _
  simp only [if_true, eqInts_cons, eqInts_nil, Option.map_some, Bool.decide_and, Bool.and_true]
  rfl
structure Write where
  key : Int
  value : Int
  deriving DecidableEq
def Write.u (e : Write) : U := .agg [.int .i64 e.key, .int .i64 e.value]
@[simp] theorem Write.u_size (e : Write) : e.u.size = 2 := rfl
@[simp] theorem Write.u_var (e : Write) (K : U → Option α) : U.asVar true 2 e.u K = K e.u := rfl
@[simp] theorem Write.u_storable (e : Write) : storable (.val e.u) = true := rfl
@[simp] theorem Write.u_partable (e : Write) : partable (.val e.u) = true := rfl
@[simp] theorem Write.u_noTup (e : Write) (K : U → Option α) : U.noTup e.u K = K e.u := rfl
@[simp] theorem Write.u_agg (e : Write) (K : List U → Option α) : U.asAgg e.u K = K [.int .i64 e.key, .int .i64 e.value] := rfl
@[simp] theorem Write.u_at0 (e : Write) (K : U → Option α) : U.fieldAt 0 0 e.u K = K (.int .i64 e.key) := rfl
@[simp] theorem Write.u_at1 (e : Write) (K : U → Option α) : U.fieldAt 1 1 e.u K = K (.int .i64 e.value) := rfl
@[simp] theorem Write.u_flat (e : Write) : e.u.flat = true := rfl
@[simp] theorem Write.u_asFlat (e : Write) (K : U → Option α) : U.asFlat e.u K = K e.u := rfl
@[simp] theorem Write.u_eqv (x y : Write) : U.eqv 4 x.u y.u = some (decide (x = y)) := by
  obtain ⟨a0, a1⟩ := x
  obtain ⟨b0, b1⟩ := y
  simp only [Write.mk.injEq]
  show (if 2 = 2 then eqInts _ _ else none) = _
  simp only [if_true, eqInts_cons, eqInts_nil, Option.map_some, Bool.decide_and, Bool.and_true]
  rfl
structure Lock where
  key : Int
  owner : Int
  deriving DecidableEq
def Lock.u (e : Lock) : U := .agg [.int .i64 e.key, .int .i64 e.owner]
@[simp] theorem Lock.u_size (e : Lock) : e.u.size = 2 := rfl
@[simp] theorem Lock.u_var (e : Lock) (K : U → Option α) : U.asVar true 2 e.u K = K e.u := rfl
@[simp] theorem Lock.u_storable (e : Lock) : storable (.val e.u) = true := rfl
@[simp] theorem Lock.u_partable (e : Lock) : partable (.val e.u) = true := rfl
@[simp] theorem Lock.u_noTup (e : Lock) (K : U → Option α) : U.noTup e.u K = K e.u := rfl
@[simp] theorem Lock.u_agg (e : Lock) (K : List U → Option α) : U.asAgg e.u K = K [.int .i64 e.key, .int .i64 e.owner] := rfl
@[simp] theorem Lock.u_at0 (e : Lock) (K : U → Option α) : U.fieldAt 0 0 e.u K = K (.int .i64 e.key) := rfl
@[simp] theorem Lock.u_at1 (e : Lock) (K : U → Option α) : U.fieldAt 1 1 e.u K = K (.int .i64 e.owner) := rfl
@[simp] theorem Lock.u_flat (e : Lock) : e.u.flat = true := rfl
@[simp] theorem Lock.u_asFlat (e : Lock) (K : U → Option α) : U.asFlat e.u K = K e.u := rfl
@[simp] theorem Lock.u_eqv (x y : Lock) : U.eqv 4 x.u y.u = some (decide (x = y)) := by
  obtain ⟨a0, a1⟩ := x
  obtain ⟨b0, b1⟩ := y
  simp only [Lock.mk.injEq]
  show (if 2 = 2 then eqInts _ _ else none) = _
  simp only [if_true, eqInts_cons, eqInts_nil, Option.map_some, Bool.decide_and, Bool.and_true]
  rfl
structure Wait where
  id : Int
  for_ : Int
  deriving DecidableEq
def Wait.u (e : Wait) : U := .agg [.int .i64 e.id, .int .i64 e.for_]
@[simp] theorem Wait.u_size (e : Wait) : e.u.size = 2 := rfl
@[simp] theorem Wait.u_var (e : Wait) (K : U → Option α) : U.asVar true 2 e.u K = K e.u := rfl
@[simp] theorem Wait.u_storable (e : Wait) : storable (.val e.u) = true := rfl
@[simp] theorem Wait.u_partable (e : Wait) : partable (.val e.u) = true := rfl
@[simp] theorem Wait.u_noTup (e : Wait) (K : U → Option α) : U.noTup e.u K = K e.u := rfl
@[simp] theorem Wait.u_agg (e : Wait) (K : List U → Option α) : U.asAgg e.u K = K [.int .i64 e.id, .int .i64 e.for_] := rfl
@[simp] theorem Wait.u_at0 (e : Wait) (K : U → Option α) : U.fieldAt 0 0 e.u K = K (.int .i64 e.id) := rfl
@[simp] theorem Wait.u_at1 (e : Wait) (K : U → Option α) : U.fieldAt 1 1 e.u K = K (.int .i64 e.for_) := rfl
@[simp] theorem Wait.u_flat (e : Wait) : e.u.flat = true := rfl
@[simp] theorem Wait.u_asFlat (e : Wait) (K : U → Option α) : U.asFlat e.u K = K e.u := rfl
@[simp] theorem Wait.u_eqv (x y : Wait) : U.eqv 4 x.u y.u = some (decide (x = y)) := by
  obtain ⟨a0, a1⟩ := x
  obtain ⟨b0, b1⟩ := y
  simp only [Wait.mk.injEq]
  show (if 2 = 2 then eqInts _ _ else none) = _
  simp only [if_true, eqInts_cons, eqInts_nil, Option.map_some, Bool.decide_and, Bool.and_true]
  rfl
structure Version where
  writer : Int
  value : Int
  created : Int
  reader : Int
  successor : Int
  deriving DecidableEq
def Version.u (e : Version) : U := .agg [.int .i64 e.writer, .int .i64 e.value, .int .i64 e.created, .int .i64 e.reader, .int .i64 e.successor]
@[simp] theorem Version.u_size (e : Version) : e.u.size = 5 := rfl
@[simp] theorem Version.u_var (e : Version) (K : U → Option α) : U.asVar true 5 e.u K = K e.u := rfl
@[simp] theorem Version.u_storable (e : Version) : storable (.val e.u) = true := rfl
@[simp] theorem Version.u_partable (e : Version) : partable (.val e.u) = true := rfl
@[simp] theorem Version.u_noTup (e : Version) (K : U → Option α) : U.noTup e.u K = K e.u := rfl
@[simp] theorem Version.u_agg (e : Version) (K : List U → Option α) : U.asAgg e.u K = K [.int .i64 e.writer, .int .i64 e.value, .int .i64 e.created, .int .i64 e.reader, .int .i64 e.successor] := rfl
@[simp] theorem Version.u_at0 (e : Version) (K : U → Option α) : U.fieldAt 0 0 e.u K = K (.int .i64 e.writer) := rfl
@[simp] theorem Version.u_at1 (e : Version) (K : U → Option α) : U.fieldAt 1 1 e.u K = K (.int .i64 e.value) := rfl
@[simp] theorem Version.u_at2 (e : Version) (K : U → Option α) : U.fieldAt 2 2 e.u K = K (.int .i64 e.created) := rfl
@[simp] theorem Version.u_at3 (e : Version) (K : U → Option α) : U.fieldAt 3 3 e.u K = K (.int .i64 e.reader) := rfl
@[simp] theorem Version.u_at4 (e : Version) (K : U → Option α) : U.fieldAt 4 4 e.u K = K (.int .i64 e.successor) := rfl
@[simp] theorem Version.u_flat (e : Version) : e.u.flat = true := rfl
@[simp] theorem Version.u_asFlat (e : Version) (K : U → Option α) : U.asFlat e.u K = K e.u := rfl
@[simp] theorem Version.u_eqv (x y : Version) : U.eqv 7 x.u y.u = some (decide (x = y)) := by
  obtain ⟨a0, a1, a2, a3, a4⟩ := x
  obtain ⟨b0, b1, b2, b3, b4⟩ := y
  simp only [Version.mk.injEq]
  show (if 5 = 5 then eqInts _ _ else none) = _
  simp only [if_true, eqInts_cons, eqInts_nil, Option.map_some, Bool.decide_and, Bool.and_true]
  rfl
structure Entry where
  id : Int
  stamp : Int
  reads : List ReadMark
  writes : List Write
  deriving DecidableEq
def Entry.u (e : Entry) : U := .agg [.int .i64 e.id, .int .i64 e.stamp, .sl 2 (e.reads.map ReadMark.u), .sl 2 (e.writes.map Write.u)]
@[simp] theorem Entry.u_size (e : Entry) : e.u.size = 4 := rfl
@[simp] theorem Entry.u_var (e : Entry) (K : U → Option α) : U.asVar true 4 e.u K = K e.u := rfl
@[simp] theorem Entry.u_storable (e : Entry) : storable (.val e.u) = true := rfl
@[simp] theorem Entry.u_partable (e : Entry) : partable (.val e.u) = true := rfl
@[simp] theorem Entry.u_noTup (e : Entry) (K : U → Option α) : U.noTup e.u K = K e.u := rfl
@[simp] theorem Entry.u_agg (e : Entry) (K : List U → Option α) : U.asAgg e.u K = K [.int .i64 e.id, .int .i64 e.stamp, .sl 2 (e.reads.map ReadMark.u), .sl 2 (e.writes.map Write.u)] := rfl
@[simp] theorem Entry.u_at0 (e : Entry) (K : U → Option α) : U.fieldAt 0 0 e.u K = K (.int .i64 e.id) := rfl
@[simp] theorem Entry.u_at1 (e : Entry) (K : U → Option α) : U.fieldAt 1 1 e.u K = K (.int .i64 e.stamp) := rfl
@[simp] theorem Entry.u_at2 (e : Entry) (K : U → Option α) : U.fieldAt 2 2 e.u K = K (.sl 2 (e.reads.map ReadMark.u)) := rfl
@[simp] theorem Entry.u_at3 (e : Entry) (K : U → Option α) : U.fieldAt 3 3 e.u K = K (.sl 2 (e.writes.map Write.u)) := rfl
structure LogRecord where
  stamp : Int
  id : Int
  high : Int
  safe : Int
  reads : List ReadMark
  writes : List Write
  deriving DecidableEq
def LogRecord.u (e : LogRecord) : U := .agg [.int .i64 e.stamp, .int .i64 e.id, .int .i64 e.high, .int .i64 e.safe, .sl 2 (e.reads.map ReadMark.u), .sl 2 (e.writes.map Write.u)]
@[simp] theorem LogRecord.u_size (e : LogRecord) : e.u.size = 6 := rfl
@[simp] theorem LogRecord.u_var (e : LogRecord) (K : U → Option α) : U.asVar true 6 e.u K = K e.u := rfl
@[simp] theorem LogRecord.u_storable (e : LogRecord) : storable (.val e.u) = true := rfl
@[simp] theorem LogRecord.u_partable (e : LogRecord) : partable (.val e.u) = true := rfl
@[simp] theorem LogRecord.u_noTup (e : LogRecord) (K : U → Option α) : U.noTup e.u K = K e.u := rfl
@[simp] theorem LogRecord.u_agg (e : LogRecord) (K : List U → Option α) : U.asAgg e.u K = K [.int .i64 e.stamp, .int .i64 e.id, .int .i64 e.high, .int .i64 e.safe, .sl 2 (e.reads.map ReadMark.u), .sl 2 (e.writes.map Write.u)] := rfl
@[simp] theorem LogRecord.u_at0 (e : LogRecord) (K : U → Option α) : U.fieldAt 0 0 e.u K = K (.int .i64 e.stamp) := rfl
@[simp] theorem LogRecord.u_at1 (e : LogRecord) (K : U → Option α) : U.fieldAt 1 1 e.u K = K (.int .i64 e.id) := rfl
@[simp] theorem LogRecord.u_at2 (e : LogRecord) (K : U → Option α) : U.fieldAt 2 2 e.u K = K (.int .i64 e.high) := rfl
@[simp] theorem LogRecord.u_at3 (e : LogRecord) (K : U → Option α) : U.fieldAt 3 3 e.u K = K (.int .i64 e.safe) := rfl
@[simp] theorem LogRecord.u_at4 (e : LogRecord) (K : U → Option α) : U.fieldAt 4 4 e.u K = K (.sl 2 (e.reads.map ReadMark.u)) := rfl
@[simp] theorem LogRecord.u_at5 (e : LogRecord) (K : U → Option α) : U.fieldAt 5 5 e.u K = K (.sl 2 (e.writes.map Write.u)) := rfl
structure Transaction where
  id : Int
  scheme : Int
  state : Int
  begin_ : Int
  low : Int
  high : Int
  commit : Int
  reads : List ReadMark
  writes : List Write
  deriving DecidableEq
def Transaction.u (e : Transaction) : U := .agg [.int .i64 e.id, .int .i64 e.scheme, .int .i64 e.state, .int .i64 e.begin_, .int .i64 e.low, .int .i64 e.high, .int .i64 e.commit, .sl 2 (e.reads.map ReadMark.u), .sl 2 (e.writes.map Write.u)]
@[simp] theorem Transaction.u_size (e : Transaction) : e.u.size = 9 := rfl
@[simp] theorem Transaction.u_var (e : Transaction) (K : U → Option α) : U.asVar true 9 e.u K = K e.u := rfl
@[simp] theorem Transaction.u_storable (e : Transaction) : storable (.val e.u) = true := rfl
@[simp] theorem Transaction.u_partable (e : Transaction) : partable (.val e.u) = true := rfl
@[simp] theorem Transaction.u_noTup (e : Transaction) (K : U → Option α) : U.noTup e.u K = K e.u := rfl
@[simp] theorem Transaction.u_agg (e : Transaction) (K : List U → Option α) : U.asAgg e.u K = K [.int .i64 e.id, .int .i64 e.scheme, .int .i64 e.state, .int .i64 e.begin_, .int .i64 e.low, .int .i64 e.high, .int .i64 e.commit, .sl 2 (e.reads.map ReadMark.u), .sl 2 (e.writes.map Write.u)] := rfl
@[simp] theorem Transaction.u_at0 (e : Transaction) (K : U → Option α) : U.fieldAt 0 0 e.u K = K (.int .i64 e.id) := rfl
@[simp] theorem Transaction.u_at1 (e : Transaction) (K : U → Option α) : U.fieldAt 1 1 e.u K = K (.int .i64 e.scheme) := rfl
@[simp] theorem Transaction.u_at2 (e : Transaction) (K : U → Option α) : U.fieldAt 2 2 e.u K = K (.int .i64 e.state) := rfl
@[simp] theorem Transaction.u_at3 (e : Transaction) (K : U → Option α) : U.fieldAt 3 3 e.u K = K (.int .i64 e.begin_) := rfl
@[simp] theorem Transaction.u_at4 (e : Transaction) (K : U → Option α) : U.fieldAt 4 4 e.u K = K (.int .i64 e.low) := rfl
@[simp] theorem Transaction.u_at5 (e : Transaction) (K : U → Option α) : U.fieldAt 5 5 e.u K = K (.int .i64 e.high) := rfl
@[simp] theorem Transaction.u_at6 (e : Transaction) (K : U → Option α) : U.fieldAt 6 6 e.u K = K (.int .i64 e.commit) := rfl
@[simp] theorem Transaction.u_at7 (e : Transaction) (K : U → Option α) : U.fieldAt 7 7 e.u K = K (.sl 2 (e.reads.map ReadMark.u)) := rfl
@[simp] theorem Transaction.u_at8 (e : Transaction) (K : U → Option α) : U.fieldAt 8 8 e.u K = K (.sl 2 (e.writes.map Write.u)) := rfl
structure Op where
  kind : Int
  id : Int
  scheme : Int
  key : Int
  high : Int
  value : Int
  deriving DecidableEq
def Op.u (e : Op) : U := .agg [.int .i64 e.kind, .int .i64 e.id, .int .i64 e.scheme, .int .i64 e.key, .int .i64 e.high, .int .i64 e.value]
@[simp] theorem Op.u_size (e : Op) : e.u.size = 6 := rfl
@[simp] theorem Op.u_var (e : Op) (K : U → Option α) : U.asVar true 6 e.u K = K e.u := rfl
@[simp] theorem Op.u_storable (e : Op) : storable (.val e.u) = true := rfl
@[simp] theorem Op.u_partable (e : Op) : partable (.val e.u) = true := rfl
@[simp] theorem Op.u_noTup (e : Op) (K : U → Option α) : U.noTup e.u K = K e.u := rfl
@[simp] theorem Op.u_agg (e : Op) (K : List U → Option α) : U.asAgg e.u K = K [.int .i64 e.kind, .int .i64 e.id, .int .i64 e.scheme, .int .i64 e.key, .int .i64 e.high, .int .i64 e.value] := rfl
@[simp] theorem Op.u_at0 (e : Op) (K : U → Option α) : U.fieldAt 0 0 e.u K = K (.int .i64 e.kind) := rfl
@[simp] theorem Op.u_at1 (e : Op) (K : U → Option α) : U.fieldAt 1 1 e.u K = K (.int .i64 e.id) := rfl
@[simp] theorem Op.u_at2 (e : Op) (K : U → Option α) : U.fieldAt 2 2 e.u K = K (.int .i64 e.scheme) := rfl
@[simp] theorem Op.u_at3 (e : Op) (K : U → Option α) : U.fieldAt 3 3 e.u K = K (.int .i64 e.key) := rfl
@[simp] theorem Op.u_at4 (e : Op) (K : U → Option α) : U.fieldAt 4 4 e.u K = K (.int .i64 e.high) := rfl
@[simp] theorem Op.u_at5 (e : Op) (K : U → Option α) : U.fieldAt 5 5 e.u K = K (.int .i64 e.value) := rfl
@[simp] theorem Op.u_flat (e : Op) : e.u.flat = true := rfl
@[simp] theorem Op.u_asFlat (e : Op) (K : U → Option α) : U.asFlat e.u K = K e.u := rfl
@[simp] theorem Op.u_eqv (x y : Op) : U.eqv 8 x.u y.u = some (decide (x = y)) := by
  obtain ⟨a0, a1, a2, a3, a4, a5⟩ := x
  obtain ⟨b0, b1, b2, b3, b4, b5⟩ := y
  simp only [Op.mk.injEq]
  show (if 6 = 6 then eqInts _ _ else none) = _
  simp only [if_true, eqInts_cons, eqInts_nil, Option.map_some, Bool.decide_and, Bool.and_true]
  rfl
structure StepR where
  code : Int
  values : List Int
  deriving DecidableEq
def StepR.u (e : StepR) : U := .agg [.int .i64 e.code, .sl 1 (e.values.map intU)]
@[simp] theorem StepR.u_size (e : StepR) : e.u.size = 2 := rfl
@[simp] theorem StepR.u_var (e : StepR) (K : U → Option α) : U.asVar true 2 e.u K = K e.u := rfl
@[simp] theorem StepR.u_storable (e : StepR) : storable (.val e.u) = true := rfl
@[simp] theorem StepR.u_partable (e : StepR) : partable (.val e.u) = true := rfl
@[simp] theorem StepR.u_noTup (e : StepR) (K : U → Option α) : U.noTup e.u K = K e.u := rfl
@[simp] theorem StepR.u_agg (e : StepR) (K : List U → Option α) : U.asAgg e.u K = K [.int .i64 e.code, .sl 1 (e.values.map intU)] := rfl
@[simp] theorem StepR.u_at0 (e : StepR) (K : U → Option α) : U.fieldAt 0 0 e.u K = K (.int .i64 e.code) := rfl
@[simp] theorem StepR.u_at1 (e : StepR) (K : U → Option α) : U.fieldAt 1 1 e.u K = K (.sl 1 (e.values.map intU)) := rfl
def chainU (l : List Version) : U := .sl 5 (l.map Version.u)
@[simp] theorem chainU_size (l : List Version) : (chainU l).size = 1 := rfl
@[simp] theorem asVar_chainU (l : List Version) (K : U → Option α) : U.asVar false 1 (chainU l) K = K (chainU l) := rfl
@[simp] theorem storable_chainU (l : List Version) : storable (.val (chainU l)) = true := rfl
@[simp] theorem partable_chainU (l : List Version) : partable (.val (chainU l)) = true := rfl
@[simp] theorem noTup_chainU (l : List Version) (K : U → Option α) : U.noTup (chainU l) K = K (chainU l) := rfl
@[simp] theorem lenOf_chainU (l : List Version) : U.lenOf false (chainU l) = some l.length := by simp [chainU]
@[simp] theorem elemAt_chainU (l : List Version) (i : Int) (K : U → Option α) : U.elemAt 5 (chainU l) i K = U.elemAt 5 (.sl 5 (l.map Version.u)) i K := rfl
structure Store where
  chains : List (List Version)
  deriving DecidableEq
def Store.u (e : Store) : U := .agg [.sl 1 (e.chains.map chainU)]
@[simp] theorem Store.u_size (e : Store) : e.u.size = 1 := rfl
@[simp] theorem Store.u_var (e : Store) (K : U → Option α) : U.asVar true 1 e.u K = K e.u := rfl
@[simp] theorem Store.u_storable (e : Store) : storable (.val e.u) = true := rfl
@[simp] theorem Store.u_partable (e : Store) : partable (.val e.u) = true := rfl
@[simp] theorem Store.u_noTup (e : Store) (K : U → Option α) : U.noTup e.u K = K e.u := rfl
@[simp] theorem Store.u_agg (e : Store) (K : List U → Option α) : U.asAgg e.u K = K [.sl 1 (e.chains.map chainU)] := rfl
@[simp] theorem Store.u_at0 (e : Store) (K : U → Option α) : U.fieldAt 0 0 e.u K = K (.sl 1 (e.chains.map chainU)) := rfl
structure Engine where
  certify : Bool
  store : Store
  transactions : List Transaction
  locks : List Lock
  waits : List Wait
  stamp : Int
  deriving DecidableEq
def Engine.u (e : Engine) : U := .agg [.bool e.certify, e.store.u, .sl 9 (e.transactions.map Transaction.u), .sl 2 (e.locks.map Lock.u), .sl 2 (e.waits.map Wait.u), .int .i64 e.stamp]
@[simp] theorem Engine.u_size (e : Engine) : e.u.size = 6 := rfl
@[simp] theorem Engine.u_var (e : Engine) (K : U → Option α) : U.asVar true 6 e.u K = K e.u := rfl
@[simp] theorem Engine.u_storable (e : Engine) : storable (.val e.u) = true := rfl
@[simp] theorem Engine.u_partable (e : Engine) : partable (.val e.u) = true := rfl
@[simp] theorem Engine.u_noTup (e : Engine) (K : U → Option α) : U.noTup e.u K = K e.u := rfl
@[simp] theorem Engine.u_agg (e : Engine) (K : List U → Option α) : U.asAgg e.u K = K [.bool e.certify, e.store.u, .sl 9 (e.transactions.map Transaction.u), .sl 2 (e.locks.map Lock.u), .sl 2 (e.waits.map Wait.u), .int .i64 e.stamp] := rfl
@[simp] theorem Engine.u_at0 (e : Engine) (K : U → Option α) : U.fieldAt 0 0 e.u K = K (.bool e.certify) := rfl
@[simp] theorem Engine.u_at1 (e : Engine) (K : U → Option α) : U.fieldAt 1 1 e.u K = K (e.store.u) := rfl
@[simp] theorem Engine.u_at2 (e : Engine) (K : U → Option α) : U.fieldAt 2 2 e.u K = K (.sl 9 (e.transactions.map Transaction.u)) := rfl
@[simp] theorem Engine.u_at3 (e : Engine) (K : U → Option α) : U.fieldAt 3 3 e.u K = K (.sl 2 (e.locks.map Lock.u)) := rfl
@[simp] theorem Engine.u_at4 (e : Engine) (K : U → Option α) : U.fieldAt 4 4 e.u K = K (.sl 2 (e.waits.map Wait.u)) := rfl
@[simp] theorem Engine.u_at5 (e : Engine) (K : U → Option α) : U.fieldAt 5 5 e.u K = K (.int .i64 e.stamp) := rfl
structure Node where
  engine : Engine
  log : ByteArray
  deriving DecidableEq
def Node.u (e : Node) : U := .agg [e.engine.u, .str e.log]
@[simp] theorem Node.u_size (e : Node) : e.u.size = 7 := rfl
@[simp] theorem Node.u_var (e : Node) (K : U → Option α) : U.asVar true 7 e.u K = K e.u := rfl
@[simp] theorem Node.u_storable (e : Node) : storable (.val e.u) = true := rfl
@[simp] theorem Node.u_partable (e : Node) : partable (.val e.u) = true := rfl
@[simp] theorem Node.u_noTup (e : Node) (K : U → Option α) : U.noTup e.u K = K e.u := rfl
@[simp] theorem Node.u_agg (e : Node) (K : List U → Option α) : U.asAgg e.u K = K [e.engine.u, .str e.log] := rfl
@[simp] theorem Node.u_at0 (e : Node) (K : U → Option α) : U.fieldAt 0 0 e.u K = K (e.engine.u) := rfl
@[simp] theorem Node.u_at1 (e : Node) (K : U → Option α) : U.fieldAt 1 6 e.u K = K (.str e.log) := rfl
structure Report where
  order : List Int
  cycle : List Int
  kind : Int
  deriving DecidableEq
def Report.u (e : Report) : U := .agg [.sl 1 (e.order.map intU), .sl 1 (e.cycle.map intU), .int .i64 e.kind]
@[simp] theorem Report.u_size (e : Report) : e.u.size = 3 := rfl
@[simp] theorem Report.u_var (e : Report) (K : U → Option α) : U.asVar true 3 e.u K = K e.u := rfl
@[simp] theorem Report.u_storable (e : Report) : storable (.val e.u) = true := rfl
@[simp] theorem Report.u_partable (e : Report) : partable (.val e.u) = true := rfl
@[simp] theorem Report.u_noTup (e : Report) (K : U → Option α) : U.noTup e.u K = K e.u := rfl
@[simp] theorem Report.u_agg (e : Report) (K : List U → Option α) : U.asAgg e.u K = K [.sl 1 (e.order.map intU), .sl 1 (e.cycle.map intU), .int .i64 e.kind] := rfl
@[simp] theorem Report.u_at0 (e : Report) (K : U → Option α) : U.fieldAt 0 0 e.u K = K (.sl 1 (e.order.map intU)) := rfl
@[simp] theorem Report.u_at1 (e : Report) (K : U → Option α) : U.fieldAt 1 1 e.u K = K (.sl 1 (e.cycle.map intU)) := rfl
@[simp] theorem Report.u_at2 (e : Report) (K : U → Option α) : U.fieldAt 2 2 e.u K = K (.int .i64 e.kind) := rfl
variable {E : Env}
def inR (n lo hi : Int) : Bool := decide (lo ≤ n ∧ n ≤ hi)
theorem f110_is (h : G_f110 E) (n lo hi : Int) : E 6 [.int .i64 n, .int .i64 lo, .int .i64 hi] = some (.bool (inR n lo hi)) := by
  rw [f110_E h]
  by_cases h1 : lo ≤ n <;> simp [inR, h1]
theorem f42_is (h : G_f42 E) (n lo hi : Int) : E 10 [.int .i64 n, .int .i64 lo, .int .i64 hi] = some (.bool (inR n lo hi)) := by
  rw [f42_E h]
  by_cases h1 : lo ≤ n <;> simp [inR, h1]
theorem f44_is (h : G_f44 E) (n : Int) : E 9 [.int .i64 n] = some (.bool (inR n 1 9)) := by
  rw [f44_E h]; simp [f42_is h.c_f42]
theorem f45_is (h : G_f45 E) (n : Int) : E 11 [.int .i64 n] = some (.bool (inR n 0 5)) := by
  rw [f45_E h]; simp [f42_is h.c_f42]
def cmpI (a b : Int) : Int := if a < b then -1 else if b < a then 1 else 0
theorem cmp_isNaN_is (h : G_f2 E) (n : Int) : E 15 [.int .i64 n] = some (.bool false) := by
  rw [f2_E h]; simp
theorem cmp_Compare_is (h : G_f0 E) (a b : Int) : E 13 [.int .i64 a, .int .i64 b] = some (.int .i64 (cmpI a b)) := by
  rw [f0_E h]
  simp only [cmp_isNaN_is h.c_f2, cmpI]
  by_cases h1 : a < b <;> by_cases h2 : b < a <;> simp [h1, h2]
def cmpOr : List Int → Int
  | [] => 0
  | n :: l => if n = 0 then cmpOr l else n
theorem cmp_Or_l0_is (l : List Int) (hl : l.length ≤ 1000) : ∀ (r p : List Int) (i : Int), l = p ++ r → i = p.length → f1_l0 E (.int .i64 0) (intsU l) (.int .i64 l.length) (.int .i64 i) = some (.int .i64 (cmpOr r))
  | [], p, i, e, hi => by
    rw [f1_l0_eq]
    simp [mid_end e hi, cmpOr]
  | x :: r, p, i, e, hi => by
    obtain ⟨h0, hlt, hx, hw, hn, _⟩ := mid_at e hi (by omega)
    have ih := cmp_Or_l0_is l hl r (p ++ [x]) (i + 1) (mid_next e) hn
    rw [f1_l0_eq]
    simp [h0, hlt, hx, hw, cmpOr, ih]
    split <;> simp_all
theorem cmp_Or_is (h : G_f1 E) (l : List Int) (hl : l.length ≤ 1000) : E 14 [intsU l] = some (.int .i64 (cmpOr l)) := by
  rw [f1_E h]
  simp [cmp_Or_l0_is (E := E) l hl l [] 0 rfl rfl]
def LogRecord.tx (r : LogRecord) : Transaction := ⟨r.id, 1, 2, 0, 0, r.high, r.stamp, r.reads, r.writes⟩
def szc (n : Nat) (left : Int) : Int := if left - n < 0 then -1 else left - n
def szl {α : Type} (f : α → Int → Int) : List α → Int → Int
  | [], left => left
  | x :: r, left => if f x left < 0 then -1 else szl f r (f x left)
def szL {α : Type} (f : α → Int → Int) (l : List α) (left : Int) : Int := if left - (l.length : Int) < 0 then -1 else szl f l (left - l.length)
def Szs {α : Type} (f : α → Int → Int) (ok : α → Prop) : Prop := ∀ x left, 0 ≤ left → left ≤ 1048576 → f x left < 0 ∨ (ok x ∧ 0 ≤ f x left ∧ f x left ≤ left)
theorem szc_szs : Szs szc (fun n => n ≤ 1048576) := fun n left h0 h1 => by
  unfold szc
  split
  · left; omega
  · right; refine ⟨by omega, by omega, by omega⟩
theorem szc_neg {n : Nat} {left : Int} (h : szc n left < 0) : szc n left = -1 := by
  unfold szc at h ⊢
  split at h
  · rename_i h1; rw [if_pos h1]
  · rename_i h1; omega
theorem szl_szs {α : Type} {f : α → Int → Int} {ok : α → Prop} (h : Szs f ok) : Szs (szl f) (fun l => ∀ x ∈ l, ok x) := fun l => by
  induction l with
  | nil => exact fun left h0 _ => .inr ⟨by simp, h0, Int.le_refl _⟩
  | cons x r ih =>
    intro left h0 h1
    rcases h x left h0 h1 with h2 | ⟨h2, h3, h4⟩
    · left; simp [szl, h2]
    · have h5 : ¬ f x left < 0 := by omega
      simp only [szl, h5, if_false]
      rcases ih _ h3 (by omega) with h6 | ⟨h6, h7, h8⟩
      · exact .inl h6
      · exact .inr ⟨by simpa using ⟨h2, h6⟩, h7, by omega⟩
theorem szL_szs {α : Type} {f : α → Int → Int} {ok : α → Prop} (h : Szs f ok) : Szs (szL f) (fun l => l.length ≤ 1048576 ∧ ∀ x ∈ l, ok x) := fun l left h0 h1 => by
  unfold szL
  split
  · left; omega
  · rcases szl_szs h l (left - l.length) (by omega) (by omega) with h6 | ⟨h6, h7, h8⟩
    · exact .inl h6
    · exact .inr ⟨⟨by omega, h6⟩, h7, by omega⟩
theorem mid_set {α : Type} (f : α → U) (p : List α) (z : U) (c : List U) {i : Int} (hi : i = p.length) :
    (p.map f ++ z :: c)[i.toNat]? = some z ∧ (∀ y, (p.map f ++ z :: c).set i.toNat y = p.map f ++ y :: c) ∧ i < ((p.map f ++ z :: c).length : Int) := by
  subst hi
  refine ⟨by simp, fun y => by simp, by simp; omega⟩
def Entry.fit (e : Entry) : Prop := e.reads.length ≤ maxLen ∧ e.writes.length ≤ maxLen
def Entry.ok (e : Entry) : Prop := e.reads.length ≤ 1048576 ∧ e.writes.length ≤ 1048576
def LogRecord.fit (e : LogRecord) : Prop := e.reads.length ≤ maxLen ∧ e.writes.length ≤ maxLen
def LogRecord.ok (e : LogRecord) : Prop := e.reads.length ≤ 1048576 ∧ e.writes.length ≤ 1048576
def Transaction.fit (e : Transaction) : Prop := e.reads.length ≤ maxLen ∧ e.writes.length ≤ maxLen
def Transaction.ok (e : Transaction) : Prop := e.reads.length ≤ 1048576 ∧ e.writes.length ≤ 1048576
def chainOk (l : List Version) : Prop := l.length ≤ 1048576
def chainFit (l : List Version) : Prop := l.length ≤ maxLen
def chainSz (l : List Version) (left : Int) : Int := szc l.length left
theorem chainSz_szs : Szs chainSz chainOk := fun l left h0 h1 => szc_szs l.length left h0 h1
def Store.fit (s : Store) : Prop := s.chains.length ≤ maxLen ∧ ∀ c ∈ s.chains, chainFit c
def Store.ok (s : Store) : Prop := s.chains.length ≤ 1048576 ∧ ∀ c ∈ s.chains, chainOk c
def Store.sz (s : Store) (left : Int) : Int := szL chainSz s.chains left
theorem Store.sz_szs : Szs Store.sz Store.ok := fun s left h0 h1 => szL_szs chainSz_szs s.chains left h0 h1
def Transaction.sz (e : Transaction) (left : Int) : Int := let v := szc e.reads.length left; if v < 0 then -1 else szc e.writes.length v
theorem Transaction.sz_szs : Szs Transaction.sz Transaction.ok := fun e left h0 h1 => by
  unfold Transaction.sz Transaction.ok
  rcases szc_szs e.reads.length left h0 h1 with h | ⟨h2, h3, h4⟩
  · left; simp [h]
  · have h5 : ¬ szc e.reads.length left < 0 := by omega
    rcases szc_szs e.writes.length _ h3 (by omega) with h | ⟨h6, h7, h8⟩
    · left; simp [h5, h]
    · right; simp only [h5, if_false]; exact ⟨⟨h2, h6⟩, h7, by omega⟩
def Engine.fit (e : Engine) : Prop := e.store.fit ∧ e.transactions.length ≤ maxLen ∧ (∀ t ∈ e.transactions, t.fit) ∧ e.locks.length ≤ maxLen ∧ e.waits.length ≤ maxLen
def Engine.ok (e : Engine) : Prop := e.store.ok ∧ e.transactions.length ≤ 1048576 ∧ (∀ t ∈ e.transactions, t.ok) ∧ e.locks.length ≤ 1048576 ∧ e.waits.length ≤ 1048576
def Engine.sz (e : Engine) (left : Int) : Int :=
  if e.store.sz left < 0 then -1 else
  if szL Transaction.sz e.transactions (e.store.sz left) < 0 then -1 else
  if szc e.locks.length (szL Transaction.sz e.transactions (e.store.sz left)) < 0 then -1 else
  szc e.waits.length (szc e.locks.length (szL Transaction.sz e.transactions (e.store.sz left)))
theorem Engine.sz_szs : Szs Engine.sz Engine.ok := fun e left h0 h1 => by
  unfold Engine.sz Engine.ok
  rcases Store.sz_szs e.store left h0 h1 with n1 | ⟨o1, n1, n2⟩
  · left; simp [n1]
  have n3 : ¬ e.store.sz left < 0 := by omega
  rcases szL_szs Transaction.sz_szs e.transactions _ n1 (by omega) with m1 | ⟨⟨o2, o3⟩, m1, m2⟩
  · left; simp [n3, m1]
  have m3 : ¬ szL Transaction.sz e.transactions (e.store.sz left) < 0 := by omega
  rcases szc_szs e.locks.length _ m1 (by omega) with k1 | ⟨o4, k1, k2⟩
  · left; simp [n3, m3, k1]
  have k3 : ¬ szc e.locks.length (szL Transaction.sz e.transactions (e.store.sz left)) < 0 := by omega
  rcases szc_szs e.waits.length _ k1 (by omega) with j1 | ⟨o5, j1, j2⟩
  · left; simp [n3, m3, k3, j1]
  · right
    simp only [n3, m3, k3, if_false]
    exact ⟨⟨o1, o2, o3, o4, o5⟩, j1, by omega⟩
set_option linter.unusedVariables false
def markLt (a b : ReadMark) : Bool := decide (a.key < b.key) || (decide (a.key = b.key) && decide (a.created < b.created))
def markCmp (a b : ReadMark) : Int := cmpOr [cmpI a.key b.key, cmpI a.created b.created]
theorem markCmp_neg (a b : ReadMark) : decide (0 ≤ markCmp a b) = !markLt a b := by
  unfold markCmp markLt cmpI
  simp only [cmpOr]
  by_cases h1 : a.key < b.key
  · simp [h1]
  · by_cases h2 : b.key < a.key
    · have h3 : ¬ a.key = b.key := by omega
      simp [h1, h2, h3]
    · have h3 : a.key = b.key := by omega
      by_cases h4 : a.created < b.created
      · simp [h3, h4]
      · by_cases h5 : b.created < a.created <;> simp [h3, h4, h5]
def reads1 (p : Option ReadMark) (m : ReadMark) : Bool := inR m.key 0 5 && inR m.created 0 999 && (match p with | none => true | some q => markLt q m)
def readsFrom : Option ReadMark → List ReadMark → Bool
  | _, [] => true
  | p, m :: r => reads1 p m && readsFrom (some m) r
def areReads (l : List ReadMark) : Bool := readsFrom none l && decide (l.length ≤ 60)
def writes1 (p : Option Write) (w : Write) : Bool := inR w.key 0 5 && inR w.value (-1) 99 && (match p with | none => true | some q => decide (q.key < w.key))
def writesFrom : Option Write → List Write → Bool
  | _, [] => true
  | p, w :: r => writes1 p w && writesFrom (some w) r
def areWrites (l : List Write) : Bool := writesFrom none l
def Transaction.valid (t : Transaction) : Bool :=
  inR t.id 1 9 && (inR t.scheme 1 4 && (inR t.begin_ 0 999 && (inR t.state 1 3 && (inR t.low 0 999 && (inR t.high 1 1000 && ((decide (t.state = 2) == decide (0 < t.commit)) && (inR t.commit 0 999 && (areReads t.reads && areWrites t.writes))))))))
def LogRecord.valid (r : LogRecord) : Bool := r.tx.valid && (decide (r.high ≤ r.stamp) && inR r.safe 0 r.stamp)
theorem f39_is (h : G_f39 E) (a b : ReadMark) : E 75 [a.u, b.u] = some (.int .i64 (markCmp a b)) := by
  rw [f39_E h]
  have := cmp_Or_is h.c_f1 [cmpI a.key b.key, cmpI a.created b.created] (by simp)
  simp only [intsU, List.map_cons, List.map_nil, intU] at this
  simp [cmp_Compare_is h.c_f0, this, markCmp]
theorem f111_is (h : G_f111 E) (a b : ReadMark) : E 71 [a.u, b.u] = some (.bool (markLt a b)) := by
  rw [f111_E h]
  by_cases h1 : a.key < b.key
  · simp [markLt, h1]
  · by_cases h2 : a.key = b.key <;> simp [markLt, h1, h2]
theorem f20_is (h : G_f20 E) (n : Int) : E 72 [.int .i64 n] = some (.bool (inR n 1 999)) := by
  rw [f20_E h]; simp [f42_is h.c_f42]
theorem f47_is (h : G_f47 E) (n : Int) : E 76 [.int .i64 n] = some (.bool (inR n (-1) 99)) := by
  rw [f47_E h]; simp [f42_is h.c_f42]
theorem f37_l0_is (h : G_f37 E) (l : List ReadMark) (hl : l.length ≤ 1048576) : ∀ (r p : List ReadMark) (i : Int), l = p ++ r → i = p.length →
    f37_l0 E (.sl 2 (l.map ReadMark.u)) (.sl 2 (l.map ReadMark.u)) (.int .i64 l.length) (.int .i64 i) = some (.bool (readsFrom p.getLast? r && decide (l.length ≤ 60)))
  | [], p, i, e, hi => by
    rw [f37_l0_eq]
    have h1 : decide ((l.length : Int) ≤ 60) = decide (l.length ≤ 60) := by congr 1; simp only [eq_iff_iff]; omega
    simp [mid_end e hi, readsFrom, h1]
  | x :: r, p, i, e, hi => by
    obtain ⟨h0, hlt, hx, hw, hn, _⟩ := mid_at e hi (by omega)
    have ih := f37_l0_is h l hl r (p ++ [x]) (i + 1) (mid_next e) hn
    rw [List.getLast?_concat] at ih
    rw [f37_l0_eq]
    by_cases hp : p = []
    · have hi0 : ¬ 0 < i := by subst hp; simp at hi; omega
      simp [h0, hlt, hx, hw, ih, f45_is h.c_f45, f42_is h.c_f42, hi0, hp, ite_f, readsFrom, reads1, Bool.and_assoc]
    · obtain ⟨q, j, hq, hpos, hw1, h1, hq1, _⟩ := mid_last e hi (by omega) hp
      simp [h0, hlt, hx, hw, ih, f45_is h.c_f45, f42_is h.c_f42, hpos, hq, hw1, hq1, f39_is h.c_f39, ite_f, ite_n, markCmp_neg, readsFrom, reads1, Bool.and_assoc]
theorem f37_is (h : G_f37 E) (l : List ReadMark) (hl : l.length ≤ 1048576) : E 73 [.sl 2 (l.map ReadMark.u)] = some (.bool (areReads l)) := by
  rw [f37_E h]
  simp [f37_l0_is h l hl l [] 0 rfl rfl, areReads]
theorem f38_l0_is (h : G_f38 E) (l : List Write) (hl : l.length ≤ 1048576) : ∀ (r p : List Write) (i : Int), l = p ++ r → i = p.length →
    f38_l0 E (.sl 2 (l.map Write.u)) (.sl 2 (l.map Write.u)) (.int .i64 l.length) (.int .i64 i) = some (.bool (writesFrom p.getLast? r))
  | [], p, i, e, hi => by
    rw [f38_l0_eq]
    simp [mid_end e hi, writesFrom]
  | x :: r, p, i, e, hi => by
    obtain ⟨h0, hlt, hx, hw, hn, _⟩ := mid_at e hi (by omega)
    have ih := f38_l0_is h l hl r (p ++ [x]) (i + 1) (mid_next e) hn
    rw [List.getLast?_concat] at ih
    rw [f38_l0_eq]
    by_cases hp : p = []
    · have hi0 : ¬ 0 < i := by subst hp; simp at hi; omega
      simp [h0, hlt, hx, hw, ih, f45_is h.c_f45, f47_is h.c_f47, hi0, hp, ite_f, writesFrom, writes1, Bool.and_assoc]
    · obtain ⟨q, j, hq, hpos, hw1, h1, hq1, _⟩ := mid_last e hi (by omega) hp
      have hc : (!decide (x.key ≤ q.key)) = decide (q.key < x.key) := by rw [← decide_not]; congr 1; simp only [eq_iff_iff]; omega
      simp [h0, hlt, hx, hw, ih, f45_is h.c_f45, f47_is h.c_f47, hpos, hq, hw1, hq1, ite_f, ite_n, writesFrom, writes1, Bool.and_assoc, hc]
theorem f38_is (h : G_f38 E) (l : List Write) (hl : l.length ≤ 1048576) : E 74 [.sl 2 (l.map Write.u)] = some (.bool (areWrites l)) := by
  rw [f38_E h]
  simp [f38_l0_is h l hl l [] 0 rfl rfl, areWrites]
def Transaction.tail (t : Transaction) : Bool :=
  inR t.id 1 9 && (inR t.scheme 1 4 && (inR t.begin_ 0 999 && (inR t.state 1 3 && (inR t.low 0 999 && (inR t.high 1 1000 && ((decide (t.state = 2) == decide (0 < t.commit)) && (inR t.commit 0 999 && decide (t.reads.length ≤ 60))))))))
theorem spec_IsVT_l0_is (h : G_f101 E) (t : Transaction) (ho : t.ok) : ∀ (r p : List Write) (i : Int), t.writes = p ++ r → i = p.length →
    f101_l0 E (.int .i64 i) t.u = some (.bool (writesFrom p.getLast? r && t.tail))
  | [], p, i, e, hi => by
    rw [f101_l0_eq]
    have h1 : decide ((t.reads.length : Int) ≤ 60) = decide (t.reads.length ≤ 60) := by congr 1; simp only [eq_iff_iff]; omega
    have h2 : decide (t.state = 2 ↔ 0 < t.commit) = (decide (t.state = 2) == decide (0 < t.commit)) := by
      by_cases a : t.state = 2 <;> by_cases b : 0 < t.commit <;> simp [a, b]
    simp [mid_end e hi, f110_is h.c_f110, ite_f, ite_t, ite_p, writesFrom, Transaction.tail, h1, h2]
  | x :: r, p, i, e, hi => by
    obtain ⟨h0, hlt, hx, hw, hn, _⟩ := mid_at e hi (by have := ho.2; omega)
    have ih := spec_IsVT_l0_is h t ho r (p ++ [x]) (i + 1) (mid_next e) hn
    rw [List.getLast?_concat] at ih
    rw [f101_l0_eq]
    by_cases hp : p = []
    · have hi0 : ¬ 0 < i := by subst hp; simp at hi; omega
      simp [h0, hlt, hx, hw, ih, f110_is h.c_f110, hi0, hp, ite_f, writesFrom, writes1, Bool.and_assoc]
    · obtain ⟨q, j, hq, hpos, hw1, h1, hq1, _⟩ := mid_last e hi (by have := ho.2; omega) hp
      have hc : (!decide (x.key ≤ q.key)) = decide (q.key < x.key) := by rw [← decide_not]; congr 1; simp only [eq_iff_iff]; omega
      simp [h0, hlt, hx, hw, ih, f110_is h.c_f110, hpos, hq, hw1, hq1, ite_f, ite_n, writesFrom, writes1, Bool.and_assoc, hc]
theorem spec_IsVT_l1_is (h : G_f101 E) (t : Transaction) (ho : t.ok) : ∀ (r p : List ReadMark) (i : Int), t.reads = p ++ r → i = p.length →
    f101_l1 E (.int .i64 i) t.u = some (.bool (readsFrom p.getLast? r && (writesFrom none t.writes && t.tail)))
  | [], p, i, e, hi => by
    rw [f101_l1_eq]
    simp [mid_end e hi, readsFrom, spec_IsVT_l0_is h t ho t.writes [] 0 rfl rfl]
  | x :: r, p, i, e, hi => by
    obtain ⟨h0, hlt, hx, hw, hn, _⟩ := mid_at e hi (by have := ho.1; omega)
    have ih := spec_IsVT_l1_is h t ho r (p ++ [x]) (i + 1) (mid_next e) hn
    rw [List.getLast?_concat] at ih
    rw [f101_l1_eq]
    by_cases hp : p = []
    · have hi0 : ¬ 0 < i := by subst hp; simp at hi; omega
      simp [h0, hlt, hx, hw, ih, f110_is h.c_f110, hi0, hp, ite_f, readsFrom, reads1, Bool.and_assoc]
    · obtain ⟨q, j, hq, hpos, hw1, h1, hq1, _⟩ := mid_last e hi (by have := ho.1; omega) hp
      simp [h0, hlt, hx, hw, ih, f110_is h.c_f110, hpos, hq, hw1, hq1, ite_f, ite_n, readsFrom, reads1, Bool.and_assoc, f111_is h.c_f111]
theorem f101_is (h : G_f101 E) (t : Transaction) (ho : t.ok) : E 70 [t.u] = some (.bool t.valid) := by
  rw [f101_E h]
  have h1 := spec_IsVT_l1_is h t ho t.reads [] 0 rfl rfl
  have h2 : (readsFrom none t.reads && (writesFrom none t.writes && t.tail)) = t.valid := by
    unfold Transaction.valid Transaction.tail areReads areWrites
    ac_rfl
  simp [h1, h2]
def idxF {α : Type} (P : α → Bool) : List α → Int → Int
  | [], _ => -1
  | x :: r, i => if P x then i else idxF P r (i + 1)
theorem idxF_any {α : Type} (P : α → Bool) (l : List α) : ∀ {i : Int}, 0 ≤ i → (decide (0 ≤ idxF P l i)) = l.any P := by
  induction l with
  | nil => intro i _; simp [idxF]
  | cons x r ih =>
    intro i hi
    cases h : P x
    · simp [idxF, h, ih (i := i + 1) (by omega)]
    · simp [idxF, h, hi]
theorem f89_l0_is (l : List Write) (hl : l.length ≤ 9223372036854775807) (q : Nat) (caps : List U) (P : Write → Bool) (hp : ∀ x ∈ l, E q (Write.u x :: caps) = some (.bool (P x))) (hq : q < 100000) : ∀ (r p : List Write) (i : Int), l = p ++ r → i = p.length →
    f89_l0 E (.sl 2 (l.map Write.u)) (.fn q caps) (.int .i64 l.length) (.int .i64 i) = some (.int .i64 (idxF P r i))
  | [], p, i, e, hi => by
    rw [f89_l0_eq]
    simp [mid_end e hi, idxF]
  | x :: r, p, i, e, hi => by
    obtain ⟨h0, hlt, hx, hw, hn, _⟩ := mid_at e hi hl
    have hpx := hp x (by rw [e]; simp)
    have ih := f89_l0_is l hl q caps P hp hq r (p ++ [x]) (i + 1) (mid_next e) hn
    rw [f89_l0_eq]
    cases h1 : P x <;> simp [hlt, hx, hw, ih, hpx, hq, h1, idxF]
theorem f89_is (h : G_f89 E) (l : List Write) (hl : l.length ≤ 9223372036854775807) (q : Nat) (caps : List U) (P : Write → Bool) (hp : ∀ x ∈ l, E q (Write.u x :: caps) = some (.bool (P x))) (hq : q < 100000 := by decide) :
    E 55 [.sl 2 (l.map Write.u), .fn q caps] = some (.int .i64 (idxF P l 0)) := by
  rw [f89_E h]
  simp [f89_l0_is l hl q caps P hp hq l [] 0 rfl rfl]
theorem f81_is (h : G_f81 E) (l : List Write) (hl : l.length ≤ 9223372036854775807) (q : Nat) (caps : List U) (P : Write → Bool) (hp : ∀ x ∈ l, E q (Write.u x :: caps) = some (.bool (P x))) (hq : q < 100000 := by decide) :
    E 54 [.sl 2 (l.map Write.u), .fn q caps] = some (.bool (l.any P)) := by
  rw [f81_E h]
  simp [f89_is h.c_f89 l hl q caps P hp hq, idxF_any]
def Entry.has (x : Entry) (key : Int) : Bool := x.writes.any fun w => decide (w.key = key)
def nwId : Option Entry → Int
  | none => 0
  | some c => c.id
def nwStamp : Option Entry → Int
  | none => 0
  | some c => c.stamp
@[simp] theorem nwId_none : nwId none = 0 := rfl
@[simp] theorem nwId_some (c : Entry) : nwId (some c) = c.id := rfl
@[simp] theorem nwStamp_none : nwStamp none = 0 := rfl
@[simp] theorem nwStamp_some (c : Entry) : nwStamp (some c) = c.stamp := rfl
theorem impl_writes_1_is (h : G_f9 E) (w : Write) (key : Int) : E 53 [w.u, .vp (.int .i64 key)] = some (.bool (decide (w.key = key))) := by
  rw [f9_E h]
  simp
theorem impl_writes_is (h : G_f8 E) (x : Entry) (hx : x.writes.length ≤ 9223372036854775807) (key : Int) : E 52 [x.u, .int .i64 key] = some (.bool (x.has key)) := by
  rw [f8_E h]
  simp [f81_is h.c_f81 x.writes hx 53 [.vp (.int .i64 key)] (fun w => decide (w.key = key)) (fun w _ => impl_writes_1_is h.c_f9 w key), Entry.has]
theorem f88_l0_is (l : List Entry) (hl : l.length ≤ 9223372036854775807) (q : Nat) (caps : List U) (P : Entry → Bool) (hp : ∀ x ∈ l, E q (Entry.u x :: caps) = some (.bool (P x))) (hq : q < 100000) : ∀ (r p : List Entry) (i : Int), l = p ++ r → i = p.length →
    f88_l0 E (.sl 4 (l.map Entry.u)) (.fn q caps) (.int .i64 l.length) (.int .i64 i) = some (.int .i64 (idxF P r i))
  | [], p, i, e, hi => by
    rw [f88_l0_eq]
    simp [mid_end e hi, idxF]
  | x :: r, p, i, e, hi => by
    obtain ⟨h0, hlt, hx, hw, hn, _⟩ := mid_at e hi hl
    have hpx := hp x (by rw [e]; simp)
    have ih := f88_l0_is l hl q caps P hp hq r (p ++ [x]) (i + 1) (mid_next e) hn
    rw [f88_l0_eq]
    cases h1 : P x <;> simp [hlt, hx, hw, ih, hpx, hq, h1, idxF]
theorem f88_is (h : G_f88 E) (l : List Entry) (hl : l.length ≤ 9223372036854775807) (q : Nat) (caps : List U) (P : Entry → Bool) (hp : ∀ x ∈ l, E q (Entry.u x :: caps) = some (.bool (P x))) (hq : q < 100000 := by decide) :
    E 253 [.sl 4 (l.map Entry.u), .fn q caps] = some (.int .i64 (idxF P l 0)) := by
  rw [f88_E h]
  simp [f88_l0_is l hl q caps P hp hq l [] 0 rfl rfl]
def Entry.good (x : Entry) : Bool := inR x.id 1 9 && (inR x.stamp 1 999 && (areReads x.reads && areWrites x.writes))
def Entry.tx (x : Entry) : Transaction := ⟨x.id, 1, 2, 0, 0, 1000, x.stamp, x.reads, x.writes⟩
theorem Entry.tx_valid (x : Entry) : x.tx.valid = x.good := by
  have k1 : inR 1 1 4 = true := rfl
  have k2 : inR 0 0 999 = true := rfl
  have k3 : inR 2 1 3 = true := rfl
  have k4 : inR 1000 1 1000 = true := rfl
  have key : ((decide ((2 : Int) = 2) == decide (0 < x.stamp)) && (inR x.stamp 0 999)) = inR x.stamp 1 999 := by
    rw [Bool.eq_iff_iff]
    simp [inR]
    omega
  simp only [Entry.tx, Transaction.valid, Entry.good, k1, k2, k3, k4, Bool.true_and]
  rw [← key, Bool.and_assoc]
  simp
  rfl
def hasId (c : Int) (x : Entry) : Bool := decide (x.id = c)
def findE (l : List Entry) (c : Int) : Int := idxF (hasId c) l 0
def wrote (m : ReadMark) (x : Entry) : Bool := decide (x.stamp = m.created) && x.has m.key
def idOr : Option Entry → Int
  | none => 0
  | some x => x.id
def writerOf (l : List Entry) (m : ReadMark) : Int := idOr (l.find? (wrote m))
theorem f93_l0_is (l : List Entry) (hl : l.length ≤ 1048576) (c : Int) : ∀ (r p : List Entry) (i : Int), l = p ++ r → i = p.length →
    f93_l0 E (.sl 4 (l.map Entry.u)) (.int .i64 c) (.int .i64 i) = some (.int .i64 (idxF (hasId c) r i))
  | [], p, i, e, hi => by
    rw [f93_l0_eq]
    simp [mid_end e hi, idxF]
  | x :: r, p, i, e, hi => by
    obtain ⟨h0, hlt, hx, hw, hn, _⟩ := mid_at e hi (by omega)
    have ih := f93_l0_is l hl c r (p ++ [x]) (i + 1) (mid_next e) hn
    rw [f93_l0_eq]
    by_cases h1 : x.id = c <;> simp [hlt, hx, hw, ih, h1, idxF, hasId]
theorem f93_is (h : G_f93 E) (l : List Entry) (hl : l.length ≤ 1048576) (c : Int) : E 241 [.sl 4 (l.map Entry.u), .int .i64 c] = some (.int .i64 (findE l c)) := by
  rw [f93_E h]
  exact f93_l0_is l hl c l [] 0 rfl rfl
theorem f11_is (h : G_f11 E) (x : Entry) (c : Int) : E 252 [x.u, .vp (.int .i64 c)] = some (.bool (hasId c x)) := by
  rw [f11_E h]; simp [hasId]
theorem f10_is (h : G_f10 E) (l : List Entry) (hl : l.length ≤ 1048576) (c : Int) : E 251 [.sl 4 (l.map Entry.u), .int .i64 c] = some (.int .i64 (findE l c)) := by
  rw [f10_E h]
  have := f88_is h.c_f88 l (by omega) 252 [.vp (.int .i64 c)] (hasId c) (fun x _ => f11_is h.c_f11 x c)
  simp [this, findE]
theorem f36_l0_is (h : G_f36 E) (l : List Entry) (hl : l.length ≤ 1048576) (ho : ∀ x ∈ l, x.ok) (m : ReadMark) : ∀ (r p : List Entry) (i : Int), l = p ++ r → i = p.length →
    f36_l0 E (.sl 4 (l.map Entry.u)) (.int .i64 l.length) (.int .i64 i) m.u = some (.int .i64 (idOr (r.find? (wrote m))))
  | [], p, i, e, hi => by
    rw [f36_l0_eq]
    simp [mid_end e hi, idOr]
  | x :: r, p, i, e, hi => by
    obtain ⟨h0, hlt, hx, hw, hn, _⟩ := mid_at e hi (by omega)
    have hox : x.ok := ho x (by rw [e]; simp)
    have hwr := impl_writes_is h.c_f8 x (by have := hox.2; omega) m.key
    have ih := f36_l0_is h l hl ho m r (p ++ [x]) (i + 1) (mid_next e) hn
    rw [f36_l0_eq]
    by_cases h1 : x.stamp = m.created
    · cases h2 : x.has m.key <;> simp [hlt, hx, hw, ih, h1, h2, hwr, wrote, idOr]
    · simp [hlt, hx, hw, ih, h1, wrote]
theorem f36_is (h : G_f36 E) (l : List Entry) (hl : l.length ≤ 1048576) (ho : ∀ x ∈ l, x.ok) (m : ReadMark) : E 249 [.sl 4 (l.map Entry.u), m.u] = some (.int .i64 (writerOf l m)) := by
  rw [f36_E h]
  simp [f36_l0_is h l hl ho m l [] 0 rfl rfl, writerOf]
theorem f106_l1_is (l : List Entry) (hl : l.length ≤ 1048576) (m : ReadMark) (x : Entry) (hox : x.ok) (i : Int) (h0 : 0 ≤ i) (hi : l[i.toNat]? = some x) (hw : IntKind.i64.wrap (i + 1) = i + 1) : ∀ (r p : List Write) (j : Int), x.writes = p ++ r → j = p.length →
    f106_l1 E (.sl 4 (l.map Entry.u)) (.int .i64 i) (.int .i64 j) m.u =
      if decide (x.stamp = m.created) && r.any (fun w => decide (w.key = m.key)) then some (.int .i64 x.id) else f106_l0 E (.sl 4 (l.map Entry.u)) (.int .i64 (i + 1)) m.u
  | [], p, j, e, hj => by
    have hx : ∀ {γ : Type} (K : U → Option γ), U.elemAt 4 (.sl 4 (l.map Entry.u)) i K = K x.u := fun K => elemAt_get Entry.u h0 hi K
    rw [f106_l1_eq]
    simp [hx, mid_end e hj, hw]
  | y :: r, p, j, e, hj => by
    have hx : ∀ {γ : Type} (K : U → Option γ), U.elemAt 4 (.sl 4 (l.map Entry.u)) i K = K x.u := fun K => elemAt_get Entry.u h0 hi K
    obtain ⟨j0, hlt, hy, hwj, hn, _⟩ := mid_at e hj (by have := hox.2; omega)
    have ih := f106_l1_is l hl m x hox i h0 hi hw r (p ++ [y]) (j + 1) (mid_next e) hn
    rw [f106_l1_eq]
    by_cases h1 : x.stamp = m.created
    · by_cases h2 : y.key = m.key <;> simp [hlt, hx, hy, hwj, ih, h1, h2]
    · simp [hlt, hx, hy, hwj, ih, h1]
theorem f106_l0_is (l : List Entry) (hl : l.length ≤ 1048576) (ho : ∀ x ∈ l, x.ok) (m : ReadMark) : ∀ (r p : List Entry) (i : Int), l = p ++ r → i = p.length →
    f106_l0 E (.sl 4 (l.map Entry.u)) (.int .i64 i) m.u = some (.int .i64 (idOr (r.find? (wrote m))))
  | [], p, i, e, hi => by
    rw [f106_l0_eq]
    simp [mid_end e hi, idOr]
  | x :: r, p, i, e, hi => by
    obtain ⟨h0, hlt, hx, hw, hn, hxi⟩ := mid_at e hi (by omega)
    have ih := f106_l0_is l hl ho m r (p ++ [x]) (i + 1) (mid_next e) hn
    have h1 := f106_l1_is (E := E) l hl m x (ho x (by rw [e]; simp)) i h0 hxi hw x.writes [] 0 rfl rfl
    rw [f106_l0_eq]
    simp only [lenOf_sl, List.length_map, Option.bind_some, bin_lss, hlt, decide_true, asBool_bool, if_true, h1, ih, List.find?_cons]
    have e2 : (decide (x.stamp = m.created) && x.writes.any fun w => decide (w.key = m.key)) = wrote m x := rfl
    rw [e2]
    cases wrote m x <;> simp [idOr]
theorem f106_is (h : G_f106 E) (l : List Entry) (hl : l.length ≤ 1048576) (ho : ∀ x ∈ l, x.ok) (m : ReadMark) : E 244 [.sl 4 (l.map Entry.u), m.u] = some (.int .i64 (writerOf l m)) := by
  rw [f106_E h]
  simp [f106_l0_is l hl ho m l [] 0 rfl rfl, writerOf]
theorem f43_is (h : G_f43 E) (x : Entry) (ho : x.ok) : E 250 [x.u] = some (.bool x.good) := by
  rw [f43_E h]
  have r1 := f37_is h.c_f37 x.reads ho.1
  have r2 := f38_is h.c_f38 x.writes ho.2
  cases c1 : inR x.id 1 9
  · simp [f44_is h.c_f44, c1, Entry.good]
  cases c2 : inR x.stamp 1 999
  · simp [f44_is h.c_f44, f20_is h.c_f20, c1, c2, Entry.good]
  cases c3 : areReads x.reads <;> simp [f44_is h.c_f44, f20_is h.c_f20, c1, c2, c3, r1, r2, Entry.good]
theorem f109_is (h : G_f109 E) (x : Entry) : E 245 [x.u] = some x.tx.u := by
  rw [f109_E h]
  simp [Entry.tx, Transaction.u, storable, U.size]
def ordB (q : Option Entry) (x : Entry) : Bool := match q with
  | none => true
  | some q => !decide (x.stamp < q.stamp) && !(decide (x.stamp = q.stamp) && decide (0 < x.writes.length))
def histA : List Entry → List Entry → Bool
  | _, [] => true
  | p, x :: r => x.good && !(p.any (hasId x.id)) && ordB p.getLast? x && histA (p ++ [x]) r
def readB (l : List Entry) (x : Entry) (m : ReadMark) : Bool := !decide (writerOf l m = x.id) && !(decide (0 < m.created) && decide (writerOf l m = 0))
def histB (l r : List Entry) : Bool := r.all fun x => x.reads.all (readB l x)
def isHistory (l : List Entry) : Bool := histA [] l && histB l l && decide (l.length ≤ 9)
theorem idxF_first {α : Type} (P : α → Bool) (x : α) (hx : P x = true) (r : List α) : ∀ (p : List α) (i : Int), (idxF P (p ++ x :: r) i = i + p.length) = (p.any P = false)
  | [], i => by simp [idxF, hx]
  | y :: p, i => by
    cases hy : P y with
    | true =>
      simp [idxF, hy]
      omega
    | false =>
      have := idxF_first P x hx r p (i + 1)
      simp only [List.cons_append, idxF, hy, Bool.false_eq_true, if_false, List.any_cons, Bool.false_or, ← this, List.length_cons]
      simp only [eq_iff_iff]
      omega
theorem find_first (l p : List Entry) (x : Entry) (r : List Entry) (e : l = p ++ x :: r) : decide (findE l x.id = p.length) = !(p.any (hasId x.id)) := by
  have h := idxF_first (hasId x.id) x (by simp [hasId]) r p 0
  unfold findE
  rw [e]
  have h2 : decide (idxF (hasId x.id) (p ++ x :: r) 0 = p.length) = decide (p.any (hasId x.id) = false) := by
    rw [decide_eq_decide, ← eq_iff_iff, ← h]
    simp
  rw [h2]
  cases p.any (hasId x.id) <;> rfl
theorem getLast_at {α : Type} (f : α → U) {l p : List α} {r : List α} (e : l = p ++ r) {i : Int} (hi : i = p.length) (h1 : 0 < i) : ∃ q, p.getLast? = some q ∧ ∀ {γ : Type} (k : Nat) (K : U → Option γ), U.elemAt k (.sl k (l.map f)) (i - 1) K = K (f q) := by
  have hne : p ≠ [] := by rintro rfl; simp at hi; omega
  refine ⟨p.getLast hne, List.getLast?_eq_some_getLast hne, fun k K => elemAt_get f (by omega) ?_ K⟩
  have h2 : (i - 1).toNat = p.length - 1 := by omega
  rw [h2, e, List.getElem?_append_left (by have := List.length_pos_iff.2 hne; omega), ← List.getLast?_eq_getElem?, List.getLast?_eq_some_getLast hne]
theorem f19_l1_is (h : G_f19 E) (l : List Entry) (hl : l.length ≤ 1048576) (ho : ∀ x ∈ l, x.ok) (x : Entry) (hox : x.ok) (i : Int) (hw : IntKind.i64.wrap (i + 1) = i + 1) : ∀ (r p : List ReadMark) (j : Int), x.reads = p ++ r → j = p.length →
    f19_l1 E (.sl 4 (l.map Entry.u)) (.sl 4 (l.map Entry.u)) (.int .i64 l.length) (.int .i64 i) (.sl 2 (x.reads.map ReadMark.u)) (.int .i64 x.reads.length) (.int .i64 j) x.u =
      if r.all (readB l x) then f19_l0 E (.sl 4 (l.map Entry.u)) (.sl 4 (l.map Entry.u)) (.int .i64 l.length) (.int .i64 (i + 1)) else some (.bool false)
  | [], p, j, e, hj => by
    rw [f19_l1_eq]
    simp [mid_end e hj, hw]
  | m :: r, p, j, e, hj => by
    obtain ⟨j0, hlt, hy, hwj, hn, _⟩ := mid_at e hj (by have := hox.1; omega)
    have ih := f19_l1_is h l hl ho x hox i hw r (p ++ [m]) (j + 1) (mid_next e) hn
    have hwr := f36_is h.c_f36 l hl ho m
    rw [f19_l1_eq]
    by_cases h1 : writerOf l m = x.id
    · simp [hlt, hy, hwj, hwr, h1, readB]
    · by_cases h2 : 0 < m.created
      · by_cases h3 : writerOf l m = 0
        · have h4 : ¬ (0 = x.id) := by rw [← h3]; exact h1
          simp [hlt, hy, hwj, hwr, h2, h3, h4, readB]
        · simp [hlt, hy, hwj, hwr, h1, h2, h3, readB, ih]
      · simp [hlt, hy, hwj, hwr, h1, h2, readB, ih]
theorem f19_l0_is (h : G_f19 E) (l : List Entry) (hl : l.length ≤ 1048576) (ho : ∀ x ∈ l, x.ok) : ∀ (r p : List Entry) (i : Int), l = p ++ r → i = p.length →
    f19_l0 E (.sl 4 (l.map Entry.u)) (.sl 4 (l.map Entry.u)) (.int .i64 l.length) (.int .i64 i) = some (.bool (histB l r))
  | [], p, i, e, hi => by
    rw [f19_l0_eq]
    simp [mid_end e hi, histB]
  | x :: r, p, i, e, hi => by
    obtain ⟨h0, hlt, hx, hw, hn, _⟩ := mid_at e hi (by omega)
    have ih := f19_l0_is h l hl ho r (p ++ [x]) (i + 1) (mid_next e) hn
    have h1 := f19_l1_is h l hl ho x (ho x (by rw [e]; simp)) i hw x.reads [] 0 rfl rfl
    rw [f19_l0_eq]
    simp only [bin_lss, hlt, decide_true, Option.bind_some, asBool_bool, if_true, asInt_int, hx, Entry.u_var, Entry.u_storable, Entry.u_size, and_self, Entry.u_agg, sizes_cons, sizes_nil, List.take_succ_cons, List.take_zero, size_int, Nat.reduceAdd, List.getElem?_cons_succ, List.getElem?_cons_zero, asVar_sl, lenOf_sl, List.length_map, h1, ih, histB, List.all_cons]
    simp only [histB] at ih
    cases x.reads.all (readB l x) <;> simp [ih]
theorem f19_l2_is (h : G_f19 E) (l : List Entry) (hl : l.length ≤ 1048576) (ho : ∀ x ∈ l, x.ok) : ∀ (r p : List Entry) (i : Int), l = p ++ r → i = p.length →
    f19_l2 E (.sl 4 (l.map Entry.u)) (.sl 4 (l.map Entry.u)) (.int .i64 l.length) (.int .i64 i) = some (.bool (histA p r && histB l l))
  | [], p, i, e, hi => by
    have h0 := f19_l0_is h l hl ho l [] 0 rfl rfl
    rw [f19_l2_eq]
    simp [mid_end e hi, histA, h0]
  | x :: r, p, i, e, hi => by
    obtain ⟨h0, hlt, hx, hw, hn, _⟩ := mid_at e hi (by omega)
    have ih := f19_l2_is h l hl ho r (p ++ [x]) (i + 1) (mid_next e) hn
    have hox : x.ok := ho x (by rw [e]; simp)
    have he := f43_is h.c_f43 x hox
    have hf := f10_is h.c_f10 l hl x.id
    have hff := find_first l p x r e
    rw [← hi] at hff
    have hw1 : IntKind.i64.wrap (i - 1) = i - 1 := wrap_in (by omega)
    rw [f19_l2_eq]
    cases g : x.good
    · simp [hlt, hx, he, g, histA]
    cases a : p.any (hasId x.id)
    rotate_left
    · have a2 : ¬ findE l x.id = i := by rw [a] at hff; simpa using hff
      simp [hlt, hx, he, g, hf, a, a2, histA]
    have a2 : findE l x.id = i := by rw [a] at hff; simpa using hff
    by_cases hz : 0 < i
    · obtain ⟨q, hq, hqe⟩ := getLast_at Entry.u e hi hz
      by_cases c1 : x.stamp < q.stamp
      · simp [hlt, hx, he, g, hf, a, a2, hz, hw1, hqe, c1, histA, hq, ordB]
      · by_cases c2 : x.stamp = q.stamp
        · by_cases c3 : 0 < x.writes.length
          · simp [hlt, hx, he, g, hf, a, a2, hz, hw1, hqe, c1, c2, c3, histA, hq, ordB]
          · simp [hlt, hx, he, g, hf, a, a2, hz, hw1, hqe, c1, c2, c3, histA, hq, ordB, hw, ih]
        · simp [hlt, hx, he, g, hf, a, a2, hz, hw1, hqe, c1, c2, histA, hq, ordB, hw, ih]
    · have hp : p = [] := by
        have : p.length = 0 := by omega
        exact List.length_eq_zero_iff.1 this
      have hq : p.getLast? = none := by rw [hp]; rfl
      simp [hlt, hx, he, g, hf, a, a2, hz, histA, hq, ordB, hw, ih]
theorem f19_is (h : G_f19 E) (l : List Entry) (hl : l.length ≤ 1048576) (ho : ∀ x ∈ l, x.ok) : E 247 [.sl 4 (l.map Entry.u)] = some (.bool (isHistory l)) := by
  rw [f19_E h]
  by_cases h9 : l.length ≤ 9
  · have h1 : ¬ (9 : Int) < l.length := by omega
    simp [h1, h9, f19_l2_is h l hl ho l [] 0 rfl rfl, isHistory]
  · have h1 : (9 : Int) < l.length := by omega
    simp [h1, h9, isHistory]
theorem f97_l1_is (h : G_f97 E) (l : List Entry) (hl : l.length ≤ 1048576) (ho : ∀ x ∈ l, x.ok) (x : Entry) (hox : x.ok) (i : Int) (h0 : 0 ≤ i) (hi : l[i.toNat]? = some x) (hw : IntKind.i64.wrap (i + 1) = i + 1) : ∀ (r p : List ReadMark) (j : Int), x.reads = p ++ r → j = p.length →
    f97_l1 E (.sl 4 (l.map Entry.u)) (.int .i64 i) (.int .i64 j) =
      if r.all (readB l x) then f97_l0 E (.sl 4 (l.map Entry.u)) (.int .i64 (i + 1)) else some (.bool false)
  | [], p, j, e, hj => by
    have hx : ∀ {γ : Type} (K : U → Option γ), U.elemAt 4 (.sl 4 (l.map Entry.u)) i K = K x.u := fun K => elemAt_get Entry.u h0 hi K
    rw [f97_l1_eq]
    simp [hx, mid_end e hj, hw]
  | m :: r, p, j, e, hj => by
    have hx : ∀ {γ : Type} (K : U → Option γ), U.elemAt 4 (.sl 4 (l.map Entry.u)) i K = K x.u := fun K => elemAt_get Entry.u h0 hi K
    obtain ⟨j0, hlt, hy, hwj, hn, _⟩ := mid_at e hj (by have := hox.1; omega)
    have ih := f97_l1_is h l hl ho x hox i h0 hi hw r (p ++ [m]) (j + 1) (mid_next e) hn
    have hwr := f106_is h.c_f106 l hl ho m
    rw [f97_l1_eq]
    by_cases h1 : writerOf l m = x.id
    · simp [hx, hlt, hy, hwj, hwr, h1, readB]
    · by_cases h2 : 0 < m.created
      · by_cases h3 : writerOf l m = 0
        · have h4 : ¬ (0 = x.id) := by rw [← h3]; exact h1
          simp [hx, hlt, hy, hwj, hwr, h2, h3, h4, readB]
        · simp [hx, hlt, hy, hwj, hwr, h1, h2, h3, readB, ih]
      · simp [hx, hlt, hy, hwj, hwr, h1, h2, readB, ih]
theorem f97_l0_is (h : G_f97 E) (l : List Entry) (hl : l.length ≤ 1048576) (ho : ∀ x ∈ l, x.ok) : ∀ (r p : List Entry) (i : Int), l = p ++ r → i = p.length →
    f97_l0 E (.sl 4 (l.map Entry.u)) (.int .i64 i) = some (.bool (histB l r && decide (l.length ≤ 9)))
  | [], p, i, e, hi => by
    rw [f97_l0_eq]
    have e9 : decide ((l.length : Int) ≤ 9) = decide (l.length ≤ 9) := by rw [decide_eq_decide]; omega
    simp [mid_end e hi, histB, e9]
  | x :: r, p, i, e, hi => by
    obtain ⟨h0, hlt, hx, hw, hn, hxi⟩ := mid_at e hi (by omega)
    have ih := f97_l0_is h l hl ho r (p ++ [x]) (i + 1) (mid_next e) hn
    have h1 := f97_l1_is h l hl ho x (ho x (by rw [e]; simp)) i h0 hxi hw x.reads [] 0 rfl rfl
    rw [f97_l0_eq]
    simp only [lenOf_sl, List.length_map, Option.bind_some, bin_lss, hlt, decide_true, asBool_bool, if_true, h1, ih, histB, List.all_cons]
    simp only [histB] at ih
    cases x.reads.all (readB l x) <;> simp [ih]
theorem f97_l2_is (h : G_f97 E) (l : List Entry) (hl : l.length ≤ 1048576) (ho : ∀ x ∈ l, x.ok) : ∀ (r p : List Entry) (i : Int), l = p ++ r → i = p.length →
    f97_l2 E (.sl 4 (l.map Entry.u)) (.int .i64 i) = some (.bool (histA p r && (histB l l && decide (l.length ≤ 9))))
  | [], p, i, e, hi => by
    have h0 := f97_l0_is h l hl ho l [] 0 rfl rfl
    rw [f97_l2_eq]
    simp [mid_end e hi, histA, h0]
  | x :: r, p, i, e, hi => by
    obtain ⟨h0, hlt, hx, hw, hn, _⟩ := mid_at e hi (by omega)
    have ih := f97_l2_is h l hl ho r (p ++ [x]) (i + 1) (mid_next e) hn
    have hox : x.ok := ho x (by rw [e]; simp)
    have he := f101_is h.c_f101 x.tx hox
    rw [Entry.tx_valid] at he
    have ht := f109_is h.c_f109 x
    have hpl : p.length ≤ 1048576 := by rw [e] at hl; simp at hl; omega
    have hf := f93_is h.c_f93 p hpl x.id
    have hcut : U.cut false 4 (.sl 4 (l.map Entry.u)) none (some i) = some (.sl 4 (p.map Entry.u)) := by
      have h2 : i.toNat = p.length := by omega
      have h3 : i ≤ ((l.map Entry.u).length : Int) := by
        rw [e, hi]
        simp
        omega
      simp only [U.cut, Option.getD_none, Option.getD_some, Int.le_refl, h0, h3, and_self, if_true, h2, Int.toNat_zero, List.drop_zero]
      rw [e, List.map_append, List.take_left' (by simp)]
    have hff : decide (0 ≤ findE p x.id) = p.any (hasId x.id) := by
      have := idxF_any (hasId x.id) p (i := 0) (by omega)
      unfold findE
      exact this
    have hw1 : IntKind.i64.wrap (i - 1) = i - 1 := wrap_in (by omega)
    rw [f97_l2_eq]
    cases g : x.good
    · simp [hlt, hx, he, ht, g, histA]
    cases a : p.any (hasId x.id)
    rotate_left
    · have a2 : 0 ≤ findE p x.id := by rw [a] at hff; simpa using hff
      simp [hlt, hx, he, ht, g, hf, hcut, a, a2, histA]
    have a2 : ¬ 0 ≤ findE p x.id := by rw [a] at hff; simpa using hff
    by_cases hz : 0 < i
    · obtain ⟨q, hq, hqe⟩ := getLast_at Entry.u e hi hz
      by_cases c1 : x.stamp < q.stamp
      · simp [hlt, hx, he, ht, g, hf, hcut, a, a2, hz, hw1, hqe, c1, histA, hq, ordB]
      · by_cases c2 : x.stamp = q.stamp
        · by_cases c3 : 0 < x.writes.length
          · simp [hlt, hx, he, ht, g, hf, hcut, a, a2, hz, hw1, hqe, c1, c2, c3, histA, hq, ordB]
          · simp [hlt, hx, he, ht, g, hf, hcut, a, a2, hz, hw1, hqe, c1, c2, c3, histA, hq, ordB, hw, ih]
        · have c2' : ¬ q.stamp = x.stamp := fun h => c2 h.symm
          simp [hlt, hx, he, ht, g, hf, hcut, a, a2, hz, hw1, hqe, c1, c2, c2', histA, hq, ordB, hw, ih]
    · have hp : p = [] := by
        have : p.length = 0 := by omega
        exact List.length_eq_zero_iff.1 this
      have hq : p.getLast? = none := by rw [hp]; rfl
      simp [hlt, hx, he, ht, g, hf, hcut, a, a2, hz, histA, hq, ordB, hw, ih]
theorem f97_is (h : G_f97 E) (l : List Entry) (hl : l.length ≤ 1048576) (ho : ∀ x ∈ l, x.ok) : E 243 [.sl 4 (l.map Entry.u)] = some (.bool (isHistory l)) := by
  rw [f97_E h, f97_l2_is h l hl ho l [] 0 rfl rfl]
  simp [isHistory, Bool.and_assoc]
theorem flats_map {α : Type} (f : α → U) (h : ∀ x, (f x).flat = true) : ∀ l : List α, U.flat.flats (l.map f) = true
  | [] => rfl
  | x :: l => by
    simp only [List.map_cons, U.flat.flats, h x, flats_map f h l, Bool.and_self]
@[simp] theorem flats_edges (l : List Edge) : U.flat.flats (l.map Edge.u) = true := flats_map _ (fun _ => rfl) l
@[simp] theorem flats_ints (l : List Int) : U.flat.flats (l.map intU) = true := flats_map _ (fun _ => rfl) l
theorem clone_F_is {q k b : Nat} (h : IsClone E q k b) (us : List U) (hl : us.length * b ≤ 140737488355328) (hf : U.flat.flats us = true) : E (100000 + q) [.sl k us] = some (.sl k us) := by
  rw [h.f]; simp [cloneF, hl, hf]
theorem flatsR (l : List ReadMark) : U.flat.flats (l.map ReadMark.u) = true := flats_map _ (fun _ => rfl) l
theorem flatsW (l : List Write) : U.flat.flats (l.map Write.u) = true := flats_map _ (fun _ => rfl) l
def insPos (x : Entry) : List Entry → Nat
  | [] => 0
  | y :: r => if y.stamp > x.stamp then 0 else insPos x r + 1
def insAt (x : Entry) (l : List Entry) : List Entry := l.take (insPos x l) ++ [x] ++ l.drop (insPos x l)
def addReader (l : List Entry) (x : Entry) : List Entry × Bool :=
  if isHistory l = true ∧ x.writes = [] ∧ isHistory (insAt x l) = true then (insAt x l, true) else (l, false)
theorem insPos_le (x : Entry) : ∀ l, insPos x l ≤ l.length
  | [] => Nat.le_refl _
  | y :: r => by
    have := insPos_le x r
    unfold insPos
    split
    · omega
    · simp only [List.length_cons]; omega
theorem idx_insPos (x : Entry) : ∀ (l : List Entry) (i : Int), 0 ≤ i → (idxF (fun y => decide (y.stamp > x.stamp)) l i < 0 → insPos x l = l.length) ∧ (0 ≤ idxF (fun y => decide (y.stamp > x.stamp)) l i → idxF (fun y => decide (y.stamp > x.stamp)) l i = i + insPos x l)
  | [], i, hi => ⟨fun _ => rfl, fun h => by simp [idxF] at h⟩
  | y :: r, i, hi => by
    have ih := idx_insPos x r (i + 1) (by omega)
    by_cases g : y.stamp > x.stamp
    · simp only [idxF, insPos, g, decide_true, if_true]
      exact ⟨fun h => by omega, fun _ => by omega⟩
    · simp only [idxF, insPos, g, decide_false, Bool.false_eq_true, if_false, List.length_cons]
      exact ⟨fun h => by have := ih.1 h; omega, fun h => by have := ih.2 h; omega⟩
theorem addAt_eq (x : Entry) (l : List Entry) (us : List U) (hu : us.length = l.length) : addAt us (idxF (fun y => decide (y.stamp > x.stamp)) l 0) = insPos x l := by
  have h := idx_insPos x l 0 (Int.le_refl _)
  unfold addAt
  by_cases g : idxF (fun y => decide (y.stamp > x.stamp)) l 0 < 0
  · rw [if_pos g, h.1 g, hu]
  · rw [if_neg g]
    have := h.2 (by omega)
    omega
theorem insAt_map (x : Entry) (l : List Entry) : (l.map Entry.u).take (insPos x l) ++ [x.u] ++ (l.map Entry.u).drop (insPos x l) = (insAt x l).map Entry.u := by
  simp [insAt, List.map_append, List.map_take, List.map_drop]
theorem insAt_length (x : Entry) (l : List Entry) : (insAt x l).length = l.length + 1 := by
  have := insPos_le x l
  simp [insAt]
  omega
theorem insAt_ok {x : Entry} {l : List Entry} (hx : x.ok) (hl : ∀ y ∈ l, y.ok) : ∀ y ∈ insAt x l, y.ok := fun y hy => by
  rcases List.mem_append.1 hy with hy | hy
  · rcases List.mem_append.1 hy with hy | hy
    · exact hl y (List.mem_of_mem_take hy)
    · rw [List.mem_singleton.1 hy]; exact hx
  · exact hl y (List.mem_of_mem_drop hy)
theorem f40_is (h : G_f40 E) (x : Entry) (ho : x.ok) : E 100292 [x.u] = some x.u := by
  rw [f40_E h]
  have h1 : E 100224 [.sl 2 (x.reads.map ReadMark.u)] = _ := clone_F_is h.c_f75 (x.reads.map ReadMark.u) (by have := ho.1; simp; omega) (flatsR _)
  have h2 : E 100225 [.sl 2 (x.writes.map Write.u)] = _ := clone_F_is h.c_f76 (x.writes.map Write.u) (by have := ho.2; simp; omega) (flatsW _)
  simp [h1, h2, noTup_sl, U.asSlK, D.size, dsizes, D.size.dsizes, U.size]
  rfl
theorem f41_l0_is (h : G_f41 E) (l : List Entry) (hl : l.length ≤ 1048576) (ho : ∀ t ∈ l, t.ok) : ∀ (r p : List Entry) (i : Int), l = p ++ r → i = p.length →
    f41_l0 E (.sl 4 (l.map Entry.u)) (.int .i64 (l.length : Int)) (.int .i64 i) (p.map Entry.u) = some (.sl 4 (l.map Entry.u))
  | [], p, i, e, hi => by
    have hp : p = l := by rw [e]; simp
    rw [f41_l0_eq, hp]
    simp [mid_end e hi]
  | t :: r, p, i, e, hi => by
    obtain ⟨h0, hlt, hx, hw, hn, _⟩ := mid_at e hi (by omega)
    have ih := f41_l0_is h l hl ho r (p ++ [t]) (i + 1) (mid_next e) hn
    have hc := f40_is h.c_f40 t (ho t (by rw [e]; simp))
    have hb : (p.length + 1) * 64 ≤ 140737488355328 := by
      have : p.length + (r.length + 1) = l.length := by rw [e]; simp
      omega
    rw [f41_l0_eq]
    simp [hlt, hx, hw, hc, hb, U.asSlK]
    simpa [Entry.u] using ih
theorem f41_is (h : G_f41 E) (l : List Entry) (hl : l.length ≤ 1048576) (ho : ∀ t ∈ l, t.ok) : E 100295 [.sl 4 (l.map Entry.u)] = some (.sl 4 (l.map Entry.u)) := by
  rw [f41_E h]
  simpa using f41_l0_is h l hl ho l [] 0 rfl rfl
theorem f3_is (h : G_f3 E) (y x : Entry) : E 294 [y.u, .vp x.u] = some (.bool (decide (y.stamp > x.stamp))) := by
  rw [f3_E h]
  simp [U.asVp]
def AddIs (E : Env) : Prop := ∀ (l : List Entry) (x : Entry), l.length ≤ 1048576 → (∀ t ∈ l, t.ok) → x.ok →
  E 286 [.sl 4 (l.map Entry.u), x.u] = some (.tup [.sl 4 ((addReader l x).1.map Entry.u), .bool (addReader l x).2]) ∧ E 100286 [.sl 4 (l.map Entry.u), x.u] = some (.tup [.sl 4 ((addReader l x).1.map Entry.u), .bool (addReader l x).2])
theorem addIs_of {E E1 : Env} (h : ∀ us, E 286 us = addU E1 295 247 253 294 292 64 us ∧ E (100000 + 286) us = addU E1 295 247 253 294 292 64 us) (gc : G_f41 E1) (gh : G_f19 E1) (gi : G_f88 E1) (go : G_f3 E1) (ge : G_f40 E1) : AddIs E := fun l x hl ho hx => by
  have key : addU E1 295 247 253 294 292 64 [.sl 4 (l.map Entry.u), x.u] = some (.tup [.sl 4 ((addReader l x).1.map Entry.u), .bool (addReader l x).2]) := by
    have hc : E1 100295 [.sl 4 (l.map Entry.u)] = some (.sl 4 (l.map Entry.u)) := f41_is gc l hl ho
    have hh := f19_is gh l hl ho
    have hi := f88_is gi l (by omega) 294 [.vp x.u] (fun y => decide (y.stamp > x.stamp)) (fun y _ => f3_is go y x)
    have he : E1 100292 [x.u] = some x.u := f40_is ge x hx
    have hw : (x.writes.map Write.u).length = x.writes.length := by simp
    show addU2 E1 247 253 294 292 64 (l.map Entry.u) x.u (x.writes.map Write.u) (E1 100295 [.sl 4 (l.map Entry.u)]) (E1 247 [.sl 4 (l.map Entry.u)]) = _
    rw [hc, hh]
    show (if isHistory l = false ∨ 0 < (x.writes.map Write.u).length then some (.tup [.sl 4 (l.map Entry.u), .bool false]) else addU3 E1 247 64 (l.map Entry.u) (l.map Entry.u) (E1 253 [.sl 4 (l.map Entry.u), .fn 294 [.vp x.u]]) (E1 100292 [x.u])) = _
    by_cases g : isHistory l = false ∨ 0 < x.writes.length
    · rw [hw, if_pos g]
      have : ¬ (isHistory l = true ∧ x.writes = [] ∧ isHistory (insAt x l) = true) := fun ⟨g1, g2, _⟩ => by
        rcases g with g | g
        · rw [g] at g1; cases g1
        · rw [g2] at g; exact absurd g (by simp)
      unfold addReader
      rw [if_neg this]
    · rw [hw, if_neg g]
      have g1 : isHistory l = true := by
        cases e : isHistory l
        · exact absurd (.inl e) g
        · rfl
      have g2 : x.writes = [] := by
        cases e : x.writes
        · rfl
        · exact absurd (.inr (by rw [e]; simp)) g
      have h9 : l.length ≤ 9 := by
        simp only [isHistory, Bool.and_eq_true, decide_eq_true_eq] at g1
        exact g1.2
      have hn := f19_is gh (insAt x l) (by rw [insAt_length]; omega) (insAt_ok hx ho)
      rw [hi, he]
      have ea := addAt_eq x l (l.map Entry.u) (by simp)
      have em := insAt_map x l
      show (if addAt (l.map Entry.u) (idxF (fun y => decide (y.stamp > x.stamp)) l 0) ≤ (l.map Entry.u).length ∧ x.u.size = 4 ∧ ((l.map Entry.u).length + 1) * 64 ≤ 140737488355328 then addU4 (l.map Entry.u) ((l.map Entry.u).take (addAt (l.map Entry.u) (idxF (fun y => decide (y.stamp > x.stamp)) l 0)) ++ [x.u] ++ (l.map Entry.u).drop (addAt (l.map Entry.u) (idxF (fun y => decide (y.stamp > x.stamp)) l 0))) (E1 247 [.sl 4 ((l.map Entry.u).take (addAt (l.map Entry.u) (idxF (fun y => decide (y.stamp > x.stamp)) l 0)) ++ [x.u] ++ (l.map Entry.u).drop (addAt (l.map Entry.u) (idxF (fun y => decide (y.stamp > x.stamp)) l 0)))]) else none) = _
      rw [ea, em, hn, if_pos ⟨by simpa using insPos_le x l, rfl, by simp; omega⟩]
      unfold addU4
      unfold addReader
      cases e : isHistory (insAt x l) <;> simp [g1, g2, e]
  exact ⟨(h _).1.trans key, (h _).2.trans key⟩
open Go Go.Sort
instance : Inhabited Entry := ⟨⟨0, 0, [], []⟩⟩
def Version.valid (v : Version) : Bool :=
  inR v.value (-1) 99 && (inR v.created 0 999 && (inR v.reader v.created 999 && (inR v.successor 1 1000 && (if v.created = 0 then decide (v.writer = 0) && decide (v.value = -1) else inR v.writer 1 9))))
def behind (v w : Version) : Bool := decide (v.created < w.created) && decide (v.successor ≤ w.created)
def chainRest : List Version → Bool
  | [] => true
  | [v] => v.valid
  | v :: w :: r => v.valid && (behind v w && chainRest (w :: r))
def chainLast (l : List Version) : Bool := match l.getLast? with
  | none => false
  | some v => decide (v.successor = 1000)
def validChain (l : List Version) : Bool := chainRest l && chainLast l
def okChain (l : List Version) : Bool := validChain l && decide (l.length ≤ 50)
def Store.valid (s : Store) : Bool := s.chains.all okChain && decide (s.chains.length = 6)
def Store.chain (s : Store) (k : Int) : List Version := s.chains.getD k.toNat []
def isAt (created : Int) (v : Version) : Bool := decide (v.created = created)
def hasMark (s : Store) (m : ReadMark) : Bool := (s.chain m.key).any (isAt m.created)
def marksExist (s : Store) (l : List ReadMark) : Bool := l.all (hasMark s)
def mx (a b : Int) : Int := if a < b then b else a
def lastC (n : Int) (c : List Version) : Int := c.foldl (fun a v => mx a v.reader) n
def Store.last (s : Store) : Int := s.chains.foldl lastC 0
def locks1 (p : Option Lock) (w : Lock) : Bool := inR w.key 0 5 && inR w.owner 1 9 && (match p with | none => true | some q => decide (q.key < w.key))
def locksFrom : Option Lock → List Lock → Bool
  | _, [] => true
  | p, w :: r => locks1 p w && locksFrom (some w) r
def waits1 (p : Option Wait) (w : Wait) : Bool := inR w.id 1 9 && inR w.for_ 1 9 && !decide (w.id = w.for_) && (match p with | none => true | some q => decide (q.id < w.id))
def waitsFrom : Option Wait → List Wait → Bool
  | _, [] => true
  | p, w :: r => waits1 p w && waitsFrom (some w) r
def hasID (c : Int) (t : Transaction) : Bool := decide (t.id = c)
def Engine.tx (e : Engine) (c : Int) : Option Transaction := e.transactions.find? (hasID c)
def Engine.active (e : Engine) (c : Int) : Bool := match e.tx c with | none => false | some t => decide (t.state = 1)
def txs1 (e : Engine) (p : Option Transaction) (t : Transaction) : Bool :=
  t.valid && ((match p with | none => true | some q => decide (q.id < t.id)) && (decide (t.begin_ ≤ e.stamp) && (decide (t.commit ≤ e.stamp) && (if t.state = 1 then marksExist e.store t.reads else true))))
def txsFrom (e : Engine) : Option Transaction → List Transaction → Bool
  | _, [] => true
  | p, t :: r => txs1 e p t && txsFrom e (some t) r
def Engine.holds (e : Engine) : Bool := e.locks.all (fun w => e.active w.owner) && e.waits.all (fun w => e.active w.id && e.active w.for_)
def Engine.valid (e : Engine) : Bool :=
  e.store.valid && (locksFrom none e.locks && (waitsFrom none e.waits && (inR e.stamp e.store.last 999 && (txsFrom e none e.transactions && decide (e.transactions.length ≤ 6) && e.holds))))
theorem f108_is (h : G_f108 E) (x : Entry) (ho : x.ok) : E 290 [x.u] = some x.u := by
  rw [f108_E h]
  have h1 : x.reads.length * 16 ≤ 140737488355328 := by have := ho.1; omega
  have h2 : x.writes.length * 16 ≤ 140737488355328 := by have := ho.2; omega
  simp [U.elems, h1, h2, D.size, dsizes, D.size.dsizes, U.size, storable]
  rfl
theorem f90_l0_is (h : G_f90 E) (l : List Entry) (hl : l.length ≤ 1048576) (ho : ∀ t ∈ l, t.ok) : ∀ (r p : List Entry) (i : Int), l = p ++ r → i = p.length →
    f90_l0 E (.sl 4 (l.map Entry.u)) (.int .i64 i) (p.map Entry.u) = some (.tup [.sl 4 (l.map Entry.u), .bool false])
  | [], p, i, e, hi => by
    have hp : p = l := by rw [e]; simp
    rw [f90_l0_eq, hp]
    simp [mid_end e hi]
  | t :: r, p, i, e, hi => by
    obtain ⟨h0, hlt, hx, hw, hn, _⟩ := mid_at e hi (by omega)
    have ih := f90_l0_is h l hl ho r (p ++ [t]) (i + 1) (mid_next e) hn
    have hc := f108_is h.c_f108 t (ho t (by rw [e]; simp))
    have hb : (p.length + 1) * 64 ≤ 140737488355328 := by
      have : p.length + (r.length + 1) = l.length := by rw [e]; simp
      omega
    rw [f90_l0_eq]
    simp [hlt, hx, hw, hc, hb]
    simpa using ih
theorem f90_l1_in (h : G_f90 E) (l : List Entry) (hl : l.length ≤ 1048576) (ho : ∀ t ∈ l, t.ok) (x : Entry) (hx : x.ok) : ∀ (r p c : List Entry) (i : Int), l = p ++ r → i = p.length → c ++ r = insAt x l → c.length = p.length + 1 →
    f90_l1 E (.sl 4 (l.map Entry.u)) (.bool true) (.int .i64 i) (c.map Entry.u) x.u = some (.tup [.sl 4 ((addReader l x).1.map Entry.u), .bool (addReader l x).2])
  | [], p, c, i, e, hi, hc, hcl => by
    have hh := f97_is h.c_f97 l hl ho
    have h0 := f90_l0_is h l hl ho l [] 0 rfl rfl
    rw [f90_l1_eq]
    have hc : c = insAt x l := by simpa using hc
    subst hc
    simp only [lenOf_sl, Option.bind_some, List.length_map, bin_lss, mid_end e hi, decide_false, asBool_bool, Bool.false_eq_true, if_false, un_not, Bool.not_true, hh]
    cases g1 : isHistory l
    · simp [addReader, g1]
      simpa using h0
    · have h9 : l.length ≤ 9 := by
        simp only [isHistory, Bool.and_eq_true, decide_eq_true_eq] at g1
        exact g1.2
      have hn := f97_is h.c_f97 (insAt x l) (by rw [insAt_length]; omega) (insAt_ok hx ho)
      by_cases g2 : x.writes = []
      · cases g3 : isHistory (insAt x l)
        · rw [g3] at hn
          simp [addReader, g1, g2, g3, hn]
          simpa using h0
        · rw [g3] at hn
          simp [addReader, g1, g2, g3, hn]
      · have : 0 < x.writes.length := List.length_pos_iff.2 g2
        simp [addReader, g1, g2, this]
        simpa using h0
  | t :: r, p, c, i, e, hi, hc, hcl => by
    obtain ⟨h0, hlt, hxx, hw, hn, _⟩ := mid_at e hi (by omega)
    have ih := f90_l1_in h l hl ho x hx r (p ++ [t]) (c ++ [t]) (i + 1) (mid_next e) hn (by simpa using hc) (by simp [hcl])
    have hcp := f108_is h.c_f108 t (ho t (by rw [e]; simp))
    have hb : (c.length + 1) * 64 ≤ 140737488355328 := by
      have : p.length + (r.length + 1) = l.length := by rw [e]; simp
      omega
    rw [f90_l1_eq]
    simp [hlt, hxx, hw, hcp, hb]
    simpa using ih
theorem insAt_here {x t : Entry} {p r : List Entry} (hp : insPos x p = p.length) (ht : t.stamp > x.stamp) : insAt x (p ++ t :: r) = p ++ [x] ++ t :: r := by
  have : insPos x (p ++ t :: r) = p.length := by
    induction p with
    | nil => simp [insPos, ht]
    | cons y p ih =>
      simp only [insPos, List.length_cons] at hp
      split at hp
      · omega
      · rename_i hy
        simp only [List.cons_append, insPos, hy, if_false, List.length_cons]
        rw [ih (by omega)]
  unfold insAt
  rw [this]
  simp
theorem insPos_next {x t : Entry} {p : List Entry} (hp : insPos x p = p.length) (ht : ¬ t.stamp > x.stamp) : insPos x (p ++ [t]) = (p ++ [t]).length := by
  induction p with
  | nil => simp [insPos, ht]
  | cons y p ih =>
    simp only [insPos, List.length_cons] at hp
    split at hp
    · omega
    · rename_i hy
      simp only [List.cons_append, insPos, hy, if_false, List.length_cons]
      rw [ih (by omega)]
theorem f90_l1_out (h : G_f90 E) (l : List Entry) (hl : l.length ≤ 1048576) (ho : ∀ t ∈ l, t.ok) (x : Entry) (hx : x.ok) : ∀ (r p : List Entry) (i : Int), l = p ++ r → i = p.length → insPos x p = p.length →
    f90_l1 E (.sl 4 (l.map Entry.u)) (.bool false) (.int .i64 i) (p.map Entry.u) x.u = some (.tup [.sl 4 ((addReader l x).1.map Entry.u), .bool (addReader l x).2])
  | [], p, i, e, hi, hp => by
    have he : p = l := by rw [e]; simp
    subst he
    have hin : insAt x p = p ++ [x] := by unfold insAt; rw [hp]; simp
    have hh := f97_is h.c_f97 p hl ho
    have h0 := f90_l0_is h p hl ho p [] 0 rfl rfl
    have hcp := f108_is h.c_f108 x hx
    have hb : (p.length + 1) * 64 ≤ 140737488355328 := by omega
    have hm : p.map Entry.u ++ [x.u] = (insAt x p).map Entry.u := by rw [hin]; simp
    rw [f90_l1_eq]
    have hlt : decide ((p.length : Int) < p.length) = false := by simp
    simp only [lenOf_sl, Option.bind_some, List.length_map, bin_lss, hi, hlt, asBool_bool, Bool.false_eq_true, if_false, un_not, Bool.not_false, if_true]
    rw [Entry.u_var, hcp, Option.bind_some, if_pos ⟨Entry.u_partable x, Entry.u_size x⟩, if_pos ⟨trivial, trivial, by simpa using hb⟩, hh, Option.bind_some, hm]
    clear e hi hcp hb hm hlt
    cases g1 : isHistory p
    · simp [addReader, g1]
      simpa using h0
    · have h9 : p.length ≤ 9 := by
        simp only [isHistory, Bool.and_eq_true, decide_eq_true_eq] at g1
        exact g1.2
      have hn := f97_is h.c_f97 (insAt x p) (by rw [insAt_length]; omega) (insAt_ok hx ho)
      by_cases g2 : x.writes = []
      · cases g3 : isHistory (insAt x p)
        · rw [g3] at hn
          simp [addReader, g1, g2, g3, hn]
          simpa using h0
        · rw [g3] at hn
          simp [addReader, g1, g2, g3, hn]
      · have : 0 < x.writes.length := List.length_pos_iff.2 g2
        simp [addReader, g1, g2, this]
        simpa using h0
  | t :: r, p, i, e, hi, hp => by
    obtain ⟨h0, hlt, hxx, hw, hn, _⟩ := mid_at e hi (by omega)
    have hct := f108_is h.c_f108 t (ho t (by rw [e]; simp))
    have hcx := f108_is h.c_f108 x hx
    have hlen : p.length + (r.length + 1) = l.length := by rw [e]; simp
    have hb : (p.length + 1) * 64 ≤ 140737488355328 := by omega
    have hb2 : (p.length + 1 + 1) * 64 ≤ 140737488355328 := Nat.le_trans (Nat.mul_le_mul_right 64 (show p.length + 1 + 1 ≤ 1048577 by omega)) (by decide)
    by_cases ht : t.stamp > x.stamp
    · have ih := f90_l1_in h l hl ho x hx r (p ++ [t]) (p ++ [x] ++ [t]) (i + 1) (mid_next e) hn (by rw [e, insAt_here hp ht]; simp) (by simp)
      rw [f90_l1_eq]
      simp [hlt, hxx, hw, hct, hcx, hb, hb2, ht]
      simpa using ih
    · have ih := f90_l1_out h l hl ho x hx r (p ++ [t]) (i + 1) (mid_next e) hn (insPos_next hp ht)
      rw [f90_l1_eq]
      simp [hlt, hxx, hw, hct, hb, ht]
      simpa using ih
theorem f90_is (h : G_f90 E) (l : List Entry) (hl : l.length ≤ 1048576) (ho : ∀ t ∈ l, t.ok) (x : Entry) (hx : x.ok) :
    E 289 [.sl 4 (l.map Entry.u), x.u] = some (.tup [.sl 4 ((addReader l x).1.map Entry.u), .bool (addReader l x).2]) := by
  rw [f90_E h]
  simpa using f90_l1_out h l hl ho x hx l [] 0 rfl rfl rfl
theorem f69_is (h : G_f69 E) (x : ReadMark) : E 29 [x.u] = some x.u := by
  rw [f69_E h]
  simp [ReadMark.u]
theorem f70_l0_is (h : G_f70 E) (l : List ReadMark) (hl : l.length ≤ 1048576) : ∀ (r p : List ReadMark) (i : Int) (c : List U), l = p ++ r → i = p.length → c.length = r.length → (∀ z ∈ c, z.size = 2) →
    f70_l0 E (.sl 2 (l.map ReadMark.u)) (.int .i64 i) (p.map ReadMark.u ++ c) = some (.sl 2 (l.map ReadMark.u))
  | [], p, i, c, e, hi, hc, _ => by
    obtain rfl : c = [] := List.length_eq_zero_iff.1 hc
    rw [f70_l0_eq]
    simp [mid_end e hi]
    simp [e]
  | x :: r, p, i, [], e, hi, hc, _ => by cases hc
  | x :: r, p, i, z :: c, e, hi, hc, hz => by
    obtain ⟨h0, hlt, hx, hw, hn, _⟩ := mid_at e hi (by omega)
    have hzs : z.size = 2 := hz z (by simp)
    obtain ⟨hg, hs, hlen⟩ := mid_set ReadMark.u p z c hi
    have ih := f70_l0_is h l hl r (p ++ [x]) (i + 1) c (mid_next e) hn (by simpa using hc) (fun y hy => hz y (by simp [hy]))
    simp only [List.map_append, List.map_cons, List.map_nil, List.append_assoc, List.cons_append, List.nil_append] at ih
    rw [f70_l0_eq]
    simp only [hg, hs, hx, hw, asInt_int, bin_lss, lenOf_sl, List.length_map, Option.bind_some, asBool_bool, hlt, decide_true, if_true, h0, hlen, and_self, bin_add, f69_is h.c_f69 x, hzs, ReadMark.u_var, ReadMark.u_size, ReadMark.u_storable, ReadMark.u_partable]
    simpa using ih
theorem f70_is (h : G_f70 E) (l : List ReadMark) (hl : l.length ≤ 1048576) : E 28 [.sl 2 (l.map ReadMark.u)] = some (.sl 2 (l.map ReadMark.u)) := by
  have h1 := f70_l0_is h l hl l [] 0 (List.replicate l.length (.agg [.int .i64 0, .int .i64 0])) rfl rfl (by simp) (by simp)
  rw [f70_E h]
  simp only [lenOf_sl, Option.bind_some, List.length_map]
  rw [if_pos (by refine ⟨by omega, by omega, by omega, rfl⟩)]
  simpa using h1
theorem f51_is (h : G_f51 E) (x y : ReadMark) : E 35 [x.u, y.u] = some (.bool (decide (x = y))) := by
  rw [f51_E h]
  obtain ⟨a0, a1⟩ := x
  obtain ⟨b0, b1⟩ := y
  simp only [ReadMark.mk.injEq]
  by_cases h0 : a0 = b0
  case neg => simp [h0]
  subst h0
  by_cases h1 : a1 = b1
  case neg => simp [h1]
  subst h1
  simp []
theorem f52_l0_is (h : G_f52 E) (a b : List ReadMark) (ha : a.length ≤ 1048576) (hb : b.length ≤ 1048576) : ∀ (r s p p2 : List ReadMark) (i : Int), a = p ++ r → b = p2 ++ s → i = p.length → i = p2.length → r.length = s.length →
    f52_l0 E (.sl 2 (a.map ReadMark.u)) (.sl 2 (b.map ReadMark.u)) (.int .i64 i) = some (.bool (decide (r = s)))
  | [], [], p, p2, i, e, e2, hi, hi2, _ => by
    rw [f52_l0_eq]
    simp [mid_end e hi]
  | [], y :: s, _, _, _, _, _, _, _, hl => by cases hl
  | x :: r, [], _, _, _, _, _, _, _, hl => by cases hl
  | x :: r, y :: s, p, p2, i, e, e2, hi, hi2, hl => by
    obtain ⟨h0, hlt, hx, hw, hn, _⟩ := mid_at e hi (by omega)
    obtain ⟨_, _, hy, _, hn2, _⟩ := mid_at e2 hi2 (by omega)
    have ih := f52_l0_is h a b ha hb r s (p ++ [x]) (p2 ++ [y]) (i + 1) (mid_next e) (mid_next e2) hn hn2 (by simpa using hl)
    rw [f52_l0_eq]
    by_cases hxy : x = y
    · subst hxy
      simp [hlt, hx, hy, hw, ih, f51_is h.c_f51]
    · simp [hlt, hx, hy, hw, ih, f51_is h.c_f51, hxy]
theorem f52_is (h : G_f52 E) (a b : List ReadMark) (ha : a.length ≤ 1048576) (hb : b.length ≤ 1048576) : E 34 [.sl 2 (a.map ReadMark.u), .sl 2 (b.map ReadMark.u)] = some (.bool (decide (a = b))) := by
  rw [f52_E h]
  by_cases hl : a.length = b.length
  · simp [hl, f52_l0_is h a b ha hb a b [] [] 0 rfl rfl rfl rfl hl]
  · have h1 : a ≠ b := fun e => hl (by rw [e])
    have h2 : (a.length : Int) ≠ b.length := by omega
    simp [h1, h2]
theorem f63_is (h : G_f63 E) (l : List ReadMark) (hl : l.length ≤ maxLen) (left : Int) (h0 : 0 ≤ left) (h1 : left ≤ 1048576) : E 24 [.sl 2 (l.map ReadMark.u), .int .i64 left] = some (.int .i64 (szc l.length left)) := by
  rw [f63_E h]
  unfold maxLen at hl
  have hw : IntKind.i64.wrap (left - (l.length : Int)) = left - l.length := wrap_in (by omega)
  by_cases h2 : left - (l.length : Int) < 0 <;> simp [hw, szc, h2]
end Go.Proofs.Ytlgblpngiamhaaa.Am
