import Derived.KernelRfl
import Derived.Test.YtfdcdbkblkehcaaAmX
import Derived.Test.YtfdcdbkblkehcaaReplaySerialF1
import Derived.Test.YtfdcdbkblkehcaaReplaySerialF0
import Derived.Test.YtfdcdbkblkehcaaAmY
namespace Go.Proofs.Ytfdcdbkblkehcaa.Am
open Go
variable {α : Type}
def intU (n : Int) : U := .int .i64 n
@[simp] theorem intU_size (n : Int) : (intU n).size = 1 := rfl
@[simp] theorem asVar_intU (n : Int) (K : U → Option α) : U.asVar false 1 (intU n) K = K (.int .i64 n) := rfl
@[simp] theorem storable_intU (n : Int) : storable (.val (intU n)) = true := rfl
@[simp] theorem partable_intU (n : Int) : partable (.val (intU n)) = true := rfl
abbrev intsU (l : List Int) : U := .sl 1 (l.map intU)
structure Edge where
  frm : Int
  to : Int
  kind : Int
  key : Int
  deriving DecidableEq
def Edge.u (e : Edge) : U := .agg [.int .i64 e.frm, .int .i64 e.to, .int .i64 e.kind, .int .i64 e.key]
@[simp] theorem Edge.u_size (e : Edge) : e.u.size = 4 := rfl
@[simp] theorem Edge.u_var (e : Edge) (K : U → Option α) : U.asVar true 4 e.u K = K e.u := rfl
@[simp] theorem Edge.u_storable (e : Edge) : storable (.val e.u) = true := rfl
@[simp] theorem Edge.u_partable (e : Edge) : partable (.val e.u) = true := rfl
@[simp] theorem Edge.u_noTup (e : Edge) (K : U → Option α) : U.noTup e.u K = K e.u := rfl
@[simp] theorem Edge.u_agg (e : Edge) (K : List U → Option α) : U.asAgg e.u K = K [.int .i64 e.frm, .int .i64 e.to, .int .i64 e.kind, .int .i64 e.key] := rfl
@[simp] theorem Edge.u_at0 (e : Edge) (K : U → Option α) : U.fieldAt 0 0 e.u K = K (.int .i64 e.frm) := rfl
@[simp] theorem Edge.u_at1 (e : Edge) (K : U → Option α) : U.fieldAt 1 1 e.u K = K (.int .i64 e.to) := rfl
@[simp] theorem Edge.u_at2 (e : Edge) (K : U → Option α) : U.fieldAt 2 2 e.u K = K (.int .i64 e.kind) := rfl
@[simp] theorem Edge.u_at3 (e : Edge) (K : U → Option α) : U.fieldAt 3 3 e.u K = K (.int .i64 e.key) := rfl
@[simp] theorem Edge.u_flat (e : Edge) : e.u.flat = true := rfl
@[simp] theorem Edge.u_asFlat (e : Edge) (K : U → Option α) : U.asFlat e.u K = K e.u := rfl
@[simp] theorem Edge.u_eqv (x y : Edge) : U.eqv 6 x.u y.u = some (decide (x = y)) := by
  obtain ⟨a0, a1, a2, a3⟩ := x
  obtain ⟨b0, b1, b2, b3⟩ := y
  simp only [Edge.mk.injEq]
  show (if 4 = 4 then eqInts _ _ else none) = _
  simp only [if_true, eqInts_cons, eqInts_nil, Option.map_some, Bool.decide_and, Bool.and_true]
  rfl
structure ReadMark where
  key : Int
  created : Int
  deriving DecidableEq
def ReadMark.u (e : ReadMark) : U := .agg [.int .i64 e.key, .int .i64 e.created]
@[simp] theorem ReadMark.u_size (e : ReadMark) : e.u.size = 2 := rfl
@[simp] theorem ReadMark.u_var (e : ReadMark) (K : U → Option α) : U.asVar true 2 e.u K = K e.u := rfl
@[simp] theorem ReadMark.u_storable (e : ReadMark) : storable (.val e.u) = true := rfl
@[simp] theorem ReadMark.u_partable (e : ReadMark) : partable (.val e.u) = true := rfl
@[simp] theorem ReadMark.u_noTup (e : ReadMark) (K : U → Option α) : U.noTup e.u K = K e.u := rfl
@[simp] theorem ReadMark.u_agg (e : ReadMark) (K : List U → Option α) : U.asAgg e.u K = K [.int .i64 e.key, .int .i64 e.created] := rfl
@[simp] theorem ReadMark.u_at0 (e : ReadMark) (K : U → Option α) : U.fieldAt 0 0 e.u K = K (.int .i64 e.key) := rfl
@[simp] theorem ReadMark.u_at1 (e : ReadMark) (K : U → Option α) : U.fieldAt 1 1 e.u K = K (.int .i64 e.created) := rfl
@[simp] theorem ReadMark.u_flat (e : ReadMark) : e.u.flat = true := rfl
@[simp] theorem ReadMark.u_asFlat (e : ReadMark) (K : U → Option α) : U.asFlat e.u K = K e.u := rfl
@[simp] theorem ReadMark.u_eqv (x y : ReadMark) : U.eqv 4 x.u y.u = some (decide (x = y)) := by
  obtain ⟨a0, a1⟩ := x
  obtain ⟨b0, b1⟩ := y
  simp only [ReadMark.mk.injEq]
  show (if 2 = 2 then eqInts _ _ else none) = _
  simp only [if_true, eqInts_cons, eqInts_nil, Option.map_some, Bool.decide_and, Bool.and_true]
  rfl
structure Write where
  key : Int
  value : Int
  deriving DecidableEq
def Write.u (e : Write) : U := .agg [.int .i64 e.key, .int .i64 e.value]
@[simp] theorem Write.u_size (e : Write) : e.u.size = 2 := rfl
@[simp] theorem Write.u_var (e : Write) (K : U → Option α) : U.asVar true 2 e.u K = K e.u := rfl
@[simp] theorem Write.u_storable (e : Write) : storable (.val e.u) = true := rfl
@[simp] theorem Write.u_partable (e : Write) : partable (.val e.u) = true := rfl
@[simp] theorem Write.u_noTup (e : Write) (K : U → Option α) : U.noTup e.u K = K e.u := rfl
@[simp] theorem Write.u_agg (e : Write) (K : List U → Option α) : U.asAgg e.u K = K [.int .i64 e.key, .int .i64 e.value] := rfl
@[simp] theorem Write.u_at0 (e : Write) (K : U → Option α) : U.fieldAt 0 0 e.u K = K (.int .i64 e.key) := rfl
@[simp] theorem Write.u_at1 (e : Write) (K : U → Option α) : U.fieldAt 1 1 e.u K = K (.int .i64 e.value) := rfl
@[simp] theorem Write.u_flat (e : Write) : e.u.flat = true := rfl
@[simp] theorem Write.u_asFlat (e : Write) (K : U → Option α) : U.asFlat e.u K = K e.u := rfl
@[simp] theorem Write.u_eqv (x y : Write) : U.eqv 4 x.u y.u = some (decide (x = y)) := by
  obtain ⟨a0, a1⟩ := x
  obtain ⟨b0, b1⟩ := y
  simp only [Write.mk.injEq]
  show (if 2 = 2 then eqInts _ _ else none) = _
  simp only [if_true, eqInts_cons, eqInts_nil, Option.map_some, Bool.decide_and, Bool.and_true]
  rfl
structure Lock where
  key : Int
  owner : Int
  deriving DecidableEq
def Lock.u (e : Lock) : U := .agg [.int .i64 e.key, .int .i64 e.owner]
@[simp] theorem Lock.u_size (e : Lock) : e.u.size = 2 := rfl
@[simp] theorem Lock.u_var (e : Lock) (K : U → Option α) : U.asVar true 2 e.u K = K e.u := rfl
@[simp] theorem Lock.u_storable (e : Lock) : storable (.val e.u) = true := rfl
@[simp] theorem Lock.u_partable (e : Lock) : partable (.val e.u) = true := rfl
@[simp] theorem Lock.u_noTup (e : Lock) (K : U → Option α) : U.noTup e.u K = K e.u := rfl
@[simp] theorem Lock.u_agg (e : Lock) (K : List U → Option α) : U.asAgg e.u K = K [.int .i64 e.key, .int .i64 e.owner] := rfl
@[simp] theorem Lock.u_at0 (e : Lock) (K : U → Option α) : U.fieldAt 0 0 e.u K = K (.int .i64 e.key) := rfl
@[simp] theorem Lock.u_at1 (e : Lock) (K : U → Option α) : U.fieldAt 1 1 e.u K = K (.int .i64 e.owner) := rfl
@[simp] theorem Lock.u_flat (e : Lock) : e.u.flat = true := rfl
@[simp] theorem Lock.u_asFlat (e : Lock) (K : U → Option α) : U.asFlat e.u K = K e.u := rfl
@[simp] theorem Lock.u_eqv (x y : Lock) : U.eqv 4 x.u y.u = some (decide (x = y)) := by
  obtain ⟨a0, a1⟩ := x
  obtain ⟨b0, b1⟩ := y
  simp only [Lock.mk.injEq]
  show (if 2 = 2 then eqInts _ _ else none) = _
  simp only [if_true, eqInts_cons, eqInts_nil, Option.map_some, Bool.decide_and, Bool.and_true]
  rfl
structure Wait where
  id : Int
  for_ : Int
  deriving DecidableEq
def Wait.u (e : Wait) : U := .agg [.int .i64 e.id, .int .i64 e.for_]
@[simp] theorem Wait.u_size (e : Wait) : e.u.size = 2 := rfl
@[simp] theorem Wait.u_var (e : Wait) (K : U → Option α) : U.asVar true 2 e.u K = K e.u := rfl
@[simp] theorem Wait.u_storable (e : Wait) : storable (.val e.u) = true := rfl
@[simp] theorem Wait.u_partable (e : Wait) : partable (.val e.u) = true := rfl
@[simp] theorem Wait.u_noTup (e : Wait) (K : U → Option α) : U.noTup e.u K = K e.u := rfl
@[simp] theorem Wait.u_agg (e : Wait) (K : List U → Option α) : U.asAgg e.u K = K [.int .i64 e.id, .int .i64 e.for_] := rfl
@[simp] theorem Wait.u_at0 (e : Wait) (K : U → Option α) : U.fieldAt 0 0 e.u K = K (.int .i64 e.id) := rfl
@[simp] theorem Wait.u_at1 (e : Wait) (K : U → Option α) : U.fieldAt 1 1 e.u K = K (.int .i64 e.for_) := rfl
@[simp] theorem Wait.u_flat (e : Wait) : e.u.flat = true := rfl
@[simp] theorem Wait.u_asFlat (e : Wait) (K : U → Option α) : U.asFlat e.u K = K e.u := rfl
@[simp] theorem Wait.u_eqv (x y : Wait) : U.eqv 4 x.u y.u = some (decide (x = y)) := by
  obtain ⟨a0, a1⟩ := x
  obtain ⟨b0, b1⟩ := y
  simp only [Wait.mk.injEq]
  show (if 2 = 2 then eqInts _ _ else none) = _
  simp only [if_true, eqInts_cons, eqInts_nil, Option.map_some, Bool.decide_and, Bool.and_true]
  rfl
structure Version where
  writer : Int
  value : Int
  created : Int
  reader : Int
  successor : Int
  deriving DecidableEq
def Version.u (e : Version) : U := .agg [.int .i64 e.writer, .int .i64 e.value, .int .i64 e.created, .int .i64 e.reader, .int .i64 e.successor]
@[simp] theorem Version.u_size (e : Version) : e.u.size = 5 := rfl
@[simp] theorem Version.u_var (e : Version) (K : U → Option α) : U.asVar true 5 e.u K = K e.u := rfl
@[simp] theorem Version.u_storable (e : Version) : storable (.val e.u) = true := rfl
@[simp] theorem Version.u_partable (e : Version) : partable (.val e.u) = true := rfl
@[simp] theorem Version.u_noTup (e : Version) (K : U → Option α) : U.noTup e.u K = K e.u := rfl
@[simp] theorem Version.u_agg (e : Version) (K : List U → Option α) : U.asAgg e.u K = K [.int .i64 e.writer, .int .i64 e.value, .int .i64 e.created, .int .i64 e.reader, .int .i64 e.successor] := rfl
@[simp] theorem Version.u_at0 (e : Version) (K : U → Option α) : U.fieldAt 0 0 e.u K = K (.int .i64 e.writer) := rfl
@[simp] theorem Version.u_at1 (e : Version) (K : U → Option α) : U.fieldAt 1 1 e.u K = K (.int .i64 e.value) := rfl
@[simp] theorem Version.u_at2 (e : Version) (K : U → Option α) : U.fieldAt 2 2 e.u K = K (.int .i64 e.created) := rfl
@[simp] theorem Version.u_at3 (e : Version) (K : U → Option α) : U.fieldAt 3 3 e.u K = K (.int .i64 e.reader) := rfl
@[simp] theorem Version.u_at4 (e : Version) (K : U → Option α) : U.fieldAt 4 4 e.u K = K (.int .i64 e.successor) := rfl
@[simp] theorem Version.u_flat (e : Version) : e.u.flat = true := rfl
@[simp] theorem Version.u_asFlat (e : Version) (K : U → Option α) : U.asFlat e.u K = K e.u := rfl
@[simp] theorem Version.u_eqv (x y : Version) : U.eqv 7 x.u y.u = some (decide (x = y)) := by
  obtain ⟨a0, a1, a2, a3, a4⟩ := x
  obtain ⟨b0, b1, b2, b3, b4⟩ := y
  simp only [Version.mk.injEq]
  show (if 5 = 5 then eqInts _ _ else none) = _
  simp only [if_true, eqInts_cons, eqInts_nil, Option.map_some, Bool.decide_and, Bool.and_true]
  rfl
structure Entry where
  id : Int
  stamp : Int
  reads : List ReadMark
  writes : List Write
  deriving DecidableEq
def Entry.u (e : Entry) : U := .agg [.int .i64 e.id, .int .i64 e.stamp, .sl 2 (e.reads.map ReadMark.u), .sl 2 (e.writes.map Write.u)]
@[simp] theorem Entry.u_size (e : Entry) : e.u.size = 4 := rfl
@[simp] theorem Entry.u_var (e : Entry) (K : U → Option α) : U.asVar true 4 e.u K = K e.u := rfl
@[simp] theorem Entry.u_storable (e : Entry) : storable (.val e.u) = true := rfl
@[simp] theorem Entry.u_partable (e : Entry) : partable (.val e.u) = true := rfl
@[simp] theorem Entry.u_noTup (e : Entry) (K : U → Option α) : U.noTup e.u K = K e.u := rfl
@[simp] theorem Entry.u_agg (e : Entry) (K : List U → Option α) : U.asAgg e.u K = K [.int .i64 e.id, .int .i64 e.stamp, .sl 2 (e.reads.map ReadMark.u), .sl 2 (e.writes.map Write.u)] := rfl
@[simp] theorem Entry.u_at0 (e : Entry) (K : U → Option α) : U.fieldAt 0 0 e.u K = K (.int .i64 e.id) := rfl
@[simp] theorem Entry.u_at1 (e : Entry) (K : U → Option α) : U.fieldAt 1 1 e.u K = K (.int .i64 e.stamp) := rfl
@[simp] theorem Entry.u_at2 (e : Entry) (K : U → Option α) : U.fieldAt 2 2 e.u K = K (.sl 2 (e.reads.map ReadMark.u)) := rfl
@[simp] theorem Entry.u_at3 (e : Entry) (K : U → Option α) : U.fieldAt 3 3 e.u K = K (.sl 2 (e.writes.map Write.u)) := rfl
structure LogRecord where
  stamp : Int
  id : Int
  high : Int
  safe : Int
  reads : List ReadMark
  writes : List Write
  deriving DecidableEq
def LogRecord.u (e : LogRecord) : U := .agg [.int .i64 e.stamp, .int .i64 e.id, .int .i64 e.high, .int .i64 e.safe, .sl 2 (e.reads.map ReadMark.u), .sl 2 (e.writes.map Write.u)]
@[simp] theorem LogRecord.u_size (e : LogRecord) : e.u.size = 6 := rfl
@[simp] theorem LogRecord.u_var (e : LogRecord) (K : U → Option α) : U.asVar true 6 e.u K = K e.u := rfl
@[simp] theorem LogRecord.u_storable (e : LogRecord) : storable (.val e.u) = true := rfl
@[simp] theorem LogRecord.u_partable (e : LogRecord) : partable (.val e.u) = true := rfl
@[simp] theorem LogRecord.u_noTup (e : LogRecord) (K : U → Option α) : U.noTup e.u K = K e.u := rfl
@[simp] theorem LogRecord.u_agg (e : LogRecord) (K : List U → Option α) : U.asAgg e.u K = K [.int .i64 e.stamp, .int .i64 e.id, .int .i64 e.high, .int .i64 e.safe, .sl 2 (e.reads.map ReadMark.u), .sl 2 (e.writes.map Write.u)] := rfl
@[simp] theorem LogRecord.u_at0 (e : LogRecord) (K : U → Option α) : U.fieldAt 0 0 e.u K = K (.int .i64 e.stamp) := rfl
@[simp] theorem LogRecord.u_at1 (e : LogRecord) (K : U → Option α) : U.fieldAt 1 1 e.u K = K (.int .i64 e.id) := rfl
@[simp] theorem LogRecord.u_at2 (e : LogRecord) (K : U → Option α) : U.fieldAt 2 2 e.u K = K (.int .i64 e.high) := rfl
@[simp] theorem LogRecord.u_at3 (e : LogRecord) (K : U → Option α) : U.fieldAt 3 3 e.u K = K (.int .i64 e.safe) := rfl
@[simp] theorem LogRecord.u_at4 (e : LogRecord) (K : U → Option α) : U.fieldAt 4 4 e.u K = K (.sl 2 (e.reads.map ReadMark.u)) := rfl
@[simp] theorem LogRecord.u_at5 (e : LogRecord) (K : U → Option α) : U.fieldAt 5 5 e.u K = K (.sl 2 (e.writes.map Write.u)) := rfl
structure Transaction where
  id : Int
  scheme : Int
  state : Int
  begin_ : Int
  low : Int
  high : Int
  commit : Int
  reads : List ReadMark
  writes : List Write
  deriving DecidableEq
def Transaction.u (e : Transaction) : U := .agg [.int .i64 e.id, .int .i64 e.scheme, .int .i64 e.state, .int .i64 e.begin_, .int .i64 e.low, .int .i64 e.high, .int .i64 e.commit, .sl 2 (e.reads.map ReadMark.u), .sl 2 (e.writes.map Write.u)]
@[simp] theorem Transaction.u_size (e : Transaction) : e.u.size = 9 := rfl
@[simp] theorem Transaction.u_var (e : Transaction) (K : U → Option α) : U.asVar true 9 e.u K = K e.u := rfl
@[simp] theorem Transaction.u_storable (e : Transaction) : storable (.val e.u) = true := rfl
@[simp] theorem Transaction.u_partable (e : Transaction) : partable (.val e.u) = true := rfl
@[simp] theorem Transaction.u_noTup (e : Transaction) (K : U → Option α) : U.noTup e.u K = K e.u := rfl
@[simp] theorem Transaction.u_agg (e : Transaction) (K : List U → Option α) : U.asAgg e.u K = K [.int .i64 e.id, .int .i64 e.scheme, .int .i64 e.state, .int .i64 e.begin_, .int .i64 e.low, .int .i64 e.high, .int .i64 e.commit, .sl 2 (e.reads.map ReadMark.u), .sl 2 (e.writes.map Write.u)] := rfl
@[simp] theorem Transaction.u_at0 (e : Transaction) (K : U → Option α) : U.fieldAt 0 0 e.u K = K (.int .i64 e.id) := rfl
@[simp] theorem Transaction.u_at1 (e : Transaction) (K : U → Option α) : U.fieldAt 1 1 e.u K = K (.int .i64 e.scheme) := rfl
@[simp] theorem Transaction.u_at2 (e : Transaction) (K : U → Option α) : U.fieldAt 2 2 e.u K = K (.int .i64 e.state) := rfl
@[simp] theorem Transaction.u_at3 (e : Transaction) (K : U → Option α) : U.fieldAt 3 3 e.u K = K (.int .i64 e.begin_) := rfl
@[simp] theorem Transaction.u_at4 (e : Transaction) (K : U → Option α) : U.fieldAt 4 4 e.u K = K (.int .i64 e.low) := rfl
@[simp] theorem Transaction.u_at5 (e : Transaction) (K : U → Option α) : U.fieldAt 5 5 e.u K = K (.int .i64 e.high) := rfl
@[simp] theorem Transaction.u_at6 (e : Transaction) (K : U → Option α) : U.fieldAt 6 6 e.u K = K (.int .i64 e.commit) := rfl
@[simp] theorem Transaction.u_at7 (e : Transaction) (K : U → Option α) : U.fieldAt 7 7 e.u K = K (.sl 2 (e.reads.map ReadMark.u)) := rfl
@[simp] theorem Transaction.u_at8 (e : Transaction) (K : U → Option α) : U.fieldAt 8 8 e.u K = K (.sl 2 (e.writes.map Write.u)) := rfl
structure Op where
  kind : Int
  id : Int
  scheme : Int
  key : Int
  high : Int
  value : Int
  deriving DecidableEq
def Op.u (e : Op) : U := .agg [.int .i64 e.kind, .int .i64 e.id, .int .i64 e.scheme, .int .i64 e.key, .int .i64 e.high, .int .i64 e.value]
@[simp] theorem Op.u_size (e : Op) : e.u.size = 6 := rfl
@[simp] theorem Op.u_var (e : Op) (K : U → Option α) : U.asVar true 6 e.u K = K e.u := rfl
@[simp] theorem Op.u_storable (e : Op) : storable (.val e.u) = true := rfl
@[simp] theorem Op.u_partable (e : Op) : partable (.val e.u) = true := rfl
@[simp] theorem Op.u_noTup (e : Op) (K : U → Option α) : U.noTup e.u K = K e.u := rfl
@[simp] theorem Op.u_agg (e : Op) (K : List U → Option α) : U.asAgg e.u K = K [.int .i64 e.kind, .int .i64 e.id, .int .i64 e.scheme, .int .i64 e.key, .int .i64 e.high, .int .i64 e.value] := rfl
@[simp] theorem Op.u_at0 (e : Op) (K : U → Option α) : U.fieldAt 0 0 e.u K = K (.int .i64 e.kind) := rfl
@[simp] theorem Op.u_at1 (e : Op) (K : U → Option α) : U.fieldAt 1 1 e.u K = K (.int .i64 e.id) := rfl
@[simp] theorem Op.u_at2 (e : Op) (K : U → Option α) : U.fieldAt 2 2 e.u K = K (.int .i64 e.scheme) := rfl
@[simp] theorem Op.u_at3 (e : Op) (K : U → Option α) : U.fieldAt 3 3 e.u K = K (.int .i64 e.key) := rfl
@[simp] theorem Op.u_at4 (e : Op) (K : U → Option α) : U.fieldAt 4 4 e.u K = K (.int .i64 e.high) := rfl
@[simp] theorem Op.u_at5 (e : Op) (K : U → Option α) : U.fieldAt 5 5 e.u K = K (.int .i64 e.value) := rfl
@[simp] theorem Op.u_flat (e : Op) : e.u.flat = true := rfl
@[simp] theorem Op.u_asFlat (e : Op) (K : U → Option α) : U.asFlat e.u K = K e.u := rfl
@[simp] theorem Op.u_eqv (x y : Op) : U.eqv 8 x.u y.u = some (decide (x = y)) := by
  obtain ⟨a0, a1, a2, a3, a4, a5⟩ := x
  obtain ⟨b0, b1, b2, b3, b4, b5⟩ := y
  simp only [Op.mk.injEq]
  show (if 6 = 6 then eqInts _ _ else none) = _
  simp only [if_true, eqInts_cons, eqInts_nil, Option.map_some, Bool.decide_and, Bool.and_true]
  rfl
structure StepR where
  code : Int
  values : List Int
  deriving DecidableEq
def StepR.u (e : StepR) : U := .agg [.int .i64 e.code, .sl 1 (e.values.map intU)]
@[simp] theorem StepR.u_size (e : StepR) : e.u.size = 2 := rfl
@[simp] theorem StepR.u_var (e : StepR) (K : U → Option α) : U.asVar true 2 e.u K = K e.u := rfl
@[simp] theorem StepR.u_storable (e : StepR) : storable (.val e.u) = true := rfl
@[simp] theorem StepR.u_partable (e : StepR) : partable (.val e.u) = true := rfl
@[simp] theorem StepR.u_noTup (e : StepR) (K : U → Option α) : U.noTup e.u K = K e.u := rfl
@[simp] theorem StepR.u_agg (e : StepR) (K : List U → Option α) : U.asAgg e.u K = K [.int .i64 e.code, .sl 1 (e.values.map intU)] := rfl
@[simp] theorem StepR.u_at0 (e : StepR) (K : U → Option α) : U.fieldAt 0 0 e.u K = K (.int .i64 e.code) := rfl
@[simp] theorem StepR.u_at1 (e : StepR) (K : U → Option α) : U.fieldAt 1 1 e.u K = K (.sl 1 (e.values.map intU)) := rfl
def chainU (l : List Version) : U := .sl 5 (l.map Version.u)
@[simp] theorem chainU_size (l : List Version) : (chainU l).size = 1 := rfl
@[simp] theorem asVar_chainU (l : List Version) (K : U → Option α) : U.asVar false 1 (chainU l) K = K (chainU l) := rfl
@[simp] theorem storable_chainU (l : List Version) : storable (.val (chainU l)) = true := rfl
@[simp] theorem partable_chainU (l : List Version) : partable (.val (chainU l)) = true := rfl
@[simp] theorem noTup_chainU (l : List Version) (K : U → Option α) : U.noTup (chainU l) K = K (chainU l) := rfl
@[simp] theorem lenOf_chainU (l : List Version) : U.lenOf false (chainU l) = some l.length := by simp [chainU]
@[simp] theorem elemAt_chainU (l : List Version) (i : Int) (K : U → Option α) : U.elemAt 5 (chainU l) i K = U.elemAt 5 (.sl 5 (l.map Version.u)) i K := rfl
structure Store where
  chains : List (List Version)
  deriving DecidableEq
def Store.u (e : Store) : U := .agg [.sl 1 (e.chains.map chainU)]
@[simp] theorem Store.u_size (e : Store) : e.u.size = 1 := rfl
@[simp] theorem Store.u_var (e : Store) (K : U → Option α) : U.asVar true 1 e.u K = K e.u := rfl
@[simp] theorem Store.u_storable (e : Store) : storable (.val e.u) = true := rfl
@[simp] theorem Store.u_partable (e : Store) : partable (.val e.u) = true := rfl
@[simp] theorem Store.u_noTup (e : Store) (K : U → Option α) : U.noTup e.u K = K e.u := rfl
@[simp] theorem Store.u_agg (e : Store) (K : List U → Option α) : U.asAgg e.u K = K [.sl 1 (e.chains.map chainU)] := rfl
@[simp] theorem Store.u_at0 (e : Store) (K : U → Option α) : U.fieldAt 0 0 e.u K = K (.sl 1 (e.chains.map chainU)) := rfl
structure Engine where
  certify : Bool
  store : Store
  transactions : List Transaction
  locks : List Lock
  waits : List Wait
  stamp : Int
  deriving DecidableEq
def Engine.u (e : Engine) : U := .agg [.bool e.certify, e.store.u, .sl 9 (e.transactions.map Transaction.u), .sl 2 (e.locks.map Lock.u), .sl 2 (e.waits.map Wait.u), .int .i64 e.stamp]
@[simp] theorem Engine.u_size (e : Engine) : e.u.size = 6 := rfl
@[simp] theorem Engine.u_var (e : Engine) (K : U → Option α) : U.asVar true 6 e.u K = K e.u := rfl
@[simp] theorem Engine.u_storable (e : Engine) : storable (.val e.u) = true := rfl
@[simp] theorem Engine.u_partable (e : Engine) : partable (.val e.u) = true := rfl
@[simp] theorem Engine.u_noTup (e : Engine) (K : U → Option α) : U.noTup e.u K = K e.u := rfl
@[simp] theorem Engine.u_agg (e : Engine) (K : List U → Option α) : U.asAgg e.u K = K [.bool e.certify, e.store.u, .sl 9 (e.transactions.map Transaction.u), .sl 2 (e.locks.map Lock.u), .sl 2 (e.waits.map Wait.u), .int .i64 e.stamp] := rfl
@[simp] theorem Engine.u_at0 (e : Engine) (K : U → Option α) : U.fieldAt 0 0 e.u K = K (.bool e.certify) := rfl
@[simp] theorem Engine.u_at1 (e : Engine) (K : U → Option α) : U.fieldAt 1 1 e.u K = K (e.store.u) := rfl
@[simp] theorem Engine.u_at2 (e : Engine) (K : U → Option α) : U.fieldAt 2 2 e.u K = K (.sl 9 (e.transactions.map Transaction.u)) := rfl
@[simp] theorem Engine.u_at3 (e : Engine) (K : U → Option α) : U.fieldAt 3 3 e.u K = K (.sl 2 (e.locks.map Lock.u)) := rfl
@[simp] theorem Engine.u_at4 (e : Engine) (K : U → Option α) : U.fieldAt 4 4 e.u K = K (.sl 2 (e.waits.map Wait.u)) := rfl
@[simp] theorem Engine.u_at5 (e : Engine) (K : U → Option α) : U.fieldAt 5 5 e.u K = K (.int .i64 e.stamp) := rfl
structure Node where
  engine : Engine
  log : ByteArray
  deriving DecidableEq
def Node.u (e : Node) : U := .agg [e.engine.u, .str e.log]
@[simp] theorem Node.u_size (e : Node) : e.u.size = 7 := rfl
@[simp] theorem Node.u_var (e : Node) (K : U → Option α) : U.asVar true 7 e.u K = K e.u := rfl
@[simp] theorem Node.u_storable (e : Node) : storable (.val e.u) = true := rfl
@[simp] theorem Node.u_partable (e : Node) : partable (.val e.u) = true := rfl
@[simp] theorem Node.u_noTup (e : Node) (K : U → Option α) : U.noTup e.u K = K e.u := rfl
@[simp] theorem Node.u_agg (e : Node) (K : List U → Option α) : U.asAgg e.u K = K [e.engine.u, .str e.log] := rfl
@[simp] theorem Node.u_at0 (e : Node) (K : U → Option α) : U.fieldAt 0 0 e.u K = K (e.engine.u) := rfl
@[simp] theorem Node.u_at1 (e : Node) (K : U → Option α) : U.fieldAt 1 6 e.u K = K (.str e.log) := rfl
structure Report where
  order : List Int
  cycle : List Int
  kind : Int
  deriving DecidableEq
def Report.u (e : Report) : U := .agg [.sl 1 (e.order.map intU), .sl 1 (e.cycle.map intU), .int .i64 e.kind]
@[simp] theorem Report.u_size (e : Report) : e.u.size = 3 := rfl
@[simp] theorem Report.u_var (e : Report) (K : U → Option α) : U.asVar true 3 e.u K = K e.u := rfl
@[simp] theorem Report.u_storable (e : Report) : storable (.val e.u) = true := rfl
@[simp] theorem Report.u_partable (e : Report) : partable (.val e.u) = true := rfl
@[simp] theorem Report.u_noTup (e : Report) (K : U → Option α) : U.noTup e.u K = K e.u := rfl
@[simp] theorem Report.u_agg (e : Report) (K : List U → Option α) : U.asAgg e.u K = K [.sl 1 (e.order.map intU), .sl 1 (e.cycle.map intU), .int .i64 e.kind] := rfl
@[simp] theorem Report.u_at0 (e : Report) (K : U → Option α) : U.fieldAt 0 0 e.u K = K (.sl 1 (e.order.map intU)) := rfl
@[simp] theorem Report.u_at1 (e : Report) (K : U → Option α) : U.fieldAt 1 1 e.u K = K (.sl 1 (e.cycle.map intU)) := rfl
@[simp] theorem Report.u_at2 (e : Report) (K : U → Option α) : U.fieldAt 2 2 e.u K = K (.int .i64 e.kind) := rfl
end Go.Proofs.Ytfdcdbkblkehcaa.Am
namespace Go.Proofs.Ytfdcdbkblkehcaa.Am
open Go
variable {E : Env}
def inR (n lo hi : Int) : Bool := decide (lo ≤ n ∧ n ≤ hi)
theorem spec_l1In_is (h : G_spec_l1In E) (n lo hi : Int) : E 6 [.int .i64 n, .int .i64 lo, .int .i64 hi] = some (.bool (inR n lo hi)) := by
  rw [spec_l1In_E h]
  by_cases h1 : lo ≤ n <;> simp [inR, h1]
theorem impl_in_is (h : G_impl_in E) (n lo hi : Int) : E 10 [.int .i64 n, .int .i64 lo, .int .i64 hi] = some (.bool (inR n lo hi)) := by
  rw [impl_in_E h]
  by_cases h1 : lo ≤ n <;> simp [inR, h1]
theorem impl_isID_is (h : G_impl_isID E) (n : Int) : E 9 [.int .i64 n] = some (.bool (inR n 1 9)) := by
  rw [impl_isID_E h]; simp [impl_in_is h.c_impl_in]
theorem impl_isKey_is (h : G_impl_isKey E) (n : Int) : E 11 [.int .i64 n] = some (.bool (inR n 0 5)) := by
  rw [impl_isKey_E h]; simp [impl_in_is h.c_impl_in]
def cmpI (a b : Int) : Int := if a < b then -1 else if b < a then 1 else 0
theorem cmp_isNaN_is (h : G_cmp_isNaN_g15 E) (n : Int) : E 15 [.int .i64 n] = some (.bool false) := by
  rw [cmp_isNaN_g15_E h]; simp
theorem cmp_Compare_is (h : G_cmp_Compare_g13 E) (a b : Int) : E 13 [.int .i64 a, .int .i64 b] = some (.int .i64 (cmpI a b)) := by
  rw [cmp_Compare_g13_E h]
  simp only [cmp_isNaN_is h.c_cmp_isNaN_g15, cmpI]
  by_cases h1 : a < b <;> by_cases h2 : b < a <;> simp [h1, h2]
def cmpOr : List Int → Int
  | [] => 0
  | n :: l => if n = 0 then cmpOr l else n
theorem cmp_Or_l0_is (l : List Int) (hl : l.length ≤ 1000) : ∀ (r p : List Int) (i : Int), l = p ++ r → i = p.length → cmp_Or_g14_l0 E (.int .i64 0) (intsU l) (.int .i64 l.length) (.int .i64 i) = some (.int .i64 (cmpOr r))
  | [], p, i, e, hi => by
    rw [cmp_Or_g14_l0_eq]
    simp [mid_end e hi, cmpOr]
  | x :: r, p, i, e, hi => by
    obtain ⟨h0, hlt, hx, hw, hn, _⟩ := mid_at e hi (by omega)
    have ih := cmp_Or_l0_is l hl r (p ++ [x]) (i + 1) (mid_next e) hn
    rw [cmp_Or_g14_l0_eq]
    simp [h0, hlt, hx, hw, cmpOr, ih]
    split <;> simp_all
theorem cmp_Or_is (h : G_cmp_Or_g14 E) (l : List Int) (hl : l.length ≤ 1000) : E 14 [intsU l] = some (.int .i64 (cmpOr l)) := by
  rw [cmp_Or_g14_E h]
  simp [cmp_Or_l0_is (E := E) l hl l [] 0 rfl rfl]
end Go.Proofs.Ytfdcdbkblkehcaa.Am
namespace Go.Proofs.Ytfdcdbkblkehcaa.Am
open Go
def szc (n : Nat) (left : Int) : Int := if left - n < 0 then -1 else left - n
def szl {α : Type} (f : α → Int → Int) : List α → Int → Int
  | [], left => left
  | x :: r, left => if f x left < 0 then -1 else szl f r (f x left)
def szL {α : Type} (f : α → Int → Int) (l : List α) (left : Int) : Int := if left - (l.length : Int) < 0 then -1 else szl f l (left - l.length)
def Szs {α : Type} (f : α → Int → Int) (ok : α → Prop) : Prop := ∀ x left, 0 ≤ left → left ≤ 1048576 → f x left < 0 ∨ (ok x ∧ 0 ≤ f x left ∧ f x left ≤ left)
theorem szc_szs : Szs szc (fun n => n ≤ 1048576) := fun n left h0 h1 => by
  unfold szc
  split
  · left; omega
  · right; refine ⟨by omega, by omega, by omega⟩
theorem szc_neg {n : Nat} {left : Int} (h : szc n left < 0) : szc n left = -1 := by
  unfold szc at h ⊢
  split at h
  · rename_i h1; rw [if_pos h1]
  · rename_i h1; omega
theorem szl_szs {α : Type} {f : α → Int → Int} {ok : α → Prop} (h : Szs f ok) : Szs (szl f) (fun l => ∀ x ∈ l, ok x) := fun l => by
  induction l with
  | nil => exact fun left h0 _ => .inr ⟨by simp, h0, Int.le_refl _⟩
  | cons x r ih =>
    intro left h0 h1
    rcases h x left h0 h1 with h2 | ⟨h2, h3, h4⟩
    · left; simp [szl, h2]
    · have h5 : ¬ f x left < 0 := by omega
      simp only [szl, h5, if_false]
      rcases ih _ h3 (by omega) with h6 | ⟨h6, h7, h8⟩
      · exact .inl h6
      · exact .inr ⟨by simpa using ⟨h2, h6⟩, h7, by omega⟩
theorem szL_szs {α : Type} {f : α → Int → Int} {ok : α → Prop} (h : Szs f ok) : Szs (szL f) (fun l => l.length ≤ 1048576 ∧ ∀ x ∈ l, ok x) := fun l left h0 h1 => by
  unfold szL
  split
  · left; omega
  · rcases szl_szs h l (left - l.length) (by omega) (by omega) with h6 | ⟨h6, h7, h8⟩
    · exact .inl h6
    · exact .inr ⟨⟨by omega, h6⟩, h7, by omega⟩
theorem mid_set {α : Type} (f : α → U) (p : List α) (z : U) (c : List U) {i : Int} (hi : i = p.length) :
    (p.map f ++ z :: c)[i.toNat]? = some z ∧ (∀ y, (p.map f ++ z :: c).set i.toNat y = p.map f ++ y :: c) ∧ i < ((p.map f ++ z :: c).length : Int) := by
  subst hi
  refine ⟨by simp, fun y => by simp, by simp; omega⟩
def Entry.fit (e : Entry) : Prop := e.reads.length ≤ maxLen ∧ e.writes.length ≤ maxLen
def Entry.ok (e : Entry) : Prop := e.reads.length ≤ 1048576 ∧ e.writes.length ≤ 1048576
def LogRecord.fit (e : LogRecord) : Prop := e.reads.length ≤ maxLen ∧ e.writes.length ≤ maxLen
def LogRecord.ok (e : LogRecord) : Prop := e.reads.length ≤ 1048576 ∧ e.writes.length ≤ 1048576
def Transaction.fit (e : Transaction) : Prop := e.reads.length ≤ maxLen ∧ e.writes.length ≤ maxLen
def Transaction.ok (e : Transaction) : Prop := e.reads.length ≤ 1048576 ∧ e.writes.length ≤ 1048576
def chainOk (l : List Version) : Prop := l.length ≤ 1048576
def chainFit (l : List Version) : Prop := l.length ≤ maxLen
def chainSz (l : List Version) (left : Int) : Int := szc l.length left
theorem chainSz_szs : Szs chainSz chainOk := fun l left h0 h1 => szc_szs l.length left h0 h1
def Store.fit (s : Store) : Prop := s.chains.length ≤ maxLen ∧ ∀ c ∈ s.chains, chainFit c
def Store.ok (s : Store) : Prop := s.chains.length ≤ 1048576 ∧ ∀ c ∈ s.chains, chainOk c
def Store.sz (s : Store) (left : Int) : Int := szL chainSz s.chains left
theorem Store.sz_szs : Szs Store.sz Store.ok := fun s left h0 h1 => szL_szs chainSz_szs s.chains left h0 h1
def Transaction.sz (e : Transaction) (left : Int) : Int := let v := szc e.reads.length left; if v < 0 then -1 else szc e.writes.length v
theorem Transaction.sz_szs : Szs Transaction.sz Transaction.ok := fun e left h0 h1 => by
  unfold Transaction.sz Transaction.ok
  rcases szc_szs e.reads.length left h0 h1 with h | ⟨h2, h3, h4⟩
  · left; simp [h]
  · have h5 : ¬ szc e.reads.length left < 0 := by omega
    rcases szc_szs e.writes.length _ h3 (by omega) with h | ⟨h6, h7, h8⟩
    · left; simp [h5, h]
    · right; simp only [h5, if_false]; exact ⟨⟨h2, h6⟩, h7, by omega⟩
def Engine.fit (e : Engine) : Prop := e.store.fit ∧ e.transactions.length ≤ maxLen ∧ (∀ t ∈ e.transactions, t.fit) ∧ e.locks.length ≤ maxLen ∧ e.waits.length ≤ maxLen
def Engine.ok (e : Engine) : Prop := e.store.ok ∧ e.transactions.length ≤ 1048576 ∧ (∀ t ∈ e.transactions, t.ok) ∧ e.locks.length ≤ 1048576 ∧ e.waits.length ≤ 1048576
def Engine.sz (e : Engine) (left : Int) : Int :=
  if e.store.sz left < 0 then -1 else
  if szL Transaction.sz e.transactions (e.store.sz left) < 0 then -1 else
  if szc e.locks.length (szL Transaction.sz e.transactions (e.store.sz left)) < 0 then -1 else
  szc e.waits.length (szc e.locks.length (szL Transaction.sz e.transactions (e.store.sz left)))
theorem Engine.sz_szs : Szs Engine.sz Engine.ok := fun e left h0 h1 => by
  unfold Engine.sz Engine.ok
  rcases Store.sz_szs e.store left h0 h1 with n1 | ⟨o1, n1, n2⟩
  · left; simp [n1]
  have n3 : ¬ e.store.sz left < 0 := by omega
  rcases szL_szs Transaction.sz_szs e.transactions _ n1 (by omega) with m1 | ⟨⟨o2, o3⟩, m1, m2⟩
  · left; simp [n3, m1]
  have m3 : ¬ szL Transaction.sz e.transactions (e.store.sz left) < 0 := by omega
  rcases szc_szs e.locks.length _ m1 (by omega) with k1 | ⟨o4, k1, k2⟩
  · left; simp [n3, m3, k1]
  have k3 : ¬ szc e.locks.length (szL Transaction.sz e.transactions (e.store.sz left)) < 0 := by omega
  rcases szc_szs e.waits.length _ k1 (by omega) with j1 | ⟨o5, j1, j2⟩
  · left; simp [n3, m3, k3, j1]
  · right
    simp only [n3, m3, k3, if_false]
    exact ⟨⟨o1, o2, o3, o4, o5⟩, j1, by omega⟩
end Go.Proofs.Ytfdcdbkblkehcaa.Am
namespace Go.Proofs.Ytfdcdbkblkehcaa.Am
open Go
def idxF {α : Type} (P : α → Bool) : List α → Int → Int
  | [], _ => -1
  | x :: r, i => if P x then i else idxF P r (i + 1)
theorem idxF_any {α : Type} (P : α → Bool) (l : List α) : ∀ {i : Int}, 0 ≤ i → (decide (0 ≤ idxF P l i)) = l.any P := by
  induction l with
  | nil => intro i _; simp [idxF]
  | cons x r ih =>
    intro i hi
    cases h : P x
    · simp [idxF, h, ih (i := i + 1) (by omega)]
    · simp [idxF, h, hi]
theorem idxF_mem {α : Type} [DecidableEq α] (v : α) (l : List α) : ∀ {i : Int}, 0 ≤ i → (decide (0 ≤ idxF (fun x => decide (x = v)) l i)) = decide (v ∈ l) := by
  induction l with
  | nil => intro i _; simp [idxF]
  | cons x r ih =>
    intro i hi
    by_cases h : x = v
    · simp [idxF, h, hi]
    · have h2 : v ≠ x := fun e => h e.symm
      simp only [idxF, h, decide_false, Bool.false_eq_true, if_false, ih (i := i + 1) (by omega)]
      simp [h2]
theorem idxF_cases {α : Type} (P : α → Bool) (l : List α) : ∀ (i : Int), (idxF P l i = -1 ∧ ∀ x ∈ l, P x = false) ∨ ∃ p x r, l = p ++ x :: r ∧ idxF P l i = i + p.length ∧ P x = true ∧ ∀ y ∈ p, P y = false := by
  induction l with
  | nil => intro i; exact .inl ⟨rfl, by simp⟩
  | cons x r ih =>
    intro i
    cases h : P x with
    | true => exact .inr ⟨[], x, r, rfl, by simp [idxF, h], h, by simp⟩
    | false =>
      rcases ih (i + 1) with ⟨h1, h2⟩ | ⟨p, y, s, h1, h2, h3, h4⟩
      · exact .inl ⟨by simp [idxF, h, h1], by simpa [h] using h2⟩
      · exact .inr ⟨x :: p, y, s, by simp [h1], by simp [idxF, h, h2]; omega, h3, by simpa [h] using h4⟩
end Go.Proofs.Ytfdcdbkblkehcaa.Am
namespace Go.Proofs.Ytfdcdbkblkehcaa.Am
open Go
variable {E : Env}
set_option linter.unusedVariables false
def LogRecord.tx (r : LogRecord) : Transaction := ⟨r.id, 1, 2, 0, 0, r.high, r.stamp, r.reads, r.writes⟩
end Go.Proofs.Ytfdcdbkblkehcaa.Am
namespace Go.Proofs.Ytfdcdbkblkehcaa.Am
open Go
variable {E : Env}
set_option linter.unusedVariables false
def markLt (a b : ReadMark) : Bool := decide (a.key < b.key) || (decide (a.key = b.key) && decide (a.created < b.created))
def markCmp (a b : ReadMark) : Int := cmpOr [cmpI a.key b.key, cmpI a.created b.created]
theorem markCmp_neg (a b : ReadMark) : decide (0 ≤ markCmp a b) = !markLt a b := by
  unfold markCmp markLt cmpI
  simp only [cmpOr]
  by_cases h1 : a.key < b.key
  · simp [h1]
  · by_cases h2 : b.key < a.key
    · have h3 : ¬ a.key = b.key := by omega
      simp [h1, h2, h3]
    · have h3 : a.key = b.key := by omega
      by_cases h4 : a.created < b.created
      · simp [h3, h4]
      · by_cases h5 : b.created < a.created <;> simp [h3, h4, h5]
def reads1 (p : Option ReadMark) (m : ReadMark) : Bool := inR m.key 0 5 && inR m.created 0 999 && (match p with | none => true | some q => markLt q m)
def readsFrom : Option ReadMark → List ReadMark → Bool
  | _, [] => true
  | p, m :: r => reads1 p m && readsFrom (some m) r
def areReads (l : List ReadMark) : Bool := readsFrom none l && decide (l.length ≤ 60)
def writes1 (p : Option Write) (w : Write) : Bool := inR w.key 0 5 && inR w.value (-1) 99 && (match p with | none => true | some q => decide (q.key < w.key))
def writesFrom : Option Write → List Write → Bool
  | _, [] => true
  | p, w :: r => writes1 p w && writesFrom (some w) r
def areWrites (l : List Write) : Bool := writesFrom none l
def Transaction.valid (t : Transaction) : Bool :=
  inR t.id 1 9 && (inR t.scheme 1 4 && (inR t.begin_ 0 999 && (inR t.state 1 3 && (inR t.low 0 999 && (inR t.high 1 1000 && ((decide (t.state = 2) == decide (0 < t.commit)) && (inR t.commit 0 999 && (areReads t.reads && areWrites t.writes))))))))
def LogRecord.valid (r : LogRecord) : Bool := r.tx.valid && (decide (r.high ≤ r.stamp) && inR r.safe 0 r.stamp)
theorem impl_compareMarks_is (h : G_impl_compareMarks E) (a b : ReadMark) : E 75 [a.u, b.u] = some (.int .i64 (markCmp a b)) := by
  rw [impl_compareMarks_E h]
  have := cmp_Or_is h.c_cmp_Or_g14 [cmpI a.key b.key, cmpI a.created b.created] (by simp)
  simp only [intsU, List.map_cons, List.map_nil, intU] at this
  simp [cmp_Compare_is h.c_cmp_Compare_g13, this, markCmp]
theorem spec_l5Before_is (h : G_spec_l5Before E) (a b : ReadMark) : E 71 [a.u, b.u] = some (.bool (markLt a b)) := by
  rw [spec_l5Before_E h]
  by_cases h1 : a.key < b.key
  · simp [markLt, h1]
  · by_cases h2 : a.key = b.key <;> simp [markLt, h1, h2]
theorem impl_IsStamp_is (h : G_impl_IsStamp E) (n : Int) : E 72 [.int .i64 n] = some (.bool (inR n 1 999)) := by
  rw [impl_IsStamp_E h]; simp [impl_in_is h.c_impl_in]
theorem impl_isValue_is (h : G_impl_isValue E) (n : Int) : E 76 [.int .i64 n] = some (.bool (inR n (-1) 99)) := by
  rw [impl_isValue_E h]; simp [impl_in_is h.c_impl_in]
theorem impl_areReads_l0_is (h : G_impl_areReads E) (l : List ReadMark) (hl : l.length ≤ 1048576) : ∀ (r p : List ReadMark) (i : Int), l = p ++ r → i = p.length →
    impl_areReads_l0 E (.sl 2 (l.map ReadMark.u)) (.sl 2 (l.map ReadMark.u)) (.int .i64 l.length) (.int .i64 i) = some (.bool (readsFrom p.getLast? r && decide (l.length ≤ 60)))
  | [], p, i, e, hi => by
    rw [impl_areReads_l0_eq]
    have h1 : decide ((l.length : Int) ≤ 60) = decide (l.length ≤ 60) := by congr 1; simp only [eq_iff_iff]; omega
    simp [mid_end e hi, readsFrom, h1]
  | x :: r, p, i, e, hi => by
    obtain ⟨h0, hlt, hx, hw, hn, _⟩ := mid_at e hi (by omega)
    have ih := impl_areReads_l0_is h l hl r (p ++ [x]) (i + 1) (mid_next e) hn
    rw [List.getLast?_concat] at ih
    rw [impl_areReads_l0_eq]
    by_cases hp : p = []
    · have hi0 : ¬ 0 < i := by subst hp; simp at hi; omega
      simp [h0, hlt, hx, hw, ih, impl_isKey_is h.c_impl_isKey, impl_in_is h.c_impl_in, hi0, hp, ite_f, readsFrom, reads1, Bool.and_assoc]
    · obtain ⟨q, j, hq, hpos, hw1, h1, hq1, _⟩ := mid_last e hi (by omega) hp
      simp [h0, hlt, hx, hw, ih, impl_isKey_is h.c_impl_isKey, impl_in_is h.c_impl_in, hpos, hq, hw1, hq1, impl_compareMarks_is h.c_impl_compareMarks, ite_f, ite_n, markCmp_neg, readsFrom, reads1, Bool.and_assoc]
theorem impl_areReads_is (h : G_impl_areReads E) (l : List ReadMark) (hl : l.length ≤ 1048576) : E 73 [.sl 2 (l.map ReadMark.u)] = some (.bool (areReads l)) := by
  rw [impl_areReads_E h]
  simp [impl_areReads_l0_is h l hl l [] 0 rfl rfl, areReads]
theorem impl_areWrites_l0_is (h : G_impl_areWrites E) (l : List Write) (hl : l.length ≤ 1048576) : ∀ (r p : List Write) (i : Int), l = p ++ r → i = p.length →
    impl_areWrites_l0 E (.sl 2 (l.map Write.u)) (.sl 2 (l.map Write.u)) (.int .i64 l.length) (.int .i64 i) = some (.bool (writesFrom p.getLast? r))
  | [], p, i, e, hi => by
    rw [impl_areWrites_l0_eq]
    simp [mid_end e hi, writesFrom]
  | x :: r, p, i, e, hi => by
    obtain ⟨h0, hlt, hx, hw, hn, _⟩ := mid_at e hi (by omega)
    have ih := impl_areWrites_l0_is h l hl r (p ++ [x]) (i + 1) (mid_next e) hn
    rw [List.getLast?_concat] at ih
    rw [impl_areWrites_l0_eq]
    by_cases hp : p = []
    · have hi0 : ¬ 0 < i := by subst hp; simp at hi; omega
      simp [h0, hlt, hx, hw, ih, impl_isKey_is h.c_impl_isKey, impl_isValue_is h.c_impl_isValue, hi0, hp, ite_f, writesFrom, writes1, Bool.and_assoc]
    · obtain ⟨q, j, hq, hpos, hw1, h1, hq1, _⟩ := mid_last e hi (by omega) hp
      have hc : (!decide (x.key ≤ q.key)) = decide (q.key < x.key) := by rw [← decide_not]; congr 1; simp only [eq_iff_iff]; omega
      simp [h0, hlt, hx, hw, ih, impl_isKey_is h.c_impl_isKey, impl_isValue_is h.c_impl_isValue, hpos, hq, hw1, hq1, ite_f, ite_n, writesFrom, writes1, Bool.and_assoc, hc]
theorem impl_areWrites_is (h : G_impl_areWrites E) (l : List Write) (hl : l.length ≤ 1048576) : E 74 [.sl 2 (l.map Write.u)] = some (.bool (areWrites l)) := by
  rw [impl_areWrites_E h]
  simp [impl_areWrites_l0_is h l hl l [] 0 rfl rfl, areWrites]
def Transaction.tail (t : Transaction) : Bool :=
  inR t.id 1 9 && (inR t.scheme 1 4 && (inR t.begin_ 0 999 && (inR t.state 1 3 && (inR t.low 0 999 && (inR t.high 1 1000 && ((decide (t.state = 2) == decide (0 < t.commit)) && (inR t.commit 0 999 && decide (t.reads.length ≤ 60))))))))
theorem spec_IsVT_l0_is (h : G_spec_IsValidTransaction E) (t : Transaction) (ho : t.ok) : ∀ (r p : List Write) (i : Int), t.writes = p ++ r → i = p.length →
    spec_IsValidTransaction_l0 E (.int .i64 i) t.u = some (.bool (writesFrom p.getLast? r && t.tail))
  | [], p, i, e, hi => by
    rw [spec_IsValidTransaction_l0_eq]
    have h1 : decide ((t.reads.length : Int) ≤ 60) = decide (t.reads.length ≤ 60) := by congr 1; simp only [eq_iff_iff]; omega
    have h2 : decide (t.state = 2 ↔ 0 < t.commit) = (decide (t.state = 2) == decide (0 < t.commit)) := by
      by_cases a : t.state = 2 <;> by_cases b : 0 < t.commit <;> simp [a, b]
    simp [mid_end e hi, spec_l1In_is h.c_spec_l1In, ite_f, ite_t, ite_p, writesFrom, Transaction.tail, h1, h2]
  | x :: r, p, i, e, hi => by
    obtain ⟨h0, hlt, hx, hw, hn, _⟩ := mid_at e hi (by have := ho.2; omega)
    have ih := spec_IsVT_l0_is h t ho r (p ++ [x]) (i + 1) (mid_next e) hn
    rw [List.getLast?_concat] at ih
    rw [spec_IsValidTransaction_l0_eq]
    by_cases hp : p = []
    · have hi0 : ¬ 0 < i := by subst hp; simp at hi; omega
      simp [h0, hlt, hx, hw, ih, spec_l1In_is h.c_spec_l1In, hi0, hp, ite_f, writesFrom, writes1, Bool.and_assoc]
    · obtain ⟨q, j, hq, hpos, hw1, h1, hq1, _⟩ := mid_last e hi (by have := ho.2; omega) hp
      have hc : (!decide (x.key ≤ q.key)) = decide (q.key < x.key) := by rw [← decide_not]; congr 1; simp only [eq_iff_iff]; omega
      simp [h0, hlt, hx, hw, ih, spec_l1In_is h.c_spec_l1In, hpos, hq, hw1, hq1, ite_f, ite_n, writesFrom, writes1, Bool.and_assoc, hc]
theorem spec_IsVT_l1_is (h : G_spec_IsValidTransaction E) (t : Transaction) (ho : t.ok) : ∀ (r p : List ReadMark) (i : Int), t.reads = p ++ r → i = p.length →
    spec_IsValidTransaction_l1 E (.int .i64 i) t.u = some (.bool (readsFrom p.getLast? r && (writesFrom none t.writes && t.tail)))
  | [], p, i, e, hi => by
    rw [spec_IsValidTransaction_l1_eq]
    simp [mid_end e hi, readsFrom, spec_IsVT_l0_is h t ho t.writes [] 0 rfl rfl]
  | x :: r, p, i, e, hi => by
    obtain ⟨h0, hlt, hx, hw, hn, _⟩ := mid_at e hi (by have := ho.1; omega)
    have ih := spec_IsVT_l1_is h t ho r (p ++ [x]) (i + 1) (mid_next e) hn
    rw [List.getLast?_concat] at ih
    rw [spec_IsValidTransaction_l1_eq]
    by_cases hp : p = []
    · have hi0 : ¬ 0 < i := by subst hp; simp at hi; omega
      simp [h0, hlt, hx, hw, ih, spec_l1In_is h.c_spec_l1In, hi0, hp, ite_f, readsFrom, reads1, Bool.and_assoc]
    · obtain ⟨q, j, hq, hpos, hw1, h1, hq1, _⟩ := mid_last e hi (by have := ho.1; omega) hp
      simp [h0, hlt, hx, hw, ih, spec_l1In_is h.c_spec_l1In, hpos, hq, hw1, hq1, ite_f, ite_n, readsFrom, reads1, Bool.and_assoc, spec_l5Before_is h.c_spec_l5Before]
theorem spec_IsValidTransaction_is (h : G_spec_IsValidTransaction E) (t : Transaction) (ho : t.ok) : E 70 [t.u] = some (.bool t.valid) := by
  rw [spec_IsValidTransaction_E h]
  have h1 := spec_IsVT_l1_is h t ho t.reads [] 0 rfl rfl
  have h2 : (readsFrom none t.reads && (writesFrom none t.writes && t.tail)) = t.valid := by
    unfold Transaction.valid Transaction.tail areReads areWrites
    ac_rfl
  simp [h1, h2]
end Go.Proofs.Ytfdcdbkblkehcaa.Am
namespace Go.Proofs.Ytfdcdbkblkehcaa.Am
open Go
variable {E : Env}
set_option linter.unusedVariables false
theorem slices_IndexFunc_g55_l0_is (l : List Write) (hl : l.length ≤ 9223372036854775807) (q : Nat) (caps : List U) (P : Write → Bool) (hp : ∀ x ∈ l, E q (Write.u x :: caps) = some (.bool (P x))) (hq : q < 100000) : ∀ (r p : List Write) (i : Int), l = p ++ r → i = p.length →
    slices_IndexFunc_g55_l0 E (.sl 2 (l.map Write.u)) (.fn q caps) (.int .i64 l.length) (.int .i64 i) = some (.int .i64 (idxF P r i))
  | [], p, i, e, hi => by
    rw [slices_IndexFunc_g55_l0_eq]
    simp [mid_end e hi, idxF]
  | x :: r, p, i, e, hi => by
    obtain ⟨h0, hlt, hx, hw, hn, _⟩ := mid_at e hi hl
    have hpx := hp x (by rw [e]; simp)
    have ih := slices_IndexFunc_g55_l0_is l hl q caps P hp hq r (p ++ [x]) (i + 1) (mid_next e) hn
    rw [slices_IndexFunc_g55_l0_eq]
    cases h1 : P x <;> simp [hlt, hx, hw, ih, hpx, hq, h1, idxF]
theorem slices_IndexFunc_g55_is (h : G_slices_IndexFunc_g55 E) (l : List Write) (hl : l.length ≤ 9223372036854775807) (q : Nat) (caps : List U) (P : Write → Bool) (hp : ∀ x ∈ l, E q (Write.u x :: caps) = some (.bool (P x))) (hq : q < 100000 := by decide) :
    E 55 [.sl 2 (l.map Write.u), .fn q caps] = some (.int .i64 (idxF P l 0)) := by
  rw [slices_IndexFunc_g55_E h]
  simp [slices_IndexFunc_g55_l0_is l hl q caps P hp hq l [] 0 rfl rfl]
end Go.Proofs.Ytfdcdbkblkehcaa.Am
namespace Go.Proofs.Ytfdcdbkblkehcaa.Am
open Go
variable {E : Env}
set_option linter.unusedVariables false
theorem slices_ContainsFunc_g54_is (h : G_slices_ContainsFunc_g54 E) (l : List Write) (hl : l.length ≤ 9223372036854775807) (q : Nat) (caps : List U) (P : Write → Bool) (hp : ∀ x ∈ l, E q (Write.u x :: caps) = some (.bool (P x))) (hq : q < 100000 := by decide) :
    E 54 [.sl 2 (l.map Write.u), .fn q caps] = some (.bool (l.any P)) := by
  rw [slices_ContainsFunc_g54_E h]
  simp [slices_IndexFunc_g55_is h.c_slices_IndexFunc_g55 l hl q caps P hp hq, idxF_any]
end Go.Proofs.Ytfdcdbkblkehcaa.Am
namespace Go.Proofs.Ytfdcdbkblkehcaa.Am
open Go
variable {E : Env}
set_option linter.unusedVariables false
def Entry.has (x : Entry) (key : Int) : Bool := x.writes.any fun w => decide (w.key = key)
def nwId : Option Entry → Int
  | none => 0
  | some c => c.id
def nwStamp : Option Entry → Int
  | none => 0
  | some c => c.stamp
@[simp] theorem nwId_none : nwId none = 0 := rfl
@[simp] theorem nwId_some (c : Entry) : nwId (some c) = c.id := rfl
@[simp] theorem nwStamp_none : nwStamp none = 0 := rfl
@[simp] theorem nwStamp_some (c : Entry) : nwStamp (some c) = c.stamp := rfl
theorem impl_writes_1_is (h : G_impl_Entry_writes_1 E) (w : Write) (key : Int) : E 53 [w.u, .vp (.int .i64 key)] = some (.bool (decide (w.key = key))) := by
  rw [impl_Entry_writes_1_E h]
  simp
theorem impl_writes_is (h : G_impl_Entry_writes E) (x : Entry) (hx : x.writes.length ≤ 9223372036854775807) (key : Int) : E 52 [x.u, .int .i64 key] = some (.bool (x.has key)) := by
  rw [impl_Entry_writes_E h]
  simp [slices_ContainsFunc_g54_is h.c_slices_ContainsFunc_g54 x.writes hx 53 [.vp (.int .i64 key)] (fun w => decide (w.key = key)) (fun w _ => impl_writes_1_is h.c_impl_Entry_writes_1 w key), Entry.has]
end Go.Proofs.Ytfdcdbkblkehcaa.Am
namespace Go.Proofs.Ytfdcdbkblkehcaa.Am
open Go
variable {E : Env}
set_option linter.unusedVariables false
theorem slices_IndexFunc_g253_l0_is (l : List Entry) (hl : l.length ≤ 9223372036854775807) (q : Nat) (caps : List U) (P : Entry → Bool) (hp : ∀ x ∈ l, E q (Entry.u x :: caps) = some (.bool (P x))) (hq : q < 100000) : ∀ (r p : List Entry) (i : Int), l = p ++ r → i = p.length →
    slices_IndexFunc_g253_l0 E (.sl 4 (l.map Entry.u)) (.fn q caps) (.int .i64 l.length) (.int .i64 i) = some (.int .i64 (idxF P r i))
  | [], p, i, e, hi => by
    rw [slices_IndexFunc_g253_l0_eq]
    simp [mid_end e hi, idxF]
  | x :: r, p, i, e, hi => by
    obtain ⟨h0, hlt, hx, hw, hn, _⟩ := mid_at e hi hl
    have hpx := hp x (by rw [e]; simp)
    have ih := slices_IndexFunc_g253_l0_is l hl q caps P hp hq r (p ++ [x]) (i + 1) (mid_next e) hn
    rw [slices_IndexFunc_g253_l0_eq]
    cases h1 : P x <;> simp [hlt, hx, hw, ih, hpx, hq, h1, idxF]
theorem slices_IndexFunc_g253_is (h : G_slices_IndexFunc_g253 E) (l : List Entry) (hl : l.length ≤ 9223372036854775807) (q : Nat) (caps : List U) (P : Entry → Bool) (hp : ∀ x ∈ l, E q (Entry.u x :: caps) = some (.bool (P x))) (hq : q < 100000 := by decide) :
    E 253 [.sl 4 (l.map Entry.u), .fn q caps] = some (.int .i64 (idxF P l 0)) := by
  rw [slices_IndexFunc_g253_E h]
  simp [slices_IndexFunc_g253_l0_is l hl q caps P hp hq l [] 0 rfl rfl]
end Go.Proofs.Ytfdcdbkblkehcaa.Am
namespace Go.Proofs.Ytfdcdbkblkehcaa.Am
open Go
variable {E : Env}
set_option linter.unusedVariables false
def Entry.good (x : Entry) : Bool := inR x.id 1 9 && (inR x.stamp 1 999 && (areReads x.reads && areWrites x.writes))
def Entry.tx (x : Entry) : Transaction := ⟨x.id, 1, 2, 0, 0, 1000, x.stamp, x.reads, x.writes⟩
theorem Entry.tx_valid (x : Entry) : x.tx.valid = x.good := by
  have k1 : inR 1 1 4 = true := rfl
  have k2 : inR 0 0 999 = true := rfl
  have k3 : inR 2 1 3 = true := rfl
  have k4 : inR 1000 1 1000 = true := rfl
  have key : ((decide ((2 : Int) = 2) == decide (0 < x.stamp)) && (inR x.stamp 0 999)) = inR x.stamp 1 999 := by
    rw [Bool.eq_iff_iff]
    simp [inR]
    omega
  simp only [Entry.tx, Transaction.valid, Entry.good, k1, k2, k3, k4, Bool.true_and]
  rw [← key, Bool.and_assoc]
  simp
  rfl
def hasId (c : Int) (x : Entry) : Bool := decide (x.id = c)
def findE (l : List Entry) (c : Int) : Int := idxF (hasId c) l 0
def wrote (m : ReadMark) (x : Entry) : Bool := decide (x.stamp = m.created) && x.has m.key
def idOr : Option Entry → Int
  | none => 0
  | some x => x.id
def writerOf (l : List Entry) (m : ReadMark) : Int := idOr (l.find? (wrote m))
theorem spec_FindEntry_l0_is (l : List Entry) (hl : l.length ≤ 1048576) (c : Int) : ∀ (r p : List Entry) (i : Int), l = p ++ r → i = p.length →
    spec_FindEntry_l0 E (.sl 4 (l.map Entry.u)) (.int .i64 c) (.int .i64 i) = some (.int .i64 (idxF (hasId c) r i))
  | [], p, i, e, hi => by
    rw [spec_FindEntry_l0_eq]
    simp [mid_end e hi, idxF]
  | x :: r, p, i, e, hi => by
    obtain ⟨h0, hlt, hx, hw, hn, _⟩ := mid_at e hi (by omega)
    have ih := spec_FindEntry_l0_is l hl c r (p ++ [x]) (i + 1) (mid_next e) hn
    rw [spec_FindEntry_l0_eq]
    by_cases h1 : x.id = c <;> simp [hlt, hx, hw, ih, h1, idxF, hasId]
theorem spec_FindEntry_is (h : G_spec_FindEntry E) (l : List Entry) (hl : l.length ≤ 1048576) (c : Int) : E 241 [.sl 4 (l.map Entry.u), .int .i64 c] = some (.int .i64 (findE l c)) := by
  rw [spec_FindEntry_E h]
  exact spec_FindEntry_l0_is l hl c l [] 0 rfl rfl
theorem impl_FindEntry_1_is (h : G_impl_FindEntry_1 E) (x : Entry) (c : Int) : E 252 [x.u, .vp (.int .i64 c)] = some (.bool (hasId c x)) := by
  rw [impl_FindEntry_1_E h]; simp [hasId]
theorem impl_FindEntry_is (h : G_impl_FindEntry E) (l : List Entry) (hl : l.length ≤ 1048576) (c : Int) : E 251 [.sl 4 (l.map Entry.u), .int .i64 c] = some (.int .i64 (findE l c)) := by
  rw [impl_FindEntry_E h]
  have := slices_IndexFunc_g253_is h.c_slices_IndexFunc_g253 l (by omega) 252 [.vp (.int .i64 c)] (hasId c) (fun x _ => impl_FindEntry_1_is h.c_impl_FindEntry_1 x c)
  simp [this, findE]
theorem impl_WriterOf_l0_is (h : G_impl_WriterOf E) (l : List Entry) (hl : l.length ≤ 1048576) (ho : ∀ x ∈ l, x.ok) (m : ReadMark) : ∀ (r p : List Entry) (i : Int), l = p ++ r → i = p.length →
    impl_WriterOf_l0 E (.sl 4 (l.map Entry.u)) (.int .i64 l.length) (.int .i64 i) m.u = some (.int .i64 (idOr (r.find? (wrote m))))
  | [], p, i, e, hi => by
    rw [impl_WriterOf_l0_eq]
    simp [mid_end e hi, idOr]
  | x :: r, p, i, e, hi => by
    obtain ⟨h0, hlt, hx, hw, hn, _⟩ := mid_at e hi (by omega)
    have hox : x.ok := ho x (by rw [e]; simp)
    have hwr := impl_writes_is h.c_impl_Entry_writes x (by have := hox.2; omega) m.key
    have ih := impl_WriterOf_l0_is h l hl ho m r (p ++ [x]) (i + 1) (mid_next e) hn
    rw [impl_WriterOf_l0_eq]
    by_cases h1 : x.stamp = m.created
    · cases h2 : x.has m.key <;> simp [hlt, hx, hw, ih, h1, h2, hwr, wrote, idOr]
    · simp [hlt, hx, hw, ih, h1, wrote]
theorem impl_WriterOf_is (h : G_impl_WriterOf E) (l : List Entry) (hl : l.length ≤ 1048576) (ho : ∀ x ∈ l, x.ok) (m : ReadMark) : E 249 [.sl 4 (l.map Entry.u), m.u] = some (.int .i64 (writerOf l m)) := by
  rw [impl_WriterOf_E h]
  simp [impl_WriterOf_l0_is h l hl ho m l [] 0 rfl rfl, writerOf]
theorem spec_WriterOf_l1_is (l : List Entry) (hl : l.length ≤ 1048576) (m : ReadMark) (x : Entry) (hox : x.ok) (i : Int) (h0 : 0 ≤ i) (hi : l[i.toNat]? = some x) (hw : IntKind.i64.wrap (i + 1) = i + 1) : ∀ (r p : List Write) (j : Int), x.writes = p ++ r → j = p.length →
    spec_WriterOf_l1 E (.sl 4 (l.map Entry.u)) (.int .i64 i) (.int .i64 j) m.u =
      if decide (x.stamp = m.created) && r.any (fun w => decide (w.key = m.key)) then some (.int .i64 x.id) else spec_WriterOf_l0 E (.sl 4 (l.map Entry.u)) (.int .i64 (i + 1)) m.u
  | [], p, j, e, hj => by
    have hx : ∀ {γ : Type} (K : U → Option γ), U.elemAt 4 (.sl 4 (l.map Entry.u)) i K = K x.u := fun K => elemAt_get Entry.u h0 hi K
    rw [spec_WriterOf_l1_eq]
    simp [hx, mid_end e hj, hw]
  | y :: r, p, j, e, hj => by
    have hx : ∀ {γ : Type} (K : U → Option γ), U.elemAt 4 (.sl 4 (l.map Entry.u)) i K = K x.u := fun K => elemAt_get Entry.u h0 hi K
    obtain ⟨j0, hlt, hy, hwj, hn, _⟩ := mid_at e hj (by have := hox.2; omega)
    have ih := spec_WriterOf_l1_is l hl m x hox i h0 hi hw r (p ++ [y]) (j + 1) (mid_next e) hn
    rw [spec_WriterOf_l1_eq]
    by_cases h1 : x.stamp = m.created
    · by_cases h2 : y.key = m.key <;> simp [hlt, hx, hy, hwj, ih, h1, h2]
    · simp [hlt, hx, hy, hwj, ih, h1]
theorem spec_WriterOf_l0_is (l : List Entry) (hl : l.length ≤ 1048576) (ho : ∀ x ∈ l, x.ok) (m : ReadMark) : ∀ (r p : List Entry) (i : Int), l = p ++ r → i = p.length →
    spec_WriterOf_l0 E (.sl 4 (l.map Entry.u)) (.int .i64 i) m.u = some (.int .i64 (idOr (r.find? (wrote m))))
  | [], p, i, e, hi => by
    rw [spec_WriterOf_l0_eq]
    simp [mid_end e hi, idOr]
  | x :: r, p, i, e, hi => by
    obtain ⟨h0, hlt, hx, hw, hn, hxi⟩ := mid_at e hi (by omega)
    have ih := spec_WriterOf_l0_is l hl ho m r (p ++ [x]) (i + 1) (mid_next e) hn
    have h1 := spec_WriterOf_l1_is (E := E) l hl m x (ho x (by rw [e]; simp)) i h0 hxi hw x.writes [] 0 rfl rfl
    rw [spec_WriterOf_l0_eq]
    simp only [lenOf_sl, List.length_map, Option.bind_some, bin_lss, hlt, decide_true, asBool_bool, if_true, h1, ih, List.find?_cons]
    have e2 : (decide (x.stamp = m.created) && x.writes.any fun w => decide (w.key = m.key)) = wrote m x := rfl
    rw [e2]
    cases wrote m x <;> simp [idOr]
theorem spec_WriterOf_is (h : G_spec_WriterOf E) (l : List Entry) (hl : l.length ≤ 1048576) (ho : ∀ x ∈ l, x.ok) (m : ReadMark) : E 244 [.sl 4 (l.map Entry.u), m.u] = some (.int .i64 (writerOf l m)) := by
  rw [spec_WriterOf_E h]
  simp [spec_WriterOf_l0_is l hl ho m l [] 0 rfl rfl, writerOf]
theorem impl_isEntry_is (h : G_impl_isEntry E) (x : Entry) (ho : x.ok) : E 250 [x.u] = some (.bool x.good) := by
  rw [impl_isEntry_E h]
  have r1 := impl_areReads_is h.c_impl_areReads x.reads ho.1
  have r2 := impl_areWrites_is h.c_impl_areWrites x.writes ho.2
  cases c1 : inR x.id 1 9
  · simp [impl_isID_is h.c_impl_isID, c1, Entry.good]
  cases c2 : inR x.stamp 1 999
  · simp [impl_isID_is h.c_impl_isID, impl_IsStamp_is h.c_impl_IsStamp, c1, c2, Entry.good]
  cases c3 : areReads x.reads <;> simp [impl_isID_is h.c_impl_isID, impl_IsStamp_is h.c_impl_IsStamp, c1, c2, c3, r1, r2, Entry.good]
theorem spec_l18Tx_is (h : G_spec_l18Tx E) (x : Entry) : E 245 [x.u] = some x.tx.u := by
  rw [spec_l18Tx_E h]
  simp [Entry.tx, Transaction.u, storable, U.size]
def ordB (q : Option Entry) (x : Entry) : Bool := match q with
  | none => true
  | some q => !decide (x.stamp < q.stamp) && !(decide (x.stamp = q.stamp) && decide (0 < x.writes.length))
def histA : List Entry → List Entry → Bool
  | _, [] => true
  | p, x :: r => x.good && !(p.any (hasId x.id)) && ordB p.getLast? x && histA (p ++ [x]) r
def readB (l : List Entry) (x : Entry) (m : ReadMark) : Bool := !decide (writerOf l m = x.id) && !(decide (0 < m.created) && decide (writerOf l m = 0))
def histB (l r : List Entry) : Bool := r.all fun x => x.reads.all (readB l x)
def isHistory (l : List Entry) : Bool := histA [] l && histB l l && decide (l.length ≤ 9)
theorem idxF_first {α : Type} (P : α → Bool) (x : α) (hx : P x = true) (r : List α) : ∀ (p : List α) (i : Int), (idxF P (p ++ x :: r) i = i + p.length) = (p.any P = false)
  | [], i => by simp [idxF, hx]
  | y :: p, i => by
    cases hy : P y with
    | true =>
      simp [idxF, hy]
      omega
    | false =>
      have := idxF_first P x hx r p (i + 1)
      simp only [List.cons_append, idxF, hy, Bool.false_eq_true, if_false, List.any_cons, Bool.false_or, ← this, List.length_cons]
      simp only [eq_iff_iff]
      omega
theorem find_first (l p : List Entry) (x : Entry) (r : List Entry) (e : l = p ++ x :: r) : decide (findE l x.id = p.length) = !(p.any (hasId x.id)) := by
  have h := idxF_first (hasId x.id) x (by simp [hasId]) r p 0
  unfold findE
  rw [e]
  have h2 : decide (idxF (hasId x.id) (p ++ x :: r) 0 = p.length) = decide (p.any (hasId x.id) = false) := by
    rw [decide_eq_decide, ← eq_iff_iff, ← h]
    simp
  rw [h2]
  cases p.any (hasId x.id) <;> rfl
theorem getLast_at {α : Type} (f : α → U) {l p : List α} {r : List α} (e : l = p ++ r) {i : Int} (hi : i = p.length) (h1 : 0 < i) : ∃ q, p.getLast? = some q ∧ ∀ {γ : Type} (k : Nat) (K : U → Option γ), U.elemAt k (.sl k (l.map f)) (i - 1) K = K (f q) := by
  have hne : p ≠ [] := by rintro rfl; simp at hi; omega
  refine ⟨p.getLast hne, List.getLast?_eq_some_getLast hne, fun k K => elemAt_get f (by omega) ?_ K⟩
  have h2 : (i - 1).toNat = p.length - 1 := by omega
  rw [h2, e, List.getElem?_append_left (by have := List.length_pos_iff.2 hne; omega), ← List.getLast?_eq_getElem?, List.getLast?_eq_some_getLast hne]
theorem impl_IsHistory_l1_is (h : G_impl_IsHistory E) (l : List Entry) (hl : l.length ≤ 1048576) (ho : ∀ x ∈ l, x.ok) (x : Entry) (hox : x.ok) (i : Int) (hw : IntKind.i64.wrap (i + 1) = i + 1) : ∀ (r p : List ReadMark) (j : Int), x.reads = p ++ r → j = p.length →
    impl_IsHistory_l1 E (.sl 4 (l.map Entry.u)) (.sl 4 (l.map Entry.u)) (.int .i64 l.length) (.int .i64 i) (.sl 2 (x.reads.map ReadMark.u)) (.int .i64 x.reads.length) (.int .i64 j) x.u =
      if r.all (readB l x) then impl_IsHistory_l0 E (.sl 4 (l.map Entry.u)) (.sl 4 (l.map Entry.u)) (.int .i64 l.length) (.int .i64 (i + 1)) else some (.bool false)
  | [], p, j, e, hj => by
    rw [impl_IsHistory_l1_eq]
    simp [mid_end e hj, hw]
  | m :: r, p, j, e, hj => by
    obtain ⟨j0, hlt, hy, hwj, hn, _⟩ := mid_at e hj (by have := hox.1; omega)
    have ih := impl_IsHistory_l1_is h l hl ho x hox i hw r (p ++ [m]) (j + 1) (mid_next e) hn
    have hwr := impl_WriterOf_is h.c_impl_WriterOf l hl ho m
    rw [impl_IsHistory_l1_eq]
    by_cases h1 : writerOf l m = x.id
    · simp [hlt, hy, hwj, hwr, h1, readB]
    · by_cases h2 : 0 < m.created
      · by_cases h3 : writerOf l m = 0
        · have h4 : ¬ (0 = x.id) := by rw [← h3]; exact h1
          simp [hlt, hy, hwj, hwr, h2, h3, h4, readB]
        · simp [hlt, hy, hwj, hwr, h1, h2, h3, readB, ih]
      · simp [hlt, hy, hwj, hwr, h1, h2, readB, ih]
theorem impl_IsHistory_l0_is (h : G_impl_IsHistory E) (l : List Entry) (hl : l.length ≤ 1048576) (ho : ∀ x ∈ l, x.ok) : ∀ (r p : List Entry) (i : Int), l = p ++ r → i = p.length →
    impl_IsHistory_l0 E (.sl 4 (l.map Entry.u)) (.sl 4 (l.map Entry.u)) (.int .i64 l.length) (.int .i64 i) = some (.bool (histB l r))
  | [], p, i, e, hi => by
    rw [impl_IsHistory_l0_eq]
    simp [mid_end e hi, histB]
  | x :: r, p, i, e, hi => by
    obtain ⟨h0, hlt, hx, hw, hn, _⟩ := mid_at e hi (by omega)
    have ih := impl_IsHistory_l0_is h l hl ho r (p ++ [x]) (i + 1) (mid_next e) hn
    have h1 := impl_IsHistory_l1_is h l hl ho x (ho x (by rw [e]; simp)) i hw x.reads [] 0 rfl rfl
    rw [impl_IsHistory_l0_eq]
    simp only [bin_lss, hlt, decide_true, Option.bind_some, asBool_bool, if_true, asInt_int, hx, Entry.u_var, Entry.u_storable, Entry.u_size, and_self, Entry.u_agg, sizes_cons, sizes_nil, List.take_succ_cons, List.take_zero, size_int, Nat.reduceAdd, List.getElem?_cons_succ, List.getElem?_cons_zero, asVar_sl, lenOf_sl, List.length_map, h1, ih, histB, List.all_cons]
    simp only [histB] at ih
    cases x.reads.all (readB l x) <;> simp [ih]
theorem impl_IsHistory_l2_is (h : G_impl_IsHistory E) (l : List Entry) (hl : l.length ≤ 1048576) (ho : ∀ x ∈ l, x.ok) : ∀ (r p : List Entry) (i : Int), l = p ++ r → i = p.length →
    impl_IsHistory_l2 E (.sl 4 (l.map Entry.u)) (.sl 4 (l.map Entry.u)) (.int .i64 l.length) (.int .i64 i) = some (.bool (histA p r && histB l l))
  | [], p, i, e, hi => by
    have h0 := impl_IsHistory_l0_is h l hl ho l [] 0 rfl rfl
    rw [impl_IsHistory_l2_eq]
    simp [mid_end e hi, histA, h0]
  | x :: r, p, i, e, hi => by
    obtain ⟨h0, hlt, hx, hw, hn, _⟩ := mid_at e hi (by omega)
    have ih := impl_IsHistory_l2_is h l hl ho r (p ++ [x]) (i + 1) (mid_next e) hn
    have hox : x.ok := ho x (by rw [e]; simp)
    have he := impl_isEntry_is h.c_impl_isEntry x hox
    have hf := impl_FindEntry_is h.c_impl_FindEntry l hl x.id
    have hff := find_first l p x r e
    rw [← hi] at hff
    have hw1 : IntKind.i64.wrap (i - 1) = i - 1 := wrap_in (by omega)
    rw [impl_IsHistory_l2_eq]
    cases g : x.good
    · simp [hlt, hx, he, g, histA]
    cases a : p.any (hasId x.id)
    rotate_left
    · have a2 : ¬ findE l x.id = i := by rw [a] at hff; simpa using hff
      simp [hlt, hx, he, g, hf, a, a2, histA]
    have a2 : findE l x.id = i := by rw [a] at hff; simpa using hff
    by_cases hz : 0 < i
    · obtain ⟨q, hq, hqe⟩ := getLast_at Entry.u e hi hz
      by_cases c1 : x.stamp < q.stamp
      · simp [hlt, hx, he, g, hf, a, a2, hz, hw1, hqe, c1, histA, hq, ordB]
      · by_cases c2 : x.stamp = q.stamp
        · by_cases c3 : 0 < x.writes.length
          · simp [hlt, hx, he, g, hf, a, a2, hz, hw1, hqe, c1, c2, c3, histA, hq, ordB]
          · simp [hlt, hx, he, g, hf, a, a2, hz, hw1, hqe, c1, c2, c3, histA, hq, ordB, hw, ih]
        · simp [hlt, hx, he, g, hf, a, a2, hz, hw1, hqe, c1, c2, histA, hq, ordB, hw, ih]
    · have hp : p = [] := by
        have : p.length = 0 := by omega
        exact List.length_eq_zero_iff.1 this
      have hq : p.getLast? = none := by rw [hp]; rfl
      simp [hlt, hx, he, g, hf, a, a2, hz, histA, hq, ordB, hw, ih]
theorem impl_IsHistory_is (h : G_impl_IsHistory E) (l : List Entry) (hl : l.length ≤ 1048576) (ho : ∀ x ∈ l, x.ok) : E 247 [.sl 4 (l.map Entry.u)] = some (.bool (isHistory l)) := by
  rw [impl_IsHistory_E h]
  by_cases h9 : l.length ≤ 9
  · have h1 : ¬ (9 : Int) < l.length := by omega
    simp [h1, h9, impl_IsHistory_l2_is h l hl ho l [] 0 rfl rfl, isHistory]
  · have h1 : (9 : Int) < l.length := by omega
    simp [h1, h9, isHistory]
theorem spec_IsHistory_l1_is (h : G_spec_IsHistory E) (l : List Entry) (hl : l.length ≤ 1048576) (ho : ∀ x ∈ l, x.ok) (x : Entry) (hox : x.ok) (i : Int) (h0 : 0 ≤ i) (hi : l[i.toNat]? = some x) (hw : IntKind.i64.wrap (i + 1) = i + 1) : ∀ (r p : List ReadMark) (j : Int), x.reads = p ++ r → j = p.length →
    spec_IsHistory_l1 E (.sl 4 (l.map Entry.u)) (.int .i64 i) (.int .i64 j) =
      if r.all (readB l x) then spec_IsHistory_l0 E (.sl 4 (l.map Entry.u)) (.int .i64 (i + 1)) else some (.bool false)
  | [], p, j, e, hj => by
    have hx : ∀ {γ : Type} (K : U → Option γ), U.elemAt 4 (.sl 4 (l.map Entry.u)) i K = K x.u := fun K => elemAt_get Entry.u h0 hi K
    rw [spec_IsHistory_l1_eq]
    simp [hx, mid_end e hj, hw]
  | m :: r, p, j, e, hj => by
    have hx : ∀ {γ : Type} (K : U → Option γ), U.elemAt 4 (.sl 4 (l.map Entry.u)) i K = K x.u := fun K => elemAt_get Entry.u h0 hi K
    obtain ⟨j0, hlt, hy, hwj, hn, _⟩ := mid_at e hj (by have := hox.1; omega)
    have ih := spec_IsHistory_l1_is h l hl ho x hox i h0 hi hw r (p ++ [m]) (j + 1) (mid_next e) hn
    have hwr := spec_WriterOf_is h.c_spec_WriterOf l hl ho m
    rw [spec_IsHistory_l1_eq]
    by_cases h1 : writerOf l m = x.id
    · simp [hx, hlt, hy, hwj, hwr, h1, readB]
    · by_cases h2 : 0 < m.created
      · by_cases h3 : writerOf l m = 0
        · have h4 : ¬ (0 = x.id) := by rw [← h3]; exact h1
          simp [hx, hlt, hy, hwj, hwr, h2, h3, h4, readB]
        · simp [hx, hlt, hy, hwj, hwr, h1, h2, h3, readB, ih]
      · simp [hx, hlt, hy, hwj, hwr, h1, h2, readB, ih]
theorem spec_IsHistory_l0_is (h : G_spec_IsHistory E) (l : List Entry) (hl : l.length ≤ 1048576) (ho : ∀ x ∈ l, x.ok) : ∀ (r p : List Entry) (i : Int), l = p ++ r → i = p.length →
    spec_IsHistory_l0 E (.sl 4 (l.map Entry.u)) (.int .i64 i) = some (.bool (histB l r && decide (l.length ≤ 9)))
  | [], p, i, e, hi => by
    rw [spec_IsHistory_l0_eq]
    have e9 : decide ((l.length : Int) ≤ 9) = decide (l.length ≤ 9) := by rw [decide_eq_decide]; omega
    simp [mid_end e hi, histB, e9]
  | x :: r, p, i, e, hi => by
    obtain ⟨h0, hlt, hx, hw, hn, hxi⟩ := mid_at e hi (by omega)
    have ih := spec_IsHistory_l0_is h l hl ho r (p ++ [x]) (i + 1) (mid_next e) hn
    have h1 := spec_IsHistory_l1_is h l hl ho x (ho x (by rw [e]; simp)) i h0 hxi hw x.reads [] 0 rfl rfl
    rw [spec_IsHistory_l0_eq]
    simp only [lenOf_sl, List.length_map, Option.bind_some, bin_lss, hlt, decide_true, asBool_bool, if_true, h1, ih, histB, List.all_cons]
    simp only [histB] at ih
    cases x.reads.all (readB l x) <;> simp [ih]
theorem spec_IsHistory_l2_is (h : G_spec_IsHistory E) (l : List Entry) (hl : l.length ≤ 1048576) (ho : ∀ x ∈ l, x.ok) : ∀ (r p : List Entry) (i : Int), l = p ++ r → i = p.length →
    spec_IsHistory_l2 E (.sl 4 (l.map Entry.u)) (.int .i64 i) = some (.bool (histA p r && (histB l l && decide (l.length ≤ 9))))
  | [], p, i, e, hi => by
    have h0 := spec_IsHistory_l0_is h l hl ho l [] 0 rfl rfl
    rw [spec_IsHistory_l2_eq]
    simp [mid_end e hi, histA, h0]
  | x :: r, p, i, e, hi => by
    obtain ⟨h0, hlt, hx, hw, hn, _⟩ := mid_at e hi (by omega)
    have ih := spec_IsHistory_l2_is h l hl ho r (p ++ [x]) (i + 1) (mid_next e) hn
    have hox : x.ok := ho x (by rw [e]; simp)
    have he := spec_IsValidTransaction_is h.c_spec_IsValidTransaction x.tx hox
    rw [Entry.tx_valid] at he
    have ht := spec_l18Tx_is h.c_spec_l18Tx x
    have hpl : p.length ≤ 1048576 := by rw [e] at hl; simp at hl; omega
    have hf := spec_FindEntry_is h.c_spec_FindEntry p hpl x.id
    have hcut : U.cut false 4 (.sl 4 (l.map Entry.u)) none (some i) = some (.sl 4 (p.map Entry.u)) := by
      have h2 : i.toNat = p.length := by omega
      have h3 : i ≤ ((l.map Entry.u).length : Int) := by
        rw [e, hi]
        simp
        omega
      simp only [U.cut, Option.getD_none, Option.getD_some, Int.le_refl, h0, h3, and_self, if_true, h2, Int.toNat_zero, List.drop_zero]
      rw [e, List.map_append, List.take_left' (by simp)]
    have hff : decide (0 ≤ findE p x.id) = p.any (hasId x.id) := by
      have := idxF_any (hasId x.id) p (i := 0) (by omega)
      unfold findE
      exact this
    have hw1 : IntKind.i64.wrap (i - 1) = i - 1 := wrap_in (by omega)
    rw [spec_IsHistory_l2_eq]
    cases g : x.good
    · simp [hlt, hx, he, ht, g, histA]
    cases a : p.any (hasId x.id)
    rotate_left
    · have a2 : 0 ≤ findE p x.id := by rw [a] at hff; simpa using hff
      simp [hlt, hx, he, ht, g, hf, hcut, a, a2, histA]
    have a2 : ¬ 0 ≤ findE p x.id := by rw [a] at hff; simpa using hff
    by_cases hz : 0 < i
    · obtain ⟨q, hq, hqe⟩ := getLast_at Entry.u e hi hz
      by_cases c1 : x.stamp < q.stamp
      · simp [hlt, hx, he, ht, g, hf, hcut, a, a2, hz, hw1, hqe, c1, histA, hq, ordB]
      · by_cases c2 : x.stamp = q.stamp
        · by_cases c3 : 0 < x.writes.length
          · simp [hlt, hx, he, ht, g, hf, hcut, a, a2, hz, hw1, hqe, c1, c2, c3, histA, hq, ordB]
          · simp [hlt, hx, he, ht, g, hf, hcut, a, a2, hz, hw1, hqe, c1, c2, c3, histA, hq, ordB, hw, ih]
        · have c2' : ¬ q.stamp = x.stamp := fun h => c2 h.symm
          simp [hlt, hx, he, ht, g, hf, hcut, a, a2, hz, hw1, hqe, c1, c2, c2', histA, hq, ordB, hw, ih]
    · have hp : p = [] := by
        have : p.length = 0 := by omega
        exact List.length_eq_zero_iff.1 this
      have hq : p.getLast? = none := by rw [hp]; rfl
      simp [hlt, hx, he, ht, g, hf, hcut, a, a2, hz, histA, hq, ordB, hw, ih]
theorem spec_IsHistory_is (h : G_spec_IsHistory E) (l : List Entry) (hl : l.length ≤ 1048576) (ho : ∀ x ∈ l, x.ok) : E 243 [.sl 4 (l.map Entry.u)] = some (.bool (isHistory l)) := by
  rw [spec_IsHistory_E h, spec_IsHistory_l2_is h l hl ho l [] 0 rfl rfl]
  simp [isHistory, Bool.and_assoc]
end Go.Proofs.Ytfdcdbkblkehcaa.Am
namespace Go.Proofs.Ytfdcdbkblkehcaa.Am
open Go
theorem flats_map {α : Type} (f : α → U) (h : ∀ x, (f x).flat = true) : ∀ l : List α, U.flat.flats (l.map f) = true
  | [] => rfl
  | x :: l => by
    simp only [List.map_cons, U.flat.flats, h x, flats_map f h l, Bool.and_self]
@[simp] theorem flats_edges (l : List Edge) : U.flat.flats (l.map Edge.u) = true := flats_map _ (fun _ => rfl) l
@[simp] theorem flats_ints (l : List Int) : U.flat.flats (l.map intU) = true := flats_map _ (fun _ => rfl) l
end Go.Proofs.Ytfdcdbkblkehcaa.Am
namespace Go.Proofs.Ytfdcdbkblkehcaa.Am
open Go
variable {E : Env}
theorem mul64_16 (h : G_math_bits_Mul64 E) : E 393 [.int .u64 1, .int .u64 6] = some (.tup [.int .u64 0, .int .u64 6]) := by
  rw [math_bits_Mul64_E h]
  kernel_rfl
theorem mul_16 (h : G_math_bits_Mul E) : E 392 [.int .u64 1, .int .u64 6] = some (.tup [.int .u64 0, .int .u64 6]) := by
  rw [math_bits_Mul_E h, mul64_16 h.c_math_bits_Mul64]
  kernel_rfl
theorem repeat_l1 (v : Int) : slices_Repeat_g257_F_l0 E (.int .i64 1) [.int .i64 v, .int .i64 0, .int .i64 0, .int .i64 0, .int .i64 0, .int .i64 0] =
    slices_Repeat_g257_F_l0 E (.int .i64 2) [.int .i64 v, .int .i64 v, .int .i64 0, .int .i64 0, .int .i64 0, .int .i64 0] := by
  rw [slices_Repeat_g257_F_l0_eq]
  kernel_rfl
theorem repeat_l2 (v : Int) : slices_Repeat_g257_F_l0 E (.int .i64 2) [.int .i64 v, .int .i64 v, .int .i64 0, .int .i64 0, .int .i64 0, .int .i64 0] =
    slices_Repeat_g257_F_l0 E (.int .i64 4) [.int .i64 v, .int .i64 v, .int .i64 v, .int .i64 v, .int .i64 0, .int .i64 0] := by
  rw [slices_Repeat_g257_F_l0_eq]
  kernel_rfl
theorem repeat_l4 (v : Int) : slices_Repeat_g257_F_l0 E (.int .i64 4) [.int .i64 v, .int .i64 v, .int .i64 v, .int .i64 v, .int .i64 0, .int .i64 0] =
    slices_Repeat_g257_F_l0 E (.int .i64 6) [.int .i64 v, .int .i64 v, .int .i64 v, .int .i64 v, .int .i64 v, .int .i64 v] := by
  rw [slices_Repeat_g257_F_l0_eq]
  kernel_rfl
theorem repeat_l6 (v : Int) : slices_Repeat_g257_F_l0 E (.int .i64 6) [.int .i64 v, .int .i64 v, .int .i64 v, .int .i64 v, .int .i64 v, .int .i64 v] =
    some (.sl 1 [.int .i64 v, .int .i64 v, .int .i64 v, .int .i64 v, .int .i64 v, .int .i64 v]) := by
  rw [slices_Repeat_g257_F_l0_eq]
  kernel_rfl
theorem repeat6 (h : G_slices_Repeat_g257_F E) : E 100257 [.sl 1 [.int .i64 (-1)], .int .i64 6] = some (.sl 1 [.int .i64 (-1), .int .i64 (-1), .int .i64 (-1), .int .i64 (-1), .int .i64 (-1), .int .i64 (-1)]) := by
  rw [slices_Repeat_g257_F_E h]
  have hm := mul_16 h.c_math_bits_Mul
  have hc1 : U.conv .u64 (.int .i64 ((1 : Nat) : Int)) = some (.int .u64 1) := rfl
  have hc2 : U.conv .u64 (.int .i64 6) = some (.int .u64 6) := rfl
  have hb : U.bin .gtr (.int .u64 0) (.int .u64 0) = some (.bool false) := rfl
  have hb2 : U.bin .gtr (.int .u64 6) (.int .u64 9223372036854775807) = some (.bool false) := rfl
  have hc3 : U.conv .i64 (.int .u64 6) = some (.int .i64 6) := rfl
  have hlen : U.lenOf false (.sl 1 [.int .i64 (-1)]) = some 1 := rfl
  have hlss : U.bin .lss (.int .i64 6) (.int .i64 0) = some (.bool false) := rfl
  have hp0 : ∀ K : U → Option U, U.part 0 (.tup [.int .u64 0, .int .u64 6]) K = K (.int .u64 0) := fun _ => rfl
  have hp1 : ∀ K : U → Option U, U.part 1 (.tup [.int .u64 0, .int .u64 6]) K = K (.int .u64 6) := fun _ => rfl
  simp only [hlss, hlen, Option.bind_some, asBool_bool, Bool.false_eq_true, if_false, hc1, hc2, hm, hp0, hp1, hb, hb2, hc3, asInt_int]
  have key := ((repeat_l1 (E := E) (-1)).trans (repeat_l2 (-1))).trans ((repeat_l4 (-1)).trans (repeat_l6 (-1)))
  refine Eq.trans ?_ key
  kernel_rfl
end Go.Proofs.Ytfdcdbkblkehcaa.Am
namespace Go.Proofs.Ytfdcdbkblkehcaa.Am
open Go
variable {E : Env}
set_option linter.unusedVariables false
def put1 (c : List Int) (w : Write) : List Int := c.set w.key.toNat w.value
def putX (c : List Int) (x : Entry) : List Int := x.writes.foldl put1 c
def KeyW (ws : List Write) : Prop := ∀ w ∈ ws, 0 ≤ w.key ∧ w.key ≤ 5
theorem put1_len (c : List Int) (w : Write) : (put1 c w).length = c.length := by simp [put1]
theorem putW_len : ∀ (ws : List Write) (c : List Int), (ws.foldl put1 c).length = c.length
  | [], c => rfl
  | w :: ws, c => by rw [List.foldl_cons, putW_len ws, put1_len]
theorem putX_len (c : List Int) (x : Entry) : (putX c x).length = c.length := putW_len _ _
theorem writesFrom_keys : ∀ {l : List Write} {p : Option Write}, writesFrom p l = true → KeyW l
  | [], _, _ => fun m hm => by simp at hm
  | x :: r, p, h => by
    simp only [writesFrom, writes1, inR, Bool.and_eq_true, decide_eq_true_eq] at h
    intro m hm
    rcases List.mem_cons.1 hm with rfl | hm
    · exact h.1.1.1
    · exact writesFrom_keys h.2 m hm
theorem histA_good : ∀ {r p : List Entry}, histA p r = true → ∀ x ∈ r, x.good = true
  | [], _, _ => fun x hx => by simp at hx
  | y :: r, p, h => by
    simp only [histA, Bool.and_eq_true] at h
    intro x hx
    rcases List.mem_cons.1 hx with rfl | hx
    · exact h.1.1.1
    · exact histA_good h.2 x hx
theorem isHistory_good {l : List Entry} (h : isHistory l = true) : (∀ x ∈ l, x.good = true) ∧ l.length ≤ 9 := by
  simp only [isHistory, Bool.and_eq_true, decide_eq_true_eq] at h
  exact ⟨histA_good h.1.1, h.2⟩
theorem good_keys {x : Entry} (h : x.good = true) : KeyW x.writes := by
  simp only [Entry.good, areWrites, Bool.and_eq_true] at h
  exact writesFrom_keys h.2.2.2
theorem ints_set (c : List Int) (k : Nat) (v : Int) : (c.map intU).set k (intU v) = (c.set k v).map intU := (List.map_set ..).symm
end Go.Proofs.Ytfdcdbkblkehcaa.Am
namespace Go.Proofs.Ytfdcdbkblkehcaa.Am
open Go
variable {E : Env}
set_option linter.unusedVariables false
theorem slices_ContainsFunc_g255_is (h : G_slices_ContainsFunc_g255 E) (l : List Entry) (hl : l.length ≤ 9223372036854775807) (q : Nat) (caps : List U) (P : Entry → Bool) (hp : ∀ x ∈ l, E q (Entry.u x :: caps) = some (.bool (P x))) (hq : q < 100000 := by decide) :
    E 255 [.sl 4 (l.map Entry.u), .fn q caps] = some (.bool (l.any P)) := by
  rw [slices_ContainsFunc_g255_E h]
  simp [slices_IndexFunc_g253_is h.c_slices_IndexFunc_g253 l hl q caps P hp hq, idxF_any]
end Go.Proofs.Ytfdcdbkblkehcaa.Am
namespace Go.Proofs.Ytfdcdbkblkehcaa.Am
open Go
variable {E : Env}
set_option linter.unusedVariables false
theorem slices_IndexFunc_g163_l0_is (l : List ReadMark) (hl : l.length ≤ 9223372036854775807) (q : Nat) (caps : List U) (P : ReadMark → Bool) (hp : ∀ x ∈ l, E q (ReadMark.u x :: caps) = some (.bool (P x))) (hq : q < 100000) : ∀ (r p : List ReadMark) (i : Int), l = p ++ r → i = p.length →
    slices_IndexFunc_g163_l0 E (.sl 2 (l.map ReadMark.u)) (.fn q caps) (.int .i64 l.length) (.int .i64 i) = some (.int .i64 (idxF P r i))
  | [], p, i, e, hi => by
    rw [slices_IndexFunc_g163_l0_eq]
    simp [mid_end e hi, idxF]
  | x :: r, p, i, e, hi => by
    obtain ⟨h0, hlt, hx, hw, hn, _⟩ := mid_at e hi hl
    have hpx := hp x (by rw [e]; simp)
    have ih := slices_IndexFunc_g163_l0_is l hl q caps P hp hq r (p ++ [x]) (i + 1) (mid_next e) hn
    rw [slices_IndexFunc_g163_l0_eq]
    cases h1 : P x <;> simp [hlt, hx, hw, ih, hpx, hq, h1, idxF]
theorem slices_IndexFunc_g163_is (h : G_slices_IndexFunc_g163 E) (l : List ReadMark) (hl : l.length ≤ 9223372036854775807) (q : Nat) (caps : List U) (P : ReadMark → Bool) (hp : ∀ x ∈ l, E q (ReadMark.u x :: caps) = some (.bool (P x))) (hq : q < 100000 := by decide) :
    E 163 [.sl 2 (l.map ReadMark.u), .fn q caps] = some (.int .i64 (idxF P l 0)) := by
  rw [slices_IndexFunc_g163_E h]
  simp [slices_IndexFunc_g163_l0_is l hl q caps P hp hq l [] 0 rfl rfl]
end Go.Proofs.Ytfdcdbkblkehcaa.Am
namespace Go.Proofs.Ytfdcdbkblkehcaa.Am
open Go
variable {E : Env}
set_option linter.unusedVariables false
theorem slices_ContainsFunc_g162_is (h : G_slices_ContainsFunc_g162 E) (l : List ReadMark) (hl : l.length ≤ 9223372036854775807) (q : Nat) (caps : List U) (P : ReadMark → Bool) (hp : ∀ x ∈ l, E q (ReadMark.u x :: caps) = some (.bool (P x))) (hq : q < 100000 := by decide) :
    E 162 [.sl 2 (l.map ReadMark.u), .fn q caps] = some (.bool (l.any P)) := by
  rw [slices_ContainsFunc_g162_E h]
  simp [slices_IndexFunc_g163_is h.c_slices_IndexFunc_g163 l hl q caps P hp hq, idxF_any]
end Go.Proofs.Ytfdcdbkblkehcaa.Am
namespace Go.Proofs.Ytfdcdbkblkehcaa.Am
open Go
variable {E : Env}
set_option linter.unusedVariables false
theorem slices_Index_g43_l0_is (l : List Int) (hl : l.length ≤ 9223372036854775807) (v : Int) : ∀ (r p : List Int) (i : Int), l = p ++ r → i = p.length →
    slices_Index_g43_l0 E (.sl 1 (l.map intU)) (.int .i64 v) (.int .i64 l.length) (.int .i64 i) = some (.int .i64 (idxF (fun x => decide (x = v)) r i))
  | [], p, i, e, hi => by
    rw [slices_Index_g43_l0_eq]
    simp [mid_end e hi, idxF]
  | x :: r, p, i, e, hi => by
    obtain ⟨h0, hlt, hx, hw, hn, _⟩ := mid_at e hi hl
    have ih := slices_Index_g43_l0_is l hl v r (p ++ [x]) (i + 1) (mid_next e) hn
    rw [slices_Index_g43_l0_eq]
    by_cases h1 : x = v
    · simp [hlt, hx, hw, ih, h1, idxF]
    · have h2 : v ≠ x := fun e => h1 e.symm
      simp [hlt, hx, hw, ih, h1, h2, idxF]
theorem slices_Index_g43_is (h : G_slices_Index_g43 E) (l : List Int) (hl : l.length ≤ 9223372036854775807) (v : Int) :
    E 43 [.sl 1 (l.map intU), .int .i64 v] = some (.int .i64 (idxF (fun x => decide (x = v)) l 0)) := by
  rw [slices_Index_g43_E h]
  simp [slices_Index_g43_l0_is l hl v l [] 0 rfl rfl]
end Go.Proofs.Ytfdcdbkblkehcaa.Am
namespace Go.Proofs.Ytfdcdbkblkehcaa.Am
open Go
variable {E : Env}
set_option linter.unusedVariables false
theorem slices_Contains_g42_is (h : G_slices_Contains_g42 E) (l : List Int) (hl : l.length ≤ 9223372036854775807) (v : Int) :
    E 42 [.sl 1 (l.map intU), .int .i64 v] = some (.bool (decide (v ∈ l))) := by
  rw [slices_Contains_g42_E h]
  simp [slices_Index_g43_is h.c_slices_Index_g43 l hl v, idxF_mem]
end Go.Proofs.Ytfdcdbkblkehcaa.Am
namespace Go.Proofs.Ytfdcdbkblkehcaa.Am
open Go
variable {E : Env}
set_option linter.unusedVariables false
def lacks (o : List Int) (x : Entry) : Bool := !decide (x.id ∈ o)
def isOrderB (l : List Entry) (o : List Int) : Bool := decide (o.length = l.length) && !(l.any (lacks o))
def goodO (l : List Entry) (o : List Int) : Bool := isHistory l && isOrderB l o
def goodB (l : List Entry) : List Int → List Int → Bool
  | _, [] => true
  | p, c :: r => !decide (findE l c < 0) && (!decide (c ∈ p) && goodB l (p ++ [c]) r)
theorem nodup_perm : ∀ (a b : List Int), a.Nodup → (∀ x ∈ a, x ∈ b) → b.length ≤ a.length → a.Perm b
  | [], b, _, _, hl => by
    have : b = [] := List.length_eq_zero_iff.1 (by simpa using hl)
    rw [this]
  | x :: a, b, hn, hs, hl => by
    obtain ⟨h1, h2⟩ := List.nodup_cons.1 hn
    have hx : x ∈ b := hs x (by simp)
    have hp := List.perm_cons_erase hx
    have ih := nodup_perm a (b.erase x) h2 (fun y hy => (List.mem_erase_of_ne (fun e => h1 (by rw [← e]; exact hy))).2 (hs y (by simp [hy]))) (by
      rw [List.length_erase_of_mem hx]
      simp only [List.length_cons] at hl
      omega)
    exact (ih.cons x).trans hp.symm
theorem find_mem (l : List Entry) (c : Int) : (¬ findE l c < 0) ↔ c ∈ l.map (·.id) := by
  have h := idxF_any (hasId c) l (i := 0) (by omega)
  have h2 : decide (0 ≤ findE l c) = l.any (hasId c) := h
  constructor
  · intro h3
    have h4 : l.any (hasId c) = true := by rw [← h2]; simpa using h3
    obtain ⟨x, hx, hc⟩ := List.any_eq_true.1 h4
    simp only [hasId, decide_eq_true_eq] at hc
    exact List.mem_map.2 ⟨x, hx, hc⟩
  · intro h3
    obtain ⟨x, hx, hc⟩ := List.mem_map.1 h3
    have h4 : l.any (hasId c) = true := List.any_eq_true.2 ⟨x, hx, by simpa [hasId] using hc⟩
    rw [← h2] at h4
    simpa using h4
theorem find_get {l : List Entry} {c : Int} (h : ¬ findE l c < 0) : 0 ≤ findE l c ∧ ∃ x, l[(findE l c).toNat]? = some x ∧ x ∈ l := by
  rcases idxF_cases (hasId c) l 0 with ⟨h1, _⟩ | ⟨p, x, r, e, h1, _, _⟩
  · have : findE l c = -1 := h1
    omega
  · have h2 : findE l c = p.length := by have : findE l c = 0 + p.length := h1; omega
    refine ⟨by omega, x, ?_, by rw [e]; simp⟩
    have h3 : (findE l c).toNat = p.length := by omega
    rw [h3, e]
    simp
theorem histA_nodup : ∀ (r p : List Entry), histA p r = true → (p.map (·.id)).Nodup → ((p ++ r).map (·.id)).Nodup
  | [], p, _, hn => by simpa using hn
  | x :: r, p, h, hn => by
    simp only [histA, Bool.and_eq_true, Bool.not_eq_true'] at h
    obtain ⟨⟨⟨_, h1⟩, _⟩, h2⟩ := h
    have := histA_nodup r (p ++ [x]) h2 (by
      rw [List.map_append, List.nodup_append]
      refine ⟨hn, by simp, fun a ha b hb => ?_⟩
      simp only [List.map_cons, List.map_nil, List.mem_singleton] at hb
      subst hb
      obtain ⟨y, hy, rfl⟩ := List.mem_map.1 ha
      intro e
      rw [List.any_eq_false] at h1
      exact h1 y hy (by simpa [hasId] using e))
    simpa using this
theorem hist_nodup {l : List Entry} (h : isHistory l = true) : (l.map (·.id)).Nodup := by
  simp only [isHistory, Bool.and_eq_true] at h
  simpa using histA_nodup l [] h.1.1 (by simp)
theorem goodB_iff (l : List Entry) : ∀ (r p : List Int), goodB l p r = true ↔ (∀ c ∈ r, c ∈ l.map (·.id)) ∧ r.Nodup ∧ ∀ c ∈ r, c ∉ p
  | [], p => by simp [goodB]
  | d :: r, p => by
    have ih := goodB_iff l r (p ++ [d])
    simp only [goodB, Bool.and_eq_true, Bool.not_eq_true', decide_eq_false_iff_not, ih, find_mem, List.nodup_cons, List.mem_cons, List.mem_append, List.mem_singleton, List.not_mem_nil, or_false]
    constructor
    · rintro ⟨h1, h2, h3, h4, h5⟩
      refine ⟨?_, ⟨fun hd => (h5 d hd) (.inr rfl), h4⟩, ?_⟩
      · rintro c (rfl | hc)
        · exact h1
        · exact h3 c hc
      · rintro c (rfl | hc)
        · exact h2
        · exact fun hp => h5 c hc (.inl hp)
    · rintro ⟨h1, ⟨h2, h3⟩, h4⟩
      refine ⟨h1 d (.inl rfl), h4 d (.inl rfl), fun c hc => h1 c (.inr hc), h3, fun c hc => ?_⟩
      rintro (hp | rfl)
      · exact h4 c (.inr hc) hp
      · exact h2 hc
theorem goodB_order {l : List Entry} {o : List Int} (hh : isHistory l = true) (hl : o.length = l.length) : goodB l [] o = isOrderB l o := by
  have hn := hist_nodup hh
  rw [Bool.eq_iff_iff, goodB_iff]
  simp only [isOrderB, hl, decide_true, Bool.true_and, Bool.not_eq_true', List.any_eq_false, lacks, decide_eq_true_eq, Bool.not_eq_true, Bool.not_eq_false', Bool.not_eq_false, decide_eq_false_iff_not, Classical.not_not, List.not_mem_nil, not_false_eq_true, implies_true, and_true]
  constructor
  · rintro ⟨h1, h2⟩ x hx
    exact (nodup_perm o (l.map (·.id)) h2 h1 (by simp [hl])).mem_iff.2 (List.mem_map.2 ⟨x, hx, rfl⟩)
  · intro h1
    have hp := nodup_perm (l.map (·.id)) o hn (fun c hc => by
      obtain ⟨x, hx, rfl⟩ := List.mem_map.1 hc
      exact h1 x hx) (by simp [hl])
    exact ⟨fun c hc => hp.mem_iff.2 hc, hp.nodup_iff.1 hn⟩
theorem goodO_find {l : List Entry} {o : List Int} (h : goodO l o = true) : ∀ c ∈ o, 0 ≤ findE l c ∧ ∃ x, l[(findE l c).toNat]? = some x ∧ x ∈ l := by
  simp only [goodO, Bool.and_eq_true] at h
  obtain ⟨h1, h2⟩ := h
  have hl : o.length = l.length := by
    simp only [isOrderB, Bool.and_eq_true, decide_eq_true_eq] at h2
    exact h2.1
  have h3 := goodB_order h1 hl
  rw [h2] at h3
  intro c hc
  exact find_get ((find_mem l c).2 (((goodB_iff l o []).1 h3).1 c hc))
def KeyR (ms : List ReadMark) : Prop := ∀ m ∈ ms, 0 ≤ m.key ∧ m.key ≤ 5
theorem readsFrom_keys : ∀ {l : List ReadMark} {p : Option ReadMark}, readsFrom p l = true → KeyR l
  | [], _, _ => fun m hm => by simp at hm
  | x :: r, p, h => by
    simp only [readsFrom, reads1, inR, Bool.and_eq_true, decide_eq_true_eq] at h
    intro m hm
    rcases List.mem_cons.1 hm with rfl | hm
    · exact h.1.1.1
    · exact readsFrom_keys h.2 m hm
theorem good_keysR {x : Entry} (h : x.good = true) : KeyR x.reads := by
  simp only [Entry.good, areReads, Bool.and_eq_true] at h
  exact readsFrom_keys h.2.2.1.1
def bad1 (c : List Int) (m : ReadMark) : Bool := decide (c.getD m.key.toNat 0 ≠ m.created)
def putC (st : Int) (c : List Int) (w : Write) : List Int := c.set w.key.toNat st
def runO (l : List Entry) : List Int → Int → List Int → List Int → List Int × Int
  | [], _, v, c => (v, -1)
  | d :: r, i, v, c => match l[(findE l d).toNat]? with
    | none => (v, i)
    | some x => if x.reads.any (bad1 c) then (v, i) else runO l r (i + 1) (putX v x) (x.writes.foldl (putC x.stamp) c)
def repU (q : List Int × Int) : U := if q.2 < 0 then .sl 1 (q.1.map intU) else .nsl 1
def run0 (l : List Entry) (o : List Int) : List Int × Int := runO l o 0 [-1, -1, -1, -1, -1, -1] [0, 0, 0, 0, 0, 0]
theorem putC_len (st : Int) (c : List Int) (w : Write) : (putC st c w).length = c.length := by simp [putC]
theorem putCs_len (st : Int) : ∀ (ws : List Write) (c : List Int), (ws.foldl (putC st) c).length = c.length
  | [], c => rfl
  | w :: ws, c => by rw [List.foldl_cons, putCs_len st ws, putC_len]
theorem runO_len (l : List Entry) : ∀ (o : List Int) (i : Int) (v c : List Int), (runO l o i v c).1.length = v.length
  | [], _, _, _ => rfl
  | d :: r, i, v, c => by
    simp only [runO]
    split
    · rfl
    · split
      · rfl
      · rw [runO_len l r, putX_len]
theorem run0_len (l : List Entry) (o : List Int) : (run0 l o).1.length = 6 := runO_len l o _ _ _
theorem int_get {c : List Int} (hc : c.length = 6) {k : Int} (h0 : 0 ≤ k) (h1 : k ≤ 5) : (c.map intU)[k.toNat]? = some (.int .i64 (c.getD k.toNat 0)) := by
  have : k.toNat < c.length := by omega
  simp [this, intU]
theorem impl_isOrder_1_is (h : G_impl_isOrder_1 E) (x : Entry) (o : List Int) (ho : o.length ≤ 1048576) : E 254 [x.u, .vp (.sl 1 (o.map intU))] = some (.bool (lacks o x)) := by
  rw [impl_isOrder_1_E h]
  simp [slices_Contains_g42_is h.c_slices_Contains_g42 o (by omega), lacks]
theorem impl_isOrder_is (h : G_impl_isOrder E) (l : List Entry) (hl : l.length ≤ 1048576) (o : List Int) (ho : o.length ≤ 1048576) : E 248 [.sl 4 (l.map Entry.u), .sl 1 (o.map intU)] = some (.bool (isOrderB l o)) := by
  rw [impl_isOrder_E h]
  have h1 := slices_ContainsFunc_g255_is h.c_slices_ContainsFunc_g255 l (by omega) 254 [.vp (.sl 1 (o.map intU))] (lacks o) (fun x _ => impl_isOrder_1_is h.c_impl_isOrder_1 x o ho)
  by_cases hlen : o.length = l.length
  · simp [hlen, h1, isOrderB]
  · have : ¬ (o.length : Int) = l.length := by omega
    simp [hlen, this, isOrderB]
theorem impl_replayed_1_is (h : G_impl_replayed_1 E) (m : ReadMark) (hm : 0 ≤ m.key ∧ m.key ≤ 5) (c : List Int) (hc : c.length = 6) : E 256 [m.u, .vp (.sl 1 (c.map intU))] = some (.bool (bad1 c m)) := by
  rw [impl_replayed_1_E h]
  have h1 := int_get hc hm.1 hm.2
  simp only [ReadMark.u] at *
  simp [elemAt_sl, hm.1, h1, bad1, U.asVar, D.isAgg, U.size, -List.getElem?_map]
theorem impl_replayed_l1_is (l : List Entry) (o : List Int) (x : Entry) (hox : x.ok) (hk : KeyW x.writes) (i : Int) (hw : IntKind.i64.wrap (i + 1) = i + 1) : ∀ (r p : List Write) (j : Int) (v c : List Int), x.writes = p ++ r → j = p.length → v.length = 6 → c.length = 6 →
    impl_replayed_l1 E (.sl 4 (l.map Entry.u)) (.sl 1 (o.map intU)) (.int .i64 o.length) (.int .i64 i) (.sl 2 (x.writes.map Write.u)) (.int .i64 x.writes.length) (.int .i64 j) (v.map intU) (c.map intU) x.u =
      impl_replayed_l0 E (.sl 4 (l.map Entry.u)) (.sl 1 (o.map intU)) (.int .i64 o.length) (.int .i64 (i + 1)) ((r.foldl put1 v).map intU) ((r.foldl (putC x.stamp) c).map intU)
  | [], p, j, v, c, e, hj, hv, hc => by
    rw [impl_replayed_l1_eq]
    simp [mid_end e hj, hw]
  | w :: r, p, j, v, c, e, hj, hv, hc => by
    obtain ⟨j0, hlt, hy, hwj, hn, _⟩ := mid_at e hj (by have := hox.2; omega)
    have ih := impl_replayed_l1_is l o x hox hk i hw r (p ++ [w]) (j + 1) (put1 v w) (putC x.stamp c w) (mid_next e) hn (by rw [put1_len, hv]) (by rw [putC_len, hc])
    have hkw := hk w (by rw [e]; simp)
    have h2 : w.key < ((v.map intU).length : Int) := by rw [List.length_map, hv]; omega
    have h2' : w.key < ((c.map intU).length : Int) := by rw [List.length_map, hc]; omega
    have h3 := int_get hv hkw.1 hkw.2
    have h3' := int_get hc hkw.1 hkw.2
    have h4 : (v.map intU).set w.key.toNat (.int .i64 w.value) = (put1 v w).map intU := ints_set v _ _
    have h4' : (c.map intU).set w.key.toNat (.int .i64 x.stamp) = (putC x.stamp c w).map intU := ints_set c _ _
    rw [impl_replayed_l1_eq]
    simp only [bin_lss, hlt, decide_true, Option.bind_some, asBool_bool, if_true, asInt_int, hy, Write.u_var, Write.u_storable, Write.u_size, and_self, Write.u_agg, Entry.u_agg, List.take_zero, sizes_nil, List.getElem?_cons_zero, List.getElem?_cons_succ, List.take_succ_cons, sizes_cons, size_int, Nat.add_zero, asVar_int, hkw.1, h2, h2', storable_int, h3, h3', flat_int, h4, h4', bin_add, hwj, List.foldl_cons]
    exact ih
theorem impl_replayed_l0_is (h : G_impl_replayed E) (l : List Entry) (hl : l.length ≤ 1048576) (hok : ∀ x ∈ l, x.ok) (hgd : ∀ x ∈ l, x.good = true) (o : List Int) (ho : o.length ≤ 1048576) (hf : ∀ c ∈ o, 0 ≤ findE l c ∧ ∃ x, l[(findE l c).toNat]? = some x ∧ x ∈ l) :
    ∀ (r p : List Int) (i : Int) (v c : List Int), o = p ++ r → i = p.length → v.length = 6 → c.length = 6 →
    impl_replayed_l0 E (.sl 4 (l.map Entry.u)) (.sl 1 (o.map intU)) (.int .i64 o.length) (.int .i64 i) (v.map intU) (c.map intU) =
      some (.tup [repU (runO l r i v c), .int .i64 (runO l r i v c).2])
  | [], p, i, v, c, e, hi, hv, hc => by
    rw [impl_replayed_l0_eq]
    simp [mid_end e hi, runO, repU]
  | d :: r, p, i, v, c, e, hi, hv, hc => by
    obtain ⟨h0, hlt, hx, hw, hn, _⟩ := mid_at e hi (by omega)
    obtain ⟨f0, x, f1, f2⟩ := hf d (by rw [e]; simp)
    have hxe : ∀ {γ : Type} (K : U → Option γ), U.elemAt 4 (.sl 4 (l.map Entry.u)) (findE l d) K = K x.u := fun K => elemAt_get Entry.u f0 f1 K
    have hgx := hgd x f2
    have hkr := good_keysR hgx
    have hca := slices_ContainsFunc_g162_is h.c_slices_ContainsFunc_g162 x.reads (by have := (hok x f2).1; omega) 256 [.vp (.sl 1 (c.map intU))] (bad1 c) (fun m hm => impl_replayed_1_is h.c_impl_replayed_1 m (hkr m hm) c hc)
    have h1 := impl_replayed_l1_is (E := E) l o x (hok x f2) (good_keys hgx) i hw x.writes [] 0 v c rfl rfl hv hc
    have ih := impl_replayed_l0_is h l hl hok hgd o ho hf r (p ++ [d]) (i + 1) (putX v x) (x.writes.foldl (putC x.stamp) c) (mid_next e) hn (by rw [putX_len, hv]) (by rw [putCs_len, hc])
    have hfe := impl_FindEntry_is h.c_impl_FindEntry l hl d
    rw [impl_replayed_l0_eq]
    simp only [runO, f1]
    cases hb : x.reads.any (bad1 c) with
    | true =>
      have hni : ¬ i < 0 := by omega
      simp [hlt, hx, intU, hfe, hxe, hca, hb, hni, repU]
    | false =>
      simp only [putX] at ih
      simp [hlt, hx, intU, hfe, hxe, hca, hb, h1, ih, putX]
theorem impl_replayed_is (h : G_impl_replayed E) (l : List Entry) (hl : l.length ≤ 1048576) (hok : ∀ x ∈ l, x.ok) (o : List Int) (ho : o.length ≤ 1048576) (hg : goodO l o = true) : E 246 [.sl 4 (l.map Entry.u), .sl 1 (o.map intU)] =
    some (.tup [repU (run0 l o), .int .i64 (run0 l o).2]) := by
  rw [impl_replayed_E h]
  have hh : isHistory l = true := by simp only [goodO, Bool.and_eq_true] at hg; exact hg.1
  have h1 := impl_replayed_l0_is h l hl hok (isHistory_good hh).1 o ho (goodO_find hg) o [] 0 [-1, -1, -1, -1, -1, -1] [0, 0, 0, 0, 0, 0] rfl rfl rfl rfl
  simp only [List.map_cons, List.map_nil, intU] at h1
  simp [repeat6 h.c_slices_Repeat_g257_F, U.asSlK, h1, run0, List.replicate]
theorem spec_l21Has_l0_is (l : List Int) (hl : l.length ≤ 1048576) (c : Int) : ∀ (r p : List Int) (i : Int), l = p ++ r → i = p.length →
    spec_l21Has_l0 E (.sl 1 (l.map intU)) (.int .i64 c) (.int .i64 i) = some (.bool (decide (c ∈ r)))
  | [], p, i, e, hi => by
    rw [spec_l21Has_l0_eq]
    simp [mid_end e hi]
  | x :: r, p, i, e, hi => by
    obtain ⟨h0, hlt, hx, hw, hn, _⟩ := mid_at e hi (by omega)
    have ih := spec_l21Has_l0_is l hl c r (p ++ [x]) (i + 1) (mid_next e) hn
    rw [spec_l21Has_l0_eq]
    by_cases h1 : x = c
    · simp [hlt, hx, hw, ih, h1, intU]
    · have h2 : ¬ c = x := fun e => h1 e.symm
      simp [hlt, hx, hw, ih, h1, h2, intU]
theorem spec_l21Has_is (h : G_spec_l21Has E) (l : List Int) (hl : l.length ≤ 1048576) (c : Int) : E 242 [.sl 1 (l.map intU), .int .i64 c] = some (.bool (decide (c ∈ l))) := by
  rw [spec_l21Has_E h]
  exact spec_l21Has_l0_is l hl c l [] 0 rfl rfl
theorem cut_take {l p r : List Int} (e : l = p ++ r) {i : Int} (hi : i = p.length) : U.cut false 1 (.sl 1 (l.map intU)) none (some i) = some (.sl 1 (p.map intU)) := by
  subst e; subst hi
  simp [U.cut]
  omega
theorem spec_l22Good_l0_is (h : G_spec_l22Good E) (l : List Entry) (hl : l.length ≤ 1048576) (o : List Int) (ho : o.length ≤ 1048576) : ∀ (r p : List Int) (i : Int), o = p ++ r → i = p.length →
    spec_l22Good_l0 E (.sl 4 (l.map Entry.u)) (.sl 1 (o.map intU)) (.int .i64 i) = some (.bool (goodB l p r))
  | [], p, i, e, hi => by
    rw [spec_l22Good_l0_eq]
    simp [mid_end e hi, goodB]
  | d :: r, p, i, e, hi => by
    obtain ⟨h0, hlt, hx, hw, hn, _⟩ := mid_at e hi (by omega)
    have ih := spec_l22Good_l0_is h l hl o ho r (p ++ [d]) (i + 1) (mid_next e) hn
    have hfe := spec_FindEntry_is h.c_spec_FindEntry l hl d
    have hc := cut_take e hi
    have hp : p.length ≤ 1048576 := by have : o.length = p.length + (d :: r).length := by rw [e, List.length_append]
                                       omega
    have hh := spec_l21Has_is h.c_spec_l21Has p hp d
    rw [spec_l22Good_l0_eq]
    simp only [goodB]
    by_cases h1 : findE l d < 0
    · simp [hlt, hx, intU, hfe, h1]
    · by_cases h2 : d ∈ p
      · simp [hlt, hx, intU, hfe, h1, hc, hh, h2]
      · simp [hlt, hx, intU, hfe, h1, hc, hh, h2, hw, ih]
theorem spec_l22Good_is (h : G_spec_l22Good E) (l : List Entry) (hl : l.length ≤ 1048576) (hok : ∀ x ∈ l, x.ok) (o : List Int) (ho : o.length ≤ 1048576) : E 240 [.sl 4 (l.map Entry.u), .sl 1 (o.map intU)] = some (.bool (goodO l o)) := by
  rw [spec_l22Good_E h]
  have h1 := spec_l22Good_l0_is h l hl o ho o [] 0 rfl rfl
  have h2 := spec_IsHistory_is h.c_spec_IsHistory l hl hok
  cases hh : isHistory l with
  | false => simp [h2, hh, goodO]
  | true =>
    by_cases hlen : o.length = l.length
    · rw [goodB_order hh hlen] at h1
      simp [h2, hh, hlen, h1, goodO]
    · have : ¬ (o.length : Int) = l.length := by omega
      simp [h2, hh, hlen, this, goodO, isOrderB]
theorem spec_l22Run_l1_is (l : List Entry) (o : List Int) (x : Entry) (hox : x.ok) (hk : KeyW x.writes) (i : Int) (hw : IntKind.i64.wrap (i + 1) = i + 1) : ∀ (r p : List Write) (j : Int) (v c : List Int), x.writes = p ++ r → j = p.length → v.length = 6 → c.length = 6 →
    spec_l22Run_l1 E (.sl 4 (l.map Entry.u)) (.sl 1 (o.map intU)) (.int .i64 i) (.int .i64 j) (c.map intU) (v.map intU) x.u =
      spec_l22Run_l0 E (.sl 4 (l.map Entry.u)) (.sl 1 (o.map intU)) (.int .i64 (i + 1)) ((r.foldl (putC x.stamp) c).map intU) ((r.foldl put1 v).map intU)
  | [], p, j, v, c, e, hj, hv, hc => by
    rw [spec_l22Run_l1_eq]
    simp [mid_end e hj, hw]
  | w :: r, p, j, v, c, e, hj, hv, hc => by
    obtain ⟨j0, hlt, hy, hwj, hn, _⟩ := mid_at e hj (by have := hox.2; omega)
    have ih := spec_l22Run_l1_is l o x hox hk i hw r (p ++ [w]) (j + 1) (put1 v w) (putC x.stamp c w) (mid_next e) hn (by rw [put1_len, hv]) (by rw [putC_len, hc])
    have hkw := hk w (by rw [e]; simp)
    have h2 : w.key < ((v.map intU).length : Int) := by rw [List.length_map, hv]; omega
    have h2' : w.key < ((c.map intU).length : Int) := by rw [List.length_map, hc]; omega
    have h3 := int_get hv hkw.1 hkw.2
    have h3' := int_get hc hkw.1 hkw.2
    have h4 : (v.map intU).set w.key.toNat (.int .i64 w.value) = (put1 v w).map intU := ints_set v _ _
    have h4' : (c.map intU).set w.key.toNat (.int .i64 x.stamp) = (putC x.stamp c w).map intU := ints_set c _ _
    rw [spec_l22Run_l1_eq]
    simp only [bin_lss, hlt, decide_true, Option.bind_some, asBool_bool, if_true, asInt_int, hy, Write.u_var, Write.u_storable, Write.u_size, and_self, Write.u_at0, Write.u_at1, Entry.u_agg, List.take_zero, sizes_nil, List.getElem?_cons_zero, List.getElem?_cons_succ, List.take_succ_cons, sizes_cons, size_int, U.size, Nat.reduceAdd, Nat.add_zero, asVar_int, asVar_sl, lenOf_sl, hkw.1, h2, h2', storable_int, h3, h3', flat_int, h4, h4', bin_add, hwj, List.foldl_cons, List.length_map]
    simp only [List.length_map] at h2 h2'
    simp only [h2, h2', and_self, if_true]
    exact ih
theorem spec_l22Run_l2_is (l : List Entry) (o : List Int) (x : Entry) (hox : x.ok) (hk : KeyR x.reads) (i : Int) (v c : List Int) (hc : c.length = 6) : ∀ (r p : List ReadMark) (j : Int), x.reads = p ++ r → j = p.length →
    spec_l22Run_l2 E (.sl 4 (l.map Entry.u)) (.sl 1 (o.map intU)) (.int .i64 i) (.int .i64 j) (c.map intU) (v.map intU) x.u =
      if r.any (bad1 c) then some (.tup [.sl 1 (v.map intU), .int .i64 i]) else spec_l22Run_l1 E (.sl 4 (l.map Entry.u)) (.sl 1 (o.map intU)) (.int .i64 i) (.int .i64 0) (c.map intU) (v.map intU) x.u
  | [], p, j, e, hj => by
    rw [spec_l22Run_l2_eq]
    simp [mid_end e hj]
  | m :: r, p, j, e, hj => by
    obtain ⟨j0, hlt, hy, hwj, hn, _⟩ := mid_at e hj (by have := hox.1; omega)
    have ih := spec_l22Run_l2_is l o x hox hk i v c hc r (p ++ [m]) (j + 1) (mid_next e) hn
    have hkm := hk m (by rw [e]; simp)
    have h2 : m.key < ((c.map intU).length : Int) := by rw [List.length_map, hc]; omega
    have h3 := int_get hc hkm.1 hkm.2
    rw [spec_l22Run_l2_eq]
    simp only [List.length_map] at h2
    simp only [bin_lss, hlt, decide_true, Option.bind_some, asBool_bool, if_true, asInt_int, hy, Entry.u_agg, List.take_zero, sizes_nil, List.getElem?_cons_zero, List.getElem?_cons_succ, List.take_succ_cons, sizes_cons, size_int, U.size, Nat.reduceAdd, Nat.add_zero, asVar_int, asVar_sl, lenOf_sl, List.length_map, ReadMark.u_at0, ReadMark.u_at1, hkm.1, h2, and_self, h3, bin_neq, bin_add, hwj, List.any_cons]
    by_cases hb : c.getD m.key.toNat 0 = m.created
    · have hb1 : bad1 c m = false := by simp only [bad1, hb, ne_eq, not_true_eq_false, decide_false]
      simp only [ne_eq, hb, not_true_eq_false, decide_false, Bool.false_eq_true, if_false, hb1, Bool.false_or, ih]
    · have hb1 : bad1 c m = true := by simp only [bad1, decide_eq_true_eq]; exact hb
      simp only [ne_eq, hb, not_false_eq_true, decide_true, if_true, hb1, Bool.true_or]
      rfl
theorem spec_l22Run_l0_is (h : G_spec_l22Run E) (l : List Entry) (hl : l.length ≤ 1048576) (hok : ∀ x ∈ l, x.ok) (hgd : ∀ x ∈ l, x.good = true) (o : List Int) (ho : o.length ≤ 1048576) (hf : ∀ c ∈ o, 0 ≤ findE l c ∧ ∃ x, l[(findE l c).toNat]? = some x ∧ x ∈ l) :
    ∀ (r p : List Int) (i : Int) (v c : List Int), o = p ++ r → i = p.length → v.length = 6 → c.length = 6 →
    spec_l22Run_l0 E (.sl 4 (l.map Entry.u)) (.sl 1 (o.map intU)) (.int .i64 i) (c.map intU) (v.map intU) = some (.tup [.sl 1 ((runO l r i v c).1.map intU), .int .i64 (runO l r i v c).2])
  | [], p, i, v, c, e, hi, hv, hc => by
    rw [spec_l22Run_l0_eq]
    simp [mid_end e hi, runO]
  | d :: r, p, i, v, c, e, hi, hv, hc => by
    obtain ⟨h0, hlt, hx, hw, hn, _⟩ := mid_at e hi (by omega)
    obtain ⟨f0, x, f1, f2⟩ := hf d (by rw [e]; simp)
    have hxe : ∀ {γ : Type} (K : U → Option γ), U.elemAt 4 (.sl 4 (l.map Entry.u)) (findE l d) K = K x.u := fun K => elemAt_get Entry.u f0 f1 K
    have hgx := hgd x f2
    have h1 := spec_l22Run_l1_is (E := E) l o x (hok x f2) (good_keys hgx) i hw x.writes [] 0 v c rfl rfl hv hc
    have h2 := spec_l22Run_l2_is (E := E) l o x (hok x f2) (good_keysR hgx) i v c hc x.reads [] 0 rfl rfl
    have ih := spec_l22Run_l0_is h l hl hok hgd o ho hf r (p ++ [d]) (i + 1) (putX v x) (x.writes.foldl (putC x.stamp) c) (mid_next e) hn (by rw [putX_len, hv]) (by rw [putCs_len, hc])
    have hfe := spec_FindEntry_is h.c_spec_FindEntry l hl d
    rw [spec_l22Run_l0_eq]
    simp only [runO, f1]
    simp only [lenOf_sl, List.length_map, Option.bind_some, bin_lss, hlt, decide_true, asBool_bool, if_true, asInt_int, hx, intU, asVar_int, hfe, hxe, Entry.u_var, Entry.u_storable, Entry.u_size, and_self, h2]
    rw [show ([] : List Int) = [] from rfl] at *
    cases hb : x.reads.any (bad1 c) with
    | true => simp
    | false =>
      simp only [Bool.false_eq_true, if_false]
      exact h1.trans ih
theorem spec_l22Run_l3_is (l : List Entry) (o : List Int) (c : List U) : ∀ (n : Nat) (k : Int) (v : List Int), k + n = 6 → 0 ≤ k → v.length = k.toNat →
    spec_l22Run_l3 E (.sl 4 (l.map Entry.u)) (.sl 1 (o.map intU)) (.int .i64 k) c (v.map intU) = spec_l22Run_l0 E (.sl 4 (l.map Entry.u)) (.sl 1 (o.map intU)) (.int .i64 0) c ((v ++ List.replicate n (-1)).map intU)
  | 0, k, v, h1, h2, h3 => by
    have : ¬ k < 6 := by omega
    rw [spec_l22Run_l3_eq]
    simp [this]
  | n + 1, k, v, h1, h2, h3 => by
    have hlt : k < 6 := by omega
    have hw : IntKind.i64.wrap (k + 1) = k + 1 := by rw [wrap_in (by omega)]
    have ih := spec_l22Run_l3_is l o c n (k + 1) (v ++ [-1]) (by omega) (by omega) (by simp; omega)
    have hlen : ((v.map intU).length + ([(.int .i64 (-1))] : List U).length) * 8 ≤ 140737488355328 := by simp; omega
    have e1 : v.map intU ++ [.int .i64 (-1)] = (v ++ [-1]).map intU := by simp [intU]
    have e2 : v ++ [-1] ++ List.replicate n (-1) = v ++ List.replicate (n + 1) (-1) := by simp [List.replicate_succ]
    rw [spec_l22Run_l3_eq]
    simp only [bin_lss, Option.bind_some, hlt, decide_true, asBool_bool, if_true, true_and, hlen, bin_add, hw, e1]
    rw [ih, e2]
theorem spec_l22Run_is (h : G_spec_l22Run E) (l : List Entry) (hl : l.length ≤ 1048576) (hok : ∀ x ∈ l, x.ok) (o : List Int) (ho : o.length ≤ 1048576) (hg : goodO l o = true) : E 239 [.sl 4 (l.map Entry.u), .sl 1 (o.map intU)] =
    some (.tup [.sl 1 ((run0 l o).1.map intU), .int .i64 (run0 l o).2]) := by
  rw [spec_l22Run_E h]
  have hh : isHistory l = true := by simp only [goodO, Bool.and_eq_true] at hg; exact hg.1
  have h1 := spec_l22Run_l0_is h l hl hok (isHistory_good hh).1 o ho (goodO_find hg) o [] 0 [-1, -1, -1, -1, -1, -1] [0, 0, 0, 0, 0, 0] rfl rfl rfl rfl
  have h2 := spec_l22Run_l3_is (E := E) l o ([0, 0, 0, 0, 0, 0].map intU) 6 0 [] (by omega) (by omega) rfl
  rw [if_pos ⟨by omega, by omega, by omega, rfl⟩]
  exact h2.trans h1
end Go.Proofs.Ytfdcdbkblkehcaa.Am
namespace Go.Proofs.Ytfdcdbkblkehcaa.Am
open Go
variable {E : Env}
set_option linter.unusedVariables false
def repF (q : List Int × Int) : U := .sl 1 ((if q.2 < 0 then q.1 else []).map intU)
theorem impl_replayed_F_l1_is (l : List Entry) (o : List Int) (x : Entry) (hox : x.ok) (hk : KeyW x.writes) (i : Int) (hw : IntKind.i64.wrap (i + 1) = i + 1) : ∀ (r p : List Write) (j : Int) (v c : List Int), x.writes = p ++ r → j = p.length → v.length = 6 → c.length = 6 →
    impl_replayed_F_l1 E (.sl 4 (l.map Entry.u)) (.sl 1 (o.map intU)) (.int .i64 o.length) (.int .i64 i) (.sl 2 (x.writes.map Write.u)) (.int .i64 x.writes.length) (.int .i64 j) (v.map intU) (c.map intU) x.u =
      impl_replayed_F_l0 E (.sl 4 (l.map Entry.u)) (.sl 1 (o.map intU)) (.int .i64 o.length) (.int .i64 (i + 1)) ((r.foldl put1 v).map intU) ((r.foldl (putC x.stamp) c).map intU)
  | [], p, j, v, c, e, hj, hv, hc => by
    rw [impl_replayed_F_l1_eq]
    simp [mid_end e hj, hw]
  | w :: r, p, j, v, c, e, hj, hv, hc => by
    obtain ⟨j0, hlt, hy, hwj, hn, _⟩ := mid_at e hj (by have := hox.2; omega)
    have ih := impl_replayed_F_l1_is l o x hox hk i hw r (p ++ [w]) (j + 1) (put1 v w) (putC x.stamp c w) (mid_next e) hn (by rw [put1_len, hv]) (by rw [putC_len, hc])
    have hkw := hk w (by rw [e]; simp)
    have h2 : w.key < ((v.map intU).length : Int) := by rw [List.length_map, hv]; omega
    have h2' : w.key < ((c.map intU).length : Int) := by rw [List.length_map, hc]; omega
    have h3 := int_get hv hkw.1 hkw.2
    have h3' := int_get hc hkw.1 hkw.2
    have h4 : (v.map intU).set w.key.toNat (.int .i64 w.value) = (put1 v w).map intU := ints_set v _ _
    have h4' : (c.map intU).set w.key.toNat (.int .i64 x.stamp) = (putC x.stamp c w).map intU := ints_set c _ _
    rw [impl_replayed_F_l1_eq]
    simp only [bin_lss, hlt, decide_true, Option.bind_some, asBool_bool, if_true, asInt_int, hy, Write.u_var, Write.u_storable, Write.u_size, and_self, Write.u_agg, Entry.u_agg, List.take_zero, sizes_nil, List.getElem?_cons_zero, List.getElem?_cons_succ, List.take_succ_cons, sizes_cons, size_int, Nat.add_zero, asVar_int, hkw.1, h2, h2', storable_int, h3, h3', flat_int, h4, h4', bin_add, hwj, List.foldl_cons]
    exact ih
theorem impl_replayed_F_l0_is (h : G_impl_replayed_F E) (l : List Entry) (hl : l.length ≤ 1048576) (hok : ∀ x ∈ l, x.ok) (hgd : ∀ x ∈ l, x.good = true) (o : List Int) (ho : o.length ≤ 1048576) (hf : ∀ c ∈ o, 0 ≤ findE l c ∧ ∃ x, l[(findE l c).toNat]? = some x ∧ x ∈ l) :
    ∀ (r p : List Int) (i : Int) (v c : List Int), o = p ++ r → i = p.length → v.length = 6 → c.length = 6 →
    impl_replayed_F_l0 E (.sl 4 (l.map Entry.u)) (.sl 1 (o.map intU)) (.int .i64 o.length) (.int .i64 i) (v.map intU) (c.map intU) =
      some (.tup [repF (runO l r i v c), .int .i64 (runO l r i v c).2])
  | [], p, i, v, c, e, hi, hv, hc => by
    rw [impl_replayed_F_l0_eq]
    simp [mid_end e hi, runO, repF]
  | d :: r, p, i, v, c, e, hi, hv, hc => by
    obtain ⟨h0, hlt, hx, hw, hn, _⟩ := mid_at e hi (by omega)
    obtain ⟨f0, x, f1, f2⟩ := hf d (by rw [e]; simp)
    have hxe : ∀ {γ : Type} (K : U → Option γ), U.elemAt 4 (.sl 4 (l.map Entry.u)) (findE l d) K = K x.u := fun K => elemAt_get Entry.u f0 f1 K
    have hgx := hgd x f2
    have hkr := good_keysR hgx
    have hca := slices_ContainsFunc_g162_is h.c_slices_ContainsFunc_g162 x.reads (by have := (hok x f2).1; omega) 256 [.vp (.sl 1 (c.map intU))] (bad1 c) (fun m hm => impl_replayed_1_is h.c_impl_replayed_1 m (hkr m hm) c hc)
    have h1 := impl_replayed_F_l1_is (E := E) l o x (hok x f2) (good_keys hgx) i hw x.writes [] 0 v c rfl rfl hv hc
    have ih := impl_replayed_F_l0_is h l hl hok hgd o ho hf r (p ++ [d]) (i + 1) (putX v x) (x.writes.foldl (putC x.stamp) c) (mid_next e) hn (by rw [putX_len, hv]) (by rw [putCs_len, hc])
    have hfe := impl_FindEntry_is h.c_impl_FindEntry l hl d
    rw [impl_replayed_F_l0_eq]
    simp only [runO, f1]
    cases hb : x.reads.any (bad1 c) with
    | true =>
      have hni : ¬ i < 0 := by omega
      simp [hlt, hx, intU, hfe, hxe, hca, hb, hni, repF]
    | false =>
      simp only [putX] at ih
      simp [hlt, hx, intU, hfe, hxe, hca, hb, h1, ih, putX]
theorem impl_replayed_F_is (h : G_impl_replayed_F E) (l : List Entry) (hl : l.length ≤ 1048576) (hok : ∀ x ∈ l, x.ok) (o : List Int) (ho : o.length ≤ 1048576) (hg : goodO l o = true) : E 100246 [.sl 4 (l.map Entry.u), .sl 1 (o.map intU)] =
    some (.tup [repF (run0 l o), .int .i64 (run0 l o).2]) := by
  rw [impl_replayed_F_E h]
  have hh : isHistory l = true := by simp only [goodO, Bool.and_eq_true] at hg; exact hg.1
  have h1 := impl_replayed_F_l0_is h l hl hok (isHistory_good hh).1 o ho (goodO_find hg) o [] 0 [-1, -1, -1, -1, -1, -1] [0, 0, 0, 0, 0, 0] rfl rfl rfl rfl
  simp only [List.map_cons, List.map_nil, intU] at h1
  simp [repeat6 h.c_slices_Repeat_g257_F, U.asSlK, h1, run0, List.replicate]
def replayOk (l : List Entry) (o : List Int) : Bool := goodO l o && decide ((run0 l o).2 < 0)
def replayV (l : List Entry) (o : List Int) : List Int := if replayOk l o then (run0 l o).1 else []
theorem replayV_len (l : List Entry) (o : List Int) : (replayV l o).length ≤ 6 := by
  unfold replayV
  split
  · rw [run0_len]; omega
  · simp
theorem impl_ReplaySerial_is (h : G_impl_ReplaySerial E) (l : List Entry) (hl : l.length ≤ 1048576) (hok : ∀ x ∈ l, x.ok) (o : List Int) (ho : o.length ≤ 1048576) : E 283 [.sl 4 (l.map Entry.u), .sl 1 (o.map intU)] = some (.tup [if replayOk l o then .sl 1 ((replayV l o).map intU) else .nsl 1, .bool (replayOk l o)]) := by
  rw [impl_ReplaySerial_E h]
  have h1 := impl_IsHistory_is h.c_impl_IsHistory l hl hok
  have h2 := impl_isOrder_is h.c_impl_isOrder l hl o ho
  have h3 := impl_replayed_is h.c_impl_replayed l hl hok o ho
  cases a : isHistory l with
  | false => simp [h1, a, replayOk, goodO]
  | true =>
    cases b : isOrderB l o with
    | false => simp [h1, h2, a, b, replayOk, goodO]
    | true =>
      have g : goodO l o = true := by simp [goodO, a, b]
      by_cases c : (run0 l o).2 < 0
      · simp [h1, h2, h3 g, a, b, replayOk, replayV, g, c, repU]
      · simp [h1, h2, h3 g, a, b, replayOk, replayV, g, c, repU]
theorem impl_ReplaySerial_F_is (h : G_impl_ReplaySerial_F E) (l : List Entry) (hl : l.length ≤ 1048576) (hok : ∀ x ∈ l, x.ok) (o : List Int) (ho : o.length ≤ 1048576) : E 100283 [.sl 4 (l.map Entry.u), .sl 1 (o.map intU)] = some (.tup [.sl 1 ((replayV l o).map intU), .bool (replayOk l o)]) := by
  rw [impl_ReplaySerial_F_E h]
  have h1 := impl_IsHistory_is h.c_impl_IsHistory l hl hok
  have h2 := impl_isOrder_is h.c_impl_isOrder l hl o ho
  have h3 := impl_replayed_F_is h.c_impl_replayed_F l hl hok o ho
  cases a : isHistory l with
  | false => simp [h1, a, replayOk, replayV, goodO]
  | true =>
    cases b : isOrderB l o with
    | false => simp [h1, h2, a, b, replayOk, replayV, goodO]
    | true =>
      have g : goodO l o = true := by simp [goodO, a, b]
      by_cases c : (run0 l o).2 < 0 <;> simp [h1, h2, h3 g, a, b, replayOk, replayV, g, c, repF, U.asSlK]
theorem spec_ReplaySerial_is (h : G_spec_ReplaySerial E) (l : List Entry) (hl : l.length ≤ 1048576) (hok : ∀ x ∈ l, x.ok) (o : List Int) (ho : o.length ≤ 1048576) : E 280 [.sl 4 (l.map Entry.u), .sl 1 (o.map intU)] = some (.tup [.sl 1 ((replayV l o).map intU), .bool (replayOk l o)]) := by
  rw [spec_ReplaySerial_E h]
  have h1 := spec_l22Good_is h.c_spec_l22Good l hl hok o ho
  have h3 := spec_l22Run_is h.c_spec_l22Run l hl hok o ho
  cases g : goodO l o with
  | false => simp [h1, g, replayOk, replayV]
  | true =>
    by_cases c : (run0 l o).2 < 0
    · have c2 : ¬ 0 ≤ (run0 l o).2 := by omega
      simp [h1, h3 g, g, replayOk, replayV, c, c2]
    · have c2 : 0 ≤ (run0 l o).2 := by omega
      simp [h1, h3 g, g, replayOk, replayV, c, c2]
end Go.Proofs.Ytfdcdbkblkehcaa.Am
namespace Go.Proofs.Ytfdcdbkblkehcaa.Am
open Go
variable {E : Env}
set_option linter.unusedVariables false
theorem laws_toReadMark_is (h : G_laws_toReadMark E) (x : ReadMark) : E 29 [x.u] = some x.u := by
  rw [laws_toReadMark_E h]
  simp [ReadMark.u]
theorem laws_toReadMarkS_l0_is (h : G_laws_toReadMarkS E) (l : List ReadMark) (hl : l.length ≤ 1048576) : ∀ (r p : List ReadMark) (i : Int) (c : List U), l = p ++ r → i = p.length → c.length = r.length → (∀ z ∈ c, z.size = 2) →
    laws_toReadMarkS_l0 E (.sl 2 (l.map ReadMark.u)) (.int .i64 i) (p.map ReadMark.u ++ c) = some (.sl 2 (l.map ReadMark.u))
  | [], p, i, c, e, hi, hc, _ => by
    obtain rfl : c = [] := List.length_eq_zero_iff.1 hc
    rw [laws_toReadMarkS_l0_eq]
    simp [mid_end e hi]
    simp [e]
  | x :: r, p, i, [], e, hi, hc, _ => by cases hc
  | x :: r, p, i, z :: c, e, hi, hc, hz => by
    obtain ⟨h0, hlt, hx, hw, hn, _⟩ := mid_at e hi (by omega)
    have hzs : z.size = 2 := hz z (by simp)
    obtain ⟨hg, hs, hlen⟩ := mid_set ReadMark.u p z c hi
    have ih := laws_toReadMarkS_l0_is h l hl r (p ++ [x]) (i + 1) c (mid_next e) hn (by simpa using hc) (fun y hy => hz y (by simp [hy]))
    simp only [List.map_append, List.map_cons, List.map_nil, List.append_assoc, List.cons_append, List.nil_append] at ih
    rw [laws_toReadMarkS_l0_eq]
    simp only [hg, hs, hx, hw, asInt_int, bin_lss, lenOf_sl, List.length_map, Option.bind_some, asBool_bool, hlt, decide_true, if_true, h0, hlen, and_self, bin_add, laws_toReadMark_is h.c_laws_toReadMark x, hzs, ReadMark.u_var, ReadMark.u_size, ReadMark.u_storable, ReadMark.u_partable]
    simpa using ih
theorem laws_toReadMarkS_is (h : G_laws_toReadMarkS E) (l : List ReadMark) (hl : l.length ≤ 1048576) : E 28 [.sl 2 (l.map ReadMark.u)] = some (.sl 2 (l.map ReadMark.u)) := by
  have h1 := laws_toReadMarkS_l0_is h l hl l [] 0 (List.replicate l.length (.agg [.int .i64 0, .int .i64 0])) rfl rfl (by simp) (by simp)
  rw [laws_toReadMarkS_E h]
  simp only [lenOf_sl, Option.bind_some, List.length_map]
  rw [if_pos (by refine ⟨by omega, by omega, by omega, rfl⟩)]
  simpa using h1
theorem laws_eqReadMark_is (h : G_laws_eqReadMark E) (x y : ReadMark) : E 35 [x.u, y.u] = some (.bool (decide (x = y))) := by
  rw [laws_eqReadMark_E h]
  obtain ⟨a0, a1⟩ := x
  obtain ⟨b0, b1⟩ := y
  simp only [ReadMark.mk.injEq]
  by_cases h0 : a0 = b0
  case neg => simp [h0]
  subst h0
  by_cases h1 : a1 = b1
  case neg => simp [h1]
  subst h1
  simp []
theorem laws_eqReadMarkS_l0_is (h : G_laws_eqReadMarkS E) (a b : List ReadMark) (ha : a.length ≤ 1048576) (hb : b.length ≤ 1048576) : ∀ (r s p p2 : List ReadMark) (i : Int), a = p ++ r → b = p2 ++ s → i = p.length → i = p2.length → r.length = s.length →
    laws_eqReadMarkS_l0 E (.sl 2 (a.map ReadMark.u)) (.sl 2 (b.map ReadMark.u)) (.int .i64 i) = some (.bool (decide (r = s)))
  | [], [], p, p2, i, e, e2, hi, hi2, _ => by
    rw [laws_eqReadMarkS_l0_eq]
    simp [mid_end e hi]
  | [], y :: s, _, _, _, _, _, _, _, hl => by cases hl
  | x :: r, [], _, _, _, _, _, _, _, hl => by cases hl
  | x :: r, y :: s, p, p2, i, e, e2, hi, hi2, hl => by
    obtain ⟨h0, hlt, hx, hw, hn, _⟩ := mid_at e hi (by omega)
    obtain ⟨_, _, hy, _, hn2, _⟩ := mid_at e2 hi2 (by omega)
    have ih := laws_eqReadMarkS_l0_is h a b ha hb r s (p ++ [x]) (p2 ++ [y]) (i + 1) (mid_next e) (mid_next e2) hn hn2 (by simpa using hl)
    rw [laws_eqReadMarkS_l0_eq]
    by_cases hxy : x = y
    · subst hxy
      simp [hlt, hx, hy, hw, ih, laws_eqReadMark_is h.c_laws_eqReadMark]
    · simp [hlt, hx, hy, hw, ih, laws_eqReadMark_is h.c_laws_eqReadMark, hxy]
theorem laws_eqReadMarkS_is (h : G_laws_eqReadMarkS E) (a b : List ReadMark) (ha : a.length ≤ 1048576) (hb : b.length ≤ 1048576) : E 34 [.sl 2 (a.map ReadMark.u), .sl 2 (b.map ReadMark.u)] = some (.bool (decide (a = b))) := by
  rw [laws_eqReadMarkS_E h]
  by_cases hl : a.length = b.length
  · simp [hl, laws_eqReadMarkS_l0_is h a b ha hb a b [] [] 0 rfl rfl rfl rfl hl]
  · have h1 : a ≠ b := fun e => hl (by rw [e])
    have h2 : (a.length : Int) ≠ b.length := by omega
    simp [h1, h2]
theorem laws_szReadMarkS_is (h : G_laws_szReadMarkS E) (l : List ReadMark) (hl : l.length ≤ maxLen) (left : Int) (h0 : 0 ≤ left) (h1 : left ≤ 1048576) : E 24 [.sl 2 (l.map ReadMark.u), .int .i64 left] = some (.int .i64 (szc l.length left)) := by
  rw [laws_szReadMarkS_E h]
  unfold maxLen at hl
  have hw : IntKind.i64.wrap (left - (l.length : Int)) = left - l.length := wrap_in (by omega)
  by_cases h2 : left - (l.length : Int) < 0 <;> simp [hw, szc, h2]
end Go.Proofs.Ytfdcdbkblkehcaa.Am
namespace Go.Proofs.Ytfdcdbkblkehcaa.Am
open Go
variable {E : Env}
set_option linter.unusedVariables false
theorem laws_toWrite_is (h : G_laws_toWrite E) (x : Write) : E 30 [x.u] = some x.u := by
  rw [laws_toWrite_E h]
  simp [Write.u]
theorem laws_toWriteS_l0_is (h : G_laws_toWriteS E) (l : List Write) (hl : l.length ≤ 1048576) : ∀ (r p : List Write) (i : Int) (c : List U), l = p ++ r → i = p.length → c.length = r.length → (∀ z ∈ c, z.size = 2) →
    laws_toWriteS_l0 E (.sl 2 (l.map Write.u)) (.int .i64 i) (p.map Write.u ++ c) = some (.sl 2 (l.map Write.u))
  | [], p, i, c, e, hi, hc, _ => by
    obtain rfl : c = [] := List.length_eq_zero_iff.1 hc
    rw [laws_toWriteS_l0_eq]
    simp [mid_end e hi]
    simp [e]
  | x :: r, p, i, [], e, hi, hc, _ => by cases hc
  | x :: r, p, i, z :: c, e, hi, hc, hz => by
    obtain ⟨h0, hlt, hx, hw, hn, _⟩ := mid_at e hi (by omega)
    have hzs : z.size = 2 := hz z (by simp)
    obtain ⟨hg, hs, hlen⟩ := mid_set Write.u p z c hi
    have ih := laws_toWriteS_l0_is h l hl r (p ++ [x]) (i + 1) c (mid_next e) hn (by simpa using hc) (fun y hy => hz y (by simp [hy]))
    simp only [List.map_append, List.map_cons, List.map_nil, List.append_assoc, List.cons_append, List.nil_append] at ih
    rw [laws_toWriteS_l0_eq]
    simp only [hg, hs, hx, hw, asInt_int, bin_lss, lenOf_sl, List.length_map, Option.bind_some, asBool_bool, hlt, decide_true, if_true, h0, hlen, and_self, bin_add, laws_toWrite_is h.c_laws_toWrite x, hzs, Write.u_var, Write.u_size, Write.u_storable, Write.u_partable]
    simpa using ih
theorem laws_toWriteS_is (h : G_laws_toWriteS E) (l : List Write) (hl : l.length ≤ 1048576) : E 27 [.sl 2 (l.map Write.u)] = some (.sl 2 (l.map Write.u)) := by
  have h1 := laws_toWriteS_l0_is h l hl l [] 0 (List.replicate l.length (.agg [.int .i64 0, .int .i64 0])) rfl rfl (by simp) (by simp)
  rw [laws_toWriteS_E h]
  simp only [lenOf_sl, Option.bind_some, List.length_map]
  rw [if_pos (by refine ⟨by omega, by omega, by omega, rfl⟩)]
  simpa using h1
theorem laws_eqWrite_is (h : G_laws_eqWrite E) (x y : Write) : E 36 [x.u, y.u] = some (.bool (decide (x = y))) := by
  rw [laws_eqWrite_E h]
  obtain ⟨a0, a1⟩ := x
  obtain ⟨b0, b1⟩ := y
  simp only [Write.mk.injEq]
  by_cases h0 : a0 = b0
  case neg => simp [h0]
  subst h0
  by_cases h1 : a1 = b1
  case neg => simp [h1]
  subst h1
  simp []
theorem laws_eqWriteS_l0_is (h : G_laws_eqWriteS E) (a b : List Write) (ha : a.length ≤ 1048576) (hb : b.length ≤ 1048576) : ∀ (r s p p2 : List Write) (i : Int), a = p ++ r → b = p2 ++ s → i = p.length → i = p2.length → r.length = s.length →
    laws_eqWriteS_l0 E (.sl 2 (a.map Write.u)) (.sl 2 (b.map Write.u)) (.int .i64 i) = some (.bool (decide (r = s)))
  | [], [], p, p2, i, e, e2, hi, hi2, _ => by
    rw [laws_eqWriteS_l0_eq]
    simp [mid_end e hi]
  | [], y :: s, _, _, _, _, _, _, _, hl => by cases hl
  | x :: r, [], _, _, _, _, _, _, _, hl => by cases hl
  | x :: r, y :: s, p, p2, i, e, e2, hi, hi2, hl => by
    obtain ⟨h0, hlt, hx, hw, hn, _⟩ := mid_at e hi (by omega)
    obtain ⟨_, _, hy, _, hn2, _⟩ := mid_at e2 hi2 (by omega)
    have ih := laws_eqWriteS_l0_is h a b ha hb r s (p ++ [x]) (p2 ++ [y]) (i + 1) (mid_next e) (mid_next e2) hn hn2 (by simpa using hl)
    rw [laws_eqWriteS_l0_eq]
    by_cases hxy : x = y
    · subst hxy
      simp [hlt, hx, hy, hw, ih, laws_eqWrite_is h.c_laws_eqWrite]
    · simp [hlt, hx, hy, hw, ih, laws_eqWrite_is h.c_laws_eqWrite, hxy]
theorem laws_eqWriteS_is (h : G_laws_eqWriteS E) (a b : List Write) (ha : a.length ≤ 1048576) (hb : b.length ≤ 1048576) : E 33 [.sl 2 (a.map Write.u), .sl 2 (b.map Write.u)] = some (.bool (decide (a = b))) := by
  rw [laws_eqWriteS_E h]
  by_cases hl : a.length = b.length
  · simp [hl, laws_eqWriteS_l0_is h a b ha hb a b [] [] 0 rfl rfl rfl rfl hl]
  · have h1 : a ≠ b := fun e => hl (by rw [e])
    have h2 : (a.length : Int) ≠ b.length := by omega
    simp [h1, h2]
theorem laws_szWriteS_is (h : G_laws_szWriteS E) (l : List Write) (hl : l.length ≤ maxLen) (left : Int) (h0 : 0 ≤ left) (h1 : left ≤ 1048576) : E 23 [.sl 2 (l.map Write.u), .int .i64 left] = some (.int .i64 (szc l.length left)) := by
  rw [laws_szWriteS_E h]
  unfold maxLen at hl
  have hw : IntKind.i64.wrap (left - (l.length : Int)) = left - l.length := wrap_in (by omega)
  by_cases h2 : left - (l.length : Int) < 0 <;> simp [hw, szc, h2]
end Go.Proofs.Ytfdcdbkblkehcaa.Am
namespace Go.Proofs.Ytfdcdbkblkehcaa.Am
open Go
variable {E : Env}
set_option linter.unusedVariables false
def Entry.sz (e : Entry) (left : Int) : Int := let v := szc e.reads.length left; if v < 0 then -1 else szc e.writes.length v
theorem Entry.sz_szs : Szs Entry.sz Entry.ok := fun e left h0 h1 => by
  unfold Entry.sz Entry.ok
  rcases szc_szs e.reads.length left h0 h1 with h | ⟨h2, h3, h4⟩
  · left; simp [h]
  · have h5 : ¬ szc e.reads.length left < 0 := by omega
    rcases szc_szs e.writes.length _ h3 (by omega) with h | ⟨h6, h7, h8⟩
    · left; simp [h5, h]
    · right; simp only [h5, if_false]; exact ⟨⟨h2, h6⟩, h7, by omega⟩
theorem laws_szEntry_is (h : G_laws_szEntry E) (x : Entry) (hf : x.fit) (left : Int) (h0 : 0 ≤ left) (h1 : left ≤ 1048576) : E 50 [x.u, .int .i64 left] = some (.int .i64 (x.sz left)) := by
  rw [laws_szEntry_E h]
  obtain ⟨hf1, hf2⟩ := hf
  have a1 := laws_szReadMarkS_is h.c_laws_szReadMarkS x.reads hf1 left h0 h1
  rcases szc_szs x.reads.length left h0 h1 with h2 | ⟨_, h3, h4⟩
  · simp [a1, Entry.sz, h2]
  · have h5 : ¬ szc x.reads.length left < 0 := by omega
    have a2 := laws_szWriteS_is h.c_laws_szWriteS x.writes hf2 _ h3 (by omega)
    by_cases h6 : szc x.writes.length (szc x.reads.length left) < 0
    · have h7 : szc x.writes.length (szc x.reads.length left) = -1 := szc_neg h6
      simp [a1, a2, Entry.sz, h5, h7]
    · simp [a1, a2, Entry.sz, h5, h6]
theorem laws_toEntry_is (h : G_laws_toEntry E) (x : Entry) (ho : x.ok) : E 51 [x.u] = some x.u := by
  rw [laws_toEntry_E h]
  simp [Entry.u, laws_toReadMarkS_is h.c_laws_toReadMarkS x.reads ho.1, laws_toWriteS_is h.c_laws_toWriteS x.writes ho.2]
theorem laws_eqEntry_is (h : G_laws_eqEntry E) (x y : Entry) (hx : x.ok) (hy : y.ok) : E 56 [x.u, y.u] = some (.bool (decide (x = y))) := by
  rw [laws_eqEntry_E h]
  obtain ⟨a0, a1, a2, a3⟩ := x
  obtain ⟨b0, b1, b2, b3⟩ := y
  simp only [Entry.mk.injEq]
  by_cases h0 : a0 = b0
  case neg => simp [laws_eqReadMarkS_is h.c_laws_eqReadMarkS a2 b2 hx.1 hy.1, laws_eqWriteS_is h.c_laws_eqWriteS a3 b3 hx.2 hy.2, h0]
  subst h0
  by_cases h1 : a1 = b1
  case neg => simp [laws_eqReadMarkS_is h.c_laws_eqReadMarkS a2 b2 hx.1 hy.1, laws_eqWriteS_is h.c_laws_eqWriteS a3 b3 hx.2 hy.2, h1]
  subst h1
  by_cases h2 : a2 = b2
  case neg => simp [laws_eqReadMarkS_is h.c_laws_eqReadMarkS a2 b2 hx.1 hy.1, laws_eqWriteS_is h.c_laws_eqWriteS a3 b3 hx.2 hy.2, h2]
  subst h2
  by_cases h3 : a3 = b3
  case neg => simp [laws_eqReadMarkS_is h.c_laws_eqReadMarkS a2 a2 hx.1 hy.1, laws_eqWriteS_is h.c_laws_eqWriteS a3 b3 hx.2 hy.2, h3]
  subst h3
  simp [laws_eqReadMarkS_is h.c_laws_eqReadMarkS a2 a2 hx.1 hy.1, laws_eqWriteS_is h.c_laws_eqWriteS a3 a3 hx.2 hy.2]
theorem laws_toEntryS_l0_is (h : G_laws_toEntryS E) (l : List Entry) (hl : l.length ≤ 1048576) (hok : ∀ x ∈ l, Entry.ok x) : ∀ (r p : List Entry) (i : Int) (c : List U), l = p ++ r → i = p.length → c.length = r.length → (∀ z ∈ c, z.size = 4) →
    laws_toEntryS_l0 E (.sl 4 (l.map Entry.u)) (.int .i64 i) (p.map Entry.u ++ c) = some (.sl 4 (l.map Entry.u))
  | [], p, i, c, e, hi, hc, _ => by
    obtain rfl : c = [] := List.length_eq_zero_iff.1 hc
    rw [laws_toEntryS_l0_eq]
    simp [mid_end e hi]
    simp [e]
  | x :: r, p, i, [], e, hi, hc, _ => by cases hc
  | x :: r, p, i, z :: c, e, hi, hc, hz => by
    obtain ⟨h0, hlt, hx, hw, hn, _⟩ := mid_at e hi (by omega)
    have hox : Entry.ok x := hok x (by rw [e]; simp)
    have hzs : z.size = 4 := hz z (by simp)
    obtain ⟨hg, hs, hlen⟩ := mid_set Entry.u p z c hi
    have ih := laws_toEntryS_l0_is h l hl hok r (p ++ [x]) (i + 1) c (mid_next e) hn (by simpa using hc) (fun y hy => hz y (by simp [hy]))
    simp only [List.map_append, List.map_cons, List.map_nil, List.append_assoc, List.cons_append, List.nil_append] at ih
    rw [laws_toEntryS_l0_eq]
    simp only [hg, hs, hx, hw, asInt_int, bin_lss, lenOf_sl, List.length_map, Option.bind_some, asBool_bool, hlt, decide_true, if_true, h0, hlen, and_self, bin_add, laws_toEntry_is h.c_laws_toEntry x hox, hzs, Entry.u_var, Entry.u_size, Entry.u_storable, Entry.u_partable]
    simpa using ih
theorem laws_toEntryS_is (h : G_laws_toEntryS E) (l : List Entry) (hl : l.length ≤ 1048576) (hok : ∀ x ∈ l, Entry.ok x) : E 45 [.sl 4 (l.map Entry.u)] = some (.sl 4 (l.map Entry.u)) := by
  have h1 := laws_toEntryS_l0_is h l hl hok l [] 0 (List.replicate l.length (.agg [.int .i64 0, .int .i64 0, .nsl 2, .nsl 2])) rfl rfl (by simp) (by simp)
  rw [laws_toEntryS_E h]
  simp only [lenOf_sl, Option.bind_some, List.length_map]
  rw [if_pos (by refine ⟨by omega, by omega, by omega, rfl⟩)]
  simpa using h1
theorem laws_eqEntryS_l0_is (h : G_laws_eqEntryS E) (a b : List Entry) (ha : a.length ≤ 1048576) (hb : b.length ≤ 1048576) (hao : ∀ x ∈ a, Entry.ok x) (hbo : ∀ x ∈ b, Entry.ok x) : ∀ (r s p p2 : List Entry) (i : Int), a = p ++ r → b = p2 ++ s → i = p.length → i = p2.length → r.length = s.length →
    laws_eqEntryS_l0 E (.sl 4 (a.map Entry.u)) (.sl 4 (b.map Entry.u)) (.int .i64 i) = some (.bool (decide (r = s)))
  | [], [], p, p2, i, e, e2, hi, hi2, _ => by
    rw [laws_eqEntryS_l0_eq]
    simp [mid_end e hi]
  | [], y :: s, _, _, _, _, _, _, _, hl => by cases hl
  | x :: r, [], _, _, _, _, _, _, _, hl => by cases hl
  | x :: r, y :: s, p, p2, i, e, e2, hi, hi2, hl => by
    obtain ⟨h0, hlt, hx, hw, hn, _⟩ := mid_at e hi (by omega)
    obtain ⟨_, _, hy, _, hn2, _⟩ := mid_at e2 hi2 (by omega)
    have hox : Entry.ok x := hao x (by rw [e]; simp)
    have hoy : Entry.ok y := hbo y (by rw [e2]; simp)
    have ih := laws_eqEntryS_l0_is h a b ha hb hao hbo r s (p ++ [x]) (p2 ++ [y]) (i + 1) (mid_next e) (mid_next e2) hn hn2 (by simpa using hl)
    rw [laws_eqEntryS_l0_eq]
    by_cases hxy : x = y
    · subst hxy
      simp [hlt, hx, hy, hw, ih, laws_eqEntry_is h.c_laws_eqEntry _ _ hox hoy]
    · simp [hlt, hx, hy, hw, ih, laws_eqEntry_is h.c_laws_eqEntry _ _ hox hoy, hxy]
theorem laws_eqEntryS_is (h : G_laws_eqEntryS E) (a b : List Entry) (ha : a.length ≤ 1048576) (hb : b.length ≤ 1048576) (hao : ∀ x ∈ a, Entry.ok x) (hbo : ∀ x ∈ b, Entry.ok x) : E 46 [.sl 4 (a.map Entry.u), .sl 4 (b.map Entry.u)] = some (.bool (decide (a = b))) := by
  rw [laws_eqEntryS_E h]
  by_cases hl : a.length = b.length
  · simp [hl, laws_eqEntryS_l0_is h a b ha hb hao hbo a b [] [] 0 rfl rfl rfl rfl hl]
  · have h1 : a ≠ b := fun e => hl (by rw [e])
    have h2 : (a.length : Int) ≠ b.length := by omega
    simp [h1, h2]
theorem laws_szEntryS_l0_is (h : G_laws_szEntryS E) (l : List Entry) (hl : l.length ≤ 1048576) (hf : ∀ x ∈ l, Entry.fit x) : ∀ (r p : List Entry) (i left : Int), l = p ++ r → i = p.length → 0 ≤ left → left ≤ 1048576 →
    laws_szEntryS_l0 E (.sl 4 (l.map Entry.u)) (.int .i64 left) (.int .i64 i) = some (.int .i64 (szl Entry.sz r left))
  | [], p, i, left, e, hi, _, _ => by
    rw [laws_szEntryS_l0_eq]
    simp [mid_end e hi, szl]
  | x :: r, p, i, left, e, hi, h1, h2 => by
    obtain ⟨h0, hlt, hx, hw, hn, _⟩ := mid_at e hi (by omega)
    have hfx : Entry.fit x := hf x (by rw [e]; simp)
    rw [laws_szEntryS_l0_eq]
    rcases Entry.sz_szs x left h1 h2 with h3 | ⟨_, h3, h4⟩
    · simp [hlt, hx, hw, szl, laws_szEntry_is h.c_laws_szEntry x hfx left h1 h2, h3]
    · have ih := laws_szEntryS_l0_is h l hl hf r (p ++ [x]) (i + 1) (Entry.sz x left) (mid_next e) hn h3 (by omega)
      have h5 : ¬ Entry.sz x left < 0 := by omega
      simp [hlt, hx, hw, szl, laws_szEntry_is h.c_laws_szEntry x hfx left h1 h2, h5, ih]
theorem laws_szEntryS_is (h : G_laws_szEntryS E) (l : List Entry) (hl : l.length ≤ maxLen) (hf : ∀ x ∈ l, Entry.fit x) (left : Int) (h0 : 0 ≤ left) (h1 : left ≤ 1048576) : E 49 [.sl 4 (l.map Entry.u), .int .i64 left] = some (.int .i64 (szL Entry.sz l left)) := by
  rw [laws_szEntryS_E h]
  unfold maxLen at hl
  have hw : IntKind.i64.wrap (left - (l.length : Int)) = left - l.length := wrap_in (by omega)
  by_cases h2 : left - (l.length : Int) < 0
  · simp [hw, szL, h2]
  · simp [hw, szL, h2, laws_szEntryS_l0_is h l (by omega) hf l [] 0 (left - l.length) rfl rfl (by omega) (by omega)]
end Go.Proofs.Ytfdcdbkblkehcaa.Am
namespace Go.Proofs.Ytfdcdbkblkehcaa.Am
open Go
variable {E : Env}
set_option linter.unusedVariables false
def upReadMark : Int → Nat → List ReadMark
  | _, 0 => []
  | k, n + 1 => ⟨k, k + 1⟩ :: upReadMark (k + 2) n
theorem flats_ReadMark (l : List ReadMark) : U.flat.flats (l.map ReadMark.u) = true := flats_map _ (fun _ => rfl) l
theorem laws_markReadMarkS_M_l0_is (h : G_laws_markReadMarkS_M E) : ∀ (r p : List ReadMark) (k i : Int), i = p.length → p.length + r.length ≤ 1048576 → 0 ≤ k → k + 2 * r.length ≤ 1099511627776 →
    laws_markReadMarkS_M_l0 E (.int .i64 k) (.int .i64 i) (p.map ReadMark.u ++ r.map ReadMark.u) = some (.tup [.int .i64 (k + 2 * r.length), .sl 2 (p.map ReadMark.u ++ (upReadMark k r.length).map ReadMark.u)])
  | [], p, k, i, hi, hb, hk, hk2 => by
    have h1 : ¬ i < ((p.map ReadMark.u ++ ([] : List ReadMark).map ReadMark.u).length : Int) := by simp [hi]
    rw [laws_markReadMarkS_M_l0_eq]
    simp only [bin_lss, h1, decide_false, Option.bind_some, asBool_bool, Bool.false_eq_true, if_false]
    rw [← List.map_append]
    simp [upReadMark, flats_ReadMark]
  | x :: r, p, k, i, hi, hb, hk, hk2 => by
    simp only [List.length_cons] at hb hk2
    have hm := fun z => mid_set ReadMark.u p z (r.map ReadMark.u) hi
    have hg := fun z => (hm z).1
    have hs := fun z => (hm z).2.1
    have hlen := fun z => (hm z).2.2
    have h0 : 0 ≤ i := by omega
    have hw0 : IntKind.i64.wrap (k + 1) = k + 1 := by rw [wrap_in (by omega)]
    have hw1 : IntKind.i64.wrap (k + 1 + 1) = k + 2 := by rw [wrap_in (by omega)]; omega
    have hwi : IntKind.i64.wrap (i + 1) = i + 1 := wrap_in (by omega)
    have ih := laws_markReadMarkS_M_l0_is h r (p ++ [⟨k, k + 1⟩]) (k + 2) (i + 1) (by simp [hi]) (by simp; omega) (by omega) (by omega)
    simp only [List.map_append, List.map_cons, List.map_nil, List.append_assoc, List.cons_append, List.nil_append] at ih
    rw [laws_markReadMarkS_M_l0_eq]
    simp only [List.map_cons, bin_lss, hlen, decide_true, Option.bind_some, asBool_bool, if_true, asInt_int, h0, and_self, storable_int, size_int, flat_int, hg, hs, ReadMark.u_agg, asAgg_agg, List.take_zero, List.take_succ_cons, sizes_cons, sizes_nil, Nat.add_zero, Nat.zero_add, List.getElem?_cons_zero, List.getElem?_cons_succ, List.set_cons_zero, List.set_cons_succ, bin_add, hw0, hw1, hwi, Nat.reduceAdd]
    have e : k + 2 + 2 * (r.length : Int) = k + 2 * ((r.length + 1 : Nat) : Int) := by omega
    rw [e] at ih
    simpa [upReadMark, ReadMark.u] using ih
theorem laws_markReadMarkS_M_is (h : G_laws_markReadMarkS_M E) (l : List ReadMark) (hl : l.length ≤ 1048576) (k : Int) (hk : 0 ≤ k) (hk2 : k ≤ 1073741824) :
    E 200095 (.agg [.tup [.sl 2 (l.map ReadMark.u)]] :: [.int .i64 k]) = some (.tup [.int .i64 (k + 2 * l.length), .sl 2 ((upReadMark k l.length).map ReadMark.u)]) := by
  rw [laws_markReadMarkS_M_E h]
  exact laws_markReadMarkS_M_l0_is h l [] k 0 rfl (by simpa using hl) hk (by omega)
end Go.Proofs.Ytfdcdbkblkehcaa.Am
namespace Go.Proofs.Ytfdcdbkblkehcaa.Am
open Go
variable {E : Env}
set_option linter.unusedVariables false
def upWrite : Int → Nat → List Write
  | _, 0 => []
  | k, n + 1 => ⟨k, k + 1⟩ :: upWrite (k + 2) n
theorem flats_Write (l : List Write) : U.flat.flats (l.map Write.u) = true := flats_map _ (fun _ => rfl) l
theorem laws_markWriteS_M_l0_is (h : G_laws_markWriteS_M E) : ∀ (r p : List Write) (k i : Int), i = p.length → p.length + r.length ≤ 1048576 → 0 ≤ k → k + 2 * r.length ≤ 1099511627776 →
    laws_markWriteS_M_l0 E (.int .i64 k) (.int .i64 i) (p.map Write.u ++ r.map Write.u) = some (.tup [.int .i64 (k + 2 * r.length), .sl 2 (p.map Write.u ++ (upWrite k r.length).map Write.u)])
  | [], p, k, i, hi, hb, hk, hk2 => by
    have h1 : ¬ i < ((p.map Write.u ++ ([] : List Write).map Write.u).length : Int) := by simp [hi]
    rw [laws_markWriteS_M_l0_eq]
    simp only [bin_lss, h1, decide_false, Option.bind_some, asBool_bool, Bool.false_eq_true, if_false]
    rw [← List.map_append]
    simp [upWrite, flats_Write]
  | x :: r, p, k, i, hi, hb, hk, hk2 => by
    simp only [List.length_cons] at hb hk2
    have hm := fun z => mid_set Write.u p z (r.map Write.u) hi
    have hg := fun z => (hm z).1
    have hs := fun z => (hm z).2.1
    have hlen := fun z => (hm z).2.2
    have h0 : 0 ≤ i := by omega
    have hw0 : IntKind.i64.wrap (k + 1) = k + 1 := by rw [wrap_in (by omega)]
    have hw1 : IntKind.i64.wrap (k + 1 + 1) = k + 2 := by rw [wrap_in (by omega)]; omega
    have hwi : IntKind.i64.wrap (i + 1) = i + 1 := wrap_in (by omega)
    have ih := laws_markWriteS_M_l0_is h r (p ++ [⟨k, k + 1⟩]) (k + 2) (i + 1) (by simp [hi]) (by simp; omega) (by omega) (by omega)
    simp only [List.map_append, List.map_cons, List.map_nil, List.append_assoc, List.cons_append, List.nil_append] at ih
    rw [laws_markWriteS_M_l0_eq]
    simp only [List.map_cons, bin_lss, hlen, decide_true, Option.bind_some, asBool_bool, if_true, asInt_int, h0, and_self, storable_int, size_int, flat_int, hg, hs, Write.u_agg, asAgg_agg, List.take_zero, List.take_succ_cons, sizes_cons, sizes_nil, Nat.add_zero, Nat.zero_add, List.getElem?_cons_zero, List.getElem?_cons_succ, List.set_cons_zero, List.set_cons_succ, bin_add, hw0, hw1, hwi, Nat.reduceAdd]
    have e : k + 2 + 2 * (r.length : Int) = k + 2 * ((r.length + 1 : Nat) : Int) := by omega
    rw [e] at ih
    simpa [upWrite, Write.u] using ih
theorem laws_markWriteS_M_is (h : G_laws_markWriteS_M E) (l : List Write) (hl : l.length ≤ 1048576) (k : Int) (hk : 0 ≤ k) (hk2 : k ≤ 1073741824) :
    E 200232 (.agg [.tup [.sl 2 (l.map Write.u)]] :: [.int .i64 k]) = some (.tup [.int .i64 (k + 2 * l.length), .sl 2 ((upWrite k l.length).map Write.u)]) := by
  rw [laws_markWriteS_M_E h]
  exact laws_markWriteS_M_l0_is h l [] k 0 rfl (by simpa using hl) hk (by omega)
end Go.Proofs.Ytfdcdbkblkehcaa.Am
namespace Go.Proofs.Ytfdcdbkblkehcaa.Am
open Go
variable {E : Env}
set_option linter.unusedVariables false
theorem laws_toReadMarkS_F_l0_is (h : G_laws_toReadMarkS_F E) (l : List ReadMark) (hl : l.length ≤ 1048576) : ∀ (r p : List ReadMark) (i : Int) (c : List U), l = p ++ r → i = p.length → c.length = r.length → (∀ z ∈ c, z.size = 2) →
    laws_toReadMarkS_F_l0 E (.sl 2 (l.map ReadMark.u)) (.int .i64 i) (p.map ReadMark.u ++ c) = some (.sl 2 (l.map ReadMark.u))
  | [], p, i, c, e, hi, hc, _ => by
    obtain rfl : c = [] := List.length_eq_zero_iff.1 hc
    rw [laws_toReadMarkS_F_l0_eq]
    simp [mid_end e hi]
    simp [e, flats_ReadMark, ← List.map_append, ← List.map_cons]
  | x :: r, p, i, [], e, hi, hc, _ => by cases hc
  | x :: r, p, i, z :: c, e, hi, hc, hz => by
    obtain ⟨h0, hlt, hx, hw, hn, _⟩ := mid_at e hi (by omega)
    have hzs : z.size = 2 := hz z (by simp)
    obtain ⟨hg, hs, hlen⟩ := mid_set ReadMark.u p z c hi
    have ih := laws_toReadMarkS_F_l0_is h l hl r (p ++ [x]) (i + 1) c (mid_next e) hn (by simpa using hc) (fun y hy => hz y (by simp [hy]))
    simp only [List.map_append, List.map_cons, List.map_nil, List.append_assoc, List.cons_append, List.nil_append] at ih
    rw [laws_toReadMarkS_F_l0_eq]
    simp only [hg, hs, hx, hw, asInt_int, bin_lss, lenOf_sl, List.length_map, Option.bind_some, asBool_bool, hlt, decide_true, if_true, h0, hlen, and_self, bin_add, laws_toReadMark_is h.c_laws_toReadMark x, hzs, ReadMark.u_var, ReadMark.u_size, ReadMark.u_storable, ReadMark.u_partable]
    simpa using ih
theorem laws_toReadMarkS_F_is (h : G_laws_toReadMarkS_F E) (l : List ReadMark) (hl : l.length ≤ 1048576) : E 100028 [.sl 2 (l.map ReadMark.u)] = some (.sl 2 (l.map ReadMark.u)) := by
  have h1 := laws_toReadMarkS_F_l0_is h l hl l [] 0 (List.replicate l.length (.agg [.int .i64 0, .int .i64 0])) rfl rfl (by simp) (by simp)
  rw [laws_toReadMarkS_F_E h]
  simp only [lenOf_sl, Option.bind_some, List.length_map]
  rw [if_pos (by refine ⟨by omega, by omega, by omega, rfl⟩)]
  simpa using h1
theorem laws_toWriteS_F_l0_is (h : G_laws_toWriteS_F E) (l : List Write) (hl : l.length ≤ 1048576) : ∀ (r p : List Write) (i : Int) (c : List U), l = p ++ r → i = p.length → c.length = r.length → (∀ z ∈ c, z.size = 2) →
    laws_toWriteS_F_l0 E (.sl 2 (l.map Write.u)) (.int .i64 i) (p.map Write.u ++ c) = some (.sl 2 (l.map Write.u))
  | [], p, i, c, e, hi, hc, _ => by
    obtain rfl : c = [] := List.length_eq_zero_iff.1 hc
    rw [laws_toWriteS_F_l0_eq]
    simp [mid_end e hi]
    simp [e, flats_Write, ← List.map_append, ← List.map_cons]
  | x :: r, p, i, [], e, hi, hc, _ => by cases hc
  | x :: r, p, i, z :: c, e, hi, hc, hz => by
    obtain ⟨h0, hlt, hx, hw, hn, _⟩ := mid_at e hi (by omega)
    have hzs : z.size = 2 := hz z (by simp)
    obtain ⟨hg, hs, hlen⟩ := mid_set Write.u p z c hi
    have ih := laws_toWriteS_F_l0_is h l hl r (p ++ [x]) (i + 1) c (mid_next e) hn (by simpa using hc) (fun y hy => hz y (by simp [hy]))
    simp only [List.map_append, List.map_cons, List.map_nil, List.append_assoc, List.cons_append, List.nil_append] at ih
    rw [laws_toWriteS_F_l0_eq]
    simp only [hg, hs, hx, hw, asInt_int, bin_lss, lenOf_sl, List.length_map, Option.bind_some, asBool_bool, hlt, decide_true, if_true, h0, hlen, and_self, bin_add, laws_toWrite_is h.c_laws_toWrite x, hzs, Write.u_var, Write.u_size, Write.u_storable, Write.u_partable]
    simpa using ih
theorem laws_toWriteS_F_is (h : G_laws_toWriteS_F E) (l : List Write) (hl : l.length ≤ 1048576) : E 100027 [.sl 2 (l.map Write.u)] = some (.sl 2 (l.map Write.u)) := by
  have h1 := laws_toWriteS_F_l0_is h l hl l [] 0 (List.replicate l.length (.agg [.int .i64 0, .int .i64 0])) rfl rfl (by simp) (by simp)
  rw [laws_toWriteS_F_E h]
  simp only [lenOf_sl, Option.bind_some, List.length_map]
  rw [if_pos (by refine ⟨by omega, by omega, by omega, rfl⟩)]
  simpa using h1
theorem laws_toEntry_F_is (h : G_laws_toEntry_F E) (x : Entry) (ho : x.ok) : E 100051 [x.u] = some x.u := by
  rw [laws_toEntry_F_E h]
  have h1 := laws_toReadMarkS_F_is h.c_laws_toReadMarkS_F x.reads ho.1
  have h2 := laws_toWriteS_F_is h.c_laws_toWriteS_F x.writes ho.2
  have h3 : ∀ (k : Nat) (us : List U) (K : U → Option U), U.noTup (.sl k us) K = K (.sl k us) := fun _ _ _ => rfl
  have h4 : ∀ (n : Int) (K : U → Option U), U.noTup (.int .i64 n) K = K (.int .i64 n) := fun _ _ => rfl
  simp [h1, h2, U.asSlK, h3, h4, D.size, dsizes, D.size.dsizes]
  rfl
theorem laws_toEntryS_F_l0_is (h : G_laws_toEntryS_F E) (l : List Entry) (hl : l.length ≤ 1048576) (hok : ∀ x ∈ l, Entry.ok x) : ∀ (r p : List Entry) (i : Int) (c : List U), l = p ++ r → i = p.length → c.length = r.length → (∀ z ∈ c, z.size = 4) →
    laws_toEntryS_F_l0 E (.sl 4 (l.map Entry.u)) (.int .i64 i) (p.map Entry.u ++ c) = some (.sl 4 (l.map Entry.u))
  | [], p, i, c, e, hi, hc, _ => by
    obtain rfl : c = [] := List.length_eq_zero_iff.1 hc
    rw [laws_toEntryS_F_l0_eq]
    simp [mid_end e hi]
    simp [e]
  | x :: r, p, i, [], e, hi, hc, _ => by cases hc
  | x :: r, p, i, z :: c, e, hi, hc, hz => by
    obtain ⟨h0, hlt, hx, hw, hn, _⟩ := mid_at e hi (by omega)
    have hox : x.ok := hok x (by rw [e]; simp)
    have hzs : z.size = 4 := hz z (by simp)
    obtain ⟨hg, hs, hlen⟩ := mid_set Entry.u p z c hi
    have ih := laws_toEntryS_F_l0_is h l hl hok r (p ++ [x]) (i + 1) c (mid_next e) hn (by simpa using hc) (fun y hy => hz y (by simp [hy]))
    simp only [List.map_append, List.map_cons, List.map_nil, List.append_assoc, List.cons_append, List.nil_append] at ih
    have hF := laws_toEntry_F_is h.c_laws_toEntry_F x hox
    have h3 : ∀ (k : Nat) (us : List U) (K : U → Option U), U.noTup (.sl k us) K = K (.sl k us) := fun _ _ _ => rfl
    have h4 : ∀ (n : Int) (K : U → Option U), U.noTup (.int .i64 n) K = K (.int .i64 n) := fun _ _ => rfl
    have hu : U.agg [.int .i64 x.id, .int .i64 x.stamp, .sl 2 (x.reads.map ReadMark.u), .sl 2 (x.writes.map Write.u)] = x.u := rfl
    rw [laws_toEntryS_F_l0_eq]
    simp only [hx, hw, asInt_int, bin_lss, lenOf_sl, List.length_map, Option.bind_some, asBool_bool, hlt, decide_true, if_true, h0, hlen, and_self, bin_add, Entry.u_var, hF, Entry.u_noTup, Entry.u_agg, asVar_int, flat_int, U.asSlK, h4]
    simp only [dsizes_cons, dsizes_nil, D.size, size_int, Nat.reduceAdd, if_true, hu, Entry.u_size, hg, hs, hzs, Option.bind_some]
    simpa using ih
theorem laws_toEntryS_F_is (h : G_laws_toEntryS_F E) (l : List Entry) (hl : l.length ≤ 1048576) (hok : ∀ x ∈ l, Entry.ok x) : E 100045 [.sl 4 (l.map Entry.u)] = some (.sl 4 (l.map Entry.u)) := by
  have h1 := laws_toEntryS_F_l0_is h l hl hok l [] 0 (List.replicate l.length (.agg [.int .i64 0, .int .i64 0, .nsl 2, .nsl 2])) rfl rfl (by simp) (by simp)
  rw [laws_toEntryS_F_E h]
  simp only [lenOf_sl, Option.bind_some, List.length_map]
  rw [if_pos (by refine ⟨by omega, by omega, by omega, rfl⟩)]
  have hfl : ∀ n : Nat, U.flat.flats (List.replicate n (.agg [.int .i64 0, .int .i64 0, .nsl 2, .nsl 2])) = true := by
    intro n
    induction n with
    | zero => rfl
    | succ n ih => simp [List.replicate_succ, U.flat.flats, U.flat, ih]
  simpa [hfl] using h1
def entInts : List Entry → Int
  | [] => 0
  | x :: r => 2 + 2 * x.reads.length + 2 * x.writes.length + entInts r
theorem entInts_nonneg : ∀ l, 0 ≤ entInts l
  | [] => by simp [entInts]
  | x :: r => by have := entInts_nonneg r; simp only [entInts]; omega
theorem laws_markEntryS_M_l0_is (h : G_laws_markEntryS_M E) : ∀ (r : List Entry) (p : List U) (k i : Int), i = p.length → p.length + r.length ≤ 1048576 → (∀ x ∈ r, x.ok) → 0 ≤ k → k + entInts r ≤ 1073741824 →
    ∃ k' us, laws_markEntryS_M_l0 E (.int .i64 k) (.int .i64 i) (p ++ r.map Entry.u) = some (.tup [.int .i64 k', .sl 4 us]) ∧ 0 ≤ k' ∧ k' ≤ 1073741824
  | [], p, k, i, hi, hb, hr, hk, hk2 => by
    simp only [entInts] at hk2
    refine ⟨k, p, ?_, hk, by omega⟩
    have h1 : ¬ i < (p.length : Int) := by omega
    rw [laws_markEntryS_M_l0_eq]
    simp [h1]
  | x :: r, p, k, i, hi, hb, hr, hk, hk2 => by
    simp only [List.length_cons, entInts] at hb hk2
    have hs := entInts_nonneg r
    have hx : x.ok := hr x (by simp)
    have hm1 := laws_markReadMarkS_M_is h.c_laws_markReadMarkS_M x.reads hx.1 (k + 2) (by omega) (by omega)
    have hm2 := laws_markWriteS_M_is h.c_laws_markWriteS_M x.writes hx.2 (k + 2 + 2 * x.reads.length) (by omega) (by omega)
    obtain ⟨k', us, h1, h2⟩ := laws_markEntryS_M_l0_is h r (p ++ [.agg [.int .i64 k, .int .i64 (k + 1), .sl 2 ((upReadMark (k + 2) x.reads.length).map ReadMark.u), .sl 2 ((upWrite (k + 2 + 2 * x.reads.length) x.writes.length).map Write.u)]]) (k + 2 + 2 * x.reads.length + 2 * x.writes.length) (i + 1) (by simp [hi]) (by simp; omega) (fun y hy => hr y (by simp [hy])) (by omega) (by omega)
    refine ⟨k', us, ?_, h2⟩
    have hn : i.toNat = p.length := by omega
    have hlt : ∀ z : U, i < ((p ++ z :: r.map Entry.u).length : Int) := fun z => by simp; omega
    have h0 : 0 ≤ i := by omega
    have hw : IntKind.i64.wrap (i + 1) = i + 1 := wrap_in (by omega)
    have hw1 : IntKind.i64.wrap (k + 1) = k + 1 := wrap_in (by omega)
    have hw2 : IntKind.i64.wrap (k + 1 + 1) = k + 2 := by rw [wrap_in (by omega)]; omega
    have hg : ∀ z : U, (p ++ z :: r.map Entry.u)[p.length]? = some z := fun z => by simp
    have hset : ∀ y z : U, (p ++ y :: r.map Entry.u).set p.length z = p ++ z :: r.map Entry.u := fun y z => by simp
    rw [laws_markEntryS_M_l0_eq]
    simp only [List.append_assoc, List.cons_append, List.nil_append] at h1
    simp only [List.map_cons, bin_lss, hlt, decide_true, Option.bind_some, asBool_bool, if_true, asInt_int, h0, and_self, hn, hg, hset, Entry.u_agg, asAgg_agg, List.take_zero, List.take_succ_cons, sizes_cons, sizes_nil, size_int, U.size, Nat.add_zero, Nat.zero_add, Nat.reduceAdd, List.getElem?_cons_zero, List.getElem?_cons_succ, List.set_cons_zero, List.set_cons_succ, storable_int, flat_int, bin_add, hw, hw1, hw2, U.asSlK, hm1, hm2, U.asMut, U.asFlat, U.flat, partable_int]
    exact h1
end Go.Proofs.Ytfdcdbkblkehcaa.Am
namespace Go.Proofs.Ytfdcdbkblkehcaa.Am
open Go
variable {E : Env}
set_option linter.unusedVariables false
def upInts : Int → Nat → List Int
  | _, 0 => []
  | k, n + 1 => k :: upInts (k + 1) n
theorem upInts_length : ∀ (n : Nat) (k : Int), (upInts k n).length = n
  | 0, _ => rfl
  | n + 1, k => by simp [upInts, upInts_length n]
theorem laws_markIntS_M_l0_is (h : G_laws_markIntS_M E) : ∀ (r p : List Int) (k i : Int), i = p.length → p.length + r.length ≤ 1048576 → 0 ≤ k → k + r.length ≤ 1099511627776 →
    laws_markIntS_M_l0 E (.int .i64 k) (.int .i64 i) (p.map intU ++ r.map intU) = some (.tup [.int .i64 (k + r.length), .sl 1 (p.map intU ++ (upInts k r.length).map intU)])
  | [], p, k, i, hi, hb, hk, hk2 => by
    have h1 : ¬ i < ((p.map intU ++ ([] : List Int).map intU).length : Int) := by simp [hi]
    rw [laws_markIntS_M_l0_eq]
    simp only [bin_lss, h1, decide_false, Option.bind_some, asBool_bool, Bool.false_eq_true, if_false]
    rw [← List.map_append]
    simp [upInts]
  | x :: r, p, k, i, hi, hb, hk, hk2 => by
    simp only [List.length_cons] at hb hk2
    obtain ⟨hg, hs, hlen⟩ := mid_set intU p (intU x) (r.map intU) hi
    have h0 : 0 ≤ i := by omega
    have hw : IntKind.i64.wrap (k + 1) = k + 1 := wrap_in (by omega)
    have hw2 : IntKind.i64.wrap (i + 1) = i + 1 := wrap_in (by omega)
    have ih := laws_markIntS_M_l0_is h r (p ++ [k]) (k + 1) (i + 1) (by simp [hi]) (by simp; omega) (by omega) (by omega)
    simp only [List.map_append, List.map_cons, List.map_nil, List.append_assoc, List.cons_append, List.nil_append] at ih
    rw [laws_markIntS_M_l0_eq]
    simp only [List.map_cons, bin_lss, hlen, decide_true, Option.bind_some, asBool_bool, if_true, asInt_int, h0, and_self, storable_int, partable_int, size_int, hg, intU_size, bin_add, hw, hw2, hs]
    have e : k + 1 + (r.length : Int) = k + ((r.length + 1 : Nat) : Int) := by omega
    rw [e] at ih
    simpa [upInts, intU] using ih
theorem laws_markIntS_M_is (h : G_laws_markIntS_M E) (l : List Int) (hl : l.length ≤ 1048576) (k : Int) (hk : 0 ≤ k) (hk2 : k ≤ 1048576) :
    E 200086 (.agg [.tup [.sl 1 (l.map intU)]] :: [.int .i64 k]) = some (.tup [.int .i64 (k + l.length), .sl 1 ((upInts k l.length).map intU)]) := by
  rw [laws_markIntS_M_E h]
  exact laws_markIntS_M_l0_is h l [] k 0 rfl (by simpa using hl) hk (by omega)
theorem laws_heldIntS_l0_is (h : G_laws_heldIntS E) (l : List Int) (hl : l.length ≤ 1048576) : ∀ (n : Nat) (p : List Int) (k i : Int), l = p ++ upInts k n → i = p.length → 0 ≤ k → k + n ≤ 1099511627776 →
    laws_heldIntS_l0 E (.sl 1 (l.map intU)) (.int .i64 k) (.int .i64 i) = some (.int .i64 (k + n))
  | 0, p, k, i, e, hi, hk, hk2 => by
    rw [laws_heldIntS_l0_eq]
    simp [mid_end e hi]
  | n + 1, p, k, i, e, hi, hk, hk2 => by
    obtain ⟨h0, hlt, hx, hw, hn, _⟩ := mid_at e hi (by omega)
    have hw1 : IntKind.i64.wrap (k + 1) = k + 1 := wrap_in (by omega)
    have ih := laws_heldIntS_l0_is h l hl n (p ++ [k]) (k + 1) (i + 1) (mid_next e) hn (by omega) (by omega)
    have e2 : k + 1 + (n : Int) = k + ((n + 1 : Nat) : Int) := by omega
    rw [e2] at ih
    rw [laws_heldIntS_l0_eq]
    simp only [lenOf_sl, List.length_map, Option.bind_some, bin_lss, hlt, decide_true, asBool_bool, if_true, asInt_int, hx, asVar_intU, bin_neq, ne_eq, not_true_eq_false, decide_false, Bool.false_eq_true, if_false, bin_add, hw, hw1]
    exact ih
theorem laws_heldIntS_is (h : G_laws_heldIntS E) (n : Nat) (hn : n ≤ 1048576) (k : Int) (hk : 0 ≤ k) (hk2 : k ≤ 1048576) : E 90 [.sl 1 ((upInts k n).map intU), .int .i64 k] = some (.int .i64 (k + n)) := by
  rw [laws_heldIntS_E h]
  exact laws_heldIntS_l0_is h _ (by rw [upInts_length]; exact hn) n [] k 0 rfl rfl hk (by omega)
end Go.Proofs.Ytfdcdbkblkehcaa.Am
namespace Go.Proofs.Ytfdcdbkblkehcaa.Am
open Go
variable {E : Env}
set_option linter.unusedVariables false
theorem laws_toIntS_l0_is (h : G_laws_toIntS E) (l : List Int) (hl : l.length ≤ 1048576) : ∀ (r p : List Int) (i : Int) (c : List U), l = p ++ r → i = p.length → c.length = r.length → (∀ z ∈ c, z.size = 1) →
    laws_toIntS_l0 E (.sl 1 (l.map intU)) (.int .i64 i) (p.map intU ++ c) = some (.sl 1 (l.map intU))
  | [], p, i, c, e, hi, hc, _ => by
    obtain rfl : c = [] := List.length_eq_zero_iff.1 hc
    rw [laws_toIntS_l0_eq]
    simp [mid_end e hi]
    simp [e]
  | x :: r, p, i, [], e, hi, hc, _ => by cases hc
  | x :: r, p, i, z :: c, e, hi, hc, hz => by
    obtain ⟨h0, hlt, hx, hw, hn, _⟩ := mid_at e hi (by omega)
    have hzs : z.size = 1 := hz z (by simp)
    obtain ⟨hg, hs, hlen⟩ := mid_set intU p z c hi
    have ih := laws_toIntS_l0_is h l hl r (p ++ [x]) (i + 1) c (mid_next e) hn (by simpa using hc) (fun y hy => hz y (by simp [hy]))
    simp only [List.map_append, List.map_cons, List.map_nil, List.append_assoc, List.cons_append, List.nil_append] at ih
    rw [laws_toIntS_l0_eq]
    simp only [hg, hs, hx, hw, asInt_int, bin_lss, lenOf_sl, List.length_map, Option.bind_some, asBool_bool, hlt, decide_true, if_true, h0, hlen, and_self, bin_add, hzs, asVar_intU, intU_size, storable_intU, partable_intU]
    simpa [intU] using ih
theorem laws_toIntS_is (h : G_laws_toIntS E) (l : List Int) (hl : l.length ≤ 1048576) : E 58 [.sl 1 (l.map intU)] = some (.sl 1 (l.map intU)) := by
  have h1 := laws_toIntS_l0_is h l hl l [] 0 (List.replicate l.length (.int .i64 0)) rfl rfl (by simp) (by simp)
  rw [laws_toIntS_E h]
  simp only [lenOf_sl, Option.bind_some, List.length_map]
  rw [if_pos (by refine ⟨by omega, by omega, by omega, rfl⟩)]
  simpa using h1
theorem laws_eqIntS_l0_is (h : G_laws_eqIntS E) (a b : List Int) (ha : a.length ≤ 1048576) (hb : b.length ≤ 1048576) : ∀ (r s p p2 : List Int) (i : Int), a = p ++ r → b = p2 ++ s → i = p.length → i = p2.length → r.length = s.length →
    laws_eqIntS_l0 E (.sl 1 (a.map intU)) (.sl 1 (b.map intU)) (.int .i64 i) = some (.bool (decide (r = s)))
  | [], [], p, p2, i, e, e2, hi, hi2, _ => by
    rw [laws_eqIntS_l0_eq]
    simp [mid_end e hi]
  | [], y :: s, _, _, _, _, _, _, _, hl => by cases hl
  | x :: r, [], _, _, _, _, _, _, _, hl => by cases hl
  | x :: r, y :: s, p, p2, i, e, e2, hi, hi2, hl => by
    obtain ⟨h0, hlt, hx, hw, hn, _⟩ := mid_at e hi (by omega)
    obtain ⟨_, _, hy, _, hn2, _⟩ := mid_at e2 hi2 (by omega)
    have ih := laws_eqIntS_l0_is h a b ha hb r s (p ++ [x]) (p2 ++ [y]) (i + 1) (mid_next e) (mid_next e2) hn hn2 (by simpa using hl)
    rw [laws_eqIntS_l0_eq]
    by_cases hxy : x = y
    · subst hxy
      simp [intU, hlt, hx, hy, hw, ih]
    · simp [intU, hlt, hx, hy, hw, ih, hxy]
theorem laws_eqIntS_is (h : G_laws_eqIntS E) (a b : List Int) (ha : a.length ≤ 1048576) (hb : b.length ≤ 1048576) : E 59 [.sl 1 (a.map intU), .sl 1 (b.map intU)] = some (.bool (decide (a = b))) := by
  rw [laws_eqIntS_E h]
  by_cases hl : a.length = b.length
  · simp [hl, laws_eqIntS_l0_is h a b ha hb a b [] [] 0 rfl rfl rfl rfl hl]
  · have h1 : a ≠ b := fun e => hl (by rw [e])
    have h2 : (a.length : Int) ≠ b.length := by omega
    simp [h1, h2]
end Go.Proofs.Ytfdcdbkblkehcaa.Am
namespace Go.Proofs.Ytfdcdbkblkehcaa.Am
open Go
variable {E : Env}
theorem eqInt_nil (h : G_laws_eqIntS E) : E 59 [.nsl 1, .sl 1 []] = some (.bool true) := by
  rw [laws_eqIntS_E h]
  simp only [lenOf_nsl, lenOf_sl, List.length_nil, Option.bind_some, bin_neq, ne_eq, not_true_eq_false, decide_false, asBool_bool, Bool.false_eq_true, if_false]
  rw [laws_eqIntS_l0_eq]
  simp
theorem entInts_szl : ∀ (r : List Entry) (left : Int), 0 ≤ left → 0 ≤ szl Entry.sz r left → entInts r ≤ 2 * r.length + 2 * left
  | [], left, h0, h => by simp [entInts]; omega
  | x :: r, left, h0, h => by
    simp only [szl] at h
    by_cases h1 : Entry.sz x left < 0
    · rw [if_pos h1] at h; omega
    · rw [if_neg h1] at h
      have h2 := entInts_szl r (Entry.sz x left) (by omega) h
      simp only [Entry.sz, szc] at h1 h2
      simp only [entInts, List.length_cons]
      split at h2
      · omega
      · split at h2
        · omega
        · omega
theorem entInts_sz (l : List Entry) (left : Int) (h0 : 0 ≤ left) (h1 : left ≤ 1048576) (h : 0 ≤ szL Entry.sz l left) : entInts l ≤ 4194304 := by
  simp only [szL] at h
  split at h
  · omega
  · have := entInts_szl l _ (by omega) h
    omega
end Go.Proofs.Ytfdcdbkblkehcaa.Am
namespace Go.Proofs.Ytfdcdbkblkehcaa.Am
open Go
abbrev shI : Sh := .int .i64
theorem fits_int {u : U} (h : Fits shI u) : ∃ n, u = .int .i64 n ∧ -9223372036854775808 ≤ n ∧ n ≤ 9223372036854775807 := by
  cases u <;> first | exact h.elim | skip
  rename_i k n
  obtain ⟨rfl, h1, h2⟩ := h
  exact ⟨n, rfl, h1, h2⟩
theorem fits_agg {ss : List Sh} {u : U} (h : Fits (.agg ss) u) : ∃ us, u = .agg us ∧ Fits.fits ss us := by
  cases u <;> first | exact h.elim | exact ⟨_, rfl, h⟩
theorem fits_cons {s : Sh} {ss : List Sh} {us : List U} (h : Fits.fits (s :: ss) us) : ∃ u us', us = u :: us' ∧ Fits s u ∧ Fits.fits ss us' := by
  cases us with
  | nil => exact h.elim
  | cons u us => exact ⟨u, us, rfl, h.1, h.2⟩
theorem fits_nil {us : List U} (h : Fits.fits [] us) : us = [] := by
  cases us with
  | nil => rfl
  | cons u us => exact h.elim
theorem fits_map {α : Type} {s : Sh} {f : α → U} {Q : α → Prop} (hs : ∀ u, Fits s u → ∃ x, u = f x ∧ Q x) : ∀ us : List U, (∀ u ∈ us, Fits s u) → ∃ l : List α, us = l.map f ∧ ∀ x ∈ l, Q x
  | [], _ => ⟨[], rfl, by simp⟩
  | u :: us, h => by
    obtain ⟨x, rfl, hx⟩ := hs u (h u (by simp))
    obtain ⟨l, rfl, hl⟩ := fits_map hs us (fun v hv => h v (by simp [hv]))
    exact ⟨x :: l, rfl, by simpa using ⟨hx, hl⟩⟩
theorem fits_sl {α : Type} {k : Nat} {s : Sh} {f : α → U} {Q : α → Prop} (hs : ∀ u, Fits s u → ∃ x, u = f x ∧ Q x) {u : U} (h : Fits (.sl k s) u) : ∃ l : List α, u = .sl k (l.map f) ∧ l.length ≤ maxLen ∧ ∀ x ∈ l, Q x := by
  cases u <;> first | exact h.elim | skip
  obtain ⟨rfl, h1, h2⟩ := h
  obtain ⟨l, rfl, hl⟩ := fits_map hs _ h2
  exact ⟨l, rfl, by simpa using h1, hl⟩
theorem fits_ints {u : U} (h : Fits (.sl 1 shI) u) : ∃ l : List Int, u = .sl 1 (l.map intU) ∧ l.length ≤ maxLen := by
  obtain ⟨l, h1, h2, _⟩ := fits_sl (f := intU) (Q := fun _ => True) (fun u h => by obtain ⟨n, hn, _⟩ := fits_int h; exact ⟨n, hn, trivial⟩) h
  exact ⟨l, h1, h2⟩
abbrev shReadMark : Sh := .agg [shI, shI]
theorem fits_ReadMark (u : U) (h : Fits shReadMark u) : ∃ x : ReadMark, u = x.u ∧ True := by
  obtain ⟨us0, rfl, hs0⟩ := fits_agg h
  obtain ⟨u0, us1, rfl, h0, hs1⟩ := fits_cons hs0
  obtain ⟨a0, rfl, _⟩ := fits_int h0
  obtain ⟨u1, us2, rfl, h1, hs2⟩ := fits_cons hs1
  obtain ⟨a1, rfl, _⟩ := fits_int h1
  obtain rfl := fits_nil hs2
  exact ⟨⟨a0, a1⟩, rfl, trivial⟩
abbrev shWrite : Sh := .agg [shI, shI]
theorem fits_Write (u : U) (h : Fits shWrite u) : ∃ x : Write, u = x.u ∧ True := by
  obtain ⟨us0, rfl, hs0⟩ := fits_agg h
  obtain ⟨u0, us1, rfl, h0, hs1⟩ := fits_cons hs0
  obtain ⟨a0, rfl, _⟩ := fits_int h0
  obtain ⟨u1, us2, rfl, h1, hs2⟩ := fits_cons hs1
  obtain ⟨a1, rfl, _⟩ := fits_int h1
  obtain rfl := fits_nil hs2
  exact ⟨⟨a0, a1⟩, rfl, trivial⟩
abbrev shEntry : Sh := .agg [shI, shI, .sl 2 shReadMark, .sl 2 shWrite]
theorem fits_Entry (u : U) (h : Fits shEntry u) : ∃ x : Entry, u = x.u ∧ x.fit := by
  obtain ⟨us0, rfl, hs0⟩ := fits_agg h
  obtain ⟨u0, us1, rfl, h0, hs1⟩ := fits_cons hs0
  obtain ⟨a0, rfl, _⟩ := fits_int h0
  obtain ⟨u1, us2, rfl, h1, hs2⟩ := fits_cons hs1
  obtain ⟨a1, rfl, _⟩ := fits_int h1
  obtain ⟨u2, us3, rfl, h2, hs3⟩ := fits_cons hs2
  obtain ⟨a2, rfl, l2, _⟩ := fits_sl fits_ReadMark h2
  obtain ⟨u3, us4, rfl, h3, hs4⟩ := fits_cons hs3
  obtain ⟨a3, rfl, l3, _⟩ := fits_sl fits_Write h3
  obtain rfl := fits_nil hs4
  exact ⟨⟨a0, a1, a2, a3⟩, rfl, ⟨l2, l3⟩⟩
end Go.Proofs.Ytfdcdbkblkehcaa.Am
namespace Go.Proofs.Ytfdcdbkblkehcaa.Am
open Go
variable {E : Env}
set_option linter.unusedVariables false
def at_ (o : List Int) (v : Int) : Int := o.getD v.toNat 0
structure Know (to d : Int) (o : List Int) : Prop where
  len : o.length = 10
  below : ∀ v : Int, 0 ≤ v → at_ o v ≤ d - 1
  pos : 1 ≤ d
end Go.Proofs.Ytfdcdbkblkehcaa.Am
namespace Go.Proofs.Ytfdcdbkblkehcaa.Am
open Go
variable {E : Env}
set_option linter.unusedVariables false
theorem laws_toIntS_F_l0_is (h : G_laws_toIntS_F E) (l : List Int) (hl : l.length ≤ 1048576) : ∀ (r p : List Int) (i : Int) (c : List U), l = p ++ r → i = p.length → c.length = r.length → (∀ z ∈ c, z.size = 1) →
    laws_toIntS_F_l0 E (.sl 1 (l.map intU)) (.int .i64 i) (p.map intU ++ c) = some (.sl 1 (l.map intU))
  | [], p, i, c, e, hi, hc, _ => by
    obtain rfl : c = [] := List.length_eq_zero_iff.1 hc
    rw [laws_toIntS_F_l0_eq]
    simp [mid_end e hi]
    simp [e]
  | x :: r, p, i, [], e, hi, hc, _ => by cases hc
  | x :: r, p, i, z :: c, e, hi, hc, hz => by
    obtain ⟨h0, hlt, hx, hw, hn, _⟩ := mid_at e hi (by omega)
    have hzs : z.size = 1 := hz z (by simp)
    obtain ⟨hg, hs, hlen⟩ := mid_set intU p z c hi
    have ih := laws_toIntS_F_l0_is h l hl r (p ++ [x]) (i + 1) c (mid_next e) hn (by simpa using hc) (fun y hy => hz y (by simp [hy]))
    simp only [List.map_append, List.map_cons, List.map_nil, List.append_assoc, List.cons_append, List.nil_append] at ih
    rw [laws_toIntS_F_l0_eq]
    simp only [hg, hs, hx, hw, asInt_int, bin_lss, lenOf_sl, List.length_map, Option.bind_some, asBool_bool, hlt, decide_true, if_true, h0, hlen, and_self, bin_add, hzs, asVar_intU, intU_size, storable_intU, partable_intU]
    simpa [intU] using ih
theorem laws_toIntS_F_is (h : G_laws_toIntS_F E) (l : List Int) (hl : l.length ≤ 1048576) : E 100058 [.sl 1 (l.map intU)] = some (.sl 1 (l.map intU)) := by
  have h1 := laws_toIntS_F_l0_is h l hl l [] 0 (List.replicate l.length (.int .i64 0)) rfl rfl (by simp) (by simp)
  rw [laws_toIntS_F_E h]
  simp only [lenOf_sl, Option.bind_some, List.length_map]
  rw [if_pos (by refine ⟨by omega, by omega, by omega, rfl⟩)]
  simpa using h1
end Go.Proofs.Ytfdcdbkblkehcaa.Am
namespace Go.Proofs.Ytfdcdbkblkehcaa.Am
open Go
variable {E : Env}
theorem law_ReplaySerial (h : G_laws_FnExactReplaySerial E) (us : List U) (hus : Fits.fits [.sl 4 shEntry, .sl 1 shI] us) : E 305 us = some (.bool true) := by
  obtain ⟨u0, us1, rfl, h0, hus1⟩ := fits_cons hus
  obtain ⟨u1, us2, rfl, h1, hus2⟩ := fits_cons hus1
  obtain rfl := fits_nil hus2
  obtain ⟨l, rfl, hl, hf⟩ := fits_sl fits_Entry h0
  obtain ⟨o, rfl, hol⟩ := fits_ints h1
  rw [laws_FnExactReplaySerial_E h]
  by_cases hn : (1048576 : Int) < (o.length : Int)
  · simp [hn]
  have ho : o.length ≤ 1048576 := by omega
  have s1 := laws_szEntryS_is h.c_laws_szEntryS l hl hf 1048576 (by omega) (by omega)
  rcases szL_szs Entry.sz_szs l 1048576 (by omega) (by omega) with n1 | ⟨⟨hl2, ok⟩, n1, n2⟩
  · simp [hn, s1, n1]
  have n3 : ¬ szL Entry.sz l 1048576 < 0 := by omega
  have ht := laws_toEntryS_is h.c_laws_toEntryS l hl2 ok
  have hi := laws_toIntS_is h.c_laws_toIntS o ho
  have hst := laws_eqEntryS_is h.c_laws_eqEntryS l l hl2 hl2 ok ok
  have heo := laws_eqIntS_is h.c_laws_eqIntS o o ho ho
  have hs := spec_ReplaySerial_is h.c_spec_ReplaySerial l hl2 ok o ho
  have hm := impl_ReplaySerial_is h.c_impl_ReplaySerial l hl2 ok o ho
  have hmF := impl_ReplaySerial_F_is h.c_impl_ReplaySerial_F l hl2 ok o ho
  have htF := laws_toEntryS_F_is h.c_laws_toEntryS_F l hl2 ok
  have hiF := laws_toIntS_F_is h.c_laws_toIntS_F o ho
  have hv6 := replayV_len l o
  have hvl : (replayV l o).length ≤ 1048576 := by omega
  have hev := laws_eqIntS_is h.c_laws_eqIntS (replayV l o) (replayV l o) hvl hvl
  have hm1 : ∃ k' us, E 200287 (.agg [.tup [.sl 4 (l.map Entry.u)]] :: [.int .i64 1]) = some (.tup [.int .i64 k', .sl 4 us]) ∧ 0 ≤ k' ∧ k' ≤ 1073741824 := by
    rw [laws_markEntryS_M_E h.c_laws_markEntryS_M]
    exact laws_markEntryS_M_l0_is h.c_laws_markEntryS_M l [] 1 0 rfl (by simpa using hl2) ok (by omega) (by have := entInts_sz l 1048576 (by omega) (by omega) n1; omega)
  obtain ⟨k', us', hm1, hk', hk3⟩ := hm1
  have hm2 : E 200086 (.agg [.tup [.sl 1 (o.map intU)]] :: [.int .i64 k']) = some (.tup [.int .i64 (k' + o.length), .sl 1 ((upInts k' o.length).map intU)]) := by
    rw [laws_markIntS_M_E h.c_laws_markIntS_M]
    exact laws_markIntS_M_l0_is h.c_laws_markIntS_M o [] k' 0 rfl (by simpa using ho) hk' (by omega)
  have hm3 := laws_markIntS_M_is h.c_laws_markIntS_M (replayV l o) hvl 1 (by omega) (by omega)
  have hh := laws_heldIntS_is h.c_laws_heldIntS (replayV l o).length hvl 1 (by omega) (by omega)
  have n4 : ¬ k' + (o.length : Int) < 0 := by omega
  have n5 : ¬ 1 + ((replayV l o).length : Int) < 0 := by omega
  have hE : E 59 [(if replayOk l o = true then .sl 1 ((replayV l o).map intU) else .nsl 1), .sl 1 ((replayV l o).map intU)] = some (.bool true) := by
    cases g : replayOk l o with
    | true => simpa using hev
    | false =>
      have : replayV l o = [] := by simp [replayV, g]
      rw [this]
      exact eqInt_nil h.c_laws_eqIntS
  generalize (if replayOk l o = true then U.sl 1 ((replayV l o).map intU) else .nsl 1) = q at hm hE
  cases g : replayOk l o <;> simp [hn, s1, n3, ht, hi, hs, htF, hiF, hmF, U.asSlK, hev, hst, heo, hm1, hm2, hm3, hh, n4, n5, U.asMut, hm, hE, g]
end Go.Proofs.Ytfdcdbkblkehcaa.Am
