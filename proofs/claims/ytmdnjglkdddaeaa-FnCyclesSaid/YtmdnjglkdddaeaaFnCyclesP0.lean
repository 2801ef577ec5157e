import Derived.Test.YtmdnjglkdddaeaaAmX
import Derived.Test.YtmdnjglkdddaeaaAmEd
import Derived.Test.YtmdnjglkdddaeaaFnCyclesF0
namespace Go.Proofs.Ytmdnjglkdddaeaa.Am
open Go
variable {α : Type}
def intU (n : Int) : U := .int .i64 n
@[simp] theorem intU_size (n : Int) : (intU n).size = 1 := rfl
@[simp] theorem asVar_intU (n : Int) (K : U → Option α) : U.asVar false 1 (intU n) K = K (.int .i64 n) := rfl
@[simp] theorem storable_intU (n : Int) : storable (.val (intU n)) = true := rfl
@[simp] theorem partable_intU (n : Int) : partable (.val (intU n)) = true := rfl
abbrev intsU (l : List Int) : U := .sl 1 (l.map intU)
@[simp] theorem Edge.u_size (e : Edge) : e.u.size = 4 := rfl
@[simp] theorem Edge.u_var (e : Edge) (K : U → Option α) : U.asVar true 4 e.u K = K e.u := rfl
@[simp] theorem Edge.u_storable (e : Edge) : storable (.val e.u) = true := rfl
@[simp] theorem Edge.u_partable (e : Edge) : partable (.val e.u) = true := rfl
@[simp] theorem Edge.u_noTup (e : Edge) (K : U → Option α) : U.noTup e.u K = K e.u := rfl
@[simp] theorem Edge.u_agg (e : Edge) (K : List U → Option α) : U.asAgg e.u K = K [.int .i64 e.frm, .int .i64 e.to, .int .i64 e.kind, .int .i64 e.key] := rfl
@[simp] theorem Edge.u_at0 (e : Edge) (K : U → Option α) : U.fieldAt 0 0 e.u K = K (.int .i64 e.frm) := rfl
@[simp] theorem Edge.u_at1 (e : Edge) (K : U → Option α) : U.fieldAt 1 1 e.u K = K (.int .i64 e.to) := rfl
@[simp] theorem Edge.u_at2 (e : Edge) (K : U → Option α) : U.fieldAt 2 2 e.u K = K (.int .i64 e.kind) := rfl
@[simp] theorem Edge.u_at3 (e : Edge) (K : U → Option α) : U.fieldAt 3 3 e.u K = K (.int .i64 e.key) := rfl
@[simp] theorem Edge.u_flat (e : Edge) : e.u.flat = true := rfl
@[simp] theorem Edge.u_asFlat (e : Edge) (K : U → Option α) : U.asFlat e.u K = K e.u := rfl
@[simp] theorem Edge.u_eqv (x y : Edge) : U.eqv 6 x.u y.u = some (decide (x = y)) := by
  obtain ⟨a0, a1, a2, a3⟩ := x
  obtain ⟨b0, b1, b2, b3⟩ := y
  simp only [Edge.mk.injEq]
  show (if 4 = 4 then eqInts _ _ else none) = _
  simp only [if_true, eqInts_cons, eqInts_nil, Option.map_some, Bool.decide_and, Bool.and_true]
  rfl
structure ReadMark where
  key : Int
  created : Int
  deriving DecidableEq
def ReadMark.u (e : ReadMark) : U := .agg [.int .i64 e.key, .int .i64 e.created]
@[simp] theorem ReadMark.u_size (e : ReadMark) : e.u.size = 2 := rfl
@[simp] theorem ReadMark.u_var (e : ReadMark) (K : U → Option α) : U.asVar true 2 e.u K = K e.u := rfl
@[simp] theorem ReadMark.u_storable (e : ReadMark) : storable (.val e.u) = true := rfl
@[simp] theorem ReadMark.u_partable (e : ReadMark) : partable (.val e.u) = true := rfl
@[simp] theorem ReadMark.u_noTup (e : ReadMark) (K : U → Option α) : U.noTup e.u K = K e.u := rfl
@[simp] theorem ReadMark.u_agg (e : ReadMark) (K : List U → Option α) : U.asAgg e.u K = K [.int .i64 e.key, .int .i64 e.created] := rfl
@[simp] theorem ReadMark.u_at0 (e : ReadMark) (K : U → Option α) : U.fieldAt 0 0 e.u K = K (.int .i64 e.key) := rfl
@[simp] theorem ReadMark.u_at1 (e : ReadMark) (K : U → Option α) : U.fieldAt 1 1 e.u K = K (.int .i64 e.created) := rfl
@[simp] theorem ReadMark.u_flat (e : ReadMark) : e.u.flat = true := rfl
@[simp] theorem ReadMark.u_asFlat (e : ReadMark) (K : U → Option α) : U.asFlat e.u K = K e.u := rfl
@[simp] theorem ReadMark.u_eqv (x y : ReadMark) : U.eqv 4 x.u y.u = some (decide (x = y)) := by
  obtain ⟨a0, a1⟩ := x
  obtain ⟨b0, b1⟩ := y
  simp only [ReadMark.mk.injEq]
  show (if 2 = 2 then eqInts _ _ else none) = _
  simp only [if_true, eqInts_cons, eqInts_nil, Option.map_some, Bool.decide_and, Bool.and_true]
  rfl
structure Write where
  key : Int
  value : Int
  deriving DecidableEq
def Write.u (e : Write) : U := .agg [.int .i64 e.key, .int .i64 e.value]
@[simp] theorem Write.u_size (e : Write) : e.u.size = 2 := rfl
@[simp] theorem Write.u_var (e : Write) (K : U → Option α) : U.asVar true 2 e.u K = K e.u := rfl
@[simp] theorem Write.u_storable (e : Write) : storable (.val e.u) = true := rfl
@[simp] theorem Write.u_partable (e : Write) : partable (.val e.u) = true := rfl
@[simp] theorem Write.u_noTup (e : Write) (K : U → Option α) : U.noTup e.u K = K e.u := rfl
@[simp] theorem Write.u_agg (e : Write) (K : List U → Option α) : U.asAgg e.u K = K [.int .i64 e.key, .int .i64 e.value] := rfl
@[simp] theorem Write.u_at0 (e : Write) (K : U → Option α) : U.fieldAt 0 0 e.u K = K (.int .i64 e.key) := rfl
@[simp] theorem Write.u_at1 (e : Write) (K : U → Option α) : U.fieldAt 1 1 e.u K = K (.int .i64 e.value) := rfl
@[simp] theorem Write.u_flat (e : Write) : e.u.flat = true := rfl
@[simp] theorem Write.u_asFlat (e : Write) (K : U → Option α) : U.asFlat e.u K = K e.u := rfl
@[simp] theorem Write.u_eqv (x y : Write) : U.eqv 4 x.u y.u = some (decide (x = y)) := by
  obtain ⟨a0, a1⟩ := x
  obtain ⟨b0, b1⟩ := y
  simp only [Write.mk.injEq]
  show (if 2 = 2 then eqInts _ _ else none) = _
  simp only [if_true, eqInts_cons, eqInts_nil, Option.map_some, Bool.decide_and, Bool.and_true]
  rfl
structure Lock where
  key : Int
  owner : Int
  deriving DecidableEq
def Lock.u (e : Lock) : U := .agg [.int .i64 e.key, .int .i64 e.owner]
@[simp] theorem Lock.u_size (e : Lock) : e.u.size = 2 := rfl
@[simp] theorem Lock.u_var (e : Lock) (K : U → Option α) : U.asVar true 2 e.u K = K e.u := rfl
@[simp] theorem Lock.u_storable (e : Lock) : storable (.val e.u) = true := rfl
@[simp] theorem Lock.u_partable (e : Lock) : partable (.val e.u) = true := rfl
@[simp] theorem Lock.u_noTup (e : Lock) (K : U → Option α) : U.noTup e.u K = K e.u := rfl
@[simp] theorem Lock.u_agg (e : Lock) (K : List U → Option α) : U.asAgg e.u K = K [.int .i64 e.key, .int .i64 e.owner] := rfl
@[simp] theorem Lock.u_at0 (e : Lock) (K : U → Option α) : U.fieldAt 0 0 e.u K = K (.int .i64 e.key) := rfl
@[simp] theorem Lock.u_at1 (e : Lock) (K : U → Option α) : U.fieldAt 1 1 e.u K = K (.int .i64 e.owner) := rfl
@[simp] theorem Lock.u_flat (e : Lock) : e.u.flat = true := rfl
@[simp] theorem Lock.u_asFlat (e : Lock) (K : U → Option α) : U.asFlat e.u K = K e.u := rfl
@[simp] theorem Lock.u_eqv (x y : Lock) : U.eqv 4 x.u y.u = some (decide (x = y)) := by
  obtain ⟨a0, a1⟩ := x
  obtain ⟨b0, b1⟩ := y
  simp only [Lock.mk.injEq]
  show (if 2 = 2 then eqInts _ _ else none) = _
  simp only [if_true, eqInts_cons, eqInts_nil, Option.map_some, Bool.decide_and, Bool.and_true]
  rfl
structure Wait where
  id : Int
  for_ : Int
  deriving DecidableEq
def Wait.u (e : Wait) : U := .agg [.int .i64 e.id, .int .i64 e.for_]
@[simp] theorem Wait.u_size (e : Wait) : e.u.size = 2 := rfl
@[simp] theorem Wait.u_var (e : Wait) (K : U → Option α) : U.asVar true 2 e.u K = K e.u := rfl
@[simp] theorem Wait.u_storable (e : Wait) : storable (.val e.u) = true := rfl
@[simp] theorem Wait.u_partable (e : Wait) : partable (.val e.u) = true := rfl
@[simp] theorem Wait.u_noTup (e : Wait) (K : U → Option α) : U.noTup e.u K = K e.u := rfl
@[simp] theorem Wait.u_agg (e : Wait) (K : List U → Option α) : U.asAgg e.u K = K [.int .i64 e.id, .int .i64 e.for_] := rfl
@[simp] theorem Wait.u_at0 (e : Wait) (K : U → Option α) : U.fieldAt 0 0 e.u K = K (.int .i64 e.id) := rfl
@[simp] theorem Wait.u_at1 (e : Wait) (K : U → Option α) : U.fieldAt 1 1 e.u K = K (.int .i64 e.for_) := rfl
@[simp] theorem Wait.u_flat (e : Wait) : e.u.flat = true := rfl
@[simp] theorem Wait.u_asFlat (e : Wait) (K : U → Option α) : U.asFlat e.u K = K e.u := rfl
@[simp] theorem Wait.u_eqv (x y : Wait) : U.eqv 4 x.u y.u = some (decide (x = y)) := by
  obtain ⟨a0, a1⟩ := x
  obtain ⟨b0, b1⟩ := y
  simp only [Wait.mk.injEq]
  show (if 2 = 2 then eqInts _ _ else none) = _
  simp only [if_true, eqInts_cons, eqInts_nil, Option.map_some, Bool.decide_and, Bool.and_true]
  rfl
structure Version where
  writer : Int
  value : Int
  created : Int
  reader : Int
  successor : Int
  deriving DecidableEq
def Version.u (e : Version) : U := .agg [.int .i64 e.writer, .int .i64 e.value, .int .i64 e.created, .int .i64 e.reader, .int .i64 e.successor]
@[simp] theorem Version.u_size (e : Version) : e.u.size = 5 := rfl
@[simp] theorem Version.u_var (e : Version) (K : U → Option α) : U.asVar true 5 e.u K = K e.u := rfl
@[simp] theorem Version.u_storable (e : Version) : storable (.val e.u) = true := rfl
@[simp] theorem Version.u_partable (e : Version) : partable (.val e.u) = true := rfl
@[simp] theorem Version.u_noTup (e : Version) (K : U → Option α) : U.noTup e.u K = K e.u := rfl
@[simp] theorem Version.u_agg (e : Version) (K : List U → Option α) : U.asAgg e.u K = K [.int .i64 e.writer, .int .i64 e.value, .int .i64 e.created, .int .i64 e.reader, .int .i64 e.successor] := rfl
@[simp] theorem Version.u_at0 (e : Version) (K : U → Option α) : U.fieldAt 0 0 e.u K = K (.int .i64 e.writer) := rfl
@[simp] theorem Version.u_at1 (e : Version) (K : U → Option α) : U.fieldAt 1 1 e.u K = K (.int .i64 e.value) := rfl
@[simp] theorem Version.u_at2 (e : Version) (K : U → Option α) : U.fieldAt 2 2 e.u K = K (.int .i64 e.created) := rfl
@[simp] theorem Version.u_at3 (e : Version) (K : U → Option α) : U.fieldAt 3 3 e.u K = K (.int .i64 e.reader) := rfl
@[simp] theorem Version.u_at4 (e : Version) (K : U → Option α) : U.fieldAt 4 4 e.u K = K (.int .i64 e.successor) := rfl
@[simp] theorem Version.u_flat (e : Version) : e.u.flat = true := rfl
@[simp] theorem Version.u_asFlat (e : Version) (K : U → Option α) : U.asFlat e.u K = K e.u := rfl
@[simp] theorem Version.u_eqv (x y : Version) : U.eqv 7 x.u y.u = some (decide (x = y)) := by
  obtain ⟨a0, a1, a2, a3, a4⟩ := x
  obtain ⟨b0, b1, b2, b3, b4⟩ := y
  simp only [Version.mk.injEq]
  show (if 5 = 5 then eqInts _ _ else none) = _
  simp only [if_true, eqInts_cons, eqInts_nil, Option.map_some, Bool.decide_and, Bool.and_true]
  rfl
structure Entry where
  id : Int
  stamp : Int
  reads : List ReadMark
  writes : List Write
  deriving DecidableEq
def Entry.u (e : Entry) : U := .agg [.int .i64 e.id, .int .i64 e.stamp, .sl 2 (e.reads.map ReadMark.u), .sl 2 (e.writes.map Write.u)]
@[simp] theorem Entry.u_size (e : Entry) : e.u.size = 4 := rfl
@[simp] theorem Entry.u_var (e : Entry) (K : U → Option α) : U.asVar true 4 e.u K = K e.u := rfl
@[simp] theorem Entry.u_storable (e : Entry) : storable (.val e.u) = true := rfl
@[simp] theorem Entry.u_partable (e : Entry) : partable (.val e.u) = true := rfl
@[simp] theorem Entry.u_noTup (e : Entry) (K : U → Option α) : U.noTup e.u K = K e.u := rfl
@[simp] theorem Entry.u_agg (e : Entry) (K : List U → Option α) : U.asAgg e.u K = K [.int .i64 e.id, .int .i64 e.stamp, .sl 2 (e.reads.map ReadMark.u), .sl 2 (e.writes.map Write.u)] := rfl
@[simp] theorem Entry.u_at0 (e : Entry) (K : U → Option α) : U.fieldAt 0 0 e.u K = K (.int .i64 e.id) := rfl
@[simp] theorem Entry.u_at1 (e : Entry) (K : U → Option α) : U.fieldAt 1 1 e.u K = K (.int .i64 e.stamp) := rfl
@[simp] theorem Entry.u_at2 (e : Entry) (K : U → Option α) : U.fieldAt 2 2 e.u K = K (.sl 2 (e.reads.map ReadMark.u)) := rfl
@[simp] theorem Entry.u_at3 (e : Entry) (K : U → Option α) : U.fieldAt 3 3 e.u K = K (.sl 2 (e.writes.map Write.u)) := rfl
structure LogRecord where
  stamp : Int
  id : Int
  high : Int
  safe : Int
  reads : List ReadMark
  writes : List Write
  deriving DecidableEq
def LogRecord.u (e : LogRecord) : U := .agg [.int .i64 e.stamp, .int .i64 e.id, .int .i64 e.high, .int .i64 e.safe, .sl 2 (e.reads.map ReadMark.u), .sl 2 (e.writes.map Write.u)]
@[simp] theorem LogRecord.u_size (e : LogRecord) : e.u.size = 6 := rfl
@[simp] theorem LogRecord.u_var (e : LogRecord) (K : U → Option α) : U.asVar true 6 e.u K = K e.u := rfl
@[simp] theorem LogRecord.u_storable (e : LogRecord) : storable (.val e.u) = true := rfl
@[simp] theorem LogRecord.u_partable (e : LogRecord) : partable (.val e.u) = true := rfl
@[simp] theorem LogRecord.u_noTup (e : LogRecord) (K : U → Option α) : U.noTup e.u K = K e.u := rfl
@[simp] theorem LogRecord.u_agg (e : LogRecord) (K : List U → Option α) : U.asAgg e.u K = K [.int .i64 e.stamp, .int .i64 e.id, .int .i64 e.high, .int .i64 e.safe, .sl 2 (e.reads.map ReadMark.u), .sl 2 (e.writes.map Write.u)] := rfl
@[simp] theorem LogRecord.u_at0 (e : LogRecord) (K : U → Option α) : U.fieldAt 0 0 e.u K = K (.int .i64 e.stamp) := rfl
@[simp] theorem LogRecord.u_at1 (e : LogRecord) (K : U → Option α) : U.fieldAt 1 1 e.u K = K (.int .i64 e.id) := rfl
@[simp] theorem LogRecord.u_at2 (e : LogRecord) (K : U → Option α) : U.fieldAt 2 2 e.u K = K (.int .i64 e.high) := rfl
@[simp] theorem LogRecord.u_at3 (e : LogRecord) (K : U → Option α) : U.fieldAt 3 3 e.u K = K (.int .i64 e.safe) := rfl
@[simp] theorem LogRecord.u_at4 (e : LogRecord) (K : U → Option α) : U.fieldAt 4 4 e.u K = K (.sl 2 (e.reads.map ReadMark.u)) := rfl
@[simp] theorem LogRecord.u_at5 (e : LogRecord) (K : U → Option α) : U.fieldAt 5 5 e.u K = K (.sl 2 (e.writes.map Write.u)) := rfl
structure Transaction where
  id : Int
  scheme : Int
  state : Int
  begin_ : Int
  low : Int
  high : Int
  commit : Int
  reads : List ReadMark
  writes : List Write
  deriving DecidableEq
def Transaction.u (e : Transaction) : U := .agg [.int .i64 e.id, .int .i64 e.scheme, .int .i64 e.state, .int .i64 e.begin_, .int .i64 e.low, .int .i64 e.high, .int .i64 e.commit, .sl 2 (e.reads.map ReadMark.u), .sl 2 (e.writes.map Write.u)]
@[simp] theorem Transaction.u_size (e : Transaction) : e.u.size = 9 := rfl
@[simp] theorem Transaction.u_var (e : Transaction) (K : U → Option α) : U.asVar true 9 e.u K = K e.u := rfl
@[simp] theorem Transaction.u_storable (e : Transaction) : storable (.val e.u) = true := rfl
@[simp] theorem Transaction.u_partable (e : Transaction) : partable (.val e.u) = true := rfl
@[simp] theorem Transaction.u_noTup (e : Transaction) (K : U → Option α) : U.noTup e.u K = K e.u := rfl
@[simp] theorem Transaction.u_agg (e : Transaction) (K : List U → Option α) : U.asAgg e.u K = K [.int .i64 e.id, .int .i64 e.scheme, .int .i64 e.state, .int .i64 e.begin_, .int .i64 e.low, .int .i64 e.high, .int .i64 e.commit, .sl 2 (e.reads.map ReadMark.u), .sl 2 (e.writes.map Write.u)] := rfl
@[simp] theorem Transaction.u_at0 (e : Transaction) (K : U → Option α) : U.fieldAt 0 0 e.u K = K (.int .i64 e.id) := rfl
@[simp] theorem Transaction.u_at1 (e : Transaction) (K : U → Option α) : U.fieldAt 1 1 e.u K = K (.int .i64 e.scheme) := rfl
@[simp] theorem Transaction.u_at2 (e : Transaction) (K : U → Option α) : U.fieldAt 2 2 e.u K = K (.int .i64 e.state) := rfl
@[simp] theorem Transaction.u_at3 (e : Transaction) (K : U → Option α) : U.fieldAt 3 3 e.u K = K (.int .i64 e.begin_) := rfl
@[simp] theorem Transaction.u_at4 (e : Transaction) (K : U → Option α) : U.fieldAt 4 4 e.u K = K (.int .i64 e.low) := rfl
@[simp] theorem Transaction.u_at5 (e : Transaction) (K : U → Option α) : U.fieldAt 5 5 e.u K = K (.int .i64 e.high) := rfl
@[simp] theorem Transaction.u_at6 (e : Transaction) (K : U → Option α) : U.fieldAt 6 6 e.u K = K (.int .i64 e.commit) := rfl
@[simp] theorem Transaction.u_at7 (e : Transaction) (K : U → Option α) : U.fieldAt 7 7 e.u K = K (.sl 2 (e.reads.map ReadMark.u)) := rfl
@[simp] theorem Transaction.u_at8 (e : Transaction) (K : U → Option α) : U.fieldAt 8 8 e.u K = K (.sl 2 (e.writes.map Write.u)) := rfl
structure Op where
  kind : Int
  id : Int
  scheme : Int
  key : Int
  high : Int
  value : Int
  deriving DecidableEq
def Op.u (e : Op) : U := .agg [.int .i64 e.kind, .int .i64 e.id, .int .i64 e.scheme, .int .i64 e.key, .int .i64 e.high, .int .i64 e.value]
@[simp] theorem Op.u_size (e : Op) : e.u.size = 6 := rfl
@[simp] theorem Op.u_var (e : Op) (K : U → Option α) : U.asVar true 6 e.u K = K e.u := rfl
@[simp] theorem Op.u_storable (e : Op) : storable (.val e.u) = true := rfl
@[simp] theorem Op.u_partable (e : Op) : partable (.val e.u) = true := rfl
@[simp] theorem Op.u_noTup (e : Op) (K : U → Option α) : U.noTup e.u K = K e.u := rfl
@[simp] theorem Op.u_agg (e : Op) (K : List U → Option α) : U.asAgg e.u K = K [.int .i64 e.kind, .int .i64 e.id, .int .i64 e.scheme, .int .i64 e.key, .int .i64 e.high, .int .i64 e.value] := rfl
@[simp] theorem Op.u_at0 (e : Op) (K : U → Option α) : U.fieldAt 0 0 e.u K = K (.int .i64 e.kind) := rfl
@[simp] theorem Op.u_at1 (e : Op) (K : U → Option α) : U.fieldAt 1 1 e.u K = K (.int .i64 e.id) := rfl
@[simp] theorem Op.u_at2 (e : Op) (K : U → Option α) : U.fieldAt 2 2 e.u K = K (.int .i64 e.scheme) := rfl
@[simp] theorem Op.u_at3 (e : Op) (K : U → Option α) : U.fieldAt 3 3 e.u K = K (.int .i64 e.key) := rfl
@[simp] theorem Op.u_at4 (e : Op) (K : U → Option α) : U.fieldAt 4 4 e.u K = K (.int .i64 e.high) := rfl
@[simp] theorem Op.u_at5 (e : Op) (K : U → Option α) : U.fieldAt 5 5 e.u K = K (.int .i64 e.value) := rfl
@[simp] theorem Op.u_flat (e : Op) : e.u.flat = true := rfl
@[simp] theorem Op.u_asFlat (e : Op) (K : U → Option α) : U.asFlat e.u K = K e.u := rfl
@[simp] theorem Op.u_eqv (x y : Op) : U.eqv 8 x.u y.u = some (decide (x = y)) := by
  obtain ⟨a0, a1, a2, a3, a4, a5⟩ := x
  obtain ⟨b0, b1, b2, b3, b4, b5⟩ := y
  simp only [Op.mk.injEq]
  show (if 6 = 6 then eqInts _ _ else none) = _
  simp only [if_true, eqInts_cons, eqInts_nil, Option.map_some, Bool.decide_and, Bool.and_true]
  rfl
structure StepR where
  code : Int
  values : List Int
  deriving DecidableEq
def StepR.u (e : StepR) : U := .agg [.int .i64 e.code, .sl 1 (e.values.map intU)]
@[simp] theorem StepR.u_size (e : StepR) : e.u.size = 2 := rfl
@[simp] theorem StepR.u_var (e : StepR) (K : U → Option α) : U.asVar true 2 e.u K = K e.u := rfl
@[simp] theorem StepR.u_storable (e : StepR) : storable (.val e.u) = true := rfl
@[simp] theorem StepR.u_partable (e : StepR) : partable (.val e.u) = true := rfl
@[simp] theorem StepR.u_noTup (e : StepR) (K : U → Option α) : U.noTup e.u K = K e.u := rfl
@[simp] theorem StepR.u_agg (e : StepR) (K : List U → Option α) : U.asAgg e.u K = K [.int .i64 e.code, .sl 1 (e.values.map intU)] := rfl
@[simp] theorem StepR.u_at0 (e : StepR) (K : U → Option α) : U.fieldAt 0 0 e.u K = K (.int .i64 e.code) := rfl
@[simp] theorem StepR.u_at1 (e : StepR) (K : U → Option α) : U.fieldAt 1 1 e.u K = K (.sl 1 (e.values.map intU)) := rfl
def chainU (l : List Version) : U := .sl 5 (l.map Version.u)
@[simp] theorem chainU_size (l : List Version) : (chainU l).size = 1 := rfl
@[simp] theorem asVar_chainU (l : List Version) (K : U → Option α) : U.asVar false 1 (chainU l) K = K (chainU l) := rfl
@[simp] theorem storable_chainU (l : List Version) : storable (.val (chainU l)) = true := rfl
@[simp] theorem partable_chainU (l : List Version) : partable (.val (chainU l)) = true := rfl
@[simp] theorem noTup_chainU (l : List Version) (K : U → Option α) : U.noTup (chainU l) K = K (chainU l) := rfl
@[simp] theorem lenOf_chainU (l : List Version) : U.lenOf false (chainU l) = some l.length := by simp [chainU]
@[simp] theorem elemAt_chainU (l : List Version) (i : Int) (K : U → Option α) : U.elemAt 5 (chainU l) i K = U.elemAt 5 (.sl 5 (l.map Version.u)) i K := rfl
structure Store where
  chains : List (List Version)
  deriving DecidableEq
def Store.u (e : Store) : U := .agg [.sl 1 (e.chains.map chainU)]
@[simp] theorem Store.u_size (e : Store) : e.u.size = 1 := rfl
@[simp] theorem Store.u_var (e : Store) (K : U → Option α) : U.asVar true 1 e.u K = K e.u := rfl
@[simp] theorem Store.u_storable (e : Store) : storable (.val e.u) = true := rfl
@[simp] theorem Store.u_partable (e : Store) : partable (.val e.u) = true := rfl
@[simp] theorem Store.u_noTup (e : Store) (K : U → Option α) : U.noTup e.u K = K e.u := rfl
@[simp] theorem Store.u_agg (e : Store) (K : List U → Option α) : U.asAgg e.u K = K [.sl 1 (e.chains.map chainU)] := rfl
@[simp] theorem Store.u_at0 (e : Store) (K : U → Option α) : U.fieldAt 0 0 e.u K = K (.sl 1 (e.chains.map chainU)) := rfl
structure Engine where
  certify : Bool
  store : Store
  transactions : List Transaction
  locks : List Lock
  waits : List Wait
  stamp : Int
  deriving DecidableEq
def Engine.u (e : Engine) : U := .agg [.bool e.certify, e.store.u, .sl 9 (e.transactions.map Transaction.u), .sl 2 (e.locks.map Lock.u), .sl 2 (e.waits.map Wait.u), .int .i64 e.stamp]
@[simp] theorem Engine.u_size (e : Engine) : e.u.size = 6 := rfl
@[simp] theorem Engine.u_var (e : Engine) (K : U → Option α) : U.asVar true 6 e.u K = K e.u := rfl
@[simp] theorem Engine.u_storable (e : Engine) : storable (.val e.u) = true := rfl
@[simp] theorem Engine.u_partable (e : Engine) : partable (.val e.u) = true := rfl
@[simp] theorem Engine.u_noTup (e : Engine) (K : U → Option α) : U.noTup e.u K = K e.u := rfl
@[simp] theorem Engine.u_agg (e : Engine) (K : List U → Option α) : U.asAgg e.u K = K [.bool e.certify, e.store.u, .sl 9 (e.transactions.map Transaction.u), .sl 2 (e.locks.map Lock.u), .sl 2 (e.waits.map Wait.u), .int .i64 e.stamp] := rfl
@[simp] theorem Engine.u_at0 (e : Engine) (K : U → Option α) : U.fieldAt 0 0 e.u K = K (.bool e.certify) := rfl
@[simp] theorem Engine.u_at1 (e : Engine) (K : U → Option α) : U.fieldAt 1 1 e.u K = K (e.store.u) := rfl
@[simp] theorem Engine.u_at2 (e : Engine) (K : U → Option α) : U.fieldAt 2 2 e.u K = K (.sl 9 (e.transactions.map Transaction.u)) := rfl
@[simp] theorem Engine.u_at3 (e : Engine) (K : U → Option α) : U.fieldAt 3 3 e.u K = K (.sl 2 (e.locks.map Lock.u)) := rfl
@[simp] theorem Engine.u_at4 (e : Engine) (K : U → Option α) : U.fieldAt 4 4 e.u K = K (.sl 2 (e.waits.map Wait.u)) := rfl
@[simp] theorem Engine.u_at5 (e : Engine) (K : U → Option α) : U.fieldAt 5 5 e.u K = K (.int .i64 e.stamp) := rfl
structure Node where
  engine : Engine
  log : ByteArray
  deriving DecidableEq
def Node.u (e : Node) : U := .agg [e.engine.u, .str e.log]
@[simp] theorem Node.u_size (e : Node) : e.u.size = 7 := rfl
@[simp] theorem Node.u_var (e : Node) (K : U → Option α) : U.asVar true 7 e.u K = K e.u := rfl
@[simp] theorem Node.u_storable (e : Node) : storable (.val e.u) = true := rfl
@[simp] theorem Node.u_partable (e : Node) : partable (.val e.u) = true := rfl
@[simp] theorem Node.u_noTup (e : Node) (K : U → Option α) : U.noTup e.u K = K e.u := rfl
@[simp] theorem Node.u_agg (e : Node) (K : List U → Option α) : U.asAgg e.u K = K [e.engine.u, .str e.log] := rfl
@[simp] theorem Node.u_at0 (e : Node) (K : U → Option α) : U.fieldAt 0 0 e.u K = K (e.engine.u) := rfl
@[simp] theorem Node.u_at1 (e : Node) (K : U → Option α) : U.fieldAt 1 6 e.u K = K (.str e.log) := rfl
structure Report where
  order : List Int
  cycle : List Int
  kind : Int
  deriving DecidableEq
def Report.u (e : Report) : U := .agg [.sl 1 (e.order.map intU), .sl 1 (e.cycle.map intU), .int .i64 e.kind]
@[simp] theorem Report.u_size (e : Report) : e.u.size = 3 := rfl
@[simp] theorem Report.u_var (e : Report) (K : U → Option α) : U.asVar true 3 e.u K = K e.u := rfl
@[simp] theorem Report.u_storable (e : Report) : storable (.val e.u) = true := rfl
@[simp] theorem Report.u_partable (e : Report) : partable (.val e.u) = true := rfl
@[simp] theorem Report.u_noTup (e : Report) (K : U → Option α) : U.noTup e.u K = K e.u := rfl
@[simp] theorem Report.u_agg (e : Report) (K : List U → Option α) : U.asAgg e.u K = K [.sl 1 (e.order.map intU), .sl 1 (e.cycle.map intU), .int .i64 e.kind] := rfl
@[simp] theorem Report.u_at0 (e : Report) (K : U → Option α) : U.fieldAt 0 0 e.u K = K (.sl 1 (e.order.map intU)) := rfl
@[simp] theorem Report.u_at1 (e : Report) (K : U → Option α) : U.fieldAt 1 1 e.u K = K (.sl 1 (e.cycle.map intU)) := rfl
@[simp] theorem Report.u_at2 (e : Report) (K : U → Option α) : U.fieldAt 2 2 e.u K = K (.int .i64 e.kind) := rfl
variable {E : Env}
def inR (n lo hi : Int) : Bool := decide (lo ≤ n ∧ n ≤ hi)
theorem f38_is (h : G_f38 E) (n lo hi : Int) : E 6 [.int .i64 n, .int .i64 lo, .int .i64 hi] = some (.bool (inR n lo hi)) := by
  rw [f38_E h]
  by_cases h1 : lo ≤ n <;> simp [inR, h1]
theorem f14_is (h : G_f14 E) (n lo hi : Int) : E 10 [.int .i64 n, .int .i64 lo, .int .i64 hi] = some (.bool (inR n lo hi)) := by
  rw [f14_E h]
  by_cases h1 : lo ≤ n <;> simp [inR, h1]
theorem f15_is (h : G_f15 E) (n : Int) : E 9 [.int .i64 n] = some (.bool (inR n 1 9)) := by
  rw [f15_E h]; simp [f14_is h.c_f14]
theorem f16_is (h : G_f16 E) (n : Int) : E 11 [.int .i64 n] = some (.bool (inR n 0 5)) := by
  rw [f16_E h]; simp [f14_is h.c_f14]
def cmpI (a b : Int) : Int := if a < b then -1 else if b < a then 1 else 0
theorem cmp_isNaN_is (h : G_f2 E) (n : Int) : E 15 [.int .i64 n] = some (.bool false) := by
  rw [f2_E h]; simp
theorem cmp_Compare_is (h : G_f0 E) (a b : Int) : E 13 [.int .i64 a, .int .i64 b] = some (.int .i64 (cmpI a b)) := by
  rw [f0_E h]
  simp only [cmp_isNaN_is h.c_f2, cmpI]
  by_cases h1 : a < b <;> by_cases h2 : b < a <;> simp [h1, h2]
def cmpOr : List Int → Int
  | [] => 0
  | n :: l => if n = 0 then cmpOr l else n
theorem cmp_Or_l0_is (l : List Int) (hl : l.length ≤ 1000) : ∀ (r p : List Int) (i : Int), l = p ++ r → i = p.length → f1_l0 E (.int .i64 0) (intsU l) (.int .i64 l.length) (.int .i64 i) = some (.int .i64 (cmpOr r))
  | [], p, i, e, hi => by
    rw [f1_l0_eq]
    simp [mid_end e hi, cmpOr]
  | x :: r, p, i, e, hi => by
    obtain ⟨h0, hlt, hx, hw, hn, _⟩ := mid_at e hi (by omega)
    have ih := cmp_Or_l0_is l hl r (p ++ [x]) (i + 1) (mid_next e) hn
    rw [f1_l0_eq]
    simp [h0, hlt, hx, hw, cmpOr, ih]
    split <;> simp_all
theorem cmp_Or_is (h : G_f1 E) (l : List Int) (hl : l.length ≤ 1000) : E 14 [intsU l] = some (.int .i64 (cmpOr l)) := by
  rw [f1_E h]
  simp [cmp_Or_l0_is (E := E) l hl l [] 0 rfl rfl]
def LogRecord.tx (r : LogRecord) : Transaction := ⟨r.id, 1, 2, 0, 0, r.high, r.stamp, r.reads, r.writes⟩
def edgeLt (a b : Edge) : Bool :=
  if a.frm ≠ b.frm then decide (a.frm < b.frm) else if a.to ≠ b.to then decide (a.to < b.to) else if a.kind ≠ b.kind then decide (a.kind < b.kind) else decide (a.key < b.key)
def edgeCmp (a b : Edge) : Int := cmpOr [cmpI a.frm b.frm, cmpI a.to b.to, cmpI a.kind b.kind, cmpI a.key b.key]
theorem cmpI_zero {a b : Int} : cmpI a b = 0 ↔ a = b := by unfold cmpI; split <;> (try split) <;> omega
theorem cmpI_neg {a b : Int} : cmpI a b < 0 ↔ a < b := by unfold cmpI; split <;> (try split) <;> omega
theorem edgeCmp_neg (a b : Edge) : edgeCmp a b < 0 ↔ edgeLt a b = true := by
  unfold edgeCmp edgeLt
  simp only [cmpOr, cmpI_zero]
  by_cases h1 : a.frm = b.frm <;> by_cases h2 : a.to = b.to <;> by_cases h3 : a.kind = b.kind <;> by_cases h4 : a.key = b.key <;> simp [h1, h2, h3, h4, cmpI_neg]
theorem f12_is (h : G_f12 E) (a b : Edge) : E 12 [a.u, b.u] = some (.int .i64 (edgeCmp a b)) := by
  rw [f12_E h]
  have := cmp_Or_is h.c_f1 [cmpI a.frm b.frm, cmpI a.to b.to, cmpI a.kind b.kind, cmpI a.key b.key] (by simp)
  simp only [intsU, List.map_cons, List.map_nil, intU] at this
  simp [cmp_Compare_is h.c_f0, this, edgeCmp]
theorem f34_is (h : G_f34 E) (a b : Edge) : E 7 [a.u, b.u] = some (.bool (edgeLt a b)) := by
  rw [f34_E h]
  by_cases h1 : a.frm = b.frm <;> by_cases h2 : a.to = b.to <;> by_cases h3 : a.kind = b.kind <;> simp [h1, h2, h3, edgeLt]
theorem flats_map {α : Type} (f : α → U) (h : ∀ x, (f x).flat = true) : ∀ l : List α, U.flat.flats (l.map f) = true
  | [] => rfl
  | x :: l => by
    simp only [List.map_cons, U.flat.flats, h x, flats_map f h l, Bool.and_self]
@[simp] theorem flats_edges (l : List Edge) : U.flat.flats (l.map Edge.u) = true := flats_map _ (fun _ => rfl) l
@[simp] theorem flats_ints (l : List Int) : U.flat.flats (l.map intU) = true := flats_map _ (fun _ => rfl) l
set_option linter.unusedVariables false
def byteU (n : Int) : U := .int .u8 n
abbrev curU (bs : List Int) (i h : Int) : U := .vp (.agg [.sl 1 (bs.map byteU), .int .i64 i, .int .i64 h])
theorem and_255 (a : Int) : ∃ x : Int, U.bin .and (.int .i64 a) (.int .i64 255) = some (.int .i64 x) ∧ 0 ≤ x ∧ x ≤ 255 := by
  have h1 : (BitVec.ofInt IntKind.i64.bits a &&& BitVec.ofInt IntKind.i64.bits 255).toNat ≤ 255 := by
    rw [BitVec.toNat_and]
    refine Nat.le_trans Nat.and_le_right ?_
    decide
  refine ⟨IntKind.i64.wrap ((BitVec.ofInt IntKind.i64.bits a &&& BitVec.ofInt IntKind.i64.bits 255).toNat : Int), by simp only [U.bin, if_true], ?_, ?_⟩
  · rw [wrap_in (by omega)]; omega
  · rw [wrap_in (by omega)]; omega
theorem xor_some (a b : Int) : ∃ x : Int, U.bin .xor (.int .i64 a) (.int .i64 b) = some (.int .i64 x) := ⟨_, by simp only [U.bin, if_true]; rfl⟩
theorem and_some (a b : Int) : ∃ x : Int, U.bin .and (.int .i64 a) (.int .i64 b) = some (.int .i64 x) := ⟨_, by simp only [U.bin, if_true]; rfl⟩
theorem shr_some (a n : Int) (h : 0 ≤ n) : ∃ x : Int, U.bin .shr (.int .i64 a) (.int .u64 n) = some (.int .i64 x) := ⟨_, by simp only [U.bin]; rw [if_neg (by omega)]⟩
@[simp] theorem asPtr_of {γ : Type} (a b : U) (K : U → U → Option γ) : U.asPtr (.tup [a, b]) K = K a b := rfl
theorem spec_l1Byte_is (h : G_f37 E) (bs : List Int) (hb : bs.length ≤ 1048576) (i s : Int) (h0 : 0 ≤ i) (h1 : i ≤ 2000000) :
    ∃ x i' s', E 400418 (.agg [.tup [curU bs i s]] :: []) = some (.tup [.int .i64 x, curU bs i' s']) ∧ (0 ≤ x ∧ x ≤ 255) ∧ 0 ≤ i' ∧ i' ≤ 2000000 := by
  rw [f37_E h]
  obtain ⟨a1, e1⟩ := shr_some (IntKind.i64.wrap (IntKind.i64.wrap (s * 6364136223846793005) + 1442695040888963407)) 33 (by omega)
  obtain ⟨a2, e2⟩ := shr_some (IntKind.i64.wrap (IntKind.i64.wrap (s * 6364136223846793005) + 1442695040888963407)) 45 (by omega)
  obtain ⟨a3, e3⟩ := xor_some a1 a2
  obtain ⟨a4, e4, b4⟩ := and_255 a3
  by_cases hi : i < (bs.length : Int)
  · have hget : bs[i.toNat]? = some (bs[i.toNat]'(by omega)) := List.getElem?_eq_getElem (by omega)
    have hel : ∀ {γ : Type} (K : U → Option γ), U.elemAt 1 (.sl 1 (bs.map byteU)) i K = K (byteU (bs[i.toNat]'(by omega))) := fun K => elemAt_get byteU h0 hget K
    obtain ⟨a5, e5, b5⟩ := and_255 (IntKind.i64.wrap (a4 + IntKind.i64.wrap (bs[i.toNat]'(by omega))))
    have hw : IntKind.i64.wrap (i + 1) = i + 1 := wrap_in (by omega)
    refine ⟨a5, i + 1, IntKind.i64.wrap (IntKind.i64.wrap (s * 6364136223846793005) + 1442695040888963407), ?_, b5, by omega, by omega⟩
    simp [e1, e2, e3, e4, hi, hel, byteU, U.conv, e5, hw]
  · refine ⟨a4, i, IntKind.i64.wrap (IntKind.i64.wrap (s * 6364136223846793005) + 1442695040888963407), ?_, b4, h0, h1⟩
    simp [e1, e2, e3, e4, hi]
theorem spec_l1Below_is (h : G_f36 E) (bs : List Int) (hb : bs.length ≤ 1048576) (n : Int) (hn : 1 ≤ n) (hn2 : n ≤ 256) (i s : Int) (h0 : 0 ≤ i) (h1 : i ≤ 2000000) :
    ∃ x i' s', E 400416 (.agg [.tup [curU bs i s]] :: [.int .i64 n]) = some (.tup [.int .i64 x, curU bs i' s']) ∧ (0 ≤ x ∧ x < n) ∧ 0 ≤ i' ∧ i' ≤ 2000000 := by
  obtain ⟨x, i', s', e, hx, hi⟩ := spec_l1Byte_is h.c_f37 bs hb i s h0 h1
  refine ⟨x.tmod n, i', s', ?_, ⟨?_, ?_⟩, hi⟩
  · rw [f36_E h]
    have c1 : ¬ n ≤ 0 := by omega
    have c2 : ¬ n = 0 := by omega
    simp [c1, c2, hn2, e, U.asVp, U.asSlK]
  · exact Int.tmod_nonneg _ hx.1
  · exact Int.tmod_lt_of_pos _ (by omega)
theorem spec_l1Once_is (h : G_f39 E) (bs : List Int) (hb : bs.length ≤ 1048576) (n : Int) (hn : 1 ≤ n) (hn2 : n ≤ 256) (i s : Int) (h0 : 0 ≤ i) (h1 : i ≤ 2000000) :
    ∃ b i' s', E 400417 (.agg [.tup [curU bs i s]] :: [.int .i64 n]) = some (.tup [.bool b, curU bs i' s']) ∧ 0 ≤ i' ∧ i' ≤ 2000000 := by
  obtain ⟨x, i', s', e, hx, hi⟩ := spec_l1Below_is h.c_f36 bs hb n hn hn2 i s h0 h1
  refine ⟨decide (x = 0), i', s', ?_, hi⟩
  rw [f39_E h]
  simp [e, U.asVp, U.asSlK]
def edgeOK (e : Edge) : Bool := inR e.frm 1 9 && inR e.to 1 9 && !decide (e.frm = e.to) && inR e.kind 1 3 && inR e.key 0 5
def edgesFrom : Option Edge → List Edge → Bool
  | _, [] => true
  | p, e :: r => edgeOK e && (match p with | none => true | some q => edgeLt q e) && edgesFrom (some e) r
def areEdges (l : List Edge) : Bool := edgesFrom none l
abbrev edgesU (l : List Edge) : U := .sl 4 (l.map Edge.u)
theorem f24_l0_is (h : G_f24 E) (l : List Edge) (hl : l.length ≤ 1048576) : ∀ (r p : List Edge) (i : Int), l = p ++ r → i = p.length →
    f24_l0 E (edgesU l) (.int .i64 i) = some (.bool (edgesFrom p.getLast? r))
  | [], p, i, e, hi => by
    rw [f24_l0_eq]
    simp [mid_end e hi, edgesFrom]
  | x :: r, p, i, e, hi => by
    obtain ⟨h0, hlt, hx, hw, hn, _⟩ := mid_at e hi (by omega)
    have ih := f24_l0_is h l hl r (p ++ [x]) (i + 1) (mid_next e) hn
    rw [List.getLast?_concat] at ih
    rw [f24_l0_eq]
    by_cases hp : p = []
    · have hi0 : ¬ 0 < i := by subst hp; simp at hi; omega
      simp [h0, hlt, hx, hw, ih, f38_is h.c_f38, edgesFrom, edgeOK, hi0, hp]
      cases inR x.frm 1 9 <;> cases inR x.to 1 9 <;> cases inR x.kind 1 3 <;> cases inR x.key 0 5 <;> by_cases h3 : x.frm = x.to <;> simp [h3]
    · obtain ⟨q, j, hq, hpos, hw1, h1, hq1, _⟩ := mid_last e hi (by omega) hp
      simp [h0, hlt, hx, hw, ih, f38_is h.c_f38, edgesFrom, edgeOK, hq, hpos, hw1, h1, hq1, f34_is h.c_f34]
      cases inR x.frm 1 9 <;> cases inR x.to 1 9 <;> cases inR x.kind 1 3 <;> cases inR x.key 0 5 <;> by_cases h3 : x.frm = x.to <;> cases edgeLt q x <;> simp [h3]
theorem f24_is (h : G_f24 E) (l : List Edge) (hl : l.length ≤ 1048576) : E 4 [edgesU l] = some (.bool (areEdges l)) := by
  rw [f24_E h]
  simp [f24_l0_is h l hl l [] 0 rfl rfl, areEdges]
theorem f3_l0_is (h : G_f3 E) (l : List Edge) (hl : l.length ≤ 1048576) : ∀ (r p : List Edge) (i : Int), l = p ++ r → i = p.length →
    f3_l0 E (edgesU l) (edgesU l) (.int .i64 l.length) (.int .i64 i) = some (.bool (edgesFrom p.getLast? r))
  | [], p, i, e, hi => by
    rw [f3_l0_eq]
    simp [mid_end e hi, edgesFrom]
  | x :: r, p, i, e, hi => by
    obtain ⟨h0, hlt, hx, hw, hn, _⟩ := mid_at e hi (by omega)
    have ih := f3_l0_is h l hl r (p ++ [x]) (i + 1) (mid_next e) hn
    rw [List.getLast?_concat] at ih
    rw [f3_l0_eq]
    by_cases hp : p = []
    · have hi0 : ¬ 0 < i := by subst hp; simp at hi; omega
      simp [h0, hlt, hx, hw, ih, f15_is h.c_f15, f14_is h.c_f14, f16_is h.c_f16, edgesFrom, edgeOK, hi0, hp]
      cases inR x.frm 1 9 <;> cases inR x.to 1 9 <;> cases inR x.kind 1 3 <;> cases inR x.key 0 5 <;> by_cases h3 : x.frm = x.to <;> simp [h3]
    · obtain ⟨q, j, hq, hpos, hw1, h1, hq1, _⟩ := mid_last e hi (by omega) hp
      have hc := edgeCmp_neg q x
      simp [h0, hlt, hx, hw, ih, f15_is h.c_f15, f14_is h.c_f14, f16_is h.c_f16, edgesFrom, edgeOK, hq, hpos, hw1, h1, hq1, f12_is h.c_f12]
      cases inR x.frm 1 9 <;> cases inR x.to 1 9 <;> cases inR x.kind 1 3 <;> cases inR x.key 0 5 <;> by_cases h3 : x.frm = x.to <;> cases h4 : edgeLt q x <;> simp_all <;> omega
theorem f3_is (h : G_f3 E) (l : List Edge) (hl : l.length ≤ 1048576) : E 3 [edgesU l] = some (.bool (areEdges l)) := by
  rw [f3_E h]
  simp [f3_l0_is h l hl l [] 0 rfl rfl, areEdges]
def szc (n : Nat) (left : Int) : Int := if left - n < 0 then -1 else left - n
def szl {α : Type} (f : α → Int → Int) : List α → Int → Int
  | [], left => left
  | x :: r, left => if f x left < 0 then -1 else szl f r (f x left)
def szL {α : Type} (f : α → Int → Int) (l : List α) (left : Int) : Int := if left - (l.length : Int) < 0 then -1 else szl f l (left - l.length)
def Entry.ok (e : Entry) : Prop := e.reads.length ≤ 1048576 ∧ e.writes.length ≤ 1048576
def LogRecord.ok (e : LogRecord) : Prop := e.reads.length ≤ 1048576 ∧ e.writes.length ≤ 1048576
def Transaction.ok (e : Transaction) : Prop := e.reads.length ≤ 1048576 ∧ e.writes.length ≤ 1048576
def chainOk (l : List Version) : Prop := l.length ≤ 1048576
def chainSz (l : List Version) (left : Int) : Int := szc l.length left
def Store.ok (s : Store) : Prop := s.chains.length ≤ 1048576 ∧ ∀ c ∈ s.chains, chainOk c
def Store.sz (s : Store) (left : Int) : Int := szL chainSz s.chains left
def Transaction.sz (e : Transaction) (left : Int) : Int := let v := szc e.reads.length left; if v < 0 then -1 else szc e.writes.length v
def Engine.ok (e : Engine) : Prop := e.store.ok ∧ e.transactions.length ≤ 1048576 ∧ (∀ t ∈ e.transactions, t.ok) ∧ e.locks.length ≤ 1048576 ∧ e.waits.length ≤ 1048576
def Engine.sz (e : Engine) (left : Int) : Int :=
  if e.store.sz left < 0 then -1 else
  if szL Transaction.sz e.transactions (e.store.sz left) < 0 then -1 else
  if szc e.locks.length (szL Transaction.sz e.transactions (e.store.sz left)) < 0 then -1 else
  szc e.waits.length (szc e.locks.length (szL Transaction.sz e.transactions (e.store.sz left)))
def idxF {α : Type} (P : α → Bool) : List α → Int → Int
  | [], _ => -1
  | x :: r, i => if P x then i else idxF P r (i + 1)
theorem idxF_any {α : Type} (P : α → Bool) (l : List α) : ∀ {i : Int}, 0 ≤ i → (decide (0 ≤ idxF P l i)) = l.any P := by
  induction l with
  | nil => intro i _; simp [idxF]
  | cons x r ih =>
    intro i hi
    cases h : P x
    · simp [idxF, h, ih (i := i + 1) (by omega)]
    · simp [idxF, h, hi]
theorem idxF_mem {α : Type} [DecidableEq α] (v : α) (l : List α) : ∀ {i : Int}, 0 ≤ i → (decide (0 ≤ idxF (fun x => decide (x = v)) l i)) = decide (v ∈ l) := by
  induction l with
  | nil => intro i _; simp [idxF]
  | cons x r ih =>
    intro i hi
    by_cases h : x = v
    · simp [idxF, h, hi]
    · have h2 : v ≠ x := fun e => h e.symm
      simp only [idxF, h, decide_false, Bool.false_eq_true, if_false, ih (i := i + 1) (by omega)]
      simp [h2]
theorem f22_l0_is (l : List Edge) (hl : l.length ≤ 9223372036854775807) (q : Nat) (caps : List U) (P : Edge → Bool) (hp : ∀ x ∈ l, E q (Edge.u x :: caps) = some (.bool (P x))) (hq : q < 100000) : ∀ (r p : List Edge) (i : Int), l = p ++ r → i = p.length →
    f22_l0 E (.sl 4 (l.map Edge.u)) (.fn q caps) (.int .i64 l.length) (.int .i64 i) = some (.int .i64 (idxF P r i))
  | [], p, i, e, hi => by
    rw [f22_l0_eq]
    simp [mid_end e hi, idxF]
  | x :: r, p, i, e, hi => by
    obtain ⟨h0, hlt, hx, hw, hn, _⟩ := mid_at e hi hl
    have hpx := hp x (by rw [e]; simp)
    have ih := f22_l0_is l hl q caps P hp hq r (p ++ [x]) (i + 1) (mid_next e) hn
    rw [f22_l0_eq]
    cases h1 : P x <;> simp [hlt, hx, hw, ih, hpx, hq, h1, idxF]
theorem f22_is (h : G_f22 E) (l : List Edge) (hl : l.length ≤ 9223372036854775807) (q : Nat) (caps : List U) (P : Edge → Bool) (hp : ∀ x ∈ l, E q (Edge.u x :: caps) = some (.bool (P x))) (hq : q < 100000 := by decide) :
    E 66 [.sl 4 (l.map Edge.u), .fn q caps] = some (.int .i64 (idxF P l 0)) := by
  rw [f22_E h]
  simp [f22_l0_is l hl q caps P hp hq l [] 0 rfl rfl]
theorem f20_is (h : G_f20 E) (l : List Edge) (hl : l.length ≤ 9223372036854775807) (q : Nat) (caps : List U) (P : Edge → Bool) (hp : ∀ x ∈ l, E q (Edge.u x :: caps) = some (.bool (P x))) (hq : q < 100000 := by decide) :
    E 65 [.sl 4 (l.map Edge.u), .fn q caps] = some (.bool (l.any P)) := by
  rw [f20_E h]
  simp [f22_is h.c_f22 l hl q caps P hp hq, idxF_any]
theorem f23_l0_is (l : List Int) (hl : l.length ≤ 9223372036854775807) (v : Int) : ∀ (r p : List Int) (i : Int), l = p ++ r → i = p.length →
    f23_l0 E (.sl 1 (l.map intU)) (.int .i64 v) (.int .i64 l.length) (.int .i64 i) = some (.int .i64 (idxF (fun x => decide (x = v)) r i))
  | [], p, i, e, hi => by
    rw [f23_l0_eq]
    simp [mid_end e hi, idxF]
  | x :: r, p, i, e, hi => by
    obtain ⟨h0, hlt, hx, hw, hn, _⟩ := mid_at e hi hl
    have ih := f23_l0_is l hl v r (p ++ [x]) (i + 1) (mid_next e) hn
    rw [f23_l0_eq]
    by_cases h1 : x = v
    · simp [hlt, hx, hw, ih, h1, idxF]
    · have h2 : v ≠ x := fun e => h1 e.symm
      simp [hlt, hx, hw, ih, h1, h2, idxF]
theorem f23_is (h : G_f23 E) (l : List Int) (hl : l.length ≤ 9223372036854775807) (v : Int) :
    E 43 [.sl 1 (l.map intU), .int .i64 v] = some (.int .i64 (idxF (fun x => decide (x = v)) l 0)) := by
  rw [f23_E h]
  simp [f23_l0_is l hl v l [] 0 rfl rfl]
theorem f21_is (h : G_f21 E) (l : List Int) (hl : l.length ≤ 9223372036854775807) (v : Int) :
    E 42 [.sl 1 (l.map intU), .int .i64 v] = some (.bool (decide (v ∈ l))) := by
  rw [f21_E h]
  simp [f23_is h.c_f23 l hl v, idxF_mem]
def isEdge (a b : Int) (e : Edge) : Bool := decide (e.frm = a) && decide (e.to = b)
def hasEdge (l : List Edge) (a b : Int) : Bool := l.any (isEdge a b)
theorem f9_is (h : G_f9 E) (e : Edge) (a b : Int) : E 64 [e.u, .vp (.int .i64 a), .vp (.int .i64 b)] = some (.bool (isEdge a b e)) := by
  rw [f9_E h]
  by_cases h1 : e.frm = a <;> simp [isEdge, h1]
theorem f8_is (h : G_f8 E) (l : List Edge) (hl : l.length ≤ 1048576) (a b : Int) : E 63 [edgesU l, .int .i64 a, .int .i64 b] = some (.bool (hasEdge l a b)) := by
  rw [f8_E h]
  simp [f20_is h.c_f20 l (by omega) 64 [.vp (.int .i64 a), .vp (.int .i64 b)] (isEdge a b) (fun e _ => f9_is h.c_f9 e a b), hasEdge]
theorem f29_l0_is (l : List Edge) (hl : l.length ≤ 1048576) (a b : Int) : ∀ (r p : List Edge) (i : Int), l = p ++ r → i = p.length →
    f29_l0 E (edgesU l) (.int .i64 a) (.int .i64 b) (.int .i64 i) = some (.bool (r.any (isEdge a b)))
  | [], p, i, e, hi => by
    rw [f29_l0_eq]
    simp [mid_end e hi]
  | x :: r, p, i, e, hi => by
    obtain ⟨h0, hlt, hx, hw, hn, _⟩ := mid_at e hi (by omega)
    have ih := f29_l0_is l hl a b r (p ++ [x]) (i + 1) (mid_next e) hn
    rw [f29_l0_eq]
    by_cases h1 : x.frm = a <;> by_cases h2 : x.to = b <;> simp [hlt, hx, hw, ih, h1, h2, isEdge]
theorem f29_is (h : G_f29 E) (l : List Edge) (hl : l.length ≤ 1048576) (a b : Int) : E 62 [edgesU l, .int .i64 a, .int .i64 b] = some (.bool (hasEdge l a b)) := by
  rw [f29_E h]
  exact f29_l0_is l hl a b l [] 0 rfl rfl
def cycFrom (l : List Edge) (c : List Int) : List Int → List Int → Bool
  | _, [] => true
  | p, x :: r => !decide (x ∈ p) && hasEdge l x (c.getD ((p.length + 1) % c.length) 0) && cycFrom l c (p ++ [x]) r
def isCycle (l : List Edge) (c : List Int) : Bool := areEdges l && decide (1 < c.length) && cycFrom l c [] c
theorem next_at {c p r : List Int} {x i : Int} (e : c = p ++ x :: r) (hi : i = p.length) (hl : c.length ≤ 1048576) :
    ∃ j, (i + 1).tmod c.length = j ∧ ((c.length : Int) = 0 → False) ∧ ∀ {γ : Type} (K : U → Option γ), U.elemAt 1 (.sl 1 (c.map intU)) j K = K (intU (c.getD ((p.length + 1) % c.length) 0)) := by
  have hpos : 0 < c.length := by rw [e, List.length_append, List.length_cons]; omega
  refine ⟨((p.length + 1) % c.length : Nat), ?_, by omega, fun K => ?_⟩
  · subst hi
    rw [Int.tmod_eq_emod_of_nonneg (by omega)]
    rw [Int.natCast_emod]
    rfl
  · have hlt : (p.length + 1) % c.length < c.length := Nat.mod_lt _ hpos
    exact elemAt_get intU (Int.natCast_nonneg _) (by rw [Int.toNat_natCast, List.getElem?_eq_getElem hlt, List.getD_eq_getElem?_getD, List.getElem?_eq_getElem hlt]; rfl) K
theorem f4_l0_is (h : G_f4 E) (l : List Edge) (hl : l.length ≤ 1048576) (c : List Int) (hc : c.length ≤ 1048576) : ∀ (r p : List Int) (i : Int), c = p ++ r → i = p.length →
    f4_l0 E (edgesU l) (intsU c) (intsU c) (.int .i64 c.length) (.int .i64 i) = some (.bool (cycFrom l c p r))
  | [], p, i, e, hi => by
    rw [f4_l0_eq]
    simp [mid_end e hi, cycFrom]
  | x :: r, p, i, e, hi => by
    obtain ⟨h0, hlt, hx, hw, hn, _⟩ := mid_at e hi (by omega)
    obtain ⟨j, hj, hz, hj2⟩ := next_at e hi hc
    have ih := f4_l0_is h l hl c hc r (p ++ [x]) (i + 1) (mid_next e) hn
    have hp : p.length ≤ 9223372036854775807 := by have := congrArg List.length e; simp at this; omega
    have hcut := mid_cut (k := 1) intU e hi
    have hz' : c ≠ [] := by rw [e]; simp
    rw [f4_l0_eq]
    by_cases h1 : x ∈ p
    · simp [hlt, hx, hw, hcut, f21_is h.c_f21 p hp, h1, cycFrom]
    · cases h2 : hasEdge l x (c.getD ((p.length + 1) % c.length) 0) <;>
        simp [hlt, hx, hw, hcut, f21_is h.c_f21 p hp, h1, cycFrom, hj, hz', hj2, f8_is h.c_f8 l hl, h2, ih, -List.getD_eq_getElem?_getD]
theorem f4_is (h : G_f4 E) (l : List Edge) (hl : l.length ≤ 1048576) (c : List Int) (hc : c.length ≤ 1048576) : E 60 [edgesU l, intsU c] = some (.bool (isCycle l c)) := by
  rw [f4_E h]
  have h1 := f3_is h.c_f3 l hl
  cases h2 : areEdges l
  · simp [h1, h2, isCycle]
  · by_cases h3 : (c.length : Int) < 2
    · have : ¬ 1 < c.length := by omega
      simp [h1, h2, h3, isCycle, this]
    · have : 1 < c.length := by omega
      simp [h1, h2, h3, isCycle, this, f4_l0_is h l hl c hc c [] 0 rfl rfl]
theorem f25_l1_is (h : G_f25 E) (l : List Edge) (hl : l.length ≤ 1048576) (c : List Int) (hc : c.length ≤ 1048576) (x : Int) (r p : List Int) (i : Int) (e : c = p ++ x :: r) (hi : i = p.length) : ∀ (s q : List Int) (k : Int), p = q ++ s → k = q.length →
    f25_l1 E (edgesU l) (intsU c) (.int .i64 i) (.int .i64 k) = if x ∈ s ∨ hasEdge l x (c.getD ((p.length + 1) % c.length) 0) = false then some (.bool false) else f25_l0 E (edgesU l) (intsU c) (.int .i64 (i + 1))
  | [], q, k, e2, hk => by
    obtain ⟨h0, hlt, hx, hw, hn, _⟩ := mid_at e hi (by omega)
    obtain ⟨j, hj, hz, hj2⟩ := next_at e hi hc
    have hki : ¬ k < i := by rw [hi, e2, hk]; simp
    have hz' : c ≠ [] := by rw [e]; simp
    rw [f25_l1_eq]
    cases h2 : hasEdge l x (c.getD ((p.length + 1) % c.length) 0) <;>
      simp [hki, hx, hw, hj, hj2, hz', f29_is h.c_f29 l hl, h2, -List.getD_eq_getElem?_getD]
  | y :: s, q, k, e2, hk => by
    obtain ⟨h0, hlt, hx, hw, hn, _⟩ := mid_at e hi (by omega)
    have hki : k < i := by rw [hi, e2, hk]; simp; omega
    have e3 : c = q ++ y :: (s ++ x :: r) := by rw [e, e2]; simp
    obtain ⟨k0, klt, kx, kw, kn, _⟩ := mid_at e3 hk (by omega)
    have ih := f25_l1_is h l hl c hc x r p i e hi s (q ++ [y]) (k + 1) (mid_next e2) kn
    rw [f25_l1_eq]
    by_cases h1 : y = x
    · simp [hki, kx, hx, h1]
    · have h1' : ¬ x = y := fun e => h1 e.symm
      simp only [bin_lss, Option.bind_some, hki, decide_true, asBool_bool, if_true, asInt_int, kx, hx, asVar_intU, bin_eql, h1, decide_false, Bool.false_eq_true, if_false, bin_add, kw, List.mem_cons, h1', false_or]
      exact ih
theorem f25_l0_is (h : G_f25 E) (l : List Edge) (hl : l.length ≤ 1048576) (c : List Int) (hc : c.length ≤ 1048576) : ∀ (r p : List Int) (i : Int), c = p ++ r → i = p.length →
    f25_l0 E (edgesU l) (intsU c) (.int .i64 i) = some (.bool (cycFrom l c p r && (areEdges l && decide (1 < c.length))))
  | [], p, i, e, hi => by
    rw [f25_l0_eq]
    have h1 : decide (1 < (c.length : Int)) = decide (1 < c.length) := by congr 1; simp only [eq_iff_iff]; omega
    cases h2 : areEdges l <;> simp [mid_end e hi, cycFrom, f24_is h.c_f24 l hl, h2, h1]
  | x :: r, p, i, e, hi => by
    obtain ⟨h0, hlt, hx, hw, hn, _⟩ := mid_at e hi (by omega)
    have ih := f25_l0_is h l hl c hc r (p ++ [x]) (i + 1) (mid_next e) hn
    have h1 := f25_l1_is h l hl c hc x r p i e hi p [] 0 rfl rfl
    rw [f25_l0_eq]
    simp only [lenOf_sl, List.length_map, Option.bind_some, bin_lss, hlt, decide_true, asBool_bool, if_true]
    rw [h1, ih]
    simp only [cycFrom]
    by_cases h3 : x ∈ p
    · simp [h3]
    · cases h2 : hasEdge l x (c.getD ((p.length + 1) % c.length) 0) <;> simp [h3]
theorem f25_is (h : G_f25 E) (l : List Edge) (hl : l.length ≤ 1048576) (c : List Int) (hc : c.length ≤ 1048576) : E 61 [edgesU l, intsU c] = some (.bool (isCycle l c)) := by
  rw [f25_E h, f25_l0_is h l hl c hc c [] 0 rfl rfl]
  simp only [isCycle, Bool.and_comm]
def at_ (o : List Int) (v : Int) : Int := o.getD v.toNat 0
def relax (P : Int → Bool) (d : Int) (o : List Int) (e : Edge) : List Int := if decide (at_ o e.frm < 0) && P e.to then o.set e.frm.toNat d else o
def layer (to d : Int) (o : List Int) (v : Int) : Bool := if d = 1 then decide (v = to) else decide (at_ o v = d - 1)
def round (l : List Edge) (to d : Int) (o : List Int) : List Int := l.foldl (relax (layer to d o) d) o
def rounds (l : List Edge) (to : Int) : Nat → Int → List Int → List Int
  | 0, _, o => o
  | n + 1, d, o => rounds l to n (d + 1) (round l to d o)
def dist (l : List Edge) (to : Int) : List Int := rounds l to 9 1 (List.replicate 10 (-1))
def Ends (l : List Edge) : Prop := ∀ e ∈ l, 1 ≤ e.frm ∧ e.frm ≤ 9 ∧ 1 ≤ e.to ∧ e.to ≤ 9
theorem edgesFrom_ends : ∀ (l : List Edge) (p : Option Edge), edgesFrom p l = true → Ends l
  | [], _, _ => fun e he => by simp at he
  | x :: r, p, h => by
    simp only [edgesFrom, Bool.and_eq_true] at h
    obtain ⟨⟨h1, _⟩, h2⟩ := h
    have ih := edgesFrom_ends r _ h2
    intro e he
    rcases List.mem_cons.1 he with rfl | he
    · simp only [edgeOK, inR, Bool.and_eq_true, decide_eq_true_eq] at h1
      omega
    · exact ih e he
theorem areEdges_ends {l : List Edge} (h : areEdges l = true) : Ends l := edgesFrom_ends l none h
theorem relax_length (P : Int → Bool) (d : Int) (o : List Int) (e : Edge) : (relax P d o e).length = o.length := by
  unfold relax; split <;> simp
theorem foldl_length (P : Int → Bool) (d : Int) (l : List Edge) : ∀ o : List Int, (l.foldl (relax P d) o).length = o.length := by
  induction l with
  | nil => intro o; rfl
  | cons e l ih => intro o; rw [List.foldl_cons, ih, relax_length]
theorem at_set (o : List Int) (ho : o.length = 10) (f v d : Int) (hf : 1 ≤ f ∧ f ≤ 9) (hv : 0 ≤ v) : at_ (o.set f.toNat d) v = if v = f then d else at_ o v := by
  unfold at_
  by_cases h : v = f
  · subst h
    have : v.toNat < o.length := by omega
    simp [this]
  · have : f.toNat ≠ v.toNat := by omega
    simp [h, List.getElem?_set_ne this]
theorem fold_at (P : Int → Bool) (d : Int) (hd : 0 ≤ d) : ∀ (l : List Edge) (o : List Int), Ends l → o.length = 10 → ∀ v, 0 ≤ v → at_ (l.foldl (relax P d) o) v = if at_ o v < 0 ∧ (∃ e ∈ l, e.frm = v ∧ P e.to = true) then d else at_ o v
  | [], o, _, _, v, _ => by simp
  | e :: l, o, hE, ho, v, hv => by
    have he := hE e (by simp)
    rw [List.foldl_cons, fold_at P d hd l _ (fun x hx => hE x (by simp [hx])) (by rw [relax_length]; exact ho) v hv]
    unfold relax
    by_cases hc : at_ o e.frm < 0 ∧ P e.to = true
    · have hc' : (decide (at_ o e.frm < 0) && P e.to) = true := by simp [hc.1, hc.2]
      rw [if_pos hc', at_set o ho e.frm v d ⟨he.1, he.2.1⟩ hv]
      by_cases hvf : v = e.frm
      · subst hvf
        have : ¬ d < 0 := by omega
        have h2 : ∃ x ∈ e :: l, x.frm = e.frm ∧ P x.to = true := ⟨e, by simp, rfl, hc.2⟩
        simp only [if_true, this, false_and, if_false, hc.1, true_and, h2]
      · simp only [hvf, if_false]
        have : (∃ x ∈ e :: l, x.frm = v ∧ P x.to = true) ↔ ∃ x ∈ l, x.frm = v ∧ P x.to = true := by
          constructor
          · rintro ⟨x, hx, h1, h2⟩
            rcases List.mem_cons.1 hx with rfl | hx
            · exact absurd h1.symm hvf
            · exact ⟨x, hx, h1, h2⟩
          · rintro ⟨x, hx, h1, h2⟩; exact ⟨x, by simp [hx], h1, h2⟩
        simp only [this]
    · have hc' : ¬ (decide (at_ o e.frm < 0) && P e.to) = true := by simpa using hc
      rw [if_neg hc']
      by_cases hneg : at_ o v < 0
      · have : (∃ x ∈ e :: l, x.frm = v ∧ P x.to = true) ↔ ∃ x ∈ l, x.frm = v ∧ P x.to = true := by
          constructor
          · rintro ⟨x, hx, h1, h2⟩
            rcases List.mem_cons.1 hx with rfl | hx
            · exact absurd ⟨by rw [h1]; exact hneg, h2⟩ hc
            · exact ⟨x, hx, h1, h2⟩
          · rintro ⟨x, hx, h1, h2⟩; exact ⟨x, by simp [hx], h1, h2⟩
        simp only [this]
      · simp only [hneg, false_and, if_false]
theorem list_ext10 {a b : List Int} (ha : a.length = 10) (hb : b.length = 10) (h : ∀ v : Int, 0 ≤ v → at_ a v = at_ b v) : a = b := by
  apply List.ext_getElem?
  intro i
  by_cases hi : i < 10
  · have := h (i : Int) (by omega)
    unfold at_ at this
    simp only [Int.toNat_natCast, List.getD_eq_getElem?_getD] at this
    rw [List.getElem?_eq_getElem (by omega), List.getElem?_eq_getElem (by omega)] at this ⊢
    simpa using this
  · rw [List.getElem?_eq_none (by omega), List.getElem?_eq_none (by omega)]
theorem fold_congr {P Q : Int → Bool} (d : Int) : ∀ (l : List Edge) (o : List Int), (∀ e ∈ l, P e.to = Q e.to) → l.foldl (relax P d) o = l.foldl (relax Q d) o
  | [], _, _ => rfl
  | e :: l, o, h => by
    rw [List.foldl_cons, List.foldl_cons, fold_congr d l _ (fun x hx => h x (by simp [hx]))]
    have : relax P d o e = relax Q d o e := by unfold relax; rw [h e (by simp)]
    rw [this]
theorem fold_none {P : Int → Bool} (d : Int) : ∀ (l : List Edge) (o : List Int), (∀ e ∈ l, P e.to = false) → l.foldl (relax P d) o = o
  | [], _, _ => rfl
  | e :: l, o, h => by
    have : relax P d o e = o := by unfold relax; rw [h e (by simp)]; simp
    rw [List.foldl_cons, this]
    exact fold_none d l o (fun x hx => h x (by simp [hx]))
structure Know (to d : Int) (o : List Int) : Prop where
  len : o.length = 10
  below : ∀ v : Int, 0 ≤ v → at_ o v ≤ d - 1
  pos : 1 ≤ d
theorem Know.next {l : List Edge} {to d : Int} {o : List Int} (hE : Ends l) (h : Know to d o) : Know to (d + 1) (round l to d o) := by
  refine ⟨by rw [round, foldl_length]; exact h.len, fun v hv => ?_, by have := h.pos; omega⟩
  rw [round, fold_at _ d (by have := h.pos; omega) l o hE h.len v hv]
  have := h.below v hv
  split <;> omega
theorem layer_next {l : List Edge} {to d : Int} {o : List Int} (hE : Ends l) (h : Know to d o) (v : Int) (hv : 0 ≤ v) : layer to (d + 1) (round l to d o) v = true ↔ at_ o v < 0 ∧ ∃ e ∈ l, e.frm = v ∧ layer to d o e.to = true := by
  have h1 : ¬ d + 1 = 1 := by have := h.pos; omega
  unfold layer
  rw [if_neg h1, decide_eq_true_eq, round, fold_at _ d (by have := h.pos; omega) l o hE h.len v hv]
  have h2 := h.below v hv
  constructor
  · intro he
    split at he
    · rename_i hc; exact hc
    · omega
  · intro hc
    have hc' : at_ o v < 0 ∧ ∃ e ∈ l, e.frm = v ∧ layer to d o e.to = true := hc
    rw [if_pos hc']
    omega
theorem rounds_stop {l : List Edge} {to : Int} (hE : Ends l) : ∀ (n : Nat) (d : Int) (o : List Int), Know to d o → (∀ e ∈ l, layer to d o e.to = false) → rounds l to n d o = o
  | 0, _, _, _, _ => rfl
  | n + 1, d, o, hk, h => by
    have h1 : round l to d o = o := fold_none d l o h
    have hk' := hk.next hE
    have h2 : ∀ e ∈ l, layer to (d + 1) (round l to d o) e.to = false := fun e he => by
      cases hb : layer to (d + 1) (round l to d o) e.to with
      | false => rfl
      | true =>
        obtain ⟨_, x, hx, _, h4⟩ := (layer_next hE hk e.to (by have := hE e he; omega)).1 hb
        rw [h x hx] at h4
        cases h4
    rw [rounds, h1] at *
    exact rounds_stop hE n (d + 1) o hk' h2
def unknown (o : List Int) : Nat := ((List.range 9).filter fun i => decide (at_ o (i + 1 : Nat) < 0)).length
theorem unknown_less {a b : List Int} (h : ∀ v : Int, 0 ≤ v → at_ a v < 0 → at_ b v < 0) {v : Int} (h1 : 1 ≤ v) (h2 : v ≤ 9) (ha : ¬ at_ a v < 0) (hb : at_ b v < 0) : unknown a < unknown b := by
  unfold unknown
  have e : ((List.range 9).filter fun i => decide (at_ a (i + 1 : Nat) < 0)) = ((List.range 9).filter fun i => decide (at_ b (i + 1 : Nat) < 0)).filter fun i => decide (at_ a (i + 1 : Nat) < 0) := by
    rw [List.filter_filter]
    refine List.filter_congr fun i _ => ?_
    by_cases hh : at_ a (i + 1 : Nat) < 0
    · have h3 := h _ (by omega) hh
      simp only [hh, h3, decide_true, Bool.and_self]
    · simp only [hh, decide_false, Bool.false_and]
  rw [e]
  refine List.length_filter_lt_length_iff_exists.2 ⟨(v - 1).toNat, ?_, ?_⟩
  · rw [List.mem_filter, List.mem_range]
    refine ⟨by omega, ?_⟩
    have : (((v - 1).toNat + 1 : Nat) : Int) = v := by omega
    rw [this]
    simpa using hb
  · have : (((v - 1).toNat + 1 : Nat) : Int) = v := by omega
    rw [this]
    simpa using ha
theorem unknown_zero {o : List Int} (h : unknown o = 0) {v : Int} (h1 : 1 ≤ v) (h2 : v ≤ 9) : ¬ at_ o v < 0 := by
  unfold unknown at h
  have h0 := List.length_eq_zero_iff.1 h
  have := List.filter_eq_nil_iff.1 h0 (v - 1).toNat (by rw [List.mem_range]; omega)
  have e : (((v - 1).toNat + 1 : Nat) : Int) = v := by omega
  rw [e] at this
  simpa using this
theorem round_down {l : List Edge} {to d : Int} {o : List Int} (hE : Ends l) (h : Know to d o) (v : Int) (hv : 0 ≤ v) (hn : at_ (round l to d o) v < 0) : at_ o v < 0 := by
  rw [round, fold_at _ d (by have := h.pos; omega) l o hE h.len v hv] at hn
  split at hn
  · have := h.pos; omega
  · exact hn
theorem idx_ok {o : List Int} (ho : o.length = 10) {v : Int} (h1 : 0 ≤ v) (h2 : v ≤ 9) : (o.map intU)[v.toNat]? = some (intU (at_ o v)) := by
  have h3 : v.toNat < o.length := by omega
  unfold at_
  rw [List.getElem?_map, List.getElem?_eq_getElem h3, List.getD_eq_getElem?_getD, List.getElem?_eq_getElem h3]
  rfl
theorem set_ok (o : List Int) (i : Nat) (d : Int) : (o.map intU).set i (.int .i64 d) = (o.set i d).map intU := by
  rw [List.map_set]; rfl
theorem f40_l1_is (l : List Edge) (hl : l.length ≤ 1048576) (hE : Ends l) (to d : Int) (hd : 1 ≤ d) (hd2 : d ≤ 9) (o0 : List Int) : ∀ (r p : List Edge) (i : Int) (o : List Int), l = p ++ r → i = p.length → o.length = 10 → (d ≠ 1 → ∀ v, 0 ≤ v → v ≤ 9 → (at_ o v = d - 1 ↔ at_ o0 v = d - 1)) →
    f40_l1 E (edgesU l) (.int .i64 to) (.int .i64 d) (.int .i64 i) (o.map intU) = f40_l0 E (edgesU l) (.int .i64 to) (.int .i64 (d + 1)) ((r.foldl (relax (layer to d o0) d) o).map intU)
  | [], p, i, o, e, hi, ho, hs => by
    have hw : IntKind.i64.wrap (d + 1) = d + 1 := wrap_in (by omega)
    rw [f40_l1_eq]
    simp [mid_end e hi, hw]
  | x :: r, p, i, o, e, hi, ho, hs => by
    obtain ⟨h0, hlt, hx, hw, hn, _⟩ := mid_at e hi (by omega)
    have hex : 1 ≤ x.frm ∧ x.frm ≤ 9 ∧ 1 ≤ x.to ∧ x.to ≤ 9 := hE x (by rw [e]; simp)
    obtain ⟨x1, x2, x3, x4⟩ := hex
    have i1 := idx_ok ho (v := x.frm) (by omega) x2
    have i2 := idx_ok ho (v := x.to) (by omega) x4
    have b1 : 0 ≤ x.frm ∧ x.frm < 10 := by omega
    have b2 : 0 ≤ x.to ∧ x.to < 10 := by omega
    have hw2 : IntKind.i64.wrap (d - 1) = d - 1 := wrap_in (by omega)
    have ih1 := f40_l1_is l hl hE to d hd hd2 o0 r (p ++ [x]) (i + 1) o (mid_next e) hn ho hs
    rw [f40_l1_eq]
    simp only [List.foldl_cons]
    by_cases hneg : at_ o x.frm < 0
    · by_cases hd1 : d = 1
      · have dd := decide_eq_true hd1
        by_cases ht : x.to = to
        · have ih2 := f40_l1_is l hl hE to d hd hd2 o0 r (p ++ [x]) (i + 1) (o.set x.frm.toNat d) (mid_next e) hn (by simpa using ho) (fun h => absurd hd1 h)
          have hr : relax (layer to d o0) d o x = o.set x.frm.toNat d := by simp [relax, layer, hneg, ht, hd1]
          rw [hr, ← ih2]
          simp [hlt, hx, hw, b1, ho, i1, hneg, ht, dd, intU, -getElem?_pos, -List.getElem?_map]
        · have hr : relax (layer to d o0) d o x = o := by simp [relax, layer, ht, hd1]
          have dd3 : decide (1 < d) = false := by simp; omega
          rw [hr, ← ih1]
          simp [hlt, hx, hw, b1, ho, i1, hneg, ht, dd, dd3, intU, -getElem?_pos, -List.getElem?_map]
      · have hd3 : 1 < d := by omega
        by_cases ht : at_ o x.to = d - 1
        · have ht0 := (hs hd1 x.to (by omega) x4).1 ht
          have ih2 := f40_l1_is l hl hE to d hd hd2 o0 r (p ++ [x]) (i + 1) (o.set x.frm.toNat d) (mid_next e) hn (by simpa using ho) (fun _ v hv hv2 => by
            rw [at_set o ho x.frm v d ⟨x1, x2⟩ hv]
            split
            · rename_i hvf
              subst hvf
              constructor
              · intro; omega
              · intro h; have := (hs hd1 x.frm hv hv2).2 h; omega
            · exact hs hd1 v hv hv2)
          have hr : relax (layer to d o0) d o x = o.set x.frm.toNat d := by simp [relax, layer, hneg, hd1, ht0]
          rw [hr, ← ih2]
          simp [hlt, hx, hw, b1, b2, ho, i1, i2, hneg, hd1, hd3, ht, hw2, intU, -getElem?_pos, -List.getElem?_map]
        · have ht0 : ¬ at_ o0 x.to = d - 1 := fun h => ht ((hs hd1 x.to (by omega) x4).2 h)
          have hr : relax (layer to d o0) d o x = o := by simp [relax, layer, hd1, ht0]
          rw [hr, ← ih1]
          simp [hlt, hx, hw, b1, b2, ho, i1, i2, hneg, hd1, hd3, ht, hw2, intU, -getElem?_pos, -List.getElem?_map]
    · have hr : relax (layer to d o0) d o x = o := by simp [relax, hneg]
      rw [hr, ← ih1]
      simp [hlt, hx, hw, b1, ho, i1, hneg, intU, -getElem?_pos, -List.getElem?_map]
theorem f40_l0_is (l : List Edge) (hl : l.length ≤ 1048576) (hE : Ends l) (to : Int) : ∀ (n : Nat) (d : Int) (o : List Int), d = 10 - n → 1 ≤ d → o.length = 10 →
    f40_l0 E (edgesU l) (.int .i64 to) (.int .i64 d) (o.map intU) = some (.sl 1 ((rounds l to n d o).map intU))
  | 0, d, o, hd, h1, ho => by
    have : ¬ d ≤ 9 := by omega
    rw [f40_l0_eq]
    simp [this, rounds]
  | n + 1, d, o, hd, h1, ho => by
    have : d ≤ 9 := by omega
    rw [f40_l0_eq]
    simp only [bin_leq, this, decide_true, Option.bind_some, asBool_bool, if_true]
    rw [f40_l1_is l hl hE to d h1 this o l [] 0 o rfl rfl ho (fun _ v _ _ => Iff.rfl)]
    exact f40_l0_is l hl hE to n (d + 1) _ (by omega) (by omega) (by rw [foldl_length]; exact ho)
theorem f40_l2_is (l : List Edge) (hl : l.length ≤ 1048576) (hE : Ends l) (to : Int) : ∀ (n m : Nat) (i : Int), m + n = 10 → i = m →
    f40_l2 E (edgesU l) (.int .i64 to) (.int .i64 i) ((List.replicate m (-1 : Int)).map intU) = some (.sl 1 ((dist l to).map intU))
  | 0, m, i, hm, hi => by
    have : ¬ i ≤ 9 := by omega
    obtain rfl : m = 10 := by omega
    rw [f40_l2_eq]
    simp only [bin_leq, this, decide_false, Option.bind_some, asBool_bool, Bool.false_eq_true, if_false]
    exact f40_l0_is l hl hE to 9 1 _ rfl (by omega) (by simp)
  | n + 1, m, i, hm, hi => by
    have h1 : i ≤ 9 := by omega
    have hw : IntKind.i64.wrap (i + 1) = i + 1 := wrap_in (by omega)
    have ih := f40_l2_is l hl hE to n (m + 1) (i + 1) (by omega) (by omega)
    have e : (List.replicate (m + 1) (-1 : Int)).map intU = (List.replicate m (-1 : Int)).map intU ++ [.int .i64 (-1)] := by
      rw [List.replicate_succ', List.map_append]; rfl
    rw [e] at ih
    rw [f40_l2_eq]
    simp only [bin_leq, h1, decide_true, Option.bind_some, asBool_bool, if_true, bin_add, hw, List.length_map, List.length_replicate, List.length_cons, List.length_nil]
    rw [if_pos (by refine ⟨trivial, trivial, by omega⟩)]
    exact ih
theorem f40_is (h : G_f40 E) (l : List Edge) (hl : l.length ≤ 1048576) (hE : Ends l) (to : Int) : E 40 [edgesU l, .int .i64 to] = some (intsU (dist l to)) := by
  rw [f40_E h]
  exact f40_l2_is l hl hE to 10 0 0 rfl rfl
abbrev arrU (o : List Int) : U := .agg (o.map intU)
theorem sizes_ints : ∀ o : List Int, sizes (o.map intU) = o.length
  | [] => rfl
  | _ :: o => by rw [List.map_cons, sizes_cons, sizes_ints o, intU_size, List.length_cons]; omega
theorem sizes_take {o : List Int} (ho : o.length = 10) {v : Int} (h1 : 0 ≤ v) (h2 : v ≤ 9) : v.toNat * 1 = sizes ((o.map intU).take v.toNat) := by
  rw [← List.map_take, sizes_ints, List.length_take]; omega
theorem f13_l1_is (h : G_f13 E) (l : List Edge) (hl : l.length ≤ 1048576) (hE : Ends l) (d : Int) (hd : 1 ≤ d) (hd2 : d ≤ 1000) (c : List Int) (hc : c.length ≤ 1048576) (b4 : U) : ∀ (r p : List Edge) (i : Int) (o : List Int) (nx : List Int), l = p ++ r → i = p.length → o.length = 10 → nx.length ≤ p.length →
    ∃ nx' : List Int, nx'.length ≤ l.length ∧ (∀ v, v ∈ nx' ↔ v ∈ nx ∨ (at_ o v < 0 ∧ ∃ e ∈ r, e.frm = v ∧ e.to ∈ c)) ∧
    f13_l1 E (edgesU l) (.int .i64 d) (edgesU l) (.int .i64 l.length) (.int .i64 i) (c.map intU) (nx.map intU) b4 (arrU o) =
      f13_l0 E (edgesU l) (.int .i64 (d + 1)) (nx'.map intU) b4 (arrU (r.foldl (relax (fun v => decide (v ∈ c)) d) o))
  | [], p, i, o, nx, e, hi, ho, hnx => by
    have hw : IntKind.i64.wrap (d + 1) = d + 1 := wrap_in (by omega)
    refine ⟨nx, by rw [e]; simpa using hnx, fun v => by simp, ?_⟩
    rw [f13_l1_eq]
    simp [mid_end e hi, hw]
  | x :: r, p, i, o, nx, e, hi, ho, hnx => by
    obtain ⟨h0, hlt, hx, hw, hn, _⟩ := mid_at e hi (by omega)
    have hex : 1 ≤ x.frm ∧ x.frm ≤ 9 ∧ 1 ≤ x.to ∧ x.to ≤ 9 := hE x (by rw [e]; simp)
    obtain ⟨x1, x2, x3, x4⟩ := hex
    have i1 := idx_ok ho (v := x.frm) (by omega) x2
    have b1 : 0 ≤ x.frm ∧ x.frm < 10 := by omega
    have hst := sizes_take ho (v := x.frm) (by omega) x2
    have hin := f21_is h.c_f21 c (by omega) x.to
    have hpl : p.length ≤ 1048576 := by have := congrArg List.length e; simp at this; omega
    simp only [List.foldl_cons]
    by_cases ht : x.to ∈ c
    · by_cases hneg : at_ o x.frm < 0
      · obtain ⟨nx', n1, n2, n3⟩ := f13_l1_is h l hl hE d hd hd2 c hc b4 r (p ++ [x]) (i + 1) (o.set x.frm.toNat d) (nx ++ [x.frm]) (mid_next e) hn (by simpa using ho) (by simp; omega)
        refine ⟨nx', n1, fun v => ?_, ?_⟩
        · rw [n2 v]
          simp only [List.mem_append, List.mem_singleton, List.mem_cons]
          by_cases hv : v = x.frm
          · subst hv
            have : ∃ e, (e = x ∨ e ∈ r) ∧ e.frm = x.frm ∧ e.to ∈ c := ⟨x, .inl rfl, rfl, ht⟩
            simp [hneg, ht]
          · by_cases hv0 : 0 ≤ v
            · rw [at_set o ho x.frm v d ⟨x1, x2⟩ hv0, if_neg hv]
              have : (∃ e, (e = x ∨ e ∈ r) ∧ e.frm = v ∧ e.to ∈ c) ↔ ∃ e ∈ r, e.frm = v ∧ e.to ∈ c := by
                constructor
                · rintro ⟨y, rfl | hy, h1, h2⟩
                  · exact absurd h1.symm hv
                  · exact ⟨y, hy, h1, h2⟩
                · rintro ⟨y, hy, h1, h2⟩; exact ⟨y, .inr hy, h1, h2⟩
              simp [hv, this]
            · have none : ∀ y ∈ l, ¬ y.frm = v := fun y hy h1 => by have := hE y hy; omega
              have n4 : ¬ ∃ e, (e = x ∨ e ∈ r) ∧ e.frm = v ∧ e.to ∈ c := by
                rintro ⟨y, hy, h1, _⟩
                exact none y (by rw [‹l = p ++ x :: r›]; rcases hy with rfl | hy <;> simp [*]) h1
              have n5 : ¬ ∃ e ∈ r, e.frm = v ∧ e.to ∈ c := by
                rintro ⟨y, hy, h1, _⟩
                exact none y (by rw [‹l = p ++ x :: r›]; simp [hy]) h1
              simp only [hv, or_false, false_or, n4, n5, and_false, List.not_mem_nil]
        · rw [f13_l1_eq]
          have hr : relax (fun v => decide (v ∈ c)) d o x = o.set x.frm.toNat d := by simp [relax, hneg, ht]
          rw [List.map_append, List.map_cons, List.map_nil] at n3
          have hlen : ((nx.map intU).length + 1) * 8 ≤ 140737488355328 := by rw [List.length_map]; omega
          simp only [bin_lss, hlt, decide_true, Option.bind_some, asBool_bool, if_true, asInt_int, hx, Edge.u_var, Edge.u_storable, Edge.u_partable, Edge.u_size, and_self, Edge.u_agg, sizes_cons, List.take_succ_cons, List.take_zero, size_int, sizes_nil, List.getElem?_cons_succ, List.getElem?_cons_zero, asVar_int, hin, ht, asFlat_bool, b1, asAgg_agg, hst, i1, asVar_intU, hneg, storable_int, partable_int, intU_size, List.length_cons, List.length_nil, bin_add, hw, set_ok, hr, hlen]
          exact n3
      · obtain ⟨nx', n1, n2, n3⟩ := f13_l1_is h l hl hE d hd hd2 c hc b4 r (p ++ [x]) (i + 1) o nx (mid_next e) hn ho (by simp; omega)
        refine ⟨nx', n1, fun v => ?_, ?_⟩
        · rw [n2 v]
          have : at_ o v < 0 → ((∃ e ∈ r, e.frm = v ∧ e.to ∈ c) ↔ ∃ e ∈ x :: r, e.frm = v ∧ e.to ∈ c) := fun hv => by
            constructor
            · rintro ⟨y, hy, h1, h2⟩; exact ⟨y, by simp [hy], h1, h2⟩
            · rintro ⟨y, hy, h1, h2⟩
              rcases List.mem_cons.1 hy with rfl | hy
              · exact absurd (by rw [h1]; exact hv) hneg
              · exact ⟨y, hy, h1, h2⟩
          by_cases hv : at_ o v < 0
          · rw [this hv]
          · simp [hv]
        · rw [f13_l1_eq]
          have hr : relax (fun v => decide (v ∈ c)) d o x = o := by simp [relax, hneg]
          simp only [bin_lss, hlt, decide_true, decide_false, Bool.false_eq_true, if_false, Option.bind_some, asBool_bool, if_true, asInt_int, hx, Edge.u_var, Edge.u_storable, Edge.u_partable, Edge.u_size, and_self, Edge.u_agg, sizes_cons, List.take_succ_cons, List.take_zero, size_int, sizes_nil, List.getElem?_cons_succ, List.getElem?_cons_zero, asVar_int, hin, ht, asFlat_bool, b1, asAgg_agg, hst, i1, asVar_intU, hneg, bin_add, hw, hr]
          exact n3
    · obtain ⟨nx', n1, n2, n3⟩ := f13_l1_is h l hl hE d hd hd2 c hc b4 r (p ++ [x]) (i + 1) o nx (mid_next e) hn ho (by simp; omega)
      refine ⟨nx', n1, fun v => ?_, ?_⟩
      · rw [n2 v]
        have : (∃ e ∈ r, e.frm = v ∧ e.to ∈ c) ↔ ∃ e ∈ x :: r, e.frm = v ∧ e.to ∈ c := by
          constructor
          · rintro ⟨y, hy, h1, h2⟩; exact ⟨y, by simp [hy], h1, h2⟩
          · rintro ⟨y, hy, h1, h2⟩
            rcases List.mem_cons.1 hy with rfl | hy
            · exact absurd h2 ht
            · exact ⟨y, hy, h1, h2⟩
        rw [this]
      · rw [f13_l1_eq]
        have hr : relax (fun v => decide (v ∈ c)) d o x = o := by simp [relax, ht]
        simp [hlt, hx, hin, ht, hw, hr, n3]
def IsLayer (l : List Edge) (to d : Int) (o : List Int) (c : List Int) : Prop := c.length ≤ 1048576 ∧ ∀ e ∈ l, layer to d o e.to = decide (e.to ∈ c)
theorem f13_end (l : List Edge) (d : Int) (b4 : U) (hb : b4.size = 10) (o : List Int) (ho : o.length = 10) :
    f13_l0 E (edgesU l) (.int .i64 d) [] b4 (arrU o) = some (arrU o) := by
  rw [f13_l0_eq]
  have hsz : sizes (o.map intU) = 10 := by rw [sizes_ints, ho]
  simp [hsz, hb]
theorem f13_l0_is (h : G_f13 E) (l : List Edge) (hl : l.length ≤ 1048576) (hE : Ends l) (to : Int) (b4 : U) (hb : b4.size = 10) : ∀ (n : Nat) (d : Int) (o c : List Int), Know to d o → d + n ≤ 900 → unknown o ≤ n → IsLayer l to d o c →
    f13_l0 E (edgesU l) (.int .i64 d) (c.map intU) b4 (arrU o) = some (arrU (rounds l to n d o)) := by
  intro n
  induction n with
  | zero =>
    intro d o c hk hd hu hc
    have hd1 := hk.pos
    by_cases hc0 : c = []
    · subst hc0
      exact f13_end l d b4 hb o hk.len
    · obtain ⟨nx, n1, n2, n3⟩ := f13_l1_is h l hl hE d hd1 (by omega) c hc.1 b4 l [] 0 o [] rfl rfl hk.len (by simp)
      have hlay : l.foldl (relax (fun v => decide (v ∈ c)) d) o = round l to d o := fold_congr d l o (fun e he => (hc.2 e he).symm)
      have hsame : round l to d o = o := by
        refine list_ext10 (by rw [round, foldl_length]; exact hk.len) hk.len (fun v hv => ?_)
        rw [round, fold_at _ d (by omega) l o hE hk.len v hv]
        split
        · rename_i hx
          obtain ⟨h1, e, he, h2, _⟩ := hx
          have := hE e he
          exact absurd h1 (unknown_zero (by omega) (by omega) (by omega))
        · rfl
      have hnx : nx = [] := by
        cases nx with
        | nil => rfl
        | cons v nx =>
          have := (n2 v).1 (by simp)
          rcases this with h1 | ⟨h1, e, he, h2, _⟩
          · cases h1
          · have := hE e he
            exact absurd h1 (unknown_zero (by omega) (by omega) (by omega))
      subst hnx
      rw [hlay, hsame] at n3
      rw [f13_l0_eq]
      have hpos : 0 < c.length := List.length_pos_iff.2 hc0
      have hpos' : (0 : Int) < c.length := by omega
      simp only [bin_gtr, List.length_map, hpos', decide_true, Option.bind_some, asBool_bool, if_true, lenOf_sl]
      rw [show ([] : List U) = ([] : List Int).map intU from rfl, n3]
      exact f13_end l _ b4 hb o hk.len
  | succ n ih =>
    intro d o c hk hd hu hc
    have hd1 := hk.pos
    by_cases hc0 : c = []
    · subst hc0
      rw [rounds_stop hE (n + 1) d o hk (fun e he => by rw [hc.2 e he]; simp)]
      exact f13_end l d b4 hb o hk.len
    · obtain ⟨nx, n1, n2, n3⟩ := f13_l1_is h l hl hE d hd1 (by omega) c hc.1 b4 l [] 0 o [] rfl rfl hk.len (by simp)
      have hlay : l.foldl (relax (fun v => decide (v ∈ c)) d) o = round l to d o := fold_congr d l o (fun e he => (hc.2 e he).symm)
      have hk' := hk.next hE
      have hnl : IsLayer l to (d + 1) (round l to d o) nx := ⟨by omega, fun e he => by
        rw [Bool.eq_iff_iff, layer_next hE hk e.to (by have := hE e he; omega), decide_eq_true_eq, n2 e.to]
        constructor
        · rintro ⟨h1, x, hx, h2, h3⟩
          rw [hc.2 x hx, decide_eq_true_eq] at h3
          exact .inr ⟨h1, x, hx, h2, h3⟩
        · rintro (h1 | ⟨h1, x, hx, h2, h3⟩)
          · cases h1
          · exact ⟨h1, x, hx, h2, by rw [hc.2 x hx]; simpa using h3⟩⟩
      rw [f13_l0_eq]
      have hpos : 0 < c.length := List.length_pos_iff.2 hc0
      have hpos' : (0 : Int) < c.length := by omega
      simp only [bin_gtr, List.length_map, hpos', decide_true, Option.bind_some, asBool_bool, if_true, lenOf_sl]
      rw [show ([] : List U) = ([] : List Int).map intU from rfl, n3, hlay, rounds]
      cases hnx : nx with
      | nil =>
        subst hnx
        rw [rounds_stop hE n (d + 1) _ hk' (fun e he => by rw [hnl.2 e he]; simp)]
        exact f13_end l _ b4 hb _ hk'.len
      | cons v nx' =>
        rw [← hnx]
        refine ih (d + 1) _ nx hk' (by omega) ?_ hnl
        obtain ⟨h1, e, he, h2, h3⟩ : at_ o v < 0 ∧ ∃ e ∈ l, e.frm = v ∧ e.to ∈ c := by
          rcases (n2 v).1 (by rw [hnx]; simp) with h1 | h1
          · cases h1
          · exact h1
        have hev := hE e he
        have : unknown (round l to d o) < unknown o := by
          refine unknown_less (fun v hv => round_down hE hk v hv) (v := v) (by omega) (by omega) ?_ h1
          rw [round, fold_at _ d (by omega) l o hE hk.len v (by omega), if_pos ⟨h1, e, he, h2, by rw [hc.2 e he]; simpa using h3⟩]
          omega
        omega
theorem know_start (to : Int) : Know to 1 (List.replicate 10 (-1)) := by
  refine ⟨by simp, fun v hv => ?_, by omega⟩
  unfold at_
  rw [List.getD_eq_getElem?_getD, List.getElem?_replicate]
  split
  · show (-1 : Int) ≤ 1 - 1; omega
  · show (0 : Int) ≤ 1 - 1; omega
theorem f13_l2_is (h : G_f13 E) (l : List Edge) (hl : l.length ≤ 1048576) (hE : Ends l) (to : Int) (b4 : U) (hb : b4.size = 10) : ∀ (n m : Nat) (i : Int), m + n = 10 → i = m →
    f13_l2 E (edgesU l) (.int .i64 to) (.int .i64 i) b4 (arrU (List.replicate m (-1) ++ List.replicate n 0)) = some (arrU (dist l to))
  | 0, m, i, hm, hi => by
    have : ¬ i < 10 := by omega
    obtain rfl : m = 10 := by omega
    rw [f13_l2_eq]
    simp only [bin_lss, this, decide_false, Option.bind_some, asBool_bool, Bool.false_eq_true, if_false, storable_int, partable_int, size_int, and_self, if_true]
    exact f13_l0_is h l hl hE to b4 hb 9 1 _ [to] (know_start to) (by omega) (by unfold unknown; exact Nat.le_trans (List.length_filter_le _ _) (by simp)) ⟨by simp, fun e he => by simp [layer]⟩
  | n + 1, m, i, hm, hi => by
    have h1 : i < 10 := by omega
    have h0 : 0 ≤ i := by omega
    have hw : IntKind.i64.wrap (i + 1) = i + 1 := wrap_in (by omega)
    have ih := f13_l2_is h l hl hE to b4 hb n (m + 1) (i + 1) (by omega) (by omega)
    have hlen : (List.replicate m (-1 : Int) ++ List.replicate (n + 1) 0).length = 10 := by simp; omega
    have i1 := idx_ok hlen (v := i) h0 (by omega)
    have hst := sizes_take hlen (v := i) h0 (by omega)
    have hset : (List.replicate m (-1 : Int) ++ List.replicate (n + 1) 0).set i.toNat (-1) = List.replicate (m + 1) (-1) ++ List.replicate n 0 := by
      have : i.toNat = m := by omega
      rw [this, List.set_append_right _ _ (by simp)]
      simp only [List.length_replicate, Nat.sub_self, List.replicate_succ, List.set_cons_zero]
      rw [← List.replicate_succ, List.replicate_succ', List.append_assoc]
      rfl
    rw [f13_l2_eq]
    simp only [bin_lss, h1, decide_true, Option.bind_some, asBool_bool, if_true, asInt_int, h0, and_self, asAgg_agg, hst, i1, intU_size, bin_add, hw, set_ok, hset]
    exact ih
theorem f13_is (h : G_f13 E) (l : List Edge) (hl : l.length ≤ 1048576) (hE : Ends l) (to : Int) : E 41 [edgesU l, .int .i64 to] = some (arrU (dist l to)) := by
  rw [f13_E h]
  exact f13_l2_is h l hl hE to _ rfl 10 0 0 rfl rfl
theorem dist_length {l : List Edge} (to : Int) : (dist l to).length = 10 := by
  have : ∀ (n : Nat) (d : Int) (o : List Int), (rounds l to n d o).length = o.length := by
    intro n
    induction n with
    | zero => intro d o; rfl
    | succ n ih => intro d o; rw [rounds, ih, round, foldl_length]
  rw [dist, this]; simp
def edgeDistance (l : List Edge) (a b : Int) : Int := if areEdges l && (inR a 1 9 && inR b 1 9) then at_ (dist l b) a else -1
theorem f28_is (h : G_f28 E) (l : List Edge) (hl : l.length ≤ 1048576) (a b : Int) : E 39 [edgesU l, .int .i64 a, .int .i64 b] = some (.int .i64 (edgeDistance l a b)) := by
  rw [f28_E h]
  unfold edgeDistance
  cases h1 : areEdges l
  · simp [f24_is h.c_f24 l hl, h1]
  cases h2 : inR a 1 9
  · simp [f24_is h.c_f24 l hl, h1, f38_is h.c_f38, h2]
  cases h3 : inR b 1 9
  · simp [f24_is h.c_f24 l hl, h1, f38_is h.c_f38, h2, h3]
  have h2' := h2
  simp only [inR, decide_eq_true_eq] at h2'
  have i1 := idx_ok (dist_length (l := l) b) (v := a) (by omega) h2'.2
  have h0 : 0 ≤ a := by omega
  simp [f24_is h.c_f24 l hl, h1, f38_is h.c_f38, h2, h3, f40_is h.c_f40 l hl (areEdges_ends h1) b, elemAt_sl, h0, i1, -getElem?_pos, -List.getElem?_map]
theorem arr_at {γ : Type} {o : List Int} (ho : o.length = 10) {v : Int} (h1 : 0 ≤ v) (h2 : v ≤ 9) (K : U → Option γ) : U.fieldAt v.toNat (v.toNat * 1) (arrU o) K = K (intU (at_ o v)) := by
  show (if v.toNat * 1 = sizes ((o.map intU).take v.toNat) then ((o.map intU)[v.toNat]?).bind K else none) = _
  rw [if_pos (sizes_take ho h1 h2), idx_ok ho h1 h2]
  rfl
theorem f7_is (h : G_f7 E) (l : List Edge) (hl : l.length ≤ 1048576) (a b : Int) : E 38 [edgesU l, .int .i64 a, .int .i64 b] = some (.int .i64 (edgeDistance l a b)) := by
  rw [f7_E h]
  unfold edgeDistance
  cases h1 : areEdges l
  · simp [f3_is h.c_f3 l hl, h1]
  cases h2 : inR a 1 9
  · simp [f3_is h.c_f3 l hl, h1, f15_is h.c_f15, h2]
  cases h3 : inR b 1 9
  · simp [f3_is h.c_f3 l hl, h1, f15_is h.c_f15, h2, h3]
  have h2' := h2
  simp only [inR, decide_eq_true_eq] at h2'
  have h4 : 0 ≤ a ∧ a < 10 := by omega
  have h5 := f13_is h.c_f13 l hl (areEdges_ends h1) b
  simp only [f3_is h.c_f3 l hl, h1, f15_is h.c_f15, h2, h3, h5, Option.bind_some, un_not, Bool.not_true, asBool_bool, Bool.false_eq_true, if_false, asInt_int, h4, and_self, if_true, Bool.and_self]
  rw [arr_at (dist_length b) h4.1 (by omega)]
  rfl
end Go.Proofs.Ytmdnjglkdddaeaa.Am
