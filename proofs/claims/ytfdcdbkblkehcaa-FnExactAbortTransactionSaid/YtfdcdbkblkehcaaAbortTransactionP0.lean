import Derived.Test.YtfdcdbkblkehcaaAmX
import Derived.Test.YtfdcdbkblkehcaaAbortTransactionF1
import Derived.Test.YtfdcdbkblkehcaaAbortTransactionF0
import Derived.Test.YtfdcdbkblkehcaaAmY
/-
  The program's data, as plain Lean data, and how the machine reads them.
-/
namespace Go.Proofs.Ytfdcdbkblkehcaa.Am
open Go
variable {α : Type}

def intU (n : Int) : U := .int .i64 n
@[simp] theorem intU_size (n : Int) : (intU n).size = 1 := rfl
@[simp] theorem asVar_intU (n : Int) (K : U → Option α) : U.asVar false 1 (intU n) K = K (.int .i64 n) := rfl
@[simp] theorem storable_intU (n : Int) : storable (.val (intU n)) = true := rfl
@[simp] theorem partable_intU (n : Int) : partable (.val (intU n)) = true := rfl
abbrev intsU (l : List Int) : U := .sl 1 (l.map intU)

structure Edge where
  frm : Int
  to : Int
  kind : Int
  key : Int
  deriving DecidableEq
theorem Edge.eq_iff (x y : Edge) : x = y ↔ x.frm = y.frm ∧ x.to = y.to ∧ x.kind = y.kind ∧ x.key = y.key := by cases x; cases y; simp only [Edge.mk.injEq]
def Edge.u (e : Edge) : U := .agg [.int .i64 e.frm, .int .i64 e.to, .int .i64 e.kind, .int .i64 e.key]
@[simp] theorem Edge.u_size (e : Edge) : e.u.size = 4 := rfl
@[simp] theorem Edge.u_var (e : Edge) (K : U → Option α) : U.asVar true 4 e.u K = K e.u := rfl
@[simp] theorem Edge.u_storable (e : Edge) : storable (.val e.u) = true := rfl
@[simp] theorem Edge.u_partable (e : Edge) : partable (.val e.u) = true := rfl
@[simp] theorem Edge.u_noTup (e : Edge) (K : U → Option α) : U.noTup e.u K = K e.u := rfl
@[simp] theorem Edge.u_agg (e : Edge) (K : List U → Option α) : U.asAgg e.u K = K [.int .i64 e.frm, .int .i64 e.to, .int .i64 e.kind, .int .i64 e.key] := rfl
@[simp] theorem Edge.u_at0 (e : Edge) (K : U → Option α) : U.fieldAt 0 0 e.u K = K (.int .i64 e.frm) := rfl
@[simp] theorem Edge.u_at1 (e : Edge) (K : U → Option α) : U.fieldAt 1 1 e.u K = K (.int .i64 e.to) := rfl
@[simp] theorem Edge.u_at2 (e : Edge) (K : U → Option α) : U.fieldAt 2 2 e.u K = K (.int .i64 e.kind) := rfl
@[simp] theorem Edge.u_at3 (e : Edge) (K : U → Option α) : U.fieldAt 3 3 e.u K = K (.int .i64 e.key) := rfl
@[simp] theorem Edge.u_flat (e : Edge) : e.u.flat = true := rfl
@[simp] theorem Edge.u_asFlat (e : Edge) (K : U → Option α) : U.asFlat e.u K = K e.u := rfl
@[simp] theorem Edge.u_eqv (x y : Edge) : U.eqv 6 x.u y.u = some (decide (x = y)) := by
  obtain ⟨a0, a1, a2, a3⟩ := x
  obtain ⟨b0, b1, b2, b3⟩ := y
  simp only [Edge.mk.injEq]
  show (if 4 = 4 then eqInts _ _ else none) = _
  simp only [if_true, eqInts_cons, eqInts_nil, Option.map_some, Bool.decide_and, Bool.and_true]
  rfl

structure ReadMark where
  key : Int
  created : Int
  deriving DecidableEq
theorem ReadMark.eq_iff (x y : ReadMark) : x = y ↔ x.key = y.key ∧ x.created = y.created := by cases x; cases y; simp only [ReadMark.mk.injEq]
def ReadMark.u (e : ReadMark) : U := .agg [.int .i64 e.key, .int .i64 e.created]
@[simp] theorem ReadMark.u_size (e : ReadMark) : e.u.size = 2 := rfl
@[simp] theorem ReadMark.u_var (e : ReadMark) (K : U → Option α) : U.asVar true 2 e.u K = K e.u := rfl
@[simp] theorem ReadMark.u_storable (e : ReadMark) : storable (.val e.u) = true := rfl
@[simp] theorem ReadMark.u_partable (e : ReadMark) : partable (.val e.u) = true := rfl
@[simp] theorem ReadMark.u_noTup (e : ReadMark) (K : U → Option α) : U.noTup e.u K = K e.u := rfl
@[simp] theorem ReadMark.u_agg (e : ReadMark) (K : List U → Option α) : U.asAgg e.u K = K [.int .i64 e.key, .int .i64 e.created] := rfl
@[simp] theorem ReadMark.u_at0 (e : ReadMark) (K : U → Option α) : U.fieldAt 0 0 e.u K = K (.int .i64 e.key) := rfl
@[simp] theorem ReadMark.u_at1 (e : ReadMark) (K : U → Option α) : U.fieldAt 1 1 e.u K = K (.int .i64 e.created) := rfl
@[simp] theorem ReadMark.u_flat (e : ReadMark) : e.u.flat = true := rfl
@[simp] theorem ReadMark.u_asFlat (e : ReadMark) (K : U → Option α) : U.asFlat e.u K = K e.u := rfl
@[simp] theorem ReadMark.u_eqv (x y : ReadMark) : U.eqv 4 x.u y.u = some (decide (x = y)) := by
  obtain ⟨a0, a1⟩ := x
  obtain ⟨b0, b1⟩ := y
  simp only [ReadMark.mk.injEq]
  show (if 2 = 2 then eqInts _ _ else none) = _
  simp only [if_true, eqInts_cons, eqInts_nil, Option.map_some, Bool.decide_and, Bool.and_true]
  rfl

structure Write where
  key : Int
  value : Int
  deriving DecidableEq
theorem Write.eq_iff (x y : Write) : x = y ↔ x.key = y.key ∧ x.value = y.value := by cases x; cases y; simp only [Write.mk.injEq]
def Write.u (e : Write) : U := .agg [.int .i64 e.key, .int .i64 e.value]
@[simp] theorem Write.u_size (e : Write) : e.u.size = 2 := rfl
@[simp] theorem Write.u_var (e : Write) (K : U → Option α) : U.asVar true 2 e.u K = K e.u := rfl
@[simp] theorem Write.u_storable (e : Write) : storable (.val e.u) = true := rfl
@[simp] theorem Write.u_partable (e : Write) : partable (.val e.u) = true := rfl
@[simp] theorem Write.u_noTup (e : Write) (K : U → Option α) : U.noTup e.u K = K e.u := rfl
@[simp] theorem Write.u_agg (e : Write) (K : List U → Option α) : U.asAgg e.u K = K [.int .i64 e.key, .int .i64 e.value] := rfl
@[simp] theorem Write.u_at0 (e : Write) (K : U → Option α) : U.fieldAt 0 0 e.u K = K (.int .i64 e.key) := rfl
@[simp] theorem Write.u_at1 (e : Write) (K : U → Option α) : U.fieldAt 1 1 e.u K = K (.int .i64 e.value) := rfl
@[simp] theorem Write.u_flat (e : Write) : e.u.flat = true := rfl
@[simp] theorem Write.u_asFlat (e : Write) (K : U → Option α) : U.asFlat e.u K = K e.u := rfl
@[simp] theorem Write.u_eqv (x y : Write) : U.eqv 4 x.u y.u = some (decide (x = y)) := by
  obtain ⟨a0, a1⟩ := x
  obtain ⟨b0, b1⟩ := y
  simp only [Write.mk.injEq]
  show (if 2 = 2 then eqInts _ _ else none) = _
  simp only [if_true, eqInts_cons, eqInts_nil, Option.map_some, Bool.decide_and, Bool.and_true]
  rfl

structure Lock where
  key : Int
  owner : Int
  deriving DecidableEq
theorem Lock.eq_iff (x y : Lock) : x = y ↔ x.key = y.key ∧ x.owner = y.owner := by cases x; cases y; simp only [Lock.mk.injEq]
def Lock.u (e : Lock) : U := .agg [.int .i64 e.key, .int .i64 e.owner]
@[simp] theorem Lock.u_size (e : Lock) : e.u.size = 2 := rfl
@[simp] theorem Lock.u_var (e : Lock) (K : U → Option α) : U.asVar true 2 e.u K = K e.u := rfl
@[simp] theorem Lock.u_storable (e : Lock) : storable (.val e.u) = true := rfl
@[simp] theorem Lock.u_partable (e : Lock) : partable (.val e.u) = true := rfl
@[simp] theorem Lock.u_noTup (e : Lock) (K : U → Option α) : U.noTup e.u K = K e.u := rfl
@[simp] theorem Lock.u_agg (e : Lock) (K : List U → Option α) : U.asAgg e.u K = K [.int .i64 e.key, .int .i64 e.owner] := rfl
@[simp] theorem Lock.u_at0 (e : Lock) (K : U → Option α) : U.fieldAt 0 0 e.u K = K (.int .i64 e.key) := rfl
@[simp] theorem Lock.u_at1 (e : Lock) (K : U → Option α) : U.fieldAt 1 1 e.u K = K (.int .i64 e.owner) := rfl
@[simp] theorem Lock.u_flat (e : Lock) : e.u.flat = true := rfl
@[simp] theorem Lock.u_asFlat (e : Lock) (K : U → Option α) : U.asFlat e.u K = K e.u := rfl
@[simp] theorem Lock.u_eqv (x y : Lock) : U.eqv 4 x.u y.u = some (decide (x = y)) := by
  obtain ⟨a0, a1⟩ := x
  obtain ⟨b0, b1⟩ := y
  simp only [Lock.mk.injEq]
  show (if 2 = 2 then eqInts _ _ else none) = _
  simp only [if_true, eqInts_cons, eqInts_nil, Option.map_some, Bool.decide_and, Bool.and_true]
  rfl

structure Wait where
  id : Int
  for_ : Int
  deriving DecidableEq
theorem Wait.eq_iff (x y : Wait) : x = y ↔ x.id = y.id ∧ x.for_ = y.for_ := by cases x; cases y; simp only [Wait.mk.injEq]
def Wait.u (e : Wait) : U := .agg [.int .i64 e.id, .int .i64 e.for_]
@[simp] theorem Wait.u_size (e : Wait) : e.u.size = 2 := rfl
@[simp] theorem Wait.u_var (e : Wait) (K : U → Option α) : U.asVar true 2 e.u K = K e.u := rfl
@[simp] theorem Wait.u_storable (e : Wait) : storable (.val e.u) = true := rfl
@[simp] theorem Wait.u_partable (e : Wait) : partable (.val e.u) = true := rfl
@[simp] theorem Wait.u_noTup (e : Wait) (K : U → Option α) : U.noTup e.u K = K e.u := rfl
@[simp] theorem Wait.u_agg (e : Wait) (K : List U → Option α) : U.asAgg e.u K = K [.int .i64 e.id, .int .i64 e.for_] := rfl
@[simp] theorem Wait.u_at0 (e : Wait) (K : U → Option α) : U.fieldAt 0 0 e.u K = K (.int .i64 e.id) := rfl
@[simp] theorem Wait.u_at1 (e : Wait) (K : U → Option α) : U.fieldAt 1 1 e.u K = K (.int .i64 e.for_) := rfl
@[simp] theorem Wait.u_flat (e : Wait) : e.u.flat = true := rfl
@[simp] theorem Wait.u_asFlat (e : Wait) (K : U → Option α) : U.asFlat e.u K = K e.u := rfl
@[simp] theorem Wait.u_eqv (x y : Wait) : U.eqv 4 x.u y.u = some (decide (x = y)) := by
  obtain ⟨a0, a1⟩ := x
  obtain ⟨b0, b1⟩ := y
  simp only [Wait.mk.injEq]
  show (if 2 = 2 then eqInts _ _ else none) = _
  simp only [if_true, eqInts_cons, eqInts_nil, Option.map_some, Bool.decide_and, Bool.and_true]
  rfl

structure Version where
  writer : Int
  value : Int
  created : Int
  reader : Int
  successor : Int
  deriving DecidableEq
theorem Version.eq_iff (x y : Version) : x = y ↔ x.writer = y.writer ∧ x.value = y.value ∧ x.created = y.created ∧ x.reader = y.reader ∧ x.successor = y.successor := by cases x; cases y; simp only [Version.mk.injEq]
def Version.u (e : Version) : U := .agg [.int .i64 e.writer, .int .i64 e.value, .int .i64 e.created, .int .i64 e.reader, .int .i64 e.successor]
@[simp] theorem Version.u_size (e : Version) : e.u.size = 5 := rfl
@[simp] theorem Version.u_var (e : Version) (K : U → Option α) : U.asVar true 5 e.u K = K e.u := rfl
@[simp] theorem Version.u_storable (e : Version) : storable (.val e.u) = true := rfl
@[simp] theorem Version.u_partable (e : Version) : partable (.val e.u) = true := rfl
@[simp] theorem Version.u_noTup (e : Version) (K : U → Option α) : U.noTup e.u K = K e.u := rfl
@[simp] theorem Version.u_agg (e : Version) (K : List U → Option α) : U.asAgg e.u K = K [.int .i64 e.writer, .int .i64 e.value, .int .i64 e.created, .int .i64 e.reader, .int .i64 e.successor] := rfl
@[simp] theorem Version.u_at0 (e : Version) (K : U → Option α) : U.fieldAt 0 0 e.u K = K (.int .i64 e.writer) := rfl
@[simp] theorem Version.u_at1 (e : Version) (K : U → Option α) : U.fieldAt 1 1 e.u K = K (.int .i64 e.value) := rfl
@[simp] theorem Version.u_at2 (e : Version) (K : U → Option α) : U.fieldAt 2 2 e.u K = K (.int .i64 e.created) := rfl
@[simp] theorem Version.u_at3 (e : Version) (K : U → Option α) : U.fieldAt 3 3 e.u K = K (.int .i64 e.reader) := rfl
@[simp] theorem Version.u_at4 (e : Version) (K : U → Option α) : U.fieldAt 4 4 e.u K = K (.int .i64 e.successor) := rfl
@[simp] theorem Version.u_flat (e : Version) : e.u.flat = true := rfl
@[simp] theorem Version.u_asFlat (e : Version) (K : U → Option α) : U.asFlat e.u K = K e.u := rfl
@[simp] theorem Version.u_eqv (x y : Version) : U.eqv 7 x.u y.u = some (decide (x = y)) := by
  obtain ⟨a0, a1, a2, a3, a4⟩ := x
  obtain ⟨b0, b1, b2, b3, b4⟩ := y
  simp only [Version.mk.injEq]
  show (if 5 = 5 then eqInts _ _ else none) = _
  simp only [if_true, eqInts_cons, eqInts_nil, Option.map_some, Bool.decide_and, Bool.and_true]
  rfl

structure Entry where
  id : Int
  stamp : Int
  reads : List ReadMark
  writes : List Write
  deriving DecidableEq
theorem Entry.eq_iff (x y : Entry) : x = y ↔ x.id = y.id ∧ x.stamp = y.stamp ∧ x.reads = y.reads ∧ x.writes = y.writes := by cases x; cases y; simp only [Entry.mk.injEq]
def Entry.u (e : Entry) : U := .agg [.int .i64 e.id, .int .i64 e.stamp, .sl 2 (e.reads.map ReadMark.u), .sl 2 (e.writes.map Write.u)]
@[simp] theorem Entry.u_size (e : Entry) : e.u.size = 4 := rfl
@[simp] theorem Entry.u_var (e : Entry) (K : U → Option α) : U.asVar true 4 e.u K = K e.u := rfl
@[simp] theorem Entry.u_storable (e : Entry) : storable (.val e.u) = true := rfl
@[simp] theorem Entry.u_partable (e : Entry) : partable (.val e.u) = true := rfl
@[simp] theorem Entry.u_noTup (e : Entry) (K : U → Option α) : U.noTup e.u K = K e.u := rfl
@[simp] theorem Entry.u_agg (e : Entry) (K : List U → Option α) : U.asAgg e.u K = K [.int .i64 e.id, .int .i64 e.stamp, .sl 2 (e.reads.map ReadMark.u), .sl 2 (e.writes.map Write.u)] := rfl
@[simp] theorem Entry.u_at0 (e : Entry) (K : U → Option α) : U.fieldAt 0 0 e.u K = K (.int .i64 e.id) := rfl
@[simp] theorem Entry.u_at1 (e : Entry) (K : U → Option α) : U.fieldAt 1 1 e.u K = K (.int .i64 e.stamp) := rfl
@[simp] theorem Entry.u_at2 (e : Entry) (K : U → Option α) : U.fieldAt 2 2 e.u K = K (.sl 2 (e.reads.map ReadMark.u)) := rfl
@[simp] theorem Entry.u_at3 (e : Entry) (K : U → Option α) : U.fieldAt 3 3 e.u K = K (.sl 2 (e.writes.map Write.u)) := rfl

structure LogRecord where
  stamp : Int
  id : Int
  high : Int
  safe : Int
  reads : List ReadMark
  writes : List Write
  deriving DecidableEq
theorem LogRecord.eq_iff (x y : LogRecord) : x = y ↔ x.stamp = y.stamp ∧ x.id = y.id ∧ x.high = y.high ∧ x.safe = y.safe ∧ x.reads = y.reads ∧ x.writes = y.writes := by cases x; cases y; simp only [LogRecord.mk.injEq]
def LogRecord.u (e : LogRecord) : U := .agg [.int .i64 e.stamp, .int .i64 e.id, .int .i64 e.high, .int .i64 e.safe, .sl 2 (e.reads.map ReadMark.u), .sl 2 (e.writes.map Write.u)]
@[simp] theorem LogRecord.u_size (e : LogRecord) : e.u.size = 6 := rfl
@[simp] theorem LogRecord.u_var (e : LogRecord) (K : U → Option α) : U.asVar true 6 e.u K = K e.u := rfl
@[simp] theorem LogRecord.u_storable (e : LogRecord) : storable (.val e.u) = true := rfl
@[simp] theorem LogRecord.u_partable (e : LogRecord) : partable (.val e.u) = true := rfl
@[simp] theorem LogRecord.u_noTup (e : LogRecord) (K : U → Option α) : U.noTup e.u K = K e.u := rfl
@[simp] theorem LogRecord.u_agg (e : LogRecord) (K : List U → Option α) : U.asAgg e.u K = K [.int .i64 e.stamp, .int .i64 e.id, .int .i64 e.high, .int .i64 e.safe, .sl 2 (e.reads.map ReadMark.u), .sl 2 (e.writes.map Write.u)] := rfl
@[simp] theorem LogRecord.u_at0 (e : LogRecord) (K : U → Option α) : U.fieldAt 0 0 e.u K = K (.int .i64 e.stamp) := rfl
@[simp] theorem LogRecord.u_at1 (e : LogRecord) (K : U → Option α) : U.fieldAt 1 1 e.u K = K (.int .i64 e.id) := rfl
@[simp] theorem LogRecord.u_at2 (e : LogRecord) (K : U → Option α) : U.fieldAt 2 2 e.u K = K (.int .i64 e.high) := rfl
@[simp] theorem LogRecord.u_at3 (e : LogRecord) (K : U → Option α) : U.fieldAt 3 3 e.u K = K (.int .i64 e.safe) := rfl
@[simp] theorem LogRecord.u_at4 (e : LogRecord) (K : U → Option α) : U.fieldAt 4 4 e.u K = K (.sl 2 (e.reads.map ReadMark.u)) := rfl
@[simp] theorem LogRecord.u_at5 (e : LogRecord) (K : U → Option α) : U.fieldAt 5 5 e.u K = K (.sl 2 (e.writes.map Write.u)) := rfl

structure Transaction where
  id : Int
  scheme : Int
  state : Int
  begin_ : Int
  low : Int
  high : Int
  commit : Int
  reads : List ReadMark
  writes : List Write
  deriving DecidableEq
theorem Transaction.eq_iff (x y : Transaction) : x = y ↔ x.id = y.id ∧ x.scheme = y.scheme ∧ x.state = y.state ∧ x.begin_ = y.begin_ ∧ x.low = y.low ∧ x.high = y.high ∧ x.commit = y.commit ∧ x.reads = y.reads ∧ x.writes = y.writes := by cases x; cases y; simp only [Transaction.mk.injEq]
def Transaction.u (e : Transaction) : U := .agg [.int .i64 e.id, .int .i64 e.scheme, .int .i64 e.state, .int .i64 e.begin_, .int .i64 e.low, .int .i64 e.high, .int .i64 e.commit, .sl 2 (e.reads.map ReadMark.u), .sl 2 (e.writes.map Write.u)]
@[simp] theorem Transaction.u_size (e : Transaction) : e.u.size = 9 := rfl
@[simp] theorem Transaction.u_var (e : Transaction) (K : U → Option α) : U.asVar true 9 e.u K = K e.u := rfl
@[simp] theorem Transaction.u_storable (e : Transaction) : storable (.val e.u) = true := rfl
@[simp] theorem Transaction.u_partable (e : Transaction) : partable (.val e.u) = true := rfl
@[simp] theorem Transaction.u_noTup (e : Transaction) (K : U → Option α) : U.noTup e.u K = K e.u := rfl
@[simp] theorem Transaction.u_agg (e : Transaction) (K : List U → Option α) : U.asAgg e.u K = K [.int .i64 e.id, .int .i64 e.scheme, .int .i64 e.state, .int .i64 e.begin_, .int .i64 e.low, .int .i64 e.high, .int .i64 e.commit, .sl 2 (e.reads.map ReadMark.u), .sl 2 (e.writes.map Write.u)] := rfl
@[simp] theorem Transaction.u_at0 (e : Transaction) (K : U → Option α) : U.fieldAt 0 0 e.u K = K (.int .i64 e.id) := rfl
@[simp] theorem Transaction.u_at1 (e : Transaction) (K : U → Option α) : U.fieldAt 1 1 e.u K = K (.int .i64 e.scheme) := rfl
@[simp] theorem Transaction.u_at2 (e : Transaction) (K : U → Option α) : U.fieldAt 2 2 e.u K = K (.int .i64 e.state) := rfl
@[simp] theorem Transaction.u_at3 (e : Transaction) (K : U → Option α) : U.fieldAt 3 3 e.u K = K (.int .i64 e.begin_) := rfl
@[simp] theorem Transaction.u_at4 (e : Transaction) (K : U → Option α) : U.fieldAt 4 4 e.u K = K (.int .i64 e.low) := rfl
@[simp] theorem Transaction.u_at5 (e : Transaction) (K : U → Option α) : U.fieldAt 5 5 e.u K = K (.int .i64 e.high) := rfl
@[simp] theorem Transaction.u_at6 (e : Transaction) (K : U → Option α) : U.fieldAt 6 6 e.u K = K (.int .i64 e.commit) := rfl
@[simp] theorem Transaction.u_at7 (e : Transaction) (K : U → Option α) : U.fieldAt 7 7 e.u K = K (.sl 2 (e.reads.map ReadMark.u)) := rfl
@[simp] theorem Transaction.u_at8 (e : Transaction) (K : U → Option α) : U.fieldAt 8 8 e.u K = K (.sl 2 (e.writes.map Write.u)) := rfl

structure Op where
  kind : Int
  id : Int
  scheme : Int
  key : Int
  high : Int
  value : Int
  deriving DecidableEq
theorem Op.eq_iff (x y : Op) : x = y ↔ x.kind = y.kind ∧ x.id = y.id ∧ x.scheme = y.scheme ∧ x.key = y.key ∧ x.high = y.high ∧ x.value = y.value := by cases x; cases y; simp only [Op.mk.injEq]
def Op.u (e : Op) : U := .agg [.int .i64 e.kind, .int .i64 e.id, .int .i64 e.scheme, .int .i64 e.key, .int .i64 e.high, .int .i64 e.value]
@[simp] theorem Op.u_size (e : Op) : e.u.size = 6 := rfl
@[simp] theorem Op.u_var (e : Op) (K : U → Option α) : U.asVar true 6 e.u K = K e.u := rfl
@[simp] theorem Op.u_storable (e : Op) : storable (.val e.u) = true := rfl
@[simp] theorem Op.u_partable (e : Op) : partable (.val e.u) = true := rfl
@[simp] theorem Op.u_noTup (e : Op) (K : U → Option α) : U.noTup e.u K = K e.u := rfl
@[simp] theorem Op.u_agg (e : Op) (K : List U → Option α) : U.asAgg e.u K = K [.int .i64 e.kind, .int .i64 e.id, .int .i64 e.scheme, .int .i64 e.key, .int .i64 e.high, .int .i64 e.value] := rfl
@[simp] theorem Op.u_at0 (e : Op) (K : U → Option α) : U.fieldAt 0 0 e.u K = K (.int .i64 e.kind) := rfl
@[simp] theorem Op.u_at1 (e : Op) (K : U → Option α) : U.fieldAt 1 1 e.u K = K (.int .i64 e.id) := rfl
@[simp] theorem Op.u_at2 (e : Op) (K : U → Option α) : U.fieldAt 2 2 e.u K = K (.int .i64 e.scheme) := rfl
@[simp] theorem Op.u_at3 (e : Op) (K : U → Option α) : U.fieldAt 3 3 e.u K = K (.int .i64 e.key) := rfl
@[simp] theorem Op.u_at4 (e : Op) (K : U → Option α) : U.fieldAt 4 4 e.u K = K (.int .i64 e.high) := rfl
@[simp] theorem Op.u_at5 (e : Op) (K : U → Option α) : U.fieldAt 5 5 e.u K = K (.int .i64 e.value) := rfl
@[simp] theorem Op.u_flat (e : Op) : e.u.flat = true := rfl
@[simp] theorem Op.u_asFlat (e : Op) (K : U → Option α) : U.asFlat e.u K = K e.u := rfl
@[simp] theorem Op.u_eqv (x y : Op) : U.eqv 8 x.u y.u = some (decide (x = y)) := by
  obtain ⟨a0, a1, a2, a3, a4, a5⟩ := x
  obtain ⟨b0, b1, b2, b3, b4, b5⟩ := y
  simp only [Op.mk.injEq]
  show (if 6 = 6 then eqInts _ _ else none) = _
  simp only [if_true, eqInts_cons, eqInts_nil, Option.map_some, Bool.decide_and, Bool.and_true]
  rfl

structure StepR where
  code : Int
  values : List Int
  deriving DecidableEq
theorem StepR.eq_iff (x y : StepR) : x = y ↔ x.code = y.code ∧ x.values = y.values := by cases x; cases y; simp only [StepR.mk.injEq]
def StepR.u (e : StepR) : U := .agg [.int .i64 e.code, .sl 1 (e.values.map intU)]
@[simp] theorem StepR.u_size (e : StepR) : e.u.size = 2 := rfl
@[simp] theorem StepR.u_var (e : StepR) (K : U → Option α) : U.asVar true 2 e.u K = K e.u := rfl
@[simp] theorem StepR.u_storable (e : StepR) : storable (.val e.u) = true := rfl
@[simp] theorem StepR.u_partable (e : StepR) : partable (.val e.u) = true := rfl
@[simp] theorem StepR.u_noTup (e : StepR) (K : U → Option α) : U.noTup e.u K = K e.u := rfl
@[simp] theorem StepR.u_agg (e : StepR) (K : List U → Option α) : U.asAgg e.u K = K [.int .i64 e.code, .sl 1 (e.values.map intU)] := rfl
@[simp] theorem StepR.u_at0 (e : StepR) (K : U → Option α) : U.fieldAt 0 0 e.u K = K (.int .i64 e.code) := rfl
@[simp] theorem StepR.u_at1 (e : StepR) (K : U → Option α) : U.fieldAt 1 1 e.u K = K (.sl 1 (e.values.map intU)) := rfl

def chainU (l : List Version) : U := .sl 5 (l.map Version.u)
@[simp] theorem chainU_size (l : List Version) : (chainU l).size = 1 := rfl
@[simp] theorem asVar_chainU (l : List Version) (K : U → Option α) : U.asVar false 1 (chainU l) K = K (chainU l) := rfl
@[simp] theorem storable_chainU (l : List Version) : storable (.val (chainU l)) = true := rfl
@[simp] theorem partable_chainU (l : List Version) : partable (.val (chainU l)) = true := rfl
@[simp] theorem noTup_chainU (l : List Version) (K : U → Option α) : U.noTup (chainU l) K = K (chainU l) := rfl
@[simp] theorem lenOf_chainU (l : List Version) : U.lenOf false (chainU l) = some l.length := by simp [chainU]
@[simp] theorem elemAt_chainU (l : List Version) (i : Int) (K : U → Option α) : U.elemAt 5 (chainU l) i K = U.elemAt 5 (.sl 5 (l.map Version.u)) i K := rfl

structure Store where
  chains : List (List Version)
  deriving DecidableEq
theorem Store.eq_iff (x y : Store) : x = y ↔ x.chains = y.chains := by cases x; cases y; simp only [Store.mk.injEq]
def Store.u (e : Store) : U := .agg [.sl 1 (e.chains.map chainU)]
@[simp] theorem Store.u_size (e : Store) : e.u.size = 1 := rfl
@[simp] theorem Store.u_var (e : Store) (K : U → Option α) : U.asVar true 1 e.u K = K e.u := rfl
@[simp] theorem Store.u_storable (e : Store) : storable (.val e.u) = true := rfl
@[simp] theorem Store.u_partable (e : Store) : partable (.val e.u) = true := rfl
@[simp] theorem Store.u_noTup (e : Store) (K : U → Option α) : U.noTup e.u K = K e.u := rfl
@[simp] theorem Store.u_agg (e : Store) (K : List U → Option α) : U.asAgg e.u K = K [.sl 1 (e.chains.map chainU)] := rfl
@[simp] theorem Store.u_at0 (e : Store) (K : U → Option α) : U.fieldAt 0 0 e.u K = K (.sl 1 (e.chains.map chainU)) := rfl

structure Engine where
  certify : Bool
  store : Store
  transactions : List Transaction
  locks : List Lock
  waits : List Wait
  stamp : Int
  deriving DecidableEq
theorem Engine.eq_iff (x y : Engine) : x = y ↔ x.certify = y.certify ∧ x.store = y.store ∧ x.transactions = y.transactions ∧ x.locks = y.locks ∧ x.waits = y.waits ∧ x.stamp = y.stamp := by cases x; cases y; simp only [Engine.mk.injEq]
def Engine.u (e : Engine) : U := .agg [.bool e.certify, e.store.u, .sl 9 (e.transactions.map Transaction.u), .sl 2 (e.locks.map Lock.u), .sl 2 (e.waits.map Wait.u), .int .i64 e.stamp]
@[simp] theorem Engine.u_size (e : Engine) : e.u.size = 6 := rfl
@[simp] theorem Engine.u_var (e : Engine) (K : U → Option α) : U.asVar true 6 e.u K = K e.u := rfl
@[simp] theorem Engine.u_storable (e : Engine) : storable (.val e.u) = true := rfl
@[simp] theorem Engine.u_partable (e : Engine) : partable (.val e.u) = true := rfl
@[simp] theorem Engine.u_noTup (e : Engine) (K : U → Option α) : U.noTup e.u K = K e.u := rfl
@[simp] theorem Engine.u_agg (e : Engine) (K : List U → Option α) : U.asAgg e.u K = K [.bool e.certify, e.store.u, .sl 9 (e.transactions.map Transaction.u), .sl 2 (e.locks.map Lock.u), .sl 2 (e.waits.map Wait.u), .int .i64 e.stamp] := rfl
@[simp] theorem Engine.u_at0 (e : Engine) (K : U → Option α) : U.fieldAt 0 0 e.u K = K (.bool e.certify) := rfl
@[simp] theorem Engine.u_at1 (e : Engine) (K : U → Option α) : U.fieldAt 1 1 e.u K = K (e.store.u) := rfl
@[simp] theorem Engine.u_at2 (e : Engine) (K : U → Option α) : U.fieldAt 2 2 e.u K = K (.sl 9 (e.transactions.map Transaction.u)) := rfl
@[simp] theorem Engine.u_at3 (e : Engine) (K : U → Option α) : U.fieldAt 3 3 e.u K = K (.sl 2 (e.locks.map Lock.u)) := rfl
@[simp] theorem Engine.u_at4 (e : Engine) (K : U → Option α) : U.fieldAt 4 4 e.u K = K (.sl 2 (e.waits.map Wait.u)) := rfl
@[simp] theorem Engine.u_at5 (e : Engine) (K : U → Option α) : U.fieldAt 5 5 e.u K = K (.int .i64 e.stamp) := rfl

structure Node where
  engine : Engine
  log : ByteArray
  deriving DecidableEq
theorem Node.eq_iff (x y : Node) : x = y ↔ x.engine = y.engine ∧ x.log = y.log := by cases x; cases y; simp only [Node.mk.injEq]
def Node.u (e : Node) : U := .agg [e.engine.u, .str e.log]
@[simp] theorem Node.u_size (e : Node) : e.u.size = 7 := rfl
@[simp] theorem Node.u_var (e : Node) (K : U → Option α) : U.asVar true 7 e.u K = K e.u := rfl
@[simp] theorem Node.u_storable (e : Node) : storable (.val e.u) = true := rfl
@[simp] theorem Node.u_partable (e : Node) : partable (.val e.u) = true := rfl
@[simp] theorem Node.u_noTup (e : Node) (K : U → Option α) : U.noTup e.u K = K e.u := rfl
@[simp] theorem Node.u_agg (e : Node) (K : List U → Option α) : U.asAgg e.u K = K [e.engine.u, .str e.log] := rfl
@[simp] theorem Node.u_at0 (e : Node) (K : U → Option α) : U.fieldAt 0 0 e.u K = K (e.engine.u) := rfl
@[simp] theorem Node.u_at1 (e : Node) (K : U → Option α) : U.fieldAt 1 6 e.u K = K (.str e.log) := rfl

structure Report where
  order : List Int
  cycle : List Int
  kind : Int
  deriving DecidableEq
theorem Report.eq_iff (x y : Report) : x = y ↔ x.order = y.order ∧ x.cycle = y.cycle ∧ x.kind = y.kind := by cases x; cases y; simp only [Report.mk.injEq]
def Report.u (e : Report) : U := .agg [.sl 1 (e.order.map intU), .sl 1 (e.cycle.map intU), .int .i64 e.kind]
@[simp] theorem Report.u_size (e : Report) : e.u.size = 3 := rfl
@[simp] theorem Report.u_var (e : Report) (K : U → Option α) : U.asVar true 3 e.u K = K e.u := rfl
@[simp] theorem Report.u_storable (e : Report) : storable (.val e.u) = true := rfl
@[simp] theorem Report.u_partable (e : Report) : partable (.val e.u) = true := rfl
@[simp] theorem Report.u_noTup (e : Report) (K : U → Option α) : U.noTup e.u K = K e.u := rfl
@[simp] theorem Report.u_agg (e : Report) (K : List U → Option α) : U.asAgg e.u K = K [.sl 1 (e.order.map intU), .sl 1 (e.cycle.map intU), .int .i64 e.kind] := rfl
@[simp] theorem Report.u_at0 (e : Report) (K : U → Option α) : U.fieldAt 0 0 e.u K = K (.sl 1 (e.order.map intU)) := rfl
@[simp] theorem Report.u_at1 (e : Report) (K : U → Option α) : U.fieldAt 1 1 e.u K = K (.sl 1 (e.cycle.map intU)) := rfl
@[simp] theorem Report.u_at2 (e : Report) (K : U → Option α) : U.fieldAt 2 2 e.u K = K (.int .i64 e.kind) := rfl

end Go.Proofs.Ytfdcdbkblkehcaa.Am
/-
  What the functions on lists of edges compute.
-/
namespace Go.Proofs.Ytfdcdbkblkehcaa.Am
open Go
variable {E : Env}

/-- Is n in a range? -/
def inR (n lo hi : Int) : Bool := decide (lo ≤ n ∧ n ≤ hi)

theorem spec_l1In_is (h : G_spec_l1In E) (n lo hi : Int) : E 6 [.int .i64 n, .int .i64 lo, .int .i64 hi] = some (.bool (inR n lo hi)) := by
  rw [spec_l1In_E h]
  by_cases h1 : lo ≤ n <;> simp [inR, h1]
theorem impl_in_is (h : G_impl_in E) (n lo hi : Int) : E 10 [.int .i64 n, .int .i64 lo, .int .i64 hi] = some (.bool (inR n lo hi)) := by
  rw [impl_in_E h]
  by_cases h1 : lo ≤ n <;> simp [inR, h1]
theorem impl_isID_is (h : G_impl_isID E) (n : Int) : E 9 [.int .i64 n] = some (.bool (inR n 1 9)) := by
  rw [impl_isID_E h]; simp [impl_in_is h.c_impl_in]
theorem impl_isKey_is (h : G_impl_isKey E) (n : Int) : E 11 [.int .i64 n] = some (.bool (inR n 0 5)) := by
  rw [impl_isKey_E h]; simp [impl_in_is h.c_impl_in]

def cmpI (a b : Int) : Int := if a < b then -1 else if b < a then 1 else 0
theorem cmp_isNaN_is (h : G_cmp_isNaN_g15 E) (n : Int) : E 15 [.int .i64 n] = some (.bool false) := by
  rw [cmp_isNaN_g15_E h]; simp
theorem cmp_Compare_is (h : G_cmp_Compare_g13 E) (a b : Int) : E 13 [.int .i64 a, .int .i64 b] = some (.int .i64 (cmpI a b)) := by
  rw [cmp_Compare_g13_E h]
  simp only [cmp_isNaN_is h.c_cmp_isNaN_g15, cmpI]
  by_cases h1 : a < b <;> by_cases h2 : b < a <;> simp [h1, h2]

/-- The first that is not 0. -/
def cmpOr : List Int → Int
  | [] => 0
  | n :: l => if n = 0 then cmpOr l else n
theorem cmp_Or_l0_is (l : List Int) (hl : l.length ≤ 1000) : ∀ (r p : List Int) (i : Int), l = p ++ r → i = p.length → cmp_Or_g14_l0 E (.int .i64 0) (intsU l) (.int .i64 l.length) (.int .i64 i) = some (.int .i64 (cmpOr r))
  | [], p, i, e, hi => by
    rw [cmp_Or_g14_l0_eq]
    simp [mid_end e hi, cmpOr]
  | x :: r, p, i, e, hi => by
    obtain ⟨h0, hlt, hx, hw, hn, _⟩ := mid_at e hi (by omega)
    have ih := cmp_Or_l0_is l hl r (p ++ [x]) (i + 1) (mid_next e) hn
    rw [cmp_Or_g14_l0_eq]
    simp [h0, hlt, hx, hw, cmpOr, ih]
    split <;> simp_all
theorem cmp_Or_is (h : G_cmp_Or_g14 E) (l : List Int) (hl : l.length ≤ 1000) : E 14 [intsU l] = some (.int .i64 (cmpOr l)) := by
  rw [cmp_Or_g14_E h]
  simp [cmp_Or_l0_is (E := E) l hl l [] 0 rfl rfl]

/-- The order of edges: by From, To, Kind and Key. -/
def edgeLt (a b : Edge) : Bool :=
  if a.frm ≠ b.frm then decide (a.frm < b.frm) else if a.to ≠ b.to then decide (a.to < b.to) else if a.kind ≠ b.kind then decide (a.kind < b.kind) else decide (a.key < b.key)

def edgeCmp (a b : Edge) : Int := cmpOr [cmpI a.frm b.frm, cmpI a.to b.to, cmpI a.kind b.kind, cmpI a.key b.key]

theorem cmpI_zero {a b : Int} : cmpI a b = 0 ↔ a = b := by unfold cmpI; split <;> (try split) <;> omega
theorem cmpI_neg {a b : Int} : cmpI a b < 0 ↔ a < b := by unfold cmpI; split <;> (try split) <;> omega

theorem edgeCmp_neg (a b : Edge) : edgeCmp a b < 0 ↔ edgeLt a b = true := by
  unfold edgeCmp edgeLt
  simp only [cmpOr, cmpI_zero]
  by_cases h1 : a.frm = b.frm <;> by_cases h2 : a.to = b.to <;> by_cases h3 : a.kind = b.kind <;> by_cases h4 : a.key = b.key <;> simp [h1, h2, h3, h4, cmpI_neg]

theorem impl_compareEdges_is (h : G_impl_compareEdges E) (a b : Edge) : E 12 [a.u, b.u] = some (.int .i64 (edgeCmp a b)) := by
  rw [impl_compareEdges_E h]
  have := cmp_Or_is h.c_cmp_Or_g14 [cmpI a.frm b.frm, cmpI a.to b.to, cmpI a.kind b.kind, cmpI a.key b.key] (by simp)
  simp only [intsU, List.map_cons, List.map_nil, intU] at this
  simp [cmp_Compare_is h.c_cmp_Compare_g13, this, edgeCmp]

theorem spec_l19Less_is (h : G_spec_l19Less E) (a b : Edge) : E 7 [a.u, b.u] = some (.bool (edgeLt a b)) := by
  rw [spec_l19Less_E h]
  by_cases h1 : a.frm = b.frm <;> by_cases h2 : a.to = b.to <;> by_cases h3 : a.kind = b.kind <;> simp [h1, h2, h3, edgeLt]

/-- Is an edge right by itself? -/
def edgeOK (e : Edge) : Bool := inR e.frm 1 9 && inR e.to 1 9 && !decide (e.frm = e.to) && inR e.kind 1 3 && inR e.key 0 5

/-- The rest of a list of edges behind p. -/
def edgesFrom : Option Edge → List Edge → Bool
  | _, [] => true
  | p, e :: r => edgeOK e && (match p with | none => true | some q => edgeLt q e) && edgesFrom (some e) r

def areEdges (l : List Edge) : Bool := edgesFrom none l

abbrev edgesU (l : List Edge) : U := .sl 4 (l.map Edge.u)

theorem spec_AreEdges_l0_is (h : G_spec_AreEdges E) (l : List Edge) (hl : l.length ≤ 1048576) : ∀ (r p : List Edge) (i : Int), l = p ++ r → i = p.length →
    spec_AreEdges_l0 E (edgesU l) (.int .i64 i) = some (.bool (edgesFrom p.getLast? r))
  | [], p, i, e, hi => by
    rw [spec_AreEdges_l0_eq]
    simp [mid_end e hi, edgesFrom]
  | x :: r, p, i, e, hi => by
    obtain ⟨h0, hlt, hx, hw, hn, _⟩ := mid_at e hi (by omega)
    have ih := spec_AreEdges_l0_is h l hl r (p ++ [x]) (i + 1) (mid_next e) hn
    rw [List.getLast?_concat] at ih
    rw [spec_AreEdges_l0_eq]
    by_cases hp : p = []
    · have hi0 : ¬ 0 < i := by subst hp; simp at hi; omega
      simp [h0, hlt, hx, hw, ih, spec_l1In_is h.c_spec_l1In, edgesFrom, edgeOK, hi0, hp]
      cases inR x.frm 1 9 <;> cases inR x.to 1 9 <;> cases inR x.kind 1 3 <;> cases inR x.key 0 5 <;> by_cases h3 : x.frm = x.to <;> simp [h3]
    · obtain ⟨q, j, hq, hpos, hw1, h1, hq1, _⟩ := mid_last e hi (by omega) hp
      simp [h0, hlt, hx, hw, ih, spec_l1In_is h.c_spec_l1In, edgesFrom, edgeOK, hq, hpos, hw1, h1, hq1, spec_l19Less_is h.c_spec_l19Less]
      cases inR x.frm 1 9 <;> cases inR x.to 1 9 <;> cases inR x.kind 1 3 <;> cases inR x.key 0 5 <;> by_cases h3 : x.frm = x.to <;> cases edgeLt q x <;> simp [h3]
theorem spec_AreEdges_is (h : G_spec_AreEdges E) (l : List Edge) (hl : l.length ≤ 1048576) : E 4 [edgesU l] = some (.bool (areEdges l)) := by
  rw [spec_AreEdges_E h]
  simp [spec_AreEdges_l0_is h l hl l [] 0 rfl rfl, areEdges]

theorem impl_AreEdges_l0_is (h : G_impl_AreEdges E) (l : List Edge) (hl : l.length ≤ 1048576) : ∀ (r p : List Edge) (i : Int), l = p ++ r → i = p.length →
    impl_AreEdges_l0 E (edgesU l) (edgesU l) (.int .i64 l.length) (.int .i64 i) = some (.bool (edgesFrom p.getLast? r))
  | [], p, i, e, hi => by
    rw [impl_AreEdges_l0_eq]
    simp [mid_end e hi, edgesFrom]
  | x :: r, p, i, e, hi => by
    obtain ⟨h0, hlt, hx, hw, hn, _⟩ := mid_at e hi (by omega)
    have ih := impl_AreEdges_l0_is h l hl r (p ++ [x]) (i + 1) (mid_next e) hn
    rw [List.getLast?_concat] at ih
    rw [impl_AreEdges_l0_eq]
    by_cases hp : p = []
    · have hi0 : ¬ 0 < i := by subst hp; simp at hi; omega
      simp [h0, hlt, hx, hw, ih, impl_isID_is h.c_impl_isID, impl_in_is h.c_impl_in, impl_isKey_is h.c_impl_isKey, edgesFrom, edgeOK, hi0, hp]
      cases inR x.frm 1 9 <;> cases inR x.to 1 9 <;> cases inR x.kind 1 3 <;> cases inR x.key 0 5 <;> by_cases h3 : x.frm = x.to <;> simp [h3]
    · obtain ⟨q, j, hq, hpos, hw1, h1, hq1, _⟩ := mid_last e hi (by omega) hp
      have hc := edgeCmp_neg q x
      simp [h0, hlt, hx, hw, ih, impl_isID_is h.c_impl_isID, impl_in_is h.c_impl_in, impl_isKey_is h.c_impl_isKey, edgesFrom, edgeOK, hq, hpos, hw1, h1, hq1, impl_compareEdges_is h.c_impl_compareEdges]
      cases inR x.frm 1 9 <;> cases inR x.to 1 9 <;> cases inR x.kind 1 3 <;> cases inR x.key 0 5 <;> by_cases h3 : x.frm = x.to <;> cases h4 : edgeLt q x <;> simp_all <;> omega
theorem impl_AreEdges_is (h : G_impl_AreEdges E) (l : List Edge) (hl : l.length ≤ 1048576) : E 3 [edgesU l] = some (.bool (areEdges l)) := by
  rw [impl_AreEdges_E h]
  simp [impl_AreEdges_l0_is h l hl l [] 0 rfl rfl, areEdges]
end Go.Proofs.Ytfdcdbkblkehcaa.Am
/-
  What the plain proofs of the laws' own helpers share.
-/
namespace Go.Proofs.Ytfdcdbkblkehcaa.Am
open Go

/-- What is left of a budget behind n pieces; -1: nothing. -/
def szc (n : Nat) (left : Int) : Int := if left - n < 0 then -1 else left - n

def szl {α : Type} (f : α → Int → Int) : List α → Int → Int
  | [], left => left
  | x :: r, left => if f x left < 0 then -1 else szl f r (f x left)

def szL {α : Type} (f : α → Int → Int) (l : List α) (left : Int) : Int := if left - (l.length : Int) < 0 then -1 else szl f l (left - l.length)

/-- A measure that bounds what it measures. -/
def Szs {α : Type} (f : α → Int → Int) (ok : α → Prop) : Prop := ∀ x left, 0 ≤ left → left ≤ 1048576 → f x left < 0 ∨ (ok x ∧ 0 ≤ f x left ∧ f x left ≤ left)

theorem szc_szs : Szs szc (fun n => n ≤ 1048576) := fun n left h0 h1 => by
  unfold szc
  split
  · left; omega
  · right; refine ⟨by omega, by omega, by omega⟩

theorem szc_neg {n : Nat} {left : Int} (h : szc n left < 0) : szc n left = -1 := by
  unfold szc at h ⊢
  split at h
  · rename_i h1; rw [if_pos h1]
  · rename_i h1; omega

theorem szl_szs {α : Type} {f : α → Int → Int} {ok : α → Prop} (h : Szs f ok) : Szs (szl f) (fun l => ∀ x ∈ l, ok x) := fun l => by
  induction l with
  | nil => exact fun left h0 _ => .inr ⟨by simp, h0, Int.le_refl _⟩
  | cons x r ih =>
    intro left h0 h1
    rcases h x left h0 h1 with h2 | ⟨h2, h3, h4⟩
    · left; simp [szl, h2]
    · have h5 : ¬ f x left < 0 := by omega
      simp only [szl, h5, if_false]
      rcases ih _ h3 (by omega) with h6 | ⟨h6, h7, h8⟩
      · exact .inl h6
      · exact .inr ⟨by simpa using ⟨h2, h6⟩, h7, by omega⟩

theorem szL_szs {α : Type} {f : α → Int → Int} {ok : α → Prop} (h : Szs f ok) : Szs (szL f) (fun l => l.length ≤ 1048576 ∧ ∀ x ∈ l, ok x) := fun l left h0 h1 => by
  unfold szL
  split
  · left; omega
  · rcases szl_szs h l (left - l.length) (by omega) (by omega) with h6 | ⟨h6, h7, h8⟩
    · exact .inl h6
    · exact .inr ⟨⟨by omega, h6⟩, h7, by omega⟩

theorem mid_set {α : Type} (f : α → U) (p : List α) (z : U) (c : List U) {i : Int} (hi : i = p.length) :
    (p.map f ++ z :: c)[i.toNat]? = some z ∧ (∀ y, (p.map f ++ z :: c).set i.toNat y = p.map f ++ y :: c) ∧ i < ((p.map f ++ z :: c).length : Int) := by
  subst hi
  refine ⟨by simp, fun y => by simp, by simp; omega⟩
def Entry.fit (e : Entry) : Prop := e.reads.length ≤ maxLen ∧ e.writes.length ≤ maxLen
def Entry.ok (e : Entry) : Prop := e.reads.length ≤ 1048576 ∧ e.writes.length ≤ 1048576
def LogRecord.fit (e : LogRecord) : Prop := e.reads.length ≤ maxLen ∧ e.writes.length ≤ maxLen
def LogRecord.ok (e : LogRecord) : Prop := e.reads.length ≤ 1048576 ∧ e.writes.length ≤ 1048576
def Transaction.fit (e : Transaction) : Prop := e.reads.length ≤ maxLen ∧ e.writes.length ≤ maxLen
def Transaction.ok (e : Transaction) : Prop := e.reads.length ≤ 1048576 ∧ e.writes.length ≤ 1048576

def chainOk (l : List Version) : Prop := l.length ≤ 1048576
def chainFit (l : List Version) : Prop := l.length ≤ maxLen
def chainSz (l : List Version) (left : Int) : Int := szc l.length left
theorem chainSz_szs : Szs chainSz chainOk := fun l left h0 h1 => szc_szs l.length left h0 h1
theorem chainSz_neg {l : List Version} {left : Int} (h : chainSz l left < 0) : chainSz l left = -1 := szc_neg h
theorem szl_neg {α : Type} {f : α → Int → Int} : ∀ {l : List α} {left : Int}, 0 ≤ left → szl f l left < 0 → szl f l left = -1
  | [], left, h0, h => by simp only [szl] at h; omega
  | x :: r, left, h0, h => by
    simp only [szl] at h ⊢
    by_cases h1 : f x left < 0
    · simp [h1]
    · simp only [h1, if_false] at h ⊢
      exact szl_neg (by omega) h
theorem szL_neg {α : Type} {f : α → Int → Int} (_ : ∀ {x : α} {left : Int}, f x left < 0 → f x left = -1) {l : List α} {left : Int} (h : szL f l left < 0) : szL f l left = -1 := by
  unfold szL at h ⊢
  by_cases h1 : left - (l.length : Int) < 0
  · simp [h1]
  · simp only [h1, if_false] at h ⊢
    exact szl_neg (by omega) h

def Store.fit (s : Store) : Prop := s.chains.length ≤ maxLen ∧ ∀ c ∈ s.chains, chainFit c
def Store.ok (s : Store) : Prop := s.chains.length ≤ 1048576 ∧ ∀ c ∈ s.chains, chainOk c
def Store.sz (s : Store) (left : Int) : Int := szL chainSz s.chains left
theorem Store.sz_szs : Szs Store.sz Store.ok := fun s left h0 h1 => szL_szs chainSz_szs s.chains left h0 h1

def Transaction.sz (e : Transaction) (left : Int) : Int := let v := szc e.reads.length left; if v < 0 then -1 else szc e.writes.length v
theorem Transaction.sz_szs : Szs Transaction.sz Transaction.ok := fun e left h0 h1 => by
  unfold Transaction.sz Transaction.ok
  rcases szc_szs e.reads.length left h0 h1 with h | ⟨h2, h3, h4⟩
  · left; simp [h]
  · have h5 : ¬ szc e.reads.length left < 0 := by omega
    rcases szc_szs e.writes.length _ h3 (by omega) with h | ⟨h6, h7, h8⟩
    · left; simp [h5, h]
    · right; simp only [h5, if_false]; exact ⟨⟨h2, h6⟩, h7, by omega⟩

def Engine.fit (e : Engine) : Prop := e.store.fit ∧ e.transactions.length ≤ maxLen ∧ (∀ t ∈ e.transactions, t.fit) ∧ e.locks.length ≤ maxLen ∧ e.waits.length ≤ maxLen
def Engine.ok (e : Engine) : Prop := e.store.ok ∧ e.transactions.length ≤ 1048576 ∧ (∀ t ∈ e.transactions, t.ok) ∧ e.locks.length ≤ 1048576 ∧ e.waits.length ≤ 1048576
def Engine.sz (e : Engine) (left : Int) : Int :=
  if e.store.sz left < 0 then -1 else
  if szL Transaction.sz e.transactions (e.store.sz left) < 0 then -1 else
  if szc e.locks.length (szL Transaction.sz e.transactions (e.store.sz left)) < 0 then -1 else
  szc e.waits.length (szc e.locks.length (szL Transaction.sz e.transactions (e.store.sz left)))
theorem Engine.sz_szs : Szs Engine.sz Engine.ok := fun e left h0 h1 => by
  unfold Engine.sz Engine.ok
  rcases Store.sz_szs e.store left h0 h1 with n1 | ⟨o1, n1, n2⟩
  · left; simp [n1]
  have n3 : ¬ e.store.sz left < 0 := by omega
  rcases szL_szs Transaction.sz_szs e.transactions _ n1 (by omega) with m1 | ⟨⟨o2, o3⟩, m1, m2⟩
  · left; simp [n3, m1]
  have m3 : ¬ szL Transaction.sz e.transactions (e.store.sz left) < 0 := by omega
  rcases szc_szs e.locks.length _ m1 (by omega) with k1 | ⟨o4, k1, k2⟩
  · left; simp [n3, m3, k1]
  have k3 : ¬ szc e.locks.length (szL Transaction.sz e.transactions (e.store.sz left)) < 0 := by omega
  rcases szc_szs e.waits.length _ k1 (by omega) with j1 | ⟨o5, j1, j2⟩
  · left; simp [n3, m3, k3, j1]
  · right
    simp only [n3, m3, k3, if_false]
    exact ⟨⟨o1, o2, o3, o4, o5⟩, j1, by omega⟩
end Go.Proofs.Ytfdcdbkblkehcaa.Am
/-
  What the plain proofs of package slices share.
-/
namespace Go.Proofs.Ytfdcdbkblkehcaa.Am
open Go

/-- The place of the first element with P, counted from i; -1 if there is none. -/
def idxF {α : Type} (P : α → Bool) : List α → Int → Int
  | [], _ => -1
  | x :: r, i => if P x then i else idxF P r (i + 1)

theorem idxF_any {α : Type} (P : α → Bool) (l : List α) : ∀ {i : Int}, 0 ≤ i → (decide (0 ≤ idxF P l i)) = l.any P := by
  induction l with
  | nil => intro i _; simp [idxF]
  | cons x r ih =>
    intro i hi
    cases h : P x
    · simp [idxF, h, ih (i := i + 1) (by omega)]
    · simp [idxF, h, hi]

theorem idxF_mem {α : Type} [DecidableEq α] (v : α) (l : List α) : ∀ {i : Int}, 0 ≤ i → (decide (0 ≤ idxF (fun x => decide (x = v)) l i)) = decide (v ∈ l) := by
  induction l with
  | nil => intro i _; simp [idxF]
  | cons x r ih =>
    intro i hi
    by_cases h : x = v
    · simp [idxF, h, hi]
    · have h2 : v ≠ x := fun e => h e.symm
      simp only [idxF, h, decide_false, Bool.false_eq_true, if_false, ih (i := i + 1) (by omega)]
      simp [h2]

/-- Where the first is: its place, and that none comes before. -/
theorem idxF_cases {α : Type} (P : α → Bool) (l : List α) : ∀ (i : Int), (idxF P l i = -1 ∧ ∀ x ∈ l, P x = false) ∨ ∃ p x r, l = p ++ x :: r ∧ idxF P l i = i + p.length ∧ P x = true ∧ ∀ y ∈ p, P y = false := by
  induction l with
  | nil => intro i; exact .inl ⟨rfl, by simp⟩
  | cons x r ih =>
    intro i
    cases h : P x with
    | true => exact .inr ⟨[], x, r, rfl, by simp [idxF, h], h, by simp⟩
    | false =>
      rcases ih (i + 1) with ⟨h1, h2⟩ | ⟨p, y, s, h1, h2, h3, h4⟩
      · exact .inl ⟨by simp [idxF, h, h1], by simpa [h] using h2⟩
      · exact .inr ⟨x :: p, y, s, by simp [h1], by simp [idxF, h, h2]; omega, h3, by simpa [h] using h4⟩
end Go.Proofs.Ytfdcdbkblkehcaa.Am
/-
  What a function of package slices computes.
-/
namespace Go.Proofs.Ytfdcdbkblkehcaa.Am
open Go
variable {E : Env}
set_option linter.unusedVariables false

theorem slices_Equal_g31_l0_is (a b : List ReadMark) (ha : a.length ≤ 9223372036854775807) (hb : b.length ≤ 9223372036854775807) : ∀ (r s p p2 : List ReadMark) (i : Int), a = p ++ r → b = p2 ++ s → i = p.length → i = p2.length → r.length = s.length →
    slices_Equal_g31_l0 E (.sl 2 (a.map ReadMark.u)) (.sl 2 (b.map ReadMark.u)) (.int .i64 a.length) (.int .i64 i) = some (.bool (decide (r = s)))
  | [], [], p, p2, i, e, e2, hi, hi2, _ => by
    rw [slices_Equal_g31_l0_eq]
    simp [mid_end e hi]
  | [], y :: s, _, _, _, _, _, _, _, hl => by cases hl
  | x :: r, [], _, _, _, _, _, _, _, hl => by cases hl
  | x :: r, y :: s, p, p2, i, e, e2, hi, hi2, hl => by
    obtain ⟨h0, hlt, hx, hw, hn, _⟩ := mid_at e hi ha
    obtain ⟨_, _, hy, _, hn2, _⟩ := mid_at e2 hi2 hb
    have ih := slices_Equal_g31_l0_is a b ha hb r s (p ++ [x]) (p2 ++ [y]) (i + 1) (mid_next e) (mid_next e2) hn hn2 (by simpa using hl)
    rw [slices_Equal_g31_l0_eq]
    by_cases hxy : x = y
    · subst hxy
      simp [hlt, hx, hy, hw, ih]
    · simp [hlt, hx, hy, hw, ih, hxy]
theorem slices_Equal_g31_is (h : G_slices_Equal_g31 E) (a b : List ReadMark) (ha : a.length ≤ 9223372036854775807) (hb : b.length ≤ 9223372036854775807) : E 31 [.sl 2 (a.map ReadMark.u), .sl 2 (b.map ReadMark.u)] = some (.bool (decide (a = b))) := by
  rw [slices_Equal_g31_E h]
  by_cases hl : a.length = b.length
  · have h1 := slices_Equal_g31_l0_is (E := E) a b ha hb a b [] [] 0 rfl rfl rfl rfl hl
    rw [hl] at h1
    simp [hl, h1]
  · have h1 : a ≠ b := fun e => hl (by rw [e])
    have h2 : (a.length : Int) ≠ b.length := by omega
    simp [h1, h2]
end Go.Proofs.Ytfdcdbkblkehcaa.Am
/-
  What a function of package slices computes.
-/
namespace Go.Proofs.Ytfdcdbkblkehcaa.Am
open Go
variable {E : Env}
set_option linter.unusedVariables false

theorem slices_Equal_g32_l0_is (a b : List Write) (ha : a.length ≤ 9223372036854775807) (hb : b.length ≤ 9223372036854775807) : ∀ (r s p p2 : List Write) (i : Int), a = p ++ r → b = p2 ++ s → i = p.length → i = p2.length → r.length = s.length →
    slices_Equal_g32_l0 E (.sl 2 (a.map Write.u)) (.sl 2 (b.map Write.u)) (.int .i64 a.length) (.int .i64 i) = some (.bool (decide (r = s)))
  | [], [], p, p2, i, e, e2, hi, hi2, _ => by
    rw [slices_Equal_g32_l0_eq]
    simp [mid_end e hi]
  | [], y :: s, _, _, _, _, _, _, _, hl => by cases hl
  | x :: r, [], _, _, _, _, _, _, _, hl => by cases hl
  | x :: r, y :: s, p, p2, i, e, e2, hi, hi2, hl => by
    obtain ⟨h0, hlt, hx, hw, hn, _⟩ := mid_at e hi ha
    obtain ⟨_, _, hy, _, hn2, _⟩ := mid_at e2 hi2 hb
    have ih := slices_Equal_g32_l0_is a b ha hb r s (p ++ [x]) (p2 ++ [y]) (i + 1) (mid_next e) (mid_next e2) hn hn2 (by simpa using hl)
    rw [slices_Equal_g32_l0_eq]
    by_cases hxy : x = y
    · subst hxy
      simp [hlt, hx, hy, hw, ih]
    · simp [hlt, hx, hy, hw, ih, hxy]
theorem slices_Equal_g32_is (h : G_slices_Equal_g32 E) (a b : List Write) (ha : a.length ≤ 9223372036854775807) (hb : b.length ≤ 9223372036854775807) : E 32 [.sl 2 (a.map Write.u), .sl 2 (b.map Write.u)] = some (.bool (decide (a = b))) := by
  rw [slices_Equal_g32_E h]
  by_cases hl : a.length = b.length
  · have h1 := slices_Equal_g32_l0_is (E := E) a b ha hb a b [] [] 0 rfl rfl rfl rfl hl
    rw [hl] at h1
    simp [hl, h1]
  · have h1 : a ≠ b := fun e => hl (by rw [e])
    have h2 : (a.length : Int) ≠ b.length := by omega
    simp [h1, h2]
end Go.Proofs.Ytfdcdbkblkehcaa.Am
/-
  What the functions on log records and transactions' lists compute.
-/
namespace Go.Proofs.Ytfdcdbkblkehcaa.Am
open Go
variable {E : Env}
set_option linter.unusedVariables false

def LogRecord.tx (r : LogRecord) : Transaction := ⟨r.id, 1, 2, 0, 0, r.high, r.stamp, r.reads, r.writes⟩

theorem spec_l28Tx_is (h : G_spec_l28Tx E) (r : LogRecord) : E 25 [r.u] = some r.tx.u := by
  rw [spec_l28Tx_E h]
  simp [LogRecord.tx, Transaction.u]

theorem tx_eq (a b : LogRecord) : a.safe = b.safe ∧ a.tx = b.tx ↔ a = b := by
  simp only [LogRecord.eq_iff, Transaction.eq_iff, LogRecord.tx]
  constructor <;> intro h <;> simp_all

theorem spec_EqT_l0_is (x y : Transaction) (ha : x.ok) (hb : y.ok) : ∀ (r s p p2 : List Write) (i : Int), x.writes = p ++ r → y.writes = p2 ++ s → i = p.length → i = p2.length → r.length = s.length →
    spec_EqualTransactions_l0 E (.int .i64 i) x.u y.u = some (.bool (decide (r = s)))
  | [], [], p, p2, i, e, e2, hi, hi2, _ => by
    rw [spec_EqualTransactions_l0_eq]
    simp [mid_end e hi]
  | [], y :: s, _, _, _, _, _, _, _, hl => by cases hl
  | x :: r, [], _, _, _, _, _, _, _, hl => by cases hl
  | z :: r, z2 :: s, p, p2, i, e, e2, hi, hi2, hl => by
    obtain ⟨h0, hlt, hx, hw, hn, _⟩ := mid_at e hi (by have := ha.2; omega)
    obtain ⟨_, _, hy, _, hn2, _⟩ := mid_at e2 hi2 (by have := hb.2; omega)
    have ih := spec_EqT_l0_is x y ha hb r s (p ++ [z]) (p2 ++ [z2]) (i + 1) (mid_next e) (mid_next e2) hn hn2 (by simpa using hl)
    rw [spec_EqualTransactions_l0_eq]
    by_cases hxy : z = z2
    · subst hxy
      simp [hlt, hx, hy, hw, ih]
    · simp [hlt, hx, hy, hw, ih, hxy]

theorem spec_EqT_l1_is (x y : Transaction) (ha : x.ok) (hb : y.ok) (hw : x.writes.length = y.writes.length) : ∀ (r s p p2 : List ReadMark) (i : Int), x.reads = p ++ r → y.reads = p2 ++ s → i = p.length → i = p2.length → r.length = s.length →
    spec_EqualTransactions_l1 E (.int .i64 i) x.u y.u = some (.bool (decide (r = s) && decide (x.writes = y.writes)))
  | [], [], p, p2, i, e, e2, hi, hi2, _ => by
    rw [spec_EqualTransactions_l1_eq]
    simp [mid_end e hi, spec_EqT_l0_is x y ha hb x.writes y.writes [] [] 0 rfl rfl rfl rfl hw]
  | [], y :: s, _, _, _, _, _, _, _, hl => by cases hl
  | x :: r, [], _, _, _, _, _, _, _, hl => by cases hl
  | z :: r, z2 :: s, p, p2, i, e, e2, hi, hi2, hl => by
    obtain ⟨h0, hlt, hx, hw', hn, _⟩ := mid_at e hi (by have := ha.1; omega)
    obtain ⟨_, _, hy, _, hn2, _⟩ := mid_at e2 hi2 (by have := hb.1; omega)
    have ih := spec_EqT_l1_is x y ha hb hw r s (p ++ [z]) (p2 ++ [z2]) (i + 1) (mid_next e) (mid_next e2) hn hn2 (by simpa using hl)
    rw [spec_EqualTransactions_l1_eq]
    by_cases hxy : z = z2
    · subst hxy
      simp [hlt, hx, hy, hw', ih]
    · simp [hlt, hx, hy, hw', ih, hxy]

theorem spec_EqualTransactions_is (h : G_spec_EqualTransactions E) (x y : Transaction) (ha : x.ok) (hb : y.ok) : E 26 [x.u, y.u] = some (.bool (decide (x = y))) := by
  rw [spec_EqualTransactions_E h]
  by_cases hr : x.reads.length = y.reads.length
  · by_cases hw : x.writes.length = y.writes.length
    · have h1 := spec_EqT_l1_is (E := E) x y ha hb hw x.reads y.reads [] [] 0 rfl rfl rfl rfl hr
      simp only [Transaction.eq_iff]
      by_cases h0 : x.id = y.id
      case neg => simp [h0]
      by_cases h2 : x.scheme = y.scheme
      case neg => simp [h0, h2]
      by_cases h3 : x.state = y.state
      case neg => simp [h0, h2, h3]
      by_cases h4 : x.begin_ = y.begin_
      case neg => simp [h0, h2, h3, h4]
      by_cases h5 : x.low = y.low
      case neg => simp [h0, h2, h3, h4, h5]
      by_cases h6 : x.high = y.high
      case neg => simp [h0, h2, h3, h4, h5, h6]
      by_cases h7 : x.commit = y.commit
      case neg => simp [h0, h2, h3, h4, h5, h6, h7]
      simp [h1, h0, h2, h3, h4, h5, h6, h7, hr, hw]
    · have h1 : x ≠ y := fun e => hw (by rw [e])
      have h2 : (x.writes.length : Int) ≠ y.writes.length := by omega
      simp only [h1, decide_false]
      simp [h2]
  · have h1 : x ≠ y := fun e => hr (by rw [e])
    have h2 : (x.reads.length : Int) ≠ y.reads.length := by omega
    simp only [h1, decide_false]
    simp [h2]

theorem spec_EqualRecords_is (h : G_spec_EqualRecords E) (x y : LogRecord) (ha : x.ok) (hb : y.ok) : E 21 [x.u, y.u] = some (.bool (decide (x = y))) := by
  rw [spec_EqualRecords_E h]
  have h1 := spec_EqualTransactions_is h.c_spec_EqualTransactions x.tx y.tx ha hb
  have h2 := tx_eq x y
  by_cases hs : x.safe = y.safe
  · simp only [hs, true_and] at h2
    simp [hs, spec_l28Tx_is h.c_spec_l28Tx, h1, h2]
  · have : x ≠ y := fun e => hs (by rw [e])
    simp [hs, this]

theorem impl_EqualRecords_is (h : G_impl_EqualRecords E) (x y : LogRecord) (ha : x.ok) (hb : y.ok) : E 20 [x.u, y.u] = some (.bool (decide (x = y))) := by
  rw [impl_EqualRecords_E h]
  obtain ⟨ha1, ha2⟩ := ha
  obtain ⟨hb1, hb2⟩ := hb
  have h1 := slices_Equal_g31_is h.c_slices_Equal_g31 x.reads y.reads (by omega) (by omega)
  have h2 := slices_Equal_g32_is h.c_slices_Equal_g32 x.writes y.writes (by omega) (by omega)
  simp only [LogRecord.eq_iff]
  by_cases e0 : x.stamp = y.stamp
  case neg => simp [e0]
  by_cases e1 : x.id = y.id
  case neg => simp [e0, e1]
  by_cases e2 : x.high = y.high
  case neg => simp [e0, e1, e2]
  by_cases e3 : x.safe = y.safe
  case neg => simp [e0, e1, e2, e3]
  by_cases e4 : x.reads = y.reads
  case neg => simp [e0, e1, e2, e3, e4, h1]
  rw [e4] at h1
  simp [e0, e1, e2, e3, e4, h1, h2]
end Go.Proofs.Ytfdcdbkblkehcaa.Am
/-
  What the functions that test reads, writes, transactions and records compute.
-/
namespace Go.Proofs.Ytfdcdbkblkehcaa.Am
open Go
variable {E : Env}
set_option linter.unusedVariables false

def markLt (a b : ReadMark) : Bool := decide (a.key < b.key) || (decide (a.key = b.key) && decide (a.created < b.created))
def markCmp (a b : ReadMark) : Int := cmpOr [cmpI a.key b.key, cmpI a.created b.created]
theorem markCmp_neg (a b : ReadMark) : decide (0 ≤ markCmp a b) = !markLt a b := by
  unfold markCmp markLt cmpI
  simp only [cmpOr]
  by_cases h1 : a.key < b.key
  · simp [h1]
  · by_cases h2 : b.key < a.key
    · have h3 : ¬ a.key = b.key := by omega
      simp [h1, h2, h3]
    · have h3 : a.key = b.key := by omega
      by_cases h4 : a.created < b.created
      · simp [h3, h4]
      · by_cases h5 : b.created < a.created <;> simp [h3, h4, h5]

def reads1 (p : Option ReadMark) (m : ReadMark) : Bool := inR m.key 0 5 && inR m.created 0 999 && (match p with | none => true | some q => markLt q m)
def readsFrom : Option ReadMark → List ReadMark → Bool
  | _, [] => true
  | p, m :: r => reads1 p m && readsFrom (some m) r
def areReads (l : List ReadMark) : Bool := readsFrom none l && decide (l.length ≤ 60)

def writes1 (p : Option Write) (w : Write) : Bool := inR w.key 0 5 && inR w.value (-1) 99 && (match p with | none => true | some q => decide (q.key < w.key))
def writesFrom : Option Write → List Write → Bool
  | _, [] => true
  | p, w :: r => writes1 p w && writesFrom (some w) r
def areWrites (l : List Write) : Bool := writesFrom none l

def Transaction.valid (t : Transaction) : Bool :=
  inR t.id 1 9 && (inR t.scheme 1 4 && (inR t.begin_ 0 999 && (inR t.state 1 3 && (inR t.low 0 999 && (inR t.high 1 1000 && ((decide (t.state = 2) == decide (0 < t.commit)) && (inR t.commit 0 999 && (areReads t.reads && areWrites t.writes))))))))
def LogRecord.valid (r : LogRecord) : Bool := r.tx.valid && (decide (r.high ≤ r.stamp) && inR r.safe 0 r.stamp)

theorem impl_compareMarks_is (h : G_impl_compareMarks E) (a b : ReadMark) : E 75 [a.u, b.u] = some (.int .i64 (markCmp a b)) := by
  rw [impl_compareMarks_E h]
  have := cmp_Or_is h.c_cmp_Or_g14 [cmpI a.key b.key, cmpI a.created b.created] (by simp)
  simp only [intsU, List.map_cons, List.map_nil, intU] at this
  simp [cmp_Compare_is h.c_cmp_Compare_g13, this, markCmp]

theorem spec_l5Before_is (h : G_spec_l5Before E) (a b : ReadMark) : E 71 [a.u, b.u] = some (.bool (markLt a b)) := by
  rw [spec_l5Before_E h]
  by_cases h1 : a.key < b.key
  · simp [markLt, h1]
  · by_cases h2 : a.key = b.key <;> simp [markLt, h1, h2]

theorem impl_IsStamp_is (h : G_impl_IsStamp E) (n : Int) : E 72 [.int .i64 n] = some (.bool (inR n 1 999)) := by
  rw [impl_IsStamp_E h]; simp [impl_in_is h.c_impl_in]
theorem impl_isValue_is (h : G_impl_isValue E) (n : Int) : E 76 [.int .i64 n] = some (.bool (inR n (-1) 99)) := by
  rw [impl_isValue_E h]; simp [impl_in_is h.c_impl_in]

theorem impl_areReads_l0_is (h : G_impl_areReads E) (l : List ReadMark) (hl : l.length ≤ 1048576) : ∀ (r p : List ReadMark) (i : Int), l = p ++ r → i = p.length →
    impl_areReads_l0 E (.sl 2 (l.map ReadMark.u)) (.sl 2 (l.map ReadMark.u)) (.int .i64 l.length) (.int .i64 i) = some (.bool (readsFrom p.getLast? r && decide (l.length ≤ 60)))
  | [], p, i, e, hi => by
    rw [impl_areReads_l0_eq]
    have h1 : decide ((l.length : Int) ≤ 60) = decide (l.length ≤ 60) := by congr 1; simp only [eq_iff_iff]; omega
    simp [mid_end e hi, readsFrom, h1]
  | x :: r, p, i, e, hi => by
    obtain ⟨h0, hlt, hx, hw, hn, _⟩ := mid_at e hi (by omega)
    have ih := impl_areReads_l0_is h l hl r (p ++ [x]) (i + 1) (mid_next e) hn
    rw [List.getLast?_concat] at ih
    rw [impl_areReads_l0_eq]
    by_cases hp : p = []
    · have hi0 : ¬ 0 < i := by subst hp; simp at hi; omega
      simp [h0, hlt, hx, hw, ih, impl_isKey_is h.c_impl_isKey, impl_in_is h.c_impl_in, hi0, hp, ite_f, readsFrom, reads1, Bool.and_assoc]
    · obtain ⟨q, j, hq, hpos, hw1, h1, hq1, _⟩ := mid_last e hi (by omega) hp
      simp [h0, hlt, hx, hw, ih, impl_isKey_is h.c_impl_isKey, impl_in_is h.c_impl_in, hpos, hq, hw1, hq1, impl_compareMarks_is h.c_impl_compareMarks, ite_f, ite_n, markCmp_neg, readsFrom, reads1, Bool.and_assoc]

theorem impl_areReads_is (h : G_impl_areReads E) (l : List ReadMark) (hl : l.length ≤ 1048576) : E 73 [.sl 2 (l.map ReadMark.u)] = some (.bool (areReads l)) := by
  rw [impl_areReads_E h]
  simp [impl_areReads_l0_is h l hl l [] 0 rfl rfl, areReads]

theorem impl_areWrites_l0_is (h : G_impl_areWrites E) (l : List Write) (hl : l.length ≤ 1048576) : ∀ (r p : List Write) (i : Int), l = p ++ r → i = p.length →
    impl_areWrites_l0 E (.sl 2 (l.map Write.u)) (.sl 2 (l.map Write.u)) (.int .i64 l.length) (.int .i64 i) = some (.bool (writesFrom p.getLast? r))
  | [], p, i, e, hi => by
    rw [impl_areWrites_l0_eq]
    simp [mid_end e hi, writesFrom]
  | x :: r, p, i, e, hi => by
    obtain ⟨h0, hlt, hx, hw, hn, _⟩ := mid_at e hi (by omega)
    have ih := impl_areWrites_l0_is h l hl r (p ++ [x]) (i + 1) (mid_next e) hn
    rw [List.getLast?_concat] at ih
    rw [impl_areWrites_l0_eq]
    by_cases hp : p = []
    · have hi0 : ¬ 0 < i := by subst hp; simp at hi; omega
      simp [h0, hlt, hx, hw, ih, impl_isKey_is h.c_impl_isKey, impl_isValue_is h.c_impl_isValue, hi0, hp, ite_f, writesFrom, writes1, Bool.and_assoc]
    · obtain ⟨q, j, hq, hpos, hw1, h1, hq1, _⟩ := mid_last e hi (by omega) hp
      have hc : (!decide (x.key ≤ q.key)) = decide (q.key < x.key) := by rw [← decide_not]; congr 1; simp only [eq_iff_iff]; omega
      simp [h0, hlt, hx, hw, ih, impl_isKey_is h.c_impl_isKey, impl_isValue_is h.c_impl_isValue, hpos, hq, hw1, hq1, ite_f, ite_n, writesFrom, writes1, Bool.and_assoc, hc]

theorem impl_areWrites_is (h : G_impl_areWrites E) (l : List Write) (hl : l.length ≤ 1048576) : E 74 [.sl 2 (l.map Write.u)] = some (.bool (areWrites l)) := by
  rw [impl_areWrites_E h]
  simp [impl_areWrites_l0_is h l hl l [] 0 rfl rfl, areWrites]

/-- The tests behind those of the lists. -/
def Transaction.tail (t : Transaction) : Bool :=
  inR t.id 1 9 && (inR t.scheme 1 4 && (inR t.begin_ 0 999 && (inR t.state 1 3 && (inR t.low 0 999 && (inR t.high 1 1000 && ((decide (t.state = 2) == decide (0 < t.commit)) && (inR t.commit 0 999 && decide (t.reads.length ≤ 60))))))))

theorem spec_IsVT_l0_is (h : G_spec_IsValidTransaction E) (t : Transaction) (ho : t.ok) : ∀ (r p : List Write) (i : Int), t.writes = p ++ r → i = p.length →
    spec_IsValidTransaction_l0 E (.int .i64 i) t.u = some (.bool (writesFrom p.getLast? r && t.tail))
  | [], p, i, e, hi => by
    rw [spec_IsValidTransaction_l0_eq]
    have h1 : decide ((t.reads.length : Int) ≤ 60) = decide (t.reads.length ≤ 60) := by congr 1; simp only [eq_iff_iff]; omega
    have h2 : decide (t.state = 2 ↔ 0 < t.commit) = (decide (t.state = 2) == decide (0 < t.commit)) := by
      by_cases a : t.state = 2 <;> by_cases b : 0 < t.commit <;> simp [a, b]
    simp [mid_end e hi, spec_l1In_is h.c_spec_l1In, ite_f, ite_t, ite_p, writesFrom, Transaction.tail, h1, h2]
  | x :: r, p, i, e, hi => by
    obtain ⟨h0, hlt, hx, hw, hn, _⟩ := mid_at e hi (by have := ho.2; omega)
    have ih := spec_IsVT_l0_is h t ho r (p ++ [x]) (i + 1) (mid_next e) hn
    rw [List.getLast?_concat] at ih
    rw [spec_IsValidTransaction_l0_eq]
    by_cases hp : p = []
    · have hi0 : ¬ 0 < i := by subst hp; simp at hi; omega
      simp [h0, hlt, hx, hw, ih, spec_l1In_is h.c_spec_l1In, hi0, hp, ite_f, writesFrom, writes1, Bool.and_assoc]
    · obtain ⟨q, j, hq, hpos, hw1, h1, hq1, _⟩ := mid_last e hi (by have := ho.2; omega) hp
      have hc : (!decide (x.key ≤ q.key)) = decide (q.key < x.key) := by rw [← decide_not]; congr 1; simp only [eq_iff_iff]; omega
      simp [h0, hlt, hx, hw, ih, spec_l1In_is h.c_spec_l1In, hpos, hq, hw1, hq1, ite_f, ite_n, writesFrom, writes1, Bool.and_assoc, hc]

theorem spec_IsVT_l1_is (h : G_spec_IsValidTransaction E) (t : Transaction) (ho : t.ok) : ∀ (r p : List ReadMark) (i : Int), t.reads = p ++ r → i = p.length →
    spec_IsValidTransaction_l1 E (.int .i64 i) t.u = some (.bool (readsFrom p.getLast? r && (writesFrom none t.writes && t.tail)))
  | [], p, i, e, hi => by
    rw [spec_IsValidTransaction_l1_eq]
    simp [mid_end e hi, readsFrom, spec_IsVT_l0_is h t ho t.writes [] 0 rfl rfl]
  | x :: r, p, i, e, hi => by
    obtain ⟨h0, hlt, hx, hw, hn, _⟩ := mid_at e hi (by have := ho.1; omega)
    have ih := spec_IsVT_l1_is h t ho r (p ++ [x]) (i + 1) (mid_next e) hn
    rw [List.getLast?_concat] at ih
    rw [spec_IsValidTransaction_l1_eq]
    by_cases hp : p = []
    · have hi0 : ¬ 0 < i := by subst hp; simp at hi; omega
      simp [h0, hlt, hx, hw, ih, spec_l1In_is h.c_spec_l1In, hi0, hp, ite_f, readsFrom, reads1, Bool.and_assoc]
    · obtain ⟨q, j, hq, hpos, hw1, h1, hq1, _⟩ := mid_last e hi (by have := ho.1; omega) hp
      simp [h0, hlt, hx, hw, ih, spec_l1In_is h.c_spec_l1In, hpos, hq, hw1, hq1, ite_f, ite_n, readsFrom, reads1, Bool.and_assoc, spec_l5Before_is h.c_spec_l5Before]

theorem spec_IsValidTransaction_is (h : G_spec_IsValidTransaction E) (t : Transaction) (ho : t.ok) : E 70 [t.u] = some (.bool t.valid) := by
  rw [spec_IsValidTransaction_E h]
  have h1 := spec_IsVT_l1_is h t ho t.reads [] 0 rfl rfl
  have h2 : (readsFrom none t.reads && (writesFrom none t.writes && t.tail)) = t.valid := by
    unfold Transaction.valid Transaction.tail areReads areWrites
    ac_rfl
  simp [h1, h2]

theorem spec_IsValidRecord_is (h : G_spec_IsValidRecord E) (r : LogRecord) (ho : r.ok) : E 69 [r.u] = some (.bool r.valid) := by
  rw [spec_IsValidRecord_E h]
  simp [spec_l28Tx_is h.c_spec_l28Tx, spec_IsValidTransaction_is h.c_spec_IsValidTransaction r.tx ho, spec_l1In_is h.c_spec_l1In, ite_t, ite_p, LogRecord.valid]

theorem impl_IsValidRecord_is (h : G_impl_IsValidRecord E) (r : LogRecord) (ho : r.ok) : E 68 [r.u] = some (.bool r.valid) := by
  rw [impl_IsValidRecord_E h]
  have h2 : (inR r.id 1 9 && (inR r.stamp 1 999 && (inR r.high 1 r.stamp && (inR r.safe 0 r.stamp && (areReads r.reads && areWrites r.writes))))) = r.valid := by
    unfold LogRecord.valid Transaction.valid LogRecord.tx inR
    rw [Bool.eq_iff_iff]
    simp only [Bool.and_eq_true, decide_eq_true_eq, beq_iff_eq]
    constructor
    · rintro ⟨h1, h2, h3, h4, h5, h6⟩
      refine ⟨⟨h1, by omega, by omega, by omega, by omega, by omega, ?_, by omega, h5, h6⟩, by omega, h4⟩
      have : 0 < r.stamp := by omega
      simp [this]
    · rintro ⟨⟨h1, _, _, _, _, h3, h4, h5, h6, h7⟩, h8, h9⟩
      have h10 : 0 < r.stamp := by simpa using h4
      exact ⟨h1, by omega, by omega, h9, h6, h7⟩
  simp [impl_isID_is h.c_impl_isID, impl_IsStamp_is h.c_impl_IsStamp, impl_in_is h.c_impl_in, impl_areReads_is h.c_impl_areReads _ ho.1, impl_areWrites_is h.c_impl_areWrites _ ho.2, ite_t, h2]
end Go.Proofs.Ytfdcdbkblkehcaa.Am
/-
  Validity of transactions in the program.
-/
namespace Go.Proofs.Ytfdcdbkblkehcaa.Am
open Go
variable {E : Env}
set_option linter.unusedVariables false

theorem impl_isScheme_is (h : G_impl_isScheme E) (n : Int) : E 160 [.int .i64 n] = some (.bool (inR n 1 4)) := by
  rw [impl_isScheme_E h]; simp [impl_in_is h.c_impl_in]

theorem impl_IsValidTransaction_is (h : G_impl_IsValidTransaction E) (t : Transaction) (ho : t.ok) : E 159 [t.u] = some (.bool t.valid) := by
  rw [impl_IsValidTransaction_E h]
  have r1 := impl_areReads_is h.c_impl_areReads t.reads ho.1
  have r2 := impl_areWrites_is h.c_impl_areWrites t.writes ho.2
  cases c1 : inR t.id 1 9
  · simp [impl_isID_is h.c_impl_isID, c1, Transaction.valid]
  cases c2 : inR t.scheme 1 4
  · simp [impl_isID_is h.c_impl_isID, impl_isScheme_is h.c_impl_isScheme, c1, c2, Transaction.valid]
  cases c3 : inR t.state 1 3
  · simp [impl_isID_is h.c_impl_isID, impl_isScheme_is h.c_impl_isScheme, impl_in_is h.c_impl_in, c1, c2, c3, Transaction.valid]
  cases c4 : inR t.begin_ 0 999
  · simp [impl_isID_is h.c_impl_isID, impl_isScheme_is h.c_impl_isScheme, impl_in_is h.c_impl_in, c1, c2, c3, c4, Transaction.valid]
  cases c5 : inR t.low 0 999
  · simp [impl_isID_is h.c_impl_isID, impl_isScheme_is h.c_impl_isScheme, impl_in_is h.c_impl_in, c1, c2, c3, c4, c5, Transaction.valid]
  cases c6 : inR t.high 1 1000
  · simp [impl_isID_is h.c_impl_isID, impl_isScheme_is h.c_impl_isScheme, impl_in_is h.c_impl_in, c1, c2, c3, c4, c5, c6, Transaction.valid]
  have Hf := fun (X : Bool) => (rfl : (false && X) = false)
  by_cases hs : t.state = 2
  · have hd : (t.state = 2) = True := eq_true hs
    cases c7 : inR t.commit 1 999
    · have e : (decide (0 < t.commit) && (inR t.commit 0 999 && (areReads t.reads && areWrites t.writes))) = false := by
        simp only [inR, decide_eq_false_iff_not] at c7
        by_cases h0 : 0 < t.commit
        · have : inR t.commit 0 999 = false := by simp only [inR, decide_eq_false_iff_not]; omega
          simp [this]
        · simp [h0]
      simp [impl_isID_is h.c_impl_isID, impl_isScheme_is h.c_impl_isScheme, impl_in_is h.c_impl_in, impl_IsStamp_is h.c_impl_IsStamp, c1, c2, c3, c4, c5, c6, hd, c7, Transaction.valid] at e ⊢
      intro a b
      exact e a b
    · have e1 : decide (0 < t.commit) = true := by simp only [inR, decide_eq_true_eq] at c7 ⊢; omega
      have e2 : inR t.commit 0 999 = true := by simp only [inR, decide_eq_true_eq] at c7 ⊢; omega
      have e3 : (0 < t.commit) = True := eq_true (by simpa using e1)
      simp [impl_isID_is h.c_impl_isID, impl_isScheme_is h.c_impl_isScheme, impl_in_is h.c_impl_in, impl_IsStamp_is h.c_impl_IsStamp, c1, c2, c3, c4, c5, c6, hd, c7, Transaction.valid, r1, r2, ite_t, e3, e2]
  · have hd : (t.state = 2) = False := eq_false hs
    by_cases hz : t.commit = 0
    · have e2 : inR t.commit 0 999 = true := by simp only [inR, decide_eq_true_eq]; omega
      rw [hz] at e2
      simp [impl_isID_is h.c_impl_isID, impl_isScheme_is h.c_impl_isScheme, impl_in_is h.c_impl_in, impl_IsStamp_is h.c_impl_IsStamp, c1, c2, c3, c4, c5, c6, hd, hz, Transaction.valid, r1, r2, ite_t, e2]
    · have hz' : (t.commit = 0) = False := eq_false hz
      simp [impl_isID_is h.c_impl_isID, impl_isScheme_is h.c_impl_isScheme, impl_in_is h.c_impl_in, impl_IsStamp_is h.c_impl_IsStamp, c1, c2, c3, c4, c5, c6, hd, hz', Transaction.valid]
      intro a b c
      simp only [inR, decide_eq_true_eq] at b
      omega

end Go.Proofs.Ytfdcdbkblkehcaa.Am
/-
  What the laws' own helpers compute.
-/
namespace Go.Proofs.Ytfdcdbkblkehcaa.Am
open Go
variable {E : Env}
set_option linter.unusedVariables false

theorem laws_toReadMark_is (h : G_laws_toReadMark E) (x : ReadMark) : E 29 [x.u] = some x.u := by
  rw [laws_toReadMark_E h]
  simp [ReadMark.u]

theorem laws_toReadMarkS_l0_is (h : G_laws_toReadMarkS E) (l : List ReadMark) (hl : l.length ≤ 1048576) : ∀ (r p : List ReadMark) (i : Int) (c : List U), l = p ++ r → i = p.length → c.length = r.length → (∀ z ∈ c, z.size = 2) →
    laws_toReadMarkS_l0 E (.sl 2 (l.map ReadMark.u)) (.int .i64 i) (p.map ReadMark.u ++ c) = some (.sl 2 (l.map ReadMark.u))
  | [], p, i, c, e, hi, hc, _ => by
    obtain rfl : c = [] := List.length_eq_zero_iff.1 hc
    rw [laws_toReadMarkS_l0_eq]
    simp [mid_end e hi]
    simp [e]
  | x :: r, p, i, [], e, hi, hc, _ => by cases hc
  | x :: r, p, i, z :: c, e, hi, hc, hz => by
    obtain ⟨h0, hlt, hx, hw, hn, _⟩ := mid_at e hi (by omega)
    have hzs : z.size = 2 := hz z (by simp)
    obtain ⟨hg, hs, hlen⟩ := mid_set ReadMark.u p z c hi
    have ih := laws_toReadMarkS_l0_is h l hl r (p ++ [x]) (i + 1) c (mid_next e) hn (by simpa using hc) (fun y hy => hz y (by simp [hy]))
    simp only [List.map_append, List.map_cons, List.map_nil, List.append_assoc, List.cons_append, List.nil_append] at ih
    rw [laws_toReadMarkS_l0_eq]
    simp only [hg, hs, hx, hw, asInt_int, bin_lss, lenOf_sl, List.length_map, Option.bind_some, asBool_bool, hlt, decide_true, if_true, h0, hlen, and_self, bin_add, laws_toReadMark_is h.c_laws_toReadMark x, hzs, ReadMark.u_var, ReadMark.u_size, ReadMark.u_storable, ReadMark.u_partable]
    simpa using ih
theorem laws_toReadMarkS_is (h : G_laws_toReadMarkS E) (l : List ReadMark) (hl : l.length ≤ 1048576) : E 28 [.sl 2 (l.map ReadMark.u)] = some (.sl 2 (l.map ReadMark.u)) := by
  have h1 := laws_toReadMarkS_l0_is h l hl l [] 0 (List.replicate l.length (.agg [.int .i64 0, .int .i64 0])) rfl rfl (by simp) (by simp)
  rw [laws_toReadMarkS_E h]
  simp only [lenOf_sl, Option.bind_some, List.length_map]
  rw [if_pos (by refine ⟨by omega, by omega, by omega, rfl⟩)]
  simpa using h1

theorem laws_eqReadMark_is (h : G_laws_eqReadMark E) (x y : ReadMark) : E 35 [x.u, y.u] = some (.bool (decide (x = y))) := by
  rw [laws_eqReadMark_E h]
  obtain ⟨a0, a1⟩ := x
  obtain ⟨b0, b1⟩ := y
  simp only [ReadMark.mk.injEq]
  by_cases h0 : a0 = b0
  case neg => simp [h0]
  subst h0
  by_cases h1 : a1 = b1
  case neg => simp [h1]
  subst h1
  simp []

theorem laws_eqReadMarkS_l0_is (h : G_laws_eqReadMarkS E) (a b : List ReadMark) (ha : a.length ≤ 1048576) (hb : b.length ≤ 1048576) : ∀ (r s p p2 : List ReadMark) (i : Int), a = p ++ r → b = p2 ++ s → i = p.length → i = p2.length → r.length = s.length →
    laws_eqReadMarkS_l0 E (.sl 2 (a.map ReadMark.u)) (.sl 2 (b.map ReadMark.u)) (.int .i64 i) = some (.bool (decide (r = s)))
  | [], [], p, p2, i, e, e2, hi, hi2, _ => by
    rw [laws_eqReadMarkS_l0_eq]
    simp [mid_end e hi]
  | [], y :: s, _, _, _, _, _, _, _, hl => by cases hl
  | x :: r, [], _, _, _, _, _, _, _, hl => by cases hl
  | x :: r, y :: s, p, p2, i, e, e2, hi, hi2, hl => by
    obtain ⟨h0, hlt, hx, hw, hn, _⟩ := mid_at e hi (by omega)
    obtain ⟨_, _, hy, _, hn2, _⟩ := mid_at e2 hi2 (by omega)
    have ih := laws_eqReadMarkS_l0_is h a b ha hb r s (p ++ [x]) (p2 ++ [y]) (i + 1) (mid_next e) (mid_next e2) hn hn2 (by simpa using hl)
    rw [laws_eqReadMarkS_l0_eq]
    by_cases hxy : x = y
    · subst hxy
      simp [hlt, hx, hy, hw, ih, laws_eqReadMark_is h.c_laws_eqReadMark]
    · simp [hlt, hx, hy, hw, ih, laws_eqReadMark_is h.c_laws_eqReadMark, hxy]
theorem laws_eqReadMarkS_is (h : G_laws_eqReadMarkS E) (a b : List ReadMark) (ha : a.length ≤ 1048576) (hb : b.length ≤ 1048576) : E 34 [.sl 2 (a.map ReadMark.u), .sl 2 (b.map ReadMark.u)] = some (.bool (decide (a = b))) := by
  rw [laws_eqReadMarkS_E h]
  by_cases hl : a.length = b.length
  · simp [hl, laws_eqReadMarkS_l0_is h a b ha hb a b [] [] 0 rfl rfl rfl rfl hl]
  · have h1 : a ≠ b := fun e => hl (by rw [e])
    have h2 : (a.length : Int) ≠ b.length := by omega
    simp [h1, h2]

theorem laws_szReadMarkS_is (h : G_laws_szReadMarkS E) (l : List ReadMark) (hl : l.length ≤ maxLen) (left : Int) (h0 : 0 ≤ left) (h1 : left ≤ 1048576) : E 24 [.sl 2 (l.map ReadMark.u), .int .i64 left] = some (.int .i64 (szc l.length left)) := by
  rw [laws_szReadMarkS_E h]
  unfold maxLen at hl
  have hw : IntKind.i64.wrap (left - (l.length : Int)) = left - l.length := wrap_in (by omega)
  by_cases h2 : left - (l.length : Int) < 0 <;> simp [hw, szc, h2]

end Go.Proofs.Ytfdcdbkblkehcaa.Am
/-
  What the laws' own helpers compute.
-/
namespace Go.Proofs.Ytfdcdbkblkehcaa.Am
open Go
variable {E : Env}
set_option linter.unusedVariables false

theorem laws_toWrite_is (h : G_laws_toWrite E) (x : Write) : E 30 [x.u] = some x.u := by
  rw [laws_toWrite_E h]
  simp [Write.u]

theorem laws_toWriteS_l0_is (h : G_laws_toWriteS E) (l : List Write) (hl : l.length ≤ 1048576) : ∀ (r p : List Write) (i : Int) (c : List U), l = p ++ r → i = p.length → c.length = r.length → (∀ z ∈ c, z.size = 2) →
    laws_toWriteS_l0 E (.sl 2 (l.map Write.u)) (.int .i64 i) (p.map Write.u ++ c) = some (.sl 2 (l.map Write.u))
  | [], p, i, c, e, hi, hc, _ => by
    obtain rfl : c = [] := List.length_eq_zero_iff.1 hc
    rw [laws_toWriteS_l0_eq]
    simp [mid_end e hi]
    simp [e]
  | x :: r, p, i, [], e, hi, hc, _ => by cases hc
  | x :: r, p, i, z :: c, e, hi, hc, hz => by
    obtain ⟨h0, hlt, hx, hw, hn, _⟩ := mid_at e hi (by omega)
    have hzs : z.size = 2 := hz z (by simp)
    obtain ⟨hg, hs, hlen⟩ := mid_set Write.u p z c hi
    have ih := laws_toWriteS_l0_is h l hl r (p ++ [x]) (i + 1) c (mid_next e) hn (by simpa using hc) (fun y hy => hz y (by simp [hy]))
    simp only [List.map_append, List.map_cons, List.map_nil, List.append_assoc, List.cons_append, List.nil_append] at ih
    rw [laws_toWriteS_l0_eq]
    simp only [hg, hs, hx, hw, asInt_int, bin_lss, lenOf_sl, List.length_map, Option.bind_some, asBool_bool, hlt, decide_true, if_true, h0, hlen, and_self, bin_add, laws_toWrite_is h.c_laws_toWrite x, hzs, Write.u_var, Write.u_size, Write.u_storable, Write.u_partable]
    simpa using ih
theorem laws_toWriteS_is (h : G_laws_toWriteS E) (l : List Write) (hl : l.length ≤ 1048576) : E 27 [.sl 2 (l.map Write.u)] = some (.sl 2 (l.map Write.u)) := by
  have h1 := laws_toWriteS_l0_is h l hl l [] 0 (List.replicate l.length (.agg [.int .i64 0, .int .i64 0])) rfl rfl (by simp) (by simp)
  rw [laws_toWriteS_E h]
  simp only [lenOf_sl, Option.bind_some, List.length_map]
  rw [if_pos (by refine ⟨by omega, by omega, by omega, rfl⟩)]
  simpa using h1

theorem laws_eqWrite_is (h : G_laws_eqWrite E) (x y : Write) : E 36 [x.u, y.u] = some (.bool (decide (x = y))) := by
  rw [laws_eqWrite_E h]
  obtain ⟨a0, a1⟩ := x
  obtain ⟨b0, b1⟩ := y
  simp only [Write.mk.injEq]
  by_cases h0 : a0 = b0
  case neg => simp [h0]
  subst h0
  by_cases h1 : a1 = b1
  case neg => simp [h1]
  subst h1
  simp []

theorem laws_eqWriteS_l0_is (h : G_laws_eqWriteS E) (a b : List Write) (ha : a.length ≤ 1048576) (hb : b.length ≤ 1048576) : ∀ (r s p p2 : List Write) (i : Int), a = p ++ r → b = p2 ++ s → i = p.length → i = p2.length → r.length = s.length →
    laws_eqWriteS_l0 E (.sl 2 (a.map Write.u)) (.sl 2 (b.map Write.u)) (.int .i64 i) = some (.bool (decide (r = s)))
  | [], [], p, p2, i, e, e2, hi, hi2, _ => by
    rw [laws_eqWriteS_l0_eq]
    simp [mid_end e hi]
  | [], y :: s, _, _, _, _, _, _, _, hl => by cases hl
  | x :: r, [], _, _, _, _, _, _, _, hl => by cases hl
  | x :: r, y :: s, p, p2, i, e, e2, hi, hi2, hl => by
    obtain ⟨h0, hlt, hx, hw, hn, _⟩ := mid_at e hi (by omega)
    obtain ⟨_, _, hy, _, hn2, _⟩ := mid_at e2 hi2 (by omega)
    have ih := laws_eqWriteS_l0_is h a b ha hb r s (p ++ [x]) (p2 ++ [y]) (i + 1) (mid_next e) (mid_next e2) hn hn2 (by simpa using hl)
    rw [laws_eqWriteS_l0_eq]
    by_cases hxy : x = y
    · subst hxy
      simp [hlt, hx, hy, hw, ih, laws_eqWrite_is h.c_laws_eqWrite]
    · simp [hlt, hx, hy, hw, ih, laws_eqWrite_is h.c_laws_eqWrite, hxy]
theorem laws_eqWriteS_is (h : G_laws_eqWriteS E) (a b : List Write) (ha : a.length ≤ 1048576) (hb : b.length ≤ 1048576) : E 33 [.sl 2 (a.map Write.u), .sl 2 (b.map Write.u)] = some (.bool (decide (a = b))) := by
  rw [laws_eqWriteS_E h]
  by_cases hl : a.length = b.length
  · simp [hl, laws_eqWriteS_l0_is h a b ha hb a b [] [] 0 rfl rfl rfl rfl hl]
  · have h1 : a ≠ b := fun e => hl (by rw [e])
    have h2 : (a.length : Int) ≠ b.length := by omega
    simp [h1, h2]

theorem laws_szWriteS_is (h : G_laws_szWriteS E) (l : List Write) (hl : l.length ≤ maxLen) (left : Int) (h0 : 0 ≤ left) (h1 : left ≤ 1048576) : E 23 [.sl 2 (l.map Write.u), .int .i64 left] = some (.int .i64 (szc l.length left)) := by
  rw [laws_szWriteS_E h]
  unfold maxLen at hl
  have hw : IntKind.i64.wrap (left - (l.length : Int)) = left - l.length := wrap_in (by omega)
  by_cases h2 : left - (l.length : Int) < 0 <;> simp [hw, szc, h2]

end Go.Proofs.Ytfdcdbkblkehcaa.Am
/-
  What the laws' own helpers compute.
-/
namespace Go.Proofs.Ytfdcdbkblkehcaa.Am
open Go
variable {E : Env}
set_option linter.unusedVariables false

theorem laws_szTransaction_is (h : G_laws_szTransaction E) (x : Transaction) (hf : x.fit) (left : Int) (h0 : 0 ≤ left) (h1 : left ≤ 1048576) : E 132 [x.u, .int .i64 left] = some (.int .i64 (x.sz left)) := by
  rw [laws_szTransaction_E h]
  obtain ⟨hf1, hf2⟩ := hf
  have a1 := laws_szReadMarkS_is h.c_laws_szReadMarkS x.reads hf1 left h0 h1
  rcases szc_szs x.reads.length left h0 h1 with h2 | ⟨_, h3, h4⟩
  · simp [a1, Transaction.sz, h2]
  · have h5 : ¬ szc x.reads.length left < 0 := by omega
    have a2 := laws_szWriteS_is h.c_laws_szWriteS x.writes hf2 _ h3 (by omega)
    by_cases h6 : szc x.writes.length (szc x.reads.length left) < 0
    · have h7 : szc x.writes.length (szc x.reads.length left) = -1 := szc_neg h6
      simp [a1, a2, Transaction.sz, h5, h7]
    · simp [a1, a2, Transaction.sz, h5, h6]

theorem laws_toTransaction_is (h : G_laws_toTransaction E) (x : Transaction) (ho : x.ok) : E 145 [x.u] = some x.u := by
  rw [laws_toTransaction_E h]
  simp [Transaction.u, laws_toReadMarkS_is h.c_laws_toReadMarkS x.reads ho.1, laws_toWriteS_is h.c_laws_toWriteS x.writes ho.2]

theorem laws_eqTransaction_is (h : G_laws_eqTransaction E) (x y : Transaction) (hx : x.ok) (hy : y.ok) : E 177 [x.u, y.u] = some (.bool (decide (x = y))) := by
  rw [laws_eqTransaction_E h]
  obtain ⟨a0, a1, a2, a3, a4, a5, a6, a7, a8⟩ := x
  obtain ⟨b0, b1, b2, b3, b4, b5, b6, b7, b8⟩ := y
  simp only [Transaction.mk.injEq]
  by_cases h0 : a0 = b0
  case neg => simp [laws_eqReadMarkS_is h.c_laws_eqReadMarkS a7 b7 hx.1 hy.1, laws_eqWriteS_is h.c_laws_eqWriteS a8 b8 hx.2 hy.2, h0]
  subst h0
  by_cases h1 : a1 = b1
  case neg => simp [laws_eqReadMarkS_is h.c_laws_eqReadMarkS a7 b7 hx.1 hy.1, laws_eqWriteS_is h.c_laws_eqWriteS a8 b8 hx.2 hy.2, h1]
  subst h1
  by_cases h2 : a2 = b2
  case neg => simp [laws_eqReadMarkS_is h.c_laws_eqReadMarkS a7 b7 hx.1 hy.1, laws_eqWriteS_is h.c_laws_eqWriteS a8 b8 hx.2 hy.2, h2]
  subst h2
  by_cases h3 : a3 = b3
  case neg => simp [laws_eqReadMarkS_is h.c_laws_eqReadMarkS a7 b7 hx.1 hy.1, laws_eqWriteS_is h.c_laws_eqWriteS a8 b8 hx.2 hy.2, h3]
  subst h3
  by_cases h4 : a4 = b4
  case neg => simp [laws_eqReadMarkS_is h.c_laws_eqReadMarkS a7 b7 hx.1 hy.1, laws_eqWriteS_is h.c_laws_eqWriteS a8 b8 hx.2 hy.2, h4]
  subst h4
  by_cases h5 : a5 = b5
  case neg => simp [laws_eqReadMarkS_is h.c_laws_eqReadMarkS a7 b7 hx.1 hy.1, laws_eqWriteS_is h.c_laws_eqWriteS a8 b8 hx.2 hy.2, h5]
  subst h5
  by_cases h6 : a6 = b6
  case neg => simp [laws_eqReadMarkS_is h.c_laws_eqReadMarkS a7 b7 hx.1 hy.1, laws_eqWriteS_is h.c_laws_eqWriteS a8 b8 hx.2 hy.2, h6]
  subst h6
  by_cases h7 : a7 = b7
  case neg => simp [laws_eqReadMarkS_is h.c_laws_eqReadMarkS a7 b7 hx.1 hy.1, laws_eqWriteS_is h.c_laws_eqWriteS a8 b8 hx.2 hy.2, h7]
  subst h7
  by_cases h8 : a8 = b8
  case neg => simp [laws_eqReadMarkS_is h.c_laws_eqReadMarkS a7 a7 hx.1 hy.1, laws_eqWriteS_is h.c_laws_eqWriteS a8 b8 hx.2 hy.2, h8]
  subst h8
  simp [laws_eqReadMarkS_is h.c_laws_eqReadMarkS a7 a7 hx.1 hy.1, laws_eqWriteS_is h.c_laws_eqWriteS a8 a8 hx.2 hy.2]
end Go.Proofs.Ytfdcdbkblkehcaa.Am
/-
  Lists of flat data are flat.
-/
namespace Go.Proofs.Ytfdcdbkblkehcaa.Am
open Go

theorem flats_map {α : Type} (f : α → U) (h : ∀ x, (f x).flat = true) : ∀ l : List α, U.flat.flats (l.map f) = true
  | [] => rfl
  | x :: l => by
    simp only [List.map_cons, U.flat.flats, h x, flats_map f h l, Bool.and_self]
@[simp] theorem flats_edges (l : List Edge) : U.flat.flats (l.map Edge.u) = true := flats_map _ (fun _ => rfl) l
@[simp] theorem flats_ints (l : List Int) : U.flat.flats (l.map intU) = true := flats_map _ (fun _ => rfl) l
end Go.Proofs.Ytfdcdbkblkehcaa.Am
/-
  AbortTransaction: what each side answers.
-/
namespace Go.Proofs.Ytfdcdbkblkehcaa.Am
open Go
variable {E : Env}
set_option linter.unusedVariables false

theorem clone_is {q k b : Nat} (h : IsClone E q k b) (us : List U) (hl : us.length * b ≤ 140737488355328) : E q [.sl k us] = some (.sl k us) := by
  rw [h.v]; simp [cloneV, hl]
theorem clone_F_is {q k b : Nat} (h : IsClone E q k b) (us : List U) (hl : us.length * b ≤ 140737488355328) (hf : U.flat.flats us = true) : E (100000 + q) [.sl k us] = some (.sl k us) := by
  rw [h.f]; simp [cloneF, hl, hf]
theorem flatsR (l : List ReadMark) : U.flat.flats (l.map ReadMark.u) = true := flats_map _ (fun _ => rfl) l
theorem flatsW (l : List Write) : U.flat.flats (l.map Write.u) = true := flats_map _ (fun _ => rfl) l


theorem impl_copied_is (h : G_impl_Transaction_copied E) (x : Transaction) (ho : x.ok) : E 222 [x.u] = some x.u := by
  rw [impl_Transaction_copied_E h]
  have h1 := clone_is h.c_slices_Clone_g224 (x.reads.map ReadMark.u) (by have := ho.1; simp; omega)
  have h2 := clone_is h.c_slices_Clone_g225 (x.writes.map Write.u) (by have := ho.2; simp; omega)
  simp [h1, h2]
  simp [Transaction.u, U.asVar, D.isAgg, U.size, storable]

theorem impl_copied_F_is (h : G_impl_Transaction_copied_F E) (x : Transaction) (ho : x.ok) : E 100222 [x.u] = some x.u := by
  rw [impl_Transaction_copied_F_E h]
  have h1 : E 100224 [.sl 2 (x.reads.map ReadMark.u)] = _ := clone_F_is h.c_slices_Clone_g224 (x.reads.map ReadMark.u) (by have := ho.1; simp; omega) (flatsR _)
  have h2 : E 100225 [.sl 2 (x.writes.map Write.u)] = _ := clone_F_is h.c_slices_Clone_g225 (x.writes.map Write.u) (by have := ho.2; simp; omega) (flatsW _)
  simp [h1, h2, noTup_sl, U.asSlK, D.size, dsizes, D.size.dsizes, U.size]
  rfl

theorem spec_l5Copy_is (h : G_spec_l5Copy E) (x : Transaction) (ho : x.ok) : E 212 [x.u] = some x.u := by
  rw [spec_l5Copy_E h]
  have h1 : x.reads.length * 16 ≤ 140737488355328 := by have := ho.1; omega
  have h2 : x.writes.length * 16 ≤ 140737488355328 := by have := ho.2; omega
  simp [U.elems, h1, h2, D.size, dsizes, D.size.dsizes, U.size, storable]
  rfl

/-- What becomes of a transaction that is aborted; did it take place? -/
def Transaction.abort (x : Transaction) : Transaction × Bool := if x.valid && decide (x.state = 1) then ({ x with state := 3 }, true) else (x, false)
theorem abort_reads (x : Transaction) : x.abort.1.reads = x.reads ∧ x.abort.1.writes = x.writes := by unfold Transaction.abort; split <;> exact ⟨rfl, rfl⟩
theorem abort_ok {x : Transaction} (ho : x.ok) : x.abort.1.ok := by
  have := abort_reads x
  unfold Transaction.ok
  rw [this.1, this.2]
  exact ho

theorem impl_active_is (h : G_impl_Transaction_isActive E) (x : Transaction) (ho : x.ok) : E 301 [x.u] = some (.bool (x.valid && decide (x.state = 1))) := by
  rw [impl_Transaction_isActive_E h]
  by_cases h1 : x.state = 1 <;> simp [h1, impl_IsValidTransaction_is h.c_impl_IsValidTransaction x ho]

theorem abort_set (x : Transaction) : U.agg [.int .i64 x.id, .int .i64 x.scheme, .int .i64 3, .int .i64 x.begin_, .int .i64 x.low, .int .i64 x.high, .int .i64 x.commit, .sl 2 (x.reads.map ReadMark.u), .sl 2 (x.writes.map Write.u)] = ({ x with state := 3 } : Transaction).u := rfl

theorem impl_AbortTransaction_is (h : G_impl_AbortTransaction E) (x : Transaction) (ho : x.ok) : E 328 [x.u] = some (.tup [x.abort.1.u, .bool x.abort.2]) := by
  rw [impl_AbortTransaction_E h]
  cases g : (x.valid && decide (x.state = 1)) <;> simp [impl_copied_is h.c_impl_Transaction_copied x ho, impl_active_is h.c_impl_Transaction_isActive x ho, g, Transaction.abort, U.size, abort_set]

theorem impl_AbortTransaction_F_is (h : G_impl_AbortTransaction_F E) (x : Transaction) (ho : x.ok) : E 100328 [x.u] = some (.tup [x.abort.1.u, .bool x.abort.2]) := by
  rw [impl_AbortTransaction_F_E h]
  cases g : (x.valid && decide (x.state = 1)) <;> simp [impl_copied_F_is h.c_impl_Transaction_copied_F x ho, impl_active_is h.c_impl_Transaction_isActive x ho, g, Transaction.abort, U.asSlK, abort_set]
  rfl

theorem spec_AbortTransaction_is (h : G_spec_AbortTransaction E) (x : Transaction) (ho : x.ok) : E 329 [x.u] = some (.tup [x.abort.1.u, .bool x.abort.2]) := by
  rw [spec_AbortTransaction_E h]
  cases g1 : x.valid
  · simp [spec_l5Copy_is h.c_spec_l5Copy x ho, spec_IsValidTransaction_is h.c_spec_IsValidTransaction x ho, g1, Transaction.abort]
  · by_cases g2 : x.state = 1 <;> simp [spec_l5Copy_is h.c_spec_l5Copy x ho, spec_IsValidTransaction_is h.c_spec_IsValidTransaction x ho, g1, g2, Transaction.abort, U.size, abort_set]
end Go.Proofs.Ytfdcdbkblkehcaa.Am
/-
  What the laws' own helpers compute.
-/
namespace Go.Proofs.Ytfdcdbkblkehcaa.Am
open Go
variable {E : Env}
set_option linter.unusedVariables false

def Entry.sz (e : Entry) (left : Int) : Int := let v := szc e.reads.length left; if v < 0 then -1 else szc e.writes.length v
theorem Entry.sz_szs : Szs Entry.sz Entry.ok := fun e left h0 h1 => by
  unfold Entry.sz Entry.ok
  rcases szc_szs e.reads.length left h0 h1 with h | ⟨h2, h3, h4⟩
  · left; simp [h]
  · have h5 : ¬ szc e.reads.length left < 0 := by omega
    rcases szc_szs e.writes.length _ h3 (by omega) with h | ⟨h6, h7, h8⟩
    · left; simp [h5, h]
    · right; simp only [h5, if_false]; exact ⟨⟨h2, h6⟩, h7, by omega⟩

theorem laws_szEntry_is (h : G_laws_szEntry E) (x : Entry) (hf : x.fit) (left : Int) (h0 : 0 ≤ left) (h1 : left ≤ 1048576) : E 50 [x.u, .int .i64 left] = some (.int .i64 (x.sz left)) := by
  rw [laws_szEntry_E h]
  obtain ⟨hf1, hf2⟩ := hf
  have a1 := laws_szReadMarkS_is h.c_laws_szReadMarkS x.reads hf1 left h0 h1
  rcases szc_szs x.reads.length left h0 h1 with h2 | ⟨_, h3, h4⟩
  · simp [a1, Entry.sz, h2]
  · have h5 : ¬ szc x.reads.length left < 0 := by omega
    have a2 := laws_szWriteS_is h.c_laws_szWriteS x.writes hf2 _ h3 (by omega)
    by_cases h6 : szc x.writes.length (szc x.reads.length left) < 0
    · have h7 : szc x.writes.length (szc x.reads.length left) = -1 := szc_neg h6
      simp [a1, a2, Entry.sz, h5, h7]
    · simp [a1, a2, Entry.sz, h5, h6]

theorem laws_toEntry_is (h : G_laws_toEntry E) (x : Entry) (ho : x.ok) : E 51 [x.u] = some x.u := by
  rw [laws_toEntry_E h]
  simp [Entry.u, laws_toReadMarkS_is h.c_laws_toReadMarkS x.reads ho.1, laws_toWriteS_is h.c_laws_toWriteS x.writes ho.2]

theorem laws_eqEntry_is (h : G_laws_eqEntry E) (x y : Entry) (hx : x.ok) (hy : y.ok) : E 56 [x.u, y.u] = some (.bool (decide (x = y))) := by
  rw [laws_eqEntry_E h]
  obtain ⟨a0, a1, a2, a3⟩ := x
  obtain ⟨b0, b1, b2, b3⟩ := y
  simp only [Entry.mk.injEq]
  by_cases h0 : a0 = b0
  case neg => simp [laws_eqReadMarkS_is h.c_laws_eqReadMarkS a2 b2 hx.1 hy.1, laws_eqWriteS_is h.c_laws_eqWriteS a3 b3 hx.2 hy.2, h0]
  subst h0
  by_cases h1 : a1 = b1
  case neg => simp [laws_eqReadMarkS_is h.c_laws_eqReadMarkS a2 b2 hx.1 hy.1, laws_eqWriteS_is h.c_laws_eqWriteS a3 b3 hx.2 hy.2, h1]
  subst h1
  by_cases h2 : a2 = b2
  case neg => simp [laws_eqReadMarkS_is h.c_laws_eqReadMarkS a2 b2 hx.1 hy.1, laws_eqWriteS_is h.c_laws_eqWriteS a3 b3 hx.2 hy.2, h2]
  subst h2
  by_cases h3 : a3 = b3
  case neg => simp [laws_eqReadMarkS_is h.c_laws_eqReadMarkS a2 a2 hx.1 hy.1, laws_eqWriteS_is h.c_laws_eqWriteS a3 b3 hx.2 hy.2, h3]
  subst h3
  simp [laws_eqReadMarkS_is h.c_laws_eqReadMarkS a2 a2 hx.1 hy.1, laws_eqWriteS_is h.c_laws_eqWriteS a3 a3 hx.2 hy.2]

theorem laws_toEntryS_l0_is (h : G_laws_toEntryS E) (l : List Entry) (hl : l.length ≤ 1048576) (hok : ∀ x ∈ l, Entry.ok x) : ∀ (r p : List Entry) (i : Int) (c : List U), l = p ++ r → i = p.length → c.length = r.length → (∀ z ∈ c, z.size = 4) →
    laws_toEntryS_l0 E (.sl 4 (l.map Entry.u)) (.int .i64 i) (p.map Entry.u ++ c) = some (.sl 4 (l.map Entry.u))
  | [], p, i, c, e, hi, hc, _ => by
    obtain rfl : c = [] := List.length_eq_zero_iff.1 hc
    rw [laws_toEntryS_l0_eq]
    simp [mid_end e hi]
    simp [e]
  | x :: r, p, i, [], e, hi, hc, _ => by cases hc
  | x :: r, p, i, z :: c, e, hi, hc, hz => by
    obtain ⟨h0, hlt, hx, hw, hn, _⟩ := mid_at e hi (by omega)
    have hox : Entry.ok x := hok x (by rw [e]; simp)
    have hzs : z.size = 4 := hz z (by simp)
    obtain ⟨hg, hs, hlen⟩ := mid_set Entry.u p z c hi
    have ih := laws_toEntryS_l0_is h l hl hok r (p ++ [x]) (i + 1) c (mid_next e) hn (by simpa using hc) (fun y hy => hz y (by simp [hy]))
    simp only [List.map_append, List.map_cons, List.map_nil, List.append_assoc, List.cons_append, List.nil_append] at ih
    rw [laws_toEntryS_l0_eq]
    simp only [hg, hs, hx, hw, asInt_int, bin_lss, lenOf_sl, List.length_map, Option.bind_some, asBool_bool, hlt, decide_true, if_true, h0, hlen, and_self, bin_add, laws_toEntry_is h.c_laws_toEntry x hox, hzs, Entry.u_var, Entry.u_size, Entry.u_storable, Entry.u_partable]
    simpa using ih
theorem laws_toEntryS_is (h : G_laws_toEntryS E) (l : List Entry) (hl : l.length ≤ 1048576) (hok : ∀ x ∈ l, Entry.ok x) : E 45 [.sl 4 (l.map Entry.u)] = some (.sl 4 (l.map Entry.u)) := by
  have h1 := laws_toEntryS_l0_is h l hl hok l [] 0 (List.replicate l.length (.agg [.int .i64 0, .int .i64 0, .nsl 2, .nsl 2])) rfl rfl (by simp) (by simp)
  rw [laws_toEntryS_E h]
  simp only [lenOf_sl, Option.bind_some, List.length_map]
  rw [if_pos (by refine ⟨by omega, by omega, by omega, rfl⟩)]
  simpa using h1

theorem laws_eqEntryS_l0_is (h : G_laws_eqEntryS E) (a b : List Entry) (ha : a.length ≤ 1048576) (hb : b.length ≤ 1048576) (hao : ∀ x ∈ a, Entry.ok x) (hbo : ∀ x ∈ b, Entry.ok x) : ∀ (r s p p2 : List Entry) (i : Int), a = p ++ r → b = p2 ++ s → i = p.length → i = p2.length → r.length = s.length →
    laws_eqEntryS_l0 E (.sl 4 (a.map Entry.u)) (.sl 4 (b.map Entry.u)) (.int .i64 i) = some (.bool (decide (r = s)))
  | [], [], p, p2, i, e, e2, hi, hi2, _ => by
    rw [laws_eqEntryS_l0_eq]
    simp [mid_end e hi]
  | [], y :: s, _, _, _, _, _, _, _, hl => by cases hl
  | x :: r, [], _, _, _, _, _, _, _, hl => by cases hl
  | x :: r, y :: s, p, p2, i, e, e2, hi, hi2, hl => by
    obtain ⟨h0, hlt, hx, hw, hn, _⟩ := mid_at e hi (by omega)
    obtain ⟨_, _, hy, _, hn2, _⟩ := mid_at e2 hi2 (by omega)
    have hox : Entry.ok x := hao x (by rw [e]; simp)
    have hoy : Entry.ok y := hbo y (by rw [e2]; simp)
    have ih := laws_eqEntryS_l0_is h a b ha hb hao hbo r s (p ++ [x]) (p2 ++ [y]) (i + 1) (mid_next e) (mid_next e2) hn hn2 (by simpa using hl)
    rw [laws_eqEntryS_l0_eq]
    by_cases hxy : x = y
    · subst hxy
      simp [hlt, hx, hy, hw, ih, laws_eqEntry_is h.c_laws_eqEntry _ _ hox hoy]
    · simp [hlt, hx, hy, hw, ih, laws_eqEntry_is h.c_laws_eqEntry _ _ hox hoy, hxy]
theorem laws_eqEntryS_is (h : G_laws_eqEntryS E) (a b : List Entry) (ha : a.length ≤ 1048576) (hb : b.length ≤ 1048576) (hao : ∀ x ∈ a, Entry.ok x) (hbo : ∀ x ∈ b, Entry.ok x) : E 46 [.sl 4 (a.map Entry.u), .sl 4 (b.map Entry.u)] = some (.bool (decide (a = b))) := by
  rw [laws_eqEntryS_E h]
  by_cases hl : a.length = b.length
  · simp [hl, laws_eqEntryS_l0_is h a b ha hb hao hbo a b [] [] 0 rfl rfl rfl rfl hl]
  · have h1 : a ≠ b := fun e => hl (by rw [e])
    have h2 : (a.length : Int) ≠ b.length := by omega
    simp [h1, h2]

theorem laws_szEntryS_l0_is (h : G_laws_szEntryS E) (l : List Entry) (hl : l.length ≤ 1048576) (hf : ∀ x ∈ l, Entry.fit x) : ∀ (r p : List Entry) (i left : Int), l = p ++ r → i = p.length → 0 ≤ left → left ≤ 1048576 →
    laws_szEntryS_l0 E (.sl 4 (l.map Entry.u)) (.int .i64 left) (.int .i64 i) = some (.int .i64 (szl Entry.sz r left))
  | [], p, i, left, e, hi, _, _ => by
    rw [laws_szEntryS_l0_eq]
    simp [mid_end e hi, szl]
  | x :: r, p, i, left, e, hi, h1, h2 => by
    obtain ⟨h0, hlt, hx, hw, hn, _⟩ := mid_at e hi (by omega)
    have hfx : Entry.fit x := hf x (by rw [e]; simp)
    rw [laws_szEntryS_l0_eq]
    rcases Entry.sz_szs x left h1 h2 with h3 | ⟨_, h3, h4⟩
    · simp [hlt, hx, hw, szl, laws_szEntry_is h.c_laws_szEntry x hfx left h1 h2, h3]
    · have ih := laws_szEntryS_l0_is h l hl hf r (p ++ [x]) (i + 1) (Entry.sz x left) (mid_next e) hn h3 (by omega)
      have h5 : ¬ Entry.sz x left < 0 := by omega
      simp [hlt, hx, hw, szl, laws_szEntry_is h.c_laws_szEntry x hfx left h1 h2, h5, ih]
theorem laws_szEntryS_is (h : G_laws_szEntryS E) (l : List Entry) (hl : l.length ≤ maxLen) (hf : ∀ x ∈ l, Entry.fit x) (left : Int) (h0 : 0 ≤ left) (h1 : left ≤ 1048576) : E 49 [.sl 4 (l.map Entry.u), .int .i64 left] = some (.int .i64 (szL Entry.sz l left)) := by
  rw [laws_szEntryS_E h]
  unfold maxLen at hl
  have hw : IntKind.i64.wrap (left - (l.length : Int)) = left - l.length := wrap_in (by omega)
  by_cases h2 : left - (l.length : Int) < 0
  · simp [hw, szL, h2]
  · simp [hw, szL, h2, laws_szEntryS_l0_is h l (by omega) hf l [] 0 (left - l.length) rfl rfl (by omega) (by omega)]

end Go.Proofs.Ytfdcdbkblkehcaa.Am
/-
  Marks: ReadMarks that hold the ints from k on.
-/
namespace Go.Proofs.Ytfdcdbkblkehcaa.Am
open Go
variable {E : Env}
set_option linter.unusedVariables false

/-- n ReadMarks from k on. -/
def upReadMark : Int → Nat → List ReadMark
  | _, 0 => []
  | k, n + 1 => ⟨k, k + 1⟩ :: upReadMark (k + 2) n

theorem upReadMark_length : ∀ (n : Nat) (k : Int), (upReadMark k n).length = n
  | 0, _ => rfl
  | n + 1, k => by simp [upReadMark, upReadMark_length n]

theorem flats_ReadMark (l : List ReadMark) : U.flat.flats (l.map ReadMark.u) = true := flats_map _ (fun _ => rfl) l

theorem laws_markReadMarkS_M_l0_is (h : G_laws_markReadMarkS_M E) : ∀ (r p : List ReadMark) (k i : Int), i = p.length → p.length + r.length ≤ 1048576 → 0 ≤ k → k + 2 * r.length ≤ 1099511627776 →
    laws_markReadMarkS_M_l0 E (.int .i64 k) (.int .i64 i) (p.map ReadMark.u ++ r.map ReadMark.u) = some (.tup [.int .i64 (k + 2 * r.length), .sl 2 (p.map ReadMark.u ++ (upReadMark k r.length).map ReadMark.u)])
  | [], p, k, i, hi, hb, hk, hk2 => by
    have h1 : ¬ i < ((p.map ReadMark.u ++ ([] : List ReadMark).map ReadMark.u).length : Int) := by simp [hi]
    rw [laws_markReadMarkS_M_l0_eq]
    simp only [bin_lss, h1, decide_false, Option.bind_some, asBool_bool, Bool.false_eq_true, if_false]
    rw [← List.map_append]
    simp [upReadMark, flats_ReadMark]
  | x :: r, p, k, i, hi, hb, hk, hk2 => by
    simp only [List.length_cons] at hb hk2
    have hm := fun z => mid_set ReadMark.u p z (r.map ReadMark.u) hi
    have hg := fun z => (hm z).1
    have hs := fun z => (hm z).2.1
    have hlen := fun z => (hm z).2.2
    have h0 : 0 ≤ i := by omega
    have hw0 : IntKind.i64.wrap (k + 1) = k + 1 := by rw [wrap_in (by omega)]
    have hw1 : IntKind.i64.wrap (k + 1 + 1) = k + 2 := by rw [wrap_in (by omega)]; omega
    have hwi : IntKind.i64.wrap (i + 1) = i + 1 := wrap_in (by omega)
    have ih := laws_markReadMarkS_M_l0_is h r (p ++ [⟨k, k + 1⟩]) (k + 2) (i + 1) (by simp [hi]) (by simp; omega) (by omega) (by omega)
    simp only [List.map_append, List.map_cons, List.map_nil, List.append_assoc, List.cons_append, List.nil_append] at ih
    rw [laws_markReadMarkS_M_l0_eq]
    simp only [List.map_cons, bin_lss, hlen, decide_true, Option.bind_some, asBool_bool, if_true, asInt_int, h0, and_self, storable_int, size_int, flat_int, hg, hs, ReadMark.u_agg, asAgg_agg, List.take_zero, List.take_succ_cons, sizes_cons, sizes_nil, Nat.add_zero, Nat.zero_add, List.getElem?_cons_zero, List.getElem?_cons_succ, List.set_cons_zero, List.set_cons_succ, bin_add, hw0, hw1, hwi, Nat.reduceAdd]
    have e : k + 2 + 2 * (r.length : Int) = k + 2 * ((r.length + 1 : Nat) : Int) := by omega
    rw [e] at ih
    simpa [upReadMark, ReadMark.u] using ih

theorem laws_markReadMarkS_M_is (h : G_laws_markReadMarkS_M E) (l : List ReadMark) (hl : l.length ≤ 1048576) (k : Int) (hk : 0 ≤ k) (hk2 : k ≤ 1073741824) :
    E 200095 (.agg [.tup [.sl 2 (l.map ReadMark.u)]] :: [.int .i64 k]) = some (.tup [.int .i64 (k + 2 * l.length), .sl 2 ((upReadMark k l.length).map ReadMark.u)]) := by
  rw [laws_markReadMarkS_M_E h]
  exact laws_markReadMarkS_M_l0_is h l [] k 0 rfl (by simpa using hl) hk (by omega)

theorem laws_heldReadMarkS_l0_is (h : G_laws_heldReadMarkS E) (l : List ReadMark) (hl : l.length ≤ 1048576) : ∀ (n : Nat) (p : List ReadMark) (k i : Int), l = p ++ upReadMark k n → i = p.length → 0 ≤ k → k + 2 * n ≤ 1099511627776 →
    laws_heldReadMarkS_l0 E (.sl 2 (l.map ReadMark.u)) (.int .i64 k) (.int .i64 i) = some (.int .i64 (k + 2 * n))
  | 0, p, k, i, e, hi, hk, hk2 => by
    rw [laws_heldReadMarkS_l0_eq]
    simp [mid_end e hi]
  | n + 1, p, k, i, e0, hi, hk, hk2 => by
    have e : l = p ++ (⟨k, k + 1⟩ : ReadMark) :: upReadMark (k + 2) n := e0
    obtain ⟨h0, hlt, hx, hw, hn, _⟩ := mid_at e hi (by omega)
    have hw0 : IntKind.i64.wrap (k + 1) = k + 1 := by rw [wrap_in (by omega)]
    have hw1 : IntKind.i64.wrap (k + 1 + 1) = k + 2 := by rw [wrap_in (by omega)]; omega
    have ih := laws_heldReadMarkS_l0_is h l hl n (p ++ [⟨k, k + 1⟩]) (k + 2) (i + 1) (mid_next e) hn (by omega) (by omega)
    have e2 : k + 2 + 2 * (n : Int) = k + 2 * ((n + 1 : Nat) : Int) := by omega
    rw [e2] at ih
    rw [laws_heldReadMarkS_l0_eq]
    simp only [lenOf_sl, List.length_map, Option.bind_some, bin_lss, hlt, decide_true, asBool_bool, if_true, asInt_int, hx, ReadMark.u_at0, ReadMark.u_at1, asVar_int, bin_neq, ne_eq, not_true_eq_false, decide_false, Bool.false_eq_true, if_false, bin_add, hw, hw0, hw1]
    exact ih

theorem laws_heldReadMarkS_is (h : G_laws_heldReadMarkS E) (n : Nat) (hn : n ≤ 1048576) (k : Int) (hk : 0 ≤ k) (hk2 : k ≤ 1048576) : E 92 [.sl 2 ((upReadMark k n).map ReadMark.u), .int .i64 k] = some (.int .i64 (k + 2 * n)) := by
  rw [laws_heldReadMarkS_E h]
  exact laws_heldReadMarkS_l0_is h _ (by rw [upReadMark_length]; exact hn) n [] k 0 rfl rfl hk (by omega)
end Go.Proofs.Ytfdcdbkblkehcaa.Am
/-
  Marks: Writes that hold the ints from k on.
-/
namespace Go.Proofs.Ytfdcdbkblkehcaa.Am
open Go
variable {E : Env}
set_option linter.unusedVariables false

/-- n Writes from k on. -/
def upWrite : Int → Nat → List Write
  | _, 0 => []
  | k, n + 1 => ⟨k, k + 1⟩ :: upWrite (k + 2) n

theorem upWrite_length : ∀ (n : Nat) (k : Int), (upWrite k n).length = n
  | 0, _ => rfl
  | n + 1, k => by simp [upWrite, upWrite_length n]

theorem flats_Write (l : List Write) : U.flat.flats (l.map Write.u) = true := flats_map _ (fun _ => rfl) l

theorem laws_markWriteS_M_l0_is (h : G_laws_markWriteS_M E) : ∀ (r p : List Write) (k i : Int), i = p.length → p.length + r.length ≤ 1048576 → 0 ≤ k → k + 2 * r.length ≤ 1099511627776 →
    laws_markWriteS_M_l0 E (.int .i64 k) (.int .i64 i) (p.map Write.u ++ r.map Write.u) = some (.tup [.int .i64 (k + 2 * r.length), .sl 2 (p.map Write.u ++ (upWrite k r.length).map Write.u)])
  | [], p, k, i, hi, hb, hk, hk2 => by
    have h1 : ¬ i < ((p.map Write.u ++ ([] : List Write).map Write.u).length : Int) := by simp [hi]
    rw [laws_markWriteS_M_l0_eq]
    simp only [bin_lss, h1, decide_false, Option.bind_some, asBool_bool, Bool.false_eq_true, if_false]
    rw [← List.map_append]
    simp [upWrite, flats_Write]
  | x :: r, p, k, i, hi, hb, hk, hk2 => by
    simp only [List.length_cons] at hb hk2
    have hm := fun z => mid_set Write.u p z (r.map Write.u) hi
    have hg := fun z => (hm z).1
    have hs := fun z => (hm z).2.1
    have hlen := fun z => (hm z).2.2
    have h0 : 0 ≤ i := by omega
    have hw0 : IntKind.i64.wrap (k + 1) = k + 1 := by rw [wrap_in (by omega)]
    have hw1 : IntKind.i64.wrap (k + 1 + 1) = k + 2 := by rw [wrap_in (by omega)]; omega
    have hwi : IntKind.i64.wrap (i + 1) = i + 1 := wrap_in (by omega)
    have ih := laws_markWriteS_M_l0_is h r (p ++ [⟨k, k + 1⟩]) (k + 2) (i + 1) (by simp [hi]) (by simp; omega) (by omega) (by omega)
    simp only [List.map_append, List.map_cons, List.map_nil, List.append_assoc, List.cons_append, List.nil_append] at ih
    rw [laws_markWriteS_M_l0_eq]
    simp only [List.map_cons, bin_lss, hlen, decide_true, Option.bind_some, asBool_bool, if_true, asInt_int, h0, and_self, storable_int, size_int, flat_int, hg, hs, Write.u_agg, asAgg_agg, List.take_zero, List.take_succ_cons, sizes_cons, sizes_nil, Nat.add_zero, Nat.zero_add, List.getElem?_cons_zero, List.getElem?_cons_succ, List.set_cons_zero, List.set_cons_succ, bin_add, hw0, hw1, hwi, Nat.reduceAdd]
    have e : k + 2 + 2 * (r.length : Int) = k + 2 * ((r.length + 1 : Nat) : Int) := by omega
    rw [e] at ih
    simpa [upWrite, Write.u] using ih

theorem laws_markWriteS_M_is (h : G_laws_markWriteS_M E) (l : List Write) (hl : l.length ≤ 1048576) (k : Int) (hk : 0 ≤ k) (hk2 : k ≤ 1073741824) :
    E 200232 (.agg [.tup [.sl 2 (l.map Write.u)]] :: [.int .i64 k]) = some (.tup [.int .i64 (k + 2 * l.length), .sl 2 ((upWrite k l.length).map Write.u)]) := by
  rw [laws_markWriteS_M_E h]
  exact laws_markWriteS_M_l0_is h l [] k 0 rfl (by simpa using hl) hk (by omega)
end Go.Proofs.Ytfdcdbkblkehcaa.Am
/-
  The laws' copies of entries, fresh.
-/
namespace Go.Proofs.Ytfdcdbkblkehcaa.Am
open Go
variable {E : Env}
set_option linter.unusedVariables false

theorem laws_toReadMarkS_F_l0_is (h : G_laws_toReadMarkS_F E) (l : List ReadMark) (hl : l.length ≤ 1048576) : ∀ (r p : List ReadMark) (i : Int) (c : List U), l = p ++ r → i = p.length → c.length = r.length → (∀ z ∈ c, z.size = 2) →
    laws_toReadMarkS_F_l0 E (.sl 2 (l.map ReadMark.u)) (.int .i64 i) (p.map ReadMark.u ++ c) = some (.sl 2 (l.map ReadMark.u))
  | [], p, i, c, e, hi, hc, _ => by
    obtain rfl : c = [] := List.length_eq_zero_iff.1 hc
    rw [laws_toReadMarkS_F_l0_eq]
    simp [mid_end e hi]
    simp [e, flats_ReadMark, ← List.map_append, ← List.map_cons]
  | x :: r, p, i, [], e, hi, hc, _ => by cases hc
  | x :: r, p, i, z :: c, e, hi, hc, hz => by
    obtain ⟨h0, hlt, hx, hw, hn, _⟩ := mid_at e hi (by omega)
    have hzs : z.size = 2 := hz z (by simp)
    obtain ⟨hg, hs, hlen⟩ := mid_set ReadMark.u p z c hi
    have ih := laws_toReadMarkS_F_l0_is h l hl r (p ++ [x]) (i + 1) c (mid_next e) hn (by simpa using hc) (fun y hy => hz y (by simp [hy]))
    simp only [List.map_append, List.map_cons, List.map_nil, List.append_assoc, List.cons_append, List.nil_append] at ih
    rw [laws_toReadMarkS_F_l0_eq]
    simp only [hg, hs, hx, hw, asInt_int, bin_lss, lenOf_sl, List.length_map, Option.bind_some, asBool_bool, hlt, decide_true, if_true, h0, hlen, and_self, bin_add, laws_toReadMark_is h.c_laws_toReadMark x, hzs, ReadMark.u_var, ReadMark.u_size, ReadMark.u_storable, ReadMark.u_partable]
    simpa using ih
theorem laws_toReadMarkS_F_is (h : G_laws_toReadMarkS_F E) (l : List ReadMark) (hl : l.length ≤ 1048576) : E 100028 [.sl 2 (l.map ReadMark.u)] = some (.sl 2 (l.map ReadMark.u)) := by
  have h1 := laws_toReadMarkS_F_l0_is h l hl l [] 0 (List.replicate l.length (.agg [.int .i64 0, .int .i64 0])) rfl rfl (by simp) (by simp)
  rw [laws_toReadMarkS_F_E h]
  simp only [lenOf_sl, Option.bind_some, List.length_map]
  rw [if_pos (by refine ⟨by omega, by omega, by omega, rfl⟩)]
  simpa using h1

theorem laws_toWriteS_F_l0_is (h : G_laws_toWriteS_F E) (l : List Write) (hl : l.length ≤ 1048576) : ∀ (r p : List Write) (i : Int) (c : List U), l = p ++ r → i = p.length → c.length = r.length → (∀ z ∈ c, z.size = 2) →
    laws_toWriteS_F_l0 E (.sl 2 (l.map Write.u)) (.int .i64 i) (p.map Write.u ++ c) = some (.sl 2 (l.map Write.u))
  | [], p, i, c, e, hi, hc, _ => by
    obtain rfl : c = [] := List.length_eq_zero_iff.1 hc
    rw [laws_toWriteS_F_l0_eq]
    simp [mid_end e hi]
    simp [e, flats_Write, ← List.map_append, ← List.map_cons]
  | x :: r, p, i, [], e, hi, hc, _ => by cases hc
  | x :: r, p, i, z :: c, e, hi, hc, hz => by
    obtain ⟨h0, hlt, hx, hw, hn, _⟩ := mid_at e hi (by omega)
    have hzs : z.size = 2 := hz z (by simp)
    obtain ⟨hg, hs, hlen⟩ := mid_set Write.u p z c hi
    have ih := laws_toWriteS_F_l0_is h l hl r (p ++ [x]) (i + 1) c (mid_next e) hn (by simpa using hc) (fun y hy => hz y (by simp [hy]))
    simp only [List.map_append, List.map_cons, List.map_nil, List.append_assoc, List.cons_append, List.nil_append] at ih
    rw [laws_toWriteS_F_l0_eq]
    simp only [hg, hs, hx, hw, asInt_int, bin_lss, lenOf_sl, List.length_map, Option.bind_some, asBool_bool, hlt, decide_true, if_true, h0, hlen, and_self, bin_add, laws_toWrite_is h.c_laws_toWrite x, hzs, Write.u_var, Write.u_size, Write.u_storable, Write.u_partable]
    simpa using ih
theorem laws_toWriteS_F_is (h : G_laws_toWriteS_F E) (l : List Write) (hl : l.length ≤ 1048576) : E 100027 [.sl 2 (l.map Write.u)] = some (.sl 2 (l.map Write.u)) := by
  have h1 := laws_toWriteS_F_l0_is h l hl l [] 0 (List.replicate l.length (.agg [.int .i64 0, .int .i64 0])) rfl rfl (by simp) (by simp)
  rw [laws_toWriteS_F_E h]
  simp only [lenOf_sl, Option.bind_some, List.length_map]
  rw [if_pos (by refine ⟨by omega, by omega, by omega, rfl⟩)]
  simpa using h1

theorem laws_toEntry_F_is (h : G_laws_toEntry_F E) (x : Entry) (ho : x.ok) : E 100051 [x.u] = some x.u := by
  rw [laws_toEntry_F_E h]
  have h1 := laws_toReadMarkS_F_is h.c_laws_toReadMarkS_F x.reads ho.1
  have h2 := laws_toWriteS_F_is h.c_laws_toWriteS_F x.writes ho.2
  have h3 : ∀ (k : Nat) (us : List U) (K : U → Option U), U.noTup (.sl k us) K = K (.sl k us) := fun _ _ _ => rfl
  have h4 : ∀ (n : Int) (K : U → Option U), U.noTup (.int .i64 n) K = K (.int .i64 n) := fun _ _ => rfl
  simp [h1, h2, U.asSlK, h3, h4, D.size, dsizes, D.size.dsizes]
  rfl

theorem laws_toEntryS_F_l0_is (h : G_laws_toEntryS_F E) (l : List Entry) (hl : l.length ≤ 1048576) (hok : ∀ x ∈ l, Entry.ok x) : ∀ (r p : List Entry) (i : Int) (c : List U), l = p ++ r → i = p.length → c.length = r.length → (∀ z ∈ c, z.size = 4) →
    laws_toEntryS_F_l0 E (.sl 4 (l.map Entry.u)) (.int .i64 i) (p.map Entry.u ++ c) = some (.sl 4 (l.map Entry.u))
  | [], p, i, c, e, hi, hc, _ => by
    obtain rfl : c = [] := List.length_eq_zero_iff.1 hc
    rw [laws_toEntryS_F_l0_eq]
    simp [mid_end e hi]
    simp [e]
  | x :: r, p, i, [], e, hi, hc, _ => by cases hc
  | x :: r, p, i, z :: c, e, hi, hc, hz => by
    obtain ⟨h0, hlt, hx, hw, hn, _⟩ := mid_at e hi (by omega)
    have hox : x.ok := hok x (by rw [e]; simp)
    have hzs : z.size = 4 := hz z (by simp)
    obtain ⟨hg, hs, hlen⟩ := mid_set Entry.u p z c hi
    have ih := laws_toEntryS_F_l0_is h l hl hok r (p ++ [x]) (i + 1) c (mid_next e) hn (by simpa using hc) (fun y hy => hz y (by simp [hy]))
    simp only [List.map_append, List.map_cons, List.map_nil, List.append_assoc, List.cons_append, List.nil_append] at ih
    have hF := laws_toEntry_F_is h.c_laws_toEntry_F x hox
    have h3 : ∀ (k : Nat) (us : List U) (K : U → Option U), U.noTup (.sl k us) K = K (.sl k us) := fun _ _ _ => rfl
    have h4 : ∀ (n : Int) (K : U → Option U), U.noTup (.int .i64 n) K = K (.int .i64 n) := fun _ _ => rfl
    have hu : U.agg [.int .i64 x.id, .int .i64 x.stamp, .sl 2 (x.reads.map ReadMark.u), .sl 2 (x.writes.map Write.u)] = x.u := rfl
    rw [laws_toEntryS_F_l0_eq]
    simp only [hx, hw, asInt_int, bin_lss, lenOf_sl, List.length_map, Option.bind_some, asBool_bool, hlt, decide_true, if_true, h0, hlen, and_self, bin_add, Entry.u_var, hF, Entry.u_noTup, Entry.u_agg, asVar_int, flat_int, U.asSlK, h4]
    simp only [dsizes_cons, dsizes_nil, D.size, size_int, Nat.reduceAdd, if_true, hu, Entry.u_size, hg, hs, hzs, Option.bind_some]
    simpa using ih
theorem laws_toEntryS_F_is (h : G_laws_toEntryS_F E) (l : List Entry) (hl : l.length ≤ 1048576) (hok : ∀ x ∈ l, Entry.ok x) : E 100045 [.sl 4 (l.map Entry.u)] = some (.sl 4 (l.map Entry.u)) := by
  have h1 := laws_toEntryS_F_l0_is h l hl hok l [] 0 (List.replicate l.length (.agg [.int .i64 0, .int .i64 0, .nsl 2, .nsl 2])) rfl rfl (by simp) (by simp)
  rw [laws_toEntryS_F_E h]
  simp only [lenOf_sl, Option.bind_some, List.length_map]
  rw [if_pos (by refine ⟨by omega, by omega, by omega, rfl⟩)]
  have hfl : ∀ n : Nat, U.flat.flats (List.replicate n (.agg [.int .i64 0, .int .i64 0, .nsl 2, .nsl 2])) = true := by
    intro n
    induction n with
    | zero => rfl
    | succ n ih => simp [List.replicate_succ, U.flat.flats, U.flat, ih]
  simpa [hfl] using h1

/-- How many ints lie in entries. -/
def entInts : List Entry → Int
  | [] => 0
  | x :: r => 2 + 2 * x.reads.length + 2 * x.writes.length + entInts r

theorem entInts_nonneg : ∀ l, 0 ≤ entInts l
  | [] => by simp [entInts]
  | x :: r => by have := entInts_nonneg r; simp only [entInts]; omega

theorem laws_markEntryS_M_l0_is (h : G_laws_markEntryS_M E) : ∀ (r : List Entry) (p : List U) (k i : Int), i = p.length → p.length + r.length ≤ 1048576 → (∀ x ∈ r, x.ok) → 0 ≤ k → k + entInts r ≤ 1073741824 →
    ∃ k' us, laws_markEntryS_M_l0 E (.int .i64 k) (.int .i64 i) (p ++ r.map Entry.u) = some (.tup [.int .i64 k', .sl 4 us]) ∧ 0 ≤ k'
  | [], p, k, i, hi, hb, hr, hk, hk2 => by
    refine ⟨k, p, ?_, hk⟩
    have h1 : ¬ i < (p.length : Int) := by omega
    rw [laws_markEntryS_M_l0_eq]
    simp [h1]
  | x :: r, p, k, i, hi, hb, hr, hk, hk2 => by
    simp only [List.length_cons, entInts] at hb hk2
    have hs := entInts_nonneg r
    have hx : x.ok := hr x (by simp)
    have hm1 := laws_markReadMarkS_M_is h.c_laws_markReadMarkS_M x.reads hx.1 (k + 2) (by omega) (by omega)
    have hm2 := laws_markWriteS_M_is h.c_laws_markWriteS_M x.writes hx.2 (k + 2 + 2 * x.reads.length) (by omega) (by omega)
    obtain ⟨k', us, h1, h2⟩ := laws_markEntryS_M_l0_is h r (p ++ [.agg [.int .i64 k, .int .i64 (k + 1), .sl 2 ((upReadMark (k + 2) x.reads.length).map ReadMark.u), .sl 2 ((upWrite (k + 2 + 2 * x.reads.length) x.writes.length).map Write.u)]]) (k + 2 + 2 * x.reads.length + 2 * x.writes.length) (i + 1) (by simp [hi]) (by simp; omega) (fun y hy => hr y (by simp [hy])) (by omega) (by omega)
    refine ⟨k', us, ?_, h2⟩
    have hn : i.toNat = p.length := by omega
    have hlt : ∀ z : U, i < ((p ++ z :: r.map Entry.u).length : Int) := fun z => by simp; omega
    have h0 : 0 ≤ i := by omega
    have hw : IntKind.i64.wrap (i + 1) = i + 1 := wrap_in (by omega)
    have hw1 : IntKind.i64.wrap (k + 1) = k + 1 := wrap_in (by omega)
    have hw2 : IntKind.i64.wrap (k + 1 + 1) = k + 2 := by rw [wrap_in (by omega)]; omega
    have hg : ∀ z : U, (p ++ z :: r.map Entry.u)[p.length]? = some z := fun z => by simp
    have hset : ∀ y z : U, (p ++ y :: r.map Entry.u).set p.length z = p ++ z :: r.map Entry.u := fun y z => by simp
    rw [laws_markEntryS_M_l0_eq]
    simp only [List.append_assoc, List.cons_append, List.nil_append] at h1
    simp only [List.map_cons, bin_lss, hlt, decide_true, Option.bind_some, asBool_bool, if_true, asInt_int, h0, and_self, hn, hg, hset, Entry.u_agg, asAgg_agg, List.take_zero, List.take_succ_cons, sizes_cons, sizes_nil, size_int, U.size, Nat.add_zero, Nat.zero_add, Nat.reduceAdd, List.getElem?_cons_zero, List.getElem?_cons_succ, List.set_cons_zero, List.set_cons_succ, storable_int, flat_int, bin_add, hw, hw1, hw2, U.asSlK, hm1, hm2, U.asMut, U.asFlat, U.flat, partable_int]
    exact h1
end Go.Proofs.Ytfdcdbkblkehcaa.Am
/-
  Writes that hold the ints from k on are found so.
-/
namespace Go.Proofs.Ytfdcdbkblkehcaa.Am
open Go
variable {E : Env}
set_option linter.unusedVariables false

theorem laws_heldWriteS_l0_is (h : G_laws_heldWriteS E) (l : List Write) (hl : l.length ≤ 1048576) : ∀ (n : Nat) (p : List Write) (k i : Int), l = p ++ upWrite k n → i = p.length → 0 ≤ k → k + 2 * n ≤ 1099511627776 →
    laws_heldWriteS_l0 E (.sl 2 (l.map Write.u)) (.int .i64 k) (.int .i64 i) = some (.int .i64 (k + 2 * n))
  | 0, p, k, i, e, hi, hk, hk2 => by
    rw [laws_heldWriteS_l0_eq]
    simp [mid_end e hi]
  | n + 1, p, k, i, e0, hi, hk, hk2 => by
    have e : l = p ++ (⟨k, k + 1⟩ : Write) :: upWrite (k + 2) n := e0
    obtain ⟨h0, hlt, hx, hw, hn, _⟩ := mid_at e hi (by omega)
    have hw0 : IntKind.i64.wrap (k + 1) = k + 1 := by rw [wrap_in (by omega)]
    have hw1 : IntKind.i64.wrap (k + 1 + 1) = k + 2 := by rw [wrap_in (by omega)]; omega
    have ih := laws_heldWriteS_l0_is h l hl n (p ++ [⟨k, k + 1⟩]) (k + 2) (i + 1) (mid_next e) hn (by omega) (by omega)
    have e2 : k + 2 + 2 * (n : Int) = k + 2 * ((n + 1 : Nat) : Int) := by omega
    rw [e2] at ih
    rw [laws_heldWriteS_l0_eq]
    simp only [lenOf_sl, List.length_map, Option.bind_some, bin_lss, hlt, decide_true, asBool_bool, if_true, asInt_int, hx, Write.u_at0, Write.u_at1, asVar_int, bin_neq, ne_eq, not_true_eq_false, decide_false, Bool.false_eq_true, if_false, bin_add, hw, hw0, hw1]
    exact ih

theorem laws_heldWriteS_is (h : G_laws_heldWriteS E) (n : Nat) (hn : n ≤ 1048576) (k : Int) (hk : 0 ≤ k) (hk2 : k ≤ 4194304) : E 235 [.sl 2 ((upWrite k n).map Write.u), .int .i64 k] = some (.int .i64 (k + 2 * n)) := by
  rw [laws_heldWriteS_E h]
  exact laws_heldWriteS_l0_is h _ (by rw [upWrite_length]; exact hn) n [] k 0 rfl rfl hk (by omega)
end Go.Proofs.Ytfdcdbkblkehcaa.Am
/-
  The laws' copies of transactions, fresh; marks in transactions.
-/
namespace Go.Proofs.Ytfdcdbkblkehcaa.Am
open Go
variable {E : Env}
set_option linter.unusedVariables false

theorem laws_toTransaction_F_is (h : G_laws_toTransaction_F E) (x : Transaction) (ho : x.ok) : E 100145 [x.u] = some x.u := by
  rw [laws_toTransaction_F_E h]
  have h1 := laws_toReadMarkS_F_is h.c_laws_toReadMarkS_F x.reads ho.1
  have h2 := laws_toWriteS_F_is h.c_laws_toWriteS_F x.writes ho.2
  have h3 : ∀ (k : Nat) (us : List U) (K : U → Option U), U.noTup (.sl k us) K = K (.sl k us) := fun _ _ _ => rfl
  have h4 : ∀ (n : Int) (K : U → Option U), U.noTup (.int .i64 n) K = K (.int .i64 n) := fun _ _ => rfl
  simp [h1, h2, U.asSlK, h3, h4, D.size, dsizes, D.size.dsizes]
  rfl

/-- The transaction x, but with marks from k on. -/
def Transaction.marked (x : Transaction) (k : Int) : Transaction := { x with reads := upReadMark k x.reads.length, writes := upWrite (k + 2 * x.reads.length) x.writes.length }

theorem laws_heldTransaction_is (h : G_laws_heldTransaction E) (x : Transaction) (ho : x.ok) : E 205 [(x.marked 1).u, .int .i64 1] = some (.int .i64 (1 + 2 * x.reads.length + 2 * x.writes.length)) := by
  rw [laws_heldTransaction_E h]
  obtain ⟨h1, h2⟩ := ho
  have a1 := laws_heldReadMarkS_is h.c_laws_heldReadMarkS x.reads.length h1 1 (by omega) (by omega)
  have a2 := laws_heldWriteS_is h.c_laws_heldWriteS x.writes.length h2 (1 + 2 * x.reads.length) (by omega) (by omega)
  have n1 : ¬ 1 + 2 * (x.reads.length : Int) < 0 := by omega
  have n2 : ¬ 1 + 2 * (x.reads.length : Int) + 2 * (x.writes.length : Int) < 0 := by omega
  simp [Transaction.marked, a1, a2, n1, n2]
end Go.Proofs.Ytfdcdbkblkehcaa.Am
/-
  Data of a struct's make ('Fits') are such a struct, as plain data.
-/
namespace Go.Proofs.Ytfdcdbkblkehcaa.Am
open Go

abbrev shI : Sh := .int .i64
theorem fits_int {u : U} (h : Fits shI u) : ∃ n, u = .int .i64 n ∧ -9223372036854775808 ≤ n ∧ n ≤ 9223372036854775807 := by
  cases u <;> first | exact h.elim | skip
  rename_i k n
  obtain ⟨rfl, h1, h2⟩ := h
  exact ⟨n, rfl, h1, h2⟩
theorem fits_bool {u : U} (h : Fits .bool u) : ∃ b, u = .bool b := by
  cases u <;> first | exact h.elim | exact ⟨_, rfl⟩
theorem fits_str {u : U} (h : Fits .str u) : ∃ s, u = .str s ∧ s.size ≤ maxLen := by
  cases u <;> first | exact h.elim | exact ⟨_, rfl, h⟩
theorem fits_agg {ss : List Sh} {u : U} (h : Fits (.agg ss) u) : ∃ us, u = .agg us ∧ Fits.fits ss us := by
  cases u <;> first | exact h.elim | exact ⟨_, rfl, h⟩
theorem fits_cons {s : Sh} {ss : List Sh} {us : List U} (h : Fits.fits (s :: ss) us) : ∃ u us', us = u :: us' ∧ Fits s u ∧ Fits.fits ss us' := by
  cases us with
  | nil => exact h.elim
  | cons u us => exact ⟨u, us, rfl, h.1, h.2⟩
theorem fits_nil {us : List U} (h : Fits.fits [] us) : us = [] := by
  cases us with
  | nil => rfl
  | cons u us => exact h.elim
theorem fits_map {α : Type} {s : Sh} {f : α → U} {Q : α → Prop} (hs : ∀ u, Fits s u → ∃ x, u = f x ∧ Q x) : ∀ us : List U, (∀ u ∈ us, Fits s u) → ∃ l : List α, us = l.map f ∧ ∀ x ∈ l, Q x
  | [], _ => ⟨[], rfl, by simp⟩
  | u :: us, h => by
    obtain ⟨x, rfl, hx⟩ := hs u (h u (by simp))
    obtain ⟨l, rfl, hl⟩ := fits_map hs us (fun v hv => h v (by simp [hv]))
    exact ⟨x :: l, rfl, by simpa using ⟨hx, hl⟩⟩
theorem fits_sl {α : Type} {k : Nat} {s : Sh} {f : α → U} {Q : α → Prop} (hs : ∀ u, Fits s u → ∃ x, u = f x ∧ Q x) {u : U} (h : Fits (.sl k s) u) : ∃ l : List α, u = .sl k (l.map f) ∧ l.length ≤ maxLen ∧ ∀ x ∈ l, Q x := by
  cases u <;> first | exact h.elim | skip
  obtain ⟨rfl, h1, h2⟩ := h
  obtain ⟨l, rfl, hl⟩ := fits_map hs _ h2
  exact ⟨l, rfl, by simpa using h1, hl⟩
theorem fits_ints {u : U} (h : Fits (.sl 1 shI) u) : ∃ l : List Int, u = .sl 1 (l.map intU) ∧ l.length ≤ maxLen := by
  obtain ⟨l, h1, h2, _⟩ := fits_sl (f := intU) (Q := fun _ => True) (fun u h => by obtain ⟨n, hn, _⟩ := fits_int h; exact ⟨n, hn, trivial⟩) h
  exact ⟨l, h1, h2⟩

abbrev shEdge : Sh := .agg [shI, shI, shI, shI]
theorem fits_Edge (u : U) (h : Fits shEdge u) : ∃ x : Edge, u = x.u ∧ True := by
  obtain ⟨us0, rfl, hs0⟩ := fits_agg h
  obtain ⟨u0, us1, rfl, h0, hs1⟩ := fits_cons hs0
  obtain ⟨a0, rfl, _⟩ := fits_int h0
  obtain ⟨u1, us2, rfl, h1, hs2⟩ := fits_cons hs1
  obtain ⟨a1, rfl, _⟩ := fits_int h1
  obtain ⟨u2, us3, rfl, h2, hs3⟩ := fits_cons hs2
  obtain ⟨a2, rfl, _⟩ := fits_int h2
  obtain ⟨u3, us4, rfl, h3, hs4⟩ := fits_cons hs3
  obtain ⟨a3, rfl, _⟩ := fits_int h3
  obtain rfl := fits_nil hs4
  exact ⟨⟨a0, a1, a2, a3⟩, rfl, trivial⟩

abbrev shReadMark : Sh := .agg [shI, shI]
theorem fits_ReadMark (u : U) (h : Fits shReadMark u) : ∃ x : ReadMark, u = x.u ∧ True := by
  obtain ⟨us0, rfl, hs0⟩ := fits_agg h
  obtain ⟨u0, us1, rfl, h0, hs1⟩ := fits_cons hs0
  obtain ⟨a0, rfl, _⟩ := fits_int h0
  obtain ⟨u1, us2, rfl, h1, hs2⟩ := fits_cons hs1
  obtain ⟨a1, rfl, _⟩ := fits_int h1
  obtain rfl := fits_nil hs2
  exact ⟨⟨a0, a1⟩, rfl, trivial⟩

abbrev shWrite : Sh := .agg [shI, shI]
theorem fits_Write (u : U) (h : Fits shWrite u) : ∃ x : Write, u = x.u ∧ True := by
  obtain ⟨us0, rfl, hs0⟩ := fits_agg h
  obtain ⟨u0, us1, rfl, h0, hs1⟩ := fits_cons hs0
  obtain ⟨a0, rfl, _⟩ := fits_int h0
  obtain ⟨u1, us2, rfl, h1, hs2⟩ := fits_cons hs1
  obtain ⟨a1, rfl, _⟩ := fits_int h1
  obtain rfl := fits_nil hs2
  exact ⟨⟨a0, a1⟩, rfl, trivial⟩

abbrev shLock : Sh := .agg [shI, shI]
theorem fits_Lock (u : U) (h : Fits shLock u) : ∃ x : Lock, u = x.u ∧ True := by
  obtain ⟨us0, rfl, hs0⟩ := fits_agg h
  obtain ⟨u0, us1, rfl, h0, hs1⟩ := fits_cons hs0
  obtain ⟨a0, rfl, _⟩ := fits_int h0
  obtain ⟨u1, us2, rfl, h1, hs2⟩ := fits_cons hs1
  obtain ⟨a1, rfl, _⟩ := fits_int h1
  obtain rfl := fits_nil hs2
  exact ⟨⟨a0, a1⟩, rfl, trivial⟩

abbrev shWait : Sh := .agg [shI, shI]
theorem fits_Wait (u : U) (h : Fits shWait u) : ∃ x : Wait, u = x.u ∧ True := by
  obtain ⟨us0, rfl, hs0⟩ := fits_agg h
  obtain ⟨u0, us1, rfl, h0, hs1⟩ := fits_cons hs0
  obtain ⟨a0, rfl, _⟩ := fits_int h0
  obtain ⟨u1, us2, rfl, h1, hs2⟩ := fits_cons hs1
  obtain ⟨a1, rfl, _⟩ := fits_int h1
  obtain rfl := fits_nil hs2
  exact ⟨⟨a0, a1⟩, rfl, trivial⟩

abbrev shVersion : Sh := .agg [shI, shI, shI, shI, shI]
theorem fits_Version (u : U) (h : Fits shVersion u) : ∃ x : Version, u = x.u ∧ True := by
  obtain ⟨us0, rfl, hs0⟩ := fits_agg h
  obtain ⟨u0, us1, rfl, h0, hs1⟩ := fits_cons hs0
  obtain ⟨a0, rfl, _⟩ := fits_int h0
  obtain ⟨u1, us2, rfl, h1, hs2⟩ := fits_cons hs1
  obtain ⟨a1, rfl, _⟩ := fits_int h1
  obtain ⟨u2, us3, rfl, h2, hs3⟩ := fits_cons hs2
  obtain ⟨a2, rfl, _⟩ := fits_int h2
  obtain ⟨u3, us4, rfl, h3, hs4⟩ := fits_cons hs3
  obtain ⟨a3, rfl, _⟩ := fits_int h3
  obtain ⟨u4, us5, rfl, h4, hs5⟩ := fits_cons hs4
  obtain ⟨a4, rfl, _⟩ := fits_int h4
  obtain rfl := fits_nil hs5
  exact ⟨⟨a0, a1, a2, a3, a4⟩, rfl, trivial⟩

abbrev shEntry : Sh := .agg [shI, shI, .sl 2 shReadMark, .sl 2 shWrite]
theorem fits_Entry (u : U) (h : Fits shEntry u) : ∃ x : Entry, u = x.u ∧ x.fit := by
  obtain ⟨us0, rfl, hs0⟩ := fits_agg h
  obtain ⟨u0, us1, rfl, h0, hs1⟩ := fits_cons hs0
  obtain ⟨a0, rfl, _⟩ := fits_int h0
  obtain ⟨u1, us2, rfl, h1, hs2⟩ := fits_cons hs1
  obtain ⟨a1, rfl, _⟩ := fits_int h1
  obtain ⟨u2, us3, rfl, h2, hs3⟩ := fits_cons hs2
  obtain ⟨a2, rfl, l2, _⟩ := fits_sl fits_ReadMark h2
  obtain ⟨u3, us4, rfl, h3, hs4⟩ := fits_cons hs3
  obtain ⟨a3, rfl, l3, _⟩ := fits_sl fits_Write h3
  obtain rfl := fits_nil hs4
  exact ⟨⟨a0, a1, a2, a3⟩, rfl, ⟨l2, l3⟩⟩

abbrev shLogRecord : Sh := .agg [shI, shI, shI, shI, .sl 2 shReadMark, .sl 2 shWrite]
theorem fits_LogRecord (u : U) (h : Fits shLogRecord u) : ∃ x : LogRecord, u = x.u ∧ x.fit := by
  obtain ⟨us0, rfl, hs0⟩ := fits_agg h
  obtain ⟨u0, us1, rfl, h0, hs1⟩ := fits_cons hs0
  obtain ⟨a0, rfl, _⟩ := fits_int h0
  obtain ⟨u1, us2, rfl, h1, hs2⟩ := fits_cons hs1
  obtain ⟨a1, rfl, _⟩ := fits_int h1
  obtain ⟨u2, us3, rfl, h2, hs3⟩ := fits_cons hs2
  obtain ⟨a2, rfl, _⟩ := fits_int h2
  obtain ⟨u3, us4, rfl, h3, hs4⟩ := fits_cons hs3
  obtain ⟨a3, rfl, _⟩ := fits_int h3
  obtain ⟨u4, us5, rfl, h4, hs5⟩ := fits_cons hs4
  obtain ⟨a4, rfl, l4, _⟩ := fits_sl fits_ReadMark h4
  obtain ⟨u5, us6, rfl, h5, hs6⟩ := fits_cons hs5
  obtain ⟨a5, rfl, l5, _⟩ := fits_sl fits_Write h5
  obtain rfl := fits_nil hs6
  exact ⟨⟨a0, a1, a2, a3, a4, a5⟩, rfl, ⟨l4, l5⟩⟩

abbrev shTransaction : Sh := .agg [shI, shI, shI, shI, shI, shI, shI, .sl 2 shReadMark, .sl 2 shWrite]
theorem fits_Transaction (u : U) (h : Fits shTransaction u) : ∃ x : Transaction, u = x.u ∧ x.fit := by
  obtain ⟨us0, rfl, hs0⟩ := fits_agg h
  obtain ⟨u0, us1, rfl, h0, hs1⟩ := fits_cons hs0
  obtain ⟨a0, rfl, _⟩ := fits_int h0
  obtain ⟨u1, us2, rfl, h1, hs2⟩ := fits_cons hs1
  obtain ⟨a1, rfl, _⟩ := fits_int h1
  obtain ⟨u2, us3, rfl, h2, hs3⟩ := fits_cons hs2
  obtain ⟨a2, rfl, _⟩ := fits_int h2
  obtain ⟨u3, us4, rfl, h3, hs4⟩ := fits_cons hs3
  obtain ⟨a3, rfl, _⟩ := fits_int h3
  obtain ⟨u4, us5, rfl, h4, hs5⟩ := fits_cons hs4
  obtain ⟨a4, rfl, _⟩ := fits_int h4
  obtain ⟨u5, us6, rfl, h5, hs6⟩ := fits_cons hs5
  obtain ⟨a5, rfl, _⟩ := fits_int h5
  obtain ⟨u6, us7, rfl, h6, hs7⟩ := fits_cons hs6
  obtain ⟨a6, rfl, _⟩ := fits_int h6
  obtain ⟨u7, us8, rfl, h7, hs8⟩ := fits_cons hs7
  obtain ⟨a7, rfl, l7, _⟩ := fits_sl fits_ReadMark h7
  obtain ⟨u8, us9, rfl, h8, hs9⟩ := fits_cons hs8
  obtain ⟨a8, rfl, l8, _⟩ := fits_sl fits_Write h8
  obtain rfl := fits_nil hs9
  exact ⟨⟨a0, a1, a2, a3, a4, a5, a6, a7, a8⟩, rfl, ⟨l7, l8⟩⟩

abbrev shStore : Sh := .agg [.sl 1 (.sl 5 shVersion)]
theorem fits_chain (u : U) (h : Fits (.sl 5 shVersion) u) : ∃ l : List Version, u = chainU l ∧ chainFit l := by
  obtain ⟨l, h1, h2, _⟩ := fits_sl fits_Version h
  exact ⟨l, h1, h2⟩
theorem fits_Store (u : U) (h : Fits shStore u) : ∃ s : Store, u = s.u ∧ s.fit := by
  obtain ⟨us0, rfl, hs0⟩ := fits_agg h
  obtain ⟨u0, us1, rfl, h0, hs1⟩ := fits_cons hs0
  obtain ⟨l, rfl, h1, h2⟩ := fits_sl fits_chain h0
  obtain rfl := fits_nil hs1
  exact ⟨⟨l⟩, rfl, h1, h2⟩
abbrev shEngine : Sh := .agg [.bool, shStore, .sl 9 shTransaction, .sl 2 shLock, .sl 2 shWait, shI]
theorem fits_Engine (u : U) (h : Fits shEngine u) : ∃ e : Engine, u = e.u ∧ e.fit := by
  obtain ⟨us0, rfl, hs0⟩ := fits_agg h
  obtain ⟨u0, us1, rfl, h0, hs1⟩ := fits_cons hs0
  obtain ⟨b, rfl⟩ := fits_bool h0
  obtain ⟨u1, us2, rfl, h1, hs2⟩ := fits_cons hs1
  obtain ⟨s, rfl, f1⟩ := fits_Store _ h1
  obtain ⟨u2, us3, rfl, h2, hs3⟩ := fits_cons hs2
  obtain ⟨ts, rfl, f2, f3⟩ := fits_sl fits_Transaction h2
  obtain ⟨u3, us4, rfl, h3, hs4⟩ := fits_cons hs3
  obtain ⟨ls, rfl, f4, _⟩ := fits_sl fits_Lock h3
  obtain ⟨u4, us5, rfl, h4, hs5⟩ := fits_cons hs4
  obtain ⟨ws, rfl, f5, _⟩ := fits_sl fits_Wait h4
  obtain ⟨u5, us6, rfl, h5, hs6⟩ := fits_cons hs5
  obtain ⟨n, rfl, _⟩ := fits_int h5
  obtain rfl := fits_nil hs6
  exact ⟨⟨b, s, ts, ls, ws, n⟩, rfl, f1, f2, f3, f4, f5⟩

end Go.Proofs.Ytfdcdbkblkehcaa.Am
/-
  The law FnExactAbortTransaction returns true.
-/
namespace Go.Proofs.Ytfdcdbkblkehcaa.Am
open Go
variable {E : Env}

/-- A transaction's data, spelt out. -/
def tx9 (a1 a2 a3 a4 a5 a6 a7 : Int) (R W : List U) : U := .agg [.int .i64 a1, .int .i64 a2, .int .i64 a3, .int .i64 a4, .int .i64 a5, .int .i64 a6, .int .i64 a7, .sl 2 R, .sl 2 W]

theorem abort_core (h : G_laws_FnExactAbortTransaction E) {a1 a2 a3 a4 a5 a6 a7 y1 y2 y3 y4 y5 y6 y7 : Int} {R W R2 W2 : List U} {b : Bool} {n c1 c2 : Int} (n3 : ¬ n < 0) (n4 : ¬ c2 < 0)
    (s1 : E 132 [tx9 a1 a2 a3 a4 a5 a6 a7 R W, .int .i64 1048576] = some (.int .i64 n))
    (ht : E 145 [tx9 a1 a2 a3 a4 a5 a6 a7 R W] = some (tx9 a1 a2 a3 a4 a5 a6 a7 R W))
    (hF : E 100145 [tx9 a1 a2 a3 a4 a5 a6 a7 R W] = some (tx9 a1 a2 a3 a4 a5 a6 a7 R W))
    (hsp : E 329 [tx9 a1 a2 a3 a4 a5 a6 a7 R W] = some (.tup [tx9 y1 y2 y3 y4 y5 y6 y7 R W, .bool b]))
    (him : E 328 [tx9 a1 a2 a3 a4 a5 a6 a7 R W] = some (.tup [tx9 y1 y2 y3 y4 y5 y6 y7 R W, .bool b]))
    (hif : E 100328 [tx9 a1 a2 a3 a4 a5 a6 a7 R W] = some (.tup [tx9 y1 y2 y3 y4 y5 y6 y7 R W, .bool b]))
    (he1 : E 177 [tx9 a1 a2 a3 a4 a5 a6 a7 R W, tx9 a1 a2 a3 a4 a5 a6 a7 R W] = some (.bool true))
    (he2 : E 177 [tx9 y1 y2 y3 y4 y5 y6 y7 R W, tx9 y1 y2 y3 y4 y5 y6 y7 R W] = some (.bool true))
    (m1 : E 200095 [.agg [.tup [.sl 2 R]], .int .i64 1] = some (.tup [.int .i64 c1, .sl 2 R2]))
    (m2 : E 200232 [.agg [.tup [.sl 2 W]], .int .i64 c1] = some (.tup [.int .i64 c2, .sl 2 W2]))
    (hh : E 205 [tx9 y1 y2 y3 y4 y5 y6 y7 R2 W2, .int .i64 1] = some (.int .i64 c2)) : E 327 [tx9 a1 a2 a3 a4 a5 a6 a7 R W] = some (.bool true) := by
  rw [laws_FnExactAbortTransaction_E h]
  have nt : ∀ (a1 a2 a3 a4 a5 a6 a7 : Int) (R W : List U) (K : U → Option U), U.noTup (tx9 a1 a2 a3 a4 a5 a6 a7 R W) K = K (tx9 a1 a2 a3 a4 a5 a6 a7 R W) := fun _ _ _ _ _ _ _ _ _ _ => rfl
  have av : ∀ (a1 a2 a3 a4 a5 a6 a7 : Int) (R W : List U) (K : U → Option U), U.asVar true 9 (tx9 a1 a2 a3 a4 a5 a6 a7 R W) K = K (tx9 a1 a2 a3 a4 a5 a6 a7 R W) := fun _ _ _ _ _ _ _ _ _ _ => rfl
  have ag : ∀ (a1 a2 a3 a4 a5 a6 a7 : Int) (R W : List U) (K : List U → Option U), U.asAgg (tx9 a1 a2 a3 a4 a5 a6 a7 R W) K = K [.int .i64 a1, .int .i64 a2, .int .i64 a3, .int .i64 a4, .int .i64 a5, .int .i64 a6, .int .i64 a7, .sl 2 R, .sl 2 W] := fun _ _ _ _ _ _ _ _ _ _ => rfl
  have st : ∀ (a1 a2 a3 a4 a5 a6 a7 : Int) (R W : List U), (storable (.val (tx9 a1 a2 a3 a4 a5 a6 a7 R W)) = true ∧ (tx9 a1 a2 a3 a4 a5 a6 a7 R W).size = 9) = True := fun _ _ _ _ _ _ _ _ _ => eq_true ⟨rfl, rfl⟩
  have fold : ∀ (a1 a2 a3 a4 a5 a6 a7 : Int) (R W : List U), U.agg [.int .i64 a1, .int .i64 a2, .int .i64 a3, .int .i64 a4, .int .i64 a5, .int .i64 a6, .int .i64 a7, .sl 2 R, .sl 2 W] = tx9 a1 a2 a3 a4 a5 a6 a7 R W := fun _ _ _ _ _ _ _ _ _ => rfl
  have sk : ∀ (us : List U) (K : List U → Option U), U.asSlK 2 (.sl 2 us) K = K us := fun _ _ => rfl
  have fl : ∀ (b : Bool) (K : U → Option U), U.asFlat (.bool b) K = K (.bool b) := fun _ _ => rfl
  have fi : ∀ (n : Int) (K : U → Option U), U.asFlat (.int .i64 n) K = K (.int .i64 n) := fun _ _ => rfl
  have mu : ∀ (y : U) (ys : List U) (K : U → List U → Option U), U.asMut 2 (.tup [y, .sl 2 ys]) K = K y ys := fun _ _ _ => rfl
  have ab : ∀ (b : Bool) (K : Bool → Option U), U.asB (.bool b) K = K b := fun _ _ => rfl
  have at2 : ∀ (us : List U) (K : List U → Option U), U.asTup (.tup us) K = K us := fun _ _ => rfl
  have pa : ∀ n : Int, partable (.val (.int .i64 n)) = true := fun _ => rfl
  have eb : ∀ b : Bool, U.eqv 0 (.bool b) (.bool b) = some true := fun b => by cases b <;> rfl
  rw [nt, av, s1, Option.bind_some, bin_lss, Option.bind_some, asBool_bool, if_neg (by simpa using n3), av, ht, Option.bind_some, hsp, Option.bind_some, part_tup, List.getElem?_cons_zero, Option.bind_some, part_tup, List.getElem?_cons_succ, List.getElem?_cons_zero, Option.bind_some, if_pos ⟨rfl, rfl⟩, av, hF, Option.bind_some, nt, ag]
  show (E 100328 [tx9 a1 a2 a3 a4 a5 a6 a7 R W]).bind _ = _
  rw [hif, Option.bind_some, at2]
  show (E 177 [tx9 y1 y2 y3 y4 y5 y6 y7 R W, tx9 y1 y2 y3 y4 y5 y6 y7 R W]).bind _ = _
  rw [he2, Option.bind_some, fl, un_not, Option.bind_some, asBool_bool, if_neg (by simp), eb, Option.bind_some, asBool_bool, if_neg (by simp), av, ht, Option.bind_some]
  show (E 177 [tx9 a1 a2 a3 a4 a5 a6 a7 R W, tx9 a1 a2 a3 a4 a5 a6 a7 R W]).bind _ = _
  rw [he1, Option.bind_some, fl, un_not, Option.bind_some, asBool_bool, if_neg (by simp), m1, Option.bind_some, mu, fi, m2, Option.bind_some, mu, fi, if_pos (pa _), bin_lss, Option.bind_some, asBool_bool, if_neg (by simpa using n4), av]
  show (E 177 [tx9 y1 y2 y3 y4 y5 y6 y7 R W, tx9 y1 y2 y3 y4 y5 y6 y7 R W]).bind _ = _
  rw [he2, Option.bind_some, fl, un_not, Option.bind_some, asBool_bool, if_neg (by simp), Option.bind_some, asBool_bool, if_neg (by simp), Option.bind_some, mu, fi, m2, Option.bind_some, mu, fi, if_pos (pa _)]
  show (E 205 [tx9 y1 y2 y3 y4 y5 y6 y7 R2 W2, _]).bind _ = _
  rw [hh, Option.bind_some, fi, bin_lss, Option.bind_some, asBool_bool, if_neg (by simpa using n4), bin_neq, Option.bind_some, asBool_bool, if_neg (by simp), av, ht, Option.bind_some, him, Option.bind_some, part_tup, List.getElem?_cons_zero, Option.bind_some, part_tup, List.getElem?_cons_succ, List.getElem?_cons_zero, Option.bind_some, if_pos ⟨rfl, rfl⟩, av, av, he2, Option.bind_some, un_not, Option.bind_some, asBool_bool, if_neg (by simp), eb, Option.bind_some, asBool_bool, if_neg (by simp)]
  show (E 205 [tx9 y1 y2 y3 y4 y5 y6 y7 R2 W2, _]).bind _ = _
  rw [hh, Option.bind_some, fi, bin_lss, Option.bind_some, asBool_bool, if_neg (by simpa using n4), bin_neq, Option.bind_some, asBool_bool, if_neg (by simp)]

theorem law_AbortTransaction (h : G_laws_FnExactAbortTransaction E) (us : List U) (hus : Fits.fits [shTransaction] us) : E 327 us = some (.bool true) := by
  obtain ⟨u0, us1, rfl, h0, hus1⟩ := fits_cons hus
  obtain rfl := fits_nil hus1
  obtain ⟨x, rfl, hf⟩ := fits_Transaction _ h0
  have s1 := laws_szTransaction_is h.c_laws_szTransaction x hf 1048576 (by omega) (by omega)
  rcases Transaction.sz_szs x 1048576 (by omega) (by omega) with n1 | ⟨ok, n1, n2⟩
  · rw [laws_FnExactAbortTransaction_E h]
    rw [show ∀ K : U → Option U, U.noTup x.u K = K x.u from fun _ => rfl, Transaction.u_var, s1, Option.bind_some, bin_lss, Option.bind_some, asBool_bool, if_pos (by simpa using n1)]
  have n3 : ¬ x.sz 1048576 < 0 := by omega
  have ok' := abort_ok ok
  obtain ⟨er, ew⟩ := abort_reads x
  have ht := laws_toTransaction_is h.c_laws_toTransaction x ok
  have hF := laws_toTransaction_F_is h.c_laws_toTransaction_F x ok
  have hsp := spec_AbortTransaction_is h.c_spec_AbortTransaction x ok
  have him := impl_AbortTransaction_is h.c_impl_AbortTransaction x ok
  have hif := impl_AbortTransaction_F_is h.c_impl_AbortTransaction_F x ok
  have he1 := laws_eqTransaction_is h.c_laws_eqTransaction x x ok ok
  have he2 := laws_eqTransaction_is h.c_laws_eqTransaction x.abort.1 x.abort.1 ok' ok'
  have m1 := laws_markReadMarkS_M_is h.c_laws_markReadMarkS_M x.reads ok.1 1 (by omega) (by omega)
  have m2 := laws_markWriteS_M_is h.c_laws_markWriteS_M x.writes ok.2 (1 + 2 * x.reads.length) (by have := ok.1; omega) (by have := ok.1; omega)
  have hh := laws_heldTransaction_is h.c_laws_heldTransaction x.abort.1 ok'
  have n4 : ¬ (1 + 2 * (x.reads.length : Int) + 2 * (x.writes.length : Int)) < 0 := by omega
  rw [decide_eq_true rfl] at he1 he2
  generalize x.abort = y at *
  obtain ⟨y, b⟩ := y
  obtain ⟨y1, y2, y3, y4, y5, y6, y7, y8, y9⟩ := y
  simp only at er ew
  subst er; subst ew
  exact abort_core h n3 n4 s1 ht hF hsp him hif he1 he2 m1 m2 hh
end Go.Proofs.Ytfdcdbkblkehcaa.Am
