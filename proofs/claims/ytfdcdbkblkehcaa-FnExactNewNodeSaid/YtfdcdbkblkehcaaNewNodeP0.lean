import Derived.Test.YtfdcdbkblkehcaaAmX
import Derived.Test.YtfdcdbkblkehcaaNewNodeF0
import Derived.Test.YtfdcdbkblkehcaaAmY
namespace Go.Proofs.Ytfdcdbkblkehcaa.Am
open Go
variable {α : Type}
def intU (n : Int) : U := .int .i64 n
@[simp] theorem intU_size (n : Int) : (intU n).size = 1 := rfl
@[simp] theorem asVar_intU (n : Int) (K : U → Option α) : U.asVar false 1 (intU n) K = K (.int .i64 n) := rfl
@[simp] theorem storable_intU (n : Int) : storable (.val (intU n)) = true := rfl
@[simp] theorem partable_intU (n : Int) : partable (.val (intU n)) = true := rfl
structure Edge where
  frm : Int
  to : Int
  kind : Int
  key : Int
  deriving DecidableEq
theorem Edge.eq_iff (x y : Edge) : x = y ↔ x.frm = y.frm ∧ x.to = y.to ∧ x.kind = y.kind ∧ x.key = y.key := by cases x; cases y; simp only [Edge.mk.injEq]
def Edge.u (e : Edge) : U := .agg [.int .i64 e.frm, .int .i64 e.to, .int .i64 e.kind, .int .i64 e.key]
@[simp] theorem Edge.u_size (e : Edge) : e.u.size = 4 := rfl
@[simp] theorem Edge.u_var (e : Edge) (K : U → Option α) : U.asVar true 4 e.u K = K e.u := rfl
@[simp] theorem Edge.u_storable (e : Edge) : storable (.val e.u) = true := rfl
@[simp] theorem Edge.u_partable (e : Edge) : partable (.val e.u) = true := rfl
@[simp] theorem Edge.u_noTup (e : Edge) (K : U → Option α) : U.noTup e.u K = K e.u := rfl
@[simp] theorem Edge.u_agg (e : Edge) (K : List U → Option α) : U.asAgg e.u K = K [.int .i64 e.frm, .int .i64 e.to, .int .i64 e.kind, .int .i64 e.key] := rfl
@[simp] theorem Edge.u_at0 (e : Edge) (K : U → Option α) : U.fieldAt 0 0 e.u K = K (.int .i64 e.frm) := rfl
@[simp] theorem Edge.u_at1 (e : Edge) (K : U → Option α) : U.fieldAt 1 1 e.u K = K (.int .i64 e.to) := rfl
@[simp] theorem Edge.u_at2 (e : Edge) (K : U → Option α) : U.fieldAt 2 2 e.u K = K (.int .i64 e.kind) := rfl
@[simp] theorem Edge.u_at3 (e : Edge) (K : U → Option α) : U.fieldAt 3 3 e.u K = K (.int .i64 e.key) := rfl
@[simp] theorem Edge.u_flat (e : Edge) : e.u.flat = true := rfl
@[simp] theorem Edge.u_asFlat (e : Edge) (K : U → Option α) : U.asFlat e.u K = K e.u := rfl
@[simp] theorem Edge.u_eqv (x y : Edge) : U.eqv 6 x.u y.u = some (decide (x = y)) := by
  obtain ⟨a0, a1, a2, a3⟩ := x
  obtain ⟨b0, b1, b2, b3⟩ := y
  simp only [Edge.mk.injEq]
  show (if 4 = 4 then eqInts _ _ else none) = _
  simp only [if_true, eqInts_cons, eqInts_nil, Option.map_some, Bool.decide_and, Bool.and_true]
  rfl
structure ReadMark where
  key : Int
  created : Int
  deriving DecidableEq
theorem ReadMark.eq_iff (x y : ReadMark) : x = y ↔ x.key = y.key ∧ x.created = y.created := by cases x; cases y; simp only [ReadMark.mk.injEq]
def ReadMark.u (e : ReadMark) : U := .agg [.int .i64 e.key, .int .i64 e.created]
@[simp] theorem ReadMark.u_size (e : ReadMark) : e.u.size = 2 := rfl
@[simp] theorem ReadMark.u_var (e : ReadMark) (K : U → Option α) : U.asVar true 2 e.u K = K e.u := rfl
@[simp] theorem ReadMark.u_storable (e : ReadMark) : storable (.val e.u) = true := rfl
@[simp] theorem ReadMark.u_partable (e : ReadMark) : partable (.val e.u) = true := rfl
@[simp] theorem ReadMark.u_noTup (e : ReadMark) (K : U → Option α) : U.noTup e.u K = K e.u := rfl
@[simp] theorem ReadMark.u_agg (e : ReadMark) (K : List U → Option α) : U.asAgg e.u K = K [.int .i64 e.key, .int .i64 e.created] := rfl
@[simp] theorem ReadMark.u_at0 (e : ReadMark) (K : U → Option α) : U.fieldAt 0 0 e.u K = K (.int .i64 e.key) := rfl
@[simp] theorem ReadMark.u_at1 (e : ReadMark) (K : U → Option α) : U.fieldAt 1 1 e.u K = K (.int .i64 e.created) := rfl
@[simp] theorem ReadMark.u_flat (e : ReadMark) : e.u.flat = true := rfl
@[simp] theorem ReadMark.u_asFlat (e : ReadMark) (K : U → Option α) : U.asFlat e.u K = K e.u := rfl
@[simp] theorem ReadMark.u_eqv (x y : ReadMark) : U.eqv 4 x.u y.u = some (decide (x = y)) := by
  obtain ⟨a0, a1⟩ := x
  obtain ⟨b0, b1⟩ := y
  simp only [ReadMark.mk.injEq]
  show (if 2 = 2 then eqInts _ _ else none) = _
  simp only [if_true, eqInts_cons, eqInts_nil, Option.map_some, Bool.decide_and, Bool.and_true]
  rfl
structure Write where
  key : Int
  value : Int
  deriving DecidableEq
theorem Write.eq_iff (x y : Write) : x = y ↔ x.key = y.key ∧ x.value = y.value := by cases x; cases y; simp only [Write.mk.injEq]
def Write.u (e : Write) : U := .agg [.int .i64 e.key, .int .i64 e.value]
@[simp] theorem Write.u_size (e : Write) : e.u.size = 2 := rfl
@[simp] theorem Write.u_var (e : Write) (K : U → Option α) : U.asVar true 2 e.u K = K e.u := rfl
@[simp] theorem Write.u_storable (e : Write) : storable (.val e.u) = true := rfl
@[simp] theorem Write.u_partable (e : Write) : partable (.val e.u) = true := rfl
@[simp] theorem Write.u_noTup (e : Write) (K : U → Option α) : U.noTup e.u K = K e.u := rfl
@[simp] theorem Write.u_agg (e : Write) (K : List U → Option α) : U.asAgg e.u K = K [.int .i64 e.key, .int .i64 e.value] := rfl
@[simp] theorem Write.u_at0 (e : Write) (K : U → Option α) : U.fieldAt 0 0 e.u K = K (.int .i64 e.key) := rfl
@[simp] theorem Write.u_at1 (e : Write) (K : U → Option α) : U.fieldAt 1 1 e.u K = K (.int .i64 e.value) := rfl
@[simp] theorem Write.u_flat (e : Write) : e.u.flat = true := rfl
@[simp] theorem Write.u_asFlat (e : Write) (K : U → Option α) : U.asFlat e.u K = K e.u := rfl
@[simp] theorem Write.u_eqv (x y : Write) : U.eqv 4 x.u y.u = some (decide (x = y)) := by
  obtain ⟨a0, a1⟩ := x
  obtain ⟨b0, b1⟩ := y
  simp only [Write.mk.injEq]
  show (if 2 = 2 then eqInts _ _ else none) = _
  simp only [if_true, eqInts_cons, eqInts_nil, Option.map_some, Bool.decide_and, Bool.and_true]
  rfl
structure Lock where
  key : Int
  owner : Int
  deriving DecidableEq
theorem Lock.eq_iff (x y : Lock) : x = y ↔ x.key = y.key ∧ x.owner = y.owner := by cases x; cases y; simp only [Lock.mk.injEq]
def Lock.u (e : Lock) : U := .agg [.int .i64 e.key, .int .i64 e.owner]
@[simp] theorem Lock.u_size (e : Lock) : e.u.size = 2 := rfl
@[simp] theorem Lock.u_var (e : Lock) (K : U → Option α) : U.asVar true 2 e.u K = K e.u := rfl
@[simp] theorem Lock.u_storable (e : Lock) : storable (.val e.u) = true := rfl
@[simp] theorem Lock.u_partable (e : Lock) : partable (.val e.u) = true := rfl
@[simp] theorem Lock.u_noTup (e : Lock) (K : U → Option α) : U.noTup e.u K = K e.u := rfl
@[simp] theorem Lock.u_agg (e : Lock) (K : List U → Option α) : U.asAgg e.u K = K [.int .i64 e.key, .int .i64 e.owner] := rfl
@[simp] theorem Lock.u_at0 (e : Lock) (K : U → Option α) : U.fieldAt 0 0 e.u K = K (.int .i64 e.key) := rfl
@[simp] theorem Lock.u_at1 (e : Lock) (K : U → Option α) : U.fieldAt 1 1 e.u K = K (.int .i64 e.owner) := rfl
@[simp] theorem Lock.u_flat (e : Lock) : e.u.flat = true := rfl
@[simp] theorem Lock.u_asFlat (e : Lock) (K : U → Option α) : U.asFlat e.u K = K e.u := rfl
@[simp] theorem Lock.u_eqv (x y : Lock) : U.eqv 4 x.u y.u = some (decide (x = y)) := by
  obtain ⟨a0, a1⟩ := x
  obtain ⟨b0, b1⟩ := y
  simp only [Lock.mk.injEq]
  show (if 2 = 2 then eqInts _ _ else none) = _
  simp only [if_true, eqInts_cons, eqInts_nil, Option.map_some, Bool.decide_and, Bool.and_true]
  rfl
structure Wait where
  id : Int
  for_ : Int
  deriving DecidableEq
theorem Wait.eq_iff (x y : Wait) : x = y ↔ x.id = y.id ∧ x.for_ = y.for_ := by cases x; cases y; simp only [Wait.mk.injEq]
def Wait.u (e : Wait) : U := .agg [.int .i64 e.id, .int .i64 e.for_]
@[simp] theorem Wait.u_size (e : Wait) : e.u.size = 2 := rfl
@[simp] theorem Wait.u_var (e : Wait) (K : U → Option α) : U.asVar true 2 e.u K = K e.u := rfl
@[simp] theorem Wait.u_storable (e : Wait) : storable (.val e.u) = true := rfl
@[simp] theorem Wait.u_partable (e : Wait) : partable (.val e.u) = true := rfl
@[simp] theorem Wait.u_noTup (e : Wait) (K : U → Option α) : U.noTup e.u K = K e.u := rfl
@[simp] theorem Wait.u_agg (e : Wait) (K : List U → Option α) : U.asAgg e.u K = K [.int .i64 e.id, .int .i64 e.for_] := rfl
@[simp] theorem Wait.u_at0 (e : Wait) (K : U → Option α) : U.fieldAt 0 0 e.u K = K (.int .i64 e.id) := rfl
@[simp] theorem Wait.u_at1 (e : Wait) (K : U → Option α) : U.fieldAt 1 1 e.u K = K (.int .i64 e.for_) := rfl
@[simp] theorem Wait.u_flat (e : Wait) : e.u.flat = true := rfl
@[simp] theorem Wait.u_asFlat (e : Wait) (K : U → Option α) : U.asFlat e.u K = K e.u := rfl
@[simp] theorem Wait.u_eqv (x y : Wait) : U.eqv 4 x.u y.u = some (decide (x = y)) := by
  obtain ⟨a0, a1⟩ := x
  obtain ⟨b0, b1⟩ := y
  simp only [Wait.mk.injEq]
  show (if 2 = 2 then eqInts _ _ else none) = _
  simp only [if_true, eqInts_cons, eqInts_nil, Option.map_some, Bool.decide_and, Bool.and_true]
  rfl
structure Version where
  writer : Int
  value : Int
  created : Int
  reader : Int
  successor : Int
  deriving DecidableEq
theorem Version.eq_iff (x y : Version) : x = y ↔ x.writer = y.writer ∧ x.value = y.value ∧ x.created = y.created ∧ x.reader = y.reader ∧ x.successor = y.successor := by cases x; cases y; simp only [Version.mk.injEq]
def Version.u (e : Version) : U := .agg [.int .i64 e.writer, .int .i64 e.value, .int .i64 e.created, .int .i64 e.reader, .int .i64 e.successor]
@[simp] theorem Version.u_size (e : Version) : e.u.size = 5 := rfl
@[simp] theorem Version.u_var (e : Version) (K : U → Option α) : U.asVar true 5 e.u K = K e.u := rfl
@[simp] theorem Version.u_storable (e : Version) : storable (.val e.u) = true := rfl
@[simp] theorem Version.u_partable (e : Version) : partable (.val e.u) = true := rfl
@[simp] theorem Version.u_noTup (e : Version) (K : U → Option α) : U.noTup e.u K = K e.u := rfl
@[simp] theorem Version.u_agg (e : Version) (K : List U → Option α) : U.asAgg e.u K = K [.int .i64 e.writer, .int .i64 e.value, .int .i64 e.created, .int .i64 e.reader, .int .i64 e.successor] := rfl
@[simp] theorem Version.u_at0 (e : Version) (K : U → Option α) : U.fieldAt 0 0 e.u K = K (.int .i64 e.writer) := rfl
@[simp] theorem Version.u_at1 (e : Version) (K : U → Option α) : U.fieldAt 1 1 e.u K = K (.int .i64 e.value) := rfl
@[simp] theorem Version.u_at2 (e : Version) (K : U → Option α) : U.fieldAt 2 2 e.u K = K (.int .i64 e.created) := rfl
@[simp] theorem Version.u_at3 (e : Version) (K : U → Option α) : U.fieldAt 3 3 e.u K = K (.int .i64 e.reader) := rfl
@[simp] theorem Version.u_at4 (e : Version) (K : U → Option α) : U.fieldAt 4 4 e.u K = K (.int .i64 e.successor) := rfl
@[simp] theorem Version.u_flat (e : Version) : e.u.flat = true := rfl
@[simp] theorem Version.u_asFlat (e : Version) (K : U → Option α) : U.asFlat e.u K = K e.u := rfl
@[simp] theorem Version.u_eqv (x y : Version) : U.eqv 7 x.u y.u = some (decide (x = y)) := by
  obtain ⟨a0, a1, a2, a3, a4⟩ := x
  obtain ⟨b0, b1, b2, b3, b4⟩ := y
  simp only [Version.mk.injEq]
  show (if 5 = 5 then eqInts _ _ else none) = _
  simp only [if_true, eqInts_cons, eqInts_nil, Option.map_some, Bool.decide_and, Bool.and_true]
  rfl
structure Entry where
  id : Int
  stamp : Int
  reads : List ReadMark
  writes : List Write
  deriving DecidableEq
theorem Entry.eq_iff (x y : Entry) : x = y ↔ x.id = y.id ∧ x.stamp = y.stamp ∧ x.reads = y.reads ∧ x.writes = y.writes := by cases x; cases y; simp only [Entry.mk.injEq]
def Entry.u (e : Entry) : U := .agg [.int .i64 e.id, .int .i64 e.stamp, .sl 2 (e.reads.map ReadMark.u), .sl 2 (e.writes.map Write.u)]
@[simp] theorem Entry.u_size (e : Entry) : e.u.size = 4 := rfl
@[simp] theorem Entry.u_var (e : Entry) (K : U → Option α) : U.asVar true 4 e.u K = K e.u := rfl
@[simp] theorem Entry.u_storable (e : Entry) : storable (.val e.u) = true := rfl
@[simp] theorem Entry.u_partable (e : Entry) : partable (.val e.u) = true := rfl
@[simp] theorem Entry.u_noTup (e : Entry) (K : U → Option α) : U.noTup e.u K = K e.u := rfl
@[simp] theorem Entry.u_agg (e : Entry) (K : List U → Option α) : U.asAgg e.u K = K [.int .i64 e.id, .int .i64 e.stamp, .sl 2 (e.reads.map ReadMark.u), .sl 2 (e.writes.map Write.u)] := rfl
@[simp] theorem Entry.u_at0 (e : Entry) (K : U → Option α) : U.fieldAt 0 0 e.u K = K (.int .i64 e.id) := rfl
@[simp] theorem Entry.u_at1 (e : Entry) (K : U → Option α) : U.fieldAt 1 1 e.u K = K (.int .i64 e.stamp) := rfl
@[simp] theorem Entry.u_at2 (e : Entry) (K : U → Option α) : U.fieldAt 2 2 e.u K = K (.sl 2 (e.reads.map ReadMark.u)) := rfl
@[simp] theorem Entry.u_at3 (e : Entry) (K : U → Option α) : U.fieldAt 3 3 e.u K = K (.sl 2 (e.writes.map Write.u)) := rfl
structure LogRecord where
  stamp : Int
  id : Int
  high : Int
  safe : Int
  reads : List ReadMark
  writes : List Write
  deriving DecidableEq
theorem LogRecord.eq_iff (x y : LogRecord) : x = y ↔ x.stamp = y.stamp ∧ x.id = y.id ∧ x.high = y.high ∧ x.safe = y.safe ∧ x.reads = y.reads ∧ x.writes = y.writes := by cases x; cases y; simp only [LogRecord.mk.injEq]
def LogRecord.u (e : LogRecord) : U := .agg [.int .i64 e.stamp, .int .i64 e.id, .int .i64 e.high, .int .i64 e.safe, .sl 2 (e.reads.map ReadMark.u), .sl 2 (e.writes.map Write.u)]
@[simp] theorem LogRecord.u_size (e : LogRecord) : e.u.size = 6 := rfl
@[simp] theorem LogRecord.u_var (e : LogRecord) (K : U → Option α) : U.asVar true 6 e.u K = K e.u := rfl
@[simp] theorem LogRecord.u_storable (e : LogRecord) : storable (.val e.u) = true := rfl
@[simp] theorem LogRecord.u_partable (e : LogRecord) : partable (.val e.u) = true := rfl
@[simp] theorem LogRecord.u_noTup (e : LogRecord) (K : U → Option α) : U.noTup e.u K = K e.u := rfl
@[simp] theorem LogRecord.u_agg (e : LogRecord) (K : List U → Option α) : U.asAgg e.u K = K [.int .i64 e.stamp, .int .i64 e.id, .int .i64 e.high, .int .i64 e.safe, .sl 2 (e.reads.map ReadMark.u), .sl 2 (e.writes.map Write.u)] := rfl
@[simp] theorem LogRecord.u_at0 (e : LogRecord) (K : U → Option α) : U.fieldAt 0 0 e.u K = K (.int .i64 e.stamp) := rfl
@[simp] theorem LogRecord.u_at1 (e : LogRecord) (K : U → Option α) : U.fieldAt 1 1 e.u K = K (.int .i64 e.id) := rfl
@[simp] theorem LogRecord.u_at2 (e : LogRecord) (K : U → Option α) : U.fieldAt 2 2 e.u K = K (.int .i64 e.high) := rfl
@[simp] theorem LogRecord.u_at3 (e : LogRecord) (K : U → Option α) : U.fieldAt 3 3 e.u K = K (.int .i64 e.safe) := rfl
@[simp] theorem LogRecord.u_at4 (e : LogRecord) (K : U → Option α) : U.fieldAt 4 4 e.u K = K (.sl 2 (e.reads.map ReadMark.u)) := rfl
@[simp] theorem LogRecord.u_at5 (e : LogRecord) (K : U → Option α) : U.fieldAt 5 5 e.u K = K (.sl 2 (e.writes.map Write.u)) := rfl
structure Transaction where
  id : Int
  scheme : Int
  state : Int
  begin_ : Int
  low : Int
  high : Int
  commit : Int
  reads : List ReadMark
  writes : List Write
  deriving DecidableEq
theorem Transaction.eq_iff (x y : Transaction) : x = y ↔ x.id = y.id ∧ x.scheme = y.scheme ∧ x.state = y.state ∧ x.begin_ = y.begin_ ∧ x.low = y.low ∧ x.high = y.high ∧ x.commit = y.commit ∧ x.reads = y.reads ∧ x.writes = y.writes := by cases x; cases y; simp only [Transaction.mk.injEq]
def Transaction.u (e : Transaction) : U := .agg [.int .i64 e.id, .int .i64 e.scheme, .int .i64 e.state, .int .i64 e.begin_, .int .i64 e.low, .int .i64 e.high, .int .i64 e.commit, .sl 2 (e.reads.map ReadMark.u), .sl 2 (e.writes.map Write.u)]
@[simp] theorem Transaction.u_size (e : Transaction) : e.u.size = 9 := rfl
@[simp] theorem Transaction.u_var (e : Transaction) (K : U → Option α) : U.asVar true 9 e.u K = K e.u := rfl
@[simp] theorem Transaction.u_storable (e : Transaction) : storable (.val e.u) = true := rfl
@[simp] theorem Transaction.u_partable (e : Transaction) : partable (.val e.u) = true := rfl
@[simp] theorem Transaction.u_noTup (e : Transaction) (K : U → Option α) : U.noTup e.u K = K e.u := rfl
@[simp] theorem Transaction.u_agg (e : Transaction) (K : List U → Option α) : U.asAgg e.u K = K [.int .i64 e.id, .int .i64 e.scheme, .int .i64 e.state, .int .i64 e.begin_, .int .i64 e.low, .int .i64 e.high, .int .i64 e.commit, .sl 2 (e.reads.map ReadMark.u), .sl 2 (e.writes.map Write.u)] := rfl
@[simp] theorem Transaction.u_at0 (e : Transaction) (K : U → Option α) : U.fieldAt 0 0 e.u K = K (.int .i64 e.id) := rfl
@[simp] theorem Transaction.u_at1 (e : Transaction) (K : U → Option α) : U.fieldAt 1 1 e.u K = K (.int .i64 e.scheme) := rfl
@[simp] theorem Transaction.u_at2 (e : Transaction) (K : U → Option α) : U.fieldAt 2 2 e.u K = K (.int .i64 e.state) := rfl
@[simp] theorem Transaction.u_at3 (e : Transaction) (K : U → Option α) : U.fieldAt 3 3 e.u K = K (.int .i64 e.begin_) := rfl
@[simp] theorem Transaction.u_at4 (e : Transaction) (K : U → Option α) : U.fieldAt 4 4 e.u K = K (.int .i64 e.low) := rfl
@[simp] theorem Transaction.u_at5 (e : Transaction) (K : U → Option α) : U.fieldAt 5 5 e.u K = K (.int .i64 e.high) := rfl
@[simp] theorem Transaction.u_at6 (e : Transaction) (K : U → Option α) : U.fieldAt 6 6 e.u K = K (.int .i64 e.commit) := rfl
@[simp] theorem Transaction.u_at7 (e : Transaction) (K : U → Option α) : U.fieldAt 7 7 e.u K = K (.sl 2 (e.reads.map ReadMark.u)) := rfl
@[simp] theorem Transaction.u_at8 (e : Transaction) (K : U → Option α) : U.fieldAt 8 8 e.u K = K (.sl 2 (e.writes.map Write.u)) := rfl
structure Op where
  kind : Int
  id : Int
  scheme : Int
  key : Int
  high : Int
  value : Int
  deriving DecidableEq
theorem Op.eq_iff (x y : Op) : x = y ↔ x.kind = y.kind ∧ x.id = y.id ∧ x.scheme = y.scheme ∧ x.key = y.key ∧ x.high = y.high ∧ x.value = y.value := by cases x; cases y; simp only [Op.mk.injEq]
def Op.u (e : Op) : U := .agg [.int .i64 e.kind, .int .i64 e.id, .int .i64 e.scheme, .int .i64 e.key, .int .i64 e.high, .int .i64 e.value]
@[simp] theorem Op.u_size (e : Op) : e.u.size = 6 := rfl
@[simp] theorem Op.u_var (e : Op) (K : U → Option α) : U.asVar true 6 e.u K = K e.u := rfl
@[simp] theorem Op.u_storable (e : Op) : storable (.val e.u) = true := rfl
@[simp] theorem Op.u_partable (e : Op) : partable (.val e.u) = true := rfl
@[simp] theorem Op.u_noTup (e : Op) (K : U → Option α) : U.noTup e.u K = K e.u := rfl
@[simp] theorem Op.u_agg (e : Op) (K : List U → Option α) : U.asAgg e.u K = K [.int .i64 e.kind, .int .i64 e.id, .int .i64 e.scheme, .int .i64 e.key, .int .i64 e.high, .int .i64 e.value] := rfl
@[simp] theorem Op.u_at0 (e : Op) (K : U → Option α) : U.fieldAt 0 0 e.u K = K (.int .i64 e.kind) := rfl
@[simp] theorem Op.u_at1 (e : Op) (K : U → Option α) : U.fieldAt 1 1 e.u K = K (.int .i64 e.id) := rfl
@[simp] theorem Op.u_at2 (e : Op) (K : U → Option α) : U.fieldAt 2 2 e.u K = K (.int .i64 e.scheme) := rfl
@[simp] theorem Op.u_at3 (e : Op) (K : U → Option α) : U.fieldAt 3 3 e.u K = K (.int .i64 e.key) := rfl
@[simp] theorem Op.u_at4 (e : Op) (K : U → Option α) : U.fieldAt 4 4 e.u K = K (.int .i64 e.high) := rfl
@[simp] theorem Op.u_at5 (e : Op) (K : U → Option α) : U.fieldAt 5 5 e.u K = K (.int .i64 e.value) := rfl
@[simp] theorem Op.u_flat (e : Op) : e.u.flat = true := rfl
@[simp] theorem Op.u_asFlat (e : Op) (K : U → Option α) : U.asFlat e.u K = K e.u := rfl
@[simp] theorem Op.u_eqv (x y : Op) : U.eqv 8 x.u y.u = some (decide (x = y)) := by
  obtain ⟨a0, a1, a2, a3, a4, a5⟩ := x
  obtain ⟨b0, b1, b2, b3, b4, b5⟩ := y
  simp only [Op.mk.injEq]
  show (if 6 = 6 then eqInts _ _ else none) = _
  simp only [if_true, eqInts_cons, eqInts_nil, Option.map_some, Bool.decide_and, Bool.and_true]
  rfl
structure StepR where
  code : Int
  values : List Int
  deriving DecidableEq
theorem StepR.eq_iff (x y : StepR) : x = y ↔ x.code = y.code ∧ x.values = y.values := by cases x; cases y; simp only [StepR.mk.injEq]
def StepR.u (e : StepR) : U := .agg [.int .i64 e.code, .sl 1 (e.values.map intU)]
@[simp] theorem StepR.u_size (e : StepR) : e.u.size = 2 := rfl
@[simp] theorem StepR.u_var (e : StepR) (K : U → Option α) : U.asVar true 2 e.u K = K e.u := rfl
@[simp] theorem StepR.u_storable (e : StepR) : storable (.val e.u) = true := rfl
@[simp] theorem StepR.u_partable (e : StepR) : partable (.val e.u) = true := rfl
@[simp] theorem StepR.u_noTup (e : StepR) (K : U → Option α) : U.noTup e.u K = K e.u := rfl
@[simp] theorem StepR.u_agg (e : StepR) (K : List U → Option α) : U.asAgg e.u K = K [.int .i64 e.code, .sl 1 (e.values.map intU)] := rfl
@[simp] theorem StepR.u_at0 (e : StepR) (K : U → Option α) : U.fieldAt 0 0 e.u K = K (.int .i64 e.code) := rfl
@[simp] theorem StepR.u_at1 (e : StepR) (K : U → Option α) : U.fieldAt 1 1 e.u K = K (.sl 1 (e.values.map intU)) := rfl
def chainU (l : List Version) : U := .sl 5 (l.map Version.u)
@[simp] theorem chainU_size (l : List Version) : (chainU l).size = 1 := rfl
@[simp] theorem asVar_chainU (l : List Version) (K : U → Option α) : U.asVar false 1 (chainU l) K = K (chainU l) := rfl
@[simp] theorem storable_chainU (l : List Version) : storable (.val (chainU l)) = true := rfl
@[simp] theorem partable_chainU (l : List Version) : partable (.val (chainU l)) = true := rfl
@[simp] theorem noTup_chainU (l : List Version) (K : U → Option α) : U.noTup (chainU l) K = K (chainU l) := rfl
@[simp] theorem lenOf_chainU (l : List Version) : U.lenOf false (chainU l) = some l.length := by simp [chainU]
@[simp] theorem elemAt_chainU (l : List Version) (i : Int) (K : U → Option α) : U.elemAt 5 (chainU l) i K = U.elemAt 5 (.sl 5 (l.map Version.u)) i K := rfl
structure Store where
  chains : List (List Version)
  deriving DecidableEq
theorem Store.eq_iff (x y : Store) : x = y ↔ x.chains = y.chains := by cases x; cases y; simp only [Store.mk.injEq]
def Store.u (e : Store) : U := .agg [.sl 1 (e.chains.map chainU)]
@[simp] theorem Store.u_size (e : Store) : e.u.size = 1 := rfl
@[simp] theorem Store.u_var (e : Store) (K : U → Option α) : U.asVar true 1 e.u K = K e.u := rfl
@[simp] theorem Store.u_storable (e : Store) : storable (.val e.u) = true := rfl
@[simp] theorem Store.u_partable (e : Store) : partable (.val e.u) = true := rfl
@[simp] theorem Store.u_noTup (e : Store) (K : U → Option α) : U.noTup e.u K = K e.u := rfl
@[simp] theorem Store.u_agg (e : Store) (K : List U → Option α) : U.asAgg e.u K = K [.sl 1 (e.chains.map chainU)] := rfl
@[simp] theorem Store.u_at0 (e : Store) (K : U → Option α) : U.fieldAt 0 0 e.u K = K (.sl 1 (e.chains.map chainU)) := rfl
structure Engine where
  certify : Bool
  store : Store
  transactions : List Transaction
  locks : List Lock
  waits : List Wait
  stamp : Int
  deriving DecidableEq
theorem Engine.eq_iff (x y : Engine) : x = y ↔ x.certify = y.certify ∧ x.store = y.store ∧ x.transactions = y.transactions ∧ x.locks = y.locks ∧ x.waits = y.waits ∧ x.stamp = y.stamp := by cases x; cases y; simp only [Engine.mk.injEq]
def Engine.u (e : Engine) : U := .agg [.bool e.certify, e.store.u, .sl 9 (e.transactions.map Transaction.u), .sl 2 (e.locks.map Lock.u), .sl 2 (e.waits.map Wait.u), .int .i64 e.stamp]
@[simp] theorem Engine.u_size (e : Engine) : e.u.size = 6 := rfl
@[simp] theorem Engine.u_var (e : Engine) (K : U → Option α) : U.asVar true 6 e.u K = K e.u := rfl
@[simp] theorem Engine.u_storable (e : Engine) : storable (.val e.u) = true := rfl
@[simp] theorem Engine.u_partable (e : Engine) : partable (.val e.u) = true := rfl
@[simp] theorem Engine.u_noTup (e : Engine) (K : U → Option α) : U.noTup e.u K = K e.u := rfl
@[simp] theorem Engine.u_agg (e : Engine) (K : List U → Option α) : U.asAgg e.u K = K [.bool e.certify, e.store.u, .sl 9 (e.transactions.map Transaction.u), .sl 2 (e.locks.map Lock.u), .sl 2 (e.waits.map Wait.u), .int .i64 e.stamp] := rfl
@[simp] theorem Engine.u_at0 (e : Engine) (K : U → Option α) : U.fieldAt 0 0 e.u K = K (.bool e.certify) := rfl
@[simp] theorem Engine.u_at1 (e : Engine) (K : U → Option α) : U.fieldAt 1 1 e.u K = K (e.store.u) := rfl
@[simp] theorem Engine.u_at2 (e : Engine) (K : U → Option α) : U.fieldAt 2 2 e.u K = K (.sl 9 (e.transactions.map Transaction.u)) := rfl
@[simp] theorem Engine.u_at3 (e : Engine) (K : U → Option α) : U.fieldAt 3 3 e.u K = K (.sl 2 (e.locks.map Lock.u)) := rfl
@[simp] theorem Engine.u_at4 (e : Engine) (K : U → Option α) : U.fieldAt 4 4 e.u K = K (.sl 2 (e.waits.map Wait.u)) := rfl
@[simp] theorem Engine.u_at5 (e : Engine) (K : U → Option α) : U.fieldAt 5 5 e.u K = K (.int .i64 e.stamp) := rfl
structure Node where
  engine : Engine
  log : ByteArray
  deriving DecidableEq
theorem Node.eq_iff (x y : Node) : x = y ↔ x.engine = y.engine ∧ x.log = y.log := by cases x; cases y; simp only [Node.mk.injEq]
def Node.u (e : Node) : U := .agg [e.engine.u, .str e.log]
@[simp] theorem Node.u_size (e : Node) : e.u.size = 7 := rfl
@[simp] theorem Node.u_var (e : Node) (K : U → Option α) : U.asVar true 7 e.u K = K e.u := rfl
@[simp] theorem Node.u_storable (e : Node) : storable (.val e.u) = true := rfl
@[simp] theorem Node.u_partable (e : Node) : partable (.val e.u) = true := rfl
@[simp] theorem Node.u_noTup (e : Node) (K : U → Option α) : U.noTup e.u K = K e.u := rfl
@[simp] theorem Node.u_agg (e : Node) (K : List U → Option α) : U.asAgg e.u K = K [e.engine.u, .str e.log] := rfl
@[simp] theorem Node.u_at0 (e : Node) (K : U → Option α) : U.fieldAt 0 0 e.u K = K (e.engine.u) := rfl
@[simp] theorem Node.u_at1 (e : Node) (K : U → Option α) : U.fieldAt 1 6 e.u K = K (.str e.log) := rfl
structure Report where
  order : List Int
  cycle : List Int
  kind : Int
  deriving DecidableEq
theorem Report.eq_iff (x y : Report) : x = y ↔ x.order = y.order ∧ x.cycle = y.cycle ∧ x.kind = y.kind := by cases x; cases y; simp only [Report.mk.injEq]
def Report.u (e : Report) : U := .agg [.sl 1 (e.order.map intU), .sl 1 (e.cycle.map intU), .int .i64 e.kind]
@[simp] theorem Report.u_size (e : Report) : e.u.size = 3 := rfl
@[simp] theorem Report.u_var (e : Report) (K : U → Option α) : U.asVar true 3 e.u K = K e.u := rfl
@[simp] theorem Report.u_storable (e : Report) : storable (.val e.u) = true := rfl
@[simp] theorem Report.u_partable (e : Report) : partable (.val e.u) = true := rfl
@[simp] theorem Report.u_noTup (e : Report) (K : U → Option α) : U.noTup e.u K = K e.u := rfl
@[simp] theorem Report.u_agg (e : Report) (K : List U → Option α) : U.asAgg e.u K = K [.sl 1 (e.order.map intU), .sl 1 (e.cycle.map intU), .int .i64 e.kind] := rfl
@[simp] theorem Report.u_at0 (e : Report) (K : U → Option α) : U.fieldAt 0 0 e.u K = K (.sl 1 (e.order.map intU)) := rfl
@[simp] theorem Report.u_at1 (e : Report) (K : U → Option α) : U.fieldAt 1 1 e.u K = K (.sl 1 (e.cycle.map intU)) := rfl
@[simp] theorem Report.u_at2 (e : Report) (K : U → Option α) : U.fieldAt 2 2 e.u K = K (.int .i64 e.kind) := rfl
end Go.Proofs.Ytfdcdbkblkehcaa.Am
namespace Go.Proofs.Ytfdcdbkblkehcaa.Am
open Go
theorem mid_set {α : Type} (f : α → U) (p : List α) (z : U) (c : List U) {i : Int} (hi : i = p.length) :
    (p.map f ++ z :: c)[i.toNat]? = some z ∧ (∀ y, (p.map f ++ z :: c).set i.toNat y = p.map f ++ y :: c) ∧ i < ((p.map f ++ z :: c).length : Int) := by
  subst hi
  refine ⟨by simp, fun y => by simp, by simp; omega⟩
def Entry.ok (e : Entry) : Prop := e.reads.length ≤ 1048576 ∧ e.writes.length ≤ 1048576
def LogRecord.ok (e : LogRecord) : Prop := e.reads.length ≤ 1048576 ∧ e.writes.length ≤ 1048576
def Transaction.ok (e : Transaction) : Prop := e.reads.length ≤ 1048576 ∧ e.writes.length ≤ 1048576
def chainOk (l : List Version) : Prop := l.length ≤ 1048576
def Store.ok (s : Store) : Prop := s.chains.length ≤ 1048576 ∧ ∀ c ∈ s.chains, chainOk c
def Engine.ok (e : Engine) : Prop := e.store.ok ∧ e.transactions.length ≤ 1048576 ∧ (∀ t ∈ e.transactions, t.ok) ∧ e.locks.length ≤ 1048576 ∧ e.waits.length ≤ 1048576
end Go.Proofs.Ytfdcdbkblkehcaa.Am
namespace Go.Proofs.Ytfdcdbkblkehcaa.Am
open Go
variable {E : Env}
set_option linter.unusedVariables false
theorem laws_eqVersion_is (h : G_laws_eqVersion E) (x y : Version) : E 120 [x.u, y.u] = some (.bool (decide (x = y))) := by
  rw [laws_eqVersion_E h]
  obtain ⟨a0, a1, a2, a3, a4⟩ := x
  obtain ⟨b0, b1, b2, b3, b4⟩ := y
  simp only [Version.mk.injEq]
  by_cases h0 : a0 = b0
  case neg => simp [h0]
  subst h0
  by_cases h1 : a1 = b1
  case neg => simp [h1]
  subst h1
  by_cases h2 : a2 = b2
  case neg => simp [h2]
  subst h2
  by_cases h3 : a3 = b3
  case neg => simp [h3]
  subst h3
  by_cases h4 : a4 = b4
  case neg => simp [h4]
  subst h4
  simp []
theorem laws_eqVersionS_l0_is (h : G_laws_eqVersionS E) (a b : List Version) (ha : a.length ≤ 1048576) (hb : b.length ≤ 1048576) : ∀ (r s p p2 : List Version) (i : Int), a = p ++ r → b = p2 ++ s → i = p.length → i = p2.length → r.length = s.length →
    laws_eqVersionS_l0 E (.sl 5 (a.map Version.u)) (.sl 5 (b.map Version.u)) (.int .i64 i) = some (.bool (decide (r = s)))
  | [], [], p, p2, i, e, e2, hi, hi2, _ => by
    rw [laws_eqVersionS_l0_eq]
    simp [mid_end e hi]
  | [], y :: s, _, _, _, _, _, _, _, hl => by cases hl
  | x :: r, [], _, _, _, _, _, _, _, hl => by cases hl
  | x :: r, y :: s, p, p2, i, e, e2, hi, hi2, hl => by
    obtain ⟨h0, hlt, hx, hw, hn, _⟩ := mid_at e hi (by omega)
    obtain ⟨_, _, hy, _, hn2, _⟩ := mid_at e2 hi2 (by omega)
    have ih := laws_eqVersionS_l0_is h a b ha hb r s (p ++ [x]) (p2 ++ [y]) (i + 1) (mid_next e) (mid_next e2) hn hn2 (by simpa using hl)
    rw [laws_eqVersionS_l0_eq]
    by_cases hxy : x = y
    · subst hxy
      simp [hlt, hx, hy, hw, ih, laws_eqVersion_is h.c_laws_eqVersion]
    · simp [hlt, hx, hy, hw, ih, laws_eqVersion_is h.c_laws_eqVersion, hxy]
theorem laws_eqVersionS_is (h : G_laws_eqVersionS E) (a b : List Version) (ha : a.length ≤ 1048576) (hb : b.length ≤ 1048576) : E 119 [.sl 5 (a.map Version.u), .sl 5 (b.map Version.u)] = some (.bool (decide (a = b))) := by
  rw [laws_eqVersionS_E h]
  by_cases hl : a.length = b.length
  · simp [hl, laws_eqVersionS_l0_is h a b ha hb a b [] [] 0 rfl rfl rfl rfl hl]
  · have h1 : a ≠ b := fun e => hl (by rw [e])
    have h2 : (a.length : Int) ≠ b.length := by omega
    simp [h1, h2]
theorem laws_eqVersionS_ch (h : G_laws_eqVersionS E) (x y : List Version) (hx : chainOk x) (hy : chainOk y) : E 119 [chainU x, chainU y] = some (.bool (decide (x = y))) := laws_eqVersionS_is h x y hx hy
end Go.Proofs.Ytfdcdbkblkehcaa.Am
namespace Go.Proofs.Ytfdcdbkblkehcaa.Am
open Go
theorem flats_map {α : Type} (f : α → U) (h : ∀ x, (f x).flat = true) : ∀ l : List α, U.flat.flats (l.map f) = true
  | [] => rfl
  | x :: l => by
    simp only [List.map_cons, U.flat.flats, h x, flats_map f h l, Bool.and_self]
@[simp] theorem flats_edges (l : List Edge) : U.flat.flats (l.map Edge.u) = true := flats_map _ (fun _ => rfl) l
@[simp] theorem flats_ints (l : List Int) : U.flat.flats (l.map intU) = true := flats_map _ (fun _ => rfl) l
end Go.Proofs.Ytfdcdbkblkehcaa.Am
namespace Go.Proofs.Ytfdcdbkblkehcaa.Am
open Go
variable {E : Env}
set_option linter.unusedVariables false
def upVersion : Int → Nat → List Version
  | _, 0 => []
  | k, n + 1 => ⟨k, k + 1, k + 2, k + 3, k + 4⟩ :: upVersion (k + 5) n
theorem upVersion_length : ∀ (n : Nat) (k : Int), (upVersion k n).length = n
  | 0, _ => rfl
  | n + 1, k => by simp [upVersion, upVersion_length n]
theorem flats_Version (l : List Version) : U.flat.flats (l.map Version.u) = true := flats_map _ (fun _ => rfl) l
theorem laws_markVersionS_M_l0_is (h : G_laws_markVersionS_M E) : ∀ (r p : List Version) (k i : Int), i = p.length → p.length + r.length ≤ 1048576 → 0 ≤ k → k + 5 * r.length ≤ 1099511627776 →
    laws_markVersionS_M_l0 E (.int .i64 k) (.int .i64 i) (p.map Version.u ++ r.map Version.u) = some (.tup [.int .i64 (k + 5 * r.length), .sl 5 (p.map Version.u ++ (upVersion k r.length).map Version.u)])
  | [], p, k, i, hi, hb, hk, hk2 => by
    have h1 : ¬ i < ((p.map Version.u ++ ([] : List Version).map Version.u).length : Int) := by simp [hi]
    rw [laws_markVersionS_M_l0_eq]
    simp only [bin_lss, h1, decide_false, Option.bind_some, asBool_bool, Bool.false_eq_true, if_false]
    rw [← List.map_append]
    simp [upVersion, flats_Version]
  | x :: r, p, k, i, hi, hb, hk, hk2 => by
    simp only [List.length_cons] at hb hk2
    have hm := fun z => mid_set Version.u p z (r.map Version.u) hi
    have hg := fun z => (hm z).1
    have hs := fun z => (hm z).2.1
    have hlen := fun z => (hm z).2.2
    have h0 : 0 ≤ i := by omega
    have hw0 : IntKind.i64.wrap (k + 1) = k + 1 := by rw [wrap_in (by omega)]
    have hw1 : IntKind.i64.wrap (k + 1 + 1) = k + 2 := by rw [wrap_in (by omega)]; omega
    have hw2 : IntKind.i64.wrap (k + 2 + 1) = k + 3 := by rw [wrap_in (by omega)]; omega
    have hw3 : IntKind.i64.wrap (k + 3 + 1) = k + 4 := by rw [wrap_in (by omega)]; omega
    have hw4 : IntKind.i64.wrap (k + 4 + 1) = k + 5 := by rw [wrap_in (by omega)]; omega
    have hwi : IntKind.i64.wrap (i + 1) = i + 1 := wrap_in (by omega)
    have ih := laws_markVersionS_M_l0_is h r (p ++ [⟨k, k + 1, k + 2, k + 3, k + 4⟩]) (k + 5) (i + 1) (by simp [hi]) (by simp; omega) (by omega) (by omega)
    simp only [List.map_append, List.map_cons, List.map_nil, List.append_assoc, List.cons_append, List.nil_append] at ih
    rw [laws_markVersionS_M_l0_eq]
    simp only [List.map_cons, bin_lss, hlen, decide_true, Option.bind_some, asBool_bool, if_true, asInt_int, h0, and_self, storable_int, size_int, flat_int, hg, hs, Version.u_agg, asAgg_agg, List.take_zero, List.take_succ_cons, sizes_cons, sizes_nil, Nat.add_zero, Nat.zero_add, List.getElem?_cons_zero, List.getElem?_cons_succ, List.set_cons_zero, List.set_cons_succ, bin_add, hw0, hw1, hw2, hw3, hw4, hwi, Nat.reduceAdd]
    have e : k + 5 + 5 * (r.length : Int) = k + 5 * ((r.length + 1 : Nat) : Int) := by omega
    rw [e] at ih
    simpa [upVersion, Version.u] using ih
theorem laws_markVersionS_M_is (h : G_laws_markVersionS_M E) (l : List Version) (hl : l.length ≤ 1048576) (k : Int) (hk : 0 ≤ k) (hk2 : k ≤ 1073741824) :
    E 200122 (.agg [.tup [.sl 5 (l.map Version.u)]] :: [.int .i64 k]) = some (.tup [.int .i64 (k + 5 * l.length), .sl 5 ((upVersion k l.length).map Version.u)]) := by
  rw [laws_markVersionS_M_E h]
  exact laws_markVersionS_M_l0_is h l [] k 0 rfl (by simpa using hl) hk (by omega)
end Go.Proofs.Ytfdcdbkblkehcaa.Am
namespace Go.Proofs.Ytfdcdbkblkehcaa.Am
open Go
variable {E : Env}
set_option linter.unusedVariables false
def upChains : Int → List Nat → List (List Version)
  | _, [] => []
  | k, n :: ns => upVersion k n :: upChains (k + 5 * n) ns
def sumN : List Nat → Int
  | [] => 0
  | n :: ns => n + sumN ns
theorem sumN_nonneg : ∀ l, 0 ≤ sumN l
  | [] => by simp [sumN]
  | c :: r => by have := sumN_nonneg r; simp only [sumN]; omega
theorem upChains_length : ∀ (ns : List Nat) (k : Int), (upChains k ns).length = ns.length
  | [], _ => rfl
  | n :: ns, k => by simp only [upChains, List.length_cons, upChains_length ns]
theorem laws_markVersionSS_M_l0_is2 (h : G_laws_markVersionSS_M E) : ∀ (r : List (List Version)) (p : List U) (k i : Int), i = p.length → p.length + r.length ≤ 1048576 → (∀ x ∈ r, chainOk x) → 0 ≤ k → k + 5 * sumN (r.map List.length) ≤ 1073741824 →
    laws_markVersionSS_M_l0 E (.int .i64 k) (.int .i64 i) (p ++ r.map chainU) = some (.tup [.int .i64 (k + 5 * sumN (r.map List.length)), .sl 1 (p ++ (upChains k (r.map List.length)).map chainU)])
  | [], p, k, i, hi, hb, hr, hk, hk2 => by
    have h1 : ¬ i < (p.length : Int) := by omega
    rw [laws_markVersionSS_M_l0_eq]
    simp [h1, sumN, upChains, U.flat]
  | x :: r, p, k, i, hi, hb, hr, hk, hk2 => by
    simp only [List.length_cons, List.map_cons, sumN] at hb hk2
    have hs := sumN_nonneg (r.map List.length)
    have hx : x.length ≤ 1048576 := hr x (by simp)
    have hm := laws_markVersionS_M_is h.c_laws_markVersionS_M x hx k hk (by omega)
    have h1 := laws_markVersionSS_M_l0_is2 h r (p ++ [.sl 5 ((upVersion k x.length).map Version.u)]) (k + 5 * x.length) (i + 1) (by simp [hi]) (by simp; omega) (fun y hy => hr y (by simp [hy])) (by omega) (by omega)
    have hn : i.toNat = p.length := by omega
    have hlt : i < ((p ++ chainU x :: r.map chainU).length : Int) := by simp; omega
    have h0 : 0 ≤ i := by omega
    have hw : IntKind.i64.wrap (i + 1) = i + 1 := wrap_in (by omega)
    have hg : (p ++ chainU x :: r.map chainU)[p.length]? = some (.sl 5 (x.map Version.u)) := by simp [chainU]
    have hset : ∀ z, (p ++ chainU x :: r.map chainU).set p.length z = p ++ z :: r.map chainU := fun z => by simp
    have e : k + 5 * (x.length : Int) + 5 * sumN (r.map List.length) = k + 5 * ((x.length : Int) + sumN (r.map List.length)) := by omega
    rw [laws_markVersionSS_M_l0_eq]
    simp only [List.append_assoc, List.cons_append, List.nil_append, e] at h1
    simp only [List.map_cons, bin_lss, hlt, decide_true, Option.bind_some, asBool_bool, if_true, asInt_int, h0, and_self, hn, hg, U.asSlK, hm, U.asMut, U.asFlat, U.flat, U.size, bin_add, hw, hset, sumN, upChains]
    exact h1
theorem laws_markVersionSS_M_is (h : G_laws_markVersionSS_M E) (l : List (List Version)) (hl : l.length ≤ 1048576) (hc : ∀ x ∈ l, chainOk x) (k : Int) (hk : 0 ≤ k) (hk2 : k + 5 * sumN (l.map List.length) ≤ 1073741824) :
    E 200121 (.agg [.tup [.sl 1 (l.map chainU)]] :: [.int .i64 k]) = some (.tup [.int .i64 (k + 5 * sumN (l.map List.length)), .sl 1 ((upChains k (l.map List.length)).map chainU)]) := by
  rw [laws_markVersionSS_M_E h]
  exact laws_markVersionSS_M_l0_is2 h l [] k 0 rfl (by simpa using hl) hc hk hk2
theorem laws_heldVersionS_l0_is (h : G_laws_heldVersionS E) (l : List Version) (hl : l.length ≤ 1048576) : ∀ (n : Nat) (p : List Version) (k i : Int), l = p ++ upVersion k n → i = p.length → 0 ≤ k → k + 5 * n ≤ 1099511627776 →
    laws_heldVersionS_l0 E (.sl 5 (l.map Version.u)) (.int .i64 k) (.int .i64 i) = some (.int .i64 (k + 5 * n))
  | 0, p, k, i, e, hi, hk, hk2 => by
    rw [laws_heldVersionS_l0_eq]
    simp [mid_end e hi]
  | n + 1, p, k, i, e0, hi, hk, hk2 => by
    have e : l = p ++ (⟨k, k + 1, k + 2, k + 3, k + 4⟩ : Version) :: upVersion (k + 5) n := e0
    obtain ⟨h0, hlt, hx, hw, hn, _⟩ := mid_at e hi (by omega)
    have hw0 : IntKind.i64.wrap (k + 1) = k + 1 := by rw [wrap_in (by omega)]
    have hw1 : IntKind.i64.wrap (k + 1 + 1) = k + 2 := by rw [wrap_in (by omega)]; omega
    have hw2 : IntKind.i64.wrap (k + 2 + 1) = k + 3 := by rw [wrap_in (by omega)]; omega
    have hw3 : IntKind.i64.wrap (k + 3 + 1) = k + 4 := by rw [wrap_in (by omega)]; omega
    have hw4 : IntKind.i64.wrap (k + 4 + 1) = k + 5 := by rw [wrap_in (by omega)]; omega
    have ih := laws_heldVersionS_l0_is h l hl n (p ++ [⟨k, k + 1, k + 2, k + 3, k + 4⟩]) (k + 5) (i + 1) (mid_next e) hn (by omega) (by omega)
    have e2 : k + 5 + 5 * (n : Int) = k + 5 * ((n + 1 : Nat) : Int) := by omega
    rw [e2] at ih
    rw [laws_heldVersionS_l0_eq]
    simp only [lenOf_sl, List.length_map, Option.bind_some, bin_lss, hlt, decide_true, asBool_bool, if_true, asInt_int, hx, Version.u_at0, Version.u_at1, Version.u_at2, Version.u_at3, Version.u_at4, asVar_int, bin_neq, ne_eq, not_true_eq_false, decide_false, Bool.false_eq_true, if_false, bin_add, hw, hw0, hw1, hw2, hw3, hw4]
    exact ih
theorem laws_heldVersionS_is (h : G_laws_heldVersionS E) (n : Nat) (hn : n ≤ 1048576) (k : Int) (hk : 0 ≤ k) (hk2 : k ≤ 1073741824) : E 234 [chainU (upVersion k n), .int .i64 k] = some (.int .i64 (k + 5 * n)) := by
  rw [laws_heldVersionS_E h]
  exact laws_heldVersionS_l0_is h _ (by rw [upVersion_length]; exact hn) n [] k 0 rfl rfl hk (by omega)
theorem laws_heldVersionSS_l0_is (h : G_laws_heldVersionSS E) (l : List (List Version)) (hl : l.length ≤ 1048576) : ∀ (ns : List Nat) (p : List (List Version)) (k i : Int), l = p ++ upChains k ns → i = p.length → (∀ n ∈ ns, n ≤ 1048576) → 0 ≤ k → k + 5 * sumN ns ≤ 1073741824 →
    laws_heldVersionSS_l0 E (.sl 1 (l.map chainU)) (.int .i64 k) (.int .i64 i) = some (.int .i64 (k + 5 * sumN ns))
  | [], p, k, i, e, hi, hn, hk, hk2 => by
    rw [laws_heldVersionSS_l0_eq]
    simp [mid_end e hi, sumN]
  | n :: ns, p, k, i, e0, hi, hns, hk, hk2 => by
    have e : l = p ++ upVersion k n :: upChains (k + 5 * n) ns := e0
    simp only [sumN] at hk2
    have hs := sumN_nonneg ns
    obtain ⟨h0, hlt, hx, hw, hn, _⟩ := mid_at e hi (by omega)
    have hh := laws_heldVersionS_is h.c_laws_heldVersionS n (hns n (by simp)) k hk (by omega)
    have ih := laws_heldVersionSS_l0_is h l hl ns (p ++ [upVersion k n]) (k + 5 * n) (i + 1) (mid_next e) hn (fun m hm => hns m (by simp [hm])) (by omega) (by omega)
    have e2 : k + 5 * (n : Int) + 5 * sumN ns = k + 5 * ((n : Int) + sumN ns) := by omega
    have hneg : ¬ k + 5 * (n : Int) < 0 := by omega
    rw [e2] at ih
    rw [laws_heldVersionSS_l0_eq]
    simp only [lenOf_sl, List.length_map, Option.bind_some, bin_lss, hlt, decide_true, asBool_bool, if_true, asInt_int, hx, asVar_chainU, hh, hneg, decide_false, Bool.false_eq_true, if_false, bin_add, hw, sumN]
    exact ih
theorem laws_heldVersionSS_is (h : G_laws_heldVersionSS E) (ns : List Nat) (hl : ns.length ≤ 1048576) (hns : ∀ n ∈ ns, n ≤ 1048576) (k : Int) (hk : 0 ≤ k) (hk2 : k + 5 * sumN ns ≤ 1073741824) : E 233 [.sl 1 ((upChains k ns).map chainU), .int .i64 k] = some (.int .i64 (k + 5 * sumN ns)) := by
  rw [laws_heldVersionSS_E h]
  exact laws_heldVersionSS_l0_is h _ (by rw [upChains_length]; exact hl) ns [] k 0 rfl rfl hns hk hk2
theorem laws_heldStore_is (h : G_laws_heldStore E) (ns : List Nat) (hl : ns.length ≤ 1048576) (hns : ∀ n ∈ ns, n ≤ 1048576) (k : Int) (hk : 0 ≤ k) (hk2 : k + 5 * sumN ns ≤ 1073741824) : E 206 [.agg [.sl 1 ((upChains k ns).map chainU)], .int .i64 k] = some (.int .i64 (k + 5 * sumN ns)) := by
  rw [laws_heldStore_E h]
  have hs := sumN_nonneg ns
  have hneg : ¬ k + 5 * sumN ns < 0 := by omega
  have h1 := laws_heldVersionSS_is h.c_laws_heldVersionSS ns hl hns k hk hk2
  have nt : ∀ (us : List U) (K : U → Option U), U.noTup (.agg us) K = K (.agg us) := fun _ _ => rfl
  simp only [nt, asAgg_agg, List.take_zero, sizes_nil, if_true, List.getElem?_cons_zero, Option.bind_some, asVar_sl, h1, bin_lss, hneg, decide_false, asBool_bool, Bool.false_eq_true, if_false]
end Go.Proofs.Ytfdcdbkblkehcaa.Am
namespace Go.Proofs.Ytfdcdbkblkehcaa.Am
open Go
variable {E : Env}
set_option linter.unusedVariables false
theorem laws_eqVersionSS_l0_is (h : G_laws_eqVersionSS E) (a b : List (List Version)) (ha : a.length ≤ 1048576) (hb : b.length ≤ 1048576) (hao : ∀ x ∈ a, chainOk x) (hbo : ∀ x ∈ b, chainOk x) : ∀ (r s p p2 : List (List Version)) (i : Int), a = p ++ r → b = p2 ++ s → i = p.length → i = p2.length → r.length = s.length →
    laws_eqVersionSS_l0 E (.sl 1 (a.map chainU)) (.sl 1 (b.map chainU)) (.int .i64 i) = some (.bool (decide (r = s)))
  | [], [], p, p2, i, e, e2, hi, hi2, _ => by
    rw [laws_eqVersionSS_l0_eq]
    simp [mid_end e hi]
  | [], y :: s, _, _, _, _, _, _, _, hl => by cases hl
  | x :: r, [], _, _, _, _, _, _, _, hl => by cases hl
  | x :: r, y :: s, p, p2, i, e, e2, hi, hi2, hl => by
    obtain ⟨h0, hlt, hx, hw, hn, _⟩ := mid_at e hi (by omega)
    obtain ⟨_, _, hy, _, hn2, _⟩ := mid_at e2 hi2 (by omega)
    have hox : chainOk x := hao x (by rw [e]; simp)
    have hoy : chainOk y := hbo y (by rw [e2]; simp)
    have ih := laws_eqVersionSS_l0_is h a b ha hb hao hbo r s (p ++ [x]) (p2 ++ [y]) (i + 1) (mid_next e) (mid_next e2) hn hn2 (by simpa using hl)
    rw [laws_eqVersionSS_l0_eq]
    by_cases hxy : x = y
    · subst hxy
      simp [hlt, hx, hy, hw, ih, laws_eqVersionS_ch h.c_laws_eqVersionS _ _ hox hoy]
    · simp [hlt, hx, hy, hw, ih, laws_eqVersionS_ch h.c_laws_eqVersionS _ _ hox hoy, hxy]
theorem laws_eqVersionSS_is (h : G_laws_eqVersionSS E) (a b : List (List Version)) (ha : a.length ≤ 1048576) (hb : b.length ≤ 1048576) (hao : ∀ x ∈ a, chainOk x) (hbo : ∀ x ∈ b, chainOk x) : E 118 [.sl 1 (a.map chainU), .sl 1 (b.map chainU)] = some (.bool (decide (a = b))) := by
  rw [laws_eqVersionSS_E h]
  by_cases hl : a.length = b.length
  · simp [hl, laws_eqVersionSS_l0_is h a b ha hb hao hbo a b [] [] 0 rfl rfl rfl rfl hl]
  · have h1 : a ≠ b := fun e => hl (by rw [e])
    have h2 : (a.length : Int) ≠ b.length := by omega
    simp [h1, h2]
theorem laws_eqStore_is (h : G_laws_eqStore E) (s t : Store) (ho : s.ok) (ho2 : t.ok) : E 97 [s.u, t.u] = some (.bool (decide (s = t))) := by
  rw [laws_eqStore_E h]
  have h1 := laws_eqVersionSS_is h.c_laws_eqVersionSS s.chains t.chains ho.1 ho2.1 ho.2 ho2.2
  by_cases h2 : s.chains = t.chains <;> simp [h1, h2, Store.eq_iff]
  rw [h2] at h1
  simp [h1]
end Go.Proofs.Ytfdcdbkblkehcaa.Am
namespace Go.Proofs.Ytfdcdbkblkehcaa.Am
open Go
variable {E : Env}
set_option linter.unusedVariables false
def ver0 : Version := ⟨0, -1, 0, 0, 1000⟩
def store0 : Store := ⟨[[ver0], [ver0], [ver0], [ver0], [ver0], [ver0]]⟩
theorem store0_ok : store0.ok := by
  refine ⟨by decide, fun c hc => ?_⟩
  simp only [store0, List.mem_cons, List.not_mem_nil, or_false, or_self] at hc
  subst hc
  unfold chainOk
  decide
theorem spec_NewStore_is (h : G_spec_NewStore E) : E 312 [] = some store0.u := by rw [spec_NewStore_E h]; kernel_rfl
theorem impl_NewStore_is (h : G_impl_NewStore E) : E 314 [] = some store0.u := by rw [impl_NewStore_E h]; kernel_rfl
theorem impl_NewStore_F_is (h : G_impl_NewStore_F E) : E 100314 [] = some store0.u := by rw [impl_NewStore_F_E h]; kernel_rfl
def eng0 : U := .agg [.bool true, store0.u, .nsl 9, .nsl 2, .nsl 2, .int .i64 0]
def eng1 (s : U) : U := .agg [.bool true, s, .sl 9 [], .sl 2 [], .sl 2 [], .int .i64 0]
def node0 : U := .agg [eng0, .str ⟨#[]⟩]
def node1 (s : U) : U := .agg [eng1 s, .str ⟨#[]⟩]
theorem spec_NewEngine_is (h : G_spec_NewEngine E) : E 311 [.bool true] = some eng0 := by
  rw [spec_NewEngine_E h, spec_NewStore_is h.c_spec_NewStore, Option.bind_some, if_pos ⟨rfl, rfl⟩, if_pos ⟨rfl, rfl⟩, if_pos ⟨rfl, rfl⟩]
  rfl
theorem impl_NewEngine_is (h : G_impl_NewEngine E) : E 313 [.bool true] = some eng0 := by
  rw [impl_NewEngine_E h, impl_NewStore_is h.c_impl_NewStore, Option.bind_some, if_pos ⟨rfl, rfl⟩, if_pos ⟨rfl, rfl⟩, if_pos ⟨rfl, rfl⟩]
  rfl
theorem impl_NewEngine_F_is (h : G_impl_NewEngine_F E) : E 100313 [.bool true] = some (eng1 store0.u) := by
  rw [impl_NewEngine_F_E h, impl_NewStore_F_is h.c_impl_NewStore_F]
  rfl
theorem spec_NewNode_is (h : G_spec_NewNode E) : E 310 [] = some node0 := by
  rw [spec_NewNode_E h, spec_NewEngine_is h.c_spec_NewEngine]
  rfl
theorem impl_NewNode_is (h : G_impl_NewNode E) : E 308 [] = some node0 := by
  rw [impl_NewNode_E h, impl_NewEngine_is h.c_impl_NewEngine]
  rfl
theorem impl_NewNode_F_is (h : G_impl_NewNode_F E) : E 100308 [] = some (node1 store0.u) := by
  rw [impl_NewNode_F_E h, impl_NewEngine_F_is h.c_impl_NewEngine_F]
  rfl
def emp (k : Nat) (u : U) : Prop := u = .sl k [] ∨ u = .nsl k
theorem emp_len {k : Nat} {u : U} (h : emp k u) : U.lenOf false u = some 0 := by rcases h with rfl | rfl <;> rfl
theorem emp_var {k : Nat} {u : U} (h : emp k u) (K : U → Option U) : U.asVar false 1 u K = K u := by rcases h with rfl | rfl <;> rfl
theorem eqT_emp (h : G_laws_eqTransactionS E) {a b : U} (ha : emp 9 a) (hb : emp 9 b) : E 176 [a, b] = some (.bool true) := by
  rw [laws_eqTransactionS_E h, laws_eqTransactionS_l0_eq]; simp [emp_len ha, emp_len hb]
theorem eqL_emp (h : G_laws_eqLockS E) {a b : U} (ha : emp 2 a) (hb : emp 2 b) : E 175 [a, b] = some (.bool true) := by
  rw [laws_eqLockS_E h, laws_eqLockS_l0_eq]; simp [emp_len ha, emp_len hb]
theorem eqW_emp (h : G_laws_eqWaitS E) {a b : U} (ha : emp 2 a) (hb : emp 2 b) : E 174 [a, b] = some (.bool true) := by
  rw [laws_eqWaitS_E h, laws_eqWaitS_l0_eq]; simp [emp_len ha, emp_len hb]
theorem eqE_emp (h : G_laws_eqEngine E) {a b c a' b' c' : U} (ha : emp 9 a) (hb : emp 2 b) (hc : emp 2 c) (ha' : emp 9 a') (hb' : emp 2 b') (hc' : emp 2 c') :
    E 125 [.agg [.bool true, store0.u, a, b, c, .int .i64 0], .agg [.bool true, store0.u, a', b', c', .int .i64 0]] = some (.bool true) := by
  rw [laws_eqEngine_E h]
  have h1 := laws_eqStore_is h.c_laws_eqStore store0 store0 store0_ok store0_ok
  rw [decide_eq_true rfl] at h1
  have nt : ∀ (us : List U) (K : U → Option U), U.noTup (.agg us) K = K (.agg us) := fun _ _ => rfl
  have z : ∀ {k : Nat} {u : U}, emp k u → u.size = 1 := fun h => by rcases h with rfl | rfl <;> rfl
  have eb : U.eqv 0 (.bool true) (.bool true) = some true := rfl
  simp only [nt, asAgg_agg, List.take_zero, sizes_nil, if_true, List.getElem?_cons_zero, List.getElem?_cons_succ, List.take_succ_cons, sizes_cons, size_bool, size_int, Store.u_size, z ha, z hb, z hc, z ha', z hb', z hc', Nat.reduceAdd, Nat.add_zero, Option.bind_some, asVar_bool, asVar_int, Store.u_var, emp_var ha, emp_var hb, emp_var hc, emp_var ha', emp_var hb', emp_var hc', eb, Bool.not_true, asBool_bool, Bool.false_eq_true, if_false, h1, un_not, eqT_emp h.c_laws_eqTransactionS ha ha', eqL_emp h.c_laws_eqLockS hb hb', eqW_emp h.c_laws_eqWaitS hc hc', bin_neq, ne_eq, not_true_eq_false, decide_false]
theorem eqN (h : G_laws_eqNode E) {x y : U} (hx : ∀ K : U → Option U, U.asVar true 6 x K = K x) (hy : ∀ K : U → Option U, U.asVar true 6 y K = K y) (zx : x.size = 6) (zy : y.size = 6) (he : E 125 [x, y] = some (.bool true)) :
    E 260 [.agg [x, .str ⟨#[]⟩], .agg [y, .str ⟨#[]⟩]] = some (.bool true) := by
  rw [laws_eqNode_E h]
  have nt : ∀ (us : List U) (K : U → Option U), U.noTup (.agg us) K = K (.agg us) := fun _ _ => rfl
  simp only [nt, asAgg_agg, List.take_zero, sizes_nil, if_true, List.getElem?_cons_zero, List.getElem?_cons_succ, List.take_succ_cons, sizes_cons, zx, zy, Nat.add_zero, Option.bind_some, hx, hy, he, un_not, Bool.not_true, asBool_bool, Bool.false_eq_true, if_false, asVar_str]
  have hb : U.bin .neq (.str ⟨#[]⟩) (.str ⟨#[]⟩) = some (.bool false) := by simp [U.bin]
  rw [hb]
  rfl
theorem eq_01 (h : G_laws_eqNode E) : E 260 [node1 store0.u, node0] = some (.bool true) := eqN h (fun _ => rfl) (fun _ => rfl) rfl rfl (eqE_emp h.c_laws_eqEngine (.inl rfl) (.inl rfl) (.inl rfl) (.inr rfl) (.inr rfl) (.inr rfl))
theorem eq_00 (h : G_laws_eqNode E) : E 260 [node0, node0] = some (.bool true) := eqN h (fun _ => rfl) (fun _ => rfl) rfl rfl (eqE_emp h.c_laws_eqEngine (.inr rfl) (.inr rfl) (.inr rfl) (.inr rfl) (.inr rfl) (.inr rfl))
theorem markT_emp (h : G_laws_markTransactionS_M E) (k : Int) : E 200318 (.agg [.tup [.sl 9 []]] :: [.int .i64 k]) = some (.tup [.int .i64 k, .sl 9 []]) := by
  rw [laws_markTransactionS_M_E h, laws_markTransactionS_M_l0_eq]; simp [U.flat]
theorem markL_emp (h : G_laws_markLockS_M E) (k : Int) : E 200317 (.agg [.tup [.sl 2 []]] :: [.int .i64 k]) = some (.tup [.int .i64 k, .sl 2 []]) := by
  rw [laws_markLockS_M_E h, laws_markLockS_M_l0_eq]; simp [U.flat]
theorem markW_emp (h : G_laws_markWaitS_M E) (k : Int) : E 200316 (.agg [.tup [.sl 2 []]] :: [.int .i64 k]) = some (.tup [.int .i64 k, .sl 2 []]) := by
  rw [laws_markWaitS_M_E h, laws_markWaitS_M_l0_eq]; simp [U.flat]
def marked0 : List U := (upChains 1 [1, 1, 1, 1, 1, 1]).map chainU
theorem markS_0 (h : G_laws_markVersionSS_M E) : E 200121 (.agg [.tup [.sl 1 (store0.chains.map chainU)]] :: [.int .i64 1]) = some (.tup [.int .i64 31, .sl 1 marked0]) :=
  laws_markVersionSS_M_is h store0.chains (by decide) store0_ok.2 1 (by omega) (by decide)
theorem held0 (h : G_laws_heldNode E) : E 307 [node1 (.agg [.sl 1 marked0]), .int .i64 1] = some (.int .i64 31) := by
  have hT : E 322 [.sl 9 [], .int .i64 31] = some (.int .i64 31) := by rw [laws_heldTransactionS_E h.c_laws_heldEngine.c_laws_heldTransactionS, laws_heldTransactionS_l0_eq]; simp
  have hL : E 321 [.sl 2 [], .int .i64 31] = some (.int .i64 31) := by rw [laws_heldLockS_E h.c_laws_heldEngine.c_laws_heldLockS, laws_heldLockS_l0_eq]; simp
  have hW : E 320 [.sl 2 [], .int .i64 31] = some (.int .i64 31) := by rw [laws_heldWaitS_E h.c_laws_heldEngine.c_laws_heldWaitS, laws_heldWaitS_l0_eq]; simp
  have hS : E 206 [.agg [.sl 1 marked0], .int .i64 1] = some (.int .i64 31) := laws_heldStore_is h.c_laws_heldEngine.c_laws_heldStore [1, 1, 1, 1, 1, 1] (by decide) (by decide) 1 (by omega) (by decide)
  have hE : E 319 [eng1 (.agg [.sl 1 marked0]), .int .i64 1] = some (.int .i64 31) := by
    rw [laws_heldEngine_E h.c_laws_heldEngine]
    generalize marked0 = m at *
    have nt : ∀ (us : List U) (K : U → Option U), U.noTup (.agg us) K = K (.agg us) := fun _ _ => rfl
    have vs : ∀ K : U → Option U, U.asVar true 1 (.agg [.sl 1 m]) K = K (.agg [.sl 1 m]) := fun _ => rfl
    have zs : (U.agg [.sl 1 m]).size = 1 := rfl
    simp only [eng1, nt, asAgg_agg, List.take_zero, sizes_nil, if_true, List.getElem?_cons_zero, List.getElem?_cons_succ, List.take_succ_cons, sizes_cons, size_bool, size_int, size_sl, zs, Nat.reduceAdd, Nat.add_zero, Option.bind_some, vs, hS, bin_lss, asVar_sl, hT, hL, hW, asBool_bool]
    rfl
  rw [laws_heldNode_E h]
  have nt : ∀ (us : List U) (K : U → Option U), U.noTup (.agg us) K = K (.agg us) := fun _ _ => rfl
  have ve : ∀ K : U → Option U, U.asVar true 6 (eng1 (.agg [.sl 1 marked0])) K = K (eng1 (.agg [.sl 1 marked0])) := fun _ => rfl
  simp only [node1, nt, asAgg_agg, List.take_zero, sizes_nil, if_true, List.getElem?_cons_zero, Option.bind_some, ve, hE, bin_lss, asBool_bool]
  rfl
end Go.Proofs.Ytfdcdbkblkehcaa.Am
namespace Go.Proofs.Ytfdcdbkblkehcaa.Am
open Go
theorem fits_nil {us : List U} (h : Fits.fits [] us) : us = [] := by
  cases us with
  | nil => rfl
  | cons u us => exact h.elim
end Go.Proofs.Ytfdcdbkblkehcaa.Am
namespace Go.Proofs.Ytfdcdbkblkehcaa.Am
open Go
variable {E : Env}
theorem law_NewNode (h : G_laws_FnExactNewNode E) (us : List U) (hus : Fits.fits [] us) : E 306 us = some (.bool true) := by
  obtain rfl := fits_nil hus
  rw [laws_FnExactNewNode_E h]
  have e01 := eq_01 h.c_laws_eqNode
  have e00 := eq_00 h.c_laws_eqNode
  have mS := markS_0 h.c_laws_markVersionSS_M
  have mT := markT_emp h.c_laws_markTransactionS_M 31
  have mL := markL_emp h.c_laws_markLockS_M 31
  have mW := markW_emp h.c_laws_markWaitS_M 31
  have hd := held0 h.c_laws_heldNode
  rw [spec_NewNode_is h.c_spec_NewNode, Option.bind_some, if_pos ⟨rfl, rfl⟩, impl_NewNode_F_is h.c_impl_NewNode_F, Option.bind_some]
  show (E 260 [node1 store0.u, node0]).bind _ = _
  rw [e01]
  show (E 200121 (.agg [.tup [.sl 1 (store0.chains.map chainU)]] :: [.int .i64 1])).bind _ = _
  rw [mS]
  show (E 200318 (.agg [.tup [.sl 9 []]] :: [.int .i64 31])).bind _ = _
  rw [mT]
  show (E 200317 (.agg [.tup [.sl 2 []]] :: [.int .i64 31])).bind _ = _
  rw [mL]
  show (E 200316 (.agg [.tup [.sl 2 []]] :: [.int .i64 31])).bind _ = _
  rw [mW]
  show (E 307 [node1 (.agg [.sl 1 marked0]), .int .i64 1]).bind _ = _
  rw [hd]
  show (E 308 []).bind _ = _
  rw [impl_NewNode_is h.c_impl_NewNode]
  show (E 260 [node0, node0]).bind _ = _
  rw [e00]
  show (E 307 [node1 (.agg [.sl 1 marked0]), .int .i64 1]).bind _ = _
  rw [hd]
  rfl
end Go.Proofs.Ytfdcdbkblkehcaa.Am
