import Derived.Test.YtfdcdbkblkehcaaAmX
import Derived.Test.YtfdcdbkblkehcaaEqualNodesF1
import Derived.Test.YtfdcdbkblkehcaaEqualNodesF0
import Derived.Test.YtfdcdbkblkehcaaAmY
/-
  The program's data, as plain Lean data, and how the machine reads them.
-/
namespace Go.Proofs.Ytfdcdbkblkehcaa.Am
open Go
variable {α : Type}

def intU (n : Int) : U := .int .i64 n
@[simp] theorem intU_size (n : Int) : (intU n).size = 1 := rfl
@[simp] theorem asVar_intU (n : Int) (K : U → Option α) : U.asVar false 1 (intU n) K = K (.int .i64 n) := rfl
@[simp] theorem storable_intU (n : Int) : storable (.val (intU n)) = true := rfl
abbrev intsU (l : List Int) : U := .sl 1 (l.map intU)

structure Edge where
  frm : Int
  to : Int
  kind : Int
  key : Int
  deriving DecidableEq
theorem Edge.eq_iff (x y : Edge) : x = y ↔ x.frm = y.frm ∧ x.to = y.to ∧ x.kind = y.kind ∧ x.key = y.key := by cases x; cases y; simp only [Edge.mk.injEq]
def Edge.u (e : Edge) : U := .agg [.int .i64 e.frm, .int .i64 e.to, .int .i64 e.kind, .int .i64 e.key]
@[simp] theorem Edge.u_size (e : Edge) : e.u.size = 4 := rfl
@[simp] theorem Edge.u_var (e : Edge) (K : U → Option α) : U.asVar true 4 e.u K = K e.u := rfl
@[simp] theorem Edge.u_storable (e : Edge) : storable (.val e.u) = true := rfl
@[simp] theorem Edge.u_noTup (e : Edge) (K : U → Option α) : U.noTup e.u K = K e.u := rfl
@[simp] theorem Edge.u_agg (e : Edge) (K : List U → Option α) : U.asAgg e.u K = K [.int .i64 e.frm, .int .i64 e.to, .int .i64 e.kind, .int .i64 e.key] := rfl
@[simp] theorem Edge.u_at0 (e : Edge) (K : U → Option α) : U.fieldAt 0 0 e.u K = K (.int .i64 e.frm) := rfl
@[simp] theorem Edge.u_at1 (e : Edge) (K : U → Option α) : U.fieldAt 1 1 e.u K = K (.int .i64 e.to) := rfl
@[simp] theorem Edge.u_at2 (e : Edge) (K : U → Option α) : U.fieldAt 2 2 e.u K = K (.int .i64 e.kind) := rfl
@[simp] theorem Edge.u_at3 (e : Edge) (K : U → Option α) : U.fieldAt 3 3 e.u K = K (.int .i64 e.key) := rfl
@[simp] theorem Edge.u_flat (e : Edge) : e.u.flat = true := rfl
@[simp] theorem Edge.u_asFlat (e : Edge) (K : U → Option α) : U.asFlat e.u K = K e.u := rfl
@[simp] theorem Edge.u_eqv (x y : Edge) : U.eqv 6 x.u y.u = some (decide (x = y)) := by
  obtain ⟨a0, a1, a2, a3⟩ := x
  obtain ⟨b0, b1, b2, b3⟩ := y
  simp only [Edge.mk.injEq]
  show (if 4 = 4 then eqInts _ _ else none) = _
  simp only [if_true, eqInts_cons, eqInts_nil, Option.map_some, Bool.decide_and, Bool.and_true]
  rfl

structure ReadMark where
  key : Int
  created : Int
  deriving DecidableEq
theorem ReadMark.eq_iff (x y : ReadMark) : x = y ↔ x.key = y.key ∧ x.created = y.created := by cases x; cases y; simp only [ReadMark.mk.injEq]
def ReadMark.u (e : ReadMark) : U := .agg [.int .i64 e.key, .int .i64 e.created]
@[simp] theorem ReadMark.u_size (e : ReadMark) : e.u.size = 2 := rfl
@[simp] theorem ReadMark.u_var (e : ReadMark) (K : U → Option α) : U.asVar true 2 e.u K = K e.u := rfl
@[simp] theorem ReadMark.u_storable (e : ReadMark) : storable (.val e.u) = true := rfl
@[simp] theorem ReadMark.u_noTup (e : ReadMark) (K : U → Option α) : U.noTup e.u K = K e.u := rfl
@[simp] theorem ReadMark.u_agg (e : ReadMark) (K : List U → Option α) : U.asAgg e.u K = K [.int .i64 e.key, .int .i64 e.created] := rfl
@[simp] theorem ReadMark.u_at0 (e : ReadMark) (K : U → Option α) : U.fieldAt 0 0 e.u K = K (.int .i64 e.key) := rfl
@[simp] theorem ReadMark.u_at1 (e : ReadMark) (K : U → Option α) : U.fieldAt 1 1 e.u K = K (.int .i64 e.created) := rfl
@[simp] theorem ReadMark.u_flat (e : ReadMark) : e.u.flat = true := rfl
@[simp] theorem ReadMark.u_asFlat (e : ReadMark) (K : U → Option α) : U.asFlat e.u K = K e.u := rfl
@[simp] theorem ReadMark.u_eqv (x y : ReadMark) : U.eqv 4 x.u y.u = some (decide (x = y)) := by
  obtain ⟨a0, a1⟩ := x
  obtain ⟨b0, b1⟩ := y
  simp only [ReadMark.mk.injEq]
  show (if 2 = 2 then eqInts _ _ else none) = _
  simp only [if_true, eqInts_cons, eqInts_nil, Option.map_some, Bool.decide_and, Bool.and_true]
  rfl

structure Write where
  key : Int
  value : Int
  deriving DecidableEq
theorem Write.eq_iff (x y : Write) : x = y ↔ x.key = y.key ∧ x.value = y.value := by cases x; cases y; simp only [Write.mk.injEq]
def Write.u (e : Write) : U := .agg [.int .i64 e.key, .int .i64 e.value]
@[simp] theorem Write.u_size (e : Write) : e.u.size = 2 := rfl
@[simp] theorem Write.u_var (e : Write) (K : U → Option α) : U.asVar true 2 e.u K = K e.u := rfl
@[simp] theorem Write.u_storable (e : Write) : storable (.val e.u) = true := rfl
@[simp] theorem Write.u_noTup (e : Write) (K : U → Option α) : U.noTup e.u K = K e.u := rfl
@[simp] theorem Write.u_agg (e : Write) (K : List U → Option α) : U.asAgg e.u K = K [.int .i64 e.key, .int .i64 e.value] := rfl
@[simp] theorem Write.u_at0 (e : Write) (K : U → Option α) : U.fieldAt 0 0 e.u K = K (.int .i64 e.key) := rfl
@[simp] theorem Write.u_at1 (e : Write) (K : U → Option α) : U.fieldAt 1 1 e.u K = K (.int .i64 e.value) := rfl
@[simp] theorem Write.u_flat (e : Write) : e.u.flat = true := rfl
@[simp] theorem Write.u_asFlat (e : Write) (K : U → Option α) : U.asFlat e.u K = K e.u := rfl
@[simp] theorem Write.u_eqv (x y : Write) : U.eqv 4 x.u y.u = some (decide (x = y)) := by
  obtain ⟨a0, a1⟩ := x
  obtain ⟨b0, b1⟩ := y
  simp only [Write.mk.injEq]
  show (if 2 = 2 then eqInts _ _ else none) = _
  simp only [if_true, eqInts_cons, eqInts_nil, Option.map_some, Bool.decide_and, Bool.and_true]
  rfl

structure Lock where
  key : Int
  owner : Int
  deriving DecidableEq
theorem Lock.eq_iff (x y : Lock) : x = y ↔ x.key = y.key ∧ x.owner = y.owner := by cases x; cases y; simp only [Lock.mk.injEq]
def Lock.u (e : Lock) : U := .agg [.int .i64 e.key, .int .i64 e.owner]
@[simp] theorem Lock.u_size (e : Lock) : e.u.size = 2 := rfl
@[simp] theorem Lock.u_var (e : Lock) (K : U → Option α) : U.asVar true 2 e.u K = K e.u := rfl
@[simp] theorem Lock.u_storable (e : Lock) : storable (.val e.u) = true := rfl
@[simp] theorem Lock.u_noTup (e : Lock) (K : U → Option α) : U.noTup e.u K = K e.u := rfl
@[simp] theorem Lock.u_agg (e : Lock) (K : List U → Option α) : U.asAgg e.u K = K [.int .i64 e.key, .int .i64 e.owner] := rfl
@[simp] theorem Lock.u_at0 (e : Lock) (K : U → Option α) : U.fieldAt 0 0 e.u K = K (.int .i64 e.key) := rfl
@[simp] theorem Lock.u_at1 (e : Lock) (K : U → Option α) : U.fieldAt 1 1 e.u K = K (.int .i64 e.owner) := rfl
@[simp] theorem Lock.u_flat (e : Lock) : e.u.flat = true := rfl
@[simp] theorem Lock.u_asFlat (e : Lock) (K : U → Option α) : U.asFlat e.u K = K e.u := rfl
@[simp] theorem Lock.u_eqv (x y : Lock) : U.eqv 4 x.u y.u = some (decide (x = y)) := by
  obtain ⟨a0, a1⟩ := x
  obtain ⟨b0, b1⟩ := y
  simp only [Lock.mk.injEq]
  show (if 2 = 2 then eqInts _ _ else none) = _
  simp only [if_true, eqInts_cons, eqInts_nil, Option.map_some, Bool.decide_and, Bool.and_true]
  rfl

structure Wait where
  id : Int
  for_ : Int
  deriving DecidableEq
theorem Wait.eq_iff (x y : Wait) : x = y ↔ x.id = y.id ∧ x.for_ = y.for_ := by cases x; cases y; simp only [Wait.mk.injEq]
def Wait.u (e : Wait) : U := .agg [.int .i64 e.id, .int .i64 e.for_]
@[simp] theorem Wait.u_size (e : Wait) : e.u.size = 2 := rfl
@[simp] theorem Wait.u_var (e : Wait) (K : U → Option α) : U.asVar true 2 e.u K = K e.u := rfl
@[simp] theorem Wait.u_storable (e : Wait) : storable (.val e.u) = true := rfl
@[simp] theorem Wait.u_noTup (e : Wait) (K : U → Option α) : U.noTup e.u K = K e.u := rfl
@[simp] theorem Wait.u_agg (e : Wait) (K : List U → Option α) : U.asAgg e.u K = K [.int .i64 e.id, .int .i64 e.for_] := rfl
@[simp] theorem Wait.u_at0 (e : Wait) (K : U → Option α) : U.fieldAt 0 0 e.u K = K (.int .i64 e.id) := rfl
@[simp] theorem Wait.u_at1 (e : Wait) (K : U → Option α) : U.fieldAt 1 1 e.u K = K (.int .i64 e.for_) := rfl
@[simp] theorem Wait.u_flat (e : Wait) : e.u.flat = true := rfl
@[simp] theorem Wait.u_asFlat (e : Wait) (K : U → Option α) : U.asFlat e.u K = K e.u := rfl
@[simp] theorem Wait.u_eqv (x y : Wait) : U.eqv 4 x.u y.u = some (decide (x = y)) := by
  obtain ⟨a0, a1⟩ := x
  obtain ⟨b0, b1⟩ := y
  simp only [Wait.mk.injEq]
  show (if 2 = 2 then eqInts _ _ else none) = _
  simp only [if_true, eqInts_cons, eqInts_nil, Option.map_some, Bool.decide_and, Bool.and_true]
  rfl

structure Version where
  writer : Int
  value : Int
  created : Int
  reader : Int
  successor : Int
  deriving DecidableEq
theorem Version.eq_iff (x y : Version) : x = y ↔ x.writer = y.writer ∧ x.value = y.value ∧ x.created = y.created ∧ x.reader = y.reader ∧ x.successor = y.successor := by cases x; cases y; simp only [Version.mk.injEq]
def Version.u (e : Version) : U := .agg [.int .i64 e.writer, .int .i64 e.value, .int .i64 e.created, .int .i64 e.reader, .int .i64 e.successor]
@[simp] theorem Version.u_size (e : Version) : e.u.size = 5 := rfl
@[simp] theorem Version.u_var (e : Version) (K : U → Option α) : U.asVar true 5 e.u K = K e.u := rfl
@[simp] theorem Version.u_storable (e : Version) : storable (.val e.u) = true := rfl
@[simp] theorem Version.u_noTup (e : Version) (K : U → Option α) : U.noTup e.u K = K e.u := rfl
@[simp] theorem Version.u_agg (e : Version) (K : List U → Option α) : U.asAgg e.u K = K [.int .i64 e.writer, .int .i64 e.value, .int .i64 e.created, .int .i64 e.reader, .int .i64 e.successor] := rfl
@[simp] theorem Version.u_at0 (e : Version) (K : U → Option α) : U.fieldAt 0 0 e.u K = K (.int .i64 e.writer) := rfl
@[simp] theorem Version.u_at1 (e : Version) (K : U → Option α) : U.fieldAt 1 1 e.u K = K (.int .i64 e.value) := rfl
@[simp] theorem Version.u_at2 (e : Version) (K : U → Option α) : U.fieldAt 2 2 e.u K = K (.int .i64 e.created) := rfl
@[simp] theorem Version.u_at3 (e : Version) (K : U → Option α) : U.fieldAt 3 3 e.u K = K (.int .i64 e.reader) := rfl
@[simp] theorem Version.u_at4 (e : Version) (K : U → Option α) : U.fieldAt 4 4 e.u K = K (.int .i64 e.successor) := rfl
@[simp] theorem Version.u_flat (e : Version) : e.u.flat = true := rfl
@[simp] theorem Version.u_asFlat (e : Version) (K : U → Option α) : U.asFlat e.u K = K e.u := rfl
@[simp] theorem Version.u_eqv (x y : Version) : U.eqv 7 x.u y.u = some (decide (x = y)) := by
  obtain ⟨a0, a1, a2, a3, a4⟩ := x
  obtain ⟨b0, b1, b2, b3, b4⟩ := y
  simp only [Version.mk.injEq]
  show (if 5 = 5 then eqInts _ _ else none) = _
  simp only [if_true, eqInts_cons, eqInts_nil, Option.map_some, Bool.decide_and, Bool.and_true]
  rfl

structure Entry where
  id : Int
  stamp : Int
  reads : List ReadMark
  writes : List Write
  deriving DecidableEq
theorem Entry.eq_iff (x y : Entry) : x = y ↔ x.id = y.id ∧ x.stamp = y.stamp ∧ x.reads = y.reads ∧ x.writes = y.writes := by cases x; cases y; simp only [Entry.mk.injEq]
def Entry.u (e : Entry) : U := .agg [.int .i64 e.id, .int .i64 e.stamp, .sl 2 (e.reads.map ReadMark.u), .sl 2 (e.writes.map Write.u)]
@[simp] theorem Entry.u_size (e : Entry) : e.u.size = 4 := rfl
@[simp] theorem Entry.u_var (e : Entry) (K : U → Option α) : U.asVar true 4 e.u K = K e.u := rfl
@[simp] theorem Entry.u_storable (e : Entry) : storable (.val e.u) = true := rfl
@[simp] theorem Entry.u_noTup (e : Entry) (K : U → Option α) : U.noTup e.u K = K e.u := rfl
@[simp] theorem Entry.u_agg (e : Entry) (K : List U → Option α) : U.asAgg e.u K = K [.int .i64 e.id, .int .i64 e.stamp, .sl 2 (e.reads.map ReadMark.u), .sl 2 (e.writes.map Write.u)] := rfl
@[simp] theorem Entry.u_at0 (e : Entry) (K : U → Option α) : U.fieldAt 0 0 e.u K = K (.int .i64 e.id) := rfl
@[simp] theorem Entry.u_at1 (e : Entry) (K : U → Option α) : U.fieldAt 1 1 e.u K = K (.int .i64 e.stamp) := rfl
@[simp] theorem Entry.u_at2 (e : Entry) (K : U → Option α) : U.fieldAt 2 2 e.u K = K (.sl 2 (e.reads.map ReadMark.u)) := rfl
@[simp] theorem Entry.u_at3 (e : Entry) (K : U → Option α) : U.fieldAt 3 3 e.u K = K (.sl 2 (e.writes.map Write.u)) := rfl

structure LogRecord where
  stamp : Int
  id : Int
  high : Int
  safe : Int
  reads : List ReadMark
  writes : List Write
  deriving DecidableEq
theorem LogRecord.eq_iff (x y : LogRecord) : x = y ↔ x.stamp = y.stamp ∧ x.id = y.id ∧ x.high = y.high ∧ x.safe = y.safe ∧ x.reads = y.reads ∧ x.writes = y.writes := by cases x; cases y; simp only [LogRecord.mk.injEq]
def LogRecord.u (e : LogRecord) : U := .agg [.int .i64 e.stamp, .int .i64 e.id, .int .i64 e.high, .int .i64 e.safe, .sl 2 (e.reads.map ReadMark.u), .sl 2 (e.writes.map Write.u)]
@[simp] theorem LogRecord.u_size (e : LogRecord) : e.u.size = 6 := rfl
@[simp] theorem LogRecord.u_var (e : LogRecord) (K : U → Option α) : U.asVar true 6 e.u K = K e.u := rfl
@[simp] theorem LogRecord.u_storable (e : LogRecord) : storable (.val e.u) = true := rfl
@[simp] theorem LogRecord.u_noTup (e : LogRecord) (K : U → Option α) : U.noTup e.u K = K e.u := rfl
@[simp] theorem LogRecord.u_agg (e : LogRecord) (K : List U → Option α) : U.asAgg e.u K = K [.int .i64 e.stamp, .int .i64 e.id, .int .i64 e.high, .int .i64 e.safe, .sl 2 (e.reads.map ReadMark.u), .sl 2 (e.writes.map Write.u)] := rfl
@[simp] theorem LogRecord.u_at0 (e : LogRecord) (K : U → Option α) : U.fieldAt 0 0 e.u K = K (.int .i64 e.stamp) := rfl
@[simp] theorem LogRecord.u_at1 (e : LogRecord) (K : U → Option α) : U.fieldAt 1 1 e.u K = K (.int .i64 e.id) := rfl
@[simp] theorem LogRecord.u_at2 (e : LogRecord) (K : U → Option α) : U.fieldAt 2 2 e.u K = K (.int .i64 e.high) := rfl
@[simp] theorem LogRecord.u_at3 (e : LogRecord) (K : U → Option α) : U.fieldAt 3 3 e.u K = K (.int .i64 e.safe) := rfl
@[simp] theorem LogRecord.u_at4 (e : LogRecord) (K : U → Option α) : U.fieldAt 4 4 e.u K = K (.sl 2 (e.reads.map ReadMark.u)) := rfl
@[simp] theorem LogRecord.u_at5 (e : LogRecord) (K : U → Option α) : U.fieldAt 5 5 e.u K = K (.sl 2 (e.writes.map Write.u)) := rfl

structure Transaction where
  id : Int
  scheme : Int
  state : Int
  begin_ : Int
  low : Int
  high : Int
  commit : Int
  reads : List ReadMark
  writes : List Write
  deriving DecidableEq
theorem Transaction.eq_iff (x y : Transaction) : x = y ↔ x.id = y.id ∧ x.scheme = y.scheme ∧ x.state = y.state ∧ x.begin_ = y.begin_ ∧ x.low = y.low ∧ x.high = y.high ∧ x.commit = y.commit ∧ x.reads = y.reads ∧ x.writes = y.writes := by cases x; cases y; simp only [Transaction.mk.injEq]
def Transaction.u (e : Transaction) : U := .agg [.int .i64 e.id, .int .i64 e.scheme, .int .i64 e.state, .int .i64 e.begin_, .int .i64 e.low, .int .i64 e.high, .int .i64 e.commit, .sl 2 (e.reads.map ReadMark.u), .sl 2 (e.writes.map Write.u)]
@[simp] theorem Transaction.u_size (e : Transaction) : e.u.size = 9 := rfl
@[simp] theorem Transaction.u_var (e : Transaction) (K : U → Option α) : U.asVar true 9 e.u K = K e.u := rfl
@[simp] theorem Transaction.u_storable (e : Transaction) : storable (.val e.u) = true := rfl
@[simp] theorem Transaction.u_noTup (e : Transaction) (K : U → Option α) : U.noTup e.u K = K e.u := rfl
@[simp] theorem Transaction.u_agg (e : Transaction) (K : List U → Option α) : U.asAgg e.u K = K [.int .i64 e.id, .int .i64 e.scheme, .int .i64 e.state, .int .i64 e.begin_, .int .i64 e.low, .int .i64 e.high, .int .i64 e.commit, .sl 2 (e.reads.map ReadMark.u), .sl 2 (e.writes.map Write.u)] := rfl
@[simp] theorem Transaction.u_at0 (e : Transaction) (K : U → Option α) : U.fieldAt 0 0 e.u K = K (.int .i64 e.id) := rfl
@[simp] theorem Transaction.u_at1 (e : Transaction) (K : U → Option α) : U.fieldAt 1 1 e.u K = K (.int .i64 e.scheme) := rfl
@[simp] theorem Transaction.u_at2 (e : Transaction) (K : U → Option α) : U.fieldAt 2 2 e.u K = K (.int .i64 e.state) := rfl
@[simp] theorem Transaction.u_at3 (e : Transaction) (K : U → Option α) : U.fieldAt 3 3 e.u K = K (.int .i64 e.begin_) := rfl
@[simp] theorem Transaction.u_at4 (e : Transaction) (K : U → Option α) : U.fieldAt 4 4 e.u K = K (.int .i64 e.low) := rfl
@[simp] theorem Transaction.u_at5 (e : Transaction) (K : U → Option α) : U.fieldAt 5 5 e.u K = K (.int .i64 e.high) := rfl
@[simp] theorem Transaction.u_at6 (e : Transaction) (K : U → Option α) : U.fieldAt 6 6 e.u K = K (.int .i64 e.commit) := rfl
@[simp] theorem Transaction.u_at7 (e : Transaction) (K : U → Option α) : U.fieldAt 7 7 e.u K = K (.sl 2 (e.reads.map ReadMark.u)) := rfl
@[simp] theorem Transaction.u_at8 (e : Transaction) (K : U → Option α) : U.fieldAt 8 8 e.u K = K (.sl 2 (e.writes.map Write.u)) := rfl

structure Op where
  kind : Int
  id : Int
  scheme : Int
  key : Int
  high : Int
  value : Int
  deriving DecidableEq
theorem Op.eq_iff (x y : Op) : x = y ↔ x.kind = y.kind ∧ x.id = y.id ∧ x.scheme = y.scheme ∧ x.key = y.key ∧ x.high = y.high ∧ x.value = y.value := by cases x; cases y; simp only [Op.mk.injEq]
def Op.u (e : Op) : U := .agg [.int .i64 e.kind, .int .i64 e.id, .int .i64 e.scheme, .int .i64 e.key, .int .i64 e.high, .int .i64 e.value]
@[simp] theorem Op.u_size (e : Op) : e.u.size = 6 := rfl
@[simp] theorem Op.u_var (e : Op) (K : U → Option α) : U.asVar true 6 e.u K = K e.u := rfl
@[simp] theorem Op.u_storable (e : Op) : storable (.val e.u) = true := rfl
@[simp] theorem Op.u_noTup (e : Op) (K : U → Option α) : U.noTup e.u K = K e.u := rfl
@[simp] theorem Op.u_agg (e : Op) (K : List U → Option α) : U.asAgg e.u K = K [.int .i64 e.kind, .int .i64 e.id, .int .i64 e.scheme, .int .i64 e.key, .int .i64 e.high, .int .i64 e.value] := rfl
@[simp] theorem Op.u_at0 (e : Op) (K : U → Option α) : U.fieldAt 0 0 e.u K = K (.int .i64 e.kind) := rfl
@[simp] theorem Op.u_at1 (e : Op) (K : U → Option α) : U.fieldAt 1 1 e.u K = K (.int .i64 e.id) := rfl
@[simp] theorem Op.u_at2 (e : Op) (K : U → Option α) : U.fieldAt 2 2 e.u K = K (.int .i64 e.scheme) := rfl
@[simp] theorem Op.u_at3 (e : Op) (K : U → Option α) : U.fieldAt 3 3 e.u K = K (.int .i64 e.key) := rfl
@[simp] theorem Op.u_at4 (e : Op) (K : U → Option α) : U.fieldAt 4 4 e.u K = K (.int .i64 e.high) := rfl
@[simp] theorem Op.u_at5 (e : Op) (K : U → Option α) : U.fieldAt 5 5 e.u K = K (.int .i64 e.value) := rfl
@[simp] theorem Op.u_flat (e : Op) : e.u.flat = true := rfl
@[simp] theorem Op.u_asFlat (e : Op) (K : U → Option α) : U.asFlat e.u K = K e.u := rfl
@[simp] theorem Op.u_eqv (x y : Op) : U.eqv 8 x.u y.u = some (decide (x = y)) := by
  obtain ⟨a0, a1, a2, a3, a4, a5⟩ := x
  obtain ⟨b0, b1, b2, b3, b4, b5⟩ := y
  simp only [Op.mk.injEq]
  show (if 6 = 6 then eqInts _ _ else none) = _
  simp only [if_true, eqInts_cons, eqInts_nil, Option.map_some, Bool.decide_and, Bool.and_true]
  rfl

structure StepR where
  code : Int
  values : List Int
  deriving DecidableEq
theorem StepR.eq_iff (x y : StepR) : x = y ↔ x.code = y.code ∧ x.values = y.values := by cases x; cases y; simp only [StepR.mk.injEq]
def StepR.u (e : StepR) : U := .agg [.int .i64 e.code, .sl 1 (e.values.map intU)]
@[simp] theorem StepR.u_size (e : StepR) : e.u.size = 2 := rfl
@[simp] theorem StepR.u_var (e : StepR) (K : U → Option α) : U.asVar true 2 e.u K = K e.u := rfl
@[simp] theorem StepR.u_storable (e : StepR) : storable (.val e.u) = true := rfl
@[simp] theorem StepR.u_noTup (e : StepR) (K : U → Option α) : U.noTup e.u K = K e.u := rfl
@[simp] theorem StepR.u_agg (e : StepR) (K : List U → Option α) : U.asAgg e.u K = K [.int .i64 e.code, .sl 1 (e.values.map intU)] := rfl
@[simp] theorem StepR.u_at0 (e : StepR) (K : U → Option α) : U.fieldAt 0 0 e.u K = K (.int .i64 e.code) := rfl
@[simp] theorem StepR.u_at1 (e : StepR) (K : U → Option α) : U.fieldAt 1 1 e.u K = K (.sl 1 (e.values.map intU)) := rfl

def chainU (l : List Version) : U := .sl 5 (l.map Version.u)
@[simp] theorem chainU_size (l : List Version) : (chainU l).size = 1 := rfl
@[simp] theorem asVar_chainU (l : List Version) (K : U → Option α) : U.asVar false 1 (chainU l) K = K (chainU l) := rfl
@[simp] theorem storable_chainU (l : List Version) : storable (.val (chainU l)) = true := rfl
@[simp] theorem noTup_chainU (l : List Version) (K : U → Option α) : U.noTup (chainU l) K = K (chainU l) := rfl
@[simp] theorem lenOf_chainU (l : List Version) : U.lenOf false (chainU l) = some l.length := by simp [chainU]
@[simp] theorem elemAt_chainU (l : List Version) (i : Int) (K : U → Option α) : U.elemAt 5 (chainU l) i K = U.elemAt 5 (.sl 5 (l.map Version.u)) i K := rfl

structure Store where
  chains : List (List Version)
  deriving DecidableEq
theorem Store.eq_iff (x y : Store) : x = y ↔ x.chains = y.chains := by cases x; cases y; simp only [Store.mk.injEq]
def Store.u (e : Store) : U := .agg [.sl 1 (e.chains.map chainU)]
@[simp] theorem Store.u_size (e : Store) : e.u.size = 1 := rfl
@[simp] theorem Store.u_var (e : Store) (K : U → Option α) : U.asVar true 1 e.u K = K e.u := rfl
@[simp] theorem Store.u_storable (e : Store) : storable (.val e.u) = true := rfl
@[simp] theorem Store.u_noTup (e : Store) (K : U → Option α) : U.noTup e.u K = K e.u := rfl
@[simp] theorem Store.u_agg (e : Store) (K : List U → Option α) : U.asAgg e.u K = K [.sl 1 (e.chains.map chainU)] := rfl
@[simp] theorem Store.u_at0 (e : Store) (K : U → Option α) : U.fieldAt 0 0 e.u K = K (.sl 1 (e.chains.map chainU)) := rfl

structure Engine where
  certify : Bool
  store : Store
  transactions : List Transaction
  locks : List Lock
  waits : List Wait
  stamp : Int
  deriving DecidableEq
theorem Engine.eq_iff (x y : Engine) : x = y ↔ x.certify = y.certify ∧ x.store = y.store ∧ x.transactions = y.transactions ∧ x.locks = y.locks ∧ x.waits = y.waits ∧ x.stamp = y.stamp := by cases x; cases y; simp only [Engine.mk.injEq]
def Engine.u (e : Engine) : U := .agg [.bool e.certify, e.store.u, .sl 9 (e.transactions.map Transaction.u), .sl 2 (e.locks.map Lock.u), .sl 2 (e.waits.map Wait.u), .int .i64 e.stamp]
@[simp] theorem Engine.u_size (e : Engine) : e.u.size = 6 := rfl
@[simp] theorem Engine.u_var (e : Engine) (K : U → Option α) : U.asVar true 6 e.u K = K e.u := rfl
@[simp] theorem Engine.u_storable (e : Engine) : storable (.val e.u) = true := rfl
@[simp] theorem Engine.u_noTup (e : Engine) (K : U → Option α) : U.noTup e.u K = K e.u := rfl
@[simp] theorem Engine.u_agg (e : Engine) (K : List U → Option α) : U.asAgg e.u K = K [.bool e.certify, e.store.u, .sl 9 (e.transactions.map Transaction.u), .sl 2 (e.locks.map Lock.u), .sl 2 (e.waits.map Wait.u), .int .i64 e.stamp] := rfl
@[simp] theorem Engine.u_at0 (e : Engine) (K : U → Option α) : U.fieldAt 0 0 e.u K = K (.bool e.certify) := rfl
@[simp] theorem Engine.u_at1 (e : Engine) (K : U → Option α) : U.fieldAt 1 1 e.u K = K (e.store.u) := rfl
@[simp] theorem Engine.u_at2 (e : Engine) (K : U → Option α) : U.fieldAt 2 2 e.u K = K (.sl 9 (e.transactions.map Transaction.u)) := rfl
@[simp] theorem Engine.u_at3 (e : Engine) (K : U → Option α) : U.fieldAt 3 3 e.u K = K (.sl 2 (e.locks.map Lock.u)) := rfl
@[simp] theorem Engine.u_at4 (e : Engine) (K : U → Option α) : U.fieldAt 4 4 e.u K = K (.sl 2 (e.waits.map Wait.u)) := rfl
@[simp] theorem Engine.u_at5 (e : Engine) (K : U → Option α) : U.fieldAt 5 5 e.u K = K (.int .i64 e.stamp) := rfl

structure Node where
  engine : Engine
  log : ByteArray
  deriving DecidableEq
theorem Node.eq_iff (x y : Node) : x = y ↔ x.engine = y.engine ∧ x.log = y.log := by cases x; cases y; simp only [Node.mk.injEq]
def Node.u (e : Node) : U := .agg [e.engine.u, .str e.log]
@[simp] theorem Node.u_size (e : Node) : e.u.size = 7 := rfl
@[simp] theorem Node.u_var (e : Node) (K : U → Option α) : U.asVar true 7 e.u K = K e.u := rfl
@[simp] theorem Node.u_storable (e : Node) : storable (.val e.u) = true := rfl
@[simp] theorem Node.u_noTup (e : Node) (K : U → Option α) : U.noTup e.u K = K e.u := rfl
@[simp] theorem Node.u_agg (e : Node) (K : List U → Option α) : U.asAgg e.u K = K [e.engine.u, .str e.log] := rfl
@[simp] theorem Node.u_at0 (e : Node) (K : U → Option α) : U.fieldAt 0 0 e.u K = K (e.engine.u) := rfl
@[simp] theorem Node.u_at1 (e : Node) (K : U → Option α) : U.fieldAt 1 6 e.u K = K (.str e.log) := rfl

structure Report where
  order : List Int
  cycle : List Int
  kind : Int
  deriving DecidableEq
theorem Report.eq_iff (x y : Report) : x = y ↔ x.order = y.order ∧ x.cycle = y.cycle ∧ x.kind = y.kind := by cases x; cases y; simp only [Report.mk.injEq]
def Report.u (e : Report) : U := .agg [.sl 1 (e.order.map intU), .sl 1 (e.cycle.map intU), .int .i64 e.kind]
@[simp] theorem Report.u_size (e : Report) : e.u.size = 3 := rfl
@[simp] theorem Report.u_var (e : Report) (K : U → Option α) : U.asVar true 3 e.u K = K e.u := rfl
@[simp] theorem Report.u_storable (e : Report) : storable (.val e.u) = true := rfl
@[simp] theorem Report.u_noTup (e : Report) (K : U → Option α) : U.noTup e.u K = K e.u := rfl
@[simp] theorem Report.u_agg (e : Report) (K : List U → Option α) : U.asAgg e.u K = K [.sl 1 (e.order.map intU), .sl 1 (e.cycle.map intU), .int .i64 e.kind] := rfl
@[simp] theorem Report.u_at0 (e : Report) (K : U → Option α) : U.fieldAt 0 0 e.u K = K (.sl 1 (e.order.map intU)) := rfl
@[simp] theorem Report.u_at1 (e : Report) (K : U → Option α) : U.fieldAt 1 1 e.u K = K (.sl 1 (e.cycle.map intU)) := rfl
@[simp] theorem Report.u_at2 (e : Report) (K : U → Option α) : U.fieldAt 2 2 e.u K = K (.int .i64 e.kind) := rfl

end Go.Proofs.Ytfdcdbkblkehcaa.Am
/-
  What the functions on lists of edges compute.
-/
namespace Go.Proofs.Ytfdcdbkblkehcaa.Am
open Go
variable {E : Env}

/-- Is n in a range? -/
def inR (n lo hi : Int) : Bool := decide (lo ≤ n ∧ n ≤ hi)

theorem spec_l1In_is (h : G_spec_l1In E) (n lo hi : Int) : E 6 [.int .i64 n, .int .i64 lo, .int .i64 hi] = some (.bool (inR n lo hi)) := by
  rw [spec_l1In_E h]
  by_cases h1 : lo ≤ n <;> simp [inR, h1]
theorem impl_in_is (h : G_impl_in E) (n lo hi : Int) : E 10 [.int .i64 n, .int .i64 lo, .int .i64 hi] = some (.bool (inR n lo hi)) := by
  rw [impl_in_E h]
  by_cases h1 : lo ≤ n <;> simp [inR, h1]
theorem impl_isID_is (h : G_impl_isID E) (n : Int) : E 9 [.int .i64 n] = some (.bool (inR n 1 9)) := by
  rw [impl_isID_E h]; simp [impl_in_is h.c_impl_in]
theorem impl_isKey_is (h : G_impl_isKey E) (n : Int) : E 11 [.int .i64 n] = some (.bool (inR n 0 5)) := by
  rw [impl_isKey_E h]; simp [impl_in_is h.c_impl_in]

def cmpI (a b : Int) : Int := if a < b then -1 else if b < a then 1 else 0
theorem cmp_isNaN_is (h : G_cmp_isNaN_g15 E) (n : Int) : E 15 [.int .i64 n] = some (.bool false) := by
  rw [cmp_isNaN_g15_E h]; simp
theorem cmp_Compare_is (h : G_cmp_Compare_g13 E) (a b : Int) : E 13 [.int .i64 a, .int .i64 b] = some (.int .i64 (cmpI a b)) := by
  rw [cmp_Compare_g13_E h]
  simp only [cmp_isNaN_is h.c_cmp_isNaN_g15, cmpI]
  by_cases h1 : a < b <;> by_cases h2 : b < a <;> simp [h1, h2]

/-- The first that is not 0. -/
def cmpOr : List Int → Int
  | [] => 0
  | n :: l => if n = 0 then cmpOr l else n
theorem cmp_Or_l0_is (l : List Int) (hl : l.length ≤ 1000) : ∀ (r p : List Int) (i : Int), l = p ++ r → i = p.length → cmp_Or_g14_l0 E (.int .i64 0) (intsU l) (.int .i64 l.length) (.int .i64 i) = some (.int .i64 (cmpOr r))
  | [], p, i, e, hi => by
    rw [cmp_Or_g14_l0_eq]
    simp [mid_end e hi, cmpOr]
  | x :: r, p, i, e, hi => by
    obtain ⟨h0, hlt, hx, hw, hn, _⟩ := mid_at e hi (by omega)
    have ih := cmp_Or_l0_is l hl r (p ++ [x]) (i + 1) (mid_next e) hn
    rw [cmp_Or_g14_l0_eq]
    simp [h0, hlt, hx, hw, cmpOr, ih]
    split <;> simp_all
theorem cmp_Or_is (h : G_cmp_Or_g14 E) (l : List Int) (hl : l.length ≤ 1000) : E 14 [intsU l] = some (.int .i64 (cmpOr l)) := by
  rw [cmp_Or_g14_E h]
  simp [cmp_Or_l0_is (E := E) l hl l [] 0 rfl rfl]

/-- The order of edges: by From, To, Kind and Key. -/
def edgeLt (a b : Edge) : Bool :=
  if a.frm ≠ b.frm then decide (a.frm < b.frm) else if a.to ≠ b.to then decide (a.to < b.to) else if a.kind ≠ b.kind then decide (a.kind < b.kind) else decide (a.key < b.key)

def edgeCmp (a b : Edge) : Int := cmpOr [cmpI a.frm b.frm, cmpI a.to b.to, cmpI a.kind b.kind, cmpI a.key b.key]

theorem cmpI_zero {a b : Int} : cmpI a b = 0 ↔ a = b := by unfold cmpI; split <;> (try split) <;> omega
theorem cmpI_neg {a b : Int} : cmpI a b < 0 ↔ a < b := by unfold cmpI; split <;> (try split) <;> omega

theorem edgeCmp_neg (a b : Edge) : edgeCmp a b < 0 ↔ edgeLt a b = true := by
  unfold edgeCmp edgeLt
  simp only [cmpOr, cmpI_zero]
  by_cases h1 : a.frm = b.frm <;> by_cases h2 : a.to = b.to <;> by_cases h3 : a.kind = b.kind <;> by_cases h4 : a.key = b.key <;> simp [h1, h2, h3, h4, cmpI_neg]

theorem impl_compareEdges_is (h : G_impl_compareEdges E) (a b : Edge) : E 12 [a.u, b.u] = some (.int .i64 (edgeCmp a b)) := by
  rw [impl_compareEdges_E h]
  have := cmp_Or_is h.c_cmp_Or_g14 [cmpI a.frm b.frm, cmpI a.to b.to, cmpI a.kind b.kind, cmpI a.key b.key] (by simp)
  simp only [intsU, List.map_cons, List.map_nil, intU] at this
  simp [cmp_Compare_is h.c_cmp_Compare_g13, this, edgeCmp]

theorem spec_l19Less_is (h : G_spec_l19Less E) (a b : Edge) : E 7 [a.u, b.u] = some (.bool (edgeLt a b)) := by
  rw [spec_l19Less_E h]
  by_cases h1 : a.frm = b.frm <;> by_cases h2 : a.to = b.to <;> by_cases h3 : a.kind = b.kind <;> simp [h1, h2, h3, edgeLt]

/-- Is an edge right by itself? -/
def edgeOK (e : Edge) : Bool := inR e.frm 1 9 && inR e.to 1 9 && !decide (e.frm = e.to) && inR e.kind 1 3 && inR e.key 0 5

/-- The rest of a list of edges behind p. -/
def edgesFrom : Option Edge → List Edge → Bool
  | _, [] => true
  | p, e :: r => edgeOK e && (match p with | none => true | some q => edgeLt q e) && edgesFrom (some e) r

def areEdges (l : List Edge) : Bool := edgesFrom none l

abbrev edgesU (l : List Edge) : U := .sl 4 (l.map Edge.u)

theorem spec_AreEdges_l0_is (h : G_spec_AreEdges E) (l : List Edge) (hl : l.length ≤ 1048576) : ∀ (r p : List Edge) (i : Int), l = p ++ r → i = p.length →
    spec_AreEdges_l0 E (edgesU l) (.int .i64 i) = some (.bool (edgesFrom p.getLast? r))
  | [], p, i, e, hi => by
    rw [spec_AreEdges_l0_eq]
    simp [mid_end e hi, edgesFrom]
  | x :: r, p, i, e, hi => by
    obtain ⟨h0, hlt, hx, hw, hn, _⟩ := mid_at e hi (by omega)
    have ih := spec_AreEdges_l0_is h l hl r (p ++ [x]) (i + 1) (mid_next e) hn
    rw [List.getLast?_concat] at ih
    rw [spec_AreEdges_l0_eq]
    by_cases hp : p = []
    · have hi0 : ¬ 0 < i := by subst hp; simp at hi; omega
      simp [h0, hlt, hx, hw, ih, spec_l1In_is h.c_spec_l1In, edgesFrom, edgeOK, hi0, hp]
      cases inR x.frm 1 9 <;> cases inR x.to 1 9 <;> cases inR x.kind 1 3 <;> cases inR x.key 0 5 <;> by_cases h3 : x.frm = x.to <;> simp [h3]
    · obtain ⟨q, j, hq, hpos, hw1, h1, hq1, _⟩ := mid_last e hi (by omega) hp
      simp [h0, hlt, hx, hw, ih, spec_l1In_is h.c_spec_l1In, edgesFrom, edgeOK, hq, hpos, hw1, h1, hq1, spec_l19Less_is h.c_spec_l19Less]
      cases inR x.frm 1 9 <;> cases inR x.to 1 9 <;> cases inR x.kind 1 3 <;> cases inR x.key 0 5 <;> by_cases h3 : x.frm = x.to <;> cases edgeLt q x <;> simp [h3]
theorem spec_AreEdges_is (h : G_spec_AreEdges E) (l : List Edge) (hl : l.length ≤ 1048576) : E 4 [edgesU l] = some (.bool (areEdges l)) := by
  rw [spec_AreEdges_E h]
  simp [spec_AreEdges_l0_is h l hl l [] 0 rfl rfl, areEdges]

theorem impl_AreEdges_l0_is (h : G_impl_AreEdges E) (l : List Edge) (hl : l.length ≤ 1048576) : ∀ (r p : List Edge) (i : Int), l = p ++ r → i = p.length →
    impl_AreEdges_l0 E (edgesU l) (edgesU l) (.int .i64 l.length) (.int .i64 i) = some (.bool (edgesFrom p.getLast? r))
  | [], p, i, e, hi => by
    rw [impl_AreEdges_l0_eq]
    simp [mid_end e hi, edgesFrom]
  | x :: r, p, i, e, hi => by
    obtain ⟨h0, hlt, hx, hw, hn, _⟩ := mid_at e hi (by omega)
    have ih := impl_AreEdges_l0_is h l hl r (p ++ [x]) (i + 1) (mid_next e) hn
    rw [List.getLast?_concat] at ih
    rw [impl_AreEdges_l0_eq]
    by_cases hp : p = []
    · have hi0 : ¬ 0 < i := by subst hp; simp at hi; omega
      simp [h0, hlt, hx, hw, ih, impl_isID_is h.c_impl_isID, impl_in_is h.c_impl_in, impl_isKey_is h.c_impl_isKey, edgesFrom, edgeOK, hi0, hp]
      cases inR x.frm 1 9 <;> cases inR x.to 1 9 <;> cases inR x.kind 1 3 <;> cases inR x.key 0 5 <;> by_cases h3 : x.frm = x.to <;> simp [h3]
    · obtain ⟨q, j, hq, hpos, hw1, h1, hq1, _⟩ := mid_last e hi (by omega) hp
      have hc := edgeCmp_neg q x
      simp [h0, hlt, hx, hw, ih, impl_isID_is h.c_impl_isID, impl_in_is h.c_impl_in, impl_isKey_is h.c_impl_isKey, edgesFrom, edgeOK, hq, hpos, hw1, h1, hq1, impl_compareEdges_is h.c_impl_compareEdges]
      cases inR x.frm 1 9 <;> cases inR x.to 1 9 <;> cases inR x.kind 1 3 <;> cases inR x.key 0 5 <;> by_cases h3 : x.frm = x.to <;> cases h4 : edgeLt q x <;> simp_all <;> omega
theorem impl_AreEdges_is (h : G_impl_AreEdges E) (l : List Edge) (hl : l.length ≤ 1048576) : E 3 [edgesU l] = some (.bool (areEdges l)) := by
  rw [impl_AreEdges_E h]
  simp [impl_AreEdges_l0_is h l hl l [] 0 rfl rfl, areEdges]
end Go.Proofs.Ytfdcdbkblkehcaa.Am
/-
  What the plain proofs of the laws' own helpers share.
-/
namespace Go.Proofs.Ytfdcdbkblkehcaa.Am
open Go

/-- What is left of a budget behind n pieces; -1: nothing. -/
def szc (n : Nat) (left : Int) : Int := if left - n < 0 then -1 else left - n

def szl {α : Type} (f : α → Int → Int) : List α → Int → Int
  | [], left => left
  | x :: r, left => if f x left < 0 then -1 else szl f r (f x left)

def szL {α : Type} (f : α → Int → Int) (l : List α) (left : Int) : Int := if left - (l.length : Int) < 0 then -1 else szl f l (left - l.length)

/-- A measure that bounds what it measures. -/
def Szs {α : Type} (f : α → Int → Int) (ok : α → Prop) : Prop := ∀ x left, 0 ≤ left → left ≤ 1048576 → f x left < 0 ∨ (ok x ∧ 0 ≤ f x left ∧ f x left ≤ left)

theorem szc_szs : Szs szc (fun n => n ≤ 1048576) := fun n left h0 h1 => by
  unfold szc
  split
  · left; omega
  · right; refine ⟨by omega, by omega, by omega⟩

theorem szc_neg {n : Nat} {left : Int} (h : szc n left < 0) : szc n left = -1 := by
  unfold szc at h ⊢
  split at h
  · rename_i h1; rw [if_pos h1]
  · rename_i h1; omega

theorem szl_szs {α : Type} {f : α → Int → Int} {ok : α → Prop} (h : Szs f ok) : Szs (szl f) (fun l => ∀ x ∈ l, ok x) := fun l => by
  induction l with
  | nil => exact fun left h0 _ => .inr ⟨by simp, h0, Int.le_refl _⟩
  | cons x r ih =>
    intro left h0 h1
    rcases h x left h0 h1 with h2 | ⟨h2, h3, h4⟩
    · left; simp [szl, h2]
    · have h5 : ¬ f x left < 0 := by omega
      simp only [szl, h5, if_false]
      rcases ih _ h3 (by omega) with h6 | ⟨h6, h7, h8⟩
      · exact .inl h6
      · exact .inr ⟨by simpa using ⟨h2, h6⟩, h7, by omega⟩

theorem szL_szs {α : Type} {f : α → Int → Int} {ok : α → Prop} (h : Szs f ok) : Szs (szL f) (fun l => l.length ≤ 1048576 ∧ ∀ x ∈ l, ok x) := fun l left h0 h1 => by
  unfold szL
  split
  · left; omega
  · rcases szl_szs h l (left - l.length) (by omega) (by omega) with h6 | ⟨h6, h7, h8⟩
    · exact .inl h6
    · exact .inr ⟨⟨by omega, h6⟩, h7, by omega⟩

theorem mid_set {α : Type} (f : α → U) (p : List α) (z : U) (c : List U) {i : Int} (hi : i = p.length) :
    (p.map f ++ z :: c)[i.toNat]? = some z ∧ (∀ y, (p.map f ++ z :: c).set i.toNat y = p.map f ++ y :: c) ∧ i < ((p.map f ++ z :: c).length : Int) := by
  subst hi
  refine ⟨by simp, fun y => by simp, by simp; omega⟩
def Entry.fit (e : Entry) : Prop := e.reads.length ≤ maxLen ∧ e.writes.length ≤ maxLen
def Entry.ok (e : Entry) : Prop := e.reads.length ≤ 1048576 ∧ e.writes.length ≤ 1048576
def LogRecord.fit (e : LogRecord) : Prop := e.reads.length ≤ maxLen ∧ e.writes.length ≤ maxLen
def LogRecord.ok (e : LogRecord) : Prop := e.reads.length ≤ 1048576 ∧ e.writes.length ≤ 1048576
def Transaction.fit (e : Transaction) : Prop := e.reads.length ≤ maxLen ∧ e.writes.length ≤ maxLen
def Transaction.ok (e : Transaction) : Prop := e.reads.length ≤ 1048576 ∧ e.writes.length ≤ 1048576

def chainOk (l : List Version) : Prop := l.length ≤ 1048576
def chainFit (l : List Version) : Prop := l.length ≤ maxLen
def chainSz (l : List Version) (left : Int) : Int := szc l.length left
theorem chainSz_szs : Szs chainSz chainOk := fun l left h0 h1 => szc_szs l.length left h0 h1
theorem chainSz_neg {l : List Version} {left : Int} (h : chainSz l left < 0) : chainSz l left = -1 := szc_neg h
theorem szl_neg {α : Type} {f : α → Int → Int} : ∀ {l : List α} {left : Int}, 0 ≤ left → szl f l left < 0 → szl f l left = -1
  | [], left, h0, h => by simp only [szl] at h; omega
  | x :: r, left, h0, h => by
    simp only [szl] at h ⊢
    by_cases h1 : f x left < 0
    · simp [h1]
    · simp only [h1, if_false] at h ⊢
      exact szl_neg (by omega) h
theorem szL_neg {α : Type} {f : α → Int → Int} (_ : ∀ {x : α} {left : Int}, f x left < 0 → f x left = -1) {l : List α} {left : Int} (h : szL f l left < 0) : szL f l left = -1 := by
  unfold szL at h ⊢
  by_cases h1 : left - (l.length : Int) < 0
  · simp [h1]
  · simp only [h1, if_false] at h ⊢
    exact szl_neg (by omega) h

def Store.fit (s : Store) : Prop := s.chains.length ≤ maxLen ∧ ∀ c ∈ s.chains, chainFit c
def Store.ok (s : Store) : Prop := s.chains.length ≤ 1048576 ∧ ∀ c ∈ s.chains, chainOk c
def Store.sz (s : Store) (left : Int) : Int := szL chainSz s.chains left
theorem Store.sz_szs : Szs Store.sz Store.ok := fun s left h0 h1 => szL_szs chainSz_szs s.chains left h0 h1

def Transaction.sz (e : Transaction) (left : Int) : Int := let v := szc e.reads.length left; if v < 0 then -1 else szc e.writes.length v
theorem Transaction.sz_szs : Szs Transaction.sz Transaction.ok := fun e left h0 h1 => by
  unfold Transaction.sz Transaction.ok
  rcases szc_szs e.reads.length left h0 h1 with h | ⟨h2, h3, h4⟩
  · left; simp [h]
  · have h5 : ¬ szc e.reads.length left < 0 := by omega
    rcases szc_szs e.writes.length _ h3 (by omega) with h | ⟨h6, h7, h8⟩
    · left; simp [h5, h]
    · right; simp only [h5, if_false]; exact ⟨⟨h2, h6⟩, h7, by omega⟩

def Engine.fit (e : Engine) : Prop := e.store.fit ∧ e.transactions.length ≤ maxLen ∧ (∀ t ∈ e.transactions, t.fit) ∧ e.locks.length ≤ maxLen ∧ e.waits.length ≤ maxLen
def Engine.ok (e : Engine) : Prop := e.store.ok ∧ e.transactions.length ≤ 1048576 ∧ (∀ t ∈ e.transactions, t.ok) ∧ e.locks.length ≤ 1048576 ∧ e.waits.length ≤ 1048576
def Engine.sz (e : Engine) (left : Int) : Int :=
  if e.store.sz left < 0 then -1 else
  if szL Transaction.sz e.transactions (e.store.sz left) < 0 then -1 else
  if szc e.locks.length (szL Transaction.sz e.transactions (e.store.sz left)) < 0 then -1 else
  szc e.waits.length (szc e.locks.length (szL Transaction.sz e.transactions (e.store.sz left)))
theorem Engine.sz_szs : Szs Engine.sz Engine.ok := fun e left h0 h1 => by
  unfold Engine.sz Engine.ok
  rcases Store.sz_szs e.store left h0 h1 with n1 | ⟨o1, n1, n2⟩
  · left; simp [n1]
  have n3 : ¬ e.store.sz left < 0 := by omega
  rcases szL_szs Transaction.sz_szs e.transactions _ n1 (by omega) with m1 | ⟨⟨o2, o3⟩, m1, m2⟩
  · left; simp [n3, m1]
  have m3 : ¬ szL Transaction.sz e.transactions (e.store.sz left) < 0 := by omega
  rcases szc_szs e.locks.length _ m1 (by omega) with k1 | ⟨o4, k1, k2⟩
  · left; simp [n3, m3, k1]
  have k3 : ¬ szc e.locks.length (szL Transaction.sz e.transactions (e.store.sz left)) < 0 := by omega
  rcases szc_szs e.waits.length _ k1 (by omega) with j1 | ⟨o5, j1, j2⟩
  · left; simp [n3, m3, k3, j1]
  · right
    simp only [n3, m3, k3, if_false]
    exact ⟨⟨o1, o2, o3, o4, o5⟩, j1, by omega⟩
end Go.Proofs.Ytfdcdbkblkehcaa.Am
/-
  What the plain proofs of package slices share.
-/
namespace Go.Proofs.Ytfdcdbkblkehcaa.Am
open Go

/-- The place of the first element with P, counted from i; -1 if there is none. -/
def idxF {α : Type} (P : α → Bool) : List α → Int → Int
  | [], _ => -1
  | x :: r, i => if P x then i else idxF P r (i + 1)

theorem idxF_any {α : Type} (P : α → Bool) (l : List α) : ∀ {i : Int}, 0 ≤ i → (decide (0 ≤ idxF P l i)) = l.any P := by
  induction l with
  | nil => intro i _; simp [idxF]
  | cons x r ih =>
    intro i hi
    cases h : P x
    · simp [idxF, h, ih (i := i + 1) (by omega)]
    · simp [idxF, h, hi]

theorem idxF_mem {α : Type} [DecidableEq α] (v : α) (l : List α) : ∀ {i : Int}, 0 ≤ i → (decide (0 ≤ idxF (fun x => decide (x = v)) l i)) = decide (v ∈ l) := by
  induction l with
  | nil => intro i _; simp [idxF]
  | cons x r ih =>
    intro i hi
    by_cases h : x = v
    · simp [idxF, h, hi]
    · have h2 : v ≠ x := fun e => h e.symm
      simp only [idxF, h, decide_false, Bool.false_eq_true, if_false, ih (i := i + 1) (by omega)]
      simp [h2]

/-- Where the first is: its place, and that none comes before. -/
theorem idxF_cases {α : Type} (P : α → Bool) (l : List α) : ∀ (i : Int), (idxF P l i = -1 ∧ ∀ x ∈ l, P x = false) ∨ ∃ p x r, l = p ++ x :: r ∧ idxF P l i = i + p.length ∧ P x = true ∧ ∀ y ∈ p, P y = false := by
  induction l with
  | nil => intro i; exact .inl ⟨rfl, by simp⟩
  | cons x r ih =>
    intro i
    cases h : P x with
    | true => exact .inr ⟨[], x, r, rfl, by simp [idxF, h], h, by simp⟩
    | false =>
      rcases ih (i + 1) with ⟨h1, h2⟩ | ⟨p, y, s, h1, h2, h3, h4⟩
      · exact .inl ⟨by simp [idxF, h, h1], by simpa [h] using h2⟩
      · exact .inr ⟨x :: p, y, s, by simp [h1], by simp [idxF, h, h2]; omega, h3, by simpa [h] using h4⟩
end Go.Proofs.Ytfdcdbkblkehcaa.Am
/-
  What a function of package slices computes.
-/
namespace Go.Proofs.Ytfdcdbkblkehcaa.Am
open Go
variable {E : Env}
set_option linter.unusedVariables false

theorem slices_Equal_g31_l0_is (a b : List ReadMark) (ha : a.length ≤ 9223372036854775807) (hb : b.length ≤ 9223372036854775807) : ∀ (r s p p2 : List ReadMark) (i : Int), a = p ++ r → b = p2 ++ s → i = p.length → i = p2.length → r.length = s.length →
    slices_Equal_g31_l0 E (.sl 2 (a.map ReadMark.u)) (.sl 2 (b.map ReadMark.u)) (.int .i64 a.length) (.int .i64 i) = some (.bool (decide (r = s)))
  | [], [], p, p2, i, e, e2, hi, hi2, _ => by
    rw [slices_Equal_g31_l0_eq]
    simp [mid_end e hi]
  | [], y :: s, _, _, _, _, _, _, _, hl => by cases hl
  | x :: r, [], _, _, _, _, _, _, _, hl => by cases hl
  | x :: r, y :: s, p, p2, i, e, e2, hi, hi2, hl => by
    obtain ⟨h0, hlt, hx, hw, hn, _⟩ := mid_at e hi ha
    obtain ⟨_, _, hy, _, hn2, _⟩ := mid_at e2 hi2 hb
    have ih := slices_Equal_g31_l0_is a b ha hb r s (p ++ [x]) (p2 ++ [y]) (i + 1) (mid_next e) (mid_next e2) hn hn2 (by simpa using hl)
    rw [slices_Equal_g31_l0_eq]
    by_cases hxy : x = y
    · subst hxy
      simp [hlt, hx, hy, hw, ih]
    · simp [hlt, hx, hy, hw, ih, hxy]
theorem slices_Equal_g31_is (h : G_slices_Equal_g31 E) (a b : List ReadMark) (ha : a.length ≤ 9223372036854775807) (hb : b.length ≤ 9223372036854775807) : E 31 [.sl 2 (a.map ReadMark.u), .sl 2 (b.map ReadMark.u)] = some (.bool (decide (a = b))) := by
  rw [slices_Equal_g31_E h]
  by_cases hl : a.length = b.length
  · have h1 := slices_Equal_g31_l0_is (E := E) a b ha hb a b [] [] 0 rfl rfl rfl rfl hl
    rw [hl] at h1
    simp [hl, h1]
  · have h1 : a ≠ b := fun e => hl (by rw [e])
    have h2 : (a.length : Int) ≠ b.length := by omega
    simp [h1, h2]
end Go.Proofs.Ytfdcdbkblkehcaa.Am
/-
  What a function of package slices computes.
-/
namespace Go.Proofs.Ytfdcdbkblkehcaa.Am
open Go
variable {E : Env}
set_option linter.unusedVariables false

theorem slices_Equal_g32_l0_is (a b : List Write) (ha : a.length ≤ 9223372036854775807) (hb : b.length ≤ 9223372036854775807) : ∀ (r s p p2 : List Write) (i : Int), a = p ++ r → b = p2 ++ s → i = p.length → i = p2.length → r.length = s.length →
    slices_Equal_g32_l0 E (.sl 2 (a.map Write.u)) (.sl 2 (b.map Write.u)) (.int .i64 a.length) (.int .i64 i) = some (.bool (decide (r = s)))
  | [], [], p, p2, i, e, e2, hi, hi2, _ => by
    rw [slices_Equal_g32_l0_eq]
    simp [mid_end e hi]
  | [], y :: s, _, _, _, _, _, _, _, hl => by cases hl
  | x :: r, [], _, _, _, _, _, _, _, hl => by cases hl
  | x :: r, y :: s, p, p2, i, e, e2, hi, hi2, hl => by
    obtain ⟨h0, hlt, hx, hw, hn, _⟩ := mid_at e hi ha
    obtain ⟨_, _, hy, _, hn2, _⟩ := mid_at e2 hi2 hb
    have ih := slices_Equal_g32_l0_is a b ha hb r s (p ++ [x]) (p2 ++ [y]) (i + 1) (mid_next e) (mid_next e2) hn hn2 (by simpa using hl)
    rw [slices_Equal_g32_l0_eq]
    by_cases hxy : x = y
    · subst hxy
      simp [hlt, hx, hy, hw, ih]
    · simp [hlt, hx, hy, hw, ih, hxy]
theorem slices_Equal_g32_is (h : G_slices_Equal_g32 E) (a b : List Write) (ha : a.length ≤ 9223372036854775807) (hb : b.length ≤ 9223372036854775807) : E 32 [.sl 2 (a.map Write.u), .sl 2 (b.map Write.u)] = some (.bool (decide (a = b))) := by
  rw [slices_Equal_g32_E h]
  by_cases hl : a.length = b.length
  · have h1 := slices_Equal_g32_l0_is (E := E) a b ha hb a b [] [] 0 rfl rfl rfl rfl hl
    rw [hl] at h1
    simp [hl, h1]
  · have h1 : a ≠ b := fun e => hl (by rw [e])
    have h2 : (a.length : Int) ≠ b.length := by omega
    simp [h1, h2]
end Go.Proofs.Ytfdcdbkblkehcaa.Am
/-
  What the functions on log records and transactions' lists compute.
-/
namespace Go.Proofs.Ytfdcdbkblkehcaa.Am
open Go
variable {E : Env}
set_option linter.unusedVariables false

def LogRecord.tx (r : LogRecord) : Transaction := ⟨r.id, 1, 2, 0, 0, r.high, r.stamp, r.reads, r.writes⟩

theorem spec_l28Tx_is (h : G_spec_l28Tx E) (r : LogRecord) : E 25 [r.u] = some r.tx.u := by
  rw [spec_l28Tx_E h]
  simp [LogRecord.tx, Transaction.u]

theorem tx_eq (a b : LogRecord) : a.safe = b.safe ∧ a.tx = b.tx ↔ a = b := by
  simp only [LogRecord.eq_iff, Transaction.eq_iff, LogRecord.tx]
  constructor <;> intro h <;> simp_all

theorem spec_EqT_l0_is (x y : Transaction) (ha : x.ok) (hb : y.ok) : ∀ (r s p p2 : List Write) (i : Int), x.writes = p ++ r → y.writes = p2 ++ s → i = p.length → i = p2.length → r.length = s.length →
    spec_EqualTransactions_l0 E (.int .i64 i) x.u y.u = some (.bool (decide (r = s)))
  | [], [], p, p2, i, e, e2, hi, hi2, _ => by
    rw [spec_EqualTransactions_l0_eq]
    simp [mid_end e hi]
  | [], y :: s, _, _, _, _, _, _, _, hl => by cases hl
  | x :: r, [], _, _, _, _, _, _, _, hl => by cases hl
  | z :: r, z2 :: s, p, p2, i, e, e2, hi, hi2, hl => by
    obtain ⟨h0, hlt, hx, hw, hn, _⟩ := mid_at e hi (by have := ha.2; omega)
    obtain ⟨_, _, hy, _, hn2, _⟩ := mid_at e2 hi2 (by have := hb.2; omega)
    have ih := spec_EqT_l0_is x y ha hb r s (p ++ [z]) (p2 ++ [z2]) (i + 1) (mid_next e) (mid_next e2) hn hn2 (by simpa using hl)
    rw [spec_EqualTransactions_l0_eq]
    by_cases hxy : z = z2
    · subst hxy
      simp [hlt, hx, hy, hw, ih]
    · simp [hlt, hx, hy, hw, ih, hxy]

theorem spec_EqT_l1_is (x y : Transaction) (ha : x.ok) (hb : y.ok) (hw : x.writes.length = y.writes.length) : ∀ (r s p p2 : List ReadMark) (i : Int), x.reads = p ++ r → y.reads = p2 ++ s → i = p.length → i = p2.length → r.length = s.length →
    spec_EqualTransactions_l1 E (.int .i64 i) x.u y.u = some (.bool (decide (r = s) && decide (x.writes = y.writes)))
  | [], [], p, p2, i, e, e2, hi, hi2, _ => by
    rw [spec_EqualTransactions_l1_eq]
    simp [mid_end e hi, spec_EqT_l0_is x y ha hb x.writes y.writes [] [] 0 rfl rfl rfl rfl hw]
  | [], y :: s, _, _, _, _, _, _, _, hl => by cases hl
  | x :: r, [], _, _, _, _, _, _, _, hl => by cases hl
  | z :: r, z2 :: s, p, p2, i, e, e2, hi, hi2, hl => by
    obtain ⟨h0, hlt, hx, hw', hn, _⟩ := mid_at e hi (by have := ha.1; omega)
    obtain ⟨_, _, hy, _, hn2, _⟩ := mid_at e2 hi2 (by have := hb.1; omega)
    have ih := spec_EqT_l1_is x y ha hb hw r s (p ++ [z]) (p2 ++ [z2]) (i + 1) (mid_next e) (mid_next e2) hn hn2 (by simpa using hl)
    rw [spec_EqualTransactions_l1_eq]
    by_cases hxy : z = z2
    · subst hxy
      simp [hlt, hx, hy, hw', ih]
    · simp [hlt, hx, hy, hw', ih, hxy]

theorem spec_EqualTransactions_is (h : G_spec_EqualTransactions E) (x y : Transaction) (ha : x.ok) (hb : y.ok) : E 26 [x.u, y.u] = some (.bool (decide (x = y))) := by
  rw [spec_EqualTransactions_E h]
  by_cases hr : x.reads.length = y.reads.length
  · by_cases hw : x.writes.length = y.writes.length
    · have h1 := spec_EqT_l1_is (E := E) x y ha hb hw x.reads y.reads [] [] 0 rfl rfl rfl rfl hr
      simp only [Transaction.eq_iff]
      by_cases h0 : x.id = y.id
      case neg => simp [h0]
      by_cases h2 : x.scheme = y.scheme
      case neg => simp [h0, h2]
      by_cases h3 : x.state = y.state
      case neg => simp [h0, h2, h3]
      by_cases h4 : x.begin_ = y.begin_
      case neg => simp [h0, h2, h3, h4]
      by_cases h5 : x.low = y.low
      case neg => simp [h0, h2, h3, h4, h5]
      by_cases h6 : x.high = y.high
      case neg => simp [h0, h2, h3, h4, h5, h6]
      by_cases h7 : x.commit = y.commit
      case neg => simp [h0, h2, h3, h4, h5, h6, h7]
      simp [h1, h0, h2, h3, h4, h5, h6, h7, hr, hw]
    · have h1 : x ≠ y := fun e => hw (by rw [e])
      have h2 : (x.writes.length : Int) ≠ y.writes.length := by omega
      simp only [h1, decide_false]
      simp [h2]
  · have h1 : x ≠ y := fun e => hr (by rw [e])
    have h2 : (x.reads.length : Int) ≠ y.reads.length := by omega
    simp only [h1, decide_false]
    simp [h2]

theorem spec_EqualRecords_is (h : G_spec_EqualRecords E) (x y : LogRecord) (ha : x.ok) (hb : y.ok) : E 21 [x.u, y.u] = some (.bool (decide (x = y))) := by
  rw [spec_EqualRecords_E h]
  have h1 := spec_EqualTransactions_is h.c_spec_EqualTransactions x.tx y.tx ha hb
  have h2 := tx_eq x y
  by_cases hs : x.safe = y.safe
  · simp only [hs, true_and] at h2
    simp [hs, spec_l28Tx_is h.c_spec_l28Tx, h1, h2]
  · have : x ≠ y := fun e => hs (by rw [e])
    simp [hs, this]

theorem impl_EqualRecords_is (h : G_impl_EqualRecords E) (x y : LogRecord) (ha : x.ok) (hb : y.ok) : E 20 [x.u, y.u] = some (.bool (decide (x = y))) := by
  rw [impl_EqualRecords_E h]
  obtain ⟨ha1, ha2⟩ := ha
  obtain ⟨hb1, hb2⟩ := hb
  have h1 := slices_Equal_g31_is h.c_slices_Equal_g31 x.reads y.reads (by omega) (by omega)
  have h2 := slices_Equal_g32_is h.c_slices_Equal_g32 x.writes y.writes (by omega) (by omega)
  simp only [LogRecord.eq_iff]
  by_cases e0 : x.stamp = y.stamp
  case neg => simp [e0]
  by_cases e1 : x.id = y.id
  case neg => simp [e0, e1]
  by_cases e2 : x.high = y.high
  case neg => simp [e0, e1, e2]
  by_cases e3 : x.safe = y.safe
  case neg => simp [e0, e1, e2, e3]
  by_cases e4 : x.reads = y.reads
  case neg => simp [e0, e1, e2, e3, e4, h1]
  rw [e4] at h1
  simp [e0, e1, e2, e3, e4, h1, h2]
end Go.Proofs.Ytfdcdbkblkehcaa.Am
/-
  What the laws' own helpers compute.
-/
namespace Go.Proofs.Ytfdcdbkblkehcaa.Am
open Go
variable {E : Env}
set_option linter.unusedVariables false

theorem laws_toVersion_is (h : G_laws_toVersion E) (x : Version) : E 109 [x.u] = some x.u := by
  rw [laws_toVersion_E h]
  simp [Version.u]

theorem laws_toVersionS_l0_is (h : G_laws_toVersionS E) (l : List Version) (hl : l.length ≤ 1048576) : ∀ (r p : List Version) (i : Int) (c : List U), l = p ++ r → i = p.length → c.length = r.length → (∀ z ∈ c, z.size = 5) →
    laws_toVersionS_l0 E (.sl 5 (l.map Version.u)) (.int .i64 i) (p.map Version.u ++ c) = some (.sl 5 (l.map Version.u))
  | [], p, i, c, e, hi, hc, _ => by
    obtain rfl : c = [] := List.length_eq_zero_iff.1 hc
    rw [laws_toVersionS_l0_eq]
    simp [mid_end e hi]
    simp [e]
  | x :: r, p, i, [], e, hi, hc, _ => by cases hc
  | x :: r, p, i, z :: c, e, hi, hc, hz => by
    obtain ⟨h0, hlt, hx, hw, hn, _⟩ := mid_at e hi (by omega)
    have hzs : z.size = 5 := hz z (by simp)
    obtain ⟨hg, hs, hlen⟩ := mid_set Version.u p z c hi
    have ih := laws_toVersionS_l0_is h l hl r (p ++ [x]) (i + 1) c (mid_next e) hn (by simpa using hc) (fun y hy => hz y (by simp [hy]))
    simp only [List.map_append, List.map_cons, List.map_nil, List.append_assoc, List.cons_append, List.nil_append] at ih
    rw [laws_toVersionS_l0_eq]
    simp only [hg, hs, hx, hw, asInt_int, bin_lss, lenOf_sl, List.length_map, Option.bind_some, asBool_bool, hlt, decide_true, if_true, h0, hlen, and_self, bin_add, laws_toVersion_is h.c_laws_toVersion x, hzs, Version.u_var, Version.u_size, Version.u_storable]
    simpa using ih
theorem laws_toVersionS_is (h : G_laws_toVersionS E) (l : List Version) (hl : l.length ≤ 1048576) : E 108 [.sl 5 (l.map Version.u)] = some (.sl 5 (l.map Version.u)) := by
  have h1 := laws_toVersionS_l0_is h l hl l [] 0 (List.replicate l.length (.agg [.int .i64 0, .int .i64 0, .int .i64 0, .int .i64 0, .int .i64 0])) rfl rfl (by simp) (by simp)
  rw [laws_toVersionS_E h]
  simp only [lenOf_sl, Option.bind_some, List.length_map]
  rw [if_pos (by refine ⟨by omega, by omega, by omega, rfl⟩)]
  simpa using h1

theorem laws_eqVersion_is (h : G_laws_eqVersion E) (x y : Version) : E 120 [x.u, y.u] = some (.bool (decide (x = y))) := by
  rw [laws_eqVersion_E h]
  obtain ⟨a0, a1, a2, a3, a4⟩ := x
  obtain ⟨b0, b1, b2, b3, b4⟩ := y
  simp only [Version.mk.injEq]
  by_cases h0 : a0 = b0
  case neg => simp [h0]
  subst h0
  by_cases h1 : a1 = b1
  case neg => simp [h1]
  subst h1
  by_cases h2 : a2 = b2
  case neg => simp [h2]
  subst h2
  by_cases h3 : a3 = b3
  case neg => simp [h3]
  subst h3
  by_cases h4 : a4 = b4
  case neg => simp [h4]
  subst h4
  simp []

theorem laws_eqVersionS_l0_is (h : G_laws_eqVersionS E) (a b : List Version) (ha : a.length ≤ 1048576) (hb : b.length ≤ 1048576) : ∀ (r s p p2 : List Version) (i : Int), a = p ++ r → b = p2 ++ s → i = p.length → i = p2.length → r.length = s.length →
    laws_eqVersionS_l0 E (.sl 5 (a.map Version.u)) (.sl 5 (b.map Version.u)) (.int .i64 i) = some (.bool (decide (r = s)))
  | [], [], p, p2, i, e, e2, hi, hi2, _ => by
    rw [laws_eqVersionS_l0_eq]
    simp [mid_end e hi]
  | [], y :: s, _, _, _, _, _, _, _, hl => by cases hl
  | x :: r, [], _, _, _, _, _, _, _, hl => by cases hl
  | x :: r, y :: s, p, p2, i, e, e2, hi, hi2, hl => by
    obtain ⟨h0, hlt, hx, hw, hn, _⟩ := mid_at e hi (by omega)
    obtain ⟨_, _, hy, _, hn2, _⟩ := mid_at e2 hi2 (by omega)
    have ih := laws_eqVersionS_l0_is h a b ha hb r s (p ++ [x]) (p2 ++ [y]) (i + 1) (mid_next e) (mid_next e2) hn hn2 (by simpa using hl)
    rw [laws_eqVersionS_l0_eq]
    by_cases hxy : x = y
    · subst hxy
      simp [hlt, hx, hy, hw, ih, laws_eqVersion_is h.c_laws_eqVersion]
    · simp [hlt, hx, hy, hw, ih, laws_eqVersion_is h.c_laws_eqVersion, hxy]
theorem laws_eqVersionS_is (h : G_laws_eqVersionS E) (a b : List Version) (ha : a.length ≤ 1048576) (hb : b.length ≤ 1048576) : E 119 [.sl 5 (a.map Version.u), .sl 5 (b.map Version.u)] = some (.bool (decide (a = b))) := by
  rw [laws_eqVersionS_E h]
  by_cases hl : a.length = b.length
  · simp [hl, laws_eqVersionS_l0_is h a b ha hb a b [] [] 0 rfl rfl rfl rfl hl]
  · have h1 : a ≠ b := fun e => hl (by rw [e])
    have h2 : (a.length : Int) ≠ b.length := by omega
    simp [h1, h2]

theorem laws_szVersionS_is (h : G_laws_szVersionS E) (l : List Version) (hl : l.length ≤ maxLen) (left : Int) (h0 : 0 ≤ left) (h1 : left ≤ 1048576) : E 101 [.sl 5 (l.map Version.u), .int .i64 left] = some (.int .i64 (szc l.length left)) := by
  rw [laws_szVersionS_E h]
  unfold maxLen at hl
  have hw : IntKind.i64.wrap (left - (l.length : Int)) = left - l.length := wrap_in (by omega)
  by_cases h2 : left - (l.length : Int) < 0 <;> simp [hw, szc, h2]

theorem laws_toVersionS_ch (h : G_laws_toVersionS E) (x : List Version) (hx : chainOk x) : E 108 [chainU x] = some (chainU x) := laws_toVersionS_is h x hx
theorem laws_eqVersionS_ch (h : G_laws_eqVersionS E) (x y : List Version) (hx : chainOk x) (hy : chainOk y) : E 119 [chainU x, chainU y] = some (.bool (decide (x = y))) := laws_eqVersionS_is h x y hx hy
theorem laws_szVersionS_ch (h : G_laws_szVersionS E) (x : List Version) (hx : chainFit x) (left : Int) (h0 : 0 ≤ left) (h1 : left ≤ 1048576) : E 101 [chainU x, .int .i64 left] = some (.int .i64 (chainSz x left)) := laws_szVersionS_is h x hx left h0 h1
end Go.Proofs.Ytfdcdbkblkehcaa.Am
/-
  What the laws' own helpers compute.
-/
namespace Go.Proofs.Ytfdcdbkblkehcaa.Am
open Go
variable {E : Env}
set_option linter.unusedVariables false

theorem laws_toVersionSS_l0_is (h : G_laws_toVersionSS E) (l : List (List Version)) (hl : l.length ≤ 1048576) (hok : ∀ x ∈ l, chainOk x) : ∀ (r p : List (List Version)) (i : Int) (c : List U), l = p ++ r → i = p.length → c.length = r.length → (∀ z ∈ c, z.size = 1) →
    laws_toVersionSS_l0 E (.sl 1 (l.map chainU)) (.int .i64 i) (p.map chainU ++ c) = some (.sl 1 (l.map chainU))
  | [], p, i, c, e, hi, hc, _ => by
    obtain rfl : c = [] := List.length_eq_zero_iff.1 hc
    rw [laws_toVersionSS_l0_eq]
    simp [mid_end e hi]
    simp [e]
  | x :: r, p, i, [], e, hi, hc, _ => by cases hc
  | x :: r, p, i, z :: c, e, hi, hc, hz => by
    obtain ⟨h0, hlt, hx, hw, hn, _⟩ := mid_at e hi (by omega)
    have hox : chainOk x := hok x (by rw [e]; simp)
    have hzs : z.size = 1 := hz z (by simp)
    obtain ⟨hg, hs, hlen⟩ := mid_set chainU p z c hi
    have ih := laws_toVersionSS_l0_is h l hl hok r (p ++ [x]) (i + 1) c (mid_next e) hn (by simpa using hc) (fun y hy => hz y (by simp [hy]))
    simp only [List.map_append, List.map_cons, List.map_nil, List.append_assoc, List.cons_append, List.nil_append] at ih
    rw [laws_toVersionSS_l0_eq]
    simp only [hg, hs, hx, hw, asInt_int, bin_lss, lenOf_sl, List.length_map, Option.bind_some, asBool_bool, hlt, decide_true, if_true, h0, hlen, and_self, bin_add, laws_toVersionS_ch h.c_laws_toVersionS x hox, hzs, asVar_chainU, chainU_size, storable_chainU]
    simpa using ih
theorem laws_toVersionSS_is (h : G_laws_toVersionSS E) (l : List (List Version)) (hl : l.length ≤ 1048576) (hok : ∀ x ∈ l, chainOk x) : E 107 [.sl 1 (l.map chainU)] = some (.sl 1 (l.map chainU)) := by
  have h1 := laws_toVersionSS_l0_is h l hl hok l [] 0 (List.replicate l.length (.nsl 5)) rfl rfl (by simp) (by simp)
  rw [laws_toVersionSS_E h]
  simp only [lenOf_sl, Option.bind_some, List.length_map]
  rw [if_pos (by refine ⟨by omega, by omega, by omega, rfl⟩)]
  simpa using h1

theorem laws_eqVersionSS_l0_is (h : G_laws_eqVersionSS E) (a b : List (List Version)) (ha : a.length ≤ 1048576) (hb : b.length ≤ 1048576) (hao : ∀ x ∈ a, chainOk x) (hbo : ∀ x ∈ b, chainOk x) : ∀ (r s p p2 : List (List Version)) (i : Int), a = p ++ r → b = p2 ++ s → i = p.length → i = p2.length → r.length = s.length →
    laws_eqVersionSS_l0 E (.sl 1 (a.map chainU)) (.sl 1 (b.map chainU)) (.int .i64 i) = some (.bool (decide (r = s)))
  | [], [], p, p2, i, e, e2, hi, hi2, _ => by
    rw [laws_eqVersionSS_l0_eq]
    simp [mid_end e hi]
  | [], y :: s, _, _, _, _, _, _, _, hl => by cases hl
  | x :: r, [], _, _, _, _, _, _, _, hl => by cases hl
  | x :: r, y :: s, p, p2, i, e, e2, hi, hi2, hl => by
    obtain ⟨h0, hlt, hx, hw, hn, _⟩ := mid_at e hi (by omega)
    obtain ⟨_, _, hy, _, hn2, _⟩ := mid_at e2 hi2 (by omega)
    have hox : chainOk x := hao x (by rw [e]; simp)
    have hoy : chainOk y := hbo y (by rw [e2]; simp)
    have ih := laws_eqVersionSS_l0_is h a b ha hb hao hbo r s (p ++ [x]) (p2 ++ [y]) (i + 1) (mid_next e) (mid_next e2) hn hn2 (by simpa using hl)
    rw [laws_eqVersionSS_l0_eq]
    by_cases hxy : x = y
    · subst hxy
      simp [hlt, hx, hy, hw, ih, laws_eqVersionS_ch h.c_laws_eqVersionS _ _ hox hoy]
    · simp [hlt, hx, hy, hw, ih, laws_eqVersionS_ch h.c_laws_eqVersionS _ _ hox hoy, hxy]
theorem laws_eqVersionSS_is (h : G_laws_eqVersionSS E) (a b : List (List Version)) (ha : a.length ≤ 1048576) (hb : b.length ≤ 1048576) (hao : ∀ x ∈ a, chainOk x) (hbo : ∀ x ∈ b, chainOk x) : E 118 [.sl 1 (a.map chainU), .sl 1 (b.map chainU)] = some (.bool (decide (a = b))) := by
  rw [laws_eqVersionSS_E h]
  by_cases hl : a.length = b.length
  · simp [hl, laws_eqVersionSS_l0_is h a b ha hb hao hbo a b [] [] 0 rfl rfl rfl rfl hl]
  · have h1 : a ≠ b := fun e => hl (by rw [e])
    have h2 : (a.length : Int) ≠ b.length := by omega
    simp [h1, h2]

theorem laws_szVersionSS_l0_is (h : G_laws_szVersionSS E) (l : List (List Version)) (hl : l.length ≤ 1048576) (hf : ∀ x ∈ l, chainFit x) : ∀ (r p : List (List Version)) (i left : Int), l = p ++ r → i = p.length → 0 ≤ left → left ≤ 1048576 →
    laws_szVersionSS_l0 E (.sl 1 (l.map chainU)) (.int .i64 left) (.int .i64 i) = some (.int .i64 (szl chainSz r left))
  | [], p, i, left, e, hi, _, _ => by
    rw [laws_szVersionSS_l0_eq]
    simp [mid_end e hi, szl]
  | x :: r, p, i, left, e, hi, h1, h2 => by
    obtain ⟨h0, hlt, hx, hw, hn, _⟩ := mid_at e hi (by omega)
    have hfx : chainFit x := hf x (by rw [e]; simp)
    rw [laws_szVersionSS_l0_eq]
    rcases chainSz_szs x left h1 h2 with h3 | ⟨_, h3, h4⟩
    · simp [hlt, hx, hw, szl, laws_szVersionS_ch h.c_laws_szVersionS x hfx left h1 h2, h3]
    · have ih := laws_szVersionSS_l0_is h l hl hf r (p ++ [x]) (i + 1) (chainSz x left) (mid_next e) hn h3 (by omega)
      have h5 : ¬ chainSz x left < 0 := by omega
      simp [hlt, hx, hw, szl, laws_szVersionS_ch h.c_laws_szVersionS x hfx left h1 h2, h5, ih]
theorem laws_szVersionSS_is (h : G_laws_szVersionSS E) (l : List (List Version)) (hl : l.length ≤ maxLen) (hf : ∀ x ∈ l, chainFit x) (left : Int) (h0 : 0 ≤ left) (h1 : left ≤ 1048576) : E 100 [.sl 1 (l.map chainU), .int .i64 left] = some (.int .i64 (szL chainSz l left)) := by
  rw [laws_szVersionSS_E h]
  unfold maxLen at hl
  have hw : IntKind.i64.wrap (left - (l.length : Int)) = left - l.length := wrap_in (by omega)
  by_cases h2 : left - (l.length : Int) < 0
  · simp [hw, szL, h2]
  · simp [hw, szL, h2, laws_szVersionSS_l0_is h l (by omega) hf l [] 0 (left - l.length) rfl rfl (by omega) (by omega)]

theorem laws_toStore_is (h : G_laws_toStore E) (s : Store) (ho : s.ok) : E 93 [s.u] = some s.u := by
  rw [laws_toStore_E h]
  have h1 := laws_toVersionSS_is h.c_laws_toVersionSS s.chains ho.1 ho.2
  simp [h1]
  rfl

theorem laws_eqStore_is (h : G_laws_eqStore E) (s t : Store) (ho : s.ok) (ho2 : t.ok) : E 97 [s.u, t.u] = some (.bool (decide (s = t))) := by
  rw [laws_eqStore_E h]
  have h1 := laws_eqVersionSS_is h.c_laws_eqVersionSS s.chains t.chains ho.1 ho2.1 ho.2 ho2.2
  by_cases h2 : s.chains = t.chains <;> simp [h1, h2, Store.eq_iff]
  rw [h2] at h1
  simp [h1]

theorem laws_szStore_is (h : G_laws_szStore E) (s : Store) (hf : s.fit) (left : Int) (h0 : 0 ≤ left) (h1 : left ≤ 1048576) : E 99 [s.u, .int .i64 left] = some (.int .i64 (s.sz left)) := by
  rw [laws_szStore_E h]
  have a1 := laws_szVersionSS_is h.c_laws_szVersionSS s.chains hf.1 hf.2 left h0 h1
  by_cases h2 : szL chainSz s.chains left < 0
  · have h3 := szL_neg chainSz_neg h2
    simp [a1, h3, Store.sz]
  · simp [a1, h2, Store.sz]

end Go.Proofs.Ytfdcdbkblkehcaa.Am
/-
  What the laws' own helpers compute.
-/
namespace Go.Proofs.Ytfdcdbkblkehcaa.Am
open Go
variable {E : Env}
set_option linter.unusedVariables false

theorem laws_toReadMark_is (h : G_laws_toReadMark E) (x : ReadMark) : E 29 [x.u] = some x.u := by
  rw [laws_toReadMark_E h]
  simp [ReadMark.u]

theorem laws_toReadMarkS_l0_is (h : G_laws_toReadMarkS E) (l : List ReadMark) (hl : l.length ≤ 1048576) : ∀ (r p : List ReadMark) (i : Int) (c : List U), l = p ++ r → i = p.length → c.length = r.length → (∀ z ∈ c, z.size = 2) →
    laws_toReadMarkS_l0 E (.sl 2 (l.map ReadMark.u)) (.int .i64 i) (p.map ReadMark.u ++ c) = some (.sl 2 (l.map ReadMark.u))
  | [], p, i, c, e, hi, hc, _ => by
    obtain rfl : c = [] := List.length_eq_zero_iff.1 hc
    rw [laws_toReadMarkS_l0_eq]
    simp [mid_end e hi]
    simp [e]
  | x :: r, p, i, [], e, hi, hc, _ => by cases hc
  | x :: r, p, i, z :: c, e, hi, hc, hz => by
    obtain ⟨h0, hlt, hx, hw, hn, _⟩ := mid_at e hi (by omega)
    have hzs : z.size = 2 := hz z (by simp)
    obtain ⟨hg, hs, hlen⟩ := mid_set ReadMark.u p z c hi
    have ih := laws_toReadMarkS_l0_is h l hl r (p ++ [x]) (i + 1) c (mid_next e) hn (by simpa using hc) (fun y hy => hz y (by simp [hy]))
    simp only [List.map_append, List.map_cons, List.map_nil, List.append_assoc, List.cons_append, List.nil_append] at ih
    rw [laws_toReadMarkS_l0_eq]
    simp only [hg, hs, hx, hw, asInt_int, bin_lss, lenOf_sl, List.length_map, Option.bind_some, asBool_bool, hlt, decide_true, if_true, h0, hlen, and_self, bin_add, laws_toReadMark_is h.c_laws_toReadMark x, hzs, ReadMark.u_var, ReadMark.u_size, ReadMark.u_storable]
    simpa using ih
theorem laws_toReadMarkS_is (h : G_laws_toReadMarkS E) (l : List ReadMark) (hl : l.length ≤ 1048576) : E 28 [.sl 2 (l.map ReadMark.u)] = some (.sl 2 (l.map ReadMark.u)) := by
  have h1 := laws_toReadMarkS_l0_is h l hl l [] 0 (List.replicate l.length (.agg [.int .i64 0, .int .i64 0])) rfl rfl (by simp) (by simp)
  rw [laws_toReadMarkS_E h]
  simp only [lenOf_sl, Option.bind_some, List.length_map]
  rw [if_pos (by refine ⟨by omega, by omega, by omega, rfl⟩)]
  simpa using h1

theorem laws_eqReadMark_is (h : G_laws_eqReadMark E) (x y : ReadMark) : E 35 [x.u, y.u] = some (.bool (decide (x = y))) := by
  rw [laws_eqReadMark_E h]
  obtain ⟨a0, a1⟩ := x
  obtain ⟨b0, b1⟩ := y
  simp only [ReadMark.mk.injEq]
  by_cases h0 : a0 = b0
  case neg => simp [h0]
  subst h0
  by_cases h1 : a1 = b1
  case neg => simp [h1]
  subst h1
  simp []

theorem laws_eqReadMarkS_l0_is (h : G_laws_eqReadMarkS E) (a b : List ReadMark) (ha : a.length ≤ 1048576) (hb : b.length ≤ 1048576) : ∀ (r s p p2 : List ReadMark) (i : Int), a = p ++ r → b = p2 ++ s → i = p.length → i = p2.length → r.length = s.length →
    laws_eqReadMarkS_l0 E (.sl 2 (a.map ReadMark.u)) (.sl 2 (b.map ReadMark.u)) (.int .i64 i) = some (.bool (decide (r = s)))
  | [], [], p, p2, i, e, e2, hi, hi2, _ => by
    rw [laws_eqReadMarkS_l0_eq]
    simp [mid_end e hi]
  | [], y :: s, _, _, _, _, _, _, _, hl => by cases hl
  | x :: r, [], _, _, _, _, _, _, _, hl => by cases hl
  | x :: r, y :: s, p, p2, i, e, e2, hi, hi2, hl => by
    obtain ⟨h0, hlt, hx, hw, hn, _⟩ := mid_at e hi (by omega)
    obtain ⟨_, _, hy, _, hn2, _⟩ := mid_at e2 hi2 (by omega)
    have ih := laws_eqReadMarkS_l0_is h a b ha hb r s (p ++ [x]) (p2 ++ [y]) (i + 1) (mid_next e) (mid_next e2) hn hn2 (by simpa using hl)
    rw [laws_eqReadMarkS_l0_eq]
    by_cases hxy : x = y
    · subst hxy
      simp [hlt, hx, hy, hw, ih, laws_eqReadMark_is h.c_laws_eqReadMark]
    · simp [hlt, hx, hy, hw, ih, laws_eqReadMark_is h.c_laws_eqReadMark, hxy]
theorem laws_eqReadMarkS_is (h : G_laws_eqReadMarkS E) (a b : List ReadMark) (ha : a.length ≤ 1048576) (hb : b.length ≤ 1048576) : E 34 [.sl 2 (a.map ReadMark.u), .sl 2 (b.map ReadMark.u)] = some (.bool (decide (a = b))) := by
  rw [laws_eqReadMarkS_E h]
  by_cases hl : a.length = b.length
  · simp [hl, laws_eqReadMarkS_l0_is h a b ha hb a b [] [] 0 rfl rfl rfl rfl hl]
  · have h1 : a ≠ b := fun e => hl (by rw [e])
    have h2 : (a.length : Int) ≠ b.length := by omega
    simp [h1, h2]

theorem laws_szReadMarkS_is (h : G_laws_szReadMarkS E) (l : List ReadMark) (hl : l.length ≤ maxLen) (left : Int) (h0 : 0 ≤ left) (h1 : left ≤ 1048576) : E 24 [.sl 2 (l.map ReadMark.u), .int .i64 left] = some (.int .i64 (szc l.length left)) := by
  rw [laws_szReadMarkS_E h]
  unfold maxLen at hl
  have hw : IntKind.i64.wrap (left - (l.length : Int)) = left - l.length := wrap_in (by omega)
  by_cases h2 : left - (l.length : Int) < 0 <;> simp [hw, szc, h2]

end Go.Proofs.Ytfdcdbkblkehcaa.Am
/-
  What the laws' own helpers compute.
-/
namespace Go.Proofs.Ytfdcdbkblkehcaa.Am
open Go
variable {E : Env}
set_option linter.unusedVariables false

theorem laws_toWrite_is (h : G_laws_toWrite E) (x : Write) : E 30 [x.u] = some x.u := by
  rw [laws_toWrite_E h]
  simp [Write.u]

theorem laws_toWriteS_l0_is (h : G_laws_toWriteS E) (l : List Write) (hl : l.length ≤ 1048576) : ∀ (r p : List Write) (i : Int) (c : List U), l = p ++ r → i = p.length → c.length = r.length → (∀ z ∈ c, z.size = 2) →
    laws_toWriteS_l0 E (.sl 2 (l.map Write.u)) (.int .i64 i) (p.map Write.u ++ c) = some (.sl 2 (l.map Write.u))
  | [], p, i, c, e, hi, hc, _ => by
    obtain rfl : c = [] := List.length_eq_zero_iff.1 hc
    rw [laws_toWriteS_l0_eq]
    simp [mid_end e hi]
    simp [e]
  | x :: r, p, i, [], e, hi, hc, _ => by cases hc
  | x :: r, p, i, z :: c, e, hi, hc, hz => by
    obtain ⟨h0, hlt, hx, hw, hn, _⟩ := mid_at e hi (by omega)
    have hzs : z.size = 2 := hz z (by simp)
    obtain ⟨hg, hs, hlen⟩ := mid_set Write.u p z c hi
    have ih := laws_toWriteS_l0_is h l hl r (p ++ [x]) (i + 1) c (mid_next e) hn (by simpa using hc) (fun y hy => hz y (by simp [hy]))
    simp only [List.map_append, List.map_cons, List.map_nil, List.append_assoc, List.cons_append, List.nil_append] at ih
    rw [laws_toWriteS_l0_eq]
    simp only [hg, hs, hx, hw, asInt_int, bin_lss, lenOf_sl, List.length_map, Option.bind_some, asBool_bool, hlt, decide_true, if_true, h0, hlen, and_self, bin_add, laws_toWrite_is h.c_laws_toWrite x, hzs, Write.u_var, Write.u_size, Write.u_storable]
    simpa using ih
theorem laws_toWriteS_is (h : G_laws_toWriteS E) (l : List Write) (hl : l.length ≤ 1048576) : E 27 [.sl 2 (l.map Write.u)] = some (.sl 2 (l.map Write.u)) := by
  have h1 := laws_toWriteS_l0_is h l hl l [] 0 (List.replicate l.length (.agg [.int .i64 0, .int .i64 0])) rfl rfl (by simp) (by simp)
  rw [laws_toWriteS_E h]
  simp only [lenOf_sl, Option.bind_some, List.length_map]
  rw [if_pos (by refine ⟨by omega, by omega, by omega, rfl⟩)]
  simpa using h1

theorem laws_eqWrite_is (h : G_laws_eqWrite E) (x y : Write) : E 36 [x.u, y.u] = some (.bool (decide (x = y))) := by
  rw [laws_eqWrite_E h]
  obtain ⟨a0, a1⟩ := x
  obtain ⟨b0, b1⟩ := y
  simp only [Write.mk.injEq]
  by_cases h0 : a0 = b0
  case neg => simp [h0]
  subst h0
  by_cases h1 : a1 = b1
  case neg => simp [h1]
  subst h1
  simp []

theorem laws_eqWriteS_l0_is (h : G_laws_eqWriteS E) (a b : List Write) (ha : a.length ≤ 1048576) (hb : b.length ≤ 1048576) : ∀ (r s p p2 : List Write) (i : Int), a = p ++ r → b = p2 ++ s → i = p.length → i = p2.length → r.length = s.length →
    laws_eqWriteS_l0 E (.sl 2 (a.map Write.u)) (.sl 2 (b.map Write.u)) (.int .i64 i) = some (.bool (decide (r = s)))
  | [], [], p, p2, i, e, e2, hi, hi2, _ => by
    rw [laws_eqWriteS_l0_eq]
    simp [mid_end e hi]
  | [], y :: s, _, _, _, _, _, _, _, hl => by cases hl
  | x :: r, [], _, _, _, _, _, _, _, hl => by cases hl
  | x :: r, y :: s, p, p2, i, e, e2, hi, hi2, hl => by
    obtain ⟨h0, hlt, hx, hw, hn, _⟩ := mid_at e hi (by omega)
    obtain ⟨_, _, hy, _, hn2, _⟩ := mid_at e2 hi2 (by omega)
    have ih := laws_eqWriteS_l0_is h a b ha hb r s (p ++ [x]) (p2 ++ [y]) (i + 1) (mid_next e) (mid_next e2) hn hn2 (by simpa using hl)
    rw [laws_eqWriteS_l0_eq]
    by_cases hxy : x = y
    · subst hxy
      simp [hlt, hx, hy, hw, ih, laws_eqWrite_is h.c_laws_eqWrite]
    · simp [hlt, hx, hy, hw, ih, laws_eqWrite_is h.c_laws_eqWrite, hxy]
theorem laws_eqWriteS_is (h : G_laws_eqWriteS E) (a b : List Write) (ha : a.length ≤ 1048576) (hb : b.length ≤ 1048576) : E 33 [.sl 2 (a.map Write.u), .sl 2 (b.map Write.u)] = some (.bool (decide (a = b))) := by
  rw [laws_eqWriteS_E h]
  by_cases hl : a.length = b.length
  · simp [hl, laws_eqWriteS_l0_is h a b ha hb a b [] [] 0 rfl rfl rfl rfl hl]
  · have h1 : a ≠ b := fun e => hl (by rw [e])
    have h2 : (a.length : Int) ≠ b.length := by omega
    simp [h1, h2]

theorem laws_szWriteS_is (h : G_laws_szWriteS E) (l : List Write) (hl : l.length ≤ maxLen) (left : Int) (h0 : 0 ≤ left) (h1 : left ≤ 1048576) : E 23 [.sl 2 (l.map Write.u), .int .i64 left] = some (.int .i64 (szc l.length left)) := by
  rw [laws_szWriteS_E h]
  unfold maxLen at hl
  have hw : IntKind.i64.wrap (left - (l.length : Int)) = left - l.length := wrap_in (by omega)
  by_cases h2 : left - (l.length : Int) < 0 <;> simp [hw, szc, h2]

end Go.Proofs.Ytfdcdbkblkehcaa.Am
/-
  What the laws' own helpers compute.
-/
namespace Go.Proofs.Ytfdcdbkblkehcaa.Am
open Go
variable {E : Env}
set_option linter.unusedVariables false

theorem laws_szTransaction_is (h : G_laws_szTransaction E) (x : Transaction) (hf : x.fit) (left : Int) (h0 : 0 ≤ left) (h1 : left ≤ 1048576) : E 132 [x.u, .int .i64 left] = some (.int .i64 (x.sz left)) := by
  rw [laws_szTransaction_E h]
  obtain ⟨hf1, hf2⟩ := hf
  have a1 := laws_szReadMarkS_is h.c_laws_szReadMarkS x.reads hf1 left h0 h1
  rcases szc_szs x.reads.length left h0 h1 with h2 | ⟨_, h3, h4⟩
  · simp [a1, Transaction.sz, h2]
  · have h5 : ¬ szc x.reads.length left < 0 := by omega
    have a2 := laws_szWriteS_is h.c_laws_szWriteS x.writes hf2 _ h3 (by omega)
    by_cases h6 : szc x.writes.length (szc x.reads.length left) < 0
    · have h7 : szc x.writes.length (szc x.reads.length left) = -1 := szc_neg h6
      simp [a1, a2, Transaction.sz, h5, h7]
    · simp [a1, a2, Transaction.sz, h5, h6]

theorem laws_toTransaction_is (h : G_laws_toTransaction E) (x : Transaction) (ho : x.ok) : E 145 [x.u] = some x.u := by
  rw [laws_toTransaction_E h]
  simp [Transaction.u, laws_toReadMarkS_is h.c_laws_toReadMarkS x.reads ho.1, laws_toWriteS_is h.c_laws_toWriteS x.writes ho.2]

theorem laws_eqTransaction_is (h : G_laws_eqTransaction E) (x y : Transaction) (hx : x.ok) (hy : y.ok) : E 177 [x.u, y.u] = some (.bool (decide (x = y))) := by
  rw [laws_eqTransaction_E h]
  obtain ⟨a0, a1, a2, a3, a4, a5, a6, a7, a8⟩ := x
  obtain ⟨b0, b1, b2, b3, b4, b5, b6, b7, b8⟩ := y
  simp only [Transaction.mk.injEq]
  by_cases h0 : a0 = b0
  case neg => simp [laws_eqReadMarkS_is h.c_laws_eqReadMarkS a7 b7 hx.1 hy.1, laws_eqWriteS_is h.c_laws_eqWriteS a8 b8 hx.2 hy.2, h0]
  subst h0
  by_cases h1 : a1 = b1
  case neg => simp [laws_eqReadMarkS_is h.c_laws_eqReadMarkS a7 b7 hx.1 hy.1, laws_eqWriteS_is h.c_laws_eqWriteS a8 b8 hx.2 hy.2, h1]
  subst h1
  by_cases h2 : a2 = b2
  case neg => simp [laws_eqReadMarkS_is h.c_laws_eqReadMarkS a7 b7 hx.1 hy.1, laws_eqWriteS_is h.c_laws_eqWriteS a8 b8 hx.2 hy.2, h2]
  subst h2
  by_cases h3 : a3 = b3
  case neg => simp [laws_eqReadMarkS_is h.c_laws_eqReadMarkS a7 b7 hx.1 hy.1, laws_eqWriteS_is h.c_laws_eqWriteS a8 b8 hx.2 hy.2, h3]
  subst h3
  by_cases h4 : a4 = b4
  case neg => simp [laws_eqReadMarkS_is h.c_laws_eqReadMarkS a7 b7 hx.1 hy.1, laws_eqWriteS_is h.c_laws_eqWriteS a8 b8 hx.2 hy.2, h4]
  subst h4
  by_cases h5 : a5 = b5
  case neg => simp [laws_eqReadMarkS_is h.c_laws_eqReadMarkS a7 b7 hx.1 hy.1, laws_eqWriteS_is h.c_laws_eqWriteS a8 b8 hx.2 hy.2, h5]
  subst h5
  by_cases h6 : a6 = b6
  case neg => simp [laws_eqReadMarkS_is h.c_laws_eqReadMarkS a7 b7 hx.1 hy.1, laws_eqWriteS_is h.c_laws_eqWriteS a8 b8 hx.2 hy.2, h6]
  subst h6
  by_cases h7 : a7 = b7
  case neg => simp [laws_eqReadMarkS_is h.c_laws_eqReadMarkS a7 b7 hx.1 hy.1, laws_eqWriteS_is h.c_laws_eqWriteS a8 b8 hx.2 hy.2, h7]
  subst h7
  by_cases h8 : a8 = b8
  case neg => simp [laws_eqReadMarkS_is h.c_laws_eqReadMarkS a7 a7 hx.1 hy.1, laws_eqWriteS_is h.c_laws_eqWriteS a8 b8 hx.2 hy.2, h8]
  subst h8
  simp [laws_eqReadMarkS_is h.c_laws_eqReadMarkS a7 a7 hx.1 hy.1, laws_eqWriteS_is h.c_laws_eqWriteS a8 a8 hx.2 hy.2]

theorem laws_toTransactionS_l0_is (h : G_laws_toTransactionS E) (l : List Transaction) (hl : l.length ≤ 1048576) (hok : ∀ x ∈ l, Transaction.ok x) : ∀ (r p : List Transaction) (i : Int) (c : List U), l = p ++ r → i = p.length → c.length = r.length → (∀ z ∈ c, z.size = 9) →
    laws_toTransactionS_l0 E (.sl 9 (l.map Transaction.u)) (.int .i64 i) (p.map Transaction.u ++ c) = some (.sl 9 (l.map Transaction.u))
  | [], p, i, c, e, hi, hc, _ => by
    obtain rfl : c = [] := List.length_eq_zero_iff.1 hc
    rw [laws_toTransactionS_l0_eq]
    simp [mid_end e hi]
    simp [e]
  | x :: r, p, i, [], e, hi, hc, _ => by cases hc
  | x :: r, p, i, z :: c, e, hi, hc, hz => by
    obtain ⟨h0, hlt, hx, hw, hn, _⟩ := mid_at e hi (by omega)
    have hox : Transaction.ok x := hok x (by rw [e]; simp)
    have hzs : z.size = 9 := hz z (by simp)
    obtain ⟨hg, hs, hlen⟩ := mid_set Transaction.u p z c hi
    have ih := laws_toTransactionS_l0_is h l hl hok r (p ++ [x]) (i + 1) c (mid_next e) hn (by simpa using hc) (fun y hy => hz y (by simp [hy]))
    simp only [List.map_append, List.map_cons, List.map_nil, List.append_assoc, List.cons_append, List.nil_append] at ih
    rw [laws_toTransactionS_l0_eq]
    simp only [hg, hs, hx, hw, asInt_int, bin_lss, lenOf_sl, List.length_map, Option.bind_some, asBool_bool, hlt, decide_true, if_true, h0, hlen, and_self, bin_add, laws_toTransaction_is h.c_laws_toTransaction x hox, hzs, Transaction.u_var, Transaction.u_size, Transaction.u_storable]
    simpa using ih
theorem laws_toTransactionS_is (h : G_laws_toTransactionS E) (l : List Transaction) (hl : l.length ≤ 1048576) (hok : ∀ x ∈ l, Transaction.ok x) : E 144 [.sl 9 (l.map Transaction.u)] = some (.sl 9 (l.map Transaction.u)) := by
  have h1 := laws_toTransactionS_l0_is h l hl hok l [] 0 (List.replicate l.length (.agg [.int .i64 0, .int .i64 0, .int .i64 0, .int .i64 0, .int .i64 0, .int .i64 0, .int .i64 0, .nsl 2, .nsl 2])) rfl rfl (by simp) (by simp)
  rw [laws_toTransactionS_E h]
  simp only [lenOf_sl, Option.bind_some, List.length_map]
  rw [if_pos (by refine ⟨by omega, by omega, by omega, rfl⟩)]
  simpa using h1

theorem laws_eqTransactionS_l0_is (h : G_laws_eqTransactionS E) (a b : List Transaction) (ha : a.length ≤ 1048576) (hb : b.length ≤ 1048576) (hao : ∀ x ∈ a, Transaction.ok x) (hbo : ∀ x ∈ b, Transaction.ok x) : ∀ (r s p p2 : List Transaction) (i : Int), a = p ++ r → b = p2 ++ s → i = p.length → i = p2.length → r.length = s.length →
    laws_eqTransactionS_l0 E (.sl 9 (a.map Transaction.u)) (.sl 9 (b.map Transaction.u)) (.int .i64 i) = some (.bool (decide (r = s)))
  | [], [], p, p2, i, e, e2, hi, hi2, _ => by
    rw [laws_eqTransactionS_l0_eq]
    simp [mid_end e hi]
  | [], y :: s, _, _, _, _, _, _, _, hl => by cases hl
  | x :: r, [], _, _, _, _, _, _, _, hl => by cases hl
  | x :: r, y :: s, p, p2, i, e, e2, hi, hi2, hl => by
    obtain ⟨h0, hlt, hx, hw, hn, _⟩ := mid_at e hi (by omega)
    obtain ⟨_, _, hy, _, hn2, _⟩ := mid_at e2 hi2 (by omega)
    have hox : Transaction.ok x := hao x (by rw [e]; simp)
    have hoy : Transaction.ok y := hbo y (by rw [e2]; simp)
    have ih := laws_eqTransactionS_l0_is h a b ha hb hao hbo r s (p ++ [x]) (p2 ++ [y]) (i + 1) (mid_next e) (mid_next e2) hn hn2 (by simpa using hl)
    rw [laws_eqTransactionS_l0_eq]
    by_cases hxy : x = y
    · subst hxy
      simp [hlt, hx, hy, hw, ih, laws_eqTransaction_is h.c_laws_eqTransaction _ _ hox hoy]
    · simp [hlt, hx, hy, hw, ih, laws_eqTransaction_is h.c_laws_eqTransaction _ _ hox hoy, hxy]
theorem laws_eqTransactionS_is (h : G_laws_eqTransactionS E) (a b : List Transaction) (ha : a.length ≤ 1048576) (hb : b.length ≤ 1048576) (hao : ∀ x ∈ a, Transaction.ok x) (hbo : ∀ x ∈ b, Transaction.ok x) : E 176 [.sl 9 (a.map Transaction.u), .sl 9 (b.map Transaction.u)] = some (.bool (decide (a = b))) := by
  rw [laws_eqTransactionS_E h]
  by_cases hl : a.length = b.length
  · simp [hl, laws_eqTransactionS_l0_is h a b ha hb hao hbo a b [] [] 0 rfl rfl rfl rfl hl]
  · have h1 : a ≠ b := fun e => hl (by rw [e])
    have h2 : (a.length : Int) ≠ b.length := by omega
    simp [h1, h2]

theorem laws_szTransactionS_l0_is (h : G_laws_szTransactionS E) (l : List Transaction) (hl : l.length ≤ 1048576) (hf : ∀ x ∈ l, Transaction.fit x) : ∀ (r p : List Transaction) (i left : Int), l = p ++ r → i = p.length → 0 ≤ left → left ≤ 1048576 →
    laws_szTransactionS_l0 E (.sl 9 (l.map Transaction.u)) (.int .i64 left) (.int .i64 i) = some (.int .i64 (szl Transaction.sz r left))
  | [], p, i, left, e, hi, _, _ => by
    rw [laws_szTransactionS_l0_eq]
    simp [mid_end e hi, szl]
  | x :: r, p, i, left, e, hi, h1, h2 => by
    obtain ⟨h0, hlt, hx, hw, hn, _⟩ := mid_at e hi (by omega)
    have hfx : Transaction.fit x := hf x (by rw [e]; simp)
    rw [laws_szTransactionS_l0_eq]
    rcases Transaction.sz_szs x left h1 h2 with h3 | ⟨_, h3, h4⟩
    · simp [hlt, hx, hw, szl, laws_szTransaction_is h.c_laws_szTransaction x hfx left h1 h2, h3]
    · have ih := laws_szTransactionS_l0_is h l hl hf r (p ++ [x]) (i + 1) (Transaction.sz x left) (mid_next e) hn h3 (by omega)
      have h5 : ¬ Transaction.sz x left < 0 := by omega
      simp [hlt, hx, hw, szl, laws_szTransaction_is h.c_laws_szTransaction x hfx left h1 h2, h5, ih]
theorem laws_szTransactionS_is (h : G_laws_szTransactionS E) (l : List Transaction) (hl : l.length ≤ maxLen) (hf : ∀ x ∈ l, Transaction.fit x) (left : Int) (h0 : 0 ≤ left) (h1 : left ≤ 1048576) : E 131 [.sl 9 (l.map Transaction.u), .int .i64 left] = some (.int .i64 (szL Transaction.sz l left)) := by
  rw [laws_szTransactionS_E h]
  unfold maxLen at hl
  have hw : IntKind.i64.wrap (left - (l.length : Int)) = left - l.length := wrap_in (by omega)
  by_cases h2 : left - (l.length : Int) < 0
  · simp [hw, szL, h2]
  · simp [hw, szL, h2, laws_szTransactionS_l0_is h l (by omega) hf l [] 0 (left - l.length) rfl rfl (by omega) (by omega)]

end Go.Proofs.Ytfdcdbkblkehcaa.Am
/-
  What the laws' own helpers compute.
-/
namespace Go.Proofs.Ytfdcdbkblkehcaa.Am
open Go
variable {E : Env}
set_option linter.unusedVariables false

theorem laws_toLock_is (h : G_laws_toLock E) (x : Lock) : E 146 [x.u] = some x.u := by
  rw [laws_toLock_E h]
  simp [Lock.u]

theorem laws_toLockS_l0_is (h : G_laws_toLockS E) (l : List Lock) (hl : l.length ≤ 1048576) : ∀ (r p : List Lock) (i : Int) (c : List U), l = p ++ r → i = p.length → c.length = r.length → (∀ z ∈ c, z.size = 2) →
    laws_toLockS_l0 E (.sl 2 (l.map Lock.u)) (.int .i64 i) (p.map Lock.u ++ c) = some (.sl 2 (l.map Lock.u))
  | [], p, i, c, e, hi, hc, _ => by
    obtain rfl : c = [] := List.length_eq_zero_iff.1 hc
    rw [laws_toLockS_l0_eq]
    simp [mid_end e hi]
    simp [e]
  | x :: r, p, i, [], e, hi, hc, _ => by cases hc
  | x :: r, p, i, z :: c, e, hi, hc, hz => by
    obtain ⟨h0, hlt, hx, hw, hn, _⟩ := mid_at e hi (by omega)
    have hzs : z.size = 2 := hz z (by simp)
    obtain ⟨hg, hs, hlen⟩ := mid_set Lock.u p z c hi
    have ih := laws_toLockS_l0_is h l hl r (p ++ [x]) (i + 1) c (mid_next e) hn (by simpa using hc) (fun y hy => hz y (by simp [hy]))
    simp only [List.map_append, List.map_cons, List.map_nil, List.append_assoc, List.cons_append, List.nil_append] at ih
    rw [laws_toLockS_l0_eq]
    simp only [hg, hs, hx, hw, asInt_int, bin_lss, lenOf_sl, List.length_map, Option.bind_some, asBool_bool, hlt, decide_true, if_true, h0, hlen, and_self, bin_add, laws_toLock_is h.c_laws_toLock x, hzs, Lock.u_var, Lock.u_size, Lock.u_storable]
    simpa using ih
theorem laws_toLockS_is (h : G_laws_toLockS E) (l : List Lock) (hl : l.length ≤ 1048576) : E 143 [.sl 2 (l.map Lock.u)] = some (.sl 2 (l.map Lock.u)) := by
  have h1 := laws_toLockS_l0_is h l hl l [] 0 (List.replicate l.length (.agg [.int .i64 0, .int .i64 0])) rfl rfl (by simp) (by simp)
  rw [laws_toLockS_E h]
  simp only [lenOf_sl, Option.bind_some, List.length_map]
  rw [if_pos (by refine ⟨by omega, by omega, by omega, rfl⟩)]
  simpa using h1

theorem laws_eqLock_is (h : G_laws_eqLock E) (x y : Lock) : E 178 [x.u, y.u] = some (.bool (decide (x = y))) := by
  rw [laws_eqLock_E h]
  obtain ⟨a0, a1⟩ := x
  obtain ⟨b0, b1⟩ := y
  simp only [Lock.mk.injEq]
  by_cases h0 : a0 = b0
  case neg => simp [h0]
  subst h0
  by_cases h1 : a1 = b1
  case neg => simp [h1]
  subst h1
  simp []

theorem laws_eqLockS_l0_is (h : G_laws_eqLockS E) (a b : List Lock) (ha : a.length ≤ 1048576) (hb : b.length ≤ 1048576) : ∀ (r s p p2 : List Lock) (i : Int), a = p ++ r → b = p2 ++ s → i = p.length → i = p2.length → r.length = s.length →
    laws_eqLockS_l0 E (.sl 2 (a.map Lock.u)) (.sl 2 (b.map Lock.u)) (.int .i64 i) = some (.bool (decide (r = s)))
  | [], [], p, p2, i, e, e2, hi, hi2, _ => by
    rw [laws_eqLockS_l0_eq]
    simp [mid_end e hi]
  | [], y :: s, _, _, _, _, _, _, _, hl => by cases hl
  | x :: r, [], _, _, _, _, _, _, _, hl => by cases hl
  | x :: r, y :: s, p, p2, i, e, e2, hi, hi2, hl => by
    obtain ⟨h0, hlt, hx, hw, hn, _⟩ := mid_at e hi (by omega)
    obtain ⟨_, _, hy, _, hn2, _⟩ := mid_at e2 hi2 (by omega)
    have ih := laws_eqLockS_l0_is h a b ha hb r s (p ++ [x]) (p2 ++ [y]) (i + 1) (mid_next e) (mid_next e2) hn hn2 (by simpa using hl)
    rw [laws_eqLockS_l0_eq]
    by_cases hxy : x = y
    · subst hxy
      simp [hlt, hx, hy, hw, ih, laws_eqLock_is h.c_laws_eqLock]
    · simp [hlt, hx, hy, hw, ih, laws_eqLock_is h.c_laws_eqLock, hxy]
theorem laws_eqLockS_is (h : G_laws_eqLockS E) (a b : List Lock) (ha : a.length ≤ 1048576) (hb : b.length ≤ 1048576) : E 175 [.sl 2 (a.map Lock.u), .sl 2 (b.map Lock.u)] = some (.bool (decide (a = b))) := by
  rw [laws_eqLockS_E h]
  by_cases hl : a.length = b.length
  · simp [hl, laws_eqLockS_l0_is h a b ha hb a b [] [] 0 rfl rfl rfl rfl hl]
  · have h1 : a ≠ b := fun e => hl (by rw [e])
    have h2 : (a.length : Int) ≠ b.length := by omega
    simp [h1, h2]

theorem laws_szLockS_is (h : G_laws_szLockS E) (l : List Lock) (hl : l.length ≤ maxLen) (left : Int) (h0 : 0 ≤ left) (h1 : left ≤ 1048576) : E 130 [.sl 2 (l.map Lock.u), .int .i64 left] = some (.int .i64 (szc l.length left)) := by
  rw [laws_szLockS_E h]
  unfold maxLen at hl
  have hw : IntKind.i64.wrap (left - (l.length : Int)) = left - l.length := wrap_in (by omega)
  by_cases h2 : left - (l.length : Int) < 0 <;> simp [hw, szc, h2]

end Go.Proofs.Ytfdcdbkblkehcaa.Am
/-
  What the laws' own helpers compute.
-/
namespace Go.Proofs.Ytfdcdbkblkehcaa.Am
open Go
variable {E : Env}
set_option linter.unusedVariables false

theorem laws_toWait_is (h : G_laws_toWait E) (x : Wait) : E 147 [x.u] = some x.u := by
  rw [laws_toWait_E h]
  simp [Wait.u]

theorem laws_toWaitS_l0_is (h : G_laws_toWaitS E) (l : List Wait) (hl : l.length ≤ 1048576) : ∀ (r p : List Wait) (i : Int) (c : List U), l = p ++ r → i = p.length → c.length = r.length → (∀ z ∈ c, z.size = 2) →
    laws_toWaitS_l0 E (.sl 2 (l.map Wait.u)) (.int .i64 i) (p.map Wait.u ++ c) = some (.sl 2 (l.map Wait.u))
  | [], p, i, c, e, hi, hc, _ => by
    obtain rfl : c = [] := List.length_eq_zero_iff.1 hc
    rw [laws_toWaitS_l0_eq]
    simp [mid_end e hi]
    simp [e]
  | x :: r, p, i, [], e, hi, hc, _ => by cases hc
  | x :: r, p, i, z :: c, e, hi, hc, hz => by
    obtain ⟨h0, hlt, hx, hw, hn, _⟩ := mid_at e hi (by omega)
    have hzs : z.size = 2 := hz z (by simp)
    obtain ⟨hg, hs, hlen⟩ := mid_set Wait.u p z c hi
    have ih := laws_toWaitS_l0_is h l hl r (p ++ [x]) (i + 1) c (mid_next e) hn (by simpa using hc) (fun y hy => hz y (by simp [hy]))
    simp only [List.map_append, List.map_cons, List.map_nil, List.append_assoc, List.cons_append, List.nil_append] at ih
    rw [laws_toWaitS_l0_eq]
    simp only [hg, hs, hx, hw, asInt_int, bin_lss, lenOf_sl, List.length_map, Option.bind_some, asBool_bool, hlt, decide_true, if_true, h0, hlen, and_self, bin_add, laws_toWait_is h.c_laws_toWait x, hzs, Wait.u_var, Wait.u_size, Wait.u_storable]
    simpa using ih
theorem laws_toWaitS_is (h : G_laws_toWaitS E) (l : List Wait) (hl : l.length ≤ 1048576) : E 142 [.sl 2 (l.map Wait.u)] = some (.sl 2 (l.map Wait.u)) := by
  have h1 := laws_toWaitS_l0_is h l hl l [] 0 (List.replicate l.length (.agg [.int .i64 0, .int .i64 0])) rfl rfl (by simp) (by simp)
  rw [laws_toWaitS_E h]
  simp only [lenOf_sl, Option.bind_some, List.length_map]
  rw [if_pos (by refine ⟨by omega, by omega, by omega, rfl⟩)]
  simpa using h1

theorem laws_eqWait_is (h : G_laws_eqWait E) (x y : Wait) : E 179 [x.u, y.u] = some (.bool (decide (x = y))) := by
  rw [laws_eqWait_E h]
  obtain ⟨a0, a1⟩ := x
  obtain ⟨b0, b1⟩ := y
  simp only [Wait.mk.injEq]
  by_cases h0 : a0 = b0
  case neg => simp [h0]
  subst h0
  by_cases h1 : a1 = b1
  case neg => simp [h1]
  subst h1
  simp []

theorem laws_eqWaitS_l0_is (h : G_laws_eqWaitS E) (a b : List Wait) (ha : a.length ≤ 1048576) (hb : b.length ≤ 1048576) : ∀ (r s p p2 : List Wait) (i : Int), a = p ++ r → b = p2 ++ s → i = p.length → i = p2.length → r.length = s.length →
    laws_eqWaitS_l0 E (.sl 2 (a.map Wait.u)) (.sl 2 (b.map Wait.u)) (.int .i64 i) = some (.bool (decide (r = s)))
  | [], [], p, p2, i, e, e2, hi, hi2, _ => by
    rw [laws_eqWaitS_l0_eq]
    simp [mid_end e hi]
  | [], y :: s, _, _, _, _, _, _, _, hl => by cases hl
  | x :: r, [], _, _, _, _, _, _, _, hl => by cases hl
  | x :: r, y :: s, p, p2, i, e, e2, hi, hi2, hl => by
    obtain ⟨h0, hlt, hx, hw, hn, _⟩ := mid_at e hi (by omega)
    obtain ⟨_, _, hy, _, hn2, _⟩ := mid_at e2 hi2 (by omega)
    have ih := laws_eqWaitS_l0_is h a b ha hb r s (p ++ [x]) (p2 ++ [y]) (i + 1) (mid_next e) (mid_next e2) hn hn2 (by simpa using hl)
    rw [laws_eqWaitS_l0_eq]
    by_cases hxy : x = y
    · subst hxy
      simp [hlt, hx, hy, hw, ih, laws_eqWait_is h.c_laws_eqWait]
    · simp [hlt, hx, hy, hw, ih, laws_eqWait_is h.c_laws_eqWait, hxy]
theorem laws_eqWaitS_is (h : G_laws_eqWaitS E) (a b : List Wait) (ha : a.length ≤ 1048576) (hb : b.length ≤ 1048576) : E 174 [.sl 2 (a.map Wait.u), .sl 2 (b.map Wait.u)] = some (.bool (decide (a = b))) := by
  rw [laws_eqWaitS_E h]
  by_cases hl : a.length = b.length
  · simp [hl, laws_eqWaitS_l0_is h a b ha hb a b [] [] 0 rfl rfl rfl rfl hl]
  · have h1 : a ≠ b := fun e => hl (by rw [e])
    have h2 : (a.length : Int) ≠ b.length := by omega
    simp [h1, h2]

theorem laws_szWaitS_is (h : G_laws_szWaitS E) (l : List Wait) (hl : l.length ≤ maxLen) (left : Int) (h0 : 0 ≤ left) (h1 : left ≤ 1048576) : E 129 [.sl 2 (l.map Wait.u), .int .i64 left] = some (.int .i64 (szc l.length left)) := by
  rw [laws_szWaitS_E h]
  unfold maxLen at hl
  have hw : IntKind.i64.wrap (left - (l.length : Int)) = left - l.length := wrap_in (by omega)
  by_cases h2 : left - (l.length : Int) < 0 <;> simp [hw, szc, h2]

end Go.Proofs.Ytfdcdbkblkehcaa.Am
/-
  What the laws' own helpers compute.
-/
namespace Go.Proofs.Ytfdcdbkblkehcaa.Am
open Go
variable {E : Env}
set_option linter.unusedVariables false

theorem laws_toEngine_is (h : G_laws_toEngine E) (e : Engine) (ho : e.ok) : E 124 [e.u] = some e.u := by
  obtain ⟨o1, o2, o3, o4, o5⟩ := ho
  rw [laws_toEngine_E h]
  have a1 := laws_toStore_is h.c_laws_toStore e.store o1
  have a2 := laws_toTransactionS_is h.c_laws_toTransactionS e.transactions o2 o3
  have a3 := laws_toLockS_is h.c_laws_toLockS e.locks o4
  have a4 := laws_toWaitS_is h.c_laws_toWaitS e.waits o5
  simp [a1, a2, a3, a4]
  rfl

theorem laws_eqEngine_is (h : G_laws_eqEngine E) (x y : Engine) (hx : x.ok) (hy : y.ok) : E 125 [x.u, y.u] = some (.bool (decide (x = y))) := by
  obtain ⟨o1, o2, o3, o4, o5⟩ := hx
  obtain ⟨p1, p2, p3, p4, p5⟩ := hy
  rw [laws_eqEngine_E h]
  have a1 := laws_eqStore_is h.c_laws_eqStore x.store y.store o1 p1
  have a2 := laws_eqTransactionS_is h.c_laws_eqTransactionS x.transactions y.transactions o2 p2 o3 p3
  have a3 := laws_eqLockS_is h.c_laws_eqLockS x.locks y.locks o4 p4
  have a4 := laws_eqWaitS_is h.c_laws_eqWaitS x.waits y.waits o5 p5
  simp only [Engine.eq_iff]
  by_cases h0 : x.certify = y.certify
  case neg => simp [h0]
  by_cases h1 : x.store = y.store
  case neg => simp [h0, a1, h1]
  rw [h1] at a1
  by_cases h2 : x.transactions = y.transactions
  case neg => simp [h0, a1, h1, a2, h2]
  rw [h2] at a2
  by_cases h3 : x.locks = y.locks
  case neg => simp [h0, a1, h1, a2, h2, a3, h3]
  rw [h3] at a3
  by_cases h4 : x.waits = y.waits
  case neg => simp [h0, a1, h1, a2, h2, a3, h3, a4, h4]
  rw [h4] at a4
  by_cases h5 : x.stamp = y.stamp <;> simp [h0, a1, h1, a2, h2, a3, h3, a4, h4, h5]

theorem laws_szEngine_is (h : G_laws_szEngine E) (e : Engine) (hf : e.fit) (left : Int) (h0 : 0 ≤ left) (h1 : left ≤ 1048576) : E 128 [e.u, .int .i64 left] = some (.int .i64 (e.sz left)) := by
  obtain ⟨f1, f2, f3, f4, f5⟩ := hf
  rw [laws_szEngine_E h]
  have a1 := laws_szStore_is h.c_laws_szStore e.store f1 left h0 h1
  rcases Store.sz_szs e.store left h0 h1 with n1 | ⟨_, n1, n2⟩
  · simp [a1, n1, Engine.sz]
  have n3 : ¬ e.store.sz left < 0 := by omega
  have a2 := laws_szTransactionS_is h.c_laws_szTransactionS e.transactions f2 f3 _ n1 (by omega)
  rcases szL_szs Transaction.sz_szs e.transactions _ n1 (by omega) with m1 | ⟨_, m1, m2⟩
  · simp [a1, n3, a2, m1, Engine.sz]
  have m3 : ¬ szL Transaction.sz e.transactions (e.store.sz left) < 0 := by omega
  have a3 := laws_szLockS_is h.c_laws_szLockS e.locks f4 _ m1 (by omega)
  rcases szc_szs e.locks.length _ m1 (by omega) with k1 | ⟨_, k1, k2⟩
  · simp [a1, n3, a2, m3, a3, k1, Engine.sz]
  have k3 : ¬ szc e.locks.length (szL Transaction.sz e.transactions (e.store.sz left)) < 0 := by omega
  have a4 := laws_szWaitS_is h.c_laws_szWaitS e.waits f5 _ k1 (by omega)
  by_cases j1 : szc e.waits.length (szc e.locks.length (szL Transaction.sz e.transactions (e.store.sz left))) < 0
  · have j2 := szc_neg j1
    simp [a1, n3, a2, m3, a3, k3, a4, j2, Engine.sz]
  · simp [a1, n3, a2, m3, a3, k3, a4, j1, Engine.sz]

end Go.Proofs.Ytfdcdbkblkehcaa.Am
/-
  Data of a struct's make ('Fits') are such a struct, as plain data.
-/
namespace Go.Proofs.Ytfdcdbkblkehcaa.Am
open Go

abbrev shI : Sh := .int .i64
theorem fits_int {u : U} (h : Fits shI u) : ∃ n, u = .int .i64 n ∧ -9223372036854775808 ≤ n ∧ n ≤ 9223372036854775807 := by
  cases u <;> first | exact h.elim | skip
  rename_i k n
  obtain ⟨rfl, h1, h2⟩ := h
  exact ⟨n, rfl, h1, h2⟩
theorem fits_bool {u : U} (h : Fits .bool u) : ∃ b, u = .bool b := by
  cases u <;> first | exact h.elim | exact ⟨_, rfl⟩
theorem fits_str {u : U} (h : Fits .str u) : ∃ s, u = .str s ∧ s.size ≤ maxLen := by
  cases u <;> first | exact h.elim | exact ⟨_, rfl, h⟩
theorem fits_agg {ss : List Sh} {u : U} (h : Fits (.agg ss) u) : ∃ us, u = .agg us ∧ Fits.fits ss us := by
  cases u <;> first | exact h.elim | exact ⟨_, rfl, h⟩
theorem fits_cons {s : Sh} {ss : List Sh} {us : List U} (h : Fits.fits (s :: ss) us) : ∃ u us', us = u :: us' ∧ Fits s u ∧ Fits.fits ss us' := by
  cases us with
  | nil => exact h.elim
  | cons u us => exact ⟨u, us, rfl, h.1, h.2⟩
theorem fits_nil {us : List U} (h : Fits.fits [] us) : us = [] := by
  cases us with
  | nil => rfl
  | cons u us => exact h.elim
theorem fits_map {α : Type} {s : Sh} {f : α → U} {Q : α → Prop} (hs : ∀ u, Fits s u → ∃ x, u = f x ∧ Q x) : ∀ us : List U, (∀ u ∈ us, Fits s u) → ∃ l : List α, us = l.map f ∧ ∀ x ∈ l, Q x
  | [], _ => ⟨[], rfl, by simp⟩
  | u :: us, h => by
    obtain ⟨x, rfl, hx⟩ := hs u (h u (by simp))
    obtain ⟨l, rfl, hl⟩ := fits_map hs us (fun v hv => h v (by simp [hv]))
    exact ⟨x :: l, rfl, by simpa using ⟨hx, hl⟩⟩
theorem fits_sl {α : Type} {k : Nat} {s : Sh} {f : α → U} {Q : α → Prop} (hs : ∀ u, Fits s u → ∃ x, u = f x ∧ Q x) {u : U} (h : Fits (.sl k s) u) : ∃ l : List α, u = .sl k (l.map f) ∧ l.length ≤ maxLen ∧ ∀ x ∈ l, Q x := by
  cases u <;> first | exact h.elim | skip
  obtain ⟨rfl, h1, h2⟩ := h
  obtain ⟨l, rfl, hl⟩ := fits_map hs _ h2
  exact ⟨l, rfl, by simpa using h1, hl⟩
theorem fits_ints {u : U} (h : Fits (.sl 1 shI) u) : ∃ l : List Int, u = .sl 1 (l.map intU) ∧ l.length ≤ maxLen := by
  obtain ⟨l, h1, h2, _⟩ := fits_sl (f := intU) (Q := fun _ => True) (fun u h => by obtain ⟨n, hn, _⟩ := fits_int h; exact ⟨n, hn, trivial⟩) h
  exact ⟨l, h1, h2⟩

abbrev shEdge : Sh := .agg [shI, shI, shI, shI]
theorem fits_Edge (u : U) (h : Fits shEdge u) : ∃ x : Edge, u = x.u ∧ True := by
  obtain ⟨us0, rfl, hs0⟩ := fits_agg h
  obtain ⟨u0, us1, rfl, h0, hs1⟩ := fits_cons hs0
  obtain ⟨a0, rfl, _⟩ := fits_int h0
  obtain ⟨u1, us2, rfl, h1, hs2⟩ := fits_cons hs1
  obtain ⟨a1, rfl, _⟩ := fits_int h1
  obtain ⟨u2, us3, rfl, h2, hs3⟩ := fits_cons hs2
  obtain ⟨a2, rfl, _⟩ := fits_int h2
  obtain ⟨u3, us4, rfl, h3, hs4⟩ := fits_cons hs3
  obtain ⟨a3, rfl, _⟩ := fits_int h3
  obtain rfl := fits_nil hs4
  exact ⟨⟨a0, a1, a2, a3⟩, rfl, trivial⟩

abbrev shReadMark : Sh := .agg [shI, shI]
theorem fits_ReadMark (u : U) (h : Fits shReadMark u) : ∃ x : ReadMark, u = x.u ∧ True := by
  obtain ⟨us0, rfl, hs0⟩ := fits_agg h
  obtain ⟨u0, us1, rfl, h0, hs1⟩ := fits_cons hs0
  obtain ⟨a0, rfl, _⟩ := fits_int h0
  obtain ⟨u1, us2, rfl, h1, hs2⟩ := fits_cons hs1
  obtain ⟨a1, rfl, _⟩ := fits_int h1
  obtain rfl := fits_nil hs2
  exact ⟨⟨a0, a1⟩, rfl, trivial⟩

abbrev shWrite : Sh := .agg [shI, shI]
theorem fits_Write (u : U) (h : Fits shWrite u) : ∃ x : Write, u = x.u ∧ True := by
  obtain ⟨us0, rfl, hs0⟩ := fits_agg h
  obtain ⟨u0, us1, rfl, h0, hs1⟩ := fits_cons hs0
  obtain ⟨a0, rfl, _⟩ := fits_int h0
  obtain ⟨u1, us2, rfl, h1, hs2⟩ := fits_cons hs1
  obtain ⟨a1, rfl, _⟩ := fits_int h1
  obtain rfl := fits_nil hs2
  exact ⟨⟨a0, a1⟩, rfl, trivial⟩

abbrev shLock : Sh := .agg [shI, shI]
theorem fits_Lock (u : U) (h : Fits shLock u) : ∃ x : Lock, u = x.u ∧ True := by
  obtain ⟨us0, rfl, hs0⟩ := fits_agg h
  obtain ⟨u0, us1, rfl, h0, hs1⟩ := fits_cons hs0
  obtain ⟨a0, rfl, _⟩ := fits_int h0
  obtain ⟨u1, us2, rfl, h1, hs2⟩ := fits_cons hs1
  obtain ⟨a1, rfl, _⟩ := fits_int h1
  obtain rfl := fits_nil hs2
  exact ⟨⟨a0, a1⟩, rfl, trivial⟩

abbrev shWait : Sh := .agg [shI, shI]
theorem fits_Wait (u : U) (h : Fits shWait u) : ∃ x : Wait, u = x.u ∧ True := by
  obtain ⟨us0, rfl, hs0⟩ := fits_agg h
  obtain ⟨u0, us1, rfl, h0, hs1⟩ := fits_cons hs0
  obtain ⟨a0, rfl, _⟩ := fits_int h0
  obtain ⟨u1, us2, rfl, h1, hs2⟩ := fits_cons hs1
  obtain ⟨a1, rfl, _⟩ := fits_int h1
  obtain rfl := fits_nil hs2
  exact ⟨⟨a0, a1⟩, rfl, trivial⟩

abbrev shVersion : Sh := .agg [shI, shI, shI, shI, shI]
theorem fits_Version (u : U) (h : Fits shVersion u) : ∃ x : Version, u = x.u ∧ True := by
  obtain ⟨us0, rfl, hs0⟩ := fits_agg h
  obtain ⟨u0, us1, rfl, h0, hs1⟩ := fits_cons hs0
  obtain ⟨a0, rfl, _⟩ := fits_int h0
  obtain ⟨u1, us2, rfl, h1, hs2⟩ := fits_cons hs1
  obtain ⟨a1, rfl, _⟩ := fits_int h1
  obtain ⟨u2, us3, rfl, h2, hs3⟩ := fits_cons hs2
  obtain ⟨a2, rfl, _⟩ := fits_int h2
  obtain ⟨u3, us4, rfl, h3, hs4⟩ := fits_cons hs3
  obtain ⟨a3, rfl, _⟩ := fits_int h3
  obtain ⟨u4, us5, rfl, h4, hs5⟩ := fits_cons hs4
  obtain ⟨a4, rfl, _⟩ := fits_int h4
  obtain rfl := fits_nil hs5
  exact ⟨⟨a0, a1, a2, a3, a4⟩, rfl, trivial⟩

abbrev shEntry : Sh := .agg [shI, shI, .sl 2 shReadMark, .sl 2 shWrite]
theorem fits_Entry (u : U) (h : Fits shEntry u) : ∃ x : Entry, u = x.u ∧ x.fit := by
  obtain ⟨us0, rfl, hs0⟩ := fits_agg h
  obtain ⟨u0, us1, rfl, h0, hs1⟩ := fits_cons hs0
  obtain ⟨a0, rfl, _⟩ := fits_int h0
  obtain ⟨u1, us2, rfl, h1, hs2⟩ := fits_cons hs1
  obtain ⟨a1, rfl, _⟩ := fits_int h1
  obtain ⟨u2, us3, rfl, h2, hs3⟩ := fits_cons hs2
  obtain ⟨a2, rfl, l2, _⟩ := fits_sl fits_ReadMark h2
  obtain ⟨u3, us4, rfl, h3, hs4⟩ := fits_cons hs3
  obtain ⟨a3, rfl, l3, _⟩ := fits_sl fits_Write h3
  obtain rfl := fits_nil hs4
  exact ⟨⟨a0, a1, a2, a3⟩, rfl, ⟨l2, l3⟩⟩

abbrev shLogRecord : Sh := .agg [shI, shI, shI, shI, .sl 2 shReadMark, .sl 2 shWrite]
theorem fits_LogRecord (u : U) (h : Fits shLogRecord u) : ∃ x : LogRecord, u = x.u ∧ x.fit := by
  obtain ⟨us0, rfl, hs0⟩ := fits_agg h
  obtain ⟨u0, us1, rfl, h0, hs1⟩ := fits_cons hs0
  obtain ⟨a0, rfl, _⟩ := fits_int h0
  obtain ⟨u1, us2, rfl, h1, hs2⟩ := fits_cons hs1
  obtain ⟨a1, rfl, _⟩ := fits_int h1
  obtain ⟨u2, us3, rfl, h2, hs3⟩ := fits_cons hs2
  obtain ⟨a2, rfl, _⟩ := fits_int h2
  obtain ⟨u3, us4, rfl, h3, hs4⟩ := fits_cons hs3
  obtain ⟨a3, rfl, _⟩ := fits_int h3
  obtain ⟨u4, us5, rfl, h4, hs5⟩ := fits_cons hs4
  obtain ⟨a4, rfl, l4, _⟩ := fits_sl fits_ReadMark h4
  obtain ⟨u5, us6, rfl, h5, hs6⟩ := fits_cons hs5
  obtain ⟨a5, rfl, l5, _⟩ := fits_sl fits_Write h5
  obtain rfl := fits_nil hs6
  exact ⟨⟨a0, a1, a2, a3, a4, a5⟩, rfl, ⟨l4, l5⟩⟩

abbrev shTransaction : Sh := .agg [shI, shI, shI, shI, shI, shI, shI, .sl 2 shReadMark, .sl 2 shWrite]
theorem fits_Transaction (u : U) (h : Fits shTransaction u) : ∃ x : Transaction, u = x.u ∧ x.fit := by
  obtain ⟨us0, rfl, hs0⟩ := fits_agg h
  obtain ⟨u0, us1, rfl, h0, hs1⟩ := fits_cons hs0
  obtain ⟨a0, rfl, _⟩ := fits_int h0
  obtain ⟨u1, us2, rfl, h1, hs2⟩ := fits_cons hs1
  obtain ⟨a1, rfl, _⟩ := fits_int h1
  obtain ⟨u2, us3, rfl, h2, hs3⟩ := fits_cons hs2
  obtain ⟨a2, rfl, _⟩ := fits_int h2
  obtain ⟨u3, us4, rfl, h3, hs4⟩ := fits_cons hs3
  obtain ⟨a3, rfl, _⟩ := fits_int h3
  obtain ⟨u4, us5, rfl, h4, hs5⟩ := fits_cons hs4
  obtain ⟨a4, rfl, _⟩ := fits_int h4
  obtain ⟨u5, us6, rfl, h5, hs6⟩ := fits_cons hs5
  obtain ⟨a5, rfl, _⟩ := fits_int h5
  obtain ⟨u6, us7, rfl, h6, hs7⟩ := fits_cons hs6
  obtain ⟨a6, rfl, _⟩ := fits_int h6
  obtain ⟨u7, us8, rfl, h7, hs8⟩ := fits_cons hs7
  obtain ⟨a7, rfl, l7, _⟩ := fits_sl fits_ReadMark h7
  obtain ⟨u8, us9, rfl, h8, hs9⟩ := fits_cons hs8
  obtain ⟨a8, rfl, l8, _⟩ := fits_sl fits_Write h8
  obtain rfl := fits_nil hs9
  exact ⟨⟨a0, a1, a2, a3, a4, a5, a6, a7, a8⟩, rfl, ⟨l7, l8⟩⟩

abbrev shStore : Sh := .agg [.sl 1 (.sl 5 shVersion)]
theorem fits_chain (u : U) (h : Fits (.sl 5 shVersion) u) : ∃ l : List Version, u = chainU l ∧ chainFit l := by
  obtain ⟨l, h1, h2, _⟩ := fits_sl fits_Version h
  exact ⟨l, h1, h2⟩
theorem fits_Store (u : U) (h : Fits shStore u) : ∃ s : Store, u = s.u ∧ s.fit := by
  obtain ⟨us0, rfl, hs0⟩ := fits_agg h
  obtain ⟨u0, us1, rfl, h0, hs1⟩ := fits_cons hs0
  obtain ⟨l, rfl, h1, h2⟩ := fits_sl fits_chain h0
  obtain rfl := fits_nil hs1
  exact ⟨⟨l⟩, rfl, h1, h2⟩
abbrev shEngine : Sh := .agg [.bool, shStore, .sl 9 shTransaction, .sl 2 shLock, .sl 2 shWait, shI]
theorem fits_Engine (u : U) (h : Fits shEngine u) : ∃ e : Engine, u = e.u ∧ e.fit := by
  obtain ⟨us0, rfl, hs0⟩ := fits_agg h
  obtain ⟨u0, us1, rfl, h0, hs1⟩ := fits_cons hs0
  obtain ⟨b, rfl⟩ := fits_bool h0
  obtain ⟨u1, us2, rfl, h1, hs2⟩ := fits_cons hs1
  obtain ⟨s, rfl, f1⟩ := fits_Store _ h1
  obtain ⟨u2, us3, rfl, h2, hs3⟩ := fits_cons hs2
  obtain ⟨ts, rfl, f2, f3⟩ := fits_sl fits_Transaction h2
  obtain ⟨u3, us4, rfl, h3, hs4⟩ := fits_cons hs3
  obtain ⟨ls, rfl, f4, _⟩ := fits_sl fits_Lock h3
  obtain ⟨u4, us5, rfl, h4, hs5⟩ := fits_cons hs4
  obtain ⟨ws, rfl, f5, _⟩ := fits_sl fits_Wait h4
  obtain ⟨u5, us6, rfl, h5, hs6⟩ := fits_cons hs5
  obtain ⟨n, rfl, _⟩ := fits_int h5
  obtain rfl := fits_nil hs6
  exact ⟨⟨b, s, ts, ls, ws, n⟩, rfl, f1, f2, f3, f4, f5⟩

end Go.Proofs.Ytfdcdbkblkehcaa.Am
/-
  What the laws' own helpers compute: nodes.
-/
namespace Go.Proofs.Ytfdcdbkblkehcaa.Am
open Go
variable {E : Env}
set_option linter.unusedVariables false

abbrev shNode : Sh := .agg [shEngine, .str]
def Node.fit (n : Node) : Prop := n.engine.fit ∧ n.log.size ≤ maxLen
def Node.ok (n : Node) : Prop := n.engine.ok
theorem fits_Node (u : U) (h : Fits shNode u) : ∃ n : Node, u = n.u ∧ n.fit := by
  obtain ⟨us0, rfl, hs0⟩ := fits_agg h
  obtain ⟨u0, us1, rfl, h0, hs1⟩ := fits_cons hs0
  obtain ⟨e, rfl, f0⟩ := fits_Engine _ h0
  obtain ⟨u1, us2, rfl, h1, hs2⟩ := fits_cons hs1
  obtain ⟨s, rfl, f1⟩ := fits_str h1
  obtain rfl := fits_nil hs2
  exact ⟨⟨e, s⟩, rfl, f0, f1⟩
def Node.sz (n : Node) (left : Int) : Int := if n.engine.sz left < 0 then -1 else if n.engine.sz left - n.log.size < 0 then -1 else n.engine.sz left - n.log.size
theorem Node.sz_szs : Szs Node.sz Node.ok := fun n left h0 h1 => by
  unfold Node.sz Node.ok
  rcases Engine.sz_szs n.engine left h0 h1 with n1 | ⟨o, n1, n2⟩
  · left; simp [n1]
  have n3 : ¬ n.engine.sz left < 0 := by omega
  by_cases h2 : n.engine.sz left - n.log.size < 0
  · left; simp [n3, h2]
  · right; simp only [n3, h2, if_false]; exact ⟨o, by omega, by omega⟩

theorem laws_toNode_is (h : G_laws_toNode E) (n : Node) (ho : n.ok) : E 259 [n.u] = some n.u := by
  rw [laws_toNode_E h]
  simp [laws_toEngine_is h.c_laws_toEngine n.engine ho]
  rfl
def Node.same (x y : Node) : Bool := decide (x.engine = y.engine) && (x.log.toList == y.log.toList)
theorem Node.same_self (x : Node) : x.same x = true := by simp [Node.same]
theorem laws_eqNode_is (h : G_laws_eqNode E) (x y : Node) (hx : x.ok) (hy : y.ok) : E 260 [x.u, y.u] = some (.bool (x.same y)) := by
  rw [laws_eqNode_E h]
  have a1 := laws_eqEngine_is h.c_laws_eqEngine x.engine y.engine hx hy
  by_cases h0 : x.engine = y.engine
  · rw [h0] at a1
    cases h1 : x.log.toList == y.log.toList <;> simp [h0, a1, Node.same, h1, -beq_iff_eq, -beq_eq_false_iff_ne]
  · simp [h0, a1, Node.same]
theorem laws_szNode_is (h : G_laws_szNode E) (n : Node) (hf : n.fit) (left : Int) (h0 : 0 ≤ left) (h1 : left ≤ 1048576) : E 263 [n.u, .int .i64 left] = some (.int .i64 (n.sz left)) := by
  rw [laws_szNode_E h]
  have a1 := laws_szEngine_is h.c_laws_szEngine n.engine hf.1 left h0 h1
  rcases Engine.sz_szs n.engine left h0 h1 with n1 | ⟨o, n1, n2⟩
  · simp [a1, n1, Node.sz]
  have n3 : ¬ n.engine.sz left < 0 := by omega
  have hm := hf.2
  have hw : IntKind.i64.wrap (n.engine.sz left - n.log.size) = n.engine.sz left - n.log.size := wrap_in (by unfold maxLen at hm; omega)
  by_cases h2 : n.engine.sz left - n.log.size < 0
  · have h2' : n.engine.sz left < n.log.size := by omega
    simp [a1, n3, hw, h2, h2', Node.sz]
  · have h2' : ¬ n.engine.sz left < n.log.size := by omega
    simp [a1, n3, hw, h2, h2', Node.sz]
end Go.Proofs.Ytfdcdbkblkehcaa.Am
/-
  What a function of package slices computes.
-/
namespace Go.Proofs.Ytfdcdbkblkehcaa.Am
open Go
variable {E : Env}
set_option linter.unusedVariables false

theorem slices_EqualFunc_g270_l0_is (a b : List Transaction) (ha : a.length ≤ 9223372036854775807) (hb : b.length ≤ 9223372036854775807) (q : Nat) (caps : List U) (hp : ∀ x ∈ a, ∀ y ∈ b, E q (Transaction.u x :: Transaction.u y :: caps) = some (.bool (decide (x = y)))) : ∀ (r s p p2 : List Transaction) (i : Int), a = p ++ r → b = p2 ++ s → i = p.length → i = p2.length → r.length = s.length →
    slices_EqualFunc_g270_l0 E (.sl 9 (b.map Transaction.u)) (.fn q caps) (.sl 9 (a.map Transaction.u)) (.int .i64 a.length) (.int .i64 i) = some (.bool (decide (r = s)))
  | [], [], p, p2, i, e, e2, hi, hi2, _ => by
    rw [slices_EqualFunc_g270_l0_eq]
    simp [mid_end e hi]
  | [], y :: s, _, _, _, _, _, _, _, hl => by cases hl
  | x :: r, [], _, _, _, _, _, _, _, hl => by cases hl
  | x :: r, y :: s, p, p2, i, e, e2, hi, hi2, hl => by
    obtain ⟨h0, hlt, hx, hw, hn, _⟩ := mid_at e hi ha
    obtain ⟨_, _, hy, _, hn2, _⟩ := mid_at e2 hi2 hb
    have ih := slices_EqualFunc_g270_l0_is a b ha hb q caps hp r s (p ++ [x]) (p2 ++ [y]) (i + 1) (mid_next e) (mid_next e2) hn hn2 (by simpa using hl)
    have hpx := hp x (by rw [e]; simp) y (by rw [e2]; simp)
    rw [slices_EqualFunc_g270_l0_eq]
    have hx' := fun {γ : Type} (K : U → Option γ) => hx 9 Transaction.u K
    have hy' := fun {γ : Type} (K : U → Option γ) => hy 9 Transaction.u K
    by_cases hxy : x = y
    · subst hxy
      simp [hlt, hx', hy', hw, ih, hpx]
    · simp [hlt, hx', hy', hw, ih, hpx, hxy]
theorem slices_EqualFunc_g270_is (h : G_slices_EqualFunc_g270 E) (a b : List Transaction) (ha : a.length ≤ 9223372036854775807) (hb : b.length ≤ 9223372036854775807) (q : Nat) (caps : List U) (hp : ∀ x ∈ a, ∀ y ∈ b, E q (Transaction.u x :: Transaction.u y :: caps) = some (.bool (decide (x = y)))) : E 270 [.sl 9 (a.map Transaction.u), .sl 9 (b.map Transaction.u), .fn q caps] = some (.bool (decide (a = b))) := by
  rw [slices_EqualFunc_g270_E h]
  by_cases hl : a.length = b.length
  · have h1 := slices_EqualFunc_g270_l0_is (E := E) a b ha hb q caps hp a b [] [] 0 rfl rfl rfl rfl hl
    rw [hl] at h1
    simp [hl, h1]
  · have h1 : a ≠ b := fun e => hl (by rw [e])
    have h2 : (a.length : Int) ≠ b.length := by omega
    simp [h1, h2]
end Go.Proofs.Ytfdcdbkblkehcaa.Am
/-
  What a function of package slices computes.
-/
namespace Go.Proofs.Ytfdcdbkblkehcaa.Am
open Go
variable {E : Env}
set_option linter.unusedVariables false

theorem slices_EqualFunc_g274_l0_is (a b : List (List Version)) (ha : a.length ≤ 9223372036854775807) (hb : b.length ≤ 9223372036854775807) (q : Nat) (caps : List U) (hp : ∀ x ∈ a, ∀ y ∈ b, E q (chainU x :: chainU y :: caps) = some (.bool (decide (x = y)))) : ∀ (r s p p2 : List (List Version)) (i : Int), a = p ++ r → b = p2 ++ s → i = p.length → i = p2.length → r.length = s.length →
    slices_EqualFunc_g274_l0 E (.sl 1 (b.map chainU)) (.fn q caps) (.sl 1 (a.map chainU)) (.int .i64 a.length) (.int .i64 i) = some (.bool (decide (r = s)))
  | [], [], p, p2, i, e, e2, hi, hi2, _ => by
    rw [slices_EqualFunc_g274_l0_eq]
    simp [mid_end e hi]
  | [], y :: s, _, _, _, _, _, _, _, hl => by cases hl
  | x :: r, [], _, _, _, _, _, _, _, hl => by cases hl
  | x :: r, y :: s, p, p2, i, e, e2, hi, hi2, hl => by
    obtain ⟨h0, hlt, hx, hw, hn, _⟩ := mid_at e hi ha
    obtain ⟨_, _, hy, _, hn2, _⟩ := mid_at e2 hi2 hb
    have ih := slices_EqualFunc_g274_l0_is a b ha hb q caps hp r s (p ++ [x]) (p2 ++ [y]) (i + 1) (mid_next e) (mid_next e2) hn hn2 (by simpa using hl)
    have hpx := hp x (by rw [e]; simp) y (by rw [e2]; simp)
    rw [slices_EqualFunc_g274_l0_eq]
    have hx' := fun {γ : Type} (K : U → Option γ) => hx 1 chainU K
    have hy' := fun {γ : Type} (K : U → Option γ) => hy 1 chainU K
    by_cases hxy : x = y
    · subst hxy
      simp [hlt, hx', hy', hw, ih, hpx]
    · simp [hlt, hx', hy', hw, ih, hpx, hxy]
theorem slices_EqualFunc_g274_is (h : G_slices_EqualFunc_g274 E) (a b : List (List Version)) (ha : a.length ≤ 9223372036854775807) (hb : b.length ≤ 9223372036854775807) (q : Nat) (caps : List U) (hp : ∀ x ∈ a, ∀ y ∈ b, E q (chainU x :: chainU y :: caps) = some (.bool (decide (x = y)))) : E 274 [.sl 1 (a.map chainU), .sl 1 (b.map chainU), .fn q caps] = some (.bool (decide (a = b))) := by
  rw [slices_EqualFunc_g274_E h]
  by_cases hl : a.length = b.length
  · have h1 := slices_EqualFunc_g274_l0_is (E := E) a b ha hb q caps hp a b [] [] 0 rfl rfl rfl rfl hl
    rw [hl] at h1
    simp [hl, h1]
  · have h1 : a ≠ b := fun e => hl (by rw [e])
    have h2 : (a.length : Int) ≠ b.length := by omega
    simp [h1, h2]
end Go.Proofs.Ytfdcdbkblkehcaa.Am
/-
  What a function of package slices computes.
-/
namespace Go.Proofs.Ytfdcdbkblkehcaa.Am
open Go
variable {E : Env}
set_option linter.unusedVariables false

theorem slices_Equal_g271_l0_is (a b : List Lock) (ha : a.length ≤ 9223372036854775807) (hb : b.length ≤ 9223372036854775807) : ∀ (r s p p2 : List Lock) (i : Int), a = p ++ r → b = p2 ++ s → i = p.length → i = p2.length → r.length = s.length →
    slices_Equal_g271_l0 E (.sl 2 (a.map Lock.u)) (.sl 2 (b.map Lock.u)) (.int .i64 a.length) (.int .i64 i) = some (.bool (decide (r = s)))
  | [], [], p, p2, i, e, e2, hi, hi2, _ => by
    rw [slices_Equal_g271_l0_eq]
    simp [mid_end e hi]
  | [], y :: s, _, _, _, _, _, _, _, hl => by cases hl
  | x :: r, [], _, _, _, _, _, _, _, hl => by cases hl
  | x :: r, y :: s, p, p2, i, e, e2, hi, hi2, hl => by
    obtain ⟨h0, hlt, hx, hw, hn, _⟩ := mid_at e hi ha
    obtain ⟨_, _, hy, _, hn2, _⟩ := mid_at e2 hi2 hb
    have ih := slices_Equal_g271_l0_is a b ha hb r s (p ++ [x]) (p2 ++ [y]) (i + 1) (mid_next e) (mid_next e2) hn hn2 (by simpa using hl)
    rw [slices_Equal_g271_l0_eq]
    by_cases hxy : x = y
    · subst hxy
      simp [hlt, hx, hy, hw, ih]
    · simp [hlt, hx, hy, hw, ih, hxy]
theorem slices_Equal_g271_is (h : G_slices_Equal_g271 E) (a b : List Lock) (ha : a.length ≤ 9223372036854775807) (hb : b.length ≤ 9223372036854775807) : E 271 [.sl 2 (a.map Lock.u), .sl 2 (b.map Lock.u)] = some (.bool (decide (a = b))) := by
  rw [slices_Equal_g271_E h]
  by_cases hl : a.length = b.length
  · have h1 := slices_Equal_g271_l0_is (E := E) a b ha hb a b [] [] 0 rfl rfl rfl rfl hl
    rw [hl] at h1
    simp [hl, h1]
  · have h1 : a ≠ b := fun e => hl (by rw [e])
    have h2 : (a.length : Int) ≠ b.length := by omega
    simp [h1, h2]
end Go.Proofs.Ytfdcdbkblkehcaa.Am
/-
  What a function of package slices computes.
-/
namespace Go.Proofs.Ytfdcdbkblkehcaa.Am
open Go
variable {E : Env}
set_option linter.unusedVariables false

theorem slices_Equal_g272_l0_is (a b : List Wait) (ha : a.length ≤ 9223372036854775807) (hb : b.length ≤ 9223372036854775807) : ∀ (r s p p2 : List Wait) (i : Int), a = p ++ r → b = p2 ++ s → i = p.length → i = p2.length → r.length = s.length →
    slices_Equal_g272_l0 E (.sl 2 (a.map Wait.u)) (.sl 2 (b.map Wait.u)) (.int .i64 a.length) (.int .i64 i) = some (.bool (decide (r = s)))
  | [], [], p, p2, i, e, e2, hi, hi2, _ => by
    rw [slices_Equal_g272_l0_eq]
    simp [mid_end e hi]
  | [], y :: s, _, _, _, _, _, _, _, hl => by cases hl
  | x :: r, [], _, _, _, _, _, _, _, hl => by cases hl
  | x :: r, y :: s, p, p2, i, e, e2, hi, hi2, hl => by
    obtain ⟨h0, hlt, hx, hw, hn, _⟩ := mid_at e hi ha
    obtain ⟨_, _, hy, _, hn2, _⟩ := mid_at e2 hi2 hb
    have ih := slices_Equal_g272_l0_is a b ha hb r s (p ++ [x]) (p2 ++ [y]) (i + 1) (mid_next e) (mid_next e2) hn hn2 (by simpa using hl)
    rw [slices_Equal_g272_l0_eq]
    by_cases hxy : x = y
    · subst hxy
      simp [hlt, hx, hy, hw, ih]
    · simp [hlt, hx, hy, hw, ih, hxy]
theorem slices_Equal_g272_is (h : G_slices_Equal_g272 E) (a b : List Wait) (ha : a.length ≤ 9223372036854775807) (hb : b.length ≤ 9223372036854775807) : E 272 [.sl 2 (a.map Wait.u), .sl 2 (b.map Wait.u)] = some (.bool (decide (a = b))) := by
  rw [slices_Equal_g272_E h]
  by_cases hl : a.length = b.length
  · have h1 := slices_Equal_g272_l0_is (E := E) a b ha hb a b [] [] 0 rfl rfl rfl rfl hl
    rw [hl] at h1
    simp [hl, h1]
  · have h1 : a ≠ b := fun e => hl (by rw [e])
    have h2 : (a.length : Int) ≠ b.length := by omega
    simp [h1, h2]
end Go.Proofs.Ytfdcdbkblkehcaa.Am
/-
  What a function of package slices computes.
-/
namespace Go.Proofs.Ytfdcdbkblkehcaa.Am
open Go
variable {E : Env}
set_option linter.unusedVariables false

theorem slices_Equal_g275_l0_is (a b : List Version) (ha : a.length ≤ 9223372036854775807) (hb : b.length ≤ 9223372036854775807) : ∀ (r s p p2 : List Version) (i : Int), a = p ++ r → b = p2 ++ s → i = p.length → i = p2.length → r.length = s.length →
    slices_Equal_g275_l0 E (.sl 5 (a.map Version.u)) (.sl 5 (b.map Version.u)) (.int .i64 a.length) (.int .i64 i) = some (.bool (decide (r = s)))
  | [], [], p, p2, i, e, e2, hi, hi2, _ => by
    rw [slices_Equal_g275_l0_eq]
    simp [mid_end e hi]
  | [], y :: s, _, _, _, _, _, _, _, hl => by cases hl
  | x :: r, [], _, _, _, _, _, _, _, hl => by cases hl
  | x :: r, y :: s, p, p2, i, e, e2, hi, hi2, hl => by
    obtain ⟨h0, hlt, hx, hw, hn, _⟩ := mid_at e hi ha
    obtain ⟨_, _, hy, _, hn2, _⟩ := mid_at e2 hi2 hb
    have ih := slices_Equal_g275_l0_is a b ha hb r s (p ++ [x]) (p2 ++ [y]) (i + 1) (mid_next e) (mid_next e2) hn hn2 (by simpa using hl)
    rw [slices_Equal_g275_l0_eq]
    by_cases hxy : x = y
    · subst hxy
      simp [hlt, hx, hy, hw, ih]
    · simp [hlt, hx, hy, hw, ih, hxy]
theorem slices_Equal_g275_is (h : G_slices_Equal_g275 E) (a b : List Version) (ha : a.length ≤ 9223372036854775807) (hb : b.length ≤ 9223372036854775807) : E 275 [.sl 5 (a.map Version.u), .sl 5 (b.map Version.u)] = some (.bool (decide (a = b))) := by
  rw [slices_Equal_g275_E h]
  by_cases hl : a.length = b.length
  · have h1 := slices_Equal_g275_l0_is (E := E) a b ha hb a b [] [] 0 rfl rfl rfl rfl hl
    rw [hl] at h1
    simp [hl, h1]
  · have h1 : a ≠ b := fun e => hl (by rw [e])
    have h2 : (a.length : Int) ≠ b.length := by omega
    simp [h1, h2]
end Go.Proofs.Ytfdcdbkblkehcaa.Am
/-
  What the functions that compare nodes compute.
-/
namespace Go.Proofs.Ytfdcdbkblkehcaa.Am
open Go
variable {E : Env}
set_option linter.unusedVariables false

/-! ### Chains and stores -/
theorem spec_EqualChains_l0_is (a b : List Version) (ha : a.length ≤ 1048576) (hb : b.length ≤ 1048576) : ∀ (r s p p2 : List Version) (i : Int), a = p ++ r → b = p2 ++ s → i = p.length → i = p2.length → r.length = s.length →
    spec_EqualChains_l0 E (.sl 5 (a.map Version.u)) (.sl 5 (b.map Version.u)) (.int .i64 i) = some (.bool (decide (r = s)))
  | [], [], p, p2, i, e, e2, hi, hi2, _ => by
    rw [spec_EqualChains_l0_eq]
    simp [mid_end e hi]
  | [], y :: s, _, _, _, _, _, _, _, hl => by cases hl
  | x :: r, [], _, _, _, _, _, _, _, hl => by cases hl
  | x :: r, y :: s, p, p2, i, e, e2, hi, hi2, hl => by
    obtain ⟨h0, hlt, hx, hw, hn, _⟩ := mid_at e hi (by omega)
    obtain ⟨_, _, hy, _, hn2, _⟩ := mid_at e2 hi2 (by omega)
    have ih := spec_EqualChains_l0_is a b ha hb r s (p ++ [x]) (p2 ++ [y]) (i + 1) (mid_next e) (mid_next e2) hn hn2 (by simpa using hl)
    rw [spec_EqualChains_l0_eq]
    by_cases hxy : x = y
    · subst hxy
      simp [hlt, hx, hy, hw, ih]
    · simp [hlt, hx, hy, hw, ih, hxy]
theorem spec_EqualChains_is (h : G_spec_EqualChains E) (a b : List Version) (ha : chainOk a) (hb : chainOk b) : E 266 [chainU a, chainU b] = some (.bool (decide (a = b))) := by
  rw [spec_EqualChains_E h]
  unfold chainU
  by_cases hl : a.length = b.length
  · have h1 := spec_EqualChains_l0_is (E := E) a b ha hb a b [] [] 0 rfl rfl rfl rfl hl
    simp [hl, h1]
  · have h1 : a ≠ b := fun e => hl (by rw [e])
    have h2 : (a.length : Int) ≠ b.length := by omega
    simp [h1, h2]
theorem impl_EqualChains_is (h : G_impl_EqualChains E) (a b : List Version) (ha : chainOk a) (hb : chainOk b) : E 273 [chainU a, chainU b] = some (.bool (decide (a = b))) := by
  rw [impl_EqualChains_E h]
  unfold chainU
  simp [slices_Equal_g275_is h.c_slices_Equal_g275 a b (by unfold chainOk at ha; omega) (by unfold chainOk at hb; omega)]

theorem spec_EqualStores_l0_is (h : G_spec_EqualStores E) (x y : Store) (ox : x.ok) (oy : y.ok) : ∀ (r s p p2 : List (List Version)) (i : Int), x.chains = p ++ r → y.chains = p2 ++ s → i = p.length → i = p2.length → r.length = s.length →
    spec_EqualStores_l0 E (.int .i64 i) x.u y.u = some (.bool (decide (r = s)))
  | [], [], p, p2, i, e, e2, hi, hi2, _ => by
    rw [spec_EqualStores_l0_eq]
    simp [mid_end e hi]
  | [], y :: s, _, _, _, _, _, _, _, hl => by cases hl
  | x :: r, [], _, _, _, _, _, _, _, hl => by cases hl
  | a :: r, b :: s, p, p2, i, e, e2, hi, hi2, hl => by
    obtain ⟨h0, hlt, hx, hw, hn, _⟩ := mid_at e hi (by have := ox.1; omega)
    obtain ⟨_, _, hy, _, hn2, _⟩ := mid_at e2 hi2 (by have := oy.1; omega)
    have ih := spec_EqualStores_l0_is h x y ox oy r s (p ++ [a]) (p2 ++ [b]) (i + 1) (mid_next e) (mid_next e2) hn hn2 (by simpa using hl)
    have hc := spec_EqualChains_is h.c_spec_EqualChains a b (ox.2 a (by rw [e]; simp)) (oy.2 b (by rw [e2]; simp))
    rw [spec_EqualStores_l0_eq]
    have hx' := fun {γ : Type} (K : U → Option γ) => hx 1 chainU K
    have hy' := fun {γ : Type} (K : U → Option γ) => hy 1 chainU K
    by_cases hxy : a = b
    · subst hxy
      simp [hlt, hx', hy', hw, ih, hc]
    · simp [hlt, hx', hy', hw, ih, hc, hxy]
theorem spec_EqualStores_is (h : G_spec_EqualStores E) (x y : Store) (ox : x.ok) (oy : y.ok) : E 265 [x.u, y.u] = some (.bool (decide (x = y))) := by
  rw [spec_EqualStores_E h]
  simp only [Store.eq_iff]
  by_cases hl : x.chains.length = y.chains.length
  · have h1 := spec_EqualStores_l0_is h x y ox oy x.chains y.chains [] [] 0 rfl rfl rfl rfl hl
    simp [hl, h1]
  · have h1 : x.chains ≠ y.chains := fun e => hl (by rw [e])
    have h2 : (x.chains.length : Int) ≠ y.chains.length := by omega
    simp [h1, h2]
theorem impl_EqualStores_is (h : G_impl_EqualStores E) (x y : Store) (ox : x.ok) (oy : y.ok) : E 268 [x.u, y.u] = some (.bool (decide (x = y))) := by
  rw [impl_EqualStores_E h]
  simp only [Store.eq_iff]
  have := slices_EqualFunc_g274_is h.c_slices_EqualFunc_g274 x.chains y.chains (by have := ox.1; omega) (by have := oy.1; omega) 273 [] (fun a ha b hb => impl_EqualChains_is h.c_impl_EqualChains a b (ox.2 a ha) (oy.2 b hb))
  simp [this]

theorem impl_EqualTransactions_is (h : G_impl_EqualTransactions E) (x y : Transaction) (ha : x.ok) (hb : y.ok) : E 269 [x.u, y.u] = some (.bool (decide (x = y))) := by
  rw [impl_EqualTransactions_E h]
  have e1 := slices_Equal_g31_is h.c_slices_Equal_g31 x.reads y.reads (by have := ha.1; omega) (by have := hb.1; omega)
  have e2 := slices_Equal_g32_is h.c_slices_Equal_g32 x.writes y.writes (by have := ha.2; omega) (by have := hb.2; omega)
  simp only [Transaction.eq_iff]
  by_cases h0 : x.id = y.id
  case neg => simp [h0]
  by_cases h2 : x.scheme = y.scheme
  case neg => simp [h0, h2]
  by_cases h3 : x.state = y.state
  case neg => simp [h0, h2, h3]
  by_cases h4 : x.begin_ = y.begin_
  case neg => simp [h0, h2, h3, h4]
  by_cases h5 : x.low = y.low
  case neg => simp [h0, h2, h3, h4, h5]
  by_cases h6 : x.high = y.high
  case neg => simp [h0, h2, h3, h4, h5, h6]
  by_cases h7 : x.commit = y.commit
  case neg => simp [h0, h2, h3, h4, h5, h6, h7]
  simp [h0, h2, h3, h4, h5, h6, h7, e1, e2, ite_p]

/-! ### Engines -/
theorem spec_EqE_l0_is (x y : Engine) (ox : x.ok) (oy : y.ok) : ∀ (r s p p2 : List Wait) (i : Int), x.waits = p ++ r → y.waits = p2 ++ s → i = p.length → i = p2.length → r.length = s.length →
    spec_EqualEngines_l0 E (.int .i64 i) x.u y.u = some (.bool (decide (r = s)))
  | [], [], p, p2, i, e, e2, hi, hi2, _ => by
    rw [spec_EqualEngines_l0_eq]
    simp [mid_end e hi]
  | [], y :: s, _, _, _, _, _, _, _, hl => by cases hl
  | x :: r, [], _, _, _, _, _, _, _, hl => by cases hl
  | a :: r, b :: s, p, p2, i, e, e2, hi, hi2, hl => by
    obtain ⟨h0, hlt, hx, hw, hn, _⟩ := mid_at e hi (by have := ox.2.2.2.2; omega)
    obtain ⟨_, _, hy, _, hn2, _⟩ := mid_at e2 hi2 (by have := oy.2.2.2.2; omega)
    have ih := spec_EqE_l0_is x y ox oy r s (p ++ [a]) (p2 ++ [b]) (i + 1) (mid_next e) (mid_next e2) hn hn2 (by simpa using hl)
    rw [spec_EqualEngines_l0_eq]
    by_cases hxy : a = b
    · subst hxy
      simp [hlt, hx, hy, hw, ih]
    · simp [hlt, hx, hy, hw, ih, hxy]
theorem spec_EqE_l1_is (x y : Engine) (ox : x.ok) (oy : y.ok) (hw : x.waits.length = y.waits.length) : ∀ (r s p p2 : List Lock) (i : Int), x.locks = p ++ r → y.locks = p2 ++ s → i = p.length → i = p2.length → r.length = s.length →
    spec_EqualEngines_l1 E (.int .i64 i) x.u y.u = some (.bool (decide (r = s) && decide (x.waits = y.waits)))
  | [], [], p, p2, i, e, e2, hi, hi2, _ => by
    rw [spec_EqualEngines_l1_eq]
    simp [mid_end e hi, spec_EqE_l0_is x y ox oy x.waits y.waits [] [] 0 rfl rfl rfl rfl hw]
  | [], y :: s, _, _, _, _, _, _, _, hl => by cases hl
  | x :: r, [], _, _, _, _, _, _, _, hl => by cases hl
  | a :: r, b :: s, p, p2, i, e, e2, hi, hi2, hl => by
    obtain ⟨h0, hlt, hx, hw', hn, _⟩ := mid_at e hi (by have := ox.2.2.2.1; omega)
    obtain ⟨_, _, hy, _, hn2, _⟩ := mid_at e2 hi2 (by have := oy.2.2.2.1; omega)
    have ih := spec_EqE_l1_is x y ox oy hw r s (p ++ [a]) (p2 ++ [b]) (i + 1) (mid_next e) (mid_next e2) hn hn2 (by simpa using hl)
    rw [spec_EqualEngines_l1_eq]
    by_cases hxy : a = b
    · subst hxy
      simp [hlt, hx, hy, hw', ih]
    · simp [hlt, hx, hy, hw', ih, hxy]
theorem spec_EqE_l2_is (h : G_spec_EqualEngines E) (x y : Engine) (ox : x.ok) (oy : y.ok) (hw : x.waits.length = y.waits.length) (hk : x.locks.length = y.locks.length) : ∀ (r s p p2 : List Transaction) (i : Int), x.transactions = p ++ r → y.transactions = p2 ++ s → i = p.length → i = p2.length → r.length = s.length →
    spec_EqualEngines_l2 E (.int .i64 i) x.u y.u = some (.bool (decide (r = s) && (decide (x.locks = y.locks) && decide (x.waits = y.waits))))
  | [], [], p, p2, i, e, e2, hi, hi2, _ => by
    rw [spec_EqualEngines_l2_eq]
    simp [mid_end e hi, spec_EqE_l1_is x y ox oy hw x.locks y.locks [] [] 0 rfl rfl rfl rfl hk]
  | [], y :: s, _, _, _, _, _, _, _, hl => by cases hl
  | x :: r, [], _, _, _, _, _, _, _, hl => by cases hl
  | a :: r, b :: s, p, p2, i, e, e2, hi, hi2, hl => by
    obtain ⟨h0, hlt, hx, hw', hn, _⟩ := mid_at e hi (by have := ox.2.1; omega)
    obtain ⟨_, _, hy, _, hn2, _⟩ := mid_at e2 hi2 (by have := oy.2.1; omega)
    have ih := spec_EqE_l2_is h x y ox oy hw hk r s (p ++ [a]) (p2 ++ [b]) (i + 1) (mid_next e) (mid_next e2) hn hn2 (by simpa using hl)
    have ht := spec_EqualTransactions_is h.c_spec_EqualTransactions a b (ox.2.2.1 a (by rw [e]; simp)) (oy.2.2.1 b (by rw [e2]; simp))
    rw [spec_EqualEngines_l2_eq]
    by_cases hxy : a = b
    · subst hxy
      simp [hlt, hx, hy, hw', ih, ht]
    · simp [hlt, hx, hy, hw', ih, ht, hxy]
theorem spec_EqualEngines_is (h : G_spec_EqualEngines E) (x y : Engine) (ox : x.ok) (oy : y.ok) : E 264 [x.u, y.u] = some (.bool (decide (x = y))) := by
  rw [spec_EqualEngines_E h]
  have a1 := spec_EqualStores_is h.c_spec_EqualStores x.store y.store ox.1 oy.1
  simp only [Engine.eq_iff]
  by_cases h0 : x.certify = y.certify
  case neg => simp [h0]
  by_cases h1 : x.store = y.store
  case neg => simp [h0, a1, h1]
  rw [h1] at a1
  by_cases l2 : x.transactions.length = y.transactions.length
  case neg =>
    have n1 : x.transactions ≠ y.transactions := fun e => l2 (by rw [e])
    have n2 : (x.transactions.length : Int) ≠ y.transactions.length := by omega
    simp [h0, a1, h1, n1, n2]
  by_cases l3 : x.locks.length = y.locks.length
  case neg =>
    have n1 : x.locks ≠ y.locks := fun e => l3 (by rw [e])
    have n2 : (x.locks.length : Int) ≠ y.locks.length := by omega
    simp [h0, a1, h1, l2, n1, n2]
  by_cases l4 : x.waits.length = y.waits.length
  case neg =>
    have n1 : x.waits ≠ y.waits := fun e => l4 (by rw [e])
    have n2 : (x.waits.length : Int) ≠ y.waits.length := by omega
    simp [h0, a1, h1, l2, l3, n1, n2]
  by_cases h5 : x.stamp = y.stamp
  case neg => simp [h0, a1, h1, l2, l3, l4, h5]
  have hl := spec_EqE_l2_is h x y ox oy l4 l3 x.transactions y.transactions [] [] 0 rfl rfl rfl rfl l2
  simp [h0, a1, h1, l2, l3, l4, h5, hl]
theorem impl_EqualEngines_is (h : G_impl_EqualEngines E) (x y : Engine) (ox : x.ok) (oy : y.ok) : E 267 [x.u, y.u] = some (.bool (decide (x = y))) := by
  rw [impl_EqualEngines_E h]
  have a1 := impl_EqualStores_is h.c_impl_EqualStores x.store y.store ox.1 oy.1
  have a2 := slices_EqualFunc_g270_is h.c_slices_EqualFunc_g270 x.transactions y.transactions (by have := ox.2.1; omega) (by have := oy.2.1; omega) 269 [] (fun a ha b hb => impl_EqualTransactions_is h.c_impl_EqualTransactions a b (ox.2.2.1 a ha) (oy.2.2.1 b hb))
  have a3 := slices_Equal_g271_is h.c_slices_Equal_g271 x.locks y.locks (by have := ox.2.2.2.1; omega) (by have := oy.2.2.2.1; omega)
  have a4 := slices_Equal_g272_is h.c_slices_Equal_g272 x.waits y.waits (by have := ox.2.2.2.2; omega) (by have := oy.2.2.2.2; omega)
  simp only [Engine.eq_iff]
  by_cases h0 : x.certify = y.certify
  case neg => simp [h0]
  by_cases h5 : x.stamp = y.stamp
  case neg => simp [h0, h5]
  by_cases h1 : x.store = y.store
  case neg => simp [h0, h5, a1, h1]
  rw [h1] at a1
  by_cases h2 : x.transactions = y.transactions
  case neg => simp [h0, h5, a1, h1, a2, h2]
  rw [h2] at a2
  by_cases h3 : x.locks = y.locks
  case neg => simp [h0, h5, a1, h1, a2, h2, a3, h3]
  rw [h3] at a3
  simp [h0, h5, a1, h1, a2, h2, a3, h3, a4]

theorem spec_EqualNodes_is (h : G_spec_EqualNodes E) (x y : Node) (ox : x.ok) (oy : y.ok) : E 262 [x.u, y.u] = some (.bool (x.same y)) := by
  rw [spec_EqualNodes_E h]
  have a1 := spec_EqualEngines_is h.c_spec_EqualEngines x.engine y.engine ox oy
  cases h1 : x.log.toList == y.log.toList <;> simp [h1, a1, Node.same, -beq_iff_eq, -beq_eq_false_iff_ne]
theorem impl_EqualNodes_is (h : G_impl_EqualNodes E) (x y : Node) (ox : x.ok) (oy : y.ok) : E 261 [x.u, y.u] = some (.bool (x.same y)) := by
  rw [impl_EqualNodes_E h]
  have a1 := impl_EqualEngines_is h.c_impl_EqualEngines x.engine y.engine ox oy
  by_cases h0 : x.engine = y.engine
  · rw [h0] at a1
    simp [h0, a1, Node.same]
  · simp [h0, a1, Node.same]
end Go.Proofs.Ytfdcdbkblkehcaa.Am
/-
  The law FnExactEqualNodes returns true.
-/
namespace Go.Proofs.Ytfdcdbkblkehcaa.Am
open Go
variable {E : Env}

theorem law_EqualNodes (h : G_laws_FnExactEqualNodes E) (us : List U) (hus : Fits.fits [shNode, shNode] us) : E 258 us = some (.bool true) := by
  obtain ⟨u0, us1, rfl, h0, hus1⟩ := fits_cons hus
  obtain ⟨u1, us2, rfl, h1, hus2⟩ := fits_cons hus1
  obtain rfl := fits_nil hus2
  obtain ⟨x, rfl, hx⟩ := fits_Node _ h0
  obtain ⟨y, rfl, hy⟩ := fits_Node _ h1
  rw [laws_FnExactEqualNodes_E h]
  have s1 := laws_szNode_is h.c_laws_szNode x hx 1048576 (by omega) (by omega)
  rcases Node.sz_szs x 1048576 (by omega) (by omega) with n1 | ⟨ox, n1, n2⟩
  · simp [s1, n1]
  have n3 : ¬ x.sz 1048576 < 0 := by omega
  have s2 := laws_szNode_is h.c_laws_szNode y hy _ n1 n2
  rcases Node.sz_szs y _ n1 n2 with m1 | ⟨oy, m1, m2⟩
  · simp [s1, n3, s2, m1]
  have m3 : ¬ y.sz (x.sz 1048576) < 0 := by omega
  simp [s1, n3, s2, m3, laws_toNode_is h.c_laws_toNode _ ox, laws_toNode_is h.c_laws_toNode _ oy, spec_EqualNodes_is h.c_spec_EqualNodes x y ox oy, impl_EqualNodes_is h.c_impl_EqualNodes x y ox oy, laws_eqNode_is h.c_laws_eqNode x x ox ox, laws_eqNode_is h.c_laws_eqNode y y oy oy, Node.same_self]
end Go.Proofs.Ytfdcdbkblkehcaa.Am
