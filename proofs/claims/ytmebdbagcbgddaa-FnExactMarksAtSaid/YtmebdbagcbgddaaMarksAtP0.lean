import Derived.Test.YtmebdbagcbgddaaAmX
import Derived.Test.YtmebdbagcbgddaaMarksAtF1
import Derived.Test.YtmebdbagcbgddaaMarksAtF0
import Derived.Test.YtmebdbagcbgddaaAmY
/-
  The program's data, as plain Lean data, and how the machine reads them.
-/
namespace Go.Proofs.Ytmebdbagcbgddaa.Am
open Go
variable {α : Type}

def intU (n : Int) : U := .int .i64 n
@[simp] theorem intU_size (n : Int) : (intU n).size = 1 := rfl
@[simp] theorem asVar_intU (n : Int) (K : U → Option α) : U.asVar false 1 (intU n) K = K (.int .i64 n) := rfl
@[simp] theorem storable_intU (n : Int) : storable (.val (intU n)) = true := rfl
@[simp] theorem partable_intU (n : Int) : partable (.val (intU n)) = true := rfl
abbrev intsU (l : List Int) : U := .sl 1 (l.map intU)

structure Edge where
  frm : Int
  to : Int
  kind : Int
  key : Int
  deriving DecidableEq
theorem Edge.eq_iff (x y : Edge) : x = y ↔ x.frm = y.frm ∧ x.to = y.to ∧ x.kind = y.kind ∧ x.key = y.key := by cases x; cases y; simp only [Edge.mk.injEq]
def Edge.u (e : Edge) : U := .agg [.int .i64 e.frm, .int .i64 e.to, .int .i64 e.kind, .int .i64 e.key]
@[simp] theorem Edge.u_size (e : Edge) : e.u.size = 4 := rfl
@[simp] theorem Edge.u_var (e : Edge) (K : U → Option α) : U.asVar true 4 e.u K = K e.u := rfl
@[simp] theorem Edge.u_storable (e : Edge) : storable (.val e.u) = true := rfl
@[simp] theorem Edge.u_partable (e : Edge) : partable (.val e.u) = true := rfl
@[simp] theorem Edge.u_noTup (e : Edge) (K : U → Option α) : U.noTup e.u K = K e.u := rfl
@[simp] theorem Edge.u_agg (e : Edge) (K : List U → Option α) : U.asAgg e.u K = K [.int .i64 e.frm, .int .i64 e.to, .int .i64 e.kind, .int .i64 e.key] := rfl
@[simp] theorem Edge.u_at0 (e : Edge) (K : U → Option α) : U.fieldAt 0 0 e.u K = K (.int .i64 e.frm) := rfl
@[simp] theorem Edge.u_at1 (e : Edge) (K : U → Option α) : U.fieldAt 1 1 e.u K = K (.int .i64 e.to) := rfl
@[simp] theorem Edge.u_at2 (e : Edge) (K : U → Option α) : U.fieldAt 2 2 e.u K = K (.int .i64 e.kind) := rfl
@[simp] theorem Edge.u_at3 (e : Edge) (K : U → Option α) : U.fieldAt 3 3 e.u K = K (.int .i64 e.key) := rfl
@[simp] theorem Edge.u_flat (e : Edge) : e.u.flat = true := rfl
@[simp] theorem Edge.u_asFlat (e : Edge) (K : U → Option α) : U.asFlat e.u K = K e.u := rfl
@[simp] theorem Edge.u_eqv (x y : Edge) : U.eqv 6 x.u y.u = some (decide (x = y)) := by
  obtain ⟨a0, a1, a2, a3⟩ := x
  obtain ⟨b0, b1, b2, b3⟩ := y
  simp only [Edge.mk.injEq]
  show (if 4 = 4 then eqInts _ _ else none) = _
  simp only [if_true, eqInts_cons, eqInts_nil, Option.map_some, Bool.decide_and, Bool.and_true]
  rfl

structure ReadMark where
  key : Int
  created : Int
  deriving DecidableEq
theorem ReadMark.eq_iff (x y : ReadMark) : x = y ↔ x.key = y.key ∧ x.created = y.created := by cases x; cases y; simp only [ReadMark.mk.injEq]
def ReadMark.u (e : ReadMark) : U := .agg [.int .i64 e.key, .int .i64 e.created]
@[simp] theorem ReadMark.u_size (e : ReadMark) : e.u.size = 2 := rfl
@[simp] theorem ReadMark.u_var (e : ReadMark) (K : U → Option α) : U.asVar true 2 e.u K = K e.u := rfl
@[simp] theorem ReadMark.u_storable (e : ReadMark) : storable (.val e.u) = true := rfl
@[simp] theorem ReadMark.u_partable (e : ReadMark) : partable (.val e.u) = true := rfl
@[simp] theorem ReadMark.u_noTup (e : ReadMark) (K : U → Option α) : U.noTup e.u K = K e.u := rfl
@[simp] theorem ReadMark.u_agg (e : ReadMark) (K : List U → Option α) : U.asAgg e.u K = K [.int .i64 e.key, .int .i64 e.created] := rfl
@[simp] theorem ReadMark.u_at0 (e : ReadMark) (K : U → Option α) : U.fieldAt 0 0 e.u K = K (.int .i64 e.key) := rfl
@[simp] theorem ReadMark.u_at1 (e : ReadMark) (K : U → Option α) : U.fieldAt 1 1 e.u K = K (.int .i64 e.created) := rfl
@[simp] theorem ReadMark.u_flat (e : ReadMark) : e.u.flat = true := rfl
@[simp] theorem ReadMark.u_asFlat (e : ReadMark) (K : U → Option α) : U.asFlat e.u K = K e.u := rfl
@[simp] theorem ReadMark.u_eqv (x y : ReadMark) : U.eqv 4 x.u y.u = some (decide (x = y)) := by
  obtain ⟨a0, a1⟩ := x
  obtain ⟨b0, b1⟩ := y
  simp only [ReadMark.mk.injEq]
  show (if 2 = 2 then eqInts _ _ else none) = _
  simp only [if_true, eqInts_cons, eqInts_nil, Option.map_some, Bool.decide_and, Bool.and_true]
  rfl

structure Write where
  key : Int
  value : Int
  deriving DecidableEq
theorem Write.eq_iff (x y : Write) : x = y ↔ x.key = y.key ∧ x.value = y.value := by cases x; cases y; simp only [Write.mk.injEq]
def Write.u (e : Write) : U := .agg [.int .i64 e.key, .int .i64 e.value]
@[simp] theorem Write.u_size (e : Write) : e.u.size = 2 := rfl
@[simp] theorem Write.u_var (e : Write) (K : U → Option α) : U.asVar true 2 e.u K = K e.u := rfl
@[simp] theorem Write.u_storable (e : Write) : storable (.val e.u) = true := rfl
@[simp] theorem Write.u_partable (e : Write) : partable (.val e.u) = true := rfl
@[simp] theorem Write.u_noTup (e : Write) (K : U → Option α) : U.noTup e.u K = K e.u := rfl
@[simp] theorem Write.u_agg (e : Write) (K : List U → Option α) : U.asAgg e.u K = K [.int .i64 e.key, .int .i64 e.value] := rfl
@[simp] theorem Write.u_at0 (e : Write) (K : U → Option α) : U.fieldAt 0 0 e.u K = K (.int .i64 e.key) := rfl
@[simp] theorem Write.u_at1 (e : Write) (K : U → Option α) : U.fieldAt 1 1 e.u K = K (.int .i64 e.value) := rfl
@[simp] theorem Write.u_flat (e : Write) : e.u.flat = true := rfl
@[simp] theorem Write.u_asFlat (e : Write) (K : U → Option α) : U.asFlat e.u K = K e.u := rfl
@[simp] theorem Write.u_eqv (x y : Write) : U.eqv 4 x.u y.u = some (decide (x = y)) := by
  obtain ⟨a0, a1⟩ := x
  obtain ⟨b0, b1⟩ := y
  simp only [Write.mk.injEq]
  show (if 2 = 2 then eqInts _ _ else none) = _
  simp only [if_true, eqInts_cons, eqInts_nil, Option.map_some, Bool.decide_and, Bool.and_true]
  rfl

structure Lock where
  key : Int
  owner : Int
  deriving DecidableEq
theorem Lock.eq_iff (x y : Lock) : x = y ↔ x.key = y.key ∧ x.owner = y.owner := by cases x; cases y; simp only [Lock.mk.injEq]
def Lock.u (e : Lock) : U := .agg [.int .i64 e.key, .int .i64 e.owner]
@[simp] theorem Lock.u_size (e : Lock) : e.u.size = 2 := rfl
@[simp] theorem Lock.u_var (e : Lock) (K : U → Option α) : U.asVar true 2 e.u K = K e.u := rfl
@[simp] theorem Lock.u_storable (e : Lock) : storable (.val e.u) = true := rfl
@[simp] theorem Lock.u_partable (e : Lock) : partable (.val e.u) = true := rfl
@[simp] theorem Lock.u_noTup (e : Lock) (K : U → Option α) : U.noTup e.u K = K e.u := rfl
@[simp] theorem Lock.u_agg (e : Lock) (K : List U → Option α) : U.asAgg e.u K = K [.int .i64 e.key, .int .i64 e.owner] := rfl
@[simp] theorem Lock.u_at0 (e : Lock) (K : U → Option α) : U.fieldAt 0 0 e.u K = K (.int .i64 e.key) := rfl
@[simp] theorem Lock.u_at1 (e : Lock) (K : U → Option α) : U.fieldAt 1 1 e.u K = K (.int .i64 e.owner) := rfl
@[simp] theorem Lock.u_flat (e : Lock) : e.u.flat = true := rfl
@[simp] theorem Lock.u_asFlat (e : Lock) (K : U → Option α) : U.asFlat e.u K = K e.u := rfl
@[simp] theorem Lock.u_eqv (x y : Lock) : U.eqv 4 x.u y.u = some (decide (x = y)) := by
  obtain ⟨a0, a1⟩ := x
  obtain ⟨b0, b1⟩ := y
  simp only [Lock.mk.injEq]
  show (if 2 = 2 then eqInts _ _ else none) = _
  simp only [if_true, eqInts_cons, eqInts_nil, Option.map_some, Bool.decide_and, Bool.and_true]
  rfl

structure Wait where
  id : Int
  for_ : Int
  deriving DecidableEq
theorem Wait.eq_iff (x y : Wait) : x = y ↔ x.id = y.id ∧ x.for_ = y.for_ := by cases x; cases y; simp only [Wait.mk.injEq]
def Wait.u (e : Wait) : U := .agg [.int .i64 e.id, .int .i64 e.for_]
@[simp] theorem Wait.u_size (e : Wait) : e.u.size = 2 := rfl
@[simp] theorem Wait.u_var (e : Wait) (K : U → Option α) : U.asVar true 2 e.u K = K e.u := rfl
@[simp] theorem Wait.u_storable (e : Wait) : storable (.val e.u) = true := rfl
@[simp] theorem Wait.u_partable (e : Wait) : partable (.val e.u) = true := rfl
@[simp] theorem Wait.u_noTup (e : Wait) (K : U → Option α) : U.noTup e.u K = K e.u := rfl
@[simp] theorem Wait.u_agg (e : Wait) (K : List U → Option α) : U.asAgg e.u K = K [.int .i64 e.id, .int .i64 e.for_] := rfl
@[simp] theorem Wait.u_at0 (e : Wait) (K : U → Option α) : U.fieldAt 0 0 e.u K = K (.int .i64 e.id) := rfl
@[simp] theorem Wait.u_at1 (e : Wait) (K : U → Option α) : U.fieldAt 1 1 e.u K = K (.int .i64 e.for_) := rfl
@[simp] theorem Wait.u_flat (e : Wait) : e.u.flat = true := rfl
@[simp] theorem Wait.u_asFlat (e : Wait) (K : U → Option α) : U.asFlat e.u K = K e.u := rfl
@[simp] theorem Wait.u_eqv (x y : Wait) : U.eqv 4 x.u y.u = some (decide (x = y)) := by
  obtain ⟨a0, a1⟩ := x
  obtain ⟨b0, b1⟩ := y
  simp only [Wait.mk.injEq]
  show (if 2 = 2 then eqInts _ _ else none) = _
  simp only [if_true, eqInts_cons, eqInts_nil, Option.map_some, Bool.decide_and, Bool.and_true]
  rfl

structure Version where
  writer : Int
  value : Int
  created : Int
  reader : Int
  successor : Int
  deriving DecidableEq
theorem Version.eq_iff (x y : Version) : x = y ↔ x.writer = y.writer ∧ x.value = y.value ∧ x.created = y.created ∧ x.reader = y.reader ∧ x.successor = y.successor := by cases x; cases y; simp only [Version.mk.injEq]
def Version.u (e : Version) : U := .agg [.int .i64 e.writer, .int .i64 e.value, .int .i64 e.created, .int .i64 e.reader, .int .i64 e.successor]
@[simp] theorem Version.u_size (e : Version) : e.u.size = 5 := rfl
@[simp] theorem Version.u_var (e : Version) (K : U → Option α) : U.asVar true 5 e.u K = K e.u := rfl
@[simp] theorem Version.u_storable (e : Version) : storable (.val e.u) = true := rfl
@[simp] theorem Version.u_partable (e : Version) : partable (.val e.u) = true := rfl
@[simp] theorem Version.u_noTup (e : Version) (K : U → Option α) : U.noTup e.u K = K e.u := rfl
@[simp] theorem Version.u_agg (e : Version) (K : List U → Option α) : U.asAgg e.u K = K [.int .i64 e.writer, .int .i64 e.value, .int .i64 e.created, .int .i64 e.reader, .int .i64 e.successor] := rfl
@[simp] theorem Version.u_at0 (e : Version) (K : U → Option α) : U.fieldAt 0 0 e.u K = K (.int .i64 e.writer) := rfl
@[simp] theorem Version.u_at1 (e : Version) (K : U → Option α) : U.fieldAt 1 1 e.u K = K (.int .i64 e.value) := rfl
@[simp] theorem Version.u_at2 (e : Version) (K : U → Option α) : U.fieldAt 2 2 e.u K = K (.int .i64 e.created) := rfl
@[simp] theorem Version.u_at3 (e : Version) (K : U → Option α) : U.fieldAt 3 3 e.u K = K (.int .i64 e.reader) := rfl
@[simp] theorem Version.u_at4 (e : Version) (K : U → Option α) : U.fieldAt 4 4 e.u K = K (.int .i64 e.successor) := rfl
@[simp] theorem Version.u_flat (e : Version) : e.u.flat = true := rfl
@[simp] theorem Version.u_asFlat (e : Version) (K : U → Option α) : U.asFlat e.u K = K e.u := rfl
@[simp] theorem Version.u_eqv (x y : Version) : U.eqv 7 x.u y.u = some (decide (x = y)) := by
  obtain ⟨a0, a1, a2, a3, a4⟩ := x
  obtain ⟨b0, b1, b2, b3, b4⟩ := y
  simp only [Version.mk.injEq]
  show (if 5 = 5 then eqInts _ _ else none) = _
  simp only [if_true, eqInts_cons, eqInts_nil, Option.map_some, Bool.decide_and, Bool.and_true]
  rfl

structure Entry where
  id : Int
  stamp : Int
  reads : List ReadMark
  writes : List Write
  deriving DecidableEq
theorem Entry.eq_iff (x y : Entry) : x = y ↔ x.id = y.id ∧ x.stamp = y.stamp ∧ x.reads = y.reads ∧ x.writes = y.writes := by cases x; cases y; simp only [Entry.mk.injEq]
def Entry.u (e : Entry) : U := .agg [.int .i64 e.id, .int .i64 e.stamp, .sl 2 (e.reads.map ReadMark.u), .sl 2 (e.writes.map Write.u)]
@[simp] theorem Entry.u_size (e : Entry) : e.u.size = 4 := rfl
@[simp] theorem Entry.u_var (e : Entry) (K : U → Option α) : U.asVar true 4 e.u K = K e.u := rfl
@[simp] theorem Entry.u_storable (e : Entry) : storable (.val e.u) = true := rfl
@[simp] theorem Entry.u_partable (e : Entry) : partable (.val e.u) = true := rfl
@[simp] theorem Entry.u_noTup (e : Entry) (K : U → Option α) : U.noTup e.u K = K e.u := rfl
@[simp] theorem Entry.u_agg (e : Entry) (K : List U → Option α) : U.asAgg e.u K = K [.int .i64 e.id, .int .i64 e.stamp, .sl 2 (e.reads.map ReadMark.u), .sl 2 (e.writes.map Write.u)] := rfl
@[simp] theorem Entry.u_at0 (e : Entry) (K : U → Option α) : U.fieldAt 0 0 e.u K = K (.int .i64 e.id) := rfl
@[simp] theorem Entry.u_at1 (e : Entry) (K : U → Option α) : U.fieldAt 1 1 e.u K = K (.int .i64 e.stamp) := rfl
@[simp] theorem Entry.u_at2 (e : Entry) (K : U → Option α) : U.fieldAt 2 2 e.u K = K (.sl 2 (e.reads.map ReadMark.u)) := rfl
@[simp] theorem Entry.u_at3 (e : Entry) (K : U → Option α) : U.fieldAt 3 3 e.u K = K (.sl 2 (e.writes.map Write.u)) := rfl

structure LogRecord where
  stamp : Int
  id : Int
  high : Int
  safe : Int
  reads : List ReadMark
  writes : List Write
  deriving DecidableEq
theorem LogRecord.eq_iff (x y : LogRecord) : x = y ↔ x.stamp = y.stamp ∧ x.id = y.id ∧ x.high = y.high ∧ x.safe = y.safe ∧ x.reads = y.reads ∧ x.writes = y.writes := by cases x; cases y; simp only [LogRecord.mk.injEq]
def LogRecord.u (e : LogRecord) : U := .agg [.int .i64 e.stamp, .int .i64 e.id, .int .i64 e.high, .int .i64 e.safe, .sl 2 (e.reads.map ReadMark.u), .sl 2 (e.writes.map Write.u)]
@[simp] theorem LogRecord.u_size (e : LogRecord) : e.u.size = 6 := rfl
@[simp] theorem LogRecord.u_var (e : LogRecord) (K : U → Option α) : U.asVar true 6 e.u K = K e.u := rfl
@[simp] theorem LogRecord.u_storable (e : LogRecord) : storable (.val e.u) = true := rfl
@[simp] theorem LogRecord.u_partable (e : LogRecord) : partable (.val e.u) = true := rfl
@[simp] theorem LogRecord.u_noTup (e : LogRecord) (K : U → Option α) : U.noTup e.u K = K e.u := rfl
@[simp] theorem LogRecord.u_agg (e : LogRecord) (K : List U → Option α) : U.asAgg e.u K = K [.int .i64 e.stamp, .int .i64 e.id, .int .i64 e.high, .int .i64 e.safe, .sl 2 (e.reads.map ReadMark.u), .sl 2 (e.writes.map Write.u)] := rfl
@[simp] theorem LogRecord.u_at0 (e : LogRecord) (K : U → Option α) : U.fieldAt 0 0 e.u K = K (.int .i64 e.stamp) := rfl
@[simp] theorem LogRecord.u_at1 (e : LogRecord) (K : U → Option α) : U.fieldAt 1 1 e.u K = K (.int .i64 e.id) := rfl
@[simp] theorem LogRecord.u_at2 (e : LogRecord) (K : U → Option α) : U.fieldAt 2 2 e.u K = K (.int .i64 e.high) := rfl
@[simp] theorem LogRecord.u_at3 (e : LogRecord) (K : U → Option α) : U.fieldAt 3 3 e.u K = K (.int .i64 e.safe) := rfl
@[simp] theorem LogRecord.u_at4 (e : LogRecord) (K : U → Option α) : U.fieldAt 4 4 e.u K = K (.sl 2 (e.reads.map ReadMark.u)) := rfl
@[simp] theorem LogRecord.u_at5 (e : LogRecord) (K : U → Option α) : U.fieldAt 5 5 e.u K = K (.sl 2 (e.writes.map Write.u)) := rfl

structure Transaction where
  id : Int
  scheme : Int
  state : Int
  begin_ : Int
  low : Int
  high : Int
  commit : Int
  reads : List ReadMark
  writes : List Write
  deriving DecidableEq
theorem Transaction.eq_iff (x y : Transaction) : x = y ↔ x.id = y.id ∧ x.scheme = y.scheme ∧ x.state = y.state ∧ x.begin_ = y.begin_ ∧ x.low = y.low ∧ x.high = y.high ∧ x.commit = y.commit ∧ x.reads = y.reads ∧ x.writes = y.writes := by cases x; cases y; simp only [Transaction.mk.injEq]
def Transaction.u (e : Transaction) : U := .agg [.int .i64 e.id, .int .i64 e.scheme, .int .i64 e.state, .int .i64 e.begin_, .int .i64 e.low, .int .i64 e.high, .int .i64 e.commit, .sl 2 (e.reads.map ReadMark.u), .sl 2 (e.writes.map Write.u)]
@[simp] theorem Transaction.u_size (e : Transaction) : e.u.size = 9 := rfl
@[simp] theorem Transaction.u_var (e : Transaction) (K : U → Option α) : U.asVar true 9 e.u K = K e.u := rfl
@[simp] theorem Transaction.u_storable (e : Transaction) : storable (.val e.u) = true := rfl
@[simp] theorem Transaction.u_partable (e : Transaction) : partable (.val e.u) = true := rfl
@[simp] theorem Transaction.u_noTup (e : Transaction) (K : U → Option α) : U.noTup e.u K = K e.u := rfl
@[simp] theorem Transaction.u_agg (e : Transaction) (K : List U → Option α) : U.asAgg e.u K = K [.int .i64 e.id, .int .i64 e.scheme, .int .i64 e.state, .int .i64 e.begin_, .int .i64 e.low, .int .i64 e.high, .int .i64 e.commit, .sl 2 (e.reads.map ReadMark.u), .sl 2 (e.writes.map Write.u)] := rfl
@[simp] theorem Transaction.u_at0 (e : Transaction) (K : U → Option α) : U.fieldAt 0 0 e.u K = K (.int .i64 e.id) := rfl
@[simp] theorem Transaction.u_at1 (e : Transaction) (K : U → Option α) : U.fieldAt 1 1 e.u K = K (.int .i64 e.scheme) := rfl
@[simp] theorem Transaction.u_at2 (e : Transaction) (K : U → Option α) : U.fieldAt 2 2 e.u K = K (.int .i64 e.state) := rfl
@[simp] theorem Transaction.u_at3 (e : Transaction) (K : U → Option α) : U.fieldAt 3 3 e.u K = K (.int .i64 e.begin_) := rfl
@[simp] theorem Transaction.u_at4 (e : Transaction) (K : U → Option α) : U.fieldAt 4 4 e.u K = K (.int .i64 e.low) := rfl
@[simp] theorem Transaction.u_at5 (e : Transaction) (K : U → Option α) : U.fieldAt 5 5 e.u K = K (.int .i64 e.high) := rfl
@[simp] theorem Transaction.u_at6 (e : Transaction) (K : U → Option α) : U.fieldAt 6 6 e.u K = K (.int .i64 e.commit) := rfl
@[simp] theorem Transaction.u_at7 (e : Transaction) (K : U → Option α) : U.fieldAt 7 7 e.u K = K (.sl 2 (e.reads.map ReadMark.u)) := rfl
@[simp] theorem Transaction.u_at8 (e : Transaction) (K : U → Option α) : U.fieldAt 8 8 e.u K = K (.sl 2 (e.writes.map Write.u)) := rfl

structure Op where
  kind : Int
  id : Int
  scheme : Int
  key : Int
  high : Int
  value : Int
  deriving DecidableEq
theorem Op.eq_iff (x y : Op) : x = y ↔ x.kind = y.kind ∧ x.id = y.id ∧ x.scheme = y.scheme ∧ x.key = y.key ∧ x.high = y.high ∧ x.value = y.value := by cases x; cases y; simp only [Op.mk.injEq]
def Op.u (e : Op) : U := .agg [.int .i64 e.kind, .int .i64 e.id, .int .i64 e.scheme, .int .i64 e.key, .int .i64 e.high, .int .i64 e.value]
@[simp] theorem Op.u_size (e : Op) : e.u.size = 6 := rfl
@[simp] theorem Op.u_var (e : Op) (K : U → Option α) : U.asVar true 6 e.u K = K e.u := rfl
@[simp] theorem Op.u_storable (e : Op) : storable (.val e.u) = true := rfl
@[simp] theorem Op.u_partable (e : Op) : partable (.val e.u) = true := rfl
@[simp] theorem Op.u_noTup (e : Op) (K : U → Option α) : U.noTup e.u K = K e.u := rfl
@[simp] theorem Op.u_agg (e : Op) (K : List U → Option α) : U.asAgg e.u K = K [.int .i64 e.kind, .int .i64 e.id, .int .i64 e.scheme, .int .i64 e.key, .int .i64 e.high, .int .i64 e.value] := rfl
@[simp] theorem Op.u_at0 (e : Op) (K : U → Option α) : U.fieldAt 0 0 e.u K = K (.int .i64 e.kind) := rfl
@[simp] theorem Op.u_at1 (e : Op) (K : U → Option α) : U.fieldAt 1 1 e.u K = K (.int .i64 e.id) := rfl
@[simp] theorem Op.u_at2 (e : Op) (K : U → Option α) : U.fieldAt 2 2 e.u K = K (.int .i64 e.scheme) := rfl
@[simp] theorem Op.u_at3 (e : Op) (K : U → Option α) : U.fieldAt 3 3 e.u K = K (.int .i64 e.key) := rfl
@[simp] theorem Op.u_at4 (e : Op) (K : U → Option α) : U.fieldAt 4 4 e.u K = K (.int .i64 e.high) := rfl
@[simp] theorem Op.u_at5 (e : Op) (K : U → Option α) : U.fieldAt 5 5 e.u K = K (.int .i64 e.value) := rfl
@[simp] theorem Op.u_flat (e : Op) : e.u.flat = true := rfl
@[simp] theorem Op.u_asFlat (e : Op) (K : U → Option α) : U.asFlat e.u K = K e.u := rfl
@[simp] theorem Op.u_eqv (x y : Op) : U.eqv 8 x.u y.u = some (decide (x = y)) := by
  obtain ⟨a0, a1, a2, a3, a4, a5⟩ := x
  obtain ⟨b0, b1, b2, b3, b4, b5⟩ := y
  simp only [Op.mk.injEq]
  show (if 6 = 6 then eqInts _ _ else none) = _
  simp only [if_true, eqInts_cons, eqInts_nil, Option.map_some, Bool.decide_and, Bool.and_true]
  rfl

structure StepR where
  code : Int
  values : List Int
  deriving DecidableEq
theorem StepR.eq_iff (x y : StepR) : x = y ↔ x.code = y.code ∧ x.values = y.values := by cases x; cases y; simp only [StepR.mk.injEq]
def StepR.u (e : StepR) : U := .agg [.int .i64 e.code, .sl 1 (e.values.map intU)]
@[simp] theorem StepR.u_size (e : StepR) : e.u.size = 2 := rfl
@[simp] theorem StepR.u_var (e : StepR) (K : U → Option α) : U.asVar true 2 e.u K = K e.u := rfl
@[simp] theorem StepR.u_storable (e : StepR) : storable (.val e.u) = true := rfl
@[simp] theorem StepR.u_partable (e : StepR) : partable (.val e.u) = true := rfl
@[simp] theorem StepR.u_noTup (e : StepR) (K : U → Option α) : U.noTup e.u K = K e.u := rfl
@[simp] theorem StepR.u_agg (e : StepR) (K : List U → Option α) : U.asAgg e.u K = K [.int .i64 e.code, .sl 1 (e.values.map intU)] := rfl
@[simp] theorem StepR.u_at0 (e : StepR) (K : U → Option α) : U.fieldAt 0 0 e.u K = K (.int .i64 e.code) := rfl
@[simp] theorem StepR.u_at1 (e : StepR) (K : U → Option α) : U.fieldAt 1 1 e.u K = K (.sl 1 (e.values.map intU)) := rfl

def chainU (l : List Version) : U := .sl 5 (l.map Version.u)
@[simp] theorem chainU_size (l : List Version) : (chainU l).size = 1 := rfl
@[simp] theorem asVar_chainU (l : List Version) (K : U → Option α) : U.asVar false 1 (chainU l) K = K (chainU l) := rfl
@[simp] theorem storable_chainU (l : List Version) : storable (.val (chainU l)) = true := rfl
@[simp] theorem partable_chainU (l : List Version) : partable (.val (chainU l)) = true := rfl
@[simp] theorem noTup_chainU (l : List Version) (K : U → Option α) : U.noTup (chainU l) K = K (chainU l) := rfl
@[simp] theorem lenOf_chainU (l : List Version) : U.lenOf false (chainU l) = some l.length := by simp [chainU]
@[simp] theorem elemAt_chainU (l : List Version) (i : Int) (K : U → Option α) : U.elemAt 5 (chainU l) i K = U.elemAt 5 (.sl 5 (l.map Version.u)) i K := rfl

structure Store where
  chains : List (List Version)
  deriving DecidableEq
theorem Store.eq_iff (x y : Store) : x = y ↔ x.chains = y.chains := by cases x; cases y; simp only [Store.mk.injEq]
def Store.u (e : Store) : U := .agg [.sl 1 (e.chains.map chainU)]
@[simp] theorem Store.u_size (e : Store) : e.u.size = 1 := rfl
@[simp] theorem Store.u_var (e : Store) (K : U → Option α) : U.asVar true 1 e.u K = K e.u := rfl
@[simp] theorem Store.u_storable (e : Store) : storable (.val e.u) = true := rfl
@[simp] theorem Store.u_partable (e : Store) : partable (.val e.u) = true := rfl
@[simp] theorem Store.u_noTup (e : Store) (K : U → Option α) : U.noTup e.u K = K e.u := rfl
@[simp] theorem Store.u_agg (e : Store) (K : List U → Option α) : U.asAgg e.u K = K [.sl 1 (e.chains.map chainU)] := rfl
@[simp] theorem Store.u_at0 (e : Store) (K : U → Option α) : U.fieldAt 0 0 e.u K = K (.sl 1 (e.chains.map chainU)) := rfl

structure Engine where
  certify : Bool
  store : Store
  transactions : List Transaction
  locks : List Lock
  waits : List Wait
  stamp : Int
  deriving DecidableEq
theorem Engine.eq_iff (x y : Engine) : x = y ↔ x.certify = y.certify ∧ x.store = y.store ∧ x.transactions = y.transactions ∧ x.locks = y.locks ∧ x.waits = y.waits ∧ x.stamp = y.stamp := by cases x; cases y; simp only [Engine.mk.injEq]
def Engine.u (e : Engine) : U := .agg [.bool e.certify, e.store.u, .sl 9 (e.transactions.map Transaction.u), .sl 2 (e.locks.map Lock.u), .sl 2 (e.waits.map Wait.u), .int .i64 e.stamp]
@[simp] theorem Engine.u_size (e : Engine) : e.u.size = 6 := rfl
@[simp] theorem Engine.u_var (e : Engine) (K : U → Option α) : U.asVar true 6 e.u K = K e.u := rfl
@[simp] theorem Engine.u_storable (e : Engine) : storable (.val e.u) = true := rfl
@[simp] theorem Engine.u_partable (e : Engine) : partable (.val e.u) = true := rfl
@[simp] theorem Engine.u_noTup (e : Engine) (K : U → Option α) : U.noTup e.u K = K e.u := rfl
@[simp] theorem Engine.u_agg (e : Engine) (K : List U → Option α) : U.asAgg e.u K = K [.bool e.certify, e.store.u, .sl 9 (e.transactions.map Transaction.u), .sl 2 (e.locks.map Lock.u), .sl 2 (e.waits.map Wait.u), .int .i64 e.stamp] := rfl
@[simp] theorem Engine.u_at0 (e : Engine) (K : U → Option α) : U.fieldAt 0 0 e.u K = K (.bool e.certify) := rfl
@[simp] theorem Engine.u_at1 (e : Engine) (K : U → Option α) : U.fieldAt 1 1 e.u K = K (e.store.u) := rfl
@[simp] theorem Engine.u_at2 (e : Engine) (K : U → Option α) : U.fieldAt 2 2 e.u K = K (.sl 9 (e.transactions.map Transaction.u)) := rfl
@[simp] theorem Engine.u_at3 (e : Engine) (K : U → Option α) : U.fieldAt 3 3 e.u K = K (.sl 2 (e.locks.map Lock.u)) := rfl
@[simp] theorem Engine.u_at4 (e : Engine) (K : U → Option α) : U.fieldAt 4 4 e.u K = K (.sl 2 (e.waits.map Wait.u)) := rfl
@[simp] theorem Engine.u_at5 (e : Engine) (K : U → Option α) : U.fieldAt 5 5 e.u K = K (.int .i64 e.stamp) := rfl

structure Node where
  engine : Engine
  log : ByteArray
  deriving DecidableEq
theorem Node.eq_iff (x y : Node) : x = y ↔ x.engine = y.engine ∧ x.log = y.log := by cases x; cases y; simp only [Node.mk.injEq]
def Node.u (e : Node) : U := .agg [e.engine.u, .str e.log]
@[simp] theorem Node.u_size (e : Node) : e.u.size = 7 := rfl
@[simp] theorem Node.u_var (e : Node) (K : U → Option α) : U.asVar true 7 e.u K = K e.u := rfl
@[simp] theorem Node.u_storable (e : Node) : storable (.val e.u) = true := rfl
@[simp] theorem Node.u_partable (e : Node) : partable (.val e.u) = true := rfl
@[simp] theorem Node.u_noTup (e : Node) (K : U → Option α) : U.noTup e.u K = K e.u := rfl
@[simp] theorem Node.u_agg (e : Node) (K : List U → Option α) : U.asAgg e.u K = K [e.engine.u, .str e.log] := rfl
@[simp] theorem Node.u_at0 (e : Node) (K : U → Option α) : U.fieldAt 0 0 e.u K = K (e.engine.u) := rfl
@[simp] theorem Node.u_at1 (e : Node) (K : U → Option α) : U.fieldAt 1 6 e.u K = K (.str e.log) := rfl

structure Report where
  order : List Int
  cycle : List Int
  kind : Int
  deriving DecidableEq
theorem Report.eq_iff (x y : Report) : x = y ↔ x.order = y.order ∧ x.cycle = y.cycle ∧ x.kind = y.kind := by cases x; cases y; simp only [Report.mk.injEq]
def Report.u (e : Report) : U := .agg [.sl 1 (e.order.map intU), .sl 1 (e.cycle.map intU), .int .i64 e.kind]
@[simp] theorem Report.u_size (e : Report) : e.u.size = 3 := rfl
@[simp] theorem Report.u_var (e : Report) (K : U → Option α) : U.asVar true 3 e.u K = K e.u := rfl
@[simp] theorem Report.u_storable (e : Report) : storable (.val e.u) = true := rfl
@[simp] theorem Report.u_partable (e : Report) : partable (.val e.u) = true := rfl
@[simp] theorem Report.u_noTup (e : Report) (K : U → Option α) : U.noTup e.u K = K e.u := rfl
@[simp] theorem Report.u_agg (e : Report) (K : List U → Option α) : U.asAgg e.u K = K [.sl 1 (e.order.map intU), .sl 1 (e.cycle.map intU), .int .i64 e.kind] := rfl
@[simp] theorem Report.u_at0 (e : Report) (K : U → Option α) : U.fieldAt 0 0 e.u K = K (.sl 1 (e.order.map intU)) := rfl
@[simp] theorem Report.u_at1 (e : Report) (K : U → Option α) : U.fieldAt 1 1 e.u K = K (.sl 1 (e.cycle.map intU)) := rfl
@[simp] theorem Report.u_at2 (e : Report) (K : U → Option α) : U.fieldAt 2 2 e.u K = K (.int .i64 e.kind) := rfl

end Go.Proofs.Ytmebdbagcbgddaa.Am
/-
  What the functions on lists of edges compute.
-/
namespace Go.Proofs.Ytmebdbagcbgddaa.Am
open Go
variable {E : Env}

/-- Is n in a range? -/
def inR (n lo hi : Int) : Bool := decide (lo ≤ n ∧ n ≤ hi)

theorem spec_l1In_is (h : G_spec_l1In E) (n lo hi : Int) : E 6 [.int .i64 n, .int .i64 lo, .int .i64 hi] = some (.bool (inR n lo hi)) := by
  rw [spec_l1In_E h]
  by_cases h1 : lo ≤ n <;> simp [inR, h1]
theorem impl_in_is (h : G_impl_in E) (n lo hi : Int) : E 10 [.int .i64 n, .int .i64 lo, .int .i64 hi] = some (.bool (inR n lo hi)) := by
  rw [impl_in_E h]
  by_cases h1 : lo ≤ n <;> simp [inR, h1]
theorem impl_isID_is (h : G_impl_isID E) (n : Int) : E 9 [.int .i64 n] = some (.bool (inR n 1 9)) := by
  rw [impl_isID_E h]; simp [impl_in_is h.c_impl_in]
theorem impl_isKey_is (h : G_impl_isKey E) (n : Int) : E 11 [.int .i64 n] = some (.bool (inR n 0 5)) := by
  rw [impl_isKey_E h]; simp [impl_in_is h.c_impl_in]

def cmpI (a b : Int) : Int := if a < b then -1 else if b < a then 1 else 0
theorem cmp_isNaN_is (h : G_cmp_isNaN_g15 E) (n : Int) : E 15 [.int .i64 n] = some (.bool false) := by
  rw [cmp_isNaN_g15_E h]; simp
theorem cmp_Compare_is (h : G_cmp_Compare_g13 E) (a b : Int) : E 13 [.int .i64 a, .int .i64 b] = some (.int .i64 (cmpI a b)) := by
  rw [cmp_Compare_g13_E h]
  simp only [cmp_isNaN_is h.c_cmp_isNaN_g15, cmpI]
  by_cases h1 : a < b <;> by_cases h2 : b < a <;> simp [h1, h2]

/-- The first that is not 0. -/
def cmpOr : List Int → Int
  | [] => 0
  | n :: l => if n = 0 then cmpOr l else n
theorem cmp_Or_l0_is (l : List Int) (hl : l.length ≤ 1000) : ∀ (r p : List Int) (i : Int), l = p ++ r → i = p.length → cmp_Or_g14_l0 E (.int .i64 0) (intsU l) (.int .i64 l.length) (.int .i64 i) = some (.int .i64 (cmpOr r))
  | [], p, i, e, hi => by
    rw [cmp_Or_g14_l0_eq]
    simp [mid_end e hi, cmpOr]
  | x :: r, p, i, e, hi => by
    obtain ⟨h0, hlt, hx, hw, hn, _⟩ := mid_at e hi (by omega)
    have ih := cmp_Or_l0_is l hl r (p ++ [x]) (i + 1) (mid_next e) hn
    rw [cmp_Or_g14_l0_eq]
    simp [h0, hlt, hx, hw, cmpOr, ih]
    split <;> simp_all
theorem cmp_Or_is (h : G_cmp_Or_g14 E) (l : List Int) (hl : l.length ≤ 1000) : E 14 [intsU l] = some (.int .i64 (cmpOr l)) := by
  rw [cmp_Or_g14_E h]
  simp [cmp_Or_l0_is (E := E) l hl l [] 0 rfl rfl]

/-- The order of edges: by From, To, Kind and Key. -/
def edgeLt (a b : Edge) : Bool :=
  if a.frm ≠ b.frm then decide (a.frm < b.frm) else if a.to ≠ b.to then decide (a.to < b.to) else if a.kind ≠ b.kind then decide (a.kind < b.kind) else decide (a.key < b.key)

def edgeCmp (a b : Edge) : Int := cmpOr [cmpI a.frm b.frm, cmpI a.to b.to, cmpI a.kind b.kind, cmpI a.key b.key]

theorem cmpI_zero {a b : Int} : cmpI a b = 0 ↔ a = b := by unfold cmpI; split <;> (try split) <;> omega
theorem cmpI_neg {a b : Int} : cmpI a b < 0 ↔ a < b := by unfold cmpI; split <;> (try split) <;> omega

theorem edgeCmp_neg (a b : Edge) : edgeCmp a b < 0 ↔ edgeLt a b = true := by
  unfold edgeCmp edgeLt
  simp only [cmpOr, cmpI_zero]
  by_cases h1 : a.frm = b.frm <;> by_cases h2 : a.to = b.to <;> by_cases h3 : a.kind = b.kind <;> by_cases h4 : a.key = b.key <;> simp [h1, h2, h3, h4, cmpI_neg]

theorem impl_compareEdges_is (h : G_impl_compareEdges E) (a b : Edge) : E 12 [a.u, b.u] = some (.int .i64 (edgeCmp a b)) := by
  rw [impl_compareEdges_E h]
  have := cmp_Or_is h.c_cmp_Or_g14 [cmpI a.frm b.frm, cmpI a.to b.to, cmpI a.kind b.kind, cmpI a.key b.key] (by simp)
  simp only [intsU, List.map_cons, List.map_nil, intU] at this
  simp [cmp_Compare_is h.c_cmp_Compare_g13, this, edgeCmp]

theorem spec_l19Less_is (h : G_spec_l19Less E) (a b : Edge) : E 7 [a.u, b.u] = some (.bool (edgeLt a b)) := by
  rw [spec_l19Less_E h]
  by_cases h1 : a.frm = b.frm <;> by_cases h2 : a.to = b.to <;> by_cases h3 : a.kind = b.kind <;> simp [h1, h2, h3, edgeLt]

/-- Is an edge right by itself? -/
def edgeOK (e : Edge) : Bool := inR e.frm 1 9 && inR e.to 1 9 && !decide (e.frm = e.to) && inR e.kind 1 3 && inR e.key 0 5

/-- The rest of a list of edges behind p. -/
def edgesFrom : Option Edge → List Edge → Bool
  | _, [] => true
  | p, e :: r => edgeOK e && (match p with | none => true | some q => edgeLt q e) && edgesFrom (some e) r

def areEdges (l : List Edge) : Bool := edgesFrom none l

abbrev edgesU (l : List Edge) : U := .sl 4 (l.map Edge.u)

theorem spec_AreEdges_l0_is (h : G_spec_AreEdges E) (l : List Edge) (hl : l.length ≤ 1048576) : ∀ (r p : List Edge) (i : Int), l = p ++ r → i = p.length →
    spec_AreEdges_l0 E (edgesU l) (.int .i64 i) = some (.bool (edgesFrom p.getLast? r))
  | [], p, i, e, hi => by
    rw [spec_AreEdges_l0_eq]
    simp [mid_end e hi, edgesFrom]
  | x :: r, p, i, e, hi => by
    obtain ⟨h0, hlt, hx, hw, hn, _⟩ := mid_at e hi (by omega)
    have ih := spec_AreEdges_l0_is h l hl r (p ++ [x]) (i + 1) (mid_next e) hn
    rw [List.getLast?_concat] at ih
    rw [spec_AreEdges_l0_eq]
    by_cases hp : p = []
    · have hi0 : ¬ 0 < i := by subst hp; simp at hi; omega
      simp [h0, hlt, hx, hw, ih, spec_l1In_is h.c_spec_l1In, edgesFrom, edgeOK, hi0, hp]
      cases inR x.frm 1 9 <;> cases inR x.to 1 9 <;> cases inR x.kind 1 3 <;> cases inR x.key 0 5 <;> by_cases h3 : x.frm = x.to <;> simp [h3]
    · obtain ⟨q, j, hq, hpos, hw1, h1, hq1, _⟩ := mid_last e hi (by omega) hp
      simp [h0, hlt, hx, hw, ih, spec_l1In_is h.c_spec_l1In, edgesFrom, edgeOK, hq, hpos, hw1, h1, hq1, spec_l19Less_is h.c_spec_l19Less]
      cases inR x.frm 1 9 <;> cases inR x.to 1 9 <;> cases inR x.kind 1 3 <;> cases inR x.key 0 5 <;> by_cases h3 : x.frm = x.to <;> cases edgeLt q x <;> simp [h3]
theorem spec_AreEdges_is (h : G_spec_AreEdges E) (l : List Edge) (hl : l.length ≤ 1048576) : E 4 [edgesU l] = some (.bool (areEdges l)) := by
  rw [spec_AreEdges_E h]
  simp [spec_AreEdges_l0_is h l hl l [] 0 rfl rfl, areEdges]

theorem impl_AreEdges_l0_is (h : G_impl_AreEdges E) (l : List Edge) (hl : l.length ≤ 1048576) : ∀ (r p : List Edge) (i : Int), l = p ++ r → i = p.length →
    impl_AreEdges_l0 E (edgesU l) (edgesU l) (.int .i64 l.length) (.int .i64 i) = some (.bool (edgesFrom p.getLast? r))
  | [], p, i, e, hi => by
    rw [impl_AreEdges_l0_eq]
    simp [mid_end e hi, edgesFrom]
  | x :: r, p, i, e, hi => by
    obtain ⟨h0, hlt, hx, hw, hn, _⟩ := mid_at e hi (by omega)
    have ih := impl_AreEdges_l0_is h l hl r (p ++ [x]) (i + 1) (mid_next e) hn
    rw [List.getLast?_concat] at ih
    rw [impl_AreEdges_l0_eq]
    by_cases hp : p = []
    · have hi0 : ¬ 0 < i := by subst hp; simp at hi; omega
      simp [h0, hlt, hx, hw, ih, impl_isID_is h.c_impl_isID, impl_in_is h.c_impl_in, impl_isKey_is h.c_impl_isKey, edgesFrom, edgeOK, hi0, hp]
      cases inR x.frm 1 9 <;> cases inR x.to 1 9 <;> cases inR x.kind 1 3 <;> cases inR x.key 0 5 <;> by_cases h3 : x.frm = x.to <;> simp [h3]
    · obtain ⟨q, j, hq, hpos, hw1, h1, hq1, _⟩ := mid_last e hi (by omega) hp
      have hc := edgeCmp_neg q x
      simp [h0, hlt, hx, hw, ih, impl_isID_is h.c_impl_isID, impl_in_is h.c_impl_in, impl_isKey_is h.c_impl_isKey, edgesFrom, edgeOK, hq, hpos, hw1, h1, hq1, impl_compareEdges_is h.c_impl_compareEdges]
      cases inR x.frm 1 9 <;> cases inR x.to 1 9 <;> cases inR x.kind 1 3 <;> cases inR x.key 0 5 <;> by_cases h3 : x.frm = x.to <;> cases h4 : edgeLt q x <;> simp_all <;> omega
theorem impl_AreEdges_is (h : G_impl_AreEdges E) (l : List Edge) (hl : l.length ≤ 1048576) : E 3 [edgesU l] = some (.bool (areEdges l)) := by
  rw [impl_AreEdges_E h]
  simp [impl_AreEdges_l0_is h l hl l [] 0 rfl rfl, areEdges]
end Go.Proofs.Ytmebdbagcbgddaa.Am
/-
  What the plain proofs of the laws' own helpers share.
-/
namespace Go.Proofs.Ytmebdbagcbgddaa.Am
open Go

/-- What is left of a budget behind n pieces; -1: nothing. -/
def szc (n : Nat) (left : Int) : Int := if left - n < 0 then -1 else left - n

def szl {α : Type} (f : α → Int → Int) : List α → Int → Int
  | [], left => left
  | x :: r, left => if f x left < 0 then -1 else szl f r (f x left)

def szL {α : Type} (f : α → Int → Int) (l : List α) (left : Int) : Int := if left - (l.length : Int) < 0 then -1 else szl f l (left - l.length)

/-- A measure that bounds what it measures. -/
def Szs {α : Type} (f : α → Int → Int) (ok : α → Prop) : Prop := ∀ x left, 0 ≤ left → left ≤ 1048576 → f x left < 0 ∨ (ok x ∧ 0 ≤ f x left ∧ f x left ≤ left)

theorem szc_szs : Szs szc (fun n => n ≤ 1048576) := fun n left h0 h1 => by
  unfold szc
  split
  · left; omega
  · right; refine ⟨by omega, by omega, by omega⟩

theorem szc_neg {n : Nat} {left : Int} (h : szc n left < 0) : szc n left = -1 := by
  unfold szc at h ⊢
  split at h
  · rename_i h1; rw [if_pos h1]
  · rename_i h1; omega

theorem szl_szs {α : Type} {f : α → Int → Int} {ok : α → Prop} (h : Szs f ok) : Szs (szl f) (fun l => ∀ x ∈ l, ok x) := fun l => by
  induction l with
  | nil => exact fun left h0 _ => .inr ⟨by simp, h0, Int.le_refl _⟩
  | cons x r ih =>
    intro left h0 h1
    rcases h x left h0 h1 with h2 | ⟨h2, h3, h4⟩
    · left; simp [szl, h2]
    · have h5 : ¬ f x left < 0 := by omega
      simp only [szl, h5, if_false]
      rcases ih _ h3 (by omega) with h6 | ⟨h6, h7, h8⟩
      · exact .inl h6
      · exact .inr ⟨by simpa using ⟨h2, h6⟩, h7, by omega⟩

theorem szL_szs {α : Type} {f : α → Int → Int} {ok : α → Prop} (h : Szs f ok) : Szs (szL f) (fun l => l.length ≤ 1048576 ∧ ∀ x ∈ l, ok x) := fun l left h0 h1 => by
  unfold szL
  split
  · left; omega
  · rcases szl_szs h l (left - l.length) (by omega) (by omega) with h6 | ⟨h6, h7, h8⟩
    · exact .inl h6
    · exact .inr ⟨⟨by omega, h6⟩, h7, by omega⟩

theorem mid_set {α : Type} (f : α → U) (p : List α) (z : U) (c : List U) {i : Int} (hi : i = p.length) :
    (p.map f ++ z :: c)[i.toNat]? = some z ∧ (∀ y, (p.map f ++ z :: c).set i.toNat y = p.map f ++ y :: c) ∧ i < ((p.map f ++ z :: c).length : Int) := by
  subst hi
  refine ⟨by simp, fun y => by simp, by simp; omega⟩
def Entry.fit (e : Entry) : Prop := e.reads.length ≤ maxLen ∧ e.writes.length ≤ maxLen
def Entry.ok (e : Entry) : Prop := e.reads.length ≤ 1048576 ∧ e.writes.length ≤ 1048576
def LogRecord.fit (e : LogRecord) : Prop := e.reads.length ≤ maxLen ∧ e.writes.length ≤ maxLen
def LogRecord.ok (e : LogRecord) : Prop := e.reads.length ≤ 1048576 ∧ e.writes.length ≤ 1048576
def Transaction.fit (e : Transaction) : Prop := e.reads.length ≤ maxLen ∧ e.writes.length ≤ maxLen
def Transaction.ok (e : Transaction) : Prop := e.reads.length ≤ 1048576 ∧ e.writes.length ≤ 1048576

def chainOk (l : List Version) : Prop := l.length ≤ 1048576
def chainFit (l : List Version) : Prop := l.length ≤ maxLen
def chainSz (l : List Version) (left : Int) : Int := szc l.length left
theorem chainSz_szs : Szs chainSz chainOk := fun l left h0 h1 => szc_szs l.length left h0 h1
theorem chainSz_neg {l : List Version} {left : Int} (h : chainSz l left < 0) : chainSz l left = -1 := szc_neg h
theorem szl_neg {α : Type} {f : α → Int → Int} : ∀ {l : List α} {left : Int}, 0 ≤ left → szl f l left < 0 → szl f l left = -1
  | [], left, h0, h => by simp only [szl] at h; omega
  | x :: r, left, h0, h => by
    simp only [szl] at h ⊢
    by_cases h1 : f x left < 0
    · simp [h1]
    · simp only [h1, if_false] at h ⊢
      exact szl_neg (by omega) h
theorem szL_neg {α : Type} {f : α → Int → Int} (_ : ∀ {x : α} {left : Int}, f x left < 0 → f x left = -1) {l : List α} {left : Int} (h : szL f l left < 0) : szL f l left = -1 := by
  unfold szL at h ⊢
  by_cases h1 : left - (l.length : Int) < 0
  · simp [h1]
  · simp only [h1, if_false] at h ⊢
    exact szl_neg (by omega) h

def Store.fit (s : Store) : Prop := s.chains.length ≤ maxLen ∧ ∀ c ∈ s.chains, chainFit c
def Store.ok (s : Store) : Prop := s.chains.length ≤ 1048576 ∧ ∀ c ∈ s.chains, chainOk c
def Store.sz (s : Store) (left : Int) : Int := szL chainSz s.chains left
theorem Store.sz_szs : Szs Store.sz Store.ok := fun s left h0 h1 => szL_szs chainSz_szs s.chains left h0 h1

def Transaction.sz (e : Transaction) (left : Int) : Int := let v := szc e.reads.length left; if v < 0 then -1 else szc e.writes.length v
theorem Transaction.sz_szs : Szs Transaction.sz Transaction.ok := fun e left h0 h1 => by
  unfold Transaction.sz Transaction.ok
  rcases szc_szs e.reads.length left h0 h1 with h | ⟨h2, h3, h4⟩
  · left; simp [h]
  · have h5 : ¬ szc e.reads.length left < 0 := by omega
    rcases szc_szs e.writes.length _ h3 (by omega) with h | ⟨h6, h7, h8⟩
    · left; simp [h5, h]
    · right; simp only [h5, if_false]; exact ⟨⟨h2, h6⟩, h7, by omega⟩

def Engine.fit (e : Engine) : Prop := e.store.fit ∧ e.transactions.length ≤ maxLen ∧ (∀ t ∈ e.transactions, t.fit) ∧ e.locks.length ≤ maxLen ∧ e.waits.length ≤ maxLen
def Engine.ok (e : Engine) : Prop := e.store.ok ∧ e.transactions.length ≤ 1048576 ∧ (∀ t ∈ e.transactions, t.ok) ∧ e.locks.length ≤ 1048576 ∧ e.waits.length ≤ 1048576
def Engine.sz (e : Engine) (left : Int) : Int :=
  if e.store.sz left < 0 then -1 else
  if szL Transaction.sz e.transactions (e.store.sz left) < 0 then -1 else
  if szc e.locks.length (szL Transaction.sz e.transactions (e.store.sz left)) < 0 then -1 else
  szc e.waits.length (szc e.locks.length (szL Transaction.sz e.transactions (e.store.sz left)))
theorem Engine.sz_szs : Szs Engine.sz Engine.ok := fun e left h0 h1 => by
  unfold Engine.sz Engine.ok
  rcases Store.sz_szs e.store left h0 h1 with n1 | ⟨o1, n1, n2⟩
  · left; simp [n1]
  have n3 : ¬ e.store.sz left < 0 := by omega
  rcases szL_szs Transaction.sz_szs e.transactions _ n1 (by omega) with m1 | ⟨⟨o2, o3⟩, m1, m2⟩
  · left; simp [n3, m1]
  have m3 : ¬ szL Transaction.sz e.transactions (e.store.sz left) < 0 := by omega
  rcases szc_szs e.locks.length _ m1 (by omega) with k1 | ⟨o4, k1, k2⟩
  · left; simp [n3, m3, k1]
  have k3 : ¬ szc e.locks.length (szL Transaction.sz e.transactions (e.store.sz left)) < 0 := by omega
  rcases szc_szs e.waits.length _ k1 (by omega) with j1 | ⟨o5, j1, j2⟩
  · left; simp [n3, m3, k3, j1]
  · right
    simp only [n3, m3, k3, if_false]
    exact ⟨⟨o1, o2, o3, o4, o5⟩, j1, by omega⟩
end Go.Proofs.Ytmebdbagcbgddaa.Am
/-
  What the plain proofs of package slices share.
-/
namespace Go.Proofs.Ytmebdbagcbgddaa.Am
open Go

/-- The place of the first element with P, counted from i; -1 if there is none. -/
def idxF {α : Type} (P : α → Bool) : List α → Int → Int
  | [], _ => -1
  | x :: r, i => if P x then i else idxF P r (i + 1)

theorem idxF_any {α : Type} (P : α → Bool) (l : List α) : ∀ {i : Int}, 0 ≤ i → (decide (0 ≤ idxF P l i)) = l.any P := by
  induction l with
  | nil => intro i _; simp [idxF]
  | cons x r ih =>
    intro i hi
    cases h : P x
    · simp [idxF, h, ih (i := i + 1) (by omega)]
    · simp [idxF, h, hi]

theorem idxF_mem {α : Type} [DecidableEq α] (v : α) (l : List α) : ∀ {i : Int}, 0 ≤ i → (decide (0 ≤ idxF (fun x => decide (x = v)) l i)) = decide (v ∈ l) := by
  induction l with
  | nil => intro i _; simp [idxF]
  | cons x r ih =>
    intro i hi
    by_cases h : x = v
    · simp [idxF, h, hi]
    · have h2 : v ≠ x := fun e => h e.symm
      simp only [idxF, h, decide_false, Bool.false_eq_true, if_false, ih (i := i + 1) (by omega)]
      simp [h2]

/-- Where the first is: its place, and that none comes before. -/
theorem idxF_cases {α : Type} (P : α → Bool) (l : List α) : ∀ (i : Int), (idxF P l i = -1 ∧ ∀ x ∈ l, P x = false) ∨ ∃ p x r, l = p ++ x :: r ∧ idxF P l i = i + p.length ∧ P x = true ∧ ∀ y ∈ p, P y = false := by
  induction l with
  | nil => intro i; exact .inl ⟨rfl, by simp⟩
  | cons x r ih =>
    intro i
    cases h : P x with
    | true => exact .inr ⟨[], x, r, rfl, by simp [idxF, h], h, by simp⟩
    | false =>
      rcases ih (i + 1) with ⟨h1, h2⟩ | ⟨p, y, s, h1, h2, h3, h4⟩
      · exact .inl ⟨by simp [idxF, h, h1], by simpa [h] using h2⟩
      · exact .inr ⟨x :: p, y, s, by simp [h1], by simp [idxF, h, h2]; omega, h3, by simpa [h] using h4⟩
end Go.Proofs.Ytmebdbagcbgddaa.Am
/-
  What a function of package slices computes.
-/
namespace Go.Proofs.Ytmebdbagcbgddaa.Am
open Go
variable {E : Env}
set_option linter.unusedVariables false

theorem slices_IndexFunc_g115_l0_is (l : List (List Version)) (hl : l.length ≤ 9223372036854775807) (q : Nat) (caps : List U) (P : (List Version) → Bool) (hp : ∀ x ∈ l, E q (chainU x :: caps) = some (.bool (P x))) (hq : q < 100000) : ∀ (r p : List (List Version)) (i : Int), l = p ++ r → i = p.length →
    slices_IndexFunc_g115_l0 E (.sl 1 (l.map chainU)) (.fn q caps) (.int .i64 l.length) (.int .i64 i) = some (.int .i64 (idxF P r i))
  | [], p, i, e, hi => by
    rw [slices_IndexFunc_g115_l0_eq]
    simp [mid_end e hi, idxF]
  | x :: r, p, i, e, hi => by
    obtain ⟨h0, hlt, hx, hw, hn, _⟩ := mid_at e hi hl
    have hpx := hp x (by rw [e]; simp)
    have ih := slices_IndexFunc_g115_l0_is l hl q caps P hp hq r (p ++ [x]) (i + 1) (mid_next e) hn
    rw [slices_IndexFunc_g115_l0_eq]
    cases h1 : P x <;> simp [hlt, hx, hw, ih, hpx, hq, h1, idxF]
theorem slices_IndexFunc_g115_is (h : G_slices_IndexFunc_g115 E) (l : List (List Version)) (hl : l.length ≤ 9223372036854775807) (q : Nat) (caps : List U) (P : (List Version) → Bool) (hp : ∀ x ∈ l, E q (chainU x :: caps) = some (.bool (P x))) (hq : q < 100000 := by decide) :
    E 115 [.sl 1 (l.map chainU), .fn q caps] = some (.int .i64 (idxF P l 0)) := by
  rw [slices_IndexFunc_g115_E h]
  simp [slices_IndexFunc_g115_l0_is l hl q caps P hp hq l [] 0 rfl rfl]
end Go.Proofs.Ytmebdbagcbgddaa.Am
/-
  What a function of package slices computes.
-/
namespace Go.Proofs.Ytmebdbagcbgddaa.Am
open Go
variable {E : Env}
set_option linter.unusedVariables false

theorem slices_ContainsFunc_g114_is (h : G_slices_ContainsFunc_g114 E) (l : List (List Version)) (hl : l.length ≤ 9223372036854775807) (q : Nat) (caps : List U) (P : (List Version) → Bool) (hp : ∀ x ∈ l, E q (chainU x :: caps) = some (.bool (P x))) (hq : q < 100000 := by decide) :
    E 114 [.sl 1 (l.map chainU), .fn q caps] = some (.bool (l.any P)) := by
  rw [slices_ContainsFunc_g114_E h]
  simp [slices_IndexFunc_g115_is h.c_slices_IndexFunc_g115 l hl q caps P hp hq, idxF_any]
end Go.Proofs.Ytmebdbagcbgddaa.Am
/-
  What a function of package slices computes.
-/
namespace Go.Proofs.Ytmebdbagcbgddaa.Am
open Go
variable {E : Env}
set_option linter.unusedVariables false

theorem slices_Equal_g31_l0_is (a b : List ReadMark) (ha : a.length ≤ 9223372036854775807) (hb : b.length ≤ 9223372036854775807) : ∀ (r s p p2 : List ReadMark) (i : Int), a = p ++ r → b = p2 ++ s → i = p.length → i = p2.length → r.length = s.length →
    slices_Equal_g31_l0 E (.sl 2 (a.map ReadMark.u)) (.sl 2 (b.map ReadMark.u)) (.int .i64 a.length) (.int .i64 i) = some (.bool (decide (r = s)))
  | [], [], p, p2, i, e, e2, hi, hi2, _ => by
    rw [slices_Equal_g31_l0_eq]
    simp [mid_end e hi]
  | [], y :: s, _, _, _, _, _, _, _, hl => by cases hl
  | x :: r, [], _, _, _, _, _, _, _, hl => by cases hl
  | x :: r, y :: s, p, p2, i, e, e2, hi, hi2, hl => by
    obtain ⟨h0, hlt, hx, hw, hn, _⟩ := mid_at e hi ha
    obtain ⟨_, _, hy, _, hn2, _⟩ := mid_at e2 hi2 hb
    have ih := slices_Equal_g31_l0_is a b ha hb r s (p ++ [x]) (p2 ++ [y]) (i + 1) (mid_next e) (mid_next e2) hn hn2 (by simpa using hl)
    rw [slices_Equal_g31_l0_eq]
    by_cases hxy : x = y
    · subst hxy
      simp [hlt, hx, hy, hw, ih]
    · simp [hlt, hx, hy, hw, ih, hxy]
theorem slices_Equal_g31_is (h : G_slices_Equal_g31 E) (a b : List ReadMark) (ha : a.length ≤ 9223372036854775807) (hb : b.length ≤ 9223372036854775807) : E 31 [.sl 2 (a.map ReadMark.u), .sl 2 (b.map ReadMark.u)] = some (.bool (decide (a = b))) := by
  rw [slices_Equal_g31_E h]
  by_cases hl : a.length = b.length
  · have h1 := slices_Equal_g31_l0_is (E := E) a b ha hb a b [] [] 0 rfl rfl rfl rfl hl
    rw [hl] at h1
    simp [hl, h1]
  · have h1 : a ≠ b := fun e => hl (by rw [e])
    have h2 : (a.length : Int) ≠ b.length := by omega
    simp [h1, h2]
end Go.Proofs.Ytmebdbagcbgddaa.Am
/-
  What a function of package slices computes.
-/
namespace Go.Proofs.Ytmebdbagcbgddaa.Am
open Go
variable {E : Env}
set_option linter.unusedVariables false

theorem slices_Equal_g32_l0_is (a b : List Write) (ha : a.length ≤ 9223372036854775807) (hb : b.length ≤ 9223372036854775807) : ∀ (r s p p2 : List Write) (i : Int), a = p ++ r → b = p2 ++ s → i = p.length → i = p2.length → r.length = s.length →
    slices_Equal_g32_l0 E (.sl 2 (a.map Write.u)) (.sl 2 (b.map Write.u)) (.int .i64 a.length) (.int .i64 i) = some (.bool (decide (r = s)))
  | [], [], p, p2, i, e, e2, hi, hi2, _ => by
    rw [slices_Equal_g32_l0_eq]
    simp [mid_end e hi]
  | [], y :: s, _, _, _, _, _, _, _, hl => by cases hl
  | x :: r, [], _, _, _, _, _, _, _, hl => by cases hl
  | x :: r, y :: s, p, p2, i, e, e2, hi, hi2, hl => by
    obtain ⟨h0, hlt, hx, hw, hn, _⟩ := mid_at e hi ha
    obtain ⟨_, _, hy, _, hn2, _⟩ := mid_at e2 hi2 hb
    have ih := slices_Equal_g32_l0_is a b ha hb r s (p ++ [x]) (p2 ++ [y]) (i + 1) (mid_next e) (mid_next e2) hn hn2 (by simpa using hl)
    rw [slices_Equal_g32_l0_eq]
    by_cases hxy : x = y
    · subst hxy
      simp [hlt, hx, hy, hw, ih]
    · simp [hlt, hx, hy, hw, ih, hxy]
theorem slices_Equal_g32_is (h : G_slices_Equal_g32 E) (a b : List Write) (ha : a.length ≤ 9223372036854775807) (hb : b.length ≤ 9223372036854775807) : E 32 [.sl 2 (a.map Write.u), .sl 2 (b.map Write.u)] = some (.bool (decide (a = b))) := by
  rw [slices_Equal_g32_E h]
  by_cases hl : a.length = b.length
  · have h1 := slices_Equal_g32_l0_is (E := E) a b ha hb a b [] [] 0 rfl rfl rfl rfl hl
    rw [hl] at h1
    simp [hl, h1]
  · have h1 : a ≠ b := fun e => hl (by rw [e])
    have h2 : (a.length : Int) ≠ b.length := by omega
    simp [h1, h2]
end Go.Proofs.Ytmebdbagcbgddaa.Am
/-
  What the functions on log records and transactions' lists compute.
-/
namespace Go.Proofs.Ytmebdbagcbgddaa.Am
open Go
variable {E : Env}
set_option linter.unusedVariables false

def LogRecord.tx (r : LogRecord) : Transaction := ⟨r.id, 1, 2, 0, 0, r.high, r.stamp, r.reads, r.writes⟩

theorem spec_l28Tx_is (h : G_spec_l28Tx E) (r : LogRecord) : E 25 [r.u] = some r.tx.u := by
  rw [spec_l28Tx_E h]
  simp [LogRecord.tx, Transaction.u]

theorem tx_eq (a b : LogRecord) : a.safe = b.safe ∧ a.tx = b.tx ↔ a = b := by
  simp only [LogRecord.eq_iff, Transaction.eq_iff, LogRecord.tx]
  constructor <;> intro h <;> simp_all

theorem spec_EqT_l0_is (x y : Transaction) (ha : x.ok) (hb : y.ok) : ∀ (r s p p2 : List Write) (i : Int), x.writes = p ++ r → y.writes = p2 ++ s → i = p.length → i = p2.length → r.length = s.length →
    spec_EqualTransactions_l0 E (.int .i64 i) x.u y.u = some (.bool (decide (r = s)))
  | [], [], p, p2, i, e, e2, hi, hi2, _ => by
    rw [spec_EqualTransactions_l0_eq]
    simp [mid_end e hi]
  | [], y :: s, _, _, _, _, _, _, _, hl => by cases hl
  | x :: r, [], _, _, _, _, _, _, _, hl => by cases hl
  | z :: r, z2 :: s, p, p2, i, e, e2, hi, hi2, hl => by
    obtain ⟨h0, hlt, hx, hw, hn, _⟩ := mid_at e hi (by have := ha.2; omega)
    obtain ⟨_, _, hy, _, hn2, _⟩ := mid_at e2 hi2 (by have := hb.2; omega)
    have ih := spec_EqT_l0_is x y ha hb r s (p ++ [z]) (p2 ++ [z2]) (i + 1) (mid_next e) (mid_next e2) hn hn2 (by simpa using hl)
    rw [spec_EqualTransactions_l0_eq]
    by_cases hxy : z = z2
    · subst hxy
      simp [hlt, hx, hy, hw, ih]
    · simp [hlt, hx, hy, hw, ih, hxy]

theorem spec_EqT_l1_is (x y : Transaction) (ha : x.ok) (hb : y.ok) (hw : x.writes.length = y.writes.length) : ∀ (r s p p2 : List ReadMark) (i : Int), x.reads = p ++ r → y.reads = p2 ++ s → i = p.length → i = p2.length → r.length = s.length →
    spec_EqualTransactions_l1 E (.int .i64 i) x.u y.u = some (.bool (decide (r = s) && decide (x.writes = y.writes)))
  | [], [], p, p2, i, e, e2, hi, hi2, _ => by
    rw [spec_EqualTransactions_l1_eq]
    simp [mid_end e hi, spec_EqT_l0_is x y ha hb x.writes y.writes [] [] 0 rfl rfl rfl rfl hw]
  | [], y :: s, _, _, _, _, _, _, _, hl => by cases hl
  | x :: r, [], _, _, _, _, _, _, _, hl => by cases hl
  | z :: r, z2 :: s, p, p2, i, e, e2, hi, hi2, hl => by
    obtain ⟨h0, hlt, hx, hw', hn, _⟩ := mid_at e hi (by have := ha.1; omega)
    obtain ⟨_, _, hy, _, hn2, _⟩ := mid_at e2 hi2 (by have := hb.1; omega)
    have ih := spec_EqT_l1_is x y ha hb hw r s (p ++ [z]) (p2 ++ [z2]) (i + 1) (mid_next e) (mid_next e2) hn hn2 (by simpa using hl)
    rw [spec_EqualTransactions_l1_eq]
    by_cases hxy : z = z2
    · subst hxy
      simp [hlt, hx, hy, hw', ih]
    · simp [hlt, hx, hy, hw', ih, hxy]

theorem spec_EqualTransactions_is (h : G_spec_EqualTransactions E) (x y : Transaction) (ha : x.ok) (hb : y.ok) : E 26 [x.u, y.u] = some (.bool (decide (x = y))) := by
  rw [spec_EqualTransactions_E h]
  by_cases hr : x.reads.length = y.reads.length
  · by_cases hw : x.writes.length = y.writes.length
    · have h1 := spec_EqT_l1_is (E := E) x y ha hb hw x.reads y.reads [] [] 0 rfl rfl rfl rfl hr
      simp only [Transaction.eq_iff]
      by_cases h0 : x.id = y.id
      case neg => simp [h0]
      by_cases h2 : x.scheme = y.scheme
      case neg => simp [h0, h2]
      by_cases h3 : x.state = y.state
      case neg => simp [h0, h2, h3]
      by_cases h4 : x.begin_ = y.begin_
      case neg => simp [h0, h2, h3, h4]
      by_cases h5 : x.low = y.low
      case neg => simp [h0, h2, h3, h4, h5]
      by_cases h6 : x.high = y.high
      case neg => simp [h0, h2, h3, h4, h5, h6]
      by_cases h7 : x.commit = y.commit
      case neg => simp [h0, h2, h3, h4, h5, h6, h7]
      simp [h1, h0, h2, h3, h4, h5, h6, h7, hr, hw]
    · have h1 : x ≠ y := fun e => hw (by rw [e])
      have h2 : (x.writes.length : Int) ≠ y.writes.length := by omega
      simp only [h1, decide_false]
      simp [h2]
  · have h1 : x ≠ y := fun e => hr (by rw [e])
    have h2 : (x.reads.length : Int) ≠ y.reads.length := by omega
    simp only [h1, decide_false]
    simp [h2]

theorem spec_EqualRecords_is (h : G_spec_EqualRecords E) (x y : LogRecord) (ha : x.ok) (hb : y.ok) : E 21 [x.u, y.u] = some (.bool (decide (x = y))) := by
  rw [spec_EqualRecords_E h]
  have h1 := spec_EqualTransactions_is h.c_spec_EqualTransactions x.tx y.tx ha hb
  have h2 := tx_eq x y
  by_cases hs : x.safe = y.safe
  · simp only [hs, true_and] at h2
    simp [hs, spec_l28Tx_is h.c_spec_l28Tx, h1, h2]
  · have : x ≠ y := fun e => hs (by rw [e])
    simp [hs, this]

theorem impl_EqualRecords_is (h : G_impl_EqualRecords E) (x y : LogRecord) (ha : x.ok) (hb : y.ok) : E 20 [x.u, y.u] = some (.bool (decide (x = y))) := by
  rw [impl_EqualRecords_E h]
  obtain ⟨ha1, ha2⟩ := ha
  obtain ⟨hb1, hb2⟩ := hb
  have h1 := slices_Equal_g31_is h.c_slices_Equal_g31 x.reads y.reads (by omega) (by omega)
  have h2 := slices_Equal_g32_is h.c_slices_Equal_g32 x.writes y.writes (by omega) (by omega)
  simp only [LogRecord.eq_iff]
  by_cases e0 : x.stamp = y.stamp
  case neg => simp [e0]
  by_cases e1 : x.id = y.id
  case neg => simp [e0, e1]
  by_cases e2 : x.high = y.high
  case neg => simp [e0, e1, e2]
  by_cases e3 : x.safe = y.safe
  case neg => simp [e0, e1, e2, e3]
  by_cases e4 : x.reads = y.reads
  case neg => simp [e0, e1, e2, e3, e4, h1]
  rw [e4] at h1
  simp [e0, e1, e2, e3, e4, h1, h2]
end Go.Proofs.Ytmebdbagcbgddaa.Am
/-
  What the functions that test reads, writes, transactions and records compute.
-/
namespace Go.Proofs.Ytmebdbagcbgddaa.Am
open Go
variable {E : Env}
set_option linter.unusedVariables false

def markLt (a b : ReadMark) : Bool := decide (a.key < b.key) || (decide (a.key = b.key) && decide (a.created < b.created))
def markCmp (a b : ReadMark) : Int := cmpOr [cmpI a.key b.key, cmpI a.created b.created]
theorem markCmp_neg (a b : ReadMark) : decide (0 ≤ markCmp a b) = !markLt a b := by
  unfold markCmp markLt cmpI
  simp only [cmpOr]
  by_cases h1 : a.key < b.key
  · simp [h1]
  · by_cases h2 : b.key < a.key
    · have h3 : ¬ a.key = b.key := by omega
      simp [h1, h2, h3]
    · have h3 : a.key = b.key := by omega
      by_cases h4 : a.created < b.created
      · simp [h3, h4]
      · by_cases h5 : b.created < a.created <;> simp [h3, h4, h5]

def reads1 (p : Option ReadMark) (m : ReadMark) : Bool := inR m.key 0 5 && inR m.created 0 999 && (match p with | none => true | some q => markLt q m)
def readsFrom : Option ReadMark → List ReadMark → Bool
  | _, [] => true
  | p, m :: r => reads1 p m && readsFrom (some m) r
def areReads (l : List ReadMark) : Bool := readsFrom none l && decide (l.length ≤ 60)

def writes1 (p : Option Write) (w : Write) : Bool := inR w.key 0 5 && inR w.value (-1) 99 && (match p with | none => true | some q => decide (q.key < w.key))
def writesFrom : Option Write → List Write → Bool
  | _, [] => true
  | p, w :: r => writes1 p w && writesFrom (some w) r
def areWrites (l : List Write) : Bool := writesFrom none l

def Transaction.valid (t : Transaction) : Bool :=
  inR t.id 1 9 && (inR t.scheme 1 4 && (inR t.begin_ 0 999 && (inR t.state 1 3 && (inR t.low 0 999 && (inR t.high 1 1000 && ((decide (t.state = 2) == decide (0 < t.commit)) && (inR t.commit 0 999 && (areReads t.reads && areWrites t.writes))))))))
def LogRecord.valid (r : LogRecord) : Bool := r.tx.valid && (decide (r.high ≤ r.stamp) && inR r.safe 0 r.stamp)

theorem impl_compareMarks_is (h : G_impl_compareMarks E) (a b : ReadMark) : E 75 [a.u, b.u] = some (.int .i64 (markCmp a b)) := by
  rw [impl_compareMarks_E h]
  have := cmp_Or_is h.c_cmp_Or_g14 [cmpI a.key b.key, cmpI a.created b.created] (by simp)
  simp only [intsU, List.map_cons, List.map_nil, intU] at this
  simp [cmp_Compare_is h.c_cmp_Compare_g13, this, markCmp]

theorem spec_l5Before_is (h : G_spec_l5Before E) (a b : ReadMark) : E 71 [a.u, b.u] = some (.bool (markLt a b)) := by
  rw [spec_l5Before_E h]
  by_cases h1 : a.key < b.key
  · simp [markLt, h1]
  · by_cases h2 : a.key = b.key <;> simp [markLt, h1, h2]

theorem impl_IsStamp_is (h : G_impl_IsStamp E) (n : Int) : E 72 [.int .i64 n] = some (.bool (inR n 1 999)) := by
  rw [impl_IsStamp_E h]; simp [impl_in_is h.c_impl_in]
theorem impl_isValue_is (h : G_impl_isValue E) (n : Int) : E 76 [.int .i64 n] = some (.bool (inR n (-1) 99)) := by
  rw [impl_isValue_E h]; simp [impl_in_is h.c_impl_in]

theorem impl_areReads_l0_is (h : G_impl_areReads E) (l : List ReadMark) (hl : l.length ≤ 1048576) : ∀ (r p : List ReadMark) (i : Int), l = p ++ r → i = p.length →
    impl_areReads_l0 E (.sl 2 (l.map ReadMark.u)) (.sl 2 (l.map ReadMark.u)) (.int .i64 l.length) (.int .i64 i) = some (.bool (readsFrom p.getLast? r && decide (l.length ≤ 60)))
  | [], p, i, e, hi => by
    rw [impl_areReads_l0_eq]
    have h1 : decide ((l.length : Int) ≤ 60) = decide (l.length ≤ 60) := by congr 1; simp only [eq_iff_iff]; omega
    simp [mid_end e hi, readsFrom, h1]
  | x :: r, p, i, e, hi => by
    obtain ⟨h0, hlt, hx, hw, hn, _⟩ := mid_at e hi (by omega)
    have ih := impl_areReads_l0_is h l hl r (p ++ [x]) (i + 1) (mid_next e) hn
    rw [List.getLast?_concat] at ih
    rw [impl_areReads_l0_eq]
    by_cases hp : p = []
    · have hi0 : ¬ 0 < i := by subst hp; simp at hi; omega
      simp [h0, hlt, hx, hw, ih, impl_isKey_is h.c_impl_isKey, impl_in_is h.c_impl_in, hi0, hp, ite_f, readsFrom, reads1, Bool.and_assoc]
    · obtain ⟨q, j, hq, hpos, hw1, h1, hq1, _⟩ := mid_last e hi (by omega) hp
      simp [h0, hlt, hx, hw, ih, impl_isKey_is h.c_impl_isKey, impl_in_is h.c_impl_in, hpos, hq, hw1, hq1, impl_compareMarks_is h.c_impl_compareMarks, ite_f, ite_n, markCmp_neg, readsFrom, reads1, Bool.and_assoc]

theorem impl_areReads_is (h : G_impl_areReads E) (l : List ReadMark) (hl : l.length ≤ 1048576) : E 73 [.sl 2 (l.map ReadMark.u)] = some (.bool (areReads l)) := by
  rw [impl_areReads_E h]
  simp [impl_areReads_l0_is h l hl l [] 0 rfl rfl, areReads]

theorem impl_areWrites_l0_is (h : G_impl_areWrites E) (l : List Write) (hl : l.length ≤ 1048576) : ∀ (r p : List Write) (i : Int), l = p ++ r → i = p.length →
    impl_areWrites_l0 E (.sl 2 (l.map Write.u)) (.sl 2 (l.map Write.u)) (.int .i64 l.length) (.int .i64 i) = some (.bool (writesFrom p.getLast? r))
  | [], p, i, e, hi => by
    rw [impl_areWrites_l0_eq]
    simp [mid_end e hi, writesFrom]
  | x :: r, p, i, e, hi => by
    obtain ⟨h0, hlt, hx, hw, hn, _⟩ := mid_at e hi (by omega)
    have ih := impl_areWrites_l0_is h l hl r (p ++ [x]) (i + 1) (mid_next e) hn
    rw [List.getLast?_concat] at ih
    rw [impl_areWrites_l0_eq]
    by_cases hp : p = []
    · have hi0 : ¬ 0 < i := by subst hp; simp at hi; omega
      simp [h0, hlt, hx, hw, ih, impl_isKey_is h.c_impl_isKey, impl_isValue_is h.c_impl_isValue, hi0, hp, ite_f, writesFrom, writes1, Bool.and_assoc]
    · obtain ⟨q, j, hq, hpos, hw1, h1, hq1, _⟩ := mid_last e hi (by omega) hp
      have hc : (!decide (x.key ≤ q.key)) = decide (q.key < x.key) := by rw [← decide_not]; congr 1; simp only [eq_iff_iff]; omega
      simp [h0, hlt, hx, hw, ih, impl_isKey_is h.c_impl_isKey, impl_isValue_is h.c_impl_isValue, hpos, hq, hw1, hq1, ite_f, ite_n, writesFrom, writes1, Bool.and_assoc, hc]

theorem impl_areWrites_is (h : G_impl_areWrites E) (l : List Write) (hl : l.length ≤ 1048576) : E 74 [.sl 2 (l.map Write.u)] = some (.bool (areWrites l)) := by
  rw [impl_areWrites_E h]
  simp [impl_areWrites_l0_is h l hl l [] 0 rfl rfl, areWrites]

/-- The tests behind those of the lists. -/
def Transaction.tail (t : Transaction) : Bool :=
  inR t.id 1 9 && (inR t.scheme 1 4 && (inR t.begin_ 0 999 && (inR t.state 1 3 && (inR t.low 0 999 && (inR t.high 1 1000 && ((decide (t.state = 2) == decide (0 < t.commit)) && (inR t.commit 0 999 && decide (t.reads.length ≤ 60))))))))

theorem spec_IsVT_l0_is (h : G_spec_IsValidTransaction E) (t : Transaction) (ho : t.ok) : ∀ (r p : List Write) (i : Int), t.writes = p ++ r → i = p.length →
    spec_IsValidTransaction_l0 E (.int .i64 i) t.u = some (.bool (writesFrom p.getLast? r && t.tail))
  | [], p, i, e, hi => by
    rw [spec_IsValidTransaction_l0_eq]
    have h1 : decide ((t.reads.length : Int) ≤ 60) = decide (t.reads.length ≤ 60) := by congr 1; simp only [eq_iff_iff]; omega
    have h2 : decide (t.state = 2 ↔ 0 < t.commit) = (decide (t.state = 2) == decide (0 < t.commit)) := by
      by_cases a : t.state = 2 <;> by_cases b : 0 < t.commit <;> simp [a, b]
    simp [mid_end e hi, spec_l1In_is h.c_spec_l1In, ite_f, ite_t, ite_p, writesFrom, Transaction.tail, h1, h2]
  | x :: r, p, i, e, hi => by
    obtain ⟨h0, hlt, hx, hw, hn, _⟩ := mid_at e hi (by have := ho.2; omega)
    have ih := spec_IsVT_l0_is h t ho r (p ++ [x]) (i + 1) (mid_next e) hn
    rw [List.getLast?_concat] at ih
    rw [spec_IsValidTransaction_l0_eq]
    by_cases hp : p = []
    · have hi0 : ¬ 0 < i := by subst hp; simp at hi; omega
      simp [h0, hlt, hx, hw, ih, spec_l1In_is h.c_spec_l1In, hi0, hp, ite_f, writesFrom, writes1, Bool.and_assoc]
    · obtain ⟨q, j, hq, hpos, hw1, h1, hq1, _⟩ := mid_last e hi (by have := ho.2; omega) hp
      have hc : (!decide (x.key ≤ q.key)) = decide (q.key < x.key) := by rw [← decide_not]; congr 1; simp only [eq_iff_iff]; omega
      simp [h0, hlt, hx, hw, ih, spec_l1In_is h.c_spec_l1In, hpos, hq, hw1, hq1, ite_f, ite_n, writesFrom, writes1, Bool.and_assoc, hc]

theorem spec_IsVT_l1_is (h : G_spec_IsValidTransaction E) (t : Transaction) (ho : t.ok) : ∀ (r p : List ReadMark) (i : Int), t.reads = p ++ r → i = p.length →
    spec_IsValidTransaction_l1 E (.int .i64 i) t.u = some (.bool (readsFrom p.getLast? r && (writesFrom none t.writes && t.tail)))
  | [], p, i, e, hi => by
    rw [spec_IsValidTransaction_l1_eq]
    simp [mid_end e hi, readsFrom, spec_IsVT_l0_is h t ho t.writes [] 0 rfl rfl]
  | x :: r, p, i, e, hi => by
    obtain ⟨h0, hlt, hx, hw, hn, _⟩ := mid_at e hi (by have := ho.1; omega)
    have ih := spec_IsVT_l1_is h t ho r (p ++ [x]) (i + 1) (mid_next e) hn
    rw [List.getLast?_concat] at ih
    rw [spec_IsValidTransaction_l1_eq]
    by_cases hp : p = []
    · have hi0 : ¬ 0 < i := by subst hp; simp at hi; omega
      simp [h0, hlt, hx, hw, ih, spec_l1In_is h.c_spec_l1In, hi0, hp, ite_f, readsFrom, reads1, Bool.and_assoc]
    · obtain ⟨q, j, hq, hpos, hw1, h1, hq1, _⟩ := mid_last e hi (by have := ho.1; omega) hp
      simp [h0, hlt, hx, hw, ih, spec_l1In_is h.c_spec_l1In, hpos, hq, hw1, hq1, ite_f, ite_n, readsFrom, reads1, Bool.and_assoc, spec_l5Before_is h.c_spec_l5Before]

theorem spec_IsValidTransaction_is (h : G_spec_IsValidTransaction E) (t : Transaction) (ho : t.ok) : E 70 [t.u] = some (.bool t.valid) := by
  rw [spec_IsValidTransaction_E h]
  have h1 := spec_IsVT_l1_is h t ho t.reads [] 0 rfl rfl
  have h2 : (readsFrom none t.reads && (writesFrom none t.writes && t.tail)) = t.valid := by
    unfold Transaction.valid Transaction.tail areReads areWrites
    ac_rfl
  simp [h1, h2]

theorem spec_IsValidRecord_is (h : G_spec_IsValidRecord E) (r : LogRecord) (ho : r.ok) : E 69 [r.u] = some (.bool r.valid) := by
  rw [spec_IsValidRecord_E h]
  simp [spec_l28Tx_is h.c_spec_l28Tx, spec_IsValidTransaction_is h.c_spec_IsValidTransaction r.tx ho, spec_l1In_is h.c_spec_l1In, ite_t, ite_p, LogRecord.valid]

theorem impl_IsValidRecord_is (h : G_impl_IsValidRecord E) (r : LogRecord) (ho : r.ok) : E 68 [r.u] = some (.bool r.valid) := by
  rw [impl_IsValidRecord_E h]
  have h2 : (inR r.id 1 9 && (inR r.stamp 1 999 && (inR r.high 1 r.stamp && (inR r.safe 0 r.stamp && (areReads r.reads && areWrites r.writes))))) = r.valid := by
    unfold LogRecord.valid Transaction.valid LogRecord.tx inR
    rw [Bool.eq_iff_iff]
    simp only [Bool.and_eq_true, decide_eq_true_eq, beq_iff_eq]
    constructor
    · rintro ⟨h1, h2, h3, h4, h5, h6⟩
      refine ⟨⟨h1, by omega, by omega, by omega, by omega, by omega, ?_, by omega, h5, h6⟩, by omega, h4⟩
      have : 0 < r.stamp := by omega
      simp [this]
    · rintro ⟨⟨h1, _, _, _, _, h3, h4, h5, h6, h7⟩, h8, h9⟩
      have h10 : 0 < r.stamp := by simpa using h4
      exact ⟨h1, by omega, by omega, h9, h6, h7⟩
  simp [impl_isID_is h.c_impl_isID, impl_IsStamp_is h.c_impl_IsStamp, impl_in_is h.c_impl_in, impl_areReads_is h.c_impl_areReads _ ho.1, impl_areWrites_is h.c_impl_areWrites _ ho.2, ite_t, h2]
end Go.Proofs.Ytmebdbagcbgddaa.Am
/-
  What the functions on versions, chains and stores compute.
-/
namespace Go.Proofs.Ytmebdbagcbgddaa.Am
open Go
variable {E : Env}
set_option linter.unusedVariables false

theorem ite_pp (p : Prop) [Decidable p] (a b : Bool) : (if p then some (U.bool a) else some (U.bool b)) = some (U.bool (if p then a else b)) := by split <;> rfl

def Version.valid (v : Version) : Bool :=
  inR v.value (-1) 99 && (inR v.created 0 999 && (inR v.reader v.created 999 && (inR v.successor 1 1000 && (if v.created = 0 then decide (v.writer = 0) && decide (v.value = -1) else inR v.writer 1 9))))

theorem spec_IsValidVersion_is (h : G_spec_IsValidVersion E) (v : Version) : E 105 [v.u] = some (.bool v.valid) := by
  rw [spec_IsValidVersion_E h]
  simp [spec_l1In_is h.c_spec_l1In, ite_f, ite_p, ite_pp, Version.valid]

theorem impl_IsValidVersion_is (h : G_impl_IsValidVersion E) (v : Version) : E 117 [v.u] = some (.bool v.valid) := by
  rw [impl_IsValidVersion_E h]
  simp [impl_in_is h.c_impl_in, impl_isID_is h.c_impl_isID, impl_isValue_is h.c_impl_isValue, ite_f, ite_p, ite_pp, Version.valid]

/-- May w come behind v? -/
def behind (v w : Version) : Bool := decide (v.created < w.created) && decide (v.successor ≤ w.created)
def chainRest : List Version → Bool
  | [] => true
  | [v] => v.valid
  | v :: w :: r => v.valid && (behind v w && chainRest (w :: r))
def chainLast (l : List Version) : Bool := match l.getLast? with
  | none => false
  | some v => decide (v.successor = 1000)
def validChain (l : List Version) : Bool := chainRest l && chainLast l

theorem spec_IsValidChain_l0_is (h : G_spec_IsValidChain E) (l : List Version) (hl : l.length ≤ 1048576) : ∀ (r p : List Version) (i : Int), l = p ++ r → i = p.length →
    spec_IsValidChain_l0 E (.sl 5 (l.map Version.u)) (.int .i64 i) = some (.bool (chainRest r && chainLast l))
  | [], p, i, e, hi => by
    rw [spec_IsValidChain_l0_eq]
    have hend := mid_end e hi
    by_cases hp : l = []
    · subst hp
      have hneg : ¬ i < 0 := by omega
      simp [hneg, chainRest, chainLast]
    · obtain ⟨q, j, hq, hpos, hw1, h1, hq1, _⟩ := mid_last (l := l) (p := l) (r := []) (i := l.length) (by simp) rfl (by omega) hp
      have hpos' : 0 < l.length := by omega
      simp [hend, chainRest, chainLast, hq, hw1, hq1, hpos']
  | x :: r, p, i, e, hi => by
    obtain ⟨h0, hlt, hx, hw, hn, _⟩ := mid_at e hi (by omega)
    have ih := spec_IsValidChain_l0_is h l hl r (p ++ [x]) (i + 1) (mid_next e) hn
    rw [spec_IsValidChain_l0_eq]
    cases r with
    | nil =>
      have hend := mid_end (mid_next e) hn
      simp [hlt, hx, hw, hend, ih, spec_IsValidVersion_is h.c_spec_IsValidVersion, ite_f, chainRest]
    | cons y r =>
      obtain ⟨_, hlt2, hy, _, _, _⟩ := mid_at (mid_next e) hn (by omega)
      have hc : (!decide (y.created ≤ x.created)) = decide (x.created < y.created) := by rw [← decide_not]; congr 1; simp only [eq_iff_iff]; omega
      have hc2 : (!decide (y.created < x.successor)) = decide (x.successor ≤ y.created) := by rw [← decide_not]; congr 1; simp only [eq_iff_iff]; omega
      simp [hlt, hx, hw, hlt2, hy, ih, spec_IsValidVersion_is h.c_spec_IsValidVersion, ite_f, ite_n, hc, hc2, chainRest, behind, Bool.and_assoc]

theorem spec_IsValidChain_is (h : G_spec_IsValidChain E) (l : List Version) (hl : chainOk l) : E 104 [chainU l] = some (.bool (validChain l)) := by
  rw [spec_IsValidChain_E h]
  exact spec_IsValidChain_l0_is h l hl l [] 0 rfl rfl

/-- The same from behind. -/
def chainFrom : Option Version → List Version → Bool
  | _, [] => true
  | none, v :: r => v.valid && chainFrom (some v) r
  | some q, v :: r => v.valid && (behind q v && chainFrom (some v) r)

theorem chainFrom_some : ∀ (r : List Version) (q : Version), (q.valid && chainFrom (some q) r) = chainRest (q :: r)
  | [], q => by simp [chainFrom, chainRest]
  | v :: r, q => by
    have := chainFrom_some r v
    simp only [chainFrom, chainRest]
    rw [← this]
    ac_rfl
theorem chainFrom_none (l : List Version) : chainFrom none l = chainRest l := by
  cases l with
  | nil => rfl
  | cons v r => simp only [chainFrom]; exact chainFrom_some r v

theorem impl_IsValidChain_l0_is (h : G_impl_IsValidChain E) (l : List Version) (hl : l.length ≤ 1048576) : ∀ (r p : List Version) (i : Int), l = p ++ r → i = p.length →
    impl_IsValidChain_l0 E (.sl 5 (l.map Version.u)) (.sl 5 (l.map Version.u)) (.int .i64 l.length) (.int .i64 i) = some (.bool (chainFrom p.getLast? r && chainLast l))
  | [], p, i, e, hi => by
    rw [impl_IsValidChain_l0_eq]
    have hend := mid_end e hi
    by_cases hp : l = []
    · subst hp
      have hneg : ¬ i < 0 := by omega
      simp [hneg, chainFrom, chainLast]
    · obtain ⟨q, j, hq, hpos, hw1, h1, hq1, _⟩ := mid_last (l := l) (p := l) (r := []) (i := l.length) (by simp) rfl (by omega) hp
      have hpos' : 0 < l.length := by omega
      simp [hend, chainFrom, chainLast, hq, hw1, hq1, hpos']
  | x :: r, p, i, e, hi => by
    obtain ⟨h0, hlt, hx, hw, hn, _⟩ := mid_at e hi (by omega)
    have ih := impl_IsValidChain_l0_is h l hl r (p ++ [x]) (i + 1) (mid_next e) hn
    rw [List.getLast?_concat] at ih
    rw [impl_IsValidChain_l0_eq]
    by_cases hp : p = []
    · have hi0 : ¬ 0 < i := by subst hp; simp at hi; omega
      simp [h0, hlt, hx, hw, ih, impl_IsValidVersion_is h.c_impl_IsValidVersion, hi0, hp, ite_f, chainFrom, Bool.and_assoc]
    · obtain ⟨q, j, hq, hpos, hw1, h1, hq1, _⟩ := mid_last e hi (by omega) hp
      have hc : (!decide (x.created ≤ q.created)) = decide (q.created < x.created) := by rw [← decide_not]; congr 1; simp only [eq_iff_iff]; omega
      have hc2 : (!decide (x.created < q.successor)) = decide (q.successor ≤ x.created) := by rw [← decide_not]; congr 1; simp only [eq_iff_iff]; omega
      simp [h0, hlt, hx, hw, ih, impl_IsValidVersion_is h.c_impl_IsValidVersion, hpos, hq, hw1, hq1, ite_f, ite_n, chainFrom, hc, hc2, behind, Bool.and_assoc]

theorem impl_IsValidChain_is (h : G_impl_IsValidChain E) (l : List Version) (hl : chainOk l) : E 116 [chainU l] = some (.bool (validChain l)) := by
  rw [impl_IsValidChain_E h]
  have h1 := impl_IsValidChain_l0_is h l hl l [] 0 rfl rfl
  simp only [List.getLast?_nil, chainFrom_none] at h1
  simp only [lenOf_chainU, Option.bind_some]
  exact h1

def okChain (l : List Version) : Bool := validChain l && decide (l.length ≤ 50)
def Store.valid (s : Store) : Bool := s.chains.all okChain && decide (s.chains.length = 6)

theorem validChain_ne {l : List Version} (h : validChain l = true) : l ≠ [] := by
  rintro rfl
  simp [validChain, chainLast] at h

theorem spec_IsValidStore_l0_is (h : G_spec_IsValidStore E) (s : Store) (ho : s.ok) : ∀ (r p : List (List Version)) (i : Int), s.chains = p ++ r → i = p.length →
    spec_IsValidStore_l0 E (.int .i64 i) s.u = some (.bool (r.all okChain && decide (s.chains.length = 6)))
  | [], p, i, e, hi => by
    rw [spec_IsValidStore_l0_eq]
    have h1 : decide ((s.chains.length : Int) = 6) = decide (s.chains.length = 6) := by congr 1; simp only [eq_iff_iff]; omega
    simp [mid_end e hi, h1]
  | x :: r, p, i, e, hi => by
    obtain ⟨h0, hlt, hx, hw, hn, _⟩ := mid_at e hi (by have := ho.1; omega)
    have hox : chainOk x := ho.2 x (by rw [e]; simp)
    have ih := spec_IsValidStore_l0_is h s ho r (p ++ [x]) (i + 1) (mid_next e) hn
    rw [spec_IsValidStore_l0_eq]
    cases hv : validChain x with
    | false => simp [hlt, hx, spec_IsValidChain_is h.c_spec_IsValidChain x hox, hv, okChain]
    | true =>
      obtain ⟨v, x', rfl⟩ : ∃ v x', x = v :: x' := by
        cases x with
        | nil => exact absurd rfl (validChain_ne hv)
        | cons v x' => exact ⟨v, x', rfl⟩
      have hfst : ∀ {γ : Type} (K : U → Option γ), U.elemAt 5 (.sl 5 ((v :: x').map Version.u)) 0 K = K v.u := fun K => by
        rw [elemAt_sl]; rfl
      have hlen : decide ((50 : Int) < ((v :: x').length : Int)) = !decide ((v :: x').length ≤ 50) := by
        rw [← decide_not]; congr 1; simp only [eq_iff_iff]; omega
      by_cases hc : 0 < v.created
      · cases h50 : decide ((v :: x').length ≤ 50) <;>
          simp only [Store.u_agg, sizes_nil, List.take_zero, if_true, List.getElem?_cons_zero, Option.bind_some, asVar_sl, lenOf_sl, List.length_map, bin_lss, hlt, decide_true, asBool_bool, asInt_int, hx, asVar_chainU, spec_IsValidChain_is h.c_spec_IsValidChain _ hox, hv, un_not, Bool.not_true, Bool.false_eq_true, if_false, elemAt_chainU, hfst, Version.u_at2, asVar_int, bin_gtr, hc, lenOf_chainU, hlen, h50, Bool.not_false, bin_add, hw, ih, okChain, List.all_cons, Bool.and_false, Bool.false_and, Bool.true_and, Bool.and_true]
      · cases h50 : decide ((v :: x').length ≤ 50) <;>
          simp only [Store.u_agg, sizes_nil, List.take_zero, if_true, List.getElem?_cons_zero, Option.bind_some, asVar_sl, lenOf_sl, List.length_map, bin_lss, hlt, decide_true, decide_false, asBool_bool, asInt_int, hx, asVar_chainU, spec_IsValidChain_is h.c_spec_IsValidChain _ hox, hv, un_not, Bool.not_true, Bool.false_eq_true, if_false, elemAt_chainU, hfst, Version.u_at2, asVar_int, bin_gtr, hc, lenOf_chainU, hlen, h50, Bool.not_false, bin_add, hw, ih, okChain, List.all_cons, Bool.and_false, Bool.false_and, Bool.true_and, Bool.and_true]

theorem spec_IsValidStore_is (h : G_spec_IsValidStore E) (s : Store) (ho : s.ok) : E 103 [s.u] = some (.bool s.valid) := by
  rw [spec_IsValidStore_E h]
  simp [spec_IsValidStore_l0_is h s ho s.chains [] 0 rfl rfl, Store.valid]

theorem impl_IsValidStore_1_is (h : G_impl_IsValidStore_1 E) (l : List Version) (hl : chainOk l) : E 113 [chainU l] = some (.bool (!okChain l)) := by
  rw [impl_IsValidStore_1_E h]
  have hlen : decide ((50 : Int) < (l.length : Int)) = !decide (l.length ≤ 50) := by
    rw [← decide_not]; congr 1; simp only [eq_iff_iff]; omega
  cases hv : validChain l <;> simp [impl_IsValidChain_is h.c_impl_IsValidChain l hl, hv, okChain]
  omega

theorem impl_IsValidStore_is (h : G_impl_IsValidStore E) (s : Store) (ho : s.ok) : E 112 [s.u] = some (.bool s.valid) := by
  rw [impl_IsValidStore_E h]
  have h1 : decide ((s.chains.length : Int) = 6) = decide (s.chains.length = 6) := by congr 1; simp only [eq_iff_iff]; omega
  have h2 := slices_ContainsFunc_g114_is h.c_slices_ContainsFunc_g114 s.chains (by have := ho.1; omega) 113 [] (fun l => !okChain l) (fun c hc => impl_IsValidStore_1_is h.c_impl_IsValidStore_1 c (ho.2 c hc))
  have h3 : (!s.chains.any fun l => !okChain l) = s.chains.all okChain := by
    rw [List.not_any_eq_all_not]; simp
  simp only [Store.u_noTup, Store.u_agg, sizes_nil, List.take_zero, if_true, List.getElem?_cons_zero, Option.bind_some, asVar_sl, lenOf_sl, List.length_map, bin_eql, h1, asBool_bool, h2, un_not, h3, ite_t, Store.valid, Bool.and_comm]

theorem chainRest_valid : ∀ {l : List Version}, chainRest l = true → ∀ v ∈ l, v.valid = true
  | [], _, v, hv => by simp at hv
  | [x], h, v, hv => by
    simp only [List.mem_singleton] at hv
    subst hv
    exact h
  | x :: y :: r, h, v, hv => by
    simp only [chainRest, Bool.and_eq_true] at h
    rcases List.mem_cons.1 hv with rfl | hv
    · exact h.1
    · exact chainRest_valid h.2.2 v hv

theorem Version.valid_le {v : Version} (h : v.valid = true) : v.created ≤ v.reader ∧ 0 ≤ v.created ∧ v.reader ≤ 999 ∧ 1 ≤ v.successor ∧ v.successor ≤ 1000 := by
  simp only [Version.valid, inR, Bool.and_eq_true, decide_eq_true_eq] at h
  omega

theorem Store.valid_mem {s : Store} (h : s.valid = true) {c : List Version} (hc : c ∈ s.chains) : validChain c = true ∧ c.length ≤ 50 ∧ ∀ v ∈ c, v.valid = true := by
  simp only [Store.valid, Bool.and_eq_true, List.all_eq_true] at h
  have := h.1 c hc
  simp only [okChain, Bool.and_eq_true, decide_eq_true_eq] at this
  refine ⟨this.1, this.2, ?_⟩
  have h2 := this.1
  simp only [validChain, Bool.and_eq_true] at h2
  exact chainRest_valid h2.1

end Go.Proofs.Ytmebdbagcbgddaa.Am
/-
  The chain of a key.
-/
namespace Go.Proofs.Ytmebdbagcbgddaa.Am
open Go
variable {E : Env}

/-- The chain of a key. -/
def Store.chain (s : Store) (k : Int) : List Version := s.chains.getD k.toNat []

theorem chain_get {s : Store} (hv : s.valid = true) {k : Int} (h0 : 0 ≤ k) (h1 : k ≤ 5) : s.chains[k.toNat]? = some (s.chain k) ∧ s.chain k ∈ s.chains := by
  simp only [Store.valid, Bool.and_eq_true, decide_eq_true_eq] at hv
  have hlt : k.toNat < s.chains.length := by omega
  have e : s.chain k = s.chains[k.toNat] := by unfold Store.chain; simp [List.getElem?_eq_getElem hlt]
  rw [e]
  exact ⟨List.getElem?_eq_getElem hlt, List.getElem_mem hlt⟩

theorem chain_elem {s : Store} (hv : s.valid = true) {k : Int} (h0 : 0 ≤ k) (h1 : k ≤ 5) {γ : Type} (K : U → Option γ) : U.elemAt 1 (.sl 1 (s.chains.map chainU)) k K = K (chainU (s.chain k)) :=
  elemAt_get chainU h0 (chain_get hv h0 h1).1 K

end Go.Proofs.Ytmebdbagcbgddaa.Am
/-
  What a read at a stamp finds: VersionAt, ReadAt.
-/
namespace Go.Proofs.Ytmebdbagcbgddaa.Am
open Go
variable {E : Env}
set_option linter.unusedVariables false

/-- The last place of a version that was created by t; c: none so far. -/
def lastAt (t : Int) : List Version → Int → Int → Int
  | [], _, c => c
  | v :: r, i, c => lastAt t r (i + 1) (if v.created ≤ t then i else c)

theorem lastAt_snoc (t : Int) (x : Version) : ∀ (p : List Version) (i c : Int), lastAt t (p ++ [x]) i c = if x.created ≤ t then i + p.length else lastAt t p i c
  | [], i, c => by simp [lastAt]
  | v :: p, i, c => by
    simp only [List.cons_append, lastAt]
    rw [lastAt_snoc t x p]
    simp only [List.length_cons]
    split <;> omega

theorem lastAt_cases (t : Int) : ∀ (l p : List Version) (c : Int), (c = -1 ∨ ∃ v, p[c.toNat]? = some v ∧ 0 ≤ c) → (lastAt t l p.length c = -1 ∨ ∃ v, (p ++ l)[(lastAt t l p.length c).toNat]? = some v ∧ 0 ≤ lastAt t l p.length c)
  | [], p, c, h => by simpa [lastAt] using h
  | v :: r, p, c, h => by
    have := lastAt_cases t r (p ++ [v]) (if v.created ≤ t then p.length else c) (by
      split
      · right; exact ⟨v, by simp, by omega⟩
      · rcases h with h | ⟨w, h1, h2⟩
        · exact .inl h
        · right
          refine ⟨w, ?_, h2⟩
          rw [List.getElem?_append_left (List.getElem?_eq_some_iff.1 h1).1]
          exact h1)
    simp only [List.length_append, List.length_cons, List.length_nil, Nat.zero_add, List.append_assoc, List.cons_append, List.nil_append] at this
    simp only [lastAt]
    have e : ((p.length + 1 : Nat) : Int) = (p.length : Int) + 1 := by omega
    rw [e] at this
    exact this

theorem spec_VersionAt_l0_is (h : G_spec_VersionAt E) (l : List Version) (hl : chainOk l) (hv : validChain l = true) (t : Int) : ∀ (r p : List Version) (i c : Int), l = p ++ r → i = p.length →
    spec_VersionAt_l0 E (chainU l) (.int .i64 t) (.int .i64 c) (.int .i64 i) = some (.int .i64 (lastAt t r i c))
  | [], p, i, c, e, hi => by
    rw [spec_VersionAt_l0_eq]
    simp [chainU, mid_end e hi, lastAt]
  | x :: r, p, i, c, e, hi => by
    obtain ⟨h0, hlt, hx, hw, hn, _⟩ := mid_at e hi (by unfold chainOk at hl; omega)
    have ih := fun c => spec_VersionAt_l0_is h l hl hv t r (p ++ [x]) (i + 1) c (mid_next e) hn
    have hvc := spec_IsValidChain_is h.c_spec_IsValidChain l hl
    rw [hv] at hvc
    unfold chainU at ih hvc ⊢
    rw [spec_VersionAt_l0_eq]
    by_cases h1 : x.created ≤ t <;> simp [hlt, hx, hw, ih, h1, lastAt, hvc]

theorem spec_VersionAt_is (h : G_spec_VersionAt E) (l : List Version) (hl : chainOk l) (hv : validChain l = true) (t : Int) : E 106 [chainU l, .int .i64 t] = some (.int .i64 (lastAt t l 0 (-1))) := by
  rw [spec_VersionAt_E h]
  exact spec_VersionAt_l0_is h l hl hv t l [] 0 (-1) rfl rfl

theorem impl_versionAt_l0_is (l : List Version) (hl : chainOk l) (t : Int) : ∀ (n : Nat) (p r : List Version), p.length = n → l = p ++ r →
    impl_versionAt_l0 E (chainU l) (.int .i64 t) (.int .i64 (n - 1)) = some (.int .i64 (lastAt t p 0 (-1)))
  | 0, p, r, hn, e => by
    obtain rfl : p = [] := List.length_eq_zero_iff.1 hn
    rw [impl_versionAt_l0_eq]
    simp [lastAt]
  | n + 1, p, r, hn, e => by
    have hne : p ≠ [] := by rintro rfl; cases hn
    obtain ⟨q, x, rfl⟩ : ∃ q x, p = q ++ [x] := ⟨p.dropLast, p.getLast hne, (List.dropLast_concat_getLast hne).symm⟩
    have hq : q.length = n := by simpa using hn
    have ih := impl_versionAt_l0_is l hl t n q (x :: r) hq (by rw [e]; simp)
    have e2 : l = q ++ x :: r := by rw [e]; simp
    obtain ⟨h0, hlt, hx, hw, _, _⟩ := mid_at (i := (n : Int)) e2 (by omega) (by unfold chainOk at hl; omega)
    have hnl : n ≤ 1048576 := by unfold chainOk at hl; rw [e2] at hl; simp at hl; omega
    have hw2 : IntKind.i64.wrap ((n : Int) - 1) = n - 1 := wrap_in (by omega)
    have e3 : ((n + 1 : Nat) : Int) - 1 = n := by omega
    rw [lastAt_snoc, e3]
    unfold chainU at ih ⊢
    rw [impl_versionAt_l0_eq]
    by_cases h1 : t < x.created
    · have h2 : ¬ x.created ≤ t := by omega
      simp [hx, h1, h2, hw2, ih]
    · have h2 : x.created ≤ t := by omega
      simp [hx, h1, h2, hq]

theorem impl_versionAt_is (h : G_impl_versionAt E) (l : List Version) (hl : chainOk l) (t : Int) : E 111 [chainU l, .int .i64 t] = some (.int .i64 (lastAt t l 0 (-1))) := by
  rw [impl_versionAt_E h]
  have := impl_versionAt_l0_is (E := E) l hl t l.length l [] rfl (by simp)
  have hw : IntKind.i64.wrap ((l.length : Int) - 1) = l.length - 1 := wrap_in (by unfold chainOk at hl; omega)
  unfold chainU at this ⊢
  simp [hw, this]

/-! ### Reads -/
def readAt (s : Store) (k t : Int) : Option Version := if s.valid && inR k 0 5 then (if lastAt t (s.chain k) 0 (-1) < 0 then none else (s.chain k)[(lastAt t (s.chain k) 0 (-1)).toNat]?) else none

def readU : Option Version → U
  | none => .tup [(⟨0, 0, 0, 0, 0⟩ : Version).u, .bool false]
  | some v => .tup [v.u, .bool true]

theorem lastAt_get (t : Int) (l : List Version) : (lastAt t l 0 (-1) < 0) ∨ ∃ v, l[(lastAt t l 0 (-1)).toNat]? = some v ∧ 0 ≤ lastAt t l 0 (-1) := by
  rcases lastAt_cases t l [] (-1) (.inl rfl) with h | h
  · left
    simp only [List.length_nil, Int.natCast_zero] at h
    omega
  · right
    simpa using h

theorem spec_ReadAt_is (h : G_spec_ReadAt E) (s : Store) (ho : s.ok) (k t : Int) : E 102 [s.u, .int .i64 k, .int .i64 t] = some (readU (readAt s k t)) := by
  rw [spec_ReadAt_E h]
  have g1 := spec_IsValidStore_is h.c_spec_IsValidStore s ho
  cases hv : s.valid with
  | false => simp [g1, hv, readAt, readU, Version.u]
  | true =>
    cases hr : inR k 0 5 with
    | false => simp [g1, hv, spec_l1In_is h.c_spec_l1In, hr, readAt, readU, Version.u]
    | true =>
      have hr2 : 0 ≤ k ∧ k ≤ 5 := by simpa [inR] using hr
      obtain ⟨hm, hmem⟩ := chain_get hv hr2.1 hr2.2
      have hc : chainOk (s.chain k) := ho.2 _ hmem
      have hch := fun {γ : Type} (K : U → Option γ) => chain_elem hv hr2.1 hr2.2 K
      have hva := spec_VersionAt_is h.c_spec_VersionAt (s.chain k) hc (Store.valid_mem hv hmem).1 t
      rcases lastAt_get t (s.chain k) with hneg | ⟨v, hg, hpos⟩
      · simp [g1, hv, spec_l1In_is h.c_spec_l1In, hr, hch, hva, hneg, readAt, readU, Version.u]
      · have hneg : ¬ lastAt t (s.chain k) 0 (-1) < 0 := by omega
        have hy : ∀ {γ : Type} (K : U → Option γ), U.elemAt 5 (chainU (s.chain k)) (lastAt t (s.chain k) 0 (-1)) K = K v.u := fun K => elemAt_get Version.u hpos hg K
        have hy2 : ∀ {γ : Type} (K : U → Option γ), U.elemAt 5 (.sl 5 ((s.chain k).map Version.u)) (lastAt t (s.chain k) 0 (-1)) K = K v.u := fun K => hy K
        simp [g1, hv, spec_l1In_is h.c_spec_l1In, hr, hch, hva, hneg, hy, hy2, readAt, readU, hg]

theorem impl_ReadAt_is (h : G_impl_ReadAt E) (s : Store) (ho : s.ok) (k t : Int) : E 110 [s.u, .int .i64 k, .int .i64 t] = some (readU (readAt s k t)) := by
  rw [impl_ReadAt_E h]
  have g1 := impl_IsValidStore_is h.c_impl_IsValidStore s ho
  cases hv : s.valid with
  | false => simp [g1, hv, readAt, readU, Version.u]
  | true =>
    cases hr : inR k 0 5 with
    | false => simp [g1, hv, impl_isKey_is h.c_impl_isKey, hr, readAt, readU, Version.u]
    | true =>
      have hr2 : 0 ≤ k ∧ k ≤ 5 := by simpa [inR] using hr
      obtain ⟨hm, hmem⟩ := chain_get hv hr2.1 hr2.2
      have hc : chainOk (s.chain k) := ho.2 _ hmem
      have hch := fun {γ : Type} (K : U → Option γ) => chain_elem hv hr2.1 hr2.2 K
      have hva := impl_versionAt_is h.c_impl_versionAt (s.chain k) hc t
      rcases lastAt_get t (s.chain k) with hneg | ⟨v, hg, hpos⟩
      · simp [g1, hv, impl_isKey_is h.c_impl_isKey, hr, hch, hva, hneg, readAt, readU, Version.u]
      · have hneg : ¬ lastAt t (s.chain k) 0 (-1) < 0 := by omega
        have hy : ∀ {γ : Type} (K : U → Option γ), U.elemAt 5 (chainU (s.chain k)) (lastAt t (s.chain k) 0 (-1)) K = K v.u := fun K => elemAt_get Version.u hpos hg K
        have hy2 : ∀ {γ : Type} (K : U → Option γ), U.elemAt 5 (.sl 5 ((s.chain k).map Version.u)) (lastAt t (s.chain k) 0 (-1)) K = K v.u := fun K => hy K
        simp [g1, hv, impl_isKey_is h.c_impl_isKey, hr, hch, hva, hneg, hy, hy2, readAt, readU, hg]
end Go.Proofs.Ytmebdbagcbgddaa.Am
/-
  Lists of flat data are flat.
-/
namespace Go.Proofs.Ytmebdbagcbgddaa.Am
open Go

theorem flats_map {α : Type} (f : α → U) (h : ∀ x, (f x).flat = true) : ∀ l : List α, U.flat.flats (l.map f) = true
  | [] => rfl
  | x :: l => by
    simp only [List.map_cons, U.flat.flats, h x, flats_map f h l, Bool.and_self]
@[simp] theorem flats_edges (l : List Edge) : U.flat.flats (l.map Edge.u) = true := flats_map _ (fun _ => rfl) l
@[simp] theorem flats_ints (l : List Int) : U.flat.flats (l.map intU) = true := flats_map _ (fun _ => rfl) l
end Go.Proofs.Ytmebdbagcbgddaa.Am
/-
  MarksAt: what each side answers.
-/
namespace Go.Proofs.Ytmebdbagcbgddaa.Am
open Go
variable {E : Env}
set_option linter.unusedVariables false

/-- The marks of n keys from k on; none: a read failed. -/
def marksFrom (s : Store) (t : Int) : Nat → Int → List ReadMark → Option (List ReadMark)
  | 0, _, c => some c
  | n + 1, k, c => match readAt s k t with
    | none => none
    | some v => marksFrom s t n (k + 1) (c ++ [⟨k, v.created⟩])

def marksU (z : U) : Option (List ReadMark) → U
  | none => z
  | some l => .sl 2 (l.map ReadMark.u)

theorem flats_RM (l : List ReadMark) : U.flat.flats (l.map ReadMark.u) = true := flats_map _ (fun _ => rfl) l

theorem impl_MarksAt_l0_is (h : G_impl_MarksAt E) (s : Store) (ho : s.ok) (t : Int) : ∀ (n : Nat) (k : Int) (c : List ReadMark), k + n = 6 → c.length + n ≤ 6 → 0 ≤ k →
    impl_MarksAt_l0 E (.int .i64 t) (.int .i64 k) (c.map ReadMark.u) s.u = some (marksU (.nsl 2) (marksFrom s t n k c))
  | 0, k, c, e, hc, h0 => by
    have h1 : ¬ k < 6 := by omega
    rw [impl_MarksAt_l0_eq]
    simp [h1, marksFrom, marksU]
  | n + 1, k, c, e, hc, h0 => by
    have h1 : k < 6 := by omega
    have hw : IntKind.i64.wrap (k + 1) = k + 1 := wrap_in (by omega)
    have g := impl_ReadAt_is h.c_impl_ReadAt s ho k t
    rw [impl_MarksAt_l0_eq]
    cases hr : readAt s k t with
    | none =>
      rw [hr] at g
      simp [h1, g, readU, U.part, Version.u, storable, U.size, marksFrom, hr, marksU]
    | some v =>
      rw [hr] at g
      have ih := impl_MarksAt_l0_is h s ho t n (k + 1) (c ++ [⟨k, v.created⟩]) (by omega) (by simp; omega) (by omega)
      have hlen : (c.length + 1) * 16 ≤ 140737488355328 := by omega
      simp only [List.map_append, List.map_cons, List.map_nil, ReadMark.u] at ih
      simp [h1, g, readU, U.part, Version.u, storable, partable, U.size, marksFrom, hr, hw, hlen, ih, ReadMark.u]

theorem impl_MarksAt_is (h : G_impl_MarksAt E) (s : Store) (ho : s.ok) (t : Int) : E 94 [s.u, .int .i64 t] = some (marksU (.nsl 2) (marksFrom s t 6 0 [])) := by
  rw [impl_MarksAt_E h]
  have := impl_MarksAt_l0_is h s ho t 6 0 [] (by decide) (by decide) (by decide)
  simpa using this
theorem impl_MarksAt_F_l0_is (h : G_impl_MarksAt_F E) (s : Store) (ho : s.ok) (t : Int) : ∀ (n : Nat) (k : Int) (c : List ReadMark), k + n = 6 → c.length + n ≤ 6 → 0 ≤ k →
    impl_MarksAt_F_l0 E (.int .i64 t) (.int .i64 k) (c.map ReadMark.u) s.u = some (marksU (.sl 2 []) (marksFrom s t n k c))
  | 0, k, c, e, hc, h0 => by
    have h1 : ¬ k < 6 := by omega
    rw [impl_MarksAt_F_l0_eq]
    simp [h1, marksFrom, marksU, flats_RM]
  | n + 1, k, c, e, hc, h0 => by
    have h1 : k < 6 := by omega
    have hw : IntKind.i64.wrap (k + 1) = k + 1 := wrap_in (by omega)
    have g := impl_ReadAt_is h.c_impl_ReadAt s ho k t
    rw [impl_MarksAt_F_l0_eq]
    cases hr : readAt s k t with
    | none =>
      rw [hr] at g
      simp [h1, g, readU, U.part, Version.u, storable, U.size, marksFrom, hr, marksU]
    | some v =>
      rw [hr] at g
      have ih := impl_MarksAt_F_l0_is h s ho t n (k + 1) (c ++ [⟨k, v.created⟩]) (by omega) (by simp; omega) (by omega)
      have hlen : (c.length + 1) * 16 ≤ 140737488355328 := by omega
      simp only [List.map_append, List.map_cons, List.map_nil, ReadMark.u] at ih
      simp [h1, g, readU, U.part, Version.u, storable, partable, U.size, marksFrom, hr, hw, hlen, ih, ReadMark.u]

theorem impl_MarksAt_F_is (h : G_impl_MarksAt_F E) (s : Store) (ho : s.ok) (t : Int) : E 100094 [s.u, .int .i64 t] = some (marksU (.sl 2 []) (marksFrom s t 6 0 [])) := by
  rw [impl_MarksAt_F_E h]
  have := impl_MarksAt_F_l0_is h s ho t 6 0 [] (by decide) (by decide) (by decide)
  simpa using this
theorem spec_MarksAt_l0_is (h : G_spec_MarksAt E) (s : Store) (ho : s.ok) (hv : s.valid = true) (t : Int) : ∀ (n : Nat) (k : Int) (c : List ReadMark), k + n = 6 → c.length + n ≤ 6 → 0 ≤ k →
    spec_MarksAt_l0 E (.int .i64 t) (.int .i64 k) (c.map ReadMark.u) s.u = some (marksU (.sl 2 []) (marksFrom s t n k c))
  | 0, k, c, e, hc, h0 => by
    have h1 : ¬ k < 6 := by omega
    rw [spec_MarksAt_l0_eq]
    simp [h1, marksFrom, marksU]
  | n + 1, k, c, e, hc, h0 => by
    have h1 : k < 6 := by omega
    have hw : IntKind.i64.wrap (k + 1) = k + 1 := wrap_in (by omega)
    have g1 := spec_IsValidStore_is h.c_spec_IsValidStore s ho
    have g := spec_ReadAt_is h.c_spec_ReadAt s ho k t
    rw [spec_MarksAt_l0_eq]
    cases hr : readAt s k t with
    | none =>
      rw [hr] at g
      simp [h1, g1, hv, g, readU, U.part, Version.u, storable, U.size, marksFrom, hr, marksU]
    | some v =>
      rw [hr] at g
      have ih := spec_MarksAt_l0_is h s ho hv t n (k + 1) (c ++ [⟨k, v.created⟩]) (by omega) (by simp; omega) (by omega)
      have hlen : (c.length + 1) * 16 ≤ 140737488355328 := by omega
      simp only [List.map_append, List.map_cons, List.map_nil, ReadMark.u] at ih
      simp [h1, g1, hv, g, readU, U.part, Version.u, storable, partable, U.size, marksFrom, hr, hw, hlen, ih, ReadMark.u]

theorem spec_MarksAt_is (h : G_spec_MarksAt E) (s : Store) (ho : s.ok) (t : Int) : E 98 [s.u, .int .i64 t] = some (marksU (.sl 2 []) (marksFrom s t 6 0 [])) := by
  rw [spec_MarksAt_E h]
  cases hv : s.valid with
  | true =>
    have := spec_MarksAt_l0_is h s ho hv t 6 0 [] (by decide) (by decide) (by decide)
    simpa using this
  | false =>
    have g1 := spec_IsValidStore_is h.c_spec_IsValidStore s ho
    have e : readAt s 0 t = none := by simp [readAt, hv]
    have g2 : marksFrom s t 6 0 [] = none := by simp [marksFrom, e]
    simp only [Store.u_noTup]
    rw [spec_MarksAt_l0_eq, g2]
    simp [g1, hv, marksU]

end Go.Proofs.Ytmebdbagcbgddaa.Am
/-
  What the laws' own helpers compute.
-/
namespace Go.Proofs.Ytmebdbagcbgddaa.Am
open Go
variable {E : Env}
set_option linter.unusedVariables false

theorem laws_toReadMark_is (h : G_laws_toReadMark E) (x : ReadMark) : E 29 [x.u] = some x.u := by
  rw [laws_toReadMark_E h]
  simp [ReadMark.u]

theorem laws_toReadMarkS_l0_is (h : G_laws_toReadMarkS E) (l : List ReadMark) (hl : l.length ≤ 1048576) : ∀ (r p : List ReadMark) (i : Int) (c : List U), l = p ++ r → i = p.length → c.length = r.length → (∀ z ∈ c, z.size = 2) →
    laws_toReadMarkS_l0 E (.sl 2 (l.map ReadMark.u)) (.int .i64 i) (p.map ReadMark.u ++ c) = some (.sl 2 (l.map ReadMark.u))
  | [], p, i, c, e, hi, hc, _ => by
    obtain rfl : c = [] := List.length_eq_zero_iff.1 hc
    rw [laws_toReadMarkS_l0_eq]
    simp [mid_end e hi]
    simp [e]
  | x :: r, p, i, [], e, hi, hc, _ => by cases hc
  | x :: r, p, i, z :: c, e, hi, hc, hz => by
    obtain ⟨h0, hlt, hx, hw, hn, _⟩ := mid_at e hi (by omega)
    have hzs : z.size = 2 := hz z (by simp)
    obtain ⟨hg, hs, hlen⟩ := mid_set ReadMark.u p z c hi
    have ih := laws_toReadMarkS_l0_is h l hl r (p ++ [x]) (i + 1) c (mid_next e) hn (by simpa using hc) (fun y hy => hz y (by simp [hy]))
    simp only [List.map_append, List.map_cons, List.map_nil, List.append_assoc, List.cons_append, List.nil_append] at ih
    rw [laws_toReadMarkS_l0_eq]
    simp only [hg, hs, hx, hw, asInt_int, bin_lss, lenOf_sl, List.length_map, Option.bind_some, asBool_bool, hlt, decide_true, if_true, h0, hlen, and_self, bin_add, laws_toReadMark_is h.c_laws_toReadMark x, hzs, ReadMark.u_var, ReadMark.u_size, ReadMark.u_storable, ReadMark.u_partable]
    simpa using ih
theorem laws_toReadMarkS_is (h : G_laws_toReadMarkS E) (l : List ReadMark) (hl : l.length ≤ 1048576) : E 28 [.sl 2 (l.map ReadMark.u)] = some (.sl 2 (l.map ReadMark.u)) := by
  have h1 := laws_toReadMarkS_l0_is h l hl l [] 0 (List.replicate l.length (.agg [.int .i64 0, .int .i64 0])) rfl rfl (by simp) (by simp)
  rw [laws_toReadMarkS_E h]
  simp only [lenOf_sl, Option.bind_some, List.length_map]
  rw [if_pos (by refine ⟨by omega, by omega, by omega, rfl⟩)]
  simpa using h1

theorem laws_eqReadMark_is (h : G_laws_eqReadMark E) (x y : ReadMark) : E 35 [x.u, y.u] = some (.bool (decide (x = y))) := by
  rw [laws_eqReadMark_E h]
  obtain ⟨a0, a1⟩ := x
  obtain ⟨b0, b1⟩ := y
  simp only [ReadMark.mk.injEq]
  by_cases h0 : a0 = b0
  case neg => simp [h0]
  subst h0
  by_cases h1 : a1 = b1
  case neg => simp [h1]
  subst h1
  simp []

theorem laws_eqReadMarkS_l0_is (h : G_laws_eqReadMarkS E) (a b : List ReadMark) (ha : a.length ≤ 1048576) (hb : b.length ≤ 1048576) : ∀ (r s p p2 : List ReadMark) (i : Int), a = p ++ r → b = p2 ++ s → i = p.length → i = p2.length → r.length = s.length →
    laws_eqReadMarkS_l0 E (.sl 2 (a.map ReadMark.u)) (.sl 2 (b.map ReadMark.u)) (.int .i64 i) = some (.bool (decide (r = s)))
  | [], [], p, p2, i, e, e2, hi, hi2, _ => by
    rw [laws_eqReadMarkS_l0_eq]
    simp [mid_end e hi]
  | [], y :: s, _, _, _, _, _, _, _, hl => by cases hl
  | x :: r, [], _, _, _, _, _, _, _, hl => by cases hl
  | x :: r, y :: s, p, p2, i, e, e2, hi, hi2, hl => by
    obtain ⟨h0, hlt, hx, hw, hn, _⟩ := mid_at e hi (by omega)
    obtain ⟨_, _, hy, _, hn2, _⟩ := mid_at e2 hi2 (by omega)
    have ih := laws_eqReadMarkS_l0_is h a b ha hb r s (p ++ [x]) (p2 ++ [y]) (i + 1) (mid_next e) (mid_next e2) hn hn2 (by simpa using hl)
    rw [laws_eqReadMarkS_l0_eq]
    by_cases hxy : x = y
    · subst hxy
      simp [hlt, hx, hy, hw, ih, laws_eqReadMark_is h.c_laws_eqReadMark]
    · simp [hlt, hx, hy, hw, ih, laws_eqReadMark_is h.c_laws_eqReadMark, hxy]
theorem laws_eqReadMarkS_is (h : G_laws_eqReadMarkS E) (a b : List ReadMark) (ha : a.length ≤ 1048576) (hb : b.length ≤ 1048576) : E 34 [.sl 2 (a.map ReadMark.u), .sl 2 (b.map ReadMark.u)] = some (.bool (decide (a = b))) := by
  rw [laws_eqReadMarkS_E h]
  by_cases hl : a.length = b.length
  · simp [hl, laws_eqReadMarkS_l0_is h a b ha hb a b [] [] 0 rfl rfl rfl rfl hl]
  · have h1 : a ≠ b := fun e => hl (by rw [e])
    have h2 : (a.length : Int) ≠ b.length := by omega
    simp [h1, h2]

theorem laws_szReadMarkS_is (h : G_laws_szReadMarkS E) (l : List ReadMark) (hl : l.length ≤ maxLen) (left : Int) (h0 : 0 ≤ left) (h1 : left ≤ 1048576) : E 24 [.sl 2 (l.map ReadMark.u), .int .i64 left] = some (.int .i64 (szc l.length left)) := by
  rw [laws_szReadMarkS_E h]
  unfold maxLen at hl
  have hw : IntKind.i64.wrap (left - (l.length : Int)) = left - l.length := wrap_in (by omega)
  by_cases h2 : left - (l.length : Int) < 0 <;> simp [hw, szc, h2]

end Go.Proofs.Ytmebdbagcbgddaa.Am
/-
  MarksAt: the two sides' answers are equal.
-/
namespace Go.Proofs.Ytmebdbagcbgddaa.Am
open Go
variable {E : Env}

theorem eqReadMarkS_nil (h : G_laws_eqReadMarkS E) : E 34 [.nsl 2, .sl 2 []] = some (.bool true) := by
  rw [laws_eqReadMarkS_E h]
  simp only [lenOf_nsl, lenOf_sl, List.length_nil, Option.bind_some, bin_neq, ne_eq, not_true_eq_false, decide_false, asBool_bool, Bool.false_eq_true, if_false]
  rw [laws_eqReadMarkS_l0_eq]
  simp

theorem marksFrom_len (s : Store) (t : Int) : ∀ (n : Nat) (k : Int) (c l : List ReadMark), marksFrom s t n k c = some l → l.length = c.length + n
  | 0, k, c, l, h => by cases h; simp
  | n + 1, k, c, l, h => by
    simp only [marksFrom] at h
    split at h
    · cases h
    · have := marksFrom_len s t n (k + 1) _ l h
      simp at this
      omega
end Go.Proofs.Ytmebdbagcbgddaa.Am
/-
  What the laws' own helpers compute.
-/
namespace Go.Proofs.Ytmebdbagcbgddaa.Am
open Go
variable {E : Env}
set_option linter.unusedVariables false

theorem laws_toVersion_is (h : G_laws_toVersion E) (x : Version) : E 109 [x.u] = some x.u := by
  rw [laws_toVersion_E h]
  simp [Version.u]

theorem laws_toVersionS_l0_is (h : G_laws_toVersionS E) (l : List Version) (hl : l.length ≤ 1048576) : ∀ (r p : List Version) (i : Int) (c : List U), l = p ++ r → i = p.length → c.length = r.length → (∀ z ∈ c, z.size = 5) →
    laws_toVersionS_l0 E (.sl 5 (l.map Version.u)) (.int .i64 i) (p.map Version.u ++ c) = some (.sl 5 (l.map Version.u))
  | [], p, i, c, e, hi, hc, _ => by
    obtain rfl : c = [] := List.length_eq_zero_iff.1 hc
    rw [laws_toVersionS_l0_eq]
    simp [mid_end e hi]
    simp [e]
  | x :: r, p, i, [], e, hi, hc, _ => by cases hc
  | x :: r, p, i, z :: c, e, hi, hc, hz => by
    obtain ⟨h0, hlt, hx, hw, hn, _⟩ := mid_at e hi (by omega)
    have hzs : z.size = 5 := hz z (by simp)
    obtain ⟨hg, hs, hlen⟩ := mid_set Version.u p z c hi
    have ih := laws_toVersionS_l0_is h l hl r (p ++ [x]) (i + 1) c (mid_next e) hn (by simpa using hc) (fun y hy => hz y (by simp [hy]))
    simp only [List.map_append, List.map_cons, List.map_nil, List.append_assoc, List.cons_append, List.nil_append] at ih
    rw [laws_toVersionS_l0_eq]
    simp only [hg, hs, hx, hw, asInt_int, bin_lss, lenOf_sl, List.length_map, Option.bind_some, asBool_bool, hlt, decide_true, if_true, h0, hlen, and_self, bin_add, laws_toVersion_is h.c_laws_toVersion x, hzs, Version.u_var, Version.u_size, Version.u_storable, Version.u_partable]
    simpa using ih
theorem laws_toVersionS_is (h : G_laws_toVersionS E) (l : List Version) (hl : l.length ≤ 1048576) : E 108 [.sl 5 (l.map Version.u)] = some (.sl 5 (l.map Version.u)) := by
  have h1 := laws_toVersionS_l0_is h l hl l [] 0 (List.replicate l.length (.agg [.int .i64 0, .int .i64 0, .int .i64 0, .int .i64 0, .int .i64 0])) rfl rfl (by simp) (by simp)
  rw [laws_toVersionS_E h]
  simp only [lenOf_sl, Option.bind_some, List.length_map]
  rw [if_pos (by refine ⟨by omega, by omega, by omega, rfl⟩)]
  simpa using h1

theorem laws_eqVersion_is (h : G_laws_eqVersion E) (x y : Version) : E 120 [x.u, y.u] = some (.bool (decide (x = y))) := by
  rw [laws_eqVersion_E h]
  obtain ⟨a0, a1, a2, a3, a4⟩ := x
  obtain ⟨b0, b1, b2, b3, b4⟩ := y
  simp only [Version.mk.injEq]
  by_cases h0 : a0 = b0
  case neg => simp [h0]
  subst h0
  by_cases h1 : a1 = b1
  case neg => simp [h1]
  subst h1
  by_cases h2 : a2 = b2
  case neg => simp [h2]
  subst h2
  by_cases h3 : a3 = b3
  case neg => simp [h3]
  subst h3
  by_cases h4 : a4 = b4
  case neg => simp [h4]
  subst h4
  simp []

theorem laws_eqVersionS_l0_is (h : G_laws_eqVersionS E) (a b : List Version) (ha : a.length ≤ 1048576) (hb : b.length ≤ 1048576) : ∀ (r s p p2 : List Version) (i : Int), a = p ++ r → b = p2 ++ s → i = p.length → i = p2.length → r.length = s.length →
    laws_eqVersionS_l0 E (.sl 5 (a.map Version.u)) (.sl 5 (b.map Version.u)) (.int .i64 i) = some (.bool (decide (r = s)))
  | [], [], p, p2, i, e, e2, hi, hi2, _ => by
    rw [laws_eqVersionS_l0_eq]
    simp [mid_end e hi]
  | [], y :: s, _, _, _, _, _, _, _, hl => by cases hl
  | x :: r, [], _, _, _, _, _, _, _, hl => by cases hl
  | x :: r, y :: s, p, p2, i, e, e2, hi, hi2, hl => by
    obtain ⟨h0, hlt, hx, hw, hn, _⟩ := mid_at e hi (by omega)
    obtain ⟨_, _, hy, _, hn2, _⟩ := mid_at e2 hi2 (by omega)
    have ih := laws_eqVersionS_l0_is h a b ha hb r s (p ++ [x]) (p2 ++ [y]) (i + 1) (mid_next e) (mid_next e2) hn hn2 (by simpa using hl)
    rw [laws_eqVersionS_l0_eq]
    by_cases hxy : x = y
    · subst hxy
      simp [hlt, hx, hy, hw, ih, laws_eqVersion_is h.c_laws_eqVersion]
    · simp [hlt, hx, hy, hw, ih, laws_eqVersion_is h.c_laws_eqVersion, hxy]
theorem laws_eqVersionS_is (h : G_laws_eqVersionS E) (a b : List Version) (ha : a.length ≤ 1048576) (hb : b.length ≤ 1048576) : E 119 [.sl 5 (a.map Version.u), .sl 5 (b.map Version.u)] = some (.bool (decide (a = b))) := by
  rw [laws_eqVersionS_E h]
  by_cases hl : a.length = b.length
  · simp [hl, laws_eqVersionS_l0_is h a b ha hb a b [] [] 0 rfl rfl rfl rfl hl]
  · have h1 : a ≠ b := fun e => hl (by rw [e])
    have h2 : (a.length : Int) ≠ b.length := by omega
    simp [h1, h2]

theorem laws_szVersionS_is (h : G_laws_szVersionS E) (l : List Version) (hl : l.length ≤ maxLen) (left : Int) (h0 : 0 ≤ left) (h1 : left ≤ 1048576) : E 101 [.sl 5 (l.map Version.u), .int .i64 left] = some (.int .i64 (szc l.length left)) := by
  rw [laws_szVersionS_E h]
  unfold maxLen at hl
  have hw : IntKind.i64.wrap (left - (l.length : Int)) = left - l.length := wrap_in (by omega)
  by_cases h2 : left - (l.length : Int) < 0 <;> simp [hw, szc, h2]

theorem laws_toVersionS_ch (h : G_laws_toVersionS E) (x : List Version) (hx : chainOk x) : E 108 [chainU x] = some (chainU x) := laws_toVersionS_is h x hx
theorem laws_eqVersionS_ch (h : G_laws_eqVersionS E) (x y : List Version) (hx : chainOk x) (hy : chainOk y) : E 119 [chainU x, chainU y] = some (.bool (decide (x = y))) := laws_eqVersionS_is h x y hx hy
theorem laws_szVersionS_ch (h : G_laws_szVersionS E) (x : List Version) (hx : chainFit x) (left : Int) (h0 : 0 ≤ left) (h1 : left ≤ 1048576) : E 101 [chainU x, .int .i64 left] = some (.int .i64 (chainSz x left)) := laws_szVersionS_is h x hx left h0 h1
end Go.Proofs.Ytmebdbagcbgddaa.Am
/-
  Marks: Versions that hold the ints from k on.
-/
namespace Go.Proofs.Ytmebdbagcbgddaa.Am
open Go
variable {E : Env}
set_option linter.unusedVariables false

/-- n Versions from k on. -/
def upVersion : Int → Nat → List Version
  | _, 0 => []
  | k, n + 1 => ⟨k, k + 1, k + 2, k + 3, k + 4⟩ :: upVersion (k + 5) n

theorem upVersion_length : ∀ (n : Nat) (k : Int), (upVersion k n).length = n
  | 0, _ => rfl
  | n + 1, k => by simp [upVersion, upVersion_length n]

theorem flats_Version (l : List Version) : U.flat.flats (l.map Version.u) = true := flats_map _ (fun _ => rfl) l

theorem laws_markVersionS_M_l0_is (h : G_laws_markVersionS_M E) : ∀ (r p : List Version) (k i : Int), i = p.length → p.length + r.length ≤ 1048576 → 0 ≤ k → k + 5 * r.length ≤ 1099511627776 →
    laws_markVersionS_M_l0 E (.int .i64 k) (.int .i64 i) (p.map Version.u ++ r.map Version.u) = some (.tup [.int .i64 (k + 5 * r.length), .sl 5 (p.map Version.u ++ (upVersion k r.length).map Version.u)])
  | [], p, k, i, hi, hb, hk, hk2 => by
    have h1 : ¬ i < ((p.map Version.u ++ ([] : List Version).map Version.u).length : Int) := by simp [hi]
    rw [laws_markVersionS_M_l0_eq]
    simp only [bin_lss, h1, decide_false, Option.bind_some, asBool_bool, Bool.false_eq_true, if_false]
    rw [← List.map_append]
    simp [upVersion, flats_Version]
  | x :: r, p, k, i, hi, hb, hk, hk2 => by
    simp only [List.length_cons] at hb hk2
    have hm := fun z => mid_set Version.u p z (r.map Version.u) hi
    have hg := fun z => (hm z).1
    have hs := fun z => (hm z).2.1
    have hlen := fun z => (hm z).2.2
    have h0 : 0 ≤ i := by omega
    have hw0 : IntKind.i64.wrap (k + 1) = k + 1 := by rw [wrap_in (by omega)]
    have hw1 : IntKind.i64.wrap (k + 1 + 1) = k + 2 := by rw [wrap_in (by omega)]; omega
    have hw2 : IntKind.i64.wrap (k + 2 + 1) = k + 3 := by rw [wrap_in (by omega)]; omega
    have hw3 : IntKind.i64.wrap (k + 3 + 1) = k + 4 := by rw [wrap_in (by omega)]; omega
    have hw4 : IntKind.i64.wrap (k + 4 + 1) = k + 5 := by rw [wrap_in (by omega)]; omega
    have hwi : IntKind.i64.wrap (i + 1) = i + 1 := wrap_in (by omega)
    have ih := laws_markVersionS_M_l0_is h r (p ++ [⟨k, k + 1, k + 2, k + 3, k + 4⟩]) (k + 5) (i + 1) (by simp [hi]) (by simp; omega) (by omega) (by omega)
    simp only [List.map_append, List.map_cons, List.map_nil, List.append_assoc, List.cons_append, List.nil_append] at ih
    rw [laws_markVersionS_M_l0_eq]
    simp only [List.map_cons, bin_lss, hlen, decide_true, Option.bind_some, asBool_bool, if_true, asInt_int, h0, and_self, storable_int, size_int, flat_int, hg, hs, Version.u_agg, asAgg_agg, List.take_zero, List.take_succ_cons, sizes_cons, sizes_nil, Nat.add_zero, Nat.zero_add, List.getElem?_cons_zero, List.getElem?_cons_succ, List.set_cons_zero, List.set_cons_succ, bin_add, hw0, hw1, hw2, hw3, hw4, hwi, Nat.reduceAdd]
    have e : k + 5 + 5 * (r.length : Int) = k + 5 * ((r.length + 1 : Nat) : Int) := by omega
    rw [e] at ih
    simpa [upVersion, Version.u] using ih

theorem laws_markVersionS_M_is (h : G_laws_markVersionS_M E) (l : List Version) (hl : l.length ≤ 1048576) (k : Int) (hk : 0 ≤ k) (hk2 : k ≤ 1073741824) :
    E 200122 (.agg [.tup [.sl 5 (l.map Version.u)]] :: [.int .i64 k]) = some (.tup [.int .i64 (k + 5 * l.length), .sl 5 ((upVersion k l.length).map Version.u)]) := by
  rw [laws_markVersionS_M_E h]
  exact laws_markVersionS_M_l0_is h l [] k 0 rfl (by simpa using hl) hk (by omega)
end Go.Proofs.Ytmebdbagcbgddaa.Am
/-
  Marks: a store's chains.
-/
namespace Go.Proofs.Ytmebdbagcbgddaa.Am
open Go
variable {E : Env}
set_option linter.unusedVariables false

def sumLen : List (List Version) → Int
  | [] => 0
  | c :: r => c.length + sumLen r

theorem sumLen_nonneg : ∀ l, 0 ≤ sumLen l
  | [] => by simp [sumLen]
  | c :: r => by have := sumLen_nonneg r; simp only [sumLen]; omega

theorem laws_markVersionSS_M_l0_is (h : G_laws_markVersionSS_M E) : ∀ (r : List (List Version)) (p : List U) (k i : Int), i = p.length → p.length + r.length ≤ 1048576 → (∀ x ∈ r, chainOk x) → 0 ≤ k → k + 5 * sumLen r ≤ 1073741824 →
    ∃ k' us, laws_markVersionSS_M_l0 E (.int .i64 k) (.int .i64 i) (p ++ r.map chainU) = some (.tup [.int .i64 k', .sl 1 us]) ∧ 0 ≤ k'
  | [], p, k, i, hi, hb, hr, hk, hk2 => by
    refine ⟨k, p, ?_, hk⟩
    have h1 : ¬ i < (p.length : Int) := by omega
    rw [laws_markVersionSS_M_l0_eq]
    simp [h1]
  | x :: r, p, k, i, hi, hb, hr, hk, hk2 => by
    simp only [List.length_cons, sumLen] at hb hk2
    have hs := sumLen_nonneg r
    have hx : x.length ≤ 1048576 := hr x (by simp)
    have hm := laws_markVersionS_M_is h.c_laws_markVersionS_M x hx k hk (by omega)
    obtain ⟨k', us, h1, h2⟩ := laws_markVersionSS_M_l0_is h r (p ++ [.sl 5 ((upVersion k x.length).map Version.u)]) (k + 5 * x.length) (i + 1) (by simp [hi]) (by simp; omega) (fun y hy => hr y (by simp [hy])) (by omega) (by omega)
    refine ⟨k', us, ?_, h2⟩
    have hn : i.toNat = p.length := by omega
    have hlt : i < ((p ++ chainU x :: r.map chainU).length : Int) := by simp; omega
    have h0 : 0 ≤ i := by omega
    have hw : IntKind.i64.wrap (i + 1) = i + 1 := wrap_in (by omega)
    have hg : (p ++ chainU x :: r.map chainU)[p.length]? = some (.sl 5 (x.map Version.u)) := by simp [chainU]
    have hset : ∀ z, (p ++ chainU x :: r.map chainU).set p.length z = p ++ z :: r.map chainU := fun z => by simp
    rw [laws_markVersionSS_M_l0_eq]
    simp only [List.append_assoc, List.cons_append, List.nil_append] at h1
    simp only [List.map_cons, bin_lss, hlt, decide_true, Option.bind_some, asBool_bool, if_true, asInt_int, h0, and_self, hn, hg, U.asSlK, hm, U.asMut, U.asFlat, U.flat, U.size, bin_add, hw, hset]
    exact h1
end Go.Proofs.Ytmebdbagcbgddaa.Am
/-
  What the laws' own helpers compute.
-/
namespace Go.Proofs.Ytmebdbagcbgddaa.Am
open Go
variable {E : Env}
set_option linter.unusedVariables false

theorem laws_toVersionSS_l0_is (h : G_laws_toVersionSS E) (l : List (List Version)) (hl : l.length ≤ 1048576) (hok : ∀ x ∈ l, chainOk x) : ∀ (r p : List (List Version)) (i : Int) (c : List U), l = p ++ r → i = p.length → c.length = r.length → (∀ z ∈ c, z.size = 1) →
    laws_toVersionSS_l0 E (.sl 1 (l.map chainU)) (.int .i64 i) (p.map chainU ++ c) = some (.sl 1 (l.map chainU))
  | [], p, i, c, e, hi, hc, _ => by
    obtain rfl : c = [] := List.length_eq_zero_iff.1 hc
    rw [laws_toVersionSS_l0_eq]
    simp [mid_end e hi]
    simp [e]
  | x :: r, p, i, [], e, hi, hc, _ => by cases hc
  | x :: r, p, i, z :: c, e, hi, hc, hz => by
    obtain ⟨h0, hlt, hx, hw, hn, _⟩ := mid_at e hi (by omega)
    have hox : chainOk x := hok x (by rw [e]; simp)
    have hzs : z.size = 1 := hz z (by simp)
    obtain ⟨hg, hs, hlen⟩ := mid_set chainU p z c hi
    have ih := laws_toVersionSS_l0_is h l hl hok r (p ++ [x]) (i + 1) c (mid_next e) hn (by simpa using hc) (fun y hy => hz y (by simp [hy]))
    simp only [List.map_append, List.map_cons, List.map_nil, List.append_assoc, List.cons_append, List.nil_append] at ih
    rw [laws_toVersionSS_l0_eq]
    simp only [hg, hs, hx, hw, asInt_int, bin_lss, lenOf_sl, List.length_map, Option.bind_some, asBool_bool, hlt, decide_true, if_true, h0, hlen, and_self, bin_add, laws_toVersionS_ch h.c_laws_toVersionS x hox, hzs, asVar_chainU, chainU_size, storable_chainU, partable_chainU]
    simpa using ih
theorem laws_toVersionSS_is (h : G_laws_toVersionSS E) (l : List (List Version)) (hl : l.length ≤ 1048576) (hok : ∀ x ∈ l, chainOk x) : E 107 [.sl 1 (l.map chainU)] = some (.sl 1 (l.map chainU)) := by
  have h1 := laws_toVersionSS_l0_is h l hl hok l [] 0 (List.replicate l.length (.nsl 5)) rfl rfl (by simp) (by simp)
  rw [laws_toVersionSS_E h]
  simp only [lenOf_sl, Option.bind_some, List.length_map]
  rw [if_pos (by refine ⟨by omega, by omega, by omega, rfl⟩)]
  simpa using h1

theorem laws_eqVersionSS_l0_is (h : G_laws_eqVersionSS E) (a b : List (List Version)) (ha : a.length ≤ 1048576) (hb : b.length ≤ 1048576) (hao : ∀ x ∈ a, chainOk x) (hbo : ∀ x ∈ b, chainOk x) : ∀ (r s p p2 : List (List Version)) (i : Int), a = p ++ r → b = p2 ++ s → i = p.length → i = p2.length → r.length = s.length →
    laws_eqVersionSS_l0 E (.sl 1 (a.map chainU)) (.sl 1 (b.map chainU)) (.int .i64 i) = some (.bool (decide (r = s)))
  | [], [], p, p2, i, e, e2, hi, hi2, _ => by
    rw [laws_eqVersionSS_l0_eq]
    simp [mid_end e hi]
  | [], y :: s, _, _, _, _, _, _, _, hl => by cases hl
  | x :: r, [], _, _, _, _, _, _, _, hl => by cases hl
  | x :: r, y :: s, p, p2, i, e, e2, hi, hi2, hl => by
    obtain ⟨h0, hlt, hx, hw, hn, _⟩ := mid_at e hi (by omega)
    obtain ⟨_, _, hy, _, hn2, _⟩ := mid_at e2 hi2 (by omega)
    have hox : chainOk x := hao x (by rw [e]; simp)
    have hoy : chainOk y := hbo y (by rw [e2]; simp)
    have ih := laws_eqVersionSS_l0_is h a b ha hb hao hbo r s (p ++ [x]) (p2 ++ [y]) (i + 1) (mid_next e) (mid_next e2) hn hn2 (by simpa using hl)
    rw [laws_eqVersionSS_l0_eq]
    by_cases hxy : x = y
    · subst hxy
      simp [hlt, hx, hy, hw, ih, laws_eqVersionS_ch h.c_laws_eqVersionS _ _ hox hoy]
    · simp [hlt, hx, hy, hw, ih, laws_eqVersionS_ch h.c_laws_eqVersionS _ _ hox hoy, hxy]
theorem laws_eqVersionSS_is (h : G_laws_eqVersionSS E) (a b : List (List Version)) (ha : a.length ≤ 1048576) (hb : b.length ≤ 1048576) (hao : ∀ x ∈ a, chainOk x) (hbo : ∀ x ∈ b, chainOk x) : E 118 [.sl 1 (a.map chainU), .sl 1 (b.map chainU)] = some (.bool (decide (a = b))) := by
  rw [laws_eqVersionSS_E h]
  by_cases hl : a.length = b.length
  · simp [hl, laws_eqVersionSS_l0_is h a b ha hb hao hbo a b [] [] 0 rfl rfl rfl rfl hl]
  · have h1 : a ≠ b := fun e => hl (by rw [e])
    have h2 : (a.length : Int) ≠ b.length := by omega
    simp [h1, h2]

theorem laws_szVersionSS_l0_is (h : G_laws_szVersionSS E) (l : List (List Version)) (hl : l.length ≤ 1048576) (hf : ∀ x ∈ l, chainFit x) : ∀ (r p : List (List Version)) (i left : Int), l = p ++ r → i = p.length → 0 ≤ left → left ≤ 1048576 →
    laws_szVersionSS_l0 E (.sl 1 (l.map chainU)) (.int .i64 left) (.int .i64 i) = some (.int .i64 (szl chainSz r left))
  | [], p, i, left, e, hi, _, _ => by
    rw [laws_szVersionSS_l0_eq]
    simp [mid_end e hi, szl]
  | x :: r, p, i, left, e, hi, h1, h2 => by
    obtain ⟨h0, hlt, hx, hw, hn, _⟩ := mid_at e hi (by omega)
    have hfx : chainFit x := hf x (by rw [e]; simp)
    rw [laws_szVersionSS_l0_eq]
    rcases chainSz_szs x left h1 h2 with h3 | ⟨_, h3, h4⟩
    · simp [hlt, hx, hw, szl, laws_szVersionS_ch h.c_laws_szVersionS x hfx left h1 h2, h3]
    · have ih := laws_szVersionSS_l0_is h l hl hf r (p ++ [x]) (i + 1) (chainSz x left) (mid_next e) hn h3 (by omega)
      have h5 : ¬ chainSz x left < 0 := by omega
      simp [hlt, hx, hw, szl, laws_szVersionS_ch h.c_laws_szVersionS x hfx left h1 h2, h5, ih]
theorem laws_szVersionSS_is (h : G_laws_szVersionSS E) (l : List (List Version)) (hl : l.length ≤ maxLen) (hf : ∀ x ∈ l, chainFit x) (left : Int) (h0 : 0 ≤ left) (h1 : left ≤ 1048576) : E 100 [.sl 1 (l.map chainU), .int .i64 left] = some (.int .i64 (szL chainSz l left)) := by
  rw [laws_szVersionSS_E h]
  unfold maxLen at hl
  have hw : IntKind.i64.wrap (left - (l.length : Int)) = left - l.length := wrap_in (by omega)
  by_cases h2 : left - (l.length : Int) < 0
  · simp [hw, szL, h2]
  · simp [hw, szL, h2, laws_szVersionSS_l0_is h l (by omega) hf l [] 0 (left - l.length) rfl rfl (by omega) (by omega)]

theorem laws_toStore_is (h : G_laws_toStore E) (s : Store) (ho : s.ok) : E 93 [s.u] = some s.u := by
  rw [laws_toStore_E h]
  have h1 := laws_toVersionSS_is h.c_laws_toVersionSS s.chains ho.1 ho.2
  simp [h1]
  rfl

theorem laws_eqStore_is (h : G_laws_eqStore E) (s t : Store) (ho : s.ok) (ho2 : t.ok) : E 97 [s.u, t.u] = some (.bool (decide (s = t))) := by
  rw [laws_eqStore_E h]
  have h1 := laws_eqVersionSS_is h.c_laws_eqVersionSS s.chains t.chains ho.1 ho2.1 ho.2 ho2.2
  by_cases h2 : s.chains = t.chains <;> simp [h1, h2, Store.eq_iff]
  rw [h2] at h1
  simp [h1]

theorem laws_szStore_is (h : G_laws_szStore E) (s : Store) (hf : s.fit) (left : Int) (h0 : 0 ≤ left) (h1 : left ≤ 1048576) : E 99 [s.u, .int .i64 left] = some (.int .i64 (s.sz left)) := by
  rw [laws_szStore_E h]
  have a1 := laws_szVersionSS_is h.c_laws_szVersionSS s.chains hf.1 hf.2 left h0 h1
  by_cases h2 : szL chainSz s.chains left < 0
  · have h3 := szL_neg chainSz_neg h2
    simp [a1, h3, Store.sz]
  · simp [a1, h2, Store.sz]

end Go.Proofs.Ytmebdbagcbgddaa.Am
/-
  The laws' copies of a store, fresh.
-/
namespace Go.Proofs.Ytmebdbagcbgddaa.Am
open Go
variable {E : Env}
set_option linter.unusedVariables false

theorem laws_toVersionS_F_l0_is (h : G_laws_toVersionS_F E) (l : List Version) (hl : l.length ≤ 1048576) : ∀ (r p : List Version) (i : Int) (c : List U), l = p ++ r → i = p.length → c.length = r.length → (∀ z ∈ c, z.size = 5) →
    laws_toVersionS_F_l0 E (.sl 5 (l.map Version.u)) (.int .i64 i) (p.map Version.u ++ c) = some (.sl 5 (l.map Version.u))
  | [], p, i, c, e, hi, hc, _ => by
    obtain rfl : c = [] := List.length_eq_zero_iff.1 hc
    rw [laws_toVersionS_F_l0_eq]
    simp [mid_end e hi]
    simp [e, flats_Version, ← List.map_append, ← List.map_cons]
  | x :: r, p, i, [], e, hi, hc, _ => by cases hc
  | x :: r, p, i, z :: c, e, hi, hc, hz => by
    obtain ⟨h0, hlt, hx, hw, hn, _⟩ := mid_at e hi (by omega)
    have hzs : z.size = 5 := hz z (by simp)
    obtain ⟨hg, hs, hlen⟩ := mid_set Version.u p z c hi
    have ih := laws_toVersionS_F_l0_is h l hl r (p ++ [x]) (i + 1) c (mid_next e) hn (by simpa using hc) (fun y hy => hz y (by simp [hy]))
    simp only [List.map_append, List.map_cons, List.map_nil, List.append_assoc, List.cons_append, List.nil_append] at ih
    rw [laws_toVersionS_F_l0_eq]
    simp only [hg, hs, hx, hw, asInt_int, bin_lss, lenOf_sl, List.length_map, Option.bind_some, asBool_bool, hlt, decide_true, if_true, h0, hlen, and_self, bin_add, laws_toVersion_is h.c_laws_toVersion x, hzs, Version.u_var, Version.u_size, Version.u_storable, Version.u_partable]
    simpa using ih
theorem laws_toVersionS_F_is (h : G_laws_toVersionS_F E) (l : List Version) (hl : l.length ≤ 1048576) : E 100108 [.sl 5 (l.map Version.u)] = some (.sl 5 (l.map Version.u)) := by
  have h1 := laws_toVersionS_F_l0_is h l hl l [] 0 (List.replicate l.length (.agg [.int .i64 0, .int .i64 0, .int .i64 0, .int .i64 0, .int .i64 0])) rfl rfl (by simp) (by simp)
  rw [laws_toVersionS_F_E h]
  simp only [lenOf_sl, Option.bind_some, List.length_map]
  rw [if_pos (by refine ⟨by omega, by omega, by omega, rfl⟩)]
  simpa using h1

theorem laws_toVersionSS_F_l0_is (h : G_laws_toVersionSS_F E) (l : List (List Version)) (hl : l.length ≤ 1048576) (hok : ∀ x ∈ l, chainOk x) : ∀ (r p : List (List Version)) (i : Int) (c : List U), l = p ++ r → i = p.length → c.length = r.length → (∀ z ∈ c, z.size = 1) →
    laws_toVersionSS_F_l0 E (.sl 1 (l.map chainU)) (.int .i64 i) (p.map chainU ++ c) = some (.sl 1 (l.map chainU))
  | [], p, i, c, e, hi, hc, _ => by
    obtain rfl : c = [] := List.length_eq_zero_iff.1 hc
    rw [laws_toVersionSS_F_l0_eq]
    simp [mid_end e hi]
    simp [e]
  | x :: r, p, i, [], e, hi, hc, _ => by cases hc
  | x :: r, p, i, z :: c, e, hi, hc, hz => by
    obtain ⟨h0, hlt, hx, hw, hn, _⟩ := mid_at e hi (by omega)
    have hox : chainOk x := hok x (by rw [e]; simp)
    have hzs : z.size = 1 := hz z (by simp)
    obtain ⟨hg, hs, hlen⟩ := mid_set chainU p z c hi
    have ih := laws_toVersionSS_F_l0_is h l hl hok r (p ++ [x]) (i + 1) c (mid_next e) hn (by simpa using hc) (fun y hy => hz y (by simp [hy]))
    simp only [List.map_append, List.map_cons, List.map_nil, List.append_assoc, List.cons_append, List.nil_append] at ih
    have hF : E 100108 [U.sl 5 (x.map Version.u)] = some (U.sl 5 (x.map Version.u)) := laws_toVersionS_F_is h.c_laws_toVersionS_F x hox
    rw [laws_toVersionSS_F_l0_eq]
    simp only [hg, hs, hx, hw, asInt_int, bin_lss, lenOf_sl, List.length_map, Option.bind_some, asBool_bool, hlt, decide_true, if_true, h0, hlen, and_self, bin_add, laws_toVersionS_F_is h.c_laws_toVersionS_F x hox, chainU, U.noTup, U.asSlK, hzs, asVar_chainU, chainU_size, storable_chainU, partable_chainU]
    simpa [hF, chainU] using ih
theorem laws_toVersionSS_F_is (h : G_laws_toVersionSS_F E) (l : List (List Version)) (hl : l.length ≤ 1048576) (hok : ∀ x ∈ l, chainOk x) : E 100107 [.sl 1 (l.map chainU)] = some (.sl 1 (l.map chainU)) := by
  have h1 := laws_toVersionSS_F_l0_is h l hl hok l [] 0 (List.replicate l.length (.nsl 5)) rfl rfl (by simp) (by simp)
  rw [laws_toVersionSS_F_E h]
  simp only [lenOf_sl, Option.bind_some, List.length_map]
  rw [if_pos (by refine ⟨by omega, by omega, by omega, rfl⟩)]
  have hfl : ∀ n : Nat, U.flat.flats (List.replicate n (U.nsl 5)) = true := by
    intro n
    induction n with
    | zero => rfl
    | succ n ih => simp [List.replicate_succ, U.flat.flats, U.flat, ih]
  simpa [hfl] using h1


theorem laws_toStore_F_is (h : G_laws_toStore_F E) (s : Store) (ho : s.ok) : E 100093 [s.u] = some s.u := by
  rw [laws_toStore_F_E h]
  have h1 := laws_toVersionSS_F_is h.c_laws_toVersionSS_F s.chains ho.1 ho.2
  have h2 : ∀ (us : List U) (K : U → Option U), U.noTup (.sl 1 us) K = K (.sl 1 us) := fun _ _ => rfl
  simp [h1, U.asSlK, h2]
  rfl
end Go.Proofs.Ytmebdbagcbgddaa.Am
/-
  Marks: ReadMarks that hold the ints from k on.
-/
namespace Go.Proofs.Ytmebdbagcbgddaa.Am
open Go
variable {E : Env}
set_option linter.unusedVariables false

/-- n ReadMarks from k on. -/
def upReadMark : Int → Nat → List ReadMark
  | _, 0 => []
  | k, n + 1 => ⟨k, k + 1⟩ :: upReadMark (k + 2) n

theorem upReadMark_length : ∀ (n : Nat) (k : Int), (upReadMark k n).length = n
  | 0, _ => rfl
  | n + 1, k => by simp [upReadMark, upReadMark_length n]

theorem flats_ReadMark (l : List ReadMark) : U.flat.flats (l.map ReadMark.u) = true := flats_map _ (fun _ => rfl) l

theorem laws_markReadMarkS_M_l0_is (h : G_laws_markReadMarkS_M E) : ∀ (r p : List ReadMark) (k i : Int), i = p.length → p.length + r.length ≤ 1048576 → 0 ≤ k → k + 2 * r.length ≤ 1099511627776 →
    laws_markReadMarkS_M_l0 E (.int .i64 k) (.int .i64 i) (p.map ReadMark.u ++ r.map ReadMark.u) = some (.tup [.int .i64 (k + 2 * r.length), .sl 2 (p.map ReadMark.u ++ (upReadMark k r.length).map ReadMark.u)])
  | [], p, k, i, hi, hb, hk, hk2 => by
    have h1 : ¬ i < ((p.map ReadMark.u ++ ([] : List ReadMark).map ReadMark.u).length : Int) := by simp [hi]
    rw [laws_markReadMarkS_M_l0_eq]
    simp only [bin_lss, h1, decide_false, Option.bind_some, asBool_bool, Bool.false_eq_true, if_false]
    rw [← List.map_append]
    simp [upReadMark, flats_ReadMark]
  | x :: r, p, k, i, hi, hb, hk, hk2 => by
    simp only [List.length_cons] at hb hk2
    have hm := fun z => mid_set ReadMark.u p z (r.map ReadMark.u) hi
    have hg := fun z => (hm z).1
    have hs := fun z => (hm z).2.1
    have hlen := fun z => (hm z).2.2
    have h0 : 0 ≤ i := by omega
    have hw0 : IntKind.i64.wrap (k + 1) = k + 1 := by rw [wrap_in (by omega)]
    have hw1 : IntKind.i64.wrap (k + 1 + 1) = k + 2 := by rw [wrap_in (by omega)]; omega
    have hwi : IntKind.i64.wrap (i + 1) = i + 1 := wrap_in (by omega)
    have ih := laws_markReadMarkS_M_l0_is h r (p ++ [⟨k, k + 1⟩]) (k + 2) (i + 1) (by simp [hi]) (by simp; omega) (by omega) (by omega)
    simp only [List.map_append, List.map_cons, List.map_nil, List.append_assoc, List.cons_append, List.nil_append] at ih
    rw [laws_markReadMarkS_M_l0_eq]
    simp only [List.map_cons, bin_lss, hlen, decide_true, Option.bind_some, asBool_bool, if_true, asInt_int, h0, and_self, storable_int, size_int, flat_int, hg, hs, ReadMark.u_agg, asAgg_agg, List.take_zero, List.take_succ_cons, sizes_cons, sizes_nil, Nat.add_zero, Nat.zero_add, List.getElem?_cons_zero, List.getElem?_cons_succ, List.set_cons_zero, List.set_cons_succ, bin_add, hw0, hw1, hwi, Nat.reduceAdd]
    have e : k + 2 + 2 * (r.length : Int) = k + 2 * ((r.length + 1 : Nat) : Int) := by omega
    rw [e] at ih
    simpa [upReadMark, ReadMark.u] using ih

theorem laws_markReadMarkS_M_is (h : G_laws_markReadMarkS_M E) (l : List ReadMark) (hl : l.length ≤ 1048576) (k : Int) (hk : 0 ≤ k) (hk2 : k ≤ 1073741824) :
    E 200095 (.agg [.tup [.sl 2 (l.map ReadMark.u)]] :: [.int .i64 k]) = some (.tup [.int .i64 (k + 2 * l.length), .sl 2 ((upReadMark k l.length).map ReadMark.u)]) := by
  rw [laws_markReadMarkS_M_E h]
  exact laws_markReadMarkS_M_l0_is h l [] k 0 rfl (by simpa using hl) hk (by omega)

theorem laws_heldReadMarkS_l0_is (h : G_laws_heldReadMarkS E) (l : List ReadMark) (hl : l.length ≤ 1048576) : ∀ (n : Nat) (p : List ReadMark) (k i : Int), l = p ++ upReadMark k n → i = p.length → 0 ≤ k → k + 2 * n ≤ 1099511627776 →
    laws_heldReadMarkS_l0 E (.sl 2 (l.map ReadMark.u)) (.int .i64 k) (.int .i64 i) = some (.int .i64 (k + 2 * n))
  | 0, p, k, i, e, hi, hk, hk2 => by
    rw [laws_heldReadMarkS_l0_eq]
    simp [mid_end e hi]
  | n + 1, p, k, i, e0, hi, hk, hk2 => by
    have e : l = p ++ (⟨k, k + 1⟩ : ReadMark) :: upReadMark (k + 2) n := e0
    obtain ⟨h0, hlt, hx, hw, hn, _⟩ := mid_at e hi (by omega)
    have hw0 : IntKind.i64.wrap (k + 1) = k + 1 := by rw [wrap_in (by omega)]
    have hw1 : IntKind.i64.wrap (k + 1 + 1) = k + 2 := by rw [wrap_in (by omega)]; omega
    have ih := laws_heldReadMarkS_l0_is h l hl n (p ++ [⟨k, k + 1⟩]) (k + 2) (i + 1) (mid_next e) hn (by omega) (by omega)
    have e2 : k + 2 + 2 * (n : Int) = k + 2 * ((n + 1 : Nat) : Int) := by omega
    rw [e2] at ih
    rw [laws_heldReadMarkS_l0_eq]
    simp only [lenOf_sl, List.length_map, Option.bind_some, bin_lss, hlt, decide_true, asBool_bool, if_true, asInt_int, hx, ReadMark.u_at0, ReadMark.u_at1, asVar_int, bin_neq, ne_eq, not_true_eq_false, decide_false, Bool.false_eq_true, if_false, bin_add, hw, hw0, hw1]
    exact ih

theorem laws_heldReadMarkS_is (h : G_laws_heldReadMarkS E) (n : Nat) (hn : n ≤ 1048576) (k : Int) (hk : 0 ≤ k) (hk2 : k ≤ 1048576) : E 92 [.sl 2 ((upReadMark k n).map ReadMark.u), .int .i64 k] = some (.int .i64 (k + 2 * n)) := by
  rw [laws_heldReadMarkS_E h]
  exact laws_heldReadMarkS_l0_is h _ (by rw [upReadMark_length]; exact hn) n [] k 0 rfl rfl hk (by omega)
end Go.Proofs.Ytmebdbagcbgddaa.Am
/-
  Data of a struct's make ('Fits') are such a struct, as plain data.
-/
namespace Go.Proofs.Ytmebdbagcbgddaa.Am
open Go

abbrev shI : Sh := .int .i64
theorem fits_int {u : U} (h : Fits shI u) : ∃ n, u = .int .i64 n ∧ -9223372036854775808 ≤ n ∧ n ≤ 9223372036854775807 := by
  cases u <;> first | exact h.elim | skip
  rename_i k n
  obtain ⟨rfl, h1, h2⟩ := h
  exact ⟨n, rfl, h1, h2⟩
theorem fits_bool {u : U} (h : Fits .bool u) : ∃ b, u = .bool b := by
  cases u <;> first | exact h.elim | exact ⟨_, rfl⟩
theorem fits_str {u : U} (h : Fits .str u) : ∃ s, u = .str s ∧ s.size ≤ maxLen := by
  cases u <;> first | exact h.elim | exact ⟨_, rfl, h⟩
theorem fits_agg {ss : List Sh} {u : U} (h : Fits (.agg ss) u) : ∃ us, u = .agg us ∧ Fits.fits ss us := by
  cases u <;> first | exact h.elim | exact ⟨_, rfl, h⟩
theorem fits_cons {s : Sh} {ss : List Sh} {us : List U} (h : Fits.fits (s :: ss) us) : ∃ u us', us = u :: us' ∧ Fits s u ∧ Fits.fits ss us' := by
  cases us with
  | nil => exact h.elim
  | cons u us => exact ⟨u, us, rfl, h.1, h.2⟩
theorem fits_nil {us : List U} (h : Fits.fits [] us) : us = [] := by
  cases us with
  | nil => rfl
  | cons u us => exact h.elim
theorem fits_map {α : Type} {s : Sh} {f : α → U} {Q : α → Prop} (hs : ∀ u, Fits s u → ∃ x, u = f x ∧ Q x) : ∀ us : List U, (∀ u ∈ us, Fits s u) → ∃ l : List α, us = l.map f ∧ ∀ x ∈ l, Q x
  | [], _ => ⟨[], rfl, by simp⟩
  | u :: us, h => by
    obtain ⟨x, rfl, hx⟩ := hs u (h u (by simp))
    obtain ⟨l, rfl, hl⟩ := fits_map hs us (fun v hv => h v (by simp [hv]))
    exact ⟨x :: l, rfl, by simpa using ⟨hx, hl⟩⟩
theorem fits_sl {α : Type} {k : Nat} {s : Sh} {f : α → U} {Q : α → Prop} (hs : ∀ u, Fits s u → ∃ x, u = f x ∧ Q x) {u : U} (h : Fits (.sl k s) u) : ∃ l : List α, u = .sl k (l.map f) ∧ l.length ≤ maxLen ∧ ∀ x ∈ l, Q x := by
  cases u <;> first | exact h.elim | skip
  obtain ⟨rfl, h1, h2⟩ := h
  obtain ⟨l, rfl, hl⟩ := fits_map hs _ h2
  exact ⟨l, rfl, by simpa using h1, hl⟩
theorem fits_ints {u : U} (h : Fits (.sl 1 shI) u) : ∃ l : List Int, u = .sl 1 (l.map intU) ∧ l.length ≤ maxLen := by
  obtain ⟨l, h1, h2, _⟩ := fits_sl (f := intU) (Q := fun _ => True) (fun u h => by obtain ⟨n, hn, _⟩ := fits_int h; exact ⟨n, hn, trivial⟩) h
  exact ⟨l, h1, h2⟩

abbrev shEdge : Sh := .agg [shI, shI, shI, shI]
theorem fits_Edge (u : U) (h : Fits shEdge u) : ∃ x : Edge, u = x.u ∧ True := by
  obtain ⟨us0, rfl, hs0⟩ := fits_agg h
  obtain ⟨u0, us1, rfl, h0, hs1⟩ := fits_cons hs0
  obtain ⟨a0, rfl, _⟩ := fits_int h0
  obtain ⟨u1, us2, rfl, h1, hs2⟩ := fits_cons hs1
  obtain ⟨a1, rfl, _⟩ := fits_int h1
  obtain ⟨u2, us3, rfl, h2, hs3⟩ := fits_cons hs2
  obtain ⟨a2, rfl, _⟩ := fits_int h2
  obtain ⟨u3, us4, rfl, h3, hs4⟩ := fits_cons hs3
  obtain ⟨a3, rfl, _⟩ := fits_int h3
  obtain rfl := fits_nil hs4
  exact ⟨⟨a0, a1, a2, a3⟩, rfl, trivial⟩

abbrev shReadMark : Sh := .agg [shI, shI]
theorem fits_ReadMark (u : U) (h : Fits shReadMark u) : ∃ x : ReadMark, u = x.u ∧ True := by
  obtain ⟨us0, rfl, hs0⟩ := fits_agg h
  obtain ⟨u0, us1, rfl, h0, hs1⟩ := fits_cons hs0
  obtain ⟨a0, rfl, _⟩ := fits_int h0
  obtain ⟨u1, us2, rfl, h1, hs2⟩ := fits_cons hs1
  obtain ⟨a1, rfl, _⟩ := fits_int h1
  obtain rfl := fits_nil hs2
  exact ⟨⟨a0, a1⟩, rfl, trivial⟩

abbrev shWrite : Sh := .agg [shI, shI]
theorem fits_Write (u : U) (h : Fits shWrite u) : ∃ x : Write, u = x.u ∧ True := by
  obtain ⟨us0, rfl, hs0⟩ := fits_agg h
  obtain ⟨u0, us1, rfl, h0, hs1⟩ := fits_cons hs0
  obtain ⟨a0, rfl, _⟩ := fits_int h0
  obtain ⟨u1, us2, rfl, h1, hs2⟩ := fits_cons hs1
  obtain ⟨a1, rfl, _⟩ := fits_int h1
  obtain rfl := fits_nil hs2
  exact ⟨⟨a0, a1⟩, rfl, trivial⟩

abbrev shLock : Sh := .agg [shI, shI]
theorem fits_Lock (u : U) (h : Fits shLock u) : ∃ x : Lock, u = x.u ∧ True := by
  obtain ⟨us0, rfl, hs0⟩ := fits_agg h
  obtain ⟨u0, us1, rfl, h0, hs1⟩ := fits_cons hs0
  obtain ⟨a0, rfl, _⟩ := fits_int h0
  obtain ⟨u1, us2, rfl, h1, hs2⟩ := fits_cons hs1
  obtain ⟨a1, rfl, _⟩ := fits_int h1
  obtain rfl := fits_nil hs2
  exact ⟨⟨a0, a1⟩, rfl, trivial⟩

abbrev shWait : Sh := .agg [shI, shI]
theorem fits_Wait (u : U) (h : Fits shWait u) : ∃ x : Wait, u = x.u ∧ True := by
  obtain ⟨us0, rfl, hs0⟩ := fits_agg h
  obtain ⟨u0, us1, rfl, h0, hs1⟩ := fits_cons hs0
  obtain ⟨a0, rfl, _⟩ := fits_int h0
  obtain ⟨u1, us2, rfl, h1, hs2⟩ := fits_cons hs1
  obtain ⟨a1, rfl, _⟩ := fits_int h1
  obtain rfl := fits_nil hs2
  exact ⟨⟨a0, a1⟩, rfl, trivial⟩

abbrev shVersion : Sh := .agg [shI, shI, shI, shI, shI]
theorem fits_Version (u : U) (h : Fits shVersion u) : ∃ x : Version, u = x.u ∧ True := by
  obtain ⟨us0, rfl, hs0⟩ := fits_agg h
  obtain ⟨u0, us1, rfl, h0, hs1⟩ := fits_cons hs0
  obtain ⟨a0, rfl, _⟩ := fits_int h0
  obtain ⟨u1, us2, rfl, h1, hs2⟩ := fits_cons hs1
  obtain ⟨a1, rfl, _⟩ := fits_int h1
  obtain ⟨u2, us3, rfl, h2, hs3⟩ := fits_cons hs2
  obtain ⟨a2, rfl, _⟩ := fits_int h2
  obtain ⟨u3, us4, rfl, h3, hs4⟩ := fits_cons hs3
  obtain ⟨a3, rfl, _⟩ := fits_int h3
  obtain ⟨u4, us5, rfl, h4, hs5⟩ := fits_cons hs4
  obtain ⟨a4, rfl, _⟩ := fits_int h4
  obtain rfl := fits_nil hs5
  exact ⟨⟨a0, a1, a2, a3, a4⟩, rfl, trivial⟩

abbrev shEntry : Sh := .agg [shI, shI, .sl 2 shReadMark, .sl 2 shWrite]
theorem fits_Entry (u : U) (h : Fits shEntry u) : ∃ x : Entry, u = x.u ∧ x.fit := by
  obtain ⟨us0, rfl, hs0⟩ := fits_agg h
  obtain ⟨u0, us1, rfl, h0, hs1⟩ := fits_cons hs0
  obtain ⟨a0, rfl, _⟩ := fits_int h0
  obtain ⟨u1, us2, rfl, h1, hs2⟩ := fits_cons hs1
  obtain ⟨a1, rfl, _⟩ := fits_int h1
  obtain ⟨u2, us3, rfl, h2, hs3⟩ := fits_cons hs2
  obtain ⟨a2, rfl, l2, _⟩ := fits_sl fits_ReadMark h2
  obtain ⟨u3, us4, rfl, h3, hs4⟩ := fits_cons hs3
  obtain ⟨a3, rfl, l3, _⟩ := fits_sl fits_Write h3
  obtain rfl := fits_nil hs4
  exact ⟨⟨a0, a1, a2, a3⟩, rfl, ⟨l2, l3⟩⟩

abbrev shLogRecord : Sh := .agg [shI, shI, shI, shI, .sl 2 shReadMark, .sl 2 shWrite]
theorem fits_LogRecord (u : U) (h : Fits shLogRecord u) : ∃ x : LogRecord, u = x.u ∧ x.fit := by
  obtain ⟨us0, rfl, hs0⟩ := fits_agg h
  obtain ⟨u0, us1, rfl, h0, hs1⟩ := fits_cons hs0
  obtain ⟨a0, rfl, _⟩ := fits_int h0
  obtain ⟨u1, us2, rfl, h1, hs2⟩ := fits_cons hs1
  obtain ⟨a1, rfl, _⟩ := fits_int h1
  obtain ⟨u2, us3, rfl, h2, hs3⟩ := fits_cons hs2
  obtain ⟨a2, rfl, _⟩ := fits_int h2
  obtain ⟨u3, us4, rfl, h3, hs4⟩ := fits_cons hs3
  obtain ⟨a3, rfl, _⟩ := fits_int h3
  obtain ⟨u4, us5, rfl, h4, hs5⟩ := fits_cons hs4
  obtain ⟨a4, rfl, l4, _⟩ := fits_sl fits_ReadMark h4
  obtain ⟨u5, us6, rfl, h5, hs6⟩ := fits_cons hs5
  obtain ⟨a5, rfl, l5, _⟩ := fits_sl fits_Write h5
  obtain rfl := fits_nil hs6
  exact ⟨⟨a0, a1, a2, a3, a4, a5⟩, rfl, ⟨l4, l5⟩⟩

abbrev shTransaction : Sh := .agg [shI, shI, shI, shI, shI, shI, shI, .sl 2 shReadMark, .sl 2 shWrite]
theorem fits_Transaction (u : U) (h : Fits shTransaction u) : ∃ x : Transaction, u = x.u ∧ x.fit := by
  obtain ⟨us0, rfl, hs0⟩ := fits_agg h
  obtain ⟨u0, us1, rfl, h0, hs1⟩ := fits_cons hs0
  obtain ⟨a0, rfl, _⟩ := fits_int h0
  obtain ⟨u1, us2, rfl, h1, hs2⟩ := fits_cons hs1
  obtain ⟨a1, rfl, _⟩ := fits_int h1
  obtain ⟨u2, us3, rfl, h2, hs3⟩ := fits_cons hs2
  obtain ⟨a2, rfl, _⟩ := fits_int h2
  obtain ⟨u3, us4, rfl, h3, hs4⟩ := fits_cons hs3
  obtain ⟨a3, rfl, _⟩ := fits_int h3
  obtain ⟨u4, us5, rfl, h4, hs5⟩ := fits_cons hs4
  obtain ⟨a4, rfl, _⟩ := fits_int h4
  obtain ⟨u5, us6, rfl, h5, hs6⟩ := fits_cons hs5
  obtain ⟨a5, rfl, _⟩ := fits_int h5
  obtain ⟨u6, us7, rfl, h6, hs7⟩ := fits_cons hs6
  obtain ⟨a6, rfl, _⟩ := fits_int h6
  obtain ⟨u7, us8, rfl, h7, hs8⟩ := fits_cons hs7
  obtain ⟨a7, rfl, l7, _⟩ := fits_sl fits_ReadMark h7
  obtain ⟨u8, us9, rfl, h8, hs9⟩ := fits_cons hs8
  obtain ⟨a8, rfl, l8, _⟩ := fits_sl fits_Write h8
  obtain rfl := fits_nil hs9
  exact ⟨⟨a0, a1, a2, a3, a4, a5, a6, a7, a8⟩, rfl, ⟨l7, l8⟩⟩

abbrev shStore : Sh := .agg [.sl 1 (.sl 5 shVersion)]
theorem fits_chain (u : U) (h : Fits (.sl 5 shVersion) u) : ∃ l : List Version, u = chainU l ∧ chainFit l := by
  obtain ⟨l, h1, h2, _⟩ := fits_sl fits_Version h
  exact ⟨l, h1, h2⟩
theorem fits_Store (u : U) (h : Fits shStore u) : ∃ s : Store, u = s.u ∧ s.fit := by
  obtain ⟨us0, rfl, hs0⟩ := fits_agg h
  obtain ⟨u0, us1, rfl, h0, hs1⟩ := fits_cons hs0
  obtain ⟨l, rfl, h1, h2⟩ := fits_sl fits_chain h0
  obtain rfl := fits_nil hs1
  exact ⟨⟨l⟩, rfl, h1, h2⟩
abbrev shEngine : Sh := .agg [.bool, shStore, .sl 9 shTransaction, .sl 2 shLock, .sl 2 shWait, shI]
theorem fits_Engine (u : U) (h : Fits shEngine u) : ∃ e : Engine, u = e.u ∧ e.fit := by
  obtain ⟨us0, rfl, hs0⟩ := fits_agg h
  obtain ⟨u0, us1, rfl, h0, hs1⟩ := fits_cons hs0
  obtain ⟨b, rfl⟩ := fits_bool h0
  obtain ⟨u1, us2, rfl, h1, hs2⟩ := fits_cons hs1
  obtain ⟨s, rfl, f1⟩ := fits_Store _ h1
  obtain ⟨u2, us3, rfl, h2, hs3⟩ := fits_cons hs2
  obtain ⟨ts, rfl, f2, f3⟩ := fits_sl fits_Transaction h2
  obtain ⟨u3, us4, rfl, h3, hs4⟩ := fits_cons hs3
  obtain ⟨ls, rfl, f4, _⟩ := fits_sl fits_Lock h3
  obtain ⟨u4, us5, rfl, h4, hs5⟩ := fits_cons hs4
  obtain ⟨ws, rfl, f5, _⟩ := fits_sl fits_Wait h4
  obtain ⟨u5, us6, rfl, h5, hs6⟩ := fits_cons hs5
  obtain ⟨n, rfl, _⟩ := fits_int h5
  obtain rfl := fits_nil hs6
  exact ⟨⟨b, s, ts, ls, ws, n⟩, rfl, f1, f2, f3, f4, f5⟩

end Go.Proofs.Ytmebdbagcbgddaa.Am
/-
  The law FnExactMarksAt returns true.
-/
namespace Go.Proofs.Ytmebdbagcbgddaa.Am
open Go
variable {E : Env}

theorem sumLen_szl : ∀ (r : List (List Version)) (left : Int), 0 ≤ left → 0 ≤ szl chainSz r left → sumLen r ≤ left
  | [], left, h0, h => by simpa [sumLen] using h0
  | x :: r, left, h0, h => by
    simp only [szl] at h
    by_cases h1 : chainSz x left < 0
    · rw [if_pos h1] at h; omega
    · rw [if_neg h1] at h
      have h2 := sumLen_szl r (chainSz x left) (by omega) h
      simp only [chainSz, szc] at h1 h2
      simp only [sumLen]
      split at h2 <;> omega

theorem sumLen_sz (s : Store) (left : Int) (h0 : 0 ≤ left) (h : 0 ≤ s.sz left) : sumLen s.chains ≤ left := by
  simp only [Store.sz, szL] at h
  split at h
  · omega
  · have := sumLen_szl s.chains _ (by omega) h
    omega

/-- The marks; none where a read failed. -/
def marksL (s : Store) (t : Int) : List ReadMark := (marksFrom s t 6 0 []).getD []

theorem marksL_len (s : Store) (t : Int) : (marksL s t).length ≤ 6 := by
  unfold marksL
  cases hm : marksFrom s t 6 0 [] with
  | none => simp
  | some l =>
    have hl := marksFrom_len s t 6 0 [] l hm
    simp at hl
    simp [hl]

theorem marksU_sl (s : Store) (t : Int) : marksU (.sl 2 []) (marksFrom s t 6 0 []) = .sl 2 ((marksL s t).map ReadMark.u) := by
  unfold marksL
  cases marksFrom s t 6 0 [] <;> rfl

theorem eqMarks (h : G_laws_eqReadMarkS E) (s : Store) (t : Int) : E 34 [marksU (.nsl 2) (marksFrom s t 6 0 []), .sl 2 ((marksL s t).map ReadMark.u)] = some (.bool true) := by
  have hl := marksL_len s t
  have h1 := laws_eqReadMarkS_is h (marksL s t) (marksL s t) (by omega) (by omega)
  unfold marksL at h1 hl ⊢
  cases hm : marksFrom s t 6 0 [] with
  | none => exact eqReadMarkS_nil h
  | some l =>
    rw [hm] at h1
    simpa [marksU] using h1

theorem law_MarksAt (h : G_laws_FnExactMarksAt E) (us : List U) (hus : Fits.fits [shStore, shI] us) : E 91 us = some (.bool true) := by
  obtain ⟨u0, us1, rfl, h0, hus1⟩ := fits_cons hus
  obtain ⟨s, rfl, hs⟩ := fits_Store _ h0
  obtain ⟨u1, us2, rfl, h1, hus2⟩ := fits_cons hus1
  obtain ⟨t, rfl, _⟩ := fits_int h1
  obtain rfl := fits_nil hus2
  rw [laws_FnExactMarksAt_E h]
  have s1 := laws_szStore_is h.c_laws_szStore s hs 1048576 (by omega) (by omega)
  rcases Store.sz_szs s 1048576 (by omega) (by omega) with n1 | ⟨ok, n1, n2⟩
  · simp [s1, n1]
  have n3 : ¬ s.sz 1048576 < 0 := by omega
  have hsum := sumLen_sz s 1048576 (by omega) n1
  have hl := marksL_len s t
  have he := laws_eqReadMarkS_is h.c_laws_eqReadMarkS (marksL s t) (marksL s t) (by omega) (by omega)
  have hE := eqMarks h.c_laws_eqReadMarkS s t
  have ht := laws_toStore_is h.c_laws_toStore s ok
  have hF := laws_toStore_F_is h.c_laws_toStore_F s ok
  have hsp := spec_MarksAt_is h.c_spec_MarksAt s ok t
  have him := impl_MarksAt_is h.c_impl_MarksAt s ok t
  have hif := impl_MarksAt_F_is h.c_impl_MarksAt_F s ok t
  rw [marksU_sl] at hsp hif
  have hst := laws_eqStore_is h.c_laws_eqStore s s ok ok
  have hm1 : ∃ k' us, E 200121 (.agg [.tup [.sl 1 (s.chains.map chainU)]] :: [.int .i64 1]) = some (.tup [.int .i64 k', .sl 1 us]) ∧ 0 ≤ k' := by
    rw [laws_markVersionSS_M_E h.c_laws_markVersionSS_M]
    exact laws_markVersionSS_M_l0_is h.c_laws_markVersionSS_M s.chains [] 1 0 rfl (by simpa using ok.1) ok.2 (by omega) (by omega)
  obtain ⟨k', us', hm1, hk'⟩ := hm1
  have hk2 : ¬ k' < 0 := by omega
  have hm2 := laws_markReadMarkS_M_is h.c_laws_markReadMarkS_M (marksL s t) (by omega) 1 (by omega) (by omega)
  have hh := laws_heldReadMarkS_is h.c_laws_heldReadMarkS (marksL s t).length (by omega) 1 (by omega) (by omega)
  have n4 : ¬ (1 + 2 * ((marksL s t).length : Int)) < 0 := by omega
  have hu : U.agg [.sl 1 (s.chains.map chainU)] = s.u := rfl
  simp [s1, n3, ht, hF, hsp, hif, U.asSlK, hu, he, hst, hm1, hk2, U.asMut, hm2, hh, n4, him, hE]
end Go.Proofs.Ytmebdbagcbgddaa.Am
