import Derived.Test.YtmebdbagcbgddaaAmX
import Derived.Test.YtmebdbagcbgddaaCycleEdgesF0
import Derived.Test.YtmebdbagcbgddaaCycleEdgesF1
import Derived.Test.YtmebdbagcbgddaaAmY
/-
  The program's data, as plain Lean data, and how the machine reads them.
-/
namespace Go.Proofs.Ytmebdbagcbgddaa.Am
open Go
variable {α : Type}

def intU (n : Int) : U := .int .i64 n
@[simp] theorem intU_size (n : Int) : (intU n).size = 1 := rfl
@[simp] theorem asVar_intU (n : Int) (K : U → Option α) : U.asVar false 1 (intU n) K = K (.int .i64 n) := rfl
@[simp] theorem storable_intU (n : Int) : storable (.val (intU n)) = true := rfl
abbrev intsU (l : List Int) : U := .sl 1 (l.map intU)

structure Edge where
  frm : Int
  to : Int
  kind : Int
  key : Int
  deriving DecidableEq
theorem Edge.eq_iff (x y : Edge) : x = y ↔ x.frm = y.frm ∧ x.to = y.to ∧ x.kind = y.kind ∧ x.key = y.key := by cases x; cases y; simp only [Edge.mk.injEq]
def Edge.u (e : Edge) : U := .agg [.int .i64 e.frm, .int .i64 e.to, .int .i64 e.kind, .int .i64 e.key]
@[simp] theorem Edge.u_size (e : Edge) : e.u.size = 4 := rfl
@[simp] theorem Edge.u_var (e : Edge) (K : U → Option α) : U.asVar true 4 e.u K = K e.u := rfl
@[simp] theorem Edge.u_storable (e : Edge) : storable (.val e.u) = true := rfl
@[simp] theorem Edge.u_noTup (e : Edge) (K : U → Option α) : U.noTup e.u K = K e.u := rfl
@[simp] theorem Edge.u_agg (e : Edge) (K : List U → Option α) : U.asAgg e.u K = K [.int .i64 e.frm, .int .i64 e.to, .int .i64 e.kind, .int .i64 e.key] := rfl
@[simp] theorem Edge.u_at0 (e : Edge) (K : U → Option α) : U.fieldAt 0 0 e.u K = K (.int .i64 e.frm) := rfl
@[simp] theorem Edge.u_at1 (e : Edge) (K : U → Option α) : U.fieldAt 1 1 e.u K = K (.int .i64 e.to) := rfl
@[simp] theorem Edge.u_at2 (e : Edge) (K : U → Option α) : U.fieldAt 2 2 e.u K = K (.int .i64 e.kind) := rfl
@[simp] theorem Edge.u_at3 (e : Edge) (K : U → Option α) : U.fieldAt 3 3 e.u K = K (.int .i64 e.key) := rfl
@[simp] theorem Edge.u_flat (e : Edge) : e.u.flat = true := rfl
@[simp] theorem Edge.u_asFlat (e : Edge) (K : U → Option α) : U.asFlat e.u K = K e.u := rfl
@[simp] theorem Edge.u_eqv (x y : Edge) : U.eqv 6 x.u y.u = some (decide (x = y)) := by
  obtain ⟨a0, a1, a2, a3⟩ := x
  obtain ⟨b0, b1, b2, b3⟩ := y
  simp only [Edge.mk.injEq]
  show (if 4 = 4 then eqInts _ _ else none) = _
  simp only [if_true, eqInts_cons, eqInts_nil, Option.map_some, Bool.decide_and, Bool.and_true]
  rfl

structure ReadMark where
  key : Int
  created : Int
  deriving DecidableEq
theorem ReadMark.eq_iff (x y : ReadMark) : x = y ↔ x.key = y.key ∧ x.created = y.created := by cases x; cases y; simp only [ReadMark.mk.injEq]
def ReadMark.u (e : ReadMark) : U := .agg [.int .i64 e.key, .int .i64 e.created]
@[simp] theorem ReadMark.u_size (e : ReadMark) : e.u.size = 2 := rfl
@[simp] theorem ReadMark.u_var (e : ReadMark) (K : U → Option α) : U.asVar true 2 e.u K = K e.u := rfl
@[simp] theorem ReadMark.u_storable (e : ReadMark) : storable (.val e.u) = true := rfl
@[simp] theorem ReadMark.u_noTup (e : ReadMark) (K : U → Option α) : U.noTup e.u K = K e.u := rfl
@[simp] theorem ReadMark.u_agg (e : ReadMark) (K : List U → Option α) : U.asAgg e.u K = K [.int .i64 e.key, .int .i64 e.created] := rfl
@[simp] theorem ReadMark.u_at0 (e : ReadMark) (K : U → Option α) : U.fieldAt 0 0 e.u K = K (.int .i64 e.key) := rfl
@[simp] theorem ReadMark.u_at1 (e : ReadMark) (K : U → Option α) : U.fieldAt 1 1 e.u K = K (.int .i64 e.created) := rfl
@[simp] theorem ReadMark.u_flat (e : ReadMark) : e.u.flat = true := rfl
@[simp] theorem ReadMark.u_asFlat (e : ReadMark) (K : U → Option α) : U.asFlat e.u K = K e.u := rfl
@[simp] theorem ReadMark.u_eqv (x y : ReadMark) : U.eqv 4 x.u y.u = some (decide (x = y)) := by
  obtain ⟨a0, a1⟩ := x
  obtain ⟨b0, b1⟩ := y
  simp only [ReadMark.mk.injEq]
  show (if 2 = 2 then eqInts _ _ else none) = _
  simp only [if_true, eqInts_cons, eqInts_nil, Option.map_some, Bool.decide_and, Bool.and_true]
  rfl

structure Write where
  key : Int
  value : Int
  deriving DecidableEq
theorem Write.eq_iff (x y : Write) : x = y ↔ x.key = y.key ∧ x.value = y.value := by cases x; cases y; simp only [Write.mk.injEq]
def Write.u (e : Write) : U := .agg [.int .i64 e.key, .int .i64 e.value]
@[simp] theorem Write.u_size (e : Write) : e.u.size = 2 := rfl
@[simp] theorem Write.u_var (e : Write) (K : U → Option α) : U.asVar true 2 e.u K = K e.u := rfl
@[simp] theorem Write.u_storable (e : Write) : storable (.val e.u) = true := rfl
@[simp] theorem Write.u_noTup (e : Write) (K : U → Option α) : U.noTup e.u K = K e.u := rfl
@[simp] theorem Write.u_agg (e : Write) (K : List U → Option α) : U.asAgg e.u K = K [.int .i64 e.key, .int .i64 e.value] := rfl
@[simp] theorem Write.u_at0 (e : Write) (K : U → Option α) : U.fieldAt 0 0 e.u K = K (.int .i64 e.key) := rfl
@[simp] theorem Write.u_at1 (e : Write) (K : U → Option α) : U.fieldAt 1 1 e.u K = K (.int .i64 e.value) := rfl
@[simp] theorem Write.u_flat (e : Write) : e.u.flat = true := rfl
@[simp] theorem Write.u_asFlat (e : Write) (K : U → Option α) : U.asFlat e.u K = K e.u := rfl
@[simp] theorem Write.u_eqv (x y : Write) : U.eqv 4 x.u y.u = some (decide (x = y)) := by
  obtain ⟨a0, a1⟩ := x
  obtain ⟨b0, b1⟩ := y
  simp only [Write.mk.injEq]
  show (if 2 = 2 then eqInts _ _ else none) = _
  simp only [if_true, eqInts_cons, eqInts_nil, Option.map_some, Bool.decide_and, Bool.and_true]
  rfl

structure Lock where
  key : Int
  owner : Int
  deriving DecidableEq
theorem Lock.eq_iff (x y : Lock) : x = y ↔ x.key = y.key ∧ x.owner = y.owner := by cases x; cases y; simp only [Lock.mk.injEq]
def Lock.u (e : Lock) : U := .agg [.int .i64 e.key, .int .i64 e.owner]
@[simp] theorem Lock.u_size (e : Lock) : e.u.size = 2 := rfl
@[simp] theorem Lock.u_var (e : Lock) (K : U → Option α) : U.asVar true 2 e.u K = K e.u := rfl
@[simp] theorem Lock.u_storable (e : Lock) : storable (.val e.u) = true := rfl
@[simp] theorem Lock.u_noTup (e : Lock) (K : U → Option α) : U.noTup e.u K = K e.u := rfl
@[simp] theorem Lock.u_agg (e : Lock) (K : List U → Option α) : U.asAgg e.u K = K [.int .i64 e.key, .int .i64 e.owner] := rfl
@[simp] theorem Lock.u_at0 (e : Lock) (K : U → Option α) : U.fieldAt 0 0 e.u K = K (.int .i64 e.key) := rfl
@[simp] theorem Lock.u_at1 (e : Lock) (K : U → Option α) : U.fieldAt 1 1 e.u K = K (.int .i64 e.owner) := rfl
@[simp] theorem Lock.u_flat (e : Lock) : e.u.flat = true := rfl
@[simp] theorem Lock.u_asFlat (e : Lock) (K : U → Option α) : U.asFlat e.u K = K e.u := rfl
@[simp] theorem Lock.u_eqv (x y : Lock) : U.eqv 4 x.u y.u = some (decide (x = y)) := by
  obtain ⟨a0, a1⟩ := x
  obtain ⟨b0, b1⟩ := y
  simp only [Lock.mk.injEq]
  show (if 2 = 2 then eqInts _ _ else none) = _
  simp only [if_true, eqInts_cons, eqInts_nil, Option.map_some, Bool.decide_and, Bool.and_true]
  rfl

structure Wait where
  id : Int
  for_ : Int
  deriving DecidableEq
theorem Wait.eq_iff (x y : Wait) : x = y ↔ x.id = y.id ∧ x.for_ = y.for_ := by cases x; cases y; simp only [Wait.mk.injEq]
def Wait.u (e : Wait) : U := .agg [.int .i64 e.id, .int .i64 e.for_]
@[simp] theorem Wait.u_size (e : Wait) : e.u.size = 2 := rfl
@[simp] theorem Wait.u_var (e : Wait) (K : U → Option α) : U.asVar true 2 e.u K = K e.u := rfl
@[simp] theorem Wait.u_storable (e : Wait) : storable (.val e.u) = true := rfl
@[simp] theorem Wait.u_noTup (e : Wait) (K : U → Option α) : U.noTup e.u K = K e.u := rfl
@[simp] theorem Wait.u_agg (e : Wait) (K : List U → Option α) : U.asAgg e.u K = K [.int .i64 e.id, .int .i64 e.for_] := rfl
@[simp] theorem Wait.u_at0 (e : Wait) (K : U → Option α) : U.fieldAt 0 0 e.u K = K (.int .i64 e.id) := rfl
@[simp] theorem Wait.u_at1 (e : Wait) (K : U → Option α) : U.fieldAt 1 1 e.u K = K (.int .i64 e.for_) := rfl
@[simp] theorem Wait.u_flat (e : Wait) : e.u.flat = true := rfl
@[simp] theorem Wait.u_asFlat (e : Wait) (K : U → Option α) : U.asFlat e.u K = K e.u := rfl
@[simp] theorem Wait.u_eqv (x y : Wait) : U.eqv 4 x.u y.u = some (decide (x = y)) := by
  obtain ⟨a0, a1⟩ := x
  obtain ⟨b0, b1⟩ := y
  simp only [Wait.mk.injEq]
  show (if 2 = 2 then eqInts _ _ else none) = _
  simp only [if_true, eqInts_cons, eqInts_nil, Option.map_some, Bool.decide_and, Bool.and_true]
  rfl

structure Version where
  writer : Int
  value : Int
  created : Int
  reader : Int
  successor : Int
  deriving DecidableEq
theorem Version.eq_iff (x y : Version) : x = y ↔ x.writer = y.writer ∧ x.value = y.value ∧ x.created = y.created ∧ x.reader = y.reader ∧ x.successor = y.successor := by cases x; cases y; simp only [Version.mk.injEq]
def Version.u (e : Version) : U := .agg [.int .i64 e.writer, .int .i64 e.value, .int .i64 e.created, .int .i64 e.reader, .int .i64 e.successor]
@[simp] theorem Version.u_size (e : Version) : e.u.size = 5 := rfl
@[simp] theorem Version.u_var (e : Version) (K : U → Option α) : U.asVar true 5 e.u K = K e.u := rfl
@[simp] theorem Version.u_storable (e : Version) : storable (.val e.u) = true := rfl
@[simp] theorem Version.u_noTup (e : Version) (K : U → Option α) : U.noTup e.u K = K e.u := rfl
@[simp] theorem Version.u_agg (e : Version) (K : List U → Option α) : U.asAgg e.u K = K [.int .i64 e.writer, .int .i64 e.value, .int .i64 e.created, .int .i64 e.reader, .int .i64 e.successor] := rfl
@[simp] theorem Version.u_at0 (e : Version) (K : U → Option α) : U.fieldAt 0 0 e.u K = K (.int .i64 e.writer) := rfl
@[simp] theorem Version.u_at1 (e : Version) (K : U → Option α) : U.fieldAt 1 1 e.u K = K (.int .i64 e.value) := rfl
@[simp] theorem Version.u_at2 (e : Version) (K : U → Option α) : U.fieldAt 2 2 e.u K = K (.int .i64 e.created) := rfl
@[simp] theorem Version.u_at3 (e : Version) (K : U → Option α) : U.fieldAt 3 3 e.u K = K (.int .i64 e.reader) := rfl
@[simp] theorem Version.u_at4 (e : Version) (K : U → Option α) : U.fieldAt 4 4 e.u K = K (.int .i64 e.successor) := rfl
@[simp] theorem Version.u_flat (e : Version) : e.u.flat = true := rfl
@[simp] theorem Version.u_asFlat (e : Version) (K : U → Option α) : U.asFlat e.u K = K e.u := rfl
@[simp] theorem Version.u_eqv (x y : Version) : U.eqv 7 x.u y.u = some (decide (x = y)) := by
  obtain ⟨a0, a1, a2, a3, a4⟩ := x
  obtain ⟨b0, b1, b2, b3, b4⟩ := y
  simp only [Version.mk.injEq]
  show (if 5 = 5 then eqInts _ _ else none) = _
  simp only [if_true, eqInts_cons, eqInts_nil, Option.map_some, Bool.decide_and, Bool.and_true]
  rfl

structure Entry where
  id : Int
  stamp : Int
  reads : List ReadMark
  writes : List Write
  deriving DecidableEq
theorem Entry.eq_iff (x y : Entry) : x = y ↔ x.id = y.id ∧ x.stamp = y.stamp ∧ x.reads = y.reads ∧ x.writes = y.writes := by cases x; cases y; simp only [Entry.mk.injEq]
def Entry.u (e : Entry) : U := .agg [.int .i64 e.id, .int .i64 e.stamp, .sl 2 (e.reads.map ReadMark.u), .sl 2 (e.writes.map Write.u)]
@[simp] theorem Entry.u_size (e : Entry) : e.u.size = 4 := rfl
@[simp] theorem Entry.u_var (e : Entry) (K : U → Option α) : U.asVar true 4 e.u K = K e.u := rfl
@[simp] theorem Entry.u_storable (e : Entry) : storable (.val e.u) = true := rfl
@[simp] theorem Entry.u_noTup (e : Entry) (K : U → Option α) : U.noTup e.u K = K e.u := rfl
@[simp] theorem Entry.u_agg (e : Entry) (K : List U → Option α) : U.asAgg e.u K = K [.int .i64 e.id, .int .i64 e.stamp, .sl 2 (e.reads.map ReadMark.u), .sl 2 (e.writes.map Write.u)] := rfl
@[simp] theorem Entry.u_at0 (e : Entry) (K : U → Option α) : U.fieldAt 0 0 e.u K = K (.int .i64 e.id) := rfl
@[simp] theorem Entry.u_at1 (e : Entry) (K : U → Option α) : U.fieldAt 1 1 e.u K = K (.int .i64 e.stamp) := rfl
@[simp] theorem Entry.u_at2 (e : Entry) (K : U → Option α) : U.fieldAt 2 2 e.u K = K (.sl 2 (e.reads.map ReadMark.u)) := rfl
@[simp] theorem Entry.u_at3 (e : Entry) (K : U → Option α) : U.fieldAt 3 3 e.u K = K (.sl 2 (e.writes.map Write.u)) := rfl

structure LogRecord where
  stamp : Int
  id : Int
  high : Int
  safe : Int
  reads : List ReadMark
  writes : List Write
  deriving DecidableEq
theorem LogRecord.eq_iff (x y : LogRecord) : x = y ↔ x.stamp = y.stamp ∧ x.id = y.id ∧ x.high = y.high ∧ x.safe = y.safe ∧ x.reads = y.reads ∧ x.writes = y.writes := by cases x; cases y; simp only [LogRecord.mk.injEq]
def LogRecord.u (e : LogRecord) : U := .agg [.int .i64 e.stamp, .int .i64 e.id, .int .i64 e.high, .int .i64 e.safe, .sl 2 (e.reads.map ReadMark.u), .sl 2 (e.writes.map Write.u)]
@[simp] theorem LogRecord.u_size (e : LogRecord) : e.u.size = 6 := rfl
@[simp] theorem LogRecord.u_var (e : LogRecord) (K : U → Option α) : U.asVar true 6 e.u K = K e.u := rfl
@[simp] theorem LogRecord.u_storable (e : LogRecord) : storable (.val e.u) = true := rfl
@[simp] theorem LogRecord.u_noTup (e : LogRecord) (K : U → Option α) : U.noTup e.u K = K e.u := rfl
@[simp] theorem LogRecord.u_agg (e : LogRecord) (K : List U → Option α) : U.asAgg e.u K = K [.int .i64 e.stamp, .int .i64 e.id, .int .i64 e.high, .int .i64 e.safe, .sl 2 (e.reads.map ReadMark.u), .sl 2 (e.writes.map Write.u)] := rfl
@[simp] theorem LogRecord.u_at0 (e : LogRecord) (K : U → Option α) : U.fieldAt 0 0 e.u K = K (.int .i64 e.stamp) := rfl
@[simp] theorem LogRecord.u_at1 (e : LogRecord) (K : U → Option α) : U.fieldAt 1 1 e.u K = K (.int .i64 e.id) := rfl
@[simp] theorem LogRecord.u_at2 (e : LogRecord) (K : U → Option α) : U.fieldAt 2 2 e.u K = K (.int .i64 e.high) := rfl
@[simp] theorem LogRecord.u_at3 (e : LogRecord) (K : U → Option α) : U.fieldAt 3 3 e.u K = K (.int .i64 e.safe) := rfl
@[simp] theorem LogRecord.u_at4 (e : LogRecord) (K : U → Option α) : U.fieldAt 4 4 e.u K = K (.sl 2 (e.reads.map ReadMark.u)) := rfl
@[simp] theorem LogRecord.u_at5 (e : LogRecord) (K : U → Option α) : U.fieldAt 5 5 e.u K = K (.sl 2 (e.writes.map Write.u)) := rfl

structure Transaction where
  id : Int
  scheme : Int
  state : Int
  begin_ : Int
  low : Int
  high : Int
  commit : Int
  reads : List ReadMark
  writes : List Write
  deriving DecidableEq
theorem Transaction.eq_iff (x y : Transaction) : x = y ↔ x.id = y.id ∧ x.scheme = y.scheme ∧ x.state = y.state ∧ x.begin_ = y.begin_ ∧ x.low = y.low ∧ x.high = y.high ∧ x.commit = y.commit ∧ x.reads = y.reads ∧ x.writes = y.writes := by cases x; cases y; simp only [Transaction.mk.injEq]
def Transaction.u (e : Transaction) : U := .agg [.int .i64 e.id, .int .i64 e.scheme, .int .i64 e.state, .int .i64 e.begin_, .int .i64 e.low, .int .i64 e.high, .int .i64 e.commit, .sl 2 (e.reads.map ReadMark.u), .sl 2 (e.writes.map Write.u)]
@[simp] theorem Transaction.u_size (e : Transaction) : e.u.size = 9 := rfl
@[simp] theorem Transaction.u_var (e : Transaction) (K : U → Option α) : U.asVar true 9 e.u K = K e.u := rfl
@[simp] theorem Transaction.u_storable (e : Transaction) : storable (.val e.u) = true := rfl
@[simp] theorem Transaction.u_noTup (e : Transaction) (K : U → Option α) : U.noTup e.u K = K e.u := rfl
@[simp] theorem Transaction.u_agg (e : Transaction) (K : List U → Option α) : U.asAgg e.u K = K [.int .i64 e.id, .int .i64 e.scheme, .int .i64 e.state, .int .i64 e.begin_, .int .i64 e.low, .int .i64 e.high, .int .i64 e.commit, .sl 2 (e.reads.map ReadMark.u), .sl 2 (e.writes.map Write.u)] := rfl
@[simp] theorem Transaction.u_at0 (e : Transaction) (K : U → Option α) : U.fieldAt 0 0 e.u K = K (.int .i64 e.id) := rfl
@[simp] theorem Transaction.u_at1 (e : Transaction) (K : U → Option α) : U.fieldAt 1 1 e.u K = K (.int .i64 e.scheme) := rfl
@[simp] theorem Transaction.u_at2 (e : Transaction) (K : U → Option α) : U.fieldAt 2 2 e.u K = K (.int .i64 e.state) := rfl
@[simp] theorem Transaction.u_at3 (e : Transaction) (K : U → Option α) : U.fieldAt 3 3 e.u K = K (.int .i64 e.begin_) := rfl
@[simp] theorem Transaction.u_at4 (e : Transaction) (K : U → Option α) : U.fieldAt 4 4 e.u K = K (.int .i64 e.low) := rfl
@[simp] theorem Transaction.u_at5 (e : Transaction) (K : U → Option α) : U.fieldAt 5 5 e.u K = K (.int .i64 e.high) := rfl
@[simp] theorem Transaction.u_at6 (e : Transaction) (K : U → Option α) : U.fieldAt 6 6 e.u K = K (.int .i64 e.commit) := rfl
@[simp] theorem Transaction.u_at7 (e : Transaction) (K : U → Option α) : U.fieldAt 7 7 e.u K = K (.sl 2 (e.reads.map ReadMark.u)) := rfl
@[simp] theorem Transaction.u_at8 (e : Transaction) (K : U → Option α) : U.fieldAt 8 8 e.u K = K (.sl 2 (e.writes.map Write.u)) := rfl

structure Op where
  kind : Int
  id : Int
  scheme : Int
  key : Int
  high : Int
  value : Int
  deriving DecidableEq
theorem Op.eq_iff (x y : Op) : x = y ↔ x.kind = y.kind ∧ x.id = y.id ∧ x.scheme = y.scheme ∧ x.key = y.key ∧ x.high = y.high ∧ x.value = y.value := by cases x; cases y; simp only [Op.mk.injEq]
def Op.u (e : Op) : U := .agg [.int .i64 e.kind, .int .i64 e.id, .int .i64 e.scheme, .int .i64 e.key, .int .i64 e.high, .int .i64 e.value]
@[simp] theorem Op.u_size (e : Op) : e.u.size = 6 := rfl
@[simp] theorem Op.u_var (e : Op) (K : U → Option α) : U.asVar true 6 e.u K = K e.u := rfl
@[simp] theorem Op.u_storable (e : Op) : storable (.val e.u) = true := rfl
@[simp] theorem Op.u_noTup (e : Op) (K : U → Option α) : U.noTup e.u K = K e.u := rfl
@[simp] theorem Op.u_agg (e : Op) (K : List U → Option α) : U.asAgg e.u K = K [.int .i64 e.kind, .int .i64 e.id, .int .i64 e.scheme, .int .i64 e.key, .int .i64 e.high, .int .i64 e.value] := rfl
@[simp] theorem Op.u_at0 (e : Op) (K : U → Option α) : U.fieldAt 0 0 e.u K = K (.int .i64 e.kind) := rfl
@[simp] theorem Op.u_at1 (e : Op) (K : U → Option α) : U.fieldAt 1 1 e.u K = K (.int .i64 e.id) := rfl
@[simp] theorem Op.u_at2 (e : Op) (K : U → Option α) : U.fieldAt 2 2 e.u K = K (.int .i64 e.scheme) := rfl
@[simp] theorem Op.u_at3 (e : Op) (K : U → Option α) : U.fieldAt 3 3 e.u K = K (.int .i64 e.key) := rfl
@[simp] theorem Op.u_at4 (e : Op) (K : U → Option α) : U.fieldAt 4 4 e.u K = K (.int .i64 e.high) := rfl
@[simp] theorem Op.u_at5 (e : Op) (K : U → Option α) : U.fieldAt 5 5 e.u K = K (.int .i64 e.value) := rfl
@[simp] theorem Op.u_flat (e : Op) : e.u.flat = true := rfl
@[simp] theorem Op.u_asFlat (e : Op) (K : U → Option α) : U.asFlat e.u K = K e.u := rfl
@[simp] theorem Op.u_eqv (x y : Op) : U.eqv 8 x.u y.u = some (decide (x = y)) := by
  obtain ⟨a0, a1, a2, a3, a4, a5⟩ := x
  obtain ⟨b0, b1, b2, b3, b4, b5⟩ := y
  simp only [Op.mk.injEq]
  show (if 6 = 6 then eqInts _ _ else none) = _
  simp only [if_true, eqInts_cons, eqInts_nil, Option.map_some, Bool.decide_and, Bool.and_true]
  rfl

structure StepR where
  code : Int
  values : List Int
  deriving DecidableEq
theorem StepR.eq_iff (x y : StepR) : x = y ↔ x.code = y.code ∧ x.values = y.values := by cases x; cases y; simp only [StepR.mk.injEq]
def StepR.u (e : StepR) : U := .agg [.int .i64 e.code, .sl 1 (e.values.map intU)]
@[simp] theorem StepR.u_size (e : StepR) : e.u.size = 2 := rfl
@[simp] theorem StepR.u_var (e : StepR) (K : U → Option α) : U.asVar true 2 e.u K = K e.u := rfl
@[simp] theorem StepR.u_storable (e : StepR) : storable (.val e.u) = true := rfl
@[simp] theorem StepR.u_noTup (e : StepR) (K : U → Option α) : U.noTup e.u K = K e.u := rfl
@[simp] theorem StepR.u_agg (e : StepR) (K : List U → Option α) : U.asAgg e.u K = K [.int .i64 e.code, .sl 1 (e.values.map intU)] := rfl
@[simp] theorem StepR.u_at0 (e : StepR) (K : U → Option α) : U.fieldAt 0 0 e.u K = K (.int .i64 e.code) := rfl
@[simp] theorem StepR.u_at1 (e : StepR) (K : U → Option α) : U.fieldAt 1 1 e.u K = K (.sl 1 (e.values.map intU)) := rfl

def chainU (l : List Version) : U := .sl 5 (l.map Version.u)
@[simp] theorem chainU_size (l : List Version) : (chainU l).size = 1 := rfl
@[simp] theorem asVar_chainU (l : List Version) (K : U → Option α) : U.asVar false 1 (chainU l) K = K (chainU l) := rfl
@[simp] theorem storable_chainU (l : List Version) : storable (.val (chainU l)) = true := rfl
@[simp] theorem noTup_chainU (l : List Version) (K : U → Option α) : U.noTup (chainU l) K = K (chainU l) := rfl
@[simp] theorem lenOf_chainU (l : List Version) : U.lenOf false (chainU l) = some l.length := by simp [chainU]
@[simp] theorem elemAt_chainU (l : List Version) (i : Int) (K : U → Option α) : U.elemAt 5 (chainU l) i K = U.elemAt 5 (.sl 5 (l.map Version.u)) i K := rfl

structure Store where
  chains : List (List Version)
  deriving DecidableEq
theorem Store.eq_iff (x y : Store) : x = y ↔ x.chains = y.chains := by cases x; cases y; simp only [Store.mk.injEq]
def Store.u (e : Store) : U := .agg [.sl 1 (e.chains.map chainU)]
@[simp] theorem Store.u_size (e : Store) : e.u.size = 1 := rfl
@[simp] theorem Store.u_var (e : Store) (K : U → Option α) : U.asVar true 1 e.u K = K e.u := rfl
@[simp] theorem Store.u_storable (e : Store) : storable (.val e.u) = true := rfl
@[simp] theorem Store.u_noTup (e : Store) (K : U → Option α) : U.noTup e.u K = K e.u := rfl
@[simp] theorem Store.u_agg (e : Store) (K : List U → Option α) : U.asAgg e.u K = K [.sl 1 (e.chains.map chainU)] := rfl
@[simp] theorem Store.u_at0 (e : Store) (K : U → Option α) : U.fieldAt 0 0 e.u K = K (.sl 1 (e.chains.map chainU)) := rfl

structure Engine where
  certify : Bool
  store : Store
  transactions : List Transaction
  locks : List Lock
  waits : List Wait
  stamp : Int
  deriving DecidableEq
theorem Engine.eq_iff (x y : Engine) : x = y ↔ x.certify = y.certify ∧ x.store = y.store ∧ x.transactions = y.transactions ∧ x.locks = y.locks ∧ x.waits = y.waits ∧ x.stamp = y.stamp := by cases x; cases y; simp only [Engine.mk.injEq]
def Engine.u (e : Engine) : U := .agg [.bool e.certify, e.store.u, .sl 9 (e.transactions.map Transaction.u), .sl 2 (e.locks.map Lock.u), .sl 2 (e.waits.map Wait.u), .int .i64 e.stamp]
@[simp] theorem Engine.u_size (e : Engine) : e.u.size = 6 := rfl
@[simp] theorem Engine.u_var (e : Engine) (K : U → Option α) : U.asVar true 6 e.u K = K e.u := rfl
@[simp] theorem Engine.u_storable (e : Engine) : storable (.val e.u) = true := rfl
@[simp] theorem Engine.u_noTup (e : Engine) (K : U → Option α) : U.noTup e.u K = K e.u := rfl
@[simp] theorem Engine.u_agg (e : Engine) (K : List U → Option α) : U.asAgg e.u K = K [.bool e.certify, e.store.u, .sl 9 (e.transactions.map Transaction.u), .sl 2 (e.locks.map Lock.u), .sl 2 (e.waits.map Wait.u), .int .i64 e.stamp] := rfl
@[simp] theorem Engine.u_at0 (e : Engine) (K : U → Option α) : U.fieldAt 0 0 e.u K = K (.bool e.certify) := rfl
@[simp] theorem Engine.u_at1 (e : Engine) (K : U → Option α) : U.fieldAt 1 1 e.u K = K (e.store.u) := rfl
@[simp] theorem Engine.u_at2 (e : Engine) (K : U → Option α) : U.fieldAt 2 2 e.u K = K (.sl 9 (e.transactions.map Transaction.u)) := rfl
@[simp] theorem Engine.u_at3 (e : Engine) (K : U → Option α) : U.fieldAt 3 3 e.u K = K (.sl 2 (e.locks.map Lock.u)) := rfl
@[simp] theorem Engine.u_at4 (e : Engine) (K : U → Option α) : U.fieldAt 4 4 e.u K = K (.sl 2 (e.waits.map Wait.u)) := rfl
@[simp] theorem Engine.u_at5 (e : Engine) (K : U → Option α) : U.fieldAt 5 5 e.u K = K (.int .i64 e.stamp) := rfl

structure Node where
  engine : Engine
  log : ByteArray
  deriving DecidableEq
theorem Node.eq_iff (x y : Node) : x = y ↔ x.engine = y.engine ∧ x.log = y.log := by cases x; cases y; simp only [Node.mk.injEq]
def Node.u (e : Node) : U := .agg [e.engine.u, .str e.log]
@[simp] theorem Node.u_size (e : Node) : e.u.size = 7 := rfl
@[simp] theorem Node.u_var (e : Node) (K : U → Option α) : U.asVar true 7 e.u K = K e.u := rfl
@[simp] theorem Node.u_storable (e : Node) : storable (.val e.u) = true := rfl
@[simp] theorem Node.u_noTup (e : Node) (K : U → Option α) : U.noTup e.u K = K e.u := rfl
@[simp] theorem Node.u_agg (e : Node) (K : List U → Option α) : U.asAgg e.u K = K [e.engine.u, .str e.log] := rfl
@[simp] theorem Node.u_at0 (e : Node) (K : U → Option α) : U.fieldAt 0 0 e.u K = K (e.engine.u) := rfl
@[simp] theorem Node.u_at1 (e : Node) (K : U → Option α) : U.fieldAt 1 6 e.u K = K (.str e.log) := rfl

structure Report where
  order : List Int
  cycle : List Int
  kind : Int
  deriving DecidableEq
theorem Report.eq_iff (x y : Report) : x = y ↔ x.order = y.order ∧ x.cycle = y.cycle ∧ x.kind = y.kind := by cases x; cases y; simp only [Report.mk.injEq]
def Report.u (e : Report) : U := .agg [.sl 1 (e.order.map intU), .sl 1 (e.cycle.map intU), .int .i64 e.kind]
@[simp] theorem Report.u_size (e : Report) : e.u.size = 3 := rfl
@[simp] theorem Report.u_var (e : Report) (K : U → Option α) : U.asVar true 3 e.u K = K e.u := rfl
@[simp] theorem Report.u_storable (e : Report) : storable (.val e.u) = true := rfl
@[simp] theorem Report.u_noTup (e : Report) (K : U → Option α) : U.noTup e.u K = K e.u := rfl
@[simp] theorem Report.u_agg (e : Report) (K : List U → Option α) : U.asAgg e.u K = K [.sl 1 (e.order.map intU), .sl 1 (e.cycle.map intU), .int .i64 e.kind] := rfl
@[simp] theorem Report.u_at0 (e : Report) (K : U → Option α) : U.fieldAt 0 0 e.u K = K (.sl 1 (e.order.map intU)) := rfl
@[simp] theorem Report.u_at1 (e : Report) (K : U → Option α) : U.fieldAt 1 1 e.u K = K (.sl 1 (e.cycle.map intU)) := rfl
@[simp] theorem Report.u_at2 (e : Report) (K : U → Option α) : U.fieldAt 2 2 e.u K = K (.int .i64 e.kind) := rfl

end Go.Proofs.Ytmebdbagcbgddaa.Am
/-
  What the functions on lists of edges compute.
-/
namespace Go.Proofs.Ytmebdbagcbgddaa.Am
open Go
variable {E : Env}

/-- Is n in a range? -/
def inR (n lo hi : Int) : Bool := decide (lo ≤ n ∧ n ≤ hi)

theorem spec_l1In_is (h : G_spec_l1In E) (n lo hi : Int) : E 6 [.int .i64 n, .int .i64 lo, .int .i64 hi] = some (.bool (inR n lo hi)) := by
  rw [spec_l1In_E h]
  by_cases h1 : lo ≤ n <;> simp [inR, h1]
theorem impl_in_is (h : G_impl_in E) (n lo hi : Int) : E 10 [.int .i64 n, .int .i64 lo, .int .i64 hi] = some (.bool (inR n lo hi)) := by
  rw [impl_in_E h]
  by_cases h1 : lo ≤ n <;> simp [inR, h1]
theorem impl_isID_is (h : G_impl_isID E) (n : Int) : E 9 [.int .i64 n] = some (.bool (inR n 1 9)) := by
  rw [impl_isID_E h]; simp [impl_in_is h.c_impl_in]
theorem impl_isKey_is (h : G_impl_isKey E) (n : Int) : E 11 [.int .i64 n] = some (.bool (inR n 0 5)) := by
  rw [impl_isKey_E h]; simp [impl_in_is h.c_impl_in]

def cmpI (a b : Int) : Int := if a < b then -1 else if b < a then 1 else 0
theorem cmp_isNaN_is (h : G_cmp_isNaN_g15 E) (n : Int) : E 15 [.int .i64 n] = some (.bool false) := by
  rw [cmp_isNaN_g15_E h]; simp
theorem cmp_Compare_is (h : G_cmp_Compare_g13 E) (a b : Int) : E 13 [.int .i64 a, .int .i64 b] = some (.int .i64 (cmpI a b)) := by
  rw [cmp_Compare_g13_E h]
  simp only [cmp_isNaN_is h.c_cmp_isNaN_g15, cmpI]
  by_cases h1 : a < b <;> by_cases h2 : b < a <;> simp [h1, h2]

/-- The first that is not 0. -/
def cmpOr : List Int → Int
  | [] => 0
  | n :: l => if n = 0 then cmpOr l else n
theorem cmp_Or_l0_is (l : List Int) (hl : l.length ≤ 1000) : ∀ (r p : List Int) (i : Int), l = p ++ r → i = p.length → cmp_Or_g14_l0 E (.int .i64 0) (intsU l) (.int .i64 l.length) (.int .i64 i) = some (.int .i64 (cmpOr r))
  | [], p, i, e, hi => by
    rw [cmp_Or_g14_l0_eq]
    simp [mid_end e hi, cmpOr]
  | x :: r, p, i, e, hi => by
    obtain ⟨h0, hlt, hx, hw, hn, _⟩ := mid_at e hi (by omega)
    have ih := cmp_Or_l0_is l hl r (p ++ [x]) (i + 1) (mid_next e) hn
    rw [cmp_Or_g14_l0_eq]
    simp [h0, hlt, hx, hw, cmpOr, ih]
    split <;> simp_all
theorem cmp_Or_is (h : G_cmp_Or_g14 E) (l : List Int) (hl : l.length ≤ 1000) : E 14 [intsU l] = some (.int .i64 (cmpOr l)) := by
  rw [cmp_Or_g14_E h]
  simp [cmp_Or_l0_is (E := E) l hl l [] 0 rfl rfl]

/-- The order of edges: by From, To, Kind and Key. -/
def edgeLt (a b : Edge) : Bool :=
  if a.frm ≠ b.frm then decide (a.frm < b.frm) else if a.to ≠ b.to then decide (a.to < b.to) else if a.kind ≠ b.kind then decide (a.kind < b.kind) else decide (a.key < b.key)

def edgeCmp (a b : Edge) : Int := cmpOr [cmpI a.frm b.frm, cmpI a.to b.to, cmpI a.kind b.kind, cmpI a.key b.key]

theorem cmpI_zero {a b : Int} : cmpI a b = 0 ↔ a = b := by unfold cmpI; split <;> (try split) <;> omega
theorem cmpI_neg {a b : Int} : cmpI a b < 0 ↔ a < b := by unfold cmpI; split <;> (try split) <;> omega

theorem edgeCmp_neg (a b : Edge) : edgeCmp a b < 0 ↔ edgeLt a b = true := by
  unfold edgeCmp edgeLt
  simp only [cmpOr, cmpI_zero]
  by_cases h1 : a.frm = b.frm <;> by_cases h2 : a.to = b.to <;> by_cases h3 : a.kind = b.kind <;> by_cases h4 : a.key = b.key <;> simp [h1, h2, h3, h4, cmpI_neg]

theorem impl_compareEdges_is (h : G_impl_compareEdges E) (a b : Edge) : E 12 [a.u, b.u] = some (.int .i64 (edgeCmp a b)) := by
  rw [impl_compareEdges_E h]
  have := cmp_Or_is h.c_cmp_Or_g14 [cmpI a.frm b.frm, cmpI a.to b.to, cmpI a.kind b.kind, cmpI a.key b.key] (by simp)
  simp only [intsU, List.map_cons, List.map_nil, intU] at this
  simp [cmp_Compare_is h.c_cmp_Compare_g13, this, edgeCmp]

theorem spec_l19Less_is (h : G_spec_l19Less E) (a b : Edge) : E 7 [a.u, b.u] = some (.bool (edgeLt a b)) := by
  rw [spec_l19Less_E h]
  by_cases h1 : a.frm = b.frm <;> by_cases h2 : a.to = b.to <;> by_cases h3 : a.kind = b.kind <;> simp [h1, h2, h3, edgeLt]

/-- Is an edge right by itself? -/
def edgeOK (e : Edge) : Bool := inR e.frm 1 9 && inR e.to 1 9 && !decide (e.frm = e.to) && inR e.kind 1 3 && inR e.key 0 5

/-- The rest of a list of edges behind p. -/
def edgesFrom : Option Edge → List Edge → Bool
  | _, [] => true
  | p, e :: r => edgeOK e && (match p with | none => true | some q => edgeLt q e) && edgesFrom (some e) r

def areEdges (l : List Edge) : Bool := edgesFrom none l

abbrev edgesU (l : List Edge) : U := .sl 4 (l.map Edge.u)

theorem spec_AreEdges_l0_is (h : G_spec_AreEdges E) (l : List Edge) (hl : l.length ≤ 1048576) : ∀ (r p : List Edge) (i : Int), l = p ++ r → i = p.length →
    spec_AreEdges_l0 E (edgesU l) (.int .i64 i) = some (.bool (edgesFrom p.getLast? r))
  | [], p, i, e, hi => by
    rw [spec_AreEdges_l0_eq]
    simp [mid_end e hi, edgesFrom]
  | x :: r, p, i, e, hi => by
    obtain ⟨h0, hlt, hx, hw, hn, _⟩ := mid_at e hi (by omega)
    have ih := spec_AreEdges_l0_is h l hl r (p ++ [x]) (i + 1) (mid_next e) hn
    rw [List.getLast?_concat] at ih
    rw [spec_AreEdges_l0_eq]
    by_cases hp : p = []
    · have hi0 : ¬ 0 < i := by subst hp; simp at hi; omega
      simp [h0, hlt, hx, hw, ih, spec_l1In_is h.c_spec_l1In, edgesFrom, edgeOK, hi0, hp]
      cases inR x.frm 1 9 <;> cases inR x.to 1 9 <;> cases inR x.kind 1 3 <;> cases inR x.key 0 5 <;> by_cases h3 : x.frm = x.to <;> simp [h3]
    · obtain ⟨q, j, hq, hpos, hw1, h1, hq1, _⟩ := mid_last e hi (by omega) hp
      simp [h0, hlt, hx, hw, ih, spec_l1In_is h.c_spec_l1In, edgesFrom, edgeOK, hq, hpos, hw1, h1, hq1, spec_l19Less_is h.c_spec_l19Less]
      cases inR x.frm 1 9 <;> cases inR x.to 1 9 <;> cases inR x.kind 1 3 <;> cases inR x.key 0 5 <;> by_cases h3 : x.frm = x.to <;> cases edgeLt q x <;> simp [h3]
theorem spec_AreEdges_is (h : G_spec_AreEdges E) (l : List Edge) (hl : l.length ≤ 1048576) : E 4 [edgesU l] = some (.bool (areEdges l)) := by
  rw [spec_AreEdges_E h]
  simp [spec_AreEdges_l0_is h l hl l [] 0 rfl rfl, areEdges]

theorem impl_AreEdges_l0_is (h : G_impl_AreEdges E) (l : List Edge) (hl : l.length ≤ 1048576) : ∀ (r p : List Edge) (i : Int), l = p ++ r → i = p.length →
    impl_AreEdges_l0 E (edgesU l) (edgesU l) (.int .i64 l.length) (.int .i64 i) = some (.bool (edgesFrom p.getLast? r))
  | [], p, i, e, hi => by
    rw [impl_AreEdges_l0_eq]
    simp [mid_end e hi, edgesFrom]
  | x :: r, p, i, e, hi => by
    obtain ⟨h0, hlt, hx, hw, hn, _⟩ := mid_at e hi (by omega)
    have ih := impl_AreEdges_l0_is h l hl r (p ++ [x]) (i + 1) (mid_next e) hn
    rw [List.getLast?_concat] at ih
    rw [impl_AreEdges_l0_eq]
    by_cases hp : p = []
    · have hi0 : ¬ 0 < i := by subst hp; simp at hi; omega
      simp [h0, hlt, hx, hw, ih, impl_isID_is h.c_impl_isID, impl_in_is h.c_impl_in, impl_isKey_is h.c_impl_isKey, edgesFrom, edgeOK, hi0, hp]
      cases inR x.frm 1 9 <;> cases inR x.to 1 9 <;> cases inR x.kind 1 3 <;> cases inR x.key 0 5 <;> by_cases h3 : x.frm = x.to <;> simp [h3]
    · obtain ⟨q, j, hq, hpos, hw1, h1, hq1, _⟩ := mid_last e hi (by omega) hp
      have hc := edgeCmp_neg q x
      simp [h0, hlt, hx, hw, ih, impl_isID_is h.c_impl_isID, impl_in_is h.c_impl_in, impl_isKey_is h.c_impl_isKey, edgesFrom, edgeOK, hq, hpos, hw1, h1, hq1, impl_compareEdges_is h.c_impl_compareEdges]
      cases inR x.frm 1 9 <;> cases inR x.to 1 9 <;> cases inR x.kind 1 3 <;> cases inR x.key 0 5 <;> by_cases h3 : x.frm = x.to <;> cases h4 : edgeLt q x <;> simp_all <;> omega
theorem impl_AreEdges_is (h : G_impl_AreEdges E) (l : List Edge) (hl : l.length ≤ 1048576) : E 3 [edgesU l] = some (.bool (areEdges l)) := by
  rw [impl_AreEdges_E h]
  simp [impl_AreEdges_l0_is h l hl l [] 0 rfl rfl, areEdges]
end Go.Proofs.Ytmebdbagcbgddaa.Am
/-
  What the plain proofs of the laws' own helpers share.
-/
namespace Go.Proofs.Ytmebdbagcbgddaa.Am
open Go

/-- What is left of a budget behind n pieces; -1: nothing. -/
def szc (n : Nat) (left : Int) : Int := if left - n < 0 then -1 else left - n

def szl {α : Type} (f : α → Int → Int) : List α → Int → Int
  | [], left => left
  | x :: r, left => if f x left < 0 then -1 else szl f r (f x left)

def szL {α : Type} (f : α → Int → Int) (l : List α) (left : Int) : Int := if left - (l.length : Int) < 0 then -1 else szl f l (left - l.length)

/-- A measure that bounds what it measures. -/
def Szs {α : Type} (f : α → Int → Int) (ok : α → Prop) : Prop := ∀ x left, 0 ≤ left → left ≤ 1048576 → f x left < 0 ∨ (ok x ∧ 0 ≤ f x left ∧ f x left ≤ left)

theorem szc_szs : Szs szc (fun n => n ≤ 1048576) := fun n left h0 h1 => by
  unfold szc
  split
  · left; omega
  · right; refine ⟨by omega, by omega, by omega⟩

theorem szc_neg {n : Nat} {left : Int} (h : szc n left < 0) : szc n left = -1 := by
  unfold szc at h ⊢
  split at h
  · rename_i h1; rw [if_pos h1]
  · rename_i h1; omega

theorem szl_szs {α : Type} {f : α → Int → Int} {ok : α → Prop} (h : Szs f ok) : Szs (szl f) (fun l => ∀ x ∈ l, ok x) := fun l => by
  induction l with
  | nil => exact fun left h0 _ => .inr ⟨by simp, h0, Int.le_refl _⟩
  | cons x r ih =>
    intro left h0 h1
    rcases h x left h0 h1 with h2 | ⟨h2, h3, h4⟩
    · left; simp [szl, h2]
    · have h5 : ¬ f x left < 0 := by omega
      simp only [szl, h5, if_false]
      rcases ih _ h3 (by omega) with h6 | ⟨h6, h7, h8⟩
      · exact .inl h6
      · exact .inr ⟨by simpa using ⟨h2, h6⟩, h7, by omega⟩

theorem szL_szs {α : Type} {f : α → Int → Int} {ok : α → Prop} (h : Szs f ok) : Szs (szL f) (fun l => l.length ≤ 1048576 ∧ ∀ x ∈ l, ok x) := fun l left h0 h1 => by
  unfold szL
  split
  · left; omega
  · rcases szl_szs h l (left - l.length) (by omega) (by omega) with h6 | ⟨h6, h7, h8⟩
    · exact .inl h6
    · exact .inr ⟨⟨by omega, h6⟩, h7, by omega⟩

theorem mid_set {α : Type} (f : α → U) (p : List α) (z : U) (c : List U) {i : Int} (hi : i = p.length) :
    (p.map f ++ z :: c)[i.toNat]? = some z ∧ (∀ y, (p.map f ++ z :: c).set i.toNat y = p.map f ++ y :: c) ∧ i < ((p.map f ++ z :: c).length : Int) := by
  subst hi
  refine ⟨by simp, fun y => by simp, by simp; omega⟩
def Entry.fit (e : Entry) : Prop := e.reads.length ≤ maxLen ∧ e.writes.length ≤ maxLen
def Entry.ok (e : Entry) : Prop := e.reads.length ≤ 1048576 ∧ e.writes.length ≤ 1048576
def LogRecord.fit (e : LogRecord) : Prop := e.reads.length ≤ maxLen ∧ e.writes.length ≤ maxLen
def LogRecord.ok (e : LogRecord) : Prop := e.reads.length ≤ 1048576 ∧ e.writes.length ≤ 1048576
def Transaction.fit (e : Transaction) : Prop := e.reads.length ≤ maxLen ∧ e.writes.length ≤ maxLen
def Transaction.ok (e : Transaction) : Prop := e.reads.length ≤ 1048576 ∧ e.writes.length ≤ 1048576

def chainOk (l : List Version) : Prop := l.length ≤ 1048576
def chainFit (l : List Version) : Prop := l.length ≤ maxLen
def chainSz (l : List Version) (left : Int) : Int := szc l.length left
theorem chainSz_szs : Szs chainSz chainOk := fun l left h0 h1 => szc_szs l.length left h0 h1
theorem chainSz_neg {l : List Version} {left : Int} (h : chainSz l left < 0) : chainSz l left = -1 := szc_neg h
theorem szl_neg {α : Type} {f : α → Int → Int} : ∀ {l : List α} {left : Int}, 0 ≤ left → szl f l left < 0 → szl f l left = -1
  | [], left, h0, h => by simp only [szl] at h; omega
  | x :: r, left, h0, h => by
    simp only [szl] at h ⊢
    by_cases h1 : f x left < 0
    · simp [h1]
    · simp only [h1, if_false] at h ⊢
      exact szl_neg (by omega) h
theorem szL_neg {α : Type} {f : α → Int → Int} (_ : ∀ {x : α} {left : Int}, f x left < 0 → f x left = -1) {l : List α} {left : Int} (h : szL f l left < 0) : szL f l left = -1 := by
  unfold szL at h ⊢
  by_cases h1 : left - (l.length : Int) < 0
  · simp [h1]
  · simp only [h1, if_false] at h ⊢
    exact szl_neg (by omega) h

def Store.fit (s : Store) : Prop := s.chains.length ≤ maxLen ∧ ∀ c ∈ s.chains, chainFit c
def Store.ok (s : Store) : Prop := s.chains.length ≤ 1048576 ∧ ∀ c ∈ s.chains, chainOk c
def Store.sz (s : Store) (left : Int) : Int := szL chainSz s.chains left
theorem Store.sz_szs : Szs Store.sz Store.ok := fun s left h0 h1 => szL_szs chainSz_szs s.chains left h0 h1

def Transaction.sz (e : Transaction) (left : Int) : Int := let v := szc e.reads.length left; if v < 0 then -1 else szc e.writes.length v
theorem Transaction.sz_szs : Szs Transaction.sz Transaction.ok := fun e left h0 h1 => by
  unfold Transaction.sz Transaction.ok
  rcases szc_szs e.reads.length left h0 h1 with h | ⟨h2, h3, h4⟩
  · left; simp [h]
  · have h5 : ¬ szc e.reads.length left < 0 := by omega
    rcases szc_szs e.writes.length _ h3 (by omega) with h | ⟨h6, h7, h8⟩
    · left; simp [h5, h]
    · right; simp only [h5, if_false]; exact ⟨⟨h2, h6⟩, h7, by omega⟩

def Engine.fit (e : Engine) : Prop := e.store.fit ∧ e.transactions.length ≤ maxLen ∧ (∀ t ∈ e.transactions, t.fit) ∧ e.locks.length ≤ maxLen ∧ e.waits.length ≤ maxLen
def Engine.ok (e : Engine) : Prop := e.store.ok ∧ e.transactions.length ≤ 1048576 ∧ (∀ t ∈ e.transactions, t.ok) ∧ e.locks.length ≤ 1048576 ∧ e.waits.length ≤ 1048576
def Engine.sz (e : Engine) (left : Int) : Int :=
  if e.store.sz left < 0 then -1 else
  if szL Transaction.sz e.transactions (e.store.sz left) < 0 then -1 else
  if szc e.locks.length (szL Transaction.sz e.transactions (e.store.sz left)) < 0 then -1 else
  szc e.waits.length (szc e.locks.length (szL Transaction.sz e.transactions (e.store.sz left)))
theorem Engine.sz_szs : Szs Engine.sz Engine.ok := fun e left h0 h1 => by
  unfold Engine.sz Engine.ok
  rcases Store.sz_szs e.store left h0 h1 with n1 | ⟨o1, n1, n2⟩
  · left; simp [n1]
  have n3 : ¬ e.store.sz left < 0 := by omega
  rcases szL_szs Transaction.sz_szs e.transactions _ n1 (by omega) with m1 | ⟨⟨o2, o3⟩, m1, m2⟩
  · left; simp [n3, m1]
  have m3 : ¬ szL Transaction.sz e.transactions (e.store.sz left) < 0 := by omega
  rcases szc_szs e.locks.length _ m1 (by omega) with k1 | ⟨o4, k1, k2⟩
  · left; simp [n3, m3, k1]
  have k3 : ¬ szc e.locks.length (szL Transaction.sz e.transactions (e.store.sz left)) < 0 := by omega
  rcases szc_szs e.waits.length _ k1 (by omega) with j1 | ⟨o5, j1, j2⟩
  · left; simp [n3, m3, k3, j1]
  · right
    simp only [n3, m3, k3, if_false]
    exact ⟨⟨o1, o2, o3, o4, o5⟩, j1, by omega⟩
end Go.Proofs.Ytmebdbagcbgddaa.Am
/-
  What the plain proofs of package slices share.
-/
namespace Go.Proofs.Ytmebdbagcbgddaa.Am
open Go

/-- The place of the first element with P, counted from i; -1 if there is none. -/
def idxF {α : Type} (P : α → Bool) : List α → Int → Int
  | [], _ => -1
  | x :: r, i => if P x then i else idxF P r (i + 1)

theorem idxF_any {α : Type} (P : α → Bool) (l : List α) : ∀ {i : Int}, 0 ≤ i → (decide (0 ≤ idxF P l i)) = l.any P := by
  induction l with
  | nil => intro i _; simp [idxF]
  | cons x r ih =>
    intro i hi
    cases h : P x
    · simp [idxF, h, ih (i := i + 1) (by omega)]
    · simp [idxF, h, hi]

theorem idxF_mem {α : Type} [DecidableEq α] (v : α) (l : List α) : ∀ {i : Int}, 0 ≤ i → (decide (0 ≤ idxF (fun x => decide (x = v)) l i)) = decide (v ∈ l) := by
  induction l with
  | nil => intro i _; simp [idxF]
  | cons x r ih =>
    intro i hi
    by_cases h : x = v
    · simp [idxF, h, hi]
    · have h2 : v ≠ x := fun e => h e.symm
      simp only [idxF, h, decide_false, Bool.false_eq_true, if_false, ih (i := i + 1) (by omega)]
      simp [h2]

/-- Where the first is: its place, and that none comes before. -/
theorem idxF_cases {α : Type} (P : α → Bool) (l : List α) : ∀ (i : Int), (idxF P l i = -1 ∧ ∀ x ∈ l, P x = false) ∨ ∃ p x r, l = p ++ x :: r ∧ idxF P l i = i + p.length ∧ P x = true ∧ ∀ y ∈ p, P y = false := by
  induction l with
  | nil => intro i; exact .inl ⟨rfl, by simp⟩
  | cons x r ih =>
    intro i
    cases h : P x with
    | true => exact .inr ⟨[], x, r, rfl, by simp [idxF, h], h, by simp⟩
    | false =>
      rcases ih (i + 1) with ⟨h1, h2⟩ | ⟨p, y, s, h1, h2, h3, h4⟩
      · exact .inl ⟨by simp [idxF, h, h1], by simpa [h] using h2⟩
      · exact .inr ⟨x :: p, y, s, by simp [h1], by simp [idxF, h, h2]; omega, h3, by simpa [h] using h4⟩
end Go.Proofs.Ytmebdbagcbgddaa.Am
/-
  What a function of package slices computes.
-/
namespace Go.Proofs.Ytmebdbagcbgddaa.Am
open Go
variable {E : Env}
set_option linter.unusedVariables false

theorem slices_IndexFunc_g66_l0_is (l : List Edge) (hl : l.length ≤ 9223372036854775807) (q : Nat) (caps : List U) (P : Edge → Bool) (hp : ∀ x ∈ l, E q (Edge.u x :: caps) = some (.bool (P x))) : ∀ (r p : List Edge) (i : Int), l = p ++ r → i = p.length →
    slices_IndexFunc_g66_l0 E (.sl 4 (l.map Edge.u)) (.fn q caps) (.int .i64 l.length) (.int .i64 i) = some (.int .i64 (idxF P r i))
  | [], p, i, e, hi => by
    rw [slices_IndexFunc_g66_l0_eq]
    simp [mid_end e hi, idxF]
  | x :: r, p, i, e, hi => by
    obtain ⟨h0, hlt, hx, hw, hn, _⟩ := mid_at e hi hl
    have hpx := hp x (by rw [e]; simp)
    have ih := slices_IndexFunc_g66_l0_is l hl q caps P hp r (p ++ [x]) (i + 1) (mid_next e) hn
    rw [slices_IndexFunc_g66_l0_eq]
    cases h1 : P x <;> simp [hlt, hx, hw, ih, hpx, h1, idxF]
theorem slices_IndexFunc_g66_is (h : G_slices_IndexFunc_g66 E) (l : List Edge) (hl : l.length ≤ 9223372036854775807) (q : Nat) (caps : List U) (P : Edge → Bool) (hp : ∀ x ∈ l, E q (Edge.u x :: caps) = some (.bool (P x))) :
    E 66 [.sl 4 (l.map Edge.u), .fn q caps] = some (.int .i64 (idxF P l 0)) := by
  rw [slices_IndexFunc_g66_E h]
  simp [slices_IndexFunc_g66_l0_is l hl q caps P hp l [] 0 rfl rfl]
end Go.Proofs.Ytmebdbagcbgddaa.Am
/-
  What a function of package slices computes.
-/
namespace Go.Proofs.Ytmebdbagcbgddaa.Am
open Go
variable {E : Env}
set_option linter.unusedVariables false

theorem slices_ContainsFunc_g65_is (h : G_slices_ContainsFunc_g65 E) (l : List Edge) (hl : l.length ≤ 9223372036854775807) (q : Nat) (caps : List U) (P : Edge → Bool) (hp : ∀ x ∈ l, E q (Edge.u x :: caps) = some (.bool (P x))) :
    E 65 [.sl 4 (l.map Edge.u), .fn q caps] = some (.bool (l.any P)) := by
  rw [slices_ContainsFunc_g65_E h]
  simp [slices_IndexFunc_g66_is h.c_slices_IndexFunc_g66 l hl q caps P hp, idxF_any]
end Go.Proofs.Ytmebdbagcbgddaa.Am
/-
  What a function of package slices computes.
-/
namespace Go.Proofs.Ytmebdbagcbgddaa.Am
open Go
variable {E : Env}
set_option linter.unusedVariables false

theorem slices_Index_g43_l0_is (l : List Int) (hl : l.length ≤ 9223372036854775807) (v : Int) : ∀ (r p : List Int) (i : Int), l = p ++ r → i = p.length →
    slices_Index_g43_l0 E (.sl 1 (l.map intU)) (.int .i64 v) (.int .i64 l.length) (.int .i64 i) = some (.int .i64 (idxF (fun x => decide (x = v)) r i))
  | [], p, i, e, hi => by
    rw [slices_Index_g43_l0_eq]
    simp [mid_end e hi, idxF]
  | x :: r, p, i, e, hi => by
    obtain ⟨h0, hlt, hx, hw, hn, _⟩ := mid_at e hi hl
    have ih := slices_Index_g43_l0_is l hl v r (p ++ [x]) (i + 1) (mid_next e) hn
    rw [slices_Index_g43_l0_eq]
    by_cases h1 : x = v
    · simp [hlt, hx, hw, ih, h1, idxF]
    · have h2 : v ≠ x := fun e => h1 e.symm
      simp [hlt, hx, hw, ih, h1, h2, idxF]
theorem slices_Index_g43_is (h : G_slices_Index_g43 E) (l : List Int) (hl : l.length ≤ 9223372036854775807) (v : Int) :
    E 43 [.sl 1 (l.map intU), .int .i64 v] = some (.int .i64 (idxF (fun x => decide (x = v)) l 0)) := by
  rw [slices_Index_g43_E h]
  simp [slices_Index_g43_l0_is l hl v l [] 0 rfl rfl]
end Go.Proofs.Ytmebdbagcbgddaa.Am
/-
  What a function of package slices computes.
-/
namespace Go.Proofs.Ytmebdbagcbgddaa.Am
open Go
variable {E : Env}
set_option linter.unusedVariables false

theorem slices_Contains_g42_is (h : G_slices_Contains_g42 E) (l : List Int) (hl : l.length ≤ 9223372036854775807) (v : Int) :
    E 42 [.sl 1 (l.map intU), .int .i64 v] = some (.bool (decide (v ∈ l))) := by
  rw [slices_Contains_g42_E h]
  simp [slices_Index_g43_is h.c_slices_Index_g43 l hl v, idxF_mem]
end Go.Proofs.Ytmebdbagcbgddaa.Am
/-
  What the functions on cycles compute: HasEdge, CheckCycle.
-/
namespace Go.Proofs.Ytmebdbagcbgddaa.Am
open Go
variable {E : Env}
set_option linter.unusedVariables false

def isEdge (a b : Int) (e : Edge) : Bool := decide (e.frm = a) && decide (e.to = b)
def hasEdge (l : List Edge) (a b : Int) : Bool := l.any (isEdge a b)

theorem impl_HasEdge_1_is (h : G_impl_HasEdge_1 E) (e : Edge) (a b : Int) : E 64 [e.u, .vp (.int .i64 a), .vp (.int .i64 b)] = some (.bool (isEdge a b e)) := by
  rw [impl_HasEdge_1_E h]
  by_cases h1 : e.frm = a <;> simp [isEdge, h1]

theorem impl_HasEdge_is (h : G_impl_HasEdge E) (l : List Edge) (hl : l.length ≤ 1048576) (a b : Int) : E 63 [edgesU l, .int .i64 a, .int .i64 b] = some (.bool (hasEdge l a b)) := by
  rw [impl_HasEdge_E h]
  simp [slices_ContainsFunc_g65_is h.c_slices_ContainsFunc_g65 l (by omega) 64 [.vp (.int .i64 a), .vp (.int .i64 b)] (isEdge a b) (fun e _ => impl_HasEdge_1_is h.c_impl_HasEdge_1 e a b), hasEdge]

theorem spec_HasEdge_l0_is (l : List Edge) (hl : l.length ≤ 1048576) (a b : Int) : ∀ (r p : List Edge) (i : Int), l = p ++ r → i = p.length →
    spec_HasEdge_l0 E (edgesU l) (.int .i64 a) (.int .i64 b) (.int .i64 i) = some (.bool (r.any (isEdge a b)))
  | [], p, i, e, hi => by
    rw [spec_HasEdge_l0_eq]
    simp [mid_end e hi]
  | x :: r, p, i, e, hi => by
    obtain ⟨h0, hlt, hx, hw, hn, _⟩ := mid_at e hi (by omega)
    have ih := spec_HasEdge_l0_is l hl a b r (p ++ [x]) (i + 1) (mid_next e) hn
    rw [spec_HasEdge_l0_eq]
    by_cases h1 : x.frm = a <;> by_cases h2 : x.to = b <;> simp [hlt, hx, hw, ih, h1, h2, isEdge]

theorem spec_HasEdge_is (h : G_spec_HasEdge E) (l : List Edge) (hl : l.length ≤ 1048576) (a b : Int) : E 62 [edgesU l, .int .i64 a, .int .i64 b] = some (.bool (hasEdge l a b)) := by
  rw [spec_HasEdge_E h]
  exact spec_HasEdge_l0_is l hl a b l [] 0 rfl rfl

/-- Is the rest r of c, behind p, right? -/
def cycFrom (l : List Edge) (c : List Int) : List Int → List Int → Bool
  | _, [] => true
  | p, x :: r => !decide (x ∈ p) && hasEdge l x (c.getD ((p.length + 1) % c.length) 0) && cycFrom l c (p ++ [x]) r

def isCycle (l : List Edge) (c : List Int) : Bool := areEdges l && decide (1 < c.length) && cycFrom l c [] c

/-- The next place, going round. -/
theorem next_at {c p r : List Int} {x i : Int} (e : c = p ++ x :: r) (hi : i = p.length) (hl : c.length ≤ 1048576) :
    ∃ j, (i + 1).tmod c.length = j ∧ ((c.length : Int) = 0 → False) ∧ ∀ {γ : Type} (K : U → Option γ), U.elemAt 1 (.sl 1 (c.map intU)) j K = K (intU (c.getD ((p.length + 1) % c.length) 0)) := by
  have hpos : 0 < c.length := by rw [e, List.length_append, List.length_cons]; omega
  refine ⟨((p.length + 1) % c.length : Nat), ?_, by omega, fun K => ?_⟩
  · subst hi
    rw [Int.tmod_eq_emod_of_nonneg (by omega)]
    rw [Int.natCast_emod]
    rfl
  · have hlt : (p.length + 1) % c.length < c.length := Nat.mod_lt _ hpos
    exact elemAt_get intU (Int.natCast_nonneg _) (by rw [Int.toNat_natCast, List.getElem?_eq_getElem hlt, List.getD_eq_getElem?_getD, List.getElem?_eq_getElem hlt]; rfl) K

theorem impl_CheckCycle_l0_is (h : G_impl_CheckCycle E) (l : List Edge) (hl : l.length ≤ 1048576) (c : List Int) (hc : c.length ≤ 1048576) : ∀ (r p : List Int) (i : Int), c = p ++ r → i = p.length →
    impl_CheckCycle_l0 E (edgesU l) (intsU c) (intsU c) (.int .i64 c.length) (.int .i64 i) = some (.bool (cycFrom l c p r))
  | [], p, i, e, hi => by
    rw [impl_CheckCycle_l0_eq]
    simp [mid_end e hi, cycFrom]
  | x :: r, p, i, e, hi => by
    obtain ⟨h0, hlt, hx, hw, hn, _⟩ := mid_at e hi (by omega)
    obtain ⟨j, hj, hz, hj2⟩ := next_at e hi hc
    have ih := impl_CheckCycle_l0_is h l hl c hc r (p ++ [x]) (i + 1) (mid_next e) hn
    have hp : p.length ≤ 9223372036854775807 := by have := congrArg List.length e; simp at this; omega
    have hcut := mid_cut (k := 1) intU e hi
    have hz' : c ≠ [] := by rw [e]; simp
    rw [impl_CheckCycle_l0_eq]
    by_cases h1 : x ∈ p
    · simp [hlt, hx, hw, hcut, slices_Contains_g42_is h.c_slices_Contains_g42 p hp, h1, cycFrom]
    · cases h2 : hasEdge l x (c.getD ((p.length + 1) % c.length) 0) <;>
        simp [hlt, hx, hw, hcut, slices_Contains_g42_is h.c_slices_Contains_g42 p hp, h1, cycFrom, hj, hz', hj2, impl_HasEdge_is h.c_impl_HasEdge l hl, h2, ih, -List.getD_eq_getElem?_getD]

theorem impl_CheckCycle_is (h : G_impl_CheckCycle E) (l : List Edge) (hl : l.length ≤ 1048576) (c : List Int) (hc : c.length ≤ 1048576) : E 60 [edgesU l, intsU c] = some (.bool (isCycle l c)) := by
  rw [impl_CheckCycle_E h]
  have h1 := impl_AreEdges_is h.c_impl_AreEdges l hl
  cases h2 : areEdges l
  · simp [h1, h2, isCycle]
  · by_cases h3 : (c.length : Int) < 2
    · have : ¬ 1 < c.length := by omega
      simp [h1, h2, h3, isCycle, this]
    · have : 1 < c.length := by omega
      simp [h1, h2, h3, isCycle, this, impl_CheckCycle_l0_is h l hl c hc c [] 0 rfl rfl]

theorem spec_CheckCycle_l1_is (h : G_spec_CheckCycle E) (l : List Edge) (hl : l.length ≤ 1048576) (c : List Int) (hc : c.length ≤ 1048576) (x : Int) (r p : List Int) (i : Int) (e : c = p ++ x :: r) (hi : i = p.length) : ∀ (s q : List Int) (k : Int), p = q ++ s → k = q.length →
    spec_CheckCycle_l1 E (edgesU l) (intsU c) (.int .i64 i) (.int .i64 k) = if x ∈ s ∨ hasEdge l x (c.getD ((p.length + 1) % c.length) 0) = false then some (.bool false) else spec_CheckCycle_l0 E (edgesU l) (intsU c) (.int .i64 (i + 1))
  | [], q, k, e2, hk => by
    obtain ⟨h0, hlt, hx, hw, hn, _⟩ := mid_at e hi (by omega)
    obtain ⟨j, hj, hz, hj2⟩ := next_at e hi hc
    have hki : ¬ k < i := by rw [hi, e2, hk]; simp
    have hz' : c ≠ [] := by rw [e]; simp
    rw [spec_CheckCycle_l1_eq]
    cases h2 : hasEdge l x (c.getD ((p.length + 1) % c.length) 0) <;>
      simp [hki, hx, hw, hj, hj2, hz', spec_HasEdge_is h.c_spec_HasEdge l hl, h2, -List.getD_eq_getElem?_getD]
  | y :: s, q, k, e2, hk => by
    obtain ⟨h0, hlt, hx, hw, hn, _⟩ := mid_at e hi (by omega)
    have hki : k < i := by rw [hi, e2, hk]; simp; omega
    have e3 : c = q ++ y :: (s ++ x :: r) := by rw [e, e2]; simp
    obtain ⟨k0, klt, kx, kw, kn, _⟩ := mid_at e3 hk (by omega)
    have ih := spec_CheckCycle_l1_is h l hl c hc x r p i e hi s (q ++ [y]) (k + 1) (mid_next e2) kn
    rw [spec_CheckCycle_l1_eq]
    by_cases h1 : y = x
    · simp [hki, kx, hx, h1]
    · have h1' : ¬ x = y := fun e => h1 e.symm
      simp only [bin_lss, Option.bind_some, hki, decide_true, asBool_bool, if_true, asInt_int, kx, hx, asVar_intU, bin_eql, h1, decide_false, Bool.false_eq_true, if_false, bin_add, kw, List.mem_cons, h1', false_or]
      exact ih

theorem spec_CheckCycle_l0_is (h : G_spec_CheckCycle E) (l : List Edge) (hl : l.length ≤ 1048576) (c : List Int) (hc : c.length ≤ 1048576) : ∀ (r p : List Int) (i : Int), c = p ++ r → i = p.length →
    spec_CheckCycle_l0 E (edgesU l) (intsU c) (.int .i64 i) = some (.bool (cycFrom l c p r && (areEdges l && decide (1 < c.length))))
  | [], p, i, e, hi => by
    rw [spec_CheckCycle_l0_eq]
    have h1 : decide (1 < (c.length : Int)) = decide (1 < c.length) := by congr 1; simp only [eq_iff_iff]; omega
    cases h2 : areEdges l <;> simp [mid_end e hi, cycFrom, spec_AreEdges_is h.c_spec_AreEdges l hl, h2, h1]
  | x :: r, p, i, e, hi => by
    obtain ⟨h0, hlt, hx, hw, hn, _⟩ := mid_at e hi (by omega)
    have ih := spec_CheckCycle_l0_is h l hl c hc r (p ++ [x]) (i + 1) (mid_next e) hn
    have h1 := spec_CheckCycle_l1_is h l hl c hc x r p i e hi p [] 0 rfl rfl
    rw [spec_CheckCycle_l0_eq]
    simp only [lenOf_sl, List.length_map, Option.bind_some, bin_lss, hlt, decide_true, asBool_bool, if_true]
    rw [h1, ih]
    simp only [cycFrom]
    by_cases h3 : x ∈ p
    · simp [h3]
    · cases h2 : hasEdge l x (c.getD ((p.length + 1) % c.length) 0) <;> simp [h3]

theorem spec_CheckCycle_is (h : G_spec_CheckCycle E) (l : List Edge) (hl : l.length ≤ 1048576) (c : List Int) (hc : c.length ≤ 1048576) : E 61 [edgesU l, intsU c] = some (.bool (isCycle l c)) := by
  rw [spec_CheckCycle_E h, spec_CheckCycle_l0_is h l hl c hc c [] 0 rfl rfl]
  simp only [isCycle, Bool.and_comm]
end Go.Proofs.Ytmebdbagcbgddaa.Am
/-
  Lists of flat data are flat.
-/
namespace Go.Proofs.Ytmebdbagcbgddaa.Am
open Go

theorem flats_map {α : Type} (f : α → U) (h : ∀ x, (f x).flat = true) : ∀ l : List α, U.flat.flats (l.map f) = true
  | [] => rfl
  | x :: l => by
    simp only [List.map_cons, U.flat.flats, h x, flats_map f h l, Bool.and_self]
@[simp] theorem flats_edges (l : List Edge) : U.flat.flats (l.map Edge.u) = true := flats_map _ (fun _ => rfl) l
@[simp] theorem flats_ints (l : List Int) : U.flat.flats (l.map intU) = true := flats_map _ (fun _ => rfl) l
end Go.Proofs.Ytmebdbagcbgddaa.Am
/-
  Distances: the reference goes through nine rounds, the program goes on while a round finds something; they find the same.
-/
namespace Go.Proofs.Ytmebdbagcbgddaa.Am
open Go
variable {E : Env}
set_option linter.unusedVariables false

/-! ### Plain -/
/-- What is known of v. -/
def at_ (o : List Int) (v : Int) : Int := o.getD v.toNat 0

def relax (P : Int → Bool) (d : Int) (o : List Int) (e : Edge) : List Int := if decide (at_ o e.frm < 0) && P e.to then o.set e.frm.toNat d else o

/-- From where round d goes on. -/
def layer (to d : Int) (o : List Int) (v : Int) : Bool := if d = 1 then decide (v = to) else decide (at_ o v = d - 1)

def round (l : List Edge) (to d : Int) (o : List Int) : List Int := l.foldl (relax (layer to d o) d) o

def rounds (l : List Edge) (to : Int) : Nat → Int → List Int → List Int
  | 0, _, o => o
  | n + 1, d, o => rounds l to n (d + 1) (round l to d o)

def dist (l : List Edge) (to : Int) : List Int := rounds l to 9 1 (List.replicate 10 (-1))

def Ends (l : List Edge) : Prop := ∀ e ∈ l, 1 ≤ e.frm ∧ e.frm ≤ 9 ∧ 1 ≤ e.to ∧ e.to ≤ 9

theorem edgesFrom_ends : ∀ (l : List Edge) (p : Option Edge), edgesFrom p l = true → Ends l
  | [], _, _ => fun e he => by simp at he
  | x :: r, p, h => by
    simp only [edgesFrom, Bool.and_eq_true] at h
    obtain ⟨⟨h1, _⟩, h2⟩ := h
    have ih := edgesFrom_ends r _ h2
    intro e he
    rcases List.mem_cons.1 he with rfl | he
    · simp only [edgeOK, inR, Bool.and_eq_true, decide_eq_true_eq] at h1
      omega
    · exact ih e he
theorem areEdges_ends {l : List Edge} (h : areEdges l = true) : Ends l := edgesFrom_ends l none h

theorem relax_length (P : Int → Bool) (d : Int) (o : List Int) (e : Edge) : (relax P d o e).length = o.length := by
  unfold relax; split <;> simp
theorem foldl_length (P : Int → Bool) (d : Int) (l : List Edge) : ∀ o : List Int, (l.foldl (relax P d) o).length = o.length := by
  induction l with
  | nil => intro o; rfl
  | cons e l ih => intro o; rw [List.foldl_cons, ih, relax_length]

theorem at_set (o : List Int) (ho : o.length = 10) (f v d : Int) (hf : 1 ≤ f ∧ f ≤ 9) (hv : 0 ≤ v) : at_ (o.set f.toNat d) v = if v = f then d else at_ o v := by
  unfold at_
  by_cases h : v = f
  · subst h
    have : v.toNat < o.length := by omega
    simp [this]
  · have : f.toNat ≠ v.toNat := by omega
    simp [h, List.getElem?_set_ne this]

/-- What a round does to one place. -/
theorem fold_at (P : Int → Bool) (d : Int) (hd : 0 ≤ d) : ∀ (l : List Edge) (o : List Int), Ends l → o.length = 10 → ∀ v, 0 ≤ v → at_ (l.foldl (relax P d) o) v = if at_ o v < 0 ∧ (∃ e ∈ l, e.frm = v ∧ P e.to = true) then d else at_ o v
  | [], o, _, _, v, _ => by simp
  | e :: l, o, hE, ho, v, hv => by
    have he := hE e (by simp)
    rw [List.foldl_cons, fold_at P d hd l _ (fun x hx => hE x (by simp [hx])) (by rw [relax_length]; exact ho) v hv]
    unfold relax
    by_cases hc : at_ o e.frm < 0 ∧ P e.to = true
    · have hc' : (decide (at_ o e.frm < 0) && P e.to) = true := by simp [hc.1, hc.2]
      rw [if_pos hc', at_set o ho e.frm v d ⟨he.1, he.2.1⟩ hv]
      by_cases hvf : v = e.frm
      · subst hvf
        have : ¬ d < 0 := by omega
        have h2 : ∃ x ∈ e :: l, x.frm = e.frm ∧ P x.to = true := ⟨e, by simp, rfl, hc.2⟩
        simp only [if_true, this, false_and, if_false, hc.1, true_and, h2]
      · simp only [hvf, if_false]
        have : (∃ x ∈ e :: l, x.frm = v ∧ P x.to = true) ↔ ∃ x ∈ l, x.frm = v ∧ P x.to = true := by
          constructor
          · rintro ⟨x, hx, h1, h2⟩
            rcases List.mem_cons.1 hx with rfl | hx
            · exact absurd h1.symm hvf
            · exact ⟨x, hx, h1, h2⟩
          · rintro ⟨x, hx, h1, h2⟩; exact ⟨x, by simp [hx], h1, h2⟩
        simp only [this]
    · have hc' : ¬ (decide (at_ o e.frm < 0) && P e.to) = true := by simpa using hc
      rw [if_neg hc']
      by_cases hneg : at_ o v < 0
      · have : (∃ x ∈ e :: l, x.frm = v ∧ P x.to = true) ↔ ∃ x ∈ l, x.frm = v ∧ P x.to = true := by
          constructor
          · rintro ⟨x, hx, h1, h2⟩
            rcases List.mem_cons.1 hx with rfl | hx
            · exact absurd ⟨by rw [h1]; exact hneg, h2⟩ hc
            · exact ⟨x, hx, h1, h2⟩
          · rintro ⟨x, hx, h1, h2⟩; exact ⟨x, by simp [hx], h1, h2⟩
        simp only [this]
      · simp only [hneg, false_and, if_false]

theorem list_ext10 {a b : List Int} (ha : a.length = 10) (hb : b.length = 10) (h : ∀ v : Int, 0 ≤ v → at_ a v = at_ b v) : a = b := by
  apply List.ext_getElem?
  intro i
  by_cases hi : i < 10
  · have := h (i : Int) (by omega)
    unfold at_ at this
    simp only [Int.toNat_natCast, List.getD_eq_getElem?_getD] at this
    rw [List.getElem?_eq_getElem (by omega), List.getElem?_eq_getElem (by omega)] at this ⊢
    simpa using this
  · rw [List.getElem?_eq_none (by omega), List.getElem?_eq_none (by omega)]

/-- The relaxed list depends on what P says of the ends alone. -/
theorem fold_congr {P Q : Int → Bool} (d : Int) : ∀ (l : List Edge) (o : List Int), (∀ e ∈ l, P e.to = Q e.to) → l.foldl (relax P d) o = l.foldl (relax Q d) o
  | [], _, _ => rfl
  | e :: l, o, h => by
    rw [List.foldl_cons, List.foldl_cons, fold_congr d l _ (fun x hx => h x (by simp [hx]))]
    have : relax P d o e = relax Q d o e := by unfold relax; rw [h e (by simp)]
    rw [this]

/-- No one to go on from: nothing changes. -/
theorem fold_none {P : Int → Bool} (d : Int) : ∀ (l : List Edge) (o : List Int), (∀ e ∈ l, P e.to = false) → l.foldl (relax P d) o = o
  | [], _, _ => rfl
  | e :: l, o, h => by
    have : relax P d o e = o := by unfold relax; rw [h e (by simp)]; simp
    rw [List.foldl_cons, this]
    exact fold_none d l o (fun x hx => h x (by simp [hx]))

/-- What is known before round d. -/
structure Know (to d : Int) (o : List Int) : Prop where
  len : o.length = 10
  below : ∀ v : Int, 0 ≤ v → at_ o v ≤ d - 1
  pos : 1 ≤ d

theorem Know.next {l : List Edge} {to d : Int} {o : List Int} (hE : Ends l) (h : Know to d o) : Know to (d + 1) (round l to d o) := by
  refine ⟨by rw [round, foldl_length]; exact h.len, fun v hv => ?_, by have := h.pos; omega⟩
  rw [round, fold_at _ d (by have := h.pos; omega) l o hE h.len v hv]
  have := h.below v hv
  split <;> omega

/-- Whom the next round goes on from: those that this one has found. -/
theorem layer_next {l : List Edge} {to d : Int} {o : List Int} (hE : Ends l) (h : Know to d o) (v : Int) (hv : 0 ≤ v) : layer to (d + 1) (round l to d o) v = true ↔ at_ o v < 0 ∧ ∃ e ∈ l, e.frm = v ∧ layer to d o e.to = true := by
  have h1 : ¬ d + 1 = 1 := by have := h.pos; omega
  unfold layer
  rw [if_neg h1, decide_eq_true_eq, round, fold_at _ d (by have := h.pos; omega) l o hE h.len v hv]
  have h2 := h.below v hv
  constructor
  · intro he
    split at he
    · rename_i hc; exact hc
    · omega
  · intro hc
    have hc' : at_ o v < 0 ∧ ∃ e ∈ l, e.frm = v ∧ layer to d o e.to = true := hc
    rw [if_pos hc']
    omega

theorem rounds_stop {l : List Edge} {to : Int} (hE : Ends l) : ∀ (n : Nat) (d : Int) (o : List Int), Know to d o → (∀ e ∈ l, layer to d o e.to = false) → rounds l to n d o = o
  | 0, _, _, _, _ => rfl
  | n + 1, d, o, hk, h => by
    have h1 : round l to d o = o := fold_none d l o h
    have hk' := hk.next hE
    have h2 : ∀ e ∈ l, layer to (d + 1) (round l to d o) e.to = false := fun e he => by
      cases hb : layer to (d + 1) (round l to d o) e.to with
      | false => rfl
      | true =>
        obtain ⟨_, x, hx, _, h4⟩ := (layer_next hE hk e.to (by have := hE e he; omega)).1 hb
        rw [h x hx] at h4
        cases h4
    rw [rounds, h1] at *
    exact rounds_stop hE n (d + 1) o hk' h2

/-- How many places are not known. -/
def unknown (o : List Int) : Nat := ((List.range 9).filter fun i => decide (at_ o (i + 1 : Nat) < 0)).length

theorem unknown_less {a b : List Int} (h : ∀ v : Int, 0 ≤ v → at_ a v < 0 → at_ b v < 0) {v : Int} (h1 : 1 ≤ v) (h2 : v ≤ 9) (ha : ¬ at_ a v < 0) (hb : at_ b v < 0) : unknown a < unknown b := by
  unfold unknown
  have e : ((List.range 9).filter fun i => decide (at_ a (i + 1 : Nat) < 0)) = ((List.range 9).filter fun i => decide (at_ b (i + 1 : Nat) < 0)).filter fun i => decide (at_ a (i + 1 : Nat) < 0) := by
    rw [List.filter_filter]
    refine List.filter_congr fun i _ => ?_
    by_cases hh : at_ a (i + 1 : Nat) < 0
    · have h3 := h _ (by omega) hh
      simp only [hh, h3, decide_true, Bool.and_self]
    · simp only [hh, decide_false, Bool.false_and]
  rw [e]
  refine List.length_filter_lt_length_iff_exists.2 ⟨(v - 1).toNat, ?_, ?_⟩
  · rw [List.mem_filter, List.mem_range]
    refine ⟨by omega, ?_⟩
    have : (((v - 1).toNat + 1 : Nat) : Int) = v := by omega
    rw [this]
    simpa using hb
  · have : (((v - 1).toNat + 1 : Nat) : Int) = v := by omega
    rw [this]
    simpa using ha

theorem unknown_zero {o : List Int} (h : unknown o = 0) {v : Int} (h1 : 1 ≤ v) (h2 : v ≤ 9) : ¬ at_ o v < 0 := by
  unfold unknown at h
  have h0 := List.length_eq_zero_iff.1 h
  have := List.filter_eq_nil_iff.1 h0 (v - 1).toNat (by rw [List.mem_range]; omega)
  have e : (((v - 1).toNat + 1 : Nat) : Int) = v := by omega
  rw [e] at this
  simpa using this

theorem round_down {l : List Edge} {to d : Int} {o : List Int} (hE : Ends l) (h : Know to d o) (v : Int) (hv : 0 ≤ v) (hn : at_ (round l to d o) v < 0) : at_ o v < 0 := by
  rw [round, fold_at _ d (by have := h.pos; omega) l o hE h.len v hv] at hn
  split at hn
  · have := h.pos; omega
  · exact hn

/-! ### The reference -/
theorem idx_ok {o : List Int} (ho : o.length = 10) {v : Int} (h1 : 0 ≤ v) (h2 : v ≤ 9) : (o.map intU)[v.toNat]? = some (intU (at_ o v)) := by
  have h3 : v.toNat < o.length := by omega
  unfold at_
  rw [List.getElem?_map, List.getElem?_eq_getElem h3, List.getD_eq_getElem?_getD, List.getElem?_eq_getElem h3]
  rfl

theorem set_ok (o : List Int) (i : Nat) (d : Int) : (o.map intU).set i (.int .i64 d) = (o.set i d).map intU := by
  rw [List.map_set]; rfl

theorem spec_l20Far_l1_is (l : List Edge) (hl : l.length ≤ 1048576) (hE : Ends l) (to d : Int) (hd : 1 ≤ d) (hd2 : d ≤ 9) (o0 : List Int) : ∀ (r p : List Edge) (i : Int) (o : List Int), l = p ++ r → i = p.length → o.length = 10 → (d ≠ 1 → ∀ v, 0 ≤ v → v ≤ 9 → (at_ o v = d - 1 ↔ at_ o0 v = d - 1)) →
    spec_l20Far_l1 E (edgesU l) (.int .i64 to) (.int .i64 d) (.int .i64 i) (o.map intU) = spec_l20Far_l0 E (edgesU l) (.int .i64 to) (.int .i64 (d + 1)) ((r.foldl (relax (layer to d o0) d) o).map intU)
  | [], p, i, o, e, hi, ho, hs => by
    have hw : IntKind.i64.wrap (d + 1) = d + 1 := wrap_in (by omega)
    rw [spec_l20Far_l1_eq]
    simp [mid_end e hi, hw]
  | x :: r, p, i, o, e, hi, ho, hs => by
    obtain ⟨h0, hlt, hx, hw, hn, _⟩ := mid_at e hi (by omega)
    have hex : 1 ≤ x.frm ∧ x.frm ≤ 9 ∧ 1 ≤ x.to ∧ x.to ≤ 9 := hE x (by rw [e]; simp)
    obtain ⟨x1, x2, x3, x4⟩ := hex
    have i1 := idx_ok ho (v := x.frm) (by omega) x2
    have i2 := idx_ok ho (v := x.to) (by omega) x4
    have b1 : 0 ≤ x.frm ∧ x.frm < 10 := by omega
    have b2 : 0 ≤ x.to ∧ x.to < 10 := by omega
    have hw2 : IntKind.i64.wrap (d - 1) = d - 1 := wrap_in (by omega)
    have ih1 := spec_l20Far_l1_is l hl hE to d hd hd2 o0 r (p ++ [x]) (i + 1) o (mid_next e) hn ho hs
    rw [spec_l20Far_l1_eq]
    simp only [List.foldl_cons]
    by_cases hneg : at_ o x.frm < 0
    · by_cases hd1 : d = 1
      · have dd := decide_eq_true hd1
        by_cases ht : x.to = to
        · have ih2 := spec_l20Far_l1_is l hl hE to d hd hd2 o0 r (p ++ [x]) (i + 1) (o.set x.frm.toNat d) (mid_next e) hn (by simpa using ho) (fun h => absurd hd1 h)
          have hr : relax (layer to d o0) d o x = o.set x.frm.toNat d := by simp [relax, layer, hneg, ht, hd1]
          rw [hr, ← ih2]
          simp [hlt, hx, hw, b1, ho, i1, hneg, ht, dd, intU, -getElem?_pos, -List.getElem?_map]
        · have hr : relax (layer to d o0) d o x = o := by simp [relax, layer, ht, hd1]
          have dd3 : decide (1 < d) = false := by simp; omega
          rw [hr, ← ih1]
          simp [hlt, hx, hw, b1, ho, i1, hneg, ht, dd, dd3, intU, -getElem?_pos, -List.getElem?_map]
      · have hd3 : 1 < d := by omega
        by_cases ht : at_ o x.to = d - 1
        · have ht0 := (hs hd1 x.to (by omega) x4).1 ht
          have ih2 := spec_l20Far_l1_is l hl hE to d hd hd2 o0 r (p ++ [x]) (i + 1) (o.set x.frm.toNat d) (mid_next e) hn (by simpa using ho) (fun _ v hv hv2 => by
            rw [at_set o ho x.frm v d ⟨x1, x2⟩ hv]
            split
            · rename_i hvf
              subst hvf
              constructor
              · intro; omega
              · intro h; have := (hs hd1 x.frm hv hv2).2 h; omega
            · exact hs hd1 v hv hv2)
          have hr : relax (layer to d o0) d o x = o.set x.frm.toNat d := by simp [relax, layer, hneg, hd1, ht0]
          rw [hr, ← ih2]
          simp [hlt, hx, hw, b1, b2, ho, i1, i2, hneg, hd1, hd3, ht, hw2, intU, -getElem?_pos, -List.getElem?_map]
        · have ht0 : ¬ at_ o0 x.to = d - 1 := fun h => ht ((hs hd1 x.to (by omega) x4).2 h)
          have hr : relax (layer to d o0) d o x = o := by simp [relax, layer, hd1, ht0]
          rw [hr, ← ih1]
          simp [hlt, hx, hw, b1, b2, ho, i1, i2, hneg, hd1, hd3, ht, hw2, intU, -getElem?_pos, -List.getElem?_map]
    · have hr : relax (layer to d o0) d o x = o := by simp [relax, hneg]
      rw [hr, ← ih1]
      simp [hlt, hx, hw, b1, ho, i1, hneg, intU, -getElem?_pos, -List.getElem?_map]

theorem spec_l20Far_l0_is (l : List Edge) (hl : l.length ≤ 1048576) (hE : Ends l) (to : Int) : ∀ (n : Nat) (d : Int) (o : List Int), d = 10 - n → 1 ≤ d → o.length = 10 →
    spec_l20Far_l0 E (edgesU l) (.int .i64 to) (.int .i64 d) (o.map intU) = some (.sl 1 ((rounds l to n d o).map intU))
  | 0, d, o, hd, h1, ho => by
    have : ¬ d ≤ 9 := by omega
    rw [spec_l20Far_l0_eq]
    simp [this, rounds]
  | n + 1, d, o, hd, h1, ho => by
    have : d ≤ 9 := by omega
    rw [spec_l20Far_l0_eq]
    simp only [bin_leq, this, decide_true, Option.bind_some, asBool_bool, if_true]
    rw [spec_l20Far_l1_is l hl hE to d h1 this o l [] 0 o rfl rfl ho (fun _ v _ _ => Iff.rfl)]
    exact spec_l20Far_l0_is l hl hE to n (d + 1) _ (by omega) (by omega) (by rw [foldl_length]; exact ho)

theorem spec_l20Far_l2_is (l : List Edge) (hl : l.length ≤ 1048576) (hE : Ends l) (to : Int) : ∀ (n m : Nat) (i : Int), m + n = 10 → i = m →
    spec_l20Far_l2 E (edgesU l) (.int .i64 to) (.int .i64 i) ((List.replicate m (-1 : Int)).map intU) = some (.sl 1 ((dist l to).map intU))
  | 0, m, i, hm, hi => by
    have : ¬ i ≤ 9 := by omega
    obtain rfl : m = 10 := by omega
    rw [spec_l20Far_l2_eq]
    simp only [bin_leq, this, decide_false, Option.bind_some, asBool_bool, Bool.false_eq_true, if_false]
    exact spec_l20Far_l0_is l hl hE to 9 1 _ rfl (by omega) (by simp)
  | n + 1, m, i, hm, hi => by
    have h1 : i ≤ 9 := by omega
    have hw : IntKind.i64.wrap (i + 1) = i + 1 := wrap_in (by omega)
    have ih := spec_l20Far_l2_is l hl hE to n (m + 1) (i + 1) (by omega) (by omega)
    have e : (List.replicate (m + 1) (-1 : Int)).map intU = (List.replicate m (-1 : Int)).map intU ++ [.int .i64 (-1)] := by
      rw [List.replicate_succ', List.map_append]; rfl
    rw [e] at ih
    rw [spec_l20Far_l2_eq]
    simp only [bin_leq, h1, decide_true, Option.bind_some, asBool_bool, if_true, bin_add, hw, List.length_map, List.length_replicate, List.length_cons, List.length_nil]
    rw [if_pos (by refine ⟨trivial, trivial, by omega⟩)]
    exact ih

theorem spec_l20Far_is (h : G_spec_l20Far E) (l : List Edge) (hl : l.length ≤ 1048576) (hE : Ends l) (to : Int) : E 40 [edgesU l, .int .i64 to] = some (intsU (dist l to)) := by
  rw [spec_l20Far_E h]
  exact spec_l20Far_l2_is l hl hE to 10 0 0 rfl rfl

/-! ### The program -/
/-- An array of whole numbers. -/
abbrev arrU (o : List Int) : U := .agg (o.map intU)

theorem sizes_ints : ∀ o : List Int, sizes (o.map intU) = o.length
  | [] => rfl
  | _ :: o => by rw [List.map_cons, sizes_cons, sizes_ints o, intU_size, List.length_cons]; omega
theorem sizes_take {o : List Int} (ho : o.length = 10) {v : Int} (h1 : 0 ≤ v) (h2 : v ≤ 9) : v.toNat * 1 = sizes ((o.map intU).take v.toNat) := by
  rw [← List.map_take, sizes_ints, List.length_take]; omega

theorem impl_distances_l1_is (h : G_impl_distances E) (l : List Edge) (hl : l.length ≤ 1048576) (hE : Ends l) (d : Int) (hd : 1 ≤ d) (hd2 : d ≤ 1000) (c : List Int) (hc : c.length ≤ 1048576) (b4 : U) : ∀ (r p : List Edge) (i : Int) (o : List Int) (nx : List Int), l = p ++ r → i = p.length → o.length = 10 → nx.length ≤ p.length →
    ∃ nx' : List Int, nx'.length ≤ l.length ∧ (∀ v, v ∈ nx' ↔ v ∈ nx ∨ (at_ o v < 0 ∧ ∃ e ∈ r, e.frm = v ∧ e.to ∈ c)) ∧
    impl_distances_l1 E (edgesU l) (.int .i64 d) (edgesU l) (.int .i64 l.length) (.int .i64 i) (c.map intU) (nx.map intU) b4 (arrU o) =
      impl_distances_l0 E (edgesU l) (.int .i64 (d + 1)) (nx'.map intU) b4 (arrU (r.foldl (relax (fun v => decide (v ∈ c)) d) o))
  | [], p, i, o, nx, e, hi, ho, hnx => by
    have hw : IntKind.i64.wrap (d + 1) = d + 1 := wrap_in (by omega)
    refine ⟨nx, by rw [e]; simpa using hnx, fun v => by simp, ?_⟩
    rw [impl_distances_l1_eq]
    simp [mid_end e hi, hw]
  | x :: r, p, i, o, nx, e, hi, ho, hnx => by
    obtain ⟨h0, hlt, hx, hw, hn, _⟩ := mid_at e hi (by omega)
    have hex : 1 ≤ x.frm ∧ x.frm ≤ 9 ∧ 1 ≤ x.to ∧ x.to ≤ 9 := hE x (by rw [e]; simp)
    obtain ⟨x1, x2, x3, x4⟩ := hex
    have i1 := idx_ok ho (v := x.frm) (by omega) x2
    have b1 : 0 ≤ x.frm ∧ x.frm < 10 := by omega
    have hst := sizes_take ho (v := x.frm) (by omega) x2
    have hin := slices_Contains_g42_is h.c_slices_Contains_g42 c (by omega) x.to
    have hpl : p.length ≤ 1048576 := by have := congrArg List.length e; simp at this; omega
    simp only [List.foldl_cons]
    by_cases ht : x.to ∈ c
    · by_cases hneg : at_ o x.frm < 0
      · obtain ⟨nx', n1, n2, n3⟩ := impl_distances_l1_is h l hl hE d hd hd2 c hc b4 r (p ++ [x]) (i + 1) (o.set x.frm.toNat d) (nx ++ [x.frm]) (mid_next e) hn (by simpa using ho) (by simp; omega)
        refine ⟨nx', n1, fun v => ?_, ?_⟩
        · rw [n2 v]
          simp only [List.mem_append, List.mem_singleton, List.mem_cons]
          by_cases hv : v = x.frm
          · subst hv
            have : ∃ e, (e = x ∨ e ∈ r) ∧ e.frm = x.frm ∧ e.to ∈ c := ⟨x, .inl rfl, rfl, ht⟩
            simp [hneg, ht]
          · by_cases hv0 : 0 ≤ v
            · rw [at_set o ho x.frm v d ⟨x1, x2⟩ hv0, if_neg hv]
              have : (∃ e, (e = x ∨ e ∈ r) ∧ e.frm = v ∧ e.to ∈ c) ↔ ∃ e ∈ r, e.frm = v ∧ e.to ∈ c := by
                constructor
                · rintro ⟨y, rfl | hy, h1, h2⟩
                  · exact absurd h1.symm hv
                  · exact ⟨y, hy, h1, h2⟩
                · rintro ⟨y, hy, h1, h2⟩; exact ⟨y, .inr hy, h1, h2⟩
              simp [hv, this]
            · have none : ∀ y ∈ l, ¬ y.frm = v := fun y hy h1 => by have := hE y hy; omega
              have n4 : ¬ ∃ e, (e = x ∨ e ∈ r) ∧ e.frm = v ∧ e.to ∈ c := by
                rintro ⟨y, hy, h1, _⟩
                exact none y (by rw [‹l = p ++ x :: r›]; rcases hy with rfl | hy <;> simp [*]) h1
              have n5 : ¬ ∃ e ∈ r, e.frm = v ∧ e.to ∈ c := by
                rintro ⟨y, hy, h1, _⟩
                exact none y (by rw [‹l = p ++ x :: r›]; simp [hy]) h1
              simp only [hv, or_false, false_or, n4, n5, and_false, List.not_mem_nil]
        · rw [impl_distances_l1_eq]
          have hr : relax (fun v => decide (v ∈ c)) d o x = o.set x.frm.toNat d := by simp [relax, hneg, ht]
          rw [List.map_append, List.map_cons, List.map_nil] at n3
          have hlen : ((nx.map intU).length + 1) * 8 ≤ 140737488355328 := by rw [List.length_map]; omega
          simp only [bin_lss, hlt, decide_true, Option.bind_some, asBool_bool, if_true, asInt_int, hx, Edge.u_var, Edge.u_storable, Edge.u_size, and_self, Edge.u_agg, sizes_cons, List.take_succ_cons, List.take_zero, size_int, sizes_nil, List.getElem?_cons_succ, List.getElem?_cons_zero, asVar_int, hin, ht, asFlat_bool, b1, asAgg_agg, hst, i1, asVar_intU, hneg, storable_int, intU_size, List.length_cons, List.length_nil, bin_add, hw, set_ok, hr, hlen]
          exact n3
      · obtain ⟨nx', n1, n2, n3⟩ := impl_distances_l1_is h l hl hE d hd hd2 c hc b4 r (p ++ [x]) (i + 1) o nx (mid_next e) hn ho (by simp; omega)
        refine ⟨nx', n1, fun v => ?_, ?_⟩
        · rw [n2 v]
          have : at_ o v < 0 → ((∃ e ∈ r, e.frm = v ∧ e.to ∈ c) ↔ ∃ e ∈ x :: r, e.frm = v ∧ e.to ∈ c) := fun hv => by
            constructor
            · rintro ⟨y, hy, h1, h2⟩; exact ⟨y, by simp [hy], h1, h2⟩
            · rintro ⟨y, hy, h1, h2⟩
              rcases List.mem_cons.1 hy with rfl | hy
              · exact absurd (by rw [h1]; exact hv) hneg
              · exact ⟨y, hy, h1, h2⟩
          by_cases hv : at_ o v < 0
          · rw [this hv]
          · simp [hv]
        · rw [impl_distances_l1_eq]
          have hr : relax (fun v => decide (v ∈ c)) d o x = o := by simp [relax, hneg]
          simp only [bin_lss, hlt, decide_true, decide_false, Bool.false_eq_true, if_false, Option.bind_some, asBool_bool, if_true, asInt_int, hx, Edge.u_var, Edge.u_storable, Edge.u_size, and_self, Edge.u_agg, sizes_cons, List.take_succ_cons, List.take_zero, size_int, sizes_nil, List.getElem?_cons_succ, List.getElem?_cons_zero, asVar_int, hin, ht, asFlat_bool, b1, asAgg_agg, hst, i1, asVar_intU, hneg, bin_add, hw, hr]
          exact n3
    · obtain ⟨nx', n1, n2, n3⟩ := impl_distances_l1_is h l hl hE d hd hd2 c hc b4 r (p ++ [x]) (i + 1) o nx (mid_next e) hn ho (by simp; omega)
      refine ⟨nx', n1, fun v => ?_, ?_⟩
      · rw [n2 v]
        have : (∃ e ∈ r, e.frm = v ∧ e.to ∈ c) ↔ ∃ e ∈ x :: r, e.frm = v ∧ e.to ∈ c := by
          constructor
          · rintro ⟨y, hy, h1, h2⟩; exact ⟨y, by simp [hy], h1, h2⟩
          · rintro ⟨y, hy, h1, h2⟩
            rcases List.mem_cons.1 hy with rfl | hy
            · exact absurd h2 ht
            · exact ⟨y, hy, h1, h2⟩
        rw [this]
      · rw [impl_distances_l1_eq]
        have hr : relax (fun v => decide (v ∈ c)) d o x = o := by simp [relax, ht]
        simp [hlt, hx, hin, ht, hw, hr, n3]

/-- The list of those that round d goes on from. -/
def IsLayer (l : List Edge) (to d : Int) (o : List Int) (c : List Int) : Prop := c.length ≤ 1048576 ∧ ∀ e ∈ l, layer to d o e.to = decide (e.to ∈ c)

theorem impl_distances_end (l : List Edge) (d : Int) (b4 : U) (hb : b4.size = 10) (o : List Int) (ho : o.length = 10) :
    impl_distances_l0 E (edgesU l) (.int .i64 d) [] b4 (arrU o) = some (arrU o) := by
  rw [impl_distances_l0_eq]
  have hsz : sizes (o.map intU) = 10 := by rw [sizes_ints, ho]
  simp [hsz, hb]

theorem impl_distances_l0_is (h : G_impl_distances E) (l : List Edge) (hl : l.length ≤ 1048576) (hE : Ends l) (to : Int) (b4 : U) (hb : b4.size = 10) : ∀ (n : Nat) (d : Int) (o c : List Int), Know to d o → d + n ≤ 900 → unknown o ≤ n → IsLayer l to d o c →
    impl_distances_l0 E (edgesU l) (.int .i64 d) (c.map intU) b4 (arrU o) = some (arrU (rounds l to n d o)) := by
  intro n
  induction n with
  | zero =>
    intro d o c hk hd hu hc
    have hd1 := hk.pos
    by_cases hc0 : c = []
    · subst hc0
      exact impl_distances_end l d b4 hb o hk.len
    · obtain ⟨nx, n1, n2, n3⟩ := impl_distances_l1_is h l hl hE d hd1 (by omega) c hc.1 b4 l [] 0 o [] rfl rfl hk.len (by simp)
      have hlay : l.foldl (relax (fun v => decide (v ∈ c)) d) o = round l to d o := fold_congr d l o (fun e he => (hc.2 e he).symm)
      have hsame : round l to d o = o := by
        refine list_ext10 (by rw [round, foldl_length]; exact hk.len) hk.len (fun v hv => ?_)
        rw [round, fold_at _ d (by omega) l o hE hk.len v hv]
        split
        · rename_i hx
          obtain ⟨h1, e, he, h2, _⟩ := hx
          have := hE e he
          exact absurd h1 (unknown_zero (by omega) (by omega) (by omega))
        · rfl
      have hnx : nx = [] := by
        cases nx with
        | nil => rfl
        | cons v nx =>
          have := (n2 v).1 (by simp)
          rcases this with h1 | ⟨h1, e, he, h2, _⟩
          · cases h1
          · have := hE e he
            exact absurd h1 (unknown_zero (by omega) (by omega) (by omega))
      subst hnx
      rw [hlay, hsame] at n3
      rw [impl_distances_l0_eq]
      have hpos : 0 < c.length := List.length_pos_iff.2 hc0
      have hpos' : (0 : Int) < c.length := by omega
      simp only [bin_gtr, List.length_map, hpos', decide_true, Option.bind_some, asBool_bool, if_true, lenOf_sl]
      rw [show ([] : List U) = ([] : List Int).map intU from rfl, n3]
      exact impl_distances_end l _ b4 hb o hk.len
  | succ n ih =>
    intro d o c hk hd hu hc
    have hd1 := hk.pos
    by_cases hc0 : c = []
    · subst hc0
      rw [rounds_stop hE (n + 1) d o hk (fun e he => by rw [hc.2 e he]; simp)]
      exact impl_distances_end l d b4 hb o hk.len
    · obtain ⟨nx, n1, n2, n3⟩ := impl_distances_l1_is h l hl hE d hd1 (by omega) c hc.1 b4 l [] 0 o [] rfl rfl hk.len (by simp)
      have hlay : l.foldl (relax (fun v => decide (v ∈ c)) d) o = round l to d o := fold_congr d l o (fun e he => (hc.2 e he).symm)
      have hk' := hk.next hE
      have hnl : IsLayer l to (d + 1) (round l to d o) nx := ⟨by omega, fun e he => by
        rw [Bool.eq_iff_iff, layer_next hE hk e.to (by have := hE e he; omega), decide_eq_true_eq, n2 e.to]
        constructor
        · rintro ⟨h1, x, hx, h2, h3⟩
          rw [hc.2 x hx, decide_eq_true_eq] at h3
          exact .inr ⟨h1, x, hx, h2, h3⟩
        · rintro (h1 | ⟨h1, x, hx, h2, h3⟩)
          · cases h1
          · exact ⟨h1, x, hx, h2, by rw [hc.2 x hx]; simpa using h3⟩⟩
      rw [impl_distances_l0_eq]
      have hpos : 0 < c.length := List.length_pos_iff.2 hc0
      have hpos' : (0 : Int) < c.length := by omega
      simp only [bin_gtr, List.length_map, hpos', decide_true, Option.bind_some, asBool_bool, if_true, lenOf_sl]
      rw [show ([] : List U) = ([] : List Int).map intU from rfl, n3, hlay, rounds]
      cases hnx : nx with
      | nil =>
        subst hnx
        rw [rounds_stop hE n (d + 1) _ hk' (fun e he => by rw [hnl.2 e he]; simp)]
        exact impl_distances_end l _ b4 hb _ hk'.len
      | cons v nx' =>
        rw [← hnx]
        refine ih (d + 1) _ nx hk' (by omega) ?_ hnl
        obtain ⟨h1, e, he, h2, h3⟩ : at_ o v < 0 ∧ ∃ e ∈ l, e.frm = v ∧ e.to ∈ c := by
          rcases (n2 v).1 (by rw [hnx]; simp) with h1 | h1
          · cases h1
          · exact h1
        have hev := hE e he
        have : unknown (round l to d o) < unknown o := by
          refine unknown_less (fun v hv => round_down hE hk v hv) (v := v) (by omega) (by omega) ?_ h1
          rw [round, fold_at _ d (by omega) l o hE hk.len v (by omega), if_pos ⟨h1, e, he, h2, by rw [hc.2 e he]; simpa using h3⟩]
          omega
        omega

theorem know_start (to : Int) : Know to 1 (List.replicate 10 (-1)) := by
  refine ⟨by simp, fun v hv => ?_, by omega⟩
  unfold at_
  rw [List.getD_eq_getElem?_getD, List.getElem?_replicate]
  split
  · show (-1 : Int) ≤ 1 - 1; omega
  · show (0 : Int) ≤ 1 - 1; omega

theorem impl_distances_l2_is (h : G_impl_distances E) (l : List Edge) (hl : l.length ≤ 1048576) (hE : Ends l) (to : Int) (b4 : U) (hb : b4.size = 10) : ∀ (n m : Nat) (i : Int), m + n = 10 → i = m →
    impl_distances_l2 E (edgesU l) (.int .i64 to) (.int .i64 i) b4 (arrU (List.replicate m (-1) ++ List.replicate n 0)) = some (arrU (dist l to))
  | 0, m, i, hm, hi => by
    have : ¬ i < 10 := by omega
    obtain rfl : m = 10 := by omega
    rw [impl_distances_l2_eq]
    simp only [bin_lss, this, decide_false, Option.bind_some, asBool_bool, Bool.false_eq_true, if_false, storable_int, size_int, and_self, if_true]
    exact impl_distances_l0_is h l hl hE to b4 hb 9 1 _ [to] (know_start to) (by omega) (by unfold unknown; exact Nat.le_trans (List.length_filter_le _ _) (by simp)) ⟨by simp, fun e he => by simp [layer]⟩
  | n + 1, m, i, hm, hi => by
    have h1 : i < 10 := by omega
    have h0 : 0 ≤ i := by omega
    have hw : IntKind.i64.wrap (i + 1) = i + 1 := wrap_in (by omega)
    have ih := impl_distances_l2_is h l hl hE to b4 hb n (m + 1) (i + 1) (by omega) (by omega)
    have hlen : (List.replicate m (-1 : Int) ++ List.replicate (n + 1) 0).length = 10 := by simp; omega
    have i1 := idx_ok hlen (v := i) h0 (by omega)
    have hst := sizes_take hlen (v := i) h0 (by omega)
    have hset : (List.replicate m (-1 : Int) ++ List.replicate (n + 1) 0).set i.toNat (-1) = List.replicate (m + 1) (-1) ++ List.replicate n 0 := by
      have : i.toNat = m := by omega
      rw [this, List.set_append_right _ _ (by simp)]
      simp only [List.length_replicate, Nat.sub_self, List.replicate_succ, List.set_cons_zero]
      rw [← List.replicate_succ, List.replicate_succ', List.append_assoc]
      rfl
    rw [impl_distances_l2_eq]
    simp only [bin_lss, h1, decide_true, Option.bind_some, asBool_bool, if_true, asInt_int, h0, and_self, asAgg_agg, hst, i1, intU_size, bin_add, hw, set_ok, hset]
    exact ih

theorem impl_distances_is (h : G_impl_distances E) (l : List Edge) (hl : l.length ≤ 1048576) (hE : Ends l) (to : Int) : E 41 [edgesU l, .int .i64 to] = some (arrU (dist l to)) := by
  rw [impl_distances_E h]
  exact impl_distances_l2_is h l hl hE to _ rfl 10 0 0 rfl rfl

theorem dist_length {l : List Edge} (to : Int) : (dist l to).length = 10 := by
  have : ∀ (n : Nat) (d : Int) (o : List Int), (rounds l to n d o).length = o.length := by
    intro n
    induction n with
    | zero => intro d o; rfl
    | succ n ih => intro d o; rw [rounds, ih, round, foldl_length]
  rw [dist, this]; simp

def edgeDistance (l : List Edge) (a b : Int) : Int := if areEdges l && (inR a 1 9 && inR b 1 9) then at_ (dist l b) a else -1

theorem spec_EdgeDistance_is (h : G_spec_EdgeDistance E) (l : List Edge) (hl : l.length ≤ 1048576) (a b : Int) : E 39 [edgesU l, .int .i64 a, .int .i64 b] = some (.int .i64 (edgeDistance l a b)) := by
  rw [spec_EdgeDistance_E h]
  unfold edgeDistance
  cases h1 : areEdges l
  · simp [spec_AreEdges_is h.c_spec_AreEdges l hl, h1]
  cases h2 : inR a 1 9
  · simp [spec_AreEdges_is h.c_spec_AreEdges l hl, h1, spec_l1In_is h.c_spec_l1In, h2]
  cases h3 : inR b 1 9
  · simp [spec_AreEdges_is h.c_spec_AreEdges l hl, h1, spec_l1In_is h.c_spec_l1In, h2, h3]
  have h2' := h2
  simp only [inR, decide_eq_true_eq] at h2'
  have i1 := idx_ok (dist_length (l := l) b) (v := a) (by omega) h2'.2
  have h0 : 0 ≤ a := by omega
  simp [spec_AreEdges_is h.c_spec_AreEdges l hl, h1, spec_l1In_is h.c_spec_l1In, h2, h3, spec_l20Far_is h.c_spec_l20Far l hl (areEdges_ends h1) b, elemAt_sl, h0, i1, -getElem?_pos, -List.getElem?_map]

theorem arr_at {γ : Type} {o : List Int} (ho : o.length = 10) {v : Int} (h1 : 0 ≤ v) (h2 : v ≤ 9) (K : U → Option γ) : U.fieldAt v.toNat (v.toNat * 1) (arrU o) K = K (intU (at_ o v)) := by
  show (if v.toNat * 1 = sizes ((o.map intU).take v.toNat) then ((o.map intU)[v.toNat]?).bind K else none) = _
  rw [if_pos (sizes_take ho h1 h2), idx_ok ho h1 h2]
  rfl

theorem impl_EdgeDistance_is (h : G_impl_EdgeDistance E) (l : List Edge) (hl : l.length ≤ 1048576) (a b : Int) : E 38 [edgesU l, .int .i64 a, .int .i64 b] = some (.int .i64 (edgeDistance l a b)) := by
  rw [impl_EdgeDistance_E h]
  unfold edgeDistance
  cases h1 : areEdges l
  · simp [impl_AreEdges_is h.c_impl_AreEdges l hl, h1]
  cases h2 : inR a 1 9
  · simp [impl_AreEdges_is h.c_impl_AreEdges l hl, h1, impl_isID_is h.c_impl_isID, h2]
  cases h3 : inR b 1 9
  · simp [impl_AreEdges_is h.c_impl_AreEdges l hl, h1, impl_isID_is h.c_impl_isID, h2, h3]
  have h2' := h2
  simp only [inR, decide_eq_true_eq] at h2'
  have h4 : 0 ≤ a ∧ a < 10 := by omega
  have h5 := impl_distances_is h.c_impl_distances l hl (areEdges_ends h1) b
  simp only [impl_AreEdges_is h.c_impl_AreEdges l hl, h1, impl_isID_is h.c_impl_isID, h2, h3, h5, Option.bind_some, un_not, Bool.not_true, asBool_bool, Bool.false_eq_true, if_false, asInt_int, h4, and_self, if_true, Bool.and_self]
  rw [arr_at (dist_length b) h4.1 (by omega)]
  rfl
end Go.Proofs.Ytmebdbagcbgddaa.Am
/-
  Shortest cycles.
-/
namespace Go.Proofs.Ytmebdbagcbgddaa.Am
open Go
variable {E : Env}
set_option linter.unusedVariables false

/-! ### Plain -/
theorem rounds_know {l : List Edge} {to : Int} (hE : Ends l) : ∀ (n : Nat) (d : Int) (o : List Int), Know to d o → Know to (d + n) (rounds l to n d o)
  | 0, d, o, h => by simpa [rounds] using h
  | n + 1, d, o, h => by
    have := rounds_know hE n (d + 1) _ (h.next hE)
    rw [rounds]
    have e : d + ((n + 1 : Nat) : Int) = d + 1 + n := by omega
    rw [e]
    exact this
theorem dist_le {l : List Edge} (hE : Ends l) (to v : Int) (hv : 0 ≤ v) : at_ (dist l to) v ≤ 9 := by
  have := (rounds_know hE 9 1 _ (know_start to)).below v hv
  unfold dist
  omega

/-- One candidate more: the id a. -/
def scStep (l : List Edge) (cur : Option (Int × Int)) (a : Int) : Option (Int × Int) :=
  if decide (0 < at_ (dist l a) a) && (match cur with | none => true | some c => decide (at_ (dist l a) a < c.2)) then some (a, at_ (dist l a) a) else cur

/-- The last n candidates. -/
def scScan (l : List Edge) : Nat → Option (Int × Int) → Option (Int × Int)
  | 0, cur => cur
  | n + 1, cur => scScan l n (scStep l cur (9 - n))

/-- The first of the last n ids that comes next. -/
def scNext (l : List Edge) (far : List Int) (d at0 : Int) : Nat → Option Int
  | 0 => none
  | n + 1 => if decide (at_ far (9 - n) = d) && hasEdge l at0 (9 - n) then some (9 - n) else scNext l far d at0 n

def scChain (l : List Edge) (far : List Int) : Nat → Int → List Int → List Int
  | 0, _, out => out
  | d + 1, at0, out => match scNext l far (d + 1) at0 9 with
    | some b => scChain l far d b (out ++ [b])
    | none => scChain l far d at0 out

def scEnd (l : List Edge) : Option (Int × Int) → List Int
  | none => []
  | some (s, n) => scChain l (dist l s) (n - 1).toNat s [s]

def shortest (l : List Edge) : List Int := if areEdges l then scEnd l (scScan l 9 none) else []

def scS : Option (Int × Int) → Int
  | none => 0
  | some c => c.1
def scN : Option (Int × Int) → Int → Int
  | none, x => x
  | some c, _ => c.2

/-- What has been found is a right start. -/
def ScOK (l : List Edge) (cur : Option (Int × Int)) : Prop := ∀ c, cur = some c → 1 ≤ c.1 ∧ c.1 ≤ 9 ∧ 1 ≤ c.2 ∧ c.2 ≤ 9

theorem scStep_ok {l : List Edge} (hE : Ends l) {cur : Option (Int × Int)} (h : ScOK l cur) {a : Int} (h1 : 1 ≤ a) (h2 : a ≤ 9) : ScOK l (scStep l cur a) := by
  have hle := dist_le hE a a (by omega)
  have key : scStep l cur a = cur ∨ (0 < at_ (dist l a) a ∧ scStep l cur a = some (a, at_ (dist l a) a)) := by
    by_cases hp : 0 < at_ (dist l a) a
    · cases cur with
      | none => right; simp [scStep, hp]
      | some c =>
        by_cases hq : at_ (dist l a) a < c.2
        · right; simp [scStep, hp, hq]
        · left; simp [scStep, hq]
    · left; simp [scStep, hp]
  rcases key with k | ⟨k1, k2⟩
  · rw [k]; exact h
  · rw [k2]
    intro c e
    cases e
    exact ⟨h1, h2, by simp only; omega, hle⟩

/-! ### The reference -/
theorem spec_SC_l1_is (h : G_spec_ShortestCycle E) (l : List Edge) (hl : l.length ≤ 1048576) (far : List Int) (hf : far.length = 10) (d at0 : Int) (hd : 1 ≤ d) (hd2 : d ≤ 9) (c : List Int) (hc : c.length ≤ 1000) : ∀ (n : Nat) (b : Int), b = 10 - n → 1 ≤ b →
    spec_ShortestCycle_l1 E (edgesU l) (intsU far) (.int .i64 at0) (.int .i64 d) (.int .i64 b) (c.map intU) =
      match scNext l far d at0 n with
      | some v => spec_ShortestCycle_l0 E (edgesU l) (intsU far) (.int .i64 v) (.int .i64 (d - 1)) ((c ++ [v]).map intU)
      | none => spec_ShortestCycle_l0 E (edgesU l) (intsU far) (.int .i64 at0) (.int .i64 (d - 1)) (c.map intU)
  | 0, b, hb, h1 => by
    have : ¬ b ≤ 9 := by omega
    have hw : IntKind.i64.wrap (d - 1) = d - 1 := wrap_in (by omega)
    rw [spec_ShortestCycle_l1_eq]
    simp [this, hw, scNext]
  | n + 1, b, hb, h1 => by
    have hb9 : b ≤ 9 := by omega
    have h0 : 0 ≤ b := by omega
    have hw : IntKind.i64.wrap (d - 1) = d - 1 := wrap_in (by omega)
    have hw2 : IntKind.i64.wrap (b + 1) = b + 1 := wrap_in (by omega)
    have e : (9 : Int) - n = b := by omega
    have ih := spec_SC_l1_is h l hl far hf d at0 hd hd2 c hc n (b + 1) (by omega) (by omega)
    have i1 := idx_ok hf (v := b) h0 hb9
    have hlen : ((c.map intU).length + 1) * 8 ≤ 140737488355328 := by rw [List.length_map]; omega
    rw [spec_ShortestCycle_l1_eq]
    simp only [scNext, e]
    cases hg : hasEdge l at0 b with
    | false =>
      simp only [bin_leq, hb9, decide_true, Option.bind_some, asBool_bool, if_true, spec_HasEdge_is h.c_spec_HasEdge l hl, hg, Bool.false_eq_true, if_false, bin_add, hw2, Bool.and_false]
      exact ih
    | true =>
      by_cases hq : at_ far b = d
      · simp only [bin_leq, hb9, decide_true, Option.bind_some, asBool_bool, if_true, spec_HasEdge_is h.c_spec_HasEdge l hl, hg, asInt_int, elemAt_sl, h0, i1, asVar_intU, bin_eql, hq, storable_int, size_int, and_self, List.length_cons, List.length_nil, hlen, bin_sub, hw, Bool.and_self, List.map_append, List.map_cons, List.map_nil, intU, asVar_int]
      · simp only [bin_leq, hb9, decide_true, Option.bind_some, asBool_bool, if_true, spec_HasEdge_is h.c_spec_HasEdge l hl, hg, asInt_int, elemAt_sl, h0, i1, asVar_intU, bin_eql, hq, decide_false, Bool.false_eq_true, if_false, bin_add, hw2, Bool.false_and]
        exact ih

theorem scNext_range {l : List Edge} {far : List Int} {d at0 : Int} : ∀ {n : Nat} {v : Int}, n ≤ 9 → scNext l far d at0 n = some v → 1 ≤ v ∧ v ≤ 9
  | 0, _, _, h => by cases h
  | n + 1, v, hn, h => by
    simp only [scNext] at h
    split at h
    · cases h; omega
    · exact scNext_range (by omega) h

theorem spec_SC_l0_is (h : G_spec_ShortestCycle E) (l : List Edge) (hl : l.length ≤ 1048576) (far : List Int) (hf : far.length = 10) : ∀ (n : Nat) (d at0 : Int) (c : List Int), d = n → n ≤ 9 → c.length + n ≤ 1000 →
    spec_ShortestCycle_l0 E (edgesU l) (intsU far) (.int .i64 at0) (.int .i64 d) (c.map intU) = some (intsU (scChain l far n at0 c))
  | 0, d, at0, c, hd, _, _ => by
    have : ¬ 0 < d := by omega
    rw [spec_ShortestCycle_l0_eq]
    simp [this, scChain]
  | n + 1, d, at0, c, hd, h9, hc => by
    have hpos : 0 < d := by omega
    rw [spec_ShortestCycle_l0_eq]
    simp only [bin_gtr, hpos, decide_true, Option.bind_some, asBool_bool, if_true]
    rw [spec_SC_l1_is h l hl far hf d at0 (by omega) (by omega) c (by omega) 9 1 rfl (by omega)]
    have e : (n : Int) + 1 = d := by omega
    simp only [scChain, e]
    cases hx : scNext l far d at0 9 with
    | none => exact spec_SC_l0_is h l hl far hf n (d - 1) at0 c (by omega) (by omega) (by omega)
    | some v => exact spec_SC_l0_is h l hl far hf n (d - 1) v (c ++ [v]) (by omega) (by omega) (by simp; omega)

theorem spec_SC_l2_is (h : G_spec_ShortestCycle E) (l : List Edge) (hl : l.length ≤ 1048576) (ha : areEdges l = true) : ∀ (n : Nat) (a : Int) (cur : Option (Int × Int)), a = 10 - n → 1 ≤ a → ScOK l cur →
    spec_ShortestCycle_l2 E (edgesU l) (.int .i64 (scS cur)) (.int .i64 (scN cur (-1))) (.int .i64 a) = some (intsU (scEnd l (scScan l n cur)))
  | 0, a, cur, hb, h1, hok => by
    have : ¬ a ≤ 9 := by omega
    rw [spec_ShortestCycle_l2_eq]
    cases cur with
    | none => simp [this, scScan, scEnd, scN]
    | some c =>
      obtain ⟨s, k⟩ := c
      obtain ⟨c1, c2, c3, c4⟩ := hok _ rfl
      simp only at c1 c2 c3 c4
      have hk : ¬ k < 0 := by omega
      have hw : IntKind.i64.wrap (k - 1) = k - 1 := wrap_in (by omega)
      simp only [bin_leq, this, decide_false, Option.bind_some, asBool_bool, Bool.false_eq_true, if_false, scN, scS, bin_lss, hk, spec_l20Far_is h.c_spec_l20Far l hl (areEdges_ends ha), storable_int, size_int, and_self, if_true, bin_sub, hw, scScan, scEnd]
      exact spec_SC_l0_is h l hl (dist l s) (dist_length s) (k - 1).toNat (k - 1) s [s] (by omega) (by omega) (by simp; omega)
  | n + 1, a, cur, hb, h1, hok => by
    have h9 : a ≤ 9 := by omega
    have hw : IntKind.i64.wrap (a + 1) = a + 1 := wrap_in (by omega)
    have e : (9 : Int) - n = a := by omega
    have hE := areEdges_ends ha
    have ih := spec_SC_l2_is h l hl ha n (a + 1) (scStep l cur a) (by omega) (by omega) (scStep_ok hE hok h1 h9)
    have hd : E 39 [edgesU l, .int .i64 a, .int .i64 a] = some (.int .i64 (at_ (dist l a) a)) := by
      rw [spec_EdgeDistance_is h.c_spec_EdgeDistance l hl]
      have : inR a 1 9 = true := by simp [inR]; omega
      simp [edgeDistance, ha, this]
    rw [spec_ShortestCycle_l2_eq]
    simp only [scScan, e]
    rw [← ih]
    by_cases hp : 0 < at_ (dist l a) a
    · cases cur with
      | none =>
        simp only [bin_leq, h9, decide_true, Option.bind_some, asBool_bool, if_true, hd, bin_gtr, hp, scN, bin_lss, Int.reduceLT, bin_add, hw, scStep, Bool.and_self, scS, Int.reduceNeg]
      | some c =>
        obtain ⟨s, k⟩ := c
        obtain ⟨c1, c2, c3, c4⟩ := hok _ rfl
        simp only at c1 c2 c3 c4
        have hk : ¬ k < 0 := by omega
        by_cases hlt : at_ (dist l a) a < k
        · simp only [bin_leq, h9, decide_true, Option.bind_some, asBool_bool, if_true, hd, bin_gtr, hp, scN, bin_lss, hk, decide_false, Bool.false_eq_true, if_false, hlt, bin_add, hw, scStep, Bool.and_self, scS]
        · simp only [bin_leq, h9, decide_true, Option.bind_some, asBool_bool, if_true, hd, bin_gtr, hp, scN, bin_lss, hk, decide_false, Bool.false_eq_true, if_false, hlt, bin_add, hw, scStep, Bool.and_false, scS]
    · simp only [bin_leq, h9, decide_true, Option.bind_some, asBool_bool, if_true, hd, bin_gtr, hp, decide_false, Bool.false_eq_true, if_false, bin_add, hw, scStep, Bool.false_and]

theorem spec_SC_none (h : G_spec_ShortestCycle E) (l : List Edge) (hl : l.length ≤ 1048576) (ha : areEdges l = false) : ∀ (n : Nat) (a : Int), a = 10 - n → 1 ≤ a →
    spec_ShortestCycle_l2 E (edgesU l) (.int .i64 0) (.int .i64 (-1)) (.int .i64 a) = some (.sl 1 [])
  | 0, a, hb, h1 => by
    have : ¬ a ≤ 9 := by omega
    rw [spec_ShortestCycle_l2_eq]
    simp [this]
  | n + 1, a, hb, h1 => by
    have h9 : a ≤ 9 := by omega
    have hw : IntKind.i64.wrap (a + 1) = a + 1 := wrap_in (by omega)
    have ih := spec_SC_none h l hl ha n (a + 1) (by omega) (by omega)
    have hd : E 39 [edgesU l, .int .i64 a, .int .i64 a] = some (.int .i64 (-1)) := by
      rw [spec_EdgeDistance_is h.c_spec_EdgeDistance l hl]
      simp [edgeDistance, ha]
    rw [spec_ShortestCycle_l2_eq]
    simp [h9, hd, hw, ih]

theorem spec_ShortestCycle_is (h : G_spec_ShortestCycle E) (l : List Edge) (hl : l.length ≤ 1048576) : E 80 [edgesU l] = some (intsU (shortest l)) := by
  rw [spec_ShortestCycle_E h]
  unfold shortest
  cases ha : areEdges l with
  | false => exact spec_SC_none h l hl ha 9 1 rfl (by omega)
  | true => exact spec_SC_l2_is h l hl ha 9 1 none rfl (by omega) (fun c e => by cases e)

/-! ### The program -/
theorem impl_SC_l1_is (h : G_impl_ShortestCycle E) (l : List Edge) (hl : l.length ≤ 1048576) (far : List Int) (hf : far.length = 10) (d at0 : Int) (hd : 1 ≤ d) (hd2 : d ≤ 9) (c : List Int) (hc : c.length ≤ 1000) : ∀ (n : Nat) (b : Int), b = 10 - n → 1 ≤ b →
    impl_ShortestCycle_l1 E (edgesU l) (.int .i64 d) (.int .i64 b) ((c ++ [at0]).map intU) (arrU far) =
      match scNext l far d at0 n with
      | some v => impl_ShortestCycle_l0 E (edgesU l) (.int .i64 (d - 1)) ((c ++ [at0] ++ [v]).map intU) (arrU far)
      | none => impl_ShortestCycle_l0 E (edgesU l) (.int .i64 (d - 1)) ((c ++ [at0]).map intU) (arrU far)
  | 0, b, hb, h1 => by
    have : ¬ b ≤ 9 := by omega
    have hw : IntKind.i64.wrap (d - 1) = d - 1 := wrap_in (by omega)
    rw [impl_ShortestCycle_l1_eq]
    simp [this, hw, scNext]
  | n + 1, b, hb, h1 => by
    have hb9 : b ≤ 9 := by omega
    have h0 : 0 ≤ b ∧ b < 10 := by omega
    have hw : IntKind.i64.wrap (d - 1) = d - 1 := wrap_in (by omega)
    have hw2 : IntKind.i64.wrap (b + 1) = b + 1 := wrap_in (by omega)
    have e : (9 : Int) - n = b := by omega
    have ih := impl_SC_l1_is h l hl far hf d at0 hd hd2 c hc n (b + 1) (by omega) (by omega)
    have i1 := idx_ok hf (v := b) h0.1 hb9
    have hst := sizes_take hf (v := b) h0.1 hb9
    have hlen : ((c ++ [at0]).length + 1) * 8 ≤ 140737488355328 := by simp; omega
    have hw3 : IntKind.i64.wrap (((c ++ [at0]).length : Int) - 1) = c.length := by rw [wrap_in (by simp; omega)]; simp
    have hlast : ((c ++ [at0]).map intU)[((c.length : Int)).toNat]? = some (intU at0) := by simp
    have hlt : (0 : Int) ≤ c.length ∧ (c.length : Int) < ((c ++ [at0]).length : Int) := by simp; omega
    rw [impl_ShortestCycle_l1_eq]
    simp only [scNext, e]
    by_cases hq : at_ far b = d
    · cases hg : hasEdge l at0 b with
      | false =>
        simp only [bin_leq, hb9, decide_true, Option.bind_some, asBool_bool, if_true, asInt_int, h0, and_self, asAgg_agg, hst, i1, asVar_intU, bin_eql, hq, List.length_map, bin_sub, hw3, hlt, hlast, impl_HasEdge_is h.c_impl_HasEdge l hl, hg, Bool.false_eq_true, if_false, bin_add, hw2, Bool.and_false]
        exact ih
      | true =>
        simp only [bin_leq, hb9, decide_true, Option.bind_some, asBool_bool, if_true, asInt_int, h0, and_self, asAgg_agg, hst, i1, asVar_intU, bin_eql, hq, List.length_map, bin_sub, hw3, hlt, hlast, impl_HasEdge_is h.c_impl_HasEdge l hl, hg, storable_int, size_int, List.length_cons, List.length_nil, hlen, hw, Bool.and_self]
        rw [List.map_append (l₁ := c ++ [at0])]
        simp only [List.map_cons, List.map_nil, intU]
    · simp only [bin_leq, hb9, decide_true, Option.bind_some, asBool_bool, if_true, asInt_int, h0, and_self, asAgg_agg, hst, i1, asVar_intU, bin_eql, hq, decide_false, Bool.false_eq_true, if_false, bin_add, hw2, Bool.false_and]
      exact ih

theorem impl_SC_l0_is (h : G_impl_ShortestCycle E) (l : List Edge) (hl : l.length ≤ 1048576) (far : List Int) (hf : far.length = 10) : ∀ (n : Nat) (d at0 : Int) (c : List Int), d = n → n ≤ 9 → c.length + n ≤ 990 →
    impl_ShortestCycle_l0 E (edgesU l) (.int .i64 d) ((c ++ [at0]).map intU) (arrU far) = some (intsU (scChain l far n at0 (c ++ [at0])))
  | 0, d, at0, c, hd, _, _ => by
    have : ¬ 0 < d := by omega
    rw [impl_ShortestCycle_l0_eq]
    simp [this, scChain]
  | n + 1, d, at0, c, hd, h9, hc => by
    have hpos : 0 < d := by omega
    rw [impl_ShortestCycle_l0_eq]
    simp only [bin_gtr, hpos, decide_true, Option.bind_some, asBool_bool, if_true]
    rw [impl_SC_l1_is h l hl far hf d at0 (by omega) (by omega) c (by omega) 9 1 rfl (by omega)]
    have e : (n : Int) + 1 = d := by omega
    simp only [scChain, e]
    cases hx : scNext l far d at0 9 with
    | none => exact impl_SC_l0_is h l hl far hf n (d - 1) at0 c (by omega) (by omega) (by omega)
    | some v => exact impl_SC_l0_is h l hl far hf n (d - 1) v (c ++ [at0]) (by omega) (by omega) (by simp; omega)

/-- The program hands back nil where there is none. -/
def orNil (l : List Int) : U := if l = [] then .nsl 1 else intsU l

theorem scChain_ne (l : List Edge) (far : List Int) : ∀ (n : Nat) (a : Int) (c : List Int), c ≠ [] → scChain l far n a c ≠ []
  | 0, _, c, h => h
  | n + 1, a, c, h => by
    simp only [scChain]
    split
    · exact scChain_ne l far n _ _ (by simp)
    · exact scChain_ne l far n _ _ h

theorem impl_SC_l2_is (h : G_impl_ShortestCycle E) (l : List Edge) (hl : l.length ≤ 1048576) (ha : areEdges l = true) : ∀ (n : Nat) (a : Int) (cur : Option (Int × Int)), a = 10 - n → 1 ≤ a → ScOK l cur →
    impl_ShortestCycle_l2 E (edgesU l) (.int .i64 (scS cur)) (.int .i64 (scN cur 0)) (.int .i64 a) = some (orNil (scEnd l (scScan l n cur)))
  | 0, a, cur, hb, h1, hok => by
    have : ¬ a ≤ 9 := by omega
    rw [impl_ShortestCycle_l2_eq]
    cases cur with
    | none => simp [this, scScan, scEnd, scS, orNil]
    | some c =>
      obtain ⟨s, k⟩ := c
      obtain ⟨c1, c2, c3, c4⟩ := hok _ rfl
      simp only at c1 c2 c3 c4
      have hs : ¬ s = 0 := by omega
      have hw : IntKind.i64.wrap (k - 1) = k - 1 := wrap_in (by omega)
      have hsz : (arrU (dist l s)).size = 10 := by show sizes _ = 10; rw [sizes_ints, dist_length]
      have hl0 := impl_SC_l0_is h l hl (dist l s) (dist_length s) (k - 1).toNat (k - 1) s [] (by omega) (by omega) (by simp; omega)
      have hne := scChain_ne l (dist l s) (k - 1).toNat s [s] (by simp)
      simp only [bin_leq, this, decide_false, Option.bind_some, asBool_bool, Bool.false_eq_true, if_false, scN, scS, bin_eql, hs, storable_int, size_int, and_self, if_true, impl_distances_is h.c_impl_distances l hl (areEdges_ends ha), storable_agg, hsz, bin_sub, hw, scScan, scEnd, orNil, hne]
      exact hl0
  | n + 1, a, cur, hb, h1, hok => by
    have h9 : a ≤ 9 := by omega
    have h0 : 0 ≤ a ∧ a < 10 := by omega
    have hw : IntKind.i64.wrap (a + 1) = a + 1 := wrap_in (by omega)
    have e : (9 : Int) - n = a := by omega
    have hE := areEdges_ends ha
    have ih := impl_SC_l2_is h l hl ha n (a + 1) (scStep l cur a) (by omega) (by omega) (scStep_ok hE hok h1 h9)
    have hat := fun {γ : Type} (K : U → Option γ) => arr_at (dist_length (l := l) a) h0.1 h9 K
    rw [impl_ShortestCycle_l2_eq]
    simp only [scScan, e]
    rw [← ih]
    by_cases hp : 0 < at_ (dist l a) a
    · cases cur with
      | none =>
        simp only [bin_leq, h9, decide_true, Option.bind_some, asBool_bool, if_true, impl_distances_is h.c_impl_distances l hl hE, asInt_int, h0, and_self, hat, asVar_intU, bin_gtr, hp, scS, bin_eql, bin_add, hw, scStep, Bool.and_self, scN]
      | some c =>
        obtain ⟨s, k⟩ := c
        obtain ⟨c1, c2, c3, c4⟩ := hok _ rfl
        simp only at c1 c2 c3 c4
        have hs : ¬ s = 0 := by omega
        by_cases hlt : at_ (dist l a) a < k
        · simp only [bin_leq, h9, decide_true, Option.bind_some, asBool_bool, if_true, impl_distances_is h.c_impl_distances l hl hE, asInt_int, h0, and_self, hat, asVar_intU, bin_gtr, hp, scS, bin_eql, hs, decide_false, Bool.false_eq_true, if_false, bin_lss, hlt, bin_add, hw, scStep, Bool.and_self, scN]
        · simp only [bin_leq, h9, decide_true, Option.bind_some, asBool_bool, if_true, impl_distances_is h.c_impl_distances l hl hE, asInt_int, h0, and_self, hat, asVar_intU, bin_gtr, hp, scS, bin_eql, hs, decide_false, Bool.false_eq_true, if_false, bin_lss, hlt, bin_add, hw, scStep, Bool.and_false, scN]
    · simp only [bin_leq, h9, decide_true, Option.bind_some, asBool_bool, if_true, impl_distances_is h.c_impl_distances l hl hE, asInt_int, h0, and_self, hat, asVar_intU, bin_gtr, hp, decide_false, Bool.false_eq_true, if_false, bin_add, hw, scStep, Bool.false_and]

theorem impl_ShortestCycle_is (h : G_impl_ShortestCycle E) (l : List Edge) (hl : l.length ≤ 1048576) : E 81 [edgesU l] = some (orNil (shortest l)) := by
  rw [impl_ShortestCycle_E h]
  unfold shortest
  cases ha : areEdges l with
  | false => simp [impl_AreEdges_is h.c_impl_AreEdges l hl, ha, orNil]
  | true =>
    simp only [impl_AreEdges_is h.c_impl_AreEdges l hl, ha, Option.bind_some, un_not, Bool.not_true, asBool_bool, Bool.false_eq_true, if_false]
    exact impl_SC_l2_is h l hl ha 9 1 none rfl (by omega) (fun c e => by cases e)

def isAcyclic (l : List Edge) : Bool := areEdges l && decide (shortest l = [])

theorem lenOf_orNil (l : List Int) : U.lenOf false (orNil l) = some l.length := by
  unfold orNil
  split
  · rename_i h; subst h; rfl
  · simp

theorem spec_IsAcyclic_is (h : G_spec_IsAcyclic E) (l : List Edge) (hl : l.length ≤ 1048576) : E 79 [edgesU l] = some (.bool (isAcyclic l)) := by
  rw [spec_IsAcyclic_E h]
  have e : decide (((shortest l).length : Int) = 0) = decide (shortest l = []) := by
    congr 1; simp
  simp only [spec_AreEdges_is h.c_spec_AreEdges l hl, spec_ShortestCycle_is h.c_spec_ShortestCycle l hl, Option.bind_some, asBool_bool, lenOf_sl, List.length_map, bin_eql, e, ite_t, isAcyclic]

theorem impl_IsAcyclic_is (h : G_impl_IsAcyclic E) (l : List Edge) (hl : l.length ≤ 1048576) : E 78 [edgesU l] = some (.bool (isAcyclic l)) := by
  rw [impl_IsAcyclic_E h]
  have e : decide (((shortest l).length : Int) = 0) = decide (shortest l = []) := by
    congr 1; simp
  simp only [impl_AreEdges_is h.c_impl_AreEdges l hl, impl_ShortestCycle_is h.c_impl_ShortestCycle l hl, Option.bind_some, asBool_bool, lenOf_orNil, bin_eql, e, ite_t, isAcyclic]
end Go.Proofs.Ytmebdbagcbgddaa.Am
/-
  What the laws' own helpers compute.
-/
namespace Go.Proofs.Ytmebdbagcbgddaa.Am
open Go
variable {E : Env}
set_option linter.unusedVariables false

theorem laws_toEdge_is (h : G_laws_toEdge E) (x : Edge) : E 8 [x.u] = some x.u := by
  rw [laws_toEdge_E h]
  simp [Edge.u]

theorem laws_toEdgeS_l0_is (h : G_laws_toEdgeS E) (l : List Edge) (hl : l.length ≤ 1048576) : ∀ (r p : List Edge) (i : Int) (c : List U), l = p ++ r → i = p.length → c.length = r.length → (∀ z ∈ c, z.size = 4) →
    laws_toEdgeS_l0 E (.sl 4 (l.map Edge.u)) (.int .i64 i) (p.map Edge.u ++ c) = some (.sl 4 (l.map Edge.u))
  | [], p, i, c, e, hi, hc, _ => by
    obtain rfl : c = [] := List.length_eq_zero_iff.1 hc
    rw [laws_toEdgeS_l0_eq]
    simp [mid_end e hi]
    simp [e]
  | x :: r, p, i, [], e, hi, hc, _ => by cases hc
  | x :: r, p, i, z :: c, e, hi, hc, hz => by
    obtain ⟨h0, hlt, hx, hw, hn, _⟩ := mid_at e hi (by omega)
    have hzs : z.size = 4 := hz z (by simp)
    obtain ⟨hg, hs, hlen⟩ := mid_set Edge.u p z c hi
    have ih := laws_toEdgeS_l0_is h l hl r (p ++ [x]) (i + 1) c (mid_next e) hn (by simpa using hc) (fun y hy => hz y (by simp [hy]))
    simp only [List.map_append, List.map_cons, List.map_nil, List.append_assoc, List.cons_append, List.nil_append] at ih
    rw [laws_toEdgeS_l0_eq]
    simp only [hg, hs, hx, hw, asInt_int, bin_lss, lenOf_sl, List.length_map, Option.bind_some, asBool_bool, hlt, decide_true, if_true, h0, hlen, and_self, bin_add, laws_toEdge_is h.c_laws_toEdge x, hzs, Edge.u_var, Edge.u_size, Edge.u_storable]
    simpa using ih
theorem laws_toEdgeS_is (h : G_laws_toEdgeS E) (l : List Edge) (hl : l.length ≤ 1048576) : E 1 [.sl 4 (l.map Edge.u)] = some (.sl 4 (l.map Edge.u)) := by
  have h1 := laws_toEdgeS_l0_is h l hl l [] 0 (List.replicate l.length (.agg [.int .i64 0, .int .i64 0, .int .i64 0, .int .i64 0])) rfl rfl (by simp) (by simp)
  rw [laws_toEdgeS_E h]
  simp only [lenOf_sl, Option.bind_some, List.length_map]
  rw [if_pos (by refine ⟨by omega, by omega, by omega, rfl⟩)]
  simpa using h1

theorem laws_eqEdge_is (h : G_laws_eqEdge E) (x y : Edge) : E 16 [x.u, y.u] = some (.bool (decide (x = y))) := by
  rw [laws_eqEdge_E h]
  obtain ⟨a0, a1, a2, a3⟩ := x
  obtain ⟨b0, b1, b2, b3⟩ := y
  simp only [Edge.mk.injEq]
  by_cases h0 : a0 = b0
  case neg => simp [h0]
  subst h0
  by_cases h1 : a1 = b1
  case neg => simp [h1]
  subst h1
  by_cases h2 : a2 = b2
  case neg => simp [h2]
  subst h2
  by_cases h3 : a3 = b3
  case neg => simp [h3]
  subst h3
  simp []

theorem laws_eqEdgeS_l0_is (h : G_laws_eqEdgeS E) (a b : List Edge) (ha : a.length ≤ 1048576) (hb : b.length ≤ 1048576) : ∀ (r s p p2 : List Edge) (i : Int), a = p ++ r → b = p2 ++ s → i = p.length → i = p2.length → r.length = s.length →
    laws_eqEdgeS_l0 E (.sl 4 (a.map Edge.u)) (.sl 4 (b.map Edge.u)) (.int .i64 i) = some (.bool (decide (r = s)))
  | [], [], p, p2, i, e, e2, hi, hi2, _ => by
    rw [laws_eqEdgeS_l0_eq]
    simp [mid_end e hi]
  | [], y :: s, _, _, _, _, _, _, _, hl => by cases hl
  | x :: r, [], _, _, _, _, _, _, _, hl => by cases hl
  | x :: r, y :: s, p, p2, i, e, e2, hi, hi2, hl => by
    obtain ⟨h0, hlt, hx, hw, hn, _⟩ := mid_at e hi (by omega)
    obtain ⟨_, _, hy, _, hn2, _⟩ := mid_at e2 hi2 (by omega)
    have ih := laws_eqEdgeS_l0_is h a b ha hb r s (p ++ [x]) (p2 ++ [y]) (i + 1) (mid_next e) (mid_next e2) hn hn2 (by simpa using hl)
    rw [laws_eqEdgeS_l0_eq]
    by_cases hxy : x = y
    · subst hxy
      simp [hlt, hx, hy, hw, ih, laws_eqEdge_is h.c_laws_eqEdge]
    · simp [hlt, hx, hy, hw, ih, laws_eqEdge_is h.c_laws_eqEdge, hxy]
theorem laws_eqEdgeS_is (h : G_laws_eqEdgeS E) (a b : List Edge) (ha : a.length ≤ 1048576) (hb : b.length ≤ 1048576) : E 2 [.sl 4 (a.map Edge.u), .sl 4 (b.map Edge.u)] = some (.bool (decide (a = b))) := by
  rw [laws_eqEdgeS_E h]
  by_cases hl : a.length = b.length
  · simp [hl, laws_eqEdgeS_l0_is h a b ha hb a b [] [] 0 rfl rfl rfl rfl hl]
  · have h1 : a ≠ b := fun e => hl (by rw [e])
    have h2 : (a.length : Int) ≠ b.length := by omega
    simp [h1, h2]

theorem laws_szEdgeS_is (h : G_laws_szEdgeS E) (l : List Edge) (hl : l.length ≤ maxLen) (left : Int) (h0 : 0 ≤ left) (h1 : left ≤ 1048576) : E 5 [.sl 4 (l.map Edge.u), .int .i64 left] = some (.int .i64 (szc l.length left)) := by
  rw [laws_szEdgeS_E h]
  unfold maxLen at hl
  have hw : IntKind.i64.wrap (left - (l.length : Int)) = left - l.length := wrap_in (by omega)
  by_cases h2 : left - (l.length : Int) < 0 <;> simp [hw, szc, h2]

end Go.Proofs.Ytmebdbagcbgddaa.Am
/-
  What the laws' own helpers compute.
-/
namespace Go.Proofs.Ytmebdbagcbgddaa.Am
open Go
variable {E : Env}
set_option linter.unusedVariables false

theorem laws_toIntS_l0_is (h : G_laws_toIntS E) (l : List Int) (hl : l.length ≤ 1048576) : ∀ (r p : List Int) (i : Int) (c : List U), l = p ++ r → i = p.length → c.length = r.length → (∀ z ∈ c, z.size = 1) →
    laws_toIntS_l0 E (.sl 1 (l.map intU)) (.int .i64 i) (p.map intU ++ c) = some (.sl 1 (l.map intU))
  | [], p, i, c, e, hi, hc, _ => by
    obtain rfl : c = [] := List.length_eq_zero_iff.1 hc
    rw [laws_toIntS_l0_eq]
    simp [mid_end e hi]
    simp [e]
  | x :: r, p, i, [], e, hi, hc, _ => by cases hc
  | x :: r, p, i, z :: c, e, hi, hc, hz => by
    obtain ⟨h0, hlt, hx, hw, hn, _⟩ := mid_at e hi (by omega)
    have hzs : z.size = 1 := hz z (by simp)
    obtain ⟨hg, hs, hlen⟩ := mid_set intU p z c hi
    have ih := laws_toIntS_l0_is h l hl r (p ++ [x]) (i + 1) c (mid_next e) hn (by simpa using hc) (fun y hy => hz y (by simp [hy]))
    simp only [List.map_append, List.map_cons, List.map_nil, List.append_assoc, List.cons_append, List.nil_append] at ih
    rw [laws_toIntS_l0_eq]
    simp only [hg, hs, hx, hw, asInt_int, bin_lss, lenOf_sl, List.length_map, Option.bind_some, asBool_bool, hlt, decide_true, if_true, h0, hlen, and_self, bin_add, hzs, asVar_intU, intU_size, storable_intU]
    simpa [intU] using ih
theorem laws_toIntS_is (h : G_laws_toIntS E) (l : List Int) (hl : l.length ≤ 1048576) : E 58 [.sl 1 (l.map intU)] = some (.sl 1 (l.map intU)) := by
  have h1 := laws_toIntS_l0_is h l hl l [] 0 (List.replicate l.length (.int .i64 0)) rfl rfl (by simp) (by simp)
  rw [laws_toIntS_E h]
  simp only [lenOf_sl, Option.bind_some, List.length_map]
  rw [if_pos (by refine ⟨by omega, by omega, by omega, rfl⟩)]
  simpa using h1

theorem laws_eqIntS_l0_is (h : G_laws_eqIntS E) (a b : List Int) (ha : a.length ≤ 1048576) (hb : b.length ≤ 1048576) : ∀ (r s p p2 : List Int) (i : Int), a = p ++ r → b = p2 ++ s → i = p.length → i = p2.length → r.length = s.length →
    laws_eqIntS_l0 E (.sl 1 (a.map intU)) (.sl 1 (b.map intU)) (.int .i64 i) = some (.bool (decide (r = s)))
  | [], [], p, p2, i, e, e2, hi, hi2, _ => by
    rw [laws_eqIntS_l0_eq]
    simp [mid_end e hi]
  | [], y :: s, _, _, _, _, _, _, _, hl => by cases hl
  | x :: r, [], _, _, _, _, _, _, _, hl => by cases hl
  | x :: r, y :: s, p, p2, i, e, e2, hi, hi2, hl => by
    obtain ⟨h0, hlt, hx, hw, hn, _⟩ := mid_at e hi (by omega)
    obtain ⟨_, _, hy, _, hn2, _⟩ := mid_at e2 hi2 (by omega)
    have ih := laws_eqIntS_l0_is h a b ha hb r s (p ++ [x]) (p2 ++ [y]) (i + 1) (mid_next e) (mid_next e2) hn hn2 (by simpa using hl)
    rw [laws_eqIntS_l0_eq]
    by_cases hxy : x = y
    · subst hxy
      simp [intU, hlt, hx, hy, hw, ih]
    · simp [intU, hlt, hx, hy, hw, ih, hxy]
theorem laws_eqIntS_is (h : G_laws_eqIntS E) (a b : List Int) (ha : a.length ≤ 1048576) (hb : b.length ≤ 1048576) : E 59 [.sl 1 (a.map intU), .sl 1 (b.map intU)] = some (.bool (decide (a = b))) := by
  rw [laws_eqIntS_E h]
  by_cases hl : a.length = b.length
  · simp [hl, laws_eqIntS_l0_is h a b ha hb a b [] [] 0 rfl rfl rfl rfl hl]
  · have h1 : a ≠ b := fun e => hl (by rw [e])
    have h2 : (a.length : Int) ≠ b.length := by omega
    simp [h1, h2]

end Go.Proofs.Ytmebdbagcbgddaa.Am
/-
  Slices that are the law's own: they are handed back, and marked.
-/
namespace Go.Proofs.Ytmebdbagcbgddaa.Am
open Go
variable {E : Env}
set_option linter.unusedVariables false

theorem flats_app (a b : List U) : U.flat.flats (a ++ b) = (U.flat.flats a && U.flat.flats b) := by
  induction a with
  | nil => rfl
  | cons u a ih => simp [U.flat.flats, ih, Bool.and_assoc]
theorem flat_intU (n : Int) : (intU n).flat = true := rfl

/-! ### Handed back as the caller's own -/
theorem laws_toEdgeS_F_l0_is (h : G_laws_toEdgeS_F E) (l : List Edge) (hl : l.length ≤ 1048576) : ∀ (r p : List Edge) (i : Int) (c : List U), l = p ++ r → i = p.length → c.length = r.length → (∀ z ∈ c, z.size = 4) →
    laws_toEdgeS_F_l0 E (.sl 4 (l.map Edge.u)) (.int .i64 i) (p.map Edge.u ++ c) = some (.sl 4 (l.map Edge.u))
  | [], p, i, c, e, hi, hc, _ => by
    obtain rfl : c = [] := List.length_eq_zero_iff.1 hc
    rw [laws_toEdgeS_F_l0_eq]
    simp [mid_end e hi]
    simp [e]
  | x :: r, p, i, [], e, hi, hc, _ => by cases hc
  | x :: r, p, i, z :: c, e, hi, hc, hz => by
    obtain ⟨h0, hlt, hx, hw, hn, _⟩ := mid_at e hi (by omega)
    have hzs : z.size = 4 := hz z (by simp)
    obtain ⟨hg, hs, hlen⟩ := mid_set Edge.u p z c hi
    have ih := laws_toEdgeS_F_l0_is h l hl r (p ++ [x]) (i + 1) c (mid_next e) hn (by simpa using hc) (fun y hy => hz y (by simp [hy]))
    simp only [List.map_append, List.map_cons, List.map_nil, List.append_assoc, List.cons_append, List.nil_append] at ih
    rw [laws_toEdgeS_F_l0_eq]
    simp only [hg, hs, hx, hw, asInt_int, bin_lss, lenOf_sl, List.length_map, Option.bind_some, asBool_bool, hlt, decide_true, if_true, h0, hlen, and_self, bin_add, laws_toEdge_is h.c_laws_toEdge x, hzs, Edge.u_var, Edge.u_size, Edge.u_storable]
    simpa using ih
theorem laws_toEdgeS_F_is (h : G_laws_toEdgeS_F E) (l : List Edge) (hl : l.length ≤ 1048576) : E 100001 [.sl 4 (l.map Edge.u)] = some (.sl 4 (l.map Edge.u)) := by
  have h1 := laws_toEdgeS_F_l0_is h l hl l [] 0 (List.replicate l.length (.agg [.int .i64 0, .int .i64 0, .int .i64 0, .int .i64 0])) rfl rfl (by simp) (by simp)
  rw [laws_toEdgeS_F_E h]
  simp only [lenOf_sl, Option.bind_some, List.length_map]
  rw [if_pos (by refine ⟨by omega, by omega, by omega, rfl⟩)]
  simpa using h1


theorem impl_SCF_l1_is (h : G_impl_ShortestCycle_F E) (l : List Edge) (hl : l.length ≤ 1048576) (far : List Int) (hf : far.length = 10) (d at0 : Int) (hd : 1 ≤ d) (hd2 : d ≤ 9) (c : List Int) (hc : c.length ≤ 1000) : ∀ (n : Nat) (b : Int), b = 10 - n → 1 ≤ b →
    impl_ShortestCycle_F_l1 E (edgesU l) (.int .i64 d) (.int .i64 b) ((c ++ [at0]).map intU) (arrU far) =
      match scNext l far d at0 n with
      | some v => impl_ShortestCycle_F_l0 E (edgesU l) (.int .i64 (d - 1)) ((c ++ [at0] ++ [v]).map intU) (arrU far)
      | none => impl_ShortestCycle_F_l0 E (edgesU l) (.int .i64 (d - 1)) ((c ++ [at0]).map intU) (arrU far)
  | 0, b, hb, h1 => by
    have : ¬ b ≤ 9 := by omega
    have hw : IntKind.i64.wrap (d - 1) = d - 1 := wrap_in (by omega)
    rw [impl_ShortestCycle_F_l1_eq]
    simp [this, hw, scNext]
  | n + 1, b, hb, h1 => by
    have hb9 : b ≤ 9 := by omega
    have h0 : 0 ≤ b ∧ b < 10 := by omega
    have hw : IntKind.i64.wrap (d - 1) = d - 1 := wrap_in (by omega)
    have hw2 : IntKind.i64.wrap (b + 1) = b + 1 := wrap_in (by omega)
    have e : (9 : Int) - n = b := by omega
    have ih := impl_SCF_l1_is h l hl far hf d at0 hd hd2 c hc n (b + 1) (by omega) (by omega)
    have i1 := idx_ok hf (v := b) h0.1 hb9
    have hst := sizes_take hf (v := b) h0.1 hb9
    have hlen : ((c ++ [at0]).length + 1) * 8 ≤ 140737488355328 := by simp; omega
    have hw3 : IntKind.i64.wrap (((c ++ [at0]).length : Int) - 1) = c.length := by rw [wrap_in (by simp; omega)]; simp
    have hlast : ((c ++ [at0]).map intU)[((c.length : Int)).toNat]? = some (intU at0) := by simp
    have hlt : (0 : Int) ≤ c.length ∧ (c.length : Int) < ((c ++ [at0]).length : Int) := by simp; omega
    rw [impl_ShortestCycle_F_l1_eq]
    simp only [scNext, e]
    by_cases hq : at_ far b = d
    · cases hg : hasEdge l at0 b with
      | false =>
        simp only [bin_leq, hb9, decide_true, Option.bind_some, asBool_bool, if_true, asInt_int, h0, and_self, asAgg_agg, hst, i1, asVar_intU, bin_eql, hq, List.length_map, bin_sub, hw3, hlt, hlast, impl_HasEdge_is h.c_impl_HasEdge l hl, hg, Bool.false_eq_true, if_false, bin_add, hw2, Bool.and_false]
        exact ih
      | true =>
        simp only [bin_leq, hb9, decide_true, Option.bind_some, asBool_bool, if_true, asInt_int, h0, and_self, asAgg_agg, hst, i1, asVar_intU, bin_eql, hq, List.length_map, bin_sub, hw3, hlt, hlast, impl_HasEdge_is h.c_impl_HasEdge l hl, hg, storable_int, size_int, List.length_cons, List.length_nil, hlen, hw, Bool.and_self]
        rw [List.map_append (l₁ := c ++ [at0])]
        simp only [List.map_cons, List.map_nil, intU]
    · simp only [bin_leq, hb9, decide_true, Option.bind_some, asBool_bool, if_true, asInt_int, h0, and_self, asAgg_agg, hst, i1, asVar_intU, bin_eql, hq, decide_false, Bool.false_eq_true, if_false, bin_add, hw2, Bool.false_and]
      exact ih

theorem impl_SCF_l0_is (h : G_impl_ShortestCycle_F E) (l : List Edge) (hl : l.length ≤ 1048576) (far : List Int) (hf : far.length = 10) : ∀ (n : Nat) (d at0 : Int) (c : List Int), d = n → n ≤ 9 → c.length + n ≤ 990 →
    impl_ShortestCycle_F_l0 E (edgesU l) (.int .i64 d) ((c ++ [at0]).map intU) (arrU far) = some (intsU (scChain l far n at0 (c ++ [at0])))
  | 0, d, at0, c, hd, _, _ => by
    have : ¬ 0 < d := by omega
    rw [impl_ShortestCycle_F_l0_eq]
    simp [this, scChain, flats_app, flat_intU]
  | n + 1, d, at0, c, hd, h9, hc => by
    have hpos : 0 < d := by omega
    rw [impl_ShortestCycle_F_l0_eq]
    simp only [bin_gtr, hpos, decide_true, Option.bind_some, asBool_bool, if_true]
    rw [impl_SCF_l1_is h l hl far hf d at0 (by omega) (by omega) c (by omega) 9 1 rfl (by omega)]
    have e : (n : Int) + 1 = d := by omega
    simp only [scChain, e]
    cases hx : scNext l far d at0 9 with
    | none => exact impl_SCF_l0_is h l hl far hf n (d - 1) at0 c (by omega) (by omega) (by omega)
    | some v => exact impl_SCF_l0_is h l hl far hf n (d - 1) v (c ++ [at0]) (by omega) (by omega) (by simp; omega)

theorem impl_SCF_l2_is (h : G_impl_ShortestCycle_F E) (l : List Edge) (hl : l.length ≤ 1048576) (ha : areEdges l = true) : ∀ (n : Nat) (a : Int) (cur : Option (Int × Int)), a = 10 - n → 1 ≤ a → ScOK l cur →
    impl_ShortestCycle_F_l2 E (edgesU l) (.int .i64 (scS cur)) (.int .i64 (scN cur 0)) (.int .i64 a) = some (intsU (scEnd l (scScan l n cur)))
  | 0, a, cur, hb, h1, hok => by
    have : ¬ a ≤ 9 := by omega
    rw [impl_ShortestCycle_F_l2_eq]
    cases cur with
    | none => simp [this, scScan, scEnd, scS]
    | some c =>
      obtain ⟨s, k⟩ := c
      obtain ⟨c1, c2, c3, c4⟩ := hok _ rfl
      simp only at c1 c2 c3 c4
      have hs : ¬ s = 0 := by omega
      have hw : IntKind.i64.wrap (k - 1) = k - 1 := wrap_in (by omega)
      have hsz : (arrU (dist l s)).size = 10 := by show sizes _ = 10; rw [sizes_ints, dist_length]
      have hl0 := impl_SCF_l0_is h l hl (dist l s) (dist_length s) (k - 1).toNat (k - 1) s [] (by omega) (by omega) (by simp; omega)
      simp only [bin_leq, this, decide_false, Option.bind_some, asBool_bool, Bool.false_eq_true, if_false, scN, scS, bin_eql, hs, storable_int, size_int, and_self, if_true, impl_distances_is h.c_impl_distances l hl (areEdges_ends ha), storable_agg, hsz, bin_sub, hw, scScan, scEnd]
      exact hl0
  | n + 1, a, cur, hb, h1, hok => by
    have h9 : a ≤ 9 := by omega
    have h0 : 0 ≤ a ∧ a < 10 := by omega
    have hw : IntKind.i64.wrap (a + 1) = a + 1 := wrap_in (by omega)
    have e : (9 : Int) - n = a := by omega
    have hE := areEdges_ends ha
    have ih := impl_SCF_l2_is h l hl ha n (a + 1) (scStep l cur a) (by omega) (by omega) (scStep_ok hE hok h1 h9)
    have hat := fun {γ : Type} (K : U → Option γ) => arr_at (dist_length (l := l) a) h0.1 h9 K
    rw [impl_ShortestCycle_F_l2_eq]
    simp only [scScan, e]
    rw [← ih]
    by_cases hp : 0 < at_ (dist l a) a
    · cases cur with
      | none =>
        simp only [bin_leq, h9, decide_true, Option.bind_some, asBool_bool, if_true, impl_distances_is h.c_impl_distances l hl hE, asInt_int, h0, and_self, hat, asVar_intU, bin_gtr, hp, scS, bin_eql, bin_add, hw, scStep, Bool.and_self, scN]
      | some c =>
        obtain ⟨s, k⟩ := c
        obtain ⟨c1, c2, c3, c4⟩ := hok _ rfl
        simp only at c1 c2 c3 c4
        have hs : ¬ s = 0 := by omega
        by_cases hlt : at_ (dist l a) a < k
        · simp only [bin_leq, h9, decide_true, Option.bind_some, asBool_bool, if_true, impl_distances_is h.c_impl_distances l hl hE, asInt_int, h0, and_self, hat, asVar_intU, bin_gtr, hp, scS, bin_eql, hs, decide_false, Bool.false_eq_true, if_false, bin_lss, hlt, bin_add, hw, scStep, Bool.and_self, scN]
        · simp only [bin_leq, h9, decide_true, Option.bind_some, asBool_bool, if_true, impl_distances_is h.c_impl_distances l hl hE, asInt_int, h0, and_self, hat, asVar_intU, bin_gtr, hp, scS, bin_eql, hs, decide_false, Bool.false_eq_true, if_false, bin_lss, hlt, bin_add, hw, scStep, Bool.and_false, scN]
    · simp only [bin_leq, h9, decide_true, Option.bind_some, asBool_bool, if_true, impl_distances_is h.c_impl_distances l hl hE, asInt_int, h0, and_self, hat, asVar_intU, bin_gtr, hp, decide_false, Bool.false_eq_true, if_false, bin_add, hw, scStep, Bool.false_and]

theorem impl_ShortestCycle_F_is (h : G_impl_ShortestCycle_F E) (l : List Edge) (hl : l.length ≤ 1048576) : E 100081 [edgesU l] = some (intsU (shortest l)) := by
  rw [impl_ShortestCycle_F_E h]
  unfold shortest
  cases ha : areEdges l with
  | false => simp [impl_AreEdges_is h.c_impl_AreEdges l hl, ha]
  | true =>
    simp only [impl_AreEdges_is h.c_impl_AreEdges l hl, ha, Option.bind_some, un_not, Bool.not_true, asBool_bool, Bool.false_eq_true, if_false]
    exact impl_SCF_l2_is h l hl ha 9 1 none rfl (by omega) (fun c e => by cases e)

end Go.Proofs.Ytmebdbagcbgddaa.Am
/-
  Marks: the ints from k on.
-/
namespace Go.Proofs.Ytmebdbagcbgddaa.Am
open Go
variable {E : Env}
set_option linter.unusedVariables false

/-- n ints from k on. -/
def upInts : Int → Nat → List Int
  | _, 0 => []
  | k, n + 1 => k :: upInts (k + 1) n

/-- n edges from k on. -/
def upEdges : Int → Nat → List Edge
  | _, 0 => []
  | k, n + 1 => ⟨k, k + 1, k + 2, k + 3⟩ :: upEdges (k + 4) n

theorem upInts_length : ∀ (n : Nat) (k : Int), (upInts k n).length = n
  | 0, _ => rfl
  | n + 1, k => by simp [upInts, upInts_length n]
theorem upEdges_length : ∀ (n : Nat) (k : Int), (upEdges k n).length = n
  | 0, _ => rfl
  | n + 1, k => by simp [upEdges, upEdges_length n]

theorem laws_markIntS_M_l0_is (h : G_laws_markIntS_M E) : ∀ (r p : List Int) (k i : Int), i = p.length → p.length + r.length ≤ 1048576 → 0 ≤ k → k + r.length ≤ 1099511627776 →
    laws_markIntS_M_l0 E (.int .i64 k) (.int .i64 i) (p.map intU ++ r.map intU) = some (.tup [.int .i64 (k + r.length), .sl 1 (p.map intU ++ (upInts k r.length).map intU)])
  | [], p, k, i, hi, hb, hk, hk2 => by
    have h1 : ¬ i < ((p.map intU ++ ([] : List Int).map intU).length : Int) := by simp [hi]
    rw [laws_markIntS_M_l0_eq]
    simp only [bin_lss, h1, decide_false, Option.bind_some, asBool_bool, Bool.false_eq_true, if_false]
    rw [← List.map_append]
    simp [upInts]
  | x :: r, p, k, i, hi, hb, hk, hk2 => by
    simp only [List.length_cons] at hb hk2
    obtain ⟨hg, hs, hlen⟩ := mid_set intU p (intU x) (r.map intU) hi
    have h0 : 0 ≤ i := by omega
    have hw : IntKind.i64.wrap (k + 1) = k + 1 := wrap_in (by omega)
    have hw2 : IntKind.i64.wrap (i + 1) = i + 1 := wrap_in (by omega)
    have ih := laws_markIntS_M_l0_is h r (p ++ [k]) (k + 1) (i + 1) (by simp [hi]) (by simp; omega) (by omega) (by omega)
    simp only [List.map_append, List.map_cons, List.map_nil, List.append_assoc, List.cons_append, List.nil_append] at ih
    rw [laws_markIntS_M_l0_eq]
    simp only [List.map_cons, bin_lss, hlen, decide_true, Option.bind_some, asBool_bool, if_true, asInt_int, h0, and_self, storable_int, size_int, hg, intU_size, bin_add, hw, hw2, hs]
    have e : k + 1 + (r.length : Int) = k + ((r.length + 1 : Nat) : Int) := by omega
    rw [e] at ih
    simpa [upInts, intU] using ih

theorem laws_markIntS_M_is (h : G_laws_markIntS_M E) (l : List Int) (hl : l.length ≤ 1048576) (k : Int) (hk : 0 ≤ k) (hk2 : k ≤ 1048576) :
    E 200086 (.agg [.tup [.sl 1 (l.map intU)]] :: [.int .i64 k]) = some (.tup [.int .i64 (k + l.length), .sl 1 ((upInts k l.length).map intU)]) := by
  rw [laws_markIntS_M_E h]
  exact laws_markIntS_M_l0_is h l [] k 0 rfl (by simpa using hl) hk (by omega)

theorem laws_markEdgeS_M_l0_is (h : G_laws_markEdgeS_M E) : ∀ (r p : List Edge) (k i : Int), i = p.length → p.length + r.length ≤ 1048576 → 0 ≤ k → k + 4 * r.length ≤ 1099511627776 →
    laws_markEdgeS_M_l0 E (.int .i64 k) (.int .i64 i) (p.map Edge.u ++ r.map Edge.u) = some (.tup [.int .i64 (k + 4 * r.length), .sl 4 (p.map Edge.u ++ (upEdges k r.length).map Edge.u)])
  | [], p, k, i, hi, hb, hk, hk2 => by
    have h1 : ¬ i < ((p.map Edge.u ++ ([] : List Edge).map Edge.u).length : Int) := by simp [hi]
    rw [laws_markEdgeS_M_l0_eq]
    simp only [bin_lss, h1, decide_false, Option.bind_some, asBool_bool, Bool.false_eq_true, if_false]
    rw [← List.map_append]
    simp [upEdges]
  | x :: r, p, k, i, hi, hb, hk, hk2 => by
    simp only [List.length_cons] at hb hk2
    have hm := fun z => mid_set Edge.u p z (r.map Edge.u) hi
    have hg := fun z => (hm z).1
    have hs := fun z => (hm z).2.1
    have hlen := fun z => (hm z).2.2
    have h0 : 0 ≤ i := by omega
    have hw : IntKind.i64.wrap (k + 1) = k + 1 := wrap_in (by omega)
    have hw1 : IntKind.i64.wrap (k + 1 + 1) = k + 2 := by rw [wrap_in (by omega)]; omega
    have hw2 : IntKind.i64.wrap (k + 2 + 1) = k + 3 := by rw [wrap_in (by omega)]; omega
    have hw3 : IntKind.i64.wrap (k + 3 + 1) = k + 4 := by rw [wrap_in (by omega)]; omega
    have hwi : IntKind.i64.wrap (i + 1) = i + 1 := wrap_in (by omega)
    have ih := laws_markEdgeS_M_l0_is h r (p ++ [⟨k, k + 1, k + 2, k + 3⟩]) (k + 4) (i + 1) (by simp [hi]) (by simp; omega) (by omega) (by omega)
    simp only [List.map_append, List.map_cons, List.map_nil, List.append_assoc, List.cons_append, List.nil_append] at ih
    rw [laws_markEdgeS_M_l0_eq]
    simp only [List.map_cons, bin_lss, hlen, decide_true, Option.bind_some, asBool_bool, if_true, asInt_int, h0, and_self, storable_int, size_int, hg, hs, Edge.u_agg, asAgg_agg, List.take_zero, List.take_succ_cons, sizes_cons, sizes_nil, Nat.add_zero, Nat.zero_add, List.getElem?_cons_zero, List.getElem?_cons_succ, List.set_cons_zero, List.set_cons_succ, bin_add, hw, hw1, hw2, hw3, hwi, Nat.reduceAdd]
    have e : k + 4 + 4 * (r.length : Int) = k + 4 * ((r.length + 1 : Nat) : Int) := by omega
    rw [e] at ih
    simpa [upEdges, Edge.u] using ih

theorem laws_markEdgeS_M_is (h : G_laws_markEdgeS_M E) (l : List Edge) (hl : l.length ≤ 1048576) (k : Int) (hk : 0 ≤ k) (hk2 : k ≤ 1048576) :
    E 200085 (.agg [.tup [.sl 4 (l.map Edge.u)]] :: [.int .i64 k]) = some (.tup [.int .i64 (k + 4 * l.length), .sl 4 ((upEdges k l.length).map Edge.u)]) := by
  rw [laws_markEdgeS_M_E h]
  exact laws_markEdgeS_M_l0_is h l [] k 0 rfl (by simpa using hl) hk (by omega)

theorem laws_heldIntS_l0_is (h : G_laws_heldIntS E) (l : List Int) (hl : l.length ≤ 1048576) : ∀ (n : Nat) (p : List Int) (k i : Int), l = p ++ upInts k n → i = p.length → 0 ≤ k → k + n ≤ 1099511627776 →
    laws_heldIntS_l0 E (.sl 1 (l.map intU)) (.int .i64 k) (.int .i64 i) = some (.int .i64 (k + n))
  | 0, p, k, i, e, hi, hk, hk2 => by
    rw [laws_heldIntS_l0_eq]
    simp [mid_end e hi]
  | n + 1, p, k, i, e, hi, hk, hk2 => by
    obtain ⟨h0, hlt, hx, hw, hn, _⟩ := mid_at e hi (by omega)
    have hw1 : IntKind.i64.wrap (k + 1) = k + 1 := wrap_in (by omega)
    have ih := laws_heldIntS_l0_is h l hl n (p ++ [k]) (k + 1) (i + 1) (mid_next e) hn (by omega) (by omega)
    have e2 : k + 1 + (n : Int) = k + ((n + 1 : Nat) : Int) := by omega
    rw [e2] at ih
    rw [laws_heldIntS_l0_eq]
    simp only [lenOf_sl, List.length_map, Option.bind_some, bin_lss, hlt, decide_true, asBool_bool, if_true, asInt_int, hx, asVar_intU, bin_neq, ne_eq, not_true_eq_false, decide_false, Bool.false_eq_true, if_false, bin_add, hw, hw1]
    exact ih

theorem laws_heldIntS_is (h : G_laws_heldIntS E) (n : Nat) (hn : n ≤ 1048576) (k : Int) (hk : 0 ≤ k) (hk2 : k ≤ 1048576) : E 90 [.sl 1 ((upInts k n).map intU), .int .i64 k] = some (.int .i64 (k + n)) := by
  rw [laws_heldIntS_E h]
  exact laws_heldIntS_l0_is h _ (by rw [upInts_length]; exact hn) n [] k 0 rfl rfl hk (by omega)
end Go.Proofs.Ytmebdbagcbgddaa.Am
/-
  What CycleEdges computes: for each place of a cycle the first edge that leads on.
-/
namespace Go.Proofs.Ytmebdbagcbgddaa.Am
open Go
variable {E : Env}
set_option linter.unusedVariables false

/-- What comes behind the place p.length, going round. -/
def nxt (c p : List Int) : Int := c.getD ((p.length + 1) % c.length) 0

/-- The edges of the rest r of c, behind p. -/
def cycEdges (l : List Edge) (c : List Int) : List Int → List Int → List Edge
  | _, [] => []
  | p, x :: r => match l.find? (isEdge x (nxt c p)) with
    | some e => e :: cycEdges l c (p ++ [x]) r
    | none => cycEdges l c (p ++ [x]) r

theorem cycEdges_len (l : List Edge) (c : List Int) : ∀ (r p : List Int), (cycEdges l c p r).length ≤ r.length
  | [], p => by simp [cycEdges]
  | x :: r, p => by
    have := cycEdges_len l c r (p ++ [x])
    simp only [cycEdges]
    split <;> simp <;> omega

def edgesOf (l : List Edge) (c : List Int) : List Edge := if isCycle l c then cycEdges l c [] c else []

theorem edgesOf_len (l : List Edge) (c : List Int) : (edgesOf l c).length ≤ c.length := by
  unfold edgesOf
  split
  · exact cycEdges_len l c c []
  · simp

/-! ### The reference -/
theorem spec_CE_l1_is (h : G_spec_CycleEdges E) (l : List Edge) (hl : l.length ≤ 1048576) (c : List Int) (hc : c.length ≤ 1048576) (x : Int) (r p : List Int) (i : Int) (e : c = p ++ x :: r) (hi : i = p.length) (out : List Edge) (ho : out.length ≤ 1048576) : ∀ (s q : List Edge) (k : Int), l = q ++ s → k = q.length →
    spec_CycleEdges_l1 E (edgesU l) (intsU c) (.int .i64 i) (.int .i64 k) (out.map Edge.u) = match s.find? (isEdge x (nxt c p)) with
      | some y => spec_CycleEdges_l0 E (edgesU l) (intsU c) (.int .i64 (i + 1)) ((out ++ [y]).map Edge.u)
      | none => spec_CycleEdges_l0 E (edgesU l) (intsU c) (.int .i64 (i + 1)) (out.map Edge.u)
  | [], q, k, e2, hk => by
    obtain ⟨h0, hlt, hx, hw, hn, _⟩ := mid_at e hi (by omega)
    rw [spec_CycleEdges_l1_eq]
    simp [mid_end e2 hk, hw]
  | y :: s, q, k, e2, hk => by
    obtain ⟨h0, hlt, hx, hw, hn, _⟩ := mid_at e hi (by omega)
    obtain ⟨k0, klt, kx, kw, kn, _⟩ := mid_at e2 hk (by omega)
    obtain ⟨j, hj, hz, hj2⟩ := next_at e hi hc
    have hz2 : ¬ (c.length : Int) = 0 := fun e => hz e
    have ih := spec_CE_l1_is h l hl c hc x r p i e hi out ho s (q ++ [y]) (k + 1) (mid_next e2) kn
    have hlen : ((out.map Edge.u).length + [Edge.u y].length) * 32 ≤ 140737488355328 := by simp; omega
    rw [spec_CycleEdges_l1_eq]
    by_cases h1 : y.frm = x
    · by_cases h2 : y.to = nxt c p
      · have hf : isEdge x (nxt c p) y = true := by simp [isEdge, h1, h2]
        simp only [List.find?_cons, hf, lenOf_sl, List.length_map, Option.bind_some, bin_lss, klt, decide_true, asBool_bool, if_true, asInt_int, kx, Edge.u_at0, Edge.u_at1, asVar_int, hx, asVar_intU, bin_eql, h1, bin_add, hw, bin_rem, hz2, if_false, hj, hj2]
        have h2' : y.to = c.getD ((p.length + 1) % c.length) 0 := h2
        simp only [h2', decide_true, if_true, Edge.u_var, Edge.u_storable, Edge.u_size, and_self, hlen]
        simp only [List.map_append, List.map_cons, List.map_nil, List.length_map, List.length_cons, List.length_nil] at hlen ⊢
        rw [if_pos ⟨trivial, trivial, hlen⟩]
      · have hf : isEdge x (nxt c p) y = false := by simp [isEdge, h2]
        have h2' : ¬ y.to = c.getD ((p.length + 1) % c.length) 0 := h2
        simp only [List.find?_cons, hf, lenOf_sl, List.length_map, Option.bind_some, bin_lss, klt, decide_true, asBool_bool, if_true, asInt_int, kx, Edge.u_at0, Edge.u_at1, asVar_int, hx, asVar_intU, bin_eql, h1, bin_add, hw, bin_rem, hz2, if_false, hj, hj2, h2', decide_false, Bool.false_eq_true, kw]
        exact ih
    · have hf : isEdge x (nxt c p) y = false := by simp [isEdge, h1]
      simp only [List.find?_cons, hf, lenOf_sl, List.length_map, Option.bind_some, bin_lss, klt, decide_true, asBool_bool, if_true, asInt_int, kx, Edge.u_at0, asVar_int, hx, asVar_intU, bin_eql, h1, decide_false, Bool.false_eq_true, if_false, bin_add, kw]
      exact ih

theorem spec_CE_l0_is (h : G_spec_CycleEdges E) (l : List Edge) (hl : l.length ≤ 1048576) (c : List Int) (hc : c.length ≤ 1048576) (hy : isCycle l c = true) : ∀ (r p : List Int) (i : Int) (out : List Edge), c = p ++ r → i = p.length → out.length ≤ p.length →
    spec_CycleEdges_l0 E (edgesU l) (intsU c) (.int .i64 i) (out.map Edge.u) = some (edgesU (out ++ cycEdges l c p r))
  | [], p, i, out, e, hi, ho => by
    rw [spec_CycleEdges_l0_eq]
    simp [mid_end e hi, cycEdges]
  | x :: r, p, i, out, e, hi, ho => by
    obtain ⟨h0, hlt, hx, hw, hn, _⟩ := mid_at e hi (by omega)
    have hpl : p.length ≤ 1048576 := by have := congrArg List.length e; simp at this; omega
    have h1 := spec_CE_l1_is h l hl c hc x r p i e hi out (by omega) l [] 0 rfl rfl
    rw [spec_CycleEdges_l0_eq]
    simp only [lenOf_sl, List.length_map, Option.bind_some, bin_lss, hlt, decide_true, asBool_bool, if_true, spec_CheckCycle_is h.c_spec_CheckCycle l hl c hc, hy]
    rw [h1]
    simp only [cycEdges]
    cases hf : l.find? (isEdge x (nxt c p)) with
    | none => exact spec_CE_l0_is h l hl c hc hy r (p ++ [x]) (i + 1) out (mid_next e) hn (by simp; omega)
    | some y =>
      simp only
      rw [spec_CE_l0_is h l hl c hc hy r (p ++ [x]) (i + 1) (out ++ [y]) (mid_next e) hn (by simp; omega)]
      simp

theorem spec_CycleEdges_is (h : G_spec_CycleEdges E) (l : List Edge) (hl : l.length ≤ 1048576) (c : List Int) (hc : c.length ≤ 1048576) : E 87 [edgesU l, intsU c] = some (edgesU (edgesOf l c)) := by
  rw [spec_CycleEdges_E h]
  unfold edgesOf
  cases hy : isCycle l c with
  | true => exact spec_CE_l0_is h l hl c hc hy c [] 0 [] rfl rfl (by simp)
  | false =>
    rw [spec_CycleEdges_l0_eq]
    by_cases h0 : (0 : Int) < c.length
    · simp [h0, spec_CheckCycle_is h.c_spec_CheckCycle l hl c hc, hy]
    · have h0' : ¬ 0 < c.length := by omega
      simp [h0']

/-! ### The program -/
theorem idxF_find {α : Type} (P : α → Bool) (l : List α) : ∀ (i : Int), (l.find? P = none ∧ idxF P l i = -1) ∨ ∃ p x r, l = p ++ x :: r ∧ idxF P l i = i + p.length ∧ l.find? P = some x := by
  induction l with
  | nil => intro i; left; simp [idxF]
  | cons x r ih =>
    intro i
    cases h : P x with
    | true => right; exact ⟨[], x, r, rfl, by simp [idxF, h], by simp [h]⟩
    | false =>
      rcases ih (i + 1) with ⟨h1, h2⟩ | ⟨p, y, s, h1, h2, h3⟩
      · left; simp [h, h1, h2, idxF]
      · right
        refine ⟨x :: p, y, s, by rw [h1]; rfl, ?_, by simp [h, h3]⟩
        simp only [idxF, h, Bool.false_eq_true, if_false, h2, List.length_cons]
        omega

theorem impl_CycleEdges_1_is (h : G_impl_CycleEdges_1 E) (e : Edge) (a b : Int) : E 88 [e.u, .vp (.int .i64 a), .vp (.int .i64 b)] = some (.bool (isEdge a b e)) := by
  rw [impl_CycleEdges_1_E h]
  by_cases h1 : e.frm = a <;> simp [isEdge, h1]

theorem cycFrom_find {l : List Edge} {c p r : List Int} {x : Int} (h : cycFrom l c p (x :: r) = true) : (∃ e, l.find? (isEdge x (nxt c p)) = some e) ∧ cycFrom l c (p ++ [x]) r = true := by
  simp only [cycFrom, Bool.and_eq_true] at h
  obtain ⟨⟨_, h1⟩, h2⟩ := h
  refine ⟨?_, h2⟩
  cases hf : l.find? (isEdge x (nxt c p)) with
  | some e => exact ⟨e, rfl⟩
  | none =>
    rw [List.find?_eq_none] at hf
    simp only [hasEdge, List.any_eq_true] at h1
    obtain ⟨y, hy, h3⟩ := h1
    exact absurd h3 (hf y hy)

theorem impl_CE_l0_is (h : G_impl_CycleEdges E) (l : List Edge) (hl : l.length ≤ 1048576) (c : List Int) (hc : c.length ≤ 1048576) : ∀ (r p : List Int) (i : Int) (out : List Edge), c = p ++ r → i = p.length → out.length ≤ p.length → cycFrom l c p r = true →
    impl_CycleEdges_l0 E (edgesU l) (intsU c) (intsU c) (.int .i64 c.length) (.int .i64 i) (out.map Edge.u) = some (edgesU (out ++ cycEdges l c p r))
  | [], p, i, out, e, hi, ho, hy => by
    have hlt : ¬ i < (c.length : Int) := mid_end e hi
    rw [impl_CycleEdges_l0_eq]
    simp only [bin_lss, hlt, decide_false, Option.bind_some, asBool_bool, Bool.false_eq_true, if_false, cycEdges, List.append_nil, true_and, flats_edges, if_true]
  | x :: r, p, i, out, e, hi, ho, hy => by
    obtain ⟨h0, hlt, hx, hw, hn, _⟩ := mid_at e hi (by omega)
    obtain ⟨j, hj, hz, hj2⟩ := next_at e hi hc
    have hz2 : ¬ (c.length : Int) = 0 := fun e => hz e
    have hpl : p.length ≤ 1048576 := by have := congrArg List.length e; simp at this; omega
    obtain ⟨⟨y, hf⟩, hy2⟩ := cycFrom_find hy
    have hi66 := slices_IndexFunc_g66_is h.c_slices_IndexFunc_g66 l (by omega) 88 [.vp (.int .i64 x), .vp (.int .i64 (nxt c p))] (isEdge x (nxt c p)) (fun e _ => impl_CycleEdges_1_is h.c_impl_CycleEdges_1 e x (nxt c p))
    obtain ⟨q, y2, s, e2, hk, hf2⟩ : ∃ q y s, l = q ++ y :: s ∧ idxF (isEdge x (nxt c p)) l 0 = (q.length : Int) ∧ l.find? (isEdge x (nxt c p)) = some y := by
      rcases idxF_find (isEdge x (nxt c p)) l 0 with ⟨h1, _⟩ | ⟨q, y2, s, h1, h2, h3⟩
      · rw [hf] at h1; cases h1
      · exact ⟨q, y2, s, h1, by rw [h2]; omega, h3⟩
    rw [hf] at hf2
    cases hf2
    obtain ⟨k0, klt, kx, kw, kn, _⟩ := mid_at (i := (q.length : Int)) e2 rfl (by omega)
    have hlen : ((out.map Edge.u).length + [Edge.u y].length) * 32 ≤ 140737488355328 := by simp; omega
    have ih := impl_CE_l0_is h l hl c hc r (p ++ [x]) (i + 1) (out ++ [y]) (mid_next e) hn (by simp; omega) hy2
    have hnx : c.getD ((p.length + 1) % c.length) 0 = nxt c p := rfl
    rw [impl_CycleEdges_l0_eq]
    simp only [bin_lss, hlt, decide_true, Option.bind_some, asBool_bool, if_true, asInt_int, hx, asVar_intU, storable_int, size_int, and_self, bin_add, hw, lenOf_sl, List.length_map, bin_rem, hz2, if_false, hj, hj2, hnx]
    simp only [edgesU, hi66, Option.bind_some, asFlat_int, asInt_int, hk, kx, Edge.u_var, Edge.u_storable, Edge.u_size, and_self, if_true]
    simp only [List.length_map] at hlen
    rw [if_pos ⟨trivial, trivial, hlen⟩]
    simp only [List.map_append, List.map_cons, List.map_nil, edgesU] at ih
    simp only [cycEdges, hf]
    rw [ih]
    simp

/-- The program hands back nil where there is none. -/
def orNilE (l : List Edge) (c : List Int) : U := if isCycle l c then edgesU (edgesOf l c) else .nsl 4

theorem impl_CycleEdges_is (h : G_impl_CycleEdges E) (l : List Edge) (hl : l.length ≤ 1048576) (c : List Int) (hc : c.length ≤ 1048576) : E 84 [edgesU l, intsU c] = some (orNilE l c) := by
  rw [impl_CycleEdges_E h]
  unfold orNilE edgesOf
  cases hy : isCycle l c with
  | false => simp [impl_CheckCycle_is h.c_impl_CheckCycle l hl c hc, hy]
  | true =>
    have hy2 : cycFrom l c [] c = true := by
      simp only [isCycle, Bool.and_eq_true] at hy
      exact hy.2
    simp only [impl_CheckCycle_is h.c_impl_CheckCycle l hl c hc, hy, Option.bind_some, un_not, Bool.not_true, asBool_bool, Bool.false_eq_true, if_false, lenOf_sl, List.length_map, if_true]
    exact impl_CE_l0_is h l hl c hc c [] 0 [] rfl rfl (by simp) hy2

/-! ### .. as the caller's own -/
theorem impl_CEF_l0_is (h : G_impl_CycleEdges_F E) (l : List Edge) (hl : l.length ≤ 1048576) (c : List Int) (hc : c.length ≤ 1048576) : ∀ (r p : List Int) (i : Int) (out : List Edge), c = p ++ r → i = p.length → out.length ≤ p.length → cycFrom l c p r = true →
    impl_CycleEdges_F_l0 E (edgesU l) (intsU c) (intsU c) (.int .i64 c.length) (.int .i64 i) (out.map Edge.u) = some (edgesU (out ++ cycEdges l c p r))
  | [], p, i, out, e, hi, ho, hy => by
    have hlt : ¬ i < (c.length : Int) := mid_end e hi
    rw [impl_CycleEdges_F_l0_eq]
    simp only [bin_lss, hlt, decide_false, Option.bind_some, asBool_bool, Bool.false_eq_true, if_false, cycEdges, List.append_nil, true_and, flats_edges, if_true]
  | x :: r, p, i, out, e, hi, ho, hy => by
    obtain ⟨h0, hlt, hx, hw, hn, _⟩ := mid_at e hi (by omega)
    obtain ⟨j, hj, hz, hj2⟩ := next_at e hi hc
    have hz2 : ¬ (c.length : Int) = 0 := fun e => hz e
    have hpl : p.length ≤ 1048576 := by have := congrArg List.length e; simp at this; omega
    obtain ⟨⟨y, hf⟩, hy2⟩ := cycFrom_find hy
    have hi66 := slices_IndexFunc_g66_is h.c_slices_IndexFunc_g66 l (by omega) 88 [.vp (.int .i64 x), .vp (.int .i64 (nxt c p))] (isEdge x (nxt c p)) (fun e _ => impl_CycleEdges_1_is h.c_impl_CycleEdges_1 e x (nxt c p))
    obtain ⟨q, y2, s, e2, hk, hf2⟩ : ∃ q y s, l = q ++ y :: s ∧ idxF (isEdge x (nxt c p)) l 0 = (q.length : Int) ∧ l.find? (isEdge x (nxt c p)) = some y := by
      rcases idxF_find (isEdge x (nxt c p)) l 0 with ⟨h1, _⟩ | ⟨q, y2, s, h1, h2, h3⟩
      · rw [hf] at h1; cases h1
      · exact ⟨q, y2, s, h1, by rw [h2]; omega, h3⟩
    rw [hf] at hf2
    cases hf2
    obtain ⟨k0, klt, kx, kw, kn, _⟩ := mid_at (i := (q.length : Int)) e2 rfl (by omega)
    have hlen : ((out.map Edge.u).length + [Edge.u y].length) * 32 ≤ 140737488355328 := by simp; omega
    have ih := impl_CEF_l0_is h l hl c hc r (p ++ [x]) (i + 1) (out ++ [y]) (mid_next e) hn (by simp; omega) hy2
    have hnx : c.getD ((p.length + 1) % c.length) 0 = nxt c p := rfl
    rw [impl_CycleEdges_F_l0_eq]
    simp only [bin_lss, hlt, decide_true, Option.bind_some, asBool_bool, if_true, asInt_int, hx, asVar_intU, storable_int, size_int, and_self, bin_add, hw, lenOf_sl, List.length_map, bin_rem, hz2, if_false, hj, hj2, hnx]
    simp only [edgesU, hi66, Option.bind_some, asFlat_int, asInt_int, hk, kx, Edge.u_var, Edge.u_storable, Edge.u_size, and_self, if_true]
    simp only [List.length_map] at hlen
    rw [if_pos ⟨trivial, trivial, hlen⟩]
    simp only [List.map_append, List.map_cons, List.map_nil, edgesU] at ih
    simp only [cycEdges, hf]
    rw [ih]
    simp

theorem impl_CycleEdges_F_is (h : G_impl_CycleEdges_F E) (l : List Edge) (hl : l.length ≤ 1048576) (c : List Int) (hc : c.length ≤ 1048576) : E 100084 [edgesU l, intsU c] = some (edgesU (edgesOf l c)) := by
  rw [impl_CycleEdges_F_E h]
  unfold edgesOf
  cases hy : isCycle l c with
  | false => simp [impl_CheckCycle_is h.c_impl_CheckCycle l hl c hc, hy]
  | true =>
    have hy2 : cycFrom l c [] c = true := by
      simp only [isCycle, Bool.and_eq_true] at hy
      exact hy.2
    simp only [impl_CheckCycle_is h.c_impl_CheckCycle l hl c hc, hy, Option.bind_some, un_not, Bool.not_true, asBool_bool, Bool.false_eq_true, if_false, lenOf_sl, List.length_map, if_true]
    exact impl_CEF_l0_is h l hl c hc c [] 0 [] rfl rfl (by simp) hy2

theorem laws_toIntS_F_l0_is (h : G_laws_toIntS_F E) (l : List Int) (hl : l.length ≤ 1048576) : ∀ (r p : List Int) (i : Int) (c : List U), l = p ++ r → i = p.length → c.length = r.length → (∀ z ∈ c, z.size = 1) →
    laws_toIntS_F_l0 E (.sl 1 (l.map intU)) (.int .i64 i) (p.map intU ++ c) = some (.sl 1 (l.map intU))
  | [], p, i, c, e, hi, hc, _ => by
    obtain rfl : c = [] := List.length_eq_zero_iff.1 hc
    rw [laws_toIntS_F_l0_eq]
    simp [mid_end e hi]
    simp [e]
  | x :: r, p, i, [], e, hi, hc, _ => by cases hc
  | x :: r, p, i, z :: c, e, hi, hc, hz => by
    obtain ⟨h0, hlt, hx, hw, hn, _⟩ := mid_at e hi (by omega)
    have hzs : z.size = 1 := hz z (by simp)
    obtain ⟨hg, hs, hlen⟩ := mid_set intU p z c hi
    have ih := laws_toIntS_F_l0_is h l hl r (p ++ [x]) (i + 1) c (mid_next e) hn (by simpa using hc) (fun y hy => hz y (by simp [hy]))
    simp only [List.map_append, List.map_cons, List.map_nil, List.append_assoc, List.cons_append, List.nil_append] at ih
    rw [laws_toIntS_F_l0_eq]
    simp only [hg, hs, hx, hw, asInt_int, bin_lss, lenOf_sl, List.length_map, Option.bind_some, asBool_bool, hlt, decide_true, if_true, h0, hlen, and_self, bin_add, hzs, asVar_intU, intU_size, storable_intU]
    simpa [intU] using ih
theorem laws_toIntS_F_is (h : G_laws_toIntS_F E) (l : List Int) (hl : l.length ≤ 1048576) : E 100058 [.sl 1 (l.map intU)] = some (.sl 1 (l.map intU)) := by
  have h1 := laws_toIntS_F_l0_is h l hl l [] 0 (List.replicate l.length (.int .i64 0)) rfl rfl (by simp) (by simp)
  rw [laws_toIntS_F_E h]
  simp only [lenOf_sl, Option.bind_some, List.length_map]
  rw [if_pos (by refine ⟨by omega, by omega, by omega, rfl⟩)]
  simpa using h1


theorem laws_markIntS_M_is' (h : G_laws_markIntS_M E) (l : List Int) (hl : l.length ≤ 1048576) (k : Int) (hk : 0 ≤ k) (hk2 : k ≤ 1073741824) :
    E 200086 (.agg [.tup [.sl 1 (l.map intU)]] :: [.int .i64 k]) = some (.tup [.int .i64 (k + l.length), .sl 1 ((upInts k l.length).map intU)]) := by
  rw [laws_markIntS_M_E h]
  exact laws_markIntS_M_l0_is h l [] k 0 rfl (by simpa using hl) hk (by omega)

theorem laws_heldEdgeS_l0_is (h : G_laws_heldEdgeS E) (l : List Edge) (hl : l.length ≤ 1048576) : ∀ (n : Nat) (p : List Edge) (k i : Int), l = p ++ upEdges k n → i = p.length → 0 ≤ k → k + 4 * n ≤ 1099511627776 →
    laws_heldEdgeS_l0 E (.sl 4 (l.map Edge.u)) (.int .i64 k) (.int .i64 i) = some (.int .i64 (k + 4 * n))
  | 0, p, k, i, e, hi, hk, hk2 => by
    rw [laws_heldEdgeS_l0_eq]
    simp [mid_end e hi]
  | n + 1, p, k, i, e0, hi, hk, hk2 => by
    have e : l = p ++ (⟨k, k + 1, k + 2, k + 3⟩ : Edge) :: upEdges (k + 4) n := e0
    obtain ⟨h0, hlt, hx, hw, hn, _⟩ := mid_at e hi (by omega)
    have hw0 : IntKind.i64.wrap (k + 1) = k + 1 := wrap_in (by omega)
    have hw1 : IntKind.i64.wrap (k + 1 + 1) = k + 2 := by rw [wrap_in (by omega)]; omega
    have hw2 : IntKind.i64.wrap (k + 2 + 1) = k + 3 := by rw [wrap_in (by omega)]; omega
    have hw3 : IntKind.i64.wrap (k + 3 + 1) = k + 4 := by rw [wrap_in (by omega)]; omega
    have ih := laws_heldEdgeS_l0_is h l hl n (p ++ [⟨k, k + 1, k + 2, k + 3⟩]) (k + 4) (i + 1) (mid_next e) hn (by omega) (by omega)
    have e2 : k + 4 + 4 * (n : Int) = k + 4 * ((n + 1 : Nat) : Int) := by omega
    rw [e2] at ih
    rw [laws_heldEdgeS_l0_eq]
    simp only [lenOf_sl, List.length_map, Option.bind_some, bin_lss, hlt, decide_true, asBool_bool, if_true, asInt_int, hx, Edge.u_at0, Edge.u_at1, Edge.u_at2, Edge.u_at3, asVar_int, bin_neq, ne_eq, not_true_eq_false, decide_false, Bool.false_eq_true, if_false, bin_add, hw, hw0, hw1, hw2, hw3]
    exact ih

theorem laws_heldEdgeS_is (h : G_laws_heldEdgeS E) (n : Nat) (hn : n ≤ 1048576) (k : Int) (hk : 0 ≤ k) (hk2 : k ≤ 1048576) : E 83 [.sl 4 ((upEdges k n).map Edge.u), .int .i64 k] = some (.int .i64 (k + 4 * n)) := by
  rw [laws_heldEdgeS_E h]
  exact laws_heldEdgeS_l0_is h _ (by rw [upEdges_length]; exact hn) n [] k 0 rfl rfl hk (by omega)

theorem eqEdge_orNilE (h : G_laws_eqEdgeS E) (l : List Edge) (c : List Int) (hc : c.length ≤ 1048576) : E 2 [orNilE l c, edgesU (edgesOf l c)] = some (.bool true) := by
  have hlen := edgesOf_len l c
  unfold orNilE
  split
  · rw [laws_eqEdgeS_is h _ _ (by omega) (by omega)]
    simp
  · rename_i e
    have e2 : edgesOf l c = [] := by unfold edgesOf; rw [if_neg e]
    rw [e2, laws_eqEdgeS_E h]
    simp only [lenOf_nsl, lenOf_sl, List.map_nil, List.length_nil, Option.bind_some, bin_neq, ne_eq, not_true_eq_false, decide_false, asBool_bool, Bool.false_eq_true, if_false]
    rw [laws_eqEdgeS_l0_eq]
    simp
end Go.Proofs.Ytmebdbagcbgddaa.Am
/-
  Data of a struct's make ('Fits') are such a struct, as plain data.
-/
namespace Go.Proofs.Ytmebdbagcbgddaa.Am
open Go

abbrev shI : Sh := .int .i64
theorem fits_int {u : U} (h : Fits shI u) : ∃ n, u = .int .i64 n ∧ -9223372036854775808 ≤ n ∧ n ≤ 9223372036854775807 := by
  cases u <;> first | exact h.elim | skip
  rename_i k n
  obtain ⟨rfl, h1, h2⟩ := h
  exact ⟨n, rfl, h1, h2⟩
theorem fits_bool {u : U} (h : Fits .bool u) : ∃ b, u = .bool b := by
  cases u <;> first | exact h.elim | exact ⟨_, rfl⟩
theorem fits_str {u : U} (h : Fits .str u) : ∃ s, u = .str s ∧ s.size ≤ maxLen := by
  cases u <;> first | exact h.elim | exact ⟨_, rfl, h⟩
theorem fits_agg {ss : List Sh} {u : U} (h : Fits (.agg ss) u) : ∃ us, u = .agg us ∧ Fits.fits ss us := by
  cases u <;> first | exact h.elim | exact ⟨_, rfl, h⟩
theorem fits_cons {s : Sh} {ss : List Sh} {us : List U} (h : Fits.fits (s :: ss) us) : ∃ u us', us = u :: us' ∧ Fits s u ∧ Fits.fits ss us' := by
  cases us with
  | nil => exact h.elim
  | cons u us => exact ⟨u, us, rfl, h.1, h.2⟩
theorem fits_nil {us : List U} (h : Fits.fits [] us) : us = [] := by
  cases us with
  | nil => rfl
  | cons u us => exact h.elim
theorem fits_map {α : Type} {s : Sh} {f : α → U} {Q : α → Prop} (hs : ∀ u, Fits s u → ∃ x, u = f x ∧ Q x) : ∀ us : List U, (∀ u ∈ us, Fits s u) → ∃ l : List α, us = l.map f ∧ ∀ x ∈ l, Q x
  | [], _ => ⟨[], rfl, by simp⟩
  | u :: us, h => by
    obtain ⟨x, rfl, hx⟩ := hs u (h u (by simp))
    obtain ⟨l, rfl, hl⟩ := fits_map hs us (fun v hv => h v (by simp [hv]))
    exact ⟨x :: l, rfl, by simpa using ⟨hx, hl⟩⟩
theorem fits_sl {α : Type} {k : Nat} {s : Sh} {f : α → U} {Q : α → Prop} (hs : ∀ u, Fits s u → ∃ x, u = f x ∧ Q x) {u : U} (h : Fits (.sl k s) u) : ∃ l : List α, u = .sl k (l.map f) ∧ l.length ≤ maxLen ∧ ∀ x ∈ l, Q x := by
  cases u <;> first | exact h.elim | skip
  obtain ⟨rfl, h1, h2⟩ := h
  obtain ⟨l, rfl, hl⟩ := fits_map hs _ h2
  exact ⟨l, rfl, by simpa using h1, hl⟩
theorem fits_ints {u : U} (h : Fits (.sl 1 shI) u) : ∃ l : List Int, u = .sl 1 (l.map intU) ∧ l.length ≤ maxLen := by
  obtain ⟨l, h1, h2, _⟩ := fits_sl (f := intU) (Q := fun _ => True) (fun u h => by obtain ⟨n, hn, _⟩ := fits_int h; exact ⟨n, hn, trivial⟩) h
  exact ⟨l, h1, h2⟩

abbrev shEdge : Sh := .agg [shI, shI, shI, shI]
theorem fits_Edge (u : U) (h : Fits shEdge u) : ∃ x : Edge, u = x.u ∧ True := by
  obtain ⟨us0, rfl, hs0⟩ := fits_agg h
  obtain ⟨u0, us1, rfl, h0, hs1⟩ := fits_cons hs0
  obtain ⟨a0, rfl, _⟩ := fits_int h0
  obtain ⟨u1, us2, rfl, h1, hs2⟩ := fits_cons hs1
  obtain ⟨a1, rfl, _⟩ := fits_int h1
  obtain ⟨u2, us3, rfl, h2, hs3⟩ := fits_cons hs2
  obtain ⟨a2, rfl, _⟩ := fits_int h2
  obtain ⟨u3, us4, rfl, h3, hs4⟩ := fits_cons hs3
  obtain ⟨a3, rfl, _⟩ := fits_int h3
  obtain rfl := fits_nil hs4
  exact ⟨⟨a0, a1, a2, a3⟩, rfl, trivial⟩

abbrev shReadMark : Sh := .agg [shI, shI]
theorem fits_ReadMark (u : U) (h : Fits shReadMark u) : ∃ x : ReadMark, u = x.u ∧ True := by
  obtain ⟨us0, rfl, hs0⟩ := fits_agg h
  obtain ⟨u0, us1, rfl, h0, hs1⟩ := fits_cons hs0
  obtain ⟨a0, rfl, _⟩ := fits_int h0
  obtain ⟨u1, us2, rfl, h1, hs2⟩ := fits_cons hs1
  obtain ⟨a1, rfl, _⟩ := fits_int h1
  obtain rfl := fits_nil hs2
  exact ⟨⟨a0, a1⟩, rfl, trivial⟩

abbrev shWrite : Sh := .agg [shI, shI]
theorem fits_Write (u : U) (h : Fits shWrite u) : ∃ x : Write, u = x.u ∧ True := by
  obtain ⟨us0, rfl, hs0⟩ := fits_agg h
  obtain ⟨u0, us1, rfl, h0, hs1⟩ := fits_cons hs0
  obtain ⟨a0, rfl, _⟩ := fits_int h0
  obtain ⟨u1, us2, rfl, h1, hs2⟩ := fits_cons hs1
  obtain ⟨a1, rfl, _⟩ := fits_int h1
  obtain rfl := fits_nil hs2
  exact ⟨⟨a0, a1⟩, rfl, trivial⟩

abbrev shLock : Sh := .agg [shI, shI]
theorem fits_Lock (u : U) (h : Fits shLock u) : ∃ x : Lock, u = x.u ∧ True := by
  obtain ⟨us0, rfl, hs0⟩ := fits_agg h
  obtain ⟨u0, us1, rfl, h0, hs1⟩ := fits_cons hs0
  obtain ⟨a0, rfl, _⟩ := fits_int h0
  obtain ⟨u1, us2, rfl, h1, hs2⟩ := fits_cons hs1
  obtain ⟨a1, rfl, _⟩ := fits_int h1
  obtain rfl := fits_nil hs2
  exact ⟨⟨a0, a1⟩, rfl, trivial⟩

abbrev shWait : Sh := .agg [shI, shI]
theorem fits_Wait (u : U) (h : Fits shWait u) : ∃ x : Wait, u = x.u ∧ True := by
  obtain ⟨us0, rfl, hs0⟩ := fits_agg h
  obtain ⟨u0, us1, rfl, h0, hs1⟩ := fits_cons hs0
  obtain ⟨a0, rfl, _⟩ := fits_int h0
  obtain ⟨u1, us2, rfl, h1, hs2⟩ := fits_cons hs1
  obtain ⟨a1, rfl, _⟩ := fits_int h1
  obtain rfl := fits_nil hs2
  exact ⟨⟨a0, a1⟩, rfl, trivial⟩

abbrev shVersion : Sh := .agg [shI, shI, shI, shI, shI]
theorem fits_Version (u : U) (h : Fits shVersion u) : ∃ x : Version, u = x.u ∧ True := by
  obtain ⟨us0, rfl, hs0⟩ := fits_agg h
  obtain ⟨u0, us1, rfl, h0, hs1⟩ := fits_cons hs0
  obtain ⟨a0, rfl, _⟩ := fits_int h0
  obtain ⟨u1, us2, rfl, h1, hs2⟩ := fits_cons hs1
  obtain ⟨a1, rfl, _⟩ := fits_int h1
  obtain ⟨u2, us3, rfl, h2, hs3⟩ := fits_cons hs2
  obtain ⟨a2, rfl, _⟩ := fits_int h2
  obtain ⟨u3, us4, rfl, h3, hs4⟩ := fits_cons hs3
  obtain ⟨a3, rfl, _⟩ := fits_int h3
  obtain ⟨u4, us5, rfl, h4, hs5⟩ := fits_cons hs4
  obtain ⟨a4, rfl, _⟩ := fits_int h4
  obtain rfl := fits_nil hs5
  exact ⟨⟨a0, a1, a2, a3, a4⟩, rfl, trivial⟩

abbrev shEntry : Sh := .agg [shI, shI, .sl 2 shReadMark, .sl 2 shWrite]
theorem fits_Entry (u : U) (h : Fits shEntry u) : ∃ x : Entry, u = x.u ∧ x.fit := by
  obtain ⟨us0, rfl, hs0⟩ := fits_agg h
  obtain ⟨u0, us1, rfl, h0, hs1⟩ := fits_cons hs0
  obtain ⟨a0, rfl, _⟩ := fits_int h0
  obtain ⟨u1, us2, rfl, h1, hs2⟩ := fits_cons hs1
  obtain ⟨a1, rfl, _⟩ := fits_int h1
  obtain ⟨u2, us3, rfl, h2, hs3⟩ := fits_cons hs2
  obtain ⟨a2, rfl, l2, _⟩ := fits_sl fits_ReadMark h2
  obtain ⟨u3, us4, rfl, h3, hs4⟩ := fits_cons hs3
  obtain ⟨a3, rfl, l3, _⟩ := fits_sl fits_Write h3
  obtain rfl := fits_nil hs4
  exact ⟨⟨a0, a1, a2, a3⟩, rfl, ⟨l2, l3⟩⟩

abbrev shLogRecord : Sh := .agg [shI, shI, shI, shI, .sl 2 shReadMark, .sl 2 shWrite]
theorem fits_LogRecord (u : U) (h : Fits shLogRecord u) : ∃ x : LogRecord, u = x.u ∧ x.fit := by
  obtain ⟨us0, rfl, hs0⟩ := fits_agg h
  obtain ⟨u0, us1, rfl, h0, hs1⟩ := fits_cons hs0
  obtain ⟨a0, rfl, _⟩ := fits_int h0
  obtain ⟨u1, us2, rfl, h1, hs2⟩ := fits_cons hs1
  obtain ⟨a1, rfl, _⟩ := fits_int h1
  obtain ⟨u2, us3, rfl, h2, hs3⟩ := fits_cons hs2
  obtain ⟨a2, rfl, _⟩ := fits_int h2
  obtain ⟨u3, us4, rfl, h3, hs4⟩ := fits_cons hs3
  obtain ⟨a3, rfl, _⟩ := fits_int h3
  obtain ⟨u4, us5, rfl, h4, hs5⟩ := fits_cons hs4
  obtain ⟨a4, rfl, l4, _⟩ := fits_sl fits_ReadMark h4
  obtain ⟨u5, us6, rfl, h5, hs6⟩ := fits_cons hs5
  obtain ⟨a5, rfl, l5, _⟩ := fits_sl fits_Write h5
  obtain rfl := fits_nil hs6
  exact ⟨⟨a0, a1, a2, a3, a4, a5⟩, rfl, ⟨l4, l5⟩⟩

abbrev shTransaction : Sh := .agg [shI, shI, shI, shI, shI, shI, shI, .sl 2 shReadMark, .sl 2 shWrite]
theorem fits_Transaction (u : U) (h : Fits shTransaction u) : ∃ x : Transaction, u = x.u ∧ x.fit := by
  obtain ⟨us0, rfl, hs0⟩ := fits_agg h
  obtain ⟨u0, us1, rfl, h0, hs1⟩ := fits_cons hs0
  obtain ⟨a0, rfl, _⟩ := fits_int h0
  obtain ⟨u1, us2, rfl, h1, hs2⟩ := fits_cons hs1
  obtain ⟨a1, rfl, _⟩ := fits_int h1
  obtain ⟨u2, us3, rfl, h2, hs3⟩ := fits_cons hs2
  obtain ⟨a2, rfl, _⟩ := fits_int h2
  obtain ⟨u3, us4, rfl, h3, hs4⟩ := fits_cons hs3
  obtain ⟨a3, rfl, _⟩ := fits_int h3
  obtain ⟨u4, us5, rfl, h4, hs5⟩ := fits_cons hs4
  obtain ⟨a4, rfl, _⟩ := fits_int h4
  obtain ⟨u5, us6, rfl, h5, hs6⟩ := fits_cons hs5
  obtain ⟨a5, rfl, _⟩ := fits_int h5
  obtain ⟨u6, us7, rfl, h6, hs7⟩ := fits_cons hs6
  obtain ⟨a6, rfl, _⟩ := fits_int h6
  obtain ⟨u7, us8, rfl, h7, hs8⟩ := fits_cons hs7
  obtain ⟨a7, rfl, l7, _⟩ := fits_sl fits_ReadMark h7
  obtain ⟨u8, us9, rfl, h8, hs9⟩ := fits_cons hs8
  obtain ⟨a8, rfl, l8, _⟩ := fits_sl fits_Write h8
  obtain rfl := fits_nil hs9
  exact ⟨⟨a0, a1, a2, a3, a4, a5, a6, a7, a8⟩, rfl, ⟨l7, l8⟩⟩

abbrev shStore : Sh := .agg [.sl 1 (.sl 5 shVersion)]
theorem fits_chain (u : U) (h : Fits (.sl 5 shVersion) u) : ∃ l : List Version, u = chainU l ∧ chainFit l := by
  obtain ⟨l, h1, h2, _⟩ := fits_sl fits_Version h
  exact ⟨l, h1, h2⟩
theorem fits_Store (u : U) (h : Fits shStore u) : ∃ s : Store, u = s.u ∧ s.fit := by
  obtain ⟨us0, rfl, hs0⟩ := fits_agg h
  obtain ⟨u0, us1, rfl, h0, hs1⟩ := fits_cons hs0
  obtain ⟨l, rfl, h1, h2⟩ := fits_sl fits_chain h0
  obtain rfl := fits_nil hs1
  exact ⟨⟨l⟩, rfl, h1, h2⟩
abbrev shEngine : Sh := .agg [.bool, shStore, .sl 9 shTransaction, .sl 2 shLock, .sl 2 shWait, shI]
theorem fits_Engine (u : U) (h : Fits shEngine u) : ∃ e : Engine, u = e.u ∧ e.fit := by
  obtain ⟨us0, rfl, hs0⟩ := fits_agg h
  obtain ⟨u0, us1, rfl, h0, hs1⟩ := fits_cons hs0
  obtain ⟨b, rfl⟩ := fits_bool h0
  obtain ⟨u1, us2, rfl, h1, hs2⟩ := fits_cons hs1
  obtain ⟨s, rfl, f1⟩ := fits_Store _ h1
  obtain ⟨u2, us3, rfl, h2, hs3⟩ := fits_cons hs2
  obtain ⟨ts, rfl, f2, f3⟩ := fits_sl fits_Transaction h2
  obtain ⟨u3, us4, rfl, h3, hs4⟩ := fits_cons hs3
  obtain ⟨ls, rfl, f4, _⟩ := fits_sl fits_Lock h3
  obtain ⟨u4, us5, rfl, h4, hs5⟩ := fits_cons hs4
  obtain ⟨ws, rfl, f5, _⟩ := fits_sl fits_Wait h4
  obtain ⟨u5, us6, rfl, h5, hs6⟩ := fits_cons hs5
  obtain ⟨n, rfl, _⟩ := fits_int h5
  obtain rfl := fits_nil hs6
  exact ⟨⟨b, s, ts, ls, ws, n⟩, rfl, f1, f2, f3, f4, f5⟩

end Go.Proofs.Ytmebdbagcbgddaa.Am
/-
  The law FnExactCycleEdges returns true.
-/
namespace Go.Proofs.Ytmebdbagcbgddaa.Am
open Go
variable {E : Env}

theorem law_CycleEdges (h : G_laws_FnExactCycleEdges E) (us : List U) (hus : Fits.fits [.sl 4 shEdge, .sl 1 shI] us) : E 82 us = some (.bool true) := by
  obtain ⟨u0, us1, rfl, h0, hus1⟩ := fits_cons hus
  obtain ⟨u1, us2, rfl, h1, hus2⟩ := fits_cons hus1
  obtain rfl := fits_nil hus2
  obtain ⟨l, rfl, hl, _⟩ := fits_sl fits_Edge h0
  obtain ⟨c, rfl, hc⟩ := fits_ints h1
  rw [laws_FnExactCycleEdges_E h]
  by_cases hc1 : 1048576 < (c.length : Int)
  · simp [hc1]
  have hc2 : c.length ≤ 1048576 := by omega
  rcases szc_szs l.length 1048576 (by omega) (by omega) with n1 | ⟨n1, n2, _⟩
  · simp [hc1, laws_szEdgeS_is h.c_laws_szEdgeS l hl, n1]
  · have n3 : ¬ szc l.length 1048576 < 0 := by omega
    have hel := edgesOf_len l c
    have hm1 := laws_markEdgeS_M_is h.c_laws_markEdgeS_M l n1 1 (by omega) (by omega)
    have hm3 := laws_markEdgeS_M_is h.c_laws_markEdgeS_M (edgesOf l c) (by omega) 1 (by omega) (by omega)
    have hm2 := laws_markIntS_M_is' h.c_laws_markIntS_M c hc2 (1 + 4 * (l.length : Int)) (by omega) (by omega)
    have hh := laws_heldEdgeS_is h.c_laws_heldEdgeS (edgesOf l c).length (by omega) 1 (by omega) (by omega)
    have hon := eqEdge_orNilE h.c_laws_eqEdgeS l c hc2
    have k1 : ¬ (1 + 4 * (l.length : Int) + c.length) < 0 := by omega
    have k2 : ¬ (1 + 4 * ((edgesOf l c).length : Int)) < 0 := by omega
    simp [hc1, laws_szEdgeS_is h.c_laws_szEdgeS l hl, n3, laws_toEdgeS_is h.c_laws_toEdgeS l n1, laws_toIntS_is h.c_laws_toIntS c hc2, spec_CycleEdges_is h.c_spec_CycleEdges l n1 c hc2, laws_toEdgeS_F_is h.c_laws_toEdgeS_F l n1, laws_toIntS_F_is h.c_laws_toIntS_F c hc2,
      impl_CycleEdges_F_is h.c_impl_CycleEdges_F l n1 c hc2, impl_CycleEdges_is h.c_impl_CycleEdges l n1 c hc2, laws_eqEdgeS_is h.c_laws_eqEdgeS l l n1 n1, laws_eqEdgeS_is h.c_laws_eqEdgeS (edgesOf l c) (edgesOf l c) (by omega) (by omega), laws_eqIntS_is h.c_laws_eqIntS c c hc2 hc2, hm1, hm2, hm3, hh, hon, k1, k2, U.asSl, U.asMut]
end Go.Proofs.Ytmebdbagcbgddaa.Am
