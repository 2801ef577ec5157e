import Derived.Test.YtboenehajoaahaaAmX
import Derived.Test.YtboenehajoaahaaAmEd
import Derived.Test.YtboenehajoaahaaAmRw
import Derived.Test.YtboenehajoaahaaForgetAbortedF1
import Derived.Test.YtboenehajoaahaaForgetAbortedF0
namespace Go.Proofs.Ytboenehajoaahaa.Am
open Go
variable {α : Type}
def intU (n : Int) : U := .int .i64 n
@[simp] theorem Qab7 (n : Int) : (intU n).size = 1 := rfl
@[simp] theorem Qaa7 (n : Int) (K : U → Option α) : U.asVar false 1 (intU n) K = K (.int .i64 n) := rfl
@[simp] theorem Qadd (n : Int) : storable (.val (intU n)) = true := rfl
@[simp] theorem Qacx (n : Int) : partable (.val (intU n)) = true := rfl
theorem Edge.eq_iff (x y : Edge) : x = y ↔ x.frm = y.frm ∧ x.to = y.to ∧ x.kind = y.kind ∧ x.key = y.key := by cases x; cases y; simp only [Edge.mk.injEq]
@[simp] theorem Edge.u_size (e : Edge) : e.u.size = 4 := rfl
@[simp] theorem Edge.u_var (e : Edge) (K : U → Option α) : U.asVar true 4 e.u K = K e.u := rfl
@[simp] theorem Edge.u_storable (e : Edge) : storable (.val e.u) = true := rfl
@[simp] theorem Edge.u_partable (e : Edge) : partable (.val e.u) = true := rfl
@[simp] theorem Edge.u_noTup (e : Edge) (K : U → Option α) : U.noTup e.u K = K e.u := rfl
@[simp] theorem Edge.u_agg (e : Edge) (K : List U → Option α) : U.asAgg e.u K = K [.int .i64 e.frm, .int .i64 e.to, .int .i64 e.kind, .int .i64 e.key] := rfl
@[simp] theorem Edge.u_at0 (e : Edge) (K : U → Option α) : U.fieldAt 0 0 e.u K = K (.int .i64 e.frm) := rfl
@[simp] theorem Edge.u_at1 (e : Edge) (K : U → Option α) : U.fieldAt 1 1 e.u K = K (.int .i64 e.to) := rfl
@[simp] theorem Edge.u_at2 (e : Edge) (K : U → Option α) : U.fieldAt 2 2 e.u K = K (.int .i64 e.kind) := rfl
@[simp] theorem Edge.u_at3 (e : Edge) (K : U → Option α) : U.fieldAt 3 3 e.u K = K (.int .i64 e.key) := rfl
@[simp] theorem Edge.u_flat (e : Edge) : e.u.flat = true := rfl
@[simp] theorem Edge.u_asFlat (e : Edge) (K : U → Option α) : U.asFlat e.u K = K e.u := rfl
@[simp] theorem Edge.u_eqv (x y : Edge) : U.eqv 6 x.u y.u = some (decide (x = y)) := by
  obtain ⟨a0, a1, a2, a3⟩ := x
  obtain ⟨b0, b1, b2, b3⟩ := y
  simp only [Edge.mk.injEq]
  show (if 4 = 4 then eqInts _ _ else none) = _
  simp only [if_true, Qb8, Qb9, Option.map_some, Bool.decide_and, Bool.and_true]
  rfl
structure ReadMark where
  key : Int
  created : Int
  deriving DecidableEq
theorem ReadMark.eq_iff (x y : ReadMark) : x = y ↔ x.key = y.key ∧ x.created = y.created := by cases x; cases y; simp only [ReadMark.mk.injEq]
def ReadMark.u (e : ReadMark) : U := .agg [.int .i64 e.key, .int .i64 e.created]
@[simp] theorem ReadMark.u_size (e : ReadMark) : e.u.size = 2 := rfl
@[simp] theorem ReadMark.u_var (e : ReadMark) (K : U → Option α) : U.asVar true 2 e.u K = K e.u := rfl
@[simp] theorem ReadMark.u_storable (e : ReadMark) : storable (.val e.u) = true := rfl
@[simp] theorem ReadMark.u_partable (e : ReadMark) : partable (.val e.u) = true := rfl
@[simp] theorem ReadMark.u_noTup (e : ReadMark) (K : U → Option α) : U.noTup e.u K = K e.u := rfl
@[simp] theorem ReadMark.u_agg (e : ReadMark) (K : List U → Option α) : U.asAgg e.u K = K [.int .i64 e.key, .int .i64 e.created] := rfl
@[simp] theorem ReadMark.u_at0 (e : ReadMark) (K : U → Option α) : U.fieldAt 0 0 e.u K = K (.int .i64 e.key) := rfl
@[simp] theorem ReadMark.u_at1 (e : ReadMark) (K : U → Option α) : U.fieldAt 1 1 e.u K = K (.int .i64 e.created) := rfl
@[simp] theorem ReadMark.u_flat (e : ReadMark) : e.u.flat = true := rfl
@[simp] theorem ReadMark.u_asFlat (e : ReadMark) (K : U → Option α) : U.asFlat e.u K = K e.u := rfl
@[simp] theorem ReadMark.u_eqv (x y : ReadMark) : U.eqv 4 x.u y.u = some (decide (x = y)) := by
  obtain ⟨a0, a1⟩ := x
  obtain ⟨b0, b1⟩ := y
  simp only [ReadMark.mk.injEq]
  show (if 2 = 2 then eqInts _ _ else none) = _
  simp only [if_true, Qb8, Qb9, Option.map_some, Bool.decide_and, Bool.and_true]
  rfl
structure Write where
  key : Int
  value : Int
  deriving DecidableEq
theorem Write.eq_iff (x y : Write) : x = y ↔ x.key = y.key ∧ x.value = y.value := by cases x; cases y; simp only [Write.mk.injEq]
def Write.u (e : Write) : U := .agg [.int .i64 e.key, .int .i64 e.value]
@[simp] theorem Write.u_size (e : Write) : e.u.size = 2 := rfl
@[simp] theorem Write.u_var (e : Write) (K : U → Option α) : U.asVar true 2 e.u K = K e.u := rfl
@[simp] theorem Write.u_storable (e : Write) : storable (.val e.u) = true := rfl
@[simp] theorem Write.u_partable (e : Write) : partable (.val e.u) = true := rfl
@[simp] theorem Write.u_noTup (e : Write) (K : U → Option α) : U.noTup e.u K = K e.u := rfl
@[simp] theorem Write.u_agg (e : Write) (K : List U → Option α) : U.asAgg e.u K = K [.int .i64 e.key, .int .i64 e.value] := rfl
@[simp] theorem Write.u_at0 (e : Write) (K : U → Option α) : U.fieldAt 0 0 e.u K = K (.int .i64 e.key) := rfl
@[simp] theorem Write.u_at1 (e : Write) (K : U → Option α) : U.fieldAt 1 1 e.u K = K (.int .i64 e.value) := rfl
@[simp] theorem Write.u_flat (e : Write) : e.u.flat = true := rfl
@[simp] theorem Write.u_asFlat (e : Write) (K : U → Option α) : U.asFlat e.u K = K e.u := rfl
@[simp] theorem Write.u_eqv (x y : Write) : U.eqv 4 x.u y.u = some (decide (x = y)) := by
  obtain ⟨a0, a1⟩ := x
  obtain ⟨b0, b1⟩ := y
  simp only [Write.mk.injEq]
  show (if 2 = 2 then eqInts _ _ else none) = _
  simp only [if_true, Qb8, Qb9, Option.map_some, Bool.decide_and, Bool.and_true]
  rfl
structure Lock where
  key : Int
  owner : Int
  deriving DecidableEq
theorem Lock.eq_iff (x y : Lock) : x = y ↔ x.key = y.key ∧ x.owner = y.owner := by cases x; cases y; simp only [Lock.mk.injEq]
def Lock.u (e : Lock) : U := .agg [.int .i64 e.key, .int .i64 e.owner]
@[simp] theorem Lock.u_size (e : Lock) : e.u.size = 2 := rfl
@[simp] theorem Lock.u_var (e : Lock) (K : U → Option α) : U.asVar true 2 e.u K = K e.u := rfl
@[simp] theorem Lock.u_storable (e : Lock) : storable (.val e.u) = true := rfl
@[simp] theorem Lock.u_partable (e : Lock) : partable (.val e.u) = true := rfl
@[simp] theorem Lock.u_noTup (e : Lock) (K : U → Option α) : U.noTup e.u K = K e.u := rfl
@[simp] theorem Lock.u_agg (e : Lock) (K : List U → Option α) : U.asAgg e.u K = K [.int .i64 e.key, .int .i64 e.owner] := rfl
@[simp] theorem Lock.u_at0 (e : Lock) (K : U → Option α) : U.fieldAt 0 0 e.u K = K (.int .i64 e.key) := rfl
@[simp] theorem Lock.u_at1 (e : Lock) (K : U → Option α) : U.fieldAt 1 1 e.u K = K (.int .i64 e.owner) := rfl
@[simp] theorem Lock.u_flat (e : Lock) : e.u.flat = true := rfl
@[simp] theorem Lock.u_asFlat (e : Lock) (K : U → Option α) : U.asFlat e.u K = K e.u := rfl
@[simp] theorem Lock.u_eqv (x y : Lock) : U.eqv 4 x.u y.u = some (decide (x = y)) := by
  obtain ⟨a0, a1⟩ := x
  obtain ⟨b0, b1⟩ := y
  simp only [Lock.mk.injEq]
  show (if 2 = 2 then eqInts _ _ else none) = _
  simp only [if_true, Qb8, Qb9, Option.map_some, Bool.decide_and, Bool.and_true]
  rfl
structure Wait where
  id : Int
  for_ : Int
  deriving DecidableEq
theorem Wait.eq_iff (x y : Wait) : x = y ↔ x.id = y.id ∧ x.for_ = y.for_ := by cases x; cases y; simp only [Wait.mk.injEq]
def Wait.u (e : Wait) : U := .agg [.int .i64 e.id, .int .i64 e.for_]
@[simp] theorem Wait.u_size (e : Wait) : e.u.size = 2 := rfl
@[simp] theorem Wait.u_var (e : Wait) (K : U → Option α) : U.asVar true 2 e.u K = K e.u := rfl
@[simp] theorem Wait.u_storable (e : Wait) : storable (.val e.u) = true := rfl
@[simp] theorem Wait.u_partable (e : Wait) : partable (.val e.u) = true := rfl
@[simp] theorem Wait.u_noTup (e : Wait) (K : U → Option α) : U.noTup e.u K = K e.u := rfl
@[simp] theorem Wait.u_agg (e : Wait) (K : List U → Option α) : U.asAgg e.u K = K [.int .i64 e.id, .int .i64 e.for_] := rfl
@[simp] theorem Wait.u_at0 (e : Wait) (K : U → Option α) : U.fieldAt 0 0 e.u K = K (.int .i64 e.id) := rfl
@[simp] theorem Wait.u_at1 (e : Wait) (K : U → Option α) : U.fieldAt 1 1 e.u K = K (.int .i64 e.for_) := rfl
@[simp] theorem Wait.u_flat (e : Wait) : e.u.flat = true := rfl
@[simp] theorem Wait.u_asFlat (e : Wait) (K : U → Option α) : U.asFlat e.u K = K e.u := rfl
@[simp] theorem Wait.u_eqv (x y : Wait) : U.eqv 4 x.u y.u = some (decide (x = y)) := by
  obtain ⟨a0, a1⟩ := x
  obtain ⟨b0, b1⟩ := y
  simp only [Wait.mk.injEq]
  show (if 2 = 2 then eqInts _ _ else none) = _
  simp only [if_true, Qb8, Qb9, Option.map_some, Bool.decide_and, Bool.and_true]
  rfl
structure Version where
  writer : Int
  value : Int
  created : Int
  reader : Int
  successor : Int
  deriving DecidableEq
theorem Version.eq_iff (x y : Version) : x = y ↔ x.writer = y.writer ∧ x.value = y.value ∧ x.created = y.created ∧ x.reader = y.reader ∧ x.successor = y.successor := by cases x; cases y; simp only [Version.mk.injEq]
def Version.u (e : Version) : U := .agg [.int .i64 e.writer, .int .i64 e.value, .int .i64 e.created, .int .i64 e.reader, .int .i64 e.successor]
@[simp] theorem Version.u_size (e : Version) : e.u.size = 5 := rfl
@[simp] theorem Version.u_var (e : Version) (K : U → Option α) : U.asVar true 5 e.u K = K e.u := rfl
@[simp] theorem Version.u_storable (e : Version) : storable (.val e.u) = true := rfl
@[simp] theorem Version.u_partable (e : Version) : partable (.val e.u) = true := rfl
@[simp] theorem Version.u_noTup (e : Version) (K : U → Option α) : U.noTup e.u K = K e.u := rfl
@[simp] theorem Version.u_agg (e : Version) (K : List U → Option α) : U.asAgg e.u K = K [.int .i64 e.writer, .int .i64 e.value, .int .i64 e.created, .int .i64 e.reader, .int .i64 e.successor] := rfl
@[simp] theorem Version.u_at0 (e : Version) (K : U → Option α) : U.fieldAt 0 0 e.u K = K (.int .i64 e.writer) := rfl
@[simp] theorem Version.u_at1 (e : Version) (K : U → Option α) : U.fieldAt 1 1 e.u K = K (.int .i64 e.value) := rfl
@[simp] theorem Version.u_at2 (e : Version) (K : U → Option α) : U.fieldAt 2 2 e.u K = K (.int .i64 e.created) := rfl
@[simp] theorem Version.u_at3 (e : Version) (K : U → Option α) : U.fieldAt 3 3 e.u K = K (.int .i64 e.reader) := rfl
@[simp] theorem Version.u_at4 (e : Version) (K : U → Option α) : U.fieldAt 4 4 e.u K = K (.int .i64 e.successor) := rfl
@[simp] theorem Version.u_flat (e : Version) : e.u.flat = true := rfl
@[simp] theorem Version.u_asFlat (e : Version) (K : U → Option α) : U.asFlat e.u K = K e.u := rfl
@[simp] theorem Version.u_eqv (x y : Version) : U.eqv 7 x.u y.u = some (decide (x = y)) := by
  obtain ⟨a0, a1, a2, a3, a4⟩ := x
  obtain ⟨b0, b1, b2, b3, b4⟩ := y
  simp only [Version.mk.injEq]
  show (if 5 = 5 then eqInts _ _ else none) = _
  simp only [if_true, Qb8, Qb9, Option.map_some, Bool.decide_and, Bool.and_true]
  rfl
structure Entry where
  id : Int
  stamp : Int
  reads : List ReadMark
  writes : List Write
  deriving DecidableEq
theorem Entry.eq_iff (x y : Entry) : x = y ↔ x.id = y.id ∧ x.stamp = y.stamp ∧ x.reads = y.reads ∧ x.writes = y.writes := by cases x; cases y; simp only [Entry.mk.injEq]
def Entry.u (e : Entry) : U := .agg [.int .i64 e.id, .int .i64 e.stamp, .sl 2 (e.reads.map ReadMark.u), .sl 2 (e.writes.map Write.u)]
@[simp] theorem Entry.u_size (e : Entry) : e.u.size = 4 := rfl
@[simp] theorem Entry.u_var (e : Entry) (K : U → Option α) : U.asVar true 4 e.u K = K e.u := rfl
@[simp] theorem Entry.u_storable (e : Entry) : storable (.val e.u) = true := rfl
@[simp] theorem Entry.u_partable (e : Entry) : partable (.val e.u) = true := rfl
@[simp] theorem Entry.u_noTup (e : Entry) (K : U → Option α) : U.noTup e.u K = K e.u := rfl
@[simp] theorem Entry.u_agg (e : Entry) (K : List U → Option α) : U.asAgg e.u K = K [.int .i64 e.id, .int .i64 e.stamp, .sl 2 (e.reads.map ReadMark.u), .sl 2 (e.writes.map Write.u)] := rfl
@[simp] theorem Entry.u_at0 (e : Entry) (K : U → Option α) : U.fieldAt 0 0 e.u K = K (.int .i64 e.id) := rfl
@[simp] theorem Entry.u_at1 (e : Entry) (K : U → Option α) : U.fieldAt 1 1 e.u K = K (.int .i64 e.stamp) := rfl
@[simp] theorem Entry.u_at2 (e : Entry) (K : U → Option α) : U.fieldAt 2 2 e.u K = K (.sl 2 (e.reads.map ReadMark.u)) := rfl
@[simp] theorem Entry.u_at3 (e : Entry) (K : U → Option α) : U.fieldAt 3 3 e.u K = K (.sl 2 (e.writes.map Write.u)) := rfl
structure LogRecord where
  stamp : Int
  id : Int
  high : Int
  safe : Int
  reads : List ReadMark
  writes : List Write
  deriving DecidableEq
theorem LogRecord.eq_iff (x y : LogRecord) : x = y ↔ x.stamp = y.stamp ∧ x.id = y.id ∧ x.high = y.high ∧ x.safe = y.safe ∧ x.reads = y.reads ∧ x.writes = y.writes := by cases x; cases y; simp only [LogRecord.mk.injEq]
def LogRecord.u (e : LogRecord) : U := .agg [.int .i64 e.stamp, .int .i64 e.id, .int .i64 e.high, .int .i64 e.safe, .sl 2 (e.reads.map ReadMark.u), .sl 2 (e.writes.map Write.u)]
@[simp] theorem LogRecord.u_size (e : LogRecord) : e.u.size = 6 := rfl
@[simp] theorem LogRecord.u_var (e : LogRecord) (K : U → Option α) : U.asVar true 6 e.u K = K e.u := rfl
@[simp] theorem LogRecord.u_storable (e : LogRecord) : storable (.val e.u) = true := rfl
@[simp] theorem LogRecord.u_partable (e : LogRecord) : partable (.val e.u) = true := rfl
@[simp] theorem LogRecord.u_noTup (e : LogRecord) (K : U → Option α) : U.noTup e.u K = K e.u := rfl
@[simp] theorem LogRecord.u_agg (e : LogRecord) (K : List U → Option α) : U.asAgg e.u K = K [.int .i64 e.stamp, .int .i64 e.id, .int .i64 e.high, .int .i64 e.safe, .sl 2 (e.reads.map ReadMark.u), .sl 2 (e.writes.map Write.u)] := rfl
@[simp] theorem LogRecord.u_at0 (e : LogRecord) (K : U → Option α) : U.fieldAt 0 0 e.u K = K (.int .i64 e.stamp) := rfl
@[simp] theorem LogRecord.u_at1 (e : LogRecord) (K : U → Option α) : U.fieldAt 1 1 e.u K = K (.int .i64 e.id) := rfl
@[simp] theorem LogRecord.u_at2 (e : LogRecord) (K : U → Option α) : U.fieldAt 2 2 e.u K = K (.int .i64 e.high) := rfl
@[simp] theorem LogRecord.u_at3 (e : LogRecord) (K : U → Option α) : U.fieldAt 3 3 e.u K = K (.int .i64 e.safe) := rfl
@[simp] theorem LogRecord.u_at4 (e : LogRecord) (K : U → Option α) : U.fieldAt 4 4 e.u K = K (.sl 2 (e.reads.map ReadMark.u)) := rfl
@[simp] theorem LogRecord.u_at5 (e : LogRecord) (K : U → Option α) : U.fieldAt 5 5 e.u K = K (.sl 2 (e.writes.map Write.u)) := rfl
structure Transaction where
  id : Int
  scheme : Int
  state : Int
  begin_ : Int
  low : Int
  high : Int
  commit : Int
  reads : List ReadMark
  writes : List Write
  deriving DecidableEq
theorem Transaction.eq_iff (x y : Transaction) : x = y ↔ x.id = y.id ∧ x.scheme = y.scheme ∧ x.state = y.state ∧ x.begin_ = y.begin_ ∧ x.low = y.low ∧ x.high = y.high ∧ x.commit = y.commit ∧ x.reads = y.reads ∧ x.writes = y.writes := by cases x; cases y; simp only [Transaction.mk.injEq]
def Transaction.u (e : Transaction) : U := .agg [.int .i64 e.id, .int .i64 e.scheme, .int .i64 e.state, .int .i64 e.begin_, .int .i64 e.low, .int .i64 e.high, .int .i64 e.commit, .sl 2 (e.reads.map ReadMark.u), .sl 2 (e.writes.map Write.u)]
@[simp] theorem Transaction.u_size (e : Transaction) : e.u.size = 9 := rfl
@[simp] theorem Transaction.u_var (e : Transaction) (K : U → Option α) : U.asVar true 9 e.u K = K e.u := rfl
@[simp] theorem Transaction.u_storable (e : Transaction) : storable (.val e.u) = true := rfl
@[simp] theorem Transaction.u_partable (e : Transaction) : partable (.val e.u) = true := rfl
@[simp] theorem Transaction.u_noTup (e : Transaction) (K : U → Option α) : U.noTup e.u K = K e.u := rfl
@[simp] theorem Transaction.u_agg (e : Transaction) (K : List U → Option α) : U.asAgg e.u K = K [.int .i64 e.id, .int .i64 e.scheme, .int .i64 e.state, .int .i64 e.begin_, .int .i64 e.low, .int .i64 e.high, .int .i64 e.commit, .sl 2 (e.reads.map ReadMark.u), .sl 2 (e.writes.map Write.u)] := rfl
@[simp] theorem Transaction.u_at0 (e : Transaction) (K : U → Option α) : U.fieldAt 0 0 e.u K = K (.int .i64 e.id) := rfl
@[simp] theorem Transaction.u_at1 (e : Transaction) (K : U → Option α) : U.fieldAt 1 1 e.u K = K (.int .i64 e.scheme) := rfl
@[simp] theorem Transaction.u_at2 (e : Transaction) (K : U → Option α) : U.fieldAt 2 2 e.u K = K (.int .i64 e.state) := rfl
@[simp] theorem Transaction.u_at3 (e : Transaction) (K : U → Option α) : U.fieldAt 3 3 e.u K = K (.int .i64 e.begin_) := rfl
@[simp] theorem Transaction.u_at4 (e : Transaction) (K : U → Option α) : U.fieldAt 4 4 e.u K = K (.int .i64 e.low) := rfl
@[simp] theorem Transaction.u_at5 (e : Transaction) (K : U → Option α) : U.fieldAt 5 5 e.u K = K (.int .i64 e.high) := rfl
@[simp] theorem Transaction.u_at6 (e : Transaction) (K : U → Option α) : U.fieldAt 6 6 e.u K = K (.int .i64 e.commit) := rfl
@[simp] theorem Transaction.u_at7 (e : Transaction) (K : U → Option α) : U.fieldAt 7 7 e.u K = K (.sl 2 (e.reads.map ReadMark.u)) := rfl
@[simp] theorem Transaction.u_at8 (e : Transaction) (K : U → Option α) : U.fieldAt 8 8 e.u K = K (.sl 2 (e.writes.map Write.u)) := rfl
structure Op where
  kind : Int
  id : Int
  scheme : Int
  key : Int
  high : Int
  value : Int
  deriving DecidableEq
theorem Op.eq_iff (x y : Op) : x = y ↔ x.kind = y.kind ∧ x.id = y.id ∧ x.scheme = y.scheme ∧ x.key = y.key ∧ x.high = y.high ∧ x.value = y.value := by cases x; cases y; simp only [Op.mk.injEq]
def Op.u (e : Op) : U := .agg [.int .i64 e.kind, .int .i64 e.id, .int .i64 e.scheme, .int .i64 e.key, .int .i64 e.high, .int .i64 e.value]
@[simp] theorem Op.u_size (e : Op) : e.u.size = 6 := rfl
@[simp] theorem Op.u_var (e : Op) (K : U → Option α) : U.asVar true 6 e.u K = K e.u := rfl
@[simp] theorem Op.u_storable (e : Op) : storable (.val e.u) = true := rfl
@[simp] theorem Op.u_partable (e : Op) : partable (.val e.u) = true := rfl
@[simp] theorem Op.u_noTup (e : Op) (K : U → Option α) : U.noTup e.u K = K e.u := rfl
@[simp] theorem Op.u_agg (e : Op) (K : List U → Option α) : U.asAgg e.u K = K [.int .i64 e.kind, .int .i64 e.id, .int .i64 e.scheme, .int .i64 e.key, .int .i64 e.high, .int .i64 e.value] := rfl
@[simp] theorem Op.u_at0 (e : Op) (K : U → Option α) : U.fieldAt 0 0 e.u K = K (.int .i64 e.kind) := rfl
@[simp] theorem Op.u_at1 (e : Op) (K : U → Option α) : U.fieldAt 1 1 e.u K = K (.int .i64 e.id) := rfl
@[simp] theorem Op.u_at2 (e : Op) (K : U → Option α) : U.fieldAt 2 2 e.u K = K (.int .i64 e.scheme) := rfl
@[simp] theorem Op.u_at3 (e : Op) (K : U → Option α) : U.fieldAt 3 3 e.u K = K (.int .i64 e.key) := rfl
@[simp] theorem Op.u_at4 (e : Op) (K : U → Option α) : U.fieldAt 4 4 e.u K = K (.int .i64 e.high) := rfl
@[simp] theorem Op.u_at5 (e : Op) (K : U → Option α) : U.fieldAt 5 5 e.u K = K (.int .i64 e.value) := rfl
@[simp] theorem Op.u_flat (e : Op) : e.u.flat = true := rfl
@[simp] theorem Op.u_asFlat (e : Op) (K : U → Option α) : U.asFlat e.u K = K e.u := rfl
@[simp] theorem Op.u_eqv (x y : Op) : U.eqv 8 x.u y.u = some (decide (x = y)) := by
  obtain ⟨a0, a1, a2, a3, a4, a5⟩ := x
  obtain ⟨b0, b1, b2, b3, b4, b5⟩ := y
  simp only [Op.mk.injEq]
  show (if 6 = 6 then eqInts _ _ else none) = _
  simp only [if_true, Qb8, Qb9, Option.map_some, Bool.decide_and, Bool.and_true]
  rfl
structure StepR where
  code : Int
  values : List Int
  deriving DecidableEq
theorem StepR.eq_iff (x y : StepR) : x = y ↔ x.code = y.code ∧ x.values = y.values := by cases x; cases y; simp only [StepR.mk.injEq]
def StepR.u (e : StepR) : U := .agg [.int .i64 e.code, .sl 1 (e.values.map intU)]
@[simp] theorem StepR.u_size (e : StepR) : e.u.size = 2 := rfl
@[simp] theorem StepR.u_var (e : StepR) (K : U → Option α) : U.asVar true 2 e.u K = K e.u := rfl
@[simp] theorem StepR.u_storable (e : StepR) : storable (.val e.u) = true := rfl
@[simp] theorem StepR.u_partable (e : StepR) : partable (.val e.u) = true := rfl
@[simp] theorem StepR.u_noTup (e : StepR) (K : U → Option α) : U.noTup e.u K = K e.u := rfl
@[simp] theorem StepR.u_agg (e : StepR) (K : List U → Option α) : U.asAgg e.u K = K [.int .i64 e.code, .sl 1 (e.values.map intU)] := rfl
@[simp] theorem StepR.u_at0 (e : StepR) (K : U → Option α) : U.fieldAt 0 0 e.u K = K (.int .i64 e.code) := rfl
@[simp] theorem StepR.u_at1 (e : StepR) (K : U → Option α) : U.fieldAt 1 1 e.u K = K (.sl 1 (e.values.map intU)) := rfl
def chainU (l : List Version) : U := .sl 5 (l.map Version.u)
@[simp] theorem Qim (l : List Version) : (chainU l).size = 1 := rfl
@[simp] theorem Qfs (l : List Version) (K : U → Option α) : U.asVar false 1 (chainU l) K = K (chainU l) := rfl
@[simp] theorem Qo5 (l : List Version) : storable (.val (chainU l)) = true := rfl
@[simp] theorem Qno (l : List Version) : partable (.val (chainU l)) = true := rfl
@[simp] theorem Qacj (l : List Version) (K : U → Option α) : U.noTup (chainU l) K = K (chainU l) := rfl
@[simp] theorem Qab8 (l : List Version) : U.lenOf false (chainU l) = some l.length := by simp [chainU]
@[simp] theorem Qabq (l : List Version) (i : Int) (K : U → Option α) : U.elemAt 5 (chainU l) i K = U.elemAt 5 (.sl 5 (l.map Version.u)) i K := rfl
structure Store where
  chains : List (List Version)
  deriving DecidableEq
theorem Store.eq_iff (x y : Store) : x = y ↔ x.chains = y.chains := by cases x; cases y; simp only [Store.mk.injEq]
def Store.u (e : Store) : U := .agg [.sl 1 (e.chains.map chainU)]
@[simp] theorem Store.u_size (e : Store) : e.u.size = 1 := rfl
@[simp] theorem Store.u_var (e : Store) (K : U → Option α) : U.asVar true 1 e.u K = K e.u := rfl
@[simp] theorem Store.u_storable (e : Store) : storable (.val e.u) = true := rfl
@[simp] theorem Store.u_partable (e : Store) : partable (.val e.u) = true := rfl
@[simp] theorem Store.u_noTup (e : Store) (K : U → Option α) : U.noTup e.u K = K e.u := rfl
@[simp] theorem Store.u_agg (e : Store) (K : List U → Option α) : U.asAgg e.u K = K [.sl 1 (e.chains.map chainU)] := rfl
@[simp] theorem Store.u_at0 (e : Store) (K : U → Option α) : U.fieldAt 0 0 e.u K = K (.sl 1 (e.chains.map chainU)) := rfl
structure Engine where
  certify : Bool
  store : Store
  transactions : List Transaction
  locks : List Lock
  waits : List Wait
  stamp : Int
  deriving DecidableEq
theorem Engine.eq_iff (x y : Engine) : x = y ↔ x.certify = y.certify ∧ x.store = y.store ∧ x.transactions = y.transactions ∧ x.locks = y.locks ∧ x.waits = y.waits ∧ x.stamp = y.stamp := by cases x; cases y; simp only [Engine.mk.injEq]
def Engine.u (e : Engine) : U := .agg [.bool e.certify, e.store.u, .sl 9 (e.transactions.map Transaction.u), .sl 2 (e.locks.map Lock.u), .sl 2 (e.waits.map Wait.u), .int .i64 e.stamp]
@[simp] theorem Engine.u_size (e : Engine) : e.u.size = 6 := rfl
@[simp] theorem Engine.u_var (e : Engine) (K : U → Option α) : U.asVar true 6 e.u K = K e.u := rfl
@[simp] theorem Engine.u_storable (e : Engine) : storable (.val e.u) = true := rfl
@[simp] theorem Engine.u_partable (e : Engine) : partable (.val e.u) = true := rfl
@[simp] theorem Engine.u_noTup (e : Engine) (K : U → Option α) : U.noTup e.u K = K e.u := rfl
@[simp] theorem Engine.u_agg (e : Engine) (K : List U → Option α) : U.asAgg e.u K = K [.bool e.certify, e.store.u, .sl 9 (e.transactions.map Transaction.u), .sl 2 (e.locks.map Lock.u), .sl 2 (e.waits.map Wait.u), .int .i64 e.stamp] := rfl
@[simp] theorem Engine.u_at0 (e : Engine) (K : U → Option α) : U.fieldAt 0 0 e.u K = K (.bool e.certify) := rfl
@[simp] theorem Engine.u_at1 (e : Engine) (K : U → Option α) : U.fieldAt 1 1 e.u K = K (e.store.u) := rfl
@[simp] theorem Engine.u_at2 (e : Engine) (K : U → Option α) : U.fieldAt 2 2 e.u K = K (.sl 9 (e.transactions.map Transaction.u)) := rfl
@[simp] theorem Engine.u_at3 (e : Engine) (K : U → Option α) : U.fieldAt 3 3 e.u K = K (.sl 2 (e.locks.map Lock.u)) := rfl
@[simp] theorem Engine.u_at4 (e : Engine) (K : U → Option α) : U.fieldAt 4 4 e.u K = K (.sl 2 (e.waits.map Wait.u)) := rfl
@[simp] theorem Engine.u_at5 (e : Engine) (K : U → Option α) : U.fieldAt 5 5 e.u K = K (.int .i64 e.stamp) := rfl
structure Node where
  engine : Engine
  log : ByteArray
  deriving DecidableEq
theorem Node.eq_iff (x y : Node) : x = y ↔ x.engine = y.engine ∧ x.log = y.log := by cases x; cases y; simp only [Node.mk.injEq]
def Node.u (e : Node) : U := .agg [e.engine.u, .str e.log]
@[simp] theorem Node.u_size (e : Node) : e.u.size = 7 := rfl
@[simp] theorem Node.u_var (e : Node) (K : U → Option α) : U.asVar true 7 e.u K = K e.u := rfl
@[simp] theorem Node.u_storable (e : Node) : storable (.val e.u) = true := rfl
@[simp] theorem Node.u_partable (e : Node) : partable (.val e.u) = true := rfl
@[simp] theorem Node.u_noTup (e : Node) (K : U → Option α) : U.noTup e.u K = K e.u := rfl
@[simp] theorem Node.u_agg (e : Node) (K : List U → Option α) : U.asAgg e.u K = K [e.engine.u, .str e.log] := rfl
@[simp] theorem Node.u_at0 (e : Node) (K : U → Option α) : U.fieldAt 0 0 e.u K = K (e.engine.u) := rfl
@[simp] theorem Node.u_at1 (e : Node) (K : U → Option α) : U.fieldAt 1 6 e.u K = K (.str e.log) := rfl
structure Report where
  order : List Int
  cycle : List Int
  kind : Int
  deriving DecidableEq
theorem Report.eq_iff (x y : Report) : x = y ↔ x.order = y.order ∧ x.cycle = y.cycle ∧ x.kind = y.kind := by cases x; cases y; simp only [Report.mk.injEq]
def Report.u (e : Report) : U := .agg [.sl 1 (e.order.map intU), .sl 1 (e.cycle.map intU), .int .i64 e.kind]
@[simp] theorem Report.u_size (e : Report) : e.u.size = 3 := rfl
@[simp] theorem Report.u_var (e : Report) (K : U → Option α) : U.asVar true 3 e.u K = K e.u := rfl
@[simp] theorem Report.u_storable (e : Report) : storable (.val e.u) = true := rfl
@[simp] theorem Report.u_partable (e : Report) : partable (.val e.u) = true := rfl
@[simp] theorem Report.u_noTup (e : Report) (K : U → Option α) : U.noTup e.u K = K e.u := rfl
@[simp] theorem Report.u_agg (e : Report) (K : List U → Option α) : U.asAgg e.u K = K [.sl 1 (e.order.map intU), .sl 1 (e.cycle.map intU), .int .i64 e.kind] := rfl
@[simp] theorem Report.u_at0 (e : Report) (K : U → Option α) : U.fieldAt 0 0 e.u K = K (.sl 1 (e.order.map intU)) := rfl
@[simp] theorem Report.u_at1 (e : Report) (K : U → Option α) : U.fieldAt 1 1 e.u K = K (.sl 1 (e.cycle.map intU)) := rfl
@[simp] theorem Report.u_at2 (e : Report) (K : U → Option α) : U.fieldAt 2 2 e.u K = K (.int .i64 e.kind) := rfl
def szc (n : Nat) (left : Int) : Int := if left - n < 0 then -1 else left - n
def szl {α : Type} (f : α → Int → Int) : List α → Int → Int
  | [], left => left
  | x :: r, left => if f x left < 0 then -1 else szl f r (f x left)
def szL {α : Type} (f : α → Int → Int) (l : List α) (left : Int) : Int := if left - (l.length : Int) < 0 then -1 else szl f l (left - l.length)
def Szs {α : Type} (f : α → Int → Int) (ok : α → Prop) : Prop := ∀ x left, 0 ≤ left → left ≤ 1048576 → f x left < 0 ∨ (ok x ∧ 0 ≤ f x left ∧ f x left ≤ left)
theorem Qco : Szs szc (fun n => n ≤ 1048576) := fun n left h0 h1 => by
  unfold szc
  split
  · left; omega
  · right; refine ⟨by omega, by omega, by omega⟩
theorem Qhn {n : Nat} {left : Int} (h : szc n left < 0) : szc n left = -1 := by
  unfold szc at h ⊢
  split at h
  · rename_i h1; rw [if_pos h1]
  · rename_i h1; omega
theorem Qaaa {α : Type} {f : α → Int → Int} {ok : α → Prop} (h : Szs f ok) : Szs (szl f) (fun l => ∀ x ∈ l, ok x) := fun l => by
  induction l with
  | nil => exact fun left h0 _ => .inr ⟨by simp, h0, Int.le_refl _⟩
  | cons x r ih =>
    intro left h0 h1
    rcases h x left h0 h1 with h2 | ⟨h2, h3, h4⟩
    · left; simp [szl, h2]
    · have h5 : ¬ f x left < 0 := by omega
      simp only [szl, h5, if_false]
      rcases ih _ h3 (by omega) with h6 | ⟨h6, h7, h8⟩
      · exact .inl h6
      · exact .inr ⟨by simpa using ⟨h2, h6⟩, h7, by omega⟩
theorem Qhm {α : Type} {f : α → Int → Int} {ok : α → Prop} (h : Szs f ok) : Szs (szL f) (fun l => l.length ≤ 1048576 ∧ ∀ x ∈ l, ok x) := fun l left h0 h1 => by
  unfold szL
  split
  · left; omega
  · rcases Qaaa h l (left - l.length) (by omega) (by omega) with h6 | ⟨h6, h7, h8⟩
    · exact .inl h6
    · exact .inr ⟨⟨by omega, h6⟩, h7, by omega⟩
theorem Qw {α : Type} (f : α → U) (p : List α) (z : U) (c : List U) {i : Int} (hi : i = p.length) :
    (p.map f ++ z :: c)[i.toNat]? = some z ∧ (∀ y, (p.map f ++ z :: c).set i.toNat y = p.map f ++ y :: c) ∧ i < ((p.map f ++ z :: c).length : Int) := by
  subst hi
  refine ⟨by simp, fun y => by simp, by simp; omega⟩
def Entry.fit (e : Entry) : Prop := e.reads.length ≤ maxLen ∧ e.writes.length ≤ maxLen
def Entry.ok (e : Entry) : Prop := e.reads.length ≤ 1048576 ∧ e.writes.length ≤ 1048576
def LogRecord.fit (e : LogRecord) : Prop := e.reads.length ≤ maxLen ∧ e.writes.length ≤ maxLen
def LogRecord.ok (e : LogRecord) : Prop := e.reads.length ≤ 1048576 ∧ e.writes.length ≤ 1048576
def Transaction.fit (e : Transaction) : Prop := e.reads.length ≤ maxLen ∧ e.writes.length ≤ maxLen
def Transaction.ok (e : Transaction) : Prop := e.reads.length ≤ 1048576 ∧ e.writes.length ≤ 1048576
def chainOk (l : List Version) : Prop := l.length ≤ 1048576
def chainFit (l : List Version) : Prop := l.length ≤ maxLen
def chainSz (l : List Version) (left : Int) : Int := szc l.length left
theorem Qil : Szs chainSz chainOk := fun l left h0 h1 => Qco l.length left h0 h1
theorem Qp7 {l : List Version} {left : Int} (h : chainSz l left < 0) : chainSz l left = -1 := Qhn h
theorem Qo7 {α : Type} {f : α → Int → Int} : ∀ {l : List α} {left : Int}, 0 ≤ left → szl f l left < 0 → szl f l left = -1
  | [], left, h0, h => by simp only [szl] at h; omega
  | x :: r, left, h0, h => by
    simp only [szl] at h ⊢
    by_cases h1 : f x left < 0
    · simp [h1]
    · simp only [h1, if_false] at h ⊢
      exact Qo7 (by omega) h
theorem Qz9 {α : Type} {f : α → Int → Int} (_ : ∀ {x : α} {left : Int}, f x left < 0 → f x left = -1) {l : List α} {left : Int} (h : szL f l left < 0) : szL f l left = -1 := by
  unfold szL at h ⊢
  by_cases h1 : left - (l.length : Int) < 0
  · simp [h1]
  · simp only [h1, if_false] at h ⊢
    exact Qo7 (by omega) h
def Store.fit (s : Store) : Prop := s.chains.length ≤ maxLen ∧ ∀ c ∈ s.chains, chainFit c
def Store.ok (s : Store) : Prop := s.chains.length ≤ 1048576 ∧ ∀ c ∈ s.chains, chainOk c
def Store.sz (s : Store) (left : Int) : Int := szL chainSz s.chains left
theorem Store.sz_szs : Szs Store.sz Store.ok := fun s left h0 h1 => Qhm Qil s.chains left h0 h1
def Transaction.sz (e : Transaction) (left : Int) : Int := let v := szc e.reads.length left; if v < 0 then -1 else szc e.writes.length v
theorem Transaction.sz_szs : Szs Transaction.sz Transaction.ok := fun e left h0 h1 => by
  unfold Transaction.sz Transaction.ok
  rcases Qco e.reads.length left h0 h1 with h | ⟨h2, h3, h4⟩
  · left; simp [h]
  · have h5 : ¬ szc e.reads.length left < 0 := by omega
    rcases Qco e.writes.length _ h3 (by omega) with h | ⟨h6, h7, h8⟩
    · left; simp [h5, h]
    · right; simp only [h5, if_false]; exact ⟨⟨h2, h6⟩, h7, by omega⟩
def Engine.fit (e : Engine) : Prop := e.store.fit ∧ e.transactions.length ≤ maxLen ∧ (∀ t ∈ e.transactions, t.fit) ∧ e.locks.length ≤ maxLen ∧ e.waits.length ≤ maxLen
def Engine.ok (e : Engine) : Prop := e.store.ok ∧ e.transactions.length ≤ 1048576 ∧ (∀ t ∈ e.transactions, t.ok) ∧ e.locks.length ≤ 1048576 ∧ e.waits.length ≤ 1048576
def Engine.sz (e : Engine) (left : Int) : Int :=
  if e.store.sz left < 0 then -1 else
  if szL Transaction.sz e.transactions (e.store.sz left) < 0 then -1 else
  if szc e.locks.length (szL Transaction.sz e.transactions (e.store.sz left)) < 0 then -1 else
  szc e.waits.length (szc e.locks.length (szL Transaction.sz e.transactions (e.store.sz left)))
theorem Engine.sz_szs : Szs Engine.sz Engine.ok := fun e left h0 h1 => by
  unfold Engine.sz Engine.ok
  rcases Store.sz_szs e.store left h0 h1 with n1 | ⟨o1, n1, n2⟩
  · left; simp [n1]
  have n3 : ¬ e.store.sz left < 0 := by omega
  rcases Qhm Transaction.sz_szs e.transactions _ n1 (by omega) with m1 | ⟨⟨o2, o3⟩, m1, m2⟩
  · left; simp [n3, m1]
  have m3 : ¬ szL Transaction.sz e.transactions (e.store.sz left) < 0 := by omega
  rcases Qco e.locks.length _ m1 (by omega) with k1 | ⟨o4, k1, k2⟩
  · left; simp [n3, m3, k1]
  have k3 : ¬ szc e.locks.length (szL Transaction.sz e.transactions (e.store.sz left)) < 0 := by omega
  rcases Qco e.waits.length _ k1 (by omega) with j1 | ⟨o5, j1, j2⟩
  · left; simp [n3, m3, k3, j1]
  · right
    simp only [n3, m3, k3, if_false]
    exact ⟨⟨o1, o2, o3, o4, o5⟩, j1, by omega⟩
def idxF {α : Type} (P : α → Bool) : List α → Int → Int
  | [], _ => -1
  | x :: r, i => if P x then i else idxF P r (i + 1)
variable {E : Env}
set_option linter.unusedVariables false
abbrev RT := {c : List Value // okc9 c = true}
def RT.u (x : RT) : U := rawU x.1
theorem RT.len (x : RT) : x.1.length = 9 := by
  have := x.2
  simp only [okc9, Bool.and_eq_true, decide_eq_true_eq] at this
  exact this.1
@[simp] theorem RT.u_size (x : RT) : (RT.u x).size = 9 := by unfold RT.u; rw [Qn1, x.len]
@[simp] theorem RT.u_var {α : Type} (x : RT) (K : U → Option α) : U.asVar true 9 (RT.u x) K = K (RT.u x) := if_pos ⟨rfl, x.u_size⟩
@[simp] theorem RT.u_flat (x : RT) : (RT.u x).flat = true := Qe4 _
@[simp] theorem RT.u_storable (x : RT) : storable (.val (RT.u x)) = true := rfl
theorem Qma : ∀ l : List RT, U.flat.flats (l.map RT.u) = true
  | [] => rfl
  | x :: l => by simp only [List.map_cons, U.flat.flats, RT.u_flat, Qma l, Bool.and_self]
theorem Qn8 (l : List RT) (hl : l.length ≤ 9223372036854775807) (q : Nat) (caps : List U) (P : RT → Bool) (hp : ∀ x ∈ l, E q (RT.u x :: caps) = some (.bool (P x))) (hq : q < 100000) : ∀ (r p : List RT) (i : Int), l = p ++ r → i = p.length →
    f80_l0 E (.sl 9 (l.map RT.u)) (.fn q caps) (.int .i64 l.length) (.int .i64 i) = some (.int .i64 (idxF P r i))
  | [], p, i, e, hi => by
    rw [Qls]
    simp [Qk e hi, idxF]
  | x :: r, p, i, e, hi => by
    obtain ⟨h0, hlt, hx, hw, hn, _⟩ := Qh e hi hl
    have hpx := hp x (by rw [e]; simp)
    have ih := Qn8 l hl q caps P hp hq r (p ++ [x]) (i + 1) (Qg e) hn
    rw [Qls]
    cases h1 : P x <;> simp [hlt, hx, hw, ih, hpx, hq, h1, idxF]
theorem Qxy (h : G_f80 E) (l : List RT) (hl : l.length ≤ 9223372036854775807) (q : Nat) (caps : List U) (P : RT → Bool) (hp : ∀ x ∈ l, E q (RT.u x :: caps) = some (.bool (P x))) (hq : q < 100000 := by decide) :
    E 172 [.sl 9 (l.map RT.u), .fn q caps] = some (.int .i64 (idxF P l 0)) := by
  rw [f80_E h]
  simp [Qn8 l hl q caps P hp hq l [] 0 rfl rfl]
theorem Qfx (q : Nat) (caps : List U) (P : RT → Bool) (hq : q < 100000) : ∀ (rest out mid : List RT) (i j : Int) (n : Nat), i = out.length → j = out.length + mid.length → mid ≠ [] → (out ++ mid ++ rest).length = n → n ≤ 100000000 → (∀ x ∈ rest, E q (RT.u x :: caps) = some (.bool (P x))) →
    f79_l0 E (.fn q caps) (.int .i64 i) (.int .i64 j) ((out ++ mid ++ rest).map RT.u) = some (.sl 9 ((out ++ rest.filter fun x => !P x).map RT.u))
  | [], out, mid, i, j, n, hi, hj, hm, hn, hb, hp => by
    subst hi; subst hj
    have hn2 : n = out.length + mid.length := by rw [← hn]; simp
    rw [Qlr]
    have hL : ((out ++ mid ++ []).map RT.u).length = n := by rw [List.length_map]; exact hn
    have c1 : ¬ ((out.length : Int) + (mid.length : Int) < (n : Int)) := by omega
    simp only [Qm, hL, decide_eq_false c1, Option.bind_some, Qj, Bool.false_eq_true, if_false, Qp]
    rw [if_pos ⟨by trivial, by trivial, by omega, by omega, by omega⟩, if_pos ⟨by trivial, by rfl, by omega, by rfl, Qma _, by omega⟩, if_pos]
    · simp only [List.filter_nil, List.append_nil, Option.some.injEq, U.sl.injEq, true_and]
      rw [List.map_append]
      have e1 : (out.length : Int).toNat = (out.map RT.u).length := by simp
      have e2 : List.take (out.map RT.u).length (out.map RT.u ++ mid.map RT.u) = out.map RT.u := List.take_left' rfl
      rw [e1]
      simp only [List.append_assoc]
      rw [e2]
      exact List.take_left' rfl
    · refine ⟨by omega, ?_⟩
      simp only [List.length_append, List.length_take, List.length_map, List.length_replicate]
      omega
  | z :: rest, out, mid, i, j, n, hi, hj, hm, hn, hb, hp => by
    subst hi; subst hj
    have hn2 : n = out.length + mid.length + 1 + rest.length := by rw [← hn]; simp; omega
    rw [Qlr]
    have hL : ((out ++ mid ++ z :: rest).map RT.u).length = n := by rw [List.length_map]; exact hn
    have c1 : ((out.length : Int) + (mid.length : Int) < (n : Int)) := by omega
    have hat : ((out ++ mid ++ z :: rest).map RT.u)[((out.length : Int) + (mid.length : Int)).toNat]? = some (RT.u z) := by
      rw [List.getElem?_map, List.getElem?_append_right (by rw [List.length_append]; omega)]
      have : ((out.length : Int) + (mid.length : Int)).toNat - (out ++ mid).length = 0 := by rw [List.length_append]; omega
      rw [this]
      rfl
    have w2 : IntKind.i64.wrap ((out.length : Int) + (mid.length : Int) + 1) = (out.length : Int) + (mid.length : Int) + 1 := Qc (by omega)
    have w3 : IntKind.i64.wrap ((out.length : Int) + 1) = (out.length : Int) + 1 := Qc (by omega)
    have hpz := hp z (by simp)
    simp only [Qm, hL, decide_eq_true c1, Option.bind_some, Qj, if_true, Qp]
    rw [if_pos ⟨by trivial, by omega, by omega⟩, hat]
    have hfn : ∀ {γ : Type} (K : Nat → List U → Option γ), U.asFn (.fn q caps) K = K q caps := fun K => by simp [U.asFn, hq]
    simp only [Option.bind_some, RT.u_var, RT.u_flat, if_true, RT.u_storable, RT.u_size, and_self, hfn, List.cons_append, List.nil_append, hpz]
    cases hz : P z with
    | true =>
      have ih := Qfx q caps P hq rest out (mid ++ [z]) out.length ((out.length : Int) + (mid.length : Int) + 1) n rfl (by simp; omega) (by simp) (by rw [← hn]; simp) hb (fun x hx => hp x (by simp [hx]))
      simp only [Qpd, Option.bind_some, Bool.not_true, Qj, Bool.false_eq_true, if_false, Qo, w2]
      rw [show out ++ mid ++ z :: rest = out ++ (mid ++ [z]) ++ rest by simp, ih]
      simp [hz]
    | false =>
      simp only [Qpd, Option.bind_some, Bool.not_false, Qj, if_true]
      rw [if_pos ⟨by trivial, by omega, by omega⟩]
      obtain ⟨y, mid', rfl⟩ : ∃ (y : RT) (mid' : List RT), mid = y :: mid' := by
        cases mid with
        | nil => exact absurd rfl hm
        | cons a m => exact ⟨a, m, rfl⟩
      have hget : ((out ++ y :: mid' ++ z :: rest).map RT.u)[(out.length : Int).toNat]? = some (RT.u y) := by
        rw [List.append_assoc, List.map_append, Int.toNat_natCast, List.getElem?_append_right (by simp)]
        simp
      have hset : ((out ++ y :: mid' ++ z :: rest).map RT.u).set (out.length : Int).toNat (RT.u z) = ((out ++ [z]) ++ (mid' ++ [z]) ++ rest).map RT.u := by
        rw [List.append_assoc, List.map_append, Int.toNat_natCast, List.set_append_right _ _ (by simp)]
        simp
      rw [hget]
      simp only [Option.bind_some, RT.u_size, if_true, Qo, w3, w2]
      rw [hset]
      have ih := Qfx q caps P hq rest (out ++ [z]) (mid' ++ [z]) ((out.length : Int) + 1) ((out.length : Int) + ((y :: mid').length : Int) + 1) n (by simp) (by simp only [List.length_append, List.length_cons, List.length_nil]; omega) (by simp) (by rw [← hn]; simp) hb (fun x hx => hp x (by simp [hx]))
      rw [ih]
      simp [hz]
theorem Qmh {α : Type} (P : α → Bool) : ∀ (l : List α) (i : Int), 0 ≤ i → (idxF P l i = -1 ∧ ∀ x ∈ l, P x = false) ∨ ∃ p y r, l = p ++ y :: r ∧ idxF P l i = i + p.length ∧ P y = true ∧ ∀ x ∈ p, P x = false
  | [], i, _ => .inl ⟨rfl, fun x hx => by cases hx⟩
  | z :: l, i, hi => by
    cases hz : P z with
    | true => exact .inr ⟨[], z, l, rfl, by simp [idxF, hz], hz, fun x hx => by cases hx⟩
    | false =>
      rcases Qmh P l (i + 1) (by omega) with ⟨h1, h2⟩ | ⟨p, y, r, h1, h2, h3, h4⟩
      · refine .inl ⟨by simp [idxF, hz, h1], fun x hx => ?_⟩
        rcases List.mem_cons.1 hx with rfl | hx
        · exact hz
        · exact h2 x hx
      · refine .inr ⟨z :: p, y, r, by rw [h1]; rfl, by simp only [idxF, hz, h2]; simp; omega, h3, fun x hx => ?_⟩
        rcases List.mem_cons.1 hx with rfl | hx
        · exact hz
        · exact h4 x hx
theorem Qxx (h : G_f79 E) (l : List RT) (hl : l.length ≤ 99999990) (q : Nat) (caps : List U) (P : RT → Bool) (hq : q < 100000) (hp : ∀ x ∈ l, E q (RT.u x :: caps) = some (.bool (P x))) :
    E 300346 (.agg [.tup [.sl 9 (l.map RT.u)]] :: [.fn q caps]) = some (.sl 9 ((l.filter fun x => !P x).map RT.u)) := by
  rw [f79_E h, Qxy h.c_f80 l (by omega) q caps P hp hq]
  rcases Qmh P l 0 (by omega) with ⟨h1, h2⟩ | ⟨p, y, r, h1, h2, h3, h4⟩
  · have : l.filter (fun x => !P x) = l := List.filter_eq_self.2 fun x hx => by simp [h2 x hx]
    simp [h1, this]
  · have hll : l.length = p.length + r.length + 1 := by rw [h1]; simp; omega
    have hne : ¬ ((0 : Int) + p.length = -1) := by omega
    have hw : IntKind.i64.wrap ((0 : Int) + p.length + 1) = (p.length : Int) + 1 := by rw [Qc (by omega)]; omega
    have ih := Qfx (E := E) q caps P hq r p [y] (0 + p.length) ((p.length : Int) + 1) l.length (by omega) (by simp) (by simp) (by rw [h1]; simp) (by omega) (fun x hx => hp x (by rw [h1]; simp [hx]))
    have hf : (p ++ r.filter fun x => !P x) = l.filter fun x => !P x := by
      have : p.filter (fun x => !P x) = p := List.filter_eq_self.2 fun x hx => by simp [h4 x hx]
      rw [h1, List.filter_append, this]
      simp [h3]
    rw [h2]
    simp only [Option.bind_some, (show ∀ (n : Int) (K : U → Option U), U.asFlat (.int .i64 n) K = K (.int .i64 n) from fun _ _ => rfl), Qp4, hne, decide_false, Qj, Bool.false_eq_true, if_false, Qo, hw]
    rw [show p ++ [y] ++ r = l by rw [h1]; simp] at ih
    rw [ih, hf]
theorem Qpx (h : G_f2 E) (c : List Value) (hc : okc9 c = true) : E 345 [rawU c] = some (.bool (pc9 c)) := by
  rw [f2_E h]
  simp only [okc9, Bool.and_eq_true, decide_eq_true_eq] at hc
  match c, hc with
  | [c0, c1, c2, c3, c4, c5, c6, c7, c8], hc =>
    have h2 := hc.2
    simp only [List.getElem?_cons_succ, List.getElem?_cons_zero] at h2
    split at h2
    · rename_i n e
      cases e
      have hs : 2 = sizes [rawCell c0, rawCell c1] := by simp [Qnz]
      show (if 2 = sizes [rawCell c0, rawCell c1] then _ else _) = _
      rw [if_pos hs]
      show (U.bin .eql (.int .i64 n) (.int .i64 3)).bind _ = _
      simp [pc9]
    · cases h2
theorem Qqd (h : G_f79 E) (hc : G_f2 E) : ∀ cs : List (List Value), (∀ x ∈ cs, okc9 x = true) → cs.length ≤ 1048576 →
    E 300346 [.agg [.tup [.sl 9 (cs.map rawU)]], .fn 345 []] = some (.sl 9 ((cs.filter fun x => !pc9 x).map rawU)) := fun cs hx hl => by
  let L : List RT := cs.attach.map fun x => ⟨x.1, hx x.1 x.2⟩
  have hv : L.map (fun x => x.1) = cs := by
    show List.map _ (List.map _ cs.attach) = cs
    rw [List.map_map]
    exact List.attach_map_subtype_val cs
  have hu : cs.map rawU = L.map RT.u := by
    conv => lhs; rw [← hv, List.map_map]
    rfl
  have hf : (cs.filter fun x => !pc9 x).map rawU = (L.filter fun x => !pc9 x.1).map RT.u := by
    conv => lhs; rw [← hv, List.filter_map, List.map_map]
    rfl
  have hL : L.length = cs.length := (List.length_map _).trans List.length_attach
  rw [hu, hf]
  exact Qxx h L (by omega) 345 [] (fun x => pc9 x.1) (by decide) fun x _ => Qpx hc x.1 x.2
theorem Qaj {α : Type} (f : α → U) (h : ∀ x, (f x).flat = true) : ∀ l : List α, U.flat.flats (l.map f) = true
  | [] => rfl
  | x :: l => by
    simp only [List.map_cons, U.flat.flats, h x, Qaj f h l, Bool.and_self]
@[simp] theorem Qab4 (l : List Edge) : U.flat.flats (l.map Edge.u) = true := Qaj _ (fun _ => rfl) l
@[simp] theorem Qab5 (l : List Int) : U.flat.flats (l.map intU) = true := Qaj _ (fun _ => rfl) l
theorem Qdn {q k b : Nat} (h : IsClone E q k b) (us : List U) (hl : us.length * b ≤ 140737488355328) (hf : U.flat.flats us = true) : E (100000 + q) [.sl k us] = some (.sl k us) := by
  rw [h.f]; simp [cloneF, hl, hf]
theorem flatsR (l : List ReadMark) : U.flat.flats (l.map ReadMark.u) = true := Qaj _ (fun _ => rfl) l
theorem flatsW (l : List Write) : U.flat.flats (l.map Write.u) = true := Qaj _ (fun _ => rfl) l
theorem Qmi (h : G_f6 E) (x : Transaction) (ho : x.ok) : E 100222 [x.u] = some x.u := by
  rw [f6_E h]
  have h1 : E 100224 [.sl 2 (x.reads.map ReadMark.u)] = _ := Qdn h.c_f75 (x.reads.map ReadMark.u) (by have := ho.1; simp; omega) (flatsR _)
  have h2 : E 100225 [.sl 2 (x.writes.map Write.u)] = _ := Qdn h.c_f76 (x.writes.map Write.u) (by have := ho.2; simp; omega) (flatsW _)
  simp [h1, h2, Qw2, U.asSlK, D.size, dsizes, D.size.dsizes, U.size]
  rfl
theorem Qk7 (h : G_f63 E) (x : Version) : E 109 [x.u] = some x.u := by
  rw [f63_E h]
  simp [Version.u]
theorem Qk9 (h : G_f64 E) (l : List Version) (hl : l.length ≤ 1048576) : ∀ (r p : List Version) (i : Int) (c : List U), l = p ++ r → i = p.length → c.length = r.length → (∀ z ∈ c, z.size = 5) →
    f64_l0 E (.sl 5 (l.map Version.u)) (.int .i64 i) (p.map Version.u ++ c) = some (.sl 5 (l.map Version.u))
  | [], p, i, c, e, hi, hc, _ => by
    obtain rfl : c = [] := List.length_eq_zero_iff.1 hc
    rw [Qk8]
    simp [Qk e hi]
    simp [e]
  | x :: r, p, i, [], e, hi, hc, _ => by cases hc
  | x :: r, p, i, z :: c, e, hi, hc, hz => by
    obtain ⟨h0, hlt, hx, hw, hn, _⟩ := Qh e hi (by omega)
    have hzs : z.size = 5 := hz z (by simp)
    obtain ⟨hg, hs, hlen⟩ := Qw Version.u p z c hi
    have ih := Qk9 h l hl r (p ++ [x]) (i + 1) c (Qg e) hn (by simpa using hc) (fun y hy => hz y (by simp [hy]))
    simp only [List.map_append, List.map_cons, List.map_nil, List.append_assoc, List.cons_append, List.nil_append] at ih
    rw [Qk8]
    simp only [hg, hs, hx, hw, Qp, Qm, Qn, List.length_map, Option.bind_some, Qj, hlt, decide_true, if_true, h0, hlen, and_self, Qo, Qk7 h.c_f63 x, hzs, Version.u_var, Version.u_size, Version.u_storable, Version.u_partable]
    simpa using ih
theorem Qtx (h : G_f64 E) (l : List Version) (hl : l.length ≤ 1048576) : E 108 [.sl 5 (l.map Version.u)] = some (.sl 5 (l.map Version.u)) := by
  have h1 := Qk9 h l hl l [] 0 (List.replicate l.length (.agg [.int .i64 0, .int .i64 0, .int .i64 0, .int .i64 0, .int .i64 0])) rfl rfl (by simp) (by simp)
  rw [f64_E h]
  simp only [Qn, Option.bind_some, List.length_map]
  rw [if_pos (by refine ⟨by omega, by omega, by omega, rfl⟩)]
  simpa using h1
theorem Qjh (h : G_f16 E) (x y : Version) : E 120 [x.u, y.u] = some (.bool (decide (x = y))) := by
  rw [f16_E h]
  obtain ⟨a0, a1, a2, a3, a4⟩ := x
  obtain ⟨b0, b1, b2, b3, b4⟩ := y
  simp only [Version.mk.injEq]
  by_cases h0 : a0 = b0
  case neg => simp [h0]
  subst h0
  by_cases h1 : a1 = b1
  case neg => simp [h1]
  subst h1
  by_cases h2 : a2 = b2
  case neg => simp [h2]
  subst h2
  by_cases h3 : a3 = b3
  case neg => simp [h3]
  subst h3
  by_cases h4 : a4 = b4
  case neg => simp [h4]
  subst h4
  simp []
theorem Qjk (h : G_f17 E) (a b : List Version) (ha : a.length ≤ 1048576) (hb : b.length ≤ 1048576) : ∀ (r s p p2 : List Version) (i : Int), a = p ++ r → b = p2 ++ s → i = p.length → i = p2.length → r.length = s.length →
    f17_l0 E (.sl 5 (a.map Version.u)) (.sl 5 (b.map Version.u)) (.int .i64 i) = some (.bool (decide (r = s)))
  | [], [], p, p2, i, e, e2, hi, hi2, _ => by
    rw [Qjj]
    simp [Qk e hi]
  | [], y :: s, _, _, _, _, _, _, _, hl => by cases hl
  | x :: r, [], _, _, _, _, _, _, _, hl => by cases hl
  | x :: r, y :: s, p, p2, i, e, e2, hi, hi2, hl => by
    obtain ⟨h0, hlt, hx, hw, hn, _⟩ := Qh e hi (by omega)
    obtain ⟨_, _, hy, _, hn2, _⟩ := Qh e2 hi2 (by omega)
    have ih := Qjk h a b ha hb r s (p ++ [x]) (p2 ++ [y]) (i + 1) (Qg e) (Qg e2) hn hn2 (by simpa using hl)
    rw [Qjj]
    by_cases hxy : x = y
    · subst hxy
      simp [hlt, hx, hy, hw, ih, Qjh h.c_f16]
    · simp [hlt, hx, hy, hw, ih, Qjh h.c_f16, hxy]
theorem Qrc (h : G_f17 E) (a b : List Version) (ha : a.length ≤ 1048576) (hb : b.length ≤ 1048576) : E 119 [.sl 5 (a.map Version.u), .sl 5 (b.map Version.u)] = some (.bool (decide (a = b))) := by
  rw [f17_E h]
  by_cases hl : a.length = b.length
  · simp [hl, Qjk h a b ha hb a b [] [] 0 rfl rfl rfl rfl hl]
  · have h1 : a ≠ b := fun e => hl (by rw [e])
    have h2 : (a.length : Int) ≠ b.length := by omega
    simp [h1, h2]
theorem Qsv (h : G_f45 E) (l : List Version) (hl : l.length ≤ maxLen) (left : Int) (h0 : 0 ≤ left) (h1 : left ≤ 1048576) : E 101 [.sl 5 (l.map Version.u), .int .i64 left] = some (.int .i64 (szc l.length left)) := by
  rw [f45_E h]
  unfold maxLen at hl
  have hw : IntKind.i64.wrap (left - (l.length : Int)) = left - l.length := Qc (by omega)
  by_cases h2 : left - (l.length : Int) < 0 <;> simp [hw, szc, h2]
theorem Qtw (h : G_f64 E) (x : List Version) (hx : chainOk x) : E 108 [chainU x] = some (chainU x) := Qtx h x hx
theorem Qji (h : G_f17 E) (x y : List Version) (hx : chainOk x) (hy : chainOk y) : E 119 [chainU x, chainU y] = some (.bool (decide (x = y))) := Qrc h x y hx hy
theorem Qko (h : G_f45 E) (x : List Version) (hx : chainFit x) (left : Int) (h0 : 0 ≤ left) (h1 : left ≤ 1048576) : E 101 [chainU x, .int .i64 left] = some (.int .i64 (chainSz x left)) := Qsv h x hx left h0 h1
theorem Qlb (h : G_f65 E) (l : List (List Version)) (hl : l.length ≤ 1048576) (hok : ∀ x ∈ l, chainOk x) : ∀ (r p : List (List Version)) (i : Int) (c : List U), l = p ++ r → i = p.length → c.length = r.length → (∀ z ∈ c, z.size = 1) →
    f65_l0 E (.sl 1 (l.map chainU)) (.int .i64 i) (p.map chainU ++ c) = some (.sl 1 (l.map chainU))
  | [], p, i, c, e, hi, hc, _ => by
    obtain rfl : c = [] := List.length_eq_zero_iff.1 hc
    rw [Qla]
    simp [Qk e hi]
    simp [e]
  | x :: r, p, i, [], e, hi, hc, _ => by cases hc
  | x :: r, p, i, z :: c, e, hi, hc, hz => by
    obtain ⟨h0, hlt, hx, hw, hn, _⟩ := Qh e hi (by omega)
    have hox : chainOk x := hok x (by rw [e]; simp)
    have hzs : z.size = 1 := hz z (by simp)
    obtain ⟨hg, hs, hlen⟩ := Qw chainU p z c hi
    have ih := Qlb h l hl hok r (p ++ [x]) (i + 1) c (Qg e) hn (by simpa using hc) (fun y hy => hz y (by simp [hy]))
    simp only [List.map_append, List.map_cons, List.map_nil, List.append_assoc, List.cons_append, List.nil_append] at ih
    rw [Qla]
    simp only [hg, hs, hx, hw, Qp, Qm, Qn, List.length_map, Option.bind_some, Qj, hlt, decide_true, if_true, h0, hlen, and_self, Qo, Qtw h.c_f64 x hox, hzs, Qfs, Qim, Qo5, Qno]
    simpa using ih
theorem Qtz (h : G_f65 E) (l : List (List Version)) (hl : l.length ≤ 1048576) (hok : ∀ x ∈ l, chainOk x) : E 107 [.sl 1 (l.map chainU)] = some (.sl 1 (l.map chainU)) := by
  have h1 := Qlb h l hl hok l [] 0 (List.replicate l.length (.nsl 5)) rfl rfl (by simp) (by simp)
  rw [f65_E h]
  simp only [Qn, Option.bind_some, List.length_map]
  rw [if_pos (by refine ⟨by omega, by omega, by omega, rfl⟩)]
  simpa using h1
theorem Qjm (h : G_f18 E) (a b : List (List Version)) (ha : a.length ≤ 1048576) (hb : b.length ≤ 1048576) (hao : ∀ x ∈ a, chainOk x) (hbo : ∀ x ∈ b, chainOk x) : ∀ (r s p p2 : List (List Version)) (i : Int), a = p ++ r → b = p2 ++ s → i = p.length → i = p2.length → r.length = s.length →
    f18_l0 E (.sl 1 (a.map chainU)) (.sl 1 (b.map chainU)) (.int .i64 i) = some (.bool (decide (r = s)))
  | [], [], p, p2, i, e, e2, hi, hi2, _ => by
    rw [Qjl]
    simp [Qk e hi]
  | [], y :: s, _, _, _, _, _, _, _, hl => by cases hl
  | x :: r, [], _, _, _, _, _, _, _, hl => by cases hl
  | x :: r, y :: s, p, p2, i, e, e2, hi, hi2, hl => by
    obtain ⟨h0, hlt, hx, hw, hn, _⟩ := Qh e hi (by omega)
    obtain ⟨_, _, hy, _, hn2, _⟩ := Qh e2 hi2 (by omega)
    have hox : chainOk x := hao x (by rw [e]; simp)
    have hoy : chainOk y := hbo y (by rw [e2]; simp)
    have ih := Qjm h a b ha hb hao hbo r s (p ++ [x]) (p2 ++ [y]) (i + 1) (Qg e) (Qg e2) hn hn2 (by simpa using hl)
    rw [Qjl]
    by_cases hxy : x = y
    · subst hxy
      simp [hlt, hx, hy, hw, ih, Qji h.c_f17 _ _ hox hoy]
    · simp [hlt, hx, hy, hw, ih, Qji h.c_f17 _ _ hox hoy, hxy]
theorem Qre (h : G_f18 E) (a b : List (List Version)) (ha : a.length ≤ 1048576) (hb : b.length ≤ 1048576) (hao : ∀ x ∈ a, chainOk x) (hbo : ∀ x ∈ b, chainOk x) : E 118 [.sl 1 (a.map chainU), .sl 1 (b.map chainU)] = some (.bool (decide (a = b))) := by
  rw [f18_E h]
  by_cases hl : a.length = b.length
  · simp [hl, Qjm h a b ha hb hao hbo a b [] [] 0 rfl rfl rfl rfl hl]
  · have h1 : a ≠ b := fun e => hl (by rw [e])
    have h2 : (a.length : Int) ≠ b.length := by omega
    simp [h1, h2]
theorem Qkq (h : G_f46 E) (l : List (List Version)) (hl : l.length ≤ 1048576) (hf : ∀ x ∈ l, chainFit x) : ∀ (r p : List (List Version)) (i left : Int), l = p ++ r → i = p.length → 0 ≤ left → left ≤ 1048576 →
    f46_l0 E (.sl 1 (l.map chainU)) (.int .i64 left) (.int .i64 i) = some (.int .i64 (szl chainSz r left))
  | [], p, i, left, e, hi, _, _ => by
    rw [Qkp]
    simp [Qk e hi, szl]
  | x :: r, p, i, left, e, hi, h1, h2 => by
    obtain ⟨h0, hlt, hx, hw, hn, _⟩ := Qh e hi (by omega)
    have hfx : chainFit x := hf x (by rw [e]; simp)
    rw [Qkp]
    rcases Qil x left h1 h2 with h3 | ⟨_, h3, h4⟩
    · simp [hlt, hx, hw, szl, Qko h.c_f45 x hfx left h1 h2, h3]
    · have ih := Qkq h l hl hf r (p ++ [x]) (i + 1) (chainSz x left) (Qg e) hn h3 (by omega)
      have h5 : ¬ chainSz x left < 0 := by omega
      simp [hlt, hx, hw, szl, Qko h.c_f45 x hfx left h1 h2, h5, ih]
theorem Qsx (h : G_f46 E) (l : List (List Version)) (hl : l.length ≤ maxLen) (hf : ∀ x ∈ l, chainFit x) (left : Int) (h0 : 0 ≤ left) (h1 : left ≤ 1048576) : E 100 [.sl 1 (l.map chainU), .int .i64 left] = some (.int .i64 (szL chainSz l left)) := by
  rw [f46_E h]
  unfold maxLen at hl
  have hw : IntKind.i64.wrap (left - (l.length : Int)) = left - l.length := Qc (by omega)
  by_cases h2 : left - (l.length : Int) < 0
  · simp [hw, szL, h2]
  · simp [hw, szL, h2, Qkq h l (by omega) hf l [] 0 (left - l.length) rfl rfl (by omega) (by omega)]
theorem Qtj (h : G_f57 E) (s : Store) (ho : s.ok) : E 93 [s.u] = some s.u := by
  rw [f57_E h]
  have h1 := Qtz h.c_f65 s.chains ho.1 ho.2
  simp [h1]
  rfl
theorem Qq6 (h : G_f13 E) (s t : Store) (ho : s.ok) (ho2 : t.ok) : E 97 [s.u, t.u] = some (.bool (decide (s = t))) := by
  rw [f13_E h]
  have h1 := Qre h.c_f18 s.chains t.chains ho.1 ho2.1 ho.2 ho2.2
  by_cases h2 : s.chains = t.chains <;> simp [h1, h2, Store.eq_iff]
  rw [h2] at h1
  simp [h1]
theorem Qsq (h : G_f42 E) (s : Store) (hf : s.fit) (left : Int) (h0 : 0 ≤ left) (h1 : left ≤ 1048576) : E 99 [s.u, .int .i64 left] = some (.int .i64 (s.sz left)) := by
  rw [f42_E h]
  have a1 := Qsx h.c_f46 s.chains hf.1 hf.2 left h0 h1
  by_cases h2 : szL chainSz s.chains left < 0
  · have h3 := Qz9 Qp7 h2
    simp [a1, h3, Store.sz]
  · simp [a1, h2, Store.sz]
theorem flatsV (l : List Version) : U.flat.flats (l.map Version.u) = true := Qaj _ (fun _ => rfl) l
theorem flatsL (l : List Lock) : U.flat.flats (l.map Lock.u) = true := Qaj _ (fun _ => rfl) l
theorem flatsWt (l : List Wait) : U.flat.flats (l.map Wait.u) = true := Qaj _ (fun _ => rfl) l
theorem Qin (h : IsClone E 223 5 40) (l : List Version) (hl : chainOk l) : E 100223 [chainU l] = some (chainU l) :=
  Qdn h (l.map Version.u) (by unfold chainOk at hl; simp; omega) (flatsV l)
theorem Qks (h : G_f4 E) (l : List (List Version)) (hl : l.length ≤ 1048576) (ho : ∀ t ∈ l, chainOk t) : ∀ (r p : List (List Version)) (i : Int), l = p ++ r → i = p.length →
    f4_l0b E (.sl 1 (l.map chainU)) (.int .i64 (l.length : Int)) (.int .i64 i) (p.map chainU) = some (.agg [.sl 1 (l.map chainU)])
  | [], p, i, e, hi => by
    have hp : p = l := by rw [e]; simp
    rw [Qkr, hp]
    simp [Qk e hi]
  | t :: r, p, i, e, hi => by
    obtain ⟨h0, hlt, hx, hw, hn, _⟩ := Qh e hi (by omega)
    have ih := Qks h l hl ho r (p ++ [t]) (i + 1) (Qg e) hn
    have hc := Qin h.c_f74 t (ho t (by rw [e]; simp))
    have hb : (p.length + 1) * 24 ≤ 140737488355328 := by
      have : p.length + (r.length + 1) = l.length := by rw [e]; simp
      omega
    have av : ∀ (K : U → Option U), U.asVar false 1 (chainU t) K = K (chainU t) := fun _ => rfl
    have nt : ∀ (K : U → Option U), U.noTup (chainU t) K = K (chainU t) := fun _ => rfl
    have as' : ∀ (K : List U → Option U), U.asSlK 5 (chainU t) K = K (t.map Version.u) := fun _ => rfl
    rw [Qkr]
    simp [hlt, hx, hw, av, hc, nt, as', hb]
    simpa [chainU] using ih
theorem f4_is (h : G_f4 E) (s : Store) (ho : s.ok) : E 100221 [s.u] = some s.u := by
  obtain ⟨l⟩ := s
  obtain ⟨hl, hc⟩ := ho
  simp only at hl hc
  have av : ∀ (us : List U) (K : U → Option U), U.asVar false 1 (.sl 1 us) K = K (.sl 1 us) := fun _ _ => rfl
  rw [f4_E h]
  simp only [Store.u_noTup, Store.u_agg]
  simp [sizes, av]
  rw [Qs5]
  cases l with
  | nil => rfl
  | cons t r =>
    have ih := Qks h (t :: r) hl hc r [t] 1 rfl rfl
    have hk := Qin h.c_f74 t (hc t (by simp))
    have av : ∀ (K : U → Option U), U.asVar false 1 (chainU t) K = K (chainU t) := fun _ => rfl
    have nt : ∀ (K : U → Option U), U.noTup (chainU t) K = K (chainU t) := fun _ => rfl
    have as' : ∀ (K : List U → Option U), U.asSlK 5 (chainU t) K = K (t.map Version.u) := fun _ => rfl
    have el : ∀ (K : U → Option U), U.elemAt 1 (.sl 1 (((t :: r).map chainU))) 0 K = K (chainU t) := fun _ => rfl
    have w1 : IntKind.i64.wrap 1 = 1 := by decide
    have hlt' : (0 : Int) < (r.length : Int) + 1 := by omega
    simp only [List.map_cons] at el
    simp [hlt', el, av, hk, nt, as', w1]
    simpa [chainU, Store.u] using ih
theorem Qlz (h : G_f84 E) (l : List Version) (hl : chainOk l) : E 100217 [chainU l] = some (chainU l) := by
  rw [f84_E h]
  have h1 : l.length * 40 ≤ 140737488355328 := by unfold chainOk at hl; omega
  simp [chainU, U.elems, h1, flatsV]
theorem Ql1 (h : G_f85 E) (l : List (List Version)) (hl : l.length ≤ 1048576) (ho : ∀ t ∈ l, chainOk t) : ∀ (r p : List (List Version)) (i : Int), l = p ++ r → i = p.length →
    f85_l0b E (.int .i64 i) (Store.mk l).u (p.map chainU) = some (.agg [.sl 1 (l.map chainU)])
  | [], p, i, e, hi => by
    have hp : p = l := by rw [e]; simp
    have av : ∀ (us : List U) (K : U → Option U), U.asVar false 1 (.sl 1 us) K = K (.sl 1 us) := fun _ _ => rfl
    rw [Ql0, hp]
    simp [sizes, av, Qk e hi]
  | t :: r, p, i, e, hi => by
    obtain ⟨h0, hlt, hx, hw, hn, _⟩ := Qh e hi (by omega)
    have ih := Ql1 h l hl ho r (p ++ [t]) (i + 1) (Qg e) hn
    have hc := Qlz h.c_f84 t (ho t (by rw [e]; simp))
    have hb : (p.length + 1) * 24 ≤ 140737488355328 := by
      have : p.length + (r.length + 1) = l.length := by rw [e]; simp
      omega
    have av0 : ∀ (us : List U) (K : U → Option U), U.asVar false 1 (.sl 1 us) K = K (.sl 1 us) := fun _ _ => rfl
    have av : ∀ (K : U → Option U), U.asVar false 1 (chainU t) K = K (chainU t) := fun _ => rfl
    have nt : ∀ (K : U → Option U), U.noTup (chainU t) K = K (chainU t) := fun _ => rfl
    have as' : ∀ (K : List U → Option U), U.asSlK 5 (chainU t) K = K (t.map Version.u) := fun _ => rfl
    rw [Ql0]
    simp [sizes, av0, hlt, hx, hw, av, hc, nt, as', hb]
    simpa [chainU] using ih
theorem Qvg (h : G_f85 E) (s : Store) (ho : s.ok) : E 100211 [s.u] = some s.u := by
  obtain ⟨l⟩ := s
  obtain ⟨hl, hc⟩ := ho
  simp only at hl hc
  have av0 : ∀ (us : List U) (K : U → Option U), U.asVar false 1 (.sl 1 us) K = K (.sl 1 us) := fun _ _ => rfl
  rw [f85_E h]
  simp only [Store.u_noTup]
  rw [Qvh]
  cases l with
  | nil => simp [sizes, av0]; rfl
  | cons t r =>
    have ih := Ql1 h (t :: r) hl hc r [t] 1 rfl rfl
    have hk := Qlz h.c_f84 t (hc t (by simp))
    have av : ∀ (K : U → Option U), U.asVar false 1 (chainU t) K = K (chainU t) := fun _ => rfl
    have nt : ∀ (K : U → Option U), U.noTup (chainU t) K = K (chainU t) := fun _ => rfl
    have as' : ∀ (K : List U → Option U), U.asSlK 5 (chainU t) K = K (t.map Version.u) := fun _ => rfl
    have el : ∀ (K : U → Option U), U.elemAt 1 (.sl 1 (((t :: r).map chainU))) 0 K = K (chainU t) := fun _ => rfl
    have w1 : IntKind.i64.wrap 1 = 1 := by decide
    have hlt' : (0 : Int) < (r.length : Int) + 1 := by omega
    simp only [List.map_cons] at el
    simp [sizes, av0, hlt', el, av, hk, nt, as', w1]
    simpa [chainU, Store.u] using ih
theorem Qi8 (h : G_f0 E) (e : Engine) (l : List Transaction) (hl : l.length ≤ 1048576) (ho : ∀ t ∈ l, t.ok) : ∀ (r p : List Transaction) (i : Int), l = p ++ r → i = p.length →
    f0_l0b E (.sl 9 (l.map Transaction.u)) (.int .i64 (l.length : Int)) (.int .i64 i) (.bool false) (.int .i64 0) (.bool e.certify) (e.store.chains.map chainU) (p.map Transaction.u) (e.locks.map Lock.u) (e.waits.map Wait.u) (.int .i64 e.stamp) =
      some (.agg [.bool e.certify, e.store.u, .sl 9 (l.map Transaction.u), .sl 2 (e.locks.map Lock.u), .sl 2 (e.waits.map Wait.u), .int .i64 e.stamp])
  | [], p, i, he, hi => by
    have hp : p = l := by rw [he]; simp
    rw [Qi7, hp]
    simp [Qk he hi, dsizes, D.size.dsizes, D.size, U.size, U.asB]
    rfl
  | t :: r, p, i, he, hi => by
    obtain ⟨h0, hlt, hx, hw, hn, _⟩ := Qh he hi (by omega)
    have ih := Qi8 h e l hl ho r (p ++ [t]) (i + 1) (Qg he) hn
    have hc := Qmi h.c_f6 t (ho t (by rw [he]; simp))
    have hb : (p.length + 1) * 104 ≤ 140737488355328 := by
      have : p.length + (r.length + 1) = l.length := by rw [he]; simp
      omega
    rw [Qi7]
    simp [hlt, hx, hw, hc, hb, U.asSlK, dsizes, D.size.dsizes, D.size, U.size]
    simpa [Transaction.u] using ih
theorem f0_is (h : G_f0 E) (e : Engine) (ho : e.ok) : E 100347 [e.u] = some e.u := by
  obtain ⟨h1, h2, h3, h4, h5⟩ := ho
  have s1 := f4_is h.c_f4 e.store h1
  have c1 : E 100348 [.sl 2 (e.locks.map Lock.u)] = _ := Qdn h.c_f77 (e.locks.map Lock.u) (by simp; omega) (flatsL _)
  have c2 : E 100349 [.sl 2 (e.waits.map Wait.u)] = _ := Qdn h.c_f78 (e.waits.map Wait.u) (by simp; omega) (flatsWt _)
  have av : ∀ (k : Nat) (us : List U) (K : U → Option U), U.asVar false 1 (.sl k us) K = K (.sl k us) := fun _ _ _ => rfl
  have nt : ∀ (k : Nat) (us : List U) (K : U → Option U), U.noTup (.sl k us) K = K (.sl k us) := fun _ _ _ => rfl
  have as' : ∀ (k : Nat) (us : List U) (K : List U → Option U), U.asSlK k (.sl k us) K = K us := fun _ _ _ => if_pos rfl
  rw [f0_E h]
  simp [sizes, av, s1, c1, c2, nt, as', D.size, dsizes, D.size.dsizes, U.size]
  rw [Qq0]
  cases ht : e.transactions with
  | nil =>
    simp [dsizes, D.size.dsizes, D.size, U.size, U.asB, Engine.u, ht]
    rfl
  | cons t r =>
    rw [ht] at h2 h3
    have ih := Qi8 h e (t :: r) h2 h3 r [t] 1 rfl rfl
    have hc := Qmi h.c_f6 t (h3 t (by simp))
    have el : ∀ (K : U → Option U), U.elemAt 9 (.sl 9 (((t :: r).map Transaction.u))) 0 K = K t.u := fun _ => rfl
    have w1 : IntKind.i64.wrap 1 = 1 := by decide
    have hlt' : (0 : Int) < (r.length : Int) + 1 := by omega
    simp only [List.map_cons] at el
    simp [hlt', el, hc, w1, as', dsizes, D.size.dsizes, D.size, U.size]
    simpa [Transaction.u, Engine.u, ht] using ih
theorem Qen (h : G_f87 E) (x : Transaction) (ho : x.ok) : E 100212 [x.u] = some x.u := by
  rw [f87_E h]
  have h1 : x.reads.length * 16 ≤ 140737488355328 := by have := ho.1; omega
  have h2 : x.writes.length * 16 ≤ 140737488355328 := by have := ho.2; omega
  simp [U.elems, h1, h2, D.size, dsizes, D.size.dsizes, U.size, storable, flatsR, flatsW]
  rfl
theorem Qu9 (h : G_f82 E) (l : List Lock) (hl : l.length ≤ 1048576) : E 100473 [.sl 2 (l.map Lock.u)] = some (.sl 2 (l.map Lock.u)) := by
  rw [f82_E h]
  have h1 : l.length * 16 ≤ 140737488355328 := by omega
  simp [U.elems, h1, flatsL]
theorem Qly (h : G_f83 E) (e : Engine) (hl : e.transactions.length ≤ 1048576) (ho : ∀ t ∈ e.transactions, t.ok) : ∀ (r p : List Transaction) (i : Int), e.transactions = p ++ r → i = p.length →
    f83_l0b E (.int .i64 i) e.u (.bool false) (.int .i64 0) (.bool e.certify) (e.store.chains.map chainU) (p.map Transaction.u) (e.locks.map Lock.u) (e.waits.map Wait.u) (.int .i64 e.stamp) = some e.u
  | [], p, i, he, hi => by
    have hp : p = e.transactions := by rw [he]; simp
    have av : ∀ (k : Nat) (us : List U) (K : U → Option U), U.asVar false 1 (.sl k us) K = K (.sl k us) := fun _ _ _ => rfl
    rw [Qlx, hp]
    simp [sizes, av, Qk he hi, dsizes, D.size.dsizes, D.size, U.size, U.asB, flatsWt]
    rfl
  | t :: r, p, i, he, hi => by
    obtain ⟨h0, hlt, hx, hw, hn, _⟩ := Qh he hi (by omega)
    have ih := Qly h e hl ho r (p ++ [t]) (i + 1) (Qg he) hn
    have hc := Qen h.c_f87 t (ho t (by rw [he]; simp))
    have hb : (p.length + 1) * 104 ≤ 140737488355328 := by
      have : p.length + (r.length + 1) = e.transactions.length := by rw [he]; simp
      omega
    have av : ∀ (k : Nat) (us : List U) (K : U → Option U), U.asVar false 1 (.sl k us) K = K (.sl k us) := fun _ _ _ => rfl
    rw [Qlx]
    simp [sizes, av, hlt, hx, hw, hc, hb, U.asSlK, dsizes, D.size.dsizes, D.size, U.size]
    simpa [Transaction.u] using ih
theorem Qvc (h : G_f83 E) (e : Engine) (ho : e.ok) : E 100344 [e.u] = some e.u := by
  obtain ⟨h1, h2, h3, h4, h5⟩ := ho
  have s1 := Qvg h.c_f85 e.store h1
  have c1 := Qu9 h.c_f82 e.locks h4
  have c2 : e.waits.length * 16 ≤ 140737488355328 := by omega
  have av : ∀ (k : Nat) (us : List U) (K : U → Option U), U.asVar false 1 (.sl k us) K = K (.sl k us) := fun _ _ _ => rfl
  have nt : ∀ (k : Nat) (us : List U) (K : U → Option U), U.noTup (.sl k us) K = K (.sl k us) := fun _ _ _ => rfl
  have as' : ∀ (k : Nat) (us : List U) (K : List U → Option U), U.asSlK k (.sl k us) K = K us := fun _ _ _ => if_pos rfl
  rw [f83_E h]
  simp [sizes, av, s1, c1, c2, nt, as', U.elems, D.size, dsizes, D.size.dsizes, U.size]
  rw [Qvd]
  cases ht : e.transactions with
  | nil =>
    simp [sizes, av, ht, dsizes, D.size.dsizes, D.size, U.size, U.asB, Engine.u, flatsWt]
    rfl
  | cons t r =>
    have ih := Qly h e h2 h3 r [t] 1 (by rw [ht]; rfl) rfl
    rw [ht] at h2 h3
    have hc := Qen h.c_f87 t (h3 t (by simp))
    have el : ∀ (K : U → Option U), U.elemAt 9 (.sl 9 (((t :: r).map Transaction.u))) 0 K = K t.u := fun _ => rfl
    have w1 : IntKind.i64.wrap 1 = 1 := by decide
    have hlt' : (0 : Int) < (r.length : Int) + 1 := by omega
    simp only [List.map_cons] at el
    simp [sizes, av, ht, hlt', el, hc, w1, as', dsizes, D.size.dsizes, D.size, U.size]
    simpa [Transaction.u] using ih
def kept (l : List Transaction) : List Transaction := l.filter fun t => !decide (t.state = 3)
def forgetE (e : Engine) : Engine := { e with transactions := kept e.transactions }
theorem Qwc (l : List Transaction) : (l.map Transaction.u).all isTx9 = true := List.all_eq_true.2 fun x hx => by
  obtain ⟨t, _, rfl⟩ := List.mem_map.1 hx
  rfl
theorem Qpw (l : List Transaction) : (l.map Transaction.u).filter (fun u => !isAb9 u) = (kept l).map Transaction.u := by
  rw [List.filter_map]
  rfl
theorem Qvz {e : Engine} (ho : e.ok) : (forgetE e).ok := ⟨ho.1, Nat.le_trans (List.length_filter_le _ _) ho.2.1, fun t ht => ho.2.2.1 t (List.mem_filter.1 ht).1, ho.2.2.2⟩
theorem Qir (h : IsDel E 346 345 9 1048576 isTx9 isAb9) (l : List Transaction) (hl : l.length ≤ 1048576) : E 300346 (.agg [.tup [.sl 9 (l.map Transaction.u)]] :: [.fn 345 []]) = some (.sl 9 ((kept l).map Transaction.u)) := by
  have := h.ex (l.map Transaction.u) (by simpa using hl) (Qwc l)
  rw [Qpw] at this
  exact this
theorem f1_is (h : G_f1 E) (e : Engine) (ho : e.ok) : E 342 [e.u] = some (forgetE e).u := by
  have c := f0_is h.c_f0 e ho
  have d := Qir h.c_f79 e.transactions ho.2.1
  rw [f1_E h]
  show (E 100347 [e.u]).bind _ = _
  rw [c]
  show (E 300346 (.agg [.tup [.sl 9 (e.transactions.map Transaction.u)]] :: [.fn 345 []])).bind _ = _
  rw [d]
  rfl
theorem f3_is (h : G_f3 E) (e : Engine) (ho : e.ok) : E 100342 [e.u] = some (forgetE e).u := by
  have c := f0_is h.c_f0 e ho
  have d := Qir h.c_f79 e.transactions ho.2.1
  rw [f3_E h]
  show (E 100347 [e.u]).bind _ = _
  rw [c]
  show (E 300346 (.agg [.tup [.sl 9 (e.transactions.map Transaction.u)]] :: [.fn 345 []])).bind _ = _
  rw [d]
  rfl
theorem Qmp (p : List Transaction) (t : Transaction) : kept (p ++ [t]) = kept p ++ (if t.state = 3 then [] else [t]) := by
  unfold kept
  by_cases g : t.state = 3 <;> simp [g]
theorem Qlw (h : G_f81 E) (e : Engine) (hl : e.transactions.length ≤ 1048576) (ho : ∀ t ∈ e.transactions, t.ok) : ∀ (r p : List Transaction) (i : Int), e.transactions = p ++ r → i = p.length →
    f81_l0b E (.int .i64 i) e.u (.bool false) (.int .i64 0) (.bool e.certify) (e.store.chains.map chainU) ((kept p).map Transaction.u) (e.locks.map Lock.u) (e.waits.map Wait.u) (.int .i64 e.stamp) = some (forgetE e).u
  | [], p, i, he, hi => by
    have hp : p = e.transactions := by rw [he]; simp
    have av : ∀ (k : Nat) (us : List U) (K : U → Option U), U.asVar false 1 (.sl k us) K = K (.sl k us) := fun _ _ _ => rfl
    rw [Qlv, hp]
    simp [sizes, av, Qk he hi, dsizes, D.size.dsizes, D.size, U.size, U.asB]
    rfl
  | t :: r, p, i, he, hi => by
    obtain ⟨h0, hlt, hx, hw, hn, _⟩ := Qh he hi (by omega)
    have ih := Qlw h e hl ho r (p ++ [t]) (i + 1) (Qg he) hn
    have hc := Qen h.c_f87 t (ho t (by rw [he]; simp))
    have hb : ((kept p).length + 1) * 104 ≤ 140737488355328 := by
      have h1 : p.length + (r.length + 1) = e.transactions.length := by rw [he]; simp
      have h2 : (kept p).length ≤ p.length := List.length_filter_le _ _
      omega
    have av : ∀ (k : Nat) (us : List U) (K : U → Option U), U.asVar false 1 (.sl k us) K = K (.sl k us) := fun _ _ _ => rfl
    rw [Qmp] at ih
    rw [Qlv]
    by_cases g : t.state = 3
    · rw [if_pos g] at ih
      simp [sizes, av, hlt, hx, hw, g]
      simpa using ih
    · rw [if_neg g] at ih
      simp [sizes, av, hlt, hx, hw, g, hc, hb, U.asSlK, dsizes, D.size.dsizes, D.size, U.size]
      simpa [Transaction.u] using ih
theorem Qlu (h : G_f81 E) (e : Engine) (hl : e.transactions.length ≤ 1048576) (ho : ∀ t ∈ e.transactions, t.ok) : ∀ (r p : List Transaction) (i : Int), e.transactions = p ++ r → i = p.length → kept p = [] →
    f81_l0a E (.int .i64 i) e.u (.bool false) (.int .i64 0) (.bool e.certify) (e.store.chains.map chainU) (e.locks.map Lock.u) (e.waits.map Wait.u) (.int .i64 e.stamp) = some (forgetE e).u
  | [], p, i, he, hi, hk => by
    have hp : p = e.transactions := by rw [he]; simp
    have av : ∀ (k : Nat) (us : List U) (K : U → Option U), U.asVar false 1 (.sl k us) K = K (.sl k us) := fun _ _ _ => rfl
    have hf : (forgetE e).u = .agg [.bool e.certify, e.store.u, .sl 9 [], .sl 2 (e.locks.map Lock.u), .sl 2 (e.waits.map Wait.u), .int .i64 e.stamp] := by
      unfold forgetE
      rw [← hp, hk]
      rfl
    rw [Qlt, hf]
    simp [sizes, av, Qk he hi, dsizes, D.size.dsizes, D.size, U.size, U.asB]
    rfl
  | t :: r, p, i, he, hi, hk => by
    obtain ⟨h0, hlt, hx, hw, hn, _⟩ := Qh he hi (by omega)
    have hc := Qen h.c_f87 t (ho t (by rw [he]; simp))
    have av : ∀ (k : Nat) (us : List U) (K : U → Option U), U.asVar false 1 (.sl k us) K = K (.sl k us) := fun _ _ _ => rfl
    have kn := Qmp p t
    rw [Qlt]
    by_cases g : t.state = 3
    · rw [if_pos g, hk] at kn
      have ih := Qlu h e hl ho r (p ++ [t]) (i + 1) (Qg he) hn kn
      simp [sizes, av, hlt, hx, hw, g]
      simpa using ih
    · rw [if_neg g, hk] at kn
      have ih := Qlw h e hl ho r (p ++ [t]) (i + 1) (Qg he) hn
      rw [kn] at ih
      simp [sizes, av, hlt, hx, hw, g, hc, U.asSlK, dsizes, D.size.dsizes, D.size, U.size]
      simpa [Transaction.u] using ih
theorem Qu7 (h : G_f81 E) (e : Engine) (ho : e.ok) : E 100343 [e.u] = some (forgetE e).u := by
  have c := Qvc h.c_f83 e ho
  have k := Qlu h e ho.2.1 ho.2.2.1 e.transactions [] 0 rfl rfl rfl
  rw [f81_E h]
  show (E 100344 [e.u]).bind _ = _
  rw [c]
  exact k
def upVersion : Int → Nat → List Version
  | _, 0 => []
  | k, n + 1 => ⟨k, k + 1, k + 2, k + 3, k + 4⟩ :: upVersion (k + 5) n
theorem Qpi : ∀ (n : Nat) (k : Int), (upVersion k n).length = n
  | 0, _ => rfl
  | n + 1, k => by simp [upVersion, Qpi n]
theorem Ql7 (l : List Version) : U.flat.flats (l.map Version.u) = true := Qaj _ (fun _ => rfl) l
theorem Qkg (h : G_f36 E) : ∀ (r p : List Version) (k i : Int), i = p.length → p.length + r.length ≤ 1048576 → 0 ≤ k → k + 5 * r.length ≤ 1099511627776 →
    f36_l0 E (.int .i64 k) (.int .i64 i) (p.map Version.u ++ r.map Version.u) = some (.tup [.int .i64 (k + 5 * r.length), .sl 5 (p.map Version.u ++ (upVersion k r.length).map Version.u)])
  | [], p, k, i, hi, hb, hk, hk2 => by
    have h1 : ¬ i < ((p.map Version.u ++ ([] : List Version).map Version.u).length : Int) := by simp [hi]
    rw [Qkf]
    simp only [Qm, h1, decide_false, Option.bind_some, Qj, Bool.false_eq_true, if_false]
    rw [← List.map_append]
    simp [upVersion, Ql7]
  | x :: r, p, k, i, hi, hb, hk, hk2 => by
    simp only [List.length_cons] at hb hk2
    have hm := fun z => Qw Version.u p z (r.map Version.u) hi
    have hg := fun z => (hm z).1
    have hs := fun z => (hm z).2.1
    have hlen := fun z => (hm z).2.2
    have h0 : 0 ≤ i := by omega
    have hw0 : IntKind.i64.wrap (k + 1) = k + 1 := by rw [Qc (by omega)]
    have hw1 : IntKind.i64.wrap (k + 1 + 1) = k + 2 := by rw [Qc (by omega)]; omega
    have hw2 : IntKind.i64.wrap (k + 2 + 1) = k + 3 := by rw [Qc (by omega)]; omega
    have hw3 : IntKind.i64.wrap (k + 3 + 1) = k + 4 := by rw [Qc (by omega)]; omega
    have hw4 : IntKind.i64.wrap (k + 4 + 1) = k + 5 := by rw [Qc (by omega)]; omega
    have hwi : IntKind.i64.wrap (i + 1) = i + 1 := Qc (by omega)
    have ih := Qkg h r (p ++ [⟨k, k + 1, k + 2, k + 3, k + 4⟩]) (k + 5) (i + 1) (by simp [hi]) (by simp; omega) (by omega) (by omega)
    simp only [List.map_append, List.map_cons, List.map_nil, List.append_assoc, List.cons_append, List.nil_append] at ih
    rw [Qkf]
    simp only [List.map_cons, Qm, hlen, decide_true, Option.bind_some, Qj, if_true, Qp, h0, and_self, Qde, Qcm, Qcb, hg, hs, Version.u_agg, Qb5, List.take_zero, List.take_succ_cons, Qaq, Qcn, Nat.add_zero, Nat.zero_add, List.getElem?_cons_zero, List.getElem?_cons_succ, List.set_cons_zero, List.set_cons_succ, Qo, hw0, hw1, hw2, hw3, hw4, hwi, Nat.reduceAdd]
    have e : k + 5 + 5 * (r.length : Int) = k + 5 * ((r.length + 1 : Nat) : Int) := by omega
    rw [e] at ih
    simpa [upVersion, Version.u] using ih
theorem Qsd (h : G_f36 E) (l : List Version) (hl : l.length ≤ 1048576) (k : Int) (hk : 0 ≤ k) (hk2 : k ≤ 1073741824) :
    E 200122 (.agg [.tup [.sl 5 (l.map Version.u)]] :: [.int .i64 k]) = some (.tup [.int .i64 (k + 5 * l.length), .sl 5 ((upVersion k l.length).map Version.u)]) := by
  rw [f36_E h]
  exact Qkg h l [] k 0 rfl (by simpa using hl) hk (by omega)
def sumLen : List (List Version) → Int
  | [] => 0
  | c :: r => c.length + sumLen r
theorem Qhl : ∀ l, 0 ≤ sumLen l
  | [] => by simp [sumLen]
  | c :: r => by have := Qhl r; simp only [sumLen]; omega
theorem Qo6 : ∀ (r : List (List Version)) (left : Int), 0 ≤ left → 0 ≤ szl chainSz r left → sumLen r ≤ left
  | [], left, h0, h => by simpa [sumLen] using h0
  | x :: r, left, h0, h => by
    simp only [szl] at h
    by_cases h1 : chainSz x left < 0
    · rw [if_pos h1] at h; omega
    · rw [if_neg h1] at h
      have h2 := Qo6 r (chainSz x left) (by omega) h
      simp only [chainSz, szc] at h1 h2
      simp only [sumLen]
      split at h2 <;> omega
theorem Qz7 (s : Store) (left : Int) (h0 : 0 ≤ left) (h : 0 ≤ s.sz left) : sumLen s.chains ≤ left := by
  simp only [Store.sz, szL] at h
  split at h
  · omega
  · have := Qo6 s.chains _ (by omega) h
    omega
def upChains : Int → List Nat → List (List Version)
  | _, [] => []
  | k, n :: ns => upVersion k n :: upChains (k + 5 * n) ns
def sumN : List Nat → Int
  | [] => 0
  | n :: ns => n + sumN ns
theorem Qfe : ∀ l, 0 ≤ sumN l
  | [] => by simp [sumN]
  | c :: r => by have := Qfe r; simp only [sumN]; omega
theorem Qpe : ∀ (ns : List Nat) (k : Int), (upChains k ns).length = ns.length
  | [], _ => rfl
  | n :: ns, k => by simp only [upChains, List.length_cons, Qpe ns]
theorem Qke (h : G_f35 E) : ∀ (r : List (List Version)) (p : List U) (k i : Int), i = p.length → p.length + r.length ≤ 1048576 → (∀ x ∈ r, chainOk x) → 0 ≤ k → k + 5 * sumN (r.map List.length) ≤ 1073741824 →
    f35_l0 E (.int .i64 k) (.int .i64 i) (p ++ r.map chainU) = some (.tup [.int .i64 (k + 5 * sumN (r.map List.length)), .sl 1 (p ++ (upChains k (r.map List.length)).map chainU)])
  | [], p, k, i, hi, hb, hr, hk, hk2 => by
    have h1 : ¬ i < (p.length : Int) := by omega
    rw [Qkd]
    simp [h1, sumN, upChains, U.flat]
  | x :: r, p, k, i, hi, hb, hr, hk, hk2 => by
    simp only [List.length_cons, List.map_cons, sumN] at hb hk2
    have hs := Qfe (r.map List.length)
    have hx : x.length ≤ 1048576 := hr x (by simp)
    have hm := Qsd h.c_f36 x hx k hk (by omega)
    have h1 := Qke h r (p ++ [.sl 5 ((upVersion k x.length).map Version.u)]) (k + 5 * x.length) (i + 1) (by simp [hi]) (by simp; omega) (fun y hy => hr y (by simp [hy])) (by omega) (by omega)
    have hn : i.toNat = p.length := by omega
    have hlt : i < ((p ++ chainU x :: r.map chainU).length : Int) := by simp; omega
    have h0 : 0 ≤ i := by omega
    have hw : IntKind.i64.wrap (i + 1) = i + 1 := Qc (by omega)
    have hg : (p ++ chainU x :: r.map chainU)[p.length]? = some (.sl 5 (x.map Version.u)) := by simp [chainU]
    have hset : ∀ z, (p ++ chainU x :: r.map chainU).set p.length z = p ++ z :: r.map chainU := fun z => by simp
    have e : k + 5 * (x.length : Int) + 5 * sumN (r.map List.length) = k + 5 * ((x.length : Int) + sumN (r.map List.length)) := by omega
    rw [Qkd]
    simp only [List.append_assoc, List.cons_append, List.nil_append, e] at h1
    simp only [List.map_cons, Qm, hlt, decide_true, Option.bind_some, Qj, if_true, Qp, h0, and_self, hn, hg, U.asSlK, hm, U.asMut, U.asFlat, U.flat, U.size, Qo, hw, hset, sumN, upChains]
    exact h1
theorem Qsb (h : G_f35 E) (l : List (List Version)) (hl : l.length ≤ 1048576) (hc : ∀ x ∈ l, chainOk x) (k : Int) (hk : 0 ≤ k) (hk2 : k + 5 * sumN (l.map List.length) ≤ 1073741824) :
    E 200121 (.agg [.tup [.sl 1 (l.map chainU)]] :: [.int .i64 k]) = some (.tup [.int .i64 (k + 5 * sumN (l.map List.length)), .sl 1 ((upChains k (l.map List.length)).map chainU)]) := by
  rw [f35_E h]
  exact Qke h l [] k 0 rfl (by simpa using hl) hc hk hk2
theorem Qdz : ∀ l : List (List Version), sumN (l.map List.length) = sumLen l
  | [] => rfl
  | c :: r => by simp only [List.map_cons, sumN, sumLen, Qdz r]
theorem Qky (h : G_f54 E) (x : ReadMark) : E 29 [x.u] = some x.u := by
  rw [f54_E h]
  simp [ReadMark.u]
theorem Qk0 (h : G_f55 E) (l : List ReadMark) (hl : l.length ≤ 1048576) : ∀ (r p : List ReadMark) (i : Int) (c : List U), l = p ++ r → i = p.length → c.length = r.length → (∀ z ∈ c, z.size = 2) →
    f55_l0 E (.sl 2 (l.map ReadMark.u)) (.int .i64 i) (p.map ReadMark.u ++ c) = some (.sl 2 (l.map ReadMark.u))
  | [], p, i, c, e, hi, hc, _ => by
    obtain rfl : c = [] := List.length_eq_zero_iff.1 hc
    rw [Qkz]
    simp [Qk e hi]
    simp [e]
  | x :: r, p, i, [], e, hi, hc, _ => by cases hc
  | x :: r, p, i, z :: c, e, hi, hc, hz => by
    obtain ⟨h0, hlt, hx, hw, hn, _⟩ := Qh e hi (by omega)
    have hzs : z.size = 2 := hz z (by simp)
    obtain ⟨hg, hs, hlen⟩ := Qw ReadMark.u p z c hi
    have ih := Qk0 h l hl r (p ++ [x]) (i + 1) c (Qg e) hn (by simpa using hc) (fun y hy => hz y (by simp [hy]))
    simp only [List.map_append, List.map_cons, List.map_nil, List.append_assoc, List.cons_append, List.nil_append] at ih
    rw [Qkz]
    simp only [hg, hs, hx, hw, Qp, Qm, Qn, List.length_map, Option.bind_some, Qj, hlt, decide_true, if_true, h0, hlen, and_self, Qo, Qky h.c_f54 x, hzs, ReadMark.u_var, ReadMark.u_size, ReadMark.u_storable, ReadMark.u_partable]
    simpa using ih
theorem Qtf (h : G_f55 E) (l : List ReadMark) (hl : l.length ≤ 1048576) : E 28 [.sl 2 (l.map ReadMark.u)] = some (.sl 2 (l.map ReadMark.u)) := by
  have h1 := Qk0 h l hl l [] 0 (List.replicate l.length (.agg [.int .i64 0, .int .i64 0])) rfl rfl (by simp) (by simp)
  rw [f55_E h]
  simp only [Qn, Option.bind_some, List.length_map]
  rw [if_pos (by refine ⟨by omega, by omega, by omega, rfl⟩)]
  simpa using h1
theorem Qjb (h : G_f11 E) (x y : ReadMark) : E 35 [x.u, y.u] = some (.bool (decide (x = y))) := by
  rw [f11_E h]
  obtain ⟨a0, a1⟩ := x
  obtain ⟨b0, b1⟩ := y
  simp only [ReadMark.mk.injEq]
  by_cases h0 : a0 = b0
  case neg => simp [h0]
  subst h0
  by_cases h1 : a1 = b1
  case neg => simp [h1]
  subst h1
  simp []
theorem Qjd (h : G_f12 E) (a b : List ReadMark) (ha : a.length ≤ 1048576) (hb : b.length ≤ 1048576) : ∀ (r s p p2 : List ReadMark) (i : Int), a = p ++ r → b = p2 ++ s → i = p.length → i = p2.length → r.length = s.length →
    f12_l0 E (.sl 2 (a.map ReadMark.u)) (.sl 2 (b.map ReadMark.u)) (.int .i64 i) = some (.bool (decide (r = s)))
  | [], [], p, p2, i, e, e2, hi, hi2, _ => by
    rw [Qjc]
    simp [Qk e hi]
  | [], y :: s, _, _, _, _, _, _, _, hl => by cases hl
  | x :: r, [], _, _, _, _, _, _, _, hl => by cases hl
  | x :: r, y :: s, p, p2, i, e, e2, hi, hi2, hl => by
    obtain ⟨h0, hlt, hx, hw, hn, _⟩ := Qh e hi (by omega)
    obtain ⟨_, _, hy, _, hn2, _⟩ := Qh e2 hi2 (by omega)
    have ih := Qjd h a b ha hb r s (p ++ [x]) (p2 ++ [y]) (i + 1) (Qg e) (Qg e2) hn hn2 (by simpa using hl)
    rw [Qjc]
    by_cases hxy : x = y
    · subst hxy
      simp [hlt, hx, hy, hw, ih, Qjb h.c_f11]
    · simp [hlt, hx, hy, hw, ih, Qjb h.c_f11, hxy]
theorem Qa2 (h : G_f12 E) (a b : List ReadMark) (ha : a.length ≤ 1048576) (hb : b.length ≤ 1048576) : E 34 [.sl 2 (a.map ReadMark.u), .sl 2 (b.map ReadMark.u)] = some (.bool (decide (a = b))) := by
  rw [f12_E h]
  by_cases hl : a.length = b.length
  · simp [hl, Qjd h a b ha hb a b [] [] 0 rfl rfl rfl rfl hl]
  · have h1 : a ≠ b := fun e => hl (by rw [e])
    have h2 : (a.length : Int) ≠ b.length := by omega
    simp [h1, h2]
theorem Qso (h : G_f41 E) (l : List ReadMark) (hl : l.length ≤ maxLen) (left : Int) (h0 : 0 ≤ left) (h1 : left ≤ 1048576) : E 24 [.sl 2 (l.map ReadMark.u), .int .i64 left] = some (.int .i64 (szc l.length left)) := by
  rw [f41_E h]
  unfold maxLen at hl
  have hw : IntKind.i64.wrap (left - (l.length : Int)) = left - l.length := Qc (by omega)
  by_cases h2 : left - (l.length : Int) < 0 <;> simp [hw, szc, h2]
end Go.Proofs.Ytboenehajoaahaa.Am
