import Derived.Test.YtpbogagoflpdfaaAmX
import Derived.Test.YtpbogagoflpdfaaAmEd
import Derived.Test.YtpbogagoflpdfaaTrackWriteF0
import Derived.Test.YtpbogagoflpdfaaTrackWriteF1
namespace Go.Proofs.Ytpbogagoflpdfaa.Am
open Go
variable {α : Type}
def intU (n : Int) : U := .int .i64 n
@[simp] theorem intU_size (n : Int) : (intU n).size = 1 := rfl
@[simp] theorem asVar_intU (n : Int) (K : U → Option α) : U.asVar false 1 (intU n) K = K (.int .i64 n) := rfl
@[simp] theorem storable_intU (n : Int) : storable (.val (intU n)) = true := rfl
@[simp] theorem partable_intU (n : Int) : partable (.val (intU n)) = true := rfl
abbrev intsU (l : List Int) : U := .sl 1 (l.map intU)
theorem Edge.eq_iff (x y : Edge) : x = y ↔ x.frm = y.frm ∧ x.to = y.to ∧ x.kind = y.kind ∧ x.key = y.key := by cases x; cases y; simp only [Edge.mk.injEq]
@[simp] theorem Edge.u_size (e : Edge) : e.u.size = 4 := rfl
@[simp] theorem Edge.u_var (e : Edge) (K : U → Option α) : U.asVar true 4 e.u K = K e.u := rfl
@[simp] theorem Edge.u_storable (e : Edge) : storable (.val e.u) = true := rfl
@[simp] theorem Edge.u_partable (e : Edge) : partable (.val e.u) = true := rfl
@[simp] theorem Edge.u_noTup (e : Edge) (K : U → Option α) : U.noTup e.u K = K e.u := rfl
@[simp] theorem Edge.u_agg (e : Edge) (K : List U → Option α) : U.asAgg e.u K = K [.int .i64 e.frm, .int .i64 e.to, .int .i64 e.kind, .int .i64 e.key] := rfl
@[simp] theorem Edge.u_at0 (e : Edge) (K : U → Option α) : U.fieldAt 0 0 e.u K = K (.int .i64 e.frm) := rfl
@[simp] theorem Edge.u_at1 (e : Edge) (K : U → Option α) : U.fieldAt 1 1 e.u K = K (.int .i64 e.to) := rfl
@[simp] theorem Edge.u_at2 (e : Edge) (K : U → Option α) : U.fieldAt 2 2 e.u K = K (.int .i64 e.kind) := rfl
@[simp] theorem Edge.u_at3 (e : Edge) (K : U → Option α) : U.fieldAt 3 3 e.u K = K (.int .i64 e.key) := rfl
@[simp] theorem Edge.u_flat (e : Edge) : e.u.flat = true := rfl
@[simp] theorem Edge.u_asFlat (e : Edge) (K : U → Option α) : U.asFlat e.u K = K e.u := rfl
@[simp] theorem Edge.u_eqv (x y : Edge) : U.eqv 6 x.u y.u = some (decide (x = y)) := by
  obtain ⟨a0, a1, a2, a3⟩ := x
  obtain ⟨b0, b1, b2, b3⟩ := y
  simp only [Edge.mk.injEq]
  show (if 4 = 4 then eqInts _ _ else none) = _
  simp only [if_true, eqInts_cons, eqInts_nil, Option.map_some, Bool.decide_and, Bool.and_true]
  rfl
structure ReadMark where
  key : Int
  created : Int
  deriving DecidableEq
theorem ReadMark.eq_iff (x y : ReadMark) : x = y ↔ x.key = y.key ∧ x.created = y.created := by cases x; cases y; simp only [ReadMark.mk.injEq]
def ReadMark.u (e : ReadMark) : U := .agg [.int .i64 e.key, .int .i64 e.created]
@[simp] theorem ReadMark.u_size (e : ReadMark) : e.u.size = 2 := rfl
@[simp] theorem ReadMark.u_var (e : ReadMark) (K : U → Option α) : U.asVar true 2 e.u K = K e.u := rfl
@[simp] theorem ReadMark.u_storable (e : ReadMark) : storable (.val e.u) = true := rfl
@[simp] theorem ReadMark.u_partable (e : ReadMark) : partable (.val e.u) = true := rfl
@[simp] theorem ReadMark.u_noTup (e : ReadMark) (K : U → Option α) : U.noTup e.u K = K e.u := rfl
@[simp] theorem ReadMark.u_agg (e : ReadMark) (K : List U → Option α) : U.asAgg e.u K = K [.int .i64 e.key, .int .i64 e.created] := rfl
@[simp] theorem ReadMark.u_at0 (e : ReadMark) (K : U → Option α) : U.fieldAt 0 0 e.u K = K (.int .i64 e.key) := rfl
@[simp] theorem ReadMark.u_at1 (e : ReadMark) (K : U → Option α) : U.fieldAt 1 1 e.u K = K (.int .i64 e.created) := rfl
@[simp] theorem ReadMark.u_flat (e : ReadMark) : e.u.flat = true := rfl
@[simp] theorem ReadMark.u_asFlat (e : ReadMark) (K : U → Option α) : U.asFlat e.u K = K e.u := rfl
@[simp] theorem ReadMark.u_eqv (x y : ReadMark) : U.eqv 4 x.u y.u = some (decide (x = y)) := by
  obtain ⟨a0, a1⟩ := x
  obtain ⟨b0, b1⟩ := y
  simp only [ReadMark.mk.injEq]
  show (if 2 = 2 then eqInts _ _ else none) = _
  simp only [if_true, eqInts_cons, eqInts_nil, Option.map_some, Bool.decide_and, Bool.and_true]
  rfl
structure Write where
  key : Int
  value : Int
  deriving DecidableEq
theorem Write.eq_iff (x y : Write) : x = y ↔ x.key = y.key ∧ x.value = y.value := by cases x; cases y; simp only [Write.mk.injEq]
def Write.u (e : Write) : U := .agg [.int .i64 e.key, .int .i64 e.value]
@[simp] theorem Write.u_size (e : Write) : e.u.size = 2 := rfl
@[simp] theorem Write.u_var (e : Write) (K : U → Option α) : U.asVar true 2 e.u K = K e.u := rfl
@[simp] theorem Write.u_storable (e : Write) : storable (.val e.u) = true := rfl
@[simp] theorem Write.u_partable (e : Write) : partable (.val e.u) = true := rfl
@[simp] theorem Write.u_noTup (e : Write) (K : U → Option α) : U.noTup e.u K = K e.u := rfl
@[simp] theorem Write.u_agg (e : Write) (K : List U → Option α) : U.asAgg e.u K = K [.int .i64 e.key, .int .i64 e.value] := rfl
@[simp] theorem Write.u_at0 (e : Write) (K : U → Option α) : U.fieldAt 0 0 e.u K = K (.int .i64 e.key) := rfl
@[simp] theorem Write.u_at1 (e : Write) (K : U → Option α) : U.fieldAt 1 1 e.u K = K (.int .i64 e.value) := rfl
@[simp] theorem Write.u_flat (e : Write) : e.u.flat = true := rfl
@[simp] theorem Write.u_asFlat (e : Write) (K : U → Option α) : U.asFlat e.u K = K e.u := rfl
@[simp] theorem Write.u_eqv (x y : Write) : U.eqv 4 x.u y.u = some (decide (x = y)) := by
  obtain ⟨a0, a1⟩ := x
  obtain ⟨b0, b1⟩ := y
  simp only [Write.mk.injEq]
  show (if 2 = 2 then eqInts _ _ else none) = _
  simp only [if_true, eqInts_cons, eqInts_nil, Option.map_some, Bool.decide_and, Bool.and_true]
  rfl
structure Lock where
  key : Int
  owner : Int
  deriving DecidableEq
theorem Lock.eq_iff (x y : Lock) : x = y ↔ x.key = y.key ∧ x.owner = y.owner := by cases x; cases y; simp only [Lock.mk.injEq]
def Lock.u (e : Lock) : U := .agg [.int .i64 e.key, .int .i64 e.owner]
@[simp] theorem Lock.u_size (e : Lock) : e.u.size = 2 := rfl
@[simp] theorem Lock.u_var (e : Lock) (K : U → Option α) : U.asVar true 2 e.u K = K e.u := rfl
@[simp] theorem Lock.u_storable (e : Lock) : storable (.val e.u) = true := rfl
@[simp] theorem Lock.u_partable (e : Lock) : partable (.val e.u) = true := rfl
@[simp] theorem Lock.u_noTup (e : Lock) (K : U → Option α) : U.noTup e.u K = K e.u := rfl
@[simp] theorem Lock.u_agg (e : Lock) (K : List U → Option α) : U.asAgg e.u K = K [.int .i64 e.key, .int .i64 e.owner] := rfl
@[simp] theorem Lock.u_at0 (e : Lock) (K : U → Option α) : U.fieldAt 0 0 e.u K = K (.int .i64 e.key) := rfl
@[simp] theorem Lock.u_at1 (e : Lock) (K : U → Option α) : U.fieldAt 1 1 e.u K = K (.int .i64 e.owner) := rfl
@[simp] theorem Lock.u_flat (e : Lock) : e.u.flat = true := rfl
@[simp] theorem Lock.u_asFlat (e : Lock) (K : U → Option α) : U.asFlat e.u K = K e.u := rfl
@[simp] theorem Lock.u_eqv (x y : Lock) : U.eqv 4 x.u y.u = some (decide (x = y)) := by
  obtain ⟨a0, a1⟩ := x
  obtain ⟨b0, b1⟩ := y
  simp only [Lock.mk.injEq]
  show (if 2 = 2 then eqInts _ _ else none) = _
  simp only [if_true, eqInts_cons, eqInts_nil, Option.map_some, Bool.decide_and, Bool.and_true]
  rfl
structure Wait where
  id : Int
  for_ : Int
  deriving DecidableEq
theorem Wait.eq_iff (x y : Wait) : x = y ↔ x.id = y.id ∧ x.for_ = y.for_ := by cases x; cases y; simp only [Wait.mk.injEq]
def Wait.u (e : Wait) : U := .agg [.int .i64 e.id, .int .i64 e.for_]
@[simp] theorem Wait.u_size (e : Wait) : e.u.size = 2 := rfl
@[simp] theorem Wait.u_var (e : Wait) (K : U → Option α) : U.asVar true 2 e.u K = K e.u := rfl
@[simp] theorem Wait.u_storable (e : Wait) : storable (.val e.u) = true := rfl
@[simp] theorem Wait.u_partable (e : Wait) : partable (.val e.u) = true := rfl
@[simp] theorem Wait.u_noTup (e : Wait) (K : U → Option α) : U.noTup e.u K = K e.u := rfl
@[simp] theorem Wait.u_agg (e : Wait) (K : List U → Option α) : U.asAgg e.u K = K [.int .i64 e.id, .int .i64 e.for_] := rfl
@[simp] theorem Wait.u_at0 (e : Wait) (K : U → Option α) : U.fieldAt 0 0 e.u K = K (.int .i64 e.id) := rfl
@[simp] theorem Wait.u_at1 (e : Wait) (K : U → Option α) : U.fieldAt 1 1 e.u K = K (.int .i64 e.for_) := rfl
@[simp] theorem Wait.u_flat (e : Wait) : e.u.flat = true := rfl
@[simp] theorem Wait.u_asFlat (e : Wait) (K : U → Option α) : U.asFlat e.u K = K e.u := rfl
@[simp] theorem Wait.u_eqv (x y : Wait) : U.eqv 4 x.u y.u = some (decide (x = y)) := by
  obtain ⟨a0, a1⟩ := x
  obtain ⟨b0, b1⟩ := y
  simp only [Wait.mk.injEq]
  show (if 2 = 2 then eqInts _ _ else none) = _
  simp only [if_true, eqInts_cons, eqInts_nil, Option.map_some, Bool.decide_and, Bool.and_true]
  rfl
structure Version where
  writer : Int
  value : Int
  created : Int
  reader : Int
  successor : Int
  deriving DecidableEq
theorem Version.eq_iff (x y : Version) : x = y ↔ x.writer = y.writer ∧ x.value = y.value ∧ x.created = y.created ∧ x.reader = y.reader ∧ x.successor = y.successor := by cases x; cases y; simp only [Version.mk.injEq]
def Version.u (e : Version) : U := .agg [.int .i64 e.writer, .int .i64 e.value, .int .i64 e.created, .int .i64 e.reader, .int .i64 e.successor]
@[simp] theorem Version.u_size (e : Version) : e.u.size = 5 := rfl
@[simp] theorem Version.u_var (e : Version) (K : U → Option α) : U.asVar true 5 e.u K = K e.u := rfl
@[simp] theorem Version.u_storable (e : Version) : storable (.val e.u) = true := rfl
@[simp] theorem Version.u_partable (e : Version) : partable (.val e.u) = true := rfl
@[simp] theorem Version.u_noTup (e : Version) (K : U → Option α) : U.noTup e.u K = K e.u := rfl
@[simp] theorem Version.u_agg (e : Version) (K : List U → Option α) : U.asAgg e.u K = K [.int .i64 e.writer, .int .i64 e.value, .int .i64 e.created, .int .i64 e.reader, .int .i64 e.successor] := rfl
@[simp] theorem Version.u_at0 (e : Version) (K : U → Option α) : U.fieldAt 0 0 e.u K = K (.int .i64 e.writer) := rfl
@[simp] theorem Version.u_at1 (e : Version) (K : U → Option α) : U.fieldAt 1 1 e.u K = K (.int .i64 e.value) := rfl
@[simp] theorem Version.u_at2 (e : Version) (K : U → Option α) : U.fieldAt 2 2 e.u K = K (.int .i64 e.created) := rfl
@[simp] theorem Version.u_at3 (e : Version) (K : U → Option α) : U.fieldAt 3 3 e.u K = K (.int .i64 e.reader) := rfl
@[simp] theorem Version.u_at4 (e : Version) (K : U → Option α) : U.fieldAt 4 4 e.u K = K (.int .i64 e.successor) := rfl
@[simp] theorem Version.u_flat (e : Version) : e.u.flat = true := rfl
@[simp] theorem Version.u_asFlat (e : Version) (K : U → Option α) : U.asFlat e.u K = K e.u := rfl
@[simp] theorem Version.u_eqv (x y : Version) : U.eqv 7 x.u y.u = some (decide (x = y)) := by
  obtain ⟨a0, a1, a2, a3, a4⟩ := x
  obtain ⟨b0, b1, b2, b3, b4⟩ := y
  simp only [Version.mk.injEq]
  show (if 5 = 5 then eqInts _ _ else none) = _
  simp only [if_true, eqInts_cons, eqInts_nil, Option.map_some, Bool.decide_and, Bool.and_true]
  rfl
structure Entry where
  id : Int
  stamp : Int
  reads : List ReadMark
  writes : List Write
  deriving DecidableEq
theorem Entry.eq_iff (x y : Entry) : x = y ↔ x.id = y.id ∧ x.stamp = y.stamp ∧ x.reads = y.reads ∧ x.writes = y.writes := by cases x; cases y; simp only [Entry.mk.injEq]
def Entry.u (e : Entry) : U := .agg [.int .i64 e.id, .int .i64 e.stamp, .sl 2 (e.reads.map ReadMark.u), .sl 2 (e.writes.map Write.u)]
@[simp] theorem Entry.u_size (e : Entry) : e.u.size = 4 := rfl
@[simp] theorem Entry.u_var (e : Entry) (K : U → Option α) : U.asVar true 4 e.u K = K e.u := rfl
@[simp] theorem Entry.u_storable (e : Entry) : storable (.val e.u) = true := rfl
@[simp] theorem Entry.u_partable (e : Entry) : partable (.val e.u) = true := rfl
@[simp] theorem Entry.u_noTup (e : Entry) (K : U → Option α) : U.noTup e.u K = K e.u := rfl
@[simp] theorem Entry.u_agg (e : Entry) (K : List U → Option α) : U.asAgg e.u K = K [.int .i64 e.id, .int .i64 e.stamp, .sl 2 (e.reads.map ReadMark.u), .sl 2 (e.writes.map Write.u)] := rfl
@[simp] theorem Entry.u_at0 (e : Entry) (K : U → Option α) : U.fieldAt 0 0 e.u K = K (.int .i64 e.id) := rfl
@[simp] theorem Entry.u_at1 (e : Entry) (K : U → Option α) : U.fieldAt 1 1 e.u K = K (.int .i64 e.stamp) := rfl
@[simp] theorem Entry.u_at2 (e : Entry) (K : U → Option α) : U.fieldAt 2 2 e.u K = K (.sl 2 (e.reads.map ReadMark.u)) := rfl
@[simp] theorem Entry.u_at3 (e : Entry) (K : U → Option α) : U.fieldAt 3 3 e.u K = K (.sl 2 (e.writes.map Write.u)) := rfl
structure LogRecord where
  stamp : Int
  id : Int
  high : Int
  safe : Int
  reads : List ReadMark
  writes : List Write
  deriving DecidableEq
theorem LogRecord.eq_iff (x y : LogRecord) : x = y ↔ x.stamp = y.stamp ∧ x.id = y.id ∧ x.high = y.high ∧ x.safe = y.safe ∧ x.reads = y.reads ∧ x.writes = y.writes := by cases x; cases y; simp only [LogRecord.mk.injEq]
def LogRecord.u (e : LogRecord) : U := .agg [.int .i64 e.stamp, .int .i64 e.id, .int .i64 e.high, .int .i64 e.safe, .sl 2 (e.reads.map ReadMark.u), .sl 2 (e.writes.map Write.u)]
@[simp] theorem LogRecord.u_size (e : LogRecord) : e.u.size = 6 := rfl
@[simp] theorem LogRecord.u_var (e : LogRecord) (K : U → Option α) : U.asVar true 6 e.u K = K e.u := rfl
@[simp] theorem LogRecord.u_storable (e : LogRecord) : storable (.val e.u) = true := rfl
@[simp] theorem LogRecord.u_partable (e : LogRecord) : partable (.val e.u) = true := rfl
@[simp] theorem LogRecord.u_noTup (e : LogRecord) (K : U → Option α) : U.noTup e.u K = K e.u := rfl
@[simp] theorem LogRecord.u_agg (e : LogRecord) (K : List U → Option α) : U.asAgg e.u K = K [.int .i64 e.stamp, .int .i64 e.id, .int .i64 e.high, .int .i64 e.safe, .sl 2 (e.reads.map ReadMark.u), .sl 2 (e.writes.map Write.u)] := rfl
@[simp] theorem LogRecord.u_at0 (e : LogRecord) (K : U → Option α) : U.fieldAt 0 0 e.u K = K (.int .i64 e.stamp) := rfl
@[simp] theorem LogRecord.u_at1 (e : LogRecord) (K : U → Option α) : U.fieldAt 1 1 e.u K = K (.int .i64 e.id) := rfl
@[simp] theorem LogRecord.u_at2 (e : LogRecord) (K : U → Option α) : U.fieldAt 2 2 e.u K = K (.int .i64 e.high) := rfl
@[simp] theorem LogRecord.u_at3 (e : LogRecord) (K : U → Option α) : U.fieldAt 3 3 e.u K = K (.int .i64 e.safe) := rfl
@[simp] theorem LogRecord.u_at4 (e : LogRecord) (K : U → Option α) : U.fieldAt 4 4 e.u K = K (.sl 2 (e.reads.map ReadMark.u)) := rfl
@[simp] theorem LogRecord.u_at5 (e : LogRecord) (K : U → Option α) : U.fieldAt 5 5 e.u K = K (.sl 2 (e.writes.map Write.u)) := rfl
structure Transaction where
  id : Int
  scheme : Int
  state : Int
  begin_ : Int
  low : Int
  high : Int
  commit : Int
  reads : List ReadMark
  writes : List Write
  deriving DecidableEq
theorem Transaction.eq_iff (x y : Transaction) : x = y ↔ x.id = y.id ∧ x.scheme = y.scheme ∧ x.state = y.state ∧ x.begin_ = y.begin_ ∧ x.low = y.low ∧ x.high = y.high ∧ x.commit = y.commit ∧ x.reads = y.reads ∧ x.writes = y.writes := by cases x; cases y; simp only [Transaction.mk.injEq]
def Transaction.u (e : Transaction) : U := .agg [.int .i64 e.id, .int .i64 e.scheme, .int .i64 e.state, .int .i64 e.begin_, .int .i64 e.low, .int .i64 e.high, .int .i64 e.commit, .sl 2 (e.reads.map ReadMark.u), .sl 2 (e.writes.map Write.u)]
@[simp] theorem Transaction.u_size (e : Transaction) : e.u.size = 9 := rfl
@[simp] theorem Transaction.u_var (e : Transaction) (K : U → Option α) : U.asVar true 9 e.u K = K e.u := rfl
@[simp] theorem Transaction.u_storable (e : Transaction) : storable (.val e.u) = true := rfl
@[simp] theorem Transaction.u_partable (e : Transaction) : partable (.val e.u) = true := rfl
@[simp] theorem Transaction.u_noTup (e : Transaction) (K : U → Option α) : U.noTup e.u K = K e.u := rfl
@[simp] theorem Transaction.u_agg (e : Transaction) (K : List U → Option α) : U.asAgg e.u K = K [.int .i64 e.id, .int .i64 e.scheme, .int .i64 e.state, .int .i64 e.begin_, .int .i64 e.low, .int .i64 e.high, .int .i64 e.commit, .sl 2 (e.reads.map ReadMark.u), .sl 2 (e.writes.map Write.u)] := rfl
@[simp] theorem Transaction.u_at0 (e : Transaction) (K : U → Option α) : U.fieldAt 0 0 e.u K = K (.int .i64 e.id) := rfl
@[simp] theorem Transaction.u_at1 (e : Transaction) (K : U → Option α) : U.fieldAt 1 1 e.u K = K (.int .i64 e.scheme) := rfl
@[simp] theorem Transaction.u_at2 (e : Transaction) (K : U → Option α) : U.fieldAt 2 2 e.u K = K (.int .i64 e.state) := rfl
@[simp] theorem Transaction.u_at3 (e : Transaction) (K : U → Option α) : U.fieldAt 3 3 e.u K = K (.int .i64 e.begin_) := rfl
@[simp] theorem Transaction.u_at4 (e : Transaction) (K : U → Option α) : U.fieldAt 4 4 e.u K = K (.int .i64 e.low) := rfl
@[simp] theorem Transaction.u_at5 (e : Transaction) (K : U → Option α) : U.fieldAt 5 5 e.u K = K (.int .i64 e.high) := rfl
@[simp] theorem Transaction.u_at6 (e : Transaction) (K : U → Option α) : U.fieldAt 6 6 e.u K = K (.int .i64 e.commit) := rfl
@[simp] theorem Transaction.u_at7 (e : Transaction) (K : U → Option α) : U.fieldAt 7 7 e.u K = K (.sl 2 (e.reads.map ReadMark.u)) := rfl
@[simp] theorem Transaction.u_at8 (e : Transaction) (K : U → Option α) : U.fieldAt 8 8 e.u K = K (.sl 2 (e.writes.map Write.u)) := rfl
structure Op where
  kind : Int
  id : Int
  scheme : Int
  key : Int
  high : Int
  value : Int
  deriving DecidableEq
theorem Op.eq_iff (x y : Op) : x = y ↔ x.kind = y.kind ∧ x.id = y.id ∧ x.scheme = y.scheme ∧ x.key = y.key ∧ x.high = y.high ∧ x.value = y.value := by cases x; cases y; simp only [Op.mk.injEq]
def Op.u (e : Op) : U := .agg [.int .i64 e.kind, .int .i64 e.id, .int .i64 e.scheme, .int .i64 e.key, .int .i64 e.high, .int .i64 e.value]
@[simp] theorem Op.u_size (e : Op) : e.u.size = 6 := rfl
@[simp] theorem Op.u_var (e : Op) (K : U → Option α) : U.asVar true 6 e.u K = K e.u := rfl
@[simp] theorem Op.u_storable (e : Op) : storable (.val e.u) = true := rfl
@[simp] theorem Op.u_partable (e : Op) : partable (.val e.u) = true := rfl
@[simp] theorem Op.u_noTup (e : Op) (K : U → Option α) : U.noTup e.u K = K e.u := rfl
@[simp] theorem Op.u_agg (e : Op) (K : List U → Option α) : U.asAgg e.u K = K [.int .i64 e.kind, .int .i64 e.id, .int .i64 e.scheme, .int .i64 e.key, .int .i64 e.high, .int .i64 e.value] := rfl
@[simp] theorem Op.u_at0 (e : Op) (K : U → Option α) : U.fieldAt 0 0 e.u K = K (.int .i64 e.kind) := rfl
@[simp] theorem Op.u_at1 (e : Op) (K : U → Option α) : U.fieldAt 1 1 e.u K = K (.int .i64 e.id) := rfl
@[simp] theorem Op.u_at2 (e : Op) (K : U → Option α) : U.fieldAt 2 2 e.u K = K (.int .i64 e.scheme) := rfl
@[simp] theorem Op.u_at3 (e : Op) (K : U → Option α) : U.fieldAt 3 3 e.u K = K (.int .i64 e.key) := rfl
@[simp] theorem Op.u_at4 (e : Op) (K : U → Option α) : U.fieldAt 4 4 e.u K = K (.int .i64 e.high) := rfl
@[simp] theorem Op.u_at5 (e : Op) (K : U → Option α) : U.fieldAt 5 5 e.u K = K (.int .i64 e.value) := rfl
@[simp] theorem Op.u_flat (e : Op) : e.u.flat = true := rfl
@[simp] theorem Op.u_asFlat (e : Op) (K : U → Option α) : U.asFlat e.u K = K e.u := rfl
@[simp] theorem Op.u_eqv (x y : Op) : U.eqv 8 x.u y.u = some (decide (x = y)) := by
  obtain ⟨a0, a1, a2, a3, a4, a5⟩ := x
  obtain ⟨b0, b1, b2, b3, b4, b5⟩ := y
  simp only [Op.mk.injEq]
  show (if 6 = 6 then eqInts _ _ else none) = _
  simp only [if_true, eqInts_cons, eqInts_nil, Option.map_some, Bool.decide_and, Bool.and_true]
  rfl
structure StepR where
  code : Int
  values : List Int
  deriving DecidableEq
theorem StepR.eq_iff (x y : StepR) : x = y ↔ x.code = y.code ∧ x.values = y.values := by cases x; cases y; simp only [StepR.mk.injEq]
def StepR.u (e : StepR) : U := .agg [.int .i64 e.code, .sl 1 (e.values.map intU)]
@[simp] theorem StepR.u_size (e : StepR) : e.u.size = 2 := rfl
@[simp] theorem StepR.u_var (e : StepR) (K : U → Option α) : U.asVar true 2 e.u K = K e.u := rfl
@[simp] theorem StepR.u_storable (e : StepR) : storable (.val e.u) = true := rfl
@[simp] theorem StepR.u_partable (e : StepR) : partable (.val e.u) = true := rfl
@[simp] theorem StepR.u_noTup (e : StepR) (K : U → Option α) : U.noTup e.u K = K e.u := rfl
@[simp] theorem StepR.u_agg (e : StepR) (K : List U → Option α) : U.asAgg e.u K = K [.int .i64 e.code, .sl 1 (e.values.map intU)] := rfl
@[simp] theorem StepR.u_at0 (e : StepR) (K : U → Option α) : U.fieldAt 0 0 e.u K = K (.int .i64 e.code) := rfl
@[simp] theorem StepR.u_at1 (e : StepR) (K : U → Option α) : U.fieldAt 1 1 e.u K = K (.sl 1 (e.values.map intU)) := rfl
def chainU (l : List Version) : U := .sl 5 (l.map Version.u)
@[simp] theorem chainU_size (l : List Version) : (chainU l).size = 1 := rfl
@[simp] theorem asVar_chainU (l : List Version) (K : U → Option α) : U.asVar false 1 (chainU l) K = K (chainU l) := rfl
@[simp] theorem storable_chainU (l : List Version) : storable (.val (chainU l)) = true := rfl
@[simp] theorem partable_chainU (l : List Version) : partable (.val (chainU l)) = true := rfl
@[simp] theorem noTup_chainU (l : List Version) (K : U → Option α) : U.noTup (chainU l) K = K (chainU l) := rfl
@[simp] theorem lenOf_chainU (l : List Version) : U.lenOf false (chainU l) = some l.length := by simp [chainU]
@[simp] theorem elemAt_chainU (l : List Version) (i : Int) (K : U → Option α) : U.elemAt 5 (chainU l) i K = U.elemAt 5 (.sl 5 (l.map Version.u)) i K := rfl
structure Store where
  chains : List (List Version)
  deriving DecidableEq
theorem Store.eq_iff (x y : Store) : x = y ↔ x.chains = y.chains := by cases x; cases y; simp only [Store.mk.injEq]
def Store.u (e : Store) : U := .agg [.sl 1 (e.chains.map chainU)]
@[simp] theorem Store.u_size (e : Store) : e.u.size = 1 := rfl
@[simp] theorem Store.u_var (e : Store) (K : U → Option α) : U.asVar true 1 e.u K = K e.u := rfl
@[simp] theorem Store.u_storable (e : Store) : storable (.val e.u) = true := rfl
@[simp] theorem Store.u_partable (e : Store) : partable (.val e.u) = true := rfl
@[simp] theorem Store.u_noTup (e : Store) (K : U → Option α) : U.noTup e.u K = K e.u := rfl
@[simp] theorem Store.u_agg (e : Store) (K : List U → Option α) : U.asAgg e.u K = K [.sl 1 (e.chains.map chainU)] := rfl
@[simp] theorem Store.u_at0 (e : Store) (K : U → Option α) : U.fieldAt 0 0 e.u K = K (.sl 1 (e.chains.map chainU)) := rfl
structure Engine where
  certify : Bool
  store : Store
  transactions : List Transaction
  locks : List Lock
  waits : List Wait
  stamp : Int
  deriving DecidableEq
theorem Engine.eq_iff (x y : Engine) : x = y ↔ x.certify = y.certify ∧ x.store = y.store ∧ x.transactions = y.transactions ∧ x.locks = y.locks ∧ x.waits = y.waits ∧ x.stamp = y.stamp := by cases x; cases y; simp only [Engine.mk.injEq]
def Engine.u (e : Engine) : U := .agg [.bool e.certify, e.store.u, .sl 9 (e.transactions.map Transaction.u), .sl 2 (e.locks.map Lock.u), .sl 2 (e.waits.map Wait.u), .int .i64 e.stamp]
@[simp] theorem Engine.u_size (e : Engine) : e.u.size = 6 := rfl
@[simp] theorem Engine.u_var (e : Engine) (K : U → Option α) : U.asVar true 6 e.u K = K e.u := rfl
@[simp] theorem Engine.u_storable (e : Engine) : storable (.val e.u) = true := rfl
@[simp] theorem Engine.u_partable (e : Engine) : partable (.val e.u) = true := rfl
@[simp] theorem Engine.u_noTup (e : Engine) (K : U → Option α) : U.noTup e.u K = K e.u := rfl
@[simp] theorem Engine.u_agg (e : Engine) (K : List U → Option α) : U.asAgg e.u K = K [.bool e.certify, e.store.u, .sl 9 (e.transactions.map Transaction.u), .sl 2 (e.locks.map Lock.u), .sl 2 (e.waits.map Wait.u), .int .i64 e.stamp] := rfl
@[simp] theorem Engine.u_at0 (e : Engine) (K : U → Option α) : U.fieldAt 0 0 e.u K = K (.bool e.certify) := rfl
@[simp] theorem Engine.u_at1 (e : Engine) (K : U → Option α) : U.fieldAt 1 1 e.u K = K (e.store.u) := rfl
@[simp] theorem Engine.u_at2 (e : Engine) (K : U → Option α) : U.fieldAt 2 2 e.u K = K (.sl 9 (e.transactions.map Transaction.u)) := rfl
@[simp] theorem Engine.u_at3 (e : Engine) (K : U → Option α) : U.fieldAt 3 3 e.u K = K (.sl 2 (e.locks.map Lock.u)) := rfl
@[simp] theorem Engine.u_at4 (e : Engine) (K : U → Option α) : U.fieldAt 4 4 e.u K = K (.sl 2 (e.waits.map Wait.u)) := rfl
@[simp] theorem Engine.u_at5 (e : Engine) (K : U → Option α) : U.fieldAt 5 5 e.u K = K (.int .i64 e.stamp) := rfl
structure Node where
  engine : Engine
  log : ByteArray
  deriving DecidableEq
theorem Node.eq_iff (x y : Node) : x = y ↔ x.engine = y.engine ∧ x.log = y.log := by cases x; cases y; simp only [Node.mk.injEq]
def Node.u (e : Node) : U := .agg [e.engine.u, .str e.log]
@[simp] theorem Node.u_size (e : Node) : e.u.size = 7 := rfl
@[simp] theorem Node.u_var (e : Node) (K : U → Option α) : U.asVar true 7 e.u K = K e.u := rfl
@[simp] theorem Node.u_storable (e : Node) : storable (.val e.u) = true := rfl
@[simp] theorem Node.u_partable (e : Node) : partable (.val e.u) = true := rfl
@[simp] theorem Node.u_noTup (e : Node) (K : U → Option α) : U.noTup e.u K = K e.u := rfl
@[simp] theorem Node.u_agg (e : Node) (K : List U → Option α) : U.asAgg e.u K = K [e.engine.u, .str e.log] := rfl
@[simp] theorem Node.u_at0 (e : Node) (K : U → Option α) : U.fieldAt 0 0 e.u K = K (e.engine.u) := rfl
@[simp] theorem Node.u_at1 (e : Node) (K : U → Option α) : U.fieldAt 1 6 e.u K = K (.str e.log) := rfl
structure Report where
  order : List Int
  cycle : List Int
  kind : Int
  deriving DecidableEq
theorem Report.eq_iff (x y : Report) : x = y ↔ x.order = y.order ∧ x.cycle = y.cycle ∧ x.kind = y.kind := by cases x; cases y; simp only [Report.mk.injEq]
def Report.u (e : Report) : U := .agg [.sl 1 (e.order.map intU), .sl 1 (e.cycle.map intU), .int .i64 e.kind]
@[simp] theorem Report.u_size (e : Report) : e.u.size = 3 := rfl
@[simp] theorem Report.u_var (e : Report) (K : U → Option α) : U.asVar true 3 e.u K = K e.u := rfl
@[simp] theorem Report.u_storable (e : Report) : storable (.val e.u) = true := rfl
@[simp] theorem Report.u_partable (e : Report) : partable (.val e.u) = true := rfl
@[simp] theorem Report.u_noTup (e : Report) (K : U → Option α) : U.noTup e.u K = K e.u := rfl
@[simp] theorem Report.u_agg (e : Report) (K : List U → Option α) : U.asAgg e.u K = K [.sl 1 (e.order.map intU), .sl 1 (e.cycle.map intU), .int .i64 e.kind] := rfl
@[simp] theorem Report.u_at0 (e : Report) (K : U → Option α) : U.fieldAt 0 0 e.u K = K (.sl 1 (e.order.map intU)) := rfl
@[simp] theorem Report.u_at1 (e : Report) (K : U → Option α) : U.fieldAt 1 1 e.u K = K (.sl 1 (e.cycle.map intU)) := rfl
@[simp] theorem Report.u_at2 (e : Report) (K : U → Option α) : U.fieldAt 2 2 e.u K = K (.int .i64 e.kind) := rfl
variable {E : Env}
def inR (n lo hi : Int) : Bool := decide (lo ≤ n ∧ n ≤ hi)
theorem f73_is (h : G_f73 E) (n lo hi : Int) : E 6 [.int .i64 n, .int .i64 lo, .int .i64 hi] = some (.bool (inR n lo hi)) := by
  rw [f73_E h]
  by_cases h1 : lo ≤ n <;> simp [inR, h1]
theorem f19_is (h : G_f19 E) (n lo hi : Int) : E 10 [.int .i64 n, .int .i64 lo, .int .i64 hi] = some (.bool (inR n lo hi)) := by
  rw [f19_E h]
  by_cases h1 : lo ≤ n <;> simp [inR, h1]
theorem f20_is (h : G_f20 E) (n : Int) : E 9 [.int .i64 n] = some (.bool (inR n 1 9)) := by
  rw [f20_E h]; simp [f19_is h.c_f19]
theorem f21_is (h : G_f21 E) (n : Int) : E 11 [.int .i64 n] = some (.bool (inR n 0 5)) := by
  rw [f21_E h]; simp [f19_is h.c_f19]
def cmpI (a b : Int) : Int := if a < b then -1 else if b < a then 1 else 0
theorem cmp_isNaN_is (h : G_f2 E) (n : Int) : E 15 [.int .i64 n] = some (.bool false) := by
  rw [f2_E h]; simp
theorem cmp_Compare_is (h : G_f0 E) (a b : Int) : E 13 [.int .i64 a, .int .i64 b] = some (.int .i64 (cmpI a b)) := by
  rw [f0_E h]
  simp only [cmp_isNaN_is h.c_f2, cmpI]
  by_cases h1 : a < b <;> by_cases h2 : b < a <;> simp [h1, h2]
def cmpOr : List Int → Int
  | [] => 0
  | n :: l => if n = 0 then cmpOr l else n
theorem cmp_Or_l0_is (l : List Int) (hl : l.length ≤ 1000) : ∀ (r p : List Int) (i : Int), l = p ++ r → i = p.length → f1_l0 E (.int .i64 0) (intsU l) (.int .i64 l.length) (.int .i64 i) = some (.int .i64 (cmpOr r))
  | [], p, i, e, hi => by
    rw [f1_l0_eq]
    simp [mid_end e hi, cmpOr]
  | x :: r, p, i, e, hi => by
    obtain ⟨h0, hlt, hx, hw, hn, _⟩ := mid_at e hi (by omega)
    have ih := cmp_Or_l0_is l hl r (p ++ [x]) (i + 1) (mid_next e) hn
    rw [f1_l0_eq]
    simp [h0, hlt, hx, hw, cmpOr, ih]
    split <;> simp_all
theorem cmp_Or_is (h : G_f1 E) (l : List Int) (hl : l.length ≤ 1000) : E 14 [intsU l] = some (.int .i64 (cmpOr l)) := by
  rw [f1_E h]
  simp [cmp_Or_l0_is (E := E) l hl l [] 0 rfl rfl]
def LogRecord.tx (r : LogRecord) : Transaction := ⟨r.id, 1, 2, 0, 0, r.high, r.stamp, r.reads, r.writes⟩
def szc (n : Nat) (left : Int) : Int := if left - n < 0 then -1 else left - n
def szl {α : Type} (f : α → Int → Int) : List α → Int → Int
  | [], left => left
  | x :: r, left => if f x left < 0 then -1 else szl f r (f x left)
def szL {α : Type} (f : α → Int → Int) (l : List α) (left : Int) : Int := if left - (l.length : Int) < 0 then -1 else szl f l (left - l.length)
def Szs {α : Type} (f : α → Int → Int) (ok : α → Prop) : Prop := ∀ x left, 0 ≤ left → left ≤ 1048576 → f x left < 0 ∨ (ok x ∧ 0 ≤ f x left ∧ f x left ≤ left)
theorem szc_szs : Szs szc (fun n => n ≤ 1048576) := fun n left h0 h1 => by
  unfold szc
  split
  · left; omega
  · right; refine ⟨by omega, by omega, by omega⟩
theorem szc_neg {n : Nat} {left : Int} (h : szc n left < 0) : szc n left = -1 := by
  unfold szc at h ⊢
  split at h
  · rename_i h1; rw [if_pos h1]
  · rename_i h1; omega
theorem szl_szs {α : Type} {f : α → Int → Int} {ok : α → Prop} (h : Szs f ok) : Szs (szl f) (fun l => ∀ x ∈ l, ok x) := fun l => by
  induction l with
  | nil => exact fun left h0 _ => .inr ⟨by simp, h0, Int.le_refl _⟩
  | cons x r ih =>
    intro left h0 h1
    rcases h x left h0 h1 with h2 | ⟨h2, h3, h4⟩
    · left; simp [szl, h2]
    · have h5 : ¬ f x left < 0 := by omega
      simp only [szl, h5, if_false]
      rcases ih _ h3 (by omega) with h6 | ⟨h6, h7, h8⟩
      · exact .inl h6
      · exact .inr ⟨by simpa using ⟨h2, h6⟩, h7, by omega⟩
theorem szL_szs {α : Type} {f : α → Int → Int} {ok : α → Prop} (h : Szs f ok) : Szs (szL f) (fun l => l.length ≤ 1048576 ∧ ∀ x ∈ l, ok x) := fun l left h0 h1 => by
  unfold szL
  split
  · left; omega
  · rcases szl_szs h l (left - l.length) (by omega) (by omega) with h6 | ⟨h6, h7, h8⟩
    · exact .inl h6
    · exact .inr ⟨⟨by omega, h6⟩, h7, by omega⟩
theorem mid_set {α : Type} (f : α → U) (p : List α) (z : U) (c : List U) {i : Int} (hi : i = p.length) :
    (p.map f ++ z :: c)[i.toNat]? = some z ∧ (∀ y, (p.map f ++ z :: c).set i.toNat y = p.map f ++ y :: c) ∧ i < ((p.map f ++ z :: c).length : Int) := by
  subst hi
  refine ⟨by simp, fun y => by simp, by simp; omega⟩
def Entry.fit (e : Entry) : Prop := e.reads.length ≤ maxLen ∧ e.writes.length ≤ maxLen
def Entry.ok (e : Entry) : Prop := e.reads.length ≤ 1048576 ∧ e.writes.length ≤ 1048576
def LogRecord.fit (e : LogRecord) : Prop := e.reads.length ≤ maxLen ∧ e.writes.length ≤ maxLen
def LogRecord.ok (e : LogRecord) : Prop := e.reads.length ≤ 1048576 ∧ e.writes.length ≤ 1048576
def Transaction.fit (e : Transaction) : Prop := e.reads.length ≤ maxLen ∧ e.writes.length ≤ maxLen
def Transaction.ok (e : Transaction) : Prop := e.reads.length ≤ 1048576 ∧ e.writes.length ≤ 1048576
def chainOk (l : List Version) : Prop := l.length ≤ 1048576
def chainFit (l : List Version) : Prop := l.length ≤ maxLen
def chainSz (l : List Version) (left : Int) : Int := szc l.length left
theorem chainSz_szs : Szs chainSz chainOk := fun l left h0 h1 => szc_szs l.length left h0 h1
theorem chainSz_neg {l : List Version} {left : Int} (h : chainSz l left < 0) : chainSz l left = -1 := szc_neg h
theorem szl_neg {α : Type} {f : α → Int → Int} : ∀ {l : List α} {left : Int}, 0 ≤ left → szl f l left < 0 → szl f l left = -1
  | [], left, h0, h => by simp only [szl] at h; omega
  | x :: r, left, h0, h => by
    simp only [szl] at h ⊢
    by_cases h1 : f x left < 0
    · simp [h1]
    · simp only [h1, if_false] at h ⊢
      exact szl_neg (by omega) h
theorem szL_neg {α : Type} {f : α → Int → Int} (_ : ∀ {x : α} {left : Int}, f x left < 0 → f x left = -1) {l : List α} {left : Int} (h : szL f l left < 0) : szL f l left = -1 := by
  unfold szL at h ⊢
  by_cases h1 : left - (l.length : Int) < 0
  · simp [h1]
  · simp only [h1, if_false] at h ⊢
    exact szl_neg (by omega) h
def Store.fit (s : Store) : Prop := s.chains.length ≤ maxLen ∧ ∀ c ∈ s.chains, chainFit c
def Store.ok (s : Store) : Prop := s.chains.length ≤ 1048576 ∧ ∀ c ∈ s.chains, chainOk c
def Store.sz (s : Store) (left : Int) : Int := szL chainSz s.chains left
theorem Store.sz_szs : Szs Store.sz Store.ok := fun s left h0 h1 => szL_szs chainSz_szs s.chains left h0 h1
def Transaction.sz (e : Transaction) (left : Int) : Int := let v := szc e.reads.length left; if v < 0 then -1 else szc e.writes.length v
theorem Transaction.sz_szs : Szs Transaction.sz Transaction.ok := fun e left h0 h1 => by
  unfold Transaction.sz Transaction.ok
  rcases szc_szs e.reads.length left h0 h1 with h | ⟨h2, h3, h4⟩
  · left; simp [h]
  · have h5 : ¬ szc e.reads.length left < 0 := by omega
    rcases szc_szs e.writes.length _ h3 (by omega) with h | ⟨h6, h7, h8⟩
    · left; simp [h5, h]
    · right; simp only [h5, if_false]; exact ⟨⟨h2, h6⟩, h7, by omega⟩
def Engine.fit (e : Engine) : Prop := e.store.fit ∧ e.transactions.length ≤ maxLen ∧ (∀ t ∈ e.transactions, t.fit) ∧ e.locks.length ≤ maxLen ∧ e.waits.length ≤ maxLen
def Engine.ok (e : Engine) : Prop := e.store.ok ∧ e.transactions.length ≤ 1048576 ∧ (∀ t ∈ e.transactions, t.ok) ∧ e.locks.length ≤ 1048576 ∧ e.waits.length ≤ 1048576
def Engine.sz (e : Engine) (left : Int) : Int :=
  if e.store.sz left < 0 then -1 else
  if szL Transaction.sz e.transactions (e.store.sz left) < 0 then -1 else
  if szc e.locks.length (szL Transaction.sz e.transactions (e.store.sz left)) < 0 then -1 else
  szc e.waits.length (szc e.locks.length (szL Transaction.sz e.transactions (e.store.sz left)))
theorem Engine.sz_szs : Szs Engine.sz Engine.ok := fun e left h0 h1 => by
  unfold Engine.sz Engine.ok
  rcases Store.sz_szs e.store left h0 h1 with n1 | ⟨o1, n1, n2⟩
  · left; simp [n1]
  have n3 : ¬ e.store.sz left < 0 := by omega
  rcases szL_szs Transaction.sz_szs e.transactions _ n1 (by omega) with m1 | ⟨⟨o2, o3⟩, m1, m2⟩
  · left; simp [n3, m1]
  have m3 : ¬ szL Transaction.sz e.transactions (e.store.sz left) < 0 := by omega
  rcases szc_szs e.locks.length _ m1 (by omega) with k1 | ⟨o4, k1, k2⟩
  · left; simp [n3, m3, k1]
  have k3 : ¬ szc e.locks.length (szL Transaction.sz e.transactions (e.store.sz left)) < 0 := by omega
  rcases szc_szs e.waits.length _ k1 (by omega) with j1 | ⟨o5, j1, j2⟩
  · left; simp [n3, m3, k3, j1]
  · right
    simp only [n3, m3, k3, if_false]
    exact ⟨⟨o1, o2, o3, o4, o5⟩, j1, by omega⟩
set_option linter.unusedVariables false
def markLt (a b : ReadMark) : Bool := decide (a.key < b.key) || (decide (a.key = b.key) && decide (a.created < b.created))
def markCmp (a b : ReadMark) : Int := cmpOr [cmpI a.key b.key, cmpI a.created b.created]
theorem markCmp_neg (a b : ReadMark) : decide (0 ≤ markCmp a b) = !markLt a b := by
  unfold markCmp markLt cmpI
  simp only [cmpOr]
  by_cases h1 : a.key < b.key
  · simp [h1]
  · by_cases h2 : b.key < a.key
    · have h3 : ¬ a.key = b.key := by omega
      simp [h1, h2, h3]
    · have h3 : a.key = b.key := by omega
      by_cases h4 : a.created < b.created
      · simp [h3, h4]
      · by_cases h5 : b.created < a.created <;> simp [h3, h4, h5]
def reads1 (p : Option ReadMark) (m : ReadMark) : Bool := inR m.key 0 5 && inR m.created 0 999 && (match p with | none => true | some q => markLt q m)
def readsFrom : Option ReadMark → List ReadMark → Bool
  | _, [] => true
  | p, m :: r => reads1 p m && readsFrom (some m) r
def areReads (l : List ReadMark) : Bool := readsFrom none l && decide (l.length ≤ 60)
def writes1 (p : Option Write) (w : Write) : Bool := inR w.key 0 5 && inR w.value (-1) 99 && (match p with | none => true | some q => decide (q.key < w.key))
def writesFrom : Option Write → List Write → Bool
  | _, [] => true
  | p, w :: r => writes1 p w && writesFrom (some w) r
def areWrites (l : List Write) : Bool := writesFrom none l
def Transaction.valid (t : Transaction) : Bool :=
  inR t.id 1 9 && (inR t.scheme 1 4 && (inR t.begin_ 0 999 && (inR t.state 1 3 && (inR t.low 0 999 && (inR t.high 1 1000 && ((decide (t.state = 2) == decide (0 < t.commit)) && (inR t.commit 0 999 && (areReads t.reads && areWrites t.writes))))))))
def LogRecord.valid (r : LogRecord) : Bool := r.tx.valid && (decide (r.high ≤ r.stamp) && inR r.safe 0 r.stamp)
theorem f18_is (h : G_f18 E) (a b : ReadMark) : E 75 [a.u, b.u] = some (.int .i64 (markCmp a b)) := by
  rw [f18_E h]
  have := cmp_Or_is h.c_f1 [cmpI a.key b.key, cmpI a.created b.created] (by simp)
  simp only [intsU, List.map_cons, List.map_nil, intU] at this
  simp [cmp_Compare_is h.c_f0, this, markCmp]
theorem f74_is (h : G_f74 E) (a b : ReadMark) : E 71 [a.u, b.u] = some (.bool (markLt a b)) := by
  rw [f74_E h]
  by_cases h1 : a.key < b.key
  · simp [markLt, h1]
  · by_cases h2 : a.key = b.key <;> simp [markLt, h1, h2]
theorem f3_is (h : G_f3 E) (n : Int) : E 72 [.int .i64 n] = some (.bool (inR n 1 999)) := by
  rw [f3_E h]; simp [f19_is h.c_f19]
theorem f23_is (h : G_f23 E) (n : Int) : E 76 [.int .i64 n] = some (.bool (inR n (-1) 99)) := by
  rw [f23_E h]; simp [f19_is h.c_f19]
theorem f16_l0_is (h : G_f16 E) (l : List ReadMark) (hl : l.length ≤ 1048576) : ∀ (r p : List ReadMark) (i : Int), l = p ++ r → i = p.length →
    f16_l0 E (.sl 2 (l.map ReadMark.u)) (.sl 2 (l.map ReadMark.u)) (.int .i64 l.length) (.int .i64 i) = some (.bool (readsFrom p.getLast? r && decide (l.length ≤ 60)))
  | [], p, i, e, hi => by
    rw [f16_l0_eq]
    have h1 : decide ((l.length : Int) ≤ 60) = decide (l.length ≤ 60) := by congr 1; simp only [eq_iff_iff]; omega
    simp [mid_end e hi, readsFrom, h1]
  | x :: r, p, i, e, hi => by
    obtain ⟨h0, hlt, hx, hw, hn, _⟩ := mid_at e hi (by omega)
    have ih := f16_l0_is h l hl r (p ++ [x]) (i + 1) (mid_next e) hn
    rw [List.getLast?_concat] at ih
    rw [f16_l0_eq]
    by_cases hp : p = []
    · have hi0 : ¬ 0 < i := by subst hp; simp at hi; omega
      simp [h0, hlt, hx, hw, ih, f21_is h.c_f21, f19_is h.c_f19, hi0, hp, ite_f, readsFrom, reads1, Bool.and_assoc]
    · obtain ⟨q, j, hq, hpos, hw1, h1, hq1, _⟩ := mid_last e hi (by omega) hp
      simp [h0, hlt, hx, hw, ih, f21_is h.c_f21, f19_is h.c_f19, hpos, hq, hw1, hq1, f18_is h.c_f18, ite_f, ite_n, markCmp_neg, readsFrom, reads1, Bool.and_assoc]
theorem f16_is (h : G_f16 E) (l : List ReadMark) (hl : l.length ≤ 1048576) : E 73 [.sl 2 (l.map ReadMark.u)] = some (.bool (areReads l)) := by
  rw [f16_E h]
  simp [f16_l0_is h l hl l [] 0 rfl rfl, areReads]
theorem f17_l0_is (h : G_f17 E) (l : List Write) (hl : l.length ≤ 1048576) : ∀ (r p : List Write) (i : Int), l = p ++ r → i = p.length →
    f17_l0 E (.sl 2 (l.map Write.u)) (.sl 2 (l.map Write.u)) (.int .i64 l.length) (.int .i64 i) = some (.bool (writesFrom p.getLast? r))
  | [], p, i, e, hi => by
    rw [f17_l0_eq]
    simp [mid_end e hi, writesFrom]
  | x :: r, p, i, e, hi => by
    obtain ⟨h0, hlt, hx, hw, hn, _⟩ := mid_at e hi (by omega)
    have ih := f17_l0_is h l hl r (p ++ [x]) (i + 1) (mid_next e) hn
    rw [List.getLast?_concat] at ih
    rw [f17_l0_eq]
    by_cases hp : p = []
    · have hi0 : ¬ 0 < i := by subst hp; simp at hi; omega
      simp [h0, hlt, hx, hw, ih, f21_is h.c_f21, f23_is h.c_f23, hi0, hp, ite_f, writesFrom, writes1, Bool.and_assoc]
    · obtain ⟨q, j, hq, hpos, hw1, h1, hq1, _⟩ := mid_last e hi (by omega) hp
      have hc : (!decide (x.key ≤ q.key)) = decide (q.key < x.key) := by rw [← decide_not]; congr 1; simp only [eq_iff_iff]; omega
      simp [h0, hlt, hx, hw, ih, f21_is h.c_f21, f23_is h.c_f23, hpos, hq, hw1, hq1, ite_f, ite_n, writesFrom, writes1, Bool.and_assoc, hc]
theorem f17_is (h : G_f17 E) (l : List Write) (hl : l.length ≤ 1048576) : E 74 [.sl 2 (l.map Write.u)] = some (.bool (areWrites l)) := by
  rw [f17_E h]
  simp [f17_l0_is h l hl l [] 0 rfl rfl, areWrites]
def Transaction.tail (t : Transaction) : Bool :=
  inR t.id 1 9 && (inR t.scheme 1 4 && (inR t.begin_ 0 999 && (inR t.state 1 3 && (inR t.low 0 999 && (inR t.high 1 1000 && ((decide (t.state = 2) == decide (0 < t.commit)) && (inR t.commit 0 999 && decide (t.reads.length ≤ 60))))))))
theorem spec_IsVT_l0_is (h : G_f69 E) (t : Transaction) (ho : t.ok) : ∀ (r p : List Write) (i : Int), t.writes = p ++ r → i = p.length →
    f69_l0 E (.int .i64 i) t.u = some (.bool (writesFrom p.getLast? r && t.tail))
  | [], p, i, e, hi => by
    rw [f69_l0_eq]
    have h1 : decide ((t.reads.length : Int) ≤ 60) = decide (t.reads.length ≤ 60) := by congr 1; simp only [eq_iff_iff]; omega
    have h2 : decide (t.state = 2 ↔ 0 < t.commit) = (decide (t.state = 2) == decide (0 < t.commit)) := by
      by_cases a : t.state = 2 <;> by_cases b : 0 < t.commit <;> simp [a, b]
    simp [mid_end e hi, f73_is h.c_f73, ite_f, ite_t, ite_p, writesFrom, Transaction.tail, h1, h2]
  | x :: r, p, i, e, hi => by
    obtain ⟨h0, hlt, hx, hw, hn, _⟩ := mid_at e hi (by have := ho.2; omega)
    have ih := spec_IsVT_l0_is h t ho r (p ++ [x]) (i + 1) (mid_next e) hn
    rw [List.getLast?_concat] at ih
    rw [f69_l0_eq]
    by_cases hp : p = []
    · have hi0 : ¬ 0 < i := by subst hp; simp at hi; omega
      simp [h0, hlt, hx, hw, ih, f73_is h.c_f73, hi0, hp, ite_f, writesFrom, writes1, Bool.and_assoc]
    · obtain ⟨q, j, hq, hpos, hw1, h1, hq1, _⟩ := mid_last e hi (by have := ho.2; omega) hp
      have hc : (!decide (x.key ≤ q.key)) = decide (q.key < x.key) := by rw [← decide_not]; congr 1; simp only [eq_iff_iff]; omega
      simp [h0, hlt, hx, hw, ih, f73_is h.c_f73, hpos, hq, hw1, hq1, ite_f, ite_n, writesFrom, writes1, Bool.and_assoc, hc]
theorem spec_IsVT_l1_is (h : G_f69 E) (t : Transaction) (ho : t.ok) : ∀ (r p : List ReadMark) (i : Int), t.reads = p ++ r → i = p.length →
    f69_l1 E (.int .i64 i) t.u = some (.bool (readsFrom p.getLast? r && (writesFrom none t.writes && t.tail)))
  | [], p, i, e, hi => by
    rw [f69_l1_eq]
    simp [mid_end e hi, readsFrom, spec_IsVT_l0_is h t ho t.writes [] 0 rfl rfl]
  | x :: r, p, i, e, hi => by
    obtain ⟨h0, hlt, hx, hw, hn, _⟩ := mid_at e hi (by have := ho.1; omega)
    have ih := spec_IsVT_l1_is h t ho r (p ++ [x]) (i + 1) (mid_next e) hn
    rw [List.getLast?_concat] at ih
    rw [f69_l1_eq]
    by_cases hp : p = []
    · have hi0 : ¬ 0 < i := by subst hp; simp at hi; omega
      simp [h0, hlt, hx, hw, ih, f73_is h.c_f73, hi0, hp, ite_f, readsFrom, reads1, Bool.and_assoc]
    · obtain ⟨q, j, hq, hpos, hw1, h1, hq1, _⟩ := mid_last e hi (by have := ho.1; omega) hp
      simp [h0, hlt, hx, hw, ih, f73_is h.c_f73, hpos, hq, hw1, hq1, ite_f, ite_n, readsFrom, reads1, Bool.and_assoc, f74_is h.c_f74]
theorem f69_is (h : G_f69 E) (t : Transaction) (ho : t.ok) : E 70 [t.u] = some (.bool t.valid) := by
  rw [f69_E h]
  have h1 := spec_IsVT_l1_is h t ho t.reads [] 0 rfl rfl
  have h2 : (readsFrom none t.reads && (writesFrom none t.writes && t.tail)) = t.valid := by
    unfold Transaction.valid Transaction.tail areReads areWrites
    ac_rfl
  simp [h1, h2]
theorem f22_is (h : G_f22 E) (n : Int) : E 160 [.int .i64 n] = some (.bool (inR n 1 4)) := by
  rw [f22_E h]; simp [f19_is h.c_f19]
theorem f7_is (h : G_f7 E) (t : Transaction) (ho : t.ok) : E 159 [t.u] = some (.bool t.valid) := by
  rw [f7_E h]
  have r1 := f16_is h.c_f16 t.reads ho.1
  have r2 := f17_is h.c_f17 t.writes ho.2
  cases c1 : inR t.id 1 9
  · simp [f20_is h.c_f20, c1, Transaction.valid]
  cases c2 : inR t.scheme 1 4
  · simp [f20_is h.c_f20, f22_is h.c_f22, c1, c2, Transaction.valid]
  cases c3 : inR t.state 1 3
  · simp [f20_is h.c_f20, f22_is h.c_f22, f19_is h.c_f19, c1, c2, c3, Transaction.valid]
  cases c4 : inR t.begin_ 0 999
  · simp [f20_is h.c_f20, f22_is h.c_f22, f19_is h.c_f19, c1, c2, c3, c4, Transaction.valid]
  cases c5 : inR t.low 0 999
  · simp [f20_is h.c_f20, f22_is h.c_f22, f19_is h.c_f19, c1, c2, c3, c4, c5, Transaction.valid]
  cases c6 : inR t.high 1 1000
  · simp [f20_is h.c_f20, f22_is h.c_f22, f19_is h.c_f19, c1, c2, c3, c4, c5, c6, Transaction.valid]
  have Hf := fun (X : Bool) => (rfl : (false && X) = false)
  by_cases hs : t.state = 2
  · have hd : (t.state = 2) = True := eq_true hs
    cases c7 : inR t.commit 1 999
    · have e : (decide (0 < t.commit) && (inR t.commit 0 999 && (areReads t.reads && areWrites t.writes))) = false := by
        simp only [inR, decide_eq_false_iff_not] at c7
        by_cases h0 : 0 < t.commit
        · have : inR t.commit 0 999 = false := by simp only [inR, decide_eq_false_iff_not]; omega
          simp [this]
        · simp [h0]
      simp [f20_is h.c_f20, f22_is h.c_f22, f19_is h.c_f19, f3_is h.c_f3, c1, c2, c3, c4, c5, c6, hd, c7, Transaction.valid] at e ⊢
      intro a b
      exact e a b
    · have e1 : decide (0 < t.commit) = true := by simp only [inR, decide_eq_true_eq] at c7 ⊢; omega
      have e2 : inR t.commit 0 999 = true := by simp only [inR, decide_eq_true_eq] at c7 ⊢; omega
      have e3 : (0 < t.commit) = True := eq_true (by simpa using e1)
      simp [f20_is h.c_f20, f22_is h.c_f22, f19_is h.c_f19, f3_is h.c_f3, c1, c2, c3, c4, c5, c6, hd, c7, Transaction.valid, r1, r2, ite_t, e3, e2]
  · have hd : (t.state = 2) = False := eq_false hs
    by_cases hz : t.commit = 0
    · have e2 : inR t.commit 0 999 = true := by simp only [inR, decide_eq_true_eq]; omega
      rw [hz] at e2
      simp [f20_is h.c_f20, f22_is h.c_f22, f19_is h.c_f19, f3_is h.c_f3, c1, c2, c3, c4, c5, c6, hd, hz, Transaction.valid, r1, r2, ite_t, e2]
    · have hz' : (t.commit = 0) = False := eq_false hz
      simp [f20_is h.c_f20, f22_is h.c_f22, f19_is h.c_f19, f3_is h.c_f3, c1, c2, c3, c4, c5, c6, hd, hz', Transaction.valid]
      intro a b c
      simp only [inR, decide_eq_true_eq] at b
      omega
theorem impl_active_is (h : G_f14 E) (x : Transaction) (ho : x.ok) : E 301 [x.u] = some (.bool (x.valid && decide (x.state = 1))) := by
  rw [f14_E h]
  by_cases h1 : x.state = 1 <;> simp [h1, f7_is h.c_f7 x ho]
def idxF {α : Type} (P : α → Bool) : List α → Int → Int
  | [], _ => -1
  | x :: r, i => if P x then i else idxF P r (i + 1)
theorem idxF_any {α : Type} (P : α → Bool) (l : List α) : ∀ {i : Int}, 0 ≤ i → (decide (0 ≤ idxF P l i)) = l.any P := by
  induction l with
  | nil => intro i _; simp [idxF]
  | cons x r ih =>
    intro i hi
    cases h : P x
    · simp [idxF, h, ih (i := i + 1) (by omega)]
    · simp [idxF, h, hi]
theorem f66_l0_is (l : List (List Version)) (hl : l.length ≤ 9223372036854775807) (q : Nat) (caps : List U) (P : (List Version) → Bool) (hp : ∀ x ∈ l, E q (chainU x :: caps) = some (.bool (P x))) (hq : q < 100000) : ∀ (r p : List (List Version)) (i : Int), l = p ++ r → i = p.length →
    f66_l0 E (.sl 1 (l.map chainU)) (.fn q caps) (.int .i64 l.length) (.int .i64 i) = some (.int .i64 (idxF P r i))
  | [], p, i, e, hi => by
    rw [f66_l0_eq]
    simp [mid_end e hi, idxF]
  | x :: r, p, i, e, hi => by
    obtain ⟨h0, hlt, hx, hw, hn, _⟩ := mid_at e hi hl
    have hpx := hp x (by rw [e]; simp)
    have ih := f66_l0_is l hl q caps P hp hq r (p ++ [x]) (i + 1) (mid_next e) hn
    rw [f66_l0_eq]
    cases h1 : P x <;> simp [hlt, hx, hw, ih, hpx, hq, h1, idxF]
theorem f66_is (h : G_f66 E) (l : List (List Version)) (hl : l.length ≤ 9223372036854775807) (q : Nat) (caps : List U) (P : (List Version) → Bool) (hp : ∀ x ∈ l, E q (chainU x :: caps) = some (.bool (P x))) (hq : q < 100000 := by decide) :
    E 115 [.sl 1 (l.map chainU), .fn q caps] = some (.int .i64 (idxF P l 0)) := by
  rw [f66_E h]
  simp [f66_l0_is l hl q caps P hp hq l [] 0 rfl rfl]
theorem f65_is (h : G_f65 E) (l : List (List Version)) (hl : l.length ≤ 9223372036854775807) (q : Nat) (caps : List U) (P : (List Version) → Bool) (hp : ∀ x ∈ l, E q (chainU x :: caps) = some (.bool (P x))) (hq : q < 100000 := by decide) :
    E 114 [.sl 1 (l.map chainU), .fn q caps] = some (.bool (l.any P)) := by
  rw [f65_E h]
  simp [f66_is h.c_f66 l hl q caps P hp hq, idxF_any]
theorem ite_pp (p : Prop) [Decidable p] (a b : Bool) : (if p then some (U.bool a) else some (U.bool b)) = some (U.bool (if p then a else b)) := by split <;> rfl
def Version.valid (v : Version) : Bool :=
  inR v.value (-1) 99 && (inR v.created 0 999 && (inR v.reader v.created 999 && (inR v.successor 1 1000 && (if v.created = 0 then decide (v.writer = 0) && decide (v.value = -1) else inR v.writer 1 9))))
theorem f70_is (h : G_f70 E) (v : Version) : E 105 [v.u] = some (.bool v.valid) := by
  rw [f70_E h]
  simp [f73_is h.c_f73, ite_f, ite_p, ite_pp, Version.valid]
theorem f8_is (h : G_f8 E) (v : Version) : E 117 [v.u] = some (.bool v.valid) := by
  rw [f8_E h]
  simp [f19_is h.c_f19, f20_is h.c_f20, f23_is h.c_f23, ite_f, ite_p, ite_pp, Version.valid]
def behind (v w : Version) : Bool := decide (v.created < w.created) && decide (v.successor ≤ w.created)
def chainRest : List Version → Bool
  | [] => true
  | [v] => v.valid
  | v :: w :: r => v.valid && (behind v w && chainRest (w :: r))
def chainLast (l : List Version) : Bool := match l.getLast? with
  | none => false
  | some v => decide (v.successor = 1000)
def validChain (l : List Version) : Bool := chainRest l && chainLast l
theorem f67_l0_is (h : G_f67 E) (l : List Version) (hl : l.length ≤ 1048576) : ∀ (r p : List Version) (i : Int), l = p ++ r → i = p.length →
    f67_l0 E (.sl 5 (l.map Version.u)) (.int .i64 i) = some (.bool (chainRest r && chainLast l))
  | [], p, i, e, hi => by
    rw [f67_l0_eq]
    have hend := mid_end e hi
    by_cases hp : l = []
    · subst hp
      have hneg : ¬ i < 0 := by omega
      simp [hneg, chainRest, chainLast]
    · obtain ⟨q, j, hq, hpos, hw1, h1, hq1, _⟩ := mid_last (l := l) (p := l) (r := []) (i := l.length) (by simp) rfl (by omega) hp
      have hpos' : 0 < l.length := by omega
      simp [hend, chainRest, chainLast, hq, hw1, hq1, hpos']
  | x :: r, p, i, e, hi => by
    obtain ⟨h0, hlt, hx, hw, hn, _⟩ := mid_at e hi (by omega)
    have ih := f67_l0_is h l hl r (p ++ [x]) (i + 1) (mid_next e) hn
    rw [f67_l0_eq]
    cases r with
    | nil =>
      have hend := mid_end (mid_next e) hn
      simp [hlt, hx, hw, hend, ih, f70_is h.c_f70, ite_f, chainRest]
    | cons y r =>
      obtain ⟨_, hlt2, hy, _, _, _⟩ := mid_at (mid_next e) hn (by omega)
      have hc : (!decide (y.created ≤ x.created)) = decide (x.created < y.created) := by rw [← decide_not]; congr 1; simp only [eq_iff_iff]; omega
      have hc2 : (!decide (y.created < x.successor)) = decide (x.successor ≤ y.created) := by rw [← decide_not]; congr 1; simp only [eq_iff_iff]; omega
      simp [hlt, hx, hw, hlt2, hy, ih, f70_is h.c_f70, ite_f, ite_n, hc, hc2, chainRest, behind, Bool.and_assoc]
theorem f67_is (h : G_f67 E) (l : List Version) (hl : chainOk l) : E 104 [chainU l] = some (.bool (validChain l)) := by
  rw [f67_E h]
  exact f67_l0_is h l hl l [] 0 rfl rfl
def chainFrom : Option Version → List Version → Bool
  | _, [] => true
  | none, v :: r => v.valid && chainFrom (some v) r
  | some q, v :: r => v.valid && (behind q v && chainFrom (some v) r)
theorem chainFrom_some : ∀ (r : List Version) (q : Version), (q.valid && chainFrom (some q) r) = chainRest (q :: r)
  | [], q => by simp [chainFrom, chainRest]
  | v :: r, q => by
    have := chainFrom_some r v
    simp only [chainFrom, chainRest]
    rw [← this]
    ac_rfl
theorem chainFrom_none (l : List Version) : chainFrom none l = chainRest l := by
  cases l with
  | nil => rfl
  | cons v r => simp only [chainFrom]; exact chainFrom_some r v
theorem f4_l0_is (h : G_f4 E) (l : List Version) (hl : l.length ≤ 1048576) : ∀ (r p : List Version) (i : Int), l = p ++ r → i = p.length →
    f4_l0 E (.sl 5 (l.map Version.u)) (.sl 5 (l.map Version.u)) (.int .i64 l.length) (.int .i64 i) = some (.bool (chainFrom p.getLast? r && chainLast l))
  | [], p, i, e, hi => by
    rw [f4_l0_eq]
    have hend := mid_end e hi
    by_cases hp : l = []
    · subst hp
      have hneg : ¬ i < 0 := by omega
      simp [hneg, chainFrom, chainLast]
    · obtain ⟨q, j, hq, hpos, hw1, h1, hq1, _⟩ := mid_last (l := l) (p := l) (r := []) (i := l.length) (by simp) rfl (by omega) hp
      have hpos' : 0 < l.length := by omega
      simp [hend, chainFrom, chainLast, hq, hw1, hq1, hpos']
  | x :: r, p, i, e, hi => by
    obtain ⟨h0, hlt, hx, hw, hn, _⟩ := mid_at e hi (by omega)
    have ih := f4_l0_is h l hl r (p ++ [x]) (i + 1) (mid_next e) hn
    rw [List.getLast?_concat] at ih
    rw [f4_l0_eq]
    by_cases hp : p = []
    · have hi0 : ¬ 0 < i := by subst hp; simp at hi; omega
      simp [h0, hlt, hx, hw, ih, f8_is h.c_f8, hi0, hp, ite_f, chainFrom, Bool.and_assoc]
    · obtain ⟨q, j, hq, hpos, hw1, h1, hq1, _⟩ := mid_last e hi (by omega) hp
      have hc : (!decide (x.created ≤ q.created)) = decide (q.created < x.created) := by rw [← decide_not]; congr 1; simp only [eq_iff_iff]; omega
      have hc2 : (!decide (x.created < q.successor)) = decide (q.successor ≤ x.created) := by rw [← decide_not]; congr 1; simp only [eq_iff_iff]; omega
      simp [h0, hlt, hx, hw, ih, f8_is h.c_f8, hpos, hq, hw1, hq1, ite_f, ite_n, chainFrom, hc, hc2, behind, Bool.and_assoc]
theorem f4_is (h : G_f4 E) (l : List Version) (hl : chainOk l) : E 116 [chainU l] = some (.bool (validChain l)) := by
  rw [f4_E h]
  have h1 := f4_l0_is h l hl l [] 0 rfl rfl
  simp only [List.getLast?_nil, chainFrom_none] at h1
  simp only [lenOf_chainU, Option.bind_some]
  exact h1
def okChain (l : List Version) : Bool := validChain l && decide (l.length ≤ 50)
def Store.valid (s : Store) : Bool := s.chains.all okChain && decide (s.chains.length = 6)
theorem validChain_ne {l : List Version} (h : validChain l = true) : l ≠ [] := by
  rintro rfl
  simp [validChain, chainLast] at h
theorem f68_l0_is (h : G_f68 E) (s : Store) (ho : s.ok) : ∀ (r p : List (List Version)) (i : Int), s.chains = p ++ r → i = p.length →
    f68_l0 E (.int .i64 i) s.u = some (.bool (r.all okChain && decide (s.chains.length = 6)))
  | [], p, i, e, hi => by
    rw [f68_l0_eq]
    have h1 : decide ((s.chains.length : Int) = 6) = decide (s.chains.length = 6) := by congr 1; simp only [eq_iff_iff]; omega
    simp [mid_end e hi, h1]
  | x :: r, p, i, e, hi => by
    obtain ⟨h0, hlt, hx, hw, hn, _⟩ := mid_at e hi (by have := ho.1; omega)
    have hox : chainOk x := ho.2 x (by rw [e]; simp)
    have ih := f68_l0_is h s ho r (p ++ [x]) (i + 1) (mid_next e) hn
    rw [f68_l0_eq]
    cases hv : validChain x with
    | false => simp [hlt, hx, f67_is h.c_f67 x hox, hv, okChain]
    | true =>
      obtain ⟨v, x', rfl⟩ : ∃ v x', x = v :: x' := by
        cases x with
        | nil => exact absurd rfl (validChain_ne hv)
        | cons v x' => exact ⟨v, x', rfl⟩
      have hfst : ∀ {γ : Type} (K : U → Option γ), U.elemAt 5 (.sl 5 ((v :: x').map Version.u)) 0 K = K v.u := fun K => by
        rw [elemAt_sl]; rfl
      have hlen : decide ((50 : Int) < ((v :: x').length : Int)) = !decide ((v :: x').length ≤ 50) := by
        rw [← decide_not]; congr 1; simp only [eq_iff_iff]; omega
      by_cases hc : 0 < v.created
      · cases h50 : decide ((v :: x').length ≤ 50) <;>
          simp only [Store.u_agg, sizes_nil, List.take_zero, if_true, List.getElem?_cons_zero, Option.bind_some, asVar_sl, lenOf_sl, List.length_map, bin_lss, hlt, decide_true, asBool_bool, asInt_int, hx, asVar_chainU, f67_is h.c_f67 _ hox, hv, un_not, Bool.not_true, Bool.false_eq_true, if_false, elemAt_chainU, hfst, Version.u_at2, asVar_int, bin_gtr, hc, lenOf_chainU, hlen, h50, Bool.not_false, bin_add, hw, ih, okChain, List.all_cons, Bool.and_false, Bool.false_and, Bool.true_and, Bool.and_true]
      · cases h50 : decide ((v :: x').length ≤ 50) <;>
          simp only [Store.u_agg, sizes_nil, List.take_zero, if_true, List.getElem?_cons_zero, Option.bind_some, asVar_sl, lenOf_sl, List.length_map, bin_lss, hlt, decide_true, decide_false, asBool_bool, asInt_int, hx, asVar_chainU, f67_is h.c_f67 _ hox, hv, un_not, Bool.not_true, Bool.false_eq_true, if_false, elemAt_chainU, hfst, Version.u_at2, asVar_int, bin_gtr, hc, lenOf_chainU, hlen, h50, Bool.not_false, bin_add, hw, ih, okChain, List.all_cons, Bool.and_false, Bool.false_and, Bool.true_and, Bool.and_true]
theorem f68_is (h : G_f68 E) (s : Store) (ho : s.ok) : E 103 [s.u] = some (.bool s.valid) := by
  rw [f68_E h]
  simp [f68_l0_is h s ho s.chains [] 0 rfl rfl, Store.valid]
theorem f6_is (h : G_f6 E) (l : List Version) (hl : chainOk l) : E 113 [chainU l] = some (.bool (!okChain l)) := by
  rw [f6_E h]
  have hlen : decide ((50 : Int) < (l.length : Int)) = !decide (l.length ≤ 50) := by
    rw [← decide_not]; congr 1; simp only [eq_iff_iff]; omega
  cases hv : validChain l <;> simp [f4_is h.c_f4 l hl, hv, okChain]
  omega
theorem f5_is (h : G_f5 E) (s : Store) (ho : s.ok) : E 112 [s.u] = some (.bool s.valid) := by
  rw [f5_E h]
  have h1 : decide ((s.chains.length : Int) = 6) = decide (s.chains.length = 6) := by congr 1; simp only [eq_iff_iff]; omega
  have h2 := f65_is h.c_f65 s.chains (by have := ho.1; omega) 113 [] (fun l => !okChain l) (fun c hc => f6_is h.c_f6 c (ho.2 c hc))
  have h3 : (!s.chains.any fun l => !okChain l) = s.chains.all okChain := by
    rw [List.not_any_eq_all_not]; simp
  simp only [Store.u_noTup, Store.u_agg, sizes_nil, List.take_zero, if_true, List.getElem?_cons_zero, Option.bind_some, asVar_sl, lenOf_sl, List.length_map, bin_eql, h1, asBool_bool, h2, un_not, h3, ite_t, Store.valid, Bool.and_comm]
theorem chainRest_valid : ∀ {l : List Version}, chainRest l = true → ∀ v ∈ l, v.valid = true
  | [], _, v, hv => by simp at hv
  | [x], h, v, hv => by
    simp only [List.mem_singleton] at hv
    subst hv
    exact h
  | x :: y :: r, h, v, hv => by
    simp only [chainRest, Bool.and_eq_true] at h
    rcases List.mem_cons.1 hv with rfl | hv
    · exact h.1
    · exact chainRest_valid h.2.2 v hv
theorem Store.valid_mem {s : Store} (h : s.valid = true) {c : List Version} (hc : c ∈ s.chains) : validChain c = true ∧ c.length ≤ 50 ∧ ∀ v ∈ c, v.valid = true := by
  simp only [Store.valid, Bool.and_eq_true, List.all_eq_true] at h
  have := h.1 c hc
  simp only [okChain, Bool.and_eq_true, decide_eq_true_eq] at this
  refine ⟨this.1, this.2, ?_⟩
  have h2 := this.1
  simp only [validChain, Bool.and_eq_true] at h2
  exact chainRest_valid h2.1
def Store.chain (s : Store) (k : Int) : List Version := s.chains.getD k.toNat []
theorem chain_get {s : Store} (hv : s.valid = true) {k : Int} (h0 : 0 ≤ k) (h1 : k ≤ 5) : s.chains[k.toNat]? = some (s.chain k) ∧ s.chain k ∈ s.chains := by
  simp only [Store.valid, Bool.and_eq_true, decide_eq_true_eq] at hv
  have hlt : k.toNat < s.chains.length := by omega
  have e : s.chain k = s.chains[k.toNat] := by unfold Store.chain; simp [List.getElem?_eq_getElem hlt]
  rw [e]
  exact ⟨List.getElem?_eq_getElem hlt, List.getElem_mem hlt⟩
theorem chain_elem {s : Store} (hv : s.valid = true) {k : Int} (h0 : 0 ≤ k) (h1 : k ≤ 5) {γ : Type} (K : U → Option γ) : U.elemAt 1 (.sl 1 (s.chains.map chainU)) k K = K (chainU (s.chain k)) :=
  elemAt_get chainU h0 (chain_get hv h0 h1).1 K
theorem flats_map {α : Type} (f : α → U) (h : ∀ x, (f x).flat = true) : ∀ l : List α, U.flat.flats (l.map f) = true
  | [] => rfl
  | x :: l => by
    simp only [List.map_cons, U.flat.flats, h x, flats_map f h l, Bool.and_self]
@[simp] theorem flats_edges (l : List Edge) : U.flat.flats (l.map Edge.u) = true := flats_map _ (fun _ => rfl) l
@[simp] theorem flats_ints (l : List Int) : U.flat.flats (l.map intU) = true := flats_map _ (fun _ => rfl) l
theorem clone_F_is {q k b : Nat} (h : IsClone E q k b) (us : List U) (hl : us.length * b ≤ 140737488355328) (hf : U.flat.flats us = true) : E (100000 + q) [.sl k us] = some (.sl k us) := by
  rw [h.f]; simp [cloneF, hl, hf]
theorem flatsR (l : List ReadMark) : U.flat.flats (l.map ReadMark.u) = true := flats_map _ (fun _ => rfl) l
theorem flatsW (l : List Write) : U.flat.flats (l.map Write.u) = true := flats_map _ (fun _ => rfl) l
theorem impl_copied_F_is (h : G_f13 E) (x : Transaction) (ho : x.ok) : E 100222 [x.u] = some x.u := by
  rw [f13_E h]
  have h1 : E 100224 [.sl 2 (x.reads.map ReadMark.u)] = _ := clone_F_is h.c_f63 (x.reads.map ReadMark.u) (by have := ho.1; simp; omega) (flatsR _)
  have h2 : E 100225 [.sl 2 (x.writes.map Write.u)] = _ := clone_F_is h.c_f64 (x.writes.map Write.u) (by have := ho.2; simp; omega) (flatsW _)
  simp [h1, h2, noTup_sl, U.asSlK, D.size, dsizes, D.size.dsizes, U.size]
  rfl
theorem f75_is (h : G_f75 E) (x : Transaction) (ho : x.ok) : E 212 [x.u] = some x.u := by
  rw [f75_E h]
  have h1 : x.reads.length * 16 ≤ 140737488355328 := by have := ho.1; omega
  have h2 : x.writes.length * 16 ≤ 140737488355328 := by have := ho.2; omega
  simp [U.elems, h1, h2, D.size, dsizes, D.size.dsizes, U.size, storable]
  rfl
theorem mid_cut2 {β : Type} {l p r : List β} {k : Nat} {i : Int} (f : β → U) (e : l = p ++ r) (hi : i = p.length) : U.cut false k (.sl k (l.map f)) (some i) none = some (.sl k (r.map f)) := by
  subst e; subst hi
  simp only [U.cut, Option.getD_none, Option.getD_some, List.length_map, List.length_append]
  rw [if_pos (by refine ⟨trivial, by omega, by omega, by omega⟩)]
  have e3 : (((p.length + r.length : Nat) : Int)).toNat = (List.map f (p ++ r)).length := by rw [Int.toNat_natCast, List.length_map, List.length_append]
  rw [e3, List.take_length]
  simp
theorem half_is (i j : Nat) (hi : i ≤ 1048576) (hj : j ≤ 1048576) : (U.bin .add (.int .i64 (i : Int)) (.int .i64 (j : Int))) = some (.int .i64 ((i + j : Nat) : Int)) ∧ U.conv .u64 (.int .i64 ((i + j : Nat) : Int)) = some (.int .u64 ((i + j : Nat) : Int)) ∧ U.bin .shr (.int .u64 ((i + j : Nat) : Int)) (.int .u64 1) = some (.int .u64 (((i + j) / 2 : Nat) : Int)) ∧ U.conv .i64 (.int .u64 (((i + j) / 2 : Nat) : Int)) = some (.int .i64 (((i + j) / 2 : Nat) : Int)) := by
  refine ⟨?_, ?_, ?_, ?_⟩
  · rw [bin_add, wrap_in (by omega)]; simp
  · have : IntKind.u64.wrap ((i + j : Nat) : Int) = ((i + j : Nat) : Int) := by simp only [IntKind.wrap, IntKind.signed, IntKind.bits]; simp; omega
    simp only [U.conv, this]
  · have e : ((i + j : Nat) : Int).fdiv (2 ^ (min (1 : Int).toNat IntKind.u64.bits)) = (((i + j) / 2 : Nat) : Int) := by
      have : (2 : Int) ^ (min (1 : Int).toNat IntKind.u64.bits) = 2 := by decide
      rw [this, Int.fdiv_eq_ediv_of_nonneg _ (by omega)]; omega
    simp only [U.bin, e]; simp
  · simp only [U.conv, wrap_in (n := (((i + j) / 2 : Nat) : Int)) (by omega)]
theorem big16 (n : Nat) (h : n ≤ 1048577) : n * 16 ≤ 140737488355328 := by omega
def maxI (a b : Int) : Int := if a < b then b else a
def putWrite : List Write → Write → List Write
  | [], w => [w]
  | x :: r, w => if x.key < w.key then x :: putWrite r w else if x.key = w.key then w :: r else w :: x :: r
theorem putWrite_app (p r : List Write) (w : Write) (hp : ∀ y ∈ p, y.key < w.key) : putWrite (p ++ r) w = p ++ putWrite r w := by
  induction p with
  | nil => rfl
  | cons y p ih => simp [putWrite, hp y (by simp), ih (fun z hz => hp z (by simp [hz]))]
theorem putWrite_len (l : List Write) (w : Write) : (putWrite l w).length ≤ l.length + 1 := by
  induction l with
  | nil => simp [putWrite]
  | cons x r ih => simp only [putWrite]; split <;> (try split) <;> simp <;> omega
def Rising (l : List Write) : Prop := l.Pairwise fun a b => a.key < b.key
theorem writesFrom_rising : ∀ (l : List Write) (o : Option Write), writesFrom o l = true → Rising l ∧ ∀ q, o = some q → ∀ x ∈ l, q.key < x.key
  | [], o, _ => ⟨List.Pairwise.nil, by simp⟩
  | m :: r, o, h => by
    simp only [writesFrom, writes1, Bool.and_eq_true] at h
    obtain ⟨⟨_, h1⟩, h2⟩ := h
    obtain ⟨i1, i2⟩ := writesFrom_rising r (some m) h2
    refine ⟨List.Pairwise.cons (fun x hx => i2 m rfl x hx) i1, fun q hq x hx => ?_⟩
    subst hq
    simp only [decide_eq_true_eq] at h1
    rcases List.mem_cons.1 hx with rfl | hx
    · exact h1
    · have := i2 m rfl x hx; omega
theorem writesFrom_len : ∀ (l : List Write) (o : Option Write), writesFrom o l = true → (∀ q, o = some q → 0 ≤ q.key) → (l.length : Int) ≤ (match o with | none => 6 | some q => 5 - q.key) ∨ l = []
  | [], o, _, _ => .inr rfl
  | m :: r, o, h, h0 => by
    left
    simp only [writesFrom, writes1, Bool.and_eq_true, inR, decide_eq_true_eq] at h
    obtain ⟨⟨⟨h3, _⟩, h1⟩, h2⟩ := h
    have ih := writesFrom_len r (some m) h2 (fun q hq => by cases hq; exact h3.1)
    have hm := h3
    cases o with
    | none =>
      rcases ih with ih | rfl
      · simp only [List.length_cons] at ih ⊢; omega
      · simp
    | some q =>
      simp only [decide_eq_true_eq] at h1
      have := h0 q rfl
      rcases ih with ih | rfl
      · simp only [List.length_cons] at ih ⊢; omega
      · simp only [List.length_cons, List.length_nil]; omega
theorem valid_rising {t : Transaction} (hv : t.valid = true) : Rising t.writes ∧ t.writes.length ≤ 6 := by
  simp only [Transaction.valid, areWrites, Bool.and_eq_true] at hv
  have h := hv.2.2.2.2.2.2.2.2.2
  refine ⟨(writesFrom_rising _ _ h).1, ?_⟩
  rcases writesFrom_len _ _ h (by simp) with h | h
  · simp only at h; omega
  · rw [h]; simp
theorem rising_split (l : List Write) (k : Int) (hs : Rising l) : ∃ p r, l = p ++ r ∧ (∀ x ∈ p, x.key < k) ∧ ∀ x ∈ r, ¬ x.key < k := by
  induction l with
  | nil => exact ⟨[], [], rfl, by simp, by simp⟩
  | cons x l ih =>
    have hx : ∀ y ∈ l, x.key < y.key := (List.pairwise_cons.1 hs).1
    by_cases g : x.key < k
    · obtain ⟨p, r, e, h1, h2⟩ := ih (List.Pairwise.of_cons hs)
      exact ⟨x :: p, r, by rw [e]; rfl, by simpa [g] using h1, h2⟩
    · refine ⟨[], x :: l, rfl, by simp, fun y hy => ?_⟩
      rcases List.mem_cons.1 hy with rfl | hy
      · exact g
      · have := hx y hy; omega
def headKey : List Write → Int → Bool
  | [], _ => false
  | x :: _, k => decide (x.key = k)
theorem put_1_is (h : G_f15 E) (w : Write) (k : Int) : E 339 [w.u, .int .i64 k] = some (.int .i64 (cmpI w.key k)) := by
  rw [f15_E h]
  simp [cmp_Compare_is h.c_f0]
theorem bs340_l0_is (hc : ∀ (a : Write) (k : Int), E 339 [a.u, .int .i64 k] = some (.int .i64 (cmpI a.key k))) (l p r : List Write) (m : Int) (hl : l.length ≤ 1048576) (e : l = p ++ r) (hp : ∀ x ∈ p, x.key < m) (hr : ∀ x ∈ r, ¬ x.key < m) :
    ∀ (n i j : Nat), j - i ≤ n → i ≤ p.length → p.length ≤ j → j ≤ l.length →
    f62_l0 E (.sl 2 (l.map Write.u)) (.int .i64 m) (.fn 339 []) (.int .i64 (l.length : Int)) (.int .i64 (i : Int)) (.int .i64 (j : Int)) = some (.tup [.int .i64 (p.length : Int), .bool (headKey r m)]) := by
  intro n
  induction n with
  | zero =>
    intro i j h1 h2 h3 h4
    obtain rfl : i = p.length := by omega
    obtain rfl : j = p.length := by omega
    rw [f62_l0_eq]
    cases r with
    | nil =>
      have : ¬ (p.length : Int) < (l.length : Int) := by rw [e]; simp
      simp [this, headKey]
    | cons x r =>
      have h5 : p.length < l.length := by rw [e]; simp
      have h6 : (l.map Write.u)[p.length]? = some x.u := by rw [e]; simp
      have h8 := hc x m
      have h7 : l[p.length] = x := by simp [e]
      have h10 : (cmpI x.key m = 0) = (x.key = m) := by rw [eq_iff_iff]; unfold cmpI; split <;> (try split) <;> omega
      simp [h5, h6, U.elemAt, h7, h8, h10, headKey]
  | succ n ih =>
    intro i j h1 h2 h3 h4
    by_cases hij : i < j
    · obtain ⟨a1, a2, a3, a4⟩ := half_is i j (by omega) (by omega)
      have hk : (i + j) / 2 < l.length := by omega
      have hk1 : i ≤ (i + j) / 2 := by omega
      have hk2 : (i + j) / 2 < j := by omega
      generalize (i + j) / 2 = k at *
      have hx : (l.map Write.u)[k]? = some (l[k]).u := by simp [hk]
      have hlt := hc (l[k]) m
      have hd : decide (cmpI (l[k]).key m < 0) = decide ((l[k]).key < m) := by congr 1; rw [eq_iff_iff]; unfold cmpI; split <;> (try split) <;> omega
      rw [f62_l0_eq]
      have hij' : (i : Int) < (j : Int) := by omega
      simp only [bin_lss, hij', decide_true, Option.bind_some, asBool_bool, if_true, a1, a2, a3, a4, asInt_int, U.elemAt, Int.toNat_natCast, hx, Write.u_var, asFn_fn, List.append_nil, List.cons_append, List.nil_append, hlt, hd, bin_add]
      rw [if_pos (by omega)]
      have hw : IntKind.i64.wrap ((k : Int) + 1) = ((k + 1 : Nat) : Int) := by rw [wrap_in (by omega)]; omega
      by_cases g : (l[k]).key < m
      · have hkp : k < p.length := by
          rcases Nat.lt_or_ge k p.length with h | h
          · exact h
          · have : l[k] ∈ r := by
              have e2 : l[k] = r[k - p.length]'(by have := congrArg List.length e; simp at this; omega) := by simp [e, List.getElem_append_right h]
              rw [e2]; exact List.getElem_mem _
            exact absurd g (hr _ this)
        simp only [g, decide_true, asBool_bool, if_true, hw]
        exact ih (k + 1) j (by omega) (by omega) h3 h4
      · have hkp : p.length ≤ k := by
          rcases Nat.lt_or_ge k p.length with h | h
          · have : l[k] ∈ p := by
              have e2 : l[k] = p[k] := by simp [e, List.getElem_append_left h]
              rw [e2]; exact List.getElem_mem _
            exact absurd (hp _ this) g
          · exact h
        simp only [g, decide_false, asBool_bool, Bool.false_eq_true, if_false]
        exact ih i k (by omega) h2 hkp (by omega)
    · obtain rfl : i = p.length := by omega
      obtain rfl : j = p.length := by omega
      exact ih _ _ (by omega) h2 h3 h4
theorem bs340_is (h : G_f62 E) (hc : ∀ (a : Write) (k : Int), E 339 [a.u, .int .i64 k] = some (.int .i64 (cmpI a.key k))) (l p r : List Write) (m : Int) (hl : l.length ≤ 1048576) (e : l = p ++ r) (hp : ∀ x ∈ p, x.key < m) (hr : ∀ x ∈ r, ¬ x.key < m) :
    E 340 [.sl 2 (l.map Write.u), .int .i64 m, .fn 339 []] = some (.tup [.int .i64 (p.length : Int), .bool (headKey r m)]) := by
  have h1 := bs340_l0_is hc l p r m hl e hp hr l.length 0 l.length (by omega) (by omega) (by rw [e]; simp) (by omega)
  rw [f62_E h]
  simpa using h1
theorem f76_l0_is (h : G_f76 E) (l : List Write) (w : Write) (hl : l.length ≤ 1048576) : ∀ (r p : List Write) (i : Int), l = p ++ r → i = p.length → (∀ x ∈ p, x.key < w.key) →
    f76_l0 E (.sl 2 (l.map Write.u)) (.int .i64 i) w.u = some (.sl 2 ((p ++ putWrite r w).map Write.u))
  | [], p, i, e, hi, hp => by
    have c1 := mid_cut (k := 2) Write.u e hi
    have c2 := mid_cut2 (k := 2) Write.u e hi
    have hle : p.length = l.length := by rw [e]; simp
    have el : ∀ us : List U, U.elems 2 (.sl 2 us) = some us := fun _ => rfl
    rw [f76_l0_eq]
    simp only [lenOf_sl, List.length_map, Option.bind_some, bin_lss, mid_end e hi, decide_false, asBool_bool, Bool.false_eq_true, if_false, asInt_int, c1, c2, Write.u_var, Write.u_partable, Write.u_size, and_self, if_true, el, putWrite]
    rw [if_pos ⟨by trivial, by trivial, big16 _ (by simp only [List.length_append, List.length_map, List.length_cons, List.length_nil]; omega)⟩, if_pos ⟨by trivial, by trivial, big16 _ (by simp only [List.length_append, List.length_map, List.length_cons, List.length_nil]; omega)⟩, if_pos ⟨by trivial, by trivial, big16 _ (by simp only [List.length_append, List.length_map, List.length_cons, List.length_nil]; omega)⟩]
    simp
  | x :: r, p, i, e, hi, hp => by
    obtain ⟨h0, hlt, hx, hw, hn, _⟩ := mid_at e hi (by omega)
    have c1 := mid_cut (k := 2) Write.u e hi
    have c2 := mid_cut2 (k := 2) Write.u e hi
    have c3 := mid_cut2 (k := 2) Write.u (mid_next e) hn
    have hle : p.length + r.length + 1 = l.length := by rw [e]; simp; omega
    have z0 : (0 = sizes (List.take 0 [U.int .i64 w.key, U.int .i64 w.value])) = True := eq_true rfl
    have el : ∀ us : List U, U.elems 2 (.sl 2 us) = some us := fun _ => rfl
    rw [f76_l0_eq]
    by_cases g : x.key < w.key
    · have ih := f76_l0_is h l w hl r (p ++ [x]) (i + 1) (mid_next e) hn (by intro y hy; rcases List.mem_append.1 hy with hy | hy; exact hp y hy; simp at hy; rw [hy]; exact g)
      simp only [lenOf_sl, List.length_map, Option.bind_some, bin_lss, hlt, decide_true, asBool_bool, if_true, asInt_int, hx, Write.u_at0, asVar_int, Write.u_agg, z0, List.getElem?_cons_zero, g, bin_add, hw, ih, putWrite]
      simp
    · simp only [lenOf_sl, List.length_map, Option.bind_some, bin_lss, hlt, decide_true, asBool_bool, if_true, asInt_int, hx, Write.u_at0, asVar_int, Write.u_agg, z0, List.getElem?_cons_zero, g, decide_false, Bool.false_eq_true, if_false, putWrite, c1, c2, el, Write.u_var, Write.u_partable, Write.u_size, and_self, bin_eql]
      rw [if_pos ⟨by trivial, by trivial, big16 _ (by simp only [List.length_append, List.length_map, List.length_cons, List.length_nil]; omega)⟩, if_pos ⟨by trivial, by trivial, big16 _ (by simp only [List.length_append, List.length_map, List.length_cons, List.length_nil]; omega)⟩]
      by_cases g2 : x.key = w.key
      · have g3 : decide (x.key = w.key) = true := decide_eq_true g2
        simp only [g3, asBool_bool, if_true, bin_add, hw, Option.bind_some, asInt_int, c3, el]
        rw [if_pos g2]
        rw [if_pos ⟨by trivial, by trivial, big16 _ (by simp only [List.length_append, List.length_map, List.length_cons, List.length_nil]; omega)⟩]
        simp
      · have g3 : decide (x.key = w.key) = false := decide_eq_false g2
        simp only [g3, asBool_bool, Bool.false_eq_true, if_false]
        rw [if_neg g2]
        rw [if_pos ⟨by trivial, by trivial, big16 _ (by simp only [List.length_append, List.length_map, List.length_cons, List.length_nil]; omega)⟩]
        simp
theorem f76_is (h : G_f76 E) (l : List Write) (w : Write) (hl : l.length ≤ 1048576) : E 336 [.sl 2 (l.map Write.u), w.u] = some (.sl 2 ((putWrite l w).map Write.u)) := by
  rw [f76_E h]
  simpa using f76_l0_is h l w hl l [] 0 rfl rfl (by simp)
def lastV (l : List Version) : Version := l.getLastD ⟨0, 0, 0, 0, 0⟩
theorem lastV_get {l : List Version} (h : l ≠ []) : l[((l.length : Int) - 1).toNat]? = some (lastV l) := by
  have h1 : 0 < l.length := List.length_pos_iff.2 h
  have e1 : ((l.length : Int) - 1).toNat = l.length - 1 := by omega
  rw [e1, ← List.getLast?_eq_getElem?, List.getLast?_eq_some_getLast h]
  unfold lastV
  cases l with
  | nil => exact absurd rfl h
  | cons x l => simp [List.getLastD_eq_getLast?, List.getLast?_eq_some_getLast]
theorem lastV_elem {l : List Version} (h : l ≠ []) {γ : Type} (K : U → Option γ) : U.elemAt 5 (chainU l) ((l.length : Int) - 1) K = K (lastV l).u :=
  elemAt_get Version.u (by have := List.length_pos_iff.2 h; omega) (lastV_get h) K
theorem f71_is (h : G_f71 E) (l : List Version) (hl : chainOk l) (hv : validChain l = true) : E 216 [chainU l] = some (lastV l).u := by
  rw [f71_E h]
  have h1 := f67_is h.c_f67 l hl
  rw [hv] at h1
  have hne := validChain_ne hv
  have hlen : U.lenOf false (chainU l) = some l.length := by simp [chainU]
  have hw : IntKind.i64.wrap ((l.length : Int) - 1) = (l.length : Int) - 1 := wrap_in (by have : l.length ≤ 1048576 := hl; omega)
  simp only [h1, Option.bind_some, un_not, asBool_bool, Bool.not_true, Bool.false_eq_true, if_false, hlen, bin_sub, hw, asInt_int, lastV_elem hne, Version.u_var, Version.u_storable, Version.u_size, and_self, if_true]
theorem impl_latest_is (h : G_f9 E) (s : Store) (hv : s.valid = true) (k : Int) (h0 : 0 ≤ k) (h1 : k ≤ 5) (ho : s.ok) : E 230 [s.u, .int .i64 k] = some (.vp (lastV (s.chain k)).u) := by
  rw [f9_E h]
  obtain ⟨hg, hm⟩ := chain_get hv h0 h1
  have hne := validChain_ne (Store.valid_mem hv hm).1
  have hle : (s.chain k).length ≤ 1048576 := ho.2 _ hm
  have hlen : U.lenOf false (chainU (s.chain k)) = some (s.chain k).length := by simp [chainU]
  have hw : IntKind.i64.wrap (((s.chain k).length : Int) - 1) = ((s.chain k).length : Int) - 1 := wrap_in (by omega)
  have nt : ∀ K : U → Option U, U.noTup s.u K = K s.u := fun _ => rfl
  have ag : ∀ K : List U → Option U, U.asAgg s.u K = K [.sl 1 (s.chains.map chainU)] := fun _ => rfl
  have av : ∀ (l : List Version) (K : U → Option U), U.asVar false 1 (chainU l) K = K (chainU l) := fun _ _ => rfl
  have z0 : (0 = sizes (List.take 0 [U.sl 1 (s.chains.map chainU)])) = True := eq_true rfl
  simp only [nt, ag, z0, if_true, List.getElem?_cons_zero, Option.bind_some, asVar_sl, asInt_int, chain_elem hv h0 h1, av, hlen, bin_sub, hw, lastV_elem hne]
end Go.Proofs.Ytpbogagoflpdfaa.Am
