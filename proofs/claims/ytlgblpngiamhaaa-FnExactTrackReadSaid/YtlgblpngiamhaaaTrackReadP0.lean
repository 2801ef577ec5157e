import Derived.Test.YtlgblpngiamhaaaAmX
import Derived.Test.YtlgblpngiamhaaaAmEd
import Derived.Test.YtlgblpngiamhaaaTrackReadF0
import Derived.Test.YtlgblpngiamhaaaAmIg
namespace Go.Proofs.Ytlgblpngiamhaaa.Am
open Go
variable {α : Type}
def intU (n : Int) : U := .int .i64 n
@[simp] theorem intU_size (n : Int) : (intU n).size = 1 := rfl
@[simp] theorem asVar_intU (n : Int) (K : U → Option α) : U.asVar false 1 (intU n) K = K (.int .i64 n) := rfl
@[simp] theorem storable_intU (n : Int) : storable (.val (intU n)) = true := rfl
@[simp] theorem partable_intU (n : Int) : partable (.val (intU n)) = true := rfl
abbrev intsU (l : List Int) : U := .sl 1 (l.map intU)
theorem Edge.eq_iff (x y : Edge) : x = y ↔ x.frm = y.frm ∧ x.to = y.to ∧ x.kind = y.kind ∧ x.key = y.key := by cases x; cases y; simp only [Edge.mk.injEq]
@[simp] theorem Edge.u_size (e : Edge) : e.u.size = 4 := rfl
@[simp] theorem Edge.u_var (e : Edge) (K : U → Option α) : U.asVar true 4 e.u K = K e.u := rfl
@[simp] theorem Edge.u_storable (e : Edge) : storable (.val e.u) = true := rfl
@[simp] theorem Edge.u_partable (e : Edge) : partable (.val e.u) = true := rfl
@[simp] theorem Edge.u_noTup (e : Edge) (K : U → Option α) : U.noTup e.u K = K e.u := rfl
@[simp] theorem Edge.u_agg (e : Edge) (K : List U → Option α) : U.asAgg e.u K = K [.int .i64 e.frm, .int .i64 e.to, .int .i64 e.kind, .int .i64 e.key] := rfl
@[simp] theorem Edge.u_at0 (e : Edge) (K : U → Option α) : U.fieldAt 0 0 e.u K = K (.int .i64 e.frm) := rfl
@[simp] theorem Edge.u_at1 (e : Edge) (K : U → Option α) : U.fieldAt 1 1 e.u K = K (.int .i64 e.to) := rfl
@[simp] theorem Edge.u_at2 (e : Edge) (K : U → Option α) : U.fieldAt 2 2 e.u K = K (.int .i64 e.kind) := rfl
@[simp] theorem Edge.u_at3 (e : Edge) (K : U → Option α) : U.fieldAt 3 3 e.u K = K (.int .i64 e.key) := rfl
@[simp] theorem Edge.u_flat (e : Edge) : e.u.flat = true := rfl
@[simp] theorem Edge.u_asFlat (e : Edge) (K : U → Option α) : U.asFlat e.u K = K e.u := rfl
@[simp] theorem Edge.u_eqv (x y : Edge) : U.eqv 6 x.u y.u = some (decide (x = y)) := by
  obtain ⟨a0, a1, a2, a3⟩ := x
  obtain ⟨b0, b1, b2, b3⟩ := y
  simp only [Edge.mk.injEq]
  show (if 4 = 4 then eqInts _ _ else none) = _
  simp only [if_true, eqInts_cons, eqInts_nil, Option.map_some, Bool.decide_and, Bool.and_true]
  rfl
structure ReadMark where
  key : Int
  created : Int
  deriving DecidableEq
theorem ReadMark.eq_iff (x y : ReadMark) : x = y ↔ x.key = y.key ∧ x.created = y.created := by cases x; cases y; simp only [ReadMark.mk.injEq]
def ReadMark.u (e : ReadMark) : U := .agg [.int .i64 e.key, .int .i64 e.created]
@[simp] theorem ReadMark.u_size (e : ReadMark) : e.u.size = 2 := rfl
@[simp] theorem ReadMark.u_var (e : ReadMark) (K : U → Option α) : U.asVar true 2 e.u K = K e.u := rfl
@[simp] theorem ReadMark.u_storable (e : ReadMark) : storable (.val e.u) = true := rfl
@[simp] theorem ReadMark.u_partable (e : ReadMark) : partable (.val e.u) = true := rfl
@[simp] theorem ReadMark.u_noTup (e : ReadMark) (K : U → Option α) : U.noTup e.u K = K e.u := rfl
@[simp] theorem ReadMark.u_agg (e : ReadMark) (K : List U → Option α) : U.asAgg e.u K = K [.int .i64 e.key, .int .i64 e.created] := rfl
@[simp] theorem ReadMark.u_at0 (e : ReadMark) (K : U → Option α) : U.fieldAt 0 0 e.u K = K (.int .i64 e.key) := rfl
@[simp] theorem ReadMark.u_at1 (e : ReadMark) (K : U → Option α) : U.fieldAt 1 1 e.u K = K (.int .i64 e.created) := rfl
@[simp] theorem ReadMark.u_flat (e : ReadMark) : e.u.flat = true := rfl
@[simp] theorem ReadMark.u_asFlat (e : ReadMark) (K : U → Option α) : U.asFlat e.u K = K e.u := rfl
@[simp] theorem ReadMark.u_eqv (x y : ReadMark) : U.eqv 4 x.u y.u = some (decide (x = y)) := by
  obtain ⟨a0, a1⟩ := x
  obtain ⟨b0, b1⟩ := y
  simp only [ReadMark.mk.injEq]
  show (if 2 = 2 then eqInts _ _ else none) = _
  simp only [if_true, eqInts_cons, eqInts_nil, Option.map_some, Bool.decide_and, Bool.and_true]
  rfl
structure Write where
  key : Int
  value : Int
  deriving DecidableEq
theorem Write.eq_iff (x y : Write) : x = y ↔ x.key = y.key ∧ x.value = y.value := by cases x; cases y; simp only [Write.mk.injEq]
def Write.u (e : Write) : U := .agg [.int .i64 e.key, .int .i64 e.value]
@[simp] theorem Write.u_size (e : Write) : e.u.size = 2 := rfl
@[simp] theorem Write.u_var (e : Write) (K : U → Option α) : U.asVar true 2 e.u K = K e.u := rfl
@[simp] theorem Write.u_storable (e : Write) : storable (.val e.u) = true := rfl
@[simp] theorem Write.u_partable (e : Write) : partable (.val e.u) = true := rfl
@[simp] theorem Write.u_noTup (e : Write) (K : U → Option α) : U.noTup e.u K = K e.u := rfl
@[simp] theorem Write.u_agg (e : Write) (K : List U → Option α) : U.asAgg e.u K = K [.int .i64 e.key, .int .i64 e.value] := rfl
@[simp] theorem Write.u_at0 (e : Write) (K : U → Option α) : U.fieldAt 0 0 e.u K = K (.int .i64 e.key) := rfl
@[simp] theorem Write.u_at1 (e : Write) (K : U → Option α) : U.fieldAt 1 1 e.u K = K (.int .i64 e.value) := rfl
@[simp] theorem Write.u_flat (e : Write) : e.u.flat = true := rfl
@[simp] theorem Write.u_asFlat (e : Write) (K : U → Option α) : U.asFlat e.u K = K e.u := rfl
@[simp] theorem Write.u_eqv (x y : Write) : U.eqv 4 x.u y.u = some (decide (x = y)) := by
  obtain ⟨a0, a1⟩ := x
  obtain ⟨b0, b1⟩ := y
  simp only [Write.mk.injEq]
  show (if 2 = 2 then eqInts _ _ else none) = _
  simp only [if_true, eqInts_cons, eqInts_nil, Option.map_some, Bool.decide_and, Bool.and_true]
  rfl
structure Lock where
  key : Int
  owner : Int
  deriving DecidableEq
theorem Lock.eq_iff (x y : Lock) : x = y ↔ x.key = y.key ∧ x.owner = y.owner := by cases x; cases y; simp only [Lock.mk.injEq]
def Lock.u (e : Lock) : U := .agg [.int .i64 e.key, .int .i64 e.owner]
@[simp] theorem Lock.u_size (e : Lock) : e.u.size = 2 := rfl
@[simp] theorem Lock.u_var (e : Lock) (K : U → Option α) : U.asVar true 2 e.u K = K e.u := rfl
@[simp] theorem Lock.u_storable (e : Lock) : storable (.val e.u) = true := rfl
@[simp] theorem Lock.u_partable (e : Lock) : partable (.val e.u) = true := rfl
@[simp] theorem Lock.u_noTup (e : Lock) (K : U → Option α) : U.noTup e.u K = K e.u := rfl
@[simp] theorem Lock.u_agg (e : Lock) (K : List U → Option α) : U.asAgg e.u K = K [.int .i64 e.key, .int .i64 e.owner] := rfl
@[simp] theorem Lock.u_at0 (e : Lock) (K : U → Option α) : U.fieldAt 0 0 e.u K = K (.int .i64 e.key) := rfl
@[simp] theorem Lock.u_at1 (e : Lock) (K : U → Option α) : U.fieldAt 1 1 e.u K = K (.int .i64 e.owner) := rfl
@[simp] theorem Lock.u_flat (e : Lock) : e.u.flat = true := rfl
@[simp] theorem Lock.u_asFlat (e : Lock) (K : U → Option α) : U.asFlat e.u K = K e.u := rfl
@[simp] theorem Lock.u_eqv (x y : Lock) : U.eqv 4 x.u y.u = some (decide (x = y)) := by
  obtain ⟨a0, a1⟩ := x
  obtain ⟨b0, b1⟩ := y
  simp only [Lock.mk.injEq]
  show (if 2 = 2 then eqInts _ _ else none) = _
  simp only [if_true, eqInts_cons, eqInts_nil, Option.map_some, Bool.decide_and, Bool.and_true]
  rfl
structure Wait where
  id : Int
  for_ : Int
  deriving DecidableEq
theorem Wait.eq_iff (x y : Wait) : x = y ↔ x.id = y.id ∧ x.for_ = y.for_ := by cases x; cases y; simp only [Wait.mk.injEq]
def Wait.u (e : Wait) : U := .agg [.int .i64 e.id, .int .i64 e.for_]
@[simp] theorem Wait.u_size (e : Wait) : e.u.size = 2 := rfl
@[simp] theorem Wait.u_var (e : Wait) (K : U → Option α) : U.asVar true 2 e.u K = K e.u := rfl
@[simp] theorem Wait.u_storable (e : Wait) : storable (.val e.u) = true := rfl
@[simp] theorem Wait.u_partable (e : Wait) : partable (.val e.u) = true := rfl
@[simp] theorem Wait.u_noTup (e : Wait) (K : U → Option α) : U.noTup e.u K = K e.u := rfl
@[simp] theorem Wait.u_agg (e : Wait) (K : List U → Option α) : U.asAgg e.u K = K [.int .i64 e.id, .int .i64 e.for_] := rfl
@[simp] theorem Wait.u_at0 (e : Wait) (K : U → Option α) : U.fieldAt 0 0 e.u K = K (.int .i64 e.id) := rfl
@[simp] theorem Wait.u_at1 (e : Wait) (K : U → Option α) : U.fieldAt 1 1 e.u K = K (.int .i64 e.for_) := rfl
@[simp] theorem Wait.u_flat (e : Wait) : e.u.flat = true := rfl
@[simp] theorem Wait.u_asFlat (e : Wait) (K : U → Option α) : U.asFlat e.u K = K e.u := rfl
@[simp] theorem Wait.u_eqv (x y : Wait) : U.eqv 4 x.u y.u = some (decide (x = y)) := by
  obtain ⟨a0, a1⟩ := x
  obtain ⟨b0, b1⟩ := y
  simp only [Wait.mk.injEq]
  show (if 2 = 2 then eqInts _ _ else none) = _
  simp only [if_true, eqInts_cons, eqInts_nil, Option.map_some, Bool.decide_and, Bool.and_true]
  rfl
structure Version where
  writer : Int
  value : Int
  created : Int
  reader : Int
  successor : Int
  deriving DecidableEq
theorem Version.eq_iff (x y : Version) : x = y ↔ x.writer = y.writer ∧ x.value = y.value ∧ x.created = y.created ∧ x.reader = y.reader ∧ x.successor = y.successor := by cases x; cases y; simp only [Version.mk.injEq]
def Version.u (e : Version) : U := .agg [.int .i64 e.writer, .int .i64 e.value, .int .i64 e.created, .int .i64 e.reader, .int .i64 e.successor]
@[simp] theorem Version.u_size (e : Version) : e.u.size = 5 := rfl
@[simp] theorem Version.u_var (e : Version) (K : U → Option α) : U.asVar true 5 e.u K = K e.u := rfl
@[simp] theorem Version.u_storable (e : Version) : storable (.val e.u) = true := rfl
@[simp] theorem Version.u_partable (e : Version) : partable (.val e.u) = true := rfl
@[simp] theorem Version.u_noTup (e : Version) (K : U → Option α) : U.noTup e.u K = K e.u := rfl
@[simp] theorem Version.u_agg (e : Version) (K : List U → Option α) : U.asAgg e.u K = K [.int .i64 e.writer, .int .i64 e.value, .int .i64 e.created, .int .i64 e.reader, .int .i64 e.successor] := rfl
@[simp] theorem Version.u_at0 (e : Version) (K : U → Option α) : U.fieldAt 0 0 e.u K = K (.int .i64 e.writer) := rfl
@[simp] theorem Version.u_at1 (e : Version) (K : U → Option α) : U.fieldAt 1 1 e.u K = K (.int .i64 e.value) := rfl
@[simp] theorem Version.u_at2 (e : Version) (K : U → Option α) : U.fieldAt 2 2 e.u K = K (.int .i64 e.created) := rfl
@[simp] theorem Version.u_at3 (e : Version) (K : U → Option α) : U.fieldAt 3 3 e.u K = K (.int .i64 e.reader) := rfl
@[simp] theorem Version.u_at4 (e : Version) (K : U → Option α) : U.fieldAt 4 4 e.u K = K (.int .i64 e.successor) := rfl
@[simp] theorem Version.u_flat (e : Version) : e.u.flat = true := rfl
@[simp] theorem Version.u_asFlat (e : Version) (K : U → Option α) : U.asFlat e.u K = K e.u := rfl
@[simp] theorem Version.u_eqv (x y : Version) : U.eqv 7 x.u y.u = some (decide (x = y)) := by
  obtain ⟨a0, a1, a2, a3, a4⟩ := x
  obtain ⟨b0, b1, b2, b3, b4⟩ := y
  simp only [Version.mk.injEq]
  show (if 5 = 5 then eqInts _ _ else none) = _
  simp only [if_true, eqInts_cons, eqInts_nil, Option.map_some, Bool.decide_and, Bool.and_true]
  rfl
structure Entry where
  id : Int
  stamp : Int
  reads : List ReadMark
  writes : List Write
  deriving DecidableEq
theorem Entry.eq_iff (x y : Entry) : x = y ↔ x.id = y.id ∧ x.stamp = y.stamp ∧ x.reads = y.reads ∧ x.writes = y.writes := by cases x; cases y; simp only [Entry.mk.injEq]
def Entry.u (e : Entry) : U := .agg [.int .i64 e.id, .int .i64 e.stamp, .sl 2 (e.reads.map ReadMark.u), .sl 2 (e.writes.map Write.u)]
@[simp] theorem Entry.u_size (e : Entry) : e.u.size = 4 := rfl
@[simp] theorem Entry.u_var (e : Entry) (K : U → Option α) : U.asVar true 4 e.u K = K e.u := rfl
@[simp] theorem Entry.u_storable (e : Entry) : storable (.val e.u) = true := rfl
@[simp] theorem Entry.u_partable (e : Entry) : partable (.val e.u) = true := rfl
@[simp] theorem Entry.u_noTup (e : Entry) (K : U → Option α) : U.noTup e.u K = K e.u := rfl
@[simp] theorem Entry.u_agg (e : Entry) (K : List U → Option α) : U.asAgg e.u K = K [.int .i64 e.id, .int .i64 e.stamp, .sl 2 (e.reads.map ReadMark.u), .sl 2 (e.writes.map Write.u)] := rfl
@[simp] theorem Entry.u_at0 (e : Entry) (K : U → Option α) : U.fieldAt 0 0 e.u K = K (.int .i64 e.id) := rfl
@[simp] theorem Entry.u_at1 (e : Entry) (K : U → Option α) : U.fieldAt 1 1 e.u K = K (.int .i64 e.stamp) := rfl
@[simp] theorem Entry.u_at2 (e : Entry) (K : U → Option α) : U.fieldAt 2 2 e.u K = K (.sl 2 (e.reads.map ReadMark.u)) := rfl
@[simp] theorem Entry.u_at3 (e : Entry) (K : U → Option α) : U.fieldAt 3 3 e.u K = K (.sl 2 (e.writes.map Write.u)) := rfl
structure LogRecord where
  stamp : Int
  id : Int
  high : Int
  safe : Int
  reads : List ReadMark
  writes : List Write
  deriving DecidableEq
theorem LogRecord.eq_iff (x y : LogRecord) : x = y ↔ x.stamp = y.stamp ∧ x.id = y.id ∧ x.high = y.high ∧ x.safe = y.safe ∧ x.reads = y.reads ∧ x.writes = y.writes := by cases x; cases y; simp only [LogRecord.mk.injEq]
def LogRecord.u (e : LogRecord) : U := .agg [.int .i64 e.stamp, .int .i64 e.id, .int .i64 e.high, .int .i64 e.safe, .sl 2 (e.reads.map ReadMark.u), .sl 2 (e.writes.map Write.u)]
@[simp] theorem LogRecord.u_size (e : LogRecord) : e.u.size = 6 := rfl
@[simp] theorem LogRecord.u_var (e : LogRecord) (K : U → Option α) : U.asVar true 6 e.u K = K e.u := rfl
@[simp] theorem LogRecord.u_storable (e : LogRecord) : storable (.val e.u) = true := rfl
@[simp] theorem LogRecord.u_partable (e : LogRecord) : partable (.val e.u) = true := rfl
@[simp] theorem LogRecord.u_noTup (e : LogRecord) (K : U → Option α) : U.noTup e.u K = K e.u := rfl
@[simp] theorem LogRecord.u_agg (e : LogRecord) (K : List U → Option α) : U.asAgg e.u K = K [.int .i64 e.stamp, .int .i64 e.id, .int .i64 e.high, .int .i64 e.safe, .sl 2 (e.reads.map ReadMark.u), .sl 2 (e.writes.map Write.u)] := rfl
@[simp] theorem LogRecord.u_at0 (e : LogRecord) (K : U → Option α) : U.fieldAt 0 0 e.u K = K (.int .i64 e.stamp) := rfl
@[simp] theorem LogRecord.u_at1 (e : LogRecord) (K : U → Option α) : U.fieldAt 1 1 e.u K = K (.int .i64 e.id) := rfl
@[simp] theorem LogRecord.u_at2 (e : LogRecord) (K : U → Option α) : U.fieldAt 2 2 e.u K = K (.int .i64 e.high) := rfl
@[simp] theorem LogRecord.u_at3 (e : LogRecord) (K : U → Option α) : U.fieldAt 3 3 e.u K = K (.int .i64 e.safe) := rfl
@[simp] theorem LogRecord.u_at4 (e : LogRecord) (K : U → Option α) : U.fieldAt 4 4 e.u K = K (.sl 2 (e.reads.map ReadMark.u)) := rfl
@[simp] theorem LogRecord.u_at5 (e : LogRecord) (K : U → Option α) : U.fieldAt 5 5 e.u K = K (.sl 2 (e.writes.map Write.u)) := rfl
structure Transaction where
  id : Int
  scheme : Int
  state : Int
  begin_ : Int
  low : Int
  high : Int
  commit : Int
  reads : List ReadMark
  writes : List Write
  deriving DecidableEq
theorem Transaction.eq_iff (x y : Transaction) : x = y ↔ x.id = y.id ∧ x.scheme = y.scheme ∧ x.state = y.state ∧ x.begin_ = y.begin_ ∧ x.low = y.low ∧ x.high = y.high ∧ x.commit = y.commit ∧ x.reads = y.reads ∧ x.writes = y.writes := by cases x; cases y; simp only [Transaction.mk.injEq]
def Transaction.u (e : Transaction) : U := .agg [.int .i64 e.id, .int .i64 e.scheme, .int .i64 e.state, .int .i64 e.begin_, .int .i64 e.low, .int .i64 e.high, .int .i64 e.commit, .sl 2 (e.reads.map ReadMark.u), .sl 2 (e.writes.map Write.u)]
@[simp] theorem Transaction.u_size (e : Transaction) : e.u.size = 9 := rfl
@[simp] theorem Transaction.u_var (e : Transaction) (K : U → Option α) : U.asVar true 9 e.u K = K e.u := rfl
@[simp] theorem Transaction.u_storable (e : Transaction) : storable (.val e.u) = true := rfl
@[simp] theorem Transaction.u_partable (e : Transaction) : partable (.val e.u) = true := rfl
@[simp] theorem Transaction.u_noTup (e : Transaction) (K : U → Option α) : U.noTup e.u K = K e.u := rfl
@[simp] theorem Transaction.u_agg (e : Transaction) (K : List U → Option α) : U.asAgg e.u K = K [.int .i64 e.id, .int .i64 e.scheme, .int .i64 e.state, .int .i64 e.begin_, .int .i64 e.low, .int .i64 e.high, .int .i64 e.commit, .sl 2 (e.reads.map ReadMark.u), .sl 2 (e.writes.map Write.u)] := rfl
@[simp] theorem Transaction.u_at0 (e : Transaction) (K : U → Option α) : U.fieldAt 0 0 e.u K = K (.int .i64 e.id) := rfl
@[simp] theorem Transaction.u_at1 (e : Transaction) (K : U → Option α) : U.fieldAt 1 1 e.u K = K (.int .i64 e.scheme) := rfl
@[simp] theorem Transaction.u_at2 (e : Transaction) (K : U → Option α) : U.fieldAt 2 2 e.u K = K (.int .i64 e.state) := rfl
@[simp] theorem Transaction.u_at3 (e : Transaction) (K : U → Option α) : U.fieldAt 3 3 e.u K = K (.int .i64 e.begin_) := rfl
@[simp] theorem Transaction.u_at4 (e : Transaction) (K : U → Option α) : U.fieldAt 4 4 e.u K = K (.int .i64 e.low) := rfl
@[simp] theorem Transaction.u_at5 (e : Transaction) (K : U → Option α) : U.fieldAt 5 5 e.u K = K (.int .i64 e.high) := rfl
@[simp] theorem Transaction.u_at6 (e : Transaction) (K : U → Option α) : U.fieldAt 6 6 e.u K = K (.int .i64 e.commit) := rfl
@[simp] theorem Transaction.u_at7 (e : Transaction) (K : U → Option α) : U.fieldAt 7 7 e.u K = K (.sl 2 (e.reads.map ReadMark.u)) := rfl
@[simp] theorem Transaction.u_at8 (e : Transaction) (K : U → Option α) : U.fieldAt 8 8 e.u K = K (.sl 2 (e.writes.map Write.u)) := rfl
structure Op where
  kind : Int
  id : Int
  scheme : Int
  key : Int
  high : Int
  value : Int
  deriving DecidableEq
theorem Op.eq_iff (x y : Op) : x = y ↔ x.kind = y.kind ∧ x.id = y.id ∧ x.scheme = y.scheme ∧ x.key = y.key ∧ x.high = y.high ∧ x.value = y.value := by cases x; cases y; simp only [Op.mk.injEq]
def Op.u (e : Op) : U := .agg [.int .i64 e.kind, .int .i64 e.id, .int .i64 e.scheme, .int .i64 e.key, .int .i64 e.high, .int .i64 e.value]
@[simp] theorem Op.u_size (e : Op) : e.u.size = 6 := rfl
@[simp] theorem Op.u_var (e : Op) (K : U → Option α) : U.asVar true 6 e.u K = K e.u := rfl
@[simp] theorem Op.u_storable (e : Op) : storable (.val e.u) = true := rfl
@[simp] theorem Op.u_partable (e : Op) : partable (.val e.u) = true := rfl
@[simp] theorem Op.u_noTup (e : Op) (K : U → Option α) : U.noTup e.u K = K e.u := rfl
@[simp] theorem Op.u_agg (e : Op) (K : List U → Option α) : U.asAgg e.u K = K [.int .i64 e.kind, .int .i64 e.id, .int .i64 e.scheme, .int .i64 e.key, .int .i64 e.high, .int .i64 e.value] := rfl
@[simp] theorem Op.u_at0 (e : Op) (K : U → Option α) : U.fieldAt 0 0 e.u K = K (.int .i64 e.kind) := rfl
@[simp] theorem Op.u_at1 (e : Op) (K : U → Option α) : U.fieldAt 1 1 e.u K = K (.int .i64 e.id) := rfl
@[simp] theorem Op.u_at2 (e : Op) (K : U → Option α) : U.fieldAt 2 2 e.u K = K (.int .i64 e.scheme) := rfl
@[simp] theorem Op.u_at3 (e : Op) (K : U → Option α) : U.fieldAt 3 3 e.u K = K (.int .i64 e.key) := rfl
@[simp] theorem Op.u_at4 (e : Op) (K : U → Option α) : U.fieldAt 4 4 e.u K = K (.int .i64 e.high) := rfl
@[simp] theorem Op.u_at5 (e : Op) (K : U → Option α) : U.fieldAt 5 5 e.u K = K (.int .i64 e.value) := rfl
@[simp] theorem Op.u_flat (e : Op) : e.u.flat = true := rfl
@[simp] theorem Op.u_asFlat (e : Op) (K : U → Option α) : U.asFlat e.u K = K e.u := rfl
@[simp] theorem Op.u_eqv (x y : Op) : U.eqv 8 x.u y.u = some (decide (x = y)) := by
  obtain ⟨a0, a1, a2, a3, a4, a5⟩ := x
  obtain ⟨b0, b1, b2, b3, b4, b5⟩ := y
  simp only [Op.mk.injEq]
  show (if 6 = 6 then eqInts _ _ else none) = _
  simp only [if_true, eqInts_cons, eqInts_nil, Option.map_some, Bool.decide_and, Bool.and_true]
  rfl
structure StepR where
  code : Int
  values : List Int
  deriving DecidableEq
theorem StepR.eq_iff (x y : StepR) : x = y ↔ x.code = y.code ∧ x.values = y.values := by cases x; cases y; simp only [StepR.mk.injEq]
def StepR.u (e : StepR) : U := .agg [.int .i64 e.code, .sl 1 (e.values.map intU)]
@[simp] theorem StepR.u_size (e : StepR) : e.u.size = 2 := rfl
@[simp] theorem StepR.u_var (e : StepR) (K : U → Option α) : U.asVar true 2 e.u K = K e.u := rfl
@[simp] theorem StepR.u_storable (e : StepR) : storable (.val e.u) = true := rfl
@[simp] theorem StepR.u_partable (e : StepR) : partable (.val e.u) = true := rfl
@[simp] theorem StepR.u_noTup (e : StepR) (K : U → Option α) : U.noTup e.u K = K e.u := rfl
@[simp] theorem StepR.u_agg (e : StepR) (K : List U → Option α) : U.asAgg e.u K = K [.int .i64 e.code, .sl 1 (e.values.map intU)] := rfl
@[simp] theorem StepR.u_at0 (e : StepR) (K : U → Option α) : U.fieldAt 0 0 e.u K = K (.int .i64 e.code) := rfl
@[simp] theorem StepR.u_at1 (e : StepR) (K : U → Option α) : U.fieldAt 1 1 e.u K = K (.sl 1 (e.values.map intU)) := rfl
def chainU (l : List Version) : U := .sl 5 (l.map Version.u)
@[simp] theorem chainU_size (l : List Version) : (chainU l).size = 1 := rfl
@[simp] theorem asVar_chainU (l : List Version) (K : U → Option α) : U.asVar false 1 (chainU l) K = K (chainU l) := rfl
@[simp] theorem storable_chainU (l : List Version) : storable (.val (chainU l)) = true := rfl
@[simp] theorem partable_chainU (l : List Version) : partable (.val (chainU l)) = true := rfl
@[simp] theorem noTup_chainU (l : List Version) (K : U → Option α) : U.noTup (chainU l) K = K (chainU l) := rfl
@[simp] theorem lenOf_chainU (l : List Version) : U.lenOf false (chainU l) = some l.length := by simp [chainU]
@[simp] theorem elemAt_chainU (l : List Version) (i : Int) (K : U → Option α) : U.elemAt 5 (chainU l) i K = U.elemAt 5 (.sl 5 (l.map Version.u)) i K := rfl
structure Store where
  chains : List (List Version)
  deriving DecidableEq
theorem Store.eq_iff (x y : Store) : x = y ↔ x.chains = y.chains := by cases x; cases y; simp only [Store.mk.injEq]
def Store.u (e : Store) : U := .agg [.sl 1 (e.chains.map chainU)]
@[simp] theorem Store.u_size (e : Store) : e.u.size = 1 := rfl
@[simp] theorem Store.u_var (e : Store) (K : U → Option α) : U.asVar true 1 e.u K = K e.u := rfl
@[simp] theorem Store.u_storable (e : Store) : storable (.val e.u) = true := rfl
@[simp] theorem Store.u_partable (e : Store) : partable (.val e.u) = true := rfl
@[simp] theorem Store.u_noTup (e : Store) (K : U → Option α) : U.noTup e.u K = K e.u := rfl
@[simp] theorem Store.u_agg (e : Store) (K : List U → Option α) : U.asAgg e.u K = K [.sl 1 (e.chains.map chainU)] := rfl
@[simp] theorem Store.u_at0 (e : Store) (K : U → Option α) : U.fieldAt 0 0 e.u K = K (.sl 1 (e.chains.map chainU)) := rfl
structure Engine where
  certify : Bool
  store : Store
  transactions : List Transaction
  locks : List Lock
  waits : List Wait
  stamp : Int
  deriving DecidableEq
theorem Engine.eq_iff (x y : Engine) : x = y ↔ x.certify = y.certify ∧ x.store = y.store ∧ x.transactions = y.transactions ∧ x.locks = y.locks ∧ x.waits = y.waits ∧ x.stamp = y.stamp := by cases x; cases y; simp only [Engine.mk.injEq]
def Engine.u (e : Engine) : U := .agg [.bool e.certify, e.store.u, .sl 9 (e.transactions.map Transaction.u), .sl 2 (e.locks.map Lock.u), .sl 2 (e.waits.map Wait.u), .int .i64 e.stamp]
@[simp] theorem Engine.u_size (e : Engine) : e.u.size = 6 := rfl
@[simp] theorem Engine.u_var (e : Engine) (K : U → Option α) : U.asVar true 6 e.u K = K e.u := rfl
@[simp] theorem Engine.u_storable (e : Engine) : storable (.val e.u) = true := rfl
@[simp] theorem Engine.u_partable (e : Engine) : partable (.val e.u) = true := rfl
@[simp] theorem Engine.u_noTup (e : Engine) (K : U → Option α) : U.noTup e.u K = K e.u := rfl
@[simp] theorem Engine.u_agg (e : Engine) (K : List U → Option α) : U.asAgg e.u K = K [.bool e.certify, e.store.u, .sl 9 (e.transactions.map Transaction.u), .sl 2 (e.locks.map Lock.u), .sl 2 (e.waits.map Wait.u), .int .i64 e.stamp] := rfl
@[simp] theorem Engine.u_at0 (e : Engine) (K : U → Option α) : U.fieldAt 0 0 e.u K = K (.bool e.certify) := rfl
@[simp] theorem Engine.u_at1 (e : Engine) (K : U → Option α) : U.fieldAt 1 1 e.u K = K (e.store.u) := rfl
@[simp] theorem Engine.u_at2 (e : Engine) (K : U → Option α) : U.fieldAt 2 2 e.u K = K (.sl 9 (e.transactions.map Transaction.u)) := rfl
@[simp] theorem Engine.u_at3 (e : Engine) (K : U → Option α) : U.fieldAt 3 3 e.u K = K (.sl 2 (e.locks.map Lock.u)) := rfl
@[simp] theorem Engine.u_at4 (e : Engine) (K : U → Option α) : U.fieldAt 4 4 e.u K = K (.sl 2 (e.waits.map Wait.u)) := rfl
@[simp] theorem Engine.u_at5 (e : Engine) (K : U → Option α) : U.fieldAt 5 5 e.u K = K (.int .i64 e.stamp) := rfl
structure Node where
  engine : Engine
  log : ByteArray
  deriving DecidableEq
theorem Node.eq_iff (x y : Node) : x = y ↔ x.engine = y.engine ∧ x.log = y.log := by cases x; cases y; simp only [Node.mk.injEq]
def Node.u (e : Node) : U := .agg [e.engine.u, .str e.log]
@[simp] theorem Node.u_size (e : Node) : e.u.size = 7 := rfl
@[simp] theorem Node.u_var (e : Node) (K : U → Option α) : U.asVar true 7 e.u K = K e.u := rfl
@[simp] theorem Node.u_storable (e : Node) : storable (.val e.u) = true := rfl
@[simp] theorem Node.u_partable (e : Node) : partable (.val e.u) = true := rfl
@[simp] theorem Node.u_noTup (e : Node) (K : U → Option α) : U.noTup e.u K = K e.u := rfl
@[simp] theorem Node.u_agg (e : Node) (K : List U → Option α) : U.asAgg e.u K = K [e.engine.u, .str e.log] := rfl
@[simp] theorem Node.u_at0 (e : Node) (K : U → Option α) : U.fieldAt 0 0 e.u K = K (e.engine.u) := rfl
@[simp] theorem Node.u_at1 (e : Node) (K : U → Option α) : U.fieldAt 1 6 e.u K = K (.str e.log) := rfl
structure Report where
  order : List Int
  cycle : List Int
  kind : Int
  deriving DecidableEq
theorem Report.eq_iff (x y : Report) : x = y ↔ x.order = y.order ∧ x.cycle = y.cycle ∧ x.kind = y.kind := by cases x; cases y; simp only [Report.mk.injEq]
def Report.u (e : Report) : U := .agg [.sl 1 (e.order.map intU), .sl 1 (e.cycle.map intU), .int .i64 e.kind]
@[simp] theorem Report.u_size (e : Report) : e.u.size = 3 := rfl
@[simp] theorem Report.u_var (e : Report) (K : U → Option α) : U.asVar true 3 e.u K = K e.u := rfl
@[simp] theorem Report.u_storable (e : Report) : storable (.val e.u) = true := rfl
@[simp] theorem Report.u_partable (e : Report) : partable (.val e.u) = true := rfl
@[simp] theorem Report.u_noTup (e : Report) (K : U → Option α) : U.noTup e.u K = K e.u := rfl
@[simp] theorem Report.u_agg (e : Report) (K : List U → Option α) : U.asAgg e.u K = K [.sl 1 (e.order.map intU), .sl 1 (e.cycle.map intU), .int .i64 e.kind] := rfl
@[simp] theorem Report.u_at0 (e : Report) (K : U → Option α) : U.fieldAt 0 0 e.u K = K (.sl 1 (e.order.map intU)) := rfl
@[simp] theorem Report.u_at1 (e : Report) (K : U → Option α) : U.fieldAt 1 1 e.u K = K (.sl 1 (e.cycle.map intU)) := rfl
@[simp] theorem Report.u_at2 (e : Report) (K : U → Option α) : U.fieldAt 2 2 e.u K = K (.int .i64 e.kind) := rfl
variable {E : Env}
def inR (n lo hi : Int) : Bool := decide (lo ≤ n ∧ n ≤ hi)
theorem f49_is (h : G_f49 E) (n lo hi : Int) : E 6 [.int .i64 n, .int .i64 lo, .int .i64 hi] = some (.bool (inR n lo hi)) := by
  rw [f49_E h]
  by_cases h1 : lo ≤ n <;> simp [inR, h1]
theorem f15_is (h : G_f15 E) (n lo hi : Int) : E 10 [.int .i64 n, .int .i64 lo, .int .i64 hi] = some (.bool (inR n lo hi)) := by
  rw [f15_E h]
  by_cases h1 : lo ≤ n <;> simp [inR, h1]
theorem f16_is (h : G_f16 E) (n : Int) : E 9 [.int .i64 n] = some (.bool (inR n 1 9)) := by
  rw [f16_E h]; simp [f15_is h.c_f15]
theorem f17_is (h : G_f17 E) (n : Int) : E 11 [.int .i64 n] = some (.bool (inR n 0 5)) := by
  rw [f17_E h]; simp [f15_is h.c_f15]
def cmpI (a b : Int) : Int := if a < b then -1 else if b < a then 1 else 0
theorem cmp_isNaN_is (h : G_f2 E) (n : Int) : E 15 [.int .i64 n] = some (.bool false) := by
  rw [f2_E h]; simp
theorem cmp_Compare_is (h : G_f0 E) (a b : Int) : E 13 [.int .i64 a, .int .i64 b] = some (.int .i64 (cmpI a b)) := by
  rw [f0_E h]
  simp only [cmp_isNaN_is h.c_f2, cmpI]
  by_cases h1 : a < b <;> by_cases h2 : b < a <;> simp [h1, h2]
def cmpOr : List Int → Int
  | [] => 0
  | n :: l => if n = 0 then cmpOr l else n
theorem cmp_Or_l0_is (l : List Int) (hl : l.length ≤ 1000) : ∀ (r p : List Int) (i : Int), l = p ++ r → i = p.length → f1_l0 E (.int .i64 0) (intsU l) (.int .i64 l.length) (.int .i64 i) = some (.int .i64 (cmpOr r))
  | [], p, i, e, hi => by
    rw [f1_l0_eq]
    simp [mid_end e hi, cmpOr]
  | x :: r, p, i, e, hi => by
    obtain ⟨h0, hlt, hx, hw, hn, _⟩ := mid_at e hi (by omega)
    have ih := cmp_Or_l0_is l hl r (p ++ [x]) (i + 1) (mid_next e) hn
    rw [f1_l0_eq]
    simp [h0, hlt, hx, hw, cmpOr, ih]
    split <;> simp_all
theorem cmp_Or_is (h : G_f1 E) (l : List Int) (hl : l.length ≤ 1000) : E 14 [intsU l] = some (.int .i64 (cmpOr l)) := by
  rw [f1_E h]
  simp [cmp_Or_l0_is (E := E) l hl l [] 0 rfl rfl]
def LogRecord.tx (r : LogRecord) : Transaction := ⟨r.id, 1, 2, 0, 0, r.high, r.stamp, r.reads, r.writes⟩
def szc (n : Nat) (left : Int) : Int := if left - n < 0 then -1 else left - n
def szl {α : Type} (f : α → Int → Int) : List α → Int → Int
  | [], left => left
  | x :: r, left => if f x left < 0 then -1 else szl f r (f x left)
def szL {α : Type} (f : α → Int → Int) (l : List α) (left : Int) : Int := if left - (l.length : Int) < 0 then -1 else szl f l (left - l.length)
def Szs {α : Type} (f : α → Int → Int) (ok : α → Prop) : Prop := ∀ x left, 0 ≤ left → left ≤ 1048576 → f x left < 0 ∨ (ok x ∧ 0 ≤ f x left ∧ f x left ≤ left)
theorem szc_szs : Szs szc (fun n => n ≤ 1048576) := fun n left h0 h1 => by
  unfold szc
  split
  · left; omega
  · right; refine ⟨by omega, by omega, by omega⟩
theorem szc_neg {n : Nat} {left : Int} (h : szc n left < 0) : szc n left = -1 := by
  unfold szc at h ⊢
  split at h
  · rename_i h1; rw [if_pos h1]
  · rename_i h1; omega
theorem szl_szs {α : Type} {f : α → Int → Int} {ok : α → Prop} (h : Szs f ok) : Szs (szl f) (fun l => ∀ x ∈ l, ok x) := fun l => by
  induction l with
  | nil => exact fun left h0 _ => .inr ⟨by simp, h0, Int.le_refl _⟩
  | cons x r ih =>
    intro left h0 h1
    rcases h x left h0 h1 with h2 | ⟨h2, h3, h4⟩
    · left; simp [szl, h2]
    · have h5 : ¬ f x left < 0 := by omega
      simp only [szl, h5, if_false]
      rcases ih _ h3 (by omega) with h6 | ⟨h6, h7, h8⟩
      · exact .inl h6
      · exact .inr ⟨by simpa using ⟨h2, h6⟩, h7, by omega⟩
theorem szL_szs {α : Type} {f : α → Int → Int} {ok : α → Prop} (h : Szs f ok) : Szs (szL f) (fun l => l.length ≤ 1048576 ∧ ∀ x ∈ l, ok x) := fun l left h0 h1 => by
  unfold szL
  split
  · left; omega
  · rcases szl_szs h l (left - l.length) (by omega) (by omega) with h6 | ⟨h6, h7, h8⟩
    · exact .inl h6
    · exact .inr ⟨⟨by omega, h6⟩, h7, by omega⟩
theorem mid_set {α : Type} (f : α → U) (p : List α) (z : U) (c : List U) {i : Int} (hi : i = p.length) :
    (p.map f ++ z :: c)[i.toNat]? = some z ∧ (∀ y, (p.map f ++ z :: c).set i.toNat y = p.map f ++ y :: c) ∧ i < ((p.map f ++ z :: c).length : Int) := by
  subst hi
  refine ⟨by simp, fun y => by simp, by simp; omega⟩
def Entry.fit (e : Entry) : Prop := e.reads.length ≤ maxLen ∧ e.writes.length ≤ maxLen
def Entry.ok (e : Entry) : Prop := e.reads.length ≤ 1048576 ∧ e.writes.length ≤ 1048576
def LogRecord.fit (e : LogRecord) : Prop := e.reads.length ≤ maxLen ∧ e.writes.length ≤ maxLen
def LogRecord.ok (e : LogRecord) : Prop := e.reads.length ≤ 1048576 ∧ e.writes.length ≤ 1048576
def Transaction.fit (e : Transaction) : Prop := e.reads.length ≤ maxLen ∧ e.writes.length ≤ maxLen
def Transaction.ok (e : Transaction) : Prop := e.reads.length ≤ 1048576 ∧ e.writes.length ≤ 1048576
def chainOk (l : List Version) : Prop := l.length ≤ 1048576
def chainFit (l : List Version) : Prop := l.length ≤ maxLen
def chainSz (l : List Version) (left : Int) : Int := szc l.length left
theorem chainSz_szs : Szs chainSz chainOk := fun l left h0 h1 => szc_szs l.length left h0 h1
def Store.fit (s : Store) : Prop := s.chains.length ≤ maxLen ∧ ∀ c ∈ s.chains, chainFit c
def Store.ok (s : Store) : Prop := s.chains.length ≤ 1048576 ∧ ∀ c ∈ s.chains, chainOk c
def Store.sz (s : Store) (left : Int) : Int := szL chainSz s.chains left
theorem Store.sz_szs : Szs Store.sz Store.ok := fun s left h0 h1 => szL_szs chainSz_szs s.chains left h0 h1
def Transaction.sz (e : Transaction) (left : Int) : Int := let v := szc e.reads.length left; if v < 0 then -1 else szc e.writes.length v
theorem Transaction.sz_szs : Szs Transaction.sz Transaction.ok := fun e left h0 h1 => by
  unfold Transaction.sz Transaction.ok
  rcases szc_szs e.reads.length left h0 h1 with h | ⟨h2, h3, h4⟩
  · left; simp [h]
  · have h5 : ¬ szc e.reads.length left < 0 := by omega
    rcases szc_szs e.writes.length _ h3 (by omega) with h | ⟨h6, h7, h8⟩
    · left; simp [h5, h]
    · right; simp only [h5, if_false]; exact ⟨⟨h2, h6⟩, h7, by omega⟩
def Engine.fit (e : Engine) : Prop := e.store.fit ∧ e.transactions.length ≤ maxLen ∧ (∀ t ∈ e.transactions, t.fit) ∧ e.locks.length ≤ maxLen ∧ e.waits.length ≤ maxLen
def Engine.ok (e : Engine) : Prop := e.store.ok ∧ e.transactions.length ≤ 1048576 ∧ (∀ t ∈ e.transactions, t.ok) ∧ e.locks.length ≤ 1048576 ∧ e.waits.length ≤ 1048576
def Engine.sz (e : Engine) (left : Int) : Int :=
  if e.store.sz left < 0 then -1 else
  if szL Transaction.sz e.transactions (e.store.sz left) < 0 then -1 else
  if szc e.locks.length (szL Transaction.sz e.transactions (e.store.sz left)) < 0 then -1 else
  szc e.waits.length (szc e.locks.length (szL Transaction.sz e.transactions (e.store.sz left)))
theorem Engine.sz_szs : Szs Engine.sz Engine.ok := fun e left h0 h1 => by
  unfold Engine.sz Engine.ok
  rcases Store.sz_szs e.store left h0 h1 with n1 | ⟨o1, n1, n2⟩
  · left; simp [n1]
  have n3 : ¬ e.store.sz left < 0 := by omega
  rcases szL_szs Transaction.sz_szs e.transactions _ n1 (by omega) with m1 | ⟨⟨o2, o3⟩, m1, m2⟩
  · left; simp [n3, m1]
  have m3 : ¬ szL Transaction.sz e.transactions (e.store.sz left) < 0 := by omega
  rcases szc_szs e.locks.length _ m1 (by omega) with k1 | ⟨o4, k1, k2⟩
  · left; simp [n3, m3, k1]
  have k3 : ¬ szc e.locks.length (szL Transaction.sz e.transactions (e.store.sz left)) < 0 := by omega
  rcases szc_szs e.waits.length _ k1 (by omega) with j1 | ⟨o5, j1, j2⟩
  · left; simp [n3, m3, k3, j1]
  · right
    simp only [n3, m3, k3, if_false]
    exact ⟨⟨o1, o2, o3, o4, o5⟩, j1, by omega⟩
set_option linter.unusedVariables false
def markLt (a b : ReadMark) : Bool := decide (a.key < b.key) || (decide (a.key = b.key) && decide (a.created < b.created))
def markCmp (a b : ReadMark) : Int := cmpOr [cmpI a.key b.key, cmpI a.created b.created]
theorem markCmp_neg (a b : ReadMark) : decide (0 ≤ markCmp a b) = !markLt a b := by
  unfold markCmp markLt cmpI
  simp only [cmpOr]
  by_cases h1 : a.key < b.key
  · simp [h1]
  · by_cases h2 : b.key < a.key
    · have h3 : ¬ a.key = b.key := by omega
      simp [h1, h2, h3]
    · have h3 : a.key = b.key := by omega
      by_cases h4 : a.created < b.created
      · simp [h3, h4]
      · by_cases h5 : b.created < a.created <;> simp [h3, h4, h5]
def reads1 (p : Option ReadMark) (m : ReadMark) : Bool := inR m.key 0 5 && inR m.created 0 999 && (match p with | none => true | some q => markLt q m)
def readsFrom : Option ReadMark → List ReadMark → Bool
  | _, [] => true
  | p, m :: r => reads1 p m && readsFrom (some m) r
def areReads (l : List ReadMark) : Bool := readsFrom none l && decide (l.length ≤ 60)
def writes1 (p : Option Write) (w : Write) : Bool := inR w.key 0 5 && inR w.value (-1) 99 && (match p with | none => true | some q => decide (q.key < w.key))
def writesFrom : Option Write → List Write → Bool
  | _, [] => true
  | p, w :: r => writes1 p w && writesFrom (some w) r
def areWrites (l : List Write) : Bool := writesFrom none l
def Transaction.valid (t : Transaction) : Bool :=
  inR t.id 1 9 && (inR t.scheme 1 4 && (inR t.begin_ 0 999 && (inR t.state 1 3 && (inR t.low 0 999 && (inR t.high 1 1000 && ((decide (t.state = 2) == decide (0 < t.commit)) && (inR t.commit 0 999 && (areReads t.reads && areWrites t.writes))))))))
def LogRecord.valid (r : LogRecord) : Bool := r.tx.valid && (decide (r.high ≤ r.stamp) && inR r.safe 0 r.stamp)
theorem f14_is (h : G_f14 E) (a b : ReadMark) : E 75 [a.u, b.u] = some (.int .i64 (markCmp a b)) := by
  rw [f14_E h]
  have := cmp_Or_is h.c_f1 [cmpI a.key b.key, cmpI a.created b.created] (by simp)
  simp only [intsU, List.map_cons, List.map_nil, intU] at this
  simp [cmp_Compare_is h.c_f0, this, markCmp]
theorem f50_is (h : G_f50 E) (a b : ReadMark) : E 71 [a.u, b.u] = some (.bool (markLt a b)) := by
  rw [f50_E h]
  by_cases h1 : a.key < b.key
  · simp [markLt, h1]
  · by_cases h2 : a.key = b.key <;> simp [markLt, h1, h2]
theorem f3_is (h : G_f3 E) (n : Int) : E 72 [.int .i64 n] = some (.bool (inR n 1 999)) := by
  rw [f3_E h]; simp [f15_is h.c_f15]
theorem f19_is (h : G_f19 E) (n : Int) : E 76 [.int .i64 n] = some (.bool (inR n (-1) 99)) := by
  rw [f19_E h]; simp [f15_is h.c_f15]
theorem f12_l0_is (h : G_f12 E) (l : List ReadMark) (hl : l.length ≤ 1048576) : ∀ (r p : List ReadMark) (i : Int), l = p ++ r → i = p.length →
    f12_l0 E (.sl 2 (l.map ReadMark.u)) (.sl 2 (l.map ReadMark.u)) (.int .i64 l.length) (.int .i64 i) = some (.bool (readsFrom p.getLast? r && decide (l.length ≤ 60)))
  | [], p, i, e, hi => by
    rw [f12_l0_eq]
    have h1 : decide ((l.length : Int) ≤ 60) = decide (l.length ≤ 60) := by congr 1; simp only [eq_iff_iff]; omega
    simp [mid_end e hi, readsFrom, h1]
  | x :: r, p, i, e, hi => by
    obtain ⟨h0, hlt, hx, hw, hn, _⟩ := mid_at e hi (by omega)
    have ih := f12_l0_is h l hl r (p ++ [x]) (i + 1) (mid_next e) hn
    rw [List.getLast?_concat] at ih
    rw [f12_l0_eq]
    by_cases hp : p = []
    · have hi0 : ¬ 0 < i := by subst hp; simp at hi; omega
      simp [h0, hlt, hx, hw, ih, f17_is h.c_f17, f15_is h.c_f15, hi0, hp, ite_f, readsFrom, reads1, Bool.and_assoc]
    · obtain ⟨q, j, hq, hpos, hw1, h1, hq1, _⟩ := mid_last e hi (by omega) hp
      simp [h0, hlt, hx, hw, ih, f17_is h.c_f17, f15_is h.c_f15, hpos, hq, hw1, hq1, f14_is h.c_f14, ite_f, ite_n, markCmp_neg, readsFrom, reads1, Bool.and_assoc]
theorem f12_is (h : G_f12 E) (l : List ReadMark) (hl : l.length ≤ 1048576) : E 73 [.sl 2 (l.map ReadMark.u)] = some (.bool (areReads l)) := by
  rw [f12_E h]
  simp [f12_l0_is h l hl l [] 0 rfl rfl, areReads]
theorem f13_l0_is (h : G_f13 E) (l : List Write) (hl : l.length ≤ 1048576) : ∀ (r p : List Write) (i : Int), l = p ++ r → i = p.length →
    f13_l0 E (.sl 2 (l.map Write.u)) (.sl 2 (l.map Write.u)) (.int .i64 l.length) (.int .i64 i) = some (.bool (writesFrom p.getLast? r))
  | [], p, i, e, hi => by
    rw [f13_l0_eq]
    simp [mid_end e hi, writesFrom]
  | x :: r, p, i, e, hi => by
    obtain ⟨h0, hlt, hx, hw, hn, _⟩ := mid_at e hi (by omega)
    have ih := f13_l0_is h l hl r (p ++ [x]) (i + 1) (mid_next e) hn
    rw [List.getLast?_concat] at ih
    rw [f13_l0_eq]
    by_cases hp : p = []
    · have hi0 : ¬ 0 < i := by subst hp; simp at hi; omega
      simp [h0, hlt, hx, hw, ih, f17_is h.c_f17, f19_is h.c_f19, hi0, hp, ite_f, writesFrom, writes1, Bool.and_assoc]
    · obtain ⟨q, j, hq, hpos, hw1, h1, hq1, _⟩ := mid_last e hi (by omega) hp
      have hc : (!decide (x.key ≤ q.key)) = decide (q.key < x.key) := by rw [← decide_not]; congr 1; simp only [eq_iff_iff]; omega
      simp [h0, hlt, hx, hw, ih, f17_is h.c_f17, f19_is h.c_f19, hpos, hq, hw1, hq1, ite_f, ite_n, writesFrom, writes1, Bool.and_assoc, hc]
theorem f13_is (h : G_f13 E) (l : List Write) (hl : l.length ≤ 1048576) : E 74 [.sl 2 (l.map Write.u)] = some (.bool (areWrites l)) := by
  rw [f13_E h]
  simp [f13_l0_is h l hl l [] 0 rfl rfl, areWrites]
def Transaction.tail (t : Transaction) : Bool :=
  inR t.id 1 9 && (inR t.scheme 1 4 && (inR t.begin_ 0 999 && (inR t.state 1 3 && (inR t.low 0 999 && (inR t.high 1 1000 && ((decide (t.state = 2) == decide (0 < t.commit)) && (inR t.commit 0 999 && decide (t.reads.length ≤ 60))))))))
theorem spec_IsVT_l0_is (h : G_f46 E) (t : Transaction) (ho : t.ok) : ∀ (r p : List Write) (i : Int), t.writes = p ++ r → i = p.length →
    f46_l0 E (.int .i64 i) t.u = some (.bool (writesFrom p.getLast? r && t.tail))
  | [], p, i, e, hi => by
    rw [f46_l0_eq]
    have h1 : decide ((t.reads.length : Int) ≤ 60) = decide (t.reads.length ≤ 60) := by congr 1; simp only [eq_iff_iff]; omega
    have h2 : decide (t.state = 2 ↔ 0 < t.commit) = (decide (t.state = 2) == decide (0 < t.commit)) := by
      by_cases a : t.state = 2 <;> by_cases b : 0 < t.commit <;> simp [a, b]
    simp [mid_end e hi, f49_is h.c_f49, ite_f, ite_t, ite_p, writesFrom, Transaction.tail, h1, h2]
  | x :: r, p, i, e, hi => by
    obtain ⟨h0, hlt, hx, hw, hn, _⟩ := mid_at e hi (by have := ho.2; omega)
    have ih := spec_IsVT_l0_is h t ho r (p ++ [x]) (i + 1) (mid_next e) hn
    rw [List.getLast?_concat] at ih
    rw [f46_l0_eq]
    by_cases hp : p = []
    · have hi0 : ¬ 0 < i := by subst hp; simp at hi; omega
      simp [h0, hlt, hx, hw, ih, f49_is h.c_f49, hi0, hp, ite_f, writesFrom, writes1, Bool.and_assoc]
    · obtain ⟨q, j, hq, hpos, hw1, h1, hq1, _⟩ := mid_last e hi (by have := ho.2; omega) hp
      have hc : (!decide (x.key ≤ q.key)) = decide (q.key < x.key) := by rw [← decide_not]; congr 1; simp only [eq_iff_iff]; omega
      simp [h0, hlt, hx, hw, ih, f49_is h.c_f49, hpos, hq, hw1, hq1, ite_f, ite_n, writesFrom, writes1, Bool.and_assoc, hc]
theorem spec_IsVT_l1_is (h : G_f46 E) (t : Transaction) (ho : t.ok) : ∀ (r p : List ReadMark) (i : Int), t.reads = p ++ r → i = p.length →
    f46_l1 E (.int .i64 i) t.u = some (.bool (readsFrom p.getLast? r && (writesFrom none t.writes && t.tail)))
  | [], p, i, e, hi => by
    rw [f46_l1_eq]
    simp [mid_end e hi, readsFrom, spec_IsVT_l0_is h t ho t.writes [] 0 rfl rfl]
  | x :: r, p, i, e, hi => by
    obtain ⟨h0, hlt, hx, hw, hn, _⟩ := mid_at e hi (by have := ho.1; omega)
    have ih := spec_IsVT_l1_is h t ho r (p ++ [x]) (i + 1) (mid_next e) hn
    rw [List.getLast?_concat] at ih
    rw [f46_l1_eq]
    by_cases hp : p = []
    · have hi0 : ¬ 0 < i := by subst hp; simp at hi; omega
      simp [h0, hlt, hx, hw, ih, f49_is h.c_f49, hi0, hp, ite_f, readsFrom, reads1, Bool.and_assoc]
    · obtain ⟨q, j, hq, hpos, hw1, h1, hq1, _⟩ := mid_last e hi (by have := ho.1; omega) hp
      simp [h0, hlt, hx, hw, ih, f49_is h.c_f49, hpos, hq, hw1, hq1, ite_f, ite_n, readsFrom, reads1, Bool.and_assoc, f50_is h.c_f50]
theorem f46_is (h : G_f46 E) (t : Transaction) (ho : t.ok) : E 70 [t.u] = some (.bool t.valid) := by
  rw [f46_E h]
  have h1 := spec_IsVT_l1_is h t ho t.reads [] 0 rfl rfl
  have h2 : (readsFrom none t.reads && (writesFrom none t.writes && t.tail)) = t.valid := by
    unfold Transaction.valid Transaction.tail areReads areWrites
    ac_rfl
  simp [h1, h2]
theorem f18_is (h : G_f18 E) (n : Int) : E 160 [.int .i64 n] = some (.bool (inR n 1 4)) := by
  rw [f18_E h]; simp [f15_is h.c_f15]
theorem f4_is (h : G_f4 E) (t : Transaction) (ho : t.ok) : E 159 [t.u] = some (.bool t.valid) := by
  rw [f4_E h]
  have r1 := f12_is h.c_f12 t.reads ho.1
  have r2 := f13_is h.c_f13 t.writes ho.2
  cases c1 : inR t.id 1 9
  · simp [f16_is h.c_f16, c1, Transaction.valid]
  cases c2 : inR t.scheme 1 4
  · simp [f16_is h.c_f16, f18_is h.c_f18, c1, c2, Transaction.valid]
  cases c3 : inR t.state 1 3
  · simp [f16_is h.c_f16, f18_is h.c_f18, f15_is h.c_f15, c1, c2, c3, Transaction.valid]
  cases c4 : inR t.begin_ 0 999
  · simp [f16_is h.c_f16, f18_is h.c_f18, f15_is h.c_f15, c1, c2, c3, c4, Transaction.valid]
  cases c5 : inR t.low 0 999
  · simp [f16_is h.c_f16, f18_is h.c_f18, f15_is h.c_f15, c1, c2, c3, c4, c5, Transaction.valid]
  cases c6 : inR t.high 1 1000
  · simp [f16_is h.c_f16, f18_is h.c_f18, f15_is h.c_f15, c1, c2, c3, c4, c5, c6, Transaction.valid]
  have Hf := fun (X : Bool) => (rfl : (false && X) = false)
  by_cases hs : t.state = 2
  · have hd : (t.state = 2) = True := eq_true hs
    cases c7 : inR t.commit 1 999
    · have e : (decide (0 < t.commit) && (inR t.commit 0 999 && (areReads t.reads && areWrites t.writes))) = false := by
        simp only [inR, decide_eq_false_iff_not] at c7
        by_cases h0 : 0 < t.commit
        · have : inR t.commit 0 999 = false := by simp only [inR, decide_eq_false_iff_not]; omega
          simp [this]
        · simp [h0]
      simp [f16_is h.c_f16, f18_is h.c_f18, f15_is h.c_f15, f3_is h.c_f3, c1, c2, c3, c4, c5, c6, hd, c7, Transaction.valid] at e ⊢
      intro a b
      exact e a b
    · have e1 : decide (0 < t.commit) = true := by simp only [inR, decide_eq_true_eq] at c7 ⊢; omega
      have e2 : inR t.commit 0 999 = true := by simp only [inR, decide_eq_true_eq] at c7 ⊢; omega
      have e3 : (0 < t.commit) = True := eq_true (by simpa using e1)
      simp [f16_is h.c_f16, f18_is h.c_f18, f15_is h.c_f15, f3_is h.c_f3, c1, c2, c3, c4, c5, c6, hd, c7, Transaction.valid, r1, r2, ite_t, e3, e2]
  · have hd : (t.state = 2) = False := eq_false hs
    by_cases hz : t.commit = 0
    · have e2 : inR t.commit 0 999 = true := by simp only [inR, decide_eq_true_eq]; omega
      rw [hz] at e2
      simp [f16_is h.c_f16, f18_is h.c_f18, f15_is h.c_f15, f3_is h.c_f3, c1, c2, c3, c4, c5, c6, hd, hz, Transaction.valid, r1, r2, ite_t, e2]
    · have hz' : (t.commit = 0) = False := eq_false hz
      simp [f16_is h.c_f16, f18_is h.c_f18, f15_is h.c_f15, f3_is h.c_f3, c1, c2, c3, c4, c5, c6, hd, hz', Transaction.valid]
      intro a b c
      simp only [inR, decide_eq_true_eq] at b
      omega
theorem impl_active_is (h : G_f10 E) (x : Transaction) (ho : x.ok) : E 301 [x.u] = some (.bool (x.valid && decide (x.state = 1))) := by
  rw [f10_E h]
  by_cases h1 : x.state = 1 <;> simp [h1, f4_is h.c_f4 x ho]
theorem ite_pp (p : Prop) [Decidable p] (a b : Bool) : (if p then some (U.bool a) else some (U.bool b)) = some (U.bool (if p then a else b)) := by split <;> rfl
def Version.valid (v : Version) : Bool :=
  inR v.value (-1) 99 && (inR v.created 0 999 && (inR v.reader v.created 999 && (inR v.successor 1 1000 && (if v.created = 0 then decide (v.writer = 0) && decide (v.value = -1) else inR v.writer 1 9))))
theorem f47_is (h : G_f47 E) (v : Version) : E 105 [v.u] = some (.bool v.valid) := by
  rw [f47_E h]
  simp [f49_is h.c_f49, ite_f, ite_p, ite_pp, Version.valid]
theorem f5_is (h : G_f5 E) (v : Version) : E 117 [v.u] = some (.bool v.valid) := by
  rw [f5_E h]
  simp [f15_is h.c_f15, f16_is h.c_f16, f19_is h.c_f19, ite_f, ite_p, ite_pp, Version.valid]
theorem flats_map {α : Type} (f : α → U) (h : ∀ x, (f x).flat = true) : ∀ l : List α, U.flat.flats (l.map f) = true
  | [] => rfl
  | x :: l => by
    simp only [List.map_cons, U.flat.flats, h x, flats_map f h l, Bool.and_self]
@[simp] theorem flats_edges (l : List Edge) : U.flat.flats (l.map Edge.u) = true := flats_map _ (fun _ => rfl) l
@[simp] theorem flats_ints (l : List Int) : U.flat.flats (l.map intU) = true := flats_map _ (fun _ => rfl) l
theorem clone_is {q k b : Nat} (h : IsClone E q k b) (us : List U) (hl : us.length * b ≤ 140737488355328) : E q [.sl k us] = some (.sl k us) := by
  rw [h.v]; simp [cloneV, hl]
theorem clone_F_is {q k b : Nat} (h : IsClone E q k b) (us : List U) (hl : us.length * b ≤ 140737488355328) (hf : U.flat.flats us = true) : E (100000 + q) [.sl k us] = some (.sl k us) := by
  rw [h.f]; simp [cloneF, hl, hf]
theorem flatsR (l : List ReadMark) : U.flat.flats (l.map ReadMark.u) = true := flats_map _ (fun _ => rfl) l
theorem flatsW (l : List Write) : U.flat.flats (l.map Write.u) = true := flats_map _ (fun _ => rfl) l
theorem impl_copied_is (h : G_f8 E) (x : Transaction) (ho : x.ok) : E 222 [x.u] = some x.u := by
  rw [f8_E h]
  have h1 := clone_is h.c_f44 (x.reads.map ReadMark.u) (by have := ho.1; simp; omega)
  have h2 := clone_is h.c_f45 (x.writes.map Write.u) (by have := ho.2; simp; omega)
  simp [h1, h2]
  simp [Transaction.u, U.asVar, D.isAgg, U.size, storable]
theorem impl_copied_F_is (h : G_f9 E) (x : Transaction) (ho : x.ok) : E 100222 [x.u] = some x.u := by
  rw [f9_E h]
  have h1 : E 100224 [.sl 2 (x.reads.map ReadMark.u)] = _ := clone_F_is h.c_f44 (x.reads.map ReadMark.u) (by have := ho.1; simp; omega) (flatsR _)
  have h2 : E 100225 [.sl 2 (x.writes.map Write.u)] = _ := clone_F_is h.c_f45 (x.writes.map Write.u) (by have := ho.2; simp; omega) (flatsW _)
  simp [h1, h2, noTup_sl, U.asSlK, D.size, dsizes, D.size.dsizes, U.size]
  rfl
theorem f51_is (h : G_f51 E) (x : Transaction) (ho : x.ok) : E 212 [x.u] = some x.u := by
  rw [f51_E h]
  have h1 : x.reads.length * 16 ≤ 140737488355328 := by have := ho.1; omega
  have h2 : x.writes.length * 16 ≤ 140737488355328 := by have := ho.2; omega
  simp [U.elems, h1, h2, D.size, dsizes, D.size.dsizes, U.size, storable]
  rfl
theorem mid_cut2 {β : Type} {l p r : List β} {k : Nat} {i : Int} (f : β → U) (e : l = p ++ r) (hi : i = p.length) : U.cut false k (.sl k (l.map f)) (some i) none = some (.sl k (r.map f)) := by
  subst e; subst hi
  simp only [U.cut, Option.getD_none, Option.getD_some, List.length_map, List.length_append]
  rw [if_pos (by refine ⟨trivial, by omega, by omega, by omega⟩)]
  have e3 : (((p.length + r.length : Nat) : Int)).toNat = (List.map f (p ++ r)).length := by rw [Int.toNat_natCast, List.length_map, List.length_append]
  rw [e3, List.take_length]
  simp
def putRead : List ReadMark → ReadMark → List ReadMark
  | [], m => [m]
  | x :: r, m => if markLt x m then x :: putRead r m else if x = m then x :: r else m :: x :: r
theorem putRead_app (p r : List ReadMark) (m : ReadMark) (hp : ∀ y ∈ p, markLt y m = true) : putRead (p ++ r) m = p ++ putRead r m := by
  induction p with
  | nil => rfl
  | cons y p ih => simp [putRead, hp y (by simp), ih (fun z hz => hp z (by simp [hz]))]
theorem putRead_len (l : List ReadMark) (m : ReadMark) : (putRead l m).length ≤ l.length + 1 := by
  induction l with
  | nil => simp [putRead]
  | cons x r ih => simp only [putRead]; split <;> (try split) <;> simp <;> omega
theorem markLt_trans {a b c : ReadMark} (h1 : markLt a b = true) (h2 : markLt b c = true) : markLt a c = true := by
  simp only [markLt, Bool.or_eq_true, Bool.and_eq_true, decide_eq_true_eq] at *
  omega
theorem markCmp_lt (a b : ReadMark) : decide (markCmp a b < 0) = markLt a b := by
  have h := markCmp_neg a b
  have e : decide (markCmp a b < 0) = !decide (0 ≤ markCmp a b) := by rw [← decide_not]; congr 1; simp only [eq_iff_iff]; omega
  rw [e, h, Bool.not_not]
theorem markCmp_eq (a b : ReadMark) : decide (markCmp a b = 0) = decide (a = b) := by
  congr 1
  rw [eq_iff_iff, ReadMark.eq_iff]
  unfold markCmp cmpI
  simp only [cmpOr]
  split <;> (try split) <;> (try split) <;> simp <;> (try split) <;> (try split) <;> omega
def Marked (l : List ReadMark) : Prop := l.Pairwise fun a b => markLt a b = true
theorem readsFrom_marked : ∀ (l : List ReadMark) (o : Option ReadMark), readsFrom o l = true → Marked l ∧ ∀ q, o = some q → ∀ x ∈ l, markLt q x = true
  | [], o, _ => ⟨List.Pairwise.nil, by simp⟩
  | m :: r, o, h => by
    simp only [readsFrom, reads1, Bool.and_eq_true] at h
    obtain ⟨⟨_, h1⟩, h2⟩ := h
    obtain ⟨i1, i2⟩ := readsFrom_marked r (some m) h2
    refine ⟨List.Pairwise.cons (fun x hx => i2 m rfl x hx) i1, fun q hq x hx => ?_⟩
    subst hq
    simp only at h1
    rcases List.mem_cons.1 hx with rfl | hx
    · exact h1
    · exact markLt_trans h1 (i2 m rfl x hx)
theorem valid_marked {t : Transaction} (hv : t.valid = true) : Marked t.reads ∧ t.reads.length ≤ 60 := by
  simp only [Transaction.valid, areReads, Bool.and_eq_true, decide_eq_true_eq] at hv
  exact ⟨(readsFrom_marked _ _ hv.2.2.2.2.2.2.2.2.1.1).1, hv.2.2.2.2.2.2.2.2.1.2⟩
theorem marked_split (l : List ReadMark) (m : ReadMark) (hs : Marked l) : ∃ p r, l = p ++ r ∧ (∀ x ∈ p, markLt x m = true) ∧ ∀ x ∈ r, markLt x m = false := by
  induction l with
  | nil => exact ⟨[], [], rfl, by simp, by simp⟩
  | cons x l ih =>
    have hx : ∀ y ∈ l, markLt x y = true := (List.pairwise_cons.1 hs).1
    cases g : markLt x m with
    | true =>
      obtain ⟨p, r, e, h1, h2⟩ := ih (List.Pairwise.of_cons hs)
      exact ⟨x :: p, r, by rw [e]; rfl, by simpa [g] using h1, h2⟩
    | false =>
      refine ⟨[], x :: l, rfl, by simp, fun y hy => ?_⟩
      rcases List.mem_cons.1 hy with rfl | hy
      · exact g
      · cases k : markLt y m with
        | false => rfl
        | true => rw [markLt_trans (hx y hy) k] at g; exact absurd g (by simp)
theorem half_is (i j : Nat) (hi : i ≤ 1048576) (hj : j ≤ 1048576) : (U.bin .add (.int .i64 (i : Int)) (.int .i64 (j : Int))) = some (.int .i64 ((i + j : Nat) : Int)) ∧ U.conv .u64 (.int .i64 ((i + j : Nat) : Int)) = some (.int .u64 ((i + j : Nat) : Int)) ∧ U.bin .shr (.int .u64 ((i + j : Nat) : Int)) (.int .u64 1) = some (.int .u64 (((i + j) / 2 : Nat) : Int)) ∧ U.conv .i64 (.int .u64 (((i + j) / 2 : Nat) : Int)) = some (.int .i64 (((i + j) / 2 : Nat) : Int)) := by
  refine ⟨?_, ?_, ?_, ?_⟩
  · rw [bin_add, wrap_in (by omega)]; simp
  · have : IntKind.u64.wrap ((i + j : Nat) : Int) = ((i + j : Nat) : Int) := by simp only [IntKind.wrap, IntKind.signed, IntKind.bits]; simp; omega
    simp only [U.conv, this]
  · have e : ((i + j : Nat) : Int).fdiv (2 ^ (min (1 : Int).toNat IntKind.u64.bits)) = (((i + j) / 2 : Nat) : Int) := by
      have : (2 : Int) ^ (min (1 : Int).toNat IntKind.u64.bits) = 2 := by decide
      rw [this, Int.fdiv_eq_ediv_of_nonneg _ (by omega)]; omega
    simp only [U.bin, e]; simp
  · simp only [U.conv, wrap_in (n := (((i + j) / 2 : Nat) : Int)) (by omega)]
def headIs : List ReadMark → ReadMark → Bool
  | [], _ => false
  | x :: _, m => decide (x = m)
theorem bs304_l0_is (hc : ∀ a b : ReadMark, E 75 [a.u, b.u] = some (.int .i64 (markCmp a b))) (l p r : List ReadMark) (m : ReadMark) (hl : l.length ≤ 1048576) (e : l = p ++ r) (hp : ∀ x ∈ p, markLt x m = true) (hr : ∀ x ∈ r, markLt x m = false) :
    ∀ (n i j : Nat), j - i ≤ n → i ≤ p.length → p.length ≤ j → j ≤ l.length →
    f43_l0 E (.sl 2 (l.map ReadMark.u)) (.fn 75 []) (.int .i64 (l.length : Int)) (.int .i64 (i : Int)) (.int .i64 (j : Int)) m.u = some (.tup [.int .i64 (p.length : Int), .bool (headIs r m)]) := by
  intro n
  induction n with
  | zero =>
    intro i j h1 h2 h3 h4
    obtain rfl : i = p.length := by omega
    obtain rfl : j = p.length := by omega
    rw [f43_l0_eq]
    cases r with
    | nil =>
      have : ¬ (p.length : Int) < (l.length : Int) := by rw [e]; simp
      simp [this, headIs]
    | cons x r =>
      have h5 : p.length < l.length := by rw [e]; simp
      have h6 : (l.map ReadMark.u)[p.length]? = some x.u := by rw [e]; simp
      have h8 := hc x m
      have h7 : l[p.length] = x := by simp [e]
      have h9 : (markCmp x m == 0) = decide (x = m) := by rw [← markCmp_eq]; rfl
      have h10 : (markCmp x m = 0) = (x = m) := by have := markCmp_eq x m; simpa using this
      simp [h5, h6, U.elemAt, h7, h8, h10, headIs]
  | succ n ih =>
    intro i j h1 h2 h3 h4
    by_cases hij : i < j
    · obtain ⟨a1, a2, a3, a4⟩ := half_is i j (by omega) (by omega)
      have hk : (i + j) / 2 < l.length := by omega
      have hk1 : i ≤ (i + j) / 2 := by omega
      have hk2 : (i + j) / 2 < j := by omega
      generalize (i + j) / 2 = k at *
      have hx : (l.map ReadMark.u)[k]? = some (l[k]).u := by simp [hk]
      have hlt := hc (l[k]) m
      have hd := markCmp_lt (l[k]) m
      rw [f43_l0_eq]
      have hij' : (i : Int) < (j : Int) := by omega
      simp only [bin_lss, hij', decide_true, Option.bind_some, asBool_bool, if_true, a1, a2, a3, a4, asInt_int, U.elemAt, Int.toNat_natCast, hx, ReadMark.u_var, asFn_fn, List.append_nil, List.cons_append, List.nil_append, hlt, hd, bin_add]
      rw [if_pos (by omega)]
      have hw : IntKind.i64.wrap ((k : Int) + 1) = ((k + 1 : Nat) : Int) := by rw [wrap_in (by omega)]; omega
      cases g : markLt (l[k]) m with
      | true =>
        have hkp : k < p.length := by
          rcases Nat.lt_or_ge k p.length with h | h
          · exact h
          · have : l[k] ∈ r := by
              have e2 : l[k] = r[k - p.length]'(by have := congrArg List.length e; simp at this; omega) := by simp [e, List.getElem_append_right h]
              rw [e2]; exact List.getElem_mem _
            rw [hr _ this] at g; cases g
        simp only [asBool_bool, if_true, hw]
        exact ih (k + 1) j (by omega) (by omega) h3 h4
      | false =>
        have hkp : p.length ≤ k := by
          rcases Nat.lt_or_ge k p.length with h | h
          · have : l[k] ∈ p := by
              have e2 : l[k] = p[k] := by simp [e, List.getElem_append_left h]
              rw [e2]; exact List.getElem_mem _
            rw [hp _ this] at g; cases g
          · exact h
        exact ih i k (by omega) h2 hkp (by omega)
    · obtain rfl : i = p.length := by omega
      obtain rfl : j = p.length := by omega
      exact ih _ _ (by omega) h2 h3 h4
theorem bs304_is (h : G_f43 E) (hc : ∀ a b : ReadMark, E 75 [a.u, b.u] = some (.int .i64 (markCmp a b))) (l p r : List ReadMark) (m : ReadMark) (hl : l.length ≤ 1048576) (e : l = p ++ r) (hp : ∀ x ∈ p, markLt x m = true) (hr : ∀ x ∈ r, markLt x m = false) :
    E 304 [.sl 2 (l.map ReadMark.u), m.u, .fn 75 []] = some (.tup [.int .i64 (p.length : Int), .bool (headIs r m)]) := by
  have h1 := bs304_l0_is hc l p r m hl e hp hr l.length 0 l.length (by omega) (by omega) (by rw [e]; simp) (by omega)
  rw [f43_E h]
  simpa using h1
theorem big16 (n : Nat) (h : n ≤ 1048577) : n * 16 ≤ 140737488355328 := by omega
theorem f52_l0_is (h : G_f52 E) (l : List ReadMark) (m : ReadMark) (hl : l.length ≤ 1048576) : ∀ (r p : List ReadMark) (i : Int), l = p ++ r → i = p.length → (∀ x ∈ p, markLt x m = true) →
    f52_l0 E (.sl 2 (l.map ReadMark.u)) (.int .i64 i) m.u = some (.sl 2 ((p ++ putRead r m).map ReadMark.u))
  | [], p, i, e, hi, hp => by
    have c1 := mid_cut (k := 2) ReadMark.u e hi
    have c2 := mid_cut2 (k := 2) ReadMark.u e hi
    rw [f52_l0_eq]
    simp only [lenOf_sl, List.length_map, Option.bind_some, bin_lss, mid_end e hi, decide_false, asBool_bool, Bool.false_eq_true, if_false, asInt_int, c1, c2, ReadMark.u_var, ReadMark.u_partable, ReadMark.u_size, and_self, if_true, U.elems, putRead]
    have hle : p.length = l.length := by rw [e]; simp
    rw [if_pos ⟨by trivial, by trivial, big16 _ (by simp only [List.length_append, List.length_map, List.length_cons, List.length_nil]; omega)⟩, if_pos ⟨by trivial, by trivial, big16 _ (by simp only [List.length_append, List.length_map, List.length_cons, List.length_nil]; omega)⟩, if_pos ⟨by trivial, by trivial, big16 _ (by simp only [List.length_append, List.length_map, List.length_cons, List.length_nil]; omega)⟩]
    simp
  | x :: r, p, i, e, hi, hp => by
    obtain ⟨h0, hlt, hx, hw, hn, _⟩ := mid_at e hi (by omega)
    have c1 := mid_cut (k := 2) ReadMark.u e hi
    have c2 := mid_cut2 (k := 2) ReadMark.u e hi
    have hle : p.length + r.length + 1 = l.length := by rw [e]; simp; omega
    rw [f52_l0_eq]
    cases g : markLt x m with
    | true =>
      have ih := f52_l0_is h l m hl r (p ++ [x]) (i + 1) (mid_next e) hn (by intro y hy; rcases List.mem_append.1 hy with hy | hy; exact hp y hy; simp at hy; rw [hy]; exact g)
      simp only [lenOf_sl, List.length_map, Option.bind_some, bin_lss, hlt, decide_true, asBool_bool, if_true, asInt_int, hx, ReadMark.u_var, f50_is h.c_f50, g, bin_add, hw, ih, putRead]
      simp
    | false =>
      by_cases g2 : x = m
      · subst g2
        simp [hlt, hx, hw, f50_is h.c_f50, g, putRead, U.elems]
        simp [e]
        exact big16 _ (by omega)
      · simp only [lenOf_sl, List.length_map, Option.bind_some, bin_lss, hlt, decide_true, asBool_bool, if_true, asInt_int, hx, ReadMark.u_var, f50_is h.c_f50, g, g2, putRead, Bool.false_eq_true, if_false, ReadMark.u_eqv, decide_false, c1, c2, U.elems, ReadMark.u_partable, ReadMark.u_size, and_self]
        rw [if_pos ⟨by trivial, by trivial, big16 _ (by simp only [List.length_append, List.length_map, List.length_cons, List.length_nil]; omega)⟩, if_pos ⟨by trivial, by trivial, big16 _ (by simp only [List.length_append, List.length_map, List.length_cons, List.length_nil]; omega)⟩, if_pos ⟨by trivial, by trivial, big16 _ (by simp only [List.length_append, List.length_map, List.length_cons, List.length_nil]; omega)⟩]
        simp
theorem f52_is (h : G_f52 E) (l : List ReadMark) (m : ReadMark) (hl : l.length ≤ 1048576) : E 300 [.sl 2 (l.map ReadMark.u), m.u] = some (.sl 2 ((putRead l m).map ReadMark.u)) := by
  rw [f52_E h]
  simpa using f52_l0_is h l m hl l [] 0 rfl rfl (by simp)
def maxI (a b : Int) : Int := if a < b then b else a
def minI (a b : Int) : Int := if b < a then b else a
def Transaction.mark (x : Transaction) (k : Int) (v : Version) : Transaction := { x with reads := putRead x.reads ⟨k, v.created⟩, low := maxI x.low v.created, high := minI x.high v.successor }
def Transaction.track (x : Transaction) (k : Int) (v : Version) : Transaction × Bool :=
  if x.valid && (decide (x.state = 1) && (inR k 0 5 && (v.valid && !decide (x.reads.length = 60)))) then (x.mark k v, true) else (x, false)
theorem track_ok {x : Transaction} (ho : x.ok) (k : Int) (v : Version) : (x.track k v).1.ok := by
  unfold Transaction.track
  split
  · rename_i hc
    simp only [Bool.and_eq_true] at hc
    have := (valid_marked hc.1).2
    have := putRead_len x.reads ⟨k, v.created⟩
    exact ⟨by simp only [Transaction.mark]; omega, ho.2⟩
  · exact ho
theorem u_mark (x : Transaction) (k : Int) (v : Version) : (x.mark k v).u = .agg [.int .i64 x.id, .int .i64 x.scheme, .int .i64 x.state, .int .i64 x.begin_, .int .i64 (if x.low < v.created then v.created else x.low), .int .i64 (if v.successor < x.high then v.successor else x.high), .int .i64 x.commit, .sl 2 ((putRead x.reads ⟨k, v.created⟩).map ReadMark.u), .sl 2 (x.writes.map Write.u)] := rfl
theorem track_P_is (h : G_f11 E) (x : Transaction) (k : Int) (v : Version) (hm : Marked x.reads) (hl : x.reads.length ≤ 60) :
    E 400302 (.agg [.tup [x.u]] :: [.int .i64 k, v.u]) = if x.reads.length = 60 then some (.tup [.bool false, x.u]) else some (.tup [.bool true, (x.mark k v).u]) := by
  have h1 := f11_E h x.id x.scheme x.state x.begin_ x.low x.high x.commit (x.reads.map ReadMark.u) (x.writes.map Write.u) (.int .i64 k) v.u
  refine Eq.trans h1 ?_
  obtain ⟨p, r, e, hp, hr⟩ := marked_split x.reads ⟨k, v.created⟩ hm
  have hb := bs304_is h.c_f43 (fun a b => f14_is h.c_f14 a b) x.reads p r ⟨k, v.created⟩ (by omega) e hp hr
  have hc := clone_F_is h.c_f44 (x.reads.map ReadMark.u) (by simp; omega) (flatsR _)
  have hpl : p.length ≤ x.reads.length := by rw [e]; simp
  by_cases h60 : x.reads.length = 60
  · have : (x.reads.length : Int) = 60 := by omega
    simp [h60]
    rfl
  have h60' : ¬ (x.reads.length : Int) = 60 := by omega
  have e1 : putRead x.reads ⟨k, v.created⟩ = p ++ putRead r ⟨k, v.created⟩ := by rw [e, putRead_app p r _ hp]
  rw [u_mark, e1]
  have hi : ∀ us, E (300000 + 303) us = insC 2 16 us := h.c_slices_Insert_g303.c
  have hins : E 300303 (.agg [.tup [.sl 2 (x.reads.map ReadMark.u)]] :: [.int .i64 (p.length : Int), .sl 2 [.agg [.int .i64 k, .int .i64 v.created]]]) = some (.sl 2 ((p ++ ⟨k, v.created⟩ :: r).map ReadMark.u)) := by
    have := hi (.agg [.tup [.sl 2 (x.reads.map ReadMark.u)]] :: [.int .i64 (p.length : Int), .sl 2 [.agg [.int .i64 k, .int .i64 v.created]]])
    rw [this]
    simp only [insC]
    rw [if_pos (by refine ⟨by trivial, by trivial, by omega, by simp; omega, by simp, rfl, ?_⟩; refine big16 _ ?_; simp; omega)]
    rw [e]
    simp [ReadMark.u]
  generalize hm' : headIs r ⟨k, v.created⟩ = f at hb
  have hb' : E 304 [.sl 2 (x.reads.map ReadMark.u), .agg [.int .i64 k, .int .i64 v.created], .fn 75 []] = some (.tup [.int .i64 (p.length : Int), .bool f]) := hb
  have hc' : E 100224 [.sl 2 (x.reads.map ReadMark.u)] = some (.sl 2 (x.reads.map ReadMark.u)) := hc
  have er : (if f = true then x.reads else p ++ ⟨k, v.created⟩ :: r) = p ++ putRead r ⟨k, v.created⟩ := by
    cases r with
    | nil => simp only [headIs] at hm'; subst hm'; simp [putRead]
    | cons y r =>
      simp only [headIs] at hm'
      have hy := hr y (by simp)
      by_cases g : y = (⟨k, v.created⟩ : ReadMark)
      · rw [decide_eq_true g] at hm'; subst hm'; subst g; simp [putRead, hy, e]
      · rw [decide_eq_false g] at hm'; subst hm'; simp [putRead, hy, g]
  rw [if_neg h60, ← er]
  cases f with
  | false => simp [h60', hb', hc', hins, U.asFlat, U.flat, U.flat.flats]
  | true => simp [h60', hb', hc', hins, U.asFlat, U.flat, U.flat.flats]
theorem f48_is (h : G_f48 E) (x : Transaction) (ho : x.ok) (k : Int) (v : Version) : E 299 [x.u, .int .i64 k, v.u] = some (.tup [(x.track k v).1.u, .bool (x.track k v).2]) := by
  rw [f48_E h]
  have hc := f51_is h.c_f51 x ho
  have hv := f46_is h.c_f46 x ho
  have hk := f49_is h.c_f49 k 0 5
  have hw := f47_is h.c_f47 v
  have hp := f52_is h.c_f52 x.reads ⟨k, v.created⟩ ho.1
  have hp' : E 300 [.sl 2 (x.reads.map ReadMark.u), .agg [.int .i64 k, .int .i64 v.created]] = some (.sl 2 ((putRead x.reads ⟨k, v.created⟩).map ReadMark.u)) := hp
  unfold Transaction.track
  cases g1 : x.valid
  · simp [hc, hv, g1]
  by_cases g2 : ¬ x.state = 1
  · simp [hc, hv, g1, g2]
  replace g2 : x.state = 1 := Decidable.not_not.1 g2
  cases g3 : inR k 0 5
  · simp [hc, hv, g1, g2, hk, g3]
  cases g4 : v.valid
  · simp [hc, hv, g1, g2, hk, g3, hw, g4]
  by_cases g5 : x.reads.length = 60
  · have : (x.reads.length : Int) = 60 := by omega
    simp [hc, hv, g1, g2, hk, g3, hw, g4, g5]
  have g5' : ¬ (x.reads.length : Int) = 60 := by omega
  simp [hc, hv, g1, g2, hk, g3, hw, g4, g5, g5', hp', u_mark, U.size]
theorem f6_is (h : G_f6 E) (x : Transaction) (ho : x.ok) (k : Int) (v : Version) : E 298 [x.u, .int .i64 k, v.u] = some (.tup [(x.track k v).1.u, .bool (x.track k v).2]) := by
  rw [f6_E h]
  have hc := impl_copied_is h.c_f8 x ho
  have hcF := impl_copied_F_is h.c_f9 x ho
  have hv := impl_active_is h.c_f10 x ho
  have hk := f17_is h.c_f17 k
  have hw := f5_is h.c_f5 v
  unfold Transaction.track
  cases g1 : (x.valid && decide (x.state = 1))
  · have : (x.valid && (decide (x.state = 1) && (inR k 0 5 && (v.valid && !decide (x.reads.length = 60))))) = false := by rw [← Bool.and_assoc, g1]; rfl
    rw [this]
    simp [hc, hcF, hv, g1]
  have e1 : (x.valid && (decide (x.state = 1) && (inR k 0 5 && (v.valid && !decide (x.reads.length = 60))))) = (inR k 0 5 && (v.valid && !decide (x.reads.length = 60))) := by rw [← Bool.and_assoc, g1]; rfl
  rw [e1]
  cases g3 : inR k 0 5
  · simp [hc, hcF, hv, g1, hk, g3]
  cases g4 : v.valid
  · simp [hc, hcF, hv, g1, hk, g3, hw, g4]
  have g1' : x.valid = true := by cases g : x.valid; rw [g] at g1; cases g1; rfl
  obtain ⟨m1, m2⟩ := valid_marked g1'
  have ht := track_P_is h.c_f11 x k v m1 m2
  by_cases g5 : x.reads.length = 60
  · rw [if_pos g5] at ht
    have ht' : E 400302 (.agg [.tup [.agg [.int .i64 x.id, .int .i64 x.scheme, .int .i64 x.state, .int .i64 x.begin_, .int .i64 x.low, .int .i64 x.high, .int .i64 x.commit, .sl 2 (x.reads.map ReadMark.u), .sl 2 (x.writes.map Write.u)]]] :: [.int .i64 k, v.u]) = some (.tup [.bool false, x.u]) := ht
    simp [hc, hcF, hv, g1, hk, g3, hw, g4, ht', g5, U.asPtr]
  · rw [if_neg g5] at ht
    have ht' : E 400302 (.agg [.tup [.agg [.int .i64 x.id, .int .i64 x.scheme, .int .i64 x.state, .int .i64 x.begin_, .int .i64 x.low, .int .i64 x.high, .int .i64 x.commit, .sl 2 (x.reads.map ReadMark.u), .sl 2 (x.writes.map Write.u)]]] :: [.int .i64 k, v.u]) = some (.tup [.bool true, (x.mark k v).u]) := ht
    simp [hc, hcF, hv, g1, hk, g3, hw, g4, ht', g5, U.asPtr]
    rfl
theorem f7_is (h : G_f7 E) (x : Transaction) (ho : x.ok) (k : Int) (v : Version) : E 100298 [x.u, .int .i64 k, v.u] = some (.tup [(x.track k v).1.u, .bool (x.track k v).2]) := by
  rw [f7_E h]
  have hcF := impl_copied_F_is h.c_f9 x ho
  have hv := impl_active_is h.c_f10 x ho
  have hk := f17_is h.c_f17 k
  have hw := f5_is h.c_f5 v
  unfold Transaction.track
  cases g1 : (x.valid && decide (x.state = 1))
  · have : (x.valid && (decide (x.state = 1) && (inR k 0 5 && (v.valid && !decide (x.reads.length = 60))))) = false := by rw [← Bool.and_assoc, g1]; rfl
    rw [this]
    simp [hcF, hv, g1]
    rfl
  have e1 : (x.valid && (decide (x.state = 1) && (inR k 0 5 && (v.valid && !decide (x.reads.length = 60))))) = (inR k 0 5 && (v.valid && !decide (x.reads.length = 60))) := by rw [← Bool.and_assoc, g1]; rfl
  rw [e1]
  cases g3 : inR k 0 5
  · simp [hcF, hv, g1, hk, g3]
    rfl
  cases g4 : v.valid
  · simp [hcF, hv, g1, hk, g3, hw, g4]
    rfl
  have g1' : x.valid = true := by cases g : x.valid; rw [g] at g1; cases g1; rfl
  obtain ⟨m1, m2⟩ := valid_marked g1'
  have ht := track_P_is h.c_f11 x k v m1 m2
  by_cases g5 : x.reads.length = 60
  · rw [if_pos g5] at ht
    have ht' : E 400302 (.agg [.tup [.agg [.int .i64 x.id, .int .i64 x.scheme, .int .i64 x.state, .int .i64 x.begin_, .int .i64 x.low, .int .i64 x.high, .int .i64 x.commit, .sl 2 (x.reads.map ReadMark.u), .sl 2 (x.writes.map Write.u)]]] :: [.int .i64 k, v.u]) = some (.tup [.bool false, x.u]) := ht
    simp [hcF, hv, g1, hk, g3, hw, g4, ht', g5, U.asPtr]
    rfl
  · rw [if_neg g5] at ht
    have ht' : E 400302 (.agg [.tup [.agg [.int .i64 x.id, .int .i64 x.scheme, .int .i64 x.state, .int .i64 x.begin_, .int .i64 x.low, .int .i64 x.high, .int .i64 x.commit, .sl 2 (x.reads.map ReadMark.u), .sl 2 (x.writes.map Write.u)]]] :: [.int .i64 k, v.u]) = some (.tup [.bool true, (x.mark k v).u]) := ht
    simp [hcF, hv, g1, hk, g3, hw, g4, ht', g5, U.asPtr]
    rfl
theorem f34_is (h : G_f34 E) (x : ReadMark) : E 29 [x.u] = some x.u := by
  rw [f34_E h]
  simp [ReadMark.u]
theorem f35_l0_is (h : G_f35 E) (l : List ReadMark) (hl : l.length ≤ 1048576) : ∀ (r p : List ReadMark) (i : Int) (c : List U), l = p ++ r → i = p.length → c.length = r.length → (∀ z ∈ c, z.size = 2) →
    f35_l0 E (.sl 2 (l.map ReadMark.u)) (.int .i64 i) (p.map ReadMark.u ++ c) = some (.sl 2 (l.map ReadMark.u))
  | [], p, i, c, e, hi, hc, _ => by
    obtain rfl : c = [] := List.length_eq_zero_iff.1 hc
    rw [f35_l0_eq]
    simp [mid_end e hi]
    simp [e]
  | x :: r, p, i, [], e, hi, hc, _ => by cases hc
  | x :: r, p, i, z :: c, e, hi, hc, hz => by
    obtain ⟨h0, hlt, hx, hw, hn, _⟩ := mid_at e hi (by omega)
    have hzs : z.size = 2 := hz z (by simp)
    obtain ⟨hg, hs, hlen⟩ := mid_set ReadMark.u p z c hi
    have ih := f35_l0_is h l hl r (p ++ [x]) (i + 1) c (mid_next e) hn (by simpa using hc) (fun y hy => hz y (by simp [hy]))
    simp only [List.map_append, List.map_cons, List.map_nil, List.append_assoc, List.cons_append, List.nil_append] at ih
    rw [f35_l0_eq]
    simp only [hg, hs, hx, hw, asInt_int, bin_lss, lenOf_sl, List.length_map, Option.bind_some, asBool_bool, hlt, decide_true, if_true, h0, hlen, and_self, bin_add, f34_is h.c_f34 x, hzs, ReadMark.u_var, ReadMark.u_size, ReadMark.u_storable, ReadMark.u_partable]
    simpa using ih
theorem f35_is (h : G_f35 E) (l : List ReadMark) (hl : l.length ≤ 1048576) : E 28 [.sl 2 (l.map ReadMark.u)] = some (.sl 2 (l.map ReadMark.u)) := by
  have h1 := f35_l0_is h l hl l [] 0 (List.replicate l.length (.agg [.int .i64 0, .int .i64 0])) rfl rfl (by simp) (by simp)
  rw [f35_E h]
  simp only [lenOf_sl, Option.bind_some, List.length_map]
  rw [if_pos (by refine ⟨by omega, by omega, by omega, rfl⟩)]
  simpa using h1
theorem f21_is (h : G_f21 E) (x y : ReadMark) : E 35 [x.u, y.u] = some (.bool (decide (x = y))) := by
  rw [f21_E h]
  obtain ⟨a0, a1⟩ := x
  obtain ⟨b0, b1⟩ := y
  simp only [ReadMark.mk.injEq]
  by_cases h0 : a0 = b0
  case neg => simp [h0]
  subst h0
  by_cases h1 : a1 = b1
  case neg => simp [h1]
  subst h1
  simp []
theorem f22_l0_is (h : G_f22 E) (a b : List ReadMark) (ha : a.length ≤ 1048576) (hb : b.length ≤ 1048576) : ∀ (r s p p2 : List ReadMark) (i : Int), a = p ++ r → b = p2 ++ s → i = p.length → i = p2.length → r.length = s.length →
    f22_l0 E (.sl 2 (a.map ReadMark.u)) (.sl 2 (b.map ReadMark.u)) (.int .i64 i) = some (.bool (decide (r = s)))
  | [], [], p, p2, i, e, e2, hi, hi2, _ => by
    rw [f22_l0_eq]
    simp [mid_end e hi]
  | [], y :: s, _, _, _, _, _, _, _, hl => by cases hl
  | x :: r, [], _, _, _, _, _, _, _, hl => by cases hl
  | x :: r, y :: s, p, p2, i, e, e2, hi, hi2, hl => by
    obtain ⟨h0, hlt, hx, hw, hn, _⟩ := mid_at e hi (by omega)
    obtain ⟨_, _, hy, _, hn2, _⟩ := mid_at e2 hi2 (by omega)
    have ih := f22_l0_is h a b ha hb r s (p ++ [x]) (p2 ++ [y]) (i + 1) (mid_next e) (mid_next e2) hn hn2 (by simpa using hl)
    rw [f22_l0_eq]
    by_cases hxy : x = y
    · subst hxy
      simp [hlt, hx, hy, hw, ih, f21_is h.c_f21]
    · simp [hlt, hx, hy, hw, ih, f21_is h.c_f21, hxy]
theorem f22_is (h : G_f22 E) (a b : List ReadMark) (ha : a.length ≤ 1048576) (hb : b.length ≤ 1048576) : E 34 [.sl 2 (a.map ReadMark.u), .sl 2 (b.map ReadMark.u)] = some (.bool (decide (a = b))) := by
  rw [f22_E h]
  by_cases hl : a.length = b.length
  · simp [hl, f22_l0_is h a b ha hb a b [] [] 0 rfl rfl rfl rfl hl]
  · have h1 : a ≠ b := fun e => hl (by rw [e])
    have h2 : (a.length : Int) ≠ b.length := by omega
    simp [h1, h2]
theorem f31_is (h : G_f31 E) (l : List ReadMark) (hl : l.length ≤ maxLen) (left : Int) (h0 : 0 ≤ left) (h1 : left ≤ 1048576) : E 24 [.sl 2 (l.map ReadMark.u), .int .i64 left] = some (.int .i64 (szc l.length left)) := by
  rw [f31_E h]
  unfold maxLen at hl
  have hw : IntKind.i64.wrap (left - (l.length : Int)) = left - l.length := wrap_in (by omega)
  by_cases h2 : left - (l.length : Int) < 0 <;> simp [hw, szc, h2]
theorem f40_is (h : G_f40 E) (x : Write) : E 30 [x.u] = some x.u := by
  rw [f40_E h]
  simp [Write.u]
theorem f41_l0_is (h : G_f41 E) (l : List Write) (hl : l.length ≤ 1048576) : ∀ (r p : List Write) (i : Int) (c : List U), l = p ++ r → i = p.length → c.length = r.length → (∀ z ∈ c, z.size = 2) →
    f41_l0 E (.sl 2 (l.map Write.u)) (.int .i64 i) (p.map Write.u ++ c) = some (.sl 2 (l.map Write.u))
  | [], p, i, c, e, hi, hc, _ => by
    obtain rfl : c = [] := List.length_eq_zero_iff.1 hc
    rw [f41_l0_eq]
    simp [mid_end e hi]
    simp [e]
  | x :: r, p, i, [], e, hi, hc, _ => by cases hc
  | x :: r, p, i, z :: c, e, hi, hc, hz => by
    obtain ⟨h0, hlt, hx, hw, hn, _⟩ := mid_at e hi (by omega)
    have hzs : z.size = 2 := hz z (by simp)
    obtain ⟨hg, hs, hlen⟩ := mid_set Write.u p z c hi
    have ih := f41_l0_is h l hl r (p ++ [x]) (i + 1) c (mid_next e) hn (by simpa using hc) (fun y hy => hz y (by simp [hy]))
    simp only [List.map_append, List.map_cons, List.map_nil, List.append_assoc, List.cons_append, List.nil_append] at ih
    rw [f41_l0_eq]
    simp only [hg, hs, hx, hw, asInt_int, bin_lss, lenOf_sl, List.length_map, Option.bind_some, asBool_bool, hlt, decide_true, if_true, h0, hlen, and_self, bin_add, f40_is h.c_f40 x, hzs, Write.u_var, Write.u_size, Write.u_storable, Write.u_partable]
    simpa using ih
theorem f41_is (h : G_f41 E) (l : List Write) (hl : l.length ≤ 1048576) : E 27 [.sl 2 (l.map Write.u)] = some (.sl 2 (l.map Write.u)) := by
  have h1 := f41_l0_is h l hl l [] 0 (List.replicate l.length (.agg [.int .i64 0, .int .i64 0])) rfl rfl (by simp) (by simp)
  rw [f41_E h]
  simp only [lenOf_sl, Option.bind_some, List.length_map]
  rw [if_pos (by refine ⟨by omega, by omega, by omega, rfl⟩)]
  simpa using h1
theorem f24_is (h : G_f24 E) (x y : Write) : E 36 [x.u, y.u] = some (.bool (decide (x = y))) := by
  rw [f24_E h]
  obtain ⟨a0, a1⟩ := x
  obtain ⟨b0, b1⟩ := y
  simp only [Write.mk.injEq]
  by_cases h0 : a0 = b0
  case neg => simp [h0]
  subst h0
  by_cases h1 : a1 = b1
  case neg => simp [h1]
  subst h1
  simp []
theorem f25_l0_is (h : G_f25 E) (a b : List Write) (ha : a.length ≤ 1048576) (hb : b.length ≤ 1048576) : ∀ (r s p p2 : List Write) (i : Int), a = p ++ r → b = p2 ++ s → i = p.length → i = p2.length → r.length = s.length →
    f25_l0 E (.sl 2 (a.map Write.u)) (.sl 2 (b.map Write.u)) (.int .i64 i) = some (.bool (decide (r = s)))
  | [], [], p, p2, i, e, e2, hi, hi2, _ => by
    rw [f25_l0_eq]
    simp [mid_end e hi]
  | [], y :: s, _, _, _, _, _, _, _, hl => by cases hl
  | x :: r, [], _, _, _, _, _, _, _, hl => by cases hl
  | x :: r, y :: s, p, p2, i, e, e2, hi, hi2, hl => by
    obtain ⟨h0, hlt, hx, hw, hn, _⟩ := mid_at e hi (by omega)
    obtain ⟨_, _, hy, _, hn2, _⟩ := mid_at e2 hi2 (by omega)
    have ih := f25_l0_is h a b ha hb r s (p ++ [x]) (p2 ++ [y]) (i + 1) (mid_next e) (mid_next e2) hn hn2 (by simpa using hl)
    rw [f25_l0_eq]
    by_cases hxy : x = y
    · subst hxy
      simp [hlt, hx, hy, hw, ih, f24_is h.c_f24]
    · simp [hlt, hx, hy, hw, ih, f24_is h.c_f24, hxy]
theorem f25_is (h : G_f25 E) (a b : List Write) (ha : a.length ≤ 1048576) (hb : b.length ≤ 1048576) : E 33 [.sl 2 (a.map Write.u), .sl 2 (b.map Write.u)] = some (.bool (decide (a = b))) := by
  rw [f25_E h]
  by_cases hl : a.length = b.length
  · simp [hl, f25_l0_is h a b ha hb a b [] [] 0 rfl rfl rfl rfl hl]
  · have h1 : a ≠ b := fun e => hl (by rw [e])
    have h2 : (a.length : Int) ≠ b.length := by omega
    simp [h1, h2]
theorem f33_is (h : G_f33 E) (l : List Write) (hl : l.length ≤ maxLen) (left : Int) (h0 : 0 ≤ left) (h1 : left ≤ 1048576) : E 23 [.sl 2 (l.map Write.u), .int .i64 left] = some (.int .i64 (szc l.length left)) := by
  rw [f33_E h]
  unfold maxLen at hl
  have hw : IntKind.i64.wrap (left - (l.length : Int)) = left - l.length := wrap_in (by omega)
  by_cases h2 : left - (l.length : Int) < 0 <;> simp [hw, szc, h2]
theorem f32_is (h : G_f32 E) (x : Transaction) (hf : x.fit) (left : Int) (h0 : 0 ≤ left) (h1 : left ≤ 1048576) : E 132 [x.u, .int .i64 left] = some (.int .i64 (x.sz left)) := by
  rw [f32_E h]
  obtain ⟨hf1, hf2⟩ := hf
  have a1 := f31_is h.c_f31 x.reads hf1 left h0 h1
  rcases szc_szs x.reads.length left h0 h1 with h2 | ⟨_, h3, h4⟩
  · simp [a1, Transaction.sz, h2]
  · have h5 : ¬ szc x.reads.length left < 0 := by omega
    have a2 := f33_is h.c_f33 x.writes hf2 _ h3 (by omega)
    by_cases h6 : szc x.writes.length (szc x.reads.length left) < 0
    · have h7 : szc x.writes.length (szc x.reads.length left) = -1 := szc_neg h6
      simp [a1, a2, Transaction.sz, h5, h7]
    · simp [a1, a2, Transaction.sz, h5, h6]
theorem f37_is (h : G_f37 E) (x : Transaction) (ho : x.ok) : E 145 [x.u] = some x.u := by
  rw [f37_E h]
  simp [Transaction.u, f35_is h.c_f35 x.reads ho.1, f41_is h.c_f41 x.writes ho.2]
theorem f23_is (h : G_f23 E) (x y : Transaction) (hx : x.ok) (hy : y.ok) : E 177 [x.u, y.u] = some (.bool (decide (x = y))) := by
  rw [f23_E h]
  obtain ⟨a0, a1, a2, a3, a4, a5, a6, a7, a8⟩ := x
  obtain ⟨b0, b1, b2, b3, b4, b5, b6, b7, b8⟩ := y
  simp only [Transaction.mk.injEq]
  by_cases h0 : a0 = b0
  case neg => simp [f22_is h.c_f22 a7 b7 hx.1 hy.1, f25_is h.c_f25 a8 b8 hx.2 hy.2, h0]
  subst h0
  by_cases h1 : a1 = b1
  case neg => simp [f22_is h.c_f22 a7 b7 hx.1 hy.1, f25_is h.c_f25 a8 b8 hx.2 hy.2, h1]
  subst h1
  by_cases h2 : a2 = b2
  case neg => simp [f22_is h.c_f22 a7 b7 hx.1 hy.1, f25_is h.c_f25 a8 b8 hx.2 hy.2, h2]
  subst h2
  by_cases h3 : a3 = b3
  case neg => simp [f22_is h.c_f22 a7 b7 hx.1 hy.1, f25_is h.c_f25 a8 b8 hx.2 hy.2, h3]
  subst h3
  by_cases h4 : a4 = b4
  case neg => simp [f22_is h.c_f22 a7 b7 hx.1 hy.1, f25_is h.c_f25 a8 b8 hx.2 hy.2, h4]
  subst h4
  by_cases h5 : a5 = b5
  case neg => simp [f22_is h.c_f22 a7 b7 hx.1 hy.1, f25_is h.c_f25 a8 b8 hx.2 hy.2, h5]
  subst h5
  by_cases h6 : a6 = b6
  case neg => simp [f22_is h.c_f22 a7 b7 hx.1 hy.1, f25_is h.c_f25 a8 b8 hx.2 hy.2, h6]
  subst h6
  by_cases h7 : a7 = b7
  case neg => simp [f22_is h.c_f22 a7 b7 hx.1 hy.1, f25_is h.c_f25 a8 b8 hx.2 hy.2, h7]
  subst h7
  by_cases h8 : a8 = b8
  case neg => simp [f22_is h.c_f22 a7 a7 hx.1 hy.1, f25_is h.c_f25 a8 b8 hx.2 hy.2, h8]
  subst h8
  simp [f22_is h.c_f22 a7 a7 hx.1 hy.1, f25_is h.c_f25 a8 a8 hx.2 hy.2]
def upReadMark : Int → Nat → List ReadMark
  | _, 0 => []
  | k, n + 1 => ⟨k, k + 1⟩ :: upReadMark (k + 2) n
theorem upReadMark_length : ∀ (n : Nat) (k : Int), (upReadMark k n).length = n
  | 0, _ => rfl
  | n + 1, k => by simp [upReadMark, upReadMark_length n]
theorem flats_ReadMark (l : List ReadMark) : U.flat.flats (l.map ReadMark.u) = true := flats_map _ (fun _ => rfl) l
theorem f29_l0_is (h : G_f29 E) : ∀ (r p : List ReadMark) (k i : Int), i = p.length → p.length + r.length ≤ 1048576 → 0 ≤ k → k + 2 * r.length ≤ 1099511627776 →
    f29_l0 E (.int .i64 k) (.int .i64 i) (p.map ReadMark.u ++ r.map ReadMark.u) = some (.tup [.int .i64 (k + 2 * r.length), .sl 2 (p.map ReadMark.u ++ (upReadMark k r.length).map ReadMark.u)])
  | [], p, k, i, hi, hb, hk, hk2 => by
    have h1 : ¬ i < ((p.map ReadMark.u ++ ([] : List ReadMark).map ReadMark.u).length : Int) := by simp [hi]
    rw [f29_l0_eq]
    simp only [bin_lss, h1, decide_false, Option.bind_some, asBool_bool, Bool.false_eq_true, if_false]
    rw [← List.map_append]
    simp [upReadMark, flats_ReadMark]
  | x :: r, p, k, i, hi, hb, hk, hk2 => by
    simp only [List.length_cons] at hb hk2
    have hm := fun z => mid_set ReadMark.u p z (r.map ReadMark.u) hi
    have hg := fun z => (hm z).1
    have hs := fun z => (hm z).2.1
    have hlen := fun z => (hm z).2.2
    have h0 : 0 ≤ i := by omega
    have hw0 : IntKind.i64.wrap (k + 1) = k + 1 := by rw [wrap_in (by omega)]
    have hw1 : IntKind.i64.wrap (k + 1 + 1) = k + 2 := by rw [wrap_in (by omega)]; omega
    have hwi : IntKind.i64.wrap (i + 1) = i + 1 := wrap_in (by omega)
    have ih := f29_l0_is h r (p ++ [⟨k, k + 1⟩]) (k + 2) (i + 1) (by simp [hi]) (by simp; omega) (by omega) (by omega)
    simp only [List.map_append, List.map_cons, List.map_nil, List.append_assoc, List.cons_append, List.nil_append] at ih
    rw [f29_l0_eq]
    simp only [List.map_cons, bin_lss, hlen, decide_true, Option.bind_some, asBool_bool, if_true, asInt_int, h0, and_self, storable_int, size_int, flat_int, hg, hs, ReadMark.u_agg, asAgg_agg, List.take_zero, List.take_succ_cons, sizes_cons, sizes_nil, Nat.add_zero, Nat.zero_add, List.getElem?_cons_zero, List.getElem?_cons_succ, List.set_cons_zero, List.set_cons_succ, bin_add, hw0, hw1, hwi, Nat.reduceAdd]
    have e : k + 2 + 2 * (r.length : Int) = k + 2 * ((r.length + 1 : Nat) : Int) := by omega
    rw [e] at ih
    simpa [upReadMark, ReadMark.u] using ih
theorem f29_is (h : G_f29 E) (l : List ReadMark) (hl : l.length ≤ 1048576) (k : Int) (hk : 0 ≤ k) (hk2 : k ≤ 1073741824) :
    E 200095 (.agg [.tup [.sl 2 (l.map ReadMark.u)]] :: [.int .i64 k]) = some (.tup [.int .i64 (k + 2 * l.length), .sl 2 ((upReadMark k l.length).map ReadMark.u)]) := by
  rw [f29_E h]
  exact f29_l0_is h l [] k 0 rfl (by simpa using hl) hk (by omega)
theorem f26_l0_is (h : G_f26 E) (l : List ReadMark) (hl : l.length ≤ 1048576) : ∀ (n : Nat) (p : List ReadMark) (k i : Int), l = p ++ upReadMark k n → i = p.length → 0 ≤ k → k + 2 * n ≤ 1099511627776 →
    f26_l0 E (.sl 2 (l.map ReadMark.u)) (.int .i64 k) (.int .i64 i) = some (.int .i64 (k + 2 * n))
  | 0, p, k, i, e, hi, hk, hk2 => by
    rw [f26_l0_eq]
    simp [mid_end e hi]
  | n + 1, p, k, i, e0, hi, hk, hk2 => by
    have e : l = p ++ (⟨k, k + 1⟩ : ReadMark) :: upReadMark (k + 2) n := e0
    obtain ⟨h0, hlt, hx, hw, hn, _⟩ := mid_at e hi (by omega)
    have hw0 : IntKind.i64.wrap (k + 1) = k + 1 := by rw [wrap_in (by omega)]
    have hw1 : IntKind.i64.wrap (k + 1 + 1) = k + 2 := by rw [wrap_in (by omega)]; omega
    have ih := f26_l0_is h l hl n (p ++ [⟨k, k + 1⟩]) (k + 2) (i + 1) (mid_next e) hn (by omega) (by omega)
    have e2 : k + 2 + 2 * (n : Int) = k + 2 * ((n + 1 : Nat) : Int) := by omega
    rw [e2] at ih
    rw [f26_l0_eq]
    simp only [lenOf_sl, List.length_map, Option.bind_some, bin_lss, hlt, decide_true, asBool_bool, if_true, asInt_int, hx, ReadMark.u_at0, ReadMark.u_at1, asVar_int, bin_neq, ne_eq, not_true_eq_false, decide_false, Bool.false_eq_true, if_false, bin_add, hw, hw0, hw1]
    exact ih
theorem f26_is (h : G_f26 E) (n : Nat) (hn : n ≤ 1048576) (k : Int) (hk : 0 ≤ k) (hk2 : k ≤ 1048576) : E 92 [.sl 2 ((upReadMark k n).map ReadMark.u), .int .i64 k] = some (.int .i64 (k + 2 * n)) := by
  rw [f26_E h]
  exact f26_l0_is h _ (by rw [upReadMark_length]; exact hn) n [] k 0 rfl rfl hk (by omega)
def upWrite : Int → Nat → List Write
  | _, 0 => []
  | k, n + 1 => ⟨k, k + 1⟩ :: upWrite (k + 2) n
theorem upWrite_length : ∀ (n : Nat) (k : Int), (upWrite k n).length = n
  | 0, _ => rfl
  | n + 1, k => by simp [upWrite, upWrite_length n]
theorem flats_Write (l : List Write) : U.flat.flats (l.map Write.u) = true := flats_map _ (fun _ => rfl) l
theorem f30_l0_is (h : G_f30 E) : ∀ (r p : List Write) (k i : Int), i = p.length → p.length + r.length ≤ 1048576 → 0 ≤ k → k + 2 * r.length ≤ 1099511627776 →
    f30_l0 E (.int .i64 k) (.int .i64 i) (p.map Write.u ++ r.map Write.u) = some (.tup [.int .i64 (k + 2 * r.length), .sl 2 (p.map Write.u ++ (upWrite k r.length).map Write.u)])
  | [], p, k, i, hi, hb, hk, hk2 => by
    have h1 : ¬ i < ((p.map Write.u ++ ([] : List Write).map Write.u).length : Int) := by simp [hi]
    rw [f30_l0_eq]
    simp only [bin_lss, h1, decide_false, Option.bind_some, asBool_bool, Bool.false_eq_true, if_false]
    rw [← List.map_append]
    simp [upWrite, flats_Write]
  | x :: r, p, k, i, hi, hb, hk, hk2 => by
    simp only [List.length_cons] at hb hk2
    have hm := fun z => mid_set Write.u p z (r.map Write.u) hi
    have hg := fun z => (hm z).1
    have hs := fun z => (hm z).2.1
    have hlen := fun z => (hm z).2.2
    have h0 : 0 ≤ i := by omega
    have hw0 : IntKind.i64.wrap (k + 1) = k + 1 := by rw [wrap_in (by omega)]
    have hw1 : IntKind.i64.wrap (k + 1 + 1) = k + 2 := by rw [wrap_in (by omega)]; omega
    have hwi : IntKind.i64.wrap (i + 1) = i + 1 := wrap_in (by omega)
    have ih := f30_l0_is h r (p ++ [⟨k, k + 1⟩]) (k + 2) (i + 1) (by simp [hi]) (by simp; omega) (by omega) (by omega)
    simp only [List.map_append, List.map_cons, List.map_nil, List.append_assoc, List.cons_append, List.nil_append] at ih
    rw [f30_l0_eq]
    simp only [List.map_cons, bin_lss, hlen, decide_true, Option.bind_some, asBool_bool, if_true, asInt_int, h0, and_self, storable_int, size_int, flat_int, hg, hs, Write.u_agg, asAgg_agg, List.take_zero, List.take_succ_cons, sizes_cons, sizes_nil, Nat.add_zero, Nat.zero_add, List.getElem?_cons_zero, List.getElem?_cons_succ, List.set_cons_zero, List.set_cons_succ, bin_add, hw0, hw1, hwi, Nat.reduceAdd]
    have e : k + 2 + 2 * (r.length : Int) = k + 2 * ((r.length + 1 : Nat) : Int) := by omega
    rw [e] at ih
    simpa [upWrite, Write.u] using ih
theorem f30_is (h : G_f30 E) (l : List Write) (hl : l.length ≤ 1048576) (k : Int) (hk : 0 ≤ k) (hk2 : k ≤ 1073741824) :
    E 200232 (.agg [.tup [.sl 2 (l.map Write.u)]] :: [.int .i64 k]) = some (.tup [.int .i64 (k + 2 * l.length), .sl 2 ((upWrite k l.length).map Write.u)]) := by
  rw [f30_E h]
  exact f30_l0_is h l [] k 0 rfl (by simpa using hl) hk (by omega)
end Go.Proofs.Ytlgblpngiamhaaa.Am
