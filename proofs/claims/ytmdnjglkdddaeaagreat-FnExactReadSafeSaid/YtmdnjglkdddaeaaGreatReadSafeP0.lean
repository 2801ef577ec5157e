import Derived.Test.YtmdnjglkdddaeaaGreatAmX
import Derived.Test.YtmdnjglkdddaeaaGreatReadSafeF1
import Derived.Test.YtmdnjglkdddaeaaGreatReadSafeF0
import Derived.Test.YtmdnjglkdddaeaaGreatAmY
namespace Go.Proofs.YtmdnjglkdddaeaaGreat.Am
open Go
variable {α : Type}
def intU (n : Int) : U := .int .i64 n
@[simp] theorem intU_size (n : Int) : (intU n).size = 1 := rfl
@[simp] theorem asVar_intU (n : Int) (K : U → Option α) : U.asVar false 1 (intU n) K = K (.int .i64 n) := rfl
@[simp] theorem storable_intU (n : Int) : storable (.val (intU n)) = true := rfl
@[simp] theorem partable_intU (n : Int) : partable (.val (intU n)) = true := rfl
abbrev intsU (l : List Int) : U := .sl 1 (l.map intU)
structure Edge where
  frm : Int
  to : Int
  kind : Int
  key : Int
  deriving DecidableEq
theorem Edge.eq_iff (x y : Edge) : x = y ↔ x.frm = y.frm ∧ x.to = y.to ∧ x.kind = y.kind ∧ x.key = y.key := by cases x; cases y; simp only [Edge.mk.injEq]
def Edge.u (e : Edge) : U := .agg [.int .i64 e.frm, .int .i64 e.to, .int .i64 e.kind, .int .i64 e.key]
@[simp] theorem Edge.u_size (e : Edge) : e.u.size = 4 := rfl
@[simp] theorem Edge.u_var (e : Edge) (K : U → Option α) : U.asVar true 4 e.u K = K e.u := rfl
@[simp] theorem Edge.u_storable (e : Edge) : storable (.val e.u) = true := rfl
@[simp] theorem Edge.u_partable (e : Edge) : partable (.val e.u) = true := rfl
@[simp] theorem Edge.u_noTup (e : Edge) (K : U → Option α) : U.noTup e.u K = K e.u := rfl
@[simp] theorem Edge.u_agg (e : Edge) (K : List U → Option α) : U.asAgg e.u K = K [.int .i64 e.frm, .int .i64 e.to, .int .i64 e.kind, .int .i64 e.key] := rfl
@[simp] theorem Edge.u_at0 (e : Edge) (K : U → Option α) : U.fieldAt 0 0 e.u K = K (.int .i64 e.frm) := rfl
@[simp] theorem Edge.u_at1 (e : Edge) (K : U → Option α) : U.fieldAt 1 1 e.u K = K (.int .i64 e.to) := rfl
@[simp] theorem Edge.u_at2 (e : Edge) (K : U → Option α) : U.fieldAt 2 2 e.u K = K (.int .i64 e.kind) := rfl
@[simp] theorem Edge.u_at3 (e : Edge) (K : U → Option α) : U.fieldAt 3 3 e.u K = K (.int .i64 e.key) := rfl
@[simp] theorem Edge.u_flat (e : Edge) : e.u.flat = true := rfl
@[simp] theorem Edge.u_asFlat (e : Edge) (K : U → Option α) : U.asFlat e.u K = K e.u := rfl
@[simp] theorem Edge.u_eqv (x y : Edge) : U.eqv 6 x.u y.u = some (decide (x = y)) := by
  obtain ⟨a0, a1, a2, a3⟩ := x
  obtain ⟨b0, b1, b2, b3⟩ := y
  simp only [Edge.mk.injEq]
  show (if 4 = 4 then eqInts _ _ else none) = _
  simp only [if_true, eqInts_cons, eqInts_nil, Option.map_some, Bool.decide_and, Bool.and_true]
  rfl
structure ReadMark where
  key : Int
  created : Int
  deriving DecidableEq
theorem ReadMark.eq_iff (x y : ReadMark) : x = y ↔ x.key = y.key ∧ x.created = y.created := by cases x; cases y; simp only [ReadMark.mk.injEq]
def ReadMark.u (e : ReadMark) : U := .agg [.int .i64 e.key, .int .i64 e.created]
@[simp] theorem ReadMark.u_size (e : ReadMark) : e.u.size = 2 := rfl
@[simp] theorem ReadMark.u_var (e : ReadMark) (K : U → Option α) : U.asVar true 2 e.u K = K e.u := rfl
@[simp] theorem ReadMark.u_storable (e : ReadMark) : storable (.val e.u) = true := rfl
@[simp] theorem ReadMark.u_partable (e : ReadMark) : partable (.val e.u) = true := rfl
@[simp] theorem ReadMark.u_noTup (e : ReadMark) (K : U → Option α) : U.noTup e.u K = K e.u := rfl
@[simp] theorem ReadMark.u_agg (e : ReadMark) (K : List U → Option α) : U.asAgg e.u K = K [.int .i64 e.key, .int .i64 e.created] := rfl
@[simp] theorem ReadMark.u_at0 (e : ReadMark) (K : U → Option α) : U.fieldAt 0 0 e.u K = K (.int .i64 e.key) := rfl
@[simp] theorem ReadMark.u_at1 (e : ReadMark) (K : U → Option α) : U.fieldAt 1 1 e.u K = K (.int .i64 e.created) := rfl
@[simp] theorem ReadMark.u_flat (e : ReadMark) : e.u.flat = true := rfl
@[simp] theorem ReadMark.u_asFlat (e : ReadMark) (K : U → Option α) : U.asFlat e.u K = K e.u := rfl
@[simp] theorem ReadMark.u_eqv (x y : ReadMark) : U.eqv 4 x.u y.u = some (decide (x = y)) := by
  obtain ⟨a0, a1⟩ := x
  obtain ⟨b0, b1⟩ := y
  simp only [ReadMark.mk.injEq]
  show (if 2 = 2 then eqInts _ _ else none) = _
  simp only [if_true, eqInts_cons, eqInts_nil, Option.map_some, Bool.decide_and, Bool.and_true]
  rfl
structure Write where
  key : Int
  value : Int
  deriving DecidableEq
theorem Write.eq_iff (x y : Write) : x = y ↔ x.key = y.key ∧ x.value = y.value := by cases x; cases y; simp only [Write.mk.injEq]
def Write.u (e : Write) : U := .agg [.int .i64 e.key, .int .i64 e.value]
@[simp] theorem Write.u_size (e : Write) : e.u.size = 2 := rfl
@[simp] theorem Write.u_var (e : Write) (K : U → Option α) : U.asVar true 2 e.u K = K e.u := rfl
@[simp] theorem Write.u_storable (e : Write) : storable (.val e.u) = true := rfl
@[simp] theorem Write.u_partable (e : Write) : partable (.val e.u) = true := rfl
@[simp] theorem Write.u_noTup (e : Write) (K : U → Option α) : U.noTup e.u K = K e.u := rfl
@[simp] theorem Write.u_agg (e : Write) (K : List U → Option α) : U.asAgg e.u K = K [.int .i64 e.key, .int .i64 e.value] := rfl
@[simp] theorem Write.u_at0 (e : Write) (K : U → Option α) : U.fieldAt 0 0 e.u K = K (.int .i64 e.key) := rfl
@[simp] theorem Write.u_at1 (e : Write) (K : U → Option α) : U.fieldAt 1 1 e.u K = K (.int .i64 e.value) := rfl
@[simp] theorem Write.u_flat (e : Write) : e.u.flat = true := rfl
@[simp] theorem Write.u_asFlat (e : Write) (K : U → Option α) : U.asFlat e.u K = K e.u := rfl
@[simp] theorem Write.u_eqv (x y : Write) : U.eqv 4 x.u y.u = some (decide (x = y)) := by
  obtain ⟨a0, a1⟩ := x
  obtain ⟨b0, b1⟩ := y
  simp only [Write.mk.injEq]
  show (if 2 = 2 then eqInts _ _ else none) = _
  simp only [if_true, eqInts_cons, eqInts_nil, Option.map_some, Bool.decide_and, Bool.and_true]
  rfl
structure Lock where
  key : Int
  owner : Int
  deriving DecidableEq
theorem Lock.eq_iff (x y : Lock) : x = y ↔ x.key = y.key ∧ x.owner = y.owner := by cases x; cases y; simp only [Lock.mk.injEq]
def Lock.u (e : Lock) : U := .agg [.int .i64 e.key, .int .i64 e.owner]
@[simp] theorem Lock.u_size (e : Lock) : e.u.size = 2 := rfl
@[simp] theorem Lock.u_var (e : Lock) (K : U → Option α) : U.asVar true 2 e.u K = K e.u := rfl
@[simp] theorem Lock.u_storable (e : Lock) : storable (.val e.u) = true := rfl
@[simp] theorem Lock.u_partable (e : Lock) : partable (.val e.u) = true := rfl
@[simp] theorem Lock.u_noTup (e : Lock) (K : U → Option α) : U.noTup e.u K = K e.u := rfl
@[simp] theorem Lock.u_agg (e : Lock) (K : List U → Option α) : U.asAgg e.u K = K [.int .i64 e.key, .int .i64 e.owner] := rfl
@[simp] theorem Lock.u_at0 (e : Lock) (K : U → Option α) : U.fieldAt 0 0 e.u K = K (.int .i64 e.key) := rfl
@[simp] theorem Lock.u_at1 (e : Lock) (K : U → Option α) : U.fieldAt 1 1 e.u K = K (.int .i64 e.owner) := rfl
@[simp] theorem Lock.u_flat (e : Lock) : e.u.flat = true := rfl
@[simp] theorem Lock.u_asFlat (e : Lock) (K : U → Option α) : U.asFlat e.u K = K e.u := rfl
@[simp] theorem Lock.u_eqv (x y : Lock) : U.eqv 4 x.u y.u = some (decide (x = y)) := by
  obtain ⟨a0, a1⟩ := x
  obtain ⟨b0, b1⟩ := y
  simp only [Lock.mk.injEq]
  show (if 2 = 2 then eqInts _ _ else none) = _
  simp only [if_true, eqInts_cons, eqInts_nil, Option.map_some, Bool.decide_and, Bool.and_true]
  rfl
structure Wait where
  id : Int
  for_ : Int
  deriving DecidableEq
theorem Wait.eq_iff (x y : Wait) : x = y ↔ x.id = y.id ∧ x.for_ = y.for_ := by cases x; cases y; simp only [Wait.mk.injEq]
def Wait.u (e : Wait) : U := .agg [.int .i64 e.id, .int .i64 e.for_]
@[simp] theorem Wait.u_size (e : Wait) : e.u.size = 2 := rfl
@[simp] theorem Wait.u_var (e : Wait) (K : U → Option α) : U.asVar true 2 e.u K = K e.u := rfl
@[simp] theorem Wait.u_storable (e : Wait) : storable (.val e.u) = true := rfl
@[simp] theorem Wait.u_partable (e : Wait) : partable (.val e.u) = true := rfl
@[simp] theorem Wait.u_noTup (e : Wait) (K : U → Option α) : U.noTup e.u K = K e.u := rfl
@[simp] theorem Wait.u_agg (e : Wait) (K : List U → Option α) : U.asAgg e.u K = K [.int .i64 e.id, .int .i64 e.for_] := rfl
@[simp] theorem Wait.u_at0 (e : Wait) (K : U → Option α) : U.fieldAt 0 0 e.u K = K (.int .i64 e.id) := rfl
@[simp] theorem Wait.u_at1 (e : Wait) (K : U → Option α) : U.fieldAt 1 1 e.u K = K (.int .i64 e.for_) := rfl
@[simp] theorem Wait.u_flat (e : Wait) : e.u.flat = true := rfl
@[simp] theorem Wait.u_asFlat (e : Wait) (K : U → Option α) : U.asFlat e.u K = K e.u := rfl
@[simp] theorem Wait.u_eqv (x y : Wait) : U.eqv 4 x.u y.u = some (decide (x = y)) := by
  obtain ⟨a0, a1⟩ := x
  obtain ⟨b0, b1⟩ := y
  simp only [Wait.mk.injEq]
  show (if 2 = 2 then eqInts _ _ else none) = _
  simp only [if_true, eqInts_cons, eqInts_nil, Option.map_some, Bool.decide_and, Bool.and_true]
  rfl
structure Version where
  writer : Int
  value : Int
  created : Int
  reader : Int
  successor : Int
  deriving DecidableEq
theorem Version.eq_iff (x y : Version) : x = y ↔ x.writer = y.writer ∧ x.value = y.value ∧ x.created = y.created ∧ x.reader = y.reader ∧ x.successor = y.successor := by cases x; cases y; simp only [Version.mk.injEq]
def Version.u (e : Version) : U := .agg [.int .i64 e.writer, .int .i64 e.value, .int .i64 e.created, .int .i64 e.reader, .int .i64 e.successor]
@[simp] theorem Version.u_size (e : Version) : e.u.size = 5 := rfl
@[simp] theorem Version.u_var (e : Version) (K : U → Option α) : U.asVar true 5 e.u K = K e.u := rfl
@[simp] theorem Version.u_storable (e : Version) : storable (.val e.u) = true := rfl
@[simp] theorem Version.u_partable (e : Version) : partable (.val e.u) = true := rfl
@[simp] theorem Version.u_noTup (e : Version) (K : U → Option α) : U.noTup e.u K = K e.u := rfl
@[simp] theorem Version.u_agg (e : Version) (K : List U → Option α) : U.asAgg e.u K = K [.int .i64 e.writer, .int .i64 e.value, .int .i64 e.created, .int .i64 e.reader, .int .i64 e.successor] := rfl
@[simp] theorem Version.u_at0 (e : Version) (K : U → Option α) : U.fieldAt 0 0 e.u K = K (.int .i64 e.writer) := rfl
@[simp] theorem Version.u_at1 (e : Version) (K : U → Option α) : U.fieldAt 1 1 e.u K = K (.int .i64 e.value) := rfl
@[simp] theorem Version.u_at2 (e : Version) (K : U → Option α) : U.fieldAt 2 2 e.u K = K (.int .i64 e.created) := rfl
@[simp] theorem Version.u_at3 (e : Version) (K : U → Option α) : U.fieldAt 3 3 e.u K = K (.int .i64 e.reader) := rfl
@[simp] theorem Version.u_at4 (e : Version) (K : U → Option α) : U.fieldAt 4 4 e.u K = K (.int .i64 e.successor) := rfl
@[simp] theorem Version.u_flat (e : Version) : e.u.flat = true := rfl
@[simp] theorem Version.u_asFlat (e : Version) (K : U → Option α) : U.asFlat e.u K = K e.u := rfl
@[simp] theorem Version.u_eqv (x y : Version) : U.eqv 7 x.u y.u = some (decide (x = y)) := by
  obtain ⟨a0, a1, a2, a3, a4⟩ := x
  obtain ⟨b0, b1, b2, b3, b4⟩ := y
  simp only [Version.mk.injEq]
  show (if 5 = 5 then eqInts _ _ else none) = _
  simp only [if_true, eqInts_cons, eqInts_nil, Option.map_some, Bool.decide_and, Bool.and_true]
  rfl
structure Entry where
  id : Int
  stamp : Int
  reads : List ReadMark
  writes : List Write
  deriving DecidableEq
theorem Entry.eq_iff (x y : Entry) : x = y ↔ x.id = y.id ∧ x.stamp = y.stamp ∧ x.reads = y.reads ∧ x.writes = y.writes := by cases x; cases y; simp only [Entry.mk.injEq]
def Entry.u (e : Entry) : U := .agg [.int .i64 e.id, .int .i64 e.stamp, .sl 2 (e.reads.map ReadMark.u), .sl 2 (e.writes.map Write.u)]
@[simp] theorem Entry.u_size (e : Entry) : e.u.size = 4 := rfl
@[simp] theorem Entry.u_var (e : Entry) (K : U → Option α) : U.asVar true 4 e.u K = K e.u := rfl
@[simp] theorem Entry.u_storable (e : Entry) : storable (.val e.u) = true := rfl
@[simp] theorem Entry.u_partable (e : Entry) : partable (.val e.u) = true := rfl
@[simp] theorem Entry.u_noTup (e : Entry) (K : U → Option α) : U.noTup e.u K = K e.u := rfl
@[simp] theorem Entry.u_agg (e : Entry) (K : List U → Option α) : U.asAgg e.u K = K [.int .i64 e.id, .int .i64 e.stamp, .sl 2 (e.reads.map ReadMark.u), .sl 2 (e.writes.map Write.u)] := rfl
@[simp] theorem Entry.u_at0 (e : Entry) (K : U → Option α) : U.fieldAt 0 0 e.u K = K (.int .i64 e.id) := rfl
@[simp] theorem Entry.u_at1 (e : Entry) (K : U → Option α) : U.fieldAt 1 1 e.u K = K (.int .i64 e.stamp) := rfl
@[simp] theorem Entry.u_at2 (e : Entry) (K : U → Option α) : U.fieldAt 2 2 e.u K = K (.sl 2 (e.reads.map ReadMark.u)) := rfl
@[simp] theorem Entry.u_at3 (e : Entry) (K : U → Option α) : U.fieldAt 3 3 e.u K = K (.sl 2 (e.writes.map Write.u)) := rfl
structure LogRecord where
  stamp : Int
  id : Int
  high : Int
  safe : Int
  reads : List ReadMark
  writes : List Write
  deriving DecidableEq
theorem LogRecord.eq_iff (x y : LogRecord) : x = y ↔ x.stamp = y.stamp ∧ x.id = y.id ∧ x.high = y.high ∧ x.safe = y.safe ∧ x.reads = y.reads ∧ x.writes = y.writes := by cases x; cases y; simp only [LogRecord.mk.injEq]
def LogRecord.u (e : LogRecord) : U := .agg [.int .i64 e.stamp, .int .i64 e.id, .int .i64 e.high, .int .i64 e.safe, .sl 2 (e.reads.map ReadMark.u), .sl 2 (e.writes.map Write.u)]
@[simp] theorem LogRecord.u_size (e : LogRecord) : e.u.size = 6 := rfl
@[simp] theorem LogRecord.u_var (e : LogRecord) (K : U → Option α) : U.asVar true 6 e.u K = K e.u := rfl
@[simp] theorem LogRecord.u_storable (e : LogRecord) : storable (.val e.u) = true := rfl
@[simp] theorem LogRecord.u_partable (e : LogRecord) : partable (.val e.u) = true := rfl
@[simp] theorem LogRecord.u_noTup (e : LogRecord) (K : U → Option α) : U.noTup e.u K = K e.u := rfl
@[simp] theorem LogRecord.u_agg (e : LogRecord) (K : List U → Option α) : U.asAgg e.u K = K [.int .i64 e.stamp, .int .i64 e.id, .int .i64 e.high, .int .i64 e.safe, .sl 2 (e.reads.map ReadMark.u), .sl 2 (e.writes.map Write.u)] := rfl
@[simp] theorem LogRecord.u_at0 (e : LogRecord) (K : U → Option α) : U.fieldAt 0 0 e.u K = K (.int .i64 e.stamp) := rfl
@[simp] theorem LogRecord.u_at1 (e : LogRecord) (K : U → Option α) : U.fieldAt 1 1 e.u K = K (.int .i64 e.id) := rfl
@[simp] theorem LogRecord.u_at2 (e : LogRecord) (K : U → Option α) : U.fieldAt 2 2 e.u K = K (.int .i64 e.high) := rfl
@[simp] theorem LogRecord.u_at3 (e : LogRecord) (K : U → Option α) : U.fieldAt 3 3 e.u K = K (.int .i64 e.safe) := rfl
@[simp] theorem LogRecord.u_at4 (e : LogRecord) (K : U → Option α) : U.fieldAt 4 4 e.u K = K (.sl 2 (e.reads.map ReadMark.u)) := rfl
@[simp] theorem LogRecord.u_at5 (e : LogRecord) (K : U → Option α) : U.fieldAt 5 5 e.u K = K (.sl 2 (e.writes.map Write.u)) := rfl
structure Transaction where
  id : Int
  scheme : Int
  state : Int
  begin_ : Int
  low : Int
  high : Int
  commit : Int
  reads : List ReadMark
  writes : List Write
  deriving DecidableEq
theorem Transaction.eq_iff (x y : Transaction) : x = y ↔ x.id = y.id ∧ x.scheme = y.scheme ∧ x.state = y.state ∧ x.begin_ = y.begin_ ∧ x.low = y.low ∧ x.high = y.high ∧ x.commit = y.commit ∧ x.reads = y.reads ∧ x.writes = y.writes := by cases x; cases y; simp only [Transaction.mk.injEq]
def Transaction.u (e : Transaction) : U := .agg [.int .i64 e.id, .int .i64 e.scheme, .int .i64 e.state, .int .i64 e.begin_, .int .i64 e.low, .int .i64 e.high, .int .i64 e.commit, .sl 2 (e.reads.map ReadMark.u), .sl 2 (e.writes.map Write.u)]
@[simp] theorem Transaction.u_size (e : Transaction) : e.u.size = 9 := rfl
@[simp] theorem Transaction.u_var (e : Transaction) (K : U → Option α) : U.asVar true 9 e.u K = K e.u := rfl
@[simp] theorem Transaction.u_storable (e : Transaction) : storable (.val e.u) = true := rfl
@[simp] theorem Transaction.u_partable (e : Transaction) : partable (.val e.u) = true := rfl
@[simp] theorem Transaction.u_noTup (e : Transaction) (K : U → Option α) : U.noTup e.u K = K e.u := rfl
@[simp] theorem Transaction.u_agg (e : Transaction) (K : List U → Option α) : U.asAgg e.u K = K [.int .i64 e.id, .int .i64 e.scheme, .int .i64 e.state, .int .i64 e.begin_, .int .i64 e.low, .int .i64 e.high, .int .i64 e.commit, .sl 2 (e.reads.map ReadMark.u), .sl 2 (e.writes.map Write.u)] := rfl
@[simp] theorem Transaction.u_at0 (e : Transaction) (K : U → Option α) : U.fieldAt 0 0 e.u K = K (.int .i64 e.id) := rfl
@[simp] theorem Transaction.u_at1 (e : Transaction) (K : U → Option α) : U.fieldAt 1 1 e.u K = K (.int .i64 e.scheme) := rfl
@[simp] theorem Transaction.u_at2 (e : Transaction) (K : U → Option α) : U.fieldAt 2 2 e.u K = K (.int .i64 e.state) := rfl
@[simp] theorem Transaction.u_at3 (e : Transaction) (K : U → Option α) : U.fieldAt 3 3 e.u K = K (.int .i64 e.begin_) := rfl
@[simp] theorem Transaction.u_at4 (e : Transaction) (K : U → Option α) : U.fieldAt 4 4 e.u K = K (.int .i64 e.low) := rfl
@[simp] theorem Transaction.u_at5 (e : Transaction) (K : U → Option α) : U.fieldAt 5 5 e.u K = K (.int .i64 e.high) := rfl
@[simp] theorem Transaction.u_at6 (e : Transaction) (K : U → Option α) : U.fieldAt 6 6 e.u K = K (.int .i64 e.commit) := rfl
@[simp] theorem Transaction.u_at7 (e : Transaction) (K : U → Option α) : U.fieldAt 7 7 e.u K = K (.sl 2 (e.reads.map ReadMark.u)) := rfl
@[simp] theorem Transaction.u_at8 (e : Transaction) (K : U → Option α) : U.fieldAt 8 8 e.u K = K (.sl 2 (e.writes.map Write.u)) := rfl
structure Op where
  kind : Int
  id : Int
  scheme : Int
  key : Int
  high : Int
  value : Int
  deriving DecidableEq
theorem Op.eq_iff (x y : Op) : x = y ↔ x.kind = y.kind ∧ x.id = y.id ∧ x.scheme = y.scheme ∧ x.key = y.key ∧ x.high = y.high ∧ x.value = y.value := by cases x; cases y; simp only [Op.mk.injEq]
def Op.u (e : Op) : U := .agg [.int .i64 e.kind, .int .i64 e.id, .int .i64 e.scheme, .int .i64 e.key, .int .i64 e.high, .int .i64 e.value]
@[simp] theorem Op.u_size (e : Op) : e.u.size = 6 := rfl
@[simp] theorem Op.u_var (e : Op) (K : U → Option α) : U.asVar true 6 e.u K = K e.u := rfl
@[simp] theorem Op.u_storable (e : Op) : storable (.val e.u) = true := rfl
@[simp] theorem Op.u_partable (e : Op) : partable (.val e.u) = true := rfl
@[simp] theorem Op.u_noTup (e : Op) (K : U → Option α) : U.noTup e.u K = K e.u := rfl
@[simp] theorem Op.u_agg (e : Op) (K : List U → Option α) : U.asAgg e.u K = K [.int .i64 e.kind, .int .i64 e.id, .int .i64 e.scheme, .int .i64 e.key, .int .i64 e.high, .int .i64 e.value] := rfl
@[simp] theorem Op.u_at0 (e : Op) (K : U → Option α) : U.fieldAt 0 0 e.u K = K (.int .i64 e.kind) := rfl
@[simp] theorem Op.u_at1 (e : Op) (K : U → Option α) : U.fieldAt 1 1 e.u K = K (.int .i64 e.id) := rfl
@[simp] theorem Op.u_at2 (e : Op) (K : U → Option α) : U.fieldAt 2 2 e.u K = K (.int .i64 e.scheme) := rfl
@[simp] theorem Op.u_at3 (e : Op) (K : U → Option α) : U.fieldAt 3 3 e.u K = K (.int .i64 e.key) := rfl
@[simp] theorem Op.u_at4 (e : Op) (K : U → Option α) : U.fieldAt 4 4 e.u K = K (.int .i64 e.high) := rfl
@[simp] theorem Op.u_at5 (e : Op) (K : U → Option α) : U.fieldAt 5 5 e.u K = K (.int .i64 e.value) := rfl
@[simp] theorem Op.u_flat (e : Op) : e.u.flat = true := rfl
@[simp] theorem Op.u_asFlat (e : Op) (K : U → Option α) : U.asFlat e.u K = K e.u := rfl
@[simp] theorem Op.u_eqv (x y : Op) : U.eqv 8 x.u y.u = some (decide (x = y)) := by
  obtain ⟨a0, a1, a2, a3, a4, a5⟩ := x
  obtain ⟨b0, b1, b2, b3, b4, b5⟩ := y
  simp only [Op.mk.injEq]
  show (if 6 = 6 then eqInts _ _ else none) = _
  simp only [if_true, eqInts_cons, eqInts_nil, Option.map_some, Bool.decide_and, Bool.and_true]
  rfl
structure StepR where
  code : Int
  values : List Int
  deriving DecidableEq
theorem StepR.eq_iff (x y : StepR) : x = y ↔ x.code = y.code ∧ x.values = y.values := by cases x; cases y; simp only [StepR.mk.injEq]
def StepR.u (e : StepR) : U := .agg [.int .i64 e.code, .sl 1 (e.values.map intU)]
@[simp] theorem StepR.u_size (e : StepR) : e.u.size = 2 := rfl
@[simp] theorem StepR.u_var (e : StepR) (K : U → Option α) : U.asVar true 2 e.u K = K e.u := rfl
@[simp] theorem StepR.u_storable (e : StepR) : storable (.val e.u) = true := rfl
@[simp] theorem StepR.u_partable (e : StepR) : partable (.val e.u) = true := rfl
@[simp] theorem StepR.u_noTup (e : StepR) (K : U → Option α) : U.noTup e.u K = K e.u := rfl
@[simp] theorem StepR.u_agg (e : StepR) (K : List U → Option α) : U.asAgg e.u K = K [.int .i64 e.code, .sl 1 (e.values.map intU)] := rfl
@[simp] theorem StepR.u_at0 (e : StepR) (K : U → Option α) : U.fieldAt 0 0 e.u K = K (.int .i64 e.code) := rfl
@[simp] theorem StepR.u_at1 (e : StepR) (K : U → Option α) : U.fieldAt 1 1 e.u K = K (.sl 1 (e.values.map intU)) := rfl
def chainU (l : List Version) : U := .sl 5 (l.map Version.u)
@[simp] theorem chainU_size (l : List Version) : (chainU l).size = 1 := rfl
@[simp] theorem asVar_chainU (l : List Version) (K : U → Option α) : U.asVar false 1 (chainU l) K = K (chainU l) := rfl
@[simp] theorem storable_chainU (l : List Version) : storable (.val (chainU l)) = true := rfl
@[simp] theorem partable_chainU (l : List Version) : partable (.val (chainU l)) = true := rfl
@[simp] theorem noTup_chainU (l : List Version) (K : U → Option α) : U.noTup (chainU l) K = K (chainU l) := rfl
@[simp] theorem lenOf_chainU (l : List Version) : U.lenOf false (chainU l) = some l.length := by simp [chainU]
@[simp] theorem elemAt_chainU (l : List Version) (i : Int) (K : U → Option α) : U.elemAt 5 (chainU l) i K = U.elemAt 5 (.sl 5 (l.map Version.u)) i K := rfl
structure Store where
  chains : List (List Version)
  deriving DecidableEq
theorem Store.eq_iff (x y : Store) : x = y ↔ x.chains = y.chains := by cases x; cases y; simp only [Store.mk.injEq]
def Store.u (e : Store) : U := .agg [.sl 1 (e.chains.map chainU)]
@[simp] theorem Store.u_size (e : Store) : e.u.size = 1 := rfl
@[simp] theorem Store.u_var (e : Store) (K : U → Option α) : U.asVar true 1 e.u K = K e.u := rfl
@[simp] theorem Store.u_storable (e : Store) : storable (.val e.u) = true := rfl
@[simp] theorem Store.u_partable (e : Store) : partable (.val e.u) = true := rfl
@[simp] theorem Store.u_noTup (e : Store) (K : U → Option α) : U.noTup e.u K = K e.u := rfl
@[simp] theorem Store.u_agg (e : Store) (K : List U → Option α) : U.asAgg e.u K = K [.sl 1 (e.chains.map chainU)] := rfl
@[simp] theorem Store.u_at0 (e : Store) (K : U → Option α) : U.fieldAt 0 0 e.u K = K (.sl 1 (e.chains.map chainU)) := rfl
structure Engine where
  certify : Bool
  store : Store
  transactions : List Transaction
  locks : List Lock
  waits : List Wait
  stamp : Int
  deriving DecidableEq
theorem Engine.eq_iff (x y : Engine) : x = y ↔ x.certify = y.certify ∧ x.store = y.store ∧ x.transactions = y.transactions ∧ x.locks = y.locks ∧ x.waits = y.waits ∧ x.stamp = y.stamp := by cases x; cases y; simp only [Engine.mk.injEq]
def Engine.u (e : Engine) : U := .agg [.bool e.certify, e.store.u, .sl 9 (e.transactions.map Transaction.u), .sl 2 (e.locks.map Lock.u), .sl 2 (e.waits.map Wait.u), .int .i64 e.stamp]
@[simp] theorem Engine.u_size (e : Engine) : e.u.size = 6 := rfl
@[simp] theorem Engine.u_var (e : Engine) (K : U → Option α) : U.asVar true 6 e.u K = K e.u := rfl
@[simp] theorem Engine.u_storable (e : Engine) : storable (.val e.u) = true := rfl
@[simp] theorem Engine.u_partable (e : Engine) : partable (.val e.u) = true := rfl
@[simp] theorem Engine.u_noTup (e : Engine) (K : U → Option α) : U.noTup e.u K = K e.u := rfl
@[simp] theorem Engine.u_agg (e : Engine) (K : List U → Option α) : U.asAgg e.u K = K [.bool e.certify, e.store.u, .sl 9 (e.transactions.map Transaction.u), .sl 2 (e.locks.map Lock.u), .sl 2 (e.waits.map Wait.u), .int .i64 e.stamp] := rfl
@[simp] theorem Engine.u_at0 (e : Engine) (K : U → Option α) : U.fieldAt 0 0 e.u K = K (.bool e.certify) := rfl
@[simp] theorem Engine.u_at1 (e : Engine) (K : U → Option α) : U.fieldAt 1 1 e.u K = K (e.store.u) := rfl
@[simp] theorem Engine.u_at2 (e : Engine) (K : U → Option α) : U.fieldAt 2 2 e.u K = K (.sl 9 (e.transactions.map Transaction.u)) := rfl
@[simp] theorem Engine.u_at3 (e : Engine) (K : U → Option α) : U.fieldAt 3 3 e.u K = K (.sl 2 (e.locks.map Lock.u)) := rfl
@[simp] theorem Engine.u_at4 (e : Engine) (K : U → Option α) : U.fieldAt 4 4 e.u K = K (.sl 2 (e.waits.map Wait.u)) := rfl
@[simp] theorem Engine.u_at5 (e : Engine) (K : U → Option α) : U.fieldAt 5 5 e.u K = K (.int .i64 e.stamp) := rfl
structure Node where
  engine : Engine
  log : ByteArray
  deriving DecidableEq
theorem Node.eq_iff (x y : Node) : x = y ↔ x.engine = y.engine ∧ x.log = y.log := by cases x; cases y; simp only [Node.mk.injEq]
def Node.u (e : Node) : U := .agg [e.engine.u, .str e.log]
@[simp] theorem Node.u_size (e : Node) : e.u.size = 7 := rfl
@[simp] theorem Node.u_var (e : Node) (K : U → Option α) : U.asVar true 7 e.u K = K e.u := rfl
@[simp] theorem Node.u_storable (e : Node) : storable (.val e.u) = true := rfl
@[simp] theorem Node.u_partable (e : Node) : partable (.val e.u) = true := rfl
@[simp] theorem Node.u_noTup (e : Node) (K : U → Option α) : U.noTup e.u K = K e.u := rfl
@[simp] theorem Node.u_agg (e : Node) (K : List U → Option α) : U.asAgg e.u K = K [e.engine.u, .str e.log] := rfl
@[simp] theorem Node.u_at0 (e : Node) (K : U → Option α) : U.fieldAt 0 0 e.u K = K (e.engine.u) := rfl
@[simp] theorem Node.u_at1 (e : Node) (K : U → Option α) : U.fieldAt 1 6 e.u K = K (.str e.log) := rfl
structure Report where
  order : List Int
  cycle : List Int
  kind : Int
  deriving DecidableEq
theorem Report.eq_iff (x y : Report) : x = y ↔ x.order = y.order ∧ x.cycle = y.cycle ∧ x.kind = y.kind := by cases x; cases y; simp only [Report.mk.injEq]
def Report.u (e : Report) : U := .agg [.sl 1 (e.order.map intU), .sl 1 (e.cycle.map intU), .int .i64 e.kind]
@[simp] theorem Report.u_size (e : Report) : e.u.size = 3 := rfl
@[simp] theorem Report.u_var (e : Report) (K : U → Option α) : U.asVar true 3 e.u K = K e.u := rfl
@[simp] theorem Report.u_storable (e : Report) : storable (.val e.u) = true := rfl
@[simp] theorem Report.u_partable (e : Report) : partable (.val e.u) = true := rfl
@[simp] theorem Report.u_noTup (e : Report) (K : U → Option α) : U.noTup e.u K = K e.u := rfl
@[simp] theorem Report.u_agg (e : Report) (K : List U → Option α) : U.asAgg e.u K = K [.sl 1 (e.order.map intU), .sl 1 (e.cycle.map intU), .int .i64 e.kind] := rfl
@[simp] theorem Report.u_at0 (e : Report) (K : U → Option α) : U.fieldAt 0 0 e.u K = K (.sl 1 (e.order.map intU)) := rfl
@[simp] theorem Report.u_at1 (e : Report) (K : U → Option α) : U.fieldAt 1 1 e.u K = K (.sl 1 (e.cycle.map intU)) := rfl
@[simp] theorem Report.u_at2 (e : Report) (K : U → Option α) : U.fieldAt 2 2 e.u K = K (.int .i64 e.kind) := rfl
end Go.Proofs.YtmdnjglkdddaeaaGreat.Am
namespace Go.Proofs.YtmdnjglkdddaeaaGreat.Am
open Go
variable {E : Env}
def inR (n lo hi : Int) : Bool := decide (lo ≤ n ∧ n ≤ hi)
theorem spec_l1In_is (h : G_spec_l1In E) (n lo hi : Int) : E 6 [.int .i64 n, .int .i64 lo, .int .i64 hi] = some (.bool (inR n lo hi)) := by
  rw [spec_l1In_E h]
  by_cases h1 : lo ≤ n <;> simp [inR, h1]
theorem impl_in_is (h : G_impl_in E) (n lo hi : Int) : E 10 [.int .i64 n, .int .i64 lo, .int .i64 hi] = some (.bool (inR n lo hi)) := by
  rw [impl_in_E h]
  by_cases h1 : lo ≤ n <;> simp [inR, h1]
theorem impl_isID_is (h : G_impl_isID E) (n : Int) : E 9 [.int .i64 n] = some (.bool (inR n 1 9)) := by
  rw [impl_isID_E h]; simp [impl_in_is h.c_impl_in]
theorem impl_isKey_is (h : G_impl_isKey E) (n : Int) : E 11 [.int .i64 n] = some (.bool (inR n 0 5)) := by
  rw [impl_isKey_E h]; simp [impl_in_is h.c_impl_in]
def cmpI (a b : Int) : Int := if a < b then -1 else if b < a then 1 else 0
theorem cmp_isNaN_is (h : G_cmp_isNaN_g15 E) (n : Int) : E 15 [.int .i64 n] = some (.bool false) := by
  rw [cmp_isNaN_g15_E h]; simp
theorem cmp_Compare_is (h : G_cmp_Compare_g13 E) (a b : Int) : E 13 [.int .i64 a, .int .i64 b] = some (.int .i64 (cmpI a b)) := by
  rw [cmp_Compare_g13_E h]
  simp only [cmp_isNaN_is h.c_cmp_isNaN_g15, cmpI]
  by_cases h1 : a < b <;> by_cases h2 : b < a <;> simp [h1, h2]
def cmpOr : List Int → Int
  | [] => 0
  | n :: l => if n = 0 then cmpOr l else n
theorem cmp_Or_l0_is (l : List Int) (hl : l.length ≤ 1000) : ∀ (r p : List Int) (i : Int), l = p ++ r → i = p.length → cmp_Or_g14_l0 E (.int .i64 0) (intsU l) (.int .i64 l.length) (.int .i64 i) = some (.int .i64 (cmpOr r))
  | [], p, i, e, hi => by
    rw [cmp_Or_g14_l0_eq]
    simp [mid_end e hi, cmpOr]
  | x :: r, p, i, e, hi => by
    obtain ⟨h0, hlt, hx, hw, hn, _⟩ := mid_at e hi (by omega)
    have ih := cmp_Or_l0_is l hl r (p ++ [x]) (i + 1) (mid_next e) hn
    rw [cmp_Or_g14_l0_eq]
    simp [h0, hlt, hx, hw, cmpOr, ih]
    split <;> simp_all
theorem cmp_Or_is (h : G_cmp_Or_g14 E) (l : List Int) (hl : l.length ≤ 1000) : E 14 [intsU l] = some (.int .i64 (cmpOr l)) := by
  rw [cmp_Or_g14_E h]
  simp [cmp_Or_l0_is (E := E) l hl l [] 0 rfl rfl]
end Go.Proofs.YtmdnjglkdddaeaaGreat.Am
namespace Go.Proofs.YtmdnjglkdddaeaaGreat.Am
open Go
def szc (n : Nat) (left : Int) : Int := if left - n < 0 then -1 else left - n
def szl {α : Type} (f : α → Int → Int) : List α → Int → Int
  | [], left => left
  | x :: r, left => if f x left < 0 then -1 else szl f r (f x left)
def szL {α : Type} (f : α → Int → Int) (l : List α) (left : Int) : Int := if left - (l.length : Int) < 0 then -1 else szl f l (left - l.length)
def Szs {α : Type} (f : α → Int → Int) (ok : α → Prop) : Prop := ∀ x left, 0 ≤ left → left ≤ 1048576 → f x left < 0 ∨ (ok x ∧ 0 ≤ f x left ∧ f x left ≤ left)
theorem szc_szs : Szs szc (fun n => n ≤ 1048576) := fun n left h0 h1 => by
  unfold szc
  split
  · left; omega
  · right; refine ⟨by omega, by omega, by omega⟩
theorem szc_neg {n : Nat} {left : Int} (h : szc n left < 0) : szc n left = -1 := by
  unfold szc at h ⊢
  split at h
  · rename_i h1; rw [if_pos h1]
  · rename_i h1; omega
theorem szl_szs {α : Type} {f : α → Int → Int} {ok : α → Prop} (h : Szs f ok) : Szs (szl f) (fun l => ∀ x ∈ l, ok x) := fun l => by
  induction l with
  | nil => exact fun left h0 _ => .inr ⟨by simp, h0, Int.le_refl _⟩
  | cons x r ih =>
    intro left h0 h1
    rcases h x left h0 h1 with h2 | ⟨h2, h3, h4⟩
    · left; simp [szl, h2]
    · have h5 : ¬ f x left < 0 := by omega
      simp only [szl, h5, if_false]
      rcases ih _ h3 (by omega) with h6 | ⟨h6, h7, h8⟩
      · exact .inl h6
      · exact .inr ⟨by simpa using ⟨h2, h6⟩, h7, by omega⟩
theorem szL_szs {α : Type} {f : α → Int → Int} {ok : α → Prop} (h : Szs f ok) : Szs (szL f) (fun l => l.length ≤ 1048576 ∧ ∀ x ∈ l, ok x) := fun l left h0 h1 => by
  unfold szL
  split
  · left; omega
  · rcases szl_szs h l (left - l.length) (by omega) (by omega) with h6 | ⟨h6, h7, h8⟩
    · exact .inl h6
    · exact .inr ⟨⟨by omega, h6⟩, h7, by omega⟩
theorem mid_set {α : Type} (f : α → U) (p : List α) (z : U) (c : List U) {i : Int} (hi : i = p.length) :
    (p.map f ++ z :: c)[i.toNat]? = some z ∧ (∀ y, (p.map f ++ z :: c).set i.toNat y = p.map f ++ y :: c) ∧ i < ((p.map f ++ z :: c).length : Int) := by
  subst hi
  refine ⟨by simp, fun y => by simp, by simp; omega⟩
def Entry.fit (e : Entry) : Prop := e.reads.length ≤ maxLen ∧ e.writes.length ≤ maxLen
def Entry.ok (e : Entry) : Prop := e.reads.length ≤ 1048576 ∧ e.writes.length ≤ 1048576
def LogRecord.fit (e : LogRecord) : Prop := e.reads.length ≤ maxLen ∧ e.writes.length ≤ maxLen
def LogRecord.ok (e : LogRecord) : Prop := e.reads.length ≤ 1048576 ∧ e.writes.length ≤ 1048576
def Transaction.fit (e : Transaction) : Prop := e.reads.length ≤ maxLen ∧ e.writes.length ≤ maxLen
def Transaction.ok (e : Transaction) : Prop := e.reads.length ≤ 1048576 ∧ e.writes.length ≤ 1048576
def chainOk (l : List Version) : Prop := l.length ≤ 1048576
def chainFit (l : List Version) : Prop := l.length ≤ maxLen
def chainSz (l : List Version) (left : Int) : Int := szc l.length left
theorem chainSz_szs : Szs chainSz chainOk := fun l left h0 h1 => szc_szs l.length left h0 h1
theorem chainSz_neg {l : List Version} {left : Int} (h : chainSz l left < 0) : chainSz l left = -1 := szc_neg h
theorem szl_neg {α : Type} {f : α → Int → Int} : ∀ {l : List α} {left : Int}, 0 ≤ left → szl f l left < 0 → szl f l left = -1
  | [], left, h0, h => by simp only [szl] at h; omega
  | x :: r, left, h0, h => by
    simp only [szl] at h ⊢
    by_cases h1 : f x left < 0
    · simp [h1]
    · simp only [h1, if_false] at h ⊢
      exact szl_neg (by omega) h
theorem szL_neg {α : Type} {f : α → Int → Int} (_ : ∀ {x : α} {left : Int}, f x left < 0 → f x left = -1) {l : List α} {left : Int} (h : szL f l left < 0) : szL f l left = -1 := by
  unfold szL at h ⊢
  by_cases h1 : left - (l.length : Int) < 0
  · simp [h1]
  · simp only [h1, if_false] at h ⊢
    exact szl_neg (by omega) h
def Store.fit (s : Store) : Prop := s.chains.length ≤ maxLen ∧ ∀ c ∈ s.chains, chainFit c
def Store.ok (s : Store) : Prop := s.chains.length ≤ 1048576 ∧ ∀ c ∈ s.chains, chainOk c
def Store.sz (s : Store) (left : Int) : Int := szL chainSz s.chains left
theorem Store.sz_szs : Szs Store.sz Store.ok := fun s left h0 h1 => szL_szs chainSz_szs s.chains left h0 h1
def Transaction.sz (e : Transaction) (left : Int) : Int := let v := szc e.reads.length left; if v < 0 then -1 else szc e.writes.length v
theorem Transaction.sz_szs : Szs Transaction.sz Transaction.ok := fun e left h0 h1 => by
  unfold Transaction.sz Transaction.ok
  rcases szc_szs e.reads.length left h0 h1 with h | ⟨h2, h3, h4⟩
  · left; simp [h]
  · have h5 : ¬ szc e.reads.length left < 0 := by omega
    rcases szc_szs e.writes.length _ h3 (by omega) with h | ⟨h6, h7, h8⟩
    · left; simp [h5, h]
    · right; simp only [h5, if_false]; exact ⟨⟨h2, h6⟩, h7, by omega⟩
def Engine.fit (e : Engine) : Prop := e.store.fit ∧ e.transactions.length ≤ maxLen ∧ (∀ t ∈ e.transactions, t.fit) ∧ e.locks.length ≤ maxLen ∧ e.waits.length ≤ maxLen
def Engine.ok (e : Engine) : Prop := e.store.ok ∧ e.transactions.length ≤ 1048576 ∧ (∀ t ∈ e.transactions, t.ok) ∧ e.locks.length ≤ 1048576 ∧ e.waits.length ≤ 1048576
def Engine.sz (e : Engine) (left : Int) : Int :=
  if e.store.sz left < 0 then -1 else
  if szL Transaction.sz e.transactions (e.store.sz left) < 0 then -1 else
  if szc e.locks.length (szL Transaction.sz e.transactions (e.store.sz left)) < 0 then -1 else
  szc e.waits.length (szc e.locks.length (szL Transaction.sz e.transactions (e.store.sz left)))
theorem Engine.sz_szs : Szs Engine.sz Engine.ok := fun e left h0 h1 => by
  unfold Engine.sz Engine.ok
  rcases Store.sz_szs e.store left h0 h1 with n1 | ⟨o1, n1, n2⟩
  · left; simp [n1]
  have n3 : ¬ e.store.sz left < 0 := by omega
  rcases szL_szs Transaction.sz_szs e.transactions _ n1 (by omega) with m1 | ⟨⟨o2, o3⟩, m1, m2⟩
  · left; simp [n3, m1]
  have m3 : ¬ szL Transaction.sz e.transactions (e.store.sz left) < 0 := by omega
  rcases szc_szs e.locks.length _ m1 (by omega) with k1 | ⟨o4, k1, k2⟩
  · left; simp [n3, m3, k1]
  have k3 : ¬ szc e.locks.length (szL Transaction.sz e.transactions (e.store.sz left)) < 0 := by omega
  rcases szc_szs e.waits.length _ k1 (by omega) with j1 | ⟨o5, j1, j2⟩
  · left; simp [n3, m3, k3, j1]
  · right
    simp only [n3, m3, k3, if_false]
    exact ⟨⟨o1, o2, o3, o4, o5⟩, j1, by omega⟩
end Go.Proofs.YtmdnjglkdddaeaaGreat.Am
namespace Go.Proofs.YtmdnjglkdddaeaaGreat.Am
open Go
def idxF {α : Type} (P : α → Bool) : List α → Int → Int
  | [], _ => -1
  | x :: r, i => if P x then i else idxF P r (i + 1)
theorem idxF_any {α : Type} (P : α → Bool) (l : List α) : ∀ {i : Int}, 0 ≤ i → (decide (0 ≤ idxF P l i)) = l.any P := by
  induction l with
  | nil => intro i _; simp [idxF]
  | cons x r ih =>
    intro i hi
    cases h : P x
    · simp [idxF, h, ih (i := i + 1) (by omega)]
    · simp [idxF, h, hi]
theorem idxF_cases {α : Type} (P : α → Bool) (l : List α) : ∀ (i : Int), (idxF P l i = -1 ∧ ∀ x ∈ l, P x = false) ∨ ∃ p x r, l = p ++ x :: r ∧ idxF P l i = i + p.length ∧ P x = true ∧ ∀ y ∈ p, P y = false := by
  induction l with
  | nil => intro i; exact .inl ⟨rfl, by simp⟩
  | cons x r ih =>
    intro i
    cases h : P x with
    | true => exact .inr ⟨[], x, r, rfl, by simp [idxF, h], h, by simp⟩
    | false =>
      rcases ih (i + 1) with ⟨h1, h2⟩ | ⟨p, y, s, h1, h2, h3, h4⟩
      · exact .inl ⟨by simp [idxF, h, h1], by simpa [h] using h2⟩
      · exact .inr ⟨x :: p, y, s, by simp [h1], by simp [idxF, h, h2]; omega, h3, by simpa [h] using h4⟩
end Go.Proofs.YtmdnjglkdddaeaaGreat.Am
namespace Go.Proofs.YtmdnjglkdddaeaaGreat.Am
open Go
variable {E : Env}
set_option linter.unusedVariables false
theorem slices_IndexFunc_g115_l0_is (l : List (List Version)) (hl : l.length ≤ 9223372036854775807) (q : Nat) (caps : List U) (P : (List Version) → Bool) (hp : ∀ x ∈ l, E q (chainU x :: caps) = some (.bool (P x))) (hq : q < 100000) : ∀ (r p : List (List Version)) (i : Int), l = p ++ r → i = p.length →
    slices_IndexFunc_g115_l0 E (.sl 1 (l.map chainU)) (.fn q caps) (.int .i64 l.length) (.int .i64 i) = some (.int .i64 (idxF P r i))
  | [], p, i, e, hi => by
    rw [slices_IndexFunc_g115_l0_eq]
    simp [mid_end e hi, idxF]
  | x :: r, p, i, e, hi => by
    obtain ⟨h0, hlt, hx, hw, hn, _⟩ := mid_at e hi hl
    have hpx := hp x (by rw [e]; simp)
    have ih := slices_IndexFunc_g115_l0_is l hl q caps P hp hq r (p ++ [x]) (i + 1) (mid_next e) hn
    rw [slices_IndexFunc_g115_l0_eq]
    cases h1 : P x <;> simp [hlt, hx, hw, ih, hpx, hq, h1, idxF]
theorem slices_IndexFunc_g115_is (h : G_slices_IndexFunc_g115 E) (l : List (List Version)) (hl : l.length ≤ 9223372036854775807) (q : Nat) (caps : List U) (P : (List Version) → Bool) (hp : ∀ x ∈ l, E q (chainU x :: caps) = some (.bool (P x))) (hq : q < 100000 := by decide) :
    E 115 [.sl 1 (l.map chainU), .fn q caps] = some (.int .i64 (idxF P l 0)) := by
  rw [slices_IndexFunc_g115_E h]
  simp [slices_IndexFunc_g115_l0_is l hl q caps P hp hq l [] 0 rfl rfl]
end Go.Proofs.YtmdnjglkdddaeaaGreat.Am
namespace Go.Proofs.YtmdnjglkdddaeaaGreat.Am
open Go
variable {E : Env}
set_option linter.unusedVariables false
theorem slices_ContainsFunc_g114_is (h : G_slices_ContainsFunc_g114 E) (l : List (List Version)) (hl : l.length ≤ 9223372036854775807) (q : Nat) (caps : List U) (P : (List Version) → Bool) (hp : ∀ x ∈ l, E q (chainU x :: caps) = some (.bool (P x))) (hq : q < 100000 := by decide) :
    E 114 [.sl 1 (l.map chainU), .fn q caps] = some (.bool (l.any P)) := by
  rw [slices_ContainsFunc_g114_E h]
  simp [slices_IndexFunc_g115_is h.c_slices_IndexFunc_g115 l hl q caps P hp hq, idxF_any]
end Go.Proofs.YtmdnjglkdddaeaaGreat.Am
namespace Go.Proofs.YtmdnjglkdddaeaaGreat.Am
open Go
variable {E : Env}
set_option linter.unusedVariables false
def LogRecord.tx (r : LogRecord) : Transaction := ⟨r.id, 1, 2, 0, 0, r.high, r.stamp, r.reads, r.writes⟩
end Go.Proofs.YtmdnjglkdddaeaaGreat.Am
namespace Go.Proofs.YtmdnjglkdddaeaaGreat.Am
open Go
variable {E : Env}
set_option linter.unusedVariables false
def markLt (a b : ReadMark) : Bool := decide (a.key < b.key) || (decide (a.key = b.key) && decide (a.created < b.created))
def markCmp (a b : ReadMark) : Int := cmpOr [cmpI a.key b.key, cmpI a.created b.created]
theorem markCmp_neg (a b : ReadMark) : decide (0 ≤ markCmp a b) = !markLt a b := by
  unfold markCmp markLt cmpI
  simp only [cmpOr]
  by_cases h1 : a.key < b.key
  · simp [h1]
  · by_cases h2 : b.key < a.key
    · have h3 : ¬ a.key = b.key := by omega
      simp [h1, h2, h3]
    · have h3 : a.key = b.key := by omega
      by_cases h4 : a.created < b.created
      · simp [h3, h4]
      · by_cases h5 : b.created < a.created <;> simp [h3, h4, h5]
def reads1 (p : Option ReadMark) (m : ReadMark) : Bool := inR m.key 0 5 && inR m.created 0 999 && (match p with | none => true | some q => markLt q m)
def readsFrom : Option ReadMark → List ReadMark → Bool
  | _, [] => true
  | p, m :: r => reads1 p m && readsFrom (some m) r
def areReads (l : List ReadMark) : Bool := readsFrom none l && decide (l.length ≤ 60)
def writes1 (p : Option Write) (w : Write) : Bool := inR w.key 0 5 && inR w.value (-1) 99 && (match p with | none => true | some q => decide (q.key < w.key))
def writesFrom : Option Write → List Write → Bool
  | _, [] => true
  | p, w :: r => writes1 p w && writesFrom (some w) r
def areWrites (l : List Write) : Bool := writesFrom none l
def Transaction.valid (t : Transaction) : Bool :=
  inR t.id 1 9 && (inR t.scheme 1 4 && (inR t.begin_ 0 999 && (inR t.state 1 3 && (inR t.low 0 999 && (inR t.high 1 1000 && ((decide (t.state = 2) == decide (0 < t.commit)) && (inR t.commit 0 999 && (areReads t.reads && areWrites t.writes))))))))
def LogRecord.valid (r : LogRecord) : Bool := r.tx.valid && (decide (r.high ≤ r.stamp) && inR r.safe 0 r.stamp)
theorem impl_compareMarks_is (h : G_impl_compareMarks E) (a b : ReadMark) : E 75 [a.u, b.u] = some (.int .i64 (markCmp a b)) := by
  rw [impl_compareMarks_E h]
  have := cmp_Or_is h.c_cmp_Or_g14 [cmpI a.key b.key, cmpI a.created b.created] (by simp)
  simp only [intsU, List.map_cons, List.map_nil, intU] at this
  simp [cmp_Compare_is h.c_cmp_Compare_g13, this, markCmp]
theorem spec_l5Before_is (h : G_spec_l5Before E) (a b : ReadMark) : E 71 [a.u, b.u] = some (.bool (markLt a b)) := by
  rw [spec_l5Before_E h]
  by_cases h1 : a.key < b.key
  · simp [markLt, h1]
  · by_cases h2 : a.key = b.key <;> simp [markLt, h1, h2]
theorem impl_IsStamp_is (h : G_impl_IsStamp E) (n : Int) : E 72 [.int .i64 n] = some (.bool (inR n 1 999)) := by
  rw [impl_IsStamp_E h]; simp [impl_in_is h.c_impl_in]
theorem impl_isValue_is (h : G_impl_isValue E) (n : Int) : E 76 [.int .i64 n] = some (.bool (inR n (-1) 99)) := by
  rw [impl_isValue_E h]; simp [impl_in_is h.c_impl_in]
theorem impl_areReads_l0_is (h : G_impl_areReads E) (l : List ReadMark) (hl : l.length ≤ 1048576) : ∀ (r p : List ReadMark) (i : Int), l = p ++ r → i = p.length →
    impl_areReads_l0 E (.sl 2 (l.map ReadMark.u)) (.sl 2 (l.map ReadMark.u)) (.int .i64 l.length) (.int .i64 i) = some (.bool (readsFrom p.getLast? r && decide (l.length ≤ 60)))
  | [], p, i, e, hi => by
    rw [impl_areReads_l0_eq]
    have h1 : decide ((l.length : Int) ≤ 60) = decide (l.length ≤ 60) := by congr 1; simp only [eq_iff_iff]; omega
    simp [mid_end e hi, readsFrom, h1]
  | x :: r, p, i, e, hi => by
    obtain ⟨h0, hlt, hx, hw, hn, _⟩ := mid_at e hi (by omega)
    have ih := impl_areReads_l0_is h l hl r (p ++ [x]) (i + 1) (mid_next e) hn
    rw [List.getLast?_concat] at ih
    rw [impl_areReads_l0_eq]
    by_cases hp : p = []
    · have hi0 : ¬ 0 < i := by subst hp; simp at hi; omega
      simp [h0, hlt, hx, hw, ih, impl_isKey_is h.c_impl_isKey, impl_in_is h.c_impl_in, hi0, hp, ite_f, readsFrom, reads1, Bool.and_assoc]
    · obtain ⟨q, j, hq, hpos, hw1, h1, hq1, _⟩ := mid_last e hi (by omega) hp
      simp [h0, hlt, hx, hw, ih, impl_isKey_is h.c_impl_isKey, impl_in_is h.c_impl_in, hpos, hq, hw1, hq1, impl_compareMarks_is h.c_impl_compareMarks, ite_f, ite_n, markCmp_neg, readsFrom, reads1, Bool.and_assoc]
theorem impl_areReads_is (h : G_impl_areReads E) (l : List ReadMark) (hl : l.length ≤ 1048576) : E 73 [.sl 2 (l.map ReadMark.u)] = some (.bool (areReads l)) := by
  rw [impl_areReads_E h]
  simp [impl_areReads_l0_is h l hl l [] 0 rfl rfl, areReads]
theorem impl_areWrites_l0_is (h : G_impl_areWrites E) (l : List Write) (hl : l.length ≤ 1048576) : ∀ (r p : List Write) (i : Int), l = p ++ r → i = p.length →
    impl_areWrites_l0 E (.sl 2 (l.map Write.u)) (.sl 2 (l.map Write.u)) (.int .i64 l.length) (.int .i64 i) = some (.bool (writesFrom p.getLast? r))
  | [], p, i, e, hi => by
    rw [impl_areWrites_l0_eq]
    simp [mid_end e hi, writesFrom]
  | x :: r, p, i, e, hi => by
    obtain ⟨h0, hlt, hx, hw, hn, _⟩ := mid_at e hi (by omega)
    have ih := impl_areWrites_l0_is h l hl r (p ++ [x]) (i + 1) (mid_next e) hn
    rw [List.getLast?_concat] at ih
    rw [impl_areWrites_l0_eq]
    by_cases hp : p = []
    · have hi0 : ¬ 0 < i := by subst hp; simp at hi; omega
      simp [h0, hlt, hx, hw, ih, impl_isKey_is h.c_impl_isKey, impl_isValue_is h.c_impl_isValue, hi0, hp, ite_f, writesFrom, writes1, Bool.and_assoc]
    · obtain ⟨q, j, hq, hpos, hw1, h1, hq1, _⟩ := mid_last e hi (by omega) hp
      have hc : (!decide (x.key ≤ q.key)) = decide (q.key < x.key) := by rw [← decide_not]; congr 1; simp only [eq_iff_iff]; omega
      simp [h0, hlt, hx, hw, ih, impl_isKey_is h.c_impl_isKey, impl_isValue_is h.c_impl_isValue, hpos, hq, hw1, hq1, ite_f, ite_n, writesFrom, writes1, Bool.and_assoc, hc]
theorem impl_areWrites_is (h : G_impl_areWrites E) (l : List Write) (hl : l.length ≤ 1048576) : E 74 [.sl 2 (l.map Write.u)] = some (.bool (areWrites l)) := by
  rw [impl_areWrites_E h]
  simp [impl_areWrites_l0_is h l hl l [] 0 rfl rfl, areWrites]
def Transaction.tail (t : Transaction) : Bool :=
  inR t.id 1 9 && (inR t.scheme 1 4 && (inR t.begin_ 0 999 && (inR t.state 1 3 && (inR t.low 0 999 && (inR t.high 1 1000 && ((decide (t.state = 2) == decide (0 < t.commit)) && (inR t.commit 0 999 && decide (t.reads.length ≤ 60))))))))
theorem spec_IsVT_l0_is (h : G_spec_IsValidTransaction E) (t : Transaction) (ho : t.ok) : ∀ (r p : List Write) (i : Int), t.writes = p ++ r → i = p.length →
    spec_IsValidTransaction_l0 E (.int .i64 i) t.u = some (.bool (writesFrom p.getLast? r && t.tail))
  | [], p, i, e, hi => by
    rw [spec_IsValidTransaction_l0_eq]
    have h1 : decide ((t.reads.length : Int) ≤ 60) = decide (t.reads.length ≤ 60) := by congr 1; simp only [eq_iff_iff]; omega
    have h2 : decide (t.state = 2 ↔ 0 < t.commit) = (decide (t.state = 2) == decide (0 < t.commit)) := by
      by_cases a : t.state = 2 <;> by_cases b : 0 < t.commit <;> simp [a, b]
    simp [mid_end e hi, spec_l1In_is h.c_spec_l1In, ite_f, ite_t, ite_p, writesFrom, Transaction.tail, h1, h2]
  | x :: r, p, i, e, hi => by
    obtain ⟨h0, hlt, hx, hw, hn, _⟩ := mid_at e hi (by have := ho.2; omega)
    have ih := spec_IsVT_l0_is h t ho r (p ++ [x]) (i + 1) (mid_next e) hn
    rw [List.getLast?_concat] at ih
    rw [spec_IsValidTransaction_l0_eq]
    by_cases hp : p = []
    · have hi0 : ¬ 0 < i := by subst hp; simp at hi; omega
      simp [h0, hlt, hx, hw, ih, spec_l1In_is h.c_spec_l1In, hi0, hp, ite_f, writesFrom, writes1, Bool.and_assoc]
    · obtain ⟨q, j, hq, hpos, hw1, h1, hq1, _⟩ := mid_last e hi (by have := ho.2; omega) hp
      have hc : (!decide (x.key ≤ q.key)) = decide (q.key < x.key) := by rw [← decide_not]; congr 1; simp only [eq_iff_iff]; omega
      simp [h0, hlt, hx, hw, ih, spec_l1In_is h.c_spec_l1In, hpos, hq, hw1, hq1, ite_f, ite_n, writesFrom, writes1, Bool.and_assoc, hc]
theorem spec_IsVT_l1_is (h : G_spec_IsValidTransaction E) (t : Transaction) (ho : t.ok) : ∀ (r p : List ReadMark) (i : Int), t.reads = p ++ r → i = p.length →
    spec_IsValidTransaction_l1 E (.int .i64 i) t.u = some (.bool (readsFrom p.getLast? r && (writesFrom none t.writes && t.tail)))
  | [], p, i, e, hi => by
    rw [spec_IsValidTransaction_l1_eq]
    simp [mid_end e hi, readsFrom, spec_IsVT_l0_is h t ho t.writes [] 0 rfl rfl]
  | x :: r, p, i, e, hi => by
    obtain ⟨h0, hlt, hx, hw, hn, _⟩ := mid_at e hi (by have := ho.1; omega)
    have ih := spec_IsVT_l1_is h t ho r (p ++ [x]) (i + 1) (mid_next e) hn
    rw [List.getLast?_concat] at ih
    rw [spec_IsValidTransaction_l1_eq]
    by_cases hp : p = []
    · have hi0 : ¬ 0 < i := by subst hp; simp at hi; omega
      simp [h0, hlt, hx, hw, ih, spec_l1In_is h.c_spec_l1In, hi0, hp, ite_f, readsFrom, reads1, Bool.and_assoc]
    · obtain ⟨q, j, hq, hpos, hw1, h1, hq1, _⟩ := mid_last e hi (by have := ho.1; omega) hp
      simp [h0, hlt, hx, hw, ih, spec_l1In_is h.c_spec_l1In, hpos, hq, hw1, hq1, ite_f, ite_n, readsFrom, reads1, Bool.and_assoc, spec_l5Before_is h.c_spec_l5Before]
theorem spec_IsValidTransaction_is (h : G_spec_IsValidTransaction E) (t : Transaction) (ho : t.ok) : E 70 [t.u] = some (.bool t.valid) := by
  rw [spec_IsValidTransaction_E h]
  have h1 := spec_IsVT_l1_is h t ho t.reads [] 0 rfl rfl
  have h2 : (readsFrom none t.reads && (writesFrom none t.writes && t.tail)) = t.valid := by
    unfold Transaction.valid Transaction.tail areReads areWrites
    ac_rfl
  simp [h1, h2]
end Go.Proofs.YtmdnjglkdddaeaaGreat.Am
namespace Go.Proofs.YtmdnjglkdddaeaaGreat.Am
open Go
variable {E : Env}
set_option linter.unusedVariables false
theorem ite_pp (p : Prop) [Decidable p] (a b : Bool) : (if p then some (U.bool a) else some (U.bool b)) = some (U.bool (if p then a else b)) := by split <;> rfl
def Version.valid (v : Version) : Bool :=
  inR v.value (-1) 99 && (inR v.created 0 999 && (inR v.reader v.created 999 && (inR v.successor 1 1000 && (if v.created = 0 then decide (v.writer = 0) && decide (v.value = -1) else inR v.writer 1 9))))
theorem spec_IsValidVersion_is (h : G_spec_IsValidVersion E) (v : Version) : E 105 [v.u] = some (.bool v.valid) := by
  rw [spec_IsValidVersion_E h]
  simp [spec_l1In_is h.c_spec_l1In, ite_f, ite_p, ite_pp, Version.valid]
theorem impl_IsValidVersion_is (h : G_impl_IsValidVersion E) (v : Version) : E 117 [v.u] = some (.bool v.valid) := by
  rw [impl_IsValidVersion_E h]
  simp [impl_in_is h.c_impl_in, impl_isID_is h.c_impl_isID, impl_isValue_is h.c_impl_isValue, ite_f, ite_p, ite_pp, Version.valid]
def behind (v w : Version) : Bool := decide (v.created < w.created) && decide (v.successor ≤ w.created)
def chainRest : List Version → Bool
  | [] => true
  | [v] => v.valid
  | v :: w :: r => v.valid && (behind v w && chainRest (w :: r))
def chainLast (l : List Version) : Bool := match l.getLast? with
  | none => false
  | some v => decide (v.successor = 1000)
def validChain (l : List Version) : Bool := chainRest l && chainLast l
theorem spec_IsValidChain_l0_is (h : G_spec_IsValidChain E) (l : List Version) (hl : l.length ≤ 1048576) : ∀ (r p : List Version) (i : Int), l = p ++ r → i = p.length →
    spec_IsValidChain_l0 E (.sl 5 (l.map Version.u)) (.int .i64 i) = some (.bool (chainRest r && chainLast l))
  | [], p, i, e, hi => by
    rw [spec_IsValidChain_l0_eq]
    have hend := mid_end e hi
    by_cases hp : l = []
    · subst hp
      have hneg : ¬ i < 0 := by omega
      simp [hneg, chainRest, chainLast]
    · obtain ⟨q, j, hq, hpos, hw1, h1, hq1, _⟩ := mid_last (l := l) (p := l) (r := []) (i := l.length) (by simp) rfl (by omega) hp
      have hpos' : 0 < l.length := by omega
      simp [hend, chainRest, chainLast, hq, hw1, hq1, hpos']
  | x :: r, p, i, e, hi => by
    obtain ⟨h0, hlt, hx, hw, hn, _⟩ := mid_at e hi (by omega)
    have ih := spec_IsValidChain_l0_is h l hl r (p ++ [x]) (i + 1) (mid_next e) hn
    rw [spec_IsValidChain_l0_eq]
    cases r with
    | nil =>
      have hend := mid_end (mid_next e) hn
      simp [hlt, hx, hw, hend, ih, spec_IsValidVersion_is h.c_spec_IsValidVersion, ite_f, chainRest]
    | cons y r =>
      obtain ⟨_, hlt2, hy, _, _, _⟩ := mid_at (mid_next e) hn (by omega)
      have hc : (!decide (y.created ≤ x.created)) = decide (x.created < y.created) := by rw [← decide_not]; congr 1; simp only [eq_iff_iff]; omega
      have hc2 : (!decide (y.created < x.successor)) = decide (x.successor ≤ y.created) := by rw [← decide_not]; congr 1; simp only [eq_iff_iff]; omega
      simp [hlt, hx, hw, hlt2, hy, ih, spec_IsValidVersion_is h.c_spec_IsValidVersion, ite_f, ite_n, hc, hc2, chainRest, behind, Bool.and_assoc]
theorem spec_IsValidChain_is (h : G_spec_IsValidChain E) (l : List Version) (hl : chainOk l) : E 104 [chainU l] = some (.bool (validChain l)) := by
  rw [spec_IsValidChain_E h]
  exact spec_IsValidChain_l0_is h l hl l [] 0 rfl rfl
def chainFrom : Option Version → List Version → Bool
  | _, [] => true
  | none, v :: r => v.valid && chainFrom (some v) r
  | some q, v :: r => v.valid && (behind q v && chainFrom (some v) r)
theorem chainFrom_some : ∀ (r : List Version) (q : Version), (q.valid && chainFrom (some q) r) = chainRest (q :: r)
  | [], q => by simp [chainFrom, chainRest]
  | v :: r, q => by
    have := chainFrom_some r v
    simp only [chainFrom, chainRest]
    rw [← this]
    ac_rfl
theorem chainFrom_none (l : List Version) : chainFrom none l = chainRest l := by
  cases l with
  | nil => rfl
  | cons v r => simp only [chainFrom]; exact chainFrom_some r v
theorem impl_IsValidChain_l0_is (h : G_impl_IsValidChain E) (l : List Version) (hl : l.length ≤ 1048576) : ∀ (r p : List Version) (i : Int), l = p ++ r → i = p.length →
    impl_IsValidChain_l0 E (.sl 5 (l.map Version.u)) (.sl 5 (l.map Version.u)) (.int .i64 l.length) (.int .i64 i) = some (.bool (chainFrom p.getLast? r && chainLast l))
  | [], p, i, e, hi => by
    rw [impl_IsValidChain_l0_eq]
    have hend := mid_end e hi
    by_cases hp : l = []
    · subst hp
      have hneg : ¬ i < 0 := by omega
      simp [hneg, chainFrom, chainLast]
    · obtain ⟨q, j, hq, hpos, hw1, h1, hq1, _⟩ := mid_last (l := l) (p := l) (r := []) (i := l.length) (by simp) rfl (by omega) hp
      have hpos' : 0 < l.length := by omega
      simp [hend, chainFrom, chainLast, hq, hw1, hq1, hpos']
  | x :: r, p, i, e, hi => by
    obtain ⟨h0, hlt, hx, hw, hn, _⟩ := mid_at e hi (by omega)
    have ih := impl_IsValidChain_l0_is h l hl r (p ++ [x]) (i + 1) (mid_next e) hn
    rw [List.getLast?_concat] at ih
    rw [impl_IsValidChain_l0_eq]
    by_cases hp : p = []
    · have hi0 : ¬ 0 < i := by subst hp; simp at hi; omega
      simp [h0, hlt, hx, hw, ih, impl_IsValidVersion_is h.c_impl_IsValidVersion, hi0, hp, ite_f, chainFrom, Bool.and_assoc]
    · obtain ⟨q, j, hq, hpos, hw1, h1, hq1, _⟩ := mid_last e hi (by omega) hp
      have hc : (!decide (x.created ≤ q.created)) = decide (q.created < x.created) := by rw [← decide_not]; congr 1; simp only [eq_iff_iff]; omega
      have hc2 : (!decide (x.created < q.successor)) = decide (q.successor ≤ x.created) := by rw [← decide_not]; congr 1; simp only [eq_iff_iff]; omega
      simp [h0, hlt, hx, hw, ih, impl_IsValidVersion_is h.c_impl_IsValidVersion, hpos, hq, hw1, hq1, ite_f, ite_n, chainFrom, hc, hc2, behind, Bool.and_assoc]
theorem impl_IsValidChain_is (h : G_impl_IsValidChain E) (l : List Version) (hl : chainOk l) : E 116 [chainU l] = some (.bool (validChain l)) := by
  rw [impl_IsValidChain_E h]
  have h1 := impl_IsValidChain_l0_is h l hl l [] 0 rfl rfl
  simp only [List.getLast?_nil, chainFrom_none] at h1
  simp only [lenOf_chainU, Option.bind_some]
  exact h1
def okChain (l : List Version) : Bool := validChain l && decide (l.length ≤ 50)
def Store.valid (s : Store) : Bool := s.chains.all okChain && decide (s.chains.length = 6)
theorem validChain_ne {l : List Version} (h : validChain l = true) : l ≠ [] := by
  rintro rfl
  simp [validChain, chainLast] at h
theorem spec_IsValidStore_l0_is (h : G_spec_IsValidStore E) (s : Store) (ho : s.ok) : ∀ (r p : List (List Version)) (i : Int), s.chains = p ++ r → i = p.length →
    spec_IsValidStore_l0 E (.int .i64 i) s.u = some (.bool (r.all okChain && decide (s.chains.length = 6)))
  | [], p, i, e, hi => by
    rw [spec_IsValidStore_l0_eq]
    have h1 : decide ((s.chains.length : Int) = 6) = decide (s.chains.length = 6) := by congr 1; simp only [eq_iff_iff]; omega
    simp [mid_end e hi, h1]
  | x :: r, p, i, e, hi => by
    obtain ⟨h0, hlt, hx, hw, hn, _⟩ := mid_at e hi (by have := ho.1; omega)
    have hox : chainOk x := ho.2 x (by rw [e]; simp)
    have ih := spec_IsValidStore_l0_is h s ho r (p ++ [x]) (i + 1) (mid_next e) hn
    rw [spec_IsValidStore_l0_eq]
    cases hv : validChain x with
    | false => simp [hlt, hx, spec_IsValidChain_is h.c_spec_IsValidChain x hox, hv, okChain]
    | true =>
      obtain ⟨v, x', rfl⟩ : ∃ v x', x = v :: x' := by
        cases x with
        | nil => exact absurd rfl (validChain_ne hv)
        | cons v x' => exact ⟨v, x', rfl⟩
      have hfst : ∀ {γ : Type} (K : U → Option γ), U.elemAt 5 (.sl 5 ((v :: x').map Version.u)) 0 K = K v.u := fun K => by
        rw [elemAt_sl]; rfl
      have hlen : decide ((50 : Int) < ((v :: x').length : Int)) = !decide ((v :: x').length ≤ 50) := by
        rw [← decide_not]; congr 1; simp only [eq_iff_iff]; omega
      by_cases hc : 0 < v.created
      · cases h50 : decide ((v :: x').length ≤ 50) <;>
          simp only [Store.u_agg, sizes_nil, List.take_zero, if_true, List.getElem?_cons_zero, Option.bind_some, asVar_sl, lenOf_sl, List.length_map, bin_lss, hlt, decide_true, asBool_bool, asInt_int, hx, asVar_chainU, spec_IsValidChain_is h.c_spec_IsValidChain _ hox, hv, un_not, Bool.not_true, Bool.false_eq_true, if_false, elemAt_chainU, hfst, Version.u_at2, asVar_int, bin_gtr, hc, lenOf_chainU, hlen, h50, Bool.not_false, bin_add, hw, ih, okChain, List.all_cons, Bool.and_false, Bool.false_and, Bool.true_and, Bool.and_true]
      · cases h50 : decide ((v :: x').length ≤ 50) <;>
          simp only [Store.u_agg, sizes_nil, List.take_zero, if_true, List.getElem?_cons_zero, Option.bind_some, asVar_sl, lenOf_sl, List.length_map, bin_lss, hlt, decide_true, decide_false, asBool_bool, asInt_int, hx, asVar_chainU, spec_IsValidChain_is h.c_spec_IsValidChain _ hox, hv, un_not, Bool.not_true, Bool.false_eq_true, if_false, elemAt_chainU, hfst, Version.u_at2, asVar_int, bin_gtr, hc, lenOf_chainU, hlen, h50, Bool.not_false, bin_add, hw, ih, okChain, List.all_cons, Bool.and_false, Bool.false_and, Bool.true_and, Bool.and_true]
theorem spec_IsValidStore_is (h : G_spec_IsValidStore E) (s : Store) (ho : s.ok) : E 103 [s.u] = some (.bool s.valid) := by
  rw [spec_IsValidStore_E h]
  simp [spec_IsValidStore_l0_is h s ho s.chains [] 0 rfl rfl, Store.valid]
theorem impl_IsValidStore_1_is (h : G_impl_IsValidStore_1 E) (l : List Version) (hl : chainOk l) : E 113 [chainU l] = some (.bool (!okChain l)) := by
  rw [impl_IsValidStore_1_E h]
  have hlen : decide ((50 : Int) < (l.length : Int)) = !decide (l.length ≤ 50) := by
    rw [← decide_not]; congr 1; simp only [eq_iff_iff]; omega
  cases hv : validChain l <;> simp [impl_IsValidChain_is h.c_impl_IsValidChain l hl, hv, okChain]
  omega
theorem impl_IsValidStore_is (h : G_impl_IsValidStore E) (s : Store) (ho : s.ok) : E 112 [s.u] = some (.bool s.valid) := by
  rw [impl_IsValidStore_E h]
  have h1 : decide ((s.chains.length : Int) = 6) = decide (s.chains.length = 6) := by congr 1; simp only [eq_iff_iff]; omega
  have h2 := slices_ContainsFunc_g114_is h.c_slices_ContainsFunc_g114 s.chains (by have := ho.1; omega) 113 [] (fun l => !okChain l) (fun c hc => impl_IsValidStore_1_is h.c_impl_IsValidStore_1 c (ho.2 c hc))
  have h3 : (!s.chains.any fun l => !okChain l) = s.chains.all okChain := by
    rw [List.not_any_eq_all_not]; simp
  simp only [Store.u_noTup, Store.u_agg, sizes_nil, List.take_zero, if_true, List.getElem?_cons_zero, Option.bind_some, asVar_sl, lenOf_sl, List.length_map, bin_eql, h1, asBool_bool, h2, un_not, h3, ite_t, Store.valid, Bool.and_comm]
theorem chainRest_valid : ∀ {l : List Version}, chainRest l = true → ∀ v ∈ l, v.valid = true
  | [], _, v, hv => by simp at hv
  | [x], h, v, hv => by
    simp only [List.mem_singleton] at hv
    subst hv
    exact h
  | x :: y :: r, h, v, hv => by
    simp only [chainRest, Bool.and_eq_true] at h
    rcases List.mem_cons.1 hv with rfl | hv
    · exact h.1
    · exact chainRest_valid h.2.2 v hv
theorem Version.valid_le {v : Version} (h : v.valid = true) : v.created ≤ v.reader ∧ 0 ≤ v.created ∧ v.reader ≤ 999 ∧ 1 ≤ v.successor ∧ v.successor ≤ 1000 := by
  simp only [Version.valid, inR, Bool.and_eq_true, decide_eq_true_eq] at h
  omega
theorem Store.valid_mem {s : Store} (h : s.valid = true) {c : List Version} (hc : c ∈ s.chains) : validChain c = true ∧ c.length ≤ 50 ∧ ∀ v ∈ c, v.valid = true := by
  simp only [Store.valid, Bool.and_eq_true, List.all_eq_true] at h
  have := h.1 c hc
  simp only [okChain, Bool.and_eq_true, decide_eq_true_eq] at this
  refine ⟨this.1, this.2, ?_⟩
  have h2 := this.1
  simp only [validChain, Bool.and_eq_true] at h2
  exact chainRest_valid h2.1
end Go.Proofs.YtmdnjglkdddaeaaGreat.Am
namespace Go.Proofs.YtmdnjglkdddaeaaGreat.Am
open Go
variable {E : Env}
def Store.chain (s : Store) (k : Int) : List Version := s.chains.getD k.toNat []
theorem chain_get {s : Store} (hv : s.valid = true) {k : Int} (h0 : 0 ≤ k) (h1 : k ≤ 5) : s.chains[k.toNat]? = some (s.chain k) ∧ s.chain k ∈ s.chains := by
  simp only [Store.valid, Bool.and_eq_true, decide_eq_true_eq] at hv
  have hlt : k.toNat < s.chains.length := by omega
  have e : s.chain k = s.chains[k.toNat] := by unfold Store.chain; simp [List.getElem?_eq_getElem hlt]
  rw [e]
  exact ⟨List.getElem?_eq_getElem hlt, List.getElem_mem hlt⟩
theorem chain_elem {s : Store} (hv : s.valid = true) {k : Int} (h0 : 0 ≤ k) (h1 : k ≤ 5) {γ : Type} (K : U → Option γ) : U.elemAt 1 (.sl 1 (s.chains.map chainU)) k K = K (chainU (s.chain k)) :=
  elemAt_get chainU h0 (chain_get hv h0 h1).1 K
end Go.Proofs.YtmdnjglkdddaeaaGreat.Am
namespace Go.Proofs.YtmdnjglkdddaeaaGreat.Am
open Go
variable {E : Env}
set_option linter.unusedVariables false
theorem impl_isScheme_is (h : G_impl_isScheme E) (n : Int) : E 160 [.int .i64 n] = some (.bool (inR n 1 4)) := by
  rw [impl_isScheme_E h]; simp [impl_in_is h.c_impl_in]
theorem impl_IsValidTransaction_is (h : G_impl_IsValidTransaction E) (t : Transaction) (ho : t.ok) : E 159 [t.u] = some (.bool t.valid) := by
  rw [impl_IsValidTransaction_E h]
  have r1 := impl_areReads_is h.c_impl_areReads t.reads ho.1
  have r2 := impl_areWrites_is h.c_impl_areWrites t.writes ho.2
  cases c1 : inR t.id 1 9
  · simp [impl_isID_is h.c_impl_isID, c1, Transaction.valid]
  cases c2 : inR t.scheme 1 4
  · simp [impl_isID_is h.c_impl_isID, impl_isScheme_is h.c_impl_isScheme, c1, c2, Transaction.valid]
  cases c3 : inR t.state 1 3
  · simp [impl_isID_is h.c_impl_isID, impl_isScheme_is h.c_impl_isScheme, impl_in_is h.c_impl_in, c1, c2, c3, Transaction.valid]
  cases c4 : inR t.begin_ 0 999
  · simp [impl_isID_is h.c_impl_isID, impl_isScheme_is h.c_impl_isScheme, impl_in_is h.c_impl_in, c1, c2, c3, c4, Transaction.valid]
  cases c5 : inR t.low 0 999
  · simp [impl_isID_is h.c_impl_isID, impl_isScheme_is h.c_impl_isScheme, impl_in_is h.c_impl_in, c1, c2, c3, c4, c5, Transaction.valid]
  cases c6 : inR t.high 1 1000
  · simp [impl_isID_is h.c_impl_isID, impl_isScheme_is h.c_impl_isScheme, impl_in_is h.c_impl_in, c1, c2, c3, c4, c5, c6, Transaction.valid]
  have Hf := fun (X : Bool) => (rfl : (false && X) = false)
  by_cases hs : t.state = 2
  · have hd : (t.state = 2) = True := eq_true hs
    cases c7 : inR t.commit 1 999
    · have e : (decide (0 < t.commit) && (inR t.commit 0 999 && (areReads t.reads && areWrites t.writes))) = false := by
        simp only [inR, decide_eq_false_iff_not] at c7
        by_cases h0 : 0 < t.commit
        · have : inR t.commit 0 999 = false := by simp only [inR, decide_eq_false_iff_not]; omega
          simp [this]
        · simp [h0]
      simp [impl_isID_is h.c_impl_isID, impl_isScheme_is h.c_impl_isScheme, impl_in_is h.c_impl_in, impl_IsStamp_is h.c_impl_IsStamp, c1, c2, c3, c4, c5, c6, hd, c7, Transaction.valid] at e ⊢
      intro a b
      exact e a b
    · have e1 : decide (0 < t.commit) = true := by simp only [inR, decide_eq_true_eq] at c7 ⊢; omega
      have e2 : inR t.commit 0 999 = true := by simp only [inR, decide_eq_true_eq] at c7 ⊢; omega
      have e3 : (0 < t.commit) = True := eq_true (by simpa using e1)
      simp [impl_isID_is h.c_impl_isID, impl_isScheme_is h.c_impl_isScheme, impl_in_is h.c_impl_in, impl_IsStamp_is h.c_impl_IsStamp, c1, c2, c3, c4, c5, c6, hd, c7, Transaction.valid, r1, r2, ite_t, e3, e2]
  · have hd : (t.state = 2) = False := eq_false hs
    by_cases hz : t.commit = 0
    · have e2 : inR t.commit 0 999 = true := by simp only [inR, decide_eq_true_eq]; omega
      rw [hz] at e2
      simp [impl_isID_is h.c_impl_isID, impl_isScheme_is h.c_impl_isScheme, impl_in_is h.c_impl_in, impl_IsStamp_is h.c_impl_IsStamp, c1, c2, c3, c4, c5, c6, hd, hz, Transaction.valid, r1, r2, ite_t, e2]
    · have hz' : (t.commit = 0) = False := eq_false hz
      simp [impl_isID_is h.c_impl_isID, impl_isScheme_is h.c_impl_isScheme, impl_in_is h.c_impl_in, impl_IsStamp_is h.c_impl_IsStamp, c1, c2, c3, c4, c5, c6, hd, hz', Transaction.valid]
      intro a b c
      simp only [inR, decide_eq_true_eq] at b
      omega
end Go.Proofs.YtmdnjglkdddaeaaGreat.Am
namespace Go.Proofs.YtmdnjglkdddaeaaGreat.Am
open Go
variable {E : Env}
set_option linter.unusedVariables false
theorem slices_IndexFunc_g163_l0_is (l : List ReadMark) (hl : l.length ≤ 9223372036854775807) (q : Nat) (caps : List U) (P : ReadMark → Bool) (hp : ∀ x ∈ l, E q (ReadMark.u x :: caps) = some (.bool (P x))) (hq : q < 100000) : ∀ (r p : List ReadMark) (i : Int), l = p ++ r → i = p.length →
    slices_IndexFunc_g163_l0 E (.sl 2 (l.map ReadMark.u)) (.fn q caps) (.int .i64 l.length) (.int .i64 i) = some (.int .i64 (idxF P r i))
  | [], p, i, e, hi => by
    rw [slices_IndexFunc_g163_l0_eq]
    simp [mid_end e hi, idxF]
  | x :: r, p, i, e, hi => by
    obtain ⟨h0, hlt, hx, hw, hn, _⟩ := mid_at e hi hl
    have hpx := hp x (by rw [e]; simp)
    have ih := slices_IndexFunc_g163_l0_is l hl q caps P hp hq r (p ++ [x]) (i + 1) (mid_next e) hn
    rw [slices_IndexFunc_g163_l0_eq]
    cases h1 : P x <;> simp [hlt, hx, hw, ih, hpx, hq, h1, idxF]
theorem slices_IndexFunc_g163_is (h : G_slices_IndexFunc_g163 E) (l : List ReadMark) (hl : l.length ≤ 9223372036854775807) (q : Nat) (caps : List U) (P : ReadMark → Bool) (hp : ∀ x ∈ l, E q (ReadMark.u x :: caps) = some (.bool (P x))) (hq : q < 100000 := by decide) :
    E 163 [.sl 2 (l.map ReadMark.u), .fn q caps] = some (.int .i64 (idxF P l 0)) := by
  rw [slices_IndexFunc_g163_E h]
  simp [slices_IndexFunc_g163_l0_is l hl q caps P hp hq l [] 0 rfl rfl]
end Go.Proofs.YtmdnjglkdddaeaaGreat.Am
namespace Go.Proofs.YtmdnjglkdddaeaaGreat.Am
open Go
variable {E : Env}
set_option linter.unusedVariables false
theorem slices_ContainsFunc_g162_is (h : G_slices_ContainsFunc_g162 E) (l : List ReadMark) (hl : l.length ≤ 9223372036854775807) (q : Nat) (caps : List U) (P : ReadMark → Bool) (hp : ∀ x ∈ l, E q (ReadMark.u x :: caps) = some (.bool (P x))) (hq : q < 100000 := by decide) :
    E 162 [.sl 2 (l.map ReadMark.u), .fn q caps] = some (.bool (l.any P)) := by
  rw [slices_ContainsFunc_g162_E h]
  simp [slices_IndexFunc_g163_is h.c_slices_IndexFunc_g163 l hl q caps P hp hq, idxF_any]
end Go.Proofs.YtmdnjglkdddaeaaGreat.Am
namespace Go.Proofs.YtmdnjglkdddaeaaGreat.Am
open Go
variable {E : Env}
set_option linter.unusedVariables false
theorem slices_IndexFunc_g167_l0_is (l : List Version) (hl : l.length ≤ 9223372036854775807) (q : Nat) (caps : List U) (P : Version → Bool) (hp : ∀ x ∈ l, E q (Version.u x :: caps) = some (.bool (P x))) (hq : q < 100000) : ∀ (r p : List Version) (i : Int), l = p ++ r → i = p.length →
    slices_IndexFunc_g167_l0 E (.sl 5 (l.map Version.u)) (.fn q caps) (.int .i64 l.length) (.int .i64 i) = some (.int .i64 (idxF P r i))
  | [], p, i, e, hi => by
    rw [slices_IndexFunc_g167_l0_eq]
    simp [mid_end e hi, idxF]
  | x :: r, p, i, e, hi => by
    obtain ⟨h0, hlt, hx, hw, hn, _⟩ := mid_at e hi hl
    have hpx := hp x (by rw [e]; simp)
    have ih := slices_IndexFunc_g167_l0_is l hl q caps P hp hq r (p ++ [x]) (i + 1) (mid_next e) hn
    rw [slices_IndexFunc_g167_l0_eq]
    cases h1 : P x <;> simp [hlt, hx, hw, ih, hpx, hq, h1, idxF]
theorem slices_IndexFunc_g167_is (h : G_slices_IndexFunc_g167 E) (l : List Version) (hl : l.length ≤ 9223372036854775807) (q : Nat) (caps : List U) (P : Version → Bool) (hp : ∀ x ∈ l, E q (Version.u x :: caps) = some (.bool (P x))) (hq : q < 100000 := by decide) :
    E 167 [.sl 5 (l.map Version.u), .fn q caps] = some (.int .i64 (idxF P l 0)) := by
  rw [slices_IndexFunc_g167_E h]
  simp [slices_IndexFunc_g167_l0_is l hl q caps P hp hq l [] 0 rfl rfl]
end Go.Proofs.YtmdnjglkdddaeaaGreat.Am
namespace Go.Proofs.YtmdnjglkdddaeaaGreat.Am
open Go
variable {E : Env}
set_option linter.unusedVariables false
theorem slices_IndexFunc_g172_l0_is (l : List Transaction) (hl : l.length ≤ 9223372036854775807) (q : Nat) (caps : List U) (P : Transaction → Bool) (hp : ∀ x ∈ l, E q (Transaction.u x :: caps) = some (.bool (P x))) (hq : q < 100000) : ∀ (r p : List Transaction) (i : Int), l = p ++ r → i = p.length →
    slices_IndexFunc_g172_l0 E (.sl 9 (l.map Transaction.u)) (.fn q caps) (.int .i64 l.length) (.int .i64 i) = some (.int .i64 (idxF P r i))
  | [], p, i, e, hi => by
    rw [slices_IndexFunc_g172_l0_eq]
    simp [mid_end e hi, idxF]
  | x :: r, p, i, e, hi => by
    obtain ⟨h0, hlt, hx, hw, hn, _⟩ := mid_at e hi hl
    have hpx := hp x (by rw [e]; simp)
    have ih := slices_IndexFunc_g172_l0_is l hl q caps P hp hq r (p ++ [x]) (i + 1) (mid_next e) hn
    rw [slices_IndexFunc_g172_l0_eq]
    cases h1 : P x <;> simp [hlt, hx, hw, ih, hpx, hq, h1, idxF]
theorem slices_IndexFunc_g172_is (h : G_slices_IndexFunc_g172 E) (l : List Transaction) (hl : l.length ≤ 9223372036854775807) (q : Nat) (caps : List U) (P : Transaction → Bool) (hp : ∀ x ∈ l, E q (Transaction.u x :: caps) = some (.bool (P x))) (hq : q < 100000 := by decide) :
    E 172 [.sl 9 (l.map Transaction.u), .fn q caps] = some (.int .i64 (idxF P l 0)) := by
  rw [slices_IndexFunc_g172_E h]
  simp [slices_IndexFunc_g172_l0_is l hl q caps P hp hq l [] 0 rfl rfl]
end Go.Proofs.YtmdnjglkdddaeaaGreat.Am
namespace Go.Proofs.YtmdnjglkdddaeaaGreat.Am
open Go
variable {E : Env}
set_option linter.unusedVariables false
def isAt (created : Int) (v : Version) : Bool := decide (v.created = created)
theorem impl_FindVersion_1_is (h : G_impl_FindVersion_1 E) (v : Version) (c : Int) : E 166 [v.u, .vp (.int .i64 c)] = some (.bool (isAt c v)) := by
  rw [impl_FindVersion_1_E h]; simp [isAt]
theorem impl_FindVersion_is (h : G_impl_FindVersion E) (l : List Version) (hl : chainOk l) (c : Int) : E 165 [chainU l, .int .i64 c] = some (.int .i64 (idxF (isAt c) l 0)) := by
  rw [impl_FindVersion_E h]
  have := slices_IndexFunc_g167_is h.c_slices_IndexFunc_g167 l (by unfold chainOk at hl; omega) 166 [.vp (.int .i64 c)] (isAt c) (fun v _ => impl_FindVersion_1_is h.c_impl_FindVersion_1 v c)
  unfold chainU
  simp [this]
theorem spec_FindVersion_l0_is (l : List Version) (hl : chainOk l) (c : Int) : ∀ (r p : List Version) (i : Int), l = p ++ r → i = p.length →
    spec_FindVersion_l0 E (.sl 5 (l.map Version.u)) (.int .i64 c) (.int .i64 i) = some (.int .i64 (idxF (isAt c) r i))
  | [], p, i, e, hi => by
    rw [spec_FindVersion_l0_eq]
    simp [mid_end e hi, idxF]
  | x :: r, p, i, e, hi => by
    obtain ⟨h0, hlt, hx, hw, hn, _⟩ := mid_at e hi (by unfold chainOk at hl; omega)
    have ih := spec_FindVersion_l0_is l hl c r (p ++ [x]) (i + 1) (mid_next e) hn
    rw [spec_FindVersion_l0_eq]
    by_cases h1 : x.created = c <;> simp [hlt, hx, hw, ih, h1, idxF, isAt]
theorem spec_FindVersion_is (h : G_spec_FindVersion E) (l : List Version) (hl : chainOk l) (c : Int) : E 140 [chainU l, .int .i64 c] = some (.int .i64 (idxF (isAt c) l 0)) := by
  rw [spec_FindVersion_E h]
  exact spec_FindVersion_l0_is l hl c l [] 0 rfl rfl
def hasMark (s : Store) (m : ReadMark) : Bool := (s.chain m.key).any (isAt m.created)
theorem impl_find_is (h : G_impl_Store_find E) (s : Store) (ho : s.ok) (hv : s.valid = true) (m : ReadMark) (h0 : 0 ≤ m.key) (h1 : m.key ≤ 5) :
    E 164 [s.u, m.u] = some (match (s.chain m.key).find? (isAt m.created) with | none => .nil | some v => .vp v.u) := by
  rw [impl_Store_find_E h]
  have hc : chainOk (s.chain m.key) := ho.2 _ (chain_get hv h0 h1).2
  have hf := impl_FindVersion_is h.c_impl_FindVersion (s.chain m.key) hc m.created
  rcases idxF_cases (isAt m.created) (s.chain m.key) 0 with ⟨e1, e2⟩ | ⟨p, x, r, e1, e2, e3, e4⟩
  · have : (s.chain m.key).find? (isAt m.created) = none := by simpa using e2
    rw [e1] at hf
    rw [this]
    simp [chain_elem hv h0 h1, hf]
  · have : (s.chain m.key).find? (isAt m.created) = some x := by
      rw [e1, List.find?_append]
      have : p.find? (isAt m.created) = none := by simpa using e4
      rw [this]; simp [e3]
    rw [this]
    rw [e2] at hf
    have hneg : ¬ (0 : Int) + p.length < 0 := by omega
    obtain ⟨_, _, hx, _, _, _⟩ := mid_at e1 (i := (0 : Int) + p.length) (by omega) (by unfold chainOk at hc; omega)
    simp [chain_elem hv h0 h1, hf, hneg] at hx ⊢
    simp [hx]
theorem find_any {α : Type} (P : α → Bool) (l : List α) : (l.find? P).isSome = l.any P := by
  induction l with
  | nil => rfl
  | cons x r ih => cases h : P x <;> simp [List.find?_cons, h, ih]
theorem impl_readsExist_1_is (h : G_impl_Store_readsExist_1 E) (s : Store) (ho : s.ok) (hv : s.valid = true) (m : ReadMark) (h0 : 0 ≤ m.key) (h1 : m.key ≤ 5) :
    E 161 [m.u, .vp s.u] = some (.bool (!hasMark s m)) := by
  rw [impl_Store_readsExist_1_E h]
  have hf := impl_find_is h.c_impl_Store_find s ho hv m h0 h1
  unfold hasMark
  rw [← find_any]
  cases hx : (s.chain m.key).find? (isAt m.created) <;> rw [hx] at hf <;> simp [hf]
def KeysOK (l : List ReadMark) : Prop := ∀ m ∈ l, 0 ≤ m.key ∧ m.key ≤ 5
theorem readsFrom_keys : ∀ {l : List ReadMark} {p : Option ReadMark}, readsFrom p l = true → KeysOK l
  | [], _, _ => fun m hm => by simp at hm
  | x :: r, p, h => by
    simp only [readsFrom, reads1, inR, Bool.and_eq_true, decide_eq_true_eq] at h
    intro m hm
    rcases List.mem_cons.1 hm with rfl | hm
    · exact h.1.1.1
    · exact readsFrom_keys h.2 m hm
theorem valid_keys {t : Transaction} (h : t.valid = true) : KeysOK t.reads := by
  simp only [Transaction.valid, areReads, Bool.and_eq_true] at h
  exact readsFrom_keys h.2.2.2.2.2.2.2.2.1.1
def marksExist (s : Store) (l : List ReadMark) : Bool := l.all (hasMark s)
theorem impl_readsExist_is (h : G_impl_Store_readsExist E) (s : Store) (ho : s.ok) (hv : s.valid = true) (l : List ReadMark) (hl : l.length ≤ 1048576) (hk : KeysOK l) :
    E 158 [s.u, .sl 2 (l.map ReadMark.u)] = some (.bool (marksExist s l)) := by
  rw [impl_Store_readsExist_E h]
  have h2 := slices_ContainsFunc_g162_is h.c_slices_ContainsFunc_g162 l (by omega) 161 [.vp s.u] (fun m => !hasMark s m) (fun m hm => impl_readsExist_1_is h.c_impl_Store_readsExist_1 s ho hv m (hk m hm).1 (hk m hm).2)
  have h3 : (!l.any fun m => !hasMark s m) = marksExist s l := by
    rw [List.not_any_eq_all_not]; simp [marksExist]
  simp [h2, h3]
theorem spec_ReadsExist_l0_is (h : G_spec_ReadsExist E) (s : Store) (ho : s.ok) (hv : s.valid = true) (t : Transaction) (ht : t.ok) (hk : KeysOK t.reads) : ∀ (r p : List ReadMark) (i : Int), t.reads = p ++ r → i = p.length →
    spec_ReadsExist_l0 E (.int .i64 i) s.u t.u = some (.bool (marksExist s r))
  | [], p, i, e, hi => by
    rw [spec_ReadsExist_l0_eq]
    simp [mid_end e hi, marksExist]
  | m :: r, p, i, e, hi => by
    obtain ⟨h0, hlt, hx, hw, hn, _⟩ := mid_at e hi (by have := ht.1; omega)
    have ih := spec_ReadsExist_l0_is h s ho hv t ht hk r (p ++ [m]) (i + 1) (mid_next e) hn
    have hm := hk m (by rw [e]; simp)
    have hc : chainOk (s.chain m.key) := ho.2 _ (chain_get hv hm.1 hm.2).2
    have hf := spec_FindVersion_is h.c_spec_FindVersion (s.chain m.key) hc m.created
    have hany := idxF_any (isAt m.created) (s.chain m.key) (i := 0) (by omega)
    rw [spec_ReadsExist_l0_eq]
    cases hb : hasMark s m with
    | false =>
      have : idxF (isAt m.created) (s.chain m.key) 0 < 0 := by
        unfold hasMark at hb
        rw [hb] at hany
        simp only [decide_eq_false_iff_not] at hany
        omega
      simp [hlt, hx, chain_elem hv hm.1 hm.2, hf, this, marksExist, hb]
    | true =>
      have : ¬ idxF (isAt m.created) (s.chain m.key) 0 < 0 := by
        unfold hasMark at hb
        rw [hb] at hany
        simp only [decide_eq_true_eq] at hany
        omega
      simp [hlt, hx, hw, chain_elem hv hm.1 hm.2, hf, this, ih]
      simp [marksExist, hb]
theorem spec_ReadsExist_is (h : G_spec_ReadsExist E) (s : Store) (ho : s.ok) (t : Transaction) (ht : t.ok) : E 136 [s.u, t.u] = some (.bool (s.valid && (t.valid && marksExist s t.reads))) := by
  rw [spec_ReadsExist_E h]
  cases hv : s.valid
  · simp [spec_IsValidStore_is h.c_spec_IsValidStore s ho, hv]
  cases hv2 : t.valid
  · simp [spec_IsValidStore_is h.c_spec_IsValidStore s ho, hv, spec_IsValidTransaction_is h.c_spec_IsValidTransaction t ht, hv2]
  simp [spec_IsValidStore_is h.c_spec_IsValidStore s ho, hv, spec_IsValidTransaction_is h.c_spec_IsValidTransaction t ht, hv2, spec_ReadsExist_l0_is h s ho hv t ht (valid_keys hv2) t.reads [] 0 rfl rfl]
end Go.Proofs.YtmdnjglkdddaeaaGreat.Am
namespace Go.Proofs.YtmdnjglkdddaeaaGreat.Am
open Go
variable {E : Env}
set_option linter.unusedVariables false
def mx (a b : Int) : Int := if a < b then b else a
theorem mx_ge {a b : Int} : a ≤ mx a b ∧ b ≤ mx a b := by unfold mx; split <;> omega
def lastC (n : Int) (c : List Version) : Int := c.foldl (fun a v => mx a v.reader) n
def Store.last (s : Store) : Int := s.chains.foldl lastC 0
theorem impl_lastStamp_l1_is (s : Store) (ho : s.ok) (i : Int) (hi0 : 0 ≤ i) (hi1 : i ≤ 1048576) (c : List Version) (hc : chainOk c) : ∀ (r p : List Version) (j n : Int), c = p ++ r → j = p.length →
    impl_Store_lastStamp_l1 E (.int .i64 n) (.sl 1 (s.chains.map chainU)) (.int .i64 s.chains.length) (.int .i64 i) (chainU c) (.int .i64 c.length) (.int .i64 j) = impl_Store_lastStamp_l0 E (.int .i64 (lastC n r)) (.sl 1 (s.chains.map chainU)) (.int .i64 s.chains.length) (.int .i64 (i + 1))
  | [], p, j, n, e, hj => by
    have hw : IntKind.i64.wrap (i + 1) = i + 1 := wrap_in (by omega)
    rw [impl_Store_lastStamp_l1_eq]
    simp [mid_end e hj, hw, lastC]
  | v :: r, p, j, n, e, hj => by
    obtain ⟨h0, hlt, hx, hw, hn, _⟩ := mid_at e hj (by unfold chainOk at hc; omega)
    have ih := impl_lastStamp_l1_is s ho i hi0 hi1 c hc r (p ++ [v]) (j + 1) (mx n v.reader) (mid_next e) hn
    rw [impl_Store_lastStamp_l1_eq]
    simp only [lastC, List.foldl_cons] at ih ⊢
    rw [← ih]
    simp [hlt, hx, hw, mx]
theorem impl_lastStamp_l0_is (s : Store) (ho : s.ok) : ∀ (r p : List (List Version)) (i n : Int), s.chains = p ++ r → i = p.length →
    impl_Store_lastStamp_l0 E (.int .i64 n) (.sl 1 (s.chains.map chainU)) (.int .i64 s.chains.length) (.int .i64 i) = some (.int .i64 (r.foldl lastC n))
  | [], p, i, n, e, hi => by
    rw [impl_Store_lastStamp_l0_eq]
    simp [mid_end e hi]
  | c :: r, p, i, n, e, hi => by
    obtain ⟨h0, hlt, hx, hw, hn, _⟩ := mid_at e hi (by have := ho.1; omega)
    have hc : chainOk c := ho.2 c (by rw [e]; simp)
    have h1 := impl_lastStamp_l1_is (E := E) s ho i h0 (by have := ho.1; omega) c hc c [] 0 n rfl rfl
    have ih := impl_lastStamp_l0_is s ho r (p ++ [c]) (i + 1) (lastC n c) (mid_next e) hn
    rw [impl_Store_lastStamp_l0_eq]
    simp only [bin_lss, hlt, decide_true, Option.bind_some, asBool_bool, if_true, asInt_int, hx, asVar_chainU, lenOf_chainU, List.foldl_cons]
    rw [h1, ih]
theorem impl_lastStamp_is (h : G_impl_Store_lastStamp E) (s : Store) (ho : s.ok) : E 152 [s.u] = some (.int .i64 s.last) := by
  rw [impl_Store_lastStamp_E h]
  simp [impl_lastStamp_l0_is s ho s.chains [] 0 0 rfl rfl, Store.last]
theorem spec_LastStamp_l1_is (s : Store) (ho : s.ok) (hv : s.valid = true) (i : Int) (c : List Version) (hc : chainOk c) (h0 : 0 ≤ i) (hi1 : i ≤ 1048576) (hi : s.chains[i.toNat]? = some c) : ∀ (r p : List Version) (j n : Int), c = p ++ r → j = p.length →
    spec_LastStamp_l1 E (.int .i64 n) (.int .i64 i) (.int .i64 j) s.u = spec_LastStamp_l0 E (.int .i64 (lastC n r)) (.int .i64 (i + 1)) s.u
  | [], p, j, n, e, hj => by
    have hw : IntKind.i64.wrap (i + 1) = i + 1 := wrap_in (by omega)
    rw [spec_LastStamp_l1_eq]
    simp [mid_end e hj, hw, lastC, elemAt_get chainU h0 hi]
  | v :: r, p, j, n, e, hj => by
    obtain ⟨j0, hlt, hx, hw, hn, _⟩ := mid_at e hj (by unfold chainOk at hc; omega)
    have hvv := ((Store.valid_mem hv (List.mem_of_getElem? hi)).2.2 v (by rw [e]; simp))
    have hle := (Version.valid_le hvv).1
    have ih := spec_LastStamp_l1_is s ho hv i c hc h0 hi1 hi r (p ++ [v]) (j + 1) (mx n v.reader) (mid_next e) hn
    rw [spec_LastStamp_l1_eq]
    simp only [lastC, List.foldl_cons] at ih ⊢
    rw [← ih]
    have hm : (if (if n < v.created then v.created else n) < v.reader then v.reader else if n < v.created then v.created else n) = mx n v.reader := by
      unfold mx; split <;> (try split) <;> (try split) <;> omega
    simp [hlt, hx, hw, elemAt_get chainU h0 hi, hm]
theorem spec_LastStamp_l0_is (h : G_spec_LastStamp E) (s : Store) (ho : s.ok) (hv : s.valid = true) : ∀ (r p : List (List Version)) (i n : Int), s.chains = p ++ r → i = p.length →
    spec_LastStamp_l0 E (.int .i64 n) (.int .i64 i) s.u = some (.int .i64 (r.foldl lastC n))
  | [], p, i, n, e, hi => by
    rw [spec_LastStamp_l0_eq]
    simp [mid_end e hi]
  | c :: r, p, i, n, e, hi => by
    obtain ⟨h0, hlt, hx, hw, hn, hxi⟩ := mid_at e hi (by have := ho.1; omega)
    have hc : chainOk c := ho.2 c (by rw [e]; simp)
    have h1 := spec_LastStamp_l1_is (E := E) s ho hv i c hc h0 (by have := ho.1; omega) hxi c [] 0 n rfl rfl
    have ih := spec_LastStamp_l0_is h s ho hv r (p ++ [c]) (i + 1) (lastC n c) (mid_next e) hn
    rw [spec_LastStamp_l0_eq]
    simp [hlt, spec_IsValidStore_is h.c_spec_IsValidStore s ho, hv, h1, ih]
theorem spec_LastStamp_is (h : G_spec_LastStamp E) (s : Store) (ho : s.ok) (hv : s.valid = true) : E 139 [s.u] = some (.int .i64 s.last) := by
  rw [spec_LastStamp_E h]
  simp [spec_LastStamp_l0_is h s ho hv s.chains [] 0 0 rfl rfl, Store.last]
end Go.Proofs.YtmdnjglkdddaeaaGreat.Am
namespace Go.Proofs.YtmdnjglkdddaeaaGreat.Am
open Go
variable {E : Env}
set_option linter.unusedVariables false
theorem slices_IndexFunc_g168_l0_is (l : List Lock) (hl : l.length ≤ 9223372036854775807) (q : Nat) (caps : List U) (P : Lock → Bool) (hp : ∀ x ∈ l, E q (Lock.u x :: caps) = some (.bool (P x))) (hq : q < 100000) : ∀ (r p : List Lock) (i : Int), l = p ++ r → i = p.length →
    slices_IndexFunc_g168_l0 E (.sl 2 (l.map Lock.u)) (.fn q caps) (.int .i64 l.length) (.int .i64 i) = some (.int .i64 (idxF P r i))
  | [], p, i, e, hi => by
    rw [slices_IndexFunc_g168_l0_eq]
    simp [mid_end e hi, idxF]
  | x :: r, p, i, e, hi => by
    obtain ⟨h0, hlt, hx, hw, hn, _⟩ := mid_at e hi hl
    have hpx := hp x (by rw [e]; simp)
    have ih := slices_IndexFunc_g168_l0_is l hl q caps P hp hq r (p ++ [x]) (i + 1) (mid_next e) hn
    rw [slices_IndexFunc_g168_l0_eq]
    cases h1 : P x <;> simp [hlt, hx, hw, ih, hpx, hq, h1, idxF]
theorem slices_IndexFunc_g168_is (h : G_slices_IndexFunc_g168 E) (l : List Lock) (hl : l.length ≤ 9223372036854775807) (q : Nat) (caps : List U) (P : Lock → Bool) (hp : ∀ x ∈ l, E q (Lock.u x :: caps) = some (.bool (P x))) (hq : q < 100000 := by decide) :
    E 168 [.sl 2 (l.map Lock.u), .fn q caps] = some (.int .i64 (idxF P l 0)) := by
  rw [slices_IndexFunc_g168_E h]
  simp [slices_IndexFunc_g168_l0_is l hl q caps P hp hq l [] 0 rfl rfl]
end Go.Proofs.YtmdnjglkdddaeaaGreat.Am
namespace Go.Proofs.YtmdnjglkdddaeaaGreat.Am
open Go
variable {E : Env}
set_option linter.unusedVariables false
theorem slices_ContainsFunc_g155_is (h : G_slices_ContainsFunc_g155 E) (l : List Lock) (hl : l.length ≤ 9223372036854775807) (q : Nat) (caps : List U) (P : Lock → Bool) (hp : ∀ x ∈ l, E q (Lock.u x :: caps) = some (.bool (P x))) (hq : q < 100000 := by decide) :
    E 155 [.sl 2 (l.map Lock.u), .fn q caps] = some (.bool (l.any P)) := by
  rw [slices_ContainsFunc_g155_E h]
  simp [slices_IndexFunc_g168_is h.c_slices_IndexFunc_g168 l hl q caps P hp hq, idxF_any]
end Go.Proofs.YtmdnjglkdddaeaaGreat.Am
namespace Go.Proofs.YtmdnjglkdddaeaaGreat.Am
open Go
variable {E : Env}
set_option linter.unusedVariables false
theorem slices_IndexFunc_g173_l0_is (l : List Wait) (hl : l.length ≤ 9223372036854775807) (q : Nat) (caps : List U) (P : Wait → Bool) (hp : ∀ x ∈ l, E q (Wait.u x :: caps) = some (.bool (P x))) (hq : q < 100000) : ∀ (r p : List Wait) (i : Int), l = p ++ r → i = p.length →
    slices_IndexFunc_g173_l0 E (.sl 2 (l.map Wait.u)) (.fn q caps) (.int .i64 l.length) (.int .i64 i) = some (.int .i64 (idxF P r i))
  | [], p, i, e, hi => by
    rw [slices_IndexFunc_g173_l0_eq]
    simp [mid_end e hi, idxF]
  | x :: r, p, i, e, hi => by
    obtain ⟨h0, hlt, hx, hw, hn, _⟩ := mid_at e hi hl
    have hpx := hp x (by rw [e]; simp)
    have ih := slices_IndexFunc_g173_l0_is l hl q caps P hp hq r (p ++ [x]) (i + 1) (mid_next e) hn
    rw [slices_IndexFunc_g173_l0_eq]
    cases h1 : P x <;> simp [hlt, hx, hw, ih, hpx, hq, h1, idxF]
theorem slices_IndexFunc_g173_is (h : G_slices_IndexFunc_g173 E) (l : List Wait) (hl : l.length ≤ 9223372036854775807) (q : Nat) (caps : List U) (P : Wait → Bool) (hp : ∀ x ∈ l, E q (Wait.u x :: caps) = some (.bool (P x))) (hq : q < 100000 := by decide) :
    E 173 [.sl 2 (l.map Wait.u), .fn q caps] = some (.int .i64 (idxF P l 0)) := by
  rw [slices_IndexFunc_g173_E h]
  simp [slices_IndexFunc_g173_l0_is l hl q caps P hp hq l [] 0 rfl rfl]
end Go.Proofs.YtmdnjglkdddaeaaGreat.Am
namespace Go.Proofs.YtmdnjglkdddaeaaGreat.Am
open Go
variable {E : Env}
set_option linter.unusedVariables false
theorem slices_ContainsFunc_g157_is (h : G_slices_ContainsFunc_g157 E) (l : List Wait) (hl : l.length ≤ 9223372036854775807) (q : Nat) (caps : List U) (P : Wait → Bool) (hp : ∀ x ∈ l, E q (Wait.u x :: caps) = some (.bool (P x))) (hq : q < 100000 := by decide) :
    E 157 [.sl 2 (l.map Wait.u), .fn q caps] = some (.bool (l.any P)) := by
  rw [slices_ContainsFunc_g157_E h]
  simp [slices_IndexFunc_g173_is h.c_slices_IndexFunc_g173 l hl q caps P hp hq, idxF_any]
end Go.Proofs.YtmdnjglkdddaeaaGreat.Am
namespace Go.Proofs.YtmdnjglkdddaeaaGreat.Am
open Go
variable {E : Env}
set_option linter.unusedVariables false
def locks1 (p : Option Lock) (w : Lock) : Bool := inR w.key 0 5 && inR w.owner 1 9 && (match p with | none => true | some q => decide (q.key < w.key))
def locksFrom : Option Lock → List Lock → Bool
  | _, [] => true
  | p, w :: r => locks1 p w && locksFrom (some w) r
def waits1 (p : Option Wait) (w : Wait) : Bool := inR w.id 1 9 && inR w.for_ 1 9 && !decide (w.id = w.for_) && (match p with | none => true | some q => decide (q.id < w.id))
def waitsFrom : Option Wait → List Wait → Bool
  | _, [] => true
  | p, w :: r => waits1 p w && waitsFrom (some w) r
theorem neg_le (a b : Int) : (!decide (b ≤ a)) = decide (a < b) := by rw [← decide_not]; congr 1; simp only [eq_iff_iff]; omega
theorem impl_AreLocks_l0_is (h : G_impl_AreLocks E) (l : List Lock) (hl : l.length ≤ 1048576) : ∀ (r p : List Lock) (i : Int), l = p ++ r → i = p.length →
    impl_AreLocks_l0 E (.sl 2 (l.map Lock.u)) (.sl 2 (l.map Lock.u)) (.int .i64 l.length) (.int .i64 i) = some (.bool (locksFrom p.getLast? r))
  | [], p, i, e, hi => by
    rw [impl_AreLocks_l0_eq]
    simp [mid_end e hi, locksFrom]
  | x :: r, p, i, e, hi => by
    obtain ⟨h0, hlt, hx, hw, hn, _⟩ := mid_at e hi (by omega)
    have ih := impl_AreLocks_l0_is h l hl r (p ++ [x]) (i + 1) (mid_next e) hn
    rw [List.getLast?_concat] at ih
    rw [impl_AreLocks_l0_eq]
    by_cases hp : p = []
    · have hi0 : ¬ 0 < i := by subst hp; simp at hi; omega
      simp [h0, hlt, hx, hw, ih, impl_isKey_is h.c_impl_isKey, impl_isID_is h.c_impl_isID, hi0, hp, ite_f, locksFrom, locks1, Bool.and_assoc]
    · obtain ⟨q, j, hq, hpos, hw1, h1, hq1, _⟩ := mid_last e hi (by omega) hp
      simp [h0, hlt, hx, hw, ih, impl_isKey_is h.c_impl_isKey, impl_isID_is h.c_impl_isID, hpos, hq, hw1, hq1, ite_f, ite_n, locksFrom, locks1, Bool.and_assoc, neg_le]
theorem impl_AreLocks_is (h : G_impl_AreLocks E) (l : List Lock) (hl : l.length ≤ 1048576) : E 150 [.sl 2 (l.map Lock.u)] = some (.bool (locksFrom none l)) := by
  rw [impl_AreLocks_E h]
  simp [impl_AreLocks_l0_is h l hl l [] 0 rfl rfl]
theorem spec_AreLocks_l0_is (h : G_spec_AreLocks E) (l : List Lock) (hl : l.length ≤ 1048576) : ∀ (r p : List Lock) (i : Int), l = p ++ r → i = p.length →
    spec_AreLocks_l0 E (.sl 2 (l.map Lock.u)) (.int .i64 i) = some (.bool (locksFrom p.getLast? r))
  | [], p, i, e, hi => by
    rw [spec_AreLocks_l0_eq]
    simp [mid_end e hi, locksFrom]
  | x :: r, p, i, e, hi => by
    obtain ⟨h0, hlt, hx, hw, hn, _⟩ := mid_at e hi (by omega)
    have ih := spec_AreLocks_l0_is h l hl r (p ++ [x]) (i + 1) (mid_next e) hn
    rw [List.getLast?_concat] at ih
    rw [spec_AreLocks_l0_eq]
    by_cases hp : p = []
    · have hi0 : ¬ 0 < i := by subst hp; simp at hi; omega
      simp [h0, hlt, hx, hw, ih, spec_l1In_is h.c_spec_l1In, hi0, hp, ite_f, locksFrom, locks1, Bool.and_assoc]
    · obtain ⟨q, j, hq, hpos, hw1, h1, hq1, _⟩ := mid_last e hi (by omega) hp
      simp [h0, hlt, hx, hw, ih, spec_l1In_is h.c_spec_l1In, hpos, hq, hw1, hq1, ite_f, ite_n, locksFrom, locks1, Bool.and_assoc, neg_le]
theorem spec_AreLocks_is (h : G_spec_AreLocks E) (l : List Lock) (hl : l.length ≤ 1048576) : E 137 [.sl 2 (l.map Lock.u)] = some (.bool (locksFrom none l)) := by
  rw [spec_AreLocks_E h]
  simp [spec_AreLocks_l0_is h l hl l [] 0 rfl rfl]
theorem impl_AreWaits_l0_is (h : G_impl_AreWaits E) (l : List Wait) (hl : l.length ≤ 1048576) : ∀ (r p : List Wait) (i : Int), l = p ++ r → i = p.length →
    impl_AreWaits_l0 E (.sl 2 (l.map Wait.u)) (.sl 2 (l.map Wait.u)) (.int .i64 l.length) (.int .i64 i) = some (.bool (waitsFrom p.getLast? r))
  | [], p, i, e, hi => by
    rw [impl_AreWaits_l0_eq]
    simp [mid_end e hi, waitsFrom]
  | x :: r, p, i, e, hi => by
    obtain ⟨h0, hlt, hx, hw, hn, _⟩ := mid_at e hi (by omega)
    have ih := impl_AreWaits_l0_is h l hl r (p ++ [x]) (i + 1) (mid_next e) hn
    rw [List.getLast?_concat] at ih
    rw [impl_AreWaits_l0_eq]
    by_cases hp : p = []
    · have hi0 : ¬ 0 < i := by subst hp; simp at hi; omega
      simp [h0, hlt, hx, hw, ih, impl_isID_is h.c_impl_isID, hi0, hp, ite_f, ite_n, waitsFrom, waits1, Bool.and_assoc]
    · obtain ⟨q, j, hq, hpos, hw1, h1, hq1, _⟩ := mid_last e hi (by omega) hp
      simp [h0, hlt, hx, hw, ih, impl_isID_is h.c_impl_isID, hpos, hq, hw1, hq1, ite_f, ite_n, waitsFrom, waits1, Bool.and_assoc, neg_le]
theorem impl_AreWaits_is (h : G_impl_AreWaits E) (l : List Wait) (hl : l.length ≤ 1048576) : E 151 [.sl 2 (l.map Wait.u)] = some (.bool (waitsFrom none l)) := by
  rw [impl_AreWaits_E h]
  simp [impl_AreWaits_l0_is h l hl l [] 0 rfl rfl]
theorem spec_AreWaits_l0_is (h : G_spec_AreWaits E) (l : List Wait) (hl : l.length ≤ 1048576) : ∀ (r p : List Wait) (i : Int), l = p ++ r → i = p.length →
    spec_AreWaits_l0 E (.sl 2 (l.map Wait.u)) (.int .i64 i) = some (.bool (waitsFrom p.getLast? r))
  | [], p, i, e, hi => by
    rw [spec_AreWaits_l0_eq]
    simp [mid_end e hi, waitsFrom]
  | x :: r, p, i, e, hi => by
    obtain ⟨h0, hlt, hx, hw, hn, _⟩ := mid_at e hi (by omega)
    have ih := spec_AreWaits_l0_is h l hl r (p ++ [x]) (i + 1) (mid_next e) hn
    rw [List.getLast?_concat] at ih
    rw [spec_AreWaits_l0_eq]
    by_cases hp : p = []
    · have hi0 : ¬ 0 < i := by subst hp; simp at hi; omega
      simp [h0, hlt, hx, hw, ih, spec_l1In_is h.c_spec_l1In, hi0, hp, ite_f, ite_n, waitsFrom, waits1, Bool.and_assoc]
    · obtain ⟨q, j, hq, hpos, hw1, h1, hq1, _⟩ := mid_last e hi (by omega) hp
      simp [h0, hlt, hx, hw, ih, spec_l1In_is h.c_spec_l1In, hpos, hq, hw1, hq1, ite_f, ite_n, waitsFrom, waits1, Bool.and_assoc, neg_le]
theorem spec_AreWaits_is (h : G_spec_AreWaits E) (l : List Wait) (hl : l.length ≤ 1048576) : E 138 [.sl 2 (l.map Wait.u)] = some (.bool (waitsFrom none l)) := by
  rw [spec_AreWaits_E h]
  simp [spec_AreWaits_l0_is h l hl l [] 0 rfl rfl]
def hasID (c : Int) (t : Transaction) : Bool := decide (t.id = c)
theorem impl_FindTransaction_1_is (h : G_impl_FindTransaction_1 E) (t : Transaction) (c : Int) : E 171 [t.u, .vp (.int .i64 c)] = some (.bool (hasID c t)) := by
  rw [impl_FindTransaction_1_E h]; simp [hasID]
theorem impl_FindTransaction_is (h : G_impl_FindTransaction E) (e : Engine) (ho : e.ok) (c : Int) : E 170 [e.u, .int .i64 c] = some (.int .i64 (idxF (hasID c) e.transactions 0)) := by
  rw [impl_FindTransaction_E h]
  have := slices_IndexFunc_g172_is h.c_slices_IndexFunc_g172 e.transactions (by have := ho.2.1; omega) 171 [.vp (.int .i64 c)] (hasID c) (fun t _ => impl_FindTransaction_1_is h.c_impl_FindTransaction_1 t c)
  simp [this]
theorem spec_FindTransaction_l0_is (e : Engine) (ho : e.ok) (c : Int) : ∀ (r p : List Transaction) (i : Int), e.transactions = p ++ r → i = p.length →
    spec_FindTransaction_l0 E (.int .i64 c) (.int .i64 i) e.u = some (.int .i64 (idxF (hasID c) r i))
  | [], p, i, el, hi => by
    rw [spec_FindTransaction_l0_eq]
    simp [mid_end el hi, idxF]
  | x :: r, p, i, el, hi => by
    obtain ⟨h0, hlt, hx, hw, hn, _⟩ := mid_at el hi (by have := ho.2.1; omega)
    have ih := spec_FindTransaction_l0_is e ho c r (p ++ [x]) (i + 1) (mid_next el) hn
    rw [spec_FindTransaction_l0_eq]
    by_cases h1 : x.id = c <;> simp [hlt, hx, hw, ih, h1, idxF, hasID]
theorem spec_FindTransaction_is (h : G_spec_FindTransaction E) (e : Engine) (ho : e.ok) (c : Int) : E 141 [e.u, .int .i64 c] = some (.int .i64 (idxF (hasID c) e.transactions 0)) := by
  rw [spec_FindTransaction_E h]
  simp [spec_FindTransaction_l0_is e ho c e.transactions [] 0 rfl rfl]
def Engine.tx (e : Engine) (c : Int) : Option Transaction := e.transactions.find? (hasID c)
theorem find_idx {α : Type} (P : α → Bool) (l : List α) (hl : l.length ≤ 9223372036854775807) : (l.find? P = none ∧ idxF P l 0 = -1) ∨
    ∃ x j, l.find? P = some x ∧ x ∈ l ∧ P x = true ∧ idxF P l 0 = j ∧ (0 ≤ j) ∧ j < l.length ∧ ∀ {γ : Type} (k : Nat) (f : α → U) (K : U → Option γ), U.elemAt k (.sl k (l.map f)) j K = K (f x) := by
  rcases idxF_cases P l 0 with ⟨e1, e2⟩ | ⟨p, x, r, e1, e2, e3, e4⟩
  · exact Or.inl ⟨by simpa using e2, e1⟩
  · refine Or.inr ⟨x, 0 + p.length, ?_, by rw [e1]; simp, e3, e2, by omega, by rw [e1]; simp; omega, fun k f K => ?_⟩
    · rw [e1, List.find?_append]
      have : p.find? P = none := by simpa using e4
      rw [this]; simp [e3]
    · exact elemAt_get f (by omega) (by rw [e1]; have : ((0 : Int) + p.length).toNat = p.length := by omega
                                        rw [this]; simp) K
def Engine.active (e : Engine) (c : Int) : Bool := match e.tx c with | none => false | some t => decide (t.state = 1)
theorem impl_isActive_is (h : G_impl_Engine_isActive E) (e : Engine) (ho : e.ok) (c : Int) : E 169 [e.u, .int .i64 c] = some (.bool (e.active c)) := by
  rw [impl_Engine_isActive_E h]
  have hf := impl_FindTransaction_is h.c_impl_FindTransaction e ho c
  rcases find_idx (hasID c) e.transactions (by have := ho.2.1; omega) with ⟨e1, e2⟩ | ⟨x, j, e1, e2, e3, e4, e5, e6, e7⟩
  · rw [e2] at hf
    simp [hf, Engine.active, Engine.tx, e1]
  · rw [e4] at hf
    simp [hf, Engine.active, Engine.tx, e1, e5, e7]
theorem spec_active_is (h : G_spec_l13Active E) (e : Engine) (ho : e.ok) (c : Int) : E 135 [e.u, .int .i64 c] = some (.bool (e.active c)) := by
  rw [spec_l13Active_E h]
  have hf := spec_FindTransaction_is h.c_spec_FindTransaction e ho c
  rcases find_idx (hasID c) e.transactions (by have := ho.2.1; omega) with ⟨e1, e2⟩ | ⟨x, j, e1, e2, e3, e4, e5, e6, e7⟩
  · rw [e2] at hf
    simp [hf, Engine.active, Engine.tx, e1]
  · rw [e4] at hf
    simp [hf, Engine.active, Engine.tx, e1, e5, e7]
def txs1 (e : Engine) (p : Option Transaction) (t : Transaction) : Bool :=
  t.valid && ((match p with | none => true | some q => decide (q.id < t.id)) && (decide (t.begin_ ≤ e.stamp) && (decide (t.commit ≤ e.stamp) && (if t.state = 1 then marksExist e.store t.reads else true))))
def txsFrom (e : Engine) : Option Transaction → List Transaction → Bool
  | _, [] => true
  | p, t :: r => txs1 e p t && txsFrom e (some t) r
def Engine.holds (e : Engine) : Bool := e.locks.all (fun w => e.active w.owner) && e.waits.all (fun w => e.active w.id && e.active w.for_)
def Engine.valid (e : Engine) : Bool :=
  e.store.valid && (locksFrom none e.locks && (waitsFrom none e.waits && (inR e.stamp e.store.last 999 && (txsFrom e none e.transactions && decide (e.transactions.length ≤ 6) && e.holds))))
theorem neg_lt (a b : Int) : (!decide (b < a)) = decide (a ≤ b) := by rw [← decide_not]; congr 1; simp only [eq_iff_iff]; omega
theorem impl_areTransactions_l0_is (h : G_impl_Engine_areTransactions E) (e : Engine) (ho : e.ok) (hv : e.store.valid = true) : ∀ (r p : List Transaction) (i : Int), e.transactions = p ++ r → i = p.length →
    impl_Engine_areTransactions_l0 E (.sl 9 (e.transactions.map Transaction.u)) (.int .i64 e.transactions.length) (.int .i64 i) e.u = some (.bool (txsFrom e p.getLast? r && decide (e.transactions.length ≤ 6)))
  | [], p, i, el, hi => by
    have h1 : decide ((e.transactions.length : Int) ≤ 6) = decide (e.transactions.length ≤ 6) := by congr 1; simp only [eq_iff_iff]; omega
    rw [impl_Engine_areTransactions_l0_eq]
    simp [mid_end el hi, txsFrom, h1]
  | t :: r, p, i, el, hi => by
    obtain ⟨h0, hlt, hx, hw, hn, _⟩ := mid_at el hi (by have := ho.2.1; omega)
    have ih := impl_areTransactions_l0_is h e ho hv r (p ++ [t]) (i + 1) (mid_next el) hn
    rw [List.getLast?_concat] at ih
    have hto : t.ok := ho.2.2.1 t (by rw [el]; simp)
    have v := impl_IsValidTransaction_is h.c_impl_IsValidTransaction t hto
    rw [impl_Engine_areTransactions_l0_eq]
    cases tv : t.valid
    · simp [hlt, hx, hw, v, tv, txsFrom, txs1]
    have m := impl_readsExist_is h.c_impl_Store_readsExist e.store ho.1 hv t.reads hto.1 (valid_keys tv)
    by_cases hp : p = []
    · have hi0 : ¬ 0 < i := by subst hp; simp at hi; omega
      by_cases hs : t.state = 1 <;>
      simp [h0, hlt, hx, hw, ih, v, tv, m, hi0, hp, hs, ite_f, ite_n, txsFrom, txs1, Bool.and_assoc, neg_lt]
    · obtain ⟨q, j, hq, hpos, hw1, h1, hq1, _⟩ := mid_last el hi (by have := ho.2.1; omega) hp
      by_cases hs : t.state = 1 <;>
      simp [h0, hlt, hx, hw, ih, v, tv, m, hpos, hq, hw1, hq1, hs, ite_f, ite_n, txsFrom, txs1, Bool.and_assoc, neg_lt, neg_le]
theorem impl_areTransactions_is (h : G_impl_Engine_areTransactions E) (e : Engine) (ho : e.ok) (hv : e.store.valid = true) :
    E 153 [e.u] = some (.bool (txsFrom e none e.transactions && decide (e.transactions.length ≤ 6))) := by
  rw [impl_Engine_areTransactions_E h]
  simp [impl_areTransactions_l0_is h e ho hv e.transactions [] 0 rfl rfl]
theorem impl_IsValidEngine_1_is (h : G_impl_IsValidEngine_1 E) (e : Engine) (ho : e.ok) (w : Lock) : E 154 [w.u, .vp e.u] = some (.bool (!e.active w.owner)) := by
  rw [impl_IsValidEngine_1_E h]
  simp [impl_isActive_is h.c_impl_Engine_isActive e ho]
theorem impl_IsValidEngine_2_is (h : G_impl_IsValidEngine_2 E) (e : Engine) (ho : e.ok) (w : Wait) : E 156 [w.u, .vp e.u] = some (.bool (!(e.active w.id && e.active w.for_))) := by
  rw [impl_IsValidEngine_2_E h]
  simp [impl_isActive_is h.c_impl_Engine_isActive e ho]
  cases e.active w.id <;> simp
theorem not_any {α : Type} (l : List α) (P : α → Bool) : (!l.any fun m => !P m) = l.all P := by
  rw [List.not_any_eq_all_not]; simp
theorem impl_IsValidEngine_is (h : G_impl_IsValidEngine E) (e : Engine) (ho : e.ok) : E 148 [e.u] = some (.bool e.valid) := by
  rw [impl_IsValidEngine_E h]
  have s1 := impl_IsValidStore_is h.c_impl_IsValidStore e.store ho.1
  have s2 := impl_AreLocks_is h.c_impl_AreLocks e.locks ho.2.2.2.1
  have s3 := impl_AreWaits_is h.c_impl_AreWaits e.waits ho.2.2.2.2
  have s4 := impl_lastStamp_is h.c_impl_Store_lastStamp e.store ho.1
  have s5 := slices_ContainsFunc_g155_is h.c_slices_ContainsFunc_g155 e.locks (by have := ho.2.2.2.1; omega) 154 [.vp e.u] (fun w => !e.active w.owner) (fun w _ => impl_IsValidEngine_1_is h.c_impl_IsValidEngine_1 e ho w)
  have s6 := slices_ContainsFunc_g157_is h.c_slices_ContainsFunc_g157 e.waits (by have := ho.2.2.2.2; omega) 156 [.vp e.u] (fun w => !(e.active w.id && e.active w.for_)) (fun w _ => impl_IsValidEngine_2_is h.c_impl_IsValidEngine_2 e ho w)
  have n5 := not_any e.locks (fun w => e.active w.owner)
  have n6 := not_any e.waits (fun w => e.active w.id && e.active w.for_)
  cases hv : e.store.valid
  · simp [s1, hv, Engine.valid]
  have s7 := impl_areTransactions_is h.c_impl_Engine_areTransactions e ho hv
  simp [s1, s2, s3, s4, s5, s6, s7, hv, impl_in_is h.c_impl_in, Engine.valid, Engine.holds, ite_t, -List.any_eq_true, -List.all_eq_true, n5, n6, -Bool.not_and, Bool.and_assoc]
  cases locksFrom none e.locks <;> cases waitsFrom none e.waits <;> cases inR e.stamp e.store.last 999 <;> cases txsFrom e none e.transactions <;> by_cases hz : e.transactions.length ≤ 6 <;> simp [hz, -List.any_eq_true, -List.all_eq_true]
theorem spec_IsVE_l0_is (h : G_spec_IsValidEngine E) (e : Engine) (ho : e.ok) : ∀ (r p : List Wait) (i : Int), e.waits = p ++ r → i = p.length →
    spec_IsValidEngine_l0 E (.int .i64 i) e.u = some (.bool (r.all fun w => e.active w.id && e.active w.for_))
  | [], p, i, el, hi => by
    rw [spec_IsValidEngine_l0_eq]
    simp [mid_end el hi]
  | x :: r, p, i, el, hi => by
    obtain ⟨h0, hlt, hx, hw, hn, _⟩ := mid_at el hi (by have := ho.2.2.2.2; omega)
    have ih := spec_IsVE_l0_is h e ho r (p ++ [x]) (i + 1) (mid_next el) hn
    rw [spec_IsValidEngine_l0_eq]
    simp [hlt, hx, hw, ih, spec_active_is h.c_spec_l13Active e ho, ite_f, Bool.and_assoc, -List.all_eq_true]
theorem spec_IsVE_l1_is (h : G_spec_IsValidEngine E) (e : Engine) (ho : e.ok) : ∀ (r p : List Lock) (i : Int), e.locks = p ++ r → i = p.length →
    spec_IsValidEngine_l1 E (.int .i64 i) e.u = some (.bool (r.all (fun w => e.active w.owner) && e.waits.all fun w => e.active w.id && e.active w.for_))
  | [], p, i, el, hi => by
    rw [spec_IsValidEngine_l1_eq]
    simp [mid_end el hi, spec_IsVE_l0_is h e ho e.waits [] 0 rfl rfl, -List.all_eq_true]
  | x :: r, p, i, el, hi => by
    obtain ⟨h0, hlt, hx, hw, hn, _⟩ := mid_at el hi (by have := ho.2.2.2.1; omega)
    have ih := spec_IsVE_l1_is h e ho r (p ++ [x]) (i + 1) (mid_next el) hn
    rw [spec_IsValidEngine_l1_eq]
    simp [hlt, hx, hw, ih, spec_active_is h.c_spec_l13Active e ho, ite_f, Bool.and_assoc, -List.all_eq_true]
theorem spec_IsVE_l2_is (h : G_spec_IsValidEngine E) (e : Engine) (ho : e.ok) (hv : e.store.valid = true) : ∀ (r p : List Transaction) (i : Int), e.transactions = p ++ r → i = p.length →
    spec_IsValidEngine_l2 E (.int .i64 i) e.u = some (.bool (txsFrom e p.getLast? r && e.holds))
  | [], p, i, el, hi => by
    rw [spec_IsValidEngine_l2_eq]
    simp [mid_end el hi, txsFrom, spec_IsVE_l1_is h e ho e.locks [] 0 rfl rfl, Engine.holds, -List.all_eq_true]
  | t :: r, p, i, el, hi => by
    obtain ⟨h0, hlt, hx, hw, hn, _⟩ := mid_at el hi (by have := ho.2.1; omega)
    have ih := spec_IsVE_l2_is h e ho hv r (p ++ [t]) (i + 1) (mid_next el) hn
    rw [List.getLast?_concat] at ih
    have hto : t.ok := ho.2.2.1 t (by rw [el]; simp)
    have v := spec_IsValidTransaction_is h.c_spec_IsValidTransaction t hto
    rw [spec_IsValidEngine_l2_eq]
    cases tv : t.valid
    · simp [hlt, hx, hw, v, tv, txsFrom, txs1]
    have m := spec_ReadsExist_is h.c_spec_ReadsExist e.store ho.1 t hto
    simp only [hv, tv, Bool.true_and] at m
    by_cases hp : p = []
    · have hi0 : ¬ 0 < i := by subst hp; simp at hi; omega
      by_cases hs : t.state = 1 <;>
      simp [h0, hlt, hx, hw, ih, v, tv, m, hi0, hp, hs, ite_f, ite_n, txsFrom, txs1, Bool.and_assoc, neg_lt]
    · obtain ⟨q, j, hq, hpos, hw1, h1, hq1, _⟩ := mid_last el hi (by have := ho.2.1; omega) hp
      by_cases hs : t.state = 1 <;>
      simp [h0, hlt, hx, hw, ih, v, tv, m, hpos, hq, hw1, hq1, hs, ite_f, ite_n, txsFrom, txs1, Bool.and_assoc, neg_lt, neg_le]
theorem spec_IsValidEngine_is (h : G_spec_IsValidEngine E) (e : Engine) (ho : e.ok) : E 133 [e.u] = some (.bool e.valid) := by
  rw [spec_IsValidEngine_E h]
  have s1 := spec_IsValidStore_is h.c_spec_IsValidStore e.store ho.1
  have s2 := spec_AreLocks_is h.c_spec_AreLocks e.locks ho.2.2.2.1
  have s3 := spec_AreWaits_is h.c_spec_AreWaits e.waits ho.2.2.2.2
  cases hv : e.store.valid
  · simp [s1, hv, Engine.valid]
  have s4 := spec_LastStamp_is h.c_spec_LastStamp e.store ho.1 hv
  have s5 := spec_IsVE_l2_is h e ho hv e.transactions [] 0 rfl rfl
  have h1 : (!decide (6 < (e.transactions.length : Int))) = decide (e.transactions.length ≤ 6) := by rw [← decide_not]; congr 1; simp only [eq_iff_iff]; omega
  simp [s1, s2, s3, s4, s5, hv, spec_l1In_is h.c_spec_l1In, Engine.valid, ite_f, ite_n, h1]
  intros
  simp [Bool.and_assoc, Bool.and_comm, Bool.and_left_comm]
end Go.Proofs.YtmdnjglkdddaeaaGreat.Am
namespace Go.Proofs.YtmdnjglkdddaeaaGreat.Am
open Go
variable {E : Env}
set_option linter.unusedVariables false
def mn (a b : Int) : Int := if b < a then b else a
def high1 (s : Store) (a : Int) (m : ReadMark) : Int := match (s.chain m.key).find? (isAt m.created) with | none => a | some v => mn a v.successor
def refreshHigh (s : Store) (l : List ReadMark) : Int := l.foldl (high1 s) 1000
theorem exist_find {s : Store} {m : ReadMark} (h : hasMark s m = true) : ∃ v, (s.chain m.key).find? (isAt m.created) = some v := by
  unfold hasMark at h
  rw [← find_any] at h
  exact Option.isSome_iff_exists.1 h
theorem impl_refreshHigh_l0_is (h : G_impl_Store_refreshHigh E) (s : Store) (ho : s.ok) (hv : s.valid = true) (l : List ReadMark) (hl : l.length ≤ 1048576) (hk : KeysOK l) (hm : ∀ m ∈ l, hasMark s m = true) : ∀ (r p : List ReadMark) (i a : Int), l = p ++ r → i = p.length →
    impl_Store_refreshHigh_l0 E (.int .i64 a) (.sl 2 (l.map ReadMark.u)) (.int .i64 l.length) (.int .i64 i) s.u = some (.int .i64 (r.foldl (high1 s) a))
  | [], p, i, a, e, hi => by
    rw [impl_Store_refreshHigh_l0_eq]
    simp [mid_end e hi]
  | m :: r, p, i, a, e, hi => by
    obtain ⟨h0, hlt, hx, hw, hn, _⟩ := mid_at e hi (by omega)
    have hmem : m ∈ l := by rw [e]; simp
    obtain ⟨v, hf⟩ := exist_find (hm m hmem)
    have hfi := impl_find_is h.c_impl_Store_find s ho hv m (hk m hmem).1 (hk m hmem).2
    rw [hf] at hfi
    have ih := impl_refreshHigh_l0_is h s ho hv l hl hk hm r (p ++ [m]) (i + 1) (mn a v.successor) (mid_next e) hn
    rw [impl_Store_refreshHigh_l0_eq]
    simp only [mn] at ih
    simp [hlt, hx, hw, hfi, ih, high1, hf, mn]
theorem impl_refreshHigh_is (h : G_impl_Store_refreshHigh E) (s : Store) (ho : s.ok) (hv : s.valid = true) (t : Transaction) (ht : t.ok) (hk : KeysOK t.reads) (hm : marksExist s t.reads = true) :
    E 186 [s.u, t.u] = some (.int .i64 (refreshHigh s t.reads)) := by
  rw [impl_Store_refreshHigh_E h]
  simp [impl_refreshHigh_l0_is h s ho hv t.reads ht.1 hk (by simpa [marksExist] using hm) t.reads [] 0 1000 rfl rfl, refreshHigh]
theorem spec_RefreshHigh_l0_is (h : G_spec_RefreshHigh E) (s : Store) (ho : s.ok) (hv : s.valid = true) (t : Transaction) (ht : t.ok) (hk : KeysOK t.reads) (hm : ∀ m ∈ t.reads, hasMark s m = true) : ∀ (r p : List ReadMark) (i a : Int), t.reads = p ++ r → i = p.length →
    spec_RefreshHigh_l0 E (.int .i64 a) (.int .i64 i) s.u t.u = some (.int .i64 (r.foldl (high1 s) a))
  | [], p, i, a, e, hi => by
    rw [spec_RefreshHigh_l0_eq]
    simp [mid_end e hi]
  | m :: r, p, i, a, e, hi => by
    obtain ⟨h0, hlt, hx, hw, hn, _⟩ := mid_at e hi (by have := ht.1; omega)
    have hmem : m ∈ t.reads := by rw [e]; simp
    have hkk := hk m hmem
    have hc : chainOk (s.chain m.key) := ho.2 _ (chain_get hv hkk.1 hkk.2).2
    have hfi := spec_FindVersion_is h.c_spec_FindVersion (s.chain m.key) hc m.created
    obtain ⟨v0, hf0⟩ := exist_find (hm m hmem)
    rcases find_idx (isAt m.created) (s.chain m.key) (by unfold chainOk at hc; omega) with ⟨e1, e2⟩ | ⟨v, j, hf, e2, e3, e4, e5, e6, e7⟩
    · rw [e1] at hf0; simp at hf0
    rw [e4] at hfi
    have ih := spec_RefreshHigh_l0_is h s ho hv t ht hk hm r (p ++ [m]) (i + 1) (mn a v.successor) (mid_next e) hn
    rw [spec_RefreshHigh_l0_eq]
    simp only [mn] at ih
    have e7' := fun {γ : Type} (K : U → Option γ) => e7 5 Version.u K
    have hel : ∀ {γ : Type} (K : U → Option γ), U.elemAt 5 (chainU (s.chain m.key)) j K = K v.u := fun K => e7 5 Version.u K
    simp [hlt, hx, hw, chain_elem hv hkk.1 hkk.2, hfi, hel, e7', ih, high1, hf, mn]
theorem spec_RefreshHigh_is (h : G_spec_RefreshHigh E) (s : Store) (ho : s.ok) (hv : s.valid = true) (t : Transaction) (ht : t.ok) (htv : t.valid = true) (hm : marksExist s t.reads = true) :
    E 183 [s.u, t.u] = some (.int .i64 (refreshHigh s t.reads)) := by
  rw [spec_RefreshHigh_E h]
  simp [spec_ReadsExist_is h.c_spec_ReadsExist s ho t ht, hv, htv, hm, spec_RefreshHigh_l0_is h s ho hv t ht (valid_keys htv) (by simpa [marksExist] using hm) t.reads [] 0 1000 rfl rfl, refreshHigh]
theorem txsFrom_mem {e : Engine} : ∀ {l : List Transaction} {p : Option Transaction}, txsFrom e p l = true → ∀ t ∈ l, t.valid = true ∧ t.begin_ ≤ e.stamp ∧ t.commit ≤ e.stamp ∧ (t.state = 1 → marksExist e.store t.reads = true)
  | [], _, _ => fun t ht => by simp at ht
  | x :: r, p, h => by
    simp only [txsFrom, txs1, Bool.and_eq_true, decide_eq_true_eq] at h
    intro t ht
    rcases List.mem_cons.1 ht with rfl | ht
    · refine ⟨h.1.1, h.1.2.2.1, h.1.2.2.2.1, fun hs => ?_⟩
      have := h.1.2.2.2.2
      rwa [if_pos hs] at this
    · exact txsFrom_mem h.2 t ht
theorem foldl_mx (f : Version → Int) : ∀ (l : List Version) (n : Int), n ≤ l.foldl (fun a v => mx a (f v)) n
  | [], n => Int.le_refl _
  | v :: r, n => Int.le_trans mx_ge.1 (foldl_mx f r (mx n (f v)))
theorem last_ge : ∀ (l : List (List Version)) (n : Int), n ≤ l.foldl lastC n
  | [], n => Int.le_refl _
  | c :: r, n => Int.le_trans (foldl_mx Version.reader c n) (last_ge r (lastC n c))
theorem Engine.valid_all {e : Engine} (h : e.valid = true) : e.store.valid = true ∧ 0 ≤ e.stamp ∧ e.stamp ≤ 999 ∧ ∀ t ∈ e.transactions, t.valid = true ∧ t.begin_ ≤ e.stamp ∧ t.commit ≤ e.stamp ∧ (t.state = 1 → marksExist e.store t.reads = true) := by
  simp only [Engine.valid, inR, Bool.and_eq_true, decide_eq_true_eq] at h
  have := last_ge e.store.chains 0
  unfold Store.last at h
  exact ⟨h.1, by omega, by omega, txsFrom_mem h.2.2.2.2.1.1⟩
def unsafe1 (e : Engine) (n : Int) (t : Transaction) : Bool :=
  if t.state = 2 then decide (n < t.commit) && decide (t.high ≤ n)
  else if t.state = 1 then decide (refreshHigh e.store t.reads ≤ n) || (decide (t.scheme = 2) && decide (t.begin_ < n))
  else false
def becauseIn (e : Engine) (n : Int) : List Transaction → Int
  | [] => 0
  | t :: r => if unsafe1 e n t then t.id else becauseIn e n r
def because (e : Engine) (n : Int) : Int := becauseIn e n e.transactions
theorem impl_unsafe_is (h : G_impl_Engine_unsafe E) (e : Engine) (ho : e.ok) (hv : e.valid = true) (t : Transaction) (ht : t ∈ e.transactions) (n : Int) : E 185 [e.u, t.u, .int .i64 n] = some (.bool (unsafe1 e n t)) := by
  rw [impl_Engine_unsafe_E h]
  obtain ⟨v1, v2, v3, v4⟩ := Engine.valid_all hv
  obtain ⟨w1, w2, w3, w4⟩ := v4 t ht
  by_cases h2 : t.state = 2
  · simp [h2, unsafe1, ite_p]
  by_cases h1 : t.state = 1
  · have hh := impl_refreshHigh_is h.c_impl_Store_refreshHigh e.store ho.1 v1 t (ho.2.2.1 t ht) (valid_keys w1) (w4 h1)
    simp [h1, hh, unsafe1, ite_p, ite_pt]
  · simp [h1, h2, unsafe1]
theorem impl_because_l0_is (h : G_impl_Engine_because E) (e : Engine) (ho : e.ok) (hv : e.valid = true) (n : Int) : ∀ (r p : List Transaction) (i : Int), e.transactions = p ++ r → i = p.length →
    impl_Engine_because_l0 E (.int .i64 n) (.sl 9 (e.transactions.map Transaction.u)) (.int .i64 e.transactions.length) (.int .i64 i) e.u = some (.int .i64 (becauseIn e n r))
  | [], p, i, el, hi => by
    rw [impl_Engine_because_l0_eq]
    simp [mid_end el hi, becauseIn]
  | t :: r, p, i, el, hi => by
    obtain ⟨h0, hlt, hx, hw, hn, _⟩ := mid_at el hi (by have := ho.2.1; omega)
    have ih := impl_because_l0_is h e ho hv n r (p ++ [t]) (i + 1) (mid_next el) hn
    have hu := impl_unsafe_is h.c_impl_Engine_unsafe e ho hv t (by rw [el]; simp) n
    rw [impl_Engine_because_l0_eq]
    cases hb : unsafe1 e n t <;> simp [hlt, hx, hw, hu, hb, ih, becauseIn]
theorem impl_because_is (h : G_impl_Engine_because E) (e : Engine) (ho : e.ok) (hv : e.valid = true) (n : Int) : E 184 [e.u, .int .i64 n] = some (.int .i64 (because e n)) := by
  rw [impl_Engine_because_E h]
  simp [impl_because_l0_is h e ho hv n e.transactions [] 0 rfl rfl, because]
def unsafeBecause (e : Engine) (n : Int) : Int := if e.valid && inR n 0 e.stamp then because e n else 0
theorem spec_UnsafeBecause_l0_is (h : G_spec_UnsafeBecause E) (e : Engine) (ho : e.ok) (hv : e.valid = true) (n : Int) (hr : inR n 0 e.stamp = true) : ∀ (r p : List Transaction) (i : Int), e.transactions = p ++ r → i = p.length →
    spec_UnsafeBecause_l0 E (.int .i64 n) (.int .i64 i) e.u = some (.int .i64 (becauseIn e n r))
  | [], p, i, el, hi => by
    rw [spec_UnsafeBecause_l0_eq]
    simp [mid_end el hi, becauseIn]
  | t :: r, p, i, el, hi => by
    obtain ⟨h0, hlt, hx, hw, hn, _⟩ := mid_at el hi (by have := ho.2.1; omega)
    have ih := spec_UnsafeBecause_l0_is h e ho hv n hr r (p ++ [t]) (i + 1) (mid_next el) hn
    obtain ⟨v1, v2, v3, v4⟩ := Engine.valid_all hv
    have ht : t ∈ e.transactions := by rw [el]; simp
    obtain ⟨w1, w2, w3, w4⟩ := v4 t ht
    have g1 := spec_IsValidEngine_is h.c_spec_IsValidEngine e ho
    rw [hv] at g1
    rw [spec_UnsafeBecause_l0_eq]
    by_cases h2 : t.state = 2
    · by_cases q1 : n < t.commit <;> by_cases q2 : t.high ≤ n <;> simp [hlt, hx, hw, g1, spec_l1In_is h.c_spec_l1In, hr, h2, q1, q2, ih, becauseIn, unsafe1]
    by_cases h1 : t.state = 1
    · have hh := spec_RefreshHigh_is h.c_spec_RefreshHigh e.store ho.1 v1 t (ho.2.2.1 t ht) w1 (w4 h1)
      by_cases q1 : refreshHigh e.store t.reads ≤ n
      · simp [hlt, hx, hw, g1, spec_l1In_is h.c_spec_l1In, hr, h1, hh, q1, ih, becauseIn, unsafe1]
      by_cases q2 : t.scheme = 2 <;> by_cases q3 : t.begin_ < n <;> simp [hlt, hx, hw, g1, spec_l1In_is h.c_spec_l1In, hr, h1, hh, q1, q2, q3, ih, becauseIn, unsafe1]
    · simp [hlt, hx, hw, g1, spec_l1In_is h.c_spec_l1In, hr, h1, h2, ih, becauseIn, unsafe1]
theorem spec_UnsafeBecause_is (h : G_spec_UnsafeBecause E) (e : Engine) (ho : e.ok) (n : Int) : E 182 [e.u, .int .i64 n] = some (.int .i64 (unsafeBecause e n)) := by
  rw [spec_UnsafeBecause_E h]
  cases hg : (e.valid && inR n 0 e.stamp)
  · simp only [unsafeBecause, hg, U.asBool, Engine.u_noTup]
    rw [spec_UnsafeBecause_l0_eq]
    have g1 := spec_IsValidEngine_is h.c_spec_IsValidEngine e ho
    by_cases hz : (0 : Int) < e.transactions.length
    · cases hv : e.valid
      · rw [hv] at g1
        simp [hz, g1]
        try omega
      · rw [hv] at g1 hg
        simp only [Bool.true_and] at hg
        simp [hz, g1, spec_l1In_is h.c_spec_l1In, hg]
        try omega
    · simp [hz]
      try omega
  · have hg' := hg
    simp only [Bool.and_eq_true] at hg'
    simp [spec_UnsafeBecause_l0_is h e ho hg'.1 n hg'.2 e.transactions [] 0 rfl rfl, unsafeBecause, hg, because, hg'.1, hg'.2]
def isSafe (e : Engine) (n : Int) : Bool := e.valid && (inR n 0 e.stamp && decide (because e n = 0))
theorem spec_IsSafe_is (h : G_spec_IsSafe E) (e : Engine) (ho : e.ok) (n : Int) : E 189 [e.u, .int .i64 n] = some (.bool (isSafe e n)) := by
  rw [spec_IsSafe_E h]
  cases hv : e.valid
  · simp [spec_IsValidEngine_is h.c_spec_IsValidEngine e ho, hv, isSafe]
  cases hr : inR n 0 e.stamp
  · simp [spec_IsValidEngine_is h.c_spec_IsValidEngine e ho, spec_l1In_is h.c_spec_l1In, hv, hr, isSafe]
  · simp [spec_IsValidEngine_is h.c_spec_IsValidEngine e ho, spec_l1In_is h.c_spec_l1In, hv, hr, isSafe, spec_UnsafeBecause_is h.c_spec_UnsafeBecause e ho, unsafeBecause]
def safeN (e : Engine) : Nat → Int
  | 0 => 0
  | k + 1 => if because e ((k + 1 : Nat) : Int) = 0 then ((k + 1 : Nat) : Int) else safeN e k
def safeStamp (e : Engine) : Int := if e.valid then safeN e e.stamp.toNat else 0
theorem impl_safe_l0_is (h : G_impl_Engine_safe E) (e : Engine) (ho : e.ok) (hv : e.valid = true) : ∀ (k : Nat), k ≤ 999 → impl_Engine_safe_l0 E (.int .i64 (k : Int)) e.u = some (.int .i64 (safeN e k))
  | 0, _ => by
    rw [impl_Engine_safe_l0_eq]
    simp [safeN]
  | k + 1, hk => by
    have ih := impl_safe_l0_is h e ho hv k (by omega)
    have hw : IntKind.i64.wrap (((k + 1 : Nat) : Int) - 1) = (k : Int) := by rw [wrap_in (by omega)]; omega
    have hpos : (0 : Int) < ((k + 1 : Nat) : Int) := by omega
    rw [impl_Engine_safe_l0_eq]
    by_cases hb : because e ((k + 1 : Nat) : Int) = 0 <;>
    simp [-Int.natCast_add, hpos, impl_because_is h.c_impl_Engine_because e ho hv, hb, safeN, hw, ih]
theorem impl_safe_is (h : G_impl_Engine_safe E) (e : Engine) (ho : e.ok) (hv : e.valid = true) : E 193 [e.u] = some (.int .i64 (safeStamp e)) := by
  rw [impl_Engine_safe_E h]
  obtain ⟨v1, v2, v3, v4⟩ := Engine.valid_all hv
  have := impl_safe_l0_is h e ho hv e.stamp.toNat (by omega)
  rw [Int.toNat_of_nonneg v2] at this
  simp [this, safeStamp, hv]
theorem spec_SafeStamp_l0_is (h : G_spec_SafeStamp E) (e : Engine) (ho : e.ok) (hv : e.valid = true) : ∀ (k : Nat), k ≤ 999 → (k : Int) ≤ e.stamp → spec_SafeStamp_l0 E (.int .i64 (k : Int)) e.u = some (.int .i64 (safeN e k))
  | 0, _, _ => by
    rw [spec_SafeStamp_l0_eq]
    simp [safeN]
  | k + 1, hk, hs => by
    have ih := spec_SafeStamp_l0_is h e ho hv k (by omega) (by omega)
    have hw : IntKind.i64.wrap (((k + 1 : Nat) : Int) - 1) = (k : Int) := by rw [wrap_in (by omega)]; omega
    have hpos : (0 : Int) < ((k + 1 : Nat) : Int) := by omega
    have hr : inR ((k + 1 : Nat) : Int) 0 e.stamp = true := by simp only [inR, decide_eq_true_eq]; omega
    have g1 := spec_IsValidEngine_is h.c_spec_IsValidEngine e ho
    have g2 := spec_IsSafe_is h.c_spec_IsSafe e ho ((k + 1 : Nat) : Int)
    rw [hv] at g1
    rw [spec_SafeStamp_l0_eq]
    by_cases hb : because e ((k + 1 : Nat) : Int) = 0 <;>
    simp [-Int.natCast_add, hpos, g1, g2, isSafe, hv, hr, hb, safeN, hw, ih]
theorem spec_SafeStamp_is (h : G_spec_SafeStamp E) (e : Engine) (ho : e.ok) : E 192 [e.u] = some (.int .i64 (safeStamp e)) := by
  rw [spec_SafeStamp_E h]
  cases hv : e.valid
  · have g1 := spec_IsValidEngine_is h.c_spec_IsValidEngine e ho
    rw [hv] at g1
    simp only [safeStamp, hv]
    have : spec_SafeStamp_l0 E (.int .i64 e.stamp) e.u = some (.int .i64 0) := by
      rw [spec_SafeStamp_l0_eq]
      by_cases hp : 0 < e.stamp <;> simp [hp, g1]
    simp [this]
  · obtain ⟨v1, v2, v3, v4⟩ := Engine.valid_all hv
    have := spec_SafeStamp_l0_is h e ho hv e.stamp.toNat (by omega) (by omega)
    rw [Int.toNat_of_nonneg v2] at this
    simp [this, safeStamp, hv]
end Go.Proofs.YtmdnjglkdddaeaaGreat.Am
namespace Go.Proofs.YtmdnjglkdddaeaaGreat.Am
open Go
variable {E : Env}
set_option linter.unusedVariables false
def lastAt (t : Int) : List Version → Int → Int → Int
  | [], _, c => c
  | v :: r, i, c => lastAt t r (i + 1) (if v.created ≤ t then i else c)
theorem lastAt_snoc (t : Int) (x : Version) : ∀ (p : List Version) (i c : Int), lastAt t (p ++ [x]) i c = if x.created ≤ t then i + p.length else lastAt t p i c
  | [], i, c => by simp [lastAt]
  | v :: p, i, c => by
    simp only [List.cons_append, lastAt]
    rw [lastAt_snoc t x p]
    simp only [List.length_cons]
    split <;> omega
theorem lastAt_cases (t : Int) : ∀ (l p : List Version) (c : Int), (c = -1 ∨ ∃ v, p[c.toNat]? = some v ∧ 0 ≤ c) → (lastAt t l p.length c = -1 ∨ ∃ v, (p ++ l)[(lastAt t l p.length c).toNat]? = some v ∧ 0 ≤ lastAt t l p.length c)
  | [], p, c, h => by simpa [lastAt] using h
  | v :: r, p, c, h => by
    have := lastAt_cases t r (p ++ [v]) (if v.created ≤ t then p.length else c) (by
      split
      · right; exact ⟨v, by simp, by omega⟩
      · rcases h with h | ⟨w, h1, h2⟩
        · exact .inl h
        · right
          refine ⟨w, ?_, h2⟩
          rw [List.getElem?_append_left (List.getElem?_eq_some_iff.1 h1).1]
          exact h1)
    simp only [List.length_append, List.length_cons, List.length_nil, Nat.zero_add, List.append_assoc, List.cons_append, List.nil_append] at this
    simp only [lastAt]
    have e : ((p.length + 1 : Nat) : Int) = (p.length : Int) + 1 := by omega
    rw [e] at this
    exact this
theorem spec_VersionAt_l0_is (h : G_spec_VersionAt E) (l : List Version) (hl : chainOk l) (hv : validChain l = true) (t : Int) : ∀ (r p : List Version) (i c : Int), l = p ++ r → i = p.length →
    spec_VersionAt_l0 E (chainU l) (.int .i64 t) (.int .i64 c) (.int .i64 i) = some (.int .i64 (lastAt t r i c))
  | [], p, i, c, e, hi => by
    rw [spec_VersionAt_l0_eq]
    simp [chainU, mid_end e hi, lastAt]
  | x :: r, p, i, c, e, hi => by
    obtain ⟨h0, hlt, hx, hw, hn, _⟩ := mid_at e hi (by unfold chainOk at hl; omega)
    have ih := fun c => spec_VersionAt_l0_is h l hl hv t r (p ++ [x]) (i + 1) c (mid_next e) hn
    have hvc := spec_IsValidChain_is h.c_spec_IsValidChain l hl
    rw [hv] at hvc
    unfold chainU at ih hvc ⊢
    rw [spec_VersionAt_l0_eq]
    by_cases h1 : x.created ≤ t <;> simp [hlt, hx, hw, ih, h1, lastAt, hvc]
theorem spec_VersionAt_is (h : G_spec_VersionAt E) (l : List Version) (hl : chainOk l) (hv : validChain l = true) (t : Int) : E 106 [chainU l, .int .i64 t] = some (.int .i64 (lastAt t l 0 (-1))) := by
  rw [spec_VersionAt_E h]
  exact spec_VersionAt_l0_is h l hl hv t l [] 0 (-1) rfl rfl
theorem impl_versionAt_l0_is (l : List Version) (hl : chainOk l) (t : Int) : ∀ (n : Nat) (p r : List Version), p.length = n → l = p ++ r →
    impl_versionAt_l0 E (chainU l) (.int .i64 t) (.int .i64 (n - 1)) = some (.int .i64 (lastAt t p 0 (-1)))
  | 0, p, r, hn, e => by
    obtain rfl : p = [] := List.length_eq_zero_iff.1 hn
    rw [impl_versionAt_l0_eq]
    simp [lastAt]
  | n + 1, p, r, hn, e => by
    have hne : p ≠ [] := by rintro rfl; cases hn
    obtain ⟨q, x, rfl⟩ : ∃ q x, p = q ++ [x] := ⟨p.dropLast, p.getLast hne, (List.dropLast_concat_getLast hne).symm⟩
    have hq : q.length = n := by simpa using hn
    have ih := impl_versionAt_l0_is l hl t n q (x :: r) hq (by rw [e]; simp)
    have e2 : l = q ++ x :: r := by rw [e]; simp
    obtain ⟨h0, hlt, hx, hw, _, _⟩ := mid_at (i := (n : Int)) e2 (by omega) (by unfold chainOk at hl; omega)
    have hnl : n ≤ 1048576 := by unfold chainOk at hl; rw [e2] at hl; simp at hl; omega
    have hw2 : IntKind.i64.wrap ((n : Int) - 1) = n - 1 := wrap_in (by omega)
    have e3 : ((n + 1 : Nat) : Int) - 1 = n := by omega
    rw [lastAt_snoc, e3]
    unfold chainU at ih ⊢
    rw [impl_versionAt_l0_eq]
    by_cases h1 : t < x.created
    · have h2 : ¬ x.created ≤ t := by omega
      simp [hx, h1, h2, hw2, ih]
    · have h2 : x.created ≤ t := by omega
      simp [hx, h1, h2, hq]
theorem impl_versionAt_is (h : G_impl_versionAt E) (l : List Version) (hl : chainOk l) (t : Int) : E 111 [chainU l, .int .i64 t] = some (.int .i64 (lastAt t l 0 (-1))) := by
  rw [impl_versionAt_E h]
  have := impl_versionAt_l0_is (E := E) l hl t l.length l [] rfl (by simp)
  have hw : IntKind.i64.wrap ((l.length : Int) - 1) = l.length - 1 := wrap_in (by unfold chainOk at hl; omega)
  unfold chainU at this ⊢
  simp [hw, this]
def readAt (s : Store) (k t : Int) : Option Version := if s.valid && inR k 0 5 then (if lastAt t (s.chain k) 0 (-1) < 0 then none else (s.chain k)[(lastAt t (s.chain k) 0 (-1)).toNat]?) else none
def readU : Option Version → U
  | none => .tup [(⟨0, 0, 0, 0, 0⟩ : Version).u, .bool false]
  | some v => .tup [v.u, .bool true]
theorem lastAt_get (t : Int) (l : List Version) : (lastAt t l 0 (-1) < 0) ∨ ∃ v, l[(lastAt t l 0 (-1)).toNat]? = some v ∧ 0 ≤ lastAt t l 0 (-1) := by
  rcases lastAt_cases t l [] (-1) (.inl rfl) with h | h
  · left
    simp only [List.length_nil, Int.natCast_zero] at h
    omega
  · right
    simpa using h
theorem spec_ReadAt_is (h : G_spec_ReadAt E) (s : Store) (ho : s.ok) (k t : Int) : E 102 [s.u, .int .i64 k, .int .i64 t] = some (readU (readAt s k t)) := by
  rw [spec_ReadAt_E h]
  have g1 := spec_IsValidStore_is h.c_spec_IsValidStore s ho
  cases hv : s.valid with
  | false => simp [g1, hv, readAt, readU, Version.u]
  | true =>
    cases hr : inR k 0 5 with
    | false => simp [g1, hv, spec_l1In_is h.c_spec_l1In, hr, readAt, readU, Version.u]
    | true =>
      have hr2 : 0 ≤ k ∧ k ≤ 5 := by simpa [inR] using hr
      obtain ⟨hm, hmem⟩ := chain_get hv hr2.1 hr2.2
      have hc : chainOk (s.chain k) := ho.2 _ hmem
      have hch := fun {γ : Type} (K : U → Option γ) => chain_elem hv hr2.1 hr2.2 K
      have hva := spec_VersionAt_is h.c_spec_VersionAt (s.chain k) hc (Store.valid_mem hv hmem).1 t
      rcases lastAt_get t (s.chain k) with hneg | ⟨v, hg, hpos⟩
      · simp [g1, hv, spec_l1In_is h.c_spec_l1In, hr, hch, hva, hneg, readAt, readU, Version.u]
      · have hneg : ¬ lastAt t (s.chain k) 0 (-1) < 0 := by omega
        have hy : ∀ {γ : Type} (K : U → Option γ), U.elemAt 5 (chainU (s.chain k)) (lastAt t (s.chain k) 0 (-1)) K = K v.u := fun K => elemAt_get Version.u hpos hg K
        have hy2 : ∀ {γ : Type} (K : U → Option γ), U.elemAt 5 (.sl 5 ((s.chain k).map Version.u)) (lastAt t (s.chain k) 0 (-1)) K = K v.u := fun K => hy K
        simp [g1, hv, spec_l1In_is h.c_spec_l1In, hr, hch, hva, hneg, hy, hy2, readAt, readU, hg]
theorem impl_ReadAt_is (h : G_impl_ReadAt E) (s : Store) (ho : s.ok) (k t : Int) : E 110 [s.u, .int .i64 k, .int .i64 t] = some (readU (readAt s k t)) := by
  rw [impl_ReadAt_E h]
  have g1 := impl_IsValidStore_is h.c_impl_IsValidStore s ho
  cases hv : s.valid with
  | false => simp [g1, hv, readAt, readU, Version.u]
  | true =>
    cases hr : inR k 0 5 with
    | false => simp [g1, hv, impl_isKey_is h.c_impl_isKey, hr, readAt, readU, Version.u]
    | true =>
      have hr2 : 0 ≤ k ∧ k ≤ 5 := by simpa [inR] using hr
      obtain ⟨hm, hmem⟩ := chain_get hv hr2.1 hr2.2
      have hc : chainOk (s.chain k) := ho.2 _ hmem
      have hch := fun {γ : Type} (K : U → Option γ) => chain_elem hv hr2.1 hr2.2 K
      have hva := impl_versionAt_is h.c_impl_versionAt (s.chain k) hc t
      rcases lastAt_get t (s.chain k) with hneg | ⟨v, hg, hpos⟩
      · simp [g1, hv, impl_isKey_is h.c_impl_isKey, hr, hch, hva, hneg, readAt, readU, Version.u]
      · have hneg : ¬ lastAt t (s.chain k) 0 (-1) < 0 := by omega
        have hy : ∀ {γ : Type} (K : U → Option γ), U.elemAt 5 (chainU (s.chain k)) (lastAt t (s.chain k) 0 (-1)) K = K v.u := fun K => elemAt_get Version.u hpos hg K
        have hy2 : ∀ {γ : Type} (K : U → Option γ), U.elemAt 5 (.sl 5 ((s.chain k).map Version.u)) (lastAt t (s.chain k) 0 (-1)) K = K v.u := fun K => hy K
        simp [g1, hv, impl_isKey_is h.c_impl_isKey, hr, hch, hva, hneg, hy, hy2, readAt, readU, hg]
end Go.Proofs.YtmdnjglkdddaeaaGreat.Am
namespace Go.Proofs.YtmdnjglkdddaeaaGreat.Am
open Go
variable {E : Env}
def readSafe (e : Engine) (k : Int) : Int × Bool := if e.valid then (match readAt e.store k (safeStamp e) with | some v => (v.value, true) | none => (0, false)) else (0, false)
theorem version_noTup (v : Version) (K : U → Option U) : U.noTup v.u K = K v.u := rfl
theorem impl_ReadSafe_is (h : G_impl_ReadSafe E) (e : Engine) (ho : e.ok) (k : Int) : E 202 [e.u, .int .i64 k] = some (.tup [.int .i64 (readSafe e k).1, .bool (readSafe e k).2]) := by
  rw [impl_ReadSafe_E h]
  have g1 := impl_IsValidEngine_is h.c_impl_IsValidEngine e ho
  cases hv : e.valid with
  | false => simp [g1, hv, readSafe]
  | true =>
    have g2 := impl_safe_is h.c_impl_Engine_safe e ho hv
    have g3 := impl_ReadAt_is h.c_impl_ReadAt e.store ho.1 k (safeStamp e)
    cases hr : readAt e.store k (safeStamp e) with
    | none => simp [g1, hv, readSafe, g2, g3, hr, readU, version_noTup, noTup_int]
    | some v => simp [g1, hv, readSafe, g2, g3, hr, readU, version_noTup, noTup_int]
theorem spec_ReadSafe_is (h : G_spec_ReadSafe E) (e : Engine) (ho : e.ok) (k : Int) : E 203 [e.u, .int .i64 k] = some (.tup [.int .i64 (readSafe e k).1, .bool (readSafe e k).2]) := by
  rw [spec_ReadSafe_E h]
  have g1 := spec_IsValidEngine_is h.c_spec_IsValidEngine e ho
  cases hv : e.valid with
  | false => simp [g1, hv, readSafe]
  | true =>
    have g2 := spec_SafeStamp_is h.c_spec_SafeStamp e ho
    have g3 := spec_ReadAt_is h.c_spec_ReadAt e.store ho.1 k (safeStamp e)
    cases hr : readAt e.store k (safeStamp e) with
    | none => simp [g1, hv, readSafe, g2, g3, hr, readU, version_noTup, noTup_int]
    | some v => simp [g1, hv, readSafe, g2, g3, hr, readU, version_noTup, noTup_int]
end Go.Proofs.YtmdnjglkdddaeaaGreat.Am
namespace Go.Proofs.YtmdnjglkdddaeaaGreat.Am
open Go
variable {E : Env}
set_option linter.unusedVariables false
theorem laws_toVersion_is (h : G_laws_toVersion E) (x : Version) : E 109 [x.u] = some x.u := by
  rw [laws_toVersion_E h]
  simp [Version.u]
theorem laws_toVersionS_l0_is (h : G_laws_toVersionS E) (l : List Version) (hl : l.length ≤ 1048576) : ∀ (r p : List Version) (i : Int) (c : List U), l = p ++ r → i = p.length → c.length = r.length → (∀ z ∈ c, z.size = 5) →
    laws_toVersionS_l0 E (.sl 5 (l.map Version.u)) (.int .i64 i) (p.map Version.u ++ c) = some (.sl 5 (l.map Version.u))
  | [], p, i, c, e, hi, hc, _ => by
    obtain rfl : c = [] := List.length_eq_zero_iff.1 hc
    rw [laws_toVersionS_l0_eq]
    simp [mid_end e hi]
    simp [e]
  | x :: r, p, i, [], e, hi, hc, _ => by cases hc
  | x :: r, p, i, z :: c, e, hi, hc, hz => by
    obtain ⟨h0, hlt, hx, hw, hn, _⟩ := mid_at e hi (by omega)
    have hzs : z.size = 5 := hz z (by simp)
    obtain ⟨hg, hs, hlen⟩ := mid_set Version.u p z c hi
    have ih := laws_toVersionS_l0_is h l hl r (p ++ [x]) (i + 1) c (mid_next e) hn (by simpa using hc) (fun y hy => hz y (by simp [hy]))
    simp only [List.map_append, List.map_cons, List.map_nil, List.append_assoc, List.cons_append, List.nil_append] at ih
    rw [laws_toVersionS_l0_eq]
    simp only [hg, hs, hx, hw, asInt_int, bin_lss, lenOf_sl, List.length_map, Option.bind_some, asBool_bool, hlt, decide_true, if_true, h0, hlen, and_self, bin_add, laws_toVersion_is h.c_laws_toVersion x, hzs, Version.u_var, Version.u_size, Version.u_storable, Version.u_partable]
    simpa using ih
theorem laws_toVersionS_is (h : G_laws_toVersionS E) (l : List Version) (hl : l.length ≤ 1048576) : E 108 [.sl 5 (l.map Version.u)] = some (.sl 5 (l.map Version.u)) := by
  have h1 := laws_toVersionS_l0_is h l hl l [] 0 (List.replicate l.length (.agg [.int .i64 0, .int .i64 0, .int .i64 0, .int .i64 0, .int .i64 0])) rfl rfl (by simp) (by simp)
  rw [laws_toVersionS_E h]
  simp only [lenOf_sl, Option.bind_some, List.length_map]
  rw [if_pos (by refine ⟨by omega, by omega, by omega, rfl⟩)]
  simpa using h1
theorem laws_eqVersion_is (h : G_laws_eqVersion E) (x y : Version) : E 120 [x.u, y.u] = some (.bool (decide (x = y))) := by
  rw [laws_eqVersion_E h]
  obtain ⟨a0, a1, a2, a3, a4⟩ := x
  obtain ⟨b0, b1, b2, b3, b4⟩ := y
  simp only [Version.mk.injEq]
  by_cases h0 : a0 = b0
  case neg => simp [h0]
  subst h0
  by_cases h1 : a1 = b1
  case neg => simp [h1]
  subst h1
  by_cases h2 : a2 = b2
  case neg => simp [h2]
  subst h2
  by_cases h3 : a3 = b3
  case neg => simp [h3]
  subst h3
  by_cases h4 : a4 = b4
  case neg => simp [h4]
  subst h4
  simp []
theorem laws_eqVersionS_l0_is (h : G_laws_eqVersionS E) (a b : List Version) (ha : a.length ≤ 1048576) (hb : b.length ≤ 1048576) : ∀ (r s p p2 : List Version) (i : Int), a = p ++ r → b = p2 ++ s → i = p.length → i = p2.length → r.length = s.length →
    laws_eqVersionS_l0 E (.sl 5 (a.map Version.u)) (.sl 5 (b.map Version.u)) (.int .i64 i) = some (.bool (decide (r = s)))
  | [], [], p, p2, i, e, e2, hi, hi2, _ => by
    rw [laws_eqVersionS_l0_eq]
    simp [mid_end e hi]
  | [], y :: s, _, _, _, _, _, _, _, hl => by cases hl
  | x :: r, [], _, _, _, _, _, _, _, hl => by cases hl
  | x :: r, y :: s, p, p2, i, e, e2, hi, hi2, hl => by
    obtain ⟨h0, hlt, hx, hw, hn, _⟩ := mid_at e hi (by omega)
    obtain ⟨_, _, hy, _, hn2, _⟩ := mid_at e2 hi2 (by omega)
    have ih := laws_eqVersionS_l0_is h a b ha hb r s (p ++ [x]) (p2 ++ [y]) (i + 1) (mid_next e) (mid_next e2) hn hn2 (by simpa using hl)
    rw [laws_eqVersionS_l0_eq]
    by_cases hxy : x = y
    · subst hxy
      simp [hlt, hx, hy, hw, ih, laws_eqVersion_is h.c_laws_eqVersion]
    · simp [hlt, hx, hy, hw, ih, laws_eqVersion_is h.c_laws_eqVersion, hxy]
theorem laws_eqVersionS_is (h : G_laws_eqVersionS E) (a b : List Version) (ha : a.length ≤ 1048576) (hb : b.length ≤ 1048576) : E 119 [.sl 5 (a.map Version.u), .sl 5 (b.map Version.u)] = some (.bool (decide (a = b))) := by
  rw [laws_eqVersionS_E h]
  by_cases hl : a.length = b.length
  · simp [hl, laws_eqVersionS_l0_is h a b ha hb a b [] [] 0 rfl rfl rfl rfl hl]
  · have h1 : a ≠ b := fun e => hl (by rw [e])
    have h2 : (a.length : Int) ≠ b.length := by omega
    simp [h1, h2]
theorem laws_szVersionS_is (h : G_laws_szVersionS E) (l : List Version) (hl : l.length ≤ maxLen) (left : Int) (h0 : 0 ≤ left) (h1 : left ≤ 1048576) : E 101 [.sl 5 (l.map Version.u), .int .i64 left] = some (.int .i64 (szc l.length left)) := by
  rw [laws_szVersionS_E h]
  unfold maxLen at hl
  have hw : IntKind.i64.wrap (left - (l.length : Int)) = left - l.length := wrap_in (by omega)
  by_cases h2 : left - (l.length : Int) < 0 <;> simp [hw, szc, h2]
theorem laws_toVersionS_ch (h : G_laws_toVersionS E) (x : List Version) (hx : chainOk x) : E 108 [chainU x] = some (chainU x) := laws_toVersionS_is h x hx
theorem laws_eqVersionS_ch (h : G_laws_eqVersionS E) (x y : List Version) (hx : chainOk x) (hy : chainOk y) : E 119 [chainU x, chainU y] = some (.bool (decide (x = y))) := laws_eqVersionS_is h x y hx hy
theorem laws_szVersionS_ch (h : G_laws_szVersionS E) (x : List Version) (hx : chainFit x) (left : Int) (h0 : 0 ≤ left) (h1 : left ≤ 1048576) : E 101 [chainU x, .int .i64 left] = some (.int .i64 (chainSz x left)) := laws_szVersionS_is h x hx left h0 h1
end Go.Proofs.YtmdnjglkdddaeaaGreat.Am
namespace Go.Proofs.YtmdnjglkdddaeaaGreat.Am
open Go
variable {E : Env}
set_option linter.unusedVariables false
theorem laws_toVersionSS_l0_is (h : G_laws_toVersionSS E) (l : List (List Version)) (hl : l.length ≤ 1048576) (hok : ∀ x ∈ l, chainOk x) : ∀ (r p : List (List Version)) (i : Int) (c : List U), l = p ++ r → i = p.length → c.length = r.length → (∀ z ∈ c, z.size = 1) →
    laws_toVersionSS_l0 E (.sl 1 (l.map chainU)) (.int .i64 i) (p.map chainU ++ c) = some (.sl 1 (l.map chainU))
  | [], p, i, c, e, hi, hc, _ => by
    obtain rfl : c = [] := List.length_eq_zero_iff.1 hc
    rw [laws_toVersionSS_l0_eq]
    simp [mid_end e hi]
    simp [e]
  | x :: r, p, i, [], e, hi, hc, _ => by cases hc
  | x :: r, p, i, z :: c, e, hi, hc, hz => by
    obtain ⟨h0, hlt, hx, hw, hn, _⟩ := mid_at e hi (by omega)
    have hox : chainOk x := hok x (by rw [e]; simp)
    have hzs : z.size = 1 := hz z (by simp)
    obtain ⟨hg, hs, hlen⟩ := mid_set chainU p z c hi
    have ih := laws_toVersionSS_l0_is h l hl hok r (p ++ [x]) (i + 1) c (mid_next e) hn (by simpa using hc) (fun y hy => hz y (by simp [hy]))
    simp only [List.map_append, List.map_cons, List.map_nil, List.append_assoc, List.cons_append, List.nil_append] at ih
    rw [laws_toVersionSS_l0_eq]
    simp only [hg, hs, hx, hw, asInt_int, bin_lss, lenOf_sl, List.length_map, Option.bind_some, asBool_bool, hlt, decide_true, if_true, h0, hlen, and_self, bin_add, laws_toVersionS_ch h.c_laws_toVersionS x hox, hzs, asVar_chainU, chainU_size, storable_chainU, partable_chainU]
    simpa using ih
theorem laws_toVersionSS_is (h : G_laws_toVersionSS E) (l : List (List Version)) (hl : l.length ≤ 1048576) (hok : ∀ x ∈ l, chainOk x) : E 107 [.sl 1 (l.map chainU)] = some (.sl 1 (l.map chainU)) := by
  have h1 := laws_toVersionSS_l0_is h l hl hok l [] 0 (List.replicate l.length (.nsl 5)) rfl rfl (by simp) (by simp)
  rw [laws_toVersionSS_E h]
  simp only [lenOf_sl, Option.bind_some, List.length_map]
  rw [if_pos (by refine ⟨by omega, by omega, by omega, rfl⟩)]
  simpa using h1
theorem laws_eqVersionSS_l0_is (h : G_laws_eqVersionSS E) (a b : List (List Version)) (ha : a.length ≤ 1048576) (hb : b.length ≤ 1048576) (hao : ∀ x ∈ a, chainOk x) (hbo : ∀ x ∈ b, chainOk x) : ∀ (r s p p2 : List (List Version)) (i : Int), a = p ++ r → b = p2 ++ s → i = p.length → i = p2.length → r.length = s.length →
    laws_eqVersionSS_l0 E (.sl 1 (a.map chainU)) (.sl 1 (b.map chainU)) (.int .i64 i) = some (.bool (decide (r = s)))
  | [], [], p, p2, i, e, e2, hi, hi2, _ => by
    rw [laws_eqVersionSS_l0_eq]
    simp [mid_end e hi]
  | [], y :: s, _, _, _, _, _, _, _, hl => by cases hl
  | x :: r, [], _, _, _, _, _, _, _, hl => by cases hl
  | x :: r, y :: s, p, p2, i, e, e2, hi, hi2, hl => by
    obtain ⟨h0, hlt, hx, hw, hn, _⟩ := mid_at e hi (by omega)
    obtain ⟨_, _, hy, _, hn2, _⟩ := mid_at e2 hi2 (by omega)
    have hox : chainOk x := hao x (by rw [e]; simp)
    have hoy : chainOk y := hbo y (by rw [e2]; simp)
    have ih := laws_eqVersionSS_l0_is h a b ha hb hao hbo r s (p ++ [x]) (p2 ++ [y]) (i + 1) (mid_next e) (mid_next e2) hn hn2 (by simpa using hl)
    rw [laws_eqVersionSS_l0_eq]
    by_cases hxy : x = y
    · subst hxy
      simp [hlt, hx, hy, hw, ih, laws_eqVersionS_ch h.c_laws_eqVersionS _ _ hox hoy]
    · simp [hlt, hx, hy, hw, ih, laws_eqVersionS_ch h.c_laws_eqVersionS _ _ hox hoy, hxy]
theorem laws_eqVersionSS_is (h : G_laws_eqVersionSS E) (a b : List (List Version)) (ha : a.length ≤ 1048576) (hb : b.length ≤ 1048576) (hao : ∀ x ∈ a, chainOk x) (hbo : ∀ x ∈ b, chainOk x) : E 118 [.sl 1 (a.map chainU), .sl 1 (b.map chainU)] = some (.bool (decide (a = b))) := by
  rw [laws_eqVersionSS_E h]
  by_cases hl : a.length = b.length
  · simp [hl, laws_eqVersionSS_l0_is h a b ha hb hao hbo a b [] [] 0 rfl rfl rfl rfl hl]
  · have h1 : a ≠ b := fun e => hl (by rw [e])
    have h2 : (a.length : Int) ≠ b.length := by omega
    simp [h1, h2]
theorem laws_szVersionSS_l0_is (h : G_laws_szVersionSS E) (l : List (List Version)) (hl : l.length ≤ 1048576) (hf : ∀ x ∈ l, chainFit x) : ∀ (r p : List (List Version)) (i left : Int), l = p ++ r → i = p.length → 0 ≤ left → left ≤ 1048576 →
    laws_szVersionSS_l0 E (.sl 1 (l.map chainU)) (.int .i64 left) (.int .i64 i) = some (.int .i64 (szl chainSz r left))
  | [], p, i, left, e, hi, _, _ => by
    rw [laws_szVersionSS_l0_eq]
    simp [mid_end e hi, szl]
  | x :: r, p, i, left, e, hi, h1, h2 => by
    obtain ⟨h0, hlt, hx, hw, hn, _⟩ := mid_at e hi (by omega)
    have hfx : chainFit x := hf x (by rw [e]; simp)
    rw [laws_szVersionSS_l0_eq]
    rcases chainSz_szs x left h1 h2 with h3 | ⟨_, h3, h4⟩
    · simp [hlt, hx, hw, szl, laws_szVersionS_ch h.c_laws_szVersionS x hfx left h1 h2, h3]
    · have ih := laws_szVersionSS_l0_is h l hl hf r (p ++ [x]) (i + 1) (chainSz x left) (mid_next e) hn h3 (by omega)
      have h5 : ¬ chainSz x left < 0 := by omega
      simp [hlt, hx, hw, szl, laws_szVersionS_ch h.c_laws_szVersionS x hfx left h1 h2, h5, ih]
theorem laws_szVersionSS_is (h : G_laws_szVersionSS E) (l : List (List Version)) (hl : l.length ≤ maxLen) (hf : ∀ x ∈ l, chainFit x) (left : Int) (h0 : 0 ≤ left) (h1 : left ≤ 1048576) : E 100 [.sl 1 (l.map chainU), .int .i64 left] = some (.int .i64 (szL chainSz l left)) := by
  rw [laws_szVersionSS_E h]
  unfold maxLen at hl
  have hw : IntKind.i64.wrap (left - (l.length : Int)) = left - l.length := wrap_in (by omega)
  by_cases h2 : left - (l.length : Int) < 0
  · simp [hw, szL, h2]
  · simp [hw, szL, h2, laws_szVersionSS_l0_is h l (by omega) hf l [] 0 (left - l.length) rfl rfl (by omega) (by omega)]
theorem laws_toStore_is (h : G_laws_toStore E) (s : Store) (ho : s.ok) : E 93 [s.u] = some s.u := by
  rw [laws_toStore_E h]
  have h1 := laws_toVersionSS_is h.c_laws_toVersionSS s.chains ho.1 ho.2
  simp [h1]
  rfl
theorem laws_eqStore_is (h : G_laws_eqStore E) (s t : Store) (ho : s.ok) (ho2 : t.ok) : E 97 [s.u, t.u] = some (.bool (decide (s = t))) := by
  rw [laws_eqStore_E h]
  have h1 := laws_eqVersionSS_is h.c_laws_eqVersionSS s.chains t.chains ho.1 ho2.1 ho.2 ho2.2
  by_cases h2 : s.chains = t.chains <;> simp [h1, h2, Store.eq_iff]
  rw [h2] at h1
  simp [h1]
theorem laws_szStore_is (h : G_laws_szStore E) (s : Store) (hf : s.fit) (left : Int) (h0 : 0 ≤ left) (h1 : left ≤ 1048576) : E 99 [s.u, .int .i64 left] = some (.int .i64 (s.sz left)) := by
  rw [laws_szStore_E h]
  have a1 := laws_szVersionSS_is h.c_laws_szVersionSS s.chains hf.1 hf.2 left h0 h1
  by_cases h2 : szL chainSz s.chains left < 0
  · have h3 := szL_neg chainSz_neg h2
    simp [a1, h3, Store.sz]
  · simp [a1, h2, Store.sz]
end Go.Proofs.YtmdnjglkdddaeaaGreat.Am
namespace Go.Proofs.YtmdnjglkdddaeaaGreat.Am
open Go
variable {E : Env}
set_option linter.unusedVariables false
theorem laws_toReadMark_is (h : G_laws_toReadMark E) (x : ReadMark) : E 29 [x.u] = some x.u := by
  rw [laws_toReadMark_E h]
  simp [ReadMark.u]
theorem laws_toReadMarkS_l0_is (h : G_laws_toReadMarkS E) (l : List ReadMark) (hl : l.length ≤ 1048576) : ∀ (r p : List ReadMark) (i : Int) (c : List U), l = p ++ r → i = p.length → c.length = r.length → (∀ z ∈ c, z.size = 2) →
    laws_toReadMarkS_l0 E (.sl 2 (l.map ReadMark.u)) (.int .i64 i) (p.map ReadMark.u ++ c) = some (.sl 2 (l.map ReadMark.u))
  | [], p, i, c, e, hi, hc, _ => by
    obtain rfl : c = [] := List.length_eq_zero_iff.1 hc
    rw [laws_toReadMarkS_l0_eq]
    simp [mid_end e hi]
    simp [e]
  | x :: r, p, i, [], e, hi, hc, _ => by cases hc
  | x :: r, p, i, z :: c, e, hi, hc, hz => by
    obtain ⟨h0, hlt, hx, hw, hn, _⟩ := mid_at e hi (by omega)
    have hzs : z.size = 2 := hz z (by simp)
    obtain ⟨hg, hs, hlen⟩ := mid_set ReadMark.u p z c hi
    have ih := laws_toReadMarkS_l0_is h l hl r (p ++ [x]) (i + 1) c (mid_next e) hn (by simpa using hc) (fun y hy => hz y (by simp [hy]))
    simp only [List.map_append, List.map_cons, List.map_nil, List.append_assoc, List.cons_append, List.nil_append] at ih
    rw [laws_toReadMarkS_l0_eq]
    simp only [hg, hs, hx, hw, asInt_int, bin_lss, lenOf_sl, List.length_map, Option.bind_some, asBool_bool, hlt, decide_true, if_true, h0, hlen, and_self, bin_add, laws_toReadMark_is h.c_laws_toReadMark x, hzs, ReadMark.u_var, ReadMark.u_size, ReadMark.u_storable, ReadMark.u_partable]
    simpa using ih
theorem laws_toReadMarkS_is (h : G_laws_toReadMarkS E) (l : List ReadMark) (hl : l.length ≤ 1048576) : E 28 [.sl 2 (l.map ReadMark.u)] = some (.sl 2 (l.map ReadMark.u)) := by
  have h1 := laws_toReadMarkS_l0_is h l hl l [] 0 (List.replicate l.length (.agg [.int .i64 0, .int .i64 0])) rfl rfl (by simp) (by simp)
  rw [laws_toReadMarkS_E h]
  simp only [lenOf_sl, Option.bind_some, List.length_map]
  rw [if_pos (by refine ⟨by omega, by omega, by omega, rfl⟩)]
  simpa using h1
theorem laws_eqReadMark_is (h : G_laws_eqReadMark E) (x y : ReadMark) : E 35 [x.u, y.u] = some (.bool (decide (x = y))) := by
  rw [laws_eqReadMark_E h]
  obtain ⟨a0, a1⟩ := x
  obtain ⟨b0, b1⟩ := y
  simp only [ReadMark.mk.injEq]
  by_cases h0 : a0 = b0
  case neg => simp [h0]
  subst h0
  by_cases h1 : a1 = b1
  case neg => simp [h1]
  subst h1
  simp []
theorem laws_eqReadMarkS_l0_is (h : G_laws_eqReadMarkS E) (a b : List ReadMark) (ha : a.length ≤ 1048576) (hb : b.length ≤ 1048576) : ∀ (r s p p2 : List ReadMark) (i : Int), a = p ++ r → b = p2 ++ s → i = p.length → i = p2.length → r.length = s.length →
    laws_eqReadMarkS_l0 E (.sl 2 (a.map ReadMark.u)) (.sl 2 (b.map ReadMark.u)) (.int .i64 i) = some (.bool (decide (r = s)))
  | [], [], p, p2, i, e, e2, hi, hi2, _ => by
    rw [laws_eqReadMarkS_l0_eq]
    simp [mid_end e hi]
  | [], y :: s, _, _, _, _, _, _, _, hl => by cases hl
  | x :: r, [], _, _, _, _, _, _, _, hl => by cases hl
  | x :: r, y :: s, p, p2, i, e, e2, hi, hi2, hl => by
    obtain ⟨h0, hlt, hx, hw, hn, _⟩ := mid_at e hi (by omega)
    obtain ⟨_, _, hy, _, hn2, _⟩ := mid_at e2 hi2 (by omega)
    have ih := laws_eqReadMarkS_l0_is h a b ha hb r s (p ++ [x]) (p2 ++ [y]) (i + 1) (mid_next e) (mid_next e2) hn hn2 (by simpa using hl)
    rw [laws_eqReadMarkS_l0_eq]
    by_cases hxy : x = y
    · subst hxy
      simp [hlt, hx, hy, hw, ih, laws_eqReadMark_is h.c_laws_eqReadMark]
    · simp [hlt, hx, hy, hw, ih, laws_eqReadMark_is h.c_laws_eqReadMark, hxy]
theorem laws_eqReadMarkS_is (h : G_laws_eqReadMarkS E) (a b : List ReadMark) (ha : a.length ≤ 1048576) (hb : b.length ≤ 1048576) : E 34 [.sl 2 (a.map ReadMark.u), .sl 2 (b.map ReadMark.u)] = some (.bool (decide (a = b))) := by
  rw [laws_eqReadMarkS_E h]
  by_cases hl : a.length = b.length
  · simp [hl, laws_eqReadMarkS_l0_is h a b ha hb a b [] [] 0 rfl rfl rfl rfl hl]
  · have h1 : a ≠ b := fun e => hl (by rw [e])
    have h2 : (a.length : Int) ≠ b.length := by omega
    simp [h1, h2]
theorem laws_szReadMarkS_is (h : G_laws_szReadMarkS E) (l : List ReadMark) (hl : l.length ≤ maxLen) (left : Int) (h0 : 0 ≤ left) (h1 : left ≤ 1048576) : E 24 [.sl 2 (l.map ReadMark.u), .int .i64 left] = some (.int .i64 (szc l.length left)) := by
  rw [laws_szReadMarkS_E h]
  unfold maxLen at hl
  have hw : IntKind.i64.wrap (left - (l.length : Int)) = left - l.length := wrap_in (by omega)
  by_cases h2 : left - (l.length : Int) < 0 <;> simp [hw, szc, h2]
end Go.Proofs.YtmdnjglkdddaeaaGreat.Am
namespace Go.Proofs.YtmdnjglkdddaeaaGreat.Am
open Go
variable {E : Env}
set_option linter.unusedVariables false
theorem laws_toWrite_is (h : G_laws_toWrite E) (x : Write) : E 30 [x.u] = some x.u := by
  rw [laws_toWrite_E h]
  simp [Write.u]
theorem laws_toWriteS_l0_is (h : G_laws_toWriteS E) (l : List Write) (hl : l.length ≤ 1048576) : ∀ (r p : List Write) (i : Int) (c : List U), l = p ++ r → i = p.length → c.length = r.length → (∀ z ∈ c, z.size = 2) →
    laws_toWriteS_l0 E (.sl 2 (l.map Write.u)) (.int .i64 i) (p.map Write.u ++ c) = some (.sl 2 (l.map Write.u))
  | [], p, i, c, e, hi, hc, _ => by
    obtain rfl : c = [] := List.length_eq_zero_iff.1 hc
    rw [laws_toWriteS_l0_eq]
    simp [mid_end e hi]
    simp [e]
  | x :: r, p, i, [], e, hi, hc, _ => by cases hc
  | x :: r, p, i, z :: c, e, hi, hc, hz => by
    obtain ⟨h0, hlt, hx, hw, hn, _⟩ := mid_at e hi (by omega)
    have hzs : z.size = 2 := hz z (by simp)
    obtain ⟨hg, hs, hlen⟩ := mid_set Write.u p z c hi
    have ih := laws_toWriteS_l0_is h l hl r (p ++ [x]) (i + 1) c (mid_next e) hn (by simpa using hc) (fun y hy => hz y (by simp [hy]))
    simp only [List.map_append, List.map_cons, List.map_nil, List.append_assoc, List.cons_append, List.nil_append] at ih
    rw [laws_toWriteS_l0_eq]
    simp only [hg, hs, hx, hw, asInt_int, bin_lss, lenOf_sl, List.length_map, Option.bind_some, asBool_bool, hlt, decide_true, if_true, h0, hlen, and_self, bin_add, laws_toWrite_is h.c_laws_toWrite x, hzs, Write.u_var, Write.u_size, Write.u_storable, Write.u_partable]
    simpa using ih
theorem laws_toWriteS_is (h : G_laws_toWriteS E) (l : List Write) (hl : l.length ≤ 1048576) : E 27 [.sl 2 (l.map Write.u)] = some (.sl 2 (l.map Write.u)) := by
  have h1 := laws_toWriteS_l0_is h l hl l [] 0 (List.replicate l.length (.agg [.int .i64 0, .int .i64 0])) rfl rfl (by simp) (by simp)
  rw [laws_toWriteS_E h]
  simp only [lenOf_sl, Option.bind_some, List.length_map]
  rw [if_pos (by refine ⟨by omega, by omega, by omega, rfl⟩)]
  simpa using h1
theorem laws_eqWrite_is (h : G_laws_eqWrite E) (x y : Write) : E 36 [x.u, y.u] = some (.bool (decide (x = y))) := by
  rw [laws_eqWrite_E h]
  obtain ⟨a0, a1⟩ := x
  obtain ⟨b0, b1⟩ := y
  simp only [Write.mk.injEq]
  by_cases h0 : a0 = b0
  case neg => simp [h0]
  subst h0
  by_cases h1 : a1 = b1
  case neg => simp [h1]
  subst h1
  simp []
theorem laws_eqWriteS_l0_is (h : G_laws_eqWriteS E) (a b : List Write) (ha : a.length ≤ 1048576) (hb : b.length ≤ 1048576) : ∀ (r s p p2 : List Write) (i : Int), a = p ++ r → b = p2 ++ s → i = p.length → i = p2.length → r.length = s.length →
    laws_eqWriteS_l0 E (.sl 2 (a.map Write.u)) (.sl 2 (b.map Write.u)) (.int .i64 i) = some (.bool (decide (r = s)))
  | [], [], p, p2, i, e, e2, hi, hi2, _ => by
    rw [laws_eqWriteS_l0_eq]
    simp [mid_end e hi]
  | [], y :: s, _, _, _, _, _, _, _, hl => by cases hl
  | x :: r, [], _, _, _, _, _, _, _, hl => by cases hl
  | x :: r, y :: s, p, p2, i, e, e2, hi, hi2, hl => by
    obtain ⟨h0, hlt, hx, hw, hn, _⟩ := mid_at e hi (by omega)
    obtain ⟨_, _, hy, _, hn2, _⟩ := mid_at e2 hi2 (by omega)
    have ih := laws_eqWriteS_l0_is h a b ha hb r s (p ++ [x]) (p2 ++ [y]) (i + 1) (mid_next e) (mid_next e2) hn hn2 (by simpa using hl)
    rw [laws_eqWriteS_l0_eq]
    by_cases hxy : x = y
    · subst hxy
      simp [hlt, hx, hy, hw, ih, laws_eqWrite_is h.c_laws_eqWrite]
    · simp [hlt, hx, hy, hw, ih, laws_eqWrite_is h.c_laws_eqWrite, hxy]
theorem laws_eqWriteS_is (h : G_laws_eqWriteS E) (a b : List Write) (ha : a.length ≤ 1048576) (hb : b.length ≤ 1048576) : E 33 [.sl 2 (a.map Write.u), .sl 2 (b.map Write.u)] = some (.bool (decide (a = b))) := by
  rw [laws_eqWriteS_E h]
  by_cases hl : a.length = b.length
  · simp [hl, laws_eqWriteS_l0_is h a b ha hb a b [] [] 0 rfl rfl rfl rfl hl]
  · have h1 : a ≠ b := fun e => hl (by rw [e])
    have h2 : (a.length : Int) ≠ b.length := by omega
    simp [h1, h2]
theorem laws_szWriteS_is (h : G_laws_szWriteS E) (l : List Write) (hl : l.length ≤ maxLen) (left : Int) (h0 : 0 ≤ left) (h1 : left ≤ 1048576) : E 23 [.sl 2 (l.map Write.u), .int .i64 left] = some (.int .i64 (szc l.length left)) := by
  rw [laws_szWriteS_E h]
  unfold maxLen at hl
  have hw : IntKind.i64.wrap (left - (l.length : Int)) = left - l.length := wrap_in (by omega)
  by_cases h2 : left - (l.length : Int) < 0 <;> simp [hw, szc, h2]
end Go.Proofs.YtmdnjglkdddaeaaGreat.Am
namespace Go.Proofs.YtmdnjglkdddaeaaGreat.Am
open Go
variable {E : Env}
set_option linter.unusedVariables false
theorem laws_szTransaction_is (h : G_laws_szTransaction E) (x : Transaction) (hf : x.fit) (left : Int) (h0 : 0 ≤ left) (h1 : left ≤ 1048576) : E 132 [x.u, .int .i64 left] = some (.int .i64 (x.sz left)) := by
  rw [laws_szTransaction_E h]
  obtain ⟨hf1, hf2⟩ := hf
  have a1 := laws_szReadMarkS_is h.c_laws_szReadMarkS x.reads hf1 left h0 h1
  rcases szc_szs x.reads.length left h0 h1 with h2 | ⟨_, h3, h4⟩
  · simp [a1, Transaction.sz, h2]
  · have h5 : ¬ szc x.reads.length left < 0 := by omega
    have a2 := laws_szWriteS_is h.c_laws_szWriteS x.writes hf2 _ h3 (by omega)
    by_cases h6 : szc x.writes.length (szc x.reads.length left) < 0
    · have h7 : szc x.writes.length (szc x.reads.length left) = -1 := szc_neg h6
      simp [a1, a2, Transaction.sz, h5, h7]
    · simp [a1, a2, Transaction.sz, h5, h6]
theorem laws_toTransaction_is (h : G_laws_toTransaction E) (x : Transaction) (ho : x.ok) : E 145 [x.u] = some x.u := by
  rw [laws_toTransaction_E h]
  simp [Transaction.u, laws_toReadMarkS_is h.c_laws_toReadMarkS x.reads ho.1, laws_toWriteS_is h.c_laws_toWriteS x.writes ho.2]
theorem laws_eqTransaction_is (h : G_laws_eqTransaction E) (x y : Transaction) (hx : x.ok) (hy : y.ok) : E 177 [x.u, y.u] = some (.bool (decide (x = y))) := by
  rw [laws_eqTransaction_E h]
  obtain ⟨a0, a1, a2, a3, a4, a5, a6, a7, a8⟩ := x
  obtain ⟨b0, b1, b2, b3, b4, b5, b6, b7, b8⟩ := y
  simp only [Transaction.mk.injEq]
  by_cases h0 : a0 = b0
  case neg => simp [laws_eqReadMarkS_is h.c_laws_eqReadMarkS a7 b7 hx.1 hy.1, laws_eqWriteS_is h.c_laws_eqWriteS a8 b8 hx.2 hy.2, h0]
  subst h0
  by_cases h1 : a1 = b1
  case neg => simp [laws_eqReadMarkS_is h.c_laws_eqReadMarkS a7 b7 hx.1 hy.1, laws_eqWriteS_is h.c_laws_eqWriteS a8 b8 hx.2 hy.2, h1]
  subst h1
  by_cases h2 : a2 = b2
  case neg => simp [laws_eqReadMarkS_is h.c_laws_eqReadMarkS a7 b7 hx.1 hy.1, laws_eqWriteS_is h.c_laws_eqWriteS a8 b8 hx.2 hy.2, h2]
  subst h2
  by_cases h3 : a3 = b3
  case neg => simp [laws_eqReadMarkS_is h.c_laws_eqReadMarkS a7 b7 hx.1 hy.1, laws_eqWriteS_is h.c_laws_eqWriteS a8 b8 hx.2 hy.2, h3]
  subst h3
  by_cases h4 : a4 = b4
  case neg => simp [laws_eqReadMarkS_is h.c_laws_eqReadMarkS a7 b7 hx.1 hy.1, laws_eqWriteS_is h.c_laws_eqWriteS a8 b8 hx.2 hy.2, h4]
  subst h4
  by_cases h5 : a5 = b5
  case neg => simp [laws_eqReadMarkS_is h.c_laws_eqReadMarkS a7 b7 hx.1 hy.1, laws_eqWriteS_is h.c_laws_eqWriteS a8 b8 hx.2 hy.2, h5]
  subst h5
  by_cases h6 : a6 = b6
  case neg => simp [laws_eqReadMarkS_is h.c_laws_eqReadMarkS a7 b7 hx.1 hy.1, laws_eqWriteS_is h.c_laws_eqWriteS a8 b8 hx.2 hy.2, h6]
  subst h6
  by_cases h7 : a7 = b7
  case neg => simp [laws_eqReadMarkS_is h.c_laws_eqReadMarkS a7 b7 hx.1 hy.1, laws_eqWriteS_is h.c_laws_eqWriteS a8 b8 hx.2 hy.2, h7]
  subst h7
  by_cases h8 : a8 = b8
  case neg => simp [laws_eqReadMarkS_is h.c_laws_eqReadMarkS a7 a7 hx.1 hy.1, laws_eqWriteS_is h.c_laws_eqWriteS a8 b8 hx.2 hy.2, h8]
  subst h8
  simp [laws_eqReadMarkS_is h.c_laws_eqReadMarkS a7 a7 hx.1 hy.1, laws_eqWriteS_is h.c_laws_eqWriteS a8 a8 hx.2 hy.2]
end Go.Proofs.YtmdnjglkdddaeaaGreat.Am
namespace Go.Proofs.YtmdnjglkdddaeaaGreat.Am
open Go
variable {E : Env}
set_option linter.unusedVariables false
theorem laws_toTransactionS_l0_is (h : G_laws_toTransactionS E) (l : List Transaction) (hl : l.length ≤ 1048576) (hok : ∀ x ∈ l, Transaction.ok x) : ∀ (r p : List Transaction) (i : Int) (c : List U), l = p ++ r → i = p.length → c.length = r.length → (∀ z ∈ c, z.size = 9) →
    laws_toTransactionS_l0 E (.sl 9 (l.map Transaction.u)) (.int .i64 i) (p.map Transaction.u ++ c) = some (.sl 9 (l.map Transaction.u))
  | [], p, i, c, e, hi, hc, _ => by
    obtain rfl : c = [] := List.length_eq_zero_iff.1 hc
    rw [laws_toTransactionS_l0_eq]
    simp [mid_end e hi]
    simp [e]
  | x :: r, p, i, [], e, hi, hc, _ => by cases hc
  | x :: r, p, i, z :: c, e, hi, hc, hz => by
    obtain ⟨h0, hlt, hx, hw, hn, _⟩ := mid_at e hi (by omega)
    have hox : Transaction.ok x := hok x (by rw [e]; simp)
    have hzs : z.size = 9 := hz z (by simp)
    obtain ⟨hg, hs, hlen⟩ := mid_set Transaction.u p z c hi
    have ih := laws_toTransactionS_l0_is h l hl hok r (p ++ [x]) (i + 1) c (mid_next e) hn (by simpa using hc) (fun y hy => hz y (by simp [hy]))
    simp only [List.map_append, List.map_cons, List.map_nil, List.append_assoc, List.cons_append, List.nil_append] at ih
    rw [laws_toTransactionS_l0_eq]
    simp only [hg, hs, hx, hw, asInt_int, bin_lss, lenOf_sl, List.length_map, Option.bind_some, asBool_bool, hlt, decide_true, if_true, h0, hlen, and_self, bin_add, laws_toTransaction_is h.c_laws_toTransaction x hox, hzs, Transaction.u_var, Transaction.u_size, Transaction.u_storable, Transaction.u_partable]
    simpa using ih
theorem laws_toTransactionS_is (h : G_laws_toTransactionS E) (l : List Transaction) (hl : l.length ≤ 1048576) (hok : ∀ x ∈ l, Transaction.ok x) : E 144 [.sl 9 (l.map Transaction.u)] = some (.sl 9 (l.map Transaction.u)) := by
  have h1 := laws_toTransactionS_l0_is h l hl hok l [] 0 (List.replicate l.length (.agg [.int .i64 0, .int .i64 0, .int .i64 0, .int .i64 0, .int .i64 0, .int .i64 0, .int .i64 0, .nsl 2, .nsl 2])) rfl rfl (by simp) (by simp)
  rw [laws_toTransactionS_E h]
  simp only [lenOf_sl, Option.bind_some, List.length_map]
  rw [if_pos (by refine ⟨by omega, by omega, by omega, rfl⟩)]
  simpa using h1
theorem laws_eqTransactionS_l0_is (h : G_laws_eqTransactionS E) (a b : List Transaction) (ha : a.length ≤ 1048576) (hb : b.length ≤ 1048576) (hao : ∀ x ∈ a, Transaction.ok x) (hbo : ∀ x ∈ b, Transaction.ok x) : ∀ (r s p p2 : List Transaction) (i : Int), a = p ++ r → b = p2 ++ s → i = p.length → i = p2.length → r.length = s.length →
    laws_eqTransactionS_l0 E (.sl 9 (a.map Transaction.u)) (.sl 9 (b.map Transaction.u)) (.int .i64 i) = some (.bool (decide (r = s)))
  | [], [], p, p2, i, e, e2, hi, hi2, _ => by
    rw [laws_eqTransactionS_l0_eq]
    simp [mid_end e hi]
  | [], y :: s, _, _, _, _, _, _, _, hl => by cases hl
  | x :: r, [], _, _, _, _, _, _, _, hl => by cases hl
  | x :: r, y :: s, p, p2, i, e, e2, hi, hi2, hl => by
    obtain ⟨h0, hlt, hx, hw, hn, _⟩ := mid_at e hi (by omega)
    obtain ⟨_, _, hy, _, hn2, _⟩ := mid_at e2 hi2 (by omega)
    have hox : Transaction.ok x := hao x (by rw [e]; simp)
    have hoy : Transaction.ok y := hbo y (by rw [e2]; simp)
    have ih := laws_eqTransactionS_l0_is h a b ha hb hao hbo r s (p ++ [x]) (p2 ++ [y]) (i + 1) (mid_next e) (mid_next e2) hn hn2 (by simpa using hl)
    rw [laws_eqTransactionS_l0_eq]
    by_cases hxy : x = y
    · subst hxy
      simp [hlt, hx, hy, hw, ih, laws_eqTransaction_is h.c_laws_eqTransaction _ _ hox hoy]
    · simp [hlt, hx, hy, hw, ih, laws_eqTransaction_is h.c_laws_eqTransaction _ _ hox hoy, hxy]
theorem laws_eqTransactionS_is (h : G_laws_eqTransactionS E) (a b : List Transaction) (ha : a.length ≤ 1048576) (hb : b.length ≤ 1048576) (hao : ∀ x ∈ a, Transaction.ok x) (hbo : ∀ x ∈ b, Transaction.ok x) : E 176 [.sl 9 (a.map Transaction.u), .sl 9 (b.map Transaction.u)] = some (.bool (decide (a = b))) := by
  rw [laws_eqTransactionS_E h]
  by_cases hl : a.length = b.length
  · simp [hl, laws_eqTransactionS_l0_is h a b ha hb hao hbo a b [] [] 0 rfl rfl rfl rfl hl]
  · have h1 : a ≠ b := fun e => hl (by rw [e])
    have h2 : (a.length : Int) ≠ b.length := by omega
    simp [h1, h2]
theorem laws_szTransactionS_l0_is (h : G_laws_szTransactionS E) (l : List Transaction) (hl : l.length ≤ 1048576) (hf : ∀ x ∈ l, Transaction.fit x) : ∀ (r p : List Transaction) (i left : Int), l = p ++ r → i = p.length → 0 ≤ left → left ≤ 1048576 →
    laws_szTransactionS_l0 E (.sl 9 (l.map Transaction.u)) (.int .i64 left) (.int .i64 i) = some (.int .i64 (szl Transaction.sz r left))
  | [], p, i, left, e, hi, _, _ => by
    rw [laws_szTransactionS_l0_eq]
    simp [mid_end e hi, szl]
  | x :: r, p, i, left, e, hi, h1, h2 => by
    obtain ⟨h0, hlt, hx, hw, hn, _⟩ := mid_at e hi (by omega)
    have hfx : Transaction.fit x := hf x (by rw [e]; simp)
    rw [laws_szTransactionS_l0_eq]
    rcases Transaction.sz_szs x left h1 h2 with h3 | ⟨_, h3, h4⟩
    · simp [hlt, hx, hw, szl, laws_szTransaction_is h.c_laws_szTransaction x hfx left h1 h2, h3]
    · have ih := laws_szTransactionS_l0_is h l hl hf r (p ++ [x]) (i + 1) (Transaction.sz x left) (mid_next e) hn h3 (by omega)
      have h5 : ¬ Transaction.sz x left < 0 := by omega
      simp [hlt, hx, hw, szl, laws_szTransaction_is h.c_laws_szTransaction x hfx left h1 h2, h5, ih]
theorem laws_szTransactionS_is (h : G_laws_szTransactionS E) (l : List Transaction) (hl : l.length ≤ maxLen) (hf : ∀ x ∈ l, Transaction.fit x) (left : Int) (h0 : 0 ≤ left) (h1 : left ≤ 1048576) : E 131 [.sl 9 (l.map Transaction.u), .int .i64 left] = some (.int .i64 (szL Transaction.sz l left)) := by
  rw [laws_szTransactionS_E h]
  unfold maxLen at hl
  have hw : IntKind.i64.wrap (left - (l.length : Int)) = left - l.length := wrap_in (by omega)
  by_cases h2 : left - (l.length : Int) < 0
  · simp [hw, szL, h2]
  · simp [hw, szL, h2, laws_szTransactionS_l0_is h l (by omega) hf l [] 0 (left - l.length) rfl rfl (by omega) (by omega)]
end Go.Proofs.YtmdnjglkdddaeaaGreat.Am
namespace Go.Proofs.YtmdnjglkdddaeaaGreat.Am
open Go
variable {E : Env}
set_option linter.unusedVariables false
theorem laws_toLock_is (h : G_laws_toLock E) (x : Lock) : E 146 [x.u] = some x.u := by
  rw [laws_toLock_E h]
  simp [Lock.u]
theorem laws_toLockS_l0_is (h : G_laws_toLockS E) (l : List Lock) (hl : l.length ≤ 1048576) : ∀ (r p : List Lock) (i : Int) (c : List U), l = p ++ r → i = p.length → c.length = r.length → (∀ z ∈ c, z.size = 2) →
    laws_toLockS_l0 E (.sl 2 (l.map Lock.u)) (.int .i64 i) (p.map Lock.u ++ c) = some (.sl 2 (l.map Lock.u))
  | [], p, i, c, e, hi, hc, _ => by
    obtain rfl : c = [] := List.length_eq_zero_iff.1 hc
    rw [laws_toLockS_l0_eq]
    simp [mid_end e hi]
    simp [e]
  | x :: r, p, i, [], e, hi, hc, _ => by cases hc
  | x :: r, p, i, z :: c, e, hi, hc, hz => by
    obtain ⟨h0, hlt, hx, hw, hn, _⟩ := mid_at e hi (by omega)
    have hzs : z.size = 2 := hz z (by simp)
    obtain ⟨hg, hs, hlen⟩ := mid_set Lock.u p z c hi
    have ih := laws_toLockS_l0_is h l hl r (p ++ [x]) (i + 1) c (mid_next e) hn (by simpa using hc) (fun y hy => hz y (by simp [hy]))
    simp only [List.map_append, List.map_cons, List.map_nil, List.append_assoc, List.cons_append, List.nil_append] at ih
    rw [laws_toLockS_l0_eq]
    simp only [hg, hs, hx, hw, asInt_int, bin_lss, lenOf_sl, List.length_map, Option.bind_some, asBool_bool, hlt, decide_true, if_true, h0, hlen, and_self, bin_add, laws_toLock_is h.c_laws_toLock x, hzs, Lock.u_var, Lock.u_size, Lock.u_storable, Lock.u_partable]
    simpa using ih
theorem laws_toLockS_is (h : G_laws_toLockS E) (l : List Lock) (hl : l.length ≤ 1048576) : E 143 [.sl 2 (l.map Lock.u)] = some (.sl 2 (l.map Lock.u)) := by
  have h1 := laws_toLockS_l0_is h l hl l [] 0 (List.replicate l.length (.agg [.int .i64 0, .int .i64 0])) rfl rfl (by simp) (by simp)
  rw [laws_toLockS_E h]
  simp only [lenOf_sl, Option.bind_some, List.length_map]
  rw [if_pos (by refine ⟨by omega, by omega, by omega, rfl⟩)]
  simpa using h1
theorem laws_eqLock_is (h : G_laws_eqLock E) (x y : Lock) : E 178 [x.u, y.u] = some (.bool (decide (x = y))) := by
  rw [laws_eqLock_E h]
  obtain ⟨a0, a1⟩ := x
  obtain ⟨b0, b1⟩ := y
  simp only [Lock.mk.injEq]
  by_cases h0 : a0 = b0
  case neg => simp [h0]
  subst h0
  by_cases h1 : a1 = b1
  case neg => simp [h1]
  subst h1
  simp []
theorem laws_eqLockS_l0_is (h : G_laws_eqLockS E) (a b : List Lock) (ha : a.length ≤ 1048576) (hb : b.length ≤ 1048576) : ∀ (r s p p2 : List Lock) (i : Int), a = p ++ r → b = p2 ++ s → i = p.length → i = p2.length → r.length = s.length →
    laws_eqLockS_l0 E (.sl 2 (a.map Lock.u)) (.sl 2 (b.map Lock.u)) (.int .i64 i) = some (.bool (decide (r = s)))
  | [], [], p, p2, i, e, e2, hi, hi2, _ => by
    rw [laws_eqLockS_l0_eq]
    simp [mid_end e hi]
  | [], y :: s, _, _, _, _, _, _, _, hl => by cases hl
  | x :: r, [], _, _, _, _, _, _, _, hl => by cases hl
  | x :: r, y :: s, p, p2, i, e, e2, hi, hi2, hl => by
    obtain ⟨h0, hlt, hx, hw, hn, _⟩ := mid_at e hi (by omega)
    obtain ⟨_, _, hy, _, hn2, _⟩ := mid_at e2 hi2 (by omega)
    have ih := laws_eqLockS_l0_is h a b ha hb r s (p ++ [x]) (p2 ++ [y]) (i + 1) (mid_next e) (mid_next e2) hn hn2 (by simpa using hl)
    rw [laws_eqLockS_l0_eq]
    by_cases hxy : x = y
    · subst hxy
      simp [hlt, hx, hy, hw, ih, laws_eqLock_is h.c_laws_eqLock]
    · simp [hlt, hx, hy, hw, ih, laws_eqLock_is h.c_laws_eqLock, hxy]
theorem laws_eqLockS_is (h : G_laws_eqLockS E) (a b : List Lock) (ha : a.length ≤ 1048576) (hb : b.length ≤ 1048576) : E 175 [.sl 2 (a.map Lock.u), .sl 2 (b.map Lock.u)] = some (.bool (decide (a = b))) := by
  rw [laws_eqLockS_E h]
  by_cases hl : a.length = b.length
  · simp [hl, laws_eqLockS_l0_is h a b ha hb a b [] [] 0 rfl rfl rfl rfl hl]
  · have h1 : a ≠ b := fun e => hl (by rw [e])
    have h2 : (a.length : Int) ≠ b.length := by omega
    simp [h1, h2]
theorem laws_szLockS_is (h : G_laws_szLockS E) (l : List Lock) (hl : l.length ≤ maxLen) (left : Int) (h0 : 0 ≤ left) (h1 : left ≤ 1048576) : E 130 [.sl 2 (l.map Lock.u), .int .i64 left] = some (.int .i64 (szc l.length left)) := by
  rw [laws_szLockS_E h]
  unfold maxLen at hl
  have hw : IntKind.i64.wrap (left - (l.length : Int)) = left - l.length := wrap_in (by omega)
  by_cases h2 : left - (l.length : Int) < 0 <;> simp [hw, szc, h2]
end Go.Proofs.YtmdnjglkdddaeaaGreat.Am
namespace Go.Proofs.YtmdnjglkdddaeaaGreat.Am
open Go
variable {E : Env}
set_option linter.unusedVariables false
theorem laws_toWait_is (h : G_laws_toWait E) (x : Wait) : E 147 [x.u] = some x.u := by
  rw [laws_toWait_E h]
  simp [Wait.u]
theorem laws_toWaitS_l0_is (h : G_laws_toWaitS E) (l : List Wait) (hl : l.length ≤ 1048576) : ∀ (r p : List Wait) (i : Int) (c : List U), l = p ++ r → i = p.length → c.length = r.length → (∀ z ∈ c, z.size = 2) →
    laws_toWaitS_l0 E (.sl 2 (l.map Wait.u)) (.int .i64 i) (p.map Wait.u ++ c) = some (.sl 2 (l.map Wait.u))
  | [], p, i, c, e, hi, hc, _ => by
    obtain rfl : c = [] := List.length_eq_zero_iff.1 hc
    rw [laws_toWaitS_l0_eq]
    simp [mid_end e hi]
    simp [e]
  | x :: r, p, i, [], e, hi, hc, _ => by cases hc
  | x :: r, p, i, z :: c, e, hi, hc, hz => by
    obtain ⟨h0, hlt, hx, hw, hn, _⟩ := mid_at e hi (by omega)
    have hzs : z.size = 2 := hz z (by simp)
    obtain ⟨hg, hs, hlen⟩ := mid_set Wait.u p z c hi
    have ih := laws_toWaitS_l0_is h l hl r (p ++ [x]) (i + 1) c (mid_next e) hn (by simpa using hc) (fun y hy => hz y (by simp [hy]))
    simp only [List.map_append, List.map_cons, List.map_nil, List.append_assoc, List.cons_append, List.nil_append] at ih
    rw [laws_toWaitS_l0_eq]
    simp only [hg, hs, hx, hw, asInt_int, bin_lss, lenOf_sl, List.length_map, Option.bind_some, asBool_bool, hlt, decide_true, if_true, h0, hlen, and_self, bin_add, laws_toWait_is h.c_laws_toWait x, hzs, Wait.u_var, Wait.u_size, Wait.u_storable, Wait.u_partable]
    simpa using ih
theorem laws_toWaitS_is (h : G_laws_toWaitS E) (l : List Wait) (hl : l.length ≤ 1048576) : E 142 [.sl 2 (l.map Wait.u)] = some (.sl 2 (l.map Wait.u)) := by
  have h1 := laws_toWaitS_l0_is h l hl l [] 0 (List.replicate l.length (.agg [.int .i64 0, .int .i64 0])) rfl rfl (by simp) (by simp)
  rw [laws_toWaitS_E h]
  simp only [lenOf_sl, Option.bind_some, List.length_map]
  rw [if_pos (by refine ⟨by omega, by omega, by omega, rfl⟩)]
  simpa using h1
theorem laws_eqWait_is (h : G_laws_eqWait E) (x y : Wait) : E 179 [x.u, y.u] = some (.bool (decide (x = y))) := by
  rw [laws_eqWait_E h]
  obtain ⟨a0, a1⟩ := x
  obtain ⟨b0, b1⟩ := y
  simp only [Wait.mk.injEq]
  by_cases h0 : a0 = b0
  case neg => simp [h0]
  subst h0
  by_cases h1 : a1 = b1
  case neg => simp [h1]
  subst h1
  simp []
theorem laws_eqWaitS_l0_is (h : G_laws_eqWaitS E) (a b : List Wait) (ha : a.length ≤ 1048576) (hb : b.length ≤ 1048576) : ∀ (r s p p2 : List Wait) (i : Int), a = p ++ r → b = p2 ++ s → i = p.length → i = p2.length → r.length = s.length →
    laws_eqWaitS_l0 E (.sl 2 (a.map Wait.u)) (.sl 2 (b.map Wait.u)) (.int .i64 i) = some (.bool (decide (r = s)))
  | [], [], p, p2, i, e, e2, hi, hi2, _ => by
    rw [laws_eqWaitS_l0_eq]
    simp [mid_end e hi]
  | [], y :: s, _, _, _, _, _, _, _, hl => by cases hl
  | x :: r, [], _, _, _, _, _, _, _, hl => by cases hl
  | x :: r, y :: s, p, p2, i, e, e2, hi, hi2, hl => by
    obtain ⟨h0, hlt, hx, hw, hn, _⟩ := mid_at e hi (by omega)
    obtain ⟨_, _, hy, _, hn2, _⟩ := mid_at e2 hi2 (by omega)
    have ih := laws_eqWaitS_l0_is h a b ha hb r s (p ++ [x]) (p2 ++ [y]) (i + 1) (mid_next e) (mid_next e2) hn hn2 (by simpa using hl)
    rw [laws_eqWaitS_l0_eq]
    by_cases hxy : x = y
    · subst hxy
      simp [hlt, hx, hy, hw, ih, laws_eqWait_is h.c_laws_eqWait]
    · simp [hlt, hx, hy, hw, ih, laws_eqWait_is h.c_laws_eqWait, hxy]
theorem laws_eqWaitS_is (h : G_laws_eqWaitS E) (a b : List Wait) (ha : a.length ≤ 1048576) (hb : b.length ≤ 1048576) : E 174 [.sl 2 (a.map Wait.u), .sl 2 (b.map Wait.u)] = some (.bool (decide (a = b))) := by
  rw [laws_eqWaitS_E h]
  by_cases hl : a.length = b.length
  · simp [hl, laws_eqWaitS_l0_is h a b ha hb a b [] [] 0 rfl rfl rfl rfl hl]
  · have h1 : a ≠ b := fun e => hl (by rw [e])
    have h2 : (a.length : Int) ≠ b.length := by omega
    simp [h1, h2]
theorem laws_szWaitS_is (h : G_laws_szWaitS E) (l : List Wait) (hl : l.length ≤ maxLen) (left : Int) (h0 : 0 ≤ left) (h1 : left ≤ 1048576) : E 129 [.sl 2 (l.map Wait.u), .int .i64 left] = some (.int .i64 (szc l.length left)) := by
  rw [laws_szWaitS_E h]
  unfold maxLen at hl
  have hw : IntKind.i64.wrap (left - (l.length : Int)) = left - l.length := wrap_in (by omega)
  by_cases h2 : left - (l.length : Int) < 0 <;> simp [hw, szc, h2]
end Go.Proofs.YtmdnjglkdddaeaaGreat.Am
namespace Go.Proofs.YtmdnjglkdddaeaaGreat.Am
open Go
variable {E : Env}
set_option linter.unusedVariables false
theorem laws_toEngine_is (h : G_laws_toEngine E) (e : Engine) (ho : e.ok) : E 124 [e.u] = some e.u := by
  obtain ⟨o1, o2, o3, o4, o5⟩ := ho
  rw [laws_toEngine_E h]
  have a1 := laws_toStore_is h.c_laws_toStore e.store o1
  have a2 := laws_toTransactionS_is h.c_laws_toTransactionS e.transactions o2 o3
  have a3 := laws_toLockS_is h.c_laws_toLockS e.locks o4
  have a4 := laws_toWaitS_is h.c_laws_toWaitS e.waits o5
  simp [a1, a2, a3, a4]
  rfl
theorem laws_eqEngine_is (h : G_laws_eqEngine E) (x y : Engine) (hx : x.ok) (hy : y.ok) : E 125 [x.u, y.u] = some (.bool (decide (x = y))) := by
  obtain ⟨o1, o2, o3, o4, o5⟩ := hx
  obtain ⟨p1, p2, p3, p4, p5⟩ := hy
  rw [laws_eqEngine_E h]
  have a1 := laws_eqStore_is h.c_laws_eqStore x.store y.store o1 p1
  have a2 := laws_eqTransactionS_is h.c_laws_eqTransactionS x.transactions y.transactions o2 p2 o3 p3
  have a3 := laws_eqLockS_is h.c_laws_eqLockS x.locks y.locks o4 p4
  have a4 := laws_eqWaitS_is h.c_laws_eqWaitS x.waits y.waits o5 p5
  simp only [Engine.eq_iff]
  by_cases h0 : x.certify = y.certify
  case neg => simp [h0]
  by_cases h1 : x.store = y.store
  case neg => simp [h0, a1, h1]
  rw [h1] at a1
  by_cases h2 : x.transactions = y.transactions
  case neg => simp [h0, a1, h1, a2, h2]
  rw [h2] at a2
  by_cases h3 : x.locks = y.locks
  case neg => simp [h0, a1, h1, a2, h2, a3, h3]
  rw [h3] at a3
  by_cases h4 : x.waits = y.waits
  case neg => simp [h0, a1, h1, a2, h2, a3, h3, a4, h4]
  rw [h4] at a4
  by_cases h5 : x.stamp = y.stamp <;> simp [h0, a1, h1, a2, h2, a3, h3, a4, h4, h5]
theorem laws_szEngine_is (h : G_laws_szEngine E) (e : Engine) (hf : e.fit) (left : Int) (h0 : 0 ≤ left) (h1 : left ≤ 1048576) : E 128 [e.u, .int .i64 left] = some (.int .i64 (e.sz left)) := by
  obtain ⟨f1, f2, f3, f4, f5⟩ := hf
  rw [laws_szEngine_E h]
  have a1 := laws_szStore_is h.c_laws_szStore e.store f1 left h0 h1
  rcases Store.sz_szs e.store left h0 h1 with n1 | ⟨_, n1, n2⟩
  · simp [a1, n1, Engine.sz]
  have n3 : ¬ e.store.sz left < 0 := by omega
  have a2 := laws_szTransactionS_is h.c_laws_szTransactionS e.transactions f2 f3 _ n1 (by omega)
  rcases szL_szs Transaction.sz_szs e.transactions _ n1 (by omega) with m1 | ⟨_, m1, m2⟩
  · simp [a1, n3, a2, m1, Engine.sz]
  have m3 : ¬ szL Transaction.sz e.transactions (e.store.sz left) < 0 := by omega
  have a3 := laws_szLockS_is h.c_laws_szLockS e.locks f4 _ m1 (by omega)
  rcases szc_szs e.locks.length _ m1 (by omega) with k1 | ⟨_, k1, k2⟩
  · simp [a1, n3, a2, m3, a3, k1, Engine.sz]
  have k3 : ¬ szc e.locks.length (szL Transaction.sz e.transactions (e.store.sz left)) < 0 := by omega
  have a4 := laws_szWaitS_is h.c_laws_szWaitS e.waits f5 _ k1 (by omega)
  by_cases j1 : szc e.waits.length (szc e.locks.length (szL Transaction.sz e.transactions (e.store.sz left))) < 0
  · have j2 := szc_neg j1
    simp [a1, n3, a2, m3, a3, k3, a4, j2, Engine.sz]
  · simp [a1, n3, a2, m3, a3, k3, a4, j1, Engine.sz]
end Go.Proofs.YtmdnjglkdddaeaaGreat.Am
namespace Go.Proofs.YtmdnjglkdddaeaaGreat.Am
open Go
abbrev shI : Sh := .int .i64
theorem fits_int {u : U} (h : Fits shI u) : ∃ n, u = .int .i64 n ∧ -9223372036854775808 ≤ n ∧ n ≤ 9223372036854775807 := by
  cases u <;> first | exact h.elim | skip
  rename_i k n
  obtain ⟨rfl, h1, h2⟩ := h
  exact ⟨n, rfl, h1, h2⟩
theorem fits_bool {u : U} (h : Fits .bool u) : ∃ b, u = .bool b := by
  cases u <;> first | exact h.elim | exact ⟨_, rfl⟩
theorem fits_agg {ss : List Sh} {u : U} (h : Fits (.agg ss) u) : ∃ us, u = .agg us ∧ Fits.fits ss us := by
  cases u <;> first | exact h.elim | exact ⟨_, rfl, h⟩
theorem fits_cons {s : Sh} {ss : List Sh} {us : List U} (h : Fits.fits (s :: ss) us) : ∃ u us', us = u :: us' ∧ Fits s u ∧ Fits.fits ss us' := by
  cases us with
  | nil => exact h.elim
  | cons u us => exact ⟨u, us, rfl, h.1, h.2⟩
theorem fits_nil {us : List U} (h : Fits.fits [] us) : us = [] := by
  cases us with
  | nil => rfl
  | cons u us => exact h.elim
theorem fits_map {α : Type} {s : Sh} {f : α → U} {Q : α → Prop} (hs : ∀ u, Fits s u → ∃ x, u = f x ∧ Q x) : ∀ us : List U, (∀ u ∈ us, Fits s u) → ∃ l : List α, us = l.map f ∧ ∀ x ∈ l, Q x
  | [], _ => ⟨[], rfl, by simp⟩
  | u :: us, h => by
    obtain ⟨x, rfl, hx⟩ := hs u (h u (by simp))
    obtain ⟨l, rfl, hl⟩ := fits_map hs us (fun v hv => h v (by simp [hv]))
    exact ⟨x :: l, rfl, by simpa using ⟨hx, hl⟩⟩
theorem fits_sl {α : Type} {k : Nat} {s : Sh} {f : α → U} {Q : α → Prop} (hs : ∀ u, Fits s u → ∃ x, u = f x ∧ Q x) {u : U} (h : Fits (.sl k s) u) : ∃ l : List α, u = .sl k (l.map f) ∧ l.length ≤ maxLen ∧ ∀ x ∈ l, Q x := by
  cases u <;> first | exact h.elim | skip
  obtain ⟨rfl, h1, h2⟩ := h
  obtain ⟨l, rfl, hl⟩ := fits_map hs _ h2
  exact ⟨l, rfl, by simpa using h1, hl⟩
abbrev shReadMark : Sh := .agg [shI, shI]
theorem fits_ReadMark (u : U) (h : Fits shReadMark u) : ∃ x : ReadMark, u = x.u ∧ True := by
  obtain ⟨us0, rfl, hs0⟩ := fits_agg h
  obtain ⟨u0, us1, rfl, h0, hs1⟩ := fits_cons hs0
  obtain ⟨a0, rfl, _⟩ := fits_int h0
  obtain ⟨u1, us2, rfl, h1, hs2⟩ := fits_cons hs1
  obtain ⟨a1, rfl, _⟩ := fits_int h1
  obtain rfl := fits_nil hs2
  exact ⟨⟨a0, a1⟩, rfl, trivial⟩
abbrev shWrite : Sh := .agg [shI, shI]
theorem fits_Write (u : U) (h : Fits shWrite u) : ∃ x : Write, u = x.u ∧ True := by
  obtain ⟨us0, rfl, hs0⟩ := fits_agg h
  obtain ⟨u0, us1, rfl, h0, hs1⟩ := fits_cons hs0
  obtain ⟨a0, rfl, _⟩ := fits_int h0
  obtain ⟨u1, us2, rfl, h1, hs2⟩ := fits_cons hs1
  obtain ⟨a1, rfl, _⟩ := fits_int h1
  obtain rfl := fits_nil hs2
  exact ⟨⟨a0, a1⟩, rfl, trivial⟩
abbrev shLock : Sh := .agg [shI, shI]
theorem fits_Lock (u : U) (h : Fits shLock u) : ∃ x : Lock, u = x.u ∧ True := by
  obtain ⟨us0, rfl, hs0⟩ := fits_agg h
  obtain ⟨u0, us1, rfl, h0, hs1⟩ := fits_cons hs0
  obtain ⟨a0, rfl, _⟩ := fits_int h0
  obtain ⟨u1, us2, rfl, h1, hs2⟩ := fits_cons hs1
  obtain ⟨a1, rfl, _⟩ := fits_int h1
  obtain rfl := fits_nil hs2
  exact ⟨⟨a0, a1⟩, rfl, trivial⟩
abbrev shWait : Sh := .agg [shI, shI]
theorem fits_Wait (u : U) (h : Fits shWait u) : ∃ x : Wait, u = x.u ∧ True := by
  obtain ⟨us0, rfl, hs0⟩ := fits_agg h
  obtain ⟨u0, us1, rfl, h0, hs1⟩ := fits_cons hs0
  obtain ⟨a0, rfl, _⟩ := fits_int h0
  obtain ⟨u1, us2, rfl, h1, hs2⟩ := fits_cons hs1
  obtain ⟨a1, rfl, _⟩ := fits_int h1
  obtain rfl := fits_nil hs2
  exact ⟨⟨a0, a1⟩, rfl, trivial⟩
abbrev shVersion : Sh := .agg [shI, shI, shI, shI, shI]
theorem fits_Version (u : U) (h : Fits shVersion u) : ∃ x : Version, u = x.u ∧ True := by
  obtain ⟨us0, rfl, hs0⟩ := fits_agg h
  obtain ⟨u0, us1, rfl, h0, hs1⟩ := fits_cons hs0
  obtain ⟨a0, rfl, _⟩ := fits_int h0
  obtain ⟨u1, us2, rfl, h1, hs2⟩ := fits_cons hs1
  obtain ⟨a1, rfl, _⟩ := fits_int h1
  obtain ⟨u2, us3, rfl, h2, hs3⟩ := fits_cons hs2
  obtain ⟨a2, rfl, _⟩ := fits_int h2
  obtain ⟨u3, us4, rfl, h3, hs4⟩ := fits_cons hs3
  obtain ⟨a3, rfl, _⟩ := fits_int h3
  obtain ⟨u4, us5, rfl, h4, hs5⟩ := fits_cons hs4
  obtain ⟨a4, rfl, _⟩ := fits_int h4
  obtain rfl := fits_nil hs5
  exact ⟨⟨a0, a1, a2, a3, a4⟩, rfl, trivial⟩
abbrev shTransaction : Sh := .agg [shI, shI, shI, shI, shI, shI, shI, .sl 2 shReadMark, .sl 2 shWrite]
theorem fits_Transaction (u : U) (h : Fits shTransaction u) : ∃ x : Transaction, u = x.u ∧ x.fit := by
  obtain ⟨us0, rfl, hs0⟩ := fits_agg h
  obtain ⟨u0, us1, rfl, h0, hs1⟩ := fits_cons hs0
  obtain ⟨a0, rfl, _⟩ := fits_int h0
  obtain ⟨u1, us2, rfl, h1, hs2⟩ := fits_cons hs1
  obtain ⟨a1, rfl, _⟩ := fits_int h1
  obtain ⟨u2, us3, rfl, h2, hs3⟩ := fits_cons hs2
  obtain ⟨a2, rfl, _⟩ := fits_int h2
  obtain ⟨u3, us4, rfl, h3, hs4⟩ := fits_cons hs3
  obtain ⟨a3, rfl, _⟩ := fits_int h3
  obtain ⟨u4, us5, rfl, h4, hs5⟩ := fits_cons hs4
  obtain ⟨a4, rfl, _⟩ := fits_int h4
  obtain ⟨u5, us6, rfl, h5, hs6⟩ := fits_cons hs5
  obtain ⟨a5, rfl, _⟩ := fits_int h5
  obtain ⟨u6, us7, rfl, h6, hs7⟩ := fits_cons hs6
  obtain ⟨a6, rfl, _⟩ := fits_int h6
  obtain ⟨u7, us8, rfl, h7, hs8⟩ := fits_cons hs7
  obtain ⟨a7, rfl, l7, _⟩ := fits_sl fits_ReadMark h7
  obtain ⟨u8, us9, rfl, h8, hs9⟩ := fits_cons hs8
  obtain ⟨a8, rfl, l8, _⟩ := fits_sl fits_Write h8
  obtain rfl := fits_nil hs9
  exact ⟨⟨a0, a1, a2, a3, a4, a5, a6, a7, a8⟩, rfl, ⟨l7, l8⟩⟩
abbrev shStore : Sh := .agg [.sl 1 (.sl 5 shVersion)]
theorem fits_chain (u : U) (h : Fits (.sl 5 shVersion) u) : ∃ l : List Version, u = chainU l ∧ chainFit l := by
  obtain ⟨l, h1, h2, _⟩ := fits_sl fits_Version h
  exact ⟨l, h1, h2⟩
theorem fits_Store (u : U) (h : Fits shStore u) : ∃ s : Store, u = s.u ∧ s.fit := by
  obtain ⟨us0, rfl, hs0⟩ := fits_agg h
  obtain ⟨u0, us1, rfl, h0, hs1⟩ := fits_cons hs0
  obtain ⟨l, rfl, h1, h2⟩ := fits_sl fits_chain h0
  obtain rfl := fits_nil hs1
  exact ⟨⟨l⟩, rfl, h1, h2⟩
abbrev shEngine : Sh := .agg [.bool, shStore, .sl 9 shTransaction, .sl 2 shLock, .sl 2 shWait, shI]
theorem fits_Engine (u : U) (h : Fits shEngine u) : ∃ e : Engine, u = e.u ∧ e.fit := by
  obtain ⟨us0, rfl, hs0⟩ := fits_agg h
  obtain ⟨u0, us1, rfl, h0, hs1⟩ := fits_cons hs0
  obtain ⟨b, rfl⟩ := fits_bool h0
  obtain ⟨u1, us2, rfl, h1, hs2⟩ := fits_cons hs1
  obtain ⟨s, rfl, f1⟩ := fits_Store _ h1
  obtain ⟨u2, us3, rfl, h2, hs3⟩ := fits_cons hs2
  obtain ⟨ts, rfl, f2, f3⟩ := fits_sl fits_Transaction h2
  obtain ⟨u3, us4, rfl, h3, hs4⟩ := fits_cons hs3
  obtain ⟨ls, rfl, f4, _⟩ := fits_sl fits_Lock h3
  obtain ⟨u4, us5, rfl, h4, hs5⟩ := fits_cons hs4
  obtain ⟨ws, rfl, f5, _⟩ := fits_sl fits_Wait h4
  obtain ⟨u5, us6, rfl, h5, hs6⟩ := fits_cons hs5
  obtain ⟨n, rfl, _⟩ := fits_int h5
  obtain rfl := fits_nil hs6
  exact ⟨⟨b, s, ts, ls, ws, n⟩, rfl, f1, f2, f3, f4, f5⟩
end Go.Proofs.YtmdnjglkdddaeaaGreat.Am
namespace Go.Proofs.YtmdnjglkdddaeaaGreat.Am
open Go
variable {E : Env}
theorem law_ReadSafe (h : G_laws_FnExactReadSafe E) (us : List U) (hus : Fits.fits [shEngine, shI] us) : E 201 us = some (.bool true) := by
  obtain ⟨u0, us1, rfl, h0, hus1⟩ := fits_cons hus
  obtain ⟨u1, us2, rfl, h1, hus2⟩ := fits_cons hus1
  obtain rfl := fits_nil hus2
  obtain ⟨n, rfl, hn⟩ := fits_int h1
  obtain ⟨x, rfl, hx⟩ := fits_Engine _ h0
  rw [laws_FnExactReadSafe_E h]
  have s1 := laws_szEngine_is h.c_laws_szEngine x hx 1048576 (by omega) (by omega)
  rcases Engine.sz_szs x 1048576 (by omega) (by omega) with n1 | ⟨ox, n1, n2⟩
  · simp [s1, n1]
  have n3 : ¬ x.sz 1048576 < 0 := by omega
  generalize hr : readSafe x n = q
  obtain ⟨q1, q2⟩ := q
  have g1 := spec_ReadSafe_is h.c_spec_ReadSafe x ox n
  have g2 := impl_ReadSafe_is h.c_impl_ReadSafe x ox n
  rw [hr] at g1 g2
  cases q2 <;> simp [s1, n3, laws_toEngine_is h.c_laws_toEngine _ ox, g1, g2, laws_eqEngine_is h.c_laws_eqEngine x x ox ox]
end Go.Proofs.YtmdnjglkdddaeaaGreat.Am
