import Derived.Test.YtlgblpngiamhaaaGreatAmX
import Derived.Test.YtlgblpngiamhaaaGreatAmEd
import Derived.Test.YtlgblpngiamhaaaGreatFindAnomalyF0
import Derived.Test.YtlgblpngiamhaaaGreatAmSo
import Derived.Test.YtlgblpngiamhaaaGreatFindAnomalyF1
namespace Go.Proofs.YtlgblpngiamhaaaGreat.Am
open Go
variable {α : Type}
def intU (n : Int) : U := .int .i64 n
@[simp] theorem Qdz (n : Int) : (intU n).size = 1 := rfl
@[simp] theorem Qs (n : Int) (K : U → Option α) : U.asVar false 1 (intU n) K = K (.int .i64 n) := rfl
@[simp] theorem Qafz (n : Int) : storable (.val (intU n)) = true := rfl
@[simp] theorem Qafj (n : Int) : partable (.val (intU n)) = true := rfl
abbrev intsU (l : List Int) : U := .sl 1 (l.map intU)
theorem Edge.eq_iff (x y : Edge) : x = y ↔ x.frm = y.frm ∧ x.to = y.to ∧ x.kind = y.kind ∧ x.key = y.key := by cases x; cases y; simp only [Edge.mk.injEq]
@[simp] theorem Edge.u_size (e : Edge) : e.u.size = 4 := rfl
@[simp] theorem Edge.u_var (e : Edge) (K : U → Option α) : U.asVar true 4 e.u K = K e.u := rfl
@[simp] theorem Edge.u_storable (e : Edge) : storable (.val e.u) = true := rfl
@[simp] theorem Edge.u_partable (e : Edge) : partable (.val e.u) = true := rfl
@[simp] theorem Edge.u_noTup (e : Edge) (K : U → Option α) : U.noTup e.u K = K e.u := rfl
@[simp] theorem Edge.u_agg (e : Edge) (K : List U → Option α) : U.asAgg e.u K = K [.int .i64 e.frm, .int .i64 e.to, .int .i64 e.kind, .int .i64 e.key] := rfl
@[simp] theorem Edge.u_at0 (e : Edge) (K : U → Option α) : U.fieldAt 0 0 e.u K = K (.int .i64 e.frm) := rfl
@[simp] theorem Edge.u_at1 (e : Edge) (K : U → Option α) : U.fieldAt 1 1 e.u K = K (.int .i64 e.to) := rfl
@[simp] theorem Edge.u_at2 (e : Edge) (K : U → Option α) : U.fieldAt 2 2 e.u K = K (.int .i64 e.kind) := rfl
@[simp] theorem Edge.u_at3 (e : Edge) (K : U → Option α) : U.fieldAt 3 3 e.u K = K (.int .i64 e.key) := rfl
@[simp] theorem Edge.u_flat (e : Edge) : e.u.flat = true := rfl
@[simp] theorem Edge.u_asFlat (e : Edge) (K : U → Option α) : U.asFlat e.u K = K e.u := rfl
@[simp] theorem Edge.u_eqv (x y : Edge) : U.eqv 6 x.u y.u = some (decide (x = y)) := by
 obtain ⟨a0, a1, a2, a3⟩ := x
 obtain ⟨b0, b1, b2, b3⟩ := y
 simp only [Edge.mk.injEq]
 show (if 4 = 4 then eqInts _ _ else none) = _
 simp only [if_true, Qb7, Qb8, Option.map_some, Bool.decide_and, Bool.and_true]
 rfl
structure ReadMark where
 key : Int
 created : Int
 deriving DecidableEq
theorem ReadMark.eq_iff (x y : ReadMark) : x = y ↔ x.key = y.key ∧ x.created = y.created := by cases x; cases y; simp only [ReadMark.mk.injEq]
def ReadMark.u (e : ReadMark) : U := .agg [.int .i64 e.key, .int .i64 e.created]
@[simp] theorem ReadMark.u_size (e : ReadMark) : e.u.size = 2 := rfl
@[simp] theorem ReadMark.u_var (e : ReadMark) (K : U → Option α) : U.asVar true 2 e.u K = K e.u := rfl
@[simp] theorem ReadMark.u_storable (e : ReadMark) : storable (.val e.u) = true := rfl
@[simp] theorem ReadMark.u_partable (e : ReadMark) : partable (.val e.u) = true := rfl
@[simp] theorem ReadMark.u_noTup (e : ReadMark) (K : U → Option α) : U.noTup e.u K = K e.u := rfl
@[simp] theorem ReadMark.u_agg (e : ReadMark) (K : List U → Option α) : U.asAgg e.u K = K [.int .i64 e.key, .int .i64 e.created] := rfl
@[simp] theorem ReadMark.u_at0 (e : ReadMark) (K : U → Option α) : U.fieldAt 0 0 e.u K = K (.int .i64 e.key) := rfl
@[simp] theorem ReadMark.u_at1 (e : ReadMark) (K : U → Option α) : U.fieldAt 1 1 e.u K = K (.int .i64 e.created) := rfl
@[simp] theorem ReadMark.u_flat (e : ReadMark) : e.u.flat = true := rfl
@[simp] theorem ReadMark.u_asFlat (e : ReadMark) (K : U → Option α) : U.asFlat e.u K = K e.u := rfl
@[simp] theorem ReadMark.u_eqv (x y : ReadMark) : U.eqv 4 x.u y.u = some (decide (x = y)) := by
 obtain ⟨a0, a1⟩ := x
 obtain ⟨b0, b1⟩ := y
 simp only [ReadMark.mk.injEq]
 show (if 2 = 2 then eqInts _ _ else none) = _
 simp only [if_true, Qb7, Qb8, Option.map_some, Bool.decide_and, Bool.and_true]
 rfl
structure Write where
 key : Int
 value : Int
 deriving DecidableEq
theorem Write.eq_iff (x y : Write) : x = y ↔ x.key = y.key ∧ x.value = y.value := by cases x; cases y; simp only [Write.mk.injEq]
def Write.u (e : Write) : U := .agg [.int .i64 e.key, .int .i64 e.value]
@[simp] theorem Write.u_size (e : Write) : e.u.size = 2 := rfl
@[simp] theorem Write.u_var (e : Write) (K : U → Option α) : U.asVar true 2 e.u K = K e.u := rfl
@[simp] theorem Write.u_storable (e : Write) : storable (.val e.u) = true := rfl
@[simp] theorem Write.u_partable (e : Write) : partable (.val e.u) = true := rfl
@[simp] theorem Write.u_noTup (e : Write) (K : U → Option α) : U.noTup e.u K = K e.u := rfl
@[simp] theorem Write.u_agg (e : Write) (K : List U → Option α) : U.asAgg e.u K = K [.int .i64 e.key, .int .i64 e.value] := rfl
@[simp] theorem Write.u_at0 (e : Write) (K : U → Option α) : U.fieldAt 0 0 e.u K = K (.int .i64 e.key) := rfl
@[simp] theorem Write.u_at1 (e : Write) (K : U → Option α) : U.fieldAt 1 1 e.u K = K (.int .i64 e.value) := rfl
@[simp] theorem Write.u_flat (e : Write) : e.u.flat = true := rfl
@[simp] theorem Write.u_asFlat (e : Write) (K : U → Option α) : U.asFlat e.u K = K e.u := rfl
@[simp] theorem Write.u_eqv (x y : Write) : U.eqv 4 x.u y.u = some (decide (x = y)) := by
 obtain ⟨a0, a1⟩ := x
 obtain ⟨b0, b1⟩ := y
 simp only [Write.mk.injEq]
 show (if 2 = 2 then eqInts _ _ else none) = _
 simp only [if_true, Qb7, Qb8, Option.map_some, Bool.decide_and, Bool.and_true]
 rfl
structure Lock where
 key : Int
 owner : Int
 deriving DecidableEq
theorem Lock.eq_iff (x y : Lock) : x = y ↔ x.key = y.key ∧ x.owner = y.owner := by cases x; cases y; simp only [Lock.mk.injEq]
def Lock.u (e : Lock) : U := .agg [.int .i64 e.key, .int .i64 e.owner]
@[simp] theorem Lock.u_size (e : Lock) : e.u.size = 2 := rfl
@[simp] theorem Lock.u_var (e : Lock) (K : U → Option α) : U.asVar true 2 e.u K = K e.u := rfl
@[simp] theorem Lock.u_storable (e : Lock) : storable (.val e.u) = true := rfl
@[simp] theorem Lock.u_partable (e : Lock) : partable (.val e.u) = true := rfl
@[simp] theorem Lock.u_noTup (e : Lock) (K : U → Option α) : U.noTup e.u K = K e.u := rfl
@[simp] theorem Lock.u_agg (e : Lock) (K : List U → Option α) : U.asAgg e.u K = K [.int .i64 e.key, .int .i64 e.owner] := rfl
@[simp] theorem Lock.u_at0 (e : Lock) (K : U → Option α) : U.fieldAt 0 0 e.u K = K (.int .i64 e.key) := rfl
@[simp] theorem Lock.u_at1 (e : Lock) (K : U → Option α) : U.fieldAt 1 1 e.u K = K (.int .i64 e.owner) := rfl
@[simp] theorem Lock.u_flat (e : Lock) : e.u.flat = true := rfl
@[simp] theorem Lock.u_asFlat (e : Lock) (K : U → Option α) : U.asFlat e.u K = K e.u := rfl
@[simp] theorem Lock.u_eqv (x y : Lock) : U.eqv 4 x.u y.u = some (decide (x = y)) := by
 obtain ⟨a0, a1⟩ := x
 obtain ⟨b0, b1⟩ := y
 simp only [Lock.mk.injEq]
 show (if 2 = 2 then eqInts _ _ else none) = _
 simp only [if_true, Qb7, Qb8, Option.map_some, Bool.decide_and, Bool.and_true]
 rfl
structure Wait where
 id : Int
 for_ : Int
 deriving DecidableEq
theorem Wait.eq_iff (x y : Wait) : x = y ↔ x.id = y.id ∧ x.for_ = y.for_ := by cases x; cases y; simp only [Wait.mk.injEq]
def Wait.u (e : Wait) : U := .agg [.int .i64 e.id, .int .i64 e.for_]
@[simp] theorem Wait.u_size (e : Wait) : e.u.size = 2 := rfl
@[simp] theorem Wait.u_var (e : Wait) (K : U → Option α) : U.asVar true 2 e.u K = K e.u := rfl
@[simp] theorem Wait.u_storable (e : Wait) : storable (.val e.u) = true := rfl
@[simp] theorem Wait.u_partable (e : Wait) : partable (.val e.u) = true := rfl
@[simp] theorem Wait.u_noTup (e : Wait) (K : U → Option α) : U.noTup e.u K = K e.u := rfl
@[simp] theorem Wait.u_agg (e : Wait) (K : List U → Option α) : U.asAgg e.u K = K [.int .i64 e.id, .int .i64 e.for_] := rfl
@[simp] theorem Wait.u_at0 (e : Wait) (K : U → Option α) : U.fieldAt 0 0 e.u K = K (.int .i64 e.id) := rfl
@[simp] theorem Wait.u_at1 (e : Wait) (K : U → Option α) : U.fieldAt 1 1 e.u K = K (.int .i64 e.for_) := rfl
@[simp] theorem Wait.u_flat (e : Wait) : e.u.flat = true := rfl
@[simp] theorem Wait.u_asFlat (e : Wait) (K : U → Option α) : U.asFlat e.u K = K e.u := rfl
@[simp] theorem Wait.u_eqv (x y : Wait) : U.eqv 4 x.u y.u = some (decide (x = y)) := by
 obtain ⟨a0, a1⟩ := x
 obtain ⟨b0, b1⟩ := y
 simp only [Wait.mk.injEq]
 show (if 2 = 2 then eqInts _ _ else none) = _
 simp only [if_true, Qb7, Qb8, Option.map_some, Bool.decide_and, Bool.and_true]
 rfl
structure Version where
 writer : Int
 value : Int
 created : Int
 reader : Int
 successor : Int
 deriving DecidableEq
theorem Version.eq_iff (x y : Version) : x = y ↔ x.writer = y.writer ∧ x.value = y.value ∧ x.created = y.created ∧ x.reader = y.reader ∧ x.successor = y.successor := by cases x; cases y; simp only [Version.mk.injEq]
def Version.u (e : Version) : U := .agg [.int .i64 e.writer, .int .i64 e.value, .int .i64 e.created, .int .i64 e.reader, .int .i64 e.successor]
@[simp] theorem Version.u_size (e : Version) : e.u.size = 5 := rfl
@[simp] theorem Version.u_var (e : Version) (K : U → Option α) : U.asVar true 5 e.u K = K e.u := rfl
@[simp] theorem Version.u_storable (e : Version) : storable (.val e.u) = true := rfl
@[simp] theorem Version.u_partable (e : Version) : partable (.val e.u) = true := rfl
@[simp] theorem Version.u_noTup (e : Version) (K : U → Option α) : U.noTup e.u K = K e.u := rfl
@[simp] theorem Version.u_agg (e : Version) (K : List U → Option α) : U.asAgg e.u K = K [.int .i64 e.writer, .int .i64 e.value, .int .i64 e.created, .int .i64 e.reader, .int .i64 e.successor] := rfl
@[simp] theorem Version.u_at0 (e : Version) (K : U → Option α) : U.fieldAt 0 0 e.u K = K (.int .i64 e.writer) := rfl
@[simp] theorem Version.u_at1 (e : Version) (K : U → Option α) : U.fieldAt 1 1 e.u K = K (.int .i64 e.value) := rfl
@[simp] theorem Version.u_at2 (e : Version) (K : U → Option α) : U.fieldAt 2 2 e.u K = K (.int .i64 e.created) := rfl
@[simp] theorem Version.u_at3 (e : Version) (K : U → Option α) : U.fieldAt 3 3 e.u K = K (.int .i64 e.reader) := rfl
@[simp] theorem Version.u_at4 (e : Version) (K : U → Option α) : U.fieldAt 4 4 e.u K = K (.int .i64 e.successor) := rfl
@[simp] theorem Version.u_flat (e : Version) : e.u.flat = true := rfl
@[simp] theorem Version.u_asFlat (e : Version) (K : U → Option α) : U.asFlat e.u K = K e.u := rfl
@[simp] theorem Version.u_eqv (x y : Version) : U.eqv 7 x.u y.u = some (decide (x = y)) := by
 obtain ⟨a0, a1, a2, a3, a4⟩ := x
 obtain ⟨b0, b1, b2, b3, b4⟩ := y
 simp only [Version.mk.injEq]
 show (if 5 = 5 then eqInts _ _ else none) = _
 simp only [if_true, Qb7, Qb8, Option.map_some, Bool.decide_and, Bool.and_true]
 rfl
structure Entry where
 id : Int
 stamp : Int
 reads : List ReadMark
 writes : List Write
 deriving DecidableEq
theorem Entry.eq_iff (x y : Entry) : x = y ↔ x.id = y.id ∧ x.stamp = y.stamp ∧ x.reads = y.reads ∧ x.writes = y.writes := by cases x; cases y; simp only [Entry.mk.injEq]
def Entry.u (e : Entry) : U := .agg [.int .i64 e.id, .int .i64 e.stamp, .sl 2 (e.reads.map ReadMark.u), .sl 2 (e.writes.map Write.u)]
@[simp] theorem Entry.u_size (e : Entry) : e.u.size = 4 := rfl
@[simp] theorem Entry.u_var (e : Entry) (K : U → Option α) : U.asVar true 4 e.u K = K e.u := rfl
@[simp] theorem Entry.u_storable (e : Entry) : storable (.val e.u) = true := rfl
@[simp] theorem Entry.u_partable (e : Entry) : partable (.val e.u) = true := rfl
@[simp] theorem Entry.u_noTup (e : Entry) (K : U → Option α) : U.noTup e.u K = K e.u := rfl
@[simp] theorem Entry.u_agg (e : Entry) (K : List U → Option α) : U.asAgg e.u K = K [.int .i64 e.id, .int .i64 e.stamp, .sl 2 (e.reads.map ReadMark.u), .sl 2 (e.writes.map Write.u)] := rfl
@[simp] theorem Entry.u_at0 (e : Entry) (K : U → Option α) : U.fieldAt 0 0 e.u K = K (.int .i64 e.id) := rfl
@[simp] theorem Entry.u_at1 (e : Entry) (K : U → Option α) : U.fieldAt 1 1 e.u K = K (.int .i64 e.stamp) := rfl
@[simp] theorem Entry.u_at2 (e : Entry) (K : U → Option α) : U.fieldAt 2 2 e.u K = K (.sl 2 (e.reads.map ReadMark.u)) := rfl
@[simp] theorem Entry.u_at3 (e : Entry) (K : U → Option α) : U.fieldAt 3 3 e.u K = K (.sl 2 (e.writes.map Write.u)) := rfl
structure LogRecord where
 stamp : Int
 id : Int
 high : Int
 safe : Int
 reads : List ReadMark
 writes : List Write
 deriving DecidableEq
theorem LogRecord.eq_iff (x y : LogRecord) : x = y ↔ x.stamp = y.stamp ∧ x.id = y.id ∧ x.high = y.high ∧ x.safe = y.safe ∧ x.reads = y.reads ∧ x.writes = y.writes := by cases x; cases y; simp only [LogRecord.mk.injEq]
def LogRecord.u (e : LogRecord) : U := .agg [.int .i64 e.stamp, .int .i64 e.id, .int .i64 e.high, .int .i64 e.safe, .sl 2 (e.reads.map ReadMark.u), .sl 2 (e.writes.map Write.u)]
@[simp] theorem LogRecord.u_size (e : LogRecord) : e.u.size = 6 := rfl
@[simp] theorem LogRecord.u_var (e : LogRecord) (K : U → Option α) : U.asVar true 6 e.u K = K e.u := rfl
@[simp] theorem LogRecord.u_storable (e : LogRecord) : storable (.val e.u) = true := rfl
@[simp] theorem LogRecord.u_partable (e : LogRecord) : partable (.val e.u) = true := rfl
@[simp] theorem LogRecord.u_noTup (e : LogRecord) (K : U → Option α) : U.noTup e.u K = K e.u := rfl
@[simp] theorem LogRecord.u_agg (e : LogRecord) (K : List U → Option α) : U.asAgg e.u K = K [.int .i64 e.stamp, .int .i64 e.id, .int .i64 e.high, .int .i64 e.safe, .sl 2 (e.reads.map ReadMark.u), .sl 2 (e.writes.map Write.u)] := rfl
@[simp] theorem LogRecord.u_at0 (e : LogRecord) (K : U → Option α) : U.fieldAt 0 0 e.u K = K (.int .i64 e.stamp) := rfl
@[simp] theorem LogRecord.u_at1 (e : LogRecord) (K : U → Option α) : U.fieldAt 1 1 e.u K = K (.int .i64 e.id) := rfl
@[simp] theorem LogRecord.u_at2 (e : LogRecord) (K : U → Option α) : U.fieldAt 2 2 e.u K = K (.int .i64 e.high) := rfl
@[simp] theorem LogRecord.u_at3 (e : LogRecord) (K : U → Option α) : U.fieldAt 3 3 e.u K = K (.int .i64 e.safe) := rfl
@[simp] theorem LogRecord.u_at4 (e : LogRecord) (K : U → Option α) : U.fieldAt 4 4 e.u K = K (.sl 2 (e.reads.map ReadMark.u)) := rfl
@[simp] theorem LogRecord.u_at5 (e : LogRecord) (K : U → Option α) : U.fieldAt 5 5 e.u K = K (.sl 2 (e.writes.map Write.u)) := rfl
structure Transaction where
 id : Int
 scheme : Int
 state : Int
 begin_ : Int
 low : Int
 high : Int
 commit : Int
 reads : List ReadMark
 writes : List Write
 deriving DecidableEq
theorem Transaction.eq_iff (x y : Transaction) : x = y ↔ x.id = y.id ∧ x.scheme = y.scheme ∧ x.state = y.state ∧ x.begin_ = y.begin_ ∧ x.low = y.low ∧ x.high = y.high ∧ x.commit = y.commit ∧ x.reads = y.reads ∧ x.writes = y.writes := by cases x; cases y; simp only [Transaction.mk.injEq]
def Transaction.u (e : Transaction) : U := .agg [.int .i64 e.id, .int .i64 e.scheme, .int .i64 e.state, .int .i64 e.begin_, .int .i64 e.low, .int .i64 e.high, .int .i64 e.commit, .sl 2 (e.reads.map ReadMark.u), .sl 2 (e.writes.map Write.u)]
@[simp] theorem Transaction.u_size (e : Transaction) : e.u.size = 9 := rfl
@[simp] theorem Transaction.u_var (e : Transaction) (K : U → Option α) : U.asVar true 9 e.u K = K e.u := rfl
@[simp] theorem Transaction.u_storable (e : Transaction) : storable (.val e.u) = true := rfl
@[simp] theorem Transaction.u_partable (e : Transaction) : partable (.val e.u) = true := rfl
@[simp] theorem Transaction.u_noTup (e : Transaction) (K : U → Option α) : U.noTup e.u K = K e.u := rfl
@[simp] theorem Transaction.u_agg (e : Transaction) (K : List U → Option α) : U.asAgg e.u K = K [.int .i64 e.id, .int .i64 e.scheme, .int .i64 e.state, .int .i64 e.begin_, .int .i64 e.low, .int .i64 e.high, .int .i64 e.commit, .sl 2 (e.reads.map ReadMark.u), .sl 2 (e.writes.map Write.u)] := rfl
@[simp] theorem Transaction.u_at0 (e : Transaction) (K : U → Option α) : U.fieldAt 0 0 e.u K = K (.int .i64 e.id) := rfl
@[simp] theorem Transaction.u_at1 (e : Transaction) (K : U → Option α) : U.fieldAt 1 1 e.u K = K (.int .i64 e.scheme) := rfl
@[simp] theorem Transaction.u_at2 (e : Transaction) (K : U → Option α) : U.fieldAt 2 2 e.u K = K (.int .i64 e.state) := rfl
@[simp] theorem Transaction.u_at3 (e : Transaction) (K : U → Option α) : U.fieldAt 3 3 e.u K = K (.int .i64 e.begin_) := rfl
@[simp] theorem Transaction.u_at4 (e : Transaction) (K : U → Option α) : U.fieldAt 4 4 e.u K = K (.int .i64 e.low) := rfl
@[simp] theorem Transaction.u_at5 (e : Transaction) (K : U → Option α) : U.fieldAt 5 5 e.u K = K (.int .i64 e.high) := rfl
@[simp] theorem Transaction.u_at6 (e : Transaction) (K : U → Option α) : U.fieldAt 6 6 e.u K = K (.int .i64 e.commit) := rfl
@[simp] theorem Transaction.u_at7 (e : Transaction) (K : U → Option α) : U.fieldAt 7 7 e.u K = K (.sl 2 (e.reads.map ReadMark.u)) := rfl
@[simp] theorem Transaction.u_at8 (e : Transaction) (K : U → Option α) : U.fieldAt 8 8 e.u K = K (.sl 2 (e.writes.map Write.u)) := rfl
structure Op where
 kind : Int
 id : Int
 scheme : Int
 key : Int
 high : Int
 value : Int
 deriving DecidableEq
theorem Op.eq_iff (x y : Op) : x = y ↔ x.kind = y.kind ∧ x.id = y.id ∧ x.scheme = y.scheme ∧ x.key = y.key ∧ x.high = y.high ∧ x.value = y.value := by cases x; cases y; simp only [Op.mk.injEq]
def Op.u (e : Op) : U := .agg [.int .i64 e.kind, .int .i64 e.id, .int .i64 e.scheme, .int .i64 e.key, .int .i64 e.high, .int .i64 e.value]
@[simp] theorem Op.u_size (e : Op) : e.u.size = 6 := rfl
@[simp] theorem Op.u_var (e : Op) (K : U → Option α) : U.asVar true 6 e.u K = K e.u := rfl
@[simp] theorem Op.u_storable (e : Op) : storable (.val e.u) = true := rfl
@[simp] theorem Op.u_partable (e : Op) : partable (.val e.u) = true := rfl
@[simp] theorem Op.u_noTup (e : Op) (K : U → Option α) : U.noTup e.u K = K e.u := rfl
@[simp] theorem Op.u_agg (e : Op) (K : List U → Option α) : U.asAgg e.u K = K [.int .i64 e.kind, .int .i64 e.id, .int .i64 e.scheme, .int .i64 e.key, .int .i64 e.high, .int .i64 e.value] := rfl
@[simp] theorem Op.u_at0 (e : Op) (K : U → Option α) : U.fieldAt 0 0 e.u K = K (.int .i64 e.kind) := rfl
@[simp] theorem Op.u_at1 (e : Op) (K : U → Option α) : U.fieldAt 1 1 e.u K = K (.int .i64 e.id) := rfl
@[simp] theorem Op.u_at2 (e : Op) (K : U → Option α) : U.fieldAt 2 2 e.u K = K (.int .i64 e.scheme) := rfl
@[simp] theorem Op.u_at3 (e : Op) (K : U → Option α) : U.fieldAt 3 3 e.u K = K (.int .i64 e.key) := rfl
@[simp] theorem Op.u_at4 (e : Op) (K : U → Option α) : U.fieldAt 4 4 e.u K = K (.int .i64 e.high) := rfl
@[simp] theorem Op.u_at5 (e : Op) (K : U → Option α) : U.fieldAt 5 5 e.u K = K (.int .i64 e.value) := rfl
@[simp] theorem Op.u_flat (e : Op) : e.u.flat = true := rfl
@[simp] theorem Op.u_asFlat (e : Op) (K : U → Option α) : U.asFlat e.u K = K e.u := rfl
@[simp] theorem Op.u_eqv (x y : Op) : U.eqv 8 x.u y.u = some (decide (x = y)) := by
 obtain ⟨a0, a1, a2, a3, a4, a5⟩ := x
 obtain ⟨b0, b1, b2, b3, b4, b5⟩ := y
 simp only [Op.mk.injEq]
 show (if 6 = 6 then eqInts _ _ else none) = _
 simp only [if_true, Qb7, Qb8, Option.map_some, Bool.decide_and, Bool.and_true]
 rfl
structure StepR where
 code : Int
 values : List Int
 deriving DecidableEq
theorem StepR.eq_iff (x y : StepR) : x = y ↔ x.code = y.code ∧ x.values = y.values := by cases x; cases y; simp only [StepR.mk.injEq]
def StepR.u (e : StepR) : U := .agg [.int .i64 e.code, .sl 1 (e.values.map intU)]
@[simp] theorem StepR.u_size (e : StepR) : e.u.size = 2 := rfl
@[simp] theorem StepR.u_var (e : StepR) (K : U → Option α) : U.asVar true 2 e.u K = K e.u := rfl
@[simp] theorem StepR.u_storable (e : StepR) : storable (.val e.u) = true := rfl
@[simp] theorem StepR.u_partable (e : StepR) : partable (.val e.u) = true := rfl
@[simp] theorem StepR.u_noTup (e : StepR) (K : U → Option α) : U.noTup e.u K = K e.u := rfl
@[simp] theorem StepR.u_agg (e : StepR) (K : List U → Option α) : U.asAgg e.u K = K [.int .i64 e.code, .sl 1 (e.values.map intU)] := rfl
@[simp] theorem StepR.u_at0 (e : StepR) (K : U → Option α) : U.fieldAt 0 0 e.u K = K (.int .i64 e.code) := rfl
@[simp] theorem StepR.u_at1 (e : StepR) (K : U → Option α) : U.fieldAt 1 1 e.u K = K (.sl 1 (e.values.map intU)) := rfl
def chainU (l : List Version) : U := .sl 5 (l.map Version.u)
@[simp] theorem Qaec (l : List Version) : (chainU l).size = 1 := rfl
@[simp] theorem Qady (l : List Version) (K : U → Option α) : U.asVar false 1 (chainU l) K = K (chainU l) := rfl
@[simp] theorem Qafx (l : List Version) : storable (.val (chainU l)) = true := rfl
@[simp] theorem Qafh (l : List Version) : partable (.val (chainU l)) = true := rfl
@[simp] theorem Qae6 (l : List Version) (K : U → Option α) : U.noTup (chainU l) K = K (chainU l) := rfl
@[simp] theorem Qaew (l : List Version) : U.lenOf false (chainU l) = some l.length := by simp [chainU]
@[simp] theorem Qaeg (l : List Version) (i : Int) (K : U → Option α) : U.elemAt 5 (chainU l) i K = U.elemAt 5 (.sl 5 (l.map Version.u)) i K := rfl
structure Store where
 chains : List (List Version)
 deriving DecidableEq
theorem Store.eq_iff (x y : Store) : x = y ↔ x.chains = y.chains := by cases x; cases y; simp only [Store.mk.injEq]
def Store.u (e : Store) : U := .agg [.sl 1 (e.chains.map chainU)]
@[simp] theorem Store.u_size (e : Store) : e.u.size = 1 := rfl
@[simp] theorem Store.u_var (e : Store) (K : U → Option α) : U.asVar true 1 e.u K = K e.u := rfl
@[simp] theorem Store.u_storable (e : Store) : storable (.val e.u) = true := rfl
@[simp] theorem Store.u_partable (e : Store) : partable (.val e.u) = true := rfl
@[simp] theorem Store.u_noTup (e : Store) (K : U → Option α) : U.noTup e.u K = K e.u := rfl
@[simp] theorem Store.u_agg (e : Store) (K : List U → Option α) : U.asAgg e.u K = K [.sl 1 (e.chains.map chainU)] := rfl
@[simp] theorem Store.u_at0 (e : Store) (K : U → Option α) : U.fieldAt 0 0 e.u K = K (.sl 1 (e.chains.map chainU)) := rfl
structure Engine where
 certify : Bool
 store : Store
 transactions : List Transaction
 locks : List Lock
 waits : List Wait
 stamp : Int
 deriving DecidableEq
theorem Engine.eq_iff (x y : Engine) : x = y ↔ x.certify = y.certify ∧ x.store = y.store ∧ x.transactions = y.transactions ∧ x.locks = y.locks ∧ x.waits = y.waits ∧ x.stamp = y.stamp := by cases x; cases y; simp only [Engine.mk.injEq]
def Engine.u (e : Engine) : U := .agg [.bool e.certify, e.store.u, .sl 9 (e.transactions.map Transaction.u), .sl 2 (e.locks.map Lock.u), .sl 2 (e.waits.map Wait.u), .int .i64 e.stamp]
@[simp] theorem Engine.u_size (e : Engine) : e.u.size = 6 := rfl
@[simp] theorem Engine.u_var (e : Engine) (K : U → Option α) : U.asVar true 6 e.u K = K e.u := rfl
@[simp] theorem Engine.u_storable (e : Engine) : storable (.val e.u) = true := rfl
@[simp] theorem Engine.u_partable (e : Engine) : partable (.val e.u) = true := rfl
@[simp] theorem Engine.u_noTup (e : Engine) (K : U → Option α) : U.noTup e.u K = K e.u := rfl
@[simp] theorem Engine.u_agg (e : Engine) (K : List U → Option α) : U.asAgg e.u K = K [.bool e.certify, e.store.u, .sl 9 (e.transactions.map Transaction.u), .sl 2 (e.locks.map Lock.u), .sl 2 (e.waits.map Wait.u), .int .i64 e.stamp] := rfl
@[simp] theorem Engine.u_at0 (e : Engine) (K : U → Option α) : U.fieldAt 0 0 e.u K = K (.bool e.certify) := rfl
@[simp] theorem Engine.u_at1 (e : Engine) (K : U → Option α) : U.fieldAt 1 1 e.u K = K (e.store.u) := rfl
@[simp] theorem Engine.u_at2 (e : Engine) (K : U → Option α) : U.fieldAt 2 2 e.u K = K (.sl 9 (e.transactions.map Transaction.u)) := rfl
@[simp] theorem Engine.u_at3 (e : Engine) (K : U → Option α) : U.fieldAt 3 3 e.u K = K (.sl 2 (e.locks.map Lock.u)) := rfl
@[simp] theorem Engine.u_at4 (e : Engine) (K : U → Option α) : U.fieldAt 4 4 e.u K = K (.sl 2 (e.waits.map Wait.u)) := rfl
@[simp] theorem Engine.u_at5 (e : Engine) (K : U → Option α) : U.fieldAt 5 5 e.u K = K (.int .i64 e.stamp) := rfl
structure Node where
 engine : Engine
 log : ByteArray
 deriving DecidableEq
theorem Node.eq_iff (x y : Node) : x = y ↔ x.engine = y.engine ∧ x.log = y.log := by cases x; cases y; simp only [Node.mk.injEq]
def Node.u (e : Node) : U := .agg [e.engine.u, .str e.log]
@[simp] theorem Node.u_size (e : Node) : e.u.size = 7 := rfl
@[simp] theorem Node.u_var (e : Node) (K : U → Option α) : U.asVar true 7 e.u K = K e.u := rfl
@[simp] theorem Node.u_storable (e : Node) : storable (.val e.u) = true := rfl
@[simp] theorem Node.u_partable (e : Node) : partable (.val e.u) = true := rfl
@[simp] theorem Node.u_noTup (e : Node) (K : U → Option α) : U.noTup e.u K = K e.u := rfl
@[simp] theorem Node.u_agg (e : Node) (K : List U → Option α) : U.asAgg e.u K = K [e.engine.u, .str e.log] := rfl
@[simp] theorem Node.u_at0 (e : Node) (K : U → Option α) : U.fieldAt 0 0 e.u K = K (e.engine.u) := rfl
@[simp] theorem Node.u_at1 (e : Node) (K : U → Option α) : U.fieldAt 1 6 e.u K = K (.str e.log) := rfl
structure Report where
 order : List Int
 cycle : List Int
 kind : Int
 deriving DecidableEq
theorem Report.eq_iff (x y : Report) : x = y ↔ x.order = y.order ∧ x.cycle = y.cycle ∧ x.kind = y.kind := by cases x; cases y; simp only [Report.mk.injEq]
def Report.u (e : Report) : U := .agg [.sl 1 (e.order.map intU), .sl 1 (e.cycle.map intU), .int .i64 e.kind]
@[simp] theorem Report.u_size (e : Report) : e.u.size = 3 := rfl
@[simp] theorem Report.u_var (e : Report) (K : U → Option α) : U.asVar true 3 e.u K = K e.u := rfl
@[simp] theorem Report.u_storable (e : Report) : storable (.val e.u) = true := rfl
@[simp] theorem Report.u_partable (e : Report) : partable (.val e.u) = true := rfl
@[simp] theorem Report.u_noTup (e : Report) (K : U → Option α) : U.noTup e.u K = K e.u := rfl
@[simp] theorem Report.u_agg (e : Report) (K : List U → Option α) : U.asAgg e.u K = K [.sl 1 (e.order.map intU), .sl 1 (e.cycle.map intU), .int .i64 e.kind] := rfl
@[simp] theorem Report.u_at0 (e : Report) (K : U → Option α) : U.fieldAt 0 0 e.u K = K (.sl 1 (e.order.map intU)) := rfl
@[simp] theorem Report.u_at1 (e : Report) (K : U → Option α) : U.fieldAt 1 1 e.u K = K (.sl 1 (e.cycle.map intU)) := rfl
@[simp] theorem Report.u_at2 (e : Report) (K : U → Option α) : U.fieldAt 2 2 e.u K = K (.int .i64 e.kind) := rfl
variable {E : Env}
def inR (n lo hi : Int) : Bool := decide (lo ≤ n ∧ n ≤ hi)
theorem Qa4 (h : G_f93 E) (n lo hi : Int) : E 6 [.int .i64 n, .int .i64 lo, .int .i64 hi] = some (.bool (inR n lo hi)) := by
 rw [f93_E h]
 by_cases h1 : lo ≤ n <;> simp [inR, h1]
theorem Qbs (h : G_f33 E) (n lo hi : Int) : E 10 [.int .i64 n, .int .i64 lo, .int .i64 hi] = some (.bool (inR n lo hi)) := by
 rw [f33_E h]
 by_cases h1 : lo ≤ n <;> simp [inR, h1]
theorem Qdp (h : G_f35 E) (n : Int) : E 9 [.int .i64 n] = some (.bool (inR n 1 9)) := by
 rw [f35_E h]; simp [Qbs h.c_f33]
theorem Qco (h : G_f36 E) (n : Int) : E 11 [.int .i64 n] = some (.bool (inR n 0 5)) := by
 rw [f36_E h]; simp [Qbs h.c_f33]
def cmpI (a b : Int) : Int := if a < b then -1 else if b < a then 1 else 0
theorem Qtd (h : G_f2 E) (n : Int) : E 15 [.int .i64 n] = some (.bool false) := by
 rw [f2_E h]; simp
theorem Qj4 (h : G_f0 E) (a b : Int) : E 13 [.int .i64 a, .int .i64 b] = some (.int .i64 (cmpI a b)) := by
 rw [f0_E h]
 simp only [Qtd h.c_f2, cmpI]
 by_cases h1 : a < b <;> by_cases h2 : b < a <;> simp [h1, h2]
def cmpOr : List Int → Int
 | [] => 0
 | n :: l => if n = 0 then cmpOr l else n
theorem Qj6 (l : List Int) (hl : l.length ≤ 1000) : ∀ (r p : List Int) (i : Int), l = p ++ r → i = p.length → f1_l0 E (.int .i64 0) (intsU l) (.int .i64 l.length) (.int .i64 i) = some (.int .i64 (cmpOr r))
 | [], p, i, e, hi => by
  rw [Qky]
  simp [Qi e hi, cmpOr]
 | x :: r, p, i, e, hi => by
  obtain ⟨h0, hlt, hx, hw, hn, _⟩ := Qg e hi (by omega)
  have ih := Qj6 l hl r (p ++ [x]) (i + 1) (Qf e) hn
  rw [Qky]
  simp [h0, hlt, hx, hw, cmpOr, ih]
  split <;> simp_all
theorem Qj5 (h : G_f1 E) (l : List Int) (hl : l.length ≤ 1000) : E 14 [intsU l] = some (.int .i64 (cmpOr l)) := by
 rw [f1_E h]
 simp [Qj6 (E := E) l hl l [] 0 rfl rfl]
def LogRecord.tx (r : LogRecord) : Transaction := ⟨r.id, 1, 2, 0, 0, r.high, r.stamp, r.reads, r.writes⟩
def edgeLt (a b : Edge) : Bool :=
 if a.frm ≠ b.frm then decide (a.frm < b.frm) else if a.to ≠ b.to then decide (a.to < b.to) else if a.kind ≠ b.kind then decide (a.kind < b.kind) else decide (a.key < b.key)
def edgeCmp (a b : Edge) : Int := cmpOr [cmpI a.frm b.frm, cmpI a.to b.to, cmpI a.kind b.kind, cmpI a.key b.key]
theorem Qtc {a b : Int} : cmpI a b = 0 ↔ a = b := by unfold cmpI; split <;> (try split) <;> omega
theorem Qtb {a b : Int} : cmpI a b < 0 ↔ a < b := by unfold cmpI; split <;> (try split) <;> omega
theorem Qkd (a b : Edge) : edgeCmp a b < 0 ↔ edgeLt a b = true := by
 unfold edgeCmp edgeLt
 simp only [cmpOr, Qtc]
 by_cases h1 : a.frm = b.frm <;> by_cases h2 : a.to = b.to <;> by_cases h3 : a.kind = b.kind <;> by_cases h4 : a.key = b.key <;> simp [h1, h2, h3, h4, Qtb]
theorem Qe0 (h : G_f28 E) (a b : Edge) : E 12 [a.u, b.u] = some (.int .i64 (edgeCmp a b)) := by
 rw [f28_E h]
 have := Qj5 h.c_f1 [cmpI a.frm b.frm, cmpI a.to b.to, cmpI a.kind b.kind, cmpI a.key b.key] (by simp)
 simp only [intsU, List.map_cons, List.map_nil, intU] at this
 simp [Qj4 h.c_f0, this, edgeCmp]
theorem Qe6 (h : G_f91 E) (a b : Edge) : E 7 [a.u, b.u] = some (.bool (edgeLt a b)) := by
 rw [f91_E h]
 by_cases h1 : a.frm = b.frm <;> by_cases h2 : a.to = b.to <;> by_cases h3 : a.kind = b.kind <;> simp [h1, h2, h3, edgeLt]
open Go Go.Sort Go.Proofs
theorem Qd0 (x y : Edge) : ltOf edgeCmp x y = edgeLt x y := by
 unfold ltOf
 have := Qkd x y
 cases h : edgeLt x y with
 | true => rw [h] at this; simpa using this.2 rfl
 | false =>
  rw [h] at this
  have h2 : ¬ edgeCmp x y < 0 := fun h3 => by have := this.1 h3; cases this
  simpa using h2
theorem Qdg (x : Edge) : edgeLt x x = false := by simp [edgeLt]
theorem Qgs (x y : Edge) : edgeLt x y = true ↔ x.frm < y.frm ∨ (x.frm = y.frm ∧ (x.to < y.to ∨ (x.to = y.to ∧ (x.kind < y.kind ∨ (x.kind = y.kind ∧ x.key < y.key))))) := by
 unfold edgeLt
 by_cases h1 : x.frm = y.frm
 ·by_cases h2 : x.to = y.to
  ·by_cases h3 : x.kind = y.kind
   ·simp [h1, h2, h3]
   ·simp [h1, h2, h3]
  ·simp [h1, h2]
 ·simp [h1]
theorem Qdh {x y z : Edge} (h1 : edgeLt x y = true) (h2 : edgeLt y z = true) : edgeLt x z = true := by
 rw [Qgs] at *
 omega
theorem Qgt {x y : Edge} (h1 : edgeLt x y = false) (h2 : edgeLt y x = false) : x = y := by
 have a1 := Qgs x y
 have a2 := Qgs y x
 rw [h1] at a1
 rw [h2] at a2
 simp only [Bool.false_eq_true, false_iff] at a1 a2
 rw [Edge.eq_iff]
 omega
theorem Qer : SWO (ltOf edgeCmp) where
 irrefl x := by rw [Qd0]; exact Qdg x
 trans x y z h1 h2 := by rw [Qd0] at *; exact Qdh h1 h2
 ntrans x y z h1 h2 := by
  rw [Qd0] at *
  cases h : edgeLt x z with
  | false => rfl
  | true =>
   exfalso
   cases h3 : edgeLt y x with
   | true =>
    have := Qdh h3 h
    rw [h2] at this
    cases this
   | false =>
    have := Qgt h1 h3
    subst this
    rw [h] at h2
    cases h2
theorem Qtl : ∀ x y, (ltOf edgeCmp) x y = false → (ltOf edgeCmp) y x = false → x = y := fun x y h1 h2 => by
 rw [Qd0] at *
 exact Qgt h1 h2
def Strict (l : List Edge) : Prop := l.Pairwise fun a b => edgeLt a b = true
def keepE (e : Edge) : Bool := !decide (e.frm = 0) && (!decide (e.to = 0) && !decide (e.frm = e.to))
def insS : List Edge → Edge → List Edge
 | [], e => [e]
 | x :: r, e => if edgeLt x e = true then x :: insS r e else if x = e then x :: r else e :: x :: r
def putE (l : List Edge) (e : Edge) : List Edge := if keepE e then insS l e else l
def dedupFrom : Edge → List Edge → List Edge
 | _, [] => []
 | y, z :: r => if z = y then dedupFrom y r else z :: dedupFrom z r
def compactE : List Edge → List Edge
 | [] => []
 | x :: r => x :: dedupFrom x r
theorem Qhs (e y : Edge) : ∀ l : List Edge, y ∈ insS l e ↔ y ∈ l ∨ y = e
 | [] => by simp [insS]
 | x :: r => by
  have ih := Qhs e y r
  simp only [insS]
  split
  ·simp only [List.mem_cons, ih]
   constructor
   ·rintro (h | h | h)
    ·exact .inl (.inl h)
    ·exact .inl (.inr h)
    ·exact .inr h
   ·rintro ((h | h) | h)
    ·exact .inl h
    ·exact .inr (.inl h)
    ·exact .inr (.inr h)
  ·split
   ·rename_i h1
    subst h1
    constructor
    ·exact .inl
    ·rintro (h | h)
     ·exact h
     ·subst h; simp
   ·simp only [List.mem_cons]
    constructor
    ·rintro (h | h)
     ·exact .inr h
     ·exact .inl h
    ·rintro (h | h)
     ·exact .inr h
     ·exact .inl h
theorem Qke {x y : Edge} (h1 : ¬ edgeLt x y = true) (h2 : x ≠ y) : edgeLt y x = true := by
 cases h : edgeLt y x with
 | true => rfl
 | false => exact absurd (Qgt (by simpa using h1) h) h2
theorem Qo9 (e : Edge) : ∀ l : List Edge, Strict l → Strict (insS l e)
 | [], _ => List.pairwise_singleton _ _
 | x :: r, h => by
  have h' := List.pairwise_cons.1 h
  have ih := Qo9 e r h'.2
  simp only [insS]
  split
  ·rename_i hx
   refine List.pairwise_cons.2 ⟨fun y hy => ?_, ih⟩
   rcases (Qhs e y r).1 hy with hy | hy
   ·exact h'.1 y hy
   ·rw [hy]; exact hx
  ·split
   ·exact h
   ·rename_i h1 h2
    have h3 := Qke h1 h2
    refine List.pairwise_cons.2 ⟨fun y hy => ?_, h⟩
    rcases List.mem_cons.1 hy with rfl | hy
    ·exact h3
    ·exact Qdh h3 (h'.1 y hy)
theorem Qz8 (l : List Edge) (e : Edge) (h : Strict l) : Strict (putE l e) := by
 unfold putE
 split
 ·exact Qo9 e l h
 ·exact h
theorem Qz7 (l : List Edge) (e y : Edge) : y ∈ putE l e ↔ y ∈ l ∨ (y = e ∧ keepE e = true) := by
 unfold putE
 split
 ·rename_i h; rw [Qhs]; simp [h]
 ·rename_i h; simp [h]
theorem Qqq : ∀ (es l : List Edge), Strict l → Strict (es.foldl putE l)
 | [], l, h => h
 | e :: es, l, h => Qqq es _ (Qz8 l e h)
theorem Qfq (y : Edge) : ∀ (es l : List Edge), y ∈ es.foldl putE l ↔ y ∈ l ∨ (y ∈ es ∧ keepE y = true)
 | [], l => by simp
 | e :: es, l => by
  rw [List.foldl_cons, Qfq y es, Qz7]
  constructor
  ·rintro ((h | ⟨rfl, h⟩) | ⟨h, h2⟩)
   ·exact .inl h
   ·exact .inr ⟨by simp, h⟩
   ·exact .inr ⟨by simp [h], h2⟩
  ·rintro (h | ⟨h, h2⟩)
   ·exact .inl (.inl h)
   ·rcases List.mem_cons.1 h with rfl | h
    ·exact .inl (.inr ⟨rfl, h2⟩)
    ·exact .inr ⟨h, h2⟩
theorem Qse : ∀ (a b : List Edge), Strict a → Strict b → (∀ y, y ∈ a ↔ y ∈ b) → a = b
 | [], [], _, _, _ => rfl
 | [], y :: b, _, _, h => by have := (h y).2 (by simp); cases this
 | x :: a, [], _, _, h => by have := (h x).1 (by simp); cases this
 | x :: a, y :: b, ha, hb, h => by
  have ha' := List.pairwise_cons.1 ha
  have hb' := List.pairwise_cons.1 hb
  have hxy : x = y := by
   rcases List.mem_cons.1 ((h x).1 (by simp)) with h1 | h1
   ·exact h1
   ·rcases List.mem_cons.1 ((h y).2 (by simp)) with h2 | h2
    ·exact h2.symm
    ·have := Qdh (ha'.1 y h2) (hb'.1 x h1)
     rw [Qdg] at this
     cases this
  subst hxy
  have hne : ∀ z, z ∈ a → z ≠ x := fun z hz e => by
   have := ha'.1 z hz
   rw [e, Qdg] at this
   cases this
  have hne2 : ∀ z, z ∈ b → z ≠ x := fun z hz e => by
   have := hb'.1 z hz
   rw [e, Qdg] at this
   cases this
  rw [Qse a b ha'.2 hb'.2 fun z => ⟨fun hz => ?_, fun hz => ?_⟩]
  ·rcases List.mem_cons.1 ((h z).1 (by simp [hz])) with h1 | h1
   ·exact absurd h1 (hne z hz)
   ·exact h1
  ·rcases List.mem_cons.1 ((h z).2 (by simp [hz])) with h1 | h1
   ·exact absurd h1 (hne2 z hz)
   ·exact h1
def Weak (l : List Edge) : Prop := l.Pairwise fun a b => edgeLt b a = false
theorem Qadh {x y : Edge} (h : edgeLt y x = false) (hn : y ≠ x) : edgeLt x y = true := Qke (by simp [h]) hn
theorem Qgq : ∀ (r : List Edge) (y : Edge), Weak (y :: r) → (∀ z, z ∈ dedupFrom y r ↔ z ∈ r ∧ z ≠ y) ∧ (∀ z ∈ dedupFrom y r, edgeLt y z = true) ∧ Strict (dedupFrom y r)
 | [], y, _ => ⟨by simp [dedupFrom], by simp [dedupFrom], List.Pairwise.nil⟩
 | z :: r, y, h => by
  have h1 := List.pairwise_cons.1 h
  have h2 := List.pairwise_cons.1 h1.2
  simp only [dedupFrom]
  by_cases hz : z = y
  ·rw [if_pos hz]
   subst hz
   obtain ⟨g1, g2, g3⟩ := Qgq r z h1.2
   refine ⟨fun a => ?_, g2, g3⟩
   rw [g1 a]
   constructor
   ·rintro ⟨ha, hb⟩; exact ⟨by simp [ha], hb⟩
   ·rintro ⟨ha, hb⟩
    rcases List.mem_cons.1 ha with ha | ha
    ·exact absurd ha hb
    ·exact ⟨ha, hb⟩
  ·rw [if_neg hz]
   obtain ⟨g1, g2, g3⟩ := Qgq r z h1.2
   have hyz : edgeLt y z = true := Qadh (h1.1 z (by simp)) hz
   refine ⟨fun a => ?_, fun a ha => ?_, List.pairwise_cons.2 ⟨g2, g3⟩⟩
   ·rw [List.mem_cons, g1 a]
    constructor
    ·rintro (rfl | ⟨ha, hb⟩)
     ·exact ⟨by simp, hz⟩
     ·refine ⟨by simp [ha], fun e => ?_⟩
      subst e
      have h3 := h2.1 a ha
      rw [hyz] at h3
      cases h3
    ·rintro ⟨ha, hb⟩
     rcases List.mem_cons.1 ha with rfl | ha
     ·exact .inl rfl
     ·by_cases haz : a = z
      ·exact .inl haz
      ·exact .inr ⟨ha, haz⟩
   ·rcases List.mem_cons.1 ha with rfl | ha
    ·exact hyz
    ·exact Qdh hyz (g2 a ha)
theorem Qtf (l : List Edge) (h : Weak l) : (∀ z, z ∈ compactE l ↔ z ∈ l) ∧ Strict (compactE l) := by
 cases l with
 | nil => exact ⟨by simp [compactE], List.Pairwise.nil⟩
 | cons x r =>
  obtain ⟨g1, g2, g3⟩ := Qgq r x h
  refine ⟨fun z => ?_, List.pairwise_cons.2 ⟨g2, g3⟩⟩
  simp only [compactE, List.mem_cons, g1 z]
  constructor
  ·rintro (h | ⟨h, _⟩)
   ·exact .inl h
   ·exact .inr h
  ·rintro (h | h)
   ·exact .inl h
   ·by_cases hz : z = x
    ·exact .inl hz
    ·exact .inr ⟨h, hz⟩
theorem Qabd (l : List Edge) : Weak (sortBy edgeCmp l) := by
 have := List.pairwise_mergeSort (le := fun x y => !ltOf edgeCmp y x) (fun a b c h1 h2 => by
  simp only [Bool.not_eq_true'] at *
  exact Qer.ntrans c b a h2 h1) (fun a b => by
  simp only [Bool.or_eq_true, Bool.not_eq_true']
  cases h : ltOf edgeCmp b a with
  | false => exact .inl rfl
  | true =>
   right
   cases h2 : ltOf edgeCmp a b with
   | false => rfl
   | true =>
    have := Qer.trans a b a h2 h
    rw [Qer.irrefl] at this
    cases this) l
 refine this.imp fun {a b} h => ?_
 rw [← Qd0]
 simpa using h
theorem Qabc (l : List Edge) (z : Edge) : z ∈ sortBy edgeCmp l ↔ z ∈ l := List.mem_mergeSort ..
theorem Qte (es : List Edge) : compactE (sortBy edgeCmp (es.filter keepE)) = es.foldl putE [] := by
 obtain ⟨g1, g2⟩ := Qtf _ (Qabd (es.filter keepE))
 refine Qse _ _ g2 (Qqq es [] List.Pairwise.nil) fun z => ?_
 rw [g1, Qabc, Qfq]
 simp
def szc (n : Nat) (left : Int) : Int := if left - n < 0 then -1 else left - n
def szl {α : Type} (f : α → Int → Int) : List α → Int → Int
 | [], left => left
 | x :: r, left => if f x left < 0 then -1 else szl f r (f x left)
def szL {α : Type} (f : α → Int → Int) (l : List α) (left : Int) : Int := if left - (l.length : Int) < 0 then -1 else szl f l (left - l.length)
def Szs {α : Type} (f : α → Int → Int) (ok : α → Prop) : Prop := ∀ x left, 0 ≤ left → left ≤ 1048576 → f x left < 0 ∨ (ok x ∧ 0 ≤ f x left ∧ f x left ≤ left)
theorem Qb0 : Szs szc (fun n => n ≤ 1048576) := fun n left h0 h1 => by
 unfold szc
 split
 ·left; omega
 ·right; refine ⟨by omega, by omega, by omega⟩
theorem Qac3 {n : Nat} {left : Int} (h : szc n left < 0) : szc n left = -1 := by
 unfold szc at h ⊢
 split at h
 ·rename_i h1; rw [if_pos h1]
 ·rename_i h1; omega
theorem Qac4 {α : Type} {f : α → Int → Int} {ok : α → Prop} (h : Szs f ok) : Szs (szl f) (fun l => ∀ x ∈ l, ok x) := fun l => by
 induction l with
 | nil => exact fun left h0 _ => .inr ⟨by simp, h0, Int.le_refl _⟩
 | cons x r ih =>
  intro left h0 h1
  rcases h x left h0 h1 with h2 | ⟨h2, h3, h4⟩
  ·left; simp [szl, h2]
  ·have h5 : ¬ f x left < 0 := by omega
   simp only [szl, h5, if_false]
   rcases ih _ h3 (by omega) with h6 | ⟨h6, h7, h8⟩
   ·exact .inl h6
   ·exact .inr ⟨by simpa using ⟨h2, h6⟩, h7, by omega⟩
theorem Qi3 {α : Type} {f : α → Int → Int} {ok : α → Prop} (h : Szs f ok) : Szs (szL f) (fun l => l.length ≤ 1048576 ∧ ∀ x ∈ l, ok x) := fun l left h0 h1 => by
 unfold szL
 split
 ·left; omega
 ·rcases Qac4 h l (left - l.length) (by omega) (by omega) with h6 | ⟨h6, h7, h8⟩
  ·exact .inl h6
  ·exact .inr ⟨⟨by omega, h6⟩, h7, by omega⟩
theorem Qbi {α : Type} (f : α → U) (p : List α) (z : U) (c : List U) {i : Int} (hi : i = p.length) :
  (p.map f ++ z :: c)[i.toNat]? = some z ∧ (∀ y, (p.map f ++ z :: c).set i.toNat y = p.map f ++ y :: c) ∧ i < ((p.map f ++ z :: c).length : Int) := by
 subst hi
 refine ⟨by simp, fun y => by simp, by simp; omega⟩
def Entry.fit (e : Entry) : Prop := e.reads.length ≤ maxLen ∧ e.writes.length ≤ maxLen
def Entry.ok (e : Entry) : Prop := e.reads.length ≤ 1048576 ∧ e.writes.length ≤ 1048576
def LogRecord.fit (e : LogRecord) : Prop := e.reads.length ≤ maxLen ∧ e.writes.length ≤ maxLen
def LogRecord.ok (e : LogRecord) : Prop := e.reads.length ≤ 1048576 ∧ e.writes.length ≤ 1048576
def Transaction.fit (e : Transaction) : Prop := e.reads.length ≤ maxLen ∧ e.writes.length ≤ maxLen
def Transaction.ok (e : Transaction) : Prop := e.reads.length ≤ 1048576 ∧ e.writes.length ≤ 1048576
def chainOk (l : List Version) : Prop := l.length ≤ 1048576
def chainFit (l : List Version) : Prop := l.length ≤ maxLen
def chainSz (l : List Version) (left : Int) : Int := szc l.length left
theorem Qs6 : Szs chainSz chainOk := fun l left h0 h1 => Qb0 l.length left h0 h1
def Store.fit (s : Store) : Prop := s.chains.length ≤ maxLen ∧ ∀ c ∈ s.chains, chainFit c
def Store.ok (s : Store) : Prop := s.chains.length ≤ 1048576 ∧ ∀ c ∈ s.chains, chainOk c
def Store.sz (s : Store) (left : Int) : Int := szL chainSz s.chains left
theorem Store.sz_szs : Szs Store.sz Store.ok := fun s left h0 h1 => Qi3 Qs6 s.chains left h0 h1
def Transaction.sz (e : Transaction) (left : Int) : Int := let v := szc e.reads.length left; if v < 0 then -1 else szc e.writes.length v
theorem Transaction.sz_szs : Szs Transaction.sz Transaction.ok := fun e left h0 h1 => by
 unfold Transaction.sz Transaction.ok
 rcases Qb0 e.reads.length left h0 h1 with h | ⟨h2, h3, h4⟩
 ·left; simp [h]
 ·have h5 : ¬ szc e.reads.length left < 0 := by omega
  rcases Qb0 e.writes.length _ h3 (by omega) with h | ⟨h6, h7, h8⟩
  ·left; simp [h5, h]
  ·right; simp only [h5, if_false]; exact ⟨⟨h2, h6⟩, h7, by omega⟩
def Engine.fit (e : Engine) : Prop := e.store.fit ∧ e.transactions.length ≤ maxLen ∧ (∀ t ∈ e.transactions, t.fit) ∧ e.locks.length ≤ maxLen ∧ e.waits.length ≤ maxLen
def Engine.ok (e : Engine) : Prop := e.store.ok ∧ e.transactions.length ≤ 1048576 ∧ (∀ t ∈ e.transactions, t.ok) ∧ e.locks.length ≤ 1048576 ∧ e.waits.length ≤ 1048576
def Engine.sz (e : Engine) (left : Int) : Int :=
 if e.store.sz left < 0 then -1 else
 if szL Transaction.sz e.transactions (e.store.sz left) < 0 then -1 else
 if szc e.locks.length (szL Transaction.sz e.transactions (e.store.sz left)) < 0 then -1 else
 szc e.waits.length (szc e.locks.length (szL Transaction.sz e.transactions (e.store.sz left)))
theorem Engine.sz_szs : Szs Engine.sz Engine.ok := fun e left h0 h1 => by
 unfold Engine.sz Engine.ok
 rcases Store.sz_szs e.store left h0 h1 with n1 | ⟨o1, n1, n2⟩
 ·left; simp [n1]
 have n3 : ¬ e.store.sz left < 0 := by omega
 rcases Qi3 Transaction.sz_szs e.transactions _ n1 (by omega) with m1 | ⟨⟨o2, o3⟩, m1, m2⟩
 ·left; simp [n3, m1]
 have m3 : ¬ szL Transaction.sz e.transactions (e.store.sz left) < 0 := by omega
 rcases Qb0 e.locks.length _ m1 (by omega) with k1 | ⟨o4, k1, k2⟩
 ·left; simp [n3, m3, k1]
 have k3 : ¬ szc e.locks.length (szL Transaction.sz e.transactions (e.store.sz left)) < 0 := by omega
 rcases Qb0 e.waits.length _ k1 (by omega) with j1 | ⟨o5, j1, j2⟩
 ·left; simp [n3, m3, k3, j1]
 ·right
  simp only [n3, m3, k3, if_false]
  exact ⟨⟨o1, o2, o3, o4, o5⟩, j1, by omega⟩
set_option linter.unusedVariables false
def markLt (a b : ReadMark) : Bool := decide (a.key < b.key) || (decide (a.key = b.key) && decide (a.created < b.created))
def markCmp (a b : ReadMark) : Int := cmpOr [cmpI a.key b.key, cmpI a.created b.created]
theorem Qzk (a b : ReadMark) : decide (0 ≤ markCmp a b) = !markLt a b := by
 unfold markCmp markLt cmpI
 simp only [cmpOr]
 by_cases h1 : a.key < b.key
 ·simp [h1]
 ·by_cases h2 : b.key < a.key
  ·have h3 : ¬ a.key = b.key := by omega
   simp [h1, h2, h3]
  ·have h3 : a.key = b.key := by omega
   by_cases h4 : a.created < b.created
   ·simp [h3, h4]
   ·by_cases h5 : b.created < a.created <;> simp [h3, h4, h5]
def reads1 (p : Option ReadMark) (m : ReadMark) : Bool := inR m.key 0 5 && inR m.created 0 999 && (match p with | none => true | some q => markLt q m)
def readsFrom : Option ReadMark → List ReadMark → Bool
 | _, [] => true
 | p, m :: r => reads1 p m && readsFrom (some m) r
def areReads (l : List ReadMark) : Bool := readsFrom none l && decide (l.length ≤ 60)
def writes1 (p : Option Write) (w : Write) : Bool := inR w.key 0 5 && inR w.value (-1) 99 && (match p with | none => true | some q => decide (q.key < w.key))
def writesFrom : Option Write → List Write → Bool
 | _, [] => true
 | p, w :: r => writes1 p w && writesFrom (some w) r
def areWrites (l : List Write) : Bool := writesFrom none l
def Transaction.valid (t : Transaction) : Bool :=
 inR t.id 1 9 && (inR t.scheme 1 4 && (inR t.begin_ 0 999 && (inR t.state 1 3 && (inR t.low 0 999 && (inR t.high 1 1000 && ((decide (t.state = 2) == decide (0 < t.commit)) && (inR t.commit 0 999 && (areReads t.reads && areWrites t.writes))))))))
def LogRecord.valid (r : LogRecord) : Bool := r.tx.valid && (decide (r.high ≤ r.stamp) && inR r.safe 0 r.stamp)
theorem Quz (h : G_f29 E) (a b : ReadMark) : E 75 [a.u, b.u] = some (.int .i64 (markCmp a b)) := by
 rw [f29_E h]
 have := Qj5 h.c_f1 [cmpI a.key b.key, cmpI a.created b.created] (by simp)
 simp only [intsU, List.map_cons, List.map_nil, intU] at this
 simp [Qj4 h.c_f0, this, markCmp]
theorem Qxz (h : G_f96 E) (a b : ReadMark) : E 71 [a.u, b.u] = some (.bool (markLt a b)) := by
 rw [f96_E h]
 by_cases h1 : a.key < b.key
 ·simp [markLt, h1]
 ·by_cases h2 : a.key = b.key <;> simp [markLt, h1, h2]
theorem Qk6 (h : G_f21 E) (n : Int) : E 72 [.int .i64 n] = some (.bool (inR n 1 999)) := by
 rw [f21_E h]; simp [Qbs h.c_f33]
theorem Qlr (h : G_f37 E) (n : Int) : E 76 [.int .i64 n] = some (.bool (inR n (-1) 99)) := by
 rw [f37_E h]; simp [Qbs h.c_f33]
theorem Qlh (h : G_f26 E) (l : List ReadMark) (hl : l.length ≤ 1048576) : ∀ (r p : List ReadMark) (i : Int), l = p ++ r → i = p.length →
  f26_l0 E (.sl 2 (l.map ReadMark.u)) (.sl 2 (l.map ReadMark.u)) (.int .i64 l.length) (.int .i64 i) = some (.bool (readsFrom p.getLast? r && decide (l.length ≤ 60)))
 | [], p, i, e, hi => by
  rw [Qlg]
  have h1 : decide ((l.length : Int) ≤ 60) = decide (l.length ≤ 60) := by congr 1; simp only [eq_iff_iff]; omega
  simp [Qi e hi, readsFrom, h1]
 | x :: r, p, i, e, hi => by
  obtain ⟨h0, hlt, hx, hw, hn, _⟩ := Qg e hi (by omega)
  have ih := Qlh h l hl r (p ++ [x]) (i + 1) (Qf e) hn
  rw [List.getLast?_concat] at ih
  rw [Qlg]
  by_cases hp : p = []
  ·have hi0 : ¬ 0 < i := by subst hp; simp at hi; omega
   simp [h0, hlt, hx, hw, ih, Qco h.c_f36, Qbs h.c_f33, hi0, hp, ite_f, readsFrom, reads1, Bool.and_assoc]
  ·obtain ⟨q, j, hq, hpos, hw1, h1, hq1, _⟩ := Qct e hi (by omega) hp
   simp [h0, hlt, hx, hw, ih, Qco h.c_f36, Qbs h.c_f33, hpos, hq, hw1, hq1, Quz h.c_f29, ite_f, ite_n, Qzk, readsFrom, reads1, Bool.and_assoc]
theorem Quu (h : G_f26 E) (l : List ReadMark) (hl : l.length ≤ 1048576) : E 73 [.sl 2 (l.map ReadMark.u)] = some (.bool (areReads l)) := by
 rw [f26_E h]
 simp [Qlh h l hl l [] 0 rfl rfl, areReads]
theorem Qlj (h : G_f27 E) (l : List Write) (hl : l.length ≤ 1048576) : ∀ (r p : List Write) (i : Int), l = p ++ r → i = p.length →
  f27_l0 E (.sl 2 (l.map Write.u)) (.sl 2 (l.map Write.u)) (.int .i64 l.length) (.int .i64 i) = some (.bool (writesFrom p.getLast? r))
 | [], p, i, e, hi => by
  rw [Qli]
  simp [Qi e hi, writesFrom]
 | x :: r, p, i, e, hi => by
  obtain ⟨h0, hlt, hx, hw, hn, _⟩ := Qg e hi (by omega)
  have ih := Qlj h l hl r (p ++ [x]) (i + 1) (Qf e) hn
  rw [List.getLast?_concat] at ih
  rw [Qli]
  by_cases hp : p = []
  ·have hi0 : ¬ 0 < i := by subst hp; simp at hi; omega
   simp [h0, hlt, hx, hw, ih, Qco h.c_f36, Qlr h.c_f37, hi0, hp, ite_f, writesFrom, writes1, Bool.and_assoc]
  ·obtain ⟨q, j, hq, hpos, hw1, h1, hq1, _⟩ := Qct e hi (by omega) hp
   have hc : (!decide (x.key ≤ q.key)) = decide (q.key < x.key) := by rw [← decide_not]; congr 1; simp only [eq_iff_iff]; omega
   simp [h0, hlt, hx, hw, ih, Qco h.c_f36, Qlr h.c_f37, hpos, hq, hw1, hq1, ite_f, ite_n, writesFrom, writes1, Bool.and_assoc, hc]
theorem Quw (h : G_f27 E) (l : List Write) (hl : l.length ≤ 1048576) : E 74 [.sl 2 (l.map Write.u)] = some (.bool (areWrites l)) := by
 rw [f27_E h]
 simp [Qlj h l hl l [] 0 rfl rfl, areWrites]
def Transaction.tail (t : Transaction) : Bool :=
 inR t.id 1 9 && (inR t.scheme 1 4 && (inR t.begin_ 0 999 && (inR t.state 1 3 && (inR t.low 0 999 && (inR t.high 1 1000 && ((decide (t.state = 2) == decide (0 < t.commit)) && (inR t.commit 0 999 && decide (t.reads.length ≤ 60))))))))
theorem Qrz (h : G_f86 E) (t : Transaction) (ho : t.ok) : ∀ (r p : List Write) (i : Int), t.writes = p ++ r → i = p.length →
  f86_l0 E (.int .i64 i) t.u = some (.bool (writesFrom p.getLast? r && t.tail))
 | [], p, i, e, hi => by
  rw [Qn0]
  have h1 : decide ((t.reads.length : Int) ≤ 60) = decide (t.reads.length ≤ 60) := by congr 1; simp only [eq_iff_iff]; omega
  have h2 : decide (t.state = 2 ↔ 0 < t.commit) = (decide (t.state = 2) == decide (0 < t.commit)) := by
   by_cases a : t.state = 2 <;> by_cases b : 0 < t.commit <;> simp [a, b]
  simp [Qi e hi, Qa4 h.c_f93, ite_f, ite_t, ite_p, writesFrom, Transaction.tail, h1, h2]
 | x :: r, p, i, e, hi => by
  obtain ⟨h0, hlt, hx, hw, hn, _⟩ := Qg e hi (by have := ho.2; omega)
  have ih := Qrz h t ho r (p ++ [x]) (i + 1) (Qf e) hn
  rw [List.getLast?_concat] at ih
  rw [Qn0]
  by_cases hp : p = []
  ·have hi0 : ¬ 0 < i := by subst hp; simp at hi; omega
   simp [h0, hlt, hx, hw, ih, Qa4 h.c_f93, hi0, hp, ite_f, writesFrom, writes1, Bool.and_assoc]
  ·obtain ⟨q, j, hq, hpos, hw1, h1, hq1, _⟩ := Qct e hi (by have := ho.2; omega) hp
   have hc : (!decide (x.key ≤ q.key)) = decide (q.key < x.key) := by rw [← decide_not]; congr 1; simp only [eq_iff_iff]; omega
   simp [h0, hlt, hx, hw, ih, Qa4 h.c_f93, hpos, hq, hw1, hq1, ite_f, ite_n, writesFrom, writes1, Bool.and_assoc, hc]
theorem Qr0 (h : G_f86 E) (t : Transaction) (ho : t.ok) : ∀ (r p : List ReadMark) (i : Int), t.reads = p ++ r → i = p.length →
  f86_l1 E (.int .i64 i) t.u = some (.bool (readsFrom p.getLast? r && (writesFrom none t.writes && t.tail)))
 | [], p, i, e, hi => by
  rw [Qn1]
  simp [Qi e hi, readsFrom, Qrz h t ho t.writes [] 0 rfl rfl]
 | x :: r, p, i, e, hi => by
  obtain ⟨h0, hlt, hx, hw, hn, _⟩ := Qg e hi (by have := ho.1; omega)
  have ih := Qr0 h t ho r (p ++ [x]) (i + 1) (Qf e) hn
  rw [List.getLast?_concat] at ih
  rw [Qn1]
  by_cases hp : p = []
  ·have hi0 : ¬ 0 < i := by subst hp; simp at hi; omega
   simp [h0, hlt, hx, hw, ih, Qa4 h.c_f93, hi0, hp, ite_f, readsFrom, reads1, Bool.and_assoc]
  ·obtain ⟨q, j, hq, hpos, hw1, h1, hq1, _⟩ := Qct e hi (by have := ho.1; omega) hp
   simp [h0, hlt, hx, hw, ih, Qa4 h.c_f93, hpos, hq, hw1, hq1, ite_f, ite_n, readsFrom, reads1, Bool.and_assoc, Qxz h.c_f96]
theorem Qxh (h : G_f86 E) (t : Transaction) (ho : t.ok) : E 70 [t.u] = some (.bool t.valid) := by
 rw [f86_E h]
 have h1 := Qr0 h t ho t.reads [] 0 rfl rfl
 have h2 : (readsFrom none t.reads && (writesFrom none t.writes && t.tail)) = t.valid := by
  unfold Transaction.valid Transaction.tail areReads areWrites
  ac_rfl
 simp [h1, h2]
def idxF {α : Type} (P : α → Bool) : List α → Int → Int
 | [], _ => -1
 | x :: r, i => if P x then i else idxF P r (i + 1)
theorem Qff {α : Type} (P : α → Bool) (l : List α) : ∀ {i : Int}, 0 ≤ i → (decide (0 ≤ idxF P l i)) = l.any P := by
 induction l with
 | nil => intro i _; simp [idxF]
 | cons x r ih =>
  intro i hi
  cases h : P x
  ·simp [idxF, h, ih (i := i + 1) (by omega)]
  ·simp [idxF, h, hi]
theorem Qyr {α : Type} [DecidableEq α] (v : α) (l : List α) : ∀ {i : Int}, 0 ≤ i → (decide (0 ≤ idxF (fun x => decide (x = v)) l i)) = decide (v ∈ l) := by
 induction l with
 | nil => intro i _; simp [idxF]
 | cons x r ih =>
  intro i hi
  by_cases h : x = v
  ·simp [idxF, h, hi]
  ·have h2 : v ≠ x := fun e => h e.symm
   simp only [idxF, h, decide_false, Bool.false_eq_true, if_false, ih (i := i + 1) (by omega)]
   simp [h2]
theorem Qm5 (l : List Write) (hl : l.length ≤ 9223372036854775807) (q : Nat) (caps : List U) (P : Write → Bool) (hp : ∀ x ∈ l, E q (Write.u x :: caps) = some (.bool (P x))) (hq : q < 100000) : ∀ (r p : List Write) (i : Int), l = p ++ r → i = p.length →
  f74_l0 E (.sl 2 (l.map Write.u)) (.fn q caps) (.int .i64 l.length) (.int .i64 i) = some (.int .i64 (idxF P r i))
 | [], p, i, e, hi => by
  rw [Qm4]
  simp [Qi e hi, idxF]
 | x :: r, p, i, e, hi => by
  obtain ⟨h0, hlt, hx, hw, hn, _⟩ := Qg e hi hl
  have hpx := hp x (by rw [e]; simp)
  have ih := Qm5 l hl q caps P hp hq r (p ++ [x]) (i + 1) (Qf e) hn
  rw [Qm4]
  cases h1 : P x <;> simp [hlt, hx, hw, ih, hpx, hq, h1, idxF]
theorem Qwz (h : G_f74 E) (l : List Write) (hl : l.length ≤ 9223372036854775807) (q : Nat) (caps : List U) (P : Write → Bool) (hp : ∀ x ∈ l, E q (Write.u x :: caps) = some (.bool (P x))) (hq : q < 100000 := by decide) :
  E 55 [.sl 2 (l.map Write.u), .fn q caps] = some (.int .i64 (idxF P l 0)) := by
 rw [f74_E h]
 simp [Qm5 l hl q caps P hp hq l [] 0 rfl rfl]
theorem Qmy (h : G_f69 E) (l : List Write) (hl : l.length ≤ 9223372036854775807) (q : Nat) (caps : List U) (P : Write → Bool) (hp : ∀ x ∈ l, E q (Write.u x :: caps) = some (.bool (P x))) (hq : q < 100000 := by decide) :
  E 54 [.sl 2 (l.map Write.u), .fn q caps] = some (.bool (l.any P)) := by
 rw [f69_E h]
 simp [Qwz h.c_f74 l hl q caps P hp hq, Qff]
def Entry.has (x : Entry) (key : Int) : Bool := x.writes.any fun w => decide (w.key = key)
def nwBetter : Option Entry → Entry → Bool
 | none, _ => true
 | some c, x => decide (x.stamp < c.stamp)
def nwStep (key stamp : Int) (cur : Option Entry) (x : Entry) : Option Entry := if (decide (stamp < x.stamp) && x.has key && nwBetter cur x) = true then some x else cur
def nwId : Option Entry → Int
 | none => 0
 | some c => c.id
def nwStamp : Option Entry → Int
 | none => 0
 | some c => c.stamp
@[simp] theorem Qzr : nwId none = 0 := rfl
@[simp] theorem Qpv (c : Entry) : nwId (some c) = c.id := rfl
@[simp] theorem Qzs : nwStamp none = 0 := rfl
@[simp] theorem Qpw (c : Entry) : nwStamp (some c) = c.stamp := rfl
def nextWriter (l : List Entry) (key stamp : Int) : Int := nwId (l.foldl (nwStep key stamp) none)
theorem Qyx (h : G_f13 E) (w : Write) (key : Int) : E 53 [w.u, .vp (.int .i64 key)] = some (.bool (decide (w.key = key))) := by
 rw [f13_E h]
 simp
theorem Qhq (h : G_f12 E) (x : Entry) (hx : x.writes.length ≤ 9223372036854775807) (key : Int) : E 52 [x.u, .int .i64 key] = some (.bool (x.has key)) := by
 rw [f12_E h]
 simp [Qmy h.c_f69 x.writes hx 53 [.vp (.int .i64 key)] (fun w => decide (w.key = key)) (fun w _ => Qyx h.c_f13 w key), Entry.has]
abbrev entriesU (l : List Entry) : U := .sl 4 (l.map Entry.u)
theorem Qg2 (h : G_f22 E) (l : List Entry) (hl : l.length ≤ 1048576) (ho : ∀ x ∈ l, x.ok) (key stamp : Int) : ∀ (r p : List Entry) (i : Int) (cur : Option Entry), l = p ++ r → i = p.length →
  f22_l0 E (.int .i64 key) (.int .i64 stamp) (.int .i64 (nwId cur)) (.int .i64 (nwStamp cur)) (.bool cur.isSome) (entriesU l) (.int .i64 l.length) (.int .i64 i) = some (.int .i64 (nwId (r.foldl (nwStep key stamp) cur)))
 | [], p, i, cur, e, hi => by
  rw [Qk8]
  simp [Qi e hi]
 | x :: r, p, i, cur, e, hi => by
  obtain ⟨h0, hlt, hx, hw, hn, _⟩ := Qg e hi (by omega)
  have hox : x.ok := ho x (by rw [e]; simp)
  have hwr := Qhq h.c_f12 x (by have := hox.2; omega) key
  have ih1 := Qg2 h l hl ho key stamp r (p ++ [x]) (i + 1) cur (Qf e) hn
  have ih2 := Qg2 h l hl ho key stamp r (p ++ [x]) (i + 1) (some x) (Qf e) hn
  simp only [Qpv, Qpw, Option.isSome_some] at ih2
  rw [Qk8]
  simp only [List.foldl_cons, nwStep]
  by_cases h1 : stamp < x.stamp
  ·cases h2 : x.has key with
   | false => simp [hlt, hx, hw, hwr, h1, h2, ih1]
   | true =>
    cases cur with
    | none => simp [hlt, hx, hw, hwr, h1, h2, ih2, nwBetter]
    | some c =>
     simp only [Qpv, Qpw, Option.isSome_some] at ih1
     by_cases h3 : x.stamp < c.stamp <;> simp [hlt, hx, hw, hwr, h1, h2, ih1, ih2, nwBetter, h3]
  ·simp [hlt, hx, hw, h1, ih1]
theorem Qk7 (h : G_f22 E) (l : List Entry) (hl : l.length ≤ 1048576) (ho : ∀ x ∈ l, x.ok) (key stamp : Int) :
  E 47 [entriesU l, .int .i64 key, .int .i64 stamp] = some (.int .i64 (nextWriter l key stamp)) := by
 rw [f22_E h]
 have := Qg2 h l hl ho key stamp l [] 0 none rfl rfl
 simp only [Qzr, Qzs, Option.isSome_none] at this
 simp [this, nextWriter]
def NwAt (l : List Entry) (b : Int) : Option Entry → Prop
 | none => b = -1
 | some c => 0 ≤ b ∧ l[b.toNat]? = some c
theorem Qha (h : G_f87 E) (l : List Entry) (hl : l.length ≤ 1048576) (key stamp : Int) (x : Entry) (hox : x.ok) (i : Int) (h0 : 0 ≤ i) (hi : l[i.toNat]? = some x) (hw : IntKind.i64.wrap (i + 1) = i + 1) :
  ∀ (r p : List Write) (j b : Int) (cur : Option Entry), x.writes = p ++ r → j = p.length → NwAt l b cur →
  f87_l1 E (entriesU l) (.int .i64 key) (.int .i64 stamp) (.int .i64 b) (.int .i64 i) (.int .i64 j) =
   f87_l0 E (entriesU l) (.int .i64 key) (.int .i64 stamp) (.int .i64 (if (decide (stamp < x.stamp) && (r.any fun w => decide (w.key = key)) && nwBetter cur x) = true then i else b)) (.int .i64 (i + 1))
 | [], p, j, b, cur, e, hj, hb => by
  rw [Qn4]
  simp [Qi e hj, Qu _ h0 hi, hw]
 | w :: r, p, j, b, cur, e, hj, hb => by
  obtain ⟨j0, jlt, jx, jw, jn, _⟩ := Qg e hj (by have := hox.2; omega)
  have ih1 := Qha h l hl key stamp x hox i h0 hi hw r (p ++ [w]) (j + 1) b cur (Qf e) jn hb
  have ih2 := Qha h l hl key stamp x hox i h0 hi hw r (p ++ [w]) (j + 1) i (some x) (Qf e) jn ⟨h0, hi⟩
  simp only [nwBetter, Int.lt_irrefl, decide_false, Bool.and_false, Bool.false_eq_true, if_false] at ih2
  rw [Qn4]
  by_cases h1 : w.key = key
  ·by_cases h2 : stamp < x.stamp
   ·cases cur with
    | none =>
     have hb' : b = -1 := hb
     subst hb'
     simp [jlt, jx, jw, Qu _ h0 hi, h1, h2, ih2, nwBetter]
    | some c =>
     obtain ⟨b0, bc⟩ := hb
     have b1 : ¬ b < 0 := by omega
     by_cases h3 : x.stamp < c.stamp
     ·simp [jlt, jx, jw, Qu _ h0 hi, Qu _ b0 bc, b1, h1, h2, h3, ih2, nwBetter]
     ·simp [jlt, jx, jw, Qu _ h0 hi, Qu _ b0 bc, b1, h1, h2, h3, ih1, nwBetter]
   ·simp [jlt, jx, jw, Qu _ h0 hi, h1, h2, ih1]
  ·simp [jlt, jx, jw, Qu _ h0 hi, h1, ih1]
theorem Qg9 (h : G_f87 E) (l : List Entry) (hl : l.length ≤ 1048576) (ho : ∀ x ∈ l, x.ok) (key stamp : Int) : ∀ (r p : List Entry) (i b : Int) (cur : Option Entry), l = p ++ r → i = p.length → NwAt l b cur →
  f87_l0 E (entriesU l) (.int .i64 key) (.int .i64 stamp) (.int .i64 b) (.int .i64 i) = some (.int .i64 (nwId (r.foldl (nwStep key stamp) cur)))
 | [], p, i, b, cur, e, hi, hb => by
  rw [Qn3]
  cases cur with
  | none =>
   have hb' : b = -1 := hb
   subst hb'
   simp [Qi e hi]
  | some c =>
   obtain ⟨b0, bc⟩ := hb
   have b1 : ¬ b < 0 := by omega
   simp [Qi e hi, b1, Qu _ b0 bc]
 | x :: r, p, i, b, cur, e, hi, hb => by
  obtain ⟨h0, hlt, _, hw, hn, hxi⟩ := Qg e hi (by omega)
  have hox : x.ok := ho x (by rw [e]; simp)
  have l1 := Qha h l hl key stamp x hox i h0 hxi hw x.writes [] 0 b cur rfl rfl hb
  rw [Qn3]
  simp only [Qr, List.length_map, Option.bind_some, Qk, hlt, decide_true, Qc, if_true]
  rw [l1]
  simp only [List.foldl_cons, nwStep, Entry.has]
  split
  ·rename_i hc
   simp only [hc, if_true]
   exact Qg9 h l hl ho key stamp r (p ++ [x]) (i + 1) i (some x) (Qf e) hn ⟨h0, hxi⟩
  ·rename_i hc
   simp only [hc]
   exact Qg9 h l hl ho key stamp r (p ++ [x]) (i + 1) b cur (Qf e) hn hb
theorem Qn2 (h : G_f87 E) (l : List Entry) (hl : l.length ≤ 1048576) (ho : ∀ x ∈ l, x.ok) (key stamp : Int) :
  E 48 [entriesU l, .int .i64 key, .int .i64 stamp] = some (.int .i64 (nextWriter l key stamp)) := by
 rw [f87_E h]
 exact Qg9 h l hl ho key stamp l [] 0 (-1) none rfl rfl rfl
theorem Qm1 (l : List Entry) (hl : l.length ≤ 9223372036854775807) (q : Nat) (caps : List U) (P : Entry → Bool) (hp : ∀ x ∈ l, E q (Entry.u x :: caps) = some (.bool (P x))) (hq : q < 100000) : ∀ (r p : List Entry) (i : Int), l = p ++ r → i = p.length →
  f72_l0 E (.sl 4 (l.map Entry.u)) (.fn q caps) (.int .i64 l.length) (.int .i64 i) = some (.int .i64 (idxF P r i))
 | [], p, i, e, hi => by
  rw [Qm0]
  simp [Qi e hi, idxF]
 | x :: r, p, i, e, hi => by
  obtain ⟨h0, hlt, hx, hw, hn, _⟩ := Qg e hi hl
  have hpx := hp x (by rw [e]; simp)
  have ih := Qm1 l hl q caps P hp hq r (p ++ [x]) (i + 1) (Qf e) hn
  rw [Qm0]
  cases h1 : P x <;> simp [hlt, hx, hw, ih, hpx, hq, h1, idxF]
theorem Qwv (h : G_f72 E) (l : List Entry) (hl : l.length ≤ 9223372036854775807) (q : Nat) (caps : List U) (P : Entry → Bool) (hp : ∀ x ∈ l, E q (Entry.u x :: caps) = some (.bool (P x))) (hq : q < 100000 := by decide) :
  E 253 [.sl 4 (l.map Entry.u), .fn q caps] = some (.int .i64 (idxF P l 0)) := by
 rw [f72_E h]
 simp [Qm1 l hl q caps P hp hq l [] 0 rfl rfl]
def Entry.good (x : Entry) : Bool := inR x.id 1 9 && (inR x.stamp 1 999 && (areReads x.reads && areWrites x.writes))
def Entry.tx (x : Entry) : Transaction := ⟨x.id, 1, 2, 0, 0, 1000, x.stamp, x.reads, x.writes⟩
theorem Entry.tx_valid (x : Entry) : x.tx.valid = x.good := by
 have k1 : inR 1 1 4 = true := rfl
 have k2 : inR 0 0 999 = true := rfl
 have k3 : inR 2 1 3 = true := rfl
 have k4 : inR 1000 1 1000 = true := rfl
 have key : ((decide ((2 : Int) = 2) == decide (0 < x.stamp)) && (inR x.stamp 0 999)) = inR x.stamp 1 999 := by
  rw [Bool.eq_iff_iff]
  simp [inR]
  omega
 simp only [Entry.tx, Transaction.valid, Entry.good, k1, k2, k3, k4, Bool.true_and]
 rw [← key, Bool.and_assoc]
 simp
 rfl
def hasId (c : Int) (x : Entry) : Bool := decide (x.id = c)
def findE (l : List Entry) (c : Int) : Int := idxF (hasId c) l 0
def wrote (m : ReadMark) (x : Entry) : Bool := decide (x.stamp = m.created) && x.has m.key
def idOr : Option Entry → Int
 | none => 0
 | some x => x.id
def writerOf (l : List Entry) (m : ReadMark) : Int := idOr (l.find? (wrote m))
theorem Qnq (l : List Entry) (hl : l.length ≤ 1048576) (c : Int) : ∀ (r p : List Entry) (i : Int), l = p ++ r → i = p.length →
  f83_l0 E (.sl 4 (l.map Entry.u)) (.int .i64 c) (.int .i64 i) = some (.int .i64 (idxF (hasId c) r i))
 | [], p, i, e, hi => by
  rw [Qnp]
  simp [Qi e hi, idxF]
 | x :: r, p, i, e, hi => by
  obtain ⟨h0, hlt, hx, hw, hn, _⟩ := Qg e hi (by omega)
  have ih := Qnq l hl c r (p ++ [x]) (i + 1) (Qf e) hn
  rw [Qnp]
  by_cases h1 : x.id = c <;> simp [hlt, hx, hw, ih, h1, idxF, hasId]
theorem Qg8 (h : G_f83 E) (l : List Entry) (hl : l.length ≤ 1048576) (c : Int) : E 241 [.sl 4 (l.map Entry.u), .int .i64 c] = some (.int .i64 (findE l c)) := by
 rw [f83_E h]
 exact Qnq l hl c l [] 0 rfl rfl
theorem Que (h : G_f17 E) (x : Entry) (c : Int) : E 252 [x.u, .vp (.int .i64 c)] = some (.bool (hasId c x)) := by
 rw [f17_E h]; simp [hasId]
theorem Qkx (h : G_f16 E) (l : List Entry) (hl : l.length ≤ 1048576) (c : Int) : E 251 [.sl 4 (l.map Entry.u), .int .i64 c] = some (.int .i64 (findE l c)) := by
 rw [f16_E h]
 have := Qwv h.c_f72 l (by omega) 252 [.vp (.int .i64 c)] (hasId c) (fun x _ => Que h.c_f17 x c)
 simp [this, findE]
theorem Qlf (h : G_f25 E) (l : List Entry) (hl : l.length ≤ 1048576) (ho : ∀ x ∈ l, x.ok) (m : ReadMark) : ∀ (r p : List Entry) (i : Int), l = p ++ r → i = p.length →
  f25_l0 E (.sl 4 (l.map Entry.u)) (.int .i64 l.length) (.int .i64 i) m.u = some (.int .i64 (idOr (r.find? (wrote m))))
 | [], p, i, e, hi => by
  rw [Qle]
  simp [Qi e hi, idOr]
 | x :: r, p, i, e, hi => by
  obtain ⟨h0, hlt, hx, hw, hn, _⟩ := Qg e hi (by omega)
  have hox : x.ok := ho x (by rw [e]; simp)
  have hwr := Qhq h.c_f12 x (by have := hox.2; omega) m.key
  have ih := Qlf h l hl ho m r (p ++ [x]) (i + 1) (Qf e) hn
  rw [Qle]
  by_cases h1 : x.stamp = m.created
  ·cases h2 : x.has m.key <;> simp [hlt, hx, hw, ih, h1, h2, hwr, wrote, idOr]
  ·simp [hlt, hx, hw, ih, h1, wrote]
theorem Qld (h : G_f25 E) (l : List Entry) (hl : l.length ≤ 1048576) (ho : ∀ x ∈ l, x.ok) (m : ReadMark) : E 249 [.sl 4 (l.map Entry.u), m.u] = some (.int .i64 (writerOf l m)) := by
 rw [f25_E h]
 simp [Qlf h l hl ho m l [] 0 rfl rfl, writerOf]
theorem Qob (l : List Entry) (hl : l.length ≤ 1048576) (m : ReadMark) (x : Entry) (hox : x.ok) (i : Int) (h0 : 0 ≤ i) (hi : l[i.toNat]? = some x) (hw : IntKind.i64.wrap (i + 1) = i + 1) : ∀ (r p : List Write) (j : Int), x.writes = p ++ r → j = p.length →
  f89_l1 E (.sl 4 (l.map Entry.u)) (.int .i64 i) (.int .i64 j) m.u =
   if decide (x.stamp = m.created) && r.any (fun w => decide (w.key = m.key)) then some (.int .i64 x.id) else f89_l0 E (.sl 4 (l.map Entry.u)) (.int .i64 (i + 1)) m.u
 | [], p, j, e, hj => by
  have hx : ∀ {γ : Type} (K : U → Option γ), U.elemAt 4 (.sl 4 (l.map Entry.u)) i K = K x.u := fun K => Qu Entry.u h0 hi K
  rw [Qoa]
  simp [hx, Qi e hj, hw]
 | y :: r, p, j, e, hj => by
  have hx : ∀ {γ : Type} (K : U → Option γ), U.elemAt 4 (.sl 4 (l.map Entry.u)) i K = K x.u := fun K => Qu Entry.u h0 hi K
  obtain ⟨j0, hlt, hy, hwj, hn, _⟩ := Qg e hj (by have := hox.2; omega)
  have ih := Qob l hl m x hox i h0 hi hw r (p ++ [y]) (j + 1) (Qf e) hn
  rw [Qoa]
  by_cases h1 : x.stamp = m.created
  ·by_cases h2 : y.key = m.key <;> simp [hlt, hx, hy, hwj, ih, h1, h2]
  ·simp [hlt, hx, hy, hwj, ih, h1]
theorem Qn9 (l : List Entry) (hl : l.length ≤ 1048576) (ho : ∀ x ∈ l, x.ok) (m : ReadMark) : ∀ (r p : List Entry) (i : Int), l = p ++ r → i = p.length →
  f89_l0 E (.sl 4 (l.map Entry.u)) (.int .i64 i) m.u = some (.int .i64 (idOr (r.find? (wrote m))))
 | [], p, i, e, hi => by
  rw [Qn8]
  simp [Qi e hi, idOr]
 | x :: r, p, i, e, hi => by
  obtain ⟨h0, hlt, hx, hw, hn, hxi⟩ := Qg e hi (by omega)
  have ih := Qn9 l hl ho m r (p ++ [x]) (i + 1) (Qf e) hn
  have h1 := Qob (E := E) l hl m x (ho x (by rw [e]; simp)) i h0 hxi hw x.writes [] 0 rfl rfl
  rw [Qn8]
  simp only [Qr, List.length_map, Option.bind_some, Qk, hlt, decide_true, Qc, if_true, h1, ih, List.find?_cons]
  have e2 : (decide (x.stamp = m.created) && x.writes.any fun w => decide (w.key = m.key)) = wrote m x := rfl
  rw [e2]
  cases wrote m x <;> simp [idOr]
theorem Qn7 (h : G_f89 E) (l : List Entry) (hl : l.length ≤ 1048576) (ho : ∀ x ∈ l, x.ok) (m : ReadMark) : E 244 [.sl 4 (l.map Entry.u), m.u] = some (.int .i64 (writerOf l m)) := by
 rw [f89_E h]
 simp [Qn9 l hl ho m l [] 0 rfl rfl, writerOf]
theorem Qu8 (h : G_f34 E) (x : Entry) (ho : x.ok) : E 250 [x.u] = some (.bool x.good) := by
 rw [f34_E h]
 have r1 := Quu h.c_f26 x.reads ho.1
 have r2 := Quw h.c_f27 x.writes ho.2
 cases c1 : inR x.id 1 9
 ·simp [Qdp h.c_f35, c1, Entry.good]
 cases c2 : inR x.stamp 1 999
 ·simp [Qdp h.c_f35, Qk6 h.c_f21, c1, c2, Entry.good]
 cases c3 : areReads x.reads <;> simp [Qdp h.c_f35, Qk6 h.c_f21, c1, c2, c3, r1, r2, Entry.good]
theorem Qxo (h : G_f90 E) (x : Entry) : E 245 [x.u] = some x.tx.u := by
 rw [f90_E h]
 simp [Entry.tx, Transaction.u, storable, U.size]
def ordB (q : Option Entry) (x : Entry) : Bool := match q with
 | none => true
 | some q => !decide (x.stamp < q.stamp) && !(decide (x.stamp = q.stamp) && decide (0 < x.writes.length))
def histA : List Entry → List Entry → Bool
 | _, [] => true
 | p, x :: r => x.good && !(p.any (hasId x.id)) && ordB p.getLast? x && histA (p ++ [x]) r
def readB (l : List Entry) (x : Entry) (m : ReadMark) : Bool := !decide (writerOf l m = x.id) && !(decide (0 < m.created) && decide (writerOf l m = 0))
def histB (l r : List Entry) : Bool := r.all fun x => x.reads.all (readB l x)
def isHistory (l : List Entry) : Bool := histA [] l && histB l l && decide (l.length ≤ 9)
theorem Qo2 {α : Type} (P : α → Bool) (x : α) (hx : P x = true) (r : List α) : ∀ (p : List α) (i : Int), (idxF P (p ++ x :: r) i = i + p.length) = (p.any P = false)
 | [], i => by simp [idxF, hx]
 | y :: p, i => by
  cases hy : P y with
  | true =>
   simp [idxF, hy]
   omega
  | false =>
   have := Qo2 P x hx r p (i + 1)
   simp only [List.cons_append, idxF, hy, Bool.false_eq_true, if_false, List.any_cons, Bool.false_or, ← this, List.length_cons]
   simp only [eq_iff_iff]
   omega
theorem Qx4 (l p : List Entry) (x : Entry) (r : List Entry) (e : l = p ++ x :: r) : decide (findE l x.id = p.length) = !(p.any (hasId x.id)) := by
 have h := Qo2 (hasId x.id) x (by simp [hasId]) r p 0
 unfold findE
 rw [e]
 have h2 : decide (idxF (hasId x.id) (p ++ x :: r) 0 = p.length) = decide (p.any (hasId x.id) = false) := by
  rw [decide_eq_decide, ← eq_iff_iff, ← h]
  simp
 rw [h2]
 cases p.any (hasId x.id) <;> rfl
theorem Qov {α : Type} (f : α → U) {l p : List α} {r : List α} (e : l = p ++ r) {i : Int} (hi : i = p.length) (h1 : 0 < i) : ∃ q, p.getLast? = some q ∧ ∀ {γ : Type} (k : Nat) (K : U → Option γ), U.elemAt k (.sl k (l.map f)) (i - 1) K = K (f q) := by
 have hne : p ≠ [] := by rintro rfl; simp at hi; omega
 refine ⟨p.getLast hne, List.getLast?_eq_some_getLast hne, fun k K => Qu f (by omega) ?_ K⟩
 have h2 : (i - 1).toNat = p.length - 1 := by omega
 rw [h2, e, List.getElem?_append_left (by have := List.length_pos_iff.2 hne; omega), ← List.getLast?_eq_getElem?, List.getLast?_eq_some_getLast hne]
theorem Qk3 (h : G_f20 E) (l : List Entry) (hl : l.length ≤ 1048576) (ho : ∀ x ∈ l, x.ok) (x : Entry) (hox : x.ok) (i : Int) (hw : IntKind.i64.wrap (i + 1) = i + 1) : ∀ (r p : List ReadMark) (j : Int), x.reads = p ++ r → j = p.length →
  f20_l1 E (.sl 4 (l.map Entry.u)) (.sl 4 (l.map Entry.u)) (.int .i64 l.length) (.int .i64 i) (.sl 2 (x.reads.map ReadMark.u)) (.int .i64 x.reads.length) (.int .i64 j) x.u =
   if r.all (readB l x) then f20_l0 E (.sl 4 (l.map Entry.u)) (.sl 4 (l.map Entry.u)) (.int .i64 l.length) (.int .i64 (i + 1)) else some (.bool false)
 | [], p, j, e, hj => by
  rw [Qk2]
  simp [Qi e hj, hw]
 | m :: r, p, j, e, hj => by
  obtain ⟨j0, hlt, hy, hwj, hn, _⟩ := Qg e hj (by have := hox.1; omega)
  have ih := Qk3 h l hl ho x hox i hw r (p ++ [m]) (j + 1) (Qf e) hn
  have hwr := Qld h.c_f25 l hl ho m
  rw [Qk2]
  by_cases h1 : writerOf l m = x.id
  ·simp [hlt, hy, hwj, hwr, h1, readB]
  ·by_cases h2 : 0 < m.created
   ·by_cases h3 : writerOf l m = 0
    ·have h4 : ¬ (0 = x.id) := by rw [← h3]; exact h1
     simp [hlt, hy, hwj, hwr, h2, h3, h4, readB]
    ·simp [hlt, hy, hwj, hwr, h1, h2, h3, readB, ih]
   ·simp [hlt, hy, hwj, hwr, h1, h2, readB, ih]
theorem Qk1 (h : G_f20 E) (l : List Entry) (hl : l.length ≤ 1048576) (ho : ∀ x ∈ l, x.ok) : ∀ (r p : List Entry) (i : Int), l = p ++ r → i = p.length →
  f20_l0 E (.sl 4 (l.map Entry.u)) (.sl 4 (l.map Entry.u)) (.int .i64 l.length) (.int .i64 i) = some (.bool (histB l r))
 | [], p, i, e, hi => by
  rw [Qk0]
  simp [Qi e hi, histB]
 | x :: r, p, i, e, hi => by
  obtain ⟨h0, hlt, hx, hw, hn, _⟩ := Qg e hi (by omega)
  have ih := Qk1 h l hl ho r (p ++ [x]) (i + 1) (Qf e) hn
  have h1 := Qk3 h l hl ho x (ho x (by rw [e]; simp)) i hw x.reads [] 0 rfl rfl
  rw [Qk0]
  simp only [Qk, hlt, decide_true, Option.bind_some, Qc, if_true, Ql, hx, Entry.u_var, Entry.u_storable, Entry.u_size, and_self, Entry.u_agg, Qaq, Qc1, List.take_succ_cons, List.take_zero, Qab, Nat.reduceAdd, List.getElem?_cons_succ, List.getElem?_cons_zero, Qsz, Qr, List.length_map, h1, ih, histB, List.all_cons]
  simp only [histB] at ih
  cases x.reads.all (readB l x) <;> simp [ih]
theorem Qk5 (h : G_f20 E) (l : List Entry) (hl : l.length ≤ 1048576) (ho : ∀ x ∈ l, x.ok) : ∀ (r p : List Entry) (i : Int), l = p ++ r → i = p.length →
  f20_l2 E (.sl 4 (l.map Entry.u)) (.sl 4 (l.map Entry.u)) (.int .i64 l.length) (.int .i64 i) = some (.bool (histA p r && histB l l))
 | [], p, i, e, hi => by
  have h0 := Qk1 h l hl ho l [] 0 rfl rfl
  rw [Qk4]
  simp [Qi e hi, histA, h0]
 | x :: r, p, i, e, hi => by
  obtain ⟨h0, hlt, hx, hw, hn, _⟩ := Qg e hi (by omega)
  have ih := Qk5 h l hl ho r (p ++ [x]) (i + 1) (Qf e) hn
  have hox : x.ok := ho x (by rw [e]; simp)
  have he := Qu8 h.c_f34 x hox
  have hf := Qkx h.c_f16 l hl x.id
  have hff := Qx4 l p x r e
  rw [← hi] at hff
  have hw1 : IntKind.i64.wrap (i - 1) = i - 1 := Qj (by omega)
  rw [Qk4]
  cases g : x.good
  ·simp [hlt, hx, he, g, histA]
  cases a : p.any (hasId x.id)
  rotate_left
  ·have a2 : ¬ findE l x.id = i := by rw [a] at hff; simpa using hff
   simp [hlt, hx, he, g, hf, a, a2, histA]
  have a2 : findE l x.id = i := by rw [a] at hff; simpa using hff
  by_cases hz : 0 < i
  ·obtain ⟨q, hq, hqe⟩ := Qov Entry.u e hi hz
   by_cases c1 : x.stamp < q.stamp
   ·simp [hlt, hx, he, g, hf, a, a2, hz, hw1, hqe, c1, histA, hq, ordB]
   ·by_cases c2 : x.stamp = q.stamp
    ·by_cases c3 : 0 < x.writes.length
     ·simp [hlt, hx, he, g, hf, a, a2, hz, hw1, hqe, c1, c2, c3, histA, hq, ordB]
     ·simp [hlt, hx, he, g, hf, a, a2, hz, hw1, hqe, c1, c2, c3, histA, hq, ordB, hw, ih]
    ·simp [hlt, hx, he, g, hf, a, a2, hz, hw1, hqe, c1, c2, histA, hq, ordB, hw, ih]
  ·have hp : p = [] := by
    have : p.length = 0 := by omega
    exact List.length_eq_zero_iff.1 this
   have hq : p.getLast? = none := by rw [hp]; rfl
   simp [hlt, hx, he, g, hf, a, a2, hz, histA, hq, ordB, hw, ih]
theorem Qkz (h : G_f20 E) (l : List Entry) (hl : l.length ≤ 1048576) (ho : ∀ x ∈ l, x.ok) : E 247 [.sl 4 (l.map Entry.u)] = some (.bool (isHistory l)) := by
 rw [f20_E h]
 by_cases h9 : l.length ≤ 9
 ·have h1 : ¬ (9 : Int) < l.length := by omega
  simp [h1, h9, Qk5 h l hl ho l [] 0 rfl rfl, isHistory]
 ·have h1 : (9 : Int) < l.length := by omega
  simp [h1, h9, isHistory]
theorem Qnx (h : G_f85 E) (l : List Entry) (hl : l.length ≤ 1048576) (ho : ∀ x ∈ l, x.ok) (x : Entry) (hox : x.ok) (i : Int) (h0 : 0 ≤ i) (hi : l[i.toNat]? = some x) (hw : IntKind.i64.wrap (i + 1) = i + 1) : ∀ (r p : List ReadMark) (j : Int), x.reads = p ++ r → j = p.length →
  f85_l1 E (.sl 4 (l.map Entry.u)) (.int .i64 i) (.int .i64 j) =
   if r.all (readB l x) then f85_l0 E (.sl 4 (l.map Entry.u)) (.int .i64 (i + 1)) else some (.bool false)
 | [], p, j, e, hj => by
  have hx : ∀ {γ : Type} (K : U → Option γ), U.elemAt 4 (.sl 4 (l.map Entry.u)) i K = K x.u := fun K => Qu Entry.u h0 hi K
  rw [Qnw]
  simp [hx, Qi e hj, hw]
 | m :: r, p, j, e, hj => by
  have hx : ∀ {γ : Type} (K : U → Option γ), U.elemAt 4 (.sl 4 (l.map Entry.u)) i K = K x.u := fun K => Qu Entry.u h0 hi K
  obtain ⟨j0, hlt, hy, hwj, hn, _⟩ := Qg e hj (by have := hox.1; omega)
  have ih := Qnx h l hl ho x hox i h0 hi hw r (p ++ [m]) (j + 1) (Qf e) hn
  have hwr := Qn7 h.c_f89 l hl ho m
  rw [Qnw]
  by_cases h1 : writerOf l m = x.id
  ·simp [hx, hlt, hy, hwj, hwr, h1, readB]
  ·by_cases h2 : 0 < m.created
   ·by_cases h3 : writerOf l m = 0
    ·have h4 : ¬ (0 = x.id) := by rw [← h3]; exact h1
     simp [hx, hlt, hy, hwj, hwr, h2, h3, h4, readB]
    ·simp [hx, hlt, hy, hwj, hwr, h1, h2, h3, readB, ih]
   ·simp [hx, hlt, hy, hwj, hwr, h1, h2, readB, ih]
theorem Qnv (h : G_f85 E) (l : List Entry) (hl : l.length ≤ 1048576) (ho : ∀ x ∈ l, x.ok) : ∀ (r p : List Entry) (i : Int), l = p ++ r → i = p.length →
  f85_l0 E (.sl 4 (l.map Entry.u)) (.int .i64 i) = some (.bool (histB l r && decide (l.length ≤ 9)))
 | [], p, i, e, hi => by
  rw [Qnu]
  have e9 : decide ((l.length : Int) ≤ 9) = decide (l.length ≤ 9) := by rw [decide_eq_decide]; omega
  simp [Qi e hi, histB, e9]
 | x :: r, p, i, e, hi => by
  obtain ⟨h0, hlt, hx, hw, hn, hxi⟩ := Qg e hi (by omega)
  have ih := Qnv h l hl ho r (p ++ [x]) (i + 1) (Qf e) hn
  have h1 := Qnx h l hl ho x (ho x (by rw [e]; simp)) i h0 hxi hw x.reads [] 0 rfl rfl
  rw [Qnu]
  simp only [Qr, List.length_map, Option.bind_some, Qk, hlt, decide_true, Qc, if_true, h1, ih, histB, List.all_cons]
  simp only [histB] at ih
  cases x.reads.all (readB l x) <;> simp [ih]
theorem Qnz (h : G_f85 E) (l : List Entry) (hl : l.length ≤ 1048576) (ho : ∀ x ∈ l, x.ok) : ∀ (r p : List Entry) (i : Int), l = p ++ r → i = p.length →
  f85_l2 E (.sl 4 (l.map Entry.u)) (.int .i64 i) = some (.bool (histA p r && (histB l l && decide (l.length ≤ 9))))
 | [], p, i, e, hi => by
  have h0 := Qnv h l hl ho l [] 0 rfl rfl
  rw [Qny]
  simp [Qi e hi, histA, h0]
 | x :: r, p, i, e, hi => by
  obtain ⟨h0, hlt, hx, hw, hn, _⟩ := Qg e hi (by omega)
  have ih := Qnz h l hl ho r (p ++ [x]) (i + 1) (Qf e) hn
  have hox : x.ok := ho x (by rw [e]; simp)
  have he := Qxh h.c_f86 x.tx hox
  rw [Entry.tx_valid] at he
  have ht := Qxo h.c_f90 x
  have hpl : p.length ≤ 1048576 := by rw [e] at hl; simp at hl; omega
  have hf := Qg8 h.c_f83 p hpl x.id
  have hcut : U.cut false 4 (.sl 4 (l.map Entry.u)) none (some i) = some (.sl 4 (p.map Entry.u)) := by
   have h2 : i.toNat = p.length := by omega
   have h3 : i ≤ ((l.map Entry.u).length : Int) := by
    rw [e, hi]
    simp
    omega
   simp only [U.cut, Option.getD_none, Option.getD_some, Int.le_refl, h0, h3, and_self, if_true, h2, Int.toNat_zero, List.drop_zero]
   rw [e, List.map_append, List.take_left' (by simp)]
  have hff : decide (0 ≤ findE p x.id) = p.any (hasId x.id) := by
   have := Qff (hasId x.id) p (i := 0) (by omega)
   unfold findE
   exact this
  have hw1 : IntKind.i64.wrap (i - 1) = i - 1 := Qj (by omega)
  rw [Qny]
  cases g : x.good
  ·simp [hlt, hx, he, ht, g, histA]
  cases a : p.any (hasId x.id)
  rotate_left
  ·have a2 : 0 ≤ findE p x.id := by rw [a] at hff; simpa using hff
   simp [hlt, hx, he, ht, g, hf, hcut, a, a2, histA]
  have a2 : ¬ 0 ≤ findE p x.id := by rw [a] at hff; simpa using hff
  by_cases hz : 0 < i
  ·obtain ⟨q, hq, hqe⟩ := Qov Entry.u e hi hz
   by_cases c1 : x.stamp < q.stamp
   ·simp [hlt, hx, he, ht, g, hf, hcut, a, a2, hz, hw1, hqe, c1, histA, hq, ordB]
   ·by_cases c2 : x.stamp = q.stamp
    ·by_cases c3 : 0 < x.writes.length
     ·simp [hlt, hx, he, ht, g, hf, hcut, a, a2, hz, hw1, hqe, c1, c2, c3, histA, hq, ordB]
     ·simp [hlt, hx, he, ht, g, hf, hcut, a, a2, hz, hw1, hqe, c1, c2, c3, histA, hq, ordB, hw, ih]
    ·have c2' : ¬ q.stamp = x.stamp := fun h => c2 h.symm
     simp [hlt, hx, he, ht, g, hf, hcut, a, a2, hz, hw1, hqe, c1, c2, c2', histA, hq, ordB, hw, ih]
  ·have hp : p = [] := by
    have : p.length = 0 := by omega
    exact List.length_eq_zero_iff.1 this
   have hq : p.getLast? = none := by rw [hp]; rfl
   simp [hlt, hx, he, ht, g, hf, hcut, a, a2, hz, histA, hq, ordB, hw, ih]
theorem Qnt (h : G_f85 E) (l : List Entry) (hl : l.length ≤ 1048576) (ho : ∀ x ∈ l, x.ok) : E 243 [.sl 4 (l.map Entry.u)] = some (.bool (isHistory l)) := by
 rw [f85_E h, Qnz h l hl ho l [] 0 rfl rfl]
 simp [isHistory, Bool.and_assoc]
theorem Qdv {α : Type} (f : α → U) (h : ∀ x, (f x).flat = true) : ∀ l : List α, U.flat.flats (l.map f) = true
 | [] => rfl
 | x :: l => by
  simp only [List.map_cons, U.flat.flats, h x, Qdv f h l, Bool.and_self]
@[simp] theorem Qyb (l : List Edge) : U.flat.flats (l.map Edge.u) = true := Qdv _ (fun _ => rfl) l
@[simp] theorem Qaeu (l : List Int) : U.flat.flats (l.map intU) = true := Qdv _ (fun _ => rfl) l
end Go.Proofs.YtlgblpngiamhaaaGreat.Am
