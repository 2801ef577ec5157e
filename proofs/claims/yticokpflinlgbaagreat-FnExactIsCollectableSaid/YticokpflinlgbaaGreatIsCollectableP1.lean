import Derived.Test.YticokpflinlgbaaGreatIsCollectableP0
import Derived.Test.YticokpflinlgbaaGreatIsCollectableF1
import Derived.Test.YticokpflinlgbaaGreatIsCollectableF2
import Derived.Test.YticokpflinlgbaaGreatIsCollectableF0
import Derived.Test.YticokpflinlgbaaGreatAmY
/-
  What the laws' own helpers compute.
-/
namespace Go.Proofs.YticokpflinlgbaaGreat.Am
open Go
variable {E : Env}
set_option linter.unusedVariables false

theorem laws_toEngine_is (h : G_laws_toEngine E) (e : Engine) (ho : e.ok) : E 124 [e.u] = some e.u := by
  obtain ⟨o1, o2, o3, o4, o5⟩ := ho
  rw [laws_toEngine_E h]
  have a1 := laws_toStore_is h.c_laws_toStore e.store o1
  have a2 := laws_toTransactionS_is h.c_laws_toTransactionS e.transactions o2 o3
  have a3 := laws_toLockS_is h.c_laws_toLockS e.locks o4
  have a4 := laws_toWaitS_is h.c_laws_toWaitS e.waits o5
  simp [a1, a2, a3, a4]
  rfl

theorem laws_eqEngine_is (h : G_laws_eqEngine E) (x y : Engine) (hx : x.ok) (hy : y.ok) : E 125 [x.u, y.u] = some (.bool (decide (x = y))) := by
  obtain ⟨o1, o2, o3, o4, o5⟩ := hx
  obtain ⟨p1, p2, p3, p4, p5⟩ := hy
  rw [laws_eqEngine_E h]
  have a1 := laws_eqStore_is h.c_laws_eqStore x.store y.store o1 p1
  have a2 := laws_eqTransactionS_is h.c_laws_eqTransactionS x.transactions y.transactions o2 p2 o3 p3
  have a3 := laws_eqLockS_is h.c_laws_eqLockS x.locks y.locks o4 p4
  have a4 := laws_eqWaitS_is h.c_laws_eqWaitS x.waits y.waits o5 p5
  simp only [Engine.eq_iff]
  by_cases h0 : x.certify = y.certify
  case neg => simp [h0]
  by_cases h1 : x.store = y.store
  case neg => simp [h0, a1, h1]
  rw [h1] at a1
  by_cases h2 : x.transactions = y.transactions
  case neg => simp [h0, a1, h1, a2, h2]
  rw [h2] at a2
  by_cases h3 : x.locks = y.locks
  case neg => simp [h0, a1, h1, a2, h2, a3, h3]
  rw [h3] at a3
  by_cases h4 : x.waits = y.waits
  case neg => simp [h0, a1, h1, a2, h2, a3, h3, a4, h4]
  rw [h4] at a4
  by_cases h5 : x.stamp = y.stamp <;> simp [h0, a1, h1, a2, h2, a3, h3, a4, h4, h5]

theorem laws_szEngine_is (h : G_laws_szEngine E) (e : Engine) (hf : e.fit) (left : Int) (h0 : 0 ≤ left) (h1 : left ≤ 1048576) : E 128 [e.u, .int .i64 left] = some (.int .i64 (e.sz left)) := by
  obtain ⟨f1, f2, f3, f4, f5⟩ := hf
  rw [laws_szEngine_E h]
  have a1 := laws_szStore_is h.c_laws_szStore e.store f1 left h0 h1
  rcases Store.sz_szs e.store left h0 h1 with n1 | ⟨_, n1, n2⟩
  · simp [a1, n1, Engine.sz]
  have n3 : ¬ e.store.sz left < 0 := by omega
  have a2 := laws_szTransactionS_is h.c_laws_szTransactionS e.transactions f2 f3 _ n1 (by omega)
  rcases szL_szs Transaction.sz_szs e.transactions _ n1 (by omega) with m1 | ⟨_, m1, m2⟩
  · simp [a1, n3, a2, m1, Engine.sz]
  have m3 : ¬ szL Transaction.sz e.transactions (e.store.sz left) < 0 := by omega
  have a3 := laws_szLockS_is h.c_laws_szLockS e.locks f4 _ m1 (by omega)
  rcases szc_szs e.locks.length _ m1 (by omega) with k1 | ⟨_, k1, k2⟩
  · simp [a1, n3, a2, m3, a3, k1, Engine.sz]
  have k3 : ¬ szc e.locks.length (szL Transaction.sz e.transactions (e.store.sz left)) < 0 := by omega
  have a4 := laws_szWaitS_is h.c_laws_szWaitS e.waits f5 _ k1 (by omega)
  by_cases j1 : szc e.waits.length (szc e.locks.length (szL Transaction.sz e.transactions (e.store.sz left))) < 0
  · have j2 := szc_neg j1
    simp [a1, n3, a2, m3, a3, k3, a4, j2, Engine.sz]
  · simp [a1, n3, a2, m3, a3, k3, a4, j1, Engine.sz]

end Go.Proofs.YticokpflinlgbaaGreat.Am
/-
  Data of a struct's make ('Fits') are such a struct, as plain data.
-/
namespace Go.Proofs.YticokpflinlgbaaGreat.Am
open Go

abbrev shI : Sh := .int .i64
theorem fits_int {u : U} (h : Fits shI u) : ∃ n, u = .int .i64 n ∧ -9223372036854775808 ≤ n ∧ n ≤ 9223372036854775807 := by
  cases u <;> first | exact h.elim | skip
  rename_i k n
  obtain ⟨rfl, h1, h2⟩ := h
  exact ⟨n, rfl, h1, h2⟩
theorem fits_bool {u : U} (h : Fits .bool u) : ∃ b, u = .bool b := by
  cases u <;> first | exact h.elim | exact ⟨_, rfl⟩
theorem fits_str {u : U} (h : Fits .str u) : ∃ s, u = .str s ∧ s.size ≤ maxLen := by
  cases u <;> first | exact h.elim | exact ⟨_, rfl, h⟩
theorem fits_agg {ss : List Sh} {u : U} (h : Fits (.agg ss) u) : ∃ us, u = .agg us ∧ Fits.fits ss us := by
  cases u <;> first | exact h.elim | exact ⟨_, rfl, h⟩
theorem fits_cons {s : Sh} {ss : List Sh} {us : List U} (h : Fits.fits (s :: ss) us) : ∃ u us', us = u :: us' ∧ Fits s u ∧ Fits.fits ss us' := by
  cases us with
  | nil => exact h.elim
  | cons u us => exact ⟨u, us, rfl, h.1, h.2⟩
theorem fits_nil {us : List U} (h : Fits.fits [] us) : us = [] := by
  cases us with
  | nil => rfl
  | cons u us => exact h.elim
theorem fits_map {α : Type} {s : Sh} {f : α → U} {Q : α → Prop} (hs : ∀ u, Fits s u → ∃ x, u = f x ∧ Q x) : ∀ us : List U, (∀ u ∈ us, Fits s u) → ∃ l : List α, us = l.map f ∧ ∀ x ∈ l, Q x
  | [], _ => ⟨[], rfl, by simp⟩
  | u :: us, h => by
    obtain ⟨x, rfl, hx⟩ := hs u (h u (by simp))
    obtain ⟨l, rfl, hl⟩ := fits_map hs us (fun v hv => h v (by simp [hv]))
    exact ⟨x :: l, rfl, by simpa using ⟨hx, hl⟩⟩
theorem fits_sl {α : Type} {k : Nat} {s : Sh} {f : α → U} {Q : α → Prop} (hs : ∀ u, Fits s u → ∃ x, u = f x ∧ Q x) {u : U} (h : Fits (.sl k s) u) : ∃ l : List α, u = .sl k (l.map f) ∧ l.length ≤ maxLen ∧ ∀ x ∈ l, Q x := by
  cases u <;> first | exact h.elim | skip
  obtain ⟨rfl, h1, h2⟩ := h
  obtain ⟨l, rfl, hl⟩ := fits_map hs _ h2
  exact ⟨l, rfl, by simpa using h1, hl⟩
theorem fits_ints {u : U} (h : Fits (.sl 1 shI) u) : ∃ l : List Int, u = .sl 1 (l.map intU) ∧ l.length ≤ maxLen := by
  obtain ⟨l, h1, h2, _⟩ := fits_sl (f := intU) (Q := fun _ => True) (fun u h => by obtain ⟨n, hn, _⟩ := fits_int h; exact ⟨n, hn, trivial⟩) h
  exact ⟨l, h1, h2⟩

abbrev shEdge : Sh := .agg [shI, shI, shI, shI]
theorem fits_Edge (u : U) (h : Fits shEdge u) : ∃ x : Edge, u = x.u ∧ True := by
  obtain ⟨us0, rfl, hs0⟩ := fits_agg h
  obtain ⟨u0, us1, rfl, h0, hs1⟩ := fits_cons hs0
  obtain ⟨a0, rfl, _⟩ := fits_int h0
  obtain ⟨u1, us2, rfl, h1, hs2⟩ := fits_cons hs1
  obtain ⟨a1, rfl, _⟩ := fits_int h1
  obtain ⟨u2, us3, rfl, h2, hs3⟩ := fits_cons hs2
  obtain ⟨a2, rfl, _⟩ := fits_int h2
  obtain ⟨u3, us4, rfl, h3, hs4⟩ := fits_cons hs3
  obtain ⟨a3, rfl, _⟩ := fits_int h3
  obtain rfl := fits_nil hs4
  exact ⟨⟨a0, a1, a2, a3⟩, rfl, trivial⟩

abbrev shReadMark : Sh := .agg [shI, shI]
theorem fits_ReadMark (u : U) (h : Fits shReadMark u) : ∃ x : ReadMark, u = x.u ∧ True := by
  obtain ⟨us0, rfl, hs0⟩ := fits_agg h
  obtain ⟨u0, us1, rfl, h0, hs1⟩ := fits_cons hs0
  obtain ⟨a0, rfl, _⟩ := fits_int h0
  obtain ⟨u1, us2, rfl, h1, hs2⟩ := fits_cons hs1
  obtain ⟨a1, rfl, _⟩ := fits_int h1
  obtain rfl := fits_nil hs2
  exact ⟨⟨a0, a1⟩, rfl, trivial⟩

abbrev shWrite : Sh := .agg [shI, shI]
theorem fits_Write (u : U) (h : Fits shWrite u) : ∃ x : Write, u = x.u ∧ True := by
  obtain ⟨us0, rfl, hs0⟩ := fits_agg h
  obtain ⟨u0, us1, rfl, h0, hs1⟩ := fits_cons hs0
  obtain ⟨a0, rfl, _⟩ := fits_int h0
  obtain ⟨u1, us2, rfl, h1, hs2⟩ := fits_cons hs1
  obtain ⟨a1, rfl, _⟩ := fits_int h1
  obtain rfl := fits_nil hs2
  exact ⟨⟨a0, a1⟩, rfl, trivial⟩

abbrev shLock : Sh := .agg [shI, shI]
theorem fits_Lock (u : U) (h : Fits shLock u) : ∃ x : Lock, u = x.u ∧ True := by
  obtain ⟨us0, rfl, hs0⟩ := fits_agg h
  obtain ⟨u0, us1, rfl, h0, hs1⟩ := fits_cons hs0
  obtain ⟨a0, rfl, _⟩ := fits_int h0
  obtain ⟨u1, us2, rfl, h1, hs2⟩ := fits_cons hs1
  obtain ⟨a1, rfl, _⟩ := fits_int h1
  obtain rfl := fits_nil hs2
  exact ⟨⟨a0, a1⟩, rfl, trivial⟩

abbrev shWait : Sh := .agg [shI, shI]
theorem fits_Wait (u : U) (h : Fits shWait u) : ∃ x : Wait, u = x.u ∧ True := by
  obtain ⟨us0, rfl, hs0⟩ := fits_agg h
  obtain ⟨u0, us1, rfl, h0, hs1⟩ := fits_cons hs0
  obtain ⟨a0, rfl, _⟩ := fits_int h0
  obtain ⟨u1, us2, rfl, h1, hs2⟩ := fits_cons hs1
  obtain ⟨a1, rfl, _⟩ := fits_int h1
  obtain rfl := fits_nil hs2
  exact ⟨⟨a0, a1⟩, rfl, trivial⟩

abbrev shVersion : Sh := .agg [shI, shI, shI, shI, shI]
theorem fits_Version (u : U) (h : Fits shVersion u) : ∃ x : Version, u = x.u ∧ True := by
  obtain ⟨us0, rfl, hs0⟩ := fits_agg h
  obtain ⟨u0, us1, rfl, h0, hs1⟩ := fits_cons hs0
  obtain ⟨a0, rfl, _⟩ := fits_int h0
  obtain ⟨u1, us2, rfl, h1, hs2⟩ := fits_cons hs1
  obtain ⟨a1, rfl, _⟩ := fits_int h1
  obtain ⟨u2, us3, rfl, h2, hs3⟩ := fits_cons hs2
  obtain ⟨a2, rfl, _⟩ := fits_int h2
  obtain ⟨u3, us4, rfl, h3, hs4⟩ := fits_cons hs3
  obtain ⟨a3, rfl, _⟩ := fits_int h3
  obtain ⟨u4, us5, rfl, h4, hs5⟩ := fits_cons hs4
  obtain ⟨a4, rfl, _⟩ := fits_int h4
  obtain rfl := fits_nil hs5
  exact ⟨⟨a0, a1, a2, a3, a4⟩, rfl, trivial⟩

abbrev shEntry : Sh := .agg [shI, shI, .sl 2 shReadMark, .sl 2 shWrite]
theorem fits_Entry (u : U) (h : Fits shEntry u) : ∃ x : Entry, u = x.u ∧ x.fit := by
  obtain ⟨us0, rfl, hs0⟩ := fits_agg h
  obtain ⟨u0, us1, rfl, h0, hs1⟩ := fits_cons hs0
  obtain ⟨a0, rfl, _⟩ := fits_int h0
  obtain ⟨u1, us2, rfl, h1, hs2⟩ := fits_cons hs1
  obtain ⟨a1, rfl, _⟩ := fits_int h1
  obtain ⟨u2, us3, rfl, h2, hs3⟩ := fits_cons hs2
  obtain ⟨a2, rfl, l2, _⟩ := fits_sl fits_ReadMark h2
  obtain ⟨u3, us4, rfl, h3, hs4⟩ := fits_cons hs3
  obtain ⟨a3, rfl, l3, _⟩ := fits_sl fits_Write h3
  obtain rfl := fits_nil hs4
  exact ⟨⟨a0, a1, a2, a3⟩, rfl, ⟨l2, l3⟩⟩

abbrev shLogRecord : Sh := .agg [shI, shI, shI, shI, .sl 2 shReadMark, .sl 2 shWrite]
theorem fits_LogRecord (u : U) (h : Fits shLogRecord u) : ∃ x : LogRecord, u = x.u ∧ x.fit := by
  obtain ⟨us0, rfl, hs0⟩ := fits_agg h
  obtain ⟨u0, us1, rfl, h0, hs1⟩ := fits_cons hs0
  obtain ⟨a0, rfl, _⟩ := fits_int h0
  obtain ⟨u1, us2, rfl, h1, hs2⟩ := fits_cons hs1
  obtain ⟨a1, rfl, _⟩ := fits_int h1
  obtain ⟨u2, us3, rfl, h2, hs3⟩ := fits_cons hs2
  obtain ⟨a2, rfl, _⟩ := fits_int h2
  obtain ⟨u3, us4, rfl, h3, hs4⟩ := fits_cons hs3
  obtain ⟨a3, rfl, _⟩ := fits_int h3
  obtain ⟨u4, us5, rfl, h4, hs5⟩ := fits_cons hs4
  obtain ⟨a4, rfl, l4, _⟩ := fits_sl fits_ReadMark h4
  obtain ⟨u5, us6, rfl, h5, hs6⟩ := fits_cons hs5
  obtain ⟨a5, rfl, l5, _⟩ := fits_sl fits_Write h5
  obtain rfl := fits_nil hs6
  exact ⟨⟨a0, a1, a2, a3, a4, a5⟩, rfl, ⟨l4, l5⟩⟩

abbrev shTransaction : Sh := .agg [shI, shI, shI, shI, shI, shI, shI, .sl 2 shReadMark, .sl 2 shWrite]
theorem fits_Transaction (u : U) (h : Fits shTransaction u) : ∃ x : Transaction, u = x.u ∧ x.fit := by
  obtain ⟨us0, rfl, hs0⟩ := fits_agg h
  obtain ⟨u0, us1, rfl, h0, hs1⟩ := fits_cons hs0
  obtain ⟨a0, rfl, _⟩ := fits_int h0
  obtain ⟨u1, us2, rfl, h1, hs2⟩ := fits_cons hs1
  obtain ⟨a1, rfl, _⟩ := fits_int h1
  obtain ⟨u2, us3, rfl, h2, hs3⟩ := fits_cons hs2
  obtain ⟨a2, rfl, _⟩ := fits_int h2
  obtain ⟨u3, us4, rfl, h3, hs4⟩ := fits_cons hs3
  obtain ⟨a3, rfl, _⟩ := fits_int h3
  obtain ⟨u4, us5, rfl, h4, hs5⟩ := fits_cons hs4
  obtain ⟨a4, rfl, _⟩ := fits_int h4
  obtain ⟨u5, us6, rfl, h5, hs6⟩ := fits_cons hs5
  obtain ⟨a5, rfl, _⟩ := fits_int h5
  obtain ⟨u6, us7, rfl, h6, hs7⟩ := fits_cons hs6
  obtain ⟨a6, rfl, _⟩ := fits_int h6
  obtain ⟨u7, us8, rfl, h7, hs8⟩ := fits_cons hs7
  obtain ⟨a7, rfl, l7, _⟩ := fits_sl fits_ReadMark h7
  obtain ⟨u8, us9, rfl, h8, hs9⟩ := fits_cons hs8
  obtain ⟨a8, rfl, l8, _⟩ := fits_sl fits_Write h8
  obtain rfl := fits_nil hs9
  exact ⟨⟨a0, a1, a2, a3, a4, a5, a6, a7, a8⟩, rfl, ⟨l7, l8⟩⟩

abbrev shStore : Sh := .agg [.sl 1 (.sl 5 shVersion)]
theorem fits_chain (u : U) (h : Fits (.sl 5 shVersion) u) : ∃ l : List Version, u = chainU l ∧ chainFit l := by
  obtain ⟨l, h1, h2, _⟩ := fits_sl fits_Version h
  exact ⟨l, h1, h2⟩
theorem fits_Store (u : U) (h : Fits shStore u) : ∃ s : Store, u = s.u ∧ s.fit := by
  obtain ⟨us0, rfl, hs0⟩ := fits_agg h
  obtain ⟨u0, us1, rfl, h0, hs1⟩ := fits_cons hs0
  obtain ⟨l, rfl, h1, h2⟩ := fits_sl fits_chain h0
  obtain rfl := fits_nil hs1
  exact ⟨⟨l⟩, rfl, h1, h2⟩
abbrev shEngine : Sh := .agg [.bool, shStore, .sl 9 shTransaction, .sl 2 shLock, .sl 2 shWait, shI]
theorem fits_Engine (u : U) (h : Fits shEngine u) : ∃ e : Engine, u = e.u ∧ e.fit := by
  obtain ⟨us0, rfl, hs0⟩ := fits_agg h
  obtain ⟨u0, us1, rfl, h0, hs1⟩ := fits_cons hs0
  obtain ⟨b, rfl⟩ := fits_bool h0
  obtain ⟨u1, us2, rfl, h1, hs2⟩ := fits_cons hs1
  obtain ⟨s, rfl, f1⟩ := fits_Store _ h1
  obtain ⟨u2, us3, rfl, h2, hs3⟩ := fits_cons hs2
  obtain ⟨ts, rfl, f2, f3⟩ := fits_sl fits_Transaction h2
  obtain ⟨u3, us4, rfl, h3, hs4⟩ := fits_cons hs3
  obtain ⟨ls, rfl, f4, _⟩ := fits_sl fits_Lock h3
  obtain ⟨u4, us5, rfl, h4, hs5⟩ := fits_cons hs4
  obtain ⟨ws, rfl, f5, _⟩ := fits_sl fits_Wait h4
  obtain ⟨u5, us6, rfl, h5, hs6⟩ := fits_cons hs5
  obtain ⟨n, rfl, _⟩ := fits_int h5
  obtain rfl := fits_nil hs6
  exact ⟨⟨b, s, ts, ls, ws, n⟩, rfl, f1, f2, f3, f4, f5⟩

end Go.Proofs.YticokpflinlgbaaGreat.Am
/-
  The law FnExactIsCollectable returns true.
-/
namespace Go.Proofs.YticokpflinlgbaaGreat.Am
open Go
variable {E : Env}

theorem law_IsCollectable (h : G_laws_FnExactIsCollectable E) (us : List U) (hus : Fits.fits [shEngine, shI, shI] us) : E 382 us = some (.bool true) := by
  obtain ⟨u0, us1, rfl, h0, hus1⟩ := fits_cons hus
  obtain ⟨u1, us2, rfl, h1, hus2⟩ := fits_cons hus1
  obtain ⟨u2, us3, rfl, h2, hus3⟩ := fits_cons hus2
  obtain rfl := fits_nil hus3
  obtain ⟨x, rfl, hx⟩ := fits_Engine _ h0
  obtain ⟨k, rfl, _⟩ := fits_int h1
  obtain ⟨c, rfl, _⟩ := fits_int h2
  rw [laws_FnExactIsCollectable_E h]
  have s1 := laws_szEngine_is h.c_laws_szEngine x hx 1048576 (by omega) (by omega)
  rcases Engine.sz_szs x 1048576 (by omega) (by omega) with n1 | ⟨ox, n1, n2⟩
  · simp [s1, n1]
  have n3 : ¬ x.sz 1048576 < 0 := by omega
  simp [s1, n3, laws_toEngine_is h.c_laws_toEngine _ ox, spec_IsCollectable_is h.c_spec_IsCollectable x ox, impl_IsCollectable_is h.c_impl_IsCollectable x ox, laws_eqEngine_is h.c_laws_eqEngine x x ox ox]
end Go.Proofs.YticokpflinlgbaaGreat.Am
