import Derived.Test.YtcmkhpjehecloaaAmY
import Derived.Test.YtcmkhpjehecloaaOldestReadableP0
import Derived.Test.YtcmkhpjehecloaaOldestReadableF1
/-
  Data of a struct's make ('Fits') are such a struct, as plain data.
-/
namespace Go.Proofs.Ytcmkhpjehecloaa.Am
open Go

abbrev shI : Sh := .int .i64
theorem fits_int {u : U} (h : Fits shI u) : ∃ n, u = .int .i64 n ∧ -9223372036854775808 ≤ n ∧ n ≤ 9223372036854775807 := by
  cases u <;> first | exact h.elim | skip
  rename_i k n
  obtain ⟨rfl, h1, h2⟩ := h
  exact ⟨n, rfl, h1, h2⟩
theorem fits_bool {u : U} (h : Fits .bool u) : ∃ b, u = .bool b := by
  cases u <;> first | exact h.elim | exact ⟨_, rfl⟩
theorem fits_str {u : U} (h : Fits .str u) : ∃ s, u = .str s ∧ s.size ≤ maxLen := by
  cases u <;> first | exact h.elim | exact ⟨_, rfl, h⟩
theorem fits_agg {ss : List Sh} {u : U} (h : Fits (.agg ss) u) : ∃ us, u = .agg us ∧ Fits.fits ss us := by
  cases u <;> first | exact h.elim | exact ⟨_, rfl, h⟩
theorem fits_cons {s : Sh} {ss : List Sh} {us : List U} (h : Fits.fits (s :: ss) us) : ∃ u us', us = u :: us' ∧ Fits s u ∧ Fits.fits ss us' := by
  cases us with
  | nil => exact h.elim
  | cons u us => exact ⟨u, us, rfl, h.1, h.2⟩
theorem fits_nil {us : List U} (h : Fits.fits [] us) : us = [] := by
  cases us with
  | nil => rfl
  | cons u us => exact h.elim
theorem fits_map {α : Type} {s : Sh} {f : α → U} {Q : α → Prop} (hs : ∀ u, Fits s u → ∃ x, u = f x ∧ Q x) : ∀ us : List U, (∀ u ∈ us, Fits s u) → ∃ l : List α, us = l.map f ∧ ∀ x ∈ l, Q x
  | [], _ => ⟨[], rfl, by simp⟩
  | u :: us, h => by
    obtain ⟨x, rfl, hx⟩ := hs u (h u (by simp))
    obtain ⟨l, rfl, hl⟩ := fits_map hs us (fun v hv => h v (by simp [hv]))
    exact ⟨x :: l, rfl, by simpa using ⟨hx, hl⟩⟩
theorem fits_sl {α : Type} {k : Nat} {s : Sh} {f : α → U} {Q : α → Prop} (hs : ∀ u, Fits s u → ∃ x, u = f x ∧ Q x) {u : U} (h : Fits (.sl k s) u) : ∃ l : List α, u = .sl k (l.map f) ∧ l.length ≤ maxLen ∧ ∀ x ∈ l, Q x := by
  cases u <;> first | exact h.elim | skip
  obtain ⟨rfl, h1, h2⟩ := h
  obtain ⟨l, rfl, hl⟩ := fits_map hs _ h2
  exact ⟨l, rfl, by simpa using h1, hl⟩
theorem fits_ints {u : U} (h : Fits (.sl 1 shI) u) : ∃ l : List Int, u = .sl 1 (l.map intU) ∧ l.length ≤ maxLen := by
  obtain ⟨l, h1, h2, _⟩ := fits_sl (f := intU) (Q := fun _ => True) (fun u h => by obtain ⟨n, hn, _⟩ := fits_int h; exact ⟨n, hn, trivial⟩) h
  exact ⟨l, h1, h2⟩

abbrev shEdge : Sh := .agg [shI, shI, shI, shI]
theorem fits_Edge (u : U) (h : Fits shEdge u) : ∃ x : Edge, u = x.u ∧ True := by
  obtain ⟨us0, rfl, hs0⟩ := fits_agg h
  obtain ⟨u0, us1, rfl, h0, hs1⟩ := fits_cons hs0
  obtain ⟨a0, rfl, _⟩ := fits_int h0
  obtain ⟨u1, us2, rfl, h1, hs2⟩ := fits_cons hs1
  obtain ⟨a1, rfl, _⟩ := fits_int h1
  obtain ⟨u2, us3, rfl, h2, hs3⟩ := fits_cons hs2
  obtain ⟨a2, rfl, _⟩ := fits_int h2
  obtain ⟨u3, us4, rfl, h3, hs4⟩ := fits_cons hs3
  obtain ⟨a3, rfl, _⟩ := fits_int h3
  obtain rfl := fits_nil hs4
  exact ⟨⟨a0, a1, a2, a3⟩, rfl, trivial⟩

abbrev shReadMark : Sh := .agg [shI, shI]
theorem fits_ReadMark (u : U) (h : Fits shReadMark u) : ∃ x : ReadMark, u = x.u ∧ True := by
  obtain ⟨us0, rfl, hs0⟩ := fits_agg h
  obtain ⟨u0, us1, rfl, h0, hs1⟩ := fits_cons hs0
  obtain ⟨a0, rfl, _⟩ := fits_int h0
  obtain ⟨u1, us2, rfl, h1, hs2⟩ := fits_cons hs1
  obtain ⟨a1, rfl, _⟩ := fits_int h1
  obtain rfl := fits_nil hs2
  exact ⟨⟨a0, a1⟩, rfl, trivial⟩

abbrev shWrite : Sh := .agg [shI, shI]
theorem fits_Write (u : U) (h : Fits shWrite u) : ∃ x : Write, u = x.u ∧ True := by
  obtain ⟨us0, rfl, hs0⟩ := fits_agg h
  obtain ⟨u0, us1, rfl, h0, hs1⟩ := fits_cons hs0
  obtain ⟨a0, rfl, _⟩ := fits_int h0
  obtain ⟨u1, us2, rfl, h1, hs2⟩ := fits_cons hs1
  obtain ⟨a1, rfl, _⟩ := fits_int h1
  obtain rfl := fits_nil hs2
  exact ⟨⟨a0, a1⟩, rfl, trivial⟩

abbrev shLock : Sh := .agg [shI, shI]
theorem fits_Lock (u : U) (h : Fits shLock u) : ∃ x : Lock, u = x.u ∧ True := by
  obtain ⟨us0, rfl, hs0⟩ := fits_agg h
  obtain ⟨u0, us1, rfl, h0, hs1⟩ := fits_cons hs0
  obtain ⟨a0, rfl, _⟩ := fits_int h0
  obtain ⟨u1, us2, rfl, h1, hs2⟩ := fits_cons hs1
  obtain ⟨a1, rfl, _⟩ := fits_int h1
  obtain rfl := fits_nil hs2
  exact ⟨⟨a0, a1⟩, rfl, trivial⟩

abbrev shWait : Sh := .agg [shI, shI]
theorem fits_Wait (u : U) (h : Fits shWait u) : ∃ x : Wait, u = x.u ∧ True := by
  obtain ⟨us0, rfl, hs0⟩ := fits_agg h
  obtain ⟨u0, us1, rfl, h0, hs1⟩ := fits_cons hs0
  obtain ⟨a0, rfl, _⟩ := fits_int h0
  obtain ⟨u1, us2, rfl, h1, hs2⟩ := fits_cons hs1
  obtain ⟨a1, rfl, _⟩ := fits_int h1
  obtain rfl := fits_nil hs2
  exact ⟨⟨a0, a1⟩, rfl, trivial⟩

abbrev shVersion : Sh := .agg [shI, shI, shI, shI, shI]
theorem fits_Version (u : U) (h : Fits shVersion u) : ∃ x : Version, u = x.u ∧ True := by
  obtain ⟨us0, rfl, hs0⟩ := fits_agg h
  obtain ⟨u0, us1, rfl, h0, hs1⟩ := fits_cons hs0
  obtain ⟨a0, rfl, _⟩ := fits_int h0
  obtain ⟨u1, us2, rfl, h1, hs2⟩ := fits_cons hs1
  obtain ⟨a1, rfl, _⟩ := fits_int h1
  obtain ⟨u2, us3, rfl, h2, hs3⟩ := fits_cons hs2
  obtain ⟨a2, rfl, _⟩ := fits_int h2
  obtain ⟨u3, us4, rfl, h3, hs4⟩ := fits_cons hs3
  obtain ⟨a3, rfl, _⟩ := fits_int h3
  obtain ⟨u4, us5, rfl, h4, hs5⟩ := fits_cons hs4
  obtain ⟨a4, rfl, _⟩ := fits_int h4
  obtain rfl := fits_nil hs5
  exact ⟨⟨a0, a1, a2, a3, a4⟩, rfl, trivial⟩

abbrev shEntry : Sh := .agg [shI, shI, .sl 2 shReadMark, .sl 2 shWrite]
theorem fits_Entry (u : U) (h : Fits shEntry u) : ∃ x : Entry, u = x.u ∧ x.fit := by
  obtain ⟨us0, rfl, hs0⟩ := fits_agg h
  obtain ⟨u0, us1, rfl, h0, hs1⟩ := fits_cons hs0
  obtain ⟨a0, rfl, _⟩ := fits_int h0
  obtain ⟨u1, us2, rfl, h1, hs2⟩ := fits_cons hs1
  obtain ⟨a1, rfl, _⟩ := fits_int h1
  obtain ⟨u2, us3, rfl, h2, hs3⟩ := fits_cons hs2
  obtain ⟨a2, rfl, l2, _⟩ := fits_sl fits_ReadMark h2
  obtain ⟨u3, us4, rfl, h3, hs4⟩ := fits_cons hs3
  obtain ⟨a3, rfl, l3, _⟩ := fits_sl fits_Write h3
  obtain rfl := fits_nil hs4
  exact ⟨⟨a0, a1, a2, a3⟩, rfl, ⟨l2, l3⟩⟩

abbrev shLogRecord : Sh := .agg [shI, shI, shI, shI, .sl 2 shReadMark, .sl 2 shWrite]
theorem fits_LogRecord (u : U) (h : Fits shLogRecord u) : ∃ x : LogRecord, u = x.u ∧ x.fit := by
  obtain ⟨us0, rfl, hs0⟩ := fits_agg h
  obtain ⟨u0, us1, rfl, h0, hs1⟩ := fits_cons hs0
  obtain ⟨a0, rfl, _⟩ := fits_int h0
  obtain ⟨u1, us2, rfl, h1, hs2⟩ := fits_cons hs1
  obtain ⟨a1, rfl, _⟩ := fits_int h1
  obtain ⟨u2, us3, rfl, h2, hs3⟩ := fits_cons hs2
  obtain ⟨a2, rfl, _⟩ := fits_int h2
  obtain ⟨u3, us4, rfl, h3, hs4⟩ := fits_cons hs3
  obtain ⟨a3, rfl, _⟩ := fits_int h3
  obtain ⟨u4, us5, rfl, h4, hs5⟩ := fits_cons hs4
  obtain ⟨a4, rfl, l4, _⟩ := fits_sl fits_ReadMark h4
  obtain ⟨u5, us6, rfl, h5, hs6⟩ := fits_cons hs5
  obtain ⟨a5, rfl, l5, _⟩ := fits_sl fits_Write h5
  obtain rfl := fits_nil hs6
  exact ⟨⟨a0, a1, a2, a3, a4, a5⟩, rfl, ⟨l4, l5⟩⟩

abbrev shTransaction : Sh := .agg [shI, shI, shI, shI, shI, shI, shI, .sl 2 shReadMark, .sl 2 shWrite]
theorem fits_Transaction (u : U) (h : Fits shTransaction u) : ∃ x : Transaction, u = x.u ∧ x.fit := by
  obtain ⟨us0, rfl, hs0⟩ := fits_agg h
  obtain ⟨u0, us1, rfl, h0, hs1⟩ := fits_cons hs0
  obtain ⟨a0, rfl, _⟩ := fits_int h0
  obtain ⟨u1, us2, rfl, h1, hs2⟩ := fits_cons hs1
  obtain ⟨a1, rfl, _⟩ := fits_int h1
  obtain ⟨u2, us3, rfl, h2, hs3⟩ := fits_cons hs2
  obtain ⟨a2, rfl, _⟩ := fits_int h2
  obtain ⟨u3, us4, rfl, h3, hs4⟩ := fits_cons hs3
  obtain ⟨a3, rfl, _⟩ := fits_int h3
  obtain ⟨u4, us5, rfl, h4, hs5⟩ := fits_cons hs4
  obtain ⟨a4, rfl, _⟩ := fits_int h4
  obtain ⟨u5, us6, rfl, h5, hs6⟩ := fits_cons hs5
  obtain ⟨a5, rfl, _⟩ := fits_int h5
  obtain ⟨u6, us7, rfl, h6, hs7⟩ := fits_cons hs6
  obtain ⟨a6, rfl, _⟩ := fits_int h6
  obtain ⟨u7, us8, rfl, h7, hs8⟩ := fits_cons hs7
  obtain ⟨a7, rfl, l7, _⟩ := fits_sl fits_ReadMark h7
  obtain ⟨u8, us9, rfl, h8, hs9⟩ := fits_cons hs8
  obtain ⟨a8, rfl, l8, _⟩ := fits_sl fits_Write h8
  obtain rfl := fits_nil hs9
  exact ⟨⟨a0, a1, a2, a3, a4, a5, a6, a7, a8⟩, rfl, ⟨l7, l8⟩⟩

abbrev shStore : Sh := .agg [.sl 1 (.sl 5 shVersion)]
theorem fits_chain (u : U) (h : Fits (.sl 5 shVersion) u) : ∃ l : List Version, u = chainU l ∧ chainFit l := by
  obtain ⟨l, h1, h2, _⟩ := fits_sl fits_Version h
  exact ⟨l, h1, h2⟩
theorem fits_Store (u : U) (h : Fits shStore u) : ∃ s : Store, u = s.u ∧ s.fit := by
  obtain ⟨us0, rfl, hs0⟩ := fits_agg h
  obtain ⟨u0, us1, rfl, h0, hs1⟩ := fits_cons hs0
  obtain ⟨l, rfl, h1, h2⟩ := fits_sl fits_chain h0
  obtain rfl := fits_nil hs1
  exact ⟨⟨l⟩, rfl, h1, h2⟩
abbrev shEngine : Sh := .agg [.bool, shStore, .sl 9 shTransaction, .sl 2 shLock, .sl 2 shWait, shI]
theorem fits_Engine (u : U) (h : Fits shEngine u) : ∃ e : Engine, u = e.u ∧ e.fit := by
  obtain ⟨us0, rfl, hs0⟩ := fits_agg h
  obtain ⟨u0, us1, rfl, h0, hs1⟩ := fits_cons hs0
  obtain ⟨b, rfl⟩ := fits_bool h0
  obtain ⟨u1, us2, rfl, h1, hs2⟩ := fits_cons hs1
  obtain ⟨s, rfl, f1⟩ := fits_Store _ h1
  obtain ⟨u2, us3, rfl, h2, hs3⟩ := fits_cons hs2
  obtain ⟨ts, rfl, f2, f3⟩ := fits_sl fits_Transaction h2
  obtain ⟨u3, us4, rfl, h3, hs4⟩ := fits_cons hs3
  obtain ⟨ls, rfl, f4, _⟩ := fits_sl fits_Lock h3
  obtain ⟨u4, us5, rfl, h4, hs5⟩ := fits_cons hs4
  obtain ⟨ws, rfl, f5, _⟩ := fits_sl fits_Wait h4
  obtain ⟨u5, us6, rfl, h5, hs6⟩ := fits_cons hs5
  obtain ⟨n, rfl, _⟩ := fits_int h5
  obtain rfl := fits_nil hs6
  exact ⟨⟨b, s, ts, ls, ws, n⟩, rfl, f1, f2, f3, f4, f5⟩

end Go.Proofs.Ytcmkhpjehecloaa.Am
/-
  The law FnExactOldestReadable returns true.
-/
namespace Go.Proofs.Ytcmkhpjehecloaa.Am
open Go
variable {E : Env}

theorem law_OldestReadable (h : G_laws_FnExactOldestReadable E) (us : List U) (hus : Fits.fits [shEngine] us) : E 330 us = some (.bool true) := by
  obtain ⟨u0, us1, rfl, h0, hus1⟩ := fits_cons hus
  obtain rfl := fits_nil hus1
  obtain ⟨x, rfl, hx⟩ := fits_Engine _ h0
  rw [laws_FnExactOldestReadable_E h]
  have s1 := laws_szEngine_is h.c_laws_szEngine x hx 1048576 (by omega) (by omega)
  rcases Engine.sz_szs x 1048576 (by omega) (by omega) with n1 | ⟨ox, n1, n2⟩
  · simp [s1, n1]
  have n3 : ¬ x.sz 1048576 < 0 := by omega
  simp [s1, n3, laws_toEngine_is h.c_laws_toEngine _ ox, spec_OldestReadable_is h.c_spec_OldestReadable x ox, impl_OldestReadable_is h.c_impl_OldestReadable x ox, laws_eqEngine_is h.c_laws_eqEngine x x ox ox]
end Go.Proofs.Ytcmkhpjehecloaa.Am
