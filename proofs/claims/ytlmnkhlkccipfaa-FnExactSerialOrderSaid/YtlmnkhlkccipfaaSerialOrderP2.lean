import Derived.Test.YtlmnkhlkccipfaaAmY
import Derived.Test.YtlmnkhlkccipfaaSerialOrderP0
import Derived.Test.YtlmnkhlkccipfaaSerialOrderP1
import Derived.Test.YtlmnkhlkccipfaaSerialOrderF1
namespace Go.Proofs.Ytlmnkhlkccipfaa.Am
open Go
abbrev shI : Sh := .int .i64
theorem fits_int {u : U} (h : Fits shI u) : ∃ n, u = .int .i64 n ∧ -9223372036854775808 ≤ n ∧ n ≤ 9223372036854775807 := by
  cases u <;> first | exact h.elim | skip
  rename_i k n
  obtain ⟨rfl, h1, h2⟩ := h
  exact ⟨n, rfl, h1, h2⟩
theorem fits_agg {ss : List Sh} {u : U} (h : Fits (.agg ss) u) : ∃ us, u = .agg us ∧ Fits.fits ss us := by
  cases u <;> first | exact h.elim | exact ⟨_, rfl, h⟩
theorem fits_cons {s : Sh} {ss : List Sh} {us : List U} (h : Fits.fits (s :: ss) us) : ∃ u us', us = u :: us' ∧ Fits s u ∧ Fits.fits ss us' := by
  cases us with
  | nil => exact h.elim
  | cons u us => exact ⟨u, us, rfl, h.1, h.2⟩
theorem fits_nil {us : List U} (h : Fits.fits [] us) : us = [] := by
  cases us with
  | nil => rfl
  | cons u us => exact h.elim
theorem fits_map {α : Type} {s : Sh} {f : α → U} {Q : α → Prop} (hs : ∀ u, Fits s u → ∃ x, u = f x ∧ Q x) : ∀ us : List U, (∀ u ∈ us, Fits s u) → ∃ l : List α, us = l.map f ∧ ∀ x ∈ l, Q x
  | [], _ => ⟨[], rfl, by simp⟩
  | u :: us, h => by
    obtain ⟨x, rfl, hx⟩ := hs u (h u (by simp))
    obtain ⟨l, rfl, hl⟩ := fits_map hs us (fun v hv => h v (by simp [hv]))
    exact ⟨x :: l, rfl, by simpa using ⟨hx, hl⟩⟩
theorem fits_sl {α : Type} {k : Nat} {s : Sh} {f : α → U} {Q : α → Prop} (hs : ∀ u, Fits s u → ∃ x, u = f x ∧ Q x) {u : U} (h : Fits (.sl k s) u) : ∃ l : List α, u = .sl k (l.map f) ∧ l.length ≤ maxLen ∧ ∀ x ∈ l, Q x := by
  cases u <;> first | exact h.elim | skip
  obtain ⟨rfl, h1, h2⟩ := h
  obtain ⟨l, rfl, hl⟩ := fits_map hs _ h2
  exact ⟨l, rfl, by simpa using h1, hl⟩
abbrev shReadMark : Sh := .agg [shI, shI]
theorem fits_ReadMark (u : U) (h : Fits shReadMark u) : ∃ x : ReadMark, u = x.u ∧ True := by
  obtain ⟨us0, rfl, hs0⟩ := fits_agg h
  obtain ⟨u0, us1, rfl, h0, hs1⟩ := fits_cons hs0
  obtain ⟨a0, rfl, _⟩ := fits_int h0
  obtain ⟨u1, us2, rfl, h1, hs2⟩ := fits_cons hs1
  obtain ⟨a1, rfl, _⟩ := fits_int h1
  obtain rfl := fits_nil hs2
  exact ⟨⟨a0, a1⟩, rfl, trivial⟩
abbrev shWrite : Sh := .agg [shI, shI]
theorem fits_Write (u : U) (h : Fits shWrite u) : ∃ x : Write, u = x.u ∧ True := by
  obtain ⟨us0, rfl, hs0⟩ := fits_agg h
  obtain ⟨u0, us1, rfl, h0, hs1⟩ := fits_cons hs0
  obtain ⟨a0, rfl, _⟩ := fits_int h0
  obtain ⟨u1, us2, rfl, h1, hs2⟩ := fits_cons hs1
  obtain ⟨a1, rfl, _⟩ := fits_int h1
  obtain rfl := fits_nil hs2
  exact ⟨⟨a0, a1⟩, rfl, trivial⟩
abbrev shEntry : Sh := .agg [shI, shI, .sl 2 shReadMark, .sl 2 shWrite]
theorem fits_Entry (u : U) (h : Fits shEntry u) : ∃ x : Entry, u = x.u ∧ x.fit := by
  obtain ⟨us0, rfl, hs0⟩ := fits_agg h
  obtain ⟨u0, us1, rfl, h0, hs1⟩ := fits_cons hs0
  obtain ⟨a0, rfl, _⟩ := fits_int h0
  obtain ⟨u1, us2, rfl, h1, hs2⟩ := fits_cons hs1
  obtain ⟨a1, rfl, _⟩ := fits_int h1
  obtain ⟨u2, us3, rfl, h2, hs3⟩ := fits_cons hs2
  obtain ⟨a2, rfl, l2, _⟩ := fits_sl fits_ReadMark h2
  obtain ⟨u3, us4, rfl, h3, hs4⟩ := fits_cons hs3
  obtain ⟨a3, rfl, l3, _⟩ := fits_sl fits_Write h3
  obtain rfl := fits_nil hs4
  exact ⟨⟨a0, a1, a2, a3⟩, rfl, ⟨l2, l3⟩⟩
variable {E : Env}
theorem eqInt_nil' (h : G_f36 E) : E 59 [.nsl 1, .sl 1 []] = some (.bool true) := by
  rw [f36_E h]
  simp only [lenOf_nsl, lenOf_sl, List.length_nil, Option.bind_some, bin_neq, ne_eq, not_true_eq_false, decide_false, asBool_bool, Bool.false_eq_true, if_false]
  rw [f36_l0_eq]
  simp
theorem law_SerialOrder (h : G_f33 E) (us : List U) (hus : Fits.fits [.sl 4 shEntry] us) : E 433 us = some (.bool true) := by
  obtain ⟨u0, us1, rfl, h0, hus1⟩ := fits_cons hus
  obtain rfl := fits_nil hus1
  obtain ⟨l, rfl, hl, hf⟩ := fits_sl fits_Entry h0
  rw [f33_E h]
  have s1 := f48_is h.c_f48 l hl hf 1048576 (by omega) (by omega)
  rcases szL_szs Entry.sz_szs l 1048576 (by omega) (by omega) with n1 | ⟨⟨hl2, ok⟩, n1, n2⟩
  · simp [s1, n1]
  have n3 : ¬ szL Entry.sz l 1048576 < 0 := by omega
  have hsum := entInts_sz l 1048576 (by omega) (by omega) n1
  have ht := f52_is h.c_f52 l hl2 ok
  have hF := f53_is h.c_f53 l hl2 ok
  have hsp := f77_is h.c_f77 l hl2 ok
  have him := f13_is h.c_f13 l hl2 ok
  have hif := f15_is h.c_f15 l hl2 ok
  have hst := f35_is h.c_f35 l l hl2 hl2 ok ok
  have hm1 : ∃ k' us, E 200287 (.agg [.tup [.sl 4 (l.map Entry.u)]] :: [.int .i64 1]) = some (.tup [.int .i64 k', .sl 4 us]) ∧ 0 ≤ k' ∧ k' ≤ 1073741824 := by
    rw [f43_E h.c_f43]
    exact f43_l0_is h.c_f43 l [] 1 0 rfl (by simpa using hl2) ok (by omega) (by omega)
  obtain ⟨k', us', hm1, hk'⟩ := hm1
  have hk2 : ¬ k' < 0 := by omega
  cases ho : serialOrder l with
  | none =>
    have he := f36_is h.c_f36 [] [] (by simp) (by simp)
    have hen := eqInt_nil' h.c_f36
    have hm2 := f44_is h.c_f44 [] (by simp) 1 (by omega) (by omega)
    have hh := f41_is h.c_f41 0 (by simp) 1 (by omega) (by omega)
    rw [ho] at hsp him hif
    simp only [List.map_nil, List.length_nil, upInts] at he hm2 hh
    simp [s1, n3, ht, hF, hsp, hif, U.asSlK, U.asB, orderU, he, hst, hm1, hk2, U.asMut, hm2, hh, him, hen]
  | some out =>
    have hlen : out.length ≤ 1048576 := by
      unfold serialOrder at ho
      split at ho
      · have := serialGo_length _ _ _ _ _ ho
        simp at this
        omega
      · cases ho
    have he := f36_is h.c_f36 out out hlen hlen
    have hm2 := f44_is h.c_f44 out hlen 1 (by omega) (by omega)
    have hh := f41_is h.c_f41 out.length hlen 1 (by omega) (by omega)
    have n4 : ¬ (1 + (out.length : Int)) < 0 := by omega
    rw [ho] at hsp him hif
    simp [s1, n3, ht, hF, hsp, hif, U.asSlK, U.asB, orderU, he, hst, hm1, hk2, U.asMut, hm2, hh, him, n4]
end Go.Proofs.Ytlmnkhlkccipfaa.Am
