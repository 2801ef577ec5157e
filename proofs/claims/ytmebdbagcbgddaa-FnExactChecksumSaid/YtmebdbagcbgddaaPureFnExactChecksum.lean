/-
  The program's Checksum and the reference's Checksum go through the same rounds over every string, so the law FnExactChecksum returns true for every string.
  Conditions: none beyond the row's own reach (a string of at most 2^47 bytes).
-/
import Derived.Test.YtmebdbagcbgddaaPFnExactChecksumx1
namespace Go.Proofs.Ytmebdbagcbgddaa.Pure
open Go.RowKit Go.Proofs.Ytmebdbagcbgddaa.PFnExactChecksum Go.Proofs.YtmebdbagcbgddaaW.PrintWords Go.Proofs.YtmebdbagcbgddaaW.PrintLast

theorem wrap_next {i : Int} {n : Nat} (h0 : 0 ≤ i) (h : i < (n : Int)) (hn : n ≤ 140737488351232) : wrap64 (i + 1) = i + 1 := by
  unfold wrap64
  omega

theorem rounds_agree (s : ByteArray) (hn : s.size ≤ 140737488351232) (d : Nat) : ∀ (k : Nat) (n i : Int), 0 ≤ i → i ≤ s.size → (s.size : Int) - i = d → d < k →
    ∃ r, spec_Checksum.l0 k s n i = some r ∧ impl_Checksum.l0 k s n (s.size : Int) i = some r := by
  induction d with
  | zero =>
    intro k n i h0 h1 hd hk
    obtain ⟨k, rfl⟩ : ∃ m, k = m + 1 := ⟨k - 1, by omega⟩
    exact ⟨n, by simp only [spec_Checksum.l0]; rw [if_neg (by omega)], by simp only [impl_Checksum.l0]; rw [if_neg (by omega)]⟩
  | succ d ih =>
    intro k n i h0 h1 hd hk
    obtain ⟨k, rfl⟩ : ∃ m, k = m + 1 := ⟨k - 1, by omega⟩
    have hlt : i < (s.size : Int) := by omega
    obtain ⟨r, hr1, hr2⟩ := ih k (Int.tmod (wrap64 ((wrap64 ((wrap64 (n * 251)) + (wrap64 (bt s i)))) + 1)) 9929) (i + 1) (by omega) (by omega) (by omega) (by omega)
    refine ⟨r, ?_, ?_⟩
    · simp only [spec_Checksum.l0]; rw [if_pos hlt, if_pos h0, wrap_next h0 hlt hn]; exact hr1
    · simp only [impl_Checksum.l0]; rw [if_pos hlt, if_pos h0, if_pos hlt, wrap_next h0 hlt hn, Int.mul_comm 251 n]; exact hr2

theorem FnExactChecksum : laws_FnExactChecksum.Pure := by
  intro s hn
  obtain ⟨r, h1, h2⟩ := rounds_agree s hn s.size (s.size + 1) 3 0 (by omega) (by omega) (by omega) (by omega)
  refine ⟨s.size + 1, ?_⟩
  unfold laws_FnExactChecksum.f spec_Checksum.f impl_Checksum.f
  rw [h1, h2]
  simp only [Option.bind_some, if_true, ite_self]

end Go.Proofs.Ytmebdbagcbgddaa.Pure
