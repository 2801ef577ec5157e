import Derived.Test.YtboenehajoaahaaAmIg
set_option linter.unusedVariables false
namespace Go.Proofs.Ytboenehajoaahaa.Am
open Go Go.Proofs
structure Tok where
  h : Hdr
  u : U
  c : List Value
  B : List Nat
section
variable {ρ : Nat → FuncId} {w w' : World} {k : Nat}
def Tok.ok (ρ : Nat → FuncId) (w : World) (k : Nat) (t : Tok) : Prop := TCs ρ w (fun _ => False) (fun _ => ⟨.dead, noHdr⟩) [(t.h, t.u.ex)] t.c t.B ∧ t.c.length = k
theorem Tok.ok.keep {t : Tok} (h : t.ok ρ w k) (hk : ∀ b ∈ t.B, w'.heap[b]? = w.heap[b]?) : t.ok ρ w' k :=
  ⟨h.1.mono (fun _ h => h) (fun b hb => hb.elim) hk (fun _ _ => rfl), h.2⟩
theorem Tok.ok.size {t : Tok} (h : t.ok ρ w k) : t.u.ex.size = k := by
  have := h.1.length
  simp only [xsizes] at this
  have h2 := h.2
  omega
theorem Qhw : ∀ (us : List U) (h : Hdr) (i : Nat) (cs : List Value) (B : List Nat), TCs ρ w (fun _ => False) (fun _ => ⟨.dead, noHdr⟩) (elts h k i (U.ex.exs us)) cs B → (∀ d ∈ U.ex.exs us, d.size = k) →
    ∃ T : List Tok, us = T.map (·.u) ∧ cs = (T.map (·.c)).flatten ∧ B = (T.map (·.B)).flatten ∧ ∀ t ∈ T, t.ok ρ w k
  | [], h, i, cs, B, t, _ => by
    cases t
    exact ⟨[], rfl, rfl, rfl, by simp⟩
  | u :: us, h, i, cs, B, t, hk => by
    have e : elts h k i (U.ex.exs (u :: us)) = [(h.at (.elt i k), u.ex)] ++ elts h k (i + 1) (U.ex.exs us) := rfl
    rw [e] at t
    obtain ⟨c1, c2, Ba, Bb, rfl, rfl, hc1, ta, tb⟩ := t.split
    obtain ⟨T, rfl, rfl, rfl, hT⟩ := Qhw us h (i + 1) c2 Bb tb (fun d hd => hk d (by simp only [U.ex.exs, List.mem_cons]; exact .inr hd))
    have hs : u.ex.size = k := hk u.ex (by simp [U.ex.exs])
    have hl : c1.length = k := by
      have := ta.length
      simp only [xsizes] at this
      omega
    refine ⟨⟨h.at (.elt i k), u, c1, Ba⟩ :: T, rfl, rfl, rfl, fun t ht => ?_⟩
    rcases List.mem_cons.1 ht with rfl | ht
    · exact ⟨ta, hl⟩
    · exact hT t ht
def listH (v : Value) (hs : List Hdr) : Hdr
  | [] => some v
  | .elt j _ :: q => match hs[j]? with
    | some h => h q
    | none => none
  | _ => none
theorem Qo9 : ∀ (T : List Tok) (h : Hdr) (i : Nat), (∀ t ∈ T, t.ok ρ w k) → (∀ j t, T[j]? = some t → h.at (.elt (i + j) k) = t.h) →
    TCs ρ w (fun _ => False) (fun _ => ⟨.dead, noHdr⟩) (elts h k i (U.ex.exs (T.map (·.u)))) (T.map (·.c)).flatten (T.map (·.B)).flatten
  | [], h, i, _, _ => .nil
  | t :: T, h, i, hT, hh => by
    have h0 : h.at (.elt i k) = t.h := hh 0 t rfl
    have e : elts h k i (U.ex.exs ((t :: T).map (·.u))) = [(t.h, t.u.ex)] ++ elts h k (i + 1) (U.ex.exs (T.map (·.u))) := by
      show (h.at (.elt i k), t.u.ex) :: elts h k (i + 1) (U.ex.exs (T.map (·.u))) = _
      rw [h0]; rfl
    rw [e]
    exact (hT t (by simp)).1.append (Qo9 T h (i + 1) (fun t ht => hT t (by simp [ht])) (fun j t ht => by rw [Nat.add_right_comm]; exact hh (j + 1) t (by simpa using ht)))
theorem Qnh {T : List Tok} (hT : ∀ t ∈ T, t.ok ρ w k) {b cap : Nat} {cur : Array Value} {e : TypeId} (hb : w.heap[b]? = some (.cells cur e (0, 0))) (hsz : cur.size = cap * k) (hle : T.length ≤ cap) (hmax : cap ≤ maxLen)
    (ht : cur.toList.take (T.length * k) = (T.map (·.c)).flatten) :
    Own ρ w (.sl k (T.map (·.u))) (listH (.slice (some ⟨b, 0, none⟩) T.length cap) (T.map (·.h))) [.slice (some ⟨b, 0, none⟩) T.length cap] (b :: (T.map (·.B)).flatten) := by
  have hl : (U.ex.exs (T.map (·.u))).length = T.length := by rw [Qi]; simp
  have := TCs.osl (ρ := ρ) (w := w) (S := fun _ => False) (β := fun _ => ⟨.dead, noHdr⟩) (h := listH (.slice (some ⟨b, 0, none⟩) T.length cap) (T.map (·.h))) (k := k) (ds := U.ex.exs (T.map (·.u))) (xs := []) (b := b) (cap := cap) (cur := cur) (e := e) (c1 := (T.map (·.c)).flatten) (cs := []) (B1 := (T.map (·.B)).flatten) (B := [])
    (by rw [hl]; rfl) hb hsz (by rw [hl]; exact hle) hmax (fun d hd => by
      rw [Qi] at hd
      obtain ⟨u, hu, rfl⟩ := List.mem_map.1 hd
      obtain ⟨t, h1, rfl⟩ := List.mem_map.1 hu
      exact (hT t h1).size) (by rw [hl]; exact ht) (Qo9 T _ 0 hT fun j t hj => by
        funext q
        simp only [Hdr.at, Nat.zero_add, listH, List.getElem?_map, hj, Option.map_some]) .nil
  rw [hl, List.append_nil] at this
  exact this
end
end Go.Proofs.Ytboenehajoaahaa.Am
