import Derived.Test.YtlgblpngiamhaaaGreatFindAnomalyP1
import Derived.Test.YtlgblpngiamhaaaGreatFindAnomalyF0
import Derived.Test.YtlgblpngiamhaaaGreatFindAnomalyP0
import Derived.Test.YtlgblpngiamhaaaGreatFindAnomalyF1
namespace Go.Proofs.YtlgblpngiamhaaaGreat.Am
open Go
variable {E : Env}
set_option linter.unusedVariables false
def at_ (o : List Int) (v : Int) : Int := o.getD v.toNat 0
def relax (P : Int → Bool) (d : Int) (o : List Int) (e : Edge) : List Int := if decide (at_ o e.frm < 0) && P e.to then o.set e.frm.toNat d else o
def layer (to d : Int) (o : List Int) (v : Int) : Bool := if d = 1 then decide (v = to) else decide (at_ o v = d - 1)
def round (l : List Edge) (to d : Int) (o : List Int) : List Int := l.foldl (relax (layer to d o) d) o
def rounds (l : List Edge) (to : Int) : Nat → Int → List Int → List Int
 | 0, _, o => o
 | n + 1, d, o => rounds l to n (d + 1) (round l to d o)
def dist (l : List Edge) (to : Int) : List Int := rounds l to 9 1 (List.replicate 10 (-1))
def Ends (l : List Edge) : Prop := ∀ e ∈ l, 1 ≤ e.frm ∧ e.frm ≤ 9 ∧ 1 ≤ e.to ∧ e.to ≤ 9
theorem Qkf : ∀ (l : List Edge) (p : Option Edge), edgesFrom p l = true → Ends l
 | [], _, _ => fun e he => by simp at he
 | x :: r, p, h => by
  simp only [edgesFrom, Bool.and_eq_true] at h
  obtain ⟨⟨h1, _⟩, h2⟩ := h
  have ih := Qkf r _ h2
  intro e he
  rcases List.mem_cons.1 he with rfl | he
  ·simp only [edgeOK, inR, Bool.and_eq_true, decide_eq_true_eq] at h1
   omega
  ·exact ih e he
theorem Qbo {l : List Edge} (h : areEdges l = true) : Ends l := Qkf l none h
theorem Qqy (P : Int → Bool) (d : Int) (o : List Int) (e : Edge) : (relax P d o e).length = o.length := by
 unfold relax; split <;> simp
theorem Qfc (P : Int → Bool) (d : Int) (l : List Edge) : ∀ o : List Int, (l.foldl (relax P d) o).length = o.length := by
 induction l with
 | nil => intro o; rfl
 | cons e l ih => intro o; rw [List.foldl_cons, ih, Qqy]
theorem Qgj (o : List Int) (ho : o.length = 10) (f v d : Int) (hf : 1 ≤ f ∧ f ≤ 9) (hv : 0 ≤ v) : at_ (o.set f.toNat d) v = if v = f then d else at_ o v := by
 unfold at_
 by_cases h : v = f
 ·subst h
  have : v.toNat < o.length := by omega
  simp [this]
 ·have : f.toNat ≠ v.toNat := by omega
  simp [h, List.getElem?_set_ne this]
theorem Qcq (P : Int → Bool) (d : Int) (hd : 0 ≤ d) : ∀ (l : List Edge) (o : List Int), Ends l → o.length = 10 → ∀ v, 0 ≤ v → at_ (l.foldl (relax P d) o) v = if at_ o v < 0 ∧ (∃ e ∈ l, e.frm = v ∧ P e.to = true) then d else at_ o v
 | [], o, _, _, v, _ => by simp
 | e :: l, o, hE, ho, v, hv => by
  have he := hE e (by simp)
  rw [List.foldl_cons, Qcq P d hd l _ (fun x hx => hE x (by simp [hx])) (by rw [Qqy]; exact ho) v hv]
  unfold relax
  by_cases hc : at_ o e.frm < 0 ∧ P e.to = true
  ·have hc' : (decide (at_ o e.frm < 0) && P e.to) = true := by simp [hc.1, hc.2]
   rw [if_pos hc', Qgj o ho e.frm v d ⟨he.1, he.2.1⟩ hv]
   by_cases hvf : v = e.frm
   ·subst hvf
    have : ¬ d < 0 := by omega
    have h2 : ∃ x ∈ e :: l, x.frm = e.frm ∧ P x.to = true := ⟨e, by simp, rfl, hc.2⟩
    simp only [if_true, this, false_and, if_false, hc.1, true_and, h2]
   ·simp only [hvf, if_false]
    have : (∃ x ∈ e :: l, x.frm = v ∧ P x.to = true) ↔ ∃ x ∈ l, x.frm = v ∧ P x.to = true := by
     constructor
     ·rintro ⟨x, hx, h1, h2⟩
      rcases List.mem_cons.1 hx with rfl | hx
      ·exact absurd h1.symm hvf
      ·exact ⟨x, hx, h1, h2⟩
     ·rintro ⟨x, hx, h1, h2⟩; exact ⟨x, by simp [hx], h1, h2⟩
    simp only [this]
  ·have hc' : ¬ (decide (at_ o e.frm < 0) && P e.to) = true := by simpa using hc
   rw [if_neg hc']
   by_cases hneg : at_ o v < 0
   ·have : (∃ x ∈ e :: l, x.frm = v ∧ P x.to = true) ↔ ∃ x ∈ l, x.frm = v ∧ P x.to = true := by
     constructor
     ·rintro ⟨x, hx, h1, h2⟩
      rcases List.mem_cons.1 hx with rfl | hx
      ·exact absurd ⟨by rw [h1]; exact hneg, h2⟩ hc
      ·exact ⟨x, hx, h1, h2⟩
     ·rintro ⟨x, hx, h1, h2⟩; exact ⟨x, by simp [hx], h1, h2⟩
    simp only [this]
   ·simp only [hneg, false_and, if_false]
theorem Qy6 {a b : List Int} (ha : a.length = 10) (hb : b.length = 10) (h : ∀ v : Int, 0 ≤ v → at_ a v = at_ b v) : a = b := by
 apply List.ext_getElem?
 intro i
 by_cases hi : i < 10
 ·have := h (i : Int) (by omega)
  unfold at_ at this
  simp only [Int.toNat_natCast, List.getD_eq_getElem?_getD] at this
  rw [List.getElem?_eq_getElem (by omega), List.getElem?_eq_getElem (by omega)] at this ⊢
  simpa using this
 ·rw [List.getElem?_eq_none (by omega), List.getElem?_eq_none (by omega)]
theorem Qhj {P Q : Int → Bool} (d : Int) : ∀ (l : List Edge) (o : List Int), (∀ e ∈ l, P e.to = Q e.to) → l.foldl (relax P d) o = l.foldl (relax Q d) o
 | [], _, _ => rfl
 | e :: l, o, h => by
  rw [List.foldl_cons, List.foldl_cons, Qhj d l _ (fun x hx => h x (by simp [hx]))]
  have : relax P d o e = relax Q d o e := by unfold relax; rw [h e (by simp)]
  rw [this]
theorem Qou {P : Int → Bool} (d : Int) : ∀ (l : List Edge) (o : List Int), (∀ e ∈ l, P e.to = false) → l.foldl (relax P d) o = o
 | [], _, _ => rfl
 | e :: l, o, h => by
  have : relax P d o e = o := by unfold relax; rw [h e (by simp)]; simp
  rw [List.foldl_cons, this]
  exact Qou d l o (fun x hx => h x (by simp [hx]))
structure Know (to d : Int) (o : List Int) : Prop where
 len : o.length = 10
 below : ∀ v : Int, 0 ≤ v → at_ o v ≤ d - 1
 pos : 1 ≤ d
theorem Know.next {l : List Edge} {to d : Int} {o : List Int} (hE : Ends l) (h : Know to d o) : Know to (d + 1) (round l to d o) := by
 refine ⟨by rw [round, Qfc]; exact h.len, fun v hv => ?_, by have := h.pos; omega⟩
 rw [round, Qcq _ d (by have := h.pos; omega) l o hE h.len v hv]
 have := h.below v hv
 split <;> omega
theorem Qpi {l : List Edge} {to d : Int} {o : List Int} (hE : Ends l) (h : Know to d o) (v : Int) (hv : 0 ≤ v) : layer to (d + 1) (round l to d o) v = true ↔ at_ o v < 0 ∧ ∃ e ∈ l, e.frm = v ∧ layer to d o e.to = true := by
 have h1 : ¬ d + 1 = 1 := by have := h.pos; omega
 unfold layer
 rw [if_neg h1, decide_eq_true_eq, round, Qcq _ d (by have := h.pos; omega) l o hE h.len v hv]
 have h2 := h.below v hv
 constructor
 ·intro he
  split at he
  ·rename_i hc; exact hc
  ·omega
 ·intro hc
  have hc' : at_ o v < 0 ∧ ∃ e ∈ l, e.frm = v ∧ layer to d o e.to = true := hc
  rw [if_pos hc']
  omega
theorem Qie {l : List Edge} {to : Int} (hE : Ends l) : ∀ (n : Nat) (d : Int) (o : List Int), Know to d o → (∀ e ∈ l, layer to d o e.to = false) → rounds l to n d o = o
 | 0, _, _, _, _ => rfl
 | n + 1, d, o, hk, h => by
  have h1 : round l to d o = o := Qou d l o h
  have hk' := hk.next hE
  have h2 : ∀ e ∈ l, layer to (d + 1) (round l to d o) e.to = false := fun e he => by
   cases hb : layer to (d + 1) (round l to d o) e.to with
   | false => rfl
   | true =>
    obtain ⟨_, x, hx, _, h4⟩ := (Qpi hE hk e.to (by have := hE e he; omega)).1 hb
    rw [h x hx] at h4
    cases h4
  rw [rounds, h1] at *
  exact Qie hE n (d + 1) o hk' h2
def unknown (o : List Int) : Nat := ((List.range 9).filter fun i => decide (at_ o (i + 1 : Nat) < 0)).length
theorem Qada {a b : List Int} (h : ∀ v : Int, 0 ≤ v → at_ a v < 0 → at_ b v < 0) {v : Int} (h1 : 1 ≤ v) (h2 : v ≤ 9) (ha : ¬ at_ a v < 0) (hb : at_ b v < 0) : unknown a < unknown b := by
 unfold unknown
 have e : ((List.range 9).filter fun i => decide (at_ a (i + 1 : Nat) < 0)) = ((List.range 9).filter fun i => decide (at_ b (i + 1 : Nat) < 0)).filter fun i => decide (at_ a (i + 1 : Nat) < 0) := by
  rw [List.filter_filter]
  refine List.filter_congr fun i _ => ?_
  by_cases hh : at_ a (i + 1 : Nat) < 0
  ·have h3 := h _ (by omega) hh
   simp only [hh, h3, decide_true, Bool.and_self]
  ·simp only [hh, decide_false, Bool.false_and]
 rw [e]
 refine List.length_filter_lt_length_iff_exists.2 ⟨(v - 1).toNat, ?_, ?_⟩
 ·rw [List.mem_filter, List.mem_range]
  refine ⟨by omega, ?_⟩
  have : (((v - 1).toNat + 1 : Nat) : Int) = v := by omega
  rw [this]
  simpa using hb
 ·have : (((v - 1).toNat + 1 : Nat) : Int) = v := by omega
  rw [this]
  simpa using ha
theorem Qsg {o : List Int} (h : unknown o = 0) {v : Int} (h1 : 1 ≤ v) (h2 : v ≤ 9) : ¬ at_ o v < 0 := by
 unfold unknown at h
 have h0 := List.length_eq_zero_iff.1 h
 have := List.filter_eq_nil_iff.1 h0 (v - 1).toNat (by rw [List.mem_range]; omega)
 have e : (((v - 1).toNat + 1 : Nat) : Int) = v := by omega
 rw [e] at this
 simpa using this
theorem Qaam {l : List Edge} {to d : Int} {o : List Int} (hE : Ends l) (h : Know to d o) (v : Int) (hv : 0 ≤ v) (hn : at_ (round l to d o) v < 0) : at_ o v < 0 := by
 rw [round, Qcq _ d (by have := h.pos; omega) l o hE h.len v hv] at hn
 split at hn
 ·have := h.pos; omega
 ·exact hn
theorem Qa5 {o : List Int} (ho : o.length = 10) {v : Int} (h1 : 0 ≤ v) (h2 : v ≤ 9) : (o.map intU)[v.toNat]? = some (intU (at_ o v)) := by
 have h3 : v.toNat < o.length := by omega
 unfold at_
 rw [List.getElem?_map, List.getElem?_eq_getElem h3, List.getD_eq_getElem?_getD, List.getElem?_eq_getElem h3]
 rfl
theorem Qio (o : List Int) (i : Nat) (d : Int) : (o.map intU).set i (.int .i64 d) = (o.set i d).map intU := by
 rw [List.map_set]; rfl
theorem Qe8 (l : List Edge) (hl : l.length ≤ 1048576) (hE : Ends l) (to d : Int) (hd : 1 ≤ d) (hd2 : d ≤ 9) (o0 : List Int) : ∀ (r p : List Edge) (i : Int) (o : List Int), l = p ++ r → i = p.length → o.length = 10 → (d ≠ 1 → ∀ v, 0 ≤ v → v ≤ 9 → (at_ o v = d - 1 ↔ at_ o0 v = d - 1)) →
  f94_l1 E (edgesU l) (.int .i64 to) (.int .i64 d) (.int .i64 i) (o.map intU) = f94_l0 E (edgesU l) (.int .i64 to) (.int .i64 (d + 1)) ((r.foldl (relax (layer to d o0) d) o).map intU)
 | [], p, i, o, e, hi, ho, hs => by
  have hw : IntKind.i64.wrap (d + 1) = d + 1 := Qj (by omega)
  rw [Qog]
  simp [Qi e hi, hw]
 | x :: r, p, i, o, e, hi, ho, hs => by
  obtain ⟨h0, hlt, hx, hw, hn, _⟩ := Qg e hi (by omega)
  have hex : 1 ≤ x.frm ∧ x.frm ≤ 9 ∧ 1 ≤ x.to ∧ x.to ≤ 9 := hE x (by rw [e]; simp)
  obtain ⟨x1, x2, x3, x4⟩ := hex
  have i1 := Qa5 ho (v := x.frm) (by omega) x2
  have i2 := Qa5 ho (v := x.to) (by omega) x4
  have b1 : 0 ≤ x.frm ∧ x.frm < 10 := by omega
  have b2 : 0 ≤ x.to ∧ x.to < 10 := by omega
  have hw2 : IntKind.i64.wrap (d - 1) = d - 1 := Qj (by omega)
  have ih1 := Qe8 l hl hE to d hd hd2 o0 r (p ++ [x]) (i + 1) o (Qf e) hn ho hs
  rw [Qog]
  simp only [List.foldl_cons]
  by_cases hneg : at_ o x.frm < 0
  ·by_cases hd1 : d = 1
   ·have dd := decide_eq_true hd1
    by_cases ht : x.to = to
    ·have ih2 := Qe8 l hl hE to d hd hd2 o0 r (p ++ [x]) (i + 1) (o.set x.frm.toNat d) (Qf e) hn (by simpa using ho) (fun h => absurd hd1 h)
     have hr : relax (layer to d o0) d o x = o.set x.frm.toNat d := by simp [relax, layer, hneg, ht, hd1]
     rw [hr, ← ih2]
     simp [hlt, hx, hw, b1, ho, i1, hneg, ht, dd, intU, -getElem?_pos, -List.getElem?_map]
    ·have hr : relax (layer to d o0) d o x = o := by simp [relax, layer, ht, hd1]
     have dd3 : decide (1 < d) = false := by simp; omega
     rw [hr, ← ih1]
     simp [hlt, hx, hw, b1, ho, i1, hneg, ht, dd, dd3, intU, -getElem?_pos, -List.getElem?_map]
   ·have hd3 : 1 < d := by omega
    by_cases ht : at_ o x.to = d - 1
    ·have ht0 := (hs hd1 x.to (by omega) x4).1 ht
     have ih2 := Qe8 l hl hE to d hd hd2 o0 r (p ++ [x]) (i + 1) (o.set x.frm.toNat d) (Qf e) hn (by simpa using ho) (fun _ v hv hv2 => by
      rw [Qgj o ho x.frm v d ⟨x1, x2⟩ hv]
      split
      ·rename_i hvf
       subst hvf
       constructor
       ·intro; omega
       ·intro h; have := (hs hd1 x.frm hv hv2).2 h; omega
      ·exact hs hd1 v hv hv2)
     have hr : relax (layer to d o0) d o x = o.set x.frm.toNat d := by simp [relax, layer, hneg, hd1, ht0]
     rw [hr, ← ih2]
     simp [hlt, hx, hw, b1, b2, ho, i1, i2, hneg, hd1, hd3, ht, hw2, intU, -getElem?_pos, -List.getElem?_map]
    ·have ht0 : ¬ at_ o0 x.to = d - 1 := fun h => ht ((hs hd1 x.to (by omega) x4).2 h)
     have hr : relax (layer to d o0) d o x = o := by simp [relax, layer, hd1, ht0]
     rw [hr, ← ih1]
     simp [hlt, hx, hw, b1, b2, ho, i1, i2, hneg, hd1, hd3, ht, hw2, intU, -getElem?_pos, -List.getElem?_map]
  ·have hr : relax (layer to d o0) d o x = o := by simp [relax, hneg]
   rw [hr, ← ih1]
   simp [hlt, hx, hw, b1, ho, i1, hneg, intU, -getElem?_pos, -List.getElem?_map]
theorem Qof (l : List Edge) (hl : l.length ≤ 1048576) (hE : Ends l) (to : Int) : ∀ (n : Nat) (d : Int) (o : List Int), d = 10 - n → 1 ≤ d → o.length = 10 →
  f94_l0 E (edgesU l) (.int .i64 to) (.int .i64 d) (o.map intU) = some (.sl 1 ((rounds l to n d o).map intU))
 | 0, d, o, hd, h1, ho => by
  have : ¬ d ≤ 9 := by omega
  rw [Qoe]
  simp [this, rounds]
 | n + 1, d, o, hd, h1, ho => by
  have : d ≤ 9 := by omega
  rw [Qoe]
  simp only [Qp, this, decide_true, Option.bind_some, Qc, if_true]
  rw [Qe8 l hl hE to d h1 this o l [] 0 o rfl rfl ho (fun _ v _ _ => Iff.rfl)]
  exact Qof l hl hE to n (d + 1) _ (by omega) (by omega) (by rw [Qfc]; exact ho)
theorem Qoi (l : List Edge) (hl : l.length ≤ 1048576) (hE : Ends l) (to : Int) : ∀ (n m : Nat) (i : Int), m + n = 10 → i = m →
  f94_l2 E (edgesU l) (.int .i64 to) (.int .i64 i) ((List.replicate m (-1 : Int)).map intU) = some (.sl 1 ((dist l to).map intU))
 | 0, m, i, hm, hi => by
  have : ¬ i ≤ 9 := by omega
  obtain rfl : m = 10 := by omega
  rw [Qoh]
  simp only [Qp, this, decide_false, Option.bind_some, Qc, Bool.false_eq_true, if_false]
  exact Qof l hl hE to 9 1 _ rfl (by omega) (by simp)
 | n + 1, m, i, hm, hi => by
  have h1 : i ≤ 9 := by omega
  have hw : IntKind.i64.wrap (i + 1) = i + 1 := Qj (by omega)
  have ih := Qoi l hl hE to n (m + 1) (i + 1) (by omega) (by omega)
  have e : (List.replicate (m + 1) (-1 : Int)).map intU = (List.replicate m (-1 : Int)).map intU ++ [.int .i64 (-1)] := by
   rw [List.replicate_succ', List.map_append]; rfl
  rw [e] at ih
  rw [Qoh]
  simp only [Qp, h1, decide_true, Option.bind_some, Qc, if_true, Qn, hw, List.length_map, List.length_replicate, List.length_cons, List.length_nil]
  rw [if_pos (by refine ⟨trivial, trivial, by omega⟩)]
  exact ih
theorem Qod (h : G_f94 E) (l : List Edge) (hl : l.length ≤ 1048576) (hE : Ends l) (to : Int) : E 40 [edgesU l, .int .i64 to] = some (intsU (dist l to)) := by
 rw [f94_E h]
 exact Qoi l hl hE to 10 0 0 rfl rfl
abbrev arrU (o : List Int) : U := .agg (o.map intU)
theorem Qd7 : ∀ o : List Int, sizes (o.map intU) = o.length
 | [] => rfl
 | _ :: o => by rw [List.map_cons, Qaq, Qd7 o, Qdz, List.length_cons]; omega
theorem Qc2 {o : List Int} (ho : o.length = 10) {v : Int} (h1 : 0 ≤ v) (h2 : v ≤ 9) : v.toNat * 1 = sizes ((o.map intU).take v.toNat) := by
 rw [← List.map_take, Qd7, List.length_take]; omega
theorem Qdo (h : G_f30 E) (l : List Edge) (hl : l.length ≤ 1048576) (hE : Ends l) (d : Int) (hd : 1 ≤ d) (hd2 : d ≤ 1000) (c : List Int) (hc : c.length ≤ 1048576) (b4 : U) : ∀ (r p : List Edge) (i : Int) (o : List Int) (nx : List Int), l = p ++ r → i = p.length → o.length = 10 → nx.length ≤ p.length →
  ∃ nx' : List Int, nx'.length ≤ l.length ∧ (∀ v, v ∈ nx' ↔ v ∈ nx ∨ (at_ o v < 0 ∧ ∃ e ∈ r, e.frm = v ∧ e.to ∈ c)) ∧
  f30_l1 E (edgesU l) (.int .i64 d) (edgesU l) (.int .i64 l.length) (.int .i64 i) (c.map intU) (nx.map intU) b4 (arrU o) =
   f30_l0 E (edgesU l) (.int .i64 (d + 1)) (nx'.map intU) b4 (arrU (r.foldl (relax (fun v => decide (v ∈ c)) d) o))
 | [], p, i, o, nx, e, hi, ho, hnx => by
  have hw : IntKind.i64.wrap (d + 1) = d + 1 := Qj (by omega)
  refine ⟨nx, by rw [e]; simpa using hnx, fun v => by simp, ?_⟩
  rw [Qdn]
  simp [Qi e hi, hw]
 | x :: r, p, i, o, nx, e, hi, ho, hnx => by
  obtain ⟨h0, hlt, hx, hw, hn, _⟩ := Qg e hi (by omega)
  have hex : 1 ≤ x.frm ∧ x.frm ≤ 9 ∧ 1 ≤ x.to ∧ x.to ≤ 9 := hE x (by rw [e]; simp)
  obtain ⟨x1, x2, x3, x4⟩ := hex
  have i1 := Qa5 ho (v := x.frm) (by omega) x2
  have b1 : 0 ≤ x.frm ∧ x.frm < 10 := by omega
  have hst := Qc2 ho (v := x.frm) (by omega) x2
  have hin := Qds h.c_f71 c (by omega) x.to
  have hpl : p.length ≤ 1048576 := by have := congrArg List.length e; simp at this; omega
  simp only [List.foldl_cons]
  by_cases ht : x.to ∈ c
  ·by_cases hneg : at_ o x.frm < 0
   ·obtain ⟨nx', n1, n2, n3⟩ := Qdo h l hl hE d hd hd2 c hc b4 r (p ++ [x]) (i + 1) (o.set x.frm.toNat d) (nx ++ [x.frm]) (Qf e) hn (by simpa using ho) (by simp; omega)
    refine ⟨nx', n1, fun v => ?_, ?_⟩
    ·rw [n2 v]
     simp only [List.mem_append, List.mem_singleton, List.mem_cons]
     by_cases hv : v = x.frm
     ·subst hv
      have : ∃ e, (e = x ∨ e ∈ r) ∧ e.frm = x.frm ∧ e.to ∈ c := ⟨x, .inl rfl, rfl, ht⟩
      simp [hneg, ht]
     ·by_cases hv0 : 0 ≤ v
      ·rw [Qgj o ho x.frm v d ⟨x1, x2⟩ hv0, if_neg hv]
       have : (∃ e, (e = x ∨ e ∈ r) ∧ e.frm = v ∧ e.to ∈ c) ↔ ∃ e ∈ r, e.frm = v ∧ e.to ∈ c := by
        constructor
        ·rintro ⟨y, rfl | hy, h1, h2⟩
         ·exact absurd h1.symm hv
         ·exact ⟨y, hy, h1, h2⟩
        ·rintro ⟨y, hy, h1, h2⟩; exact ⟨y, .inr hy, h1, h2⟩
       simp [hv, this]
      ·have none : ∀ y ∈ l, ¬ y.frm = v := fun y hy h1 => by have := hE y hy; omega
       have n4 : ¬ ∃ e, (e = x ∨ e ∈ r) ∧ e.frm = v ∧ e.to ∈ c := by
        rintro ⟨y, hy, h1, _⟩
        exact none y (by rw [‹l = p ++ x :: r›]; rcases hy with rfl | hy <;> simp [*]) h1
       have n5 : ¬ ∃ e ∈ r, e.frm = v ∧ e.to ∈ c := by
        rintro ⟨y, hy, h1, _⟩
        exact none y (by rw [‹l = p ++ x :: r›]; simp [hy]) h1
       simp only [hv, or_false, false_or, n4, n5, and_false, List.not_mem_nil]
    ·rw [Qdn]
     have hr : relax (fun v => decide (v ∈ c)) d o x = o.set x.frm.toNat d := by simp [relax, hneg, ht]
     rw [List.map_append, List.map_cons, List.map_nil] at n3
     have hlen : ((nx.map intU).length + 1) * 8 ≤ 140737488355328 := by rw [List.length_map]; omega
     simp only [Qk, hlt, decide_true, Option.bind_some, Qc, if_true, Ql, hx, Edge.u_var, Edge.u_storable, Edge.u_partable, Edge.u_size, and_self, Edge.u_agg, Qaq, List.take_succ_cons, List.take_zero, Qab, Qc1, List.getElem?_cons_succ, List.getElem?_cons_zero, Qem, hin, ht, Qjy, b1, Qah, hst, i1, Qs, hneg, Qan, Qax, Qdz, List.length_cons, List.length_nil, Qn, hw, Qio, hr, hlen]
     exact n3
   ·obtain ⟨nx', n1, n2, n3⟩ := Qdo h l hl hE d hd hd2 c hc b4 r (p ++ [x]) (i + 1) o nx (Qf e) hn ho (by simp; omega)
    refine ⟨nx', n1, fun v => ?_, ?_⟩
    ·rw [n2 v]
     have : at_ o v < 0 → ((∃ e ∈ r, e.frm = v ∧ e.to ∈ c) ↔ ∃ e ∈ x :: r, e.frm = v ∧ e.to ∈ c) := fun hv => by
      constructor
      ·rintro ⟨y, hy, h1, h2⟩; exact ⟨y, by simp [hy], h1, h2⟩
      ·rintro ⟨y, hy, h1, h2⟩
       rcases List.mem_cons.1 hy with rfl | hy
       ·exact absurd (by rw [h1]; exact hv) hneg
       ·exact ⟨y, hy, h1, h2⟩
     by_cases hv : at_ o v < 0
     ·rw [this hv]
     ·simp [hv]
    ·rw [Qdn]
     have hr : relax (fun v => decide (v ∈ c)) d o x = o := by simp [relax, hneg]
     simp only [Qk, hlt, decide_true, decide_false, Bool.false_eq_true, if_false, Option.bind_some, Qc, if_true, Ql, hx, Edge.u_var, Edge.u_storable, Edge.u_partable, Edge.u_size, and_self, Edge.u_agg, Qaq, List.take_succ_cons, List.take_zero, Qab, Qc1, List.getElem?_cons_succ, List.getElem?_cons_zero, Qem, hin, ht, Qjy, b1, Qah, hst, i1, Qs, hneg, Qn, hw, hr]
     exact n3
  ·obtain ⟨nx', n1, n2, n3⟩ := Qdo h l hl hE d hd hd2 c hc b4 r (p ++ [x]) (i + 1) o nx (Qf e) hn ho (by simp; omega)
   refine ⟨nx', n1, fun v => ?_, ?_⟩
   ·rw [n2 v]
    have : (∃ e ∈ r, e.frm = v ∧ e.to ∈ c) ↔ ∃ e ∈ x :: r, e.frm = v ∧ e.to ∈ c := by
     constructor
     ·rintro ⟨y, hy, h1, h2⟩; exact ⟨y, by simp [hy], h1, h2⟩
     ·rintro ⟨y, hy, h1, h2⟩
      rcases List.mem_cons.1 hy with rfl | hy
      ·exact absurd h2 ht
      ·exact ⟨y, hy, h1, h2⟩
    rw [this]
   ·rw [Qdn]
    have hr : relax (fun v => decide (v ∈ c)) d o x = o := by simp [relax, ht]
    simp [hlt, hx, hin, ht, hw, hr, n3]
def IsLayer (l : List Edge) (to d : Int) (o : List Int) (c : List Int) : Prop := c.length ≤ 1048576 ∧ ∀ e ∈ l, layer to d o e.to = decide (e.to ∈ c)
theorem Qe1 (l : List Edge) (d : Int) (b4 : U) (hb : b4.size = 10) (o : List Int) (ho : o.length = 10) :
  f30_l0 E (edgesU l) (.int .i64 d) [] b4 (arrU o) = some (arrU o) := by
 rw [Qdm]
 have hsz : sizes (o.map intU) = 10 := by rw [Qd7, ho]
 simp [hsz, hb]
theorem Qu2 (h : G_f30 E) (l : List Edge) (hl : l.length ≤ 1048576) (hE : Ends l) (to : Int) (b4 : U) (hb : b4.size = 10) : ∀ (n : Nat) (d : Int) (o c : List Int), Know to d o → d + n ≤ 900 → unknown o ≤ n → IsLayer l to d o c →
  f30_l0 E (edgesU l) (.int .i64 d) (c.map intU) b4 (arrU o) = some (arrU (rounds l to n d o)) := by
 intro n
 induction n with
 | zero =>
  intro d o c hk hd hu hc
  have hd1 := hk.pos
  by_cases hc0 : c = []
  ·subst hc0
   exact Qe1 l d b4 hb o hk.len
  ·obtain ⟨nx, n1, n2, n3⟩ := Qdo h l hl hE d hd1 (by omega) c hc.1 b4 l [] 0 o [] rfl rfl hk.len (by simp)
   have hlay : l.foldl (relax (fun v => decide (v ∈ c)) d) o = round l to d o := Qhj d l o (fun e he => (hc.2 e he).symm)
   have hsame : round l to d o = o := by
    refine Qy6 (by rw [round, Qfc]; exact hk.len) hk.len (fun v hv => ?_)
    rw [round, Qcq _ d (by omega) l o hE hk.len v hv]
    split
    ·rename_i hx
     obtain ⟨h1, e, he, h2, _⟩ := hx
     have := hE e he
     exact absurd h1 (Qsg (by omega) (by omega) (by omega))
    ·rfl
   have hnx : nx = [] := by
    cases nx with
    | nil => rfl
    | cons v nx =>
     have := (n2 v).1 (by simp)
     rcases this with h1 | ⟨h1, e, he, h2, _⟩
     ·cases h1
     ·have := hE e he
      exact absurd h1 (Qsg (by omega) (by omega) (by omega))
   subst hnx
   rw [hlay, hsame] at n3
   rw [Qdm]
   have hpos : 0 < c.length := List.length_pos_iff.2 hc0
   have hpos' : (0 : Int) < c.length := by omega
   simp only [Qv, List.length_map, hpos', decide_true, Option.bind_some, Qc, if_true, Qr]
   rw [show ([] : List U) = ([] : List Int).map intU from rfl, n3]
   exact Qe1 l _ b4 hb o hk.len
 | succ n ih =>
  intro d o c hk hd hu hc
  have hd1 := hk.pos
  by_cases hc0 : c = []
  ·subst hc0
   rw [Qie hE (n + 1) d o hk (fun e he => by rw [hc.2 e he]; simp)]
   exact Qe1 l d b4 hb o hk.len
  ·obtain ⟨nx, n1, n2, n3⟩ := Qdo h l hl hE d hd1 (by omega) c hc.1 b4 l [] 0 o [] rfl rfl hk.len (by simp)
   have hlay : l.foldl (relax (fun v => decide (v ∈ c)) d) o = round l to d o := Qhj d l o (fun e he => (hc.2 e he).symm)
   have hk' := hk.next hE
   have hnl : IsLayer l to (d + 1) (round l to d o) nx := ⟨by omega, fun e he => by
    rw [Bool.eq_iff_iff, Qpi hE hk e.to (by have := hE e he; omega), decide_eq_true_eq, n2 e.to]
    constructor
    ·rintro ⟨h1, x, hx, h2, h3⟩
     rw [hc.2 x hx, decide_eq_true_eq] at h3
     exact .inr ⟨h1, x, hx, h2, h3⟩
    ·rintro (h1 | ⟨h1, x, hx, h2, h3⟩)
     ·cases h1
     ·exact ⟨h1, x, hx, h2, by rw [hc.2 x hx]; simpa using h3⟩⟩
   rw [Qdm]
   have hpos : 0 < c.length := List.length_pos_iff.2 hc0
   have hpos' : (0 : Int) < c.length := by omega
   simp only [Qv, List.length_map, hpos', decide_true, Option.bind_some, Qc, if_true, Qr]
   rw [show ([] : List U) = ([] : List Int).map intU from rfl, n3, hlay, rounds]
   cases hnx : nx with
   | nil =>
    subst hnx
    rw [Qie hE n (d + 1) _ hk' (fun e he => by rw [hnl.2 e he]; simp)]
    exact Qe1 l _ b4 hb _ hk'.len
   | cons v nx' =>
    rw [← hnx]
    refine ih (d + 1) _ nx hk' (by omega) ?_ hnl
    obtain ⟨h1, e, he, h2, h3⟩ : at_ o v < 0 ∧ ∃ e ∈ l, e.frm = v ∧ e.to ∈ c := by
     rcases (n2 v).1 (by rw [hnx]; simp) with h1 | h1
     ·cases h1
     ·exact h1
    have hev := hE e he
    have : unknown (round l to d o) < unknown o := by
     refine Qada (fun v hv => Qaam hE hk v hv) (v := v) (by omega) (by omega) ?_ h1
     rw [round, Qcq _ d (by omega) l o hE hk.len v (by omega), if_pos ⟨h1, e, he, h2, by rw [hc.2 e he]; simpa using h3⟩]
     omega
    omega
theorem Qpg (to : Int) : Know to 1 (List.replicate 10 (-1)) := by
 refine ⟨by simp, fun v hv => ?_, by omega⟩
 unfold at_
 rw [List.getD_eq_getElem?_getD, List.getElem?_replicate]
 split
 ·show (-1 : Int) ≤ 1 - 1; omega
 ·show (0 : Int) ≤ 1 - 1; omega
theorem Qlk (h : G_f30 E) (l : List Edge) (hl : l.length ≤ 1048576) (hE : Ends l) (to : Int) (b4 : U) (hb : b4.size = 10) : ∀ (n m : Nat) (i : Int), m + n = 10 → i = m →
  f30_l2 E (edgesU l) (.int .i64 to) (.int .i64 i) b4 (arrU (List.replicate m (-1) ++ List.replicate n 0)) = some (arrU (dist l to))
 | 0, m, i, hm, hi => by
  have : ¬ i < 10 := by omega
  obtain rfl : m = 10 := by omega
  rw [Qe2]
  simp only [Qk, this, decide_false, Option.bind_some, Qc, Bool.false_eq_true, if_false, Qan, Qax, Qab, and_self, if_true]
  exact Qu2 h l hl hE to b4 hb 9 1 _ [to] (Qpg to) (by omega) (by unfold unknown; exact Nat.le_trans (List.length_filter_le _ _) (by simp)) ⟨by simp, fun e he => by simp [layer]⟩
 | n + 1, m, i, hm, hi => by
  have h1 : i < 10 := by omega
  have h0 : 0 ≤ i := by omega
  have hw : IntKind.i64.wrap (i + 1) = i + 1 := Qj (by omega)
  have ih := Qlk h l hl hE to b4 hb n (m + 1) (i + 1) (by omega) (by omega)
  have hlen : (List.replicate m (-1 : Int) ++ List.replicate (n + 1) 0).length = 10 := by simp; omega
  have i1 := Qa5 hlen (v := i) h0 (by omega)
  have hst := Qc2 hlen (v := i) h0 (by omega)
  have hset : (List.replicate m (-1 : Int) ++ List.replicate (n + 1) 0).set i.toNat (-1) = List.replicate (m + 1) (-1) ++ List.replicate n 0 := by
   have : i.toNat = m := by omega
   rw [this, List.set_append_right _ _ (by simp)]
   simp only [List.length_replicate, Nat.sub_self, List.replicate_succ, List.set_cons_zero]
   rw [← List.replicate_succ, List.replicate_succ', List.append_assoc]
   rfl
  rw [Qe2]
  simp only [Qk, h1, decide_true, Option.bind_some, Qc, if_true, Ql, h0, and_self, Qah, hst, i1, Qdz, Qn, hw, Qio, hset]
  exact ih
theorem Qa3 (h : G_f30 E) (l : List Edge) (hl : l.length ≤ 1048576) (hE : Ends l) (to : Int) : E 41 [edgesU l, .int .i64 to] = some (arrU (dist l to)) := by
 rw [f30_E h]
 exact Qlk h l hl hE to _ rfl 10 0 0 rfl rfl
theorem Qbq {l : List Edge} (to : Int) : (dist l to).length = 10 := by
 have : ∀ (n : Nat) (d : Int) (o : List Int), (rounds l to n d o).length = o.length := by
  intro n
  induction n with
  | zero => intro d o; rfl
  | succ n ih => intro d o; rw [rounds, ih, round, Qfc]
 rw [dist, this]; simp
theorem Qek {γ : Type} {o : List Int} (ho : o.length = 10) {v : Int} (h1 : 0 ≤ v) (h2 : v ≤ 9) (K : U → Option γ) : U.fieldAt v.toNat (v.toNat * 1) (arrU o) K = K (intU (at_ o v)) := by
 show (if v.toNat * 1 = sizes ((o.map intU).take v.toNat) then ((o.map intU)[v.toNat]?).bind K else none) = _
 rw [if_pos (Qc2 ho h1 h2), Qa5 ho h1 h2]
 rfl
def edgeDistance (l : List Edge) (a b : Int) : Int := if areEdges l && (inR a 1 9 && inR b 1 9) then at_ (dist l b) a else -1
theorem Qno (h : G_f81 E) (l : List Edge) (hl : l.length ≤ 1048576) (a b : Int) : E 39 [edgesU l, .int .i64 a, .int .i64 b] = some (.int .i64 (edgeDistance l a b)) := by
 rw [f81_E h]
 unfold edgeDistance
 cases h1 : areEdges l
 ·simp [Qdt h.c_f77 l hl, h1]
 cases h2 : inR a 1 9
 ·simp [Qdt h.c_f77 l hl, h1, Qa4 h.c_f93, h2]
 cases h3 : inR b 1 9
 ·simp [Qdt h.c_f77 l hl, h1, Qa4 h.c_f93, h2, h3]
 have h2' := h2
 simp only [inR, decide_eq_true_eq] at h2'
 have i1 := Qa5 (Qbq (l := l) b) (v := a) (by omega) h2'.2
 have h0 : 0 ≤ a := by omega
 simp [Qdt h.c_f77 l hl, h1, Qa4 h.c_f93, h2, h3, Qod h.c_f94 l hl (Qbo h1) b, Qes, h0, i1, -getElem?_pos, -List.getElem?_map]
theorem Qq4 {l : List Edge} {to : Int} (hE : Ends l) : ∀ (n : Nat) (d : Int) (o : List Int), Know to d o → Know to (d + n) (rounds l to n d o)
 | 0, d, o, h => by simpa [rounds] using h
 | n + 1, d, o, h => by
  have := Qq4 hE n (d + 1) _ (h.next hE)
  rw [rounds]
  have e : d + ((n + 1 : Nat) : Int) = d + 1 + n := by omega
  rw [e]
  exact this
theorem Qti {l : List Edge} (hE : Ends l) (to v : Int) (hv : 0 ≤ v) : at_ (dist l to) v ≤ 9 := by
 have := (Qq4 hE 9 1 _ (Qpg to)).below v hv
 unfold dist
 omega
def scStep (l : List Edge) (cur : Option (Int × Int)) (a : Int) : Option (Int × Int) :=
 if decide (0 < at_ (dist l a) a) && (match cur with | none => true | some c => decide (at_ (dist l a) a < c.2)) then some (a, at_ (dist l a) a) else cur
def scScan (l : List Edge) : Nat → Option (Int × Int) → Option (Int × Int)
 | 0, cur => cur
 | n + 1, cur => scScan l n (scStep l cur (9 - n))
def scNext (l : List Edge) (far : List Int) (d at0 : Int) : Nat → Option Int
 | 0 => none
 | n + 1 => if decide (at_ far (9 - n) = d) && hasEdge l at0 (9 - n) then some (9 - n) else scNext l far d at0 n
def scChain (l : List Edge) (far : List Int) : Nat → Int → List Int → List Int
 | 0, _, out => out
 | d + 1, at0, out => match scNext l far (d + 1) at0 9 with
  | some b => scChain l far d b (out ++ [b])
  | none => scChain l far d at0 out
def scEnd (l : List Edge) : Option (Int × Int) → List Int
 | none => []
 | some (s, n) => scChain l (dist l s) (n - 1).toNat s [s]
def shortest (l : List Edge) : List Int := if areEdges l then scEnd l (scScan l 9 none) else []
def scS : Option (Int × Int) → Int
 | none => 0
 | some c => c.1
def scN : Option (Int × Int) → Int → Int
 | none, x => x
 | some c, _ => c.2
def ScOK (l : List Edge) (cur : Option (Int × Int)) : Prop := ∀ c, cur = some c → 1 ≤ c.1 ∧ c.1 ≤ 9 ∧ 1 ≤ c.2 ∧ c.2 ≤ 9
theorem Qfw {l : List Edge} (hE : Ends l) {cur : Option (Int × Int)} (h : ScOK l cur) {a : Int} (h1 : 1 ≤ a) (h2 : a ≤ 9) : ScOK l (scStep l cur a) := by
 have hle := Qti hE a a (by omega)
 have key : scStep l cur a = cur ∨ (0 < at_ (dist l a) a ∧ scStep l cur a = some (a, at_ (dist l a) a)) := by
  by_cases hp : 0 < at_ (dist l a) a
  ·cases cur with
   | none => right; simp [scStep, hp]
   | some c =>
    by_cases hq : at_ (dist l a) a < c.2
    ·right; simp [scStep, hp, hq]
    ·left; simp [scStep, hq]
  ·left; simp [scStep, hp]
 rcases key with k | ⟨k1, k2⟩
 ·rw [k]; exact h
 ·rw [k2]
  intro c e
  cases e
  exact ⟨h1, h2, by simp only; omega, hle⟩
theorem Qr1 (h : G_f88 E) (l : List Edge) (hl : l.length ≤ 1048576) (far : List Int) (hf : far.length = 10) (d at0 : Int) (hd : 1 ≤ d) (hd2 : d ≤ 9) (c : List Int) (hc : c.length ≤ 1000) : ∀ (n : Nat) (b : Int), b = 10 - n → 1 ≤ b →
  f88_l1 E (edgesU l) (intsU far) (.int .i64 at0) (.int .i64 d) (.int .i64 b) (c.map intU) =
   match scNext l far d at0 n with
   | some v => f88_l0 E (edgesU l) (intsU far) (.int .i64 v) (.int .i64 (d - 1)) ((c ++ [v]).map intU)
   | none => f88_l0 E (edgesU l) (intsU far) (.int .i64 at0) (.int .i64 (d - 1)) (c.map intU)
 | 0, b, hb, h1 => by
  have : ¬ b ≤ 9 := by omega
  have hw : IntKind.i64.wrap (d - 1) = d - 1 := Qj (by omega)
  rw [Qn6]
  simp [this, hw, scNext]
 | n + 1, b, hb, h1 => by
  have hb9 : b ≤ 9 := by omega
  have h0 : 0 ≤ b := by omega
  have hw : IntKind.i64.wrap (d - 1) = d - 1 := Qj (by omega)
  have hw2 : IntKind.i64.wrap (b + 1) = b + 1 := Qj (by omega)
  have e : (9 : Int) - n = b := by omega
  have ih := Qr1 h l hl far hf d at0 hd hd2 c hc n (b + 1) (by omega) (by omega)
  have i1 := Qa5 hf (v := b) h0 hb9
  have hlen : ((c.map intU).length + 1) * 8 ≤ 140737488355328 := by rw [List.length_map]; omega
  rw [Qn6]
  simp only [scNext, e]
  cases hg : hasEdge l at0 b with
  | false =>
   simp only [Qp, hb9, decide_true, Option.bind_some, Qc, if_true, Qe4 h.c_f84 l hl, hg, Bool.false_eq_true, if_false, Qn, hw2, Bool.and_false]
   exact ih
  | true =>
   by_cases hq : at_ far b = d
   ·simp only [Qp, hb9, decide_true, Option.bind_some, Qc, if_true, Qe4 h.c_f84 l hl, hg, Ql, Qes, h0, i1, Qs, Qy, hq, Qan, Qax, Qab, and_self, List.length_cons, List.length_nil, hlen, Qa2, hw, Bool.and_self, List.map_append, List.map_cons, List.map_nil, intU, Qem]
   ·simp only [Qp, hb9, decide_true, Option.bind_some, Qc, if_true, Qe4 h.c_f84 l hl, hg, Ql, Qes, h0, i1, Qs, Qy, hq, decide_false, Bool.false_eq_true, if_false, Qn, hw2, Bool.false_and]
    exact ih
theorem Qiy (h : G_f88 E) (l : List Edge) (hl : l.length ≤ 1048576) (far : List Int) (hf : far.length = 10) : ∀ (n : Nat) (d at0 : Int) (c : List Int), d = n → n ≤ 9 → c.length + n ≤ 1000 →
  f88_l0 E (edgesU l) (intsU far) (.int .i64 at0) (.int .i64 d) (c.map intU) = some (intsU (scChain l far n at0 c))
 | 0, d, at0, c, hd, _, _ => by
  have : ¬ 0 < d := by omega
  rw [Qn5]
  simp [this, scChain]
 | n + 1, d, at0, c, hd, h9, hc => by
  have hpos : 0 < d := by omega
  rw [Qn5]
  simp only [Qv, hpos, decide_true, Option.bind_some, Qc, if_true]
  rw [Qr1 h l hl far hf d at0 (by omega) (by omega) c (by omega) 9 1 rfl (by omega)]
  have e : (n : Int) + 1 = d := by omega
  simp only [scChain, e]
  cases hx : scNext l far d at0 9 with
  | none => exact Qiy h l hl far hf n (d - 1) at0 c (by omega) (by omega) (by omega)
  | some v => exact Qiy h l hl far hf n (d - 1) v (c ++ [v]) (by omega) (by omega) (by simp; omega)
theorem Qr2 (h : G_f88 E) (l : List Edge) (hl : l.length ≤ 1048576) (ha : areEdges l = true) : ∀ (n : Nat) (a : Int) (cur : Option (Int × Int)), a = 10 - n → 1 ≤ a → ScOK l cur →
  f88_l2 E (edgesU l) (.int .i64 (scS cur)) (.int .i64 (scN cur (-1))) (.int .i64 a) = some (intsU (scEnd l (scScan l n cur)))
 | 0, a, cur, hb, h1, hok => by
  have : ¬ a ≤ 9 := by omega
  rw [Qe5]
  cases cur with
  | none => simp [this, scScan, scEnd, scN]
  | some c =>
   obtain ⟨s, k⟩ := c
   obtain ⟨c1, c2, c3, c4⟩ := hok _ rfl
   simp only at c1 c2 c3 c4
   have hk : ¬ k < 0 := by omega
   have hw : IntKind.i64.wrap (k - 1) = k - 1 := Qj (by omega)
   simp only [Qp, this, decide_false, Option.bind_some, Qc, Bool.false_eq_true, if_false, scN, scS, Qk, hk, Qod h.c_f94 l hl (Qbo ha), Qan, Qax, Qab, and_self, if_true, Qa2, hw, scScan, scEnd]
   exact Qiy h l hl (dist l s) (Qbq s) (k - 1).toNat (k - 1) s [s] (by omega) (by omega) (by simp; omega)
 | n + 1, a, cur, hb, h1, hok => by
  have h9 : a ≤ 9 := by omega
  have hw : IntKind.i64.wrap (a + 1) = a + 1 := Qj (by omega)
  have e : (9 : Int) - n = a := by omega
  have hE := Qbo ha
  have ih := Qr2 h l hl ha n (a + 1) (scStep l cur a) (by omega) (by omega) (Qfw hE hok h1 h9)
  have hd : E 39 [edgesU l, .int .i64 a, .int .i64 a] = some (.int .i64 (at_ (dist l a) a)) := by
   rw [Qno h.c_f81 l hl]
   have : inR a 1 9 = true := by simp [inR]; omega
   simp [edgeDistance, ha, this]
  rw [Qe5]
  simp only [scScan, e]
  rw [← ih]
  by_cases hp : 0 < at_ (dist l a) a
  ·cases cur with
   | none =>
    simp only [Qp, h9, decide_true, Option.bind_some, Qc, if_true, hd, Qv, hp, scN, Qk, Int.reduceLT, Qn, hw, scStep, Bool.and_self, scS, Int.reduceNeg]
   | some c =>
    obtain ⟨s, k⟩ := c
    obtain ⟨c1, c2, c3, c4⟩ := hok _ rfl
    simp only at c1 c2 c3 c4
    have hk : ¬ k < 0 := by omega
    by_cases hlt : at_ (dist l a) a < k
    ·simp only [Qp, h9, decide_true, Option.bind_some, Qc, if_true, hd, Qv, hp, scN, Qk, hk, decide_false, Bool.false_eq_true, if_false, hlt, Qn, hw, scStep, Bool.and_self, scS]
    ·simp only [Qp, h9, decide_true, Option.bind_some, Qc, if_true, hd, Qv, hp, scN, Qk, hk, decide_false, Bool.false_eq_true, if_false, hlt, Qn, hw, scStep, Bool.and_false, scS]
  ·simp only [Qp, h9, decide_true, Option.bind_some, Qc, if_true, hd, Qv, hp, decide_false, Bool.false_eq_true, if_false, Qn, hw, scStep, Bool.false_and]
theorem Qr3 (h : G_f88 E) (l : List Edge) (hl : l.length ≤ 1048576) (ha : areEdges l = false) : ∀ (n : Nat) (a : Int), a = 10 - n → 1 ≤ a →
  f88_l2 E (edgesU l) (.int .i64 0) (.int .i64 (-1)) (.int .i64 a) = some (.sl 1 [])
 | 0, a, hb, h1 => by
  have : ¬ a ≤ 9 := by omega
  rw [Qe5]
  simp [this]
 | n + 1, a, hb, h1 => by
  have h9 : a ≤ 9 := by omega
  have hw : IntKind.i64.wrap (a + 1) = a + 1 := Qj (by omega)
  have ih := Qr3 h l hl ha n (a + 1) (by omega) (by omega)
  have hd : E 39 [edgesU l, .int .i64 a, .int .i64 a] = some (.int .i64 (-1)) := by
   rw [Qno h.c_f81 l hl]
   simp [edgeDistance, ha]
  rw [Qe5]
  simp [h9, hd, hw, ih]
theorem Qxk (h : G_f88 E) (l : List Edge) (hl : l.length ≤ 1048576) : E 80 [edgesU l] = some (intsU (shortest l)) := by
 rw [f88_E h]
 unfold shortest
 cases ha : areEdges l with
 | false => exact Qr3 h l hl ha 9 1 rfl (by omega)
 | true => exact Qr2 h l hl ha 9 1 none rfl (by omega) (fun c e => by cases e)
theorem Qo6 (h : G_f23 E) (l : List Edge) (hl : l.length ≤ 1048576) (far : List Int) (hf : far.length = 10) (d at0 : Int) (hd : 1 ≤ d) (hd2 : d ≤ 9) (c : List Int) (hc : c.length ≤ 1000) : ∀ (n : Nat) (b : Int), b = 10 - n → 1 ≤ b →
  f23_l1 E (edgesU l) (.int .i64 d) (.int .i64 b) ((c ++ [at0]).map intU) (arrU far) =
   match scNext l far d at0 n with
   | some v => f23_l0 E (edgesU l) (.int .i64 (d - 1)) ((c ++ [at0] ++ [v]).map intU) (arrU far)
   | none => f23_l0 E (edgesU l) (.int .i64 (d - 1)) ((c ++ [at0]).map intU) (arrU far)
 | 0, b, hb, h1 => by
  have : ¬ b ≤ 9 := by omega
  have hw : IntKind.i64.wrap (d - 1) = d - 1 := Qj (by omega)
  rw [Qla]
  simp [this, hw, scNext]
 | n + 1, b, hb, h1 => by
  have hb9 : b ≤ 9 := by omega
  have h0 : 0 ≤ b ∧ b < 10 := by omega
  have hw : IntKind.i64.wrap (d - 1) = d - 1 := Qj (by omega)
  have hw2 : IntKind.i64.wrap (b + 1) = b + 1 := Qj (by omega)
  have e : (9 : Int) - n = b := by omega
  have ih := Qo6 h l hl far hf d at0 hd hd2 c hc n (b + 1) (by omega) (by omega)
  have i1 := Qa5 hf (v := b) h0.1 hb9
  have hst := Qc2 hf (v := b) h0.1 hb9
  have hlen : ((c ++ [at0]).length + 1) * 8 ≤ 140737488355328 := by simp; omega
  have hw3 : IntKind.i64.wrap (((c ++ [at0]).length : Int) - 1) = c.length := by rw [Qj (by simp; omega)]; simp
  have hlast : ((c ++ [at0]).map intU)[((c.length : Int)).toNat]? = some (intU at0) := by simp
  have hlt : (0 : Int) ≤ c.length ∧ (c.length : Int) < ((c ++ [at0]).length : Int) := by simp; omega
  rw [Qla]
  simp only [scNext, e]
  by_cases hq : at_ far b = d
  ·cases hg : hasEdge l at0 b with
   | false =>
    simp only [Qp, hb9, decide_true, Option.bind_some, Qc, if_true, Ql, h0, and_self, Qah, hst, i1, Qs, Qy, hq, List.length_map, Qa2, hw3, hlt, hlast, Qdl h.c_f18 l hl, hg, Bool.false_eq_true, if_false, Qn, hw2, Bool.and_false]
    exact ih
   | true =>
    simp only [Qp, hb9, decide_true, Option.bind_some, Qc, if_true, Ql, h0, and_self, Qah, hst, i1, Qs, Qy, hq, List.length_map, Qa2, hw3, hlt, hlast, Qdl h.c_f18 l hl, hg, Qan, Qax, Qab, List.length_cons, List.length_nil, hlen, hw, Bool.and_self]
    rw [List.map_append (l₁ := c ++ [at0])]
    simp only [List.map_cons, List.map_nil, intU]
  ·simp only [Qp, hb9, decide_true, Option.bind_some, Qc, if_true, Ql, h0, and_self, Qah, hst, i1, Qs, Qy, hq, decide_false, Bool.false_eq_true, if_false, Qn, hw2, Bool.false_and]
   exact ih
theorem Qhp (h : G_f23 E) (l : List Edge) (hl : l.length ≤ 1048576) (far : List Int) (hf : far.length = 10) : ∀ (n : Nat) (d at0 : Int) (c : List Int), d = n → n ≤ 9 → c.length + n ≤ 990 →
  f23_l0 E (edgesU l) (.int .i64 d) ((c ++ [at0]).map intU) (arrU far) = some (intsU (scChain l far n at0 (c ++ [at0])))
 | 0, d, at0, c, hd, _, _ => by
  have : ¬ 0 < d := by omega
  rw [Qk9]
  simp [this, scChain]
 | n + 1, d, at0, c, hd, h9, hc => by
  have hpos : 0 < d := by omega
  rw [Qk9]
  simp only [Qv, hpos, decide_true, Option.bind_some, Qc, if_true]
  rw [Qo6 h l hl far hf d at0 (by omega) (by omega) c (by omega) 9 1 rfl (by omega)]
  have e : (n : Int) + 1 = d := by omega
  simp only [scChain, e]
  cases hx : scNext l far d at0 9 with
  | none => exact Qhp h l hl far hf n (d - 1) at0 c (by omega) (by omega) (by omega)
  | some v => exact Qhp h l hl far hf n (d - 1) v (c ++ [at0]) (by omega) (by omega) (by simp; omega)
def orNil (l : List Int) : U := if l = [] then .nsl 1 else intsU l
theorem Qim (l : List Edge) (far : List Int) : ∀ (n : Nat) (a : Int) (c : List Int), c ≠ [] → scChain l far n a c ≠ []
 | 0, _, c, h => h
 | n + 1, a, c, h => by
  simp only [scChain]
  split
  ·exact Qim l far n _ _ (by simp)
  ·exact Qim l far n _ _ h
theorem Qo7 (h : G_f23 E) (l : List Edge) (hl : l.length ≤ 1048576) (ha : areEdges l = true) : ∀ (n : Nat) (a : Int) (cur : Option (Int × Int)), a = 10 - n → 1 ≤ a → ScOK l cur →
  f23_l2 E (edgesU l) (.int .i64 (scS cur)) (.int .i64 (scN cur 0)) (.int .i64 a) = some (orNil (scEnd l (scScan l n cur)))
 | 0, a, cur, hb, h1, hok => by
  have : ¬ a ≤ 9 := by omega
  rw [Qey]
  cases cur with
  | none => simp [this, scScan, scEnd, scS, orNil]
  | some c =>
   obtain ⟨s, k⟩ := c
   obtain ⟨c1, c2, c3, c4⟩ := hok _ rfl
   simp only at c1 c2 c3 c4
   have hs : ¬ s = 0 := by omega
   have hw : IntKind.i64.wrap (k - 1) = k - 1 := Qj (by omega)
   have hsz : (arrU (dist l s)).size = 10 := by show sizes _ = 10; rw [Qd7, Qbq]
   have hl0 := Qhp h l hl (dist l s) (Qbq s) (k - 1).toNat (k - 1) s [] (by omega) (by omega) (by simp; omega)
   have hne := Qim l (dist l s) (k - 1).toNat s [s] (by simp)
   simp only [Qp, this, decide_false, Option.bind_some, Qc, Bool.false_eq_true, if_false, scN, scS, Qy, hs, Qan, Qax, Qab, and_self, if_true, Qa3 h.c_f30 l hl (Qbo ha), Qsd, Qqf, hsz, Qa2, hw, scScan, scEnd, orNil, hne]
   exact hl0
 | n + 1, a, cur, hb, h1, hok => by
  have h9 : a ≤ 9 := by omega
  have h0 : 0 ≤ a ∧ a < 10 := by omega
  have hw : IntKind.i64.wrap (a + 1) = a + 1 := Qj (by omega)
  have e : (9 : Int) - n = a := by omega
  have hE := Qbo ha
  have ih := Qo7 h l hl ha n (a + 1) (scStep l cur a) (by omega) (by omega) (Qfw hE hok h1 h9)
  have hat := fun {γ : Type} (K : U → Option γ) => Qek (Qbq (l := l) a) h0.1 h9 K
  rw [Qey]
  simp only [scScan, e]
  rw [← ih]
  by_cases hp : 0 < at_ (dist l a) a
  ·cases cur with
   | none =>
    simp only [Qp, h9, decide_true, Option.bind_some, Qc, if_true, Qa3 h.c_f30 l hl hE, Ql, h0, and_self, hat, Qs, Qv, hp, scS, Qy, Qn, hw, scStep, Bool.and_self, scN]
   | some c =>
    obtain ⟨s, k⟩ := c
    obtain ⟨c1, c2, c3, c4⟩ := hok _ rfl
    simp only at c1 c2 c3 c4
    have hs : ¬ s = 0 := by omega
    by_cases hlt : at_ (dist l a) a < k
    ·simp only [Qp, h9, decide_true, Option.bind_some, Qc, if_true, Qa3 h.c_f30 l hl hE, Ql, h0, and_self, hat, Qs, Qv, hp, scS, Qy, hs, decide_false, Bool.false_eq_true, if_false, Qk, hlt, Qn, hw, scStep, Bool.and_self, scN]
    ·simp only [Qp, h9, decide_true, Option.bind_some, Qc, if_true, Qa3 h.c_f30 l hl hE, Ql, h0, and_self, hat, Qs, Qv, hp, scS, Qy, hs, decide_false, Bool.false_eq_true, if_false, Qk, hlt, Qn, hw, scStep, Bool.and_false, scN]
  ·simp only [Qp, h9, decide_true, Option.bind_some, Qc, if_true, Qa3 h.c_f30 l hl hE, Ql, h0, and_self, hat, Qs, Qv, hp, decide_false, Bool.false_eq_true, if_false, Qn, hw, scStep, Bool.false_and]
theorem Qun (h : G_f23 E) (l : List Edge) (hl : l.length ≤ 1048576) : E 81 [edgesU l] = some (orNil (shortest l)) := by
 rw [f23_E h]
 unfold shortest
 cases ha : areEdges l with
 | false => simp [f3_is h.c_f3 l hl, ha, orNil]
 | true =>
  simp only [f3_is h.c_f3 l hl, ha, Option.bind_some, Qec, Bool.not_true, Qc, Bool.false_eq_true, if_false]
  exact Qo7 h l hl ha 9 1 none rfl (by omega) (fun c e => by cases e)
theorem Qlx (h : G_f41 E) (a b : List Int) (ha : a.length ≤ 1048576) (hb : b.length ≤ 1048576) : ∀ (r s p p2 : List Int) (i : Int), a = p ++ r → b = p2 ++ s → i = p.length → i = p2.length → r.length = s.length →
  f41_l0 E (.sl 1 (a.map intU)) (.sl 1 (b.map intU)) (.int .i64 i) = some (.bool (decide (r = s)))
 | [], [], p, p2, i, e, e2, hi, hi2, _ => by
  rw [Qg4]
  simp [Qi e hi]
 | [], y :: s, _, _, _, _, _, _, _, hl => by cases hl
 | x :: r, [], _, _, _, _, _, _, _, hl => by cases hl
 | x :: r, y :: s, p, p2, i, e, e2, hi, hi2, hl => by
  obtain ⟨h0, hlt, hx, hw, hn, _⟩ := Qg e hi (by omega)
  obtain ⟨_, _, hy, _, hn2, _⟩ := Qg e2 hi2 (by omega)
  have ih := Qlx h a b ha hb r s (p ++ [x]) (p2 ++ [y]) (i + 1) (Qf e) (Qf e2) hn hn2 (by simpa using hl)
  rw [Qg4]
  by_cases hxy : x = y
  ·subst hxy
   simp [intU, hlt, hx, hy, hw, ih]
  ·simp [intU, hlt, hx, hy, hw, ih, hxy]
theorem Qlw (h : G_f41 E) (a b : List Int) (ha : a.length ≤ 1048576) (hb : b.length ≤ 1048576) : E 59 [.sl 1 (a.map intU), .sl 1 (b.map intU)] = some (.bool (decide (a = b))) := by
 rw [f41_E h]
 by_cases hl : a.length = b.length
 ·simp [hl, Qlx h a b ha hb a b [] [] 0 rfl rfl rfl rfl hl]
 ·have h1 : a ≠ b := fun e => hl (by rw [e])
  have h2 : (a.length : Int) ≠ b.length := by omega
  simp [h1, h2]
theorem Qya (a b : List U) : U.flat.flats (a ++ b) = (U.flat.flats a && U.flat.flats b) := by
 induction a with
 | nil => rfl
 | cons u a ih => simp [U.flat.flats, ih, Bool.and_assoc]
theorem Qx8 (n : Int) : (intU n).flat = true := rfl
theorem Qo4 (h : G_f24 E) (l : List Edge) (hl : l.length ≤ 1048576) (far : List Int) (hf : far.length = 10) (d at0 : Int) (hd : 1 ≤ d) (hd2 : d ≤ 9) (c : List Int) (hc : c.length ≤ 1000) : ∀ (n : Nat) (b : Int), b = 10 - n → 1 ≤ b →
  f24_l1 E (edgesU l) (.int .i64 d) (.int .i64 b) ((c ++ [at0]).map intU) (arrU far) =
   match scNext l far d at0 n with
   | some v => f24_l0 E (edgesU l) (.int .i64 (d - 1)) ((c ++ [at0] ++ [v]).map intU) (arrU far)
   | none => f24_l0 E (edgesU l) (.int .i64 (d - 1)) ((c ++ [at0]).map intU) (arrU far)
 | 0, b, hb, h1 => by
  have : ¬ b ≤ 9 := by omega
  have hw : IntKind.i64.wrap (d - 1) = d - 1 := Qj (by omega)
  rw [Qlc]
  simp [this, hw, scNext]
 | n + 1, b, hb, h1 => by
  have hb9 : b ≤ 9 := by omega
  have h0 : 0 ≤ b ∧ b < 10 := by omega
  have hw : IntKind.i64.wrap (d - 1) = d - 1 := Qj (by omega)
  have hw2 : IntKind.i64.wrap (b + 1) = b + 1 := Qj (by omega)
  have e : (9 : Int) - n = b := by omega
  have ih := Qo4 h l hl far hf d at0 hd hd2 c hc n (b + 1) (by omega) (by omega)
  have i1 := Qa5 hf (v := b) h0.1 hb9
  have hst := Qc2 hf (v := b) h0.1 hb9
  have hlen : ((c ++ [at0]).length + 1) * 8 ≤ 140737488355328 := by simp; omega
  have hw3 : IntKind.i64.wrap (((c ++ [at0]).length : Int) - 1) = c.length := by rw [Qj (by simp; omega)]; simp
  have hlast : ((c ++ [at0]).map intU)[((c.length : Int)).toNat]? = some (intU at0) := by simp
  have hlt : (0 : Int) ≤ c.length ∧ (c.length : Int) < ((c ++ [at0]).length : Int) := by simp; omega
  rw [Qlc]
  simp only [scNext, e]
  by_cases hq : at_ far b = d
  ·cases hg : hasEdge l at0 b with
   | false =>
    simp only [Qp, hb9, decide_true, Option.bind_some, Qc, if_true, Ql, h0, and_self, Qah, hst, i1, Qs, Qy, hq, List.length_map, Qa2, hw3, hlt, hlast, Qdl h.c_f18 l hl, hg, Bool.false_eq_true, if_false, Qn, hw2, Bool.and_false]
    exact ih
   | true =>
    simp only [Qp, hb9, decide_true, Option.bind_some, Qc, if_true, Ql, h0, and_self, Qah, hst, i1, Qs, Qy, hq, List.length_map, Qa2, hw3, hlt, hlast, Qdl h.c_f18 l hl, hg, Qan, Qax, Qab, List.length_cons, List.length_nil, hlen, hw, Bool.and_self]
    rw [List.map_append (l₁ := c ++ [at0])]
    simp only [List.map_cons, List.map_nil, intU]
  ·simp only [Qp, hb9, decide_true, Option.bind_some, Qc, if_true, Ql, h0, and_self, Qah, hst, i1, Qs, Qy, hq, decide_false, Bool.false_eq_true, if_false, Qn, hw2, Bool.false_and]
   exact ih
theorem Qho (h : G_f24 E) (l : List Edge) (hl : l.length ≤ 1048576) (far : List Int) (hf : far.length = 10) : ∀ (n : Nat) (d at0 : Int) (c : List Int), d = n → n ≤ 9 → c.length + n ≤ 990 →
  f24_l0 E (edgesU l) (.int .i64 d) ((c ++ [at0]).map intU) (arrU far) = some (intsU (scChain l far n at0 (c ++ [at0])))
 | 0, d, at0, c, hd, _, _ => by
  have : ¬ 0 < d := by omega
  rw [Qlb]
  simp [this, scChain, Qya, Qx8]
 | n + 1, d, at0, c, hd, h9, hc => by
  have hpos : 0 < d := by omega
  rw [Qlb]
  simp only [Qv, hpos, decide_true, Option.bind_some, Qc, if_true]
  rw [Qo4 h l hl far hf d at0 (by omega) (by omega) c (by omega) 9 1 rfl (by omega)]
  have e : (n : Int) + 1 = d := by omega
  simp only [scChain, e]
  cases hx : scNext l far d at0 9 with
  | none => exact Qho h l hl far hf n (d - 1) at0 c (by omega) (by omega) (by omega)
  | some v => exact Qho h l hl far hf n (d - 1) v (c ++ [at0]) (by omega) (by omega) (by simp; omega)
theorem Qo5 (h : G_f24 E) (l : List Edge) (hl : l.length ≤ 1048576) (ha : areEdges l = true) : ∀ (n : Nat) (a : Int) (cur : Option (Int × Int)), a = 10 - n → 1 ≤ a → ScOK l cur →
  f24_l2 E (edgesU l) (.int .i64 (scS cur)) (.int .i64 (scN cur 0)) (.int .i64 a) = some (intsU (scEnd l (scScan l n cur)))
 | 0, a, cur, hb, h1, hok => by
  have : ¬ a ≤ 9 := by omega
  rw [Qez]
  cases cur with
  | none => simp [this, scScan, scEnd, scS]
  | some c =>
   obtain ⟨s, k⟩ := c
   obtain ⟨c1, c2, c3, c4⟩ := hok _ rfl
   simp only at c1 c2 c3 c4
   have hs : ¬ s = 0 := by omega
   have hw : IntKind.i64.wrap (k - 1) = k - 1 := Qj (by omega)
   have hsz : (arrU (dist l s)).size = 10 := by show sizes _ = 10; rw [Qd7, Qbq]
   have hl0 := Qho h l hl (dist l s) (Qbq s) (k - 1).toNat (k - 1) s [] (by omega) (by omega) (by simp; omega)
   simp only [Qp, this, decide_false, Option.bind_some, Qc, Bool.false_eq_true, if_false, scN, scS, Qy, hs, Qan, Qax, Qab, and_self, if_true, Qa3 h.c_f30 l hl (Qbo ha), Qsd, Qqf, hsz, Qa2, hw, scScan, scEnd]
   exact hl0
 | n + 1, a, cur, hb, h1, hok => by
  have h9 : a ≤ 9 := by omega
  have h0 : 0 ≤ a ∧ a < 10 := by omega
  have hw : IntKind.i64.wrap (a + 1) = a + 1 := Qj (by omega)
  have e : (9 : Int) - n = a := by omega
  have hE := Qbo ha
  have ih := Qo5 h l hl ha n (a + 1) (scStep l cur a) (by omega) (by omega) (Qfw hE hok h1 h9)
  have hat := fun {γ : Type} (K : U → Option γ) => Qek (Qbq (l := l) a) h0.1 h9 K
  rw [Qez]
  simp only [scScan, e]
  rw [← ih]
  by_cases hp : 0 < at_ (dist l a) a
  ·cases cur with
   | none =>
    simp only [Qp, h9, decide_true, Option.bind_some, Qc, if_true, Qa3 h.c_f30 l hl hE, Ql, h0, and_self, hat, Qs, Qv, hp, scS, Qy, Qn, hw, scStep, Bool.and_self, scN]
   | some c =>
    obtain ⟨s, k⟩ := c
    obtain ⟨c1, c2, c3, c4⟩ := hok _ rfl
    simp only at c1 c2 c3 c4
    have hs : ¬ s = 0 := by omega
    by_cases hlt : at_ (dist l a) a < k
    ·simp only [Qp, h9, decide_true, Option.bind_some, Qc, if_true, Qa3 h.c_f30 l hl hE, Ql, h0, and_self, hat, Qs, Qv, hp, scS, Qy, hs, decide_false, Bool.false_eq_true, if_false, Qk, hlt, Qn, hw, scStep, Bool.and_self, scN]
    ·simp only [Qp, h9, decide_true, Option.bind_some, Qc, if_true, Qa3 h.c_f30 l hl hE, Ql, h0, and_self, hat, Qs, Qv, hp, scS, Qy, hs, decide_false, Bool.false_eq_true, if_false, Qk, hlt, Qn, hw, scStep, Bool.and_false, scN]
  ·simp only [Qp, h9, decide_true, Option.bind_some, Qc, if_true, Qa3 h.c_f30 l hl hE, Ql, h0, and_self, hat, Qs, Qv, hp, decide_false, Bool.false_eq_true, if_false, Qn, hw, scStep, Bool.false_and]
theorem Quq (h : G_f24 E) (l : List Edge) (hl : l.length ≤ 1048576) : E 100081 [edgesU l] = some (intsU (shortest l)) := by
 rw [f24_E h]
 unfold shortest
 cases ha : areEdges l with
 | false => simp [f3_is h.c_f3 l hl, ha]
 | true =>
  simp only [f3_is h.c_f3 l hl, ha, Option.bind_some, Qec, Bool.not_true, Qc, Bool.false_eq_true, if_false]
  exact Qo5 h l hl ha 9 1 none rfl (by omega) (fun c e => by cases e)
theorem Qka (h : G_f30 E) (to : Int) (b4 : U) (hb : b4.size = 10) : ∀ (n m : Nat) (i : Int), m + n = 10 → i = m →
  f30_l2 E (.nsl 4) (.int .i64 to) (.int .i64 i) b4 (arrU (List.replicate m (-1) ++ List.replicate n 0)) = some (arrU (List.replicate 10 (-1)))
 | 0, m, i, hm, hi => by
  have : ¬ i < 10 := by omega
  obtain rfl : m = 10 := by omega
  rw [Qe2]
  simp only [Qk, this, decide_false, Option.bind_some, Qc, Bool.false_eq_true, if_false, Qan, Qax, Qab, and_self, if_true]
  rw [Qdm]
  simp only [List.length_cons, List.length_nil, Qv, Qhu, Option.bind_some]
  rw [Qdn]
  have hw : IntKind.i64.wrap (1 + 1) = 2 := Qj (by omega)
  simp only [Qk, Int.lt_irrefl, decide_false, Option.bind_some, Qc, Bool.false_eq_true, if_false, Qn, hw]
  rw [Qdm]
  simp only [List.length_nil, Qv, Option.bind_some, Qc]
  have hsz : sizes ((List.replicate 10 (-1 : Int)).map intU) = 10 := rfl
  simp [hb, hsz]
 | n + 1, m, i, hm, hi => by
  have h1 : i < 10 := by omega
  have h0 : 0 ≤ i := by omega
  have hw : IntKind.i64.wrap (i + 1) = i + 1 := Qj (by omega)
  have ih := Qka h to b4 hb n (m + 1) (i + 1) (by omega) (by omega)
  have hlen : (List.replicate m (-1 : Int) ++ List.replicate (n + 1) 0).length = 10 := by simp; omega
  have i1 := Qa5 hlen (v := i) h0 (by omega)
  have hst := Qc2 hlen (v := i) h0 (by omega)
  have hset : (List.replicate m (-1 : Int) ++ List.replicate (n + 1) 0).set i.toNat (-1) = List.replicate (m + 1) (-1) ++ List.replicate n 0 := by
   have : i.toNat = m := by omega
   rw [this, List.set_append_right _ _ (by simp)]
   simp only [List.length_replicate, Nat.sub_self, List.replicate_succ, List.set_cons_zero]
   rw [← List.replicate_succ, List.replicate_succ', List.append_assoc]
   rfl
  rw [Qe2]
  simp only [Qk, h1, decide_true, Option.bind_some, Qc, if_true, Ql, h0, and_self, Qah, hst, i1, Qdz, Qn, hw, Qio, hset]
  exact ih
theorem Qj9 (h : G_f30 E) (to : Int) : E 41 [.nsl 4, .int .i64 to] = some (arrU (List.replicate 10 (-1))) := by
 rw [f30_E h]
 exact Qka h to _ rfl 10 0 0 rfl rfl
theorem Qgg (h : G_f3 E) : E 3 [.nsl 4] = some (.bool true) := by
 rw [f3_E h]
 simp only [Qhu, Option.bind_some]
 rw [Qe3]
 simp
theorem Qrk (h : G_f23 E) : ∀ (n : Nat) (a : Int), a = 10 - n → 1 ≤ a →
  f23_l2 E (.nsl 4) (.int .i64 0) (.int .i64 0) (.int .i64 a) = some (.nsl 1)
 | 0, a, hb, h1 => by
  have : ¬ a ≤ 9 := by omega
  rw [Qey]
  simp [this]
 | n + 1, a, hb, h1 => by
  have h9 : a ≤ 9 := by omega
  have h0 : 0 ≤ a ∧ a < 10 := by omega
  have hw : IntKind.i64.wrap (a + 1) = a + 1 := Qj (by omega)
  have ih := Qrk h n (a + 1) (by omega) (by omega)
  have hat := fun {γ : Type} (K : U → Option γ) => Qek (o := List.replicate 10 (-1 : Int)) rfl h0.1 h9 K
  have hv : at_ (List.replicate 10 (-1 : Int)) a = -1 := by
   unfold at_
   rw [List.getD_eq_getElem?_getD, List.getElem?_replicate, if_pos (by omega)]
   rfl
  rw [Qey]
  simp only [Qp, h9, decide_true, Option.bind_some, Qc, if_true, Qj9 h.c_f30, Ql, h0, and_self, hat, Qs, Qv, hv, Qn, hw]
  simpa using ih
theorem Qrj (h : G_f24 E) : ∀ (n : Nat) (a : Int), a = 10 - n → 1 ≤ a →
  f24_l2 E (.nsl 4) (.int .i64 0) (.int .i64 0) (.int .i64 a) = some (.sl 1 [])
 | 0, a, hb, h1 => by
  have : ¬ a ≤ 9 := by omega
  rw [Qez]
  simp [this]
 | n + 1, a, hb, h1 => by
  have h9 : a ≤ 9 := by omega
  have h0 : 0 ≤ a ∧ a < 10 := by omega
  have hw : IntKind.i64.wrap (a + 1) = a + 1 := Qj (by omega)
  have ih := Qrj h n (a + 1) (by omega) (by omega)
  have hat := fun {γ : Type} (K : U → Option γ) => Qek (o := List.replicate 10 (-1 : Int)) rfl h0.1 h9 K
  have hv : at_ (List.replicate 10 (-1 : Int)) a = -1 := by
   unfold at_
   rw [List.getD_eq_getElem?_getD, List.getElem?_replicate, if_pos (by omega)]
   rfl
  rw [Qez]
  simp only [Qp, h9, decide_true, Option.bind_some, Qc, if_true, Qj9 h.c_f30, Ql, h0, and_self, hat, Qs, Qv, hv, Qn, hw]
  simpa using ih
theorem Qri : shortest [] = [] := by decide
theorem Qup (h : G_f23 E) (l : List Entry) : E 81 [buildGraphU l] = some (orNil (shortest (buildGraph l))) := by
 have hlen := Qb5 l
 unfold buildGraphU
 split
 ·exact Qun h _ (by omega)
 ·rename_i hn
  have : buildGraph l = [] := by unfold buildGraph; rw [if_neg hn]
  rw [this, Qri, f23_E h, Qgg h.c_f3]
  simp only [Option.bind_some, Qec, Bool.not_true, Qc, Bool.false_eq_true, if_false]
  exact Qrk h 9 1 rfl (by omega)
theorem Qus (h : G_f24 E) (l : List Entry) : E 100081 [buildGraphU l] = some (intsU (shortest (buildGraph l))) := by
 have hlen := Qb5 l
 unfold buildGraphU
 split
 ·exact Quq h _ (by omega)
 ·rename_i hn
  have : buildGraph l = [] := by unfold buildGraph; rw [if_neg hn]
  rw [this, Qri, f24_E h, Qgg h.c_f3]
  simp only [Option.bind_some, Qec, Bool.not_true, Qc, Bool.false_eq_true, if_false]
  exact Qrj h 9 1 rfl (by omega)
theorem Qyw (h : G_f6 E) (l : List Entry) (hl : l.length ≤ 1048576) (ho : ∀ x ∈ l, x.ok) : E 438 [.sl 4 (l.map Entry.u), .nsl 1] = some (.int .i64 (classify l [])) := by
 have hlen := Qb5 l
 have hg := f4_is h.c_f4 l hl ho
 have hk : E 60 [buildGraphU l, .nsl 1] = some (.bool false) := by
  rw [f5_E h.c_f5]
  unfold buildGraphU
  split
  ·have := f3_is h.c_f5.c_f3 (buildGraph l) (by omega)
   rw [show (U.sl 4 ((buildGraph l).map Edge.u)) = edgesU (buildGraph l) from rfl, this]
   cases areEdges (buildGraph l) <;> simp
  ·rw [Qgg h.c_f5.c_f3]
   simp
 rw [f6_E h]
 have hc : classify l [] = 0 := by
  unfold classify
  rw [if_neg]
  intro hh
  have := (Qgn l [] hh).2
  simp at this
 simp [hg, hk, hc]
def anomaly (l : List Entry) : Int := classify l (shortest (buildGraph l))
theorem Qxc (h : G_f82 E) (l : List Entry) (hl : l.length ≤ 1048576) (ho : ∀ x ∈ l, x.ok) (hs : (shortest (buildGraph l)).length ≤ 1048576) : E 450 [.sl 4 (l.map Entry.u)] = some (.tup [.int .i64 (anomaly l), intsU (shortest (buildGraph l))]) := by
 rw [f82_E h]
 have hlen := Qb5 l
 have h1 := Qnb h.c_f78 l hl ho
 have h2 := Qxk h.c_f88 (buildGraph l) (by omega)
 have h3 := Qacp h.c_f80 l hl ho _ hs
 simp only [h1, h2, h3, Option.bind_some, intsU, edgesU, anomaly, Qzp, Qzq]
theorem Qt9 (h : G_f14 E) (l : List Entry) (hl : l.length ≤ 1048576) (ho : ∀ x ∈ l, x.ok) (hs : (shortest (buildGraph l)).length ≤ 1048576) : E 449 [.sl 4 (l.map Entry.u)] = some (.tup [.int .i64 (anomaly l), orNil (shortest (buildGraph l))]) := by
 rw [f14_E h]
 have h1 := f4_is h.c_f4 l hl ho
 have h2 := Qup h.c_f23 l
 have h3 : E 438 [.sl 4 (l.map Entry.u), orNil (shortest (buildGraph l))] = some (.int .i64 (anomaly l)) := by
  unfold orNil anomaly
  split
  ·rename_i e
   rw [e]
   exact Qyw h.c_f6 l hl ho
  ·exact Qo3 h.c_f6 l hl ho _ hs
 simp only [h1, h2, h3, Option.bind_some]
 unfold orNil
 split <;> rfl
theorem Qub (h : G_f15 E) (l : List Entry) (hl : l.length ≤ 1048576) (ho : ∀ x ∈ l, x.ok) (hs : (shortest (buildGraph l)).length ≤ 1048576) : E 100449 [.sl 4 (l.map Entry.u)] = some (.tup [.int .i64 (anomaly l), intsU (shortest (buildGraph l))]) := by
 rw [f15_E h]
 have h1 := f4_is h.c_f4 l hl ho
 have h2 := Qus h.c_f24 l
 have h3 := Qo3 h.c_f6 l hl ho _ hs
 simp only [h1, h2, Option.bind_some, intsU] at h3 ⊢
 simp [h3, anomaly]
theorem Qrf {l : List Edge} (hE : Ends l) : ∀ (n : Nat) (cur : Option (Int × Int)), n ≤ 9 → ScOK l cur → ScOK l (scScan l n cur)
 | 0, cur, _, h => h
 | n + 1, cur, hn, h => Qrf hE n _ (by omega) (Qfw hE h (by omega) (by omega))
theorem Qil (l : List Edge) (far : List Int) : ∀ (n : Nat) (a : Int) (c : List Int), (scChain l far n a c).length ≤ c.length + n
 | 0, _, c => by simp [scChain]
 | n + 1, a, c => by
  simp only [scChain]
  split
  ·rename_i b _
   have := Qil l far n b (c ++ [b])
   simp at this
   omega
  ·have := Qil l far n a c
   omega
theorem Qaa4 (l : List Edge) : (shortest l).length ≤ 1000 := by
 unfold shortest
 split
 ·rename_i ha
  have hok := Qrf (Qbo ha) 9 none (by omega) (fun c e => by cases e)
  cases hc : scScan l 9 none with
  | none => simp [scEnd]
  | some c =>
   obtain ⟨s, k⟩ := c
   obtain ⟨c1, c2, c3, c4⟩ := hok _ hc
   simp only at c1 c2 c3 c4
   have := Qil l (dist l s) (k - 1).toNat s [s]
   simp only [scEnd, List.length_cons, List.length_nil] at this ⊢
   omega
 ·simp
theorem Qtt (h : G_f41 E) (l : List Int) (hl : l.length ≤ 1048576) : E 59 [orNil l, intsU l] = some (.bool true) := by
 unfold orNil
 split
 ·rename_i e
  subst e
  rw [f41_E h]
  simp only [Qhu, Qr, List.map_nil, List.length_nil, Option.bind_some, Qj1, ne_eq, not_true_eq_false, decide_false, Qc, Bool.false_eq_true, if_false]
  rw [Qg4]
  simp
 ·rw [Qlw h l l hl hl]
  simp
theorem Qmm (h : G_f61 E) (x : ReadMark) : E 29 [x.u] = some x.u := by
 rw [f61_E h]
 simp [ReadMark.u]
theorem Qmo (h : G_f62 E) (l : List ReadMark) (hl : l.length ≤ 1048576) : ∀ (r p : List ReadMark) (i : Int) (c : List U), l = p ++ r → i = p.length → c.length = r.length → (∀ z ∈ c, z.size = 2) →
  f62_l0 E (.sl 2 (l.map ReadMark.u)) (.int .i64 i) (p.map ReadMark.u ++ c) = some (.sl 2 (l.map ReadMark.u))
 | [], p, i, c, e, hi, hc, _ => by
  obtain rfl : c = [] := List.length_eq_zero_iff.1 hc
  rw [Qmn]
  simp [Qi e hi]
  simp [e]
 | x :: r, p, i, [], e, hi, hc, _ => by cases hc
 | x :: r, p, i, z :: c, e, hi, hc, hz => by
  obtain ⟨h0, hlt, hx, hw, hn, _⟩ := Qg e hi (by omega)
  have hzs : z.size = 2 := hz z (by simp)
  obtain ⟨hg, hs, hlen⟩ := Qbi ReadMark.u p z c hi
  have ih := Qmo h l hl r (p ++ [x]) (i + 1) c (Qf e) hn (by simpa using hc) (fun y hy => hz y (by simp [hy]))
  simp only [List.map_append, List.map_cons, List.map_nil, List.append_assoc, List.cons_append, List.nil_append] at ih
  rw [Qmn]
  simp only [hg, hs, hx, hw, Ql, Qk, Qr, List.length_map, Option.bind_some, Qc, hlt, decide_true, if_true, h0, hlen, and_self, Qn, Qmm h.c_f61 x, hzs, ReadMark.u_var, ReadMark.u_size, ReadMark.u_storable, ReadMark.u_partable]
  simpa using ih
theorem Qwf (h : G_f62 E) (l : List ReadMark) (hl : l.length ≤ 1048576) : E 28 [.sl 2 (l.map ReadMark.u)] = some (.sl 2 (l.map ReadMark.u)) := by
 have h1 := Qmo h l hl l [] 0 (List.replicate l.length (.agg [.int .i64 0, .int .i64 0])) rfl rfl (by simp) (by simp)
 rw [f62_E h]
 simp only [Qr, Option.bind_some, List.length_map]
 rw [if_pos (by refine ⟨by omega, by omega, by omega, rfl⟩)]
 simpa using h1
theorem Qly (h : G_f42 E) (x y : ReadMark) : E 35 [x.u, y.u] = some (.bool (decide (x = y))) := by
 rw [f42_E h]
 obtain ⟨a0, a1⟩ := x
 obtain ⟨b0, b1⟩ := y
 simp only [ReadMark.mk.injEq]
 by_cases h0 : a0 = b0
 case neg => simp [h0]
 subst h0
 by_cases h1 : a1 = b1
 case neg => simp [h1]
 subst h1
 simp []
theorem Ql0 (h : G_f43 E) (a b : List ReadMark) (ha : a.length ≤ 1048576) (hb : b.length ≤ 1048576) : ∀ (r s p p2 : List ReadMark) (i : Int), a = p ++ r → b = p2 ++ s → i = p.length → i = p2.length → r.length = s.length →
  f43_l0 E (.sl 2 (a.map ReadMark.u)) (.sl 2 (b.map ReadMark.u)) (.int .i64 i) = some (.bool (decide (r = s)))
 | [], [], p, p2, i, e, e2, hi, hi2, _ => by
  rw [Qlz]
  simp [Qi e hi]
 | [], y :: s, _, _, _, _, _, _, _, hl => by cases hl
 | x :: r, [], _, _, _, _, _, _, _, hl => by cases hl
 | x :: r, y :: s, p, p2, i, e, e2, hi, hi2, hl => by
  obtain ⟨h0, hlt, hx, hw, hn, _⟩ := Qg e hi (by omega)
  obtain ⟨_, _, hy, _, hn2, _⟩ := Qg e2 hi2 (by omega)
  have ih := Ql0 h a b ha hb r s (p ++ [x]) (p2 ++ [y]) (i + 1) (Qf e) (Qf e2) hn hn2 (by simpa using hl)
  rw [Qlz]
  by_cases hxy : x = y
  ·subst hxy
   simp [hlt, hx, hy, hw, ih, Qly h.c_f42]
  ·simp [hlt, hx, hy, hw, ih, Qly h.c_f42, hxy]
theorem Qdq (h : G_f43 E) (a b : List ReadMark) (ha : a.length ≤ 1048576) (hb : b.length ≤ 1048576) : E 34 [.sl 2 (a.map ReadMark.u), .sl 2 (b.map ReadMark.u)] = some (.bool (decide (a = b))) := by
 rw [f43_E h]
 by_cases hl : a.length = b.length
 ·simp [hl, Ql0 h a b ha hb a b [] [] 0 rfl rfl rfl rfl hl]
 ·have h1 : a ≠ b := fun e => hl (by rw [e])
  have h2 : (a.length : Int) ≠ b.length := by omega
  simp [h1, h2]
theorem Qv0 (h : G_f54 E) (l : List ReadMark) (hl : l.length ≤ maxLen) (left : Int) (h0 : 0 ≤ left) (h1 : left ≤ 1048576) : E 24 [.sl 2 (l.map ReadMark.u), .int .i64 left] = some (.int .i64 (szc l.length left)) := by
 rw [f54_E h]
 unfold maxLen at hl
 have hw : IntKind.i64.wrap (left - (l.length : Int)) = left - l.length := Qj (by omega)
 by_cases h2 : left - (l.length : Int) < 0 <;> simp [hw, szc, h2]
theorem Qmr (h : G_f64 E) (x : Write) : E 30 [x.u] = some x.u := by
 rw [f64_E h]
 simp [Write.u]
theorem Qmt (h : G_f65 E) (l : List Write) (hl : l.length ≤ 1048576) : ∀ (r p : List Write) (i : Int) (c : List U), l = p ++ r → i = p.length → c.length = r.length → (∀ z ∈ c, z.size = 2) →
  f65_l0 E (.sl 2 (l.map Write.u)) (.int .i64 i) (p.map Write.u ++ c) = some (.sl 2 (l.map Write.u))
 | [], p, i, c, e, hi, hc, _ => by
  obtain rfl : c = [] := List.length_eq_zero_iff.1 hc
  rw [Qms]
  simp [Qi e hi]
  simp [e]
 | x :: r, p, i, [], e, hi, hc, _ => by cases hc
 | x :: r, p, i, z :: c, e, hi, hc, hz => by
  obtain ⟨h0, hlt, hx, hw, hn, _⟩ := Qg e hi (by omega)
  have hzs : z.size = 2 := hz z (by simp)
  obtain ⟨hg, hs, hlen⟩ := Qbi Write.u p z c hi
  have ih := Qmt h l hl r (p ++ [x]) (i + 1) c (Qf e) hn (by simpa using hc) (fun y hy => hz y (by simp [hy]))
  simp only [List.map_append, List.map_cons, List.map_nil, List.append_assoc, List.cons_append, List.nil_append] at ih
  rw [Qms]
  simp only [hg, hs, hx, hw, Ql, Qk, Qr, List.length_map, Option.bind_some, Qc, hlt, decide_true, if_true, h0, hlen, and_self, Qn, Qmr h.c_f64 x, hzs, Write.u_var, Write.u_size, Write.u_storable, Write.u_partable]
  simpa using ih
theorem Qwk (h : G_f65 E) (l : List Write) (hl : l.length ≤ 1048576) : E 27 [.sl 2 (l.map Write.u)] = some (.sl 2 (l.map Write.u)) := by
 have h1 := Qmt h l hl l [] 0 (List.replicate l.length (.agg [.int .i64 0, .int .i64 0])) rfl rfl (by simp) (by simp)
 rw [f65_E h]
 simp only [Qr, Option.bind_some, List.length_map]
 rw [if_pos (by refine ⟨by omega, by omega, by omega, rfl⟩)]
 simpa using h1
theorem Ql1 (h : G_f44 E) (x y : Write) : E 36 [x.u, y.u] = some (.bool (decide (x = y))) := by
 rw [f44_E h]
 obtain ⟨a0, a1⟩ := x
 obtain ⟨b0, b1⟩ := y
 simp only [Write.mk.injEq]
 by_cases h0 : a0 = b0
 case neg => simp [h0]
 subst h0
 by_cases h1 : a1 = b1
 case neg => simp [h1]
 subst h1
 simp []
theorem Ql3 (h : G_f45 E) (a b : List Write) (ha : a.length ≤ 1048576) (hb : b.length ≤ 1048576) : ∀ (r s p p2 : List Write) (i : Int), a = p ++ r → b = p2 ++ s → i = p.length → i = p2.length → r.length = s.length →
  f45_l0 E (.sl 2 (a.map Write.u)) (.sl 2 (b.map Write.u)) (.int .i64 i) = some (.bool (decide (r = s)))
 | [], [], p, p2, i, e, e2, hi, hi2, _ => by
  rw [Ql2]
  simp [Qi e hi]
 | [], y :: s, _, _, _, _, _, _, _, hl => by cases hl
 | x :: r, [], _, _, _, _, _, _, _, hl => by cases hl
 | x :: r, y :: s, p, p2, i, e, e2, hi, hi2, hl => by
  obtain ⟨h0, hlt, hx, hw, hn, _⟩ := Qg e hi (by omega)
  obtain ⟨_, _, hy, _, hn2, _⟩ := Qg e2 hi2 (by omega)
  have ih := Ql3 h a b ha hb r s (p ++ [x]) (p2 ++ [y]) (i + 1) (Qf e) (Qf e2) hn hn2 (by simpa using hl)
  rw [Ql2]
  by_cases hxy : x = y
  ·subst hxy
   simp [hlt, hx, hy, hw, ih, Ql1 h.c_f44]
  ·simp [hlt, hx, hy, hw, ih, Ql1 h.c_f44, hxy]
theorem Qdr (h : G_f45 E) (a b : List Write) (ha : a.length ≤ 1048576) (hb : b.length ≤ 1048576) : E 33 [.sl 2 (a.map Write.u), .sl 2 (b.map Write.u)] = some (.bool (decide (a = b))) := by
 rw [f45_E h]
 by_cases hl : a.length = b.length
 ·simp [hl, Ql3 h a b ha hb a b [] [] 0 rfl rfl rfl rfl hl]
 ·have h1 : a ≠ b := fun e => hl (by rw [e])
  have h2 : (a.length : Int) ≠ b.length := by omega
  simp [h1, h2]
theorem Qv2 (h : G_f55 E) (l : List Write) (hl : l.length ≤ maxLen) (left : Int) (h0 : 0 ≤ left) (h1 : left ≤ 1048576) : E 23 [.sl 2 (l.map Write.u), .int .i64 left] = some (.int .i64 (szc l.length left)) := by
 rw [f55_E h]
 unfold maxLen at hl
 have hw : IntKind.i64.wrap (left - (l.length : Int)) = left - l.length := Qj (by omega)
 by_cases h2 : left - (l.length : Int) < 0 <;> simp [hw, szc, h2]
theorem Qls (h : G_f39 E) (x y : Entry) (hx : x.ok) (hy : y.ok) : E 56 [x.u, y.u] = some (.bool (decide (x = y))) := by
 rw [f39_E h]
 obtain ⟨a0, a1, a2, a3⟩ := x
 obtain ⟨b0, b1, b2, b3⟩ := y
 simp only [Entry.mk.injEq]
 by_cases h0 : a0 = b0
 case neg => simp [Qdq h.c_f43 a2 b2 hx.1 hy.1, Qdr h.c_f45 a3 b3 hx.2 hy.2, h0]
 subst h0
 by_cases h1 : a1 = b1
 case neg => simp [Qdq h.c_f43 a2 b2 hx.1 hy.1, Qdr h.c_f45 a3 b3 hx.2 hy.2, h1]
 subst h1
 by_cases h2 : a2 = b2
 case neg => simp [Qdq h.c_f43 a2 b2 hx.1 hy.1, Qdr h.c_f45 a3 b3 hx.2 hy.2, h2]
 subst h2
 by_cases h3 : a3 = b3
 case neg => simp [Qdq h.c_f43 a2 a2 hx.1 hy.1, Qdr h.c_f45 a3 b3 hx.2 hy.2, h3]
 subst h3
 simp [Qdq h.c_f43 a2 a2 hx.1 hy.1, Qdr h.c_f45 a3 a3 hx.2 hy.2]
def Entry.sz (e : Entry) (left : Int) : Int := let v := szc e.reads.length left; if v < 0 then -1 else szc e.writes.length v
theorem Entry.sz_szs : Szs Entry.sz Entry.ok := fun e left h0 h1 => by
 unfold Entry.sz Entry.ok
 rcases Qb0 e.reads.length left h0 h1 with h | ⟨h2, h3, h4⟩
 ·left; simp [h]
 ·have h5 : ¬ szc e.reads.length left < 0 := by omega
  rcases Qb0 e.writes.length _ h3 (by omega) with h | ⟨h6, h7, h8⟩
  ·left; simp [h5, h]
  ·right; simp only [h5, if_false]; exact ⟨⟨h2, h6⟩, h7, by omega⟩
theorem Qme (h : G_f52 E) (x : Entry) (hf : x.fit) (left : Int) (h0 : 0 ≤ left) (h1 : left ≤ 1048576) : E 50 [x.u, .int .i64 left] = some (.int .i64 (x.sz left)) := by
 rw [f52_E h]
 obtain ⟨hf1, hf2⟩ := hf
 have a1 := Qv0 h.c_f54 x.reads hf1 left h0 h1
 rcases Qb0 x.reads.length left h0 h1 with h2 | ⟨_, h3, h4⟩
 ·simp [a1, Entry.sz, h2]
 ·have h5 : ¬ szc x.reads.length left < 0 := by omega
  have a2 := Qv2 h.c_f55 x.writes hf2 _ h3 (by omega)
  by_cases h6 : szc x.writes.length (szc x.reads.length left) < 0
  ·have h7 : szc x.writes.length (szc x.reads.length left) = -1 := Qac3 h6
   simp [a1, a2, Entry.sz, h5, h7]
  ·simp [a1, a2, Entry.sz, h5, h6]
theorem Qv4 (h : G_f56 E) (x : Entry) (ho : x.ok) : E 51 [x.u] = some x.u := by
 rw [f56_E h]
 simp [Entry.u, Qwf h.c_f62 x.reads ho.1, Qwk h.c_f65 x.writes ho.2]
theorem Qmi (h : G_f57 E) (l : List Entry) (hl : l.length ≤ 1048576) (hok : ∀ x ∈ l, Entry.ok x) : ∀ (r p : List Entry) (i : Int) (c : List U), l = p ++ r → i = p.length → c.length = r.length → (∀ z ∈ c, z.size = 4) →
  f57_l0 E (.sl 4 (l.map Entry.u)) (.int .i64 i) (p.map Entry.u ++ c) = some (.sl 4 (l.map Entry.u))
 | [], p, i, c, e, hi, hc, _ => by
  obtain rfl : c = [] := List.length_eq_zero_iff.1 hc
  rw [Qmh]
  simp [Qi e hi]
  simp [e]
 | x :: r, p, i, [], e, hi, hc, _ => by cases hc
 | x :: r, p, i, z :: c, e, hi, hc, hz => by
  obtain ⟨h0, hlt, hx, hw, hn, _⟩ := Qg e hi (by omega)
  have hox : Entry.ok x := hok x (by rw [e]; simp)
  have hzs : z.size = 4 := hz z (by simp)
  obtain ⟨hg, hs, hlen⟩ := Qbi Entry.u p z c hi
  have ih := Qmi h l hl hok r (p ++ [x]) (i + 1) c (Qf e) hn (by simpa using hc) (fun y hy => hz y (by simp [hy]))
  simp only [List.map_append, List.map_cons, List.map_nil, List.append_assoc, List.cons_append, List.nil_append] at ih
  rw [Qmh]
  simp only [hg, hs, hx, hw, Ql, Qk, Qr, List.length_map, Option.bind_some, Qc, hlt, decide_true, if_true, h0, hlen, and_self, Qn, Qv4 h.c_f56 x hox, hzs, Entry.u_var, Entry.u_size, Entry.u_storable, Entry.u_partable]
  simpa using ih
theorem Qv6 (h : G_f57 E) (l : List Entry) (hl : l.length ≤ 1048576) (hok : ∀ x ∈ l, Entry.ok x) : E 45 [.sl 4 (l.map Entry.u)] = some (.sl 4 (l.map Entry.u)) := by
 have h1 := Qmi h l hl hok l [] 0 (List.replicate l.length (.agg [.int .i64 0, .int .i64 0, .nsl 2, .nsl 2])) rfl rfl (by simp) (by simp)
 rw [f57_E h]
 simp only [Qr, Option.bind_some, List.length_map]
 rw [if_pos (by refine ⟨by omega, by omega, by omega, rfl⟩)]
 simpa using h1
theorem Qlv (h : G_f40 E) (a b : List Entry) (ha : a.length ≤ 1048576) (hb : b.length ≤ 1048576) (hao : ∀ x ∈ a, Entry.ok x) (hbo : ∀ x ∈ b, Entry.ok x) : ∀ (r s p p2 : List Entry) (i : Int), a = p ++ r → b = p2 ++ s → i = p.length → i = p2.length → r.length = s.length →
  f40_l0 E (.sl 4 (a.map Entry.u)) (.sl 4 (b.map Entry.u)) (.int .i64 i) = some (.bool (decide (r = s)))
 | [], [], p, p2, i, e, e2, hi, hi2, _ => by
  rw [Qlu]
  simp [Qi e hi]
 | [], y :: s, _, _, _, _, _, _, _, hl => by cases hl
 | x :: r, [], _, _, _, _, _, _, _, hl => by cases hl
 | x :: r, y :: s, p, p2, i, e, e2, hi, hi2, hl => by
  obtain ⟨h0, hlt, hx, hw, hn, _⟩ := Qg e hi (by omega)
  obtain ⟨_, _, hy, _, hn2, _⟩ := Qg e2 hi2 (by omega)
  have hox : Entry.ok x := hao x (by rw [e]; simp)
  have hoy : Entry.ok y := hbo y (by rw [e2]; simp)
  have ih := Qlv h a b ha hb hao hbo r s (p ++ [x]) (p2 ++ [y]) (i + 1) (Qf e) (Qf e2) hn hn2 (by simpa using hl)
  rw [Qlu]
  by_cases hxy : x = y
  ·subst hxy
   simp [hlt, hx, hy, hw, ih, Qls h.c_f39 _ _ hox hoy]
  ·simp [hlt, hx, hy, hw, ih, Qls h.c_f39 _ _ hox hoy, hxy]
theorem Qvg (h : G_f40 E) (a b : List Entry) (ha : a.length ≤ 1048576) (hb : b.length ≤ 1048576) (hao : ∀ x ∈ a, Entry.ok x) (hbo : ∀ x ∈ b, Entry.ok x) : E 46 [.sl 4 (a.map Entry.u), .sl 4 (b.map Entry.u)] = some (.bool (decide (a = b))) := by
 rw [f40_E h]
 by_cases hl : a.length = b.length
 ·simp [hl, Qlv h a b ha hb hao hbo a b [] [] 0 rfl rfl rfl rfl hl]
 ·have h1 : a ≠ b := fun e => hl (by rw [e])
  have h2 : (a.length : Int) ≠ b.length := by omega
  simp [h1, h2]
theorem Qmg (h : G_f53 E) (l : List Entry) (hl : l.length ≤ 1048576) (hf : ∀ x ∈ l, Entry.fit x) : ∀ (r p : List Entry) (i left : Int), l = p ++ r → i = p.length → 0 ≤ left → left ≤ 1048576 →
  f53_l0 E (.sl 4 (l.map Entry.u)) (.int .i64 left) (.int .i64 i) = some (.int .i64 (szl Entry.sz r left))
 | [], p, i, left, e, hi, _, _ => by
  rw [Qmf]
  simp [Qi e hi, szl]
 | x :: r, p, i, left, e, hi, h1, h2 => by
  obtain ⟨h0, hlt, hx, hw, hn, _⟩ := Qg e hi (by omega)
  have hfx : Entry.fit x := hf x (by rw [e]; simp)
  rw [Qmf]
  rcases Entry.sz_szs x left h1 h2 with h3 | ⟨_, h3, h4⟩
  ·simp [hlt, hx, hw, szl, Qme h.c_f52 x hfx left h1 h2, h3]
  ·have ih := Qmg h l hl hf r (p ++ [x]) (i + 1) (Entry.sz x left) (Qf e) hn h3 (by omega)
   have h5 : ¬ Entry.sz x left < 0 := by omega
   simp [hlt, hx, hw, szl, Qme h.c_f52 x hfx left h1 h2, h5, ih]
theorem Qvy (h : G_f53 E) (l : List Entry) (hl : l.length ≤ maxLen) (hf : ∀ x ∈ l, Entry.fit x) (left : Int) (h0 : 0 ≤ left) (h1 : left ≤ 1048576) : E 49 [.sl 4 (l.map Entry.u), .int .i64 left] = some (.int .i64 (szL Entry.sz l left)) := by
 rw [f53_E h]
 unfold maxLen at hl
 have hw : IntKind.i64.wrap (left - (l.length : Int)) = left - l.length := Qj (by omega)
 by_cases h2 : left - (l.length : Int) < 0
 ·simp [hw, szL, h2]
 ·simp [hw, szL, h2, Qmg h l (by omega) hf l [] 0 (left - l.length) rfl rfl (by omega) (by omega)]
def upReadMark : Int → Nat → List ReadMark
 | _, 0 => []
 | k, n + 1 => ⟨k, k + 1⟩ :: upReadMark (k + 2) n
theorem Qoq (l : List ReadMark) : U.flat.flats (l.map ReadMark.u) = true := Qdv _ (fun _ => rfl) l
theorem Qmb (h : G_f50 E) : ∀ (r p : List ReadMark) (k i : Int), i = p.length → p.length + r.length ≤ 1048576 → 0 ≤ k → k + 2 * r.length ≤ 1099511627776 →
  f50_l0 E (.int .i64 k) (.int .i64 i) (p.map ReadMark.u ++ r.map ReadMark.u) = some (.tup [.int .i64 (k + 2 * r.length), .sl 2 (p.map ReadMark.u ++ (upReadMark k r.length).map ReadMark.u)])
 | [], p, k, i, hi, hb, hk, hk2 => by
  have h1 : ¬ i < ((p.map ReadMark.u ++ ([] : List ReadMark).map ReadMark.u).length : Int) := by simp [hi]
  rw [Qma]
  simp only [Qk, h1, decide_false, Option.bind_some, Qc, Bool.false_eq_true, if_false]
  rw [← List.map_append]
  simp [upReadMark, Qoq]
 | x :: r, p, k, i, hi, hb, hk, hk2 => by
  simp only [List.length_cons] at hb hk2
  have hm := fun z => Qbi ReadMark.u p z (r.map ReadMark.u) hi
  have hg := fun z => (hm z).1
  have hs := fun z => (hm z).2.1
  have hlen := fun z => (hm z).2.2
  have h0 : 0 ≤ i := by omega
  have hw0 : IntKind.i64.wrap (k + 1) = k + 1 := by rw [Qj (by omega)]
  have hw1 : IntKind.i64.wrap (k + 1 + 1) = k + 2 := by rw [Qj (by omega)]; omega
  have hwi : IntKind.i64.wrap (i + 1) = i + 1 := Qj (by omega)
  have ih := Qmb h r (p ++ [⟨k, k + 1⟩]) (k + 2) (i + 1) (by simp [hi]) (by simp; omega) (by omega) (by omega)
  simp only [List.map_append, List.map_cons, List.map_nil, List.append_assoc, List.cons_append, List.nil_append] at ih
  rw [Qma]
  simp only [List.map_cons, Qk, hlen, decide_true, Option.bind_some, Qc, if_true, Ql, h0, and_self, Qan, Qab, Qfb, hg, hs, ReadMark.u_agg, Qah, List.take_zero, List.take_succ_cons, Qaq, Qc1, Nat.add_zero, Nat.zero_add, List.getElem?_cons_zero, List.getElem?_cons_succ, List.set_cons_zero, List.set_cons_succ, Qn, hw0, hw1, hwi, Nat.reduceAdd]
  have e : k + 2 + 2 * (r.length : Int) = k + 2 * ((r.length + 1 : Nat) : Int) := by omega
  rw [e] at ih
  simpa [upReadMark, ReadMark.u] using ih
theorem Qvt (h : G_f50 E) (l : List ReadMark) (hl : l.length ≤ 1048576) (k : Int) (hk : 0 ≤ k) (hk2 : k ≤ 1073741824) :
  E 200095 (.agg [.tup [.sl 2 (l.map ReadMark.u)]] :: [.int .i64 k]) = some (.tup [.int .i64 (k + 2 * l.length), .sl 2 ((upReadMark k l.length).map ReadMark.u)]) := by
 rw [f50_E h]
 exact Qmb h l [] k 0 rfl (by simpa using hl) hk (by omega)
def upWrite : Int → Nat → List Write
 | _, 0 => []
 | k, n + 1 => ⟨k, k + 1⟩ :: upWrite (k + 2) n
theorem Qor (l : List Write) : U.flat.flats (l.map Write.u) = true := Qdv _ (fun _ => rfl) l
theorem Qmd (h : G_f51 E) : ∀ (r p : List Write) (k i : Int), i = p.length → p.length + r.length ≤ 1048576 → 0 ≤ k → k + 2 * r.length ≤ 1099511627776 →
  f51_l0 E (.int .i64 k) (.int .i64 i) (p.map Write.u ++ r.map Write.u) = some (.tup [.int .i64 (k + 2 * r.length), .sl 2 (p.map Write.u ++ (upWrite k r.length).map Write.u)])
 | [], p, k, i, hi, hb, hk, hk2 => by
  have h1 : ¬ i < ((p.map Write.u ++ ([] : List Write).map Write.u).length : Int) := by simp [hi]
  rw [Qmc]
  simp only [Qk, h1, decide_false, Option.bind_some, Qc, Bool.false_eq_true, if_false]
  rw [← List.map_append]
  simp [upWrite, Qor]
 | x :: r, p, k, i, hi, hb, hk, hk2 => by
  simp only [List.length_cons] at hb hk2
  have hm := fun z => Qbi Write.u p z (r.map Write.u) hi
  have hg := fun z => (hm z).1
  have hs := fun z => (hm z).2.1
  have hlen := fun z => (hm z).2.2
  have h0 : 0 ≤ i := by omega
  have hw0 : IntKind.i64.wrap (k + 1) = k + 1 := by rw [Qj (by omega)]
  have hw1 : IntKind.i64.wrap (k + 1 + 1) = k + 2 := by rw [Qj (by omega)]; omega
  have hwi : IntKind.i64.wrap (i + 1) = i + 1 := Qj (by omega)
  have ih := Qmd h r (p ++ [⟨k, k + 1⟩]) (k + 2) (i + 1) (by simp [hi]) (by simp; omega) (by omega) (by omega)
  simp only [List.map_append, List.map_cons, List.map_nil, List.append_assoc, List.cons_append, List.nil_append] at ih
  rw [Qmc]
  simp only [List.map_cons, Qk, hlen, decide_true, Option.bind_some, Qc, if_true, Ql, h0, and_self, Qan, Qab, Qfb, hg, hs, Write.u_agg, Qah, List.take_zero, List.take_succ_cons, Qaq, Qc1, Nat.add_zero, Nat.zero_add, List.getElem?_cons_zero, List.getElem?_cons_succ, List.set_cons_zero, List.set_cons_succ, Qn, hw0, hw1, hwi, Nat.reduceAdd]
  have e : k + 2 + 2 * (r.length : Int) = k + 2 * ((r.length + 1 : Nat) : Int) := by omega
  rw [e] at ih
  simpa [upWrite, Write.u] using ih
theorem Qvv (h : G_f51 E) (l : List Write) (hl : l.length ≤ 1048576) (k : Int) (hk : 0 ≤ k) (hk2 : k ≤ 1073741824) :
  E 200232 (.agg [.tup [.sl 2 (l.map Write.u)]] :: [.int .i64 k]) = some (.tup [.int .i64 (k + 2 * l.length), .sl 2 ((upWrite k l.length).map Write.u)]) := by
 rw [f51_E h]
 exact Qmd h l [] k 0 rfl (by simpa using hl) hk (by omega)
end Go.Proofs.YtlgblpngiamhaaaGreat.Am
