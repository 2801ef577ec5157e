import Derived.Shelf.SlSortCmp.NoneTotal
import Derived.Test.YtlgblpngiamhaaaAmEd
import Derived.Test.YtlgblpngiamhaaaAmW
import Derived.Test.YtlgblpngiamhaaaAmPb
import Derived.Test.YtlgblpngiamhaaaAmCl
namespace Go.Proofs.Ytlgblpngiamhaaa.Am
open Go Go.RowKit Go.Sort Go.Shelf Go.Proofs
instance : Inhabited Edge := ⟨⟨0, 0, 0, 0⟩⟩
def encE (e : Edge) : List Value := [.int .i64 e.frm, .int .i64 e.to, .int .i64 e.kind, .int .i64 e.key]
def sortBy (cf : Edge → Edge → Int) (l : List Edge) : List Edge := l.mergeSort fun x y => !ltOf cf y x
theorem sortBy_length (cf : Edge → Edge → Int) (l : List Edge) : (sortBy cf l).length = l.length := List.length_mergeSort ..
section
variable {P : Program} {ρ : Nat → FuncId} {w w' : World} {S : Nat → Prop} {β : Nat → Lay}
theorem urs_edge (e : Edge) : URs ρ w S [e.u] (encE e) := by
  have h : URs ρ w S [.int .i64 e.frm, .int .i64 e.to, .int .i64 e.kind, .int .i64 e.key] (encE e) := .int _ _ (.int _ _ (.int _ _ (.int _ _ .nil)))
  have := URs.agg h (.nil (ρ := ρ) (w := w) (S := S))
  rw [List.append_nil] at this
  exact this
theorem urs_edges : ∀ l : List Edge, URs ρ w S (l.map Edge.u) (l.map encE).flatten
  | [] => .nil
  | e :: l => by
    rw [List.map_cons, List.map_cons, List.flatten_cons]
    exact (urs_edge e).append (urs_edges l)
theorem vd_edge (e : Edge) : VD ρ w S β (.val e.u) (.agg (encE e).toArray) := VD_val ⟨_, urs_edge e, rfl⟩
theorem flatsOfEdges (l : List Edge) : U.flat.flats (l.map Edge.u) = true := by
  induction l with
  | nil => rfl
  | cons e l ih => simp only [List.map_cons, U.flat.flats, ih, Bool.and_true]; rfl
theorem below_grow (h : Below w.heap.size w w') : ∃ q os', w' = grow (w.drewN q) os' := by
  have h1 : w'.heap = w.heap ++ w'.heap.extract w.heap.size w'.heap.size := by
    apply Array.ext_getElem?
    intro k
    rw [Array.getElem?_append]
    split
    · rename_i hk; exact h.block k hk
    · rename_i hk
      rw [Array.getElem?_extract]
      have e : w.heap.size + (k - w.heap.size) = k := by omega
      rw [e]
      split
      · rfl
      · rename_i h2
        rw [Array.getElem?_eq_none]
        have := h.size
        omega
  have h2 := h.drawn
  have h3 := h.os
  have h4 := h.tape
  have h5 := h.output
  refine ⟨w'.drawn - w.drawn, w'.heap.extract w.heap.size w'.heap.size, ?_⟩
  unfold grow World.drewN
  cases w with
  | mk heap tape drawn os output =>
    cases w' with
    | mk heap' tape' drawn' os' output' =>
      simp only at h1 h2 h3 h4 h5 ⊢
      subst h3 h4 h5
      simp only [World.mk.injEq]
      exact ⟨h1, trivial, by omega, trivial, trivial⟩
theorem cmpLays {E1 : Env} (hg : Good P ρ E1) {c : Nat} (hc : c / 100000 = 0) {cf : Edge → Edge → Int} (hcmp : ∀ a b : Edge, E1 c [a.u, b.u] = some (.int .i64 (cf a b))) (blk size : Nat) (w : World) : CmpLays P (ρ c) #[] encE 4 cf blk 0 size w := fun m os dk hs x y => by
  obtain ⟨hok, hV⟩ := hg c [x.u, y.u] _ (hcmp x y)
  rw [hc] at hV
  refine (hV (sortWorldK encE 4 w blk 0 m dk os) (fun _ => False) [.agg (encE x).toArray, .agg (encE y).toArray] (fun _ h => h.elim) ⟨fun β => vd_edge x, fun β => vd_edge y, trivial⟩).mono fun e w' he => ?_
  obtain ⟨v, rfl, hb, hv⟩ := he
  exact ⟨by rw [VD_int (hv fun _ => ⟨.dead, noHdr⟩)], below_grow hb⟩
theorem flat_get : ∀ (l : List Edge) (j : Nat), j < l.length * 4 → (l.map encE).flatten[j]? = (encE (l.getD (j / 4) default))[j % 4]?
  | [], j, h => by simp at h
  | e :: l, j, h => by
    rw [List.map_cons, List.flatten_cons]
    by_cases h4 : j < 4
    · rw [List.getElem?_append_left (by simpa [encE] using h4)]
      have e1 : j / 4 = 0 := by omega
      have e2 : j % 4 = j := by omega
      rw [e1, e2]
      rfl
    · rw [List.getElem?_append_right (by simp [encE]; omega)]
      have e0 : (encE e).length = 4 := rfl
      rw [e0, flat_get l (j - 4) (by simp at h; omega)]
      have e1 : j / 4 = (j - 4) / 4 + 1 := by omega
      have e2 : (j - 4) % 4 = j % 4 := by omega
      rw [e1, e2]
      rfl
theorem flatK_flat (l : List Edge) : flatK encE 4 l.toArray = (l.map encE).flatten.toArray := by
  apply Array.ext_getElem?
  intro j
  conv => rhs; rw [List.getElem?_toArray]
  have hsz : (flatK encE 4 l.toArray).size = l.length * 4 := by simp
  have hfl : (l.map encE).flatten.length = l.length * 4 := by
    induction l with
    | nil => rfl
    | cons e l ih => simp only [List.map_cons, List.flatten_cons, List.length_append, List.length_cons, ih (by simp)]; simp [encE]; omega
  by_cases hj : j < l.length * 4
  · rw [flat_get l j hj]
    have h1 := get_flatK encE 4 l.toArray j (by simpa using hj)
    have h2 : (flatK encE 4 l.toArray)[j]? = some (flatK encE 4 l.toArray)[j]! := by
      rw [getElem!_pos _ j (by rw [hsz]; exact hj)]
      exact Array.getElem?_eq_getElem (by rw [hsz]; exact hj)
    rw [h2, h1]
    have h3 : l.toArray[j / 4]! = l.getD (j / 4) default := by simp [List.getD_eq_getElem?_getD]
    rw [h3]
    have h4 : j % 4 < (encE (l.getD (j / 4) default)).length := by simp [encE]; omega
    rw [List.getElem?_eq_getElem h4, getElem!_pos (encE (l.getD (j / 4) default)) (j % 4) h4]
  · rw [Array.getElem?_eq_none (by rw [hsz]; omega), List.getElem?_eq_none (by rw [hfl]; omega)]
theorem flat_len (l : List Edge) : (l.map encE).flatten.length = l.length * 4 := by
  induction l with
  | nil => rfl
  | cons e l ih => simp only [List.map_cons, List.flatten_cons, List.length_append, List.length_cons, ih]; simp [encE]; omega
theorem own_edges {l : List Edge} {h : Hdr} {v : Value} {Bs : List Nat} (o : Own ρ w (.sl 4 (l.map Edge.u)) h [v] Bs) :
    (l = [] ∧ ∃ a cap, v = .slice a 0 cap) ∨ ∃ b cap cur e, v = .slice (some ⟨b, 0, none⟩) l.length cap ∧ h [] = some v ∧ w.heap[b]? = some (.cells cur e (0, 0)) ∧ cur.size = cap * 4 ∧ l.length ≤ cap ∧ cap ≤ maxLen ∧ cur.toList.take (l.length * 4) = (l.map encE).flatten ∧ Bs = [b] := by
  have hlen : (U.ex.exs (l.map Edge.u)).length = l.length := by rw [uexs_eq]; simp
  unfold Own at o
  simp only [U.ex] at o
  generalize hds : U.ex.exs (l.map Edge.u) = ds at o hlen
  cases o with
  | osl0 hh t => exact .inl ⟨List.length_eq_zero_iff.1 hlen.symm, _, _, rfl⟩
  | osl hh hb hsz hle hmax hks hct g1 t =>
    cases t
    subst hds
    obtain ⟨g2, rfl⟩ := elts_flat_nil (w' := w) (S' := fun _ => True) (flatsOfEdges l) g1
    have := g2.flat_unique (urs_edges (ρ := ρ) (w := w) (S := fun _ => True) l) (flatsOfEdges l)
    rw [hlen] at hh hle hct
    exact .inr ⟨_, _, _, _, by rw [hlen], by rw [hlen]; exact hh, hb, hsz, hle, hmax, hct.trans this, rfl⟩
theorem own_of_edges {l : List Edge} {b cap : Nat} {cur : Array Value} {e : TypeId} {h : Hdr} (hh : h [] = some (.slice (some ⟨b, 0, none⟩) l.length cap)) (hb : w.heap[b]? = some (.cells cur e (0, 0))) (hsz : cur.size = cap * 4) (hle : l.length ≤ cap) (hmax : cap ≤ maxLen) (ht : cur.toList.take (l.length * 4) = (l.map encE).flatten) :
    Own ρ w (.sl 4 (l.map Edge.u)) h [.slice (some ⟨b, 0, none⟩) l.length cap] [b] := by
  have hlen : (U.ex.exs (l.map Edge.u)).length = l.length := by rw [uexs_eq]; simp
  have := TCs.osl (ρ := ρ) (w := w) (S := fun _ => False) (β := fun _ => ⟨.dead, noHdr⟩) (h := h) (k := 4) (ds := U.ex.exs (l.map Edge.u)) (xs := []) (b := b) (cap := cap) (cur := cur) (e := e) (c1 := (l.map encE).flatten) (cs := []) (B1 := []) (B := [])
    (by rw [hlen]; exact hh) hb hsz (by rw [hlen]; exact hle) hmax (fun d hd => by
      rw [uexs_eq] at hd
      obtain ⟨u, hu, rfl⟩ := List.mem_map.1 hd
      obtain ⟨x, _, rfl⟩ := List.mem_map.1 hu
      rfl) (by rw [hlen]; exact ht) (own_vals _ _ _ _ (flatsOfEdges l) (elts_vals _ _ _ (urs_edges l))) .nil
  rw [hlen] at this
  simpa [Own, U.ex] using this
theorem heap_putRow (f : Array Value → Array Value) {b : Nat} {cur : Array Value} {e : TypeId} (hb : w.heap[b]? = some (.cells cur e (0, 0))) : (mapBlock w b f).heap[b]? = some (.cells (f cur) e (0, 0)) := by
  simp only [mapBlock, Array.getElem?_modify, if_true, hb, Option.map_some, onCells]
theorem good_sort {R : Ren} (L : SlLaysF0.n6 P R) (aE : ∀ w, (isAgg (R.t 24)).run P w = .ok true w) (zE : ∀ w, (Go.sizeOf (R.t 24)).run P w = .ok 4 w) {E1 : Env} (hg : Good P ρ E1) {c q : Nat} (hc : c / 100000 = 0) (hq : q / 100000 = 2) (hf : ρ q = R.f 6) (hok : callOK P (ρ q) = true)
    {cf : Edge → Edge → Int} (hcmp : ∀ a b : Edge, E1 c [a.u, b.u] = some (.int .i64 (cf a b))) (hO : SWO (ltOf cf)) (hT : ∀ x y, (ltOf cf) x y = false → (ltOf cf) y x = false → x = y) (l : List Edge) (hl : l.length ≤ 1099511627776) :
    GoodAt P ρ q [.agg [.tup [.sl 4 (l.map Edge.u)]], .fn c []] (.tup [.tup [], .sl 4 ((sortBy cf l).map Edge.u)]) := by
  refine ⟨hok, div_match.2 ⟨fun h1 => by omega, fun h1 => by omega, fun _ => ?_, fun h1 => by omega, fun h1 => by omega, fun h1 => by omega⟩⟩
  refine ⟨4, l.map Edge.u, [.fn c []], .tup [], (sortBy cf l).map Edge.u, rfl, rfl, fun w S v0 vs h Bs hS hB hn hown hargs => ?_⟩
  match vs, hargs with
  | [fv], hargs =>
    obtain ⟨caps, e1, h1, _⟩ := VD_fn (hargs.1 fun _ => ⟨.dead, noHdr⟩)
    cases h1
    subst e1
    have hcok : callOK P (ρ c) = true := (hg c [(default : Edge).u, (default : Edge).u] _ (hcmp default default)).1
    have eg : ∀ args w, (callFunc (ρ c) args).run P w = .ok (.enter (ρ c) args) w := fun args w => run_callFunc hcok args w
    have none_ : l = [] → ∀ a cap, v0 = .slice a 0 cap → Calls P (ρ q) [v0, .func (.func (ρ c)) #[] #[]].toArray w fun e w' => ∃ v h' Bs', e = .returned v ∧ (∀ S β, VD ρ w' S β (.val (.tup [])) v) ∧ Behind (fun b => b ∈ Bs) w w' ∧ Bs'.Nodup ∧ (∀ b ∈ Bs', b ∈ Bs ∨ (w.heap.size ≤ b ∧ b < w'.heap.size)) ∧ Own ρ w' (.sl 4 ((sortBy cf l).map Edge.u)) h' [v0] Bs' := fun hl0 a cap hv => by
      subst hl0
      subst hv
      rw [hf]
      refine (AnyF.slices_SortFunc_none L a cap (.func (.func (ρ c)) #[] #[]) w).mono fun e w' he => ?_
      obtain ⟨rfl, rfl⟩ := he
      exact ⟨_, h, Bs, rfl, fun _ _ => ⟨[], rfl, rfl⟩, Behind.refl _ _, hn, fun b hb => .inl hb, by rw [show sortBy cf [] = [] from by simp [sortBy]]; exact hown⟩
    rcases own_edges hown with ⟨hl0, a, cap, hv⟩ | ⟨b, cap, cur, e, hv, hh, hb, hsz, hle, hmax, ht, hBs⟩
    · exact none_ hl0 a cap hv
    · by_cases hl0 : l = []
      · exact none_ hl0 _ _ (by rw [hv, hl0]; rfl)
      have hbB : b ∈ Bs := by rw [hBs]; simp
      have hH : HoldsK encE 4 w b 0 l.toArray := fun j hj => by
        have hj4 : j < l.length * 4 := by simpa using hj
        have hlc : l.length * 4 ≤ cap * 4 := Nat.mul_le_mul_right _ hle
        constructor
        · have h2 : cur[j]? = (l.map encE).flatten[j]? := by
            rw [← ht, List.getElem?_take, if_pos hj4]; simp
          have h3 : (flatK encE 4 l.toArray)[j]? = some (flatK encE 4 l.toArray)[j]! := by
            rw [getElem!_pos _ j hj]; exact Array.getElem?_eq_getElem hj
          rw [flatK_flat, List.getElem?_toArray] at h3
          simp only [World.cell?, hb, Nat.zero_add, Option.isSome_none, Bool.false_eq_true, if_false, id]
          rw [h2, h3, flatK_flat]
        · simp [World.frozen?, hb]
      have hlt : b < w.heap.size := hB b hbB
      subst hv
      rw [hf]
      have key := AnyQ.slices_SortFunc_total L 4 aE zE encE (fun _ => rfl) (fun x v hv => by
        simp only [encE, List.mem_cons, List.not_mem_nil, or_false] at hv
        rcases hv with rfl | rfl | rfl | rfl <;> rfl) cf hO (ρ c) #[] b 0 cap l.toArray w eg (cmpLays hg hc hcmp b _ w) hH hlt (by simp; omega) hT
      refine Calls.mono (by simpa using key) fun en w' he => ?_
      obtain ⟨rfl, n, os, rfl⟩ := he
      have hlen := sortBy_length cf l
      have hs : (l.toArray.toList.mergeSort fun x y => !(ltOf cf) y x).toArray = (sortBy cf l).toArray := rfl
      rw [hs]
      have hw : ∀ k, k < w.heap.size → (sortWorldK encE 4 w b 0 n (sortBy cf l).toArray os).heap[k]? = (putRowK encE 4 w b 0 (sortBy cf l).toArray).heap[k]? := fun k hk => by
        show ((putRowK encE 4 (Sort.ahead w n) b 0 (sortBy cf l).toArray).heap ++ os)[k]? = _
        have e1 : (putRowK encE 4 (Sort.ahead w n) b 0 (sortBy cf l).toArray).heap = (putRowK encE 4 w b 0 (sortBy cf l).toArray).heap := rfl
        rw [e1, Array.getElem?_append_left (by unfold putRowK; rw [_root_.Go.Sort.size_putRow]; exact hk)]
      have hblk : (sortWorldK encE 4 w b 0 n (sortBy cf l).toArray os).heap[b]? = some (.cells (putCells id 0 (flatK encE 4 (sortBy cf l).toArray) cur) e (0, 0)) := by
        rw [hw b hlt]
        exact heap_putRow _ hb
      have hput : (putCells id 0 (flatK encE 4 (sortBy cf l).toArray) cur).toList.take ((sortBy cf l).length * 4) = ((sortBy cf l).map encE).flatten := by
        rw [flatK_flat]
        apply List.ext_getElem?
        intro j
        have hfl := flat_len (sortBy cf l)
        have hcs : (sortBy cf l).length * 4 ≤ cur.size := by rw [hlen, hsz]; exact Nat.mul_le_mul_right _ hle
        by_cases hj : j < (sortBy cf l).length * 4
        · rw [List.getElem?_take, if_pos hj]
          have hjc : j < cur.size := by omega
          have hjf : j < ((sortBy cf l).map encE).flatten.toArray.size := by simpa [hfl] using hj
          have hcond : 0 ≤ j ∧ j < 0 + ((sortBy cf l).map encE).flatten.toArray.size := ⟨Nat.zero_le _, by simpa [hfl] using hj⟩
          simp only [putCells, Array.getElem?_toList, Array.getElem?_mapIdx, Array.getElem?_eq_getElem hjc, Option.map_some, if_pos hcond, id, Nat.sub_zero]
          rw [getElem!_pos _ j hjf, List.getElem?_eq_getElem (by rw [hfl]; exact hj)]
          simp
        · rw [List.getElem?_take, if_neg hj, List.getElem?_eq_none (by rw [hfl]; omega)]
      refine ⟨_, topH (.slice (some ⟨b, 0, none⟩) l.length cap) h, [b], rfl, fun _ _ => ⟨[], rfl, rfl⟩, ⟨⟨rfl, rfl, rfl, ?_, fun k hk hnk => ?_⟩, ?_⟩, by simp, fun b' hb' => .inl (by rw [hBs]; exact hb'), ?_⟩
      · show _ ≤ ((putRowK encE 4 (Sort.ahead w n) b 0 (sortBy cf l).toArray).heap ++ os).size
        rw [Array.size_append]
        have : (putRowK encE 4 (Sort.ahead w n) b 0 (sortBy cf l).toArray).heap.size = w.heap.size := by unfold putRowK; rw [_root_.Go.Sort.size_putRow]; rfl
        omega
      · rw [hw k hk]
        have hkb : k ≠ b := fun e => hnk (e ▸ hbB)
        simp only [putRowK, putRow, mapBlock, Array.getElem?_modify]
        rw [if_neg (Ne.symm hkb)]
      · show w.drawn ≤ w.drawn + n
        omega
      · have := own_of_edges (ρ := ρ) (l := sortBy cf l) (b := b) (cap := cap) (h := topH (.slice (some ⟨b, 0, none⟩) l.length cap) h) (by rw [hlen]; rfl) hblk (by simp [putCells, hsz]) (by rw [hlen]; exact hle) hmax hput
        rwa [hlen] at this
end
def edgesIn : List U → Option (List Edge)
  | [] => some []
  | .agg [.int .i64 a, .int .i64 b, .int .i64 c, .int .i64 d] :: us => (edgesIn us).map (⟨a, b, c, d⟩ :: ·)
  | _ :: _ => none
theorem edgesIn_map : ∀ l : List Edge, edgesIn (l.map Edge.u) = some l
  | [] => rfl
  | e :: l => by simp only [List.map_cons, Edge.u, edgesIn]; rw [show edgesIn (l.map Edge.u) = some l from edgesIn_map l]; rfl
theorem edgesIn_some : ∀ {us : List U} {l : List Edge}, edgesIn us = some l → us = l.map Edge.u
  | [], l, h => by cases h; rfl
  | u :: us, l, h => by
    unfold edgesIn at h
    split at h
    · rename_i hu; cases hu
    · rename_i hu
      cases hu
      obtain ⟨l', h1, rfl⟩ := Option.map_eq_some_iff.1 h
      rw [edgesIn_some h1]; rfl
    · cases h
def sortE (q c : Nat) (cf : Edge → Edge → Int) (E0 : Env) : Env := fun r us =>
  if r = q then (match us with
    | [.agg [.tup [.sl 4 xs]], .fn c' []] => if c' = c then (edgesIn xs).bind fun l => if l.length ≤ 1099511627776 then some (.tup [.tup [], .sl 4 ((sortBy cf l).map Edge.u)]) else none else none
    | _ => none) else E0 r us
theorem good_sortE {P : Program} {ρ : Nat → FuncId} {R : Ren} (L : SlLaysF0.n6 P R) (aE : ∀ w, (isAgg (R.t 24)).run P w = .ok true w) (zE : ∀ w, (Go.sizeOf (R.t 24)).run P w = .ok 4 w) {E1 E0 : Env} (hg : Good P ρ E1) (h0 : Good P ρ E0) {c q : Nat} (hc : c / 100000 = 0) (hq : q / 100000 = 2) (hf : ρ q = R.f 6) (hok : callOK P (ρ q) = true)
    {cf : Edge → Edge → Int} (hcmp : ∀ a b : Edge, E1 c [a.u, b.u] = some (.int .i64 (cf a b))) (hO : SWO (ltOf cf)) (hT : ∀ x y, (ltOf cf) x y = false → (ltOf cf) y x = false → x = y) : Good P ρ (sortE q c cf E0) := fun r us u h => by
  unfold sortE at h
  split at h
  · rename_i hr
    subst hr
    split at h
    · rename_i xs c'
      split at h
      · rename_i hc'
        subst hc'
        obtain ⟨l, hl, h⟩ := Option.bind_eq_some_iff.1 h
        split at h
        · rename_i hlen
          cases h
          rw [edgesIn_some hl]
          exact good_sort L aE zE hg hc hq hf hok hcmp hO hT l hlen
        · cases h
      · cases h
    · cases h
  · exact h0 r us u h
structure IsSort (E : Env) (q c : Nat) : Prop where
  ex : ∃ cf : Edge → Edge → Int, (∀ a b : Edge, E c [a.u, b.u] = some (.int .i64 (cf a b))) ∧ ∀ l : List Edge, l.length ≤ 1099511627776 → E (200000 + q) (.agg [.tup [.sl 4 (l.map Edge.u)]] :: [.fn c []]) = some (.tup [.tup [], .sl 4 ((sortBy cf l).map Edge.u)])
theorem isSort_W {q c : Nat} {cf : Edge → Edge → Int} {E0 : Env} {tbl : Nat → Option Fn} (h1 : tbl (200000 + q) = none) (hcmp : ∀ a b : Edge, EnvW (sortE (200000 + q) c cf E0) tbl c [a.u, b.u] = some (.int .i64 (cf a b))) : IsSort (EnvW (sortE (200000 + q) c cf E0) tbl) q c := by
  refine ⟨cf, hcmp, fun l hl => ?_⟩
  have : sortE (200000 + q) c cf E0 (200000 + q) (.agg [.tup [.sl 4 (l.map Edge.u)]] :: [.fn c []]) = some (.tup [.tup [], .sl 4 ((sortBy cf l).map Edge.u)]) := by
    unfold sortE
    rw [if_pos rfl]
    simp only [if_true, edgesIn_map, Option.bind_some, if_pos hl]
  exact (envW_ext h1 _).trans this
end Go.Proofs.Ytlgblpngiamhaaa.Am
