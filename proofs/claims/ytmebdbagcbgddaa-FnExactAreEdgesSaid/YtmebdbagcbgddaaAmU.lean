import Derived.Test.YtmebdbagcbgddaaAmR
/-
  Regions that draw their order: the first k operations leave the world alone (in whatever order), the others have but one order.
-/
namespace Go.Proofs.Ytmebdbagcbgddaa.Am
open Go Go.RowKit

section
variable {P : Program} {ops : Array Oper} {md : Region.Mode} {Q : Exit → Act → World → Prop} {C : World → Prop} {K : Act → Prop} {k : Nat}

def upto (n j : Nat) : Array Bool := Array.replicate j true ++ Array.replicate (n - j) false

/-- Edges go back. -/
def backB (md : Region.Mode) (ops : Array Oper) (k : Nat) : Bool := (List.range k).all fun i => ((ops[i]?).map fun o => o.after.all fun e => !Region.binds md e || decide (e.on < i)).getD false

/-- What an operation waits for, near or far. -/
def farB (md : Region.Mode) (ops : Array Oper) : Nat → Nat → Nat → Bool
  | 0, _, _ => false
  | f + 1, j, i => ((ops[j]?).map fun o => o.after.any fun e => Region.binds md e && (e.on == i || farB md ops f e.on i)).getD false

def coverB (md : Region.Mode) (ops : Array Oper) (k : Nat) : Bool := (List.range (ops.size - k)).all fun d => (List.range k).all fun i => farB md ops ops.size (k + d) i

def forcedB (md : Region.Mode) (ops : Array Oper) (k : Nat) : Bool := ((List.range (ops.size - k)).all fun d => Region.ready md ops (upto ops.size (k + d)) == [k + d])

def guardsB (ops : Array Oper) (k : Nat) : Bool := (List.range k).all fun i => ((ops[i]?).map fun o => match o.guard with | none => true | some (j, _) => decide (j < k)).getD false

theorem set_upto {n j : Nat} (h : j < n) : (upto n j).setIfInBounds j true = upto n (j + 1) := by
  have e : n - j = (n - (j + 1)) + 1 := by omega
  apply Array.ext'
  simp only [upto, e, Array.toList_setIfInBounds, Array.toList_append, Array.toList_replicate, List.replicate_succ]
  rw [List.set_append_right _ _ (by simp)]
  simp only [List.length_replicate, Nat.sub_self, List.set_cons_zero]
  rw [← List.replicate_succ, List.replicate_succ', List.append_assoc]
  rfl

/-- Each operation comes behind what it waits for, and does not touch what may come before it. -/
def pairsB (md : Region.Mode) (ops : Array Oper) : Nat → List Oper → Bool
  | _, [] => true
  | i, o :: os => (o.after.all fun e => !Region.binds md e || decide (e.on < i)) && (os.all fun o' => (o'.after.any fun e => Region.binds md e && e.on == i) || o.apart ops o') && pairsB md ops (i + 1) os

def fastB (md : Region.Mode) (ops : Array Oper) : Bool := Region.noSelect ops && pairsB md ops 0 ops.toList

theorem upto_getD {n j i : Nat} : (upto n j).getD i true = true ↔ i < j ∨ n ≤ i ∧ j ≤ n ∨ n ≤ j := by
  simp only [upto, Array.getD_eq_getD_getElem?, Array.getElem?_append, Array.getElem?_replicate, Array.size_replicate]
  split
  · simp; omega
  · split
    · simp; omega
    · simp; omega

theorem upto_false {n j i : Nat} (h : (upto n j).getD i true = false) : j ≤ i ∧ i < n := by
  have : ¬ ((upto n j).getD i true = true) := by rw [h]; simp
  rw [upto_getD] at this
  omega

theorem upto_true {n j i : Nat} (h : i < j) : (upto n j).getD i false = true := by
  simp [upto, Array.getD_eq_getD_getElem?, Array.getElem?_append, h]

theorem ready_full {n : Nat} (hn : ops.size = n) : Region.ready md ops (upto n n) = [] := by
  cases hr : Region.ready md ops (upto n n) with
  | nil => rfl
  | cons j rest =>
    have hj : j ∈ Region.ready md ops (upto n n) := by rw [hr]; simp
    obtain ⟨h0, _⟩ := mem_ready.1 hj
    have := upto_false h0
    omega

theorem pairs_lex : ∀ (l : List Oper) (i : Nat), (∀ j, l[j]? = ops[i + j]?) → i + l.length = ops.size → pairsB md ops i l = true → Region.lexFrom md ops l.length i (upto ops.size i) = true
  | [], i, _, hl, _ => by
    have : i = ops.size := by simpa using hl
    subst this
    simp only [List.length_nil, Region.lexFrom, ready_full (md := md) (ops := ops) rfl, List.isEmpty_nil]
  | o :: l, i, hl, hn, h => by
    simp only [pairsB, Bool.and_eq_true] at h
    obtain ⟨⟨h1, h2⟩, h3⟩ := h
    have h0 : ops[i]? = some o := by simpa using (hl 0).symm
    have hin : i < ops.size := by simp at hn; omega
    simp only [List.length_cons, Region.lexFrom, Bool.and_eq_true]
    refine ⟨⟨?_, ?_⟩, ?_⟩
    · rw [List.contains_iff_mem]
      refine mem_ready.2 ⟨?_, o, h0, fun e he hb => ?_⟩
      · cases hv : (upto ops.size i).getD i true with
        | false => rfl
        | true => rw [upto_getD] at hv; omega
      · obtain ⟨x, hx, rfl⟩ := Array.getElem_of_mem he
        have h4 := Array.all_eq_true.1 h1 x hx
        simp only [Bool.or_eq_true, Bool.not_eq_true', decide_eq_true_eq] at h4
        rcases h4 with h4 | h4
        · rw [hb] at h4; cases h4
        · exact upto_true h4
    · simp only [Region.free, h0, List.all_eq_true, List.mem_range]
      intro j hj
      by_cases hji : j = i
      · simp [hji]
      · by_cases hlt : j < i
        · have : (upto ops.size i).getD j true = true := upto_getD.2 (.inl hlt)
          simp [this]
        · have hoj : l[j - (i + 1)]? = ops[j]? := by
            have := hl (j - i)
            rw [show i + (j - i) = j by omega, show j - i = (j - (i + 1)) + 1 by omega, List.getElem?_cons_succ] at this
            exact this
          have hs : ops[j]? = some ops[j] := by simp [hj]
          rw [hs] at hoj ⊢
          have h4 := List.all_eq_true.1 h2 ops[j] (List.mem_of_getElem? hoj)
          simp only [h4, Bool.or_true]
    · rw [set_upto hin]
      refine pairs_lex l (i + 1) (fun j => ?_) (by simp at hn; omega) h3
      have := hl (j + 1)
      rw [List.getElem?_cons_succ] at this
      rw [this]
      congr 1
      omega

theorem fast_lex (h : fastB md ops = true) : Region.lexB md ops = true := by
  simp only [fastB, Bool.and_eq_true] at h
  simp only [Region.lexB, Bool.and_eq_true]
  refine ⟨h.1, ?_⟩
  have h1 := pairs_lex (md := md) ops.toList 0 (fun j => by simp) (by simp) h.2
  have e : upto ops.size 0 = Array.replicate ops.size false := by
    apply Array.ext'
    simp [upto]
  rw [e, Array.length_toList] at h1
  exact h1

def drawB (md : Region.Mode) (ops : Array Oper) (k : Nat) : Bool := decide (k ≤ ops.size) && fastB md (ops.extract 0 k) && backB md ops k && coverB md ops k && forcedB md ops k && guardsB ops k

theorem suffix_any (hf : forcedB md ops k = true) : ∀ (m j : Nat), j + m = ops.size → k ≤ j → ∀ (fuel : Nat) (a : Act) (w : World), m ≤ fuel → wpOps P ops Q (List.range' j m) a w → wpAny P md ops Q fuel (upto ops.size j) a w := by
  simp only [forcedB, List.all_eq_true, List.mem_range, beq_iff_eq] at hf
  have h1 := hf
  intro m
  induction m with
  | zero =>
    intro j hj hk fuel a w _ h
    obtain rfl : j = ops.size := by omega
    exact wpAny_done (ready_full rfl) h fuel
  | succ m ih =>
    intro j hj hk fuel a w hfu h
    cases fuel with
    | zero => omega
    | succ fuel =>
      have hr : Region.ready md ops (upto ops.size j) = [j] := by
        have := h1 (j - k) (by omega)
        rwa [show k + (j - k) = j by omega] at this
      refine wpAny_all hr (by simp) fun i hi => ?_
      obtain rfl : i = j := by simpa using hi
      rw [List.range'_succ, wpOps_cons] at h
      refine wpOp_mono (fun a w h' => ?_) h
      rw [set_upto (by omega)]
      exact ih (i + 1) (by omega) (by omega) fuel a w (by omega) h'

/-- What has been carried out: with each operation all that it waits for. -/
def Down (md : Region.Mode) (ops : Array Oper) (l : Array Bool) : Prop := ∀ (i : Nat) (o : Oper), l.getD i false = true → ops[i]? = some o → ∀ e ∈ o.after, Region.binds md e = true → l.getD e.on false = true

theorem far_listed {l : Array Bool} (hd : Down md ops l) {i : Nat} : ∀ (f j : Nat), farB md ops f j i = true → l.getD j false = true → l.getD i false = true
  | 0, _, h, _ => by cases h
  | f + 1, j, h, hj => by
    simp only [farB] at h
    cases ho : ops[j]? with
    | none => simp [ho] at h
    | some o =>
      simp only [ho, Option.map_some, Option.getD_some, Array.any_eq_true, Bool.and_eq_true, Bool.or_eq_true, beq_iff_eq] at h
      obtain ⟨x, hx, hb, h⟩ := h
      have hl := hd j o hj ho o.after[x] (Array.getElem_mem hx) hb
      rcases h with h | h
      · rw [← h]; exact hl
      · exact far_listed hd f _ h hl

theorem ready_near {l : Array Bool} (hd : Down md ops l) {f j i : Nat} {o : Oper} (ho : ops[j]? = some o) (hall : ∀ e ∈ o.after, Region.binds md e = true → l.getD e.on false = true) (h : farB md ops f j i = true) : l.getD i false = true := by
  cases f with
  | zero => cases h
  | succ f =>
    simp only [farB, ho, Option.map_some, Option.getD_some, Array.any_eq_true, Bool.and_eq_true, Bool.or_eq_true, beq_iff_eq] at h
    obtain ⟨x, hx, hb, h⟩ := h
    have hl := hall o.after[x] (Array.getElem_mem hx) hb
    rcases h with h | h
    · rw [← h]; exact hl
    · exact far_listed hd f _ h hl

theorem back_min {l : Array Bool} (hb : backB md ops k = true) (hk : k ≤ ops.size) : ∀ (n i : Nat), i = n → i < k → l.getD i false = false → ∃ j, j < k ∧ l.getD j false = false ∧ ∃ o, ops[j]? = some o ∧ ∀ e ∈ o.after, Region.binds md e = true → l.getD e.on false = true ∧ e.on < k := by
  intro n
  induction n using Nat.strongRecOn with
  | _ n ih =>
    intro i hi hik hl
    subst hi
    by_cases hlow : ∃ j, j < i ∧ l.getD j false = false
    · obtain ⟨j, h1, h2⟩ := hlow
      exact ih j h1 j rfl (by omega) h2
    · simp only [backB, List.all_eq_true, List.mem_range] at hb
      have h1 := hb i hik
      have hlt : i < ops.size := by omega
      have ho : ops[i]? = some ops[i] := by simp [hlt]
      simp only [ho, Option.map_some, Option.getD_some, Array.all_eq_true, Bool.or_eq_true, Bool.not_eq_true', decide_eq_true_eq] at h1
      refine ⟨i, hik, hl, ops[i], ho, fun e he hbd => ?_⟩
      obtain ⟨x, hx, rfl⟩ := Array.getElem_of_mem he
      have h2 : (ops[i].after[x]).on < i := by
        rcases h1 x hx with h3 | h3
        · rw [hbd] at h3; cases h3
        · exact h3
      refine ⟨?_, by omega⟩
      cases hv : l.getD (ops[i].after[x]).on false with
      | true => rfl
      | false => exact absurd ⟨_, h2, hv⟩ hlow

theorem getD_app {l : Array Bool} {m i : Nat} {d : Bool} (hi : i < l.size) : (l ++ Array.replicate m false).getD i d = l.getD i d := by
  simp [Array.getD_eq_getD_getElem?, Array.getElem?_append_left hi]

theorem getD_app_right {l : Array Bool} {m i : Nat} (hi : l.size ≤ i) : (l ++ Array.replicate m false).getD i false = false := by
  rw [Array.getD_eq_getD_getElem?, Array.getElem?_append_right hi]
  simp only [Array.getElem?_replicate]
  split <;> rfl

theorem getD_false_true {l : Array Bool} {i : Nat} (hi : i < l.size) : l.getD i true = l.getD i false := by
  simp [Array.getD_eq_getD_getElem?, hi]

theorem extract_get (hk : k ≤ ops.size) {i : Nat} (hi : i < k) : (ops.extract 0 k)[i]? = ops[i]? := by
  rw [Array.getElem?_extract]
  simp only [Nat.sub_zero, Nat.min_eq_left hk, hi, if_true, Nat.zero_add]

/-- The first k are listed, all of them, or one may come up. -/
theorem ready_none (hb : backB md ops k = true) (hk : k ≤ ops.size) {l : Array Bool} (hs : l.size = k) (hr : Region.ready md (ops.extract 0 k) l = []) : l = Array.replicate k true := by
  apply Array.ext
  · simp [hs]
  · intro i h1 h2
    have hik : i < k := by omega
    simp only [Array.getElem_replicate]
    cases hv : l[i] with
    | true => rfl
    | false =>
      exfalso
      obtain ⟨j, hj, hjl, o, ho, hall⟩ := back_min (l := l) hb hk i i rfl hik (by simp [Array.getD_eq_getD_getElem?, h1, hv])
      have hm : j ∈ Region.ready md (ops.extract 0 k) l := mem_ready.2 ⟨by rw [getD_false_true (by omega)]; exact hjl, o, by rw [extract_get hk hj]; exact ho, fun e he hbd => (hall e he hbd).1⟩
      rw [hr] at hm
      cases hm

theorem prefix_any (hb : drawB md ops k = true) : ∀ (fuel : Nat) (l : Array Bool) (a : Act) (w : World), l.size = k → Down md ops l → C w → wpAnyQ P md (ops.extract 0 k) C K fuel l a →
    (∀ (a : Act) (w : World) (fuel : Nat), ops.size - k ≤ fuel → C w → K a → wpAny P md ops Q fuel (upto ops.size k) a w) → wpAny P md ops Q (fuel + (ops.size - k)) (l ++ Array.replicate (ops.size - k) false) a w := by
  simp only [drawB, Bool.and_eq_true, decide_eq_true_eq] at hb
  obtain ⟨⟨⟨⟨⟨hk, _⟩, hback⟩, hcover⟩, _⟩, hguards⟩ := hb
  intro fuel
  induction fuel with
  | zero =>
    intro l a w hs hd hw h hK
    obtain ⟨hr, hKa⟩ := h
    rw [ready_none hback hk hs hr]
    exact hK a w _ (by omega) hw hKa
  | succ fuel ih =>
    intro l a w hs hd hw h hK
    by_cases hr : Region.ready md (ops.extract 0 k) l = []
    · have hKa := h.1 hr
      rw [ready_none hback hk hs hr]
      exact hK a w _ (by omega) hw hKa
    · -- who may come up
      have hsub : ∀ i, i ∈ Region.ready md ops (l ++ Array.replicate (ops.size - k) false) → i < k ∧ i ∈ Region.ready md (ops.extract 0 k) l := by
        intro i hi
        obtain ⟨h0, o, ho, hall⟩ := mem_ready.1 hi
        have hin : i < ops.size := (Array.getElem?_eq_some_iff.1 ho).1
        by_cases hik : i < k
        · refine ⟨hik, mem_ready.2 ⟨by rw [getD_app (by omega)] at h0; exact h0, o, by rw [extract_get hk hik]; exact ho, fun e he hbd => ?_⟩⟩
          have h1 := hall e he hbd
          by_cases hek : e.on < k
          · rw [getD_app (by omega)] at h1; exact h1
          · rw [getD_app_right (by omega)] at h1; cases h1
        · exfalso
          apply hr
          simp only [coverB, List.all_eq_true, List.mem_range] at hcover
          have hall' : ∀ e ∈ o.after, Region.binds md e = true → l.getD e.on false = true := fun e he hbd => by
            have h1 := hall e he hbd
            by_cases hek : e.on < k
            · rw [getD_app (by omega)] at h1; exact h1
            · rw [getD_app_right (by omega)] at h1; cases h1
          have hfull : ∀ j, j < k → l.getD j false = true := fun j hj => by
            have h2 := hcover (i - k) (by omega) j hj
            rw [show k + (i - k) = i by omega] at h2
            exact ready_near hd ho hall' h2
          cases hre : Region.ready md (ops.extract 0 k) l with
          | nil => rfl
          | cons j rest =>
            have hj : j ∈ Region.ready md (ops.extract 0 k) l := by rw [hre]; simp
            obtain ⟨h3, o', ho', _⟩ := mem_ready.1 hj
            have hjk : j < k := by
              have := (Array.getElem?_eq_some_iff.1 ho').1
              simp at this
              omega
            rw [getD_false_true (by omega), hfull j hjk] at h3
            cases h3
      have hsup : ∀ i, i ∈ Region.ready md (ops.extract 0 k) l → i ∈ Region.ready md ops (l ++ Array.replicate (ops.size - k) false) := by
        intro i hi
        obtain ⟨h0, o, ho, hall⟩ := mem_ready.1 hi
        have hik : i < k := by
          have := (Array.getElem?_eq_some_iff.1 ho).1
          simp at this
          omega
        refine mem_ready.2 ⟨by rw [getD_app (by omega)]; exact h0, o, by rw [← extract_get hk hik]; exact ho, fun e he hbd => ?_⟩
        have h1 := hall e he hbd
        by_cases hek : e.on < l.size
        · rw [getD_app hek]; exact h1
        · simp [Array.getD_eq_getD_getElem?, Array.getElem?_eq_none (Nat.le_of_not_lt hek)] at h1
      rw [show fuel + 1 + (ops.size - k) = (fuel + (ops.size - k)) + 1 by omega]
      refine ⟨fun hr0 => ?_, fun i hi => ?_⟩
      · exfalso
        cases hre : Region.ready md (ops.extract 0 k) l with
        | nil => exact hr hre
        | cons j rest =>
          have := hsup j (by rw [hre]; simp)
          rw [hr0] at this
          cases this
      · obtain ⟨hik, hi'⟩ := hsub i hi
        have hq := h.2 i hi'
        obtain ⟨h0, o, ho, hall⟩ := mem_ready.1 hi'
        have hset : (l ++ Array.replicate (ops.size - k) false).setIfInBounds i true = l.setIfInBounds i true ++ Array.replicate (ops.size - k) false := by
          rw [Array.setIfInBounds_append_left (by omega)]
        rw [hset]
        have hd' : Down md ops (l.setIfInBounds i true) := by
          intro j oj hj hoj e he hbd
          by_cases e1 : i = j
          · subst e1
            have : oj = o := by
              rw [← extract_get hk hik, ho] at hoj
              exact (Option.some.inj hoj).symm
            subst this
            exact getD_set_true (hall e he hbd)
          · rw [getD_set_ne false e1] at hj
            exact getD_set_true (hd j oj hj hoj e he hbd)
        have hop : ops[i]? = some o := by rw [← extract_get hk hik]; exact ho
        have hwant : Region.wanted o (yielded ops a.tmps) = Region.wanted o (yielded (ops.extract 0 k) a.tmps) := by
          simp only [guardsB, List.all_eq_true, List.mem_range] at hguards
          have hg := hguards i hik
          simp only [hop, Option.map_some, Option.getD_some] at hg
          unfold Region.wanted
          cases hgd : o.guard with
          | none => rfl
          | some g =>
            obtain ⟨j, want⟩ := g
            rw [hgd] at hg
            simp only [decide_eq_true_eq] at hg
            have : yielded ops a.tmps j = yielded (ops.extract 0 k) a.tmps j := by
              unfold yielded
              rw [extract_get hk hg]
            simp only [this]
        unfold qOp at hq
        rw [ho] at hq
        unfold wpOp
        rw [hop]
        simp only at hq ⊢
        rw [hwant]
        by_cases hw1 : Region.wanted o (yielded (ops.extract 0 k) a.tmps) = true
        · rw [if_pos hw1] at hq ⊢
          exact .inl (Oper.wp_of_quiet hw (fun a' w' hw' h' => ih _ a' w' (by simp [hs]) hd' hw' h' hK) hq)
        · rw [if_neg hw1] at hq ⊢
          exact ih _ _ w (by simp [hs]) hd' hw hq hK

theorem wp_region_split {id : Nat} {a : Act} {w : World} (hm : P.follows .mixedOrders = true) (hB : drawB .any ops k = true) (hC : C { w with drawn := w.drawn + 1 })
    (h : wpQuiet P (ops.extract 0 k) C (fun a' => ∀ w', C w' → wpList P ops Q (ops.toList.drop k) a' w') (ops.toList.take k) a) : (Code.region id ops true).wp P Q a w := by
  have hB' := hB
  simp only [drawB, Bool.and_eq_true, decide_eq_true_eq] at hB'
  obtain ⟨⟨⟨⟨⟨hk, hlex⟩, _⟩, _⟩, hforced⟩, _⟩ := hB'
  replace hlex := fast_lex hlex
  simp only [Region.lexB, Bool.and_eq_true] at hlex
  refine wp_region_any hm ?_
  have hsz : (ops.extract 0 k).size = k := by simp; omega
  have htl : (ops.extract 0 k).toList = ops.toList.take k := by simp
  have hq := wpAnyQ_lex (P := P) (C := C) (md := .any) hlex.1 (ops.extract 0 k).toList 0 (Array.replicate (ops.extract 0 k).size false) a (fun j => by rw [Nat.zero_add, Array.getElem?_toList]) (by simpa using hlex.2) (by rw [htl]; exact h)
  rw [Array.length_toList, hsz] at hq
  have e1 : ops.size = k + (ops.size - k) := by omega
  have e2 : Array.replicate ops.size false = Array.replicate k false ++ Array.replicate (ops.size - k) false := by
    rw [Array.replicate_append_replicate, ← e1]
  rw [e2]
  have key := prefix_any (Q := Q) hB k (Array.replicate k false) a { w with drawn := w.drawn + 1 } (by simp) (fun i o hi => by
    exfalso
    simp only [Array.getD_eq_getD_getElem?, Array.getElem?_replicate] at hi
    split at hi <;> cases hi) hC hq (fun a' w' fuel hfu hw' hK => suffix_any hforced (ops.size - k) k (by omega) (Nat.le_refl _) fuel a' w' hfu (by
      have := wpOps_eq_wpList (P := P) (ops := ops) (Q := Q) (ops.toList.drop k) k (fun j => by simp)
      rw [List.length_drop, Array.length_toList] at this
      rw [this]
      exact hK w' hw'))
  rwa [← e1] at key
end
end Go.Proofs.Ytmebdbagcbgddaa.Am
