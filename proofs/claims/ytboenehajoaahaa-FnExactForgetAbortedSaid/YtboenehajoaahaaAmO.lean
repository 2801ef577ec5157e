import Derived.Laws.Tables
import Derived.Test.YtboenehajoaahaaAmN
namespace Go.Proofs.Ytboenehajoaahaa.Am
open Go Go.RowKit
theorem Qvy (cx : List Value) : ∀ (n : Nat) (pre c' post : List Value), c'.length = cx.length →
    (cx.zipIdx n).foldl (fun cs (p : Value × Nat) => cs.setIfInBounds (pre.length + (p.2 - n)) p.1) (pre ++ c' ++ post).toArray = (pre ++ cx ++ post).toArray := by
  induction cx with
  | nil =>
    intro n pre c' post h
    obtain rfl : c' = [] := List.eq_nil_of_length_eq_zero (by simpa using h)
    simp
  | cons v cx ih =>
    intro n pre c' post h
    cases c' with
    | nil => simp at h
    | cons v' c' =>
      simp only [List.zipIdx_cons, List.foldl_cons, Nat.sub_self, Nat.add_zero]
      have e1 : (pre ++ v' :: c' ++ post).toArray.setIfInBounds pre.length v = ((pre ++ [v]) ++ c' ++ post).toArray := by
        apply Array.ext'
        simp
      rw [e1]
      have := ih (n + 1) (pre ++ [v]) c' post (by simpa using h)
      have e2 : ∀ (l : List (Value × Nat)) (acc : Array Value), (∀ p ∈ l, n + 1 ≤ p.2) →
          l.foldl (fun cs (p : Value × Nat) => cs.setIfInBounds (pre.length + (p.2 - n)) p.1) acc = l.foldl (fun cs (p : Value × Nat) => cs.setIfInBounds ((pre ++ [v]).length + (p.2 - (n + 1))) p.1) acc := by
        intro l
        induction l with
        | nil => intros; rfl
        | cons p l ihl =>
          intro acc hp
          have hp0 := hp p (by simp)
          simp only [List.foldl_cons]
          have : pre.length + (p.2 - n) = (pre ++ [v]).length + (p.2 - (n + 1)) := by simp; omega
          rw [this]
          exact ihl _ (fun q hq => hp q (by simp [hq]))
      rw [e2 _ _ (fun p hp => by have := List.le_snd_of_mem_zipIdx hp; omega), this]
      simp
section
variable {α : Type} {P : Program} {ρ : Nat → FuncId} {base : Nat → Prop} {F : Fm} {fr : Frm} {S₀ : Nat → Prop} {Γ : Hp} {β : Nat → Lay} {B : Nat → List Nat} {a : Act} {w w' : World} {E : Env}
  {K : Eff → Option α} {r : α} {G : Prop} {o : Oper}
def partsOK (ρ : Nat → FuncId) (N : Nat × Nat) : List (Nat × Operand) → List (Nat × Opd) → Bool
  | [], [] => true
  | (i, x) :: xs, (j, x') :: xs' => i == j && opdOK ρ N x x' && partsOK ρ N xs xs'
  | _, _ => false
theorem Qqf (ds : List D) (i j : Nat) (d d0 : D) (hi : ds[i]? = some d0) (hs : d.size = d0.size) : dsizes ((ds.set i d).take j) = dsizes (ds.take j) := by
  induction ds generalizing i j with
  | nil => simp
  | cons x ds ih =>
    cases j with
    | zero => simp
    | succ j =>
      cases i with
      | zero =>
        simp only [List.getElem?_cons_zero, Option.some.injEq] at hi
        subst hi
        simp [hs]
      | succ i =>
        simp only [List.getElem?_cons_succ] at hi
        simp [ih i j hi]
theorem VD.v1p {S : Nat → Prop} {d : D} {v : Value} (h : VD ρ w S β d v) (hp : partable d = true) : V1 ρ w S β d v ∧ d ≠ .undef := by
  refine ⟨?_, fun e => by subst e; cases hp⟩
  cases d with
  | tup ds => cases hp
  | skip => cases hp
  | val u => cases u with
    | tup us => cases hp
    | _ => exact h
  | _ => exact h
theorem Ql2 (hrel : Rel ρ S₀ base F fr Γ β B a w) {KF : List D → Option α} (place : Nat → Option (Nat × Nat)) : ∀ (parts : List (Nat × Operand)) (parts' : List (Nat × Opd)) (ds : List D) (cs : List Value),
    partsOK ρ F.wd parts parts' = true → DCs ρ w (Stands S₀ w Γ B) β ds cs → (∀ (i : Nat) (d : D), ds[i]? = some d → place i = some (dsizes (ds.take i), d.size)) → setParts fr KF ds parts' = some r →
    ∃ ds' cs', Instr.fill place cs.toArray (parts.map fun p => (p.1, a.eval p.2)) = some cs'.toArray ∧ DCs ρ w (Stands S₀ w Γ B) β ds' cs' ∧ KF ds' = some r ∧ ds'.length = ds.length ∧ (∀ (i : Nat) (d : D), ds'[i]? = some d → ∃ d0, ds[i]? = some d0 ∧ d.size = d0.size) := by
  intro parts
  induction parts with
  | nil =>
    intro parts' ds cs hp hd hpl h
    cases parts' with
    | cons _ _ => cases hp
    | nil => exact ⟨ds, cs, rfl, hd, h, rfl, fun i d h => ⟨d, h, rfl⟩⟩
  | cons p parts ih =>
    intro parts' ds cs hp hd hpl h
    obtain ⟨i, x⟩ := p
    cases parts' with
    | nil => cases hp
    | cons p' parts' =>
      obtain ⟨j, x'⟩ := p'
      simp only [partsOK, Bool.and_eq_true, beq_iff_eq] at hp
      obtain ⟨⟨rfl, hx⟩, hp⟩ := hp
      simp only [setParts, Option.bind_eq_some_iff] at h
      obtain ⟨d, hdi, h⟩ := h
      split at h
      · rename_i hc
        obtain ⟨hst, hsz⟩ := hc
        obtain ⟨hv1, hne⟩ := (hrel.opd hx).v1p hst
        obtain ⟨cx, hcx, hdx⟩ := hv1.cells' hne
        obtain ⟨c1, c2, c3, rfl, hl1, hl2, h1, h2, h3⟩ := hd.at_ hdi
        have hlx : cx.length = d.size := by rw [hdx.length]; simp [hsz]
        have hlt : i < ds.length := (List.getElem?_eq_some_iff.1 hdi).1
        have hd' : DCs ρ w (Stands S₀ w Γ B) β (ds.set i (x'.ev fr)) (c1 ++ cx ++ c3) := by
          rw [Qyd ds i _ hlt, List.append_assoc]
          exact h1.append (hdx.cons h3)
        obtain ⟨ds', cs', hf, hds', hF, hlen, hsizes⟩ := ih parts' _ _ hp hd' (fun j d' hj => by
          rw [Qqf ds i j _ d hdi hsz]
          by_cases e : i = j
          · subst e
            rw [List.getElem?_set_self hlt] at hj
            cases hj
            rw [hpl i d hdi, hsz]
          · rw [List.getElem?_set_ne e] at hj
            exact hpl j d' hj) h
        refine ⟨ds', cs', ?_, hds', hF, by rw [hlen, List.length_set], fun j d' hj => ?_⟩
        · simp only [List.map_cons, Instr.fill, hpl i d hdi, hcx]
          have hcond : ¬ ((decide (cx.toArray.size ≠ d.size) || decide (dsizes (ds.take i) + cx.toArray.size > (c1 ++ c2 ++ c3).toArray.size)) = true) := by
            simp [hlx, hl1, hl2]
          rw [if_neg hcond]
          have hfold : (cx.toArray.zipIdx.foldl (fun cs (p : Value × Nat) => cs.setIfInBounds (dsizes (ds.take i) + p.2) p.1) (c1 ++ c2 ++ c3).toArray) = (c1 ++ cx ++ c3).toArray := by
            have := Qvy cx 0 c1 c2 c3 (by omega)
            simp only [Nat.sub_zero] at this
            rw [← hl1]
            simpa using this
          rw [hfold]
          exact hf
        · obtain ⟨d0, hd0, hs0⟩ := hsizes j d' hj
          by_cases e : i = j
          · subst e
            rw [List.getElem?_set_self hlt] at hd0
            cases hd0
            exact ⟨d, hdi, by rw [hs0, hsz]⟩
          · rw [List.getElem?_set_ne e] at hd0
            exact ⟨d0, hd0, hs0⟩
      · cases h
theorem Qdk : ∀ {ds : List D} {us : List U}, allVals ds = some us → ds = us.map .val
  | [], us, h => by simp only [allVals, Option.some.injEq] at h; subst h; rfl
  | d :: ds, us, h => by
    cases d with
    | val u =>
      simp only [allVals, Option.map_eq_some_iff] at h
      obtain ⟨us', h, rfl⟩ := h
      rw [Qdk h]
      rfl
    | _ => cases h
theorem DCs.vals_inv {S : Nat → Prop} : ∀ {us : List U} {cs : List Value}, DCs ρ w S β (us.map .val) cs → URs ρ w S us cs
  | [], cs, h => by cases h; exact .nil
  | u :: us, cs, h => by
    obtain ⟨c1, c2, rfl, _, h1, h2⟩ := DCs.cons_inv h
    exact h1.val_inv.append (DCs.vals_inv h2)
def placesB : Nat → List (Nat × Nat) → List U → Bool
  | _, [], [] => true
  | off, p :: ps, z :: zs => p.1 == off && p.2 == z.size && placesB (off + p.2) ps zs
  | _, _, _ => false
theorem Qns : ∀ {ps : List (Nat × Nat)} {zs : List U} {off : Nat}, placesB off ps zs = true → ∀ (i : Nat) (z : U), zs[i]? = some z → ps[i]? = some (off + sizes (zs.take i), z.size)
  | [], [], _, _, i, z, hz => by simp at hz
  | [], _ :: _, _, h, _, _, _ => by cases h
  | _ :: _, [], _, h, _, _, _ => by cases h
  | p :: ps, z0 :: zs, off, h, i, z, hz => by
    simp only [placesB, Bool.and_eq_true, beq_iff_eq] at h
    obtain ⟨⟨h1, h2⟩, h3⟩ := h
    cases i with
    | zero =>
      simp only [List.getElem?_cons_zero, Option.some.injEq] at hz
      subst hz
      simp [← h1, ← h2]
    | succ i =>
      simp only [List.getElem?_cons_succ] at hz
      have := Qns h3 i z hz
      simp only [List.getElem?_cons_succ, this, List.take_succ_cons, Qaq, h2, Nat.add_assoc]
def buildOK (P : Program) (t : TypeId) (zs : List U) : Bool := match P.info? t, P.underlying t with
  | some it, some (.array _ e) => match it.zero, P.info? e with
    | some z, some ie => constOK z (.agg zs) && zs.all fun u => u.size == ie.size
    | _, _ => false
  | some it, some (.struct fields) => match it.zero, fields.toList.mapM (fun f => (P.info? f.type).map fun i => (f.offset, i.size)) with
    | some z, some places => constOK z (.agg zs) && placesB 0 places zs
    | _, _ => false
  | _, _ => false
theorem Qfj {us : List U} {i : Nat} {d : D} (h : (us.map D.val)[i]? = some d) : ∃ u, us[i]? = some u ∧ d = .val u := by
  rw [List.getElem?_map, Option.map_eq_some_iff] at h
  obtain ⟨u, h1, h2⟩ := h
  exact ⟨u, h1, h2.symm⟩
theorem Qip {z : Value} {zs : List U} (h : constOK z (.agg zs) = true) : ∃ cs, z.cells = cs.toArray ∧ URs ρ w (Stands S₀ w Γ B) zs cs := by
  obtain ⟨cs, h1, h2⟩ := (Qcw (ρ := ρ) (w := w) (S := Stands S₀ w Γ B) h).cells
  exact ⟨cs, h1, h2.agg_inv⟩
theorem Qor {t : TypeId} {parts : Array (Nat × Operand)} {zs : List U} {parts' : List (Nat × Opd)} (hrel : Rel ρ S₀ base F fr Γ β B a w) (ho : o.op = .build t parts) (ht : buildOK P t zs = true) (hp : partsOK ρ F.wd parts.toList parts' = true)
    (h : (AOp.build zs parts').step E fr Γ K = some r) (hK : Cont P ρ S₀ base F fr Γ β B a w o K r G) : G := by
  simp only [AOp.step] at h
  have key : ∃ (place : Nat → Option (Nat × Nat)) (cs : List Value), URs ρ w (Stands S₀ w Γ B) zs cs ∧ (∀ (i : Nat) (d : D), (zs.map D.val)[i]? = some d → place i = some (dsizes ((zs.map D.val).take i), d.size)) ∧
      ∀ (l : List (Nat × Value)), P.built t l = Instr.fill place cs.toArray l := by
    unfold buildOK at ht
    split at ht
    · rename_i it n e hit hu
      split at ht
      · rename_i z ie hz hie
        simp only [Bool.and_eq_true, List.all_eq_true, beq_iff_eq] at ht
        obtain ⟨cs, h1, h2⟩ := Qip (ρ := ρ) (w := w) (Γ := Γ) (B := B) ht.1
        refine ⟨fun i => some (i * ie.size, ie.size), cs, h2, fun i d hd => ?_, fun l => by simp only [Program.built, hit, hu, hz, hie, h1]⟩
        obtain ⟨u, hu2, rfl⟩ := Qfj hd
        have hlt : i < zs.length := (List.getElem?_eq_some_iff.1 hu2).1
        rw [← List.map_take, Qcx, Qc9 (k := ie.size) (fun u hu => ht.2 u (List.mem_of_mem_take hu)), List.length_take, Nat.min_eq_left (by omega)]
        simp [D.size, ht.2 u (List.mem_of_getElem? hu2)]
      · cases ht
    · rename_i it fields hit hu
      split at ht
      · rename_i z places hz hpl
        simp only [Bool.and_eq_true] at ht
        obtain ⟨cs, h1, h2⟩ := Qip (ρ := ρ) (w := w) (Γ := Γ) (B := B) ht.1
        refine ⟨fun i => places.toArray[i]?, cs, h2, fun i d hd => ?_, fun l => by simp only [Program.built, hit, hu, hz, hpl, h1]⟩
        obtain ⟨u, hu2, rfl⟩ := Qfj hd
        have := Qns ht.2 i u hu2
        rw [← List.map_take, Qcx]
        simpa [D.size] using this
      · cases ht
    · cases ht
  obtain ⟨place, cs, hcs, hpl, hbuilt⟩ := key
  obtain ⟨ds', cs', hf, hds', hF, hlen, _⟩ := Ql2 hrel place parts.toList parts' _ cs hp (DCs.of_vals hcs) hpl h
  have hrun : ∀ w2 : World, (execOp a.eval o).run P w2 = .ok (.value (.agg cs'.toArray)) w2 := fun w2 => by
    simp only [execOp, ho]
    refine run_v (run_build w2 t _ cs'.toArray ?_)
    rw [hbuilt]
    simpa using hf
  cases hav : allVals ds' with
  | none =>
    rw [hav] at hF
    exact hK.here _ _ hF (Qbd (.inr ⟨cs', DCs.of_agg hds', by simp [D.isAgg]⟩)) fun w2 _ => hrun w2
  | some us =>
    rw [hav] at hF
    rw [Qdk hav] at hds'
    exact hK.here _ _ hF (Ql ⟨cs', URs.of_agg hds'.vals_inv, by simp [D.isAgg]⟩) fun w2 _ => hrun w2
theorem Qgj (z : Array Value) (m : Nat) : (madeCells z (m * z.size)).toList = (List.replicate m z.toList).flatten := by
  induction m with
  | zero => simp [madeCells]
  | succ m ih =>
    rw [List.replicate_succ', List.flatten_append, ← ih]
    have e : (m + 1) * z.size = m * z.size + z.size := Nat.succ_mul _ _
    unfold madeCells
    rw [e]
    simp only [Array.toList_map, Array.toList_range, List.range_add, List.map_append, List.map_map, List.flatten_cons, List.flatten_nil, List.append_nil]
    congr 1
    apply List.ext_getElem
    · simp
    · intro j h1 h2
      have hj : j < z.size := by simpa using h2
      simp [Nat.mod_eq_of_lt hj, hj]
theorem Qfm {S : Nat → Prop} {z : U} {c : List Value} (h : URs ρ w S [z] c) (m : Nat) : URs ρ w S (List.replicate m z) (List.replicate m c).flatten := by
  induction m with
  | zero => exact .nil
  | succ m ih => rw [List.replicate_succ, List.replicate_succ, List.flatten_cons]; exact h.append ih
def zeroOK (P : Program) (e : TypeId) (k bytes : Nat) (z : U) : Bool := match P.info? e with
  | some i => i.size == k && i.bytes == bytes && (match i.zero with | some zv => constOK zv z | none => false)
  | none => false
theorem Qps {e : TypeId} {k bytes : Nat} {z : U} (h : zeroOK P e k bytes z = true) : ∃ i zv, P.info? e = some i ∧ i.zero = some zv ∧ i.size = k ∧ i.bytes = bytes ∧ constOK zv z = true := by
  unfold zeroOK at h
  split at h
  · rename_i i hi
    simp only [Bool.and_eq_true, beq_iff_eq] at h
    obtain ⟨⟨h1, h2⟩, h3⟩ := h
    split at h3
    · rename_i zv hz
      exact ⟨i, zv, hi, hz, h1, h2, h3⟩
    · cases h3
  · cases h
theorem After.made {Γ1 : Hp} {B1 : Nat → List Nat} {Bx : List Nat} (hrel : Rel ρ S₀ base F fr Γ β B a w) (hp : Parts ρ w (Stands S₀ w Γ B) β Γ B Γ1 B1 Bx) {nm : Nat} (hnm : nm < 5000) {k : Nat} (d : D) {v : Value} {h' : Hdr} {Bn : List Nat}
    (h1 : w'.os = w.os) (h2 : w'.tape = w.tape) (h3 : w'.output = w.output) (hs : w.heap.size ≤ w'.heap.size) (hc : ∀ b, b < w.heap.size → b ∉ Bx → w'.heap[b]? = w.heap[b]?) (hB : ∀ b ∈ Bn, b ∈ Bx ∨ (w.heap.size ≤ b ∧ b < w'.heap.size)) (hn : Bn.Nodup) (hh : h' [] = some v) (hone : v.oneCell' = true)
    (ht : ∀ (S' : Nat → Prop) (β' : Nat → Lay), (∀ b, Stands S₀ w Γ B b → S' b) → Keeps (Stands S₀ w Γ B) w w' → TagOK (.purge nm) β β' → TCs ρ w' S' β' [(h', (d.retag (.purge nm)).ex)] [v] Bn) :
    After ρ S₀ base F fr Γ β a w [.purge nm] (.ref nm [] k none) (upd (Hp.retag Γ1 (.purge nm)) nm (some ((Cn.vir d).retag (.purge nm)))) v w' := by
  have hkeep : Keeps (Stands S₀ w Γ B) w w' := fun b hb => hc b hb.lt fun hm => Qcd (hp.out b hm).1 hb
  refine After.make hrel hp hnm (.vir d) ⟨.vir, h'⟩ Bn h1 h2 h3 hs hc hB (fun S' hS' => ⟨hn, [v], rfl, ?_⟩) fun S' => Qcr (v0 := v) (by rw [Qd]; exact hh) ⟨rfl, hone⟩
  exact ht S' _ hS' hkeep (TagOK.purge fun R' hR _ => Qa β _ hR)
def mkE (v : Value) (hs : List Hdr) : Hdr
  | [] => some v
  | .elt i _ :: q => match hs[i]? with
    | some h => h q
    | none => none
  | _ => none
theorem Qfz (v : Value) (k : Nat) (hs0 : List Hdr) : ∀ (ds : List D) (hs : List Hdr) (i : Nat), hs.length = ds.length → (∀ j, hs[j]? = hs0[i + j]?) → elts (mkE v hs0) k i ds = hs.zip ds
  | [], hs, i, hl, _ => by
    obtain rfl : hs = [] := List.length_eq_zero_iff.1 hl
    rfl
  | d :: ds, [], i, hl, _ => by cases hl
  | d :: ds, h :: hs, i, hl, hi => by
    simp only [elts, List.zip_cons_cons]
    rw [Qfz v k hs0 ds hs (i + 1) (by simpa using hl) fun j => by
      have := hi (j + 1)
      simp only [List.getElem?_cons_succ] at this
      rw [this]
      congr 1
      omega]
    congr 2
    funext q
    have := hi 0
    simp only [List.getElem?_cons_zero, Nat.add_zero] at this
    simp only [Hdr.at, mkE, ← this]
theorem Qds {S : Nat → Prop} {h : Hdr} {k : Nat} : ∀ (us : List U) (cs : List Value) (i : Nat), URs ρ w S us cs → TCs ρ w S β (elts h k i (us.map .val)) cs []
  | [], cs, i, t => by cases t; exact .nil
  | u :: us, cs, i, t => by
    obtain ⟨c1, c2, rfl, _, h1, h2⟩ := t.cons_inv
    exact .val h1 (Qds us c2 _ h2)
theorem Qzj {t e : TypeId} {l c : Operand} {nm k bytes : Nat} {z : U} {l' c' : Opd} (hrel : Rel ρ S₀ base F fr Γ β B a w) (ho : o.op = .makeSlice t l c) (ht : tyElem P t = some e) (hz : zeroOK P e k bytes z = true) (hb0 : 0 < bytes)
    (hl : opdOK ρ F.wd l l' = true) (hc : opdOK ρ F.wd c c' = true)
    (h : (AOp.mkslice nm k bytes z l' c').step E fr Γ K = some r) (hK : Cont P ρ S₀ base F fr Γ β B a w o K r G) : G := by
  obtain ⟨i, zv, hi, hzv, rfl, rfl, hco⟩ := Qps hz
  have ht := Qbo ht
  simp only [AOp.step] at h
  obtain ⟨n, hn, h⟩ := Qad (K := fun l => (c'.ev fr).asInt fun c => if 0 ≤ l ∧ l ≤ c ∧ c * i.bytes ≤ 140737488355328 ∧ z.size = i.size then mkVar Γ nm (.vir (.asl i.size (List.replicate l.toNat z))) (.ref nm [] i.size none) K else none) h
  obtain ⟨m, hm, h⟩ := Qad (K := fun c => if 0 ≤ n ∧ n ≤ c ∧ c * i.bytes ≤ 140737488355328 ∧ z.size = i.size then mkVar Γ nm (.vir (.asl i.size (List.replicate n.toNat z))) (.ref nm [] i.size none) K else none) h
  have e1 := hrel.int hl hn
  have e2 := hrel.int hc hm
  split at h
  · rename_i hcond
    obtain ⟨h0, h1, h2, h3⟩ := hcond
    obtain ⟨hnm, h⟩ := Qy h
    obtain ⟨cs, hcs, hu⟩ := (Qcw (ρ := ρ) (w := w) (S := Stands S₀ w Γ B) hco).cells
    have hlc : cs.length = i.size := by rw [hu.length]; simp [h3]
    have hzc : zv.cells.size = i.size := by rw [hcs]; simp [hlc]
    have hb1 : (1 : Int) ≤ i.bytes := by omega
    have hmle : m ≤ 140737488355328 := by
      have : m * 1 ≤ m * i.bytes := Int.mul_le_mul_of_nonneg_left hb1 (by omega)
      omega
    have hr := run_make (P := P) w t e i zv ht hi hzv .i64 .i64 n m h0 h1 (by rw [Int.mul_comm]; omega) (by omega)
    have hbel : Below w.heap.size w (w.alloc (.cells (madeCells zv.cells (m.toNat * i.size)) e)) := (Below.refl _ _).alloc (Nat.le_refl _) _
    have htk : (madeCells zv.cells (m.toNat * i.size)).toList.take ((List.replicate n.toNat z).length * i.size) = (List.replicate n.toNat cs).flatten := by
      have e3 : (madeCells zv.cells (m.toNat * i.size)).toList = (List.replicate m.toNat cs).flatten := by
        rw [← hzc, Qgj, hcs]
      have e4 : List.replicate m.toNat cs = List.replicate n.toNat cs ++ List.replicate (m.toNat - n.toNat) cs := by
        rw [List.replicate_append_replicate]; congr 1; omega
      rw [e3, e4, List.flatten_append]
      have e5 : (List.replicate n.toNat z).length * i.size = (List.replicate n.toNat cs).flatten.length := by simp [hlc]
      rw [e5]
      exact List.take_left
    refine hK.val _ _ _ _ _ h (by simp only [execOp, ho, e1, e2]; exact run_v hr) (After.made hrel hrel.parts hnm (.asl i.size (List.replicate n.toNat z)) (h' := mkE (.slice (some ⟨w.heap.size, 0, none⟩) n.toNat m.toNat) []) (Bn := [w.heap.size]) hbel.os hbel.tape hbel.output hbel.size (fun b hb _ => hbel.block b hb) (fun b hb => .inr (by simp at hb; subst hb; simp)) (by simp) rfl rfl fun S' β' hS' hk _ => ?_)
    have := TCs.osl (ρ := ρ) (w := w.alloc (.cells (madeCells zv.cells (m.toNat * i.size)) e)) (S := S') (β := β') (h := mkE (.slice (some ⟨w.heap.size, 0, none⟩) n.toNat m.toNat) []) (k := i.size) (ds := (List.replicate n.toNat z).map .val) (b := w.heap.size) (cap := m.toNat) (xs := []) (cs := []) (B := [])
      (by simp [mkE]) (heap_alloc_new w _) (by simp [madeCells]) (by simp; omega) (by simp only [maxLen]; omega) (fun d hd => by
        obtain ⟨u, hu, rfl⟩ := List.mem_map.1 hd
        rw [List.eq_of_mem_replicate hu]
        exact h3) rfl (by
        rw [List.length_map, htk]
        exact Qds _ _ _ ((Qfm hu n.toNat).mono hS' hk.cell)) .nil
    simpa [D.retag, D.ex] using this
  · cases h
theorem Qhr : ∀ (d : D) {Γ1 Γ2 : Hp} {c : D}, d.takeO Γ1 = some (c, Γ2) → c.size = d.size
  | .val u, Γ1, Γ2, c, ht => by cases u <;> (simp [D.takeO, D.take, U.noTup] at ht) <;> (rw [← ht.1])
  | .ptr R p, Γ1, Γ2, c, ht => by simp only [D.takeO, D.take, Option.some.injEq, Prod.mk.injEq] at ht; rw [← ht.1]
  | .fnv r caps, Γ1, Γ2, c, ht => by simp only [D.takeO, D.take, Option.some.injEq, Prod.mk.injEq] at ht; rw [← ht.1]
  | .ref R p k none, Γ1, Γ2, c, ht => by
    simp only [D.takeO, D.take, at_eq] at ht
    obtain ⟨d', hat, ht⟩ := Option.bind_eq_some_iff.1 ht
    obtain ⟨ht, ds, hex⟩ := Qa4 ht
    have hsz := Qe8 hex
    split at ht
    · simp only [Option.some.injEq, Prod.mk.injEq] at ht
      rw [← ht.1, hsz]; rfl
    · rw [Qab] at ht
      obtain ⟨Γ', _, ht⟩ := Option.bind_eq_some_iff.1 ht
      simp only [Option.some.injEq, Prod.mk.injEq] at ht
      rw [← ht.1, hsz]; rfl
  | .ref R p k (some x), _, _, _, ht => by cases ht
  | .agg ds, Γ1, Γ2, c, ht => by
    rw [Qhp] at ht
    obtain ⟨⟨cs, Γ3⟩, h1, h2⟩ := Option.bind_eq_some_iff.1 ht
    cases h2
    exact (go ds h1).2
  | .own u, _, _, _, ht => by cases ht
  | .asl k us, _, _, _, ht => by cases ht
  | .osl k ds, _, _, _, ht => by cases ht
  | .tup ds, _, _, _, ht => by cases ht
  | .junk n, _, _, _, ht => by cases ht
  | .skip, _, _, _, ht => by cases ht
  | .undef, _, _, _, ht => by cases ht
where go : ∀ (ds : List D) {Γ1 Γ2 : Hp} {cs : List D}, takesO ds Γ1 = some (cs, Γ2) → (∀ k, (∀ d ∈ ds, d.size = k) → ∀ c ∈ cs, c.size = k) ∧ dsizes cs = dsizes ds
  | [], Γ1, Γ2, cs, ht => by
    rw [Qfg] at ht
    simp only [Option.some.injEq, Prod.mk.injEq] at ht
    rw [← ht.1]
    exact ⟨fun k h => h, rfl⟩
  | d :: ds, Γ1, Γ2, cs, ht => by
    rw [Qff] at ht
    obtain ⟨⟨c, Γ3⟩, h1, ht⟩ := Option.bind_eq_some_iff.1 ht
    obtain ⟨⟨cs', Γ4⟩, h2, ht⟩ := Option.bind_eq_some_iff.1 ht
    cases ht
    have g1 := Qhr d h1
    obtain ⟨g2, g3⟩ := go ds h2
    refine ⟨fun k hk c' hc' => ?_, by simp [g1, g3]⟩
    rcases List.mem_cons.1 hc' with rfl | hc'
    · rw [g1]; exact hk d (by simp)
    · exact g2 k (fun d hd => hk d (by simp [hd])) c' hc'
theorem Qht : ∀ {ds : List D} {Γ1 Γ2 : Hp} {cs : List D}, takesO ds Γ1 = some (cs, Γ2) → cs.length = ds.length
  | [], Γ1, Γ2, cs, ht => by
    rw [Qfg] at ht
    simp only [Option.some.injEq, Prod.mk.injEq] at ht
    rw [← ht.1]
  | d :: ds, Γ1, Γ2, cs, ht => by
    rw [Qff] at ht
    obtain ⟨⟨c, Γ3⟩, h1, ht⟩ := Option.bind_eq_some_iff.1 ht
    obtain ⟨⟨cs', Γ4⟩, h2, ht⟩ := Option.bind_eq_some_iff.1 ht
    cases ht
    simp [Qht h2]
theorem Qxv (m : Tag) (ds : List D) : D.ex.exs (D.retag.retags m ds) = (D.ex.exs ds).map (·.retag m) := by
  rw [Qr, Qr, Qs, List.map_map, List.map_map]
  congr 1
  funext d
  exact Qav m d
theorem Qys {t e : TypeId} {mode nm k n : Nat} {z : U} {parts : Array (Nat × Operand)} {parts' : List (Nat × Opd)} (hrel : Rel ρ S₀ base F fr Γ β B a w) (ho : o.op = .buildSlice t n parts) (ht : tyElem P t = some e) {bytes : Nat} (hz : zeroOK P e k bytes z = true)
    (hn : n ≤ 16777216) (hnk : n * k ≤ 16777216) (hp : partsOK ρ F.wd parts.toList parts' = true)
    (h : (AOp.bslice mode nm k n z parts').step E fr Γ K = some r) (hK : Cont P ρ S₀ base F fr Γ β B a w o K r G) : G := by
  obtain ⟨i, zv, hi, hzv, rfl, rfl, hco⟩ := Qps hz
  have ht := Qbo ht
  simp only [AOp.step] at h
  split at h
  · rename_i h3
    obtain ⟨cs, hcs, hu⟩ := (Qcw (ρ := ρ) (w := w) (S := Stands S₀ w Γ B) hco).cells
    have hlc : cs.length = i.size := by rw [hu.length]; simp [h3]
    have hzc : zv.cells.size = i.size := by rw [hcs]; simp [hlc]
    have hus := Qfm hu n
    have hpl : ∀ (j : Nat) (d : D), ((List.replicate n z).map D.val)[j]? = some d → some (j * i.size, i.size) = some (dsizes (((List.replicate n z).map D.val).take j), d.size) := fun j d hd => by
      obtain ⟨u, hu2, rfl⟩ := Qfj hd
      have hlt : j < n := by have := (List.getElem?_eq_some_iff.1 hu2).1; simpa using this
      have hmem := List.eq_of_mem_replicate (List.mem_of_getElem? hu2)
      rw [← List.map_take, Qcx, Qc9 (k := i.size) (fun u hu => by rw [List.eq_of_mem_replicate (List.mem_of_mem_take hu), h3])]
      rw [hmem]
      simp only [List.length_take, List.length_replicate, D.size, h3]
      rw [Nat.min_eq_left (by omega)]
    have hd0 : DCs ρ w (Stands S₀ w Γ B) β ((List.replicate n z).map D.val) (List.replicate n cs).flatten := DCs.of_vals hus
    rw [← List.map_replicate] at h
    obtain ⟨ds', cs', hf, hds', hF, hlen, hsizes⟩ := Ql2 hrel (fun j => some (j * i.size, i.size)) parts.toList parts' _ _ hp hd0 hpl h
    have hmade : (madeCells zv.cells (n * i.size)) = (List.replicate n cs).flatten.toArray := by
      apply Array.ext'
      rw [← hzc, Qgj, hcs]
    have hul : ds'.length = n := by simpa using hlen
    have hks : ∀ d ∈ ds', d.size = i.size := fun u hu => by
      obtain ⟨j, hj⟩ := List.getElem?_of_mem hu
      obtain ⟨d0, hd1, hd2⟩ := hsizes j u hj
      obtain ⟨u0, hu0, rfl⟩ := Qfj hd1
      rw [List.eq_of_mem_replicate (List.mem_of_getElem? hu0)] at hd2
      simpa [D.size, h3] using hd2
    have hcl : cs'.length = n * i.size := by rw [hds'.length, Qeh hks, hul]
    have hrun : (execOp a.eval o).run P w = .ok (.value (.slice (some ⟨w.heap.size, 0, none⟩) n n)) (w.alloc (.cells cs'.toArray e)) := by
      simp only [execOp, ho]
      refine run_v ?_
      have h16 : ¬ (n * i.size > 16777216) := by omega
      have hfill : Instr.fill (fun j => some (j * i.size, i.size)) (madeCells zv.cells (n * i.size)) (parts.map fun p => (p.1, a.eval p.2)).toList = some cs'.toArray := by
        rw [hmade]; simpa using hf
      by_cases hn0 : n * i.size = 0
      · have hm0 : madeCells zv.cells (n * i.size) = (Array.range (n * i.size)).map ((#[] : Array Value)[· % (#[] : Array Value).size]!) := by
          unfold madeCells; rw [hn0]; simp
        rw [hm0] at hfill
        simp [Instr.buildSlice, run_underlying ht, sizeOf, typeInfo, hi, hn0, newRow] at hfill ⊢
        simp [hfill]
      · unfold madeCells at hfill
        simp at hfill
        simp [Instr.buildSlice, run_underlying ht, sizeOf, typeInfo, hi, h16, hn0, zeroValue, hzv, newRow]
        simp [hfill]
    have hbel : Below w.heap.size w (w.alloc (.cells cs'.toArray e)) := (Below.refl _ _).alloc (Nat.le_refl _) _
    have made : ∀ {Γ1 : Hp} {B1 : Nat → List Nat} {Bx : List Nat} (_ : Parts ρ w (Stands S₀ w Γ B) β Γ B Γ1 B1 Bx) (d : D) (es : List D) (h' : Hdr) (_ : h' [] = some (.slice (some ⟨w.heap.size, 0, none⟩) n n)) (_ : nm < 5000) (_ : es.length = n) (_ : ∀ d ∈ es, d.size = i.size)
        (_ : (d.retag (.purge nm)).ex = .osl i.size (es.map (·.retag (.purge nm)))) (_ : TCs ρ w (Stands S₀ w Γ B) β (elts h' i.size 0 es) cs' Bx), After ρ S₀ base F fr Γ β a w [.purge nm] (.ref nm [] i.size none) (upd (Hp.retag Γ1 (.purge nm)) nm (some ((Cn.vir d).retag (.purge nm)))) (.slice (some ⟨w.heap.size, 0, none⟩) n n) (w.alloc (.cells cs'.toArray e)) := by
      intro Γ1 B1 Bx hp1 d es h' hh hnm hle hke hde tes
      have hlt : ∀ b ∈ Bx, b < w.heap.size := fun b hb => (hrel.owned (hp1.out b hb).1).2
      refine After.made hrel hp1 hnm d (h' := h') (Bn := w.heap.size :: Bx) hbel.os hbel.tape hbel.output hbel.size (fun b hb _ => hbel.block b hb) (fun b hb => ?_) (List.nodup_cons.2 ⟨fun hm => Nat.lt_irrefl _ (hlt _ hm), hp1.nodup⟩) hh rfl fun S' β' hS' hk hm => ?_
      · rcases List.mem_cons.1 hb with rfl | hb
        · exact .inr ⟨Nat.le_refl _, by simp⟩
        · exact .inl hb
      · have t2 := tes.retag hS' hk (fun b hb => hbel.block b (hlt b hb)) hm
        rw [Qdr, Qs] at t2
        have := TCs.osl (ρ := ρ) (w := w.alloc (.cells cs'.toArray e)) (S := S') (β := β') (h := h') (k := i.size) (ds := es.map (·.retag (.purge nm))) (b := w.heap.size) (cap := n) (xs := []) (cs := []) (B := []) (cur := cs'.toArray)
          (by rw [List.length_map, hle]; exact hh) (heap_alloc_new w _) (by simp [hcl]) (by simp [hle]) (by simp only [maxLen]; omega) (fun d hd => by
            obtain ⟨d0, hd0, rfl⟩ := List.mem_map.1 hd
            rw [Qam]
            exact hke d0 hd0) rfl (by
            rw [List.length_map, hle, ← hcl]
            simpa using t2) .nil
        rw [hde]
        simpa [hle] using this
    have vals : ∀ us, allVals ds' = some us → us.length = n ∧ (∀ u ∈ us, u.size = i.size) ∧ URs ρ w (Stands S₀ w Γ B) us cs' := fun us hav => by
      have e := Qdk hav
      refine ⟨by rw [← hul, e, List.length_map], fun u hu => ?_, ?_⟩
      · exact hks (.val u) (by rw [e]; exact List.mem_map_of_mem hu)
      · rw [e] at hds'
        exact hds'.vals_inv
    match mode, hF with
    | 0, hF =>
      obtain ⟨us, hav, hF⟩ := Option.bind_eq_some_iff.1 hF
      obtain ⟨hul2, hks2, hus'⟩ := vals us hav
      have hus2 := hus'.mono (w' := w.alloc (.cells cs'.toArray e)) (fun _ h => h) (fun b o v hb hv => (hbel.cell (p := ⟨b, o, none⟩) hb.1).trans hv)
      refine hK.vnew _ _ _ hF hrun hbel (Ql ⟨[_], ?_, rfl⟩)
      by_cases hne : us = []
      · subst hne
        have : n = 0 := by simpa using hul2.symm
        subst this
        exact .sl0 _ _ _ .nil
      · rw [← hul2]
        refine .sl1 i.size w.heap.size 0 us.length hne ⟨by simp, fun R hR hm => by have := (hrel.inside R hR _ hm).2; omega, hrel.fresh _ (hrel.low _ (Nat.le_refl _))⟩ (Nat.le_refl _) (by simp only [maxLen]; omega) hks2 (Qie w cs' e) (hus2.mono (fun b hb => ⟨by have := hb.1; simp; omega, hb.2, hb.3⟩) (fun _ _ _ _ h => h)) .nil
    | 1, hF =>
      obtain ⟨us, hav, hF⟩ := Option.bind_eq_some_iff.1 hF
      obtain ⟨hul2, hks2, hus'⟩ := vals us hav
      obtain ⟨hnm, hr⟩ := Qy hF
      refine hK.val _ _ _ _ _ hr hrun (made hrel.parts (.asl i.size us) (us.map .val) (mkE _ []) rfl hnm (by simp [hul2]) (fun d hd => ?_) ?_ (Qds _ _ _ hus'))
      · obtain ⟨u, hu, rfl⟩ := List.mem_map.1 hd
        exact hks2 u hu
      · simp [D.retag, D.ex]
    | 2, hF =>
      simp only [Qcp, Qdg] at hF
      obtain ⟨⟨ds2, Γ1⟩, htk, hF⟩ := Option.bind_eq_some_iff.1 hF
      obtain ⟨us, how, hF⟩ := Option.bind_eq_some_iff.1 hF
      obtain ⟨hnm, hr⟩ := Qy hF
      obtain ⟨hs, B2, Bc, hp1, hl1, t1, _⟩ := Parts.take.go ds' htk hds' hrel.parts
      rw [List.nil_append] at hp1
      have hl2 := Qht htk
      obtain ⟨_, _, g5, g6, g7⟩ := Qak.go (ρ := ρ) (w := w) (S := Stands S₀ w Γ B) (β := β) ds2 us how
      rw [← Qfz (.slice (some ⟨w.heap.size, 0, none⟩) n n) i.size hs (ds2.map D.ex) hs 0 (by simp [hl1]) (fun j => by rw [Nat.zero_add]), ← Qr] at t1
      have t2 := g5 _ _ _ _ _ t1
      refine hK.val _ _ _ _ _ hr hrun (made hp1 (.own (.sl i.size us)) (U.ex.exs us) (mkE _ hs) rfl hnm (by rw [Qi, List.length_map, g6, hl2, hul]) (g7 _ fun d hd => ?_) ?_ t2)
      · rw [Qr] at hd
        obtain ⟨d0, hd0, rfl⟩ := List.mem_map.1 hd
        rw [Qz]
        exact (Qhr.go ds' htk).1 _ hks d0 hd0
      · simp only [D.retag, D.ex, U.ex]
        rw [← Qs, Qcu]
    | m + 3, hF =>
      simp only [Qcp] at hF
      obtain ⟨⟨ds2, Γ1⟩, htk, hF⟩ := Option.bind_eq_some_iff.1 hF
      obtain ⟨hnm, hr⟩ := Qy hF
      obtain ⟨hs, B2, Bc, hp1, hl1, t1, _⟩ := Parts.take.go ds' htk hds' hrel.parts
      rw [List.nil_append] at hp1
      have hl2 := Qht htk
      rw [← Qfz (.slice (some ⟨w.heap.size, 0, none⟩) n n) i.size hs (ds2.map D.ex) hs 0 (by simp [hl1]) (fun j => by rw [Nat.zero_add]), ← Qr] at t1
      refine hK.val _ _ _ _ _ hr hrun (made hp1 (.osl i.size ds2) (D.ex.exs ds2) (mkE _ hs) rfl hnm (by rw [Qr, List.length_map, hl2, hul]) (fun d hd => ?_) ?_ t1)
      · rw [Qr] at hd
        obtain ⟨d0, hd0, rfl⟩ := List.mem_map.1 hd
        rw [Qz]
        exact (Qhr.go ds' htk).1 _ hks d0 hd0
      · simp only [D.retag, D.ex]
        rw [Qxv]
  · cases h
theorem Qx5 {t e : TypeId} {k : Nat} (ht : tyElem P t = some e) (hk : tySize P e = some k) (ad : Option Addr) (len cap : Nat) (w : World) :
    (Instr.sliceAt t (.slice ad len cap) none (some (.int .i64 0)) (some (.int .i64 0))).run P w = .ok (.slice ad 0 0) w := by
  have hu := Qbo ht
  have hz := Qa7 (w := w) hk
  simp [Instr.sliceAt, Instr.slice, Instr.sliceBounds, run_underlying hu, hz, Instr.sliceBound, asIntOf]
theorem Qzo {t e : TypeId} {x hi mx : Operand} {nm k : Nat} {x' : Opd} (hrel : Rel ρ S₀ base F fr Γ β B a w) (ho : o.op = .slice t x none (some hi) (some mx)) (ht : tyElem P t = some e) (hk : tySize P e = some k)
    (hx : opdOK ρ F.wd x x' = true) (hhi : opdOK ρ F.wd hi (.c (.int .i64 0)) = true) (hmx : opdOK ρ F.wd mx (.c (.int .i64 0)) = true)
    (h : (AOp.slice0 nm k x').step E fr Γ K = some r) (hK : Cont P ρ S₀ base F fr Γ β B a w o K r G) : G := by
  have hv := hrel.opd hx
  have e1 := Qbc (hrel.opd hhi)
  have e2 := Qbc (hrel.opd hmx)
  have fin : ∀ ad len cap, a.eval x = .slice ad len cap → mkVar Γ nm (.vir (.own (.sl k []))) (.ref nm [] k none) K = some r → G := fun ad len cap hs h => by
    obtain ⟨hnm, hr⟩ := Qy h
    refine hK.val _ _ _ (.slice ad 0 0) w hr ?_ (After.made hrel hrel.parts hnm (.own (.sl k [])) (h' := mkE (.slice ad 0 0) []) (Bn := []) rfl rfl rfl (Nat.le_refl _) (fun _ _ _ => rfl) (by simp) List.nodup_nil rfl rfl fun S' β' _ _ _ => .osl0 rfl .nil)
    simp only [execOp, ho, hs, Option.map_some, Option.map_none, e1, e2]
    exact run_v (Qx5 ht hk ad len cap w)
  simp only [AOp.step] at h
  cases hes : x'.ev fr with
  | val u =>
    rw [hes] at h hv
    obtain ⟨us, hus, h8⟩ := Option.bind_eq_some_iff.1 h
    clear h
    cases u with
    | sl k' us =>
      rcases VD_sl hv with ⟨_, ad, cap, e1⟩ | ⟨b, off, cap, c1, _, e1, _⟩
      · exact fin _ _ _ e1 h8
      · exact fin _ _ _ e1 h8
    | nsl k' => exact fin _ _ _ (Qar hv) h8
    | _ => cases hus
  | ref R p k' part =>
    rw [hes] at h hv
    cases part with
    | some om => cases h
    | none =>
      simp only [at_eq, Qa8] at h
      obtain ⟨d, hat, h⟩ := Option.bind_eq_some_iff.1 h
      obtain ⟨n, hn, h⟩ := Option.bind_eq_some_iff.1 h
      split at h
      rotate_left
      · cases h
      rename_i hkk
      subst hkk
      obtain ⟨v0, hβ, hsub⟩ := Qaz hv
      obtain ⟨ad, cap, e4, _⟩ := hrel.at_ref hβ hat hn
      exact fin ad n cap (by rw [hsub.1, e4]) h
  | _ => rw [hes] at h; cases h
end
end Go.Proofs.Ytboenehajoaahaa.Am
