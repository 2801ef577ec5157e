import Derived.Deep.Slices
import Derived.Carry
import Derived.ChangeShapes
import Derived.SizedLaws
import Derived.RowKit
import Derived.ChangeCalls
import Derived.Test.YtboenehajoaahaaAmW
import Derived.Test.YtboenehajoaahaaAmX
namespace Go.Proofs.Ytboenehajoaahaa.Am
open Go
inductive Sh where
  | int (k : IntKind)
  | bool
  | str
  | sl (k : Nat) (s : Sh)
  | agg (ss : List Sh)
  deriving Inhabited
def Sh.size : Sh → Nat
  | .agg ss => sizes ss
  | _ => 1
where sizes : List Sh → Nat
  | [] => 0
  | s :: ss => s.size + sizes ss
def Fits : Sh → U → Prop
  | .int k, .int k' n => k' = k ∧ k.min ≤ n ∧ n ≤ k.max
  | .bool, .bool _ => True
  | .str, .str s => s.size ≤ maxLen
  | .sl k s, .sl k' us => k' = k ∧ us.length ≤ maxLen ∧ ∀ u ∈ us, Fits s u
  | .agg ss, .agg us => fits ss us
  | _, _ => False
where fits : List Sh → List U → Prop
  | [], [] => True
  | s :: ss, u :: us => Fits s u ∧ fits ss us
  | _, _ => False
def shOK (P : Program) : Nat → TypeId → Sh → Bool
  | 0, _, _ => false
  | n + 1, t, s => match P.underlying t, s with
    | some (.int k), .int k' => k == k' && P.cellsOf t == 1
    | some .bool, .bool => P.cellsOf t == 1
    | some .string, .str => P.cellsOf t == 1
    | some (.slice e), .sl k s => P.cellsOf t == 1 && P.cellsOf e == k && decide (0 < k) && Sh.size s == k && shOK P n e s
    | some (.struct fs), .agg ss => P.cellsOf t == Sh.size.sizes ss && shs P (shOK P n) 0 fs.toList ss
    | _, _ => false
where shs (P : Program) (f : TypeId → Sh → Bool) : Nat → List Field → List Sh → Bool
  | _, [], [] => true
  | o, fd :: fs, s :: ss => fd.offset == o && P.cellsOf fd.type == Sh.size s && f fd.type s && shs P f (o + Sh.size s) fs ss
  | _, _, _ => false
theorem Ql4 : ∀ {s : Sh} {u : U}, Fits s u → u.size = s.size
  | .int k, .int k' n, _ => rfl
  | .bool, .bool _, _ => rfl
  | .str, .str _, _ => rfl
  | .sl k s, .sl k' us, _ => rfl
  | .agg ss, .agg us, h => go h
  | .int _, .bool _, h | .int _, .str _, h | .int _, .nil, h | .int _, .agg _, h | .int _, .sl _ _, h | .int _, .nsl _, h | .int _, .vp _, h | .int _, .fn _ _, h | .int _, .tup _, h => by simp [Fits] at h
  | .bool, .int _ _, h | .bool, .str _, h | .bool, .nil, h | .bool, .agg _, h | .bool, .sl _ _, h | .bool, .nsl _, h | .bool, .vp _, h | .bool, .fn _ _, h | .bool, .tup _, h => by simp [Fits] at h
  | .str, .int _ _, h | .str, .bool _, h | .str, .nil, h | .str, .agg _, h | .str, .sl _ _, h | .str, .nsl _, h | .str, .vp _, h | .str, .fn _ _, h | .str, .tup _, h => by simp [Fits] at h
  | .sl _ _, .int _ _, h | .sl _ _, .bool _, h | .sl _ _, .str _, h | .sl _ _, .nil, h | .sl _ _, .agg _, h | .sl _ _, .nsl _, h | .sl _ _, .vp _, h | .sl _ _, .fn _ _, h | .sl _ _, .tup _, h => by simp [Fits] at h
  | .int _, .raw _, h | .bool, .raw _, h | .str, .raw _, h | .sl _ _, .raw _, h | .agg _, .raw _, h => by simp [Fits] at h
  | .agg _, .int _ _, h | .agg _, .bool _, h | .agg _, .str _, h | .agg _, .nil, h | .agg _, .sl _ _, h | .agg _, .nsl _, h | .agg _, .vp _, h | .agg _, .fn _ _, h | .agg _, .tup _, h => by simp [Fits] at h
where go : ∀ {ss : List Sh} {us : List U}, Fits.fits ss us → sizes us = Sh.size.sizes ss
  | [], [], _ => rfl
  | s :: ss, u :: us, h => by
    obtain ⟨h1, h2⟩ := h
    rw [Qaq, Ql4 h1, go h2]; rfl
  | [], _ :: _, h => h.elim
  | _ :: _, [], h => h.elim
section
variable {H : Type} {enc : TypeId × Value → H} {P : Program} {ρ : Nat → FuncId} {w : World} {base : Nat} {sp : Nat → Bool} {held : Bool}
def Here (w : World) (b : Nat) : Prop := b < w.heap.size
theorem Qaaf {t : TypeId} {fuel : Nat} {cs : List Value} {x : DataW H × List MemPlace} (ht : P.underlying t = some .bool) (h : DataW.trod enc P w base sp held fuel t cs = some x) : ∃ b, cs = [.bool b] := by
  cases fuel with
  | zero => simp [DataW.trod] at h
  | succ n =>
    unfold DataW.trod at h
    rw [ht] at h
    split at h <;> simp_all
theorem Qw4 {k : Nat} {s : Sh} {a : Addr} {len : Nat}
    (hel : ∀ i, i < len → ∃ u cs, Fits s u ∧ URs ρ w (Here w) [u] cs ∧ w.cells? base (a.add (i * k)) k = some cs) : ∀ m, m ≤ len →
    ∃ us c1, us.length = m ∧ (∀ u ∈ us, Fits s u) ∧ URs ρ w (Here w) us c1 ∧ c1.length = m * k ∧ ∀ j v, c1[j]? = some v → w.cell? (a.add j) = some v := by
  intro m
  induction m with
  | zero => exact fun _ => ⟨[], [], rfl, by simp, .nil, by simp, by simp⟩
  | succ m ih =>
    intro hm
    obtain ⟨us, c1, h1, h2, h3, h4, h5⟩ := ih (by omega)
    obtain ⟨u, cs, hu, hr, hc⟩ := hel m (by omega)
    obtain ⟨_, hl, hcell⟩ := World.cells?_some hc
    refine ⟨us ++ [u], c1 ++ cs, by simp [h1], ?_, h3.append hr, by simp [h4, hl, Nat.succ_mul], fun j v hv => ?_⟩
    · intro v hv
      rcases List.mem_append.1 hv with hv | hv
      · exact h2 v hv
      · rw [List.mem_singleton.1 hv]; exact hu
    · by_cases hj : j < c1.length
      · exact h5 j v (by rw [List.getElem?_append_left hj] at hv; exact hv)
      · rw [List.getElem?_append_right (by omega)] at hv
        have hlt : j - c1.length < k := by rw [← hl]; exact (List.getElem?_eq_some_iff.1 hv).1
        have := hcell (j - c1.length) hlt
        rw [hv, Deep.add_add] at this
        rw [← this]
        congr 2
        omega
theorem Qzw {a : Addr} {v : Value} (h : w.cell? a = some v) : a.spot = none ∧ a.block < w.heap.size := by
  unfold World.cell? at h
  split at h
  · rename_i c t f hb
    split at h
    · cases h
    · rename_i hs
      refine ⟨by simpa using hs, ?_⟩
      have := (Array.getElem?_eq_some_iff.1 hb).1
      exact this
  · cases h
theorem Qgn : ∀ (n : Nat) (t : TypeId) (s : Sh) (fuel : Nat) (cs : List Value) (x : DataW H × List MemPlace), shOK P n t s = true → DataW.trod enc P w base sp held fuel t cs = some x →
    ∃ u, Fits s u ∧ URs ρ w (Here w) [u] cs
  | 0, _, _, _, _, _, hs, _ => by cases hs
  | n + 1, t, s, fuel, cs, x, hs, h => by
    simp only [shOK] at hs
    split at hs
    · rename_i k k' ht
      simp only [Bool.and_eq_true, beq_iff_eq] at hs
      obtain ⟨rfl, _⟩ := hs
      obtain ⟨m, rfl, rfl, hwf⟩ := DataW.trod_int ht h
      simp only [Lit.wf, Bool.and_eq_true, decide_eq_true_eq] at hwf
      exact ⟨.int k m, ⟨rfl, hwf.1, hwf.2⟩, .int k m .nil⟩
    · rename_i ht
      obtain ⟨b, rfl⟩ := Qaaf ht h
      exact ⟨.bool b, trivial, .bool b .nil⟩
    · rename_i ht
      obtain ⟨b, rfl, rfl, hb⟩ := DataW.trod_string ht h
      exact ⟨.str b, hb, .str b .nil⟩
    · rename_i e k s' ht
      simp only [Bool.and_eq_true, beq_iff_eq, decide_eq_true_eq] at hs
      obtain ⟨⟨⟨⟨_, he⟩, hk⟩, hsz⟩, hs⟩ := hs
      rcases DataW.trod_slice ht h with ⟨rfl, rfl⟩ | ⟨a, len, cap, elems, rest, m, rfl, rfl, rfl, hb, hl, hm, hlen, hel, _, _⟩
      · exact ⟨.sl k [], ⟨rfl, by simp, by simp⟩, .sl0 k none 0 .nil⟩
      · by_cases h0 : len = 0
        · subst h0
          exact ⟨.sl k [], ⟨rfl, by simp, by simp⟩, .sl0 k (some a) cap .nil⟩
        · rw [he] at hel
          have hel' : ∀ i, i < len → ∃ u cs, Fits s' u ∧ URs ρ w (Here w) [u] cs ∧ w.cells? base (a.add (i * k)) k = some cs := fun i hi => by
            have h1 := hel i hi
            rw [List.getElem?_eq_getElem (by omega)] at h1
            obtain ⟨cs', h2, h3⟩ := Option.bind_eq_some_iff.1 h1
            obtain ⟨u, hu, hr⟩ := Qgn n e s' m cs' _ hs h3
            exact ⟨u, cs', hu, hr, h2⟩
          obtain ⟨us, c1, h1, h2, h3, h4, h5⟩ := Qw4 hel' len (Nat.le_refl _)
          have hne : us ≠ [] := by rintro rfl; exact h0 h1.symm
          have hpos : 0 < c1.length := by rw [h4]; exact Nat.mul_pos (by omega) hk
          obtain ⟨hsp, hbl⟩ := Qzw (h5 0 c1[0] (List.getElem?_eq_getElem hpos))
          have hadd0 : a.add 0 = a := by unfold Addr.add; simp
          rw [hadd0] at hsp hbl
          obtain ⟨b, off, spot⟩ := a
          simp only at hsp hbl
          subst hsp
          refine ⟨.sl k us, ⟨rfl, by omega, h2⟩, ?_⟩
          have hr : w.rangeAt b off c1 := fun j v hv => by
            have := h5 j v hv
            rwa [Addr.add_mid] at this
          rw [← h1]
          exact .sl1 k b off cap hne hbl (by omega) hm (fun u hu => by rw [Ql4 (h2 u hu), hsz]) hr h3 .nil
    · rename_i fs ss ht
      simp only [Bool.and_eq_true, beq_iff_eq] at hs
      obtain ⟨hsz, hs⟩ := hs
      obtain ⟨xs, m, rfl, rfl, hl, hxl, hx⟩ := DataW.trod_struct ht h
      have key : ∀ (fds : List Field) (ss : List Sh) (o : Nat), shOK.shs P (shOK P n) o fds ss = true → (∀ fd ∈ fds, ∃ y, DataW.trod enc P w base sp held m fd.type ((cs.drop fd.offset).take (P.cellsOf fd.type)) = some y) →
          cs.length = o + Sh.size.sizes ss → ∃ us, Fits.fits ss us ∧ URs ρ w (Here w) us (cs.drop o) := by
        intro fds
        induction fds with
        | nil =>
          intro ss o hss _ hlen
          cases ss with
          | nil => exact ⟨[], trivial, by rw [List.drop_eq_nil_of_le (by simp [Sh.size.sizes] at hlen; omega)]; exact .nil⟩
          | cons _ _ => cases hss
        | cons fd fds ih =>
          intro ss o hss hall hlen
          cases ss with
          | nil => cases hss
          | cons s ss =>
            simp only [shOK.shs, Bool.and_eq_true, beq_iff_eq] at hss
            obtain ⟨⟨⟨ho, hc⟩, hf⟩, hss⟩ := hss
            obtain ⟨y, hy⟩ := hall fd (by simp)
            obtain ⟨u, hu, hr⟩ := Qgn n fd.type s m _ y hf hy
            simp only [Sh.size.sizes] at hlen
            obtain ⟨us, hus, hrs⟩ := ih ss (o + s.size) hss (fun fd hfd => hall fd (by simp [hfd])) (by omega)
            refine ⟨u :: us, ⟨hu, hus⟩, ?_⟩
            have e : cs.drop o = (cs.drop fd.offset).take (P.cellsOf fd.type) ++ cs.drop (o + s.size) := by
              rw [ho, hc, ← List.drop_drop]
              exact (List.take_append_drop _ _).symm
            rw [e]
            exact hr.append hrs
      obtain ⟨us, hus, hrs⟩ := key fs.toList ss 0 hs (fun fd hfd => by
        obtain ⟨i, hi, rfl⟩ := List.getElem_of_mem hfd
        have := hx i fs.toList[i] (by simp)
        rw [this]
        have hi' : i < xs.length := by rw [hxl]; simpa using hi
        exact ⟨_, List.getElem?_eq_getElem hi'⟩) (by rw [hl, hsz]; omega)
      exact ⟨.agg us, hus, URs.of_agg (by simpa using hrs)⟩
    · cases hs
theorem Qw3 {n : Nat} {t : TypeId} {s : Sh} {v : Value} {d : DataW H} {p : List MemPlace} {b0 : Nat} {r : Go.Reach} (hs : shOK P n t s = true) (hval : Value.okWide P w r b0 t v) (h : DataW.Trod enc P w base sp held t v d p) :
    ∃ u, Fits s u ∧ UV ρ w (Here w) u v := by
  obtain ⟨fuel, h⟩ := h
  obtain ⟨u, hu, hr⟩ := Qgn (ρ := ρ) n t s fuel _ _ hs h
  refine ⟨u, hu, _, hr, ?_⟩
  have flat : (∀ cs, v ≠ .agg cs) → (D.val u).isAgg = false → (if (D.val u).isAgg then v = .agg v.cells.toList.toArray else v.cells.toList = [v]) := fun h1 h2 => by
    rw [h2]
    cases v <;> first | rfl | exact absurd rfl (h1 _)
  cases n with
  | zero => cases hs
  | succ n =>
    simp only [shOK] at hs
    split at hs
    · rename_i k k' ht
      refine flat (fun cs e => ?_) (by cases u <;> first | rfl | exact hu.elim)
      subst e
      simp [Value.okWide, ht, Cell.okWide, Cell.ok] at hval
    · rename_i ht
      refine flat (fun cs e => ?_) (by cases u <;> first | rfl | exact hu.elim)
      subst e
      simp [Value.okWide, ht, Cell.okWide, Cell.ok] at hval
    · rename_i ht
      refine flat (fun cs e => ?_) (by cases u <;> first | rfl | exact hu.elim)
      subst e
      simp [Value.okWide, ht, Cell.okWide, Cell.ok] at hval
    · rename_i e k s' ht
      refine flat (fun cs e => ?_) (by cases u <;> first | rfl | exact hu.elim)
      subst e
      simp [Value.okWide, ht, Cell.okWide, Cell.ok] at hval
    · rename_i fs ss ht
      simp only [Value.okWide, ht] at hval
      obtain ⟨cs, rfl, _⟩ := hval
      cases u <;> first | exact hu.elim | skip
      simp [D.isAgg, Value.cells]
    · cases hs
theorem Qm8 {n : Nat} {b0 : Nat} {r : Go.Reach} : ∀ {ts : List TypeId} {ss : List Sh} {vs : List Value} {ds : List (DataW H)} {p : List MemPlace}, ts.length = ss.length → (∀ (j : Nat) t s, ts[j]? = some t → ss[j]? = some s → shOK P n t s = true) →
    (∀ (j : Nat) t v, ts[j]? = some t → vs[j]? = some v → Value.okWide P w r b0 t v) → DataW.TrodAll enc P w base sp held ts vs ds p → ∃ us, Fits.fits ss us ∧ Args ρ w (Here w) us vs
  | [], [], [], ds, p, _, _, _, h => ⟨[], trivial, trivial⟩
  | [], [], _ :: _, ds, p, _, _, _, h => by cases ds <;> exact h.elim
  | t :: ts, s :: ss, [], ds, p, _, _, _, h => by cases ds <;> exact h.elim
  | t :: ts, s :: ss, v :: vs, [], p, _, _, _, h => h.elim
  | t :: ts, s :: ss, v :: vs, d :: ds, p, hl, hs, hv, h => by
    obtain ⟨p1, p2, h1, h2, rfl⟩ := h
    obtain ⟨u, hu, huv⟩ := Qw3 (ρ := ρ) (hs 0 t s rfl rfl) (hv 0 t v rfl rfl) h1
    obtain ⟨us, hus, ha⟩ := Qm8 (by simpa using hl) (fun j t s h1 h2 => hs (j + 1) t s h1 h2) (fun j t v h1 h2 => hv (j + 1) t v h1 h2) h2
    exact ⟨u :: us, ⟨hu, hus⟩, fun β => Ql huv, ha⟩
  | [], _ :: _, _, _, _, hl, _, _, _ => by cases hl
  | _ :: _, [], _, _, _, hl, _, _, _ => by cases hl
open Go.RowKit Go.ChangeShapes
theorem Qig (hl : laidOutB P = true) {W W' : World} (hb : Below W.heap.size W W') : ∀ {ts : List TypeId} {vs : List Value} {ds : List (DataW H)} {p : List MemPlace}, (ts.all fun t => P.readableRec t && decide (t < P.types.size)) = true →
    DataW.TrodAll enc P W 0 (fun _ => true) true ts vs ds p → (∀ x ∈ p, x.block < W.heap.size) → DataW.TrodAll enc P W' 0 (fun b => decide (b < W.heap.size)) true ts vs ds p
  | [], [], [], _, _, h, _ => h
  | t :: ts, v :: vs, d :: ds, p, ht, ⟨p1, p2, h1, h2, e⟩, hlt => by
    simp only [List.all_cons, Bool.and_eq_true, decide_eq_true_eq] at ht
    subst e
    exact ⟨p1, p2, Go.RowKit.Below.trod hl ht.1.1 ht.1.2 h1 hb.toBelow (fun x hx => hlt x (List.mem_append_left _ hx)), Qig hl hb ht.2 h2 (fun x hx => hlt x (List.mem_append_right _ hx)), rfl⟩
def shAll (P : Program) (n : Nat) : List TypeId → List Sh → Bool
  | [], [] => true
  | t :: ts, s :: ss => shOK P n t s && shAll P n ts ss
  | _, _ => false
theorem Qoj {n : Nat} : ∀ {ts : List TypeId} {ss : List Sh}, shAll P n ts ss = true → ∀ (j : Nat) t s, ts[j]? = some t → ss[j]? = some s → shOK P n t s = true
  | [], _, _, j, t, s, h1, _ => by simp at h1
  | _ :: _, [], h, _, _, _, _, _ => by cases h
  | t :: ts, s :: ss, h, j, t', s', h1, h2 => by
    simp only [shAll, Bool.and_eq_true] at h
    cases j with
    | zero =>
      simp only [List.getElem?_cons_zero, Option.some.injEq] at h1 h2
      subst h1; subst h2
      exact h.1
    | succ j => exact Qoj h.2 j t' s' h1 h2
theorem Qwf {E : Env} {s : ChangeSpec} {fn : Func} {f : FuncId} {q n : Nat} (hq : q < 100000) {tb : TypeId} {ss : List Sh} (hρ : ρ q = f) (hg : Good P ρ E) (hE : ∀ us, Fits.fits ss us → E q us = some (.bool true))
    (hl : laidOutB P = true) (hread : (fn.params.toList.all fun t => P.readableRec t && decide (t < P.types.size)) = true) (hlen : fn.params.toList.length = ss.length)
    (hss : ∀ (j : Nat) t s, fn.params.toList[j]? = some t → ss[j]? = some s → shOK P n t s = true) (hvars : s.vars = []) (hres : fn.resultTypes = #[tb]) (hb : P.underlying tb = some .bool)
    (hfn : ∀ ds : List (DataW H), ds.length = ss.length → (s.fn H ds).results = [.lit (.bool true)] ∧ (s.fn H ds).args = ds ∧ (s.fn H ds).vars = [])
    (W : World) (base : Nat) (args : Array Value) (ds gs : List (DataW H)) (before : List MemPlace) (hval : ∀ (j : Nat) t v, fn.params[j]? = some t → args[j]? = some v → Value.okWide P W .any base t v)
    (hW : DataW.Whole enc P fn.params.toList s.vars false W args.toList ds gs before) :
    Calls P f args W fun e W' => ∃ v, e = .returned v ∧ s.post enc P fn false true false false W args v W' := by
  have hW' := hW
  obtain ⟨p, p2, hA, hV, rfl, hfz, hnd⟩ := hW
  rw [hvars] at hV
  obtain ⟨rfl, rfl⟩ := trodVars_none hV
  obtain ⟨us, hus, ha⟩ := Qm8 (ρ := ρ) (b0 := base) (r := .any) hlen hss (fun j t v h1 h2 => hval j t v (by simpa using h1) (by simpa using h2)) hA
  obtain ⟨_, hc⟩ := hg q us _ (hE us hus)
  have hc := (Qdp.1 hc).1 (Nat.div_eq_of_lt hq)
  have hc := hc W (Here W) args.toList (fun _ h => h) ha
  rw [hρ, Array.toArray_toList] at hc
  refine hc.mono fun e W' ⟨v, he, bel, hv⟩ => ?_
  have hv := Qb4 (hv fun _ => ⟨.dead, noHdr⟩)
  subst hv
  have hdl := (Go.trodAll_length hA).2
  obtain ⟨h1, h2, h3⟩ := hfn ds (by rw [hdl, hlen])
  refine ⟨_, he, ds, [], p ++ [], [], p, [], hW', ?_, ?_, ?_, bel.frame _, fun h => by cases h⟩
  · rw [hres, List.append_nil, h1]
    exact trodAll_mk1 (shut_bool hb _)
  · rw [List.append_nil, h2]
    exact Qig hl bel hread hA (fun x hx => hA.lt x hx)
  · rw [List.append_nil, h3, hvars]
    exact rfl
end
end Go.Proofs.Ytboenehajoaahaa.Am
