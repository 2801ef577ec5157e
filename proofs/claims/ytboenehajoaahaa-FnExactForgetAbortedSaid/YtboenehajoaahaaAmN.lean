import Derived.Maps.AppendAt
import Derived.Test.YtboenehajoaahaaAmM
namespace Go.Proofs.Ytboenehajoaahaa.Am
open Go Go.RowKit
section
variable {ρ : Nat → FuncId} {w w' : World} {S S' : Nat → Prop} {β β' : Nat → Lay} {S₀ : Nat → Prop} {Γ : Hp} {B : Nat → List Nat} {base : Nat → Prop} {F : Fm} {fr : Frm} {a : Act}
theorem UV.mono {u : U} {v : Value} (h : UV ρ w S u v) (hS : ∀ b, S b → S' b) (hc : ∀ b o v, S b → w.cell? ⟨b, o, none⟩ = some v → w'.cell? ⟨b, o, none⟩ = some v) : UV ρ w' S' u v :=
  let ⟨cs, h1, h2⟩ := h
  ⟨cs, h1.mono hS hc, h2⟩
theorem Qh8 (hS : ∀ b, S b → S' b) (hc : ∀ b o v, S b → w.cell? ⟨b, o, none⟩ = some v → w'.cell? ⟨b, o, none⟩ = some v) : ∀ {us : List U} {vs : List Value}, V1s ρ w S β (us.map .val) vs → V1s ρ w' S' β' (us.map .val) vs
  | [], _, h => h
  | u :: us, vs, h => by
    obtain ⟨v, vs', rfl, h1, h2⟩ := h
    exact ⟨v, vs', rfl, (h1.uv.mono hS hc).v1, Qh8 hS hc h2⟩
theorem VD.val_mono {u : U} {v : Value} (h : VD ρ w S β (.val u) v) (hS : ∀ b, S b → S' b) (hc : ∀ b o v, S b → w.cell? ⟨b, o, none⟩ = some v → w'.cell? ⟨b, o, none⟩ = some v) : VD ρ w' S' β' (.val u) v := by
  by_cases ht : ∃ us, u = .tup us
  · obtain ⟨us, rfl⟩ := ht
    obtain ⟨vs, e, h1⟩ := h
    exact ⟨vs, e, Qh8 hS hc h1⟩
  · exact Ql ((h.uv (fun us e => ht ⟨us, e⟩)).mono hS hc)
theorem Qyj {n : Nat} {d : D} {u : U} (h : snap Γ n d = some u) : (D.val u).isAgg = d.isAgg := by
  cases d with
  | val u' => rw [Qb0] at h; cases h; rfl
  | own u' => rw [Qdc] at h; cases h; cases u <;> rfl
  | asl k us => rw [Qdb] at h; cases h; rfl
  | agg ds =>
    cases n with
    | zero => cases h
    | succ n => simp only [snap, Option.map_eq_some_iff] at h; obtain ⟨us, _, rfl⟩ := h; rfl
  | osl k ds =>
    cases n with
    | zero => cases h
    | succ n => simp only [snap, Option.map_eq_some_iff] at h; obtain ⟨us, _, rfl⟩ := h; rfl
  | fnv q ds =>
    cases n with
    | zero => cases h
    | succ n => simp only [snap, Option.map_eq_some_iff] at h; obtain ⟨us, _, rfl⟩ := h; rfl
  | ptr R p =>
    cases n with
    | zero => cases h
    | succ n =>
      simp only [snap, at_eq, Option.bind_eq_some_iff, Option.map_eq_some_iff] at h
      obtain ⟨d, hd, u, hu, rfl⟩ := h
      rfl
  | ref R p k part =>
    cases n with
    | zero => cases h
    | succ n =>
      have key : ∀ (d : D) (u : U) (n : Nat), (∃ ds, d.ex = .osl k ds) → snap Γ n d = some u → (D.val u).isAgg = false := by
        intro d u n ⟨ds, hex⟩ hs
        cases d with
        | own u' => rw [Qdc] at hs; cases hs; cases u <;> first | rfl | (simp [D.ex, U.ex] at hex)
        | asl k us => rw [Qdb] at hs; cases hs; rfl
        | osl k ds =>
          cases n with
          | zero => cases hs
          | succ n => simp only [snap, Option.map_eq_some_iff] at hs; obtain ⟨us, _, rfl⟩ := hs; rfl
        | _ => simp [D.ex] at hex
      cases part with
      | none =>
        simp only [snap, at_eq, Option.bind_eq_some_iff] at h
        obtain ⟨d, hd, h⟩ := h
        obtain ⟨h1, h2⟩ := Qa4 h
        exact key d u n h2 h1
      | some om =>
        obtain ⟨off, m⟩ := om
        simp only [snap, at_eq, Option.bind_eq_some_iff] at h
        obtain ⟨d, hd, h⟩ := h
        obtain ⟨h1, h2⟩ := Qa4 h
        obtain ⟨u2, h3, h4⟩ := Option.bind_eq_some_iff.1 h1
        cases u2 with
        | sl k us =>
          simp only at h4
          split at h4
          · cases h4; rfl
          · cases h4
        | _ => cases h4
  | _ => cases n <;> cases h
theorem Qhd {SS S' : Nat → Prop} (hroots : ∀ R c, Γ R = some c → (β R).live → RootOK ρ w SS β c (β R) (B R)) (hin : ∀ R, (Γ R).isSome = true → ∀ b ∈ B R, S' b) (hst : ∀ b, SS b → S' b) {n : Nat} {d : D} {v : Value} {u : U} (h : VD ρ w SS β d v) (hs : snap Γ n d = some u) : VD ρ w S' β' (.val u) v := by
  have main : V1 ρ w SS β d v → d ≠ .undef → VD ρ w S' β' (.val u) v := by
    intro h1 hne
    rcases h1 with h1 | ⟨cs, h1, h2⟩
    · exact absurd h1 hne
    · refine Ql ⟨cs, (Qon hroots hin hst n).1 d cs u h1 hs, ?_⟩
      rw [Qyj hs]
      exact h2
  have nos : ∀ (d : D), (∃ u, d = .own u) ∨ (∃ k us, d = .asl k us) ∨ (∃ k ds, d = .osl k ds) ∨ (∃ n, d = .junk n) → ¬ VD ρ w SS β d v := fun d h t => by
    rcases h with ⟨u, rfl⟩ | ⟨k, us, rfl⟩ | ⟨k, ds, rfl⟩ | ⟨n, rfl⟩ <;> (rcases t with t | ⟨cs, t, _⟩ <;> cases t)
  cases d with
  | val u' =>
    rw [Qb0] at hs
    cases hs
    exact h.val_mono hst (fun _ _ _ _ h => h)
  | own u' => exact absurd h (nos _ (.inl ⟨_, rfl⟩))
  | asl k us => exact absurd h (nos _ (.inr (.inl ⟨_, _, rfl⟩)))
  | osl k ds => exact absurd h (nos _ (.inr (.inr (.inl ⟨_, _, rfl⟩))))
  | junk m => exact absurd h (nos _ (.inr (.inr (.inr ⟨_, rfl⟩))))
  | tup ds => cases n <;> cases hs
  | skip => cases n <;> cases hs
  | undef => cases n <;> cases hs
  | agg ds => exact main h (fun e => by cases e)
  | ref R p k part => exact main h (fun e => by cases e)
  | ptr R p => exact main h (fun e => by cases e)
  | fnv q ds => exact main h (fun e => by cases e)
theorem Rel.snap (hrel : Rel ρ S₀ base F fr Γ β B a w) {n : Nat} {d : D} {v : Value} {u : U} (h : VD ρ w (Stands S₀ w Γ B) β d v) (hs : snap Γ n d = some u) : VD ρ w (fun b => S₀ b ∧ b < w.heap.size) β' (.val u) v :=
  Qhd hrel.roots (fun R hR b hb => ⟨hrel.fresh b (hrel.inside R hR b hb).1, (hrel.inside R hR b hb).2⟩) (fun b hb => ⟨hb.3, hb.1⟩) h hs
end
section
variable {P : Program} {w : World}
theorem Qx1 (t t2 ty e e2 : TypeId) (i : TypeInfo) (ht : P.underlying t = some (.slice e)) (ht2 : P.underlying t2 = some (.slice e2)) (hi : P.info? e = some i) (b ad : Option Addr) (n cap c : Nat) (h : n ≤ cap) :
    (Builtin.append_ #[t, t2] ty #[.slice b n cap, .slice ad 0 c]).run P w = .ok (.slice b n cap) w := by
  cases ad with
  | none => cases b <;> simp [Builtin.append_, run_underlying ht, run_underlying ht2, sizeOf, typeInfo, hi, Builtin.lenOf, Builtin.firstCells, h, storeCells]
  | some ad =>
    have hf := run_firstCells_some (P := P) w i.size 0 ad 0 c [] (by simp) (by simp)
    cases b <;> simp [Builtin.append_, run_underlying ht, run_underlying ht2, sizeOf, typeInfo, hi, Builtin.lenOf, hf, h, storeCells]
theorem Qx2 (t t2 ty e e2 el : TypeId) (i : TypeInfo) (ht : P.underlying t = some (.slice e)) (ht2 : P.underlying t2 = some (.slice e2)) (hi : P.info? e = some i)
    (g sLen sCap : Nat) (cur : Array Value) (hg : w.heap[g]? = some (.cells cur el (0, 0)))
    (ad : Addr) (m c : Nat) (news : List Value) (hl : news.length = m * i.size) (hnews : ∀ j u, news[j]? = some u → w.cell? (ad.add j) = some u) (h1 : ∀ u ∈ news, u.oneCell' = true)
    (hroom : sLen + m ≤ sCap) (hfit : sLen * i.size + news.length ≤ cur.size) :
    (Builtin.append_ #[t, t2] ty #[.slice (some ⟨g, 0, none⟩) sLen sCap, .slice (some ad) m c]).run P w =
      .ok (.slice (some ⟨g, 0, none⟩) (sLen + m) sCap) (w.setRow g (cur.toList.take (sLen * i.size) ++ news ++ cur.toList.drop (sLen * i.size + news.length)).toArray) := by
  have hf := run_firstCells_some (P := P) w i.size m ad m c news hl hnews
  have hst := run_storeCells_at P g (sLen * i.size) el news 0 cur w hg (by simpa using hfit) h1
  simp only [Nat.add_zero] at hst
  simp [Builtin.append_, run_underlying ht, run_underlying ht2, sizeOf, typeInfo, hi, Builtin.lenOf, hroom, hf, Addr.add_lit, hst]
theorem Qx0 (t t2 ty e e2 : TypeId) (i : TypeInfo) (z : Value) (ht : P.underlying t = some (.slice e)) (ht2 : P.underlying t2 = some (.slice e2)) (hi : P.info? e = some i) (hz : i.zero = some z)
    (b : Option Addr) (sLen sCap : Nat) (olds : List Value) (holds : (Builtin.firstCells i.size sLen (.slice b sLen sCap)).run P w.drew = .ok olds.toArray w.drew)
    (ad : Addr) (n c : Nat) (news : List Value) (hl : news.length = n * i.size) (hnews : ∀ j v, news[j]? = some v → w.cell? (ad.add j) = some v)
    (hg : sCap < sLen + n) (h63 : ((sLen + n : Nat) : Int) ≤ 9223372036854775807) (hfit : Builtin.nextslicecap (sLen + n) sCap * i.bytes ≤ 281474976710656) :
    (Builtin.append_ #[t, t2] ty #[.slice b sLen sCap, .slice (some ad) n c]).run P w =
      .ok (.slice (some ⟨w.heap.size, 0, none⟩) (sLen + n) (grownCap w (sLen + n) sCap e))
        (w.drew.alloc (.cells (olds ++ news ++ (Builtin.zeroCells z.cells (grownCap w (sLen + n) sCap e - (sLen + n))).toList).toArray e)) := by
  have hn : ¬ (sLen + n ≤ sCap) := by omega
  have h63' : ¬ (9223372036854775807 < ((sLen : Int) + (n : Int))) := by omega
  have h48' : ¬ (281474976710656 < Builtin.nextslicecap (sLen + n) sCap * i.bytes) := by omega
  have hf := run_firstCells_some (P := P) w.drew i.size n ad n c news hl (by simpa using hnews)
  simp [Builtin.append_, run_underlying ht, run_underlying ht2, sizeOf, typeInfo, zeroValue, hi, hz, Builtin.lenOf, hn, h63', h48', Question.forced, hf, holds, newRow, grownCap]
  congr 2
  apply Array.ext'
  simp
def elemOK (P : Program) (e : TypeId) (k bytes : Nat) : Bool := match P.info? e with
  | some i => i.size == k && i.bytes == bytes && decide (0 < k) && decide (0 < bytes) && (match i.zero with | some z => z.cells.size == k | none => false)
  | none => false
theorem Qqi {e : TypeId} {k bytes : Nat} (h : elemOK P e k bytes = true) : ∃ i z, P.info? e = some i ∧ i.zero = some z ∧ i.size = k ∧ i.bytes = bytes ∧ 0 < k ∧ 0 < bytes ∧ z.cells.size = k := by
  unfold elemOK at h
  split at h
  · rename_i i hi
    simp only [Bool.and_eq_true, beq_iff_eq, decide_eq_true_eq] at h
    obtain ⟨⟨⟨⟨h1, h2⟩, h3⟩, h4⟩, h5⟩ := h
    split at h5
    · rename_i z hz
      exact ⟨i, z, hi, hz, h1, h2, h3, h4, by simpa using h5⟩
    · cases h5
  · cases h
end
section
variable {α : Type} {P : Program} {ρ : Nat → FuncId} {base : Nat → Prop} {F : Fm} {fr : Frm} {S₀ : Nat → Prop} {Γ : Hp} {β : Nat → Lay} {B : Nat → List Nat} {a : Act} {w w' : World} {E : Env}
  {K : Eff → Option α} {r : α} {G : Prop} {o : Oper}
theorem Qg4 {args : Array Operand} {tys : Array TypeId} (ho : o.op = .call { callee := .builtin .append, args := args, argTypes := tys }) {v1 v2 u : Value} (hargs : args.map a.eval = #[v1, v2])
    (h : (Builtin.append_ tys o.type #[v1, v2]).run P w = .ok u w') : (execOp a.eval o).run P w = .ok (.value u) w' := by
  simp only [execOp, ho, resolve, hargs, Sem.run_bind, Sem.run_pure, Result.andThen_ok, invoke, builtin, h]
theorem Qfy (h : Hdr) (k : Nat) : ∀ (ds es : List D) (i : Nat), elts h k i (ds ++ es) = elts h k i ds ++ elts h k (i + ds.length) es
  | [], es, i => rfl
  | d :: ds, es, i => by
    simp only [List.cons_append, elts, List.length_cons]
    rw [Qfy h k ds es (i + 1)]
    congr 3
    omega
theorem Qiy {h h' : Hdr} {k n : Nat} : ∀ (es : List D) (i : Nat), (∀ j, h'.at (.elt (n + j) k) = h.at (.elt j k)) → elts h' k (n + i) es = elts h k i es
  | [], i, _ => rfl
  | d :: es, i, hh => by
    simp only [elts]
    rw [hh i, Nat.add_assoc, Qiy es (i + 1) hh]
def appH (n : Nat) (v : Value) (h hx : Hdr) : Hdr
  | [] => some v
  | .elt i k :: q => if i < n then h (.elt i k :: q) else hx (.elt (i - n) k :: q)
  | _ => none
theorem Qiv (k : Nat) (v : Value) (h hx : Hdr) (ds es : List D) : elts (appH ds.length v h hx) k 0 (ds ++ es) = elts h k 0 ds ++ elts hx k 0 es := by
  rw [Qfy, Nat.zero_add]
  congr 1
  · refine Qei ds 0 fun i _ hi => ?_
    funext q
    simp only [Hdr.at, appH]
    rw [if_pos (by omega)]
  · have := Qiy (h := hx) (h' := appH ds.length v h hx) (k := k) (n := ds.length) es 0 fun j => by
      funext q
      simp only [Hdr.at, appH]
      rw [if_neg (by omega), Nat.add_sub_cancel_left]
    simpa using this
def Bare (ds : List D) : Prop := ∀ m, D.retag.retags m ds = ds
theorem Qfu (us : List U) : Bare (us.map .val) := fun m => Qe5 m us
theorem Qcu (us : List U) : Bare (U.ex.exs us) := fun m => Qfh.go m us
theorem Bare.retag {w w' : World} {S S' : Nat → Prop} {β β' : Nat → Lay} {m : Tag} {h : Hdr} {k i : Nat} {ds : List D} {cs : List Value} {Bz : List Nat} (hb : Bare ds) (t : TCs ρ w S β (elts h k i ds) cs Bz) (hS : ∀ b, S b → S' b) (hc : Keeps S w w') (hB : ∀ b ∈ Bz, w'.heap[b]? = w.heap[b]?) (hm : TagOK m β β') : TCs ρ w' S' β' (elts h k i ds) cs Bz := by
  have := t.retag hS hc hB hm
  rw [Qdr, hb] at this
  exact this
theorem Qeh {k : Nat} {ds : List D} (hk : ∀ d ∈ ds, d.size = k) : dsizes ds = ds.length * k := by
  induction ds with
  | nil => simp
  | cons d ds ih =>
    simp only [Qau, List.length_cons, Nat.succ_mul, hk d (by simp), ih fun d hd => hk d (by simp [hd])]
    omega
theorem Qea {S : Nat → Prop} {t t2 e e2 : TypeId} {s x : Operand} {k bytes : Nat} (ho : o.op = .call { callee := .builtin .append, args := #[s, x], argTypes := #[t, t2] })
    (ht : tyElem P t = some e) (ht2 : tyElem P t2 = some e2) (he : elemOK P e k bytes = true) {h hx : Hdr} {ds es : List D} {Bs By : List Nat}
    (hs : TCs ρ w S β [(h, .osl k ds)] [a.eval s] Bs)
    (hxs : (es = [] ∧ By = [] ∧ ∃ ad c, a.eval x = .slice ad 0 c) ∨ ∃ ad cap news, es ≠ [] ∧ a.eval x = .slice (some ad) es.length cap ∧ (∀ j u, news[j]? = some u → w.cell? (ad.add j) = some u) ∧ TCs ρ w S β (elts hx k 0 es) news By ∧ ∀ d ∈ es, d.size = k)
    (hd : Bare ds) (hes : Bare es) (hbytes : (ds.length + es.length) * bytes ≤ 140737488355328) (hdisj : (Bs ++ By).Nodup) (hlt : ∀ b ∈ Bs ++ By, b < w.heap.size) :
    ∃ v w' Bn h', (execOp a.eval o).run P w = .ok (.value v) w' ∧ w'.os = w.os ∧ w'.tape = w.tape ∧ w'.output = w.output ∧ w.heap.size ≤ w'.heap.size ∧ (∀ b, b < w.heap.size → b ∉ Bs → w'.heap[b]? = w.heap[b]?) ∧ (∀ b ∈ Bn, b ∈ Bs ++ By ∨ (w.heap.size ≤ b ∧ b < w'.heap.size)) ∧ Bn.Nodup ∧ h' [] = some v ∧ v.oneCell' = true ∧
      ∀ (S' : Nat → Prop) (β' : Nat → Lay) (m : Tag), (∀ b, S b → S' b) → Keeps S w w' → TagOK m β β' → TCs ρ w' S' β' [(h', .osl k (ds ++ es))] [v] Bn := by
  obtain ⟨i, z, hi, hz, rfl, rfl, hk0, hb0, hzs⟩ := Qqi he
  have ht := Qbo ht
  have ht2 := Qbo ht2
  have hs0 := hs
  have hBs : (Bs.Nodup) := (List.nodup_append.1 hdisj).1
  have hsv : ∃ b n cap, a.eval s = .slice b n cap ∧ n ≤ cap ∧ h [] = some (a.eval s) ∧ (a.eval s).oneCell' = true := by
    generalize hv : [a.eval s] = vs at hs
    cases hs with
    | osl0 hh t => cases t; simp only [List.cons.injEq, and_true] at hv; exact ⟨_, _, _, hv, Nat.le_refl _, hv ▸ hh, hv ▸ rfl⟩
    | osl hh hb hsz hle hmax hks ht h1 t => cases t; simp only [List.cons.injEq, and_true] at hv; exact ⟨_, _, _, hv, hle, hv ▸ hh, hv ▸ rfl⟩
  rcases hxs with ⟨rfl, rfl, ad, c, hxe⟩ | ⟨ad, cx, news, hne, hxe, hcell, tx, hkx⟩
  · obtain ⟨b, n, cap, es, hle, hh, hone⟩ := hsv
    refine ⟨a.eval s, w, Bs, h, Qg4 ho (v1 := a.eval s) (v2 := a.eval x) (by simp) (by rw [es, hxe]; exact Qx1 t t2 o.type e e2 i ht ht2 hi b ad n cap c hle), rfl, rfl, rfl, Nat.le_refl _, fun _ _ _ => rfl, fun b hb => .inl (by simpa using hb), hBs, hh, hone, fun S' β' m hS hc hm => ?_⟩
    have := hs.retag hS hc (fun _ _ => rfl) hm
    simp only [List.map_cons, List.map_nil, D.retag, hd m] at this
    simpa using this
  · have hpos := List.length_pos_iff.2 hne
    have hln : news.length = es.length * i.size := by rw [tx.length, Qdi, Qeh hkx]
    have hle0 : ds.length + es.length ≤ 140737488355328 := Nat.le_trans (Nat.le_mul_of_pos_right _ hb0) hbytes
    have hml : ds.length + es.length ≤ maxLen := by simp only [maxLen]; omega
    have hBy : ∀ b ∈ By, b < w.heap.size := fun b hb => hlt b (by simp [hb])
    have fresh : ∀ (b : Option Addr) (cap : Nat) (olds : List Value), a.eval s = .slice b ds.length cap → olds.length = ds.length * i.size → (Builtin.firstCells i.size ds.length (.slice b ds.length cap)).run P w.drew = .ok olds.toArray w.drew → cap < ds.length + es.length →
        ∃ v w', (execOp a.eval o).run P w = .ok (.value v) w' ∧ Below w.heap.size w w' ∧ w'.heap.size = w.heap.size + 1 ∧
          ∃ cur, v = .slice (some ⟨w.heap.size, 0, none⟩) (ds ++ es).length (grownCap w (ds.length + es.length) cap e) ∧ w'.heap[w.heap.size]? = some (.cells cur e (0, 0)) ∧
            cur.size = grownCap w (ds.length + es.length) cap e * i.size ∧ (ds ++ es).length ≤ grownCap w (ds.length + es.length) cap e ∧ grownCap w (ds.length + es.length) cap e ≤ maxLen ∧ cur.toList.take ((ds ++ es).length * i.size) = olds ++ news := by
      intro b cap olds hs1 hlo hfirst hgt
      have hr := Qx0 (P := P) (w := w) t t2 o.type e e2 i z ht ht2 hi hz b ds.length cap olds hfirst ad es.length cx news hln hcell hgt (by omega) (growslice_fits hgt hbytes)
      refine ⟨_, _, Qg4 ho (v1 := a.eval s) (v2 := a.eval x) (by simp) (by rw [hs1, hxe]; exact hr), ?_, by simp, _, by simp, heap_alloc_new w.drew _, ?_, ?_, grownCap_le_maxLen w _ _ _ hml, ?_⟩
      · exact (Below.refl _ _).drew.alloc (Nat.le_refl _) _
      · have := grownCap_ge w (ds.length + es.length) cap e
        simp only [List.size_toArray, List.length_append, Array.length_toList, size_zeroCells, hzs, hlo, hln]
        rw [← Nat.add_mul, ← Nat.add_mul]
        congr 1
        omega
      · rw [List.length_append]; exact grownCap_ge w _ _ _
      · have e1 : (ds ++ es).length * i.size = (olds ++ news).length := by rw [List.length_append, List.length_append, hlo, hln, Nat.add_mul]
        rw [e1, List.append_assoc, ← List.append_assoc olds news]
        exact List.take_left
    have grown : ∀ (b : Option Addr) (cap : Nat) (olds : List Value) (B1 : List Nat), a.eval s = .slice b ds.length cap → (∀ d ∈ ds, d.size = i.size) → TCs ρ w S β (elts h i.size 0 ds) olds B1 → (∀ x ∈ B1, x ∈ Bs) → (B1 ++ By).Nodup → (Builtin.firstCells i.size ds.length (.slice b ds.length cap)).run P w.drew = .ok olds.toArray w.drew → cap < ds.length + es.length →
        ∃ v w' Bn h', (execOp a.eval o).run P w = .ok (.value v) w' ∧ w'.os = w.os ∧ w'.tape = w.tape ∧ w'.output = w.output ∧ w.heap.size ≤ w'.heap.size ∧ (∀ b, b < w.heap.size → b ∉ Bs → w'.heap[b]? = w.heap[b]?) ∧ (∀ b ∈ Bn, b ∈ Bs ++ By ∨ (w.heap.size ≤ b ∧ b < w'.heap.size)) ∧ Bn.Nodup ∧ h' [] = some v ∧ v.oneCell' = true ∧
          ∀ (S' : Nat → Prop) (β' : Nat → Lay) (m : Tag), (∀ b, S b → S' b) → Keeps S w w' → TagOK m β β' → TCs ρ w' S' β' [(h', .osl i.size (ds ++ es))] [v] Bn := by
      intro b cap olds B1 hs1 hkd t1 hsub hnd hfirst hgt
      obtain ⟨v, w', hrun, hbel, hsz, cur, rfl, hcur, h1, h2, h3, h4⟩ := fresh b cap olds hs1 (by rw [t1.length, Qdi, Qeh hkd]) hfirst hgt
      have hlB : ∀ x ∈ B1 ++ By, x < w.heap.size := fun x hx => by
        rcases List.mem_append.1 hx with hx | hx
        · exact hlt x (by simp [hsub x hx])
        · exact hBy x hx
      refine ⟨_, w', w.heap.size :: (B1 ++ By), appH ds.length _ h hx, hrun, hbel.os, hbel.tape, hbel.output, hbel.size, fun b hb _ => hbel.block b hb, fun x hx => ?_, List.nodup_cons.2 ⟨fun hm => Nat.lt_irrefl _ (hlB _ hm), hnd⟩, rfl, rfl, fun S' β' m hS hc hm => ?_⟩
      · rcases List.mem_cons.1 hx with rfl | hx
        · exact .inr ⟨Nat.le_refl _, by omega⟩
        · rcases List.mem_append.1 hx with hx | hx
          · exact .inl (by simp [hsub x hx])
          · exact .inl (by simp [hx])
      · have t2 := hd.retag t1 hS hc (fun x hx => hbel.block x (hlB x (by simp [hx]))) hm
        have t3 := hes.retag tx hS hc (fun x hx => hbel.block x (hlB x (by simp [hx]))) hm
        have t4 := t2.append t3
        have := TCs.osl (ρ := ρ) (w := w') (S := S') (β := β') (h := appH ds.length (.slice (some ⟨w.heap.size, 0, none⟩) (ds ++ es).length (grownCap w (ds.length + es.length) cap e)) h hx) (k := i.size) (ds := ds ++ es) (b := w.heap.size) rfl hcur h1 h2 h3 (fun d hd => by
          rcases List.mem_append.1 hd with hd | hd
          · exact hkd d hd
          · exact hkx d hd) h4 (by rw [Qiv]; exact t4) .nil
        simpa using this
    generalize hv : [a.eval s] = vs at hs
    cases hs with
    | osl0 hh t =>
      cases t
      simp only [List.cons.injEq, and_true] at hv
      rename_i a0
      have hfirst : (Builtin.firstCells i.size 0 (.slice a0 0 0)).run P w.drew = .ok ([] : List Value).toArray w.drew := by
        cases a0 with
        | none => simp [Builtin.firstCells]
        | some ad0 => exact run_firstCells_some (P := P) w.drew i.size 0 ad0 0 0 [] (by simp) (by simp)
      exact grown a0 0 [] [] hv (by simp) .nil (by simp) (List.nodup_append.1 hdisj).2.1 hfirst (by simpa using hpos)
    | osl hh hb hsz hle hmax hks htk h1 t =>
      rename_i b cap cur el olds cs0 B1 B0
      cases t
      simp only [List.cons.injEq, and_true] at hv
      rw [List.append_nil] at hBs hdisj hlt
      have hnd : (B1 ++ By).Nodup := by
        rw [List.cons_append] at hdisj
        exact (List.nodup_cons.1 hdisj).2
      have hb0 : b ∉ B1 ++ By := by
        rw [List.cons_append] at hdisj
        exact (List.nodup_cons.1 hdisj).1
      have hl1 : olds.length = ds.length * i.size := by rw [h1.length, Qdi, Qeh hks]
      have hfit0 : ds.length * i.size ≤ cur.size := by rw [hsz]; exact Nat.mul_le_mul_right _ hle
      by_cases hroom : ds.length + es.length ≤ cap
      · have hfit : ds.length * i.size + news.length ≤ cur.size := by rw [hln, hsz, ← Nat.add_mul]; exact Nat.mul_le_mul_right _ hroom
        have hr := Qx2 (P := P) (w := w) t t2 o.type e e2 el i ht ht2 hi b ds.length cap cur hb ad es.length cx news hln hcell tx.oneCell hroom hfit
        have hoth : ∀ b', b' ≠ b → (w.setRow b (cur.toList.take (ds.length * i.size) ++ news ++ cur.toList.drop (ds.length * i.size + news.length)).toArray).heap[b']? = w.heap[b']? := fun b' hb' => setRow_other w b b' _ hb'
        refine ⟨_, w.setRow b (cur.toList.take (ds.length * i.size) ++ news ++ cur.toList.drop (ds.length * i.size + news.length)).toArray, b :: (B1 ++ By), appH ds.length (.slice (some ⟨b, 0, none⟩) (ds.length + es.length) cap) h hx, Qg4 ho (v1 := a.eval s) (v2 := a.eval x) (by simp) (by rw [hv, hxe]; exact hr), rfl, rfl, rfl, by simp, fun b' _ hb' => hoth b' (fun e => hb' (by rw [e]; simp)), fun x hx => .inl (by simpa using hx), List.nodup_cons.2 ⟨hb0, hnd⟩, rfl, rfl, fun S' β' m hS hc hm => ?_⟩
        have t2 := hd.retag h1 hS hc (fun x hx => hoth x (fun e => hb0 (by rw [← e]; simp [hx]))) hm
        have t3 := hes.retag tx hS hc (fun x hx => hoth x (fun e => hb0 (by rw [← e]; simp [hx]))) hm
        have t4 := t2.append t3
        have hlen : (ds ++ es).length = ds.length + es.length := List.length_append
        have := TCs.osl (ρ := ρ) (w := w.setRow b (cur.toList.take (ds.length * i.size) ++ news ++ cur.toList.drop (ds.length * i.size + news.length)).toArray) (S := S') (β := β') (h := appH ds.length (.slice (some ⟨b, 0, none⟩) (ds.length + es.length) cap) h hx) (k := i.size) (ds := ds ++ es) (b := b) (cap := cap) (cur := (cur.toList.take (ds.length * i.size) ++ news ++ cur.toList.drop (ds.length * i.size + news.length)).toArray) (c1 := olds ++ news) (by rw [hlen]; rfl) (setRow_heap w b cur _ el _ hb) (by
            simp only [List.size_toArray, List.length_append, List.length_take, List.length_drop, Array.length_toList]
            omega) (by rw [hlen]; exact hroom) hmax (fun d hd => by
          rcases List.mem_append.1 hd with hd | hd
          · exact hks d hd
          · exact hkx d hd) (by
            have e1 : (ds ++ es).length * i.size = (olds ++ news).length := by rw [List.length_append, List.length_append, hl1, hln, Nat.add_mul]
            rw [htk, e1]
            exact List.take_left) (by rw [Qiv]; exact t4) .nil
        rw [hlen] at this
        simpa using this
      · refine grown (some ⟨b, 0, none⟩) cap olds B1 hv hks h1 (fun x hx => by simp [hx]) hnd ?_ (by omega)
        refine run_firstCells_some (P := P) w.drew i.size ds.length ⟨b, 0, none⟩ ds.length cap olds hl1 fun j v hv => ?_
        have hrg : w.rangeAt b 0 olds := Qch hb fun j v hv => by
          rw [← htk, List.getElem?_take] at hv
          split at hv
          · simpa using hv
          · cases hv
        have := hrg j v hv
        rw [Nat.zero_add] at this
        rw [Addr.add_mid, Nat.zero_add]
        exact this
theorem Qiw {S S' : Nat → Prop} {h : Hdr} {k : Nat} : ∀ {us : List U} {cs : List Value} {Bc : List Nat} {i : Nat}, U.flat.flats us = true → TCs ρ w S β (elts h k i (U.ex.exs us)) cs Bc → URs ρ w' S' us cs
  | [], cs, Bc, i, _, t => by cases t; exact .nil
  | u :: us, cs, Bc, i, hf, t => by
    simp only [U.flat.flats, Bool.and_eq_true] at hf
    simp only [U.ex.exs, elts] at t
    obtain ⟨c1, c2, B1, B2, rfl, rfl, _, h1, h2⟩ := TCs.cons_inv t
    have hn : ∀ vs, u ≠ .tup vs := by rintro vs rfl; cases h1
    exact (Qaa u _ c1 B1 hf.1 hn h1).1.append (Qiw hf.2 h2)
def PartOf (us ys : List U) : Option (Nat × Nat) → Prop
  | none => ys = us
  | some (off, len) => off + len ≤ us.length ∧ ys = (us.drop off).take len
theorem Qow {part : Option (Nat × Nat)} {us ys : List U} (h : (match part with
    | none => some us
    | some (off, len) => if off + len ≤ us.length then some ((us.drop off).take len) else none) = some ys) :
    PartOf us ys part := by
  cases part with
  | none => exact (Option.some.inj h).symm
  | some om =>
    simp only [PartOf] at h ⊢
    by_cases hc : om.1 + om.2 ≤ us.length
    · rw [if_pos hc] at h; exact ⟨hc, (Option.some.inj h).symm⟩
    · rw [if_neg hc] at h; cases h
theorem Rel.src1 (hrel : Rel ρ S₀ base F fr Γ β B a w) {k : Nat} {d : D} {ys : List U} {v : Value} (h : VD ρ w (Stands S₀ w Γ B) β d v) (he : srcElems1 Γ k d some = some ys) :
    (ys = [] ∧ ∃ ad c, v = .slice ad 0 c) ∨
      ∃ b off cap c1, ys ≠ [] ∧ v = .slice (some ⟨b, off, none⟩) ys.length cap ∧ (∀ u ∈ ys, u.size = k) ∧ w.rangeAt b off c1 ∧ URs ρ w (Stands S₀ w Γ B) ys c1 := by
  cases d with
  | val u =>
    have he : u.elems k = some ys := by simpa [srcElems1] using he
    cases u with
    | sl k' us =>
      simp only [U.elems] at he
      split at he
      · rename_i hk
        cases he
        subst hk
        rcases VD_sl h with ⟨rfl, ad, cap, e1⟩ | ⟨b, off, cap, c1, hne, e1, hb, hcap, hmax, hks, hrg, hus⟩
        · exact .inl ⟨rfl, ad, cap, e1⟩
        · exact .inr ⟨b, off, cap, c1, hne, e1, hks, hrg, hus⟩
      · cases he
    | nsl k' =>
      simp only [U.elems] at he
      split at he
      · cases he
        exact .inl ⟨rfl, none, 0, Qar h⟩
      · cases he
    | _ => cases he
  | ref R p k' part =>
    obtain ⟨v0, hβ, hsub⟩ := Qaz h
    simp only [srcElems1, at_eq] at he
    rw [Option.bind_eq_some_iff] at he
    obtain ⟨d, hat, he⟩ := he
    obtain ⟨c, d0, hc, hd, hg⟩ := Qat hat
    have hl := Lay.live_of_hdr hβ
    obtain ⟨cs, Bo, Bc, mk, hpart⟩ := (hrel.roots R c hc hl).part hd hg
    rw [Lay.hdr_live hl] at hβ
    have key : ∀ (ds : List D) (us : List U), d.ex = .osl k ds → us.length = ds.length → (∀ u ∈ us, u.size = k ∨ ds = []) → (∀ c1 B1, TCs ρ w (Stands S₀ w Γ B) β (elts ((β R).h.sub p) k 0 ds) c1 B1 → URs ρ w (Stands S₀ w Γ B) us c1) → k' = k →
        PartOf us ys part →
        (ys = [] ∧ ∃ ad c, v = .slice ad 0 c) ∨ ∃ b off cap c1, ys ≠ [] ∧ v = .slice (some ⟨b, off, none⟩) ys.length cap ∧ (∀ u ∈ ys, u.size = k) ∧ w.rangeAt b off c1 ∧ URs ρ w (Stands S₀ w Γ B) ys c1 := by
      intro ds us hex hlen hk hr hkk hys
      subst hkk
      have t := hpart.cells
      rw [hex] at t
      cases t with
      | osl0 hh t =>
        cases t
        obtain rfl : us = [] := List.length_eq_zero_iff.1 hlen
        simp only [Hdr.sub, List.append_nil] at hh
        rw [hβ] at hh
        cases hh
        cases part with
        | none =>
          obtain ⟨rfl, _⟩ := hsub
          exact .inl ⟨hys, _, 0, rfl⟩
        | some om =>
          obtain ⟨off, len⟩ := om
          obtain ⟨ad, l, c, ad', e1, rfl, h7, h8, h9, h10⟩ := hsub
          cases e1
          obtain ⟨h11, h12⟩ := hys
          simp only [List.length_nil] at h11
          obtain rfl : len = 0 := by omega
          refine .inl ⟨by rw [h12]; simp, _, _, rfl⟩
      | osl hh hb hsz hle hmax hks ht h1 t =>
        rename_i b cap cur e c1 cs0 B1 B0
        cases t
        simp only [Hdr.sub, List.append_nil] at hh
        rw [hβ] at hh
        cases hh
        have h6 := hr _ _ h1
        have hk2 : ∀ u ∈ us, u.size = k' := fun u hu => by
          rcases hk u hu with h | h
          · exact h
          · subst h
            have : us = [] := List.length_eq_zero_iff.1 hlen
            subst this
            cases hu
        have hrow : w.rangeAt b 0 c1 := Qch hb fun j v hv => by
          rw [← ht, List.getElem?_take] at hv
          split at hv
          · simpa using hv
          · cases hv
        cases part with
        | none =>
          obtain ⟨rfl, _⟩ := hsub
          subst hys
          by_cases hne : ys = []
          · exact .inl ⟨hne, _, cap, by rw [← hlen, hne]; rfl⟩
          · exact .inr ⟨b, 0, cap, c1, hne, by rw [hlen], hk2, hrow, h6⟩
        | some om =>
          obtain ⟨off, len⟩ := om
          obtain ⟨hle2, rfl⟩ := hys
          obtain ⟨ad, l, c, ad', hv0, rfl, h7, h8, h9, h10⟩ := hsub
          cases hv0
          have hlen2 : ((us.drop off).take len).length = len := by rw [List.length_take, List.length_drop]; omega
          by_cases hne : (us.drop off).take len = []
          · rw [hne] at hlen2
            exact .inl ⟨hne, ad', cap - off, by rw [← hlen2]; rfl⟩
          · have hpos := List.length_pos_iff.2 hne
            have had : ad' = some ⟨b, 0 + off * k', none⟩ := by
              rcases h10 with h10 | h10
              · omega
              · rw [h10]; simp [Addr.add_mid]
            obtain ⟨c2, hc2, hat2⟩ := h6.mid hk2 (l := off) (h := off + len) (by omega) (by omega)
            have e1 : (us.take (off + len)).drop off = (us.drop off).take len := by rw [List.drop_take]; congr 1; omega
            rw [e1] at hc2
            refine .inr ⟨b, 0 + off * k', cap - off, c2, hne, by rw [hlen2, had], fun u hu => hk2 u (List.mem_of_mem_drop (List.mem_of_mem_take hu)), fun j v hv => ?_, hc2⟩
            rw [Nat.add_assoc]
            exact hrow _ v (hat2 j v hv)
    cases d with
    | asl k2 us =>
      simp only at he
      by_cases hkk : k' = k ∧ k2 = k
      rotate_left
      · rw [if_neg hkk] at he; cases he
      rw [if_pos hkk] at he
      have he9 := Qow he
      clear he
      obtain ⟨h91, h92⟩ := hkk
      subst h92
      subst h91
      refine key (us.map .val) us rfl (by simp) (fun u hu => ?_) (fun c1 B1 t1 => (Qej t1).1) rfl ?_
      · have t := hpart.cells
        simp only [D.ex] at t
        have : ∀ d ∈ us.map D.val, d.size = k' := by
          generalize us.map D.val = ds at t
          cases t with
          | osl0 hh t => simp
          | osl hh hb hsz hle hmax hks ht h1 t => exact hks
        exact .inl (this (.val u) (List.mem_map_of_mem hu))
      · exact he9
    | own u =>
      cases u with
      | sl k2 us =>
        simp only [U.asSlK] at he
        split at he
        rotate_left
        · cases he
        rename_i hk2
        subst hk2
        by_cases hkk : k' = k2 ∧ U.flat.flats us = true
        rotate_left
        · rw [if_neg hkk] at he; cases he
        rw [if_pos hkk] at he
        have he9 := Qow he
        clear he
        obtain ⟨h91, hf⟩ := hkk
        subst h91
        refine key (U.ex.exs us) us rfl (by rw [Qi, List.length_map]) (fun u hu => ?_) (fun c1 B1 t1 => Qiw hf t1) rfl ?_
        · have t := hpart.cells
          simp only [D.ex, U.ex] at t
          have : ∀ d ∈ U.ex.exs us, d.size = k' := by
            generalize U.ex.exs us = ds at t
            cases t with
            | osl0 hh t => simp
            | osl hh hb hsz hle hmax hks ht h1 t => exact hks
          left
          rw [← Qan]
          exact this _ (by rw [Qi]; exact List.mem_map_of_mem hu)
        · exact he9
      | _ => cases he
    | _ => cases he
  | _ => cases he
theorem Rel.src (hrel : Rel ρ S₀ base F fr Γ β B a w) {k : Nat} {d : D} {ys : List U} {v : Value} (h : VD ρ w (Stands S₀ w Γ B) β d v) (he : srcO Γ k d = some ys) :
    (ys = [] ∧ ∃ ad c, v = .slice ad 0 c) ∨
      ∃ b off cap c1, ys ≠ [] ∧ v = .slice (some ⟨b, off, none⟩) ys.length cap ∧ (∀ u ∈ ys, u.size = k) ∧ w.rangeAt b off c1 ∧ URs ρ w (Stands S₀ w Γ B) ys c1 := by
  unfold srcO srcElems at he
  split at he
  · rename_i R k'
    split at he
    · rename_i hΓ
      split at he
      rotate_left
      · cases he
      cases he
      obtain ⟨v0, hβ, hsub⟩ := Qaz h
      have hl := Lay.live_of_hdr hβ
      obtain ⟨_, _, _, ad, cap, hh, _⟩ := hrel.roots R _ hΓ hl
      rw [Lay.hdr_live hl, hh] at hβ
      cases hβ
      exact .inl ⟨rfl, ad, cap, hsub.1⟩
    · exact hrel.src1 h he
  · exact hrel.src1 h he
theorem Qdf {S : Nat → Prop} {Γ0 Γ1 Γ2 : Hp} {B0 B1 : Nat → List Nat} {Bx : List Nat} {k : Nat} {d : D} {us : List U} {v : Value} (h : takeElO Γ1 k d = some (us, Γ2)) (hd : DCs ρ w S β [d] [v]) (hp : Parts ρ w S β Γ0 B0 Γ1 B1 Bx) :
    ∃ hh B2 Bc, Parts ρ w S β Γ0 B0 Γ2 B2 (Bx ++ Bc) ∧ TCs ρ w S β [(hh, .osl k (U.ex.exs us))] [v] Bc := by
  unfold takeElO takeElems at h
  split at h
  rotate_left
  · cases h
  rename_i R p k'
  split at h
  rotate_left
  · cases h
  rename_i hk
  subst hk
  simp only [Qao, Qaf] at h
  obtain ⟨⟨c, Γ3⟩, h1, h⟩ := Option.bind_eq_some_iff.1 h
  obtain ⟨u, h2, h7⟩ := Option.bind_eq_some_iff.1 h
  clear h
  have h8 : u = .sl k' us ∧ Γ3 = Γ2 := by
    cases u with
    | sl k2 us2 =>
      simp only [U.asSlK] at h7
      by_cases hk2 : k2 = k'
      · rw [if_pos hk2] at h7
        simp only [Option.some.injEq, Prod.mk.injEq] at h7
        rw [hk2, h7.1]
        exact ⟨rfl, h7.2⟩
      · rw [if_neg hk2] at h7; cases h7
    | _ => cases h7
  obtain ⟨rfl, rfl⟩ := h8
  obtain ⟨hh, B2, Bc, h3, h4, _⟩ := Parts.take _ h1 hd hp
  have h5 := (Qak c _ h2).2 hh [v] Bc h4
  simp only [U.ex] at h5
  exact ⟨hh, B2, Bc, h3, h5⟩
theorem VD.one {S : Nat → Prop} {R k : Nat} {p : List Step} {part : Option (Nat × Nat)} {v : Value} (h : VD ρ w S β (.ref R p k part) v) : DCs ρ w S β [.ref R p k part] [v] := by
  rcases h with h | ⟨cs, h1, h2⟩
  · cases h
  · have : cs = [v] := by simpa [D.isAgg] using h2
    rw [← this]
    exact h1
theorem Qov {S : Nat → Prop} {k : Nat} {ys : List U} {v : Value}
    (h : (ys = [] ∧ ∃ ad c, v = .slice ad 0 c) ∨ ∃ b off cap c1, ys ≠ [] ∧ v = .slice (some ⟨b, off, none⟩) ys.length cap ∧ (∀ u ∈ ys, u.size = k) ∧ w.rangeAt b off c1 ∧ URs ρ w S ys c1) (es : List D)
    (hes : (es = ys.map .val) ∨ (es = U.ex.exs ys ∧ U.flat.flats ys = true)) :
    (es = [] ∧ ([] : List Nat) = [] ∧ ∃ ad c, v = .slice ad 0 c) ∨ ∃ ad cap news, es ≠ [] ∧ v = .slice (some ad) es.length cap ∧ (∀ j u, news[j]? = some u → w.cell? (ad.add j) = some u) ∧ TCs ρ w S β (elts noHdr k 0 es) news [] ∧ ∀ d ∈ es, d.size = k := by
  have hl : es.length = ys.length := by
    rcases hes with rfl | ⟨rfl, _⟩
    · simp
    · rw [Qi, List.length_map]
  rcases h with ⟨rfl, h⟩ | ⟨b, off, cap, c1, hne, hv, hk, hr, hu⟩
  · exact .inl ⟨List.length_eq_zero_iff.1 hl, rfl, h⟩
  · have hvals : ∀ (us : List U) (c : List Value) (i : Nat), URs ρ w S us c → TCs ρ w S β (elts noHdr k i (us.map .val)) c [] := by
      intro us
      induction us with
      | nil => intro c i h; cases h; exact .nil
      | cons u us ih =>
        intro c i h
        obtain ⟨c1, c2, rfl, _, h1, h2⟩ := h.cons_inv
        exact .val h1 (ih c2 _ h2)
    refine .inr ⟨⟨b, off, none⟩, cap, c1, fun e => hne (List.length_eq_zero_iff.1 (by rw [← hl, e]; rfl)), by rw [hl]; exact hv, fun j u hu => by rw [Addr.add_mid]; exact hr j u hu, ?_, ?_⟩
    · rcases hes with rfl | ⟨rfl, hf⟩
      · exact hvals _ _ _ hu
      · exact Qex _ _ _ _ hf (hvals _ _ _ hu)
    · rcases hes with rfl | ⟨rfl, hf⟩
      · intro d hd
        obtain ⟨u, hu, rfl⟩ := List.mem_map.1 hd
        exact hk u hu
      · intro d hd
        rw [Qi] at hd
        obtain ⟨u, hu, rfl⟩ := List.mem_map.1 hd
        rw [Qan]
        exact hk u hu
def nilHdr : Hdr
  | [] => some (.slice none 0 0)
  | _ => none
theorem After.appended {Γ1 : Hp} {B1 : Nat → List Nat} {Bx : List Nat} (hrel : Rel ρ S₀ base F fr Γ β B a w) (hp : Parts ρ w (Stands S₀ w Γ B) β Γ B Γ1 B1 Bx) {nm : Nat} (hnm : nm < 5000) {k : Nat} {d : D} {ds : List D} (hd : d.ex = .osl k ds) (hb : ∀ m, d.retag m = d) {v : Value} {h' : Hdr} {Bn : List Nat}
    (h1 : w'.os = w.os) (h2 : w'.tape = w.tape) (h3 : w'.output = w.output) (hs : w.heap.size ≤ w'.heap.size) (hc : ∀ b, b < w.heap.size → b ∉ Bx → w'.heap[b]? = w.heap[b]?) (hB : ∀ b ∈ Bn, b ∈ Bx ∨ (w.heap.size ≤ b ∧ b < w'.heap.size)) (hn : Bn.Nodup) (hh : h' [] = some v) (hone : v.oneCell' = true)
    (ht : ∀ (S' : Nat → Prop) (β' : Nat → Lay) (m : Tag), (∀ b, Stands S₀ w Γ B b → S' b) → Keeps (Stands S₀ w Γ B) w w' → TagOK m β β' → TCs ρ w' S' β' [(h', .osl k ds)] [v] Bn) :
    After ρ S₀ base F fr Γ β a w [.purge nm] (.ref nm [] k none) (upd (Hp.retag Γ1 (.purge nm)) nm (some ((Cn.vir d).retag (.purge nm)))) v w' := by
  have hkeep : Keeps (Stands S₀ w Γ B) w w' := fun b hb => hc b hb.lt fun hm => Qcd (hp.out b hm).1 hb
  refine After.make hrel hp hnm (.vir d) ⟨.vir, h'⟩ Bn h1 h2 h3 hs hc hB (fun S' hS' => ⟨hn, [v], rfl, ?_⟩) fun S' => Qcr (v0 := v) (by rw [Qd]; exact hh) ⟨rfl, hone⟩
  rw [hb, hd]
  exact ht S' _ (.purge nm) hS' hkeep (TagOK.purge fun R' hR _ => Qa β _ hR)
theorem Qyo {t t2 e e2 : TypeId} {s x : Operand} {mv : Bool} {nm k bytes : Nat} {s' x' : Opd} (hrel : Rel ρ S₀ base F fr Γ β B a w) (ho : o.op = .call { callee := .builtin .append, args := #[s, x], argTypes := #[t, t2] })
    (ht : tyElem P t = some e) (ht2 : tyElem P t2 = some e2) (he : elemOK P e k bytes = true) (hs : opdOK ρ F.wd s s' = true) (hx : opdOK ρ F.wd x x' = true)
    (h : (AOp.append mv nm k bytes s' x').step E fr Γ K = some r) (hK : Cont P ρ S₀ base F fr Γ β B a w o K r G) : G := by
  have hvs := hrel.opd hs
  have hvx := hrel.opd hx
  have hltP : ∀ {Γ1 B1 Bx}, Parts ρ w (Stands S₀ w Γ B) β Γ B Γ1 B1 Bx → ∀ b ∈ Bx, b < w.heap.size := fun hp b hb => (hrel.owned (hp.out b hb).1).2
  cases mv with
  | false =>
    simp only [AOp.step, Qdd, Qao] at h
    obtain ⟨ys, hys, h⟩ := Option.bind_eq_some_iff.1 h
    have hsrc := hrel.src hvx hys
    cases hes : s'.ev fr with
    | val u =>
      rw [hes] at h hvs
      cases u with
      | nsl k' =>
        simp only [U.asNsl] at h
        split at h
        rotate_left
        · cases h
        rename_i hc
        obtain ⟨rfl, hbytes⟩ := hc
        obtain ⟨hnm, hr⟩ := Qy h
        have es := Qar hvs
        obtain ⟨v, w', Bn, h', hrun, g1, g2, g3, g4, g5, g6, g7, g8, g9, g10⟩ := Qea (S := Stands S₀ w Γ B) (β := β) ho ht ht2 he (h := nilHdr) (hx := noHdr) (ds := []) (es := ys.map .val) (Bs := []) (By := []) (by rw [es]; exact .osl0 rfl .nil) (Qov hsrc _ (.inl rfl)) (fun _ => rfl) (Qfu ys) (by simpa using hbytes) List.nodup_nil (by simp)
        exact hK.val _ _ _ _ _ hr hrun (After.appended hrel hrel.parts hnm (d := .asl k' ys) rfl (fun _ => rfl) g1 g2 g3 g4 g5 (fun b hb => (g6 b hb).imp (by simp) id) g7 g8 g9 g10)
      | _ => cases h
    | ref R p k' part =>
      rw [hes] at h hvs
      cases part with
      | some om => cases h
      | none =>
        simp only at h
        obtain ⟨⟨d, Γ1⟩, htk, h⟩ := Option.bind_eq_some_iff.1 h
        obtain ⟨hh, B1, Bc, hp, t1, _⟩ := Parts.take _ htk hvs.one hrel.parts
        rw [List.nil_append] at hp
        have fin : ∀ (d' : D) (ds es : List D), d.ex = .osl k ds → (es = ys.map .val ∨ (es = U.ex.exs ys ∧ U.flat.flats ys = true)) → Bare ds → Bare es → d'.ex = .osl k (ds ++ es) → (∀ m, d'.retag m = d') → (ds.length + es.length) * bytes ≤ 140737488355328 → mkVar Γ1 nm (.vir d') (.ref nm [] k none) K = some r → G := by
          intro d' ds es hds hes hb1 hb2 hd' hb3 hbytes hmk
          obtain ⟨hnm, hr⟩ := Qy hmk
          rw [hds] at t1
          obtain ⟨v, w', Bn, h', hrun, g1, g2, g3, g4, g5, g6, g7, g8, g9, g10⟩ := Qea (S := Stands S₀ w Γ B) (β := β) ho ht ht2 he (h := hh) (hx := noHdr) (ds := ds) (es := es) (Bs := Bc) (By := []) t1 (Qov hsrc _ hes) hb1 hb2 hbytes (by simpa using hp.nodup) (by simpa using hltP hp)
          exact hK.val _ _ _ _ _ hr hrun (After.appended hrel hp hnm hd' hb3 g1 g2 g3 g4 g5 (fun b hb => (g6 b hb).imp (by simp) id) g7 g8 g9 g10)
        split at h
        · rename_i k2 us hdd
          split at h
          rotate_left
          · cases h
          rename_i hc
          obtain ⟨rfl, rfl, hbytes⟩ := hc
          exact fin (.asl _ (us ++ ys)) (us.map .val) (ys.map .val) (by rw [show d = _ from hdd]; rfl) (.inl rfl) (Qfu _) (Qfu _) (by simp [D.ex]) (fun _ => rfl) (by simpa using hbytes) h
        · rename_i u hdd
          cases u with
          | sl k2 us =>
            simp only [U.asSlK] at h
            split at h
            rotate_left
            · cases h
            rename_i hk2
            subst hk2
            split at h
            rotate_left
            · cases h
            rename_i hc
            obtain ⟨rfl, hf, hbytes⟩ := hc
            exact fin (.own (.sl k' (us ++ ys))) (U.ex.exs us) (U.ex.exs ys) (by rw [show d = _ from hdd]; rfl) (.inr ⟨rfl, hf⟩) (Qcu _) (Qcu _) (by simp [D.ex, U.ex, Qi]) (fun _ => rfl) (by simpa [Qi] using hbytes) h
          | _ => cases h
        · cases h
    | _ => rw [hes] at h; cases h
  | true =>
    simp only [AOp.step, Qae] at h
    obtain ⟨⟨ys, Γ1⟩, hys, h⟩ := Option.bind_eq_some_iff.1 h
    have hdx : DCs ρ w (Stands S₀ w Γ B) β [x'.ev fr] [a.eval x] := by
      cases hxe : x'.ev fr with
      | ref R p k' part => rw [hxe] at hvx; exact hvx.one
      | _ => rw [hxe] at hys; cases hys
    obtain ⟨hhx, B1, Bx1, hp1, tx⟩ := Qdf hys hdx hrel.parts
    rw [List.nil_append] at hp1
    have hitems : ∃ By, (∀ b ∈ By, b ∈ Bx1) ∧ By.Nodup ∧ ((U.ex.exs ys = [] ∧ By = [] ∧ ∃ ad c, a.eval x = .slice ad 0 c) ∨ ∃ ad cap news, U.ex.exs ys ≠ [] ∧ a.eval x = .slice (some ad) (U.ex.exs ys).length cap ∧ (∀ j u, news[j]? = some u → w.cell? (ad.add j) = some u) ∧ TCs ρ w (Stands S₀ w Γ B) β (elts hhx k 0 (U.ex.exs ys)) news By ∧ ∀ d ∈ U.ex.exs ys, d.size = k) := by
      have hn := hp1.nodup
      generalize U.ex.exs ys = es at tx
      generalize hv : [a.eval x] = vs at tx
      cases tx with
      | osl0 hh t => cases t; simp only [List.cons.injEq, and_true] at hv; exact ⟨[], by simp, List.nodup_nil, .inl ⟨rfl, rfl, _, 0, hv⟩⟩
      | osl hh hb hsz hle hmax hks htk h1 t =>
        rename_i b cap cur el c1 cs0 By B0
        cases t
        simp only [List.cons.injEq, and_true] at hv
        rw [List.append_nil] at hn
        have hrow : w.rangeAt b 0 c1 := Qch hb fun j v hv => by
          rw [← htk, List.getElem?_take] at hv
          split at hv
          · simpa using hv
          · cases hv
        by_cases hne : es = []
        · subst hne
          have : By = [] := by cases h1; rfl
          exact ⟨[], by simp, List.nodup_nil, .inl ⟨rfl, rfl, _, cap, hv⟩⟩
        · exact ⟨By, fun b hb => by simp [hb], (List.nodup_cons.1 hn).2, .inr ⟨_, cap, c1, hne, hv, fun j u hu => by rw [Addr.add_mid]; exact hrow j u hu, h1, hks⟩⟩
    obtain ⟨By, hBy, hnBy, hitems⟩ := hitems
    cases hes : s'.ev fr with
    | val u =>
      rw [hes] at h hvs
      cases u with
      | nsl k' =>
        simp only [U.asNsl] at h
        split at h
        rotate_left
        · cases h
        rename_i hc
        obtain ⟨rfl, hbytes⟩ := hc
        obtain ⟨hnm, hr⟩ := Qy h
        have es := Qar hvs
        obtain ⟨v, w', Bn, h', hrun, g1, g2, g3, g4, g5, g6, g7, g8, g9, g10⟩ := Qea (S := Stands S₀ w Γ B) (β := β) ho ht ht2 he (h := nilHdr) (hx := hhx) (ds := []) (es := U.ex.exs ys) (Bs := []) (By := By) (by rw [es]; exact .osl0 rfl .nil) hitems (fun _ => rfl) (Qcu ys) (by simpa [Qi] using hbytes) (by simpa using hnBy) (fun b hb => hltP hp1 b (hBy b (by simpa using hb)))
        exact hK.val _ _ _ _ _ hr hrun (After.appended hrel hp1 hnm (d := .own (.sl k' ys)) rfl (fun _ => rfl) g1 g2 g3 g4 (fun b h1 _ => g5 b h1 (by simp)) (fun b hb => (g6 b hb).imp (fun hb => hBy b (by simpa using hb)) id) g7 g8 g9 g10)
      | _ => cases h
    | ref R p k' part =>
      rw [hes] at h hvs
      simp only at h
      obtain ⟨⟨us, Γ2⟩, hus, h⟩ := Option.bind_eq_some_iff.1 h
      split at h
      rotate_left
      · cases h
      rename_i hbytes
      obtain ⟨hnm, hr⟩ := Qy h
      obtain ⟨hhs, B2, Bs2, hp2, ts⟩ := Qdf hus hvs.one hp1
      have hdis := List.nodup_append.1 hp2.nodup
      obtain ⟨v, w', Bn, h', hrun, g1, g2, g3, g4, g5, g6, g7, g8, g9, g10⟩ := Qea (S := Stands S₀ w Γ B) (β := β) ho ht ht2 he (h := hhs) (hx := hhx) (ds := U.ex.exs us) (es := U.ex.exs ys) (Bs := Bs2) (By := By) ts hitems (Qcu us) (Qcu ys) (by simpa [Qi] using hbytes)
        (List.nodup_append.2 ⟨hdis.2.1, hnBy, fun a ha b hb e => hdis.2.2 b (hBy b hb) a ha e.symm⟩) (fun b hb => by
          rcases List.mem_append.1 hb with hb | hb
          · exact hltP hp2 b (by simp [hb])
          · exact hltP hp2 b (by simp [hBy b hb]))
      exact hK.val _ _ _ _ _ hr hrun (After.appended hrel hp2 hnm (d := .own (.sl k (us ++ ys))) (by simp [D.ex, U.ex, Qi]) (fun _ => rfl) g1 g2 g3 g4 (fun b h1 h2 => g5 b h1 fun hm => h2 (by simp [hm])) (fun b hb => (g6 b hb).imp (fun hb => by
          rcases List.mem_append.1 hb with hb | hb
          · simp [hb]
          · simp [hBy b hb]) id) g7 g8 g9 g10)
    | _ => rw [hes] at h; cases h
end
end Go.Proofs.Ytboenehajoaahaa.Am
