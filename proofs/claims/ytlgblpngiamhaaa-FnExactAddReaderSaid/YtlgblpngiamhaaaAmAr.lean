import Derived.Test.YtlgblpngiamhaaaAmIr
set_option linter.unusedVariables false
namespace Go.Proofs.Ytlgblpngiamhaaa.Am
open Go Go.RowKit Go.Shelf Go.Proofs
structure Ahead (w w' : World) : Prop where
  heap : w'.heap = w.heap
  os : w'.os = w.os
  tape : w'.tape = w.tape
  output : w'.output = w.output
  drawn : w.drawn ≤ w'.drawn
theorem Ahead.refl (w : World) : Ahead w w := ⟨rfl, rfl, rfl, rfl, Nat.le_refl _⟩
theorem Ahead.drew {w w' : World} (h : Ahead w w') : Ahead w w'.drew := ⟨h.1, h.2, h.3, h.4, Nat.le_succ_of_le h.5⟩
theorem Ahead.below {w w' : World} (h : Ahead w w') (n : Nat) : Below n w w' := ⟨⟨h.os, h.tape, h.output, by rw [h.heap]; exact Nat.le_refl _, fun k _ => by rw [h.heap]⟩, h.drawn⟩
theorem Below.to {n m : Nat} {w w' : World} (h : Below m w w') (hn : n ≤ m) : Below n w w' := ⟨h.toBelow.mono hn, h.drawn⟩
theorem Below.tr {n : Nat} {a b c : World} (h : Below n a b) (k : Below n b c) : Below n a c := ⟨h.toBelow.trans k.toBelow, Nat.le_trans h.drawn k.drawn⟩
theorem Behind.to {A : Nat → Prop} {n : Nat} {w w' : World} (h : Behind A w w') (hn : n ≤ w.heap.size) (hA : ∀ b, A b → n ≤ b) : Below n w w' :=
  ⟨⟨h.os, h.tape, h.output, h.size, fun k hk => h.block k (by omega) fun ha => by have := hA k ha; omega⟩, h.drawn⟩
structure Held4 (w : World) (b : Nat) (x0 x1 x2 x3 : Value) : Prop where
  c0 : w.cell? ⟨b, 0, none⟩ = some x0
  c1 : w.cell? ⟨b, 1, none⟩ = some x1
  c2 : w.cell? ⟨b, 2, none⟩ = some x2
  c3 : w.cell? ⟨b, 3, none⟩ = some x3
theorem Held4.of {w : World} {b : Nat} {x0 x1 x2 x3 : Value} {e : TypeId} (h : w.heap[b]? = some (.cells #[x0, x1, x2, x3] e (0, 0))) : Held4 w b x0 x1 x2 x3 := by
  constructor <;> simp [World.cell?, h]
structure CloneRaw (P : Program) (f : FuncId) (k by' : Nat) : Prop where
  empty : ∀ (a : Option Addr) (c : Nat) (w : World), Calls P f #[.slice a 0 c] w fun e w' => ∃ a', e = .returned (.slice a' 0 0) ∧ Below w.heap.size w w'
  more : ∀ (b n c : Nat) (cs : List Value) (w : World), 0 < n → cs.length = n * k → n * by' ≤ 140737488355328 → n ≤ maxLen → (∀ j v, cs[j]? = some v → w.cell? ⟨b, j, none⟩ = some v) → (∀ v ∈ cs, v.oneCell' = true) →
    Calls P f #[.slice (some ⟨b, 0, none⟩) n c] w fun e w' => ∃ v nb, e = .returned v ∧ RowAt w' k n v cs nb ∧ w.heap.size ≤ nb ∧ nb < w'.heap.size ∧ Below w.heap.size w w'
def AddRun (P : Program) (cH isH idx clo cln cE ins : FuncId) (eT : TypeId) (al : Option Addr) (nl cl : Nat) (x0 x1 x2 : Value) (a3 : Option Addr) (n3 c3 : Nat) (w : World) (Q : Value → Bool → World → Prop) : Prop :=
  Calls P cH #[.slice al nl cl] (w.alloc (.cells #[x0, x1, x2, .slice a3 n3 c3] eT (0, 0))) fun e w2 => ∃ out, e = .returned out ∧
    Calls P isH #[.slice al nl cl] w2 fun e w3 => ∃ b, e = .returned (.bool b) ∧ Held4 w3 w.heap.size x0 x1 x2 (.slice a3 n3 c3) ∧ (b = false → Q out false w3) ∧ (0 < n3 → Q out false w3) ∧ (b = true → ¬ 0 < n3 →
      Calls P idx #[.slice al nl cl, .func (.func clo) #[] #[.pointer (some ⟨w.heap.size, 0, none⟩)]] w3 fun e w4 => ∃ i : Int, e = .returned (.int .i64 i) ∧ Held4 w4 w.heap.size x0 x1 x2 (.slice a3 n3 c3) ∧
        ∀ at' : Int, (i < 0 → at' = nl) → (0 ≤ i → at' = i) → ∀ w4', Ahead w4 w4' → Calls P cln #[out] w4' fun e w5 => ∃ cl, e = .returned cl ∧ Held4 w5 w.heap.size x0 x1 x2 (.slice a3 n3 c3) ∧
          ∀ w5', Ahead w5 w5' → Calls P cE #[.agg #[x0, x1, x2, .slice a3 n3 c3]] w5' fun e w6 => ∃ y0 y1 y2 y3, e = .returned (.agg #[y0, y1, y2, y3]) ∧ (y0.oneCell' = true ∧ y1.oneCell' = true ∧ y2.oneCell' = true ∧ y3.oneCell' = true) ∧
            ∀ w6', Ahead w6 w6' → ∀ w7, Ahead (w6'.alloc (.cells #[y0, y1, y2, y3] eT (0, 0))) w7 → Calls P ins #[cl, .int .i64 at', .slice (some ⟨w6'.heap.size, 0, none⟩) 1 1] w7 fun e w8 => ∃ nx, e = .returned nx ∧
              ∀ w8', Ahead w8 w8' → Calls P isH #[nx] w8' fun e w9 => ∃ b, e = .returned (.bool b) ∧ (b = false → Q out false w9) ∧ (b = true → Q nx true w9))
structure AddP (P : Program) (f cH isH idx clo cln cE ins : FuncId) (eT : TypeId) : Prop where
  walk : ∀ (al : Option Addr) (nl cl : Nat) (x0 x1 x2 : Value) (a3 : Option Addr) (n3 c3 : Nat) (w : World) (Q : Value → Bool → World → Prop), AddRun P cH isH idx clo cln cE ins eT al nl cl x0 x1 x2 a3 n3 c3 w Q →
    Calls P f #[.slice al nl cl, .agg #[x0, x1, x2, .slice a3 n3 c3]] w fun e w' => ∃ v b, e = .returned (.tuple #[v, .bool b]) ∧ Q v b w'
section
variable {P : Program} {ρ : Nat → FuncId} {w w' : World}
theorem Args.keep {n : Nat} {S : Nat → Prop} {us : List U} {vs : List Value} (h : Args ρ w S us vs) (hS : ∀ b, S b → b < n) (hb : Below n w w') : Args ρ w' S us vs :=
  h.mono (fun _ h => h) fun b o v hs hc => (World.cell?_of_block (a := ⟨b, o, none⟩) (hb.block b (hS b hs))).trans hc
theorem Own.keep {u : U} {h : Hdr} {cs : List Value} {B : List Nat} (o : Own ρ w u h cs B) {n : Nat} (hB : ∀ b ∈ B, b < n) (hb : Below n w w') : Own ρ w' u h cs B :=
  o.mono (fun _ h => h) (fun b hb => hb.elim) (fun b hm => hb.block b (hB b hm)) fun _ _ => rfl
theorem VD_slice {S : Nat → Prop} {β : Nat → Lay} {k : Nat} {us : List U} {v : Value} (h : VD ρ w S β (.val (.sl k us)) v) : ∃ a c, v = .slice a us.length c := by
  rcases VD_sl h with ⟨rfl, a, cap, rfl⟩ | ⟨b, off, cap, c1, _, rfl, _⟩
  · exact ⟨_, _, rfl⟩
  · exact ⟨_, _, rfl⟩
theorem cells4 {S : Nat → Prop} {u0 u1 : Int} {r2 wr : List U} {cs : List Value} (h : URs ρ w S [.int .i64 u0, .int .i64 u1, .sl 2 r2, .sl 2 wr] cs) :
    ∃ x0 x1 x2 a3 c3, cs = [x0, x1, x2, .slice a3 wr.length c3] := by
  cases h with | int _ _ h =>
  cases h with | int _ _ h =>
  have last : ∀ cs, URs ρ w S [.sl 2 wr] cs → ∃ a3 c3, cs = [.slice a3 wr.length c3] := fun cs h => by
    cases h with
    | sl0 k a cap h => cases h; exact ⟨_, _, rfl⟩
    | sl1 k b off cap _ _ _ _ _ _ _ h => cases h; exact ⟨_, _, rfl⟩
  cases h with
  | sl0 k a cap h => obtain ⟨a3, c3, rfl⟩ := last _ h; exact ⟨_, _, _, _, _, rfl⟩
  | sl1 k b off cap _ _ _ _ _ _ _ h => obtain ⟨a3, c3, rfl⟩ := last _ h; exact ⟨_, _, _, _, _, rfl⟩
theorem flat_take_drop : ∀ (T : List Tok) (i : Nat), (∀ t ∈ T, t.c.length = 4) → ((T.take i).map (·.c)).flatten = ((T.map (·.c)).flatten).take (i * 4) ∧ ((T.drop i).map (·.c)).flatten = ((T.map (·.c)).flatten).drop (i * 4)
  | [], i, _ => by simp
  | t :: T, 0, _ => by simp
  | t :: T, i + 1, h => by
    obtain ⟨h1, h2⟩ := flat_take_drop T i fun t ht => h t (by simp [ht])
    have hc := h t (by simp)
    simp only [List.take_succ_cons, List.drop_succ_cons, List.map_cons, List.flatten_cons, h1, h2]
    rw [show (i + 1) * 4 = t.c.length + i * 4 by omega, List.take_length_add_append, List.drop_length_add_append]
    exact ⟨rfl, rfl⟩
theorem four {cs : List Value} (h : cs.length = 4) : ∃ y0 y1 y2 y3, cs = [y0, y1, y2, y3] := by
  match cs, h with
  | [a, b, c, d], _ => exact ⟨_, _, _, _, rfl⟩
theorem add_core {E1 : Env} (hg : Good P ρ E1) {R : Ren} {by' : Nat} {z : Value} (L : InsP P R 4 by' z) (hzc : z.cells.size = 4) (hb0 : 0 < by') {cln : FuncId} (C : CloneRaw P cln 4 by') {qc qh qi qo qe : Nat} {f : FuncId} {eT : TypeId}
    (W : AddP P f (ρ (100000 + qc)) (ρ qh) (ρ qi) (ρ qo) cln (ρ (100000 + qe)) (R.f 21) eT) (hqc : qc < 100000) (hqh : qh < 100000) (hqi : qi < 100000) (hqe : qe < 100000)
    {l out : List U} {a b : Int} {r2 wr ys res : List U} {bb fl : Bool} (h1 : E1 (100000 + qc) [.sl 4 l] = some (.sl 4 out)) (h2 : E1 qh [.sl 4 l] = some (.bool bb))
    (hcase : ((bb = false ∨ 0 < wr.length) ∧ res = out ∧ fl = false) ∨ bb = true ∧ wr.length = 0 ∧ ∃ (i : Int) (at' : Nat) (b2 : Bool), E1 qi [.sl 4 l, .fn qo [.vp (.agg [.int .i64 a, .int .i64 b, .sl 2 r2, .sl 2 wr])]] = some (.int .i64 i) ∧ (i < 0 → at' = l.length) ∧ (0 ≤ i → (at' : Int) = i) ∧ at' ≤ out.length ∧
      E1 (100000 + qe) [.agg [.int .i64 a, .int .i64 b, .sl 2 r2, .sl 2 wr]] = some (.agg ys) ∧ (U.agg ys).size = 4 ∧ (out.length + 1) * by' ≤ 140737488355328 ∧
      E1 qh [.sl 4 (out.take at' ++ [.agg ys] ++ out.drop at')] = some (.bool b2) ∧ res = (if b2 then out.take at' ++ [.agg ys] ++ out.drop at' else out) ∧ fl = b2)
    (w : World) (S : Nat → Prop) (vs : List Value) (hS : ∀ b, S b → b < w.heap.size) (hargs : Args ρ w S [.sl 4 l, .agg [.int .i64 a, .int .i64 b, .sl 2 r2, .sl 2 wr]] vs) :
    Calls P f vs.toArray w fun e w' => ∃ v B h, e = .returned (.tuple #[v, .bool fl]) ∧ Below w.heap.size w w' ∧ B.Nodup ∧ (∀ b ∈ B, w.heap.size ≤ b ∧ b < w'.heap.size) ∧ Own ρ w' (.sl 4 res) h [v] B := by
  match vs, hargs with
  | [vl, vx], hargs =>
  obtain ⟨al, cl, rfl⟩ := VD_slice (hargs.1 fun _ => ⟨.dead, noHdr⟩)
  obtain ⟨cs, rfl, hux⟩ := VD_agg (hargs.2.1 fun _ => ⟨.dead, noHdr⟩)
  obtain ⟨x0, x1, x2, a3, c3, rfl⟩ := cells4 hux
  have hargL : Args ρ w S [.sl 4 l] [.slice al l.length cl] := ⟨hargs.1, trivial⟩
  have hargX : Args ρ w S [.agg [.int .i64 a, .int .i64 b, .sl 2 r2, .sl 2 wr]] [.agg #[x0, x1, x2, .slice a3 wr.length c3]] := hargs.2
  refine (W.walk al l.length cl x0 x1 x2 a3 wr.length c3 w (fun v b' w' => ∃ B h, Below w.heap.size w w' ∧ B.Nodup ∧ (∀ b ∈ B, w.heap.size ≤ b ∧ b < w'.heap.size) ∧ Own ρ w' (.sl 4 res) h [v] B ∧ b' = fl) ?_).mono fun e w' he => ?_
  rotate_left
  · obtain ⟨v, b', rfl, B, h, hbe, hn, hB, ho, rfl⟩ := he
    exact ⟨v, B, h, rfl, hbe, hn, hB, ho⟩
  unfold AddRun
  generalize hw1 : w.alloc (.cells #[x0, x1, x2, .slice a3 wr.length c3] eT (0, 0)) = w1
  have s1 : w1.heap.size = w.heap.size + 1 := by rw [← hw1]; exact Array.size_push _
  have k01 : Below w.heap.size w w1 := by rw [← hw1]; exact (Below.refl _ w).alloc (Nat.le_refl _) _
  have hbx : w1.heap[w.heap.size]? = some (.cells #[x0, x1, x2, .slice a3 wr.length c3] eT (0, 0)) := by rw [← hw1]; exact heap_alloc_new w _
  have hS1 : ∀ b, S b → b < w1.heap.size := fun b hb => by have := hS b hb; omega
  have hblk : ∀ {w'}, Below w1.heap.size w1 w' → w'.heap[w.heap.size]? = some (.cells #[x0, x1, x2, .slice a3 wr.length c3] eT (0, 0)) := fun hb => (hb.block _ (by omega)).trans hbx
  have hheld : ∀ {w'}, Below w1.heap.size w1 w' → Held4 w' w.heap.size x0 x1 x2 (.slice a3 wr.length c3) := fun hb => Held4.of (hblk hb)
  obtain ⟨_, hF⟩ := hg _ _ _ h1
  rw [show (100000 + qc) / 100000 = 1 by omega] at hF
  refine (hF w1 S _ hS1 (hargL.keep hS k01)).mono fun e w2 he => ?_
  obtain ⟨vo, B2, rfl, k12, hn2, hB2, h0, cs0, ho, hc0⟩ := he
  have hc0 : cs0 = [vo] := hc0
  subst hc0
  refine ⟨vo, rfl, ?_⟩
  have done : ∀ w', Below w2.heap.size w2 w' → res = out ∧ fl = false → ∃ B h, Below w.heap.size w w' ∧ B.Nodup ∧ (∀ b ∈ B, w.heap.size ≤ b ∧ b < w'.heap.size) ∧ Own ρ w' (.sl 4 res) h [vo] B ∧ false = fl := fun w' hb hr => by
    obtain ⟨rfl, rfl⟩ := hr
    have := k12.size
    have := hb.size
    exact ⟨B2, h0, (k01.tr (k12.to (by omega))).tr (hb.to (by omega)), hn2, fun b hm => ⟨by have := (hB2 b hm).1; omega, by have := (hB2 b hm).2; omega⟩, ho.keep (fun b hm => (hB2 b hm).2) hb, rfl⟩
  obtain ⟨_, hV⟩ := hg _ _ _ h2
  rw [show qh / 100000 = 0 by omega] at hV
  have z2 := k12.size
  refine (hV w2 S _ (fun b hb => by have := hS1 b hb; omega) ((hargL.keep hS k01).keep hS1 k12)).mono fun e w3 he => ?_
  obtain ⟨vb, rfl, k23, hvb⟩ := he
  obtain rfl := VD_bool (hvb fun _ => ⟨.dead, noHdr⟩)
  have z3 := k23.size
  have k13 : Below w1.heap.size w1 w3 := k12.tr (k23.to z2)
  rcases hcase with ⟨hc, hr⟩ | ⟨rfl, hw0, i, at', b2, hi, hai, hai', hao, he, hys, hby, hh, hres, hfl⟩
  · refine ⟨bb, rfl, hheld k13, fun _ => done w3 k23 hr, fun _ => done w3 k23 hr, fun hb hn => ?_⟩
    rcases hc with hc | hc
    · rw [hb] at hc; cases hc
    · exact absurd hc hn
  refine ⟨true, rfl, hheld k13, fun hb => (by cases hb), fun hn => (by omega), fun _ _ => ?_⟩
  obtain ⟨_, hV4⟩ := hg _ _ _ hi
  rw [show qi / 100000 = 0 by omega] at hV4
  have k03 : Below w.heap.size w w3 := k01.tr (k13.to (by omega))
  have hargI : Args ρ w3 (fun b => S b ∨ b = w.heap.size) [.sl 4 l, .fn qo [.vp (.agg [.int .i64 a, .int .i64 b, .sl 2 r2, .sl 2 wr])]] [.slice al l.length cl, .func (.func (ρ qo)) #[] #[.pointer (some ⟨w.heap.size, 0, none⟩)]] := by
    refine ⟨((hargL.keep hS k03).mono (fun _ h => .inl h) fun _ _ _ _ h => h).1, fun β => VD_val ⟨[_], .fn (vs := [.pointer (some ⟨w.heap.size, 0, none⟩)]) qo (.vp w.heap.size 0 (.inr rfl) (c1 := [x0, x1, x2, .slice a3 wr.length c3]) ?_ ?_ .nil) (by simp [U.isVp]) .nil, rfl⟩, trivial⟩
    · exact rangeAt_of_row (hblk k13) fun j v hv => by simpa using hv
    · have := (hargX.keep hS k03).1 fun _ => ⟨.dead, noHdr⟩
      obtain ⟨cs, e1, hu⟩ := VD_agg this
      have e2 : cs = [x0, x1, x2, .slice a3 wr.length c3] := by
        have := congrArg (fun v => match v with | Value.agg c => c.toList | _ => []) e1
        simpa using this.symm
      rw [← e2]
      exact (hu.mono (fun _ h => .inl h) fun _ _ _ _ h => h).of_agg
  refine (hV4 w3 _ _ (fun b hb => hb.elim (fun hb => by have := hS1 b hb; omega) (fun hb => by omega)) hargI).mono fun e w4 he4 => ?_
  obtain ⟨vi, rfl, k34, hvi⟩ := he4
  obtain rfl := VD_int (hvi fun _ => ⟨.dead, noHdr⟩)
  have z4 := k34.size
  have k14 : Below w1.heap.size w1 w4 := k13.tr (k34.to (by omega))
  have k24 : Below w2.heap.size w2 w4 := k23.tr (k34.to (by omega))
  refine ⟨i, rfl, hheld k14, fun at2 ha1 ha2 w4' A4 => ?_⟩
  obtain rfl : at2 = (at' : Int) := by
    by_cases hneg : i < 0
    · rw [ha1 hneg, hai hneg]
    · rw [ha2 (by omega), hai' (by omega)]
  have s4 : w4'.heap.size = w4.heap.size := by rw [A4.heap]
  have k24' : Below w2.heap.size w2 w4' := k24.tr (A4.below _)
  obtain ⟨T, olds, bT, hout, hT, hTB, holen, hol1, hTn, hclone⟩ : ∃ (T : List Tok) (olds : List Value) (BT : List Nat), out = T.map (·.u) ∧ (∀ t ∈ T, t.ok ρ w2 4) ∧ (∀ b ∈ (T.map (·.B)).flatten, b ∈ B2) ∧ olds = (T.map (·.c)).flatten ∧ (∀ v ∈ olds, v.oneCell' = true) ∧ ((T.map (·.B)).flatten).Nodup ∧
      Calls P cln #[vo] w4' fun e w5 => ∃ cl, e = .returned cl ∧ Below w4'.heap.size w4' w5 ∧ ((out.length = 0 ∧ olds = [] ∧ ∃ a, cl = .slice a 0 0) ∨ ∃ g, RowAt w5 4 out.length cl olds g ∧ w4'.heap.size ≤ g ∧ g < w5.heap.size) := by
    rcases own_parts ho with ⟨hl0, a, hv⟩ | ⟨bo, cap, cur, e, cs, B1, hv, hb, hsz, hle, hmax, hks, ht, g1, hBs⟩
    · subst hl0
      refine ⟨[], [], [], rfl, by simp, by simp, rfl, by simp, List.nodup_nil, ?_⟩
      rw [hv]
      refine (C.empty a 0 w4').mono fun e w5 he => ?_
      obtain ⟨a', rfl, hb⟩ := he
      exact ⟨_, rfl, hb, .inl ⟨rfl, rfl, _, rfl⟩⟩
    · obtain ⟨T, rfl, rfl, rfl, hT⟩ := toks_of out h0 0 cs B1 g1 hks
      have hfl := toks_flat_len hT
      have hol1 := g1.oneCell
      rw [List.length_map] at hv hle ht
      rw [hBs] at hn2
      refine ⟨T, _, [], rfl, hT, fun b hb => by rw [hBs]; exact List.mem_cons_of_mem _ hb, rfl, hol1, (List.nodup_cons.1 hn2).2, ?_⟩
      have hbo : bo < w2.heap.size := (hB2 bo (by rw [hBs]; simp)).2
      have hb' : w4'.heap[bo]? = some (.cells cur e (0, 0)) := (k24'.block bo hbo).trans hb
      have hcell : ∀ j v, ((T.map (·.c)).flatten)[j]? = some v → w4'.cell? ⟨bo, j, none⟩ = some v := fun j v hv => by
        have := (rangeAt_of_row hb' (off := 0) (c := (T.map (·.c)).flatten) fun j v hv => by
          rw [← ht, List.getElem?_take] at hv
          split at hv
          · simpa using hv
          · cases hv) j v hv
        rwa [Nat.zero_add] at this
      rw [hv]
      by_cases hn : T.length = 0
      · have hT0 : T = [] := List.length_eq_zero_iff.1 hn
        subst hT0
        refine (C.empty _ _ w4').mono fun e w5 he => ?_
        obtain ⟨a', rfl, hb⟩ := he
        exact ⟨_, rfl, hb, .inl ⟨rfl, rfl, _, rfl⟩⟩
      · refine (C.more bo T.length cap _ w4' (by omega) hfl (by
          rw [List.length_map] at hby
          exact Nat.le_trans (Nat.mul_le_mul_right _ (Nat.le_succ _)) hby) (Nat.le_trans hle hmax) hcell hol1).mono fun e w5 he => ?_
        obtain ⟨v, nb, rfl, hr, h3, h4, h5⟩ := he
        exact ⟨v, rfl, h5, .inr ⟨nb, by rw [List.length_map]; exact hr, h3, h4⟩⟩
  refine hclone.mono fun e w5 he5 => ?_
  obtain ⟨cv, rfl, k45, hcv⟩ := he5
  have z5 := k45.size
  have k25 : Below w2.heap.size w2 w5 := k24'.tr (k45.to (by omega))
  have k15 : Below w1.heap.size w1 w5 := k12.tr (k25.to (by omega))
  refine ⟨cv, rfl, hheld k15, fun w5' A5 => ?_⟩
  have s5 : w5'.heap.size = w5.heap.size := by rw [A5.heap]
  have k05' : Below w.heap.size w w5' := (k01.tr (k15.to (by omega))).tr (A5.below _)
  obtain ⟨_, hF6⟩ := hg _ _ _ he
  rw [show (100000 + qe) / 100000 = 1 by omega] at hF6
  refine (hF6 w5' S _ (fun b hb => by have := hS1 b hb; omega) (hargX.keep hS k05')).mono fun e w6 he6 => ?_
  obtain ⟨ve, B6, rfl, k56, hn6, hB6, h6, cs6, ho6, hc6⟩ := he6
  have hc6 : ve = .agg cs6.toArray := hc6
  subst hc6
  have hlen6 : cs6.length = 4 := by
    have := TCs.length ho6
    simp only [xsizes, size_uex, hys] at this
    omega
  obtain ⟨y0, y1, y2, y3, rfl⟩ := four hlen6
  have o6 := TCs.oneCell ho6
  refine ⟨y0, y1, y2, y3, rfl, ⟨o6 _ (by simp), o6 _ (by simp), o6 _ (by simp), o6 _ (by simp)⟩, fun w6' A6 w7 A7 => ?_⟩
  have z6 := k56.size
  have s6 : w6'.heap.size = w6.heap.size := by rw [A6.heap]
  have s7 : w7.heap.size = w6'.heap.size + 1 := by rw [A7.heap]; exact Array.size_push _
  have k67 : Below w6'.heap.size w6' w7 := ((Below.refl _ w6').alloc (Nat.le_refl _) _).tr (A7.below _)
  have k57 : Below w5.heap.size w5 w7 := (A5.below _).tr ((k56.to (by omega)).tr ((A6.below _).tr (k67.to (by omega))))
  have hvb7 : w7.heap[w6'.heap.size]? = some (.cells #[y0, y1, y2, y3] eT (0, 0)) := by rw [A7.heap]; exact heap_alloc_new w6' _
  have hnews : ∀ j v, [y0, y1, y2, y3][j]? = some v → w7.cell? ⟨w6'.heap.size, 0 + j, none⟩ = some v := fun j v hv => (rangeAt_of_row hvb7 fun j v hv => by simpa using hv) j v hv
  have hin : (out.length = 0 ∧ olds = [] ∧ ∃ a, cv = .slice a 0 0) ∨ ∃ g, RowAt w7 4 out.length cv olds g ∧ w6'.heap.size ≠ g := by
    rcases hcv with hcv | ⟨g, ⟨cap, cur, e, r1, r2, r3⟩, hg1, hg2⟩
    · exact .inl hcv
    · exact .inr ⟨g, ⟨cap, cur, e, r1, (k57.block g hg2).trans r2, r3⟩, by omega⟩
  refine (insert_raw L (by decide) hb0 hzc out.length 1 at' hao (by decide) hby hin rfl o6 hol1 hnews).mono fun e w8 he8 => ?_
  obtain ⟨nx, nb, rfl, ⟨ncap, ncur, ne, rfl, hnb, hnsz, hnle, hnmax, hnt⟩, hnb1, hnb2, hbeh⟩ := he8
  refine ⟨_, rfl, fun w8' A8 => ?_⟩
  have z8 := hbeh.size
  have s8 : w8'.heap.size = w8.heap.size := by rw [A8.heap]
  have hclb : ∀ b, (∃ cap, cv = .slice (some ⟨b, 0, none⟩) out.length cap ∧ 0 < cap) → w4'.heap.size ≤ b ∧ b < w5.heap.size := fun b ⟨cap, hb, hpos⟩ => by
    rcases hcv with ⟨hl0, _, a, e⟩ | ⟨g, ⟨cap, cur, e, rfl, _⟩, hg1, hg2⟩
    · rw [e] at hb
      injection hb with _ _ h3
      omega
    · cases hb; exact ⟨hg1, hg2⟩
  have k78 : Below w4'.heap.size w7 w8 := hbeh.to (by have := k57.size; omega) fun b hb => (hclb b hb).1
  have k68 : ∀ b, w5'.heap.size ≤ b → b < w7.heap.size → w8.heap[b]? = w7.heap[b]? := fun b h1 h2 => hbeh.block b h2 fun hb => by have := (hclb b hb).2; omega
  have k28 : Below w2.heap.size w2 w8 := k25.tr ((k57.to (by omega)).tr (k78.to (by omega)))
  have k28' : Below w2.heap.size w2 w8' := k28.tr (A8.below _)
  have hnb5 : w4'.heap.size ≤ nb ∧ (nb < w5.heap.size ∨ w7.heap.size ≤ nb) := by
    have := k57.size
    rcases hnb1 with h | h
    · exact ⟨by omega, .inr h⟩
    · exact ⟨(hclb nb h).1, .inl (hclb nb h).2⟩
  let tx : Tok := ⟨h6, .agg ys, [y0, y1, y2, y3], B6⟩
  have htx6 : tx.ok ρ w6 4 := ⟨ho6, rfl⟩
  have htx : tx.ok ρ w8' 4 := htx6.keep fun b hb => by
    have hb6 := hB6 b hb
    rw [A8.heap, k68 b hb6.1 (by omega), k67.block b (by omega), A6.heap]
  let T' : List Tok := T.take at' ++ [tx] ++ T.drop at'
  have hT' : ∀ t ∈ T', t.ok ρ w8' 4 := fun t ht => by
    have hk : ∀ t ∈ T, t.ok ρ w8' 4 := fun t ht => (hT t ht).keep fun b hb => k28'.block b (hB2 b (hTB b (List.mem_flatten.2 ⟨t.B, List.mem_map.2 ⟨t, ht, rfl⟩, hb⟩))).2
    rcases List.mem_append.1 ht with ht | ht
    · rcases List.mem_append.1 ht with ht | ht
      · exact hk t (List.mem_of_mem_take ht)
      · rw [List.mem_singleton.1 ht]; exact htx
    · exact hk t (List.mem_of_mem_drop ht)
  have hTl : T'.length = out.length + 1 := by
    have : out.length = T.length := by rw [hout, List.length_map]
    simp only [T', List.length_append, List.length_take, List.length_drop, List.length_singleton]
    omega
  have hTu : T'.map (·.u) = out.take at' ++ [.agg ys] ++ out.drop at' := by
    simp only [T', List.map_append, List.map_take, List.map_drop, ← hout]
    rfl
  have hTc : (T'.map (·.c)).flatten = olds.take (at' * 4) ++ [y0, y1, y2, y3] ++ olds.drop (at' * 4) := by
    have hl : ∀ t ∈ T, t.c.length = 4 := fun t ht => (hT t ht).2
    simp only [T', List.map_append, List.flatten_append, holen]
    have e := flat_take_drop T at' hl
    rw [e.1, e.2]
    rfl
  have hTBp : ((T'.map (·.B)).flatten).Perm ((T.map (·.B)).flatten ++ B6) := by
    simp only [T', List.map_append, List.flatten_append]
    have e : ((T.take at').map (·.B)).flatten ++ ((T.drop at').map (·.B)).flatten = (T.map (·.B)).flatten := by
      rw [← List.flatten_append, ← List.map_append, List.take_append_drop]
    rw [← e]
    show ((List.map (·.B) (T.take at')).flatten ++ ([B6] : List (List Nat)).flatten ++ _).Perm _
    rw [show ([B6] : List (List Nat)).flatten = B6 by simp, List.append_assoc, List.append_assoc]
    exact List.Perm.append_left _ List.perm_append_comm
  have hnb8 : w8'.heap[nb]? = some (.cells ncur ne (0, 0)) := by rw [A8.heap]; exact hnb
  have own := own_of_toks hT' hnb8 hnsz (by rw [hTl]; exact hnle) hnmax (by rw [hTl, hTc]; exact hnt)
  rw [hTu, hTl] at own
  have hmem : ∀ b ∈ (T'.map (·.B)).flatten, b < w2.heap.size ∧ w1.heap.size ≤ b ∨ w5'.heap.size ≤ b ∧ b < w6.heap.size := fun b hb => by
    rcases List.mem_append.1 (hTBp.mem_iff.1 hb) with hb | hb
    · have := hB2 b (hTB b hb); exact .inl ⟨this.2, this.1⟩
    · exact .inr (hB6 b hb)
  have hallt : ∀ b ∈ nb :: (T'.map (·.B)).flatten, b < w8'.heap.size := fun b hb => by
    rcases List.mem_cons.1 hb with rfl | hb
    · omega
    · have := hmem b hb; have := k28.size; omega
  obtain ⟨_, hV8⟩ := hg _ _ _ hh
  rw [show qh / 100000 = 0 by omega] at hV8
  have hread : Args ρ w8' (fun b => b < w8'.heap.size) [.sl 4 (out.take at' ++ [.agg ys] ++ out.drop at')] [.slice (some ⟨nb, 0, none⟩) (out.length + 1) ncap] :=
    ⟨fun β => VD_val ⟨_, own_read _ _ _ _ own fun b hb => hallt b hb, rfl⟩, trivial⟩
  refine (hV8 w8' _ _ (fun b hb => hb) hread).mono fun e w9 he9 => ?_
  obtain ⟨vb9, rfl, k89, hvb9⟩ := he9
  obtain rfl := VD_bool (hvb9 fun _ => ⟨.dead, noHdr⟩)
  have z9 := k89.size
  refine ⟨b2, rfl, fun hb => ?_, fun hb => ?_⟩
  · subst hb
    exact done w9 (k28'.tr (k89.to (by have := k28'.size; omega))) ⟨by simpa using hres, hfl⟩
  · subst hb
    have hr : res = out.take at' ++ [.agg ys] ++ out.drop at' := by simpa using hres
    rw [hr]
    have k19 : Below w.heap.size w w9 := ((k01.tr (k12.to (by omega))).tr (k28'.to (by omega))).tr (k89.to (by have := k28'.size; omega))
    refine ⟨_, _, k19, List.nodup_cons.2 ⟨fun hm => ?_, hTBp.nodup_iff.2 (List.nodup_append.2 ⟨hTn, hn6, fun x hx y hy => ?_⟩)⟩, fun b hb => ⟨?_, by have := hallt b hb; omega⟩, own.keep hallt k89, hfl.symm⟩
    · have := hmem nb hm
      omega
    · have := (hB2 x (hTB x hx)).2
      have := (hB6 y hy).1
      omega
    · rcases List.mem_cons.1 hb with rfl | hb
      · omega
      · have := hmem b hb; omega
theorem add_good {E1 : Env} (hg : Good P ρ E1) {R : Ren} {by' : Nat} {z : Value} (L : InsP P R 4 by' z) (hzc : z.cells.size = 4) (hb0 : 0 < by') {cln : FuncId} (C : CloneRaw P cln 4 by') {q qc qh qi qo qe : Nat} {eT : TypeId}
    (W : AddP P (ρ q) (ρ (100000 + qc)) (ρ qh) (ρ qi) (ρ qo) cln (ρ (100000 + qe)) (R.f 21) eT) (hq : q / 100000 = 1 ∨ q / 100000 = 0) (hok : callOK P (ρ q) = true) (hqc : qc < 100000) (hqh : qh < 100000) (hqi : qi < 100000) (hqe : qe < 100000)
    {l out : List U} {a b : Int} {r2 wr ys res : List U} {bb fl : Bool} (h1 : E1 (100000 + qc) [.sl 4 l] = some (.sl 4 out)) (h2 : E1 qh [.sl 4 l] = some (.bool bb))
    (hcase : ((bb = false ∨ 0 < wr.length) ∧ res = out ∧ fl = false) ∨ bb = true ∧ wr.length = 0 ∧ ∃ (i : Int) (at' : Nat) (b2 : Bool), E1 qi [.sl 4 l, .fn qo [.vp (.agg [.int .i64 a, .int .i64 b, .sl 2 r2, .sl 2 wr])]] = some (.int .i64 i) ∧ (i < 0 → at' = l.length) ∧ (0 ≤ i → (at' : Int) = i) ∧ at' ≤ out.length ∧
      E1 (100000 + qe) [.agg [.int .i64 a, .int .i64 b, .sl 2 r2, .sl 2 wr]] = some (.agg ys) ∧ (U.agg ys).size = 4 ∧ (out.length + 1) * by' ≤ 140737488355328 ∧
      E1 qh [.sl 4 (out.take at' ++ [.agg ys] ++ out.drop at')] = some (.bool b2) ∧ res = (if b2 then out.take at' ++ [.agg ys] ++ out.drop at' else out) ∧ fl = b2) :
    GoodAt P ρ q [.sl 4 l, .agg [.int .i64 a, .int .i64 b, .sl 2 r2, .sl 2 wr]] (.tup [.sl 4 res, .bool fl]) := by
  have key := add_core (ρ := ρ) hg L hzc hb0 C W hqc hqh hqi hqe h1 h2 hcase
  refine ⟨hok, div_match.2 ⟨fun _ w S vs hS hargs => ?_, fun _ w S vs hS hargs => ?_, fun h1 => by omega, fun h1 => by omega, fun h1 => by omega, fun h1 => by omega⟩⟩
  · refine (key w S vs hS hargs).mono fun e w' he => ?_
    obtain ⟨v, B, h, rfl, hbe, hn, hB, ho⟩ := he
    exact ⟨_, rfl, hbe, fun β => ⟨[v, .bool fl], rfl, v, [.bool fl], rfl, UV.v1 ⟨[v], own_read _ _ _ _ ho fun b hb => .inr (hB b hb), rfl⟩, .bool fl, [], rfl, UV.v1 (UV_bool _ fl), rfl⟩⟩
  · refine (key w S vs hS hargs).mono fun e w' he => ?_
    obtain ⟨v, B, h, rfl, hbe, hn, hB, ho⟩ := he
    exact ⟨_, B, rfl, hbe, hn, hB, [v, .bool fl], [h, noHdr], rfl, v, [.bool fl], h, [noHdr], B, [], rfl, rfl, by simp, ⟨[v], ho, rfl⟩, .bool fl, [], noHdr, [], [], [], rfl, rfl, rfl, ⟨[.bool fl], flat_ex (w := w') (S := fun _ => False) (.bool fl) noHdr [.bool fl] rfl (.bool fl .nil), rfl⟩, rfl, rfl, rfl⟩
def addAt (l : List U) (i : Int) : Nat := if i < 0 then l.length else i.toNat
def addU4 (out nxt : List U) : Option U → Option U
  | some (.bool b2) => some (.tup [.sl 4 (if b2 then nxt else out), .bool b2])
  | _ => none
noncomputable def addU3 (E1 : Env) (qh by' : Nat) (l out : List U) : Option U → Option U → Option U
  | some (.int .i64 i), some (.agg ys) => if addAt l i ≤ out.length ∧ (U.agg ys).size = 4 ∧ (out.length + 1) * by' ≤ 140737488355328 then
      addU4 out (out.take (addAt l i) ++ [.agg ys] ++ out.drop (addAt l i)) (E1 qh [.sl 4 (out.take (addAt l i) ++ [.agg ys] ++ out.drop (addAt l i))]) else none
  | _, _ => none
noncomputable def addU2 (E1 : Env) (qh qi qo qe by' : Nat) (l : List U) (x : U) (wr : List U) : Option U → Option U → Option U
  | some (.sl 4 out), some (.bool bb) => if bb = false ∨ 0 < wr.length then some (.tup [.sl 4 out, .bool false]) else addU3 E1 qh by' l out (E1 qi [.sl 4 l, .fn qo [.vp x]]) (E1 (100000 + qe) [x])
  | _, _ => none
noncomputable def addU (E1 : Env) (qc qh qi qo qe by' : Nat) : List U → Option U
  | [.sl 4 l, .agg [.int .i64 a, .int .i64 b, .sl 2 r2, .sl 2 wr]] => addU2 E1 qh qi qo qe by' l (.agg [.int .i64 a, .int .i64 b, .sl 2 r2, .sl 2 wr]) wr (E1 (100000 + qc) [.sl 4 l]) (E1 qh [.sl 4 l])
  | _ => none
noncomputable def addE (q qc qh qi qo qe by' : Nat) (E1 E0 : Env) : Env := fun r us => if r = q ∨ r = 100000 + q then addU E1 qc qh qi qo qe by' us else E0 r us
theorem good_addE {E1 E0 : Env} (hg : Good P ρ E1) (h0 : Good P ρ E0) {R : Ren} {by' : Nat} {z : Value} (L : InsP P R 4 by' z) (hzc : z.cells.size = 4) (hb0 : 0 < by') {cln : FuncId} (C : CloneRaw P cln 4 by') {q qc qh qi qo qe : Nat} {eT : TypeId}
    (W : AddP P (ρ q) (ρ (100000 + qc)) (ρ qh) (ρ qi) (ρ qo) cln (ρ (100000 + qe)) (R.f 21) eT) (hq : q < 100000) (hqF : ρ (100000 + q) = ρ q) (hok : callOK P (ρ q) = true) (hqc : qc < 100000) (hqh : qh < 100000) (hqi : qi < 100000) (hqe : qe < 100000) : Good P ρ (addE q qc qh qi qo qe by' E1 E0) := fun r us u h => by
  unfold addE at h
  split at h
  · rename_i hr
    have W : AddP P (ρ r) (ρ (100000 + qc)) (ρ qh) (ρ qi) (ρ qo) cln (ρ (100000 + qe)) (R.f 21) eT := by
      rcases hr with rfl | rfl
      · exact W
      · rw [hqF]; exact W
    have hok : callOK P (ρ r) = true := by
      rcases hr with rfl | rfl
      · exact hok
      · rw [hqF]; exact hok
    have hq : r / 100000 = 1 ∨ r / 100000 = 0 := by omega
    unfold addU at h
    split at h
    · rename_i l a b r2 wr
      unfold addU2 at h
      split at h
      · rename_i out bb h1 h2
        split at h
        · rename_i hc
          cases h
          exact add_good (ys := []) hg L hzc hb0 C W hq hok hqc hqh hqi hqe h1 h2 (.inl ⟨hc, rfl, rfl⟩)
        · rename_i hc
          have hbb : bb = true := by cases bb <;> simp_all
          have hw0 : wr.length = 0 := by
            rcases Nat.eq_zero_or_pos wr.length with h | h
            · exact h
            · exact absurd (.inr h) hc
          unfold addU3 at h
          split at h
          · rename_i i ys h3 h4
            split at h
            · rename_i hx
              unfold addU4 at h
              split at h
              · rename_i b2 h5
                cases h
                refine add_good hg L hzc hb0 C W hq hok hqc hqh hqi hqe h1 h2 (.inr ⟨hbb, hw0, i, _, b2, h3, fun hn => by unfold addAt; rw [if_pos hn], fun hn => by unfold addAt; rw [if_neg (by omega)]; omega, hx.1, h4, hx.2.1, hx.2.2, h5, rfl, rfl⟩)
              · cases h
            · cases h
          · cases h
      · cases h
    · cases h
  · exact h0 r us u h
end
theorem addE_W {q qc qh qi qo qe by' : Nat} {E1 E0 : Env} {tbl : Nat → Option Fn} (h1 : tbl q = none) (h2 : tbl (100000 + q) = none) (us : List U) : EnvW (addE q qc qh qi qo qe by' E1 E0) tbl q us = addU E1 qc qh qi qo qe by' us ∧ EnvW (addE q qc qh qi qo qe by' E1 E0) tbl (100000 + q) us = addU E1 qc qh qi qo qe by' us := by
  constructor
  · rw [envW_ext h1]
    unfold addE
    rw [if_pos (.inl rfl)]
  · rw [envW_ext h2]
    unfold addE
    rw [if_pos (.inr rfl)]
theorem isClone_A {r qc qh qi qo qe by' : Nat} {E1 : Env} {l : List (Nat × Nat × Nat × AC)} {tbl : Nat → Option Fn} {q k b : Nat} {ac : AC} (hr : q ≠ r) (hr1 : r < 100000) (hq : q < 100000) (h1 : tbl q = none) (h2 : tbl (100000 + q) = none) (hl : l.lookup q = some (k, b, ac)) :
    IsClone (EnvW (addE r qc qh qi qo qe by' E1 (cloneE l)) tbl) q k b := by
  have e1 : q / 100000 = 0 := Nat.div_eq_of_lt hq
  have e2 : q % 100000 = q := Nat.mod_eq_of_lt hq
  have e3 : (100000 + q) / 100000 = 1 := by omega
  have e4 : (100000 + q) % 100000 = q := by omega
  refine ⟨fun us => ?_, fun us => ?_⟩
  · rw [envW_ext h1]
    have n1 : ¬ q = 100000 + r := by omega
    simp [addE, hr, n1, cloneE, e1, e2, hl]
  · rw [envW_ext h2]
    have n1 : ¬ 100000 + q = r := by omega
    have n2 : ¬ 100000 + q = 100000 + r := by omega
    simp [addE, n1, n2, hr, cloneE, e3, e4, hl]
end Go.Proofs.Ytlgblpngiamhaaa.Am
