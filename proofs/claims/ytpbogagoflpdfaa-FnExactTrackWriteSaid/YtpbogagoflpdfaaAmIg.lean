import Derived.Test.YtpbogagoflpdfaaAmCl
import Derived.Test.YtpbogagoflpdfaaAmIn
namespace Go.Proofs.Ytpbogagoflpdfaa.Am
open Go Go.RowKit Go.Shelf Go.Proofs
section
variable {P : Program} {ρ : Nat → FuncId} {w w' : World} {S : Nat → Prop} {β : Nat → Lay}
theorem setCells_row (b : Nat) (e : TypeId) : ∀ (vs : List Value) (o : Nat) (cur : Array Value) (w : World), w.heap[b]? = some (.cells cur e (0, 0)) → o + vs.length ≤ cur.size →
    w.setCells b o vs = w.setRow b (cur.toList.take o ++ vs ++ cur.toList.drop (o + vs.length)).toArray
  | [], o, cur, w, hg, _ => by
    simp only [World.setCells, List.append_nil, List.length_nil, Nat.add_zero, List.take_append_drop, Array.toArray_toList]
    rw [setRow_self w b cur e (0, 0) hg]
  | v :: rest, o, cur, w, hg, hl => by
    have hi : o < cur.size := by simp at hl; omega
    simp only [World.setCells]
    rw [setCell_eq_setRow w b o cur e (0, 0) v hg]
    rw [setCells_row b e rest (o + 1) _ _ (setRow_heap w b cur _ e _ hg) (by simp at hl ⊢; omega), setRow_setRow]
    congr 2
    have e2 := list_seg_step cur.toList o v rest (by simp at hl ⊢; omega)
    simpa [Array.toList_setIfInBounds, Nat.add_assoc] using e2
theorem own_parts {k : Nat} {us : List U} {h : Hdr} {v : Value} {B : List Nat} (o : Own ρ w (.sl k us) h [v] B) :
    (us = [] ∧ ∃ a, v = .slice a 0 0) ∨ ∃ b cap cur e cs B1, v = .slice (some ⟨b, 0, none⟩) us.length cap ∧ w.heap[b]? = some (.cells cur e (0, 0)) ∧ cur.size = cap * k ∧ us.length ≤ cap ∧ cap ≤ maxLen ∧ (∀ d ∈ U.ex.exs us, d.size = k) ∧ cur.toList.take (us.length * k) = cs ∧
      TCs ρ w (fun _ => False) (fun _ => ⟨.dead, noHdr⟩) (elts h k 0 (U.ex.exs us)) cs B1 ∧ B = b :: B1 := by
  have hlen : (U.ex.exs us).length = us.length := by rw [uexs_eq]; simp
  unfold Own at o
  simp only [U.ex] at o
  generalize hds : U.ex.exs us = ds at o hlen ⊢
  cases o with
  | osl0 hh t => exact .inl ⟨List.length_eq_zero_iff.1 hlen.symm, _, rfl⟩
  | osl hh hb hsz hle hmax hks hct g1 t =>
    cases t
    rw [hlen] at hh hle hct
    exact .inr ⟨_, _, _, _, _, _, by rw [hlen], hb, hsz, hle, hmax, hks, hct, g1, by simp⟩
def insH (i m : Nat) (v : Value) (h0 h1 : Hdr) : Hdr
  | [] => some v
  | .elt j k :: q => if j < i then h0 (.elt j k :: q) else if j < i + m then h1 (.elt (j - i) k :: q) else h0 (.elt (j - m) k :: q)
  | _ => none
theorem elts_insH (k : Nat) (v : Value) (h0 h1 : Hdr) (ds1 es ds2 : List D) : elts (insH ds1.length es.length v h0 h1) k 0 (ds1 ++ es ++ ds2) = elts h0 k 0 ds1 ++ elts h1 k 0 es ++ elts h0 k ds1.length ds2 := by
  rw [elts_append, elts_append, Nat.zero_add, List.length_append]
  congr 1
  · congr 1
    · refine elts_congr ds1 0 fun i _ hi => ?_
      funext q
      simp only [Hdr.at, insH]
      rw [if_pos (by omega)]
    · have hs : elts (insH ds1.length es.length v h0 h1) k (ds1.length + 0) es = elts (fun q => insH ds1.length es.length v h0 h1 (match q with | .elt j k' :: q => .elt (ds1.length + j) k' :: q | q => q)) k 0 es := elts_shift es 0 fun j => rfl
      rw [Nat.add_zero] at hs
      rw [hs]
      refine elts_congr es 0 fun i _ hi => ?_
      funext q
      simp only [Hdr.at, insH]
      rw [if_neg (by omega), if_pos (by omega), Nat.add_sub_cancel_left]
  · have hs : elts (insH ds1.length es.length v h0 h1) k (es.length + ds1.length) ds2 = elts (fun q => insH ds1.length es.length v h0 h1 (match q with | .elt j k' :: q => .elt (es.length + j) k' :: q | q => q)) k ds1.length ds2 := elts_shift ds2 ds1.length fun j => rfl
    rw [Nat.zero_add, Nat.add_comm ds1.length es.length, hs]
    refine elts_congr ds2 ds1.length fun i h1 hi => ?_
    funext q
    simp only [Hdr.at, insH]
    rw [if_neg (by omega), if_neg (by omega), Nat.add_sub_cancel_left]
theorem ins_own {k i : Nat} {xs ys : List U} {h0 h1 : Hdr} {olds news : List Value} {B0 B1 : List Nat}
    (t0 : TCs ρ w (fun _ => False) (fun _ => ⟨.dead, noHdr⟩) (elts h0 k 0 (U.ex.exs xs)) olds B0) (t1 : TCs ρ w (fun _ => False) (fun _ => ⟨.dead, noHdr⟩) (elts h1 k 0 (U.ex.exs ys)) news B1)
    (hk0 : ∀ d ∈ U.ex.exs xs, d.size = k) (hk1 : ∀ d ∈ U.ex.exs ys, d.size = k) (hi : i ≤ xs.length) (hn : (B0 ++ B1).Nodup) {nb cap : Nat} {cur : Array Value} {e : TypeId} (hnb : nb ∉ B0 ++ B1) (hkeep : ∀ b ∈ B0 ++ B1, w'.heap[b]? = w.heap[b]?)
    (hb : w'.heap[nb]? = some (.cells cur e (0, 0))) (hsz : cur.size = cap * k) (hle : xs.length + ys.length ≤ cap) (hmax : cap ≤ maxLen) (ht : cur.toList.take ((xs.length + ys.length) * k) = olds.take (i * k) ++ news ++ olds.drop (i * k)) :
    ∃ h' Bs, Own ρ w' (.sl k (xs.take i ++ ys ++ xs.drop i)) h' [.slice (some ⟨nb, 0, none⟩) (xs.length + ys.length) cap] Bs ∧ Bs.Nodup ∧ ∀ b ∈ Bs, b = nb ∨ b ∈ B0 ++ B1 := by
  have hx : U.ex.exs xs = U.ex.exs (xs.take i) ++ U.ex.exs (xs.drop i) := by
    simp only [uexs_eq]
    rw [← List.map_append, List.take_append_drop]
  have hl1 : (U.ex.exs (xs.take i)).length = i := by rw [uexs_eq, List.length_map, List.length_take]; omega
  have hl2 : (U.ex.exs ys).length = ys.length := by rw [uexs_eq, List.length_map]
  rw [hx, elts_append, Nat.zero_add, hl1] at t0
  obtain ⟨c1, c2, Ba, Bb, rfl, rfl, hc1, ta, tb⟩ := t0.split
  have hkt : ∀ d ∈ U.ex.exs (xs.take i), d.size = k := fun d hd => hk0 d (by rw [hx]; simp [hd])
  have hkd : ∀ d ∈ U.ex.exs (xs.drop i), d.size = k := fun d hd => hk0 d (by rw [hx]; simp [hd])
  have hc1' : c1.length = i * k := by rw [ta.length, xsizes_elts, dsizes_uniform hkt, hl1]
  rw [show (c1 ++ c2).take (i * k) = c1 by rw [← hc1']; exact List.take_left, show (c1 ++ c2).drop (i * k) = c2 by rw [← hc1']; exact List.drop_left] at ht
  have keep : ∀ {xs : List (Hdr × D)} {cs : List Value} {B : List Nat}, TCs ρ w (fun _ => False) (fun _ => ⟨.dead, noHdr⟩) xs cs B → (∀ b ∈ B, b ∈ Ba ++ Bb ++ B1) → TCs ρ w' (fun _ => False) (fun _ => ⟨.dead, noHdr⟩) xs cs B := fun t hB => t.mono (fun _ h => h) (fun b hb => hb.elim) (fun b hb => hkeep b (hB b hb)) (fun _ _ => rfl)
  have ta := keep ta (fun b hb => by simp [hb])
  have tb := keep tb (fun b hb => by simp [hb])
  have t1 := keep t1 (fun b hb => by simp [hb])
  have tt := (ta.append t1).append tb
  have hz : U.ex.exs (xs.take i ++ ys ++ xs.drop i) = U.ex.exs (xs.take i) ++ U.ex.exs ys ++ U.ex.exs (xs.drop i) := by simp only [uexs_eq, List.map_append]
  have hzl : (U.ex.exs (xs.take i ++ ys ++ xs.drop i)).length = xs.length + ys.length := by
    rw [uexs_eq]
    simp only [List.length_map, List.length_append, List.length_take, List.length_drop]
    omega
  refine ⟨insH i ys.length (.slice (some ⟨nb, 0, none⟩) (xs.length + ys.length) cap) h0 h1, nb :: (Ba ++ B1 ++ Bb), ?_, ?_, fun b hb => ?_⟩
  · have := TCs.osl (ρ := ρ) (w := w') (S := fun _ => False) (β := fun _ => ⟨.dead, noHdr⟩) (h := insH i ys.length (.slice (some ⟨nb, 0, none⟩) (xs.length + ys.length) cap) h0 h1) (k := k) (ds := U.ex.exs (xs.take i ++ ys ++ xs.drop i)) (xs := []) (b := nb) (cap := cap) (cur := cur) (e := e) (c1 := c1 ++ news ++ c2) (cs := []) (B1 := Ba ++ B1 ++ Bb) (B := [])
      (by rw [hzl]; rfl) hb hsz (by rw [hzl]; exact hle) hmax (fun d hd => by
        rw [hz] at hd
        simp only [List.mem_append] at hd
        rcases hd with (hd | hd) | hd
        · exact hkt d hd
        · exact hk1 d hd
        · exact hkd d hd) (by rw [hzl]; exact ht) (by
        rw [hz]
        have := elts_insH k (.slice (some ⟨nb, 0, none⟩) (xs.length + ys.length) cap) h0 h1 (U.ex.exs (xs.take i)) (U.ex.exs ys) (U.ex.exs (xs.drop i))
        rw [hl1, hl2] at this
        rw [this]
        exact tt) .nil
    rw [hzl, List.append_nil] at this
    exact this
  · refine List.nodup_cons.2 ⟨fun hm => hnb (by simp only [List.mem_append] at hm ⊢; rcases hm with (hm | hm) | hm <;> simp [hm]), ?_⟩
    simp only [List.nodup_append, List.mem_append] at hn ⊢
    obtain ⟨⟨n1, n2, n3⟩, n4, n5⟩ := hn
    exact ⟨⟨n1, n4, fun a ha b hb => n5 a (.inl ha) b hb⟩, n2, fun a ha b hb e => by
      rcases ha with ha | ha
      · exact n3 a ha b hb e
      · exact n5 b (.inr hb) a ha e.symm⟩
  · simp only [List.mem_cons, List.mem_append] at hb ⊢
    rcases hb with hb | (hb | hb) | hb <;> simp [hb]
theorem Keep.row {b : Nat} {x : Array Value} : (w.setRow b x).os = w.os ∧ (w.setRow b x).tape = w.tape ∧ (w.setRow b x).output = w.output ∧ (w.setRow b x).heap.size = w.heap.size ∧ (w.setRow b x).drawn = w.drawn := ⟨rfl, rfl, rfl, by simp, rfl⟩
theorem insert_core {R : Ren} {k by' : Nat} {z : Value} (L : InsP P R k by' z) (hk : 0 < k) (hb0 : 0 < by') (hzc : z.cells.size = k)
    (xs ys : List U) (i : Nat) (hin : i ≤ xs.length) (hne : ys ≠ []) (hbytes : (xs.length + ys.length) * by' ≤ 140737488355328) {v0 : Value} {h0 h1 : Hdr} {B0 B1' : List Nat} {vb voff vc : Nat} {news : List Value} (hlt : ∀ b ∈ B0 ++ B1', b < w.heap.size) (hnd : (B0 ++ B1').Nodup)
    (o0 : Own ρ w (.sl k xs) h0 [v0] B0) (hvs : ∀ j v, news[j]? = some v → w.cell? ⟨vb, voff + j, none⟩ = some v) (hvk : ∀ d ∈ U.ex.exs ys, d.size = k) (tv : TCs ρ w (fun _ => False) (fun _ => ⟨.dead, noHdr⟩) (elts h1 k 0 (U.ex.exs ys)) news B1') (hvB : vb ∉ B0) :
    Calls P (R.f 21) #[v0, .int .i64 i, .slice (some ⟨vb, voff, none⟩) ys.length vc] w fun e w' => ∃ v h' Bs', e = .returned v ∧ Behind (fun b => b ∈ B0) w w' ∧ Bs'.Nodup ∧ (∀ b ∈ Bs', b ∈ B0 ++ B1' ∨ (w.heap.size ≤ b ∧ b < w'.heap.size)) ∧ Own ρ w' (.sl k (xs.take i ++ ys ++ xs.drop i)) h' [v] Bs' := by
  have hm : 0 < ys.length := List.length_pos_iff.2 hne
  have hle0 : xs.length + ys.length ≤ 140737488355328 := Nat.le_trans (Nat.le_mul_of_pos_right _ hb0) hbytes
  have hml : xs.length + ys.length ≤ maxLen := by simp only [maxLen]; omega
  have hln : news.length = ys.length * k := by rw [tv.length, xsizes_elts, dsizes_uniform hvk, uexs_eq, List.length_map]
  have h1v := tv.oneCell
  have hnp : 0 < news.length := by rw [hln]; exact Nat.mul_pos hm hk
  have hvcell := hvs 0 _ (List.getElem?_eq_getElem hnp)
  have hvlt : vb < w.heap.size := block_lt_of_cell hvcell
  have hvsh : ∃ tA kA, w.shape? vb = some (tA, kA) ∧ kA ≠ 0 := by
    simp only [World.cell?] at hvcell
    cases hvb : w.heap[vb]? with
    | none => rw [hvb] at hvcell; simp at hvcell
    | some ob =>
      rw [hvb] at hvcell
      cases ob with
      | cells cc ee fr =>
        refine ⟨ee, cc.size, by simp [World.shape?, hvb], fun e => ?_⟩
        rw [Array.size_eq_zero_iff.1 e] at hvcell
        simp at hvcell
      | _ => simp at hvcell
  have grown : ∀ (olds : List Value) (B0' : List Nat) (w' : World) (c : Nat) (cur : Array Value), (∀ x ∈ B0', x ∈ B0) → B0'.Nodup → TCs ρ w (fun _ => False) (fun _ => ⟨.dead, noHdr⟩) (elts h0 k 0 (U.ex.exs xs)) olds B0' → (∀ d ∈ U.ex.exs xs, d.size = k) →
      w'.os = w.os → w'.tape = w.tape → w'.output = w.output → w.heap.size < w'.heap.size → (∀ b, b < w.heap.size → w'.heap[b]? = w.heap[b]?) → w.drawn ≤ w'.drawn →
      w'.heap[w.heap.size]? = some (.cells cur (R.t 23) (0, 0)) → cur.size = grownCap w (xs.length + ys.length) c (R.t 23) * k → cur.toList.take ((xs.length + ys.length) * k) = olds.take (i * k) ++ news ++ olds.drop (i * k) →
      ∃ v h' Bs', Ending.returned (.slice (some ⟨w.heap.size, 0, none⟩) (xs.length + ys.length) (grownCap w (xs.length + ys.length) c (R.t 23))) = .returned v ∧ Behind (fun b => b ∈ B0) w w' ∧ Bs'.Nodup ∧ (∀ b ∈ Bs', b ∈ B0 ++ B1' ∨ (w.heap.size ≤ b ∧ b < w'.heap.size)) ∧ Own ρ w' (.sl k (xs.take i ++ ys ++ xs.drop i)) h' [v] Bs' := by
    intro olds B0' w' c cur hsub hnd0 t0 hk0 e1 e2 e3 e4 e5 e6 hcur hsz ht
    have hlB : ∀ b ∈ B0' ++ B1', b < w.heap.size := fun b hb => by
      rcases List.mem_append.1 hb with hb | hb
      · exact hlt b (by simp [hsub b hb])
      · exact hlt b (by simp [hb])
    have hnn : (B0' ++ B1').Nodup := by
      have h2 := List.nodup_append.1 hnd
      exact List.nodup_append.2 ⟨hnd0, h2.2.1, fun a ha b hb => h2.2.2 a (hsub a ha) b hb⟩
    obtain ⟨h', Bs, o, hno, hBs⟩ := ins_own (w' := w') (i := i) t0 tv hk0 hvk hin hnn (nb := w.heap.size) (fun hm => Nat.lt_irrefl _ (hlB _ hm)) (fun b hb => e5 b (hlB b hb)) hcur hsz (grownCap_ge w _ _ _) (grownCap_le_maxLen w _ _ _ hml) ht
    refine ⟨_, h', Bs, rfl, ⟨⟨e1, e2, e3, Nat.le_of_lt e4, fun b hb _ => e5 b hb⟩, e6⟩, hno, fun b hb => ?_, o⟩
    rcases hBs b hb with rfl | hb
    · exact .inr ⟨Nat.le_refl _, e4⟩
    · rcases List.mem_append.1 hb with hb | hb
      · exact .inl (by simp [hsub b hb])
      · exact .inl (by simp [hb])
  rcases own_parts o0 with ⟨hx, a, rfl⟩ | ⟨b, c, cur, e, olds, B0', rfl, hb, hsz, hle, hmax, hk0, hct, t0, rfl⟩
  · -- the empty slice
    subst hx
    obtain rfl : i = 0 := by simpa using hin
    have hfit := growslice_fits (show 0 < 0 + ys.length by omega) (show (0 + ys.length) * by' ≤ 140737488355328 by simpa using hbytes)
    refine (insert_end_grow L a 0 0 vb voff ys.length vc [] news w hm (Nat.le_refl _) (by omega) hfit (by omega) (by simp) hln (fun _ => rfl) (fun _ _ j v hv => by simp at hv) hvs h1v).mono fun en w' he => ?_
    obtain ⟨rfl, rfl⟩ := he
    have hzl := size_zeroCells z.cells (grownCap w (0 + ys.length) 0 (R.t 23) - (0 + ys.length))
    have hge := grownCap_ge w (0 + ys.length) 0 (R.t 23)
    simp only [List.length_nil] at grown ⊢
    refine grown [] [] _ 0 _ (by simp) List.nodup_nil .nil (by simp [U.ex.exs]) rfl rfl rfl (by simp) (fun b hb => ((Below.refl _ _).drew.alloc (Nat.le_refl _) _).block b hb) (by simp) (heap_alloc_new w.drew _) ?_ ?_
    · simp only [List.nil_append, Array.size_append, List.size_toArray, hzl, hln, hzc]
      rw [← Nat.add_mul]
      congr 1
      omega
    · simp only [List.nil_append, Array.toList_append, List.take_nil, List.drop_nil, List.append_nil]
      rw [show (0 + ys.length) * k = news.length by rw [hln]; simp]
      exact List.take_left
  · have hlo : olds.length = xs.length * k := by rw [t0.length, xsizes_elts, dsizes_uniform hk0, uexs_eq, List.length_map]
    have hcs : ∀ j v, olds[j]? = some v → w.cell? ⟨b, 0 + j, none⟩ = some v := fun j v hv => (rangeAt_of_row hb fun j v hv => by
      rw [← hct, List.getElem?_take] at hv
      split at hv
      · simpa using hv
      · cases hv) j v hv
    have hcs' : ∀ j v, olds[j]? = some v → w.cell? ⟨b, j, none⟩ = some v := fun j v hv => by have := hcs j v hv; rwa [Nat.zero_add] at this
    have h1c := t0.oneCell
    have hblt : b < w.heap.size := hlt b (by simp)
    have hnd2 := List.nodup_append.1 hnd
    have hvbb : vb ≠ b := fun e => hvB (by simp [e])
    have hndB := List.nodup_cons.1 hnd2.1
    have hcell : ∀ j, j < c * k → (w.cell? ⟨b, j, none⟩).isSome = true := fun j hj => by
      simp only [World.cell?, hb, Option.isSome_none, Bool.false_eq_true, if_false, id]
      rw [Array.getElem?_eq_getElem (by rw [hsz]; exact hj)]
      rfl
    have hfro : ∀ j, w.frozen? ⟨b, j, none⟩ = false := fun j => by simp [World.frozen?, hb]
    by_cases hroom : xs.length + ys.length ≤ c
    · -- in place
      have hcc : (xs.length + ys.length) * k ≤ c * k := Nat.mul_le_mul_right _ hroom
      have hc63 : c ≤ 9223372036854775807 := by simp only [maxLen] at hmax; omega
      have inplace : ∀ (w1 w' : World) (cur' : Array Value), w' = w1.setRow b cur' → w1.heap = w.heap → w1.os = w.os → w1.tape = w.tape → w1.output = w.output → w.drawn ≤ w1.drawn → cur'.size = cur.size → cur'.toList.take ((xs.length + ys.length) * k) = olds.take (i * k) ++ news ++ olds.drop (i * k) →
          ∃ v h' Bs', Ending.returned (.slice (some ⟨b, 0, none⟩) (xs.length + ys.length) c) = .returned v ∧ Behind (fun x => x ∈ b :: B0') w w' ∧ Bs'.Nodup ∧ (∀ x ∈ Bs', x ∈ (b :: B0') ++ B1' ∨ (w.heap.size ≤ x ∧ x < w'.heap.size)) ∧ Own ρ w' (.sl k (xs.take i ++ ys ++ xs.drop i)) h' [v] Bs' := by
        intro w1 w' cur' hw' e0 e1 e2 e3 hdr hs2 ht2
        have hoth : ∀ x, x ≠ b → w'.heap[x]? = w.heap[x]? := fun x hx => by rw [hw', setRow_other _ b x _ hx, e0]
        have hnew : w'.heap[b]? = some (.cells cur' e (0, 0)) := by rw [hw']; exact setRow_heap _ b cur _ e _ (by rw [e0]; exact hb)
        have hnb : b ∉ B0' ++ B1' := fun hm => by
          rcases List.mem_append.1 hm with hm | hm
          · exact hndB.1 hm
          · exact hnd2.2.2 b (by simp) b (by simp [hm]) rfl
        obtain ⟨h', Bs, o, hno, hBs⟩ := ins_own (w' := w') (i := i) t0 tv hk0 hvk hin (List.nodup_append.2 ⟨hndB.2, hnd2.2.1, fun x hx y hy => hnd2.2.2 x (by simp [hx]) y hy⟩) hnb (fun x hx => hoth x (fun e => hnb (e ▸ hx))) hnew (by rw [hs2]; exact hsz) hroom hmax ht2
        refine ⟨_, h', Bs, rfl, ⟨⟨by rw [hw']; exact e1, by rw [hw']; exact e2, by rw [hw']; exact e3, by rw [hw']; simp [e0], fun x _ hx => hoth x (fun e => hx (by simp [e]))⟩, by rw [hw']; exact hdr⟩, hno, fun x hx => .inl ?_, o⟩
        rcases hBs x hx with rfl | hx
        · simp
        · rcases List.mem_append.1 hx with hx | hx <;> simp [hx]
      by_cases hend : i = xs.length
      · -- at the end
        subst hend
        refine (insert_end_room L b xs.length c vb voff ys.length vc news w hm hroom hc63 hln (fun j hj => hcell _ (by rw [Nat.add_mul] at hcc; omega)) (fun j _ => hfro _) hvs h1v).mono fun en w' he => ?_
        obtain ⟨rfl, rfl⟩ := he
        have hfit : xs.length * k + news.length ≤ cur.size := by rw [hln, hsz, ← Nat.add_mul]; exact hcc
        refine inplace w _ _ (setCells_row b e news _ cur w hb hfit) rfl rfl rfl rfl (Nat.le_refl _) ?_ ?_
        · simp only [List.size_toArray, List.length_append, List.length_take, List.length_drop, Array.length_toList]
          omega
        · rw [← hlo, List.take_length, List.drop_length, List.append_nil]
          simp only [List.append_assoc]
          rw [hlo, hct]
          rw [show (xs.length + ys.length) * k = (olds ++ news).length by rw [List.length_append, hlo, hln, Nat.add_mul], ← List.append_assoc]
          exact List.take_left
      · -- in the middle
        have hi : i < xs.length := by omega
        obtain ⟨tA, kA, hsA, hkA⟩ := hvsh
        have hsh : ∀ x cc ee, w.heap[x]? = some (.cells cc ee (0, 0)) → w.shape? x = some (ee, cc.size) := fun x cc ee h => by simp [World.shape?, h]
        refine (insert_shift L hk b xs.length c i vb voff ys.length vc olds news w hi hm hroom hc63 hvbb hlo hln hcs' (fun j hj => hcell j (by omega)) (fun j _ => hfro j) hvs h1c h1v _ _ _ _ hsA (hsh _ _ _ hb) hkA (by
          rw [hsz]
          have : 0 < c * k := Nat.mul_pos (by omega) hk
          omega) hfro).mono fun en w' he => ?_
        obtain ⟨rfl, hw'⟩ := he
        have hdl : (olds.drop (i * k)).length = (xs.length - i) * k := by rw [List.length_drop, hlo, Nat.sub_mul]
        have hs6 : xs.length * k - i * k = (xs.length - i) * k := (Nat.sub_mul ..).symm
        have hs1 : (i + ys.length) * k + (xs.length - i) * k = (xs.length + ys.length) * k := by rw [← Nat.add_mul]; congr 1; omega
        have hs2 : i * k + ys.length * k = (i + ys.length) * k := by rw [Nat.add_mul]
        have hs3 : i * k ≤ xs.length * k := Nat.mul_le_mul_right _ hin
        have hb1 : w.drew.heap[b]? = some (.cells cur e (0, 0)) := hb
        have r1 := setCells_row b e (olds.drop (i * k)) ((i + ys.length) * k) cur w.drew hb1 (by omega)
        rw [r1] at hw'
        have hb2 := setRow_heap w.drew b cur (cur.toList.take ((i + ys.length) * k) ++ olds.drop (i * k) ++ cur.toList.drop ((i + ys.length) * k + (olds.drop (i * k)).length)).toArray e _ hb1
        rw [setCells_row b e news (i * k) _ _ hb2 (by
          simp only [List.size_toArray, List.length_append, List.length_take, List.length_drop, Array.length_toList]
          omega), setRow_setRow] at hw'
        refine inplace w.drew w' _ hw' rfl rfl rfl rfl (Nat.le_succ _) ?_ ?_
        · simp only [List.size_toArray, List.length_append, List.length_take, List.length_drop, Array.length_toList]
          omega
        · have hci : cur.toList.take (i * k) = olds.take (i * k) := by
            rw [← hct, List.take_take, Nat.min_eq_left hs3]
          have ht1 : ((cur.toList.take ((i + ys.length) * k) ++ olds.drop (i * k) ++ cur.toList.drop ((i + ys.length) * k + (olds.drop (i * k)).length))).take (i * k) = olds.take (i * k) := by
            rw [List.append_assoc, List.take_append_of_le_length (by simp only [List.length_take, Array.length_toList]; omega), List.take_take, Nat.min_eq_left (by omega), hci]
          have hd1 : ((cur.toList.take ((i + ys.length) * k) ++ olds.drop (i * k) ++ cur.toList.drop ((i + ys.length) * k + (olds.drop (i * k)).length))).drop (i * k + news.length) = olds.drop (i * k) ++ cur.toList.drop ((i + ys.length) * k + (olds.drop (i * k)).length) := by
            have hl : i * k + news.length = (cur.toList.take ((i + ys.length) * k)).length := by simp only [List.length_take, Array.length_toList]; omega
            rw [hl, List.append_assoc]
            exact List.drop_left
          simp only [ht1, hd1]
          rw [← List.append_assoc]
          rw [show (xs.length + ys.length) * k = (olds.take (i * k) ++ news ++ olds.drop (i * k)).length by
            simp only [List.length_append, List.length_take, hdl]
            omega]
          exact List.take_left
    · -- a new row
      have hgt : c < xs.length + ys.length := by omega
      have hfit := growslice_fits hgt hbytes
      have hge := grownCap_ge w (xs.length + ys.length) c (R.t 23)
      by_cases hend : i = xs.length
      · subst hend
        refine (insert_end_grow L (some ⟨b, 0, none⟩) xs.length c vb voff ys.length vc olds news w hm hle hgt hfit (by omega) hlo hln (fun h => by cases h) (fun a ha j v hv => by
          cases ha
          rw [Addr.add_mid]
          exact hcs j v hv) hvs h1v).mono fun en w' he => ?_
        obtain ⟨rfl, rfl⟩ := he
        have hzl := size_zeroCells z.cells (grownCap w (xs.length + ys.length) c (R.t 23) - (xs.length + ys.length))
        refine grown olds B0' _ c _ (fun x hx => by simp [hx]) hndB.2 t0 hk0 rfl rfl rfl (by simp) (fun x hx => ((Below.refl _ _).drew.alloc (Nat.le_refl _) _).block x hx) (by simp) (heap_alloc_new w.drew _) ?_ ?_
        · simp only [Array.size_append, List.size_toArray, List.length_append, hzl, hlo, hln, hzc]
          rw [← Nat.add_mul, ← Nat.add_mul]
          congr 1
          omega
        · rw [← hlo, List.take_length, List.drop_length, List.append_nil]
          simp only [Array.toList_append]
          rw [show (xs.length + ys.length) * k = (olds ++ news).length by rw [List.length_append, hlo, hln, Nat.add_mul]]
          exact List.take_left
      · have hi : i < xs.length := by omega
        refine (insert_grow L hk hzc b xs.length c i vb voff ys.length vc olds news w hi hm hle hgt hfit hml (by omega) hlo hln hcs' hvs h1c h1v).mono fun en w' he => ?_
        obtain ⟨rfl, hw'⟩ := he
        generalize hG : grownCap w (xs.length + ys.length) c (R.t 23) = G at *
        have hzl := fun x => size_zeroCells z.cells x
        have hs1 : (i + ys.length) * k + (xs.length - i) * k = (xs.length + ys.length) * k := by rw [← Nat.add_mul]; congr 1; omega
        have hs2 : i * k + ys.length * k = (i + ys.length) * k := by rw [Nat.add_mul]
        have hs3 : i * k ≤ xs.length * k := Nat.mul_le_mul_right _ hin
        have hs4 : i * k + (xs.length + ys.length - i) * k = (xs.length + ys.length) * k := by rw [← Nat.add_mul]; congr 1; omega
        have hs5 : (xs.length + ys.length) * k + (G - (xs.length + ys.length)) * k = G * k := by rw [← Nat.add_mul]; congr 1; omega
        have hdl : (olds.drop (i * k)).length = (xs.length - i) * k := by rw [List.length_drop, hlo, Nat.sub_mul]
        have hs6 : xs.length * k - i * k = (xs.length - i) * k := (Nat.sub_mul ..).symm
        generalize hrow : (olds.take (i * k)).toArray ++ Builtin.zeroCells z.cells (xs.length + ys.length - i) ++ Builtin.zeroCells z.cells (G - (xs.length + ys.length)) = row at hw'
        have hrs : row.size = G * k := by
          rw [← hrow]
          simp only [Array.size_append, List.size_toArray, List.length_take, hzl, hzc, hlo]
          omega
        have hrt : row.toList.take (i * k) = olds.take (i * k) := by
          rw [← hrow]
          simp only [Array.toList_append, List.append_assoc]
          have hl : (olds.take (i * k)).length = i * k := by rw [List.length_take, hlo]; omega
          have h8 := List.take_left (l₁ := olds.take (i * k)) (l₂ := (Builtin.zeroCells z.cells (xs.length + ys.length - i)).toList ++ (Builtin.zeroCells z.cells (G - (xs.length + ys.length))).toList)
          rw [hl] at h8
          exact h8
        have hr0 : (w.alloc (.cells row (R.t 23))).drew.heap[w.heap.size]? = some (.cells row (R.t 23) (0, 0)) := heap_alloc_new w _
        rw [setCells_row w.heap.size (R.t 23) news (i * k) row _ hr0 (by omega)] at hw'
        have hr1 := setRow_heap (w.alloc (.cells row (R.t 23))).drew w.heap.size row (row.toList.take (i * k) ++ news ++ row.toList.drop (i * k + news.length)).toArray (R.t 23) _ hr0
        have hr2 : ((w.alloc (.cells row (R.t 23))).drew.setRow w.heap.size (row.toList.take (i * k) ++ news ++ row.toList.drop (i * k + news.length)).toArray).drew.heap[w.heap.size]? = _ := hr1
        rw [setCells_row w.heap.size (R.t 23) (olds.drop (i * k)) ((i + ys.length) * k) _ _ hr2 (by
          simp only [List.size_toArray, List.length_append, List.length_take, List.length_drop, Array.length_toList]
          omega)] at hw'
        have hr3 := setRow_heap _ w.heap.size _ ((row.toList.take (i * k) ++ news ++ row.toList.drop (i * k + news.length)).toArray.toList.take ((i + ys.length) * k) ++ olds.drop (i * k) ++ (row.toList.take (i * k) ++ news ++ row.toList.drop (i * k + news.length)).toArray.toList.drop ((i + ys.length) * k + (olds.drop (i * k)).length)).toArray (R.t 23) _ hr2
        rw [← hw'] at hr3
        subst hG
        refine grown olds B0' w' c _ (fun x hx => by simp [hx]) hndB.2 t0 hk0 (by rw [hw']; rfl) (by rw [hw']; rfl) (by rw [hw']; rfl) (by rw [hw']; simp) (fun x hx => ?_) (by rw [hw']; simp [World.drew]; omega) hr3 ?_ ?_
        · rw [hw', setRow_other _ _ _ _ (by omega)]
          show ((w.alloc (.cells row (R.t 23))).drew.setRow w.heap.size _).heap[x]? = _
          rw [setRow_other _ _ _ _ (by omega)]
          exact ((Below.refl _ _).alloc (Nat.le_refl _) _).block x hx
        · simp only [List.size_toArray, List.length_append, List.length_take, List.length_drop, Array.length_toList]
          omega
        · have hA : (row.toList.take (i * k) ++ news ++ row.toList.drop (i * k + news.length)).toArray.toList.take ((i + ys.length) * k) = olds.take (i * k) ++ news := by
            rw [hrt]
            have hl : (i + ys.length) * k = (olds.take (i * k) ++ news).length := by rw [List.length_append, List.length_take, hlo]; omega
            rw [hl]
            exact List.take_left
          rw [hA]
          have hl : (xs.length + ys.length) * k = (olds.take (i * k) ++ news ++ olds.drop (i * k)).length := by
            simp only [List.length_append, List.length_take, hdl]
            omega
          rw [hl]
          exact List.take_left
theorem insert_good {R : Ren} {k by' : Nat} {z : Value} (L : InsP P R k by' z) (hk : 0 < k) (hb0 : 0 < by') (hzc : z.cells.size = k) {q : Nat} (hq : 6 ≤ q / 100000) (hf : ρ q = R.f 21) (hok : callOK P (ρ q) = true)
    (xs ys : List U) (n : Int) (hn0 : 0 ≤ n) (hn1 : n ≤ xs.length) (hne : ys ≠ []) (hbytes : (xs.length + ys.length) * by' ≤ 140737488355328) :
    GoodAt P ρ q [.sl k xs, .int .i64 n, .sl k ys] (.sl k (xs.take n.toNat ++ ys ++ xs.drop n.toNat)) := by
  refine ⟨hok, div_match.2 ⟨fun h1 => by omega, fun h1 => by omega, fun h1 => by omega, fun h1 => by omega, fun h1 => by omega, fun _ => ⟨fun h1 => by omega, fun _ => ?_⟩⟩⟩
  refine ⟨k, xs, n, ys, rfl, fun zs hzs w v0 v1 h0 h1 B0 B1 hlt hnd o0 o1 => ?_⟩
  cases hzs
  obtain ⟨i, rfl⟩ : ∃ i : Nat, n = i := ⟨n.toNat, by omega⟩
  rw [Int.toNat_natCast, hf]
  rcases own_parts o1 with ⟨h, _⟩ | ⟨vb, vc, curv, ev, news, B1', rfl, hvb, hvsz, hvle, hvmax, hvk, hvt, tv, rfl⟩
  · exact absurd h hne
  have hvs : ∀ j v, news[j]? = some v → w.cell? ⟨vb, 0 + j, none⟩ = some v := fun j v hv => (rangeAt_of_row hvb fun j v hv => by
    rw [← hvt, List.getElem?_take] at hv
    split at hv
    · simpa using hv
    · cases hv) j v hv
  have hnd2 := List.nodup_append.1 hnd
  refine (insert_core (ρ := ρ) L hk hb0 hzc xs ys i (by omega) hne hbytes (h1 := h1) (B1' := B1') (fun b hb => hlt b (by
    rcases List.mem_append.1 hb with hb | hb <;> simp [hb])) (List.nodup_append.2 ⟨hnd2.1, (List.nodup_cons.1 hnd2.2.1).2, fun a ha b hb => hnd2.2.2 a ha b (by simp [hb])⟩) o0 hvs hvk tv (fun hm => hnd2.2.2 vb hm vb (by simp) rfl)).mono fun e w' he => ?_
  obtain ⟨v, h', Bs', e1, hbeh, e3, e4, e5⟩ := he
  refine ⟨v, h', Bs', e1, hbeh.mono fun b hb => by simp [hb], e3, fun b hb => (e4 b hb).imp (fun hb => ?_) id, e5⟩
  rcases List.mem_append.1 hb with hb | hb <;> simp [hb]
theorem vals_elts {S : Nat → Prop} {β : Nat → Lay} {h : Hdr} {k : Nat} : ∀ (us : List U) (c : List Value) (i : Nat), URs ρ w S us c → TCs ρ w S β (elts h k i (us.map .val)) c []
  | [], c, i, h => by cases h; exact .nil
  | u :: us, c, i, h => by
    obtain ⟨c1, c2, rfl, _, h1, h2⟩ := h.cons_inv
    exact .val h1 (vals_elts us c2 _ h2)
theorem insert_goodC {R : Ren} {k by' : Nat} {z : Value} (L : InsP P R k by' z) (hk : 0 < k) (hb0 : 0 < by') (hzc : z.cells.size = k) {q : Nat} (hq : q / 100000 = 3) (hf : ρ q = R.f 21) (hok : callOK P (ρ q) = true)
    (xs ys : List U) (n : Int) (hn0 : 0 ≤ n) (hn1 : n ≤ xs.length) (hne : ys ≠ []) (hfl : U.flat.flats ys = true) (hbytes : (xs.length + ys.length) * by' ≤ 140737488355328) :
    GoodAt P ρ q [.agg [.tup [.sl k xs]], .int .i64 n, .sl k ys] (.sl k (xs.take n.toNat ++ ys ++ xs.drop n.toNat)) := by
  refine ⟨hok, div_match.2 ⟨fun h1 => by omega, fun h1 => by omega, fun h1 => by omega, fun _ => ?_, fun h1 => by omega, fun h1 => by omega⟩⟩
  refine ⟨k, xs, [.int .i64 n, .sl k ys], rfl, fun zs hzs w S v0 vs h0 Bs hS hlt hnd o0 hargs => ?_⟩
  cases hzs
  obtain ⟨i, rfl⟩ : ∃ i : Nat, n = i := ⟨n.toNat, by omega⟩
  rw [Int.toNat_natCast, hf]
  match vs, hargs with
  | [vi, v1], hargs =>
    have e1 : vi = .int .i64 i := by
      obtain ⟨cs, hcs, h2⟩ := (hargs.1 fun _ => ⟨.dead, noHdr⟩).uv (fun us e => by cases e)
      cases hcs with | int _ _ h => cases h; simpa using h2.symm
    subst e1
    obtain ⟨cs, hcs, h2⟩ := (hargs.2.1 fun _ => ⟨.dead, noHdr⟩).uv (fun us e => by cases e)
    cases hcs with
    | sl0 k a cap h => exact absurd rfl hne
    | sl1 k vb voff vc hne' hvb hcap hmax hks hr hu h =>
      cases h
      have e2 : v1 = .slice (some ⟨vb, voff, none⟩) ys.length vc := by simpa using h2.symm
      subst e2
      have tv : TCs ρ w (fun _ => False) (fun _ => ⟨.dead, noHdr⟩) (elts noHdr k 0 (U.ex.exs ys)) _ [] := own_vals _ _ _ _ hfl (vals_elts ys _ 0 (hu.flat_any hfl))
      refine (insert_core (ρ := ρ) L hk hb0 hzc xs ys i (by omega) hne hbytes (h1 := noHdr) (B1' := []) (by simpa using hlt) (by simpa using hnd) o0 (fun j v hv => hr j v hv) (fun d hd => by
        rw [uexs_eq] at hd
        obtain ⟨u, hu, rfl⟩ := List.mem_map.1 hd
        rw [size_uex]
        exact hks u hu) tv (hS vb hvb).2).mono fun e w' he => ?_
      obtain ⟨v, h', Bs', e1, hbeh, e3, e4, e5⟩ := he
      exact ⟨v, h', Bs', e1, hbeh, e3, fun b hb => by simpa using e4 b hb, e5⟩
end
def insC (k b : Nat) : List U → Option U
  | [.agg [.tup [.sl k1 xs]], .int .i64 n, .sl k2 ys] => if k1 = k ∧ k2 = k ∧ 0 ≤ n ∧ n ≤ xs.length ∧ 0 < ys.length ∧ U.flat.flats ys = true ∧ (xs.length + ys.length) * b ≤ 140737488355328 then some (.sl k (xs.take n.toNat ++ ys ++ xs.drop n.toNat)) else none
  | _ => none
def insI (k b : Nat) : List U → Option U
  | [.sl k1 xs, .int .i64 n, .sl k2 ys] => if k1 = k ∧ k2 = k ∧ 0 ≤ n ∧ n ≤ xs.length ∧ 0 < ys.length ∧ (xs.length + ys.length) * b ≤ 140737488355328 then some (.sl k (xs.take n.toNat ++ ys ++ xs.drop n.toNat)) else none
  | _ => none
def insE (tbl : List (Nat × Nat × Nat)) (E0 : Env) : Env := fun q us => if 600000 ≤ q then (match tbl.lookup (q - 600000) with
  | some (k, b) => insI k b us
  | none => none) else if 300000 ≤ q ∧ q < 400000 then (match tbl.lookup (q - 300000) with
  | some (k, b) => insC k b us
  | none => E0 q us) else E0 q us
def InsAll (P : Program) (ρ : Nat → FuncId) : List (Nat × Nat × Nat) → Prop
  | [] => True
  | (q, k, b) :: l => (∃ R z, InsP P R k b z ∧ 0 < k ∧ 0 < b ∧ z.cells.size = k ∧ ρ (600000 + q) = R.f 21 ∧ callOK P (ρ (600000 + q)) = true ∧ ρ (300000 + q) = ρ (600000 + q)) ∧ InsAll P ρ l
theorem ins_look {P : Program} {ρ : Nat → FuncId} : ∀ {l : List (Nat × Nat × Nat)} {q k b : Nat}, InsAll P ρ l → l.lookup q = some (k, b) → ∃ R z, InsP P R k b z ∧ 0 < k ∧ 0 < b ∧ z.cells.size = k ∧ ρ (600000 + q) = R.f 21 ∧ callOK P (ρ (600000 + q)) = true ∧ ρ (300000 + q) = ρ (600000 + q)
  | [], _, _, _, _, h => by cases h
  | (q0, k0, b0) :: l, q, k, b, ha, h => by
    simp only [List.lookup] at h
    split at h
    · rename_i e
      simp only [beq_iff_eq] at e
      cases h
      subst e
      exact ha.1
    · exact ins_look ha.2 h
theorem good_ins {P : Program} {ρ : Nat → FuncId} {l : List (Nat × Nat × Nat)} {E0 : Env} (ha : InsAll P ρ l) (h0 : Good P ρ E0) : Good P ρ (insE l E0) := fun q us u h => by
  unfold insE at h
  split at h
  · rename_i hq
    split at h
    · rename_i k b hl
      obtain ⟨R, z, L, hk, hb, hz, hf, hok, _⟩ := ins_look ha hl
      have e : 600000 + (q - 600000) = q := by omega
      rw [e] at hf hok
      unfold insI at h
      split at h
      · rename_i k1 xs n k2 ys
        split at h
        · rename_i hc
          obtain ⟨rfl, rfl, h1, h2, h3, h4⟩ := hc
          cases h
          exact insert_good L hk hb hz (by omega) hf hok xs ys n h1 h2 (List.length_pos_iff.1 h3) h4
        · cases h
      · cases h
    · cases h
  · split at h
    · rename_i hq
      split at h
      · rename_i k b hl
        obtain ⟨R, z, L, hk, hb, hz, hf, hok, h36⟩ := ins_look ha hl
        have e : 300000 + (q - 300000) = q := by omega
        rw [← h36] at hf hok
        rw [e] at hf hok
        unfold insC at h
        split at h
        · rename_i k1 xs n k2 ys
          split at h
          · rename_i hc
            obtain ⟨rfl, rfl, h1, h2, h3, h4, h5⟩ := hc
            cases h
            exact insert_goodC L hk hb hz (by omega) hf hok xs ys n h1 h2 (List.length_pos_iff.1 h3) h4 h5
          · cases h
        · cases h
      · exact h0 q us u h
    · exact h0 q us u h
structure IsIns (E : Env) (q k b : Nat) : Prop where
  i : ∀ us, E (600000 + q) us = insI k b us
  c : ∀ us, E (300000 + q) us = insC k b us
theorem isIns_W {l : List (Nat × Nat × Nat)} {E0 : Env} {tbl : Nat → Option Fn} {q k b : Nat} (hq : q < 100000) (h1 : tbl (600000 + q) = none) (h2 : tbl (300000 + q) = none) (hl : l.lookup q = some (k, b)) : IsIns (EnvW (insE l E0) tbl) q k b := by
  refine ⟨fun us => ?_, fun us => ?_⟩
  · rw [envW_ext h1]
    have e : 600000 + q - 600000 = q := by omega
    simp [insE, e, hl]
  · rw [envW_ext h2]
    have e : 300000 + q - 300000 = q := by omega
    have n1 : ¬ 600000 ≤ 300000 + q := by omega
    have n2 : 300000 + q < 400000 := by omega
    simp [insE, e, hl, n1, n2]
theorem isClone_I {il : List (Nat × Nat × Nat)} {l : List (Nat × Nat × Nat × AC)} {tbl : Nat → Option Fn} {q k b : Nat} {ac : AC} (hq : q < 100000) (h1 : tbl q = none) (h2 : tbl (100000 + q) = none) (hl : l.lookup q = some (k, b, ac)) : IsClone (EnvW (insE il (cloneE l)) tbl) q k b := by
  have e1 : q / 100000 = 0 := Nat.div_eq_of_lt hq
  have e2 : q % 100000 = q := Nat.mod_eq_of_lt hq
  have e3 : (100000 + q) / 100000 = 1 := by omega
  have e4 : (100000 + q) % 100000 = q := by omega
  have n1 : ¬ 600000 ≤ q := by omega
  have n2 : ¬ 600000 ≤ 100000 + q := by omega
  have n3 : ¬ (300000 ≤ q ∧ q < 400000) := by omega
  have n4 : ¬ (300000 ≤ 100000 + q ∧ 100000 + q < 400000) := by omega
  refine ⟨fun us => ?_, fun us => ?_⟩
  · rw [envW_ext h1]
    simp only [insE, if_neg n1, if_neg n3]
    simp [cloneE, e1, e2, hl]
  · rw [envW_ext h2]
    simp only [insE, if_neg n2, if_neg n4]
    simp [cloneE, e3, e4, hl]
end Go.Proofs.Ytpbogagoflpdfaa.Am
