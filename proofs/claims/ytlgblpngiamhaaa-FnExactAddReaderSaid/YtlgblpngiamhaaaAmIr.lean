import Derived.Test.YtlgblpngiamhaaaAmTk
set_option linter.unusedVariables false
namespace Go.Proofs.Ytlgblpngiamhaaa.Am
open Go Go.RowKit Go.Shelf Go.Proofs
section
variable {P : Program} {ρ : Nat → FuncId} {w w' : World}
def RowAt (w : World) (k n : Nat) (v : Value) (cs : List Value) (nb : Nat) : Prop := ∃ cap cur e, v = .slice (some ⟨nb, 0, none⟩) n cap ∧ w.heap[nb]? = some (.cells cur e (0, 0)) ∧ cur.size = cap * k ∧ n ≤ cap ∧ cap ≤ maxLen ∧ cur.toList.take (n * k) = cs
theorem insert_raw {R : Ren} {k by' : Nat} {z : Value} (L : InsP P R k by' z) (hk : 0 < k) (hb0 : 0 < by') (hzc : z.cells.size = k)
    (n m i : Nat) (hin : i ≤ n) (hm : 0 < m) (hbytes : (n + m) * by' ≤ 140737488355328) {v0 : Value} {vb voff vc : Nat} {olds news : List Value}
    (h0 : (n = 0 ∧ olds = [] ∧ ∃ a, v0 = .slice a 0 0) ∨ ∃ b, RowAt w k n v0 olds b ∧ vb ≠ b) (hln : news.length = m * k) (h1v : ∀ v ∈ news, v.oneCell' = true) (h1c : ∀ v ∈ olds, v.oneCell' = true)
    (hvs : ∀ j v, news[j]? = some v → w.cell? ⟨vb, voff + j, none⟩ = some v) :
    Calls P (R.f 21) #[v0, .int .i64 i, .slice (some ⟨vb, voff, none⟩) m vc] w fun e w' => ∃ v nb, e = .returned v ∧ RowAt w' k (n + m) v (olds.take (i * k) ++ news ++ olds.drop (i * k)) nb ∧ (w.heap.size ≤ nb ∨ ∃ cap, v0 = .slice (some ⟨nb, 0, none⟩) n cap ∧ 0 < cap) ∧ nb < w'.heap.size ∧
      Behind (fun b => ∃ cap, v0 = .slice (some ⟨b, 0, none⟩) n cap ∧ 0 < cap) w w' := by
  have hle0 : n + m ≤ 140737488355328 := Nat.le_trans (Nat.le_mul_of_pos_right _ hb0) hbytes
  have hml : n + m ≤ maxLen := by simp only [maxLen]; omega
  have hnp : 0 < news.length := by rw [hln]; exact Nat.mul_pos hm hk
  have hvcell := hvs 0 _ (List.getElem?_eq_getElem hnp)
  have hvlt : vb < w.heap.size := block_lt_of_cell hvcell
  have hvsh : ∃ tA kA, w.shape? vb = some (tA, kA) ∧ kA ≠ 0 := by
    simp only [World.cell?] at hvcell
    cases hvb : w.heap[vb]? with
    | none => rw [hvb] at hvcell; simp at hvcell
    | some ob =>
      rw [hvb] at hvcell
      cases ob with
      | cells cc ee fr =>
        refine ⟨ee, cc.size, by simp [World.shape?, hvb], fun e => ?_⟩
        rw [Array.size_eq_zero_iff.1 e] at hvcell
        simp at hvcell
      | _ => simp at hvcell
  have grown : ∀ (olds' : List Value) (w' : World) (c : Nat) (cur : Array Value), olds' = olds →
      w'.os = w.os → w'.tape = w.tape → w'.output = w.output → w.heap.size < w'.heap.size → (∀ b, b < w.heap.size → w'.heap[b]? = w.heap[b]?) → w.drawn ≤ w'.drawn →
      w'.heap[w.heap.size]? = some (.cells cur (R.t 23) (0, 0)) → cur.size = grownCap w (n + m) c (R.t 23) * k → cur.toList.take ((n + m) * k) = olds'.take (i * k) ++ news ++ olds'.drop (i * k) →
      ∃ v nb, Ending.returned (.slice (some ⟨w.heap.size, 0, none⟩) (n + m) (grownCap w (n + m) c (R.t 23))) = .returned v ∧ RowAt w' k (n + m) v (olds.take (i * k) ++ news ++ olds.drop (i * k)) nb ∧ (w.heap.size ≤ nb ∨ ∃ cap, v0 = .slice (some ⟨nb, 0, none⟩) n cap ∧ 0 < cap) ∧ nb < w'.heap.size ∧
        Behind (fun b => ∃ cap, v0 = .slice (some ⟨b, 0, none⟩) n cap ∧ 0 < cap) w w' := by
    intro olds' w' c cur he e1 e2 e3 e4 e5 e6 hcur hsz ht
    subst he
    exact ⟨_, _, rfl, ⟨_, _, _, rfl, hcur, hsz, grownCap_ge w _ _ _, grownCap_le_maxLen w _ _ _ hml, ht⟩, .inl (Nat.le_refl _), e4, ⟨⟨e1, e2, e3, Nat.le_of_lt e4, fun b hb _ => e5 b hb⟩, e6⟩⟩
  rcases h0 with ⟨hx, rfl, a, rfl⟩ | ⟨b, ⟨c, cur, e, rfl, hb, hsz, hle, hmax, hct⟩, hvbb⟩
  · -- the empty slice
    subst hx
    obtain rfl : i = 0 := by simpa using hin
    have hfit := growslice_fits (show 0 < 0 + m by omega) (show (0 + m) * by' ≤ 140737488355328 by simpa using hbytes)
    refine (insert_end_grow L a 0 0 vb voff m vc [] news w hm (Nat.le_refl _) (by omega) hfit (by omega) (by simp) hln (fun _ => rfl) (fun _ _ j v hv => by simp at hv) hvs h1v).mono fun en w' he => ?_
    obtain ⟨rfl, rfl⟩ := he
    have hzl := size_zeroCells z.cells (grownCap w (0 + m) 0 (R.t 23) - (0 + m))
    have hge := grownCap_ge w (0 + m) 0 (R.t 23)
    refine grown [] _ 0 _ rfl rfl rfl rfl (by simp) (fun b hb => ((Below.refl _ _).drew.alloc (Nat.le_refl _) _).block b hb) (by simp) (heap_alloc_new w.drew _) ?_ ?_
    · simp only [List.nil_append, Array.size_append, List.size_toArray, hzl, hln, hzc]
      rw [← Nat.add_mul]
      congr 1
      omega
    · simp only [List.nil_append, Array.toList_append, List.take_nil, List.drop_nil, List.append_nil]
      rw [show (0 + m) * k = news.length by rw [hln]; simp]
      exact List.take_left
  · have hcs0 : n * k ≤ cur.size := by rw [hsz]; exact Nat.mul_le_mul_right _ hle
    have hlo : olds.length = n * k := by rw [← hct, List.length_take, Array.length_toList]; omega
    have hcs : ∀ j v, olds[j]? = some v → w.cell? ⟨b, 0 + j, none⟩ = some v := fun j v hv => (rangeAt_of_row hb fun j v hv => by
      rw [← hct, List.getElem?_take] at hv
      split at hv
      · simpa using hv
      · cases hv) j v hv
    have hcs' : ∀ j v, olds[j]? = some v → w.cell? ⟨b, j, none⟩ = some v := fun j v hv => by have := hcs j v hv; rwa [Nat.zero_add] at this
    have hblt : b < w.heap.size := by
      rcases Nat.lt_or_ge b w.heap.size with h | h
      · exact h
      · rw [Array.getElem?_eq_none h] at hb; cases hb
    have hcell : ∀ j, j < c * k → (w.cell? ⟨b, j, none⟩).isSome = true := fun j hj => by
      simp only [World.cell?, hb, Option.isSome_none, Bool.false_eq_true, if_false, id]
      rw [Array.getElem?_eq_getElem (by rw [hsz]; exact hj)]
      rfl
    have hfro : ∀ j, w.frozen? ⟨b, j, none⟩ = false := fun j => by simp [World.frozen?, hb]
    by_cases hroom : n + m ≤ c
    · -- in place
      have hcc : (n + m) * k ≤ c * k := Nat.mul_le_mul_right _ hroom
      have hc63 : c ≤ 9223372036854775807 := by simp only [maxLen] at hmax; omega
      have inplace : ∀ (w1 w' : World) (cur' : Array Value), w' = w1.setRow b cur' → w1.heap = w.heap → w1.os = w.os → w1.tape = w.tape → w1.output = w.output → w.drawn ≤ w1.drawn → cur'.size = cur.size → cur'.toList.take ((n + m) * k) = olds.take (i * k) ++ news ++ olds.drop (i * k) →
          ∃ v nb, Ending.returned (.slice (some ⟨b, 0, none⟩) (n + m) c) = .returned v ∧ RowAt w' k (n + m) v (olds.take (i * k) ++ news ++ olds.drop (i * k)) nb ∧ (w.heap.size ≤ nb ∨ ∃ cap, Value.slice (some ⟨b, 0, none⟩) n c = .slice (some ⟨nb, 0, none⟩) n cap ∧ 0 < cap) ∧ nb < w'.heap.size ∧
            Behind (fun x => ∃ cap, Value.slice (some ⟨b, 0, none⟩) n c = .slice (some ⟨x, 0, none⟩) n cap ∧ 0 < cap) w w' := by
        intro w1 w' cur' hw' e0 e1 e2 e3 hdr hs2 ht2
        have hoth : ∀ x, x ≠ b → w'.heap[x]? = w.heap[x]? := fun x hx => by rw [hw', setRow_other _ b x _ hx, e0]
        have hnew : w'.heap[b]? = some (.cells cur' e (0, 0)) := by rw [hw']; exact setRow_heap _ b cur _ e _ (by rw [e0]; exact hb)
        have hsz' : w'.heap.size = w.heap.size := by rw [hw']; simp [e0]
        exact ⟨_, _, rfl, ⟨_, _, _, rfl, hnew, by rw [hs2]; exact hsz, hroom, hmax, ht2⟩, .inr ⟨_, rfl, by omega⟩, by omega, ⟨⟨by rw [hw']; exact e1, by rw [hw']; exact e2, by rw [hw']; exact e3, by omega, fun x _ hx => hoth x (fun e => hx (by subst e; exact ⟨c, rfl, by omega⟩))⟩, by rw [hw']; exact hdr⟩⟩
      by_cases hend : i = n
      · -- at the end
        replace hend := hend.symm
        subst hend
        refine (insert_end_room L b n c vb voff m vc news w hm hroom hc63 hln (fun j hj => hcell _ (by rw [Nat.add_mul] at hcc; omega)) (fun j _ => hfro _) hvs h1v).mono fun en w' he => ?_
        obtain ⟨rfl, rfl⟩ := he
        have hfit : n * k + news.length ≤ cur.size := by rw [hln, hsz, ← Nat.add_mul]; exact hcc
        refine inplace w _ _ (setCells_row b e news _ cur w hb hfit) rfl rfl rfl rfl (Nat.le_refl _) ?_ ?_
        · simp only [List.size_toArray, List.length_append, List.length_take, List.length_drop, Array.length_toList]
          omega
        · rw [← hlo, List.take_length, List.drop_length, List.append_nil]
          simp only [List.append_assoc]
          rw [hlo, hct]
          rw [show (n + m) * k = (olds ++ news).length by rw [List.length_append, hlo, hln, Nat.add_mul], ← List.append_assoc]
          exact List.take_left
      · -- in the middle
        have hi : i < n := by omega
        obtain ⟨tA, kA, hsA, hkA⟩ := hvsh
        have hsh : ∀ x cc ee, w.heap[x]? = some (.cells cc ee (0, 0)) → w.shape? x = some (ee, cc.size) := fun x cc ee h => by simp [World.shape?, h]
        refine (insert_shift L hk b n c i vb voff m vc olds news w hi hm hroom hc63 hvbb hlo hln hcs' (fun j hj => hcell j (by omega)) (fun j _ => hfro j) hvs h1c h1v _ _ _ _ hsA (hsh _ _ _ hb) hkA (by
          rw [hsz]
          have : 0 < c * k := Nat.mul_pos (by omega) hk
          omega) hfro).mono fun en w' he => ?_
        obtain ⟨rfl, hw'⟩ := he
        have hdl : (olds.drop (i * k)).length = (n - i) * k := by rw [List.length_drop, hlo, Nat.sub_mul]
        have hs6 : n * k - i * k = (n - i) * k := (Nat.sub_mul ..).symm
        have hs1 : (i + m) * k + (n - i) * k = (n + m) * k := by rw [← Nat.add_mul]; congr 1; omega
        have hs2 : i * k + m * k = (i + m) * k := by rw [Nat.add_mul]
        have hs3 : i * k ≤ n * k := Nat.mul_le_mul_right _ hin
        have hb1 : w.drew.heap[b]? = some (.cells cur e (0, 0)) := hb
        have r1 := setCells_row b e (olds.drop (i * k)) ((i + m) * k) cur w.drew hb1 (by omega)
        rw [r1] at hw'
        have hb2 := setRow_heap w.drew b cur (cur.toList.take ((i + m) * k) ++ olds.drop (i * k) ++ cur.toList.drop ((i + m) * k + (olds.drop (i * k)).length)).toArray e _ hb1
        rw [setCells_row b e news (i * k) _ _ hb2 (by
          simp only [List.size_toArray, List.length_append, List.length_take, List.length_drop, Array.length_toList]
          omega), setRow_setRow] at hw'
        refine inplace w.drew w' _ hw' rfl rfl rfl rfl (Nat.le_succ _) ?_ ?_
        · simp only [List.size_toArray, List.length_append, List.length_take, List.length_drop, Array.length_toList]
          omega
        · have hci : cur.toList.take (i * k) = olds.take (i * k) := by
            rw [← hct, List.take_take, Nat.min_eq_left hs3]
          have ht1 : ((cur.toList.take ((i + m) * k) ++ olds.drop (i * k) ++ cur.toList.drop ((i + m) * k + (olds.drop (i * k)).length))).take (i * k) = olds.take (i * k) := by
            rw [List.append_assoc, List.take_append_of_le_length (by simp only [List.length_take, Array.length_toList]; omega), List.take_take, Nat.min_eq_left (by omega), hci]
          have hd1 : ((cur.toList.take ((i + m) * k) ++ olds.drop (i * k) ++ cur.toList.drop ((i + m) * k + (olds.drop (i * k)).length))).drop (i * k + news.length) = olds.drop (i * k) ++ cur.toList.drop ((i + m) * k + (olds.drop (i * k)).length) := by
            have hl : i * k + news.length = (cur.toList.take ((i + m) * k)).length := by simp only [List.length_take, Array.length_toList]; omega
            rw [hl, List.append_assoc]
            exact List.drop_left
          simp only [ht1, hd1]
          rw [← List.append_assoc]
          rw [show (n + m) * k = (olds.take (i * k) ++ news ++ olds.drop (i * k)).length by
            simp only [List.length_append, List.length_take, hdl]
            omega]
          exact List.take_left
    · -- a new row
      have hgt : c < n + m := by omega
      have hfit := growslice_fits hgt hbytes
      have hge := grownCap_ge w (n + m) c (R.t 23)
      by_cases hend : i = n
      · replace hend := hend.symm
        subst hend
        refine (insert_end_grow L (some ⟨b, 0, none⟩) n c vb voff m vc olds news w hm hle hgt hfit (by omega) hlo hln (fun h => by cases h) (fun a ha j v hv => by
          cases ha
          rw [Addr.add_mid]
          exact hcs j v hv) hvs h1v).mono fun en w' he => ?_
        obtain ⟨rfl, rfl⟩ := he
        have hzl := size_zeroCells z.cells (grownCap w (n + m) c (R.t 23) - (n + m))
        refine grown olds _ c _ rfl rfl rfl rfl (by simp) (fun x hx => ((Below.refl _ _).drew.alloc (Nat.le_refl _) _).block x hx) (by simp) (heap_alloc_new w.drew _) ?_ ?_
        · simp only [Array.size_append, List.size_toArray, List.length_append, hzl, hlo, hln, hzc]
          rw [← Nat.add_mul, ← Nat.add_mul]
          congr 1
          omega
        · rw [← hlo, List.take_length, List.drop_length, List.append_nil]
          simp only [Array.toList_append]
          rw [show (n + m) * k = (olds ++ news).length by rw [List.length_append, hlo, hln, Nat.add_mul]]
          exact List.take_left
      · have hi : i < n := by omega
        refine (insert_grow L hk hzc b n c i vb voff m vc olds news w hi hm hle hgt hfit hml (by omega) hlo hln hcs' hvs h1c h1v).mono fun en w' he => ?_
        obtain ⟨rfl, hw'⟩ := he
        generalize hG : grownCap w (n + m) c (R.t 23) = G at *
        have hzl := fun x => size_zeroCells z.cells x
        have hs1 : (i + m) * k + (n - i) * k = (n + m) * k := by rw [← Nat.add_mul]; congr 1; omega
        have hs2 : i * k + m * k = (i + m) * k := by rw [Nat.add_mul]
        have hs3 : i * k ≤ n * k := Nat.mul_le_mul_right _ hin
        have hs4 : i * k + (n + m - i) * k = (n + m) * k := by rw [← Nat.add_mul]; congr 1; omega
        have hs5 : (n + m) * k + (G - (n + m)) * k = G * k := by rw [← Nat.add_mul]; congr 1; omega
        have hdl : (olds.drop (i * k)).length = (n - i) * k := by rw [List.length_drop, hlo, Nat.sub_mul]
        have hs6 : n * k - i * k = (n - i) * k := (Nat.sub_mul ..).symm
        generalize hrow : (olds.take (i * k)).toArray ++ Builtin.zeroCells z.cells (n + m - i) ++ Builtin.zeroCells z.cells (G - (n + m)) = row at hw'
        have hrs : row.size = G * k := by
          rw [← hrow]
          simp only [Array.size_append, List.size_toArray, List.length_take, hzl, hzc, hlo]
          omega
        have hrt : row.toList.take (i * k) = olds.take (i * k) := by
          rw [← hrow]
          simp only [Array.toList_append, List.append_assoc]
          have hl : (olds.take (i * k)).length = i * k := by rw [List.length_take, hlo]; omega
          have h8 := List.take_left (l₁ := olds.take (i * k)) (l₂ := (Builtin.zeroCells z.cells (n + m - i)).toList ++ (Builtin.zeroCells z.cells (G - (n + m))).toList)
          rw [hl] at h8
          exact h8
        have hr0 : (w.alloc (.cells row (R.t 23))).drew.heap[w.heap.size]? = some (.cells row (R.t 23) (0, 0)) := heap_alloc_new w _
        rw [setCells_row w.heap.size (R.t 23) news (i * k) row _ hr0 (by omega)] at hw'
        have hr1 := setRow_heap (w.alloc (.cells row (R.t 23))).drew w.heap.size row (row.toList.take (i * k) ++ news ++ row.toList.drop (i * k + news.length)).toArray (R.t 23) _ hr0
        have hr2 : ((w.alloc (.cells row (R.t 23))).drew.setRow w.heap.size (row.toList.take (i * k) ++ news ++ row.toList.drop (i * k + news.length)).toArray).drew.heap[w.heap.size]? = _ := hr1
        rw [setCells_row w.heap.size (R.t 23) (olds.drop (i * k)) ((i + m) * k) _ _ hr2 (by
          simp only [List.size_toArray, List.length_append, List.length_take, List.length_drop, Array.length_toList]
          omega)] at hw'
        have hr3 := setRow_heap _ w.heap.size _ ((row.toList.take (i * k) ++ news ++ row.toList.drop (i * k + news.length)).toArray.toList.take ((i + m) * k) ++ olds.drop (i * k) ++ (row.toList.take (i * k) ++ news ++ row.toList.drop (i * k + news.length)).toArray.toList.drop ((i + m) * k + (olds.drop (i * k)).length)).toArray (R.t 23) _ hr2
        rw [← hw'] at hr3
        subst hG
        refine grown olds w' c _ rfl (by rw [hw']; rfl) (by rw [hw']; rfl) (by rw [hw']; rfl) (by rw [hw']; simp) (fun x hx => ?_) (by rw [hw']; simp [World.drew]; omega) hr3 ?_ ?_
        · rw [hw', setRow_other _ _ _ _ (by omega)]
          show ((w.alloc (.cells row (R.t 23))).drew.setRow w.heap.size _).heap[x]? = _
          rw [setRow_other _ _ _ _ (by omega)]
          exact ((Below.refl _ _).alloc (Nat.le_refl _) _).block x hx
        · simp only [List.size_toArray, List.length_append, List.length_take, List.length_drop, Array.length_toList]
          omega
        · have hA : (row.toList.take (i * k) ++ news ++ row.toList.drop (i * k + news.length)).toArray.toList.take ((i + m) * k) = olds.take (i * k) ++ news := by
            rw [hrt]
            have hl : (i + m) * k = (olds.take (i * k) ++ news).length := by rw [List.length_append, List.length_take, hlo]; omega
            rw [hl]
            exact List.take_left
          rw [hA]
          have hl : (n + m) * k = (olds.take (i * k) ++ news ++ olds.drop (i * k)).length := by
            simp only [List.length_append, List.length_take, hdl]
            omega
          rw [hl]
          exact List.take_left
end
end Go.Proofs.Ytlgblpngiamhaaa.Am
