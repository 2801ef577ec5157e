import Derived.Test.YtboenehajoaahaaAmD
namespace Go.Proofs.Ytboenehajoaahaa.Am
open Go
section
variable {ρ : Nat → FuncId} {w w' : World} {S S' : Nat → Prop} {β β' : Nat → Lay}
theorem TCs.append {xs ys : List (Hdr × D)} {cs ds : List Value} {B C : List Nat} (h : TCs ρ w S β xs cs B) (h' : TCs ρ w S β ys ds C) : TCs ρ w S β (xs ++ ys) (cs ++ ds) (B ++ C) := by
  induction h with
  | nil => exact h'
  | val h1 t ih => rw [List.cons_append, List.append_assoc]; exact .val h1 ih
  | agg h1 t ih1 ih => rw [List.cons_append, List.append_assoc, List.append_assoc]; exact .agg h1 ih
  | osl0 hh t ih => exact .osl0 hh ih
  | osl hh hb hsz hle hmax hk ht h1 t ih1 ih =>
    rw [List.cons_append, List.cons_append]
    have := TCs.osl hh hb hsz hle hmax hk ht h1 ih
    simpa using this
  | ref hv hs t ih => exact .ref hv hs ih
  | ptr hp t ih => exact .ptr hp ih
  | fnv h1 hv t ih => exact .fnv h1 hv ih
  | junk hl ho t ih => rw [List.cons_append, List.append_assoc]; exact .junk hl ho ih
  | undef h1 t ih => exact .undef h1 ih
def xsizes : List (Hdr × D) → Nat
  | [] => 0
  | x :: xs => x.2.size + xsizes xs
theorem TCs.length {xs : List (Hdr × D)} {cs : List Value} {B : List Nat} (h : TCs ρ w S β xs cs B) : cs.length = xsizes xs := by
  have hf : ∀ (h : Hdr) (ds : List D) (j off : Nat), xsizes (flds h j off ds) = dsizes ds := by
    intro h ds
    induction ds with
    | nil => intros; rfl
    | cons d ds ih => intro j off; simp only [flds, xsizes, Qau, ih]
  induction h with
  | nil => rfl
  | val h1 t ih => simp [xsizes, h1.length, ih, D.size]
  | agg h1 t ih1 ih => simp [xsizes, ih1, ih, D.size, hf]
  | junk hl ho t ih => simp [xsizes, ih, D.size, hl]
  | _ => simp_all [xsizes, D.size, Nat.add_comm]
theorem TCs.cons_inv {x : Hdr × D} {xs : List (Hdr × D)} {cs : List Value} {B : List Nat} (h : TCs ρ w S β (x :: xs) cs B) :
    ∃ c1 c2 B1 B2, cs = c1 ++ c2 ∧ B = B1 ++ B2 ∧ c1.length = x.2.size ∧ TCs ρ w S β [x] c1 B1 ∧ TCs ρ w S β xs c2 B2 := by
  have fin : ∀ {c1 B1}, TCs ρ w S β [x] c1 B1 → c1.length = x.2.size := fun h => by rw [h.length]; simp [xsizes]
  cases h with
  | val h1 t => exact have h := TCs.val (β := β) h1 .nil; ⟨_, _, [], _, rfl, rfl, by simpa using fin h, by simpa using h, t⟩
  | agg h1 t => exact have h := TCs.agg h1 .nil; ⟨_, _, _, _, rfl, rfl, by simpa using fin h, by simpa using h, t⟩
  | osl0 hh t => exact ⟨[_], _, [], _, rfl, rfl, rfl, .osl0 hh .nil, t⟩
  | osl hh hb hsz hle hmax hk ht h1 t => exact ⟨[_], _, _ :: _, _, rfl, rfl, rfl, by have h := TCs.osl hh hb hsz hle hmax hk ht h1 .nil; simpa using h, t⟩
  | ref hv hs t => exact ⟨[_], _, [], _, rfl, rfl, rfl, .ref hv hs .nil, t⟩
  | ptr hp t => exact ⟨[_], _, [], _, rfl, rfl, rfl, .ptr hp .nil, t⟩
  | fnv h1 hv t => exact ⟨[_], _, [], _, rfl, rfl, rfl, .fnv h1 hv .nil, t⟩
  | junk hl ho t => exact have h := TCs.junk hl ho .nil; ⟨_, _, [], _, rfl, rfl, by simpa using fin h, by simpa using h, t⟩
  | undef h1 t => exact ⟨[_], _, [], _, rfl, rfl, rfl, .undef h1 .nil, t⟩
theorem TCs.split {xs ys : List (Hdr × D)} {cs : List Value} {B : List Nat} (h : TCs ρ w S β (xs ++ ys) cs B) :
    ∃ c1 c2 B1 B2, cs = c1 ++ c2 ∧ B = B1 ++ B2 ∧ c1.length = xsizes xs ∧ TCs ρ w S β xs c1 B1 ∧ TCs ρ w S β ys c2 B2 := by
  induction xs generalizing cs B with
  | nil => exact ⟨[], cs, [], B, rfl, rfl, rfl, .nil, h⟩
  | cons x xs ih =>
    obtain ⟨c1, c2, B1, B2, rfl, rfl, hl, h1, h2⟩ := TCs.cons_inv h
    obtain ⟨c3, c4, B3, B4, rfl, rfl, hl2, h3, h4⟩ := ih h2
    exact ⟨c1 ++ c3, c4, B1 ++ B3, B4, by simp, by simp, by simp [hl, hl2, xsizes], h1.append h3, h4⟩
theorem TCs.agg_inv {h : Hdr} {ds : List D} {cs : List Value} {B : List Nat} (t : TCs ρ w S β [(h, .agg ds)] cs B) : TCs ρ w S β (flds h 0 0 ds) cs B := by
  cases t with
  | agg h1 t => cases t; simpa using h1
theorem TCs.of_agg {h : Hdr} {ds : List D} {cs : List Value} {B : List Nat} (t : TCs ρ w S β (flds h 0 0 ds) cs B) : TCs ρ w S β [(h, .agg ds)] cs B := by
  simpa using TCs.agg t .nil
theorem TCs.val_inv {h : Hdr} {u : U} {cs : List Value} {B : List Nat} (t : TCs ρ w S β [(h, .val u)] cs B) : URs ρ w S [u] cs ∧ B = [] := by
  cases t with
  | val h1 t => cases t; exact ⟨by simpa using h1, rfl⟩
theorem TCs.of_val {h : Hdr} {u : U} {cs : List Value} (t : URs ρ w S [u] cs) : TCs ρ w S β [(h, .val u)] cs [] := by
  simpa using TCs.val (β := β) (h := h) t .nil
theorem TCs.of_vals {h : Hdr} {us : List U} {cs : List Value} (t : URs ρ w S us cs) : ∀ j off, TCs ρ w S β (flds h j off (us.map .val)) cs [] := by
  induction us generalizing cs with
  | nil => intros; cases t; exact .nil
  | cons u us ih =>
    intro j off
    obtain ⟨c1, c2, rfl, _, h1, h2⟩ := t.cons_inv
    exact .val h1 (ih h2 _ _)
theorem TCs.vals_inv {h : Hdr} : ∀ {us : List U} {cs : List Value} {B : List Nat} {j off : Nat}, TCs ρ w S β (flds h j off (us.map .val)) cs B → URs ρ w S us cs ∧ B = []
  | [], cs, B, j, off, t => by cases t; exact ⟨.nil, rfl⟩
  | u :: us, cs, B, j, off, t => by
    obtain ⟨c1, c2, B1, B2, rfl, rfl, _, h1, h2⟩ := TCs.cons_inv t
    obtain ⟨h3, rfl⟩ := h1.val_inv
    obtain ⟨h4, rfl⟩ := TCs.vals_inv h2
    exact ⟨h3.append h4, rfl⟩
theorem Qpr (h : Hdr) : ∀ (ds : List D) (j off : Nat), xsizes (flds h j off ds) = dsizes ds
  | [], _, _ => rfl
  | d :: ds, j, off => by simp only [flds, xsizes, Qau]; rw [Qpr h ds]
theorem Qdi (h : Hdr) (k : Nat) : ∀ (ds : List D) (i : Nat), xsizes (elts h k i ds) = dsizes ds
  | [], _ => rfl
  | d :: ds, i => by simp only [elts, xsizes, Qau]; rw [Qdi h k ds]
theorem Qdt (h : Hdr) : ∀ (ds : List D) (j0 o0 j : Nat) (d : D), ds[j]? = some d →
    flds h j0 o0 ds = flds h j0 o0 (ds.take j) ++ (h.at (.fld (j0 + j) (o0 + dsizes (ds.take j))), d) :: flds h (j0 + j + 1) (o0 + dsizes (ds.take j) + d.size) (ds.drop (j + 1))
  | [], _, _, j, d, hj => by simp at hj
  | d0 :: ds, j0, o0, 0, d, hj => by
    simp only [List.getElem?_cons_zero, Option.some.injEq] at hj
    subst hj
    simp [flds]
  | d0 :: ds, j0, o0, j + 1, d, hj => by
    have := Qdt h ds (j0 + 1) (o0 + d0.size) j d (by simpa using hj)
    simp only [flds, List.take_succ_cons, List.drop_succ_cons, Qau, List.cons_append]
    rw [this]
    simp only [Nat.add_assoc, Nat.add_comm 1 j]
theorem Qdq (h : Hdr) (k : Nat) : ∀ (ds : List D) (i0 i : Nat) (d : D), ds[i]? = some d →
    elts h k i0 ds = elts h k i0 (ds.take i) ++ (h.at (.elt (i0 + i) k), d) :: elts h k (i0 + i + 1) (ds.drop (i + 1))
  | [], _, i, d, hj => by simp at hj
  | d0 :: ds, i0, 0, d, hj => by
    simp only [List.getElem?_cons_zero, Option.some.injEq] at hj
    subst hj
    simp [elts]
  | d0 :: ds, i0, i + 1, d, hj => by
    have := Qdq h k ds (i0 + 1) i d (by simpa using hj)
    simp only [elts, List.take_succ_cons, List.drop_succ_cons, List.cons_append]
    rw [this]
    simp only [Nat.add_assoc, Nat.add_comm 1 i]
theorem Qgc {h h' : Hdr} : ∀ (ds : List D) (j0 o0 : Nat), (∀ j o, j0 ≤ j → j < j0 + ds.length → h'.at (.fld j o) = h.at (.fld j o)) → flds h' j0 o0 ds = flds h j0 o0 ds
  | [], _, _, _ => rfl
  | d :: ds, j0, o0, hh => by
    simp only [flds]
    rw [hh j0 o0 (Nat.le_refl _) (by simp), Qgc ds _ _ fun j o h1 h2 => hh j o (by omega) (by simp only [List.length_cons]; omega)]
theorem Qei {h h' : Hdr} {k : Nat} : ∀ (ds : List D) (i0 : Nat), (∀ i, i0 ≤ i → i < i0 + ds.length → h'.at (.elt i k) = h.at (.elt i k)) → elts h' k i0 ds = elts h k i0 ds
  | [], _, _ => rfl
  | d :: ds, i0, hh => by
    simp only [elts]
    rw [hh i0 (Nat.le_refl _) (by simp), Qei ds _ fun i h1 h2 => hh i (by omega) (by simp only [List.length_cons]; omega)]
theorem Qez (h hx : Hdr) (s : Step) (p : List Step) : (h.put (s :: p) hx).at s = (h.at s).put p hx := by
  funext q
  simp only [Hdr.at, Hdr.put, dropPre, if_true]
theorem Qc6 (h hx : Hdr) (s t : Step) (p : List Step) (hne : t ≠ s) : (h.put (s :: p) hx).at t = h.at t := by
  funext q
  simp only [Hdr.at, Hdr.put, dropPre, if_neg hne.symm]
theorem Qe0 (h hx : Hdr) : h.put [] hx = hx := by
  funext q
  simp only [Hdr.put, dropPre]
theorem Qgz (h : Hdr) (p : List Step) : h.put p (h.sub p) = h := by
  funext q
  simp only [Hdr.put, Hdr.sub]
  have key : ∀ (p q q' : List Step), dropPre p q = some q' → p ++ q' = q := by
    intro p
    induction p with
    | nil => intro q q' h; simp only [dropPre, Option.some.injEq] at h; simp [h]
    | cons s p ih =>
      intro q q' h
      cases q with
      | nil => cases h
      | cons t q =>
        simp only [dropPre] at h
        split at h
        · rename_i e; subst e; rw [List.cons_append, ih q q' h]
        · cases h
  split
  · rename_i q' hq; rw [key p q q' hq]
  · rfl
def patch (cur : Array Value) (off : Nat) (cx : List Value) : Array Value := (cur.toList.take off ++ cx ++ cur.toList.drop (off + cx.length)).toArray
theorem Qyf {cur : Array Value} {off : Nat} {cx : List Value} (h : off + cx.length ≤ cur.size) : (patch cur off cx).size = cur.size := by
  simp [patch]; omega
theorem Qnp {pre c' post cx : List Value} (h : c'.length = cx.length) : patch (pre ++ c' ++ post).toArray pre.length cx = (pre ++ cx ++ post).toArray := by
  unfold patch
  congr 1
  simp only [List.append_assoc]
  rw [List.take_left]
  congr 2
  rw [← h, ← List.append_assoc, ← List.length_append, List.drop_left]
theorem Qc8 {x : D} : ∀ {p : List Step} {d d2 : D}, setX x d p = some d2 → d2.size = d.size
  | [], d, d2, h => by
    cases d <;> (simp only [setX] at h; split at h <;> first | (cases h; rename_i e; exact e.symm) | cases h)
  | s :: p, d, d2, h => by
    have hset : ∀ (ds : List D) (j : Nat) (d d' : D), ds[j]? = some d → d'.size = d.size → dsizes (ds.set j d') = dsizes ds := by
      intro ds
      induction ds with
      | nil => intro j d d' h; simp at h
      | cons d0 ds ih =>
        intro j d d' h hs
        cases j with
        | zero =>
          simp only [List.getElem?_cons_zero, Option.some.injEq] at h
          subst h
          simp [hs]
        | succ j => simp [ih j d d' (by simpa using h) hs]
    have hv : ∀ us : List U, dsizes (us.map .val) = sizes us := by
      intro us
      induction us with
      | nil => rfl
      | cons u us ih => simp [ih, D.size]
    cases s with
    | fld j off =>
      cases d with
      | val u =>
        cases u with
        | agg us =>
          simp only [setX] at h
          split at h
          · obtain ⟨u, hu, h⟩ := Option.bind_eq_some_iff.1 h
            obtain ⟨d', hd', rfl⟩ := Option.map_eq_some_iff.1 h
            simp only [D.size, Qe7]
            have := Qc8 hd'
            show dsizes _ = _
            rw [hset _ j (.val u) d' (by simp [hu]) this, hv]
          · cases h
        | _ => simp [setX] at h
      | agg ds =>
        simp only [setX] at h
        split at h
        · obtain ⟨d, hd, h⟩ := Option.bind_eq_some_iff.1 h
          obtain ⟨d', hd', rfl⟩ := Option.map_eq_some_iff.1 h
          exact hset _ j d d' hd (Qc8 hd')
        · cases h
      | _ => simp [setX] at h
    | elt i k =>
      cases d with
      | osl k' ds =>
        simp only [setX] at h
        split at h
        · obtain ⟨d, hd, h⟩ := Option.bind_eq_some_iff.1 h
          obtain ⟨d', hd', rfl⟩ := Option.map_eq_some_iff.1 h
          rfl
        · cases h
      | val u => simp [setX] at h
      | _ => simp [setX] at h
theorem Qyd {α : Type} (us : List α) (j : Nat) (u : α) (h : j < us.length) : us.set j u = us.take j ++ (u :: us.drop (j + 1)) := by
  rw [List.set_eq_take_append_cons_drop, if_pos h]
def Others (ρ : Nat → FuncId) (w w2 : World) (S S2 : Nat → Prop) (β β2 : Nat → Lay) (m : Tag) (Ok : Nat → Prop) : Prop :=
  ∀ xs c C, TCs ρ w S β xs c C → (∀ b ∈ C, Ok b) → TCs ρ w2 S2 β2 (xs.map fun x => (x.1, x.2.retag m)) c C
theorem Others.sub {w2 : World} {S2 : Nat → Prop} {β2 : Nat → Lay} {m : Tag} {Ok Ok' : Nat → Prop} (h : Others ρ w w2 S S2 β β2 m Ok) (hs : ∀ b, Ok' b → Ok b) : Others ρ w w2 S S2 β β2 m Ok' :=
  fun xs c C t hc => h xs c C t fun b hb => hs b (hc b hb)
def Near (ρ : Nat → FuncId) (w : World) (S : Nat → Prop) (β : Nat → Lay) (d : D) (p : List Step) (h : Hdr) (cs c' : List Value) (L Q : List Nat) : Prop :=
  ∃ pre post, cs = pre ++ c' ++ post ∧ (∀ b o, place h (.adr b o) p = some (.adr b (o + pre.length))) ∧ place h .vir p = some .vir ∧
    ∀ (w2 : World) (S2 : Nat → Prop) (β2 : Nat → Lay) (m : Tag) hx x cx Bx d2, Others ρ w w2 S S2 β β2 m (fun b => b ∈ L ++ Q) → setX x d p = some d2 → TCs ρ w2 S2 β2 [(hx, x.retag m)] cx Bx →
      TCs ρ w2 S2 β2 [(h.put p hx, d2.retag m)] (pre ++ cx ++ post) (L ++ Bx ++ Q)
def Far (ρ : Nat → FuncId) (w : World) (S : Nat → Prop) (β : Nat → Lay) (d : D) (p : List Step) (h : Hdr) (cs c' : List Value) (L Q : List Nat) : Prop :=
  ∃ b off cur e, b ∈ L ∧ w.heap[b]? = some (.cells cur e (0, 0)) ∧ (∀ q, q ≠ .dead → place h q p = some (.adr b off)) ∧ (∀ j v, c'[j]? = some v → cur[off + j]? = some v) ∧ off + c'.length ≤ cur.size ∧
    ∀ (w2 : World) (S2 : Nat → Prop) (β2 : Nat → Lay) (m : Tag) hx x cx Bx d2, Others ρ w w2 S S2 β β2 m (fun b' => b' ∈ L ++ Q ∧ b' ≠ b) → (∀ b' ∈ L ++ Q, b' ≠ b → w2.heap[b']? = w.heap[b']?) → w2.heap[b]? = some (.cells (patch cur off cx) e (0, 0)) → cx.length = c'.length →
      setX x d p = some d2 → TCs ρ w2 S2 β2 [(hx, x.retag m)] cx Bx → TCs ρ w2 S2 β2 [(h.put p hx, d2.retag m)] cs (L ++ Bx ++ Q)
theorem Qcx (us : List U) : dsizes (us.map .val) = sizes us := by
  induction us with
  | nil => rfl
  | cons u us ih => simp [ih, D.size]
theorem Qc7 (m : Tag) (ds : List D) (i : Nat) (d : D) : D.retag.retags m (ds.set i d) = (D.retag.retags m ds).set i (d.retag m) := by
  rw [Qs, Qs, List.map_set]
theorem TCs.loc {p : List Step} : ∀ {d d' : D} {h : Hdr} {cs : List Value} {B : List Nat}, TCs ρ w S β [(h, d)] cs B → B.Nodup → getX d p = some d' →
    ∃ c' L Bc Q, B = L ++ Bc ++ Q ∧ TCs ρ w S β [(h.sub p, d')] c' Bc ∧ c'.length = d'.size ∧ (Near ρ w S β d p h cs c' L Q ∨ Far ρ w S β d p h cs c' L Q) := by
  induction p with
  | nil =>
    intro d d' h cs B t hn hp
    have hd : d' = d := by cases d <;> (simp only [getX, Option.some.injEq] at hp; exact hp.symm)
    subst hd
    refine ⟨cs, [], B, [], by simp, t, by rw [t.length]; simp [xsizes], .inl ⟨[], [], by simp, fun b o => rfl, rfl, fun w2 S2 β2 m hx x cx Bx d2 _ hset tx => ?_⟩⟩
    have : d2 = x := by cases d' <;> (simp only [setX] at hset; split at hset <;> first | (cases hset; rfl) | cases hset)
    subst this
    rw [Qe0]
    simpa using tx
  | cons s p ih =>
    have fld : ∀ (j off : Nat) {ds : List D} {d' : D} {h : Hdr} {cs : List Value} {B : List Nat}, s = .fld j off → TCs ρ w S β [(h, .agg ds)] cs B → B.Nodup → getX (.agg ds) (.fld j off :: p) = some d' →
        ∃ c' L Bc Q, B = L ++ Bc ++ Q ∧ TCs ρ w S β [(h.sub (.fld j off :: p), d')] c' Bc ∧ c'.length = d'.size ∧ (Near ρ w S β (.agg ds) (.fld j off :: p) h cs c' L Q ∨ Far ρ w S β (.agg ds) (.fld j off :: p) h cs c' L Q) := by
      intro j off ds d' h cs B _ t hn hp
      simp only [getX] at hp
      split at hp
      rotate_left
      · cases hp
      rename_i hoff
      obtain ⟨d1, hj, hp⟩ := Option.bind_eq_some_iff.1 hp
      have hit := Qdt h ds 0 0 j d1 hj
      simp only [Nat.zero_add] at hit
      have t1 := t.agg_inv
      rw [hit] at t1
      obtain ⟨ca, cr, Ba, Br, rfl, rfl, hla, ta, tr⟩ := t1.split
      obtain ⟨ci, cc, Bi, Bq, rfl, rfl, hli, ti, tc⟩ := tr.cons_inv
      rw [Qpr] at hla
      rw [← hoff] at ti
      have hni : Bi.Nodup := (List.nodup_append.1 (List.nodup_append.1 hn).2.1).1
      obtain ⟨c', L, Bc, Q, rfl, tp, hlc, hcase⟩ := ih ti hni hp
      have hlt : j < ds.length := (List.getElem?_eq_some_iff.1 hj).1
      have whole : ∀ (w2 : World) (S2 : Nat → Prop) (β2 : Nat → Lay) (m : Tag) hx cx d3 Bn, TCs ρ w2 S2 β2 ((flds h 0 0 (ds.take j)).map fun x => (x.1, x.2.retag m)) ca Ba → TCs ρ w2 S2 β2 [((h.at (.fld j off)).put p hx, d3)] cx Bn → d3.size = d1.size →
          TCs ρ w2 S2 β2 ((flds h (j + 1) (dsizes (ds.take j) + d1.size) (ds.drop (j + 1))).map fun x => (x.1, x.2.retag m)) cc Bq → TCs ρ w2 S2 β2 [(h.put (.fld j off :: p) hx, .agg ((D.retag.retags m ds).set j d3))] (ca ++ cx ++ cc) (Ba ++ Bn ++ Bq) := by
        intro w2 S2 β2 m hx cx d3 Bn h1 h2 hs h3
        refine TCs.of_agg ?_
        have hl : (D.retag.retags m ds).length = ds.length := by rw [Qs, List.length_map]
        have hsj : ((D.retag.retags m ds).set j d3)[j]? = some d3 := by rw [List.getElem?_set_self (by omega)]
        have e := Qdt (h.put (.fld j off :: p) hx) ((D.retag.retags m ds).set j d3) 0 0 j d3 hsj
        have e2 : ((D.retag.retags m ds).set j d3).take j = D.retag.retags m (ds.take j) := by rw [List.take_set_of_le (Nat.le_refl _), Qs, Qs, List.map_take]
        have e3 : ((D.retag.retags m ds).set j d3).drop (j + 1) = D.retag.retags m (ds.drop (j + 1)) := by rw [List.drop_set_of_lt (by omega), Qs, Qs, List.map_drop]
        rw [e, e2, e3, Qam.go, Nat.zero_add, Nat.zero_add, ← hoff, Qez, hs]
        rw [Qgd] at h1 h3
        rw [Qgc (h := h) _ 0 0 (fun j' o _ h4 => Qc6 h hx _ _ p (fun e => by
          injection e with e5 _
          rw [Qs, List.length_map, List.length_take] at h4
          omega))]
        rw [Qgc (h := h) _ (j + 1) _ (fun j' o h4 _ => Qc6 h hx _ _ p (fun e => by
          injection e with e5 _
          omega))]
        rw [← hoff] at h3
        have := h1.append (h2.append h3)
        simpa using this
      rcases hcase with ⟨pre, post, rfl, g1, g2, g3⟩ | ⟨b, o1, cur, e, hbL, hb, g1, g2, g3, g4⟩
      · refine ⟨c', Ba ++ L, Bc, Q ++ Bq, by simp, tp, hlc, .inl ⟨ca ++ pre, post ++ cc, by simp, fun b o => ?_, ?_, fun w2 S2 β2 m hx x cx Bx d2 ho hset tx => ?_⟩⟩
        · simp only [place, g1, List.length_append, hla, ← hoff, Nat.add_assoc]
        · simp only [place, g2]
        · simp only [setX] at hset
          rw [if_pos hoff, hj] at hset
          simp only [Option.bind_some] at hset
          obtain ⟨d3, hd3, rfl⟩ := Option.map_eq_some_iff.1 hset
          have h2 := g3 w2 S2 β2 m hx x cx Bx d3 (ho.sub fun b hb => by simp only [List.mem_append] at hb ⊢; grind) hd3 tx
          have h1 := ho _ _ _ ta fun b hb => by simp only [List.mem_append]; exact .inl (.inl hb)
          have h3 := ho _ _ _ tc fun b hb => by simp only [List.mem_append]; exact .inr (.inr hb)
          have := whole w2 S2 β2 m hx _ _ _ h1 h2 (by rw [Qam, Qc8 hd3]) h3
          rw [← Qc7] at this
          simpa [D.retag] using this
      · refine ⟨c', Ba ++ L, Bc, Q ++ Bq, by simp, tp, hlc, .inr ⟨b, o1, cur, e, by simp [hbL], hb, fun q hq => ?_, g2, g3, fun w2 S2 β2 m hx x cx Bx d2 ho hk hb2 hlx hset tx => ?_⟩⟩
        · cases q with
          | dead => exact absurd rfl hq
          | adr b' o' => simp only [place]; exact g1 _ (fun e => by cases e)
          | vir => simp only [place]; exact g1 _ (fun e => by cases e)
        · simp only [setX] at hset
          rw [if_pos hoff, hj] at hset
          simp only [Option.bind_some] at hset
          obtain ⟨d3, hd3, rfl⟩ := Option.map_eq_some_iff.1 hset
          have hnb : ∀ b' ∈ Ba ++ Bq, b' ≠ b := fun b' hb' e => by
            subst e
            have h1 := List.nodup_append.1 hn
            have h2 := List.nodup_append.1 h1.2.1
            rcases List.mem_append.1 hb' with h3 | h3
            · exact h1.2.2 _ h3 _ (by simp [hbL]) rfl
            · exact h2.2.2 _ (by simp [hbL]) _ h3 rfl
          have h2 := g4 w2 S2 β2 m hx x cx Bx d3 (ho.sub fun b hb => by simp only [List.mem_append] at hb ⊢; exact ⟨by grind, hb.2⟩) (fun b' hb' hne => hk b' (by simp only [List.mem_append] at hb' ⊢; grind) hne) hb2 hlx hd3 tx
          have h1 := ho _ _ _ ta fun b hb => ⟨by simp only [List.mem_append]; exact .inl (.inl hb), hnb b (by simp [hb])⟩
          have h3 := ho _ _ _ tc fun b hb => ⟨by simp only [List.mem_append]; exact .inr (.inr hb), hnb b (by simp [hb])⟩
          have := whole w2 S2 β2 m hx _ _ _ h1 h2 (by rw [Qam, Qc8 hd3]) h3
          rw [← Qc7] at this
          simpa [D.retag] using this
    intro d d' h cs B t hn hp
    cases s with
    | fld j off =>
      cases d with
      | val u =>
        cases u with
        | agg us =>
          obtain ⟨h1, rfl⟩ := t.val_inv
          have t2 : TCs ρ w S β [(h, .agg (us.map .val))] cs [] := TCs.of_agg (TCs.of_vals (by
            cases h1 with
            | agg h1 h => cases h; simpa using h1) 0 0)
          have e1 : ∀ p, getX (.val (.agg us)) (.fld j off :: p) = getX (.agg (us.map .val)) (.fld j off :: p) := fun p => by
            simp only [getX, ← List.map_take, Qcx, List.getElem?_map]
            split
            · cases us[j]? <;> rfl
            · rfl
          have e2 : ∀ x, setX x (.val (.agg us)) (.fld j off :: p) = setX x (.agg (us.map .val)) (.fld j off :: p) := fun x => by
            simp only [setX, ← List.map_take, Qcx, List.getElem?_map]
            split
            · cases us[j]? <;> rfl
            · rfl
          rw [e1] at hp
          obtain ⟨c', L, Bc, Q, g1, g2, g3, g4⟩ := fld j off rfl t2 hn hp
          refine ⟨c', L, Bc, Q, g1, g2, g3, ?_⟩
          unfold Near Far at g4 ⊢
          simp only [e2]
          exact g4
        | _ => simp [getX] at hp
      | agg ds => exact fld j off rfl t hn hp
      | _ => simp [getX] at hp
    | elt i k =>
      cases d with
      | osl k' ds =>
        simp only [getX] at hp
        split at hp
        rotate_left
        · cases hp
        rename_i hk
        subst hk
        obtain ⟨d1, hi, hp⟩ := Option.bind_eq_some_iff.1 hp
        cases t with
        | osl0 hh t => simp at hi
        | osl hh hb hsz hle hmax hks ht t1 t =>
          rename_i b0 cap cur e c1 cs0 B1 B0
          cases t
          have hlt : i < ds.length := (List.getElem?_eq_some_iff.1 hi).1
          have hit := Qdq h k ds 0 i d1 hi
          simp only [Nat.zero_add] at hit
          have t1' := t1
          rw [hit] at t1'
          obtain ⟨ca, cr, Ba, Br, hc1, rfl, hla, ta, tr⟩ := t1'.split
          obtain ⟨ci, cc, Bi, Bq, rfl, rfl, hli, ti, tc⟩ := tr.cons_inv
          have hus : ∀ l : List D, (∀ d ∈ l, d.size = k) → dsizes l = l.length * k := fun l => by
            induction l with
            | nil => simp
            | cons d l ihl =>
              intro hl
              simp only [Qau, List.length_cons, Nat.succ_mul, hl d (by simp), ihl fun d hd => hl d (by simp [hd])]
              omega
          rw [Qdi, hus _ (fun d hd => hks d (List.mem_of_mem_take hd)), List.length_take, Nat.min_eq_left (by omega)] at hla
          have hlen1 : c1.length = ds.length * k := by rw [t1.length, Qdi, hus _ hks]
          have hfit : ds.length * k ≤ cur.size := by rw [hsz]; exact Nat.mul_le_mul_right _ hle
          rw [List.append_nil] at hn
          have hn0 := (List.nodup_cons.1 hn).1
          have hn1 := (List.nodup_cons.1 hn).2
          have hni : Bi.Nodup := (List.nodup_append.1 (List.nodup_append.1 hn1).2.1).1
          obtain ⟨c', L, Bc, Q, rfl, tp, hlc, hcase⟩ := ih ti hni hp
          have whole : ∀ (w2 : World) (S2 : Nat → Prop) (β2 : Nat → Lay) (m : Tag) hx cx d3 Bn cur2, TCs ρ w2 S2 β2 ((elts h k 0 (ds.take i)).map fun x => (x.1, x.2.retag m)) ca Ba → TCs ρ w2 S2 β2 [((h.at (.elt i k)).put p hx, d3)] cx Bn → d3.size = d1.size →
              TCs ρ w2 S2 β2 ((elts h k (i + 1) (ds.drop (i + 1))).map fun x => (x.1, x.2.retag m)) cc Bq → w2.heap[b0]? = some (.cells cur2 e (0, 0)) → cur2.size = cur.size → cur2.toList.take (ds.length * k) = ca ++ cx ++ cc →
              TCs ρ w2 S2 β2 [(h.put (.elt i k :: p) hx, .osl k ((D.retag.retags m ds).set i d3))] [.slice (some ⟨b0, 0, none⟩) ds.length cap] (b0 :: (Ba ++ Bn ++ Bq)) := by
            intro w2 S2 β2 m hx cx d3 Bn cur2 h1 h2 hs h3 hb2 hs2 ht2
            have hl : (D.retag.retags m ds).length = ds.length := by rw [Qs, List.length_map]
            have hl2 : ((D.retag.retags m ds).set i d3).length = ds.length := by rw [List.length_set, hl]
            have hsi : ((D.retag.retags m ds).set i d3)[i]? = some d3 := by rw [List.getElem?_set_self (by omega)]
            have e1 := Qdq (h.put (.elt i k :: p) hx) k ((D.retag.retags m ds).set i d3) 0 i d3 hsi
            have e2 : ((D.retag.retags m ds).set i d3).take i = D.retag.retags m (ds.take i) := by rw [List.take_set_of_le (Nat.le_refl _), Qs, Qs, List.map_take]
            have e3 : ((D.retag.retags m ds).set i d3).drop (i + 1) = D.retag.retags m (ds.drop (i + 1)) := by rw [List.drop_set_of_lt (by omega), Qs, Qs, List.map_drop]
            rw [e2, e3, Nat.zero_add, Qez] at e1
            rw [Qdr] at h1 h3
            rw [Qei (h := h) (D.retag.retags m (ds.take i)) 0 (fun j' _ h4 => Qc6 h hx _ _ p (fun e => by
              injection e with e5 _
              rw [Qs, List.length_map, List.length_take] at h4
              omega))] at e1
            rw [Qei (h := h) (D.retag.retags m (ds.drop (i + 1))) (i + 1) (fun j' h4 _ => Qc6 h hx _ _ p (fun e => by
              injection e with e5 _
              omega))] at e1
            have h4 := h1.append (h2.append h3)
            have h5 := TCs.osl (ρ := ρ) (w := w2) (S := S2) (β := β2) (h := h.put (.elt i k :: p) hx) (k := k) (ds := (D.retag.retags m ds).set i d3) (b := b0) (cap := cap) (cur := cur2) (e := e) (c1 := ca ++ cx ++ cc) (by rw [hl2]; exact hh) hb2 (by rw [hs2, hsz]) (by rw [hl2]; exact hle) hmax
              (fun d hd => by
                rcases List.mem_or_eq_of_mem_set hd with hd | rfl
                · rw [Qs] at hd
                  obtain ⟨d', hd', rfl⟩ := List.mem_map.1 hd
                  rw [Qam]; exact hks d' hd'
                · rw [hs]; exact hks d1 (List.mem_of_getElem? hi)) (by rw [hl2]; exact ht2) (by rw [e1]; simpa using h4) .nil
            rw [hl2] at h5
            simpa using h5
          rcases hcase with ⟨pre, post, rfl, g1, g2, g3⟩ | ⟨b, o1, cur', e', hbL, hbw, g1, g2, g3, g4⟩
          · have hend : i * k + pre.length + c'.length ≤ ds.length * k := by
              have := congrArg List.length hc1
              simp only [List.length_append, hlen1, hla] at this
              omega
            refine ⟨c', b0 :: Ba ++ L, Bc, Q ++ Bq, by simp, tp, hlc, .inr ⟨b0, i * k + pre.length, cur, e, by simp, hb, fun q hq => ?_, fun j v hv => ?_, by omega, fun w2 S2 β2 m hx x cx Bx d2 ho hk2 hb2 hlx hset tx => ?_⟩⟩
            · cases q with
              | dead => exact absurd rfl hq
              | adr b' o' => simp only [place, hh, hdrAddr, Option.bind_some, g1, Nat.zero_add]
              | vir => simp only [place, hh, hdrAddr, Option.bind_some, g1, Nat.zero_add]
            · have hj : j < c'.length := (List.getElem?_eq_some_iff.1 hv).1
              have h6 : c1[i * k + pre.length + j]? = some v := by
                rw [hc1, List.getElem?_append_right (by omega), hla]
                rw [show i * k + pre.length + j - i * k = pre.length + j by omega]
                rw [List.append_assoc, List.append_assoc, List.getElem?_append_right (by omega), Nat.add_sub_cancel_left, List.getElem?_append_left hj]
                exact hv
              rw [← ht, List.getElem?_take] at h6
              split at h6
              · simpa using h6
              · cases h6
            · simp only [setX] at hset
              rw [if_pos trivial, hi] at hset
              simp only [Option.bind_some] at hset
              obtain ⟨d3, hd3, rfl⟩ := Option.map_eq_some_iff.1 hset
              have hnb : ∀ b' ∈ Ba ++ (L ++ Bc ++ Q ++ Bq), b' ≠ b0 := fun b' hb' e => hn0 (e ▸ hb')
              have h2 := g3 w2 S2 β2 m hx x cx Bx d3 (ho.sub fun b hb => ⟨by simp only [List.mem_append, List.cons_append, List.mem_cons] at hb ⊢; grind, hnb b (by simp only [List.mem_append] at hb ⊢; grind)⟩) hd3 tx
              have h1 := ho _ _ _ ta fun b hb => ⟨by simp [hb], hnb b (by simp [hb])⟩
              have h3 := ho _ _ _ tc fun b hb => ⟨by simp [hb], hnb b (by simp [hb])⟩
              have ecur : cur.toList = (ca ++ pre) ++ c' ++ (post ++ cc ++ cur.toList.drop (ds.length * k)) := by
                have := (List.take_append_drop (ds.length * k) cur.toList).symm
                rw [ht, hc1] at this
                exact this.trans (by simp)
              have ecur2 : cur = ((ca ++ pre) ++ c' ++ (post ++ cc ++ cur.toList.drop (ds.length * k))).toArray := by
                apply Array.ext'
                exact ecur
              have eoff : i * k + pre.length = (ca ++ pre).length := by simp [hla]
              have epatch : patch cur (i * k + pre.length) cx = ((ca ++ pre) ++ cx ++ (post ++ cc ++ cur.toList.drop (ds.length * k))).toArray := by
                rw [eoff]
                conv => lhs; rw [ecur2]
                exact Qnp hlx.symm
              have := whole w2 S2 β2 m hx _ _ _ _ h1 h2 (by rw [Qam, Qc8 hd3]) h3 hb2 (Qyf (by omega)) (by
                rw [epatch]
                have e9 : (ca ++ pre ++ cx ++ (post ++ cc ++ cur.toList.drop (ds.length * k))).toArray.toList = (ca ++ (pre ++ cx ++ post) ++ cc) ++ cur.toList.drop (ds.length * k) := by simp
                rw [e9]
                have e10 : ds.length * k = (ca ++ (pre ++ cx ++ post) ++ cc).length := by
                  have := congrArg List.length hc1
                  simp only [List.length_append, hlen1] at this ⊢
                  omega
                rw [e10]
                exact List.take_left)
              rw [← Qc7] at this
              simpa [D.retag] using this
          · refine ⟨c', b0 :: Ba ++ L, Bc, Q ++ Bq, by simp, tp, hlc, .inr ⟨b, o1, cur', e', by simp [hbL], hbw, fun q hq => ?_, g2, g3, fun w2 S2 β2 m hx x cx Bx d2 ho hk2 hb2 hlx hset tx => ?_⟩⟩
            · cases q with
              | dead => exact absurd rfl hq
              | adr b' o' => simp only [place, hh, hdrAddr, Option.bind_some]; exact g1 _ (fun e => by cases e)
              | vir => simp only [place, hh, hdrAddr, Option.bind_some]; exact g1 _ (fun e => by cases e)
            · simp only [setX] at hset
              rw [if_pos trivial, hi] at hset
              simp only [Option.bind_some] at hset
              obtain ⟨d3, hd3, rfl⟩ := Option.map_eq_some_iff.1 hset
              have hb0 : b0 ≠ b := fun e => hn0 (by rw [e]; simp [hbL])
              have hnb : ∀ b' ∈ Ba ++ Bq, b' ≠ b := fun b' hb' e => by
                subst e
                have h1 := List.nodup_append.1 hn1
                have h2 := List.nodup_append.1 h1.2.1
                rcases List.mem_append.1 hb' with h3 | h3
                · exact h1.2.2 _ h3 _ (by simp [hbL]) rfl
                · exact h2.2.2 _ (by simp [hbL]) _ h3 rfl
              have h2 := g4 w2 S2 β2 m hx x cx Bx d3 (ho.sub fun b hb => ⟨by have := hb.1; simp only [List.mem_append, List.cons_append, List.mem_cons] at this ⊢; grind, hb.2⟩) (fun b' hb' hne => hk2 b' (by simp only [List.mem_append, List.cons_append, List.mem_cons] at hb' ⊢; grind) hne) hb2 hlx hd3 tx
              have h1 := ho _ _ _ ta fun b hb => ⟨by simp [hb], hnb b (by simp [hb])⟩
              have h3 := ho _ _ _ tc fun b hb => ⟨by simp [hb], hnb b (by simp [hb])⟩
              have := whole w2 S2 β2 m hx _ _ _ _ h1 h2 (by rw [Qam, Qc8 hd3]) h3 ((hk2 b0 (by simp) hb0).trans hb) rfl (by rw [ht, hc1]; simp)
              rw [← Qc7] at this
              simpa [D.retag] using this
      | val u => simp [getX] at hp
      | _ => simp [getX] at hp
end
end Go.Proofs.Ytboenehajoaahaa.Am
