import Derived.Test.YtboenehajoaahaaAmC
namespace Go.Proofs.Ytboenehajoaahaa.Am
open Go
section
variable {α : Type}
def U.asAgg (u : U) (K : List U → Option α) : Option α := match u with
  | .agg us => K us
  | _ => none
def U.asSlK (k : Nat) (u : U) (K : List U → Option α) : Option α := match u with
  | .sl k' us => if k' = k then K us else none
  | _ => none
def U.flat : U → Bool
  | .int _ _ | .bool _ | .str _ | .nil | .nsl _ | .raw _ => true
  | .agg us | .tup us => flats us
  | _ => false
where flats : List U → Bool
  | [] => true
  | u :: us => u.flat && flats us
def U.asFlat {α : Type} (u : U) (K : U → Option α) : Option α := if u.flat = true then K u else none
def getDK (K : D → Option α) : D → List Step → Option α
  | d, [] => K d
  | .val u, .fld j off :: p => u.asAgg fun us => if off = sizes (us.take j) then (us[j]?).bind fun u => getDK K (.val u) p else none
  | .own u, .fld j off :: p => u.asAgg fun us => if off = sizes (us.take j) then (us[j]?).bind fun u => getDK K (.own u) p else none
  | .own u, .elt i k :: p => u.asSlK k fun us => (us[i]?).bind fun u => getDK K (.own u) p
  | .asl k us, .elt i k' :: p => if k' = k then (us[i]?).bind fun u => getDK K (.val u) p else none
  | .agg ds, .fld j off :: p => if off = dsizes (ds.take j) then (ds[j]?).bind fun d => getDK K d p else none
  | .osl k ds, .elt i k' :: p => if k' = k then (ds[i]?).bind fun d => getDK K d p else none
  | _, _ => none
def asAggOf (us : List U) (j : Nat) : D → D
  | .val u => .val (.agg (us.set j u))
  | d => .agg ((us.map .val).set j d)
def asOwnAgg (us : List U) (j : Nat) : D → D
  | .own u => .own (.agg (us.set j u))
  | d => .agg ((us.map .own).set j d)
def asOwnSl (k : Nat) (us : List U) (i : Nat) : D → D
  | .own u => .own (.sl k (us.set i u))
  | d => .osl k ((us.map .own).set i d)
def asAsl (k : Nat) (us : List U) (i : Nat) : D → D
  | .val u => .asl k (us.set i u)
  | d => .osl k ((us.map .val).set i d)
def asLeaf (x : D) (K : D → Option α) : Option α := match x with
  | .val v => v.asFlat fun v => K (.own v)
  | x => K x
def setDK (n : Nat) (x : D) (K : D → Option α) : D → List Step → Option α
  | .own u, [] => if u.size = n then asLeaf x K else none
  | d, [] => if d.size = n then K x else none
  | .val u, .fld j off :: p => u.asAgg fun us => if off = sizes (us.take j) then (us[j]?).bind fun u => setDK n x (fun d' => K (asAggOf us j d')) (.val u) p else none
  | .own u, .fld j off :: p => u.asAgg fun us => if off = sizes (us.take j) then (us[j]?).bind fun u => setDK n x (fun d' => K (asOwnAgg us j d')) (.own u) p else none
  | .own u, .elt i k :: p => u.asSlK k fun us => (us[i]?).bind fun u => setDK n x (fun d' => K (asOwnSl k us i d')) (.own u) p
  | .asl k us, .elt i k' :: p => if k' = k then (us[i]?).bind fun u => setDK n x (fun d' => K (asAsl k us i d')) (.val u) p else none
  | .agg ds, .fld j off :: p => if off = dsizes (ds.take j) then (ds[j]?).bind fun d => setDK n x (fun d' => K (.agg (ds.set j d'))) d p else none
  | .osl k ds, .elt i k' :: p => if k' = k then (ds[i]?).bind fun d => setDK n x (fun d' => K (.osl k (ds.set i d'))) d p else none
  | _, _ => none
def getD (d : D) (p : List Step) : Option D := getDK some d p
def setD (n : Nat) (x : D) (d : D) (p : List Step) : Option D := setDK n x some d p
theorem Qah {β γ : Type} (c : Prop) [Decidable c] (x : Option β) (f : β → Option γ) : (if c then x else none).bind f = if c then x.bind f else none := by split <;> rfl
theorem Qeb {β γ : Type} (u : U) (f : List U → Option β) (K : β → Option γ) : (u.asAgg f).bind K = u.asAgg fun us => (f us).bind K := by cases u <;> rfl
theorem Qbf {β γ : Type} (k : Nat) (u : U) (f : List U → Option β) (K : β → Option γ) : (u.asSlK k f).bind K = u.asSlK k fun us => (f us).bind K := by
  cases u <;> first | rfl | (simp only [U.asSlK]; split <;> rfl)
theorem Qp0 {β γ : Type} (x : D) (f : D → Option β) (K : β → Option γ) : (asLeaf x f).bind K = asLeaf x fun d => (f d).bind K := by
  cases x <;> first | rfl | (simp only [asLeaf, U.asFlat]; split <;> rfl)
theorem Qv5 {β : Type} (K : D → Option β) (f : β → Option α) (p : List Step) : ∀ d, (getDK K d p).bind f = getDK (fun d => (K d).bind f) d p := by
  induction p with
  | nil => intro d; cases d <;> rfl
  | cons s p ih =>
    intro d
    cases s <;> cases d <;> first | rfl | simp only [getDK, Qeb, Qbf, Qah, Option.bind_assoc, ih]
theorem Qoi {β : Type} (n : Nat) (x : D) (f : β → Option α) (p : List Step) : ∀ (K : D → Option β) d, (setDK n x K d p).bind f = setDK n x (fun d => (K d).bind f) d p := by
  induction p with
  | nil => intro K d; cases d <;> first | (simp only [setDK, Qah, Qp0]; done) | (simp only [setDK, Qah])
  | cons s p ih =>
    intro K d
    cases s <;> cases d <;> first | rfl | simp only [setDK, Qeb, Qbf, Qah, Option.bind_assoc, ih]
theorem Qal (n : Nat) (x : D) (K : D → Option α) (d : D) (p : List Step) : setDK n x K d p = (setD n x d p).bind K := by
  unfold setD
  rw [Qoi]
  rfl
end
def getX : D → List Step → Option D
  | d, [] => some d
  | .val (.agg us), .fld j off :: p => if off = sizes (us.take j) then (us[j]?).bind fun u => getX (.val u) p else none
  | .agg ds, .fld j off :: p => if off = dsizes (ds.take j) then (ds[j]?).bind fun d => getX d p else none
  | .osl k ds, .elt i k' :: p => if k' = k then (ds[i]?).bind fun d => getX d p else none
  | _, _ => none
def setX (x : D) : D → List Step → Option D
  | d, [] => if d.size = x.size then some x else none
  | .val (.agg us), .fld j off :: p => if off = sizes (us.take j) then (us[j]?).bind fun u => (setX x (.val u) p).map fun d' => .agg ((us.map .val).set j d') else none
  | .agg ds, .fld j off :: p => if off = dsizes (ds.take j) then (ds[j]?).bind fun d => (setX x d p).map fun d' => .agg (ds.set j d') else none
  | .osl k ds, .elt i k' :: p => if k' = k then (ds[i]?).bind fun d => (setX x d p).map fun d' => .osl k (ds.set i d') else none
  | _, _ => none
theorem Qi (us : List U) : U.ex.exs us = us.map U.ex := by
  induction us with
  | nil => rfl
  | cons u us ih => simp [U.ex.exs, ih]
theorem Qr (ds : List D) : D.ex.exs ds = ds.map D.ex := by
  induction ds with
  | nil => rfl
  | cons d ds ih => simp [D.ex.exs, ih]
theorem Qan : ∀ u : U, u.ex.size = u.size
  | .agg us => by simp only [U.ex, D.size]; exact go us
  | .sl k us => rfl
  | .int k n => rfl
  | .bool b => rfl
  | .str s => rfl
  | .raw s => rfl
  | .nil => rfl
  | .nsl k => rfl
  | .vp u => rfl
  | .fn r us => rfl
  | .tup us => rfl
where go : ∀ us : List U, dsizes (U.ex.exs us) = sizes us
  | [] => rfl
  | u :: us => by simp only [U.ex.exs, Qau, Qaq, Qan u, go us]
theorem Qz : ∀ d : D, d.ex.size = d.size
  | .own u => Qan u
  | .agg ds => by simp only [D.ex, D.size]; exact go ds
  | .asl k us => rfl
  | .osl k ds => rfl
  | .val u => rfl
  | .tup ds => rfl
  | .ref R p k part => rfl
  | .ptr R p => rfl
  | .fnv r ds => rfl
  | .junk n => rfl
  | .skip => rfl
  | .undef => rfl
where go : ∀ ds : List D, dsizes (D.ex.exs ds) = dsizes ds
  | [] => rfl
  | d :: ds => by simp only [D.ex.exs, Qau, Qz d, go ds]
theorem Qok (us : List U) (j : Nat) : dsizes ((U.ex.exs us).take j) = sizes (us.take j) := by
  rw [Qi, ← List.map_take, ← Qi, Qan.go]
theorem Qit (ds : List D) (j : Nat) : dsizes ((D.ex.exs ds).take j) = dsizes (ds.take j) := by
  rw [Qr, ← List.map_take, ← Qr, Qz.go]
theorem Qv6 {p : List Step} : ∀ {d d' : D}, getD d p = some d' → getX d.ex p = some d'.ex := by
  unfold getD
  induction p with
  | nil => intro d d' h; cases d <;> (simp only [getDK, Option.some.injEq] at h; subst h; simp only [getX])
  | cons s p ih =>
    intro d d' h
    cases s with
    | fld j off =>
      cases d with
      | val u =>
        cases u with
        | agg us =>
          simp only [getDK, U.asAgg] at h
          split at h
          · rename_i hoff
            obtain ⟨u, hu, h⟩ := Option.bind_eq_some_iff.1 h
            simp only [D.ex, getX, if_pos hoff, hu, Option.bind_some]
            exact ih h
          · cases h
        | _ => simp [getDK, U.asAgg] at h
      | own u =>
        cases u with
        | agg us =>
          simp only [getDK, U.asAgg] at h
          split at h
          · rename_i hoff
            obtain ⟨u, hu, h⟩ := Option.bind_eq_some_iff.1 h
            simp only [D.ex, U.ex, getX, Qok, if_pos hoff]
            rw [Qi, List.getElem?_map, hu]
            exact ih h
          · cases h
        | _ => simp [getDK, U.asAgg] at h
      | agg ds =>
        simp only [getDK] at h
        split at h
        · rename_i hoff
          obtain ⟨d, hd, h⟩ := Option.bind_eq_some_iff.1 h
          simp only [D.ex, getX, Qit, if_pos hoff]
          rw [Qr, List.getElem?_map, hd]
          exact ih h
        · cases h
      | _ => simp [getDK] at h
    | elt i k =>
      cases d with
      | own u =>
        cases u with
        | sl k' us =>
          simp only [getDK, U.asSlK] at h
          split at h
          · rename_i hk
            obtain ⟨u, hu, h⟩ := Option.bind_eq_some_iff.1 h
            simp only [D.ex, U.ex, getX, if_pos hk.symm]
            rw [Qi, List.getElem?_map, hu]
            exact ih h
          · cases h
        | _ => simp [getDK, U.asSlK] at h
      | asl k' us =>
        simp only [getDK] at h
        split at h
        · rename_i hk
          obtain ⟨u, hu, h⟩ := Option.bind_eq_some_iff.1 h
          simp only [D.ex, getX, if_pos hk, List.getElem?_map, hu, Option.map_some, Option.bind_some]
          exact ih h
        · cases h
      | osl k' ds =>
        simp only [getDK] at h
        split at h
        · rename_i hk
          obtain ⟨d, hd, h⟩ := Option.bind_eq_some_iff.1 h
          simp only [D.ex, getX, if_pos hk]
          rw [Qr, List.getElem?_map, hd]
          exact ih h
        · cases h
      | val u => simp [getDK] at h
      | _ => simp [getDK] at h
def LeafOf (x x' : D) : Prop := x' = x.ex ∨ ∃ v, x = .val v ∧ v.flat = true ∧ x' = v.ex
theorem LeafOf.size {x x' : D} (h : LeafOf x x') : x'.size = x.size := by
  rcases h with rfl | ⟨v, rfl, _, rfl⟩
  · exact Qz x
  · exact Qan v
end Go.Proofs.Ytboenehajoaahaa.Am
