import Derived.Test.YtlgblpngiamhaaaAmE
namespace Go.Proofs.Ytlgblpngiamhaaa.Am
open Go
section
variable {α β : Type}
theorem asFlat_bind (u : U) (K : U → Option β) (f : β → Option α) : (u.asFlat K).bind f = u.asFlat fun u => (K u).bind f := by
  unfold U.asFlat; split <;> rfl
theorem asVar_bind (ag : Bool) (sz : Nat) (u : U) (K : U → Option β) (f : β → Option α) : (u.asVar ag sz K).bind f = u.asVar ag sz fun u => (K u).bind f := by
  unfold U.asVar; split <;> rfl
theorem noTup_bind (u : U) (K : U → Option β) (f : β → Option α) : (u.noTup K).bind f = u.noTup fun u => (K u).bind f := by
  cases u <;> rfl
theorem data_bind (c : Cn) (K : D → Option β) (f : β → Option α) : (c.data K).bind f = c.data fun d => (K d).bind f := by cases c <;> rfl
theorem at_bind (Γ : Hp) (R : Nat) (p : List Step) (K : D → Option β) (f : β → Option α) : (Γ.at R p K).bind f = Γ.at R p fun d => (K d).bind f := by
  unfold Hp.at
  split
  · simp only [data_bind, getDK_bind]
  · rfl
theorem setAt_bind (Γ : Hp) (n : Nat) (x : D) (R : Nat) (p : List Step) (K : Hp → Option β) (f : β → Option α) : (Γ.setAt n x R p K).bind f = Γ.setAt n x R p fun g => (K g).bind f := by
  unfold Hp.setAt
  split
  · simp only [data_bind, setDK_bind]
  · rfl
theorem isSl_bind (k : Nat) (d : D) (K : Option β) (f : β → Option α) : (d.isSl k K).bind f = d.isSl k (K.bind f) := by
  cases d <;> first | rfl | simp only [D.isSl, asSlK_bind, ite_bind']
theorem slLen_bind (k : Nat) (d : D) (K : Nat → Option β) (f : β → Option α) : (d.slLen k K).bind f = d.slLen k fun n => (K n).bind f := by
  cases d <;> first | rfl | simp only [D.slLen, asSlK_bind, ite_bind']
def Hp.atO (Γ : Hp) (R : Nat) (p : List Step) : Option D := Γ.at R p some
def Hp.setO (Γ : Hp) (n : Nat) (x : D) (R : Nat) (p : List Step) : Option Hp := Γ.setAt n x R p some
def D.slLenO (k : Nat) (d : D) : Option Nat := d.slLen k some
theorem at_eq (Γ : Hp) (R : Nat) (p : List Step) (K : D → Option α) : Γ.at R p K = (Γ.atO R p).bind K := by
  unfold Hp.atO; rw [at_bind]; rfl
theorem setAt_eq (Γ : Hp) (n : Nat) (x : D) (R : Nat) (p : List Step) (K : Hp → Option α) : Γ.setAt n x R p K = (Γ.setO n x R p).bind K := by
  unfold Hp.setO; rw [setAt_bind]; rfl
theorem slLen_eq (k : Nat) (d : D) (K : Nat → Option α) : d.slLen k K = (d.slLenO k).bind K := by
  unfold D.slLenO; rw [slLen_bind]; rfl
theorem noTup_some' {u : U} {K : U → Option α} {r : α} (h : u.noTup K = some r) : (∀ us, u ≠ .tup us) ∧ K u = some r := by
  cases u <;> first | exact ⟨fun _ e => (by cases e), h⟩ | cases h
theorem toOwn_bind (f : β → Option α) : ∀ (d : D) (K : U → Option β), (d.toOwn K).bind f = d.toOwn fun u => (K u).bind f
  | .own u, K => rfl
  | .val u, K => asFlat_bind u K f
  | .asl k us, K => by simp only [D.toOwn, ite_bind']
  | .agg ds, K => go f ds fun us => K (.agg us)
  | .osl k ds, K => go f ds fun us => K (.sl k us)
  | .tup ds, K => rfl
  | .ref R p k part, K => rfl
  | .ptr R p, K => rfl
  | .fnv r ds, K => rfl
  | .junk n, K => rfl
  | .skip, K => rfl
  | .undef, K => rfl
where go (f : β → Option α) : ∀ (ds : List D) (K : List U → Option β), (D.toOwn.toOwns ds K).bind f = D.toOwn.toOwns ds fun us => (K us).bind f
  | [], K => rfl
  | d :: ds, K => by simp only [D.toOwn.toOwns]; rw [toOwn_bind f d]; simp only [go f ds]
def D.ownO (d : D) : Option U := d.toOwn some
def ownsO (ds : List D) : Option (List U) := D.toOwn.toOwns ds some
theorem toOwn_eq (d : D) (K : U → Option α) : d.toOwn K = d.ownO.bind K := by
  unfold D.ownO; rw [toOwn_bind]; rfl
theorem toOwns_eq (ds : List D) (K : List U → Option α) : D.toOwn.toOwns ds K = (ownsO ds).bind K := by
  unfold ownsO; rw [toOwn_bind.go]; rfl
theorem take_bind (f : β → Option α) : ∀ (d : D) (Γ : Hp) (K : D → Hp → Option β), (d.take Γ K).bind f = d.take Γ fun c g => (K c g).bind f
  | .val u, Γ, K => noTup_bind u _ f
  | .ref R p k none, Γ, K => by
    simp only [D.take, at_bind, isSl_bind]
    congr 1
    funext d
    congr 1
    split
    · rfl
    · simp only [setAt_bind]
  | .ref R p k (some x), Γ, K => rfl
  | .ptr R p, Γ, K => rfl
  | .fnv r caps, Γ, K => rfl
  | .agg ds, Γ, K => go f ds Γ fun ds' g => K (.agg ds') g
  | .own u, Γ, K => rfl
  | .asl k us, Γ, K => rfl
  | .osl k ds, Γ, K => rfl
  | .tup ds, Γ, K => rfl
  | .junk n, Γ, K => rfl
  | .skip, Γ, K => rfl
  | .undef, Γ, K => rfl
where go (f : β → Option α) : ∀ (ds : List D) (Γ : Hp) (K : List D → Hp → Option β), (D.take.takes ds Γ K).bind f = D.take.takes ds Γ fun c g => (K c g).bind f
  | [], Γ, K => rfl
  | d :: ds, Γ, K => by simp only [D.take.takes]; rw [take_bind f d]; simp only [go f ds]
def D.takeO (d : D) (Γ : Hp) : Option (D × Hp) := d.take Γ fun c g => some (c, g)
def takesO (ds : List D) (Γ : Hp) : Option (List D × Hp) := D.take.takes ds Γ fun c g => some (c, g)
theorem take_eq (d : D) (Γ : Hp) (K : D → Hp → Option α) : d.take Γ K = (d.takeO Γ).bind fun x => K x.1 x.2 := by
  unfold D.takeO; rw [take_bind]; rfl
theorem takes_eq (ds : List D) (Γ : Hp) (K : List D → Hp → Option α) : D.take.takes ds Γ K = (takesO ds Γ).bind fun x => K x.1 x.2 := by
  unfold takesO; rw [take_bind.go]; rfl
theorem takesO_nil (Γ : Hp) : takesO [] Γ = some ([], Γ) := rfl
theorem takesO_cons (d : D) (ds : List D) (Γ : Hp) : takesO (d :: ds) Γ = (d.takeO Γ).bind fun x => (takesO ds x.2).bind fun y => some (x.1 :: y.1, y.2) := by
  show D.take.takes (d :: ds) Γ _ = _
  rw [D.take.takes, take_eq]
  congr 1
  funext x
  rw [takes_eq]
theorem takeO_agg (ds : List D) (Γ : Hp) : (D.agg ds).takeO Γ = (takesO ds Γ).bind fun y => some (.agg y.1, y.2) := by
  show D.take (D.agg ds) Γ _ = _
  rw [D.take, takes_eq]
theorem ownsO_nil : ownsO [] = some [] := rfl
theorem ownsO_cons (d : D) (ds : List D) : ownsO (d :: ds) = d.ownO.bind fun u => (ownsO ds).bind fun us => some (u :: us) := by
  show D.toOwn.toOwns (d :: ds) _ = _
  rw [D.toOwn.toOwns, toOwn_eq]
  congr 1
  funext u
  rw [toOwns_eq]
theorem ownO_agg (ds : List D) : (D.agg ds).ownO = (ownsO ds).bind fun us => some (.agg us) := by
  show D.toOwn (D.agg ds) _ = _
  rw [D.toOwn, toOwns_eq]
theorem ownO_osl (k : Nat) (ds : List D) : (D.osl k ds).ownO = (ownsO ds).bind fun us => some (.sl k us) := by
  show D.toOwn (D.osl k ds) _ = _
  rw [D.toOwn, toOwns_eq]
theorem asInt_bind' (u : U) (K : Int → Option β) (f : β → Option α) : (u.asInt K).bind f = u.asInt fun n => (K n).bind f := by
  cases u with
  | int k n => cases k <;> rfl
  | _ => rfl
theorem asB_bind (u : U) (K : Bool → Option β) (f : β → Option α) : (u.asB K).bind f = u.asB fun n => (K n).bind f := by cases u <;> rfl
theorem view_bind (f : β → Option α) : ∀ (s : Shp) (R : Nat) (p : List Step) (u : U) (K : D → D → Option β), (s.view R p u K).bind f = s.view R p u fun c d => (K c d).bind f
  | .flat ag sz, R, p, u, K => by simp only [Shp.view, asVar_bind, asFlat_bind]
  | .int, R, p, u, K => by simp only [Shp.view, asInt_bind']
  | .bool, R, p, u, K => by simp only [Shp.view, asB_bind]
  | .sl k, R, p, u, K => by simp only [Shp.view, asSlK_bind]
  | .agg ss, R, p, u, K => by simp only [Shp.view, asAgg_bind, go f ss]
where go (f : β → Option α) : ∀ (ss : List Shp) (R : Nat) (p : List Step) (j off : Nat) (us : List U) (K : List D → List D → Option β), (Shp.view.views ss R p j off us K).bind f = Shp.view.views ss R p j off us fun c d => (K c d).bind f
  | [], R, p, j, off, us, K => by cases us <;> rfl
  | s :: ss, R, p, j, off, us, K => by
    cases us with
    | nil => rfl
    | cons u us => simp only [Shp.view.views]; rw [view_bind f s]; simp only [go f ss]
def Shp.viewO (s : Shp) (R : Nat) (p : List Step) (u : U) : Option (D × D) := s.view R p u fun c d => some (c, d)
def viewsO (ss : List Shp) (R : Nat) (p : List Step) (j off : Nat) (us : List U) : Option (List D × List D) := Shp.view.views ss R p j off us fun c d => some (c, d)
theorem view_eq (s : Shp) (R : Nat) (p : List Step) (u : U) (K : D → D → Option α) : s.view R p u K = (s.viewO R p u).bind fun x => K x.1 x.2 := by
  unfold Shp.viewO; rw [view_bind]; rfl
theorem views_eq (ss : List Shp) (R : Nat) (p : List Step) (j off : Nat) (us : List U) (K : List D → List D → Option α) : Shp.view.views ss R p j off us K = (viewsO ss R p j off us).bind fun x => K x.1 x.2 := by
  unfold viewsO; rw [view_bind.go]; rfl
theorem look_bind (f : β → Option α) : ∀ (s : Shp) (R : Nat) (p : List Step) (d : D) (K : D → Option β), (s.look R p d K).bind f = s.look R p d fun d => (K d).bind f
  | .flat ag sz, R, p, d, K => by cases d <;> first | rfl | simp only [Shp.look, asVar_bind, asFlat_bind, ite_bind']
  | .int, R, p, d, K => by cases d <;> first | rfl | simp only [Shp.look, asInt_bind']
  | .bool, R, p, d, K => by cases d <;> first | rfl | simp only [Shp.look, asB_bind]
  | .sl k, R, p, d, K => by
    cases d with
    | ref R' q k' part => simp only [Shp.look, ite_bind']
    | _ => first | rfl | simp only [Shp.look, asVar_bind, isSl_bind]
  | .agg ss, R, p, d, K => by cases d <;> first | rfl | simp only [Shp.look, asVar_bind, view_bind, go f ss]
where go (f : β → Option α) : ∀ (ss : List Shp) (R : Nat) (p : List Step) (j off : Nat) (ds : List D) (K : List D → Option β), (Shp.look.looks ss R p j off ds K).bind f = Shp.look.looks ss R p j off ds fun d => (K d).bind f
  | [], R, p, j, off, ds, K => by cases ds <;> rfl
  | s :: ss, R, p, j, off, ds, K => by
    cases ds with
    | nil => rfl
    | cons d ds => simp only [Shp.look.looks]; rw [look_bind f s]; simp only [go f ss]
def Shp.lookO (s : Shp) (R : Nat) (p : List Step) (d : D) : Option D := s.look R p d some
def looksO (ss : List Shp) (R : Nat) (p : List Step) (j off : Nat) (ds : List D) : Option (List D) := Shp.look.looks ss R p j off ds some
theorem look_eq (s : Shp) (R : Nat) (p : List Step) (d : D) (K : D → Option α) : s.look R p d K = (s.lookO R p d).bind K := by
  unfold Shp.lookO; rw [look_bind]; rfl
theorem viewO_flat (ag : Bool) (sz R : Nat) (p : List Step) (u : U) : (Shp.flat ag sz).viewO R p u = u.asVar ag sz fun u => u.asFlat fun u => some (.val u, .val u) := rfl
theorem viewO_sl (k R : Nat) (p : List Step) (u : U) : (Shp.sl k).viewO R p u = u.asSlK k fun us => some (.own (.sl k us), .ref R p k none) := rfl
theorem viewO_agg (ss : List Shp) (R : Nat) (p : List Step) (u : U) : (Shp.agg ss).viewO R p u = u.asAgg fun us => (viewsO ss R p 0 0 us).bind fun x => some (.agg x.1, .agg x.2) := by
  show Shp.view (.agg ss) R p u _ = _
  rw [Shp.view]
  congr 1
  funext us
  rw [views_eq]
theorem viewsO_nil (R : Nat) (p : List Step) (j off : Nat) (us : List U) : viewsO [] R p j off us = match us with | [] => some ([], []) | _ => none := rfl
theorem viewsO_cons (s : Shp) (ss : List Shp) (R : Nat) (p : List Step) (j off : Nat) (us : List U) : viewsO (s :: ss) R p j off us = match us with
    | u :: us => (s.viewO R (p ++ [.fld j off]) u).bind fun x => (viewsO ss R p (j + 1) (off + s.size) us).bind fun y => some (x.1 :: y.1, x.2 :: y.2)
    | [] => none := by
  cases us with
  | nil => rfl
  | cons u us =>
    show Shp.view.views (s :: ss) R p j off (u :: us) _ = _
    rw [Shp.view.views, view_eq]
    congr 1
    funext x
    rw [views_eq]
theorem looksO_nil (R : Nat) (p : List Step) (j off : Nat) (ds : List D) : looksO [] R p j off ds = match ds with | [] => some [] | _ => none := rfl
theorem looks_eq (ss : List Shp) (R : Nat) (p : List Step) (j off : Nat) (ds : List D) (K : List D → Option α) : Shp.look.looks ss R p j off ds K = (looksO ss R p j off ds).bind K := by
  unfold looksO; rw [look_bind.go]; rfl
theorem looksO_cons (s : Shp) (ss : List Shp) (R : Nat) (p : List Step) (j off : Nat) (ds : List D) : looksO (s :: ss) R p j off ds = match ds with
    | d :: ds => (s.lookO R (p ++ [.fld j off]) d).bind fun x => (looksO ss R p (j + 1) (off + s.size) ds).bind fun y => some (x :: y)
    | [] => none := by
  cases ds with
  | nil => rfl
  | cons d ds =>
    show Shp.look.looks (s :: ss) R p j off (d :: ds) _ = _
    rw [Shp.look.looks, look_eq]
    congr 1
    funext x
    rw [looks_eq]
theorem lookO_aggD (ss : List Shp) (R : Nat) (p : List Step) (ds : List D) : (Shp.agg ss).lookO R p (.agg ds) = (looksO ss R p 0 0 ds).bind fun ds => some (.agg ds) := by
  show Shp.look (.agg ss) R p (.agg ds) _ = _
  rw [Shp.look, looks_eq]
theorem lookO_aggO (ss : List Shp) (R : Nat) (p : List Step) (u : U) : (Shp.agg ss).lookO R p (.own u) = ((Shp.agg ss).viewO R p u).bind fun x => some x.2 := by
  show Shp.look (.agg ss) R p (.own u) _ = _
  rw [Shp.look, view_eq]
theorem src1_bind (Γ : Hp) (k : Nat) (d : D) (K : List U → Option β) (f : β → Option α) : (srcElems1 Γ k d K).bind f = srcElems1 Γ k d fun us => (K us).bind f := by
  cases d with
  | val u => simp only [srcElems1, Option.bind_assoc]
  | ref R p k' part =>
    simp only [srcElems1, at_bind]
    congr 1
    funext d
    cases d <;> first | rfl | (simp only [ite_bind', asSlK_bind]; cases part <;> simp only [ite_bind'])
  | _ => rfl
theorem src_bind (Γ : Hp) (k : Nat) (d : D) (K : List U → Option β) (f : β → Option α) : (srcElems Γ k d K).bind f = srcElems Γ k d fun us => (K us).bind f := by
  unfold srcElems
  split
  · split
    · exact ite_bind' _ _ _
    · exact src1_bind _ _ _ _ _
  · exact src1_bind _ _ _ _ _
def srcO (Γ : Hp) (k : Nat) (d : D) : Option (List U) := srcElems Γ k d some
theorem src_eq (Γ : Hp) (k : Nat) (d : D) (K : List U → Option α) : srcElems Γ k d K = (srcO Γ k d).bind K := by
  unfold srcO; rw [src_bind]; rfl
theorem takeElems_bind (Γ : Hp) (k : Nat) (d : D) (K : List U → Hp → Option β) (f : β → Option α) : (takeElems Γ k d K).bind f = takeElems Γ k d fun us g => (K us g).bind f := by
  unfold takeElems
  split
  · split
    · simp only [take_bind, toOwn_bind, asSlK_bind]
    · rfl
  · rfl
def takeElO (Γ : Hp) (k : Nat) (d : D) : Option (List U × Hp) := takeElems Γ k d fun us g => some (us, g)
theorem takeElems_eq (Γ : Hp) (k : Nat) (d : D) (K : List U → Hp → Option α) : takeElems Γ k d K = (takeElO Γ k d).bind fun x => K x.1 x.2 := by
  unfold takeElO; rw [takeElems_bind]; rfl
theorem adopt_bind (f : β → Option α) : ∀ (as : List (Nat × Nat × Bool)) (s : St) (K : St → Option β), (adoptAs as s K).bind f = adoptAs as s fun s => (K s).bind f
  | [], s, K => rfl
  | (n, k, o) :: as, s, K => by
    by_cases hn : n < 4000
    rotate_left
    · simp only [adoptAs, if_neg hn]; rfl
    cases hs : s.fr n with
    | ref R0 p k' part =>
      cases p with
      | cons a p => simp only [adoptAs, hs]; rw [if_pos hn, if_pos hn]; rfl
      | nil =>
        cases part with
        | some x => simp only [adoptAs, hs]; rw [if_pos hn, if_pos hn]; rfl
        | none =>
          cases hg : s.Γ R0 with
          | none => simp only [adoptAs, hs, hg]; rw [if_pos hn, if_pos hn]; rfl
          | some c =>
            cases c with
            | vir d =>
              simp only [adoptAs, hs, hg]
              rw [if_pos hn, if_pos hn]
              by_cases hk : k' = k
              rotate_left
              · rw [if_neg hk, if_neg hk]; rfl
              rw [if_pos hk, if_pos hk]
              cases o with
              | true => simp only [toOwn_bind, asSlK_bind, adopt_bind f as]
              | false =>
                cases d <;> first | rfl | simp only [ite_bind', adopt_bind f as]
            | _ => simp only [adoptAs, hs, hg]; rw [if_pos hn, if_pos hn]; rfl
    | val u =>
      cases u with
      | nsl k' => simp only [adoptAs, hs, U.asNsl]; rw [if_pos hn, if_pos hn]; simp only [ite_bind', adopt_bind f as]
      | _ => simp only [adoptAs, hs, U.asNsl]; rw [if_pos hn, if_pos hn]; rfl
    | _ => simp only [adoptAs, hs]; rw [if_pos hn, if_pos hn]; rfl
def adoptO (as : List (Nat × Nat × Bool)) (s : St) : Option St := adoptAs as s some
theorem adopt_eq (as : List (Nat × Nat × Bool)) (s : St) (K : St → Option α) : adoptAs as s K = (adoptO as s).bind K := by
  unfold adoptO; rw [adopt_bind]; rfl
theorem ownRs_bind (f : β → Option α) : ∀ (rs : List (Nat × Bool)) (Γ : Hp) (K : Hp → Option β), (ownRs rs Γ K).bind f = ownRs rs Γ fun g => (K g).bind f
  | [], Γ, K => rfl
  | (R, false) :: rs, Γ, K => by simp only [ownRs]; exact ownRs_bind f rs Γ K
  | (R, true) :: rs, Γ, K => by
    simp only [ownRs]
    split
    · simp only [data_bind, toOwn_bind, ownRs_bind f rs]
    · rfl
def ownRsO (rs : List (Nat × Bool)) (Γ : Hp) : Option Hp := ownRs rs Γ some
theorem ownRs_eq (rs : List (Nat × Bool)) (Γ : Hp) (K : Hp → Option α) : ownRs rs Γ K = (ownRsO rs Γ).bind K := by
  unfold ownRsO; rw [ownRs_bind]; rfl
def packO (l : Live) (s : St) : Option Packed := pack l s some
theorem pack_eq (l : Live) (s : St) (K : Packed → Option α) : pack l s K = (packO l s).bind K := by
  unfold packO pack
  simp only [adopt_eq, ownRs_eq, Option.bind_assoc, Option.bind_some]
theorem ownV_bind (u : U) (K : U → Option β) (f : β → Option α) : (u.ownV K).bind f = u.ownV fun u => (K u).bind f := by
  cases u <;> first | rfl | exact asFlat_bind _ K f
theorem ownV_take {u : U} (hn : ∀ k, u ≠ .nsl k) (Γ : Hp) (K : U → Hp → Option α) : u.ownV (fun u => K u Γ) = (D.val u).take Γ fun c Γ' => c.toOwn fun u => K u Γ' := by
  cases u <;> first | rfl | exact absurd rfl (hn _)
theorem ownOf0_bind (s : St) (Γ : Hp) (r : Nat × Option (Bool × Nat)) (K : U → Hp → Option β) (f : β → Option α) : (ownOf0 s Γ K r).bind f = ownOf0 s Γ (fun u g => (K u g).bind f) r := by
  obtain ⟨t, x⟩ := r
  cases x with
  | none =>
    simp only [ownOf0]
    split
    · exact ownV_bind _ _ _
    · simp only [take_bind, toOwn_bind]
  | some x =>
    simp only [ownOf0]
    split
    · simp only [at_bind, setAt_bind, toOwn_bind, asVar_bind]
    · rfl
def ownOf0O (s : St) (Γ : Hp) (r : Nat × Option (Bool × Nat)) : Option (U × Hp) := ownOf0 s Γ (fun u g => some (u, g)) r
def ownOfO (s : St) (Γ : Hp) (r : Nat × Option (Bool × Nat)) : Option (U × Hp) := ownOf s Γ (fun u g => some (u, g)) r
theorem ownOf0_eq (s : St) (Γ : Hp) (r : Nat × Option (Bool × Nat)) (K : U → Hp → Option α) : ownOf0 s Γ K r = (ownOf0O s Γ r).bind fun x => K x.1 x.2 := by
  unfold ownOf0O; rw [ownOf0_bind]; rfl
theorem ownOfO_eq (s : St) (Γ : Hp) (r : Nat × Option (Bool × Nat)) : ownOfO s Γ r = (ownOf0O s Γ r).map fun x => (x.1.nilOwn, x.2) := by
  unfold ownOfO ownOf
  rw [ownOf0_eq]
  cases ownOf0O s Γ r <;> rfl
theorem ownOf_eq (s : St) (Γ : Hp) (r : Nat × Option (Bool × Nat)) (K : U → Hp → Option α) : ownOf s Γ K r = (ownOfO s Γ r).bind fun x => K x.1 x.2 := by
  rw [ownOfO_eq]
  unfold ownOf
  rw [ownOf0_eq]
  cases ownOf0O s Γ r <;> rfl
end
end Go.Proofs.Ytlgblpngiamhaaa.Am
