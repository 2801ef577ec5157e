import Derived.Test.YtboenehajoaahaaAmE
namespace Go.Proofs.Ytboenehajoaahaa.Am
open Go
section
variable {α β : Type}
theorem Qdl (u : U) (K : U → Option β) (f : β → Option α) : (u.asFlat K).bind f = u.asFlat fun u => (K u).bind f := by
  unfold U.asFlat; split <;> rfl
theorem Qct (ag : Bool) (sz : Nat) (u : U) (K : U → Option β) (f : β → Option α) : (u.asVar ag sz K).bind f = u.asVar ag sz fun u => (K u).bind f := by
  unfold U.asVar; split <;> rfl
theorem Qm4 (u : U) (K : U → Option β) (f : β → Option α) : (u.noTup K).bind f = u.noTup fun u => (K u).bind f := by
  cases u <;> rfl
theorem Qfw (c : Cn) (K : D → Option β) (f : β → Option α) : (c.data K).bind f = c.data fun d => (K d).bind f := by cases c <;> rfl
theorem Qed (Γ : Hp) (R : Nat) (p : List Step) (K : D → Option β) (f : β → Option α) : (Γ.at R p K).bind f = Γ.at R p fun d => (K d).bind f := by
  unfold Hp.at
  split
  · simp only [Qfw, Qv5]
  · rfl
theorem Qha (Γ : Hp) (n : Nat) (x : D) (R : Nat) (p : List Step) (K : Hp → Option β) (f : β → Option α) : (Γ.setAt n x R p K).bind f = Γ.setAt n x R p fun g => (K g).bind f := by
  unfold Hp.setAt
  split
  · simp only [Qfw, Qoi]
  · rfl
theorem Qmn (k : Nat) (d : D) (K : Option β) (f : β → Option α) : (d.isSl k K).bind f = d.isSl k (K.bind f) := by
  cases d <;> first | rfl | simp only [D.isSl, Qbf, Qah]
theorem Qyg (k : Nat) (d : D) (K : Nat → Option β) (f : β → Option α) : (d.slLen k K).bind f = d.slLen k fun n => (K n).bind f := by
  cases d <;> first | rfl | simp only [D.slLen, Qbf, Qah]
def Hp.atO (Γ : Hp) (R : Nat) (p : List Step) : Option D := Γ.at R p some
def Hp.setO (Γ : Hp) (n : Nat) (x : D) (R : Nat) (p : List Step) : Option Hp := Γ.setAt n x R p some
def D.slLenO (k : Nat) (d : D) : Option Nat := d.slLen k some
theorem at_eq (Γ : Hp) (R : Nat) (p : List Step) (K : D → Option α) : Γ.at R p K = (Γ.atO R p).bind K := by
  unfold Hp.atO; rw [Qed]; rfl
theorem Qab (Γ : Hp) (n : Nat) (x : D) (R : Nat) (p : List Step) (K : Hp → Option α) : Γ.setAt n x R p K = (Γ.setO n x R p).bind K := by
  unfold Hp.setO; rw [Qha]; rfl
theorem Qa8 (k : Nat) (d : D) (K : Nat → Option α) : d.slLen k K = (d.slLenO k).bind K := by
  unfold D.slLenO; rw [Qyg]; rfl
theorem Qm5 {u : U} {K : U → Option α} {r : α} (h : u.noTup K = some r) : (∀ us, u ≠ .tup us) ∧ K u = some r := by
  cases u <;> first | exact ⟨fun _ e => (by cases e), h⟩ | cases h
theorem Qb2 (f : β → Option α) : ∀ (d : D) (K : U → Option β), (d.toOwn K).bind f = d.toOwn fun u => (K u).bind f
  | .own u, K => rfl
  | .val u, K => Qdl u K f
  | .asl k us, K => by simp only [D.toOwn, Qah]
  | .agg ds, K => go f ds fun us => K (.agg us)
  | .osl k ds, K => go f ds fun us => K (.sl k us)
  | .tup ds, K => rfl
  | .ref R p k part, K => rfl
  | .ptr R p, K => rfl
  | .fnv r ds, K => rfl
  | .junk n, K => rfl
  | .skip, K => rfl
  | .undef, K => rfl
where go (f : β → Option α) : ∀ (ds : List D) (K : List U → Option β), (D.toOwn.toOwns ds K).bind f = D.toOwn.toOwns ds fun us => (K us).bind f
  | [], K => rfl
  | d :: ds, K => by simp only [D.toOwn.toOwns]; rw [Qb2 f d]; simp only [go f ds]
def D.ownO (d : D) : Option U := d.toOwn some
def ownsO (ds : List D) : Option (List U) := D.toOwn.toOwns ds some
theorem Qaf (d : D) (K : U → Option α) : d.toOwn K = d.ownO.bind K := by
  unfold D.ownO; rw [Qb2]; rfl
theorem Qdg (ds : List D) (K : List U → Option α) : D.toOwn.toOwns ds K = (ownsO ds).bind K := by
  unfold ownsO; rw [Qb2.go]; rfl
theorem Qd1 (f : β → Option α) : ∀ (d : D) (Γ : Hp) (K : D → Hp → Option β), (d.take Γ K).bind f = d.take Γ fun c g => (K c g).bind f
  | .val u, Γ, K => Qm4 u _ f
  | .ref R p k none, Γ, K => by
    simp only [D.take, Qed, Qmn]
    congr 1
    funext d
    congr 1
    split
    · rfl
    · simp only [Qha]
  | .ref R p k (some x), Γ, K => rfl
  | .ptr R p, Γ, K => rfl
  | .fnv r caps, Γ, K => rfl
  | .agg ds, Γ, K => go f ds Γ fun ds' g => K (.agg ds') g
  | .own u, Γ, K => rfl
  | .asl k us, Γ, K => rfl
  | .osl k ds, Γ, K => rfl
  | .tup ds, Γ, K => rfl
  | .junk n, Γ, K => rfl
  | .skip, Γ, K => rfl
  | .undef, Γ, K => rfl
where go (f : β → Option α) : ∀ (ds : List D) (Γ : Hp) (K : List D → Hp → Option β), (D.take.takes ds Γ K).bind f = D.take.takes ds Γ fun c g => (K c g).bind f
  | [], Γ, K => rfl
  | d :: ds, Γ, K => by simp only [D.take.takes]; rw [Qd1 f d]; simp only [go f ds]
def D.takeO (d : D) (Γ : Hp) : Option (D × Hp) := d.take Γ fun c g => some (c, g)
def takesO (ds : List D) (Γ : Hp) : Option (List D × Hp) := D.take.takes ds Γ fun c g => some (c, g)
theorem Qao (d : D) (Γ : Hp) (K : D → Hp → Option α) : d.take Γ K = (d.takeO Γ).bind fun x => K x.1 x.2 := by
  unfold D.takeO; rw [Qd1]; rfl
theorem Qcp (ds : List D) (Γ : Hp) (K : List D → Hp → Option α) : D.take.takes ds Γ K = (takesO ds Γ).bind fun x => K x.1 x.2 := by
  unfold takesO; rw [Qd1.go]; rfl
theorem Qfg (Γ : Hp) : takesO [] Γ = some ([], Γ) := rfl
theorem Qff (d : D) (ds : List D) (Γ : Hp) : takesO (d :: ds) Γ = (d.takeO Γ).bind fun x => (takesO ds x.2).bind fun y => some (x.1 :: y.1, y.2) := by
  show D.take.takes (d :: ds) Γ _ = _
  rw [D.take.takes, Qao]
  congr 1
  funext x
  rw [Qcp]
theorem Qhp (ds : List D) (Γ : Hp) : (D.agg ds).takeO Γ = (takesO ds Γ).bind fun y => some (.agg y.1, y.2) := by
  show D.take (D.agg ds) Γ _ = _
  rw [D.take, Qcp]
theorem Qxc : ownsO [] = some [] := rfl
theorem Qxb (d : D) (ds : List D) : ownsO (d :: ds) = d.ownO.bind fun u => (ownsO ds).bind fun us => some (u :: us) := by
  show D.toOwn.toOwns (d :: ds) _ = _
  rw [D.toOwn.toOwns, Qaf]
  congr 1
  funext u
  rw [Qdg]
theorem Qgq (ds : List D) : (D.agg ds).ownO = (ownsO ds).bind fun us => some (.agg us) := by
  show D.toOwn (D.agg ds) _ = _
  rw [D.toOwn, Qdg]
theorem Qgr (k : Nat) (ds : List D) : (D.osl k ds).ownO = (ownsO ds).bind fun us => some (.sl k us) := by
  show D.toOwn (D.osl k ds) _ = _
  rw [D.toOwn, Qdg]
theorem Qih (u : U) (K : Int → Option β) (f : β → Option α) : (u.asInt K).bind f = u.asInt fun n => (K n).bind f := by
  cases u with
  | int k n => cases k <;> rfl
  | _ => rfl
theorem Qfr (u : U) (K : Bool → Option β) (f : β → Option α) : (u.asB K).bind f = u.asB fun n => (K n).bind f := by cases u <;> rfl
theorem Qfl (f : β → Option α) : ∀ (s : Shp) (R : Nat) (p : List Step) (u : U) (K : D → D → Option β), (s.view R p u K).bind f = s.view R p u fun c d => (K c d).bind f
  | .flat ag sz, R, p, u, K => by simp only [Shp.view, Qct, Qdl]
  | .int, R, p, u, K => by simp only [Shp.view, Qih]
  | .bool, R, p, u, K => by simp only [Shp.view, Qfr]
  | .sl k, R, p, u, K => by simp only [Shp.view, Qbf]
  | .agg ss, R, p, u, K => by simp only [Shp.view, Qeb, go f ss]
where go (f : β → Option α) : ∀ (ss : List Shp) (R : Nat) (p : List Step) (j off : Nat) (us : List U) (K : List D → List D → Option β), (Shp.view.views ss R p j off us K).bind f = Shp.view.views ss R p j off us fun c d => (K c d).bind f
  | [], R, p, j, off, us, K => by cases us <;> rfl
  | s :: ss, R, p, j, off, us, K => by
    cases us with
    | nil => rfl
    | cons u us => simp only [Shp.view.views]; rw [Qfl f s]; simp only [go f ss]
def Shp.viewO (s : Shp) (R : Nat) (p : List Step) (u : U) : Option (D × D) := s.view R p u fun c d => some (c, d)
def viewsO (ss : List Shp) (R : Nat) (p : List Step) (j off : Nat) (us : List U) : Option (List D × List D) := Shp.view.views ss R p j off us fun c d => some (c, d)
theorem Qba (s : Shp) (R : Nat) (p : List Step) (u : U) (K : D → D → Option α) : s.view R p u K = (s.viewO R p u).bind fun x => K x.1 x.2 := by
  unfold Shp.viewO; rw [Qfl]; rfl
theorem Qbb (ss : List Shp) (R : Nat) (p : List Step) (j off : Nat) (us : List U) (K : List D → List D → Option α) : Shp.view.views ss R p j off us K = (viewsO ss R p j off us).bind fun x => K x.1 x.2 := by
  unfold viewsO; rw [Qfl.go]; rfl
theorem Qgh (f : β → Option α) : ∀ (s : Shp) (R : Nat) (p : List Step) (d : D) (K : D → Option β), (s.look R p d K).bind f = s.look R p d fun d => (K d).bind f
  | .flat ag sz, R, p, d, K => by cases d <;> first | rfl | simp only [Shp.look, Qct, Qdl, Qah]
  | .int, R, p, d, K => by cases d <;> first | rfl | simp only [Shp.look, Qih]
  | .bool, R, p, d, K => by cases d <;> first | rfl | simp only [Shp.look, Qfr]
  | .sl k, R, p, d, K => by
    cases d with
    | ref R' q k' part => simp only [Shp.look, Qah]
    | _ => first | rfl | simp only [Shp.look, Qct, Qmn]
  | .agg ss, R, p, d, K => by cases d <;> first | rfl | simp only [Shp.look, Qct, Qfl, go f ss]
where go (f : β → Option α) : ∀ (ss : List Shp) (R : Nat) (p : List Step) (j off : Nat) (ds : List D) (K : List D → Option β), (Shp.look.looks ss R p j off ds K).bind f = Shp.look.looks ss R p j off ds fun d => (K d).bind f
  | [], R, p, j, off, ds, K => by cases ds <;> rfl
  | s :: ss, R, p, j, off, ds, K => by
    cases ds with
    | nil => rfl
    | cons d ds => simp only [Shp.look.looks]; rw [Qgh f s]; simp only [go f ss]
def Shp.lookO (s : Shp) (R : Nat) (p : List Step) (d : D) : Option D := s.look R p d some
def looksO (ss : List Shp) (R : Nat) (p : List Step) (j off : Nat) (ds : List D) : Option (List D) := Shp.look.looks ss R p j off ds some
theorem Qgi (s : Shp) (R : Nat) (p : List Step) (d : D) (K : D → Option α) : s.look R p d K = (s.lookO R p d).bind K := by
  unfold Shp.lookO; rw [Qgh]; rfl
theorem Qhz (ag : Bool) (sz R : Nat) (p : List Step) (u : U) : (Shp.flat ag sz).viewO R p u = u.asVar ag sz fun u => u.asFlat fun u => some (.val u, .val u) := rfl
theorem Qh0 (k R : Nat) (p : List Step) (u : U) : (Shp.sl k).viewO R p u = u.asSlK k fun us => some (.own (.sl k us), .ref R p k none) := rfl
theorem Qhy (ss : List Shp) (R : Nat) (p : List Step) (u : U) : (Shp.agg ss).viewO R p u = u.asAgg fun us => (viewsO ss R p 0 0 us).bind fun x => some (.agg x.1, .agg x.2) := by
  show Shp.view (.agg ss) R p u _ = _
  rw [Shp.view]
  congr 1
  funext us
  rw [Qbb]
theorem Qh3 (R : Nat) (p : List Step) (j off : Nat) (us : List U) : viewsO [] R p j off us = match us with | [] => some ([], []) | _ => none := rfl
theorem Qh2 (s : Shp) (ss : List Shp) (R : Nat) (p : List Step) (j off : Nat) (us : List U) : viewsO (s :: ss) R p j off us = match us with
    | u :: us => (s.viewO R (p ++ [.fld j off]) u).bind fun x => (viewsO ss R p (j + 1) (off + s.size) us).bind fun y => some (x.1 :: y.1, x.2 :: y.2)
    | [] => none := by
  cases us with
  | nil => rfl
  | cons u us =>
    show Shp.view.views (s :: ss) R p j off (u :: us) _ = _
    rw [Shp.view.views, Qba]
    congr 1
    funext x
    rw [Qbb]
theorem Qwo (R : Nat) (p : List Step) (j off : Nat) (ds : List D) : looksO [] R p j off ds = match ds with | [] => some [] | _ => none := rfl
theorem Qmu (ss : List Shp) (R : Nat) (p : List Step) (j off : Nat) (ds : List D) (K : List D → Option α) : Shp.look.looks ss R p j off ds K = (looksO ss R p j off ds).bind K := by
  unfold looksO; rw [Qgh.go]; rfl
theorem Qwn (s : Shp) (ss : List Shp) (R : Nat) (p : List Step) (j off : Nat) (ds : List D) : looksO (s :: ss) R p j off ds = match ds with
    | d :: ds => (s.lookO R (p ++ [.fld j off]) d).bind fun x => (looksO ss R p (j + 1) (off + s.size) ds).bind fun y => some (x :: y)
    | [] => none := by
  cases ds with
  | nil => rfl
  | cons d ds =>
    show Shp.look.looks (s :: ss) R p j off (d :: ds) _ = _
    rw [Shp.look.looks, Qgi]
    congr 1
    funext x
    rw [Qmu]
theorem Qwk (ss : List Shp) (R : Nat) (p : List Step) (ds : List D) : (Shp.agg ss).lookO R p (.agg ds) = (looksO ss R p 0 0 ds).bind fun ds => some (.agg ds) := by
  show Shp.look (.agg ss) R p (.agg ds) _ = _
  rw [Shp.look, Qmu]
theorem Qwl (ss : List Shp) (R : Nat) (p : List Step) (u : U) : (Shp.agg ss).lookO R p (.own u) = ((Shp.agg ss).viewO R p u).bind fun x => some x.2 := by
  show Shp.look (.agg ss) R p (.own u) _ = _
  rw [Shp.look, Qba]
theorem Qou (Γ : Hp) (k : Nat) (d : D) (K : List U → Option β) (f : β → Option α) : (srcElems1 Γ k d K).bind f = srcElems1 Γ k d fun us => (K us).bind f := by
  cases d with
  | val u => simp only [srcElems1, Option.bind_assoc]
  | ref R p k' part =>
    simp only [srcElems1, Qed]
    congr 1
    funext d
    cases d <;> first | rfl | (simp only [Qah, Qbf]; cases part <;> simp only [Qah])
  | _ => rfl
theorem Qzx (Γ : Hp) (k : Nat) (d : D) (K : List U → Option β) (f : β → Option α) : (srcElems Γ k d K).bind f = srcElems Γ k d fun us => (K us).bind f := by
  unfold srcElems
  split
  · split
    · exact Qah _ _ _
    · exact Qou _ _ _ _ _
  · exact Qou _ _ _ _ _
def srcO (Γ : Hp) (k : Nat) (d : D) : Option (List U) := srcElems Γ k d some
theorem Qdd (Γ : Hp) (k : Nat) (d : D) (K : List U → Option α) : srcElems Γ k d K = (srcO Γ k d).bind K := by
  unfold srcO; rw [Qzx]; rfl
theorem Qaab (Γ : Hp) (k : Nat) (d : D) (K : List U → Hp → Option β) (f : β → Option α) : (takeElems Γ k d K).bind f = takeElems Γ k d fun us g => (K us g).bind f := by
  unfold takeElems
  split
  · split
    · simp only [Qd1, Qb2, Qbf]
    · rfl
  · rfl
def takeElO (Γ : Hp) (k : Nat) (d : D) : Option (List U × Hp) := takeElems Γ k d fun us g => some (us, g)
theorem Qae (Γ : Hp) (k : Nat) (d : D) (K : List U → Hp → Option α) : takeElems Γ k d K = (takeElO Γ k d).bind fun x => K x.1 x.2 := by
  unfold takeElO; rw [Qaab]; rfl
theorem Qd8 (f : β → Option α) : ∀ (as : List (Nat × Nat × Bool)) (s : St) (K : St → Option β), (adoptAs as s K).bind f = adoptAs as s fun s => (K s).bind f
  | [], s, K => rfl
  | (n, k, o) :: as, s, K => by
    by_cases hn : n < 4000
    rotate_left
    · simp only [adoptAs, if_neg hn]; rfl
    cases hs : s.fr n with
    | ref R0 p k' part =>
      cases p with
      | cons a p => simp only [adoptAs, hs]; rw [if_pos hn, if_pos hn]; rfl
      | nil =>
        cases part with
        | some x => simp only [adoptAs, hs]; rw [if_pos hn, if_pos hn]; rfl
        | none =>
          cases hg : s.Γ R0 with
          | none => simp only [adoptAs, hs, hg]; rw [if_pos hn, if_pos hn]; rfl
          | some c =>
            cases c with
            | vir d =>
              simp only [adoptAs, hs, hg]
              rw [if_pos hn, if_pos hn]
              by_cases hk : k' = k
              rotate_left
              · rw [if_neg hk, if_neg hk]; rfl
              rw [if_pos hk, if_pos hk]
              cases o with
              | true => simp only [Qb2, Qbf, Qd8 f as]
              | false =>
                cases d <;> first | rfl | simp only [Qah, Qd8 f as]
            | _ => simp only [adoptAs, hs, hg]; rw [if_pos hn, if_pos hn]; rfl
    | val u =>
      cases u with
      | nsl k' => simp only [adoptAs, hs, U.asNsl]; rw [if_pos hn, if_pos hn]; simp only [Qah, Qd8 f as]
      | _ => simp only [adoptAs, hs, U.asNsl]; rw [if_pos hn, if_pos hn]; rfl
    | _ => simp only [adoptAs, hs]; rw [if_pos hn, if_pos hn]; rfl
def adoptO (as : List (Nat × Nat × Bool)) (s : St) : Option St := adoptAs as s some
theorem Qid (as : List (Nat × Nat × Bool)) (s : St) (K : St → Option α) : adoptAs as s K = (adoptO as s).bind K := by
  unfold adoptO; rw [Qd8]; rfl
theorem Qgs (f : β → Option α) : ∀ (rs : List (Nat × Bool)) (Γ : Hp) (K : Hp → Option β), (ownRs rs Γ K).bind f = ownRs rs Γ fun g => (K g).bind f
  | [], Γ, K => rfl
  | (R, false) :: rs, Γ, K => by simp only [ownRs]; exact Qgs f rs Γ K
  | (R, true) :: rs, Γ, K => by
    simp only [ownRs]
    split
    · simp only [Qfw, Qb2, Qgs f rs]
    · rfl
def ownRsO (rs : List (Nat × Bool)) (Γ : Hp) : Option Hp := ownRs rs Γ some
theorem Qng (rs : List (Nat × Bool)) (Γ : Hp) (K : Hp → Option α) : ownRs rs Γ K = (ownRsO rs Γ).bind K := by
  unfold ownRsO; rw [Qgs]; rfl
def packO (l : Live) (s : St) : Option Packed := pack l s some
theorem Qaw (l : Live) (s : St) (K : Packed → Option α) : pack l s K = (packO l s).bind K := by
  unfold packO pack
  simp only [Qid, Qng, Option.bind_assoc, Option.bind_some]
theorem Qw6 (u : U) (K : U → Option β) (f : β → Option α) : (u.ownV K).bind f = u.ownV fun u => (K u).bind f := by
  cases u <;> first | rfl | exact Qdl _ K f
theorem Qw7 {u : U} (hn : ∀ k, u ≠ .nsl k) (Γ : Hp) (K : U → Hp → Option α) : u.ownV (fun u => K u Γ) = (D.val u).take Γ fun c Γ' => c.toOwn fun u => K u Γ' := by
  cases u <;> first | rfl | exact absurd rfl (hn _)
theorem Qw5 (s : St) (Γ : Hp) (r : Nat × Option (Bool × Nat)) (K : U → Hp → Option β) (f : β → Option α) : (ownOf0 s Γ K r).bind f = ownOf0 s Γ (fun u g => (K u g).bind f) r := by
  obtain ⟨t, x⟩ := r
  cases x with
  | none =>
    simp only [ownOf0]
    split
    · exact Qw6 _ _ _
    · simp only [Qd1, Qb2]
  | some x =>
    simp only [ownOf0]
    split
    · simp only [Qed, Qha, Qb2, Qct]
    · rfl
def ownOf0O (s : St) (Γ : Hp) (r : Nat × Option (Bool × Nat)) : Option (U × Hp) := ownOf0 s Γ (fun u g => some (u, g)) r
def ownOfO (s : St) (Γ : Hp) (r : Nat × Option (Bool × Nat)) : Option (U × Hp) := ownOf s Γ (fun u g => some (u, g)) r
theorem Qnd (s : St) (Γ : Hp) (r : Nat × Option (Bool × Nat)) (K : U → Hp → Option α) : ownOf0 s Γ K r = (ownOf0O s Γ r).bind fun x => K x.1 x.2 := by
  unfold ownOf0O; rw [Qw5]; rfl
theorem Qne (s : St) (Γ : Hp) (r : Nat × Option (Bool × Nat)) : ownOfO s Γ r = (ownOf0O s Γ r).map fun x => (x.1.nilOwn, x.2) := by
  unfold ownOfO ownOf
  rw [Qnd]
  cases ownOf0O s Γ r <;> rfl
theorem Qnf (s : St) (Γ : Hp) (r : Nat × Option (Bool × Nat)) (K : U → Hp → Option α) : ownOf s Γ K r = (ownOfO s Γ r).bind fun x => K x.1 x.2 := by
  rw [Qne]
  unfold ownOf
  rw [Qnd]
  cases ownOf0O s Γ r <;> rfl
end
end Go.Proofs.Ytboenehajoaahaa.Am
