import Derived.Test.YtboenehajoaahaaAmA
namespace Go.Proofs.Ytboenehajoaahaa.Am
open Go
inductive Step where
  | fld (j off : Nat)
  | elt (i k : Nat)
  deriving DecidableEq, Inhabited
inductive D where
  | val (u : U)
  | own (u : U)
  | agg (ds : List D)
  | tup (ds : List D)
  | asl (k : Nat) (us : List U)
  | osl (k : Nat) (ds : List D)
  | ref (R : Nat) (p : List Step) (k : Nat) (part : Option (Nat × Nat))
  | ptr (R : Nat) (p : List Step)
  | fnv (r : Nat) (caps : List D)
  | junk (n : Nat)
  | skip
  | undef
  deriving Inhabited
inductive Cn where
  | box (d : D)
  | vir (d : D)
  | held (nil : Bool)
  deriving Inhabited
def D.size : D → Nat
  | .val u => u.size
  | .own u => u.size
  | .agg ds => dsizes ds
  | .junk n => n
  | _ => 1
where dsizes : List D → Nat
  | [] => 0
  | d :: ds => d.size + dsizes ds
abbrev dsizes := D.size.dsizes
@[simp] theorem Qis : dsizes [] = 0 := rfl
@[simp] theorem Qau (d : D) (ds : List D) : dsizes (d :: ds) = d.size + dsizes ds := rfl
structure Tag where
  mr : Nat → List Step → Option (Nat × List Step)
  mp : Nat → List Step → Option (Nat × List Step)
def D.retag (m : Tag) : D → D
  | .agg ds => .agg (retags m ds)
  | .tup ds => .tup (retags m ds)
  | .osl k ds => .osl k (retags m ds)
  | .fnv r ds => .fnv r (retags m ds)
  | .ref R p k part => match m.mr R p with
    | some x => .ref x.1 x.2 k part
    | none => .undef
  | .ptr R p => match m.mp R p with
    | some x => .ptr x.1 x.2
    | none => .undef
  | d => d
where retags (m : Tag) : List D → List D
  | [] => []
  | d :: ds => d.retag m :: retags m ds
def Tag.purge (R : Nat) : Tag := ⟨fun R' p => if R' = R then none else some (R', p), fun R' p => if R' = R then none else some (R', p)⟩
def hasElt : List Step → Bool
  | [] => false
  | .elt _ _ :: _ => true
  | .fld _ _ :: p => hasElt p
def dropPre : List Step → List Step → Option (List Step)
  | [], q => some q
  | s :: p, t :: q => if s = t then dropPre p q else none
  | _ :: _, [] => none
def Tag.move (R : Nat) (p : List Step) (nm : Nat) : Tag :=
  ⟨fun R' q => if R' = R then (match dropPre p q with | some q' => some (nm, q') | none => some (R', q)) else if R' = nm then none else some (R', q),
   fun R' q => if R' = R then (match dropPre p q with | some q' => (if hasElt q' = true then some (nm, q') else some (R', q)) | none => some (R', q)) else if R' = nm then none else some (R', q)⟩
def Tag.cut (R : Nat) (p : List Step) : Tag :=
  ⟨fun R' q => if R' = R then (match dropPre p q with | some _ => none | none => some (R', q)) else some (R', q),
   fun R' q => if R' = R then (match dropPre p q with | some q' => (if hasElt q' = true then none else some (R', q)) | none => some (R', q)) else some (R', q)⟩
def Tag.below (R : Nat) (p : List Step) : Tag :=
  ⟨fun R' q => if R' = R then (match dropPre p q with | some (_ :: _) => none | _ => some (R', q)) else some (R', q),
   fun R' q => if R' = R then (match dropPre p q with | some q' => (if hasElt q' = true then none else some (R', q)) | none => some (R', q)) else some (R', q)⟩
def Cn.retag (m : Tag) : Cn → Cn
  | .box d => .box (d.retag m)
  | .vir d => .vir (d.retag m)
  | c => c
inductive Pl where
  | adr (b o : Nat)
  | vir
  | dead
abbrev Hdr := List Step → Option Value
def Hdr.at (h : Hdr) (s : Step) : Hdr := fun q => h (s :: q)
def Hdr.sub (h : Hdr) (p : List Step) : Hdr := fun q => h (p ++ q)
def Hdr.put (h : Hdr) (p : List Step) (hx : Hdr) : Hdr := fun q => match dropPre p q with | some q' => hx q' | none => h q
def noHdr : Hdr := fun _ => none
structure Lay where
  root : Pl
  h : Hdr
def hdrAddr : Option Value → Option Addr
  | some (.slice a _ _) => a
  | _ => none
def place (h : Hdr) : Pl → List Step → Option Pl
  | q, [] => some q
  | .dead, _ :: _ => none
  | .adr b o, .fld j off :: p => place (h.at (.fld j off)) (.adr b (o + off)) p
  | .vir, .fld j off :: p => place (h.at (.fld j off)) .vir p
  | _, .elt i k :: p => (hdrAddr (h [])).bind fun a => place (h.at (.elt i k)) (.adr a.block (a.off + i * k)) p
def Lay.live (L : Lay) : Prop := L.root ≠ .dead
def Lay.go (L : Lay) (p : List Step) : Option Pl := place L.h L.root p
def Lay.hdr (L : Lay) (p : List Step) : Option Value := match L.root with
  | .dead => none
  | _ => L.h p
def subSlice (k : Nat) (part : Option (Nat × Nat)) (v0 v : Value) : Prop :=
  match part with
  | none => v = v0 ∧ v.oneCell' = true
  | some (off, len) => ∃ a l c a', v0 = .slice a l c ∧ v = .slice a' len (c - off) ∧ off + len ≤ l ∧ l ≤ c ∧ c ≤ maxLen ∧ (len = 0 ∨ a' = a.map (·.add (off * k)))
theorem subSlice.oneCell {k : Nat} {part : Option (Nat × Nat)} {v0 v : Value} (h : subSlice k part v0 v) : v.oneCell' = true := by
  cases part with
  | none => exact h.2
  | some p => obtain ⟨_, _, _, _, _, rfl, _⟩ := h; rfl
def D.isCap : D → Bool
  | .val (.vp _) | .ptr _ _ | .undef => true
  | _ => false
inductive DCs (ρ : Nat → FuncId) (w : World) (S : Nat → Prop) (β : Nat → Lay) : List D → List Value → Prop where
  | nil : DCs ρ w S β [] []
  | val {u ds c1 cs} (h1 : URs ρ w S [u] c1) (h : DCs ρ w S β ds cs) : DCs ρ w S β (.val u :: ds) (c1 ++ cs)
  | agg {fs ds c1 cs} (h1 : DCs ρ w S β fs c1) (h : DCs ρ w S β ds cs) : DCs ρ w S β (.agg fs :: ds) (c1 ++ cs)
  | ref {ds cs} (R p k part v v0) (hv : (β R).hdr p = some v0) (hs : subSlice k part v0 v) (h : DCs ρ w S β ds cs) : DCs ρ w S β (.ref R p k part :: ds) (v :: cs)
  | ptr {ds cs} (R p b o) (hp : (β R).go p = some (.adr b o)) (h : DCs ρ w S β ds cs) : DCs ρ w S β (.ptr R p :: ds) (.pointer (some ⟨b, o, none⟩) :: cs)
  | fnv {caps ds cs vs} (r) (h1 : DCs ρ w S β caps vs) (hv : ∀ d ∈ caps, d.isCap = true) (h : DCs ρ w S β ds cs) : DCs ρ w S β (.fnv r caps :: ds) (.func (.func (ρ r)) #[] vs.toArray :: cs)
  | undef {ds cs} (v) (h1 : v.oneCell' = true) (h : DCs ρ w S β ds cs) : DCs ρ w S β (.undef :: ds) (v :: cs)
def D.isAgg : D → Bool
  | .val (.agg _) | .own (.agg _) | .agg _ => true
  | _ => false
def V1 (ρ : Nat → FuncId) (w : World) (S : Nat → Prop) (β : Nat → Lay) (d : D) (v : Value) : Prop :=
  d = .undef ∨ ∃ cs, DCs ρ w S β [d] cs ∧ (if d.isAgg then v = .agg cs.toArray else cs = [v])
def V1s (ρ : Nat → FuncId) (w : World) (S : Nat → Prop) (β : Nat → Lay) : List D → List Value → Prop
  | [], vs => vs = []
  | d :: ds, vs => ∃ v vs', vs = v :: vs' ∧ V1 ρ w S β d v ∧ V1s ρ w S β ds vs'
def VD (ρ : Nat → FuncId) (w : World) (S : Nat → Prop) (β : Nat → Lay) (d : D) (v : Value) : Prop :=
  match d with
  | .tup ds => ∃ vs : List Value, v = .tuple vs.toArray ∧ V1s ρ w S β ds vs
  | .val (.tup us) => ∃ vs : List Value, v = .tuple vs.toArray ∧ V1s ρ w S β (us.map .val) vs
  | .skip => v = Go.undef
  | d => V1 ρ w S β d v
def U.ex : U → D
  | .agg us => .agg (exs us)
  | .sl k us => .osl k (exs us)
  | .vp _ | .fn _ _ | .tup _ => .skip
  | u => .val u
where exs : List U → List D
  | [] => []
  | u :: us => u.ex :: exs us
def D.ex : D → D
  | .own u => u.ex
  | .asl k us => .osl k (us.map .val)
  | .agg ds => .agg (exs ds)
  | .osl k ds => .osl k (exs ds)
  | d => d
where exs : List D → List D
  | [] => []
  | d :: ds => d.ex :: exs ds
def flds (h : Hdr) : Nat → Nat → List D → List (Hdr × D)
  | _, _, [] => []
  | j, off, d :: ds => (h.at (.fld j off), d) :: flds h (j + 1) (off + d.size) ds
def elts (h : Hdr) (k : Nat) : Nat → List D → List (Hdr × D)
  | _, [] => []
  | i, d :: ds => (h.at (.elt i k), d) :: elts h k (i + 1) ds
inductive TCs (ρ : Nat → FuncId) (w : World) (S : Nat → Prop) (β : Nat → Lay) : List (Hdr × D) → List Value → List Nat → Prop where
  | nil : TCs ρ w S β [] [] []
  | val {h u xs c1 cs B} (h1 : URs ρ w S [u] c1) (t : TCs ρ w S β xs cs B) : TCs ρ w S β ((h, .val u) :: xs) (c1 ++ cs) B
  | agg {h fs xs c1 cs B1 B} (h1 : TCs ρ w S β (flds h 0 0 fs) c1 B1) (t : TCs ρ w S β xs cs B) : TCs ρ w S β ((h, .agg fs) :: xs) (c1 ++ cs) (B1 ++ B)
  | osl0 {h k a xs cs B} (hh : h [] = some (.slice a 0 0)) (t : TCs ρ w S β xs cs B) : TCs ρ w S β ((h, .osl k []) :: xs) (.slice a 0 0 :: cs) B
  | osl {h k ds xs b cap cur e c1 cs B1 B} (hh : h [] = some (.slice (some ⟨b, 0, none⟩) ds.length cap)) (hb : w.heap[b]? = some (.cells cur e (0, 0))) (hsz : cur.size = cap * k) (hle : ds.length ≤ cap) (hmax : cap ≤ maxLen)
      (hk : ∀ d ∈ ds, d.size = k) (ht : cur.toList.take (ds.length * k) = c1) (h1 : TCs ρ w S β (elts h k 0 ds) c1 B1) (t : TCs ρ w S β xs cs B) :
      TCs ρ w S β ((h, .osl k ds) :: xs) (.slice (some ⟨b, 0, none⟩) ds.length cap :: cs) (b :: B1 ++ B)
  | ref {h R p k part v v0 xs cs B} (hv : (β R).hdr p = some v0) (hs : subSlice k part v0 v) (t : TCs ρ w S β xs cs B) : TCs ρ w S β ((h, .ref R p k part) :: xs) (v :: cs) B
  | ptr {h R p b o xs cs B} (hp : (β R).go p = some (.adr b o)) (t : TCs ρ w S β xs cs B) : TCs ρ w S β ((h, .ptr R p) :: xs) (.pointer (some ⟨b, o, none⟩) :: cs) B
  | fnv {h r caps vs xs cs B} (h1 : DCs ρ w S β caps vs) (hv : ∀ d ∈ caps, d.isCap = true) (t : TCs ρ w S β xs cs B) : TCs ρ w S β ((h, .fnv r caps) :: xs) (.func (.func (ρ r)) #[] vs.toArray :: cs) B
  | junk {h n xs c1 cs B} (hl : c1.length = n) (ho : ∀ v ∈ c1, v.oneCell' = true) (t : TCs ρ w S β xs cs B) : TCs ρ w S β ((h, .junk n) :: xs) (c1 ++ cs) B
  | undef {h v xs cs B} (h1 : v.oneCell' = true) (t : TCs ρ w S β xs cs B) : TCs ρ w S β ((h, .undef) :: xs) (v :: cs) B
def RootOK (ρ : Nat → FuncId) (w : World) (S : Nat → Prop) (β : Nat → Lay) (c : Cn) (L : Lay) (B : List Nat) : Prop :=
  B.Nodup ∧ match c with
  | .box d => ∃ b cs e Bs, L.root = .adr b 0 ∧ w.heap[b]? = some (.cells cs.toArray e (0, 0)) ∧ TCs ρ w S β [(L.h, d.ex)] cs Bs ∧ B = b :: Bs
  | .vir d => ∃ cs, L.root = .vir ∧ TCs ρ w S β [(L.h, d.ex)] cs B
  | .held t => L.root = .vir ∧ B = [] ∧ ∃ a cap, L.h [] = some (.slice a 0 cap) ∧ t = a.isNone
abbrev Frm := Nat → D
abbrev Hp := Nat → Option Cn
structure Stands (S₀ : Nat → Prop) (w : World) (Γ : Hp) (B : Nat → List Nat) (b : Nat) : Prop where
  lt : b < w.heap.size
  own : ∀ R, (Γ R).isSome = true → b ∉ B R
  may : S₀ b
structure Fm where
  off : Nat
  N : Nat
  bg : List (Nat × Value)
structure Rel (ρ : Nat → FuncId) (S₀ : Nat → Prop) (base : Nat → Prop) (F : Fm) (fr : Frm) (Γ : Hp) (β : Nat → Lay) (B : Nat → List Nat) (a : Act) (w : World) : Prop where
  size : a.tmps.size = F.N
  defers : a.defers = []
  slots : ∀ i, i < F.N → VD ρ w (Stands S₀ w Γ B) β (fr (F.off + i)) (a.tmps.getD i Go.undef)
  back : ∀ x ∈ F.bg, x.1 < F.off ∧ VD ρ w (Stands S₀ w Γ B) β (fr x.1) x.2
  roots : ∀ R c, Γ R = some c → (β R).live → RootOK ρ w (Stands S₀ w Γ B) β c (β R) (B R)
  apart : ∀ R R', R ≠ R' → (Γ R).isSome = true → (Γ R').isSome = true → ∀ b ∈ B R, b ∉ B R'
  inside : ∀ R, (Γ R).isSome = true → ∀ b ∈ B R, base b ∧ b < w.heap.size
  low : ∀ b, w.heap.size ≤ b → base b
  fresh : ∀ b, base b → S₀ b
section
variable {ρ : Nat → FuncId} {w w' : World} {S S' : Nat → Prop} {β β' : Nat → Lay}
theorem DCs.length {ds : List D} {cs : List Value} (h : DCs ρ w S β ds cs) : cs.length = dsizes ds := by
  induction h with
  | nil => rfl
  | val h1 h ih => simp [h1.length, ih, D.size]
  | agg h1 h ih1 ih => simp [ih1, ih, D.size]
  | _ => simp_all [D.size, Nat.add_comm]
theorem DCs.oneCell {ds : List D} {cs : List Value} (h : DCs ρ w S β ds cs) : ∀ v ∈ cs, v.oneCell' = true := by
  induction h with
  | nil => simp
  | val h1 h ih =>
    intro v hv
    rcases List.mem_append.1 hv with hv | hv
    · exact h1.oneCell v hv
    · exact ih v hv
  | agg h1 h ih1 ih =>
    intro v hv
    rcases List.mem_append.1 hv with hv | hv
    · exact ih1 v hv
    · exact ih v hv
  | ref R p k part v v0 hv hs h ih =>
    intro u hu
    rcases List.mem_cons.1 hu with rfl | hu
    · exact hs.oneCell
    · exact ih u hu
  | _ =>
    intro v hv
    rcases List.mem_cons.1 hv with rfl | hv
    · first | rfl | assumption
    · simp_all
def Keeps (S : Nat → Prop) (w w' : World) : Prop := ∀ b, S b → w'.heap[b]? = w.heap[b]?
theorem Keeps.cell (h : Keeps S w w') : ∀ b o v, S b → w.cell? ⟨b, o, none⟩ = some v → w'.cell? ⟨b, o, none⟩ = some v := fun b o v hb hv => by rw [World.cell?_of_block (w := w) (h b hb)]; exact hv
structure TagOK (m : Tag) (β β' : Nat → Lay) : Prop where
  mr : ∀ R p v, (β R).hdr p = some v → ∀ x, m.mr R p = some x → (β' x.1).hdr x.2 = some v
  mp : ∀ R p b o, (β R).go p = some (.adr b o) → ∀ x, m.mp R p = some x → (β' x.1).go x.2 = some (.adr b o)
def Tag.id : Tag := ⟨fun R p => some (R, p), fun R p => some (R, p)⟩
theorem Qs (m : Tag) (ds : List D) : D.retag.retags m ds = ds.map (·.retag m) := by
  induction ds with
  | nil => rfl
  | cons d ds ih => simp [D.retag.retags, ih]
theorem Qam (m : Tag) : ∀ d : D, (d.retag m).size = d.size
  | .agg ds => by simp only [D.retag, D.size]; exact go ds
  | .ref R p k part => by simp only [D.retag]; split <;> rfl
  | .ptr R p => by simp only [D.retag]; split <;> rfl
  | .val u => rfl
  | .own u => rfl
  | .tup ds => rfl
  | .asl k us => rfl
  | .osl k ds => rfl
  | .fnv r ds => rfl
  | .junk n => rfl
  | .skip => rfl
  | .undef => rfl
where go : ∀ ds : List D, dsizes (D.retag.retags m ds) = dsizes ds
  | [] => rfl
  | d :: ds => by simp only [D.retag.retags, Qau]; rw [Qam m d, go ds]
theorem Qmk {m : Tag} {d : D} (h : d.isCap = true) : (d.retag m).isCap = true := by
  cases d with
  | val u => exact h
  | ptr R p => simp only [D.retag]; split <;> rfl
  | undef => rfl
  | _ => cases h
theorem DCs.retag {m : Tag} {ds : List D} {cs : List Value} (h : DCs ρ w S β ds cs) (hS : ∀ b, S b → S' b) (hc : Keeps S w w') (hm : TagOK m β β') : DCs ρ w' S' β' (D.retag.retags m ds) cs := by
  induction h with
  | nil => exact .nil
  | val h1 h ih => exact .val (h1.mono hS hc.cell) ih
  | agg h1 h ih1 ih => exact .agg ih1 ih
  | ref R p k part v v0 hv hs h ih =>
    simp only [D.retag.retags, D.retag]
    cases hx : m.mr R p with
    | none => exact .undef v hs.oneCell ih
    | some x => exact .ref x.1 x.2 k part v v0 (hm.mr R p v0 hv x hx) hs ih
  | ptr R p b o hp h ih =>
    simp only [D.retag.retags, D.retag]
    cases hx : m.mp R p with
    | none => exact .undef _ rfl ih
    | some x => exact .ptr x.1 x.2 b o (hm.mp R p b o hp x hx) ih
  | fnv r h1 hv h ih1 ih =>
    refine .fnv r ih1 ?_ ih
    intro d hd
    rw [Qs] at hd
    obtain ⟨d', hd', rfl⟩ := List.mem_map.1 hd
    exact Qmk (hv d' hd')
  | undef v h1 h ih => exact .undef v h1 ih
theorem Lay.live_of_hdr {L : Lay} {p : List Step} {v : Value} (h : L.hdr p = some v) : L.live := fun e => by
  unfold Lay.hdr at h
  rw [e] at h
  cases h
theorem Lay.hdr_live {L : Lay} {p : List Step} (h : L.live) : L.hdr p = L.h p := by
  unfold Lay.hdr
  split
  · rename_i e; exact absurd e h
  · rfl
theorem Lay.live_of_go {L : Lay} {p : List Step} {b o : Nat} (h : L.go p = some (.adr b o)) : L.live := fun e => by
  unfold Lay.go at h
  rw [e] at h
  cases p with
  | nil => cases h
  | cons s p => cases s <;> cases h
theorem Qcj : ∀ d : D, d.retag .id = d
  | .agg ds => by simp only [D.retag]; rw [go ds]
  | .tup ds => by simp only [D.retag]; rw [go ds]
  | .osl k ds => by simp only [D.retag]; rw [go ds]
  | .fnv r ds => by simp only [D.retag]; rw [go ds]
  | .ref R p k part => rfl
  | .ptr R p => rfl
  | .val u => rfl
  | .own u => rfl
  | .asl k us => rfl
  | .junk n => rfl
  | .skip => rfl
  | .undef => rfl
where go : ∀ ds : List D, D.retag.retags .id ds = ds
  | [] => rfl
  | d :: ds => by simp only [D.retag.retags]; rw [Qcj d, go ds]
theorem TagOK.same (hβ : ∀ R, (β R).live → β' R = β R) : TagOK .id β β' :=
  ⟨fun R p v h x hx => by cases hx; rw [hβ R (Lay.live_of_hdr h)]; exact h, fun R p b o h x hx => by cases hx; rw [hβ R (Lay.live_of_go h)]; exact h⟩
theorem DCs.mono {ds : List D} {cs : List Value} (h : DCs ρ w S β ds cs) (hS : ∀ b, S b → S' b) (hc : Keeps S w w') (hβ : ∀ R, (β R).live → β' R = β R) : DCs ρ w' S' β' ds cs := by
  have := h.retag hS hc (TagOK.same hβ)
  rwa [Qcj.go] at this
end
end Go.Proofs.Ytboenehajoaahaa.Am
