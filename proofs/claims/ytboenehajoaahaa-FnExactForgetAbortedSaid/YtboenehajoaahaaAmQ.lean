import Derived.Test.YtboenehajoaahaaAmPb
namespace Go.Proofs.Ytboenehajoaahaa.Am
open Go Go.RowKit
def matchBuiltin (ρ : Nat → FuncId) (P : Program) (N : Nat × Nat) (b : Builtin) (args : Array Operand) (tys : Array TypeId) : AOp → Bool
  | .len str x' => b == .len && (match args.toList, tys.toList with | [x], [t] => lenTyOK P t str && opdOK ρ N x x' | _, _ => false)
  | .append _ _ k bytes s' x' => b == .append && (match args.toList, tys.toList with
    | [s, x], [t, t2] => (match tyElem P t with | some e => elemOK P e k bytes | none => false) && (tyElem P t2).isSome && opdOK ρ N s s' && opdOK ρ N x x'
    | _, _ => false)
  | .copy s' x' => b == .copy && (match args.toList, tys.toList with
    | [s, x], [t, _] => (match tyElem P t with | some e => tySize P e == some 1 | none => false) && opdOK ρ N s s' && opdOK ρ N x x'
    | _, _ => false)
  | .clear k z x' => b == .clear && (match args.toList, tys.toList with
    | [x], [t] => (match P.underlying t with | some (.slice e) => (match tyZero P e with | some zv => constOK zv z | none => false) | _ => false) && opdOK ρ N x x'
    | _, _ => false)
  | .minmax mx xs' => b == (if mx then .max else .min) && opdsOK ρ N args.toList xs'
  | _ => false
def matchOther (ρ : Nat → FuncId) (P : Program) (N : Nat × Nat) (c : Callee) (args : Array Operand) (tys : Array TypeId) (o : AOp) : Bool := match c with
  | .builtin b => matchBuiltin ρ P N b args tys o
  | _ => false
def matchCall (ρ : Nat → FuncId) (P : Program) (N : Nat × Nat) (c : Call) : AOp → Bool
  | .call _ q args' => (match c.callee with | .value (.func f) => ρ q == f | _ => false) && decide (q < 100000) && opdsOK ρ N c.args.toList args'
  | .callv _ f' args' => (match c.callee with | .value f => opdOK ρ N f f' | _ => false) && opdsOK ρ N c.args.toList args'
  | .callF _ _ _ q args' => (match c.callee with | .value (.func f) => ρ (100000 + q) == f | _ => false) && decide (q < 100000) && opdsOK ρ N c.args.toList args'
  | .callM _ q x' args' => (match c.callee with | .value (.func f) => ρ (200000 + q) == f | _ => false) && decide (q < 100000) && (match c.args.toList with | x :: xs => opdOK ρ N x x' && opdsOK ρ N xs args' | [] => false)
  | .callC _ _ q x' args' => (match c.callee with | .value (.func f) => ρ (300000 + q) == f | _ => false) && decide (q < 100000) && (match c.args.toList with | x :: xs => opdOK ρ N x x' && opdsOK ρ N xs args' | [] => false)
  | .callI _ _ q x' i' y' => (match c.callee with | .value (.func f) => ρ (600000 + q) == f | _ => false) && decide (q < 100000) && (match c.args.toList with | [x, i, y] => opdOK ρ N x x' && opdOK ρ N i i' && opdOK ρ N y y' | _ => false)
  | .callP _ q x' args' => (match c.callee with | .value (.func f) => ρ (400000 + q) == f | _ => false) && decide (q < 100000) && (match c.args.toList with | x :: xs => opdOK ρ N x x' && opdsOK ρ N xs args' | [] => false)
  | .callL _ q f' args' => (match c.callee with | .value f => opdOK ρ N f f' | _ => false) && ρ (500000 + q) == ρ q && decide (q < 100000) && opdsOK ρ N c.args.toList args'
  | o => matchOther ρ P N c.callee c.args c.argTypes o
def isInt (P : Program) (t : TypeId) : Option IntKind := match P.underlying t with
  | some (.int k) => some k
  | _ => none
def isStr (P : Program) (t : TypeId) : Bool := match P.underlying t with
  | some .string => true
  | _ => false
def zeroOK' (P : Program) (e : TypeId) (k : Nat) (z : U) : Bool := match P.info? e with
  | some i => zeroOK P e k i.bytes z
  | none => false
def matchOp (ρ : Nat → FuncId) (P : Program) (N : Nat × Nat) : Op → AOp → Bool
  | .move x, .mv x' => opdOK ρ N x x'
  | .assign x, .mv x' => opdOK ρ N x x'
  | .pick c x y, .pick c' x' y' => opdOK ρ N c c' && opdOK ρ N x x' && opdOK ρ N y y'
  | .box _ x, .box _ _ x' => opdOK ρ N x x'
  | .box _ x, .boxS _ x' => opdOK ρ N x x'
  | .box _ x, .boxN _ _ x' => opdOK ρ N x x'
  | .alloc t, .alloc _ z => match tyZero P t with | some zv => constOK zv z | none => false
  | .alloc t, .allocJ _ => match tyZero P t with | some .nilFunc => true | _ => false
  | .build t parts, .build zs parts' => buildOK P t zs && partsOK ρ N parts.toList parts'
  | .build t parts, .buildL zs parts' => buildOK P t zs && partsOK ρ N parts.toList parts'
  | .buildSlice t n parts, .bslice _ _ k n' z parts' => n == n' && decide (n ≤ 16777216) && decide (n * k ≤ 16777216) && (match tyElem P t with | some e => zeroOK' P e k z | none => false) && partsOK ρ N parts.toList parts'
  | .load t x, .load agg size x' => tyAgg P t == some agg && tySize P t == some size && opdOK ρ N x x'
  | .load t x, .loadN _ size x' => tyAgg P t == some true && tySize P t == some size && opdOK ρ N x x'
  | .load t x, .loadO sh x' => tyAgg P t == some sh.isAgg && tySize P t == some sh.size && opdOK ρ N x x'
  | .store t x y, .storeM _ size x' y' => tySize P t == some size && opdOK ρ N x x' && opdOK ρ N y y'
  | .store t x y, .storeE size x' y' => tySize P t == some size && opdOK ρ N x x' && opdOK ρ N y y'
  | .store t x y, .storeN _ size x' y' => tySize P t == some size && opdOK ρ N x x' && opdOK ρ N y y'
  | .store t x y, .storeS size x' y' _ => tySize P t == some size && opdOK ρ N x x' && opdOK ρ N y y'
  | .store t x y, .store size x' y' => tySize P t == some size && opdOK ρ N x x' && opdOK ρ N y y'
  | .nilCheck x, .nilck x' => opdOK ρ N x x'
  | .binOp op _ x y _, .bin op' x' y' => op == op' && opdOK ρ N x x' && opdOK ρ N y y'
  | .binOp op t x y _, .eqv neg cls x' y' => op == (if neg then .neq else .eql) && eqTyOK P t cls && opdOK ρ N x x' && opdOK ρ N y y'
  | .binOp op t x y _, .eqnil neg x' => op == (if neg then .neq else .eql) && (tyElem P t).isSome && opdOK ρ N x x' && opdOK ρ N y (.c (.nsl 0))
  | .unOp op _ x, .un op' x' => op == op' && opdOK ρ N x x'
  | .convert s t x, .conv k x' => (isInt P s).isSome && isInt P t == some k && opdOK ρ N x x'
  | .makeFunc (.func q) first caps, .mkfn m caps' => first.toList.isEmpty && ρ m == q && opdsOK ρ N caps.toList caps'
  | .makeSlice t l c, .mkslice _ k bytes z l' c' => (match tyElem P t with | some e => zeroOK P e k bytes z | none => false) && decide (0 < bytes) && opdOK ρ N l l' && opdOK ρ N c c'
  | .slice t x lo hi none, .slice str k x' lo' hi' => (match str with
      | true => isStr P t
      | false => match tyElem P t with | some e => tySize P e == some k | none => false) && opdOK ρ N x x' && optOK ρ N lo lo' && optOK ρ N hi hi'
  | .slice t x none (some hi) none, .sliceO _ k x' hi' => (match tyElem P t with | some e => tySize P e == some k | none => false) && opdOK ρ N x x' && opdOK ρ N hi hi'
  | .slice t x none (some hi) (some mx), .slice0 _ k x' => (match tyElem P t with | some e => tySize P e == some k | none => false) && opdOK ρ N x x' && opdOK ρ N hi (.c (.int .i64 0)) && opdOK ρ N mx (.c (.int .i64 0))
  | .fieldAddr t x j, .faddr j' off x' => j == j' && fieldOK P t j off && opdOK ρ N x x'
  | .indexAddr t x i, .iaddr k x' i' => (match tyElem P t with | some e => tySize P e == some k | none => false) && opdOK ρ N x x' && opdOK ρ N i i'
  | .indexAddr t x i, .aaddr n k x' i' => arrOK P t n k && opdOK ρ N x x' && opdOK ρ N i i'
  | .field t x j, .field agg size j' off x' => j == j' && fieldOK P t j off && fieldTy P t j agg size && opdOK ρ N x x'
  | .index t x i, .idxa agg size n k x' i' => idxaOK P t agg size n k && opdOK ρ N x x' && opdOK ρ N i i'
  | .index t x i, .idxs x' i' => isStr P t && opdOK ρ N x x' && opdOK ρ N i i'
  | .extract x j, .extract j' x' => j == j' && opdOK ρ N x x'
  | .call c, o => matchCall ρ P N c o
  | _, .bad => true
  | _, _ => false
section
variable {α : Type} {P : Program} {ρ : Nat → FuncId} {base : Nat → Prop} {F : Fm} {fr : Frm} {S₀ : Nat → Prop} {Γ : Hp} {β : Nat → Lay} {B : Nat → List Nat} {a : Act} {w w' : World} {E : Env}
  {K : Eff → Option α} {r : α} {G : Prop} {o : Oper}
theorem Qm7 : ∀ {cl : List Operand} {caps' : List Opd}, opdsOK ρ F.wd cl caps' = true → cl.length = caps'.length ∧ ∀ p ∈ cl.zip caps', opdOK ρ F.wd p.1 p.2 = true
  | [], [], _ => ⟨rfl, by simp⟩
  | [], _ :: _, h => by cases h
  | _ :: _, [], h => by cases h
  | x :: cl, x' :: caps', h => by
    simp only [opdsOK, Bool.and_eq_true] at h
    obtain ⟨h1, h2⟩ := Qm7 h.2
    refine ⟨by simp [h1], fun p hp => ?_⟩
    simp only [List.zip_cons_cons, List.mem_cons] at hp
    rcases hp with rfl | hp
    · exact h.1
    · exact h2 p hp
theorem Qmo {t : TypeId} (h : isStr P t = true) : P.underlying t = some .string := by
  unfold isStr at h
  split at h
  · assumption
  · cases h
theorem Qmm {t : TypeId} {k : IntKind} (h : isInt P t = some k) : P.underlying t = some (.int k) := by
  unfold isInt at h
  split at h
  · cases h; assumption
  · cases h
theorem Qyt {b : Builtin} {args : Array Operand} {tys : Array TypeId} {o' : AOp} (hrel : Rel ρ S₀ base F fr Γ β B a w) (ho : o.op = .call { callee := .builtin b, args := args, argTypes := tys }) (hm : matchBuiltin ρ P F.wd b args tys o' = true)
    (h : o'.step E fr Γ K = some r) (hK : Cont P ρ S₀ base F fr Γ β B a w o K r G) : G := by
  cases o' with
  | len str x' =>
    simp only [matchBuiltin, Bool.and_eq_true, beq_iff_eq] at hm
    obtain ⟨rfl, hm⟩ := hm
    split at hm
    · rename_i x t h1 h2
      simp only [Bool.and_eq_true] at hm
      have e1 : args = #[x] := by apply Array.ext'; simpa using h1
      have e2 : tys = #[t] := by apply Array.ext'; simpa using h2
      subst e1; subst e2
      exact Qze hrel ho hm.1 hm.2 h hK
    · cases hm
  | append mv nm k bytes s' x' =>
    simp only [matchBuiltin, Bool.and_eq_true, beq_iff_eq] at hm
    obtain ⟨rfl, hm⟩ := hm
    split at hm
    · rename_i s x t t2 h1 h2
      simp only [Bool.and_eq_true] at hm
      obtain ⟨⟨⟨hm1, hm2⟩, hm3⟩, hm4⟩ := hm
      have e1 : args = #[s, x] := by apply Array.ext'; simpa using h1
      have e2 : tys = #[t, t2] := by apply Array.ext'; simpa using h2
      subst e1; subst e2
      split at hm1
      · rename_i e he
        obtain ⟨e2, he2⟩ := Option.isSome_iff_exists.1 hm2
        exact Qyo hrel ho he he2 hm1 hm3 hm4 h hK
      · cases hm1
    · cases hm
  | copy s' x' =>
    simp only [matchBuiltin, Bool.and_eq_true, beq_iff_eq] at hm
    obtain ⟨rfl, hm⟩ := hm
    split at hm
    · rename_i s x t t2 h1 h2
      simp only [Bool.and_eq_true] at hm
      obtain ⟨⟨hm1, hm2⟩, hm3⟩ := hm
      have e1 : args = #[s, x] := by apply Array.ext'; simpa using h1
      have e2 : tys = #[t, t2] := by apply Array.ext'; simpa using h2
      subst e1; subst e2
      split at hm1
      · rename_i e he
        exact Qy5 hrel ho (Qbo he) (by simpa [tySize] using hm1) hm2 hm3 h hK
      · cases hm1
    · cases hm
  | clear k z x' =>
    simp only [matchBuiltin, Bool.and_eq_true, beq_iff_eq] at hm
    obtain ⟨rfl, hm⟩ := hm
    split at hm
    · rename_i x t h1 h2
      simp only [Bool.and_eq_true] at hm
      obtain ⟨hm1, hm2⟩ := hm
      have e1 : args = #[x] := by apply Array.ext'; simpa using h1
      have e2 : tys = #[t] := by apply Array.ext'; simpa using h2
      subst e1; subst e2
      split at hm1
      · rename_i e he
        split at hm1
        · rename_i zv hz
          exact Qy3 hrel ho he ⟨zv, hz, hm1⟩ hm2 h hK
        · cases hm1
      · cases hm1
    · cases hm
  | minmax mx xs' =>
    simp only [matchBuiltin, Bool.and_eq_true, beq_iff_eq] at hm
    obtain ⟨rfl, hm⟩ := hm
    exact Qzh hrel ho hm h hK
  | _ => cases hm
theorem Qyv (hg : Good P ρ E) {c : Call} {o' : AOp} (hrel : Rel ρ S₀ base F fr Γ β B a w) (ho : o.op = .call c) (hm : matchCall ρ P F.wd c o' = true)
    (h : o'.step E fr Γ K = some r) (hK : Cont P ρ S₀ base F fr Γ β B a w o K r G) : G := by
  obtain ⟨callee, args, tys⟩ := c
  have other : matchOther ρ P F.wd callee args tys o' = true → G := fun hm => by
    cases callee with
    | builtin b => exact Qyt hrel ho hm h hK
    | _ => cases hm
  cases o' with
  | call fl q args' =>
    simp only [matchCall, Bool.and_eq_true, decide_eq_true_eq] at hm
    obtain ⟨⟨h1, hq⟩, h2⟩ := hm
    split at h1
    · simp only [beq_iff_eq] at h1
      exact Qyu hg hq hrel ho h1 h2 h hK
    · cases h1
  | callv fl f' args' =>
    simp only [matchCall, Bool.and_eq_true] at hm
    obtain ⟨h1, h2⟩ := hm
    split at h1
    · exact Qy2 hg hrel ho h1 h2 h hK
    · cases h1
  | callF nm tup ss q args' =>
    simp only [matchCall, Bool.and_eq_true, decide_eq_true_eq] at hm
    obtain ⟨⟨h1, h3⟩, h2⟩ := hm
    split at h1
    · simp only [beq_iff_eq] at h1
      exact Qyx hg h3 hrel ho h1 h2 h hK
    · cases h1
  | callM k q x' args' =>
    simp only [matchCall, Bool.and_eq_true, decide_eq_true_eq] at hm
    obtain ⟨⟨h1, hq⟩, h2⟩ := hm
    split at h1
    · simp only [beq_iff_eq] at h1
      split at h2
      · rename_i x xs ha
        simp only [Bool.and_eq_true] at h2
        exact Qy0 hg hq hrel ho h1 ha h2.1 h2.2 h hK
      · cases h2
    · cases h1
  | callC nm k q x' args' =>
    simp only [matchCall, Bool.and_eq_true, decide_eq_true_eq] at hm
    obtain ⟨⟨h1, hq⟩, h2⟩ := hm
    split at h1
    · simp only [beq_iff_eq] at h1
      split at h2
      · rename_i x xs ha
        simp only [Bool.and_eq_true] at h2
        exact Qyw hg hq hrel ho h1 ha h2.1 h2.2 h hK
      · cases h2
    · cases h1
  | callI nm k q x' i' y' =>
    simp only [matchCall, Bool.and_eq_true, decide_eq_true_eq] at hm
    obtain ⟨⟨h1, hq⟩, h2⟩ := hm
    split at h1
    · simp only [beq_iff_eq] at h1
      split at h2
      · rename_i x i y ha
        simp only [Bool.and_eq_true] at h2
        exact Qyy hg hq hrel ho h1 ha h2.1.1 h2.1.2 h2.2 h hK
      · cases h2
    · cases h1
  | callP sh q x' args' =>
    simp only [matchCall, Bool.and_eq_true, decide_eq_true_eq] at hm
    obtain ⟨⟨h1, hq⟩, h2⟩ := hm
    split at h1
    · simp only [beq_iff_eq] at h1
      split at h2
      · rename_i x xs ha
        simp only [Bool.and_eq_true] at h2
        exact Qy1 hg hq hrel ho h1 ha h2.1 h2.2 h hK
      · cases h2
    · cases h1
  | callL sh q f' args' =>
    simp only [matchCall, Bool.and_eq_true, decide_eq_true_eq, beq_iff_eq] at hm
    obtain ⟨⟨⟨h1, h3⟩, hq⟩, h2⟩ := hm
    split at h1
    · exact Qyz hg hq hrel ho h3 h1 h2 h hK
    · cases h1
  | _ => exact other hm
theorem Qzl (hg : Good P ρ E) {o' : AOp} (hrel : Rel ρ S₀ base F fr Γ β B a w) (hm : matchOp ρ P F.wd o.op o' = true)
    (h : o'.step E fr Γ K = some r) (hK : Cont P ρ S₀ base F fr Γ β B a w o K r G) : G := by
  unfold matchOp at hm
  split at hm
  · rename_i ho; exact Qos hrel (.inl ho) hm h hK
  · rename_i ho; exact Qos hrel (.inr ho) hm h hK
  · rename_i ho
    simp only [Bool.and_eq_true] at hm
    exact Qzm hrel ho hm.1.1 hm.1.2 hm.2 h hK
  · rename_i ho; exact Qoq hrel ho hm h hK
  · rename_i ho; exact Qyr hrel ho hm h hK
  · rename_i ho; exact Qyq hrel ho hm h hK
  · rename_i ho
    split at hm
    · rename_i hz; exact Qym hrel ho hz hm h hK
    · cases hm
  · rename_i ho
    split at hm
    · rename_i hz; exact Qyn hrel ho hz h hK
    · cases hm
  · rename_i ho
    simp only [Bool.and_eq_true] at hm
    exact Qor hrel ho hm.1 hm.2 h hK
  · rename_i ho
    simp only [Bool.and_eq_true] at hm
    exact Qor (E := E) hrel ho hm.1 hm.2 h hK
  · rename_i ho
    simp only [Bool.and_eq_true, beq_iff_eq, decide_eq_true_eq] at hm
    obtain ⟨⟨⟨⟨rfl, h1⟩, h2⟩, h3⟩, h4⟩ := hm
    split at h3
    · rename_i e he
      unfold zeroOK' at h3
      split at h3
      · exact Qys hrel ho he h3 h1 h2 h4 h hK
      · cases h3
    · cases h3
  · rename_i ho
    simp only [Bool.and_eq_true, beq_iff_eq] at hm
    exact Qhh hrel ho hm.1.1 hm.1.2 hm.2 h hK
  · rename_i ho
    simp only [Bool.and_eq_true, beq_iff_eq] at hm
    exact Qzf hrel ho hm.1.1 hm.1.2 hm.2 h hK
  · rename_i ho
    simp only [Bool.and_eq_true, beq_iff_eq] at hm
    exact Qzg hrel ho hm.1.1 hm.1.2 hm.2 h hK
  · rename_i ho
    simp only [Bool.and_eq_true, beq_iff_eq] at hm
    exact Qzs hrel ho hm.1.1 hm.1.2 hm.2 h hK
  · rename_i ho
    simp only [Bool.and_eq_true, beq_iff_eq] at hm
    exact Qzr hrel ho hm.1.1 hm.1.2 hm.2 h hK
  · rename_i ho
    simp only [Bool.and_eq_true, beq_iff_eq] at hm
    exact Qzt hrel ho hm.1.1 hm.1.2 hm.2 h hK
  · rename_i ho
    simp only [Bool.and_eq_true, beq_iff_eq] at hm
    exact Qzu hrel ho hm.1.1 hm.1.2 hm.2 h hK
  · rename_i ho
    simp only [Bool.and_eq_true, beq_iff_eq] at hm
    exact Qhi hrel ho hm.1.1 hm.1.2 hm.2 h hK
  · rename_i ho; exact Qzk hrel ho hm h hK
  · rename_i ho
    simp only [Bool.and_eq_true, beq_iff_eq] at hm
    obtain ⟨⟨rfl, h1⟩, h2⟩ := hm
    exact Qyp hrel ho h1 h2 h hK
  · rename_i ho
    simp only [Bool.and_eq_true, beq_iff_eq] at hm
    obtain ⟨⟨⟨rfl, h0⟩, h1⟩, h2⟩ := hm
    exact Qy7 hrel ho h0 h1 h2 h hK
  · rename_i ho
    simp only [Bool.and_eq_true, beq_iff_eq] at hm
    obtain ⟨⟨⟨rfl, h0⟩, h1⟩, h2⟩ := hm
    obtain ⟨e, he⟩ := Option.isSome_iff_exists.1 h0
    exact Qy6 hrel ho he h1 h2 h hK
  · rename_i ho
    simp only [Bool.and_eq_true, beq_iff_eq] at hm
    obtain ⟨rfl, h1⟩ := hm
    exact Qzv hrel ho h1 h hK
  · rename_i ho
    simp only [Bool.and_eq_true, beq_iff_eq] at hm
    obtain ⟨⟨h0, h1⟩, h2⟩ := hm
    obtain ⟨k', hk'⟩ := Option.isSome_iff_exists.1 h0
    exact Qy4 hrel ho ⟨k', Qmm hk'⟩ (Qmm h1) h2 h hK
  · rename_i q first caps m caps' ho
    simp only [Bool.and_eq_true, beq_iff_eq] at hm
    obtain ⟨⟨h0, h1⟩, h2⟩ := hm
    have e1 : first = #[] := by apply Array.ext'; simpa using h0
    subst e1
    obtain ⟨h3, h4⟩ := Qm7 h2
    exact Qzi hrel ho h1 ⟨caps.toList, by simp, h3, h4⟩ h hK
  · rename_i ho
    simp only [Bool.and_eq_true, decide_eq_true_eq] at hm
    obtain ⟨⟨⟨h0, h1⟩, h2⟩, h3⟩ := hm
    split at h0
    · rename_i e he; exact Qzj hrel ho he h0 h1 h2 h3 h hK
    · cases h0
  · rename_i str k x' lo' hi' ho
    simp only [Bool.and_eq_true] at hm
    obtain ⟨⟨⟨h0, h1⟩, h2⟩, h3⟩ := hm
    cases str with
    | true => exact Qzq hrel ho (Qmo h0) h1 h2 h3 h hK
    | false =>
      simp only at h0
      split at h0
      · rename_i e he; exact Qzn hrel ho ⟨e, he, by simpa using h0⟩ h1 h2 h3 h hK
      · cases h0
  · rename_i ho
    simp only [Bool.and_eq_true] at hm
    obtain ⟨⟨h0, h1⟩, h2⟩ := hm
    split at h0
    · rename_i e he; exact Qzp hrel ho ⟨e, he, by simpa using h0⟩ h1 h2 h hK
    · cases h0
  · rename_i ho
    simp only [Bool.and_eq_true] at hm
    obtain ⟨⟨⟨h0, h1⟩, h2⟩, h3⟩ := hm
    split at h0
    · rename_i e he; exact Qzo hrel ho he (by simpa using h0) h1 h2 h3 h hK
    · cases h0
  · rename_i ho
    simp only [Bool.and_eq_true, beq_iff_eq] at hm
    obtain ⟨⟨rfl, h1⟩, h2⟩ := hm
    exact Qy9 hrel ho h1 h2 h hK
  · rename_i ho
    simp only [Bool.and_eq_true] at hm
    obtain ⟨⟨h0, h1⟩, h2⟩ := hm
    split at h0
    · rename_i e he; exact Qzb hrel ho he (by simpa using h0) h1 h2 h hK
    · cases h0
  · rename_i ho
    simp only [Bool.and_eq_true] at hm
    exact Qyl hrel ho hm.1.1 hm.1.2 hm.2 h hK
  · rename_i ho
    simp only [Bool.and_eq_true, beq_iff_eq] at hm
    obtain ⟨⟨⟨rfl, h0⟩, h1⟩, h2⟩ := hm
    exact Qza hrel ho h0 h1 h2 h hK
  · rename_i ho
    simp only [Bool.and_eq_true] at hm
    exact Qzc hrel ho hm.1.1 hm.1.2 hm.2 h hK
  · rename_i ho
    simp only [Bool.and_eq_true] at hm
    exact Qzd hrel ho (Qmo hm.1.1) hm.1.2 hm.2 h hK
  · rename_i ho
    simp only [Bool.and_eq_true, beq_iff_eq] at hm
    obtain ⟨rfl, h1⟩ := hm
    exact Qy8 hrel ho h1 h hK
  · rename_i ho; exact Qyv hg hrel ho hm h hK
  · cases h
  · cases hm
end
end Go.Proofs.Ytboenehajoaahaa.Am
