import Derived.Test.YtboenehajoaahaaAmEa
namespace Go.Proofs.Ytboenehajoaahaa.Am
open Go
def Reach {σ α : Type} (f : (σ → Option α) → Option α) : Prop := ∀ K r, f K = some r → ∃ e, K e = some r ∧ ∀ K', K' e = some r → f K' = some r
section
variable {σ τ α β : Type}
theorem Reach.ret (e : σ) : Reach (fun K : σ → Option α => K e) := fun _ _ h => ⟨e, h, fun _ h => h⟩
theorem Reach.none : Reach (fun _ : σ → Option α => Option.none) := fun _ _ h => by cases h
theorem Reach.bind (x : Option β) {g : β → (σ → Option α) → Option α} (h : ∀ b, Reach (g b)) : Reach (fun K => x.bind fun b => g b K) := by
  cases x with
  | none => exact fun _ _ h => by cases h
  | some b => exact h b
theorem Reach.ite (c : Prop) [Decidable c] {f g : (σ → Option α) → Option α} (h1 : Reach f) (h2 : Reach g) : Reach (fun K => if c then f K else g K) := by
  by_cases hc : c
  · simp only [hc, if_true]; exact h1
  · simp only [hc, if_false]; exact h2
theorem Reach.asBool (u : U) {f g : (σ → Option α) → Option α} (h1 : Reach f) (h2 : Reach g) : Reach (fun K => u.asBool (f K) (g K)) := by
  cases u with
  | bool b => cases b; exact h2; exact h1
  | _ => exact Reach.none
theorem Reach.uInt (u : U) {g : Int → (σ → Option α) → Option α} (h : ∀ n, Reach (g n)) : Reach (fun K => u.asInt fun n => g n K) := by
  cases u with
  | int k n => cases k <;> first | exact h n | exact Reach.none
  | _ => exact Reach.none
theorem Reach.dInt (d : D) {g : Int → (σ → Option α) → Option α} (h : ∀ n, Reach (g n)) : Reach (fun K => d.asInt fun n => g n K) := by
  cases d with
  | val u => exact Reach.uInt u h
  | _ => exact Reach.none
theorem Reach.dVal (d : D) {g : U → (σ → Option α) → Option α} (h : ∀ n, Reach (g n)) : Reach (fun K => d.asVal fun n => g n K) := by
  cases d with
  | val u => exact h u
  | _ => exact Reach.none
theorem Reach.optInt (fr : Frm) (x : Option Opd) {g : Option Int → (σ → Option α) → Option α} (h : ∀ n, Reach (g n)) : Reach (fun K => optInt fr x fun n => g n K) := by
  cases x with
  | none => exact h _
  | some x => exact Reach.dInt _ fun n => h (some n)
theorem Reach.intsOf (fr : Frm) (xs : List Opd) {g : List Int → (σ → Option α) → Option α} (h : ∀ n, Reach (g n)) : Reach (fun K => intsOf fr xs fun n => g n K) := by
  induction xs generalizing g with
  | nil => exact h _
  | cons x xs ih => exact Reach.dInt _ fun n => ih fun ns => h (n :: ns)
theorem Reach.elemAt (k : Nat) (u : U) (i : Int) {g : U → (σ → Option α) → Option α} (h : ∀ n, Reach (g n)) : Reach (fun K => u.elemAt k i fun n => g n K) := by
  cases u with
  | sl k' us => exact Reach.ite _ (Reach.ite _ (Reach.bind _ h) Reach.none) Reach.none
  | _ => exact Reach.none
theorem Reach.fieldAt (j off : Nat) (u : U) {g : U → (σ → Option α) → Option α} (h : ∀ n, Reach (g n)) : Reach (fun K => u.fieldAt j off fun n => g n K) := by
  cases u with
  | agg us => exact Reach.ite _ (Reach.bind _ h) Reach.none
  | _ => exact Reach.none
theorem Reach.charAt (u : U) (i : Int) {g : U → (σ → Option α) → Option α} (h : ∀ n, Reach (g n)) : Reach (fun K => u.charAt i fun n => g n K) := by
  cases u with
  | str s => exact Reach.ite _ (Reach.bind _ fun b => h _) Reach.none
  | _ => exact Reach.none
theorem Reach.part (j : Nat) (u : U) {g : U → (σ → Option α) → Option α} (h : ∀ n, Reach (g n)) : Reach (fun K => u.part j fun n => g n K) := by
  cases u with
  | tup us => exact Reach.bind _ h
  | _ => exact Reach.none
theorem Reach.asVp (u : U) {g : U → (σ → Option α) → Option α} (h : ∀ n, Reach (g n)) : Reach (fun K => u.asVp fun n => g n K) := by
  cases u <;> first | exact Reach.none | exact h _
theorem Reach.asFn (u : U) {g : Nat → List U → (σ → Option α) → Option α} (h : ∀ n m, Reach (g n m)) : Reach (fun K => u.asFn fun n m => g n m K) := by
  cases u <;> first | exact Reach.none | exact Reach.ite _ (h _ _) Reach.none
theorem Reach.asNsl (u : U) {g : Nat → (σ → Option α) → Option α} (h : ∀ n, Reach (g n)) : Reach (fun K => u.asNsl fun n => g n K) := by
  cases u <;> first | exact Reach.none | exact h _
theorem Reach.noTup (u : U) {g : U → (σ → Option α) → Option α} (h : ∀ n, Reach (g n)) : Reach (fun K => u.noTup fun n => g n K) := by
  cases u <;> first | exact Reach.none | exact h _
theorem Reach.asFlat (u : U) {g : U → (σ → Option α) → Option α} (h : ∀ n, Reach (g n)) : Reach (fun K => u.asFlat fun n => g n K) :=
  Reach.ite _ (h _) Reach.none
theorem Reach.setParts (fr : Frm) {g : List D → (σ → Option α) → Option α} (h : ∀ n, Reach (g n)) (parts : List (Nat × Opd)) : ∀ ds, Reach (fun K => setParts fr (fun ds => g ds K) ds parts) := by
  induction parts with
  | nil => exact fun ds => h ds
  | cons p parts ih =>
    obtain ⟨i, x⟩ := p
    exact fun ds => Reach.bind _ fun d => Reach.ite _ (ih _) Reach.none
theorem Reach.asVar (agg : Bool) (size : Nat) (u : U) {g : U → (σ → Option α) → Option α} (h : ∀ n, Reach (g n)) : Reach (fun K => u.asVar agg size fun n => g n K) :=
  Reach.ite _ (h _) Reach.none
theorem Reach.then {f : (σ → Option α) → Option α} {g : σ → (τ → Option α) → Option α} (h1 : Reach f) (h2 : ∀ e, Reach (g e)) : Reach (fun K => f fun e => g e K) := fun K r h => by
  obtain ⟨e, he, hK⟩ := h1 _ r h
  obtain ⟨e', he', hK'⟩ := h2 e K r he
  exact ⟨e', he', fun K' hr => hK _ (hK' K' hr)⟩
end
section
variable {α : Type} (E : Env)
theorem Reach.asMut {σ α : Type} (k : Nat) (u : U) {g : U → List U → (σ → Option α) → Option α} (h : ∀ n m, Reach (g n m)) : Reach (fun K => u.asMut k fun n m => g n m K) := by
  unfold U.asMut
  split
  · exact Reach.ite _ (h _ _) Reach.none
  · exact Reach.none
theorem Reach.asPtr {σ α : Type} (u : U) {g : U → U → (σ → Option α) → Option α} (h : ∀ n m, Reach (g n m)) : Reach (fun K => u.asPtr fun n m => g n m K) := by
  unfold U.asPtr
  split
  · exact h _ _
  · exact Reach.none
theorem Qa6 (fl : Bool) (u : U) : Reach (fun K : Eff → Option α => u.res fl K) := by
  cases fl
  · exact Reach.ret _
  · exact Reach.asFlat _ fun u => Reach.ret _
theorem Reach.mkVar (Γ : Hp) (nm : Nat) (c : Cn) (d : D) : Reach (fun K : Eff → Option α => Am.mkVar Γ nm c d K) := Reach.ite _ (Reach.ret _) Reach.none
theorem Reach.isSl {σ α : Type} (k : Nat) (d : D) {g : (σ → Option α) → Option α} (h : Reach g) : Reach (fun K => d.isSl k (g K)) := by
  cases d with
  | own u => cases u <;> first | exact Reach.ite _ h Reach.none | exact Reach.none
  | asl k' us => exact Reach.ite _ h Reach.none
  | osl k' ds => exact Reach.ite _ h Reach.none
  | _ => exact Reach.none
theorem Reach.asSlK {σ α : Type} (k : Nat) (u : U) {g : List U → (σ → Option α) → Option α} (h : ∀ n, Reach (g n)) : Reach (fun K => u.asSlK k fun n => g n K) := by
  cases u <;> first | exact Reach.ite _ (h _) Reach.none | exact Reach.none
theorem Reach.asTup {σ α : Type} (u : U) {g : List U → (σ → Option α) → Option α} (h : ∀ n, Reach (g n)) : Reach (fun K => u.asTup fun n => g n K) := by
  cases u <;> first | exact h _ | exact Reach.none
theorem Reach.spellN {σ α : Type} : ∀ (n : Nat) (us : List U) {g : List U → (σ → Option α) → Option α}, (∀ us, Reach (g us)) → Reach (fun K => Am.spellN n us fun us => g us K)
  | 0, [], _, h => h _
  | 0, _ :: _, _, _ => Reach.none
  | _ + 1, [], _, _ => Reach.none
  | n + 1, u :: us, g, h => Reach.spellN n us (g := fun us => g (u :: us)) fun us => h (u :: us)
theorem Reach.asAgg {σ α : Type} (u : U) {g : List U → (σ → Option α) → Option α} (h : ∀ n, Reach (g n)) : Reach (fun K => u.asAgg fun n => g n K) := by
  cases u <;> first | exact h _ | exact Reach.none
theorem Reach.spell {σ α : Type} (n size : Nat) (u : U) {g : U → (σ → Option α) → Option α} (h : ∀ n, Reach (g n)) : Reach (fun K => u.spell n size fun n => g n K) :=
  Reach.asVar _ _ _ fun u => Reach.asAgg u fun us => Reach.spellN n us fun us => h _
theorem Qfa {σ α : Type} : ∀ (ss : List Shp) (us : List U) {g : List U → (σ → Option α) → Option α}, (∀ us, Reach (g us)) → Reach (fun K => spellS ss us fun us => g us K)
  | [], us, g, h => by
    unfold spellS
    split
    · exact h _
    · exact Reach.none
  | .int :: ss, us, g, h => by
    unfold spellS
    split
    · exact Reach.uInt _ fun n => Qfa ss _ fun us => h _
    · exact Reach.none
  | .sl k :: ss, us, g, h => by
    unfold spellS
    split
    · exact Reach.asSlK _ _ fun xs => Qfa ss _ fun us => h _
    · exact Reach.none
  | .flat _ _ :: _, us, g, h => Reach.none
  | .bool :: _, us, g, h => Reach.none
  | .agg _ :: _, us, g, h => Reach.none
theorem Reach.asP {σ α : Type} (sh : Shp) (u : U) {g : U → (σ → Option α) → Option α} (h : ∀ u, Reach (g u)) : Reach (fun K => u.asP sh fun u => g u K) := by
  unfold U.asP
  split
  · exact Reach.asSlK _ _ fun us => h _
  · exact Reach.asAgg _ fun us => Qfa _ _ fun us => h _
  · exact Reach.asVp _ fun u => Reach.asAgg _ fun us => Qfa _ _ fun us => h _
  · exact Reach.none
theorem Qay (op : AOp) (fr : Frm) (Γ : Hp) : Reach (fun K : Eff → Option α => op.step E fr Γ K) := by
  cases op with
  | mv x => exact Reach.ret _
  | pick c a b =>
    simp only [AOp.step]
    cases c.ev fr with
    | val u => exact Reach.asBool u (Reach.ret _) (Reach.ret _)
    | _ => exact Reach.none
  | box fz nm x =>
    simp only [AOp.step, Qao]
    split
    · cases fz
      · exact Reach.noTup _ fun u => Reach.mkVar _ _ _ _
      · exact Reach.noTup _ fun u => Reach.ret _
    · cases fz
      · exact Reach.bind _ fun x => Reach.mkVar _ _ _ _
      · exact Reach.none
  | boxN n nm x =>
    simp only [AOp.step]
    split
    · exact Reach.asAgg _ fun us => Reach.spellN n us fun us => Reach.mkVar _ _ _ _
    · exact Reach.none
  | boxS nm x => exact Reach.ite _ (Reach.mkVar _ _ _ _) Reach.none
  | alloc nm z => exact Reach.mkVar _ _ _ _
  | build z parts =>
    refine Reach.setParts fr (g := fun ds (K : Eff → Option α) => match allVals ds with | some us => K (.v (.val (.agg us))) | none => K (.v (.agg ds))) (fun ds => ?_) parts _
    cases allVals ds <;> exact Reach.ret _
  | buildL z parts =>
    refine Reach.setParts fr (g := fun ds (K : Eff → Option α) => match allVals ds with | some us => K (.v (.val (.agg us))) | none => K (.v (.agg ds))) (fun ds => ?_) parts _
    cases allVals ds <;> exact Reach.ret _
  | bslice mode nm k n z parts =>
    simp only [AOp.step, Qcp, Qdg]
    refine Reach.ite _ (Reach.setParts fr (g := fun ds (K : Eff → Option α) => match mode with
      | 0 => (allVals ds).bind fun us => K (.vnew (.sl k us))
      | 1 => (allVals ds).bind fun us => mkVar Γ nm (.vir (.asl k us)) (.ref nm [] k none) K
      | 2 => (takesO ds Γ).bind fun x => (ownsO x.1).bind fun us => mkVar x.2 nm (.vir (.own (.sl k us))) (.ref nm [] k none) K
      | _ => (takesO ds Γ).bind fun x => mkVar x.2 nm (.vir (.osl k x.1)) (.ref nm [] k none) K) (fun ds => ?_) parts _) Reach.none
    match mode with
    | 0 => exact Reach.bind _ fun us => Reach.ret _
    | 1 => exact Reach.bind _ fun us => Reach.mkVar _ _ _ _
    | 2 => exact Reach.bind _ fun x => Reach.bind _ fun us => Reach.mkVar _ _ _ _
    | _ + 3 => exact Reach.bind _ fun x => Reach.mkVar _ _ _ _
  | load agg size a =>
    simp only [AOp.step, at_eq]
    split
    · exact Reach.asVp _ fun u => Reach.asVar _ _ _ fun u => Reach.ret _
    · refine Reach.bind _ fun d => ?_
      split
      · exact Reach.asVar _ _ _ fun u => Reach.ret _
      · exact Reach.asVar _ _ _ fun u => Reach.asFlat _ fun u => Reach.ret _
      · exact Reach.ite _ (Reach.ret _) Reach.none
      · exact Reach.ite _ (Reach.ret _) Reach.none
      · exact Reach.ite _ (Reach.ret _) Reach.none
      · exact Reach.none
    · exact Reach.none
  | loadN n size a =>
    simp only [AOp.step, at_eq]
    split
    · exact Reach.asVp _ fun u => Reach.spell _ _ _ fun u => Reach.ret _
    · refine Reach.bind _ fun d => ?_
      split
      · exact Reach.spell _ _ _ fun u => Reach.ret _
      · exact Reach.none
    · exact Reach.none
  | loadO sh a =>
    simp only [AOp.step, at_eq, Qgi]
    split
    · exact Reach.asVp _ fun u => Reach.bind _ fun d => Reach.ret _
    · exact Reach.bind _ fun d => Reach.bind _ fun d => Reach.ret _
    · exact Reach.none
  | store size a x =>
    simp only [AOp.step, Qab]
    split
    · exact Reach.ite _ (Reach.bind _ fun d => Reach.ret _) Reach.none
    · exact Reach.none
  | storeS size a x ps =>
    simp only [AOp.step, Qab]
    split
    · exact Reach.ite _ (Reach.ite _ (Reach.bind _ fun d => Reach.ret _) Reach.none) Reach.none
    · exact Reach.none
  | storeN nm size a x =>
    simp only [AOp.step]
    split
    · refine Reach.ite _ ?_ Reach.none
      split
      · refine Reach.noTup _ fun u => Reach.ite _ ?_ Reach.none
        split
        · exact Reach.ite _ (Reach.ret _) Reach.none
        · exact Reach.none
      · refine Reach.ite _ ?_ Reach.none
        split
        · exact Reach.ite _ (Reach.ret _) Reach.none
        · exact Reach.none
    · exact Reach.none
  | storeE size a x =>
    simp only [AOp.step, Qab, Qao, Qaf]
    split
    · exact Reach.bind _ fun x => Reach.bind _ fun u => Reach.ite _ (Reach.bind _ fun g => Reach.ret _) Reach.none
    · exact Reach.none
  | storeM nm size a x =>
    simp only [AOp.step, Qab, at_eq, Qao]
    split
    · exact Reach.ite _ (Reach.bind _ fun d => Reach.bind _ fun g => Reach.bind _ fun x => Reach.ite _ (Reach.bind _ fun g => Reach.ret _) Reach.none) Reach.none
    · exact Reach.none
  | nilck x =>
    simp only [AOp.step]
    split
    · exact Reach.asVp _ fun u => Reach.ret _
    · exact Reach.ret _
    · exact Reach.none
  | bin op x y => exact Reach.dVal _ fun a => Reach.dVal _ fun b => Reach.bind _ fun u => Reach.ret _
  | eqv neg cls x y =>
    simp only [AOp.step]
    split
    · exact Reach.dVal _ fun b => Reach.bind _ fun u => Reach.ret _
    · split <;> first | exact Reach.ret _ | exact Reach.none
    · exact Reach.none
  | un op x => exact Reach.dVal _ fun b => Reach.bind _ fun u => Reach.ret _
  | conv k x => exact Reach.dVal _ fun b => Reach.bind _ fun u => Reach.ret _
  | mkfn r caps => exact Reach.ite _ (Reach.ret _) Reach.none
  | mkslice nm k bytes z l c => exact Reach.dInt _ fun l => Reach.dInt _ fun c => Reach.ite _ (Reach.mkVar _ _ _ _) Reach.none
  | slice str k x lo hi =>
    simp only [AOp.step, at_eq, Qa8]
    split
    · exact Reach.optInt _ _ fun l => Reach.optInt _ _ fun h => Reach.bind _ fun u => Reach.ret _
    · exact Reach.bind _ fun d => Reach.bind _ fun n => Reach.optInt _ _ fun l => Reach.optInt _ _ fun h => Reach.ite _ (Reach.ret _) Reach.none
    · exact Reach.none
  | slice0 nm k x =>
    simp only [AOp.step, at_eq, Qa8]
    split
    · exact Reach.bind _ fun u => Reach.mkVar _ _ _ _
    · exact Reach.bind _ fun d => Reach.bind _ fun n => Reach.ite _ (Reach.mkVar _ _ _ _) Reach.none
    · exact Reach.none
  | faddr j off x =>
    simp only [AOp.step]
    split
    · exact Reach.asVp _ fun u => Reach.fieldAt _ _ _ fun u => Reach.ret _
    · exact Reach.ret _
    · exact Reach.none
  | iaddr k x i =>
    simp only [AOp.step, at_eq, Qa8]
    split
    · exact Reach.dInt _ fun n => Reach.elemAt _ _ _ fun u => Reach.ret _
    · exact Reach.bind _ fun d => Reach.bind _ fun n => Reach.dInt _ fun n => Reach.ite _ (Reach.ret _) Reach.none
    · exact Reach.bind _ fun d => Reach.bind _ fun n => Reach.dInt _ fun n => Reach.ite _ (Reach.ret _) Reach.none
    · exact Reach.none
  | aaddr n k x i =>
    simp only [AOp.step]
    split
    · exact Reach.dInt _ fun n => Reach.ite _ (Reach.ret _) Reach.none
    · exact Reach.none
  | field agg size j off x =>
    simp only [AOp.step]
    split
    · exact Reach.fieldAt _ _ _ fun u => Reach.asVar _ _ _ fun u => Reach.ret _
    · exact Reach.ite _ (Reach.bind _ fun d => Reach.ite _ (Reach.ret _) Reach.none) Reach.none
    · exact Reach.none
  | idxa agg size n k x i => exact Reach.dVal _ fun u => Reach.dInt _ fun n => Reach.ite _ (Reach.fieldAt _ _ _ fun u => Reach.asVar _ _ _ fun u => Reach.ret _) Reach.none
  | idxs x i => exact Reach.dVal _ fun u => Reach.dInt _ fun n => Reach.charAt _ _ fun u => Reach.ret _
  | extract j x =>
    simp only [AOp.step]
    split
    · exact Reach.part _ _ fun u => Reach.ret _
    · exact Reach.bind _ fun d => Reach.ret _
    · exact Reach.none
  | call fl r args =>
    simp only [AOp.step]
    split
    · exact Reach.bind _ fun u => Qa6 fl u
    · exact Reach.bind _ fun us => Reach.bind _ fun u => Qa6 true u
  | callv fl f args =>
    simp only [AOp.step]
    split
    · exact Reach.bind _ fun g => Reach.asFn _ fun r caps => Reach.bind _ fun u => Qa6 fl u
    · exact Reach.bind _ fun g => Reach.asFn _ fun r caps => Reach.bind _ fun us => Reach.bind _ fun u => Qa6 true u
  | callF nm tup ss r args =>
    simp only [AOp.step, Qba, Qbb]
    refine Reach.bind _ fun us => Reach.bind _ fun u => ?_
    split
    · exact Reach.noTup _ fun u => Reach.bind _ fun x => Reach.mkVar _ _ _ _
    · exact Reach.asTup _ fun us => Reach.bind _ fun x => Reach.mkVar _ _ _ _
    · exact Reach.none
  | callM k r x args =>
    simp only [AOp.step, at_eq, Qab, Qaf]
    split
    · exact Reach.ite _ (Reach.bind _ fun d => Reach.isSl _ _ (Reach.bind _ fun u => Reach.asSlK _ _ fun xs => Reach.bind _ fun us => Reach.bind _ fun u => Reach.asMut _ _ fun y ys => Reach.asFlat _ fun y => Reach.bind _ fun g => Reach.ret _)) Reach.none
    · exact Reach.none
  | callC nm k r x args =>
    simp only [AOp.step, Qae]
    exact Reach.bind _ fun x => Reach.bind _ fun us => Reach.bind _ fun u => Reach.asSlK _ _ fun ys => Reach.mkVar _ _ _ _
  | callI nm k r x i y =>
    simp only [AOp.step, Qae]
    exact Reach.bind _ fun x => Reach.dInt _ fun n => Reach.bind _ fun z => Reach.bind _ fun u => Reach.asSlK _ _ fun ys => Reach.mkVar _ _ _ _
  | callP sh r x args =>
    simp only [AOp.step]
    split
    · split
      · exact Reach.bind _ fun c => Reach.bind _ fun us => Reach.bind _ fun u => Reach.asPtr _ fun y c' => Reach.asP _ _ fun c' => Reach.ret _
      · exact Reach.none
    · exact Reach.none
  | callL sh r f args =>
    simp only [AOp.step]
    split
    · split
      · exact Reach.ite _ (Reach.bind _ fun c => Reach.bind _ fun us => Reach.bind _ fun u => Reach.asPtr _ fun y c' => Reach.asP _ _ fun c' => Reach.ret _) Reach.none
      · exact Reach.none
    · exact Reach.none
  | clear k z x =>
    simp only [AOp.step]
    split
    · split
      · exact Reach.asSlK _ _ fun us => Reach.ite _ (Reach.ret _) Reach.none
      · exact Reach.none
    · exact Reach.none
  | allocJ nm => exact Reach.mkVar _ _ _ _
  | sliceO nm k x hi =>
    simp only [AOp.step, Qae]
    exact Reach.dInt _ fun n => Reach.bind _ fun x => Reach.ite _ (Reach.mkVar _ _ _ _) Reach.none
  | len str x =>
    simp only [AOp.step, at_eq, Qa8]
    split
    · exact Reach.bind _ fun u => Reach.ret _
    · exact Reach.ite _ Reach.none (Reach.ret _)
    · exact Reach.ite _ Reach.none (Reach.bind _ fun d => Reach.bind _ fun n => Reach.ret _)
    · exact Reach.none
  | append mv nm k bytes s x =>
    cases mv with
    | false =>
      simp only [AOp.step, Qdd, Qao]
      refine Reach.bind _ fun ys => ?_
      split
      · exact Reach.asNsl _ fun k' => Reach.ite _ (Reach.mkVar _ _ _ _) Reach.none
      · refine Reach.bind _ fun x => ?_
        split
        · exact Reach.ite _ (Reach.mkVar _ _ _ _) Reach.none
        · exact Reach.asSlK _ _ fun us => Reach.ite _ (Reach.mkVar _ _ _ _) Reach.none
        · exact Reach.none
      · exact Reach.none
    | true =>
      simp only [AOp.step, Qae]
      refine Reach.bind _ fun x => ?_
      split
      · exact Reach.asNsl _ fun k' => Reach.ite _ (Reach.mkVar _ _ _ _) Reach.none
      · exact Reach.bind _ fun x => Reach.ite _ (Reach.mkVar _ _ _ _) Reach.none
  | eqnil neg x =>
    simp only [AOp.step]
    split
    · exact Reach.bind _ fun t => Reach.ret _
    · split
      · exact Reach.ret _
      · exact Reach.none
    · exact Reach.none
  | copy d x =>
    simp only [AOp.step, Qdd]
    split
    · split
      · exact Reach.bind _ fun ys => Reach.ite _ (Reach.ret _) Reach.none
      · exact Reach.none
    · exact Reach.none
  | bad => exact Reach.none
  | minmax mx xs =>
    refine Reach.intsOf _ _ fun ns => ?_
    cases ns <;> first | exact Reach.none | exact Reach.ret _
theorem Qif (dr : Bool) (dst : Option Nat) (s : St) (e : Eff) : Reach (fun K : St → Option α => e.apply dr dst s K) := by
  cases e with
  | v d => exact Reach.ret _
  | vnew u => exact Reach.ret _
  | cl fl u => exact Reach.ret _
  | st ms d Γ => cases dr <;> first | exact Reach.ret _ | exact Reach.none
theorem Qm9 (dr : Bool) (o : AOper) (s : St) : Reach (fun K : St → Option α => o.exec dr E s K) := by
  have go : ∀ s : St, Reach (fun K : St → Option α => o.op.step E s.fr s.Γ fun e => e.apply dr o.dst s K) := fun s => (Qay E o.op s.fr s.Γ).then fun e => Qif dr o.dst s e
  unfold AOper.exec
  split
  · exact go s
  · split
    · exact Reach.ret _
    · rename_i g want _ _ _ _
      refine Reach.asBool _ ?_ ?_
      · exact Reach.ite _ (go _) (Reach.ret _)
      · exact Reach.ite _ (Reach.ret _) (go _)
    · exact Reach.none
theorem Qcf (dr : Bool) (os : List AOper) (s : St) : Reach (fun K : St → Option α => execOps dr E os s K) := by
  induction os generalizing s with
  | nil => exact Reach.ret _
  | cons o os ih => exact (Qm9 E dr o s).then fun s' => ih s'
def Mono (F : (Packed → Option α) → Packed → Option α) : Prop := ∀ g g', (∀ p r, g p = some r → g' p = some r) → ∀ p r, F g p = some r → F g' p = some r
theorem Qwq {F : (Packed → Option α) → Packed → Option α} (hF : Mono F) (n : Nat) : ∀ p r, loopN F n p = some r → loopN F (n + 1) p = some r := by
  induction n with
  | zero => intro p r h; cases h
  | succ n ih => exact fun p r h => hF _ _ ih p r h
theorem Qmv {F : (Packed → Option α) → Packed → Option α} (hF : Mono F) {n m : Nat} (h : n ≤ m) : ∀ p r, loopN F n p = some r → loopN F m p = some r := by
  induction h with
  | refl => exact fun _ _ h => h
  | step _ ih => exact fun p r h => Qwq hF _ p r (ih p r h)
theorem Qbw {F : (Packed → Option α) → Packed → Option α} (hF : Mono F) (p : Packed) (r : α) : loopK F p = some r ↔ ∃ n, loopN F n p = some r := by
  unfold loopK
  split
  · rename_i h
    constructor
    · intro e
      cases e
      exact ⟨_, h.choose_spec.choose_spec⟩
    · rintro ⟨n, hn⟩
      have h2 := h.choose_spec.choose_spec
      have a1 := Qmv hF (Nat.le_max_left n h.choose) p r hn
      have a2 := Qmv hF (Nat.le_max_right n h.choose) p _ h2
      rw [a1] at a2
      exact a2.symm
  · rename_i h
    constructor
    · intro e; cases e
    · rintro ⟨n, hn⟩; exact absurd ⟨n, r, hn⟩ h
theorem Qwp {F : (Packed → Option α) → Packed → Option α} (hF : Mono F) (hC : ∀ p r, F (loopK F) p = some r → ∃ n, F (loopN F n) p = some r) (p : Packed) : loopK F p = F (loopK F) p := by
  have key : ∀ r, loopK F p = some r ↔ F (loopK F) p = some r := fun r => by
    rw [Qbw hF]
    constructor
    · rintro ⟨n, hn⟩
      cases n with
      | zero => cases hn
      | succ n => exact hF _ _ (fun p r h => (Qbw hF p r).2 ⟨n, h⟩) p r hn
    · intro h
      obtain ⟨n, hn⟩ := hC p r h
      exact ⟨n + 1, hn⟩
  cases h1 : loopK F p with
  | some r => exact ((key r).1 h1).symm
  | none =>
    cases h2 : F (loopK F) p with
    | none => rfl
    | some r => rw [(key r).2 h2] at h1; cases h1
theorem Qgk (op : AOp) (fr : Frm) (Γ : Hp) : Reach (fun K : D × Cn → Option α => op.make E fr Γ fun d c => K (d, c)) := by
  cases op with
  | alloc nm z => exact Reach.ret _
  | mkslice nm k bytes z l c => exact Reach.dInt _ fun l => Reach.dInt _ fun c => Reach.ite _ (Reach.ret _) Reach.none
  | callF nm tup ss r args =>
    refine Reach.bind _ fun us => Reach.bind _ fun u => ?_
    split
    · simp only [Qba]
      exact Reach.noTup _ fun u => Reach.bind _ fun x => Reach.ret _
    · simp only [Qbb]
      exact Reach.asTup _ fun us => Reach.bind _ fun x => Reach.ret _
    · exact Reach.none
  | _ => exact Reach.none
theorem Qo1 (op : AOp) : (∃ fl r args, op = .call fl r args) ∨ (∃ fl f args, op = .callv fl f args) ∨ (∃ k x i, op = .iaddr k x i) ∨ ∀ (E : Env) (fr : Frm) (Γ : Hp) (K : Eff → Option α), op.stepQ E fr Γ K = op.step E fr Γ K := by
  cases op <;> first | exact .inl ⟨_, _, _, rfl⟩ | exact .inr (.inl ⟨_, _, _, rfl⟩) | exact .inr (.inr (.inl ⟨_, _, _, rfl⟩)) | exact .inr (.inr (.inr fun _ _ _ _ => rfl))
theorem Qo2 (op : AOp) (fr : Frm) (Γ : Hp) : Reach (fun K : Eff → Option α => op.stepQ E fr Γ K) := by
  rcases Qo1 (α := α) op with ⟨fl, r, args, rfl⟩ | ⟨fl, f, args, rfl⟩ | ⟨k, x, i, rfl⟩ | h
  · exact Reach.bind _ fun us => Reach.bind _ fun u => Qa6 fl u
  · exact Reach.ite _ (Qay E _ fr Γ) Reach.none
  · exact Reach.ite _ (Qay E _ fr Γ) Reach.none
  · have e : (fun K : Eff → Option α => op.stepQ E fr Γ K) = fun K => op.step E fr Γ K := funext (h E fr Γ)
    rw [e]
    exact Qay E op fr Γ
theorem Qgy (op : AOp) (fr : Frm) : Reach (fun K : D → Option α => op.putD fr K) := by
  cases op with
  | storeN nm size a x =>
    simp only [AOp.putD]
    split
    · refine Reach.ite _ ?_ Reach.none
      split
      · exact Reach.noTup _ fun u => Reach.ite _ (Reach.ret _) Reach.none
      · exact Reach.ite _ (Reach.ret _) Reach.none
    · exact Reach.none
  | _ => exact Reach.none
theorem Qfk (f : (Eff → Option α) → Option α) (hf : Reach f) : Reach (fun K : D → Option α => f (Eff.value K)) := fun K r h => by
  obtain ⟨e, h1, h2⟩ := hf _ r h
  cases e with
  | v d => exact ⟨d, h1, fun K' h' => h2 _ h'⟩
  | vnew u => exact ⟨_, h1, fun K' h' => h2 _ h'⟩
  | cl fl u => exact ⟨_, h1, fun K' h' => h2 _ h'⟩
  | st ms d g => cases h1
theorem Qi6 (T : List Nat) (Γ : Hp) : ∀ (os : List AOper) (fr : Frm), Reach (fun K : Frm → Option α => execV E T Γ os fr K)
  | [], fr => Reach.ret _
  | o :: os, fr => by
    simp only [execV]
    split
    · rename_i x _ _
      refine Reach.ite _ ?_ Reach.none
      exact Reach.then (Qfk _ (Qay E o.op fr Γ)) (g := fun (d : D) (K : Frm → Option α) => if calm T d = true then execV E T Γ os (fr.put (some x) d) K else none) fun d => Reach.ite _ (Qi6 T Γ os _) Reach.none
    · exact Reach.none
theorem Qi4 (T : List Nat) : ∀ (os : List AOper) (s : St), Reach (fun K : St → Option α => execC E T os s K)
  | [], s => Reach.ret _
  | o :: os, s => Reach.ite _ ((Qm9 E false o s).then fun s' => Qi4 T os s') Reach.none
theorem Qel (Γ0 : Hp) : ∀ (os : List AOper) (s : St) (acc : List D), Reach (fun K : List D × St → Option α => execN E Γ0 os s acc fun ds s => K (ds, s))
  | [], s, acc => Reach.ret _
  | o :: os, s, acc => by
    simp only [execN]
    split
    · exact Reach.none
    · split
      · rename_i nm _
        exact Reach.ite _ (Reach.then (Qgk E o.op s.fr Γ0) (g := fun (x : D × Cn) (K : List D × St → Option α) => execN E Γ0 os ⟨s.fr.put o.dst x.1, upd s.Γ nm (some x.2)⟩ (acc ++ [x.1]) fun ds s => K (ds, s)) fun x => Qel Γ0 os _ _) Reach.none
      · split
        · rename_i nm _
          split
          · exact Reach.then (Qgy o.op s.fr) (g := fun (d : D) (K : List D × St → Option α) => execN E Γ0 os ⟨s.fr.put none d, upd s.Γ nm (some (.box d))⟩ (acc ++ [d]) fun ds s => K (ds, s)) fun d => Qel Γ0 os _ _
          · exact Reach.none
        · exact Reach.then (Qfk _ (Qo2 E o.op s.fr s.Γ)) (g := fun (d : D) (K : List D × St → Option α) => execN E Γ0 os ⟨s.fr.put o.dst d, s.Γ⟩ (acc ++ [d]) fun ds s => K (ds, s)) fun d => Qel Γ0 os _ _
noncomputable def roundOf (l : Live) (c : AC) (K : Ex → St → Option α) (rec : Packed → Option α) (p : Packed) : Option α :=
  exec E c (unpack l p) (roundK l rec K)
def Reach2 (f : (Ex → St → Option α) → Option α) : Prop := ∀ K r, f K = some r → ∃ e s, K e s = some r ∧ ∀ K', K' e s = some r → f K' = some r
theorem Qms (c : Inl) (e : Ex) (s : St) : Reach (fun K : St → Option α => c.leave K e s) := by
  cases e with
  | exit id => exact Reach.none
  | normal =>
    simp only [Inl.leave]
    split
    · exact Reach.ite _ (Reach.ret _) Reach.none
    · exact Reach.ite _ (Reach.ret _) Reach.none
  | ret =>
    simp only [Inl.leave]
    split
    · exact Reach.ite _ (Reach.ret _) Reach.none
    · exact Reach.ite _ (Reach.ret _) Reach.none
theorem Qck {c : AC} (hc : ∀ s, Reach2 (fun K : Ex → St → Option α => exec E c s K)) (l : Live) (K : Ex → St → Option α) : Mono (roundOf E l c K) := fun g g' hg p r h => by
  obtain ⟨e, s, h1, h2⟩ := hc _ _ _ h
  refine h2 _ ?_
  cases e with
  | normal =>
    simp only [roundK, Qaw] at h1 ⊢
    cases hp : packO l s with
    | none => rw [hp] at h1; cases h1
    | some q => rw [hp] at h1; exact hg _ _ h1
  | _ => exact h1
theorem Qxw {c : AC} (hc : ∀ s, Reach2 (fun K : Ex → St → Option α => exec E c s K)) (l : Live) (K : Ex → St → Option α) :
    ∀ p r, roundOf E l c K (loopK (roundOf E l c K)) p = some r → ∃ n, roundOf E l c K (loopN (roundOf E l c K) n) p = some r := fun p r h => by
  obtain ⟨e, s, h1, h2⟩ := hc _ _ _ h
  cases e with
  | normal =>
    simp only [roundK, Qaw] at h1
    cases hp : packO l s with
    | none => rw [hp] at h1; cases h1
    | some q =>
      rw [hp] at h1
      obtain ⟨n, hn⟩ := (Qbw (Qck E hc l K) q r).1 h1
      exact ⟨n, h2 _ (by simp only [roundK, Qaw, hp]; exact hn)⟩
  | _ => exact ⟨0, h2 _ h1⟩
theorem Qbs (c : AC) : ∀ s, Reach2 (fun K : Ex → St → Option α => exec E c s K) := by
  induction c with
  | skip => exact fun s K r h => ⟨_, _, h, fun _ h => h⟩
  | exit id => exact fun s K r h => ⟨_, _, h, fun _ h => h⟩
  | ret => exact fun s K r h => ⟨_, _, h, fun _ h => h⟩
  | region dr ops =>
    intro s K r h
    obtain ⟨s', h1, h2⟩ := ((Qcf (α := α) E true (ops.take dr) s).then fun s' => Qcf E false (ops.drop dr) s') (K .normal) r h
    exact ⟨_, s', h1, fun K' h => h2 (K' .normal) h⟩
  | regC k T ops =>
    intro s K r h
    obtain ⟨fr, h1, h2⟩ := Qi6 (α := α) E T s.Γ (stills (ops.take k)) (blank (stills (ops.take k)) s.fr) (fun fr => execC E T (chain (ops.take k)) ⟨fr, s.Γ⟩ fun s => execOps false E (ops.drop k) s (K .normal)) r h
    obtain ⟨s', h3, h4⟩ := ((Qi4 (α := α) E T (chain (ops.take k)) ⟨fr, s.Γ⟩).then fun s => Qcf E false (ops.drop k) s) (K .normal) r h1
    exact ⟨_, s', h3, fun K' h' => h2 (fun fr => execC E T (chain (ops.take k)) ⟨fr, s.Γ⟩ fun s => execOps false E (ops.drop k) s (K' .normal)) (h4 (K' .normal) h')⟩
  | regD k T prs slots names ops =>
    intro s K r h
    obtain ⟨p, h1, h2⟩ := Option.bind_eq_some_iff.1 h
    obtain ⟨s', h3, h4⟩ := Qcf (α := α) E false (ops.drop k) (unpackS slots names p) (K .normal) r h2
    exact ⟨_, s', h3, fun K' h' => Option.bind_eq_some_iff.2 ⟨p, h1, h4 (K' .normal) h'⟩⟩
  | regN k N prs ps ops =>
    intro s K r h
    obtain ⟨x, h1, h2⟩ := (Qel (α := α) E (forget N s).Γ (ops.take k) (forget N s) []) (fun x => if pairsB prs x.1 = true ∧ apartN N (evs x.2.fr ps) = true then execOps false E (ops.drop k) x.2 (K .normal) else none) r h
    split at h1
    rotate_left
    · cases h1
    rename_i hc
    obtain ⟨s', h3, h4⟩ := (Qcf (α := α) E false (ops.drop k) x.2) (K .normal) r h1
    exact ⟨_, s', h3, fun K' h' => h2 (fun x => if pairsB prs x.1 = true ∧ apartN N (evs x.2.fr ps) = true then execOps false E (ops.drop k) x.2 (K' .normal) else none) (by rw [if_pos hc]; exact h4 (K' .normal) h')⟩
  | regI k ops c body more ihb ihm =>
    intro s K r h
    obtain ⟨s1, h1, h2⟩ := ((Qcf (α := α) E true (ops.take k) s).then fun s' => Qcf E false (ops.drop k) s') _ r h
    obtain ⟨e, s2, h3, h4⟩ := ihb _ _ r h1
    obtain ⟨s3, h5, h6⟩ := Qms c e s2 _ r h3
    obtain ⟨e2, s4, h7, h8⟩ := ihm s3 _ r h5
    exact ⟨e2, s4, h7, fun K' hr => h2 (fun s => exec E body (c.enter s) (c.leave fun s => exec E more s K')) (h4 (c.leave fun s => exec E more s K') (h6 (fun s => exec E more s K') (h8 K' hr)))⟩
  | seq a b iha ihb =>
    intro s K r h
    obtain ⟨e, s', h1, h2⟩ := iha s _ r h
    cases e with
    | normal =>
      obtain ⟨e2, s2, h3, h4⟩ := ihb s' K r h1
      exact ⟨e2, s2, h3, fun K' hr => h2 (seqK (fun s' => exec E b s' K') K') (h4 K' hr)⟩
    | exit id => exact ⟨_, s', h1, fun K' hr => h2 (seqK (fun s' => exec E b s' K') K') hr⟩
    | ret => exact ⟨_, s', h1, fun K' hr => h2 (seqK (fun s' => exec E b s' K') K') hr⟩
  | cond x a b iha ihb =>
    intro s K r h
    simp only [exec] at h ⊢
    cases hx : x.ev s.fr with
    | val u =>
      simp only [hx] at h
      cases u with
      | bool t =>
        cases t with
        | true => exact iha s K r h
        | false => exact ihb s K r h
      | _ => cases h
    | _ => simp only [hx] at h; cases h
  | block id c ih =>
    intro s K r h
    obtain ⟨e, s', h1, h2⟩ := ih s _ r h
    cases e with
    | exit id' =>
      by_cases hid : id' = id
      · simp only [blockK, hid, if_true] at h1
        exact ⟨_, s', h1, fun K' hr => h2 (blockK id K') (by simp only [blockK, hid, if_true]; exact hr)⟩
      · simp only [blockK, hid, if_false] at h1
        exact ⟨_, s', h1, fun K' hr => h2 (blockK id K') (by simp only [blockK, hid, if_false]; exact hr)⟩
    | normal => exact ⟨_, s', h1, fun K' hr => h2 (blockK id K') hr⟩
    | ret => exact ⟨_, s', h1, fun K' hr => h2 (blockK id K') hr⟩
  | loopU n c ih =>
    intro s K r h
    have key : ∀ n s, iterU (fun s K => exec E c s K) K n s = some r → ∃ e s', K e s' = some r ∧ ∀ K', K' e s' = some r → iterU (fun s K => exec E c s K) K' n s = some r := by
      intro n
      induction n with
      | zero => intro s h; cases h
      | succ n ihn =>
        intro s h
        obtain ⟨e, s1, h1, h2⟩ := ih _ _ _ h
        cases e with
        | normal =>
          obtain ⟨e2, s2, h3, h4⟩ := ihn s1 h1
          exact ⟨e2, s2, h3, fun K' hr => h2 (seqK (iterU (fun s K => exec E c s K) K' n) K') (h4 K' hr)⟩
        | exit id => exact ⟨_, s1, h1, fun K' hr => h2 (seqK (iterU (fun s K => exec E c s K) K' n) K') hr⟩
        | ret => exact ⟨_, s1, h1, fun K' hr => h2 (seqK (iterU (fun s K => exec E c s K) K' n) K') hr⟩
    exact key n s h
  | loop l c ih =>
    intro s K r h
    have e1 : ∀ K : Ex → St → Option α, exec E (.loop l c) s K = (packO l s).bind (loopK (roundOf E l c K)) := fun K => (Qaw l s (loopK (roundOf E l c K)))
    replace h := (e1 K).symm.trans h
    cases hp : packO l s with
    | none => rw [hp] at h; cases h
    | some p =>
      rw [hp] at h
      obtain ⟨n, hn⟩ := (Qbw (Qck E ih l K) p r).1 h
      have key : ∀ n p, loopN (roundOf E l c K) n p = some r → ∃ e s', K e s' = some r ∧ ∀ K', K' e s' = some r → ∃ m, loopN (roundOf E l c K') m p = some r := by
        intro n
        induction n with
        | zero => intro p h; cases h
        | succ n ihn =>
          intro p h
          obtain ⟨e, s1, h1, h2⟩ := ih _ _ _ h
          cases e with
          | normal =>
            simp only [roundK, Qaw] at h1
            cases hq : packO l s1 with
            | none => rw [hq] at h1; cases h1
            | some q =>
              rw [hq] at h1
              obtain ⟨e2, s2, h3, h4⟩ := ihn q h1
              refine ⟨e2, s2, h3, fun K' hr => ?_⟩
              obtain ⟨m, hm⟩ := h4 K' hr
              exact ⟨m + 1, h2 (roundK l (loopN (roundOf E l c K') m) K') (by simp only [roundK, Qaw, hq]; exact hm)⟩
          | exit id => exact ⟨_, s1, h1, fun K' hr => ⟨1, h2 (roundK l (loopN (roundOf E l c K') 0) K') hr⟩⟩
          | ret => exact ⟨_, s1, h1, fun K' hr => ⟨1, h2 (roundK l (loopN (roundOf E l c K') 0) K') hr⟩⟩
      obtain ⟨e, s', h3, h4⟩ := key n p hn
      refine ⟨e, s', h3, fun K' hr => ?_⟩
      obtain ⟨m, hm⟩ := h4 K' hr
      show exec E (.loop l c) s K' = some r
      rw [e1, hp]
      exact (Qbw (Qck E ih l K') p r).2 ⟨m, hm⟩
theorem Qf (l : Live) (c : AC) (K : Ex → St → Option α) (p : Packed) : loopK (roundOf E l c K) p = roundOf E l c K (loopK (roundOf E l c K)) p :=
  Qwp (Qck E (Qbs E c) l K) (Qxw E (Qbs E c) l K) p
end
end Go.Proofs.Ytboenehajoaahaa.Am
