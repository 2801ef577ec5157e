import Derived.KernelRfl
import Derived.Test.YtfdcdbkblkehcaaAmW
import Derived.Test.YtfdcdbkblkehcaaEqualNodesF0
namespace Go.Proofs.Ytfdcdbkblkehcaa.Am
open Go
set_option linter.unusedVariables false
set_option maxRecDepth 100000

/- slices.EqualFunc[[][]loop.example/g01924/impl.Version,[][]loop.example/g01924/impl.Version,[]loop.example/g01924/impl.Version,[]loop.example/g01924/impl.Version] -/
def slices_EqualFunc_g274_b0 : AC :=
 (.seq (.region 0 [⟨some 18, .bin .lss (.t 17) (.t 16), none⟩])
 (.seq (.cond (.t 18) .skip (.exit 0))
 (.seq (.block 1 (.seq (.region 0 [⟨some 19, .mv (.t 17), none⟩,
  ⟨some 20, .iaddr 1 (.t 15) (.t 17), none⟩,
  ⟨some 21, .load false 1 (.t 20), none⟩,
  ⟨some 7, .mv (.t 19), none⟩,
  ⟨some 8, .mv (.t 21), none⟩])
 (.seq (.region 0 [⟨some 22, .mv (.t 1), none⟩,
  ⟨some 23, .mv (.t 7), none⟩,
  ⟨some 24, .iaddr 1 (.t 22) (.t 23), none⟩,
  ⟨some 25, .load false 1 (.t 24), none⟩,
  ⟨some 9, .mv (.t 25), none⟩])
 (.seq (.region 0 [⟨some 26, .mv (.t 2), none⟩,
  ⟨some 27, .mv (.t 8), none⟩,
  ⟨some 28, .mv (.t 9), none⟩,
  ⟨some 29, .callv false (.t 26) [(.t 27), (.t 28)], none⟩,
  ⟨some 30, .un .not (.t 29), none⟩])
 (.cond (.t 30) (.seq (.region 0 [⟨some 6, .mv (.c (.bool false)), none⟩])
 .ret) .skip)))))
 (.region 0 [⟨some 31, .bin .add (.t 17) (.c (.int .i64 1)), none⟩,
  ⟨some 17, .mv (.t 31), none⟩]))))
def slices_EqualFunc_g274_r0 : AC :=
 (.seq (.region 0 [⟨some 6, .mv (.c (.bool true)), none⟩])
 .ret)
def slices_EqualFunc_g274_ac : AC :=
 (.seq (.region 0 [⟨some 6, .mv (.c (.bool false)), none⟩])
 (.seq (.seq (.region 0 [⟨some 10, .mv (.t 0), none⟩,
  ⟨some 11, .len false (.t 10), none⟩,
  ⟨some 12, .mv (.t 1), none⟩,
  ⟨some 13, .len false (.t 12), none⟩,
  ⟨some 14, .bin .neq (.t 11) (.t 13), none⟩])
 (.cond (.t 14) (.seq (.region 0 [⟨some 6, .mv (.c (.bool false)), none⟩])
 .ret) .skip))
 (.seq (.seq (.region 0 [⟨some 15, .mv (.t 0), none⟩,
  ⟨some 16, .len false (.t 15), none⟩,
  ⟨some 17, .mv (.c (.int .i64 0)), none⟩])
 (.block 0 (.loop ⟨[1, 2, 15, 16, 17], [], []⟩ slices_EqualFunc_g274_b0)))
 slices_EqualFunc_g274_r0)))
noncomputable def slices_EqualFunc_g274_l0 (E : Env) (x1 : U) (x2 : U) (x15 : U) (x16 : U) (x17 : U) : Option U := loopK (roundOf E ⟨[1, 2, 15, 16, 17], [], []⟩ slices_EqualFunc_g274_b0 (blockK 0 (seqK (fun s => exec E slices_EqualFunc_g274_r0 s (finish [(6, none)])) (finish [(6, none)])))) ([.val x1, .val x2, .val x15, .val x16, .val x17], [])
theorem slices_EqualFunc_g274_eq (E : Env) (a0 : U) (a1 : U) (a2 : U) : run E slices_EqualFunc_g274_ac [(6, none)] [a0, a1, a2] =
 (U.lenOf false a0).bind fun n1 => (U.lenOf false a1).bind fun n2 => (U.bin .neq (.int .i64 (n1 : Int)) (.int .i64 (n2 : Int))).bind fun t3 => U.asBool t3
 (some (.bool false))
 ((U.lenOf false a0).bind fun n4 => slices_EqualFunc_g274_l0 E a1 a2 a0 (.int .i64 (n4 : Int)) (.int .i64 0)) := by kernel_rfl
theorem slices_EqualFunc_g274_l0_eq (E : Env) (x1 : U) (x2 : U) (x15 : U) (x16 : U) (x17 : U) : slices_EqualFunc_g274_l0 E x1 x2 x15 x16 x17 =
 (U.bin .lss x17 x16).bind fun t5 => U.asBool t5
 (U.asInt x17 fun n6 => U.elemAt 1 x15 n6 fun e7 => U.asVar false 1 e7 fun e8 => U.asInt x17 fun n9 => U.elemAt 1 x1 n9 fun e10 => U.asVar false 1 e10 fun e11 => U.asFn x2 fun r12 caps13 => (E r12 ([e8, e11] ++ caps13)).bind fun t14 => (U.un .not t14).bind fun t15 => U.asBool t15
 (some (.bool false))
 ((U.bin .add x17 (.int .i64 1)).bind fun t16 => slices_EqualFunc_g274_l0 E x1 x2 x15 x16 t16))
 (some (.bool true)) :=
 (loop_eq E _ _ _ _).trans (by kernel_rfl)

/-- In the environment E: this function and those that it calls. -/
structure G_slices_EqualFunc_g274 (E : Env) : Prop where
  is : Is E 274 3 slices_EqualFunc_g274_ac [(6, none)]
theorem slices_EqualFunc_g274_E {E : Env} (h : G_slices_EqualFunc_g274 E) (a0 a1 a2 : U) : E 274 [a0, a1, a2] =
 (U.lenOf false a0).bind fun n1 => (U.lenOf false a1).bind fun n2 => (U.bin .neq (.int .i64 (n1 : Int)) (.int .i64 (n2 : Int))).bind fun t3 => U.asBool t3
 (some (.bool false))
 ((U.lenOf false a0).bind fun n4 => slices_EqualFunc_g274_l0 E a1 a2 a0 (.int .i64 (n4 : Int)) (.int .i64 0)) := (h.is _ rfl).trans (slices_EqualFunc_g274_eq E a0 a1 a2)

end Go.Proofs.Ytfdcdbkblkehcaa.Am
namespace Go.Proofs.Ytfdcdbkblkehcaa.Am
open Go
set_option linter.unusedVariables false
set_option maxRecDepth 100000

/- slices.Equal[[]loop.example/g01924/impl.Version,loop.example/g01924/impl.Version] -/
def slices_Equal_g275_b0 : AC :=
 (.seq (.region 0 [⟨some 14, .bin .lss (.t 13) (.t 12), none⟩])
 (.seq (.cond (.t 14) .skip (.exit 0))
 (.seq (.block 1 (.seq (.region 0 [⟨some 15, .mv (.t 13), none⟩,
  ⟨some 5, .mv (.t 15), none⟩])
 (.seq (.region 9 [⟨some 16, .mv (.t 0), none⟩,
  ⟨some 17, .mv (.t 5), none⟩,
  ⟨some 18, .iaddr 5 (.t 16) (.t 17), none⟩,
  ⟨some 19, .load true 5 (.t 18), none⟩,
  ⟨some 20, .mv (.t 1), none⟩,
  ⟨some 21, .mv (.t 5), none⟩,
  ⟨some 22, .iaddr 5 (.t 20) (.t 21), none⟩,
  ⟨some 23, .load true 5 (.t 22), none⟩,
  ⟨some 24, .eqv true 7 (.t 19) (.t 23), none⟩])
 (.cond (.t 24) (.seq (.region 0 [⟨some 4, .mv (.c (.bool false)), none⟩])
 .ret) .skip))))
 (.region 0 [⟨some 25, .bin .add (.t 13) (.c (.int .i64 1)), none⟩,
  ⟨some 13, .mv (.t 25), none⟩]))))
def slices_Equal_g275_r0 : AC :=
 (.seq (.region 0 [⟨some 4, .mv (.c (.bool true)), none⟩])
 .ret)
def slices_Equal_g275_ac : AC :=
 (.seq (.region 0 [⟨some 4, .mv (.c (.bool false)), none⟩])
 (.seq (.seq (.region 0 [⟨some 6, .mv (.t 0), none⟩,
  ⟨some 7, .len false (.t 6), none⟩,
  ⟨some 8, .mv (.t 1), none⟩,
  ⟨some 9, .len false (.t 8), none⟩,
  ⟨some 10, .bin .neq (.t 7) (.t 9), none⟩])
 (.cond (.t 10) (.seq (.region 0 [⟨some 4, .mv (.c (.bool false)), none⟩])
 .ret) .skip))
 (.seq (.seq (.region 0 [⟨some 11, .mv (.t 0), none⟩,
  ⟨some 12, .len false (.t 11), none⟩,
  ⟨some 13, .mv (.c (.int .i64 0)), none⟩])
 (.block 0 (.loop ⟨[0, 1, 12, 13], [], []⟩ slices_Equal_g275_b0)))
 slices_Equal_g275_r0)))
noncomputable def slices_Equal_g275_l0 (E : Env) (x0 : U) (x1 : U) (x12 : U) (x13 : U) : Option U := loopK (roundOf E ⟨[0, 1, 12, 13], [], []⟩ slices_Equal_g275_b0 (blockK 0 (seqK (fun s => exec E slices_Equal_g275_r0 s (finish [(4, none)])) (finish [(4, none)])))) ([.val x0, .val x1, .val x12, .val x13], [])
theorem slices_Equal_g275_eq (E : Env) (a0 : U) (a1 : U) : run E slices_Equal_g275_ac [(4, none)] [a0, a1] =
 (U.lenOf false a0).bind fun n1 => (U.lenOf false a1).bind fun n2 => (U.bin .neq (.int .i64 (n1 : Int)) (.int .i64 (n2 : Int))).bind fun t3 => U.asBool t3
 (some (.bool false))
 ((U.lenOf false a0).bind fun n4 => slices_Equal_g275_l0 E a0 a1 (.int .i64 (n4 : Int)) (.int .i64 0)) := by kernel_rfl
theorem slices_Equal_g275_l0_eq (E : Env) (x0 : U) (x1 : U) (x12 : U) (x13 : U) : slices_Equal_g275_l0 E x0 x1 x12 x13 =
 (U.bin .lss x13 x12).bind fun t5 => U.asBool t5
 (U.asInt x13 fun n6 => U.elemAt 5 x0 n6 fun e7 => U.asVar true 5 e7 fun e8 => U.asInt x13 fun n9 => U.elemAt 5 x1 n9 fun e10 => U.asVar true 5 e10 fun e11 => (U.eqv 7 e8 e11).bind fun q12 => U.asBool (.bool (!q12))
 (some (.bool false))
 ((U.bin .add x13 (.int .i64 1)).bind fun t13 => slices_Equal_g275_l0 E x0 x1 x12 t13))
 (some (.bool true)) :=
 (loop_eq E _ _ _ _).trans (by kernel_rfl)

/-- In the environment E: this function and those that it calls. -/
structure G_slices_Equal_g275 (E : Env) : Prop where
  is : Is E 275 2 slices_Equal_g275_ac [(4, none)]
theorem slices_Equal_g275_E {E : Env} (h : G_slices_Equal_g275 E) (a0 a1 : U) : E 275 [a0, a1] =
 (U.lenOf false a0).bind fun n1 => (U.lenOf false a1).bind fun n2 => (U.bin .neq (.int .i64 (n1 : Int)) (.int .i64 (n2 : Int))).bind fun t3 => U.asBool t3
 (some (.bool false))
 ((U.lenOf false a0).bind fun n4 => slices_Equal_g275_l0 E a0 a1 (.int .i64 (n4 : Int)) (.int .i64 0)) := (h.is _ rfl).trans (slices_Equal_g275_eq E a0 a1)

end Go.Proofs.Ytfdcdbkblkehcaa.Am
namespace Go.Proofs.Ytfdcdbkblkehcaa.Am
open Go
set_option linter.unusedVariables false
set_option maxRecDepth 100000

/- loop.example/g01924/impl.EqualChains -/
def impl_EqualChains_ac : AC :=
 (.seq (.region 0 [⟨some 4, .mv (.c (.bool false)), none⟩])
 (.seq (.region 0 [⟨some 5, .mv (.t 0), none⟩,
  ⟨some 6, .mv (.t 1), none⟩,
  ⟨some 7, .call false 275 [(.t 5), (.t 6)], none⟩,
  ⟨some 4, .mv (.t 7), none⟩])
 .ret))

theorem impl_EqualChains_eq (E : Env) (a0 : U) (a1 : U) : run E impl_EqualChains_ac [(4, none)] [a0, a1] =
 (E 275 [a0, a1]).bind fun t1 => some t1 := by kernel_rfl

/-- In the environment E: this function and those that it calls. -/
structure G_impl_EqualChains (E : Env) : Prop where
  is : Is E 273 2 impl_EqualChains_ac [(4, none)]
  c_slices_Equal_g275 : G_slices_Equal_g275 E
theorem impl_EqualChains_E {E : Env} (h : G_impl_EqualChains E) (a0 a1 : U) : E 273 [a0, a1] =
 (E 275 [a0, a1]).bind fun t1 => some t1 := (h.is _ rfl).trans (impl_EqualChains_eq E a0 a1)

end Go.Proofs.Ytfdcdbkblkehcaa.Am
namespace Go.Proofs.Ytfdcdbkblkehcaa.Am
open Go
set_option linter.unusedVariables false
set_option maxRecDepth 100000

/- loop.example/g01924/impl.EqualStores -/
def impl_EqualStores_ac : AC :=
 (.seq (.region 0 [⟨some 2, .box false (.t 0), none⟩,
  ⟨some 3, .box false (.t 1), none⟩,
  ⟨some 4, .mv (.c (.bool false)), none⟩])
 (.seq (.region 0 [⟨some 5, .faddr 0 0 (.t 2), none⟩,
  ⟨some 6, .load false 1 (.t 5), none⟩,
  ⟨some 7, .faddr 0 0 (.t 3), none⟩,
  ⟨some 8, .load false 1 (.t 7), none⟩,
  ⟨some 9, .call false 274 [(.t 6), (.t 8), (.c (.fn 273 []))], none⟩,
  ⟨some 4, .mv (.t 9), none⟩])
 .ret))

theorem impl_EqualStores_eq (E : Env) (a0 : U) (a1 : U) : run E impl_EqualStores_ac [(4, none)] [a0, a1] =
 U.noTup a0 fun x1 => U.noTup a1 fun x2 => U.asAgg x1 fun us3 => if 0 = sizes (us3.take 0) then (us3[0]?).bind fun e4 => U.asVar false 1 e4 fun e5 => U.asAgg x2 fun us6 => if 0 = sizes (us6.take 0) then (us6[0]?).bind fun e7 => U.asVar false 1 e7 fun e8 => (E 274 [e5, e8, (.fn 273 [])]).bind fun t9 => some t9 else none else none := by kernel_rfl

/-- In the environment E: this function and those that it calls. -/
structure G_impl_EqualStores (E : Env) : Prop where
  is : Is E 268 2 impl_EqualStores_ac [(4, none)]
  c_slices_EqualFunc_g274 : G_slices_EqualFunc_g274 E
  c_impl_EqualChains : G_impl_EqualChains E
theorem impl_EqualStores_E {E : Env} (h : G_impl_EqualStores E) (a0 a1 : U) : E 268 [a0, a1] =
 U.noTup a0 fun x1 => U.noTup a1 fun x2 => U.asAgg x1 fun us3 => if 0 = sizes (us3.take 0) then (us3[0]?).bind fun e4 => U.asVar false 1 e4 fun e5 => U.asAgg x2 fun us6 => if 0 = sizes (us6.take 0) then (us6[0]?).bind fun e7 => U.asVar false 1 e7 fun e8 => (E 274 [e5, e8, (.fn 273 [])]).bind fun t9 => some t9 else none else none := (h.is _ rfl).trans (impl_EqualStores_eq E a0 a1)

end Go.Proofs.Ytfdcdbkblkehcaa.Am
namespace Go.Proofs.Ytfdcdbkblkehcaa.Am
open Go
set_option linter.unusedVariables false
set_option maxRecDepth 100000

/- slices.EqualFunc[[]loop.example/g01924/impl.Transaction,[]loop.example/g01924/impl.Transaction,loop.example/g01924/impl.Transaction,loop.example/g01924/impl.Transaction] -/
def slices_EqualFunc_g270_b0 : AC :=
 (.seq (.region 0 [⟨some 18, .bin .lss (.t 17) (.t 16), none⟩])
 (.seq (.cond (.t 18) .skip (.exit 0))
 (.seq (.block 1 (.seq (.region 0 [⟨some 19, .mv (.t 17), none⟩,
  ⟨some 20, .iaddr 9 (.t 15) (.t 17), none⟩,
  ⟨some 21, .load true 9 (.t 20), none⟩,
  ⟨some 8, .alloc (.agg [(.int .i64 0), (.int .i64 0), (.int .i64 0), (.int .i64 0), (.int .i64 0), (.int .i64 0), (.int .i64 0), (.nsl 2), (.nsl 2)]), none⟩,
  ⟨some 7, .mv (.t 19), none⟩,
  ⟨none, .store 9 (.t 8) (.t 21), none⟩])
 (.seq (.region 0 [⟨some 22, .mv (.t 1), none⟩,
  ⟨some 23, .mv (.t 7), none⟩,
  ⟨some 24, .iaddr 9 (.t 22) (.t 23), none⟩,
  ⟨some 25, .load true 9 (.t 24), none⟩,
  ⟨some 9, .alloc (.agg [(.int .i64 0), (.int .i64 0), (.int .i64 0), (.int .i64 0), (.int .i64 0), (.int .i64 0), (.int .i64 0), (.nsl 2), (.nsl 2)]), none⟩,
  ⟨none, .store 9 (.t 9) (.t 25), none⟩])
 (.seq (.region 0 [⟨some 26, .mv (.t 2), none⟩,
  ⟨some 27, .load true 9 (.t 8), none⟩,
  ⟨some 28, .load true 9 (.t 9), none⟩,
  ⟨some 29, .callv false (.t 26) [(.t 27), (.t 28)], none⟩,
  ⟨some 30, .un .not (.t 29), none⟩])
 (.cond (.t 30) (.seq (.region 0 [⟨some 6, .mv (.c (.bool false)), none⟩])
 .ret) .skip)))))
 (.region 0 [⟨some 31, .bin .add (.t 17) (.c (.int .i64 1)), none⟩,
  ⟨some 17, .mv (.t 31), none⟩]))))
def slices_EqualFunc_g270_r0 : AC :=
 (.seq (.region 0 [⟨some 6, .mv (.c (.bool true)), none⟩])
 .ret)
def slices_EqualFunc_g270_ac : AC :=
 (.seq (.region 0 [⟨some 6, .mv (.c (.bool false)), none⟩])
 (.seq (.seq (.region 0 [⟨some 10, .mv (.t 0), none⟩,
  ⟨some 11, .len false (.t 10), none⟩,
  ⟨some 12, .mv (.t 1), none⟩,
  ⟨some 13, .len false (.t 12), none⟩,
  ⟨some 14, .bin .neq (.t 11) (.t 13), none⟩])
 (.cond (.t 14) (.seq (.region 0 [⟨some 6, .mv (.c (.bool false)), none⟩])
 .ret) .skip))
 (.seq (.seq (.region 0 [⟨some 15, .mv (.t 0), none⟩,
  ⟨some 16, .len false (.t 15), none⟩,
  ⟨some 17, .mv (.c (.int .i64 0)), none⟩])
 (.block 0 (.loop ⟨[1, 2, 15, 16, 17], [], []⟩ slices_EqualFunc_g270_b0)))
 slices_EqualFunc_g270_r0)))
noncomputable def slices_EqualFunc_g270_l0 (E : Env) (x1 : U) (x2 : U) (x15 : U) (x16 : U) (x17 : U) : Option U := loopK (roundOf E ⟨[1, 2, 15, 16, 17], [], []⟩ slices_EqualFunc_g270_b0 (blockK 0 (seqK (fun s => exec E slices_EqualFunc_g270_r0 s (finish [(6, none)])) (finish [(6, none)])))) ([.val x1, .val x2, .val x15, .val x16, .val x17], [])
theorem slices_EqualFunc_g270_eq (E : Env) (a0 : U) (a1 : U) (a2 : U) : run E slices_EqualFunc_g270_ac [(6, none)] [a0, a1, a2] =
 (U.lenOf false a0).bind fun n1 => (U.lenOf false a1).bind fun n2 => (U.bin .neq (.int .i64 (n1 : Int)) (.int .i64 (n2 : Int))).bind fun t3 => U.asBool t3
 (some (.bool false))
 ((U.lenOf false a0).bind fun n4 => slices_EqualFunc_g270_l0 E a1 a2 a0 (.int .i64 (n4 : Int)) (.int .i64 0)) := by kernel_rfl
theorem slices_EqualFunc_g270_l0_eq (E : Env) (x1 : U) (x2 : U) (x15 : U) (x16 : U) (x17 : U) : slices_EqualFunc_g270_l0 E x1 x2 x15 x16 x17 =
 (U.bin .lss x17 x16).bind fun t5 => U.asBool t5
 (U.asInt x17 fun n6 => U.elemAt 9 x15 n6 fun e7 => U.asVar true 9 e7 fun e8 => if storable (.val e8) = true ∧ e8.size = 9 then U.asInt x17 fun n9 => U.elemAt 9 x1 n9 fun e10 => U.asVar true 9 e10 fun e11 => if storable (.val e11) = true ∧ e11.size = 9 then U.asVar true 9 e8 fun e12 => U.asVar true 9 e11 fun e13 => U.asFn x2 fun r14 caps15 => (E r14 ([e12, e13] ++ caps15)).bind fun t16 => (U.un .not t16).bind fun t17 => U.asBool t17
 (some (.bool false))
 ((U.bin .add x17 (.int .i64 1)).bind fun t18 => slices_EqualFunc_g270_l0 E x1 x2 x15 x16 t18) else none else none)
 (some (.bool true)) :=
 (loop_eq E _ _ _ _).trans (by kernel_rfl)

/-- In the environment E: this function and those that it calls. -/
structure G_slices_EqualFunc_g270 (E : Env) : Prop where
  is : Is E 270 3 slices_EqualFunc_g270_ac [(6, none)]
theorem slices_EqualFunc_g270_E {E : Env} (h : G_slices_EqualFunc_g270 E) (a0 a1 a2 : U) : E 270 [a0, a1, a2] =
 (U.lenOf false a0).bind fun n1 => (U.lenOf false a1).bind fun n2 => (U.bin .neq (.int .i64 (n1 : Int)) (.int .i64 (n2 : Int))).bind fun t3 => U.asBool t3
 (some (.bool false))
 ((U.lenOf false a0).bind fun n4 => slices_EqualFunc_g270_l0 E a1 a2 a0 (.int .i64 (n4 : Int)) (.int .i64 0)) := (h.is _ rfl).trans (slices_EqualFunc_g270_eq E a0 a1 a2)

end Go.Proofs.Ytfdcdbkblkehcaa.Am
namespace Go.Proofs.Ytfdcdbkblkehcaa.Am
open Go
set_option linter.unusedVariables false
set_option maxRecDepth 100000

/- slices.Equal[[]loop.example/g01924/impl.ReadMark,loop.example/g01924/impl.ReadMark] -/
def slices_Equal_g31_b0 : AC :=
 (.seq (.region 0 [⟨some 14, .bin .lss (.t 13) (.t 12), none⟩])
 (.seq (.cond (.t 14) .skip (.exit 0))
 (.seq (.block 1 (.seq (.region 0 [⟨some 15, .mv (.t 13), none⟩,
  ⟨some 5, .mv (.t 15), none⟩])
 (.seq (.region 9 [⟨some 16, .mv (.t 0), none⟩,
  ⟨some 17, .mv (.t 5), none⟩,
  ⟨some 18, .iaddr 2 (.t 16) (.t 17), none⟩,
  ⟨some 19, .load true 2 (.t 18), none⟩,
  ⟨some 20, .mv (.t 1), none⟩,
  ⟨some 21, .mv (.t 5), none⟩,
  ⟨some 22, .iaddr 2 (.t 20) (.t 21), none⟩,
  ⟨some 23, .load true 2 (.t 22), none⟩,
  ⟨some 24, .eqv true 4 (.t 19) (.t 23), none⟩])
 (.cond (.t 24) (.seq (.region 0 [⟨some 4, .mv (.c (.bool false)), none⟩])
 .ret) .skip))))
 (.region 0 [⟨some 25, .bin .add (.t 13) (.c (.int .i64 1)), none⟩,
  ⟨some 13, .mv (.t 25), none⟩]))))
def slices_Equal_g31_r0 : AC :=
 (.seq (.region 0 [⟨some 4, .mv (.c (.bool true)), none⟩])
 .ret)
def slices_Equal_g31_ac : AC :=
 (.seq (.region 0 [⟨some 4, .mv (.c (.bool false)), none⟩])
 (.seq (.seq (.region 0 [⟨some 6, .mv (.t 0), none⟩,
  ⟨some 7, .len false (.t 6), none⟩,
  ⟨some 8, .mv (.t 1), none⟩,
  ⟨some 9, .len false (.t 8), none⟩,
  ⟨some 10, .bin .neq (.t 7) (.t 9), none⟩])
 (.cond (.t 10) (.seq (.region 0 [⟨some 4, .mv (.c (.bool false)), none⟩])
 .ret) .skip))
 (.seq (.seq (.region 0 [⟨some 11, .mv (.t 0), none⟩,
  ⟨some 12, .len false (.t 11), none⟩,
  ⟨some 13, .mv (.c (.int .i64 0)), none⟩])
 (.block 0 (.loop ⟨[0, 1, 12, 13], [], []⟩ slices_Equal_g31_b0)))
 slices_Equal_g31_r0)))
noncomputable def slices_Equal_g31_l0 (E : Env) (x0 : U) (x1 : U) (x12 : U) (x13 : U) : Option U := loopK (roundOf E ⟨[0, 1, 12, 13], [], []⟩ slices_Equal_g31_b0 (blockK 0 (seqK (fun s => exec E slices_Equal_g31_r0 s (finish [(4, none)])) (finish [(4, none)])))) ([.val x0, .val x1, .val x12, .val x13], [])
theorem slices_Equal_g31_eq (E : Env) (a0 : U) (a1 : U) : run E slices_Equal_g31_ac [(4, none)] [a0, a1] =
 (U.lenOf false a0).bind fun n1 => (U.lenOf false a1).bind fun n2 => (U.bin .neq (.int .i64 (n1 : Int)) (.int .i64 (n2 : Int))).bind fun t3 => U.asBool t3
 (some (.bool false))
 ((U.lenOf false a0).bind fun n4 => slices_Equal_g31_l0 E a0 a1 (.int .i64 (n4 : Int)) (.int .i64 0)) := by kernel_rfl
theorem slices_Equal_g31_l0_eq (E : Env) (x0 : U) (x1 : U) (x12 : U) (x13 : U) : slices_Equal_g31_l0 E x0 x1 x12 x13 =
 (U.bin .lss x13 x12).bind fun t5 => U.asBool t5
 (U.asInt x13 fun n6 => U.elemAt 2 x0 n6 fun e7 => U.asVar true 2 e7 fun e8 => U.asInt x13 fun n9 => U.elemAt 2 x1 n9 fun e10 => U.asVar true 2 e10 fun e11 => (U.eqv 4 e8 e11).bind fun q12 => U.asBool (.bool (!q12))
 (some (.bool false))
 ((U.bin .add x13 (.int .i64 1)).bind fun t13 => slices_Equal_g31_l0 E x0 x1 x12 t13))
 (some (.bool true)) :=
 (loop_eq E _ _ _ _).trans (by kernel_rfl)

/-- In the environment E: this function and those that it calls. -/
structure G_slices_Equal_g31 (E : Env) : Prop where
  is : Is E 31 2 slices_Equal_g31_ac [(4, none)]
theorem slices_Equal_g31_E {E : Env} (h : G_slices_Equal_g31 E) (a0 a1 : U) : E 31 [a0, a1] =
 (U.lenOf false a0).bind fun n1 => (U.lenOf false a1).bind fun n2 => (U.bin .neq (.int .i64 (n1 : Int)) (.int .i64 (n2 : Int))).bind fun t3 => U.asBool t3
 (some (.bool false))
 ((U.lenOf false a0).bind fun n4 => slices_Equal_g31_l0 E a0 a1 (.int .i64 (n4 : Int)) (.int .i64 0)) := (h.is _ rfl).trans (slices_Equal_g31_eq E a0 a1)

end Go.Proofs.Ytfdcdbkblkehcaa.Am
namespace Go.Proofs.Ytfdcdbkblkehcaa.Am
open Go
set_option linter.unusedVariables false
set_option maxRecDepth 100000

/- slices.Equal[[]loop.example/g01924/impl.Write,loop.example/g01924/impl.Write] -/
def slices_Equal_g32_b0 : AC :=
 (.seq (.region 0 [⟨some 14, .bin .lss (.t 13) (.t 12), none⟩])
 (.seq (.cond (.t 14) .skip (.exit 0))
 (.seq (.block 1 (.seq (.region 0 [⟨some 15, .mv (.t 13), none⟩,
  ⟨some 5, .mv (.t 15), none⟩])
 (.seq (.region 9 [⟨some 16, .mv (.t 0), none⟩,
  ⟨some 17, .mv (.t 5), none⟩,
  ⟨some 18, .iaddr 2 (.t 16) (.t 17), none⟩,
  ⟨some 19, .load true 2 (.t 18), none⟩,
  ⟨some 20, .mv (.t 1), none⟩,
  ⟨some 21, .mv (.t 5), none⟩,
  ⟨some 22, .iaddr 2 (.t 20) (.t 21), none⟩,
  ⟨some 23, .load true 2 (.t 22), none⟩,
  ⟨some 24, .eqv true 4 (.t 19) (.t 23), none⟩])
 (.cond (.t 24) (.seq (.region 0 [⟨some 4, .mv (.c (.bool false)), none⟩])
 .ret) .skip))))
 (.region 0 [⟨some 25, .bin .add (.t 13) (.c (.int .i64 1)), none⟩,
  ⟨some 13, .mv (.t 25), none⟩]))))
def slices_Equal_g32_r0 : AC :=
 (.seq (.region 0 [⟨some 4, .mv (.c (.bool true)), none⟩])
 .ret)
def slices_Equal_g32_ac : AC :=
 (.seq (.region 0 [⟨some 4, .mv (.c (.bool false)), none⟩])
 (.seq (.seq (.region 0 [⟨some 6, .mv (.t 0), none⟩,
  ⟨some 7, .len false (.t 6), none⟩,
  ⟨some 8, .mv (.t 1), none⟩,
  ⟨some 9, .len false (.t 8), none⟩,
  ⟨some 10, .bin .neq (.t 7) (.t 9), none⟩])
 (.cond (.t 10) (.seq (.region 0 [⟨some 4, .mv (.c (.bool false)), none⟩])
 .ret) .skip))
 (.seq (.seq (.region 0 [⟨some 11, .mv (.t 0), none⟩,
  ⟨some 12, .len false (.t 11), none⟩,
  ⟨some 13, .mv (.c (.int .i64 0)), none⟩])
 (.block 0 (.loop ⟨[0, 1, 12, 13], [], []⟩ slices_Equal_g32_b0)))
 slices_Equal_g32_r0)))
noncomputable def slices_Equal_g32_l0 (E : Env) (x0 : U) (x1 : U) (x12 : U) (x13 : U) : Option U := loopK (roundOf E ⟨[0, 1, 12, 13], [], []⟩ slices_Equal_g32_b0 (blockK 0 (seqK (fun s => exec E slices_Equal_g32_r0 s (finish [(4, none)])) (finish [(4, none)])))) ([.val x0, .val x1, .val x12, .val x13], [])
theorem slices_Equal_g32_eq (E : Env) (a0 : U) (a1 : U) : run E slices_Equal_g32_ac [(4, none)] [a0, a1] =
 (U.lenOf false a0).bind fun n1 => (U.lenOf false a1).bind fun n2 => (U.bin .neq (.int .i64 (n1 : Int)) (.int .i64 (n2 : Int))).bind fun t3 => U.asBool t3
 (some (.bool false))
 ((U.lenOf false a0).bind fun n4 => slices_Equal_g32_l0 E a0 a1 (.int .i64 (n4 : Int)) (.int .i64 0)) := by kernel_rfl
theorem slices_Equal_g32_l0_eq (E : Env) (x0 : U) (x1 : U) (x12 : U) (x13 : U) : slices_Equal_g32_l0 E x0 x1 x12 x13 =
 (U.bin .lss x13 x12).bind fun t5 => U.asBool t5
 (U.asInt x13 fun n6 => U.elemAt 2 x0 n6 fun e7 => U.asVar true 2 e7 fun e8 => U.asInt x13 fun n9 => U.elemAt 2 x1 n9 fun e10 => U.asVar true 2 e10 fun e11 => (U.eqv 4 e8 e11).bind fun q12 => U.asBool (.bool (!q12))
 (some (.bool false))
 ((U.bin .add x13 (.int .i64 1)).bind fun t13 => slices_Equal_g32_l0 E x0 x1 x12 t13))
 (some (.bool true)) :=
 (loop_eq E _ _ _ _).trans (by kernel_rfl)

/-- In the environment E: this function and those that it calls. -/
structure G_slices_Equal_g32 (E : Env) : Prop where
  is : Is E 32 2 slices_Equal_g32_ac [(4, none)]
theorem slices_Equal_g32_E {E : Env} (h : G_slices_Equal_g32 E) (a0 a1 : U) : E 32 [a0, a1] =
 (U.lenOf false a0).bind fun n1 => (U.lenOf false a1).bind fun n2 => (U.bin .neq (.int .i64 (n1 : Int)) (.int .i64 (n2 : Int))).bind fun t3 => U.asBool t3
 (some (.bool false))
 ((U.lenOf false a0).bind fun n4 => slices_Equal_g32_l0 E a0 a1 (.int .i64 (n4 : Int)) (.int .i64 0)) := (h.is _ rfl).trans (slices_Equal_g32_eq E a0 a1)

end Go.Proofs.Ytfdcdbkblkehcaa.Am
namespace Go.Proofs.Ytfdcdbkblkehcaa.Am
open Go
set_option linter.unusedVariables false
set_option maxRecDepth 100000

/- loop.example/g01924/impl.EqualTransactions -/
def impl_EqualTransactions_ac : AC :=
 (.seq (.region 0 [⟨some 2, .box false (.t 0), none⟩,
  ⟨some 3, .box false (.t 1), none⟩,
  ⟨some 4, .mv (.c (.bool false)), none⟩])
 (.seq (.region 0 [⟨some 5, .faddr 0 0 (.t 2), none⟩,
  ⟨some 6, .load false 1 (.t 5), none⟩,
  ⟨some 7, .faddr 0 0 (.t 3), none⟩,
  ⟨some 8, .load false 1 (.t 7), none⟩,
  ⟨some 9, .bin .eql (.t 6) (.t 8), none⟩,
  ⟨some 10, .mv (.t 9), none⟩,
  ⟨some 11, .faddr 1 1 (.t 2), some (10, true)⟩,
  ⟨some 12, .load false 1 (.t 11), some (10, true)⟩,
  ⟨some 13, .faddr 1 1 (.t 3), some (10, true)⟩,
  ⟨some 14, .load false 1 (.t 13), some (10, true)⟩,
  ⟨some 15, .bin .eql (.t 12) (.t 14), some (10, true)⟩,
  ⟨some 16, .pick (.t 10) (.t 15) (.c (.bool false)), none⟩,
  ⟨some 17, .mv (.t 16), none⟩,
  ⟨some 18, .faddr 2 2 (.t 2), some (17, true)⟩,
  ⟨some 19, .load false 1 (.t 18), some (17, true)⟩,
  ⟨some 20, .faddr 2 2 (.t 3), some (17, true)⟩,
  ⟨some 21, .load false 1 (.t 20), some (17, true)⟩,
  ⟨some 22, .bin .eql (.t 19) (.t 21), some (17, true)⟩,
  ⟨some 23, .pick (.t 17) (.t 22) (.c (.bool false)), none⟩,
  ⟨some 24, .mv (.t 23), none⟩,
  ⟨some 25, .faddr 3 3 (.t 2), some (24, true)⟩,
  ⟨some 26, .load false 1 (.t 25), some (24, true)⟩,
  ⟨some 27, .faddr 3 3 (.t 3), some (24, true)⟩,
  ⟨some 28, .load false 1 (.t 27), some (24, true)⟩,
  ⟨some 29, .bin .eql (.t 26) (.t 28), some (24, true)⟩,
  ⟨some 30, .pick (.t 24) (.t 29) (.c (.bool false)), none⟩,
  ⟨some 31, .mv (.t 30), none⟩,
  ⟨some 32, .faddr 4 4 (.t 2), some (31, true)⟩,
  ⟨some 33, .load false 1 (.t 32), some (31, true)⟩,
  ⟨some 34, .faddr 4 4 (.t 3), some (31, true)⟩,
  ⟨some 35, .load false 1 (.t 34), some (31, true)⟩,
  ⟨some 36, .bin .eql (.t 33) (.t 35), some (31, true)⟩,
  ⟨some 37, .pick (.t 31) (.t 36) (.c (.bool false)), none⟩,
  ⟨some 38, .mv (.t 37), none⟩,
  ⟨some 39, .faddr 5 5 (.t 2), some (38, true)⟩,
  ⟨some 40, .load false 1 (.t 39), some (38, true)⟩,
  ⟨some 41, .faddr 5 5 (.t 3), some (38, true)⟩,
  ⟨some 42, .load false 1 (.t 41), some (38, true)⟩,
  ⟨some 43, .bin .eql (.t 40) (.t 42), some (38, true)⟩,
  ⟨some 44, .pick (.t 38) (.t 43) (.c (.bool false)), none⟩,
  ⟨some 45, .mv (.t 44), none⟩,
  ⟨some 46, .faddr 6 6 (.t 2), some (45, true)⟩,
  ⟨some 47, .load false 1 (.t 46), some (45, true)⟩,
  ⟨some 48, .faddr 6 6 (.t 3), some (45, true)⟩,
  ⟨some 49, .load false 1 (.t 48), some (45, true)⟩,
  ⟨some 50, .bin .eql (.t 47) (.t 49), some (45, true)⟩,
  ⟨some 51, .pick (.t 45) (.t 50) (.c (.bool false)), none⟩,
  ⟨some 52, .mv (.t 51), none⟩,
  ⟨some 53, .faddr 7 7 (.t 2), some (52, true)⟩,
  ⟨some 54, .load false 1 (.t 53), some (52, true)⟩,
  ⟨some 55, .faddr 7 7 (.t 3), some (52, true)⟩,
  ⟨some 56, .load false 1 (.t 55), some (52, true)⟩,
  ⟨some 57, .call false 31 [(.t 54), (.t 56)], some (52, true)⟩,
  ⟨some 58, .pick (.t 52) (.t 57) (.c (.bool false)), none⟩,
  ⟨some 59, .mv (.t 58), none⟩,
  ⟨some 60, .faddr 8 8 (.t 2), some (59, true)⟩,
  ⟨some 61, .load false 1 (.t 60), some (59, true)⟩,
  ⟨some 62, .faddr 8 8 (.t 3), some (59, true)⟩,
  ⟨some 63, .load false 1 (.t 62), some (59, true)⟩,
  ⟨some 64, .call false 32 [(.t 61), (.t 63)], some (59, true)⟩,
  ⟨some 65, .pick (.t 59) (.t 64) (.c (.bool false)), none⟩,
  ⟨some 4, .mv (.t 65), none⟩])
 .ret))

theorem impl_EqualTransactions_eq (E : Env) (a0 : U) (a1 : U) : run E impl_EqualTransactions_ac [(4, none)] [a0, a1] =
 U.noTup a0 fun x1 => U.noTup a1 fun x2 => U.asAgg x1 fun us3 => if 0 = sizes (us3.take 0) then (us3[0]?).bind fun e4 => U.asVar false 1 e4 fun e5 => U.asAgg x2 fun us6 => if 0 = sizes (us6.take 0) then (us6[0]?).bind fun e7 => U.asVar false 1 e7 fun e8 => (U.bin .eql e5 e8).bind fun t9 => U.asBool t9
 (U.asAgg x1 fun us10 => if 1 = sizes (us10.take 1) then (us10[1]?).bind fun e11 => U.asVar false 1 e11 fun e12 => U.asAgg x2 fun us13 => if 1 = sizes (us13.take 1) then (us13[1]?).bind fun e14 => U.asVar false 1 e14 fun e15 => (U.bin .eql e12 e15).bind fun t16 => U.asBool t16
 (U.asAgg x1 fun us17 => if 2 = sizes (us17.take 2) then (us17[2]?).bind fun e18 => U.asVar false 1 e18 fun e19 => U.asAgg x2 fun us20 => if 2 = sizes (us20.take 2) then (us20[2]?).bind fun e21 => U.asVar false 1 e21 fun e22 => (U.bin .eql e19 e22).bind fun t23 => U.asBool t23
 (U.asAgg x1 fun us24 => if 3 = sizes (us24.take 3) then (us24[3]?).bind fun e25 => U.asVar false 1 e25 fun e26 => U.asAgg x2 fun us27 => if 3 = sizes (us27.take 3) then (us27[3]?).bind fun e28 => U.asVar false 1 e28 fun e29 => (U.bin .eql e26 e29).bind fun t30 => U.asBool t30
 (U.asAgg x1 fun us31 => if 4 = sizes (us31.take 4) then (us31[4]?).bind fun e32 => U.asVar false 1 e32 fun e33 => U.asAgg x2 fun us34 => if 4 = sizes (us34.take 4) then (us34[4]?).bind fun e35 => U.asVar false 1 e35 fun e36 => (U.bin .eql e33 e36).bind fun t37 => U.asBool t37
 (U.asAgg x1 fun us38 => if 5 = sizes (us38.take 5) then (us38[5]?).bind fun e39 => U.asVar false 1 e39 fun e40 => U.asAgg x2 fun us41 => if 5 = sizes (us41.take 5) then (us41[5]?).bind fun e42 => U.asVar false 1 e42 fun e43 => (U.bin .eql e40 e43).bind fun t44 => U.asBool t44
 (U.asAgg x1 fun us45 => if 6 = sizes (us45.take 6) then (us45[6]?).bind fun e46 => U.asVar false 1 e46 fun e47 => U.asAgg x2 fun us48 => if 6 = sizes (us48.take 6) then (us48[6]?).bind fun e49 => U.asVar false 1 e49 fun e50 => (U.bin .eql e47 e50).bind fun t51 => U.asBool t51
 (U.asAgg x1 fun us52 => if 7 = sizes (us52.take 7) then (us52[7]?).bind fun e53 => U.asVar false 1 e53 fun e54 => U.asAgg x2 fun us55 => if 7 = sizes (us55.take 7) then (us55[7]?).bind fun e56 => U.asVar false 1 e56 fun e57 => (E 31 [e54, e57]).bind fun t58 => U.asBool t58
 (U.asAgg x1 fun us59 => if 8 = sizes (us59.take 8) then (us59[8]?).bind fun e60 => U.asVar false 1 e60 fun e61 => U.asAgg x2 fun us62 => if 8 = sizes (us62.take 8) then (us62[8]?).bind fun e63 => U.asVar false 1 e63 fun e64 => (E 32 [e61, e64]).bind fun t65 => some t65 else none else none)
 (some (.bool false)) else none else none)
 (some (.bool false)) else none else none)
 (some (.bool false)) else none else none)
 (some (.bool false)) else none else none)
 (some (.bool false)) else none else none)
 (some (.bool false)) else none else none)
 (some (.bool false)) else none else none)
 (some (.bool false)) else none else none := by kernel_rfl

/-- In the environment E: this function and those that it calls. -/
structure G_impl_EqualTransactions (E : Env) : Prop where
  is : Is E 269 2 impl_EqualTransactions_ac [(4, none)]
  c_slices_Equal_g31 : G_slices_Equal_g31 E
  c_slices_Equal_g32 : G_slices_Equal_g32 E
theorem impl_EqualTransactions_E {E : Env} (h : G_impl_EqualTransactions E) (a0 a1 : U) : E 269 [a0, a1] =
 U.noTup a0 fun x1 => U.noTup a1 fun x2 => U.asAgg x1 fun us3 => if 0 = sizes (us3.take 0) then (us3[0]?).bind fun e4 => U.asVar false 1 e4 fun e5 => U.asAgg x2 fun us6 => if 0 = sizes (us6.take 0) then (us6[0]?).bind fun e7 => U.asVar false 1 e7 fun e8 => (U.bin .eql e5 e8).bind fun t9 => U.asBool t9
 (U.asAgg x1 fun us10 => if 1 = sizes (us10.take 1) then (us10[1]?).bind fun e11 => U.asVar false 1 e11 fun e12 => U.asAgg x2 fun us13 => if 1 = sizes (us13.take 1) then (us13[1]?).bind fun e14 => U.asVar false 1 e14 fun e15 => (U.bin .eql e12 e15).bind fun t16 => U.asBool t16
 (U.asAgg x1 fun us17 => if 2 = sizes (us17.take 2) then (us17[2]?).bind fun e18 => U.asVar false 1 e18 fun e19 => U.asAgg x2 fun us20 => if 2 = sizes (us20.take 2) then (us20[2]?).bind fun e21 => U.asVar false 1 e21 fun e22 => (U.bin .eql e19 e22).bind fun t23 => U.asBool t23
 (U.asAgg x1 fun us24 => if 3 = sizes (us24.take 3) then (us24[3]?).bind fun e25 => U.asVar false 1 e25 fun e26 => U.asAgg x2 fun us27 => if 3 = sizes (us27.take 3) then (us27[3]?).bind fun e28 => U.asVar false 1 e28 fun e29 => (U.bin .eql e26 e29).bind fun t30 => U.asBool t30
 (U.asAgg x1 fun us31 => if 4 = sizes (us31.take 4) then (us31[4]?).bind fun e32 => U.asVar false 1 e32 fun e33 => U.asAgg x2 fun us34 => if 4 = sizes (us34.take 4) then (us34[4]?).bind fun e35 => U.asVar false 1 e35 fun e36 => (U.bin .eql e33 e36).bind fun t37 => U.asBool t37
 (U.asAgg x1 fun us38 => if 5 = sizes (us38.take 5) then (us38[5]?).bind fun e39 => U.asVar false 1 e39 fun e40 => U.asAgg x2 fun us41 => if 5 = sizes (us41.take 5) then (us41[5]?).bind fun e42 => U.asVar false 1 e42 fun e43 => (U.bin .eql e40 e43).bind fun t44 => U.asBool t44
 (U.asAgg x1 fun us45 => if 6 = sizes (us45.take 6) then (us45[6]?).bind fun e46 => U.asVar false 1 e46 fun e47 => U.asAgg x2 fun us48 => if 6 = sizes (us48.take 6) then (us48[6]?).bind fun e49 => U.asVar false 1 e49 fun e50 => (U.bin .eql e47 e50).bind fun t51 => U.asBool t51
 (U.asAgg x1 fun us52 => if 7 = sizes (us52.take 7) then (us52[7]?).bind fun e53 => U.asVar false 1 e53 fun e54 => U.asAgg x2 fun us55 => if 7 = sizes (us55.take 7) then (us55[7]?).bind fun e56 => U.asVar false 1 e56 fun e57 => (E 31 [e54, e57]).bind fun t58 => U.asBool t58
 (U.asAgg x1 fun us59 => if 8 = sizes (us59.take 8) then (us59[8]?).bind fun e60 => U.asVar false 1 e60 fun e61 => U.asAgg x2 fun us62 => if 8 = sizes (us62.take 8) then (us62[8]?).bind fun e63 => U.asVar false 1 e63 fun e64 => (E 32 [e61, e64]).bind fun t65 => some t65 else none else none)
 (some (.bool false)) else none else none)
 (some (.bool false)) else none else none)
 (some (.bool false)) else none else none)
 (some (.bool false)) else none else none)
 (some (.bool false)) else none else none)
 (some (.bool false)) else none else none)
 (some (.bool false)) else none else none)
 (some (.bool false)) else none else none := (h.is _ rfl).trans (impl_EqualTransactions_eq E a0 a1)

end Go.Proofs.Ytfdcdbkblkehcaa.Am
namespace Go.Proofs.Ytfdcdbkblkehcaa.Am
open Go
set_option linter.unusedVariables false
set_option maxRecDepth 100000

/- slices.Equal[[]loop.example/g01924/impl.Lock,loop.example/g01924/impl.Lock] -/
def slices_Equal_g271_b0 : AC :=
 (.seq (.region 0 [⟨some 14, .bin .lss (.t 13) (.t 12), none⟩])
 (.seq (.cond (.t 14) .skip (.exit 0))
 (.seq (.block 1 (.seq (.region 0 [⟨some 15, .mv (.t 13), none⟩,
  ⟨some 5, .mv (.t 15), none⟩])
 (.seq (.region 9 [⟨some 16, .mv (.t 0), none⟩,
  ⟨some 17, .mv (.t 5), none⟩,
  ⟨some 18, .iaddr 2 (.t 16) (.t 17), none⟩,
  ⟨some 19, .load true 2 (.t 18), none⟩,
  ⟨some 20, .mv (.t 1), none⟩,
  ⟨some 21, .mv (.t 5), none⟩,
  ⟨some 22, .iaddr 2 (.t 20) (.t 21), none⟩,
  ⟨some 23, .load true 2 (.t 22), none⟩,
  ⟨some 24, .eqv true 4 (.t 19) (.t 23), none⟩])
 (.cond (.t 24) (.seq (.region 0 [⟨some 4, .mv (.c (.bool false)), none⟩])
 .ret) .skip))))
 (.region 0 [⟨some 25, .bin .add (.t 13) (.c (.int .i64 1)), none⟩,
  ⟨some 13, .mv (.t 25), none⟩]))))
def slices_Equal_g271_r0 : AC :=
 (.seq (.region 0 [⟨some 4, .mv (.c (.bool true)), none⟩])
 .ret)
def slices_Equal_g271_ac : AC :=
 (.seq (.region 0 [⟨some 4, .mv (.c (.bool false)), none⟩])
 (.seq (.seq (.region 0 [⟨some 6, .mv (.t 0), none⟩,
  ⟨some 7, .len false (.t 6), none⟩,
  ⟨some 8, .mv (.t 1), none⟩,
  ⟨some 9, .len false (.t 8), none⟩,
  ⟨some 10, .bin .neq (.t 7) (.t 9), none⟩])
 (.cond (.t 10) (.seq (.region 0 [⟨some 4, .mv (.c (.bool false)), none⟩])
 .ret) .skip))
 (.seq (.seq (.region 0 [⟨some 11, .mv (.t 0), none⟩,
  ⟨some 12, .len false (.t 11), none⟩,
  ⟨some 13, .mv (.c (.int .i64 0)), none⟩])
 (.block 0 (.loop ⟨[0, 1, 12, 13], [], []⟩ slices_Equal_g271_b0)))
 slices_Equal_g271_r0)))
noncomputable def slices_Equal_g271_l0 (E : Env) (x0 : U) (x1 : U) (x12 : U) (x13 : U) : Option U := loopK (roundOf E ⟨[0, 1, 12, 13], [], []⟩ slices_Equal_g271_b0 (blockK 0 (seqK (fun s => exec E slices_Equal_g271_r0 s (finish [(4, none)])) (finish [(4, none)])))) ([.val x0, .val x1, .val x12, .val x13], [])
theorem slices_Equal_g271_eq (E : Env) (a0 : U) (a1 : U) : run E slices_Equal_g271_ac [(4, none)] [a0, a1] =
 (U.lenOf false a0).bind fun n1 => (U.lenOf false a1).bind fun n2 => (U.bin .neq (.int .i64 (n1 : Int)) (.int .i64 (n2 : Int))).bind fun t3 => U.asBool t3
 (some (.bool false))
 ((U.lenOf false a0).bind fun n4 => slices_Equal_g271_l0 E a0 a1 (.int .i64 (n4 : Int)) (.int .i64 0)) := by kernel_rfl
theorem slices_Equal_g271_l0_eq (E : Env) (x0 : U) (x1 : U) (x12 : U) (x13 : U) : slices_Equal_g271_l0 E x0 x1 x12 x13 =
 (U.bin .lss x13 x12).bind fun t5 => U.asBool t5
 (U.asInt x13 fun n6 => U.elemAt 2 x0 n6 fun e7 => U.asVar true 2 e7 fun e8 => U.asInt x13 fun n9 => U.elemAt 2 x1 n9 fun e10 => U.asVar true 2 e10 fun e11 => (U.eqv 4 e8 e11).bind fun q12 => U.asBool (.bool (!q12))
 (some (.bool false))
 ((U.bin .add x13 (.int .i64 1)).bind fun t13 => slices_Equal_g271_l0 E x0 x1 x12 t13))
 (some (.bool true)) :=
 (loop_eq E _ _ _ _).trans (by kernel_rfl)

/-- In the environment E: this function and those that it calls. -/
structure G_slices_Equal_g271 (E : Env) : Prop where
  is : Is E 271 2 slices_Equal_g271_ac [(4, none)]
theorem slices_Equal_g271_E {E : Env} (h : G_slices_Equal_g271 E) (a0 a1 : U) : E 271 [a0, a1] =
 (U.lenOf false a0).bind fun n1 => (U.lenOf false a1).bind fun n2 => (U.bin .neq (.int .i64 (n1 : Int)) (.int .i64 (n2 : Int))).bind fun t3 => U.asBool t3
 (some (.bool false))
 ((U.lenOf false a0).bind fun n4 => slices_Equal_g271_l0 E a0 a1 (.int .i64 (n4 : Int)) (.int .i64 0)) := (h.is _ rfl).trans (slices_Equal_g271_eq E a0 a1)

end Go.Proofs.Ytfdcdbkblkehcaa.Am
namespace Go.Proofs.Ytfdcdbkblkehcaa.Am
open Go
set_option linter.unusedVariables false
set_option maxRecDepth 100000

/- slices.Equal[[]loop.example/g01924/impl.Wait,loop.example/g01924/impl.Wait] -/
def slices_Equal_g272_b0 : AC :=
 (.seq (.region 0 [⟨some 14, .bin .lss (.t 13) (.t 12), none⟩])
 (.seq (.cond (.t 14) .skip (.exit 0))
 (.seq (.block 1 (.seq (.region 0 [⟨some 15, .mv (.t 13), none⟩,
  ⟨some 5, .mv (.t 15), none⟩])
 (.seq (.region 9 [⟨some 16, .mv (.t 0), none⟩,
  ⟨some 17, .mv (.t 5), none⟩,
  ⟨some 18, .iaddr 2 (.t 16) (.t 17), none⟩,
  ⟨some 19, .load true 2 (.t 18), none⟩,
  ⟨some 20, .mv (.t 1), none⟩,
  ⟨some 21, .mv (.t 5), none⟩,
  ⟨some 22, .iaddr 2 (.t 20) (.t 21), none⟩,
  ⟨some 23, .load true 2 (.t 22), none⟩,
  ⟨some 24, .eqv true 4 (.t 19) (.t 23), none⟩])
 (.cond (.t 24) (.seq (.region 0 [⟨some 4, .mv (.c (.bool false)), none⟩])
 .ret) .skip))))
 (.region 0 [⟨some 25, .bin .add (.t 13) (.c (.int .i64 1)), none⟩,
  ⟨some 13, .mv (.t 25), none⟩]))))
def slices_Equal_g272_r0 : AC :=
 (.seq (.region 0 [⟨some 4, .mv (.c (.bool true)), none⟩])
 .ret)
def slices_Equal_g272_ac : AC :=
 (.seq (.region 0 [⟨some 4, .mv (.c (.bool false)), none⟩])
 (.seq (.seq (.region 0 [⟨some 6, .mv (.t 0), none⟩,
  ⟨some 7, .len false (.t 6), none⟩,
  ⟨some 8, .mv (.t 1), none⟩,
  ⟨some 9, .len false (.t 8), none⟩,
  ⟨some 10, .bin .neq (.t 7) (.t 9), none⟩])
 (.cond (.t 10) (.seq (.region 0 [⟨some 4, .mv (.c (.bool false)), none⟩])
 .ret) .skip))
 (.seq (.seq (.region 0 [⟨some 11, .mv (.t 0), none⟩,
  ⟨some 12, .len false (.t 11), none⟩,
  ⟨some 13, .mv (.c (.int .i64 0)), none⟩])
 (.block 0 (.loop ⟨[0, 1, 12, 13], [], []⟩ slices_Equal_g272_b0)))
 slices_Equal_g272_r0)))
noncomputable def slices_Equal_g272_l0 (E : Env) (x0 : U) (x1 : U) (x12 : U) (x13 : U) : Option U := loopK (roundOf E ⟨[0, 1, 12, 13], [], []⟩ slices_Equal_g272_b0 (blockK 0 (seqK (fun s => exec E slices_Equal_g272_r0 s (finish [(4, none)])) (finish [(4, none)])))) ([.val x0, .val x1, .val x12, .val x13], [])
theorem slices_Equal_g272_eq (E : Env) (a0 : U) (a1 : U) : run E slices_Equal_g272_ac [(4, none)] [a0, a1] =
 (U.lenOf false a0).bind fun n1 => (U.lenOf false a1).bind fun n2 => (U.bin .neq (.int .i64 (n1 : Int)) (.int .i64 (n2 : Int))).bind fun t3 => U.asBool t3
 (some (.bool false))
 ((U.lenOf false a0).bind fun n4 => slices_Equal_g272_l0 E a0 a1 (.int .i64 (n4 : Int)) (.int .i64 0)) := by kernel_rfl
theorem slices_Equal_g272_l0_eq (E : Env) (x0 : U) (x1 : U) (x12 : U) (x13 : U) : slices_Equal_g272_l0 E x0 x1 x12 x13 =
 (U.bin .lss x13 x12).bind fun t5 => U.asBool t5
 (U.asInt x13 fun n6 => U.elemAt 2 x0 n6 fun e7 => U.asVar true 2 e7 fun e8 => U.asInt x13 fun n9 => U.elemAt 2 x1 n9 fun e10 => U.asVar true 2 e10 fun e11 => (U.eqv 4 e8 e11).bind fun q12 => U.asBool (.bool (!q12))
 (some (.bool false))
 ((U.bin .add x13 (.int .i64 1)).bind fun t13 => slices_Equal_g272_l0 E x0 x1 x12 t13))
 (some (.bool true)) :=
 (loop_eq E _ _ _ _).trans (by kernel_rfl)

/-- In the environment E: this function and those that it calls. -/
structure G_slices_Equal_g272 (E : Env) : Prop where
  is : Is E 272 2 slices_Equal_g272_ac [(4, none)]
theorem slices_Equal_g272_E {E : Env} (h : G_slices_Equal_g272 E) (a0 a1 : U) : E 272 [a0, a1] =
 (U.lenOf false a0).bind fun n1 => (U.lenOf false a1).bind fun n2 => (U.bin .neq (.int .i64 (n1 : Int)) (.int .i64 (n2 : Int))).bind fun t3 => U.asBool t3
 (some (.bool false))
 ((U.lenOf false a0).bind fun n4 => slices_Equal_g272_l0 E a0 a1 (.int .i64 (n4 : Int)) (.int .i64 0)) := (h.is _ rfl).trans (slices_Equal_g272_eq E a0 a1)

end Go.Proofs.Ytfdcdbkblkehcaa.Am
namespace Go.Proofs.Ytfdcdbkblkehcaa.Am
open Go
set_option linter.unusedVariables false
set_option maxRecDepth 100000

/- loop.example/g01924/impl.EqualEngines -/
def impl_EqualEngines_ac : AC :=
 (.seq (.region 0 [⟨some 2, .box false (.t 0), none⟩,
  ⟨some 3, .box false (.t 1), none⟩,
  ⟨some 4, .mv (.c (.bool false)), none⟩])
 (.seq (.region 0 [⟨some 5, .faddr 0 0 (.t 2), none⟩,
  ⟨some 6, .load false 1 (.t 5), none⟩,
  ⟨some 7, .faddr 0 0 (.t 3), none⟩,
  ⟨some 8, .load false 1 (.t 7), none⟩,
  ⟨some 9, .eqv false 0 (.t 6) (.t 8), none⟩,
  ⟨some 10, .mv (.t 9), none⟩,
  ⟨some 11, .faddr 5 5 (.t 2), some (10, true)⟩,
  ⟨some 12, .load false 1 (.t 11), some (10, true)⟩,
  ⟨some 13, .faddr 5 5 (.t 3), some (10, true)⟩,
  ⟨some 14, .load false 1 (.t 13), some (10, true)⟩,
  ⟨some 15, .bin .eql (.t 12) (.t 14), some (10, true)⟩,
  ⟨some 16, .pick (.t 10) (.t 15) (.c (.bool false)), none⟩,
  ⟨some 17, .mv (.t 16), none⟩,
  ⟨some 18, .faddr 1 1 (.t 2), some (17, true)⟩,
  ⟨some 19, .load true 1 (.t 18), some (17, true)⟩,
  ⟨some 20, .faddr 1 1 (.t 3), some (17, true)⟩,
  ⟨some 21, .load true 1 (.t 20), some (17, true)⟩,
  ⟨some 22, .call false 268 [(.t 19), (.t 21)], some (17, true)⟩,
  ⟨some 23, .pick (.t 17) (.t 22) (.c (.bool false)), none⟩,
  ⟨some 24, .mv (.t 23), none⟩,
  ⟨some 25, .faddr 2 2 (.t 2), some (24, true)⟩,
  ⟨some 26, .load false 1 (.t 25), some (24, true)⟩,
  ⟨some 27, .faddr 2 2 (.t 3), some (24, true)⟩,
  ⟨some 28, .load false 1 (.t 27), some (24, true)⟩,
  ⟨some 29, .call false 270 [(.t 26), (.t 28), (.c (.fn 269 []))], some (24, true)⟩,
  ⟨some 30, .pick (.t 24) (.t 29) (.c (.bool false)), none⟩,
  ⟨some 31, .mv (.t 30), none⟩,
  ⟨some 32, .faddr 3 3 (.t 2), some (31, true)⟩,
  ⟨some 33, .load false 1 (.t 32), some (31, true)⟩,
  ⟨some 34, .faddr 3 3 (.t 3), some (31, true)⟩,
  ⟨some 35, .load false 1 (.t 34), some (31, true)⟩,
  ⟨some 36, .call false 271 [(.t 33), (.t 35)], some (31, true)⟩,
  ⟨some 37, .pick (.t 31) (.t 36) (.c (.bool false)), none⟩,
  ⟨some 38, .mv (.t 37), none⟩,
  ⟨some 39, .faddr 4 4 (.t 2), some (38, true)⟩,
  ⟨some 40, .load false 1 (.t 39), some (38, true)⟩,
  ⟨some 41, .faddr 4 4 (.t 3), some (38, true)⟩,
  ⟨some 42, .load false 1 (.t 41), some (38, true)⟩,
  ⟨some 43, .call false 272 [(.t 40), (.t 42)], some (38, true)⟩,
  ⟨some 44, .pick (.t 38) (.t 43) (.c (.bool false)), none⟩,
  ⟨some 4, .mv (.t 44), none⟩])
 .ret))

theorem impl_EqualEngines_eq (E : Env) (a0 : U) (a1 : U) : run E impl_EqualEngines_ac [(4, none)] [a0, a1] =
 U.noTup a0 fun x1 => U.noTup a1 fun x2 => U.asAgg x1 fun us3 => if 0 = sizes (us3.take 0) then (us3[0]?).bind fun e4 => U.asVar false 1 e4 fun e5 => U.asAgg x2 fun us6 => if 0 = sizes (us6.take 0) then (us6[0]?).bind fun e7 => U.asVar false 1 e7 fun e8 => (U.eqv 0 e5 e8).bind fun q9 => U.asBool (.bool q9)
 (U.asAgg x1 fun us10 => if 5 = sizes (us10.take 5) then (us10[5]?).bind fun e11 => U.asVar false 1 e11 fun e12 => U.asAgg x2 fun us13 => if 5 = sizes (us13.take 5) then (us13[5]?).bind fun e14 => U.asVar false 1 e14 fun e15 => (U.bin .eql e12 e15).bind fun t16 => U.asBool t16
 (U.asAgg x1 fun us17 => if 1 = sizes (us17.take 1) then (us17[1]?).bind fun e18 => U.asVar true 1 e18 fun e19 => U.asAgg x2 fun us20 => if 1 = sizes (us20.take 1) then (us20[1]?).bind fun e21 => U.asVar true 1 e21 fun e22 => (E 268 [e19, e22]).bind fun t23 => U.asBool t23
 (U.asAgg x1 fun us24 => if 2 = sizes (us24.take 2) then (us24[2]?).bind fun e25 => U.asVar false 1 e25 fun e26 => U.asAgg x2 fun us27 => if 2 = sizes (us27.take 2) then (us27[2]?).bind fun e28 => U.asVar false 1 e28 fun e29 => (E 270 [e26, e29, (.fn 269 [])]).bind fun t30 => U.asBool t30
 (U.asAgg x1 fun us31 => if 3 = sizes (us31.take 3) then (us31[3]?).bind fun e32 => U.asVar false 1 e32 fun e33 => U.asAgg x2 fun us34 => if 3 = sizes (us34.take 3) then (us34[3]?).bind fun e35 => U.asVar false 1 e35 fun e36 => (E 271 [e33, e36]).bind fun t37 => U.asBool t37
 (U.asAgg x1 fun us38 => if 4 = sizes (us38.take 4) then (us38[4]?).bind fun e39 => U.asVar false 1 e39 fun e40 => U.asAgg x2 fun us41 => if 4 = sizes (us41.take 4) then (us41[4]?).bind fun e42 => U.asVar false 1 e42 fun e43 => (E 272 [e40, e43]).bind fun t44 => some t44 else none else none)
 (some (.bool false)) else none else none)
 (some (.bool false)) else none else none)
 (some (.bool false)) else none else none)
 (some (.bool false)) else none else none)
 (some (.bool false)) else none else none := by kernel_rfl

/-- In the environment E: this function and those that it calls. -/
structure G_impl_EqualEngines (E : Env) : Prop where
  is : Is E 267 2 impl_EqualEngines_ac [(4, none)]
  c_impl_EqualStores : G_impl_EqualStores E
  c_slices_EqualFunc_g270 : G_slices_EqualFunc_g270 E
  c_impl_EqualTransactions : G_impl_EqualTransactions E
  c_slices_Equal_g271 : G_slices_Equal_g271 E
  c_slices_Equal_g272 : G_slices_Equal_g272 E
theorem impl_EqualEngines_E {E : Env} (h : G_impl_EqualEngines E) (a0 a1 : U) : E 267 [a0, a1] =
 U.noTup a0 fun x1 => U.noTup a1 fun x2 => U.asAgg x1 fun us3 => if 0 = sizes (us3.take 0) then (us3[0]?).bind fun e4 => U.asVar false 1 e4 fun e5 => U.asAgg x2 fun us6 => if 0 = sizes (us6.take 0) then (us6[0]?).bind fun e7 => U.asVar false 1 e7 fun e8 => (U.eqv 0 e5 e8).bind fun q9 => U.asBool (.bool q9)
 (U.asAgg x1 fun us10 => if 5 = sizes (us10.take 5) then (us10[5]?).bind fun e11 => U.asVar false 1 e11 fun e12 => U.asAgg x2 fun us13 => if 5 = sizes (us13.take 5) then (us13[5]?).bind fun e14 => U.asVar false 1 e14 fun e15 => (U.bin .eql e12 e15).bind fun t16 => U.asBool t16
 (U.asAgg x1 fun us17 => if 1 = sizes (us17.take 1) then (us17[1]?).bind fun e18 => U.asVar true 1 e18 fun e19 => U.asAgg x2 fun us20 => if 1 = sizes (us20.take 1) then (us20[1]?).bind fun e21 => U.asVar true 1 e21 fun e22 => (E 268 [e19, e22]).bind fun t23 => U.asBool t23
 (U.asAgg x1 fun us24 => if 2 = sizes (us24.take 2) then (us24[2]?).bind fun e25 => U.asVar false 1 e25 fun e26 => U.asAgg x2 fun us27 => if 2 = sizes (us27.take 2) then (us27[2]?).bind fun e28 => U.asVar false 1 e28 fun e29 => (E 270 [e26, e29, (.fn 269 [])]).bind fun t30 => U.asBool t30
 (U.asAgg x1 fun us31 => if 3 = sizes (us31.take 3) then (us31[3]?).bind fun e32 => U.asVar false 1 e32 fun e33 => U.asAgg x2 fun us34 => if 3 = sizes (us34.take 3) then (us34[3]?).bind fun e35 => U.asVar false 1 e35 fun e36 => (E 271 [e33, e36]).bind fun t37 => U.asBool t37
 (U.asAgg x1 fun us38 => if 4 = sizes (us38.take 4) then (us38[4]?).bind fun e39 => U.asVar false 1 e39 fun e40 => U.asAgg x2 fun us41 => if 4 = sizes (us41.take 4) then (us41[4]?).bind fun e42 => U.asVar false 1 e42 fun e43 => (E 272 [e40, e43]).bind fun t44 => some t44 else none else none)
 (some (.bool false)) else none else none)
 (some (.bool false)) else none else none)
 (some (.bool false)) else none else none)
 (some (.bool false)) else none else none)
 (some (.bool false)) else none else none := (h.is _ rfl).trans (impl_EqualEngines_eq E a0 a1)

end Go.Proofs.Ytfdcdbkblkehcaa.Am
namespace Go.Proofs.Ytfdcdbkblkehcaa.Am
open Go
set_option linter.unusedVariables false
set_option maxRecDepth 100000

/- loop.example/g01924/impl.EqualNodes -/
def impl_EqualNodes_ac : AC :=
 (.seq (.region 0 [⟨some 2, .box false (.t 0), none⟩,
  ⟨some 3, .box false (.t 1), none⟩,
  ⟨some 4, .mv (.c (.bool false)), none⟩])
 (.seq (.region 0 [⟨some 5, .faddr 0 0 (.t 2), none⟩,
  ⟨some 6, .load true 6 (.t 5), none⟩,
  ⟨some 7, .faddr 0 0 (.t 3), none⟩,
  ⟨some 8, .load true 6 (.t 7), none⟩,
  ⟨some 9, .call false 267 [(.t 6), (.t 8)], none⟩,
  ⟨some 10, .mv (.t 9), none⟩,
  ⟨some 11, .faddr 1 6 (.t 2), some (10, true)⟩,
  ⟨some 12, .load false 1 (.t 11), some (10, true)⟩,
  ⟨some 13, .faddr 1 6 (.t 3), some (10, true)⟩,
  ⟨some 14, .load false 1 (.t 13), some (10, true)⟩,
  ⟨some 15, .bin .eql (.t 12) (.t 14), some (10, true)⟩,
  ⟨some 16, .pick (.t 10) (.t 15) (.c (.bool false)), none⟩,
  ⟨some 4, .mv (.t 16), none⟩])
 .ret))

theorem impl_EqualNodes_eq (E : Env) (a0 : U) (a1 : U) : run E impl_EqualNodes_ac [(4, none)] [a0, a1] =
 U.noTup a0 fun x1 => U.noTup a1 fun x2 => U.asAgg x1 fun us3 => if 0 = sizes (us3.take 0) then (us3[0]?).bind fun e4 => U.asVar true 6 e4 fun e5 => U.asAgg x2 fun us6 => if 0 = sizes (us6.take 0) then (us6[0]?).bind fun e7 => U.asVar true 6 e7 fun e8 => (E 267 [e5, e8]).bind fun t9 => U.asBool t9
 (U.asAgg x1 fun us10 => if 6 = sizes (us10.take 1) then (us10[1]?).bind fun e11 => U.asVar false 1 e11 fun e12 => U.asAgg x2 fun us13 => if 6 = sizes (us13.take 1) then (us13[1]?).bind fun e14 => U.asVar false 1 e14 fun e15 => (U.bin .eql e12 e15).bind fun t16 => some t16 else none else none)
 (some (.bool false)) else none else none := by kernel_rfl

/-- In the environment E: this function and those that it calls. -/
structure G_impl_EqualNodes (E : Env) : Prop where
  is : Is E 261 2 impl_EqualNodes_ac [(4, none)]
  c_impl_EqualEngines : G_impl_EqualEngines E
theorem impl_EqualNodes_E {E : Env} (h : G_impl_EqualNodes E) (a0 a1 : U) : E 261 [a0, a1] =
 U.noTup a0 fun x1 => U.noTup a1 fun x2 => U.asAgg x1 fun us3 => if 0 = sizes (us3.take 0) then (us3[0]?).bind fun e4 => U.asVar true 6 e4 fun e5 => U.asAgg x2 fun us6 => if 0 = sizes (us6.take 0) then (us6[0]?).bind fun e7 => U.asVar true 6 e7 fun e8 => (E 267 [e5, e8]).bind fun t9 => U.asBool t9
 (U.asAgg x1 fun us10 => if 6 = sizes (us10.take 1) then (us10[1]?).bind fun e11 => U.asVar false 1 e11 fun e12 => U.asAgg x2 fun us13 => if 6 = sizes (us13.take 1) then (us13[1]?).bind fun e14 => U.asVar false 1 e14 fun e15 => (U.bin .eql e12 e15).bind fun t16 => some t16 else none else none)
 (some (.bool false)) else none else none := (h.is _ rfl).trans (impl_EqualNodes_eq E a0 a1)

end Go.Proofs.Ytfdcdbkblkehcaa.Am
namespace Go.Proofs.Ytfdcdbkblkehcaa.Am
open Go
set_option linter.unusedVariables false
set_option maxRecDepth 100000

/- loop.example/g01924/laws.FnExactEqualNodes -/
def laws_FnExactEqualNodes_ac : AC :=
 (.seq (.region 0 [⟨some 2, .box false (.t 0), none⟩,
  ⟨some 3, .box false (.t 1), none⟩,
  ⟨some 4, .mv (.c (.bool false)), none⟩])
 (.seq (.region 0 [⟨some 5, .mv (.c (.int .i64 1048576)), none⟩])
 (.seq (.region 0 [⟨some 10, .load true 7 (.t 2), none⟩,
  ⟨some 11, .mv (.t 5), none⟩,
  ⟨some 12, .call false 263 [(.t 10), (.t 11)], none⟩,
  ⟨some 5, .mv (.t 12), none⟩])
 (.seq (.seq (.region 0 [⟨some 13, .mv (.t 5), none⟩,
  ⟨some 14, .bin .lss (.t 13) (.c (.int .i64 0)), none⟩])
 (.cond (.t 14) (.seq (.region 0 [⟨some 4, .mv (.c (.bool true)), none⟩])
 .ret) .skip))
 (.seq (.region 0 [⟨some 15, .load true 7 (.t 3), none⟩,
  ⟨some 16, .mv (.t 5), none⟩,
  ⟨some 17, .call false 263 [(.t 15), (.t 16)], none⟩,
  ⟨some 5, .mv (.t 17), none⟩])
 (.seq (.seq (.region 0 [⟨some 18, .mv (.t 5), none⟩,
  ⟨some 19, .bin .lss (.t 18) (.c (.int .i64 0)), none⟩])
 (.cond (.t 19) (.seq (.region 0 [⟨some 4, .mv (.c (.bool true)), none⟩])
 .ret) .skip))
 (.seq (.region 6 [⟨some 20, .load true 7 (.t 2), none⟩,
  ⟨some 21, .call false 259 [(.t 20)], none⟩,
  ⟨some 22, .load true 7 (.t 3), none⟩,
  ⟨some 23, .call false 259 [(.t 22)], none⟩,
  ⟨some 24, .call false 262 [(.t 21), (.t 23)], none⟩,
  ⟨some 6, .mv (.t 24), none⟩])
 (.seq (.region 0 [⟨some 25, .load true 7 (.t 2), none⟩,
  ⟨some 26, .call false 259 [(.t 25)], none⟩,
  ⟨some 7, .alloc (.agg [(.agg [(.bool false), (.agg [(.nsl 1)]), (.nsl 9), (.nsl 2), (.nsl 2), (.int .i64 0)]), (.str ⟨#[]⟩)]), none⟩,
  ⟨none, .store 7 (.t 7) (.t 26), none⟩])
 (.seq (.region 0 [⟨some 27, .load true 7 (.t 3), none⟩,
  ⟨some 28, .call false 259 [(.t 27)], none⟩,
  ⟨some 8, .alloc (.agg [(.agg [(.bool false), (.agg [(.nsl 1)]), (.nsl 9), (.nsl 2), (.nsl 2), (.int .i64 0)]), (.str ⟨#[]⟩)]), none⟩,
  ⟨none, .store 7 (.t 8) (.t 28), none⟩])
 (.seq (.region 0 [⟨some 29, .load true 7 (.t 7), none⟩,
  ⟨some 30, .load true 7 (.t 8), none⟩,
  ⟨some 31, .call false 261 [(.t 29), (.t 30)], none⟩,
  ⟨some 9, .mv (.t 31), none⟩])
 (.seq (.seq (.region 0 [⟨some 32, .mv (.t 9), none⟩,
  ⟨some 33, .mv (.t 6), none⟩,
  ⟨some 34, .eqv true 0 (.t 32) (.t 33), none⟩])
 (.cond (.t 34) (.seq (.region 0 [⟨some 4, .mv (.c (.bool false)), none⟩])
 .ret) .skip))
 (.seq (.seq (.region 5 [⟨some 35, .load true 7 (.t 7), none⟩,
  ⟨some 36, .load true 7 (.t 2), none⟩,
  ⟨some 37, .call false 259 [(.t 36)], none⟩,
  ⟨some 38, .call false 260 [(.t 35), (.t 37)], none⟩,
  ⟨some 39, .un .not (.t 38), none⟩])
 (.cond (.t 39) (.seq (.region 0 [⟨some 4, .mv (.c (.bool false)), none⟩])
 .ret) .skip))
 (.seq (.seq (.region 5 [⟨some 40, .load true 7 (.t 8), none⟩,
  ⟨some 41, .load true 7 (.t 3), none⟩,
  ⟨some 42, .call false 259 [(.t 41)], none⟩,
  ⟨some 43, .call false 260 [(.t 40), (.t 42)], none⟩,
  ⟨some 44, .un .not (.t 43), none⟩])
 (.cond (.t 44) (.seq (.region 0 [⟨some 4, .mv (.c (.bool false)), none⟩])
 .ret) .skip))
 (.seq (.region 0 [⟨some 4, .mv (.c (.bool true)), none⟩])
 .ret))))))))))))))

theorem laws_FnExactEqualNodes_eq (E : Env) (a0 : U) (a1 : U) : run E laws_FnExactEqualNodes_ac [(4, none)] [a0, a1] =
 U.noTup a0 fun x1 => U.noTup a1 fun x2 => U.asVar true 7 x1 fun e3 => (E 263 [e3, (.int .i64 1048576)]).bind fun t4 => (U.bin .lss t4 (.int .i64 0)).bind fun t5 => U.asBool t5
 (some (.bool true))
 (U.asVar true 7 x2 fun e6 => (E 263 [e6, t4]).bind fun t7 => (U.bin .lss t7 (.int .i64 0)).bind fun t8 => U.asBool t8
 (some (.bool true))
 (U.asVar true 7 x1 fun e9 => (E 259 [e9]).bind fun t10 => U.asVar true 7 x2 fun e11 => (E 259 [e11]).bind fun t12 => (E 262 [t10, t12]).bind fun t13 => U.asVar true 7 x1 fun e14 => (E 259 [e14]).bind fun t15 => if storable (.val t15) = true ∧ t15.size = 7 then U.asVar true 7 x2 fun e16 => (E 259 [e16]).bind fun t17 => if storable (.val t17) = true ∧ t17.size = 7 then U.asVar true 7 t15 fun e18 => U.asVar true 7 t17 fun e19 => (E 261 [e18, e19]).bind fun t20 => (U.eqv 0 t20 t13).bind fun q21 => U.asBool (.bool (!q21))
 (some (.bool false))
 (U.asVar true 7 t15 fun e22 => U.asVar true 7 x1 fun e23 => (E 259 [e23]).bind fun t24 => (E 260 [e22, t24]).bind fun t25 => (U.un .not t25).bind fun t26 => U.asBool t26
 (some (.bool false))
 (U.asVar true 7 t17 fun e27 => U.asVar true 7 x2 fun e28 => (E 259 [e28]).bind fun t29 => (E 260 [e27, t29]).bind fun t30 => (U.un .not t30).bind fun t31 => U.asBool t31
 (some (.bool false))
 (some (.bool true)))) else none else none)) := by kernel_rfl

/-- In the environment E: this function and those that it calls. -/
structure G_laws_FnExactEqualNodes (E : Env) : Prop where
  is : Is E 258 2 laws_FnExactEqualNodes_ac [(4, none)]
  c_laws_eqNode : G_laws_eqNode E
  c_laws_szNode : G_laws_szNode E
  c_spec_EqualNodes : G_spec_EqualNodes E
  c_laws_toNode : G_laws_toNode E
  c_impl_EqualNodes : G_impl_EqualNodes E
theorem laws_FnExactEqualNodes_E {E : Env} (h : G_laws_FnExactEqualNodes E) (a0 a1 : U) : E 258 [a0, a1] =
 U.noTup a0 fun x1 => U.noTup a1 fun x2 => U.asVar true 7 x1 fun e3 => (E 263 [e3, (.int .i64 1048576)]).bind fun t4 => (U.bin .lss t4 (.int .i64 0)).bind fun t5 => U.asBool t5
 (some (.bool true))
 (U.asVar true 7 x2 fun e6 => (E 263 [e6, t4]).bind fun t7 => (U.bin .lss t7 (.int .i64 0)).bind fun t8 => U.asBool t8
 (some (.bool true))
 (U.asVar true 7 x1 fun e9 => (E 259 [e9]).bind fun t10 => U.asVar true 7 x2 fun e11 => (E 259 [e11]).bind fun t12 => (E 262 [t10, t12]).bind fun t13 => U.asVar true 7 x1 fun e14 => (E 259 [e14]).bind fun t15 => if storable (.val t15) = true ∧ t15.size = 7 then U.asVar true 7 x2 fun e16 => (E 259 [e16]).bind fun t17 => if storable (.val t17) = true ∧ t17.size = 7 then U.asVar true 7 t15 fun e18 => U.asVar true 7 t17 fun e19 => (E 261 [e18, e19]).bind fun t20 => (U.eqv 0 t20 t13).bind fun q21 => U.asBool (.bool (!q21))
 (some (.bool false))
 (U.asVar true 7 t15 fun e22 => U.asVar true 7 x1 fun e23 => (E 259 [e23]).bind fun t24 => (E 260 [e22, t24]).bind fun t25 => (U.un .not t25).bind fun t26 => U.asBool t26
 (some (.bool false))
 (U.asVar true 7 t17 fun e27 => U.asVar true 7 x2 fun e28 => (E 259 [e28]).bind fun t29 => (E 260 [e27, t29]).bind fun t30 => (U.un .not t30).bind fun t31 => U.asBool t31
 (some (.bool false))
 (some (.bool true)))) else none else none)) := (h.is _ rfl).trans (laws_FnExactEqualNodes_eq E a0 a1)

end Go.Proofs.Ytfdcdbkblkehcaa.Am
namespace Go.Proofs.Ytfdcdbkblkehcaa.Am
open Go
set_option linter.unusedVariables false
set_option maxRecDepth 100000

/- loop.example/g01924/laws.szEdgeS -/
def laws_szEdgeS_ac : AC :=
 (.seq (.region 0 [⟨some 4, .mv (.c (.int .i64 0)), none⟩])
 (.seq (.region 0 [⟨some 5, .mv (.t 1), none⟩,
  ⟨some 6, .mv (.t 0), none⟩,
  ⟨some 7, .len false (.t 6), none⟩,
  ⟨some 8, .bin .sub (.t 5) (.t 7), none⟩,
  ⟨some 1, .mv (.t 8), none⟩])
 (.seq (.seq (.region 0 [⟨some 9, .mv (.t 1), none⟩,
  ⟨some 10, .bin .lss (.t 9) (.c (.int .i64 0)), none⟩])
 (.cond (.t 10) (.seq (.region 0 [⟨some 4, .mv (.c (.int .i64 (-1))), none⟩])
 .ret) .skip))
 (.seq (.region 0 [⟨some 11, .mv (.t 1), none⟩,
  ⟨some 4, .mv (.t 11), none⟩])
 .ret))))

theorem laws_szEdgeS_eq (E : Env) (a0 : U) (a1 : U) : run E laws_szEdgeS_ac [(4, none)] [a0, a1] =
 (U.lenOf false a0).bind fun n1 => (U.bin .sub a1 (.int .i64 (n1 : Int))).bind fun t2 => (U.bin .lss t2 (.int .i64 0)).bind fun t3 => U.asBool t3
 (some (.int .i64 (-1)))
 (some t2) := by kernel_rfl

/-- In the environment E: this function and those that it calls. -/
structure G_laws_szEdgeS (E : Env) : Prop where
  is : Is E 5 2 laws_szEdgeS_ac [(4, none)]
theorem laws_szEdgeS_E {E : Env} (h : G_laws_szEdgeS E) (a0 a1 : U) : E 5 [a0, a1] =
 (U.lenOf false a0).bind fun n1 => (U.bin .sub a1 (.int .i64 (n1 : Int))).bind fun t2 => (U.bin .lss t2 (.int .i64 0)).bind fun t3 => U.asBool t3
 (some (.int .i64 (-1)))
 (some t2) := (h.is _ rfl).trans (laws_szEdgeS_eq E a0 a1)

end Go.Proofs.Ytfdcdbkblkehcaa.Am
namespace Go.Proofs.Ytfdcdbkblkehcaa.Am
open Go
set_option linter.unusedVariables false
set_option maxRecDepth 100000

/- loop.example/g01924/spec.l1In -/
def spec_l1In_ac : AC :=
 (.seq (.region 0 [⟨some 6, .mv (.c (.bool false)), none⟩])
 (.seq (.region 0 [⟨some 7, .mv (.t 0), none⟩,
  ⟨some 8, .mv (.t 1), none⟩,
  ⟨some 9, .bin .geq (.t 7) (.t 8), none⟩,
  ⟨some 10, .mv (.t 9), none⟩,
  ⟨some 11, .mv (.t 0), some (10, true)⟩,
  ⟨some 12, .mv (.t 2), some (10, true)⟩,
  ⟨some 13, .bin .leq (.t 11) (.t 12), some (10, true)⟩,
  ⟨some 14, .pick (.t 10) (.t 13) (.c (.bool false)), none⟩,
  ⟨some 6, .mv (.t 14), none⟩])
 .ret))

theorem spec_l1In_eq (E : Env) (a0 : U) (a1 : U) (a2 : U) : run E spec_l1In_ac [(6, none)] [a0, a1, a2] =
 (U.bin .geq a0 a1).bind fun t1 => U.asBool t1
 ((U.bin .leq a0 a2).bind fun t2 => some t2)
 (some (.bool false)) := by kernel_rfl

/-- In the environment E: this function and those that it calls. -/
structure G_spec_l1In (E : Env) : Prop where
  is : Is E 6 3 spec_l1In_ac [(6, none)]
theorem spec_l1In_E {E : Env} (h : G_spec_l1In E) (a0 a1 a2 : U) : E 6 [a0, a1, a2] =
 (U.bin .geq a0 a1).bind fun t1 => U.asBool t1
 ((U.bin .leq a0 a2).bind fun t2 => some t2)
 (some (.bool false)) := (h.is _ rfl).trans (spec_l1In_eq E a0 a1 a2)

end Go.Proofs.Ytfdcdbkblkehcaa.Am
namespace Go.Proofs.Ytfdcdbkblkehcaa.Am
open Go
set_option linter.unusedVariables false
set_option maxRecDepth 100000

/- loop.example/g01924/spec.l19Less -/
def spec_l19Less_ac : AC :=
 (.seq (.region 0 [⟨some 2, .box false (.t 0), none⟩,
  ⟨some 3, .box false (.t 1), none⟩,
  ⟨some 4, .mv (.c (.bool false)), none⟩])
 (.seq (.seq (.region 0 [⟨some 5, .faddr 0 0 (.t 2), none⟩,
  ⟨some 6, .load false 1 (.t 5), none⟩,
  ⟨some 7, .faddr 0 0 (.t 3), none⟩,
  ⟨some 8, .load false 1 (.t 7), none⟩,
  ⟨some 9, .bin .neq (.t 6) (.t 8), none⟩])
 (.cond (.t 9) (.seq (.region 0 [⟨some 10, .faddr 0 0 (.t 2), none⟩,
  ⟨some 11, .load false 1 (.t 10), none⟩,
  ⟨some 12, .faddr 0 0 (.t 3), none⟩,
  ⟨some 13, .load false 1 (.t 12), none⟩,
  ⟨some 14, .bin .lss (.t 11) (.t 13), none⟩,
  ⟨some 4, .mv (.t 14), none⟩])
 .ret) .skip))
 (.seq (.seq (.region 0 [⟨some 15, .faddr 1 1 (.t 2), none⟩,
  ⟨some 16, .load false 1 (.t 15), none⟩,
  ⟨some 17, .faddr 1 1 (.t 3), none⟩,
  ⟨some 18, .load false 1 (.t 17), none⟩,
  ⟨some 19, .bin .neq (.t 16) (.t 18), none⟩])
 (.cond (.t 19) (.seq (.region 0 [⟨some 20, .faddr 1 1 (.t 2), none⟩,
  ⟨some 21, .load false 1 (.t 20), none⟩,
  ⟨some 22, .faddr 1 1 (.t 3), none⟩,
  ⟨some 23, .load false 1 (.t 22), none⟩,
  ⟨some 24, .bin .lss (.t 21) (.t 23), none⟩,
  ⟨some 4, .mv (.t 24), none⟩])
 .ret) .skip))
 (.seq (.seq (.region 0 [⟨some 25, .faddr 2 2 (.t 2), none⟩,
  ⟨some 26, .load false 1 (.t 25), none⟩,
  ⟨some 27, .faddr 2 2 (.t 3), none⟩,
  ⟨some 28, .load false 1 (.t 27), none⟩,
  ⟨some 29, .bin .neq (.t 26) (.t 28), none⟩])
 (.cond (.t 29) (.seq (.region 0 [⟨some 30, .faddr 2 2 (.t 2), none⟩,
  ⟨some 31, .load false 1 (.t 30), none⟩,
  ⟨some 32, .faddr 2 2 (.t 3), none⟩,
  ⟨some 33, .load false 1 (.t 32), none⟩,
  ⟨some 34, .bin .lss (.t 31) (.t 33), none⟩,
  ⟨some 4, .mv (.t 34), none⟩])
 .ret) .skip))
 (.seq (.region 0 [⟨some 35, .faddr 3 3 (.t 2), none⟩,
  ⟨some 36, .load false 1 (.t 35), none⟩,
  ⟨some 37, .faddr 3 3 (.t 3), none⟩,
  ⟨some 38, .load false 1 (.t 37), none⟩,
  ⟨some 39, .bin .lss (.t 36) (.t 38), none⟩,
  ⟨some 4, .mv (.t 39), none⟩])
 .ret)))))

theorem spec_l19Less_eq (E : Env) (a0 : U) (a1 : U) : run E spec_l19Less_ac [(4, none)] [a0, a1] =
 U.noTup a0 fun x1 => U.noTup a1 fun x2 => U.asAgg x1 fun us3 => if 0 = sizes (us3.take 0) then (us3[0]?).bind fun e4 => U.asVar false 1 e4 fun e5 => U.asAgg x2 fun us6 => if 0 = sizes (us6.take 0) then (us6[0]?).bind fun e7 => U.asVar false 1 e7 fun e8 => (U.bin .neq e5 e8).bind fun t9 => U.asBool t9
 (U.asAgg x1 fun us10 => if 0 = sizes (us10.take 0) then (us10[0]?).bind fun e11 => U.asVar false 1 e11 fun e12 => U.asAgg x2 fun us13 => if 0 = sizes (us13.take 0) then (us13[0]?).bind fun e14 => U.asVar false 1 e14 fun e15 => (U.bin .lss e12 e15).bind fun t16 => some t16 else none else none)
 (U.asAgg x1 fun us17 => if 1 = sizes (us17.take 1) then (us17[1]?).bind fun e18 => U.asVar false 1 e18 fun e19 => U.asAgg x2 fun us20 => if 1 = sizes (us20.take 1) then (us20[1]?).bind fun e21 => U.asVar false 1 e21 fun e22 => (U.bin .neq e19 e22).bind fun t23 => U.asBool t23
 (U.asAgg x1 fun us24 => if 1 = sizes (us24.take 1) then (us24[1]?).bind fun e25 => U.asVar false 1 e25 fun e26 => U.asAgg x2 fun us27 => if 1 = sizes (us27.take 1) then (us27[1]?).bind fun e28 => U.asVar false 1 e28 fun e29 => (U.bin .lss e26 e29).bind fun t30 => some t30 else none else none)
 (U.asAgg x1 fun us31 => if 2 = sizes (us31.take 2) then (us31[2]?).bind fun e32 => U.asVar false 1 e32 fun e33 => U.asAgg x2 fun us34 => if 2 = sizes (us34.take 2) then (us34[2]?).bind fun e35 => U.asVar false 1 e35 fun e36 => (U.bin .neq e33 e36).bind fun t37 => U.asBool t37
 (U.asAgg x1 fun us38 => if 2 = sizes (us38.take 2) then (us38[2]?).bind fun e39 => U.asVar false 1 e39 fun e40 => U.asAgg x2 fun us41 => if 2 = sizes (us41.take 2) then (us41[2]?).bind fun e42 => U.asVar false 1 e42 fun e43 => (U.bin .lss e40 e43).bind fun t44 => some t44 else none else none)
 (U.asAgg x1 fun us45 => if 3 = sizes (us45.take 3) then (us45[3]?).bind fun e46 => U.asVar false 1 e46 fun e47 => U.asAgg x2 fun us48 => if 3 = sizes (us48.take 3) then (us48[3]?).bind fun e49 => U.asVar false 1 e49 fun e50 => (U.bin .lss e47 e50).bind fun t51 => some t51 else none else none) else none else none) else none else none) else none else none := by kernel_rfl

/-- In the environment E: this function and those that it calls. -/
structure G_spec_l19Less (E : Env) : Prop where
  is : Is E 7 2 spec_l19Less_ac [(4, none)]
theorem spec_l19Less_E {E : Env} (h : G_spec_l19Less E) (a0 a1 : U) : E 7 [a0, a1] =
 U.noTup a0 fun x1 => U.noTup a1 fun x2 => U.asAgg x1 fun us3 => if 0 = sizes (us3.take 0) then (us3[0]?).bind fun e4 => U.asVar false 1 e4 fun e5 => U.asAgg x2 fun us6 => if 0 = sizes (us6.take 0) then (us6[0]?).bind fun e7 => U.asVar false 1 e7 fun e8 => (U.bin .neq e5 e8).bind fun t9 => U.asBool t9
 (U.asAgg x1 fun us10 => if 0 = sizes (us10.take 0) then (us10[0]?).bind fun e11 => U.asVar false 1 e11 fun e12 => U.asAgg x2 fun us13 => if 0 = sizes (us13.take 0) then (us13[0]?).bind fun e14 => U.asVar false 1 e14 fun e15 => (U.bin .lss e12 e15).bind fun t16 => some t16 else none else none)
 (U.asAgg x1 fun us17 => if 1 = sizes (us17.take 1) then (us17[1]?).bind fun e18 => U.asVar false 1 e18 fun e19 => U.asAgg x2 fun us20 => if 1 = sizes (us20.take 1) then (us20[1]?).bind fun e21 => U.asVar false 1 e21 fun e22 => (U.bin .neq e19 e22).bind fun t23 => U.asBool t23
 (U.asAgg x1 fun us24 => if 1 = sizes (us24.take 1) then (us24[1]?).bind fun e25 => U.asVar false 1 e25 fun e26 => U.asAgg x2 fun us27 => if 1 = sizes (us27.take 1) then (us27[1]?).bind fun e28 => U.asVar false 1 e28 fun e29 => (U.bin .lss e26 e29).bind fun t30 => some t30 else none else none)
 (U.asAgg x1 fun us31 => if 2 = sizes (us31.take 2) then (us31[2]?).bind fun e32 => U.asVar false 1 e32 fun e33 => U.asAgg x2 fun us34 => if 2 = sizes (us34.take 2) then (us34[2]?).bind fun e35 => U.asVar false 1 e35 fun e36 => (U.bin .neq e33 e36).bind fun t37 => U.asBool t37
 (U.asAgg x1 fun us38 => if 2 = sizes (us38.take 2) then (us38[2]?).bind fun e39 => U.asVar false 1 e39 fun e40 => U.asAgg x2 fun us41 => if 2 = sizes (us41.take 2) then (us41[2]?).bind fun e42 => U.asVar false 1 e42 fun e43 => (U.bin .lss e40 e43).bind fun t44 => some t44 else none else none)
 (U.asAgg x1 fun us45 => if 3 = sizes (us45.take 3) then (us45[3]?).bind fun e46 => U.asVar false 1 e46 fun e47 => U.asAgg x2 fun us48 => if 3 = sizes (us48.take 3) then (us48[3]?).bind fun e49 => U.asVar false 1 e49 fun e50 => (U.bin .lss e47 e50).bind fun t51 => some t51 else none else none) else none else none) else none else none) else none else none := (h.is _ rfl).trans (spec_l19Less_eq E a0 a1)

end Go.Proofs.Ytfdcdbkblkehcaa.Am
namespace Go.Proofs.Ytfdcdbkblkehcaa.Am
open Go
set_option linter.unusedVariables false
set_option maxRecDepth 100000

/- loop.example/g01924/spec.AreEdges -/
def spec_AreEdges_b0 : AC :=
 (.seq (.seq (.region 0 [⟨some 4, .mv (.t 3), none⟩,
  ⟨some 5, .mv (.t 0), none⟩,
  ⟨some 6, .len false (.t 5), none⟩,
  ⟨some 7, .bin .lss (.t 4) (.t 6), none⟩])
 (.cond (.t 7) .skip (.exit 0)))
 (.seq (.block 1 (.seq (.region 64 [⟨some 10, .mv (.t 0), none⟩,
  ⟨some 11, .mv (.t 3), none⟩,
  ⟨some 12, .iaddr 4 (.t 10) (.t 11), none⟩,
  ⟨some 13, .faddr 0 0 (.t 12), none⟩,
  ⟨some 14, .load false 1 (.t 13), none⟩,
  ⟨some 15, .call false 6 [(.t 14), (.c (.int .i64 1)), (.c (.int .i64 9))], none⟩,
  ⟨some 16, .un .not (.t 15), none⟩,
  ⟨some 17, .mv (.t 16), none⟩,
  ⟨some 18, .mv (.t 0), some (17, false)⟩,
  ⟨some 19, .mv (.t 3), some (17, false)⟩,
  ⟨some 20, .iaddr 4 (.t 18) (.t 19), some (17, false)⟩,
  ⟨some 21, .faddr 1 1 (.t 20), some (17, false)⟩,
  ⟨some 22, .load false 1 (.t 21), some (17, false)⟩,
  ⟨some 23, .call false 6 [(.t 22), (.c (.int .i64 1)), (.c (.int .i64 9))], some (17, false)⟩,
  ⟨some 24, .un .not (.t 23), some (17, false)⟩,
  ⟨some 25, .pick (.t 17) (.c (.bool true)) (.t 24), none⟩,
  ⟨some 26, .mv (.t 25), none⟩,
  ⟨some 27, .mv (.t 0), some (26, false)⟩,
  ⟨some 28, .mv (.t 3), some (26, false)⟩,
  ⟨some 29, .iaddr 4 (.t 27) (.t 28), some (26, false)⟩,
  ⟨some 30, .faddr 0 0 (.t 29), some (26, false)⟩,
  ⟨some 31, .load false 1 (.t 30), some (26, false)⟩,
  ⟨some 32, .mv (.t 0), some (26, false)⟩,
  ⟨some 33, .mv (.t 3), some (26, false)⟩,
  ⟨some 34, .iaddr 4 (.t 32) (.t 33), some (26, false)⟩,
  ⟨some 35, .faddr 1 1 (.t 34), some (26, false)⟩,
  ⟨some 36, .load false 1 (.t 35), some (26, false)⟩,
  ⟨some 37, .bin .eql (.t 31) (.t 36), some (26, false)⟩,
  ⟨some 38, .pick (.t 26) (.c (.bool true)) (.t 37), none⟩,
  ⟨some 39, .mv (.t 38), none⟩,
  ⟨some 40, .mv (.t 0), some (39, false)⟩,
  ⟨some 41, .mv (.t 3), some (39, false)⟩,
  ⟨some 42, .iaddr 4 (.t 40) (.t 41), some (39, false)⟩,
  ⟨some 43, .faddr 2 2 (.t 42), some (39, false)⟩,
  ⟨some 44, .load false 1 (.t 43), some (39, false)⟩,
  ⟨some 45, .call false 6 [(.t 44), (.c (.int .i64 1)), (.c (.int .i64 3))], some (39, false)⟩,
  ⟨some 46, .un .not (.t 45), some (39, false)⟩,
  ⟨some 47, .pick (.t 39) (.c (.bool true)) (.t 46), none⟩,
  ⟨some 48, .mv (.t 47), none⟩,
  ⟨some 49, .mv (.t 0), some (48, false)⟩,
  ⟨some 50, .mv (.t 3), some (48, false)⟩,
  ⟨some 51, .iaddr 4 (.t 49) (.t 50), some (48, false)⟩,
  ⟨some 52, .faddr 3 3 (.t 51), some (48, false)⟩,
  ⟨some 53, .load false 1 (.t 52), some (48, false)⟩,
  ⟨some 54, .call false 6 [(.t 53), (.c (.int .i64 0)), (.c (.int .i64 5))], some (48, false)⟩,
  ⟨some 55, .un .not (.t 54), some (48, false)⟩,
  ⟨some 56, .pick (.t 48) (.c (.bool true)) (.t 55), none⟩,
  ⟨some 57, .mv (.t 56), none⟩,
  ⟨some 58, .mv (.t 3), some (57, false)⟩,
  ⟨some 59, .bin .gtr (.t 58) (.c (.int .i64 0)), some (57, false)⟩,
  ⟨some 60, .mv (.t 59), some (57, false)⟩,
  ⟨some 61, .mv (.t 0), some (60, true)⟩,
  ⟨some 62, .mv (.t 3), some (60, true)⟩,
  ⟨some 63, .bin .sub (.t 62) (.c (.int .i64 1)), some (60, true)⟩,
  ⟨some 64, .iaddr 4 (.t 61) (.t 63), some (60, true)⟩,
  ⟨some 65, .load true 4 (.t 64), some (60, true)⟩,
  ⟨some 66, .mv (.t 0), some (60, true)⟩,
  ⟨some 67, .mv (.t 3), some (60, true)⟩,
  ⟨some 68, .iaddr 4 (.t 66) (.t 67), some (60, true)⟩,
  ⟨some 69, .load true 4 (.t 68), some (60, true)⟩,
  ⟨some 70, .call false 7 [(.t 65), (.t 69)], some (60, true)⟩,
  ⟨some 71, .un .not (.t 70), some (60, true)⟩,
  ⟨some 72, .pick (.t 60) (.t 71) (.c (.bool false)), some (57, false)⟩,
  ⟨some 73, .pick (.t 57) (.c (.bool true)) (.t 72), none⟩])
 (.cond (.t 73) (.seq (.region 0 [⟨some 2, .mv (.c (.bool false)), none⟩])
 .ret) .skip)))
 (.region 0 [⟨some 8, .mv (.t 3), none⟩,
  ⟨some 9, .bin .add (.t 8) (.c (.int .i64 1)), none⟩,
  ⟨some 3, .mv (.t 9), none⟩])))
def spec_AreEdges_r0 : AC :=
 (.seq (.region 0 [⟨some 2, .mv (.c (.bool true)), none⟩])
 .ret)
def spec_AreEdges_ac : AC :=
 (.seq (.region 0 [⟨some 2, .mv (.c (.bool false)), none⟩])
 (.seq (.seq (.region 0 [⟨some 3, .mv (.c (.int .i64 0)), none⟩])
 (.block 0 (.loop ⟨[0, 3], [], []⟩ spec_AreEdges_b0)))
 spec_AreEdges_r0))
noncomputable def spec_AreEdges_l0 (E : Env) (x0 : U) (x3 : U) : Option U := loopK (roundOf E ⟨[0, 3], [], []⟩ spec_AreEdges_b0 (blockK 0 (seqK (fun s => exec E spec_AreEdges_r0 s (finish [(2, none)])) (finish [(2, none)])))) ([.val x0, .val x3], [])
theorem spec_AreEdges_eq (E : Env) (a0 : U) : run E spec_AreEdges_ac [(2, none)] [a0] =
 spec_AreEdges_l0 E a0 (.int .i64 0) := by kernel_rfl
theorem spec_AreEdges_l0_eq (E : Env) (x0 : U) (x3 : U) : spec_AreEdges_l0 E x0 x3 =
 (U.lenOf false x0).bind fun n1 => (U.bin .lss x3 (.int .i64 (n1 : Int))).bind fun t2 => U.asBool t2
 (U.asInt x3 fun n3 => U.elemAt 4 x0 n3 fun e4 => U.fieldAt 0 0 e4 fun f5 => U.asVar false 1 f5 fun e6 => (E 6 [e6, (.int .i64 1), (.int .i64 9)]).bind fun t7 => (U.un .not t7).bind fun t8 => U.asBool t8
 (some (.bool false))
 (U.asInt x3 fun n9 => U.elemAt 4 x0 n9 fun e10 => U.fieldAt 1 1 e10 fun f11 => U.asVar false 1 f11 fun e12 => (E 6 [e12, (.int .i64 1), (.int .i64 9)]).bind fun t13 => (U.un .not t13).bind fun t14 => U.asBool t14
 (some (.bool false))
 (U.asInt x3 fun n15 => U.elemAt 4 x0 n15 fun e16 => U.fieldAt 0 0 e16 fun f17 => U.asVar false 1 f17 fun e18 => U.asInt x3 fun n19 => U.elemAt 4 x0 n19 fun e20 => U.fieldAt 1 1 e20 fun f21 => U.asVar false 1 f21 fun e22 => (U.bin .eql e18 e22).bind fun t23 => U.asBool t23
 (some (.bool false))
 (U.asInt x3 fun n24 => U.elemAt 4 x0 n24 fun e25 => U.fieldAt 2 2 e25 fun f26 => U.asVar false 1 f26 fun e27 => (E 6 [e27, (.int .i64 1), (.int .i64 3)]).bind fun t28 => (U.un .not t28).bind fun t29 => U.asBool t29
 (some (.bool false))
 (U.asInt x3 fun n30 => U.elemAt 4 x0 n30 fun e31 => U.fieldAt 3 3 e31 fun f32 => U.asVar false 1 f32 fun e33 => (E 6 [e33, (.int .i64 0), (.int .i64 5)]).bind fun t34 => (U.un .not t34).bind fun t35 => U.asBool t35
 (some (.bool false))
 ((U.bin .gtr x3 (.int .i64 0)).bind fun t36 => U.asBool t36
 ((U.bin .sub x3 (.int .i64 1)).bind fun t37 => U.asInt t37 fun n38 => U.elemAt 4 x0 n38 fun e39 => U.asVar true 4 e39 fun e40 => U.asInt x3 fun n41 => U.elemAt 4 x0 n41 fun e42 => U.asVar true 4 e42 fun e43 => (E 7 [e40, e43]).bind fun t44 => (U.un .not t44).bind fun t45 => U.asBool t45
 (some (.bool false))
 ((U.bin .add x3 (.int .i64 1)).bind fun t46 => spec_AreEdges_l0 E x0 t46))
 ((U.bin .add x3 (.int .i64 1)).bind fun t47 => spec_AreEdges_l0 E x0 t47)))))))
 (some (.bool true)) :=
 (loop_eq E _ _ _ _).trans (by kernel_rfl)

/-- In the environment E: this function and those that it calls. -/
structure G_spec_AreEdges (E : Env) : Prop where
  is : Is E 4 1 spec_AreEdges_ac [(2, none)]
  c_spec_l1In : G_spec_l1In E
  c_spec_l19Less : G_spec_l19Less E
theorem spec_AreEdges_E {E : Env} (h : G_spec_AreEdges E) (a0 : U) : E 4 [a0] =
 spec_AreEdges_l0 E a0 (.int .i64 0) := (h.is _ rfl).trans (spec_AreEdges_eq E a0)

end Go.Proofs.Ytfdcdbkblkehcaa.Am
namespace Go.Proofs.Ytfdcdbkblkehcaa.Am
open Go
set_option linter.unusedVariables false
set_option maxRecDepth 100000

/- loop.example/g01924/laws.toEdge -/
def laws_toEdge_ac : AC :=
 (.seq (.region 0 [⟨some 1, .box false (.t 0), none⟩,
  ⟨some 2, .alloc (.agg [(.int .i64 0), (.int .i64 0), (.int .i64 0), (.int .i64 0)]), none⟩])
 (.seq (.region 0 [⟨some 3, .alloc (.agg [(.int .i64 0), (.int .i64 0), (.int .i64 0), (.int .i64 0)]), none⟩])
 (.seq (.region 0 [⟨some 4, .faddr 0 0 (.t 1), none⟩,
  ⟨some 5, .load false 1 (.t 4), none⟩,
  ⟨some 6, .faddr 0 0 (.t 3), none⟩,
  ⟨none, .store 1 (.t 6) (.t 5), none⟩])
 (.seq (.region 0 [⟨some 7, .faddr 1 1 (.t 1), none⟩,
  ⟨some 8, .load false 1 (.t 7), none⟩,
  ⟨some 9, .faddr 1 1 (.t 3), none⟩,
  ⟨none, .store 1 (.t 9) (.t 8), none⟩])
 (.seq (.region 0 [⟨some 10, .faddr 2 2 (.t 1), none⟩,
  ⟨some 11, .load false 1 (.t 10), none⟩,
  ⟨some 12, .faddr 2 2 (.t 3), none⟩,
  ⟨none, .store 1 (.t 12) (.t 11), none⟩])
 (.seq (.region 0 [⟨some 13, .faddr 3 3 (.t 1), none⟩,
  ⟨some 14, .load false 1 (.t 13), none⟩,
  ⟨some 15, .faddr 3 3 (.t 3), none⟩,
  ⟨none, .store 1 (.t 15) (.t 14), none⟩])
 (.seq (.region 0 [⟨some 16, .load true 4 (.t 3), none⟩,
  ⟨none, .store 4 (.t 2) (.t 16), none⟩])
 .ret)))))))

theorem laws_toEdge_eq (E : Env) (a0 : U) : run E laws_toEdge_ac [(2, some (true, 4))] [a0] =
 U.noTup a0 fun x1 => U.asAgg x1 fun us2 => if 0 = sizes (us2.take 0) then (us2[0]?).bind fun e3 => U.asVar false 1 e3 fun e4 => if storable (.val e4) = true ∧ e4.size = 1 then U.asAgg x1 fun us5 => if 1 = sizes (us5.take 1) then (us5[1]?).bind fun e6 => U.asVar false 1 e6 fun e7 => if storable (.val e7) = true ∧ e7.size = 1 then if 1 = sizes [e4] then U.asAgg x1 fun us8 => if 2 = sizes (us8.take 2) then (us8[2]?).bind fun e9 => U.asVar false 1 e9 fun e10 => if storable (.val e10) = true ∧ e10.size = 1 then if 2 = sizes [e4, e7] then U.asAgg x1 fun us11 => if 3 = sizes (us11.take 3) then (us11[3]?).bind fun e12 => U.asVar false 1 e12 fun e13 => if storable (.val e13) = true ∧ e13.size = 1 then if 3 = sizes [e4, e7, e10] then U.asVar true 4 (.agg [e4, e7, e10, e13]) fun e14 => if storable (.val e14) = true ∧ e14.size = 4 then U.asVar true 4 e14 fun e15 => some e15 else none else none else none else none else none else none else none else none else none else none else none else none := by kernel_rfl

/-- In the environment E: this function and those that it calls. -/
structure G_laws_toEdge (E : Env) : Prop where
  is : Is E 8 1 laws_toEdge_ac [(2, some (true, 4))]
theorem laws_toEdge_E {E : Env} (h : G_laws_toEdge E) (a0 : U) : E 8 [a0] =
 U.noTup a0 fun x1 => U.asAgg x1 fun us2 => if 0 = sizes (us2.take 0) then (us2[0]?).bind fun e3 => U.asVar false 1 e3 fun e4 => if storable (.val e4) = true ∧ e4.size = 1 then U.asAgg x1 fun us5 => if 1 = sizes (us5.take 1) then (us5[1]?).bind fun e6 => U.asVar false 1 e6 fun e7 => if storable (.val e7) = true ∧ e7.size = 1 then if 1 = sizes [e4] then U.asAgg x1 fun us8 => if 2 = sizes (us8.take 2) then (us8[2]?).bind fun e9 => U.asVar false 1 e9 fun e10 => if storable (.val e10) = true ∧ e10.size = 1 then if 2 = sizes [e4, e7] then U.asAgg x1 fun us11 => if 3 = sizes (us11.take 3) then (us11[3]?).bind fun e12 => U.asVar false 1 e12 fun e13 => if storable (.val e13) = true ∧ e13.size = 1 then if 3 = sizes [e4, e7, e10] then U.asVar true 4 (.agg [e4, e7, e10, e13]) fun e14 => if storable (.val e14) = true ∧ e14.size = 4 then U.asVar true 4 e14 fun e15 => some e15 else none else none else none else none else none else none else none else none else none else none else none else none := (h.is _ rfl).trans (laws_toEdge_eq E a0)

end Go.Proofs.Ytfdcdbkblkehcaa.Am
namespace Go.Proofs.Ytfdcdbkblkehcaa.Am
open Go
set_option linter.unusedVariables false
set_option maxRecDepth 100000

/- loop.example/g01924/laws.toEdgeS -/
def laws_toEdgeS_b0 : AC :=
 (.seq (.seq (.region 0 [⟨some 8, .mv (.t 4), none⟩,
  ⟨some 9, .mv (.t 0), none⟩,
  ⟨some 10, .len false (.t 9), none⟩,
  ⟨some 11, .bin .lss (.t 8) (.t 10), none⟩])
 (.cond (.t 11) .skip (.exit 0)))
 (.seq (.block 1 (.region 0 [⟨some 14, .mv (.t 3), none⟩,
  ⟨some 15, .mv (.t 4), none⟩,
  ⟨some 16, .mv (.t 0), none⟩,
  ⟨some 17, .mv (.t 4), none⟩,
  ⟨some 18, .iaddr 4 (.t 16) (.t 17), none⟩,
  ⟨some 19, .load true 4 (.t 18), none⟩,
  ⟨some 20, .call false 8 [(.t 19)], none⟩,
  ⟨some 21, .iaddr 4 (.t 14) (.t 15), none⟩,
  ⟨none, .store 4 (.t 21) (.t 20), none⟩]))
 (.region 0 [⟨some 12, .mv (.t 4), none⟩,
  ⟨some 13, .bin .add (.t 12) (.c (.int .i64 1)), none⟩,
  ⟨some 4, .mv (.t 13), none⟩])))
def laws_toEdgeS_r0 : AC :=
 (.seq (.region 0 [⟨some 22, .mv (.t 3), none⟩,
  ⟨some 2, .mv (.t 22), none⟩])
 .ret)
def laws_toEdgeS_ac : AC :=
 (.seq (.region 0 [⟨some 2, .mv (.c (.nsl 4)), none⟩])
 (.seq (.region 0 [⟨some 5, .mv (.t 0), none⟩,
  ⟨some 6, .len false (.t 5), none⟩,
  ⟨some 7, .mkslice 4 32 (.agg [(.int .i64 0), (.int .i64 0), (.int .i64 0), (.int .i64 0)]) (.t 6) (.t 6), none⟩,
  ⟨some 3, .mv (.t 7), none⟩])
 (.seq (.seq (.region 0 [⟨some 4, .mv (.c (.int .i64 0)), none⟩])
 (.block 0 (.loop ⟨[0, 4], [(3, 4)], []⟩ laws_toEdgeS_b0)))
 laws_toEdgeS_r0)))
noncomputable def laws_toEdgeS_l0 (E : Env) (x0 : U) (x4 : U) (c3 : List U) : Option U := loopK (roundOf E ⟨[0, 4], [(3, 4)], []⟩ laws_toEdgeS_b0 (blockK 0 (seqK (fun s => exec E laws_toEdgeS_r0 s (finish [(2, none)])) (finish [(2, none)])))) ([.val x0, .val x4], [.arr 4 c3])
theorem laws_toEdgeS_eq (E : Env) (a0 : U) : run E laws_toEdgeS_ac [(2, none)] [a0] =
 (U.lenOf false a0).bind fun n1 => if 0 ≤ (n1 : Int) ∧ (n1 : Int) ≤ (n1 : Int) ∧ (n1 : Int) * 32 ≤ 140737488355328 ∧ ((.agg [(.int .i64 0), (.int .i64 0), (.int .i64 0), (.int .i64 0)]) : U).size = 4 then laws_toEdgeS_l0 E a0 (.int .i64 0) (List.replicate ((n1 : Int) : Int).toNat (.agg [(.int .i64 0), (.int .i64 0), (.int .i64 0), (.int .i64 0)])) else none := by kernel_rfl
theorem laws_toEdgeS_l0_eq (E : Env) (x0 : U) (x4 : U) (c3 : List U) : laws_toEdgeS_l0 E x0 x4 c3 =
 (U.lenOf false x0).bind fun n2 => (U.bin .lss x4 (.int .i64 (n2 : Int))).bind fun t3 => U.asBool t3
 (U.asInt x4 fun n4 => U.elemAt 4 x0 n4 fun e5 => U.asVar true 4 e5 fun e6 => (E 8 [e6]).bind fun t7 => U.asInt x4 fun n8 => if 4 = 4 ∧ 4 = 4 ∧ 0 ≤ n8 ∧ n8 < ((c3).length : Int) then if storable (.val t7) = true ∧ t7.size = 4 then if 4 = 4 then (c3[(n8 : Int).toNat]?).bind fun e9 => if e9.size = 4 then (U.bin .add x4 (.int .i64 1)).bind fun t10 => laws_toEdgeS_l0 E x0 t10 (c3.set (n8 : Int).toNat t7) else none else none else none else none)
 (some (.sl 4 c3)) :=
 (loop_eq E _ _ _ _).trans (by kernel_rfl)

/-- In the environment E: this function and those that it calls. -/
structure G_laws_toEdgeS (E : Env) : Prop where
  is : Is E 1 1 laws_toEdgeS_ac [(2, none)]
  c_laws_toEdge : G_laws_toEdge E
theorem laws_toEdgeS_E {E : Env} (h : G_laws_toEdgeS E) (a0 : U) : E 1 [a0] =
 (U.lenOf false a0).bind fun n1 => if 0 ≤ (n1 : Int) ∧ (n1 : Int) ≤ (n1 : Int) ∧ (n1 : Int) * 32 ≤ 140737488355328 ∧ ((.agg [(.int .i64 0), (.int .i64 0), (.int .i64 0), (.int .i64 0)]) : U).size = 4 then laws_toEdgeS_l0 E a0 (.int .i64 0) (List.replicate ((n1 : Int) : Int).toNat (.agg [(.int .i64 0), (.int .i64 0), (.int .i64 0), (.int .i64 0)])) else none := (h.is _ rfl).trans (laws_toEdgeS_eq E a0)

end Go.Proofs.Ytfdcdbkblkehcaa.Am
namespace Go.Proofs.Ytfdcdbkblkehcaa.Am
open Go
set_option linter.unusedVariables false
set_option maxRecDepth 100000

/- loop.example/g01924/impl.in -/
def impl_in_ac : AC :=
 (.seq (.region 0 [⟨some 6, .mv (.c (.bool false)), none⟩])
 (.seq (.region 0 [⟨some 7, .mv (.t 1), none⟩,
  ⟨some 8, .mv (.t 0), none⟩,
  ⟨some 9, .bin .leq (.t 7) (.t 8), none⟩,
  ⟨some 10, .mv (.t 9), none⟩,
  ⟨some 11, .mv (.t 0), some (10, true)⟩,
  ⟨some 12, .mv (.t 2), some (10, true)⟩,
  ⟨some 13, .bin .leq (.t 11) (.t 12), some (10, true)⟩,
  ⟨some 14, .pick (.t 10) (.t 13) (.c (.bool false)), none⟩,
  ⟨some 6, .mv (.t 14), none⟩])
 .ret))

theorem impl_in_eq (E : Env) (a0 : U) (a1 : U) (a2 : U) : run E impl_in_ac [(6, none)] [a0, a1, a2] =
 (U.bin .leq a1 a0).bind fun t1 => U.asBool t1
 ((U.bin .leq a0 a2).bind fun t2 => some t2)
 (some (.bool false)) := by kernel_rfl

/-- In the environment E: this function and those that it calls. -/
structure G_impl_in (E : Env) : Prop where
  is : Is E 10 3 impl_in_ac [(6, none)]
theorem impl_in_E {E : Env} (h : G_impl_in E) (a0 a1 a2 : U) : E 10 [a0, a1, a2] =
 (U.bin .leq a1 a0).bind fun t1 => U.asBool t1
 ((U.bin .leq a0 a2).bind fun t2 => some t2)
 (some (.bool false)) := (h.is _ rfl).trans (impl_in_eq E a0 a1 a2)

end Go.Proofs.Ytfdcdbkblkehcaa.Am
namespace Go.Proofs.Ytfdcdbkblkehcaa.Am
open Go
set_option linter.unusedVariables false
set_option maxRecDepth 100000

/- loop.example/g01924/impl.isID -/
def impl_isID_ac : AC :=
 (.seq (.region 0 [⟨some 2, .mv (.c (.bool false)), none⟩])
 (.seq (.region 0 [⟨some 3, .mv (.t 0), none⟩,
  ⟨some 4, .call false 10 [(.t 3), (.c (.int .i64 1)), (.c (.int .i64 9))], none⟩,
  ⟨some 2, .mv (.t 4), none⟩])
 .ret))

theorem impl_isID_eq (E : Env) (a0 : U) : run E impl_isID_ac [(2, none)] [a0] =
 (E 10 [a0, (.int .i64 1), (.int .i64 9)]).bind fun t1 => some t1 := by kernel_rfl

/-- In the environment E: this function and those that it calls. -/
structure G_impl_isID (E : Env) : Prop where
  is : Is E 9 1 impl_isID_ac [(2, none)]
  c_impl_in : G_impl_in E
theorem impl_isID_E {E : Env} (h : G_impl_isID E) (a0 : U) : E 9 [a0] =
 (E 10 [a0, (.int .i64 1), (.int .i64 9)]).bind fun t1 => some t1 := (h.is _ rfl).trans (impl_isID_eq E a0)

end Go.Proofs.Ytfdcdbkblkehcaa.Am
namespace Go.Proofs.Ytfdcdbkblkehcaa.Am
open Go
set_option linter.unusedVariables false
set_option maxRecDepth 100000

/- loop.example/g01924/impl.isKey -/
def impl_isKey_ac : AC :=
 (.seq (.region 0 [⟨some 2, .mv (.c (.bool false)), none⟩])
 (.seq (.region 0 [⟨some 3, .mv (.t 0), none⟩,
  ⟨some 4, .call false 10 [(.t 3), (.c (.int .i64 0)), (.c (.int .i64 5))], none⟩,
  ⟨some 2, .mv (.t 4), none⟩])
 .ret))

theorem impl_isKey_eq (E : Env) (a0 : U) : run E impl_isKey_ac [(2, none)] [a0] =
 (E 10 [a0, (.int .i64 0), (.int .i64 5)]).bind fun t1 => some t1 := by kernel_rfl

/-- In the environment E: this function and those that it calls. -/
structure G_impl_isKey (E : Env) : Prop where
  is : Is E 11 1 impl_isKey_ac [(2, none)]
  c_impl_in : G_impl_in E
theorem impl_isKey_E {E : Env} (h : G_impl_isKey E) (a0 : U) : E 11 [a0] =
 (E 10 [a0, (.int .i64 0), (.int .i64 5)]).bind fun t1 => some t1 := (h.is _ rfl).trans (impl_isKey_eq E a0)

end Go.Proofs.Ytfdcdbkblkehcaa.Am
namespace Go.Proofs.Ytfdcdbkblkehcaa.Am
open Go
set_option linter.unusedVariables false
set_option maxRecDepth 100000

/- cmp.Or[int] -/
def cmp_Or_g14_b0 : AC :=
 (.seq (.region 0 [⟨some 9, .bin .lss (.t 8) (.t 7), none⟩])
 (.seq (.cond (.t 9) .skip (.exit 0))
 (.seq (.block 1 (.seq (.region 0 [⟨some 10, .iaddr 1 (.t 6) (.t 8), none⟩,
  ⟨some 11, .load false 1 (.t 10), none⟩,
  ⟨some 5, .mv (.t 11), none⟩])
 (.seq (.region 0 [⟨some 12, .mv (.t 5), none⟩,
  ⟨some 13, .mv (.t 3), none⟩,
  ⟨some 14, .bin .neq (.t 12) (.t 13), none⟩])
 (.cond (.t 14) (.seq (.region 0 [⟨some 15, .mv (.t 5), none⟩,
  ⟨some 2, .mv (.t 15), none⟩])
 .ret) .skip))))
 (.region 0 [⟨some 16, .bin .add (.t 8) (.c (.int .i64 1)), none⟩,
  ⟨some 8, .mv (.t 16), none⟩]))))
def cmp_Or_g14_r0 : AC :=
 (.seq (.region 0 [⟨some 17, .mv (.t 3), none⟩,
  ⟨some 2, .mv (.t 17), none⟩])
 .ret)
def cmp_Or_g14_ac : AC :=
 (.seq (.region 0 [⟨some 2, .mv (.c (.int .i64 0)), none⟩])
 (.seq (.region 0 [⟨some 3, .mv (.c (.int .i64 0)), none⟩])
 (.seq (.seq (.region 0 [⟨some 6, .mv (.t 0), none⟩,
  ⟨some 7, .len false (.t 6), none⟩,
  ⟨some 8, .mv (.c (.int .i64 0)), none⟩])
 (.block 0 (.loop ⟨[3, 6, 7, 8], [], []⟩ cmp_Or_g14_b0)))
 cmp_Or_g14_r0)))
noncomputable def cmp_Or_g14_l0 (E : Env) (x3 : U) (x6 : U) (x7 : U) (x8 : U) : Option U := loopK (roundOf E ⟨[3, 6, 7, 8], [], []⟩ cmp_Or_g14_b0 (blockK 0 (seqK (fun s => exec E cmp_Or_g14_r0 s (finish [(2, none)])) (finish [(2, none)])))) ([.val x3, .val x6, .val x7, .val x8], [])
theorem cmp_Or_g14_eq (E : Env) (a0 : U) : run E cmp_Or_g14_ac [(2, none)] [a0] =
 (U.lenOf false a0).bind fun n1 => cmp_Or_g14_l0 E (.int .i64 0) a0 (.int .i64 (n1 : Int)) (.int .i64 0) := by kernel_rfl
theorem cmp_Or_g14_l0_eq (E : Env) (x3 : U) (x6 : U) (x7 : U) (x8 : U) : cmp_Or_g14_l0 E x3 x6 x7 x8 =
 (U.bin .lss x8 x7).bind fun t2 => U.asBool t2
 (U.asInt x8 fun n3 => U.elemAt 1 x6 n3 fun e4 => U.asVar false 1 e4 fun e5 => (U.bin .neq e5 x3).bind fun t6 => U.asBool t6
 (some e5)
 ((U.bin .add x8 (.int .i64 1)).bind fun t7 => cmp_Or_g14_l0 E x3 x6 x7 t7))
 (some x3) :=
 (loop_eq E _ _ _ _).trans (by kernel_rfl)

/-- In the environment E: this function and those that it calls. -/
structure G_cmp_Or_g14 (E : Env) : Prop where
  is : Is E 14 1 cmp_Or_g14_ac [(2, none)]
theorem cmp_Or_g14_E {E : Env} (h : G_cmp_Or_g14 E) (a0 : U) : E 14 [a0] =
 (U.lenOf false a0).bind fun n1 => cmp_Or_g14_l0 E (.int .i64 0) a0 (.int .i64 (n1 : Int)) (.int .i64 0) := (h.is _ rfl).trans (cmp_Or_g14_eq E a0)

end Go.Proofs.Ytfdcdbkblkehcaa.Am
namespace Go.Proofs.Ytfdcdbkblkehcaa.Am
open Go
set_option linter.unusedVariables false
set_option maxRecDepth 100000

/- cmp.isNaN[int] -/
def cmp_isNaN_g15_ac : AC :=
 (.seq (.region 0 [⟨some 2, .mv (.c (.bool false)), none⟩])
 (.seq (.region 0 [⟨some 3, .mv (.t 0), none⟩,
  ⟨some 4, .mv (.t 0), none⟩,
  ⟨some 5, .bin .neq (.t 3) (.t 4), none⟩,
  ⟨some 2, .mv (.t 5), none⟩])
 .ret))

theorem cmp_isNaN_g15_eq (E : Env) (a0 : U) : run E cmp_isNaN_g15_ac [(2, none)] [a0] =
 (U.bin .neq a0 a0).bind fun t1 => some t1 := by kernel_rfl

/-- In the environment E: this function and those that it calls. -/
structure G_cmp_isNaN_g15 (E : Env) : Prop where
  is : Is E 15 1 cmp_isNaN_g15_ac [(2, none)]
theorem cmp_isNaN_g15_E {E : Env} (h : G_cmp_isNaN_g15 E) (a0 : U) : E 15 [a0] =
 (U.bin .neq a0 a0).bind fun t1 => some t1 := (h.is _ rfl).trans (cmp_isNaN_g15_eq E a0)

end Go.Proofs.Ytfdcdbkblkehcaa.Am
namespace Go.Proofs.Ytfdcdbkblkehcaa.Am
open Go
set_option linter.unusedVariables false
set_option maxRecDepth 100000

/- cmp.Compare[int] -/
def cmp_Compare_g13_ac : AC :=
 (.seq (.region 0 [⟨some 4, .mv (.c (.int .i64 0)), none⟩])
 (.seq (.region 0 [⟨some 7, .mv (.t 0), none⟩,
  ⟨some 8, .call false 15 [(.t 7)], none⟩,
  ⟨some 5, .mv (.t 8), none⟩])
 (.seq (.region 0 [⟨some 9, .mv (.t 1), none⟩,
  ⟨some 10, .call false 15 [(.t 9)], none⟩,
  ⟨some 6, .mv (.t 10), none⟩])
 (.seq (.seq (.region 0 [⟨some 11, .mv (.t 5), none⟩])
 (.cond (.t 11) (.seq (.seq (.region 0 [⟨some 12, .mv (.t 6), none⟩])
 (.cond (.t 12) (.seq (.region 0 [⟨some 4, .mv (.c (.int .i64 0)), none⟩])
 .ret) .skip))
 (.seq (.region 0 [⟨some 4, .mv (.c (.int .i64 (-1))), none⟩])
 .ret)) .skip))
 (.seq (.seq (.region 0 [⟨some 13, .mv (.t 6), none⟩])
 (.cond (.t 13) (.seq (.region 0 [⟨some 4, .mv (.c (.int .i64 1)), none⟩])
 .ret) .skip))
 (.seq (.seq (.region 0 [⟨some 14, .mv (.t 0), none⟩,
  ⟨some 15, .mv (.t 1), none⟩,
  ⟨some 16, .bin .lss (.t 14) (.t 15), none⟩])
 (.cond (.t 16) (.seq (.region 0 [⟨some 4, .mv (.c (.int .i64 (-1))), none⟩])
 .ret) .skip))
 (.seq (.seq (.region 0 [⟨some 17, .mv (.t 0), none⟩,
  ⟨some 18, .mv (.t 1), none⟩,
  ⟨some 19, .bin .gtr (.t 17) (.t 18), none⟩])
 (.cond (.t 19) (.seq (.region 0 [⟨some 4, .mv (.c (.int .i64 1)), none⟩])
 .ret) .skip))
 (.seq (.region 0 [⟨some 4, .mv (.c (.int .i64 0)), none⟩])
 .ret))))))))

theorem cmp_Compare_g13_eq (E : Env) (a0 : U) (a1 : U) : run E cmp_Compare_g13_ac [(4, none)] [a0, a1] =
 (E 15 [a0]).bind fun t1 => (E 15 [a1]).bind fun t2 => U.asBool t1
 (U.asBool t2
 (some (.int .i64 0))
 (some (.int .i64 (-1))))
 (U.asBool t2
 (some (.int .i64 1))
 ((U.bin .lss a0 a1).bind fun t3 => U.asBool t3
 (some (.int .i64 (-1)))
 ((U.bin .gtr a0 a1).bind fun t4 => U.asBool t4
 (some (.int .i64 1))
 (some (.int .i64 0))))) := by kernel_rfl

/-- In the environment E: this function and those that it calls. -/
structure G_cmp_Compare_g13 (E : Env) : Prop where
  is : Is E 13 2 cmp_Compare_g13_ac [(4, none)]
  c_cmp_isNaN_g15 : G_cmp_isNaN_g15 E
theorem cmp_Compare_g13_E {E : Env} (h : G_cmp_Compare_g13 E) (a0 a1 : U) : E 13 [a0, a1] =
 (E 15 [a0]).bind fun t1 => (E 15 [a1]).bind fun t2 => U.asBool t1
 (U.asBool t2
 (some (.int .i64 0))
 (some (.int .i64 (-1))))
 (U.asBool t2
 (some (.int .i64 1))
 ((U.bin .lss a0 a1).bind fun t3 => U.asBool t3
 (some (.int .i64 (-1)))
 ((U.bin .gtr a0 a1).bind fun t4 => U.asBool t4
 (some (.int .i64 1))
 (some (.int .i64 0))))) := (h.is _ rfl).trans (cmp_Compare_g13_eq E a0 a1)

end Go.Proofs.Ytfdcdbkblkehcaa.Am
namespace Go.Proofs.Ytfdcdbkblkehcaa.Am
open Go
set_option linter.unusedVariables false
set_option maxRecDepth 100000

/- loop.example/g01924/impl.compareEdges -/
def impl_compareEdges_ac : AC :=
 (.seq (.region 0 [⟨some 2, .box false (.t 0), none⟩,
  ⟨some 3, .box false (.t 1), none⟩,
  ⟨some 4, .mv (.c (.int .i64 0)), none⟩])
 (.seq (.region 23 [⟨some 5, .faddr 0 0 (.t 2), none⟩,
  ⟨some 6, .load false 1 (.t 5), none⟩,
  ⟨some 7, .faddr 0 0 (.t 3), none⟩,
  ⟨some 8, .load false 1 (.t 7), none⟩,
  ⟨some 9, .call false 13 [(.t 6), (.t 8)], none⟩,
  ⟨some 10, .faddr 1 1 (.t 2), none⟩,
  ⟨some 11, .load false 1 (.t 10), none⟩,
  ⟨some 12, .faddr 1 1 (.t 3), none⟩,
  ⟨some 13, .load false 1 (.t 12), none⟩,
  ⟨some 14, .call false 13 [(.t 11), (.t 13)], none⟩,
  ⟨some 15, .faddr 2 2 (.t 2), none⟩,
  ⟨some 16, .load false 1 (.t 15), none⟩,
  ⟨some 17, .faddr 2 2 (.t 3), none⟩,
  ⟨some 18, .load false 1 (.t 17), none⟩,
  ⟨some 19, .call false 13 [(.t 16), (.t 18)], none⟩,
  ⟨some 20, .faddr 3 3 (.t 2), none⟩,
  ⟨some 21, .load false 1 (.t 20), none⟩,
  ⟨some 22, .faddr 3 3 (.t 3), none⟩,
  ⟨some 23, .load false 1 (.t 22), none⟩,
  ⟨some 24, .call false 13 [(.t 21), (.t 23)], none⟩,
  ⟨some 25, .bslice true 1 4 (.int .i64 0) [(0, (.t 9)), (1, (.t 14)), (2, (.t 19)), (3, (.t 24))], none⟩,
  ⟨some 26, .call false 14 [(.t 25)], none⟩,
  ⟨some 4, .mv (.t 26), none⟩])
 .ret))

theorem impl_compareEdges_eq (E : Env) (a0 : U) (a1 : U) : run E impl_compareEdges_ac [(4, none)] [a0, a1] =
 U.noTup a0 fun x1 => U.noTup a1 fun x2 => U.asAgg x1 fun us3 => if 0 = sizes (us3.take 0) then (us3[0]?).bind fun e4 => U.asVar false 1 e4 fun e5 => U.asAgg x2 fun us6 => if 0 = sizes (us6.take 0) then (us6[0]?).bind fun e7 => U.asVar false 1 e7 fun e8 => (E 13 [e5, e8]).bind fun t9 => U.asAgg x1 fun us10 => if 1 = sizes (us10.take 1) then (us10[1]?).bind fun e11 => U.asVar false 1 e11 fun e12 => U.asAgg x2 fun us13 => if 1 = sizes (us13.take 1) then (us13[1]?).bind fun e14 => U.asVar false 1 e14 fun e15 => (E 13 [e12, e15]).bind fun t16 => U.asAgg x1 fun us17 => if 2 = sizes (us17.take 2) then (us17[2]?).bind fun e18 => U.asVar false 1 e18 fun e19 => U.asAgg x2 fun us20 => if 2 = sizes (us20.take 2) then (us20[2]?).bind fun e21 => U.asVar false 1 e21 fun e22 => (E 13 [e19, e22]).bind fun t23 => U.asAgg x1 fun us24 => if 3 = sizes (us24.take 3) then (us24[3]?).bind fun e25 => U.asVar false 1 e25 fun e26 => U.asAgg x2 fun us27 => if 3 = sizes (us27.take 3) then (us27[3]?).bind fun e28 => U.asVar false 1 e28 fun e29 => (E 13 [e26, e29]).bind fun t30 => if storable (.val t9) = true ∧ t9.size = 1 then if storable (.val t16) = true ∧ t16.size = 1 then if storable (.val t23) = true ∧ t23.size = 1 then if storable (.val t30) = true ∧ t30.size = 1 then (E 14 [(.sl 1 [t9, t16, t23, t30])]).bind fun t31 => some t31 else none else none else none else none else none else none else none else none else none else none else none else none := by kernel_rfl

/-- In the environment E: this function and those that it calls. -/
structure G_impl_compareEdges (E : Env) : Prop where
  is : Is E 12 2 impl_compareEdges_ac [(4, none)]
  c_cmp_Or_g14 : G_cmp_Or_g14 E
  c_cmp_Compare_g13 : G_cmp_Compare_g13 E
theorem impl_compareEdges_E {E : Env} (h : G_impl_compareEdges E) (a0 a1 : U) : E 12 [a0, a1] =
 U.noTup a0 fun x1 => U.noTup a1 fun x2 => U.asAgg x1 fun us3 => if 0 = sizes (us3.take 0) then (us3[0]?).bind fun e4 => U.asVar false 1 e4 fun e5 => U.asAgg x2 fun us6 => if 0 = sizes (us6.take 0) then (us6[0]?).bind fun e7 => U.asVar false 1 e7 fun e8 => (E 13 [e5, e8]).bind fun t9 => U.asAgg x1 fun us10 => if 1 = sizes (us10.take 1) then (us10[1]?).bind fun e11 => U.asVar false 1 e11 fun e12 => U.asAgg x2 fun us13 => if 1 = sizes (us13.take 1) then (us13[1]?).bind fun e14 => U.asVar false 1 e14 fun e15 => (E 13 [e12, e15]).bind fun t16 => U.asAgg x1 fun us17 => if 2 = sizes (us17.take 2) then (us17[2]?).bind fun e18 => U.asVar false 1 e18 fun e19 => U.asAgg x2 fun us20 => if 2 = sizes (us20.take 2) then (us20[2]?).bind fun e21 => U.asVar false 1 e21 fun e22 => (E 13 [e19, e22]).bind fun t23 => U.asAgg x1 fun us24 => if 3 = sizes (us24.take 3) then (us24[3]?).bind fun e25 => U.asVar false 1 e25 fun e26 => U.asAgg x2 fun us27 => if 3 = sizes (us27.take 3) then (us27[3]?).bind fun e28 => U.asVar false 1 e28 fun e29 => (E 13 [e26, e29]).bind fun t30 => if storable (.val t9) = true ∧ t9.size = 1 then if storable (.val t16) = true ∧ t16.size = 1 then if storable (.val t23) = true ∧ t23.size = 1 then if storable (.val t30) = true ∧ t30.size = 1 then (E 14 [(.sl 1 [t9, t16, t23, t30])]).bind fun t31 => some t31 else none else none else none else none else none else none else none else none else none else none else none else none := (h.is _ rfl).trans (impl_compareEdges_eq E a0 a1)

end Go.Proofs.Ytfdcdbkblkehcaa.Am
namespace Go.Proofs.Ytfdcdbkblkehcaa.Am
open Go
set_option linter.unusedVariables false
set_option maxRecDepth 100000

/- loop.example/g01924/impl.AreEdges -/
def impl_AreEdges_b0 : AC :=
 (.seq (.region 0 [⟨some 8, .bin .lss (.t 7) (.t 6), none⟩])
 (.seq (.cond (.t 8) .skip (.exit 0))
 (.seq (.block 1 (.seq (.region 0 [⟨some 9, .mv (.t 7), none⟩,
  ⟨some 10, .iaddr 4 (.t 5) (.t 7), none⟩,
  ⟨some 11, .load true 4 (.t 10), none⟩,
  ⟨some 4, .alloc (.agg [(.int .i64 0), (.int .i64 0), (.int .i64 0), (.int .i64 0)]), none⟩,
  ⟨some 3, .mv (.t 9), none⟩,
  ⟨none, .store 4 (.t 4) (.t 11), none⟩])
 (.seq (.region 43 [⟨some 12, .faddr 0 0 (.t 4), none⟩,
  ⟨some 13, .load false 1 (.t 12), none⟩,
  ⟨some 14, .call false 9 [(.t 13)], none⟩,
  ⟨some 15, .un .not (.t 14), none⟩,
  ⟨some 16, .mv (.t 15), none⟩,
  ⟨some 17, .faddr 1 1 (.t 4), some (16, false)⟩,
  ⟨some 18, .load false 1 (.t 17), some (16, false)⟩,
  ⟨some 19, .call false 9 [(.t 18)], some (16, false)⟩,
  ⟨some 20, .un .not (.t 19), some (16, false)⟩,
  ⟨some 21, .pick (.t 16) (.c (.bool true)) (.t 20), none⟩,
  ⟨some 22, .mv (.t 21), none⟩,
  ⟨some 23, .faddr 0 0 (.t 4), some (22, false)⟩,
  ⟨some 24, .load false 1 (.t 23), some (22, false)⟩,
  ⟨some 25, .faddr 1 1 (.t 4), some (22, false)⟩,
  ⟨some 26, .load false 1 (.t 25), some (22, false)⟩,
  ⟨some 27, .bin .eql (.t 24) (.t 26), some (22, false)⟩,
  ⟨some 28, .pick (.t 22) (.c (.bool true)) (.t 27), none⟩,
  ⟨some 29, .mv (.t 28), none⟩,
  ⟨some 30, .faddr 2 2 (.t 4), some (29, false)⟩,
  ⟨some 31, .load false 1 (.t 30), some (29, false)⟩,
  ⟨some 32, .call false 10 [(.t 31), (.c (.int .i64 1)), (.c (.int .i64 3))], some (29, false)⟩,
  ⟨some 33, .un .not (.t 32), some (29, false)⟩,
  ⟨some 34, .pick (.t 29) (.c (.bool true)) (.t 33), none⟩,
  ⟨some 35, .mv (.t 34), none⟩,
  ⟨some 36, .faddr 3 3 (.t 4), some (35, false)⟩,
  ⟨some 37, .load false 1 (.t 36), some (35, false)⟩,
  ⟨some 38, .call false 11 [(.t 37)], some (35, false)⟩,
  ⟨some 39, .un .not (.t 38), some (35, false)⟩,
  ⟨some 40, .pick (.t 35) (.c (.bool true)) (.t 39), none⟩,
  ⟨some 41, .mv (.t 40), none⟩,
  ⟨some 42, .mv (.t 3), some (41, false)⟩,
  ⟨some 43, .bin .gtr (.t 42) (.c (.int .i64 0)), some (41, false)⟩,
  ⟨some 44, .mv (.t 43), some (41, false)⟩,
  ⟨some 45, .mv (.t 0), some (44, true)⟩,
  ⟨some 46, .mv (.t 3), some (44, true)⟩,
  ⟨some 47, .bin .sub (.t 46) (.c (.int .i64 1)), some (44, true)⟩,
  ⟨some 48, .iaddr 4 (.t 45) (.t 47), some (44, true)⟩,
  ⟨some 49, .load true 4 (.t 48), some (44, true)⟩,
  ⟨some 50, .load true 4 (.t 4), some (44, true)⟩,
  ⟨some 51, .call false 12 [(.t 49), (.t 50)], some (44, true)⟩,
  ⟨some 52, .bin .geq (.t 51) (.c (.int .i64 0)), some (44, true)⟩,
  ⟨some 53, .pick (.t 44) (.t 52) (.c (.bool false)), some (41, false)⟩,
  ⟨some 54, .pick (.t 41) (.c (.bool true)) (.t 53), none⟩])
 (.cond (.t 54) (.seq (.region 0 [⟨some 2, .mv (.c (.bool false)), none⟩])
 .ret) .skip))))
 (.region 0 [⟨some 55, .bin .add (.t 7) (.c (.int .i64 1)), none⟩,
  ⟨some 7, .mv (.t 55), none⟩]))))
def impl_AreEdges_r0 : AC :=
 (.seq (.region 0 [⟨some 2, .mv (.c (.bool true)), none⟩])
 .ret)
def impl_AreEdges_ac : AC :=
 (.seq (.region 0 [⟨some 2, .mv (.c (.bool false)), none⟩])
 (.seq (.seq (.region 0 [⟨some 5, .mv (.t 0), none⟩,
  ⟨some 6, .len false (.t 5), none⟩,
  ⟨some 7, .mv (.c (.int .i64 0)), none⟩])
 (.block 0 (.loop ⟨[0, 5, 6, 7], [], []⟩ impl_AreEdges_b0)))
 impl_AreEdges_r0))
noncomputable def impl_AreEdges_l0 (E : Env) (x0 : U) (x5 : U) (x6 : U) (x7 : U) : Option U := loopK (roundOf E ⟨[0, 5, 6, 7], [], []⟩ impl_AreEdges_b0 (blockK 0 (seqK (fun s => exec E impl_AreEdges_r0 s (finish [(2, none)])) (finish [(2, none)])))) ([.val x0, .val x5, .val x6, .val x7], [])
theorem impl_AreEdges_eq (E : Env) (a0 : U) : run E impl_AreEdges_ac [(2, none)] [a0] =
 (U.lenOf false a0).bind fun n1 => impl_AreEdges_l0 E a0 a0 (.int .i64 (n1 : Int)) (.int .i64 0) := by kernel_rfl
theorem impl_AreEdges_l0_eq (E : Env) (x0 : U) (x5 : U) (x6 : U) (x7 : U) : impl_AreEdges_l0 E x0 x5 x6 x7 =
 (U.bin .lss x7 x6).bind fun t2 => U.asBool t2
 (U.asInt x7 fun n3 => U.elemAt 4 x5 n3 fun e4 => U.asVar true 4 e4 fun e5 => if storable (.val e5) = true ∧ e5.size = 4 then U.asAgg e5 fun us6 => if 0 = sizes (us6.take 0) then (us6[0]?).bind fun e7 => U.asVar false 1 e7 fun e8 => (E 9 [e8]).bind fun t9 => (U.un .not t9).bind fun t10 => U.asBool t10
 (some (.bool false))
 (U.asAgg e5 fun us11 => if 1 = sizes (us11.take 1) then (us11[1]?).bind fun e12 => U.asVar false 1 e12 fun e13 => (E 9 [e13]).bind fun t14 => (U.un .not t14).bind fun t15 => U.asBool t15
 (some (.bool false))
 (U.asAgg e5 fun us16 => if 0 = sizes (us16.take 0) then (us16[0]?).bind fun e17 => U.asVar false 1 e17 fun e18 => U.asAgg e5 fun us19 => if 1 = sizes (us19.take 1) then (us19[1]?).bind fun e20 => U.asVar false 1 e20 fun e21 => (U.bin .eql e18 e21).bind fun t22 => U.asBool t22
 (some (.bool false))
 (U.asAgg e5 fun us23 => if 2 = sizes (us23.take 2) then (us23[2]?).bind fun e24 => U.asVar false 1 e24 fun e25 => (E 10 [e25, (.int .i64 1), (.int .i64 3)]).bind fun t26 => (U.un .not t26).bind fun t27 => U.asBool t27
 (some (.bool false))
 (U.asAgg e5 fun us28 => if 3 = sizes (us28.take 3) then (us28[3]?).bind fun e29 => U.asVar false 1 e29 fun e30 => (E 11 [e30]).bind fun t31 => (U.un .not t31).bind fun t32 => U.asBool t32
 (some (.bool false))
 ((U.bin .gtr x7 (.int .i64 0)).bind fun t33 => U.asBool t33
 ((U.bin .sub x7 (.int .i64 1)).bind fun t34 => U.asInt t34 fun n35 => U.elemAt 4 x0 n35 fun e36 => U.asVar true 4 e36 fun e37 => U.asVar true 4 e5 fun e38 => (E 12 [e37, e38]).bind fun t39 => (U.bin .geq t39 (.int .i64 0)).bind fun t40 => U.asBool t40
 (some (.bool false))
 ((U.bin .add x7 (.int .i64 1)).bind fun t41 => impl_AreEdges_l0 E x0 x5 x6 t41))
 ((U.bin .add x7 (.int .i64 1)).bind fun t42 => impl_AreEdges_l0 E x0 x5 x6 t42)) else none) else none) else none else none) else none) else none else none)
 (some (.bool true)) :=
 (loop_eq E _ _ _ _).trans (by kernel_rfl)

/-- In the environment E: this function and those that it calls. -/
structure G_impl_AreEdges (E : Env) : Prop where
  is : Is E 3 1 impl_AreEdges_ac [(2, none)]
  c_impl_in : G_impl_in E
  c_impl_isID : G_impl_isID E
  c_impl_isKey : G_impl_isKey E
  c_impl_compareEdges : G_impl_compareEdges E
theorem impl_AreEdges_E {E : Env} (h : G_impl_AreEdges E) (a0 : U) : E 3 [a0] =
 (U.lenOf false a0).bind fun n1 => impl_AreEdges_l0 E a0 a0 (.int .i64 (n1 : Int)) (.int .i64 0) := (h.is _ rfl).trans (impl_AreEdges_eq E a0)

end Go.Proofs.Ytfdcdbkblkehcaa.Am
namespace Go.Proofs.Ytfdcdbkblkehcaa.Am
open Go
set_option linter.unusedVariables false
set_option maxRecDepth 100000

/- loop.example/g01924/laws.eqEdge -/
def laws_eqEdge_ac : AC :=
 (.seq (.region 0 [⟨some 2, .box false (.t 0), none⟩,
  ⟨some 3, .box false (.t 1), none⟩,
  ⟨some 4, .mv (.c (.bool false)), none⟩])
 (.seq (.seq (.region 0 [⟨some 5, .faddr 0 0 (.t 2), none⟩,
  ⟨some 6, .load false 1 (.t 5), none⟩,
  ⟨some 7, .faddr 0 0 (.t 3), none⟩,
  ⟨some 8, .load false 1 (.t 7), none⟩,
  ⟨some 9, .bin .neq (.t 6) (.t 8), none⟩])
 (.cond (.t 9) (.seq (.region 0 [⟨some 4, .mv (.c (.bool false)), none⟩])
 .ret) .skip))
 (.seq (.seq (.region 0 [⟨some 10, .faddr 1 1 (.t 2), none⟩,
  ⟨some 11, .load false 1 (.t 10), none⟩,
  ⟨some 12, .faddr 1 1 (.t 3), none⟩,
  ⟨some 13, .load false 1 (.t 12), none⟩,
  ⟨some 14, .bin .neq (.t 11) (.t 13), none⟩])
 (.cond (.t 14) (.seq (.region 0 [⟨some 4, .mv (.c (.bool false)), none⟩])
 .ret) .skip))
 (.seq (.seq (.region 0 [⟨some 15, .faddr 2 2 (.t 2), none⟩,
  ⟨some 16, .load false 1 (.t 15), none⟩,
  ⟨some 17, .faddr 2 2 (.t 3), none⟩,
  ⟨some 18, .load false 1 (.t 17), none⟩,
  ⟨some 19, .bin .neq (.t 16) (.t 18), none⟩])
 (.cond (.t 19) (.seq (.region 0 [⟨some 4, .mv (.c (.bool false)), none⟩])
 .ret) .skip))
 (.seq (.seq (.region 0 [⟨some 20, .faddr 3 3 (.t 2), none⟩,
  ⟨some 21, .load false 1 (.t 20), none⟩,
  ⟨some 22, .faddr 3 3 (.t 3), none⟩,
  ⟨some 23, .load false 1 (.t 22), none⟩,
  ⟨some 24, .bin .neq (.t 21) (.t 23), none⟩])
 (.cond (.t 24) (.seq (.region 0 [⟨some 4, .mv (.c (.bool false)), none⟩])
 .ret) .skip))
 (.seq (.region 0 [⟨some 4, .mv (.c (.bool true)), none⟩])
 .ret))))))

theorem laws_eqEdge_eq (E : Env) (a0 : U) (a1 : U) : run E laws_eqEdge_ac [(4, none)] [a0, a1] =
 U.noTup a0 fun x1 => U.noTup a1 fun x2 => U.asAgg x1 fun us3 => if 0 = sizes (us3.take 0) then (us3[0]?).bind fun e4 => U.asVar false 1 e4 fun e5 => U.asAgg x2 fun us6 => if 0 = sizes (us6.take 0) then (us6[0]?).bind fun e7 => U.asVar false 1 e7 fun e8 => (U.bin .neq e5 e8).bind fun t9 => U.asBool t9
 (some (.bool false))
 (U.asAgg x1 fun us10 => if 1 = sizes (us10.take 1) then (us10[1]?).bind fun e11 => U.asVar false 1 e11 fun e12 => U.asAgg x2 fun us13 => if 1 = sizes (us13.take 1) then (us13[1]?).bind fun e14 => U.asVar false 1 e14 fun e15 => (U.bin .neq e12 e15).bind fun t16 => U.asBool t16
 (some (.bool false))
 (U.asAgg x1 fun us17 => if 2 = sizes (us17.take 2) then (us17[2]?).bind fun e18 => U.asVar false 1 e18 fun e19 => U.asAgg x2 fun us20 => if 2 = sizes (us20.take 2) then (us20[2]?).bind fun e21 => U.asVar false 1 e21 fun e22 => (U.bin .neq e19 e22).bind fun t23 => U.asBool t23
 (some (.bool false))
 (U.asAgg x1 fun us24 => if 3 = sizes (us24.take 3) then (us24[3]?).bind fun e25 => U.asVar false 1 e25 fun e26 => U.asAgg x2 fun us27 => if 3 = sizes (us27.take 3) then (us27[3]?).bind fun e28 => U.asVar false 1 e28 fun e29 => (U.bin .neq e26 e29).bind fun t30 => U.asBool t30
 (some (.bool false))
 (some (.bool true)) else none else none) else none else none) else none else none) else none else none := by kernel_rfl

/-- In the environment E: this function and those that it calls. -/
structure G_laws_eqEdge (E : Env) : Prop where
  is : Is E 16 2 laws_eqEdge_ac [(4, none)]
theorem laws_eqEdge_E {E : Env} (h : G_laws_eqEdge E) (a0 a1 : U) : E 16 [a0, a1] =
 U.noTup a0 fun x1 => U.noTup a1 fun x2 => U.asAgg x1 fun us3 => if 0 = sizes (us3.take 0) then (us3[0]?).bind fun e4 => U.asVar false 1 e4 fun e5 => U.asAgg x2 fun us6 => if 0 = sizes (us6.take 0) then (us6[0]?).bind fun e7 => U.asVar false 1 e7 fun e8 => (U.bin .neq e5 e8).bind fun t9 => U.asBool t9
 (some (.bool false))
 (U.asAgg x1 fun us10 => if 1 = sizes (us10.take 1) then (us10[1]?).bind fun e11 => U.asVar false 1 e11 fun e12 => U.asAgg x2 fun us13 => if 1 = sizes (us13.take 1) then (us13[1]?).bind fun e14 => U.asVar false 1 e14 fun e15 => (U.bin .neq e12 e15).bind fun t16 => U.asBool t16
 (some (.bool false))
 (U.asAgg x1 fun us17 => if 2 = sizes (us17.take 2) then (us17[2]?).bind fun e18 => U.asVar false 1 e18 fun e19 => U.asAgg x2 fun us20 => if 2 = sizes (us20.take 2) then (us20[2]?).bind fun e21 => U.asVar false 1 e21 fun e22 => (U.bin .neq e19 e22).bind fun t23 => U.asBool t23
 (some (.bool false))
 (U.asAgg x1 fun us24 => if 3 = sizes (us24.take 3) then (us24[3]?).bind fun e25 => U.asVar false 1 e25 fun e26 => U.asAgg x2 fun us27 => if 3 = sizes (us27.take 3) then (us27[3]?).bind fun e28 => U.asVar false 1 e28 fun e29 => (U.bin .neq e26 e29).bind fun t30 => U.asBool t30
 (some (.bool false))
 (some (.bool true)) else none else none) else none else none) else none else none) else none else none := (h.is _ rfl).trans (laws_eqEdge_eq E a0 a1)

end Go.Proofs.Ytfdcdbkblkehcaa.Am
namespace Go.Proofs.Ytfdcdbkblkehcaa.Am
open Go
set_option linter.unusedVariables false
set_option maxRecDepth 100000

/- loop.example/g01924/laws.eqEdgeS -/
def laws_eqEdgeS_b0 : AC :=
 (.seq (.seq (.region 0 [⟨some 11, .mv (.t 5), none⟩,
  ⟨some 12, .mv (.t 0), none⟩,
  ⟨some 13, .len false (.t 12), none⟩,
  ⟨some 14, .bin .lss (.t 11) (.t 13), none⟩])
 (.cond (.t 14) .skip (.exit 0)))
 (.seq (.block 1 (.seq (.region 10 [⟨some 17, .mv (.t 0), none⟩,
  ⟨some 18, .mv (.t 5), none⟩,
  ⟨some 19, .iaddr 4 (.t 17) (.t 18), none⟩,
  ⟨some 20, .load true 4 (.t 19), none⟩,
  ⟨some 21, .mv (.t 1), none⟩,
  ⟨some 22, .mv (.t 5), none⟩,
  ⟨some 23, .iaddr 4 (.t 21) (.t 22), none⟩,
  ⟨some 24, .load true 4 (.t 23), none⟩,
  ⟨some 25, .call false 16 [(.t 20), (.t 24)], none⟩,
  ⟨some 26, .un .not (.t 25), none⟩])
 (.cond (.t 26) (.seq (.region 0 [⟨some 4, .mv (.c (.bool false)), none⟩])
 .ret) .skip)))
 (.region 0 [⟨some 15, .mv (.t 5), none⟩,
  ⟨some 16, .bin .add (.t 15) (.c (.int .i64 1)), none⟩,
  ⟨some 5, .mv (.t 16), none⟩])))
def laws_eqEdgeS_r0 : AC :=
 (.seq (.region 0 [⟨some 4, .mv (.c (.bool true)), none⟩])
 .ret)
def laws_eqEdgeS_ac : AC :=
 (.seq (.region 0 [⟨some 4, .mv (.c (.bool false)), none⟩])
 (.seq (.seq (.region 0 [⟨some 6, .mv (.t 0), none⟩,
  ⟨some 7, .len false (.t 6), none⟩,
  ⟨some 8, .mv (.t 1), none⟩,
  ⟨some 9, .len false (.t 8), none⟩,
  ⟨some 10, .bin .neq (.t 7) (.t 9), none⟩])
 (.cond (.t 10) (.seq (.region 0 [⟨some 4, .mv (.c (.bool false)), none⟩])
 .ret) .skip))
 (.seq (.seq (.region 0 [⟨some 5, .mv (.c (.int .i64 0)), none⟩])
 (.block 0 (.loop ⟨[0, 1, 5], [], []⟩ laws_eqEdgeS_b0)))
 laws_eqEdgeS_r0)))
noncomputable def laws_eqEdgeS_l0 (E : Env) (x0 : U) (x1 : U) (x5 : U) : Option U := loopK (roundOf E ⟨[0, 1, 5], [], []⟩ laws_eqEdgeS_b0 (blockK 0 (seqK (fun s => exec E laws_eqEdgeS_r0 s (finish [(4, none)])) (finish [(4, none)])))) ([.val x0, .val x1, .val x5], [])
theorem laws_eqEdgeS_eq (E : Env) (a0 : U) (a1 : U) : run E laws_eqEdgeS_ac [(4, none)] [a0, a1] =
 (U.lenOf false a0).bind fun n1 => (U.lenOf false a1).bind fun n2 => (U.bin .neq (.int .i64 (n1 : Int)) (.int .i64 (n2 : Int))).bind fun t3 => U.asBool t3
 (some (.bool false))
 (laws_eqEdgeS_l0 E a0 a1 (.int .i64 0)) := by kernel_rfl
theorem laws_eqEdgeS_l0_eq (E : Env) (x0 : U) (x1 : U) (x5 : U) : laws_eqEdgeS_l0 E x0 x1 x5 =
 (U.lenOf false x0).bind fun n4 => (U.bin .lss x5 (.int .i64 (n4 : Int))).bind fun t5 => U.asBool t5
 (U.asInt x5 fun n6 => U.elemAt 4 x0 n6 fun e7 => U.asVar true 4 e7 fun e8 => U.asInt x5 fun n9 => U.elemAt 4 x1 n9 fun e10 => U.asVar true 4 e10 fun e11 => (E 16 [e8, e11]).bind fun t12 => (U.un .not t12).bind fun t13 => U.asBool t13
 (some (.bool false))
 ((U.bin .add x5 (.int .i64 1)).bind fun t14 => laws_eqEdgeS_l0 E x0 x1 t14))
 (some (.bool true)) :=
 (loop_eq E _ _ _ _).trans (by kernel_rfl)

/-- In the environment E: this function and those that it calls. -/
structure G_laws_eqEdgeS (E : Env) : Prop where
  is : Is E 2 2 laws_eqEdgeS_ac [(4, none)]
  c_laws_eqEdge : G_laws_eqEdge E
theorem laws_eqEdgeS_E {E : Env} (h : G_laws_eqEdgeS E) (a0 a1 : U) : E 2 [a0, a1] =
 (U.lenOf false a0).bind fun n1 => (U.lenOf false a1).bind fun n2 => (U.bin .neq (.int .i64 (n1 : Int)) (.int .i64 (n2 : Int))).bind fun t3 => U.asBool t3
 (some (.bool false))
 (laws_eqEdgeS_l0 E a0 a1 (.int .i64 0)) := (h.is _ rfl).trans (laws_eqEdgeS_eq E a0 a1)

end Go.Proofs.Ytfdcdbkblkehcaa.Am
namespace Go.Proofs.Ytfdcdbkblkehcaa.Am
open Go
set_option linter.unusedVariables false
set_option maxRecDepth 100000

/- loop.example/g01924/laws.FnExactAreEdges -/
def laws_FnExactAreEdges_ac : AC :=
 (.seq (.region 0 [⟨some 2, .mv (.c (.bool false)), none⟩])
 (.seq (.region 0 [⟨some 3, .mv (.c (.int .i64 1048576)), none⟩])
 (.seq (.region 0 [⟨some 7, .mv (.t 0), none⟩,
  ⟨some 8, .mv (.t 3), none⟩,
  ⟨some 9, .call false 5 [(.t 7), (.t 8)], none⟩,
  ⟨some 3, .mv (.t 9), none⟩])
 (.seq (.seq (.region 0 [⟨some 10, .mv (.t 3), none⟩,
  ⟨some 11, .bin .lss (.t 10) (.c (.int .i64 0)), none⟩])
 (.cond (.t 11) (.seq (.region 0 [⟨some 2, .mv (.c (.bool true)), none⟩])
 .ret) .skip))
 (.seq (.region 0 [⟨some 12, .mv (.t 0), none⟩,
  ⟨some 13, .call false 1 [(.t 12)], none⟩,
  ⟨some 14, .call false 4 [(.t 13)], none⟩,
  ⟨some 4, .mv (.t 14), none⟩])
 (.seq (.region 0 [⟨some 15, .mv (.t 0), none⟩,
  ⟨some 16, .call false 1 [(.t 15)], none⟩,
  ⟨some 5, .mv (.t 16), none⟩])
 (.seq (.region 0 [⟨some 17, .mv (.t 5), none⟩,
  ⟨some 18, .call false 3 [(.t 17)], none⟩,
  ⟨some 6, .mv (.t 18), none⟩])
 (.seq (.seq (.region 0 [⟨some 19, .mv (.t 6), none⟩,
  ⟨some 20, .mv (.t 4), none⟩,
  ⟨some 21, .eqv true 0 (.t 19) (.t 20), none⟩])
 (.cond (.t 21) (.seq (.region 0 [⟨some 2, .mv (.c (.bool false)), none⟩])
 .ret) .skip))
 (.seq (.seq (.region 0 [⟨some 22, .mv (.t 5), none⟩,
  ⟨some 23, .mv (.t 0), none⟩,
  ⟨some 24, .call false 1 [(.t 23)], none⟩,
  ⟨some 25, .call false 2 [(.t 22), (.t 24)], none⟩,
  ⟨some 26, .un .not (.t 25), none⟩])
 (.cond (.t 26) (.seq (.region 0 [⟨some 2, .mv (.c (.bool false)), none⟩])
 .ret) .skip))
 (.seq (.region 0 [⟨some 2, .mv (.c (.bool true)), none⟩])
 .ret))))))))))

theorem laws_FnExactAreEdges_eq (E : Env) (a0 : U) : run E laws_FnExactAreEdges_ac [(2, none)] [a0] =
 (E 5 [a0, (.int .i64 1048576)]).bind fun t1 => (U.bin .lss t1 (.int .i64 0)).bind fun t2 => U.asBool t2
 (some (.bool true))
 ((E 1 [a0]).bind fun t3 => (E 4 [t3]).bind fun t4 => (E 1 [a0]).bind fun t5 => (E 3 [t5]).bind fun t6 => (U.eqv 0 t6 t4).bind fun q7 => U.asBool (.bool (!q7))
 (some (.bool false))
 ((E 1 [a0]).bind fun t8 => (E 2 [t5, t8]).bind fun t9 => (U.un .not t9).bind fun t10 => U.asBool t10
 (some (.bool false))
 (some (.bool true)))) := by kernel_rfl

/-- In the environment E: this function and those that it calls. -/
structure G_laws_FnExactAreEdges (E : Env) : Prop where
  is : Is E 0 1 laws_FnExactAreEdges_ac [(2, none)]
  c_laws_szEdgeS : G_laws_szEdgeS E
  c_spec_AreEdges : G_spec_AreEdges E
  c_laws_toEdgeS : G_laws_toEdgeS E
  c_impl_AreEdges : G_impl_AreEdges E
  c_laws_eqEdgeS : G_laws_eqEdgeS E
theorem laws_FnExactAreEdges_E {E : Env} (h : G_laws_FnExactAreEdges E) (a0 : U) : E 0 [a0] =
 (E 5 [a0, (.int .i64 1048576)]).bind fun t1 => (U.bin .lss t1 (.int .i64 0)).bind fun t2 => U.asBool t2
 (some (.bool true))
 ((E 1 [a0]).bind fun t3 => (E 4 [t3]).bind fun t4 => (E 1 [a0]).bind fun t5 => (E 3 [t5]).bind fun t6 => (U.eqv 0 t6 t4).bind fun q7 => U.asBool (.bool (!q7))
 (some (.bool false))
 ((E 1 [a0]).bind fun t8 => (E 2 [t5, t8]).bind fun t9 => (U.un .not t9).bind fun t10 => U.asBool t10
 (some (.bool false))
 (some (.bool true)))) := (h.is _ rfl).trans (laws_FnExactAreEdges_eq E a0)

end Go.Proofs.Ytfdcdbkblkehcaa.Am
namespace Go.Proofs.Ytfdcdbkblkehcaa.Am
open Go
set_option linter.unusedVariables false
set_option maxRecDepth 100000

/- loop.example/g01924/spec.l28Tx -/
def spec_l28Tx_ac : AC :=
 (.seq (.region 0 [⟨some 1, .box false (.t 0), none⟩,
  ⟨some 2, .alloc (.agg [(.int .i64 0), (.int .i64 0), (.int .i64 0), (.int .i64 0), (.int .i64 0), (.int .i64 0), (.int .i64 0), (.nsl 2), (.nsl 2)]), none⟩])
 (.seq (.region 0 [⟨some 3, .faddr 1 1 (.t 1), none⟩,
  ⟨some 4, .load false 1 (.t 3), none⟩,
  ⟨some 5, .faddr 0 0 (.t 1), none⟩,
  ⟨some 6, .load false 1 (.t 5), none⟩,
  ⟨some 7, .faddr 2 2 (.t 1), none⟩,
  ⟨some 8, .load false 1 (.t 7), none⟩,
  ⟨some 9, .faddr 4 4 (.t 1), none⟩,
  ⟨some 10, .load false 1 (.t 9), none⟩,
  ⟨some 11, .faddr 5 5 (.t 1), none⟩,
  ⟨some 12, .load false 1 (.t 11), none⟩,
  ⟨some 13, .build [(.int .i64 0), (.int .i64 0), (.int .i64 0), (.int .i64 0), (.int .i64 0), (.int .i64 0), (.int .i64 0), (.nsl 2), (.nsl 2)] [(0, (.t 4)), (1, (.c (.int .i64 1))), (2, (.c (.int .i64 2))), (6, (.t 6)), (5, (.t 8)), (7, (.t 10)), (8, (.t 12))], none⟩,
  ⟨none, .store 9 (.t 2) (.t 13), none⟩])
 .ret))

theorem spec_l28Tx_eq (E : Env) (a0 : U) : run E spec_l28Tx_ac [(2, some (true, 9))] [a0] =
 U.noTup a0 fun x1 => U.asAgg x1 fun us2 => if 1 = sizes (us2.take 1) then (us2[1]?).bind fun e3 => U.asVar false 1 e3 fun e4 => U.asAgg x1 fun us5 => if 0 = sizes (us5.take 0) then (us5[0]?).bind fun e6 => U.asVar false 1 e6 fun e7 => U.asAgg x1 fun us8 => if 2 = sizes (us8.take 2) then (us8[2]?).bind fun e9 => U.asVar false 1 e9 fun e10 => U.asAgg x1 fun us11 => if 4 = sizes (us11.take 4) then (us11[4]?).bind fun e12 => U.asVar false 1 e12 fun e13 => U.asAgg x1 fun us14 => if 5 = sizes (us14.take 5) then (us14[5]?).bind fun e15 => U.asVar false 1 e15 fun e16 => if storable (.val e4) = true ∧ e4.size = 1 then if storable (.val e7) = true ∧ e7.size = 1 then if storable (.val e10) = true ∧ e10.size = 1 then if storable (.val e13) = true ∧ e13.size = 1 then if storable (.val e16) = true ∧ e16.size = 1 then if storable (.val (.agg [e4, (.int .i64 1), (.int .i64 2), (.int .i64 0), (.int .i64 0), e10, e7, e13, e16])) = true ∧ ((.agg [e4, (.int .i64 1), (.int .i64 2), (.int .i64 0), (.int .i64 0), e10, e7, e13, e16]) : U).size = 9 then U.asVar true 9 (.agg [e4, (.int .i64 1), (.int .i64 2), (.int .i64 0), (.int .i64 0), e10, e7, e13, e16]) fun e17 => some e17 else none else none else none else none else none else none else none else none else none else none else none := by kernel_rfl

/-- In the environment E: this function and those that it calls. -/
structure G_spec_l28Tx (E : Env) : Prop where
  is : Is E 25 1 spec_l28Tx_ac [(2, some (true, 9))]
theorem spec_l28Tx_E {E : Env} (h : G_spec_l28Tx E) (a0 : U) : E 25 [a0] =
 U.noTup a0 fun x1 => U.asAgg x1 fun us2 => if 1 = sizes (us2.take 1) then (us2[1]?).bind fun e3 => U.asVar false 1 e3 fun e4 => U.asAgg x1 fun us5 => if 0 = sizes (us5.take 0) then (us5[0]?).bind fun e6 => U.asVar false 1 e6 fun e7 => U.asAgg x1 fun us8 => if 2 = sizes (us8.take 2) then (us8[2]?).bind fun e9 => U.asVar false 1 e9 fun e10 => U.asAgg x1 fun us11 => if 4 = sizes (us11.take 4) then (us11[4]?).bind fun e12 => U.asVar false 1 e12 fun e13 => U.asAgg x1 fun us14 => if 5 = sizes (us14.take 5) then (us14[5]?).bind fun e15 => U.asVar false 1 e15 fun e16 => if storable (.val e4) = true ∧ e4.size = 1 then if storable (.val e7) = true ∧ e7.size = 1 then if storable (.val e10) = true ∧ e10.size = 1 then if storable (.val e13) = true ∧ e13.size = 1 then if storable (.val e16) = true ∧ e16.size = 1 then if storable (.val (.agg [e4, (.int .i64 1), (.int .i64 2), (.int .i64 0), (.int .i64 0), e10, e7, e13, e16])) = true ∧ ((.agg [e4, (.int .i64 1), (.int .i64 2), (.int .i64 0), (.int .i64 0), e10, e7, e13, e16]) : U).size = 9 then U.asVar true 9 (.agg [e4, (.int .i64 1), (.int .i64 2), (.int .i64 0), (.int .i64 0), e10, e7, e13, e16]) fun e17 => some e17 else none else none else none else none else none else none else none else none else none else none else none := (h.is _ rfl).trans (spec_l28Tx_eq E a0)

end Go.Proofs.Ytfdcdbkblkehcaa.Am
namespace Go.Proofs.Ytfdcdbkblkehcaa.Am
open Go
set_option linter.unusedVariables false
set_option maxRecDepth 100000

/- loop.example/g01924/spec.EqualRecords -/
def spec_EqualRecords_ac : AC :=
 (.seq (.region 0 [⟨some 2, .box false (.t 0), none⟩,
  ⟨some 3, .box false (.t 1), none⟩,
  ⟨some 4, .mv (.c (.bool false)), none⟩])
 (.seq (.region 13 [⟨some 5, .faddr 3 3 (.t 2), none⟩,
  ⟨some 6, .load false 1 (.t 5), none⟩,
  ⟨some 7, .faddr 3 3 (.t 3), none⟩,
  ⟨some 8, .load false 1 (.t 7), none⟩,
  ⟨some 9, .bin .eql (.t 6) (.t 8), none⟩,
  ⟨some 10, .mv (.t 9), none⟩,
  ⟨some 11, .load true 6 (.t 2), some (10, true)⟩,
  ⟨some 12, .call false 25 [(.t 11)], some (10, true)⟩,
  ⟨some 13, .load true 6 (.t 3), some (10, true)⟩,
  ⟨some 14, .call false 25 [(.t 13)], some (10, true)⟩,
  ⟨some 15, .call false 26 [(.t 12), (.t 14)], some (10, true)⟩,
  ⟨some 16, .pick (.t 10) (.t 15) (.c (.bool false)), none⟩,
  ⟨some 4, .mv (.t 16), none⟩])
 .ret))

theorem spec_EqualRecords_eq (E : Env) (a0 : U) (a1 : U) : run E spec_EqualRecords_ac [(4, none)] [a0, a1] =
 U.noTup a0 fun x1 => U.noTup a1 fun x2 => U.asAgg x1 fun us3 => if 3 = sizes (us3.take 3) then (us3[3]?).bind fun e4 => U.asVar false 1 e4 fun e5 => U.asAgg x2 fun us6 => if 3 = sizes (us6.take 3) then (us6[3]?).bind fun e7 => U.asVar false 1 e7 fun e8 => (U.bin .eql e5 e8).bind fun t9 => U.asBool t9
 (U.asVar true 6 x1 fun e10 => (E 25 [e10]).bind fun t11 => U.asVar true 6 x2 fun e12 => (E 25 [e12]).bind fun t13 => (E 26 [t11, t13]).bind fun t14 => some t14)
 (some (.bool false)) else none else none := by kernel_rfl

/-- In the environment E: this function and those that it calls. -/
structure G_spec_EqualRecords (E : Env) : Prop where
  is : Is E 21 2 spec_EqualRecords_ac [(4, none)]
  c_spec_EqualTransactions : G_spec_EqualTransactions E
  c_spec_l28Tx : G_spec_l28Tx E
theorem spec_EqualRecords_E {E : Env} (h : G_spec_EqualRecords E) (a0 a1 : U) : E 21 [a0, a1] =
 U.noTup a0 fun x1 => U.noTup a1 fun x2 => U.asAgg x1 fun us3 => if 3 = sizes (us3.take 3) then (us3[3]?).bind fun e4 => U.asVar false 1 e4 fun e5 => U.asAgg x2 fun us6 => if 3 = sizes (us6.take 3) then (us6[3]?).bind fun e7 => U.asVar false 1 e7 fun e8 => (U.bin .eql e5 e8).bind fun t9 => U.asBool t9
 (U.asVar true 6 x1 fun e10 => (E 25 [e10]).bind fun t11 => U.asVar true 6 x2 fun e12 => (E 25 [e12]).bind fun t13 => (E 26 [t11, t13]).bind fun t14 => some t14)
 (some (.bool false)) else none else none := (h.is _ rfl).trans (spec_EqualRecords_eq E a0 a1)

end Go.Proofs.Ytfdcdbkblkehcaa.Am
namespace Go.Proofs.Ytfdcdbkblkehcaa.Am
open Go
set_option linter.unusedVariables false
set_option maxRecDepth 100000

/- loop.example/g01924/impl.EqualRecords -/
def impl_EqualRecords_ac : AC :=
 (.seq (.region 0 [⟨some 2, .box false (.t 0), none⟩,
  ⟨some 3, .box false (.t 1), none⟩,
  ⟨some 4, .mv (.c (.bool false)), none⟩])
 (.seq (.region 0 [⟨some 5, .faddr 0 0 (.t 2), none⟩,
  ⟨some 6, .load false 1 (.t 5), none⟩,
  ⟨some 7, .faddr 0 0 (.t 3), none⟩,
  ⟨some 8, .load false 1 (.t 7), none⟩,
  ⟨some 9, .bin .eql (.t 6) (.t 8), none⟩,
  ⟨some 10, .mv (.t 9), none⟩,
  ⟨some 11, .faddr 1 1 (.t 2), some (10, true)⟩,
  ⟨some 12, .load false 1 (.t 11), some (10, true)⟩,
  ⟨some 13, .faddr 1 1 (.t 3), some (10, true)⟩,
  ⟨some 14, .load false 1 (.t 13), some (10, true)⟩,
  ⟨some 15, .bin .eql (.t 12) (.t 14), some (10, true)⟩,
  ⟨some 16, .pick (.t 10) (.t 15) (.c (.bool false)), none⟩,
  ⟨some 17, .mv (.t 16), none⟩,
  ⟨some 18, .faddr 2 2 (.t 2), some (17, true)⟩,
  ⟨some 19, .load false 1 (.t 18), some (17, true)⟩,
  ⟨some 20, .faddr 2 2 (.t 3), some (17, true)⟩,
  ⟨some 21, .load false 1 (.t 20), some (17, true)⟩,
  ⟨some 22, .bin .eql (.t 19) (.t 21), some (17, true)⟩,
  ⟨some 23, .pick (.t 17) (.t 22) (.c (.bool false)), none⟩,
  ⟨some 24, .mv (.t 23), none⟩,
  ⟨some 25, .faddr 3 3 (.t 2), some (24, true)⟩,
  ⟨some 26, .load false 1 (.t 25), some (24, true)⟩,
  ⟨some 27, .faddr 3 3 (.t 3), some (24, true)⟩,
  ⟨some 28, .load false 1 (.t 27), some (24, true)⟩,
  ⟨some 29, .bin .eql (.t 26) (.t 28), some (24, true)⟩,
  ⟨some 30, .pick (.t 24) (.t 29) (.c (.bool false)), none⟩,
  ⟨some 31, .mv (.t 30), none⟩,
  ⟨some 32, .faddr 4 4 (.t 2), some (31, true)⟩,
  ⟨some 33, .load false 1 (.t 32), some (31, true)⟩,
  ⟨some 34, .faddr 4 4 (.t 3), some (31, true)⟩,
  ⟨some 35, .load false 1 (.t 34), some (31, true)⟩,
  ⟨some 36, .call false 31 [(.t 33), (.t 35)], some (31, true)⟩,
  ⟨some 37, .pick (.t 31) (.t 36) (.c (.bool false)), none⟩,
  ⟨some 38, .mv (.t 37), none⟩,
  ⟨some 39, .faddr 5 5 (.t 2), some (38, true)⟩,
  ⟨some 40, .load false 1 (.t 39), some (38, true)⟩,
  ⟨some 41, .faddr 5 5 (.t 3), some (38, true)⟩,
  ⟨some 42, .load false 1 (.t 41), some (38, true)⟩,
  ⟨some 43, .call false 32 [(.t 40), (.t 42)], some (38, true)⟩,
  ⟨some 44, .pick (.t 38) (.t 43) (.c (.bool false)), none⟩,
  ⟨some 4, .mv (.t 44), none⟩])
 .ret))

theorem impl_EqualRecords_eq (E : Env) (a0 : U) (a1 : U) : run E impl_EqualRecords_ac [(4, none)] [a0, a1] =
 U.noTup a0 fun x1 => U.noTup a1 fun x2 => U.asAgg x1 fun us3 => if 0 = sizes (us3.take 0) then (us3[0]?).bind fun e4 => U.asVar false 1 e4 fun e5 => U.asAgg x2 fun us6 => if 0 = sizes (us6.take 0) then (us6[0]?).bind fun e7 => U.asVar false 1 e7 fun e8 => (U.bin .eql e5 e8).bind fun t9 => U.asBool t9
 (U.asAgg x1 fun us10 => if 1 = sizes (us10.take 1) then (us10[1]?).bind fun e11 => U.asVar false 1 e11 fun e12 => U.asAgg x2 fun us13 => if 1 = sizes (us13.take 1) then (us13[1]?).bind fun e14 => U.asVar false 1 e14 fun e15 => (U.bin .eql e12 e15).bind fun t16 => U.asBool t16
 (U.asAgg x1 fun us17 => if 2 = sizes (us17.take 2) then (us17[2]?).bind fun e18 => U.asVar false 1 e18 fun e19 => U.asAgg x2 fun us20 => if 2 = sizes (us20.take 2) then (us20[2]?).bind fun e21 => U.asVar false 1 e21 fun e22 => (U.bin .eql e19 e22).bind fun t23 => U.asBool t23
 (U.asAgg x1 fun us24 => if 3 = sizes (us24.take 3) then (us24[3]?).bind fun e25 => U.asVar false 1 e25 fun e26 => U.asAgg x2 fun us27 => if 3 = sizes (us27.take 3) then (us27[3]?).bind fun e28 => U.asVar false 1 e28 fun e29 => (U.bin .eql e26 e29).bind fun t30 => U.asBool t30
 (U.asAgg x1 fun us31 => if 4 = sizes (us31.take 4) then (us31[4]?).bind fun e32 => U.asVar false 1 e32 fun e33 => U.asAgg x2 fun us34 => if 4 = sizes (us34.take 4) then (us34[4]?).bind fun e35 => U.asVar false 1 e35 fun e36 => (E 31 [e33, e36]).bind fun t37 => U.asBool t37
 (U.asAgg x1 fun us38 => if 5 = sizes (us38.take 5) then (us38[5]?).bind fun e39 => U.asVar false 1 e39 fun e40 => U.asAgg x2 fun us41 => if 5 = sizes (us41.take 5) then (us41[5]?).bind fun e42 => U.asVar false 1 e42 fun e43 => (E 32 [e40, e43]).bind fun t44 => some t44 else none else none)
 (some (.bool false)) else none else none)
 (some (.bool false)) else none else none)
 (some (.bool false)) else none else none)
 (some (.bool false)) else none else none)
 (some (.bool false)) else none else none := by kernel_rfl

/-- In the environment E: this function and those that it calls. -/
structure G_impl_EqualRecords (E : Env) : Prop where
  is : Is E 20 2 impl_EqualRecords_ac [(4, none)]
  c_slices_Equal_g31 : G_slices_Equal_g31 E
  c_slices_Equal_g32 : G_slices_Equal_g32 E
theorem impl_EqualRecords_E {E : Env} (h : G_impl_EqualRecords E) (a0 a1 : U) : E 20 [a0, a1] =
 U.noTup a0 fun x1 => U.noTup a1 fun x2 => U.asAgg x1 fun us3 => if 0 = sizes (us3.take 0) then (us3[0]?).bind fun e4 => U.asVar false 1 e4 fun e5 => U.asAgg x2 fun us6 => if 0 = sizes (us6.take 0) then (us6[0]?).bind fun e7 => U.asVar false 1 e7 fun e8 => (U.bin .eql e5 e8).bind fun t9 => U.asBool t9
 (U.asAgg x1 fun us10 => if 1 = sizes (us10.take 1) then (us10[1]?).bind fun e11 => U.asVar false 1 e11 fun e12 => U.asAgg x2 fun us13 => if 1 = sizes (us13.take 1) then (us13[1]?).bind fun e14 => U.asVar false 1 e14 fun e15 => (U.bin .eql e12 e15).bind fun t16 => U.asBool t16
 (U.asAgg x1 fun us17 => if 2 = sizes (us17.take 2) then (us17[2]?).bind fun e18 => U.asVar false 1 e18 fun e19 => U.asAgg x2 fun us20 => if 2 = sizes (us20.take 2) then (us20[2]?).bind fun e21 => U.asVar false 1 e21 fun e22 => (U.bin .eql e19 e22).bind fun t23 => U.asBool t23
 (U.asAgg x1 fun us24 => if 3 = sizes (us24.take 3) then (us24[3]?).bind fun e25 => U.asVar false 1 e25 fun e26 => U.asAgg x2 fun us27 => if 3 = sizes (us27.take 3) then (us27[3]?).bind fun e28 => U.asVar false 1 e28 fun e29 => (U.bin .eql e26 e29).bind fun t30 => U.asBool t30
 (U.asAgg x1 fun us31 => if 4 = sizes (us31.take 4) then (us31[4]?).bind fun e32 => U.asVar false 1 e32 fun e33 => U.asAgg x2 fun us34 => if 4 = sizes (us34.take 4) then (us34[4]?).bind fun e35 => U.asVar false 1 e35 fun e36 => (E 31 [e33, e36]).bind fun t37 => U.asBool t37
 (U.asAgg x1 fun us38 => if 5 = sizes (us38.take 5) then (us38[5]?).bind fun e39 => U.asVar false 1 e39 fun e40 => U.asAgg x2 fun us41 => if 5 = sizes (us41.take 5) then (us41[5]?).bind fun e42 => U.asVar false 1 e42 fun e43 => (E 32 [e40, e43]).bind fun t44 => some t44 else none else none)
 (some (.bool false)) else none else none)
 (some (.bool false)) else none else none)
 (some (.bool false)) else none else none)
 (some (.bool false)) else none else none)
 (some (.bool false)) else none else none := (h.is _ rfl).trans (impl_EqualRecords_eq E a0 a1)

end Go.Proofs.Ytfdcdbkblkehcaa.Am
namespace Go.Proofs.Ytfdcdbkblkehcaa.Am
open Go
set_option linter.unusedVariables false
set_option maxRecDepth 100000

/- loop.example/g01924/spec.l5Before -/
def spec_l5Before_ac : AC :=
 (.seq (.region 0 [⟨some 2, .box false (.t 0), none⟩,
  ⟨some 3, .box false (.t 1), none⟩,
  ⟨some 4, .mv (.c (.bool false)), none⟩])
 (.seq (.region 0 [⟨some 5, .faddr 0 0 (.t 2), none⟩,
  ⟨some 6, .load false 1 (.t 5), none⟩,
  ⟨some 7, .faddr 0 0 (.t 3), none⟩,
  ⟨some 8, .load false 1 (.t 7), none⟩,
  ⟨some 9, .bin .lss (.t 6) (.t 8), none⟩,
  ⟨some 10, .mv (.t 9), none⟩,
  ⟨some 11, .faddr 0 0 (.t 2), some (10, false)⟩,
  ⟨some 12, .load false 1 (.t 11), some (10, false)⟩,
  ⟨some 13, .faddr 0 0 (.t 3), some (10, false)⟩,
  ⟨some 14, .load false 1 (.t 13), some (10, false)⟩,
  ⟨some 15, .bin .eql (.t 12) (.t 14), some (10, false)⟩,
  ⟨some 16, .mv (.t 15), some (10, false)⟩,
  ⟨some 17, .faddr 1 1 (.t 2), some (16, true)⟩,
  ⟨some 18, .load false 1 (.t 17), some (16, true)⟩,
  ⟨some 19, .faddr 1 1 (.t 3), some (16, true)⟩,
  ⟨some 20, .load false 1 (.t 19), some (16, true)⟩,
  ⟨some 21, .bin .lss (.t 18) (.t 20), some (16, true)⟩,
  ⟨some 22, .pick (.t 16) (.t 21) (.c (.bool false)), some (10, false)⟩,
  ⟨some 23, .pick (.t 10) (.c (.bool true)) (.t 22), none⟩,
  ⟨some 4, .mv (.t 23), none⟩])
 .ret))

theorem spec_l5Before_eq (E : Env) (a0 : U) (a1 : U) : run E spec_l5Before_ac [(4, none)] [a0, a1] =
 U.noTup a0 fun x1 => U.noTup a1 fun x2 => U.asAgg x1 fun us3 => if 0 = sizes (us3.take 0) then (us3[0]?).bind fun e4 => U.asVar false 1 e4 fun e5 => U.asAgg x2 fun us6 => if 0 = sizes (us6.take 0) then (us6[0]?).bind fun e7 => U.asVar false 1 e7 fun e8 => (U.bin .lss e5 e8).bind fun t9 => U.asBool t9
 (some (.bool true))
 (U.asAgg x1 fun us10 => if 0 = sizes (us10.take 0) then (us10[0]?).bind fun e11 => U.asVar false 1 e11 fun e12 => U.asAgg x2 fun us13 => if 0 = sizes (us13.take 0) then (us13[0]?).bind fun e14 => U.asVar false 1 e14 fun e15 => (U.bin .eql e12 e15).bind fun t16 => U.asBool t16
 (U.asAgg x1 fun us17 => if 1 = sizes (us17.take 1) then (us17[1]?).bind fun e18 => U.asVar false 1 e18 fun e19 => U.asAgg x2 fun us20 => if 1 = sizes (us20.take 1) then (us20[1]?).bind fun e21 => U.asVar false 1 e21 fun e22 => (U.bin .lss e19 e22).bind fun t23 => some t23 else none else none)
 (some (.bool false)) else none else none) else none else none := by kernel_rfl

/-- In the environment E: this function and those that it calls. -/
structure G_spec_l5Before (E : Env) : Prop where
  is : Is E 71 2 spec_l5Before_ac [(4, none)]
theorem spec_l5Before_E {E : Env} (h : G_spec_l5Before E) (a0 a1 : U) : E 71 [a0, a1] =
 U.noTup a0 fun x1 => U.noTup a1 fun x2 => U.asAgg x1 fun us3 => if 0 = sizes (us3.take 0) then (us3[0]?).bind fun e4 => U.asVar false 1 e4 fun e5 => U.asAgg x2 fun us6 => if 0 = sizes (us6.take 0) then (us6[0]?).bind fun e7 => U.asVar false 1 e7 fun e8 => (U.bin .lss e5 e8).bind fun t9 => U.asBool t9
 (some (.bool true))
 (U.asAgg x1 fun us10 => if 0 = sizes (us10.take 0) then (us10[0]?).bind fun e11 => U.asVar false 1 e11 fun e12 => U.asAgg x2 fun us13 => if 0 = sizes (us13.take 0) then (us13[0]?).bind fun e14 => U.asVar false 1 e14 fun e15 => (U.bin .eql e12 e15).bind fun t16 => U.asBool t16
 (U.asAgg x1 fun us17 => if 1 = sizes (us17.take 1) then (us17[1]?).bind fun e18 => U.asVar false 1 e18 fun e19 => U.asAgg x2 fun us20 => if 1 = sizes (us20.take 1) then (us20[1]?).bind fun e21 => U.asVar false 1 e21 fun e22 => (U.bin .lss e19 e22).bind fun t23 => some t23 else none else none)
 (some (.bool false)) else none else none) else none else none := (h.is _ rfl).trans (spec_l5Before_eq E a0 a1)

end Go.Proofs.Ytfdcdbkblkehcaa.Am
namespace Go.Proofs.Ytfdcdbkblkehcaa.Am
open Go
set_option linter.unusedVariables false
set_option maxRecDepth 100000

/- loop.example/g01924/spec.IsValidTransaction -/
def spec_IsValidTransaction_b1 : AC :=
 (.seq (.seq (.region 0 [⟨some 7, .mv (.t 3), none⟩,
  ⟨some 8, .faddr 7 7 (.t 1), none⟩,
  ⟨some 9, .load false 1 (.t 8), none⟩,
  ⟨some 10, .len false (.t 9), none⟩,
  ⟨some 11, .bin .lss (.t 7) (.t 10), none⟩])
 (.cond (.t 11) .skip (.exit 0)))
 (.seq (.block 1 (.seq (.region 0 [⟨some 14, .faddr 7 7 (.t 1), none⟩,
  ⟨some 15, .load false 1 (.t 14), none⟩,
  ⟨some 16, .mv (.t 3), none⟩,
  ⟨some 17, .iaddr 2 (.t 15) (.t 16), none⟩,
  ⟨some 18, .load true 2 (.t 17), none⟩,
  ⟨some 4, .alloc (.agg [(.int .i64 0), (.int .i64 0)]), none⟩,
  ⟨none, .store 2 (.t 4) (.t 18), none⟩])
 (.seq (.region 25 [⟨some 19, .faddr 0 0 (.t 4), none⟩,
  ⟨some 20, .load false 1 (.t 19), none⟩,
  ⟨some 21, .call false 6 [(.t 20), (.c (.int .i64 0)), (.c (.int .i64 5))], none⟩,
  ⟨some 22, .un .not (.t 21), none⟩,
  ⟨some 23, .mv (.t 22), none⟩,
  ⟨some 24, .faddr 1 1 (.t 4), some (23, false)⟩,
  ⟨some 25, .load false 1 (.t 24), some (23, false)⟩,
  ⟨some 26, .call false 6 [(.t 25), (.c (.int .i64 0)), (.c (.int .i64 999))], some (23, false)⟩,
  ⟨some 27, .un .not (.t 26), some (23, false)⟩,
  ⟨some 28, .pick (.t 23) (.c (.bool true)) (.t 27), none⟩,
  ⟨some 29, .mv (.t 28), none⟩,
  ⟨some 30, .mv (.t 3), some (29, false)⟩,
  ⟨some 31, .bin .gtr (.t 30) (.c (.int .i64 0)), some (29, false)⟩,
  ⟨some 32, .mv (.t 31), some (29, false)⟩,
  ⟨some 33, .faddr 7 7 (.t 1), some (32, true)⟩,
  ⟨some 34, .load false 1 (.t 33), some (32, true)⟩,
  ⟨some 35, .mv (.t 3), some (32, true)⟩,
  ⟨some 36, .bin .sub (.t 35) (.c (.int .i64 1)), some (32, true)⟩,
  ⟨some 37, .iaddr 2 (.t 34) (.t 36), some (32, true)⟩,
  ⟨some 38, .load true 2 (.t 37), some (32, true)⟩,
  ⟨some 39, .load true 2 (.t 4), some (32, true)⟩,
  ⟨some 40, .call false 71 [(.t 38), (.t 39)], some (32, true)⟩,
  ⟨some 41, .un .not (.t 40), some (32, true)⟩,
  ⟨some 42, .pick (.t 32) (.t 41) (.c (.bool false)), some (29, false)⟩,
  ⟨some 43, .pick (.t 29) (.c (.bool true)) (.t 42), none⟩])
 (.cond (.t 43) (.seq (.region 0 [⟨some 2, .mv (.c (.bool false)), none⟩])
 .ret) .skip))))
 (.region 0 [⟨some 12, .mv (.t 3), none⟩,
  ⟨some 13, .bin .add (.t 12) (.c (.int .i64 1)), none⟩,
  ⟨some 3, .mv (.t 13), none⟩])))
def spec_IsValidTransaction_b0 : AC :=
 (.seq (.seq (.region 0 [⟨some 44, .mv (.t 5), none⟩,
  ⟨some 45, .faddr 8 8 (.t 1), none⟩,
  ⟨some 46, .load false 1 (.t 45), none⟩,
  ⟨some 47, .len false (.t 46), none⟩,
  ⟨some 48, .bin .lss (.t 44) (.t 47), none⟩])
 (.cond (.t 48) .skip (.exit 2)))
 (.seq (.block 3 (.seq (.region 0 [⟨some 51, .faddr 8 8 (.t 1), none⟩,
  ⟨some 52, .load false 1 (.t 51), none⟩,
  ⟨some 53, .mv (.t 5), none⟩,
  ⟨some 54, .iaddr 2 (.t 52) (.t 53), none⟩,
  ⟨some 55, .load true 2 (.t 54), none⟩,
  ⟨some 6, .alloc (.agg [(.int .i64 0), (.int .i64 0)]), none⟩,
  ⟨none, .store 2 (.t 6) (.t 55), none⟩])
 (.seq (.region 26 [⟨some 56, .faddr 0 0 (.t 6), none⟩,
  ⟨some 57, .load false 1 (.t 56), none⟩,
  ⟨some 58, .call false 6 [(.t 57), (.c (.int .i64 0)), (.c (.int .i64 5))], none⟩,
  ⟨some 59, .un .not (.t 58), none⟩,
  ⟨some 60, .mv (.t 59), none⟩,
  ⟨some 61, .faddr 1 1 (.t 6), some (60, false)⟩,
  ⟨some 62, .load false 1 (.t 61), some (60, false)⟩,
  ⟨some 63, .call false 6 [(.t 62), (.c (.int .i64 (-1))), (.c (.int .i64 99))], some (60, false)⟩,
  ⟨some 64, .un .not (.t 63), some (60, false)⟩,
  ⟨some 65, .pick (.t 60) (.c (.bool true)) (.t 64), none⟩,
  ⟨some 66, .mv (.t 65), none⟩,
  ⟨some 67, .mv (.t 5), some (66, false)⟩,
  ⟨some 68, .bin .gtr (.t 67) (.c (.int .i64 0)), some (66, false)⟩,
  ⟨some 69, .mv (.t 68), some (66, false)⟩,
  ⟨some 70, .faddr 8 8 (.t 1), some (69, true)⟩,
  ⟨some 71, .load false 1 (.t 70), some (69, true)⟩,
  ⟨some 72, .mv (.t 5), some (69, true)⟩,
  ⟨some 73, .bin .sub (.t 72) (.c (.int .i64 1)), some (69, true)⟩,
  ⟨some 74, .iaddr 2 (.t 71) (.t 73), some (69, true)⟩,
  ⟨some 75, .faddr 0 0 (.t 74), some (69, true)⟩,
  ⟨some 76, .load false 1 (.t 75), some (69, true)⟩,
  ⟨some 77, .faddr 0 0 (.t 6), some (69, true)⟩,
  ⟨some 78, .load false 1 (.t 77), some (69, true)⟩,
  ⟨some 79, .bin .geq (.t 76) (.t 78), some (69, true)⟩,
  ⟨some 80, .pick (.t 69) (.t 79) (.c (.bool false)), some (66, false)⟩,
  ⟨some 81, .pick (.t 66) (.c (.bool true)) (.t 80), none⟩])
 (.cond (.t 81) (.seq (.region 0 [⟨some 2, .mv (.c (.bool false)), none⟩])
 .ret) .skip))))
 (.region 0 [⟨some 49, .mv (.t 5), none⟩,
  ⟨some 50, .bin .add (.t 49) (.c (.int .i64 1)), none⟩,
  ⟨some 5, .mv (.t 50), none⟩])))
def spec_IsValidTransaction_r0 : AC :=
 (.seq (.seq (.region 0 [⟨some 82, .faddr 0 0 (.t 1), none⟩,
  ⟨some 83, .load false 1 (.t 82), none⟩,
  ⟨some 84, .call false 6 [(.t 83), (.c (.int .i64 1)), (.c (.int .i64 9))], none⟩,
  ⟨some 85, .un .not (.t 84), none⟩,
  ⟨some 86, .mv (.t 85), none⟩,
  ⟨some 87, .faddr 1 1 (.t 1), some (86, false)⟩,
  ⟨some 88, .load false 1 (.t 87), some (86, false)⟩,
  ⟨some 89, .call false 6 [(.t 88), (.c (.int .i64 1)), (.c (.int .i64 4))], some (86, false)⟩,
  ⟨some 90, .un .not (.t 89), some (86, false)⟩,
  ⟨some 91, .pick (.t 86) (.c (.bool true)) (.t 90), none⟩,
  ⟨some 92, .mv (.t 91), none⟩,
  ⟨some 93, .faddr 3 3 (.t 1), some (92, false)⟩,
  ⟨some 94, .load false 1 (.t 93), some (92, false)⟩,
  ⟨some 95, .call false 6 [(.t 94), (.c (.int .i64 0)), (.c (.int .i64 999))], some (92, false)⟩,
  ⟨some 96, .un .not (.t 95), some (92, false)⟩,
  ⟨some 97, .pick (.t 92) (.c (.bool true)) (.t 96), none⟩])
 (.cond (.t 97) (.seq (.region 0 [⟨some 2, .mv (.c (.bool false)), none⟩])
 .ret) .skip))
 (.seq (.region 0 [⟨some 98, .faddr 2 2 (.t 1), none⟩,
  ⟨some 99, .load false 1 (.t 98), none⟩,
  ⟨some 100, .call false 6 [(.t 99), (.c (.int .i64 1)), (.c (.int .i64 3))], none⟩,
  ⟨some 101, .mv (.t 100), none⟩,
  ⟨some 102, .faddr 4 4 (.t 1), some (101, true)⟩,
  ⟨some 103, .load false 1 (.t 102), some (101, true)⟩,
  ⟨some 104, .call false 6 [(.t 103), (.c (.int .i64 0)), (.c (.int .i64 999))], some (101, true)⟩,
  ⟨some 105, .pick (.t 101) (.t 104) (.c (.bool false)), none⟩,
  ⟨some 106, .mv (.t 105), none⟩,
  ⟨some 107, .faddr 5 5 (.t 1), some (106, true)⟩,
  ⟨some 108, .load false 1 (.t 107), some (106, true)⟩,
  ⟨some 109, .call false 6 [(.t 108), (.c (.int .i64 1)), (.c (.int .i64 1000))], some (106, true)⟩,
  ⟨some 110, .pick (.t 106) (.t 109) (.c (.bool false)), none⟩,
  ⟨some 111, .mv (.t 110), none⟩,
  ⟨some 112, .faddr 2 2 (.t 1), some (111, true)⟩,
  ⟨some 113, .load false 1 (.t 112), some (111, true)⟩,
  ⟨some 114, .bin .eql (.t 113) (.c (.int .i64 2)), some (111, true)⟩,
  ⟨some 115, .faddr 6 6 (.t 1), some (111, true)⟩,
  ⟨some 116, .load false 1 (.t 115), some (111, true)⟩,
  ⟨some 117, .bin .gtr (.t 116) (.c (.int .i64 0)), some (111, true)⟩,
  ⟨some 118, .eqv false 0 (.t 114) (.t 117), some (111, true)⟩,
  ⟨some 119, .pick (.t 111) (.t 118) (.c (.bool false)), none⟩,
  ⟨some 120, .mv (.t 119), none⟩,
  ⟨some 121, .faddr 6 6 (.t 1), some (120, true)⟩,
  ⟨some 122, .load false 1 (.t 121), some (120, true)⟩,
  ⟨some 123, .call false 6 [(.t 122), (.c (.int .i64 0)), (.c (.int .i64 999))], some (120, true)⟩,
  ⟨some 124, .pick (.t 120) (.t 123) (.c (.bool false)), none⟩,
  ⟨some 125, .mv (.t 124), none⟩,
  ⟨some 126, .faddr 7 7 (.t 1), some (125, true)⟩,
  ⟨some 127, .load false 1 (.t 126), some (125, true)⟩,
  ⟨some 128, .len false (.t 127), some (125, true)⟩,
  ⟨some 129, .bin .leq (.t 128) (.c (.int .i64 60)), some (125, true)⟩,
  ⟨some 130, .pick (.t 125) (.t 129) (.c (.bool false)), none⟩,
  ⟨some 2, .mv (.t 130), none⟩])
 .ret))
def spec_IsValidTransaction_r1 : AC :=
 (.seq (.seq (.region 0 [⟨some 5, .mv (.c (.int .i64 0)), none⟩])
 (.block 2 (.loop ⟨[1, 5], [], [1]⟩ spec_IsValidTransaction_b0)))
 spec_IsValidTransaction_r0)
def spec_IsValidTransaction_ac : AC :=
 (.seq (.region 0 [⟨some 1, .box false (.t 0), none⟩,
  ⟨some 2, .mv (.c (.bool false)), none⟩])
 (.seq (.seq (.region 0 [⟨some 3, .mv (.c (.int .i64 0)), none⟩])
 (.block 0 (.loop ⟨[1, 3], [], [1]⟩ spec_IsValidTransaction_b1)))
 spec_IsValidTransaction_r1))
noncomputable def spec_IsValidTransaction_l1 (E : Env) (x3 : U) (b1 : U) : Option U := loopK (roundOf E ⟨[1, 3], [], [1]⟩ spec_IsValidTransaction_b1 (blockK 0 (seqK (fun s => exec E spec_IsValidTransaction_r1 s (finish [(2, none)])) (finish [(2, none)])))) ([.ptr 1 [], .val x3], [.box (.val b1)])
noncomputable def spec_IsValidTransaction_l0 (E : Env) (x5 : U) (b1 : U) : Option U := loopK (roundOf E ⟨[1, 5], [], [1]⟩ spec_IsValidTransaction_b0 (blockK 2 (seqK (fun s => exec E spec_IsValidTransaction_r0 s (finish [(2, none)])) (finish [(2, none)])))) ([.ptr 1 [], .val x5], [.box (.val b1)])
theorem spec_IsValidTransaction_eq (E : Env) (a0 : U) : run E spec_IsValidTransaction_ac [(2, none)] [a0] =
 U.noTup a0 fun x1 => spec_IsValidTransaction_l1 E (.int .i64 0) x1 := by kernel_rfl
theorem spec_IsValidTransaction_l1_eq (E : Env) (x3 : U) (b1 : U) : spec_IsValidTransaction_l1 E x3 b1 =
 U.asAgg b1 fun us2 => if 7 = sizes (us2.take 7) then (us2[7]?).bind fun e3 => U.asVar false 1 e3 fun e4 => (U.lenOf false e4).bind fun n5 => (U.bin .lss x3 (.int .i64 (n5 : Int))).bind fun t6 => U.asBool t6
 (U.asAgg b1 fun us7 => if 7 = sizes (us7.take 7) then (us7[7]?).bind fun e8 => U.asVar false 1 e8 fun e9 => U.asInt x3 fun n10 => U.elemAt 2 e9 n10 fun e11 => U.asVar true 2 e11 fun e12 => if storable (.val e12) = true ∧ e12.size = 2 then U.asAgg e12 fun us13 => if 0 = sizes (us13.take 0) then (us13[0]?).bind fun e14 => U.asVar false 1 e14 fun e15 => (E 6 [e15, (.int .i64 0), (.int .i64 5)]).bind fun t16 => (U.un .not t16).bind fun t17 => U.asBool t17
 (some (.bool false))
 (U.asAgg e12 fun us18 => if 1 = sizes (us18.take 1) then (us18[1]?).bind fun e19 => U.asVar false 1 e19 fun e20 => (E 6 [e20, (.int .i64 0), (.int .i64 999)]).bind fun t21 => (U.un .not t21).bind fun t22 => U.asBool t22
 (some (.bool false))
 ((U.bin .gtr x3 (.int .i64 0)).bind fun t23 => U.asBool t23
 (U.asAgg b1 fun us24 => if 7 = sizes (us24.take 7) then (us24[7]?).bind fun e25 => U.asVar false 1 e25 fun e26 => (U.bin .sub x3 (.int .i64 1)).bind fun t27 => U.asInt t27 fun n28 => U.elemAt 2 e26 n28 fun e29 => U.asVar true 2 e29 fun e30 => U.asVar true 2 e12 fun e31 => (E 71 [e30, e31]).bind fun t32 => (U.un .not t32).bind fun t33 => U.asBool t33
 (some (.bool false))
 ((U.bin .add x3 (.int .i64 1)).bind fun t34 => spec_IsValidTransaction_l1 E t34 b1) else none)
 ((U.bin .add x3 (.int .i64 1)).bind fun t35 => spec_IsValidTransaction_l1 E t35 b1)) else none) else none else none else none)
 (spec_IsValidTransaction_l0 E (.int .i64 0) b1) else none :=
 (loop_eq E _ _ _ _).trans (by kernel_rfl)
theorem spec_IsValidTransaction_l0_eq (E : Env) (x5 : U) (b1 : U) : spec_IsValidTransaction_l0 E x5 b1 =
 U.asAgg b1 fun us36 => if 8 = sizes (us36.take 8) then (us36[8]?).bind fun e37 => U.asVar false 1 e37 fun e38 => (U.lenOf false e38).bind fun n39 => (U.bin .lss x5 (.int .i64 (n39 : Int))).bind fun t40 => U.asBool t40
 (U.asAgg b1 fun us41 => if 8 = sizes (us41.take 8) then (us41[8]?).bind fun e42 => U.asVar false 1 e42 fun e43 => U.asInt x5 fun n44 => U.elemAt 2 e43 n44 fun e45 => U.asVar true 2 e45 fun e46 => if storable (.val e46) = true ∧ e46.size = 2 then U.asAgg e46 fun us47 => if 0 = sizes (us47.take 0) then (us47[0]?).bind fun e48 => U.asVar false 1 e48 fun e49 => (E 6 [e49, (.int .i64 0), (.int .i64 5)]).bind fun t50 => (U.un .not t50).bind fun t51 => U.asBool t51
 (some (.bool false))
 (U.asAgg e46 fun us52 => if 1 = sizes (us52.take 1) then (us52[1]?).bind fun e53 => U.asVar false 1 e53 fun e54 => (E 6 [e54, (.int .i64 (-1)), (.int .i64 99)]).bind fun t55 => (U.un .not t55).bind fun t56 => U.asBool t56
 (some (.bool false))
 ((U.bin .gtr x5 (.int .i64 0)).bind fun t57 => U.asBool t57
 (U.asAgg b1 fun us58 => if 8 = sizes (us58.take 8) then (us58[8]?).bind fun e59 => U.asVar false 1 e59 fun e60 => (U.bin .sub x5 (.int .i64 1)).bind fun t61 => U.asInt t61 fun n62 => U.elemAt 2 e60 n62 fun e63 => U.fieldAt 0 0 e63 fun f64 => U.asVar false 1 f64 fun e65 => U.asAgg e46 fun us66 => if 0 = sizes (us66.take 0) then (us66[0]?).bind fun e67 => U.asVar false 1 e67 fun e68 => (U.bin .geq e65 e68).bind fun t69 => U.asBool t69
 (some (.bool false))
 ((U.bin .add x5 (.int .i64 1)).bind fun t70 => spec_IsValidTransaction_l0 E t70 b1) else none else none)
 ((U.bin .add x5 (.int .i64 1)).bind fun t71 => spec_IsValidTransaction_l0 E t71 b1)) else none) else none else none else none)
 (U.asAgg b1 fun us72 => if 0 = sizes (us72.take 0) then (us72[0]?).bind fun e73 => U.asVar false 1 e73 fun e74 => (E 6 [e74, (.int .i64 1), (.int .i64 9)]).bind fun t75 => (U.un .not t75).bind fun t76 => U.asBool t76
 (some (.bool false))
 (U.asAgg b1 fun us77 => if 1 = sizes (us77.take 1) then (us77[1]?).bind fun e78 => U.asVar false 1 e78 fun e79 => (E 6 [e79, (.int .i64 1), (.int .i64 4)]).bind fun t80 => (U.un .not t80).bind fun t81 => U.asBool t81
 (some (.bool false))
 (U.asAgg b1 fun us82 => if 3 = sizes (us82.take 3) then (us82[3]?).bind fun e83 => U.asVar false 1 e83 fun e84 => (E 6 [e84, (.int .i64 0), (.int .i64 999)]).bind fun t85 => (U.un .not t85).bind fun t86 => U.asBool t86
 (some (.bool false))
 (U.asAgg b1 fun us87 => if 2 = sizes (us87.take 2) then (us87[2]?).bind fun e88 => U.asVar false 1 e88 fun e89 => (E 6 [e89, (.int .i64 1), (.int .i64 3)]).bind fun t90 => U.asBool t90
 (U.asAgg b1 fun us91 => if 4 = sizes (us91.take 4) then (us91[4]?).bind fun e92 => U.asVar false 1 e92 fun e93 => (E 6 [e93, (.int .i64 0), (.int .i64 999)]).bind fun t94 => U.asBool t94
 (U.asAgg b1 fun us95 => if 5 = sizes (us95.take 5) then (us95[5]?).bind fun e96 => U.asVar false 1 e96 fun e97 => (E 6 [e97, (.int .i64 1), (.int .i64 1000)]).bind fun t98 => U.asBool t98
 (U.asAgg b1 fun us99 => if 2 = sizes (us99.take 2) then (us99[2]?).bind fun e100 => U.asVar false 1 e100 fun e101 => (U.bin .eql e101 (.int .i64 2)).bind fun t102 => U.asAgg b1 fun us103 => if 6 = sizes (us103.take 6) then (us103[6]?).bind fun e104 => U.asVar false 1 e104 fun e105 => (U.bin .gtr e105 (.int .i64 0)).bind fun t106 => (U.eqv 0 t102 t106).bind fun q107 => U.asBool (.bool q107)
 (U.asAgg b1 fun us108 => if 6 = sizes (us108.take 6) then (us108[6]?).bind fun e109 => U.asVar false 1 e109 fun e110 => (E 6 [e110, (.int .i64 0), (.int .i64 999)]).bind fun t111 => U.asBool t111
 (U.asAgg b1 fun us112 => if 7 = sizes (us112.take 7) then (us112[7]?).bind fun e113 => U.asVar false 1 e113 fun e114 => (U.lenOf false e114).bind fun n115 => (U.bin .leq (.int .i64 (n115 : Int)) (.int .i64 60)).bind fun t116 => some t116 else none)
 (some (.bool false)) else none)
 (some (.bool false)) else none else none)
 (some (.bool false)) else none)
 (some (.bool false)) else none)
 (some (.bool false)) else none) else none) else none) else none) else none :=
 (loop_eq E _ _ _ _).trans (by kernel_rfl)

/-- In the environment E: this function and those that it calls. -/
structure G_spec_IsValidTransaction (E : Env) : Prop where
  is : Is E 70 1 spec_IsValidTransaction_ac [(2, none)]
  c_spec_l1In : G_spec_l1In E
  c_spec_l5Before : G_spec_l5Before E
theorem spec_IsValidTransaction_E {E : Env} (h : G_spec_IsValidTransaction E) (a0 : U) : E 70 [a0] =
 U.noTup a0 fun x1 => spec_IsValidTransaction_l1 E (.int .i64 0) x1 := (h.is _ rfl).trans (spec_IsValidTransaction_eq E a0)

end Go.Proofs.Ytfdcdbkblkehcaa.Am
namespace Go.Proofs.Ytfdcdbkblkehcaa.Am
open Go
set_option linter.unusedVariables false
set_option maxRecDepth 100000

/- loop.example/g01924/spec.IsValidRecord -/
def spec_IsValidRecord_ac : AC :=
 (.seq (.region 0 [⟨some 1, .box false (.t 0), none⟩,
  ⟨some 2, .mv (.c (.bool false)), none⟩])
 (.seq (.region 0 [⟨some 3, .load true 6 (.t 1), none⟩,
  ⟨some 4, .call false 25 [(.t 3)], none⟩,
  ⟨some 5, .call false 70 [(.t 4)], none⟩,
  ⟨some 6, .mv (.t 5), none⟩,
  ⟨some 7, .faddr 2 2 (.t 1), some (6, true)⟩,
  ⟨some 8, .load false 1 (.t 7), some (6, true)⟩,
  ⟨some 9, .faddr 0 0 (.t 1), some (6, true)⟩,
  ⟨some 10, .load false 1 (.t 9), some (6, true)⟩,
  ⟨some 11, .bin .leq (.t 8) (.t 10), some (6, true)⟩,
  ⟨some 12, .pick (.t 6) (.t 11) (.c (.bool false)), none⟩,
  ⟨some 13, .mv (.t 12), none⟩,
  ⟨some 14, .faddr 3 3 (.t 1), some (13, true)⟩,
  ⟨some 15, .load false 1 (.t 14), some (13, true)⟩,
  ⟨some 16, .faddr 0 0 (.t 1), some (13, true)⟩,
  ⟨some 17, .load false 1 (.t 16), some (13, true)⟩,
  ⟨some 18, .call false 6 [(.t 15), (.c (.int .i64 0)), (.t 17)], some (13, true)⟩,
  ⟨some 19, .pick (.t 13) (.t 18) (.c (.bool false)), none⟩,
  ⟨some 2, .mv (.t 19), none⟩])
 .ret))

theorem spec_IsValidRecord_eq (E : Env) (a0 : U) : run E spec_IsValidRecord_ac [(2, none)] [a0] =
 U.noTup a0 fun x1 => U.asVar true 6 x1 fun e2 => (E 25 [e2]).bind fun t3 => (E 70 [t3]).bind fun t4 => U.asBool t4
 (U.asAgg x1 fun us5 => if 2 = sizes (us5.take 2) then (us5[2]?).bind fun e6 => U.asVar false 1 e6 fun e7 => U.asAgg x1 fun us8 => if 0 = sizes (us8.take 0) then (us8[0]?).bind fun e9 => U.asVar false 1 e9 fun e10 => (U.bin .leq e7 e10).bind fun t11 => U.asBool t11
 (U.asAgg x1 fun us12 => if 3 = sizes (us12.take 3) then (us12[3]?).bind fun e13 => U.asVar false 1 e13 fun e14 => U.asAgg x1 fun us15 => if 0 = sizes (us15.take 0) then (us15[0]?).bind fun e16 => U.asVar false 1 e16 fun e17 => (E 6 [e14, (.int .i64 0), e17]).bind fun t18 => some t18 else none else none)
 (some (.bool false)) else none else none)
 (some (.bool false)) := by kernel_rfl

/-- In the environment E: this function and those that it calls. -/
structure G_spec_IsValidRecord (E : Env) : Prop where
  is : Is E 69 1 spec_IsValidRecord_ac [(2, none)]
  c_spec_l1In : G_spec_l1In E
  c_spec_l28Tx : G_spec_l28Tx E
  c_spec_IsValidTransaction : G_spec_IsValidTransaction E
theorem spec_IsValidRecord_E {E : Env} (h : G_spec_IsValidRecord E) (a0 : U) : E 69 [a0] =
 U.noTup a0 fun x1 => U.asVar true 6 x1 fun e2 => (E 25 [e2]).bind fun t3 => (E 70 [t3]).bind fun t4 => U.asBool t4
 (U.asAgg x1 fun us5 => if 2 = sizes (us5.take 2) then (us5[2]?).bind fun e6 => U.asVar false 1 e6 fun e7 => U.asAgg x1 fun us8 => if 0 = sizes (us8.take 0) then (us8[0]?).bind fun e9 => U.asVar false 1 e9 fun e10 => (U.bin .leq e7 e10).bind fun t11 => U.asBool t11
 (U.asAgg x1 fun us12 => if 3 = sizes (us12.take 3) then (us12[3]?).bind fun e13 => U.asVar false 1 e13 fun e14 => U.asAgg x1 fun us15 => if 0 = sizes (us15.take 0) then (us15[0]?).bind fun e16 => U.asVar false 1 e16 fun e17 => (E 6 [e14, (.int .i64 0), e17]).bind fun t18 => some t18 else none else none)
 (some (.bool false)) else none else none)
 (some (.bool false)) := (h.is _ rfl).trans (spec_IsValidRecord_eq E a0)

end Go.Proofs.Ytfdcdbkblkehcaa.Am
namespace Go.Proofs.Ytfdcdbkblkehcaa.Am
open Go
set_option linter.unusedVariables false
set_option maxRecDepth 100000

/- loop.example/g01924/impl.IsStamp -/
def impl_IsStamp_ac : AC :=
 (.seq (.region 0 [⟨some 2, .mv (.c (.bool false)), none⟩])
 (.seq (.region 0 [⟨some 3, .mv (.t 0), none⟩,
  ⟨some 4, .call false 10 [(.t 3), (.c (.int .i64 1)), (.c (.int .i64 999))], none⟩,
  ⟨some 2, .mv (.t 4), none⟩])
 .ret))

theorem impl_IsStamp_eq (E : Env) (a0 : U) : run E impl_IsStamp_ac [(2, none)] [a0] =
 (E 10 [a0, (.int .i64 1), (.int .i64 999)]).bind fun t1 => some t1 := by kernel_rfl

/-- In the environment E: this function and those that it calls. -/
structure G_impl_IsStamp (E : Env) : Prop where
  is : Is E 72 1 impl_IsStamp_ac [(2, none)]
  c_impl_in : G_impl_in E
theorem impl_IsStamp_E {E : Env} (h : G_impl_IsStamp E) (a0 : U) : E 72 [a0] =
 (E 10 [a0, (.int .i64 1), (.int .i64 999)]).bind fun t1 => some t1 := (h.is _ rfl).trans (impl_IsStamp_eq E a0)

end Go.Proofs.Ytfdcdbkblkehcaa.Am
namespace Go.Proofs.Ytfdcdbkblkehcaa.Am
open Go
set_option linter.unusedVariables false
set_option maxRecDepth 100000

/- loop.example/g01924/impl.compareMarks -/
def impl_compareMarks_ac : AC :=
 (.seq (.region 0 [⟨some 2, .box false (.t 0), none⟩,
  ⟨some 3, .box false (.t 1), none⟩,
  ⟨some 4, .mv (.c (.int .i64 0)), none⟩])
 (.seq (.region 13 [⟨some 5, .faddr 0 0 (.t 2), none⟩,
  ⟨some 6, .load false 1 (.t 5), none⟩,
  ⟨some 7, .faddr 0 0 (.t 3), none⟩,
  ⟨some 8, .load false 1 (.t 7), none⟩,
  ⟨some 9, .call false 13 [(.t 6), (.t 8)], none⟩,
  ⟨some 10, .faddr 1 1 (.t 2), none⟩,
  ⟨some 11, .load false 1 (.t 10), none⟩,
  ⟨some 12, .faddr 1 1 (.t 3), none⟩,
  ⟨some 13, .load false 1 (.t 12), none⟩,
  ⟨some 14, .call false 13 [(.t 11), (.t 13)], none⟩,
  ⟨some 15, .bslice true 1 2 (.int .i64 0) [(0, (.t 9)), (1, (.t 14))], none⟩,
  ⟨some 16, .call false 14 [(.t 15)], none⟩,
  ⟨some 4, .mv (.t 16), none⟩])
 .ret))

theorem impl_compareMarks_eq (E : Env) (a0 : U) (a1 : U) : run E impl_compareMarks_ac [(4, none)] [a0, a1] =
 U.noTup a0 fun x1 => U.noTup a1 fun x2 => U.asAgg x1 fun us3 => if 0 = sizes (us3.take 0) then (us3[0]?).bind fun e4 => U.asVar false 1 e4 fun e5 => U.asAgg x2 fun us6 => if 0 = sizes (us6.take 0) then (us6[0]?).bind fun e7 => U.asVar false 1 e7 fun e8 => (E 13 [e5, e8]).bind fun t9 => U.asAgg x1 fun us10 => if 1 = sizes (us10.take 1) then (us10[1]?).bind fun e11 => U.asVar false 1 e11 fun e12 => U.asAgg x2 fun us13 => if 1 = sizes (us13.take 1) then (us13[1]?).bind fun e14 => U.asVar false 1 e14 fun e15 => (E 13 [e12, e15]).bind fun t16 => if storable (.val t9) = true ∧ t9.size = 1 then if storable (.val t16) = true ∧ t16.size = 1 then (E 14 [(.sl 1 [t9, t16])]).bind fun t17 => some t17 else none else none else none else none else none else none := by kernel_rfl

/-- In the environment E: this function and those that it calls. -/
structure G_impl_compareMarks (E : Env) : Prop where
  is : Is E 75 2 impl_compareMarks_ac [(4, none)]
  c_cmp_Compare_g13 : G_cmp_Compare_g13 E
  c_cmp_Or_g14 : G_cmp_Or_g14 E
theorem impl_compareMarks_E {E : Env} (h : G_impl_compareMarks E) (a0 a1 : U) : E 75 [a0, a1] =
 U.noTup a0 fun x1 => U.noTup a1 fun x2 => U.asAgg x1 fun us3 => if 0 = sizes (us3.take 0) then (us3[0]?).bind fun e4 => U.asVar false 1 e4 fun e5 => U.asAgg x2 fun us6 => if 0 = sizes (us6.take 0) then (us6[0]?).bind fun e7 => U.asVar false 1 e7 fun e8 => (E 13 [e5, e8]).bind fun t9 => U.asAgg x1 fun us10 => if 1 = sizes (us10.take 1) then (us10[1]?).bind fun e11 => U.asVar false 1 e11 fun e12 => U.asAgg x2 fun us13 => if 1 = sizes (us13.take 1) then (us13[1]?).bind fun e14 => U.asVar false 1 e14 fun e15 => (E 13 [e12, e15]).bind fun t16 => if storable (.val t9) = true ∧ t9.size = 1 then if storable (.val t16) = true ∧ t16.size = 1 then (E 14 [(.sl 1 [t9, t16])]).bind fun t17 => some t17 else none else none else none else none else none else none := (h.is _ rfl).trans (impl_compareMarks_eq E a0 a1)

end Go.Proofs.Ytfdcdbkblkehcaa.Am
namespace Go.Proofs.Ytfdcdbkblkehcaa.Am
open Go
set_option linter.unusedVariables false
set_option maxRecDepth 100000

/- loop.example/g01924/impl.areReads -/
def impl_areReads_b0 : AC :=
 (.seq (.region 0 [⟨some 8, .bin .lss (.t 7) (.t 6), none⟩])
 (.seq (.cond (.t 8) .skip (.exit 0))
 (.seq (.block 1 (.seq (.region 0 [⟨some 9, .mv (.t 7), none⟩,
  ⟨some 10, .iaddr 2 (.t 5) (.t 7), none⟩,
  ⟨some 11, .load true 2 (.t 10), none⟩,
  ⟨some 4, .alloc (.agg [(.int .i64 0), (.int .i64 0)]), none⟩,
  ⟨some 3, .mv (.t 9), none⟩,
  ⟨none, .store 2 (.t 4) (.t 11), none⟩])
 (.seq (.region 24 [⟨some 12, .faddr 0 0 (.t 4), none⟩,
  ⟨some 13, .load false 1 (.t 12), none⟩,
  ⟨some 14, .call false 11 [(.t 13)], none⟩,
  ⟨some 15, .un .not (.t 14), none⟩,
  ⟨some 16, .mv (.t 15), none⟩,
  ⟨some 17, .faddr 1 1 (.t 4), some (16, false)⟩,
  ⟨some 18, .load false 1 (.t 17), some (16, false)⟩,
  ⟨some 19, .call false 10 [(.t 18), (.c (.int .i64 0)), (.c (.int .i64 999))], some (16, false)⟩,
  ⟨some 20, .un .not (.t 19), some (16, false)⟩,
  ⟨some 21, .pick (.t 16) (.c (.bool true)) (.t 20), none⟩,
  ⟨some 22, .mv (.t 21), none⟩,
  ⟨some 23, .mv (.t 3), some (22, false)⟩,
  ⟨some 24, .bin .gtr (.t 23) (.c (.int .i64 0)), some (22, false)⟩,
  ⟨some 25, .mv (.t 24), some (22, false)⟩,
  ⟨some 26, .mv (.t 0), some (25, true)⟩,
  ⟨some 27, .mv (.t 3), some (25, true)⟩,
  ⟨some 28, .bin .sub (.t 27) (.c (.int .i64 1)), some (25, true)⟩,
  ⟨some 29, .iaddr 2 (.t 26) (.t 28), some (25, true)⟩,
  ⟨some 30, .load true 2 (.t 29), some (25, true)⟩,
  ⟨some 31, .load true 2 (.t 4), some (25, true)⟩,
  ⟨some 32, .call false 75 [(.t 30), (.t 31)], some (25, true)⟩,
  ⟨some 33, .bin .geq (.t 32) (.c (.int .i64 0)), some (25, true)⟩,
  ⟨some 34, .pick (.t 25) (.t 33) (.c (.bool false)), some (22, false)⟩,
  ⟨some 35, .pick (.t 22) (.c (.bool true)) (.t 34), none⟩])
 (.cond (.t 35) (.seq (.region 0 [⟨some 2, .mv (.c (.bool false)), none⟩])
 .ret) .skip))))
 (.region 0 [⟨some 36, .bin .add (.t 7) (.c (.int .i64 1)), none⟩,
  ⟨some 7, .mv (.t 36), none⟩]))))
def impl_areReads_r0 : AC :=
 (.seq (.region 0 [⟨some 37, .mv (.t 0), none⟩,
  ⟨some 38, .len false (.t 37), none⟩,
  ⟨some 39, .bin .leq (.t 38) (.c (.int .i64 60)), none⟩,
  ⟨some 2, .mv (.t 39), none⟩])
 .ret)
def impl_areReads_ac : AC :=
 (.seq (.region 0 [⟨some 2, .mv (.c (.bool false)), none⟩])
 (.seq (.seq (.region 0 [⟨some 5, .mv (.t 0), none⟩,
  ⟨some 6, .len false (.t 5), none⟩,
  ⟨some 7, .mv (.c (.int .i64 0)), none⟩])
 (.block 0 (.loop ⟨[0, 5, 6, 7], [], []⟩ impl_areReads_b0)))
 impl_areReads_r0))
noncomputable def impl_areReads_l0 (E : Env) (x0 : U) (x5 : U) (x6 : U) (x7 : U) : Option U := loopK (roundOf E ⟨[0, 5, 6, 7], [], []⟩ impl_areReads_b0 (blockK 0 (seqK (fun s => exec E impl_areReads_r0 s (finish [(2, none)])) (finish [(2, none)])))) ([.val x0, .val x5, .val x6, .val x7], [])
theorem impl_areReads_eq (E : Env) (a0 : U) : run E impl_areReads_ac [(2, none)] [a0] =
 (U.lenOf false a0).bind fun n1 => impl_areReads_l0 E a0 a0 (.int .i64 (n1 : Int)) (.int .i64 0) := by kernel_rfl
theorem impl_areReads_l0_eq (E : Env) (x0 : U) (x5 : U) (x6 : U) (x7 : U) : impl_areReads_l0 E x0 x5 x6 x7 =
 (U.bin .lss x7 x6).bind fun t2 => U.asBool t2
 (U.asInt x7 fun n3 => U.elemAt 2 x5 n3 fun e4 => U.asVar true 2 e4 fun e5 => if storable (.val e5) = true ∧ e5.size = 2 then U.asAgg e5 fun us6 => if 0 = sizes (us6.take 0) then (us6[0]?).bind fun e7 => U.asVar false 1 e7 fun e8 => (E 11 [e8]).bind fun t9 => (U.un .not t9).bind fun t10 => U.asBool t10
 (some (.bool false))
 (U.asAgg e5 fun us11 => if 1 = sizes (us11.take 1) then (us11[1]?).bind fun e12 => U.asVar false 1 e12 fun e13 => (E 10 [e13, (.int .i64 0), (.int .i64 999)]).bind fun t14 => (U.un .not t14).bind fun t15 => U.asBool t15
 (some (.bool false))
 ((U.bin .gtr x7 (.int .i64 0)).bind fun t16 => U.asBool t16
 ((U.bin .sub x7 (.int .i64 1)).bind fun t17 => U.asInt t17 fun n18 => U.elemAt 2 x0 n18 fun e19 => U.asVar true 2 e19 fun e20 => U.asVar true 2 e5 fun e21 => (E 75 [e20, e21]).bind fun t22 => (U.bin .geq t22 (.int .i64 0)).bind fun t23 => U.asBool t23
 (some (.bool false))
 ((U.bin .add x7 (.int .i64 1)).bind fun t24 => impl_areReads_l0 E x0 x5 x6 t24))
 ((U.bin .add x7 (.int .i64 1)).bind fun t25 => impl_areReads_l0 E x0 x5 x6 t25)) else none) else none else none)
 ((U.lenOf false x0).bind fun n26 => (U.bin .leq (.int .i64 (n26 : Int)) (.int .i64 60)).bind fun t27 => some t27) :=
 (loop_eq E _ _ _ _).trans (by kernel_rfl)

/-- In the environment E: this function and those that it calls. -/
structure G_impl_areReads (E : Env) : Prop where
  is : Is E 73 1 impl_areReads_ac [(2, none)]
  c_impl_isKey : G_impl_isKey E
  c_impl_in : G_impl_in E
  c_impl_compareMarks : G_impl_compareMarks E
theorem impl_areReads_E {E : Env} (h : G_impl_areReads E) (a0 : U) : E 73 [a0] =
 (U.lenOf false a0).bind fun n1 => impl_areReads_l0 E a0 a0 (.int .i64 (n1 : Int)) (.int .i64 0) := (h.is _ rfl).trans (impl_areReads_eq E a0)

end Go.Proofs.Ytfdcdbkblkehcaa.Am
namespace Go.Proofs.Ytfdcdbkblkehcaa.Am
open Go
set_option linter.unusedVariables false
set_option maxRecDepth 100000

/- loop.example/g01924/impl.isValue -/
def impl_isValue_ac : AC :=
 (.seq (.region 0 [⟨some 2, .mv (.c (.bool false)), none⟩])
 (.seq (.region 0 [⟨some 3, .mv (.t 0), none⟩,
  ⟨some 4, .call false 10 [(.t 3), (.c (.int .i64 (-1))), (.c (.int .i64 99))], none⟩,
  ⟨some 2, .mv (.t 4), none⟩])
 .ret))

theorem impl_isValue_eq (E : Env) (a0 : U) : run E impl_isValue_ac [(2, none)] [a0] =
 (E 10 [a0, (.int .i64 (-1)), (.int .i64 99)]).bind fun t1 => some t1 := by kernel_rfl

/-- In the environment E: this function and those that it calls. -/
structure G_impl_isValue (E : Env) : Prop where
  is : Is E 76 1 impl_isValue_ac [(2, none)]
  c_impl_in : G_impl_in E
theorem impl_isValue_E {E : Env} (h : G_impl_isValue E) (a0 : U) : E 76 [a0] =
 (E 10 [a0, (.int .i64 (-1)), (.int .i64 99)]).bind fun t1 => some t1 := (h.is _ rfl).trans (impl_isValue_eq E a0)

end Go.Proofs.Ytfdcdbkblkehcaa.Am
namespace Go.Proofs.Ytfdcdbkblkehcaa.Am
open Go
set_option linter.unusedVariables false
set_option maxRecDepth 100000

/- loop.example/g01924/impl.areWrites -/
def impl_areWrites_b0 : AC :=
 (.seq (.region 0 [⟨some 8, .bin .lss (.t 7) (.t 6), none⟩])
 (.seq (.cond (.t 8) .skip (.exit 0))
 (.seq (.block 1 (.seq (.region 0 [⟨some 9, .mv (.t 7), none⟩,
  ⟨some 10, .iaddr 2 (.t 5) (.t 7), none⟩,
  ⟨some 11, .load true 2 (.t 10), none⟩,
  ⟨some 4, .alloc (.agg [(.int .i64 0), (.int .i64 0)]), none⟩,
  ⟨some 3, .mv (.t 9), none⟩,
  ⟨none, .store 2 (.t 4) (.t 11), none⟩])
 (.seq (.region 25 [⟨some 12, .faddr 0 0 (.t 4), none⟩,
  ⟨some 13, .load false 1 (.t 12), none⟩,
  ⟨some 14, .call false 11 [(.t 13)], none⟩,
  ⟨some 15, .un .not (.t 14), none⟩,
  ⟨some 16, .mv (.t 15), none⟩,
  ⟨some 17, .faddr 1 1 (.t 4), some (16, false)⟩,
  ⟨some 18, .load false 1 (.t 17), some (16, false)⟩,
  ⟨some 19, .call false 76 [(.t 18)], some (16, false)⟩,
  ⟨some 20, .un .not (.t 19), some (16, false)⟩,
  ⟨some 21, .pick (.t 16) (.c (.bool true)) (.t 20), none⟩,
  ⟨some 22, .mv (.t 21), none⟩,
  ⟨some 23, .mv (.t 3), some (22, false)⟩,
  ⟨some 24, .bin .gtr (.t 23) (.c (.int .i64 0)), some (22, false)⟩,
  ⟨some 25, .mv (.t 24), some (22, false)⟩,
  ⟨some 26, .mv (.t 0), some (25, true)⟩,
  ⟨some 27, .mv (.t 3), some (25, true)⟩,
  ⟨some 28, .bin .sub (.t 27) (.c (.int .i64 1)), some (25, true)⟩,
  ⟨some 29, .iaddr 2 (.t 26) (.t 28), some (25, true)⟩,
  ⟨some 30, .faddr 0 0 (.t 29), some (25, true)⟩,
  ⟨some 31, .load false 1 (.t 30), some (25, true)⟩,
  ⟨some 32, .faddr 0 0 (.t 4), some (25, true)⟩,
  ⟨some 33, .load false 1 (.t 32), some (25, true)⟩,
  ⟨some 34, .bin .geq (.t 31) (.t 33), some (25, true)⟩,
  ⟨some 35, .pick (.t 25) (.t 34) (.c (.bool false)), some (22, false)⟩,
  ⟨some 36, .pick (.t 22) (.c (.bool true)) (.t 35), none⟩])
 (.cond (.t 36) (.seq (.region 0 [⟨some 2, .mv (.c (.bool false)), none⟩])
 .ret) .skip))))
 (.region 0 [⟨some 37, .bin .add (.t 7) (.c (.int .i64 1)), none⟩,
  ⟨some 7, .mv (.t 37), none⟩]))))
def impl_areWrites_r0 : AC :=
 (.seq (.region 0 [⟨some 2, .mv (.c (.bool true)), none⟩])
 .ret)
def impl_areWrites_ac : AC :=
 (.seq (.region 0 [⟨some 2, .mv (.c (.bool false)), none⟩])
 (.seq (.seq (.region 0 [⟨some 5, .mv (.t 0), none⟩,
  ⟨some 6, .len false (.t 5), none⟩,
  ⟨some 7, .mv (.c (.int .i64 0)), none⟩])
 (.block 0 (.loop ⟨[0, 5, 6, 7], [], []⟩ impl_areWrites_b0)))
 impl_areWrites_r0))
noncomputable def impl_areWrites_l0 (E : Env) (x0 : U) (x5 : U) (x6 : U) (x7 : U) : Option U := loopK (roundOf E ⟨[0, 5, 6, 7], [], []⟩ impl_areWrites_b0 (blockK 0 (seqK (fun s => exec E impl_areWrites_r0 s (finish [(2, none)])) (finish [(2, none)])))) ([.val x0, .val x5, .val x6, .val x7], [])
theorem impl_areWrites_eq (E : Env) (a0 : U) : run E impl_areWrites_ac [(2, none)] [a0] =
 (U.lenOf false a0).bind fun n1 => impl_areWrites_l0 E a0 a0 (.int .i64 (n1 : Int)) (.int .i64 0) := by kernel_rfl
theorem impl_areWrites_l0_eq (E : Env) (x0 : U) (x5 : U) (x6 : U) (x7 : U) : impl_areWrites_l0 E x0 x5 x6 x7 =
 (U.bin .lss x7 x6).bind fun t2 => U.asBool t2
 (U.asInt x7 fun n3 => U.elemAt 2 x5 n3 fun e4 => U.asVar true 2 e4 fun e5 => if storable (.val e5) = true ∧ e5.size = 2 then U.asAgg e5 fun us6 => if 0 = sizes (us6.take 0) then (us6[0]?).bind fun e7 => U.asVar false 1 e7 fun e8 => (E 11 [e8]).bind fun t9 => (U.un .not t9).bind fun t10 => U.asBool t10
 (some (.bool false))
 (U.asAgg e5 fun us11 => if 1 = sizes (us11.take 1) then (us11[1]?).bind fun e12 => U.asVar false 1 e12 fun e13 => (E 76 [e13]).bind fun t14 => (U.un .not t14).bind fun t15 => U.asBool t15
 (some (.bool false))
 ((U.bin .gtr x7 (.int .i64 0)).bind fun t16 => U.asBool t16
 ((U.bin .sub x7 (.int .i64 1)).bind fun t17 => U.asInt t17 fun n18 => U.elemAt 2 x0 n18 fun e19 => U.fieldAt 0 0 e19 fun f20 => U.asVar false 1 f20 fun e21 => U.asAgg e5 fun us22 => if 0 = sizes (us22.take 0) then (us22[0]?).bind fun e23 => U.asVar false 1 e23 fun e24 => (U.bin .geq e21 e24).bind fun t25 => U.asBool t25
 (some (.bool false))
 ((U.bin .add x7 (.int .i64 1)).bind fun t26 => impl_areWrites_l0 E x0 x5 x6 t26) else none)
 ((U.bin .add x7 (.int .i64 1)).bind fun t27 => impl_areWrites_l0 E x0 x5 x6 t27)) else none) else none else none)
 (some (.bool true)) :=
 (loop_eq E _ _ _ _).trans (by kernel_rfl)

/-- In the environment E: this function and those that it calls. -/
structure G_impl_areWrites (E : Env) : Prop where
  is : Is E 74 1 impl_areWrites_ac [(2, none)]
  c_impl_isKey : G_impl_isKey E
  c_impl_isValue : G_impl_isValue E
theorem impl_areWrites_E {E : Env} (h : G_impl_areWrites E) (a0 : U) : E 74 [a0] =
 (U.lenOf false a0).bind fun n1 => impl_areWrites_l0 E a0 a0 (.int .i64 (n1 : Int)) (.int .i64 0) := (h.is _ rfl).trans (impl_areWrites_eq E a0)

end Go.Proofs.Ytfdcdbkblkehcaa.Am
namespace Go.Proofs.Ytfdcdbkblkehcaa.Am
open Go
set_option linter.unusedVariables false
set_option maxRecDepth 100000

/- loop.example/g01924/impl.IsValidRecord -/
def impl_IsValidRecord_ac : AC :=
 (.seq (.region 0 [⟨some 1, .box false (.t 0), none⟩,
  ⟨some 2, .mv (.c (.bool false)), none⟩])
 (.seq (.region 0 [⟨some 3, .faddr 1 1 (.t 1), none⟩,
  ⟨some 4, .load false 1 (.t 3), none⟩,
  ⟨some 5, .call false 9 [(.t 4)], none⟩,
  ⟨some 6, .mv (.t 5), none⟩,
  ⟨some 7, .faddr 0 0 (.t 1), some (6, true)⟩,
  ⟨some 8, .load false 1 (.t 7), some (6, true)⟩,
  ⟨some 9, .call false 72 [(.t 8)], some (6, true)⟩,
  ⟨some 10, .pick (.t 6) (.t 9) (.c (.bool false)), none⟩,
  ⟨some 11, .mv (.t 10), none⟩,
  ⟨some 12, .faddr 2 2 (.t 1), some (11, true)⟩,
  ⟨some 13, .load false 1 (.t 12), some (11, true)⟩,
  ⟨some 14, .faddr 0 0 (.t 1), some (11, true)⟩,
  ⟨some 15, .load false 1 (.t 14), some (11, true)⟩,
  ⟨some 16, .call false 10 [(.t 13), (.c (.int .i64 1)), (.t 15)], some (11, true)⟩,
  ⟨some 17, .pick (.t 11) (.t 16) (.c (.bool false)), none⟩,
  ⟨some 18, .mv (.t 17), none⟩,
  ⟨some 19, .faddr 3 3 (.t 1), some (18, true)⟩,
  ⟨some 20, .load false 1 (.t 19), some (18, true)⟩,
  ⟨some 21, .faddr 0 0 (.t 1), some (18, true)⟩,
  ⟨some 22, .load false 1 (.t 21), some (18, true)⟩,
  ⟨some 23, .call false 10 [(.t 20), (.c (.int .i64 0)), (.t 22)], some (18, true)⟩,
  ⟨some 24, .pick (.t 18) (.t 23) (.c (.bool false)), none⟩,
  ⟨some 25, .mv (.t 24), none⟩,
  ⟨some 26, .faddr 4 4 (.t 1), some (25, true)⟩,
  ⟨some 27, .load false 1 (.t 26), some (25, true)⟩,
  ⟨some 28, .call false 73 [(.t 27)], some (25, true)⟩,
  ⟨some 29, .pick (.t 25) (.t 28) (.c (.bool false)), none⟩,
  ⟨some 30, .mv (.t 29), none⟩,
  ⟨some 31, .faddr 5 5 (.t 1), some (30, true)⟩,
  ⟨some 32, .load false 1 (.t 31), some (30, true)⟩,
  ⟨some 33, .call false 74 [(.t 32)], some (30, true)⟩,
  ⟨some 34, .pick (.t 30) (.t 33) (.c (.bool false)), none⟩,
  ⟨some 2, .mv (.t 34), none⟩])
 .ret))

theorem impl_IsValidRecord_eq (E : Env) (a0 : U) : run E impl_IsValidRecord_ac [(2, none)] [a0] =
 U.noTup a0 fun x1 => U.asAgg x1 fun us2 => if 1 = sizes (us2.take 1) then (us2[1]?).bind fun e3 => U.asVar false 1 e3 fun e4 => (E 9 [e4]).bind fun t5 => U.asBool t5
 (U.asAgg x1 fun us6 => if 0 = sizes (us6.take 0) then (us6[0]?).bind fun e7 => U.asVar false 1 e7 fun e8 => (E 72 [e8]).bind fun t9 => U.asBool t9
 (U.asAgg x1 fun us10 => if 2 = sizes (us10.take 2) then (us10[2]?).bind fun e11 => U.asVar false 1 e11 fun e12 => U.asAgg x1 fun us13 => if 0 = sizes (us13.take 0) then (us13[0]?).bind fun e14 => U.asVar false 1 e14 fun e15 => (E 10 [e12, (.int .i64 1), e15]).bind fun t16 => U.asBool t16
 (U.asAgg x1 fun us17 => if 3 = sizes (us17.take 3) then (us17[3]?).bind fun e18 => U.asVar false 1 e18 fun e19 => U.asAgg x1 fun us20 => if 0 = sizes (us20.take 0) then (us20[0]?).bind fun e21 => U.asVar false 1 e21 fun e22 => (E 10 [e19, (.int .i64 0), e22]).bind fun t23 => U.asBool t23
 (U.asAgg x1 fun us24 => if 4 = sizes (us24.take 4) then (us24[4]?).bind fun e25 => U.asVar false 1 e25 fun e26 => (E 73 [e26]).bind fun t27 => U.asBool t27
 (U.asAgg x1 fun us28 => if 5 = sizes (us28.take 5) then (us28[5]?).bind fun e29 => U.asVar false 1 e29 fun e30 => (E 74 [e30]).bind fun t31 => some t31 else none)
 (some (.bool false)) else none)
 (some (.bool false)) else none else none)
 (some (.bool false)) else none else none)
 (some (.bool false)) else none)
 (some (.bool false)) else none := by kernel_rfl

/-- In the environment E: this function and those that it calls. -/
structure G_impl_IsValidRecord (E : Env) : Prop where
  is : Is E 68 1 impl_IsValidRecord_ac [(2, none)]
  c_impl_in : G_impl_in E
  c_impl_isID : G_impl_isID E
  c_impl_IsStamp : G_impl_IsStamp E
  c_impl_areReads : G_impl_areReads E
  c_impl_areWrites : G_impl_areWrites E
theorem impl_IsValidRecord_E {E : Env} (h : G_impl_IsValidRecord E) (a0 : U) : E 68 [a0] =
 U.noTup a0 fun x1 => U.asAgg x1 fun us2 => if 1 = sizes (us2.take 1) then (us2[1]?).bind fun e3 => U.asVar false 1 e3 fun e4 => (E 9 [e4]).bind fun t5 => U.asBool t5
 (U.asAgg x1 fun us6 => if 0 = sizes (us6.take 0) then (us6[0]?).bind fun e7 => U.asVar false 1 e7 fun e8 => (E 72 [e8]).bind fun t9 => U.asBool t9
 (U.asAgg x1 fun us10 => if 2 = sizes (us10.take 2) then (us10[2]?).bind fun e11 => U.asVar false 1 e11 fun e12 => U.asAgg x1 fun us13 => if 0 = sizes (us13.take 0) then (us13[0]?).bind fun e14 => U.asVar false 1 e14 fun e15 => (E 10 [e12, (.int .i64 1), e15]).bind fun t16 => U.asBool t16
 (U.asAgg x1 fun us17 => if 3 = sizes (us17.take 3) then (us17[3]?).bind fun e18 => U.asVar false 1 e18 fun e19 => U.asAgg x1 fun us20 => if 0 = sizes (us20.take 0) then (us20[0]?).bind fun e21 => U.asVar false 1 e21 fun e22 => (E 10 [e19, (.int .i64 0), e22]).bind fun t23 => U.asBool t23
 (U.asAgg x1 fun us24 => if 4 = sizes (us24.take 4) then (us24[4]?).bind fun e25 => U.asVar false 1 e25 fun e26 => (E 73 [e26]).bind fun t27 => U.asBool t27
 (U.asAgg x1 fun us28 => if 5 = sizes (us28.take 5) then (us28[5]?).bind fun e29 => U.asVar false 1 e29 fun e30 => (E 74 [e30]).bind fun t31 => some t31 else none)
 (some (.bool false)) else none)
 (some (.bool false)) else none else none)
 (some (.bool false)) else none else none)
 (some (.bool false)) else none)
 (some (.bool false)) else none := (h.is _ rfl).trans (impl_IsValidRecord_eq E a0)

end Go.Proofs.Ytfdcdbkblkehcaa.Am
