import Derived.KernelRfl
import Derived.Test.YtfdcdbkblkehcaaIsEquivalentF0
import Derived.Test.YtfdcdbkblkehcaaAmW
namespace Go.Proofs.Ytfdcdbkblkehcaa.Am
open Go
set_option linter.unusedVariables false
set_option maxRecDepth 100000
def impl_FinalState_b1 : AC :=
 (.seq (.region 0 [⟨some 23, .bin .lss (.t 22) (.t 21), none⟩])
 (.seq (.cond (.t 23) .skip (.exit 2))
 (.seq (.block 3 (.seq (.region 0 [⟨some 24, .iaddr 2 (.t 20) (.t 22), none⟩,
  ⟨some 25, .load true 2 (.t 24), none⟩,
  ⟨some 7, .alloc 7 (.agg [(.int .i64 0), (.int .i64 0)]), none⟩,
  ⟨none, .store 2 (.t 7) (.t 25), none⟩])
 (.region 0 [⟨some 26, .mv (.t 3), none⟩,
  ⟨some 27, .faddr 0 0 (.t 7), none⟩,
  ⟨some 28, .load false 1 (.t 27), none⟩,
  ⟨some 29, .faddr 1 1 (.t 7), none⟩,
  ⟨some 30, .load false 1 (.t 29), none⟩,
  ⟨some 31, .iaddr 1 (.t 26) (.t 28), none⟩,
  ⟨none, .store 1 (.t 31) (.t 30), none⟩])))
 (.region 0 [⟨some 32, .bin .add (.t 22) (.c (.int .i64 1)), none⟩,
  ⟨some 22, .mv (.t 32), none⟩]))))
def impl_FinalState_r0 : AC :=
 (.region 0 [⟨some 33, .bin .add (.t 15) (.c (.int .i64 1)), none⟩,
  ⟨some 15, .mv (.t 33), none⟩])
def impl_FinalState_b0 : AC :=
 (.seq (.region 0 [⟨some 16, .bin .lss (.t 15) (.t 14), none⟩])
 (.seq (.cond (.t 16) .skip (.exit 0))
 (.seq (.block 1 (.seq (.region 0 [⟨some 17, .iaddr 4 (.t 13) (.t 15), none⟩,
  ⟨some 18, .load true 4 (.t 17), none⟩,
  ⟨some 5, .alloc 5 (.agg [(.int .i64 0), (.int .i64 0), (.nsl 2), (.nsl 2)]), none⟩,
  ⟨none, .store 4 (.t 5) (.t 18), none⟩])
 (.seq (.region 0 [⟨some 19, .faddr 3 3 (.t 5), none⟩,
  ⟨some 20, .load false 1 (.t 19), none⟩,
  ⟨some 21, .len false (.t 20), none⟩,
  ⟨some 22, .mv (.c (.int .i64 0)), none⟩])
 (.block 2 (.loop ⟨[13, 14, 15, 20, 21, 22], [(3, 1, true)], []⟩ impl_FinalState_b1)))))
 impl_FinalState_r0)))
def impl_FinalState_r1 : AC :=
 (.seq (.region 0 [⟨some 34, .mv (.t 3), none⟩,
  ⟨some 2, .mv (.t 34), none⟩])
 .ret)
def impl_FinalState_ac : AC :=
 (.seq (.region 0 [⟨some 2, .mv (.c (.nsl 1)), none⟩])
 (.seq (.seq (.region 0 [⟨some 8, .mv (.t 0), none⟩,
  ⟨some 9, .call false 247 [(.t 8)], none⟩,
  ⟨some 10, .un .not (.t 9), none⟩])
 (.cond (.t 10) (.seq (.region 0 [⟨some 2, .mv (.c (.nsl 1)), none⟩])
 .ret) .skip))
 (.seq (.region 0 [⟨some 11, .bslice 0 11 1 1 (.int .i64 0) [(0, (.c (.int .i64 (-1))))], none⟩,
  ⟨some 12, .callF 12 false [(.sl 1)] 257 [(.t 11), (.c (.int .i64 6))], none⟩,
  ⟨some 3, .mv (.t 12), none⟩])
 (.seq (.seq (.region 0 [⟨some 13, .mv (.t 0), none⟩,
  ⟨some 14, .len false (.t 13), none⟩,
  ⟨some 15, .mv (.c (.int .i64 0)), none⟩])
 (.block 0 (.loop ⟨[13, 14, 15], [(3, 1, true)], []⟩ impl_FinalState_b0)))
 impl_FinalState_r1))))
noncomputable def impl_FinalState_l0 (E : Env) (x13 : U) (x14 : U) (x15 : U) (c3 : List U) : Option U := loopK (roundOf E ⟨[13, 14, 15], [(3, 1, true)], []⟩ impl_FinalState_b0 (blockK 0 (seqK (fun s => exec E impl_FinalState_r1 s (finish [(2, none)])) (finish [(2, none)])))) ([.val x13, .val x14, .val x15], [.vir (.own (.sl 1 c3))])
noncomputable def impl_FinalState_l1 (E : Env) (x13 : U) (x14 : U) (x15 : U) (x20 : U) (x21 : U) (x22 : U) (c3 : List U) : Option U := loopK (roundOf E ⟨[13, 14, 15, 20, 21, 22], [(3, 1, true)], []⟩ impl_FinalState_b1 (blockK 2 (blockK 1 (seqK (fun s => exec E impl_FinalState_r0 s (roundK ⟨[13, 14, 15], [(3, 1, true)], []⟩ (loopK (roundOf E ⟨[13, 14, 15], [(3, 1, true)], []⟩ impl_FinalState_b0 (blockK 0 (seqK (fun s => exec E impl_FinalState_r1 s (finish [(2, none)])) (finish [(2, none)]))))) (blockK 0 (seqK (fun s => exec E impl_FinalState_r1 s (finish [(2, none)])) (finish [(2, none)]))))) (roundK ⟨[13, 14, 15], [(3, 1, true)], []⟩ (loopK (roundOf E ⟨[13, 14, 15], [(3, 1, true)], []⟩ impl_FinalState_b0 (blockK 0 (seqK (fun s => exec E impl_FinalState_r1 s (finish [(2, none)])) (finish [(2, none)]))))) (blockK 0 (seqK (fun s => exec E impl_FinalState_r1 s (finish [(2, none)])) (finish [(2, none)])))))))) ([.val x13, .val x14, .val x15, .val x20, .val x21, .val x22], [.vir (.own (.sl 1 c3))])
theorem impl_FinalState_l0_eq (E : Env) (x13 : U) (x14 : U) (x15 : U) (c3 : List U) : impl_FinalState_l0 E x13 x14 x15 c3 =
 (U.bin .lss x15 x14).bind fun t7 => U.asBool t7
 (U.asInt x15 fun n8 => U.elemAt 4 x13 n8 fun e9 => U.asVar true 4 e9 fun e10 => if storable (.val e10) = true ∧ e10.size = 4 then U.asAgg e10 fun us11 => if 3 = sizes (us11.take 3) then (us11[3]?).bind fun e12 => U.asVar false 1 e12 fun e13 => (U.lenOf false e13).bind fun n14 => impl_FinalState_l1 E x13 x14 x15 e13 (.int .i64 (n14 : Int)) (.int .i64 0) c3 else none else none)
 (some (.sl 1 c3)) :=
 (loop_eq E _ _ _ _).trans (by kernel_rfl)
theorem impl_FinalState_l1_eq (E : Env) (x13 : U) (x14 : U) (x15 : U) (x20 : U) (x21 : U) (x22 : U) (c3 : List U) : impl_FinalState_l1 E x13 x14 x15 x20 x21 x22 c3 =
 (U.bin .lss x22 x21).bind fun t15 => U.asBool t15
 (U.asInt x22 fun n16 => U.elemAt 2 x20 n16 fun e17 => U.asVar true 2 e17 fun e18 => if storable (.val e18) = true ∧ e18.size = 2 then U.asAgg e18 fun us19 => if 0 = sizes (us19.take 0) then (us19[0]?).bind fun e20 => U.asVar false 1 e20 fun e21 => U.asAgg e18 fun us22 => if 1 = sizes (us22.take 1) then (us22[1]?).bind fun e23 => U.asVar false 1 e23 fun e24 => U.asInt e21 fun n25 => if 1 = 1 ∧ 0 ≤ n25 ∧ n25 < (c3.length : Int) then if storable (.val e24) = true ∧ e24.size = 1 then (c3[(n25 : Int).toNat]?).bind fun e26 => if e26.size = 1 then if (e24 : U).flat = true then (U.bin .add x22 (.int .i64 1)).bind fun t27 => impl_FinalState_l1 E x13 x14 x15 x20 x21 t27 (c3.set (n25 : Int).toNat e24) else none else none else none else none else none else none else none)
 ((U.bin .add x15 (.int .i64 1)).bind fun t28 => impl_FinalState_l0 E x13 x14 t28 c3) :=
 (loop_eq E _ _ _ _).trans (by kernel_rfl)
structure G_impl_FinalState (E : Env) : Prop where
  is : Is E 281 1 impl_FinalState_ac [(2, none)]
  c_impl_IsHistory : G_impl_IsHistory E
  c_slices_Repeat_g257_F : G_slices_Repeat_g257_F E
theorem impl_FinalState_E {E : Env} (h : G_impl_FinalState E) (a0 : U) : E 281 [a0] =
 (E 247 [a0]).bind fun t1 => (U.un .not t1).bind fun t2 => U.asBool t2
 (some (.nsl 1))
 ((E 100257 [(.sl 1 [(.int .i64 (-1))]), (.int .i64 6)]).bind fun t3 => U.noTup t3 fun x4 => U.asSlK 1 x4 fun us5 => (U.lenOf false a0).bind fun n6 => impl_FinalState_l0 E a0 (.int .i64 (n6 : Int)) (.int .i64 0) us5) := (h.is _ rfl).trans ((runQ_V rfl).trans (by kernel_rfl))
end Go.Proofs.Ytfdcdbkblkehcaa.Am
namespace Go.Proofs.Ytfdcdbkblkehcaa.Am
open Go
set_option linter.unusedVariables false
set_option maxRecDepth 100000
def slices_ContainsFunc_g255_ac : AC :=
 (.seq (.region 0 [⟨some 4, .mv (.c (.bool false)), none⟩])
 (.seq (.region 0 [⟨some 5, .mv (.t 0), none⟩,
  ⟨some 6, .mv (.t 1), none⟩,
  ⟨some 7, .call false 253 [(.t 5), (.t 6)], none⟩,
  ⟨some 8, .bin .geq (.t 7) (.c (.int .i64 0)), none⟩,
  ⟨some 4, .mv (.t 8), none⟩])
 .ret))
structure G_slices_ContainsFunc_g255 (E : Env) : Prop where
  is : Is E 255 2 slices_ContainsFunc_g255_ac [(4, none)]
  c_slices_IndexFunc_g253 : G_slices_IndexFunc_g253 E
theorem slices_ContainsFunc_g255_E {E : Env} (h : G_slices_ContainsFunc_g255 E) (a0 a1 : U) : E 255 [a0, a1] =
 (E 253 [a0, a1]).bind fun t1 => (U.bin .geq t1 (.int .i64 0)).bind fun t2 => some t2 := (h.is _ rfl).trans ((runQ_V rfl).trans (by kernel_rfl))
end Go.Proofs.Ytfdcdbkblkehcaa.Am
namespace Go.Proofs.Ytfdcdbkblkehcaa.Am
open Go
set_option linter.unusedVariables false
set_option maxRecDepth 100000
def slices_Index_g43_b0 : AC :=
 (.seq (.region 0 [⟨some 9, .bin .lss (.t 8) (.t 7), none⟩])
 (.seq (.cond (.t 9) .skip (.exit 0))
 (.seq (.block 1 (.seq (.region 0 [⟨some 10, .mv (.t 8), none⟩,
  ⟨some 5, .mv (.t 10), none⟩])
 (.seq (.region 0 [⟨some 11, .mv (.t 1), none⟩,
  ⟨some 12, .mv (.t 0), none⟩,
  ⟨some 13, .mv (.t 5), none⟩,
  ⟨some 14, .iaddr 1 (.t 12) (.t 13), none⟩,
  ⟨some 15, .load false 1 (.t 14), none⟩,
  ⟨some 16, .bin .eql (.t 11) (.t 15), none⟩])
 (.cond (.t 16) (.seq (.region 0 [⟨some 17, .mv (.t 5), none⟩,
  ⟨some 4, .mv (.t 17), none⟩])
 .ret) .skip))))
 (.region 0 [⟨some 18, .bin .add (.t 8) (.c (.int .i64 1)), none⟩,
  ⟨some 8, .mv (.t 18), none⟩]))))
def slices_Index_g43_r0 : AC :=
 (.seq (.region 0 [⟨some 4, .mv (.c (.int .i64 (-1))), none⟩])
 .ret)
def slices_Index_g43_ac : AC :=
 (.seq (.region 0 [⟨some 4, .mv (.c (.int .i64 0)), none⟩])
 (.seq (.seq (.region 0 [⟨some 6, .mv (.t 0), none⟩,
  ⟨some 7, .len false (.t 6), none⟩,
  ⟨some 8, .mv (.c (.int .i64 0)), none⟩])
 (.block 0 (.loop ⟨[0, 1, 7, 8], [], []⟩ slices_Index_g43_b0)))
 slices_Index_g43_r0))
noncomputable def slices_Index_g43_l0 (E : Env) (x0 : U) (x1 : U) (x7 : U) (x8 : U) : Option U := loopK (roundOf E ⟨[0, 1, 7, 8], [], []⟩ slices_Index_g43_b0 (blockK 0 (seqK (fun s => exec E slices_Index_g43_r0 s (finish [(4, none)])) (finish [(4, none)])))) ([.val x0, .val x1, .val x7, .val x8], [])
theorem slices_Index_g43_l0_eq (E : Env) (x0 : U) (x1 : U) (x7 : U) (x8 : U) : slices_Index_g43_l0 E x0 x1 x7 x8 =
 (U.bin .lss x8 x7).bind fun t2 => U.asBool t2
 (U.asInt x8 fun n3 => U.elemAt 1 x0 n3 fun e4 => U.asVar false 1 e4 fun e5 => (U.bin .eql x1 e5).bind fun t6 => U.asBool t6
 (some x8)
 ((U.bin .add x8 (.int .i64 1)).bind fun t7 => slices_Index_g43_l0 E x0 x1 x7 t7))
 (some (.int .i64 (-1))) :=
 (loop_eq E _ _ _ _).trans (by kernel_rfl)
structure G_slices_Index_g43 (E : Env) : Prop where
  is : Is E 43 2 slices_Index_g43_ac [(4, none)]
theorem slices_Index_g43_E {E : Env} (h : G_slices_Index_g43 E) (a0 a1 : U) : E 43 [a0, a1] =
 (U.lenOf false a0).bind fun n1 => slices_Index_g43_l0 E a0 a1 (.int .i64 (n1 : Int)) (.int .i64 0) := (h.is _ rfl).trans ((runQ_V rfl).trans (by kernel_rfl))
end Go.Proofs.Ytfdcdbkblkehcaa.Am
namespace Go.Proofs.Ytfdcdbkblkehcaa.Am
open Go
set_option linter.unusedVariables false
set_option maxRecDepth 100000
def slices_Contains_g42_ac : AC :=
 (.seq (.region 0 [⟨some 4, .mv (.c (.bool false)), none⟩])
 (.seq (.region 0 [⟨some 5, .mv (.t 0), none⟩,
  ⟨some 6, .mv (.t 1), none⟩,
  ⟨some 7, .call false 43 [(.t 5), (.t 6)], none⟩,
  ⟨some 8, .bin .geq (.t 7) (.c (.int .i64 0)), none⟩,
  ⟨some 4, .mv (.t 8), none⟩])
 .ret))
structure G_slices_Contains_g42 (E : Env) : Prop where
  is : Is E 42 2 slices_Contains_g42_ac [(4, none)]
  c_slices_Index_g43 : G_slices_Index_g43 E
theorem slices_Contains_g42_E {E : Env} (h : G_slices_Contains_g42 E) (a0 a1 : U) : E 42 [a0, a1] =
 (E 43 [a0, a1]).bind fun t1 => (U.bin .geq t1 (.int .i64 0)).bind fun t2 => some t2 := (h.is _ rfl).trans ((runQ_V rfl).trans (by kernel_rfl))
end Go.Proofs.Ytfdcdbkblkehcaa.Am
namespace Go.Proofs.Ytfdcdbkblkehcaa.Am
open Go
set_option linter.unusedVariables false
set_option maxRecDepth 100000
def impl_isOrder_1_ac : AC :=
 (.seq (.region 0 [⟨some 2, .box false 2 (.t 0), none⟩,
  ⟨some 3, .mv (.c (.bool false)), none⟩])
 (.seq (.region 0 [⟨some 4, .load false 1 (.t 1), none⟩,
  ⟨some 5, .faddr 0 0 (.t 2), none⟩,
  ⟨some 6, .load false 1 (.t 5), none⟩,
  ⟨some 7, .call false 42 [(.t 4), (.t 6)], none⟩,
  ⟨some 8, .un .not (.t 7), none⟩,
  ⟨some 3, .mv (.t 8), none⟩])
 .ret))
structure G_impl_isOrder_1 (E : Env) : Prop where
  is : Is E 254 2 impl_isOrder_1_ac [(3, none)]
  c_slices_Contains_g42 : G_slices_Contains_g42 E
theorem impl_isOrder_1_E {E : Env} (h : G_impl_isOrder_1 E) (a0 a1 : U) : E 254 [a0, a1] =
 U.noTup a0 fun x1 => U.asVp a1 fun v2 => U.asVar false 1 v2 fun e3 => U.asAgg x1 fun us4 => if 0 = sizes (us4.take 0) then (us4[0]?).bind fun e5 => U.asVar false 1 e5 fun e6 => (E 42 [e3, e6]).bind fun t7 => (U.un .not t7).bind fun t8 => some t8 else none := (h.is _ rfl).trans ((runQ_V rfl).trans (by kernel_rfl))
end Go.Proofs.Ytfdcdbkblkehcaa.Am
namespace Go.Proofs.Ytfdcdbkblkehcaa.Am
open Go
set_option linter.unusedVariables false
set_option maxRecDepth 100000
def impl_isOrder_ac : AC :=
 (.seq (.region 0 [⟨some 3, .box true 3 (.t 1), none⟩,
  ⟨some 4, .mv (.c (.bool false)), none⟩])
 (.seq (.region 0 [⟨some 5, .load false 1 (.t 3), none⟩,
  ⟨some 6, .len false (.t 5), none⟩,
  ⟨some 7, .mv (.t 0), none⟩,
  ⟨some 8, .len false (.t 7), none⟩,
  ⟨some 9, .bin .eql (.t 6) (.t 8), none⟩,
  ⟨some 10, .mv (.t 9), none⟩,
  ⟨some 11, .mv (.t 0), some (10, true)⟩,
  ⟨some 12, .mkfn 254 [(.t 3)], some (10, true)⟩,
  ⟨some 13, .call false 255 [(.t 11), (.t 12)], some (10, true)⟩,
  ⟨some 14, .un .not (.t 13), some (10, true)⟩,
  ⟨some 15, .pick (.t 10) (.t 14) (.c (.bool false)), none⟩,
  ⟨some 4, .mv (.t 15), none⟩])
 .ret))
structure G_impl_isOrder (E : Env) : Prop where
  is : Is E 248 2 impl_isOrder_ac [(4, none)]
  c_slices_ContainsFunc_g255 : G_slices_ContainsFunc_g255 E
  c_impl_isOrder_1 : G_impl_isOrder_1 E
theorem impl_isOrder_E {E : Env} (h : G_impl_isOrder E) (a0 a1 : U) : E 248 [a0, a1] =
 U.noTup a1 fun x1 => U.asVar false 1 x1 fun e2 => (U.lenOf false e2).bind fun n3 => (U.lenOf false a0).bind fun n4 => (U.bin .eql (.int .i64 (n3 : Int)) (.int .i64 (n4 : Int))).bind fun t5 => U.asBool t5
 ((E 255 [a0, (.fn 254 [(.vp x1)])]).bind fun t6 => U.asFlat t6 fun t7 => (U.un .not t7).bind fun t8 => some t8)
 (some (.bool false)) := (h.is _ rfl).trans ((runQ_V rfl).trans (by kernel_rfl))
end Go.Proofs.Ytfdcdbkblkehcaa.Am
namespace Go.Proofs.Ytfdcdbkblkehcaa.Am
open Go
set_option linter.unusedVariables false
set_option maxRecDepth 100000
def slices_IndexFunc_g163_b0 : AC :=
 (.seq (.region 0 [⟨some 9, .bin .lss (.t 8) (.t 7), none⟩])
 (.seq (.cond (.t 9) .skip (.exit 0))
 (.seq (.block 1 (.seq (.region 0 [⟨some 10, .mv (.t 8), none⟩,
  ⟨some 5, .mv (.t 10), none⟩])
 (.seq (.region 0 [⟨some 11, .mv (.t 1), none⟩,
  ⟨some 12, .mv (.t 0), none⟩,
  ⟨some 13, .mv (.t 5), none⟩,
  ⟨some 14, .iaddr 2 (.t 12) (.t 13), none⟩,
  ⟨some 15, .load true 2 (.t 14), none⟩,
  ⟨some 16, .callv false (.t 11) [(.t 15)], none⟩])
 (.cond (.t 16) (.seq (.region 0 [⟨some 17, .mv (.t 5), none⟩,
  ⟨some 4, .mv (.t 17), none⟩])
 .ret) .skip))))
 (.region 0 [⟨some 18, .bin .add (.t 8) (.c (.int .i64 1)), none⟩,
  ⟨some 8, .mv (.t 18), none⟩]))))
def slices_IndexFunc_g163_r0 : AC :=
 (.seq (.region 0 [⟨some 4, .mv (.c (.int .i64 (-1))), none⟩])
 .ret)
def slices_IndexFunc_g163_ac : AC :=
 (.seq (.region 0 [⟨some 4, .mv (.c (.int .i64 0)), none⟩])
 (.seq (.seq (.region 0 [⟨some 6, .mv (.t 0), none⟩,
  ⟨some 7, .len false (.t 6), none⟩,
  ⟨some 8, .mv (.c (.int .i64 0)), none⟩])
 (.block 0 (.loop ⟨[0, 1, 7, 8], [], []⟩ slices_IndexFunc_g163_b0)))
 slices_IndexFunc_g163_r0))
noncomputable def slices_IndexFunc_g163_l0 (E : Env) (x0 : U) (x1 : U) (x7 : U) (x8 : U) : Option U := loopK (roundOf E ⟨[0, 1, 7, 8], [], []⟩ slices_IndexFunc_g163_b0 (blockK 0 (seqK (fun s => exec E slices_IndexFunc_g163_r0 s (finish [(4, none)])) (finish [(4, none)])))) ([.val x0, .val x1, .val x7, .val x8], [])
theorem slices_IndexFunc_g163_l0_eq (E : Env) (x0 : U) (x1 : U) (x7 : U) (x8 : U) : slices_IndexFunc_g163_l0 E x0 x1 x7 x8 =
 (U.bin .lss x8 x7).bind fun t2 => U.asBool t2
 (U.asInt x8 fun n3 => U.elemAt 2 x0 n3 fun e4 => U.asVar true 2 e4 fun e5 => U.asFn x1 fun r6 caps7 => (E r6 ([e5] ++ caps7)).bind fun t8 => U.asBool t8
 (some x8)
 ((U.bin .add x8 (.int .i64 1)).bind fun t9 => slices_IndexFunc_g163_l0 E x0 x1 x7 t9))
 (some (.int .i64 (-1))) :=
 (loop_eq E _ _ _ _).trans (by kernel_rfl)
structure G_slices_IndexFunc_g163 (E : Env) : Prop where
  is : Is E 163 2 slices_IndexFunc_g163_ac [(4, none)]
theorem slices_IndexFunc_g163_E {E : Env} (h : G_slices_IndexFunc_g163 E) (a0 a1 : U) : E 163 [a0, a1] =
 (U.lenOf false a0).bind fun n1 => slices_IndexFunc_g163_l0 E a0 a1 (.int .i64 (n1 : Int)) (.int .i64 0) := (h.is _ rfl).trans ((runQ_V rfl).trans (by kernel_rfl))
end Go.Proofs.Ytfdcdbkblkehcaa.Am
namespace Go.Proofs.Ytfdcdbkblkehcaa.Am
open Go
set_option linter.unusedVariables false
set_option maxRecDepth 100000
def slices_ContainsFunc_g162_ac : AC :=
 (.seq (.region 0 [⟨some 4, .mv (.c (.bool false)), none⟩])
 (.seq (.region 0 [⟨some 5, .mv (.t 0), none⟩,
  ⟨some 6, .mv (.t 1), none⟩,
  ⟨some 7, .call false 163 [(.t 5), (.t 6)], none⟩,
  ⟨some 8, .bin .geq (.t 7) (.c (.int .i64 0)), none⟩,
  ⟨some 4, .mv (.t 8), none⟩])
 .ret))
structure G_slices_ContainsFunc_g162 (E : Env) : Prop where
  is : Is E 162 2 slices_ContainsFunc_g162_ac [(4, none)]
  c_slices_IndexFunc_g163 : G_slices_IndexFunc_g163 E
theorem slices_ContainsFunc_g162_E {E : Env} (h : G_slices_ContainsFunc_g162 E) (a0 a1 : U) : E 162 [a0, a1] =
 (E 163 [a0, a1]).bind fun t1 => (U.bin .geq t1 (.int .i64 0)).bind fun t2 => some t2 := (h.is _ rfl).trans ((runQ_V rfl).trans (by kernel_rfl))
end Go.Proofs.Ytfdcdbkblkehcaa.Am
namespace Go.Proofs.Ytfdcdbkblkehcaa.Am
open Go
set_option linter.unusedVariables false
set_option maxRecDepth 100000
def impl_replayed_1_ac : AC :=
 (.seq (.region 0 [⟨some 2, .box false 2 (.t 0), none⟩,
  ⟨some 3, .mv (.c (.bool false)), none⟩])
 (.seq (.region 9 [⟨some 4, .load false 1 (.t 1), none⟩,
  ⟨some 5, .faddr 0 0 (.t 2), none⟩,
  ⟨some 6, .load false 1 (.t 5), none⟩,
  ⟨some 7, .iaddr 1 (.t 4) (.t 6), none⟩,
  ⟨some 8, .load false 1 (.t 7), none⟩,
  ⟨some 9, .faddr 1 1 (.t 2), none⟩,
  ⟨some 10, .load false 1 (.t 9), none⟩,
  ⟨some 11, .bin .neq (.t 8) (.t 10), none⟩,
  ⟨some 3, .mv (.t 11), none⟩])
 .ret))
structure G_impl_replayed_1 (E : Env) : Prop where
  is : Is E 256 2 impl_replayed_1_ac [(3, none)]
theorem impl_replayed_1_E {E : Env} (h : G_impl_replayed_1 E) (a0 a1 : U) : E 256 [a0, a1] =
 U.noTup a0 fun x1 => U.asVp a1 fun v2 => U.asVar false 1 v2 fun e3 => U.asAgg x1 fun us4 => if 0 = sizes (us4.take 0) then (us4[0]?).bind fun e5 => U.asVar false 1 e5 fun e6 => U.asInt e6 fun n7 => U.elemAt 1 e3 n7 fun e8 => U.asVar false 1 e8 fun e9 => U.asAgg x1 fun us10 => if 1 = sizes (us10.take 1) then (us10[1]?).bind fun e11 => U.asVar false 1 e11 fun e12 => (U.bin .neq e9 e12).bind fun t13 => some t13 else none else none := (h.is _ rfl).trans ((runQ_V rfl).trans (by kernel_rfl))
end Go.Proofs.Ytfdcdbkblkehcaa.Am
namespace Go.Proofs.Ytfdcdbkblkehcaa.Am
open Go
set_option linter.unusedVariables false
set_option maxRecDepth 100000
def impl_replayed_b1 : AC :=
 (.seq (.region 0 [⟨some 38, .bin .lss (.t 37) (.t 36), none⟩])
 (.seq (.cond (.t 38) .skip (.exit 2))
 (.seq (.block 3 (.seq (.region 0 [⟨some 39, .iaddr 2 (.t 35) (.t 37), none⟩,
  ⟨some 40, .load true 2 (.t 39), none⟩,
  ⟨some 12, .alloc 12 (.agg [(.int .i64 0), (.int .i64 0)]), none⟩,
  ⟨none, .store 2 (.t 12) (.t 40), none⟩])
 (.region 11 [⟨some 41, .mv (.t 6), none⟩,
  ⟨some 42, .faddr 0 0 (.t 12), none⟩,
  ⟨some 43, .load false 1 (.t 42), none⟩,
  ⟨some 44, .loadO (.sl 1) (.t 7), none⟩,
  ⟨some 45, .faddr 0 0 (.t 12), none⟩,
  ⟨some 46, .load false 1 (.t 45), none⟩,
  ⟨some 47, .faddr 1 1 (.t 12), none⟩,
  ⟨some 48, .load false 1 (.t 47), none⟩,
  ⟨some 49, .faddr 1 1 (.t 10), none⟩,
  ⟨some 50, .load false 1 (.t 49), none⟩,
  ⟨some 51, .iaddr 1 (.t 41) (.t 43), none⟩,
  ⟨none, .storeS 1 (.t 51) (.t 48) [(.t 7), (.t 45), (.t 49)], none⟩,
  ⟨some 52, .iaddr 1 (.t 44) (.t 46), none⟩,
  ⟨none, .store 1 (.t 52) (.t 50), none⟩])))
 (.region 0 [⟨some 53, .bin .add (.t 37) (.c (.int .i64 1)), none⟩,
  ⟨some 37, .mv (.t 53), none⟩]))))
def impl_replayed_r0 : AC :=
 (.region 0 [⟨some 54, .bin .add (.t 18) (.c (.int .i64 1)), none⟩,
  ⟨some 18, .mv (.t 54), none⟩])
def impl_replayed_b0 : AC :=
 (.seq (.region 0 [⟨some 19, .bin .lss (.t 18) (.t 17), none⟩])
 (.seq (.cond (.t 19) .skip (.exit 0))
 (.seq (.block 1 (.seq (.region 0 [⟨some 20, .mv (.t 18), none⟩,
  ⟨some 21, .iaddr 1 (.t 16) (.t 18), none⟩,
  ⟨some 22, .load false 1 (.t 21), none⟩,
  ⟨some 8, .mv (.t 20), none⟩,
  ⟨some 9, .mv (.t 22), none⟩])
 (.seq (.region 0 [⟨some 23, .mv (.t 0), none⟩,
  ⟨some 24, .mv (.t 0), none⟩,
  ⟨some 25, .mv (.t 9), none⟩,
  ⟨some 26, .call false 251 [(.t 24), (.t 25)], none⟩,
  ⟨some 27, .iaddr 4 (.t 23) (.t 26), none⟩,
  ⟨some 28, .load true 4 (.t 27), none⟩,
  ⟨some 10, .alloc 10 (.agg [(.int .i64 0), (.int .i64 0), (.nsl 2), (.nsl 2)]), none⟩,
  ⟨none, .store 4 (.t 10) (.t 28), none⟩])
 (.seq (.seq (.region 0 [⟨some 29, .faddr 2 2 (.t 10), none⟩,
  ⟨some 30, .load false 1 (.t 29), none⟩,
  ⟨some 31, .mkfn 256 [(.t 7)], none⟩,
  ⟨some 32, .call false 162 [(.t 30), (.t 31)], none⟩])
 (.cond (.t 32) (.seq (.region 0 [⟨some 33, .mv (.t 8), none⟩,
  ⟨some 4, .mv (.c (.nsl 1)), none⟩,
  ⟨some 5, .mv (.t 33), none⟩])
 .ret) .skip))
 (.seq (.region 0 [⟨some 34, .faddr 3 3 (.t 10), none⟩,
  ⟨some 35, .load false 1 (.t 34), none⟩,
  ⟨some 36, .len false (.t 35), none⟩,
  ⟨some 37, .mv (.c (.int .i64 0)), none⟩])
 (.block 2 (.loop ⟨[0, 7, 10, 16, 17, 18, 35, 36, 37], [(6, 1, true)], [(7, false), (10, false)]⟩ impl_replayed_b1)))))))
 impl_replayed_r0)))
def impl_replayed_r1 : AC :=
 (.seq (.region 0 [⟨some 55, .mv (.t 6), none⟩,
  ⟨some 4, .mv (.t 55), none⟩,
  ⟨some 5, .mv (.c (.int .i64 (-1))), none⟩])
 .ret)
def impl_replayed_ac : AC :=
 (.seq (.region 0 [⟨some 4, .mv (.c (.nsl 1)), none⟩,
  ⟨some 5, .mv (.c (.int .i64 0)), none⟩])
 (.seq (.regN 5 [14, 15, 7] [(0, 14), (2, 14), (3, 14), (0, 15), (1, 15), (3, 15), (4, 15), (0, 7), (1, 7), (2, 7)] [] [⟨some 13, .bslice 0 13 1 1 (.int .i64 0) [(0, (.c (.int .i64 (-1))))], none⟩,
  ⟨some 14, .callF 14 false [(.sl 1)] 257 [(.t 13), (.c (.int .i64 6))], none⟩,
  ⟨some 15, .mkslice 15 1 8 (.int .i64 0) (.c (.int .i64 6)) (.c (.int .i64 6)), none⟩,
  ⟨some 7, .alloc 7 (.nsl 1), none⟩,
  ⟨some 6, .mv (.t 14), none⟩,
  ⟨none, .storeM 3000 1 (.t 7) (.t 15), none⟩])
 (.seq (.seq (.region 0 [⟨some 16, .mv (.t 1), none⟩,
  ⟨some 17, .len false (.t 16), none⟩,
  ⟨some 18, .mv (.c (.int .i64 0)), none⟩])
 (.block 0 (.loop ⟨[0, 7, 16, 17, 18], [(6, 1, true)], [(7, false)]⟩ impl_replayed_b0)))
 impl_replayed_r1)))
noncomputable def impl_replayed_l0 (E : Env) (x0 : U) (x16 : U) (x17 : U) (x18 : U) (c6 : List U) (b7 : List U) : Option U := loopK (roundOf E ⟨[0, 7, 16, 17, 18], [(6, 1, true)], [(7, false)]⟩ impl_replayed_b0 (blockK 0 (seqK (fun s => exec E impl_replayed_r1 s (finish [(4, none), (5, none)])) (finish [(4, none), (5, none)])))) ([.val x0, .ptr 7 [], .val x16, .val x17, .val x18], [.vir (.own (.sl 1 c6)), .box (.asl 1 b7)])
noncomputable def impl_replayed_l1 (E : Env) (x0 : U) (x16 : U) (x17 : U) (x18 : U) (x35 : U) (x36 : U) (x37 : U) (c6 : List U) (b7 : List U) (b10 : U) : Option U := loopK (roundOf E ⟨[0, 7, 10, 16, 17, 18, 35, 36, 37], [(6, 1, true)], [(7, false), (10, false)]⟩ impl_replayed_b1 (blockK 2 (blockK 1 (seqK (fun s => exec E impl_replayed_r0 s (roundK ⟨[0, 7, 16, 17, 18], [(6, 1, true)], [(7, false)]⟩ (loopK (roundOf E ⟨[0, 7, 16, 17, 18], [(6, 1, true)], [(7, false)]⟩ impl_replayed_b0 (blockK 0 (seqK (fun s => exec E impl_replayed_r1 s (finish [(4, none), (5, none)])) (finish [(4, none), (5, none)]))))) (blockK 0 (seqK (fun s => exec E impl_replayed_r1 s (finish [(4, none), (5, none)])) (finish [(4, none), (5, none)]))))) (roundK ⟨[0, 7, 16, 17, 18], [(6, 1, true)], [(7, false)]⟩ (loopK (roundOf E ⟨[0, 7, 16, 17, 18], [(6, 1, true)], [(7, false)]⟩ impl_replayed_b0 (blockK 0 (seqK (fun s => exec E impl_replayed_r1 s (finish [(4, none), (5, none)])) (finish [(4, none), (5, none)]))))) (blockK 0 (seqK (fun s => exec E impl_replayed_r1 s (finish [(4, none), (5, none)])) (finish [(4, none), (5, none)])))))))) ([.val x0, .ptr 7 [], .ptr 10 [], .val x16, .val x17, .val x18, .val x35, .val x36, .val x37], [.vir (.own (.sl 1 c6)), .box (.asl 1 b7), .box (.val b10)])
theorem impl_replayed_l0_eq (E : Env) (x0 : U) (x16 : U) (x17 : U) (x18 : U) (c6 : List U) (b7 : List U) : impl_replayed_l0 E x0 x16 x17 x18 c6 b7 =
 (U.bin .lss x18 x17).bind fun t5 => U.asBool t5
 (U.asInt x18 fun n6 => U.elemAt 1 x16 n6 fun e7 => U.asVar false 1 e7 fun e8 => (E 251 [x0, e8]).bind fun t9 => U.asInt t9 fun n10 => U.elemAt 4 x0 n10 fun e11 => U.asVar true 4 e11 fun e12 => if storable (.val e12) = true ∧ e12.size = 4 then U.asAgg e12 fun us13 => if 2 = sizes (us13.take 2) then (us13[2]?).bind fun e14 => U.asVar false 1 e14 fun e15 => (E 162 [e15, (.fn 256 [(.vp (.sl 1 b7))])]).bind fun t16 => U.asFlat t16 fun t17 => U.asBool t17
 (U.noTup x18 fun x18 => some (.tup [(.nsl 1), x18]))
 (U.asAgg e12 fun us19 => if 3 = sizes (us19.take 3) then (us19[3]?).bind fun e20 => U.asVar false 1 e20 fun e21 => (U.lenOf false e21).bind fun n22 => impl_replayed_l1 E x0 x16 x17 x18 e21 (.int .i64 (n22 : Int)) (.int .i64 0) c6 b7 e12 else none) else none else none)
 (some (.tup [(.sl 1 c6), (.int .i64 (-1))])) :=
 (loop_eq E _ _ _ _).trans (by kernel_rfl)
theorem impl_replayed_l1_eq (E : Env) (x0 : U) (x16 : U) (x17 : U) (x18 : U) (x35 : U) (x36 : U) (x37 : U) (c6 : List U) (b7 : List U) (b10 : U) : impl_replayed_l1 E x0 x16 x17 x18 x35 x36 x37 c6 b7 b10 =
 (U.bin .lss x37 x36).bind fun t23 => U.asBool t23
 (U.asInt x37 fun n24 => U.elemAt 2 x35 n24 fun e25 => U.asVar true 2 e25 fun e26 => if storable (.val e26) = true ∧ e26.size = 2 then U.asAgg e26 fun us27 => if 0 = sizes (us27.take 0) then (us27[0]?).bind fun e28 => U.asVar false 1 e28 fun e29 => U.asAgg e26 fun us30 => if 0 = sizes (us30.take 0) then (us30[0]?).bind fun e31 => U.asVar false 1 e31 fun e32 => U.asAgg e26 fun us33 => if 1 = sizes (us33.take 1) then (us33[1]?).bind fun e34 => U.asVar false 1 e34 fun e35 => U.asAgg b10 fun us36 => if 1 = sizes (us36.take 1) then (us36[1]?).bind fun e37 => U.asVar false 1 e37 fun e38 => U.asInt e29 fun n39 => if 1 = 1 ∧ 0 ≤ n39 ∧ n39 < (c6.length : Int) then if storable (.val e35) = true ∧ e35.size = 1 then (c6[(n39 : Int).toNat]?).bind fun e40 => if e40.size = 1 then if (e35 : U).flat = true then U.asInt e32 fun n41 => if 1 = 1 ∧ 0 ≤ n41 ∧ n41 < ((b7).length : Int) then if storable (.val e38) = true ∧ e38.size = 1 then (b7[(n41 : Int).toNat]?).bind fun e42 => if e42.size = 1 then (U.bin .add x37 (.int .i64 1)).bind fun t43 => impl_replayed_l1 E x0 x16 x17 x18 x35 x36 t43 (c6.set (n39 : Int).toNat e35) (b7.set (n41 : Int).toNat e38) b10 else none else none else none else none else none else none else none else none else none else none else none else none)
 ((U.bin .add x18 (.int .i64 1)).bind fun t44 => impl_replayed_l0 E x0 x16 x17 t44 c6 b7) :=
 (loop_eq E _ _ _ _).trans (by kernel_rfl)
structure G_impl_replayed (E : Env) : Prop where
  is : Is E 246 2 impl_replayed_ac [(4, none), (5, none)]
  c_impl_FindEntry : G_impl_FindEntry E
  c_slices_ContainsFunc_g162 : G_slices_ContainsFunc_g162 E
  c_impl_replayed_1 : G_impl_replayed_1 E
  c_slices_Repeat_g257_F : G_slices_Repeat_g257_F E
theorem impl_replayed_E {E : Env} (h : G_impl_replayed E) (a0 a1 : U) : E 246 [a0, a1] =
 (E 100257 [(.sl 1 [(.int .i64 (-1))]), (.int .i64 6)]).bind fun t1 => U.noTup t1 fun x2 => U.asSlK 1 x2 fun us3 => if 0 ≤ 6 ∧ 6 ≤ 6 ∧ 6 * 8 ≤ 140737488355328 ∧ ((.int .i64 0) : U).size = 1 then (U.lenOf false a1).bind fun n4 => impl_replayed_l0 E a0 a1 (.int .i64 (n4 : Int)) (.int .i64 0) us3 (List.replicate (6 : Int).toNat (.int .i64 0)) else none := (h.is _ rfl).trans ((runQ_V rfl).trans (by kernel_rfl))
end Go.Proofs.Ytfdcdbkblkehcaa.Am
namespace Go.Proofs.Ytfdcdbkblkehcaa.Am
open Go
set_option linter.unusedVariables false
set_option maxRecDepth 100000
def impl_ReplaySerial_ac : AC :=
 (.seq (.region 0 [⟨some 4, .mv (.c (.nsl 1)), none⟩,
  ⟨some 5, .mv (.c (.bool false)), none⟩])
 (.seq (.seq (.region 0 [⟨some 8, .mv (.t 0), none⟩,
  ⟨some 9, .call false 247 [(.t 8)], none⟩,
  ⟨some 10, .un .not (.t 9), none⟩,
  ⟨some 11, .mv (.t 10), none⟩,
  ⟨some 12, .mv (.t 0), some (11, false)⟩,
  ⟨some 13, .mv (.t 1), some (11, false)⟩,
  ⟨some 14, .call false 248 [(.t 12), (.t 13)], some (11, false)⟩,
  ⟨some 15, .un .not (.t 14), some (11, false)⟩,
  ⟨some 16, .pick (.t 11) (.c (.bool true)) (.t 15), none⟩])
 (.cond (.t 16) (.seq (.region 0 [⟨some 4, .mv (.c (.nsl 1)), none⟩,
  ⟨some 5, .mv (.c (.bool false)), none⟩])
 .ret) .skip))
 (.seq (.region 0 [⟨some 18, .mv (.t 0), none⟩,
  ⟨some 19, .mv (.t 1), none⟩,
  ⟨some 20, .call false 246 [(.t 18), (.t 19)], none⟩,
  ⟨some 17, .mv (.t 20), none⟩,
  ⟨some 21, .extract 0 (.t 17), none⟩,
  ⟨some 22, .extract 1 (.t 17), none⟩,
  ⟨some 6, .mv (.t 21), none⟩,
  ⟨some 7, .mv (.t 22), none⟩])
 (.seq (.region 0 [⟨some 23, .mv (.t 6), none⟩,
  ⟨some 24, .mv (.t 7), none⟩,
  ⟨some 25, .bin .lss (.t 24) (.c (.int .i64 0)), none⟩,
  ⟨some 4, .mv (.t 23), none⟩,
  ⟨some 5, .mv (.t 25), none⟩])
 .ret))))
structure G_impl_ReplaySerial (E : Env) : Prop where
  is : Is E 283 2 impl_ReplaySerial_ac [(4, none), (5, none)]
  c_impl_IsHistory : G_impl_IsHistory E
  c_impl_isOrder : G_impl_isOrder E
  c_impl_replayed : G_impl_replayed E
theorem impl_ReplaySerial_E {E : Env} (h : G_impl_ReplaySerial E) (a0 a1 : U) : E 283 [a0, a1] =
 (E 247 [a0]).bind fun t1 => (U.un .not t1).bind fun t2 => U.asBool t2
 (some (.tup [(.nsl 1), (.bool false)]))
 ((E 248 [a0, a1]).bind fun t3 => (U.un .not t3).bind fun t4 => U.asBool t4
 (some (.tup [(.nsl 1), (.bool false)]))
 ((E 246 [a0, a1]).bind fun t5 => U.part 0 t5 fun p6 => U.part 1 t5 fun p7 => (U.bin .lss p7 (.int .i64 0)).bind fun t8 => U.noTup p6 fun x9 => U.noTup t8 fun x10 => some (.tup [x9, x10]))) := (h.is _ rfl).trans ((runQ_V rfl).trans (by kernel_rfl))
end Go.Proofs.Ytfdcdbkblkehcaa.Am
namespace Go.Proofs.Ytfdcdbkblkehcaa.Am
open Go
set_option linter.unusedVariables false
set_option maxRecDepth 100000
def slices_Equal_g282_b0 : AC :=
 (.seq (.region 0 [⟨some 14, .bin .lss (.t 13) (.t 12), none⟩])
 (.seq (.cond (.t 14) .skip (.exit 0))
 (.seq (.block 1 (.seq (.region 0 [⟨some 15, .mv (.t 13), none⟩,
  ⟨some 5, .mv (.t 15), none⟩])
 (.seq (.region 9 [⟨some 16, .mv (.t 0), none⟩,
  ⟨some 17, .mv (.t 5), none⟩,
  ⟨some 18, .iaddr 1 (.t 16) (.t 17), none⟩,
  ⟨some 19, .load false 1 (.t 18), none⟩,
  ⟨some 20, .mv (.t 1), none⟩,
  ⟨some 21, .mv (.t 5), none⟩,
  ⟨some 22, .iaddr 1 (.t 20) (.t 21), none⟩,
  ⟨some 23, .load false 1 (.t 22), none⟩,
  ⟨some 24, .bin .neq (.t 19) (.t 23), none⟩])
 (.cond (.t 24) (.seq (.region 0 [⟨some 4, .mv (.c (.bool false)), none⟩])
 .ret) .skip))))
 (.region 0 [⟨some 25, .bin .add (.t 13) (.c (.int .i64 1)), none⟩,
  ⟨some 13, .mv (.t 25), none⟩]))))
def slices_Equal_g282_r0 : AC :=
 (.seq (.region 0 [⟨some 4, .mv (.c (.bool true)), none⟩])
 .ret)
def slices_Equal_g282_ac : AC :=
 (.seq (.region 0 [⟨some 4, .mv (.c (.bool false)), none⟩])
 (.seq (.seq (.region 0 [⟨some 6, .mv (.t 0), none⟩,
  ⟨some 7, .len false (.t 6), none⟩,
  ⟨some 8, .mv (.t 1), none⟩,
  ⟨some 9, .len false (.t 8), none⟩,
  ⟨some 10, .bin .neq (.t 7) (.t 9), none⟩])
 (.cond (.t 10) (.seq (.region 0 [⟨some 4, .mv (.c (.bool false)), none⟩])
 .ret) .skip))
 (.seq (.seq (.region 0 [⟨some 11, .mv (.t 0), none⟩,
  ⟨some 12, .len false (.t 11), none⟩,
  ⟨some 13, .mv (.c (.int .i64 0)), none⟩])
 (.block 0 (.loop ⟨[0, 1, 12, 13], [], []⟩ slices_Equal_g282_b0)))
 slices_Equal_g282_r0)))
noncomputable def slices_Equal_g282_l0 (E : Env) (x0 : U) (x1 : U) (x12 : U) (x13 : U) : Option U := loopK (roundOf E ⟨[0, 1, 12, 13], [], []⟩ slices_Equal_g282_b0 (blockK 0 (seqK (fun s => exec E slices_Equal_g282_r0 s (finish [(4, none)])) (finish [(4, none)])))) ([.val x0, .val x1, .val x12, .val x13], [])
theorem slices_Equal_g282_l0_eq (E : Env) (x0 : U) (x1 : U) (x12 : U) (x13 : U) : slices_Equal_g282_l0 E x0 x1 x12 x13 =
 (U.bin .lss x13 x12).bind fun t5 => U.asBool t5
 (U.asInt x13 fun n6 => U.elemAt 1 x0 n6 fun e7 => U.asVar false 1 e7 fun e8 => U.asInt x13 fun n9 => U.elemAt 1 x1 n9 fun e10 => U.asVar false 1 e10 fun e11 => (U.bin .neq e8 e11).bind fun t12 => U.asBool t12
 (some (.bool false))
 ((U.bin .add x13 (.int .i64 1)).bind fun t13 => slices_Equal_g282_l0 E x0 x1 x12 t13))
 (some (.bool true)) :=
 (loop_eq E _ _ _ _).trans (by kernel_rfl)
structure G_slices_Equal_g282 (E : Env) : Prop where
  is : Is E 282 2 slices_Equal_g282_ac [(4, none)]
theorem slices_Equal_g282_E {E : Env} (h : G_slices_Equal_g282 E) (a0 a1 : U) : E 282 [a0, a1] =
 (U.lenOf false a0).bind fun n1 => (U.lenOf false a1).bind fun n2 => (U.bin .neq (.int .i64 (n1 : Int)) (.int .i64 (n2 : Int))).bind fun t3 => U.asBool t3
 (some (.bool false))
 ((U.lenOf false a0).bind fun n4 => slices_Equal_g282_l0 E a0 a1 (.int .i64 (n4 : Int)) (.int .i64 0)) := (h.is _ rfl).trans ((runQ_V rfl).trans (by kernel_rfl))
end Go.Proofs.Ytfdcdbkblkehcaa.Am
namespace Go.Proofs.Ytfdcdbkblkehcaa.Am
open Go
set_option linter.unusedVariables false
set_option maxRecDepth 100000
def impl_IsEquivalent_ac : AC :=
 (.seq (.region 0 [⟨some 4, .mv (.c (.bool false)), none⟩])
 (.seq (.region 0 [⟨some 8, .mv (.t 0), none⟩,
  ⟨some 9, .mv (.t 1), none⟩,
  ⟨some 10, .call false 283 [(.t 8), (.t 9)], none⟩,
  ⟨some 7, .mv (.t 10), none⟩,
  ⟨some 11, .extract 0 (.t 7), none⟩,
  ⟨some 12, .extract 1 (.t 7), none⟩,
  ⟨some 5, .mv (.t 11), none⟩,
  ⟨some 6, .mv (.t 12), none⟩])
 (.seq (.region 0 [⟨some 13, .mv (.t 6), none⟩,
  ⟨some 14, .mv (.t 13), none⟩,
  ⟨some 15, .mv (.t 5), some (14, true)⟩,
  ⟨some 16, .mv (.t 0), some (14, true)⟩,
  ⟨some 17, .call false 281 [(.t 16)], some (14, true)⟩,
  ⟨some 18, .call false 282 [(.t 15), (.t 17)], some (14, true)⟩,
  ⟨some 19, .pick (.t 14) (.t 18) (.c (.bool false)), none⟩,
  ⟨some 4, .mv (.t 19), none⟩])
 .ret)))
structure G_impl_IsEquivalent (E : Env) : Prop where
  is : Is E 277 2 impl_IsEquivalent_ac [(4, none)]
  c_impl_FinalState : G_impl_FinalState E
  c_impl_ReplaySerial : G_impl_ReplaySerial E
  c_slices_Equal_g282 : G_slices_Equal_g282 E
theorem impl_IsEquivalent_E {E : Env} (h : G_impl_IsEquivalent E) (a0 a1 : U) : E 277 [a0, a1] =
 (E 283 [a0, a1]).bind fun t1 => U.part 0 t1 fun p2 => U.part 1 t1 fun p3 => U.asBool p3
 ((E 281 [a0]).bind fun t4 => (E 282 [p2, t4]).bind fun t5 => some t5)
 (some (.bool false)) := (h.is _ rfl).trans ((runQ_V rfl).trans (by kernel_rfl))
end Go.Proofs.Ytfdcdbkblkehcaa.Am
namespace Go.Proofs.Ytfdcdbkblkehcaa.Am
open Go
set_option linter.unusedVariables false
set_option maxRecDepth 100000
def laws_FnExactIsEquivalent_ac : AC :=
 (.seq (.region 0 [⟨some 4, .mv (.c (.bool false)), none⟩])
 (.seq (.seq (.region 0 [⟨some 10, .mv (.t 1), none⟩,
  ⟨some 11, .len false (.t 10), none⟩,
  ⟨some 12, .bin .gtr (.t 11) (.c (.int .i64 1048576)), none⟩])
 (.cond (.t 12) (.seq (.region 0 [⟨some 4, .mv (.c (.bool true)), none⟩])
 .ret) .skip))
 (.seq (.region 0 [⟨some 5, .mv (.c (.int .i64 1048576)), none⟩])
 (.seq (.region 0 [⟨some 13, .mv (.t 0), none⟩,
  ⟨some 14, .mv (.t 5), none⟩,
  ⟨some 15, .call false 49 [(.t 13), (.t 14)], none⟩,
  ⟨some 5, .mv (.t 15), none⟩])
 (.seq (.seq (.region 0 [⟨some 16, .mv (.t 5), none⟩,
  ⟨some 17, .bin .lss (.t 16) (.c (.int .i64 0)), none⟩])
 (.cond (.t 17) (.seq (.region 0 [⟨some 4, .mv (.c (.bool true)), none⟩])
 .ret) .skip))
 (.seq (.region 0 [⟨some 18, .mv (.t 0), none⟩,
  ⟨some 19, .call false 45 [(.t 18)], none⟩,
  ⟨some 20, .mv (.t 1), none⟩,
  ⟨some 21, .call false 58 [(.t 20)], none⟩,
  ⟨some 22, .call false 278 [(.t 19), (.t 21)], none⟩,
  ⟨some 6, .mv (.t 22), none⟩])
 (.seq (.region 0 [⟨some 23, .mv (.t 0), none⟩,
  ⟨some 24, .call false 45 [(.t 23)], none⟩,
  ⟨some 7, .mv (.t 24), none⟩])
 (.seq (.region 0 [⟨some 25, .mv (.t 1), none⟩,
  ⟨some 26, .call false 58 [(.t 25)], none⟩,
  ⟨some 8, .mv (.t 26), none⟩])
 (.seq (.region 0 [⟨some 27, .mv (.t 7), none⟩,
  ⟨some 28, .mv (.t 8), none⟩,
  ⟨some 29, .call false 277 [(.t 27), (.t 28)], none⟩,
  ⟨some 9, .mv (.t 29), none⟩])
 (.seq (.seq (.region 0 [⟨some 30, .mv (.t 9), none⟩,
  ⟨some 31, .mv (.t 6), none⟩,
  ⟨some 32, .eqv true 0 (.t 30) (.t 31), none⟩])
 (.cond (.t 32) (.seq (.region 0 [⟨some 4, .mv (.c (.bool false)), none⟩])
 .ret) .skip))
 (.seq (.seq (.region 0 [⟨some 33, .mv (.t 7), none⟩,
  ⟨some 34, .mv (.t 0), none⟩,
  ⟨some 35, .call false 45 [(.t 34)], none⟩,
  ⟨some 36, .call false 46 [(.t 33), (.t 35)], none⟩,
  ⟨some 37, .un .not (.t 36), none⟩])
 (.cond (.t 37) (.seq (.region 0 [⟨some 4, .mv (.c (.bool false)), none⟩])
 .ret) .skip))
 (.seq (.seq (.region 0 [⟨some 38, .mv (.t 8), none⟩,
  ⟨some 39, .mv (.t 1), none⟩,
  ⟨some 40, .call false 58 [(.t 39)], none⟩,
  ⟨some 41, .call false 59 [(.t 38), (.t 40)], none⟩,
  ⟨some 42, .un .not (.t 41), none⟩])
 (.cond (.t 42) (.seq (.region 0 [⟨some 4, .mv (.c (.bool false)), none⟩])
 .ret) .skip))
 (.seq (.region 0 [⟨some 4, .mv (.c (.bool true)), none⟩])
 .ret)))))))))))))
structure G_laws_FnExactIsEquivalent (E : Env) : Prop where
  is : Is E 276 2 laws_FnExactIsEquivalent_ac [(4, none)]
  c_laws_szEntryS : G_laws_szEntryS E
  c_laws_toEntryS : G_laws_toEntryS E
  c_laws_eqIntS : G_laws_eqIntS E
  c_laws_eqEntryS : G_laws_eqEntryS E
  c_laws_toIntS : G_laws_toIntS E
  c_spec_IsEquivalent : G_spec_IsEquivalent E
  c_impl_IsEquivalent : G_impl_IsEquivalent E
theorem laws_FnExactIsEquivalent_E {E : Env} (h : G_laws_FnExactIsEquivalent E) (a0 a1 : U) : E 276 [a0, a1] =
 (U.lenOf false a1).bind fun n1 => (U.bin .gtr (.int .i64 (n1 : Int)) (.int .i64 1048576)).bind fun t2 => U.asBool t2
 (some (.bool true))
 ((E 49 [a0, (.int .i64 1048576)]).bind fun t3 => (U.bin .lss t3 (.int .i64 0)).bind fun t4 => U.asBool t4
 (some (.bool true))
 ((E 45 [a0]).bind fun t5 => (E 58 [a1]).bind fun t6 => (E 278 [t5, t6]).bind fun t7 => (E 45 [a0]).bind fun t8 => (E 58 [a1]).bind fun t9 => (E 277 [t8, t9]).bind fun t10 => (U.eqv 0 t10 t7).bind fun q11 => U.asBool (.bool (!q11))
 (some (.bool false))
 ((E 45 [a0]).bind fun t12 => (E 46 [t8, t12]).bind fun t13 => (U.un .not t13).bind fun t14 => U.asBool t14
 (some (.bool false))
 ((E 58 [a1]).bind fun t15 => (E 59 [t9, t15]).bind fun t16 => (U.un .not t16).bind fun t17 => U.asBool t17
 (some (.bool false))
 (some (.bool true)))))) := (h.is _ rfl).trans ((runQ_V rfl).trans (by kernel_rfl))
end Go.Proofs.Ytfdcdbkblkehcaa.Am
