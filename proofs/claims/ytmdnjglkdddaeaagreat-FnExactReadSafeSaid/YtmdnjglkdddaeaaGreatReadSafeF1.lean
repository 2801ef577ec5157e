import Derived.KernelRfl
import Derived.Test.YtmdnjglkdddaeaaGreatReadSafeF0
import Derived.Test.YtmdnjglkdddaeaaGreatAmW
namespace Go.Proofs.YtmdnjglkdddaeaaGreat.Am
open Go
set_option linter.unusedVariables false
set_option maxRecDepth 100000
def impl_AreWaits_b0 : AC :=
 (.seq (.region 0 [⟨some 8, .bin .lss (.t 7) (.t 6), none⟩])
 (.seq (.cond (.t 8) .skip (.exit 0))
 (.seq (.block 1 (.seq (.region 0 [⟨some 9, .mv (.t 7), none⟩,
  ⟨some 10, .iaddr 2 (.t 5) (.t 7), none⟩,
  ⟨some 11, .load true 2 (.t 10), none⟩,
  ⟨some 4, .alloc 4 (.agg [(.int .i64 0), (.int .i64 0)]), none⟩,
  ⟨some 3, .mv (.t 9), none⟩,
  ⟨none, .store 2 (.t 4) (.t 11), none⟩])
 (.seq (.region 32 [⟨some 12, .faddr 0 0 (.t 4), none⟩,
  ⟨some 13, .load false 1 (.t 12), none⟩,
  ⟨some 14, .call false 9 [(.t 13)], none⟩,
  ⟨some 15, .un .not (.t 14), none⟩,
  ⟨some 16, .mv (.t 15), none⟩,
  ⟨some 17, .faddr 1 1 (.t 4), some (16, false)⟩,
  ⟨some 18, .load false 1 (.t 17), some (16, false)⟩,
  ⟨some 19, .call false 9 [(.t 18)], some (16, false)⟩,
  ⟨some 20, .un .not (.t 19), some (16, false)⟩,
  ⟨some 21, .pick (.t 16) (.c (.bool true)) (.t 20), none⟩,
  ⟨some 22, .mv (.t 21), none⟩,
  ⟨some 23, .faddr 0 0 (.t 4), some (22, false)⟩,
  ⟨some 24, .load false 1 (.t 23), some (22, false)⟩,
  ⟨some 25, .faddr 1 1 (.t 4), some (22, false)⟩,
  ⟨some 26, .load false 1 (.t 25), some (22, false)⟩,
  ⟨some 27, .bin .eql (.t 24) (.t 26), some (22, false)⟩,
  ⟨some 28, .pick (.t 22) (.c (.bool true)) (.t 27), none⟩,
  ⟨some 29, .mv (.t 28), none⟩,
  ⟨some 30, .mv (.t 3), some (29, false)⟩,
  ⟨some 31, .bin .gtr (.t 30) (.c (.int .i64 0)), some (29, false)⟩,
  ⟨some 32, .mv (.t 31), some (29, false)⟩,
  ⟨some 33, .mv (.t 0), some (32, true)⟩,
  ⟨some 34, .mv (.t 3), some (32, true)⟩,
  ⟨some 35, .bin .sub (.t 34) (.c (.int .i64 1)), some (32, true)⟩,
  ⟨some 36, .iaddr 2 (.t 33) (.t 35), some (32, true)⟩,
  ⟨some 37, .faddr 0 0 (.t 36), some (32, true)⟩,
  ⟨some 38, .load false 1 (.t 37), some (32, true)⟩,
  ⟨some 39, .faddr 0 0 (.t 4), some (32, true)⟩,
  ⟨some 40, .load false 1 (.t 39), some (32, true)⟩,
  ⟨some 41, .bin .geq (.t 38) (.t 40), some (32, true)⟩,
  ⟨some 42, .pick (.t 32) (.t 41) (.c (.bool false)), some (29, false)⟩,
  ⟨some 43, .pick (.t 29) (.c (.bool true)) (.t 42), none⟩])
 (.cond (.t 43) (.seq (.region 0 [⟨some 2, .mv (.c (.bool false)), none⟩])
 .ret) .skip))))
 (.region 0 [⟨some 44, .bin .add (.t 7) (.c (.int .i64 1)), none⟩,
  ⟨some 7, .mv (.t 44), none⟩]))))
def impl_AreWaits_r0 : AC :=
 (.seq (.region 0 [⟨some 2, .mv (.c (.bool true)), none⟩])
 .ret)
def impl_AreWaits_ac : AC :=
 (.seq (.region 0 [⟨some 2, .mv (.c (.bool false)), none⟩])
 (.seq (.seq (.region 0 [⟨some 5, .mv (.t 0), none⟩,
  ⟨some 6, .len false (.t 5), none⟩,
  ⟨some 7, .mv (.c (.int .i64 0)), none⟩])
 (.block 0 (.loop ⟨[0, 5, 6, 7], [], []⟩ impl_AreWaits_b0)))
 impl_AreWaits_r0))
noncomputable def impl_AreWaits_l0 (E : Env) (x0 : U) (x5 : U) (x6 : U) (x7 : U) : Option U := loopK (roundOf E ⟨[0, 5, 6, 7], [], []⟩ impl_AreWaits_b0 (blockK 0 (seqK (fun s => exec E impl_AreWaits_r0 s (finish [(2, none)])) (finish [(2, none)])))) ([.val x0, .val x5, .val x6, .val x7], [])
theorem impl_AreWaits_l0_eq (E : Env) (x0 : U) (x5 : U) (x6 : U) (x7 : U) : impl_AreWaits_l0 E x0 x5 x6 x7 =
 (U.bin .lss x7 x6).bind fun t2 => U.asBool t2
 (U.asInt x7 fun n3 => U.elemAt 2 x5 n3 fun e4 => U.asVar true 2 e4 fun e5 => if storable (.val e5) = true ∧ e5.size = 2 then U.asAgg e5 fun us6 => if 0 = sizes (us6.take 0) then (us6[0]?).bind fun e7 => U.asVar false 1 e7 fun e8 => (E 9 [e8]).bind fun t9 => (U.un .not t9).bind fun t10 => U.asBool t10
 (some (.bool false))
 (U.asAgg e5 fun us11 => if 1 = sizes (us11.take 1) then (us11[1]?).bind fun e12 => U.asVar false 1 e12 fun e13 => (E 9 [e13]).bind fun t14 => (U.un .not t14).bind fun t15 => U.asBool t15
 (some (.bool false))
 (U.asAgg e5 fun us16 => if 0 = sizes (us16.take 0) then (us16[0]?).bind fun e17 => U.asVar false 1 e17 fun e18 => U.asAgg e5 fun us19 => if 1 = sizes (us19.take 1) then (us19[1]?).bind fun e20 => U.asVar false 1 e20 fun e21 => (U.bin .eql e18 e21).bind fun t22 => U.asBool t22
 (some (.bool false))
 ((U.bin .gtr x7 (.int .i64 0)).bind fun t23 => U.asBool t23
 ((U.bin .sub x7 (.int .i64 1)).bind fun t24 => U.asInt t24 fun n25 => U.elemAt 2 x0 n25 fun e26 => U.fieldAt 0 0 e26 fun f27 => U.asVar false 1 f27 fun e28 => U.asAgg e5 fun us29 => if 0 = sizes (us29.take 0) then (us29[0]?).bind fun e30 => U.asVar false 1 e30 fun e31 => (U.bin .geq e28 e31).bind fun t32 => U.asBool t32
 (some (.bool false))
 ((U.bin .add x7 (.int .i64 1)).bind fun t33 => impl_AreWaits_l0 E x0 x5 x6 t33) else none)
 ((U.bin .add x7 (.int .i64 1)).bind fun t34 => impl_AreWaits_l0 E x0 x5 x6 t34)) else none else none) else none) else none else none)
 (some (.bool true)) :=
 (loop_eq E _ _ _ _).trans (by kernel_rfl)
structure G_impl_AreWaits (E : Env) : Prop where
  is : Is E 151 1 impl_AreWaits_ac [(2, none)]
  c_impl_isID : G_impl_isID E
theorem impl_AreWaits_E {E : Env} (h : G_impl_AreWaits E) (a0 : U) : E 151 [a0] =
 (U.lenOf false a0).bind fun n1 => impl_AreWaits_l0 E a0 a0 (.int .i64 (n1 : Int)) (.int .i64 0) := (h.is _ rfl).trans ((runQ_V rfl).trans (by kernel_rfl))
end Go.Proofs.YtmdnjglkdddaeaaGreat.Am
namespace Go.Proofs.YtmdnjglkdddaeaaGreat.Am
open Go
set_option linter.unusedVariables false
set_option maxRecDepth 100000
def impl_Store_lastStamp_b1 : AC :=
 (.seq (.region 0 [⟨some 18, .bin .lss (.t 17) (.t 16), none⟩])
 (.seq (.cond (.t 18) .skip (.exit 2))
 (.seq (.block 3 (.seq (.region 0 [⟨some 19, .iaddr 5 (.t 15) (.t 17), none⟩,
  ⟨some 20, .load true 5 (.t 19), none⟩,
  ⟨some 7, .alloc 7 (.agg [(.int .i64 0), (.int .i64 0), (.int .i64 0), (.int .i64 0), (.int .i64 0)]), none⟩,
  ⟨none, .store 5 (.t 7) (.t 20), none⟩])
 (.region 0 [⟨some 21, .mv (.t 3), none⟩,
  ⟨some 22, .faddr 3 3 (.t 7), none⟩,
  ⟨some 23, .load false 1 (.t 22), none⟩,
  ⟨some 24, .minmax true [(.t 21), (.t 23)], none⟩,
  ⟨some 3, .mv (.t 24), none⟩])))
 (.region 0 [⟨some 25, .bin .add (.t 17) (.c (.int .i64 1)), none⟩,
  ⟨some 17, .mv (.t 25), none⟩]))))
def impl_Store_lastStamp_r0 : AC :=
 (.region 0 [⟨some 26, .bin .add (.t 11) (.c (.int .i64 1)), none⟩,
  ⟨some 11, .mv (.t 26), none⟩])
def impl_Store_lastStamp_b0 : AC :=
 (.seq (.region 0 [⟨some 12, .bin .lss (.t 11) (.t 10), none⟩])
 (.seq (.cond (.t 12) .skip (.exit 0))
 (.seq (.block 1 (.seq (.region 0 [⟨some 13, .iaddr 1 (.t 9) (.t 11), none⟩,
  ⟨some 14, .load false 1 (.t 13), none⟩,
  ⟨some 5, .mv (.t 14), none⟩])
 (.seq (.region 0 [⟨some 15, .mv (.t 5), none⟩,
  ⟨some 16, .len false (.t 15), none⟩,
  ⟨some 17, .mv (.c (.int .i64 0)), none⟩])
 (.block 2 (.loop ⟨[3, 9, 10, 11, 15, 16, 17], [], []⟩ impl_Store_lastStamp_b1)))))
 impl_Store_lastStamp_r0)))
def impl_Store_lastStamp_r1 : AC :=
 (.seq (.region 0 [⟨some 27, .mv (.t 3), none⟩,
  ⟨some 2, .mv (.t 27), none⟩])
 .ret)
def impl_Store_lastStamp_ac : AC :=
 (.seq (.region 0 [⟨some 1, .box false 1 (.t 0), none⟩,
  ⟨some 2, .mv (.c (.int .i64 0)), none⟩])
 (.seq (.region 0 [⟨some 3, .mv (.c (.int .i64 0)), none⟩])
 (.seq (.seq (.region 0 [⟨some 8, .faddr 0 0 (.t 1), none⟩,
  ⟨some 9, .load false 1 (.t 8), none⟩,
  ⟨some 10, .len false (.t 9), none⟩,
  ⟨some 11, .mv (.c (.int .i64 0)), none⟩])
 (.block 0 (.loop ⟨[3, 9, 10, 11], [], []⟩ impl_Store_lastStamp_b0)))
 impl_Store_lastStamp_r1)))
noncomputable def impl_Store_lastStamp_l0 (E : Env) (x3 : U) (x9 : U) (x10 : U) (x11 : U) : Option U := loopK (roundOf E ⟨[3, 9, 10, 11], [], []⟩ impl_Store_lastStamp_b0 (blockK 0 (seqK (fun s => exec E impl_Store_lastStamp_r1 s (finish [(2, none)])) (finish [(2, none)])))) ([.val x3, .val x9, .val x10, .val x11], [])
noncomputable def impl_Store_lastStamp_l1 (E : Env) (x3 : U) (x9 : U) (x10 : U) (x11 : U) (x15 : U) (x16 : U) (x17 : U) : Option U := loopK (roundOf E ⟨[3, 9, 10, 11, 15, 16, 17], [], []⟩ impl_Store_lastStamp_b1 (blockK 2 (blockK 1 (seqK (fun s => exec E impl_Store_lastStamp_r0 s (roundK ⟨[3, 9, 10, 11], [], []⟩ (loopK (roundOf E ⟨[3, 9, 10, 11], [], []⟩ impl_Store_lastStamp_b0 (blockK 0 (seqK (fun s => exec E impl_Store_lastStamp_r1 s (finish [(2, none)])) (finish [(2, none)]))))) (blockK 0 (seqK (fun s => exec E impl_Store_lastStamp_r1 s (finish [(2, none)])) (finish [(2, none)]))))) (roundK ⟨[3, 9, 10, 11], [], []⟩ (loopK (roundOf E ⟨[3, 9, 10, 11], [], []⟩ impl_Store_lastStamp_b0 (blockK 0 (seqK (fun s => exec E impl_Store_lastStamp_r1 s (finish [(2, none)])) (finish [(2, none)]))))) (blockK 0 (seqK (fun s => exec E impl_Store_lastStamp_r1 s (finish [(2, none)])) (finish [(2, none)])))))))) ([.val x3, .val x9, .val x10, .val x11, .val x15, .val x16, .val x17], [])
theorem impl_Store_lastStamp_l0_eq (E : Env) (x3 : U) (x9 : U) (x10 : U) (x11 : U) : impl_Store_lastStamp_l0 E x3 x9 x10 x11 =
 (U.bin .lss x11 x10).bind fun t6 => U.asBool t6
 (U.asInt x11 fun n7 => U.elemAt 1 x9 n7 fun e8 => U.asVar false 1 e8 fun e9 => (U.lenOf false e9).bind fun n10 => impl_Store_lastStamp_l1 E x3 x9 x10 x11 e9 (.int .i64 (n10 : Int)) (.int .i64 0))
 (some x3) :=
 (loop_eq E _ _ _ _).trans (by kernel_rfl)
theorem impl_Store_lastStamp_l1_eq (E : Env) (x3 : U) (x9 : U) (x10 : U) (x11 : U) (x15 : U) (x16 : U) (x17 : U) : impl_Store_lastStamp_l1 E x3 x9 x10 x11 x15 x16 x17 =
 (U.bin .lss x17 x16).bind fun t11 => U.asBool t11
 (U.asInt x17 fun n12 => U.elemAt 5 x15 n12 fun e13 => U.asVar true 5 e13 fun e14 => if storable (.val e14) = true ∧ e14.size = 5 then U.asAgg e14 fun us15 => if 3 = sizes (us15.take 3) then (us15[3]?).bind fun e16 => U.asVar false 1 e16 fun e17 => U.asInt x3 fun n18 => U.asInt e17 fun n19 => (U.bin .add x17 (.int .i64 1)).bind fun t20 => impl_Store_lastStamp_l1 E (.int .i64 (([n19] : List Int).foldl (fun a b => if true then (if a < b then b else a) else (if b < a then b else a)) n18)) x9 x10 x11 x15 x16 t20 else none else none)
 ((U.bin .add x11 (.int .i64 1)).bind fun t21 => impl_Store_lastStamp_l0 E x3 x9 x10 t21) :=
 (loop_eq E _ _ _ _).trans (by kernel_rfl)
structure G_impl_Store_lastStamp (E : Env) : Prop where
  is : Is E 152 1 impl_Store_lastStamp_ac [(2, none)]
theorem impl_Store_lastStamp_E {E : Env} (h : G_impl_Store_lastStamp E) (a0 : U) : E 152 [a0] =
 U.noTup a0 fun x1 => U.asAgg x1 fun us2 => if 0 = sizes (us2.take 0) then (us2[0]?).bind fun e3 => U.asVar false 1 e3 fun e4 => (U.lenOf false e4).bind fun n5 => impl_Store_lastStamp_l0 E (.int .i64 0) e4 (.int .i64 (n5 : Int)) (.int .i64 0) else none := (h.is _ rfl).trans ((runQ_V rfl).trans (by kernel_rfl))
end Go.Proofs.YtmdnjglkdddaeaaGreat.Am
namespace Go.Proofs.YtmdnjglkdddaeaaGreat.Am
open Go
set_option linter.unusedVariables false
set_option maxRecDepth 100000
def impl_IsStamp_ac : AC :=
 (.seq (.region 0 [⟨some 2, .mv (.c (.bool false)), none⟩])
 (.seq (.region 0 [⟨some 3, .mv (.t 0), none⟩,
  ⟨some 4, .call false 10 [(.t 3), (.c (.int .i64 1)), (.c (.int .i64 999))], none⟩,
  ⟨some 2, .mv (.t 4), none⟩])
 .ret))
structure G_impl_IsStamp (E : Env) : Prop where
  is : Is E 72 1 impl_IsStamp_ac [(2, none)]
  c_impl_in : G_impl_in E
theorem impl_IsStamp_E {E : Env} (h : G_impl_IsStamp E) (a0 : U) : E 72 [a0] =
 (E 10 [a0, (.int .i64 1), (.int .i64 999)]).bind fun t1 => some t1 := (h.is _ rfl).trans ((runQ_V rfl).trans (by kernel_rfl))
end Go.Proofs.YtmdnjglkdddaeaaGreat.Am
namespace Go.Proofs.YtmdnjglkdddaeaaGreat.Am
open Go
set_option linter.unusedVariables false
set_option maxRecDepth 100000
def cmp_Or_g14_b0 : AC :=
 (.seq (.region 0 [⟨some 9, .bin .lss (.t 8) (.t 7), none⟩])
 (.seq (.cond (.t 9) .skip (.exit 0))
 (.seq (.block 1 (.seq (.region 0 [⟨some 10, .iaddr 1 (.t 6) (.t 8), none⟩,
  ⟨some 11, .load false 1 (.t 10), none⟩,
  ⟨some 5, .mv (.t 11), none⟩])
 (.seq (.region 0 [⟨some 12, .mv (.t 5), none⟩,
  ⟨some 13, .mv (.t 3), none⟩,
  ⟨some 14, .bin .neq (.t 12) (.t 13), none⟩])
 (.cond (.t 14) (.seq (.region 0 [⟨some 15, .mv (.t 5), none⟩,
  ⟨some 2, .mv (.t 15), none⟩])
 .ret) .skip))))
 (.region 0 [⟨some 16, .bin .add (.t 8) (.c (.int .i64 1)), none⟩,
  ⟨some 8, .mv (.t 16), none⟩]))))
def cmp_Or_g14_r0 : AC :=
 (.seq (.region 0 [⟨some 17, .mv (.t 3), none⟩,
  ⟨some 2, .mv (.t 17), none⟩])
 .ret)
def cmp_Or_g14_ac : AC :=
 (.seq (.region 0 [⟨some 2, .mv (.c (.int .i64 0)), none⟩])
 (.seq (.region 0 [⟨some 3, .mv (.c (.int .i64 0)), none⟩])
 (.seq (.seq (.region 0 [⟨some 6, .mv (.t 0), none⟩,
  ⟨some 7, .len false (.t 6), none⟩,
  ⟨some 8, .mv (.c (.int .i64 0)), none⟩])
 (.block 0 (.loop ⟨[3, 6, 7, 8], [], []⟩ cmp_Or_g14_b0)))
 cmp_Or_g14_r0)))
noncomputable def cmp_Or_g14_l0 (E : Env) (x3 : U) (x6 : U) (x7 : U) (x8 : U) : Option U := loopK (roundOf E ⟨[3, 6, 7, 8], [], []⟩ cmp_Or_g14_b0 (blockK 0 (seqK (fun s => exec E cmp_Or_g14_r0 s (finish [(2, none)])) (finish [(2, none)])))) ([.val x3, .val x6, .val x7, .val x8], [])
theorem cmp_Or_g14_l0_eq (E : Env) (x3 : U) (x6 : U) (x7 : U) (x8 : U) : cmp_Or_g14_l0 E x3 x6 x7 x8 =
 (U.bin .lss x8 x7).bind fun t2 => U.asBool t2
 (U.asInt x8 fun n3 => U.elemAt 1 x6 n3 fun e4 => U.asVar false 1 e4 fun e5 => (U.bin .neq e5 x3).bind fun t6 => U.asBool t6
 (some e5)
 ((U.bin .add x8 (.int .i64 1)).bind fun t7 => cmp_Or_g14_l0 E x3 x6 x7 t7))
 (some x3) :=
 (loop_eq E _ _ _ _).trans (by kernel_rfl)
structure G_cmp_Or_g14 (E : Env) : Prop where
  is : Is E 14 1 cmp_Or_g14_ac [(2, none)]
theorem cmp_Or_g14_E {E : Env} (h : G_cmp_Or_g14 E) (a0 : U) : E 14 [a0] =
 (U.lenOf false a0).bind fun n1 => cmp_Or_g14_l0 E (.int .i64 0) a0 (.int .i64 (n1 : Int)) (.int .i64 0) := (h.is _ rfl).trans ((runQ_V rfl).trans (by kernel_rfl))
end Go.Proofs.YtmdnjglkdddaeaaGreat.Am
namespace Go.Proofs.YtmdnjglkdddaeaaGreat.Am
open Go
set_option linter.unusedVariables false
set_option maxRecDepth 100000
def cmp_isNaN_g15_ac : AC :=
 (.seq (.region 0 [⟨some 2, .mv (.c (.bool false)), none⟩])
 (.seq (.region 0 [⟨some 3, .mv (.t 0), none⟩,
  ⟨some 4, .mv (.t 0), none⟩,
  ⟨some 5, .bin .neq (.t 3) (.t 4), none⟩,
  ⟨some 2, .mv (.t 5), none⟩])
 .ret))
structure G_cmp_isNaN_g15 (E : Env) : Prop where
  is : Is E 15 1 cmp_isNaN_g15_ac [(2, none)]
theorem cmp_isNaN_g15_E {E : Env} (h : G_cmp_isNaN_g15 E) (a0 : U) : E 15 [a0] =
 (U.bin .neq a0 a0).bind fun t1 => some t1 := (h.is _ rfl).trans ((runQ_V rfl).trans (by kernel_rfl))
end Go.Proofs.YtmdnjglkdddaeaaGreat.Am
namespace Go.Proofs.YtmdnjglkdddaeaaGreat.Am
open Go
set_option linter.unusedVariables false
set_option maxRecDepth 100000
def cmp_Compare_g13_ac : AC :=
 (.seq (.region 0 [⟨some 4, .mv (.c (.int .i64 0)), none⟩])
 (.seq (.region 0 [⟨some 7, .mv (.t 0), none⟩,
  ⟨some 8, .call false 15 [(.t 7)], none⟩,
  ⟨some 5, .mv (.t 8), none⟩])
 (.seq (.region 0 [⟨some 9, .mv (.t 1), none⟩,
  ⟨some 10, .call false 15 [(.t 9)], none⟩,
  ⟨some 6, .mv (.t 10), none⟩])
 (.seq (.seq (.region 0 [⟨some 11, .mv (.t 5), none⟩])
 (.cond (.t 11) (.seq (.seq (.region 0 [⟨some 12, .mv (.t 6), none⟩])
 (.cond (.t 12) (.seq (.region 0 [⟨some 4, .mv (.c (.int .i64 0)), none⟩])
 .ret) .skip))
 (.seq (.region 0 [⟨some 4, .mv (.c (.int .i64 (-1))), none⟩])
 .ret)) .skip))
 (.seq (.seq (.region 0 [⟨some 13, .mv (.t 6), none⟩])
 (.cond (.t 13) (.seq (.region 0 [⟨some 4, .mv (.c (.int .i64 1)), none⟩])
 .ret) .skip))
 (.seq (.seq (.region 0 [⟨some 14, .mv (.t 0), none⟩,
  ⟨some 15, .mv (.t 1), none⟩,
  ⟨some 16, .bin .lss (.t 14) (.t 15), none⟩])
 (.cond (.t 16) (.seq (.region 0 [⟨some 4, .mv (.c (.int .i64 (-1))), none⟩])
 .ret) .skip))
 (.seq (.seq (.region 0 [⟨some 17, .mv (.t 0), none⟩,
  ⟨some 18, .mv (.t 1), none⟩,
  ⟨some 19, .bin .gtr (.t 17) (.t 18), none⟩])
 (.cond (.t 19) (.seq (.region 0 [⟨some 4, .mv (.c (.int .i64 1)), none⟩])
 .ret) .skip))
 (.seq (.region 0 [⟨some 4, .mv (.c (.int .i64 0)), none⟩])
 .ret))))))))
structure G_cmp_Compare_g13 (E : Env) : Prop where
  is : Is E 13 2 cmp_Compare_g13_ac [(4, none)]
  c_cmp_isNaN_g15 : G_cmp_isNaN_g15 E
theorem cmp_Compare_g13_E {E : Env} (h : G_cmp_Compare_g13 E) (a0 a1 : U) : E 13 [a0, a1] =
 (E 15 [a0]).bind fun t1 => (E 15 [a1]).bind fun t2 => U.asBool t1
 (U.asBool t2
 (some (.int .i64 0))
 (some (.int .i64 (-1))))
 (U.asBool t2
 (some (.int .i64 1))
 ((U.bin .lss a0 a1).bind fun t3 => U.asBool t3
 (some (.int .i64 (-1)))
 ((U.bin .gtr a0 a1).bind fun t4 => U.asBool t4
 (some (.int .i64 1))
 (some (.int .i64 0))))) := (h.is _ rfl).trans ((runQ_V rfl).trans (by kernel_rfl))
end Go.Proofs.YtmdnjglkdddaeaaGreat.Am
namespace Go.Proofs.YtmdnjglkdddaeaaGreat.Am
open Go
set_option linter.unusedVariables false
set_option maxRecDepth 100000
def impl_compareMarks_ac : AC :=
 (.seq (.region 0 [⟨some 2, .box false 2 (.t 0), none⟩,
  ⟨some 3, .box false 3 (.t 1), none⟩,
  ⟨some 4, .mv (.c (.int .i64 0)), none⟩])
 (.seq (.region 13 [⟨some 5, .faddr 0 0 (.t 2), none⟩,
  ⟨some 6, .load false 1 (.t 5), none⟩,
  ⟨some 7, .faddr 0 0 (.t 3), none⟩,
  ⟨some 8, .load false 1 (.t 7), none⟩,
  ⟨some 9, .call false 13 [(.t 6), (.t 8)], none⟩,
  ⟨some 10, .faddr 1 1 (.t 2), none⟩,
  ⟨some 11, .load false 1 (.t 10), none⟩,
  ⟨some 12, .faddr 1 1 (.t 3), none⟩,
  ⟨some 13, .load false 1 (.t 12), none⟩,
  ⟨some 14, .call false 13 [(.t 11), (.t 13)], none⟩,
  ⟨some 15, .bslice 0 15 1 2 (.int .i64 0) [(0, (.t 9)), (1, (.t 14))], none⟩,
  ⟨some 16, .call false 14 [(.t 15)], none⟩,
  ⟨some 4, .mv (.t 16), none⟩])
 .ret))
structure G_impl_compareMarks (E : Env) : Prop where
  is : Is E 75 2 impl_compareMarks_ac [(4, none)]
  c_cmp_Or_g14 : G_cmp_Or_g14 E
  c_cmp_Compare_g13 : G_cmp_Compare_g13 E
theorem impl_compareMarks_E {E : Env} (h : G_impl_compareMarks E) (a0 a1 : U) : E 75 [a0, a1] =
 U.noTup a0 fun x1 => U.noTup a1 fun x2 => U.asAgg x1 fun us3 => if 0 = sizes (us3.take 0) then (us3[0]?).bind fun e4 => U.asVar false 1 e4 fun e5 => U.asAgg x2 fun us6 => if 0 = sizes (us6.take 0) then (us6[0]?).bind fun e7 => U.asVar false 1 e7 fun e8 => (E 13 [e5, e8]).bind fun t9 => U.asAgg x1 fun us10 => if 1 = sizes (us10.take 1) then (us10[1]?).bind fun e11 => U.asVar false 1 e11 fun e12 => U.asAgg x2 fun us13 => if 1 = sizes (us13.take 1) then (us13[1]?).bind fun e14 => U.asVar false 1 e14 fun e15 => (E 13 [e12, e15]).bind fun t16 => if partable (.val t9) = true ∧ t9.size = 1 then if partable (.val t16) = true ∧ t16.size = 1 then (E 14 [(.sl 1 [t9, t16])]).bind fun t17 => some t17 else none else none else none else none else none else none := (h.is _ rfl).trans ((runQ_V rfl).trans (by kernel_rfl))
end Go.Proofs.YtmdnjglkdddaeaaGreat.Am
namespace Go.Proofs.YtmdnjglkdddaeaaGreat.Am
open Go
set_option linter.unusedVariables false
set_option maxRecDepth 100000
def impl_areReads_b0 : AC :=
 (.seq (.region 0 [⟨some 8, .bin .lss (.t 7) (.t 6), none⟩])
 (.seq (.cond (.t 8) .skip (.exit 0))
 (.seq (.block 1 (.seq (.region 0 [⟨some 9, .mv (.t 7), none⟩,
  ⟨some 10, .iaddr 2 (.t 5) (.t 7), none⟩,
  ⟨some 11, .load true 2 (.t 10), none⟩,
  ⟨some 4, .alloc 4 (.agg [(.int .i64 0), (.int .i64 0)]), none⟩,
  ⟨some 3, .mv (.t 9), none⟩,
  ⟨none, .store 2 (.t 4) (.t 11), none⟩])
 (.seq (.region 24 [⟨some 12, .faddr 0 0 (.t 4), none⟩,
  ⟨some 13, .load false 1 (.t 12), none⟩,
  ⟨some 14, .call false 11 [(.t 13)], none⟩,
  ⟨some 15, .un .not (.t 14), none⟩,
  ⟨some 16, .mv (.t 15), none⟩,
  ⟨some 17, .faddr 1 1 (.t 4), some (16, false)⟩,
  ⟨some 18, .load false 1 (.t 17), some (16, false)⟩,
  ⟨some 19, .call false 10 [(.t 18), (.c (.int .i64 0)), (.c (.int .i64 999))], some (16, false)⟩,
  ⟨some 20, .un .not (.t 19), some (16, false)⟩,
  ⟨some 21, .pick (.t 16) (.c (.bool true)) (.t 20), none⟩,
  ⟨some 22, .mv (.t 21), none⟩,
  ⟨some 23, .mv (.t 3), some (22, false)⟩,
  ⟨some 24, .bin .gtr (.t 23) (.c (.int .i64 0)), some (22, false)⟩,
  ⟨some 25, .mv (.t 24), some (22, false)⟩,
  ⟨some 26, .mv (.t 0), some (25, true)⟩,
  ⟨some 27, .mv (.t 3), some (25, true)⟩,
  ⟨some 28, .bin .sub (.t 27) (.c (.int .i64 1)), some (25, true)⟩,
  ⟨some 29, .iaddr 2 (.t 26) (.t 28), some (25, true)⟩,
  ⟨some 30, .load true 2 (.t 29), some (25, true)⟩,
  ⟨some 31, .load true 2 (.t 4), some (25, true)⟩,
  ⟨some 32, .call false 75 [(.t 30), (.t 31)], some (25, true)⟩,
  ⟨some 33, .bin .geq (.t 32) (.c (.int .i64 0)), some (25, true)⟩,
  ⟨some 34, .pick (.t 25) (.t 33) (.c (.bool false)), some (22, false)⟩,
  ⟨some 35, .pick (.t 22) (.c (.bool true)) (.t 34), none⟩])
 (.cond (.t 35) (.seq (.region 0 [⟨some 2, .mv (.c (.bool false)), none⟩])
 .ret) .skip))))
 (.region 0 [⟨some 36, .bin .add (.t 7) (.c (.int .i64 1)), none⟩,
  ⟨some 7, .mv (.t 36), none⟩]))))
def impl_areReads_r0 : AC :=
 (.seq (.region 0 [⟨some 37, .mv (.t 0), none⟩,
  ⟨some 38, .len false (.t 37), none⟩,
  ⟨some 39, .bin .leq (.t 38) (.c (.int .i64 60)), none⟩,
  ⟨some 2, .mv (.t 39), none⟩])
 .ret)
def impl_areReads_ac : AC :=
 (.seq (.region 0 [⟨some 2, .mv (.c (.bool false)), none⟩])
 (.seq (.seq (.region 0 [⟨some 5, .mv (.t 0), none⟩,
  ⟨some 6, .len false (.t 5), none⟩,
  ⟨some 7, .mv (.c (.int .i64 0)), none⟩])
 (.block 0 (.loop ⟨[0, 5, 6, 7], [], []⟩ impl_areReads_b0)))
 impl_areReads_r0))
noncomputable def impl_areReads_l0 (E : Env) (x0 : U) (x5 : U) (x6 : U) (x7 : U) : Option U := loopK (roundOf E ⟨[0, 5, 6, 7], [], []⟩ impl_areReads_b0 (blockK 0 (seqK (fun s => exec E impl_areReads_r0 s (finish [(2, none)])) (finish [(2, none)])))) ([.val x0, .val x5, .val x6, .val x7], [])
theorem impl_areReads_l0_eq (E : Env) (x0 : U) (x5 : U) (x6 : U) (x7 : U) : impl_areReads_l0 E x0 x5 x6 x7 =
 (U.bin .lss x7 x6).bind fun t2 => U.asBool t2
 (U.asInt x7 fun n3 => U.elemAt 2 x5 n3 fun e4 => U.asVar true 2 e4 fun e5 => if storable (.val e5) = true ∧ e5.size = 2 then U.asAgg e5 fun us6 => if 0 = sizes (us6.take 0) then (us6[0]?).bind fun e7 => U.asVar false 1 e7 fun e8 => (E 11 [e8]).bind fun t9 => (U.un .not t9).bind fun t10 => U.asBool t10
 (some (.bool false))
 (U.asAgg e5 fun us11 => if 1 = sizes (us11.take 1) then (us11[1]?).bind fun e12 => U.asVar false 1 e12 fun e13 => (E 10 [e13, (.int .i64 0), (.int .i64 999)]).bind fun t14 => (U.un .not t14).bind fun t15 => U.asBool t15
 (some (.bool false))
 ((U.bin .gtr x7 (.int .i64 0)).bind fun t16 => U.asBool t16
 ((U.bin .sub x7 (.int .i64 1)).bind fun t17 => U.asInt t17 fun n18 => U.elemAt 2 x0 n18 fun e19 => U.asVar true 2 e19 fun e20 => U.asVar true 2 e5 fun e21 => (E 75 [e20, e21]).bind fun t22 => (U.bin .geq t22 (.int .i64 0)).bind fun t23 => U.asBool t23
 (some (.bool false))
 ((U.bin .add x7 (.int .i64 1)).bind fun t24 => impl_areReads_l0 E x0 x5 x6 t24))
 ((U.bin .add x7 (.int .i64 1)).bind fun t25 => impl_areReads_l0 E x0 x5 x6 t25)) else none) else none else none)
 ((U.lenOf false x0).bind fun n26 => (U.bin .leq (.int .i64 (n26 : Int)) (.int .i64 60)).bind fun t27 => some t27) :=
 (loop_eq E _ _ _ _).trans (by kernel_rfl)
structure G_impl_areReads (E : Env) : Prop where
  is : Is E 73 1 impl_areReads_ac [(2, none)]
  c_impl_in : G_impl_in E
  c_impl_isKey : G_impl_isKey E
  c_impl_compareMarks : G_impl_compareMarks E
theorem impl_areReads_E {E : Env} (h : G_impl_areReads E) (a0 : U) : E 73 [a0] =
 (U.lenOf false a0).bind fun n1 => impl_areReads_l0 E a0 a0 (.int .i64 (n1 : Int)) (.int .i64 0) := (h.is _ rfl).trans ((runQ_V rfl).trans (by kernel_rfl))
end Go.Proofs.YtmdnjglkdddaeaaGreat.Am
namespace Go.Proofs.YtmdnjglkdddaeaaGreat.Am
open Go
set_option linter.unusedVariables false
set_option maxRecDepth 100000
def impl_areWrites_b0 : AC :=
 (.seq (.region 0 [⟨some 8, .bin .lss (.t 7) (.t 6), none⟩])
 (.seq (.cond (.t 8) .skip (.exit 0))
 (.seq (.block 1 (.seq (.region 0 [⟨some 9, .mv (.t 7), none⟩,
  ⟨some 10, .iaddr 2 (.t 5) (.t 7), none⟩,
  ⟨some 11, .load true 2 (.t 10), none⟩,
  ⟨some 4, .alloc 4 (.agg [(.int .i64 0), (.int .i64 0)]), none⟩,
  ⟨some 3, .mv (.t 9), none⟩,
  ⟨none, .store 2 (.t 4) (.t 11), none⟩])
 (.seq (.region 25 [⟨some 12, .faddr 0 0 (.t 4), none⟩,
  ⟨some 13, .load false 1 (.t 12), none⟩,
  ⟨some 14, .call false 11 [(.t 13)], none⟩,
  ⟨some 15, .un .not (.t 14), none⟩,
  ⟨some 16, .mv (.t 15), none⟩,
  ⟨some 17, .faddr 1 1 (.t 4), some (16, false)⟩,
  ⟨some 18, .load false 1 (.t 17), some (16, false)⟩,
  ⟨some 19, .call false 76 [(.t 18)], some (16, false)⟩,
  ⟨some 20, .un .not (.t 19), some (16, false)⟩,
  ⟨some 21, .pick (.t 16) (.c (.bool true)) (.t 20), none⟩,
  ⟨some 22, .mv (.t 21), none⟩,
  ⟨some 23, .mv (.t 3), some (22, false)⟩,
  ⟨some 24, .bin .gtr (.t 23) (.c (.int .i64 0)), some (22, false)⟩,
  ⟨some 25, .mv (.t 24), some (22, false)⟩,
  ⟨some 26, .mv (.t 0), some (25, true)⟩,
  ⟨some 27, .mv (.t 3), some (25, true)⟩,
  ⟨some 28, .bin .sub (.t 27) (.c (.int .i64 1)), some (25, true)⟩,
  ⟨some 29, .iaddr 2 (.t 26) (.t 28), some (25, true)⟩,
  ⟨some 30, .faddr 0 0 (.t 29), some (25, true)⟩,
  ⟨some 31, .load false 1 (.t 30), some (25, true)⟩,
  ⟨some 32, .faddr 0 0 (.t 4), some (25, true)⟩,
  ⟨some 33, .load false 1 (.t 32), some (25, true)⟩,
  ⟨some 34, .bin .geq (.t 31) (.t 33), some (25, true)⟩,
  ⟨some 35, .pick (.t 25) (.t 34) (.c (.bool false)), some (22, false)⟩,
  ⟨some 36, .pick (.t 22) (.c (.bool true)) (.t 35), none⟩])
 (.cond (.t 36) (.seq (.region 0 [⟨some 2, .mv (.c (.bool false)), none⟩])
 .ret) .skip))))
 (.region 0 [⟨some 37, .bin .add (.t 7) (.c (.int .i64 1)), none⟩,
  ⟨some 7, .mv (.t 37), none⟩]))))
def impl_areWrites_r0 : AC :=
 (.seq (.region 0 [⟨some 2, .mv (.c (.bool true)), none⟩])
 .ret)
def impl_areWrites_ac : AC :=
 (.seq (.region 0 [⟨some 2, .mv (.c (.bool false)), none⟩])
 (.seq (.seq (.region 0 [⟨some 5, .mv (.t 0), none⟩,
  ⟨some 6, .len false (.t 5), none⟩,
  ⟨some 7, .mv (.c (.int .i64 0)), none⟩])
 (.block 0 (.loop ⟨[0, 5, 6, 7], [], []⟩ impl_areWrites_b0)))
 impl_areWrites_r0))
noncomputable def impl_areWrites_l0 (E : Env) (x0 : U) (x5 : U) (x6 : U) (x7 : U) : Option U := loopK (roundOf E ⟨[0, 5, 6, 7], [], []⟩ impl_areWrites_b0 (blockK 0 (seqK (fun s => exec E impl_areWrites_r0 s (finish [(2, none)])) (finish [(2, none)])))) ([.val x0, .val x5, .val x6, .val x7], [])
theorem impl_areWrites_l0_eq (E : Env) (x0 : U) (x5 : U) (x6 : U) (x7 : U) : impl_areWrites_l0 E x0 x5 x6 x7 =
 (U.bin .lss x7 x6).bind fun t2 => U.asBool t2
 (U.asInt x7 fun n3 => U.elemAt 2 x5 n3 fun e4 => U.asVar true 2 e4 fun e5 => if storable (.val e5) = true ∧ e5.size = 2 then U.asAgg e5 fun us6 => if 0 = sizes (us6.take 0) then (us6[0]?).bind fun e7 => U.asVar false 1 e7 fun e8 => (E 11 [e8]).bind fun t9 => (U.un .not t9).bind fun t10 => U.asBool t10
 (some (.bool false))
 (U.asAgg e5 fun us11 => if 1 = sizes (us11.take 1) then (us11[1]?).bind fun e12 => U.asVar false 1 e12 fun e13 => (E 76 [e13]).bind fun t14 => (U.un .not t14).bind fun t15 => U.asBool t15
 (some (.bool false))
 ((U.bin .gtr x7 (.int .i64 0)).bind fun t16 => U.asBool t16
 ((U.bin .sub x7 (.int .i64 1)).bind fun t17 => U.asInt t17 fun n18 => U.elemAt 2 x0 n18 fun e19 => U.fieldAt 0 0 e19 fun f20 => U.asVar false 1 f20 fun e21 => U.asAgg e5 fun us22 => if 0 = sizes (us22.take 0) then (us22[0]?).bind fun e23 => U.asVar false 1 e23 fun e24 => (U.bin .geq e21 e24).bind fun t25 => U.asBool t25
 (some (.bool false))
 ((U.bin .add x7 (.int .i64 1)).bind fun t26 => impl_areWrites_l0 E x0 x5 x6 t26) else none)
 ((U.bin .add x7 (.int .i64 1)).bind fun t27 => impl_areWrites_l0 E x0 x5 x6 t27)) else none) else none else none)
 (some (.bool true)) :=
 (loop_eq E _ _ _ _).trans (by kernel_rfl)
structure G_impl_areWrites (E : Env) : Prop where
  is : Is E 74 1 impl_areWrites_ac [(2, none)]
  c_impl_isKey : G_impl_isKey E
  c_impl_isValue : G_impl_isValue E
theorem impl_areWrites_E {E : Env} (h : G_impl_areWrites E) (a0 : U) : E 74 [a0] =
 (U.lenOf false a0).bind fun n1 => impl_areWrites_l0 E a0 a0 (.int .i64 (n1 : Int)) (.int .i64 0) := (h.is _ rfl).trans ((runQ_V rfl).trans (by kernel_rfl))
end Go.Proofs.YtmdnjglkdddaeaaGreat.Am
namespace Go.Proofs.YtmdnjglkdddaeaaGreat.Am
open Go
set_option linter.unusedVariables false
set_option maxRecDepth 100000
def impl_isScheme_ac : AC :=
 (.seq (.region 0 [⟨some 2, .mv (.c (.bool false)), none⟩])
 (.seq (.region 0 [⟨some 3, .mv (.t 0), none⟩,
  ⟨some 4, .call false 10 [(.t 3), (.c (.int .i64 1)), (.c (.int .i64 4))], none⟩,
  ⟨some 2, .mv (.t 4), none⟩])
 .ret))
structure G_impl_isScheme (E : Env) : Prop where
  is : Is E 160 1 impl_isScheme_ac [(2, none)]
  c_impl_in : G_impl_in E
theorem impl_isScheme_E {E : Env} (h : G_impl_isScheme E) (a0 : U) : E 160 [a0] =
 (E 10 [a0, (.int .i64 1), (.int .i64 4)]).bind fun t1 => some t1 := (h.is _ rfl).trans ((runQ_V rfl).trans (by kernel_rfl))
end Go.Proofs.YtmdnjglkdddaeaaGreat.Am
namespace Go.Proofs.YtmdnjglkdddaeaaGreat.Am
open Go
set_option linter.unusedVariables false
set_option maxRecDepth 100000
def impl_IsValidTransaction_ac : AC :=
 (.seq (.region 0 [⟨some 1, .box false 1 (.t 0), none⟩,
  ⟨some 2, .mv (.c (.bool false)), none⟩])
 (.seq (.seq (.region 0 [⟨some 3, .faddr 0 0 (.t 1), none⟩,
  ⟨some 4, .load false 1 (.t 3), none⟩,
  ⟨some 5, .call false 9 [(.t 4)], none⟩,
  ⟨some 6, .un .not (.t 5), none⟩,
  ⟨some 7, .mv (.t 6), none⟩,
  ⟨some 8, .faddr 1 1 (.t 1), some (7, false)⟩,
  ⟨some 9, .load false 1 (.t 8), some (7, false)⟩,
  ⟨some 10, .call false 160 [(.t 9)], some (7, false)⟩,
  ⟨some 11, .un .not (.t 10), some (7, false)⟩,
  ⟨some 12, .pick (.t 7) (.c (.bool true)) (.t 11), none⟩,
  ⟨some 13, .mv (.t 12), none⟩,
  ⟨some 14, .faddr 2 2 (.t 1), some (13, false)⟩,
  ⟨some 15, .load false 1 (.t 14), some (13, false)⟩,
  ⟨some 16, .call false 10 [(.t 15), (.c (.int .i64 1)), (.c (.int .i64 3))], some (13, false)⟩,
  ⟨some 17, .un .not (.t 16), some (13, false)⟩,
  ⟨some 18, .pick (.t 13) (.c (.bool true)) (.t 17), none⟩,
  ⟨some 19, .mv (.t 18), none⟩,
  ⟨some 20, .faddr 3 3 (.t 1), some (19, false)⟩,
  ⟨some 21, .load false 1 (.t 20), some (19, false)⟩,
  ⟨some 22, .call false 10 [(.t 21), (.c (.int .i64 0)), (.c (.int .i64 999))], some (19, false)⟩,
  ⟨some 23, .un .not (.t 22), some (19, false)⟩,
  ⟨some 24, .pick (.t 19) (.c (.bool true)) (.t 23), none⟩,
  ⟨some 25, .mv (.t 24), none⟩,
  ⟨some 26, .faddr 4 4 (.t 1), some (25, false)⟩,
  ⟨some 27, .load false 1 (.t 26), some (25, false)⟩,
  ⟨some 28, .call false 10 [(.t 27), (.c (.int .i64 0)), (.c (.int .i64 999))], some (25, false)⟩,
  ⟨some 29, .un .not (.t 28), some (25, false)⟩,
  ⟨some 30, .pick (.t 25) (.c (.bool true)) (.t 29), none⟩,
  ⟨some 31, .mv (.t 30), none⟩,
  ⟨some 32, .faddr 5 5 (.t 1), some (31, false)⟩,
  ⟨some 33, .load false 1 (.t 32), some (31, false)⟩,
  ⟨some 34, .call false 10 [(.t 33), (.c (.int .i64 1)), (.c (.int .i64 1000))], some (31, false)⟩,
  ⟨some 35, .un .not (.t 34), some (31, false)⟩,
  ⟨some 36, .pick (.t 31) (.c (.bool true)) (.t 35), none⟩])
 (.cond (.t 36) (.seq (.region 0 [⟨some 2, .mv (.c (.bool false)), none⟩])
 .ret) .skip))
 (.seq (.seq (.region 0 [⟨some 37, .faddr 2 2 (.t 1), none⟩,
  ⟨some 38, .load false 1 (.t 37), none⟩,
  ⟨some 39, .bin .eql (.t 38) (.c (.int .i64 2)), none⟩,
  ⟨some 40, .mv (.t 39), none⟩,
  ⟨some 41, .faddr 6 6 (.t 1), some (40, true)⟩,
  ⟨some 42, .load false 1 (.t 41), some (40, true)⟩,
  ⟨some 43, .call false 72 [(.t 42)], some (40, true)⟩,
  ⟨some 44, .un .not (.t 43), some (40, true)⟩,
  ⟨some 45, .pick (.t 40) (.t 44) (.c (.bool false)), none⟩,
  ⟨some 46, .mv (.t 45), none⟩,
  ⟨some 47, .faddr 2 2 (.t 1), some (46, false)⟩,
  ⟨some 48, .load false 1 (.t 47), some (46, false)⟩,
  ⟨some 49, .bin .neq (.t 48) (.c (.int .i64 2)), some (46, false)⟩,
  ⟨some 50, .mv (.t 49), some (46, false)⟩,
  ⟨some 51, .faddr 6 6 (.t 1), some (50, true)⟩,
  ⟨some 52, .load false 1 (.t 51), some (50, true)⟩,
  ⟨some 53, .bin .neq (.t 52) (.c (.int .i64 0)), some (50, true)⟩,
  ⟨some 54, .pick (.t 50) (.t 53) (.c (.bool false)), some (46, false)⟩,
  ⟨some 55, .pick (.t 46) (.c (.bool true)) (.t 54), none⟩])
 (.cond (.t 55) (.seq (.region 0 [⟨some 2, .mv (.c (.bool false)), none⟩])
 .ret) .skip))
 (.seq (.region 0 [⟨some 56, .faddr 7 7 (.t 1), none⟩,
  ⟨some 57, .load false 1 (.t 56), none⟩,
  ⟨some 58, .call false 73 [(.t 57)], none⟩,
  ⟨some 59, .mv (.t 58), none⟩,
  ⟨some 60, .faddr 8 8 (.t 1), some (59, true)⟩,
  ⟨some 61, .load false 1 (.t 60), some (59, true)⟩,
  ⟨some 62, .call false 74 [(.t 61)], some (59, true)⟩,
  ⟨some 63, .pick (.t 59) (.t 62) (.c (.bool false)), none⟩,
  ⟨some 2, .mv (.t 63), none⟩])
 .ret))))
structure G_impl_IsValidTransaction (E : Env) : Prop where
  is : Is E 159 1 impl_IsValidTransaction_ac [(2, none)]
  c_impl_in : G_impl_in E
  c_impl_isID : G_impl_isID E
  c_impl_IsStamp : G_impl_IsStamp E
  c_impl_areReads : G_impl_areReads E
  c_impl_areWrites : G_impl_areWrites E
  c_impl_isScheme : G_impl_isScheme E
theorem impl_IsValidTransaction_E {E : Env} (h : G_impl_IsValidTransaction E) (a0 : U) : E 159 [a0] =
 U.noTup a0 fun x1 => U.asAgg x1 fun us2 => if 0 = sizes (us2.take 0) then (us2[0]?).bind fun e3 => U.asVar false 1 e3 fun e4 => (E 9 [e4]).bind fun t5 => (U.un .not t5).bind fun t6 => U.asBool t6
 (some (.bool false))
 (U.asAgg x1 fun us7 => if 1 = sizes (us7.take 1) then (us7[1]?).bind fun e8 => U.asVar false 1 e8 fun e9 => (E 160 [e9]).bind fun t10 => (U.un .not t10).bind fun t11 => U.asBool t11
 (some (.bool false))
 (U.asAgg x1 fun us12 => if 2 = sizes (us12.take 2) then (us12[2]?).bind fun e13 => U.asVar false 1 e13 fun e14 => (E 10 [e14, (.int .i64 1), (.int .i64 3)]).bind fun t15 => (U.un .not t15).bind fun t16 => U.asBool t16
 (some (.bool false))
 (U.asAgg x1 fun us17 => if 3 = sizes (us17.take 3) then (us17[3]?).bind fun e18 => U.asVar false 1 e18 fun e19 => (E 10 [e19, (.int .i64 0), (.int .i64 999)]).bind fun t20 => (U.un .not t20).bind fun t21 => U.asBool t21
 (some (.bool false))
 (U.asAgg x1 fun us22 => if 4 = sizes (us22.take 4) then (us22[4]?).bind fun e23 => U.asVar false 1 e23 fun e24 => (E 10 [e24, (.int .i64 0), (.int .i64 999)]).bind fun t25 => (U.un .not t25).bind fun t26 => U.asBool t26
 (some (.bool false))
 (U.asAgg x1 fun us27 => if 5 = sizes (us27.take 5) then (us27[5]?).bind fun e28 => U.asVar false 1 e28 fun e29 => (E 10 [e29, (.int .i64 1), (.int .i64 1000)]).bind fun t30 => (U.un .not t30).bind fun t31 => U.asBool t31
 (some (.bool false))
 (U.asAgg x1 fun us32 => if 2 = sizes (us32.take 2) then (us32[2]?).bind fun e33 => U.asVar false 1 e33 fun e34 => (U.bin .eql e34 (.int .i64 2)).bind fun t35 => U.asBool t35
 (U.asAgg x1 fun us36 => if 6 = sizes (us36.take 6) then (us36[6]?).bind fun e37 => U.asVar false 1 e37 fun e38 => (E 72 [e38]).bind fun t39 => (U.un .not t39).bind fun t40 => U.asBool t40
 (some (.bool false))
 (U.asAgg x1 fun us41 => if 2 = sizes (us41.take 2) then (us41[2]?).bind fun e42 => U.asVar false 1 e42 fun e43 => (U.bin .neq e43 (.int .i64 2)).bind fun t44 => U.asBool t44
 (U.asAgg x1 fun us45 => if 6 = sizes (us45.take 6) then (us45[6]?).bind fun e46 => U.asVar false 1 e46 fun e47 => (U.bin .neq e47 (.int .i64 0)).bind fun t48 => U.asBool t48
 (some (.bool false))
 (U.asAgg x1 fun us49 => if 7 = sizes (us49.take 7) then (us49[7]?).bind fun e50 => U.asVar false 1 e50 fun e51 => (E 73 [e51]).bind fun t52 => U.asBool t52
 (U.asAgg x1 fun us53 => if 8 = sizes (us53.take 8) then (us53[8]?).bind fun e54 => U.asVar false 1 e54 fun e55 => (E 74 [e55]).bind fun t56 => some t56 else none)
 (some (.bool false)) else none) else none)
 (U.asAgg x1 fun us57 => if 7 = sizes (us57.take 7) then (us57[7]?).bind fun e58 => U.asVar false 1 e58 fun e59 => (E 73 [e59]).bind fun t60 => U.asBool t60
 (U.asAgg x1 fun us61 => if 8 = sizes (us61.take 8) then (us61[8]?).bind fun e62 => U.asVar false 1 e62 fun e63 => (E 74 [e63]).bind fun t64 => some t64 else none)
 (some (.bool false)) else none) else none) else none)
 (U.asAgg x1 fun us65 => if 2 = sizes (us65.take 2) then (us65[2]?).bind fun e66 => U.asVar false 1 e66 fun e67 => (U.bin .neq e67 (.int .i64 2)).bind fun t68 => U.asBool t68
 (U.asAgg x1 fun us69 => if 6 = sizes (us69.take 6) then (us69[6]?).bind fun e70 => U.asVar false 1 e70 fun e71 => (U.bin .neq e71 (.int .i64 0)).bind fun t72 => U.asBool t72
 (some (.bool false))
 (U.asAgg x1 fun us73 => if 7 = sizes (us73.take 7) then (us73[7]?).bind fun e74 => U.asVar false 1 e74 fun e75 => (E 73 [e75]).bind fun t76 => U.asBool t76
 (U.asAgg x1 fun us77 => if 8 = sizes (us77.take 8) then (us77[8]?).bind fun e78 => U.asVar false 1 e78 fun e79 => (E 74 [e79]).bind fun t80 => some t80 else none)
 (some (.bool false)) else none) else none)
 (U.asAgg x1 fun us81 => if 7 = sizes (us81.take 7) then (us81[7]?).bind fun e82 => U.asVar false 1 e82 fun e83 => (E 73 [e83]).bind fun t84 => U.asBool t84
 (U.asAgg x1 fun us85 => if 8 = sizes (us85.take 8) then (us85[8]?).bind fun e86 => U.asVar false 1 e86 fun e87 => (E 74 [e87]).bind fun t88 => some t88 else none)
 (some (.bool false)) else none) else none) else none) else none) else none) else none) else none) else none) else none := (h.is _ rfl).trans ((runQ_V rfl).trans (by kernel_rfl))
end Go.Proofs.YtmdnjglkdddaeaaGreat.Am
namespace Go.Proofs.YtmdnjglkdddaeaaGreat.Am
open Go
set_option linter.unusedVariables false
set_option maxRecDepth 100000
def slices_IndexFunc_g163_b0 : AC :=
 (.seq (.region 0 [⟨some 9, .bin .lss (.t 8) (.t 7), none⟩])
 (.seq (.cond (.t 9) .skip (.exit 0))
 (.seq (.block 1 (.seq (.region 0 [⟨some 10, .mv (.t 8), none⟩,
  ⟨some 5, .mv (.t 10), none⟩])
 (.seq (.region 0 [⟨some 11, .mv (.t 1), none⟩,
  ⟨some 12, .mv (.t 0), none⟩,
  ⟨some 13, .mv (.t 5), none⟩,
  ⟨some 14, .iaddr 2 (.t 12) (.t 13), none⟩,
  ⟨some 15, .load true 2 (.t 14), none⟩,
  ⟨some 16, .callv false (.t 11) [(.t 15)], none⟩])
 (.cond (.t 16) (.seq (.region 0 [⟨some 17, .mv (.t 5), none⟩,
  ⟨some 4, .mv (.t 17), none⟩])
 .ret) .skip))))
 (.region 0 [⟨some 18, .bin .add (.t 8) (.c (.int .i64 1)), none⟩,
  ⟨some 8, .mv (.t 18), none⟩]))))
def slices_IndexFunc_g163_r0 : AC :=
 (.seq (.region 0 [⟨some 4, .mv (.c (.int .i64 (-1))), none⟩])
 .ret)
def slices_IndexFunc_g163_ac : AC :=
 (.seq (.region 0 [⟨some 4, .mv (.c (.int .i64 0)), none⟩])
 (.seq (.seq (.region 0 [⟨some 6, .mv (.t 0), none⟩,
  ⟨some 7, .len false (.t 6), none⟩,
  ⟨some 8, .mv (.c (.int .i64 0)), none⟩])
 (.block 0 (.loop ⟨[0, 1, 7, 8], [], []⟩ slices_IndexFunc_g163_b0)))
 slices_IndexFunc_g163_r0))
noncomputable def slices_IndexFunc_g163_l0 (E : Env) (x0 : U) (x1 : U) (x7 : U) (x8 : U) : Option U := loopK (roundOf E ⟨[0, 1, 7, 8], [], []⟩ slices_IndexFunc_g163_b0 (blockK 0 (seqK (fun s => exec E slices_IndexFunc_g163_r0 s (finish [(4, none)])) (finish [(4, none)])))) ([.val x0, .val x1, .val x7, .val x8], [])
theorem slices_IndexFunc_g163_l0_eq (E : Env) (x0 : U) (x1 : U) (x7 : U) (x8 : U) : slices_IndexFunc_g163_l0 E x0 x1 x7 x8 =
 (U.bin .lss x8 x7).bind fun t2 => U.asBool t2
 (U.asInt x8 fun n3 => U.elemAt 2 x0 n3 fun e4 => U.asVar true 2 e4 fun e5 => U.asFn x1 fun r6 caps7 => (E r6 ([e5] ++ caps7)).bind fun t8 => U.asBool t8
 (some x8)
 ((U.bin .add x8 (.int .i64 1)).bind fun t9 => slices_IndexFunc_g163_l0 E x0 x1 x7 t9))
 (some (.int .i64 (-1))) :=
 (loop_eq E _ _ _ _).trans (by kernel_rfl)
structure G_slices_IndexFunc_g163 (E : Env) : Prop where
  is : Is E 163 2 slices_IndexFunc_g163_ac [(4, none)]
theorem slices_IndexFunc_g163_E {E : Env} (h : G_slices_IndexFunc_g163 E) (a0 a1 : U) : E 163 [a0, a1] =
 (U.lenOf false a0).bind fun n1 => slices_IndexFunc_g163_l0 E a0 a1 (.int .i64 (n1 : Int)) (.int .i64 0) := (h.is _ rfl).trans ((runQ_V rfl).trans (by kernel_rfl))
end Go.Proofs.YtmdnjglkdddaeaaGreat.Am
namespace Go.Proofs.YtmdnjglkdddaeaaGreat.Am
open Go
set_option linter.unusedVariables false
set_option maxRecDepth 100000
def slices_ContainsFunc_g162_ac : AC :=
 (.seq (.region 0 [⟨some 4, .mv (.c (.bool false)), none⟩])
 (.seq (.region 0 [⟨some 5, .mv (.t 0), none⟩,
  ⟨some 6, .mv (.t 1), none⟩,
  ⟨some 7, .call false 163 [(.t 5), (.t 6)], none⟩,
  ⟨some 8, .bin .geq (.t 7) (.c (.int .i64 0)), none⟩,
  ⟨some 4, .mv (.t 8), none⟩])
 .ret))
structure G_slices_ContainsFunc_g162 (E : Env) : Prop where
  is : Is E 162 2 slices_ContainsFunc_g162_ac [(4, none)]
  c_slices_IndexFunc_g163 : G_slices_IndexFunc_g163 E
theorem slices_ContainsFunc_g162_E {E : Env} (h : G_slices_ContainsFunc_g162 E) (a0 a1 : U) : E 162 [a0, a1] =
 (E 163 [a0, a1]).bind fun t1 => (U.bin .geq t1 (.int .i64 0)).bind fun t2 => some t2 := (h.is _ rfl).trans ((runQ_V rfl).trans (by kernel_rfl))
end Go.Proofs.YtmdnjglkdddaeaaGreat.Am
namespace Go.Proofs.YtmdnjglkdddaeaaGreat.Am
open Go
set_option linter.unusedVariables false
set_option maxRecDepth 100000
def slices_IndexFunc_g167_b0 : AC :=
 (.seq (.region 0 [⟨some 9, .bin .lss (.t 8) (.t 7), none⟩])
 (.seq (.cond (.t 9) .skip (.exit 0))
 (.seq (.block 1 (.seq (.region 0 [⟨some 10, .mv (.t 8), none⟩,
  ⟨some 5, .mv (.t 10), none⟩])
 (.seq (.region 0 [⟨some 11, .mv (.t 1), none⟩,
  ⟨some 12, .mv (.t 0), none⟩,
  ⟨some 13, .mv (.t 5), none⟩,
  ⟨some 14, .iaddr 5 (.t 12) (.t 13), none⟩,
  ⟨some 15, .load true 5 (.t 14), none⟩,
  ⟨some 16, .callv false (.t 11) [(.t 15)], none⟩])
 (.cond (.t 16) (.seq (.region 0 [⟨some 17, .mv (.t 5), none⟩,
  ⟨some 4, .mv (.t 17), none⟩])
 .ret) .skip))))
 (.region 0 [⟨some 18, .bin .add (.t 8) (.c (.int .i64 1)), none⟩,
  ⟨some 8, .mv (.t 18), none⟩]))))
def slices_IndexFunc_g167_r0 : AC :=
 (.seq (.region 0 [⟨some 4, .mv (.c (.int .i64 (-1))), none⟩])
 .ret)
def slices_IndexFunc_g167_ac : AC :=
 (.seq (.region 0 [⟨some 4, .mv (.c (.int .i64 0)), none⟩])
 (.seq (.seq (.region 0 [⟨some 6, .mv (.t 0), none⟩,
  ⟨some 7, .len false (.t 6), none⟩,
  ⟨some 8, .mv (.c (.int .i64 0)), none⟩])
 (.block 0 (.loop ⟨[0, 1, 7, 8], [], []⟩ slices_IndexFunc_g167_b0)))
 slices_IndexFunc_g167_r0))
noncomputable def slices_IndexFunc_g167_l0 (E : Env) (x0 : U) (x1 : U) (x7 : U) (x8 : U) : Option U := loopK (roundOf E ⟨[0, 1, 7, 8], [], []⟩ slices_IndexFunc_g167_b0 (blockK 0 (seqK (fun s => exec E slices_IndexFunc_g167_r0 s (finish [(4, none)])) (finish [(4, none)])))) ([.val x0, .val x1, .val x7, .val x8], [])
theorem slices_IndexFunc_g167_l0_eq (E : Env) (x0 : U) (x1 : U) (x7 : U) (x8 : U) : slices_IndexFunc_g167_l0 E x0 x1 x7 x8 =
 (U.bin .lss x8 x7).bind fun t2 => U.asBool t2
 (U.asInt x8 fun n3 => U.elemAt 5 x0 n3 fun e4 => U.asVar true 5 e4 fun e5 => U.asFn x1 fun r6 caps7 => (E r6 ([e5] ++ caps7)).bind fun t8 => U.asBool t8
 (some x8)
 ((U.bin .add x8 (.int .i64 1)).bind fun t9 => slices_IndexFunc_g167_l0 E x0 x1 x7 t9))
 (some (.int .i64 (-1))) :=
 (loop_eq E _ _ _ _).trans (by kernel_rfl)
structure G_slices_IndexFunc_g167 (E : Env) : Prop where
  is : Is E 167 2 slices_IndexFunc_g167_ac [(4, none)]
theorem slices_IndexFunc_g167_E {E : Env} (h : G_slices_IndexFunc_g167 E) (a0 a1 : U) : E 167 [a0, a1] =
 (U.lenOf false a0).bind fun n1 => slices_IndexFunc_g167_l0 E a0 a1 (.int .i64 (n1 : Int)) (.int .i64 0) := (h.is _ rfl).trans ((runQ_V rfl).trans (by kernel_rfl))
end Go.Proofs.YtmdnjglkdddaeaaGreat.Am
namespace Go.Proofs.YtmdnjglkdddaeaaGreat.Am
open Go
set_option linter.unusedVariables false
set_option maxRecDepth 100000
def impl_FindVersion_1_ac : AC :=
 (.seq (.region 0 [⟨some 2, .box false 2 (.t 0), none⟩,
  ⟨some 3, .mv (.c (.bool false)), none⟩])
 (.seq (.region 0 [⟨some 4, .faddr 2 2 (.t 2), none⟩,
  ⟨some 5, .load false 1 (.t 4), none⟩,
  ⟨some 6, .load false 1 (.t 1), none⟩,
  ⟨some 7, .bin .eql (.t 5) (.t 6), none⟩,
  ⟨some 3, .mv (.t 7), none⟩])
 .ret))
structure G_impl_FindVersion_1 (E : Env) : Prop where
  is : Is E 166 2 impl_FindVersion_1_ac [(3, none)]
theorem impl_FindVersion_1_E {E : Env} (h : G_impl_FindVersion_1 E) (a0 a1 : U) : E 166 [a0, a1] =
 U.noTup a0 fun x1 => U.asAgg x1 fun us2 => if 2 = sizes (us2.take 2) then (us2[2]?).bind fun e3 => U.asVar false 1 e3 fun e4 => U.asVp a1 fun v5 => U.asVar false 1 v5 fun e6 => (U.bin .eql e4 e6).bind fun t7 => some t7 else none := (h.is _ rfl).trans ((runQ_V rfl).trans (by kernel_rfl))
end Go.Proofs.YtmdnjglkdddaeaaGreat.Am
namespace Go.Proofs.YtmdnjglkdddaeaaGreat.Am
open Go
set_option linter.unusedVariables false
set_option maxRecDepth 100000
def impl_FindVersion_ac : AC :=
 (.seq (.region 0 [⟨some 3, .box true 3 (.t 1), none⟩,
  ⟨some 4, .mv (.c (.int .i64 0)), none⟩])
 (.seq (.region 0 [⟨some 5, .mv (.t 0), none⟩,
  ⟨some 6, .mkfn 166 [(.t 3)], none⟩,
  ⟨some 7, .call false 167 [(.t 5), (.t 6)], none⟩,
  ⟨some 4, .mv (.t 7), none⟩])
 .ret))
structure G_impl_FindVersion (E : Env) : Prop where
  is : Is E 165 2 impl_FindVersion_ac [(4, none)]
  c_slices_IndexFunc_g167 : G_slices_IndexFunc_g167 E
  c_impl_FindVersion_1 : G_impl_FindVersion_1 E
theorem impl_FindVersion_E {E : Env} (h : G_impl_FindVersion E) (a0 a1 : U) : E 165 [a0, a1] =
 U.noTup a1 fun x1 => (E 167 [a0, (.fn 166 [(.vp x1)])]).bind fun t2 => U.asFlat t2 fun t3 => some t3 := (h.is _ rfl).trans ((runQ_V rfl).trans (by kernel_rfl))
end Go.Proofs.YtmdnjglkdddaeaaGreat.Am
namespace Go.Proofs.YtmdnjglkdddaeaaGreat.Am
open Go
set_option linter.unusedVariables false
set_option maxRecDepth 100000
def impl_Store_find_ac : AC :=
 (.seq (.region 0 [⟨some 2, .box false 2 (.t 0), none⟩,
  ⟨some 3, .box false 3 (.t 1), none⟩,
  ⟨some 4, .mv (.c .nil), none⟩])
 (.seq (.region 0 [⟨some 7, .faddr 0 0 (.t 2), none⟩,
  ⟨some 8, .load false 1 (.t 7), none⟩,
  ⟨some 9, .faddr 0 0 (.t 3), none⟩,
  ⟨some 10, .load false 1 (.t 9), none⟩,
  ⟨some 11, .iaddr 1 (.t 8) (.t 10), none⟩,
  ⟨some 12, .load false 1 (.t 11), none⟩,
  ⟨some 5, .mv (.t 12), none⟩])
 (.seq (.region 0 [⟨some 13, .mv (.t 5), none⟩,
  ⟨some 14, .faddr 1 1 (.t 3), none⟩,
  ⟨some 15, .load false 1 (.t 14), none⟩,
  ⟨some 16, .call false 165 [(.t 13), (.t 15)], none⟩,
  ⟨some 6, .mv (.t 16), none⟩])
 (.seq (.seq (.region 0 [⟨some 17, .mv (.t 6), none⟩,
  ⟨some 18, .bin .lss (.t 17) (.c (.int .i64 0)), none⟩])
 (.cond (.t 18) (.seq (.region 0 [⟨some 4, .mv (.c .nil), none⟩])
 .ret) .skip))
 (.seq (.region 0 [⟨some 19, .mv (.t 5), none⟩,
  ⟨some 20, .mv (.t 6), none⟩,
  ⟨some 21, .iaddr 5 (.t 19) (.t 20), none⟩,
  ⟨some 4, .mv (.t 21), none⟩])
 .ret)))))
structure G_impl_Store_find (E : Env) : Prop where
  is : Is E 164 2 impl_Store_find_ac [(4, none)]
  c_impl_FindVersion : G_impl_FindVersion E
theorem impl_Store_find_E {E : Env} (h : G_impl_Store_find E) (a0 a1 : U) : E 164 [a0, a1] =
 U.noTup a0 fun x1 => U.noTup a1 fun x2 => U.asAgg x1 fun us3 => if 0 = sizes (us3.take 0) then (us3[0]?).bind fun e4 => U.asVar false 1 e4 fun e5 => U.asAgg x2 fun us6 => if 0 = sizes (us6.take 0) then (us6[0]?).bind fun e7 => U.asVar false 1 e7 fun e8 => U.asInt e8 fun n9 => U.elemAt 1 e5 n9 fun e10 => U.asVar false 1 e10 fun e11 => U.asAgg x2 fun us12 => if 1 = sizes (us12.take 1) then (us12[1]?).bind fun e13 => U.asVar false 1 e13 fun e14 => (E 165 [e11, e14]).bind fun t15 => (U.bin .lss t15 (.int .i64 0)).bind fun t16 => U.asBool t16
 (some .nil)
 (U.asInt t15 fun n17 => U.elemAt 5 e11 n17 fun e18 => some (.vp e18)) else none else none else none := (h.is _ rfl).trans ((runQ_V rfl).trans (by kernel_rfl))
end Go.Proofs.YtmdnjglkdddaeaaGreat.Am
namespace Go.Proofs.YtmdnjglkdddaeaaGreat.Am
open Go
set_option linter.unusedVariables false
set_option maxRecDepth 100000
def impl_Store_readsExist_1_ac : AC :=
 (.seq (.region 0 [⟨some 2, .box false 2 (.t 0), none⟩,
  ⟨some 3, .mv (.c (.bool false)), none⟩])
 (.seq (.region 0 [⟨some 4, .load true 1 (.t 1), none⟩,
  ⟨some 5, .load true 2 (.t 2), none⟩,
  ⟨some 6, .call false 164 [(.t 4), (.t 5)], none⟩,
  ⟨some 7, .eqv false 1 (.t 6) (.c .nil), none⟩,
  ⟨some 3, .mv (.t 7), none⟩])
 .ret))
structure G_impl_Store_readsExist_1 (E : Env) : Prop where
  is : Is E 161 2 impl_Store_readsExist_1_ac [(3, none)]
  c_impl_Store_find : G_impl_Store_find E
theorem impl_Store_readsExist_1_E {E : Env} (h : G_impl_Store_readsExist_1 E) (a0 a1 : U) : E 161 [a0, a1] =
 U.noTup a0 fun x1 => U.asVp a1 fun v2 => U.asVar true 1 v2 fun e3 => U.asVar true 2 x1 fun e4 => (E 164 [e3, e4]).bind fun t5 => (U.eqv 1 t5 .nil).bind fun q6 => some (.bool q6) := (h.is _ rfl).trans ((runQ_V rfl).trans (by kernel_rfl))
end Go.Proofs.YtmdnjglkdddaeaaGreat.Am
namespace Go.Proofs.YtmdnjglkdddaeaaGreat.Am
open Go
set_option linter.unusedVariables false
set_option maxRecDepth 100000
def impl_Store_readsExist_ac : AC :=
 (.seq (.region 0 [⟨some 2, .box true 2 (.t 0), none⟩,
  ⟨some 4, .mv (.c (.bool false)), none⟩])
 (.seq (.region 0 [⟨some 5, .mv (.t 1), none⟩,
  ⟨some 6, .mkfn 161 [(.t 2)], none⟩,
  ⟨some 7, .call false 162 [(.t 5), (.t 6)], none⟩,
  ⟨some 8, .un .not (.t 7), none⟩,
  ⟨some 4, .mv (.t 8), none⟩])
 .ret))
structure G_impl_Store_readsExist (E : Env) : Prop where
  is : Is E 158 2 impl_Store_readsExist_ac [(4, none)]
  c_slices_ContainsFunc_g162 : G_slices_ContainsFunc_g162 E
  c_impl_Store_readsExist_1 : G_impl_Store_readsExist_1 E
theorem impl_Store_readsExist_E {E : Env} (h : G_impl_Store_readsExist E) (a0 a1 : U) : E 158 [a0, a1] =
 U.noTup a0 fun x1 => (E 162 [a1, (.fn 161 [(.vp x1)])]).bind fun t2 => U.asFlat t2 fun t3 => (U.un .not t3).bind fun t4 => some t4 := (h.is _ rfl).trans ((runQ_V rfl).trans (by kernel_rfl))
end Go.Proofs.YtmdnjglkdddaeaaGreat.Am
namespace Go.Proofs.YtmdnjglkdddaeaaGreat.Am
open Go
set_option linter.unusedVariables false
set_option maxRecDepth 100000
def impl_Engine_areTransactions_b0 : AC :=
 (.seq (.region 0 [⟨some 9, .bin .lss (.t 8) (.t 7), none⟩])
 (.seq (.cond (.t 9) .skip (.exit 0))
 (.seq (.block 1 (.seq (.region 0 [⟨some 10, .mv (.t 8), none⟩,
  ⟨some 11, .iaddr 9 (.t 6) (.t 8), none⟩,
  ⟨some 12, .load true 9 (.t 11), none⟩,
  ⟨some 4, .alloc 4 (.agg [(.int .i64 0), (.int .i64 0), (.int .i64 0), (.int .i64 0), (.int .i64 0), (.int .i64 0), (.int .i64 0), (.nsl 2), (.nsl 2)]), none⟩,
  ⟨some 3, .mv (.t 10), none⟩,
  ⟨none, .store 9 (.t 4) (.t 12), none⟩])
 (.seq (.seq (.region 33 [⟨some 13, .load true 9 (.t 4), none⟩,
  ⟨some 14, .call false 159 [(.t 13)], none⟩,
  ⟨some 15, .un .not (.t 14), none⟩,
  ⟨some 16, .mv (.t 15), none⟩,
  ⟨some 17, .mv (.t 3), some (16, false)⟩,
  ⟨some 18, .bin .gtr (.t 17) (.c (.int .i64 0)), some (16, false)⟩,
  ⟨some 19, .mv (.t 18), some (16, false)⟩,
  ⟨some 20, .faddr 2 2 (.t 1), some (19, true)⟩,
  ⟨some 21, .load false 1 (.t 20), some (19, true)⟩,
  ⟨some 22, .mv (.t 3), some (19, true)⟩,
  ⟨some 23, .bin .sub (.t 22) (.c (.int .i64 1)), some (19, true)⟩,
  ⟨some 24, .iaddr 9 (.t 21) (.t 23), some (19, true)⟩,
  ⟨some 25, .faddr 0 0 (.t 24), some (19, true)⟩,
  ⟨some 26, .load false 1 (.t 25), some (19, true)⟩,
  ⟨some 27, .faddr 0 0 (.t 4), some (19, true)⟩,
  ⟨some 28, .load false 1 (.t 27), some (19, true)⟩,
  ⟨some 29, .bin .geq (.t 26) (.t 28), some (19, true)⟩,
  ⟨some 30, .pick (.t 19) (.t 29) (.c (.bool false)), some (16, false)⟩,
  ⟨some 31, .pick (.t 16) (.c (.bool true)) (.t 30), none⟩,
  ⟨some 32, .mv (.t 31), none⟩,
  ⟨some 33, .faddr 3 3 (.t 4), some (32, false)⟩,
  ⟨some 34, .load false 1 (.t 33), some (32, false)⟩,
  ⟨some 35, .faddr 5 5 (.t 1), some (32, false)⟩,
  ⟨some 36, .load false 1 (.t 35), some (32, false)⟩,
  ⟨some 37, .bin .gtr (.t 34) (.t 36), some (32, false)⟩,
  ⟨some 38, .pick (.t 32) (.c (.bool true)) (.t 37), none⟩,
  ⟨some 39, .mv (.t 38), none⟩,
  ⟨some 40, .faddr 6 6 (.t 4), some (39, false)⟩,
  ⟨some 41, .load false 1 (.t 40), some (39, false)⟩,
  ⟨some 42, .faddr 5 5 (.t 1), some (39, false)⟩,
  ⟨some 43, .load false 1 (.t 42), some (39, false)⟩,
  ⟨some 44, .bin .gtr (.t 41) (.t 43), some (39, false)⟩,
  ⟨some 45, .pick (.t 39) (.c (.bool true)) (.t 44), none⟩])
 (.cond (.t 45) (.seq (.region 0 [⟨some 2, .mv (.c (.bool false)), none⟩])
 .ret) .skip))
 (.seq (.region 0 [⟨some 46, .faddr 2 2 (.t 4), none⟩,
  ⟨some 47, .load false 1 (.t 46), none⟩,
  ⟨some 48, .bin .eql (.t 47) (.c (.int .i64 1)), none⟩,
  ⟨some 49, .mv (.t 48), none⟩,
  ⟨some 50, .faddr 1 1 (.t 1), some (49, true)⟩,
  ⟨some 51, .load true 1 (.t 50), some (49, true)⟩,
  ⟨some 52, .faddr 7 7 (.t 4), some (49, true)⟩,
  ⟨some 53, .load false 1 (.t 52), some (49, true)⟩,
  ⟨some 54, .call false 158 [(.t 51), (.t 53)], some (49, true)⟩,
  ⟨some 55, .un .not (.t 54), some (49, true)⟩,
  ⟨some 56, .pick (.t 49) (.t 55) (.c (.bool false)), none⟩])
 (.cond (.t 56) (.seq (.region 0 [⟨some 2, .mv (.c (.bool false)), none⟩])
 .ret) .skip)))))
 (.region 0 [⟨some 57, .bin .add (.t 8) (.c (.int .i64 1)), none⟩,
  ⟨some 8, .mv (.t 57), none⟩]))))
def impl_Engine_areTransactions_r0 : AC :=
 (.seq (.region 0 [⟨some 58, .faddr 2 2 (.t 1), none⟩,
  ⟨some 59, .load false 1 (.t 58), none⟩,
  ⟨some 60, .len false (.t 59), none⟩,
  ⟨some 61, .bin .leq (.t 60) (.c (.int .i64 6)), none⟩,
  ⟨some 2, .mv (.t 61), none⟩])
 .ret)
def impl_Engine_areTransactions_ac : AC :=
 (.seq (.region 0 [⟨some 1, .box false 1 (.t 0), none⟩,
  ⟨some 2, .mv (.c (.bool false)), none⟩])
 (.seq (.seq (.region 0 [⟨some 5, .faddr 2 2 (.t 1), none⟩,
  ⟨some 6, .load false 1 (.t 5), none⟩,
  ⟨some 7, .len false (.t 6), none⟩,
  ⟨some 8, .mv (.c (.int .i64 0)), none⟩])
 (.block 0 (.loop ⟨[1, 6, 7, 8], [], [(1, false)]⟩ impl_Engine_areTransactions_b0)))
 impl_Engine_areTransactions_r0))
noncomputable def impl_Engine_areTransactions_l0 (E : Env) (x6 : U) (x7 : U) (x8 : U) (b1 : U) : Option U := loopK (roundOf E ⟨[1, 6, 7, 8], [], [(1, false)]⟩ impl_Engine_areTransactions_b0 (blockK 0 (seqK (fun s => exec E impl_Engine_areTransactions_r0 s (finish [(2, none)])) (finish [(2, none)])))) ([.ptr 1 [], .val x6, .val x7, .val x8], [.box (.val b1)])
theorem impl_Engine_areTransactions_l0_eq (E : Env) (x6 : U) (x7 : U) (x8 : U) (b1 : U) : impl_Engine_areTransactions_l0 E x6 x7 x8 b1 =
 (U.bin .lss x8 x7).bind fun t6 => U.asBool t6
 (U.asInt x8 fun n7 => U.elemAt 9 x6 n7 fun e8 => U.asVar true 9 e8 fun e9 => if storable (.val e9) = true ∧ e9.size = 9 then U.asVar true 9 e9 fun e10 => (E 159 [e10]).bind fun t11 => (U.un .not t11).bind fun t12 => U.asBool t12
 (some (.bool false))
 ((U.bin .gtr x8 (.int .i64 0)).bind fun t13 => U.asBool t13
 (U.asAgg b1 fun us14 => if 2 = sizes (us14.take 2) then (us14[2]?).bind fun e15 => U.asVar false 1 e15 fun e16 => (U.bin .sub x8 (.int .i64 1)).bind fun t17 => U.asInt t17 fun n18 => U.elemAt 9 e16 n18 fun e19 => U.fieldAt 0 0 e19 fun f20 => U.asVar false 1 f20 fun e21 => U.asAgg e9 fun us22 => if 0 = sizes (us22.take 0) then (us22[0]?).bind fun e23 => U.asVar false 1 e23 fun e24 => (U.bin .geq e21 e24).bind fun t25 => U.asBool t25
 (some (.bool false))
 (U.asAgg e9 fun us26 => if 3 = sizes (us26.take 3) then (us26[3]?).bind fun e27 => U.asVar false 1 e27 fun e28 => U.asAgg b1 fun us29 => if 5 = sizes (us29.take 5) then (us29[5]?).bind fun e30 => U.asVar false 1 e30 fun e31 => (U.bin .gtr e28 e31).bind fun t32 => U.asBool t32
 (some (.bool false))
 (U.asAgg e9 fun us33 => if 6 = sizes (us33.take 6) then (us33[6]?).bind fun e34 => U.asVar false 1 e34 fun e35 => U.asAgg b1 fun us36 => if 5 = sizes (us36.take 5) then (us36[5]?).bind fun e37 => U.asVar false 1 e37 fun e38 => (U.bin .gtr e35 e38).bind fun t39 => U.asBool t39
 (some (.bool false))
 (U.asAgg e9 fun us40 => if 2 = sizes (us40.take 2) then (us40[2]?).bind fun e41 => U.asVar false 1 e41 fun e42 => (U.bin .eql e42 (.int .i64 1)).bind fun t43 => U.asBool t43
 (U.asAgg b1 fun us44 => if 1 = sizes (us44.take 1) then (us44[1]?).bind fun e45 => U.asVar true 1 e45 fun e46 => U.asAgg e9 fun us47 => if 7 = sizes (us47.take 7) then (us47[7]?).bind fun e48 => U.asVar false 1 e48 fun e49 => (E 158 [e46, e49]).bind fun t50 => (U.un .not t50).bind fun t51 => U.asBool t51
 (some (.bool false))
 ((U.bin .add x8 (.int .i64 1)).bind fun t52 => impl_Engine_areTransactions_l0 E x6 x7 t52 b1) else none else none)
 ((U.bin .add x8 (.int .i64 1)).bind fun t53 => impl_Engine_areTransactions_l0 E x6 x7 t53 b1) else none) else none else none) else none else none) else none else none)
 (U.asAgg e9 fun us54 => if 3 = sizes (us54.take 3) then (us54[3]?).bind fun e55 => U.asVar false 1 e55 fun e56 => U.asAgg b1 fun us57 => if 5 = sizes (us57.take 5) then (us57[5]?).bind fun e58 => U.asVar false 1 e58 fun e59 => (U.bin .gtr e56 e59).bind fun t60 => U.asBool t60
 (some (.bool false))
 (U.asAgg e9 fun us61 => if 6 = sizes (us61.take 6) then (us61[6]?).bind fun e62 => U.asVar false 1 e62 fun e63 => U.asAgg b1 fun us64 => if 5 = sizes (us64.take 5) then (us64[5]?).bind fun e65 => U.asVar false 1 e65 fun e66 => (U.bin .gtr e63 e66).bind fun t67 => U.asBool t67
 (some (.bool false))
 (U.asAgg e9 fun us68 => if 2 = sizes (us68.take 2) then (us68[2]?).bind fun e69 => U.asVar false 1 e69 fun e70 => (U.bin .eql e70 (.int .i64 1)).bind fun t71 => U.asBool t71
 (U.asAgg b1 fun us72 => if 1 = sizes (us72.take 1) then (us72[1]?).bind fun e73 => U.asVar true 1 e73 fun e74 => U.asAgg e9 fun us75 => if 7 = sizes (us75.take 7) then (us75[7]?).bind fun e76 => U.asVar false 1 e76 fun e77 => (E 158 [e74, e77]).bind fun t78 => (U.un .not t78).bind fun t79 => U.asBool t79
 (some (.bool false))
 ((U.bin .add x8 (.int .i64 1)).bind fun t80 => impl_Engine_areTransactions_l0 E x6 x7 t80 b1) else none else none)
 ((U.bin .add x8 (.int .i64 1)).bind fun t81 => impl_Engine_areTransactions_l0 E x6 x7 t81 b1) else none) else none else none) else none else none)) else none)
 (U.asAgg b1 fun us82 => if 2 = sizes (us82.take 2) then (us82[2]?).bind fun e83 => U.asVar false 1 e83 fun e84 => (U.lenOf false e84).bind fun n85 => (U.bin .leq (.int .i64 (n85 : Int)) (.int .i64 6)).bind fun t86 => some t86 else none) :=
 (loop_eq E _ _ _ _).trans (by kernel_rfl)
structure G_impl_Engine_areTransactions (E : Env) : Prop where
  is : Is E 153 1 impl_Engine_areTransactions_ac [(2, none)]
  c_impl_IsValidTransaction : G_impl_IsValidTransaction E
  c_impl_Store_readsExist : G_impl_Store_readsExist E
theorem impl_Engine_areTransactions_E {E : Env} (h : G_impl_Engine_areTransactions E) (a0 : U) : E 153 [a0] =
 U.noTup a0 fun x1 => U.asAgg x1 fun us2 => if 2 = sizes (us2.take 2) then (us2[2]?).bind fun e3 => U.asVar false 1 e3 fun e4 => (U.lenOf false e4).bind fun n5 => impl_Engine_areTransactions_l0 E e4 (.int .i64 (n5 : Int)) (.int .i64 0) x1 else none := (h.is _ rfl).trans ((runQ_V rfl).trans (by kernel_rfl))
end Go.Proofs.YtmdnjglkdddaeaaGreat.Am
namespace Go.Proofs.YtmdnjglkdddaeaaGreat.Am
open Go
set_option linter.unusedVariables false
set_option maxRecDepth 100000
def slices_IndexFunc_g168_b0 : AC :=
 (.seq (.region 0 [⟨some 9, .bin .lss (.t 8) (.t 7), none⟩])
 (.seq (.cond (.t 9) .skip (.exit 0))
 (.seq (.block 1 (.seq (.region 0 [⟨some 10, .mv (.t 8), none⟩,
  ⟨some 5, .mv (.t 10), none⟩])
 (.seq (.region 0 [⟨some 11, .mv (.t 1), none⟩,
  ⟨some 12, .mv (.t 0), none⟩,
  ⟨some 13, .mv (.t 5), none⟩,
  ⟨some 14, .iaddr 2 (.t 12) (.t 13), none⟩,
  ⟨some 15, .load true 2 (.t 14), none⟩,
  ⟨some 16, .callv false (.t 11) [(.t 15)], none⟩])
 (.cond (.t 16) (.seq (.region 0 [⟨some 17, .mv (.t 5), none⟩,
  ⟨some 4, .mv (.t 17), none⟩])
 .ret) .skip))))
 (.region 0 [⟨some 18, .bin .add (.t 8) (.c (.int .i64 1)), none⟩,
  ⟨some 8, .mv (.t 18), none⟩]))))
def slices_IndexFunc_g168_r0 : AC :=
 (.seq (.region 0 [⟨some 4, .mv (.c (.int .i64 (-1))), none⟩])
 .ret)
def slices_IndexFunc_g168_ac : AC :=
 (.seq (.region 0 [⟨some 4, .mv (.c (.int .i64 0)), none⟩])
 (.seq (.seq (.region 0 [⟨some 6, .mv (.t 0), none⟩,
  ⟨some 7, .len false (.t 6), none⟩,
  ⟨some 8, .mv (.c (.int .i64 0)), none⟩])
 (.block 0 (.loop ⟨[0, 1, 7, 8], [], []⟩ slices_IndexFunc_g168_b0)))
 slices_IndexFunc_g168_r0))
noncomputable def slices_IndexFunc_g168_l0 (E : Env) (x0 : U) (x1 : U) (x7 : U) (x8 : U) : Option U := loopK (roundOf E ⟨[0, 1, 7, 8], [], []⟩ slices_IndexFunc_g168_b0 (blockK 0 (seqK (fun s => exec E slices_IndexFunc_g168_r0 s (finish [(4, none)])) (finish [(4, none)])))) ([.val x0, .val x1, .val x7, .val x8], [])
theorem slices_IndexFunc_g168_l0_eq (E : Env) (x0 : U) (x1 : U) (x7 : U) (x8 : U) : slices_IndexFunc_g168_l0 E x0 x1 x7 x8 =
 (U.bin .lss x8 x7).bind fun t2 => U.asBool t2
 (U.asInt x8 fun n3 => U.elemAt 2 x0 n3 fun e4 => U.asVar true 2 e4 fun e5 => U.asFn x1 fun r6 caps7 => (E r6 ([e5] ++ caps7)).bind fun t8 => U.asBool t8
 (some x8)
 ((U.bin .add x8 (.int .i64 1)).bind fun t9 => slices_IndexFunc_g168_l0 E x0 x1 x7 t9))
 (some (.int .i64 (-1))) :=
 (loop_eq E _ _ _ _).trans (by kernel_rfl)
structure G_slices_IndexFunc_g168 (E : Env) : Prop where
  is : Is E 168 2 slices_IndexFunc_g168_ac [(4, none)]
theorem slices_IndexFunc_g168_E {E : Env} (h : G_slices_IndexFunc_g168 E) (a0 a1 : U) : E 168 [a0, a1] =
 (U.lenOf false a0).bind fun n1 => slices_IndexFunc_g168_l0 E a0 a1 (.int .i64 (n1 : Int)) (.int .i64 0) := (h.is _ rfl).trans ((runQ_V rfl).trans (by kernel_rfl))
end Go.Proofs.YtmdnjglkdddaeaaGreat.Am
namespace Go.Proofs.YtmdnjglkdddaeaaGreat.Am
open Go
set_option linter.unusedVariables false
set_option maxRecDepth 100000
def slices_ContainsFunc_g155_ac : AC :=
 (.seq (.region 0 [⟨some 4, .mv (.c (.bool false)), none⟩])
 (.seq (.region 0 [⟨some 5, .mv (.t 0), none⟩,
  ⟨some 6, .mv (.t 1), none⟩,
  ⟨some 7, .call false 168 [(.t 5), (.t 6)], none⟩,
  ⟨some 8, .bin .geq (.t 7) (.c (.int .i64 0)), none⟩,
  ⟨some 4, .mv (.t 8), none⟩])
 .ret))
structure G_slices_ContainsFunc_g155 (E : Env) : Prop where
  is : Is E 155 2 slices_ContainsFunc_g155_ac [(4, none)]
  c_slices_IndexFunc_g168 : G_slices_IndexFunc_g168 E
theorem slices_ContainsFunc_g155_E {E : Env} (h : G_slices_ContainsFunc_g155 E) (a0 a1 : U) : E 155 [a0, a1] =
 (E 168 [a0, a1]).bind fun t1 => (U.bin .geq t1 (.int .i64 0)).bind fun t2 => some t2 := (h.is _ rfl).trans ((runQ_V rfl).trans (by kernel_rfl))
end Go.Proofs.YtmdnjglkdddaeaaGreat.Am
namespace Go.Proofs.YtmdnjglkdddaeaaGreat.Am
open Go
set_option linter.unusedVariables false
set_option maxRecDepth 100000
def slices_IndexFunc_g172_b0 : AC :=
 (.seq (.region 0 [⟨some 9, .bin .lss (.t 8) (.t 7), none⟩])
 (.seq (.cond (.t 9) .skip (.exit 0))
 (.seq (.block 1 (.seq (.region 0 [⟨some 10, .mv (.t 8), none⟩,
  ⟨some 5, .mv (.t 10), none⟩])
 (.seq (.region 0 [⟨some 11, .mv (.t 1), none⟩,
  ⟨some 12, .mv (.t 0), none⟩,
  ⟨some 13, .mv (.t 5), none⟩,
  ⟨some 14, .iaddr 9 (.t 12) (.t 13), none⟩,
  ⟨some 15, .load true 9 (.t 14), none⟩,
  ⟨some 16, .callv false (.t 11) [(.t 15)], none⟩])
 (.cond (.t 16) (.seq (.region 0 [⟨some 17, .mv (.t 5), none⟩,
  ⟨some 4, .mv (.t 17), none⟩])
 .ret) .skip))))
 (.region 0 [⟨some 18, .bin .add (.t 8) (.c (.int .i64 1)), none⟩,
  ⟨some 8, .mv (.t 18), none⟩]))))
def slices_IndexFunc_g172_r0 : AC :=
 (.seq (.region 0 [⟨some 4, .mv (.c (.int .i64 (-1))), none⟩])
 .ret)
def slices_IndexFunc_g172_ac : AC :=
 (.seq (.region 0 [⟨some 4, .mv (.c (.int .i64 0)), none⟩])
 (.seq (.seq (.region 0 [⟨some 6, .mv (.t 0), none⟩,
  ⟨some 7, .len false (.t 6), none⟩,
  ⟨some 8, .mv (.c (.int .i64 0)), none⟩])
 (.block 0 (.loop ⟨[0, 1, 7, 8], [], []⟩ slices_IndexFunc_g172_b0)))
 slices_IndexFunc_g172_r0))
noncomputable def slices_IndexFunc_g172_l0 (E : Env) (x0 : U) (x1 : U) (x7 : U) (x8 : U) : Option U := loopK (roundOf E ⟨[0, 1, 7, 8], [], []⟩ slices_IndexFunc_g172_b0 (blockK 0 (seqK (fun s => exec E slices_IndexFunc_g172_r0 s (finish [(4, none)])) (finish [(4, none)])))) ([.val x0, .val x1, .val x7, .val x8], [])
theorem slices_IndexFunc_g172_l0_eq (E : Env) (x0 : U) (x1 : U) (x7 : U) (x8 : U) : slices_IndexFunc_g172_l0 E x0 x1 x7 x8 =
 (U.bin .lss x8 x7).bind fun t2 => U.asBool t2
 (U.asInt x8 fun n3 => U.elemAt 9 x0 n3 fun e4 => U.asVar true 9 e4 fun e5 => U.asFn x1 fun r6 caps7 => (E r6 ([e5] ++ caps7)).bind fun t8 => U.asBool t8
 (some x8)
 ((U.bin .add x8 (.int .i64 1)).bind fun t9 => slices_IndexFunc_g172_l0 E x0 x1 x7 t9))
 (some (.int .i64 (-1))) :=
 (loop_eq E _ _ _ _).trans (by kernel_rfl)
structure G_slices_IndexFunc_g172 (E : Env) : Prop where
  is : Is E 172 2 slices_IndexFunc_g172_ac [(4, none)]
theorem slices_IndexFunc_g172_E {E : Env} (h : G_slices_IndexFunc_g172 E) (a0 a1 : U) : E 172 [a0, a1] =
 (U.lenOf false a0).bind fun n1 => slices_IndexFunc_g172_l0 E a0 a1 (.int .i64 (n1 : Int)) (.int .i64 0) := (h.is _ rfl).trans ((runQ_V rfl).trans (by kernel_rfl))
end Go.Proofs.YtmdnjglkdddaeaaGreat.Am
namespace Go.Proofs.YtmdnjglkdddaeaaGreat.Am
open Go
set_option linter.unusedVariables false
set_option maxRecDepth 100000
def impl_FindTransaction_1_ac : AC :=
 (.seq (.region 0 [⟨some 2, .box false 2 (.t 0), none⟩,
  ⟨some 3, .mv (.c (.bool false)), none⟩])
 (.seq (.region 0 [⟨some 4, .faddr 0 0 (.t 2), none⟩,
  ⟨some 5, .load false 1 (.t 4), none⟩,
  ⟨some 6, .load false 1 (.t 1), none⟩,
  ⟨some 7, .bin .eql (.t 5) (.t 6), none⟩,
  ⟨some 3, .mv (.t 7), none⟩])
 .ret))
structure G_impl_FindTransaction_1 (E : Env) : Prop where
  is : Is E 171 2 impl_FindTransaction_1_ac [(3, none)]
theorem impl_FindTransaction_1_E {E : Env} (h : G_impl_FindTransaction_1 E) (a0 a1 : U) : E 171 [a0, a1] =
 U.noTup a0 fun x1 => U.asAgg x1 fun us2 => if 0 = sizes (us2.take 0) then (us2[0]?).bind fun e3 => U.asVar false 1 e3 fun e4 => U.asVp a1 fun v5 => U.asVar false 1 v5 fun e6 => (U.bin .eql e4 e6).bind fun t7 => some t7 else none := (h.is _ rfl).trans ((runQ_V rfl).trans (by kernel_rfl))
end Go.Proofs.YtmdnjglkdddaeaaGreat.Am
namespace Go.Proofs.YtmdnjglkdddaeaaGreat.Am
open Go
set_option linter.unusedVariables false
set_option maxRecDepth 100000
def impl_FindTransaction_ac : AC :=
 (.seq (.region 0 [⟨some 2, .box false 2 (.t 0), none⟩,
  ⟨some 3, .box true 3 (.t 1), none⟩,
  ⟨some 4, .mv (.c (.int .i64 0)), none⟩])
 (.seq (.region 0 [⟨some 5, .faddr 2 2 (.t 2), none⟩,
  ⟨some 6, .load false 1 (.t 5), none⟩,
  ⟨some 7, .mkfn 171 [(.t 3)], none⟩,
  ⟨some 8, .call false 172 [(.t 6), (.t 7)], none⟩,
  ⟨some 4, .mv (.t 8), none⟩])
 .ret))
structure G_impl_FindTransaction (E : Env) : Prop where
  is : Is E 170 2 impl_FindTransaction_ac [(4, none)]
  c_slices_IndexFunc_g172 : G_slices_IndexFunc_g172 E
  c_impl_FindTransaction_1 : G_impl_FindTransaction_1 E
theorem impl_FindTransaction_E {E : Env} (h : G_impl_FindTransaction E) (a0 a1 : U) : E 170 [a0, a1] =
 U.noTup a0 fun x1 => U.noTup a1 fun x2 => U.asAgg x1 fun us3 => if 2 = sizes (us3.take 2) then (us3[2]?).bind fun e4 => U.asVar false 1 e4 fun e5 => (E 172 [e5, (.fn 171 [(.vp x2)])]).bind fun t6 => U.asFlat t6 fun t7 => some t7 else none := (h.is _ rfl).trans ((runQ_V rfl).trans (by kernel_rfl))
end Go.Proofs.YtmdnjglkdddaeaaGreat.Am
namespace Go.Proofs.YtmdnjglkdddaeaaGreat.Am
open Go
set_option linter.unusedVariables false
set_option maxRecDepth 100000
def impl_Engine_isActive_ac : AC :=
 (.seq (.region 0 [⟨some 2, .box false 2 (.t 0), none⟩,
  ⟨some 4, .mv (.c (.bool false)), none⟩])
 (.seq (.region 0 [⟨some 6, .load true 6 (.t 2), none⟩,
  ⟨some 7, .mv (.t 1), none⟩,
  ⟨some 8, .call false 170 [(.t 6), (.t 7)], none⟩,
  ⟨some 5, .mv (.t 8), none⟩])
 (.seq (.region 0 [⟨some 9, .mv (.t 5), none⟩,
  ⟨some 10, .bin .geq (.t 9) (.c (.int .i64 0)), none⟩,
  ⟨some 11, .mv (.t 10), none⟩,
  ⟨some 12, .faddr 2 2 (.t 2), some (11, true)⟩,
  ⟨some 13, .load false 1 (.t 12), some (11, true)⟩,
  ⟨some 14, .mv (.t 5), some (11, true)⟩,
  ⟨some 15, .iaddr 9 (.t 13) (.t 14), some (11, true)⟩,
  ⟨some 16, .faddr 2 2 (.t 15), some (11, true)⟩,
  ⟨some 17, .load false 1 (.t 16), some (11, true)⟩,
  ⟨some 18, .bin .eql (.t 17) (.c (.int .i64 1)), some (11, true)⟩,
  ⟨some 19, .pick (.t 11) (.t 18) (.c (.bool false)), none⟩,
  ⟨some 4, .mv (.t 19), none⟩])
 .ret)))
structure G_impl_Engine_isActive (E : Env) : Prop where
  is : Is E 169 2 impl_Engine_isActive_ac [(4, none)]
  c_impl_FindTransaction : G_impl_FindTransaction E
theorem impl_Engine_isActive_E {E : Env} (h : G_impl_Engine_isActive E) (a0 a1 : U) : E 169 [a0, a1] =
 U.noTup a0 fun x1 => U.asVar true 6 x1 fun e2 => (E 170 [e2, a1]).bind fun t3 => (U.bin .geq t3 (.int .i64 0)).bind fun t4 => U.asBool t4
 (U.asAgg x1 fun us5 => if 2 = sizes (us5.take 2) then (us5[2]?).bind fun e6 => U.asVar false 1 e6 fun e7 => U.asInt t3 fun n8 => U.elemAt 9 e7 n8 fun e9 => U.fieldAt 2 2 e9 fun f10 => U.asVar false 1 f10 fun e11 => (U.bin .eql e11 (.int .i64 1)).bind fun t12 => some t12 else none)
 (some (.bool false)) := (h.is _ rfl).trans ((runQ_V rfl).trans (by kernel_rfl))
end Go.Proofs.YtmdnjglkdddaeaaGreat.Am
namespace Go.Proofs.YtmdnjglkdddaeaaGreat.Am
open Go
set_option linter.unusedVariables false
set_option maxRecDepth 100000
def impl_IsValidEngine_1_ac : AC :=
 (.seq (.region 0 [⟨some 2, .box false 2 (.t 0), none⟩,
  ⟨some 3, .mv (.c (.bool false)), none⟩])
 (.seq (.region 0 [⟨some 4, .load true 6 (.t 1), none⟩,
  ⟨some 5, .faddr 1 1 (.t 2), none⟩,
  ⟨some 6, .load false 1 (.t 5), none⟩,
  ⟨some 7, .call false 169 [(.t 4), (.t 6)], none⟩,
  ⟨some 8, .un .not (.t 7), none⟩,
  ⟨some 3, .mv (.t 8), none⟩])
 .ret))
structure G_impl_IsValidEngine_1 (E : Env) : Prop where
  is : Is E 154 2 impl_IsValidEngine_1_ac [(3, none)]
  c_impl_Engine_isActive : G_impl_Engine_isActive E
theorem impl_IsValidEngine_1_E {E : Env} (h : G_impl_IsValidEngine_1 E) (a0 a1 : U) : E 154 [a0, a1] =
 U.noTup a0 fun x1 => U.asVp a1 fun v2 => U.asVar true 6 v2 fun e3 => U.asAgg x1 fun us4 => if 1 = sizes (us4.take 1) then (us4[1]?).bind fun e5 => U.asVar false 1 e5 fun e6 => (E 169 [e3, e6]).bind fun t7 => (U.un .not t7).bind fun t8 => some t8 else none := (h.is _ rfl).trans ((runQ_V rfl).trans (by kernel_rfl))
end Go.Proofs.YtmdnjglkdddaeaaGreat.Am
namespace Go.Proofs.YtmdnjglkdddaeaaGreat.Am
open Go
set_option linter.unusedVariables false
set_option maxRecDepth 100000
def slices_IndexFunc_g173_b0 : AC :=
 (.seq (.region 0 [⟨some 9, .bin .lss (.t 8) (.t 7), none⟩])
 (.seq (.cond (.t 9) .skip (.exit 0))
 (.seq (.block 1 (.seq (.region 0 [⟨some 10, .mv (.t 8), none⟩,
  ⟨some 5, .mv (.t 10), none⟩])
 (.seq (.region 0 [⟨some 11, .mv (.t 1), none⟩,
  ⟨some 12, .mv (.t 0), none⟩,
  ⟨some 13, .mv (.t 5), none⟩,
  ⟨some 14, .iaddr 2 (.t 12) (.t 13), none⟩,
  ⟨some 15, .load true 2 (.t 14), none⟩,
  ⟨some 16, .callv false (.t 11) [(.t 15)], none⟩])
 (.cond (.t 16) (.seq (.region 0 [⟨some 17, .mv (.t 5), none⟩,
  ⟨some 4, .mv (.t 17), none⟩])
 .ret) .skip))))
 (.region 0 [⟨some 18, .bin .add (.t 8) (.c (.int .i64 1)), none⟩,
  ⟨some 8, .mv (.t 18), none⟩]))))
def slices_IndexFunc_g173_r0 : AC :=
 (.seq (.region 0 [⟨some 4, .mv (.c (.int .i64 (-1))), none⟩])
 .ret)
def slices_IndexFunc_g173_ac : AC :=
 (.seq (.region 0 [⟨some 4, .mv (.c (.int .i64 0)), none⟩])
 (.seq (.seq (.region 0 [⟨some 6, .mv (.t 0), none⟩,
  ⟨some 7, .len false (.t 6), none⟩,
  ⟨some 8, .mv (.c (.int .i64 0)), none⟩])
 (.block 0 (.loop ⟨[0, 1, 7, 8], [], []⟩ slices_IndexFunc_g173_b0)))
 slices_IndexFunc_g173_r0))
noncomputable def slices_IndexFunc_g173_l0 (E : Env) (x0 : U) (x1 : U) (x7 : U) (x8 : U) : Option U := loopK (roundOf E ⟨[0, 1, 7, 8], [], []⟩ slices_IndexFunc_g173_b0 (blockK 0 (seqK (fun s => exec E slices_IndexFunc_g173_r0 s (finish [(4, none)])) (finish [(4, none)])))) ([.val x0, .val x1, .val x7, .val x8], [])
theorem slices_IndexFunc_g173_l0_eq (E : Env) (x0 : U) (x1 : U) (x7 : U) (x8 : U) : slices_IndexFunc_g173_l0 E x0 x1 x7 x8 =
 (U.bin .lss x8 x7).bind fun t2 => U.asBool t2
 (U.asInt x8 fun n3 => U.elemAt 2 x0 n3 fun e4 => U.asVar true 2 e4 fun e5 => U.asFn x1 fun r6 caps7 => (E r6 ([e5] ++ caps7)).bind fun t8 => U.asBool t8
 (some x8)
 ((U.bin .add x8 (.int .i64 1)).bind fun t9 => slices_IndexFunc_g173_l0 E x0 x1 x7 t9))
 (some (.int .i64 (-1))) :=
 (loop_eq E _ _ _ _).trans (by kernel_rfl)
structure G_slices_IndexFunc_g173 (E : Env) : Prop where
  is : Is E 173 2 slices_IndexFunc_g173_ac [(4, none)]
theorem slices_IndexFunc_g173_E {E : Env} (h : G_slices_IndexFunc_g173 E) (a0 a1 : U) : E 173 [a0, a1] =
 (U.lenOf false a0).bind fun n1 => slices_IndexFunc_g173_l0 E a0 a1 (.int .i64 (n1 : Int)) (.int .i64 0) := (h.is _ rfl).trans ((runQ_V rfl).trans (by kernel_rfl))
end Go.Proofs.YtmdnjglkdddaeaaGreat.Am
namespace Go.Proofs.YtmdnjglkdddaeaaGreat.Am
open Go
set_option linter.unusedVariables false
set_option maxRecDepth 100000
def slices_ContainsFunc_g157_ac : AC :=
 (.seq (.region 0 [⟨some 4, .mv (.c (.bool false)), none⟩])
 (.seq (.region 0 [⟨some 5, .mv (.t 0), none⟩,
  ⟨some 6, .mv (.t 1), none⟩,
  ⟨some 7, .call false 173 [(.t 5), (.t 6)], none⟩,
  ⟨some 8, .bin .geq (.t 7) (.c (.int .i64 0)), none⟩,
  ⟨some 4, .mv (.t 8), none⟩])
 .ret))
structure G_slices_ContainsFunc_g157 (E : Env) : Prop where
  is : Is E 157 2 slices_ContainsFunc_g157_ac [(4, none)]
  c_slices_IndexFunc_g173 : G_slices_IndexFunc_g173 E
theorem slices_ContainsFunc_g157_E {E : Env} (h : G_slices_ContainsFunc_g157 E) (a0 a1 : U) : E 157 [a0, a1] =
 (E 173 [a0, a1]).bind fun t1 => (U.bin .geq t1 (.int .i64 0)).bind fun t2 => some t2 := (h.is _ rfl).trans ((runQ_V rfl).trans (by kernel_rfl))
end Go.Proofs.YtmdnjglkdddaeaaGreat.Am
namespace Go.Proofs.YtmdnjglkdddaeaaGreat.Am
open Go
set_option linter.unusedVariables false
set_option maxRecDepth 100000
def impl_IsValidEngine_2_ac : AC :=
 (.seq (.region 0 [⟨some 2, .box false 2 (.t 0), none⟩,
  ⟨some 3, .mv (.c (.bool false)), none⟩])
 (.seq (.region 0 [⟨some 4, .load true 6 (.t 1), none⟩,
  ⟨some 5, .faddr 0 0 (.t 2), none⟩,
  ⟨some 6, .load false 1 (.t 5), none⟩,
  ⟨some 7, .call false 169 [(.t 4), (.t 6)], none⟩,
  ⟨some 8, .un .not (.t 7), none⟩,
  ⟨some 9, .mv (.t 8), none⟩,
  ⟨some 10, .load true 6 (.t 1), some (9, false)⟩,
  ⟨some 11, .faddr 1 1 (.t 2), some (9, false)⟩,
  ⟨some 12, .load false 1 (.t 11), some (9, false)⟩,
  ⟨some 13, .call false 169 [(.t 10), (.t 12)], some (9, false)⟩,
  ⟨some 14, .un .not (.t 13), some (9, false)⟩,
  ⟨some 15, .pick (.t 9) (.c (.bool true)) (.t 14), none⟩,
  ⟨some 3, .mv (.t 15), none⟩])
 .ret))
structure G_impl_IsValidEngine_2 (E : Env) : Prop where
  is : Is E 156 2 impl_IsValidEngine_2_ac [(3, none)]
  c_impl_Engine_isActive : G_impl_Engine_isActive E
theorem impl_IsValidEngine_2_E {E : Env} (h : G_impl_IsValidEngine_2 E) (a0 a1 : U) : E 156 [a0, a1] =
 U.noTup a0 fun x1 => U.asVp a1 fun v2 => U.asVar true 6 v2 fun e3 => U.asAgg x1 fun us4 => if 0 = sizes (us4.take 0) then (us4[0]?).bind fun e5 => U.asVar false 1 e5 fun e6 => (E 169 [e3, e6]).bind fun t7 => (U.un .not t7).bind fun t8 => U.asBool t8
 (some (.bool true))
 (U.asVp a1 fun v9 => U.asVar true 6 v9 fun e10 => U.asAgg x1 fun us11 => if 1 = sizes (us11.take 1) then (us11[1]?).bind fun e12 => U.asVar false 1 e12 fun e13 => (E 169 [e10, e13]).bind fun t14 => (U.un .not t14).bind fun t15 => some t15 else none) else none := (h.is _ rfl).trans ((runQ_V rfl).trans (by kernel_rfl))
end Go.Proofs.YtmdnjglkdddaeaaGreat.Am
namespace Go.Proofs.YtmdnjglkdddaeaaGreat.Am
open Go
set_option linter.unusedVariables false
set_option maxRecDepth 100000
def impl_IsValidEngine_ac : AC :=
 (.seq (.region 0 [⟨some 1, .box false 1 (.t 0), none⟩,
  ⟨some 2, .mv (.c (.bool false)), none⟩])
 (.seq (.region 40 [⟨some 3, .faddr 1 1 (.t 1), none⟩,
  ⟨some 4, .load true 1 (.t 3), none⟩,
  ⟨some 5, .call false 112 [(.t 4)], none⟩,
  ⟨some 6, .mv (.t 5), none⟩,
  ⟨some 7, .faddr 3 3 (.t 1), some (6, true)⟩,
  ⟨some 8, .load false 1 (.t 7), some (6, true)⟩,
  ⟨some 9, .call false 150 [(.t 8)], some (6, true)⟩,
  ⟨some 10, .pick (.t 6) (.t 9) (.c (.bool false)), none⟩,
  ⟨some 11, .mv (.t 10), none⟩,
  ⟨some 12, .faddr 4 4 (.t 1), some (11, true)⟩,
  ⟨some 13, .load false 1 (.t 12), some (11, true)⟩,
  ⟨some 14, .call false 151 [(.t 13)], some (11, true)⟩,
  ⟨some 15, .pick (.t 11) (.t 14) (.c (.bool false)), none⟩,
  ⟨some 16, .mv (.t 15), none⟩,
  ⟨some 17, .faddr 5 5 (.t 1), some (16, true)⟩,
  ⟨some 18, .load false 1 (.t 17), some (16, true)⟩,
  ⟨some 19, .faddr 1 1 (.t 1), some (16, true)⟩,
  ⟨some 20, .load true 1 (.t 19), some (16, true)⟩,
  ⟨some 21, .call false 152 [(.t 20)], some (16, true)⟩,
  ⟨some 22, .call false 10 [(.t 18), (.t 21), (.c (.int .i64 999))], some (16, true)⟩,
  ⟨some 23, .pick (.t 16) (.t 22) (.c (.bool false)), none⟩,
  ⟨some 24, .mv (.t 23), none⟩,
  ⟨some 25, .load true 6 (.t 1), some (24, true)⟩,
  ⟨some 26, .call false 153 [(.t 25)], some (24, true)⟩,
  ⟨some 27, .pick (.t 24) (.t 26) (.c (.bool false)), none⟩,
  ⟨some 28, .mv (.t 27), none⟩,
  ⟨some 29, .faddr 3 3 (.t 1), some (28, true)⟩,
  ⟨some 30, .load false 1 (.t 29), some (28, true)⟩,
  ⟨some 31, .mkfn 154 [(.t 1)], some (28, true)⟩,
  ⟨some 32, .call false 155 [(.t 30), (.t 31)], some (28, true)⟩,
  ⟨some 33, .un .not (.t 32), some (28, true)⟩,
  ⟨some 34, .pick (.t 28) (.t 33) (.c (.bool false)), none⟩,
  ⟨some 35, .mv (.t 34), none⟩,
  ⟨some 36, .faddr 4 4 (.t 1), some (35, true)⟩,
  ⟨some 37, .load false 1 (.t 36), some (35, true)⟩,
  ⟨some 38, .mkfn 156 [(.t 1)], some (35, true)⟩,
  ⟨some 39, .call false 157 [(.t 37), (.t 38)], some (35, true)⟩,
  ⟨some 40, .un .not (.t 39), some (35, true)⟩,
  ⟨some 41, .pick (.t 35) (.t 40) (.c (.bool false)), none⟩,
  ⟨some 2, .mv (.t 41), none⟩])
 .ret))
structure G_impl_IsValidEngine (E : Env) : Prop where
  is : Is E 148 1 impl_IsValidEngine_ac [(2, none)]
  c_impl_IsValidStore : G_impl_IsValidStore E
  c_impl_AreLocks : G_impl_AreLocks E
  c_impl_AreWaits : G_impl_AreWaits E
  c_impl_in : G_impl_in E
  c_impl_Store_lastStamp : G_impl_Store_lastStamp E
  c_impl_Engine_areTransactions : G_impl_Engine_areTransactions E
  c_slices_ContainsFunc_g155 : G_slices_ContainsFunc_g155 E
  c_impl_IsValidEngine_1 : G_impl_IsValidEngine_1 E
  c_slices_ContainsFunc_g157 : G_slices_ContainsFunc_g157 E
  c_impl_IsValidEngine_2 : G_impl_IsValidEngine_2 E
theorem impl_IsValidEngine_E {E : Env} (h : G_impl_IsValidEngine E) (a0 : U) : E 148 [a0] =
 U.noTup a0 fun x1 => U.asAgg x1 fun us2 => if 1 = sizes (us2.take 1) then (us2[1]?).bind fun e3 => U.asVar true 1 e3 fun e4 => (E 112 [e4]).bind fun t5 => U.asBool t5
 (U.asAgg x1 fun us6 => if 3 = sizes (us6.take 3) then (us6[3]?).bind fun e7 => U.asVar false 1 e7 fun e8 => (E 150 [e8]).bind fun t9 => U.asBool t9
 (U.asAgg x1 fun us10 => if 4 = sizes (us10.take 4) then (us10[4]?).bind fun e11 => U.asVar false 1 e11 fun e12 => (E 151 [e12]).bind fun t13 => U.asBool t13
 (U.asAgg x1 fun us14 => if 5 = sizes (us14.take 5) then (us14[5]?).bind fun e15 => U.asVar false 1 e15 fun e16 => U.asAgg x1 fun us17 => if 1 = sizes (us17.take 1) then (us17[1]?).bind fun e18 => U.asVar true 1 e18 fun e19 => (E 152 [e19]).bind fun t20 => (E 10 [e16, t20, (.int .i64 999)]).bind fun t21 => U.asBool t21
 (U.asVar true 6 x1 fun e22 => (E 153 [e22]).bind fun t23 => U.asBool t23
 (U.asAgg x1 fun us24 => if 3 = sizes (us24.take 3) then (us24[3]?).bind fun e25 => U.asVar false 1 e25 fun e26 => (E 155 [e26, (.fn 154 [(.vp x1)])]).bind fun t27 => U.asFlat t27 fun t28 => (U.un .not t28).bind fun t29 => U.asBool t29
 (U.asAgg x1 fun us30 => if 4 = sizes (us30.take 4) then (us30[4]?).bind fun e31 => U.asVar false 1 e31 fun e32 => (E 157 [e32, (.fn 156 [(.vp x1)])]).bind fun t33 => U.asFlat t33 fun t34 => (U.un .not t34).bind fun t35 => some t35 else none)
 (some (.bool false)) else none)
 (some (.bool false)))
 (some (.bool false)) else none else none)
 (some (.bool false)) else none)
 (some (.bool false)) else none)
 (some (.bool false)) else none := (h.is _ rfl).trans ((runQ_V rfl).trans (by kernel_rfl))
end Go.Proofs.YtmdnjglkdddaeaaGreat.Am
namespace Go.Proofs.YtmdnjglkdddaeaaGreat.Am
open Go
set_option linter.unusedVariables false
set_option maxRecDepth 100000
def impl_versionAt_b0 : AC :=
 (.seq (.seq (.region 0 [⟨some 9, .mv (.t 5), none⟩,
  ⟨some 10, .bin .geq (.t 9) (.c (.int .i64 0)), none⟩,
  ⟨some 11, .mv (.t 10), none⟩,
  ⟨some 12, .mv (.t 0), some (11, true)⟩,
  ⟨some 13, .mv (.t 5), some (11, true)⟩,
  ⟨some 14, .iaddr 5 (.t 12) (.t 13), some (11, true)⟩,
  ⟨some 15, .faddr 2 2 (.t 14), some (11, true)⟩,
  ⟨some 16, .load false 1 (.t 15), some (11, true)⟩,
  ⟨some 17, .mv (.t 1), some (11, true)⟩,
  ⟨some 18, .bin .gtr (.t 16) (.t 17), some (11, true)⟩,
  ⟨some 19, .pick (.t 11) (.t 18) (.c (.bool false)), none⟩])
 (.cond (.t 19) .skip (.exit 0)))
 (.block 1 (.region 0 [⟨some 20, .mv (.t 5), none⟩,
  ⟨some 21, .bin .sub (.t 20) (.c (.int .i64 1)), none⟩,
  ⟨some 5, .mv (.t 21), none⟩])))
def impl_versionAt_r0 : AC :=
 (.seq (.region 0 [⟨some 22, .mv (.t 5), none⟩,
  ⟨some 4, .mv (.t 22), none⟩])
 .ret)
def impl_versionAt_ac : AC :=
 (.seq (.region 0 [⟨some 4, .mv (.c (.int .i64 0)), none⟩])
 (.seq (.region 0 [⟨some 6, .mv (.t 0), none⟩,
  ⟨some 7, .len false (.t 6), none⟩,
  ⟨some 8, .bin .sub (.t 7) (.c (.int .i64 1)), none⟩,
  ⟨some 5, .mv (.t 8), none⟩])
 (.seq (.block 0 (.loop ⟨[0, 1, 5], [], []⟩ impl_versionAt_b0))
 impl_versionAt_r0)))
noncomputable def impl_versionAt_l0 (E : Env) (x0 : U) (x1 : U) (x5 : U) : Option U := loopK (roundOf E ⟨[0, 1, 5], [], []⟩ impl_versionAt_b0 (blockK 0 (seqK (fun s => exec E impl_versionAt_r0 s (finish [(4, none)])) (finish [(4, none)])))) ([.val x0, .val x1, .val x5], [])
theorem impl_versionAt_l0_eq (E : Env) (x0 : U) (x1 : U) (x5 : U) : impl_versionAt_l0 E x0 x1 x5 =
 (U.bin .geq x5 (.int .i64 0)).bind fun t3 => U.asBool t3
 (U.asInt x5 fun n4 => U.elemAt 5 x0 n4 fun e5 => U.fieldAt 2 2 e5 fun f6 => U.asVar false 1 f6 fun e7 => (U.bin .gtr e7 x1).bind fun t8 => U.asBool t8
 ((U.bin .sub x5 (.int .i64 1)).bind fun t9 => impl_versionAt_l0 E x0 x1 t9)
 (some x5))
 (some x5) :=
 (loop_eq E _ _ _ _).trans (by kernel_rfl)
structure G_impl_versionAt (E : Env) : Prop where
  is : Is E 111 2 impl_versionAt_ac [(4, none)]
theorem impl_versionAt_E {E : Env} (h : G_impl_versionAt E) (a0 a1 : U) : E 111 [a0, a1] =
 (U.lenOf false a0).bind fun n1 => (U.bin .sub (.int .i64 (n1 : Int)) (.int .i64 1)).bind fun t2 => impl_versionAt_l0 E a0 a1 t2 := (h.is _ rfl).trans ((runQ_V rfl).trans (by kernel_rfl))
end Go.Proofs.YtmdnjglkdddaeaaGreat.Am
namespace Go.Proofs.YtmdnjglkdddaeaaGreat.Am
open Go
set_option linter.unusedVariables false
set_option maxRecDepth 100000
def impl_ReadAt_ac : AC :=
 (.seq (.region 0 [⟨some 3, .box false 3 (.t 0), none⟩,
  ⟨some 6, .alloc 6 (.agg [(.int .i64 0), (.int .i64 0), (.int .i64 0), (.int .i64 0), (.int .i64 0)]), none⟩,
  ⟨some 7, .mv (.c (.bool false)), none⟩])
 (.seq (.seq (.region 0 [⟨some 9, .load true 1 (.t 3), none⟩,
  ⟨some 10, .call false 112 [(.t 9)], none⟩,
  ⟨some 11, .un .not (.t 10), none⟩,
  ⟨some 12, .mv (.t 11), none⟩,
  ⟨some 13, .mv (.t 1), some (12, false)⟩,
  ⟨some 14, .call false 11 [(.t 13)], some (12, false)⟩,
  ⟨some 15, .un .not (.t 14), some (12, false)⟩,
  ⟨some 16, .pick (.t 12) (.c (.bool true)) (.t 15), none⟩])
 (.cond (.t 16) (.seq (.region 0 [⟨some 17, .build [(.int .i64 0), (.int .i64 0), (.int .i64 0), (.int .i64 0), (.int .i64 0)] [], none⟩,
  ⟨none, .store 5 (.t 6) (.t 17), none⟩,
  ⟨some 7, .mv (.c (.bool false)), none⟩])
 .ret) .skip))
 (.seq (.region 0 [⟨some 18, .faddr 0 0 (.t 3), none⟩,
  ⟨some 19, .load false 1 (.t 18), none⟩,
  ⟨some 20, .mv (.t 1), none⟩,
  ⟨some 21, .iaddr 1 (.t 19) (.t 20), none⟩,
  ⟨some 22, .load false 1 (.t 21), none⟩,
  ⟨some 23, .mv (.t 2), none⟩,
  ⟨some 24, .call false 111 [(.t 22), (.t 23)], none⟩,
  ⟨some 8, .mv (.t 24), none⟩])
 (.seq (.seq (.region 0 [⟨some 25, .mv (.t 8), none⟩,
  ⟨some 26, .bin .lss (.t 25) (.c (.int .i64 0)), none⟩])
 (.cond (.t 26) (.seq (.region 0 [⟨some 27, .build [(.int .i64 0), (.int .i64 0), (.int .i64 0), (.int .i64 0), (.int .i64 0)] [], none⟩,
  ⟨none, .store 5 (.t 6) (.t 27), none⟩,
  ⟨some 7, .mv (.c (.bool false)), none⟩])
 .ret) .skip))
 (.seq (.region 0 [⟨some 28, .faddr 0 0 (.t 3), none⟩,
  ⟨some 29, .load false 1 (.t 28), none⟩,
  ⟨some 30, .mv (.t 1), none⟩,
  ⟨some 31, .iaddr 1 (.t 29) (.t 30), none⟩,
  ⟨some 32, .load false 1 (.t 31), none⟩,
  ⟨some 33, .mv (.t 8), none⟩,
  ⟨some 34, .iaddr 5 (.t 32) (.t 33), none⟩,
  ⟨some 35, .load true 5 (.t 34), none⟩,
  ⟨none, .store 5 (.t 6) (.t 35), none⟩,
  ⟨some 7, .mv (.c (.bool true)), none⟩])
 .ret)))))
structure G_impl_ReadAt (E : Env) : Prop where
  is : Is E 110 3 impl_ReadAt_ac [(6, some (true, 5)), (7, none)]
  c_impl_IsValidStore : G_impl_IsValidStore E
  c_impl_isKey : G_impl_isKey E
  c_impl_versionAt : G_impl_versionAt E
theorem impl_ReadAt_E {E : Env} (h : G_impl_ReadAt E) (a0 a1 a2 : U) : E 110 [a0, a1, a2] =
 U.noTup a0 fun x1 => U.asVar true 1 x1 fun e2 => (E 112 [e2]).bind fun t3 => (U.un .not t3).bind fun t4 => U.asBool t4
 (some (.tup [(.agg [(.int .i64 0), (.int .i64 0), (.int .i64 0), (.int .i64 0), (.int .i64 0)]), (.bool false)]))
 ((E 11 [a1]).bind fun t5 => (U.un .not t5).bind fun t6 => U.asBool t6
 (some (.tup [(.agg [(.int .i64 0), (.int .i64 0), (.int .i64 0), (.int .i64 0), (.int .i64 0)]), (.bool false)]))
 (U.asAgg x1 fun us7 => if 0 = sizes (us7.take 0) then (us7[0]?).bind fun e8 => U.asVar false 1 e8 fun e9 => U.asInt a1 fun n10 => U.elemAt 1 e9 n10 fun e11 => U.asVar false 1 e11 fun e12 => (E 111 [e12, a2]).bind fun t13 => (U.bin .lss t13 (.int .i64 0)).bind fun t14 => U.asBool t14
 (some (.tup [(.agg [(.int .i64 0), (.int .i64 0), (.int .i64 0), (.int .i64 0), (.int .i64 0)]), (.bool false)]))
 (U.asAgg x1 fun us15 => if 0 = sizes (us15.take 0) then (us15[0]?).bind fun e16 => U.asVar false 1 e16 fun e17 => U.asInt a1 fun n18 => U.elemAt 1 e17 n18 fun e19 => U.asVar false 1 e19 fun e20 => U.asInt t13 fun n21 => U.elemAt 5 e20 n21 fun e22 => U.asVar true 5 e22 fun e23 => if storable (.val e23) = true ∧ e23.size = 5 then U.asVar true 5 e23 fun e24 => U.noTup e24 fun x25 => some (.tup [x25, (.bool true)]) else none else none) else none)) := (h.is _ rfl).trans ((runQ_V rfl).trans (by kernel_rfl))
end Go.Proofs.YtmdnjglkdddaeaaGreat.Am
namespace Go.Proofs.YtmdnjglkdddaeaaGreat.Am
open Go
set_option linter.unusedVariables false
set_option maxRecDepth 100000
def impl_Store_refreshHigh_b0 : AC :=
 (.seq (.region 0 [⟨some 12, .bin .lss (.t 11) (.t 10), none⟩])
 (.seq (.cond (.t 12) .skip (.exit 0))
 (.seq (.block 1 (.seq (.region 0 [⟨some 13, .iaddr 2 (.t 9) (.t 11), none⟩,
  ⟨some 14, .load true 2 (.t 13), none⟩,
  ⟨some 7, .alloc 7 (.agg [(.int .i64 0), (.int .i64 0)]), none⟩,
  ⟨none, .store 2 (.t 7) (.t 14), none⟩])
 (.region 0 [⟨some 15, .mv (.t 5), none⟩,
  ⟨some 16, .load true 1 (.t 2), none⟩,
  ⟨some 17, .load true 2 (.t 7), none⟩,
  ⟨some 18, .call false 164 [(.t 16), (.t 17)], none⟩,
  ⟨some 19, .nilck (.t 18), none⟩,
  ⟨some 20, .faddr 4 4 (.t 19), none⟩,
  ⟨some 21, .load false 1 (.t 20), none⟩,
  ⟨some 22, .minmax false [(.t 15), (.t 21)], none⟩,
  ⟨some 5, .mv (.t 22), none⟩])))
 (.region 0 [⟨some 23, .bin .add (.t 11) (.c (.int .i64 1)), none⟩,
  ⟨some 11, .mv (.t 23), none⟩]))))
def impl_Store_refreshHigh_r0 : AC :=
 (.seq (.region 0 [⟨some 24, .mv (.t 5), none⟩,
  ⟨some 4, .mv (.t 24), none⟩])
 .ret)
def impl_Store_refreshHigh_ac : AC :=
 (.seq (.region 0 [⟨some 2, .box false 2 (.t 0), none⟩,
  ⟨some 3, .box false 3 (.t 1), none⟩,
  ⟨some 4, .mv (.c (.int .i64 0)), none⟩])
 (.seq (.region 0 [⟨some 5, .mv (.c (.int .i64 1000)), none⟩])
 (.seq (.seq (.region 0 [⟨some 8, .faddr 7 7 (.t 3), none⟩,
  ⟨some 9, .load false 1 (.t 8), none⟩,
  ⟨some 10, .len false (.t 9), none⟩,
  ⟨some 11, .mv (.c (.int .i64 0)), none⟩])
 (.block 0 (.loop ⟨[2, 5, 9, 10, 11], [], [(2, false)]⟩ impl_Store_refreshHigh_b0)))
 impl_Store_refreshHigh_r0)))
noncomputable def impl_Store_refreshHigh_l0 (E : Env) (x5 : U) (x9 : U) (x10 : U) (x11 : U) (b2 : U) : Option U := loopK (roundOf E ⟨[2, 5, 9, 10, 11], [], [(2, false)]⟩ impl_Store_refreshHigh_b0 (blockK 0 (seqK (fun s => exec E impl_Store_refreshHigh_r0 s (finish [(4, none)])) (finish [(4, none)])))) ([.ptr 2 [], .val x5, .val x9, .val x10, .val x11], [.box (.val b2)])
theorem impl_Store_refreshHigh_l0_eq (E : Env) (x5 : U) (x9 : U) (x10 : U) (x11 : U) (b2 : U) : impl_Store_refreshHigh_l0 E x5 x9 x10 x11 b2 =
 (U.bin .lss x11 x10).bind fun t7 => U.asBool t7
 (U.asInt x11 fun n8 => U.elemAt 2 x9 n8 fun e9 => U.asVar true 2 e9 fun e10 => if storable (.val e10) = true ∧ e10.size = 2 then U.asVar true 1 b2 fun e11 => U.asVar true 2 e10 fun e12 => (E 164 [e11, e12]).bind fun t13 => U.asVp t13 fun v14 => U.fieldAt 4 4 v14 fun f15 => U.asVar false 1 f15 fun e16 => U.asInt x5 fun n17 => U.asInt e16 fun n18 => (U.bin .add x11 (.int .i64 1)).bind fun t19 => impl_Store_refreshHigh_l0 E (.int .i64 (([n18] : List Int).foldl (fun a b => if false then (if a < b then b else a) else (if b < a then b else a)) n17)) x9 x10 t19 b2 else none)
 (some x5) :=
 (loop_eq E _ _ _ _).trans (by kernel_rfl)
structure G_impl_Store_refreshHigh (E : Env) : Prop where
  is : Is E 186 2 impl_Store_refreshHigh_ac [(4, none)]
  c_impl_Store_find : G_impl_Store_find E
theorem impl_Store_refreshHigh_E {E : Env} (h : G_impl_Store_refreshHigh E) (a0 a1 : U) : E 186 [a0, a1] =
 U.noTup a0 fun x1 => U.noTup a1 fun x2 => U.asAgg x2 fun us3 => if 7 = sizes (us3.take 7) then (us3[7]?).bind fun e4 => U.asVar false 1 e4 fun e5 => (U.lenOf false e5).bind fun n6 => impl_Store_refreshHigh_l0 E (.int .i64 1000) e5 (.int .i64 (n6 : Int)) (.int .i64 0) x1 else none := (h.is _ rfl).trans ((runQ_V rfl).trans (by kernel_rfl))
end Go.Proofs.YtmdnjglkdddaeaaGreat.Am
namespace Go.Proofs.YtmdnjglkdddaeaaGreat.Am
open Go
set_option linter.unusedVariables false
set_option maxRecDepth 100000
def impl_Engine_unsafe_ac : AC :=
 (.seq (.region 0 [⟨some 3, .box false 3 (.t 0), none⟩,
  ⟨some 4, .box false 4 (.t 1), none⟩,
  ⟨some 6, .mv (.c (.bool false)), none⟩])
 (.seq (.seq (.region 0 [⟨some 7, .faddr 2 2 (.t 4), none⟩,
  ⟨some 8, .load false 1 (.t 7), none⟩])
 (.block 0 (.seq (.region 0 [⟨some 10, .bin .eql (.t 8) (.c (.int .i64 2)), none⟩,
  ⟨some 9, .mv (.t 10), none⟩])
 (.cond (.t 9) (.seq (.region 0 [⟨some 11, .faddr 6 6 (.t 4), none⟩,
  ⟨some 12, .load false 1 (.t 11), none⟩,
  ⟨some 13, .mv (.t 2), none⟩,
  ⟨some 14, .bin .gtr (.t 12) (.t 13), none⟩,
  ⟨some 15, .mv (.t 14), none⟩,
  ⟨some 16, .faddr 5 5 (.t 4), some (15, true)⟩,
  ⟨some 17, .load false 1 (.t 16), some (15, true)⟩,
  ⟨some 18, .mv (.t 2), some (15, true)⟩,
  ⟨some 19, .bin .leq (.t 17) (.t 18), some (15, true)⟩,
  ⟨some 20, .pick (.t 15) (.t 19) (.c (.bool false)), none⟩,
  ⟨some 6, .mv (.t 20), none⟩])
 .ret) (.seq (.region 0 [⟨some 22, .bin .eql (.t 8) (.c (.int .i64 1)), none⟩,
  ⟨some 21, .mv (.t 22), none⟩])
 (.cond (.t 21) (.seq (.region 0 [⟨some 23, .faddr 1 1 (.t 3), none⟩,
  ⟨some 24, .load true 1 (.t 23), none⟩,
  ⟨some 25, .load true 9 (.t 4), none⟩,
  ⟨some 26, .call false 186 [(.t 24), (.t 25)], none⟩,
  ⟨some 27, .mv (.t 2), none⟩,
  ⟨some 28, .bin .leq (.t 26) (.t 27), none⟩,
  ⟨some 29, .mv (.t 28), none⟩,
  ⟨some 30, .faddr 1 1 (.t 4), some (29, false)⟩,
  ⟨some 31, .load false 1 (.t 30), some (29, false)⟩,
  ⟨some 32, .bin .eql (.t 31) (.c (.int .i64 2)), some (29, false)⟩,
  ⟨some 33, .mv (.t 32), some (29, false)⟩,
  ⟨some 34, .faddr 3 3 (.t 4), some (33, true)⟩,
  ⟨some 35, .load false 1 (.t 34), some (33, true)⟩,
  ⟨some 36, .mv (.t 2), some (33, true)⟩,
  ⟨some 37, .bin .lss (.t 35) (.t 36), some (33, true)⟩,
  ⟨some 38, .pick (.t 33) (.t 37) (.c (.bool false)), some (29, false)⟩,
  ⟨some 39, .pick (.t 29) (.c (.bool true)) (.t 38), none⟩,
  ⟨some 6, .mv (.t 39), none⟩])
 .ret) .skip))))))
 (.seq (.region 0 [⟨some 6, .mv (.c (.bool false)), none⟩])
 .ret)))
structure G_impl_Engine_unsafe (E : Env) : Prop where
  is : Is E 185 3 impl_Engine_unsafe_ac [(6, none)]
  c_impl_Store_refreshHigh : G_impl_Store_refreshHigh E
theorem impl_Engine_unsafe_E {E : Env} (h : G_impl_Engine_unsafe E) (a0 a1 a2 : U) : E 185 [a0, a1, a2] =
 U.noTup a0 fun x1 => U.noTup a1 fun x2 => U.asAgg x2 fun us3 => if 2 = sizes (us3.take 2) then (us3[2]?).bind fun e4 => U.asVar false 1 e4 fun e5 => (U.bin .eql e5 (.int .i64 2)).bind fun t6 => U.asBool t6
 (U.asAgg x2 fun us7 => if 6 = sizes (us7.take 6) then (us7[6]?).bind fun e8 => U.asVar false 1 e8 fun e9 => (U.bin .gtr e9 a2).bind fun t10 => U.asBool t10
 (U.asAgg x2 fun us11 => if 5 = sizes (us11.take 5) then (us11[5]?).bind fun e12 => U.asVar false 1 e12 fun e13 => (U.bin .leq e13 a2).bind fun t14 => some t14 else none)
 (some (.bool false)) else none)
 ((U.bin .eql e5 (.int .i64 1)).bind fun t15 => U.asBool t15
 (U.asAgg x1 fun us16 => if 1 = sizes (us16.take 1) then (us16[1]?).bind fun e17 => U.asVar true 1 e17 fun e18 => U.asVar true 9 x2 fun e19 => (E 186 [e18, e19]).bind fun t20 => (U.bin .leq t20 a2).bind fun t21 => U.asBool t21
 (some (.bool true))
 (U.asAgg x2 fun us22 => if 1 = sizes (us22.take 1) then (us22[1]?).bind fun e23 => U.asVar false 1 e23 fun e24 => (U.bin .eql e24 (.int .i64 2)).bind fun t25 => U.asBool t25
 (U.asAgg x2 fun us26 => if 3 = sizes (us26.take 3) then (us26[3]?).bind fun e27 => U.asVar false 1 e27 fun e28 => (U.bin .lss e28 a2).bind fun t29 => some t29 else none)
 (some (.bool false)) else none) else none)
 (some (.bool false))) else none := (h.is _ rfl).trans ((runQ_V rfl).trans (by kernel_rfl))
end Go.Proofs.YtmdnjglkdddaeaaGreat.Am
namespace Go.Proofs.YtmdnjglkdddaeaaGreat.Am
open Go
set_option linter.unusedVariables false
set_option maxRecDepth 100000
def impl_Engine_because_b0 : AC :=
 (.seq (.region 0 [⟨some 11, .bin .lss (.t 10) (.t 9), none⟩])
 (.seq (.cond (.t 11) .skip (.exit 0))
 (.seq (.block 1 (.seq (.region 0 [⟨some 12, .iaddr 9 (.t 8) (.t 10), none⟩,
  ⟨some 13, .load true 9 (.t 12), none⟩,
  ⟨some 6, .alloc 6 (.agg [(.int .i64 0), (.int .i64 0), (.int .i64 0), (.int .i64 0), (.int .i64 0), (.int .i64 0), (.int .i64 0), (.nsl 2), (.nsl 2)]), none⟩,
  ⟨none, .store 9 (.t 6) (.t 13), none⟩])
 (.seq (.region 0 [⟨some 14, .load true 6 (.t 2), none⟩,
  ⟨some 15, .load true 9 (.t 6), none⟩,
  ⟨some 16, .mv (.t 1), none⟩,
  ⟨some 17, .call false 185 [(.t 14), (.t 15), (.t 16)], none⟩])
 (.cond (.t 17) (.seq (.region 0 [⟨some 18, .faddr 0 0 (.t 6), none⟩,
  ⟨some 19, .load false 1 (.t 18), none⟩,
  ⟨some 4, .mv (.t 19), none⟩])
 .ret) .skip))))
 (.region 0 [⟨some 20, .bin .add (.t 10) (.c (.int .i64 1)), none⟩,
  ⟨some 10, .mv (.t 20), none⟩]))))
def impl_Engine_because_r0 : AC :=
 (.seq (.region 0 [⟨some 4, .mv (.c (.int .i64 0)), none⟩])
 .ret)
def impl_Engine_because_ac : AC :=
 (.seq (.region 0 [⟨some 2, .box false 2 (.t 0), none⟩,
  ⟨some 4, .mv (.c (.int .i64 0)), none⟩])
 (.seq (.seq (.region 0 [⟨some 7, .faddr 2 2 (.t 2), none⟩,
  ⟨some 8, .load false 1 (.t 7), none⟩,
  ⟨some 9, .len false (.t 8), none⟩,
  ⟨some 10, .mv (.c (.int .i64 0)), none⟩])
 (.block 0 (.loop ⟨[1, 2, 8, 9, 10], [], [(2, false)]⟩ impl_Engine_because_b0)))
 impl_Engine_because_r0))
noncomputable def impl_Engine_because_l0 (E : Env) (x1 : U) (x8 : U) (x9 : U) (x10 : U) (b2 : U) : Option U := loopK (roundOf E ⟨[1, 2, 8, 9, 10], [], [(2, false)]⟩ impl_Engine_because_b0 (blockK 0 (seqK (fun s => exec E impl_Engine_because_r0 s (finish [(4, none)])) (finish [(4, none)])))) ([.val x1, .ptr 2 [], .val x8, .val x9, .val x10], [.box (.val b2)])
theorem impl_Engine_because_l0_eq (E : Env) (x1 : U) (x8 : U) (x9 : U) (x10 : U) (b2 : U) : impl_Engine_because_l0 E x1 x8 x9 x10 b2 =
 (U.bin .lss x10 x9).bind fun t6 => U.asBool t6
 (U.asInt x10 fun n7 => U.elemAt 9 x8 n7 fun e8 => U.asVar true 9 e8 fun e9 => if storable (.val e9) = true ∧ e9.size = 9 then U.asVar true 6 b2 fun e10 => U.asVar true 9 e9 fun e11 => (E 185 [e10, e11, x1]).bind fun t12 => U.asBool t12
 (U.asAgg e9 fun us13 => if 0 = sizes (us13.take 0) then (us13[0]?).bind fun e14 => U.asVar false 1 e14 fun e15 => some e15 else none)
 ((U.bin .add x10 (.int .i64 1)).bind fun t16 => impl_Engine_because_l0 E x1 x8 x9 t16 b2) else none)
 (some (.int .i64 0)) :=
 (loop_eq E _ _ _ _).trans (by kernel_rfl)
structure G_impl_Engine_because (E : Env) : Prop where
  is : Is E 184 2 impl_Engine_because_ac [(4, none)]
  c_impl_Engine_unsafe : G_impl_Engine_unsafe E
theorem impl_Engine_because_E {E : Env} (h : G_impl_Engine_because E) (a0 a1 : U) : E 184 [a0, a1] =
 U.noTup a0 fun x1 => U.asAgg x1 fun us2 => if 2 = sizes (us2.take 2) then (us2[2]?).bind fun e3 => U.asVar false 1 e3 fun e4 => (U.lenOf false e4).bind fun n5 => impl_Engine_because_l0 E a1 e4 (.int .i64 (n5 : Int)) (.int .i64 0) x1 else none := (h.is _ rfl).trans ((runQ_V rfl).trans (by kernel_rfl))
end Go.Proofs.YtmdnjglkdddaeaaGreat.Am
namespace Go.Proofs.YtmdnjglkdddaeaaGreat.Am
open Go
set_option linter.unusedVariables false
set_option maxRecDepth 100000
def impl_Engine_safe_b0 : AC :=
 (.seq (.seq (.region 0 [⟨some 6, .mv (.t 3), none⟩,
  ⟨some 7, .bin .gtr (.t 6) (.c (.int .i64 0)), none⟩])
 (.cond (.t 7) .skip (.exit 0)))
 (.seq (.block 1 (.seq (.region 0 [⟨some 10, .load true 6 (.t 1), none⟩,
  ⟨some 11, .mv (.t 3), none⟩,
  ⟨some 12, .call false 184 [(.t 10), (.t 11)], none⟩,
  ⟨some 13, .bin .eql (.t 12) (.c (.int .i64 0)), none⟩])
 (.cond (.t 13) (.seq (.region 0 [⟨some 14, .mv (.t 3), none⟩,
  ⟨some 2, .mv (.t 14), none⟩])
 .ret) .skip)))
 (.region 0 [⟨some 8, .mv (.t 3), none⟩,
  ⟨some 9, .bin .sub (.t 8) (.c (.int .i64 1)), none⟩,
  ⟨some 3, .mv (.t 9), none⟩])))
def impl_Engine_safe_r0 : AC :=
 (.seq (.region 0 [⟨some 2, .mv (.c (.int .i64 0)), none⟩])
 .ret)
def impl_Engine_safe_ac : AC :=
 (.seq (.region 0 [⟨some 1, .box false 1 (.t 0), none⟩,
  ⟨some 2, .mv (.c (.int .i64 0)), none⟩])
 (.seq (.seq (.region 0 [⟨some 4, .faddr 5 5 (.t 1), none⟩,
  ⟨some 5, .load false 1 (.t 4), none⟩,
  ⟨some 3, .mv (.t 5), none⟩])
 (.block 0 (.loop ⟨[1, 3], [], [(1, false)]⟩ impl_Engine_safe_b0)))
 impl_Engine_safe_r0))
noncomputable def impl_Engine_safe_l0 (E : Env) (x3 : U) (b1 : U) : Option U := loopK (roundOf E ⟨[1, 3], [], [(1, false)]⟩ impl_Engine_safe_b0 (blockK 0 (seqK (fun s => exec E impl_Engine_safe_r0 s (finish [(2, none)])) (finish [(2, none)])))) ([.ptr 1 [], .val x3], [.box (.val b1)])
theorem impl_Engine_safe_l0_eq (E : Env) (x3 : U) (b1 : U) : impl_Engine_safe_l0 E x3 b1 =
 (U.bin .gtr x3 (.int .i64 0)).bind fun t5 => U.asBool t5
 (U.asVar true 6 b1 fun e6 => (E 184 [e6, x3]).bind fun t7 => (U.bin .eql t7 (.int .i64 0)).bind fun t8 => U.asBool t8
 (some x3)
 ((U.bin .sub x3 (.int .i64 1)).bind fun t9 => impl_Engine_safe_l0 E t9 b1))
 (some (.int .i64 0)) :=
 (loop_eq E _ _ _ _).trans (by kernel_rfl)
structure G_impl_Engine_safe (E : Env) : Prop where
  is : Is E 193 1 impl_Engine_safe_ac [(2, none)]
  c_impl_Engine_because : G_impl_Engine_because E
theorem impl_Engine_safe_E {E : Env} (h : G_impl_Engine_safe E) (a0 : U) : E 193 [a0] =
 U.noTup a0 fun x1 => U.asAgg x1 fun us2 => if 5 = sizes (us2.take 5) then (us2[5]?).bind fun e3 => U.asVar false 1 e3 fun e4 => impl_Engine_safe_l0 E e4 x1 else none := (h.is _ rfl).trans ((runQ_V rfl).trans (by kernel_rfl))
end Go.Proofs.YtmdnjglkdddaeaaGreat.Am
namespace Go.Proofs.YtmdnjglkdddaeaaGreat.Am
open Go
set_option linter.unusedVariables false
set_option maxRecDepth 100000
def impl_ReadSafe_ac : AC :=
 (.seq (.region 0 [⟨some 2, .box false 2 (.t 0), none⟩,
  ⟨some 4, .mv (.c (.int .i64 0)), none⟩,
  ⟨some 5, .mv (.c (.bool false)), none⟩])
 (.seq (.seq (.region 0 [⟨some 8, .load true 6 (.t 2), none⟩,
  ⟨some 9, .call false 148 [(.t 8)], none⟩,
  ⟨some 10, .un .not (.t 9), none⟩])
 (.cond (.t 10) (.seq (.region 0 [⟨some 4, .mv (.c (.int .i64 0)), none⟩,
  ⟨some 5, .mv (.c (.bool false)), none⟩])
 .ret) .skip))
 (.seq (.regN 11 [6] [(0, 6), (1, 6), (2, 6), (3, 6), (4, 6), (5, 6), (6, 6), (7, 6), (8, 6)] [(.t 12), (.t 2)] [⟨some 12, .faddr 1 1 (.t 2), none⟩,
  ⟨some 13, .load true 1 (.t 12), none⟩,
  ⟨some 14, .mv (.t 1), none⟩,
  ⟨some 15, .load true 6 (.t 2), none⟩,
  ⟨some 16, .call false 193 [(.t 15)], none⟩,
  ⟨some 17, .call false 110 [(.t 13), (.t 14), (.t 16)], none⟩,
  ⟨some 11, .mv (.t 17), none⟩,
  ⟨some 18, .extract 0 (.t 11), none⟩,
  ⟨some 19, .extract 1 (.t 11), none⟩,
  ⟨some 6, .alloc 6 (.agg [(.int .i64 0), (.int .i64 0), (.int .i64 0), (.int .i64 0), (.int .i64 0)]), none⟩,
  ⟨none, .storeN 6 5 (.t 6) (.t 18), none⟩,
  ⟨some 7, .mv (.t 19), none⟩])
 (.seq (.region 0 [⟨some 20, .faddr 1 1 (.t 6), none⟩,
  ⟨some 21, .load false 1 (.t 20), none⟩,
  ⟨some 22, .mv (.t 7), none⟩,
  ⟨some 4, .mv (.t 21), none⟩,
  ⟨some 5, .mv (.t 22), none⟩])
 .ret))))
structure G_impl_ReadSafe (E : Env) : Prop where
  is : Is E 202 2 impl_ReadSafe_ac [(4, none), (5, none)]
  c_impl_IsValidEngine : G_impl_IsValidEngine E
  c_impl_ReadAt : G_impl_ReadAt E
  c_impl_Engine_safe : G_impl_Engine_safe E
theorem impl_ReadSafe_E {E : Env} (h : G_impl_ReadSafe E) (a0 a1 : U) : E 202 [a0, a1] =
 U.noTup a0 fun x1 => U.asVar true 6 x1 fun e2 => (E 148 [e2]).bind fun t3 => (U.un .not t3).bind fun t4 => U.asBool t4
 (some (.tup [(.int .i64 0), (.bool false)]))
 (U.asAgg x1 fun us5 => if 1 = sizes (us5.take 1) then (us5[1]?).bind fun e6 => U.asVar true 1 e6 fun e7 => U.asVar true 6 x1 fun e8 => (E 193 [e8]).bind fun t9 => (E 110 [e7, a1, t9]).bind fun t10 => U.part 0 t10 fun p11 => U.part 1 t10 fun p12 => U.noTup p11 fun x13 => if x13.size = 5 then U.asAgg x13 fun us14 => if 1 = sizes (us14.take 1) then (us14[1]?).bind fun e15 => U.asVar false 1 e15 fun e16 => U.noTup e16 fun x17 => U.noTup p12 fun x18 => some (.tup [x17, x18]) else none else none else none) := (h.is _ rfl).trans ((runQ_V rfl).trans (by kernel_rfl))
end Go.Proofs.YtmdnjglkdddaeaaGreat.Am
namespace Go.Proofs.YtmdnjglkdddaeaaGreat.Am
open Go
set_option linter.unusedVariables false
set_option maxRecDepth 100000
def laws_eqVersion_ac : AC :=
 (.seq (.region 0 [⟨some 2, .box false 2 (.t 0), none⟩,
  ⟨some 3, .box false 3 (.t 1), none⟩,
  ⟨some 4, .mv (.c (.bool false)), none⟩])
 (.seq (.seq (.region 0 [⟨some 5, .faddr 0 0 (.t 2), none⟩,
  ⟨some 6, .load false 1 (.t 5), none⟩,
  ⟨some 7, .faddr 0 0 (.t 3), none⟩,
  ⟨some 8, .load false 1 (.t 7), none⟩,
  ⟨some 9, .bin .neq (.t 6) (.t 8), none⟩])
 (.cond (.t 9) (.seq (.region 0 [⟨some 4, .mv (.c (.bool false)), none⟩])
 .ret) .skip))
 (.seq (.seq (.region 0 [⟨some 10, .faddr 1 1 (.t 2), none⟩,
  ⟨some 11, .load false 1 (.t 10), none⟩,
  ⟨some 12, .faddr 1 1 (.t 3), none⟩,
  ⟨some 13, .load false 1 (.t 12), none⟩,
  ⟨some 14, .bin .neq (.t 11) (.t 13), none⟩])
 (.cond (.t 14) (.seq (.region 0 [⟨some 4, .mv (.c (.bool false)), none⟩])
 .ret) .skip))
 (.seq (.seq (.region 0 [⟨some 15, .faddr 2 2 (.t 2), none⟩,
  ⟨some 16, .load false 1 (.t 15), none⟩,
  ⟨some 17, .faddr 2 2 (.t 3), none⟩,
  ⟨some 18, .load false 1 (.t 17), none⟩,
  ⟨some 19, .bin .neq (.t 16) (.t 18), none⟩])
 (.cond (.t 19) (.seq (.region 0 [⟨some 4, .mv (.c (.bool false)), none⟩])
 .ret) .skip))
 (.seq (.seq (.region 0 [⟨some 20, .faddr 3 3 (.t 2), none⟩,
  ⟨some 21, .load false 1 (.t 20), none⟩,
  ⟨some 22, .faddr 3 3 (.t 3), none⟩,
  ⟨some 23, .load false 1 (.t 22), none⟩,
  ⟨some 24, .bin .neq (.t 21) (.t 23), none⟩])
 (.cond (.t 24) (.seq (.region 0 [⟨some 4, .mv (.c (.bool false)), none⟩])
 .ret) .skip))
 (.seq (.seq (.region 0 [⟨some 25, .faddr 4 4 (.t 2), none⟩,
  ⟨some 26, .load false 1 (.t 25), none⟩,
  ⟨some 27, .faddr 4 4 (.t 3), none⟩,
  ⟨some 28, .load false 1 (.t 27), none⟩,
  ⟨some 29, .bin .neq (.t 26) (.t 28), none⟩])
 (.cond (.t 29) (.seq (.region 0 [⟨some 4, .mv (.c (.bool false)), none⟩])
 .ret) .skip))
 (.seq (.region 0 [⟨some 4, .mv (.c (.bool true)), none⟩])
 .ret)))))))
structure G_laws_eqVersion (E : Env) : Prop where
  is : Is E 120 2 laws_eqVersion_ac [(4, none)]
theorem laws_eqVersion_E {E : Env} (h : G_laws_eqVersion E) (a0 a1 : U) : E 120 [a0, a1] =
 U.noTup a0 fun x1 => U.noTup a1 fun x2 => U.asAgg x1 fun us3 => if 0 = sizes (us3.take 0) then (us3[0]?).bind fun e4 => U.asVar false 1 e4 fun e5 => U.asAgg x2 fun us6 => if 0 = sizes (us6.take 0) then (us6[0]?).bind fun e7 => U.asVar false 1 e7 fun e8 => (U.bin .neq e5 e8).bind fun t9 => U.asBool t9
 (some (.bool false))
 (U.asAgg x1 fun us10 => if 1 = sizes (us10.take 1) then (us10[1]?).bind fun e11 => U.asVar false 1 e11 fun e12 => U.asAgg x2 fun us13 => if 1 = sizes (us13.take 1) then (us13[1]?).bind fun e14 => U.asVar false 1 e14 fun e15 => (U.bin .neq e12 e15).bind fun t16 => U.asBool t16
 (some (.bool false))
 (U.asAgg x1 fun us17 => if 2 = sizes (us17.take 2) then (us17[2]?).bind fun e18 => U.asVar false 1 e18 fun e19 => U.asAgg x2 fun us20 => if 2 = sizes (us20.take 2) then (us20[2]?).bind fun e21 => U.asVar false 1 e21 fun e22 => (U.bin .neq e19 e22).bind fun t23 => U.asBool t23
 (some (.bool false))
 (U.asAgg x1 fun us24 => if 3 = sizes (us24.take 3) then (us24[3]?).bind fun e25 => U.asVar false 1 e25 fun e26 => U.asAgg x2 fun us27 => if 3 = sizes (us27.take 3) then (us27[3]?).bind fun e28 => U.asVar false 1 e28 fun e29 => (U.bin .neq e26 e29).bind fun t30 => U.asBool t30
 (some (.bool false))
 (U.asAgg x1 fun us31 => if 4 = sizes (us31.take 4) then (us31[4]?).bind fun e32 => U.asVar false 1 e32 fun e33 => U.asAgg x2 fun us34 => if 4 = sizes (us34.take 4) then (us34[4]?).bind fun e35 => U.asVar false 1 e35 fun e36 => (U.bin .neq e33 e36).bind fun t37 => U.asBool t37
 (some (.bool false))
 (some (.bool true)) else none else none) else none else none) else none else none) else none else none) else none else none := (h.is _ rfl).trans ((runQ_V rfl).trans (by kernel_rfl))
end Go.Proofs.YtmdnjglkdddaeaaGreat.Am
namespace Go.Proofs.YtmdnjglkdddaeaaGreat.Am
open Go
set_option linter.unusedVariables false
set_option maxRecDepth 100000
def laws_eqVersionS_b0 : AC :=
 (.seq (.seq (.region 0 [⟨some 11, .mv (.t 5), none⟩,
  ⟨some 12, .mv (.t 0), none⟩,
  ⟨some 13, .len false (.t 12), none⟩,
  ⟨some 14, .bin .lss (.t 11) (.t 13), none⟩])
 (.cond (.t 14) .skip (.exit 0)))
 (.seq (.block 1 (.seq (.region 10 [⟨some 17, .mv (.t 0), none⟩,
  ⟨some 18, .mv (.t 5), none⟩,
  ⟨some 19, .iaddr 5 (.t 17) (.t 18), none⟩,
  ⟨some 20, .load true 5 (.t 19), none⟩,
  ⟨some 21, .mv (.t 1), none⟩,
  ⟨some 22, .mv (.t 5), none⟩,
  ⟨some 23, .iaddr 5 (.t 21) (.t 22), none⟩,
  ⟨some 24, .load true 5 (.t 23), none⟩,
  ⟨some 25, .call false 120 [(.t 20), (.t 24)], none⟩,
  ⟨some 26, .un .not (.t 25), none⟩])
 (.cond (.t 26) (.seq (.region 0 [⟨some 4, .mv (.c (.bool false)), none⟩])
 .ret) .skip)))
 (.region 0 [⟨some 15, .mv (.t 5), none⟩,
  ⟨some 16, .bin .add (.t 15) (.c (.int .i64 1)), none⟩,
  ⟨some 5, .mv (.t 16), none⟩])))
def laws_eqVersionS_r0 : AC :=
 (.seq (.region 0 [⟨some 4, .mv (.c (.bool true)), none⟩])
 .ret)
def laws_eqVersionS_ac : AC :=
 (.seq (.region 0 [⟨some 4, .mv (.c (.bool false)), none⟩])
 (.seq (.seq (.region 0 [⟨some 6, .mv (.t 0), none⟩,
  ⟨some 7, .len false (.t 6), none⟩,
  ⟨some 8, .mv (.t 1), none⟩,
  ⟨some 9, .len false (.t 8), none⟩,
  ⟨some 10, .bin .neq (.t 7) (.t 9), none⟩])
 (.cond (.t 10) (.seq (.region 0 [⟨some 4, .mv (.c (.bool false)), none⟩])
 .ret) .skip))
 (.seq (.seq (.region 0 [⟨some 5, .mv (.c (.int .i64 0)), none⟩])
 (.block 0 (.loop ⟨[0, 1, 5], [], []⟩ laws_eqVersionS_b0)))
 laws_eqVersionS_r0)))
noncomputable def laws_eqVersionS_l0 (E : Env) (x0 : U) (x1 : U) (x5 : U) : Option U := loopK (roundOf E ⟨[0, 1, 5], [], []⟩ laws_eqVersionS_b0 (blockK 0 (seqK (fun s => exec E laws_eqVersionS_r0 s (finish [(4, none)])) (finish [(4, none)])))) ([.val x0, .val x1, .val x5], [])
theorem laws_eqVersionS_l0_eq (E : Env) (x0 : U) (x1 : U) (x5 : U) : laws_eqVersionS_l0 E x0 x1 x5 =
 (U.lenOf false x0).bind fun n4 => (U.bin .lss x5 (.int .i64 (n4 : Int))).bind fun t5 => U.asBool t5
 (U.asInt x5 fun n6 => U.elemAt 5 x0 n6 fun e7 => U.asVar true 5 e7 fun e8 => U.asInt x5 fun n9 => U.elemAt 5 x1 n9 fun e10 => U.asVar true 5 e10 fun e11 => (E 120 [e8, e11]).bind fun t12 => (U.un .not t12).bind fun t13 => U.asBool t13
 (some (.bool false))
 ((U.bin .add x5 (.int .i64 1)).bind fun t14 => laws_eqVersionS_l0 E x0 x1 t14))
 (some (.bool true)) :=
 (loop_eq E _ _ _ _).trans (by kernel_rfl)
structure G_laws_eqVersionS (E : Env) : Prop where
  is : Is E 119 2 laws_eqVersionS_ac [(4, none)]
  c_laws_eqVersion : G_laws_eqVersion E
theorem laws_eqVersionS_E {E : Env} (h : G_laws_eqVersionS E) (a0 a1 : U) : E 119 [a0, a1] =
 (U.lenOf false a0).bind fun n1 => (U.lenOf false a1).bind fun n2 => (U.bin .neq (.int .i64 (n1 : Int)) (.int .i64 (n2 : Int))).bind fun t3 => U.asBool t3
 (some (.bool false))
 (laws_eqVersionS_l0 E a0 a1 (.int .i64 0)) := (h.is _ rfl).trans ((runQ_V rfl).trans (by kernel_rfl))
end Go.Proofs.YtmdnjglkdddaeaaGreat.Am
namespace Go.Proofs.YtmdnjglkdddaeaaGreat.Am
open Go
set_option linter.unusedVariables false
set_option maxRecDepth 100000
def laws_eqVersionSS_b0 : AC :=
 (.seq (.seq (.region 0 [⟨some 11, .mv (.t 5), none⟩,
  ⟨some 12, .mv (.t 0), none⟩,
  ⟨some 13, .len false (.t 12), none⟩,
  ⟨some 14, .bin .lss (.t 11) (.t 13), none⟩])
 (.cond (.t 14) .skip (.exit 0)))
 (.seq (.block 1 (.seq (.region 10 [⟨some 17, .mv (.t 0), none⟩,
  ⟨some 18, .mv (.t 5), none⟩,
  ⟨some 19, .iaddr 1 (.t 17) (.t 18), none⟩,
  ⟨some 20, .load false 1 (.t 19), none⟩,
  ⟨some 21, .mv (.t 1), none⟩,
  ⟨some 22, .mv (.t 5), none⟩,
  ⟨some 23, .iaddr 1 (.t 21) (.t 22), none⟩,
  ⟨some 24, .load false 1 (.t 23), none⟩,
  ⟨some 25, .call false 119 [(.t 20), (.t 24)], none⟩,
  ⟨some 26, .un .not (.t 25), none⟩])
 (.cond (.t 26) (.seq (.region 0 [⟨some 4, .mv (.c (.bool false)), none⟩])
 .ret) .skip)))
 (.region 0 [⟨some 15, .mv (.t 5), none⟩,
  ⟨some 16, .bin .add (.t 15) (.c (.int .i64 1)), none⟩,
  ⟨some 5, .mv (.t 16), none⟩])))
def laws_eqVersionSS_r0 : AC :=
 (.seq (.region 0 [⟨some 4, .mv (.c (.bool true)), none⟩])
 .ret)
def laws_eqVersionSS_ac : AC :=
 (.seq (.region 0 [⟨some 4, .mv (.c (.bool false)), none⟩])
 (.seq (.seq (.region 0 [⟨some 6, .mv (.t 0), none⟩,
  ⟨some 7, .len false (.t 6), none⟩,
  ⟨some 8, .mv (.t 1), none⟩,
  ⟨some 9, .len false (.t 8), none⟩,
  ⟨some 10, .bin .neq (.t 7) (.t 9), none⟩])
 (.cond (.t 10) (.seq (.region 0 [⟨some 4, .mv (.c (.bool false)), none⟩])
 .ret) .skip))
 (.seq (.seq (.region 0 [⟨some 5, .mv (.c (.int .i64 0)), none⟩])
 (.block 0 (.loop ⟨[0, 1, 5], [], []⟩ laws_eqVersionSS_b0)))
 laws_eqVersionSS_r0)))
noncomputable def laws_eqVersionSS_l0 (E : Env) (x0 : U) (x1 : U) (x5 : U) : Option U := loopK (roundOf E ⟨[0, 1, 5], [], []⟩ laws_eqVersionSS_b0 (blockK 0 (seqK (fun s => exec E laws_eqVersionSS_r0 s (finish [(4, none)])) (finish [(4, none)])))) ([.val x0, .val x1, .val x5], [])
theorem laws_eqVersionSS_l0_eq (E : Env) (x0 : U) (x1 : U) (x5 : U) : laws_eqVersionSS_l0 E x0 x1 x5 =
 (U.lenOf false x0).bind fun n4 => (U.bin .lss x5 (.int .i64 (n4 : Int))).bind fun t5 => U.asBool t5
 (U.asInt x5 fun n6 => U.elemAt 1 x0 n6 fun e7 => U.asVar false 1 e7 fun e8 => U.asInt x5 fun n9 => U.elemAt 1 x1 n9 fun e10 => U.asVar false 1 e10 fun e11 => (E 119 [e8, e11]).bind fun t12 => (U.un .not t12).bind fun t13 => U.asBool t13
 (some (.bool false))
 ((U.bin .add x5 (.int .i64 1)).bind fun t14 => laws_eqVersionSS_l0 E x0 x1 t14))
 (some (.bool true)) :=
 (loop_eq E _ _ _ _).trans (by kernel_rfl)
structure G_laws_eqVersionSS (E : Env) : Prop where
  is : Is E 118 2 laws_eqVersionSS_ac [(4, none)]
  c_laws_eqVersionS : G_laws_eqVersionS E
theorem laws_eqVersionSS_E {E : Env} (h : G_laws_eqVersionSS E) (a0 a1 : U) : E 118 [a0, a1] =
 (U.lenOf false a0).bind fun n1 => (U.lenOf false a1).bind fun n2 => (U.bin .neq (.int .i64 (n1 : Int)) (.int .i64 (n2 : Int))).bind fun t3 => U.asBool t3
 (some (.bool false))
 (laws_eqVersionSS_l0 E a0 a1 (.int .i64 0)) := (h.is _ rfl).trans ((runQ_V rfl).trans (by kernel_rfl))
end Go.Proofs.YtmdnjglkdddaeaaGreat.Am
namespace Go.Proofs.YtmdnjglkdddaeaaGreat.Am
open Go
set_option linter.unusedVariables false
set_option maxRecDepth 100000
def laws_eqStore_ac : AC :=
 (.seq (.region 0 [⟨some 2, .box false 2 (.t 0), none⟩,
  ⟨some 3, .box false 3 (.t 1), none⟩,
  ⟨some 4, .mv (.c (.bool false)), none⟩])
 (.seq (.seq (.region 0 [⟨some 5, .faddr 0 0 (.t 2), none⟩,
  ⟨some 6, .load false 1 (.t 5), none⟩,
  ⟨some 7, .faddr 0 0 (.t 3), none⟩,
  ⟨some 8, .load false 1 (.t 7), none⟩,
  ⟨some 9, .call false 118 [(.t 6), (.t 8)], none⟩,
  ⟨some 10, .un .not (.t 9), none⟩])
 (.cond (.t 10) (.seq (.region 0 [⟨some 4, .mv (.c (.bool false)), none⟩])
 .ret) .skip))
 (.seq (.region 0 [⟨some 4, .mv (.c (.bool true)), none⟩])
 .ret)))
structure G_laws_eqStore (E : Env) : Prop where
  is : Is E 97 2 laws_eqStore_ac [(4, none)]
  c_laws_eqVersionSS : G_laws_eqVersionSS E
theorem laws_eqStore_E {E : Env} (h : G_laws_eqStore E) (a0 a1 : U) : E 97 [a0, a1] =
 U.noTup a0 fun x1 => U.noTup a1 fun x2 => U.asAgg x1 fun us3 => if 0 = sizes (us3.take 0) then (us3[0]?).bind fun e4 => U.asVar false 1 e4 fun e5 => U.asAgg x2 fun us6 => if 0 = sizes (us6.take 0) then (us6[0]?).bind fun e7 => U.asVar false 1 e7 fun e8 => (E 118 [e5, e8]).bind fun t9 => (U.un .not t9).bind fun t10 => U.asBool t10
 (some (.bool false))
 (some (.bool true)) else none else none := (h.is _ rfl).trans ((runQ_V rfl).trans (by kernel_rfl))
end Go.Proofs.YtmdnjglkdddaeaaGreat.Am
namespace Go.Proofs.YtmdnjglkdddaeaaGreat.Am
open Go
set_option linter.unusedVariables false
set_option maxRecDepth 100000
def laws_eqReadMark_ac : AC :=
 (.seq (.region 0 [⟨some 2, .box false 2 (.t 0), none⟩,
  ⟨some 3, .box false 3 (.t 1), none⟩,
  ⟨some 4, .mv (.c (.bool false)), none⟩])
 (.seq (.seq (.region 0 [⟨some 5, .faddr 0 0 (.t 2), none⟩,
  ⟨some 6, .load false 1 (.t 5), none⟩,
  ⟨some 7, .faddr 0 0 (.t 3), none⟩,
  ⟨some 8, .load false 1 (.t 7), none⟩,
  ⟨some 9, .bin .neq (.t 6) (.t 8), none⟩])
 (.cond (.t 9) (.seq (.region 0 [⟨some 4, .mv (.c (.bool false)), none⟩])
 .ret) .skip))
 (.seq (.seq (.region 0 [⟨some 10, .faddr 1 1 (.t 2), none⟩,
  ⟨some 11, .load false 1 (.t 10), none⟩,
  ⟨some 12, .faddr 1 1 (.t 3), none⟩,
  ⟨some 13, .load false 1 (.t 12), none⟩,
  ⟨some 14, .bin .neq (.t 11) (.t 13), none⟩])
 (.cond (.t 14) (.seq (.region 0 [⟨some 4, .mv (.c (.bool false)), none⟩])
 .ret) .skip))
 (.seq (.region 0 [⟨some 4, .mv (.c (.bool true)), none⟩])
 .ret))))
structure G_laws_eqReadMark (E : Env) : Prop where
  is : Is E 35 2 laws_eqReadMark_ac [(4, none)]
theorem laws_eqReadMark_E {E : Env} (h : G_laws_eqReadMark E) (a0 a1 : U) : E 35 [a0, a1] =
 U.noTup a0 fun x1 => U.noTup a1 fun x2 => U.asAgg x1 fun us3 => if 0 = sizes (us3.take 0) then (us3[0]?).bind fun e4 => U.asVar false 1 e4 fun e5 => U.asAgg x2 fun us6 => if 0 = sizes (us6.take 0) then (us6[0]?).bind fun e7 => U.asVar false 1 e7 fun e8 => (U.bin .neq e5 e8).bind fun t9 => U.asBool t9
 (some (.bool false))
 (U.asAgg x1 fun us10 => if 1 = sizes (us10.take 1) then (us10[1]?).bind fun e11 => U.asVar false 1 e11 fun e12 => U.asAgg x2 fun us13 => if 1 = sizes (us13.take 1) then (us13[1]?).bind fun e14 => U.asVar false 1 e14 fun e15 => (U.bin .neq e12 e15).bind fun t16 => U.asBool t16
 (some (.bool false))
 (some (.bool true)) else none else none) else none else none := (h.is _ rfl).trans ((runQ_V rfl).trans (by kernel_rfl))
end Go.Proofs.YtmdnjglkdddaeaaGreat.Am
namespace Go.Proofs.YtmdnjglkdddaeaaGreat.Am
open Go
set_option linter.unusedVariables false
set_option maxRecDepth 100000
def laws_eqReadMarkS_b0 : AC :=
 (.seq (.seq (.region 0 [⟨some 11, .mv (.t 5), none⟩,
  ⟨some 12, .mv (.t 0), none⟩,
  ⟨some 13, .len false (.t 12), none⟩,
  ⟨some 14, .bin .lss (.t 11) (.t 13), none⟩])
 (.cond (.t 14) .skip (.exit 0)))
 (.seq (.block 1 (.seq (.region 10 [⟨some 17, .mv (.t 0), none⟩,
  ⟨some 18, .mv (.t 5), none⟩,
  ⟨some 19, .iaddr 2 (.t 17) (.t 18), none⟩,
  ⟨some 20, .load true 2 (.t 19), none⟩,
  ⟨some 21, .mv (.t 1), none⟩,
  ⟨some 22, .mv (.t 5), none⟩,
  ⟨some 23, .iaddr 2 (.t 21) (.t 22), none⟩,
  ⟨some 24, .load true 2 (.t 23), none⟩,
  ⟨some 25, .call false 35 [(.t 20), (.t 24)], none⟩,
  ⟨some 26, .un .not (.t 25), none⟩])
 (.cond (.t 26) (.seq (.region 0 [⟨some 4, .mv (.c (.bool false)), none⟩])
 .ret) .skip)))
 (.region 0 [⟨some 15, .mv (.t 5), none⟩,
  ⟨some 16, .bin .add (.t 15) (.c (.int .i64 1)), none⟩,
  ⟨some 5, .mv (.t 16), none⟩])))
def laws_eqReadMarkS_r0 : AC :=
 (.seq (.region 0 [⟨some 4, .mv (.c (.bool true)), none⟩])
 .ret)
def laws_eqReadMarkS_ac : AC :=
 (.seq (.region 0 [⟨some 4, .mv (.c (.bool false)), none⟩])
 (.seq (.seq (.region 0 [⟨some 6, .mv (.t 0), none⟩,
  ⟨some 7, .len false (.t 6), none⟩,
  ⟨some 8, .mv (.t 1), none⟩,
  ⟨some 9, .len false (.t 8), none⟩,
  ⟨some 10, .bin .neq (.t 7) (.t 9), none⟩])
 (.cond (.t 10) (.seq (.region 0 [⟨some 4, .mv (.c (.bool false)), none⟩])
 .ret) .skip))
 (.seq (.seq (.region 0 [⟨some 5, .mv (.c (.int .i64 0)), none⟩])
 (.block 0 (.loop ⟨[0, 1, 5], [], []⟩ laws_eqReadMarkS_b0)))
 laws_eqReadMarkS_r0)))
noncomputable def laws_eqReadMarkS_l0 (E : Env) (x0 : U) (x1 : U) (x5 : U) : Option U := loopK (roundOf E ⟨[0, 1, 5], [], []⟩ laws_eqReadMarkS_b0 (blockK 0 (seqK (fun s => exec E laws_eqReadMarkS_r0 s (finish [(4, none)])) (finish [(4, none)])))) ([.val x0, .val x1, .val x5], [])
theorem laws_eqReadMarkS_l0_eq (E : Env) (x0 : U) (x1 : U) (x5 : U) : laws_eqReadMarkS_l0 E x0 x1 x5 =
 (U.lenOf false x0).bind fun n4 => (U.bin .lss x5 (.int .i64 (n4 : Int))).bind fun t5 => U.asBool t5
 (U.asInt x5 fun n6 => U.elemAt 2 x0 n6 fun e7 => U.asVar true 2 e7 fun e8 => U.asInt x5 fun n9 => U.elemAt 2 x1 n9 fun e10 => U.asVar true 2 e10 fun e11 => (E 35 [e8, e11]).bind fun t12 => (U.un .not t12).bind fun t13 => U.asBool t13
 (some (.bool false))
 ((U.bin .add x5 (.int .i64 1)).bind fun t14 => laws_eqReadMarkS_l0 E x0 x1 t14))
 (some (.bool true)) :=
 (loop_eq E _ _ _ _).trans (by kernel_rfl)
structure G_laws_eqReadMarkS (E : Env) : Prop where
  is : Is E 34 2 laws_eqReadMarkS_ac [(4, none)]
  c_laws_eqReadMark : G_laws_eqReadMark E
theorem laws_eqReadMarkS_E {E : Env} (h : G_laws_eqReadMarkS E) (a0 a1 : U) : E 34 [a0, a1] =
 (U.lenOf false a0).bind fun n1 => (U.lenOf false a1).bind fun n2 => (U.bin .neq (.int .i64 (n1 : Int)) (.int .i64 (n2 : Int))).bind fun t3 => U.asBool t3
 (some (.bool false))
 (laws_eqReadMarkS_l0 E a0 a1 (.int .i64 0)) := (h.is _ rfl).trans ((runQ_V rfl).trans (by kernel_rfl))
end Go.Proofs.YtmdnjglkdddaeaaGreat.Am
namespace Go.Proofs.YtmdnjglkdddaeaaGreat.Am
open Go
set_option linter.unusedVariables false
set_option maxRecDepth 100000
def laws_eqWrite_ac : AC :=
 (.seq (.region 0 [⟨some 2, .box false 2 (.t 0), none⟩,
  ⟨some 3, .box false 3 (.t 1), none⟩,
  ⟨some 4, .mv (.c (.bool false)), none⟩])
 (.seq (.seq (.region 0 [⟨some 5, .faddr 0 0 (.t 2), none⟩,
  ⟨some 6, .load false 1 (.t 5), none⟩,
  ⟨some 7, .faddr 0 0 (.t 3), none⟩,
  ⟨some 8, .load false 1 (.t 7), none⟩,
  ⟨some 9, .bin .neq (.t 6) (.t 8), none⟩])
 (.cond (.t 9) (.seq (.region 0 [⟨some 4, .mv (.c (.bool false)), none⟩])
 .ret) .skip))
 (.seq (.seq (.region 0 [⟨some 10, .faddr 1 1 (.t 2), none⟩,
  ⟨some 11, .load false 1 (.t 10), none⟩,
  ⟨some 12, .faddr 1 1 (.t 3), none⟩,
  ⟨some 13, .load false 1 (.t 12), none⟩,
  ⟨some 14, .bin .neq (.t 11) (.t 13), none⟩])
 (.cond (.t 14) (.seq (.region 0 [⟨some 4, .mv (.c (.bool false)), none⟩])
 .ret) .skip))
 (.seq (.region 0 [⟨some 4, .mv (.c (.bool true)), none⟩])
 .ret))))
structure G_laws_eqWrite (E : Env) : Prop where
  is : Is E 36 2 laws_eqWrite_ac [(4, none)]
theorem laws_eqWrite_E {E : Env} (h : G_laws_eqWrite E) (a0 a1 : U) : E 36 [a0, a1] =
 U.noTup a0 fun x1 => U.noTup a1 fun x2 => U.asAgg x1 fun us3 => if 0 = sizes (us3.take 0) then (us3[0]?).bind fun e4 => U.asVar false 1 e4 fun e5 => U.asAgg x2 fun us6 => if 0 = sizes (us6.take 0) then (us6[0]?).bind fun e7 => U.asVar false 1 e7 fun e8 => (U.bin .neq e5 e8).bind fun t9 => U.asBool t9
 (some (.bool false))
 (U.asAgg x1 fun us10 => if 1 = sizes (us10.take 1) then (us10[1]?).bind fun e11 => U.asVar false 1 e11 fun e12 => U.asAgg x2 fun us13 => if 1 = sizes (us13.take 1) then (us13[1]?).bind fun e14 => U.asVar false 1 e14 fun e15 => (U.bin .neq e12 e15).bind fun t16 => U.asBool t16
 (some (.bool false))
 (some (.bool true)) else none else none) else none else none := (h.is _ rfl).trans ((runQ_V rfl).trans (by kernel_rfl))
end Go.Proofs.YtmdnjglkdddaeaaGreat.Am
namespace Go.Proofs.YtmdnjglkdddaeaaGreat.Am
open Go
set_option linter.unusedVariables false
set_option maxRecDepth 100000
def laws_eqWriteS_b0 : AC :=
 (.seq (.seq (.region 0 [⟨some 11, .mv (.t 5), none⟩,
  ⟨some 12, .mv (.t 0), none⟩,
  ⟨some 13, .len false (.t 12), none⟩,
  ⟨some 14, .bin .lss (.t 11) (.t 13), none⟩])
 (.cond (.t 14) .skip (.exit 0)))
 (.seq (.block 1 (.seq (.region 10 [⟨some 17, .mv (.t 0), none⟩,
  ⟨some 18, .mv (.t 5), none⟩,
  ⟨some 19, .iaddr 2 (.t 17) (.t 18), none⟩,
  ⟨some 20, .load true 2 (.t 19), none⟩,
  ⟨some 21, .mv (.t 1), none⟩,
  ⟨some 22, .mv (.t 5), none⟩,
  ⟨some 23, .iaddr 2 (.t 21) (.t 22), none⟩,
  ⟨some 24, .load true 2 (.t 23), none⟩,
  ⟨some 25, .call false 36 [(.t 20), (.t 24)], none⟩,
  ⟨some 26, .un .not (.t 25), none⟩])
 (.cond (.t 26) (.seq (.region 0 [⟨some 4, .mv (.c (.bool false)), none⟩])
 .ret) .skip)))
 (.region 0 [⟨some 15, .mv (.t 5), none⟩,
  ⟨some 16, .bin .add (.t 15) (.c (.int .i64 1)), none⟩,
  ⟨some 5, .mv (.t 16), none⟩])))
def laws_eqWriteS_r0 : AC :=
 (.seq (.region 0 [⟨some 4, .mv (.c (.bool true)), none⟩])
 .ret)
def laws_eqWriteS_ac : AC :=
 (.seq (.region 0 [⟨some 4, .mv (.c (.bool false)), none⟩])
 (.seq (.seq (.region 0 [⟨some 6, .mv (.t 0), none⟩,
  ⟨some 7, .len false (.t 6), none⟩,
  ⟨some 8, .mv (.t 1), none⟩,
  ⟨some 9, .len false (.t 8), none⟩,
  ⟨some 10, .bin .neq (.t 7) (.t 9), none⟩])
 (.cond (.t 10) (.seq (.region 0 [⟨some 4, .mv (.c (.bool false)), none⟩])
 .ret) .skip))
 (.seq (.seq (.region 0 [⟨some 5, .mv (.c (.int .i64 0)), none⟩])
 (.block 0 (.loop ⟨[0, 1, 5], [], []⟩ laws_eqWriteS_b0)))
 laws_eqWriteS_r0)))
noncomputable def laws_eqWriteS_l0 (E : Env) (x0 : U) (x1 : U) (x5 : U) : Option U := loopK (roundOf E ⟨[0, 1, 5], [], []⟩ laws_eqWriteS_b0 (blockK 0 (seqK (fun s => exec E laws_eqWriteS_r0 s (finish [(4, none)])) (finish [(4, none)])))) ([.val x0, .val x1, .val x5], [])
theorem laws_eqWriteS_l0_eq (E : Env) (x0 : U) (x1 : U) (x5 : U) : laws_eqWriteS_l0 E x0 x1 x5 =
 (U.lenOf false x0).bind fun n4 => (U.bin .lss x5 (.int .i64 (n4 : Int))).bind fun t5 => U.asBool t5
 (U.asInt x5 fun n6 => U.elemAt 2 x0 n6 fun e7 => U.asVar true 2 e7 fun e8 => U.asInt x5 fun n9 => U.elemAt 2 x1 n9 fun e10 => U.asVar true 2 e10 fun e11 => (E 36 [e8, e11]).bind fun t12 => (U.un .not t12).bind fun t13 => U.asBool t13
 (some (.bool false))
 ((U.bin .add x5 (.int .i64 1)).bind fun t14 => laws_eqWriteS_l0 E x0 x1 t14))
 (some (.bool true)) :=
 (loop_eq E _ _ _ _).trans (by kernel_rfl)
structure G_laws_eqWriteS (E : Env) : Prop where
  is : Is E 33 2 laws_eqWriteS_ac [(4, none)]
  c_laws_eqWrite : G_laws_eqWrite E
theorem laws_eqWriteS_E {E : Env} (h : G_laws_eqWriteS E) (a0 a1 : U) : E 33 [a0, a1] =
 (U.lenOf false a0).bind fun n1 => (U.lenOf false a1).bind fun n2 => (U.bin .neq (.int .i64 (n1 : Int)) (.int .i64 (n2 : Int))).bind fun t3 => U.asBool t3
 (some (.bool false))
 (laws_eqWriteS_l0 E a0 a1 (.int .i64 0)) := (h.is _ rfl).trans ((runQ_V rfl).trans (by kernel_rfl))
end Go.Proofs.YtmdnjglkdddaeaaGreat.Am
namespace Go.Proofs.YtmdnjglkdddaeaaGreat.Am
open Go
set_option linter.unusedVariables false
set_option maxRecDepth 100000
def laws_eqTransaction_ac : AC :=
 (.seq (.region 0 [⟨some 2, .box false 2 (.t 0), none⟩,
  ⟨some 3, .box false 3 (.t 1), none⟩,
  ⟨some 4, .mv (.c (.bool false)), none⟩])
 (.seq (.seq (.region 0 [⟨some 5, .faddr 0 0 (.t 2), none⟩,
  ⟨some 6, .load false 1 (.t 5), none⟩,
  ⟨some 7, .faddr 0 0 (.t 3), none⟩,
  ⟨some 8, .load false 1 (.t 7), none⟩,
  ⟨some 9, .bin .neq (.t 6) (.t 8), none⟩])
 (.cond (.t 9) (.seq (.region 0 [⟨some 4, .mv (.c (.bool false)), none⟩])
 .ret) .skip))
 (.seq (.seq (.region 0 [⟨some 10, .faddr 1 1 (.t 2), none⟩,
  ⟨some 11, .load false 1 (.t 10), none⟩,
  ⟨some 12, .faddr 1 1 (.t 3), none⟩,
  ⟨some 13, .load false 1 (.t 12), none⟩,
  ⟨some 14, .bin .neq (.t 11) (.t 13), none⟩])
 (.cond (.t 14) (.seq (.region 0 [⟨some 4, .mv (.c (.bool false)), none⟩])
 .ret) .skip))
 (.seq (.seq (.region 0 [⟨some 15, .faddr 2 2 (.t 2), none⟩,
  ⟨some 16, .load false 1 (.t 15), none⟩,
  ⟨some 17, .faddr 2 2 (.t 3), none⟩,
  ⟨some 18, .load false 1 (.t 17), none⟩,
  ⟨some 19, .bin .neq (.t 16) (.t 18), none⟩])
 (.cond (.t 19) (.seq (.region 0 [⟨some 4, .mv (.c (.bool false)), none⟩])
 .ret) .skip))
 (.seq (.seq (.region 0 [⟨some 20, .faddr 3 3 (.t 2), none⟩,
  ⟨some 21, .load false 1 (.t 20), none⟩,
  ⟨some 22, .faddr 3 3 (.t 3), none⟩,
  ⟨some 23, .load false 1 (.t 22), none⟩,
  ⟨some 24, .bin .neq (.t 21) (.t 23), none⟩])
 (.cond (.t 24) (.seq (.region 0 [⟨some 4, .mv (.c (.bool false)), none⟩])
 .ret) .skip))
 (.seq (.seq (.region 0 [⟨some 25, .faddr 4 4 (.t 2), none⟩,
  ⟨some 26, .load false 1 (.t 25), none⟩,
  ⟨some 27, .faddr 4 4 (.t 3), none⟩,
  ⟨some 28, .load false 1 (.t 27), none⟩,
  ⟨some 29, .bin .neq (.t 26) (.t 28), none⟩])
 (.cond (.t 29) (.seq (.region 0 [⟨some 4, .mv (.c (.bool false)), none⟩])
 .ret) .skip))
 (.seq (.seq (.region 0 [⟨some 30, .faddr 5 5 (.t 2), none⟩,
  ⟨some 31, .load false 1 (.t 30), none⟩,
  ⟨some 32, .faddr 5 5 (.t 3), none⟩,
  ⟨some 33, .load false 1 (.t 32), none⟩,
  ⟨some 34, .bin .neq (.t 31) (.t 33), none⟩])
 (.cond (.t 34) (.seq (.region 0 [⟨some 4, .mv (.c (.bool false)), none⟩])
 .ret) .skip))
 (.seq (.seq (.region 0 [⟨some 35, .faddr 6 6 (.t 2), none⟩,
  ⟨some 36, .load false 1 (.t 35), none⟩,
  ⟨some 37, .faddr 6 6 (.t 3), none⟩,
  ⟨some 38, .load false 1 (.t 37), none⟩,
  ⟨some 39, .bin .neq (.t 36) (.t 38), none⟩])
 (.cond (.t 39) (.seq (.region 0 [⟨some 4, .mv (.c (.bool false)), none⟩])
 .ret) .skip))
 (.seq (.seq (.region 0 [⟨some 40, .faddr 7 7 (.t 2), none⟩,
  ⟨some 41, .load false 1 (.t 40), none⟩,
  ⟨some 42, .faddr 7 7 (.t 3), none⟩,
  ⟨some 43, .load false 1 (.t 42), none⟩,
  ⟨some 44, .call false 34 [(.t 41), (.t 43)], none⟩,
  ⟨some 45, .un .not (.t 44), none⟩])
 (.cond (.t 45) (.seq (.region 0 [⟨some 4, .mv (.c (.bool false)), none⟩])
 .ret) .skip))
 (.seq (.seq (.region 0 [⟨some 46, .faddr 8 8 (.t 2), none⟩,
  ⟨some 47, .load false 1 (.t 46), none⟩,
  ⟨some 48, .faddr 8 8 (.t 3), none⟩,
  ⟨some 49, .load false 1 (.t 48), none⟩,
  ⟨some 50, .call false 33 [(.t 47), (.t 49)], none⟩,
  ⟨some 51, .un .not (.t 50), none⟩])
 (.cond (.t 51) (.seq (.region 0 [⟨some 4, .mv (.c (.bool false)), none⟩])
 .ret) .skip))
 (.seq (.region 0 [⟨some 4, .mv (.c (.bool true)), none⟩])
 .ret)))))))))))
structure G_laws_eqTransaction (E : Env) : Prop where
  is : Is E 177 2 laws_eqTransaction_ac [(4, none)]
  c_laws_eqReadMarkS : G_laws_eqReadMarkS E
  c_laws_eqWriteS : G_laws_eqWriteS E
theorem laws_eqTransaction_E {E : Env} (h : G_laws_eqTransaction E) (a0 a1 : U) : E 177 [a0, a1] =
 U.noTup a0 fun x1 => U.noTup a1 fun x2 => U.asAgg x1 fun us3 => if 0 = sizes (us3.take 0) then (us3[0]?).bind fun e4 => U.asVar false 1 e4 fun e5 => U.asAgg x2 fun us6 => if 0 = sizes (us6.take 0) then (us6[0]?).bind fun e7 => U.asVar false 1 e7 fun e8 => (U.bin .neq e5 e8).bind fun t9 => U.asBool t9
 (some (.bool false))
 (U.asAgg x1 fun us10 => if 1 = sizes (us10.take 1) then (us10[1]?).bind fun e11 => U.asVar false 1 e11 fun e12 => U.asAgg x2 fun us13 => if 1 = sizes (us13.take 1) then (us13[1]?).bind fun e14 => U.asVar false 1 e14 fun e15 => (U.bin .neq e12 e15).bind fun t16 => U.asBool t16
 (some (.bool false))
 (U.asAgg x1 fun us17 => if 2 = sizes (us17.take 2) then (us17[2]?).bind fun e18 => U.asVar false 1 e18 fun e19 => U.asAgg x2 fun us20 => if 2 = sizes (us20.take 2) then (us20[2]?).bind fun e21 => U.asVar false 1 e21 fun e22 => (U.bin .neq e19 e22).bind fun t23 => U.asBool t23
 (some (.bool false))
 (U.asAgg x1 fun us24 => if 3 = sizes (us24.take 3) then (us24[3]?).bind fun e25 => U.asVar false 1 e25 fun e26 => U.asAgg x2 fun us27 => if 3 = sizes (us27.take 3) then (us27[3]?).bind fun e28 => U.asVar false 1 e28 fun e29 => (U.bin .neq e26 e29).bind fun t30 => U.asBool t30
 (some (.bool false))
 (U.asAgg x1 fun us31 => if 4 = sizes (us31.take 4) then (us31[4]?).bind fun e32 => U.asVar false 1 e32 fun e33 => U.asAgg x2 fun us34 => if 4 = sizes (us34.take 4) then (us34[4]?).bind fun e35 => U.asVar false 1 e35 fun e36 => (U.bin .neq e33 e36).bind fun t37 => U.asBool t37
 (some (.bool false))
 (U.asAgg x1 fun us38 => if 5 = sizes (us38.take 5) then (us38[5]?).bind fun e39 => U.asVar false 1 e39 fun e40 => U.asAgg x2 fun us41 => if 5 = sizes (us41.take 5) then (us41[5]?).bind fun e42 => U.asVar false 1 e42 fun e43 => (U.bin .neq e40 e43).bind fun t44 => U.asBool t44
 (some (.bool false))
 (U.asAgg x1 fun us45 => if 6 = sizes (us45.take 6) then (us45[6]?).bind fun e46 => U.asVar false 1 e46 fun e47 => U.asAgg x2 fun us48 => if 6 = sizes (us48.take 6) then (us48[6]?).bind fun e49 => U.asVar false 1 e49 fun e50 => (U.bin .neq e47 e50).bind fun t51 => U.asBool t51
 (some (.bool false))
 (U.asAgg x1 fun us52 => if 7 = sizes (us52.take 7) then (us52[7]?).bind fun e53 => U.asVar false 1 e53 fun e54 => U.asAgg x2 fun us55 => if 7 = sizes (us55.take 7) then (us55[7]?).bind fun e56 => U.asVar false 1 e56 fun e57 => (E 34 [e54, e57]).bind fun t58 => (U.un .not t58).bind fun t59 => U.asBool t59
 (some (.bool false))
 (U.asAgg x1 fun us60 => if 8 = sizes (us60.take 8) then (us60[8]?).bind fun e61 => U.asVar false 1 e61 fun e62 => U.asAgg x2 fun us63 => if 8 = sizes (us63.take 8) then (us63[8]?).bind fun e64 => U.asVar false 1 e64 fun e65 => (E 33 [e62, e65]).bind fun t66 => (U.un .not t66).bind fun t67 => U.asBool t67
 (some (.bool false))
 (some (.bool true)) else none else none) else none else none) else none else none) else none else none) else none else none) else none else none) else none else none) else none else none) else none else none := (h.is _ rfl).trans ((runQ_V rfl).trans (by kernel_rfl))
end Go.Proofs.YtmdnjglkdddaeaaGreat.Am
namespace Go.Proofs.YtmdnjglkdddaeaaGreat.Am
open Go
set_option linter.unusedVariables false
set_option maxRecDepth 100000
def laws_eqTransactionS_b0 : AC :=
 (.seq (.seq (.region 0 [⟨some 11, .mv (.t 5), none⟩,
  ⟨some 12, .mv (.t 0), none⟩,
  ⟨some 13, .len false (.t 12), none⟩,
  ⟨some 14, .bin .lss (.t 11) (.t 13), none⟩])
 (.cond (.t 14) .skip (.exit 0)))
 (.seq (.block 1 (.seq (.region 10 [⟨some 17, .mv (.t 0), none⟩,
  ⟨some 18, .mv (.t 5), none⟩,
  ⟨some 19, .iaddr 9 (.t 17) (.t 18), none⟩,
  ⟨some 20, .load true 9 (.t 19), none⟩,
  ⟨some 21, .mv (.t 1), none⟩,
  ⟨some 22, .mv (.t 5), none⟩,
  ⟨some 23, .iaddr 9 (.t 21) (.t 22), none⟩,
  ⟨some 24, .load true 9 (.t 23), none⟩,
  ⟨some 25, .call false 177 [(.t 20), (.t 24)], none⟩,
  ⟨some 26, .un .not (.t 25), none⟩])
 (.cond (.t 26) (.seq (.region 0 [⟨some 4, .mv (.c (.bool false)), none⟩])
 .ret) .skip)))
 (.region 0 [⟨some 15, .mv (.t 5), none⟩,
  ⟨some 16, .bin .add (.t 15) (.c (.int .i64 1)), none⟩,
  ⟨some 5, .mv (.t 16), none⟩])))
def laws_eqTransactionS_r0 : AC :=
 (.seq (.region 0 [⟨some 4, .mv (.c (.bool true)), none⟩])
 .ret)
def laws_eqTransactionS_ac : AC :=
 (.seq (.region 0 [⟨some 4, .mv (.c (.bool false)), none⟩])
 (.seq (.seq (.region 0 [⟨some 6, .mv (.t 0), none⟩,
  ⟨some 7, .len false (.t 6), none⟩,
  ⟨some 8, .mv (.t 1), none⟩,
  ⟨some 9, .len false (.t 8), none⟩,
  ⟨some 10, .bin .neq (.t 7) (.t 9), none⟩])
 (.cond (.t 10) (.seq (.region 0 [⟨some 4, .mv (.c (.bool false)), none⟩])
 .ret) .skip))
 (.seq (.seq (.region 0 [⟨some 5, .mv (.c (.int .i64 0)), none⟩])
 (.block 0 (.loop ⟨[0, 1, 5], [], []⟩ laws_eqTransactionS_b0)))
 laws_eqTransactionS_r0)))
noncomputable def laws_eqTransactionS_l0 (E : Env) (x0 : U) (x1 : U) (x5 : U) : Option U := loopK (roundOf E ⟨[0, 1, 5], [], []⟩ laws_eqTransactionS_b0 (blockK 0 (seqK (fun s => exec E laws_eqTransactionS_r0 s (finish [(4, none)])) (finish [(4, none)])))) ([.val x0, .val x1, .val x5], [])
theorem laws_eqTransactionS_l0_eq (E : Env) (x0 : U) (x1 : U) (x5 : U) : laws_eqTransactionS_l0 E x0 x1 x5 =
 (U.lenOf false x0).bind fun n4 => (U.bin .lss x5 (.int .i64 (n4 : Int))).bind fun t5 => U.asBool t5
 (U.asInt x5 fun n6 => U.elemAt 9 x0 n6 fun e7 => U.asVar true 9 e7 fun e8 => U.asInt x5 fun n9 => U.elemAt 9 x1 n9 fun e10 => U.asVar true 9 e10 fun e11 => (E 177 [e8, e11]).bind fun t12 => (U.un .not t12).bind fun t13 => U.asBool t13
 (some (.bool false))
 ((U.bin .add x5 (.int .i64 1)).bind fun t14 => laws_eqTransactionS_l0 E x0 x1 t14))
 (some (.bool true)) :=
 (loop_eq E _ _ _ _).trans (by kernel_rfl)
structure G_laws_eqTransactionS (E : Env) : Prop where
  is : Is E 176 2 laws_eqTransactionS_ac [(4, none)]
  c_laws_eqTransaction : G_laws_eqTransaction E
theorem laws_eqTransactionS_E {E : Env} (h : G_laws_eqTransactionS E) (a0 a1 : U) : E 176 [a0, a1] =
 (U.lenOf false a0).bind fun n1 => (U.lenOf false a1).bind fun n2 => (U.bin .neq (.int .i64 (n1 : Int)) (.int .i64 (n2 : Int))).bind fun t3 => U.asBool t3
 (some (.bool false))
 (laws_eqTransactionS_l0 E a0 a1 (.int .i64 0)) := (h.is _ rfl).trans ((runQ_V rfl).trans (by kernel_rfl))
end Go.Proofs.YtmdnjglkdddaeaaGreat.Am
namespace Go.Proofs.YtmdnjglkdddaeaaGreat.Am
open Go
set_option linter.unusedVariables false
set_option maxRecDepth 100000
def laws_eqLock_ac : AC :=
 (.seq (.region 0 [⟨some 2, .box false 2 (.t 0), none⟩,
  ⟨some 3, .box false 3 (.t 1), none⟩,
  ⟨some 4, .mv (.c (.bool false)), none⟩])
 (.seq (.seq (.region 0 [⟨some 5, .faddr 0 0 (.t 2), none⟩,
  ⟨some 6, .load false 1 (.t 5), none⟩,
  ⟨some 7, .faddr 0 0 (.t 3), none⟩,
  ⟨some 8, .load false 1 (.t 7), none⟩,
  ⟨some 9, .bin .neq (.t 6) (.t 8), none⟩])
 (.cond (.t 9) (.seq (.region 0 [⟨some 4, .mv (.c (.bool false)), none⟩])
 .ret) .skip))
 (.seq (.seq (.region 0 [⟨some 10, .faddr 1 1 (.t 2), none⟩,
  ⟨some 11, .load false 1 (.t 10), none⟩,
  ⟨some 12, .faddr 1 1 (.t 3), none⟩,
  ⟨some 13, .load false 1 (.t 12), none⟩,
  ⟨some 14, .bin .neq (.t 11) (.t 13), none⟩])
 (.cond (.t 14) (.seq (.region 0 [⟨some 4, .mv (.c (.bool false)), none⟩])
 .ret) .skip))
 (.seq (.region 0 [⟨some 4, .mv (.c (.bool true)), none⟩])
 .ret))))
structure G_laws_eqLock (E : Env) : Prop where
  is : Is E 178 2 laws_eqLock_ac [(4, none)]
theorem laws_eqLock_E {E : Env} (h : G_laws_eqLock E) (a0 a1 : U) : E 178 [a0, a1] =
 U.noTup a0 fun x1 => U.noTup a1 fun x2 => U.asAgg x1 fun us3 => if 0 = sizes (us3.take 0) then (us3[0]?).bind fun e4 => U.asVar false 1 e4 fun e5 => U.asAgg x2 fun us6 => if 0 = sizes (us6.take 0) then (us6[0]?).bind fun e7 => U.asVar false 1 e7 fun e8 => (U.bin .neq e5 e8).bind fun t9 => U.asBool t9
 (some (.bool false))
 (U.asAgg x1 fun us10 => if 1 = sizes (us10.take 1) then (us10[1]?).bind fun e11 => U.asVar false 1 e11 fun e12 => U.asAgg x2 fun us13 => if 1 = sizes (us13.take 1) then (us13[1]?).bind fun e14 => U.asVar false 1 e14 fun e15 => (U.bin .neq e12 e15).bind fun t16 => U.asBool t16
 (some (.bool false))
 (some (.bool true)) else none else none) else none else none := (h.is _ rfl).trans ((runQ_V rfl).trans (by kernel_rfl))
end Go.Proofs.YtmdnjglkdddaeaaGreat.Am
namespace Go.Proofs.YtmdnjglkdddaeaaGreat.Am
open Go
set_option linter.unusedVariables false
set_option maxRecDepth 100000
def laws_eqLockS_b0 : AC :=
 (.seq (.seq (.region 0 [⟨some 11, .mv (.t 5), none⟩,
  ⟨some 12, .mv (.t 0), none⟩,
  ⟨some 13, .len false (.t 12), none⟩,
  ⟨some 14, .bin .lss (.t 11) (.t 13), none⟩])
 (.cond (.t 14) .skip (.exit 0)))
 (.seq (.block 1 (.seq (.region 10 [⟨some 17, .mv (.t 0), none⟩,
  ⟨some 18, .mv (.t 5), none⟩,
  ⟨some 19, .iaddr 2 (.t 17) (.t 18), none⟩,
  ⟨some 20, .load true 2 (.t 19), none⟩,
  ⟨some 21, .mv (.t 1), none⟩,
  ⟨some 22, .mv (.t 5), none⟩,
  ⟨some 23, .iaddr 2 (.t 21) (.t 22), none⟩,
  ⟨some 24, .load true 2 (.t 23), none⟩,
  ⟨some 25, .call false 178 [(.t 20), (.t 24)], none⟩,
  ⟨some 26, .un .not (.t 25), none⟩])
 (.cond (.t 26) (.seq (.region 0 [⟨some 4, .mv (.c (.bool false)), none⟩])
 .ret) .skip)))
 (.region 0 [⟨some 15, .mv (.t 5), none⟩,
  ⟨some 16, .bin .add (.t 15) (.c (.int .i64 1)), none⟩,
  ⟨some 5, .mv (.t 16), none⟩])))
def laws_eqLockS_r0 : AC :=
 (.seq (.region 0 [⟨some 4, .mv (.c (.bool true)), none⟩])
 .ret)
def laws_eqLockS_ac : AC :=
 (.seq (.region 0 [⟨some 4, .mv (.c (.bool false)), none⟩])
 (.seq (.seq (.region 0 [⟨some 6, .mv (.t 0), none⟩,
  ⟨some 7, .len false (.t 6), none⟩,
  ⟨some 8, .mv (.t 1), none⟩,
  ⟨some 9, .len false (.t 8), none⟩,
  ⟨some 10, .bin .neq (.t 7) (.t 9), none⟩])
 (.cond (.t 10) (.seq (.region 0 [⟨some 4, .mv (.c (.bool false)), none⟩])
 .ret) .skip))
 (.seq (.seq (.region 0 [⟨some 5, .mv (.c (.int .i64 0)), none⟩])
 (.block 0 (.loop ⟨[0, 1, 5], [], []⟩ laws_eqLockS_b0)))
 laws_eqLockS_r0)))
noncomputable def laws_eqLockS_l0 (E : Env) (x0 : U) (x1 : U) (x5 : U) : Option U := loopK (roundOf E ⟨[0, 1, 5], [], []⟩ laws_eqLockS_b0 (blockK 0 (seqK (fun s => exec E laws_eqLockS_r0 s (finish [(4, none)])) (finish [(4, none)])))) ([.val x0, .val x1, .val x5], [])
theorem laws_eqLockS_l0_eq (E : Env) (x0 : U) (x1 : U) (x5 : U) : laws_eqLockS_l0 E x0 x1 x5 =
 (U.lenOf false x0).bind fun n4 => (U.bin .lss x5 (.int .i64 (n4 : Int))).bind fun t5 => U.asBool t5
 (U.asInt x5 fun n6 => U.elemAt 2 x0 n6 fun e7 => U.asVar true 2 e7 fun e8 => U.asInt x5 fun n9 => U.elemAt 2 x1 n9 fun e10 => U.asVar true 2 e10 fun e11 => (E 178 [e8, e11]).bind fun t12 => (U.un .not t12).bind fun t13 => U.asBool t13
 (some (.bool false))
 ((U.bin .add x5 (.int .i64 1)).bind fun t14 => laws_eqLockS_l0 E x0 x1 t14))
 (some (.bool true)) :=
 (loop_eq E _ _ _ _).trans (by kernel_rfl)
structure G_laws_eqLockS (E : Env) : Prop where
  is : Is E 175 2 laws_eqLockS_ac [(4, none)]
  c_laws_eqLock : G_laws_eqLock E
theorem laws_eqLockS_E {E : Env} (h : G_laws_eqLockS E) (a0 a1 : U) : E 175 [a0, a1] =
 (U.lenOf false a0).bind fun n1 => (U.lenOf false a1).bind fun n2 => (U.bin .neq (.int .i64 (n1 : Int)) (.int .i64 (n2 : Int))).bind fun t3 => U.asBool t3
 (some (.bool false))
 (laws_eqLockS_l0 E a0 a1 (.int .i64 0)) := (h.is _ rfl).trans ((runQ_V rfl).trans (by kernel_rfl))
end Go.Proofs.YtmdnjglkdddaeaaGreat.Am
namespace Go.Proofs.YtmdnjglkdddaeaaGreat.Am
open Go
set_option linter.unusedVariables false
set_option maxRecDepth 100000
def laws_eqWait_ac : AC :=
 (.seq (.region 0 [⟨some 2, .box false 2 (.t 0), none⟩,
  ⟨some 3, .box false 3 (.t 1), none⟩,
  ⟨some 4, .mv (.c (.bool false)), none⟩])
 (.seq (.seq (.region 0 [⟨some 5, .faddr 0 0 (.t 2), none⟩,
  ⟨some 6, .load false 1 (.t 5), none⟩,
  ⟨some 7, .faddr 0 0 (.t 3), none⟩,
  ⟨some 8, .load false 1 (.t 7), none⟩,
  ⟨some 9, .bin .neq (.t 6) (.t 8), none⟩])
 (.cond (.t 9) (.seq (.region 0 [⟨some 4, .mv (.c (.bool false)), none⟩])
 .ret) .skip))
 (.seq (.seq (.region 0 [⟨some 10, .faddr 1 1 (.t 2), none⟩,
  ⟨some 11, .load false 1 (.t 10), none⟩,
  ⟨some 12, .faddr 1 1 (.t 3), none⟩,
  ⟨some 13, .load false 1 (.t 12), none⟩,
  ⟨some 14, .bin .neq (.t 11) (.t 13), none⟩])
 (.cond (.t 14) (.seq (.region 0 [⟨some 4, .mv (.c (.bool false)), none⟩])
 .ret) .skip))
 (.seq (.region 0 [⟨some 4, .mv (.c (.bool true)), none⟩])
 .ret))))
structure G_laws_eqWait (E : Env) : Prop where
  is : Is E 179 2 laws_eqWait_ac [(4, none)]
theorem laws_eqWait_E {E : Env} (h : G_laws_eqWait E) (a0 a1 : U) : E 179 [a0, a1] =
 U.noTup a0 fun x1 => U.noTup a1 fun x2 => U.asAgg x1 fun us3 => if 0 = sizes (us3.take 0) then (us3[0]?).bind fun e4 => U.asVar false 1 e4 fun e5 => U.asAgg x2 fun us6 => if 0 = sizes (us6.take 0) then (us6[0]?).bind fun e7 => U.asVar false 1 e7 fun e8 => (U.bin .neq e5 e8).bind fun t9 => U.asBool t9
 (some (.bool false))
 (U.asAgg x1 fun us10 => if 1 = sizes (us10.take 1) then (us10[1]?).bind fun e11 => U.asVar false 1 e11 fun e12 => U.asAgg x2 fun us13 => if 1 = sizes (us13.take 1) then (us13[1]?).bind fun e14 => U.asVar false 1 e14 fun e15 => (U.bin .neq e12 e15).bind fun t16 => U.asBool t16
 (some (.bool false))
 (some (.bool true)) else none else none) else none else none := (h.is _ rfl).trans ((runQ_V rfl).trans (by kernel_rfl))
end Go.Proofs.YtmdnjglkdddaeaaGreat.Am
namespace Go.Proofs.YtmdnjglkdddaeaaGreat.Am
open Go
set_option linter.unusedVariables false
set_option maxRecDepth 100000
def laws_eqWaitS_b0 : AC :=
 (.seq (.seq (.region 0 [⟨some 11, .mv (.t 5), none⟩,
  ⟨some 12, .mv (.t 0), none⟩,
  ⟨some 13, .len false (.t 12), none⟩,
  ⟨some 14, .bin .lss (.t 11) (.t 13), none⟩])
 (.cond (.t 14) .skip (.exit 0)))
 (.seq (.block 1 (.seq (.region 10 [⟨some 17, .mv (.t 0), none⟩,
  ⟨some 18, .mv (.t 5), none⟩,
  ⟨some 19, .iaddr 2 (.t 17) (.t 18), none⟩,
  ⟨some 20, .load true 2 (.t 19), none⟩,
  ⟨some 21, .mv (.t 1), none⟩,
  ⟨some 22, .mv (.t 5), none⟩,
  ⟨some 23, .iaddr 2 (.t 21) (.t 22), none⟩,
  ⟨some 24, .load true 2 (.t 23), none⟩,
  ⟨some 25, .call false 179 [(.t 20), (.t 24)], none⟩,
  ⟨some 26, .un .not (.t 25), none⟩])
 (.cond (.t 26) (.seq (.region 0 [⟨some 4, .mv (.c (.bool false)), none⟩])
 .ret) .skip)))
 (.region 0 [⟨some 15, .mv (.t 5), none⟩,
  ⟨some 16, .bin .add (.t 15) (.c (.int .i64 1)), none⟩,
  ⟨some 5, .mv (.t 16), none⟩])))
def laws_eqWaitS_r0 : AC :=
 (.seq (.region 0 [⟨some 4, .mv (.c (.bool true)), none⟩])
 .ret)
def laws_eqWaitS_ac : AC :=
 (.seq (.region 0 [⟨some 4, .mv (.c (.bool false)), none⟩])
 (.seq (.seq (.region 0 [⟨some 6, .mv (.t 0), none⟩,
  ⟨some 7, .len false (.t 6), none⟩,
  ⟨some 8, .mv (.t 1), none⟩,
  ⟨some 9, .len false (.t 8), none⟩,
  ⟨some 10, .bin .neq (.t 7) (.t 9), none⟩])
 (.cond (.t 10) (.seq (.region 0 [⟨some 4, .mv (.c (.bool false)), none⟩])
 .ret) .skip))
 (.seq (.seq (.region 0 [⟨some 5, .mv (.c (.int .i64 0)), none⟩])
 (.block 0 (.loop ⟨[0, 1, 5], [], []⟩ laws_eqWaitS_b0)))
 laws_eqWaitS_r0)))
noncomputable def laws_eqWaitS_l0 (E : Env) (x0 : U) (x1 : U) (x5 : U) : Option U := loopK (roundOf E ⟨[0, 1, 5], [], []⟩ laws_eqWaitS_b0 (blockK 0 (seqK (fun s => exec E laws_eqWaitS_r0 s (finish [(4, none)])) (finish [(4, none)])))) ([.val x0, .val x1, .val x5], [])
theorem laws_eqWaitS_l0_eq (E : Env) (x0 : U) (x1 : U) (x5 : U) : laws_eqWaitS_l0 E x0 x1 x5 =
 (U.lenOf false x0).bind fun n4 => (U.bin .lss x5 (.int .i64 (n4 : Int))).bind fun t5 => U.asBool t5
 (U.asInt x5 fun n6 => U.elemAt 2 x0 n6 fun e7 => U.asVar true 2 e7 fun e8 => U.asInt x5 fun n9 => U.elemAt 2 x1 n9 fun e10 => U.asVar true 2 e10 fun e11 => (E 179 [e8, e11]).bind fun t12 => (U.un .not t12).bind fun t13 => U.asBool t13
 (some (.bool false))
 ((U.bin .add x5 (.int .i64 1)).bind fun t14 => laws_eqWaitS_l0 E x0 x1 t14))
 (some (.bool true)) :=
 (loop_eq E _ _ _ _).trans (by kernel_rfl)
structure G_laws_eqWaitS (E : Env) : Prop where
  is : Is E 174 2 laws_eqWaitS_ac [(4, none)]
  c_laws_eqWait : G_laws_eqWait E
theorem laws_eqWaitS_E {E : Env} (h : G_laws_eqWaitS E) (a0 a1 : U) : E 174 [a0, a1] =
 (U.lenOf false a0).bind fun n1 => (U.lenOf false a1).bind fun n2 => (U.bin .neq (.int .i64 (n1 : Int)) (.int .i64 (n2 : Int))).bind fun t3 => U.asBool t3
 (some (.bool false))
 (laws_eqWaitS_l0 E a0 a1 (.int .i64 0)) := (h.is _ rfl).trans ((runQ_V rfl).trans (by kernel_rfl))
end Go.Proofs.YtmdnjglkdddaeaaGreat.Am
namespace Go.Proofs.YtmdnjglkdddaeaaGreat.Am
open Go
set_option linter.unusedVariables false
set_option maxRecDepth 100000
def laws_eqEngine_ac : AC :=
 (.seq (.region 0 [⟨some 2, .box false 2 (.t 0), none⟩,
  ⟨some 3, .box false 3 (.t 1), none⟩,
  ⟨some 4, .mv (.c (.bool false)), none⟩])
 (.seq (.seq (.region 0 [⟨some 5, .faddr 0 0 (.t 2), none⟩,
  ⟨some 6, .load false 1 (.t 5), none⟩,
  ⟨some 7, .faddr 0 0 (.t 3), none⟩,
  ⟨some 8, .load false 1 (.t 7), none⟩,
  ⟨some 9, .eqv true 0 (.t 6) (.t 8), none⟩])
 (.cond (.t 9) (.seq (.region 0 [⟨some 4, .mv (.c (.bool false)), none⟩])
 .ret) .skip))
 (.seq (.seq (.region 0 [⟨some 10, .faddr 1 1 (.t 2), none⟩,
  ⟨some 11, .load true 1 (.t 10), none⟩,
  ⟨some 12, .faddr 1 1 (.t 3), none⟩,
  ⟨some 13, .load true 1 (.t 12), none⟩,
  ⟨some 14, .call false 97 [(.t 11), (.t 13)], none⟩,
  ⟨some 15, .un .not (.t 14), none⟩])
 (.cond (.t 15) (.seq (.region 0 [⟨some 4, .mv (.c (.bool false)), none⟩])
 .ret) .skip))
 (.seq (.seq (.region 0 [⟨some 16, .faddr 2 2 (.t 2), none⟩,
  ⟨some 17, .load false 1 (.t 16), none⟩,
  ⟨some 18, .faddr 2 2 (.t 3), none⟩,
  ⟨some 19, .load false 1 (.t 18), none⟩,
  ⟨some 20, .call false 176 [(.t 17), (.t 19)], none⟩,
  ⟨some 21, .un .not (.t 20), none⟩])
 (.cond (.t 21) (.seq (.region 0 [⟨some 4, .mv (.c (.bool false)), none⟩])
 .ret) .skip))
 (.seq (.seq (.region 0 [⟨some 22, .faddr 3 3 (.t 2), none⟩,
  ⟨some 23, .load false 1 (.t 22), none⟩,
  ⟨some 24, .faddr 3 3 (.t 3), none⟩,
  ⟨some 25, .load false 1 (.t 24), none⟩,
  ⟨some 26, .call false 175 [(.t 23), (.t 25)], none⟩,
  ⟨some 27, .un .not (.t 26), none⟩])
 (.cond (.t 27) (.seq (.region 0 [⟨some 4, .mv (.c (.bool false)), none⟩])
 .ret) .skip))
 (.seq (.seq (.region 0 [⟨some 28, .faddr 4 4 (.t 2), none⟩,
  ⟨some 29, .load false 1 (.t 28), none⟩,
  ⟨some 30, .faddr 4 4 (.t 3), none⟩,
  ⟨some 31, .load false 1 (.t 30), none⟩,
  ⟨some 32, .call false 174 [(.t 29), (.t 31)], none⟩,
  ⟨some 33, .un .not (.t 32), none⟩])
 (.cond (.t 33) (.seq (.region 0 [⟨some 4, .mv (.c (.bool false)), none⟩])
 .ret) .skip))
 (.seq (.seq (.region 0 [⟨some 34, .faddr 5 5 (.t 2), none⟩,
  ⟨some 35, .load false 1 (.t 34), none⟩,
  ⟨some 36, .faddr 5 5 (.t 3), none⟩,
  ⟨some 37, .load false 1 (.t 36), none⟩,
  ⟨some 38, .bin .neq (.t 35) (.t 37), none⟩])
 (.cond (.t 38) (.seq (.region 0 [⟨some 4, .mv (.c (.bool false)), none⟩])
 .ret) .skip))
 (.seq (.region 0 [⟨some 4, .mv (.c (.bool true)), none⟩])
 .ret))))))))
structure G_laws_eqEngine (E : Env) : Prop where
  is : Is E 125 2 laws_eqEngine_ac [(4, none)]
  c_laws_eqStore : G_laws_eqStore E
  c_laws_eqTransactionS : G_laws_eqTransactionS E
  c_laws_eqLockS : G_laws_eqLockS E
  c_laws_eqWaitS : G_laws_eqWaitS E
theorem laws_eqEngine_E {E : Env} (h : G_laws_eqEngine E) (a0 a1 : U) : E 125 [a0, a1] =
 U.noTup a0 fun x1 => U.noTup a1 fun x2 => U.asAgg x1 fun us3 => if 0 = sizes (us3.take 0) then (us3[0]?).bind fun e4 => U.asVar false 1 e4 fun e5 => U.asAgg x2 fun us6 => if 0 = sizes (us6.take 0) then (us6[0]?).bind fun e7 => U.asVar false 1 e7 fun e8 => (U.eqv 0 e5 e8).bind fun q9 => U.asBool (.bool (!q9))
 (some (.bool false))
 (U.asAgg x1 fun us10 => if 1 = sizes (us10.take 1) then (us10[1]?).bind fun e11 => U.asVar true 1 e11 fun e12 => U.asAgg x2 fun us13 => if 1 = sizes (us13.take 1) then (us13[1]?).bind fun e14 => U.asVar true 1 e14 fun e15 => (E 97 [e12, e15]).bind fun t16 => (U.un .not t16).bind fun t17 => U.asBool t17
 (some (.bool false))
 (U.asAgg x1 fun us18 => if 2 = sizes (us18.take 2) then (us18[2]?).bind fun e19 => U.asVar false 1 e19 fun e20 => U.asAgg x2 fun us21 => if 2 = sizes (us21.take 2) then (us21[2]?).bind fun e22 => U.asVar false 1 e22 fun e23 => (E 176 [e20, e23]).bind fun t24 => (U.un .not t24).bind fun t25 => U.asBool t25
 (some (.bool false))
 (U.asAgg x1 fun us26 => if 3 = sizes (us26.take 3) then (us26[3]?).bind fun e27 => U.asVar false 1 e27 fun e28 => U.asAgg x2 fun us29 => if 3 = sizes (us29.take 3) then (us29[3]?).bind fun e30 => U.asVar false 1 e30 fun e31 => (E 175 [e28, e31]).bind fun t32 => (U.un .not t32).bind fun t33 => U.asBool t33
 (some (.bool false))
 (U.asAgg x1 fun us34 => if 4 = sizes (us34.take 4) then (us34[4]?).bind fun e35 => U.asVar false 1 e35 fun e36 => U.asAgg x2 fun us37 => if 4 = sizes (us37.take 4) then (us37[4]?).bind fun e38 => U.asVar false 1 e38 fun e39 => (E 174 [e36, e39]).bind fun t40 => (U.un .not t40).bind fun t41 => U.asBool t41
 (some (.bool false))
 (U.asAgg x1 fun us42 => if 5 = sizes (us42.take 5) then (us42[5]?).bind fun e43 => U.asVar false 1 e43 fun e44 => U.asAgg x2 fun us45 => if 5 = sizes (us45.take 5) then (us45[5]?).bind fun e46 => U.asVar false 1 e46 fun e47 => (U.bin .neq e44 e47).bind fun t48 => U.asBool t48
 (some (.bool false))
 (some (.bool true)) else none else none) else none else none) else none else none) else none else none) else none else none) else none else none := (h.is _ rfl).trans ((runQ_V rfl).trans (by kernel_rfl))
end Go.Proofs.YtmdnjglkdddaeaaGreat.Am
namespace Go.Proofs.YtmdnjglkdddaeaaGreat.Am
open Go
set_option linter.unusedVariables false
set_option maxRecDepth 100000
def laws_FnExactReadSafe_ac : AC :=
 (.seq (.region 0 [⟨some 2, .box false 2 (.t 0), none⟩,
  ⟨some 4, .mv (.c (.bool false)), none⟩])
 (.seq (.region 0 [⟨some 5, .mv (.c (.int .i64 1048576)), none⟩])
 (.seq (.region 0 [⟨some 11, .load true 6 (.t 2), none⟩,
  ⟨some 12, .mv (.t 5), none⟩,
  ⟨some 13, .call false 128 [(.t 11), (.t 12)], none⟩,
  ⟨some 5, .mv (.t 13), none⟩])
 (.seq (.seq (.region 0 [⟨some 14, .mv (.t 5), none⟩,
  ⟨some 15, .bin .lss (.t 14) (.c (.int .i64 0)), none⟩])
 (.cond (.t 15) (.seq (.region 0 [⟨some 4, .mv (.c (.bool true)), none⟩])
 .ret) .skip))
 (.seq (.region 0 [⟨some 17, .load true 6 (.t 2), none⟩,
  ⟨some 18, .call false 124 [(.t 17)], none⟩,
  ⟨some 19, .mv (.t 1), none⟩,
  ⟨some 20, .call false 203 [(.t 18), (.t 19)], none⟩,
  ⟨some 16, .mv (.t 20), none⟩,
  ⟨some 21, .extract 0 (.t 16), none⟩,
  ⟨some 22, .extract 1 (.t 16), none⟩,
  ⟨some 6, .mv (.t 21), none⟩,
  ⟨some 7, .mv (.t 22), none⟩])
 (.seq (.region 0 [⟨some 23, .load true 6 (.t 2), none⟩,
  ⟨some 24, .call false 124 [(.t 23)], none⟩,
  ⟨some 8, .alloc 8 (.agg [(.bool false), (.agg [(.nsl 1)]), (.nsl 9), (.nsl 2), (.nsl 2), (.int .i64 0)]), none⟩,
  ⟨none, .store 6 (.t 8) (.t 24), none⟩])
 (.seq (.region 0 [⟨some 26, .load true 6 (.t 8), none⟩,
  ⟨some 27, .mv (.t 1), none⟩,
  ⟨some 28, .call false 202 [(.t 26), (.t 27)], none⟩,
  ⟨some 25, .mv (.t 28), none⟩,
  ⟨some 29, .extract 0 (.t 25), none⟩,
  ⟨some 30, .extract 1 (.t 25), none⟩,
  ⟨some 9, .mv (.t 29), none⟩,
  ⟨some 10, .mv (.t 30), none⟩])
 (.seq (.seq (.region 0 [⟨some 31, .mv (.t 9), none⟩,
  ⟨some 32, .mv (.t 6), none⟩,
  ⟨some 33, .bin .neq (.t 31) (.t 32), none⟩,
  ⟨some 34, .mv (.t 33), none⟩,
  ⟨some 35, .mv (.t 10), some (34, false)⟩,
  ⟨some 36, .mv (.t 7), some (34, false)⟩,
  ⟨some 37, .eqv true 0 (.t 35) (.t 36), some (34, false)⟩,
  ⟨some 38, .pick (.t 34) (.c (.bool true)) (.t 37), none⟩])
 (.cond (.t 38) (.seq (.region 0 [⟨some 4, .mv (.c (.bool false)), none⟩])
 .ret) .skip))
 (.seq (.seq (.region 5 [⟨some 39, .load true 6 (.t 8), none⟩,
  ⟨some 40, .load true 6 (.t 2), none⟩,
  ⟨some 41, .call false 124 [(.t 40)], none⟩,
  ⟨some 42, .call false 125 [(.t 39), (.t 41)], none⟩,
  ⟨some 43, .un .not (.t 42), none⟩])
 (.cond (.t 43) (.seq (.region 0 [⟨some 4, .mv (.c (.bool false)), none⟩])
 .ret) .skip))
 (.seq (.region 0 [⟨some 4, .mv (.c (.bool true)), none⟩])
 .ret))))))))))
structure G_laws_FnExactReadSafe (E : Env) : Prop where
  is : Is E 201 2 laws_FnExactReadSafe_ac [(4, none)]
  c_laws_szEngine : G_laws_szEngine E
  c_spec_ReadSafe : G_spec_ReadSafe E
  c_laws_toEngine : G_laws_toEngine E
  c_impl_ReadSafe : G_impl_ReadSafe E
  c_laws_eqEngine : G_laws_eqEngine E
theorem laws_FnExactReadSafe_E {E : Env} (h : G_laws_FnExactReadSafe E) (a0 a1 : U) : E 201 [a0, a1] =
 U.noTup a0 fun x1 => U.asVar true 6 x1 fun e2 => (E 128 [e2, (.int .i64 1048576)]).bind fun t3 => (U.bin .lss t3 (.int .i64 0)).bind fun t4 => U.asBool t4
 (some (.bool true))
 (U.asVar true 6 x1 fun e5 => (E 124 [e5]).bind fun t6 => (E 203 [t6, a1]).bind fun t7 => U.part 0 t7 fun p8 => U.part 1 t7 fun p9 => U.asVar true 6 x1 fun e10 => (E 124 [e10]).bind fun t11 => if storable (.val t11) = true ∧ t11.size = 6 then U.asVar true 6 t11 fun e12 => (E 202 [e12, a1]).bind fun t13 => U.part 0 t13 fun p14 => U.part 1 t13 fun p15 => (U.bin .neq p14 p8).bind fun t16 => U.asBool t16
 (some (.bool false))
 ((U.eqv 0 p15 p9).bind fun q17 => U.asBool (.bool (!q17))
 (some (.bool false))
 (U.asVar true 6 t11 fun e18 => U.asVar true 6 x1 fun e19 => (E 124 [e19]).bind fun t20 => (E 125 [e18, t20]).bind fun t21 => (U.un .not t21).bind fun t22 => U.asBool t22
 (some (.bool false))
 (some (.bool true)))) else none) := (h.is _ rfl).trans ((runQ_V rfl).trans (by kernel_rfl))
end Go.Proofs.YtmdnjglkdddaeaaGreat.Am
