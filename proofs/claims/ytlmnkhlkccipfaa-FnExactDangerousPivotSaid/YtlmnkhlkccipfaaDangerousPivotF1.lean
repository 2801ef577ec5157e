import Derived.KernelRfl
import Derived.Test.YtlmnkhlkccipfaaAmW
import Derived.Test.YtlmnkhlkccipfaaDangerousPivotF0
import Derived.Test.YtlmnkhlkccipfaaAmSo
namespace Go.Proofs.Ytlmnkhlkccipfaa.Am
open Go
set_option linter.unusedVariables false
set_option maxRecDepth 100000
def f57_b0 : AC :=
 (.seq (rg [oo 9 (.bin .lss (.t 8) (.t 7))])
 (.seq (.cond (.t 9) .skip (.exit 0))
 (.seq (.block 1 (.seq (rg [oo 10 (.mv (.t 8)),
  oo 5 (.mv (.t 10))])
 (.seq (rg [oo 11 (.mv (.t 1)),
  oo 12 (.mv (.t 0)),
  oo 13 (.mv (.t 5)),
  oo 14 (.iaddr 1 (.t 12) (.t 13)),
  oo 15 (.load false 1 (.t 14)),
  oo 16 (.bin .eql (.t 11) (.t 15))])
 (.cond (.t 16) (.seq (rg [oo 17 (.mv (.t 5)),
  oo 4 (.mv (.t 17))])
 .ret) .skip))))
 (rg [oo 18 (.bin .add (.t 8) (ci 1)),
  oo 8 (.mv (.t 18))]))))
def f57_r0 : AC :=
 (.seq (rg [oo 4 (.mv (ci (-1)))])
 .ret)
def f57_ac : AC :=
 (.seq (rg [oo 4 (.mv (ci 0))])
 (.seq (.seq (rg [oo 6 (.mv (.t 0)),
  oo 7 (.len false (.t 6)),
  oo 8 (.mv (ci 0))])
 (.block 0 (.loop ⟨[0, 1, 7, 8], [], []⟩ f57_b0)))
 f57_r0))
noncomputable def f57_l0 (E : Env) (x0 : U) (x1 : U) (x7 : U) (x8 : U) : Option U := loopK (roundOf E ⟨[0, 1, 7, 8], [], []⟩ f57_b0 (blockK 0 (seqK (fun s => exec E f57_r0 s (finish [(4, none)])) (finish [(4, none)])))) ([.val x0, .val x1, .val x7, .val x8], [])
theorem f57_l0_eq (E : Env) (x0 : U) (x1 : U) (x7 : U) (x8 : U) : f57_l0 E x0 x1 x7 x8 =
 (U.bin .lss x8 x7).bind fun t2 => U.asBool t2
 (U.asInt x8 fun n3 => U.elemAt 1 x0 n3 fun e4 => U.asVar false 1 e4 fun e5 => (U.bin .eql x1 e5).bind fun t6 => U.asBool t6
 (some x8)
 ((U.bin .add x8 (.int .i64 1)).bind fun t7 => f57_l0 E x0 x1 x7 t7))
 (some (.int .i64 (-1))) :=
 (loop_eq E _ _ _ _).trans (by kernel_rfl)
structure G_f57 (E : Env) : Prop where
  is : Is E 43 2 f57_ac [(4, none)]
theorem f57_E {E : Env} (h : G_f57 E) (a0 a1 : U) : E 43 [a0, a1] =
 (U.lenOf false a0).bind fun n1 => f57_l0 E a0 a1 (.int .i64 (n1 : Int)) (.int .i64 0) := (h.is _ rfl).trans ((runQ_V rfl).trans (by kernel_rfl))
def f53_ac : AC :=
 (.seq (rg [oo 4 (.mv (.c (.bool false)))])
 (.seq (rg [oo 5 (.mv (.t 0)),
  oo 6 (.mv (.t 1)),
  oo 7 (.call false 43 [(.t 5), (.t 6)]),
  oo 8 (.bin .geq (.t 7) (ci 0)),
  oo 4 (.mv (.t 8))])
 .ret))
structure G_f53 (E : Env) : Prop where
  is : Is E 42 2 f53_ac [(4, none)]
  c_f57 : G_f57 E
theorem f53_E {E : Env} (h : G_f53 E) (a0 a1 : U) : E 42 [a0, a1] =
 (E 43 [a0, a1]).bind fun t1 => (U.bin .geq t1 (.int .i64 0)).bind fun t2 => some t2 := (h.is _ rfl).trans ((runQ_V rfl).trans (by kernel_rfl))
def f3_b0 : AC :=
 (.seq (rg [oo 8 (.bin .lss (.t 7) (.t 6))])
 (.seq (.cond (.t 8) .skip (.exit 0))
 (.seq (.block 1 (.seq (rg [oo 9 (.mv (.t 7)),
  oo 10 (.iaddr 4 (.t 5) (.t 7)),
  oo 11 (.load true 4 (.t 10)),
  oo 4 (.alloc 4 (.agg [(.int .i64 0), (.int .i64 0), (.int .i64 0), (.int .i64 0)])),
  oo 3 (.mv (.t 9)),
  ⟨none, .store 4 (.t 4) (.t 11), none⟩])
 (.seq (.region 43 [oo 12 (.faddr 0 0 (.t 4)),
  oo 13 (.load false 1 (.t 12)),
  oo 14 (.call false 9 [(.t 13)]),
  oo 15 (.un .not (.t 14)),
  oo 16 (.mv (.t 15)),
  ⟨some 17, .faddr 1 1 (.t 4), some (16, false)⟩,
  ⟨some 18, .load false 1 (.t 17), some (16, false)⟩,
  ⟨some 19, .call false 9 [(.t 18)], some (16, false)⟩,
  ⟨some 20, .un .not (.t 19), some (16, false)⟩,
  oo 21 (.pick (.t 16) (.c (.bool true)) (.t 20)),
  oo 22 (.mv (.t 21)),
  ⟨some 23, .faddr 0 0 (.t 4), some (22, false)⟩,
  ⟨some 24, .load false 1 (.t 23), some (22, false)⟩,
  ⟨some 25, .faddr 1 1 (.t 4), some (22, false)⟩,
  ⟨some 26, .load false 1 (.t 25), some (22, false)⟩,
  ⟨some 27, .bin .eql (.t 24) (.t 26), some (22, false)⟩,
  oo 28 (.pick (.t 22) (.c (.bool true)) (.t 27)),
  oo 29 (.mv (.t 28)),
  ⟨some 30, .faddr 2 2 (.t 4), some (29, false)⟩,
  ⟨some 31, .load false 1 (.t 30), some (29, false)⟩,
  ⟨some 32, .call false 10 [(.t 31), (ci 1), (ci 3)], some (29, false)⟩,
  ⟨some 33, .un .not (.t 32), some (29, false)⟩,
  oo 34 (.pick (.t 29) (.c (.bool true)) (.t 33)),
  oo 35 (.mv (.t 34)),
  ⟨some 36, .faddr 3 3 (.t 4), some (35, false)⟩,
  ⟨some 37, .load false 1 (.t 36), some (35, false)⟩,
  ⟨some 38, .call false 11 [(.t 37)], some (35, false)⟩,
  ⟨some 39, .un .not (.t 38), some (35, false)⟩,
  oo 40 (.pick (.t 35) (.c (.bool true)) (.t 39)),
  oo 41 (.mv (.t 40)),
  ⟨some 42, .mv (.t 3), some (41, false)⟩,
  ⟨some 43, .bin .gtr (.t 42) (ci 0), some (41, false)⟩,
  ⟨some 44, .mv (.t 43), some (41, false)⟩,
  ⟨some 45, .mv (.t 0), some (44, true)⟩,
  ⟨some 46, .mv (.t 3), some (44, true)⟩,
  ⟨some 47, .bin .sub (.t 46) (ci 1), some (44, true)⟩,
  ⟨some 48, .iaddr 4 (.t 45) (.t 47), some (44, true)⟩,
  ⟨some 49, .load true 4 (.t 48), some (44, true)⟩,
  ⟨some 50, .load true 4 (.t 4), some (44, true)⟩,
  ⟨some 51, .call false 12 [(.t 49), (.t 50)], some (44, true)⟩,
  ⟨some 52, .bin .geq (.t 51) (ci 0), some (44, true)⟩,
  ⟨some 53, .pick (.t 44) (.t 52) (.c (.bool false)), some (41, false)⟩,
  oo 54 (.pick (.t 41) (.c (.bool true)) (.t 53))])
 (.cond (.t 54) (.seq (rg [oo 2 (.mv (.c (.bool false)))])
 .ret) .skip))))
 (rg [oo 55 (.bin .add (.t 7) (ci 1)),
  oo 7 (.mv (.t 55))]))))
def f3_r0 : AC :=
 (.seq (rg [oo 2 (.mv (.c (.bool true)))])
 .ret)
def f3_ac : AC :=
 (.seq (rg [oo 2 (.mv (.c (.bool false)))])
 (.seq (.seq (rg [oo 5 (.mv (.t 0)),
  oo 6 (.len false (.t 5)),
  oo 7 (.mv (ci 0))])
 (.block 0 (.loop ⟨[0, 5, 6, 7], [], []⟩ f3_b0)))
 f3_r0))
noncomputable def f3_l0 (E : Env) (x0 : U) (x5 : U) (x6 : U) (x7 : U) : Option U := loopK (roundOf E ⟨[0, 5, 6, 7], [], []⟩ f3_b0 (blockK 0 (seqK (fun s => exec E f3_r0 s (finish [(2, none)])) (finish [(2, none)])))) ([.val x0, .val x5, .val x6, .val x7], [])
theorem f3_l0_eq (E : Env) (x0 : U) (x5 : U) (x6 : U) (x7 : U) : f3_l0 E x0 x5 x6 x7 =
 (U.bin .lss x7 x6).bind fun t2 => U.asBool t2
 (U.asInt x7 fun n3 => U.elemAt 4 x5 n3 fun e4 => U.asVar true 4 e4 fun e5 => if storable (.val e5) = true ∧ e5.size = 4 then U.asAgg e5 fun us6 => if 0 = sizes (us6.take 0) then (us6[0]?).bind fun e7 => U.asVar false 1 e7 fun e8 => (E 9 [e8]).bind fun t9 => (U.un .not t9).bind fun t10 => U.asBool t10
 (some (.bool false))
 (U.asAgg e5 fun us11 => if 1 = sizes (us11.take 1) then (us11[1]?).bind fun e12 => U.asVar false 1 e12 fun e13 => (E 9 [e13]).bind fun t14 => (U.un .not t14).bind fun t15 => U.asBool t15
 (some (.bool false))
 (U.asAgg e5 fun us16 => if 0 = sizes (us16.take 0) then (us16[0]?).bind fun e17 => U.asVar false 1 e17 fun e18 => U.asAgg e5 fun us19 => if 1 = sizes (us19.take 1) then (us19[1]?).bind fun e20 => U.asVar false 1 e20 fun e21 => (U.bin .eql e18 e21).bind fun t22 => U.asBool t22
 (some (.bool false))
 (U.asAgg e5 fun us23 => if 2 = sizes (us23.take 2) then (us23[2]?).bind fun e24 => U.asVar false 1 e24 fun e25 => (E 10 [e25, (.int .i64 1), (.int .i64 3)]).bind fun t26 => (U.un .not t26).bind fun t27 => U.asBool t27
 (some (.bool false))
 (U.asAgg e5 fun us28 => if 3 = sizes (us28.take 3) then (us28[3]?).bind fun e29 => U.asVar false 1 e29 fun e30 => (E 11 [e30]).bind fun t31 => (U.un .not t31).bind fun t32 => U.asBool t32
 (some (.bool false))
 ((U.bin .gtr x7 (.int .i64 0)).bind fun t33 => U.asBool t33
 ((U.bin .sub x7 (.int .i64 1)).bind fun t34 => U.asInt t34 fun n35 => U.elemAt 4 x0 n35 fun e36 => U.asVar true 4 e36 fun e37 => U.asVar true 4 e5 fun e38 => (E 12 [e37, e38]).bind fun t39 => (U.bin .geq t39 (.int .i64 0)).bind fun t40 => U.asBool t40
 (some (.bool false))
 ((U.bin .add x7 (.int .i64 1)).bind fun t41 => f3_l0 E x0 x5 x6 t41))
 ((U.bin .add x7 (.int .i64 1)).bind fun t42 => f3_l0 E x0 x5 x6 t42)) else none) else none) else none else none) else none) else none else none)
 (some (.bool true)) :=
 (loop_eq E _ _ _ _).trans (by kernel_rfl)
structure G_f3 (E : Env) : Prop where
  is : Is E 3 1 f3_ac [(2, none)]
  c_f21 : G_f21 E
  c_f28 : G_f28 E
  c_f26 : G_f26 E
  c_f29 : G_f29 E
theorem f3_E {E : Env} (h : G_f3 E) (a0 : U) : E 3 [a0] =
 (U.lenOf false a0).bind fun n1 => f3_l0 E a0 a0 (.int .i64 (n1 : Int)) (.int .i64 0) := (h.is _ rfl).trans ((runQ_V rfl).trans (by kernel_rfl))
def f56_b0 : AC :=
 (.seq (rg [oo 9 (.bin .lss (.t 8) (.t 7))])
 (.seq (.cond (.t 9) .skip (.exit 0))
 (.seq (.block 1 (.seq (rg [oo 10 (.mv (.t 8)),
  oo 5 (.mv (.t 10))])
 (.seq (rg [oo 11 (.mv (.t 1)),
  oo 12 (.mv (.t 0)),
  oo 13 (.mv (.t 5)),
  oo 14 (.iaddr 4 (.t 12) (.t 13)),
  oo 15 (.load true 4 (.t 14)),
  oo 16 (.callv false (.t 11) [(.t 15)])])
 (.cond (.t 16) (.seq (rg [oo 17 (.mv (.t 5)),
  oo 4 (.mv (.t 17))])
 .ret) .skip))))
 (rg [oo 18 (.bin .add (.t 8) (ci 1)),
  oo 8 (.mv (.t 18))]))))
def f56_r0 : AC :=
 (.seq (rg [oo 4 (.mv (ci (-1)))])
 .ret)
def f56_ac : AC :=
 (.seq (rg [oo 4 (.mv (ci 0))])
 (.seq (.seq (rg [oo 6 (.mv (.t 0)),
  oo 7 (.len false (.t 6)),
  oo 8 (.mv (ci 0))])
 (.block 0 (.loop ⟨[0, 1, 7, 8], [], []⟩ f56_b0)))
 f56_r0))
noncomputable def f56_l0 (E : Env) (x0 : U) (x1 : U) (x7 : U) (x8 : U) : Option U := loopK (roundOf E ⟨[0, 1, 7, 8], [], []⟩ f56_b0 (blockK 0 (seqK (fun s => exec E f56_r0 s (finish [(4, none)])) (finish [(4, none)])))) ([.val x0, .val x1, .val x7, .val x8], [])
theorem f56_l0_eq (E : Env) (x0 : U) (x1 : U) (x7 : U) (x8 : U) : f56_l0 E x0 x1 x7 x8 =
 (U.bin .lss x8 x7).bind fun t2 => U.asBool t2
 (U.asInt x8 fun n3 => U.elemAt 4 x0 n3 fun e4 => U.asVar true 4 e4 fun e5 => U.asFn x1 fun r6 caps7 => (E r6 ([e5] ++ caps7)).bind fun t8 => U.asBool t8
 (some x8)
 ((U.bin .add x8 (.int .i64 1)).bind fun t9 => f56_l0 E x0 x1 x7 t9))
 (some (.int .i64 (-1))) :=
 (loop_eq E _ _ _ _).trans (by kernel_rfl)
structure G_f56 (E : Env) : Prop where
  is : Is E 66 2 f56_ac [(4, none)]
theorem f56_E {E : Env} (h : G_f56 E) (a0 a1 : U) : E 66 [a0, a1] =
 (U.lenOf false a0).bind fun n1 => f56_l0 E a0 a1 (.int .i64 (n1 : Int)) (.int .i64 0) := (h.is _ rfl).trans ((runQ_V rfl).trans (by kernel_rfl))
def f52_ac : AC :=
 (.seq (rg [oo 4 (.mv (.c (.bool false)))])
 (.seq (rg [oo 5 (.mv (.t 0)),
  oo 6 (.mv (.t 1)),
  oo 7 (.call false 66 [(.t 5), (.t 6)]),
  oo 8 (.bin .geq (.t 7) (ci 0)),
  oo 4 (.mv (.t 8))])
 .ret))
structure G_f52 (E : Env) : Prop where
  is : Is E 65 2 f52_ac [(4, none)]
  c_f56 : G_f56 E
theorem f52_E {E : Env} (h : G_f52 E) (a0 a1 : U) : E 65 [a0, a1] =
 (E 66 [a0, a1]).bind fun t1 => (U.bin .geq t1 (.int .i64 0)).bind fun t2 => some t2 := (h.is _ rfl).trans ((runQ_V rfl).trans (by kernel_rfl))
def f14_ac : AC :=
 (.seq (rg [oo 3 (.box false 3 (.t 0)),
  oo 4 (.mv (.c (.bool false)))])
 (.seq (rg [oo 5 (.faddr 0 0 (.t 3)),
  oo 6 (.load false 1 (.t 5)),
  oo 7 (.load false 1 (.t 1)),
  oo 8 (.bin .eql (.t 6) (.t 7)),
  oo 9 (.mv (.t 8)),
  ⟨some 10, .faddr 1 1 (.t 3), some (9, true)⟩,
  ⟨some 11, .load false 1 (.t 10), some (9, true)⟩,
  ⟨some 12, .load false 1 (.t 2), some (9, true)⟩,
  ⟨some 13, .bin .eql (.t 11) (.t 12), some (9, true)⟩,
  oo 14 (.pick (.t 9) (.t 13) (.c (.bool false))),
  oo 4 (.mv (.t 14))])
 .ret))
structure G_f14 (E : Env) : Prop where
  is : Is E 64 3 f14_ac [(4, none)]
theorem f14_E {E : Env} (h : G_f14 E) (a0 a1 a2 : U) : E 64 [a0, a1, a2] =
 U.noTup a0 fun x1 => U.asAgg x1 fun us2 => if 0 = sizes (us2.take 0) then (us2[0]?).bind fun e3 => U.asVar false 1 e3 fun e4 => U.asVp a1 fun v5 => U.asVar false 1 v5 fun e6 => (U.bin .eql e4 e6).bind fun t7 => U.asBool t7
 (U.asAgg x1 fun us8 => if 1 = sizes (us8.take 1) then (us8[1]?).bind fun e9 => U.asVar false 1 e9 fun e10 => U.asVp a2 fun v11 => U.asVar false 1 v11 fun e12 => (U.bin .eql e10 e12).bind fun t13 => some t13 else none)
 (some (.bool false)) else none := (h.is _ rfl).trans ((runQ_V rfl).trans (by kernel_rfl))
def f13_ac : AC :=
 (.seq (rg [oo 4 (.box true 4 (.t 1)),
  oo 5 (.box true 5 (.t 2)),
  oo 6 (.mv (.c (.bool false)))])
 (.seq (rg [oo 7 (.mv (.t 0)),
  oo 8 (.mkfn 64 [(.t 4), (.t 5)]),
  oo 9 (.call false 65 [(.t 7), (.t 8)]),
  oo 6 (.mv (.t 9))])
 .ret))
structure G_f13 (E : Env) : Prop where
  is : Is E 63 3 f13_ac [(6, none)]
  c_f52 : G_f52 E
  c_f14 : G_f14 E
theorem f13_E {E : Env} (h : G_f13 E) (a0 a1 a2 : U) : E 63 [a0, a1, a2] =
 U.noTup a1 fun x1 => U.noTup a2 fun x2 => (E 65 [a0, (.fn 64 [(.vp x1), (.vp x2)])]).bind fun t3 => U.asFlat t3 fun t4 => some t4 := (h.is _ rfl).trans ((runQ_V rfl).trans (by kernel_rfl))
def f6_b0 : AC :=
 (.seq (rg [oo 18 (.bin .lss (.t 17) (.t 16))])
 (.seq (.cond (.t 18) .skip (.exit 0))
 (.seq (.block 1 (.seq (rg [oo 19 (.mv (.t 17)),
  oo 20 (.iaddr 1 (.t 15) (.t 17)),
  oo 21 (.load false 1 (.t 20)),
  oo 5 (.mv (.t 19)),
  oo 6 (.mv (.t 21))])
 (.seq (rg [oo 22 (.mv (.t 1)),
  oo 23 (.mv (.t 5)),
  oo 24 (.slice false 1 (.t 22) none (some (.t 23))),
  oo 25 (.mv (.t 6)),
  oo 26 (.call false 42 [(.t 24), (.t 25)]),
  oo 27 (.mv (.t 26)),
  ⟨some 28, .mv (.t 0), some (27, false)⟩,
  ⟨some 29, .mv (.t 6), some (27, false)⟩,
  ⟨some 30, .mv (.t 1), some (27, false)⟩,
  ⟨some 31, .mv (.t 5), some (27, false)⟩,
  ⟨some 32, .bin .add (.t 31) (ci 1), some (27, false)⟩,
  ⟨some 33, .mv (.t 1), some (27, false)⟩,
  ⟨some 34, .len false (.t 33), some (27, false)⟩,
  ⟨some 35, .bin .rem (.t 32) (.t 34), some (27, false)⟩,
  ⟨some 36, .iaddr 1 (.t 30) (.t 35), some (27, false)⟩,
  ⟨some 37, .load false 1 (.t 36), some (27, false)⟩,
  ⟨some 38, .call false 63 [(.t 28), (.t 29), (.t 37)], some (27, false)⟩,
  ⟨some 39, .un .not (.t 38), some (27, false)⟩,
  oo 40 (.pick (.t 27) (.c (.bool true)) (.t 39))])
 (.cond (.t 40) (.seq (rg [oo 4 (.mv (.c (.bool false)))])
 .ret) .skip))))
 (rg [oo 41 (.bin .add (.t 17) (ci 1)),
  oo 17 (.mv (.t 41))]))))
def f6_r0 : AC :=
 (.seq (rg [oo 4 (.mv (.c (.bool true)))])
 .ret)
def f6_ac : AC :=
 (.seq (rg [oo 4 (.mv (.c (.bool false)))])
 (.seq (.seq (rg [oo 7 (.mv (.t 0)),
  oo 8 (.call false 3 [(.t 7)]),
  oo 9 (.un .not (.t 8)),
  oo 10 (.mv (.t 9)),
  ⟨some 11, .mv (.t 1), some (10, false)⟩,
  ⟨some 12, .len false (.t 11), some (10, false)⟩,
  ⟨some 13, .bin .lss (.t 12) (ci 2), some (10, false)⟩,
  oo 14 (.pick (.t 10) (.c (.bool true)) (.t 13))])
 (.cond (.t 14) (.seq (rg [oo 4 (.mv (.c (.bool false)))])
 .ret) .skip))
 (.seq (.seq (rg [oo 15 (.mv (.t 1)),
  oo 16 (.len false (.t 15)),
  oo 17 (.mv (ci 0))])
 (.block 0 (.loop ⟨[0, 1, 15, 16, 17], [], []⟩ f6_b0)))
 f6_r0)))
noncomputable def f6_l0 (E : Env) (x0 : U) (x1 : U) (x15 : U) (x16 : U) (x17 : U) : Option U := loopK (roundOf E ⟨[0, 1, 15, 16, 17], [], []⟩ f6_b0 (blockK 0 (seqK (fun s => exec E f6_r0 s (finish [(4, none)])) (finish [(4, none)])))) ([.val x0, .val x1, .val x15, .val x16, .val x17], [])
theorem f6_l0_eq (E : Env) (x0 : U) (x1 : U) (x15 : U) (x16 : U) (x17 : U) : f6_l0 E x0 x1 x15 x16 x17 =
 (U.bin .lss x17 x16).bind fun t6 => U.asBool t6
 (U.asInt x17 fun n7 => U.elemAt 1 x15 n7 fun e8 => U.asVar false 1 e8 fun e9 => U.asInt x17 fun n10 => (U.cut false 1 x1 none (some n10)).bind fun t11 => (E 42 [t11, e9]).bind fun t12 => U.asBool t12
 (some (.bool false))
 ((U.bin .add x17 (.int .i64 1)).bind fun t13 => (U.lenOf false x1).bind fun n14 => (U.bin .rem t13 (.int .i64 (n14 : Int))).bind fun t15 => U.asInt t15 fun n16 => U.elemAt 1 x1 n16 fun e17 => U.asVar false 1 e17 fun e18 => (E 63 [x0, e9, e18]).bind fun t19 => (U.un .not t19).bind fun t20 => U.asBool t20
 (some (.bool false))
 ((U.bin .add x17 (.int .i64 1)).bind fun t21 => f6_l0 E x0 x1 x15 x16 t21)))
 (some (.bool true)) :=
 (loop_eq E _ _ _ _).trans (by kernel_rfl)
structure G_f6 (E : Env) : Prop where
  is : Is E 60 2 f6_ac [(4, none)]
  c_f53 : G_f53 E
  c_f3 : G_f3 E
  c_f13 : G_f13 E
theorem f6_E {E : Env} (h : G_f6 E) (a0 a1 : U) : E 60 [a0, a1] =
 (E 3 [a0]).bind fun t1 => (U.un .not t1).bind fun t2 => U.asBool t2
 (some (.bool false))
 ((U.lenOf false a1).bind fun n3 => (U.bin .lss (.int .i64 (n3 : Int)) (.int .i64 2)).bind fun t4 => U.asBool t4
 (some (.bool false))
 ((U.lenOf false a1).bind fun n5 => f6_l0 E a0 a1 a1 (.int .i64 (n5 : Int)) (.int .i64 0))) := (h.is _ rfl).trans ((runQ_V rfl).trans (by kernel_rfl))
def f8_ac : AC :=
 (.seq (rg [oo 4 (.mv (ci 0))])
 (.seq (.region 17 [oo 5 (.load false 1 (.t 1)),
  oo 6 (.load false 1 (.t 1)),
  oo 7 (.load false 1 (.t 2)),
  oo 8 (.mv (.t 0)),
  oo 9 (.load false 1 (.t 2)),
  oo 10 (.len false (.t 9)),
  oo 11 (.bin .add (.t 8) (.t 10)),
  oo 12 (.load false 1 (.t 2)),
  oo 13 (.len false (.t 12)),
  oo 14 (.bin .rem (.t 11) (.t 13)),
  oo 15 (.iaddr 1 (.t 7) (.t 14)),
  oo 16 (.load false 1 (.t 15)),
  oo 17 (.call false 251 [(.t 6), (.t 16)]),
  oo 18 (.iaddr 4 (.t 5) (.t 17)),
  oo 19 (.faddr 1 1 (.t 18)),
  oo 20 (.load false 1 (.t 19)),
  oo 4 (.mv (.t 20))])
 .ret))
structure G_f8 (E : Env) : Prop where
  is : Is E 428 3 f8_ac [(4, none)]
  c_f11 : G_f11 E
theorem f8_E {E : Env} (h : G_f8 E) (a0 a1 a2 : U) : E 428 [a0, a1, a2] =
 U.asVp a1 fun v1 => U.asVar false 1 v1 fun e2 => U.asVp a1 fun v3 => U.asVar false 1 v3 fun e4 => U.asVp a2 fun v5 => U.asVar false 1 v5 fun e6 => U.asVp a2 fun v7 => U.asVar false 1 v7 fun e8 => (U.lenOf false e8).bind fun n9 => (U.bin .add a0 (.int .i64 (n9 : Int))).bind fun t10 => U.asVp a2 fun v11 => U.asVar false 1 v11 fun e12 => (U.lenOf false e12).bind fun n13 => (U.bin .rem t10 (.int .i64 (n13 : Int))).bind fun t14 => U.asInt t14 fun n15 => U.elemAt 1 e6 n15 fun e16 => U.asVar false 1 e16 fun e17 => (E 251 [e4, e17]).bind fun t18 => U.asInt t18 fun n19 => U.elemAt 4 e2 n19 fun e20 => U.fieldAt 1 1 e20 fun f21 => U.asVar false 1 f21 fun e22 => some e22 := (h.is _ rfl).trans ((runQ_V rfl).trans (by kernel_rfl))
def f7_b0 : AC :=
 (.seq (rg [oo 18 (.bin .lss (.t 17) (.t 16))])
 (.seq (.cond (.t 18) .skip (.exit 0))
 (.seq (.block 1 (.seq (rg [oo 19 (.mv (.t 17)),
  oo 20 (.iaddr 1 (.t 15) (.t 17)),
  oo 21 (.load false 1 (.t 20)),
  oo 7 (.mv (.t 19)),
  oo 8 (.mv (.t 21))])
 (.seq (rg [oo 22 (.mv (.t 5)),
  oo 23 (.mv (.t 7)),
  oo 24 (.bin .add (.t 23) (ci 1)),
  oo 25 (.callv false (.t 22) [(.t 24)]),
  oo 26 (.mv (.t 5)),
  oo 27 (.mv (.t 7)),
  oo 28 (.callv false (.t 26) [(.t 27)]),
  oo 29 (.bin .lss (.t 25) (.t 28)),
  oo 30 (.mv (.t 29)),
  ⟨some 31, .mv (.t 5), some (30, true)⟩,
  ⟨some 32, .mv (.t 7), some (30, true)⟩,
  ⟨some 33, .bin .sub (.t 32) (ci 1), some (30, true)⟩,
  ⟨some 34, .callv false (.t 31) [(.t 33)], some (30, true)⟩,
  ⟨some 35, .mv (.t 5), some (30, true)⟩,
  ⟨some 36, .mv (.t 7), some (30, true)⟩,
  ⟨some 37, .bin .add (.t 36) (ci 1), some (30, true)⟩,
  ⟨some 38, .callv false (.t 35) [(.t 37)], some (30, true)⟩,
  ⟨some 39, .bin .geq (.t 34) (.t 38), some (30, true)⟩,
  oo 40 (.pick (.t 30) (.t 39) (.c (.bool false))),
  oo 41 (.mv (.t 40)),
  ⟨some 42, .mv (.t 6), some (41, true)⟩,
  ⟨some 43, .bin .eql (.t 42) (ci 0), some (41, true)⟩,
  ⟨some 44, .mv (.t 43), some (41, true)⟩,
  ⟨some 45, .mv (.t 8), some (44, false)⟩,
  ⟨some 46, .mv (.t 6), some (44, false)⟩,
  ⟨some 47, .bin .lss (.t 45) (.t 46), some (44, false)⟩,
  ⟨some 48, .pick (.t 44) (.c (.bool true)) (.t 47), some (41, true)⟩,
  oo 49 (.pick (.t 41) (.t 48) (.c (.bool false)))])
 (.cond (.t 49) (rg [oo 50 (.mv (.t 8)),
  oo 6 (.mv (.t 50))]) .skip))))
 (rg [oo 51 (.bin .add (.t 17) (ci 1)),
  oo 17 (.mv (.t 51))]))))
def f7_r0 : AC :=
 (.seq (rg [oo 52 (.mv (.t 6)),
  oo 4 (.mv (.t 52))])
 .ret)
def f7_ac : AC :=
 (.seq (rg [oo 2 (.box true 2 (.t 0)),
  oo 3 (.box true 3 (.t 1)),
  oo 4 (.mv (ci 0))])
 (.seq (.seq (.region 5 [oo 9 (.load false 1 (.t 2)),
  oo 10 (.call false 408 [(.t 9)]),
  oo 11 (.load false 1 (.t 3)),
  oo 12 (.call false 60 [(.t 10), (.t 11)]),
  oo 13 (.un .not (.t 12))])
 (.cond (.t 13) (.seq (rg [oo 4 (.mv (ci 0))])
 .ret) .skip))
 (.seq (rg [oo 14 (.mkfn 428 [(.t 2), (.t 3)]),
  oo 5 (.mv (.t 14))])
 (.seq (rg [oo 6 (.mv (ci 0))])
 (.seq (.seq (rg [oo 15 (.load false 1 (.t 3)),
  oo 16 (.len false (.t 15)),
  oo 17 (.mv (ci 0))])
 (.block 0 (.loop ⟨[5, 6, 15, 16, 17], [], []⟩ f7_b0)))
 f7_r0)))))
noncomputable def f7_l0 (E : Env) (x5_0 : U) (x5_1 : U) (x6 : U) (x15 : U) (x16 : U) (x17 : U) : Option U := loopK (roundOf E ⟨[5, 6, 15, 16, 17], [], []⟩ f7_b0 (blockK 0 (seqK (fun s => exec E f7_r0 s (finish [(4, none)])) (finish [(4, none)])))) ([.fnv 428 [.val x5_0, .val x5_1], .val x6, .val x15, .val x16, .val x17], [])
theorem f7_l0_eq (E : Env) (x5_0 : U) (x5_1 : U) (x6 : U) (x15 : U) (x16 : U) (x17 : U) : f7_l0 E x5_0 x5_1 x6 x15 x16 x17 =
 (U.bin .lss x17 x16).bind fun t10 => U.asBool t10
 (U.asInt x17 fun n11 => U.elemAt 1 x15 n11 fun e12 => U.asVar false 1 e12 fun e13 => (U.bin .add x17 (.int .i64 1)).bind fun t14 => (E 428 ([t14] ++ [x5_0, x5_1])).bind fun t15 => U.asFlat t15 fun t16 => (E 428 ([x17] ++ [x5_0, x5_1])).bind fun t17 => U.asFlat t17 fun t18 => (U.bin .lss t16 t18).bind fun t19 => U.asBool t19
 ((U.bin .sub x17 (.int .i64 1)).bind fun t20 => (E 428 ([t20] ++ [x5_0, x5_1])).bind fun t21 => U.asFlat t21 fun t22 => (U.bin .add x17 (.int .i64 1)).bind fun t23 => (E 428 ([t23] ++ [x5_0, x5_1])).bind fun t24 => U.asFlat t24 fun t25 => (U.bin .geq t22 t25).bind fun t26 => U.asBool t26
 ((U.bin .eql x6 (.int .i64 0)).bind fun t27 => U.asBool t27
 ((U.bin .add x17 (.int .i64 1)).bind fun t28 => f7_l0 E x5_0 x5_1 e13 x15 x16 t28)
 ((U.bin .lss e13 x6).bind fun t29 => U.asBool t29
 ((U.bin .add x17 (.int .i64 1)).bind fun t30 => f7_l0 E x5_0 x5_1 e13 x15 x16 t30)
 ((U.bin .add x17 (.int .i64 1)).bind fun t31 => f7_l0 E x5_0 x5_1 x6 x15 x16 t31)))
 ((U.bin .add x17 (.int .i64 1)).bind fun t32 => f7_l0 E x5_0 x5_1 x6 x15 x16 t32))
 ((U.bin .add x17 (.int .i64 1)).bind fun t33 => f7_l0 E x5_0 x5_1 x6 x15 x16 t33))
 (some x6) :=
 (loop_eq E _ _ _ _).trans (by kernel_rfl)
structure G_f7 (E : Env) : Prop where
  is : Is E 426 2 f7_ac [(4, none)]
  c_f4 : G_f4 E
  c_f6 : G_f6 E
  c_f8 : G_f8 E
theorem f7_E {E : Env} (h : G_f7 E) (a0 a1 : U) : E 426 [a0, a1] =
 U.noTup a0 fun x1 => U.noTup a1 fun x2 => U.asVar false 1 x1 fun e3 => (E 408 [e3]).bind fun t4 => U.asVar false 1 x2 fun e5 => (E 60 [t4, e5]).bind fun t6 => (U.un .not t6).bind fun t7 => U.asBool t7
 (some (.int .i64 0))
 (U.asVar false 1 x2 fun e8 => (U.lenOf false e8).bind fun n9 => f7_l0 E (.vp x1) (.vp x2) (.int .i64 0) e8 (.int .i64 (n9 : Int)) (.int .i64 0)) := (h.is _ rfl).trans ((runQ_V rfl).trans (by kernel_rfl))
def f31_ac : AC :=
 (.seq (rg [oo 4 (.mv (.c (.bool false)))])
 (.seq (.seq (rg [oo 10 (.mv (.t 1)),
  oo 11 (.len false (.t 10)),
  oo 12 (.bin .gtr (.t 11) (ci 1048576))])
 (.cond (.t 12) (.seq (rg [oo 4 (.mv (.c (.bool true)))])
 .ret) .skip))
 (.seq (rg [oo 5 (.mv (ci 1048576))])
 (.seq (rg [oo 13 (.mv (.t 0)),
  oo 14 (.mv (.t 5)),
  oo 15 (.call false 49 [(.t 13), (.t 14)]),
  oo 5 (.mv (.t 15))])
 (.seq (.seq (rg [oo 16 (.mv (.t 5)),
  oo 17 (.bin .lss (.t 16) (ci 0))])
 (.cond (.t 17) (.seq (rg [oo 4 (.mv (.c (.bool true)))])
 .ret) .skip))
 (.seq (rg [oo 18 (.mv (.t 0)),
  oo 19 (.call false 45 [(.t 18)]),
  oo 20 (.mv (.t 1)),
  oo 21 (.call false 58 [(.t 20)]),
  oo 22 (.call false 427 [(.t 19), (.t 21)]),
  oo 6 (.mv (.t 22))])
 (.seq (rg [oo 23 (.mv (.t 0)),
  oo 24 (.call false 45 [(.t 23)]),
  oo 7 (.mv (.t 24))])
 (.seq (rg [oo 25 (.mv (.t 1)),
  oo 26 (.call false 58 [(.t 25)]),
  oo 8 (.mv (.t 26))])
 (.seq (rg [oo 27 (.mv (.t 7)),
  oo 28 (.mv (.t 8)),
  oo 29 (.call false 426 [(.t 27), (.t 28)]),
  oo 9 (.mv (.t 29))])
 (.seq (.seq (rg [oo 30 (.mv (.t 9)),
  oo 31 (.mv (.t 6)),
  oo 32 (.bin .neq (.t 30) (.t 31))])
 (.cond (.t 32) (.seq (rg [oo 4 (.mv (.c (.bool false)))])
 .ret) .skip))
 (.seq (.seq (rg [oo 33 (.mv (.t 7)),
  oo 34 (.mv (.t 0)),
  oo 35 (.call false 45 [(.t 34)]),
  oo 36 (.call false 46 [(.t 33), (.t 35)]),
  oo 37 (.un .not (.t 36))])
 (.cond (.t 37) (.seq (rg [oo 4 (.mv (.c (.bool false)))])
 .ret) .skip))
 (.seq (.seq (rg [oo 38 (.mv (.t 8)),
  oo 39 (.mv (.t 1)),
  oo 40 (.call false 58 [(.t 39)]),
  oo 41 (.call false 59 [(.t 38), (.t 40)]),
  oo 42 (.un .not (.t 41))])
 (.cond (.t 42) (.seq (rg [oo 4 (.mv (.c (.bool false)))])
 .ret) .skip))
 (.seq (rg [oo 4 (.mv (.c (.bool true)))])
 .ret)))))))))))))
structure G_f31 (E : Env) : Prop where
  is : Is E 425 2 f31_ac [(4, none)]
  c_f40 : G_f40 E
  c_f44 : G_f44 E
  c_f33 : G_f33 E
  c_f45 : G_f45 E
  c_f34 : G_f34 E
  c_f61 : G_f61 E
  c_f7 : G_f7 E
theorem f31_E {E : Env} (h : G_f31 E) (a0 a1 : U) : E 425 [a0, a1] =
 (U.lenOf false a1).bind fun n1 => (U.bin .gtr (.int .i64 (n1 : Int)) (.int .i64 1048576)).bind fun t2 => U.asBool t2
 (some (.bool true))
 ((E 49 [a0, (.int .i64 1048576)]).bind fun t3 => (U.bin .lss t3 (.int .i64 0)).bind fun t4 => U.asBool t4
 (some (.bool true))
 ((E 45 [a0]).bind fun t5 => (E 58 [a1]).bind fun t6 => (E 427 [t5, t6]).bind fun t7 => (E 45 [a0]).bind fun t8 => (E 58 [a1]).bind fun t9 => (E 426 [t8, t9]).bind fun t10 => (U.bin .neq t10 t7).bind fun t11 => U.asBool t11
 (some (.bool false))
 ((E 45 [a0]).bind fun t12 => (E 46 [t8, t12]).bind fun t13 => (U.un .not t13).bind fun t14 => U.asBool t14
 (some (.bool false))
 ((E 58 [a1]).bind fun t15 => (E 59 [t9, t15]).bind fun t16 => (U.un .not t16).bind fun t17 => U.asBool t17
 (some (.bool false))
 (some (.bool true)))))) := (h.is _ rfl).trans ((runQ_V rfl).trans (by kernel_rfl))
end Go.Proofs.Ytlmnkhlkccipfaa.Am
