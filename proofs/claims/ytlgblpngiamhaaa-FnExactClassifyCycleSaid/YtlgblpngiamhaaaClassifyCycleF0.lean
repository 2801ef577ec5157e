import Derived.KernelRfl
import Derived.Test.YtlgblpngiamhaaaAmW
import Derived.Test.YtlgblpngiamhaaaAmSo
namespace Go.Proofs.Ytlgblpngiamhaaa.Am
open Go
set_option linter.unusedVariables false
set_option maxRecDepth 100000
def f43_ac : AC :=
 (.seq (rg [oo 4 (.mv (ci 0))])
 (.seq (rg [oo 5 (.mv (.t 1)),
  oo 6 (.mv (.t 0)),
  oo 7 (.len false (.t 6)),
  oo 8 (.bin .sub (.t 5) (.t 7)),
  oo 1 (.mv (.t 8))])
 (.seq (.seq (rg [oo 9 (.mv (.t 1)),
  oo 10 (.bin .lss (.t 9) (ci 0))])
 (.cond (.t 10) (.seq (rg [oo 4 (.mv (ci (-1)))])
 .ret) .skip))
 (.seq (rg [oo 11 (.mv (.t 1)),
  oo 4 (.mv (.t 11))])
 .ret))))
structure G_f43 (E : Env) : Prop where
  is : Is E 24 2 f43_ac [(4, none)]
theorem f43_E {E : Env} (h : G_f43 E) (a0 a1 : U) : E 24 [a0, a1] =
 (U.lenOf false a0).bind fun n1 => (U.bin .sub a1 (.int .i64 (n1 : Int))).bind fun t2 => (U.bin .lss t2 (.int .i64 0)).bind fun t3 => U.asBool t3
 (some (.int .i64 (-1)))
 (some t2) := (h.is _ rfl).trans ((runQ_V rfl).trans (by kernel_rfl))
def f44_ac : AC :=
 (.seq (rg [oo 4 (.mv (ci 0))])
 (.seq (rg [oo 5 (.mv (.t 1)),
  oo 6 (.mv (.t 0)),
  oo 7 (.len false (.t 6)),
  oo 8 (.bin .sub (.t 5) (.t 7)),
  oo 1 (.mv (.t 8))])
 (.seq (.seq (rg [oo 9 (.mv (.t 1)),
  oo 10 (.bin .lss (.t 9) (ci 0))])
 (.cond (.t 10) (.seq (rg [oo 4 (.mv (ci (-1)))])
 .ret) .skip))
 (.seq (rg [oo 11 (.mv (.t 1)),
  oo 4 (.mv (.t 11))])
 .ret))))
structure G_f44 (E : Env) : Prop where
  is : Is E 23 2 f44_ac [(4, none)]
theorem f44_E {E : Env} (h : G_f44 E) (a0 a1 : U) : E 23 [a0, a1] =
 (U.lenOf false a0).bind fun n1 => (U.bin .sub a1 (.int .i64 (n1 : Int))).bind fun t2 => (U.bin .lss t2 (.int .i64 0)).bind fun t3 => U.asBool t3
 (some (.int .i64 (-1)))
 (some t2) := (h.is _ rfl).trans ((runQ_V rfl).trans (by kernel_rfl))
def f41_ac : AC :=
 (.seq (rg [oo 2 (.box false 2 (.t 0)),
  oo 4 (.mv (ci 0))])
 (.seq (rg [oo 5 (.faddr 2 2 (.t 2)),
  oo 6 (.load false 1 (.t 5)),
  oo 7 (.mv (.t 1)),
  oo 8 (.call false 24 [(.t 6), (.t 7)]),
  oo 1 (.mv (.t 8))])
 (.seq (.seq (rg [oo 9 (.mv (.t 1)),
  oo 10 (.bin .lss (.t 9) (ci 0))])
 (.cond (.t 10) (.seq (rg [oo 4 (.mv (ci (-1)))])
 .ret) .skip))
 (.seq (rg [oo 11 (.faddr 3 3 (.t 2)),
  oo 12 (.load false 1 (.t 11)),
  oo 13 (.mv (.t 1)),
  oo 14 (.call false 23 [(.t 12), (.t 13)]),
  oo 1 (.mv (.t 14))])
 (.seq (.seq (rg [oo 15 (.mv (.t 1)),
  oo 16 (.bin .lss (.t 15) (ci 0))])
 (.cond (.t 16) (.seq (rg [oo 4 (.mv (ci (-1)))])
 .ret) .skip))
 (.seq (rg [oo 17 (.mv (.t 1)),
  oo 4 (.mv (.t 17))])
 .ret))))))
structure G_f41 (E : Env) : Prop where
  is : Is E 50 2 f41_ac [(4, none)]
  c_f43 : G_f43 E
  c_f44 : G_f44 E
theorem f41_E {E : Env} (h : G_f41 E) (a0 a1 : U) : E 50 [a0, a1] =
 U.noTup a0 fun x1 => U.asAgg x1 fun us2 => if 2 = sizes (us2.take 2) then (us2[2]?).bind fun e3 => U.asVar false 1 e3 fun e4 => (E 24 [e4, a1]).bind fun t5 => (U.bin .lss t5 (.int .i64 0)).bind fun t6 => U.asBool t6
 (some (.int .i64 (-1)))
 (U.asAgg x1 fun us7 => if 3 = sizes (us7.take 3) then (us7[3]?).bind fun e8 => U.asVar false 1 e8 fun e9 => (E 23 [e9, t5]).bind fun t10 => (U.bin .lss t10 (.int .i64 0)).bind fun t11 => U.asBool t11
 (some (.int .i64 (-1)))
 (some t10) else none) else none := (h.is _ rfl).trans ((runQ_V rfl).trans (by kernel_rfl))
def f42_b0 : AC :=
 (.seq (.seq (rg [oo 12 (.mv (.t 5)),
  oo 13 (.mv (.t 0)),
  oo 14 (.len false (.t 13)),
  oo 15 (.bin .lss (.t 12) (.t 14))])
 (.cond (.t 15) .skip (.exit 0)))
 (.seq (.block 1 (.seq (rg [oo 18 (.mv (.t 0)),
  oo 19 (.mv (.t 5)),
  oo 20 (.iaddr 4 (.t 18) (.t 19)),
  oo 21 (.load true 4 (.t 20)),
  oo 22 (.mv (.t 1)),
  oo 23 (.call false 50 [(.t 21), (.t 22)]),
  oo 1 (.mv (.t 23))])
 (.seq (rg [oo 24 (.mv (.t 1)),
  oo 25 (.bin .lss (.t 24) (ci 0))])
 (.cond (.t 25) (.seq (rg [oo 4 (.mv (ci (-1)))])
 .ret) .skip))))
 (rg [oo 16 (.mv (.t 5)),
  oo 17 (.bin .add (.t 16) (ci 1)),
  oo 5 (.mv (.t 17))])))
def f42_r0 : AC :=
 (.seq (rg [oo 26 (.mv (.t 1)),
  oo 4 (.mv (.t 26))])
 .ret)
def f42_ac : AC :=
 (.seq (rg [oo 4 (.mv (ci 0))])
 (.seq (rg [oo 6 (.mv (.t 1)),
  oo 7 (.mv (.t 0)),
  oo 8 (.len false (.t 7)),
  oo 9 (.bin .sub (.t 6) (.t 8)),
  oo 1 (.mv (.t 9))])
 (.seq (.seq (rg [oo 10 (.mv (.t 1)),
  oo 11 (.bin .lss (.t 10) (ci 0))])
 (.cond (.t 11) (.seq (rg [oo 4 (.mv (ci (-1)))])
 .ret) .skip))
 (.seq (.seq (rg [oo 5 (.mv (ci 0))])
 (.block 0 (.loop ⟨[0, 1, 5], [], []⟩ f42_b0)))
 f42_r0))))
noncomputable def f42_l0 (E : Env) (x0 : U) (x1 : U) (x5 : U) : Option U := loopK (roundOf E ⟨[0, 1, 5], [], []⟩ f42_b0 (blockK 0 (seqK (fun s => exec E f42_r0 s (finish [(4, none)])) (finish [(4, none)])))) ([.val x0, .val x1, .val x5], [])
theorem f42_l0_eq (E : Env) (x0 : U) (x1 : U) (x5 : U) : f42_l0 E x0 x1 x5 =
 (U.lenOf false x0).bind fun n4 => (U.bin .lss x5 (.int .i64 (n4 : Int))).bind fun t5 => U.asBool t5
 (U.asInt x5 fun n6 => U.elemAt 4 x0 n6 fun e7 => U.asVar true 4 e7 fun e8 => (E 50 [e8, x1]).bind fun t9 => (U.bin .lss t9 (.int .i64 0)).bind fun t10 => U.asBool t10
 (some (.int .i64 (-1)))
 ((U.bin .add x5 (.int .i64 1)).bind fun t11 => f42_l0 E x0 t9 t11))
 (some x1) :=
 (loop_eq E _ _ _ _).trans (by kernel_rfl)
structure G_f42 (E : Env) : Prop where
  is : Is E 49 2 f42_ac [(4, none)]
  c_f41 : G_f41 E
theorem f42_E {E : Env} (h : G_f42 E) (a0 a1 : U) : E 49 [a0, a1] =
 (U.lenOf false a0).bind fun n1 => (U.bin .sub a1 (.int .i64 (n1 : Int))).bind fun t2 => (U.bin .lss t2 (.int .i64 0)).bind fun t3 => U.asBool t3
 (some (.int .i64 (-1)))
 (f42_l0 E a0 t2 (.int .i64 0)) := (h.is _ rfl).trans ((runQ_V rfl).trans (by kernel_rfl))
def f66_b0 : AC :=
 (.seq (.seq (rg [oo 6 (.mv (.t 5)),
  oo 7 (.mv (.t 0)),
  oo 8 (.len false (.t 7)),
  oo 9 (.bin .lss (.t 6) (.t 8))])
 (.cond (.t 9) .skip (.exit 0)))
 (.seq (.block 1 (.seq (rg [oo 12 (.mv (.t 0)),
  oo 13 (.mv (.t 5)),
  oo 14 (.iaddr 4 (.t 12) (.t 13)),
  oo 15 (.faddr 0 0 (.t 14)),
  oo 16 (.load false 1 (.t 15)),
  oo 17 (.mv (.t 1)),
  oo 18 (.bin .eql (.t 16) (.t 17))])
 (.cond (.t 18) (.seq (rg [oo 19 (.mv (.t 5)),
  oo 4 (.mv (.t 19))])
 .ret) .skip)))
 (rg [oo 10 (.mv (.t 5)),
  oo 11 (.bin .add (.t 10) (ci 1)),
  oo 5 (.mv (.t 11))])))
def f66_r0 : AC :=
 (.seq (rg [oo 4 (.mv (ci (-1)))])
 .ret)
def f66_ac : AC :=
 (.seq (rg [oo 4 (.mv (ci 0))])
 (.seq (.seq (rg [oo 5 (.mv (ci 0))])
 (.block 0 (.loop ⟨[0, 1, 5], [], []⟩ f66_b0)))
 f66_r0))
noncomputable def f66_l0 (E : Env) (x0 : U) (x1 : U) (x5 : U) : Option U := loopK (roundOf E ⟨[0, 1, 5], [], []⟩ f66_b0 (blockK 0 (seqK (fun s => exec E f66_r0 s (finish [(4, none)])) (finish [(4, none)])))) ([.val x0, .val x1, .val x5], [])
theorem f66_l0_eq (E : Env) (x0 : U) (x1 : U) (x5 : U) : f66_l0 E x0 x1 x5 =
 (U.lenOf false x0).bind fun n1 => (U.bin .lss x5 (.int .i64 (n1 : Int))).bind fun t2 => U.asBool t2
 (U.asInt x5 fun n3 => U.elemAt 4 x0 n3 fun e4 => U.fieldAt 0 0 e4 fun f5 => U.asVar false 1 f5 fun e6 => (U.bin .eql e6 x1).bind fun t7 => U.asBool t7
 (some x5)
 ((U.bin .add x5 (.int .i64 1)).bind fun t8 => f66_l0 E x0 x1 t8))
 (some (.int .i64 (-1))) :=
 (loop_eq E _ _ _ _).trans (by kernel_rfl)
structure G_f66 (E : Env) : Prop where
  is : Is E 241 2 f66_ac [(4, none)]
theorem f66_E {E : Env} (h : G_f66 E) (a0 a1 : U) : E 241 [a0, a1] =
 f66_l0 E a0 a1 (.int .i64 0) := (h.is _ rfl).trans ((runQ_V rfl).trans (by kernel_rfl))
def f75_ac : AC :=
 (.seq (rg [oo 6 (.mv (.c (.bool false)))])
 (.seq (rg [oo 7 (.mv (.t 0)),
  oo 8 (.mv (.t 1)),
  oo 9 (.bin .geq (.t 7) (.t 8)),
  oo 10 (.mv (.t 9)),
  ⟨some 11, .mv (.t 0), some (10, true)⟩,
  ⟨some 12, .mv (.t 2), some (10, true)⟩,
  ⟨some 13, .bin .leq (.t 11) (.t 12), some (10, true)⟩,
  oo 14 (.pick (.t 10) (.t 13) (.c (.bool false))),
  oo 6 (.mv (.t 14))])
 .ret))
structure G_f75 (E : Env) : Prop where
  is : Is E 6 3 f75_ac [(6, none)]
theorem f75_E {E : Env} (h : G_f75 E) (a0 a1 a2 : U) : E 6 [a0, a1, a2] =
 (U.bin .geq a0 a1).bind fun t1 => U.asBool t1
 ((U.bin .leq a0 a2).bind fun t2 => some t2)
 (some (.bool false)) := (h.is _ rfl).trans ((runQ_V rfl).trans (by kernel_rfl))
def f77_ac : AC :=
 (.seq (rg [oo 2 (.box false 2 (.t 0)),
  oo 3 (.box false 3 (.t 1)),
  oo 4 (.mv (.c (.bool false)))])
 (.seq (rg [oo 5 (.faddr 0 0 (.t 2)),
  oo 6 (.load false 1 (.t 5)),
  oo 7 (.faddr 0 0 (.t 3)),
  oo 8 (.load false 1 (.t 7)),
  oo 9 (.bin .lss (.t 6) (.t 8)),
  oo 10 (.mv (.t 9)),
  ⟨some 11, .faddr 0 0 (.t 2), some (10, false)⟩,
  ⟨some 12, .load false 1 (.t 11), some (10, false)⟩,
  ⟨some 13, .faddr 0 0 (.t 3), some (10, false)⟩,
  ⟨some 14, .load false 1 (.t 13), some (10, false)⟩,
  ⟨some 15, .bin .eql (.t 12) (.t 14), some (10, false)⟩,
  ⟨some 16, .mv (.t 15), some (10, false)⟩,
  ⟨some 17, .faddr 1 1 (.t 2), some (16, true)⟩,
  ⟨some 18, .load false 1 (.t 17), some (16, true)⟩,
  ⟨some 19, .faddr 1 1 (.t 3), some (16, true)⟩,
  ⟨some 20, .load false 1 (.t 19), some (16, true)⟩,
  ⟨some 21, .bin .lss (.t 18) (.t 20), some (16, true)⟩,
  ⟨some 22, .pick (.t 16) (.t 21) (.c (.bool false)), some (10, false)⟩,
  oo 23 (.pick (.t 10) (.c (.bool true)) (.t 22)),
  oo 4 (.mv (.t 23))])
 .ret))
structure G_f77 (E : Env) : Prop where
  is : Is E 71 2 f77_ac [(4, none)]
theorem f77_E {E : Env} (h : G_f77 E) (a0 a1 : U) : E 71 [a0, a1] =
 U.noTup a0 fun x1 => U.noTup a1 fun x2 => U.asAgg x1 fun us3 => if 0 = sizes (us3.take 0) then (us3[0]?).bind fun e4 => U.asVar false 1 e4 fun e5 => U.asAgg x2 fun us6 => if 0 = sizes (us6.take 0) then (us6[0]?).bind fun e7 => U.asVar false 1 e7 fun e8 => (U.bin .lss e5 e8).bind fun t9 => U.asBool t9
 (some (.bool true))
 (U.asAgg x1 fun us10 => if 0 = sizes (us10.take 0) then (us10[0]?).bind fun e11 => U.asVar false 1 e11 fun e12 => U.asAgg x2 fun us13 => if 0 = sizes (us13.take 0) then (us13[0]?).bind fun e14 => U.asVar false 1 e14 fun e15 => (U.bin .eql e12 e15).bind fun t16 => U.asBool t16
 (U.asAgg x1 fun us17 => if 1 = sizes (us17.take 1) then (us17[1]?).bind fun e18 => U.asVar false 1 e18 fun e19 => U.asAgg x2 fun us20 => if 1 = sizes (us20.take 1) then (us20[1]?).bind fun e21 => U.asVar false 1 e21 fun e22 => (U.bin .lss e19 e22).bind fun t23 => some t23 else none else none)
 (some (.bool false)) else none else none) else none else none := (h.is _ rfl).trans ((runQ_V rfl).trans (by kernel_rfl))
def f69_b1 : AC :=
 (.seq (.seq (rg [oo 7 (.mv (.t 3)),
  oo 8 (.faddr 7 7 (.t 1)),
  oo 9 (.load false 1 (.t 8)),
  oo 10 (.len false (.t 9)),
  oo 11 (.bin .lss (.t 7) (.t 10))])
 (.cond (.t 11) .skip (.exit 0)))
 (.seq (.block 1 (.seq (rg [oo 14 (.faddr 7 7 (.t 1)),
  oo 15 (.load false 1 (.t 14)),
  oo 16 (.mv (.t 3)),
  oo 17 (.iaddr 2 (.t 15) (.t 16)),
  oo 18 (.load true 2 (.t 17)),
  oo 4 (.alloc 4 (.agg [(.int .i64 0), (.int .i64 0)])),
  ⟨none, .store 2 (.t 4) (.t 18), none⟩])
 (.seq (.region 25 [oo 19 (.faddr 0 0 (.t 4)),
  oo 20 (.load false 1 (.t 19)),
  oo 21 (.call false 6 [(.t 20), (ci 0), (ci 5)]),
  oo 22 (.un .not (.t 21)),
  oo 23 (.mv (.t 22)),
  ⟨some 24, .faddr 1 1 (.t 4), some (23, false)⟩,
  ⟨some 25, .load false 1 (.t 24), some (23, false)⟩,
  ⟨some 26, .call false 6 [(.t 25), (ci 0), (ci 999)], some (23, false)⟩,
  ⟨some 27, .un .not (.t 26), some (23, false)⟩,
  oo 28 (.pick (.t 23) (.c (.bool true)) (.t 27)),
  oo 29 (.mv (.t 28)),
  ⟨some 30, .mv (.t 3), some (29, false)⟩,
  ⟨some 31, .bin .gtr (.t 30) (ci 0), some (29, false)⟩,
  ⟨some 32, .mv (.t 31), some (29, false)⟩,
  ⟨some 33, .faddr 7 7 (.t 1), some (32, true)⟩,
  ⟨some 34, .load false 1 (.t 33), some (32, true)⟩,
  ⟨some 35, .mv (.t 3), some (32, true)⟩,
  ⟨some 36, .bin .sub (.t 35) (ci 1), some (32, true)⟩,
  ⟨some 37, .iaddr 2 (.t 34) (.t 36), some (32, true)⟩,
  ⟨some 38, .load true 2 (.t 37), some (32, true)⟩,
  ⟨some 39, .load true 2 (.t 4), some (32, true)⟩,
  ⟨some 40, .call false 71 [(.t 38), (.t 39)], some (32, true)⟩,
  ⟨some 41, .un .not (.t 40), some (32, true)⟩,
  ⟨some 42, .pick (.t 32) (.t 41) (.c (.bool false)), some (29, false)⟩,
  oo 43 (.pick (.t 29) (.c (.bool true)) (.t 42))])
 (.cond (.t 43) (.seq (rg [oo 2 (.mv (.c (.bool false)))])
 .ret) .skip))))
 (rg [oo 12 (.mv (.t 3)),
  oo 13 (.bin .add (.t 12) (ci 1)),
  oo 3 (.mv (.t 13))])))
def f69_b0 : AC :=
 (.seq (.seq (rg [oo 44 (.mv (.t 5)),
  oo 45 (.faddr 8 8 (.t 1)),
  oo 46 (.load false 1 (.t 45)),
  oo 47 (.len false (.t 46)),
  oo 48 (.bin .lss (.t 44) (.t 47))])
 (.cond (.t 48) .skip (.exit 2)))
 (.seq (.block 3 (.seq (rg [oo 51 (.faddr 8 8 (.t 1)),
  oo 52 (.load false 1 (.t 51)),
  oo 53 (.mv (.t 5)),
  oo 54 (.iaddr 2 (.t 52) (.t 53)),
  oo 55 (.load true 2 (.t 54)),
  oo 6 (.alloc 6 (.agg [(.int .i64 0), (.int .i64 0)])),
  ⟨none, .store 2 (.t 6) (.t 55), none⟩])
 (.seq (.region 26 [oo 56 (.faddr 0 0 (.t 6)),
  oo 57 (.load false 1 (.t 56)),
  oo 58 (.call false 6 [(.t 57), (ci 0), (ci 5)]),
  oo 59 (.un .not (.t 58)),
  oo 60 (.mv (.t 59)),
  ⟨some 61, .faddr 1 1 (.t 6), some (60, false)⟩,
  ⟨some 62, .load false 1 (.t 61), some (60, false)⟩,
  ⟨some 63, .call false 6 [(.t 62), (ci (-1)), (ci 99)], some (60, false)⟩,
  ⟨some 64, .un .not (.t 63), some (60, false)⟩,
  oo 65 (.pick (.t 60) (.c (.bool true)) (.t 64)),
  oo 66 (.mv (.t 65)),
  ⟨some 67, .mv (.t 5), some (66, false)⟩,
  ⟨some 68, .bin .gtr (.t 67) (ci 0), some (66, false)⟩,
  ⟨some 69, .mv (.t 68), some (66, false)⟩,
  ⟨some 70, .faddr 8 8 (.t 1), some (69, true)⟩,
  ⟨some 71, .load false 1 (.t 70), some (69, true)⟩,
  ⟨some 72, .mv (.t 5), some (69, true)⟩,
  ⟨some 73, .bin .sub (.t 72) (ci 1), some (69, true)⟩,
  ⟨some 74, .iaddr 2 (.t 71) (.t 73), some (69, true)⟩,
  ⟨some 75, .faddr 0 0 (.t 74), some (69, true)⟩,
  ⟨some 76, .load false 1 (.t 75), some (69, true)⟩,
  ⟨some 77, .faddr 0 0 (.t 6), some (69, true)⟩,
  ⟨some 78, .load false 1 (.t 77), some (69, true)⟩,
  ⟨some 79, .bin .geq (.t 76) (.t 78), some (69, true)⟩,
  ⟨some 80, .pick (.t 69) (.t 79) (.c (.bool false)), some (66, false)⟩,
  oo 81 (.pick (.t 66) (.c (.bool true)) (.t 80))])
 (.cond (.t 81) (.seq (rg [oo 2 (.mv (.c (.bool false)))])
 .ret) .skip))))
 (rg [oo 49 (.mv (.t 5)),
  oo 50 (.bin .add (.t 49) (ci 1)),
  oo 5 (.mv (.t 50))])))
def f69_r0 : AC :=
 (.seq (.seq (rg [oo 82 (.faddr 0 0 (.t 1)),
  oo 83 (.load false 1 (.t 82)),
  oo 84 (.call false 6 [(.t 83), (ci 1), (ci 9)]),
  oo 85 (.un .not (.t 84)),
  oo 86 (.mv (.t 85)),
  ⟨some 87, .faddr 1 1 (.t 1), some (86, false)⟩,
  ⟨some 88, .load false 1 (.t 87), some (86, false)⟩,
  ⟨some 89, .call false 6 [(.t 88), (ci 1), (ci 4)], some (86, false)⟩,
  ⟨some 90, .un .not (.t 89), some (86, false)⟩,
  oo 91 (.pick (.t 86) (.c (.bool true)) (.t 90)),
  oo 92 (.mv (.t 91)),
  ⟨some 93, .faddr 3 3 (.t 1), some (92, false)⟩,
  ⟨some 94, .load false 1 (.t 93), some (92, false)⟩,
  ⟨some 95, .call false 6 [(.t 94), (ci 0), (ci 999)], some (92, false)⟩,
  ⟨some 96, .un .not (.t 95), some (92, false)⟩,
  oo 97 (.pick (.t 92) (.c (.bool true)) (.t 96))])
 (.cond (.t 97) (.seq (rg [oo 2 (.mv (.c (.bool false)))])
 .ret) .skip))
 (.seq (rg [oo 98 (.faddr 2 2 (.t 1)),
  oo 99 (.load false 1 (.t 98)),
  oo 100 (.call false 6 [(.t 99), (ci 1), (ci 3)]),
  oo 101 (.mv (.t 100)),
  ⟨some 102, .faddr 4 4 (.t 1), some (101, true)⟩,
  ⟨some 103, .load false 1 (.t 102), some (101, true)⟩,
  ⟨some 104, .call false 6 [(.t 103), (ci 0), (ci 999)], some (101, true)⟩,
  oo 105 (.pick (.t 101) (.t 104) (.c (.bool false))),
  oo 106 (.mv (.t 105)),
  ⟨some 107, .faddr 5 5 (.t 1), some (106, true)⟩,
  ⟨some 108, .load false 1 (.t 107), some (106, true)⟩,
  ⟨some 109, .call false 6 [(.t 108), (ci 1), (ci 1000)], some (106, true)⟩,
  oo 110 (.pick (.t 106) (.t 109) (.c (.bool false))),
  oo 111 (.mv (.t 110)),
  ⟨some 112, .faddr 2 2 (.t 1), some (111, true)⟩,
  ⟨some 113, .load false 1 (.t 112), some (111, true)⟩,
  ⟨some 114, .bin .eql (.t 113) (ci 2), some (111, true)⟩,
  ⟨some 115, .faddr 6 6 (.t 1), some (111, true)⟩,
  ⟨some 116, .load false 1 (.t 115), some (111, true)⟩,
  ⟨some 117, .bin .gtr (.t 116) (ci 0), some (111, true)⟩,
  ⟨some 118, .eqv false 0 (.t 114) (.t 117), some (111, true)⟩,
  oo 119 (.pick (.t 111) (.t 118) (.c (.bool false))),
  oo 120 (.mv (.t 119)),
  ⟨some 121, .faddr 6 6 (.t 1), some (120, true)⟩,
  ⟨some 122, .load false 1 (.t 121), some (120, true)⟩,
  ⟨some 123, .call false 6 [(.t 122), (ci 0), (ci 999)], some (120, true)⟩,
  oo 124 (.pick (.t 120) (.t 123) (.c (.bool false))),
  oo 125 (.mv (.t 124)),
  ⟨some 126, .faddr 7 7 (.t 1), some (125, true)⟩,
  ⟨some 127, .load false 1 (.t 126), some (125, true)⟩,
  ⟨some 128, .len false (.t 127), some (125, true)⟩,
  ⟨some 129, .bin .leq (.t 128) (ci 60), some (125, true)⟩,
  oo 130 (.pick (.t 125) (.t 129) (.c (.bool false))),
  oo 2 (.mv (.t 130))])
 .ret))
def f69_r1 : AC :=
 (.seq (.seq (rg [oo 5 (.mv (ci 0))])
 (.block 2 (.loop ⟨[1, 5], [], [(1, false)]⟩ f69_b0)))
 f69_r0)
def f69_ac : AC :=
 (.seq (rg [oo 1 (.box false 1 (.t 0)),
  oo 2 (.mv (.c (.bool false)))])
 (.seq (.seq (rg [oo 3 (.mv (ci 0))])
 (.block 0 (.loop ⟨[1, 3], [], [(1, false)]⟩ f69_b1)))
 f69_r1))
noncomputable def f69_l1 (E : Env) (x3 : U) (b1 : U) : Option U := loopK (roundOf E ⟨[1, 3], [], [(1, false)]⟩ f69_b1 (blockK 0 (seqK (fun s => exec E f69_r1 s (finish [(2, none)])) (finish [(2, none)])))) ([.ptr 1 [], .val x3], [.box (.val b1)])
noncomputable def f69_l0 (E : Env) (x5 : U) (b1 : U) : Option U := loopK (roundOf E ⟨[1, 5], [], [(1, false)]⟩ f69_b0 (blockK 2 (seqK (fun s => exec E f69_r0 s (finish [(2, none)])) (finish [(2, none)])))) ([.ptr 1 [], .val x5], [.box (.val b1)])
theorem f69_l1_eq (E : Env) (x3 : U) (b1 : U) : f69_l1 E x3 b1 =
 U.asAgg b1 fun us2 => if 7 = sizes (us2.take 7) then (us2[7]?).bind fun e3 => U.asVar false 1 e3 fun e4 => (U.lenOf false e4).bind fun n5 => (U.bin .lss x3 (.int .i64 (n5 : Int))).bind fun t6 => U.asBool t6
 (U.asAgg b1 fun us7 => if 7 = sizes (us7.take 7) then (us7[7]?).bind fun e8 => U.asVar false 1 e8 fun e9 => U.asInt x3 fun n10 => U.elemAt 2 e9 n10 fun e11 => U.asVar true 2 e11 fun e12 => if storable (.val e12) = true ∧ e12.size = 2 then U.asAgg e12 fun us13 => if 0 = sizes (us13.take 0) then (us13[0]?).bind fun e14 => U.asVar false 1 e14 fun e15 => (E 6 [e15, (.int .i64 0), (.int .i64 5)]).bind fun t16 => (U.un .not t16).bind fun t17 => U.asBool t17
 (some (.bool false))
 (U.asAgg e12 fun us18 => if 1 = sizes (us18.take 1) then (us18[1]?).bind fun e19 => U.asVar false 1 e19 fun e20 => (E 6 [e20, (.int .i64 0), (.int .i64 999)]).bind fun t21 => (U.un .not t21).bind fun t22 => U.asBool t22
 (some (.bool false))
 ((U.bin .gtr x3 (.int .i64 0)).bind fun t23 => U.asBool t23
 (U.asAgg b1 fun us24 => if 7 = sizes (us24.take 7) then (us24[7]?).bind fun e25 => U.asVar false 1 e25 fun e26 => (U.bin .sub x3 (.int .i64 1)).bind fun t27 => U.asInt t27 fun n28 => U.elemAt 2 e26 n28 fun e29 => U.asVar true 2 e29 fun e30 => U.asVar true 2 e12 fun e31 => (E 71 [e30, e31]).bind fun t32 => (U.un .not t32).bind fun t33 => U.asBool t33
 (some (.bool false))
 ((U.bin .add x3 (.int .i64 1)).bind fun t34 => f69_l1 E t34 b1) else none)
 ((U.bin .add x3 (.int .i64 1)).bind fun t35 => f69_l1 E t35 b1)) else none) else none else none else none)
 (f69_l0 E (.int .i64 0) b1) else none :=
 (loop_eq E _ _ _ _).trans (by kernel_rfl)
theorem f69_l0_eq (E : Env) (x5 : U) (b1 : U) : f69_l0 E x5 b1 =
 U.asAgg b1 fun us36 => if 8 = sizes (us36.take 8) then (us36[8]?).bind fun e37 => U.asVar false 1 e37 fun e38 => (U.lenOf false e38).bind fun n39 => (U.bin .lss x5 (.int .i64 (n39 : Int))).bind fun t40 => U.asBool t40
 (U.asAgg b1 fun us41 => if 8 = sizes (us41.take 8) then (us41[8]?).bind fun e42 => U.asVar false 1 e42 fun e43 => U.asInt x5 fun n44 => U.elemAt 2 e43 n44 fun e45 => U.asVar true 2 e45 fun e46 => if storable (.val e46) = true ∧ e46.size = 2 then U.asAgg e46 fun us47 => if 0 = sizes (us47.take 0) then (us47[0]?).bind fun e48 => U.asVar false 1 e48 fun e49 => (E 6 [e49, (.int .i64 0), (.int .i64 5)]).bind fun t50 => (U.un .not t50).bind fun t51 => U.asBool t51
 (some (.bool false))
 (U.asAgg e46 fun us52 => if 1 = sizes (us52.take 1) then (us52[1]?).bind fun e53 => U.asVar false 1 e53 fun e54 => (E 6 [e54, (.int .i64 (-1)), (.int .i64 99)]).bind fun t55 => (U.un .not t55).bind fun t56 => U.asBool t56
 (some (.bool false))
 ((U.bin .gtr x5 (.int .i64 0)).bind fun t57 => U.asBool t57
 (U.asAgg b1 fun us58 => if 8 = sizes (us58.take 8) then (us58[8]?).bind fun e59 => U.asVar false 1 e59 fun e60 => (U.bin .sub x5 (.int .i64 1)).bind fun t61 => U.asInt t61 fun n62 => U.elemAt 2 e60 n62 fun e63 => U.fieldAt 0 0 e63 fun f64 => U.asVar false 1 f64 fun e65 => U.asAgg e46 fun us66 => if 0 = sizes (us66.take 0) then (us66[0]?).bind fun e67 => U.asVar false 1 e67 fun e68 => (U.bin .geq e65 e68).bind fun t69 => U.asBool t69
 (some (.bool false))
 ((U.bin .add x5 (.int .i64 1)).bind fun t70 => f69_l0 E t70 b1) else none else none)
 ((U.bin .add x5 (.int .i64 1)).bind fun t71 => f69_l0 E t71 b1)) else none) else none else none else none)
 (U.asAgg b1 fun us72 => if 0 = sizes (us72.take 0) then (us72[0]?).bind fun e73 => U.asVar false 1 e73 fun e74 => (E 6 [e74, (.int .i64 1), (.int .i64 9)]).bind fun t75 => (U.un .not t75).bind fun t76 => U.asBool t76
 (some (.bool false))
 (U.asAgg b1 fun us77 => if 1 = sizes (us77.take 1) then (us77[1]?).bind fun e78 => U.asVar false 1 e78 fun e79 => (E 6 [e79, (.int .i64 1), (.int .i64 4)]).bind fun t80 => (U.un .not t80).bind fun t81 => U.asBool t81
 (some (.bool false))
 (U.asAgg b1 fun us82 => if 3 = sizes (us82.take 3) then (us82[3]?).bind fun e83 => U.asVar false 1 e83 fun e84 => (E 6 [e84, (.int .i64 0), (.int .i64 999)]).bind fun t85 => (U.un .not t85).bind fun t86 => U.asBool t86
 (some (.bool false))
 (U.asAgg b1 fun us87 => if 2 = sizes (us87.take 2) then (us87[2]?).bind fun e88 => U.asVar false 1 e88 fun e89 => (E 6 [e89, (.int .i64 1), (.int .i64 3)]).bind fun t90 => U.asBool t90
 (U.asAgg b1 fun us91 => if 4 = sizes (us91.take 4) then (us91[4]?).bind fun e92 => U.asVar false 1 e92 fun e93 => (E 6 [e93, (.int .i64 0), (.int .i64 999)]).bind fun t94 => U.asBool t94
 (U.asAgg b1 fun us95 => if 5 = sizes (us95.take 5) then (us95[5]?).bind fun e96 => U.asVar false 1 e96 fun e97 => (E 6 [e97, (.int .i64 1), (.int .i64 1000)]).bind fun t98 => U.asBool t98
 (U.asAgg b1 fun us99 => if 2 = sizes (us99.take 2) then (us99[2]?).bind fun e100 => U.asVar false 1 e100 fun e101 => (U.bin .eql e101 (.int .i64 2)).bind fun t102 => U.asAgg b1 fun us103 => if 6 = sizes (us103.take 6) then (us103[6]?).bind fun e104 => U.asVar false 1 e104 fun e105 => (U.bin .gtr e105 (.int .i64 0)).bind fun t106 => (U.eqv 0 t102 t106).bind fun q107 => U.asBool (.bool q107)
 (U.asAgg b1 fun us108 => if 6 = sizes (us108.take 6) then (us108[6]?).bind fun e109 => U.asVar false 1 e109 fun e110 => (E 6 [e110, (.int .i64 0), (.int .i64 999)]).bind fun t111 => U.asBool t111
 (U.asAgg b1 fun us112 => if 7 = sizes (us112.take 7) then (us112[7]?).bind fun e113 => U.asVar false 1 e113 fun e114 => (U.lenOf false e114).bind fun n115 => (U.bin .leq (.int .i64 (n115 : Int)) (.int .i64 60)).bind fun t116 => some t116 else none)
 (some (.bool false)) else none)
 (some (.bool false)) else none else none)
 (some (.bool false)) else none)
 (some (.bool false)) else none)
 (some (.bool false)) else none) else none) else none) else none) else none :=
 (loop_eq E _ _ _ _).trans (by kernel_rfl)
structure G_f69 (E : Env) : Prop where
  is : Is E 70 1 f69_ac [(2, none)]
  c_f75 : G_f75 E
  c_f77 : G_f77 E
theorem f69_E {E : Env} (h : G_f69 E) (a0 : U) : E 70 [a0] =
 U.noTup a0 fun x1 => f69_l1 E (.int .i64 0) x1 := (h.is _ rfl).trans ((runQ_V rfl).trans (by kernel_rfl))
def f71_b1 : AC :=
 (.seq (.seq (rg [oo 13 (.mv (.t 6)),
  oo 14 (.mv (.t 0)),
  oo 15 (.mv (.t 5)),
  oo 16 (.iaddr 4 (.t 14) (.t 15)),
  oo 17 (.faddr 3 3 (.t 16)),
  oo 18 (.load false 1 (.t 17)),
  oo 19 (.len false (.t 18)),
  oo 20 (.bin .lss (.t 13) (.t 19))])
 (.cond (.t 20) .skip (.exit 2)))
 (.seq (.block 3 (.seq (.region 22 [oo 23 (.mv (.t 0)),
  oo 24 (.mv (.t 5)),
  oo 25 (.iaddr 4 (.t 23) (.t 24)),
  oo 26 (.faddr 1 1 (.t 25)),
  oo 27 (.load false 1 (.t 26)),
  oo 28 (.faddr 1 1 (.t 3)),
  oo 29 (.load false 1 (.t 28)),
  oo 30 (.bin .eql (.t 27) (.t 29)),
  oo 31 (.mv (.t 30)),
  ⟨some 32, .mv (.t 0), some (31, true)⟩,
  ⟨some 33, .mv (.t 5), some (31, true)⟩,
  ⟨some 34, .iaddr 4 (.t 32) (.t 33), some (31, true)⟩,
  ⟨some 35, .faddr 3 3 (.t 34), some (31, true)⟩,
  ⟨some 36, .load false 1 (.t 35), some (31, true)⟩,
  ⟨some 37, .mv (.t 6), some (31, true)⟩,
  ⟨some 38, .iaddr 2 (.t 36) (.t 37), some (31, true)⟩,
  ⟨some 39, .faddr 0 0 (.t 38), some (31, true)⟩,
  ⟨some 40, .load false 1 (.t 39), some (31, true)⟩,
  ⟨some 41, .faddr 0 0 (.t 3), some (31, true)⟩,
  ⟨some 42, .load false 1 (.t 41), some (31, true)⟩,
  ⟨some 43, .bin .eql (.t 40) (.t 42), some (31, true)⟩,
  oo 44 (.pick (.t 31) (.t 43) (.c (.bool false)))])
 (.cond (.t 44) (.seq (rg [oo 45 (.mv (.t 0)),
  oo 46 (.mv (.t 5)),
  oo 47 (.iaddr 4 (.t 45) (.t 46)),
  oo 48 (.faddr 0 0 (.t 47)),
  oo 49 (.load false 1 (.t 48)),
  oo 4 (.mv (.t 49))])
 .ret) .skip)))
 (rg [oo 21 (.mv (.t 6)),
  oo 22 (.bin .add (.t 21) (ci 1)),
  oo 6 (.mv (.t 22))])))
def f71_r0 : AC :=
 (rg [oo 11 (.mv (.t 5)),
  oo 12 (.bin .add (.t 11) (ci 1)),
  oo 5 (.mv (.t 12))])
def f71_b0 : AC :=
 (.seq (.seq (rg [oo 7 (.mv (.t 5)),
  oo 8 (.mv (.t 0)),
  oo 9 (.len false (.t 8)),
  oo 10 (.bin .lss (.t 7) (.t 9))])
 (.cond (.t 10) .skip (.exit 0)))
 (.seq (.block 1 (.seq (rg [oo 6 (.mv (ci 0))])
 (.block 2 (.loop ⟨[0, 3, 5, 6], [], [(3, false)]⟩ f71_b1))))
 f71_r0))
def f71_r1 : AC :=
 (.seq (rg [oo 4 (.mv (ci 0))])
 .ret)
def f71_ac : AC :=
 (.seq (rg [oo 3 (.box false 3 (.t 1)),
  oo 4 (.mv (ci 0))])
 (.seq (.seq (rg [oo 5 (.mv (ci 0))])
 (.block 0 (.loop ⟨[0, 3, 5], [], [(3, false)]⟩ f71_b0)))
 f71_r1))
noncomputable def f71_l0 (E : Env) (x0 : U) (x5 : U) (b3 : U) : Option U := loopK (roundOf E ⟨[0, 3, 5], [], [(3, false)]⟩ f71_b0 (blockK 0 (seqK (fun s => exec E f71_r1 s (finish [(4, none)])) (finish [(4, none)])))) ([.val x0, .ptr 3 [], .val x5], [.box (.val b3)])
noncomputable def f71_l1 (E : Env) (x0 : U) (x5 : U) (x6 : U) (b3 : U) : Option U := loopK (roundOf E ⟨[0, 3, 5, 6], [], [(3, false)]⟩ f71_b1 (blockK 2 (blockK 1 (seqK (fun s => exec E f71_r0 s (roundK ⟨[0, 3, 5], [], [(3, false)]⟩ (loopK (roundOf E ⟨[0, 3, 5], [], [(3, false)]⟩ f71_b0 (blockK 0 (seqK (fun s => exec E f71_r1 s (finish [(4, none)])) (finish [(4, none)]))))) (blockK 0 (seqK (fun s => exec E f71_r1 s (finish [(4, none)])) (finish [(4, none)]))))) (roundK ⟨[0, 3, 5], [], [(3, false)]⟩ (loopK (roundOf E ⟨[0, 3, 5], [], [(3, false)]⟩ f71_b0 (blockK 0 (seqK (fun s => exec E f71_r1 s (finish [(4, none)])) (finish [(4, none)]))))) (blockK 0 (seqK (fun s => exec E f71_r1 s (finish [(4, none)])) (finish [(4, none)])))))))) ([.val x0, .ptr 3 [], .val x5, .val x6], [.box (.val b3)])
theorem f71_l0_eq (E : Env) (x0 : U) (x5 : U) (b3 : U) : f71_l0 E x0 x5 b3 =
 (U.lenOf false x0).bind fun n2 => (U.bin .lss x5 (.int .i64 (n2 : Int))).bind fun t3 => U.asBool t3
 (f71_l1 E x0 x5 (.int .i64 0) b3)
 (some (.int .i64 0)) :=
 (loop_eq E _ _ _ _).trans (by kernel_rfl)
theorem f71_l1_eq (E : Env) (x0 : U) (x5 : U) (x6 : U) (b3 : U) : f71_l1 E x0 x5 x6 b3 =
 U.asInt x5 fun n4 => U.elemAt 4 x0 n4 fun e5 => U.fieldAt 3 3 e5 fun f6 => U.asVar false 1 f6 fun e7 => (U.lenOf false e7).bind fun n8 => (U.bin .lss x6 (.int .i64 (n8 : Int))).bind fun t9 => U.asBool t9
 (U.asInt x5 fun n10 => U.elemAt 4 x0 n10 fun e11 => U.fieldAt 1 1 e11 fun f12 => U.asVar false 1 f12 fun e13 => U.asAgg b3 fun us14 => if 1 = sizes (us14.take 1) then (us14[1]?).bind fun e15 => U.asVar false 1 e15 fun e16 => (U.bin .eql e13 e16).bind fun t17 => U.asBool t17
 (U.asInt x5 fun n18 => U.elemAt 4 x0 n18 fun e19 => U.fieldAt 3 3 e19 fun f20 => U.asVar false 1 f20 fun e21 => U.asInt x6 fun n22 => U.elemAt 2 e21 n22 fun e23 => U.fieldAt 0 0 e23 fun f24 => U.asVar false 1 f24 fun e25 => U.asAgg b3 fun us26 => if 0 = sizes (us26.take 0) then (us26[0]?).bind fun e27 => U.asVar false 1 e27 fun e28 => (U.bin .eql e25 e28).bind fun t29 => U.asBool t29
 (U.asInt x5 fun n30 => U.elemAt 4 x0 n30 fun e31 => U.fieldAt 0 0 e31 fun f32 => U.asVar false 1 f32 fun e33 => some e33)
 ((U.bin .add x6 (.int .i64 1)).bind fun t34 => f71_l1 E x0 x5 t34 b3) else none)
 ((U.bin .add x6 (.int .i64 1)).bind fun t35 => f71_l1 E x0 x5 t35 b3) else none)
 ((U.bin .add x5 (.int .i64 1)).bind fun t36 => f71_l0 E x0 t36 b3) :=
 (loop_eq E _ _ _ _).trans (by kernel_rfl)
structure G_f71 (E : Env) : Prop where
  is : Is E 244 2 f71_ac [(4, none)]
theorem f71_E {E : Env} (h : G_f71 E) (a0 a1 : U) : E 244 [a0, a1] =
 U.noTup a1 fun x1 => f71_l0 E a0 (.int .i64 0) x1 := (h.is _ rfl).trans ((runQ_V rfl).trans (by kernel_rfl))
def f72_ac : AC :=
 (.seq (rg [oo 1 (.box false 1 (.t 0)),
  oo 2 (.alloc 2 (.agg [(.int .i64 0), (.int .i64 0), (.int .i64 0), (.int .i64 0), (.int .i64 0), (.int .i64 0), (.int .i64 0), (.nsl 2), (.nsl 2)]))])
 (.seq (rg [oo 3 (.faddr 0 0 (.t 1)),
  oo 4 (.load false 1 (.t 3)),
  oo 5 (.faddr 1 1 (.t 1)),
  oo 6 (.load false 1 (.t 5)),
  oo 7 (.faddr 2 2 (.t 1)),
  oo 8 (.load false 1 (.t 7)),
  oo 9 (.faddr 3 3 (.t 1)),
  oo 10 (.load false 1 (.t 9)),
  oo 11 (.build [(.int .i64 0), (.int .i64 0), (.int .i64 0), (.int .i64 0), (.int .i64 0), (.int .i64 0), (.int .i64 0), (.nsl 2), (.nsl 2)] [(0, (.t 4)), (1, (ci 1)), (2, (ci 2)), (6, (.t 6)), (5, (ci 1000)), (7, (.t 8)), (8, (.t 10))]),
  ⟨none, .store 9 (.t 2) (.t 11), none⟩])
 .ret))
structure G_f72 (E : Env) : Prop where
  is : Is E 245 1 f72_ac [(2, some (true, 9))]
theorem f72_E {E : Env} (h : G_f72 E) (a0 : U) : E 245 [a0] =
 U.noTup a0 fun x1 => U.asAgg x1 fun us2 => if 0 = sizes (us2.take 0) then (us2[0]?).bind fun e3 => U.asVar false 1 e3 fun e4 => U.asAgg x1 fun us5 => if 1 = sizes (us5.take 1) then (us5[1]?).bind fun e6 => U.asVar false 1 e6 fun e7 => U.asAgg x1 fun us8 => if 2 = sizes (us8.take 2) then (us8[2]?).bind fun e9 => U.asVar false 1 e9 fun e10 => U.asAgg x1 fun us11 => if 3 = sizes (us11.take 3) then (us11[3]?).bind fun e12 => U.asVar false 1 e12 fun e13 => if partable (.val e4) = true ∧ e4.size = 1 then if partable (.val e7) = true ∧ e7.size = 1 then if partable (.val e10) = true ∧ e10.size = 1 then if partable (.val e13) = true ∧ e13.size = 1 then if storable (.val (.agg [e4, (.int .i64 1), (.int .i64 2), (.int .i64 0), (.int .i64 0), (.int .i64 1000), e7, e10, e13])) = true ∧ ((.agg [e4, (.int .i64 1), (.int .i64 2), (.int .i64 0), (.int .i64 0), (.int .i64 1000), e7, e10, e13]) : U).size = 9 then U.asVar true 9 (.agg [e4, (.int .i64 1), (.int .i64 2), (.int .i64 0), (.int .i64 0), (.int .i64 1000), e7, e10, e13]) fun e14 => some e14 else none else none else none else none else none else none else none else none else none := (h.is _ rfl).trans ((runQ_V rfl).trans (by kernel_rfl))
def f68_b2 : AC :=
 (.seq (.seq (rg [oo 7 (.mv (.t 3)),
  oo 8 (.mv (.t 0)),
  oo 9 (.len false (.t 8)),
  oo 10 (.bin .lss (.t 7) (.t 9))])
 (.cond (.t 10) .skip (.exit 0)))
 (.seq (.block 1 (.seq (.seq (.region 19 [oo 13 (.mv (.t 0)),
  oo 14 (.mv (.t 3)),
  oo 15 (.iaddr 4 (.t 13) (.t 14)),
  oo 16 (.load true 4 (.t 15)),
  oo 17 (.call false 245 [(.t 16)]),
  oo 18 (.call false 70 [(.t 17)]),
  oo 19 (.un .not (.t 18)),
  oo 20 (.mv (.t 19)),
  ⟨some 21, .mv (.t 0), some (20, false)⟩,
  ⟨some 22, .mv (.t 3), some (20, false)⟩,
  ⟨some 23, .slice false 4 (.t 21) none (some (.t 22)), some (20, false)⟩,
  ⟨some 24, .mv (.t 0), some (20, false)⟩,
  ⟨some 25, .mv (.t 3), some (20, false)⟩,
  ⟨some 26, .iaddr 4 (.t 24) (.t 25), some (20, false)⟩,
  ⟨some 27, .faddr 0 0 (.t 26), some (20, false)⟩,
  ⟨some 28, .load false 1 (.t 27), some (20, false)⟩,
  ⟨some 29, .call false 241 [(.t 23), (.t 28)], some (20, false)⟩,
  ⟨some 30, .bin .geq (.t 29) (ci 0), some (20, false)⟩,
  oo 31 (.pick (.t 20) (.c (.bool true)) (.t 30))])
 (.cond (.t 31) (.seq (rg [oo 2 (.mv (.c (.bool false)))])
 .ret) .skip))
 (.seq (.region 39 [oo 32 (.mv (.t 3)),
  oo 33 (.bin .gtr (.t 32) (ci 0)),
  oo 34 (.mv (.t 33)),
  ⟨some 35, .mv (.t 0), some (34, true)⟩,
  ⟨some 36, .mv (.t 3), some (34, true)⟩,
  ⟨some 37, .bin .sub (.t 36) (ci 1), some (34, true)⟩,
  ⟨some 38, .iaddr 4 (.t 35) (.t 37), some (34, true)⟩,
  ⟨some 39, .faddr 1 1 (.t 38), some (34, true)⟩,
  ⟨some 40, .load false 1 (.t 39), some (34, true)⟩,
  ⟨some 41, .mv (.t 0), some (34, true)⟩,
  ⟨some 42, .mv (.t 3), some (34, true)⟩,
  ⟨some 43, .iaddr 4 (.t 41) (.t 42), some (34, true)⟩,
  ⟨some 44, .faddr 1 1 (.t 43), some (34, true)⟩,
  ⟨some 45, .load false 1 (.t 44), some (34, true)⟩,
  ⟨some 46, .bin .gtr (.t 40) (.t 45), some (34, true)⟩,
  ⟨some 47, .mv (.t 46), some (34, true)⟩,
  ⟨some 48, .mv (.t 0), some (47, false)⟩,
  ⟨some 49, .mv (.t 3), some (47, false)⟩,
  ⟨some 50, .bin .sub (.t 49) (ci 1), some (47, false)⟩,
  ⟨some 51, .iaddr 4 (.t 48) (.t 50), some (47, false)⟩,
  ⟨some 52, .faddr 1 1 (.t 51), some (47, false)⟩,
  ⟨some 53, .load false 1 (.t 52), some (47, false)⟩,
  ⟨some 54, .mv (.t 0), some (47, false)⟩,
  ⟨some 55, .mv (.t 3), some (47, false)⟩,
  ⟨some 56, .iaddr 4 (.t 54) (.t 55), some (47, false)⟩,
  ⟨some 57, .faddr 1 1 (.t 56), some (47, false)⟩,
  ⟨some 58, .load false 1 (.t 57), some (47, false)⟩,
  ⟨some 59, .bin .eql (.t 53) (.t 58), some (47, false)⟩,
  ⟨some 60, .mv (.t 59), some (47, false)⟩,
  ⟨some 61, .mv (.t 0), some (60, true)⟩,
  ⟨some 62, .mv (.t 3), some (60, true)⟩,
  ⟨some 63, .iaddr 4 (.t 61) (.t 62), some (60, true)⟩,
  ⟨some 64, .faddr 3 3 (.t 63), some (60, true)⟩,
  ⟨some 65, .load false 1 (.t 64), some (60, true)⟩,
  ⟨some 66, .len false (.t 65), some (60, true)⟩,
  ⟨some 67, .bin .gtr (.t 66) (ci 0), some (60, true)⟩,
  ⟨some 68, .pick (.t 60) (.t 67) (.c (.bool false)), some (47, false)⟩,
  ⟨some 69, .pick (.t 47) (.c (.bool true)) (.t 68), some (34, true)⟩,
  oo 70 (.pick (.t 34) (.t 69) (.c (.bool false)))])
 (.cond (.t 70) (.seq (rg [oo 2 (.mv (.c (.bool false)))])
 .ret) .skip))))
 (rg [oo 11 (.mv (.t 3)),
  oo 12 (.bin .add (.t 11) (ci 1)),
  oo 3 (.mv (.t 12))])))
def f68_b1 : AC :=
 (.seq (.seq (rg [oo 77 (.mv (.t 5)),
  oo 78 (.mv (.t 0)),
  oo 79 (.mv (.t 4)),
  oo 80 (.iaddr 4 (.t 78) (.t 79)),
  oo 81 (.faddr 2 2 (.t 80)),
  oo 82 (.load false 1 (.t 81)),
  oo 83 (.len false (.t 82)),
  oo 84 (.bin .lss (.t 77) (.t 83))])
 (.cond (.t 84) .skip (.exit 4)))
 (.seq (.block 5 (.seq (rg [oo 87 (.mv (.t 0)),
  oo 88 (.mv (.t 0)),
  oo 89 (.mv (.t 4)),
  oo 90 (.iaddr 4 (.t 88) (.t 89)),
  oo 91 (.faddr 2 2 (.t 90)),
  oo 92 (.load false 1 (.t 91)),
  oo 93 (.mv (.t 5)),
  oo 94 (.iaddr 2 (.t 92) (.t 93)),
  oo 95 (.load true 2 (.t 94)),
  oo 96 (.call false 244 [(.t 87), (.t 95)]),
  oo 6 (.mv (.t 96))])
 (.seq (rg [oo 97 (.mv (.t 6)),
  oo 98 (.mv (.t 0)),
  oo 99 (.mv (.t 4)),
  oo 100 (.iaddr 4 (.t 98) (.t 99)),
  oo 101 (.faddr 0 0 (.t 100)),
  oo 102 (.load false 1 (.t 101)),
  oo 103 (.bin .eql (.t 97) (.t 102)),
  oo 104 (.mv (.t 103)),
  ⟨some 105, .mv (.t 0), some (104, false)⟩,
  ⟨some 106, .mv (.t 4), some (104, false)⟩,
  ⟨some 107, .iaddr 4 (.t 105) (.t 106), some (104, false)⟩,
  ⟨some 108, .faddr 2 2 (.t 107), some (104, false)⟩,
  ⟨some 109, .load false 1 (.t 108), some (104, false)⟩,
  ⟨some 110, .mv (.t 5), some (104, false)⟩,
  ⟨some 111, .iaddr 2 (.t 109) (.t 110), some (104, false)⟩,
  ⟨some 112, .faddr 1 1 (.t 111), some (104, false)⟩,
  ⟨some 113, .load false 1 (.t 112), some (104, false)⟩,
  ⟨some 114, .bin .gtr (.t 113) (ci 0), some (104, false)⟩,
  ⟨some 115, .mv (.t 114), some (104, false)⟩,
  ⟨some 116, .mv (.t 6), some (115, true)⟩,
  ⟨some 117, .bin .eql (.t 116) (ci 0), some (115, true)⟩,
  ⟨some 118, .pick (.t 115) (.t 117) (.c (.bool false)), some (104, false)⟩,
  oo 119 (.pick (.t 104) (.c (.bool true)) (.t 118))])
 (.cond (.t 119) (.seq (rg [oo 2 (.mv (.c (.bool false)))])
 .ret) .skip))))
 (rg [oo 85 (.mv (.t 5)),
  oo 86 (.bin .add (.t 85) (ci 1)),
  oo 5 (.mv (.t 86))])))
def f68_r0 : AC :=
 (rg [oo 75 (.mv (.t 4)),
  oo 76 (.bin .add (.t 75) (ci 1)),
  oo 4 (.mv (.t 76))])
def f68_b0 : AC :=
 (.seq (.seq (rg [oo 71 (.mv (.t 4)),
  oo 72 (.mv (.t 0)),
  oo 73 (.len false (.t 72)),
  oo 74 (.bin .lss (.t 71) (.t 73))])
 (.cond (.t 74) .skip (.exit 2)))
 (.seq (.block 3 (.seq (rg [oo 5 (.mv (ci 0))])
 (.block 4 (.loop ⟨[0, 4, 5], [], []⟩ f68_b1))))
 f68_r0))
def f68_r1 : AC :=
 (.seq (rg [oo 120 (.mv (.t 0)),
  oo 121 (.len false (.t 120)),
  oo 122 (.bin .leq (.t 121) (ci 9)),
  oo 2 (.mv (.t 122))])
 .ret)
def f68_r2 : AC :=
 (.seq (.seq (rg [oo 4 (.mv (ci 0))])
 (.block 2 (.loop ⟨[0, 4], [], []⟩ f68_b0)))
 f68_r1)
def f68_ac : AC :=
 (.seq (rg [oo 2 (.mv (.c (.bool false)))])
 (.seq (.seq (rg [oo 3 (.mv (ci 0))])
 (.block 0 (.loop ⟨[0, 3], [], []⟩ f68_b2)))
 f68_r2))
noncomputable def f68_l2 (E : Env) (x0 : U) (x3 : U) : Option U := loopK (roundOf E ⟨[0, 3], [], []⟩ f68_b2 (blockK 0 (seqK (fun s => exec E f68_r2 s (finish [(2, none)])) (finish [(2, none)])))) ([.val x0, .val x3], [])
noncomputable def f68_l0 (E : Env) (x0 : U) (x4 : U) : Option U := loopK (roundOf E ⟨[0, 4], [], []⟩ f68_b0 (blockK 2 (seqK (fun s => exec E f68_r1 s (finish [(2, none)])) (finish [(2, none)])))) ([.val x0, .val x4], [])
noncomputable def f68_l1 (E : Env) (x0 : U) (x4 : U) (x5 : U) : Option U := loopK (roundOf E ⟨[0, 4, 5], [], []⟩ f68_b1 (blockK 4 (blockK 3 (seqK (fun s => exec E f68_r0 s (roundK ⟨[0, 4], [], []⟩ (loopK (roundOf E ⟨[0, 4], [], []⟩ f68_b0 (blockK 2 (seqK (fun s => exec E f68_r1 s (finish [(2, none)])) (finish [(2, none)]))))) (blockK 2 (seqK (fun s => exec E f68_r1 s (finish [(2, none)])) (finish [(2, none)]))))) (roundK ⟨[0, 4], [], []⟩ (loopK (roundOf E ⟨[0, 4], [], []⟩ f68_b0 (blockK 2 (seqK (fun s => exec E f68_r1 s (finish [(2, none)])) (finish [(2, none)]))))) (blockK 2 (seqK (fun s => exec E f68_r1 s (finish [(2, none)])) (finish [(2, none)])))))))) ([.val x0, .val x4, .val x5], [])
theorem f68_l2_eq (E : Env) (x0 : U) (x3 : U) : f68_l2 E x0 x3 =
 (U.lenOf false x0).bind fun n1 => (U.bin .lss x3 (.int .i64 (n1 : Int))).bind fun t2 => U.asBool t2
 (U.asInt x3 fun n3 => U.elemAt 4 x0 n3 fun e4 => U.asVar true 4 e4 fun e5 => (E 245 [e5]).bind fun t6 => (E 70 [t6]).bind fun t7 => (U.un .not t7).bind fun t8 => U.asBool t8
 (some (.bool false))
 (U.asInt x3 fun n9 => (U.cut false 4 x0 none (some n9)).bind fun t10 => U.asInt x3 fun n11 => U.elemAt 4 x0 n11 fun e12 => U.fieldAt 0 0 e12 fun f13 => U.asVar false 1 f13 fun e14 => (E 241 [t10, e14]).bind fun t15 => (U.bin .geq t15 (.int .i64 0)).bind fun t16 => U.asBool t16
 (some (.bool false))
 ((U.bin .gtr x3 (.int .i64 0)).bind fun t17 => U.asBool t17
 ((U.bin .sub x3 (.int .i64 1)).bind fun t18 => U.asInt t18 fun n19 => U.elemAt 4 x0 n19 fun e20 => U.fieldAt 1 1 e20 fun f21 => U.asVar false 1 f21 fun e22 => U.asInt x3 fun n23 => U.elemAt 4 x0 n23 fun e24 => U.fieldAt 1 1 e24 fun f25 => U.asVar false 1 f25 fun e26 => (U.bin .gtr e22 e26).bind fun t27 => U.asBool t27
 (some (.bool false))
 ((U.bin .sub x3 (.int .i64 1)).bind fun t28 => U.asInt t28 fun n29 => U.elemAt 4 x0 n29 fun e30 => U.fieldAt 1 1 e30 fun f31 => U.asVar false 1 f31 fun e32 => U.asInt x3 fun n33 => U.elemAt 4 x0 n33 fun e34 => U.fieldAt 1 1 e34 fun f35 => U.asVar false 1 f35 fun e36 => (U.bin .eql e32 e36).bind fun t37 => U.asBool t37
 (U.asInt x3 fun n38 => U.elemAt 4 x0 n38 fun e39 => U.fieldAt 3 3 e39 fun f40 => U.asVar false 1 f40 fun e41 => (U.lenOf false e41).bind fun n42 => (U.bin .gtr (.int .i64 (n42 : Int)) (.int .i64 0)).bind fun t43 => U.asBool t43
 (some (.bool false))
 ((U.bin .add x3 (.int .i64 1)).bind fun t44 => f68_l2 E x0 t44))
 ((U.bin .add x3 (.int .i64 1)).bind fun t45 => f68_l2 E x0 t45)))
 ((U.bin .add x3 (.int .i64 1)).bind fun t46 => f68_l2 E x0 t46))))
 (f68_l0 E x0 (.int .i64 0)) :=
 (loop_eq E _ _ _ _).trans (by kernel_rfl)
theorem f68_l0_eq (E : Env) (x0 : U) (x4 : U) : f68_l0 E x0 x4 =
 (U.lenOf false x0).bind fun n47 => (U.bin .lss x4 (.int .i64 (n47 : Int))).bind fun t48 => U.asBool t48
 (f68_l1 E x0 x4 (.int .i64 0))
 ((U.lenOf false x0).bind fun n49 => (U.bin .leq (.int .i64 (n49 : Int)) (.int .i64 9)).bind fun t50 => some t50) :=
 (loop_eq E _ _ _ _).trans (by kernel_rfl)
theorem f68_l1_eq (E : Env) (x0 : U) (x4 : U) (x5 : U) : f68_l1 E x0 x4 x5 =
 U.asInt x4 fun n51 => U.elemAt 4 x0 n51 fun e52 => U.fieldAt 2 2 e52 fun f53 => U.asVar false 1 f53 fun e54 => (U.lenOf false e54).bind fun n55 => (U.bin .lss x5 (.int .i64 (n55 : Int))).bind fun t56 => U.asBool t56
 (U.asInt x4 fun n57 => U.elemAt 4 x0 n57 fun e58 => U.fieldAt 2 2 e58 fun f59 => U.asVar false 1 f59 fun e60 => U.asInt x5 fun n61 => U.elemAt 2 e60 n61 fun e62 => U.asVar true 2 e62 fun e63 => (E 244 [x0, e63]).bind fun t64 => U.asInt x4 fun n65 => U.elemAt 4 x0 n65 fun e66 => U.fieldAt 0 0 e66 fun f67 => U.asVar false 1 f67 fun e68 => (U.bin .eql t64 e68).bind fun t69 => U.asBool t69
 (some (.bool false))
 (U.asInt x4 fun n70 => U.elemAt 4 x0 n70 fun e71 => U.fieldAt 2 2 e71 fun f72 => U.asVar false 1 f72 fun e73 => U.asInt x5 fun n74 => U.elemAt 2 e73 n74 fun e75 => U.fieldAt 1 1 e75 fun f76 => U.asVar false 1 f76 fun e77 => (U.bin .gtr e77 (.int .i64 0)).bind fun t78 => U.asBool t78
 ((U.bin .eql t64 (.int .i64 0)).bind fun t79 => U.asBool t79
 (some (.bool false))
 ((U.bin .add x5 (.int .i64 1)).bind fun t80 => f68_l1 E x0 x4 t80))
 ((U.bin .add x5 (.int .i64 1)).bind fun t81 => f68_l1 E x0 x4 t81)))
 ((U.bin .add x4 (.int .i64 1)).bind fun t82 => f68_l0 E x0 t82) :=
 (loop_eq E _ _ _ _).trans (by kernel_rfl)
structure G_f68 (E : Env) : Prop where
  is : Is E 243 1 f68_ac [(2, none)]
  c_f66 : G_f66 E
  c_f69 : G_f69 E
  c_f71 : G_f71 E
  c_f72 : G_f72 E
theorem f68_E {E : Env} (h : G_f68 E) (a0 : U) : E 243 [a0] =
 f68_l2 E a0 (.int .i64 0) := (h.is _ rfl).trans ((runQ_V rfl).trans (by kernel_rfl))
def f73_ac : AC :=
 (.seq (rg [oo 2 (.box false 2 (.t 0)),
  oo 3 (.box false 3 (.t 1)),
  oo 4 (.mv (.c (.bool false)))])
 (.seq (.seq (rg [oo 5 (.faddr 0 0 (.t 2)),
  oo 6 (.load false 1 (.t 5)),
  oo 7 (.faddr 0 0 (.t 3)),
  oo 8 (.load false 1 (.t 7)),
  oo 9 (.bin .neq (.t 6) (.t 8))])
 (.cond (.t 9) (.seq (rg [oo 10 (.faddr 0 0 (.t 2)),
  oo 11 (.load false 1 (.t 10)),
  oo 12 (.faddr 0 0 (.t 3)),
  oo 13 (.load false 1 (.t 12)),
  oo 14 (.bin .lss (.t 11) (.t 13)),
  oo 4 (.mv (.t 14))])
 .ret) .skip))
 (.seq (.seq (rg [oo 15 (.faddr 1 1 (.t 2)),
  oo 16 (.load false 1 (.t 15)),
  oo 17 (.faddr 1 1 (.t 3)),
  oo 18 (.load false 1 (.t 17)),
  oo 19 (.bin .neq (.t 16) (.t 18))])
 (.cond (.t 19) (.seq (rg [oo 20 (.faddr 1 1 (.t 2)),
  oo 21 (.load false 1 (.t 20)),
  oo 22 (.faddr 1 1 (.t 3)),
  oo 23 (.load false 1 (.t 22)),
  oo 24 (.bin .lss (.t 21) (.t 23)),
  oo 4 (.mv (.t 24))])
 .ret) .skip))
 (.seq (.seq (rg [oo 25 (.faddr 2 2 (.t 2)),
  oo 26 (.load false 1 (.t 25)),
  oo 27 (.faddr 2 2 (.t 3)),
  oo 28 (.load false 1 (.t 27)),
  oo 29 (.bin .neq (.t 26) (.t 28))])
 (.cond (.t 29) (.seq (rg [oo 30 (.faddr 2 2 (.t 2)),
  oo 31 (.load false 1 (.t 30)),
  oo 32 (.faddr 2 2 (.t 3)),
  oo 33 (.load false 1 (.t 32)),
  oo 34 (.bin .lss (.t 31) (.t 33)),
  oo 4 (.mv (.t 34))])
 .ret) .skip))
 (.seq (rg [oo 35 (.faddr 3 3 (.t 2)),
  oo 36 (.load false 1 (.t 35)),
  oo 37 (.faddr 3 3 (.t 3)),
  oo 38 (.load false 1 (.t 37)),
  oo 39 (.bin .lss (.t 36) (.t 38)),
  oo 4 (.mv (.t 39))])
 .ret)))))
structure G_f73 (E : Env) : Prop where
  is : Is E 7 2 f73_ac [(4, none)]
theorem f73_E {E : Env} (h : G_f73 E) (a0 a1 : U) : E 7 [a0, a1] =
 U.noTup a0 fun x1 => U.noTup a1 fun x2 => U.asAgg x1 fun us3 => if 0 = sizes (us3.take 0) then (us3[0]?).bind fun e4 => U.asVar false 1 e4 fun e5 => U.asAgg x2 fun us6 => if 0 = sizes (us6.take 0) then (us6[0]?).bind fun e7 => U.asVar false 1 e7 fun e8 => (U.bin .neq e5 e8).bind fun t9 => U.asBool t9
 (U.asAgg x1 fun us10 => if 0 = sizes (us10.take 0) then (us10[0]?).bind fun e11 => U.asVar false 1 e11 fun e12 => U.asAgg x2 fun us13 => if 0 = sizes (us13.take 0) then (us13[0]?).bind fun e14 => U.asVar false 1 e14 fun e15 => (U.bin .lss e12 e15).bind fun t16 => some t16 else none else none)
 (U.asAgg x1 fun us17 => if 1 = sizes (us17.take 1) then (us17[1]?).bind fun e18 => U.asVar false 1 e18 fun e19 => U.asAgg x2 fun us20 => if 1 = sizes (us20.take 1) then (us20[1]?).bind fun e21 => U.asVar false 1 e21 fun e22 => (U.bin .neq e19 e22).bind fun t23 => U.asBool t23
 (U.asAgg x1 fun us24 => if 1 = sizes (us24.take 1) then (us24[1]?).bind fun e25 => U.asVar false 1 e25 fun e26 => U.asAgg x2 fun us27 => if 1 = sizes (us27.take 1) then (us27[1]?).bind fun e28 => U.asVar false 1 e28 fun e29 => (U.bin .lss e26 e29).bind fun t30 => some t30 else none else none)
 (U.asAgg x1 fun us31 => if 2 = sizes (us31.take 2) then (us31[2]?).bind fun e32 => U.asVar false 1 e32 fun e33 => U.asAgg x2 fun us34 => if 2 = sizes (us34.take 2) then (us34[2]?).bind fun e35 => U.asVar false 1 e35 fun e36 => (U.bin .neq e33 e36).bind fun t37 => U.asBool t37
 (U.asAgg x1 fun us38 => if 2 = sizes (us38.take 2) then (us38[2]?).bind fun e39 => U.asVar false 1 e39 fun e40 => U.asAgg x2 fun us41 => if 2 = sizes (us41.take 2) then (us41[2]?).bind fun e42 => U.asVar false 1 e42 fun e43 => (U.bin .lss e40 e43).bind fun t44 => some t44 else none else none)
 (U.asAgg x1 fun us45 => if 3 = sizes (us45.take 3) then (us45[3]?).bind fun e46 => U.asVar false 1 e46 fun e47 => U.asAgg x2 fun us48 => if 3 = sizes (us48.take 3) then (us48[3]?).bind fun e49 => U.asVar false 1 e49 fun e50 => (U.bin .lss e47 e50).bind fun t51 => some t51 else none else none) else none else none) else none else none) else none else none := (h.is _ rfl).trans ((runQ_V rfl).trans (by kernel_rfl))
def f74_b0 : AC :=
 (.seq (.seq (.region 12 [oo 22 (.mv (.t 5)),
  oo 23 (.mv (.t 0)),
  oo 24 (.len false (.t 23)),
  oo 25 (.bin .lss (.t 22) (.t 24)),
  oo 26 (.mv (.t 25)),
  ⟨some 27, .mv (.t 0), some (26, true)⟩,
  ⟨some 28, .mv (.t 5), some (26, true)⟩,
  ⟨some 29, .iaddr 4 (.t 27) (.t 28), some (26, true)⟩,
  ⟨some 30, .load true 4 (.t 29), some (26, true)⟩,
  ⟨some 31, .load true 4 (.t 3), some (26, true)⟩,
  ⟨some 32, .call false 7 [(.t 30), (.t 31)], some (26, true)⟩,
  oo 33 (.pick (.t 26) (.t 32) (.c (.bool false)))])
 (.cond (.t 33) .skip (.exit 0)))
 (.block 1 (rg [oo 34 (.mv (.t 5)),
  oo 35 (.bin .add (.t 34) (ci 1)),
  oo 5 (.mv (.t 35))])))
def f74_r0 : AC :=
 (.seq (.seq (.region 12 [oo 36 (.mv (.t 5)),
  oo 37 (.mv (.t 0)),
  oo 38 (.len false (.t 37)),
  oo 39 (.bin .lss (.t 36) (.t 38)),
  oo 40 (.mv (.t 39)),
  ⟨some 41, .mv (.t 0), some (40, true)⟩,
  ⟨some 42, .mv (.t 5), some (40, true)⟩,
  ⟨some 43, .iaddr 4 (.t 41) (.t 42), some (40, true)⟩,
  ⟨some 44, .load true 4 (.t 43), some (40, true)⟩,
  ⟨some 45, .load true 4 (.t 3), some (40, true)⟩,
  ⟨some 46, .eqv false 6 (.t 44) (.t 45), some (40, true)⟩,
  oo 47 (.pick (.t 40) (.t 46) (.c (.bool false)))])
 (.cond (.t 47) (.seq (rg [oo 48 (.mv (.t 0)),
  oo 4 (.mv (.t 48))])
 .ret) .skip))
 (.seq (.regC 11 [49, 53, 56] [oo 49 (.bslice 1 49 4 0 (.agg [(.int .i64 0), (.int .i64 0), (.int .i64 0), (.int .i64 0)]) []),
  oo 50 (.mv (.t 0)),
  oo 51 (.mv (.t 5)),
  oo 52 (.slice false 4 (.t 50) none (some (.t 51))),
  oo 53 (.append false 53 4 32 (.t 49) (.t 52)),
  oo 54 (.load true 4 (.t 3)),
  oo 55 (.bslice 0 55 4 1 (.agg [(.int .i64 0), (.int .i64 0), (.int .i64 0), (.int .i64 0)]) [(0, (.t 54))]),
  oo 56 (.append false 56 4 32 (.t 53) (.t 55)),
  oo 57 (.mv (.t 0)),
  oo 58 (.mv (.t 5)),
  oo 59 (.slice false 4 (.t 57) (some (.t 58)) none),
  oo 60 (.append false 60 4 32 (.t 56) (.t 59)),
  oo 4 (.mv (.t 60))])
 .ret))
def f74_ac : AC :=
 (.seq (rg [oo 3 (.box true 3 (.t 1)),
  oo 4 (.mv (.c (.nsl 4)))])
 (.seq (.seq (rg [oo 6 (.faddr 0 0 (.t 3)),
  oo 7 (.load false 1 (.t 6)),
  oo 8 (.bin .eql (.t 7) (ci 0)),
  oo 9 (.mv (.t 8)),
  ⟨some 10, .faddr 1 1 (.t 3), some (9, false)⟩,
  ⟨some 11, .load false 1 (.t 10), some (9, false)⟩,
  ⟨some 12, .bin .eql (.t 11) (ci 0), some (9, false)⟩,
  oo 13 (.pick (.t 9) (.c (.bool true)) (.t 12)),
  oo 14 (.mv (.t 13)),
  ⟨some 15, .faddr 0 0 (.t 3), some (14, false)⟩,
  ⟨some 16, .load false 1 (.t 15), some (14, false)⟩,
  ⟨some 17, .faddr 1 1 (.t 3), some (14, false)⟩,
  ⟨some 18, .load false 1 (.t 17), some (14, false)⟩,
  ⟨some 19, .bin .eql (.t 16) (.t 18), some (14, false)⟩,
  oo 20 (.pick (.t 14) (.c (.bool true)) (.t 19))])
 (.cond (.t 20) (.seq (rg [oo 21 (.mv (.t 0)),
  oo 4 (.mv (.t 21))])
 .ret) .skip))
 (.seq (rg [oo 5 (.mv (ci 0))])
 (.seq (.block 0 (.loop ⟨[0, 3, 5], [], []⟩ f74_b0))
 f74_r0))))
noncomputable def f74_l0 (E : Env) (x0 : U) (x3 : U) (x5 : U) : Option U := loopK (roundOf E ⟨[0, 3, 5], [], []⟩ f74_b0 (blockK 0 (seqK (fun s => exec E f74_r0 s (finish [(4, none)])) (finish [(4, none)])))) ([.val x0, .val x3, .val x5], [])
theorem f74_l0_eq (E : Env) (x0 : U) (x3 : U) (x5 : U) : f74_l0 E x0 x3 x5 =
 (U.lenOf false x0).bind fun n13 => (U.bin .lss x5 (.int .i64 (n13 : Int))).bind fun t14 => U.asBool t14
 (U.asInt x5 fun n15 => U.elemAt 4 x0 n15 fun e16 => U.asVar true 4 e16 fun e17 => U.asVp x3 fun v18 => U.asVar true 4 v18 fun e19 => (E 7 [e17, e19]).bind fun t20 => U.asBool t20
 ((U.bin .add x5 (.int .i64 1)).bind fun t21 => f74_l0 E x0 x3 t21)
 ((U.lenOf false x0).bind fun n22 => (U.bin .lss x5 (.int .i64 (n22 : Int))).bind fun t23 => U.asBool t23
 (U.asInt x5 fun n24 => U.elemAt 4 x0 n24 fun e25 => U.asVar true 4 e25 fun e26 => U.asVp x3 fun v27 => U.asVar true 4 v27 fun e28 => (U.eqv 6 e26 e28).bind fun q29 => U.asBool (.bool q29)
 (some x0)
 (U.asInt x5 fun n30 => (U.cut false 4 x0 none (some n30)).bind fun t31 => U.asVp x3 fun v32 => U.asVar true 4 v32 fun e33 => if partable (.val e33) = true ∧ e33.size = 4 then U.asInt x5 fun n34 => (U.cut false 4 x0 (some n34) none).bind fun t35 => (U.elems 4 t31).bind fun ys36 => if 4 = 4 ∧ 4 = 4 ∧ ((([] : List U)).length + (ys36 : List U).length) * 32 ≤ 140737488355328 then if 4 = 4 ∧ 4 = 4 ∧ (((([] : List U) ++ ys36)).length + ([e33] : List U).length) * 32 ≤ 140737488355328 then (U.elems 4 t35).bind fun ys37 => if 4 = 4 ∧ 4 = 4 ∧ ((((([] : List U) ++ ys36) ++ ([e33] : List U))).length + (ys37 : List U).length) * 32 ≤ 140737488355328 then some (.sl 4 (((([] : List U) ++ ys36) ++ ([e33] : List U)) ++ ys37)) else none else none else none else none))
 (U.asInt x5 fun n38 => (U.cut false 4 x0 none (some n38)).bind fun t39 => U.asVp x3 fun v40 => U.asVar true 4 v40 fun e41 => if partable (.val e41) = true ∧ e41.size = 4 then U.asInt x5 fun n42 => (U.cut false 4 x0 (some n42) none).bind fun t43 => (U.elems 4 t39).bind fun ys44 => if 4 = 4 ∧ 4 = 4 ∧ ((([] : List U)).length + (ys44 : List U).length) * 32 ≤ 140737488355328 then if 4 = 4 ∧ 4 = 4 ∧ (((([] : List U) ++ ys44)).length + ([e41] : List U).length) * 32 ≤ 140737488355328 then (U.elems 4 t43).bind fun ys45 => if 4 = 4 ∧ 4 = 4 ∧ ((((([] : List U) ++ ys44) ++ ([e41] : List U))).length + (ys45 : List U).length) * 32 ≤ 140737488355328 then some (.sl 4 (((([] : List U) ++ ys44) ++ ([e41] : List U)) ++ ys45)) else none else none else none else none)))
 ((U.lenOf false x0).bind fun n46 => (U.bin .lss x5 (.int .i64 (n46 : Int))).bind fun t47 => U.asBool t47
 (U.asInt x5 fun n48 => U.elemAt 4 x0 n48 fun e49 => U.asVar true 4 e49 fun e50 => U.asVp x3 fun v51 => U.asVar true 4 v51 fun e52 => (U.eqv 6 e50 e52).bind fun q53 => U.asBool (.bool q53)
 (some x0)
 (U.asInt x5 fun n54 => (U.cut false 4 x0 none (some n54)).bind fun t55 => U.asVp x3 fun v56 => U.asVar true 4 v56 fun e57 => if partable (.val e57) = true ∧ e57.size = 4 then U.asInt x5 fun n58 => (U.cut false 4 x0 (some n58) none).bind fun t59 => (U.elems 4 t55).bind fun ys60 => if 4 = 4 ∧ 4 = 4 ∧ ((([] : List U)).length + (ys60 : List U).length) * 32 ≤ 140737488355328 then if 4 = 4 ∧ 4 = 4 ∧ (((([] : List U) ++ ys60)).length + ([e57] : List U).length) * 32 ≤ 140737488355328 then (U.elems 4 t59).bind fun ys61 => if 4 = 4 ∧ 4 = 4 ∧ ((((([] : List U) ++ ys60) ++ ([e57] : List U))).length + (ys61 : List U).length) * 32 ≤ 140737488355328 then some (.sl 4 (((([] : List U) ++ ys60) ++ ([e57] : List U)) ++ ys61)) else none else none else none else none))
 (U.asInt x5 fun n62 => (U.cut false 4 x0 none (some n62)).bind fun t63 => U.asVp x3 fun v64 => U.asVar true 4 v64 fun e65 => if partable (.val e65) = true ∧ e65.size = 4 then U.asInt x5 fun n66 => (U.cut false 4 x0 (some n66) none).bind fun t67 => (U.elems 4 t63).bind fun ys68 => if 4 = 4 ∧ 4 = 4 ∧ ((([] : List U)).length + (ys68 : List U).length) * 32 ≤ 140737488355328 then if 4 = 4 ∧ 4 = 4 ∧ (((([] : List U) ++ ys68)).length + ([e65] : List U).length) * 32 ≤ 140737488355328 then (U.elems 4 t67).bind fun ys69 => if 4 = 4 ∧ 4 = 4 ∧ ((((([] : List U) ++ ys68) ++ ([e65] : List U))).length + (ys69 : List U).length) * 32 ≤ 140737488355328 then some (.sl 4 (((([] : List U) ++ ys68) ++ ([e65] : List U)) ++ ys69)) else none else none else none else none)) :=
 (loop_eq E _ _ _ _).trans (by kernel_rfl)
structure G_f74 (E : Env) : Prop where
  is : Is E 356 2 f74_ac [(4, none)]
  c_f73 : G_f73 E
theorem f74_E {E : Env} (h : G_f74 E) (a0 a1 : U) : E 356 [a0, a1] =
 U.noTup a1 fun x1 => U.fieldAt 0 0 x1 fun f2 => U.asVar false 1 f2 fun e3 => (U.bin .eql e3 (.int .i64 0)).bind fun t4 => U.asBool t4
 (some a0)
 (U.fieldAt 1 1 x1 fun f5 => U.asVar false 1 f5 fun e6 => (U.bin .eql e6 (.int .i64 0)).bind fun t7 => U.asBool t7
 (some a0)
 (U.fieldAt 0 0 x1 fun f8 => U.asVar false 1 f8 fun e9 => U.fieldAt 1 1 x1 fun f10 => U.asVar false 1 f10 fun e11 => (U.bin .eql e9 e11).bind fun t12 => U.asBool t12
 (some a0)
 (f74_l0 E a0 (.vp x1) (.int .i64 0)))) := (h.is _ rfl).trans ((runQ_V rfl).trans (by kernel_rfl))
def f70_b1 : AC :=
 (.seq (.seq (rg [oo 16 (.mv (.t 9)),
  oo 17 (.mv (.t 0)),
  oo 18 (.mv (.t 8)),
  oo 19 (.iaddr 4 (.t 17) (.t 18)),
  oo 20 (.faddr 3 3 (.t 19)),
  oo 21 (.load false 1 (.t 20)),
  oo 22 (.len false (.t 21)),
  oo 23 (.bin .lss (.t 16) (.t 22))])
 (.cond (.t 23) .skip (.exit 2)))
 (.seq (.block 3 (.seq (.region 37 [oo 26 (.mv (.t 0)),
  oo 27 (.mv (.t 8)),
  oo 28 (.iaddr 4 (.t 26) (.t 27)),
  oo 29 (.faddr 3 3 (.t 28)),
  oo 30 (.load false 1 (.t 29)),
  oo 31 (.mv (.t 9)),
  oo 32 (.iaddr 2 (.t 30) (.t 31)),
  oo 33 (.faddr 0 0 (.t 32)),
  oo 34 (.load false 1 (.t 33)),
  oo 35 (.mv (.t 1)),
  oo 36 (.bin .eql (.t 34) (.t 35)),
  oo 37 (.mv (.t 36)),
  ⟨some 38, .mv (.t 0), some (37, true)⟩,
  ⟨some 39, .mv (.t 8), some (37, true)⟩,
  ⟨some 40, .iaddr 4 (.t 38) (.t 39), some (37, true)⟩,
  ⟨some 41, .faddr 1 1 (.t 40), some (37, true)⟩,
  ⟨some 42, .load false 1 (.t 41), some (37, true)⟩,
  ⟨some 43, .mv (.t 2), some (37, true)⟩,
  ⟨some 44, .bin .gtr (.t 42) (.t 43), some (37, true)⟩,
  oo 45 (.pick (.t 37) (.t 44) (.c (.bool false))),
  oo 46 (.mv (.t 45)),
  ⟨some 47, .mv (.t 7), some (46, true)⟩,
  ⟨some 48, .bin .lss (.t 47) (ci 0), some (46, true)⟩,
  ⟨some 49, .mv (.t 48), some (46, true)⟩,
  ⟨some 50, .mv (.t 0), some (49, false)⟩,
  ⟨some 51, .mv (.t 8), some (49, false)⟩,
  ⟨some 52, .iaddr 4 (.t 50) (.t 51), some (49, false)⟩,
  ⟨some 53, .faddr 1 1 (.t 52), some (49, false)⟩,
  ⟨some 54, .load false 1 (.t 53), some (49, false)⟩,
  ⟨some 55, .mv (.t 0), some (49, false)⟩,
  ⟨some 56, .mv (.t 7), some (49, false)⟩,
  ⟨some 57, .iaddr 4 (.t 55) (.t 56), some (49, false)⟩,
  ⟨some 58, .faddr 1 1 (.t 57), some (49, false)⟩,
  ⟨some 59, .load false 1 (.t 58), some (49, false)⟩,
  ⟨some 60, .bin .lss (.t 54) (.t 59), some (49, false)⟩,
  ⟨some 61, .pick (.t 49) (.c (.bool true)) (.t 60), some (46, true)⟩,
  oo 62 (.pick (.t 46) (.t 61) (.c (.bool false)))])
 (.cond (.t 62) (rg [oo 63 (.mv (.t 8)),
  oo 7 (.mv (.t 63))]) .skip)))
 (rg [oo 24 (.mv (.t 9)),
  oo 25 (.bin .add (.t 24) (ci 1)),
  oo 9 (.mv (.t 25))])))
def f70_r0 : AC :=
 (rg [oo 14 (.mv (.t 8)),
  oo 15 (.bin .add (.t 14) (ci 1)),
  oo 8 (.mv (.t 15))])
def f70_b0 : AC :=
 (.seq (.seq (rg [oo 10 (.mv (.t 8)),
  oo 11 (.mv (.t 0)),
  oo 12 (.len false (.t 11)),
  oo 13 (.bin .lss (.t 10) (.t 12))])
 (.cond (.t 13) .skip (.exit 0)))
 (.seq (.block 1 (.seq (rg [oo 9 (.mv (ci 0))])
 (.block 2 (.loop ⟨[0, 1, 2, 7, 8, 9], [], []⟩ f70_b1))))
 f70_r0))
def f70_r1 : AC :=
 (.seq (.seq (rg [oo 64 (.mv (.t 7)),
  oo 65 (.bin .lss (.t 64) (ci 0))])
 (.cond (.t 65) (.seq (rg [oo 6 (.mv (ci 0))])
 .ret) .skip))
 (.seq (rg [oo 66 (.mv (.t 0)),
  oo 67 (.mv (.t 7)),
  oo 68 (.iaddr 4 (.t 66) (.t 67)),
  oo 69 (.faddr 0 0 (.t 68)),
  oo 70 (.load false 1 (.t 69)),
  oo 6 (.mv (.t 70))])
 .ret))
def f70_ac : AC :=
 (.seq (rg [oo 6 (.mv (ci 0))])
 (.seq (rg [oo 7 (.mv (ci (-1)))])
 (.seq (.seq (rg [oo 8 (.mv (ci 0))])
 (.block 0 (.loop ⟨[0, 1, 2, 7, 8], [], []⟩ f70_b0)))
 f70_r1)))
noncomputable def f70_l0 (E : Env) (x0 : U) (x1 : U) (x2 : U) (x7 : U) (x8 : U) : Option U := loopK (roundOf E ⟨[0, 1, 2, 7, 8], [], []⟩ f70_b0 (blockK 0 (seqK (fun s => exec E f70_r1 s (finish [(6, none)])) (finish [(6, none)])))) ([.val x0, .val x1, .val x2, .val x7, .val x8], [])
noncomputable def f70_l1 (E : Env) (x0 : U) (x1 : U) (x2 : U) (x7 : U) (x8 : U) (x9 : U) : Option U := loopK (roundOf E ⟨[0, 1, 2, 7, 8, 9], [], []⟩ f70_b1 (blockK 2 (blockK 1 (seqK (fun s => exec E f70_r0 s (roundK ⟨[0, 1, 2, 7, 8], [], []⟩ (loopK (roundOf E ⟨[0, 1, 2, 7, 8], [], []⟩ f70_b0 (blockK 0 (seqK (fun s => exec E f70_r1 s (finish [(6, none)])) (finish [(6, none)]))))) (blockK 0 (seqK (fun s => exec E f70_r1 s (finish [(6, none)])) (finish [(6, none)]))))) (roundK ⟨[0, 1, 2, 7, 8], [], []⟩ (loopK (roundOf E ⟨[0, 1, 2, 7, 8], [], []⟩ f70_b0 (blockK 0 (seqK (fun s => exec E f70_r1 s (finish [(6, none)])) (finish [(6, none)]))))) (blockK 0 (seqK (fun s => exec E f70_r1 s (finish [(6, none)])) (finish [(6, none)])))))))) ([.val x0, .val x1, .val x2, .val x7, .val x8, .val x9], [])
theorem f70_l0_eq (E : Env) (x0 : U) (x1 : U) (x2 : U) (x7 : U) (x8 : U) : f70_l0 E x0 x1 x2 x7 x8 =
 (U.lenOf false x0).bind fun n1 => (U.bin .lss x8 (.int .i64 (n1 : Int))).bind fun t2 => U.asBool t2
 (f70_l1 E x0 x1 x2 x7 x8 (.int .i64 0))
 ((U.bin .lss x7 (.int .i64 0)).bind fun t3 => U.asBool t3
 (some (.int .i64 0))
 (U.asInt x7 fun n4 => U.elemAt 4 x0 n4 fun e5 => U.fieldAt 0 0 e5 fun f6 => U.asVar false 1 f6 fun e7 => some e7)) :=
 (loop_eq E _ _ _ _).trans (by kernel_rfl)
theorem f70_l1_eq (E : Env) (x0 : U) (x1 : U) (x2 : U) (x7 : U) (x8 : U) (x9 : U) : f70_l1 E x0 x1 x2 x7 x8 x9 =
 U.asInt x8 fun n8 => U.elemAt 4 x0 n8 fun e9 => U.fieldAt 3 3 e9 fun f10 => U.asVar false 1 f10 fun e11 => (U.lenOf false e11).bind fun n12 => (U.bin .lss x9 (.int .i64 (n12 : Int))).bind fun t13 => U.asBool t13
 (U.asInt x8 fun n14 => U.elemAt 4 x0 n14 fun e15 => U.fieldAt 3 3 e15 fun f16 => U.asVar false 1 f16 fun e17 => U.asInt x9 fun n18 => U.elemAt 2 e17 n18 fun e19 => U.fieldAt 0 0 e19 fun f20 => U.asVar false 1 f20 fun e21 => (U.bin .eql e21 x1).bind fun t22 => U.asBool t22
 (U.asInt x8 fun n23 => U.elemAt 4 x0 n23 fun e24 => U.fieldAt 1 1 e24 fun f25 => U.asVar false 1 f25 fun e26 => (U.bin .gtr e26 x2).bind fun t27 => U.asBool t27
 ((U.bin .lss x7 (.int .i64 0)).bind fun t28 => U.asBool t28
 ((U.bin .add x9 (.int .i64 1)).bind fun t29 => f70_l1 E x0 x1 x2 x8 x8 t29)
 (U.asInt x8 fun n30 => U.elemAt 4 x0 n30 fun e31 => U.fieldAt 1 1 e31 fun f32 => U.asVar false 1 f32 fun e33 => U.asInt x7 fun n34 => U.elemAt 4 x0 n34 fun e35 => U.fieldAt 1 1 e35 fun f36 => U.asVar false 1 f36 fun e37 => (U.bin .lss e33 e37).bind fun t38 => U.asBool t38
 ((U.bin .add x9 (.int .i64 1)).bind fun t39 => f70_l1 E x0 x1 x2 x8 x8 t39)
 ((U.bin .add x9 (.int .i64 1)).bind fun t40 => f70_l1 E x0 x1 x2 x7 x8 t40)))
 ((U.bin .add x9 (.int .i64 1)).bind fun t41 => f70_l1 E x0 x1 x2 x7 x8 t41))
 ((U.bin .add x9 (.int .i64 1)).bind fun t42 => f70_l1 E x0 x1 x2 x7 x8 t42))
 ((U.bin .add x8 (.int .i64 1)).bind fun t43 => f70_l0 E x0 x1 x2 x7 t43) :=
 (loop_eq E _ _ _ _).trans (by kernel_rfl)
structure G_f70 (E : Env) : Prop where
  is : Is E 48 3 f70_ac [(6, none)]
theorem f70_E {E : Env} (h : G_f70 E) (a0 a1 a2 : U) : E 48 [a0, a1, a2] =
 f70_l0 E a0 a1 a2 (.int .i64 (-1)) (.int .i64 0) := (h.is _ rfl).trans ((runQ_V rfl).trans (by kernel_rfl))
def f63_b2 : AC :=
 (.seq (.seq (rg [oo 20 (.mv (.t 5)),
  oo 21 (.mv (.t 0)),
  oo 22 (.mv (.t 4)),
  oo 23 (.iaddr 4 (.t 21) (.t 22)),
  oo 24 (.faddr 2 2 (.t 23)),
  oo 25 (.load false 1 (.t 24)),
  oo 26 (.len false (.t 25)),
  oo 27 (.bin .lss (.t 20) (.t 26))])
 (.cond (.t 27) .skip (.exit 2)))
 (.seq (.block 3 (.seq (rg [oo 30 (.mv (.t 0)),
  oo 31 (.mv (.t 4)),
  oo 32 (.iaddr 4 (.t 30) (.t 31)),
  oo 33 (.faddr 2 2 (.t 32)),
  oo 34 (.load false 1 (.t 33)),
  oo 35 (.mv (.t 5)),
  oo 36 (.iaddr 2 (.t 34) (.t 35)),
  oo 37 (.load true 2 (.t 36)),
  oo 6 (.alloc 6 (.agg [(.int .i64 0), (.int .i64 0)])),
  ⟨none, .store 2 (.t 6) (.t 37), none⟩])
 (.seq (.region 14 [oo 38 (.mv (.t 3)),
  oo 39 (.mv (.t 0)),
  oo 40 (.load true 2 (.t 6)),
  oo 41 (.call false 244 [(.t 39), (.t 40)]),
  oo 42 (.mv (.t 0)),
  oo 43 (.mv (.t 4)),
  oo 44 (.iaddr 4 (.t 42) (.t 43)),
  oo 45 (.faddr 0 0 (.t 44)),
  oo 46 (.load false 1 (.t 45)),
  oo 47 (.faddr 0 0 (.t 6)),
  oo 48 (.load false 1 (.t 47)),
  oo 49 (.build [(.int .i64 0), (.int .i64 0), (.int .i64 0), (.int .i64 0)] [(0, (.t 41)), (1, (.t 46)), (2, (ci 1)), (3, (.t 48))]),
  oo 50 (.call false 356 [(.t 38), (.t 49)]),
  oo 3 (.mv (.t 50))])
 (.region 17 [oo 51 (.mv (.t 3)),
  oo 52 (.mv (.t 0)),
  oo 53 (.mv (.t 4)),
  oo 54 (.iaddr 4 (.t 52) (.t 53)),
  oo 55 (.faddr 0 0 (.t 54)),
  oo 56 (.load false 1 (.t 55)),
  oo 57 (.mv (.t 0)),
  oo 58 (.faddr 0 0 (.t 6)),
  oo 59 (.load false 1 (.t 58)),
  oo 60 (.faddr 1 1 (.t 6)),
  oo 61 (.load false 1 (.t 60)),
  oo 62 (.call false 48 [(.t 57), (.t 59), (.t 61)]),
  oo 63 (.faddr 0 0 (.t 6)),
  oo 64 (.load false 1 (.t 63)),
  oo 65 (.build [(.int .i64 0), (.int .i64 0), (.int .i64 0), (.int .i64 0)] [(0, (.t 56)), (1, (.t 62)), (2, (ci 3)), (3, (.t 64))]),
  oo 66 (.call false 356 [(.t 51), (.t 65)]),
  oo 3 (.mv (.t 66))]))))
 (rg [oo 28 (.mv (.t 5)),
  oo 29 (.bin .add (.t 28) (ci 1)),
  oo 5 (.mv (.t 29))])))
def f63_b1 : AC :=
 (.seq (.seq (rg [oo 67 (.mv (.t 7)),
  oo 68 (.mv (.t 0)),
  oo 69 (.mv (.t 4)),
  oo 70 (.iaddr 4 (.t 68) (.t 69)),
  oo 71 (.faddr 3 3 (.t 70)),
  oo 72 (.load false 1 (.t 71)),
  oo 73 (.len false (.t 72)),
  oo 74 (.bin .lss (.t 67) (.t 73))])
 (.cond (.t 74) .skip (.exit 4)))
 (.seq (.block 5 (.seq (rg [oo 77 (.mv (.t 0)),
  oo 78 (.mv (.t 4)),
  oo 79 (.iaddr 4 (.t 77) (.t 78)),
  oo 80 (.faddr 3 3 (.t 79)),
  oo 81 (.load false 1 (.t 80)),
  oo 82 (.mv (.t 7)),
  oo 83 (.iaddr 2 (.t 81) (.t 82)),
  oo 84 (.faddr 0 0 (.t 83)),
  oo 85 (.load false 1 (.t 84)),
  oo 8 (.mv (.t 85))])
 (.region 18 [oo 86 (.mv (.t 3)),
  oo 87 (.mv (.t 0)),
  oo 88 (.mv (.t 4)),
  oo 89 (.iaddr 4 (.t 87) (.t 88)),
  oo 90 (.faddr 0 0 (.t 89)),
  oo 91 (.load false 1 (.t 90)),
  oo 92 (.mv (.t 0)),
  oo 93 (.mv (.t 8)),
  oo 94 (.mv (.t 0)),
  oo 95 (.mv (.t 4)),
  oo 96 (.iaddr 4 (.t 94) (.t 95)),
  oo 97 (.faddr 1 1 (.t 96)),
  oo 98 (.load false 1 (.t 97)),
  oo 99 (.call false 48 [(.t 92), (.t 93), (.t 98)]),
  oo 100 (.mv (.t 8)),
  oo 101 (.build [(.int .i64 0), (.int .i64 0), (.int .i64 0), (.int .i64 0)] [(0, (.t 91)), (1, (.t 99)), (2, (ci 2)), (3, (.t 100))]),
  oo 102 (.call false 356 [(.t 86), (.t 101)]),
  oo 3 (.mv (.t 102))])))
 (rg [oo 75 (.mv (.t 7)),
  oo 76 (.bin .add (.t 75) (ci 1)),
  oo 7 (.mv (.t 76))])))
def f63_r0 : AC :=
 (.seq (rg [oo 7 (.mv (ci 0))])
 (.block 4 (.loop ⟨[0, 3, 4, 7], [], []⟩ f63_b1)))
def f63_r1 : AC :=
 (rg [oo 18 (.mv (.t 4)),
  oo 19 (.bin .add (.t 18) (ci 1)),
  oo 4 (.mv (.t 19))])
def f63_b0 : AC :=
 (.seq (.seq (rg [oo 10 (.mv (.t 4)),
  oo 11 (.mv (.t 0)),
  oo 12 (.len false (.t 11)),
  oo 13 (.bin .lss (.t 10) (.t 12)),
  oo 14 (.mv (.t 13)),
  ⟨some 15, .mv (.t 0), some (14, true)⟩,
  ⟨some 16, .call false 243 [(.t 15)], some (14, true)⟩,
  oo 17 (.pick (.t 14) (.t 16) (.c (.bool false)))])
 (.cond (.t 17) .skip (.exit 0)))
 (.seq (.block 1 (.seq (.seq (rg [oo 5 (.mv (ci 0))])
 (.block 2 (.loop ⟨[0, 3, 4, 5], [], []⟩ f63_b2)))
 f63_r0))
 f63_r1))
def f63_r2 : AC :=
 (.seq (rg [oo 103 (.mv (.t 3)),
  oo 2 (.mv (.t 103))])
 .ret)
def f63_ac : AC :=
 (.seq (rg [oo 2 (.mv (.c (.nsl 4)))])
 (.seq (rg [oo 9 (.bslice 0 9 4 0 (.agg [(.int .i64 0), (.int .i64 0), (.int .i64 0), (.int .i64 0)]) []),
  oo 3 (.mv (.t 9))])
 (.seq (.seq (rg [oo 4 (.mv (ci 0))])
 (.block 0 (.loop ⟨[0, 3, 4], [], []⟩ f63_b0)))
 f63_r2)))
noncomputable def f63_l0 (E : Env) (x0 : U) (x3 : U) (x4 : U) : Option U := loopK (roundOf E ⟨[0, 3, 4], [], []⟩ f63_b0 (blockK 0 (seqK (fun s => exec E f63_r2 s (finish [(2, none)])) (finish [(2, none)])))) ([.val x0, .val x3, .val x4], [])
noncomputable def f63_l2 (E : Env) (x0 : U) (x3 : U) (x4 : U) (x5 : U) : Option U := loopK (roundOf E ⟨[0, 3, 4, 5], [], []⟩ f63_b2 (blockK 2 (seqK (fun s => exec E f63_r0 s (blockK 1 (seqK (fun s => exec E f63_r1 s (roundK ⟨[0, 3, 4], [], []⟩ (loopK (roundOf E ⟨[0, 3, 4], [], []⟩ f63_b0 (blockK 0 (seqK (fun s => exec E f63_r2 s (finish [(2, none)])) (finish [(2, none)]))))) (blockK 0 (seqK (fun s => exec E f63_r2 s (finish [(2, none)])) (finish [(2, none)]))))) (roundK ⟨[0, 3, 4], [], []⟩ (loopK (roundOf E ⟨[0, 3, 4], [], []⟩ f63_b0 (blockK 0 (seqK (fun s => exec E f63_r2 s (finish [(2, none)])) (finish [(2, none)]))))) (blockK 0 (seqK (fun s => exec E f63_r2 s (finish [(2, none)])) (finish [(2, none)]))))))) (blockK 1 (seqK (fun s => exec E f63_r1 s (roundK ⟨[0, 3, 4], [], []⟩ (loopK (roundOf E ⟨[0, 3, 4], [], []⟩ f63_b0 (blockK 0 (seqK (fun s => exec E f63_r2 s (finish [(2, none)])) (finish [(2, none)]))))) (blockK 0 (seqK (fun s => exec E f63_r2 s (finish [(2, none)])) (finish [(2, none)]))))) (roundK ⟨[0, 3, 4], [], []⟩ (loopK (roundOf E ⟨[0, 3, 4], [], []⟩ f63_b0 (blockK 0 (seqK (fun s => exec E f63_r2 s (finish [(2, none)])) (finish [(2, none)]))))) (blockK 0 (seqK (fun s => exec E f63_r2 s (finish [(2, none)])) (finish [(2, none)]))))))))) ([.val x0, .val x3, .val x4, .val x5], [])
noncomputable def f63_l1 (E : Env) (x0 : U) (x3 : U) (x4 : U) (x7 : U) : Option U := loopK (roundOf E ⟨[0, 3, 4, 7], [], []⟩ f63_b1 (blockK 4 (blockK 1 (seqK (fun s => exec E f63_r1 s (roundK ⟨[0, 3, 4], [], []⟩ (loopK (roundOf E ⟨[0, 3, 4], [], []⟩ f63_b0 (blockK 0 (seqK (fun s => exec E f63_r2 s (finish [(2, none)])) (finish [(2, none)]))))) (blockK 0 (seqK (fun s => exec E f63_r2 s (finish [(2, none)])) (finish [(2, none)]))))) (roundK ⟨[0, 3, 4], [], []⟩ (loopK (roundOf E ⟨[0, 3, 4], [], []⟩ f63_b0 (blockK 0 (seqK (fun s => exec E f63_r2 s (finish [(2, none)])) (finish [(2, none)]))))) (blockK 0 (seqK (fun s => exec E f63_r2 s (finish [(2, none)])) (finish [(2, none)])))))))) ([.val x0, .val x3, .val x4, .val x7], [])
theorem f63_l0_eq (E : Env) (x0 : U) (x3 : U) (x4 : U) : f63_l0 E x0 x3 x4 =
 (U.lenOf false x0).bind fun n1 => (U.bin .lss x4 (.int .i64 (n1 : Int))).bind fun t2 => U.asBool t2
 ((E 243 [x0]).bind fun t3 => U.asBool t3
 (f63_l2 E x0 x3 x4 (.int .i64 0))
 (some x3))
 (some x3) :=
 (loop_eq E _ _ _ _).trans (by kernel_rfl)
theorem f63_l2_eq (E : Env) (x0 : U) (x3 : U) (x4 : U) (x5 : U) : f63_l2 E x0 x3 x4 x5 =
 U.asInt x4 fun n4 => U.elemAt 4 x0 n4 fun e5 => U.fieldAt 2 2 e5 fun f6 => U.asVar false 1 f6 fun e7 => (U.lenOf false e7).bind fun n8 => (U.bin .lss x5 (.int .i64 (n8 : Int))).bind fun t9 => U.asBool t9
 (U.asInt x4 fun n10 => U.elemAt 4 x0 n10 fun e11 => U.fieldAt 2 2 e11 fun f12 => U.asVar false 1 f12 fun e13 => U.asInt x5 fun n14 => U.elemAt 2 e13 n14 fun e15 => U.asVar true 2 e15 fun e16 => if storable (.val e16) = true ∧ e16.size = 2 then U.asVar true 2 e16 fun e17 => (E 244 [x0, e17]).bind fun t18 => U.asInt x4 fun n19 => U.elemAt 4 x0 n19 fun e20 => U.fieldAt 0 0 e20 fun f21 => U.asVar false 1 f21 fun e22 => U.asAgg e16 fun us23 => if 0 = sizes (us23.take 0) then (us23[0]?).bind fun e24 => U.asVar false 1 e24 fun e25 => if partable (.val t18) = true ∧ t18.size = 1 then if partable (.val e22) = true ∧ e22.size = 1 then if partable (.val e25) = true ∧ e25.size = 1 then (E 356 [x3, (.agg [t18, e22, (.int .i64 1), e25])]).bind fun t26 => U.asInt x4 fun n27 => U.elemAt 4 x0 n27 fun e28 => U.fieldAt 0 0 e28 fun f29 => U.asVar false 1 f29 fun e30 => U.asAgg e16 fun us31 => if 0 = sizes (us31.take 0) then (us31[0]?).bind fun e32 => U.asVar false 1 e32 fun e33 => U.asAgg e16 fun us34 => if 1 = sizes (us34.take 1) then (us34[1]?).bind fun e35 => U.asVar false 1 e35 fun e36 => (E 48 [x0, e33, e36]).bind fun t37 => U.asAgg e16 fun us38 => if 0 = sizes (us38.take 0) then (us38[0]?).bind fun e39 => U.asVar false 1 e39 fun e40 => if partable (.val e30) = true ∧ e30.size = 1 then if partable (.val t37) = true ∧ t37.size = 1 then if partable (.val e40) = true ∧ e40.size = 1 then (E 356 [t26, (.agg [e30, t37, (.int .i64 3), e40])]).bind fun t41 => (U.bin .add x5 (.int .i64 1)).bind fun t42 => f63_l2 E x0 t41 x4 t42 else none else none else none else none else none else none else none else none else none else none else none)
 (f63_l1 E x0 x3 x4 (.int .i64 0)) :=
 (loop_eq E _ _ _ _).trans (by kernel_rfl)
theorem f63_l1_eq (E : Env) (x0 : U) (x3 : U) (x4 : U) (x7 : U) : f63_l1 E x0 x3 x4 x7 =
 U.asInt x4 fun n43 => U.elemAt 4 x0 n43 fun e44 => U.fieldAt 3 3 e44 fun f45 => U.asVar false 1 f45 fun e46 => (U.lenOf false e46).bind fun n47 => (U.bin .lss x7 (.int .i64 (n47 : Int))).bind fun t48 => U.asBool t48
 (U.asInt x4 fun n49 => U.elemAt 4 x0 n49 fun e50 => U.fieldAt 3 3 e50 fun f51 => U.asVar false 1 f51 fun e52 => U.asInt x7 fun n53 => U.elemAt 2 e52 n53 fun e54 => U.fieldAt 0 0 e54 fun f55 => U.asVar false 1 f55 fun e56 => U.asInt x4 fun n57 => U.elemAt 4 x0 n57 fun e58 => U.fieldAt 0 0 e58 fun f59 => U.asVar false 1 f59 fun e60 => U.asInt x4 fun n61 => U.elemAt 4 x0 n61 fun e62 => U.fieldAt 1 1 e62 fun f63 => U.asVar false 1 f63 fun e64 => (E 48 [x0, e56, e64]).bind fun t65 => if partable (.val e60) = true ∧ e60.size = 1 then if partable (.val t65) = true ∧ t65.size = 1 then if partable (.val e56) = true ∧ e56.size = 1 then (E 356 [x3, (.agg [e60, t65, (.int .i64 2), e56])]).bind fun t66 => (U.bin .add x7 (.int .i64 1)).bind fun t67 => f63_l1 E x0 t66 x4 t67 else none else none else none)
 ((U.bin .add x4 (.int .i64 1)).bind fun t68 => f63_l0 E x0 x3 t68) :=
 (loop_eq E _ _ _ _).trans (by kernel_rfl)
structure G_f63 (E : Env) : Prop where
  is : Is E 353 1 f63_ac [(2, none)]
  c_f68 : G_f68 E
  c_f74 : G_f74 E
  c_f71 : G_f71 E
  c_f70 : G_f70 E
theorem f63_E {E : Env} (h : G_f63 E) (a0 : U) : E 353 [a0] =
 f63_l0 E a0 (.sl 4 ([] : List U)) (.int .i64 0) := (h.is _ rfl).trans ((runQ_V rfl).trans (by kernel_rfl))
def f67_b0 : AC :=
 (.seq (.seq (rg [oo 8 (.mv (.t 7)),
  oo 9 (.mv (.t 0)),
  oo 10 (.len false (.t 9)),
  oo 11 (.bin .lss (.t 8) (.t 10))])
 (.cond (.t 11) .skip (.exit 0)))
 (.seq (.block 1 (.seq (rg [oo 14 (.mv (.t 0)),
  oo 15 (.mv (.t 7)),
  oo 16 (.iaddr 4 (.t 14) (.t 15)),
  oo 17 (.faddr 0 0 (.t 16)),
  oo 18 (.load false 1 (.t 17)),
  oo 19 (.mv (.t 1)),
  oo 20 (.bin .eql (.t 18) (.t 19)),
  oo 21 (.mv (.t 20)),
  ⟨some 22, .mv (.t 0), some (21, true)⟩,
  ⟨some 23, .mv (.t 7), some (21, true)⟩,
  ⟨some 24, .iaddr 4 (.t 22) (.t 23), some (21, true)⟩,
  ⟨some 25, .faddr 1 1 (.t 24), some (21, true)⟩,
  ⟨some 26, .load false 1 (.t 25), some (21, true)⟩,
  ⟨some 27, .mv (.t 2), some (21, true)⟩,
  ⟨some 28, .bin .eql (.t 26) (.t 27), some (21, true)⟩,
  oo 29 (.pick (.t 21) (.t 28) (.c (.bool false)))])
 (.cond (.t 29) (.seq (rg [oo 6 (.mv (.c (.bool true)))])
 .ret) .skip)))
 (rg [oo 12 (.mv (.t 7)),
  oo 13 (.bin .add (.t 12) (ci 1)),
  oo 7 (.mv (.t 13))])))
def f67_r0 : AC :=
 (.seq (rg [oo 6 (.mv (.c (.bool false)))])
 .ret)
def f67_ac : AC :=
 (.seq (rg [oo 6 (.mv (.c (.bool false)))])
 (.seq (.seq (rg [oo 7 (.mv (ci 0))])
 (.block 0 (.loop ⟨[0, 1, 2, 7], [], []⟩ f67_b0)))
 f67_r0))
noncomputable def f67_l0 (E : Env) (x0 : U) (x1 : U) (x2 : U) (x7 : U) : Option U := loopK (roundOf E ⟨[0, 1, 2, 7], [], []⟩ f67_b0 (blockK 0 (seqK (fun s => exec E f67_r0 s (finish [(6, none)])) (finish [(6, none)])))) ([.val x0, .val x1, .val x2, .val x7], [])
theorem f67_l0_eq (E : Env) (x0 : U) (x1 : U) (x2 : U) (x7 : U) : f67_l0 E x0 x1 x2 x7 =
 (U.lenOf false x0).bind fun n1 => (U.bin .lss x7 (.int .i64 (n1 : Int))).bind fun t2 => U.asBool t2
 (U.asInt x7 fun n3 => U.elemAt 4 x0 n3 fun e4 => U.fieldAt 0 0 e4 fun f5 => U.asVar false 1 f5 fun e6 => (U.bin .eql e6 x1).bind fun t7 => U.asBool t7
 (U.asInt x7 fun n8 => U.elemAt 4 x0 n8 fun e9 => U.fieldAt 1 1 e9 fun f10 => U.asVar false 1 f10 fun e11 => (U.bin .eql e11 x2).bind fun t12 => U.asBool t12
 (some (.bool true))
 ((U.bin .add x7 (.int .i64 1)).bind fun t13 => f67_l0 E x0 x1 x2 t13))
 ((U.bin .add x7 (.int .i64 1)).bind fun t14 => f67_l0 E x0 x1 x2 t14))
 (some (.bool false)) :=
 (loop_eq E _ _ _ _).trans (by kernel_rfl)
structure G_f67 (E : Env) : Prop where
  is : Is E 62 3 f67_ac [(6, none)]
theorem f67_E {E : Env} (h : G_f67 E) (a0 a1 a2 : U) : E 62 [a0, a1, a2] =
 f67_l0 E a0 a1 a2 (.int .i64 0) := (h.is _ rfl).trans ((runQ_V rfl).trans (by kernel_rfl))
def f62_b0 : AC :=
 (.seq (.seq (rg [oo 4 (.mv (.t 3)),
  oo 5 (.mv (.t 0)),
  oo 6 (.len false (.t 5)),
  oo 7 (.bin .lss (.t 4) (.t 6))])
 (.cond (.t 7) .skip (.exit 0)))
 (.seq (.block 1 (.seq (.region 64 [oo 10 (.mv (.t 0)),
  oo 11 (.mv (.t 3)),
  oo 12 (.iaddr 4 (.t 10) (.t 11)),
  oo 13 (.faddr 0 0 (.t 12)),
  oo 14 (.load false 1 (.t 13)),
  oo 15 (.call false 6 [(.t 14), (ci 1), (ci 9)]),
  oo 16 (.un .not (.t 15)),
  oo 17 (.mv (.t 16)),
  ⟨some 18, .mv (.t 0), some (17, false)⟩,
  ⟨some 19, .mv (.t 3), some (17, false)⟩,
  ⟨some 20, .iaddr 4 (.t 18) (.t 19), some (17, false)⟩,
  ⟨some 21, .faddr 1 1 (.t 20), some (17, false)⟩,
  ⟨some 22, .load false 1 (.t 21), some (17, false)⟩,
  ⟨some 23, .call false 6 [(.t 22), (ci 1), (ci 9)], some (17, false)⟩,
  ⟨some 24, .un .not (.t 23), some (17, false)⟩,
  oo 25 (.pick (.t 17) (.c (.bool true)) (.t 24)),
  oo 26 (.mv (.t 25)),
  ⟨some 27, .mv (.t 0), some (26, false)⟩,
  ⟨some 28, .mv (.t 3), some (26, false)⟩,
  ⟨some 29, .iaddr 4 (.t 27) (.t 28), some (26, false)⟩,
  ⟨some 30, .faddr 0 0 (.t 29), some (26, false)⟩,
  ⟨some 31, .load false 1 (.t 30), some (26, false)⟩,
  ⟨some 32, .mv (.t 0), some (26, false)⟩,
  ⟨some 33, .mv (.t 3), some (26, false)⟩,
  ⟨some 34, .iaddr 4 (.t 32) (.t 33), some (26, false)⟩,
  ⟨some 35, .faddr 1 1 (.t 34), some (26, false)⟩,
  ⟨some 36, .load false 1 (.t 35), some (26, false)⟩,
  ⟨some 37, .bin .eql (.t 31) (.t 36), some (26, false)⟩,
  oo 38 (.pick (.t 26) (.c (.bool true)) (.t 37)),
  oo 39 (.mv (.t 38)),
  ⟨some 40, .mv (.t 0), some (39, false)⟩,
  ⟨some 41, .mv (.t 3), some (39, false)⟩,
  ⟨some 42, .iaddr 4 (.t 40) (.t 41), some (39, false)⟩,
  ⟨some 43, .faddr 2 2 (.t 42), some (39, false)⟩,
  ⟨some 44, .load false 1 (.t 43), some (39, false)⟩,
  ⟨some 45, .call false 6 [(.t 44), (ci 1), (ci 3)], some (39, false)⟩,
  ⟨some 46, .un .not (.t 45), some (39, false)⟩,
  oo 47 (.pick (.t 39) (.c (.bool true)) (.t 46)),
  oo 48 (.mv (.t 47)),
  ⟨some 49, .mv (.t 0), some (48, false)⟩,
  ⟨some 50, .mv (.t 3), some (48, false)⟩,
  ⟨some 51, .iaddr 4 (.t 49) (.t 50), some (48, false)⟩,
  ⟨some 52, .faddr 3 3 (.t 51), some (48, false)⟩,
  ⟨some 53, .load false 1 (.t 52), some (48, false)⟩,
  ⟨some 54, .call false 6 [(.t 53), (ci 0), (ci 5)], some (48, false)⟩,
  ⟨some 55, .un .not (.t 54), some (48, false)⟩,
  oo 56 (.pick (.t 48) (.c (.bool true)) (.t 55)),
  oo 57 (.mv (.t 56)),
  ⟨some 58, .mv (.t 3), some (57, false)⟩,
  ⟨some 59, .bin .gtr (.t 58) (ci 0), some (57, false)⟩,
  ⟨some 60, .mv (.t 59), some (57, false)⟩,
  ⟨some 61, .mv (.t 0), some (60, true)⟩,
  ⟨some 62, .mv (.t 3), some (60, true)⟩,
  ⟨some 63, .bin .sub (.t 62) (ci 1), some (60, true)⟩,
  ⟨some 64, .iaddr 4 (.t 61) (.t 63), some (60, true)⟩,
  ⟨some 65, .load true 4 (.t 64), some (60, true)⟩,
  ⟨some 66, .mv (.t 0), some (60, true)⟩,
  ⟨some 67, .mv (.t 3), some (60, true)⟩,
  ⟨some 68, .iaddr 4 (.t 66) (.t 67), some (60, true)⟩,
  ⟨some 69, .load true 4 (.t 68), some (60, true)⟩,
  ⟨some 70, .call false 7 [(.t 65), (.t 69)], some (60, true)⟩,
  ⟨some 71, .un .not (.t 70), some (60, true)⟩,
  ⟨some 72, .pick (.t 60) (.t 71) (.c (.bool false)), some (57, false)⟩,
  oo 73 (.pick (.t 57) (.c (.bool true)) (.t 72))])
 (.cond (.t 73) (.seq (rg [oo 2 (.mv (.c (.bool false)))])
 .ret) .skip)))
 (rg [oo 8 (.mv (.t 3)),
  oo 9 (.bin .add (.t 8) (ci 1)),
  oo 3 (.mv (.t 9))])))
def f62_r0 : AC :=
 (.seq (rg [oo 2 (.mv (.c (.bool true)))])
 .ret)
def f62_ac : AC :=
 (.seq (rg [oo 2 (.mv (.c (.bool false)))])
 (.seq (.seq (rg [oo 3 (.mv (ci 0))])
 (.block 0 (.loop ⟨[0, 3], [], []⟩ f62_b0)))
 f62_r0))
noncomputable def f62_l0 (E : Env) (x0 : U) (x3 : U) : Option U := loopK (roundOf E ⟨[0, 3], [], []⟩ f62_b0 (blockK 0 (seqK (fun s => exec E f62_r0 s (finish [(2, none)])) (finish [(2, none)])))) ([.val x0, .val x3], [])
theorem f62_l0_eq (E : Env) (x0 : U) (x3 : U) : f62_l0 E x0 x3 =
 (U.lenOf false x0).bind fun n1 => (U.bin .lss x3 (.int .i64 (n1 : Int))).bind fun t2 => U.asBool t2
 (U.asInt x3 fun n3 => U.elemAt 4 x0 n3 fun e4 => U.fieldAt 0 0 e4 fun f5 => U.asVar false 1 f5 fun e6 => (E 6 [e6, (.int .i64 1), (.int .i64 9)]).bind fun t7 => (U.un .not t7).bind fun t8 => U.asBool t8
 (some (.bool false))
 (U.asInt x3 fun n9 => U.elemAt 4 x0 n9 fun e10 => U.fieldAt 1 1 e10 fun f11 => U.asVar false 1 f11 fun e12 => (E 6 [e12, (.int .i64 1), (.int .i64 9)]).bind fun t13 => (U.un .not t13).bind fun t14 => U.asBool t14
 (some (.bool false))
 (U.asInt x3 fun n15 => U.elemAt 4 x0 n15 fun e16 => U.fieldAt 0 0 e16 fun f17 => U.asVar false 1 f17 fun e18 => U.asInt x3 fun n19 => U.elemAt 4 x0 n19 fun e20 => U.fieldAt 1 1 e20 fun f21 => U.asVar false 1 f21 fun e22 => (U.bin .eql e18 e22).bind fun t23 => U.asBool t23
 (some (.bool false))
 (U.asInt x3 fun n24 => U.elemAt 4 x0 n24 fun e25 => U.fieldAt 2 2 e25 fun f26 => U.asVar false 1 f26 fun e27 => (E 6 [e27, (.int .i64 1), (.int .i64 3)]).bind fun t28 => (U.un .not t28).bind fun t29 => U.asBool t29
 (some (.bool false))
 (U.asInt x3 fun n30 => U.elemAt 4 x0 n30 fun e31 => U.fieldAt 3 3 e31 fun f32 => U.asVar false 1 f32 fun e33 => (E 6 [e33, (.int .i64 0), (.int .i64 5)]).bind fun t34 => (U.un .not t34).bind fun t35 => U.asBool t35
 (some (.bool false))
 ((U.bin .gtr x3 (.int .i64 0)).bind fun t36 => U.asBool t36
 ((U.bin .sub x3 (.int .i64 1)).bind fun t37 => U.asInt t37 fun n38 => U.elemAt 4 x0 n38 fun e39 => U.asVar true 4 e39 fun e40 => U.asInt x3 fun n41 => U.elemAt 4 x0 n41 fun e42 => U.asVar true 4 e42 fun e43 => (E 7 [e40, e43]).bind fun t44 => (U.un .not t44).bind fun t45 => U.asBool t45
 (some (.bool false))
 ((U.bin .add x3 (.int .i64 1)).bind fun t46 => f62_l0 E x0 t46))
 ((U.bin .add x3 (.int .i64 1)).bind fun t47 => f62_l0 E x0 t47)))))))
 (some (.bool true)) :=
 (loop_eq E _ _ _ _).trans (by kernel_rfl)
structure G_f62 (E : Env) : Prop where
  is : Is E 4 1 f62_ac [(2, none)]
  c_f75 : G_f75 E
  c_f73 : G_f73 E
theorem f62_E {E : Env} (h : G_f62 E) (a0 : U) : E 4 [a0] =
 f62_l0 E a0 (.int .i64 0) := (h.is _ rfl).trans ((runQ_V rfl).trans (by kernel_rfl))
def f64_b1 : AC :=
 (.seq (.seq (rg [oo 13 (.mv (.t 6)),
  oo 14 (.mv (.t 5)),
  oo 15 (.bin .lss (.t 13) (.t 14))])
 (.cond (.t 15) .skip (.exit 2)))
 (.seq (.block 3 (.seq (.region 9 [oo 18 (.mv (.t 1)),
  oo 19 (.mv (.t 6)),
  oo 20 (.iaddr 1 (.t 18) (.t 19)),
  oo 21 (.load false 1 (.t 20)),
  oo 22 (.mv (.t 1)),
  oo 23 (.mv (.t 5)),
  oo 24 (.iaddr 1 (.t 22) (.t 23)),
  oo 25 (.load false 1 (.t 24)),
  oo 26 (.bin .eql (.t 21) (.t 25))])
 (.cond (.t 26) (.seq (rg [oo 4 (.mv (.c (.bool false)))])
 .ret) .skip)))
 (rg [oo 16 (.mv (.t 6)),
  oo 17 (.bin .add (.t 16) (ci 1)),
  oo 6 (.mv (.t 17))])))
def f64_r0 : AC :=
 (.seq (.region 15 [oo 27 (.mv (.t 0)),
  oo 28 (.mv (.t 1)),
  oo 29 (.mv (.t 5)),
  oo 30 (.iaddr 1 (.t 28) (.t 29)),
  oo 31 (.load false 1 (.t 30)),
  oo 32 (.mv (.t 1)),
  oo 33 (.mv (.t 5)),
  oo 34 (.bin .add (.t 33) (ci 1)),
  oo 35 (.mv (.t 1)),
  oo 36 (.len false (.t 35)),
  oo 37 (.bin .rem (.t 34) (.t 36)),
  oo 38 (.iaddr 1 (.t 32) (.t 37)),
  oo 39 (.load false 1 (.t 38)),
  oo 40 (.call false 62 [(.t 27), (.t 31), (.t 39)]),
  oo 41 (.un .not (.t 40))])
 (.cond (.t 41) (.seq (rg [oo 4 (.mv (.c (.bool false)))])
 .ret) .skip))
def f64_r1 : AC :=
 (rg [oo 11 (.mv (.t 5)),
  oo 12 (.bin .add (.t 11) (ci 1)),
  oo 5 (.mv (.t 12))])
def f64_b0 : AC :=
 (.seq (.seq (rg [oo 7 (.mv (.t 5)),
  oo 8 (.mv (.t 1)),
  oo 9 (.len false (.t 8)),
  oo 10 (.bin .lss (.t 7) (.t 9))])
 (.cond (.t 10) .skip (.exit 0)))
 (.seq (.block 1 (.seq (.seq (rg [oo 6 (.mv (ci 0))])
 (.block 2 (.loop ⟨[0, 1, 5, 6], [], []⟩ f64_b1)))
 f64_r0))
 f64_r1))
def f64_r2 : AC :=
 (.seq (rg [oo 42 (.mv (.t 0)),
  oo 43 (.call false 4 [(.t 42)]),
  oo 44 (.mv (.t 43)),
  ⟨some 45, .mv (.t 1), some (44, true)⟩,
  ⟨some 46, .len false (.t 45), some (44, true)⟩,
  ⟨some 47, .bin .gtr (.t 46) (ci 1), some (44, true)⟩,
  oo 48 (.pick (.t 44) (.t 47) (.c (.bool false))),
  oo 4 (.mv (.t 48))])
 .ret)
def f64_ac : AC :=
 (.seq (rg [oo 4 (.mv (.c (.bool false)))])
 (.seq (.seq (rg [oo 5 (.mv (ci 0))])
 (.block 0 (.loop ⟨[0, 1, 5], [], []⟩ f64_b0)))
 f64_r2))
noncomputable def f64_l0 (E : Env) (x0 : U) (x1 : U) (x5 : U) : Option U := loopK (roundOf E ⟨[0, 1, 5], [], []⟩ f64_b0 (blockK 0 (seqK (fun s => exec E f64_r2 s (finish [(4, none)])) (finish [(4, none)])))) ([.val x0, .val x1, .val x5], [])
noncomputable def f64_l1 (E : Env) (x0 : U) (x1 : U) (x5 : U) (x6 : U) : Option U := loopK (roundOf E ⟨[0, 1, 5, 6], [], []⟩ f64_b1 (blockK 2 (seqK (fun s => exec E f64_r0 s (blockK 1 (seqK (fun s => exec E f64_r1 s (roundK ⟨[0, 1, 5], [], []⟩ (loopK (roundOf E ⟨[0, 1, 5], [], []⟩ f64_b0 (blockK 0 (seqK (fun s => exec E f64_r2 s (finish [(4, none)])) (finish [(4, none)]))))) (blockK 0 (seqK (fun s => exec E f64_r2 s (finish [(4, none)])) (finish [(4, none)]))))) (roundK ⟨[0, 1, 5], [], []⟩ (loopK (roundOf E ⟨[0, 1, 5], [], []⟩ f64_b0 (blockK 0 (seqK (fun s => exec E f64_r2 s (finish [(4, none)])) (finish [(4, none)]))))) (blockK 0 (seqK (fun s => exec E f64_r2 s (finish [(4, none)])) (finish [(4, none)]))))))) (blockK 1 (seqK (fun s => exec E f64_r1 s (roundK ⟨[0, 1, 5], [], []⟩ (loopK (roundOf E ⟨[0, 1, 5], [], []⟩ f64_b0 (blockK 0 (seqK (fun s => exec E f64_r2 s (finish [(4, none)])) (finish [(4, none)]))))) (blockK 0 (seqK (fun s => exec E f64_r2 s (finish [(4, none)])) (finish [(4, none)]))))) (roundK ⟨[0, 1, 5], [], []⟩ (loopK (roundOf E ⟨[0, 1, 5], [], []⟩ f64_b0 (blockK 0 (seqK (fun s => exec E f64_r2 s (finish [(4, none)])) (finish [(4, none)]))))) (blockK 0 (seqK (fun s => exec E f64_r2 s (finish [(4, none)])) (finish [(4, none)]))))))))) ([.val x0, .val x1, .val x5, .val x6], [])
theorem f64_l0_eq (E : Env) (x0 : U) (x1 : U) (x5 : U) : f64_l0 E x0 x1 x5 =
 (U.lenOf false x1).bind fun n1 => (U.bin .lss x5 (.int .i64 (n1 : Int))).bind fun t2 => U.asBool t2
 (f64_l1 E x0 x1 x5 (.int .i64 0))
 ((E 4 [x0]).bind fun t3 => U.asBool t3
 ((U.lenOf false x1).bind fun n4 => (U.bin .gtr (.int .i64 (n4 : Int)) (.int .i64 1)).bind fun t5 => some t5)
 (some (.bool false))) :=
 (loop_eq E _ _ _ _).trans (by kernel_rfl)
theorem f64_l1_eq (E : Env) (x0 : U) (x1 : U) (x5 : U) (x6 : U) : f64_l1 E x0 x1 x5 x6 =
 (U.bin .lss x6 x5).bind fun t6 => U.asBool t6
 (U.asInt x6 fun n7 => U.elemAt 1 x1 n7 fun e8 => U.asVar false 1 e8 fun e9 => U.asInt x5 fun n10 => U.elemAt 1 x1 n10 fun e11 => U.asVar false 1 e11 fun e12 => (U.bin .eql e9 e12).bind fun t13 => U.asBool t13
 (some (.bool false))
 ((U.bin .add x6 (.int .i64 1)).bind fun t14 => f64_l1 E x0 x1 x5 t14))
 (U.asInt x5 fun n15 => U.elemAt 1 x1 n15 fun e16 => U.asVar false 1 e16 fun e17 => (U.bin .add x5 (.int .i64 1)).bind fun t18 => (U.lenOf false x1).bind fun n19 => (U.bin .rem t18 (.int .i64 (n19 : Int))).bind fun t20 => U.asInt t20 fun n21 => U.elemAt 1 x1 n21 fun e22 => U.asVar false 1 e22 fun e23 => (E 62 [x0, e17, e23]).bind fun t24 => (U.un .not t24).bind fun t25 => U.asBool t25
 (some (.bool false))
 ((U.bin .add x5 (.int .i64 1)).bind fun t26 => f64_l0 E x0 x1 t26)) :=
 (loop_eq E _ _ _ _).trans (by kernel_rfl)
structure G_f64 (E : Env) : Prop where
  is : Is E 61 2 f64_ac [(4, none)]
  c_f67 : G_f67 E
  c_f62 : G_f62 E
theorem f64_E {E : Env} (h : G_f64 E) (a0 a1 : U) : E 61 [a0, a1] =
 f64_l0 E a0 a1 (.int .i64 0) := (h.is _ rfl).trans ((runQ_V rfl).trans (by kernel_rfl))
def f76_b0 : AC :=
 (.seq (.seq (rg [oo 8 (.mv (.t 7)),
  oo 9 (.mv (.t 0)),
  oo 10 (.len false (.t 9)),
  oo 11 (.bin .lss (.t 8) (.t 10))])
 (.cond (.t 11) .skip (.exit 0)))
 (.seq (.block 1 (.seq (rg [oo 14 (.mv (.t 0)),
  oo 15 (.mv (.t 7)),
  oo 16 (.iaddr 4 (.t 14) (.t 15)),
  oo 17 (.faddr 0 0 (.t 16)),
  oo 18 (.load false 1 (.t 17)),
  oo 19 (.mv (.t 1)),
  oo 20 (.bin .eql (.t 18) (.t 19)),
  oo 21 (.mv (.t 20)),
  ⟨some 22, .mv (.t 0), some (21, true)⟩,
  ⟨some 23, .mv (.t 7), some (21, true)⟩,
  ⟨some 24, .iaddr 4 (.t 22) (.t 23), some (21, true)⟩,
  ⟨some 25, .faddr 1 1 (.t 24), some (21, true)⟩,
  ⟨some 26, .load false 1 (.t 25), some (21, true)⟩,
  ⟨some 27, .mv (.t 2), some (21, true)⟩,
  ⟨some 28, .bin .eql (.t 26) (.t 27), some (21, true)⟩,
  oo 29 (.pick (.t 21) (.t 28) (.c (.bool false))),
  oo 30 (.mv (.t 29)),
  ⟨some 31, .mv (.t 0), some (30, true)⟩,
  ⟨some 32, .mv (.t 7), some (30, true)⟩,
  ⟨some 33, .iaddr 4 (.t 31) (.t 32), some (30, true)⟩,
  ⟨some 34, .faddr 2 2 (.t 33), some (30, true)⟩,
  ⟨some 35, .load false 1 (.t 34), some (30, true)⟩,
  ⟨some 36, .bin .neq (.t 35) (ci 3), some (30, true)⟩,
  oo 37 (.pick (.t 30) (.t 36) (.c (.bool false)))])
 (.cond (.t 37) (.seq (rg [oo 6 (.mv (.c (.bool false)))])
 .ret) .skip)))
 (rg [oo 12 (.mv (.t 7)),
  oo 13 (.bin .add (.t 12) (ci 1)),
  oo 7 (.mv (.t 13))])))
def f76_r0 : AC :=
 (.seq (rg [oo 6 (.mv (.c (.bool true)))])
 .ret)
def f76_ac : AC :=
 (.seq (rg [oo 6 (.mv (.c (.bool false)))])
 (.seq (.seq (rg [oo 7 (.mv (ci 0))])
 (.block 0 (.loop ⟨[0, 1, 2, 7], [], []⟩ f76_b0)))
 f76_r0))
noncomputable def f76_l0 (E : Env) (x0 : U) (x1 : U) (x2 : U) (x7 : U) : Option U := loopK (roundOf E ⟨[0, 1, 2, 7], [], []⟩ f76_b0 (blockK 0 (seqK (fun s => exec E f76_r0 s (finish [(6, none)])) (finish [(6, none)])))) ([.val x0, .val x1, .val x2, .val x7], [])
theorem f76_l0_eq (E : Env) (x0 : U) (x1 : U) (x2 : U) (x7 : U) : f76_l0 E x0 x1 x2 x7 =
 (U.lenOf false x0).bind fun n1 => (U.bin .lss x7 (.int .i64 (n1 : Int))).bind fun t2 => U.asBool t2
 (U.asInt x7 fun n3 => U.elemAt 4 x0 n3 fun e4 => U.fieldAt 0 0 e4 fun f5 => U.asVar false 1 f5 fun e6 => (U.bin .eql e6 x1).bind fun t7 => U.asBool t7
 (U.asInt x7 fun n8 => U.elemAt 4 x0 n8 fun e9 => U.fieldAt 1 1 e9 fun f10 => U.asVar false 1 f10 fun e11 => (U.bin .eql e11 x2).bind fun t12 => U.asBool t12
 (U.asInt x7 fun n13 => U.elemAt 4 x0 n13 fun e14 => U.fieldAt 2 2 e14 fun f15 => U.asVar false 1 f15 fun e16 => (U.bin .neq e16 (.int .i64 3)).bind fun t17 => U.asBool t17
 (some (.bool false))
 ((U.bin .add x7 (.int .i64 1)).bind fun t18 => f76_l0 E x0 x1 x2 t18))
 ((U.bin .add x7 (.int .i64 1)).bind fun t19 => f76_l0 E x0 x1 x2 t19))
 ((U.bin .add x7 (.int .i64 1)).bind fun t20 => f76_l0 E x0 x1 x2 t20))
 (some (.bool true)) :=
 (loop_eq E _ _ _ _).trans (by kernel_rfl)
structure G_f76 (E : Env) : Prop where
  is : Is E 440 3 f76_ac [(6, none)]
theorem f76_E {E : Env} (h : G_f76 E) (a0 a1 a2 : U) : E 440 [a0, a1, a2] =
 f76_l0 E a0 a1 a2 (.int .i64 0) := (h.is _ rfl).trans ((runQ_V rfl).trans (by kernel_rfl))
def f65_b2 : AC :=
 (.seq (.seq (rg [oo 17 (.mv (.t 6)),
  oo 18 (.mv (.t 1)),
  oo 19 (.len false (.t 18)),
  oo 20 (.bin .lss (.t 17) (.t 19))])
 (.cond (.t 20) .skip (.exit 0)))
 (.seq (.block 1 (.seq (rg [oo 23 (.mv (.t 0)),
  oo 24 (.mv (.t 0)),
  oo 25 (.mv (.t 1)),
  oo 26 (.mv (.t 6)),
  oo 27 (.iaddr 1 (.t 25) (.t 26)),
  oo 28 (.load false 1 (.t 27)),
  oo 29 (.call false 241 [(.t 24), (.t 28)]),
  oo 30 (.iaddr 4 (.t 23) (.t 29)),
  oo 31 (.faddr 3 3 (.t 30)),
  oo 32 (.load false 1 (.t 31)),
  oo 33 (.len false (.t 32)),
  oo 34 (.bin .eql (.t 33) (ci 0))])
 (.cond (.t 34) (.seq (rg [oo 4 (.mv (ci 3))])
 .ret) .skip)))
 (rg [oo 21 (.mv (.t 6)),
  oo 22 (.bin .add (.t 21) (ci 1)),
  oo 6 (.mv (.t 22))])))
def f65_b1 : AC :=
 (.seq (.seq (rg [oo 61 (.mv (.t 10)),
  oo 62 (.faddr 3 3 (.t 8)),
  oo 63 (.load false 1 (.t 62)),
  oo 64 (.len false (.t 63)),
  oo 65 (.bin .lss (.t 61) (.t 64))])
 (.cond (.t 65) .skip (.exit 4)))
 (.seq (.block 5 (.seq (.region 13 [oo 68 (.faddr 3 3 (.t 7)),
  oo 69 (.load false 1 (.t 68)),
  oo 70 (.mv (.t 9)),
  oo 71 (.iaddr 2 (.t 69) (.t 70)),
  oo 72 (.faddr 0 0 (.t 71)),
  oo 73 (.load false 1 (.t 72)),
  oo 74 (.faddr 3 3 (.t 8)),
  oo 75 (.load false 1 (.t 74)),
  oo 76 (.mv (.t 10)),
  oo 77 (.iaddr 2 (.t 75) (.t 76)),
  oo 78 (.faddr 0 0 (.t 77)),
  oo 79 (.load false 1 (.t 78)),
  oo 80 (.bin .eql (.t 73) (.t 79))])
 (.cond (.t 80) (.seq (rg [oo 4 (.mv (ci 1))])
 .ret) .skip)))
 (rg [oo 66 (.mv (.t 10)),
  oo 67 (.bin .add (.t 66) (ci 1)),
  oo 10 (.mv (.t 67))])))
def f65_r0 : AC :=
 (rg [oo 59 (.mv (.t 9)),
  oo 60 (.bin .add (.t 59) (ci 1)),
  oo 9 (.mv (.t 60))])
def f65_b0 : AC :=
 (.seq (.seq (rg [oo 54 (.mv (.t 9)),
  oo 55 (.faddr 3 3 (.t 7)),
  oo 56 (.load false 1 (.t 55)),
  oo 57 (.len false (.t 56)),
  oo 58 (.bin .lss (.t 54) (.t 57))])
 (.cond (.t 58) .skip (.exit 2)))
 (.seq (.block 3 (.seq (rg [oo 10 (.mv (ci 0))])
 (.block 4 (.loop ⟨[1, 5, 7, 8, 9, 10], [], [(7, false), (8, false)]⟩ f65_b1))))
 f65_r0))
def f65_r1 : AC :=
 (.seq (.seq (.region 18 [oo 81 (.mv (.t 5)),
  oo 82 (.mv (.t 1)),
  oo 83 (.iaddr 1 (.t 82) (ci 0)),
  oo 84 (.load false 1 (.t 83)),
  oo 85 (.mv (.t 1)),
  oo 86 (.iaddr 1 (.t 85) (ci 1)),
  oo 87 (.load false 1 (.t 86)),
  oo 88 (.call false 440 [(.t 81), (.t 84), (.t 87)]),
  oo 89 (.mv (.t 88)),
  ⟨some 90, .mv (.t 5), some (89, true)⟩,
  ⟨some 91, .mv (.t 1), some (89, true)⟩,
  ⟨some 92, .iaddr 1 (.t 91) (ci 1), some (89, true)⟩,
  ⟨some 93, .load false 1 (.t 92), some (89, true)⟩,
  ⟨some 94, .mv (.t 1), some (89, true)⟩,
  ⟨some 95, .iaddr 1 (.t 94) (ci 0), some (89, true)⟩,
  ⟨some 96, .load false 1 (.t 95), some (89, true)⟩,
  ⟨some 97, .call false 440 [(.t 90), (.t 93), (.t 96)], some (89, true)⟩,
  oo 98 (.pick (.t 89) (.t 97) (.c (.bool false)))])
 (.cond (.t 98) (.seq (rg [oo 4 (.mv (ci 2))])
 .ret) .skip))
 (.seq (rg [oo 4 (.mv (ci 4))])
 .ret))
def f65_r2 : AC :=
 (.seq (.seq (rg [oo 35 (.mv (.t 1)),
  oo 36 (.len false (.t 35)),
  oo 37 (.bin .gtr (.t 36) (ci 2))])
 (.cond (.t 37) (.seq (rg [oo 4 (.mv (ci 4))])
 .ret) .skip))
 (.seq (rg [oo 38 (.mv (.t 0)),
  oo 39 (.mv (.t 0)),
  oo 40 (.mv (.t 1)),
  oo 41 (.iaddr 1 (.t 40) (ci 0)),
  oo 42 (.load false 1 (.t 41)),
  oo 43 (.call false 241 [(.t 39), (.t 42)]),
  oo 44 (.iaddr 4 (.t 38) (.t 43)),
  oo 45 (.load true 4 (.t 44)),
  oo 7 (.alloc 7 (.agg [(.int .i64 0), (.int .i64 0), (.nsl 2), (.nsl 2)])),
  ⟨none, .store 4 (.t 7) (.t 45), none⟩])
 (.seq (rg [oo 46 (.mv (.t 0)),
  oo 47 (.mv (.t 0)),
  oo 48 (.mv (.t 1)),
  oo 49 (.iaddr 1 (.t 48) (ci 1)),
  oo 50 (.load false 1 (.t 49)),
  oo 51 (.call false 241 [(.t 47), (.t 50)]),
  oo 52 (.iaddr 4 (.t 46) (.t 51)),
  oo 53 (.load true 4 (.t 52)),
  oo 8 (.alloc 8 (.agg [(.int .i64 0), (.int .i64 0), (.nsl 2), (.nsl 2)])),
  ⟨none, .store 4 (.t 8) (.t 53), none⟩])
 (.seq (.seq (rg [oo 9 (.mv (ci 0))])
 (.block 2 (.loop ⟨[1, 5, 7, 8, 9], [], [(7, false), (8, false)]⟩ f65_b0)))
 f65_r1))))
def f65_ac : AC :=
 (.seq (rg [oo 4 (.mv (ci 0))])
 (.seq (rg [oo 11 (.mv (.t 0)),
  oo 12 (.call false 353 [(.t 11)]),
  oo 5 (.mv (.t 12))])
 (.seq (.seq (rg [oo 13 (.mv (.t 5)),
  oo 14 (.mv (.t 1)),
  oo 15 (.call false 61 [(.t 13), (.t 14)]),
  oo 16 (.un .not (.t 15))])
 (.cond (.t 16) (.seq (rg [oo 4 (.mv (ci 0))])
 .ret) .skip))
 (.seq (.seq (rg [oo 6 (.mv (ci 0))])
 (.block 0 (.loop ⟨[0, 1, 5, 6], [], []⟩ f65_b2)))
 f65_r2))))
noncomputable def f65_l2 (E : Env) (x0 : U) (x1 : U) (x5 : U) (x6 : U) : Option U := loopK (roundOf E ⟨[0, 1, 5, 6], [], []⟩ f65_b2 (blockK 0 (seqK (fun s => exec E f65_r2 s (finish [(4, none)])) (finish [(4, none)])))) ([.val x0, .val x1, .val x5, .val x6], [])
noncomputable def f65_l0 (E : Env) (x1 : U) (x5 : U) (x9 : U) (b7 : U) (b8 : U) : Option U := loopK (roundOf E ⟨[1, 5, 7, 8, 9], [], [(7, false), (8, false)]⟩ f65_b0 (blockK 2 (seqK (fun s => exec E f65_r1 s (finish [(4, none)])) (finish [(4, none)])))) ([.val x1, .val x5, .ptr 7 [], .ptr 8 [], .val x9], [.box (.val b7), .box (.val b8)])
noncomputable def f65_l1 (E : Env) (x1 : U) (x5 : U) (x9 : U) (x10 : U) (b7 : U) (b8 : U) : Option U := loopK (roundOf E ⟨[1, 5, 7, 8, 9, 10], [], [(7, false), (8, false)]⟩ f65_b1 (blockK 4 (blockK 3 (seqK (fun s => exec E f65_r0 s (roundK ⟨[1, 5, 7, 8, 9], [], [(7, false), (8, false)]⟩ (loopK (roundOf E ⟨[1, 5, 7, 8, 9], [], [(7, false), (8, false)]⟩ f65_b0 (blockK 2 (seqK (fun s => exec E f65_r1 s (finish [(4, none)])) (finish [(4, none)]))))) (blockK 2 (seqK (fun s => exec E f65_r1 s (finish [(4, none)])) (finish [(4, none)]))))) (roundK ⟨[1, 5, 7, 8, 9], [], [(7, false), (8, false)]⟩ (loopK (roundOf E ⟨[1, 5, 7, 8, 9], [], [(7, false), (8, false)]⟩ f65_b0 (blockK 2 (seqK (fun s => exec E f65_r1 s (finish [(4, none)])) (finish [(4, none)]))))) (blockK 2 (seqK (fun s => exec E f65_r1 s (finish [(4, none)])) (finish [(4, none)])))))))) ([.val x1, .val x5, .ptr 7 [], .ptr 8 [], .val x9, .val x10], [.box (.val b7), .box (.val b8)])
theorem f65_l2_eq (E : Env) (x0 : U) (x1 : U) (x5 : U) (x6 : U) : f65_l2 E x0 x1 x5 x6 =
 (U.lenOf false x1).bind fun n4 => (U.bin .lss x6 (.int .i64 (n4 : Int))).bind fun t5 => U.asBool t5
 (U.asInt x6 fun n6 => U.elemAt 1 x1 n6 fun e7 => U.asVar false 1 e7 fun e8 => (E 241 [x0, e8]).bind fun t9 => U.asInt t9 fun n10 => U.elemAt 4 x0 n10 fun e11 => U.fieldAt 3 3 e11 fun f12 => U.asVar false 1 f12 fun e13 => (U.lenOf false e13).bind fun n14 => (U.bin .eql (.int .i64 (n14 : Int)) (.int .i64 0)).bind fun t15 => U.asBool t15
 (some (.int .i64 3))
 ((U.bin .add x6 (.int .i64 1)).bind fun t16 => f65_l2 E x0 x1 x5 t16))
 ((U.lenOf false x1).bind fun n17 => (U.bin .gtr (.int .i64 (n17 : Int)) (.int .i64 2)).bind fun t18 => U.asBool t18
 (some (.int .i64 4))
 (U.elemAt 1 x1 0 fun e19 => U.asVar false 1 e19 fun e20 => (E 241 [x0, e20]).bind fun t21 => U.asInt t21 fun n22 => U.elemAt 4 x0 n22 fun e23 => U.asVar true 4 e23 fun e24 => if storable (.val e24) = true ∧ e24.size = 4 then U.elemAt 1 x1 1 fun e25 => U.asVar false 1 e25 fun e26 => (E 241 [x0, e26]).bind fun t27 => U.asInt t27 fun n28 => U.elemAt 4 x0 n28 fun e29 => U.asVar true 4 e29 fun e30 => if storable (.val e30) = true ∧ e30.size = 4 then f65_l0 E x1 x5 (.int .i64 0) e24 e30 else none else none)) :=
 (loop_eq E _ _ _ _).trans (by kernel_rfl)
theorem f65_l0_eq (E : Env) (x1 : U) (x5 : U) (x9 : U) (b7 : U) (b8 : U) : f65_l0 E x1 x5 x9 b7 b8 =
 U.asAgg b7 fun us31 => if 3 = sizes (us31.take 3) then (us31[3]?).bind fun e32 => U.asVar false 1 e32 fun e33 => (U.lenOf false e33).bind fun n34 => (U.bin .lss x9 (.int .i64 (n34 : Int))).bind fun t35 => U.asBool t35
 (f65_l1 E x1 x5 x9 (.int .i64 0) b7 b8)
 (U.elemAt 1 x1 0 fun e36 => U.asVar false 1 e36 fun e37 => U.elemAt 1 x1 1 fun e38 => U.asVar false 1 e38 fun e39 => (E 440 [x5, e37, e39]).bind fun t40 => U.asBool t40
 (U.elemAt 1 x1 1 fun e41 => U.asVar false 1 e41 fun e42 => U.elemAt 1 x1 0 fun e43 => U.asVar false 1 e43 fun e44 => (E 440 [x5, e42, e44]).bind fun t45 => U.asBool t45
 (some (.int .i64 2))
 (some (.int .i64 4)))
 (some (.int .i64 4))) else none :=
 (loop_eq E _ _ _ _).trans (by kernel_rfl)
theorem f65_l1_eq (E : Env) (x1 : U) (x5 : U) (x9 : U) (x10 : U) (b7 : U) (b8 : U) : f65_l1 E x1 x5 x9 x10 b7 b8 =
 U.asAgg b8 fun us46 => if 3 = sizes (us46.take 3) then (us46[3]?).bind fun e47 => U.asVar false 1 e47 fun e48 => (U.lenOf false e48).bind fun n49 => (U.bin .lss x10 (.int .i64 (n49 : Int))).bind fun t50 => U.asBool t50
 (U.asAgg b7 fun us51 => if 3 = sizes (us51.take 3) then (us51[3]?).bind fun e52 => U.asVar false 1 e52 fun e53 => U.asInt x9 fun n54 => U.elemAt 2 e53 n54 fun e55 => U.fieldAt 0 0 e55 fun f56 => U.asVar false 1 f56 fun e57 => U.asAgg b8 fun us58 => if 3 = sizes (us58.take 3) then (us58[3]?).bind fun e59 => U.asVar false 1 e59 fun e60 => U.asInt x10 fun n61 => U.elemAt 2 e60 n61 fun e62 => U.fieldAt 0 0 e62 fun f63 => U.asVar false 1 f63 fun e64 => (U.bin .eql e57 e64).bind fun t65 => U.asBool t65
 (some (.int .i64 1))
 ((U.bin .add x10 (.int .i64 1)).bind fun t66 => f65_l1 E x1 x5 x9 t66 b7 b8) else none else none)
 ((U.bin .add x9 (.int .i64 1)).bind fun t67 => f65_l0 E x1 x5 t67 b7 b8) else none :=
 (loop_eq E _ _ _ _).trans (by kernel_rfl)
structure G_f65 (E : Env) : Prop where
  is : Is E 439 2 f65_ac [(4, none)]
  c_f63 : G_f63 E
  c_f64 : G_f64 E
  c_f66 : G_f66 E
  c_f76 : G_f76 E
theorem f65_E {E : Env} (h : G_f65 E) (a0 a1 : U) : E 439 [a0, a1] =
 (E 353 [a0]).bind fun t1 => (E 61 [t1, a1]).bind fun t2 => (U.un .not t2).bind fun t3 => U.asBool t3
 (some (.int .i64 0))
 (f65_l2 E a0 a1 t1 (.int .i64 0)) := (h.is _ rfl).trans ((runQ_V rfl).trans (by kernel_rfl))
def f48_ac : AC :=
 (.seq (rg [oo 1 (.box false 1 (.t 0)),
  oo 2 (.alloc 2 (.agg [(.int .i64 0), (.int .i64 0)]))])
 (.seq (rg [oo 3 (.alloc 3 (.agg [(.int .i64 0), (.int .i64 0)]))])
 (.seq (rg [oo 4 (.faddr 0 0 (.t 1)),
  oo 5 (.load false 1 (.t 4)),
  oo 6 (.faddr 0 0 (.t 3)),
  ⟨none, .store 1 (.t 6) (.t 5), none⟩])
 (.seq (rg [oo 7 (.faddr 1 1 (.t 1)),
  oo 8 (.load false 1 (.t 7)),
  oo 9 (.faddr 1 1 (.t 3)),
  ⟨none, .store 1 (.t 9) (.t 8), none⟩])
 (.seq (rg [oo 10 (.load true 2 (.t 3)),
  ⟨none, .store 2 (.t 2) (.t 10), none⟩])
 .ret)))))
structure G_f48 (E : Env) : Prop where
  is : Is E 29 1 f48_ac [(2, some (true, 2))]
theorem f48_E {E : Env} (h : G_f48 E) (a0 : U) : E 29 [a0] =
 U.noTup a0 fun x1 => U.asAgg x1 fun us2 => if 0 = sizes (us2.take 0) then (us2[0]?).bind fun e3 => U.asVar false 1 e3 fun e4 => if storable (.val e4) = true ∧ e4.size = 1 then U.asAgg x1 fun us5 => if 1 = sizes (us5.take 1) then (us5[1]?).bind fun e6 => U.asVar false 1 e6 fun e7 => if storable (.val e7) = true ∧ e7.size = 1 then if 1 = sizes [e4] then U.asVar true 2 (.agg [e4, e7]) fun e8 => if storable (.val e8) = true ∧ e8.size = 2 then U.asVar true 2 e8 fun e9 => some e9 else none else none else none else none else none else none := (h.is _ rfl).trans ((runQ_V rfl).trans (by kernel_rfl))
def f49_b0 : AC :=
 (.seq (.seq (rg [oo 8 (.mv (.t 4)),
  oo 9 (.mv (.t 0)),
  oo 10 (.len false (.t 9)),
  oo 11 (.bin .lss (.t 8) (.t 10))])
 (.cond (.t 11) .skip (.exit 0)))
 (.seq (.block 1 (rg [oo 14 (.mv (.t 3)),
  oo 15 (.mv (.t 4)),
  oo 16 (.mv (.t 0)),
  oo 17 (.mv (.t 4)),
  oo 18 (.iaddr 2 (.t 16) (.t 17)),
  oo 19 (.load true 2 (.t 18)),
  oo 20 (.call false 29 [(.t 19)]),
  oo 21 (.iaddr 2 (.t 14) (.t 15)),
  ⟨none, .store 2 (.t 21) (.t 20), none⟩]))
 (rg [oo 12 (.mv (.t 4)),
  oo 13 (.bin .add (.t 12) (ci 1)),
  oo 4 (.mv (.t 13))])))
def f49_r0 : AC :=
 (.seq (rg [oo 22 (.mv (.t 3)),
  oo 2 (.mv (.t 22))])
 .ret)
def f49_ac : AC :=
 (.seq (rg [oo 2 (.mv (.c (.nsl 2)))])
 (.seq (rg [oo 5 (.mv (.t 0)),
  oo 6 (.len false (.t 5)),
  oo 7 (.mkslice 7 2 16 (.agg [(.int .i64 0), (.int .i64 0)]) (.t 6) (.t 6)),
  oo 3 (.mv (.t 7))])
 (.seq (.seq (rg [oo 4 (.mv (ci 0))])
 (.block 0 (.loop ⟨[0, 4], [(3, 2, false)], []⟩ f49_b0)))
 f49_r0)))
noncomputable def f49_l0 (E : Env) (x0 : U) (x4 : U) (c3 : List U) : Option U := loopK (roundOf E ⟨[0, 4], [(3, 2, false)], []⟩ f49_b0 (blockK 0 (seqK (fun s => exec E f49_r0 s (finish [(2, none)])) (finish [(2, none)])))) ([.val x0, .val x4], [.vir (.asl 2 c3)])
theorem f49_l0_eq (E : Env) (x0 : U) (x4 : U) (c3 : List U) : f49_l0 E x0 x4 c3 =
 (U.lenOf false x0).bind fun n2 => (U.bin .lss x4 (.int .i64 (n2 : Int))).bind fun t3 => U.asBool t3
 (U.asInt x4 fun n4 => U.elemAt 2 x0 n4 fun e5 => U.asVar true 2 e5 fun e6 => (E 29 [e6]).bind fun t7 => U.asInt x4 fun n8 => if 2 = 2 ∧ 0 ≤ n8 ∧ n8 < ((c3).length : Int) then if storable (.val t7) = true ∧ t7.size = 2 then (c3[(n8 : Int).toNat]?).bind fun e9 => if e9.size = 2 then (U.bin .add x4 (.int .i64 1)).bind fun t10 => f49_l0 E x0 t10 (c3.set (n8 : Int).toNat t7) else none else none else none)
 (some (.sl 2 c3)) :=
 (loop_eq E _ _ _ _).trans (by kernel_rfl)
structure G_f49 (E : Env) : Prop where
  is : Is E 28 1 f49_ac [(2, none)]
  c_f48 : G_f48 E
theorem f49_E {E : Env} (h : G_f49 E) (a0 : U) : E 28 [a0] =
 (U.lenOf false a0).bind fun n1 => if 0 ≤ (n1 : Int) ∧ (n1 : Int) ≤ (n1 : Int) ∧ (n1 : Int) * 16 ≤ 140737488355328 ∧ ((.agg [(.int .i64 0), (.int .i64 0)]) : U).size = 2 then f49_l0 E a0 (.int .i64 0) (List.replicate ((n1 : Int) : Int).toNat (.agg [(.int .i64 0), (.int .i64 0)])) else none := (h.is _ rfl).trans ((runQ_V rfl).trans (by kernel_rfl))
def f50_ac : AC :=
 (.seq (rg [oo 1 (.box false 1 (.t 0)),
  oo 2 (.alloc 2 (.agg [(.int .i64 0), (.int .i64 0)]))])
 (.seq (rg [oo 3 (.alloc 3 (.agg [(.int .i64 0), (.int .i64 0)]))])
 (.seq (rg [oo 4 (.faddr 0 0 (.t 1)),
  oo 5 (.load false 1 (.t 4)),
  oo 6 (.faddr 0 0 (.t 3)),
  ⟨none, .store 1 (.t 6) (.t 5), none⟩])
 (.seq (rg [oo 7 (.faddr 1 1 (.t 1)),
  oo 8 (.load false 1 (.t 7)),
  oo 9 (.faddr 1 1 (.t 3)),
  ⟨none, .store 1 (.t 9) (.t 8), none⟩])
 (.seq (rg [oo 10 (.load true 2 (.t 3)),
  ⟨none, .store 2 (.t 2) (.t 10), none⟩])
 .ret)))))
structure G_f50 (E : Env) : Prop where
  is : Is E 30 1 f50_ac [(2, some (true, 2))]
theorem f50_E {E : Env} (h : G_f50 E) (a0 : U) : E 30 [a0] =
 U.noTup a0 fun x1 => U.asAgg x1 fun us2 => if 0 = sizes (us2.take 0) then (us2[0]?).bind fun e3 => U.asVar false 1 e3 fun e4 => if storable (.val e4) = true ∧ e4.size = 1 then U.asAgg x1 fun us5 => if 1 = sizes (us5.take 1) then (us5[1]?).bind fun e6 => U.asVar false 1 e6 fun e7 => if storable (.val e7) = true ∧ e7.size = 1 then if 1 = sizes [e4] then U.asVar true 2 (.agg [e4, e7]) fun e8 => if storable (.val e8) = true ∧ e8.size = 2 then U.asVar true 2 e8 fun e9 => some e9 else none else none else none else none else none else none := (h.is _ rfl).trans ((runQ_V rfl).trans (by kernel_rfl))
def f51_b0 : AC :=
 (.seq (.seq (rg [oo 8 (.mv (.t 4)),
  oo 9 (.mv (.t 0)),
  oo 10 (.len false (.t 9)),
  oo 11 (.bin .lss (.t 8) (.t 10))])
 (.cond (.t 11) .skip (.exit 0)))
 (.seq (.block 1 (rg [oo 14 (.mv (.t 3)),
  oo 15 (.mv (.t 4)),
  oo 16 (.mv (.t 0)),
  oo 17 (.mv (.t 4)),
  oo 18 (.iaddr 2 (.t 16) (.t 17)),
  oo 19 (.load true 2 (.t 18)),
  oo 20 (.call false 30 [(.t 19)]),
  oo 21 (.iaddr 2 (.t 14) (.t 15)),
  ⟨none, .store 2 (.t 21) (.t 20), none⟩]))
 (rg [oo 12 (.mv (.t 4)),
  oo 13 (.bin .add (.t 12) (ci 1)),
  oo 4 (.mv (.t 13))])))
def f51_r0 : AC :=
 (.seq (rg [oo 22 (.mv (.t 3)),
  oo 2 (.mv (.t 22))])
 .ret)
def f51_ac : AC :=
 (.seq (rg [oo 2 (.mv (.c (.nsl 2)))])
 (.seq (rg [oo 5 (.mv (.t 0)),
  oo 6 (.len false (.t 5)),
  oo 7 (.mkslice 7 2 16 (.agg [(.int .i64 0), (.int .i64 0)]) (.t 6) (.t 6)),
  oo 3 (.mv (.t 7))])
 (.seq (.seq (rg [oo 4 (.mv (ci 0))])
 (.block 0 (.loop ⟨[0, 4], [(3, 2, false)], []⟩ f51_b0)))
 f51_r0)))
noncomputable def f51_l0 (E : Env) (x0 : U) (x4 : U) (c3 : List U) : Option U := loopK (roundOf E ⟨[0, 4], [(3, 2, false)], []⟩ f51_b0 (blockK 0 (seqK (fun s => exec E f51_r0 s (finish [(2, none)])) (finish [(2, none)])))) ([.val x0, .val x4], [.vir (.asl 2 c3)])
theorem f51_l0_eq (E : Env) (x0 : U) (x4 : U) (c3 : List U) : f51_l0 E x0 x4 c3 =
 (U.lenOf false x0).bind fun n2 => (U.bin .lss x4 (.int .i64 (n2 : Int))).bind fun t3 => U.asBool t3
 (U.asInt x4 fun n4 => U.elemAt 2 x0 n4 fun e5 => U.asVar true 2 e5 fun e6 => (E 30 [e6]).bind fun t7 => U.asInt x4 fun n8 => if 2 = 2 ∧ 0 ≤ n8 ∧ n8 < ((c3).length : Int) then if storable (.val t7) = true ∧ t7.size = 2 then (c3[(n8 : Int).toNat]?).bind fun e9 => if e9.size = 2 then (U.bin .add x4 (.int .i64 1)).bind fun t10 => f51_l0 E x0 t10 (c3.set (n8 : Int).toNat t7) else none else none else none)
 (some (.sl 2 c3)) :=
 (loop_eq E _ _ _ _).trans (by kernel_rfl)
structure G_f51 (E : Env) : Prop where
  is : Is E 27 1 f51_ac [(2, none)]
  c_f50 : G_f50 E
theorem f51_E {E : Env} (h : G_f51 E) (a0 : U) : E 27 [a0] =
 (U.lenOf false a0).bind fun n1 => if 0 ≤ (n1 : Int) ∧ (n1 : Int) ≤ (n1 : Int) ∧ (n1 : Int) * 16 ≤ 140737488355328 ∧ ((.agg [(.int .i64 0), (.int .i64 0)]) : U).size = 2 then f51_l0 E a0 (.int .i64 0) (List.replicate ((n1 : Int) : Int).toNat (.agg [(.int .i64 0), (.int .i64 0)])) else none := (h.is _ rfl).trans ((runQ_V rfl).trans (by kernel_rfl))
def f45_ac : AC :=
 (.seq (rg [oo 1 (.box false 1 (.t 0)),
  oo 2 (.alloc 2 (.agg [(.int .i64 0), (.int .i64 0), (.nsl 2), (.nsl 2)]))])
 (.seq (rg [oo 3 (.alloc 3 (.agg [(.int .i64 0), (.int .i64 0), (.nsl 2), (.nsl 2)]))])
 (.seq (rg [oo 4 (.faddr 0 0 (.t 1)),
  oo 5 (.load false 1 (.t 4)),
  oo 6 (.faddr 0 0 (.t 3)),
  ⟨none, .store 1 (.t 6) (.t 5), none⟩])
 (.seq (rg [oo 7 (.faddr 1 1 (.t 1)),
  oo 8 (.load false 1 (.t 7)),
  oo 9 (.faddr 1 1 (.t 3)),
  ⟨none, .store 1 (.t 9) (.t 8), none⟩])
 (.seq (rg [oo 10 (.faddr 2 2 (.t 1)),
  oo 11 (.load false 1 (.t 10)),
  oo 12 (.call false 28 [(.t 11)]),
  oo 13 (.faddr 2 2 (.t 3)),
  ⟨none, .store 1 (.t 13) (.t 12), none⟩])
 (.seq (rg [oo 14 (.faddr 3 3 (.t 1)),
  oo 15 (.load false 1 (.t 14)),
  oo 16 (.call false 27 [(.t 15)]),
  oo 17 (.faddr 3 3 (.t 3)),
  ⟨none, .store 1 (.t 17) (.t 16), none⟩])
 (.seq (rg [oo 18 (.load true 4 (.t 3)),
  ⟨none, .store 4 (.t 2) (.t 18), none⟩])
 .ret)))))))
structure G_f45 (E : Env) : Prop where
  is : Is E 51 1 f45_ac [(2, some (true, 4))]
  c_f49 : G_f49 E
  c_f51 : G_f51 E
theorem f45_E {E : Env} (h : G_f45 E) (a0 : U) : E 51 [a0] =
 U.noTup a0 fun x1 => U.asAgg x1 fun us2 => if 0 = sizes (us2.take 0) then (us2[0]?).bind fun e3 => U.asVar false 1 e3 fun e4 => if storable (.val e4) = true ∧ e4.size = 1 then U.asAgg x1 fun us5 => if 1 = sizes (us5.take 1) then (us5[1]?).bind fun e6 => U.asVar false 1 e6 fun e7 => if storable (.val e7) = true ∧ e7.size = 1 then if 1 = sizes [e4] then U.asAgg x1 fun us8 => if 2 = sizes (us8.take 2) then (us8[2]?).bind fun e9 => U.asVar false 1 e9 fun e10 => (E 28 [e10]).bind fun t11 => if storable (.val t11) = true ∧ t11.size = 1 then if 2 = sizes [e4, e7] then U.asAgg x1 fun us12 => if 3 = sizes (us12.take 3) then (us12[3]?).bind fun e13 => U.asVar false 1 e13 fun e14 => (E 27 [e14]).bind fun t15 => if storable (.val t15) = true ∧ t15.size = 1 then if 3 = sizes [e4, e7, t11] then U.asVar true 4 (.agg [e4, e7, t11, t15]) fun e16 => if storable (.val e16) = true ∧ e16.size = 4 then U.asVar true 4 e16 fun e17 => some e17 else none else none else none else none else none else none else none else none else none else none else none else none := (h.is _ rfl).trans ((runQ_V rfl).trans (by kernel_rfl))
def f46_b0 : AC :=
 (.seq (.seq (rg [oo 8 (.mv (.t 4)),
  oo 9 (.mv (.t 0)),
  oo 10 (.len false (.t 9)),
  oo 11 (.bin .lss (.t 8) (.t 10))])
 (.cond (.t 11) .skip (.exit 0)))
 (.seq (.block 1 (rg [oo 14 (.mv (.t 3)),
  oo 15 (.mv (.t 4)),
  oo 16 (.mv (.t 0)),
  oo 17 (.mv (.t 4)),
  oo 18 (.iaddr 4 (.t 16) (.t 17)),
  oo 19 (.load true 4 (.t 18)),
  oo 20 (.call false 51 [(.t 19)]),
  oo 21 (.iaddr 4 (.t 14) (.t 15)),
  ⟨none, .store 4 (.t 21) (.t 20), none⟩]))
 (rg [oo 12 (.mv (.t 4)),
  oo 13 (.bin .add (.t 12) (ci 1)),
  oo 4 (.mv (.t 13))])))
def f46_r0 : AC :=
 (.seq (rg [oo 22 (.mv (.t 3)),
  oo 2 (.mv (.t 22))])
 .ret)
def f46_ac : AC :=
 (.seq (rg [oo 2 (.mv (.c (.nsl 4)))])
 (.seq (rg [oo 5 (.mv (.t 0)),
  oo 6 (.len false (.t 5)),
  oo 7 (.mkslice 7 4 64 (.agg [(.int .i64 0), (.int .i64 0), (.nsl 2), (.nsl 2)]) (.t 6) (.t 6)),
  oo 3 (.mv (.t 7))])
 (.seq (.seq (rg [oo 4 (.mv (ci 0))])
 (.block 0 (.loop ⟨[0, 4], [(3, 4, false)], []⟩ f46_b0)))
 f46_r0)))
noncomputable def f46_l0 (E : Env) (x0 : U) (x4 : U) (c3 : List U) : Option U := loopK (roundOf E ⟨[0, 4], [(3, 4, false)], []⟩ f46_b0 (blockK 0 (seqK (fun s => exec E f46_r0 s (finish [(2, none)])) (finish [(2, none)])))) ([.val x0, .val x4], [.vir (.asl 4 c3)])
theorem f46_l0_eq (E : Env) (x0 : U) (x4 : U) (c3 : List U) : f46_l0 E x0 x4 c3 =
 (U.lenOf false x0).bind fun n2 => (U.bin .lss x4 (.int .i64 (n2 : Int))).bind fun t3 => U.asBool t3
 (U.asInt x4 fun n4 => U.elemAt 4 x0 n4 fun e5 => U.asVar true 4 e5 fun e6 => (E 51 [e6]).bind fun t7 => U.asInt x4 fun n8 => if 4 = 4 ∧ 0 ≤ n8 ∧ n8 < ((c3).length : Int) then if storable (.val t7) = true ∧ t7.size = 4 then (c3[(n8 : Int).toNat]?).bind fun e9 => if e9.size = 4 then (U.bin .add x4 (.int .i64 1)).bind fun t10 => f46_l0 E x0 t10 (c3.set (n8 : Int).toNat t7) else none else none else none)
 (some (.sl 4 c3)) :=
 (loop_eq E _ _ _ _).trans (by kernel_rfl)
structure G_f46 (E : Env) : Prop where
  is : Is E 45 1 f46_ac [(2, none)]
  c_f45 : G_f45 E
theorem f46_E {E : Env} (h : G_f46 E) (a0 : U) : E 45 [a0] =
 (U.lenOf false a0).bind fun n1 => if 0 ≤ (n1 : Int) ∧ (n1 : Int) ≤ (n1 : Int) ∧ (n1 : Int) * 64 ≤ 140737488355328 ∧ ((.agg [(.int .i64 0), (.int .i64 0), (.nsl 2), (.nsl 2)]) : U).size = 4 then f46_l0 E a0 (.int .i64 0) (List.replicate ((n1 : Int) : Int).toNat (.agg [(.int .i64 0), (.int .i64 0), (.nsl 2), (.nsl 2)])) else none := (h.is _ rfl).trans ((runQ_V rfl).trans (by kernel_rfl))
def f47_b0 : AC :=
 (.seq (.seq (rg [oo 8 (.mv (.t 4)),
  oo 9 (.mv (.t 0)),
  oo 10 (.len false (.t 9)),
  oo 11 (.bin .lss (.t 8) (.t 10))])
 (.cond (.t 11) .skip (.exit 0)))
 (.seq (.block 1 (rg [oo 14 (.mv (.t 3)),
  oo 15 (.mv (.t 4)),
  oo 16 (.mv (.t 0)),
  oo 17 (.mv (.t 4)),
  oo 18 (.iaddr 1 (.t 16) (.t 17)),
  oo 19 (.load false 1 (.t 18)),
  oo 20 (.iaddr 1 (.t 14) (.t 15)),
  ⟨none, .store 1 (.t 20) (.t 19), none⟩]))
 (rg [oo 12 (.mv (.t 4)),
  oo 13 (.bin .add (.t 12) (ci 1)),
  oo 4 (.mv (.t 13))])))
def f47_r0 : AC :=
 (.seq (rg [oo 21 (.mv (.t 3)),
  oo 2 (.mv (.t 21))])
 .ret)
def f47_ac : AC :=
 (.seq (rg [oo 2 (.mv (.c (.nsl 1)))])
 (.seq (rg [oo 5 (.mv (.t 0)),
  oo 6 (.len false (.t 5)),
  oo 7 (.mkslice 7 1 8 (.int .i64 0) (.t 6) (.t 6)),
  oo 3 (.mv (.t 7))])
 (.seq (.seq (rg [oo 4 (.mv (ci 0))])
 (.block 0 (.loop ⟨[0, 4], [(3, 1, false)], []⟩ f47_b0)))
 f47_r0)))
noncomputable def f47_l0 (E : Env) (x0 : U) (x4 : U) (c3 : List U) : Option U := loopK (roundOf E ⟨[0, 4], [(3, 1, false)], []⟩ f47_b0 (blockK 0 (seqK (fun s => exec E f47_r0 s (finish [(2, none)])) (finish [(2, none)])))) ([.val x0, .val x4], [.vir (.asl 1 c3)])
theorem f47_l0_eq (E : Env) (x0 : U) (x4 : U) (c3 : List U) : f47_l0 E x0 x4 c3 =
 (U.lenOf false x0).bind fun n2 => (U.bin .lss x4 (.int .i64 (n2 : Int))).bind fun t3 => U.asBool t3
 (U.asInt x4 fun n4 => U.elemAt 1 x0 n4 fun e5 => U.asVar false 1 e5 fun e6 => U.asInt x4 fun n7 => if 1 = 1 ∧ 0 ≤ n7 ∧ n7 < ((c3).length : Int) then if storable (.val e6) = true ∧ e6.size = 1 then (c3[(n7 : Int).toNat]?).bind fun e8 => if e8.size = 1 then (U.bin .add x4 (.int .i64 1)).bind fun t9 => f47_l0 E x0 t9 (c3.set (n7 : Int).toNat e6) else none else none else none)
 (some (.sl 1 c3)) :=
 (loop_eq E _ _ _ _).trans (by kernel_rfl)
structure G_f47 (E : Env) : Prop where
  is : Is E 58 1 f47_ac [(2, none)]
theorem f47_E {E : Env} (h : G_f47 E) (a0 : U) : E 58 [a0] =
 (U.lenOf false a0).bind fun n1 => if 0 ≤ (n1 : Int) ∧ (n1 : Int) ≤ (n1 : Int) ∧ (n1 : Int) * 8 ≤ 140737488355328 ∧ ((.int .i64 0) : U).size = 1 then f47_l0 E a0 (.int .i64 0) (List.replicate ((n1 : Int) : Int).toNat (.int .i64 0)) else none := (h.is _ rfl).trans ((runQ_V rfl).trans (by kernel_rfl))
def f57_b0 : AC :=
 (.seq (rg [oo 9 (.bin .lss (.t 8) (.t 7))])
 (.seq (.cond (.t 9) .skip (.exit 0))
 (.seq (.block 1 (.seq (rg [oo 10 (.mv (.t 8)),
  oo 5 (.mv (.t 10))])
 (.seq (rg [oo 11 (.mv (.t 1)),
  oo 12 (.mv (.t 0)),
  oo 13 (.mv (.t 5)),
  oo 14 (.iaddr 4 (.t 12) (.t 13)),
  oo 15 (.load true 4 (.t 14)),
  oo 16 (.callv false (.t 11) [(.t 15)])])
 (.cond (.t 16) (.seq (rg [oo 17 (.mv (.t 5)),
  oo 4 (.mv (.t 17))])
 .ret) .skip))))
 (rg [oo 18 (.bin .add (.t 8) (ci 1)),
  oo 8 (.mv (.t 18))]))))
def f57_r0 : AC :=
 (.seq (rg [oo 4 (.mv (ci (-1)))])
 .ret)
def f57_ac : AC :=
 (.seq (rg [oo 4 (.mv (ci 0))])
 (.seq (.seq (rg [oo 6 (.mv (.t 0)),
  oo 7 (.len false (.t 6)),
  oo 8 (.mv (ci 0))])
 (.block 0 (.loop ⟨[0, 1, 7, 8], [], []⟩ f57_b0)))
 f57_r0))
noncomputable def f57_l0 (E : Env) (x0 : U) (x1 : U) (x7 : U) (x8 : U) : Option U := loopK (roundOf E ⟨[0, 1, 7, 8], [], []⟩ f57_b0 (blockK 0 (seqK (fun s => exec E f57_r0 s (finish [(4, none)])) (finish [(4, none)])))) ([.val x0, .val x1, .val x7, .val x8], [])
theorem f57_l0_eq (E : Env) (x0 : U) (x1 : U) (x7 : U) (x8 : U) : f57_l0 E x0 x1 x7 x8 =
 (U.bin .lss x8 x7).bind fun t2 => U.asBool t2
 (U.asInt x8 fun n3 => U.elemAt 4 x0 n3 fun e4 => U.asVar true 4 e4 fun e5 => U.asFn x1 fun r6 caps7 => (E r6 ([e5] ++ caps7)).bind fun t8 => U.asBool t8
 (some x8)
 ((U.bin .add x8 (.int .i64 1)).bind fun t9 => f57_l0 E x0 x1 x7 t9))
 (some (.int .i64 (-1))) :=
 (loop_eq E _ _ _ _).trans (by kernel_rfl)
structure G_f57 (E : Env) : Prop where
  is : Is E 253 2 f57_ac [(4, none)]
theorem f57_E {E : Env} (h : G_f57 E) (a0 a1 : U) : E 253 [a0, a1] =
 (U.lenOf false a0).bind fun n1 => f57_l0 E a0 a1 (.int .i64 (n1 : Int)) (.int .i64 0) := (h.is _ rfl).trans ((runQ_V rfl).trans (by kernel_rfl))
def f15_ac : AC :=
 (.seq (rg [oo 2 (.box false 2 (.t 0)),
  oo 3 (.mv (.c (.bool false)))])
 (.seq (rg [oo 4 (.faddr 0 0 (.t 2)),
  oo 5 (.load false 1 (.t 4)),
  oo 6 (.load false 1 (.t 1)),
  oo 7 (.bin .eql (.t 5) (.t 6)),
  oo 3 (.mv (.t 7))])
 .ret))
structure G_f15 (E : Env) : Prop where
  is : Is E 252 2 f15_ac [(3, none)]
theorem f15_E {E : Env} (h : G_f15 E) (a0 a1 : U) : E 252 [a0, a1] =
 U.noTup a0 fun x1 => U.asAgg x1 fun us2 => if 0 = sizes (us2.take 0) then (us2[0]?).bind fun e3 => U.asVar false 1 e3 fun e4 => U.asVp a1 fun v5 => U.asVar false 1 v5 fun e6 => (U.bin .eql e4 e6).bind fun t7 => some t7 else none := (h.is _ rfl).trans ((runQ_V rfl).trans (by kernel_rfl))
def f14_ac : AC :=
 (.seq (rg [oo 3 (.box true 3 (.t 1)),
  oo 4 (.mv (ci 0))])
 (.seq (rg [oo 5 (.mv (.t 0)),
  oo 6 (.mkfn 252 [(.t 3)]),
  oo 7 (.call false 253 [(.t 5), (.t 6)]),
  oo 4 (.mv (.t 7))])
 .ret))
structure G_f14 (E : Env) : Prop where
  is : Is E 251 2 f14_ac [(4, none)]
  c_f57 : G_f57 E
  c_f15 : G_f15 E
theorem f14_E {E : Env} (h : G_f14 E) (a0 a1 : U) : E 251 [a0, a1] =
 U.noTup a1 fun x1 => (E 253 [a0, (.fn 252 [(.vp x1)])]).bind fun t2 => U.asFlat t2 fun t3 => some t3 := (h.is _ rfl).trans ((runQ_V rfl).trans (by kernel_rfl))
def f28_ac : AC :=
 (.seq (rg [oo 6 (.mv (.c (.bool false)))])
 (.seq (rg [oo 7 (.mv (.t 1)),
  oo 8 (.mv (.t 0)),
  oo 9 (.bin .leq (.t 7) (.t 8)),
  oo 10 (.mv (.t 9)),
  ⟨some 11, .mv (.t 0), some (10, true)⟩,
  ⟨some 12, .mv (.t 2), some (10, true)⟩,
  ⟨some 13, .bin .leq (.t 11) (.t 12), some (10, true)⟩,
  oo 14 (.pick (.t 10) (.t 13) (.c (.bool false))),
  oo 6 (.mv (.t 14))])
 .ret))
structure G_f28 (E : Env) : Prop where
  is : Is E 10 3 f28_ac [(6, none)]
theorem f28_E {E : Env} (h : G_f28 E) (a0 a1 a2 : U) : E 10 [a0, a1, a2] =
 (U.bin .leq a1 a0).bind fun t1 => U.asBool t1
 ((U.bin .leq a0 a2).bind fun t2 => some t2)
 (some (.bool false)) := (h.is _ rfl).trans ((runQ_V rfl).trans (by kernel_rfl))
def f30_ac : AC :=
 (.seq (rg [oo 2 (.mv (.c (.bool false)))])
 (.seq (rg [oo 3 (.mv (.t 0)),
  oo 4 (.call false 10 [(.t 3), (ci 1), (ci 9)]),
  oo 2 (.mv (.t 4))])
 .ret))
structure G_f30 (E : Env) : Prop where
  is : Is E 9 1 f30_ac [(2, none)]
  c_f28 : G_f28 E
theorem f30_E {E : Env} (h : G_f30 E) (a0 : U) : E 9 [a0] =
 (E 10 [a0, (.int .i64 1), (.int .i64 9)]).bind fun t1 => some t1 := (h.is _ rfl).trans ((runQ_V rfl).trans (by kernel_rfl))
def f19_ac : AC :=
 (.seq (rg [oo 2 (.mv (.c (.bool false)))])
 (.seq (rg [oo 3 (.mv (.t 0)),
  oo 4 (.call false 10 [(.t 3), (ci 1), (ci 999)]),
  oo 2 (.mv (.t 4))])
 .ret))
structure G_f19 (E : Env) : Prop where
  is : Is E 72 1 f19_ac [(2, none)]
  c_f28 : G_f28 E
theorem f19_E {E : Env} (h : G_f19 E) (a0 : U) : E 72 [a0] =
 (E 10 [a0, (.int .i64 1), (.int .i64 999)]).bind fun t1 => some t1 := (h.is _ rfl).trans ((runQ_V rfl).trans (by kernel_rfl))
def f31_ac : AC :=
 (.seq (rg [oo 2 (.mv (.c (.bool false)))])
 (.seq (rg [oo 3 (.mv (.t 0)),
  oo 4 (.call false 10 [(.t 3), (ci 0), (ci 5)]),
  oo 2 (.mv (.t 4))])
 .ret))
structure G_f31 (E : Env) : Prop where
  is : Is E 11 1 f31_ac [(2, none)]
  c_f28 : G_f28 E
theorem f31_E {E : Env} (h : G_f31 E) (a0 : U) : E 11 [a0] =
 (E 10 [a0, (.int .i64 0), (.int .i64 5)]).bind fun t1 => some t1 := (h.is _ rfl).trans ((runQ_V rfl).trans (by kernel_rfl))
def f1_b0 : AC :=
 (.seq (rg [oo 9 (.bin .lss (.t 8) (.t 7))])
 (.seq (.cond (.t 9) .skip (.exit 0))
 (.seq (.block 1 (.seq (rg [oo 10 (.iaddr 1 (.t 6) (.t 8)),
  oo 11 (.load false 1 (.t 10)),
  oo 5 (.mv (.t 11))])
 (.seq (rg [oo 12 (.mv (.t 5)),
  oo 13 (.mv (.t 3)),
  oo 14 (.bin .neq (.t 12) (.t 13))])
 (.cond (.t 14) (.seq (rg [oo 15 (.mv (.t 5)),
  oo 2 (.mv (.t 15))])
 .ret) .skip))))
 (rg [oo 16 (.bin .add (.t 8) (ci 1)),
  oo 8 (.mv (.t 16))]))))
def f1_r0 : AC :=
 (.seq (rg [oo 17 (.mv (.t 3)),
  oo 2 (.mv (.t 17))])
 .ret)
def f1_ac : AC :=
 (.seq (rg [oo 2 (.mv (ci 0))])
 (.seq (rg [oo 3 (.mv (ci 0))])
 (.seq (.seq (rg [oo 6 (.mv (.t 0)),
  oo 7 (.len false (.t 6)),
  oo 8 (.mv (ci 0))])
 (.block 0 (.loop ⟨[3, 6, 7, 8], [], []⟩ f1_b0)))
 f1_r0)))
noncomputable def f1_l0 (E : Env) (x3 : U) (x6 : U) (x7 : U) (x8 : U) : Option U := loopK (roundOf E ⟨[3, 6, 7, 8], [], []⟩ f1_b0 (blockK 0 (seqK (fun s => exec E f1_r0 s (finish [(2, none)])) (finish [(2, none)])))) ([.val x3, .val x6, .val x7, .val x8], [])
theorem f1_l0_eq (E : Env) (x3 : U) (x6 : U) (x7 : U) (x8 : U) : f1_l0 E x3 x6 x7 x8 =
 (U.bin .lss x8 x7).bind fun t2 => U.asBool t2
 (U.asInt x8 fun n3 => U.elemAt 1 x6 n3 fun e4 => U.asVar false 1 e4 fun e5 => (U.bin .neq e5 x3).bind fun t6 => U.asBool t6
 (some e5)
 ((U.bin .add x8 (.int .i64 1)).bind fun t7 => f1_l0 E x3 x6 x7 t7))
 (some x3) :=
 (loop_eq E _ _ _ _).trans (by kernel_rfl)
structure G_f1 (E : Env) : Prop where
  is : Is E 14 1 f1_ac [(2, none)]
theorem f1_E {E : Env} (h : G_f1 E) (a0 : U) : E 14 [a0] =
 (U.lenOf false a0).bind fun n1 => f1_l0 E (.int .i64 0) a0 (.int .i64 (n1 : Int)) (.int .i64 0) := (h.is _ rfl).trans ((runQ_V rfl).trans (by kernel_rfl))
def f2_ac : AC :=
 (.seq (rg [oo 2 (.mv (.c (.bool false)))])
 (.seq (rg [oo 3 (.mv (.t 0)),
  oo 4 (.mv (.t 0)),
  oo 5 (.bin .neq (.t 3) (.t 4)),
  oo 2 (.mv (.t 5))])
 .ret))
structure G_f2 (E : Env) : Prop where
  is : Is E 15 1 f2_ac [(2, none)]
theorem f2_E {E : Env} (h : G_f2 E) (a0 : U) : E 15 [a0] =
 (U.bin .neq a0 a0).bind fun t1 => some t1 := (h.is _ rfl).trans ((runQ_V rfl).trans (by kernel_rfl))
def f0_ac : AC :=
 (.seq (rg [oo 4 (.mv (ci 0))])
 (.seq (rg [oo 7 (.mv (.t 0)),
  oo 8 (.call false 15 [(.t 7)]),
  oo 5 (.mv (.t 8))])
 (.seq (rg [oo 9 (.mv (.t 1)),
  oo 10 (.call false 15 [(.t 9)]),
  oo 6 (.mv (.t 10))])
 (.seq (.seq (rg [oo 11 (.mv (.t 5))])
 (.cond (.t 11) (.seq (.seq (rg [oo 12 (.mv (.t 6))])
 (.cond (.t 12) (.seq (rg [oo 4 (.mv (ci 0))])
 .ret) .skip))
 (.seq (rg [oo 4 (.mv (ci (-1)))])
 .ret)) .skip))
 (.seq (.seq (rg [oo 13 (.mv (.t 6))])
 (.cond (.t 13) (.seq (rg [oo 4 (.mv (ci 1))])
 .ret) .skip))
 (.seq (.seq (rg [oo 14 (.mv (.t 0)),
  oo 15 (.mv (.t 1)),
  oo 16 (.bin .lss (.t 14) (.t 15))])
 (.cond (.t 16) (.seq (rg [oo 4 (.mv (ci (-1)))])
 .ret) .skip))
 (.seq (.seq (rg [oo 17 (.mv (.t 0)),
  oo 18 (.mv (.t 1)),
  oo 19 (.bin .gtr (.t 17) (.t 18))])
 (.cond (.t 19) (.seq (rg [oo 4 (.mv (ci 1))])
 .ret) .skip))
 (.seq (rg [oo 4 (.mv (ci 0))])
 .ret))))))))
structure G_f0 (E : Env) : Prop where
  is : Is E 13 2 f0_ac [(4, none)]
  c_f2 : G_f2 E
theorem f0_E {E : Env} (h : G_f0 E) (a0 a1 : U) : E 13 [a0, a1] =
 (E 15 [a0]).bind fun t1 => (E 15 [a1]).bind fun t2 => U.asBool t1
 (U.asBool t2
 (some (.int .i64 0))
 (some (.int .i64 (-1))))
 (U.asBool t2
 (some (.int .i64 1))
 ((U.bin .lss a0 a1).bind fun t3 => U.asBool t3
 (some (.int .i64 (-1)))
 ((U.bin .gtr a0 a1).bind fun t4 => U.asBool t4
 (some (.int .i64 1))
 (some (.int .i64 0))))) := (h.is _ rfl).trans ((runQ_V rfl).trans (by kernel_rfl))
def f25_ac : AC :=
 (.seq (rg [oo 2 (.box false 2 (.t 0)),
  oo 3 (.box false 3 (.t 1)),
  oo 4 (.mv (ci 0))])
 (.seq (.region 13 [oo 5 (.faddr 0 0 (.t 2)),
  oo 6 (.load false 1 (.t 5)),
  oo 7 (.faddr 0 0 (.t 3)),
  oo 8 (.load false 1 (.t 7)),
  oo 9 (.call false 13 [(.t 6), (.t 8)]),
  oo 10 (.faddr 1 1 (.t 2)),
  oo 11 (.load false 1 (.t 10)),
  oo 12 (.faddr 1 1 (.t 3)),
  oo 13 (.load false 1 (.t 12)),
  oo 14 (.call false 13 [(.t 11), (.t 13)]),
  oo 15 (.bslice 0 15 1 2 (.int .i64 0) [(0, (.t 9)), (1, (.t 14))]),
  oo 16 (.call false 14 [(.t 15)]),
  oo 4 (.mv (.t 16))])
 .ret))
structure G_f25 (E : Env) : Prop where
  is : Is E 75 2 f25_ac [(4, none)]
  c_f1 : G_f1 E
  c_f0 : G_f0 E
theorem f25_E {E : Env} (h : G_f25 E) (a0 a1 : U) : E 75 [a0, a1] =
 U.noTup a0 fun x1 => U.noTup a1 fun x2 => U.asAgg x1 fun us3 => if 0 = sizes (us3.take 0) then (us3[0]?).bind fun e4 => U.asVar false 1 e4 fun e5 => U.asAgg x2 fun us6 => if 0 = sizes (us6.take 0) then (us6[0]?).bind fun e7 => U.asVar false 1 e7 fun e8 => (E 13 [e5, e8]).bind fun t9 => U.asAgg x1 fun us10 => if 1 = sizes (us10.take 1) then (us10[1]?).bind fun e11 => U.asVar false 1 e11 fun e12 => U.asAgg x2 fun us13 => if 1 = sizes (us13.take 1) then (us13[1]?).bind fun e14 => U.asVar false 1 e14 fun e15 => (E 13 [e12, e15]).bind fun t16 => if partable (.val t9) = true ∧ t9.size = 1 then if partable (.val t16) = true ∧ t16.size = 1 then (E 14 [(.sl 1 [t9, t16])]).bind fun t17 => some t17 else none else none else none else none else none else none := (h.is _ rfl).trans ((runQ_V rfl).trans (by kernel_rfl))
def f22_b0 : AC :=
 (.seq (rg [oo 8 (.bin .lss (.t 7) (.t 6))])
 (.seq (.cond (.t 8) .skip (.exit 0))
 (.seq (.block 1 (.seq (rg [oo 9 (.mv (.t 7)),
  oo 10 (.iaddr 2 (.t 5) (.t 7)),
  oo 11 (.load true 2 (.t 10)),
  oo 4 (.alloc 4 (.agg [(.int .i64 0), (.int .i64 0)])),
  oo 3 (.mv (.t 9)),
  ⟨none, .store 2 (.t 4) (.t 11), none⟩])
 (.seq (.region 24 [oo 12 (.faddr 0 0 (.t 4)),
  oo 13 (.load false 1 (.t 12)),
  oo 14 (.call false 11 [(.t 13)]),
  oo 15 (.un .not (.t 14)),
  oo 16 (.mv (.t 15)),
  ⟨some 17, .faddr 1 1 (.t 4), some (16, false)⟩,
  ⟨some 18, .load false 1 (.t 17), some (16, false)⟩,
  ⟨some 19, .call false 10 [(.t 18), (ci 0), (ci 999)], some (16, false)⟩,
  ⟨some 20, .un .not (.t 19), some (16, false)⟩,
  oo 21 (.pick (.t 16) (.c (.bool true)) (.t 20)),
  oo 22 (.mv (.t 21)),
  ⟨some 23, .mv (.t 3), some (22, false)⟩,
  ⟨some 24, .bin .gtr (.t 23) (ci 0), some (22, false)⟩,
  ⟨some 25, .mv (.t 24), some (22, false)⟩,
  ⟨some 26, .mv (.t 0), some (25, true)⟩,
  ⟨some 27, .mv (.t 3), some (25, true)⟩,
  ⟨some 28, .bin .sub (.t 27) (ci 1), some (25, true)⟩,
  ⟨some 29, .iaddr 2 (.t 26) (.t 28), some (25, true)⟩,
  ⟨some 30, .load true 2 (.t 29), some (25, true)⟩,
  ⟨some 31, .load true 2 (.t 4), some (25, true)⟩,
  ⟨some 32, .call false 75 [(.t 30), (.t 31)], some (25, true)⟩,
  ⟨some 33, .bin .geq (.t 32) (ci 0), some (25, true)⟩,
  ⟨some 34, .pick (.t 25) (.t 33) (.c (.bool false)), some (22, false)⟩,
  oo 35 (.pick (.t 22) (.c (.bool true)) (.t 34))])
 (.cond (.t 35) (.seq (rg [oo 2 (.mv (.c (.bool false)))])
 .ret) .skip))))
 (rg [oo 36 (.bin .add (.t 7) (ci 1)),
  oo 7 (.mv (.t 36))]))))
def f22_r0 : AC :=
 (.seq (rg [oo 37 (.mv (.t 0)),
  oo 38 (.len false (.t 37)),
  oo 39 (.bin .leq (.t 38) (ci 60)),
  oo 2 (.mv (.t 39))])
 .ret)
def f22_ac : AC :=
 (.seq (rg [oo 2 (.mv (.c (.bool false)))])
 (.seq (.seq (rg [oo 5 (.mv (.t 0)),
  oo 6 (.len false (.t 5)),
  oo 7 (.mv (ci 0))])
 (.block 0 (.loop ⟨[0, 5, 6, 7], [], []⟩ f22_b0)))
 f22_r0))
noncomputable def f22_l0 (E : Env) (x0 : U) (x5 : U) (x6 : U) (x7 : U) : Option U := loopK (roundOf E ⟨[0, 5, 6, 7], [], []⟩ f22_b0 (blockK 0 (seqK (fun s => exec E f22_r0 s (finish [(2, none)])) (finish [(2, none)])))) ([.val x0, .val x5, .val x6, .val x7], [])
theorem f22_l0_eq (E : Env) (x0 : U) (x5 : U) (x6 : U) (x7 : U) : f22_l0 E x0 x5 x6 x7 =
 (U.bin .lss x7 x6).bind fun t2 => U.asBool t2
 (U.asInt x7 fun n3 => U.elemAt 2 x5 n3 fun e4 => U.asVar true 2 e4 fun e5 => if storable (.val e5) = true ∧ e5.size = 2 then U.asAgg e5 fun us6 => if 0 = sizes (us6.take 0) then (us6[0]?).bind fun e7 => U.asVar false 1 e7 fun e8 => (E 11 [e8]).bind fun t9 => (U.un .not t9).bind fun t10 => U.asBool t10
 (some (.bool false))
 (U.asAgg e5 fun us11 => if 1 = sizes (us11.take 1) then (us11[1]?).bind fun e12 => U.asVar false 1 e12 fun e13 => (E 10 [e13, (.int .i64 0), (.int .i64 999)]).bind fun t14 => (U.un .not t14).bind fun t15 => U.asBool t15
 (some (.bool false))
 ((U.bin .gtr x7 (.int .i64 0)).bind fun t16 => U.asBool t16
 ((U.bin .sub x7 (.int .i64 1)).bind fun t17 => U.asInt t17 fun n18 => U.elemAt 2 x0 n18 fun e19 => U.asVar true 2 e19 fun e20 => U.asVar true 2 e5 fun e21 => (E 75 [e20, e21]).bind fun t22 => (U.bin .geq t22 (.int .i64 0)).bind fun t23 => U.asBool t23
 (some (.bool false))
 ((U.bin .add x7 (.int .i64 1)).bind fun t24 => f22_l0 E x0 x5 x6 t24))
 ((U.bin .add x7 (.int .i64 1)).bind fun t25 => f22_l0 E x0 x5 x6 t25)) else none) else none else none)
 ((U.lenOf false x0).bind fun n26 => (U.bin .leq (.int .i64 (n26 : Int)) (.int .i64 60)).bind fun t27 => some t27) :=
 (loop_eq E _ _ _ _).trans (by kernel_rfl)
structure G_f22 (E : Env) : Prop where
  is : Is E 73 1 f22_ac [(2, none)]
  c_f31 : G_f31 E
  c_f28 : G_f28 E
  c_f25 : G_f25 E
theorem f22_E {E : Env} (h : G_f22 E) (a0 : U) : E 73 [a0] =
 (U.lenOf false a0).bind fun n1 => f22_l0 E a0 a0 (.int .i64 (n1 : Int)) (.int .i64 0) := (h.is _ rfl).trans ((runQ_V rfl).trans (by kernel_rfl))
def f32_ac : AC :=
 (.seq (rg [oo 2 (.mv (.c (.bool false)))])
 (.seq (rg [oo 3 (.mv (.t 0)),
  oo 4 (.call false 10 [(.t 3), (ci (-1)), (ci 99)]),
  oo 2 (.mv (.t 4))])
 .ret))
structure G_f32 (E : Env) : Prop where
  is : Is E 76 1 f32_ac [(2, none)]
  c_f28 : G_f28 E
theorem f32_E {E : Env} (h : G_f32 E) (a0 : U) : E 76 [a0] =
 (E 10 [a0, (.int .i64 (-1)), (.int .i64 99)]).bind fun t1 => some t1 := (h.is _ rfl).trans ((runQ_V rfl).trans (by kernel_rfl))
def f23_b0 : AC :=
 (.seq (rg [oo 8 (.bin .lss (.t 7) (.t 6))])
 (.seq (.cond (.t 8) .skip (.exit 0))
 (.seq (.block 1 (.seq (rg [oo 9 (.mv (.t 7)),
  oo 10 (.iaddr 2 (.t 5) (.t 7)),
  oo 11 (.load true 2 (.t 10)),
  oo 4 (.alloc 4 (.agg [(.int .i64 0), (.int .i64 0)])),
  oo 3 (.mv (.t 9)),
  ⟨none, .store 2 (.t 4) (.t 11), none⟩])
 (.seq (.region 25 [oo 12 (.faddr 0 0 (.t 4)),
  oo 13 (.load false 1 (.t 12)),
  oo 14 (.call false 11 [(.t 13)]),
  oo 15 (.un .not (.t 14)),
  oo 16 (.mv (.t 15)),
  ⟨some 17, .faddr 1 1 (.t 4), some (16, false)⟩,
  ⟨some 18, .load false 1 (.t 17), some (16, false)⟩,
  ⟨some 19, .call false 76 [(.t 18)], some (16, false)⟩,
  ⟨some 20, .un .not (.t 19), some (16, false)⟩,
  oo 21 (.pick (.t 16) (.c (.bool true)) (.t 20)),
  oo 22 (.mv (.t 21)),
  ⟨some 23, .mv (.t 3), some (22, false)⟩,
  ⟨some 24, .bin .gtr (.t 23) (ci 0), some (22, false)⟩,
  ⟨some 25, .mv (.t 24), some (22, false)⟩,
  ⟨some 26, .mv (.t 0), some (25, true)⟩,
  ⟨some 27, .mv (.t 3), some (25, true)⟩,
  ⟨some 28, .bin .sub (.t 27) (ci 1), some (25, true)⟩,
  ⟨some 29, .iaddr 2 (.t 26) (.t 28), some (25, true)⟩,
  ⟨some 30, .faddr 0 0 (.t 29), some (25, true)⟩,
  ⟨some 31, .load false 1 (.t 30), some (25, true)⟩,
  ⟨some 32, .faddr 0 0 (.t 4), some (25, true)⟩,
  ⟨some 33, .load false 1 (.t 32), some (25, true)⟩,
  ⟨some 34, .bin .geq (.t 31) (.t 33), some (25, true)⟩,
  ⟨some 35, .pick (.t 25) (.t 34) (.c (.bool false)), some (22, false)⟩,
  oo 36 (.pick (.t 22) (.c (.bool true)) (.t 35))])
 (.cond (.t 36) (.seq (rg [oo 2 (.mv (.c (.bool false)))])
 .ret) .skip))))
 (rg [oo 37 (.bin .add (.t 7) (ci 1)),
  oo 7 (.mv (.t 37))]))))
def f23_r0 : AC :=
 (.seq (rg [oo 2 (.mv (.c (.bool true)))])
 .ret)
def f23_ac : AC :=
 (.seq (rg [oo 2 (.mv (.c (.bool false)))])
 (.seq (.seq (rg [oo 5 (.mv (.t 0)),
  oo 6 (.len false (.t 5)),
  oo 7 (.mv (ci 0))])
 (.block 0 (.loop ⟨[0, 5, 6, 7], [], []⟩ f23_b0)))
 f23_r0))
noncomputable def f23_l0 (E : Env) (x0 : U) (x5 : U) (x6 : U) (x7 : U) : Option U := loopK (roundOf E ⟨[0, 5, 6, 7], [], []⟩ f23_b0 (blockK 0 (seqK (fun s => exec E f23_r0 s (finish [(2, none)])) (finish [(2, none)])))) ([.val x0, .val x5, .val x6, .val x7], [])
theorem f23_l0_eq (E : Env) (x0 : U) (x5 : U) (x6 : U) (x7 : U) : f23_l0 E x0 x5 x6 x7 =
 (U.bin .lss x7 x6).bind fun t2 => U.asBool t2
 (U.asInt x7 fun n3 => U.elemAt 2 x5 n3 fun e4 => U.asVar true 2 e4 fun e5 => if storable (.val e5) = true ∧ e5.size = 2 then U.asAgg e5 fun us6 => if 0 = sizes (us6.take 0) then (us6[0]?).bind fun e7 => U.asVar false 1 e7 fun e8 => (E 11 [e8]).bind fun t9 => (U.un .not t9).bind fun t10 => U.asBool t10
 (some (.bool false))
 (U.asAgg e5 fun us11 => if 1 = sizes (us11.take 1) then (us11[1]?).bind fun e12 => U.asVar false 1 e12 fun e13 => (E 76 [e13]).bind fun t14 => (U.un .not t14).bind fun t15 => U.asBool t15
 (some (.bool false))
 ((U.bin .gtr x7 (.int .i64 0)).bind fun t16 => U.asBool t16
 ((U.bin .sub x7 (.int .i64 1)).bind fun t17 => U.asInt t17 fun n18 => U.elemAt 2 x0 n18 fun e19 => U.fieldAt 0 0 e19 fun f20 => U.asVar false 1 f20 fun e21 => U.asAgg e5 fun us22 => if 0 = sizes (us22.take 0) then (us22[0]?).bind fun e23 => U.asVar false 1 e23 fun e24 => (U.bin .geq e21 e24).bind fun t25 => U.asBool t25
 (some (.bool false))
 ((U.bin .add x7 (.int .i64 1)).bind fun t26 => f23_l0 E x0 x5 x6 t26) else none)
 ((U.bin .add x7 (.int .i64 1)).bind fun t27 => f23_l0 E x0 x5 x6 t27)) else none) else none else none)
 (some (.bool true)) :=
 (loop_eq E _ _ _ _).trans (by kernel_rfl)
structure G_f23 (E : Env) : Prop where
  is : Is E 74 1 f23_ac [(2, none)]
  c_f31 : G_f31 E
  c_f32 : G_f32 E
theorem f23_E {E : Env} (h : G_f23 E) (a0 : U) : E 74 [a0] =
 (U.lenOf false a0).bind fun n1 => f23_l0 E a0 a0 (.int .i64 (n1 : Int)) (.int .i64 0) := (h.is _ rfl).trans ((runQ_V rfl).trans (by kernel_rfl))
def f29_ac : AC :=
 (.seq (rg [oo 1 (.box false 1 (.t 0)),
  oo 2 (.mv (.c (.bool false)))])
 (.seq (rg [oo 3 (.faddr 0 0 (.t 1)),
  oo 4 (.load false 1 (.t 3)),
  oo 5 (.call false 9 [(.t 4)]),
  oo 6 (.mv (.t 5)),
  ⟨some 7, .faddr 1 1 (.t 1), some (6, true)⟩,
  ⟨some 8, .load false 1 (.t 7), some (6, true)⟩,
  ⟨some 9, .call false 72 [(.t 8)], some (6, true)⟩,
  oo 10 (.pick (.t 6) (.t 9) (.c (.bool false))),
  oo 11 (.mv (.t 10)),
  ⟨some 12, .faddr 2 2 (.t 1), some (11, true)⟩,
  ⟨some 13, .load false 1 (.t 12), some (11, true)⟩,
  ⟨some 14, .call false 73 [(.t 13)], some (11, true)⟩,
  oo 15 (.pick (.t 11) (.t 14) (.c (.bool false))),
  oo 16 (.mv (.t 15)),
  ⟨some 17, .faddr 3 3 (.t 1), some (16, true)⟩,
  ⟨some 18, .load false 1 (.t 17), some (16, true)⟩,
  ⟨some 19, .call false 74 [(.t 18)], some (16, true)⟩,
  oo 20 (.pick (.t 16) (.t 19) (.c (.bool false))),
  oo 2 (.mv (.t 20))])
 .ret))
structure G_f29 (E : Env) : Prop where
  is : Is E 250 1 f29_ac [(2, none)]
  c_f30 : G_f30 E
  c_f19 : G_f19 E
  c_f22 : G_f22 E
  c_f23 : G_f23 E
theorem f29_E {E : Env} (h : G_f29 E) (a0 : U) : E 250 [a0] =
 U.noTup a0 fun x1 => U.asAgg x1 fun us2 => if 0 = sizes (us2.take 0) then (us2[0]?).bind fun e3 => U.asVar false 1 e3 fun e4 => (E 9 [e4]).bind fun t5 => U.asBool t5
 (U.asAgg x1 fun us6 => if 1 = sizes (us6.take 1) then (us6[1]?).bind fun e7 => U.asVar false 1 e7 fun e8 => (E 72 [e8]).bind fun t9 => U.asBool t9
 (U.asAgg x1 fun us10 => if 2 = sizes (us10.take 2) then (us10[2]?).bind fun e11 => U.asVar false 1 e11 fun e12 => (E 73 [e12]).bind fun t13 => U.asBool t13
 (U.asAgg x1 fun us14 => if 3 = sizes (us14.take 3) then (us14[3]?).bind fun e15 => U.asVar false 1 e15 fun e16 => (E 74 [e16]).bind fun t17 => some t17 else none)
 (some (.bool false)) else none)
 (some (.bool false)) else none)
 (some (.bool false)) else none := (h.is _ rfl).trans ((runQ_V rfl).trans (by kernel_rfl))
def f59_b0 : AC :=
 (.seq (rg [oo 9 (.bin .lss (.t 8) (.t 7))])
 (.seq (.cond (.t 9) .skip (.exit 0))
 (.seq (.block 1 (.seq (rg [oo 10 (.mv (.t 8)),
  oo 5 (.mv (.t 10))])
 (.seq (rg [oo 11 (.mv (.t 1)),
  oo 12 (.mv (.t 0)),
  oo 13 (.mv (.t 5)),
  oo 14 (.iaddr 2 (.t 12) (.t 13)),
  oo 15 (.load true 2 (.t 14)),
  oo 16 (.callv false (.t 11) [(.t 15)])])
 (.cond (.t 16) (.seq (rg [oo 17 (.mv (.t 5)),
  oo 4 (.mv (.t 17))])
 .ret) .skip))))
 (rg [oo 18 (.bin .add (.t 8) (ci 1)),
  oo 8 (.mv (.t 18))]))))
def f59_r0 : AC :=
 (.seq (rg [oo 4 (.mv (ci (-1)))])
 .ret)
def f59_ac : AC :=
 (.seq (rg [oo 4 (.mv (ci 0))])
 (.seq (.seq (rg [oo 6 (.mv (.t 0)),
  oo 7 (.len false (.t 6)),
  oo 8 (.mv (ci 0))])
 (.block 0 (.loop ⟨[0, 1, 7, 8], [], []⟩ f59_b0)))
 f59_r0))
noncomputable def f59_l0 (E : Env) (x0 : U) (x1 : U) (x7 : U) (x8 : U) : Option U := loopK (roundOf E ⟨[0, 1, 7, 8], [], []⟩ f59_b0 (blockK 0 (seqK (fun s => exec E f59_r0 s (finish [(4, none)])) (finish [(4, none)])))) ([.val x0, .val x1, .val x7, .val x8], [])
theorem f59_l0_eq (E : Env) (x0 : U) (x1 : U) (x7 : U) (x8 : U) : f59_l0 E x0 x1 x7 x8 =
 (U.bin .lss x8 x7).bind fun t2 => U.asBool t2
 (U.asInt x8 fun n3 => U.elemAt 2 x0 n3 fun e4 => U.asVar true 2 e4 fun e5 => U.asFn x1 fun r6 caps7 => (E r6 ([e5] ++ caps7)).bind fun t8 => U.asBool t8
 (some x8)
 ((U.bin .add x8 (.int .i64 1)).bind fun t9 => f59_l0 E x0 x1 x7 t9))
 (some (.int .i64 (-1))) :=
 (loop_eq E _ _ _ _).trans (by kernel_rfl)
structure G_f59 (E : Env) : Prop where
  is : Is E 55 2 f59_ac [(4, none)]
theorem f59_E {E : Env} (h : G_f59 E) (a0 a1 : U) : E 55 [a0, a1] =
 (U.lenOf false a0).bind fun n1 => f59_l0 E a0 a1 (.int .i64 (n1 : Int)) (.int .i64 0) := (h.is _ rfl).trans ((runQ_V rfl).trans (by kernel_rfl))
def f54_ac : AC :=
 (.seq (rg [oo 4 (.mv (.c (.bool false)))])
 (.seq (rg [oo 5 (.mv (.t 0)),
  oo 6 (.mv (.t 1)),
  oo 7 (.call false 55 [(.t 5), (.t 6)]),
  oo 8 (.bin .geq (.t 7) (ci 0)),
  oo 4 (.mv (.t 8))])
 .ret))
structure G_f54 (E : Env) : Prop where
  is : Is E 54 2 f54_ac [(4, none)]
  c_f59 : G_f59 E
theorem f54_E {E : Env} (h : G_f54 E) (a0 a1 : U) : E 54 [a0, a1] =
 (E 55 [a0, a1]).bind fun t1 => (U.bin .geq t1 (.int .i64 0)).bind fun t2 => some t2 := (h.is _ rfl).trans ((runQ_V rfl).trans (by kernel_rfl))
def f13_ac : AC :=
 (.seq (rg [oo 2 (.box false 2 (.t 0)),
  oo 3 (.mv (.c (.bool false)))])
 (.seq (rg [oo 4 (.faddr 0 0 (.t 2)),
  oo 5 (.load false 1 (.t 4)),
  oo 6 (.load false 1 (.t 1)),
  oo 7 (.bin .eql (.t 5) (.t 6)),
  oo 3 (.mv (.t 7))])
 .ret))
structure G_f13 (E : Env) : Prop where
  is : Is E 53 2 f13_ac [(3, none)]
theorem f13_E {E : Env} (h : G_f13 E) (a0 a1 : U) : E 53 [a0, a1] =
 U.noTup a0 fun x1 => U.asAgg x1 fun us2 => if 0 = sizes (us2.take 0) then (us2[0]?).bind fun e3 => U.asVar false 1 e3 fun e4 => U.asVp a1 fun v5 => U.asVar false 1 v5 fun e6 => (U.bin .eql e4 e6).bind fun t7 => some t7 else none := (h.is _ rfl).trans ((runQ_V rfl).trans (by kernel_rfl))
def f12_ac : AC :=
 (.seq (rg [oo 2 (.box false 2 (.t 0)),
  oo 3 (.box true 3 (.t 1)),
  oo 4 (.mv (.c (.bool false)))])
 (.seq (rg [oo 5 (.faddr 3 3 (.t 2)),
  oo 6 (.load false 1 (.t 5)),
  oo 7 (.mkfn 53 [(.t 3)]),
  oo 8 (.call false 54 [(.t 6), (.t 7)]),
  oo 4 (.mv (.t 8))])
 .ret))
structure G_f12 (E : Env) : Prop where
  is : Is E 52 2 f12_ac [(4, none)]
  c_f54 : G_f54 E
  c_f13 : G_f13 E
theorem f12_E {E : Env} (h : G_f12 E) (a0 a1 : U) : E 52 [a0, a1] =
 U.noTup a0 fun x1 => U.noTup a1 fun x2 => U.asAgg x1 fun us3 => if 3 = sizes (us3.take 3) then (us3[3]?).bind fun e4 => U.asVar false 1 e4 fun e5 => (E 54 [e5, (.fn 53 [(.vp x2)])]).bind fun t6 => U.asFlat t6 fun t7 => some t7 else none := (h.is _ rfl).trans ((runQ_V rfl).trans (by kernel_rfl))
def f21_b0 : AC :=
 (.seq (rg [oo 10 (.bin .lss (.t 9) (.t 8))])
 (.seq (.cond (.t 10) .skip (.exit 0))
 (.seq (.block 1 (.seq (rg [oo 11 (.iaddr 4 (.t 7) (.t 9)),
  oo 12 (.load true 4 (.t 11)),
  oo 6 (.alloc 6 (.agg [(.int .i64 0), (.int .i64 0), (.nsl 2), (.nsl 2)])),
  ⟨none, .store 4 (.t 6) (.t 12), none⟩])
 (.seq (rg [oo 13 (.faddr 1 1 (.t 6)),
  oo 14 (.load false 1 (.t 13)),
  oo 15 (.faddr 1 1 (.t 3)),
  oo 16 (.load false 1 (.t 15)),
  oo 17 (.bin .eql (.t 14) (.t 16)),
  oo 18 (.mv (.t 17)),
  ⟨some 19, .load true 4 (.t 6), some (18, true)⟩,
  ⟨some 20, .faddr 0 0 (.t 3), some (18, true)⟩,
  ⟨some 21, .load false 1 (.t 20), some (18, true)⟩,
  ⟨some 22, .call false 52 [(.t 19), (.t 21)], some (18, true)⟩,
  oo 23 (.pick (.t 18) (.t 22) (.c (.bool false)))])
 (.cond (.t 23) (.seq (rg [oo 24 (.faddr 0 0 (.t 6)),
  oo 25 (.load false 1 (.t 24)),
  oo 4 (.mv (.t 25))])
 .ret) .skip))))
 (rg [oo 26 (.bin .add (.t 9) (ci 1)),
  oo 9 (.mv (.t 26))]))))
def f21_r0 : AC :=
 (.seq (rg [oo 4 (.mv (ci 0))])
 .ret)
def f21_ac : AC :=
 (.seq (rg [oo 3 (.box false 3 (.t 1)),
  oo 4 (.mv (ci 0))])
 (.seq (.seq (rg [oo 7 (.mv (.t 0)),
  oo 8 (.len false (.t 7)),
  oo 9 (.mv (ci 0))])
 (.block 0 (.loop ⟨[3, 7, 8, 9], [], [(3, false)]⟩ f21_b0)))
 f21_r0))
noncomputable def f21_l0 (E : Env) (x7 : U) (x8 : U) (x9 : U) (b3 : U) : Option U := loopK (roundOf E ⟨[3, 7, 8, 9], [], [(3, false)]⟩ f21_b0 (blockK 0 (seqK (fun s => exec E f21_r0 s (finish [(4, none)])) (finish [(4, none)])))) ([.ptr 3 [], .val x7, .val x8, .val x9], [.box (.val b3)])
theorem f21_l0_eq (E : Env) (x7 : U) (x8 : U) (x9 : U) (b3 : U) : f21_l0 E x7 x8 x9 b3 =
 (U.bin .lss x9 x8).bind fun t3 => U.asBool t3
 (U.asInt x9 fun n4 => U.elemAt 4 x7 n4 fun e5 => U.asVar true 4 e5 fun e6 => if storable (.val e6) = true ∧ e6.size = 4 then U.asAgg e6 fun us7 => if 1 = sizes (us7.take 1) then (us7[1]?).bind fun e8 => U.asVar false 1 e8 fun e9 => U.asAgg b3 fun us10 => if 1 = sizes (us10.take 1) then (us10[1]?).bind fun e11 => U.asVar false 1 e11 fun e12 => (U.bin .eql e9 e12).bind fun t13 => U.asBool t13
 (U.asVar true 4 e6 fun e14 => U.asAgg b3 fun us15 => if 0 = sizes (us15.take 0) then (us15[0]?).bind fun e16 => U.asVar false 1 e16 fun e17 => (E 52 [e14, e17]).bind fun t18 => U.asBool t18
 (U.asAgg e6 fun us19 => if 0 = sizes (us19.take 0) then (us19[0]?).bind fun e20 => U.asVar false 1 e20 fun e21 => some e21 else none)
 ((U.bin .add x9 (.int .i64 1)).bind fun t22 => f21_l0 E x7 x8 t22 b3) else none)
 ((U.bin .add x9 (.int .i64 1)).bind fun t23 => f21_l0 E x7 x8 t23 b3) else none else none else none)
 (some (.int .i64 0)) :=
 (loop_eq E _ _ _ _).trans (by kernel_rfl)
structure G_f21 (E : Env) : Prop where
  is : Is E 249 2 f21_ac [(4, none)]
  c_f12 : G_f12 E
theorem f21_E {E : Env} (h : G_f21 E) (a0 a1 : U) : E 249 [a0, a1] =
 U.noTup a1 fun x1 => (U.lenOf false a0).bind fun n2 => f21_l0 E a0 (.int .i64 (n2 : Int)) (.int .i64 0) x1 := (h.is _ rfl).trans ((runQ_V rfl).trans (by kernel_rfl))
def f18_b2 : AC :=
 (.seq (rg [oo 16 (.bin .lss (.t 15) (.t 14))])
 (.seq (.cond (.t 16) .skip (.exit 0))
 (.seq (.block 1 (.seq (rg [oo 17 (.mv (.t 15)),
  oo 18 (.iaddr 4 (.t 13) (.t 15)),
  oo 19 (.load true 4 (.t 18)),
  oo 4 (.alloc 4 (.agg [(.int .i64 0), (.int .i64 0), (.nsl 2), (.nsl 2)])),
  oo 3 (.mv (.t 17)),
  ⟨none, .store 4 (.t 4) (.t 19), none⟩])
 (.seq (.seq (rg [oo 20 (.load true 4 (.t 4)),
  oo 21 (.call false 250 [(.t 20)]),
  oo 22 (.un .not (.t 21)),
  oo 23 (.mv (.t 22)),
  ⟨some 24, .mv (.t 0), some (23, false)⟩,
  ⟨some 25, .faddr 0 0 (.t 4), some (23, false)⟩,
  ⟨some 26, .load false 1 (.t 25), some (23, false)⟩,
  ⟨some 27, .call false 251 [(.t 24), (.t 26)], some (23, false)⟩,
  ⟨some 28, .mv (.t 3), some (23, false)⟩,
  ⟨some 29, .bin .neq (.t 27) (.t 28), some (23, false)⟩,
  oo 30 (.pick (.t 23) (.c (.bool true)) (.t 29))])
 (.cond (.t 30) (.seq (rg [oo 2 (.mv (.c (.bool false)))])
 .ret) .skip))
 (.seq (.region 30 [oo 31 (.mv (.t 3)),
  oo 32 (.bin .gtr (.t 31) (ci 0)),
  oo 33 (.mv (.t 32)),
  ⟨some 34, .faddr 1 1 (.t 4), some (33, true)⟩,
  ⟨some 35, .load false 1 (.t 34), some (33, true)⟩,
  ⟨some 36, .mv (.t 0), some (33, true)⟩,
  ⟨some 37, .mv (.t 3), some (33, true)⟩,
  ⟨some 38, .bin .sub (.t 37) (ci 1), some (33, true)⟩,
  ⟨some 39, .iaddr 4 (.t 36) (.t 38), some (33, true)⟩,
  ⟨some 40, .faddr 1 1 (.t 39), some (33, true)⟩,
  ⟨some 41, .load false 1 (.t 40), some (33, true)⟩,
  ⟨some 42, .bin .lss (.t 35) (.t 41), some (33, true)⟩,
  ⟨some 43, .mv (.t 42), some (33, true)⟩,
  ⟨some 44, .faddr 1 1 (.t 4), some (43, false)⟩,
  ⟨some 45, .load false 1 (.t 44), some (43, false)⟩,
  ⟨some 46, .mv (.t 0), some (43, false)⟩,
  ⟨some 47, .mv (.t 3), some (43, false)⟩,
  ⟨some 48, .bin .sub (.t 47) (ci 1), some (43, false)⟩,
  ⟨some 49, .iaddr 4 (.t 46) (.t 48), some (43, false)⟩,
  ⟨some 50, .faddr 1 1 (.t 49), some (43, false)⟩,
  ⟨some 51, .load false 1 (.t 50), some (43, false)⟩,
  ⟨some 52, .bin .eql (.t 45) (.t 51), some (43, false)⟩,
  ⟨some 53, .mv (.t 52), some (43, false)⟩,
  ⟨some 54, .faddr 3 3 (.t 4), some (53, true)⟩,
  ⟨some 55, .load false 1 (.t 54), some (53, true)⟩,
  ⟨some 56, .len false (.t 55), some (53, true)⟩,
  ⟨some 57, .bin .gtr (.t 56) (ci 0), some (53, true)⟩,
  ⟨some 58, .pick (.t 53) (.t 57) (.c (.bool false)), some (43, false)⟩,
  ⟨some 59, .pick (.t 43) (.c (.bool true)) (.t 58), some (33, true)⟩,
  oo 60 (.pick (.t 33) (.t 59) (.c (.bool false)))])
 (.cond (.t 60) (.seq (rg [oo 2 (.mv (.c (.bool false)))])
 .ret) .skip)))))
 (rg [oo 61 (.bin .add (.t 15) (ci 1)),
  oo 15 (.mv (.t 61))]))))
def f18_b1 : AC :=
 (.seq (rg [oo 72 (.bin .lss (.t 71) (.t 70))])
 (.seq (.cond (.t 72) .skip (.exit 4))
 (.seq (.block 5 (.seq (rg [oo 73 (.iaddr 2 (.t 69) (.t 71)),
  oo 74 (.load true 2 (.t 73)),
  oo 8 (.alloc 8 (.agg [(.int .i64 0), (.int .i64 0)])),
  ⟨none, .store 2 (.t 8) (.t 74), none⟩])
 (.seq (rg [oo 75 (.mv (.t 0)),
  oo 76 (.load true 2 (.t 8)),
  oo 77 (.call false 249 [(.t 75), (.t 76)]),
  oo 9 (.mv (.t 77))])
 (.seq (rg [oo 78 (.mv (.t 9)),
  oo 79 (.faddr 0 0 (.t 6)),
  oo 80 (.load false 1 (.t 79)),
  oo 81 (.bin .eql (.t 78) (.t 80)),
  oo 82 (.mv (.t 81)),
  ⟨some 83, .faddr 1 1 (.t 8), some (82, false)⟩,
  ⟨some 84, .load false 1 (.t 83), some (82, false)⟩,
  ⟨some 85, .bin .gtr (.t 84) (ci 0), some (82, false)⟩,
  ⟨some 86, .mv (.t 85), some (82, false)⟩,
  ⟨some 87, .mv (.t 9), some (86, true)⟩,
  ⟨some 88, .bin .eql (.t 87) (ci 0), some (86, true)⟩,
  ⟨some 89, .pick (.t 86) (.t 88) (.c (.bool false)), some (82, false)⟩,
  oo 90 (.pick (.t 82) (.c (.bool true)) (.t 89))])
 (.cond (.t 90) (.seq (rg [oo 2 (.mv (.c (.bool false)))])
 .ret) .skip)))))
 (rg [oo 91 (.bin .add (.t 71) (ci 1)),
  oo 71 (.mv (.t 91))]))))
def f18_r0 : AC :=
 (rg [oo 92 (.bin .add (.t 64) (ci 1)),
  oo 64 (.mv (.t 92))])
def f18_b0 : AC :=
 (.seq (rg [oo 65 (.bin .lss (.t 64) (.t 63))])
 (.seq (.cond (.t 65) .skip (.exit 2))
 (.seq (.block 3 (.seq (rg [oo 66 (.iaddr 4 (.t 62) (.t 64)),
  oo 67 (.load true 4 (.t 66)),
  oo 6 (.alloc 6 (.agg [(.int .i64 0), (.int .i64 0), (.nsl 2), (.nsl 2)])),
  ⟨none, .store 4 (.t 6) (.t 67), none⟩])
 (.seq (rg [oo 68 (.faddr 2 2 (.t 6)),
  oo 69 (.load false 1 (.t 68)),
  oo 70 (.len false (.t 69)),
  oo 71 (.mv (ci 0))])
 (.block 4 (.loop ⟨[0, 6, 62, 63, 64, 69, 70, 71], [], [(6, false)]⟩ f18_b1)))))
 f18_r0)))
def f18_r1 : AC :=
 (.seq (rg [oo 2 (.mv (.c (.bool true)))])
 .ret)
def f18_r2 : AC :=
 (.seq (.seq (rg [oo 62 (.mv (.t 0)),
  oo 63 (.len false (.t 62)),
  oo 64 (.mv (ci 0))])
 (.block 2 (.loop ⟨[0, 62, 63, 64], [], []⟩ f18_b0)))
 f18_r1)
def f18_ac : AC :=
 (.seq (rg [oo 2 (.mv (.c (.bool false)))])
 (.seq (.seq (rg [oo 10 (.mv (.t 0)),
  oo 11 (.len false (.t 10)),
  oo 12 (.bin .gtr (.t 11) (ci 9))])
 (.cond (.t 12) (.seq (rg [oo 2 (.mv (.c (.bool false)))])
 .ret) .skip))
 (.seq (.seq (rg [oo 13 (.mv (.t 0)),
  oo 14 (.len false (.t 13)),
  oo 15 (.mv (ci 0))])
 (.block 0 (.loop ⟨[0, 13, 14, 15], [], []⟩ f18_b2)))
 f18_r2)))
noncomputable def f18_l2 (E : Env) (x0 : U) (x13 : U) (x14 : U) (x15 : U) : Option U := loopK (roundOf E ⟨[0, 13, 14, 15], [], []⟩ f18_b2 (blockK 0 (seqK (fun s => exec E f18_r2 s (finish [(2, none)])) (finish [(2, none)])))) ([.val x0, .val x13, .val x14, .val x15], [])
noncomputable def f18_l0 (E : Env) (x0 : U) (x62 : U) (x63 : U) (x64 : U) : Option U := loopK (roundOf E ⟨[0, 62, 63, 64], [], []⟩ f18_b0 (blockK 2 (seqK (fun s => exec E f18_r1 s (finish [(2, none)])) (finish [(2, none)])))) ([.val x0, .val x62, .val x63, .val x64], [])
noncomputable def f18_l1 (E : Env) (x0 : U) (x62 : U) (x63 : U) (x64 : U) (x69 : U) (x70 : U) (x71 : U) (b6 : U) : Option U := loopK (roundOf E ⟨[0, 6, 62, 63, 64, 69, 70, 71], [], [(6, false)]⟩ f18_b1 (blockK 4 (blockK 3 (seqK (fun s => exec E f18_r0 s (roundK ⟨[0, 62, 63, 64], [], []⟩ (loopK (roundOf E ⟨[0, 62, 63, 64], [], []⟩ f18_b0 (blockK 2 (seqK (fun s => exec E f18_r1 s (finish [(2, none)])) (finish [(2, none)]))))) (blockK 2 (seqK (fun s => exec E f18_r1 s (finish [(2, none)])) (finish [(2, none)]))))) (roundK ⟨[0, 62, 63, 64], [], []⟩ (loopK (roundOf E ⟨[0, 62, 63, 64], [], []⟩ f18_b0 (blockK 2 (seqK (fun s => exec E f18_r1 s (finish [(2, none)])) (finish [(2, none)]))))) (blockK 2 (seqK (fun s => exec E f18_r1 s (finish [(2, none)])) (finish [(2, none)])))))))) ([.val x0, .ptr 6 [], .val x62, .val x63, .val x64, .val x69, .val x70, .val x71], [.box (.val b6)])
theorem f18_l2_eq (E : Env) (x0 : U) (x13 : U) (x14 : U) (x15 : U) : f18_l2 E x0 x13 x14 x15 =
 (U.bin .lss x15 x14).bind fun t4 => U.asBool t4
 (U.asInt x15 fun n5 => U.elemAt 4 x13 n5 fun e6 => U.asVar true 4 e6 fun e7 => if storable (.val e7) = true ∧ e7.size = 4 then U.asVar true 4 e7 fun e8 => (E 250 [e8]).bind fun t9 => (U.un .not t9).bind fun t10 => U.asBool t10
 (some (.bool false))
 (U.asAgg e7 fun us11 => if 0 = sizes (us11.take 0) then (us11[0]?).bind fun e12 => U.asVar false 1 e12 fun e13 => (E 251 [x0, e13]).bind fun t14 => (U.bin .neq t14 x15).bind fun t15 => U.asBool t15
 (some (.bool false))
 ((U.bin .gtr x15 (.int .i64 0)).bind fun t16 => U.asBool t16
 (U.asAgg e7 fun us17 => if 1 = sizes (us17.take 1) then (us17[1]?).bind fun e18 => U.asVar false 1 e18 fun e19 => (U.bin .sub x15 (.int .i64 1)).bind fun t20 => U.asInt t20 fun n21 => U.elemAt 4 x0 n21 fun e22 => U.fieldAt 1 1 e22 fun f23 => U.asVar false 1 f23 fun e24 => (U.bin .lss e19 e24).bind fun t25 => U.asBool t25
 (some (.bool false))
 (U.asAgg e7 fun us26 => if 1 = sizes (us26.take 1) then (us26[1]?).bind fun e27 => U.asVar false 1 e27 fun e28 => (U.bin .sub x15 (.int .i64 1)).bind fun t29 => U.asInt t29 fun n30 => U.elemAt 4 x0 n30 fun e31 => U.fieldAt 1 1 e31 fun f32 => U.asVar false 1 f32 fun e33 => (U.bin .eql e28 e33).bind fun t34 => U.asBool t34
 (U.asAgg e7 fun us35 => if 3 = sizes (us35.take 3) then (us35[3]?).bind fun e36 => U.asVar false 1 e36 fun e37 => (U.lenOf false e37).bind fun n38 => (U.bin .gtr (.int .i64 (n38 : Int)) (.int .i64 0)).bind fun t39 => U.asBool t39
 (some (.bool false))
 ((U.bin .add x15 (.int .i64 1)).bind fun t40 => f18_l2 E x0 x13 x14 t40) else none)
 ((U.bin .add x15 (.int .i64 1)).bind fun t41 => f18_l2 E x0 x13 x14 t41) else none) else none)
 ((U.bin .add x15 (.int .i64 1)).bind fun t42 => f18_l2 E x0 x13 x14 t42)) else none) else none)
 ((U.lenOf false x0).bind fun n43 => f18_l0 E x0 x0 (.int .i64 (n43 : Int)) (.int .i64 0)) :=
 (loop_eq E _ _ _ _).trans (by kernel_rfl)
theorem f18_l0_eq (E : Env) (x0 : U) (x62 : U) (x63 : U) (x64 : U) : f18_l0 E x0 x62 x63 x64 =
 (U.bin .lss x64 x63).bind fun t44 => U.asBool t44
 (U.asInt x64 fun n45 => U.elemAt 4 x62 n45 fun e46 => U.asVar true 4 e46 fun e47 => if storable (.val e47) = true ∧ e47.size = 4 then U.asAgg e47 fun us48 => if 2 = sizes (us48.take 2) then (us48[2]?).bind fun e49 => U.asVar false 1 e49 fun e50 => (U.lenOf false e50).bind fun n51 => f18_l1 E x0 x62 x63 x64 e50 (.int .i64 (n51 : Int)) (.int .i64 0) e47 else none else none)
 (some (.bool true)) :=
 (loop_eq E _ _ _ _).trans (by kernel_rfl)
theorem f18_l1_eq (E : Env) (x0 : U) (x62 : U) (x63 : U) (x64 : U) (x69 : U) (x70 : U) (x71 : U) (b6 : U) : f18_l1 E x0 x62 x63 x64 x69 x70 x71 b6 =
 (U.bin .lss x71 x70).bind fun t52 => U.asBool t52
 (U.asInt x71 fun n53 => U.elemAt 2 x69 n53 fun e54 => U.asVar true 2 e54 fun e55 => if storable (.val e55) = true ∧ e55.size = 2 then U.asVar true 2 e55 fun e56 => (E 249 [x0, e56]).bind fun t57 => U.asAgg b6 fun us58 => if 0 = sizes (us58.take 0) then (us58[0]?).bind fun e59 => U.asVar false 1 e59 fun e60 => (U.bin .eql t57 e60).bind fun t61 => U.asBool t61
 (some (.bool false))
 (U.asAgg e55 fun us62 => if 1 = sizes (us62.take 1) then (us62[1]?).bind fun e63 => U.asVar false 1 e63 fun e64 => (U.bin .gtr e64 (.int .i64 0)).bind fun t65 => U.asBool t65
 ((U.bin .eql t57 (.int .i64 0)).bind fun t66 => U.asBool t66
 (some (.bool false))
 ((U.bin .add x71 (.int .i64 1)).bind fun t67 => f18_l1 E x0 x62 x63 x64 x69 x70 t67 b6))
 ((U.bin .add x71 (.int .i64 1)).bind fun t68 => f18_l1 E x0 x62 x63 x64 x69 x70 t68 b6) else none) else none else none)
 ((U.bin .add x64 (.int .i64 1)).bind fun t69 => f18_l0 E x0 x62 x63 t69) :=
 (loop_eq E _ _ _ _).trans (by kernel_rfl)
structure G_f18 (E : Env) : Prop where
  is : Is E 247 1 f18_ac [(2, none)]
  c_f14 : G_f14 E
  c_f29 : G_f29 E
  c_f21 : G_f21 E
theorem f18_E {E : Env} (h : G_f18 E) (a0 : U) : E 247 [a0] =
 (U.lenOf false a0).bind fun n1 => (U.bin .gtr (.int .i64 (n1 : Int)) (.int .i64 9)).bind fun t2 => U.asBool t2
 (some (.bool false))
 ((U.lenOf false a0).bind fun n3 => f18_l2 E a0 a0 (.int .i64 (n3 : Int)) (.int .i64 0)) := (h.is _ rfl).trans ((runQ_V rfl).trans (by kernel_rfl))
def f20_b0 : AC :=
 (.seq (rg [oo 15 (.bin .lss (.t 14) (.t 13))])
 (.seq (.cond (.t 15) .skip (.exit 0))
 (.seq (.block 1 (.seq (rg [oo 16 (.iaddr 4 (.t 12) (.t 14)),
  oo 17 (.load true 4 (.t 16)),
  oo 11 (.alloc 11 (.agg [(.int .i64 0), (.int .i64 0), (.nsl 2), (.nsl 2)])),
  ⟨none, .store 4 (.t 11) (.t 17), none⟩])
 (.seq (rg [oo 18 (.faddr 1 1 (.t 11)),
  oo 19 (.load false 1 (.t 18)),
  oo 20 (.mv (.t 2)),
  oo 21 (.bin .gtr (.t 19) (.t 20)),
  oo 22 (.mv (.t 21)),
  ⟨some 23, .load true 4 (.t 11), some (22, true)⟩,
  ⟨some 24, .mv (.t 1), some (22, true)⟩,
  ⟨some 25, .call false 52 [(.t 23), (.t 24)], some (22, true)⟩,
  oo 26 (.pick (.t 22) (.t 25) (.c (.bool false))),
  oo 27 (.mv (.t 26)),
  ⟨some 28, .mv (.t 9), some (27, true)⟩,
  ⟨some 29, .un .not (.t 28), some (27, true)⟩,
  ⟨some 30, .mv (.t 29), some (27, true)⟩,
  ⟨some 31, .faddr 1 1 (.t 11), some (30, false)⟩,
  ⟨some 32, .load false 1 (.t 31), some (30, false)⟩,
  ⟨some 33, .mv (.t 8), some (30, false)⟩,
  ⟨some 34, .bin .lss (.t 32) (.t 33), some (30, false)⟩,
  ⟨some 35, .pick (.t 30) (.c (.bool true)) (.t 34), some (27, true)⟩,
  oo 36 (.pick (.t 27) (.t 35) (.c (.bool false)))])
 (.cond (.t 36) (.region 7 [oo 37 (.faddr 0 0 (.t 11)),
  oo 38 (.load false 1 (.t 37)),
  oo 39 (.faddr 1 1 (.t 11)),
  oo 40 (.load false 1 (.t 39)),
  oo 7 (.mv (.t 38)),
  oo 8 (.mv (.t 40)),
  oo 9 (.mv (.c (.bool true)))]) .skip))))
 (rg [oo 41 (.bin .add (.t 14) (ci 1)),
  oo 14 (.mv (.t 41))]))))
def f20_r0 : AC :=
 (.seq (rg [oo 42 (.mv (.t 7)),
  oo 6 (.mv (.t 42))])
 .ret)
def f20_ac : AC :=
 (.seq (rg [oo 6 (.mv (ci 0))])
 (.seq (rg [oo 7 (.mv (ci 0)),
  oo 8 (.mv (ci 0)),
  oo 9 (.mv (.c (.bool false)))])
 (.seq (.seq (rg [oo 12 (.mv (.t 0)),
  oo 13 (.len false (.t 12)),
  oo 14 (.mv (ci 0))])
 (.block 0 (.loop ⟨[1, 2, 7, 8, 9, 12, 13, 14], [], []⟩ f20_b0)))
 f20_r0)))
noncomputable def f20_l0 (E : Env) (x1 : U) (x2 : U) (x7 : U) (x8 : U) (x9 : U) (x12 : U) (x13 : U) (x14 : U) : Option U := loopK (roundOf E ⟨[1, 2, 7, 8, 9, 12, 13, 14], [], []⟩ f20_b0 (blockK 0 (seqK (fun s => exec E f20_r0 s (finish [(6, none)])) (finish [(6, none)])))) ([.val x1, .val x2, .val x7, .val x8, .val x9, .val x12, .val x13, .val x14], [])
theorem f20_l0_eq (E : Env) (x1 : U) (x2 : U) (x7 : U) (x8 : U) (x9 : U) (x12 : U) (x13 : U) (x14 : U) : f20_l0 E x1 x2 x7 x8 x9 x12 x13 x14 =
 (U.bin .lss x14 x13).bind fun t2 => U.asBool t2
 (U.asInt x14 fun n3 => U.elemAt 4 x12 n3 fun e4 => U.asVar true 4 e4 fun e5 => if storable (.val e5) = true ∧ e5.size = 4 then U.asAgg e5 fun us6 => if 1 = sizes (us6.take 1) then (us6[1]?).bind fun e7 => U.asVar false 1 e7 fun e8 => (U.bin .gtr e8 x2).bind fun t9 => U.asBool t9
 (U.asVar true 4 e5 fun e10 => (E 52 [e10, x1]).bind fun t11 => U.asBool t11
 ((U.un .not x9).bind fun t12 => U.asBool t12
 (U.asAgg e5 fun us13 => if 0 = sizes (us13.take 0) then (us13[0]?).bind fun e14 => U.asVar false 1 e14 fun e15 => U.asAgg e5 fun us16 => if 1 = sizes (us16.take 1) then (us16[1]?).bind fun e17 => U.asVar false 1 e17 fun e18 => (U.bin .add x14 (.int .i64 1)).bind fun t19 => f20_l0 E x1 x2 e15 e18 (.bool true) x12 x13 t19 else none else none)
 (U.asAgg e5 fun us20 => if 1 = sizes (us20.take 1) then (us20[1]?).bind fun e21 => U.asVar false 1 e21 fun e22 => (U.bin .lss e22 x8).bind fun t23 => U.asBool t23
 (U.asAgg e5 fun us24 => if 0 = sizes (us24.take 0) then (us24[0]?).bind fun e25 => U.asVar false 1 e25 fun e26 => U.asAgg e5 fun us27 => if 1 = sizes (us27.take 1) then (us27[1]?).bind fun e28 => U.asVar false 1 e28 fun e29 => (U.bin .add x14 (.int .i64 1)).bind fun t30 => f20_l0 E x1 x2 e26 e29 (.bool true) x12 x13 t30 else none else none)
 ((U.bin .add x14 (.int .i64 1)).bind fun t31 => f20_l0 E x1 x2 x7 x8 x9 x12 x13 t31) else none))
 ((U.bin .add x14 (.int .i64 1)).bind fun t32 => f20_l0 E x1 x2 x7 x8 x9 x12 x13 t32))
 ((U.bin .add x14 (.int .i64 1)).bind fun t33 => f20_l0 E x1 x2 x7 x8 x9 x12 x13 t33) else none else none)
 (some x7) :=
 (loop_eq E _ _ _ _).trans (by kernel_rfl)
structure G_f20 (E : Env) : Prop where
  is : Is E 47 3 f20_ac [(6, none)]
  c_f12 : G_f12 E
theorem f20_E {E : Env} (h : G_f20 E) (a0 a1 a2 : U) : E 47 [a0, a1, a2] =
 (U.lenOf false a0).bind fun n1 => f20_l0 E a1 a2 (.int .i64 0) (.int .i64 0) (.bool false) a0 (.int .i64 (n1 : Int)) (.int .i64 0) := (h.is _ rfl).trans ((runQ_V rfl).trans (by kernel_rfl))
def f24_ac : AC :=
 (.seq (rg [oo 2 (.box false 2 (.t 0)),
  oo 3 (.box false 3 (.t 1)),
  oo 4 (.mv (ci 0))])
 (.seq (.region 23 [oo 5 (.faddr 0 0 (.t 2)),
  oo 6 (.load false 1 (.t 5)),
  oo 7 (.faddr 0 0 (.t 3)),
  oo 8 (.load false 1 (.t 7)),
  oo 9 (.call false 13 [(.t 6), (.t 8)]),
  oo 10 (.faddr 1 1 (.t 2)),
  oo 11 (.load false 1 (.t 10)),
  oo 12 (.faddr 1 1 (.t 3)),
  oo 13 (.load false 1 (.t 12)),
  oo 14 (.call false 13 [(.t 11), (.t 13)]),
  oo 15 (.faddr 2 2 (.t 2)),
  oo 16 (.load false 1 (.t 15)),
  oo 17 (.faddr 2 2 (.t 3)),
  oo 18 (.load false 1 (.t 17)),
  oo 19 (.call false 13 [(.t 16), (.t 18)]),
  oo 20 (.faddr 3 3 (.t 2)),
  oo 21 (.load false 1 (.t 20)),
  oo 22 (.faddr 3 3 (.t 3)),
  oo 23 (.load false 1 (.t 22)),
  oo 24 (.call false 13 [(.t 21), (.t 23)]),
  oo 25 (.bslice 0 25 1 4 (.int .i64 0) [(0, (.t 9)), (1, (.t 14)), (2, (.t 19)), (3, (.t 24))]),
  oo 26 (.call false 14 [(.t 25)]),
  oo 4 (.mv (.t 26))])
 .ret))
structure G_f24 (E : Env) : Prop where
  is : Is E 12 2 f24_ac [(4, none)]
  c_f0 : G_f0 E
  c_f1 : G_f1 E
theorem f24_E {E : Env} (h : G_f24 E) (a0 a1 : U) : E 12 [a0, a1] =
 U.noTup a0 fun x1 => U.noTup a1 fun x2 => U.asAgg x1 fun us3 => if 0 = sizes (us3.take 0) then (us3[0]?).bind fun e4 => U.asVar false 1 e4 fun e5 => U.asAgg x2 fun us6 => if 0 = sizes (us6.take 0) then (us6[0]?).bind fun e7 => U.asVar false 1 e7 fun e8 => (E 13 [e5, e8]).bind fun t9 => U.asAgg x1 fun us10 => if 1 = sizes (us10.take 1) then (us10[1]?).bind fun e11 => U.asVar false 1 e11 fun e12 => U.asAgg x2 fun us13 => if 1 = sizes (us13.take 1) then (us13[1]?).bind fun e14 => U.asVar false 1 e14 fun e15 => (E 13 [e12, e15]).bind fun t16 => U.asAgg x1 fun us17 => if 2 = sizes (us17.take 2) then (us17[2]?).bind fun e18 => U.asVar false 1 e18 fun e19 => U.asAgg x2 fun us20 => if 2 = sizes (us20.take 2) then (us20[2]?).bind fun e21 => U.asVar false 1 e21 fun e22 => (E 13 [e19, e22]).bind fun t23 => U.asAgg x1 fun us24 => if 3 = sizes (us24.take 3) then (us24[3]?).bind fun e25 => U.asVar false 1 e25 fun e26 => U.asAgg x2 fun us27 => if 3 = sizes (us27.take 3) then (us27[3]?).bind fun e28 => U.asVar false 1 e28 fun e29 => (E 13 [e26, e29]).bind fun t30 => if partable (.val t9) = true ∧ t9.size = 1 then if partable (.val t16) = true ∧ t16.size = 1 then if partable (.val t23) = true ∧ t23.size = 1 then if partable (.val t30) = true ∧ t30.size = 1 then (E 14 [(.sl 1 [t9, t16, t23, t30])]).bind fun t31 => some t31 else none else none else none else none else none else none else none else none else none else none else none else none := (h.is _ rfl).trans ((runQ_V rfl).trans (by kernel_rfl))
def f52_b1 : AC :=
 (.seq (.seq (rg [oo 29 (.mv (.t 5)),
  oo 30 (.mv (.t 4)),
  oo 31 (.len false (.t 30)),
  oo 32 (.bin .lss (.t 29) (.t 31))])
 (.cond (.t 32) .skip (.exit 2)))
 (.seq (.block 3 (.seq (.region 10 [oo 35 (.mv (.t 4)),
  oo 36 (.mv (.t 5)),
  oo 37 (.iaddr 4 (.t 35) (.t 36)),
  oo 38 (.load true 4 (.t 37)),
  oo 39 (.mv (.t 4)),
  oo 40 (.mv (.t 5)),
  oo 41 (.bin .sub (.t 40) (ci 1)),
  oo 42 (.iaddr 4 (.t 39) (.t 41)),
  oo 43 (.load true 4 (.t 42)),
  oo 44 (.eqv true 6 (.t 38) (.t 43))])
 (.cond (.t 44) (.seq (rg [oo 45 (.mv (.t 0)),
  oo 46 (.mv (.t 3)),
  oo 47 (.mv (.t 4)),
  oo 48 (.mv (.t 5)),
  oo 49 (.iaddr 4 (.t 47) (.t 48)),
  oo 50 (.load true 4 (.t 49)),
  oo 51 (.iaddr 4 (.t 45) (.t 46)),
  ⟨none, .store 4 (.t 51) (.t 50), none⟩])
 (rg [oo 52 (.mv (.t 3)),
  oo 53 (.bin .add (.t 52) (ci 1)),
  oo 3 (.mv (.t 53))])) .skip)))
 (rg [oo 33 (.mv (.t 5)),
  oo 34 (.bin .add (.t 33) (ci 1)),
  oo 5 (.mv (.t 34))])))
def f52_r0 : AC :=
 (.seq (rg [oo 54 (.mv (.t 0)),
  oo 55 (.mv (.t 3)),
  oo 56 (.slice false 4 (.t 54) (some (.t 55)) none),
  ⟨none, .clear 4 (.agg [(.int .i64 0), (.int .i64 0), (.int .i64 0), (.int .i64 0)]) (.t 56), none⟩])
 (.seq (rg [oo 57 (.mv (.t 0)),
  oo 58 (.mv (.t 3)),
  oo 59 (.sliceO 59 4 (.t 57) (.t 58)),
  oo 2 (.mv (.t 59))])
 .ret))
def f52_r1 : AC :=
 (rg [oo 14 (.mv (.t 3)),
  oo 15 (.bin .add (.t 14) (ci 1)),
  oo 3 (.mv (.t 15))])
def f52_b0 : AC :=
 (.seq (.seq (rg [oo 10 (.mv (.t 3)),
  oo 11 (.mv (.t 0)),
  oo 12 (.len false (.t 11)),
  oo 13 (.bin .lss (.t 10) (.t 12))])
 (.cond (.t 13) .skip (.exit 0)))
 (.seq (.block 1 (.seq (.region 10 [oo 16 (.mv (.t 0)),
  oo 17 (.mv (.t 3)),
  oo 18 (.iaddr 4 (.t 16) (.t 17)),
  oo 19 (.load true 4 (.t 18)),
  oo 20 (.mv (.t 0)),
  oo 21 (.mv (.t 3)),
  oo 22 (.bin .sub (.t 21) (ci 1)),
  oo 23 (.iaddr 4 (.t 20) (.t 22)),
  oo 24 (.load true 4 (.t 23)),
  oo 25 (.eqv false 6 (.t 19) (.t 24))])
 (.cond (.t 25) (.seq (rg [oo 26 (.mv (.t 0)),
  oo 27 (.mv (.t 3)),
  oo 28 (.slice false 4 (.t 26) (some (.t 27)) none),
  oo 4 (.mv (.t 28))])
 (.seq (.seq (rg [oo 5 (.mv (ci 1))])
 (.block 2 (.loop ⟨[0, 3, 4, 5], [], [(5000, false)]⟩ f52_b1)))
 f52_r0)) .skip)))
 f52_r1))
def f52_r2 : AC :=
 (.seq (rg [oo 60 (.mv (.t 0)),
  oo 2 (.mv (.t 60))])
 .ret)
def f52_ac : AC :=
 (.seq (rg [oo 2 (.mv (.c (.nsl 4)))])
 (.seq (.seq (rg [oo 6 (.mv (.t 0)),
  oo 7 (.len false (.t 6)),
  oo 8 (.bin .lss (.t 7) (ci 2))])
 (.cond (.t 8) (.seq (rg [oo 9 (.mv (.t 0)),
  oo 2 (.mv (.t 9))])
 .ret) .skip))
 (.seq (.seq (rg [oo 3 (.mv (ci 1))])
 (.block 0 (.loop ⟨[0, 3], [], [(5000, false)]⟩ f52_b0)))
 f52_r2)))
noncomputable def f52_l0 (E : Env) (x3 : U) (b5000 : List U) : Option U := loopK (roundOf E ⟨[0, 3], [], [(5000, false)]⟩ f52_b0 (blockK 0 (seqK (fun s => exec E f52_r2 s (finishF [(2, none)])) (finishF [(2, none)])))) ([.ref 5000 [] 4 none, .val x3], [.vir (.own (.sl 4 b5000))])
noncomputable def f52_l1 (E : Env) (x3 : U) (x4_0 : Nat) (x4_1 : Nat) (x5 : U) (b5000 : List U) : Option U := loopK (roundOf E ⟨[0, 3, 4, 5], [], [(5000, false)]⟩ f52_b1 (blockK 2 (seqK (fun s => exec E f52_r0 s (blockK 1 (seqK (fun s => exec E f52_r1 s (roundK ⟨[0, 3], [], [(5000, false)]⟩ (loopK (roundOf E ⟨[0, 3], [], [(5000, false)]⟩ f52_b0 (blockK 0 (seqK (fun s => exec E f52_r2 s (finishF [(2, none)])) (finishF [(2, none)]))))) (blockK 0 (seqK (fun s => exec E f52_r2 s (finishF [(2, none)])) (finishF [(2, none)]))))) (roundK ⟨[0, 3], [], [(5000, false)]⟩ (loopK (roundOf E ⟨[0, 3], [], [(5000, false)]⟩ f52_b0 (blockK 0 (seqK (fun s => exec E f52_r2 s (finishF [(2, none)])) (finishF [(2, none)]))))) (blockK 0 (seqK (fun s => exec E f52_r2 s (finishF [(2, none)])) (finishF [(2, none)]))))))) (blockK 1 (seqK (fun s => exec E f52_r1 s (roundK ⟨[0, 3], [], [(5000, false)]⟩ (loopK (roundOf E ⟨[0, 3], [], [(5000, false)]⟩ f52_b0 (blockK 0 (seqK (fun s => exec E f52_r2 s (finishF [(2, none)])) (finishF [(2, none)]))))) (blockK 0 (seqK (fun s => exec E f52_r2 s (finishF [(2, none)])) (finishF [(2, none)]))))) (roundK ⟨[0, 3], [], [(5000, false)]⟩ (loopK (roundOf E ⟨[0, 3], [], [(5000, false)]⟩ f52_b0 (blockK 0 (seqK (fun s => exec E f52_r2 s (finishF [(2, none)])) (finishF [(2, none)]))))) (blockK 0 (seqK (fun s => exec E f52_r2 s (finishF [(2, none)])) (finishF [(2, none)]))))))))) ([.ref 5000 [] 4 none, .val x3, .ref 5000 [] 4 (some (x4_0, x4_1)), .val x5], [.vir (.own (.sl 4 b5000))])
theorem f52_l0_eq (E : Env) (x3 : U) (b5000 : List U) : f52_l0 E x3 b5000 =
 (U.bin .lss x3 (.int .i64 (b5000.length : Int))).bind fun t2 => U.asBool t2
 (U.asInt x3 fun n3 => if 4 = 4 ∧ 0 ≤ n3 ∧ n3 < (b5000.length : Int) then (b5000[(n3 : Int).toNat]?).bind fun e4 => U.asVar true 4 e4 fun e5 => if (e5 : U).flat = true then (U.bin .sub x3 (.int .i64 1)).bind fun t6 => U.asInt t6 fun n7 => if 4 = 4 ∧ 0 ≤ n7 ∧ n7 < (b5000.length : Int) then (b5000[(n7 : Int).toNat]?).bind fun e8 => U.asVar true 4 e8 fun e9 => if (e9 : U).flat = true then (U.eqv 6 e5 e9).bind fun q10 => U.asBool (.bool q10)
 (U.asInt x3 fun n11 => if false = false ∧ 4 = 4 ∧ 0 ≤ (n11) ∧ (n11) ≤ ((b5000.length : Nat) : Int) ∧ ((b5000.length : Nat) : Int) ≤ ((b5000.length : Nat) : Int) then f52_l1 E x3 ((n11) : Int).toNat ((((b5000.length : Nat) : Int) : Int).toNat - ((n11) : Int).toNat) (.int .i64 1) b5000 else none)
 ((U.bin .add x3 (.int .i64 1)).bind fun t12 => f52_l0 E t12 b5000) else none else none else none else none)
 (some (.sl 4 b5000)) :=
 (loop_eq E _ _ _ _).trans (by kernel_rfl)
theorem f52_l1_eq (E : Env) (x3 : U) (x4_0 : Nat) (x4_1 : Nat) (x5 : U) (b5000 : List U) : f52_l1 E x3 x4_0 x4_1 x5 b5000 =
 (U.bin .lss x5 (.int .i64 ((x4_1 : Nat) : Int))).bind fun t13 => U.asBool t13
 (U.asInt x5 fun n14 => if 4 = 4 ∧ 0 ≤ n14 ∧ n14 < ((x4_1 : Nat) : Int) ∧ x4_0 + x4_1 ≤ b5000.length then (b5000[(x4_0 + (n14 : Int).toNat)]?).bind fun e15 => U.asVar true 4 e15 fun e16 => if (e16 : U).flat = true then (U.bin .sub x5 (.int .i64 1)).bind fun t17 => U.asInt t17 fun n18 => if 4 = 4 ∧ 0 ≤ n18 ∧ n18 < ((x4_1 : Nat) : Int) ∧ x4_0 + x4_1 ≤ b5000.length then (b5000[(x4_0 + (n18 : Int).toNat)]?).bind fun e19 => U.asVar true 4 e19 fun e20 => if (e20 : U).flat = true then (U.eqv 6 e16 e20).bind fun q21 => U.asBool (.bool (!q21))
 (U.asInt x5 fun n22 => if 4 = 4 ∧ 0 ≤ n22 ∧ n22 < ((x4_1 : Nat) : Int) ∧ x4_0 + x4_1 ≤ b5000.length then (b5000[(x4_0 + (n22 : Int).toNat)]?).bind fun e23 => U.asVar true 4 e23 fun e24 => if (e24 : U).flat = true then U.asInt x3 fun n25 => if 4 = 4 ∧ 0 ≤ n25 ∧ n25 < (b5000.length : Int) then if storable (.val e24) = true ∧ e24.size = 4 then (b5000[(n25 : Int).toNat]?).bind fun e26 => if e26.size = 4 then if (e24 : U).flat = true then (U.bin .add x3 (.int .i64 1)).bind fun t27 => (U.bin .add x5 (.int .i64 1)).bind fun t28 => f52_l1 E t27 x4_0 x4_1 t28 (b5000.set (n25 : Int).toNat e24) else none else none else none else none else none else none)
 ((U.bin .add x5 (.int .i64 1)).bind fun t29 => f52_l1 E x3 x4_0 x4_1 t29 b5000) else none else none else none else none)
 (U.asInt x3 fun n30 => if false = false ∧ 4 = 4 ∧ 0 ≤ (n30) ∧ (n30) ≤ ((b5000.length : Nat) : Int) ∧ ((b5000.length : Nat) : Int) ≤ ((b5000.length : Nat) : Int) then if 4 = 4 ∧ ((.agg [(.int .i64 0), (.int .i64 0), (.int .i64 0), (.int .i64 0)]) : U).size = 4 ∧ 0 < 4 ∧ ((.agg [(.int .i64 0), (.int .i64 0), (.int .i64 0), (.int .i64 0)]) : U).flat = true ∧ U.flat.flats b5000 = true ∧ ((n30) : Int).toNat + ((((b5000.length : Nat) : Int) : Int).toNat - ((n30) : Int).toNat) ≤ ((b5000 : List U)).length then U.asInt x3 fun n31 => if 0 ≤ (n31 : Int) ∧ (n31 : Int) ≤ (((((b5000 : List U)).take ((n30) : Int).toNat ++ List.replicate ((((b5000.length : Nat) : Int) : Int).toNat - ((n30) : Int).toNat) (.agg [(.int .i64 0), (.int .i64 0), (.int .i64 0), (.int .i64 0)]) ++ ((b5000 : List U)).drop (((n30) : Int).toNat + ((((b5000.length : Nat) : Int) : Int).toNat - ((n30) : Int).toNat))) : List U)).length then some (.sl 4 ((((((b5000 : List U)).take ((n30) : Int).toNat ++ List.replicate ((((b5000.length : Nat) : Int) : Int).toNat - ((n30) : Int).toNat) (.agg [(.int .i64 0), (.int .i64 0), (.int .i64 0), (.int .i64 0)]) ++ ((b5000 : List U)).drop (((n30) : Int).toNat + ((((b5000.length : Nat) : Int) : Int).toNat - ((n30) : Int).toNat))) : List U)).take (n31 : Int).toNat)) else none else none else none) :=
 (loop_eq E _ _ _ _).trans (by kernel_rfl)
structure G_f52 (E : Env) : Prop where
  is : Is E 300361 1 f52_ac [(2, none)]
theorem f52_E {E : Env} (h : G_f52 E) (xs0 : List U) : E 300361 (.agg [.tup [.sl 4 xs0]] :: []) =
 (U.bin .lss (.int .i64 (xs0.length : Int)) (.int .i64 2)).bind fun t1 => U.asBool t1
 (some (.sl 4 xs0))
 (f52_l0 E (.int .i64 1) xs0) := (h.is _ rfl).trans ((runQ_C rfl).trans (by kernel_rfl))
def f27_ac : AC :=
 (.seq (rg [oo 9 (.mv (.t 0)),
  oo 10 (.bin .neq (.t 9) (ci 0)),
  oo 11 (.mv (.t 10)),
  ⟨some 12, .mv (.t 1), some (11, true)⟩,
  ⟨some 13, .bin .neq (.t 12) (ci 0), some (11, true)⟩,
  oo 14 (.pick (.t 11) (.t 13) (.c (.bool false))),
  oo 15 (.mv (.t 14)),
  ⟨some 16, .mv (.t 0), some (15, true)⟩,
  ⟨some 17, .mv (.t 1), some (15, true)⟩,
  ⟨some 18, .bin .neq (.t 16) (.t 17), some (15, true)⟩,
  oo 19 (.pick (.t 15) (.t 18) (.c (.bool false)))])
 (.cond (.t 19) (rg [oo 20 (.loadO (.sl 4) (.t 4)),
  oo 21 (.mv (.t 0)),
  oo 22 (.mv (.t 1)),
  oo 23 (.mv (.t 2)),
  oo 24 (.mv (.t 3)),
  oo 25 (.build [(.int .i64 0), (.int .i64 0), (.int .i64 0), (.int .i64 0)] [(0, (.t 21)), (1, (.t 22)), (2, (.t 23)), (3, (.t 24))]),
  oo 26 (.bslice 0 26 4 1 (.agg [(.int .i64 0), (.int .i64 0), (.int .i64 0), (.int .i64 0)]) [(0, (.t 25))]),
  oo 27 (.append false 27 4 32 (.t 20) (.t 26)),
  ⟨none, .storeM 3000 1 (.t 4) (.t 27), none⟩]) .skip))
structure G_f27 (E : Env) : Prop where
  is : Is E 500363 5 f27_ac []
theorem f27_E {E : Env} (h : G_f27 E) (xs0 : List U) (a0 : U) (a1 : U) (a2 : U) (a3 : U) : E 500363 (.agg [.tup [(.sl 4 xs0)]] :: [a0, a1, a2, a3]) =
 (U.bin .neq a0 (.int .i64 0)).bind fun t1 => U.asBool t1
 ((U.bin .neq a1 (.int .i64 0)).bind fun t2 => U.asBool t2
 ((U.bin .neq a0 a1).bind fun t3 => U.asBool t3
 (if partable (.val a0) = true ∧ a0.size = 1 then if partable (.val a1) = true ∧ a1.size = 1 then if partable (.val a2) = true ∧ a2.size = 1 then if partable (.val a3) = true ∧ a3.size = 1 then if partable (.val (.agg [a0, a1, a2, a3])) = true ∧ ((.agg [a0, a1, a2, a3]) : U).size = 4 then if 4 = 4 ∧ U.flat.flats [(.agg [a0, a1, a2, a3])] = true ∧ ((xs0).length + ([(.agg [a0, a1, a2, a3])] : List U).length) * 32 ≤ 140737488355328 then some (.tup [(.tup []), (.sl 4 (xs0 ++ [(.agg [a0, a1, a2, a3])]))]) else none else none else none else none else none else none)
 (some (.tup [(.tup []), (.sl 4 xs0)])))
 (some (.tup [(.tup []), (.sl 4 xs0)])))
 (some (.tup [(.tup []), (.sl 4 xs0)])) := (h.is _ rfl).trans ((runQ_L rfl).trans (by kernel_rfl))
def f26_b2 : AC :=
 (.seq (rg [oo 23 (.bin .lss (.t 22) (.t 21))])
 (.seq (.cond (.t 23) .skip (.exit 2))
 (.seq (.block 3 (.seq (rg [oo 24 (.iaddr 2 (.t 20) (.t 22)),
  oo 25 (.load true 2 (.t 24)),
  oo 8 (.alloc 8 (.agg [(.int .i64 0), (.int .i64 0)])),
  ⟨none, .store 2 (.t 8) (.t 25), none⟩])
 (.seq (.region 8 [oo 26 (.mv (.t 4)),
  oo 27 (.mv (.t 0)),
  oo 28 (.load true 2 (.t 8)),
  oo 29 (.call false 249 [(.t 27), (.t 28)]),
  oo 30 (.faddr 0 0 (.t 6)),
  oo 31 (.load false 1 (.t 30)),
  oo 32 (.faddr 0 0 (.t 8)),
  oo 33 (.load false 1 (.t 32)),
  oo 34 (.callL (.sl 4) 363 (.t 26) [(.t 29), (.t 31), (ci 1), (.t 33)])])
 (.region 11 [oo 35 (.mv (.t 4)),
  oo 36 (.faddr 0 0 (.t 6)),
  oo 37 (.load false 1 (.t 36)),
  oo 38 (.mv (.t 0)),
  oo 39 (.faddr 0 0 (.t 8)),
  oo 40 (.load false 1 (.t 39)),
  oo 41 (.faddr 1 1 (.t 8)),
  oo 42 (.load false 1 (.t 41)),
  oo 43 (.call false 47 [(.t 38), (.t 40), (.t 42)]),
  oo 44 (.faddr 0 0 (.t 8)),
  oo 45 (.load false 1 (.t 44)),
  oo 46 (.callL (.sl 4) 363 (.t 35) [(.t 37), (.t 43), (ci 3), (.t 45)])]))))
 (rg [oo 47 (.bin .add (.t 22) (ci 1)),
  oo 22 (.mv (.t 47))]))))
def f26_b1 : AC :=
 (.seq (rg [oo 52 (.bin .lss (.t 51) (.t 50))])
 (.seq (.cond (.t 52) .skip (.exit 4))
 (.seq (.block 5 (.seq (rg [oo 53 (.iaddr 2 (.t 49) (.t 51)),
  oo 54 (.load true 2 (.t 53)),
  oo 10 (.alloc 10 (.agg [(.int .i64 0), (.int .i64 0)])),
  ⟨none, .store 2 (.t 10) (.t 54), none⟩])
 (.region 11 [oo 55 (.mv (.t 4)),
  oo 56 (.faddr 0 0 (.t 6)),
  oo 57 (.load false 1 (.t 56)),
  oo 58 (.mv (.t 0)),
  oo 59 (.faddr 0 0 (.t 10)),
  oo 60 (.load false 1 (.t 59)),
  oo 61 (.faddr 1 1 (.t 6)),
  oo 62 (.load false 1 (.t 61)),
  oo 63 (.call false 47 [(.t 58), (.t 60), (.t 62)]),
  oo 64 (.faddr 0 0 (.t 10)),
  oo 65 (.load false 1 (.t 64)),
  oo 66 (.callL (.sl 4) 363 (.t 55) [(.t 57), (.t 63), (ci 2), (.t 65)])])))
 (rg [oo 67 (.bin .add (.t 51) (ci 1)),
  oo 51 (.mv (.t 67))]))))
def f26_r0 : AC :=
 (.seq (rg [oo 48 (.faddr 3 3 (.t 6)),
  oo 49 (.load false 1 (.t 48)),
  oo 50 (.len false (.t 49)),
  oo 51 (.mv (ci 0))])
 (.block 4 (.loop ⟨[0, 3, 4, 6, 13, 14, 15, 49, 50, 51], [], [(3, true), (6, false)]⟩ f26_b1)))
def f26_r1 : AC :=
 (rg [oo 68 (.bin .add (.t 15) (ci 1)),
  oo 15 (.mv (.t 68))])
def f26_b0 : AC :=
 (.seq (rg [oo 16 (.bin .lss (.t 15) (.t 14))])
 (.seq (.cond (.t 16) .skip (.exit 0))
 (.seq (.block 1 (.seq (rg [oo 17 (.iaddr 4 (.t 13) (.t 15)),
  oo 18 (.load true 4 (.t 17)),
  oo 6 (.alloc 6 (.agg [(.int .i64 0), (.int .i64 0), (.nsl 2), (.nsl 2)])),
  ⟨none, .store 4 (.t 6) (.t 18), none⟩])
 (.seq (.seq (rg [oo 19 (.faddr 2 2 (.t 6)),
  oo 20 (.load false 1 (.t 19)),
  oo 21 (.len false (.t 20)),
  oo 22 (.mv (ci 0))])
 (.block 2 (.loop ⟨[0, 3, 4, 6, 13, 14, 15, 20, 21, 22], [], [(3, true), (6, false)]⟩ f26_b2)))
 f26_r0)))
 f26_r1)))
def f26_r2 : AC :=
 (.seq (rg [oo 69 (.loadO (.sl 4) (.t 3)),
  oo 70 (.callM 4 362 (.t 69) [(.c (.fn 12 []))])])
 (.seq (rg [oo 71 (.loadO (.sl 4) (.t 3)),
  oo 72 (.callC 72 4 361 (.t 71) []),
  oo 2 (.mv (.t 72))])
 .ret))
def f26_ac : AC :=
 (.seq (rg [oo 2 (.mv (.c (.nsl 4)))])
 (.seq (rg [oo 11 (.bslice 2 11 4 0 (.agg [(.int .i64 0), (.int .i64 0), (.int .i64 0), (.int .i64 0)]) []),
  oo 3 (.alloc 3 (.nsl 4)),
  ⟨none, .storeM 3000 1 (.t 3) (.t 11), none⟩])
 (.seq (rg [oo 12 (.mkfn 363 [(.t 3)]),
  oo 4 (.mv (.t 12))])
 (.seq (.seq (rg [oo 13 (.mv (.t 0)),
  oo 14 (.len false (.t 13)),
  oo 15 (.mv (ci 0))])
 (.block 0 (.loop ⟨[0, 3, 4, 13, 14, 15], [], [(3, true)]⟩ f26_b0)))
 f26_r2))))
noncomputable def f26_l0 (E : Env) (x0 : U) (x13 : U) (x14 : U) (x15 : U) (b3 : List U) : Option U := loopK (roundOf E ⟨[0, 3, 4, 13, 14, 15], [], [(3, true)]⟩ f26_b0 (blockK 0 (seqK (fun s => exec E f26_r2 s (finish [(2, none)])) (finish [(2, none)])))) ([.val x0, .ptr 3 [], .fnv 363 [.ptr 3 []], .val x13, .val x14, .val x15], [.box (.own (.sl 4 b3))])
noncomputable def f26_l2 (E : Env) (x0 : U) (x13 : U) (x14 : U) (x15 : U) (x20 : U) (x21 : U) (x22 : U) (b3 : List U) (b6 : U) : Option U := loopK (roundOf E ⟨[0, 3, 4, 6, 13, 14, 15, 20, 21, 22], [], [(3, true), (6, false)]⟩ f26_b2 (blockK 2 (seqK (fun s => exec E f26_r0 s (blockK 1 (seqK (fun s => exec E f26_r1 s (roundK ⟨[0, 3, 4, 13, 14, 15], [], [(3, true)]⟩ (loopK (roundOf E ⟨[0, 3, 4, 13, 14, 15], [], [(3, true)]⟩ f26_b0 (blockK 0 (seqK (fun s => exec E f26_r2 s (finish [(2, none)])) (finish [(2, none)]))))) (blockK 0 (seqK (fun s => exec E f26_r2 s (finish [(2, none)])) (finish [(2, none)]))))) (roundK ⟨[0, 3, 4, 13, 14, 15], [], [(3, true)]⟩ (loopK (roundOf E ⟨[0, 3, 4, 13, 14, 15], [], [(3, true)]⟩ f26_b0 (blockK 0 (seqK (fun s => exec E f26_r2 s (finish [(2, none)])) (finish [(2, none)]))))) (blockK 0 (seqK (fun s => exec E f26_r2 s (finish [(2, none)])) (finish [(2, none)]))))))) (blockK 1 (seqK (fun s => exec E f26_r1 s (roundK ⟨[0, 3, 4, 13, 14, 15], [], [(3, true)]⟩ (loopK (roundOf E ⟨[0, 3, 4, 13, 14, 15], [], [(3, true)]⟩ f26_b0 (blockK 0 (seqK (fun s => exec E f26_r2 s (finish [(2, none)])) (finish [(2, none)]))))) (blockK 0 (seqK (fun s => exec E f26_r2 s (finish [(2, none)])) (finish [(2, none)]))))) (roundK ⟨[0, 3, 4, 13, 14, 15], [], [(3, true)]⟩ (loopK (roundOf E ⟨[0, 3, 4, 13, 14, 15], [], [(3, true)]⟩ f26_b0 (blockK 0 (seqK (fun s => exec E f26_r2 s (finish [(2, none)])) (finish [(2, none)]))))) (blockK 0 (seqK (fun s => exec E f26_r2 s (finish [(2, none)])) (finish [(2, none)]))))))))) ([.val x0, .ptr 3 [], .fnv 363 [.ptr 3 []], .ptr 6 [], .val x13, .val x14, .val x15, .val x20, .val x21, .val x22], [.box (.own (.sl 4 b3)), .box (.val b6)])
noncomputable def f26_l1 (E : Env) (x0 : U) (x13 : U) (x14 : U) (x15 : U) (x49 : U) (x50 : U) (x51 : U) (b3 : List U) (b6 : U) : Option U := loopK (roundOf E ⟨[0, 3, 4, 6, 13, 14, 15, 49, 50, 51], [], [(3, true), (6, false)]⟩ f26_b1 (blockK 4 (blockK 1 (seqK (fun s => exec E f26_r1 s (roundK ⟨[0, 3, 4, 13, 14, 15], [], [(3, true)]⟩ (loopK (roundOf E ⟨[0, 3, 4, 13, 14, 15], [], [(3, true)]⟩ f26_b0 (blockK 0 (seqK (fun s => exec E f26_r2 s (finish [(2, none)])) (finish [(2, none)]))))) (blockK 0 (seqK (fun s => exec E f26_r2 s (finish [(2, none)])) (finish [(2, none)]))))) (roundK ⟨[0, 3, 4, 13, 14, 15], [], [(3, true)]⟩ (loopK (roundOf E ⟨[0, 3, 4, 13, 14, 15], [], [(3, true)]⟩ f26_b0 (blockK 0 (seqK (fun s => exec E f26_r2 s (finish [(2, none)])) (finish [(2, none)]))))) (blockK 0 (seqK (fun s => exec E f26_r2 s (finish [(2, none)])) (finish [(2, none)])))))))) ([.val x0, .ptr 3 [], .fnv 363 [.ptr 3 []], .ptr 6 [], .val x13, .val x14, .val x15, .val x49, .val x50, .val x51], [.box (.own (.sl 4 b3)), .box (.val b6)])
theorem f26_l0_eq (E : Env) (x0 : U) (x13 : U) (x14 : U) (x15 : U) (b3 : List U) : f26_l0 E x0 x13 x14 x15 b3 =
 (U.bin .lss x15 x14).bind fun t2 => U.asBool t2
 (U.asInt x15 fun n3 => U.elemAt 4 x13 n3 fun e4 => U.asVar true 4 e4 fun e5 => if storable (.val e5) = true ∧ e5.size = 4 then U.asAgg e5 fun us6 => if 2 = sizes (us6.take 2) then (us6[2]?).bind fun e7 => U.asVar false 1 e7 fun e8 => (U.lenOf false e8).bind fun n9 => f26_l2 E x0 x13 x14 x15 e8 (.int .i64 (n9 : Int)) (.int .i64 0) b3 e5 else none else none)
 ((E 200362 (.agg [.tup [.sl 4 b3]] :: [(.fn 12 [])])).bind fun t10 => U.asMut 4 t10 fun y11 ys12 => U.asFlat y11 fun y11 => (E 300361 (.agg [.tup [.sl 4 ys12]] :: [])).bind fun t13 => U.asSlK 4 t13 fun us14 => some (.sl 4 us14)) :=
 (loop_eq E _ _ _ _).trans (by kernel_rfl)
theorem f26_l2_eq (E : Env) (x0 : U) (x13 : U) (x14 : U) (x15 : U) (x20 : U) (x21 : U) (x22 : U) (b3 : List U) (b6 : U) : f26_l2 E x0 x13 x14 x15 x20 x21 x22 b3 b6 =
 (U.bin .lss x22 x21).bind fun t15 => U.asBool t15
 (U.asInt x22 fun n16 => U.elemAt 2 x20 n16 fun e17 => U.asVar true 2 e17 fun e18 => if storable (.val e18) = true ∧ e18.size = 2 then U.asVar true 2 e18 fun e19 => (E 249 [x0, e19]).bind fun t20 => U.asAgg b6 fun us21 => if 0 = sizes (us21.take 0) then (us21[0]?).bind fun e22 => U.asVar false 1 e22 fun e23 => U.asAgg e18 fun us24 => if 0 = sizes (us24.take 0) then (us24[0]?).bind fun e25 => U.asVar false 1 e25 fun e26 => (E 500363 (.agg [.tup [(.sl 4 b3)]] :: [t20, e23, (.int .i64 1), e26])).bind fun t27 => U.asPtr t27 fun y28 z29 => U.asSlK 4 z29 fun us30 => U.asAgg b6 fun us31 => if 0 = sizes (us31.take 0) then (us31[0]?).bind fun e32 => U.asVar false 1 e32 fun e33 => U.asAgg e18 fun us34 => if 0 = sizes (us34.take 0) then (us34[0]?).bind fun e35 => U.asVar false 1 e35 fun e36 => U.asAgg e18 fun us37 => if 1 = sizes (us37.take 1) then (us37[1]?).bind fun e38 => U.asVar false 1 e38 fun e39 => (E 47 [x0, e36, e39]).bind fun t40 => U.asAgg e18 fun us41 => if 0 = sizes (us41.take 0) then (us41[0]?).bind fun e42 => U.asVar false 1 e42 fun e43 => (E 500363 (.agg [.tup [(.sl 4 us30)]] :: [e33, t40, (.int .i64 3), e43])).bind fun t44 => U.asPtr t44 fun y45 z46 => U.asSlK 4 z46 fun us47 => (U.bin .add x22 (.int .i64 1)).bind fun t48 => f26_l2 E x0 x13 x14 x15 x20 x21 t48 us47 b6 else none else none else none else none else none else none else none)
 (U.asAgg b6 fun us49 => if 3 = sizes (us49.take 3) then (us49[3]?).bind fun e50 => U.asVar false 1 e50 fun e51 => (U.lenOf false e51).bind fun n52 => f26_l1 E x0 x13 x14 x15 e51 (.int .i64 (n52 : Int)) (.int .i64 0) b3 b6 else none) :=
 (loop_eq E _ _ _ _).trans (by kernel_rfl)
theorem f26_l1_eq (E : Env) (x0 : U) (x13 : U) (x14 : U) (x15 : U) (x49 : U) (x50 : U) (x51 : U) (b3 : List U) (b6 : U) : f26_l1 E x0 x13 x14 x15 x49 x50 x51 b3 b6 =
 (U.bin .lss x51 x50).bind fun t53 => U.asBool t53
 (U.asInt x51 fun n54 => U.elemAt 2 x49 n54 fun e55 => U.asVar true 2 e55 fun e56 => if storable (.val e56) = true ∧ e56.size = 2 then U.asAgg b6 fun us57 => if 0 = sizes (us57.take 0) then (us57[0]?).bind fun e58 => U.asVar false 1 e58 fun e59 => U.asAgg e56 fun us60 => if 0 = sizes (us60.take 0) then (us60[0]?).bind fun e61 => U.asVar false 1 e61 fun e62 => U.asAgg b6 fun us63 => if 1 = sizes (us63.take 1) then (us63[1]?).bind fun e64 => U.asVar false 1 e64 fun e65 => (E 47 [x0, e62, e65]).bind fun t66 => U.asAgg e56 fun us67 => if 0 = sizes (us67.take 0) then (us67[0]?).bind fun e68 => U.asVar false 1 e68 fun e69 => (E 500363 (.agg [.tup [(.sl 4 b3)]] :: [e59, t66, (.int .i64 2), e69])).bind fun t70 => U.asPtr t70 fun y71 z72 => U.asSlK 4 z72 fun us73 => (U.bin .add x51 (.int .i64 1)).bind fun t74 => f26_l1 E x0 x13 x14 x15 x49 x50 t74 us73 b6 else none else none else none else none else none)
 ((U.bin .add x15 (.int .i64 1)).bind fun t75 => f26_l0 E x0 x13 x14 t75 b3) :=
 (loop_eq E _ _ _ _).trans (by kernel_rfl)
structure G_f26 (E : Env) : Prop where
  is : Is E 357 1 f26_ac [(2, none)]
  c_f24 : G_f24 E
  c_f21 : G_f21 E
  c_f20 : G_f20 E
  c_f52 : G_f52 E
  c_f27 : G_f27 E
  c_slices_SortFunc_g362 : IsSort E 362 12
theorem f26_E {E : Env} (h : G_f26 E) (a0 : U) : E 357 [a0] =
 (U.lenOf false a0).bind fun n1 => f26_l0 E a0 a0 (.int .i64 (n1 : Int)) (.int .i64 0) [] := (h.is _ rfl).trans ((runQ_V rfl).trans (by kernel_rfl))
def f4_ac : AC :=
 (.seq (rg [oo 2 (.mv (.c (.nsl 4)))])
 (.seq (.seq (rg [oo 3 (.mv (.t 0)),
  oo 4 (.call false 247 [(.t 3)]),
  oo 5 (.un .not (.t 4))])
 (.cond (.t 5) (.seq (rg [oo 2 (.mv (.c (.nsl 4)))])
 .ret) .skip))
 (.seq (rg [oo 6 (.mv (.t 0)),
  oo 7 (.call false 357 [(.t 6)]),
  oo 2 (.mv (.t 7))])
 .ret)))
structure G_f4 (E : Env) : Prop where
  is : Is E 408 1 f4_ac [(2, none)]
  c_f18 : G_f18 E
  c_f26 : G_f26 E
theorem f4_E {E : Env} (h : G_f4 E) (a0 : U) : E 408 [a0] =
 (E 247 [a0]).bind fun t1 => (U.un .not t1).bind fun t2 => U.asBool t2
 (some (.nsl 4))
 ((E 357 [a0]).bind fun t3 => some t3) := (h.is _ rfl).trans ((runQ_V rfl).trans (by kernel_rfl))
def f61_b0 : AC :=
 (.seq (rg [oo 9 (.bin .lss (.t 8) (.t 7))])
 (.seq (.cond (.t 9) .skip (.exit 0))
 (.seq (.block 1 (.seq (rg [oo 10 (.mv (.t 8)),
  oo 5 (.mv (.t 10))])
 (.seq (rg [oo 11 (.mv (.t 1)),
  oo 12 (.mv (.t 0)),
  oo 13 (.mv (.t 5)),
  oo 14 (.iaddr 1 (.t 12) (.t 13)),
  oo 15 (.load false 1 (.t 14)),
  oo 16 (.bin .eql (.t 11) (.t 15))])
 (.cond (.t 16) (.seq (rg [oo 17 (.mv (.t 5)),
  oo 4 (.mv (.t 17))])
 .ret) .skip))))
 (rg [oo 18 (.bin .add (.t 8) (ci 1)),
  oo 8 (.mv (.t 18))]))))
def f61_r0 : AC :=
 (.seq (rg [oo 4 (.mv (ci (-1)))])
 .ret)
def f61_ac : AC :=
 (.seq (rg [oo 4 (.mv (ci 0))])
 (.seq (.seq (rg [oo 6 (.mv (.t 0)),
  oo 7 (.len false (.t 6)),
  oo 8 (.mv (ci 0))])
 (.block 0 (.loop ⟨[0, 1, 7, 8], [], []⟩ f61_b0)))
 f61_r0))
noncomputable def f61_l0 (E : Env) (x0 : U) (x1 : U) (x7 : U) (x8 : U) : Option U := loopK (roundOf E ⟨[0, 1, 7, 8], [], []⟩ f61_b0 (blockK 0 (seqK (fun s => exec E f61_r0 s (finish [(4, none)])) (finish [(4, none)])))) ([.val x0, .val x1, .val x7, .val x8], [])
theorem f61_l0_eq (E : Env) (x0 : U) (x1 : U) (x7 : U) (x8 : U) : f61_l0 E x0 x1 x7 x8 =
 (U.bin .lss x8 x7).bind fun t2 => U.asBool t2
 (U.asInt x8 fun n3 => U.elemAt 1 x0 n3 fun e4 => U.asVar false 1 e4 fun e5 => (U.bin .eql x1 e5).bind fun t6 => U.asBool t6
 (some x8)
 ((U.bin .add x8 (.int .i64 1)).bind fun t7 => f61_l0 E x0 x1 x7 t7))
 (some (.int .i64 (-1))) :=
 (loop_eq E _ _ _ _).trans (by kernel_rfl)
structure G_f61 (E : Env) : Prop where
  is : Is E 43 2 f61_ac [(4, none)]
theorem f61_E {E : Env} (h : G_f61 E) (a0 a1 : U) : E 43 [a0, a1] =
 (U.lenOf false a0).bind fun n1 => f61_l0 E a0 a1 (.int .i64 (n1 : Int)) (.int .i64 0) := (h.is _ rfl).trans ((runQ_V rfl).trans (by kernel_rfl))
def f56_ac : AC :=
 (.seq (rg [oo 4 (.mv (.c (.bool false)))])
 (.seq (rg [oo 5 (.mv (.t 0)),
  oo 6 (.mv (.t 1)),
  oo 7 (.call false 43 [(.t 5), (.t 6)]),
  oo 8 (.bin .geq (.t 7) (ci 0)),
  oo 4 (.mv (.t 8))])
 .ret))
structure G_f56 (E : Env) : Prop where
  is : Is E 42 2 f56_ac [(4, none)]
  c_f61 : G_f61 E
theorem f56_E {E : Env} (h : G_f56 E) (a0 a1 : U) : E 42 [a0, a1] =
 (E 43 [a0, a1]).bind fun t1 => (U.bin .geq t1 (.int .i64 0)).bind fun t2 => some t2 := (h.is _ rfl).trans ((runQ_V rfl).trans (by kernel_rfl))
def f3_b0 : AC :=
 (.seq (rg [oo 8 (.bin .lss (.t 7) (.t 6))])
 (.seq (.cond (.t 8) .skip (.exit 0))
 (.seq (.block 1 (.seq (rg [oo 9 (.mv (.t 7)),
  oo 10 (.iaddr 4 (.t 5) (.t 7)),
  oo 11 (.load true 4 (.t 10)),
  oo 4 (.alloc 4 (.agg [(.int .i64 0), (.int .i64 0), (.int .i64 0), (.int .i64 0)])),
  oo 3 (.mv (.t 9)),
  ⟨none, .store 4 (.t 4) (.t 11), none⟩])
 (.seq (.region 43 [oo 12 (.faddr 0 0 (.t 4)),
  oo 13 (.load false 1 (.t 12)),
  oo 14 (.call false 9 [(.t 13)]),
  oo 15 (.un .not (.t 14)),
  oo 16 (.mv (.t 15)),
  ⟨some 17, .faddr 1 1 (.t 4), some (16, false)⟩,
  ⟨some 18, .load false 1 (.t 17), some (16, false)⟩,
  ⟨some 19, .call false 9 [(.t 18)], some (16, false)⟩,
  ⟨some 20, .un .not (.t 19), some (16, false)⟩,
  oo 21 (.pick (.t 16) (.c (.bool true)) (.t 20)),
  oo 22 (.mv (.t 21)),
  ⟨some 23, .faddr 0 0 (.t 4), some (22, false)⟩,
  ⟨some 24, .load false 1 (.t 23), some (22, false)⟩,
  ⟨some 25, .faddr 1 1 (.t 4), some (22, false)⟩,
  ⟨some 26, .load false 1 (.t 25), some (22, false)⟩,
  ⟨some 27, .bin .eql (.t 24) (.t 26), some (22, false)⟩,
  oo 28 (.pick (.t 22) (.c (.bool true)) (.t 27)),
  oo 29 (.mv (.t 28)),
  ⟨some 30, .faddr 2 2 (.t 4), some (29, false)⟩,
  ⟨some 31, .load false 1 (.t 30), some (29, false)⟩,
  ⟨some 32, .call false 10 [(.t 31), (ci 1), (ci 3)], some (29, false)⟩,
  ⟨some 33, .un .not (.t 32), some (29, false)⟩,
  oo 34 (.pick (.t 29) (.c (.bool true)) (.t 33)),
  oo 35 (.mv (.t 34)),
  ⟨some 36, .faddr 3 3 (.t 4), some (35, false)⟩,
  ⟨some 37, .load false 1 (.t 36), some (35, false)⟩,
  ⟨some 38, .call false 11 [(.t 37)], some (35, false)⟩,
  ⟨some 39, .un .not (.t 38), some (35, false)⟩,
  oo 40 (.pick (.t 35) (.c (.bool true)) (.t 39)),
  oo 41 (.mv (.t 40)),
  ⟨some 42, .mv (.t 3), some (41, false)⟩,
  ⟨some 43, .bin .gtr (.t 42) (ci 0), some (41, false)⟩,
  ⟨some 44, .mv (.t 43), some (41, false)⟩,
  ⟨some 45, .mv (.t 0), some (44, true)⟩,
  ⟨some 46, .mv (.t 3), some (44, true)⟩,
  ⟨some 47, .bin .sub (.t 46) (ci 1), some (44, true)⟩,
  ⟨some 48, .iaddr 4 (.t 45) (.t 47), some (44, true)⟩,
  ⟨some 49, .load true 4 (.t 48), some (44, true)⟩,
  ⟨some 50, .load true 4 (.t 4), some (44, true)⟩,
  ⟨some 51, .call false 12 [(.t 49), (.t 50)], some (44, true)⟩,
  ⟨some 52, .bin .geq (.t 51) (ci 0), some (44, true)⟩,
  ⟨some 53, .pick (.t 44) (.t 52) (.c (.bool false)), some (41, false)⟩,
  oo 54 (.pick (.t 41) (.c (.bool true)) (.t 53))])
 (.cond (.t 54) (.seq (rg [oo 2 (.mv (.c (.bool false)))])
 .ret) .skip))))
 (rg [oo 55 (.bin .add (.t 7) (ci 1)),
  oo 7 (.mv (.t 55))]))))
def f3_r0 : AC :=
 (.seq (rg [oo 2 (.mv (.c (.bool true)))])
 .ret)
def f3_ac : AC :=
 (.seq (rg [oo 2 (.mv (.c (.bool false)))])
 (.seq (.seq (rg [oo 5 (.mv (.t 0)),
  oo 6 (.len false (.t 5)),
  oo 7 (.mv (ci 0))])
 (.block 0 (.loop ⟨[0, 5, 6, 7], [], []⟩ f3_b0)))
 f3_r0))
noncomputable def f3_l0 (E : Env) (x0 : U) (x5 : U) (x6 : U) (x7 : U) : Option U := loopK (roundOf E ⟨[0, 5, 6, 7], [], []⟩ f3_b0 (blockK 0 (seqK (fun s => exec E f3_r0 s (finish [(2, none)])) (finish [(2, none)])))) ([.val x0, .val x5, .val x6, .val x7], [])
theorem f3_l0_eq (E : Env) (x0 : U) (x5 : U) (x6 : U) (x7 : U) : f3_l0 E x0 x5 x6 x7 =
 (U.bin .lss x7 x6).bind fun t2 => U.asBool t2
 (U.asInt x7 fun n3 => U.elemAt 4 x5 n3 fun e4 => U.asVar true 4 e4 fun e5 => if storable (.val e5) = true ∧ e5.size = 4 then U.asAgg e5 fun us6 => if 0 = sizes (us6.take 0) then (us6[0]?).bind fun e7 => U.asVar false 1 e7 fun e8 => (E 9 [e8]).bind fun t9 => (U.un .not t9).bind fun t10 => U.asBool t10
 (some (.bool false))
 (U.asAgg e5 fun us11 => if 1 = sizes (us11.take 1) then (us11[1]?).bind fun e12 => U.asVar false 1 e12 fun e13 => (E 9 [e13]).bind fun t14 => (U.un .not t14).bind fun t15 => U.asBool t15
 (some (.bool false))
 (U.asAgg e5 fun us16 => if 0 = sizes (us16.take 0) then (us16[0]?).bind fun e17 => U.asVar false 1 e17 fun e18 => U.asAgg e5 fun us19 => if 1 = sizes (us19.take 1) then (us19[1]?).bind fun e20 => U.asVar false 1 e20 fun e21 => (U.bin .eql e18 e21).bind fun t22 => U.asBool t22
 (some (.bool false))
 (U.asAgg e5 fun us23 => if 2 = sizes (us23.take 2) then (us23[2]?).bind fun e24 => U.asVar false 1 e24 fun e25 => (E 10 [e25, (.int .i64 1), (.int .i64 3)]).bind fun t26 => (U.un .not t26).bind fun t27 => U.asBool t27
 (some (.bool false))
 (U.asAgg e5 fun us28 => if 3 = sizes (us28.take 3) then (us28[3]?).bind fun e29 => U.asVar false 1 e29 fun e30 => (E 11 [e30]).bind fun t31 => (U.un .not t31).bind fun t32 => U.asBool t32
 (some (.bool false))
 ((U.bin .gtr x7 (.int .i64 0)).bind fun t33 => U.asBool t33
 ((U.bin .sub x7 (.int .i64 1)).bind fun t34 => U.asInt t34 fun n35 => U.elemAt 4 x0 n35 fun e36 => U.asVar true 4 e36 fun e37 => U.asVar true 4 e5 fun e38 => (E 12 [e37, e38]).bind fun t39 => (U.bin .geq t39 (.int .i64 0)).bind fun t40 => U.asBool t40
 (some (.bool false))
 ((U.bin .add x7 (.int .i64 1)).bind fun t41 => f3_l0 E x0 x5 x6 t41))
 ((U.bin .add x7 (.int .i64 1)).bind fun t42 => f3_l0 E x0 x5 x6 t42)) else none) else none) else none else none) else none) else none else none)
 (some (.bool true)) :=
 (loop_eq E _ _ _ _).trans (by kernel_rfl)
structure G_f3 (E : Env) : Prop where
  is : Is E 3 1 f3_ac [(2, none)]
  c_f28 : G_f28 E
  c_f30 : G_f30 E
  c_f31 : G_f31 E
  c_f24 : G_f24 E
theorem f3_E {E : Env} (h : G_f3 E) (a0 : U) : E 3 [a0] =
 (U.lenOf false a0).bind fun n1 => f3_l0 E a0 a0 (.int .i64 (n1 : Int)) (.int .i64 0) := (h.is _ rfl).trans ((runQ_V rfl).trans (by kernel_rfl))
def f60_b0 : AC :=
 (.seq (rg [oo 9 (.bin .lss (.t 8) (.t 7))])
 (.seq (.cond (.t 9) .skip (.exit 0))
 (.seq (.block 1 (.seq (rg [oo 10 (.mv (.t 8)),
  oo 5 (.mv (.t 10))])
 (.seq (rg [oo 11 (.mv (.t 1)),
  oo 12 (.mv (.t 0)),
  oo 13 (.mv (.t 5)),
  oo 14 (.iaddr 4 (.t 12) (.t 13)),
  oo 15 (.load true 4 (.t 14)),
  oo 16 (.callv false (.t 11) [(.t 15)])])
 (.cond (.t 16) (.seq (rg [oo 17 (.mv (.t 5)),
  oo 4 (.mv (.t 17))])
 .ret) .skip))))
 (rg [oo 18 (.bin .add (.t 8) (ci 1)),
  oo 8 (.mv (.t 18))]))))
def f60_r0 : AC :=
 (.seq (rg [oo 4 (.mv (ci (-1)))])
 .ret)
def f60_ac : AC :=
 (.seq (rg [oo 4 (.mv (ci 0))])
 (.seq (.seq (rg [oo 6 (.mv (.t 0)),
  oo 7 (.len false (.t 6)),
  oo 8 (.mv (ci 0))])
 (.block 0 (.loop ⟨[0, 1, 7, 8], [], []⟩ f60_b0)))
 f60_r0))
noncomputable def f60_l0 (E : Env) (x0 : U) (x1 : U) (x7 : U) (x8 : U) : Option U := loopK (roundOf E ⟨[0, 1, 7, 8], [], []⟩ f60_b0 (blockK 0 (seqK (fun s => exec E f60_r0 s (finish [(4, none)])) (finish [(4, none)])))) ([.val x0, .val x1, .val x7, .val x8], [])
theorem f60_l0_eq (E : Env) (x0 : U) (x1 : U) (x7 : U) (x8 : U) : f60_l0 E x0 x1 x7 x8 =
 (U.bin .lss x8 x7).bind fun t2 => U.asBool t2
 (U.asInt x8 fun n3 => U.elemAt 4 x0 n3 fun e4 => U.asVar true 4 e4 fun e5 => U.asFn x1 fun r6 caps7 => (E r6 ([e5] ++ caps7)).bind fun t8 => U.asBool t8
 (some x8)
 ((U.bin .add x8 (.int .i64 1)).bind fun t9 => f60_l0 E x0 x1 x7 t9))
 (some (.int .i64 (-1))) :=
 (loop_eq E _ _ _ _).trans (by kernel_rfl)
structure G_f60 (E : Env) : Prop where
  is : Is E 66 2 f60_ac [(4, none)]
theorem f60_E {E : Env} (h : G_f60 E) (a0 a1 : U) : E 66 [a0, a1] =
 (U.lenOf false a0).bind fun n1 => f60_l0 E a0 a1 (.int .i64 (n1 : Int)) (.int .i64 0) := (h.is _ rfl).trans ((runQ_V rfl).trans (by kernel_rfl))
end Go.Proofs.Ytlgblpngiamhaaa.Am
