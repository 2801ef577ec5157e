import Derived.KernelRfl
import Derived.Test.YtpbogagoflpdfaaAmW
import Derived.Test.YtpbogagoflpdfaaAmCl
import Derived.Test.YtpbogagoflpdfaaAmX
import Derived.Test.YtpbogagoflpdfaaAmIg
namespace Go.Proofs.Ytpbogagoflpdfaa.Am
open Go
set_option linter.unusedVariables false
set_option maxRecDepth 100000
def f44_ac : AC :=
 (.seq (rg [oo 4 (.mv (ci 0))])
 (.seq (rg [oo 5 (.mv (.t 1)),
  oo 6 (.mv (.t 0)),
  oo 7 (.len false (.t 6)),
  oo 8 (.bin .sub (.t 5) (.t 7)),
  oo 1 (.mv (.t 8))])
 (.seq (.seq (rg [oo 9 (.mv (.t 1)),
  oo 10 (.bin .lss (.t 9) (ci 0))])
 (.cond (.t 10) (.seq (rg [oo 4 (.mv (ci (-1)))])
 .ret) .skip))
 (.seq (rg [oo 11 (.mv (.t 1)),
  oo 4 (.mv (.t 11))])
 .ret))))
structure G_f44 (E : Env) : Prop where
  is : Is E 101 2 f44_ac [(4, none)]
theorem f44_E {E : Env} (h : G_f44 E) (a0 a1 : U) : E 101 [a0, a1] =
 (U.lenOf false a0).bind fun n1 => (U.bin .sub a1 (.int .i64 (n1 : Int))).bind fun t2 => (U.bin .lss t2 (.int .i64 0)).bind fun t3 => U.asBool t3
 (some (.int .i64 (-1)))
 (some t2) := (h.is _ rfl).trans ((runQ_V rfl).trans (by kernel_rfl))
def f45_b0 : AC :=
 (.seq (.seq (rg [oo 12 (.mv (.t 5)),
  oo 13 (.mv (.t 0)),
  oo 14 (.len false (.t 13)),
  oo 15 (.bin .lss (.t 12) (.t 14))])
 (.cond (.t 15) .skip (.exit 0)))
 (.seq (.block 1 (.seq (rg [oo 18 (.mv (.t 0)),
  oo 19 (.mv (.t 5)),
  oo 20 (.iaddr 1 (.t 18) (.t 19)),
  oo 21 (.load false 1 (.t 20)),
  oo 22 (.mv (.t 1)),
  oo 23 (.call false 101 [(.t 21), (.t 22)]),
  oo 1 (.mv (.t 23))])
 (.seq (rg [oo 24 (.mv (.t 1)),
  oo 25 (.bin .lss (.t 24) (ci 0))])
 (.cond (.t 25) (.seq (rg [oo 4 (.mv (ci (-1)))])
 .ret) .skip))))
 (rg [oo 16 (.mv (.t 5)),
  oo 17 (.bin .add (.t 16) (ci 1)),
  oo 5 (.mv (.t 17))])))
def f45_r0 : AC :=
 (.seq (rg [oo 26 (.mv (.t 1)),
  oo 4 (.mv (.t 26))])
 .ret)
def f45_ac : AC :=
 (.seq (rg [oo 4 (.mv (ci 0))])
 (.seq (rg [oo 6 (.mv (.t 1)),
  oo 7 (.mv (.t 0)),
  oo 8 (.len false (.t 7)),
  oo 9 (.bin .sub (.t 6) (.t 8)),
  oo 1 (.mv (.t 9))])
 (.seq (.seq (rg [oo 10 (.mv (.t 1)),
  oo 11 (.bin .lss (.t 10) (ci 0))])
 (.cond (.t 11) (.seq (rg [oo 4 (.mv (ci (-1)))])
 .ret) .skip))
 (.seq (.seq (rg [oo 5 (.mv (ci 0))])
 (.block 0 (.loop ⟨[0, 1, 5], [], []⟩ f45_b0)))
 f45_r0))))
noncomputable def f45_l0 (E : Env) (x0 : U) (x1 : U) (x5 : U) : Option U := loopK (roundOf E ⟨[0, 1, 5], [], []⟩ f45_b0 (blockK 0 (seqK (fun s => exec E f45_r0 s (finish [(4, none)])) (finish [(4, none)])))) ([.val x0, .val x1, .val x5], [])
theorem f45_l0_eq (E : Env) (x0 : U) (x1 : U) (x5 : U) : f45_l0 E x0 x1 x5 =
 (U.lenOf false x0).bind fun n4 => (U.bin .lss x5 (.int .i64 (n4 : Int))).bind fun t5 => U.asBool t5
 (U.asInt x5 fun n6 => U.elemAt 1 x0 n6 fun e7 => U.asVar false 1 e7 fun e8 => (E 101 [e8, x1]).bind fun t9 => (U.bin .lss t9 (.int .i64 0)).bind fun t10 => U.asBool t10
 (some (.int .i64 (-1)))
 ((U.bin .add x5 (.int .i64 1)).bind fun t11 => f45_l0 E x0 t9 t11))
 (some x1) :=
 (loop_eq E _ _ _ _).trans (by kernel_rfl)
structure G_f45 (E : Env) : Prop where
  is : Is E 100 2 f45_ac [(4, none)]
  c_f44 : G_f44 E
theorem f45_E {E : Env} (h : G_f45 E) (a0 a1 : U) : E 100 [a0, a1] =
 (U.lenOf false a0).bind fun n1 => (U.bin .sub a1 (.int .i64 (n1 : Int))).bind fun t2 => (U.bin .lss t2 (.int .i64 0)).bind fun t3 => U.asBool t3
 (some (.int .i64 (-1)))
 (f45_l0 E a0 t2 (.int .i64 0)) := (h.is _ rfl).trans ((runQ_V rfl).trans (by kernel_rfl))
def f42_ac : AC :=
 (.seq (rg [oo 2 (.box false 2 (.t 0)),
  oo 4 (.mv (ci 0))])
 (.seq (rg [oo 5 (.faddr 0 0 (.t 2)),
  oo 6 (.load false 1 (.t 5)),
  oo 7 (.mv (.t 1)),
  oo 8 (.call false 100 [(.t 6), (.t 7)]),
  oo 1 (.mv (.t 8))])
 (.seq (.seq (rg [oo 9 (.mv (.t 1)),
  oo 10 (.bin .lss (.t 9) (ci 0))])
 (.cond (.t 10) (.seq (rg [oo 4 (.mv (ci (-1)))])
 .ret) .skip))
 (.seq (rg [oo 11 (.mv (.t 1)),
  oo 4 (.mv (.t 11))])
 .ret))))
structure G_f42 (E : Env) : Prop where
  is : Is E 99 2 f42_ac [(4, none)]
  c_f45 : G_f45 E
theorem f42_E {E : Env} (h : G_f42 E) (a0 a1 : U) : E 99 [a0, a1] =
 U.noTup a0 fun x1 => U.asAgg x1 fun us2 => if 0 = sizes (us2.take 0) then (us2[0]?).bind fun e3 => U.asVar false 1 e3 fun e4 => (E 100 [e4, a1]).bind fun t5 => (U.bin .lss t5 (.int .i64 0)).bind fun t6 => U.asBool t6
 (some (.int .i64 (-1)))
 (some t5) else none := (h.is _ rfl).trans ((runQ_V rfl).trans (by kernel_rfl))
def f41_ac : AC :=
 (.seq (rg [oo 4 (.mv (ci 0))])
 (.seq (rg [oo 5 (.mv (.t 1)),
  oo 6 (.mv (.t 0)),
  oo 7 (.len false (.t 6)),
  oo 8 (.bin .sub (.t 5) (.t 7)),
  oo 1 (.mv (.t 8))])
 (.seq (.seq (rg [oo 9 (.mv (.t 1)),
  oo 10 (.bin .lss (.t 9) (ci 0))])
 (.cond (.t 10) (.seq (rg [oo 4 (.mv (ci (-1)))])
 .ret) .skip))
 (.seq (rg [oo 11 (.mv (.t 1)),
  oo 4 (.mv (.t 11))])
 .ret))))
structure G_f41 (E : Env) : Prop where
  is : Is E 24 2 f41_ac [(4, none)]
theorem f41_E {E : Env} (h : G_f41 E) (a0 a1 : U) : E 24 [a0, a1] =
 (U.lenOf false a0).bind fun n1 => (U.bin .sub a1 (.int .i64 (n1 : Int))).bind fun t2 => (U.bin .lss t2 (.int .i64 0)).bind fun t3 => U.asBool t3
 (some (.int .i64 (-1)))
 (some t2) := (h.is _ rfl).trans ((runQ_V rfl).trans (by kernel_rfl))
def f46_ac : AC :=
 (.seq (rg [oo 4 (.mv (ci 0))])
 (.seq (rg [oo 5 (.mv (.t 1)),
  oo 6 (.mv (.t 0)),
  oo 7 (.len false (.t 6)),
  oo 8 (.bin .sub (.t 5) (.t 7)),
  oo 1 (.mv (.t 8))])
 (.seq (.seq (rg [oo 9 (.mv (.t 1)),
  oo 10 (.bin .lss (.t 9) (ci 0))])
 (.cond (.t 10) (.seq (rg [oo 4 (.mv (ci (-1)))])
 .ret) .skip))
 (.seq (rg [oo 11 (.mv (.t 1)),
  oo 4 (.mv (.t 11))])
 .ret))))
structure G_f46 (E : Env) : Prop where
  is : Is E 23 2 f46_ac [(4, none)]
theorem f46_E {E : Env} (h : G_f46 E) (a0 a1 : U) : E 23 [a0, a1] =
 (U.lenOf false a0).bind fun n1 => (U.bin .sub a1 (.int .i64 (n1 : Int))).bind fun t2 => (U.bin .lss t2 (.int .i64 0)).bind fun t3 => U.asBool t3
 (some (.int .i64 (-1)))
 (some t2) := (h.is _ rfl).trans ((runQ_V rfl).trans (by kernel_rfl))
def f43_ac : AC :=
 (.seq (rg [oo 2 (.box false 2 (.t 0)),
  oo 4 (.mv (ci 0))])
 (.seq (rg [oo 5 (.faddr 7 7 (.t 2)),
  oo 6 (.load false 1 (.t 5)),
  oo 7 (.mv (.t 1)),
  oo 8 (.call false 24 [(.t 6), (.t 7)]),
  oo 1 (.mv (.t 8))])
 (.seq (.seq (rg [oo 9 (.mv (.t 1)),
  oo 10 (.bin .lss (.t 9) (ci 0))])
 (.cond (.t 10) (.seq (rg [oo 4 (.mv (ci (-1)))])
 .ret) .skip))
 (.seq (rg [oo 11 (.faddr 8 8 (.t 2)),
  oo 12 (.load false 1 (.t 11)),
  oo 13 (.mv (.t 1)),
  oo 14 (.call false 23 [(.t 12), (.t 13)]),
  oo 1 (.mv (.t 14))])
 (.seq (.seq (rg [oo 15 (.mv (.t 1)),
  oo 16 (.bin .lss (.t 15) (ci 0))])
 (.cond (.t 16) (.seq (rg [oo 4 (.mv (ci (-1)))])
 .ret) .skip))
 (.seq (rg [oo 17 (.mv (.t 1)),
  oo 4 (.mv (.t 17))])
 .ret))))))
structure G_f43 (E : Env) : Prop where
  is : Is E 132 2 f43_ac [(4, none)]
  c_f41 : G_f41 E
  c_f46 : G_f46 E
theorem f43_E {E : Env} (h : G_f43 E) (a0 a1 : U) : E 132 [a0, a1] =
 U.noTup a0 fun x1 => U.asAgg x1 fun us2 => if 7 = sizes (us2.take 7) then (us2[7]?).bind fun e3 => U.asVar false 1 e3 fun e4 => (E 24 [e4, a1]).bind fun t5 => (U.bin .lss t5 (.int .i64 0)).bind fun t6 => U.asBool t6
 (some (.int .i64 (-1)))
 (U.asAgg x1 fun us7 => if 8 = sizes (us7.take 8) then (us7[8]?).bind fun e8 => U.asVar false 1 e8 fun e9 => (E 23 [e9, t5]).bind fun t10 => (U.bin .lss t10 (.int .i64 0)).bind fun t11 => U.asBool t11
 (some (.int .i64 (-1)))
 (some t10) else none) else none := (h.is _ rfl).trans ((runQ_V rfl).trans (by kernel_rfl))
def f73_ac : AC :=
 (.seq (rg [oo 6 (.mv (.c (.bool false)))])
 (.seq (rg [oo 7 (.mv (.t 0)),
  oo 8 (.mv (.t 1)),
  oo 9 (.bin .geq (.t 7) (.t 8)),
  oo 10 (.mv (.t 9)),
  ⟨some 11, .mv (.t 0), some (10, true)⟩,
  ⟨some 12, .mv (.t 2), some (10, true)⟩,
  ⟨some 13, .bin .leq (.t 11) (.t 12), some (10, true)⟩,
  oo 14 (.pick (.t 10) (.t 13) (.c (.bool false))),
  oo 6 (.mv (.t 14))])
 .ret))
structure G_f73 (E : Env) : Prop where
  is : Is E 6 3 f73_ac [(6, none)]
theorem f73_E {E : Env} (h : G_f73 E) (a0 a1 a2 : U) : E 6 [a0, a1, a2] =
 (U.bin .geq a0 a1).bind fun t1 => U.asBool t1
 ((U.bin .leq a0 a2).bind fun t2 => some t2)
 (some (.bool false)) := (h.is _ rfl).trans ((runQ_V rfl).trans (by kernel_rfl))
def f70_ac : AC :=
 (.seq (rg [oo 1 (.box false 1 (.t 0)),
  oo 2 (.mv (.c (.bool false)))])
 (.seq (.seq (rg [oo 3 (.faddr 1 1 (.t 1)),
  oo 4 (.load false 1 (.t 3)),
  oo 5 (.call false 6 [(.t 4), (ci (-1)), (ci 99)]),
  oo 6 (.un .not (.t 5)),
  oo 7 (.mv (.t 6)),
  ⟨some 8, .faddr 2 2 (.t 1), some (7, false)⟩,
  ⟨some 9, .load false 1 (.t 8), some (7, false)⟩,
  ⟨some 10, .call false 6 [(.t 9), (ci 0), (ci 999)], some (7, false)⟩,
  ⟨some 11, .un .not (.t 10), some (7, false)⟩,
  oo 12 (.pick (.t 7) (.c (.bool true)) (.t 11)),
  oo 13 (.mv (.t 12)),
  ⟨some 14, .faddr 3 3 (.t 1), some (13, false)⟩,
  ⟨some 15, .load false 1 (.t 14), some (13, false)⟩,
  ⟨some 16, .faddr 2 2 (.t 1), some (13, false)⟩,
  ⟨some 17, .load false 1 (.t 16), some (13, false)⟩,
  ⟨some 18, .call false 6 [(.t 15), (.t 17), (ci 999)], some (13, false)⟩,
  ⟨some 19, .un .not (.t 18), some (13, false)⟩,
  oo 20 (.pick (.t 13) (.c (.bool true)) (.t 19)),
  oo 21 (.mv (.t 20)),
  ⟨some 22, .faddr 4 4 (.t 1), some (21, false)⟩,
  ⟨some 23, .load false 1 (.t 22), some (21, false)⟩,
  ⟨some 24, .call false 6 [(.t 23), (ci 1), (ci 1000)], some (21, false)⟩,
  ⟨some 25, .un .not (.t 24), some (21, false)⟩,
  oo 26 (.pick (.t 21) (.c (.bool true)) (.t 25))])
 (.cond (.t 26) (.seq (rg [oo 2 (.mv (.c (.bool false)))])
 .ret) .skip))
 (.seq (.seq (rg [oo 27 (.faddr 2 2 (.t 1)),
  oo 28 (.load false 1 (.t 27)),
  oo 29 (.bin .eql (.t 28) (ci 0))])
 (.cond (.t 29) (.seq (rg [oo 30 (.faddr 0 0 (.t 1)),
  oo 31 (.load false 1 (.t 30)),
  oo 32 (.bin .eql (.t 31) (ci 0)),
  oo 33 (.mv (.t 32)),
  ⟨some 34, .faddr 1 1 (.t 1), some (33, true)⟩,
  ⟨some 35, .load false 1 (.t 34), some (33, true)⟩,
  ⟨some 36, .bin .eql (.t 35) (ci (-1)), some (33, true)⟩,
  oo 37 (.pick (.t 33) (.t 36) (.c (.bool false))),
  oo 2 (.mv (.t 37))])
 .ret) .skip))
 (.seq (rg [oo 38 (.faddr 0 0 (.t 1)),
  oo 39 (.load false 1 (.t 38)),
  oo 40 (.call false 6 [(.t 39), (ci 1), (ci 9)]),
  oo 2 (.mv (.t 40))])
 .ret))))
structure G_f70 (E : Env) : Prop where
  is : Is E 105 1 f70_ac [(2, none)]
  c_f73 : G_f73 E
theorem f70_E {E : Env} (h : G_f70 E) (a0 : U) : E 105 [a0] =
 U.noTup a0 fun x1 => U.asAgg x1 fun us2 => if 1 = sizes (us2.take 1) then (us2[1]?).bind fun e3 => U.asVar false 1 e3 fun e4 => (E 6 [e4, (.int .i64 (-1)), (.int .i64 99)]).bind fun t5 => (U.un .not t5).bind fun t6 => U.asBool t6
 (some (.bool false))
 (U.asAgg x1 fun us7 => if 2 = sizes (us7.take 2) then (us7[2]?).bind fun e8 => U.asVar false 1 e8 fun e9 => (E 6 [e9, (.int .i64 0), (.int .i64 999)]).bind fun t10 => (U.un .not t10).bind fun t11 => U.asBool t11
 (some (.bool false))
 (U.asAgg x1 fun us12 => if 3 = sizes (us12.take 3) then (us12[3]?).bind fun e13 => U.asVar false 1 e13 fun e14 => U.asAgg x1 fun us15 => if 2 = sizes (us15.take 2) then (us15[2]?).bind fun e16 => U.asVar false 1 e16 fun e17 => (E 6 [e14, e17, (.int .i64 999)]).bind fun t18 => (U.un .not t18).bind fun t19 => U.asBool t19
 (some (.bool false))
 (U.asAgg x1 fun us20 => if 4 = sizes (us20.take 4) then (us20[4]?).bind fun e21 => U.asVar false 1 e21 fun e22 => (E 6 [e22, (.int .i64 1), (.int .i64 1000)]).bind fun t23 => (U.un .not t23).bind fun t24 => U.asBool t24
 (some (.bool false))
 (U.asAgg x1 fun us25 => if 2 = sizes (us25.take 2) then (us25[2]?).bind fun e26 => U.asVar false 1 e26 fun e27 => (U.bin .eql e27 (.int .i64 0)).bind fun t28 => U.asBool t28
 (U.asAgg x1 fun us29 => if 0 = sizes (us29.take 0) then (us29[0]?).bind fun e30 => U.asVar false 1 e30 fun e31 => (U.bin .eql e31 (.int .i64 0)).bind fun t32 => U.asBool t32
 (U.asAgg x1 fun us33 => if 1 = sizes (us33.take 1) then (us33[1]?).bind fun e34 => U.asVar false 1 e34 fun e35 => (U.bin .eql e35 (.int .i64 (-1))).bind fun t36 => some t36 else none)
 (some (.bool false)) else none)
 (U.asAgg x1 fun us37 => if 0 = sizes (us37.take 0) then (us37[0]?).bind fun e38 => U.asVar false 1 e38 fun e39 => (E 6 [e39, (.int .i64 1), (.int .i64 9)]).bind fun t40 => some t40 else none) else none) else none) else none else none) else none) else none := (h.is _ rfl).trans ((runQ_V rfl).trans (by kernel_rfl))
def f67_b0 : AC :=
 (.seq (.seq (rg [oo 4 (.mv (.t 3)),
  oo 5 (.mv (.t 0)),
  oo 6 (.len false (.t 5)),
  oo 7 (.bin .lss (.t 4) (.t 6))])
 (.cond (.t 7) .skip (.exit 0)))
 (.seq (.block 1 (.seq (.seq (rg [oo 10 (.mv (.t 0)),
  oo 11 (.mv (.t 3)),
  oo 12 (.iaddr 5 (.t 10) (.t 11)),
  oo 13 (.load true 5 (.t 12)),
  oo 14 (.call false 105 [(.t 13)]),
  oo 15 (.un .not (.t 14))])
 (.cond (.t 15) (.seq (rg [oo 2 (.mv (.c (.bool false)))])
 .ret) .skip))
 (.seq (.region 33 [oo 16 (.mv (.t 3)),
  oo 17 (.bin .add (.t 16) (ci 1)),
  oo 18 (.mv (.t 0)),
  oo 19 (.len false (.t 18)),
  oo 20 (.bin .lss (.t 17) (.t 19)),
  oo 21 (.mv (.t 20)),
  ⟨some 22, .mv (.t 0), some (21, true)⟩,
  ⟨some 23, .mv (.t 3), some (21, true)⟩,
  ⟨some 24, .iaddr 5 (.t 22) (.t 23), some (21, true)⟩,
  ⟨some 25, .faddr 2 2 (.t 24), some (21, true)⟩,
  ⟨some 26, .load false 1 (.t 25), some (21, true)⟩,
  ⟨some 27, .mv (.t 0), some (21, true)⟩,
  ⟨some 28, .mv (.t 3), some (21, true)⟩,
  ⟨some 29, .bin .add (.t 28) (ci 1), some (21, true)⟩,
  ⟨some 30, .iaddr 5 (.t 27) (.t 29), some (21, true)⟩,
  ⟨some 31, .faddr 2 2 (.t 30), some (21, true)⟩,
  ⟨some 32, .load false 1 (.t 31), some (21, true)⟩,
  ⟨some 33, .bin .geq (.t 26) (.t 32), some (21, true)⟩,
  ⟨some 34, .mv (.t 33), some (21, true)⟩,
  ⟨some 35, .mv (.t 0), some (34, false)⟩,
  ⟨some 36, .mv (.t 3), some (34, false)⟩,
  ⟨some 37, .iaddr 5 (.t 35) (.t 36), some (34, false)⟩,
  ⟨some 38, .faddr 4 4 (.t 37), some (34, false)⟩,
  ⟨some 39, .load false 1 (.t 38), some (34, false)⟩,
  ⟨some 40, .mv (.t 0), some (34, false)⟩,
  ⟨some 41, .mv (.t 3), some (34, false)⟩,
  ⟨some 42, .bin .add (.t 41) (ci 1), some (34, false)⟩,
  ⟨some 43, .iaddr 5 (.t 40) (.t 42), some (34, false)⟩,
  ⟨some 44, .faddr 2 2 (.t 43), some (34, false)⟩,
  ⟨some 45, .load false 1 (.t 44), some (34, false)⟩,
  ⟨some 46, .bin .gtr (.t 39) (.t 45), some (34, false)⟩,
  ⟨some 47, .pick (.t 34) (.c (.bool true)) (.t 46), some (21, true)⟩,
  oo 48 (.pick (.t 21) (.t 47) (.c (.bool false)))])
 (.cond (.t 48) (.seq (rg [oo 2 (.mv (.c (.bool false)))])
 .ret) .skip))))
 (rg [oo 8 (.mv (.t 3)),
  oo 9 (.bin .add (.t 8) (ci 1)),
  oo 3 (.mv (.t 9))])))
def f67_r0 : AC :=
 (.seq (rg [oo 49 (.mv (.t 0)),
  oo 50 (.len false (.t 49)),
  oo 51 (.bin .gtr (.t 50) (ci 0)),
  oo 52 (.mv (.t 51)),
  ⟨some 53, .mv (.t 0), some (52, true)⟩,
  ⟨some 54, .mv (.t 0), some (52, true)⟩,
  ⟨some 55, .len false (.t 54), some (52, true)⟩,
  ⟨some 56, .bin .sub (.t 55) (ci 1), some (52, true)⟩,
  ⟨some 57, .iaddr 5 (.t 53) (.t 56), some (52, true)⟩,
  ⟨some 58, .faddr 4 4 (.t 57), some (52, true)⟩,
  ⟨some 59, .load false 1 (.t 58), some (52, true)⟩,
  ⟨some 60, .bin .eql (.t 59) (ci 1000), some (52, true)⟩,
  oo 61 (.pick (.t 52) (.t 60) (.c (.bool false))),
  oo 2 (.mv (.t 61))])
 .ret)
def f67_ac : AC :=
 (.seq (rg [oo 2 (.mv (.c (.bool false)))])
 (.seq (.seq (rg [oo 3 (.mv (ci 0))])
 (.block 0 (.loop ⟨[0, 3], [], []⟩ f67_b0)))
 f67_r0))
noncomputable def f67_l0 (E : Env) (x0 : U) (x3 : U) : Option U := loopK (roundOf E ⟨[0, 3], [], []⟩ f67_b0 (blockK 0 (seqK (fun s => exec E f67_r0 s (finish [(2, none)])) (finish [(2, none)])))) ([.val x0, .val x3], [])
theorem f67_l0_eq (E : Env) (x0 : U) (x3 : U) : f67_l0 E x0 x3 =
 (U.lenOf false x0).bind fun n1 => (U.bin .lss x3 (.int .i64 (n1 : Int))).bind fun t2 => U.asBool t2
 (U.asInt x3 fun n3 => U.elemAt 5 x0 n3 fun e4 => U.asVar true 5 e4 fun e5 => (E 105 [e5]).bind fun t6 => (U.un .not t6).bind fun t7 => U.asBool t7
 (some (.bool false))
 ((U.bin .add x3 (.int .i64 1)).bind fun t8 => (U.lenOf false x0).bind fun n9 => (U.bin .lss t8 (.int .i64 (n9 : Int))).bind fun t10 => U.asBool t10
 (U.asInt x3 fun n11 => U.elemAt 5 x0 n11 fun e12 => U.fieldAt 2 2 e12 fun f13 => U.asVar false 1 f13 fun e14 => (U.bin .add x3 (.int .i64 1)).bind fun t15 => U.asInt t15 fun n16 => U.elemAt 5 x0 n16 fun e17 => U.fieldAt 2 2 e17 fun f18 => U.asVar false 1 f18 fun e19 => (U.bin .geq e14 e19).bind fun t20 => U.asBool t20
 (some (.bool false))
 (U.asInt x3 fun n21 => U.elemAt 5 x0 n21 fun e22 => U.fieldAt 4 4 e22 fun f23 => U.asVar false 1 f23 fun e24 => (U.bin .add x3 (.int .i64 1)).bind fun t25 => U.asInt t25 fun n26 => U.elemAt 5 x0 n26 fun e27 => U.fieldAt 2 2 e27 fun f28 => U.asVar false 1 f28 fun e29 => (U.bin .gtr e24 e29).bind fun t30 => U.asBool t30
 (some (.bool false))
 ((U.bin .add x3 (.int .i64 1)).bind fun t31 => f67_l0 E x0 t31)))
 ((U.bin .add x3 (.int .i64 1)).bind fun t32 => f67_l0 E x0 t32)))
 ((U.lenOf false x0).bind fun n33 => (U.bin .gtr (.int .i64 (n33 : Int)) (.int .i64 0)).bind fun t34 => U.asBool t34
 ((U.lenOf false x0).bind fun n35 => (U.bin .sub (.int .i64 (n35 : Int)) (.int .i64 1)).bind fun t36 => U.asInt t36 fun n37 => U.elemAt 5 x0 n37 fun e38 => U.fieldAt 4 4 e38 fun f39 => U.asVar false 1 f39 fun e40 => (U.bin .eql e40 (.int .i64 1000)).bind fun t41 => some t41)
 (some (.bool false))) :=
 (loop_eq E _ _ _ _).trans (by kernel_rfl)
structure G_f67 (E : Env) : Prop where
  is : Is E 104 1 f67_ac [(2, none)]
  c_f70 : G_f70 E
theorem f67_E {E : Env} (h : G_f67 E) (a0 : U) : E 104 [a0] =
 f67_l0 E a0 (.int .i64 0) := (h.is _ rfl).trans ((runQ_V rfl).trans (by kernel_rfl))
def f71_ac : AC :=
 (.seq (rg [oo 2 (.alloc 2 (.agg [(.int .i64 0), (.int .i64 0), (.int .i64 0), (.int .i64 0), (.int .i64 0)]))])
 (.seq (.seq (rg [oo 3 (.mv (.t 0)),
  oo 4 (.call false 104 [(.t 3)]),
  oo 5 (.un .not (.t 4))])
 (.cond (.t 5) (.seq (rg [oo 6 (.build [(.int .i64 0), (.int .i64 0), (.int .i64 0), (.int .i64 0), (.int .i64 0)] []),
  ⟨none, .store 5 (.t 2) (.t 6), none⟩])
 .ret) .skip))
 (.seq (rg [oo 7 (.mv (.t 0)),
  oo 8 (.mv (.t 0)),
  oo 9 (.len false (.t 8)),
  oo 10 (.bin .sub (.t 9) (ci 1)),
  oo 11 (.iaddr 5 (.t 7) (.t 10)),
  oo 12 (.load true 5 (.t 11)),
  ⟨none, .store 5 (.t 2) (.t 12), none⟩])
 .ret)))
structure G_f71 (E : Env) : Prop where
  is : Is E 216 1 f71_ac [(2, some (true, 5))]
  c_f67 : G_f67 E
theorem f71_E {E : Env} (h : G_f71 E) (a0 : U) : E 216 [a0] =
 (E 104 [a0]).bind fun t1 => (U.un .not t1).bind fun t2 => U.asBool t2
 (some (.agg [(.int .i64 0), (.int .i64 0), (.int .i64 0), (.int .i64 0), (.int .i64 0)]))
 ((U.lenOf false a0).bind fun n3 => (U.bin .sub (.int .i64 (n3 : Int)) (.int .i64 1)).bind fun t4 => U.asInt t4 fun n5 => U.elemAt 5 a0 n5 fun e6 => U.asVar true 5 e6 fun e7 => if storable (.val e7) = true ∧ e7.size = 5 then U.asVar true 5 e7 fun e8 => some e8 else none) := (h.is _ rfl).trans ((runQ_V rfl).trans (by kernel_rfl))
def f75_ac : AC :=
 (.seq (rg [oo 1 (.box false 1 (.t 0)),
  oo 2 (.alloc 2 (.agg [(.int .i64 0), (.int .i64 0), (.int .i64 0), (.int .i64 0), (.int .i64 0), (.int .i64 0), (.int .i64 0), (.nsl 2), (.nsl 2)]))])
 (.seq (rg [oo 4 (.loadN 9 9 (.t 1)),
  oo 3 (.alloc 3 (.agg [(.int .i64 0), (.int .i64 0), (.int .i64 0), (.int .i64 0), (.int .i64 0), (.int .i64 0), (.int .i64 0), (.nsl 2), (.nsl 2)])),
  ⟨none, .store 9 (.t 3) (.t 4), none⟩])
 (.seq (rg [oo 5 (.bslice 1 5 2 0 (.agg [(.int .i64 0), (.int .i64 0)]) []),
  oo 6 (.faddr 7 7 (.t 1)),
  oo 7 (.load false 1 (.t 6)),
  oo 8 (.append false 8 2 16 (.t 5) (.t 7)),
  oo 9 (.faddr 7 7 (.t 3)),
  ⟨none, .storeM 3000 1 (.t 9) (.t 8), none⟩])
 (.seq (rg [oo 10 (.bslice 1 10 2 0 (.agg [(.int .i64 0), (.int .i64 0)]) []),
  oo 11 (.faddr 8 8 (.t 1)),
  oo 12 (.load false 1 (.t 11)),
  oo 13 (.append false 13 2 16 (.t 10) (.t 12)),
  oo 14 (.faddr 8 8 (.t 3)),
  ⟨none, .storeM 3001 1 (.t 14) (.t 13), none⟩])
 (.seq (rg [oo 15 (.loadO (.agg [.int, .int, .int, .int, .int, .int, .int, (.sl 2), (.sl 2)]) (.t 3)),
  ⟨none, .storeM 3002 9 (.t 2) (.t 15), none⟩])
 .ret)))))
structure G_f75 (E : Env) : Prop where
  is : Is E 212 1 f75_ac [(2, some (true, 9))]
theorem f75_E {E : Env} (h : G_f75 E) (a0 : U) : E 212 [a0] =
 U.noTup a0 fun x1 => U.asVar true 9 x1 fun e2 => U.asAgg e2 fun us3 => (match us3 with
 | u4 :: us5 => ((match us5 with
 | u6 :: us7 => ((match us7 with
 | u8 :: us9 => ((match us9 with
 | u10 :: us11 => ((match us11 with
 | u12 :: us13 => ((match us13 with
 | u14 :: us15 => ((match us15 with
 | u16 :: us17 => ((match us17 with
 | u18 :: us19 => ((match us19 with
 | u20 :: us21 => ((match us21 with
 | [] => (if storable (.val (.agg [u4, u6, u8, u10, u12, u14, u16, u18, u20])) = true ∧ ((.agg [u4, u6, u8, u10, u12, u14, u16, u18, u20]) : U).size = 9 then U.asAgg x1 fun us22 => if 7 = sizes (us22.take 7) then (us22[7]?).bind fun e23 => U.asVar false 1 e23 fun e24 => (U.elems 2 e24).bind fun ys25 => if 2 = 2 ∧ 2 = 2 ∧ ((([] : List U)).length + (ys25 : List U).length) * 16 ≤ 140737488355328 then if 7 = sizes [u4, u6, u8, u10, u12, u14, u16] then if 7 = sizes [u4, u6, u8, u10, u12, u14, u16] then if u18.size = u18.size then if 7 = dsizes [.val u4, .val u6, .val u8, .val u10, .val u12, .val u14, .val u16] then if u18.size = 1 then U.asAgg x1 fun us26 => if 8 = sizes (us26.take 8) then (us26[8]?).bind fun e27 => U.asVar false 1 e27 fun e28 => (U.elems 2 e28).bind fun ys29 => if 2 = 2 ∧ 2 = 2 ∧ ((([] : List U)).length + (ys29 : List U).length) * 16 ≤ 140737488355328 then if 8 = dsizes [.val u4, .val u6, .val u8, .val u10, .val u12, .val u14, .val u16, .asl 2 (([] : List U) ++ ys25)] then if 8 = dsizes [.val u4, .val u6, .val u8, .val u10, .val u12, .val u14, .val u16, .asl 2 (([] : List U) ++ ys25)] then if u20.size = u20.size then if 8 = dsizes [.val u4, .val u6, .val u8, .val u10, .val u12, .val u14, .val u16, .asl 2 (([] : List U) ++ ys25)] then if u20.size = 1 then U.asInt u4 fun n30 => U.asInt u6 fun n31 => U.asInt u8 fun n32 => U.asInt u10 fun n33 => U.asInt u12 fun n34 => U.asInt u14 fun n35 => U.asInt u16 fun n36 => if 7 = dsizes [.val u4, .val u6, .val u8, .val u10, .val u12, .val u14, .val u16] then if 7 = dsizes [.val u4, .val u6, .val u8, .val u10, .val u12, .val u14, .val u16] then if 8 = dsizes [.val u4, .val u6, .val u8, .val u10, .val u12, .val u14, .val u16, .junk 1] then if 8 = dsizes [.val u4, .val u6, .val u8, .val u10, .val u12, .val u14, .val u16, .junk 1] then some (.agg [(.int .i64 n30), (.int .i64 n31), (.int .i64 n32), (.int .i64 n33), (.int .i64 n34), (.int .i64 n35), (.int .i64 n36), (.sl 2 (([] : List U) ++ ys25)), (.sl 2 (([] : List U) ++ ys29))]) else none else none else none else none else none else none else none else none else none else none else none else none else none else none else none else none else none else none else none)
 | _ => none))
 | [] => none))
 | [] => none))
 | [] => none))
 | [] => none))
 | [] => none))
 | [] => none))
 | [] => none))
 | [] => none))
 | [] => none) := (h.is _ rfl).trans ((runQ_V rfl).trans (by kernel_rfl))
def f68_b0 : AC :=
 (.seq (.seq (rg [oo 4 (.mv (.t 3)),
  oo 5 (.faddr 0 0 (.t 1)),
  oo 6 (.load false 1 (.t 5)),
  oo 7 (.len false (.t 6)),
  oo 8 (.bin .lss (.t 4) (.t 7))])
 (.cond (.t 8) .skip (.exit 0)))
 (.seq (.block 1 (.seq (rg [oo 11 (.faddr 0 0 (.t 1)),
  oo 12 (.load false 1 (.t 11)),
  oo 13 (.mv (.t 3)),
  oo 14 (.iaddr 1 (.t 12) (.t 13)),
  oo 15 (.load false 1 (.t 14)),
  oo 16 (.call false 104 [(.t 15)]),
  oo 17 (.un .not (.t 16)),
  oo 18 (.mv (.t 17)),
  ⟨some 19, .faddr 0 0 (.t 1), some (18, false)⟩,
  ⟨some 20, .load false 1 (.t 19), some (18, false)⟩,
  ⟨some 21, .mv (.t 3), some (18, false)⟩,
  ⟨some 22, .iaddr 1 (.t 20) (.t 21), some (18, false)⟩,
  ⟨some 23, .load false 1 (.t 22), some (18, false)⟩,
  ⟨some 24, .iaddr 5 (.t 23) (ci 0), some (18, false)⟩,
  ⟨some 25, .faddr 2 2 (.t 24), some (18, false)⟩,
  ⟨some 26, .load false 1 (.t 25), some (18, false)⟩,
  ⟨some 27, .bin .gtr (.t 26) (ci 0), some (18, false)⟩,
  ⟨some 28, .mv (.t 27), some (18, false)⟩,
  ⟨some 29, .faddr 0 0 (.t 1), some (28, true)⟩,
  ⟨some 30, .load false 1 (.t 29), some (28, true)⟩,
  ⟨some 31, .mv (.t 3), some (28, true)⟩,
  ⟨some 32, .iaddr 1 (.t 30) (.t 31), some (28, true)⟩,
  ⟨some 33, .load false 1 (.t 32), some (28, true)⟩,
  ⟨some 34, .len false (.t 33), some (28, true)⟩,
  ⟨some 35, .bin .gtr (.t 34) (ci 50), some (28, true)⟩,
  ⟨some 36, .pick (.t 28) (.t 35) (.c (.bool false)), some (18, false)⟩,
  oo 37 (.pick (.t 18) (.c (.bool true)) (.t 36)),
  oo 38 (.mv (.t 37)),
  ⟨some 39, .faddr 0 0 (.t 1), some (38, false)⟩,
  ⟨some 40, .load false 1 (.t 39), some (38, false)⟩,
  ⟨some 41, .mv (.t 3), some (38, false)⟩,
  ⟨some 42, .iaddr 1 (.t 40) (.t 41), some (38, false)⟩,
  ⟨some 43, .load false 1 (.t 42), some (38, false)⟩,
  ⟨some 44, .len false (.t 43), some (38, false)⟩,
  ⟨some 45, .bin .gtr (.t 44) (ci 50), some (38, false)⟩,
  oo 46 (.pick (.t 38) (.c (.bool true)) (.t 45))])
 (.cond (.t 46) (.seq (rg [oo 2 (.mv (.c (.bool false)))])
 .ret) .skip)))
 (rg [oo 9 (.mv (.t 3)),
  oo 10 (.bin .add (.t 9) (ci 1)),
  oo 3 (.mv (.t 10))])))
def f68_r0 : AC :=
 (.seq (rg [oo 47 (.faddr 0 0 (.t 1)),
  oo 48 (.load false 1 (.t 47)),
  oo 49 (.len false (.t 48)),
  oo 50 (.bin .eql (.t 49) (ci 6)),
  oo 2 (.mv (.t 50))])
 .ret)
def f68_ac : AC :=
 (.seq (rg [oo 1 (.box false 1 (.t 0)),
  oo 2 (.mv (.c (.bool false)))])
 (.seq (.seq (rg [oo 3 (.mv (ci 0))])
 (.block 0 (.loop ⟨[1, 3], [], [(1, false)]⟩ f68_b0)))
 f68_r0))
noncomputable def f68_l0 (E : Env) (x3 : U) (b1 : U) : Option U := loopK (roundOf E ⟨[1, 3], [], [(1, false)]⟩ f68_b0 (blockK 0 (seqK (fun s => exec E f68_r0 s (finish [(2, none)])) (finish [(2, none)])))) ([.ptr 1 [], .val x3], [.box (.val b1)])
theorem f68_l0_eq (E : Env) (x3 : U) (b1 : U) : f68_l0 E x3 b1 =
 U.asAgg b1 fun us2 => if 0 = sizes (us2.take 0) then (us2[0]?).bind fun e3 => U.asVar false 1 e3 fun e4 => (U.lenOf false e4).bind fun n5 => (U.bin .lss x3 (.int .i64 (n5 : Int))).bind fun t6 => U.asBool t6
 (U.asAgg b1 fun us7 => if 0 = sizes (us7.take 0) then (us7[0]?).bind fun e8 => U.asVar false 1 e8 fun e9 => U.asInt x3 fun n10 => U.elemAt 1 e9 n10 fun e11 => U.asVar false 1 e11 fun e12 => (E 104 [e12]).bind fun t13 => (U.un .not t13).bind fun t14 => U.asBool t14
 (some (.bool false))
 (U.asAgg b1 fun us15 => if 0 = sizes (us15.take 0) then (us15[0]?).bind fun e16 => U.asVar false 1 e16 fun e17 => U.asInt x3 fun n18 => U.elemAt 1 e17 n18 fun e19 => U.asVar false 1 e19 fun e20 => U.elemAt 5 e20 0 fun e21 => U.fieldAt 2 2 e21 fun f22 => U.asVar false 1 f22 fun e23 => (U.bin .gtr e23 (.int .i64 0)).bind fun t24 => U.asBool t24
 (U.asAgg b1 fun us25 => if 0 = sizes (us25.take 0) then (us25[0]?).bind fun e26 => U.asVar false 1 e26 fun e27 => U.asInt x3 fun n28 => U.elemAt 1 e27 n28 fun e29 => U.asVar false 1 e29 fun e30 => (U.lenOf false e30).bind fun n31 => (U.bin .gtr (.int .i64 (n31 : Int)) (.int .i64 50)).bind fun t32 => U.asBool t32
 (some (.bool false))
 (U.asAgg b1 fun us33 => if 0 = sizes (us33.take 0) then (us33[0]?).bind fun e34 => U.asVar false 1 e34 fun e35 => U.asInt x3 fun n36 => U.elemAt 1 e35 n36 fun e37 => U.asVar false 1 e37 fun e38 => (U.lenOf false e38).bind fun n39 => (U.bin .gtr (.int .i64 (n39 : Int)) (.int .i64 50)).bind fun t40 => U.asBool t40
 (some (.bool false))
 ((U.bin .add x3 (.int .i64 1)).bind fun t41 => f68_l0 E t41 b1) else none) else none)
 (U.asAgg b1 fun us42 => if 0 = sizes (us42.take 0) then (us42[0]?).bind fun e43 => U.asVar false 1 e43 fun e44 => U.asInt x3 fun n45 => U.elemAt 1 e44 n45 fun e46 => U.asVar false 1 e46 fun e47 => (U.lenOf false e47).bind fun n48 => (U.bin .gtr (.int .i64 (n48 : Int)) (.int .i64 50)).bind fun t49 => U.asBool t49
 (some (.bool false))
 ((U.bin .add x3 (.int .i64 1)).bind fun t50 => f68_l0 E t50 b1) else none) else none) else none)
 (U.asAgg b1 fun us51 => if 0 = sizes (us51.take 0) then (us51[0]?).bind fun e52 => U.asVar false 1 e52 fun e53 => (U.lenOf false e53).bind fun n54 => (U.bin .eql (.int .i64 (n54 : Int)) (.int .i64 6)).bind fun t55 => some t55 else none) else none :=
 (loop_eq E _ _ _ _).trans (by kernel_rfl)
structure G_f68 (E : Env) : Prop where
  is : Is E 103 1 f68_ac [(2, none)]
  c_f67 : G_f67 E
theorem f68_E {E : Env} (h : G_f68 E) (a0 : U) : E 103 [a0] =
 U.noTup a0 fun x1 => f68_l0 E (.int .i64 0) x1 := (h.is _ rfl).trans ((runQ_V rfl).trans (by kernel_rfl))
def f74_ac : AC :=
 (.seq (rg [oo 2 (.box false 2 (.t 0)),
  oo 3 (.box false 3 (.t 1)),
  oo 4 (.mv (.c (.bool false)))])
 (.seq (rg [oo 5 (.faddr 0 0 (.t 2)),
  oo 6 (.load false 1 (.t 5)),
  oo 7 (.faddr 0 0 (.t 3)),
  oo 8 (.load false 1 (.t 7)),
  oo 9 (.bin .lss (.t 6) (.t 8)),
  oo 10 (.mv (.t 9)),
  ⟨some 11, .faddr 0 0 (.t 2), some (10, false)⟩,
  ⟨some 12, .load false 1 (.t 11), some (10, false)⟩,
  ⟨some 13, .faddr 0 0 (.t 3), some (10, false)⟩,
  ⟨some 14, .load false 1 (.t 13), some (10, false)⟩,
  ⟨some 15, .bin .eql (.t 12) (.t 14), some (10, false)⟩,
  ⟨some 16, .mv (.t 15), some (10, false)⟩,
  ⟨some 17, .faddr 1 1 (.t 2), some (16, true)⟩,
  ⟨some 18, .load false 1 (.t 17), some (16, true)⟩,
  ⟨some 19, .faddr 1 1 (.t 3), some (16, true)⟩,
  ⟨some 20, .load false 1 (.t 19), some (16, true)⟩,
  ⟨some 21, .bin .lss (.t 18) (.t 20), some (16, true)⟩,
  ⟨some 22, .pick (.t 16) (.t 21) (.c (.bool false)), some (10, false)⟩,
  oo 23 (.pick (.t 10) (.c (.bool true)) (.t 22)),
  oo 4 (.mv (.t 23))])
 .ret))
structure G_f74 (E : Env) : Prop where
  is : Is E 71 2 f74_ac [(4, none)]
theorem f74_E {E : Env} (h : G_f74 E) (a0 a1 : U) : E 71 [a0, a1] =
 U.noTup a0 fun x1 => U.noTup a1 fun x2 => U.asAgg x1 fun us3 => if 0 = sizes (us3.take 0) then (us3[0]?).bind fun e4 => U.asVar false 1 e4 fun e5 => U.asAgg x2 fun us6 => if 0 = sizes (us6.take 0) then (us6[0]?).bind fun e7 => U.asVar false 1 e7 fun e8 => (U.bin .lss e5 e8).bind fun t9 => U.asBool t9
 (some (.bool true))
 (U.asAgg x1 fun us10 => if 0 = sizes (us10.take 0) then (us10[0]?).bind fun e11 => U.asVar false 1 e11 fun e12 => U.asAgg x2 fun us13 => if 0 = sizes (us13.take 0) then (us13[0]?).bind fun e14 => U.asVar false 1 e14 fun e15 => (U.bin .eql e12 e15).bind fun t16 => U.asBool t16
 (U.asAgg x1 fun us17 => if 1 = sizes (us17.take 1) then (us17[1]?).bind fun e18 => U.asVar false 1 e18 fun e19 => U.asAgg x2 fun us20 => if 1 = sizes (us20.take 1) then (us20[1]?).bind fun e21 => U.asVar false 1 e21 fun e22 => (U.bin .lss e19 e22).bind fun t23 => some t23 else none else none)
 (some (.bool false)) else none else none) else none else none := (h.is _ rfl).trans ((runQ_V rfl).trans (by kernel_rfl))
def f69_b1 : AC :=
 (.seq (.seq (rg [oo 7 (.mv (.t 3)),
  oo 8 (.faddr 7 7 (.t 1)),
  oo 9 (.load false 1 (.t 8)),
  oo 10 (.len false (.t 9)),
  oo 11 (.bin .lss (.t 7) (.t 10))])
 (.cond (.t 11) .skip (.exit 0)))
 (.seq (.block 1 (.seq (rg [oo 14 (.faddr 7 7 (.t 1)),
  oo 15 (.load false 1 (.t 14)),
  oo 16 (.mv (.t 3)),
  oo 17 (.iaddr 2 (.t 15) (.t 16)),
  oo 18 (.load true 2 (.t 17)),
  oo 4 (.alloc 4 (.agg [(.int .i64 0), (.int .i64 0)])),
  ⟨none, .store 2 (.t 4) (.t 18), none⟩])
 (.seq (.region 25 [oo 19 (.faddr 0 0 (.t 4)),
  oo 20 (.load false 1 (.t 19)),
  oo 21 (.call false 6 [(.t 20), (ci 0), (ci 5)]),
  oo 22 (.un .not (.t 21)),
  oo 23 (.mv (.t 22)),
  ⟨some 24, .faddr 1 1 (.t 4), some (23, false)⟩,
  ⟨some 25, .load false 1 (.t 24), some (23, false)⟩,
  ⟨some 26, .call false 6 [(.t 25), (ci 0), (ci 999)], some (23, false)⟩,
  ⟨some 27, .un .not (.t 26), some (23, false)⟩,
  oo 28 (.pick (.t 23) (.c (.bool true)) (.t 27)),
  oo 29 (.mv (.t 28)),
  ⟨some 30, .mv (.t 3), some (29, false)⟩,
  ⟨some 31, .bin .gtr (.t 30) (ci 0), some (29, false)⟩,
  ⟨some 32, .mv (.t 31), some (29, false)⟩,
  ⟨some 33, .faddr 7 7 (.t 1), some (32, true)⟩,
  ⟨some 34, .load false 1 (.t 33), some (32, true)⟩,
  ⟨some 35, .mv (.t 3), some (32, true)⟩,
  ⟨some 36, .bin .sub (.t 35) (ci 1), some (32, true)⟩,
  ⟨some 37, .iaddr 2 (.t 34) (.t 36), some (32, true)⟩,
  ⟨some 38, .load true 2 (.t 37), some (32, true)⟩,
  ⟨some 39, .load true 2 (.t 4), some (32, true)⟩,
  ⟨some 40, .call false 71 [(.t 38), (.t 39)], some (32, true)⟩,
  ⟨some 41, .un .not (.t 40), some (32, true)⟩,
  ⟨some 42, .pick (.t 32) (.t 41) (.c (.bool false)), some (29, false)⟩,
  oo 43 (.pick (.t 29) (.c (.bool true)) (.t 42))])
 (.cond (.t 43) (.seq (rg [oo 2 (.mv (.c (.bool false)))])
 .ret) .skip))))
 (rg [oo 12 (.mv (.t 3)),
  oo 13 (.bin .add (.t 12) (ci 1)),
  oo 3 (.mv (.t 13))])))
def f69_b0 : AC :=
 (.seq (.seq (rg [oo 44 (.mv (.t 5)),
  oo 45 (.faddr 8 8 (.t 1)),
  oo 46 (.load false 1 (.t 45)),
  oo 47 (.len false (.t 46)),
  oo 48 (.bin .lss (.t 44) (.t 47))])
 (.cond (.t 48) .skip (.exit 2)))
 (.seq (.block 3 (.seq (rg [oo 51 (.faddr 8 8 (.t 1)),
  oo 52 (.load false 1 (.t 51)),
  oo 53 (.mv (.t 5)),
  oo 54 (.iaddr 2 (.t 52) (.t 53)),
  oo 55 (.load true 2 (.t 54)),
  oo 6 (.alloc 6 (.agg [(.int .i64 0), (.int .i64 0)])),
  ⟨none, .store 2 (.t 6) (.t 55), none⟩])
 (.seq (.region 26 [oo 56 (.faddr 0 0 (.t 6)),
  oo 57 (.load false 1 (.t 56)),
  oo 58 (.call false 6 [(.t 57), (ci 0), (ci 5)]),
  oo 59 (.un .not (.t 58)),
  oo 60 (.mv (.t 59)),
  ⟨some 61, .faddr 1 1 (.t 6), some (60, false)⟩,
  ⟨some 62, .load false 1 (.t 61), some (60, false)⟩,
  ⟨some 63, .call false 6 [(.t 62), (ci (-1)), (ci 99)], some (60, false)⟩,
  ⟨some 64, .un .not (.t 63), some (60, false)⟩,
  oo 65 (.pick (.t 60) (.c (.bool true)) (.t 64)),
  oo 66 (.mv (.t 65)),
  ⟨some 67, .mv (.t 5), some (66, false)⟩,
  ⟨some 68, .bin .gtr (.t 67) (ci 0), some (66, false)⟩,
  ⟨some 69, .mv (.t 68), some (66, false)⟩,
  ⟨some 70, .faddr 8 8 (.t 1), some (69, true)⟩,
  ⟨some 71, .load false 1 (.t 70), some (69, true)⟩,
  ⟨some 72, .mv (.t 5), some (69, true)⟩,
  ⟨some 73, .bin .sub (.t 72) (ci 1), some (69, true)⟩,
  ⟨some 74, .iaddr 2 (.t 71) (.t 73), some (69, true)⟩,
  ⟨some 75, .faddr 0 0 (.t 74), some (69, true)⟩,
  ⟨some 76, .load false 1 (.t 75), some (69, true)⟩,
  ⟨some 77, .faddr 0 0 (.t 6), some (69, true)⟩,
  ⟨some 78, .load false 1 (.t 77), some (69, true)⟩,
  ⟨some 79, .bin .geq (.t 76) (.t 78), some (69, true)⟩,
  ⟨some 80, .pick (.t 69) (.t 79) (.c (.bool false)), some (66, false)⟩,
  oo 81 (.pick (.t 66) (.c (.bool true)) (.t 80))])
 (.cond (.t 81) (.seq (rg [oo 2 (.mv (.c (.bool false)))])
 .ret) .skip))))
 (rg [oo 49 (.mv (.t 5)),
  oo 50 (.bin .add (.t 49) (ci 1)),
  oo 5 (.mv (.t 50))])))
def f69_r0 : AC :=
 (.seq (.seq (rg [oo 82 (.faddr 0 0 (.t 1)),
  oo 83 (.load false 1 (.t 82)),
  oo 84 (.call false 6 [(.t 83), (ci 1), (ci 9)]),
  oo 85 (.un .not (.t 84)),
  oo 86 (.mv (.t 85)),
  ⟨some 87, .faddr 1 1 (.t 1), some (86, false)⟩,
  ⟨some 88, .load false 1 (.t 87), some (86, false)⟩,
  ⟨some 89, .call false 6 [(.t 88), (ci 1), (ci 4)], some (86, false)⟩,
  ⟨some 90, .un .not (.t 89), some (86, false)⟩,
  oo 91 (.pick (.t 86) (.c (.bool true)) (.t 90)),
  oo 92 (.mv (.t 91)),
  ⟨some 93, .faddr 3 3 (.t 1), some (92, false)⟩,
  ⟨some 94, .load false 1 (.t 93), some (92, false)⟩,
  ⟨some 95, .call false 6 [(.t 94), (ci 0), (ci 999)], some (92, false)⟩,
  ⟨some 96, .un .not (.t 95), some (92, false)⟩,
  oo 97 (.pick (.t 92) (.c (.bool true)) (.t 96))])
 (.cond (.t 97) (.seq (rg [oo 2 (.mv (.c (.bool false)))])
 .ret) .skip))
 (.seq (rg [oo 98 (.faddr 2 2 (.t 1)),
  oo 99 (.load false 1 (.t 98)),
  oo 100 (.call false 6 [(.t 99), (ci 1), (ci 3)]),
  oo 101 (.mv (.t 100)),
  ⟨some 102, .faddr 4 4 (.t 1), some (101, true)⟩,
  ⟨some 103, .load false 1 (.t 102), some (101, true)⟩,
  ⟨some 104, .call false 6 [(.t 103), (ci 0), (ci 999)], some (101, true)⟩,
  oo 105 (.pick (.t 101) (.t 104) (.c (.bool false))),
  oo 106 (.mv (.t 105)),
  ⟨some 107, .faddr 5 5 (.t 1), some (106, true)⟩,
  ⟨some 108, .load false 1 (.t 107), some (106, true)⟩,
  ⟨some 109, .call false 6 [(.t 108), (ci 1), (ci 1000)], some (106, true)⟩,
  oo 110 (.pick (.t 106) (.t 109) (.c (.bool false))),
  oo 111 (.mv (.t 110)),
  ⟨some 112, .faddr 2 2 (.t 1), some (111, true)⟩,
  ⟨some 113, .load false 1 (.t 112), some (111, true)⟩,
  ⟨some 114, .bin .eql (.t 113) (ci 2), some (111, true)⟩,
  ⟨some 115, .faddr 6 6 (.t 1), some (111, true)⟩,
  ⟨some 116, .load false 1 (.t 115), some (111, true)⟩,
  ⟨some 117, .bin .gtr (.t 116) (ci 0), some (111, true)⟩,
  ⟨some 118, .eqv false 0 (.t 114) (.t 117), some (111, true)⟩,
  oo 119 (.pick (.t 111) (.t 118) (.c (.bool false))),
  oo 120 (.mv (.t 119)),
  ⟨some 121, .faddr 6 6 (.t 1), some (120, true)⟩,
  ⟨some 122, .load false 1 (.t 121), some (120, true)⟩,
  ⟨some 123, .call false 6 [(.t 122), (ci 0), (ci 999)], some (120, true)⟩,
  oo 124 (.pick (.t 120) (.t 123) (.c (.bool false))),
  oo 125 (.mv (.t 124)),
  ⟨some 126, .faddr 7 7 (.t 1), some (125, true)⟩,
  ⟨some 127, .load false 1 (.t 126), some (125, true)⟩,
  ⟨some 128, .len false (.t 127), some (125, true)⟩,
  ⟨some 129, .bin .leq (.t 128) (ci 60), some (125, true)⟩,
  oo 130 (.pick (.t 125) (.t 129) (.c (.bool false))),
  oo 2 (.mv (.t 130))])
 .ret))
def f69_r1 : AC :=
 (.seq (.seq (rg [oo 5 (.mv (ci 0))])
 (.block 2 (.loop ⟨[1, 5], [], [(1, false)]⟩ f69_b0)))
 f69_r0)
def f69_ac : AC :=
 (.seq (rg [oo 1 (.box false 1 (.t 0)),
  oo 2 (.mv (.c (.bool false)))])
 (.seq (.seq (rg [oo 3 (.mv (ci 0))])
 (.block 0 (.loop ⟨[1, 3], [], [(1, false)]⟩ f69_b1)))
 f69_r1))
noncomputable def f69_l1 (E : Env) (x3 : U) (b1 : U) : Option U := loopK (roundOf E ⟨[1, 3], [], [(1, false)]⟩ f69_b1 (blockK 0 (seqK (fun s => exec E f69_r1 s (finish [(2, none)])) (finish [(2, none)])))) ([.ptr 1 [], .val x3], [.box (.val b1)])
noncomputable def f69_l0 (E : Env) (x5 : U) (b1 : U) : Option U := loopK (roundOf E ⟨[1, 5], [], [(1, false)]⟩ f69_b0 (blockK 2 (seqK (fun s => exec E f69_r0 s (finish [(2, none)])) (finish [(2, none)])))) ([.ptr 1 [], .val x5], [.box (.val b1)])
theorem f69_l1_eq (E : Env) (x3 : U) (b1 : U) : f69_l1 E x3 b1 =
 U.asAgg b1 fun us2 => if 7 = sizes (us2.take 7) then (us2[7]?).bind fun e3 => U.asVar false 1 e3 fun e4 => (U.lenOf false e4).bind fun n5 => (U.bin .lss x3 (.int .i64 (n5 : Int))).bind fun t6 => U.asBool t6
 (U.asAgg b1 fun us7 => if 7 = sizes (us7.take 7) then (us7[7]?).bind fun e8 => U.asVar false 1 e8 fun e9 => U.asInt x3 fun n10 => U.elemAt 2 e9 n10 fun e11 => U.asVar true 2 e11 fun e12 => if storable (.val e12) = true ∧ e12.size = 2 then U.asAgg e12 fun us13 => if 0 = sizes (us13.take 0) then (us13[0]?).bind fun e14 => U.asVar false 1 e14 fun e15 => (E 6 [e15, (.int .i64 0), (.int .i64 5)]).bind fun t16 => (U.un .not t16).bind fun t17 => U.asBool t17
 (some (.bool false))
 (U.asAgg e12 fun us18 => if 1 = sizes (us18.take 1) then (us18[1]?).bind fun e19 => U.asVar false 1 e19 fun e20 => (E 6 [e20, (.int .i64 0), (.int .i64 999)]).bind fun t21 => (U.un .not t21).bind fun t22 => U.asBool t22
 (some (.bool false))
 ((U.bin .gtr x3 (.int .i64 0)).bind fun t23 => U.asBool t23
 (U.asAgg b1 fun us24 => if 7 = sizes (us24.take 7) then (us24[7]?).bind fun e25 => U.asVar false 1 e25 fun e26 => (U.bin .sub x3 (.int .i64 1)).bind fun t27 => U.asInt t27 fun n28 => U.elemAt 2 e26 n28 fun e29 => U.asVar true 2 e29 fun e30 => U.asVar true 2 e12 fun e31 => (E 71 [e30, e31]).bind fun t32 => (U.un .not t32).bind fun t33 => U.asBool t33
 (some (.bool false))
 ((U.bin .add x3 (.int .i64 1)).bind fun t34 => f69_l1 E t34 b1) else none)
 ((U.bin .add x3 (.int .i64 1)).bind fun t35 => f69_l1 E t35 b1)) else none) else none else none else none)
 (f69_l0 E (.int .i64 0) b1) else none :=
 (loop_eq E _ _ _ _).trans (by kernel_rfl)
theorem f69_l0_eq (E : Env) (x5 : U) (b1 : U) : f69_l0 E x5 b1 =
 U.asAgg b1 fun us36 => if 8 = sizes (us36.take 8) then (us36[8]?).bind fun e37 => U.asVar false 1 e37 fun e38 => (U.lenOf false e38).bind fun n39 => (U.bin .lss x5 (.int .i64 (n39 : Int))).bind fun t40 => U.asBool t40
 (U.asAgg b1 fun us41 => if 8 = sizes (us41.take 8) then (us41[8]?).bind fun e42 => U.asVar false 1 e42 fun e43 => U.asInt x5 fun n44 => U.elemAt 2 e43 n44 fun e45 => U.asVar true 2 e45 fun e46 => if storable (.val e46) = true ∧ e46.size = 2 then U.asAgg e46 fun us47 => if 0 = sizes (us47.take 0) then (us47[0]?).bind fun e48 => U.asVar false 1 e48 fun e49 => (E 6 [e49, (.int .i64 0), (.int .i64 5)]).bind fun t50 => (U.un .not t50).bind fun t51 => U.asBool t51
 (some (.bool false))
 (U.asAgg e46 fun us52 => if 1 = sizes (us52.take 1) then (us52[1]?).bind fun e53 => U.asVar false 1 e53 fun e54 => (E 6 [e54, (.int .i64 (-1)), (.int .i64 99)]).bind fun t55 => (U.un .not t55).bind fun t56 => U.asBool t56
 (some (.bool false))
 ((U.bin .gtr x5 (.int .i64 0)).bind fun t57 => U.asBool t57
 (U.asAgg b1 fun us58 => if 8 = sizes (us58.take 8) then (us58[8]?).bind fun e59 => U.asVar false 1 e59 fun e60 => (U.bin .sub x5 (.int .i64 1)).bind fun t61 => U.asInt t61 fun n62 => U.elemAt 2 e60 n62 fun e63 => U.fieldAt 0 0 e63 fun f64 => U.asVar false 1 f64 fun e65 => U.asAgg e46 fun us66 => if 0 = sizes (us66.take 0) then (us66[0]?).bind fun e67 => U.asVar false 1 e67 fun e68 => (U.bin .geq e65 e68).bind fun t69 => U.asBool t69
 (some (.bool false))
 ((U.bin .add x5 (.int .i64 1)).bind fun t70 => f69_l0 E t70 b1) else none else none)
 ((U.bin .add x5 (.int .i64 1)).bind fun t71 => f69_l0 E t71 b1)) else none) else none else none else none)
 (U.asAgg b1 fun us72 => if 0 = sizes (us72.take 0) then (us72[0]?).bind fun e73 => U.asVar false 1 e73 fun e74 => (E 6 [e74, (.int .i64 1), (.int .i64 9)]).bind fun t75 => (U.un .not t75).bind fun t76 => U.asBool t76
 (some (.bool false))
 (U.asAgg b1 fun us77 => if 1 = sizes (us77.take 1) then (us77[1]?).bind fun e78 => U.asVar false 1 e78 fun e79 => (E 6 [e79, (.int .i64 1), (.int .i64 4)]).bind fun t80 => (U.un .not t80).bind fun t81 => U.asBool t81
 (some (.bool false))
 (U.asAgg b1 fun us82 => if 3 = sizes (us82.take 3) then (us82[3]?).bind fun e83 => U.asVar false 1 e83 fun e84 => (E 6 [e84, (.int .i64 0), (.int .i64 999)]).bind fun t85 => (U.un .not t85).bind fun t86 => U.asBool t86
 (some (.bool false))
 (U.asAgg b1 fun us87 => if 2 = sizes (us87.take 2) then (us87[2]?).bind fun e88 => U.asVar false 1 e88 fun e89 => (E 6 [e89, (.int .i64 1), (.int .i64 3)]).bind fun t90 => U.asBool t90
 (U.asAgg b1 fun us91 => if 4 = sizes (us91.take 4) then (us91[4]?).bind fun e92 => U.asVar false 1 e92 fun e93 => (E 6 [e93, (.int .i64 0), (.int .i64 999)]).bind fun t94 => U.asBool t94
 (U.asAgg b1 fun us95 => if 5 = sizes (us95.take 5) then (us95[5]?).bind fun e96 => U.asVar false 1 e96 fun e97 => (E 6 [e97, (.int .i64 1), (.int .i64 1000)]).bind fun t98 => U.asBool t98
 (U.asAgg b1 fun us99 => if 2 = sizes (us99.take 2) then (us99[2]?).bind fun e100 => U.asVar false 1 e100 fun e101 => (U.bin .eql e101 (.int .i64 2)).bind fun t102 => U.asAgg b1 fun us103 => if 6 = sizes (us103.take 6) then (us103[6]?).bind fun e104 => U.asVar false 1 e104 fun e105 => (U.bin .gtr e105 (.int .i64 0)).bind fun t106 => (U.eqv 0 t102 t106).bind fun q107 => U.asBool (.bool q107)
 (U.asAgg b1 fun us108 => if 6 = sizes (us108.take 6) then (us108[6]?).bind fun e109 => U.asVar false 1 e109 fun e110 => (E 6 [e110, (.int .i64 0), (.int .i64 999)]).bind fun t111 => U.asBool t111
 (U.asAgg b1 fun us112 => if 7 = sizes (us112.take 7) then (us112[7]?).bind fun e113 => U.asVar false 1 e113 fun e114 => (U.lenOf false e114).bind fun n115 => (U.bin .leq (.int .i64 (n115 : Int)) (.int .i64 60)).bind fun t116 => some t116 else none)
 (some (.bool false)) else none)
 (some (.bool false)) else none else none)
 (some (.bool false)) else none)
 (some (.bool false)) else none)
 (some (.bool false)) else none) else none) else none) else none) else none :=
 (loop_eq E _ _ _ _).trans (by kernel_rfl)
structure G_f69 (E : Env) : Prop where
  is : Is E 70 1 f69_ac [(2, none)]
  c_f73 : G_f73 E
  c_f74 : G_f74 E
theorem f69_E {E : Env} (h : G_f69 E) (a0 : U) : E 70 [a0] =
 U.noTup a0 fun x1 => f69_l1 E (.int .i64 0) x1 := (h.is _ rfl).trans ((runQ_V rfl).trans (by kernel_rfl))
def f76_b0 : AC :=
 (.seq (.seq (.region 14 [oo 7 (.mv (.t 5)),
  oo 8 (.mv (.t 0)),
  oo 9 (.len false (.t 8)),
  oo 10 (.bin .lss (.t 7) (.t 9)),
  oo 11 (.mv (.t 10)),
  ⟨some 12, .mv (.t 0), some (11, true)⟩,
  ⟨some 13, .mv (.t 5), some (11, true)⟩,
  ⟨some 14, .iaddr 2 (.t 12) (.t 13), some (11, true)⟩,
  ⟨some 15, .faddr 0 0 (.t 14), some (11, true)⟩,
  ⟨some 16, .load false 1 (.t 15), some (11, true)⟩,
  ⟨some 17, .faddr 0 0 (.t 3), some (11, true)⟩,
  ⟨some 18, .load false 1 (.t 17), some (11, true)⟩,
  ⟨some 19, .bin .lss (.t 16) (.t 18), some (11, true)⟩,
  oo 20 (.pick (.t 11) (.t 19) (.c (.bool false)))])
 (.cond (.t 20) .skip (.exit 0)))
 (.block 1 (rg [oo 21 (.mv (.t 5)),
  oo 22 (.bin .add (.t 21) (ci 1)),
  oo 5 (.mv (.t 22))])))
def f76_r0 : AC :=
 (.seq (.regC 7 [23, 27] [oo 23 (.bslice 1 23 2 0 (.agg [(.int .i64 0), (.int .i64 0)]) []),
  oo 24 (.mv (.t 0)),
  oo 25 (.mv (.t 5)),
  oo 26 (.slice false 2 (.t 24) none (some (.t 25))),
  oo 27 (.append false 27 2 16 (.t 23) (.t 26)),
  oo 28 (.load true 2 (.t 3)),
  oo 29 (.bslice 0 29 2 1 (.agg [(.int .i64 0), (.int .i64 0)]) [(0, (.t 28))]),
  oo 30 (.append false 30 2 16 (.t 27) (.t 29)),
  oo 6 (.mv (.t 30))])
 (.seq (.seq (.region 14 [oo 31 (.mv (.t 5)),
  oo 32 (.mv (.t 0)),
  oo 33 (.len false (.t 32)),
  oo 34 (.bin .lss (.t 31) (.t 33)),
  oo 35 (.mv (.t 34)),
  ⟨some 36, .mv (.t 0), some (35, true)⟩,
  ⟨some 37, .mv (.t 5), some (35, true)⟩,
  ⟨some 38, .iaddr 2 (.t 36) (.t 37), some (35, true)⟩,
  ⟨some 39, .faddr 0 0 (.t 38), some (35, true)⟩,
  ⟨some 40, .load false 1 (.t 39), some (35, true)⟩,
  ⟨some 41, .faddr 0 0 (.t 3), some (35, true)⟩,
  ⟨some 42, .load false 1 (.t 41), some (35, true)⟩,
  ⟨some 43, .bin .eql (.t 40) (.t 42), some (35, true)⟩,
  oo 44 (.pick (.t 35) (.t 43) (.c (.bool false)))])
 (.cond (.t 44) (rg [oo 45 (.mv (.t 5)),
  oo 46 (.bin .add (.t 45) (ci 1)),
  oo 5 (.mv (.t 46))]) .skip))
 (.seq (rg [oo 47 (.mv (.t 6)),
  oo 48 (.mv (.t 0)),
  oo 49 (.mv (.t 5)),
  oo 50 (.slice false 2 (.t 48) (some (.t 49)) none),
  oo 51 (.append false 51 2 16 (.t 47) (.t 50)),
  oo 4 (.mv (.t 51))])
 .ret)))
def f76_ac : AC :=
 (.seq (rg [oo 3 (.box false 3 (.t 1)),
  oo 4 (.mv (.c (.nsl 2)))])
 (.seq (rg [oo 5 (.mv (ci 0))])
 (.seq (.block 0 (.loop ⟨[0, 3, 5], [], [(3, false)]⟩ f76_b0))
 f76_r0)))
noncomputable def f76_l0 (E : Env) (x0 : U) (x5 : U) (b3 : U) : Option U := loopK (roundOf E ⟨[0, 3, 5], [], [(3, false)]⟩ f76_b0 (blockK 0 (seqK (fun s => exec E f76_r0 s (finish [(4, none)])) (finish [(4, none)])))) ([.val x0, .ptr 3 [], .val x5], [.box (.val b3)])
theorem f76_l0_eq (E : Env) (x0 : U) (x5 : U) (b3 : U) : f76_l0 E x0 x5 b3 =
 (U.lenOf false x0).bind fun n2 => (U.bin .lss x5 (.int .i64 (n2 : Int))).bind fun t3 => U.asBool t3
 (U.asInt x5 fun n4 => U.elemAt 2 x0 n4 fun e5 => U.fieldAt 0 0 e5 fun f6 => U.asVar false 1 f6 fun e7 => U.asAgg b3 fun us8 => if 0 = sizes (us8.take 0) then (us8[0]?).bind fun e9 => U.asVar false 1 e9 fun e10 => (U.bin .lss e7 e10).bind fun t11 => U.asBool t11
 ((U.bin .add x5 (.int .i64 1)).bind fun t12 => f76_l0 E x0 t12 b3)
 (U.asInt x5 fun n13 => (U.cut false 2 x0 none (some n13)).bind fun t14 => U.asVar true 2 b3 fun e15 => if partable (.val e15) = true ∧ e15.size = 2 then (U.elems 2 t14).bind fun ys16 => if 2 = 2 ∧ 2 = 2 ∧ ((([] : List U)).length + (ys16 : List U).length) * 16 ≤ 140737488355328 then if 2 = 2 ∧ 2 = 2 ∧ (((([] : List U) ++ ys16)).length + ([e15] : List U).length) * 16 ≤ 140737488355328 then (U.lenOf false x0).bind fun n17 => (U.bin .lss x5 (.int .i64 (n17 : Int))).bind fun t18 => U.asBool t18
 (U.asInt x5 fun n19 => U.elemAt 2 x0 n19 fun e20 => U.fieldAt 0 0 e20 fun f21 => U.asVar false 1 f21 fun e22 => U.asAgg b3 fun us23 => if 0 = sizes (us23.take 0) then (us23[0]?).bind fun e24 => U.asVar false 1 e24 fun e25 => (U.bin .eql e22 e25).bind fun t26 => U.asBool t26
 ((U.bin .add x5 (.int .i64 1)).bind fun t27 => U.asInt t27 fun n28 => (U.cut false 2 x0 (some n28) none).bind fun t29 => (U.elems 2 t29).bind fun ys30 => if 2 = 2 ∧ 2 = 2 ∧ ((((([] : List U) ++ ys16) ++ ([e15] : List U))).length + (ys30 : List U).length) * 16 ≤ 140737488355328 then some (.sl 2 (((([] : List U) ++ ys16) ++ ([e15] : List U)) ++ ys30)) else none)
 (U.asInt x5 fun n31 => (U.cut false 2 x0 (some n31) none).bind fun t32 => (U.elems 2 t32).bind fun ys33 => if 2 = 2 ∧ 2 = 2 ∧ ((((([] : List U) ++ ys16) ++ ([e15] : List U))).length + (ys33 : List U).length) * 16 ≤ 140737488355328 then some (.sl 2 (((([] : List U) ++ ys16) ++ ([e15] : List U)) ++ ys33)) else none) else none)
 (U.asInt x5 fun n34 => (U.cut false 2 x0 (some n34) none).bind fun t35 => (U.elems 2 t35).bind fun ys36 => if 2 = 2 ∧ 2 = 2 ∧ ((((([] : List U) ++ ys16) ++ ([e15] : List U))).length + (ys36 : List U).length) * 16 ≤ 140737488355328 then some (.sl 2 (((([] : List U) ++ ys16) ++ ([e15] : List U)) ++ ys36)) else none) else none else none else none) else none)
 (U.asInt x5 fun n37 => (U.cut false 2 x0 none (some n37)).bind fun t38 => U.asVar true 2 b3 fun e39 => if partable (.val e39) = true ∧ e39.size = 2 then (U.elems 2 t38).bind fun ys40 => if 2 = 2 ∧ 2 = 2 ∧ ((([] : List U)).length + (ys40 : List U).length) * 16 ≤ 140737488355328 then if 2 = 2 ∧ 2 = 2 ∧ (((([] : List U) ++ ys40)).length + ([e39] : List U).length) * 16 ≤ 140737488355328 then (U.lenOf false x0).bind fun n41 => (U.bin .lss x5 (.int .i64 (n41 : Int))).bind fun t42 => U.asBool t42
 (U.asInt x5 fun n43 => U.elemAt 2 x0 n43 fun e44 => U.fieldAt 0 0 e44 fun f45 => U.asVar false 1 f45 fun e46 => U.asAgg b3 fun us47 => if 0 = sizes (us47.take 0) then (us47[0]?).bind fun e48 => U.asVar false 1 e48 fun e49 => (U.bin .eql e46 e49).bind fun t50 => U.asBool t50
 ((U.bin .add x5 (.int .i64 1)).bind fun t51 => U.asInt t51 fun n52 => (U.cut false 2 x0 (some n52) none).bind fun t53 => (U.elems 2 t53).bind fun ys54 => if 2 = 2 ∧ 2 = 2 ∧ ((((([] : List U) ++ ys40) ++ ([e39] : List U))).length + (ys54 : List U).length) * 16 ≤ 140737488355328 then some (.sl 2 (((([] : List U) ++ ys40) ++ ([e39] : List U)) ++ ys54)) else none)
 (U.asInt x5 fun n55 => (U.cut false 2 x0 (some n55) none).bind fun t56 => (U.elems 2 t56).bind fun ys57 => if 2 = 2 ∧ 2 = 2 ∧ ((((([] : List U) ++ ys40) ++ ([e39] : List U))).length + (ys57 : List U).length) * 16 ≤ 140737488355328 then some (.sl 2 (((([] : List U) ++ ys40) ++ ([e39] : List U)) ++ ys57)) else none) else none)
 (U.asInt x5 fun n58 => (U.cut false 2 x0 (some n58) none).bind fun t59 => (U.elems 2 t59).bind fun ys60 => if 2 = 2 ∧ 2 = 2 ∧ ((((([] : List U) ++ ys40) ++ ([e39] : List U))).length + (ys60 : List U).length) * 16 ≤ 140737488355328 then some (.sl 2 (((([] : List U) ++ ys40) ++ ([e39] : List U)) ++ ys60)) else none) else none else none else none) :=
 (loop_eq E _ _ _ _).trans (by kernel_rfl)
structure G_f76 (E : Env) : Prop where
  is : Is E 336 2 f76_ac [(4, none)]
theorem f76_E {E : Env} (h : G_f76 E) (a0 a1 : U) : E 336 [a0, a1] =
 U.noTup a1 fun x1 => f76_l0 E a0 (.int .i64 0) x1 := (h.is _ rfl).trans ((runQ_V rfl).trans (by kernel_rfl))
def f72_ac : AC :=
 (.seq (rg [oo 4 (.box false 4 (.t 0)),
  oo 5 (.box false 5 (.t 1)),
  oo 8 (.alloc 8 (.agg [(.int .i64 0), (.int .i64 0), (.int .i64 0), (.int .i64 0), (.int .i64 0), (.int .i64 0), (.int .i64 0), (.nsl 2), (.nsl 2)])),
  oo 9 (.mv (.c (.bool false)))])
 (.seq (rg [oo 11 (.load true 9 (.t 5)),
  oo 12 (.call false 212 [(.t 11)]),
  oo 10 (.alloc 10 (.agg [(.int .i64 0), (.int .i64 0), (.int .i64 0), (.int .i64 0), (.int .i64 0), (.int .i64 0), (.int .i64 0), (.nsl 2), (.nsl 2)])),
  ⟨none, .store 9 (.t 10) (.t 12), none⟩])
 (.seq (.seq (rg [oo 13 (.load true 1 (.t 4)),
  oo 14 (.call false 103 [(.t 13)]),
  oo 15 (.un .not (.t 14)),
  oo 16 (.mv (.t 15)),
  ⟨some 17, .load true 9 (.t 5), some (16, false)⟩,
  ⟨some 18, .call false 70 [(.t 17)], some (16, false)⟩,
  ⟨some 19, .un .not (.t 18), some (16, false)⟩,
  oo 20 (.pick (.t 16) (.c (.bool true)) (.t 19)),
  oo 21 (.mv (.t 20)),
  ⟨some 22, .faddr 2 2 (.t 5), some (21, false)⟩,
  ⟨some 23, .load false 1 (.t 22), some (21, false)⟩,
  ⟨some 24, .bin .neq (.t 23) (ci 1), some (21, false)⟩,
  oo 25 (.pick (.t 21) (.c (.bool true)) (.t 24)),
  oo 26 (.mv (.t 25)),
  ⟨some 27, .mv (.t 2), some (26, false)⟩,
  ⟨some 28, .call false 6 [(.t 27), (ci 0), (ci 5)], some (26, false)⟩,
  ⟨some 29, .un .not (.t 28), some (26, false)⟩,
  oo 30 (.pick (.t 26) (.c (.bool true)) (.t 29)),
  oo 31 (.mv (.t 30)),
  ⟨some 32, .mv (.t 3), some (31, false)⟩,
  ⟨some 33, .call false 6 [(.t 32), (ci (-1)), (ci 99)], some (31, false)⟩,
  ⟨some 34, .un .not (.t 33), some (31, false)⟩,
  oo 35 (.pick (.t 31) (.c (.bool true)) (.t 34))])
 (.cond (.t 35) (.seq (rg [oo 36 (.load true 9 (.t 10)),
  ⟨none, .store 9 (.t 8) (.t 36), none⟩,
  oo 9 (.mv (.c (.bool false)))])
 .ret) .skip))
 (.seq (rg [oo 37 (.faddr 8 8 (.t 5)),
  oo 38 (.load false 1 (.t 37)),
  oo 39 (.mv (.t 2)),
  oo 40 (.mv (.t 3)),
  oo 41 (.build [(.int .i64 0), (.int .i64 0)] [(0, (.t 39)), (1, (.t 40))]),
  oo 42 (.call false 336 [(.t 38), (.t 41)]),
  oo 43 (.faddr 8 8 (.t 10)),
  ⟨none, .store 1 (.t 43) (.t 42), none⟩])
 (.seq (.region 11 [oo 44 (.faddr 4 4 (.t 5)),
  oo 45 (.load false 1 (.t 44)),
  oo 46 (.faddr 0 0 (.t 4)),
  oo 47 (.load false 1 (.t 46)),
  oo 48 (.mv (.t 2)),
  oo 49 (.iaddr 1 (.t 47) (.t 48)),
  oo 50 (.load false 1 (.t 49)),
  oo 51 (.call false 216 [(.t 50)]),
  oo 52 (.field false 1 3 3 (.t 51)),
  oo 53 (.minmax true [(.t 45), (.t 52)]),
  oo 54 (.faddr 4 4 (.t 10)),
  ⟨none, .store 1 (.t 54) (.t 53), none⟩])
 (.seq (rg [oo 55 (.load true 9 (.t 10)),
  ⟨none, .store 9 (.t 8) (.t 55), none⟩,
  oo 9 (.mv (.c (.bool true)))])
 .ret))))))
structure G_f72 (E : Env) : Prop where
  is : Is E 335 4 f72_ac [(8, some (true, 9)), (9, none)]
  c_f71 : G_f71 E
  c_f75 : G_f75 E
  c_f68 : G_f68 E
  c_f69 : G_f69 E
  c_f73 : G_f73 E
  c_f76 : G_f76 E
theorem f72_E {E : Env} (h : G_f72 E) (a0 a1 a2 a3 : U) : E 335 [a0, a1, a2, a3] =
 U.noTup a0 fun x1 => U.noTup a1 fun x2 => U.asVar true 9 x2 fun e3 => (E 212 [e3]).bind fun t4 => if storable (.val t4) = true ∧ t4.size = 9 then U.asVar true 1 x1 fun e5 => (E 103 [e5]).bind fun t6 => (U.un .not t6).bind fun t7 => U.asBool t7
 (U.asVar true 9 t4 fun e8 => if storable (.val e8) = true ∧ e8.size = 9 then U.asVar true 9 e8 fun e9 => U.noTup e9 fun x10 => some (.tup [x10, (.bool false)]) else none)
 (U.asVar true 9 x2 fun e11 => (E 70 [e11]).bind fun t12 => (U.un .not t12).bind fun t13 => U.asBool t13
 (U.asVar true 9 t4 fun e14 => if storable (.val e14) = true ∧ e14.size = 9 then U.asVar true 9 e14 fun e15 => U.noTup e15 fun x16 => some (.tup [x16, (.bool false)]) else none)
 (U.asAgg x2 fun us17 => if 2 = sizes (us17.take 2) then (us17[2]?).bind fun e18 => U.asVar false 1 e18 fun e19 => (U.bin .neq e19 (.int .i64 1)).bind fun t20 => U.asBool t20
 (U.asVar true 9 t4 fun e21 => if storable (.val e21) = true ∧ e21.size = 9 then U.asVar true 9 e21 fun e22 => U.noTup e22 fun x23 => some (.tup [x23, (.bool false)]) else none)
 ((E 6 [a2, (.int .i64 0), (.int .i64 5)]).bind fun t24 => (U.un .not t24).bind fun t25 => U.asBool t25
 (U.asVar true 9 t4 fun e26 => if storable (.val e26) = true ∧ e26.size = 9 then U.asVar true 9 e26 fun e27 => U.noTup e27 fun x28 => some (.tup [x28, (.bool false)]) else none)
 ((E 6 [a3, (.int .i64 (-1)), (.int .i64 99)]).bind fun t29 => (U.un .not t29).bind fun t30 => U.asBool t30
 (U.asVar true 9 t4 fun e31 => if storable (.val e31) = true ∧ e31.size = 9 then U.asVar true 9 e31 fun e32 => U.noTup e32 fun x33 => some (.tup [x33, (.bool false)]) else none)
 (U.asAgg x2 fun us34 => if 8 = sizes (us34.take 8) then (us34[8]?).bind fun e35 => U.asVar false 1 e35 fun e36 => if partable (.val a2) = true ∧ a2.size = 1 then if partable (.val a3) = true ∧ a3.size = 1 then (E 336 [e36, (.agg [a2, a3])]).bind fun t37 => if storable (.val t37) = true ∧ t37.size = 1 then U.asAgg t4 fun us38 => if 8 = sizes (us38.take 8) then (us38[8]?).bind fun e39 => if e39.size = 1 then U.asAgg x2 fun us40 => if 4 = sizes (us40.take 4) then (us40[4]?).bind fun e41 => U.asVar false 1 e41 fun e42 => U.asAgg x1 fun us43 => if 0 = sizes (us43.take 0) then (us43[0]?).bind fun e44 => U.asVar false 1 e44 fun e45 => U.asInt a2 fun n46 => U.elemAt 1 e45 n46 fun e47 => U.asVar false 1 e47 fun e48 => (E 216 [e48]).bind fun t49 => U.fieldAt 3 3 t49 fun f50 => U.asVar false 1 f50 fun e51 => U.asInt e42 fun n52 => U.asInt e51 fun n53 => U.asAgg (.agg (us38.set 8 t37)) fun us54 => if 4 = sizes (us54.take 4) then (us54[4]?).bind fun e55 => if e55.size = 1 then U.asVar true 9 (.agg (us54.set 4 (.int .i64 (([n53] : List Int).foldl (fun a b => if true then (if a < b then b else a) else (if b < a then b else a)) n52)))) fun e56 => if storable (.val e56) = true ∧ e56.size = 9 then U.asVar true 9 e56 fun e57 => U.noTup e57 fun x58 => some (.tup [x58, (.bool true)]) else none else none else none else none else none else none else none else none else none else none else none))) else none)) else none := (h.is _ rfl).trans ((runQ_V rfl).trans (by kernel_rfl))
def f54_ac : AC :=
 (.seq (rg [oo 1 (.box false 1 (.t 0)),
  oo 2 (.alloc 2 (.agg [(.int .i64 0), (.int .i64 0), (.int .i64 0), (.int .i64 0), (.int .i64 0)]))])
 (.seq (rg [oo 3 (.alloc 3 (.agg [(.int .i64 0), (.int .i64 0), (.int .i64 0), (.int .i64 0), (.int .i64 0)]))])
 (.seq (rg [oo 4 (.faddr 0 0 (.t 1)),
  oo 5 (.load false 1 (.t 4)),
  oo 6 (.faddr 0 0 (.t 3)),
  ⟨none, .store 1 (.t 6) (.t 5), none⟩])
 (.seq (rg [oo 7 (.faddr 1 1 (.t 1)),
  oo 8 (.load false 1 (.t 7)),
  oo 9 (.faddr 1 1 (.t 3)),
  ⟨none, .store 1 (.t 9) (.t 8), none⟩])
 (.seq (rg [oo 10 (.faddr 2 2 (.t 1)),
  oo 11 (.load false 1 (.t 10)),
  oo 12 (.faddr 2 2 (.t 3)),
  ⟨none, .store 1 (.t 12) (.t 11), none⟩])
 (.seq (rg [oo 13 (.faddr 3 3 (.t 1)),
  oo 14 (.load false 1 (.t 13)),
  oo 15 (.faddr 3 3 (.t 3)),
  ⟨none, .store 1 (.t 15) (.t 14), none⟩])
 (.seq (rg [oo 16 (.faddr 4 4 (.t 1)),
  oo 17 (.load false 1 (.t 16)),
  oo 18 (.faddr 4 4 (.t 3)),
  ⟨none, .store 1 (.t 18) (.t 17), none⟩])
 (.seq (rg [oo 19 (.load true 5 (.t 3)),
  ⟨none, .store 5 (.t 2) (.t 19), none⟩])
 .ret))))))))
structure G_f54 (E : Env) : Prop where
  is : Is E 109 1 f54_ac [(2, some (true, 5))]
theorem f54_E {E : Env} (h : G_f54 E) (a0 : U) : E 109 [a0] =
 U.noTup a0 fun x1 => U.asAgg x1 fun us2 => if 0 = sizes (us2.take 0) then (us2[0]?).bind fun e3 => U.asVar false 1 e3 fun e4 => if storable (.val e4) = true ∧ e4.size = 1 then U.asAgg x1 fun us5 => if 1 = sizes (us5.take 1) then (us5[1]?).bind fun e6 => U.asVar false 1 e6 fun e7 => if storable (.val e7) = true ∧ e7.size = 1 then if 1 = sizes [e4] then U.asAgg x1 fun us8 => if 2 = sizes (us8.take 2) then (us8[2]?).bind fun e9 => U.asVar false 1 e9 fun e10 => if storable (.val e10) = true ∧ e10.size = 1 then if 2 = sizes [e4, e7] then U.asAgg x1 fun us11 => if 3 = sizes (us11.take 3) then (us11[3]?).bind fun e12 => U.asVar false 1 e12 fun e13 => if storable (.val e13) = true ∧ e13.size = 1 then if 3 = sizes [e4, e7, e10] then U.asAgg x1 fun us14 => if 4 = sizes (us14.take 4) then (us14[4]?).bind fun e15 => U.asVar false 1 e15 fun e16 => if storable (.val e16) = true ∧ e16.size = 1 then if 4 = sizes [e4, e7, e10, e13] then U.asVar true 5 (.agg [e4, e7, e10, e13, e16]) fun e17 => if storable (.val e17) = true ∧ e17.size = 5 then U.asVar true 5 e17 fun e18 => some e18 else none else none else none else none else none else none else none else none else none else none else none else none else none else none else none := (h.is _ rfl).trans ((runQ_V rfl).trans (by kernel_rfl))
def f55_b0 : AC :=
 (.seq (.seq (rg [oo 8 (.mv (.t 4)),
  oo 9 (.mv (.t 0)),
  oo 10 (.len false (.t 9)),
  oo 11 (.bin .lss (.t 8) (.t 10))])
 (.cond (.t 11) .skip (.exit 0)))
 (.seq (.block 1 (rg [oo 14 (.mv (.t 3)),
  oo 15 (.mv (.t 4)),
  oo 16 (.mv (.t 0)),
  oo 17 (.mv (.t 4)),
  oo 18 (.iaddr 5 (.t 16) (.t 17)),
  oo 19 (.load true 5 (.t 18)),
  oo 20 (.call false 109 [(.t 19)]),
  oo 21 (.iaddr 5 (.t 14) (.t 15)),
  ⟨none, .store 5 (.t 21) (.t 20), none⟩]))
 (rg [oo 12 (.mv (.t 4)),
  oo 13 (.bin .add (.t 12) (ci 1)),
  oo 4 (.mv (.t 13))])))
def f55_r0 : AC :=
 (.seq (rg [oo 22 (.mv (.t 3)),
  oo 2 (.mv (.t 22))])
 .ret)
def f55_ac : AC :=
 (.seq (rg [oo 2 (.mv (.c (.nsl 5)))])
 (.seq (rg [oo 5 (.mv (.t 0)),
  oo 6 (.len false (.t 5)),
  oo 7 (.mkslice 7 5 40 (.agg [(.int .i64 0), (.int .i64 0), (.int .i64 0), (.int .i64 0), (.int .i64 0)]) (.t 6) (.t 6)),
  oo 3 (.mv (.t 7))])
 (.seq (.seq (rg [oo 4 (.mv (ci 0))])
 (.block 0 (.loop ⟨[0, 4], [(3, 5, false)], []⟩ f55_b0)))
 f55_r0)))
noncomputable def f55_l0 (E : Env) (x0 : U) (x4 : U) (c3 : List U) : Option U := loopK (roundOf E ⟨[0, 4], [(3, 5, false)], []⟩ f55_b0 (blockK 0 (seqK (fun s => exec E f55_r0 s (finish [(2, none)])) (finish [(2, none)])))) ([.val x0, .val x4], [.vir (.asl 5 c3)])
theorem f55_l0_eq (E : Env) (x0 : U) (x4 : U) (c3 : List U) : f55_l0 E x0 x4 c3 =
 (U.lenOf false x0).bind fun n2 => (U.bin .lss x4 (.int .i64 (n2 : Int))).bind fun t3 => U.asBool t3
 (U.asInt x4 fun n4 => U.elemAt 5 x0 n4 fun e5 => U.asVar true 5 e5 fun e6 => (E 109 [e6]).bind fun t7 => U.asInt x4 fun n8 => if 5 = 5 ∧ 0 ≤ n8 ∧ n8 < ((c3).length : Int) then if storable (.val t7) = true ∧ t7.size = 5 then (c3[(n8 : Int).toNat]?).bind fun e9 => if e9.size = 5 then (U.bin .add x4 (.int .i64 1)).bind fun t10 => f55_l0 E x0 t10 (c3.set (n8 : Int).toNat t7) else none else none else none)
 (some (.sl 5 c3)) :=
 (loop_eq E _ _ _ _).trans (by kernel_rfl)
structure G_f55 (E : Env) : Prop where
  is : Is E 108 1 f55_ac [(2, none)]
  c_f54 : G_f54 E
theorem f55_E {E : Env} (h : G_f55 E) (a0 : U) : E 108 [a0] =
 (U.lenOf false a0).bind fun n1 => if 0 ≤ (n1 : Int) ∧ (n1 : Int) ≤ (n1 : Int) ∧ (n1 : Int) * 40 ≤ 140737488355328 ∧ ((.agg [(.int .i64 0), (.int .i64 0), (.int .i64 0), (.int .i64 0), (.int .i64 0)]) : U).size = 5 then f55_l0 E a0 (.int .i64 0) (List.replicate ((n1 : Int) : Int).toNat (.agg [(.int .i64 0), (.int .i64 0), (.int .i64 0), (.int .i64 0), (.int .i64 0)])) else none := (h.is _ rfl).trans ((runQ_V rfl).trans (by kernel_rfl))
def f56_b0 : AC :=
 (.seq (.seq (rg [oo 8 (.mv (.t 4)),
  oo 9 (.mv (.t 0)),
  oo 10 (.len false (.t 9)),
  oo 11 (.bin .lss (.t 8) (.t 10))])
 (.cond (.t 11) .skip (.exit 0)))
 (.seq (.block 1 (rg [oo 14 (.mv (.t 3)),
  oo 15 (.mv (.t 4)),
  oo 16 (.mv (.t 0)),
  oo 17 (.mv (.t 4)),
  oo 18 (.iaddr 1 (.t 16) (.t 17)),
  oo 19 (.load false 1 (.t 18)),
  oo 20 (.call false 108 [(.t 19)]),
  oo 21 (.iaddr 1 (.t 14) (.t 15)),
  ⟨none, .store 1 (.t 21) (.t 20), none⟩]))
 (rg [oo 12 (.mv (.t 4)),
  oo 13 (.bin .add (.t 12) (ci 1)),
  oo 4 (.mv (.t 13))])))
def f56_r0 : AC :=
 (.seq (rg [oo 22 (.mv (.t 3)),
  oo 2 (.mv (.t 22))])
 .ret)
def f56_ac : AC :=
 (.seq (rg [oo 2 (.mv (.c (.nsl 1)))])
 (.seq (rg [oo 5 (.mv (.t 0)),
  oo 6 (.len false (.t 5)),
  oo 7 (.mkslice 7 1 24 (.nsl 5) (.t 6) (.t 6)),
  oo 3 (.mv (.t 7))])
 (.seq (.seq (rg [oo 4 (.mv (ci 0))])
 (.block 0 (.loop ⟨[0, 4], [(3, 1, false)], []⟩ f56_b0)))
 f56_r0)))
noncomputable def f56_l0 (E : Env) (x0 : U) (x4 : U) (c3 : List U) : Option U := loopK (roundOf E ⟨[0, 4], [(3, 1, false)], []⟩ f56_b0 (blockK 0 (seqK (fun s => exec E f56_r0 s (finish [(2, none)])) (finish [(2, none)])))) ([.val x0, .val x4], [.vir (.asl 1 c3)])
theorem f56_l0_eq (E : Env) (x0 : U) (x4 : U) (c3 : List U) : f56_l0 E x0 x4 c3 =
 (U.lenOf false x0).bind fun n2 => (U.bin .lss x4 (.int .i64 (n2 : Int))).bind fun t3 => U.asBool t3
 (U.asInt x4 fun n4 => U.elemAt 1 x0 n4 fun e5 => U.asVar false 1 e5 fun e6 => (E 108 [e6]).bind fun t7 => U.asInt x4 fun n8 => if 1 = 1 ∧ 0 ≤ n8 ∧ n8 < ((c3).length : Int) then if storable (.val t7) = true ∧ t7.size = 1 then (c3[(n8 : Int).toNat]?).bind fun e9 => if e9.size = 1 then (U.bin .add x4 (.int .i64 1)).bind fun t10 => f56_l0 E x0 t10 (c3.set (n8 : Int).toNat t7) else none else none else none)
 (some (.sl 1 c3)) :=
 (loop_eq E _ _ _ _).trans (by kernel_rfl)
structure G_f56 (E : Env) : Prop where
  is : Is E 107 1 f56_ac [(2, none)]
  c_f55 : G_f55 E
theorem f56_E {E : Env} (h : G_f56 E) (a0 : U) : E 107 [a0] =
 (U.lenOf false a0).bind fun n1 => if 0 ≤ (n1 : Int) ∧ (n1 : Int) ≤ (n1 : Int) ∧ (n1 : Int) * 24 ≤ 140737488355328 ∧ ((.nsl 5) : U).size = 1 then f56_l0 E a0 (.int .i64 0) (List.replicate ((n1 : Int) : Int).toNat (.nsl 5)) else none := (h.is _ rfl).trans ((runQ_V rfl).trans (by kernel_rfl))
def f50_ac : AC :=
 (.seq (rg [oo 1 (.box false 1 (.t 0)),
  oo 2 (.alloc 2 (.agg [(.nsl 1)]))])
 (.seq (rg [oo 3 (.alloc 3 (.agg [(.nsl 1)]))])
 (.seq (rg [oo 4 (.faddr 0 0 (.t 1)),
  oo 5 (.load false 1 (.t 4)),
  oo 6 (.call false 107 [(.t 5)]),
  oo 7 (.faddr 0 0 (.t 3)),
  ⟨none, .store 1 (.t 7) (.t 6), none⟩])
 (.seq (rg [oo 8 (.load true 1 (.t 3)),
  ⟨none, .store 1 (.t 2) (.t 8), none⟩])
 .ret))))
structure G_f50 (E : Env) : Prop where
  is : Is E 93 1 f50_ac [(2, some (true, 1))]
  c_f56 : G_f56 E
theorem f50_E {E : Env} (h : G_f50 E) (a0 : U) : E 93 [a0] =
 U.noTup a0 fun x1 => U.asAgg x1 fun us2 => if 0 = sizes (us2.take 0) then (us2[0]?).bind fun e3 => U.asVar false 1 e3 fun e4 => (E 107 [e4]).bind fun t5 => if storable (.val t5) = true ∧ t5.size = 1 then U.asVar true 1 (.agg [t5]) fun e6 => if storable (.val e6) = true ∧ e6.size = 1 then U.asVar true 1 e6 fun e7 => some e7 else none else none else none := (h.is _ rfl).trans ((runQ_V rfl).trans (by kernel_rfl))
def f47_ac : AC :=
 (.seq (rg [oo 1 (.box false 1 (.t 0)),
  oo 2 (.alloc 2 (.agg [(.int .i64 0), (.int .i64 0)]))])
 (.seq (rg [oo 3 (.alloc 3 (.agg [(.int .i64 0), (.int .i64 0)]))])
 (.seq (rg [oo 4 (.faddr 0 0 (.t 1)),
  oo 5 (.load false 1 (.t 4)),
  oo 6 (.faddr 0 0 (.t 3)),
  ⟨none, .store 1 (.t 6) (.t 5), none⟩])
 (.seq (rg [oo 7 (.faddr 1 1 (.t 1)),
  oo 8 (.load false 1 (.t 7)),
  oo 9 (.faddr 1 1 (.t 3)),
  ⟨none, .store 1 (.t 9) (.t 8), none⟩])
 (.seq (rg [oo 10 (.load true 2 (.t 3)),
  ⟨none, .store 2 (.t 2) (.t 10), none⟩])
 .ret)))))
structure G_f47 (E : Env) : Prop where
  is : Is E 29 1 f47_ac [(2, some (true, 2))]
theorem f47_E {E : Env} (h : G_f47 E) (a0 : U) : E 29 [a0] =
 U.noTup a0 fun x1 => U.asAgg x1 fun us2 => if 0 = sizes (us2.take 0) then (us2[0]?).bind fun e3 => U.asVar false 1 e3 fun e4 => if storable (.val e4) = true ∧ e4.size = 1 then U.asAgg x1 fun us5 => if 1 = sizes (us5.take 1) then (us5[1]?).bind fun e6 => U.asVar false 1 e6 fun e7 => if storable (.val e7) = true ∧ e7.size = 1 then if 1 = sizes [e4] then U.asVar true 2 (.agg [e4, e7]) fun e8 => if storable (.val e8) = true ∧ e8.size = 2 then U.asVar true 2 e8 fun e9 => some e9 else none else none else none else none else none else none := (h.is _ rfl).trans ((runQ_V rfl).trans (by kernel_rfl))
def f48_b0 : AC :=
 (.seq (.seq (rg [oo 8 (.mv (.t 4)),
  oo 9 (.mv (.t 0)),
  oo 10 (.len false (.t 9)),
  oo 11 (.bin .lss (.t 8) (.t 10))])
 (.cond (.t 11) .skip (.exit 0)))
 (.seq (.block 1 (rg [oo 14 (.mv (.t 3)),
  oo 15 (.mv (.t 4)),
  oo 16 (.mv (.t 0)),
  oo 17 (.mv (.t 4)),
  oo 18 (.iaddr 2 (.t 16) (.t 17)),
  oo 19 (.load true 2 (.t 18)),
  oo 20 (.call false 29 [(.t 19)]),
  oo 21 (.iaddr 2 (.t 14) (.t 15)),
  ⟨none, .store 2 (.t 21) (.t 20), none⟩]))
 (rg [oo 12 (.mv (.t 4)),
  oo 13 (.bin .add (.t 12) (ci 1)),
  oo 4 (.mv (.t 13))])))
def f48_r0 : AC :=
 (.seq (rg [oo 22 (.mv (.t 3)),
  oo 2 (.mv (.t 22))])
 .ret)
def f48_ac : AC :=
 (.seq (rg [oo 2 (.mv (.c (.nsl 2)))])
 (.seq (rg [oo 5 (.mv (.t 0)),
  oo 6 (.len false (.t 5)),
  oo 7 (.mkslice 7 2 16 (.agg [(.int .i64 0), (.int .i64 0)]) (.t 6) (.t 6)),
  oo 3 (.mv (.t 7))])
 (.seq (.seq (rg [oo 4 (.mv (ci 0))])
 (.block 0 (.loop ⟨[0, 4], [(3, 2, false)], []⟩ f48_b0)))
 f48_r0)))
noncomputable def f48_l0 (E : Env) (x0 : U) (x4 : U) (c3 : List U) : Option U := loopK (roundOf E ⟨[0, 4], [(3, 2, false)], []⟩ f48_b0 (blockK 0 (seqK (fun s => exec E f48_r0 s (finish [(2, none)])) (finish [(2, none)])))) ([.val x0, .val x4], [.vir (.asl 2 c3)])
theorem f48_l0_eq (E : Env) (x0 : U) (x4 : U) (c3 : List U) : f48_l0 E x0 x4 c3 =
 (U.lenOf false x0).bind fun n2 => (U.bin .lss x4 (.int .i64 (n2 : Int))).bind fun t3 => U.asBool t3
 (U.asInt x4 fun n4 => U.elemAt 2 x0 n4 fun e5 => U.asVar true 2 e5 fun e6 => (E 29 [e6]).bind fun t7 => U.asInt x4 fun n8 => if 2 = 2 ∧ 0 ≤ n8 ∧ n8 < ((c3).length : Int) then if storable (.val t7) = true ∧ t7.size = 2 then (c3[(n8 : Int).toNat]?).bind fun e9 => if e9.size = 2 then (U.bin .add x4 (.int .i64 1)).bind fun t10 => f48_l0 E x0 t10 (c3.set (n8 : Int).toNat t7) else none else none else none)
 (some (.sl 2 c3)) :=
 (loop_eq E _ _ _ _).trans (by kernel_rfl)
structure G_f48 (E : Env) : Prop where
  is : Is E 28 1 f48_ac [(2, none)]
  c_f47 : G_f47 E
theorem f48_E {E : Env} (h : G_f48 E) (a0 : U) : E 28 [a0] =
 (U.lenOf false a0).bind fun n1 => if 0 ≤ (n1 : Int) ∧ (n1 : Int) ≤ (n1 : Int) ∧ (n1 : Int) * 16 ≤ 140737488355328 ∧ ((.agg [(.int .i64 0), (.int .i64 0)]) : U).size = 2 then f48_l0 E a0 (.int .i64 0) (List.replicate ((n1 : Int) : Int).toNat (.agg [(.int .i64 0), (.int .i64 0)])) else none := (h.is _ rfl).trans ((runQ_V rfl).trans (by kernel_rfl))
def f59_ac : AC :=
 (.seq (rg [oo 1 (.box false 1 (.t 0)),
  oo 2 (.alloc 2 (.agg [(.int .i64 0), (.int .i64 0)]))])
 (.seq (rg [oo 3 (.alloc 3 (.agg [(.int .i64 0), (.int .i64 0)]))])
 (.seq (rg [oo 4 (.faddr 0 0 (.t 1)),
  oo 5 (.load false 1 (.t 4)),
  oo 6 (.faddr 0 0 (.t 3)),
  ⟨none, .store 1 (.t 6) (.t 5), none⟩])
 (.seq (rg [oo 7 (.faddr 1 1 (.t 1)),
  oo 8 (.load false 1 (.t 7)),
  oo 9 (.faddr 1 1 (.t 3)),
  ⟨none, .store 1 (.t 9) (.t 8), none⟩])
 (.seq (rg [oo 10 (.load true 2 (.t 3)),
  ⟨none, .store 2 (.t 2) (.t 10), none⟩])
 .ret)))))
structure G_f59 (E : Env) : Prop where
  is : Is E 30 1 f59_ac [(2, some (true, 2))]
theorem f59_E {E : Env} (h : G_f59 E) (a0 : U) : E 30 [a0] =
 U.noTup a0 fun x1 => U.asAgg x1 fun us2 => if 0 = sizes (us2.take 0) then (us2[0]?).bind fun e3 => U.asVar false 1 e3 fun e4 => if storable (.val e4) = true ∧ e4.size = 1 then U.asAgg x1 fun us5 => if 1 = sizes (us5.take 1) then (us5[1]?).bind fun e6 => U.asVar false 1 e6 fun e7 => if storable (.val e7) = true ∧ e7.size = 1 then if 1 = sizes [e4] then U.asVar true 2 (.agg [e4, e7]) fun e8 => if storable (.val e8) = true ∧ e8.size = 2 then U.asVar true 2 e8 fun e9 => some e9 else none else none else none else none else none else none := (h.is _ rfl).trans ((runQ_V rfl).trans (by kernel_rfl))
def f60_b0 : AC :=
 (.seq (.seq (rg [oo 8 (.mv (.t 4)),
  oo 9 (.mv (.t 0)),
  oo 10 (.len false (.t 9)),
  oo 11 (.bin .lss (.t 8) (.t 10))])
 (.cond (.t 11) .skip (.exit 0)))
 (.seq (.block 1 (rg [oo 14 (.mv (.t 3)),
  oo 15 (.mv (.t 4)),
  oo 16 (.mv (.t 0)),
  oo 17 (.mv (.t 4)),
  oo 18 (.iaddr 2 (.t 16) (.t 17)),
  oo 19 (.load true 2 (.t 18)),
  oo 20 (.call false 30 [(.t 19)]),
  oo 21 (.iaddr 2 (.t 14) (.t 15)),
  ⟨none, .store 2 (.t 21) (.t 20), none⟩]))
 (rg [oo 12 (.mv (.t 4)),
  oo 13 (.bin .add (.t 12) (ci 1)),
  oo 4 (.mv (.t 13))])))
def f60_r0 : AC :=
 (.seq (rg [oo 22 (.mv (.t 3)),
  oo 2 (.mv (.t 22))])
 .ret)
def f60_ac : AC :=
 (.seq (rg [oo 2 (.mv (.c (.nsl 2)))])
 (.seq (rg [oo 5 (.mv (.t 0)),
  oo 6 (.len false (.t 5)),
  oo 7 (.mkslice 7 2 16 (.agg [(.int .i64 0), (.int .i64 0)]) (.t 6) (.t 6)),
  oo 3 (.mv (.t 7))])
 (.seq (.seq (rg [oo 4 (.mv (ci 0))])
 (.block 0 (.loop ⟨[0, 4], [(3, 2, false)], []⟩ f60_b0)))
 f60_r0)))
noncomputable def f60_l0 (E : Env) (x0 : U) (x4 : U) (c3 : List U) : Option U := loopK (roundOf E ⟨[0, 4], [(3, 2, false)], []⟩ f60_b0 (blockK 0 (seqK (fun s => exec E f60_r0 s (finish [(2, none)])) (finish [(2, none)])))) ([.val x0, .val x4], [.vir (.asl 2 c3)])
theorem f60_l0_eq (E : Env) (x0 : U) (x4 : U) (c3 : List U) : f60_l0 E x0 x4 c3 =
 (U.lenOf false x0).bind fun n2 => (U.bin .lss x4 (.int .i64 (n2 : Int))).bind fun t3 => U.asBool t3
 (U.asInt x4 fun n4 => U.elemAt 2 x0 n4 fun e5 => U.asVar true 2 e5 fun e6 => (E 30 [e6]).bind fun t7 => U.asInt x4 fun n8 => if 2 = 2 ∧ 0 ≤ n8 ∧ n8 < ((c3).length : Int) then if storable (.val t7) = true ∧ t7.size = 2 then (c3[(n8 : Int).toNat]?).bind fun e9 => if e9.size = 2 then (U.bin .add x4 (.int .i64 1)).bind fun t10 => f60_l0 E x0 t10 (c3.set (n8 : Int).toNat t7) else none else none else none)
 (some (.sl 2 c3)) :=
 (loop_eq E _ _ _ _).trans (by kernel_rfl)
structure G_f60 (E : Env) : Prop where
  is : Is E 27 1 f60_ac [(2, none)]
  c_f59 : G_f59 E
theorem f60_E {E : Env} (h : G_f60 E) (a0 : U) : E 27 [a0] =
 (U.lenOf false a0).bind fun n1 => if 0 ≤ (n1 : Int) ∧ (n1 : Int) ≤ (n1 : Int) ∧ (n1 : Int) * 16 ≤ 140737488355328 ∧ ((.agg [(.int .i64 0), (.int .i64 0)]) : U).size = 2 then f60_l0 E a0 (.int .i64 0) (List.replicate ((n1 : Int) : Int).toNat (.agg [(.int .i64 0), (.int .i64 0)])) else none := (h.is _ rfl).trans ((runQ_V rfl).trans (by kernel_rfl))
def f52_ac : AC :=
 (.seq (rg [oo 1 (.box false 1 (.t 0)),
  oo 2 (.alloc 2 (.agg [(.int .i64 0), (.int .i64 0), (.int .i64 0), (.int .i64 0), (.int .i64 0), (.int .i64 0), (.int .i64 0), (.nsl 2), (.nsl 2)]))])
 (.seq (rg [oo 3 (.alloc 3 (.agg [(.int .i64 0), (.int .i64 0), (.int .i64 0), (.int .i64 0), (.int .i64 0), (.int .i64 0), (.int .i64 0), (.nsl 2), (.nsl 2)]))])
 (.seq (rg [oo 4 (.faddr 0 0 (.t 1)),
  oo 5 (.load false 1 (.t 4)),
  oo 6 (.faddr 0 0 (.t 3)),
  ⟨none, .store 1 (.t 6) (.t 5), none⟩])
 (.seq (rg [oo 7 (.faddr 1 1 (.t 1)),
  oo 8 (.load false 1 (.t 7)),
  oo 9 (.faddr 1 1 (.t 3)),
  ⟨none, .store 1 (.t 9) (.t 8), none⟩])
 (.seq (rg [oo 10 (.faddr 2 2 (.t 1)),
  oo 11 (.load false 1 (.t 10)),
  oo 12 (.faddr 2 2 (.t 3)),
  ⟨none, .store 1 (.t 12) (.t 11), none⟩])
 (.seq (rg [oo 13 (.faddr 3 3 (.t 1)),
  oo 14 (.load false 1 (.t 13)),
  oo 15 (.faddr 3 3 (.t 3)),
  ⟨none, .store 1 (.t 15) (.t 14), none⟩])
 (.seq (rg [oo 16 (.faddr 4 4 (.t 1)),
  oo 17 (.load false 1 (.t 16)),
  oo 18 (.faddr 4 4 (.t 3)),
  ⟨none, .store 1 (.t 18) (.t 17), none⟩])
 (.seq (rg [oo 19 (.faddr 5 5 (.t 1)),
  oo 20 (.load false 1 (.t 19)),
  oo 21 (.faddr 5 5 (.t 3)),
  ⟨none, .store 1 (.t 21) (.t 20), none⟩])
 (.seq (rg [oo 22 (.faddr 6 6 (.t 1)),
  oo 23 (.load false 1 (.t 22)),
  oo 24 (.faddr 6 6 (.t 3)),
  ⟨none, .store 1 (.t 24) (.t 23), none⟩])
 (.seq (rg [oo 25 (.faddr 7 7 (.t 1)),
  oo 26 (.load false 1 (.t 25)),
  oo 27 (.call false 28 [(.t 26)]),
  oo 28 (.faddr 7 7 (.t 3)),
  ⟨none, .store 1 (.t 28) (.t 27), none⟩])
 (.seq (rg [oo 29 (.faddr 8 8 (.t 1)),
  oo 30 (.load false 1 (.t 29)),
  oo 31 (.call false 27 [(.t 30)]),
  oo 32 (.faddr 8 8 (.t 3)),
  ⟨none, .store 1 (.t 32) (.t 31), none⟩])
 (.seq (rg [oo 33 (.load true 9 (.t 3)),
  ⟨none, .store 9 (.t 2) (.t 33), none⟩])
 .ret))))))))))))
structure G_f52 (E : Env) : Prop where
  is : Is E 145 1 f52_ac [(2, some (true, 9))]
  c_f48 : G_f48 E
  c_f60 : G_f60 E
theorem f52_E {E : Env} (h : G_f52 E) (a0 : U) : E 145 [a0] =
 U.noTup a0 fun x1 => U.asAgg x1 fun us2 => if 0 = sizes (us2.take 0) then (us2[0]?).bind fun e3 => U.asVar false 1 e3 fun e4 => if storable (.val e4) = true ∧ e4.size = 1 then U.asAgg x1 fun us5 => if 1 = sizes (us5.take 1) then (us5[1]?).bind fun e6 => U.asVar false 1 e6 fun e7 => if storable (.val e7) = true ∧ e7.size = 1 then if 1 = sizes [e4] then U.asAgg x1 fun us8 => if 2 = sizes (us8.take 2) then (us8[2]?).bind fun e9 => U.asVar false 1 e9 fun e10 => if storable (.val e10) = true ∧ e10.size = 1 then if 2 = sizes [e4, e7] then U.asAgg x1 fun us11 => if 3 = sizes (us11.take 3) then (us11[3]?).bind fun e12 => U.asVar false 1 e12 fun e13 => if storable (.val e13) = true ∧ e13.size = 1 then if 3 = sizes [e4, e7, e10] then U.asAgg x1 fun us14 => if 4 = sizes (us14.take 4) then (us14[4]?).bind fun e15 => U.asVar false 1 e15 fun e16 => if storable (.val e16) = true ∧ e16.size = 1 then if 4 = sizes [e4, e7, e10, e13] then U.asAgg x1 fun us17 => if 5 = sizes (us17.take 5) then (us17[5]?).bind fun e18 => U.asVar false 1 e18 fun e19 => if storable (.val e19) = true ∧ e19.size = 1 then if 5 = sizes [e4, e7, e10, e13, e16] then U.asAgg x1 fun us20 => if 6 = sizes (us20.take 6) then (us20[6]?).bind fun e21 => U.asVar false 1 e21 fun e22 => if storable (.val e22) = true ∧ e22.size = 1 then if 6 = sizes [e4, e7, e10, e13, e16, e19] then U.asAgg x1 fun us23 => if 7 = sizes (us23.take 7) then (us23[7]?).bind fun e24 => U.asVar false 1 e24 fun e25 => (E 28 [e25]).bind fun t26 => if storable (.val t26) = true ∧ t26.size = 1 then if 7 = sizes [e4, e7, e10, e13, e16, e19, e22] then U.asAgg x1 fun us27 => if 8 = sizes (us27.take 8) then (us27[8]?).bind fun e28 => U.asVar false 1 e28 fun e29 => (E 27 [e29]).bind fun t30 => if storable (.val t30) = true ∧ t30.size = 1 then if 8 = sizes [e4, e7, e10, e13, e16, e19, e22, t26] then U.asVar true 9 (.agg [e4, e7, e10, e13, e16, e19, e22, t26, t30]) fun e31 => if storable (.val e31) = true ∧ e31.size = 9 then U.asVar true 9 e31 fun e32 => some e32 else none else none else none else none else none else none else none else none else none else none else none else none else none else none else none else none else none else none else none else none else none else none else none else none else none else none else none := (h.is _ rfl).trans ((runQ_V rfl).trans (by kernel_rfl))
def f66_b0 : AC :=
 (.seq (rg [oo 9 (.bin .lss (.t 8) (.t 7))])
 (.seq (.cond (.t 9) .skip (.exit 0))
 (.seq (.block 1 (.seq (rg [oo 10 (.mv (.t 8)),
  oo 5 (.mv (.t 10))])
 (.seq (rg [oo 11 (.mv (.t 1)),
  oo 12 (.mv (.t 0)),
  oo 13 (.mv (.t 5)),
  oo 14 (.iaddr 1 (.t 12) (.t 13)),
  oo 15 (.load false 1 (.t 14)),
  oo 16 (.callv false (.t 11) [(.t 15)])])
 (.cond (.t 16) (.seq (rg [oo 17 (.mv (.t 5)),
  oo 4 (.mv (.t 17))])
 .ret) .skip))))
 (rg [oo 18 (.bin .add (.t 8) (ci 1)),
  oo 8 (.mv (.t 18))]))))
def f66_r0 : AC :=
 (.seq (rg [oo 4 (.mv (ci (-1)))])
 .ret)
def f66_ac : AC :=
 (.seq (rg [oo 4 (.mv (ci 0))])
 (.seq (.seq (rg [oo 6 (.mv (.t 0)),
  oo 7 (.len false (.t 6)),
  oo 8 (.mv (ci 0))])
 (.block 0 (.loop ⟨[0, 1, 7, 8], [], []⟩ f66_b0)))
 f66_r0))
noncomputable def f66_l0 (E : Env) (x0 : U) (x1 : U) (x7 : U) (x8 : U) : Option U := loopK (roundOf E ⟨[0, 1, 7, 8], [], []⟩ f66_b0 (blockK 0 (seqK (fun s => exec E f66_r0 s (finish [(4, none)])) (finish [(4, none)])))) ([.val x0, .val x1, .val x7, .val x8], [])
theorem f66_l0_eq (E : Env) (x0 : U) (x1 : U) (x7 : U) (x8 : U) : f66_l0 E x0 x1 x7 x8 =
 (U.bin .lss x8 x7).bind fun t2 => U.asBool t2
 (U.asInt x8 fun n3 => U.elemAt 1 x0 n3 fun e4 => U.asVar false 1 e4 fun e5 => U.asFn x1 fun r6 caps7 => (E r6 ([e5] ++ caps7)).bind fun t8 => U.asBool t8
 (some x8)
 ((U.bin .add x8 (.int .i64 1)).bind fun t9 => f66_l0 E x0 x1 x7 t9))
 (some (.int .i64 (-1))) :=
 (loop_eq E _ _ _ _).trans (by kernel_rfl)
structure G_f66 (E : Env) : Prop where
  is : Is E 115 2 f66_ac [(4, none)]
theorem f66_E {E : Env} (h : G_f66 E) (a0 a1 : U) : E 115 [a0, a1] =
 (U.lenOf false a0).bind fun n1 => f66_l0 E a0 a1 (.int .i64 (n1 : Int)) (.int .i64 0) := (h.is _ rfl).trans ((runQ_V rfl).trans (by kernel_rfl))
def f65_ac : AC :=
 (.seq (rg [oo 4 (.mv (.c (.bool false)))])
 (.seq (rg [oo 5 (.mv (.t 0)),
  oo 6 (.mv (.t 1)),
  oo 7 (.call false 115 [(.t 5), (.t 6)]),
  oo 8 (.bin .geq (.t 7) (ci 0)),
  oo 4 (.mv (.t 8))])
 .ret))
structure G_f65 (E : Env) : Prop where
  is : Is E 114 2 f65_ac [(4, none)]
  c_f66 : G_f66 E
theorem f65_E {E : Env} (h : G_f65 E) (a0 a1 : U) : E 114 [a0, a1] =
 (E 115 [a0, a1]).bind fun t1 => (U.bin .geq t1 (.int .i64 0)).bind fun t2 => some t2 := (h.is _ rfl).trans ((runQ_V rfl).trans (by kernel_rfl))
def f19_ac : AC :=
 (.seq (rg [oo 6 (.mv (.c (.bool false)))])
 (.seq (rg [oo 7 (.mv (.t 1)),
  oo 8 (.mv (.t 0)),
  oo 9 (.bin .leq (.t 7) (.t 8)),
  oo 10 (.mv (.t 9)),
  ⟨some 11, .mv (.t 0), some (10, true)⟩,
  ⟨some 12, .mv (.t 2), some (10, true)⟩,
  ⟨some 13, .bin .leq (.t 11) (.t 12), some (10, true)⟩,
  oo 14 (.pick (.t 10) (.t 13) (.c (.bool false))),
  oo 6 (.mv (.t 14))])
 .ret))
structure G_f19 (E : Env) : Prop where
  is : Is E 10 3 f19_ac [(6, none)]
theorem f19_E {E : Env} (h : G_f19 E) (a0 a1 a2 : U) : E 10 [a0, a1, a2] =
 (U.bin .leq a1 a0).bind fun t1 => U.asBool t1
 ((U.bin .leq a0 a2).bind fun t2 => some t2)
 (some (.bool false)) := (h.is _ rfl).trans ((runQ_V rfl).trans (by kernel_rfl))
def f23_ac : AC :=
 (.seq (rg [oo 2 (.mv (.c (.bool false)))])
 (.seq (rg [oo 3 (.mv (.t 0)),
  oo 4 (.call false 10 [(.t 3), (ci (-1)), (ci 99)]),
  oo 2 (.mv (.t 4))])
 .ret))
structure G_f23 (E : Env) : Prop where
  is : Is E 76 1 f23_ac [(2, none)]
  c_f19 : G_f19 E
theorem f23_E {E : Env} (h : G_f23 E) (a0 : U) : E 76 [a0] =
 (E 10 [a0, (.int .i64 (-1)), (.int .i64 99)]).bind fun t1 => some t1 := (h.is _ rfl).trans ((runQ_V rfl).trans (by kernel_rfl))
def f20_ac : AC :=
 (.seq (rg [oo 2 (.mv (.c (.bool false)))])
 (.seq (rg [oo 3 (.mv (.t 0)),
  oo 4 (.call false 10 [(.t 3), (ci 1), (ci 9)]),
  oo 2 (.mv (.t 4))])
 .ret))
structure G_f20 (E : Env) : Prop where
  is : Is E 9 1 f20_ac [(2, none)]
  c_f19 : G_f19 E
theorem f20_E {E : Env} (h : G_f20 E) (a0 : U) : E 9 [a0] =
 (E 10 [a0, (.int .i64 1), (.int .i64 9)]).bind fun t1 => some t1 := (h.is _ rfl).trans ((runQ_V rfl).trans (by kernel_rfl))
def f8_ac : AC :=
 (.seq (rg [oo 1 (.box false 1 (.t 0)),
  oo 2 (.mv (.c (.bool false)))])
 (.seq (.seq (rg [oo 3 (.faddr 1 1 (.t 1)),
  oo 4 (.load false 1 (.t 3)),
  oo 5 (.call false 76 [(.t 4)]),
  oo 6 (.un .not (.t 5)),
  oo 7 (.mv (.t 6)),
  ⟨some 8, .faddr 2 2 (.t 1), some (7, false)⟩,
  ⟨some 9, .load false 1 (.t 8), some (7, false)⟩,
  ⟨some 10, .call false 10 [(.t 9), (ci 0), (ci 999)], some (7, false)⟩,
  ⟨some 11, .un .not (.t 10), some (7, false)⟩,
  oo 12 (.pick (.t 7) (.c (.bool true)) (.t 11)),
  oo 13 (.mv (.t 12)),
  ⟨some 14, .faddr 3 3 (.t 1), some (13, false)⟩,
  ⟨some 15, .load false 1 (.t 14), some (13, false)⟩,
  ⟨some 16, .faddr 2 2 (.t 1), some (13, false)⟩,
  ⟨some 17, .load false 1 (.t 16), some (13, false)⟩,
  ⟨some 18, .call false 10 [(.t 15), (.t 17), (ci 999)], some (13, false)⟩,
  ⟨some 19, .un .not (.t 18), some (13, false)⟩,
  oo 20 (.pick (.t 13) (.c (.bool true)) (.t 19)),
  oo 21 (.mv (.t 20)),
  ⟨some 22, .faddr 4 4 (.t 1), some (21, false)⟩,
  ⟨some 23, .load false 1 (.t 22), some (21, false)⟩,
  ⟨some 24, .call false 10 [(.t 23), (ci 1), (ci 1000)], some (21, false)⟩,
  ⟨some 25, .un .not (.t 24), some (21, false)⟩,
  oo 26 (.pick (.t 21) (.c (.bool true)) (.t 25))])
 (.cond (.t 26) (.seq (rg [oo 2 (.mv (.c (.bool false)))])
 .ret) .skip))
 (.seq (.seq (rg [oo 27 (.faddr 2 2 (.t 1)),
  oo 28 (.load false 1 (.t 27)),
  oo 29 (.bin .eql (.t 28) (ci 0))])
 (.cond (.t 29) (.seq (rg [oo 30 (.faddr 0 0 (.t 1)),
  oo 31 (.load false 1 (.t 30)),
  oo 32 (.bin .eql (.t 31) (ci 0)),
  oo 33 (.mv (.t 32)),
  ⟨some 34, .faddr 1 1 (.t 1), some (33, true)⟩,
  ⟨some 35, .load false 1 (.t 34), some (33, true)⟩,
  ⟨some 36, .bin .eql (.t 35) (ci (-1)), some (33, true)⟩,
  oo 37 (.pick (.t 33) (.t 36) (.c (.bool false))),
  oo 2 (.mv (.t 37))])
 .ret) .skip))
 (.seq (rg [oo 38 (.faddr 0 0 (.t 1)),
  oo 39 (.load false 1 (.t 38)),
  oo 40 (.call false 9 [(.t 39)]),
  oo 2 (.mv (.t 40))])
 .ret))))
structure G_f8 (E : Env) : Prop where
  is : Is E 117 1 f8_ac [(2, none)]
  c_f23 : G_f23 E
  c_f19 : G_f19 E
  c_f20 : G_f20 E
theorem f8_E {E : Env} (h : G_f8 E) (a0 : U) : E 117 [a0] =
 U.noTup a0 fun x1 => U.asAgg x1 fun us2 => if 1 = sizes (us2.take 1) then (us2[1]?).bind fun e3 => U.asVar false 1 e3 fun e4 => (E 76 [e4]).bind fun t5 => (U.un .not t5).bind fun t6 => U.asBool t6
 (some (.bool false))
 (U.asAgg x1 fun us7 => if 2 = sizes (us7.take 2) then (us7[2]?).bind fun e8 => U.asVar false 1 e8 fun e9 => (E 10 [e9, (.int .i64 0), (.int .i64 999)]).bind fun t10 => (U.un .not t10).bind fun t11 => U.asBool t11
 (some (.bool false))
 (U.asAgg x1 fun us12 => if 3 = sizes (us12.take 3) then (us12[3]?).bind fun e13 => U.asVar false 1 e13 fun e14 => U.asAgg x1 fun us15 => if 2 = sizes (us15.take 2) then (us15[2]?).bind fun e16 => U.asVar false 1 e16 fun e17 => (E 10 [e14, e17, (.int .i64 999)]).bind fun t18 => (U.un .not t18).bind fun t19 => U.asBool t19
 (some (.bool false))
 (U.asAgg x1 fun us20 => if 4 = sizes (us20.take 4) then (us20[4]?).bind fun e21 => U.asVar false 1 e21 fun e22 => (E 10 [e22, (.int .i64 1), (.int .i64 1000)]).bind fun t23 => (U.un .not t23).bind fun t24 => U.asBool t24
 (some (.bool false))
 (U.asAgg x1 fun us25 => if 2 = sizes (us25.take 2) then (us25[2]?).bind fun e26 => U.asVar false 1 e26 fun e27 => (U.bin .eql e27 (.int .i64 0)).bind fun t28 => U.asBool t28
 (U.asAgg x1 fun us29 => if 0 = sizes (us29.take 0) then (us29[0]?).bind fun e30 => U.asVar false 1 e30 fun e31 => (U.bin .eql e31 (.int .i64 0)).bind fun t32 => U.asBool t32
 (U.asAgg x1 fun us33 => if 1 = sizes (us33.take 1) then (us33[1]?).bind fun e34 => U.asVar false 1 e34 fun e35 => (U.bin .eql e35 (.int .i64 (-1))).bind fun t36 => some t36 else none)
 (some (.bool false)) else none)
 (U.asAgg x1 fun us37 => if 0 = sizes (us37.take 0) then (us37[0]?).bind fun e38 => U.asVar false 1 e38 fun e39 => (E 9 [e39]).bind fun t40 => some t40 else none) else none) else none) else none else none) else none) else none := (h.is _ rfl).trans ((runQ_V rfl).trans (by kernel_rfl))
def f4_b0 : AC :=
 (.seq (rg [oo 8 (.bin .lss (.t 7) (.t 6))])
 (.seq (.cond (.t 8) .skip (.exit 0))
 (.seq (.block 1 (.seq (rg [oo 9 (.mv (.t 7)),
  oo 10 (.iaddr 5 (.t 5) (.t 7)),
  oo 11 (.load true 5 (.t 10)),
  oo 4 (.alloc 4 (.agg [(.int .i64 0), (.int .i64 0), (.int .i64 0), (.int .i64 0), (.int .i64 0)])),
  oo 3 (.mv (.t 9)),
  ⟨none, .store 5 (.t 4) (.t 11), none⟩])
 (.seq (.region 29 [oo 12 (.load true 5 (.t 4)),
  oo 13 (.call false 117 [(.t 12)]),
  oo 14 (.un .not (.t 13)),
  oo 15 (.mv (.t 14)),
  ⟨some 16, .mv (.t 3), some (15, false)⟩,
  ⟨some 17, .bin .gtr (.t 16) (ci 0), some (15, false)⟩,
  ⟨some 18, .mv (.t 17), some (15, false)⟩,
  ⟨some 19, .mv (.t 0), some (18, true)⟩,
  ⟨some 20, .mv (.t 3), some (18, true)⟩,
  ⟨some 21, .bin .sub (.t 20) (ci 1), some (18, true)⟩,
  ⟨some 22, .iaddr 5 (.t 19) (.t 21), some (18, true)⟩,
  ⟨some 23, .faddr 2 2 (.t 22), some (18, true)⟩,
  ⟨some 24, .load false 1 (.t 23), some (18, true)⟩,
  ⟨some 25, .faddr 2 2 (.t 4), some (18, true)⟩,
  ⟨some 26, .load false 1 (.t 25), some (18, true)⟩,
  ⟨some 27, .bin .geq (.t 24) (.t 26), some (18, true)⟩,
  ⟨some 28, .mv (.t 27), some (18, true)⟩,
  ⟨some 29, .mv (.t 0), some (28, false)⟩,
  ⟨some 30, .mv (.t 3), some (28, false)⟩,
  ⟨some 31, .bin .sub (.t 30) (ci 1), some (28, false)⟩,
  ⟨some 32, .iaddr 5 (.t 29) (.t 31), some (28, false)⟩,
  ⟨some 33, .faddr 4 4 (.t 32), some (28, false)⟩,
  ⟨some 34, .load false 1 (.t 33), some (28, false)⟩,
  ⟨some 35, .faddr 2 2 (.t 4), some (28, false)⟩,
  ⟨some 36, .load false 1 (.t 35), some (28, false)⟩,
  ⟨some 37, .bin .gtr (.t 34) (.t 36), some (28, false)⟩,
  ⟨some 38, .pick (.t 28) (.c (.bool true)) (.t 37), some (18, true)⟩,
  ⟨some 39, .pick (.t 18) (.t 38) (.c (.bool false)), some (15, false)⟩,
  oo 40 (.pick (.t 15) (.c (.bool true)) (.t 39))])
 (.cond (.t 40) (.seq (rg [oo 2 (.mv (.c (.bool false)))])
 .ret) .skip))))
 (rg [oo 41 (.bin .add (.t 7) (ci 1)),
  oo 7 (.mv (.t 41))]))))
def f4_r0 : AC :=
 (.seq (rg [oo 42 (.mv (.t 0)),
  oo 43 (.len false (.t 42)),
  oo 44 (.bin .gtr (.t 43) (ci 0)),
  oo 45 (.mv (.t 44)),
  ⟨some 46, .mv (.t 0), some (45, true)⟩,
  ⟨some 47, .mv (.t 0), some (45, true)⟩,
  ⟨some 48, .len false (.t 47), some (45, true)⟩,
  ⟨some 49, .bin .sub (.t 48) (ci 1), some (45, true)⟩,
  ⟨some 50, .iaddr 5 (.t 46) (.t 49), some (45, true)⟩,
  ⟨some 51, .faddr 4 4 (.t 50), some (45, true)⟩,
  ⟨some 52, .load false 1 (.t 51), some (45, true)⟩,
  ⟨some 53, .bin .eql (.t 52) (ci 1000), some (45, true)⟩,
  oo 54 (.pick (.t 45) (.t 53) (.c (.bool false))),
  oo 2 (.mv (.t 54))])
 .ret)
def f4_ac : AC :=
 (.seq (rg [oo 2 (.mv (.c (.bool false)))])
 (.seq (.seq (rg [oo 5 (.mv (.t 0)),
  oo 6 (.len false (.t 5)),
  oo 7 (.mv (ci 0))])
 (.block 0 (.loop ⟨[0, 5, 6, 7], [], []⟩ f4_b0)))
 f4_r0))
noncomputable def f4_l0 (E : Env) (x0 : U) (x5 : U) (x6 : U) (x7 : U) : Option U := loopK (roundOf E ⟨[0, 5, 6, 7], [], []⟩ f4_b0 (blockK 0 (seqK (fun s => exec E f4_r0 s (finish [(2, none)])) (finish [(2, none)])))) ([.val x0, .val x5, .val x6, .val x7], [])
theorem f4_l0_eq (E : Env) (x0 : U) (x5 : U) (x6 : U) (x7 : U) : f4_l0 E x0 x5 x6 x7 =
 (U.bin .lss x7 x6).bind fun t2 => U.asBool t2
 (U.asInt x7 fun n3 => U.elemAt 5 x5 n3 fun e4 => U.asVar true 5 e4 fun e5 => if storable (.val e5) = true ∧ e5.size = 5 then U.asVar true 5 e5 fun e6 => (E 117 [e6]).bind fun t7 => (U.un .not t7).bind fun t8 => U.asBool t8
 (some (.bool false))
 ((U.bin .gtr x7 (.int .i64 0)).bind fun t9 => U.asBool t9
 ((U.bin .sub x7 (.int .i64 1)).bind fun t10 => U.asInt t10 fun n11 => U.elemAt 5 x0 n11 fun e12 => U.fieldAt 2 2 e12 fun f13 => U.asVar false 1 f13 fun e14 => U.asAgg e5 fun us15 => if 2 = sizes (us15.take 2) then (us15[2]?).bind fun e16 => U.asVar false 1 e16 fun e17 => (U.bin .geq e14 e17).bind fun t18 => U.asBool t18
 (some (.bool false))
 ((U.bin .sub x7 (.int .i64 1)).bind fun t19 => U.asInt t19 fun n20 => U.elemAt 5 x0 n20 fun e21 => U.fieldAt 4 4 e21 fun f22 => U.asVar false 1 f22 fun e23 => U.asAgg e5 fun us24 => if 2 = sizes (us24.take 2) then (us24[2]?).bind fun e25 => U.asVar false 1 e25 fun e26 => (U.bin .gtr e23 e26).bind fun t27 => U.asBool t27
 (some (.bool false))
 ((U.bin .add x7 (.int .i64 1)).bind fun t28 => f4_l0 E x0 x5 x6 t28) else none) else none)
 ((U.bin .add x7 (.int .i64 1)).bind fun t29 => f4_l0 E x0 x5 x6 t29)) else none)
 ((U.lenOf false x0).bind fun n30 => (U.bin .gtr (.int .i64 (n30 : Int)) (.int .i64 0)).bind fun t31 => U.asBool t31
 ((U.lenOf false x0).bind fun n32 => (U.bin .sub (.int .i64 (n32 : Int)) (.int .i64 1)).bind fun t33 => U.asInt t33 fun n34 => U.elemAt 5 x0 n34 fun e35 => U.fieldAt 4 4 e35 fun f36 => U.asVar false 1 f36 fun e37 => (U.bin .eql e37 (.int .i64 1000)).bind fun t38 => some t38)
 (some (.bool false))) :=
 (loop_eq E _ _ _ _).trans (by kernel_rfl)
structure G_f4 (E : Env) : Prop where
  is : Is E 116 1 f4_ac [(2, none)]
  c_f8 : G_f8 E
theorem f4_E {E : Env} (h : G_f4 E) (a0 : U) : E 116 [a0] =
 (U.lenOf false a0).bind fun n1 => f4_l0 E a0 a0 (.int .i64 (n1 : Int)) (.int .i64 0) := (h.is _ rfl).trans ((runQ_V rfl).trans (by kernel_rfl))
def f6_ac : AC :=
 (.seq (rg [oo 2 (.mv (.c (.bool false)))])
 (.seq (rg [oo 3 (.mv (.t 0)),
  oo 4 (.call false 116 [(.t 3)]),
  oo 5 (.un .not (.t 4)),
  oo 6 (.mv (.t 5)),
  ⟨some 7, .mv (.t 0), some (6, false)⟩,
  ⟨some 8, .len false (.t 7), some (6, false)⟩,
  ⟨some 9, .bin .gtr (.t 8) (ci 50), some (6, false)⟩,
  oo 10 (.pick (.t 6) (.c (.bool true)) (.t 9)),
  oo 2 (.mv (.t 10))])
 .ret))
structure G_f6 (E : Env) : Prop where
  is : Is E 113 1 f6_ac [(2, none)]
  c_f4 : G_f4 E
theorem f6_E {E : Env} (h : G_f6 E) (a0 : U) : E 113 [a0] =
 (E 116 [a0]).bind fun t1 => (U.un .not t1).bind fun t2 => U.asBool t2
 (some (.bool true))
 ((U.lenOf false a0).bind fun n3 => (U.bin .gtr (.int .i64 (n3 : Int)) (.int .i64 50)).bind fun t4 => some t4) := (h.is _ rfl).trans ((runQ_V rfl).trans (by kernel_rfl))
def f5_ac : AC :=
 (.seq (rg [oo 1 (.box false 1 (.t 0)),
  oo 2 (.mv (.c (.bool false)))])
 (.seq (rg [oo 3 (.faddr 0 0 (.t 1)),
  oo 4 (.load false 1 (.t 3)),
  oo 5 (.len false (.t 4)),
  oo 6 (.bin .eql (.t 5) (ci 6)),
  oo 7 (.mv (.t 6)),
  ⟨some 8, .faddr 0 0 (.t 1), some (7, true)⟩,
  ⟨some 9, .load false 1 (.t 8), some (7, true)⟩,
  ⟨some 10, .call false 114 [(.t 9), (.c (.fn 113 []))], some (7, true)⟩,
  ⟨some 11, .un .not (.t 10), some (7, true)⟩,
  oo 12 (.pick (.t 7) (.t 11) (.c (.bool false))),
  oo 2 (.mv (.t 12))])
 .ret))
structure G_f5 (E : Env) : Prop where
  is : Is E 112 1 f5_ac [(2, none)]
  c_f65 : G_f65 E
  c_f6 : G_f6 E
theorem f5_E {E : Env} (h : G_f5 E) (a0 : U) : E 112 [a0] =
 U.noTup a0 fun x1 => U.asAgg x1 fun us2 => if 0 = sizes (us2.take 0) then (us2[0]?).bind fun e3 => U.asVar false 1 e3 fun e4 => (U.lenOf false e4).bind fun n5 => (U.bin .eql (.int .i64 (n5 : Int)) (.int .i64 6)).bind fun t6 => U.asBool t6
 (U.asAgg x1 fun us7 => if 0 = sizes (us7.take 0) then (us7[0]?).bind fun e8 => U.asVar false 1 e8 fun e9 => (E 114 [e9, (.fn 113 [])]).bind fun t10 => (U.un .not t10).bind fun t11 => some t11 else none)
 (some (.bool false)) else none := (h.is _ rfl).trans ((runQ_V rfl).trans (by kernel_rfl))
def f22_ac : AC :=
 (.seq (rg [oo 2 (.mv (.c (.bool false)))])
 (.seq (rg [oo 3 (.mv (.t 0)),
  oo 4 (.call false 10 [(.t 3), (ci 1), (ci 4)]),
  oo 2 (.mv (.t 4))])
 .ret))
structure G_f22 (E : Env) : Prop where
  is : Is E 160 1 f22_ac [(2, none)]
  c_f19 : G_f19 E
theorem f22_E {E : Env} (h : G_f22 E) (a0 : U) : E 160 [a0] =
 (E 10 [a0, (.int .i64 1), (.int .i64 4)]).bind fun t1 => some t1 := (h.is _ rfl).trans ((runQ_V rfl).trans (by kernel_rfl))
def f3_ac : AC :=
 (.seq (rg [oo 2 (.mv (.c (.bool false)))])
 (.seq (rg [oo 3 (.mv (.t 0)),
  oo 4 (.call false 10 [(.t 3), (ci 1), (ci 999)]),
  oo 2 (.mv (.t 4))])
 .ret))
structure G_f3 (E : Env) : Prop where
  is : Is E 72 1 f3_ac [(2, none)]
  c_f19 : G_f19 E
theorem f3_E {E : Env} (h : G_f3 E) (a0 : U) : E 72 [a0] =
 (E 10 [a0, (.int .i64 1), (.int .i64 999)]).bind fun t1 => some t1 := (h.is _ rfl).trans ((runQ_V rfl).trans (by kernel_rfl))
def f21_ac : AC :=
 (.seq (rg [oo 2 (.mv (.c (.bool false)))])
 (.seq (rg [oo 3 (.mv (.t 0)),
  oo 4 (.call false 10 [(.t 3), (ci 0), (ci 5)]),
  oo 2 (.mv (.t 4))])
 .ret))
structure G_f21 (E : Env) : Prop where
  is : Is E 11 1 f21_ac [(2, none)]
  c_f19 : G_f19 E
theorem f21_E {E : Env} (h : G_f21 E) (a0 : U) : E 11 [a0] =
 (E 10 [a0, (.int .i64 0), (.int .i64 5)]).bind fun t1 => some t1 := (h.is _ rfl).trans ((runQ_V rfl).trans (by kernel_rfl))
def f2_ac : AC :=
 (.seq (rg [oo 2 (.mv (.c (.bool false)))])
 (.seq (rg [oo 3 (.mv (.t 0)),
  oo 4 (.mv (.t 0)),
  oo 5 (.bin .neq (.t 3) (.t 4)),
  oo 2 (.mv (.t 5))])
 .ret))
structure G_f2 (E : Env) : Prop where
  is : Is E 15 1 f2_ac [(2, none)]
theorem f2_E {E : Env} (h : G_f2 E) (a0 : U) : E 15 [a0] =
 (U.bin .neq a0 a0).bind fun t1 => some t1 := (h.is _ rfl).trans ((runQ_V rfl).trans (by kernel_rfl))
def f0_ac : AC :=
 (.seq (rg [oo 4 (.mv (ci 0))])
 (.seq (rg [oo 7 (.mv (.t 0)),
  oo 8 (.call false 15 [(.t 7)]),
  oo 5 (.mv (.t 8))])
 (.seq (rg [oo 9 (.mv (.t 1)),
  oo 10 (.call false 15 [(.t 9)]),
  oo 6 (.mv (.t 10))])
 (.seq (.seq (rg [oo 11 (.mv (.t 5))])
 (.cond (.t 11) (.seq (.seq (rg [oo 12 (.mv (.t 6))])
 (.cond (.t 12) (.seq (rg [oo 4 (.mv (ci 0))])
 .ret) .skip))
 (.seq (rg [oo 4 (.mv (ci (-1)))])
 .ret)) .skip))
 (.seq (.seq (rg [oo 13 (.mv (.t 6))])
 (.cond (.t 13) (.seq (rg [oo 4 (.mv (ci 1))])
 .ret) .skip))
 (.seq (.seq (rg [oo 14 (.mv (.t 0)),
  oo 15 (.mv (.t 1)),
  oo 16 (.bin .lss (.t 14) (.t 15))])
 (.cond (.t 16) (.seq (rg [oo 4 (.mv (ci (-1)))])
 .ret) .skip))
 (.seq (.seq (rg [oo 17 (.mv (.t 0)),
  oo 18 (.mv (.t 1)),
  oo 19 (.bin .gtr (.t 17) (.t 18))])
 (.cond (.t 19) (.seq (rg [oo 4 (.mv (ci 1))])
 .ret) .skip))
 (.seq (rg [oo 4 (.mv (ci 0))])
 .ret))))))))
structure G_f0 (E : Env) : Prop where
  is : Is E 13 2 f0_ac [(4, none)]
  c_f2 : G_f2 E
theorem f0_E {E : Env} (h : G_f0 E) (a0 a1 : U) : E 13 [a0, a1] =
 (E 15 [a0]).bind fun t1 => (E 15 [a1]).bind fun t2 => U.asBool t1
 (U.asBool t2
 (some (.int .i64 0))
 (some (.int .i64 (-1))))
 (U.asBool t2
 (some (.int .i64 1))
 ((U.bin .lss a0 a1).bind fun t3 => U.asBool t3
 (some (.int .i64 (-1)))
 ((U.bin .gtr a0 a1).bind fun t4 => U.asBool t4
 (some (.int .i64 1))
 (some (.int .i64 0))))) := (h.is _ rfl).trans ((runQ_V rfl).trans (by kernel_rfl))
def f1_b0 : AC :=
 (.seq (rg [oo 9 (.bin .lss (.t 8) (.t 7))])
 (.seq (.cond (.t 9) .skip (.exit 0))
 (.seq (.block 1 (.seq (rg [oo 10 (.iaddr 1 (.t 6) (.t 8)),
  oo 11 (.load false 1 (.t 10)),
  oo 5 (.mv (.t 11))])
 (.seq (rg [oo 12 (.mv (.t 5)),
  oo 13 (.mv (.t 3)),
  oo 14 (.bin .neq (.t 12) (.t 13))])
 (.cond (.t 14) (.seq (rg [oo 15 (.mv (.t 5)),
  oo 2 (.mv (.t 15))])
 .ret) .skip))))
 (rg [oo 16 (.bin .add (.t 8) (ci 1)),
  oo 8 (.mv (.t 16))]))))
def f1_r0 : AC :=
 (.seq (rg [oo 17 (.mv (.t 3)),
  oo 2 (.mv (.t 17))])
 .ret)
def f1_ac : AC :=
 (.seq (rg [oo 2 (.mv (ci 0))])
 (.seq (rg [oo 3 (.mv (ci 0))])
 (.seq (.seq (rg [oo 6 (.mv (.t 0)),
  oo 7 (.len false (.t 6)),
  oo 8 (.mv (ci 0))])
 (.block 0 (.loop ⟨[3, 6, 7, 8], [], []⟩ f1_b0)))
 f1_r0)))
noncomputable def f1_l0 (E : Env) (x3 : U) (x6 : U) (x7 : U) (x8 : U) : Option U := loopK (roundOf E ⟨[3, 6, 7, 8], [], []⟩ f1_b0 (blockK 0 (seqK (fun s => exec E f1_r0 s (finish [(2, none)])) (finish [(2, none)])))) ([.val x3, .val x6, .val x7, .val x8], [])
theorem f1_l0_eq (E : Env) (x3 : U) (x6 : U) (x7 : U) (x8 : U) : f1_l0 E x3 x6 x7 x8 =
 (U.bin .lss x8 x7).bind fun t2 => U.asBool t2
 (U.asInt x8 fun n3 => U.elemAt 1 x6 n3 fun e4 => U.asVar false 1 e4 fun e5 => (U.bin .neq e5 x3).bind fun t6 => U.asBool t6
 (some e5)
 ((U.bin .add x8 (.int .i64 1)).bind fun t7 => f1_l0 E x3 x6 x7 t7))
 (some x3) :=
 (loop_eq E _ _ _ _).trans (by kernel_rfl)
structure G_f1 (E : Env) : Prop where
  is : Is E 14 1 f1_ac [(2, none)]
theorem f1_E {E : Env} (h : G_f1 E) (a0 : U) : E 14 [a0] =
 (U.lenOf false a0).bind fun n1 => f1_l0 E (.int .i64 0) a0 (.int .i64 (n1 : Int)) (.int .i64 0) := (h.is _ rfl).trans ((runQ_V rfl).trans (by kernel_rfl))
def f18_ac : AC :=
 (.seq (rg [oo 2 (.box false 2 (.t 0)),
  oo 3 (.box false 3 (.t 1)),
  oo 4 (.mv (ci 0))])
 (.seq (.region 13 [oo 5 (.faddr 0 0 (.t 2)),
  oo 6 (.load false 1 (.t 5)),
  oo 7 (.faddr 0 0 (.t 3)),
  oo 8 (.load false 1 (.t 7)),
  oo 9 (.call false 13 [(.t 6), (.t 8)]),
  oo 10 (.faddr 1 1 (.t 2)),
  oo 11 (.load false 1 (.t 10)),
  oo 12 (.faddr 1 1 (.t 3)),
  oo 13 (.load false 1 (.t 12)),
  oo 14 (.call false 13 [(.t 11), (.t 13)]),
  oo 15 (.bslice 0 15 1 2 (.int .i64 0) [(0, (.t 9)), (1, (.t 14))]),
  oo 16 (.call false 14 [(.t 15)]),
  oo 4 (.mv (.t 16))])
 .ret))
structure G_f18 (E : Env) : Prop where
  is : Is E 75 2 f18_ac [(4, none)]
  c_f0 : G_f0 E
  c_f1 : G_f1 E
theorem f18_E {E : Env} (h : G_f18 E) (a0 a1 : U) : E 75 [a0, a1] =
 U.noTup a0 fun x1 => U.noTup a1 fun x2 => U.asAgg x1 fun us3 => if 0 = sizes (us3.take 0) then (us3[0]?).bind fun e4 => U.asVar false 1 e4 fun e5 => U.asAgg x2 fun us6 => if 0 = sizes (us6.take 0) then (us6[0]?).bind fun e7 => U.asVar false 1 e7 fun e8 => (E 13 [e5, e8]).bind fun t9 => U.asAgg x1 fun us10 => if 1 = sizes (us10.take 1) then (us10[1]?).bind fun e11 => U.asVar false 1 e11 fun e12 => U.asAgg x2 fun us13 => if 1 = sizes (us13.take 1) then (us13[1]?).bind fun e14 => U.asVar false 1 e14 fun e15 => (E 13 [e12, e15]).bind fun t16 => if partable (.val t9) = true ∧ t9.size = 1 then if partable (.val t16) = true ∧ t16.size = 1 then (E 14 [(.sl 1 [t9, t16])]).bind fun t17 => some t17 else none else none else none else none else none else none := (h.is _ rfl).trans ((runQ_V rfl).trans (by kernel_rfl))
def f16_b0 : AC :=
 (.seq (rg [oo 8 (.bin .lss (.t 7) (.t 6))])
 (.seq (.cond (.t 8) .skip (.exit 0))
 (.seq (.block 1 (.seq (rg [oo 9 (.mv (.t 7)),
  oo 10 (.iaddr 2 (.t 5) (.t 7)),
  oo 11 (.load true 2 (.t 10)),
  oo 4 (.alloc 4 (.agg [(.int .i64 0), (.int .i64 0)])),
  oo 3 (.mv (.t 9)),
  ⟨none, .store 2 (.t 4) (.t 11), none⟩])
 (.seq (.region 24 [oo 12 (.faddr 0 0 (.t 4)),
  oo 13 (.load false 1 (.t 12)),
  oo 14 (.call false 11 [(.t 13)]),
  oo 15 (.un .not (.t 14)),
  oo 16 (.mv (.t 15)),
  ⟨some 17, .faddr 1 1 (.t 4), some (16, false)⟩,
  ⟨some 18, .load false 1 (.t 17), some (16, false)⟩,
  ⟨some 19, .call false 10 [(.t 18), (ci 0), (ci 999)], some (16, false)⟩,
  ⟨some 20, .un .not (.t 19), some (16, false)⟩,
  oo 21 (.pick (.t 16) (.c (.bool true)) (.t 20)),
  oo 22 (.mv (.t 21)),
  ⟨some 23, .mv (.t 3), some (22, false)⟩,
  ⟨some 24, .bin .gtr (.t 23) (ci 0), some (22, false)⟩,
  ⟨some 25, .mv (.t 24), some (22, false)⟩,
  ⟨some 26, .mv (.t 0), some (25, true)⟩,
  ⟨some 27, .mv (.t 3), some (25, true)⟩,
  ⟨some 28, .bin .sub (.t 27) (ci 1), some (25, true)⟩,
  ⟨some 29, .iaddr 2 (.t 26) (.t 28), some (25, true)⟩,
  ⟨some 30, .load true 2 (.t 29), some (25, true)⟩,
  ⟨some 31, .load true 2 (.t 4), some (25, true)⟩,
  ⟨some 32, .call false 75 [(.t 30), (.t 31)], some (25, true)⟩,
  ⟨some 33, .bin .geq (.t 32) (ci 0), some (25, true)⟩,
  ⟨some 34, .pick (.t 25) (.t 33) (.c (.bool false)), some (22, false)⟩,
  oo 35 (.pick (.t 22) (.c (.bool true)) (.t 34))])
 (.cond (.t 35) (.seq (rg [oo 2 (.mv (.c (.bool false)))])
 .ret) .skip))))
 (rg [oo 36 (.bin .add (.t 7) (ci 1)),
  oo 7 (.mv (.t 36))]))))
def f16_r0 : AC :=
 (.seq (rg [oo 37 (.mv (.t 0)),
  oo 38 (.len false (.t 37)),
  oo 39 (.bin .leq (.t 38) (ci 60)),
  oo 2 (.mv (.t 39))])
 .ret)
def f16_ac : AC :=
 (.seq (rg [oo 2 (.mv (.c (.bool false)))])
 (.seq (.seq (rg [oo 5 (.mv (.t 0)),
  oo 6 (.len false (.t 5)),
  oo 7 (.mv (ci 0))])
 (.block 0 (.loop ⟨[0, 5, 6, 7], [], []⟩ f16_b0)))
 f16_r0))
noncomputable def f16_l0 (E : Env) (x0 : U) (x5 : U) (x6 : U) (x7 : U) : Option U := loopK (roundOf E ⟨[0, 5, 6, 7], [], []⟩ f16_b0 (blockK 0 (seqK (fun s => exec E f16_r0 s (finish [(2, none)])) (finish [(2, none)])))) ([.val x0, .val x5, .val x6, .val x7], [])
theorem f16_l0_eq (E : Env) (x0 : U) (x5 : U) (x6 : U) (x7 : U) : f16_l0 E x0 x5 x6 x7 =
 (U.bin .lss x7 x6).bind fun t2 => U.asBool t2
 (U.asInt x7 fun n3 => U.elemAt 2 x5 n3 fun e4 => U.asVar true 2 e4 fun e5 => if storable (.val e5) = true ∧ e5.size = 2 then U.asAgg e5 fun us6 => if 0 = sizes (us6.take 0) then (us6[0]?).bind fun e7 => U.asVar false 1 e7 fun e8 => (E 11 [e8]).bind fun t9 => (U.un .not t9).bind fun t10 => U.asBool t10
 (some (.bool false))
 (U.asAgg e5 fun us11 => if 1 = sizes (us11.take 1) then (us11[1]?).bind fun e12 => U.asVar false 1 e12 fun e13 => (E 10 [e13, (.int .i64 0), (.int .i64 999)]).bind fun t14 => (U.un .not t14).bind fun t15 => U.asBool t15
 (some (.bool false))
 ((U.bin .gtr x7 (.int .i64 0)).bind fun t16 => U.asBool t16
 ((U.bin .sub x7 (.int .i64 1)).bind fun t17 => U.asInt t17 fun n18 => U.elemAt 2 x0 n18 fun e19 => U.asVar true 2 e19 fun e20 => U.asVar true 2 e5 fun e21 => (E 75 [e20, e21]).bind fun t22 => (U.bin .geq t22 (.int .i64 0)).bind fun t23 => U.asBool t23
 (some (.bool false))
 ((U.bin .add x7 (.int .i64 1)).bind fun t24 => f16_l0 E x0 x5 x6 t24))
 ((U.bin .add x7 (.int .i64 1)).bind fun t25 => f16_l0 E x0 x5 x6 t25)) else none) else none else none)
 ((U.lenOf false x0).bind fun n26 => (U.bin .leq (.int .i64 (n26 : Int)) (.int .i64 60)).bind fun t27 => some t27) :=
 (loop_eq E _ _ _ _).trans (by kernel_rfl)
structure G_f16 (E : Env) : Prop where
  is : Is E 73 1 f16_ac [(2, none)]
  c_f21 : G_f21 E
  c_f19 : G_f19 E
  c_f18 : G_f18 E
theorem f16_E {E : Env} (h : G_f16 E) (a0 : U) : E 73 [a0] =
 (U.lenOf false a0).bind fun n1 => f16_l0 E a0 a0 (.int .i64 (n1 : Int)) (.int .i64 0) := (h.is _ rfl).trans ((runQ_V rfl).trans (by kernel_rfl))
def f17_b0 : AC :=
 (.seq (rg [oo 8 (.bin .lss (.t 7) (.t 6))])
 (.seq (.cond (.t 8) .skip (.exit 0))
 (.seq (.block 1 (.seq (rg [oo 9 (.mv (.t 7)),
  oo 10 (.iaddr 2 (.t 5) (.t 7)),
  oo 11 (.load true 2 (.t 10)),
  oo 4 (.alloc 4 (.agg [(.int .i64 0), (.int .i64 0)])),
  oo 3 (.mv (.t 9)),
  ⟨none, .store 2 (.t 4) (.t 11), none⟩])
 (.seq (.region 25 [oo 12 (.faddr 0 0 (.t 4)),
  oo 13 (.load false 1 (.t 12)),
  oo 14 (.call false 11 [(.t 13)]),
  oo 15 (.un .not (.t 14)),
  oo 16 (.mv (.t 15)),
  ⟨some 17, .faddr 1 1 (.t 4), some (16, false)⟩,
  ⟨some 18, .load false 1 (.t 17), some (16, false)⟩,
  ⟨some 19, .call false 76 [(.t 18)], some (16, false)⟩,
  ⟨some 20, .un .not (.t 19), some (16, false)⟩,
  oo 21 (.pick (.t 16) (.c (.bool true)) (.t 20)),
  oo 22 (.mv (.t 21)),
  ⟨some 23, .mv (.t 3), some (22, false)⟩,
  ⟨some 24, .bin .gtr (.t 23) (ci 0), some (22, false)⟩,
  ⟨some 25, .mv (.t 24), some (22, false)⟩,
  ⟨some 26, .mv (.t 0), some (25, true)⟩,
  ⟨some 27, .mv (.t 3), some (25, true)⟩,
  ⟨some 28, .bin .sub (.t 27) (ci 1), some (25, true)⟩,
  ⟨some 29, .iaddr 2 (.t 26) (.t 28), some (25, true)⟩,
  ⟨some 30, .faddr 0 0 (.t 29), some (25, true)⟩,
  ⟨some 31, .load false 1 (.t 30), some (25, true)⟩,
  ⟨some 32, .faddr 0 0 (.t 4), some (25, true)⟩,
  ⟨some 33, .load false 1 (.t 32), some (25, true)⟩,
  ⟨some 34, .bin .geq (.t 31) (.t 33), some (25, true)⟩,
  ⟨some 35, .pick (.t 25) (.t 34) (.c (.bool false)), some (22, false)⟩,
  oo 36 (.pick (.t 22) (.c (.bool true)) (.t 35))])
 (.cond (.t 36) (.seq (rg [oo 2 (.mv (.c (.bool false)))])
 .ret) .skip))))
 (rg [oo 37 (.bin .add (.t 7) (ci 1)),
  oo 7 (.mv (.t 37))]))))
def f17_r0 : AC :=
 (.seq (rg [oo 2 (.mv (.c (.bool true)))])
 .ret)
def f17_ac : AC :=
 (.seq (rg [oo 2 (.mv (.c (.bool false)))])
 (.seq (.seq (rg [oo 5 (.mv (.t 0)),
  oo 6 (.len false (.t 5)),
  oo 7 (.mv (ci 0))])
 (.block 0 (.loop ⟨[0, 5, 6, 7], [], []⟩ f17_b0)))
 f17_r0))
noncomputable def f17_l0 (E : Env) (x0 : U) (x5 : U) (x6 : U) (x7 : U) : Option U := loopK (roundOf E ⟨[0, 5, 6, 7], [], []⟩ f17_b0 (blockK 0 (seqK (fun s => exec E f17_r0 s (finish [(2, none)])) (finish [(2, none)])))) ([.val x0, .val x5, .val x6, .val x7], [])
theorem f17_l0_eq (E : Env) (x0 : U) (x5 : U) (x6 : U) (x7 : U) : f17_l0 E x0 x5 x6 x7 =
 (U.bin .lss x7 x6).bind fun t2 => U.asBool t2
 (U.asInt x7 fun n3 => U.elemAt 2 x5 n3 fun e4 => U.asVar true 2 e4 fun e5 => if storable (.val e5) = true ∧ e5.size = 2 then U.asAgg e5 fun us6 => if 0 = sizes (us6.take 0) then (us6[0]?).bind fun e7 => U.asVar false 1 e7 fun e8 => (E 11 [e8]).bind fun t9 => (U.un .not t9).bind fun t10 => U.asBool t10
 (some (.bool false))
 (U.asAgg e5 fun us11 => if 1 = sizes (us11.take 1) then (us11[1]?).bind fun e12 => U.asVar false 1 e12 fun e13 => (E 76 [e13]).bind fun t14 => (U.un .not t14).bind fun t15 => U.asBool t15
 (some (.bool false))
 ((U.bin .gtr x7 (.int .i64 0)).bind fun t16 => U.asBool t16
 ((U.bin .sub x7 (.int .i64 1)).bind fun t17 => U.asInt t17 fun n18 => U.elemAt 2 x0 n18 fun e19 => U.fieldAt 0 0 e19 fun f20 => U.asVar false 1 f20 fun e21 => U.asAgg e5 fun us22 => if 0 = sizes (us22.take 0) then (us22[0]?).bind fun e23 => U.asVar false 1 e23 fun e24 => (U.bin .geq e21 e24).bind fun t25 => U.asBool t25
 (some (.bool false))
 ((U.bin .add x7 (.int .i64 1)).bind fun t26 => f17_l0 E x0 x5 x6 t26) else none)
 ((U.bin .add x7 (.int .i64 1)).bind fun t27 => f17_l0 E x0 x5 x6 t27)) else none) else none else none)
 (some (.bool true)) :=
 (loop_eq E _ _ _ _).trans (by kernel_rfl)
structure G_f17 (E : Env) : Prop where
  is : Is E 74 1 f17_ac [(2, none)]
  c_f21 : G_f21 E
  c_f23 : G_f23 E
theorem f17_E {E : Env} (h : G_f17 E) (a0 : U) : E 74 [a0] =
 (U.lenOf false a0).bind fun n1 => f17_l0 E a0 a0 (.int .i64 (n1 : Int)) (.int .i64 0) := (h.is _ rfl).trans ((runQ_V rfl).trans (by kernel_rfl))
def f7_ac : AC :=
 (.seq (rg [oo 1 (.box false 1 (.t 0)),
  oo 2 (.mv (.c (.bool false)))])
 (.seq (.seq (rg [oo 3 (.faddr 0 0 (.t 1)),
  oo 4 (.load false 1 (.t 3)),
  oo 5 (.call false 9 [(.t 4)]),
  oo 6 (.un .not (.t 5)),
  oo 7 (.mv (.t 6)),
  ⟨some 8, .faddr 1 1 (.t 1), some (7, false)⟩,
  ⟨some 9, .load false 1 (.t 8), some (7, false)⟩,
  ⟨some 10, .call false 160 [(.t 9)], some (7, false)⟩,
  ⟨some 11, .un .not (.t 10), some (7, false)⟩,
  oo 12 (.pick (.t 7) (.c (.bool true)) (.t 11)),
  oo 13 (.mv (.t 12)),
  ⟨some 14, .faddr 2 2 (.t 1), some (13, false)⟩,
  ⟨some 15, .load false 1 (.t 14), some (13, false)⟩,
  ⟨some 16, .call false 10 [(.t 15), (ci 1), (ci 3)], some (13, false)⟩,
  ⟨some 17, .un .not (.t 16), some (13, false)⟩,
  oo 18 (.pick (.t 13) (.c (.bool true)) (.t 17)),
  oo 19 (.mv (.t 18)),
  ⟨some 20, .faddr 3 3 (.t 1), some (19, false)⟩,
  ⟨some 21, .load false 1 (.t 20), some (19, false)⟩,
  ⟨some 22, .call false 10 [(.t 21), (ci 0), (ci 999)], some (19, false)⟩,
  ⟨some 23, .un .not (.t 22), some (19, false)⟩,
  oo 24 (.pick (.t 19) (.c (.bool true)) (.t 23)),
  oo 25 (.mv (.t 24)),
  ⟨some 26, .faddr 4 4 (.t 1), some (25, false)⟩,
  ⟨some 27, .load false 1 (.t 26), some (25, false)⟩,
  ⟨some 28, .call false 10 [(.t 27), (ci 0), (ci 999)], some (25, false)⟩,
  ⟨some 29, .un .not (.t 28), some (25, false)⟩,
  oo 30 (.pick (.t 25) (.c (.bool true)) (.t 29)),
  oo 31 (.mv (.t 30)),
  ⟨some 32, .faddr 5 5 (.t 1), some (31, false)⟩,
  ⟨some 33, .load false 1 (.t 32), some (31, false)⟩,
  ⟨some 34, .call false 10 [(.t 33), (ci 1), (ci 1000)], some (31, false)⟩,
  ⟨some 35, .un .not (.t 34), some (31, false)⟩,
  oo 36 (.pick (.t 31) (.c (.bool true)) (.t 35))])
 (.cond (.t 36) (.seq (rg [oo 2 (.mv (.c (.bool false)))])
 .ret) .skip))
 (.seq (.seq (rg [oo 37 (.faddr 2 2 (.t 1)),
  oo 38 (.load false 1 (.t 37)),
  oo 39 (.bin .eql (.t 38) (ci 2)),
  oo 40 (.mv (.t 39)),
  ⟨some 41, .faddr 6 6 (.t 1), some (40, true)⟩,
  ⟨some 42, .load false 1 (.t 41), some (40, true)⟩,
  ⟨some 43, .call false 72 [(.t 42)], some (40, true)⟩,
  ⟨some 44, .un .not (.t 43), some (40, true)⟩,
  oo 45 (.pick (.t 40) (.t 44) (.c (.bool false))),
  oo 46 (.mv (.t 45)),
  ⟨some 47, .faddr 2 2 (.t 1), some (46, false)⟩,
  ⟨some 48, .load false 1 (.t 47), some (46, false)⟩,
  ⟨some 49, .bin .neq (.t 48) (ci 2), some (46, false)⟩,
  ⟨some 50, .mv (.t 49), some (46, false)⟩,
  ⟨some 51, .faddr 6 6 (.t 1), some (50, true)⟩,
  ⟨some 52, .load false 1 (.t 51), some (50, true)⟩,
  ⟨some 53, .bin .neq (.t 52) (ci 0), some (50, true)⟩,
  ⟨some 54, .pick (.t 50) (.t 53) (.c (.bool false)), some (46, false)⟩,
  oo 55 (.pick (.t 46) (.c (.bool true)) (.t 54))])
 (.cond (.t 55) (.seq (rg [oo 2 (.mv (.c (.bool false)))])
 .ret) .skip))
 (.seq (rg [oo 56 (.faddr 7 7 (.t 1)),
  oo 57 (.load false 1 (.t 56)),
  oo 58 (.call false 73 [(.t 57)]),
  oo 59 (.mv (.t 58)),
  ⟨some 60, .faddr 8 8 (.t 1), some (59, true)⟩,
  ⟨some 61, .load false 1 (.t 60), some (59, true)⟩,
  ⟨some 62, .call false 74 [(.t 61)], some (59, true)⟩,
  oo 63 (.pick (.t 59) (.t 62) (.c (.bool false))),
  oo 2 (.mv (.t 63))])
 .ret))))
structure G_f7 (E : Env) : Prop where
  is : Is E 159 1 f7_ac [(2, none)]
  c_f19 : G_f19 E
  c_f20 : G_f20 E
  c_f22 : G_f22 E
  c_f3 : G_f3 E
  c_f16 : G_f16 E
  c_f17 : G_f17 E
theorem f7_E {E : Env} (h : G_f7 E) (a0 : U) : E 159 [a0] =
 U.noTup a0 fun x1 => U.asAgg x1 fun us2 => if 0 = sizes (us2.take 0) then (us2[0]?).bind fun e3 => U.asVar false 1 e3 fun e4 => (E 9 [e4]).bind fun t5 => (U.un .not t5).bind fun t6 => U.asBool t6
 (some (.bool false))
 (U.asAgg x1 fun us7 => if 1 = sizes (us7.take 1) then (us7[1]?).bind fun e8 => U.asVar false 1 e8 fun e9 => (E 160 [e9]).bind fun t10 => (U.un .not t10).bind fun t11 => U.asBool t11
 (some (.bool false))
 (U.asAgg x1 fun us12 => if 2 = sizes (us12.take 2) then (us12[2]?).bind fun e13 => U.asVar false 1 e13 fun e14 => (E 10 [e14, (.int .i64 1), (.int .i64 3)]).bind fun t15 => (U.un .not t15).bind fun t16 => U.asBool t16
 (some (.bool false))
 (U.asAgg x1 fun us17 => if 3 = sizes (us17.take 3) then (us17[3]?).bind fun e18 => U.asVar false 1 e18 fun e19 => (E 10 [e19, (.int .i64 0), (.int .i64 999)]).bind fun t20 => (U.un .not t20).bind fun t21 => U.asBool t21
 (some (.bool false))
 (U.asAgg x1 fun us22 => if 4 = sizes (us22.take 4) then (us22[4]?).bind fun e23 => U.asVar false 1 e23 fun e24 => (E 10 [e24, (.int .i64 0), (.int .i64 999)]).bind fun t25 => (U.un .not t25).bind fun t26 => U.asBool t26
 (some (.bool false))
 (U.asAgg x1 fun us27 => if 5 = sizes (us27.take 5) then (us27[5]?).bind fun e28 => U.asVar false 1 e28 fun e29 => (E 10 [e29, (.int .i64 1), (.int .i64 1000)]).bind fun t30 => (U.un .not t30).bind fun t31 => U.asBool t31
 (some (.bool false))
 (U.asAgg x1 fun us32 => if 2 = sizes (us32.take 2) then (us32[2]?).bind fun e33 => U.asVar false 1 e33 fun e34 => (U.bin .eql e34 (.int .i64 2)).bind fun t35 => U.asBool t35
 (U.asAgg x1 fun us36 => if 6 = sizes (us36.take 6) then (us36[6]?).bind fun e37 => U.asVar false 1 e37 fun e38 => (E 72 [e38]).bind fun t39 => (U.un .not t39).bind fun t40 => U.asBool t40
 (some (.bool false))
 (U.asAgg x1 fun us41 => if 2 = sizes (us41.take 2) then (us41[2]?).bind fun e42 => U.asVar false 1 e42 fun e43 => (U.bin .neq e43 (.int .i64 2)).bind fun t44 => U.asBool t44
 (U.asAgg x1 fun us45 => if 6 = sizes (us45.take 6) then (us45[6]?).bind fun e46 => U.asVar false 1 e46 fun e47 => (U.bin .neq e47 (.int .i64 0)).bind fun t48 => U.asBool t48
 (some (.bool false))
 (U.asAgg x1 fun us49 => if 7 = sizes (us49.take 7) then (us49[7]?).bind fun e50 => U.asVar false 1 e50 fun e51 => (E 73 [e51]).bind fun t52 => U.asBool t52
 (U.asAgg x1 fun us53 => if 8 = sizes (us53.take 8) then (us53[8]?).bind fun e54 => U.asVar false 1 e54 fun e55 => (E 74 [e55]).bind fun t56 => some t56 else none)
 (some (.bool false)) else none) else none)
 (U.asAgg x1 fun us57 => if 7 = sizes (us57.take 7) then (us57[7]?).bind fun e58 => U.asVar false 1 e58 fun e59 => (E 73 [e59]).bind fun t60 => U.asBool t60
 (U.asAgg x1 fun us61 => if 8 = sizes (us61.take 8) then (us61[8]?).bind fun e62 => U.asVar false 1 e62 fun e63 => (E 74 [e63]).bind fun t64 => some t64 else none)
 (some (.bool false)) else none) else none) else none)
 (U.asAgg x1 fun us65 => if 2 = sizes (us65.take 2) then (us65[2]?).bind fun e66 => U.asVar false 1 e66 fun e67 => (U.bin .neq e67 (.int .i64 2)).bind fun t68 => U.asBool t68
 (U.asAgg x1 fun us69 => if 6 = sizes (us69.take 6) then (us69[6]?).bind fun e70 => U.asVar false 1 e70 fun e71 => (U.bin .neq e71 (.int .i64 0)).bind fun t72 => U.asBool t72
 (some (.bool false))
 (U.asAgg x1 fun us73 => if 7 = sizes (us73.take 7) then (us73[7]?).bind fun e74 => U.asVar false 1 e74 fun e75 => (E 73 [e75]).bind fun t76 => U.asBool t76
 (U.asAgg x1 fun us77 => if 8 = sizes (us77.take 8) then (us77[8]?).bind fun e78 => U.asVar false 1 e78 fun e79 => (E 74 [e79]).bind fun t80 => some t80 else none)
 (some (.bool false)) else none) else none)
 (U.asAgg x1 fun us81 => if 7 = sizes (us81.take 7) then (us81[7]?).bind fun e82 => U.asVar false 1 e82 fun e83 => (E 73 [e83]).bind fun t84 => U.asBool t84
 (U.asAgg x1 fun us85 => if 8 = sizes (us85.take 8) then (us85[8]?).bind fun e86 => U.asVar false 1 e86 fun e87 => (E 74 [e87]).bind fun t88 => some t88 else none)
 (some (.bool false)) else none) else none) else none) else none) else none) else none) else none) else none) else none := (h.is _ rfl).trans ((runQ_V rfl).trans (by kernel_rfl))
def f14_ac : AC :=
 (.seq (rg [oo 1 (.box false 1 (.t 0)),
  oo 2 (.mv (.c (.bool false)))])
 (.seq (rg [oo 3 (.faddr 2 2 (.t 1)),
  oo 4 (.load false 1 (.t 3)),
  oo 5 (.bin .eql (.t 4) (ci 1)),
  oo 6 (.mv (.t 5)),
  ⟨some 7, .load true 9 (.t 1), some (6, true)⟩,
  ⟨some 8, .call false 159 [(.t 7)], some (6, true)⟩,
  oo 9 (.pick (.t 6) (.t 8) (.c (.bool false))),
  oo 2 (.mv (.t 9))])
 .ret))
structure G_f14 (E : Env) : Prop where
  is : Is E 301 1 f14_ac [(2, none)]
  c_f7 : G_f7 E
theorem f14_E {E : Env} (h : G_f14 E) (a0 : U) : E 301 [a0] =
 U.noTup a0 fun x1 => U.asAgg x1 fun us2 => if 2 = sizes (us2.take 2) then (us2[2]?).bind fun e3 => U.asVar false 1 e3 fun e4 => (U.bin .eql e4 (.int .i64 1)).bind fun t5 => U.asBool t5
 (U.asVar true 9 x1 fun e6 => (E 159 [e6]).bind fun t7 => some t7)
 (some (.bool false)) else none := (h.is _ rfl).trans ((runQ_V rfl).trans (by kernel_rfl))
def f62_b0 : AC :=
 (.seq (.seq (rg [oo 15 (.mv (.t 9)),
  oo 16 (.mv (.t 10)),
  oo 17 (.bin .lss (.t 15) (.t 16))])
 (.cond (.t 17) .skip (.exit 0)))
 (.block 1 (.seq (rg [oo 18 (.mv (.t 9)),
  oo 19 (.mv (.t 10)),
  oo 20 (.bin .add (.t 18) (.t 19)),
  oo 21 (.conv .u64 (.t 20)),
  oo 22 (.bin .shr (.t 21) (.c (.int .u64 1))),
  oo 23 (.conv .i64 (.t 22)),
  oo 11 (.mv (.t 23))])
 (.seq (rg [oo 24 (.mv (.t 2)),
  oo 25 (.mv (.t 0)),
  oo 26 (.mv (.t 11)),
  oo 27 (.iaddr 2 (.t 25) (.t 26)),
  oo 28 (.load true 2 (.t 27)),
  oo 29 (.mv (.t 1)),
  oo 30 (.callv false (.t 24) [(.t 28), (.t 29)]),
  oo 31 (.bin .lss (.t 30) (ci 0))])
 (.cond (.t 31) (rg [oo 32 (.mv (.t 11)),
  oo 33 (.bin .add (.t 32) (ci 1)),
  oo 9 (.mv (.t 33))]) (rg [oo 34 (.mv (.t 11)),
  oo 10 (.mv (.t 34))]))))))
def f62_r0 : AC :=
 (.seq (rg [oo 35 (.mv (.t 9)),
  oo 36 (.mv (.t 9)),
  oo 37 (.mv (.t 8)),
  oo 38 (.bin .lss (.t 36) (.t 37)),
  oo 39 (.mv (.t 38)),
  ⟨some 40, .mv (.t 2), some (39, true)⟩,
  ⟨some 41, .mv (.t 0), some (39, true)⟩,
  ⟨some 42, .mv (.t 9), some (39, true)⟩,
  ⟨some 43, .iaddr 2 (.t 41) (.t 42), some (39, true)⟩,
  ⟨some 44, .load true 2 (.t 43), some (39, true)⟩,
  ⟨some 45, .mv (.t 1), some (39, true)⟩,
  ⟨some 46, .callv false (.t 40) [(.t 44), (.t 45)], some (39, true)⟩,
  ⟨some 47, .bin .eql (.t 46) (ci 0), some (39, true)⟩,
  oo 48 (.pick (.t 39) (.t 47) (.c (.bool false))),
  oo 6 (.mv (.t 35)),
  oo 7 (.mv (.t 48))])
 .ret)
def f62_ac : AC :=
 (.seq (rg [oo 6 (.mv (ci 0)),
  oo 7 (.mv (.c (.bool false)))])
 (.seq (rg [oo 12 (.mv (.t 0)),
  oo 13 (.len false (.t 12)),
  oo 8 (.mv (.t 13))])
 (.seq (rg [oo 14 (.mv (.t 8)),
  oo 9 (.mv (ci 0)),
  oo 10 (.mv (.t 14))])
 (.seq (.block 0 (.loop ⟨[0, 1, 2, 8, 9, 10], [], []⟩ f62_b0))
 f62_r0))))
noncomputable def f62_l0 (E : Env) (x0 : U) (x1 : U) (x2 : U) (x8 : U) (x9 : U) (x10 : U) : Option U := loopK (roundOf E ⟨[0, 1, 2, 8, 9, 10], [], []⟩ f62_b0 (blockK 0 (seqK (fun s => exec E f62_r0 s (finish [(6, none), (7, none)])) (finish [(6, none), (7, none)])))) ([.val x0, .val x1, .val x2, .val x8, .val x9, .val x10], [])
theorem f62_l0_eq (E : Env) (x0 : U) (x1 : U) (x2 : U) (x8 : U) (x9 : U) (x10 : U) : f62_l0 E x0 x1 x2 x8 x9 x10 =
 (U.bin .lss x9 x10).bind fun t2 => U.asBool t2
 ((U.bin .add x9 x10).bind fun t3 => (U.conv .u64 t3).bind fun t4 => (U.bin .shr t4 (.int .u64 1)).bind fun t5 => (U.conv .i64 t5).bind fun t6 => U.asInt t6 fun n7 => U.elemAt 2 x0 n7 fun e8 => U.asVar true 2 e8 fun e9 => U.asFn x2 fun r10 caps11 => (E r10 ([e9, x1] ++ caps11)).bind fun t12 => (U.bin .lss t12 (.int .i64 0)).bind fun t13 => U.asBool t13
 ((U.bin .add t6 (.int .i64 1)).bind fun t14 => f62_l0 E x0 x1 x2 x8 t14 x10)
 (f62_l0 E x0 x1 x2 x8 x9 t6))
 ((U.bin .lss x9 x8).bind fun t15 => U.asBool t15
 (U.asInt x9 fun n16 => U.elemAt 2 x0 n16 fun e17 => U.asVar true 2 e17 fun e18 => U.asFn x2 fun r19 caps20 => (E r19 ([e18, x1] ++ caps20)).bind fun t21 => (U.bin .eql t21 (.int .i64 0)).bind fun t22 => U.noTup x9 fun x23 => U.noTup t22 fun x24 => some (.tup [x23, x24]))
 (U.noTup x9 fun x25 => some (.tup [x25, (.bool false)]))) :=
 (loop_eq E _ _ _ _).trans (by kernel_rfl)
structure G_f62 (E : Env) : Prop where
  is : Is E 340 3 f62_ac [(6, none), (7, none)]
theorem f62_E {E : Env} (h : G_f62 E) (a0 a1 a2 : U) : E 340 [a0, a1, a2] =
 (U.lenOf false a0).bind fun n1 => f62_l0 E a0 a1 a2 (.int .i64 (n1 : Int)) (.int .i64 0) (.int .i64 (n1 : Int)) := (h.is _ rfl).trans ((runQ_V rfl).trans (by kernel_rfl))
def f15_ac : AC :=
 (.seq (rg [oo 2 (.box false 2 (.t 0)),
  oo 4 (.mv (ci 0))])
 (.seq (rg [oo 5 (.faddr 0 0 (.t 2)),
  oo 6 (.load false 1 (.t 5)),
  oo 7 (.mv (.t 1)),
  oo 8 (.call false 13 [(.t 6), (.t 7)]),
  oo 4 (.mv (.t 8))])
 .ret))
structure G_f15 (E : Env) : Prop where
  is : Is E 339 2 f15_ac [(4, none)]
  c_f0 : G_f0 E
theorem f15_E {E : Env} (h : G_f15 E) (a0 a1 : U) : E 339 [a0, a1] =
 U.noTup a0 fun x1 => U.asAgg x1 fun us2 => if 0 = sizes (us2.take 0) then (us2[0]?).bind fun e3 => U.asVar false 1 e3 fun e4 => (E 13 [e4, a1]).bind fun t5 => some t5 else none := (h.is _ rfl).trans ((runQ_V rfl).trans (by kernel_rfl))
def f9_ac : AC :=
 (.seq (rg [oo 2 (.box false 2 (.t 0)),
  oo 4 (.mv (.c .nil))])
 (.seq (rg [oo 6 (.faddr 0 0 (.t 2)),
  oo 7 (.load false 1 (.t 6)),
  oo 8 (.mv (.t 1)),
  oo 9 (.iaddr 1 (.t 7) (.t 8)),
  oo 10 (.load false 1 (.t 9)),
  oo 5 (.mv (.t 10))])
 (.seq (rg [oo 11 (.mv (.t 5)),
  oo 12 (.mv (.t 5)),
  oo 13 (.len false (.t 12)),
  oo 14 (.bin .sub (.t 13) (ci 1)),
  oo 15 (.iaddr 5 (.t 11) (.t 14)),
  oo 4 (.mv (.t 15))])
 .ret)))
structure G_f9 (E : Env) : Prop where
  is : Is E 230 2 f9_ac [(4, none)]
theorem f9_E {E : Env} (h : G_f9 E) (a0 a1 : U) : E 230 [a0, a1] =
 U.noTup a0 fun x1 => U.asAgg x1 fun us2 => if 0 = sizes (us2.take 0) then (us2[0]?).bind fun e3 => U.asVar false 1 e3 fun e4 => U.asInt a1 fun n5 => U.elemAt 1 e4 n5 fun e6 => U.asVar false 1 e6 fun e7 => (U.lenOf false e7).bind fun n8 => (U.bin .sub (.int .i64 (n8 : Int)) (.int .i64 1)).bind fun t9 => U.asInt t9 fun n10 => U.elemAt 5 e7 n10 fun e11 => some (.vp e11) else none := (h.is _ rfl).trans ((runQ_V rfl).trans (by kernel_rfl))
def f63_ac : AC :=
 (.seq (rg [oo 2 (.mv (.c (.nsl 2)))])
 (.seq (.seq (rg [oo 3 (.mv (.t 0)),
  oo 4 (.eqnil false (.t 3))])
 (.cond (.t 4) (.seq (rg [oo 2 (.mv (.c (.nsl 2)))])
 .ret) .skip))
 (.seq (rg [oo 5 (.bslice 1 5 2 0 (.agg [(.int .i64 0), (.int .i64 0)]) []),
  oo 6 (.mv (.t 0)),
  oo 7 (.append false 7 2 16 (.t 5) (.t 6)),
  oo 2 (.mv (.t 7))])
 .ret)))
theorem f63_eq (E : Env) (a0 : U) : run E f63_ac [(2, none)] [a0] =
 (U.isNil a0).bind fun q1 => U.asBool (.bool q1)
 (some (.nsl 2))
 ((U.elems 2 a0).bind fun ys2 => if 2 = 2 ∧ 2 = 2 ∧ ((([] : List U)).length + (ys2 : List U).length) * 16 ≤ 140737488355328 then some (.sl 2 (([] : List U) ++ ys2)) else none) := by kernel_rfl
theorem f63_F_eq (E : Env) (a0 : U) : exec E f63_ac (start [a0]) (finishF [(2, none)]) =
 (U.isNil a0).bind fun q1 => U.asBool (.bool q1)
 (some (.sl 2 []))
 ((U.elems 2 a0).bind fun ys2 => if 2 = 2 ∧ 2 = 2 ∧ ((([] : List U)).length + (ys2 : List U).length) * 16 ≤ 140737488355328 then if U.flat.flats (([] : List U) ++ ys2) = true then some (.sl 2 (([] : List U) ++ ys2)) else none else none) := by kernel_rfl
theorem f63_ok : CloneOK f63_ac 2 16 where
  v := fun E u us h => by
    rw [f63_eq]
    simp [U.isNil, U.elems, h]
  f := fun E u us h hf => by
    rw [f63_F_eq]
    simp [U.isNil, U.elems, h, hf]
  vn := fun E => by kernel_rfl
  fn := fun E => by kernel_rfl
  vt := fun E => by kernel_rfl
  vf := fun E => by kernel_rfl
  ft := fun E => by kernel_rfl
  ff := fun E => by kernel_rfl
def f64_ac : AC :=
 (.seq (rg [oo 2 (.mv (.c (.nsl 2)))])
 (.seq (.seq (rg [oo 3 (.mv (.t 0)),
  oo 4 (.eqnil false (.t 3))])
 (.cond (.t 4) (.seq (rg [oo 2 (.mv (.c (.nsl 2)))])
 .ret) .skip))
 (.seq (rg [oo 5 (.bslice 1 5 2 0 (.agg [(.int .i64 0), (.int .i64 0)]) []),
  oo 6 (.mv (.t 0)),
  oo 7 (.append false 7 2 16 (.t 5) (.t 6)),
  oo 2 (.mv (.t 7))])
 .ret)))
theorem f64_eq (E : Env) (a0 : U) : run E f64_ac [(2, none)] [a0] =
 (U.isNil a0).bind fun q1 => U.asBool (.bool q1)
 (some (.nsl 2))
 ((U.elems 2 a0).bind fun ys2 => if 2 = 2 ∧ 2 = 2 ∧ ((([] : List U)).length + (ys2 : List U).length) * 16 ≤ 140737488355328 then some (.sl 2 (([] : List U) ++ ys2)) else none) := by kernel_rfl
theorem f64_F_eq (E : Env) (a0 : U) : exec E f64_ac (start [a0]) (finishF [(2, none)]) =
 (U.isNil a0).bind fun q1 => U.asBool (.bool q1)
 (some (.sl 2 []))
 ((U.elems 2 a0).bind fun ys2 => if 2 = 2 ∧ 2 = 2 ∧ ((([] : List U)).length + (ys2 : List U).length) * 16 ≤ 140737488355328 then if U.flat.flats (([] : List U) ++ ys2) = true then some (.sl 2 (([] : List U) ++ ys2)) else none else none) := by kernel_rfl
theorem f64_ok : CloneOK f64_ac 2 16 where
  v := fun E u us h => by
    rw [f64_eq]
    simp [U.isNil, U.elems, h]
  f := fun E u us h hf => by
    rw [f64_F_eq]
    simp [U.isNil, U.elems, h, hf]
  vn := fun E => by kernel_rfl
  fn := fun E => by kernel_rfl
  vt := fun E => by kernel_rfl
  vf := fun E => by kernel_rfl
  ft := fun E => by kernel_rfl
  ff := fun E => by kernel_rfl
def f13_ac : AC :=
 (.seq (rg [oo 1 (.boxN 9 1 (.t 0)),
  oo 2 (.alloc 2 (.agg [(.int .i64 0), (.int .i64 0), (.int .i64 0), (.int .i64 0), (.int .i64 0), (.int .i64 0), (.int .i64 0), (.nsl 2), (.nsl 2)]))])
 (.seq (.regN 7 [5, 8] [(0, 5), (1, 5), (3, 5), (4, 5), (0, 8), (1, 8), (2, 8), (3, 8), (4, 8), (6, 8)] [(.t 3), (.t 6)] [oo 3 (.faddr 7 7 (.t 1)),
  oo 4 (.load false 1 (.t 3)),
  oo 5 (.callF 5 false [(.sl 2)] 224 [(.t 4)]),
  oo 6 (.faddr 8 8 (.t 1)),
  oo 7 (.load false 1 (.t 6)),
  oo 8 (.callF 8 false [(.sl 2)] 225 [(.t 7)]),
  oo 9 (.faddr 7 7 (.t 1)),
  ⟨none, .storeM 3000 1 (.t 9) (.t 5), none⟩,
  oo 10 (.faddr 8 8 (.t 1)),
  ⟨none, .storeM 3002 1 (.t 10) (.t 8), none⟩])
 (.seq (rg [oo 11 (.loadO (.agg [.int, .int, .int, .int, .int, .int, .int, (.sl 2), (.sl 2)]) (.t 1)),
  ⟨none, .storeM 3001 9 (.t 2) (.t 11), none⟩])
 .ret)))
structure G_f13 (E : Env) : Prop where
  is : Is E 100222 1 f13_ac [(2, some (true, 9))]
  c_f63 : IsClone E 224 2 16
  c_f64 : IsClone E 225 2 16
theorem f13_E {E : Env} (h : G_f13 E) (a0 : U) : E 100222 [a0] =
 U.asAgg a0 fun us1 => (match us1 with
 | u2 :: us3 => ((match us3 with
 | u4 :: us5 => ((match us5 with
 | u6 :: us7 => ((match us7 with
 | u8 :: us9 => ((match us9 with
 | u10 :: us11 => ((match us11 with
 | u12 :: us13 => ((match us13 with
 | u14 :: us15 => ((match us15 with
 | u16 :: us17 => ((match us17 with
 | u18 :: us19 => ((match us19 with
 | [] => (if 7 = sizes [u2, u4, u6, u8, u10, u12, u14] then U.asVar false 1 u16 fun e20 => (E 100224 [e20]).bind fun t21 => U.noTup t21 fun x22 => U.asSlK 2 x22 fun us23 => if 8 = sizes [u2, u4, u6, u8, u10, u12, u14, u16] then U.asVar false 1 u18 fun e24 => (E 100225 [e24]).bind fun t25 => U.noTup t25 fun x26 => U.asSlK 2 x26 fun us27 => if 7 = sizes [u2, u4, u6, u8, u10, u12, u14] then if 7 = sizes [u2, u4, u6, u8, u10, u12, u14] then if u16.size = u16.size then if 7 = dsizes [.val u2, .val u4, .val u6, .val u8, .val u10, .val u12, .val u14] then if u16.size = 1 then if 8 = dsizes [.val u2, .val u4, .val u6, .val u8, .val u10, .val u12, .val u14, .own (.sl 2 us23)] then if 8 = dsizes [.val u2, .val u4, .val u6, .val u8, .val u10, .val u12, .val u14, .own (.sl 2 us23)] then if u18.size = u18.size then if 8 = dsizes [.val u2, .val u4, .val u6, .val u8, .val u10, .val u12, .val u14, .own (.sl 2 us23)] then if u18.size = 1 then U.asInt u2 fun n28 => U.asInt u4 fun n29 => U.asInt u6 fun n30 => U.asInt u8 fun n31 => U.asInt u10 fun n32 => U.asInt u12 fun n33 => U.asInt u14 fun n34 => if 7 = dsizes [.val u2, .val u4, .val u6, .val u8, .val u10, .val u12, .val u14] then if 7 = dsizes [.val u2, .val u4, .val u6, .val u8, .val u10, .val u12, .val u14] then if 8 = dsizes [.val u2, .val u4, .val u6, .val u8, .val u10, .val u12, .val u14, .junk 1] then if 8 = dsizes [.val u2, .val u4, .val u6, .val u8, .val u10, .val u12, .val u14, .junk 1] then some (.agg [(.int .i64 n28), (.int .i64 n29), (.int .i64 n30), (.int .i64 n31), (.int .i64 n32), (.int .i64 n33), (.int .i64 n34), (.sl 2 us23), (.sl 2 us27)]) else none else none else none else none else none else none else none else none else none else none else none else none else none else none else none else none)
 | _ => none))
 | [] => none))
 | [] => none))
 | [] => none))
 | [] => none))
 | [] => none))
 | [] => none))
 | [] => none))
 | [] => none))
 | [] => none) := (h.is _ rfl).trans ((runQ_F rfl).trans (by kernel_rfl))
def f10_r0 : AC :=
 (rg [])
def f10_ac : AC :=
 (.seq (rg [oo 4 (.box false 4 (.t 0)),
  oo 5 (.box false 5 (.t 1)),
  oo 8 (.alloc 8 (.agg [(.int .i64 0), (.int .i64 0), (.int .i64 0), (.int .i64 0), (.int .i64 0), (.int .i64 0), (.int .i64 0), (.nsl 2), (.nsl 2)])),
  oo 9 (.mv (.c (.bool false)))])
 (.seq (rg [oo 11 (.load true 9 (.t 5)),
  oo 12 (.callF 12 false [(.agg [.int, .int, .int, .int, .int, .int, .int, (.sl 2), (.sl 2)])] 222 [(.t 11)]),
  oo 10 (.alloc 10 (.agg [(.int .i64 0), (.int .i64 0), (.int .i64 0), (.int .i64 0), (.int .i64 0), (.int .i64 0), (.int .i64 0), (.nsl 2), (.nsl 2)])),
  ⟨none, .storeM 3000 9 (.t 10) (.t 12), none⟩])
 (.seq (.seq (rg [oo 13 (.load true 1 (.t 4)),
  oo 14 (.call false 112 [(.t 13)]),
  oo 15 (.un .not (.t 14)),
  oo 16 (.mv (.t 15)),
  ⟨some 17, .load true 9 (.t 5), some (16, false)⟩,
  ⟨some 18, .call false 301 [(.t 17)], some (16, false)⟩,
  ⟨some 19, .un .not (.t 18), some (16, false)⟩,
  oo 20 (.pick (.t 16) (.c (.bool true)) (.t 19)),
  oo 21 (.mv (.t 20)),
  ⟨some 22, .mv (.t 2), some (21, false)⟩,
  ⟨some 23, .call false 11 [(.t 22)], some (21, false)⟩,
  ⟨some 24, .un .not (.t 23), some (21, false)⟩,
  oo 25 (.pick (.t 21) (.c (.bool true)) (.t 24)),
  oo 26 (.mv (.t 25)),
  ⟨some 27, .mv (.t 3), some (26, false)⟩,
  ⟨some 28, .call false 76 [(.t 27)], some (26, false)⟩,
  ⟨some 29, .un .not (.t 28), some (26, false)⟩,
  oo 30 (.pick (.t 26) (.c (.bool true)) (.t 29))])
 (.cond (.t 30) (.seq (rg [oo 31 (.loadO (.agg [.int, .int, .int, .int, .int, .int, .int, (.sl 2), (.sl 2)]) (.t 10)),
  ⟨none, .storeM 3001 9 (.t 8) (.t 31), none⟩,
  oo 9 (.mv (.c (.bool false)))])
 .ret) .skip))
 (.seq (.regI 0 [oo 32 (.load true 1 (.t 4)),
  oo 33 (.mv (.t 2)),
  oo 34 (.mv (.t 3))] ⟨some 35, 37, 63, 337, [(.t 10), (.t 32), (.t 33), (.t 34)], []⟩ (.seq (rg [oo 42 (.box false 42 (.t 38))])
 (.seq (rg [oo 48 (.mv (.t 37)),
  oo 49 (.nilck (.t 48)),
  oo 50 (.faddr 8 8 (.t 49)),
  oo 51 (.loadO (.sl 2) (.t 50)),
  oo 52 (.mv (.t 39)),
  oo 53 (.call false 340 [(.t 51), (.t 52), (.c (.fn 339 []))]),
  oo 47 (.mv (.t 53)),
  oo 54 (.extract 0 (.t 47)),
  oo 55 (.extract 1 (.t 47)),
  oo 45 (.mv (.t 54)),
  oo 46 (.mv (.t 55))])
 (.seq (rg [oo 56 (.mv (.t 37)),
  oo 57 (.mv (.t 37)),
  oo 58 (.nilck (.t 57)),
  oo 59 (.faddr 8 8 (.t 58)),
  oo 60 (.loadO (.sl 2) (.t 59)),
  oo 61 (.callF 61 false [(.sl 2)] 225 [(.t 60)]),
  oo 62 (.nilck (.t 56)),
  oo 63 (.faddr 8 8 (.t 62)),
  ⟨none, .storeM 3002 1 (.t 63) (.t 61), none⟩])
 (.seq (.seq (rg [oo 64 (.mv (.t 46))])
 (.cond (.t 64) (rg [oo 65 (.mv (.t 37)),
  oo 66 (.nilck (.t 65)),
  oo 67 (.faddr 8 8 (.t 66)),
  oo 68 (.loadO (.sl 2) (.t 67)),
  oo 69 (.mv (.t 45)),
  oo 70 (.mv (.t 40)),
  oo 71 (.iaddr 2 (.t 68) (.t 69)),
  oo 72 (.faddr 1 1 (.t 71)),
  ⟨none, .store 1 (.t 72) (.t 70), none⟩]) (rg [oo 73 (.mv (.t 37)),
  oo 74 (.mv (.t 37)),
  oo 75 (.nilck (.t 74)),
  oo 76 (.faddr 8 8 (.t 75)),
  oo 77 (.loadO (.sl 2) (.t 76)),
  oo 78 (.mv (.t 45)),
  oo 79 (.mv (.t 39)),
  oo 80 (.mv (.t 40)),
  oo 81 (.build [(.int .i64 0), (.int .i64 0)] [(0, (.t 79)), (1, (.t 80))]),
  oo 82 (.bslice 0 82 2 1 (.agg [(.int .i64 0), (.int .i64 0)]) [(0, (.t 81))]),
  oo 83 (.callC 83 2 338 (.t 77) [(.t 78), (.t 82)]),
  oo 84 (.nilck (.t 73)),
  oo 85 (.faddr 8 8 (.t 84)),
  ⟨none, .storeM 3004 1 (.t 85) (.t 83), none⟩])))
 (.region 14 [oo 86 (.mv (.t 37)),
  oo 87 (.mv (.t 37)),
  oo 88 (.nilck (.t 87)),
  oo 89 (.faddr 4 4 (.t 88)),
  oo 90 (.load false 1 (.t 89)),
  oo 91 (.load true 1 (.t 42)),
  oo 92 (.mv (.t 39)),
  oo 93 (.call false 230 [(.t 91), (.t 92)]),
  oo 94 (.nilck (.t 93)),
  oo 95 (.faddr 3 3 (.t 94)),
  oo 96 (.load false 1 (.t 95)),
  oo 97 (.minmax true [(.t 90), (.t 96)]),
  oo 98 (.nilck (.t 86)),
  oo 99 (.faddr 4 4 (.t 98)),
  ⟨none, .store 1 (.t 99) (.t 97), none⟩]))))) f10_r0)
 (.seq (rg [oo 36 (.loadO (.agg [.int, .int, .int, .int, .int, .int, .int, (.sl 2), (.sl 2)]) (.t 10)),
  ⟨none, .storeM 3003 9 (.t 8) (.t 36), none⟩,
  oo 9 (.mv (.c (.bool true)))])
 .ret)))))
structure G_f10 (E : Env) : Prop where
  is : Is E 334 4 f10_ac [(8, some (true, 9)), (9, none)]
  c_f5 : G_f5 E
  c_f14 : G_f14 E
  c_f21 : G_f21 E
  c_f23 : G_f23 E
  c_f62 : G_f62 E
  c_f15 : G_f15 E
  c_f9 : G_f9 E
  c_f13 : G_f13 E
  c_f64 : IsClone E 225 2 16
  c_slices_Insert_g338 : IsIns E 338 2 16
theorem f10_E {E : Env} (h : G_f10 E) (a0 a1 a2 a3 : U) : E 334 [a0, a1, a2, a3] =
 U.noTup a0 fun x1 => U.noTup a1 fun x2 => U.asVar true 9 x2 fun e3 => (E 100222 [e3]).bind fun t4 => U.noTup t4 fun x5 => U.asAgg x5 fun us6 => (match us6 with
 | u7 :: us8 => (U.asInt u7 fun n9 => (match us8 with
 | u10 :: us11 => (U.asInt u10 fun n12 => (match us11 with
 | u13 :: us14 => (U.asInt u13 fun n15 => (match us14 with
 | u16 :: us17 => (U.asInt u16 fun n18 => (match us17 with
 | u19 :: us20 => (U.asInt u19 fun n21 => (match us20 with
 | u22 :: us23 => (U.asInt u22 fun n24 => (match us23 with
 | u25 :: us26 => (U.asInt u25 fun n27 => (match us26 with
 | u28 :: us29 => (U.asSlK 2 u28 fun us30 => (match us29 with
 | u31 :: us32 => (U.asSlK 2 u31 fun us33 => (match us32 with
 | [] => (U.asVar true 1 x1 fun e34 => (E 112 [e34]).bind fun t35 => (U.un .not t35).bind fun t36 => U.asBool t36
 (some (.tup [(.agg [(.int .i64 n9), (.int .i64 n12), (.int .i64 n15), (.int .i64 n18), (.int .i64 n21), (.int .i64 n24), (.int .i64 n27), (.sl 2 us30), (.sl 2 us33)]), (.bool false)]))
 (U.asVar true 9 x2 fun e37 => (E 301 [e37]).bind fun t38 => (U.un .not t38).bind fun t39 => U.asBool t39
 (some (.tup [(.agg [(.int .i64 n9), (.int .i64 n12), (.int .i64 n15), (.int .i64 n18), (.int .i64 n21), (.int .i64 n24), (.int .i64 n27), (.sl 2 us30), (.sl 2 us33)]), (.bool false)]))
 ((E 11 [a2]).bind fun t40 => (U.un .not t40).bind fun t41 => U.asBool t41
 (some (.tup [(.agg [(.int .i64 n9), (.int .i64 n12), (.int .i64 n15), (.int .i64 n18), (.int .i64 n21), (.int .i64 n24), (.int .i64 n27), (.sl 2 us30), (.sl 2 us33)]), (.bool false)]))
 ((E 76 [a3]).bind fun t42 => (U.un .not t42).bind fun t43 => U.asBool t43
 (some (.tup [(.agg [(.int .i64 n9), (.int .i64 n12), (.int .i64 n15), (.int .i64 n18), (.int .i64 n21), (.int .i64 n24), (.int .i64 n27), (.sl 2 us30), (.sl 2 us33)]), (.bool false)]))
 (U.asVar true 1 x1 fun e44 => U.noTup e44 fun x45 => (E 340 [(.sl 2 us33), a2, (.fn 339 [])]).bind fun t46 => U.asFlat t46 fun t47 => U.part 0 t47 fun p48 => U.part 1 t47 fun p49 => (E 100225 [(.sl 2 us33)]).bind fun t50 => U.noTup t50 fun x51 => U.asSlK 2 x51 fun us52 => U.asBool p49
 (U.asInt p48 fun n53 => if 2 = 2 ∧ 0 ≤ n53 ∧ n53 < (us52.length : Int) then if storable (.val a3) = true ∧ a3.size = 1 then (us52[(n53 : Int).toNat]?).bind fun e54 => U.asAgg e54 fun us55 => if 1 = sizes (us55.take 1) then (us55[1]?).bind fun e56 => if e56.size = 1 then if (a3 : U).flat = true then U.asVar true 1 x45 fun e57 => (E 230 [e57, a2]).bind fun t58 => U.asVp t58 fun v59 => U.fieldAt 3 3 v59 fun f60 => U.asVar false 1 f60 fun e61 => U.asInt e61 fun n62 => some (.tup [(.agg [(.int .i64 n9), (.int .i64 n12), (.int .i64 n15), (.int .i64 n18), (.int .i64 (([n62] : List Int).foldl (fun a b => if true then (if a < b then b else a) else (if b < a then b else a)) n21)), (.int .i64 n24), (.int .i64 n27), (.sl 2 us30), (.sl 2 (us52.set (n53 : Int).toNat (.agg (us55.set 1 a3))))]), (.bool true)]) else none else none else none else none else none)
 (if partable (.val a2) = true ∧ a2.size = 1 then if partable (.val a3) = true ∧ a3.size = 1 then if partable (.val (.agg [a2, a3])) = true ∧ ((.agg [a2, a3]) : U).size = 2 then (E 300338 (.agg [.tup [.sl 2 us52]] :: [p48, (.sl 2 [(.agg [a2, a3])])])).bind fun t63 => U.asSlK 2 t63 fun us64 => U.asVar true 1 x45 fun e65 => (E 230 [e65, a2]).bind fun t66 => U.asVp t66 fun v67 => U.fieldAt 3 3 v67 fun f68 => U.asVar false 1 f68 fun e69 => U.asInt e69 fun n70 => some (.tup [(.agg [(.int .i64 n9), (.int .i64 n12), (.int .i64 n15), (.int .i64 n18), (.int .i64 (([n70] : List Int).foldl (fun a b => if true then (if a < b then b else a) else (if b < a then b else a)) n21)), (.int .i64 n24), (.int .i64 n27), (.sl 2 us30), (.sl 2 us64)]), (.bool true)]) else none else none else none))))))
 | _ => none))
 | [] => none))
 | [] => none))
 | [] => none))
 | [] => none))
 | [] => none))
 | [] => none))
 | [] => none))
 | [] => none))
 | [] => none) := (h.is _ rfl).trans ((runQ_V rfl).trans (by kernel_rfl))
def f25_ac : AC :=
 (.seq (rg [oo 2 (.box false 2 (.t 0)),
  oo 3 (.box false 3 (.t 1)),
  oo 4 (.mv (.c (.bool false)))])
 (.seq (.seq (rg [oo 5 (.faddr 0 0 (.t 2)),
  oo 6 (.load false 1 (.t 5)),
  oo 7 (.faddr 0 0 (.t 3)),
  oo 8 (.load false 1 (.t 7)),
  oo 9 (.bin .neq (.t 6) (.t 8))])
 (.cond (.t 9) (.seq (rg [oo 4 (.mv (.c (.bool false)))])
 .ret) .skip))
 (.seq (.seq (rg [oo 10 (.faddr 1 1 (.t 2)),
  oo 11 (.load false 1 (.t 10)),
  oo 12 (.faddr 1 1 (.t 3)),
  oo 13 (.load false 1 (.t 12)),
  oo 14 (.bin .neq (.t 11) (.t 13))])
 (.cond (.t 14) (.seq (rg [oo 4 (.mv (.c (.bool false)))])
 .ret) .skip))
 (.seq (rg [oo 4 (.mv (.c (.bool true)))])
 .ret))))
structure G_f25 (E : Env) : Prop where
  is : Is E 35 2 f25_ac [(4, none)]
theorem f25_E {E : Env} (h : G_f25 E) (a0 a1 : U) : E 35 [a0, a1] =
 U.noTup a0 fun x1 => U.noTup a1 fun x2 => U.asAgg x1 fun us3 => if 0 = sizes (us3.take 0) then (us3[0]?).bind fun e4 => U.asVar false 1 e4 fun e5 => U.asAgg x2 fun us6 => if 0 = sizes (us6.take 0) then (us6[0]?).bind fun e7 => U.asVar false 1 e7 fun e8 => (U.bin .neq e5 e8).bind fun t9 => U.asBool t9
 (some (.bool false))
 (U.asAgg x1 fun us10 => if 1 = sizes (us10.take 1) then (us10[1]?).bind fun e11 => U.asVar false 1 e11 fun e12 => U.asAgg x2 fun us13 => if 1 = sizes (us13.take 1) then (us13[1]?).bind fun e14 => U.asVar false 1 e14 fun e15 => (U.bin .neq e12 e15).bind fun t16 => U.asBool t16
 (some (.bool false))
 (some (.bool true)) else none else none) else none else none := (h.is _ rfl).trans ((runQ_V rfl).trans (by kernel_rfl))
def f26_b0 : AC :=
 (.seq (.seq (rg [oo 11 (.mv (.t 5)),
  oo 12 (.mv (.t 0)),
  oo 13 (.len false (.t 12)),
  oo 14 (.bin .lss (.t 11) (.t 13))])
 (.cond (.t 14) .skip (.exit 0)))
 (.seq (.block 1 (.seq (.region 10 [oo 17 (.mv (.t 0)),
  oo 18 (.mv (.t 5)),
  oo 19 (.iaddr 2 (.t 17) (.t 18)),
  oo 20 (.load true 2 (.t 19)),
  oo 21 (.mv (.t 1)),
  oo 22 (.mv (.t 5)),
  oo 23 (.iaddr 2 (.t 21) (.t 22)),
  oo 24 (.load true 2 (.t 23)),
  oo 25 (.call false 35 [(.t 20), (.t 24)]),
  oo 26 (.un .not (.t 25))])
 (.cond (.t 26) (.seq (rg [oo 4 (.mv (.c (.bool false)))])
 .ret) .skip)))
 (rg [oo 15 (.mv (.t 5)),
  oo 16 (.bin .add (.t 15) (ci 1)),
  oo 5 (.mv (.t 16))])))
def f26_r0 : AC :=
 (.seq (rg [oo 4 (.mv (.c (.bool true)))])
 .ret)
def f26_ac : AC :=
 (.seq (rg [oo 4 (.mv (.c (.bool false)))])
 (.seq (.seq (rg [oo 6 (.mv (.t 0)),
  oo 7 (.len false (.t 6)),
  oo 8 (.mv (.t 1)),
  oo 9 (.len false (.t 8)),
  oo 10 (.bin .neq (.t 7) (.t 9))])
 (.cond (.t 10) (.seq (rg [oo 4 (.mv (.c (.bool false)))])
 .ret) .skip))
 (.seq (.seq (rg [oo 5 (.mv (ci 0))])
 (.block 0 (.loop ⟨[0, 1, 5], [], []⟩ f26_b0)))
 f26_r0)))
noncomputable def f26_l0 (E : Env) (x0 : U) (x1 : U) (x5 : U) : Option U := loopK (roundOf E ⟨[0, 1, 5], [], []⟩ f26_b0 (blockK 0 (seqK (fun s => exec E f26_r0 s (finish [(4, none)])) (finish [(4, none)])))) ([.val x0, .val x1, .val x5], [])
theorem f26_l0_eq (E : Env) (x0 : U) (x1 : U) (x5 : U) : f26_l0 E x0 x1 x5 =
 (U.lenOf false x0).bind fun n4 => (U.bin .lss x5 (.int .i64 (n4 : Int))).bind fun t5 => U.asBool t5
 (U.asInt x5 fun n6 => U.elemAt 2 x0 n6 fun e7 => U.asVar true 2 e7 fun e8 => U.asInt x5 fun n9 => U.elemAt 2 x1 n9 fun e10 => U.asVar true 2 e10 fun e11 => (E 35 [e8, e11]).bind fun t12 => (U.un .not t12).bind fun t13 => U.asBool t13
 (some (.bool false))
 ((U.bin .add x5 (.int .i64 1)).bind fun t14 => f26_l0 E x0 x1 t14))
 (some (.bool true)) :=
 (loop_eq E _ _ _ _).trans (by kernel_rfl)
structure G_f26 (E : Env) : Prop where
  is : Is E 34 2 f26_ac [(4, none)]
  c_f25 : G_f25 E
theorem f26_E {E : Env} (h : G_f26 E) (a0 a1 : U) : E 34 [a0, a1] =
 (U.lenOf false a0).bind fun n1 => (U.lenOf false a1).bind fun n2 => (U.bin .neq (.int .i64 (n1 : Int)) (.int .i64 (n2 : Int))).bind fun t3 => U.asBool t3
 (some (.bool false))
 (f26_l0 E a0 a1 (.int .i64 0)) := (h.is _ rfl).trans ((runQ_V rfl).trans (by kernel_rfl))
def f32_ac : AC :=
 (.seq (rg [oo 2 (.box false 2 (.t 0)),
  oo 3 (.box false 3 (.t 1)),
  oo 4 (.mv (.c (.bool false)))])
 (.seq (.seq (rg [oo 5 (.faddr 0 0 (.t 2)),
  oo 6 (.load false 1 (.t 5)),
  oo 7 (.faddr 0 0 (.t 3)),
  oo 8 (.load false 1 (.t 7)),
  oo 9 (.bin .neq (.t 6) (.t 8))])
 (.cond (.t 9) (.seq (rg [oo 4 (.mv (.c (.bool false)))])
 .ret) .skip))
 (.seq (.seq (rg [oo 10 (.faddr 1 1 (.t 2)),
  oo 11 (.load false 1 (.t 10)),
  oo 12 (.faddr 1 1 (.t 3)),
  oo 13 (.load false 1 (.t 12)),
  oo 14 (.bin .neq (.t 11) (.t 13))])
 (.cond (.t 14) (.seq (rg [oo 4 (.mv (.c (.bool false)))])
 .ret) .skip))
 (.seq (rg [oo 4 (.mv (.c (.bool true)))])
 .ret))))
structure G_f32 (E : Env) : Prop where
  is : Is E 36 2 f32_ac [(4, none)]
theorem f32_E {E : Env} (h : G_f32 E) (a0 a1 : U) : E 36 [a0, a1] =
 U.noTup a0 fun x1 => U.noTup a1 fun x2 => U.asAgg x1 fun us3 => if 0 = sizes (us3.take 0) then (us3[0]?).bind fun e4 => U.asVar false 1 e4 fun e5 => U.asAgg x2 fun us6 => if 0 = sizes (us6.take 0) then (us6[0]?).bind fun e7 => U.asVar false 1 e7 fun e8 => (U.bin .neq e5 e8).bind fun t9 => U.asBool t9
 (some (.bool false))
 (U.asAgg x1 fun us10 => if 1 = sizes (us10.take 1) then (us10[1]?).bind fun e11 => U.asVar false 1 e11 fun e12 => U.asAgg x2 fun us13 => if 1 = sizes (us13.take 1) then (us13[1]?).bind fun e14 => U.asVar false 1 e14 fun e15 => (U.bin .neq e12 e15).bind fun t16 => U.asBool t16
 (some (.bool false))
 (some (.bool true)) else none else none) else none else none := (h.is _ rfl).trans ((runQ_V rfl).trans (by kernel_rfl))
def f33_b0 : AC :=
 (.seq (.seq (rg [oo 11 (.mv (.t 5)),
  oo 12 (.mv (.t 0)),
  oo 13 (.len false (.t 12)),
  oo 14 (.bin .lss (.t 11) (.t 13))])
 (.cond (.t 14) .skip (.exit 0)))
 (.seq (.block 1 (.seq (.region 10 [oo 17 (.mv (.t 0)),
  oo 18 (.mv (.t 5)),
  oo 19 (.iaddr 2 (.t 17) (.t 18)),
  oo 20 (.load true 2 (.t 19)),
  oo 21 (.mv (.t 1)),
  oo 22 (.mv (.t 5)),
  oo 23 (.iaddr 2 (.t 21) (.t 22)),
  oo 24 (.load true 2 (.t 23)),
  oo 25 (.call false 36 [(.t 20), (.t 24)]),
  oo 26 (.un .not (.t 25))])
 (.cond (.t 26) (.seq (rg [oo 4 (.mv (.c (.bool false)))])
 .ret) .skip)))
 (rg [oo 15 (.mv (.t 5)),
  oo 16 (.bin .add (.t 15) (ci 1)),
  oo 5 (.mv (.t 16))])))
def f33_r0 : AC :=
 (.seq (rg [oo 4 (.mv (.c (.bool true)))])
 .ret)
def f33_ac : AC :=
 (.seq (rg [oo 4 (.mv (.c (.bool false)))])
 (.seq (.seq (rg [oo 6 (.mv (.t 0)),
  oo 7 (.len false (.t 6)),
  oo 8 (.mv (.t 1)),
  oo 9 (.len false (.t 8)),
  oo 10 (.bin .neq (.t 7) (.t 9))])
 (.cond (.t 10) (.seq (rg [oo 4 (.mv (.c (.bool false)))])
 .ret) .skip))
 (.seq (.seq (rg [oo 5 (.mv (ci 0))])
 (.block 0 (.loop ⟨[0, 1, 5], [], []⟩ f33_b0)))
 f33_r0)))
noncomputable def f33_l0 (E : Env) (x0 : U) (x1 : U) (x5 : U) : Option U := loopK (roundOf E ⟨[0, 1, 5], [], []⟩ f33_b0 (blockK 0 (seqK (fun s => exec E f33_r0 s (finish [(4, none)])) (finish [(4, none)])))) ([.val x0, .val x1, .val x5], [])
theorem f33_l0_eq (E : Env) (x0 : U) (x1 : U) (x5 : U) : f33_l0 E x0 x1 x5 =
 (U.lenOf false x0).bind fun n4 => (U.bin .lss x5 (.int .i64 (n4 : Int))).bind fun t5 => U.asBool t5
 (U.asInt x5 fun n6 => U.elemAt 2 x0 n6 fun e7 => U.asVar true 2 e7 fun e8 => U.asInt x5 fun n9 => U.elemAt 2 x1 n9 fun e10 => U.asVar true 2 e10 fun e11 => (E 36 [e8, e11]).bind fun t12 => (U.un .not t12).bind fun t13 => U.asBool t13
 (some (.bool false))
 ((U.bin .add x5 (.int .i64 1)).bind fun t14 => f33_l0 E x0 x1 t14))
 (some (.bool true)) :=
 (loop_eq E _ _ _ _).trans (by kernel_rfl)
structure G_f33 (E : Env) : Prop where
  is : Is E 33 2 f33_ac [(4, none)]
  c_f32 : G_f32 E
theorem f33_E {E : Env} (h : G_f33 E) (a0 a1 : U) : E 33 [a0, a1] =
 (U.lenOf false a0).bind fun n1 => (U.lenOf false a1).bind fun n2 => (U.bin .neq (.int .i64 (n1 : Int)) (.int .i64 (n2 : Int))).bind fun t3 => U.asBool t3
 (some (.bool false))
 (f33_l0 E a0 a1 (.int .i64 0)) := (h.is _ rfl).trans ((runQ_V rfl).trans (by kernel_rfl))
def f28_ac : AC :=
 (.seq (rg [oo 2 (.box false 2 (.t 0)),
  oo 3 (.box false 3 (.t 1)),
  oo 4 (.mv (.c (.bool false)))])
 (.seq (.seq (rg [oo 5 (.faddr 0 0 (.t 2)),
  oo 6 (.load false 1 (.t 5)),
  oo 7 (.faddr 0 0 (.t 3)),
  oo 8 (.load false 1 (.t 7)),
  oo 9 (.bin .neq (.t 6) (.t 8))])
 (.cond (.t 9) (.seq (rg [oo 4 (.mv (.c (.bool false)))])
 .ret) .skip))
 (.seq (.seq (rg [oo 10 (.faddr 1 1 (.t 2)),
  oo 11 (.load false 1 (.t 10)),
  oo 12 (.faddr 1 1 (.t 3)),
  oo 13 (.load false 1 (.t 12)),
  oo 14 (.bin .neq (.t 11) (.t 13))])
 (.cond (.t 14) (.seq (rg [oo 4 (.mv (.c (.bool false)))])
 .ret) .skip))
 (.seq (.seq (rg [oo 15 (.faddr 2 2 (.t 2)),
  oo 16 (.load false 1 (.t 15)),
  oo 17 (.faddr 2 2 (.t 3)),
  oo 18 (.load false 1 (.t 17)),
  oo 19 (.bin .neq (.t 16) (.t 18))])
 (.cond (.t 19) (.seq (rg [oo 4 (.mv (.c (.bool false)))])
 .ret) .skip))
 (.seq (.seq (rg [oo 20 (.faddr 3 3 (.t 2)),
  oo 21 (.load false 1 (.t 20)),
  oo 22 (.faddr 3 3 (.t 3)),
  oo 23 (.load false 1 (.t 22)),
  oo 24 (.bin .neq (.t 21) (.t 23))])
 (.cond (.t 24) (.seq (rg [oo 4 (.mv (.c (.bool false)))])
 .ret) .skip))
 (.seq (.seq (rg [oo 25 (.faddr 4 4 (.t 2)),
  oo 26 (.load false 1 (.t 25)),
  oo 27 (.faddr 4 4 (.t 3)),
  oo 28 (.load false 1 (.t 27)),
  oo 29 (.bin .neq (.t 26) (.t 28))])
 (.cond (.t 29) (.seq (rg [oo 4 (.mv (.c (.bool false)))])
 .ret) .skip))
 (.seq (.seq (rg [oo 30 (.faddr 5 5 (.t 2)),
  oo 31 (.load false 1 (.t 30)),
  oo 32 (.faddr 5 5 (.t 3)),
  oo 33 (.load false 1 (.t 32)),
  oo 34 (.bin .neq (.t 31) (.t 33))])
 (.cond (.t 34) (.seq (rg [oo 4 (.mv (.c (.bool false)))])
 .ret) .skip))
 (.seq (.seq (rg [oo 35 (.faddr 6 6 (.t 2)),
  oo 36 (.load false 1 (.t 35)),
  oo 37 (.faddr 6 6 (.t 3)),
  oo 38 (.load false 1 (.t 37)),
  oo 39 (.bin .neq (.t 36) (.t 38))])
 (.cond (.t 39) (.seq (rg [oo 4 (.mv (.c (.bool false)))])
 .ret) .skip))
 (.seq (.seq (rg [oo 40 (.faddr 7 7 (.t 2)),
  oo 41 (.load false 1 (.t 40)),
  oo 42 (.faddr 7 7 (.t 3)),
  oo 43 (.load false 1 (.t 42)),
  oo 44 (.call false 34 [(.t 41), (.t 43)]),
  oo 45 (.un .not (.t 44))])
 (.cond (.t 45) (.seq (rg [oo 4 (.mv (.c (.bool false)))])
 .ret) .skip))
 (.seq (.seq (rg [oo 46 (.faddr 8 8 (.t 2)),
  oo 47 (.load false 1 (.t 46)),
  oo 48 (.faddr 8 8 (.t 3)),
  oo 49 (.load false 1 (.t 48)),
  oo 50 (.call false 33 [(.t 47), (.t 49)]),
  oo 51 (.un .not (.t 50))])
 (.cond (.t 51) (.seq (rg [oo 4 (.mv (.c (.bool false)))])
 .ret) .skip))
 (.seq (rg [oo 4 (.mv (.c (.bool true)))])
 .ret)))))))))))
structure G_f28 (E : Env) : Prop where
  is : Is E 177 2 f28_ac [(4, none)]
  c_f26 : G_f26 E
  c_f33 : G_f33 E
theorem f28_E {E : Env} (h : G_f28 E) (a0 a1 : U) : E 177 [a0, a1] =
 U.noTup a0 fun x1 => U.noTup a1 fun x2 => U.asAgg x1 fun us3 => if 0 = sizes (us3.take 0) then (us3[0]?).bind fun e4 => U.asVar false 1 e4 fun e5 => U.asAgg x2 fun us6 => if 0 = sizes (us6.take 0) then (us6[0]?).bind fun e7 => U.asVar false 1 e7 fun e8 => (U.bin .neq e5 e8).bind fun t9 => U.asBool t9
 (some (.bool false))
 (U.asAgg x1 fun us10 => if 1 = sizes (us10.take 1) then (us10[1]?).bind fun e11 => U.asVar false 1 e11 fun e12 => U.asAgg x2 fun us13 => if 1 = sizes (us13.take 1) then (us13[1]?).bind fun e14 => U.asVar false 1 e14 fun e15 => (U.bin .neq e12 e15).bind fun t16 => U.asBool t16
 (some (.bool false))
 (U.asAgg x1 fun us17 => if 2 = sizes (us17.take 2) then (us17[2]?).bind fun e18 => U.asVar false 1 e18 fun e19 => U.asAgg x2 fun us20 => if 2 = sizes (us20.take 2) then (us20[2]?).bind fun e21 => U.asVar false 1 e21 fun e22 => (U.bin .neq e19 e22).bind fun t23 => U.asBool t23
 (some (.bool false))
 (U.asAgg x1 fun us24 => if 3 = sizes (us24.take 3) then (us24[3]?).bind fun e25 => U.asVar false 1 e25 fun e26 => U.asAgg x2 fun us27 => if 3 = sizes (us27.take 3) then (us27[3]?).bind fun e28 => U.asVar false 1 e28 fun e29 => (U.bin .neq e26 e29).bind fun t30 => U.asBool t30
 (some (.bool false))
 (U.asAgg x1 fun us31 => if 4 = sizes (us31.take 4) then (us31[4]?).bind fun e32 => U.asVar false 1 e32 fun e33 => U.asAgg x2 fun us34 => if 4 = sizes (us34.take 4) then (us34[4]?).bind fun e35 => U.asVar false 1 e35 fun e36 => (U.bin .neq e33 e36).bind fun t37 => U.asBool t37
 (some (.bool false))
 (U.asAgg x1 fun us38 => if 5 = sizes (us38.take 5) then (us38[5]?).bind fun e39 => U.asVar false 1 e39 fun e40 => U.asAgg x2 fun us41 => if 5 = sizes (us41.take 5) then (us41[5]?).bind fun e42 => U.asVar false 1 e42 fun e43 => (U.bin .neq e40 e43).bind fun t44 => U.asBool t44
 (some (.bool false))
 (U.asAgg x1 fun us45 => if 6 = sizes (us45.take 6) then (us45[6]?).bind fun e46 => U.asVar false 1 e46 fun e47 => U.asAgg x2 fun us48 => if 6 = sizes (us48.take 6) then (us48[6]?).bind fun e49 => U.asVar false 1 e49 fun e50 => (U.bin .neq e47 e50).bind fun t51 => U.asBool t51
 (some (.bool false))
 (U.asAgg x1 fun us52 => if 7 = sizes (us52.take 7) then (us52[7]?).bind fun e53 => U.asVar false 1 e53 fun e54 => U.asAgg x2 fun us55 => if 7 = sizes (us55.take 7) then (us55[7]?).bind fun e56 => U.asVar false 1 e56 fun e57 => (E 34 [e54, e57]).bind fun t58 => (U.un .not t58).bind fun t59 => U.asBool t59
 (some (.bool false))
 (U.asAgg x1 fun us60 => if 8 = sizes (us60.take 8) then (us60[8]?).bind fun e61 => U.asVar false 1 e61 fun e62 => U.asAgg x2 fun us63 => if 8 = sizes (us63.take 8) then (us63[8]?).bind fun e64 => U.asVar false 1 e64 fun e65 => (E 33 [e62, e65]).bind fun t66 => (U.un .not t66).bind fun t67 => U.asBool t67
 (some (.bool false))
 (some (.bool true)) else none else none) else none else none) else none else none) else none else none) else none else none) else none else none) else none else none) else none else none) else none else none := (h.is _ rfl).trans ((runQ_V rfl).trans (by kernel_rfl))
def f29_ac : AC :=
 (.seq (rg [oo 2 (.box false 2 (.t 0)),
  oo 3 (.box false 3 (.t 1)),
  oo 4 (.mv (.c (.bool false)))])
 (.seq (.seq (rg [oo 5 (.faddr 0 0 (.t 2)),
  oo 6 (.load false 1 (.t 5)),
  oo 7 (.faddr 0 0 (.t 3)),
  oo 8 (.load false 1 (.t 7)),
  oo 9 (.bin .neq (.t 6) (.t 8))])
 (.cond (.t 9) (.seq (rg [oo 4 (.mv (.c (.bool false)))])
 .ret) .skip))
 (.seq (.seq (rg [oo 10 (.faddr 1 1 (.t 2)),
  oo 11 (.load false 1 (.t 10)),
  oo 12 (.faddr 1 1 (.t 3)),
  oo 13 (.load false 1 (.t 12)),
  oo 14 (.bin .neq (.t 11) (.t 13))])
 (.cond (.t 14) (.seq (rg [oo 4 (.mv (.c (.bool false)))])
 .ret) .skip))
 (.seq (.seq (rg [oo 15 (.faddr 2 2 (.t 2)),
  oo 16 (.load false 1 (.t 15)),
  oo 17 (.faddr 2 2 (.t 3)),
  oo 18 (.load false 1 (.t 17)),
  oo 19 (.bin .neq (.t 16) (.t 18))])
 (.cond (.t 19) (.seq (rg [oo 4 (.mv (.c (.bool false)))])
 .ret) .skip))
 (.seq (.seq (rg [oo 20 (.faddr 3 3 (.t 2)),
  oo 21 (.load false 1 (.t 20)),
  oo 22 (.faddr 3 3 (.t 3)),
  oo 23 (.load false 1 (.t 22)),
  oo 24 (.bin .neq (.t 21) (.t 23))])
 (.cond (.t 24) (.seq (rg [oo 4 (.mv (.c (.bool false)))])
 .ret) .skip))
 (.seq (.seq (rg [oo 25 (.faddr 4 4 (.t 2)),
  oo 26 (.load false 1 (.t 25)),
  oo 27 (.faddr 4 4 (.t 3)),
  oo 28 (.load false 1 (.t 27)),
  oo 29 (.bin .neq (.t 26) (.t 28))])
 (.cond (.t 29) (.seq (rg [oo 4 (.mv (.c (.bool false)))])
 .ret) .skip))
 (.seq (rg [oo 4 (.mv (.c (.bool true)))])
 .ret)))))))
structure G_f29 (E : Env) : Prop where
  is : Is E 120 2 f29_ac [(4, none)]
theorem f29_E {E : Env} (h : G_f29 E) (a0 a1 : U) : E 120 [a0, a1] =
 U.noTup a0 fun x1 => U.noTup a1 fun x2 => U.asAgg x1 fun us3 => if 0 = sizes (us3.take 0) then (us3[0]?).bind fun e4 => U.asVar false 1 e4 fun e5 => U.asAgg x2 fun us6 => if 0 = sizes (us6.take 0) then (us6[0]?).bind fun e7 => U.asVar false 1 e7 fun e8 => (U.bin .neq e5 e8).bind fun t9 => U.asBool t9
 (some (.bool false))
 (U.asAgg x1 fun us10 => if 1 = sizes (us10.take 1) then (us10[1]?).bind fun e11 => U.asVar false 1 e11 fun e12 => U.asAgg x2 fun us13 => if 1 = sizes (us13.take 1) then (us13[1]?).bind fun e14 => U.asVar false 1 e14 fun e15 => (U.bin .neq e12 e15).bind fun t16 => U.asBool t16
 (some (.bool false))
 (U.asAgg x1 fun us17 => if 2 = sizes (us17.take 2) then (us17[2]?).bind fun e18 => U.asVar false 1 e18 fun e19 => U.asAgg x2 fun us20 => if 2 = sizes (us20.take 2) then (us20[2]?).bind fun e21 => U.asVar false 1 e21 fun e22 => (U.bin .neq e19 e22).bind fun t23 => U.asBool t23
 (some (.bool false))
 (U.asAgg x1 fun us24 => if 3 = sizes (us24.take 3) then (us24[3]?).bind fun e25 => U.asVar false 1 e25 fun e26 => U.asAgg x2 fun us27 => if 3 = sizes (us27.take 3) then (us27[3]?).bind fun e28 => U.asVar false 1 e28 fun e29 => (U.bin .neq e26 e29).bind fun t30 => U.asBool t30
 (some (.bool false))
 (U.asAgg x1 fun us31 => if 4 = sizes (us31.take 4) then (us31[4]?).bind fun e32 => U.asVar false 1 e32 fun e33 => U.asAgg x2 fun us34 => if 4 = sizes (us34.take 4) then (us34[4]?).bind fun e35 => U.asVar false 1 e35 fun e36 => (U.bin .neq e33 e36).bind fun t37 => U.asBool t37
 (some (.bool false))
 (some (.bool true)) else none else none) else none else none) else none else none) else none else none) else none else none := (h.is _ rfl).trans ((runQ_V rfl).trans (by kernel_rfl))
def f30_b0 : AC :=
 (.seq (.seq (rg [oo 11 (.mv (.t 5)),
  oo 12 (.mv (.t 0)),
  oo 13 (.len false (.t 12)),
  oo 14 (.bin .lss (.t 11) (.t 13))])
 (.cond (.t 14) .skip (.exit 0)))
 (.seq (.block 1 (.seq (.region 10 [oo 17 (.mv (.t 0)),
  oo 18 (.mv (.t 5)),
  oo 19 (.iaddr 5 (.t 17) (.t 18)),
  oo 20 (.load true 5 (.t 19)),
  oo 21 (.mv (.t 1)),
  oo 22 (.mv (.t 5)),
  oo 23 (.iaddr 5 (.t 21) (.t 22)),
  oo 24 (.load true 5 (.t 23)),
  oo 25 (.call false 120 [(.t 20), (.t 24)]),
  oo 26 (.un .not (.t 25))])
 (.cond (.t 26) (.seq (rg [oo 4 (.mv (.c (.bool false)))])
 .ret) .skip)))
 (rg [oo 15 (.mv (.t 5)),
  oo 16 (.bin .add (.t 15) (ci 1)),
  oo 5 (.mv (.t 16))])))
def f30_r0 : AC :=
 (.seq (rg [oo 4 (.mv (.c (.bool true)))])
 .ret)
def f30_ac : AC :=
 (.seq (rg [oo 4 (.mv (.c (.bool false)))])
 (.seq (.seq (rg [oo 6 (.mv (.t 0)),
  oo 7 (.len false (.t 6)),
  oo 8 (.mv (.t 1)),
  oo 9 (.len false (.t 8)),
  oo 10 (.bin .neq (.t 7) (.t 9))])
 (.cond (.t 10) (.seq (rg [oo 4 (.mv (.c (.bool false)))])
 .ret) .skip))
 (.seq (.seq (rg [oo 5 (.mv (ci 0))])
 (.block 0 (.loop ⟨[0, 1, 5], [], []⟩ f30_b0)))
 f30_r0)))
noncomputable def f30_l0 (E : Env) (x0 : U) (x1 : U) (x5 : U) : Option U := loopK (roundOf E ⟨[0, 1, 5], [], []⟩ f30_b0 (blockK 0 (seqK (fun s => exec E f30_r0 s (finish [(4, none)])) (finish [(4, none)])))) ([.val x0, .val x1, .val x5], [])
theorem f30_l0_eq (E : Env) (x0 : U) (x1 : U) (x5 : U) : f30_l0 E x0 x1 x5 =
 (U.lenOf false x0).bind fun n4 => (U.bin .lss x5 (.int .i64 (n4 : Int))).bind fun t5 => U.asBool t5
 (U.asInt x5 fun n6 => U.elemAt 5 x0 n6 fun e7 => U.asVar true 5 e7 fun e8 => U.asInt x5 fun n9 => U.elemAt 5 x1 n9 fun e10 => U.asVar true 5 e10 fun e11 => (E 120 [e8, e11]).bind fun t12 => (U.un .not t12).bind fun t13 => U.asBool t13
 (some (.bool false))
 ((U.bin .add x5 (.int .i64 1)).bind fun t14 => f30_l0 E x0 x1 t14))
 (some (.bool true)) :=
 (loop_eq E _ _ _ _).trans (by kernel_rfl)
structure G_f30 (E : Env) : Prop where
  is : Is E 119 2 f30_ac [(4, none)]
  c_f29 : G_f29 E
theorem f30_E {E : Env} (h : G_f30 E) (a0 a1 : U) : E 119 [a0, a1] =
 (U.lenOf false a0).bind fun n1 => (U.lenOf false a1).bind fun n2 => (U.bin .neq (.int .i64 (n1 : Int)) (.int .i64 (n2 : Int))).bind fun t3 => U.asBool t3
 (some (.bool false))
 (f30_l0 E a0 a1 (.int .i64 0)) := (h.is _ rfl).trans ((runQ_V rfl).trans (by kernel_rfl))
def f31_b0 : AC :=
 (.seq (.seq (rg [oo 11 (.mv (.t 5)),
  oo 12 (.mv (.t 0)),
  oo 13 (.len false (.t 12)),
  oo 14 (.bin .lss (.t 11) (.t 13))])
 (.cond (.t 14) .skip (.exit 0)))
 (.seq (.block 1 (.seq (.region 10 [oo 17 (.mv (.t 0)),
  oo 18 (.mv (.t 5)),
  oo 19 (.iaddr 1 (.t 17) (.t 18)),
  oo 20 (.load false 1 (.t 19)),
  oo 21 (.mv (.t 1)),
  oo 22 (.mv (.t 5)),
  oo 23 (.iaddr 1 (.t 21) (.t 22)),
  oo 24 (.load false 1 (.t 23)),
  oo 25 (.call false 119 [(.t 20), (.t 24)]),
  oo 26 (.un .not (.t 25))])
 (.cond (.t 26) (.seq (rg [oo 4 (.mv (.c (.bool false)))])
 .ret) .skip)))
 (rg [oo 15 (.mv (.t 5)),
  oo 16 (.bin .add (.t 15) (ci 1)),
  oo 5 (.mv (.t 16))])))
def f31_r0 : AC :=
 (.seq (rg [oo 4 (.mv (.c (.bool true)))])
 .ret)
def f31_ac : AC :=
 (.seq (rg [oo 4 (.mv (.c (.bool false)))])
 (.seq (.seq (rg [oo 6 (.mv (.t 0)),
  oo 7 (.len false (.t 6)),
  oo 8 (.mv (.t 1)),
  oo 9 (.len false (.t 8)),
  oo 10 (.bin .neq (.t 7) (.t 9))])
 (.cond (.t 10) (.seq (rg [oo 4 (.mv (.c (.bool false)))])
 .ret) .skip))
 (.seq (.seq (rg [oo 5 (.mv (ci 0))])
 (.block 0 (.loop ⟨[0, 1, 5], [], []⟩ f31_b0)))
 f31_r0)))
noncomputable def f31_l0 (E : Env) (x0 : U) (x1 : U) (x5 : U) : Option U := loopK (roundOf E ⟨[0, 1, 5], [], []⟩ f31_b0 (blockK 0 (seqK (fun s => exec E f31_r0 s (finish [(4, none)])) (finish [(4, none)])))) ([.val x0, .val x1, .val x5], [])
theorem f31_l0_eq (E : Env) (x0 : U) (x1 : U) (x5 : U) : f31_l0 E x0 x1 x5 =
 (U.lenOf false x0).bind fun n4 => (U.bin .lss x5 (.int .i64 (n4 : Int))).bind fun t5 => U.asBool t5
 (U.asInt x5 fun n6 => U.elemAt 1 x0 n6 fun e7 => U.asVar false 1 e7 fun e8 => U.asInt x5 fun n9 => U.elemAt 1 x1 n9 fun e10 => U.asVar false 1 e10 fun e11 => (E 119 [e8, e11]).bind fun t12 => (U.un .not t12).bind fun t13 => U.asBool t13
 (some (.bool false))
 ((U.bin .add x5 (.int .i64 1)).bind fun t14 => f31_l0 E x0 x1 t14))
 (some (.bool true)) :=
 (loop_eq E _ _ _ _).trans (by kernel_rfl)
structure G_f31 (E : Env) : Prop where
  is : Is E 118 2 f31_ac [(4, none)]
  c_f30 : G_f30 E
theorem f31_E {E : Env} (h : G_f31 E) (a0 a1 : U) : E 118 [a0, a1] =
 (U.lenOf false a0).bind fun n1 => (U.lenOf false a1).bind fun n2 => (U.bin .neq (.int .i64 (n1 : Int)) (.int .i64 (n2 : Int))).bind fun t3 => U.asBool t3
 (some (.bool false))
 (f31_l0 E a0 a1 (.int .i64 0)) := (h.is _ rfl).trans ((runQ_V rfl).trans (by kernel_rfl))
def f27_ac : AC :=
 (.seq (rg [oo 2 (.box false 2 (.t 0)),
  oo 3 (.box false 3 (.t 1)),
  oo 4 (.mv (.c (.bool false)))])
 (.seq (.seq (rg [oo 5 (.faddr 0 0 (.t 2)),
  oo 6 (.load false 1 (.t 5)),
  oo 7 (.faddr 0 0 (.t 3)),
  oo 8 (.load false 1 (.t 7)),
  oo 9 (.call false 118 [(.t 6), (.t 8)]),
  oo 10 (.un .not (.t 9))])
 (.cond (.t 10) (.seq (rg [oo 4 (.mv (.c (.bool false)))])
 .ret) .skip))
 (.seq (rg [oo 4 (.mv (.c (.bool true)))])
 .ret)))
structure G_f27 (E : Env) : Prop where
  is : Is E 97 2 f27_ac [(4, none)]
  c_f31 : G_f31 E
theorem f27_E {E : Env} (h : G_f27 E) (a0 a1 : U) : E 97 [a0, a1] =
 U.noTup a0 fun x1 => U.noTup a1 fun x2 => U.asAgg x1 fun us3 => if 0 = sizes (us3.take 0) then (us3[0]?).bind fun e4 => U.asVar false 1 e4 fun e5 => U.asAgg x2 fun us6 => if 0 = sizes (us6.take 0) then (us6[0]?).bind fun e7 => U.asVar false 1 e7 fun e8 => (E 118 [e5, e8]).bind fun t9 => (U.un .not t9).bind fun t10 => U.asBool t10
 (some (.bool false))
 (some (.bool true)) else none else none := (h.is _ rfl).trans ((runQ_V rfl).trans (by kernel_rfl))
def f34_b0 : AC :=
 (.seq (.seq (rg [oo 6 (.mv (.t 5)),
  oo 7 (.mv (.t 0)),
  oo 8 (.len false (.t 7)),
  oo 9 (.bin .lss (.t 6) (.t 8))])
 (.cond (.t 9) .skip (.exit 0)))
 (.seq (.block 1 (.seq (.seq (rg [oo 12 (.mv (.t 0)),
  oo 13 (.mv (.t 5)),
  oo 14 (.iaddr 2 (.t 12) (.t 13)),
  oo 15 (.faddr 0 0 (.t 14)),
  oo 16 (.load false 1 (.t 15)),
  oo 17 (.mv (.t 1)),
  oo 18 (.bin .neq (.t 16) (.t 17))])
 (.cond (.t 18) (.seq (rg [oo 4 (.mv (ci (-1)))])
 .ret) .skip))
 (.seq (rg [oo 19 (.mv (.t 1)),
  oo 20 (.bin .add (.t 19) (ci 1)),
  oo 1 (.mv (.t 20))])
 (.seq (.seq (rg [oo 21 (.mv (.t 0)),
  oo 22 (.mv (.t 5)),
  oo 23 (.iaddr 2 (.t 21) (.t 22)),
  oo 24 (.faddr 1 1 (.t 23)),
  oo 25 (.load false 1 (.t 24)),
  oo 26 (.mv (.t 1)),
  oo 27 (.bin .neq (.t 25) (.t 26))])
 (.cond (.t 27) (.seq (rg [oo 4 (.mv (ci (-1)))])
 .ret) .skip))
 (rg [oo 28 (.mv (.t 1)),
  oo 29 (.bin .add (.t 28) (ci 1)),
  oo 1 (.mv (.t 29))])))))
 (rg [oo 10 (.mv (.t 5)),
  oo 11 (.bin .add (.t 10) (ci 1)),
  oo 5 (.mv (.t 11))])))
def f34_r0 : AC :=
 (.seq (rg [oo 30 (.mv (.t 1)),
  oo 4 (.mv (.t 30))])
 .ret)
def f34_ac : AC :=
 (.seq (rg [oo 4 (.mv (ci 0))])
 (.seq (.seq (rg [oo 5 (.mv (ci 0))])
 (.block 0 (.loop ⟨[0, 1, 5], [], []⟩ f34_b0)))
 f34_r0))
noncomputable def f34_l0 (E : Env) (x0 : U) (x1 : U) (x5 : U) : Option U := loopK (roundOf E ⟨[0, 1, 5], [], []⟩ f34_b0 (blockK 0 (seqK (fun s => exec E f34_r0 s (finish [(4, none)])) (finish [(4, none)])))) ([.val x0, .val x1, .val x5], [])
theorem f34_l0_eq (E : Env) (x0 : U) (x1 : U) (x5 : U) : f34_l0 E x0 x1 x5 =
 (U.lenOf false x0).bind fun n1 => (U.bin .lss x5 (.int .i64 (n1 : Int))).bind fun t2 => U.asBool t2
 (U.asInt x5 fun n3 => U.elemAt 2 x0 n3 fun e4 => U.fieldAt 0 0 e4 fun f5 => U.asVar false 1 f5 fun e6 => (U.bin .neq e6 x1).bind fun t7 => U.asBool t7
 (some (.int .i64 (-1)))
 ((U.bin .add x1 (.int .i64 1)).bind fun t8 => U.asInt x5 fun n9 => U.elemAt 2 x0 n9 fun e10 => U.fieldAt 1 1 e10 fun f11 => U.asVar false 1 f11 fun e12 => (U.bin .neq e12 t8).bind fun t13 => U.asBool t13
 (some (.int .i64 (-1)))
 ((U.bin .add t8 (.int .i64 1)).bind fun t14 => (U.bin .add x5 (.int .i64 1)).bind fun t15 => f34_l0 E x0 t14 t15)))
 (some x1) :=
 (loop_eq E _ _ _ _).trans (by kernel_rfl)
structure G_f34 (E : Env) : Prop where
  is : Is E 92 2 f34_ac [(4, none)]
theorem f34_E {E : Env} (h : G_f34 E) (a0 a1 : U) : E 92 [a0, a1] =
 f34_l0 E a0 a1 (.int .i64 0) := (h.is _ rfl).trans ((runQ_V rfl).trans (by kernel_rfl))
def f36_b0 : AC :=
 (.seq (.seq (rg [oo 6 (.mv (.t 5)),
  oo 7 (.mv (.t 0)),
  oo 8 (.len false (.t 7)),
  oo 9 (.bin .lss (.t 6) (.t 8))])
 (.cond (.t 9) .skip (.exit 0)))
 (.seq (.block 1 (.seq (.seq (rg [oo 12 (.mv (.t 0)),
  oo 13 (.mv (.t 5)),
  oo 14 (.iaddr 2 (.t 12) (.t 13)),
  oo 15 (.faddr 0 0 (.t 14)),
  oo 16 (.load false 1 (.t 15)),
  oo 17 (.mv (.t 1)),
  oo 18 (.bin .neq (.t 16) (.t 17))])
 (.cond (.t 18) (.seq (rg [oo 4 (.mv (ci (-1)))])
 .ret) .skip))
 (.seq (rg [oo 19 (.mv (.t 1)),
  oo 20 (.bin .add (.t 19) (ci 1)),
  oo 1 (.mv (.t 20))])
 (.seq (.seq (rg [oo 21 (.mv (.t 0)),
  oo 22 (.mv (.t 5)),
  oo 23 (.iaddr 2 (.t 21) (.t 22)),
  oo 24 (.faddr 1 1 (.t 23)),
  oo 25 (.load false 1 (.t 24)),
  oo 26 (.mv (.t 1)),
  oo 27 (.bin .neq (.t 25) (.t 26))])
 (.cond (.t 27) (.seq (rg [oo 4 (.mv (ci (-1)))])
 .ret) .skip))
 (rg [oo 28 (.mv (.t 1)),
  oo 29 (.bin .add (.t 28) (ci 1)),
  oo 1 (.mv (.t 29))])))))
 (rg [oo 10 (.mv (.t 5)),
  oo 11 (.bin .add (.t 10) (ci 1)),
  oo 5 (.mv (.t 11))])))
def f36_r0 : AC :=
 (.seq (rg [oo 30 (.mv (.t 1)),
  oo 4 (.mv (.t 30))])
 .ret)
def f36_ac : AC :=
 (.seq (rg [oo 4 (.mv (ci 0))])
 (.seq (.seq (rg [oo 5 (.mv (ci 0))])
 (.block 0 (.loop ⟨[0, 1, 5], [], []⟩ f36_b0)))
 f36_r0))
noncomputable def f36_l0 (E : Env) (x0 : U) (x1 : U) (x5 : U) : Option U := loopK (roundOf E ⟨[0, 1, 5], [], []⟩ f36_b0 (blockK 0 (seqK (fun s => exec E f36_r0 s (finish [(4, none)])) (finish [(4, none)])))) ([.val x0, .val x1, .val x5], [])
theorem f36_l0_eq (E : Env) (x0 : U) (x1 : U) (x5 : U) : f36_l0 E x0 x1 x5 =
 (U.lenOf false x0).bind fun n1 => (U.bin .lss x5 (.int .i64 (n1 : Int))).bind fun t2 => U.asBool t2
 (U.asInt x5 fun n3 => U.elemAt 2 x0 n3 fun e4 => U.fieldAt 0 0 e4 fun f5 => U.asVar false 1 f5 fun e6 => (U.bin .neq e6 x1).bind fun t7 => U.asBool t7
 (some (.int .i64 (-1)))
 ((U.bin .add x1 (.int .i64 1)).bind fun t8 => U.asInt x5 fun n9 => U.elemAt 2 x0 n9 fun e10 => U.fieldAt 1 1 e10 fun f11 => U.asVar false 1 f11 fun e12 => (U.bin .neq e12 t8).bind fun t13 => U.asBool t13
 (some (.int .i64 (-1)))
 ((U.bin .add t8 (.int .i64 1)).bind fun t14 => (U.bin .add x5 (.int .i64 1)).bind fun t15 => f36_l0 E x0 t14 t15)))
 (some x1) :=
 (loop_eq E _ _ _ _).trans (by kernel_rfl)
structure G_f36 (E : Env) : Prop where
  is : Is E 235 2 f36_ac [(4, none)]
theorem f36_E {E : Env} (h : G_f36 E) (a0 a1 : U) : E 235 [a0, a1] =
 f36_l0 E a0 a1 (.int .i64 0) := (h.is _ rfl).trans ((runQ_V rfl).trans (by kernel_rfl))
def f35_ac : AC :=
 (.seq (rg [oo 2 (.box false 2 (.t 0)),
  oo 4 (.mv (ci 0))])
 (.seq (rg [oo 5 (.faddr 7 7 (.t 2)),
  oo 6 (.load false 1 (.t 5)),
  oo 7 (.mv (.t 1)),
  oo 8 (.call false 92 [(.t 6), (.t 7)]),
  oo 1 (.mv (.t 8))])
 (.seq (.seq (rg [oo 9 (.mv (.t 1)),
  oo 10 (.bin .lss (.t 9) (ci 0))])
 (.cond (.t 10) (.seq (rg [oo 4 (.mv (ci (-1)))])
 .ret) .skip))
 (.seq (rg [oo 11 (.faddr 8 8 (.t 2)),
  oo 12 (.load false 1 (.t 11)),
  oo 13 (.mv (.t 1)),
  oo 14 (.call false 235 [(.t 12), (.t 13)]),
  oo 1 (.mv (.t 14))])
 (.seq (.seq (rg [oo 15 (.mv (.t 1)),
  oo 16 (.bin .lss (.t 15) (ci 0))])
 (.cond (.t 16) (.seq (rg [oo 4 (.mv (ci (-1)))])
 .ret) .skip))
 (.seq (rg [oo 17 (.mv (.t 1)),
  oo 4 (.mv (.t 17))])
 .ret))))))
structure G_f35 (E : Env) : Prop where
  is : Is E 205 2 f35_ac [(4, none)]
  c_f34 : G_f34 E
  c_f36 : G_f36 E
theorem f35_E {E : Env} (h : G_f35 E) (a0 a1 : U) : E 205 [a0, a1] =
 U.noTup a0 fun x1 => U.asAgg x1 fun us2 => if 7 = sizes (us2.take 7) then (us2[7]?).bind fun e3 => U.asVar false 1 e3 fun e4 => (E 92 [e4, a1]).bind fun t5 => (U.bin .lss t5 (.int .i64 0)).bind fun t6 => U.asBool t6
 (some (.int .i64 (-1)))
 (U.asAgg x1 fun us7 => if 8 = sizes (us7.take 8) then (us7[8]?).bind fun e8 => U.asVar false 1 e8 fun e9 => (E 235 [e9, t5]).bind fun t10 => (U.bin .lss t10 (.int .i64 0)).bind fun t11 => U.asBool t11
 (some (.int .i64 (-1)))
 (some t10) else none) else none := (h.is _ rfl).trans ((runQ_V rfl).trans (by kernel_rfl))
def f58_b0 : AC :=
 (.seq (.seq (rg [oo 8 (.mv (.t 4)),
  oo 9 (.mv (.t 0)),
  oo 10 (.len false (.t 9)),
  oo 11 (.bin .lss (.t 8) (.t 10))])
 (.cond (.t 11) .skip (.exit 0)))
 (.seq (.block 1 (rg [oo 14 (.mv (.t 3)),
  oo 15 (.mv (.t 4)),
  oo 16 (.mv (.t 0)),
  oo 17 (.mv (.t 4)),
  oo 18 (.iaddr 5 (.t 16) (.t 17)),
  oo 19 (.load true 5 (.t 18)),
  oo 20 (.call false 109 [(.t 19)]),
  oo 21 (.iaddr 5 (.t 14) (.t 15)),
  ⟨none, .store 5 (.t 21) (.t 20), none⟩]))
 (rg [oo 12 (.mv (.t 4)),
  oo 13 (.bin .add (.t 12) (ci 1)),
  oo 4 (.mv (.t 13))])))
def f58_r0 : AC :=
 (.seq (rg [oo 22 (.mv (.t 3)),
  oo 2 (.mv (.t 22))])
 .ret)
def f58_ac : AC :=
 (.seq (rg [oo 2 (.mv (.c (.nsl 5)))])
 (.seq (rg [oo 5 (.mv (.t 0)),
  oo 6 (.len false (.t 5)),
  oo 7 (.mkslice 7 5 40 (.agg [(.int .i64 0), (.int .i64 0), (.int .i64 0), (.int .i64 0), (.int .i64 0)]) (.t 6) (.t 6)),
  oo 3 (.mv (.t 7))])
 (.seq (.seq (rg [oo 4 (.mv (ci 0))])
 (.block 0 (.loop ⟨[0, 4], [(3, 5, false)], []⟩ f58_b0)))
 f58_r0)))
noncomputable def f58_l0 (E : Env) (x0 : U) (x4 : U) (c3 : List U) : Option U := loopK (roundOf E ⟨[0, 4], [(3, 5, false)], []⟩ f58_b0 (blockK 0 (seqK (fun s => exec E f58_r0 s (finishF [(2, none)])) (finishF [(2, none)])))) ([.val x0, .val x4], [.vir (.asl 5 c3)])
theorem f58_l0_eq (E : Env) (x0 : U) (x4 : U) (c3 : List U) : f58_l0 E x0 x4 c3 =
 (U.lenOf false x0).bind fun n2 => (U.bin .lss x4 (.int .i64 (n2 : Int))).bind fun t3 => U.asBool t3
 (U.asInt x4 fun n4 => U.elemAt 5 x0 n4 fun e5 => U.asVar true 5 e5 fun e6 => (E 109 [e6]).bind fun t7 => U.asInt x4 fun n8 => if 5 = 5 ∧ 0 ≤ n8 ∧ n8 < ((c3).length : Int) then if storable (.val t7) = true ∧ t7.size = 5 then (c3[(n8 : Int).toNat]?).bind fun e9 => if e9.size = 5 then (U.bin .add x4 (.int .i64 1)).bind fun t10 => f58_l0 E x0 t10 (c3.set (n8 : Int).toNat t7) else none else none else none)
 (if U.flat.flats c3 = true then some (.sl 5 c3) else none) :=
 (loop_eq E _ _ _ _).trans (by kernel_rfl)
structure G_f58 (E : Env) : Prop where
  is : Is E 100108 1 f58_ac [(2, none)]
  c_f54 : G_f54 E
theorem f58_E {E : Env} (h : G_f58 E) (a0 : U) : E 100108 [a0] =
 (U.lenOf false a0).bind fun n1 => if 0 ≤ (n1 : Int) ∧ (n1 : Int) ≤ (n1 : Int) ∧ (n1 : Int) * 40 ≤ 140737488355328 ∧ ((.agg [(.int .i64 0), (.int .i64 0), (.int .i64 0), (.int .i64 0), (.int .i64 0)]) : U).size = 5 then f58_l0 E a0 (.int .i64 0) (List.replicate ((n1 : Int) : Int).toNat (.agg [(.int .i64 0), (.int .i64 0), (.int .i64 0), (.int .i64 0), (.int .i64 0)])) else none := (h.is _ rfl).trans ((runQ_F rfl).trans (by kernel_rfl))
def f57_b0 : AC :=
 (.seq (.seq (rg [oo 8 (.mv (.t 4)),
  oo 9 (.mv (.t 0)),
  oo 10 (.len false (.t 9)),
  oo 11 (.bin .lss (.t 8) (.t 10))])
 (.cond (.t 11) .skip (.exit 0)))
 (.seq (.block 1 (rg [oo 14 (.mv (.t 3)),
  oo 15 (.mv (.t 4)),
  oo 16 (.mv (.t 0)),
  oo 17 (.mv (.t 4)),
  oo 18 (.iaddr 1 (.t 16) (.t 17)),
  oo 19 (.load false 1 (.t 18)),
  oo 20 (.callF 20 false [(.sl 5)] 108 [(.t 19)]),
  oo 21 (.iaddr 1 (.t 14) (.t 15)),
  ⟨none, .storeE 1 (.t 21) (.t 20), none⟩]))
 (rg [oo 12 (.mv (.t 4)),
  oo 13 (.bin .add (.t 12) (ci 1)),
  oo 4 (.mv (.t 13))])))
def f57_r0 : AC :=
 (.seq (rg [oo 22 (.mv (.t 3)),
  oo 2 (.mv (.t 22))])
 .ret)
def f57_ac : AC :=
 (.seq (rg [oo 2 (.mv (.c (.nsl 1)))])
 (.seq (rg [oo 5 (.mv (.t 0)),
  oo 6 (.len false (.t 5)),
  oo 7 (.mkslice 7 1 24 (.nsl 5) (.t 6) (.t 6)),
  oo 3 (.mv (.t 7))])
 (.seq (.seq (rg [oo 4 (.mv (ci 0))])
 (.block 0 (.loop ⟨[0, 4], [(3, 1, true)], []⟩ f57_b0)))
 f57_r0)))
noncomputable def f57_l0 (E : Env) (x0 : U) (x4 : U) (c3 : List U) : Option U := loopK (roundOf E ⟨[0, 4], [(3, 1, true)], []⟩ f57_b0 (blockK 0 (seqK (fun s => exec E f57_r0 s (finishF [(2, none)])) (finishF [(2, none)])))) ([.val x0, .val x4], [.vir (.own (.sl 1 c3))])
theorem f57_l0_eq (E : Env) (x0 : U) (x4 : U) (c3 : List U) : f57_l0 E x0 x4 c3 =
 (U.lenOf false x0).bind fun n2 => (U.bin .lss x4 (.int .i64 (n2 : Int))).bind fun t3 => U.asBool t3
 (U.asInt x4 fun n4 => U.elemAt 1 x0 n4 fun e5 => U.asVar false 1 e5 fun e6 => (E 100108 [e6]).bind fun t7 => U.noTup t7 fun x8 => U.asSlK 5 x8 fun us9 => U.asInt x4 fun n10 => if 1 = 1 ∧ 0 ≤ n10 ∧ n10 < (c3.length : Int) then (c3[(n10 : Int).toNat]?).bind fun e11 => if e11.size = 1 then (U.bin .add x4 (.int .i64 1)).bind fun t12 => f57_l0 E x0 t12 (c3.set (n10 : Int).toNat (.sl 5 us9)) else none else none)
 (some (.sl 1 c3)) :=
 (loop_eq E _ _ _ _).trans (by kernel_rfl)
structure G_f57 (E : Env) : Prop where
  is : Is E 100107 1 f57_ac [(2, none)]
  c_f58 : G_f58 E
theorem f57_E {E : Env} (h : G_f57 E) (a0 : U) : E 100107 [a0] =
 (U.lenOf false a0).bind fun n1 => if 0 ≤ (n1 : Int) ∧ (n1 : Int) ≤ (n1 : Int) ∧ (n1 : Int) * 24 ≤ 140737488355328 ∧ ((.nsl 5) : U).size = 1 then if U.flat.flats (List.replicate ((n1 : Int) : Int).toNat (.nsl 5)) = true then f57_l0 E a0 (.int .i64 0) (List.replicate ((n1 : Int) : Int).toNat (.nsl 5)) else none else none := (h.is _ rfl).trans ((runQ_F rfl).trans (by kernel_rfl))
def f51_ac : AC :=
 (.seq (rg [oo 1 (.box false 1 (.t 0)),
  oo 2 (.alloc 2 (.agg [(.nsl 1)]))])
 (.seq (rg [oo 3 (.alloc 3 (.agg [(.nsl 1)]))])
 (.seq (rg [oo 4 (.faddr 0 0 (.t 1)),
  oo 5 (.load false 1 (.t 4)),
  oo 6 (.callF 6 false [(.sl 1)] 107 [(.t 5)]),
  oo 7 (.faddr 0 0 (.t 3)),
  ⟨none, .storeM 3000 1 (.t 7) (.t 6), none⟩])
 (.seq (rg [oo 8 (.loadO (.agg [(.sl 1)]) (.t 3)),
  ⟨none, .storeM 3001 1 (.t 2) (.t 8), none⟩])
 .ret))))
structure G_f51 (E : Env) : Prop where
  is : Is E 100093 1 f51_ac [(2, some (true, 1))]
  c_f57 : G_f57 E
theorem f51_E {E : Env} (h : G_f51 E) (a0 : U) : E 100093 [a0] =
 U.noTup a0 fun x1 => U.asAgg x1 fun us2 => if 0 = sizes (us2.take 0) then (us2[0]?).bind fun e3 => U.asVar false 1 e3 fun e4 => (E 100107 [e4]).bind fun t5 => U.noTup t5 fun x6 => U.asSlK 1 x6 fun us7 => some (.agg [(.sl 1 us7)]) else none := (h.is _ rfl).trans ((runQ_F rfl).trans (by kernel_rfl))
def f49_b0 : AC :=
 (.seq (.seq (rg [oo 8 (.mv (.t 4)),
  oo 9 (.mv (.t 0)),
  oo 10 (.len false (.t 9)),
  oo 11 (.bin .lss (.t 8) (.t 10))])
 (.cond (.t 11) .skip (.exit 0)))
 (.seq (.block 1 (rg [oo 14 (.mv (.t 3)),
  oo 15 (.mv (.t 4)),
  oo 16 (.mv (.t 0)),
  oo 17 (.mv (.t 4)),
  oo 18 (.iaddr 2 (.t 16) (.t 17)),
  oo 19 (.load true 2 (.t 18)),
  oo 20 (.call false 29 [(.t 19)]),
  oo 21 (.iaddr 2 (.t 14) (.t 15)),
  ⟨none, .store 2 (.t 21) (.t 20), none⟩]))
 (rg [oo 12 (.mv (.t 4)),
  oo 13 (.bin .add (.t 12) (ci 1)),
  oo 4 (.mv (.t 13))])))
def f49_r0 : AC :=
 (.seq (rg [oo 22 (.mv (.t 3)),
  oo 2 (.mv (.t 22))])
 .ret)
def f49_ac : AC :=
 (.seq (rg [oo 2 (.mv (.c (.nsl 2)))])
 (.seq (rg [oo 5 (.mv (.t 0)),
  oo 6 (.len false (.t 5)),
  oo 7 (.mkslice 7 2 16 (.agg [(.int .i64 0), (.int .i64 0)]) (.t 6) (.t 6)),
  oo 3 (.mv (.t 7))])
 (.seq (.seq (rg [oo 4 (.mv (ci 0))])
 (.block 0 (.loop ⟨[0, 4], [(3, 2, false)], []⟩ f49_b0)))
 f49_r0)))
noncomputable def f49_l0 (E : Env) (x0 : U) (x4 : U) (c3 : List U) : Option U := loopK (roundOf E ⟨[0, 4], [(3, 2, false)], []⟩ f49_b0 (blockK 0 (seqK (fun s => exec E f49_r0 s (finishF [(2, none)])) (finishF [(2, none)])))) ([.val x0, .val x4], [.vir (.asl 2 c3)])
theorem f49_l0_eq (E : Env) (x0 : U) (x4 : U) (c3 : List U) : f49_l0 E x0 x4 c3 =
 (U.lenOf false x0).bind fun n2 => (U.bin .lss x4 (.int .i64 (n2 : Int))).bind fun t3 => U.asBool t3
 (U.asInt x4 fun n4 => U.elemAt 2 x0 n4 fun e5 => U.asVar true 2 e5 fun e6 => (E 29 [e6]).bind fun t7 => U.asInt x4 fun n8 => if 2 = 2 ∧ 0 ≤ n8 ∧ n8 < ((c3).length : Int) then if storable (.val t7) = true ∧ t7.size = 2 then (c3[(n8 : Int).toNat]?).bind fun e9 => if e9.size = 2 then (U.bin .add x4 (.int .i64 1)).bind fun t10 => f49_l0 E x0 t10 (c3.set (n8 : Int).toNat t7) else none else none else none)
 (if U.flat.flats c3 = true then some (.sl 2 c3) else none) :=
 (loop_eq E _ _ _ _).trans (by kernel_rfl)
structure G_f49 (E : Env) : Prop where
  is : Is E 100028 1 f49_ac [(2, none)]
  c_f47 : G_f47 E
theorem f49_E {E : Env} (h : G_f49 E) (a0 : U) : E 100028 [a0] =
 (U.lenOf false a0).bind fun n1 => if 0 ≤ (n1 : Int) ∧ (n1 : Int) ≤ (n1 : Int) ∧ (n1 : Int) * 16 ≤ 140737488355328 ∧ ((.agg [(.int .i64 0), (.int .i64 0)]) : U).size = 2 then f49_l0 E a0 (.int .i64 0) (List.replicate ((n1 : Int) : Int).toNat (.agg [(.int .i64 0), (.int .i64 0)])) else none := (h.is _ rfl).trans ((runQ_F rfl).trans (by kernel_rfl))
def f61_b0 : AC :=
 (.seq (.seq (rg [oo 8 (.mv (.t 4)),
  oo 9 (.mv (.t 0)),
  oo 10 (.len false (.t 9)),
  oo 11 (.bin .lss (.t 8) (.t 10))])
 (.cond (.t 11) .skip (.exit 0)))
 (.seq (.block 1 (rg [oo 14 (.mv (.t 3)),
  oo 15 (.mv (.t 4)),
  oo 16 (.mv (.t 0)),
  oo 17 (.mv (.t 4)),
  oo 18 (.iaddr 2 (.t 16) (.t 17)),
  oo 19 (.load true 2 (.t 18)),
  oo 20 (.call false 30 [(.t 19)]),
  oo 21 (.iaddr 2 (.t 14) (.t 15)),
  ⟨none, .store 2 (.t 21) (.t 20), none⟩]))
 (rg [oo 12 (.mv (.t 4)),
  oo 13 (.bin .add (.t 12) (ci 1)),
  oo 4 (.mv (.t 13))])))
def f61_r0 : AC :=
 (.seq (rg [oo 22 (.mv (.t 3)),
  oo 2 (.mv (.t 22))])
 .ret)
def f61_ac : AC :=
 (.seq (rg [oo 2 (.mv (.c (.nsl 2)))])
 (.seq (rg [oo 5 (.mv (.t 0)),
  oo 6 (.len false (.t 5)),
  oo 7 (.mkslice 7 2 16 (.agg [(.int .i64 0), (.int .i64 0)]) (.t 6) (.t 6)),
  oo 3 (.mv (.t 7))])
 (.seq (.seq (rg [oo 4 (.mv (ci 0))])
 (.block 0 (.loop ⟨[0, 4], [(3, 2, false)], []⟩ f61_b0)))
 f61_r0)))
noncomputable def f61_l0 (E : Env) (x0 : U) (x4 : U) (c3 : List U) : Option U := loopK (roundOf E ⟨[0, 4], [(3, 2, false)], []⟩ f61_b0 (blockK 0 (seqK (fun s => exec E f61_r0 s (finishF [(2, none)])) (finishF [(2, none)])))) ([.val x0, .val x4], [.vir (.asl 2 c3)])
theorem f61_l0_eq (E : Env) (x0 : U) (x4 : U) (c3 : List U) : f61_l0 E x0 x4 c3 =
 (U.lenOf false x0).bind fun n2 => (U.bin .lss x4 (.int .i64 (n2 : Int))).bind fun t3 => U.asBool t3
 (U.asInt x4 fun n4 => U.elemAt 2 x0 n4 fun e5 => U.asVar true 2 e5 fun e6 => (E 30 [e6]).bind fun t7 => U.asInt x4 fun n8 => if 2 = 2 ∧ 0 ≤ n8 ∧ n8 < ((c3).length : Int) then if storable (.val t7) = true ∧ t7.size = 2 then (c3[(n8 : Int).toNat]?).bind fun e9 => if e9.size = 2 then (U.bin .add x4 (.int .i64 1)).bind fun t10 => f61_l0 E x0 t10 (c3.set (n8 : Int).toNat t7) else none else none else none)
 (if U.flat.flats c3 = true then some (.sl 2 c3) else none) :=
 (loop_eq E _ _ _ _).trans (by kernel_rfl)
structure G_f61 (E : Env) : Prop where
  is : Is E 100027 1 f61_ac [(2, none)]
  c_f59 : G_f59 E
theorem f61_E {E : Env} (h : G_f61 E) (a0 : U) : E 100027 [a0] =
 (U.lenOf false a0).bind fun n1 => if 0 ≤ (n1 : Int) ∧ (n1 : Int) ≤ (n1 : Int) ∧ (n1 : Int) * 16 ≤ 140737488355328 ∧ ((.agg [(.int .i64 0), (.int .i64 0)]) : U).size = 2 then f61_l0 E a0 (.int .i64 0) (List.replicate ((n1 : Int) : Int).toNat (.agg [(.int .i64 0), (.int .i64 0)])) else none := (h.is _ rfl).trans ((runQ_F rfl).trans (by kernel_rfl))
def f53_ac : AC :=
 (.seq (rg [oo 1 (.box false 1 (.t 0)),
  oo 2 (.alloc 2 (.agg [(.int .i64 0), (.int .i64 0), (.int .i64 0), (.int .i64 0), (.int .i64 0), (.int .i64 0), (.int .i64 0), (.nsl 2), (.nsl 2)]))])
 (.seq (rg [oo 3 (.alloc 3 (.agg [(.int .i64 0), (.int .i64 0), (.int .i64 0), (.int .i64 0), (.int .i64 0), (.int .i64 0), (.int .i64 0), (.nsl 2), (.nsl 2)]))])
 (.seq (rg [oo 4 (.faddr 0 0 (.t 1)),
  oo 5 (.load false 1 (.t 4)),
  oo 6 (.faddr 0 0 (.t 3)),
  ⟨none, .store 1 (.t 6) (.t 5), none⟩])
 (.seq (rg [oo 7 (.faddr 1 1 (.t 1)),
  oo 8 (.load false 1 (.t 7)),
  oo 9 (.faddr 1 1 (.t 3)),
  ⟨none, .store 1 (.t 9) (.t 8), none⟩])
 (.seq (rg [oo 10 (.faddr 2 2 (.t 1)),
  oo 11 (.load false 1 (.t 10)),
  oo 12 (.faddr 2 2 (.t 3)),
  ⟨none, .store 1 (.t 12) (.t 11), none⟩])
 (.seq (rg [oo 13 (.faddr 3 3 (.t 1)),
  oo 14 (.load false 1 (.t 13)),
  oo 15 (.faddr 3 3 (.t 3)),
  ⟨none, .store 1 (.t 15) (.t 14), none⟩])
 (.seq (rg [oo 16 (.faddr 4 4 (.t 1)),
  oo 17 (.load false 1 (.t 16)),
  oo 18 (.faddr 4 4 (.t 3)),
  ⟨none, .store 1 (.t 18) (.t 17), none⟩])
 (.seq (rg [oo 19 (.faddr 5 5 (.t 1)),
  oo 20 (.load false 1 (.t 19)),
  oo 21 (.faddr 5 5 (.t 3)),
  ⟨none, .store 1 (.t 21) (.t 20), none⟩])
 (.seq (rg [oo 22 (.faddr 6 6 (.t 1)),
  oo 23 (.load false 1 (.t 22)),
  oo 24 (.faddr 6 6 (.t 3)),
  ⟨none, .store 1 (.t 24) (.t 23), none⟩])
 (.seq (rg [oo 25 (.faddr 7 7 (.t 1)),
  oo 26 (.load false 1 (.t 25)),
  oo 27 (.callF 27 false [(.sl 2)] 28 [(.t 26)]),
  oo 28 (.faddr 7 7 (.t 3)),
  ⟨none, .storeM 3000 1 (.t 28) (.t 27), none⟩])
 (.seq (rg [oo 29 (.faddr 8 8 (.t 1)),
  oo 30 (.load false 1 (.t 29)),
  oo 31 (.callF 31 false [(.sl 2)] 27 [(.t 30)]),
  oo 32 (.faddr 8 8 (.t 3)),
  ⟨none, .storeM 3002 1 (.t 32) (.t 31), none⟩])
 (.seq (rg [oo 33 (.loadO (.agg [.int, .int, .int, .int, .int, .int, .int, (.sl 2), (.sl 2)]) (.t 3)),
  ⟨none, .storeM 3001 9 (.t 2) (.t 33), none⟩])
 .ret))))))))))))
structure G_f53 (E : Env) : Prop where
  is : Is E 100145 1 f53_ac [(2, some (true, 9))]
  c_f49 : G_f49 E
  c_f61 : G_f61 E
theorem f53_E {E : Env} (h : G_f53 E) (a0 : U) : E 100145 [a0] =
 U.noTup a0 fun x1 => U.asAgg x1 fun us2 => if 0 = sizes (us2.take 0) then (us2[0]?).bind fun e3 => U.asVar false 1 e3 fun e4 => if storable (.val e4) = true ∧ e4.size = 1 then U.asAgg x1 fun us5 => if 1 = sizes (us5.take 1) then (us5[1]?).bind fun e6 => U.asVar false 1 e6 fun e7 => if storable (.val e7) = true ∧ e7.size = 1 then if 1 = sizes [e4] then U.asAgg x1 fun us8 => if 2 = sizes (us8.take 2) then (us8[2]?).bind fun e9 => U.asVar false 1 e9 fun e10 => if storable (.val e10) = true ∧ e10.size = 1 then if 2 = sizes [e4, e7] then U.asAgg x1 fun us11 => if 3 = sizes (us11.take 3) then (us11[3]?).bind fun e12 => U.asVar false 1 e12 fun e13 => if storable (.val e13) = true ∧ e13.size = 1 then if 3 = sizes [e4, e7, e10] then U.asAgg x1 fun us14 => if 4 = sizes (us14.take 4) then (us14[4]?).bind fun e15 => U.asVar false 1 e15 fun e16 => if storable (.val e16) = true ∧ e16.size = 1 then if 4 = sizes [e4, e7, e10, e13] then U.asAgg x1 fun us17 => if 5 = sizes (us17.take 5) then (us17[5]?).bind fun e18 => U.asVar false 1 e18 fun e19 => if storable (.val e19) = true ∧ e19.size = 1 then if 5 = sizes [e4, e7, e10, e13, e16] then U.asAgg x1 fun us20 => if 6 = sizes (us20.take 6) then (us20[6]?).bind fun e21 => U.asVar false 1 e21 fun e22 => if storable (.val e22) = true ∧ e22.size = 1 then if 6 = sizes [e4, e7, e10, e13, e16, e19] then U.asAgg x1 fun us23 => if 7 = sizes (us23.take 7) then (us23[7]?).bind fun e24 => U.asVar false 1 e24 fun e25 => (E 100028 [e25]).bind fun t26 => U.noTup t26 fun x27 => U.asSlK 2 x27 fun us28 => if 7 = sizes [e4, e7, e10, e13, e16, e19, e22] then if 7 = sizes [e4, e7, e10, e13, e16, e19, e22] then if 7 = dsizes [.val e4, .val e7, .val e10, .val e13, .val e16, .val e19, .val e22] then U.asAgg x1 fun us29 => if 8 = sizes (us29.take 8) then (us29[8]?).bind fun e30 => U.asVar false 1 e30 fun e31 => (E 100027 [e31]).bind fun t32 => U.noTup t32 fun x33 => U.asSlK 2 x33 fun us34 => if 8 = dsizes [.val e4, .val e7, .val e10, .val e13, .val e16, .val e19, .val e22, .own (.sl 2 us28)] then if 8 = dsizes [.val e4, .val e7, .val e10, .val e13, .val e16, .val e19, .val e22, .own (.sl 2 us28)] then if 8 = dsizes [.val e4, .val e7, .val e10, .val e13, .val e16, .val e19, .val e22, .own (.sl 2 us28)] then U.asInt e4 fun n35 => U.asInt e7 fun n36 => U.asInt e10 fun n37 => U.asInt e13 fun n38 => U.asInt e16 fun n39 => U.asInt e19 fun n40 => U.asInt e22 fun n41 => if 7 = dsizes [.val e4, .val e7, .val e10, .val e13, .val e16, .val e19, .val e22] then if 7 = dsizes [.val e4, .val e7, .val e10, .val e13, .val e16, .val e19, .val e22] then if 8 = dsizes [.val e4, .val e7, .val e10, .val e13, .val e16, .val e19, .val e22, .junk 1] then if 8 = dsizes [.val e4, .val e7, .val e10, .val e13, .val e16, .val e19, .val e22, .junk 1] then some (.agg [(.int .i64 n35), (.int .i64 n36), (.int .i64 n37), (.int .i64 n38), (.int .i64 n39), (.int .i64 n40), (.int .i64 n41), (.sl 2 us28), (.sl 2 us34)]) else none else none else none else none else none else none else none else none else none else none else none else none else none else none else none else none else none else none else none else none else none else none else none else none else none else none else none else none else none else none else none else none := (h.is _ rfl).trans ((runQ_F rfl).trans (by kernel_rfl))
end Go.Proofs.Ytpbogagoflpdfaa.Am
