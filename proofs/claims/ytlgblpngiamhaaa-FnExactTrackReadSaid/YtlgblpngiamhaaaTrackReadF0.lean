import Derived.KernelRfl
import Derived.Test.YtlgblpngiamhaaaAmW
import Derived.Test.YtlgblpngiamhaaaAmCl
import Derived.Test.YtlgblpngiamhaaaAmX
import Derived.Test.YtlgblpngiamhaaaAmIg
namespace Go.Proofs.Ytlgblpngiamhaaa.Am
open Go
set_option linter.unusedVariables false
set_option maxRecDepth 100000
def f31_ac : AC :=
 (.seq (rg [oo 4 (.mv (ci 0))])
 (.seq (rg [oo 5 (.mv (.t 1)),
  oo 6 (.mv (.t 0)),
  oo 7 (.len false (.t 6)),
  oo 8 (.bin .sub (.t 5) (.t 7)),
  oo 1 (.mv (.t 8))])
 (.seq (.seq (rg [oo 9 (.mv (.t 1)),
  oo 10 (.bin .lss (.t 9) (ci 0))])
 (.cond (.t 10) (.seq (rg [oo 4 (.mv (ci (-1)))])
 .ret) .skip))
 (.seq (rg [oo 11 (.mv (.t 1)),
  oo 4 (.mv (.t 11))])
 .ret))))
structure G_f31 (E : Env) : Prop where
  is : Is E 24 2 f31_ac [(4, none)]
theorem f31_E {E : Env} (h : G_f31 E) (a0 a1 : U) : E 24 [a0, a1] =
 (U.lenOf false a0).bind fun n1 => (U.bin .sub a1 (.int .i64 (n1 : Int))).bind fun t2 => (U.bin .lss t2 (.int .i64 0)).bind fun t3 => U.asBool t3
 (some (.int .i64 (-1)))
 (some t2) := (h.is _ rfl).trans ((runQ_V rfl).trans (by kernel_rfl))
def f33_ac : AC :=
 (.seq (rg [oo 4 (.mv (ci 0))])
 (.seq (rg [oo 5 (.mv (.t 1)),
  oo 6 (.mv (.t 0)),
  oo 7 (.len false (.t 6)),
  oo 8 (.bin .sub (.t 5) (.t 7)),
  oo 1 (.mv (.t 8))])
 (.seq (.seq (rg [oo 9 (.mv (.t 1)),
  oo 10 (.bin .lss (.t 9) (ci 0))])
 (.cond (.t 10) (.seq (rg [oo 4 (.mv (ci (-1)))])
 .ret) .skip))
 (.seq (rg [oo 11 (.mv (.t 1)),
  oo 4 (.mv (.t 11))])
 .ret))))
structure G_f33 (E : Env) : Prop where
  is : Is E 23 2 f33_ac [(4, none)]
theorem f33_E {E : Env} (h : G_f33 E) (a0 a1 : U) : E 23 [a0, a1] =
 (U.lenOf false a0).bind fun n1 => (U.bin .sub a1 (.int .i64 (n1 : Int))).bind fun t2 => (U.bin .lss t2 (.int .i64 0)).bind fun t3 => U.asBool t3
 (some (.int .i64 (-1)))
 (some t2) := (h.is _ rfl).trans ((runQ_V rfl).trans (by kernel_rfl))
def f32_ac : AC :=
 (.seq (rg [oo 2 (.box false 2 (.t 0)),
  oo 4 (.mv (ci 0))])
 (.seq (rg [oo 5 (.faddr 7 7 (.t 2)),
  oo 6 (.load false 1 (.t 5)),
  oo 7 (.mv (.t 1)),
  oo 8 (.call false 24 [(.t 6), (.t 7)]),
  oo 1 (.mv (.t 8))])
 (.seq (.seq (rg [oo 9 (.mv (.t 1)),
  oo 10 (.bin .lss (.t 9) (ci 0))])
 (.cond (.t 10) (.seq (rg [oo 4 (.mv (ci (-1)))])
 .ret) .skip))
 (.seq (rg [oo 11 (.faddr 8 8 (.t 2)),
  oo 12 (.load false 1 (.t 11)),
  oo 13 (.mv (.t 1)),
  oo 14 (.call false 23 [(.t 12), (.t 13)]),
  oo 1 (.mv (.t 14))])
 (.seq (.seq (rg [oo 15 (.mv (.t 1)),
  oo 16 (.bin .lss (.t 15) (ci 0))])
 (.cond (.t 16) (.seq (rg [oo 4 (.mv (ci (-1)))])
 .ret) .skip))
 (.seq (rg [oo 17 (.mv (.t 1)),
  oo 4 (.mv (.t 17))])
 .ret))))))
structure G_f32 (E : Env) : Prop where
  is : Is E 132 2 f32_ac [(4, none)]
  c_f31 : G_f31 E
  c_f33 : G_f33 E
theorem f32_E {E : Env} (h : G_f32 E) (a0 a1 : U) : E 132 [a0, a1] =
 U.noTup a0 fun x1 => U.asAgg x1 fun us2 => if 7 = sizes (us2.take 7) then (us2[7]?).bind fun e3 => U.asVar false 1 e3 fun e4 => (E 24 [e4, a1]).bind fun t5 => (U.bin .lss t5 (.int .i64 0)).bind fun t6 => U.asBool t6
 (some (.int .i64 (-1)))
 (U.asAgg x1 fun us7 => if 8 = sizes (us7.take 8) then (us7[8]?).bind fun e8 => U.asVar false 1 e8 fun e9 => (E 23 [e9, t5]).bind fun t10 => (U.bin .lss t10 (.int .i64 0)).bind fun t11 => U.asBool t11
 (some (.int .i64 (-1)))
 (some t10) else none) else none := (h.is _ rfl).trans ((runQ_V rfl).trans (by kernel_rfl))
def f51_ac : AC :=
 (.seq (rg [oo 1 (.box false 1 (.t 0)),
  oo 2 (.alloc 2 (.agg [(.int .i64 0), (.int .i64 0), (.int .i64 0), (.int .i64 0), (.int .i64 0), (.int .i64 0), (.int .i64 0), (.nsl 2), (.nsl 2)]))])
 (.seq (rg [oo 4 (.loadN 9 9 (.t 1)),
  oo 3 (.alloc 3 (.agg [(.int .i64 0), (.int .i64 0), (.int .i64 0), (.int .i64 0), (.int .i64 0), (.int .i64 0), (.int .i64 0), (.nsl 2), (.nsl 2)])),
  ⟨none, .store 9 (.t 3) (.t 4), none⟩])
 (.seq (rg [oo 5 (.bslice 1 5 2 0 (.agg [(.int .i64 0), (.int .i64 0)]) []),
  oo 6 (.faddr 7 7 (.t 1)),
  oo 7 (.load false 1 (.t 6)),
  oo 8 (.append false 8 2 16 (.t 5) (.t 7)),
  oo 9 (.faddr 7 7 (.t 3)),
  ⟨none, .storeM 3000 1 (.t 9) (.t 8), none⟩])
 (.seq (rg [oo 10 (.bslice 1 10 2 0 (.agg [(.int .i64 0), (.int .i64 0)]) []),
  oo 11 (.faddr 8 8 (.t 1)),
  oo 12 (.load false 1 (.t 11)),
  oo 13 (.append false 13 2 16 (.t 10) (.t 12)),
  oo 14 (.faddr 8 8 (.t 3)),
  ⟨none, .storeM 3001 1 (.t 14) (.t 13), none⟩])
 (.seq (rg [oo 15 (.loadO (.agg [.int, .int, .int, .int, .int, .int, .int, (.sl 2), (.sl 2)]) (.t 3)),
  ⟨none, .storeM 3002 9 (.t 2) (.t 15), none⟩])
 .ret)))))
structure G_f51 (E : Env) : Prop where
  is : Is E 212 1 f51_ac [(2, some (true, 9))]
theorem f51_E {E : Env} (h : G_f51 E) (a0 : U) : E 212 [a0] =
 U.noTup a0 fun x1 => U.asVar true 9 x1 fun e2 => U.asAgg e2 fun us3 => (match us3 with
 | u4 :: us5 => ((match us5 with
 | u6 :: us7 => ((match us7 with
 | u8 :: us9 => ((match us9 with
 | u10 :: us11 => ((match us11 with
 | u12 :: us13 => ((match us13 with
 | u14 :: us15 => ((match us15 with
 | u16 :: us17 => ((match us17 with
 | u18 :: us19 => ((match us19 with
 | u20 :: us21 => ((match us21 with
 | [] => (if storable (.val (.agg [u4, u6, u8, u10, u12, u14, u16, u18, u20])) = true ∧ ((.agg [u4, u6, u8, u10, u12, u14, u16, u18, u20]) : U).size = 9 then U.asAgg x1 fun us22 => if 7 = sizes (us22.take 7) then (us22[7]?).bind fun e23 => U.asVar false 1 e23 fun e24 => (U.elems 2 e24).bind fun ys25 => if 2 = 2 ∧ 2 = 2 ∧ ((([] : List U)).length + (ys25 : List U).length) * 16 ≤ 140737488355328 then if 7 = sizes [u4, u6, u8, u10, u12, u14, u16] then if 7 = sizes [u4, u6, u8, u10, u12, u14, u16] then if u18.size = u18.size then if 7 = dsizes [.val u4, .val u6, .val u8, .val u10, .val u12, .val u14, .val u16] then if u18.size = 1 then U.asAgg x1 fun us26 => if 8 = sizes (us26.take 8) then (us26[8]?).bind fun e27 => U.asVar false 1 e27 fun e28 => (U.elems 2 e28).bind fun ys29 => if 2 = 2 ∧ 2 = 2 ∧ ((([] : List U)).length + (ys29 : List U).length) * 16 ≤ 140737488355328 then if 8 = dsizes [.val u4, .val u6, .val u8, .val u10, .val u12, .val u14, .val u16, .asl 2 (([] : List U) ++ ys25)] then if 8 = dsizes [.val u4, .val u6, .val u8, .val u10, .val u12, .val u14, .val u16, .asl 2 (([] : List U) ++ ys25)] then if u20.size = u20.size then if 8 = dsizes [.val u4, .val u6, .val u8, .val u10, .val u12, .val u14, .val u16, .asl 2 (([] : List U) ++ ys25)] then if u20.size = 1 then U.asInt u4 fun n30 => U.asInt u6 fun n31 => U.asInt u8 fun n32 => U.asInt u10 fun n33 => U.asInt u12 fun n34 => U.asInt u14 fun n35 => U.asInt u16 fun n36 => if 7 = dsizes [.val u4, .val u6, .val u8, .val u10, .val u12, .val u14, .val u16] then if 7 = dsizes [.val u4, .val u6, .val u8, .val u10, .val u12, .val u14, .val u16] then if 8 = dsizes [.val u4, .val u6, .val u8, .val u10, .val u12, .val u14, .val u16, .junk 1] then if 8 = dsizes [.val u4, .val u6, .val u8, .val u10, .val u12, .val u14, .val u16, .junk 1] then some (.agg [(.int .i64 n30), (.int .i64 n31), (.int .i64 n32), (.int .i64 n33), (.int .i64 n34), (.int .i64 n35), (.int .i64 n36), (.sl 2 (([] : List U) ++ ys25)), (.sl 2 (([] : List U) ++ ys29))]) else none else none else none else none else none else none else none else none else none else none else none else none else none else none else none else none else none else none else none)
 | _ => none))
 | [] => none))
 | [] => none))
 | [] => none))
 | [] => none))
 | [] => none))
 | [] => none))
 | [] => none))
 | [] => none))
 | [] => none) := (h.is _ rfl).trans ((runQ_V rfl).trans (by kernel_rfl))
def f49_ac : AC :=
 (.seq (rg [oo 6 (.mv (.c (.bool false)))])
 (.seq (rg [oo 7 (.mv (.t 0)),
  oo 8 (.mv (.t 1)),
  oo 9 (.bin .geq (.t 7) (.t 8)),
  oo 10 (.mv (.t 9)),
  ⟨some 11, .mv (.t 0), some (10, true)⟩,
  ⟨some 12, .mv (.t 2), some (10, true)⟩,
  ⟨some 13, .bin .leq (.t 11) (.t 12), some (10, true)⟩,
  oo 14 (.pick (.t 10) (.t 13) (.c (.bool false))),
  oo 6 (.mv (.t 14))])
 .ret))
structure G_f49 (E : Env) : Prop where
  is : Is E 6 3 f49_ac [(6, none)]
theorem f49_E {E : Env} (h : G_f49 E) (a0 a1 a2 : U) : E 6 [a0, a1, a2] =
 (U.bin .geq a0 a1).bind fun t1 => U.asBool t1
 ((U.bin .leq a0 a2).bind fun t2 => some t2)
 (some (.bool false)) := (h.is _ rfl).trans ((runQ_V rfl).trans (by kernel_rfl))
def f50_ac : AC :=
 (.seq (rg [oo 2 (.box false 2 (.t 0)),
  oo 3 (.box false 3 (.t 1)),
  oo 4 (.mv (.c (.bool false)))])
 (.seq (rg [oo 5 (.faddr 0 0 (.t 2)),
  oo 6 (.load false 1 (.t 5)),
  oo 7 (.faddr 0 0 (.t 3)),
  oo 8 (.load false 1 (.t 7)),
  oo 9 (.bin .lss (.t 6) (.t 8)),
  oo 10 (.mv (.t 9)),
  ⟨some 11, .faddr 0 0 (.t 2), some (10, false)⟩,
  ⟨some 12, .load false 1 (.t 11), some (10, false)⟩,
  ⟨some 13, .faddr 0 0 (.t 3), some (10, false)⟩,
  ⟨some 14, .load false 1 (.t 13), some (10, false)⟩,
  ⟨some 15, .bin .eql (.t 12) (.t 14), some (10, false)⟩,
  ⟨some 16, .mv (.t 15), some (10, false)⟩,
  ⟨some 17, .faddr 1 1 (.t 2), some (16, true)⟩,
  ⟨some 18, .load false 1 (.t 17), some (16, true)⟩,
  ⟨some 19, .faddr 1 1 (.t 3), some (16, true)⟩,
  ⟨some 20, .load false 1 (.t 19), some (16, true)⟩,
  ⟨some 21, .bin .lss (.t 18) (.t 20), some (16, true)⟩,
  ⟨some 22, .pick (.t 16) (.t 21) (.c (.bool false)), some (10, false)⟩,
  oo 23 (.pick (.t 10) (.c (.bool true)) (.t 22)),
  oo 4 (.mv (.t 23))])
 .ret))
structure G_f50 (E : Env) : Prop where
  is : Is E 71 2 f50_ac [(4, none)]
theorem f50_E {E : Env} (h : G_f50 E) (a0 a1 : U) : E 71 [a0, a1] =
 U.noTup a0 fun x1 => U.noTup a1 fun x2 => U.asAgg x1 fun us3 => if 0 = sizes (us3.take 0) then (us3[0]?).bind fun e4 => U.asVar false 1 e4 fun e5 => U.asAgg x2 fun us6 => if 0 = sizes (us6.take 0) then (us6[0]?).bind fun e7 => U.asVar false 1 e7 fun e8 => (U.bin .lss e5 e8).bind fun t9 => U.asBool t9
 (some (.bool true))
 (U.asAgg x1 fun us10 => if 0 = sizes (us10.take 0) then (us10[0]?).bind fun e11 => U.asVar false 1 e11 fun e12 => U.asAgg x2 fun us13 => if 0 = sizes (us13.take 0) then (us13[0]?).bind fun e14 => U.asVar false 1 e14 fun e15 => (U.bin .eql e12 e15).bind fun t16 => U.asBool t16
 (U.asAgg x1 fun us17 => if 1 = sizes (us17.take 1) then (us17[1]?).bind fun e18 => U.asVar false 1 e18 fun e19 => U.asAgg x2 fun us20 => if 1 = sizes (us20.take 1) then (us20[1]?).bind fun e21 => U.asVar false 1 e21 fun e22 => (U.bin .lss e19 e22).bind fun t23 => some t23 else none else none)
 (some (.bool false)) else none else none) else none else none := (h.is _ rfl).trans ((runQ_V rfl).trans (by kernel_rfl))
def f46_b1 : AC :=
 (.seq (.seq (rg [oo 7 (.mv (.t 3)),
  oo 8 (.faddr 7 7 (.t 1)),
  oo 9 (.load false 1 (.t 8)),
  oo 10 (.len false (.t 9)),
  oo 11 (.bin .lss (.t 7) (.t 10))])
 (.cond (.t 11) .skip (.exit 0)))
 (.seq (.block 1 (.seq (rg [oo 14 (.faddr 7 7 (.t 1)),
  oo 15 (.load false 1 (.t 14)),
  oo 16 (.mv (.t 3)),
  oo 17 (.iaddr 2 (.t 15) (.t 16)),
  oo 18 (.load true 2 (.t 17)),
  oo 4 (.alloc 4 (.agg [(.int .i64 0), (.int .i64 0)])),
  ⟨none, .store 2 (.t 4) (.t 18), none⟩])
 (.seq (.region 25 [oo 19 (.faddr 0 0 (.t 4)),
  oo 20 (.load false 1 (.t 19)),
  oo 21 (.call false 6 [(.t 20), (ci 0), (ci 5)]),
  oo 22 (.un .not (.t 21)),
  oo 23 (.mv (.t 22)),
  ⟨some 24, .faddr 1 1 (.t 4), some (23, false)⟩,
  ⟨some 25, .load false 1 (.t 24), some (23, false)⟩,
  ⟨some 26, .call false 6 [(.t 25), (ci 0), (ci 999)], some (23, false)⟩,
  ⟨some 27, .un .not (.t 26), some (23, false)⟩,
  oo 28 (.pick (.t 23) (.c (.bool true)) (.t 27)),
  oo 29 (.mv (.t 28)),
  ⟨some 30, .mv (.t 3), some (29, false)⟩,
  ⟨some 31, .bin .gtr (.t 30) (ci 0), some (29, false)⟩,
  ⟨some 32, .mv (.t 31), some (29, false)⟩,
  ⟨some 33, .faddr 7 7 (.t 1), some (32, true)⟩,
  ⟨some 34, .load false 1 (.t 33), some (32, true)⟩,
  ⟨some 35, .mv (.t 3), some (32, true)⟩,
  ⟨some 36, .bin .sub (.t 35) (ci 1), some (32, true)⟩,
  ⟨some 37, .iaddr 2 (.t 34) (.t 36), some (32, true)⟩,
  ⟨some 38, .load true 2 (.t 37), some (32, true)⟩,
  ⟨some 39, .load true 2 (.t 4), some (32, true)⟩,
  ⟨some 40, .call false 71 [(.t 38), (.t 39)], some (32, true)⟩,
  ⟨some 41, .un .not (.t 40), some (32, true)⟩,
  ⟨some 42, .pick (.t 32) (.t 41) (.c (.bool false)), some (29, false)⟩,
  oo 43 (.pick (.t 29) (.c (.bool true)) (.t 42))])
 (.cond (.t 43) (.seq (rg [oo 2 (.mv (.c (.bool false)))])
 .ret) .skip))))
 (rg [oo 12 (.mv (.t 3)),
  oo 13 (.bin .add (.t 12) (ci 1)),
  oo 3 (.mv (.t 13))])))
def f46_b0 : AC :=
 (.seq (.seq (rg [oo 44 (.mv (.t 5)),
  oo 45 (.faddr 8 8 (.t 1)),
  oo 46 (.load false 1 (.t 45)),
  oo 47 (.len false (.t 46)),
  oo 48 (.bin .lss (.t 44) (.t 47))])
 (.cond (.t 48) .skip (.exit 2)))
 (.seq (.block 3 (.seq (rg [oo 51 (.faddr 8 8 (.t 1)),
  oo 52 (.load false 1 (.t 51)),
  oo 53 (.mv (.t 5)),
  oo 54 (.iaddr 2 (.t 52) (.t 53)),
  oo 55 (.load true 2 (.t 54)),
  oo 6 (.alloc 6 (.agg [(.int .i64 0), (.int .i64 0)])),
  ⟨none, .store 2 (.t 6) (.t 55), none⟩])
 (.seq (.region 26 [oo 56 (.faddr 0 0 (.t 6)),
  oo 57 (.load false 1 (.t 56)),
  oo 58 (.call false 6 [(.t 57), (ci 0), (ci 5)]),
  oo 59 (.un .not (.t 58)),
  oo 60 (.mv (.t 59)),
  ⟨some 61, .faddr 1 1 (.t 6), some (60, false)⟩,
  ⟨some 62, .load false 1 (.t 61), some (60, false)⟩,
  ⟨some 63, .call false 6 [(.t 62), (ci (-1)), (ci 99)], some (60, false)⟩,
  ⟨some 64, .un .not (.t 63), some (60, false)⟩,
  oo 65 (.pick (.t 60) (.c (.bool true)) (.t 64)),
  oo 66 (.mv (.t 65)),
  ⟨some 67, .mv (.t 5), some (66, false)⟩,
  ⟨some 68, .bin .gtr (.t 67) (ci 0), some (66, false)⟩,
  ⟨some 69, .mv (.t 68), some (66, false)⟩,
  ⟨some 70, .faddr 8 8 (.t 1), some (69, true)⟩,
  ⟨some 71, .load false 1 (.t 70), some (69, true)⟩,
  ⟨some 72, .mv (.t 5), some (69, true)⟩,
  ⟨some 73, .bin .sub (.t 72) (ci 1), some (69, true)⟩,
  ⟨some 74, .iaddr 2 (.t 71) (.t 73), some (69, true)⟩,
  ⟨some 75, .faddr 0 0 (.t 74), some (69, true)⟩,
  ⟨some 76, .load false 1 (.t 75), some (69, true)⟩,
  ⟨some 77, .faddr 0 0 (.t 6), some (69, true)⟩,
  ⟨some 78, .load false 1 (.t 77), some (69, true)⟩,
  ⟨some 79, .bin .geq (.t 76) (.t 78), some (69, true)⟩,
  ⟨some 80, .pick (.t 69) (.t 79) (.c (.bool false)), some (66, false)⟩,
  oo 81 (.pick (.t 66) (.c (.bool true)) (.t 80))])
 (.cond (.t 81) (.seq (rg [oo 2 (.mv (.c (.bool false)))])
 .ret) .skip))))
 (rg [oo 49 (.mv (.t 5)),
  oo 50 (.bin .add (.t 49) (ci 1)),
  oo 5 (.mv (.t 50))])))
def f46_r0 : AC :=
 (.seq (.seq (rg [oo 82 (.faddr 0 0 (.t 1)),
  oo 83 (.load false 1 (.t 82)),
  oo 84 (.call false 6 [(.t 83), (ci 1), (ci 9)]),
  oo 85 (.un .not (.t 84)),
  oo 86 (.mv (.t 85)),
  ⟨some 87, .faddr 1 1 (.t 1), some (86, false)⟩,
  ⟨some 88, .load false 1 (.t 87), some (86, false)⟩,
  ⟨some 89, .call false 6 [(.t 88), (ci 1), (ci 4)], some (86, false)⟩,
  ⟨some 90, .un .not (.t 89), some (86, false)⟩,
  oo 91 (.pick (.t 86) (.c (.bool true)) (.t 90)),
  oo 92 (.mv (.t 91)),
  ⟨some 93, .faddr 3 3 (.t 1), some (92, false)⟩,
  ⟨some 94, .load false 1 (.t 93), some (92, false)⟩,
  ⟨some 95, .call false 6 [(.t 94), (ci 0), (ci 999)], some (92, false)⟩,
  ⟨some 96, .un .not (.t 95), some (92, false)⟩,
  oo 97 (.pick (.t 92) (.c (.bool true)) (.t 96))])
 (.cond (.t 97) (.seq (rg [oo 2 (.mv (.c (.bool false)))])
 .ret) .skip))
 (.seq (rg [oo 98 (.faddr 2 2 (.t 1)),
  oo 99 (.load false 1 (.t 98)),
  oo 100 (.call false 6 [(.t 99), (ci 1), (ci 3)]),
  oo 101 (.mv (.t 100)),
  ⟨some 102, .faddr 4 4 (.t 1), some (101, true)⟩,
  ⟨some 103, .load false 1 (.t 102), some (101, true)⟩,
  ⟨some 104, .call false 6 [(.t 103), (ci 0), (ci 999)], some (101, true)⟩,
  oo 105 (.pick (.t 101) (.t 104) (.c (.bool false))),
  oo 106 (.mv (.t 105)),
  ⟨some 107, .faddr 5 5 (.t 1), some (106, true)⟩,
  ⟨some 108, .load false 1 (.t 107), some (106, true)⟩,
  ⟨some 109, .call false 6 [(.t 108), (ci 1), (ci 1000)], some (106, true)⟩,
  oo 110 (.pick (.t 106) (.t 109) (.c (.bool false))),
  oo 111 (.mv (.t 110)),
  ⟨some 112, .faddr 2 2 (.t 1), some (111, true)⟩,
  ⟨some 113, .load false 1 (.t 112), some (111, true)⟩,
  ⟨some 114, .bin .eql (.t 113) (ci 2), some (111, true)⟩,
  ⟨some 115, .faddr 6 6 (.t 1), some (111, true)⟩,
  ⟨some 116, .load false 1 (.t 115), some (111, true)⟩,
  ⟨some 117, .bin .gtr (.t 116) (ci 0), some (111, true)⟩,
  ⟨some 118, .eqv false 0 (.t 114) (.t 117), some (111, true)⟩,
  oo 119 (.pick (.t 111) (.t 118) (.c (.bool false))),
  oo 120 (.mv (.t 119)),
  ⟨some 121, .faddr 6 6 (.t 1), some (120, true)⟩,
  ⟨some 122, .load false 1 (.t 121), some (120, true)⟩,
  ⟨some 123, .call false 6 [(.t 122), (ci 0), (ci 999)], some (120, true)⟩,
  oo 124 (.pick (.t 120) (.t 123) (.c (.bool false))),
  oo 125 (.mv (.t 124)),
  ⟨some 126, .faddr 7 7 (.t 1), some (125, true)⟩,
  ⟨some 127, .load false 1 (.t 126), some (125, true)⟩,
  ⟨some 128, .len false (.t 127), some (125, true)⟩,
  ⟨some 129, .bin .leq (.t 128) (ci 60), some (125, true)⟩,
  oo 130 (.pick (.t 125) (.t 129) (.c (.bool false))),
  oo 2 (.mv (.t 130))])
 .ret))
def f46_r1 : AC :=
 (.seq (.seq (rg [oo 5 (.mv (ci 0))])
 (.block 2 (.loop ⟨[1, 5], [], [(1, false)]⟩ f46_b0)))
 f46_r0)
def f46_ac : AC :=
 (.seq (rg [oo 1 (.box false 1 (.t 0)),
  oo 2 (.mv (.c (.bool false)))])
 (.seq (.seq (rg [oo 3 (.mv (ci 0))])
 (.block 0 (.loop ⟨[1, 3], [], [(1, false)]⟩ f46_b1)))
 f46_r1))
noncomputable def f46_l1 (E : Env) (x3 : U) (b1 : U) : Option U := loopK (roundOf E ⟨[1, 3], [], [(1, false)]⟩ f46_b1 (blockK 0 (seqK (fun s => exec E f46_r1 s (finish [(2, none)])) (finish [(2, none)])))) ([.ptr 1 [], .val x3], [.box (.val b1)])
noncomputable def f46_l0 (E : Env) (x5 : U) (b1 : U) : Option U := loopK (roundOf E ⟨[1, 5], [], [(1, false)]⟩ f46_b0 (blockK 2 (seqK (fun s => exec E f46_r0 s (finish [(2, none)])) (finish [(2, none)])))) ([.ptr 1 [], .val x5], [.box (.val b1)])
theorem f46_l1_eq (E : Env) (x3 : U) (b1 : U) : f46_l1 E x3 b1 =
 U.asAgg b1 fun us2 => if 7 = sizes (us2.take 7) then (us2[7]?).bind fun e3 => U.asVar false 1 e3 fun e4 => (U.lenOf false e4).bind fun n5 => (U.bin .lss x3 (.int .i64 (n5 : Int))).bind fun t6 => U.asBool t6
 (U.asAgg b1 fun us7 => if 7 = sizes (us7.take 7) then (us7[7]?).bind fun e8 => U.asVar false 1 e8 fun e9 => U.asInt x3 fun n10 => U.elemAt 2 e9 n10 fun e11 => U.asVar true 2 e11 fun e12 => if storable (.val e12) = true ∧ e12.size = 2 then U.asAgg e12 fun us13 => if 0 = sizes (us13.take 0) then (us13[0]?).bind fun e14 => U.asVar false 1 e14 fun e15 => (E 6 [e15, (.int .i64 0), (.int .i64 5)]).bind fun t16 => (U.un .not t16).bind fun t17 => U.asBool t17
 (some (.bool false))
 (U.asAgg e12 fun us18 => if 1 = sizes (us18.take 1) then (us18[1]?).bind fun e19 => U.asVar false 1 e19 fun e20 => (E 6 [e20, (.int .i64 0), (.int .i64 999)]).bind fun t21 => (U.un .not t21).bind fun t22 => U.asBool t22
 (some (.bool false))
 ((U.bin .gtr x3 (.int .i64 0)).bind fun t23 => U.asBool t23
 (U.asAgg b1 fun us24 => if 7 = sizes (us24.take 7) then (us24[7]?).bind fun e25 => U.asVar false 1 e25 fun e26 => (U.bin .sub x3 (.int .i64 1)).bind fun t27 => U.asInt t27 fun n28 => U.elemAt 2 e26 n28 fun e29 => U.asVar true 2 e29 fun e30 => U.asVar true 2 e12 fun e31 => (E 71 [e30, e31]).bind fun t32 => (U.un .not t32).bind fun t33 => U.asBool t33
 (some (.bool false))
 ((U.bin .add x3 (.int .i64 1)).bind fun t34 => f46_l1 E t34 b1) else none)
 ((U.bin .add x3 (.int .i64 1)).bind fun t35 => f46_l1 E t35 b1)) else none) else none else none else none)
 (f46_l0 E (.int .i64 0) b1) else none :=
 (loop_eq E _ _ _ _).trans (by kernel_rfl)
theorem f46_l0_eq (E : Env) (x5 : U) (b1 : U) : f46_l0 E x5 b1 =
 U.asAgg b1 fun us36 => if 8 = sizes (us36.take 8) then (us36[8]?).bind fun e37 => U.asVar false 1 e37 fun e38 => (U.lenOf false e38).bind fun n39 => (U.bin .lss x5 (.int .i64 (n39 : Int))).bind fun t40 => U.asBool t40
 (U.asAgg b1 fun us41 => if 8 = sizes (us41.take 8) then (us41[8]?).bind fun e42 => U.asVar false 1 e42 fun e43 => U.asInt x5 fun n44 => U.elemAt 2 e43 n44 fun e45 => U.asVar true 2 e45 fun e46 => if storable (.val e46) = true ∧ e46.size = 2 then U.asAgg e46 fun us47 => if 0 = sizes (us47.take 0) then (us47[0]?).bind fun e48 => U.asVar false 1 e48 fun e49 => (E 6 [e49, (.int .i64 0), (.int .i64 5)]).bind fun t50 => (U.un .not t50).bind fun t51 => U.asBool t51
 (some (.bool false))
 (U.asAgg e46 fun us52 => if 1 = sizes (us52.take 1) then (us52[1]?).bind fun e53 => U.asVar false 1 e53 fun e54 => (E 6 [e54, (.int .i64 (-1)), (.int .i64 99)]).bind fun t55 => (U.un .not t55).bind fun t56 => U.asBool t56
 (some (.bool false))
 ((U.bin .gtr x5 (.int .i64 0)).bind fun t57 => U.asBool t57
 (U.asAgg b1 fun us58 => if 8 = sizes (us58.take 8) then (us58[8]?).bind fun e59 => U.asVar false 1 e59 fun e60 => (U.bin .sub x5 (.int .i64 1)).bind fun t61 => U.asInt t61 fun n62 => U.elemAt 2 e60 n62 fun e63 => U.fieldAt 0 0 e63 fun f64 => U.asVar false 1 f64 fun e65 => U.asAgg e46 fun us66 => if 0 = sizes (us66.take 0) then (us66[0]?).bind fun e67 => U.asVar false 1 e67 fun e68 => (U.bin .geq e65 e68).bind fun t69 => U.asBool t69
 (some (.bool false))
 ((U.bin .add x5 (.int .i64 1)).bind fun t70 => f46_l0 E t70 b1) else none else none)
 ((U.bin .add x5 (.int .i64 1)).bind fun t71 => f46_l0 E t71 b1)) else none) else none else none else none)
 (U.asAgg b1 fun us72 => if 0 = sizes (us72.take 0) then (us72[0]?).bind fun e73 => U.asVar false 1 e73 fun e74 => (E 6 [e74, (.int .i64 1), (.int .i64 9)]).bind fun t75 => (U.un .not t75).bind fun t76 => U.asBool t76
 (some (.bool false))
 (U.asAgg b1 fun us77 => if 1 = sizes (us77.take 1) then (us77[1]?).bind fun e78 => U.asVar false 1 e78 fun e79 => (E 6 [e79, (.int .i64 1), (.int .i64 4)]).bind fun t80 => (U.un .not t80).bind fun t81 => U.asBool t81
 (some (.bool false))
 (U.asAgg b1 fun us82 => if 3 = sizes (us82.take 3) then (us82[3]?).bind fun e83 => U.asVar false 1 e83 fun e84 => (E 6 [e84, (.int .i64 0), (.int .i64 999)]).bind fun t85 => (U.un .not t85).bind fun t86 => U.asBool t86
 (some (.bool false))
 (U.asAgg b1 fun us87 => if 2 = sizes (us87.take 2) then (us87[2]?).bind fun e88 => U.asVar false 1 e88 fun e89 => (E 6 [e89, (.int .i64 1), (.int .i64 3)]).bind fun t90 => U.asBool t90
 (U.asAgg b1 fun us91 => if 4 = sizes (us91.take 4) then (us91[4]?).bind fun e92 => U.asVar false 1 e92 fun e93 => (E 6 [e93, (.int .i64 0), (.int .i64 999)]).bind fun t94 => U.asBool t94
 (U.asAgg b1 fun us95 => if 5 = sizes (us95.take 5) then (us95[5]?).bind fun e96 => U.asVar false 1 e96 fun e97 => (E 6 [e97, (.int .i64 1), (.int .i64 1000)]).bind fun t98 => U.asBool t98
 (U.asAgg b1 fun us99 => if 2 = sizes (us99.take 2) then (us99[2]?).bind fun e100 => U.asVar false 1 e100 fun e101 => (U.bin .eql e101 (.int .i64 2)).bind fun t102 => U.asAgg b1 fun us103 => if 6 = sizes (us103.take 6) then (us103[6]?).bind fun e104 => U.asVar false 1 e104 fun e105 => (U.bin .gtr e105 (.int .i64 0)).bind fun t106 => (U.eqv 0 t102 t106).bind fun q107 => U.asBool (.bool q107)
 (U.asAgg b1 fun us108 => if 6 = sizes (us108.take 6) then (us108[6]?).bind fun e109 => U.asVar false 1 e109 fun e110 => (E 6 [e110, (.int .i64 0), (.int .i64 999)]).bind fun t111 => U.asBool t111
 (U.asAgg b1 fun us112 => if 7 = sizes (us112.take 7) then (us112[7]?).bind fun e113 => U.asVar false 1 e113 fun e114 => (U.lenOf false e114).bind fun n115 => (U.bin .leq (.int .i64 (n115 : Int)) (.int .i64 60)).bind fun t116 => some t116 else none)
 (some (.bool false)) else none)
 (some (.bool false)) else none else none)
 (some (.bool false)) else none)
 (some (.bool false)) else none)
 (some (.bool false)) else none) else none) else none) else none) else none :=
 (loop_eq E _ _ _ _).trans (by kernel_rfl)
structure G_f46 (E : Env) : Prop where
  is : Is E 70 1 f46_ac [(2, none)]
  c_f49 : G_f49 E
  c_f50 : G_f50 E
theorem f46_E {E : Env} (h : G_f46 E) (a0 : U) : E 70 [a0] =
 U.noTup a0 fun x1 => f46_l1 E (.int .i64 0) x1 := (h.is _ rfl).trans ((runQ_V rfl).trans (by kernel_rfl))
def f47_ac : AC :=
 (.seq (rg [oo 1 (.box false 1 (.t 0)),
  oo 2 (.mv (.c (.bool false)))])
 (.seq (.seq (rg [oo 3 (.faddr 1 1 (.t 1)),
  oo 4 (.load false 1 (.t 3)),
  oo 5 (.call false 6 [(.t 4), (ci (-1)), (ci 99)]),
  oo 6 (.un .not (.t 5)),
  oo 7 (.mv (.t 6)),
  ⟨some 8, .faddr 2 2 (.t 1), some (7, false)⟩,
  ⟨some 9, .load false 1 (.t 8), some (7, false)⟩,
  ⟨some 10, .call false 6 [(.t 9), (ci 0), (ci 999)], some (7, false)⟩,
  ⟨some 11, .un .not (.t 10), some (7, false)⟩,
  oo 12 (.pick (.t 7) (.c (.bool true)) (.t 11)),
  oo 13 (.mv (.t 12)),
  ⟨some 14, .faddr 3 3 (.t 1), some (13, false)⟩,
  ⟨some 15, .load false 1 (.t 14), some (13, false)⟩,
  ⟨some 16, .faddr 2 2 (.t 1), some (13, false)⟩,
  ⟨some 17, .load false 1 (.t 16), some (13, false)⟩,
  ⟨some 18, .call false 6 [(.t 15), (.t 17), (ci 999)], some (13, false)⟩,
  ⟨some 19, .un .not (.t 18), some (13, false)⟩,
  oo 20 (.pick (.t 13) (.c (.bool true)) (.t 19)),
  oo 21 (.mv (.t 20)),
  ⟨some 22, .faddr 4 4 (.t 1), some (21, false)⟩,
  ⟨some 23, .load false 1 (.t 22), some (21, false)⟩,
  ⟨some 24, .call false 6 [(.t 23), (ci 1), (ci 1000)], some (21, false)⟩,
  ⟨some 25, .un .not (.t 24), some (21, false)⟩,
  oo 26 (.pick (.t 21) (.c (.bool true)) (.t 25))])
 (.cond (.t 26) (.seq (rg [oo 2 (.mv (.c (.bool false)))])
 .ret) .skip))
 (.seq (.seq (rg [oo 27 (.faddr 2 2 (.t 1)),
  oo 28 (.load false 1 (.t 27)),
  oo 29 (.bin .eql (.t 28) (ci 0))])
 (.cond (.t 29) (.seq (rg [oo 30 (.faddr 0 0 (.t 1)),
  oo 31 (.load false 1 (.t 30)),
  oo 32 (.bin .eql (.t 31) (ci 0)),
  oo 33 (.mv (.t 32)),
  ⟨some 34, .faddr 1 1 (.t 1), some (33, true)⟩,
  ⟨some 35, .load false 1 (.t 34), some (33, true)⟩,
  ⟨some 36, .bin .eql (.t 35) (ci (-1)), some (33, true)⟩,
  oo 37 (.pick (.t 33) (.t 36) (.c (.bool false))),
  oo 2 (.mv (.t 37))])
 .ret) .skip))
 (.seq (rg [oo 38 (.faddr 0 0 (.t 1)),
  oo 39 (.load false 1 (.t 38)),
  oo 40 (.call false 6 [(.t 39), (ci 1), (ci 9)]),
  oo 2 (.mv (.t 40))])
 .ret))))
structure G_f47 (E : Env) : Prop where
  is : Is E 105 1 f47_ac [(2, none)]
  c_f49 : G_f49 E
theorem f47_E {E : Env} (h : G_f47 E) (a0 : U) : E 105 [a0] =
 U.noTup a0 fun x1 => U.asAgg x1 fun us2 => if 1 = sizes (us2.take 1) then (us2[1]?).bind fun e3 => U.asVar false 1 e3 fun e4 => (E 6 [e4, (.int .i64 (-1)), (.int .i64 99)]).bind fun t5 => (U.un .not t5).bind fun t6 => U.asBool t6
 (some (.bool false))
 (U.asAgg x1 fun us7 => if 2 = sizes (us7.take 2) then (us7[2]?).bind fun e8 => U.asVar false 1 e8 fun e9 => (E 6 [e9, (.int .i64 0), (.int .i64 999)]).bind fun t10 => (U.un .not t10).bind fun t11 => U.asBool t11
 (some (.bool false))
 (U.asAgg x1 fun us12 => if 3 = sizes (us12.take 3) then (us12[3]?).bind fun e13 => U.asVar false 1 e13 fun e14 => U.asAgg x1 fun us15 => if 2 = sizes (us15.take 2) then (us15[2]?).bind fun e16 => U.asVar false 1 e16 fun e17 => (E 6 [e14, e17, (.int .i64 999)]).bind fun t18 => (U.un .not t18).bind fun t19 => U.asBool t19
 (some (.bool false))
 (U.asAgg x1 fun us20 => if 4 = sizes (us20.take 4) then (us20[4]?).bind fun e21 => U.asVar false 1 e21 fun e22 => (E 6 [e22, (.int .i64 1), (.int .i64 1000)]).bind fun t23 => (U.un .not t23).bind fun t24 => U.asBool t24
 (some (.bool false))
 (U.asAgg x1 fun us25 => if 2 = sizes (us25.take 2) then (us25[2]?).bind fun e26 => U.asVar false 1 e26 fun e27 => (U.bin .eql e27 (.int .i64 0)).bind fun t28 => U.asBool t28
 (U.asAgg x1 fun us29 => if 0 = sizes (us29.take 0) then (us29[0]?).bind fun e30 => U.asVar false 1 e30 fun e31 => (U.bin .eql e31 (.int .i64 0)).bind fun t32 => U.asBool t32
 (U.asAgg x1 fun us33 => if 1 = sizes (us33.take 1) then (us33[1]?).bind fun e34 => U.asVar false 1 e34 fun e35 => (U.bin .eql e35 (.int .i64 (-1))).bind fun t36 => some t36 else none)
 (some (.bool false)) else none)
 (U.asAgg x1 fun us37 => if 0 = sizes (us37.take 0) then (us37[0]?).bind fun e38 => U.asVar false 1 e38 fun e39 => (E 6 [e39, (.int .i64 1), (.int .i64 9)]).bind fun t40 => some t40 else none) else none) else none) else none else none) else none) else none := (h.is _ rfl).trans ((runQ_V rfl).trans (by kernel_rfl))
def f52_b0 : AC :=
 (.seq (.seq (.region 12 [oo 6 (.mv (.t 5)),
  oo 7 (.mv (.t 0)),
  oo 8 (.len false (.t 7)),
  oo 9 (.bin .lss (.t 6) (.t 8)),
  oo 10 (.mv (.t 9)),
  ⟨some 11, .mv (.t 0), some (10, true)⟩,
  ⟨some 12, .mv (.t 5), some (10, true)⟩,
  ⟨some 13, .iaddr 2 (.t 11) (.t 12), some (10, true)⟩,
  ⟨some 14, .load true 2 (.t 13), some (10, true)⟩,
  ⟨some 15, .load true 2 (.t 3), some (10, true)⟩,
  ⟨some 16, .call false 71 [(.t 14), (.t 15)], some (10, true)⟩,
  oo 17 (.pick (.t 10) (.t 16) (.c (.bool false)))])
 (.cond (.t 17) .skip (.exit 0)))
 (.block 1 (rg [oo 18 (.mv (.t 5)),
  oo 19 (.bin .add (.t 18) (ci 1)),
  oo 5 (.mv (.t 19))])))
def f52_r0 : AC :=
 (.seq (.seq (.region 12 [oo 20 (.mv (.t 5)),
  oo 21 (.mv (.t 0)),
  oo 22 (.len false (.t 21)),
  oo 23 (.bin .lss (.t 20) (.t 22)),
  oo 24 (.mv (.t 23)),
  ⟨some 25, .mv (.t 0), some (24, true)⟩,
  ⟨some 26, .mv (.t 5), some (24, true)⟩,
  ⟨some 27, .iaddr 2 (.t 25) (.t 26), some (24, true)⟩,
  ⟨some 28, .load true 2 (.t 27), some (24, true)⟩,
  ⟨some 29, .load true 2 (.t 3), some (24, true)⟩,
  ⟨some 30, .eqv false 4 (.t 28) (.t 29), some (24, true)⟩,
  oo 31 (.pick (.t 24) (.t 30) (.c (.bool false)))])
 (.cond (.t 31) (.seq (rg [oo 32 (.bslice 1 32 2 0 (.agg [(.int .i64 0), (.int .i64 0)]) []),
  oo 33 (.mv (.t 0)),
  oo 34 (.append false 34 2 16 (.t 32) (.t 33)),
  oo 4 (.mv (.t 34))])
 .ret) .skip))
 (.seq (.regC 11 [35, 39, 42] [oo 35 (.bslice 1 35 2 0 (.agg [(.int .i64 0), (.int .i64 0)]) []),
  oo 36 (.mv (.t 0)),
  oo 37 (.mv (.t 5)),
  oo 38 (.slice false 2 (.t 36) none (some (.t 37))),
  oo 39 (.append false 39 2 16 (.t 35) (.t 38)),
  oo 40 (.load true 2 (.t 3)),
  oo 41 (.bslice 0 41 2 1 (.agg [(.int .i64 0), (.int .i64 0)]) [(0, (.t 40))]),
  oo 42 (.append false 42 2 16 (.t 39) (.t 41)),
  oo 43 (.mv (.t 0)),
  oo 44 (.mv (.t 5)),
  oo 45 (.slice false 2 (.t 43) (some (.t 44)) none),
  oo 46 (.append false 46 2 16 (.t 42) (.t 45)),
  oo 4 (.mv (.t 46))])
 .ret))
def f52_ac : AC :=
 (.seq (rg [oo 3 (.box false 3 (.t 1)),
  oo 4 (.mv (.c (.nsl 2)))])
 (.seq (rg [oo 5 (.mv (ci 0))])
 (.seq (.block 0 (.loop ⟨[0, 3, 5], [], [(3, false)]⟩ f52_b0))
 f52_r0)))
noncomputable def f52_l0 (E : Env) (x0 : U) (x5 : U) (b3 : U) : Option U := loopK (roundOf E ⟨[0, 3, 5], [], [(3, false)]⟩ f52_b0 (blockK 0 (seqK (fun s => exec E f52_r0 s (finish [(4, none)])) (finish [(4, none)])))) ([.val x0, .ptr 3 [], .val x5], [.box (.val b3)])
theorem f52_l0_eq (E : Env) (x0 : U) (x5 : U) (b3 : U) : f52_l0 E x0 x5 b3 =
 (U.lenOf false x0).bind fun n2 => (U.bin .lss x5 (.int .i64 (n2 : Int))).bind fun t3 => U.asBool t3
 (U.asInt x5 fun n4 => U.elemAt 2 x0 n4 fun e5 => U.asVar true 2 e5 fun e6 => U.asVar true 2 b3 fun e7 => (E 71 [e6, e7]).bind fun t8 => U.asBool t8
 ((U.bin .add x5 (.int .i64 1)).bind fun t9 => f52_l0 E x0 t9 b3)
 ((U.lenOf false x0).bind fun n10 => (U.bin .lss x5 (.int .i64 (n10 : Int))).bind fun t11 => U.asBool t11
 (U.asInt x5 fun n12 => U.elemAt 2 x0 n12 fun e13 => U.asVar true 2 e13 fun e14 => U.asVar true 2 b3 fun e15 => (U.eqv 4 e14 e15).bind fun q16 => U.asBool (.bool q16)
 ((U.elems 2 x0).bind fun ys17 => if 2 = 2 ∧ 2 = 2 ∧ ((([] : List U)).length + (ys17 : List U).length) * 16 ≤ 140737488355328 then some (.sl 2 (([] : List U) ++ ys17)) else none)
 (U.asInt x5 fun n18 => (U.cut false 2 x0 none (some n18)).bind fun t19 => U.asVar true 2 b3 fun e20 => if partable (.val e20) = true ∧ e20.size = 2 then U.asInt x5 fun n21 => (U.cut false 2 x0 (some n21) none).bind fun t22 => (U.elems 2 t19).bind fun ys23 => if 2 = 2 ∧ 2 = 2 ∧ ((([] : List U)).length + (ys23 : List U).length) * 16 ≤ 140737488355328 then if 2 = 2 ∧ 2 = 2 ∧ (((([] : List U) ++ ys23)).length + ([e20] : List U).length) * 16 ≤ 140737488355328 then (U.elems 2 t22).bind fun ys24 => if 2 = 2 ∧ 2 = 2 ∧ ((((([] : List U) ++ ys23) ++ ([e20] : List U))).length + (ys24 : List U).length) * 16 ≤ 140737488355328 then some (.sl 2 (((([] : List U) ++ ys23) ++ ([e20] : List U)) ++ ys24)) else none else none else none else none))
 (U.asInt x5 fun n25 => (U.cut false 2 x0 none (some n25)).bind fun t26 => U.asVar true 2 b3 fun e27 => if partable (.val e27) = true ∧ e27.size = 2 then U.asInt x5 fun n28 => (U.cut false 2 x0 (some n28) none).bind fun t29 => (U.elems 2 t26).bind fun ys30 => if 2 = 2 ∧ 2 = 2 ∧ ((([] : List U)).length + (ys30 : List U).length) * 16 ≤ 140737488355328 then if 2 = 2 ∧ 2 = 2 ∧ (((([] : List U) ++ ys30)).length + ([e27] : List U).length) * 16 ≤ 140737488355328 then (U.elems 2 t29).bind fun ys31 => if 2 = 2 ∧ 2 = 2 ∧ ((((([] : List U) ++ ys30) ++ ([e27] : List U))).length + (ys31 : List U).length) * 16 ≤ 140737488355328 then some (.sl 2 (((([] : List U) ++ ys30) ++ ([e27] : List U)) ++ ys31)) else none else none else none else none)))
 ((U.lenOf false x0).bind fun n32 => (U.bin .lss x5 (.int .i64 (n32 : Int))).bind fun t33 => U.asBool t33
 (U.asInt x5 fun n34 => U.elemAt 2 x0 n34 fun e35 => U.asVar true 2 e35 fun e36 => U.asVar true 2 b3 fun e37 => (U.eqv 4 e36 e37).bind fun q38 => U.asBool (.bool q38)
 ((U.elems 2 x0).bind fun ys39 => if 2 = 2 ∧ 2 = 2 ∧ ((([] : List U)).length + (ys39 : List U).length) * 16 ≤ 140737488355328 then some (.sl 2 (([] : List U) ++ ys39)) else none)
 (U.asInt x5 fun n40 => (U.cut false 2 x0 none (some n40)).bind fun t41 => U.asVar true 2 b3 fun e42 => if partable (.val e42) = true ∧ e42.size = 2 then U.asInt x5 fun n43 => (U.cut false 2 x0 (some n43) none).bind fun t44 => (U.elems 2 t41).bind fun ys45 => if 2 = 2 ∧ 2 = 2 ∧ ((([] : List U)).length + (ys45 : List U).length) * 16 ≤ 140737488355328 then if 2 = 2 ∧ 2 = 2 ∧ (((([] : List U) ++ ys45)).length + ([e42] : List U).length) * 16 ≤ 140737488355328 then (U.elems 2 t44).bind fun ys46 => if 2 = 2 ∧ 2 = 2 ∧ ((((([] : List U) ++ ys45) ++ ([e42] : List U))).length + (ys46 : List U).length) * 16 ≤ 140737488355328 then some (.sl 2 (((([] : List U) ++ ys45) ++ ([e42] : List U)) ++ ys46)) else none else none else none else none))
 (U.asInt x5 fun n47 => (U.cut false 2 x0 none (some n47)).bind fun t48 => U.asVar true 2 b3 fun e49 => if partable (.val e49) = true ∧ e49.size = 2 then U.asInt x5 fun n50 => (U.cut false 2 x0 (some n50) none).bind fun t51 => (U.elems 2 t48).bind fun ys52 => if 2 = 2 ∧ 2 = 2 ∧ ((([] : List U)).length + (ys52 : List U).length) * 16 ≤ 140737488355328 then if 2 = 2 ∧ 2 = 2 ∧ (((([] : List U) ++ ys52)).length + ([e49] : List U).length) * 16 ≤ 140737488355328 then (U.elems 2 t51).bind fun ys53 => if 2 = 2 ∧ 2 = 2 ∧ ((((([] : List U) ++ ys52) ++ ([e49] : List U))).length + (ys53 : List U).length) * 16 ≤ 140737488355328 then some (.sl 2 (((([] : List U) ++ ys52) ++ ([e49] : List U)) ++ ys53)) else none else none else none else none)) :=
 (loop_eq E _ _ _ _).trans (by kernel_rfl)
structure G_f52 (E : Env) : Prop where
  is : Is E 300 2 f52_ac [(4, none)]
  c_f50 : G_f50 E
theorem f52_E {E : Env} (h : G_f52 E) (a0 a1 : U) : E 300 [a0, a1] =
 U.noTup a1 fun x1 => f52_l0 E a0 (.int .i64 0) x1 := (h.is _ rfl).trans ((runQ_V rfl).trans (by kernel_rfl))
def f48_ac : AC :=
 (.seq (rg [oo 3 (.box false 3 (.t 0)),
  oo 5 (.box false 5 (.t 2)),
  oo 6 (.alloc 6 (.agg [(.int .i64 0), (.int .i64 0), (.int .i64 0), (.int .i64 0), (.int .i64 0), (.int .i64 0), (.int .i64 0), (.nsl 2), (.nsl 2)])),
  oo 7 (.mv (.c (.bool false)))])
 (.seq (rg [oo 9 (.load true 9 (.t 3)),
  oo 10 (.call false 212 [(.t 9)]),
  oo 8 (.alloc 8 (.agg [(.int .i64 0), (.int .i64 0), (.int .i64 0), (.int .i64 0), (.int .i64 0), (.int .i64 0), (.int .i64 0), (.nsl 2), (.nsl 2)])),
  ⟨none, .store 9 (.t 8) (.t 10), none⟩])
 (.seq (.seq (rg [oo 11 (.load true 9 (.t 3)),
  oo 12 (.call false 70 [(.t 11)]),
  oo 13 (.un .not (.t 12)),
  oo 14 (.mv (.t 13)),
  ⟨some 15, .faddr 2 2 (.t 3), some (14, false)⟩,
  ⟨some 16, .load false 1 (.t 15), some (14, false)⟩,
  ⟨some 17, .bin .neq (.t 16) (ci 1), some (14, false)⟩,
  oo 18 (.pick (.t 14) (.c (.bool true)) (.t 17)),
  oo 19 (.mv (.t 18)),
  ⟨some 20, .mv (.t 1), some (19, false)⟩,
  ⟨some 21, .call false 6 [(.t 20), (ci 0), (ci 5)], some (19, false)⟩,
  ⟨some 22, .un .not (.t 21), some (19, false)⟩,
  oo 23 (.pick (.t 19) (.c (.bool true)) (.t 22)),
  oo 24 (.mv (.t 23)),
  ⟨some 25, .load true 5 (.t 5), some (24, false)⟩,
  ⟨some 26, .call false 105 [(.t 25)], some (24, false)⟩,
  ⟨some 27, .un .not (.t 26), some (24, false)⟩,
  oo 28 (.pick (.t 24) (.c (.bool true)) (.t 27)),
  oo 29 (.mv (.t 28)),
  ⟨some 30, .faddr 7 7 (.t 3), some (29, false)⟩,
  ⟨some 31, .load false 1 (.t 30), some (29, false)⟩,
  ⟨some 32, .len false (.t 31), some (29, false)⟩,
  ⟨some 33, .bin .eql (.t 32) (ci 60), some (29, false)⟩,
  oo 34 (.pick (.t 29) (.c (.bool true)) (.t 33))])
 (.cond (.t 34) (.seq (rg [oo 35 (.load true 9 (.t 8)),
  ⟨none, .store 9 (.t 6) (.t 35), none⟩,
  oo 7 (.mv (.c (.bool false)))])
 .ret) .skip))
 (.seq (rg [oo 36 (.faddr 7 7 (.t 3)),
  oo 37 (.load false 1 (.t 36)),
  oo 38 (.mv (.t 1)),
  oo 39 (.faddr 2 2 (.t 5)),
  oo 40 (.load false 1 (.t 39)),
  oo 41 (.build [(.int .i64 0), (.int .i64 0)] [(0, (.t 38)), (1, (.t 40))]),
  oo 42 (.call false 300 [(.t 37), (.t 41)]),
  oo 43 (.faddr 7 7 (.t 8)),
  ⟨none, .store 1 (.t 43) (.t 42), none⟩])
 (.seq (rg [oo 44 (.faddr 4 4 (.t 3)),
  oo 45 (.load false 1 (.t 44)),
  oo 46 (.faddr 2 2 (.t 5)),
  oo 47 (.load false 1 (.t 46)),
  oo 48 (.minmax true [(.t 45), (.t 47)]),
  oo 49 (.faddr 4 4 (.t 8)),
  ⟨none, .store 1 (.t 49) (.t 48), none⟩])
 (.seq (rg [oo 50 (.faddr 5 5 (.t 3)),
  oo 51 (.load false 1 (.t 50)),
  oo 52 (.faddr 4 4 (.t 5)),
  oo 53 (.load false 1 (.t 52)),
  oo 54 (.minmax false [(.t 51), (.t 53)]),
  oo 55 (.faddr 5 5 (.t 8)),
  ⟨none, .store 1 (.t 55) (.t 54), none⟩])
 (.seq (rg [oo 56 (.load true 9 (.t 8)),
  ⟨none, .store 9 (.t 6) (.t 56), none⟩,
  oo 7 (.mv (.c (.bool true)))])
 .ret)))))))
structure G_f48 (E : Env) : Prop where
  is : Is E 299 3 f48_ac [(6, some (true, 9)), (7, none)]
  c_f51 : G_f51 E
  c_f46 : G_f46 E
  c_f49 : G_f49 E
  c_f47 : G_f47 E
  c_f52 : G_f52 E
theorem f48_E {E : Env} (h : G_f48 E) (a0 a1 a2 : U) : E 299 [a0, a1, a2] =
 U.noTup a0 fun x1 => U.noTup a2 fun x2 => U.asVar true 9 x1 fun e3 => (E 212 [e3]).bind fun t4 => if storable (.val t4) = true ∧ t4.size = 9 then U.asVar true 9 x1 fun e5 => (E 70 [e5]).bind fun t6 => (U.un .not t6).bind fun t7 => U.asBool t7
 (U.asVar true 9 t4 fun e8 => if storable (.val e8) = true ∧ e8.size = 9 then U.asVar true 9 e8 fun e9 => U.noTup e9 fun x10 => some (.tup [x10, (.bool false)]) else none)
 (U.asAgg x1 fun us11 => if 2 = sizes (us11.take 2) then (us11[2]?).bind fun e12 => U.asVar false 1 e12 fun e13 => (U.bin .neq e13 (.int .i64 1)).bind fun t14 => U.asBool t14
 (U.asVar true 9 t4 fun e15 => if storable (.val e15) = true ∧ e15.size = 9 then U.asVar true 9 e15 fun e16 => U.noTup e16 fun x17 => some (.tup [x17, (.bool false)]) else none)
 ((E 6 [a1, (.int .i64 0), (.int .i64 5)]).bind fun t18 => (U.un .not t18).bind fun t19 => U.asBool t19
 (U.asVar true 9 t4 fun e20 => if storable (.val e20) = true ∧ e20.size = 9 then U.asVar true 9 e20 fun e21 => U.noTup e21 fun x22 => some (.tup [x22, (.bool false)]) else none)
 (U.asVar true 5 x2 fun e23 => (E 105 [e23]).bind fun t24 => (U.un .not t24).bind fun t25 => U.asBool t25
 (U.asVar true 9 t4 fun e26 => if storable (.val e26) = true ∧ e26.size = 9 then U.asVar true 9 e26 fun e27 => U.noTup e27 fun x28 => some (.tup [x28, (.bool false)]) else none)
 (U.asAgg x1 fun us29 => if 7 = sizes (us29.take 7) then (us29[7]?).bind fun e30 => U.asVar false 1 e30 fun e31 => (U.lenOf false e31).bind fun n32 => (U.bin .eql (.int .i64 (n32 : Int)) (.int .i64 60)).bind fun t33 => U.asBool t33
 (U.asVar true 9 t4 fun e34 => if storable (.val e34) = true ∧ e34.size = 9 then U.asVar true 9 e34 fun e35 => U.noTup e35 fun x36 => some (.tup [x36, (.bool false)]) else none)
 (U.asAgg x1 fun us37 => if 7 = sizes (us37.take 7) then (us37[7]?).bind fun e38 => U.asVar false 1 e38 fun e39 => U.asAgg x2 fun us40 => if 2 = sizes (us40.take 2) then (us40[2]?).bind fun e41 => U.asVar false 1 e41 fun e42 => if partable (.val a1) = true ∧ a1.size = 1 then if partable (.val e42) = true ∧ e42.size = 1 then (E 300 [e39, (.agg [a1, e42])]).bind fun t43 => if storable (.val t43) = true ∧ t43.size = 1 then U.asAgg t4 fun us44 => if 7 = sizes (us44.take 7) then (us44[7]?).bind fun e45 => if e45.size = 1 then U.asAgg x1 fun us46 => if 4 = sizes (us46.take 4) then (us46[4]?).bind fun e47 => U.asVar false 1 e47 fun e48 => U.asAgg x2 fun us49 => if 2 = sizes (us49.take 2) then (us49[2]?).bind fun e50 => U.asVar false 1 e50 fun e51 => U.asInt e48 fun n52 => U.asInt e51 fun n53 => U.asAgg (.agg (us44.set 7 t43)) fun us54 => if 4 = sizes (us54.take 4) then (us54[4]?).bind fun e55 => if e55.size = 1 then U.asAgg x1 fun us56 => if 5 = sizes (us56.take 5) then (us56[5]?).bind fun e57 => U.asVar false 1 e57 fun e58 => U.asAgg x2 fun us59 => if 4 = sizes (us59.take 4) then (us59[4]?).bind fun e60 => U.asVar false 1 e60 fun e61 => U.asInt e58 fun n62 => U.asInt e61 fun n63 => U.asAgg (.agg (us54.set 4 (.int .i64 (([n53] : List Int).foldl (fun a b => if true then (if a < b then b else a) else (if b < a then b else a)) n52)))) fun us64 => if 5 = sizes (us64.take 5) then (us64[5]?).bind fun e65 => if e65.size = 1 then U.asVar true 9 (.agg (us64.set 5 (.int .i64 (([n63] : List Int).foldl (fun a b => if false then (if a < b then b else a) else (if b < a then b else a)) n62)))) fun e66 => if storable (.val e66) = true ∧ e66.size = 9 then U.asVar true 9 e66 fun e67 => U.noTup e67 fun x68 => some (.tup [x68, (.bool true)]) else none else none else none else none else none else none else none else none else none else none else none else none else none else none else none else none) else none))) else none) else none := (h.is _ rfl).trans ((runQ_V rfl).trans (by kernel_rfl))
def f34_ac : AC :=
 (.seq (rg [oo 1 (.box false 1 (.t 0)),
  oo 2 (.alloc 2 (.agg [(.int .i64 0), (.int .i64 0)]))])
 (.seq (rg [oo 3 (.alloc 3 (.agg [(.int .i64 0), (.int .i64 0)]))])
 (.seq (rg [oo 4 (.faddr 0 0 (.t 1)),
  oo 5 (.load false 1 (.t 4)),
  oo 6 (.faddr 0 0 (.t 3)),
  ⟨none, .store 1 (.t 6) (.t 5), none⟩])
 (.seq (rg [oo 7 (.faddr 1 1 (.t 1)),
  oo 8 (.load false 1 (.t 7)),
  oo 9 (.faddr 1 1 (.t 3)),
  ⟨none, .store 1 (.t 9) (.t 8), none⟩])
 (.seq (rg [oo 10 (.load true 2 (.t 3)),
  ⟨none, .store 2 (.t 2) (.t 10), none⟩])
 .ret)))))
structure G_f34 (E : Env) : Prop where
  is : Is E 29 1 f34_ac [(2, some (true, 2))]
theorem f34_E {E : Env} (h : G_f34 E) (a0 : U) : E 29 [a0] =
 U.noTup a0 fun x1 => U.asAgg x1 fun us2 => if 0 = sizes (us2.take 0) then (us2[0]?).bind fun e3 => U.asVar false 1 e3 fun e4 => if storable (.val e4) = true ∧ e4.size = 1 then U.asAgg x1 fun us5 => if 1 = sizes (us5.take 1) then (us5[1]?).bind fun e6 => U.asVar false 1 e6 fun e7 => if storable (.val e7) = true ∧ e7.size = 1 then if 1 = sizes [e4] then U.asVar true 2 (.agg [e4, e7]) fun e8 => if storable (.val e8) = true ∧ e8.size = 2 then U.asVar true 2 e8 fun e9 => some e9 else none else none else none else none else none else none := (h.is _ rfl).trans ((runQ_V rfl).trans (by kernel_rfl))
def f35_b0 : AC :=
 (.seq (.seq (rg [oo 8 (.mv (.t 4)),
  oo 9 (.mv (.t 0)),
  oo 10 (.len false (.t 9)),
  oo 11 (.bin .lss (.t 8) (.t 10))])
 (.cond (.t 11) .skip (.exit 0)))
 (.seq (.block 1 (rg [oo 14 (.mv (.t 3)),
  oo 15 (.mv (.t 4)),
  oo 16 (.mv (.t 0)),
  oo 17 (.mv (.t 4)),
  oo 18 (.iaddr 2 (.t 16) (.t 17)),
  oo 19 (.load true 2 (.t 18)),
  oo 20 (.call false 29 [(.t 19)]),
  oo 21 (.iaddr 2 (.t 14) (.t 15)),
  ⟨none, .store 2 (.t 21) (.t 20), none⟩]))
 (rg [oo 12 (.mv (.t 4)),
  oo 13 (.bin .add (.t 12) (ci 1)),
  oo 4 (.mv (.t 13))])))
def f35_r0 : AC :=
 (.seq (rg [oo 22 (.mv (.t 3)),
  oo 2 (.mv (.t 22))])
 .ret)
def f35_ac : AC :=
 (.seq (rg [oo 2 (.mv (.c (.nsl 2)))])
 (.seq (rg [oo 5 (.mv (.t 0)),
  oo 6 (.len false (.t 5)),
  oo 7 (.mkslice 7 2 16 (.agg [(.int .i64 0), (.int .i64 0)]) (.t 6) (.t 6)),
  oo 3 (.mv (.t 7))])
 (.seq (.seq (rg [oo 4 (.mv (ci 0))])
 (.block 0 (.loop ⟨[0, 4], [(3, 2, false)], []⟩ f35_b0)))
 f35_r0)))
noncomputable def f35_l0 (E : Env) (x0 : U) (x4 : U) (c3 : List U) : Option U := loopK (roundOf E ⟨[0, 4], [(3, 2, false)], []⟩ f35_b0 (blockK 0 (seqK (fun s => exec E f35_r0 s (finish [(2, none)])) (finish [(2, none)])))) ([.val x0, .val x4], [.vir (.asl 2 c3)])
theorem f35_l0_eq (E : Env) (x0 : U) (x4 : U) (c3 : List U) : f35_l0 E x0 x4 c3 =
 (U.lenOf false x0).bind fun n2 => (U.bin .lss x4 (.int .i64 (n2 : Int))).bind fun t3 => U.asBool t3
 (U.asInt x4 fun n4 => U.elemAt 2 x0 n4 fun e5 => U.asVar true 2 e5 fun e6 => (E 29 [e6]).bind fun t7 => U.asInt x4 fun n8 => if 2 = 2 ∧ 0 ≤ n8 ∧ n8 < ((c3).length : Int) then if storable (.val t7) = true ∧ t7.size = 2 then (c3[(n8 : Int).toNat]?).bind fun e9 => if e9.size = 2 then (U.bin .add x4 (.int .i64 1)).bind fun t10 => f35_l0 E x0 t10 (c3.set (n8 : Int).toNat t7) else none else none else none)
 (some (.sl 2 c3)) :=
 (loop_eq E _ _ _ _).trans (by kernel_rfl)
structure G_f35 (E : Env) : Prop where
  is : Is E 28 1 f35_ac [(2, none)]
  c_f34 : G_f34 E
theorem f35_E {E : Env} (h : G_f35 E) (a0 : U) : E 28 [a0] =
 (U.lenOf false a0).bind fun n1 => if 0 ≤ (n1 : Int) ∧ (n1 : Int) ≤ (n1 : Int) ∧ (n1 : Int) * 16 ≤ 140737488355328 ∧ ((.agg [(.int .i64 0), (.int .i64 0)]) : U).size = 2 then f35_l0 E a0 (.int .i64 0) (List.replicate ((n1 : Int) : Int).toNat (.agg [(.int .i64 0), (.int .i64 0)])) else none := (h.is _ rfl).trans ((runQ_V rfl).trans (by kernel_rfl))
def f40_ac : AC :=
 (.seq (rg [oo 1 (.box false 1 (.t 0)),
  oo 2 (.alloc 2 (.agg [(.int .i64 0), (.int .i64 0)]))])
 (.seq (rg [oo 3 (.alloc 3 (.agg [(.int .i64 0), (.int .i64 0)]))])
 (.seq (rg [oo 4 (.faddr 0 0 (.t 1)),
  oo 5 (.load false 1 (.t 4)),
  oo 6 (.faddr 0 0 (.t 3)),
  ⟨none, .store 1 (.t 6) (.t 5), none⟩])
 (.seq (rg [oo 7 (.faddr 1 1 (.t 1)),
  oo 8 (.load false 1 (.t 7)),
  oo 9 (.faddr 1 1 (.t 3)),
  ⟨none, .store 1 (.t 9) (.t 8), none⟩])
 (.seq (rg [oo 10 (.load true 2 (.t 3)),
  ⟨none, .store 2 (.t 2) (.t 10), none⟩])
 .ret)))))
structure G_f40 (E : Env) : Prop where
  is : Is E 30 1 f40_ac [(2, some (true, 2))]
theorem f40_E {E : Env} (h : G_f40 E) (a0 : U) : E 30 [a0] =
 U.noTup a0 fun x1 => U.asAgg x1 fun us2 => if 0 = sizes (us2.take 0) then (us2[0]?).bind fun e3 => U.asVar false 1 e3 fun e4 => if storable (.val e4) = true ∧ e4.size = 1 then U.asAgg x1 fun us5 => if 1 = sizes (us5.take 1) then (us5[1]?).bind fun e6 => U.asVar false 1 e6 fun e7 => if storable (.val e7) = true ∧ e7.size = 1 then if 1 = sizes [e4] then U.asVar true 2 (.agg [e4, e7]) fun e8 => if storable (.val e8) = true ∧ e8.size = 2 then U.asVar true 2 e8 fun e9 => some e9 else none else none else none else none else none else none := (h.is _ rfl).trans ((runQ_V rfl).trans (by kernel_rfl))
def f41_b0 : AC :=
 (.seq (.seq (rg [oo 8 (.mv (.t 4)),
  oo 9 (.mv (.t 0)),
  oo 10 (.len false (.t 9)),
  oo 11 (.bin .lss (.t 8) (.t 10))])
 (.cond (.t 11) .skip (.exit 0)))
 (.seq (.block 1 (rg [oo 14 (.mv (.t 3)),
  oo 15 (.mv (.t 4)),
  oo 16 (.mv (.t 0)),
  oo 17 (.mv (.t 4)),
  oo 18 (.iaddr 2 (.t 16) (.t 17)),
  oo 19 (.load true 2 (.t 18)),
  oo 20 (.call false 30 [(.t 19)]),
  oo 21 (.iaddr 2 (.t 14) (.t 15)),
  ⟨none, .store 2 (.t 21) (.t 20), none⟩]))
 (rg [oo 12 (.mv (.t 4)),
  oo 13 (.bin .add (.t 12) (ci 1)),
  oo 4 (.mv (.t 13))])))
def f41_r0 : AC :=
 (.seq (rg [oo 22 (.mv (.t 3)),
  oo 2 (.mv (.t 22))])
 .ret)
def f41_ac : AC :=
 (.seq (rg [oo 2 (.mv (.c (.nsl 2)))])
 (.seq (rg [oo 5 (.mv (.t 0)),
  oo 6 (.len false (.t 5)),
  oo 7 (.mkslice 7 2 16 (.agg [(.int .i64 0), (.int .i64 0)]) (.t 6) (.t 6)),
  oo 3 (.mv (.t 7))])
 (.seq (.seq (rg [oo 4 (.mv (ci 0))])
 (.block 0 (.loop ⟨[0, 4], [(3, 2, false)], []⟩ f41_b0)))
 f41_r0)))
noncomputable def f41_l0 (E : Env) (x0 : U) (x4 : U) (c3 : List U) : Option U := loopK (roundOf E ⟨[0, 4], [(3, 2, false)], []⟩ f41_b0 (blockK 0 (seqK (fun s => exec E f41_r0 s (finish [(2, none)])) (finish [(2, none)])))) ([.val x0, .val x4], [.vir (.asl 2 c3)])
theorem f41_l0_eq (E : Env) (x0 : U) (x4 : U) (c3 : List U) : f41_l0 E x0 x4 c3 =
 (U.lenOf false x0).bind fun n2 => (U.bin .lss x4 (.int .i64 (n2 : Int))).bind fun t3 => U.asBool t3
 (U.asInt x4 fun n4 => U.elemAt 2 x0 n4 fun e5 => U.asVar true 2 e5 fun e6 => (E 30 [e6]).bind fun t7 => U.asInt x4 fun n8 => if 2 = 2 ∧ 0 ≤ n8 ∧ n8 < ((c3).length : Int) then if storable (.val t7) = true ∧ t7.size = 2 then (c3[(n8 : Int).toNat]?).bind fun e9 => if e9.size = 2 then (U.bin .add x4 (.int .i64 1)).bind fun t10 => f41_l0 E x0 t10 (c3.set (n8 : Int).toNat t7) else none else none else none)
 (some (.sl 2 c3)) :=
 (loop_eq E _ _ _ _).trans (by kernel_rfl)
structure G_f41 (E : Env) : Prop where
  is : Is E 27 1 f41_ac [(2, none)]
  c_f40 : G_f40 E
theorem f41_E {E : Env} (h : G_f41 E) (a0 : U) : E 27 [a0] =
 (U.lenOf false a0).bind fun n1 => if 0 ≤ (n1 : Int) ∧ (n1 : Int) ≤ (n1 : Int) ∧ (n1 : Int) * 16 ≤ 140737488355328 ∧ ((.agg [(.int .i64 0), (.int .i64 0)]) : U).size = 2 then f41_l0 E a0 (.int .i64 0) (List.replicate ((n1 : Int) : Int).toNat (.agg [(.int .i64 0), (.int .i64 0)])) else none := (h.is _ rfl).trans ((runQ_V rfl).trans (by kernel_rfl))
def f37_ac : AC :=
 (.seq (rg [oo 1 (.box false 1 (.t 0)),
  oo 2 (.alloc 2 (.agg [(.int .i64 0), (.int .i64 0), (.int .i64 0), (.int .i64 0), (.int .i64 0), (.int .i64 0), (.int .i64 0), (.nsl 2), (.nsl 2)]))])
 (.seq (rg [oo 3 (.alloc 3 (.agg [(.int .i64 0), (.int .i64 0), (.int .i64 0), (.int .i64 0), (.int .i64 0), (.int .i64 0), (.int .i64 0), (.nsl 2), (.nsl 2)]))])
 (.seq (rg [oo 4 (.faddr 0 0 (.t 1)),
  oo 5 (.load false 1 (.t 4)),
  oo 6 (.faddr 0 0 (.t 3)),
  ⟨none, .store 1 (.t 6) (.t 5), none⟩])
 (.seq (rg [oo 7 (.faddr 1 1 (.t 1)),
  oo 8 (.load false 1 (.t 7)),
  oo 9 (.faddr 1 1 (.t 3)),
  ⟨none, .store 1 (.t 9) (.t 8), none⟩])
 (.seq (rg [oo 10 (.faddr 2 2 (.t 1)),
  oo 11 (.load false 1 (.t 10)),
  oo 12 (.faddr 2 2 (.t 3)),
  ⟨none, .store 1 (.t 12) (.t 11), none⟩])
 (.seq (rg [oo 13 (.faddr 3 3 (.t 1)),
  oo 14 (.load false 1 (.t 13)),
  oo 15 (.faddr 3 3 (.t 3)),
  ⟨none, .store 1 (.t 15) (.t 14), none⟩])
 (.seq (rg [oo 16 (.faddr 4 4 (.t 1)),
  oo 17 (.load false 1 (.t 16)),
  oo 18 (.faddr 4 4 (.t 3)),
  ⟨none, .store 1 (.t 18) (.t 17), none⟩])
 (.seq (rg [oo 19 (.faddr 5 5 (.t 1)),
  oo 20 (.load false 1 (.t 19)),
  oo 21 (.faddr 5 5 (.t 3)),
  ⟨none, .store 1 (.t 21) (.t 20), none⟩])
 (.seq (rg [oo 22 (.faddr 6 6 (.t 1)),
  oo 23 (.load false 1 (.t 22)),
  oo 24 (.faddr 6 6 (.t 3)),
  ⟨none, .store 1 (.t 24) (.t 23), none⟩])
 (.seq (rg [oo 25 (.faddr 7 7 (.t 1)),
  oo 26 (.load false 1 (.t 25)),
  oo 27 (.call false 28 [(.t 26)]),
  oo 28 (.faddr 7 7 (.t 3)),
  ⟨none, .store 1 (.t 28) (.t 27), none⟩])
 (.seq (rg [oo 29 (.faddr 8 8 (.t 1)),
  oo 30 (.load false 1 (.t 29)),
  oo 31 (.call false 27 [(.t 30)]),
  oo 32 (.faddr 8 8 (.t 3)),
  ⟨none, .store 1 (.t 32) (.t 31), none⟩])
 (.seq (rg [oo 33 (.load true 9 (.t 3)),
  ⟨none, .store 9 (.t 2) (.t 33), none⟩])
 .ret))))))))))))
structure G_f37 (E : Env) : Prop where
  is : Is E 145 1 f37_ac [(2, some (true, 9))]
  c_f35 : G_f35 E
  c_f41 : G_f41 E
theorem f37_E {E : Env} (h : G_f37 E) (a0 : U) : E 145 [a0] =
 U.noTup a0 fun x1 => U.asAgg x1 fun us2 => if 0 = sizes (us2.take 0) then (us2[0]?).bind fun e3 => U.asVar false 1 e3 fun e4 => if storable (.val e4) = true ∧ e4.size = 1 then U.asAgg x1 fun us5 => if 1 = sizes (us5.take 1) then (us5[1]?).bind fun e6 => U.asVar false 1 e6 fun e7 => if storable (.val e7) = true ∧ e7.size = 1 then if 1 = sizes [e4] then U.asAgg x1 fun us8 => if 2 = sizes (us8.take 2) then (us8[2]?).bind fun e9 => U.asVar false 1 e9 fun e10 => if storable (.val e10) = true ∧ e10.size = 1 then if 2 = sizes [e4, e7] then U.asAgg x1 fun us11 => if 3 = sizes (us11.take 3) then (us11[3]?).bind fun e12 => U.asVar false 1 e12 fun e13 => if storable (.val e13) = true ∧ e13.size = 1 then if 3 = sizes [e4, e7, e10] then U.asAgg x1 fun us14 => if 4 = sizes (us14.take 4) then (us14[4]?).bind fun e15 => U.asVar false 1 e15 fun e16 => if storable (.val e16) = true ∧ e16.size = 1 then if 4 = sizes [e4, e7, e10, e13] then U.asAgg x1 fun us17 => if 5 = sizes (us17.take 5) then (us17[5]?).bind fun e18 => U.asVar false 1 e18 fun e19 => if storable (.val e19) = true ∧ e19.size = 1 then if 5 = sizes [e4, e7, e10, e13, e16] then U.asAgg x1 fun us20 => if 6 = sizes (us20.take 6) then (us20[6]?).bind fun e21 => U.asVar false 1 e21 fun e22 => if storable (.val e22) = true ∧ e22.size = 1 then if 6 = sizes [e4, e7, e10, e13, e16, e19] then U.asAgg x1 fun us23 => if 7 = sizes (us23.take 7) then (us23[7]?).bind fun e24 => U.asVar false 1 e24 fun e25 => (E 28 [e25]).bind fun t26 => if storable (.val t26) = true ∧ t26.size = 1 then if 7 = sizes [e4, e7, e10, e13, e16, e19, e22] then U.asAgg x1 fun us27 => if 8 = sizes (us27.take 8) then (us27[8]?).bind fun e28 => U.asVar false 1 e28 fun e29 => (E 27 [e29]).bind fun t30 => if storable (.val t30) = true ∧ t30.size = 1 then if 8 = sizes [e4, e7, e10, e13, e16, e19, e22, t26] then U.asVar true 9 (.agg [e4, e7, e10, e13, e16, e19, e22, t26, t30]) fun e31 => if storable (.val e31) = true ∧ e31.size = 9 then U.asVar true 9 e31 fun e32 => some e32 else none else none else none else none else none else none else none else none else none else none else none else none else none else none else none else none else none else none else none else none else none else none else none else none else none else none else none := (h.is _ rfl).trans ((runQ_V rfl).trans (by kernel_rfl))
def f39_ac : AC :=
 (.seq (rg [oo 1 (.box false 1 (.t 0)),
  oo 2 (.alloc 2 (.agg [(.int .i64 0), (.int .i64 0), (.int .i64 0), (.int .i64 0), (.int .i64 0)]))])
 (.seq (rg [oo 3 (.alloc 3 (.agg [(.int .i64 0), (.int .i64 0), (.int .i64 0), (.int .i64 0), (.int .i64 0)]))])
 (.seq (rg [oo 4 (.faddr 0 0 (.t 1)),
  oo 5 (.load false 1 (.t 4)),
  oo 6 (.faddr 0 0 (.t 3)),
  ⟨none, .store 1 (.t 6) (.t 5), none⟩])
 (.seq (rg [oo 7 (.faddr 1 1 (.t 1)),
  oo 8 (.load false 1 (.t 7)),
  oo 9 (.faddr 1 1 (.t 3)),
  ⟨none, .store 1 (.t 9) (.t 8), none⟩])
 (.seq (rg [oo 10 (.faddr 2 2 (.t 1)),
  oo 11 (.load false 1 (.t 10)),
  oo 12 (.faddr 2 2 (.t 3)),
  ⟨none, .store 1 (.t 12) (.t 11), none⟩])
 (.seq (rg [oo 13 (.faddr 3 3 (.t 1)),
  oo 14 (.load false 1 (.t 13)),
  oo 15 (.faddr 3 3 (.t 3)),
  ⟨none, .store 1 (.t 15) (.t 14), none⟩])
 (.seq (rg [oo 16 (.faddr 4 4 (.t 1)),
  oo 17 (.load false 1 (.t 16)),
  oo 18 (.faddr 4 4 (.t 3)),
  ⟨none, .store 1 (.t 18) (.t 17), none⟩])
 (.seq (rg [oo 19 (.load true 5 (.t 3)),
  ⟨none, .store 5 (.t 2) (.t 19), none⟩])
 .ret))))))))
structure G_f39 (E : Env) : Prop where
  is : Is E 109 1 f39_ac [(2, some (true, 5))]
theorem f39_E {E : Env} (h : G_f39 E) (a0 : U) : E 109 [a0] =
 U.noTup a0 fun x1 => U.asAgg x1 fun us2 => if 0 = sizes (us2.take 0) then (us2[0]?).bind fun e3 => U.asVar false 1 e3 fun e4 => if storable (.val e4) = true ∧ e4.size = 1 then U.asAgg x1 fun us5 => if 1 = sizes (us5.take 1) then (us5[1]?).bind fun e6 => U.asVar false 1 e6 fun e7 => if storable (.val e7) = true ∧ e7.size = 1 then if 1 = sizes [e4] then U.asAgg x1 fun us8 => if 2 = sizes (us8.take 2) then (us8[2]?).bind fun e9 => U.asVar false 1 e9 fun e10 => if storable (.val e10) = true ∧ e10.size = 1 then if 2 = sizes [e4, e7] then U.asAgg x1 fun us11 => if 3 = sizes (us11.take 3) then (us11[3]?).bind fun e12 => U.asVar false 1 e12 fun e13 => if storable (.val e13) = true ∧ e13.size = 1 then if 3 = sizes [e4, e7, e10] then U.asAgg x1 fun us14 => if 4 = sizes (us14.take 4) then (us14[4]?).bind fun e15 => U.asVar false 1 e15 fun e16 => if storable (.val e16) = true ∧ e16.size = 1 then if 4 = sizes [e4, e7, e10, e13] then U.asVar true 5 (.agg [e4, e7, e10, e13, e16]) fun e17 => if storable (.val e17) = true ∧ e17.size = 5 then U.asVar true 5 e17 fun e18 => some e18 else none else none else none else none else none else none else none else none else none else none else none else none else none else none else none := (h.is _ rfl).trans ((runQ_V rfl).trans (by kernel_rfl))
def f44_ac : AC :=
 (.seq (rg [oo 2 (.mv (.c (.nsl 2)))])
 (.seq (.seq (rg [oo 3 (.mv (.t 0)),
  oo 4 (.eqnil false (.t 3))])
 (.cond (.t 4) (.seq (rg [oo 2 (.mv (.c (.nsl 2)))])
 .ret) .skip))
 (.seq (rg [oo 5 (.bslice 1 5 2 0 (.agg [(.int .i64 0), (.int .i64 0)]) []),
  oo 6 (.mv (.t 0)),
  oo 7 (.append false 7 2 16 (.t 5) (.t 6)),
  oo 2 (.mv (.t 7))])
 .ret)))
theorem f44_eq (E : Env) (a0 : U) : run E f44_ac [(2, none)] [a0] =
 (U.isNil a0).bind fun q1 => U.asBool (.bool q1)
 (some (.nsl 2))
 ((U.elems 2 a0).bind fun ys2 => if 2 = 2 ∧ 2 = 2 ∧ ((([] : List U)).length + (ys2 : List U).length) * 16 ≤ 140737488355328 then some (.sl 2 (([] : List U) ++ ys2)) else none) := by kernel_rfl
theorem f44_F_eq (E : Env) (a0 : U) : exec E f44_ac (start [a0]) (finishF [(2, none)]) =
 (U.isNil a0).bind fun q1 => U.asBool (.bool q1)
 (some (.sl 2 []))
 ((U.elems 2 a0).bind fun ys2 => if 2 = 2 ∧ 2 = 2 ∧ ((([] : List U)).length + (ys2 : List U).length) * 16 ≤ 140737488355328 then if U.flat.flats (([] : List U) ++ ys2) = true then some (.sl 2 (([] : List U) ++ ys2)) else none else none) := by kernel_rfl
theorem f44_ok : CloneOK f44_ac 2 16 where
  v := fun E u us h => by
    rw [f44_eq]
    simp [U.isNil, U.elems, h]
  f := fun E u us h hf => by
    rw [f44_F_eq]
    simp [U.isNil, U.elems, h, hf]
  vn := fun E => by kernel_rfl
  fn := fun E => by kernel_rfl
  vt := fun E => by kernel_rfl
  vf := fun E => by kernel_rfl
  ft := fun E => by kernel_rfl
  ff := fun E => by kernel_rfl
def f45_ac : AC :=
 (.seq (rg [oo 2 (.mv (.c (.nsl 2)))])
 (.seq (.seq (rg [oo 3 (.mv (.t 0)),
  oo 4 (.eqnil false (.t 3))])
 (.cond (.t 4) (.seq (rg [oo 2 (.mv (.c (.nsl 2)))])
 .ret) .skip))
 (.seq (rg [oo 5 (.bslice 1 5 2 0 (.agg [(.int .i64 0), (.int .i64 0)]) []),
  oo 6 (.mv (.t 0)),
  oo 7 (.append false 7 2 16 (.t 5) (.t 6)),
  oo 2 (.mv (.t 7))])
 .ret)))
theorem f45_eq (E : Env) (a0 : U) : run E f45_ac [(2, none)] [a0] =
 (U.isNil a0).bind fun q1 => U.asBool (.bool q1)
 (some (.nsl 2))
 ((U.elems 2 a0).bind fun ys2 => if 2 = 2 ∧ 2 = 2 ∧ ((([] : List U)).length + (ys2 : List U).length) * 16 ≤ 140737488355328 then some (.sl 2 (([] : List U) ++ ys2)) else none) := by kernel_rfl
theorem f45_F_eq (E : Env) (a0 : U) : exec E f45_ac (start [a0]) (finishF [(2, none)]) =
 (U.isNil a0).bind fun q1 => U.asBool (.bool q1)
 (some (.sl 2 []))
 ((U.elems 2 a0).bind fun ys2 => if 2 = 2 ∧ 2 = 2 ∧ ((([] : List U)).length + (ys2 : List U).length) * 16 ≤ 140737488355328 then if U.flat.flats (([] : List U) ++ ys2) = true then some (.sl 2 (([] : List U) ++ ys2)) else none else none) := by kernel_rfl
theorem f45_ok : CloneOK f45_ac 2 16 where
  v := fun E u us h => by
    rw [f45_eq]
    simp [U.isNil, U.elems, h]
  f := fun E u us h hf => by
    rw [f45_F_eq]
    simp [U.isNil, U.elems, h, hf]
  vn := fun E => by kernel_rfl
  fn := fun E => by kernel_rfl
  vt := fun E => by kernel_rfl
  vf := fun E => by kernel_rfl
  ft := fun E => by kernel_rfl
  ff := fun E => by kernel_rfl
def f8_ac : AC :=
 (.seq (rg [oo 1 (.box false 1 (.t 0)),
  oo 2 (.alloc 2 (.agg [(.int .i64 0), (.int .i64 0), (.int .i64 0), (.int .i64 0), (.int .i64 0), (.int .i64 0), (.int .i64 0), (.nsl 2), (.nsl 2)]))])
 (.seq (.region 7 [oo 3 (.faddr 7 7 (.t 1)),
  oo 4 (.load false 1 (.t 3)),
  oo 5 (.call false 224 [(.t 4)]),
  oo 6 (.faddr 8 8 (.t 1)),
  oo 7 (.load false 1 (.t 6)),
  oo 8 (.call false 225 [(.t 7)]),
  oo 9 (.faddr 7 7 (.t 1)),
  ⟨none, .store 1 (.t 9) (.t 5), none⟩,
  oo 10 (.faddr 8 8 (.t 1)),
  ⟨none, .store 1 (.t 10) (.t 8), none⟩])
 (.seq (rg [oo 11 (.load true 9 (.t 1)),
  ⟨none, .store 9 (.t 2) (.t 11), none⟩])
 .ret)))
structure G_f8 (E : Env) : Prop where
  is : Is E 222 1 f8_ac [(2, some (true, 9))]
  c_f44 : IsClone E 224 2 16
  c_f45 : IsClone E 225 2 16
theorem f8_E {E : Env} (h : G_f8 E) (a0 : U) : E 222 [a0] =
 U.noTup a0 fun x1 => U.asAgg x1 fun us2 => if 7 = sizes (us2.take 7) then (us2[7]?).bind fun e3 => U.asVar false 1 e3 fun e4 => (E 224 [e4]).bind fun t5 => U.asAgg x1 fun us6 => if 8 = sizes (us6.take 8) then (us6[8]?).bind fun e7 => U.asVar false 1 e7 fun e8 => (E 225 [e8]).bind fun t9 => if storable (.val t5) = true ∧ t5.size = 1 then U.asAgg x1 fun us10 => if 7 = sizes (us10.take 7) then (us10[7]?).bind fun e11 => if e11.size = 1 then if storable (.val t9) = true ∧ t9.size = 1 then U.asAgg (.agg (us10.set 7 t5)) fun us12 => if 8 = sizes (us12.take 8) then (us12[8]?).bind fun e13 => if e13.size = 1 then U.asVar true 9 (.agg (us12.set 8 t9)) fun e14 => if storable (.val e14) = true ∧ e14.size = 9 then U.asVar true 9 e14 fun e15 => some e15 else none else none else none else none else none else none else none else none else none := (h.is _ rfl).trans ((runQ_V rfl).trans (by kernel_rfl))
def f15_ac : AC :=
 (.seq (rg [oo 6 (.mv (.c (.bool false)))])
 (.seq (rg [oo 7 (.mv (.t 1)),
  oo 8 (.mv (.t 0)),
  oo 9 (.bin .leq (.t 7) (.t 8)),
  oo 10 (.mv (.t 9)),
  ⟨some 11, .mv (.t 0), some (10, true)⟩,
  ⟨some 12, .mv (.t 2), some (10, true)⟩,
  ⟨some 13, .bin .leq (.t 11) (.t 12), some (10, true)⟩,
  oo 14 (.pick (.t 10) (.t 13) (.c (.bool false))),
  oo 6 (.mv (.t 14))])
 .ret))
structure G_f15 (E : Env) : Prop where
  is : Is E 10 3 f15_ac [(6, none)]
theorem f15_E {E : Env} (h : G_f15 E) (a0 a1 a2 : U) : E 10 [a0, a1, a2] =
 (U.bin .leq a1 a0).bind fun t1 => U.asBool t1
 ((U.bin .leq a0 a2).bind fun t2 => some t2)
 (some (.bool false)) := (h.is _ rfl).trans ((runQ_V rfl).trans (by kernel_rfl))
def f16_ac : AC :=
 (.seq (rg [oo 2 (.mv (.c (.bool false)))])
 (.seq (rg [oo 3 (.mv (.t 0)),
  oo 4 (.call false 10 [(.t 3), (ci 1), (ci 9)]),
  oo 2 (.mv (.t 4))])
 .ret))
structure G_f16 (E : Env) : Prop where
  is : Is E 9 1 f16_ac [(2, none)]
  c_f15 : G_f15 E
theorem f16_E {E : Env} (h : G_f16 E) (a0 : U) : E 9 [a0] =
 (E 10 [a0, (.int .i64 1), (.int .i64 9)]).bind fun t1 => some t1 := (h.is _ rfl).trans ((runQ_V rfl).trans (by kernel_rfl))
def f3_ac : AC :=
 (.seq (rg [oo 2 (.mv (.c (.bool false)))])
 (.seq (rg [oo 3 (.mv (.t 0)),
  oo 4 (.call false 10 [(.t 3), (ci 1), (ci 999)]),
  oo 2 (.mv (.t 4))])
 .ret))
structure G_f3 (E : Env) : Prop where
  is : Is E 72 1 f3_ac [(2, none)]
  c_f15 : G_f15 E
theorem f3_E {E : Env} (h : G_f3 E) (a0 : U) : E 72 [a0] =
 (E 10 [a0, (.int .i64 1), (.int .i64 999)]).bind fun t1 => some t1 := (h.is _ rfl).trans ((runQ_V rfl).trans (by kernel_rfl))
def f17_ac : AC :=
 (.seq (rg [oo 2 (.mv (.c (.bool false)))])
 (.seq (rg [oo 3 (.mv (.t 0)),
  oo 4 (.call false 10 [(.t 3), (ci 0), (ci 5)]),
  oo 2 (.mv (.t 4))])
 .ret))
structure G_f17 (E : Env) : Prop where
  is : Is E 11 1 f17_ac [(2, none)]
  c_f15 : G_f15 E
theorem f17_E {E : Env} (h : G_f17 E) (a0 : U) : E 11 [a0] =
 (E 10 [a0, (.int .i64 0), (.int .i64 5)]).bind fun t1 => some t1 := (h.is _ rfl).trans ((runQ_V rfl).trans (by kernel_rfl))
def f1_b0 : AC :=
 (.seq (rg [oo 9 (.bin .lss (.t 8) (.t 7))])
 (.seq (.cond (.t 9) .skip (.exit 0))
 (.seq (.block 1 (.seq (rg [oo 10 (.iaddr 1 (.t 6) (.t 8)),
  oo 11 (.load false 1 (.t 10)),
  oo 5 (.mv (.t 11))])
 (.seq (rg [oo 12 (.mv (.t 5)),
  oo 13 (.mv (.t 3)),
  oo 14 (.bin .neq (.t 12) (.t 13))])
 (.cond (.t 14) (.seq (rg [oo 15 (.mv (.t 5)),
  oo 2 (.mv (.t 15))])
 .ret) .skip))))
 (rg [oo 16 (.bin .add (.t 8) (ci 1)),
  oo 8 (.mv (.t 16))]))))
def f1_r0 : AC :=
 (.seq (rg [oo 17 (.mv (.t 3)),
  oo 2 (.mv (.t 17))])
 .ret)
def f1_ac : AC :=
 (.seq (rg [oo 2 (.mv (ci 0))])
 (.seq (rg [oo 3 (.mv (ci 0))])
 (.seq (.seq (rg [oo 6 (.mv (.t 0)),
  oo 7 (.len false (.t 6)),
  oo 8 (.mv (ci 0))])
 (.block 0 (.loop ⟨[3, 6, 7, 8], [], []⟩ f1_b0)))
 f1_r0)))
noncomputable def f1_l0 (E : Env) (x3 : U) (x6 : U) (x7 : U) (x8 : U) : Option U := loopK (roundOf E ⟨[3, 6, 7, 8], [], []⟩ f1_b0 (blockK 0 (seqK (fun s => exec E f1_r0 s (finish [(2, none)])) (finish [(2, none)])))) ([.val x3, .val x6, .val x7, .val x8], [])
theorem f1_l0_eq (E : Env) (x3 : U) (x6 : U) (x7 : U) (x8 : U) : f1_l0 E x3 x6 x7 x8 =
 (U.bin .lss x8 x7).bind fun t2 => U.asBool t2
 (U.asInt x8 fun n3 => U.elemAt 1 x6 n3 fun e4 => U.asVar false 1 e4 fun e5 => (U.bin .neq e5 x3).bind fun t6 => U.asBool t6
 (some e5)
 ((U.bin .add x8 (.int .i64 1)).bind fun t7 => f1_l0 E x3 x6 x7 t7))
 (some x3) :=
 (loop_eq E _ _ _ _).trans (by kernel_rfl)
structure G_f1 (E : Env) : Prop where
  is : Is E 14 1 f1_ac [(2, none)]
theorem f1_E {E : Env} (h : G_f1 E) (a0 : U) : E 14 [a0] =
 (U.lenOf false a0).bind fun n1 => f1_l0 E (.int .i64 0) a0 (.int .i64 (n1 : Int)) (.int .i64 0) := (h.is _ rfl).trans ((runQ_V rfl).trans (by kernel_rfl))
def f2_ac : AC :=
 (.seq (rg [oo 2 (.mv (.c (.bool false)))])
 (.seq (rg [oo 3 (.mv (.t 0)),
  oo 4 (.mv (.t 0)),
  oo 5 (.bin .neq (.t 3) (.t 4)),
  oo 2 (.mv (.t 5))])
 .ret))
structure G_f2 (E : Env) : Prop where
  is : Is E 15 1 f2_ac [(2, none)]
theorem f2_E {E : Env} (h : G_f2 E) (a0 : U) : E 15 [a0] =
 (U.bin .neq a0 a0).bind fun t1 => some t1 := (h.is _ rfl).trans ((runQ_V rfl).trans (by kernel_rfl))
def f0_ac : AC :=
 (.seq (rg [oo 4 (.mv (ci 0))])
 (.seq (rg [oo 7 (.mv (.t 0)),
  oo 8 (.call false 15 [(.t 7)]),
  oo 5 (.mv (.t 8))])
 (.seq (rg [oo 9 (.mv (.t 1)),
  oo 10 (.call false 15 [(.t 9)]),
  oo 6 (.mv (.t 10))])
 (.seq (.seq (rg [oo 11 (.mv (.t 5))])
 (.cond (.t 11) (.seq (.seq (rg [oo 12 (.mv (.t 6))])
 (.cond (.t 12) (.seq (rg [oo 4 (.mv (ci 0))])
 .ret) .skip))
 (.seq (rg [oo 4 (.mv (ci (-1)))])
 .ret)) .skip))
 (.seq (.seq (rg [oo 13 (.mv (.t 6))])
 (.cond (.t 13) (.seq (rg [oo 4 (.mv (ci 1))])
 .ret) .skip))
 (.seq (.seq (rg [oo 14 (.mv (.t 0)),
  oo 15 (.mv (.t 1)),
  oo 16 (.bin .lss (.t 14) (.t 15))])
 (.cond (.t 16) (.seq (rg [oo 4 (.mv (ci (-1)))])
 .ret) .skip))
 (.seq (.seq (rg [oo 17 (.mv (.t 0)),
  oo 18 (.mv (.t 1)),
  oo 19 (.bin .gtr (.t 17) (.t 18))])
 (.cond (.t 19) (.seq (rg [oo 4 (.mv (ci 1))])
 .ret) .skip))
 (.seq (rg [oo 4 (.mv (ci 0))])
 .ret))))))))
structure G_f0 (E : Env) : Prop where
  is : Is E 13 2 f0_ac [(4, none)]
  c_f2 : G_f2 E
theorem f0_E {E : Env} (h : G_f0 E) (a0 a1 : U) : E 13 [a0, a1] =
 (E 15 [a0]).bind fun t1 => (E 15 [a1]).bind fun t2 => U.asBool t1
 (U.asBool t2
 (some (.int .i64 0))
 (some (.int .i64 (-1))))
 (U.asBool t2
 (some (.int .i64 1))
 ((U.bin .lss a0 a1).bind fun t3 => U.asBool t3
 (some (.int .i64 (-1)))
 ((U.bin .gtr a0 a1).bind fun t4 => U.asBool t4
 (some (.int .i64 1))
 (some (.int .i64 0))))) := (h.is _ rfl).trans ((runQ_V rfl).trans (by kernel_rfl))
def f14_ac : AC :=
 (.seq (rg [oo 2 (.box false 2 (.t 0)),
  oo 3 (.box false 3 (.t 1)),
  oo 4 (.mv (ci 0))])
 (.seq (.region 13 [oo 5 (.faddr 0 0 (.t 2)),
  oo 6 (.load false 1 (.t 5)),
  oo 7 (.faddr 0 0 (.t 3)),
  oo 8 (.load false 1 (.t 7)),
  oo 9 (.call false 13 [(.t 6), (.t 8)]),
  oo 10 (.faddr 1 1 (.t 2)),
  oo 11 (.load false 1 (.t 10)),
  oo 12 (.faddr 1 1 (.t 3)),
  oo 13 (.load false 1 (.t 12)),
  oo 14 (.call false 13 [(.t 11), (.t 13)]),
  oo 15 (.bslice 0 15 1 2 (.int .i64 0) [(0, (.t 9)), (1, (.t 14))]),
  oo 16 (.call false 14 [(.t 15)]),
  oo 4 (.mv (.t 16))])
 .ret))
structure G_f14 (E : Env) : Prop where
  is : Is E 75 2 f14_ac [(4, none)]
  c_f1 : G_f1 E
  c_f0 : G_f0 E
theorem f14_E {E : Env} (h : G_f14 E) (a0 a1 : U) : E 75 [a0, a1] =
 U.noTup a0 fun x1 => U.noTup a1 fun x2 => U.asAgg x1 fun us3 => if 0 = sizes (us3.take 0) then (us3[0]?).bind fun e4 => U.asVar false 1 e4 fun e5 => U.asAgg x2 fun us6 => if 0 = sizes (us6.take 0) then (us6[0]?).bind fun e7 => U.asVar false 1 e7 fun e8 => (E 13 [e5, e8]).bind fun t9 => U.asAgg x1 fun us10 => if 1 = sizes (us10.take 1) then (us10[1]?).bind fun e11 => U.asVar false 1 e11 fun e12 => U.asAgg x2 fun us13 => if 1 = sizes (us13.take 1) then (us13[1]?).bind fun e14 => U.asVar false 1 e14 fun e15 => (E 13 [e12, e15]).bind fun t16 => if partable (.val t9) = true ∧ t9.size = 1 then if partable (.val t16) = true ∧ t16.size = 1 then (E 14 [(.sl 1 [t9, t16])]).bind fun t17 => some t17 else none else none else none else none else none else none := (h.is _ rfl).trans ((runQ_V rfl).trans (by kernel_rfl))
def f12_b0 : AC :=
 (.seq (rg [oo 8 (.bin .lss (.t 7) (.t 6))])
 (.seq (.cond (.t 8) .skip (.exit 0))
 (.seq (.block 1 (.seq (rg [oo 9 (.mv (.t 7)),
  oo 10 (.iaddr 2 (.t 5) (.t 7)),
  oo 11 (.load true 2 (.t 10)),
  oo 4 (.alloc 4 (.agg [(.int .i64 0), (.int .i64 0)])),
  oo 3 (.mv (.t 9)),
  ⟨none, .store 2 (.t 4) (.t 11), none⟩])
 (.seq (.region 24 [oo 12 (.faddr 0 0 (.t 4)),
  oo 13 (.load false 1 (.t 12)),
  oo 14 (.call false 11 [(.t 13)]),
  oo 15 (.un .not (.t 14)),
  oo 16 (.mv (.t 15)),
  ⟨some 17, .faddr 1 1 (.t 4), some (16, false)⟩,
  ⟨some 18, .load false 1 (.t 17), some (16, false)⟩,
  ⟨some 19, .call false 10 [(.t 18), (ci 0), (ci 999)], some (16, false)⟩,
  ⟨some 20, .un .not (.t 19), some (16, false)⟩,
  oo 21 (.pick (.t 16) (.c (.bool true)) (.t 20)),
  oo 22 (.mv (.t 21)),
  ⟨some 23, .mv (.t 3), some (22, false)⟩,
  ⟨some 24, .bin .gtr (.t 23) (ci 0), some (22, false)⟩,
  ⟨some 25, .mv (.t 24), some (22, false)⟩,
  ⟨some 26, .mv (.t 0), some (25, true)⟩,
  ⟨some 27, .mv (.t 3), some (25, true)⟩,
  ⟨some 28, .bin .sub (.t 27) (ci 1), some (25, true)⟩,
  ⟨some 29, .iaddr 2 (.t 26) (.t 28), some (25, true)⟩,
  ⟨some 30, .load true 2 (.t 29), some (25, true)⟩,
  ⟨some 31, .load true 2 (.t 4), some (25, true)⟩,
  ⟨some 32, .call false 75 [(.t 30), (.t 31)], some (25, true)⟩,
  ⟨some 33, .bin .geq (.t 32) (ci 0), some (25, true)⟩,
  ⟨some 34, .pick (.t 25) (.t 33) (.c (.bool false)), some (22, false)⟩,
  oo 35 (.pick (.t 22) (.c (.bool true)) (.t 34))])
 (.cond (.t 35) (.seq (rg [oo 2 (.mv (.c (.bool false)))])
 .ret) .skip))))
 (rg [oo 36 (.bin .add (.t 7) (ci 1)),
  oo 7 (.mv (.t 36))]))))
def f12_r0 : AC :=
 (.seq (rg [oo 37 (.mv (.t 0)),
  oo 38 (.len false (.t 37)),
  oo 39 (.bin .leq (.t 38) (ci 60)),
  oo 2 (.mv (.t 39))])
 .ret)
def f12_ac : AC :=
 (.seq (rg [oo 2 (.mv (.c (.bool false)))])
 (.seq (.seq (rg [oo 5 (.mv (.t 0)),
  oo 6 (.len false (.t 5)),
  oo 7 (.mv (ci 0))])
 (.block 0 (.loop ⟨[0, 5, 6, 7], [], []⟩ f12_b0)))
 f12_r0))
noncomputable def f12_l0 (E : Env) (x0 : U) (x5 : U) (x6 : U) (x7 : U) : Option U := loopK (roundOf E ⟨[0, 5, 6, 7], [], []⟩ f12_b0 (blockK 0 (seqK (fun s => exec E f12_r0 s (finish [(2, none)])) (finish [(2, none)])))) ([.val x0, .val x5, .val x6, .val x7], [])
theorem f12_l0_eq (E : Env) (x0 : U) (x5 : U) (x6 : U) (x7 : U) : f12_l0 E x0 x5 x6 x7 =
 (U.bin .lss x7 x6).bind fun t2 => U.asBool t2
 (U.asInt x7 fun n3 => U.elemAt 2 x5 n3 fun e4 => U.asVar true 2 e4 fun e5 => if storable (.val e5) = true ∧ e5.size = 2 then U.asAgg e5 fun us6 => if 0 = sizes (us6.take 0) then (us6[0]?).bind fun e7 => U.asVar false 1 e7 fun e8 => (E 11 [e8]).bind fun t9 => (U.un .not t9).bind fun t10 => U.asBool t10
 (some (.bool false))
 (U.asAgg e5 fun us11 => if 1 = sizes (us11.take 1) then (us11[1]?).bind fun e12 => U.asVar false 1 e12 fun e13 => (E 10 [e13, (.int .i64 0), (.int .i64 999)]).bind fun t14 => (U.un .not t14).bind fun t15 => U.asBool t15
 (some (.bool false))
 ((U.bin .gtr x7 (.int .i64 0)).bind fun t16 => U.asBool t16
 ((U.bin .sub x7 (.int .i64 1)).bind fun t17 => U.asInt t17 fun n18 => U.elemAt 2 x0 n18 fun e19 => U.asVar true 2 e19 fun e20 => U.asVar true 2 e5 fun e21 => (E 75 [e20, e21]).bind fun t22 => (U.bin .geq t22 (.int .i64 0)).bind fun t23 => U.asBool t23
 (some (.bool false))
 ((U.bin .add x7 (.int .i64 1)).bind fun t24 => f12_l0 E x0 x5 x6 t24))
 ((U.bin .add x7 (.int .i64 1)).bind fun t25 => f12_l0 E x0 x5 x6 t25)) else none) else none else none)
 ((U.lenOf false x0).bind fun n26 => (U.bin .leq (.int .i64 (n26 : Int)) (.int .i64 60)).bind fun t27 => some t27) :=
 (loop_eq E _ _ _ _).trans (by kernel_rfl)
structure G_f12 (E : Env) : Prop where
  is : Is E 73 1 f12_ac [(2, none)]
  c_f17 : G_f17 E
  c_f15 : G_f15 E
  c_f14 : G_f14 E
theorem f12_E {E : Env} (h : G_f12 E) (a0 : U) : E 73 [a0] =
 (U.lenOf false a0).bind fun n1 => f12_l0 E a0 a0 (.int .i64 (n1 : Int)) (.int .i64 0) := (h.is _ rfl).trans ((runQ_V rfl).trans (by kernel_rfl))
def f19_ac : AC :=
 (.seq (rg [oo 2 (.mv (.c (.bool false)))])
 (.seq (rg [oo 3 (.mv (.t 0)),
  oo 4 (.call false 10 [(.t 3), (ci (-1)), (ci 99)]),
  oo 2 (.mv (.t 4))])
 .ret))
structure G_f19 (E : Env) : Prop where
  is : Is E 76 1 f19_ac [(2, none)]
  c_f15 : G_f15 E
theorem f19_E {E : Env} (h : G_f19 E) (a0 : U) : E 76 [a0] =
 (E 10 [a0, (.int .i64 (-1)), (.int .i64 99)]).bind fun t1 => some t1 := (h.is _ rfl).trans ((runQ_V rfl).trans (by kernel_rfl))
def f13_b0 : AC :=
 (.seq (rg [oo 8 (.bin .lss (.t 7) (.t 6))])
 (.seq (.cond (.t 8) .skip (.exit 0))
 (.seq (.block 1 (.seq (rg [oo 9 (.mv (.t 7)),
  oo 10 (.iaddr 2 (.t 5) (.t 7)),
  oo 11 (.load true 2 (.t 10)),
  oo 4 (.alloc 4 (.agg [(.int .i64 0), (.int .i64 0)])),
  oo 3 (.mv (.t 9)),
  ⟨none, .store 2 (.t 4) (.t 11), none⟩])
 (.seq (.region 25 [oo 12 (.faddr 0 0 (.t 4)),
  oo 13 (.load false 1 (.t 12)),
  oo 14 (.call false 11 [(.t 13)]),
  oo 15 (.un .not (.t 14)),
  oo 16 (.mv (.t 15)),
  ⟨some 17, .faddr 1 1 (.t 4), some (16, false)⟩,
  ⟨some 18, .load false 1 (.t 17), some (16, false)⟩,
  ⟨some 19, .call false 76 [(.t 18)], some (16, false)⟩,
  ⟨some 20, .un .not (.t 19), some (16, false)⟩,
  oo 21 (.pick (.t 16) (.c (.bool true)) (.t 20)),
  oo 22 (.mv (.t 21)),
  ⟨some 23, .mv (.t 3), some (22, false)⟩,
  ⟨some 24, .bin .gtr (.t 23) (ci 0), some (22, false)⟩,
  ⟨some 25, .mv (.t 24), some (22, false)⟩,
  ⟨some 26, .mv (.t 0), some (25, true)⟩,
  ⟨some 27, .mv (.t 3), some (25, true)⟩,
  ⟨some 28, .bin .sub (.t 27) (ci 1), some (25, true)⟩,
  ⟨some 29, .iaddr 2 (.t 26) (.t 28), some (25, true)⟩,
  ⟨some 30, .faddr 0 0 (.t 29), some (25, true)⟩,
  ⟨some 31, .load false 1 (.t 30), some (25, true)⟩,
  ⟨some 32, .faddr 0 0 (.t 4), some (25, true)⟩,
  ⟨some 33, .load false 1 (.t 32), some (25, true)⟩,
  ⟨some 34, .bin .geq (.t 31) (.t 33), some (25, true)⟩,
  ⟨some 35, .pick (.t 25) (.t 34) (.c (.bool false)), some (22, false)⟩,
  oo 36 (.pick (.t 22) (.c (.bool true)) (.t 35))])
 (.cond (.t 36) (.seq (rg [oo 2 (.mv (.c (.bool false)))])
 .ret) .skip))))
 (rg [oo 37 (.bin .add (.t 7) (ci 1)),
  oo 7 (.mv (.t 37))]))))
def f13_r0 : AC :=
 (.seq (rg [oo 2 (.mv (.c (.bool true)))])
 .ret)
def f13_ac : AC :=
 (.seq (rg [oo 2 (.mv (.c (.bool false)))])
 (.seq (.seq (rg [oo 5 (.mv (.t 0)),
  oo 6 (.len false (.t 5)),
  oo 7 (.mv (ci 0))])
 (.block 0 (.loop ⟨[0, 5, 6, 7], [], []⟩ f13_b0)))
 f13_r0))
noncomputable def f13_l0 (E : Env) (x0 : U) (x5 : U) (x6 : U) (x7 : U) : Option U := loopK (roundOf E ⟨[0, 5, 6, 7], [], []⟩ f13_b0 (blockK 0 (seqK (fun s => exec E f13_r0 s (finish [(2, none)])) (finish [(2, none)])))) ([.val x0, .val x5, .val x6, .val x7], [])
theorem f13_l0_eq (E : Env) (x0 : U) (x5 : U) (x6 : U) (x7 : U) : f13_l0 E x0 x5 x6 x7 =
 (U.bin .lss x7 x6).bind fun t2 => U.asBool t2
 (U.asInt x7 fun n3 => U.elemAt 2 x5 n3 fun e4 => U.asVar true 2 e4 fun e5 => if storable (.val e5) = true ∧ e5.size = 2 then U.asAgg e5 fun us6 => if 0 = sizes (us6.take 0) then (us6[0]?).bind fun e7 => U.asVar false 1 e7 fun e8 => (E 11 [e8]).bind fun t9 => (U.un .not t9).bind fun t10 => U.asBool t10
 (some (.bool false))
 (U.asAgg e5 fun us11 => if 1 = sizes (us11.take 1) then (us11[1]?).bind fun e12 => U.asVar false 1 e12 fun e13 => (E 76 [e13]).bind fun t14 => (U.un .not t14).bind fun t15 => U.asBool t15
 (some (.bool false))
 ((U.bin .gtr x7 (.int .i64 0)).bind fun t16 => U.asBool t16
 ((U.bin .sub x7 (.int .i64 1)).bind fun t17 => U.asInt t17 fun n18 => U.elemAt 2 x0 n18 fun e19 => U.fieldAt 0 0 e19 fun f20 => U.asVar false 1 f20 fun e21 => U.asAgg e5 fun us22 => if 0 = sizes (us22.take 0) then (us22[0]?).bind fun e23 => U.asVar false 1 e23 fun e24 => (U.bin .geq e21 e24).bind fun t25 => U.asBool t25
 (some (.bool false))
 ((U.bin .add x7 (.int .i64 1)).bind fun t26 => f13_l0 E x0 x5 x6 t26) else none)
 ((U.bin .add x7 (.int .i64 1)).bind fun t27 => f13_l0 E x0 x5 x6 t27)) else none) else none else none)
 (some (.bool true)) :=
 (loop_eq E _ _ _ _).trans (by kernel_rfl)
structure G_f13 (E : Env) : Prop where
  is : Is E 74 1 f13_ac [(2, none)]
  c_f17 : G_f17 E
  c_f19 : G_f19 E
theorem f13_E {E : Env} (h : G_f13 E) (a0 : U) : E 74 [a0] =
 (U.lenOf false a0).bind fun n1 => f13_l0 E a0 a0 (.int .i64 (n1 : Int)) (.int .i64 0) := (h.is _ rfl).trans ((runQ_V rfl).trans (by kernel_rfl))
def f18_ac : AC :=
 (.seq (rg [oo 2 (.mv (.c (.bool false)))])
 (.seq (rg [oo 3 (.mv (.t 0)),
  oo 4 (.call false 10 [(.t 3), (ci 1), (ci 4)]),
  oo 2 (.mv (.t 4))])
 .ret))
structure G_f18 (E : Env) : Prop where
  is : Is E 160 1 f18_ac [(2, none)]
  c_f15 : G_f15 E
theorem f18_E {E : Env} (h : G_f18 E) (a0 : U) : E 160 [a0] =
 (E 10 [a0, (.int .i64 1), (.int .i64 4)]).bind fun t1 => some t1 := (h.is _ rfl).trans ((runQ_V rfl).trans (by kernel_rfl))
def f4_ac : AC :=
 (.seq (rg [oo 1 (.box false 1 (.t 0)),
  oo 2 (.mv (.c (.bool false)))])
 (.seq (.seq (rg [oo 3 (.faddr 0 0 (.t 1)),
  oo 4 (.load false 1 (.t 3)),
  oo 5 (.call false 9 [(.t 4)]),
  oo 6 (.un .not (.t 5)),
  oo 7 (.mv (.t 6)),
  ⟨some 8, .faddr 1 1 (.t 1), some (7, false)⟩,
  ⟨some 9, .load false 1 (.t 8), some (7, false)⟩,
  ⟨some 10, .call false 160 [(.t 9)], some (7, false)⟩,
  ⟨some 11, .un .not (.t 10), some (7, false)⟩,
  oo 12 (.pick (.t 7) (.c (.bool true)) (.t 11)),
  oo 13 (.mv (.t 12)),
  ⟨some 14, .faddr 2 2 (.t 1), some (13, false)⟩,
  ⟨some 15, .load false 1 (.t 14), some (13, false)⟩,
  ⟨some 16, .call false 10 [(.t 15), (ci 1), (ci 3)], some (13, false)⟩,
  ⟨some 17, .un .not (.t 16), some (13, false)⟩,
  oo 18 (.pick (.t 13) (.c (.bool true)) (.t 17)),
  oo 19 (.mv (.t 18)),
  ⟨some 20, .faddr 3 3 (.t 1), some (19, false)⟩,
  ⟨some 21, .load false 1 (.t 20), some (19, false)⟩,
  ⟨some 22, .call false 10 [(.t 21), (ci 0), (ci 999)], some (19, false)⟩,
  ⟨some 23, .un .not (.t 22), some (19, false)⟩,
  oo 24 (.pick (.t 19) (.c (.bool true)) (.t 23)),
  oo 25 (.mv (.t 24)),
  ⟨some 26, .faddr 4 4 (.t 1), some (25, false)⟩,
  ⟨some 27, .load false 1 (.t 26), some (25, false)⟩,
  ⟨some 28, .call false 10 [(.t 27), (ci 0), (ci 999)], some (25, false)⟩,
  ⟨some 29, .un .not (.t 28), some (25, false)⟩,
  oo 30 (.pick (.t 25) (.c (.bool true)) (.t 29)),
  oo 31 (.mv (.t 30)),
  ⟨some 32, .faddr 5 5 (.t 1), some (31, false)⟩,
  ⟨some 33, .load false 1 (.t 32), some (31, false)⟩,
  ⟨some 34, .call false 10 [(.t 33), (ci 1), (ci 1000)], some (31, false)⟩,
  ⟨some 35, .un .not (.t 34), some (31, false)⟩,
  oo 36 (.pick (.t 31) (.c (.bool true)) (.t 35))])
 (.cond (.t 36) (.seq (rg [oo 2 (.mv (.c (.bool false)))])
 .ret) .skip))
 (.seq (.seq (rg [oo 37 (.faddr 2 2 (.t 1)),
  oo 38 (.load false 1 (.t 37)),
  oo 39 (.bin .eql (.t 38) (ci 2)),
  oo 40 (.mv (.t 39)),
  ⟨some 41, .faddr 6 6 (.t 1), some (40, true)⟩,
  ⟨some 42, .load false 1 (.t 41), some (40, true)⟩,
  ⟨some 43, .call false 72 [(.t 42)], some (40, true)⟩,
  ⟨some 44, .un .not (.t 43), some (40, true)⟩,
  oo 45 (.pick (.t 40) (.t 44) (.c (.bool false))),
  oo 46 (.mv (.t 45)),
  ⟨some 47, .faddr 2 2 (.t 1), some (46, false)⟩,
  ⟨some 48, .load false 1 (.t 47), some (46, false)⟩,
  ⟨some 49, .bin .neq (.t 48) (ci 2), some (46, false)⟩,
  ⟨some 50, .mv (.t 49), some (46, false)⟩,
  ⟨some 51, .faddr 6 6 (.t 1), some (50, true)⟩,
  ⟨some 52, .load false 1 (.t 51), some (50, true)⟩,
  ⟨some 53, .bin .neq (.t 52) (ci 0), some (50, true)⟩,
  ⟨some 54, .pick (.t 50) (.t 53) (.c (.bool false)), some (46, false)⟩,
  oo 55 (.pick (.t 46) (.c (.bool true)) (.t 54))])
 (.cond (.t 55) (.seq (rg [oo 2 (.mv (.c (.bool false)))])
 .ret) .skip))
 (.seq (rg [oo 56 (.faddr 7 7 (.t 1)),
  oo 57 (.load false 1 (.t 56)),
  oo 58 (.call false 73 [(.t 57)]),
  oo 59 (.mv (.t 58)),
  ⟨some 60, .faddr 8 8 (.t 1), some (59, true)⟩,
  ⟨some 61, .load false 1 (.t 60), some (59, true)⟩,
  ⟨some 62, .call false 74 [(.t 61)], some (59, true)⟩,
  oo 63 (.pick (.t 59) (.t 62) (.c (.bool false))),
  oo 2 (.mv (.t 63))])
 .ret))))
structure G_f4 (E : Env) : Prop where
  is : Is E 159 1 f4_ac [(2, none)]
  c_f15 : G_f15 E
  c_f16 : G_f16 E
  c_f3 : G_f3 E
  c_f12 : G_f12 E
  c_f13 : G_f13 E
  c_f18 : G_f18 E
theorem f4_E {E : Env} (h : G_f4 E) (a0 : U) : E 159 [a0] =
 U.noTup a0 fun x1 => U.asAgg x1 fun us2 => if 0 = sizes (us2.take 0) then (us2[0]?).bind fun e3 => U.asVar false 1 e3 fun e4 => (E 9 [e4]).bind fun t5 => (U.un .not t5).bind fun t6 => U.asBool t6
 (some (.bool false))
 (U.asAgg x1 fun us7 => if 1 = sizes (us7.take 1) then (us7[1]?).bind fun e8 => U.asVar false 1 e8 fun e9 => (E 160 [e9]).bind fun t10 => (U.un .not t10).bind fun t11 => U.asBool t11
 (some (.bool false))
 (U.asAgg x1 fun us12 => if 2 = sizes (us12.take 2) then (us12[2]?).bind fun e13 => U.asVar false 1 e13 fun e14 => (E 10 [e14, (.int .i64 1), (.int .i64 3)]).bind fun t15 => (U.un .not t15).bind fun t16 => U.asBool t16
 (some (.bool false))
 (U.asAgg x1 fun us17 => if 3 = sizes (us17.take 3) then (us17[3]?).bind fun e18 => U.asVar false 1 e18 fun e19 => (E 10 [e19, (.int .i64 0), (.int .i64 999)]).bind fun t20 => (U.un .not t20).bind fun t21 => U.asBool t21
 (some (.bool false))
 (U.asAgg x1 fun us22 => if 4 = sizes (us22.take 4) then (us22[4]?).bind fun e23 => U.asVar false 1 e23 fun e24 => (E 10 [e24, (.int .i64 0), (.int .i64 999)]).bind fun t25 => (U.un .not t25).bind fun t26 => U.asBool t26
 (some (.bool false))
 (U.asAgg x1 fun us27 => if 5 = sizes (us27.take 5) then (us27[5]?).bind fun e28 => U.asVar false 1 e28 fun e29 => (E 10 [e29, (.int .i64 1), (.int .i64 1000)]).bind fun t30 => (U.un .not t30).bind fun t31 => U.asBool t31
 (some (.bool false))
 (U.asAgg x1 fun us32 => if 2 = sizes (us32.take 2) then (us32[2]?).bind fun e33 => U.asVar false 1 e33 fun e34 => (U.bin .eql e34 (.int .i64 2)).bind fun t35 => U.asBool t35
 (U.asAgg x1 fun us36 => if 6 = sizes (us36.take 6) then (us36[6]?).bind fun e37 => U.asVar false 1 e37 fun e38 => (E 72 [e38]).bind fun t39 => (U.un .not t39).bind fun t40 => U.asBool t40
 (some (.bool false))
 (U.asAgg x1 fun us41 => if 2 = sizes (us41.take 2) then (us41[2]?).bind fun e42 => U.asVar false 1 e42 fun e43 => (U.bin .neq e43 (.int .i64 2)).bind fun t44 => U.asBool t44
 (U.asAgg x1 fun us45 => if 6 = sizes (us45.take 6) then (us45[6]?).bind fun e46 => U.asVar false 1 e46 fun e47 => (U.bin .neq e47 (.int .i64 0)).bind fun t48 => U.asBool t48
 (some (.bool false))
 (U.asAgg x1 fun us49 => if 7 = sizes (us49.take 7) then (us49[7]?).bind fun e50 => U.asVar false 1 e50 fun e51 => (E 73 [e51]).bind fun t52 => U.asBool t52
 (U.asAgg x1 fun us53 => if 8 = sizes (us53.take 8) then (us53[8]?).bind fun e54 => U.asVar false 1 e54 fun e55 => (E 74 [e55]).bind fun t56 => some t56 else none)
 (some (.bool false)) else none) else none)
 (U.asAgg x1 fun us57 => if 7 = sizes (us57.take 7) then (us57[7]?).bind fun e58 => U.asVar false 1 e58 fun e59 => (E 73 [e59]).bind fun t60 => U.asBool t60
 (U.asAgg x1 fun us61 => if 8 = sizes (us61.take 8) then (us61[8]?).bind fun e62 => U.asVar false 1 e62 fun e63 => (E 74 [e63]).bind fun t64 => some t64 else none)
 (some (.bool false)) else none) else none) else none)
 (U.asAgg x1 fun us65 => if 2 = sizes (us65.take 2) then (us65[2]?).bind fun e66 => U.asVar false 1 e66 fun e67 => (U.bin .neq e67 (.int .i64 2)).bind fun t68 => U.asBool t68
 (U.asAgg x1 fun us69 => if 6 = sizes (us69.take 6) then (us69[6]?).bind fun e70 => U.asVar false 1 e70 fun e71 => (U.bin .neq e71 (.int .i64 0)).bind fun t72 => U.asBool t72
 (some (.bool false))
 (U.asAgg x1 fun us73 => if 7 = sizes (us73.take 7) then (us73[7]?).bind fun e74 => U.asVar false 1 e74 fun e75 => (E 73 [e75]).bind fun t76 => U.asBool t76
 (U.asAgg x1 fun us77 => if 8 = sizes (us77.take 8) then (us77[8]?).bind fun e78 => U.asVar false 1 e78 fun e79 => (E 74 [e79]).bind fun t80 => some t80 else none)
 (some (.bool false)) else none) else none)
 (U.asAgg x1 fun us81 => if 7 = sizes (us81.take 7) then (us81[7]?).bind fun e82 => U.asVar false 1 e82 fun e83 => (E 73 [e83]).bind fun t84 => U.asBool t84
 (U.asAgg x1 fun us85 => if 8 = sizes (us85.take 8) then (us85[8]?).bind fun e86 => U.asVar false 1 e86 fun e87 => (E 74 [e87]).bind fun t88 => some t88 else none)
 (some (.bool false)) else none) else none) else none) else none) else none) else none) else none) else none) else none := (h.is _ rfl).trans ((runQ_V rfl).trans (by kernel_rfl))
def f10_ac : AC :=
 (.seq (rg [oo 1 (.box false 1 (.t 0)),
  oo 2 (.mv (.c (.bool false)))])
 (.seq (rg [oo 3 (.faddr 2 2 (.t 1)),
  oo 4 (.load false 1 (.t 3)),
  oo 5 (.bin .eql (.t 4) (ci 1)),
  oo 6 (.mv (.t 5)),
  ⟨some 7, .load true 9 (.t 1), some (6, true)⟩,
  ⟨some 8, .call false 159 [(.t 7)], some (6, true)⟩,
  oo 9 (.pick (.t 6) (.t 8) (.c (.bool false))),
  oo 2 (.mv (.t 9))])
 .ret))
structure G_f10 (E : Env) : Prop where
  is : Is E 301 1 f10_ac [(2, none)]
  c_f4 : G_f4 E
theorem f10_E {E : Env} (h : G_f10 E) (a0 : U) : E 301 [a0] =
 U.noTup a0 fun x1 => U.asAgg x1 fun us2 => if 2 = sizes (us2.take 2) then (us2[2]?).bind fun e3 => U.asVar false 1 e3 fun e4 => (U.bin .eql e4 (.int .i64 1)).bind fun t5 => U.asBool t5
 (U.asVar true 9 x1 fun e6 => (E 159 [e6]).bind fun t7 => some t7)
 (some (.bool false)) else none := (h.is _ rfl).trans ((runQ_V rfl).trans (by kernel_rfl))
def f5_ac : AC :=
 (.seq (rg [oo 1 (.box false 1 (.t 0)),
  oo 2 (.mv (.c (.bool false)))])
 (.seq (.seq (rg [oo 3 (.faddr 1 1 (.t 1)),
  oo 4 (.load false 1 (.t 3)),
  oo 5 (.call false 76 [(.t 4)]),
  oo 6 (.un .not (.t 5)),
  oo 7 (.mv (.t 6)),
  ⟨some 8, .faddr 2 2 (.t 1), some (7, false)⟩,
  ⟨some 9, .load false 1 (.t 8), some (7, false)⟩,
  ⟨some 10, .call false 10 [(.t 9), (ci 0), (ci 999)], some (7, false)⟩,
  ⟨some 11, .un .not (.t 10), some (7, false)⟩,
  oo 12 (.pick (.t 7) (.c (.bool true)) (.t 11)),
  oo 13 (.mv (.t 12)),
  ⟨some 14, .faddr 3 3 (.t 1), some (13, false)⟩,
  ⟨some 15, .load false 1 (.t 14), some (13, false)⟩,
  ⟨some 16, .faddr 2 2 (.t 1), some (13, false)⟩,
  ⟨some 17, .load false 1 (.t 16), some (13, false)⟩,
  ⟨some 18, .call false 10 [(.t 15), (.t 17), (ci 999)], some (13, false)⟩,
  ⟨some 19, .un .not (.t 18), some (13, false)⟩,
  oo 20 (.pick (.t 13) (.c (.bool true)) (.t 19)),
  oo 21 (.mv (.t 20)),
  ⟨some 22, .faddr 4 4 (.t 1), some (21, false)⟩,
  ⟨some 23, .load false 1 (.t 22), some (21, false)⟩,
  ⟨some 24, .call false 10 [(.t 23), (ci 1), (ci 1000)], some (21, false)⟩,
  ⟨some 25, .un .not (.t 24), some (21, false)⟩,
  oo 26 (.pick (.t 21) (.c (.bool true)) (.t 25))])
 (.cond (.t 26) (.seq (rg [oo 2 (.mv (.c (.bool false)))])
 .ret) .skip))
 (.seq (.seq (rg [oo 27 (.faddr 2 2 (.t 1)),
  oo 28 (.load false 1 (.t 27)),
  oo 29 (.bin .eql (.t 28) (ci 0))])
 (.cond (.t 29) (.seq (rg [oo 30 (.faddr 0 0 (.t 1)),
  oo 31 (.load false 1 (.t 30)),
  oo 32 (.bin .eql (.t 31) (ci 0)),
  oo 33 (.mv (.t 32)),
  ⟨some 34, .faddr 1 1 (.t 1), some (33, true)⟩,
  ⟨some 35, .load false 1 (.t 34), some (33, true)⟩,
  ⟨some 36, .bin .eql (.t 35) (ci (-1)), some (33, true)⟩,
  oo 37 (.pick (.t 33) (.t 36) (.c (.bool false))),
  oo 2 (.mv (.t 37))])
 .ret) .skip))
 (.seq (rg [oo 38 (.faddr 0 0 (.t 1)),
  oo 39 (.load false 1 (.t 38)),
  oo 40 (.call false 9 [(.t 39)]),
  oo 2 (.mv (.t 40))])
 .ret))))
structure G_f5 (E : Env) : Prop where
  is : Is E 117 1 f5_ac [(2, none)]
  c_f15 : G_f15 E
  c_f19 : G_f19 E
  c_f16 : G_f16 E
theorem f5_E {E : Env} (h : G_f5 E) (a0 : U) : E 117 [a0] =
 U.noTup a0 fun x1 => U.asAgg x1 fun us2 => if 1 = sizes (us2.take 1) then (us2[1]?).bind fun e3 => U.asVar false 1 e3 fun e4 => (E 76 [e4]).bind fun t5 => (U.un .not t5).bind fun t6 => U.asBool t6
 (some (.bool false))
 (U.asAgg x1 fun us7 => if 2 = sizes (us7.take 2) then (us7[2]?).bind fun e8 => U.asVar false 1 e8 fun e9 => (E 10 [e9, (.int .i64 0), (.int .i64 999)]).bind fun t10 => (U.un .not t10).bind fun t11 => U.asBool t11
 (some (.bool false))
 (U.asAgg x1 fun us12 => if 3 = sizes (us12.take 3) then (us12[3]?).bind fun e13 => U.asVar false 1 e13 fun e14 => U.asAgg x1 fun us15 => if 2 = sizes (us15.take 2) then (us15[2]?).bind fun e16 => U.asVar false 1 e16 fun e17 => (E 10 [e14, e17, (.int .i64 999)]).bind fun t18 => (U.un .not t18).bind fun t19 => U.asBool t19
 (some (.bool false))
 (U.asAgg x1 fun us20 => if 4 = sizes (us20.take 4) then (us20[4]?).bind fun e21 => U.asVar false 1 e21 fun e22 => (E 10 [e22, (.int .i64 1), (.int .i64 1000)]).bind fun t23 => (U.un .not t23).bind fun t24 => U.asBool t24
 (some (.bool false))
 (U.asAgg x1 fun us25 => if 2 = sizes (us25.take 2) then (us25[2]?).bind fun e26 => U.asVar false 1 e26 fun e27 => (U.bin .eql e27 (.int .i64 0)).bind fun t28 => U.asBool t28
 (U.asAgg x1 fun us29 => if 0 = sizes (us29.take 0) then (us29[0]?).bind fun e30 => U.asVar false 1 e30 fun e31 => (U.bin .eql e31 (.int .i64 0)).bind fun t32 => U.asBool t32
 (U.asAgg x1 fun us33 => if 1 = sizes (us33.take 1) then (us33[1]?).bind fun e34 => U.asVar false 1 e34 fun e35 => (U.bin .eql e35 (.int .i64 (-1))).bind fun t36 => some t36 else none)
 (some (.bool false)) else none)
 (U.asAgg x1 fun us37 => if 0 = sizes (us37.take 0) then (us37[0]?).bind fun e38 => U.asVar false 1 e38 fun e39 => (E 9 [e39]).bind fun t40 => some t40 else none) else none) else none) else none else none) else none) else none := (h.is _ rfl).trans ((runQ_V rfl).trans (by kernel_rfl))
def f9_ac : AC :=
 (.seq (rg [oo 1 (.boxN 9 1 (.t 0)),
  oo 2 (.alloc 2 (.agg [(.int .i64 0), (.int .i64 0), (.int .i64 0), (.int .i64 0), (.int .i64 0), (.int .i64 0), (.int .i64 0), (.nsl 2), (.nsl 2)]))])
 (.seq (.regN 7 [5, 8] [(0, 5), (1, 5), (3, 5), (4, 5), (0, 8), (1, 8), (2, 8), (3, 8), (4, 8), (6, 8)] [(.t 3), (.t 6)] [oo 3 (.faddr 7 7 (.t 1)),
  oo 4 (.load false 1 (.t 3)),
  oo 5 (.callF 5 false [(.sl 2)] 224 [(.t 4)]),
  oo 6 (.faddr 8 8 (.t 1)),
  oo 7 (.load false 1 (.t 6)),
  oo 8 (.callF 8 false [(.sl 2)] 225 [(.t 7)]),
  oo 9 (.faddr 7 7 (.t 1)),
  ⟨none, .storeM 3000 1 (.t 9) (.t 5), none⟩,
  oo 10 (.faddr 8 8 (.t 1)),
  ⟨none, .storeM 3002 1 (.t 10) (.t 8), none⟩])
 (.seq (rg [oo 11 (.loadO (.agg [.int, .int, .int, .int, .int, .int, .int, (.sl 2), (.sl 2)]) (.t 1)),
  ⟨none, .storeM 3001 9 (.t 2) (.t 11), none⟩])
 .ret)))
structure G_f9 (E : Env) : Prop where
  is : Is E 100222 1 f9_ac [(2, some (true, 9))]
  c_f44 : IsClone E 224 2 16
  c_f45 : IsClone E 225 2 16
theorem f9_E {E : Env} (h : G_f9 E) (a0 : U) : E 100222 [a0] =
 U.asAgg a0 fun us1 => (match us1 with
 | u2 :: us3 => ((match us3 with
 | u4 :: us5 => ((match us5 with
 | u6 :: us7 => ((match us7 with
 | u8 :: us9 => ((match us9 with
 | u10 :: us11 => ((match us11 with
 | u12 :: us13 => ((match us13 with
 | u14 :: us15 => ((match us15 with
 | u16 :: us17 => ((match us17 with
 | u18 :: us19 => ((match us19 with
 | [] => (if 7 = sizes [u2, u4, u6, u8, u10, u12, u14] then U.asVar false 1 u16 fun e20 => (E 100224 [e20]).bind fun t21 => U.noTup t21 fun x22 => U.asSlK 2 x22 fun us23 => if 8 = sizes [u2, u4, u6, u8, u10, u12, u14, u16] then U.asVar false 1 u18 fun e24 => (E 100225 [e24]).bind fun t25 => U.noTup t25 fun x26 => U.asSlK 2 x26 fun us27 => if 7 = sizes [u2, u4, u6, u8, u10, u12, u14] then if 7 = sizes [u2, u4, u6, u8, u10, u12, u14] then if u16.size = u16.size then if 7 = dsizes [.val u2, .val u4, .val u6, .val u8, .val u10, .val u12, .val u14] then if u16.size = 1 then if 8 = dsizes [.val u2, .val u4, .val u6, .val u8, .val u10, .val u12, .val u14, .own (.sl 2 us23)] then if 8 = dsizes [.val u2, .val u4, .val u6, .val u8, .val u10, .val u12, .val u14, .own (.sl 2 us23)] then if u18.size = u18.size then if 8 = dsizes [.val u2, .val u4, .val u6, .val u8, .val u10, .val u12, .val u14, .own (.sl 2 us23)] then if u18.size = 1 then U.asInt u2 fun n28 => U.asInt u4 fun n29 => U.asInt u6 fun n30 => U.asInt u8 fun n31 => U.asInt u10 fun n32 => U.asInt u12 fun n33 => U.asInt u14 fun n34 => if 7 = dsizes [.val u2, .val u4, .val u6, .val u8, .val u10, .val u12, .val u14] then if 7 = dsizes [.val u2, .val u4, .val u6, .val u8, .val u10, .val u12, .val u14] then if 8 = dsizes [.val u2, .val u4, .val u6, .val u8, .val u10, .val u12, .val u14, .junk 1] then if 8 = dsizes [.val u2, .val u4, .val u6, .val u8, .val u10, .val u12, .val u14, .junk 1] then some (.agg [(.int .i64 n28), (.int .i64 n29), (.int .i64 n30), (.int .i64 n31), (.int .i64 n32), (.int .i64 n33), (.int .i64 n34), (.sl 2 us23), (.sl 2 us27)]) else none else none else none else none else none else none else none else none else none else none else none else none else none else none else none else none)
 | _ => none))
 | [] => none))
 | [] => none))
 | [] => none))
 | [] => none))
 | [] => none))
 | [] => none))
 | [] => none))
 | [] => none))
 | [] => none) := (h.is _ rfl).trans ((runQ_F rfl).trans (by kernel_rfl))
def f43_b0 : AC :=
 (.seq (.seq (rg [oo 15 (.mv (.t 9)),
  oo 16 (.mv (.t 10)),
  oo 17 (.bin .lss (.t 15) (.t 16))])
 (.cond (.t 17) .skip (.exit 0)))
 (.block 1 (.seq (rg [oo 18 (.mv (.t 9)),
  oo 19 (.mv (.t 10)),
  oo 20 (.bin .add (.t 18) (.t 19)),
  oo 21 (.conv .u64 (.t 20)),
  oo 22 (.bin .shr (.t 21) (.c (.int .u64 1))),
  oo 23 (.conv .i64 (.t 22)),
  oo 11 (.mv (.t 23))])
 (.seq (.region 8 [oo 24 (.mv (.t 2)),
  oo 25 (.mv (.t 0)),
  oo 26 (.mv (.t 11)),
  oo 27 (.iaddr 2 (.t 25) (.t 26)),
  oo 28 (.load true 2 (.t 27)),
  oo 29 (.load true 2 (.t 4)),
  oo 30 (.callv false (.t 24) [(.t 28), (.t 29)]),
  oo 31 (.bin .lss (.t 30) (ci 0))])
 (.cond (.t 31) (rg [oo 32 (.mv (.t 11)),
  oo 33 (.bin .add (.t 32) (ci 1)),
  oo 9 (.mv (.t 33))]) (rg [oo 34 (.mv (.t 11)),
  oo 10 (.mv (.t 34))]))))))
def f43_r0 : AC :=
 (.seq (.region 16 [oo 35 (.mv (.t 9)),
  oo 36 (.mv (.t 9)),
  oo 37 (.mv (.t 8)),
  oo 38 (.bin .lss (.t 36) (.t 37)),
  oo 39 (.mv (.t 38)),
  ⟨some 40, .mv (.t 2), some (39, true)⟩,
  ⟨some 41, .mv (.t 0), some (39, true)⟩,
  ⟨some 42, .mv (.t 9), some (39, true)⟩,
  ⟨some 43, .iaddr 2 (.t 41) (.t 42), some (39, true)⟩,
  ⟨some 44, .load true 2 (.t 43), some (39, true)⟩,
  ⟨some 45, .load true 2 (.t 4), some (39, true)⟩,
  ⟨some 46, .callv false (.t 40) [(.t 44), (.t 45)], some (39, true)⟩,
  ⟨some 47, .bin .eql (.t 46) (ci 0), some (39, true)⟩,
  oo 48 (.pick (.t 39) (.t 47) (.c (.bool false))),
  oo 6 (.mv (.t 35)),
  oo 7 (.mv (.t 48))])
 .ret)
def f43_ac : AC :=
 (.seq (rg [oo 4 (.box false 4 (.t 1)),
  oo 6 (.mv (ci 0)),
  oo 7 (.mv (.c (.bool false)))])
 (.seq (rg [oo 12 (.mv (.t 0)),
  oo 13 (.len false (.t 12)),
  oo 8 (.mv (.t 13))])
 (.seq (rg [oo 14 (.mv (.t 8)),
  oo 9 (.mv (ci 0)),
  oo 10 (.mv (.t 14))])
 (.seq (.block 0 (.loop ⟨[0, 2, 4, 8, 9, 10], [], [(4, false)]⟩ f43_b0))
 f43_r0))))
noncomputable def f43_l0 (E : Env) (x0 : U) (x2 : U) (x8 : U) (x9 : U) (x10 : U) (b4 : U) : Option U := loopK (roundOf E ⟨[0, 2, 4, 8, 9, 10], [], [(4, false)]⟩ f43_b0 (blockK 0 (seqK (fun s => exec E f43_r0 s (finish [(6, none), (7, none)])) (finish [(6, none), (7, none)])))) ([.val x0, .val x2, .ptr 4 [], .val x8, .val x9, .val x10], [.box (.val b4)])
theorem f43_l0_eq (E : Env) (x0 : U) (x2 : U) (x8 : U) (x9 : U) (x10 : U) (b4 : U) : f43_l0 E x0 x2 x8 x9 x10 b4 =
 (U.bin .lss x9 x10).bind fun t3 => U.asBool t3
 ((U.bin .add x9 x10).bind fun t4 => (U.conv .u64 t4).bind fun t5 => (U.bin .shr t5 (.int .u64 1)).bind fun t6 => (U.conv .i64 t6).bind fun t7 => U.asInt t7 fun n8 => U.elemAt 2 x0 n8 fun e9 => U.asVar true 2 e9 fun e10 => U.asVar true 2 b4 fun e11 => U.asFn x2 fun r12 caps13 => (E r12 ([e10, e11] ++ caps13)).bind fun t14 => (U.bin .lss t14 (.int .i64 0)).bind fun t15 => U.asBool t15
 ((U.bin .add t7 (.int .i64 1)).bind fun t16 => f43_l0 E x0 x2 x8 t16 x10 b4)
 (f43_l0 E x0 x2 x8 x9 t7 b4))
 ((U.bin .lss x9 x8).bind fun t17 => U.asBool t17
 (U.asInt x9 fun n18 => U.elemAt 2 x0 n18 fun e19 => U.asVar true 2 e19 fun e20 => U.asVar true 2 b4 fun e21 => U.asFn x2 fun r22 caps23 => (E r22 ([e20, e21] ++ caps23)).bind fun t24 => (U.bin .eql t24 (.int .i64 0)).bind fun t25 => U.noTup x9 fun x26 => U.noTup t25 fun x27 => some (.tup [x26, x27]))
 (U.noTup x9 fun x28 => some (.tup [x28, (.bool false)]))) :=
 (loop_eq E _ _ _ _).trans (by kernel_rfl)
structure G_f43 (E : Env) : Prop where
  is : Is E 304 3 f43_ac [(6, none), (7, none)]
theorem f43_E {E : Env} (h : G_f43 E) (a0 a1 a2 : U) : E 304 [a0, a1, a2] =
 U.noTup a1 fun x1 => (U.lenOf false a0).bind fun n2 => f43_l0 E a0 a2 (.int .i64 (n2 : Int)) (.int .i64 0) (.int .i64 (n2 : Int)) x1 := (h.is _ rfl).trans ((runQ_V rfl).trans (by kernel_rfl))
def f11_ac : AC :=
 (.seq (rg [oo 5 (.box false 5 (.t 2)),
  oo 6 (.mv (.c (.bool false)))])
 (.seq (.seq (rg [oo 10 (.mv (.t 0)),
  oo 11 (.nilck (.t 10)),
  oo 12 (.faddr 7 7 (.t 11)),
  oo 13 (.loadO (.sl 2) (.t 12)),
  oo 14 (.len false (.t 13)),
  oo 15 (.bin .eql (.t 14) (ci 60))])
 (.cond (.t 15) (.seq (rg [oo 6 (.mv (.c (.bool false)))])
 .ret) .skip))
 (.seq (rg [oo 16 (.mv (.t 1)),
  oo 17 (.faddr 2 2 (.t 5)),
  oo 18 (.load false 1 (.t 17)),
  oo 19 (.build [(.int .i64 0), (.int .i64 0)] [(0, (.t 16)), (1, (.t 18))]),
  oo 7 (.alloc 7 (.agg [(.int .i64 0), (.int .i64 0)])),
  ⟨none, .store 2 (.t 7) (.t 19), none⟩])
 (.seq (.seq (.region 11 [oo 21 (.mv (.t 0)),
  oo 22 (.nilck (.t 21)),
  oo 23 (.faddr 7 7 (.t 22)),
  oo 24 (.loadO (.sl 2) (.t 23)),
  oo 25 (.load true 2 (.t 7)),
  oo 26 (.call false 304 [(.t 24), (.t 25), (.c (.fn 75 []))]),
  oo 20 (.mv (.t 26)),
  oo 27 (.extract 0 (.t 20)),
  oo 28 (.extract 1 (.t 20)),
  oo 8 (.mv (.t 27)),
  oo 9 (.mv (.t 28))])
 (.seq (rg [oo 29 (.mv (.t 9)),
  oo 30 (.un .not (.t 29))])
 (.cond (.t 30) (.regC 10 [36, 40] [oo 31 (.mv (.t 0)),
  oo 32 (.mv (.t 0)),
  oo 33 (.nilck (.t 32)),
  oo 34 (.faddr 7 7 (.t 33)),
  oo 35 (.loadO (.sl 2) (.t 34)),
  oo 36 (.callF 36 false [(.sl 2)] 224 [(.t 35)]),
  oo 37 (.mv (.t 8)),
  oo 38 (.load true 2 (.t 7)),
  oo 39 (.bslice 0 39 2 1 (.agg [(.int .i64 0), (.int .i64 0)]) [(0, (.t 38))]),
  oo 40 (.callC 40 2 303 (.t 36) [(.t 37), (.t 39)]),
  oo 41 (.nilck (.t 31)),
  oo 42 (.faddr 7 7 (.t 41)),
  ⟨none, .storeM 3000 1 (.t 42) (.t 40), none⟩]) .skip)))
 (.seq (.region 18 [oo 43 (.mv (.t 0)),
  oo 44 (.mv (.t 0)),
  oo 45 (.mv (.t 0)),
  oo 46 (.nilck (.t 45)),
  oo 47 (.faddr 4 4 (.t 46)),
  oo 48 (.load false 1 (.t 47)),
  oo 49 (.faddr 2 2 (.t 5)),
  oo 50 (.load false 1 (.t 49)),
  oo 51 (.minmax true [(.t 48), (.t 50)]),
  oo 52 (.mv (.t 0)),
  oo 53 (.nilck (.t 52)),
  oo 54 (.faddr 5 5 (.t 53)),
  oo 55 (.load false 1 (.t 54)),
  oo 56 (.faddr 4 4 (.t 5)),
  oo 57 (.load false 1 (.t 56)),
  oo 58 (.minmax false [(.t 55), (.t 57)]),
  oo 59 (.nilck (.t 43)),
  oo 60 (.faddr 4 4 (.t 59)),
  ⟨none, .storeS 1 (.t 60) (.t 51) [(.t 56)], none⟩,
  oo 61 (.nilck (.t 44)),
  oo 62 (.faddr 5 5 (.t 61)),
  ⟨none, .store 1 (.t 62) (.t 58), none⟩])
 (.seq (rg [oo 6 (.mv (.c (.bool true)))])
 .ret))))))
structure G_f11 (E : Env) : Prop where
  is : Is E 400302 3 f11_ac [(6, none)]
  c_f43 : G_f43 E
  c_f14 : G_f14 E
  c_f44 : IsClone E 224 2 16
  c_slices_Insert_g303 : IsIns E 303 2 16
theorem f11_E {E : Env} (h : G_f11 E) (n0_ : Int) (n1_ : Int) (n2_ : Int) (n3_ : Int) (n4_ : Int) (n5_ : Int) (n6_ : Int) (s7_ : List U) (s8_ : List U) (a1 : U) (a2 : U) : E 400302 (.agg [.tup [(.agg [(.int .i64 n0_), (.int .i64 n1_), (.int .i64 n2_), (.int .i64 n3_), (.int .i64 n4_), (.int .i64 n5_), (.int .i64 n6_), (.sl 2 s7_), (.sl 2 s8_)])]] :: [a1, a2]) =
 U.noTup a2 fun x1 => (U.bin .eql (.int .i64 (s7_.length : Int)) (.int .i64 60)).bind fun t2 => U.asBool t2
 (some (.tup [(.bool false), (.agg [(.int .i64 n0_), (.int .i64 n1_), (.int .i64 n2_), (.int .i64 n3_), (.int .i64 n4_), (.int .i64 n5_), (.int .i64 n6_), (.sl 2 s7_), (.sl 2 s8_)])]))
 (U.asAgg x1 fun us3 => if 2 = sizes (us3.take 2) then (us3[2]?).bind fun e4 => U.asVar false 1 e4 fun e5 => if partable (.val a1) = true ∧ a1.size = 1 then if partable (.val e5) = true ∧ e5.size = 1 then if storable (.val (.agg [a1, e5])) = true ∧ ((.agg [a1, e5]) : U).size = 2 then U.asVar true 2 (.agg [a1, e5]) fun e6 => (E 304 [(.sl 2 s7_), e6, (.fn 75 [])]).bind fun t7 => U.asFlat t7 fun t8 => U.part 0 t8 fun p9 => U.part 1 t8 fun p10 => (U.un .not p10).bind fun t11 => U.asBool t11
 (U.asVar true 2 (.agg [a1, e5]) fun e12 => if partable (.val e12) = true ∧ e12.size = 2 then (E 100224 [(.sl 2 s7_)]).bind fun t13 => U.noTup t13 fun x14 => U.asSlK 2 x14 fun us15 => (E 300303 (.agg [.tup [.sl 2 us15]] :: [p9, (.sl 2 [e12])])).bind fun t16 => U.asSlK 2 t16 fun us17 => U.asAgg x1 fun us18 => if 2 = sizes (us18.take 2) then (us18[2]?).bind fun e19 => U.asVar false 1 e19 fun e20 => U.asInt e20 fun n21 => U.asAgg x1 fun us22 => if 4 = sizes (us22.take 4) then (us22[4]?).bind fun e23 => U.asVar false 1 e23 fun e24 => U.asInt e24 fun n25 => some (.tup [(.bool true), (.agg [(.int .i64 n0_), (.int .i64 n1_), (.int .i64 n2_), (.int .i64 n3_), (.int .i64 (([n21] : List Int).foldl (fun a b => if true then (if a < b then b else a) else (if b < a then b else a)) n4_)), (.int .i64 (([n25] : List Int).foldl (fun a b => if false then (if a < b then b else a) else (if b < a then b else a)) n5_)), (.int .i64 n6_), (.sl 2 us17), (.sl 2 s8_)])]) else none else none else none)
 (U.asAgg x1 fun us26 => if 2 = sizes (us26.take 2) then (us26[2]?).bind fun e27 => U.asVar false 1 e27 fun e28 => U.asInt e28 fun n29 => U.asAgg x1 fun us30 => if 4 = sizes (us30.take 4) then (us30[4]?).bind fun e31 => U.asVar false 1 e31 fun e32 => U.asInt e32 fun n33 => some (.tup [(.bool true), (.agg [(.int .i64 n0_), (.int .i64 n1_), (.int .i64 n2_), (.int .i64 n3_), (.int .i64 (([n29] : List Int).foldl (fun a b => if true then (if a < b then b else a) else (if b < a then b else a)) n4_)), (.int .i64 (([n33] : List Int).foldl (fun a b => if false then (if a < b then b else a) else (if b < a then b else a)) n5_)), (.int .i64 n6_), (.sl 2 s7_), (.sl 2 s8_)])]) else none else none) else none else none else none else none) := (h.is _ rfl).trans ((runQ_P rfl).trans (by kernel_rfl))
def f6_ac : AC :=
 (.seq (rg [oo 3 (.box false 3 (.t 0)),
  oo 5 (.box false 5 (.t 2)),
  oo 6 (.alloc 6 (.agg [(.int .i64 0), (.int .i64 0), (.int .i64 0), (.int .i64 0), (.int .i64 0), (.int .i64 0), (.int .i64 0), (.nsl 2), (.nsl 2)])),
  oo 7 (.mv (.c (.bool false)))])
 (.seq (rg [oo 9 (.load true 9 (.t 3)),
  oo 10 (.callF 10 false [(.agg [.int, .int, .int, .int, .int, .int, .int, (.sl 2), (.sl 2)])] 222 [(.t 9)]),
  oo 8 (.alloc 8 (.agg [(.int .i64 0), (.int .i64 0), (.int .i64 0), (.int .i64 0), (.int .i64 0), (.int .i64 0), (.int .i64 0), (.nsl 2), (.nsl 2)])),
  ⟨none, .storeM 3000 9 (.t 8) (.t 10), none⟩])
 (.seq (.seq (rg [oo 11 (.load true 9 (.t 3)),
  oo 12 (.call false 301 [(.t 11)]),
  oo 13 (.un .not (.t 12)),
  oo 14 (.mv (.t 13)),
  ⟨some 15, .mv (.t 1), some (14, false)⟩,
  ⟨some 16, .call false 11 [(.t 15)], some (14, false)⟩,
  ⟨some 17, .un .not (.t 16), some (14, false)⟩,
  oo 18 (.pick (.t 14) (.c (.bool true)) (.t 17)),
  oo 19 (.mv (.t 18)),
  ⟨some 20, .load true 5 (.t 5), some (19, false)⟩,
  ⟨some 21, .call false 117 [(.t 20)], some (19, false)⟩,
  ⟨some 22, .un .not (.t 21), some (19, false)⟩,
  oo 23 (.pick (.t 19) (.c (.bool true)) (.t 22)),
  oo 24 (.mv (.t 23)),
  ⟨some 25, .mv (.t 1), some (24, false)⟩,
  ⟨some 26, .load true 5 (.t 5), some (24, false)⟩,
  ⟨some 27, .callP (.agg [(.agg [.int, .int, .int, .int, .int, .int, .int, (.sl 2), (.sl 2)])]) 302 (.t 8) [(.t 25), (.t 26)], some (24, false)⟩,
  ⟨some 28, .un .not (.t 27), some (24, false)⟩,
  oo 29 (.pick (.t 24) (.c (.bool true)) (.t 28))])
 (.cond (.t 29) (.seq (rg [oo 30 (.load true 9 (.t 3)),
  oo 31 (.call false 222 [(.t 30)]),
  ⟨none, .store 9 (.t 6) (.t 31), none⟩,
  oo 7 (.mv (.c (.bool false)))])
 .ret) .skip))
 (.seq (rg [oo 32 (.loadO (.agg [.int, .int, .int, .int, .int, .int, .int, (.sl 2), (.sl 2)]) (.t 8)),
  ⟨none, .storeM 3001 9 (.t 6) (.t 32), none⟩,
  oo 7 (.mv (.c (.bool true)))])
 .ret))))
structure G_f6 (E : Env) : Prop where
  is : Is E 298 3 f6_ac [(6, some (true, 9)), (7, none)]
  c_f8 : G_f8 E
  c_f10 : G_f10 E
  c_f17 : G_f17 E
  c_f5 : G_f5 E
  c_f9 : G_f9 E
  c_f11 : G_f11 E
theorem f6_E {E : Env} (h : G_f6 E) (a0 a1 a2 : U) : E 298 [a0, a1, a2] =
 U.noTup a0 fun x1 => U.noTup a2 fun x2 => U.asVar true 9 x1 fun e3 => (E 100222 [e3]).bind fun t4 => U.noTup t4 fun x5 => U.asAgg x5 fun us6 => (match us6 with
 | u7 :: us8 => (U.asInt u7 fun n9 => (match us8 with
 | u10 :: us11 => (U.asInt u10 fun n12 => (match us11 with
 | u13 :: us14 => (U.asInt u13 fun n15 => (match us14 with
 | u16 :: us17 => (U.asInt u16 fun n18 => (match us17 with
 | u19 :: us20 => (U.asInt u19 fun n21 => (match us20 with
 | u22 :: us23 => (U.asInt u22 fun n24 => (match us23 with
 | u25 :: us26 => (U.asInt u25 fun n27 => (match us26 with
 | u28 :: us29 => (U.asSlK 2 u28 fun us30 => (match us29 with
 | u31 :: us32 => (U.asSlK 2 u31 fun us33 => (match us32 with
 | [] => (U.asVar true 9 x1 fun e34 => (E 301 [e34]).bind fun t35 => (U.un .not t35).bind fun t36 => U.asBool t36
 (U.asVar true 9 x1 fun e37 => (E 222 [e37]).bind fun t38 => if storable (.val t38) = true ∧ t38.size = 9 then U.asVar true 9 t38 fun e39 => U.noTup e39 fun x40 => some (.tup [x40, (.bool false)]) else none)
 ((E 11 [a1]).bind fun t41 => (U.un .not t41).bind fun t42 => U.asBool t42
 (U.asVar true 9 x1 fun e43 => (E 222 [e43]).bind fun t44 => if storable (.val t44) = true ∧ t44.size = 9 then U.asVar true 9 t44 fun e45 => U.noTup e45 fun x46 => some (.tup [x46, (.bool false)]) else none)
 (U.asVar true 5 x2 fun e47 => (E 117 [e47]).bind fun t48 => (U.un .not t48).bind fun t49 => U.asBool t49
 (U.asVar true 9 x1 fun e50 => (E 222 [e50]).bind fun t51 => if storable (.val t51) = true ∧ t51.size = 9 then U.asVar true 9 t51 fun e52 => U.noTup e52 fun x53 => some (.tup [x53, (.bool false)]) else none)
 (U.asVar true 5 x2 fun e54 => (E 400302 (.agg [.tup [(.agg [(.int .i64 n9), (.int .i64 n12), (.int .i64 n15), (.int .i64 n18), (.int .i64 n21), (.int .i64 n24), (.int .i64 n27), (.sl 2 us30), (.sl 2 us33)])]] :: [a1, e54])).bind fun t55 => U.asPtr t55 fun y56 z57 => U.asAgg z57 fun us59 => (match us59 with
 | u60 :: us61 => (U.asInt u60 fun n62 => (match us61 with
 | u63 :: us64 => (U.asInt u63 fun n65 => (match us64 with
 | u66 :: us67 => (U.asInt u66 fun n68 => (match us67 with
 | u69 :: us70 => (U.asInt u69 fun n71 => (match us70 with
 | u72 :: us73 => (U.asInt u72 fun n74 => (match us73 with
 | u75 :: us76 => (U.asInt u75 fun n77 => (match us76 with
 | u78 :: us79 => (U.asInt u78 fun n80 => (match us79 with
 | u81 :: us82 => (U.asSlK 2 u81 fun us83 => (match us82 with
 | u84 :: us85 => (U.asSlK 2 u84 fun us86 => (match us85 with
 | [] => ((U.un .not y56).bind fun t87 => U.asBool t87
 (U.asVar true 9 x1 fun e88 => (E 222 [e88]).bind fun t89 => if storable (.val t89) = true ∧ t89.size = 9 then U.asVar true 9 t89 fun e90 => U.noTup e90 fun x91 => some (.tup [x91, (.bool false)]) else none)
 (some (.tup [(.agg [(.int .i64 n62), (.int .i64 n65), (.int .i64 n68), (.int .i64 n71), (.int .i64 n74), (.int .i64 n77), (.int .i64 n80), (.sl 2 us83), (.sl 2 us86)]), (.bool true)])))
 | _ => none))
 | [] => none))
 | [] => none))
 | [] => none))
 | [] => none))
 | [] => none))
 | [] => none))
 | [] => none))
 | [] => none))
 | [] => none)))))
 | _ => none))
 | [] => none))
 | [] => none))
 | [] => none))
 | [] => none))
 | [] => none))
 | [] => none))
 | [] => none))
 | [] => none))
 | [] => none) := (h.is _ rfl).trans ((runQ_V rfl).trans (by kernel_rfl))
def f21_ac : AC :=
 (.seq (rg [oo 2 (.box false 2 (.t 0)),
  oo 3 (.box false 3 (.t 1)),
  oo 4 (.mv (.c (.bool false)))])
 (.seq (.seq (rg [oo 5 (.faddr 0 0 (.t 2)),
  oo 6 (.load false 1 (.t 5)),
  oo 7 (.faddr 0 0 (.t 3)),
  oo 8 (.load false 1 (.t 7)),
  oo 9 (.bin .neq (.t 6) (.t 8))])
 (.cond (.t 9) (.seq (rg [oo 4 (.mv (.c (.bool false)))])
 .ret) .skip))
 (.seq (.seq (rg [oo 10 (.faddr 1 1 (.t 2)),
  oo 11 (.load false 1 (.t 10)),
  oo 12 (.faddr 1 1 (.t 3)),
  oo 13 (.load false 1 (.t 12)),
  oo 14 (.bin .neq (.t 11) (.t 13))])
 (.cond (.t 14) (.seq (rg [oo 4 (.mv (.c (.bool false)))])
 .ret) .skip))
 (.seq (rg [oo 4 (.mv (.c (.bool true)))])
 .ret))))
structure G_f21 (E : Env) : Prop where
  is : Is E 35 2 f21_ac [(4, none)]
theorem f21_E {E : Env} (h : G_f21 E) (a0 a1 : U) : E 35 [a0, a1] =
 U.noTup a0 fun x1 => U.noTup a1 fun x2 => U.asAgg x1 fun us3 => if 0 = sizes (us3.take 0) then (us3[0]?).bind fun e4 => U.asVar false 1 e4 fun e5 => U.asAgg x2 fun us6 => if 0 = sizes (us6.take 0) then (us6[0]?).bind fun e7 => U.asVar false 1 e7 fun e8 => (U.bin .neq e5 e8).bind fun t9 => U.asBool t9
 (some (.bool false))
 (U.asAgg x1 fun us10 => if 1 = sizes (us10.take 1) then (us10[1]?).bind fun e11 => U.asVar false 1 e11 fun e12 => U.asAgg x2 fun us13 => if 1 = sizes (us13.take 1) then (us13[1]?).bind fun e14 => U.asVar false 1 e14 fun e15 => (U.bin .neq e12 e15).bind fun t16 => U.asBool t16
 (some (.bool false))
 (some (.bool true)) else none else none) else none else none := (h.is _ rfl).trans ((runQ_V rfl).trans (by kernel_rfl))
def f22_b0 : AC :=
 (.seq (.seq (rg [oo 11 (.mv (.t 5)),
  oo 12 (.mv (.t 0)),
  oo 13 (.len false (.t 12)),
  oo 14 (.bin .lss (.t 11) (.t 13))])
 (.cond (.t 14) .skip (.exit 0)))
 (.seq (.block 1 (.seq (.region 10 [oo 17 (.mv (.t 0)),
  oo 18 (.mv (.t 5)),
  oo 19 (.iaddr 2 (.t 17) (.t 18)),
  oo 20 (.load true 2 (.t 19)),
  oo 21 (.mv (.t 1)),
  oo 22 (.mv (.t 5)),
  oo 23 (.iaddr 2 (.t 21) (.t 22)),
  oo 24 (.load true 2 (.t 23)),
  oo 25 (.call false 35 [(.t 20), (.t 24)]),
  oo 26 (.un .not (.t 25))])
 (.cond (.t 26) (.seq (rg [oo 4 (.mv (.c (.bool false)))])
 .ret) .skip)))
 (rg [oo 15 (.mv (.t 5)),
  oo 16 (.bin .add (.t 15) (ci 1)),
  oo 5 (.mv (.t 16))])))
def f22_r0 : AC :=
 (.seq (rg [oo 4 (.mv (.c (.bool true)))])
 .ret)
def f22_ac : AC :=
 (.seq (rg [oo 4 (.mv (.c (.bool false)))])
 (.seq (.seq (rg [oo 6 (.mv (.t 0)),
  oo 7 (.len false (.t 6)),
  oo 8 (.mv (.t 1)),
  oo 9 (.len false (.t 8)),
  oo 10 (.bin .neq (.t 7) (.t 9))])
 (.cond (.t 10) (.seq (rg [oo 4 (.mv (.c (.bool false)))])
 .ret) .skip))
 (.seq (.seq (rg [oo 5 (.mv (ci 0))])
 (.block 0 (.loop ⟨[0, 1, 5], [], []⟩ f22_b0)))
 f22_r0)))
noncomputable def f22_l0 (E : Env) (x0 : U) (x1 : U) (x5 : U) : Option U := loopK (roundOf E ⟨[0, 1, 5], [], []⟩ f22_b0 (blockK 0 (seqK (fun s => exec E f22_r0 s (finish [(4, none)])) (finish [(4, none)])))) ([.val x0, .val x1, .val x5], [])
theorem f22_l0_eq (E : Env) (x0 : U) (x1 : U) (x5 : U) : f22_l0 E x0 x1 x5 =
 (U.lenOf false x0).bind fun n4 => (U.bin .lss x5 (.int .i64 (n4 : Int))).bind fun t5 => U.asBool t5
 (U.asInt x5 fun n6 => U.elemAt 2 x0 n6 fun e7 => U.asVar true 2 e7 fun e8 => U.asInt x5 fun n9 => U.elemAt 2 x1 n9 fun e10 => U.asVar true 2 e10 fun e11 => (E 35 [e8, e11]).bind fun t12 => (U.un .not t12).bind fun t13 => U.asBool t13
 (some (.bool false))
 ((U.bin .add x5 (.int .i64 1)).bind fun t14 => f22_l0 E x0 x1 t14))
 (some (.bool true)) :=
 (loop_eq E _ _ _ _).trans (by kernel_rfl)
structure G_f22 (E : Env) : Prop where
  is : Is E 34 2 f22_ac [(4, none)]
  c_f21 : G_f21 E
theorem f22_E {E : Env} (h : G_f22 E) (a0 a1 : U) : E 34 [a0, a1] =
 (U.lenOf false a0).bind fun n1 => (U.lenOf false a1).bind fun n2 => (U.bin .neq (.int .i64 (n1 : Int)) (.int .i64 (n2 : Int))).bind fun t3 => U.asBool t3
 (some (.bool false))
 (f22_l0 E a0 a1 (.int .i64 0)) := (h.is _ rfl).trans ((runQ_V rfl).trans (by kernel_rfl))
def f24_ac : AC :=
 (.seq (rg [oo 2 (.box false 2 (.t 0)),
  oo 3 (.box false 3 (.t 1)),
  oo 4 (.mv (.c (.bool false)))])
 (.seq (.seq (rg [oo 5 (.faddr 0 0 (.t 2)),
  oo 6 (.load false 1 (.t 5)),
  oo 7 (.faddr 0 0 (.t 3)),
  oo 8 (.load false 1 (.t 7)),
  oo 9 (.bin .neq (.t 6) (.t 8))])
 (.cond (.t 9) (.seq (rg [oo 4 (.mv (.c (.bool false)))])
 .ret) .skip))
 (.seq (.seq (rg [oo 10 (.faddr 1 1 (.t 2)),
  oo 11 (.load false 1 (.t 10)),
  oo 12 (.faddr 1 1 (.t 3)),
  oo 13 (.load false 1 (.t 12)),
  oo 14 (.bin .neq (.t 11) (.t 13))])
 (.cond (.t 14) (.seq (rg [oo 4 (.mv (.c (.bool false)))])
 .ret) .skip))
 (.seq (rg [oo 4 (.mv (.c (.bool true)))])
 .ret))))
structure G_f24 (E : Env) : Prop where
  is : Is E 36 2 f24_ac [(4, none)]
theorem f24_E {E : Env} (h : G_f24 E) (a0 a1 : U) : E 36 [a0, a1] =
 U.noTup a0 fun x1 => U.noTup a1 fun x2 => U.asAgg x1 fun us3 => if 0 = sizes (us3.take 0) then (us3[0]?).bind fun e4 => U.asVar false 1 e4 fun e5 => U.asAgg x2 fun us6 => if 0 = sizes (us6.take 0) then (us6[0]?).bind fun e7 => U.asVar false 1 e7 fun e8 => (U.bin .neq e5 e8).bind fun t9 => U.asBool t9
 (some (.bool false))
 (U.asAgg x1 fun us10 => if 1 = sizes (us10.take 1) then (us10[1]?).bind fun e11 => U.asVar false 1 e11 fun e12 => U.asAgg x2 fun us13 => if 1 = sizes (us13.take 1) then (us13[1]?).bind fun e14 => U.asVar false 1 e14 fun e15 => (U.bin .neq e12 e15).bind fun t16 => U.asBool t16
 (some (.bool false))
 (some (.bool true)) else none else none) else none else none := (h.is _ rfl).trans ((runQ_V rfl).trans (by kernel_rfl))
def f25_b0 : AC :=
 (.seq (.seq (rg [oo 11 (.mv (.t 5)),
  oo 12 (.mv (.t 0)),
  oo 13 (.len false (.t 12)),
  oo 14 (.bin .lss (.t 11) (.t 13))])
 (.cond (.t 14) .skip (.exit 0)))
 (.seq (.block 1 (.seq (.region 10 [oo 17 (.mv (.t 0)),
  oo 18 (.mv (.t 5)),
  oo 19 (.iaddr 2 (.t 17) (.t 18)),
  oo 20 (.load true 2 (.t 19)),
  oo 21 (.mv (.t 1)),
  oo 22 (.mv (.t 5)),
  oo 23 (.iaddr 2 (.t 21) (.t 22)),
  oo 24 (.load true 2 (.t 23)),
  oo 25 (.call false 36 [(.t 20), (.t 24)]),
  oo 26 (.un .not (.t 25))])
 (.cond (.t 26) (.seq (rg [oo 4 (.mv (.c (.bool false)))])
 .ret) .skip)))
 (rg [oo 15 (.mv (.t 5)),
  oo 16 (.bin .add (.t 15) (ci 1)),
  oo 5 (.mv (.t 16))])))
def f25_r0 : AC :=
 (.seq (rg [oo 4 (.mv (.c (.bool true)))])
 .ret)
def f25_ac : AC :=
 (.seq (rg [oo 4 (.mv (.c (.bool false)))])
 (.seq (.seq (rg [oo 6 (.mv (.t 0)),
  oo 7 (.len false (.t 6)),
  oo 8 (.mv (.t 1)),
  oo 9 (.len false (.t 8)),
  oo 10 (.bin .neq (.t 7) (.t 9))])
 (.cond (.t 10) (.seq (rg [oo 4 (.mv (.c (.bool false)))])
 .ret) .skip))
 (.seq (.seq (rg [oo 5 (.mv (ci 0))])
 (.block 0 (.loop ⟨[0, 1, 5], [], []⟩ f25_b0)))
 f25_r0)))
noncomputable def f25_l0 (E : Env) (x0 : U) (x1 : U) (x5 : U) : Option U := loopK (roundOf E ⟨[0, 1, 5], [], []⟩ f25_b0 (blockK 0 (seqK (fun s => exec E f25_r0 s (finish [(4, none)])) (finish [(4, none)])))) ([.val x0, .val x1, .val x5], [])
theorem f25_l0_eq (E : Env) (x0 : U) (x1 : U) (x5 : U) : f25_l0 E x0 x1 x5 =
 (U.lenOf false x0).bind fun n4 => (U.bin .lss x5 (.int .i64 (n4 : Int))).bind fun t5 => U.asBool t5
 (U.asInt x5 fun n6 => U.elemAt 2 x0 n6 fun e7 => U.asVar true 2 e7 fun e8 => U.asInt x5 fun n9 => U.elemAt 2 x1 n9 fun e10 => U.asVar true 2 e10 fun e11 => (E 36 [e8, e11]).bind fun t12 => (U.un .not t12).bind fun t13 => U.asBool t13
 (some (.bool false))
 ((U.bin .add x5 (.int .i64 1)).bind fun t14 => f25_l0 E x0 x1 t14))
 (some (.bool true)) :=
 (loop_eq E _ _ _ _).trans (by kernel_rfl)
structure G_f25 (E : Env) : Prop where
  is : Is E 33 2 f25_ac [(4, none)]
  c_f24 : G_f24 E
theorem f25_E {E : Env} (h : G_f25 E) (a0 a1 : U) : E 33 [a0, a1] =
 (U.lenOf false a0).bind fun n1 => (U.lenOf false a1).bind fun n2 => (U.bin .neq (.int .i64 (n1 : Int)) (.int .i64 (n2 : Int))).bind fun t3 => U.asBool t3
 (some (.bool false))
 (f25_l0 E a0 a1 (.int .i64 0)) := (h.is _ rfl).trans ((runQ_V rfl).trans (by kernel_rfl))
def f23_ac : AC :=
 (.seq (rg [oo 2 (.box false 2 (.t 0)),
  oo 3 (.box false 3 (.t 1)),
  oo 4 (.mv (.c (.bool false)))])
 (.seq (.seq (rg [oo 5 (.faddr 0 0 (.t 2)),
  oo 6 (.load false 1 (.t 5)),
  oo 7 (.faddr 0 0 (.t 3)),
  oo 8 (.load false 1 (.t 7)),
  oo 9 (.bin .neq (.t 6) (.t 8))])
 (.cond (.t 9) (.seq (rg [oo 4 (.mv (.c (.bool false)))])
 .ret) .skip))
 (.seq (.seq (rg [oo 10 (.faddr 1 1 (.t 2)),
  oo 11 (.load false 1 (.t 10)),
  oo 12 (.faddr 1 1 (.t 3)),
  oo 13 (.load false 1 (.t 12)),
  oo 14 (.bin .neq (.t 11) (.t 13))])
 (.cond (.t 14) (.seq (rg [oo 4 (.mv (.c (.bool false)))])
 .ret) .skip))
 (.seq (.seq (rg [oo 15 (.faddr 2 2 (.t 2)),
  oo 16 (.load false 1 (.t 15)),
  oo 17 (.faddr 2 2 (.t 3)),
  oo 18 (.load false 1 (.t 17)),
  oo 19 (.bin .neq (.t 16) (.t 18))])
 (.cond (.t 19) (.seq (rg [oo 4 (.mv (.c (.bool false)))])
 .ret) .skip))
 (.seq (.seq (rg [oo 20 (.faddr 3 3 (.t 2)),
  oo 21 (.load false 1 (.t 20)),
  oo 22 (.faddr 3 3 (.t 3)),
  oo 23 (.load false 1 (.t 22)),
  oo 24 (.bin .neq (.t 21) (.t 23))])
 (.cond (.t 24) (.seq (rg [oo 4 (.mv (.c (.bool false)))])
 .ret) .skip))
 (.seq (.seq (rg [oo 25 (.faddr 4 4 (.t 2)),
  oo 26 (.load false 1 (.t 25)),
  oo 27 (.faddr 4 4 (.t 3)),
  oo 28 (.load false 1 (.t 27)),
  oo 29 (.bin .neq (.t 26) (.t 28))])
 (.cond (.t 29) (.seq (rg [oo 4 (.mv (.c (.bool false)))])
 .ret) .skip))
 (.seq (.seq (rg [oo 30 (.faddr 5 5 (.t 2)),
  oo 31 (.load false 1 (.t 30)),
  oo 32 (.faddr 5 5 (.t 3)),
  oo 33 (.load false 1 (.t 32)),
  oo 34 (.bin .neq (.t 31) (.t 33))])
 (.cond (.t 34) (.seq (rg [oo 4 (.mv (.c (.bool false)))])
 .ret) .skip))
 (.seq (.seq (rg [oo 35 (.faddr 6 6 (.t 2)),
  oo 36 (.load false 1 (.t 35)),
  oo 37 (.faddr 6 6 (.t 3)),
  oo 38 (.load false 1 (.t 37)),
  oo 39 (.bin .neq (.t 36) (.t 38))])
 (.cond (.t 39) (.seq (rg [oo 4 (.mv (.c (.bool false)))])
 .ret) .skip))
 (.seq (.seq (rg [oo 40 (.faddr 7 7 (.t 2)),
  oo 41 (.load false 1 (.t 40)),
  oo 42 (.faddr 7 7 (.t 3)),
  oo 43 (.load false 1 (.t 42)),
  oo 44 (.call false 34 [(.t 41), (.t 43)]),
  oo 45 (.un .not (.t 44))])
 (.cond (.t 45) (.seq (rg [oo 4 (.mv (.c (.bool false)))])
 .ret) .skip))
 (.seq (.seq (rg [oo 46 (.faddr 8 8 (.t 2)),
  oo 47 (.load false 1 (.t 46)),
  oo 48 (.faddr 8 8 (.t 3)),
  oo 49 (.load false 1 (.t 48)),
  oo 50 (.call false 33 [(.t 47), (.t 49)]),
  oo 51 (.un .not (.t 50))])
 (.cond (.t 51) (.seq (rg [oo 4 (.mv (.c (.bool false)))])
 .ret) .skip))
 (.seq (rg [oo 4 (.mv (.c (.bool true)))])
 .ret)))))))))))
structure G_f23 (E : Env) : Prop where
  is : Is E 177 2 f23_ac [(4, none)]
  c_f22 : G_f22 E
  c_f25 : G_f25 E
theorem f23_E {E : Env} (h : G_f23 E) (a0 a1 : U) : E 177 [a0, a1] =
 U.noTup a0 fun x1 => U.noTup a1 fun x2 => U.asAgg x1 fun us3 => if 0 = sizes (us3.take 0) then (us3[0]?).bind fun e4 => U.asVar false 1 e4 fun e5 => U.asAgg x2 fun us6 => if 0 = sizes (us6.take 0) then (us6[0]?).bind fun e7 => U.asVar false 1 e7 fun e8 => (U.bin .neq e5 e8).bind fun t9 => U.asBool t9
 (some (.bool false))
 (U.asAgg x1 fun us10 => if 1 = sizes (us10.take 1) then (us10[1]?).bind fun e11 => U.asVar false 1 e11 fun e12 => U.asAgg x2 fun us13 => if 1 = sizes (us13.take 1) then (us13[1]?).bind fun e14 => U.asVar false 1 e14 fun e15 => (U.bin .neq e12 e15).bind fun t16 => U.asBool t16
 (some (.bool false))
 (U.asAgg x1 fun us17 => if 2 = sizes (us17.take 2) then (us17[2]?).bind fun e18 => U.asVar false 1 e18 fun e19 => U.asAgg x2 fun us20 => if 2 = sizes (us20.take 2) then (us20[2]?).bind fun e21 => U.asVar false 1 e21 fun e22 => (U.bin .neq e19 e22).bind fun t23 => U.asBool t23
 (some (.bool false))
 (U.asAgg x1 fun us24 => if 3 = sizes (us24.take 3) then (us24[3]?).bind fun e25 => U.asVar false 1 e25 fun e26 => U.asAgg x2 fun us27 => if 3 = sizes (us27.take 3) then (us27[3]?).bind fun e28 => U.asVar false 1 e28 fun e29 => (U.bin .neq e26 e29).bind fun t30 => U.asBool t30
 (some (.bool false))
 (U.asAgg x1 fun us31 => if 4 = sizes (us31.take 4) then (us31[4]?).bind fun e32 => U.asVar false 1 e32 fun e33 => U.asAgg x2 fun us34 => if 4 = sizes (us34.take 4) then (us34[4]?).bind fun e35 => U.asVar false 1 e35 fun e36 => (U.bin .neq e33 e36).bind fun t37 => U.asBool t37
 (some (.bool false))
 (U.asAgg x1 fun us38 => if 5 = sizes (us38.take 5) then (us38[5]?).bind fun e39 => U.asVar false 1 e39 fun e40 => U.asAgg x2 fun us41 => if 5 = sizes (us41.take 5) then (us41[5]?).bind fun e42 => U.asVar false 1 e42 fun e43 => (U.bin .neq e40 e43).bind fun t44 => U.asBool t44
 (some (.bool false))
 (U.asAgg x1 fun us45 => if 6 = sizes (us45.take 6) then (us45[6]?).bind fun e46 => U.asVar false 1 e46 fun e47 => U.asAgg x2 fun us48 => if 6 = sizes (us48.take 6) then (us48[6]?).bind fun e49 => U.asVar false 1 e49 fun e50 => (U.bin .neq e47 e50).bind fun t51 => U.asBool t51
 (some (.bool false))
 (U.asAgg x1 fun us52 => if 7 = sizes (us52.take 7) then (us52[7]?).bind fun e53 => U.asVar false 1 e53 fun e54 => U.asAgg x2 fun us55 => if 7 = sizes (us55.take 7) then (us55[7]?).bind fun e56 => U.asVar false 1 e56 fun e57 => (E 34 [e54, e57]).bind fun t58 => (U.un .not t58).bind fun t59 => U.asBool t59
 (some (.bool false))
 (U.asAgg x1 fun us60 => if 8 = sizes (us60.take 8) then (us60[8]?).bind fun e61 => U.asVar false 1 e61 fun e62 => U.asAgg x2 fun us63 => if 8 = sizes (us63.take 8) then (us63[8]?).bind fun e64 => U.asVar false 1 e64 fun e65 => (E 33 [e62, e65]).bind fun t66 => (U.un .not t66).bind fun t67 => U.asBool t67
 (some (.bool false))
 (some (.bool true)) else none else none) else none else none) else none else none) else none else none) else none else none) else none else none) else none else none) else none else none) else none else none := (h.is _ rfl).trans ((runQ_V rfl).trans (by kernel_rfl))
def f26_b0 : AC :=
 (.seq (.seq (rg [oo 6 (.mv (.t 5)),
  oo 7 (.mv (.t 0)),
  oo 8 (.len false (.t 7)),
  oo 9 (.bin .lss (.t 6) (.t 8))])
 (.cond (.t 9) .skip (.exit 0)))
 (.seq (.block 1 (.seq (.seq (rg [oo 12 (.mv (.t 0)),
  oo 13 (.mv (.t 5)),
  oo 14 (.iaddr 2 (.t 12) (.t 13)),
  oo 15 (.faddr 0 0 (.t 14)),
  oo 16 (.load false 1 (.t 15)),
  oo 17 (.mv (.t 1)),
  oo 18 (.bin .neq (.t 16) (.t 17))])
 (.cond (.t 18) (.seq (rg [oo 4 (.mv (ci (-1)))])
 .ret) .skip))
 (.seq (rg [oo 19 (.mv (.t 1)),
  oo 20 (.bin .add (.t 19) (ci 1)),
  oo 1 (.mv (.t 20))])
 (.seq (.seq (rg [oo 21 (.mv (.t 0)),
  oo 22 (.mv (.t 5)),
  oo 23 (.iaddr 2 (.t 21) (.t 22)),
  oo 24 (.faddr 1 1 (.t 23)),
  oo 25 (.load false 1 (.t 24)),
  oo 26 (.mv (.t 1)),
  oo 27 (.bin .neq (.t 25) (.t 26))])
 (.cond (.t 27) (.seq (rg [oo 4 (.mv (ci (-1)))])
 .ret) .skip))
 (rg [oo 28 (.mv (.t 1)),
  oo 29 (.bin .add (.t 28) (ci 1)),
  oo 1 (.mv (.t 29))])))))
 (rg [oo 10 (.mv (.t 5)),
  oo 11 (.bin .add (.t 10) (ci 1)),
  oo 5 (.mv (.t 11))])))
def f26_r0 : AC :=
 (.seq (rg [oo 30 (.mv (.t 1)),
  oo 4 (.mv (.t 30))])
 .ret)
def f26_ac : AC :=
 (.seq (rg [oo 4 (.mv (ci 0))])
 (.seq (.seq (rg [oo 5 (.mv (ci 0))])
 (.block 0 (.loop ⟨[0, 1, 5], [], []⟩ f26_b0)))
 f26_r0))
noncomputable def f26_l0 (E : Env) (x0 : U) (x1 : U) (x5 : U) : Option U := loopK (roundOf E ⟨[0, 1, 5], [], []⟩ f26_b0 (blockK 0 (seqK (fun s => exec E f26_r0 s (finish [(4, none)])) (finish [(4, none)])))) ([.val x0, .val x1, .val x5], [])
theorem f26_l0_eq (E : Env) (x0 : U) (x1 : U) (x5 : U) : f26_l0 E x0 x1 x5 =
 (U.lenOf false x0).bind fun n1 => (U.bin .lss x5 (.int .i64 (n1 : Int))).bind fun t2 => U.asBool t2
 (U.asInt x5 fun n3 => U.elemAt 2 x0 n3 fun e4 => U.fieldAt 0 0 e4 fun f5 => U.asVar false 1 f5 fun e6 => (U.bin .neq e6 x1).bind fun t7 => U.asBool t7
 (some (.int .i64 (-1)))
 ((U.bin .add x1 (.int .i64 1)).bind fun t8 => U.asInt x5 fun n9 => U.elemAt 2 x0 n9 fun e10 => U.fieldAt 1 1 e10 fun f11 => U.asVar false 1 f11 fun e12 => (U.bin .neq e12 t8).bind fun t13 => U.asBool t13
 (some (.int .i64 (-1)))
 ((U.bin .add t8 (.int .i64 1)).bind fun t14 => (U.bin .add x5 (.int .i64 1)).bind fun t15 => f26_l0 E x0 t14 t15)))
 (some x1) :=
 (loop_eq E _ _ _ _).trans (by kernel_rfl)
structure G_f26 (E : Env) : Prop where
  is : Is E 92 2 f26_ac [(4, none)]
theorem f26_E {E : Env} (h : G_f26 E) (a0 a1 : U) : E 92 [a0, a1] =
 f26_l0 E a0 a1 (.int .i64 0) := (h.is _ rfl).trans ((runQ_V rfl).trans (by kernel_rfl))
def f28_b0 : AC :=
 (.seq (.seq (rg [oo 6 (.mv (.t 5)),
  oo 7 (.mv (.t 0)),
  oo 8 (.len false (.t 7)),
  oo 9 (.bin .lss (.t 6) (.t 8))])
 (.cond (.t 9) .skip (.exit 0)))
 (.seq (.block 1 (.seq (.seq (rg [oo 12 (.mv (.t 0)),
  oo 13 (.mv (.t 5)),
  oo 14 (.iaddr 2 (.t 12) (.t 13)),
  oo 15 (.faddr 0 0 (.t 14)),
  oo 16 (.load false 1 (.t 15)),
  oo 17 (.mv (.t 1)),
  oo 18 (.bin .neq (.t 16) (.t 17))])
 (.cond (.t 18) (.seq (rg [oo 4 (.mv (ci (-1)))])
 .ret) .skip))
 (.seq (rg [oo 19 (.mv (.t 1)),
  oo 20 (.bin .add (.t 19) (ci 1)),
  oo 1 (.mv (.t 20))])
 (.seq (.seq (rg [oo 21 (.mv (.t 0)),
  oo 22 (.mv (.t 5)),
  oo 23 (.iaddr 2 (.t 21) (.t 22)),
  oo 24 (.faddr 1 1 (.t 23)),
  oo 25 (.load false 1 (.t 24)),
  oo 26 (.mv (.t 1)),
  oo 27 (.bin .neq (.t 25) (.t 26))])
 (.cond (.t 27) (.seq (rg [oo 4 (.mv (ci (-1)))])
 .ret) .skip))
 (rg [oo 28 (.mv (.t 1)),
  oo 29 (.bin .add (.t 28) (ci 1)),
  oo 1 (.mv (.t 29))])))))
 (rg [oo 10 (.mv (.t 5)),
  oo 11 (.bin .add (.t 10) (ci 1)),
  oo 5 (.mv (.t 11))])))
def f28_r0 : AC :=
 (.seq (rg [oo 30 (.mv (.t 1)),
  oo 4 (.mv (.t 30))])
 .ret)
def f28_ac : AC :=
 (.seq (rg [oo 4 (.mv (ci 0))])
 (.seq (.seq (rg [oo 5 (.mv (ci 0))])
 (.block 0 (.loop ⟨[0, 1, 5], [], []⟩ f28_b0)))
 f28_r0))
noncomputable def f28_l0 (E : Env) (x0 : U) (x1 : U) (x5 : U) : Option U := loopK (roundOf E ⟨[0, 1, 5], [], []⟩ f28_b0 (blockK 0 (seqK (fun s => exec E f28_r0 s (finish [(4, none)])) (finish [(4, none)])))) ([.val x0, .val x1, .val x5], [])
theorem f28_l0_eq (E : Env) (x0 : U) (x1 : U) (x5 : U) : f28_l0 E x0 x1 x5 =
 (U.lenOf false x0).bind fun n1 => (U.bin .lss x5 (.int .i64 (n1 : Int))).bind fun t2 => U.asBool t2
 (U.asInt x5 fun n3 => U.elemAt 2 x0 n3 fun e4 => U.fieldAt 0 0 e4 fun f5 => U.asVar false 1 f5 fun e6 => (U.bin .neq e6 x1).bind fun t7 => U.asBool t7
 (some (.int .i64 (-1)))
 ((U.bin .add x1 (.int .i64 1)).bind fun t8 => U.asInt x5 fun n9 => U.elemAt 2 x0 n9 fun e10 => U.fieldAt 1 1 e10 fun f11 => U.asVar false 1 f11 fun e12 => (U.bin .neq e12 t8).bind fun t13 => U.asBool t13
 (some (.int .i64 (-1)))
 ((U.bin .add t8 (.int .i64 1)).bind fun t14 => (U.bin .add x5 (.int .i64 1)).bind fun t15 => f28_l0 E x0 t14 t15)))
 (some x1) :=
 (loop_eq E _ _ _ _).trans (by kernel_rfl)
structure G_f28 (E : Env) : Prop where
  is : Is E 235 2 f28_ac [(4, none)]
theorem f28_E {E : Env} (h : G_f28 E) (a0 a1 : U) : E 235 [a0, a1] =
 f28_l0 E a0 a1 (.int .i64 0) := (h.is _ rfl).trans ((runQ_V rfl).trans (by kernel_rfl))
def f27_ac : AC :=
 (.seq (rg [oo 2 (.box false 2 (.t 0)),
  oo 4 (.mv (ci 0))])
 (.seq (rg [oo 5 (.faddr 7 7 (.t 2)),
  oo 6 (.load false 1 (.t 5)),
  oo 7 (.mv (.t 1)),
  oo 8 (.call false 92 [(.t 6), (.t 7)]),
  oo 1 (.mv (.t 8))])
 (.seq (.seq (rg [oo 9 (.mv (.t 1)),
  oo 10 (.bin .lss (.t 9) (ci 0))])
 (.cond (.t 10) (.seq (rg [oo 4 (.mv (ci (-1)))])
 .ret) .skip))
 (.seq (rg [oo 11 (.faddr 8 8 (.t 2)),
  oo 12 (.load false 1 (.t 11)),
  oo 13 (.mv (.t 1)),
  oo 14 (.call false 235 [(.t 12), (.t 13)]),
  oo 1 (.mv (.t 14))])
 (.seq (.seq (rg [oo 15 (.mv (.t 1)),
  oo 16 (.bin .lss (.t 15) (ci 0))])
 (.cond (.t 16) (.seq (rg [oo 4 (.mv (ci (-1)))])
 .ret) .skip))
 (.seq (rg [oo 17 (.mv (.t 1)),
  oo 4 (.mv (.t 17))])
 .ret))))))
structure G_f27 (E : Env) : Prop where
  is : Is E 205 2 f27_ac [(4, none)]
  c_f26 : G_f26 E
  c_f28 : G_f28 E
theorem f27_E {E : Env} (h : G_f27 E) (a0 a1 : U) : E 205 [a0, a1] =
 U.noTup a0 fun x1 => U.asAgg x1 fun us2 => if 7 = sizes (us2.take 7) then (us2[7]?).bind fun e3 => U.asVar false 1 e3 fun e4 => (E 92 [e4, a1]).bind fun t5 => (U.bin .lss t5 (.int .i64 0)).bind fun t6 => U.asBool t6
 (some (.int .i64 (-1)))
 (U.asAgg x1 fun us7 => if 8 = sizes (us7.take 8) then (us7[8]?).bind fun e8 => U.asVar false 1 e8 fun e9 => (E 235 [e9, t5]).bind fun t10 => (U.bin .lss t10 (.int .i64 0)).bind fun t11 => U.asBool t11
 (some (.int .i64 (-1)))
 (some t10) else none) else none := (h.is _ rfl).trans ((runQ_V rfl).trans (by kernel_rfl))
def f36_b0 : AC :=
 (.seq (.seq (rg [oo 8 (.mv (.t 4)),
  oo 9 (.mv (.t 0)),
  oo 10 (.len false (.t 9)),
  oo 11 (.bin .lss (.t 8) (.t 10))])
 (.cond (.t 11) .skip (.exit 0)))
 (.seq (.block 1 (rg [oo 14 (.mv (.t 3)),
  oo 15 (.mv (.t 4)),
  oo 16 (.mv (.t 0)),
  oo 17 (.mv (.t 4)),
  oo 18 (.iaddr 2 (.t 16) (.t 17)),
  oo 19 (.load true 2 (.t 18)),
  oo 20 (.call false 29 [(.t 19)]),
  oo 21 (.iaddr 2 (.t 14) (.t 15)),
  ⟨none, .store 2 (.t 21) (.t 20), none⟩]))
 (rg [oo 12 (.mv (.t 4)),
  oo 13 (.bin .add (.t 12) (ci 1)),
  oo 4 (.mv (.t 13))])))
def f36_r0 : AC :=
 (.seq (rg [oo 22 (.mv (.t 3)),
  oo 2 (.mv (.t 22))])
 .ret)
def f36_ac : AC :=
 (.seq (rg [oo 2 (.mv (.c (.nsl 2)))])
 (.seq (rg [oo 5 (.mv (.t 0)),
  oo 6 (.len false (.t 5)),
  oo 7 (.mkslice 7 2 16 (.agg [(.int .i64 0), (.int .i64 0)]) (.t 6) (.t 6)),
  oo 3 (.mv (.t 7))])
 (.seq (.seq (rg [oo 4 (.mv (ci 0))])
 (.block 0 (.loop ⟨[0, 4], [(3, 2, false)], []⟩ f36_b0)))
 f36_r0)))
noncomputable def f36_l0 (E : Env) (x0 : U) (x4 : U) (c3 : List U) : Option U := loopK (roundOf E ⟨[0, 4], [(3, 2, false)], []⟩ f36_b0 (blockK 0 (seqK (fun s => exec E f36_r0 s (finishF [(2, none)])) (finishF [(2, none)])))) ([.val x0, .val x4], [.vir (.asl 2 c3)])
theorem f36_l0_eq (E : Env) (x0 : U) (x4 : U) (c3 : List U) : f36_l0 E x0 x4 c3 =
 (U.lenOf false x0).bind fun n2 => (U.bin .lss x4 (.int .i64 (n2 : Int))).bind fun t3 => U.asBool t3
 (U.asInt x4 fun n4 => U.elemAt 2 x0 n4 fun e5 => U.asVar true 2 e5 fun e6 => (E 29 [e6]).bind fun t7 => U.asInt x4 fun n8 => if 2 = 2 ∧ 0 ≤ n8 ∧ n8 < ((c3).length : Int) then if storable (.val t7) = true ∧ t7.size = 2 then (c3[(n8 : Int).toNat]?).bind fun e9 => if e9.size = 2 then (U.bin .add x4 (.int .i64 1)).bind fun t10 => f36_l0 E x0 t10 (c3.set (n8 : Int).toNat t7) else none else none else none)
 (if U.flat.flats c3 = true then some (.sl 2 c3) else none) :=
 (loop_eq E _ _ _ _).trans (by kernel_rfl)
structure G_f36 (E : Env) : Prop where
  is : Is E 100028 1 f36_ac [(2, none)]
  c_f34 : G_f34 E
theorem f36_E {E : Env} (h : G_f36 E) (a0 : U) : E 100028 [a0] =
 (U.lenOf false a0).bind fun n1 => if 0 ≤ (n1 : Int) ∧ (n1 : Int) ≤ (n1 : Int) ∧ (n1 : Int) * 16 ≤ 140737488355328 ∧ ((.agg [(.int .i64 0), (.int .i64 0)]) : U).size = 2 then f36_l0 E a0 (.int .i64 0) (List.replicate ((n1 : Int) : Int).toNat (.agg [(.int .i64 0), (.int .i64 0)])) else none := (h.is _ rfl).trans ((runQ_F rfl).trans (by kernel_rfl))
def f42_b0 : AC :=
 (.seq (.seq (rg [oo 8 (.mv (.t 4)),
  oo 9 (.mv (.t 0)),
  oo 10 (.len false (.t 9)),
  oo 11 (.bin .lss (.t 8) (.t 10))])
 (.cond (.t 11) .skip (.exit 0)))
 (.seq (.block 1 (rg [oo 14 (.mv (.t 3)),
  oo 15 (.mv (.t 4)),
  oo 16 (.mv (.t 0)),
  oo 17 (.mv (.t 4)),
  oo 18 (.iaddr 2 (.t 16) (.t 17)),
  oo 19 (.load true 2 (.t 18)),
  oo 20 (.call false 30 [(.t 19)]),
  oo 21 (.iaddr 2 (.t 14) (.t 15)),
  ⟨none, .store 2 (.t 21) (.t 20), none⟩]))
 (rg [oo 12 (.mv (.t 4)),
  oo 13 (.bin .add (.t 12) (ci 1)),
  oo 4 (.mv (.t 13))])))
def f42_r0 : AC :=
 (.seq (rg [oo 22 (.mv (.t 3)),
  oo 2 (.mv (.t 22))])
 .ret)
def f42_ac : AC :=
 (.seq (rg [oo 2 (.mv (.c (.nsl 2)))])
 (.seq (rg [oo 5 (.mv (.t 0)),
  oo 6 (.len false (.t 5)),
  oo 7 (.mkslice 7 2 16 (.agg [(.int .i64 0), (.int .i64 0)]) (.t 6) (.t 6)),
  oo 3 (.mv (.t 7))])
 (.seq (.seq (rg [oo 4 (.mv (ci 0))])
 (.block 0 (.loop ⟨[0, 4], [(3, 2, false)], []⟩ f42_b0)))
 f42_r0)))
noncomputable def f42_l0 (E : Env) (x0 : U) (x4 : U) (c3 : List U) : Option U := loopK (roundOf E ⟨[0, 4], [(3, 2, false)], []⟩ f42_b0 (blockK 0 (seqK (fun s => exec E f42_r0 s (finishF [(2, none)])) (finishF [(2, none)])))) ([.val x0, .val x4], [.vir (.asl 2 c3)])
theorem f42_l0_eq (E : Env) (x0 : U) (x4 : U) (c3 : List U) : f42_l0 E x0 x4 c3 =
 (U.lenOf false x0).bind fun n2 => (U.bin .lss x4 (.int .i64 (n2 : Int))).bind fun t3 => U.asBool t3
 (U.asInt x4 fun n4 => U.elemAt 2 x0 n4 fun e5 => U.asVar true 2 e5 fun e6 => (E 30 [e6]).bind fun t7 => U.asInt x4 fun n8 => if 2 = 2 ∧ 0 ≤ n8 ∧ n8 < ((c3).length : Int) then if storable (.val t7) = true ∧ t7.size = 2 then (c3[(n8 : Int).toNat]?).bind fun e9 => if e9.size = 2 then (U.bin .add x4 (.int .i64 1)).bind fun t10 => f42_l0 E x0 t10 (c3.set (n8 : Int).toNat t7) else none else none else none)
 (if U.flat.flats c3 = true then some (.sl 2 c3) else none) :=
 (loop_eq E _ _ _ _).trans (by kernel_rfl)
structure G_f42 (E : Env) : Prop where
  is : Is E 100027 1 f42_ac [(2, none)]
  c_f40 : G_f40 E
theorem f42_E {E : Env} (h : G_f42 E) (a0 : U) : E 100027 [a0] =
 (U.lenOf false a0).bind fun n1 => if 0 ≤ (n1 : Int) ∧ (n1 : Int) ≤ (n1 : Int) ∧ (n1 : Int) * 16 ≤ 140737488355328 ∧ ((.agg [(.int .i64 0), (.int .i64 0)]) : U).size = 2 then f42_l0 E a0 (.int .i64 0) (List.replicate ((n1 : Int) : Int).toNat (.agg [(.int .i64 0), (.int .i64 0)])) else none := (h.is _ rfl).trans ((runQ_F rfl).trans (by kernel_rfl))
def f38_ac : AC :=
 (.seq (rg [oo 1 (.box false 1 (.t 0)),
  oo 2 (.alloc 2 (.agg [(.int .i64 0), (.int .i64 0), (.int .i64 0), (.int .i64 0), (.int .i64 0), (.int .i64 0), (.int .i64 0), (.nsl 2), (.nsl 2)]))])
 (.seq (rg [oo 3 (.alloc 3 (.agg [(.int .i64 0), (.int .i64 0), (.int .i64 0), (.int .i64 0), (.int .i64 0), (.int .i64 0), (.int .i64 0), (.nsl 2), (.nsl 2)]))])
 (.seq (rg [oo 4 (.faddr 0 0 (.t 1)),
  oo 5 (.load false 1 (.t 4)),
  oo 6 (.faddr 0 0 (.t 3)),
  ⟨none, .store 1 (.t 6) (.t 5), none⟩])
 (.seq (rg [oo 7 (.faddr 1 1 (.t 1)),
  oo 8 (.load false 1 (.t 7)),
  oo 9 (.faddr 1 1 (.t 3)),
  ⟨none, .store 1 (.t 9) (.t 8), none⟩])
 (.seq (rg [oo 10 (.faddr 2 2 (.t 1)),
  oo 11 (.load false 1 (.t 10)),
  oo 12 (.faddr 2 2 (.t 3)),
  ⟨none, .store 1 (.t 12) (.t 11), none⟩])
 (.seq (rg [oo 13 (.faddr 3 3 (.t 1)),
  oo 14 (.load false 1 (.t 13)),
  oo 15 (.faddr 3 3 (.t 3)),
  ⟨none, .store 1 (.t 15) (.t 14), none⟩])
 (.seq (rg [oo 16 (.faddr 4 4 (.t 1)),
  oo 17 (.load false 1 (.t 16)),
  oo 18 (.faddr 4 4 (.t 3)),
  ⟨none, .store 1 (.t 18) (.t 17), none⟩])
 (.seq (rg [oo 19 (.faddr 5 5 (.t 1)),
  oo 20 (.load false 1 (.t 19)),
  oo 21 (.faddr 5 5 (.t 3)),
  ⟨none, .store 1 (.t 21) (.t 20), none⟩])
 (.seq (rg [oo 22 (.faddr 6 6 (.t 1)),
  oo 23 (.load false 1 (.t 22)),
  oo 24 (.faddr 6 6 (.t 3)),
  ⟨none, .store 1 (.t 24) (.t 23), none⟩])
 (.seq (rg [oo 25 (.faddr 7 7 (.t 1)),
  oo 26 (.load false 1 (.t 25)),
  oo 27 (.callF 27 false [(.sl 2)] 28 [(.t 26)]),
  oo 28 (.faddr 7 7 (.t 3)),
  ⟨none, .storeM 3000 1 (.t 28) (.t 27), none⟩])
 (.seq (rg [oo 29 (.faddr 8 8 (.t 1)),
  oo 30 (.load false 1 (.t 29)),
  oo 31 (.callF 31 false [(.sl 2)] 27 [(.t 30)]),
  oo 32 (.faddr 8 8 (.t 3)),
  ⟨none, .storeM 3002 1 (.t 32) (.t 31), none⟩])
 (.seq (rg [oo 33 (.loadO (.agg [.int, .int, .int, .int, .int, .int, .int, (.sl 2), (.sl 2)]) (.t 3)),
  ⟨none, .storeM 3001 9 (.t 2) (.t 33), none⟩])
 .ret))))))))))))
structure G_f38 (E : Env) : Prop where
  is : Is E 100145 1 f38_ac [(2, some (true, 9))]
  c_f36 : G_f36 E
  c_f42 : G_f42 E
theorem f38_E {E : Env} (h : G_f38 E) (a0 : U) : E 100145 [a0] =
 U.noTup a0 fun x1 => U.asAgg x1 fun us2 => if 0 = sizes (us2.take 0) then (us2[0]?).bind fun e3 => U.asVar false 1 e3 fun e4 => if storable (.val e4) = true ∧ e4.size = 1 then U.asAgg x1 fun us5 => if 1 = sizes (us5.take 1) then (us5[1]?).bind fun e6 => U.asVar false 1 e6 fun e7 => if storable (.val e7) = true ∧ e7.size = 1 then if 1 = sizes [e4] then U.asAgg x1 fun us8 => if 2 = sizes (us8.take 2) then (us8[2]?).bind fun e9 => U.asVar false 1 e9 fun e10 => if storable (.val e10) = true ∧ e10.size = 1 then if 2 = sizes [e4, e7] then U.asAgg x1 fun us11 => if 3 = sizes (us11.take 3) then (us11[3]?).bind fun e12 => U.asVar false 1 e12 fun e13 => if storable (.val e13) = true ∧ e13.size = 1 then if 3 = sizes [e4, e7, e10] then U.asAgg x1 fun us14 => if 4 = sizes (us14.take 4) then (us14[4]?).bind fun e15 => U.asVar false 1 e15 fun e16 => if storable (.val e16) = true ∧ e16.size = 1 then if 4 = sizes [e4, e7, e10, e13] then U.asAgg x1 fun us17 => if 5 = sizes (us17.take 5) then (us17[5]?).bind fun e18 => U.asVar false 1 e18 fun e19 => if storable (.val e19) = true ∧ e19.size = 1 then if 5 = sizes [e4, e7, e10, e13, e16] then U.asAgg x1 fun us20 => if 6 = sizes (us20.take 6) then (us20[6]?).bind fun e21 => U.asVar false 1 e21 fun e22 => if storable (.val e22) = true ∧ e22.size = 1 then if 6 = sizes [e4, e7, e10, e13, e16, e19] then U.asAgg x1 fun us23 => if 7 = sizes (us23.take 7) then (us23[7]?).bind fun e24 => U.asVar false 1 e24 fun e25 => (E 100028 [e25]).bind fun t26 => U.noTup t26 fun x27 => U.asSlK 2 x27 fun us28 => if 7 = sizes [e4, e7, e10, e13, e16, e19, e22] then if 7 = sizes [e4, e7, e10, e13, e16, e19, e22] then if 7 = dsizes [.val e4, .val e7, .val e10, .val e13, .val e16, .val e19, .val e22] then U.asAgg x1 fun us29 => if 8 = sizes (us29.take 8) then (us29[8]?).bind fun e30 => U.asVar false 1 e30 fun e31 => (E 100027 [e31]).bind fun t32 => U.noTup t32 fun x33 => U.asSlK 2 x33 fun us34 => if 8 = dsizes [.val e4, .val e7, .val e10, .val e13, .val e16, .val e19, .val e22, .own (.sl 2 us28)] then if 8 = dsizes [.val e4, .val e7, .val e10, .val e13, .val e16, .val e19, .val e22, .own (.sl 2 us28)] then if 8 = dsizes [.val e4, .val e7, .val e10, .val e13, .val e16, .val e19, .val e22, .own (.sl 2 us28)] then U.asInt e4 fun n35 => U.asInt e7 fun n36 => U.asInt e10 fun n37 => U.asInt e13 fun n38 => U.asInt e16 fun n39 => U.asInt e19 fun n40 => U.asInt e22 fun n41 => if 7 = dsizes [.val e4, .val e7, .val e10, .val e13, .val e16, .val e19, .val e22] then if 7 = dsizes [.val e4, .val e7, .val e10, .val e13, .val e16, .val e19, .val e22] then if 8 = dsizes [.val e4, .val e7, .val e10, .val e13, .val e16, .val e19, .val e22, .junk 1] then if 8 = dsizes [.val e4, .val e7, .val e10, .val e13, .val e16, .val e19, .val e22, .junk 1] then some (.agg [(.int .i64 n35), (.int .i64 n36), (.int .i64 n37), (.int .i64 n38), (.int .i64 n39), (.int .i64 n40), (.int .i64 n41), (.sl 2 us28), (.sl 2 us34)]) else none else none else none else none else none else none else none else none else none else none else none else none else none else none else none else none else none else none else none else none else none else none else none else none else none else none else none else none else none else none else none else none := (h.is _ rfl).trans ((runQ_F rfl).trans (by kernel_rfl))
def f7_ac : AC :=
 (.seq (rg [oo 3 (.box false 3 (.t 0)),
  oo 5 (.box false 5 (.t 2)),
  oo 6 (.alloc 6 (.agg [(.int .i64 0), (.int .i64 0), (.int .i64 0), (.int .i64 0), (.int .i64 0), (.int .i64 0), (.int .i64 0), (.nsl 2), (.nsl 2)])),
  oo 7 (.mv (.c (.bool false)))])
 (.seq (rg [oo 9 (.load true 9 (.t 3)),
  oo 10 (.callF 10 false [(.agg [.int, .int, .int, .int, .int, .int, .int, (.sl 2), (.sl 2)])] 222 [(.t 9)]),
  oo 8 (.alloc 8 (.agg [(.int .i64 0), (.int .i64 0), (.int .i64 0), (.int .i64 0), (.int .i64 0), (.int .i64 0), (.int .i64 0), (.nsl 2), (.nsl 2)])),
  ⟨none, .storeM 3001 9 (.t 8) (.t 10), none⟩])
 (.seq (.seq (rg [oo 11 (.load true 9 (.t 3)),
  oo 12 (.call false 301 [(.t 11)]),
  oo 13 (.un .not (.t 12)),
  oo 14 (.mv (.t 13)),
  ⟨some 15, .mv (.t 1), some (14, false)⟩,
  ⟨some 16, .call false 11 [(.t 15)], some (14, false)⟩,
  ⟨some 17, .un .not (.t 16), some (14, false)⟩,
  oo 18 (.pick (.t 14) (.c (.bool true)) (.t 17)),
  oo 19 (.mv (.t 18)),
  ⟨some 20, .load true 5 (.t 5), some (19, false)⟩,
  ⟨some 21, .call false 117 [(.t 20)], some (19, false)⟩,
  ⟨some 22, .un .not (.t 21), some (19, false)⟩,
  oo 23 (.pick (.t 19) (.c (.bool true)) (.t 22)),
  oo 24 (.mv (.t 23)),
  ⟨some 25, .mv (.t 1), some (24, false)⟩,
  ⟨some 26, .load true 5 (.t 5), some (24, false)⟩,
  ⟨some 27, .callP (.agg [(.agg [.int, .int, .int, .int, .int, .int, .int, (.sl 2), (.sl 2)])]) 302 (.t 8) [(.t 25), (.t 26)], some (24, false)⟩,
  ⟨some 28, .un .not (.t 27), some (24, false)⟩,
  oo 29 (.pick (.t 24) (.c (.bool true)) (.t 28))])
 (.cond (.t 29) (.seq (rg [oo 30 (.load true 9 (.t 3)),
  oo 31 (.callF 31 false [(.agg [.int, .int, .int, .int, .int, .int, .int, (.sl 2), (.sl 2)])] 222 [(.t 30)]),
  ⟨none, .storeM 3000 9 (.t 6) (.t 31), none⟩,
  oo 7 (.mv (.c (.bool false)))])
 .ret) .skip))
 (.seq (rg [oo 32 (.loadO (.agg [.int, .int, .int, .int, .int, .int, .int, (.sl 2), (.sl 2)]) (.t 8)),
  ⟨none, .storeM 3002 9 (.t 6) (.t 32), none⟩,
  oo 7 (.mv (.c (.bool true)))])
 .ret))))
structure G_f7 (E : Env) : Prop where
  is : Is E 100298 3 f7_ac [(6, some (true, 9)), (7, none)]
  c_f10 : G_f10 E
  c_f17 : G_f17 E
  c_f5 : G_f5 E
  c_f9 : G_f9 E
  c_f11 : G_f11 E
theorem f7_E {E : Env} (h : G_f7 E) (a0 a1 a2 : U) : E 100298 [a0, a1, a2] =
 U.noTup a0 fun x1 => U.noTup a2 fun x2 => U.asVar true 9 x1 fun e3 => (E 100222 [e3]).bind fun t4 => U.noTup t4 fun x5 => U.asAgg x5 fun us6 => (match us6 with
 | u7 :: us8 => (U.asInt u7 fun n9 => (match us8 with
 | u10 :: us11 => (U.asInt u10 fun n12 => (match us11 with
 | u13 :: us14 => (U.asInt u13 fun n15 => (match us14 with
 | u16 :: us17 => (U.asInt u16 fun n18 => (match us17 with
 | u19 :: us20 => (U.asInt u19 fun n21 => (match us20 with
 | u22 :: us23 => (U.asInt u22 fun n24 => (match us23 with
 | u25 :: us26 => (U.asInt u25 fun n27 => (match us26 with
 | u28 :: us29 => (U.asSlK 2 u28 fun us30 => (match us29 with
 | u31 :: us32 => (U.asSlK 2 u31 fun us33 => (match us32 with
 | [] => (U.asVar true 9 x1 fun e34 => (E 301 [e34]).bind fun t35 => (U.un .not t35).bind fun t36 => U.asBool t36
 (U.asVar true 9 x1 fun e37 => (E 100222 [e37]).bind fun t38 => U.noTup t38 fun x39 => U.asAgg x39 fun us40 => (match us40 with
 | u41 :: us42 => (U.asInt u41 fun n43 => (match us42 with
 | u44 :: us45 => (U.asInt u44 fun n46 => (match us45 with
 | u47 :: us48 => (U.asInt u47 fun n49 => (match us48 with
 | u50 :: us51 => (U.asInt u50 fun n52 => (match us51 with
 | u53 :: us54 => (U.asInt u53 fun n55 => (match us54 with
 | u56 :: us57 => (U.asInt u56 fun n58 => (match us57 with
 | u59 :: us60 => (U.asInt u59 fun n61 => (match us60 with
 | u62 :: us63 => (U.asSlK 2 u62 fun us64 => (match us63 with
 | u65 :: us66 => (U.asSlK 2 u65 fun us67 => (match us66 with
 | [] => (some (.tup [(.agg [(.int .i64 n43), (.int .i64 n46), (.int .i64 n49), (.int .i64 n52), (.int .i64 n55), (.int .i64 n58), (.int .i64 n61), (.sl 2 us64), (.sl 2 us67)]), (.bool false)]))
 | _ => none))
 | [] => none))
 | [] => none))
 | [] => none))
 | [] => none))
 | [] => none))
 | [] => none))
 | [] => none))
 | [] => none))
 | [] => none))
 ((E 11 [a1]).bind fun t68 => (U.un .not t68).bind fun t69 => U.asBool t69
 (U.asVar true 9 x1 fun e70 => (E 100222 [e70]).bind fun t71 => U.noTup t71 fun x72 => U.asAgg x72 fun us73 => (match us73 with
 | u74 :: us75 => (U.asInt u74 fun n76 => (match us75 with
 | u77 :: us78 => (U.asInt u77 fun n79 => (match us78 with
 | u80 :: us81 => (U.asInt u80 fun n82 => (match us81 with
 | u83 :: us84 => (U.asInt u83 fun n85 => (match us84 with
 | u86 :: us87 => (U.asInt u86 fun n88 => (match us87 with
 | u89 :: us90 => (U.asInt u89 fun n91 => (match us90 with
 | u92 :: us93 => (U.asInt u92 fun n94 => (match us93 with
 | u95 :: us96 => (U.asSlK 2 u95 fun us97 => (match us96 with
 | u98 :: us99 => (U.asSlK 2 u98 fun us100 => (match us99 with
 | [] => (some (.tup [(.agg [(.int .i64 n76), (.int .i64 n79), (.int .i64 n82), (.int .i64 n85), (.int .i64 n88), (.int .i64 n91), (.int .i64 n94), (.sl 2 us97), (.sl 2 us100)]), (.bool false)]))
 | _ => none))
 | [] => none))
 | [] => none))
 | [] => none))
 | [] => none))
 | [] => none))
 | [] => none))
 | [] => none))
 | [] => none))
 | [] => none))
 (U.asVar true 5 x2 fun e101 => (E 117 [e101]).bind fun t102 => (U.un .not t102).bind fun t103 => U.asBool t103
 (U.asVar true 9 x1 fun e104 => (E 100222 [e104]).bind fun t105 => U.noTup t105 fun x106 => U.asAgg x106 fun us107 => (match us107 with
 | u108 :: us109 => (U.asInt u108 fun n110 => (match us109 with
 | u111 :: us112 => (U.asInt u111 fun n113 => (match us112 with
 | u114 :: us115 => (U.asInt u114 fun n116 => (match us115 with
 | u117 :: us118 => (U.asInt u117 fun n119 => (match us118 with
 | u120 :: us121 => (U.asInt u120 fun n122 => (match us121 with
 | u123 :: us124 => (U.asInt u123 fun n125 => (match us124 with
 | u126 :: us127 => (U.asInt u126 fun n128 => (match us127 with
 | u129 :: us130 => (U.asSlK 2 u129 fun us131 => (match us130 with
 | u132 :: us133 => (U.asSlK 2 u132 fun us134 => (match us133 with
 | [] => (some (.tup [(.agg [(.int .i64 n110), (.int .i64 n113), (.int .i64 n116), (.int .i64 n119), (.int .i64 n122), (.int .i64 n125), (.int .i64 n128), (.sl 2 us131), (.sl 2 us134)]), (.bool false)]))
 | _ => none))
 | [] => none))
 | [] => none))
 | [] => none))
 | [] => none))
 | [] => none))
 | [] => none))
 | [] => none))
 | [] => none))
 | [] => none))
 (U.asVar true 5 x2 fun e135 => (E 400302 (.agg [.tup [(.agg [(.int .i64 n9), (.int .i64 n12), (.int .i64 n15), (.int .i64 n18), (.int .i64 n21), (.int .i64 n24), (.int .i64 n27), (.sl 2 us30), (.sl 2 us33)])]] :: [a1, e135])).bind fun t136 => U.asPtr t136 fun y137 z138 => U.asAgg z138 fun us140 => (match us140 with
 | u141 :: us142 => (U.asInt u141 fun n143 => (match us142 with
 | u144 :: us145 => (U.asInt u144 fun n146 => (match us145 with
 | u147 :: us148 => (U.asInt u147 fun n149 => (match us148 with
 | u150 :: us151 => (U.asInt u150 fun n152 => (match us151 with
 | u153 :: us154 => (U.asInt u153 fun n155 => (match us154 with
 | u156 :: us157 => (U.asInt u156 fun n158 => (match us157 with
 | u159 :: us160 => (U.asInt u159 fun n161 => (match us160 with
 | u162 :: us163 => (U.asSlK 2 u162 fun us164 => (match us163 with
 | u165 :: us166 => (U.asSlK 2 u165 fun us167 => (match us166 with
 | [] => ((U.un .not y137).bind fun t168 => U.asBool t168
 (U.asVar true 9 x1 fun e169 => (E 100222 [e169]).bind fun t170 => U.noTup t170 fun x171 => U.asAgg x171 fun us172 => (match us172 with
 | u173 :: us174 => (U.asInt u173 fun n175 => (match us174 with
 | u176 :: us177 => (U.asInt u176 fun n178 => (match us177 with
 | u179 :: us180 => (U.asInt u179 fun n181 => (match us180 with
 | u182 :: us183 => (U.asInt u182 fun n184 => (match us183 with
 | u185 :: us186 => (U.asInt u185 fun n187 => (match us186 with
 | u188 :: us189 => (U.asInt u188 fun n190 => (match us189 with
 | u191 :: us192 => (U.asInt u191 fun n193 => (match us192 with
 | u194 :: us195 => (U.asSlK 2 u194 fun us196 => (match us195 with
 | u197 :: us198 => (U.asSlK 2 u197 fun us199 => (match us198 with
 | [] => (some (.tup [(.agg [(.int .i64 n175), (.int .i64 n178), (.int .i64 n181), (.int .i64 n184), (.int .i64 n187), (.int .i64 n190), (.int .i64 n193), (.sl 2 us196), (.sl 2 us199)]), (.bool false)]))
 | _ => none))
 | [] => none))
 | [] => none))
 | [] => none))
 | [] => none))
 | [] => none))
 | [] => none))
 | [] => none))
 | [] => none))
 | [] => none))
 (some (.tup [(.agg [(.int .i64 n143), (.int .i64 n146), (.int .i64 n149), (.int .i64 n152), (.int .i64 n155), (.int .i64 n158), (.int .i64 n161), (.sl 2 us164), (.sl 2 us167)]), (.bool true)])))
 | _ => none))
 | [] => none))
 | [] => none))
 | [] => none))
 | [] => none))
 | [] => none))
 | [] => none))
 | [] => none))
 | [] => none))
 | [] => none)))))
 | _ => none))
 | [] => none))
 | [] => none))
 | [] => none))
 | [] => none))
 | [] => none))
 | [] => none))
 | [] => none))
 | [] => none))
 | [] => none) := (h.is _ rfl).trans ((runQ_F rfl).trans (by kernel_rfl))
def f29_b0 : AC :=
 (.seq (.seq (rg [oo 6 (.mv (.t 5)),
  oo 7 (.mv (.t 0)),
  oo 8 (.len false (.t 7)),
  oo 9 (.bin .lss (.t 6) (.t 8))])
 (.cond (.t 9) .skip (.exit 0)))
 (.seq (.block 1 (.seq (rg [oo 12 (.mv (.t 0)),
  oo 13 (.mv (.t 5)),
  oo 14 (.mv (.t 1)),
  oo 15 (.iaddr 2 (.t 12) (.t 13)),
  oo 16 (.faddr 0 0 (.t 15)),
  ⟨none, .store 1 (.t 16) (.t 14), none⟩])
 (.seq (rg [oo 17 (.mv (.t 1)),
  oo 18 (.bin .add (.t 17) (ci 1)),
  oo 1 (.mv (.t 18))])
 (.seq (rg [oo 19 (.mv (.t 0)),
  oo 20 (.mv (.t 5)),
  oo 21 (.mv (.t 1)),
  oo 22 (.iaddr 2 (.t 19) (.t 20)),
  oo 23 (.faddr 1 1 (.t 22)),
  ⟨none, .store 1 (.t 23) (.t 21), none⟩])
 (rg [oo 24 (.mv (.t 1)),
  oo 25 (.bin .add (.t 24) (ci 1)),
  oo 1 (.mv (.t 25))])))))
 (rg [oo 10 (.mv (.t 5)),
  oo 11 (.bin .add (.t 10) (ci 1)),
  oo 5 (.mv (.t 11))])))
def f29_r0 : AC :=
 (.seq (rg [oo 26 (.mv (.t 1)),
  oo 4 (.mv (.t 26))])
 .ret)
def f29_ac : AC :=
 (.seq (rg [oo 4 (.mv (ci 0))])
 (.seq (.seq (rg [oo 5 (.mv (ci 0))])
 (.block 0 (.loop ⟨[0, 1, 5], [], [(5000, true)]⟩ f29_b0)))
 f29_r0))
noncomputable def f29_l0 (E : Env) (x1 : U) (x5 : U) (b5000 : List U) : Option U := loopK (roundOf E ⟨[0, 1, 5], [], [(5000, true)]⟩ f29_b0 (blockK 0 (seqK (fun s => exec E f29_r0 s (finishM 2 [(4, none)])) (finishM 2 [(4, none)])))) ([.ref 5000 [] 2 none, .val x1, .val x5], [.vir (.own (.sl 2 b5000))])
theorem f29_l0_eq (E : Env) (x1 : U) (x5 : U) (b5000 : List U) : f29_l0 E x1 x5 b5000 =
 (U.bin .lss x5 (.int .i64 (b5000.length : Int))).bind fun t1 => U.asBool t1
 (U.asInt x5 fun n2 => if 2 = 2 ∧ 0 ≤ n2 ∧ n2 < (b5000.length : Int) then if storable (.val x1) = true ∧ x1.size = 1 then (b5000[(n2 : Int).toNat]?).bind fun e3 => U.asAgg e3 fun us4 => if 0 = sizes (us4.take 0) then (us4[0]?).bind fun e5 => if e5.size = 1 then if (x1 : U).flat = true then (U.bin .add x1 (.int .i64 1)).bind fun t6 => U.asInt x5 fun n7 => if 2 = 2 ∧ 0 ≤ n7 ∧ n7 < (((b5000.set (n2 : Int).toNat (.agg (us4.set 0 x1)))).length : Int) then if storable (.val t6) = true ∧ t6.size = 1 then ((b5000.set (n2 : Int).toNat (.agg (us4.set 0 x1)))[(n7 : Int).toNat]?).bind fun e8 => U.asAgg e8 fun us9 => if 1 = sizes (us9.take 1) then (us9[1]?).bind fun e10 => if e10.size = 1 then if (t6 : U).flat = true then (U.bin .add t6 (.int .i64 1)).bind fun t11 => (U.bin .add x5 (.int .i64 1)).bind fun t12 => f29_l0 E t11 t12 ((b5000.set (n2 : Int).toNat (.agg (us4.set 0 x1))).set (n7 : Int).toNat (.agg (us9.set 1 t6))) else none else none else none else none else none else none else none else none else none else none)
 (if (x1 : U).flat = true then some (.tup [x1, .sl 2 b5000]) else none) :=
 (loop_eq E _ _ _ _).trans (by kernel_rfl)
structure G_f29 (E : Env) : Prop where
  is : Is E 200095 2 f29_ac [(4, none)]
theorem f29_E {E : Env} (h : G_f29 E) (xs0 : List U) (a1 : U) : E 200095 (.agg [.tup [.sl 2 xs0]] :: [a1]) =
 f29_l0 E a1 (.int .i64 0) xs0 := (h.is _ rfl).trans ((runQ_M rfl).trans (by kernel_rfl))
def f30_b0 : AC :=
 (.seq (.seq (rg [oo 6 (.mv (.t 5)),
  oo 7 (.mv (.t 0)),
  oo 8 (.len false (.t 7)),
  oo 9 (.bin .lss (.t 6) (.t 8))])
 (.cond (.t 9) .skip (.exit 0)))
 (.seq (.block 1 (.seq (rg [oo 12 (.mv (.t 0)),
  oo 13 (.mv (.t 5)),
  oo 14 (.mv (.t 1)),
  oo 15 (.iaddr 2 (.t 12) (.t 13)),
  oo 16 (.faddr 0 0 (.t 15)),
  ⟨none, .store 1 (.t 16) (.t 14), none⟩])
 (.seq (rg [oo 17 (.mv (.t 1)),
  oo 18 (.bin .add (.t 17) (ci 1)),
  oo 1 (.mv (.t 18))])
 (.seq (rg [oo 19 (.mv (.t 0)),
  oo 20 (.mv (.t 5)),
  oo 21 (.mv (.t 1)),
  oo 22 (.iaddr 2 (.t 19) (.t 20)),
  oo 23 (.faddr 1 1 (.t 22)),
  ⟨none, .store 1 (.t 23) (.t 21), none⟩])
 (rg [oo 24 (.mv (.t 1)),
  oo 25 (.bin .add (.t 24) (ci 1)),
  oo 1 (.mv (.t 25))])))))
 (rg [oo 10 (.mv (.t 5)),
  oo 11 (.bin .add (.t 10) (ci 1)),
  oo 5 (.mv (.t 11))])))
def f30_r0 : AC :=
 (.seq (rg [oo 26 (.mv (.t 1)),
  oo 4 (.mv (.t 26))])
 .ret)
def f30_ac : AC :=
 (.seq (rg [oo 4 (.mv (ci 0))])
 (.seq (.seq (rg [oo 5 (.mv (ci 0))])
 (.block 0 (.loop ⟨[0, 1, 5], [], [(5000, true)]⟩ f30_b0)))
 f30_r0))
noncomputable def f30_l0 (E : Env) (x1 : U) (x5 : U) (b5000 : List U) : Option U := loopK (roundOf E ⟨[0, 1, 5], [], [(5000, true)]⟩ f30_b0 (blockK 0 (seqK (fun s => exec E f30_r0 s (finishM 2 [(4, none)])) (finishM 2 [(4, none)])))) ([.ref 5000 [] 2 none, .val x1, .val x5], [.vir (.own (.sl 2 b5000))])
theorem f30_l0_eq (E : Env) (x1 : U) (x5 : U) (b5000 : List U) : f30_l0 E x1 x5 b5000 =
 (U.bin .lss x5 (.int .i64 (b5000.length : Int))).bind fun t1 => U.asBool t1
 (U.asInt x5 fun n2 => if 2 = 2 ∧ 0 ≤ n2 ∧ n2 < (b5000.length : Int) then if storable (.val x1) = true ∧ x1.size = 1 then (b5000[(n2 : Int).toNat]?).bind fun e3 => U.asAgg e3 fun us4 => if 0 = sizes (us4.take 0) then (us4[0]?).bind fun e5 => if e5.size = 1 then if (x1 : U).flat = true then (U.bin .add x1 (.int .i64 1)).bind fun t6 => U.asInt x5 fun n7 => if 2 = 2 ∧ 0 ≤ n7 ∧ n7 < (((b5000.set (n2 : Int).toNat (.agg (us4.set 0 x1)))).length : Int) then if storable (.val t6) = true ∧ t6.size = 1 then ((b5000.set (n2 : Int).toNat (.agg (us4.set 0 x1)))[(n7 : Int).toNat]?).bind fun e8 => U.asAgg e8 fun us9 => if 1 = sizes (us9.take 1) then (us9[1]?).bind fun e10 => if e10.size = 1 then if (t6 : U).flat = true then (U.bin .add t6 (.int .i64 1)).bind fun t11 => (U.bin .add x5 (.int .i64 1)).bind fun t12 => f30_l0 E t11 t12 ((b5000.set (n2 : Int).toNat (.agg (us4.set 0 x1))).set (n7 : Int).toNat (.agg (us9.set 1 t6))) else none else none else none else none else none else none else none else none else none else none)
 (if (x1 : U).flat = true then some (.tup [x1, .sl 2 b5000]) else none) :=
 (loop_eq E _ _ _ _).trans (by kernel_rfl)
structure G_f30 (E : Env) : Prop where
  is : Is E 200232 2 f30_ac [(4, none)]
theorem f30_E {E : Env} (h : G_f30 E) (xs0 : List U) (a1 : U) : E 200232 (.agg [.tup [.sl 2 xs0]] :: [a1]) =
 f30_l0 E a1 (.int .i64 0) xs0 := (h.is _ rfl).trans ((runQ_M rfl).trans (by kernel_rfl))
def f20_r1 : AC :=
 (rg [oo 13 (.mv (.t 58))])
def f20_r0 : AC :=
 (rg [oo 14 (.mv (.t 74))])
def f20_ac : AC :=
 (.seq (rg [oo 3 (.box false 3 (.t 0)),
  oo 5 (.box false 5 (.t 2)),
  oo 6 (.mv (.c (.bool false)))])
 (.seq (rg [oo 7 (.mv (ci 1048576))])
 (.seq (rg [oo 18 (.load true 9 (.t 3)),
  oo 19 (.mv (.t 7)),
  oo 20 (.call false 132 [(.t 18), (.t 19)]),
  oo 7 (.mv (.t 20))])
 (.seq (.seq (rg [oo 21 (.mv (.t 7)),
  oo 22 (.bin .lss (.t 21) (ci 0))])
 (.cond (.t 22) (.seq (rg [oo 6 (.mv (.c (.bool true)))])
 .ret) .skip))
 (.seq (.regN 11 [8] [(0, 8), (1, 8), (2, 8), (3, 8), (4, 8), (5, 8), (6, 8), (7, 8), (8, 8)] [(.t 3), (.t 5)] [oo 24 (.load true 9 (.t 3)),
  oo 25 (.call false 145 [(.t 24)]),
  oo 26 (.mv (.t 1)),
  oo 27 (.load true 5 (.t 5)),
  oo 28 (.call false 109 [(.t 27)]),
  oo 29 (.call false 299 [(.t 25), (.t 26), (.t 28)]),
  oo 23 (.mv (.t 29)),
  oo 30 (.extract 0 (.t 23)),
  oo 31 (.extract 1 (.t 23)),
  oo 8 (.alloc 8 (.agg [(.int .i64 0), (.int .i64 0), (.int .i64 0), (.int .i64 0), (.int .i64 0), (.int .i64 0), (.int .i64 0), (.nsl 2), (.nsl 2)])),
  ⟨none, .storeN 8 9 (.t 8) (.t 30), none⟩,
  oo 9 (.mv (.t 31))])
 (.seq (rg [oo 32 (.load true 9 (.t 3)),
  oo 33 (.callF 33 false [(.agg [.int, .int, .int, .int, .int, .int, .int, (.sl 2), (.sl 2)])] 145 [(.t 32)]),
  oo 10 (.alloc 10 (.agg [(.int .i64 0), (.int .i64 0), (.int .i64 0), (.int .i64 0), (.int .i64 0), (.int .i64 0), (.int .i64 0), (.nsl 2), (.nsl 2)])),
  ⟨none, .storeM 3000 9 (.t 10) (.t 33), none⟩])
 (.seq (.regN 10 [39, 11] [(0, 39), (1, 39), (2, 39), (3, 39), (8, 39), (0, 11), (1, 11), (2, 11), (3, 11), (4, 11), (5, 11), (6, 11), (7, 11)] [(.t 10), (.t 5)] [oo 35 (.loadO (.agg [.int, .int, .int, .int, .int, .int, .int, (.sl 2), (.sl 2)]) (.t 10)),
  oo 36 (.mv (.t 1)),
  oo 37 (.load true 5 (.t 5)),
  oo 38 (.call false 109 [(.t 37)]),
  oo 39 (.callF 39 true [(.agg [.int, .int, .int, .int, .int, .int, .int, (.sl 2), (.sl 2)]), .bool] 298 [(.t 35), (.t 36), (.t 38)]),
  oo 34 (.mv (.t 39)),
  oo 40 (.extract 0 (.t 34)),
  oo 41 (.extract 1 (.t 34)),
  oo 11 (.alloc 11 (.agg [(.int .i64 0), (.int .i64 0), (.int .i64 0), (.int .i64 0), (.int .i64 0), (.int .i64 0), (.int .i64 0), (.nsl 2), (.nsl 2)])),
  ⟨none, .storeN 11 9 (.t 11) (.t 40), none⟩,
  oo 12 (.mv (.t 41))])
 (.seq (.seq (rg [oo 42 (.loadO (.agg [.int, .int, .int, .int, .int, .int, .int, (.sl 2), (.sl 2)]) (.t 11)),
  oo 43 (.load true 9 (.t 8)),
  oo 44 (.call false 177 [(.t 42), (.t 43)]),
  oo 45 (.un .not (.t 44)),
  oo 46 (.mv (.t 45)),
  ⟨some 47, .mv (.t 12), some (46, false)⟩,
  ⟨some 48, .mv (.t 9), some (46, false)⟩,
  ⟨some 49, .eqv true 0 (.t 47) (.t 48), some (46, false)⟩,
  oo 50 (.pick (.t 46) (.c (.bool true)) (.t 49))])
 (.cond (.t 50) (.seq (rg [oo 6 (.mv (.c (.bool false)))])
 .ret) .skip))
 (.seq (.seq (.region 5 [oo 51 (.loadO (.agg [.int, .int, .int, .int, .int, .int, .int, (.sl 2), (.sl 2)]) (.t 10)),
  oo 52 (.load true 9 (.t 3)),
  oo 53 (.call false 145 [(.t 52)]),
  oo 54 (.call false 177 [(.t 51), (.t 53)]),
  oo 55 (.un .not (.t 54))])
 (.cond (.t 55) (.seq (rg [oo 6 (.mv (.c (.bool false)))])
 .ret) .skip))
 (.seq (rg [oo 13 (.mv (ci 1))])
 (.seq (.regI 0 [oo 56 (.loadO (.agg [.int, .int, .int, .int, .int, .int, .int, (.sl 2), (.sl 2)]) (.t 10)),
  oo 57 (.mv (.t 13))] ⟨some 58, 109, 14, 208, [(.t 56), (.t 57)], [4]⟩ (.seq (rg [oo 111 (.boxS 111 (.t 109)),
  oo 113 (.mv (ci 0))])
 (.seq (rg [oo 114 (.faddr 7 7 (.t 111)),
  oo 115 (.load false 1 (.t 114)),
  oo 116 (.mv (.t 110)),
  oo 117 (.callM 2 95 (.t 115) [(.t 116)]),
  oo 110 (.mv (.t 117))])
 (.seq (rg [oo 118 (.faddr 8 8 (.t 111)),
  oo 119 (.load false 1 (.t 118)),
  oo 120 (.mv (.t 110)),
  oo 121 (.callM 2 232 (.t 119) [(.t 120)]),
  oo 110 (.mv (.t 121))])
 (.seq (rg [oo 122 (.mv (.t 110)),
  oo 113 (.mv (.t 122))])
 .ret)))) f20_r1)
 (.seq (.seq (rg [oo 59 (.mv (.t 13)),
  oo 60 (.bin .lss (.t 59) (ci 0)),
  oo 61 (.mv (.t 60)),
  ⟨some 62, .loadO (.agg [.int, .int, .int, .int, .int, .int, .int, (.sl 2), (.sl 2)]) (.t 11), some (61, false)⟩,
  ⟨some 63, .load true 9 (.t 8), some (61, false)⟩,
  ⟨some 64, .call false 177 [(.t 62), (.t 63)], some (61, false)⟩,
  ⟨some 65, .un .not (.t 64), some (61, false)⟩,
  oo 66 (.pick (.t 61) (.c (.bool true)) (.t 65)),
  oo 67 (.mv (.t 66)),
  ⟨some 68, .mv (.t 12), some (67, false)⟩,
  ⟨some 69, .mv (.t 9), some (67, false)⟩,
  ⟨some 70, .eqv true 0 (.t 68) (.t 69), some (67, false)⟩,
  oo 71 (.pick (.t 67) (.c (.bool true)) (.t 70))])
 (.cond (.t 71) (.seq (rg [oo 6 (.mv (.c (.bool false)))])
 .ret) .skip))
 (.seq (rg [oo 14 (.mv (ci 1))])
 (.seq (.regI 0 [oo 72 (.loadO (.agg [.int, .int, .int, .int, .int, .int, .int, (.sl 2), (.sl 2)]) (.t 11)),
  oo 73 (.mv (.t 14))] ⟨some 74, 109, 14, 208, [(.t 72), (.t 73)], [4]⟩ (.seq (rg [oo 111 (.boxS 111 (.t 109)),
  oo 113 (.mv (ci 0))])
 (.seq (rg [oo 114 (.faddr 7 7 (.t 111)),
  oo 115 (.load false 1 (.t 114)),
  oo 116 (.mv (.t 110)),
  oo 117 (.callM 2 95 (.t 115) [(.t 116)]),
  oo 110 (.mv (.t 117))])
 (.seq (rg [oo 118 (.faddr 8 8 (.t 111)),
  oo 119 (.load false 1 (.t 118)),
  oo 120 (.mv (.t 110)),
  oo 121 (.callM 2 232 (.t 119) [(.t 120)]),
  oo 110 (.mv (.t 121))])
 (.seq (rg [oo 122 (.mv (.t 110)),
  oo 113 (.mv (.t 122))])
 .ret)))) f20_r0)
 (.seq (rg [oo 15 (.mv (ci 1))])
 (.seq (rg [oo 75 (.loadO (.agg [.int, .int, .int, .int, .int, .int, .int, (.sl 2), (.sl 2)]) (.t 11)),
  oo 76 (.mv (.t 15)),
  oo 77 (.call false 205 [(.t 75), (.t 76)]),
  oo 15 (.mv (.t 77))])
 (.seq (.seq (rg [oo 78 (.mv (.t 15)),
  oo 79 (.bin .lss (.t 78) (ci 0))])
 (.cond (.t 79) (.seq (rg [oo 6 (.mv (.c (.bool false)))])
 .ret) .skip))
 (.seq (.seq (rg [oo 80 (.mv (.t 15)),
  oo 81 (.mv (.t 14)),
  oo 82 (.bin .neq (.t 80) (.t 81))])
 (.cond (.t 82) (.seq (rg [oo 6 (.mv (.c (.bool false)))])
 .ret) .skip))
 (.seq (.regN 11 [16] [(0, 16), (1, 16), (2, 16), (3, 16), (4, 16), (5, 16), (6, 16), (7, 16), (8, 16)] [(.t 3), (.t 5)] [oo 84 (.load true 9 (.t 3)),
  oo 85 (.call false 145 [(.t 84)]),
  oo 86 (.mv (.t 1)),
  oo 87 (.load true 5 (.t 5)),
  oo 88 (.call false 109 [(.t 87)]),
  oo 89 (.call false 298 [(.t 85), (.t 86), (.t 88)]),
  oo 83 (.mv (.t 89)),
  oo 90 (.extract 0 (.t 83)),
  oo 91 (.extract 1 (.t 83)),
  oo 16 (.alloc 16 (.agg [(.int .i64 0), (.int .i64 0), (.int .i64 0), (.int .i64 0), (.int .i64 0), (.int .i64 0), (.int .i64 0), (.nsl 2), (.nsl 2)])),
  ⟨none, .storeN 16 9 (.t 16) (.t 90), none⟩,
  oo 17 (.mv (.t 91))])
 (.seq (.seq (rg [oo 92 (.load true 9 (.t 16)),
  oo 93 (.load true 9 (.t 8)),
  oo 94 (.call false 177 [(.t 92), (.t 93)]),
  oo 95 (.un .not (.t 94)),
  oo 96 (.mv (.t 95)),
  ⟨some 97, .mv (.t 17), some (96, false)⟩,
  ⟨some 98, .mv (.t 9), some (96, false)⟩,
  ⟨some 99, .eqv true 0 (.t 97) (.t 98), some (96, false)⟩,
  oo 100 (.pick (.t 96) (.c (.bool true)) (.t 99))])
 (.cond (.t 100) (.seq (rg [oo 6 (.mv (.c (.bool false)))])
 .ret) .skip))
 (.seq (rg [oo 15 (.mv (ci 1))])
 (.seq (rg [oo 101 (.loadO (.agg [.int, .int, .int, .int, .int, .int, .int, (.sl 2), (.sl 2)]) (.t 11)),
  oo 102 (.mv (.t 15)),
  oo 103 (.call false 205 [(.t 101), (.t 102)]),
  oo 15 (.mv (.t 103))])
 (.seq (.seq (rg [oo 104 (.mv (.t 15)),
  oo 105 (.bin .lss (.t 104) (ci 0))])
 (.cond (.t 105) (.seq (rg [oo 6 (.mv (.c (.bool false)))])
 .ret) .skip))
 (.seq (.seq (rg [oo 106 (.mv (.t 15)),
  oo 107 (.mv (.t 14)),
  oo 108 (.bin .neq (.t 106) (.t 107))])
 (.cond (.t 108) (.seq (rg [oo 6 (.mv (.c (.bool false)))])
 .ret) .skip))
 (.seq (rg [oo 6 (.mv (.c (.bool true)))])
 .ret)))))))))))))))))))))))))
structure G_f20 (E : Env) : Prop where
  is : Is E 297 3 f20_ac [(6, none)]
  c_f32 : G_f32 E
  c_f48 : G_f48 E
  c_f37 : G_f37 E
  c_f39 : G_f39 E
  c_f6 : G_f6 E
  c_f23 : G_f23 E
  c_f27 : G_f27 E
  c_f38 : G_f38 E
  c_f7 : G_f7 E
  c_f29 : G_f29 E
  c_f30 : G_f30 E
theorem f20_E {E : Env} (h : G_f20 E) (a0 a1 a2 : U) : E 297 [a0, a1, a2] =
 U.noTup a0 fun x1 => U.noTup a2 fun x2 => U.asVar true 9 x1 fun e3 => (E 132 [e3, (.int .i64 1048576)]).bind fun t4 => (U.bin .lss t4 (.int .i64 0)).bind fun t5 => U.asBool t5
 (some (.bool true))
 (U.asVar true 9 x1 fun e6 => (E 145 [e6]).bind fun t7 => U.asVar true 5 x2 fun e8 => (E 109 [e8]).bind fun t9 => (E 299 [t7, a1, t9]).bind fun t10 => U.part 0 t10 fun p11 => U.part 1 t10 fun p12 => U.noTup p11 fun x13 => if x13.size = 9 then U.asVar true 9 x1 fun e14 => (E 100145 [e14]).bind fun t15 => U.noTup t15 fun x16 => U.asAgg x16 fun us17 => (match us17 with
 | u18 :: us19 => (U.asInt u18 fun n20 => (match us19 with
 | u21 :: us22 => (U.asInt u21 fun n23 => (match us22 with
 | u24 :: us25 => (U.asInt u24 fun n26 => (match us25 with
 | u27 :: us28 => (U.asInt u27 fun n29 => (match us28 with
 | u30 :: us31 => (U.asInt u30 fun n32 => (match us31 with
 | u33 :: us34 => (U.asInt u33 fun n35 => (match us34 with
 | u36 :: us37 => (U.asInt u36 fun n38 => (match us37 with
 | u39 :: us40 => (U.asSlK 2 u39 fun us41 => (match us40 with
 | u42 :: us43 => (U.asSlK 2 u42 fun us44 => (match us43 with
 | [] => (U.asVar true 5 x2 fun e45 => (E 109 [e45]).bind fun t46 => (E 100298 [(.agg [(.int .i64 n20), (.int .i64 n23), (.int .i64 n26), (.int .i64 n29), (.int .i64 n32), (.int .i64 n35), (.int .i64 n38), (.sl 2 us41), (.sl 2 us44)]), a1, t46]).bind fun t47 => U.asTup t47 fun us48 => (match us48 with
 | u49 :: us50 => (U.asAgg u49 fun us51 => (match us51 with
 | u52 :: us53 => (U.asInt u52 fun n54 => (match us53 with
 | u55 :: us56 => (U.asInt u55 fun n57 => (match us56 with
 | u58 :: us59 => (U.asInt u58 fun n60 => (match us59 with
 | u61 :: us62 => (U.asInt u61 fun n63 => (match us62 with
 | u64 :: us65 => (U.asInt u64 fun n66 => (match us65 with
 | u67 :: us68 => (U.asInt u67 fun n69 => (match us68 with
 | u70 :: us71 => (U.asInt u70 fun n72 => (match us71 with
 | u73 :: us74 => (U.asSlK 2 u73 fun us75 => (match us74 with
 | u76 :: us77 => (U.asSlK 2 u76 fun us78 => (match us77 with
 | [] => ((match us50 with
 | u79 :: us80 => (U.asB u79 fun b81 => (match us80 with
 | [] => (if 2 = 2 then if 2 = 2 then U.asVar true 9 x13 fun e82 => (E 177 [(.agg [(.int .i64 n54), (.int .i64 n57), (.int .i64 n60), (.int .i64 n63), (.int .i64 n66), (.int .i64 n69), (.int .i64 n72), (.sl 2 us75), (.sl 2 us78)]), e82]).bind fun t83 => U.asFlat t83 fun t84 => (U.un .not t84).bind fun t85 => U.asBool t85
 (some (.bool false))
 ((U.eqv 0 (.bool b81) p12).bind fun q86 => U.asBool (.bool (!q86))
 (some (.bool false))
 (U.asVar true 9 x1 fun e87 => (E 145 [e87]).bind fun t88 => (E 177 [(.agg [(.int .i64 n20), (.int .i64 n23), (.int .i64 n26), (.int .i64 n29), (.int .i64 n32), (.int .i64 n35), (.int .i64 n38), (.sl 2 us41), (.sl 2 us44)]), t88]).bind fun t89 => U.asFlat t89 fun t90 => (U.un .not t90).bind fun t91 => U.asBool t91
 (some (.bool false))
 ((E 200095 (.agg [.tup [.sl 2 us41]] :: [(.int .i64 1)])).bind fun t92 => U.asMut 2 t92 fun y93 ys94 => U.asFlat y93 fun y93 => (E 200232 (.agg [.tup [.sl 2 us44]] :: [y93])).bind fun t95 => U.asMut 2 t95 fun y96 ys97 => U.asFlat y96 fun y96 => if partable (.val y96) = true then (U.bin .lss y96 (.int .i64 0)).bind fun t98 => U.asBool t98
 (some (.bool false))
 (if 2 = 2 then if 2 = 2 then U.asVar true 9 x13 fun e99 => (E 177 [(.agg [(.int .i64 n54), (.int .i64 n57), (.int .i64 n60), (.int .i64 n63), (.int .i64 n66), (.int .i64 n69), (.int .i64 n72), (.sl 2 us75), (.sl 2 us78)]), e99]).bind fun t100 => U.asFlat t100 fun t101 => (U.un .not t101).bind fun t102 => U.asBool t102
 (some (.bool false))
 ((U.eqv 0 (.bool b81) p12).bind fun q103 => U.asBool (.bool (!q103))
 (some (.bool false))
 (if 2 = 2 then if 2 = 2 then (E 200095 (.agg [.tup [.sl 2 us75]] :: [(.int .i64 1)])).bind fun t104 => U.asMut 2 t104 fun y105 ys106 => U.asFlat y105 fun y105 => (E 200232 (.agg [.tup [.sl 2 us78]] :: [y105])).bind fun t107 => U.asMut 2 t107 fun y108 ys109 => U.asFlat y108 fun y108 => if partable (.val y108) = true then if 2 = 2 then if 2 = 2 then (E 205 [(.agg [(.int .i64 n54), (.int .i64 n57), (.int .i64 n60), (.int .i64 n63), (.int .i64 n66), (.int .i64 n69), (.int .i64 n72), (.sl 2 ys106), (.sl 2 ys109)]), (.int .i64 1)]).bind fun t110 => U.asFlat t110 fun t111 => (U.bin .lss t111 (.int .i64 0)).bind fun t112 => U.asBool t112
 (some (.bool false))
 ((U.bin .neq t111 y108).bind fun t113 => U.asBool t113
 (some (.bool false))
 (U.asVar true 9 x1 fun e114 => (E 145 [e114]).bind fun t115 => U.asVar true 5 x2 fun e116 => (E 109 [e116]).bind fun t117 => (E 298 [t115, a1, t117]).bind fun t118 => U.part 0 t118 fun p119 => U.part 1 t118 fun p120 => U.noTup p119 fun x121 => if x121.size = 9 then U.asVar true 9 x121 fun e122 => U.asVar true 9 x13 fun e123 => (E 177 [e122, e123]).bind fun t124 => (U.un .not t124).bind fun t125 => U.asBool t125
 (some (.bool false))
 ((U.eqv 0 p120 p12).bind fun q126 => U.asBool (.bool (!q126))
 (some (.bool false))
 (if 2 = 2 then if 2 = 2 then (E 205 [(.agg [(.int .i64 n54), (.int .i64 n57), (.int .i64 n60), (.int .i64 n63), (.int .i64 n66), (.int .i64 n69), (.int .i64 n72), (.sl 2 ys106), (.sl 2 ys109)]), (.int .i64 1)]).bind fun t127 => U.asFlat t127 fun t128 => (U.bin .lss t128 (.int .i64 0)).bind fun t129 => U.asBool t129
 (some (.bool false))
 ((U.bin .neq t128 y108).bind fun t130 => U.asBool t130
 (some (.bool false))
 (some (.bool true))) else none else none)) else none)) else none else none else none else none else none)) else none else none) else none))) else none else none)
 | _ => none))
 | [] => none))
 | _ => none))
 | [] => none))
 | [] => none))
 | [] => none))
 | [] => none))
 | [] => none))
 | [] => none))
 | [] => none))
 | [] => none))
 | [] => none))
 | [] => none))
 | _ => none))
 | [] => none))
 | [] => none))
 | [] => none))
 | [] => none))
 | [] => none))
 | [] => none))
 | [] => none))
 | [] => none))
 | [] => none) else none) := (h.is _ rfl).trans ((runQ_V rfl).trans (by kernel_rfl))
end Go.Proofs.Ytlgblpngiamhaaa.Am
