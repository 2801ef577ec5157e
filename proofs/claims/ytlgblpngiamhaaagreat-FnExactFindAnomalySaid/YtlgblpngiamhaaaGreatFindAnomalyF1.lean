import Derived.KernelRfl
import Derived.Test.YtlgblpngiamhaaaGreatFindAnomalyF0
import Derived.Test.YtlgblpngiamhaaaGreatAmW
import Derived.Test.YtlgblpngiamhaaaGreatAmSo
namespace Go.Proofs.YtlgblpngiamhaaaGreat.Am
open Go
set_option linter.unusedVariables false
set_option maxRecDepth 100000
def f20_b2 : AC :=
 (.seq (rg [oo 16 (.bin .lss (.t 15) (.t 14))])
 (.seq (.cond (.t 16) .skip (.exit 0))
 (.seq (.block 1 (.seq (rg [oo 17 (.mv (.t 15)),
 oo 18 (.iaddr 4 (.t 13) (.t 15)),
 oo 19 (.load true 4 (.t 18)),
 oo 4 (.alloc 4 (.agg [(.int .i64 0), (.int .i64 0), (.nsl 2), (.nsl 2)])),
 oo 3 (.mv (.t 17)),
 ⟨none, .store 4 (.t 4) (.t 19), none⟩])
 (.seq (.seq (rg [oo 20 (.load true 4 (.t 4)),
 oo 21 (.call false 250 [(.t 20)]),
 oo 22 (.un .not (.t 21)),
 oo 23 (.mv (.t 22)),
 ⟨some 24, .mv (.t 0), some (23, false)⟩,
 ⟨some 25, .faddr 0 0 (.t 4), some (23, false)⟩,
 ⟨some 26, .load false 1 (.t 25), some (23, false)⟩,
 ⟨some 27, .call false 251 [(.t 24), (.t 26)], some (23, false)⟩,
 ⟨some 28, .mv (.t 3), some (23, false)⟩,
 ⟨some 29, .bin .neq (.t 27) (.t 28), some (23, false)⟩,
 oo 30 (.pick (.t 23) (.c (.bool true)) (.t 29))])
 (.cond (.t 30) (.seq (rg [oo 2 (.mv (.c (.bool false)))])
 .ret) .skip))
 (.seq (.region 30 [oo 31 (.mv (.t 3)),
 oo 32 (.bin .gtr (.t 31) (ci 0)),
 oo 33 (.mv (.t 32)),
 ⟨some 34, .faddr 1 1 (.t 4), some (33, true)⟩,
 ⟨some 35, .load false 1 (.t 34), some (33, true)⟩,
 ⟨some 36, .mv (.t 0), some (33, true)⟩,
 ⟨some 37, .mv (.t 3), some (33, true)⟩,
 ⟨some 38, .bin .sub (.t 37) (ci 1), some (33, true)⟩,
 ⟨some 39, .iaddr 4 (.t 36) (.t 38), some (33, true)⟩,
 ⟨some 40, .faddr 1 1 (.t 39), some (33, true)⟩,
 ⟨some 41, .load false 1 (.t 40), some (33, true)⟩,
 ⟨some 42, .bin .lss (.t 35) (.t 41), some (33, true)⟩,
 ⟨some 43, .mv (.t 42), some (33, true)⟩,
 ⟨some 44, .faddr 1 1 (.t 4), some (43, false)⟩,
 ⟨some 45, .load false 1 (.t 44), some (43, false)⟩,
 ⟨some 46, .mv (.t 0), some (43, false)⟩,
 ⟨some 47, .mv (.t 3), some (43, false)⟩,
 ⟨some 48, .bin .sub (.t 47) (ci 1), some (43, false)⟩,
 ⟨some 49, .iaddr 4 (.t 46) (.t 48), some (43, false)⟩,
 ⟨some 50, .faddr 1 1 (.t 49), some (43, false)⟩,
 ⟨some 51, .load false 1 (.t 50), some (43, false)⟩,
 ⟨some 52, .bin .eql (.t 45) (.t 51), some (43, false)⟩,
 ⟨some 53, .mv (.t 52), some (43, false)⟩,
 ⟨some 54, .faddr 3 3 (.t 4), some (53, true)⟩,
 ⟨some 55, .load false 1 (.t 54), some (53, true)⟩,
 ⟨some 56, .len false (.t 55), some (53, true)⟩,
 ⟨some 57, .bin .gtr (.t 56) (ci 0), some (53, true)⟩,
 ⟨some 58, .pick (.t 53) (.t 57) (.c (.bool false)), some (43, false)⟩,
 ⟨some 59, .pick (.t 43) (.c (.bool true)) (.t 58), some (33, true)⟩,
 oo 60 (.pick (.t 33) (.t 59) (.c (.bool false)))])
 (.cond (.t 60) (.seq (rg [oo 2 (.mv (.c (.bool false)))])
 .ret) .skip)))))
 (rg [oo 61 (.bin .add (.t 15) (ci 1)),
 oo 15 (.mv (.t 61))]))))
def f20_b1 : AC :=
 (.seq (rg [oo 72 (.bin .lss (.t 71) (.t 70))])
 (.seq (.cond (.t 72) .skip (.exit 4))
 (.seq (.block 5 (.seq (rg [oo 73 (.iaddr 2 (.t 69) (.t 71)),
 oo 74 (.load true 2 (.t 73)),
 oo 8 (.alloc 8 (.agg [(.int .i64 0), (.int .i64 0)])),
 ⟨none, .store 2 (.t 8) (.t 74), none⟩])
 (.seq (rg [oo 75 (.mv (.t 0)),
 oo 76 (.load true 2 (.t 8)),
 oo 77 (.call false 249 [(.t 75), (.t 76)]),
 oo 9 (.mv (.t 77))])
 (.seq (rg [oo 78 (.mv (.t 9)),
 oo 79 (.faddr 0 0 (.t 6)),
 oo 80 (.load false 1 (.t 79)),
 oo 81 (.bin .eql (.t 78) (.t 80)),
 oo 82 (.mv (.t 81)),
 ⟨some 83, .faddr 1 1 (.t 8), some (82, false)⟩,
 ⟨some 84, .load false 1 (.t 83), some (82, false)⟩,
 ⟨some 85, .bin .gtr (.t 84) (ci 0), some (82, false)⟩,
 ⟨some 86, .mv (.t 85), some (82, false)⟩,
 ⟨some 87, .mv (.t 9), some (86, true)⟩,
 ⟨some 88, .bin .eql (.t 87) (ci 0), some (86, true)⟩,
 ⟨some 89, .pick (.t 86) (.t 88) (.c (.bool false)), some (82, false)⟩,
 oo 90 (.pick (.t 82) (.c (.bool true)) (.t 89))])
 (.cond (.t 90) (.seq (rg [oo 2 (.mv (.c (.bool false)))])
 .ret) .skip)))))
 (rg [oo 91 (.bin .add (.t 71) (ci 1)),
 oo 71 (.mv (.t 91))]))))
def f20_r0 : AC :=
 (rg [oo 92 (.bin .add (.t 64) (ci 1)),
 oo 64 (.mv (.t 92))])
def f20_b0 : AC :=
 (.seq (rg [oo 65 (.bin .lss (.t 64) (.t 63))])
 (.seq (.cond (.t 65) .skip (.exit 2))
 (.seq (.block 3 (.seq (rg [oo 66 (.iaddr 4 (.t 62) (.t 64)),
 oo 67 (.load true 4 (.t 66)),
 oo 6 (.alloc 6 (.agg [(.int .i64 0), (.int .i64 0), (.nsl 2), (.nsl 2)])),
 ⟨none, .store 4 (.t 6) (.t 67), none⟩])
 (.seq (rg [oo 68 (.faddr 2 2 (.t 6)),
 oo 69 (.load false 1 (.t 68)),
 oo 70 (.len false (.t 69)),
 oo 71 (.mv (ci 0))])
 (.block 4 (.loop ⟨[0, 6, 62, 63, 64, 69, 70, 71], [], [(6, false)]⟩ f20_b1)))))
 f20_r0)))
def f20_r1 : AC :=
 (.seq (rg [oo 2 (.mv (.c (.bool true)))])
 .ret)
def f20_r2 : AC :=
 (.seq (.seq (rg [oo 62 (.mv (.t 0)),
 oo 63 (.len false (.t 62)),
 oo 64 (.mv (ci 0))])
 (.block 2 (.loop ⟨[0, 62, 63, 64], [], []⟩ f20_b0)))
 f20_r1)
def f20_ac : AC :=
 (.seq (rg [oo 2 (.mv (.c (.bool false)))])
 (.seq (.seq (rg [oo 10 (.mv (.t 0)),
 oo 11 (.len false (.t 10)),
 oo 12 (.bin .gtr (.t 11) (ci 9))])
 (.cond (.t 12) (.seq (rg [oo 2 (.mv (.c (.bool false)))])
 .ret) .skip))
 (.seq (.seq (rg [oo 13 (.mv (.t 0)),
 oo 14 (.len false (.t 13)),
 oo 15 (.mv (ci 0))])
 (.block 0 (.loop ⟨[0, 13, 14, 15], [], []⟩ f20_b2)))
 f20_r2)))
noncomputable def f20_l2 (E : Env) (x0 : U) (x13 : U) (x14 : U) (x15 : U) : Option U := loopK (roundOf E ⟨[0, 13, 14, 15], [], []⟩ f20_b2 (blockK 0 (seqK (fun s => exec E f20_r2 s (finish [(2, none)])) (finish [(2, none)])))) ([.val x0, .val x13, .val x14, .val x15], [])
noncomputable def f20_l0 (E : Env) (x0 : U) (x62 : U) (x63 : U) (x64 : U) : Option U := loopK (roundOf E ⟨[0, 62, 63, 64], [], []⟩ f20_b0 (blockK 2 (seqK (fun s => exec E f20_r1 s (finish [(2, none)])) (finish [(2, none)])))) ([.val x0, .val x62, .val x63, .val x64], [])
noncomputable def f20_l1 (E : Env) (x0 : U) (x62 : U) (x63 : U) (x64 : U) (x69 : U) (x70 : U) (x71 : U) (b6 : U) : Option U := loopK (roundOf E ⟨[0, 6, 62, 63, 64, 69, 70, 71], [], [(6, false)]⟩ f20_b1 (blockK 4 (blockK 3 (seqK (fun s => exec E f20_r0 s (roundK ⟨[0, 62, 63, 64], [], []⟩ (loopK (roundOf E ⟨[0, 62, 63, 64], [], []⟩ f20_b0 (blockK 2 (seqK (fun s => exec E f20_r1 s (finish [(2, none)])) (finish [(2, none)]))))) (blockK 2 (seqK (fun s => exec E f20_r1 s (finish [(2, none)])) (finish [(2, none)]))))) (roundK ⟨[0, 62, 63, 64], [], []⟩ (loopK (roundOf E ⟨[0, 62, 63, 64], [], []⟩ f20_b0 (blockK 2 (seqK (fun s => exec E f20_r1 s (finish [(2, none)])) (finish [(2, none)]))))) (blockK 2 (seqK (fun s => exec E f20_r1 s (finish [(2, none)])) (finish [(2, none)])))))))) ([.val x0, .ptr 6 [], .val x62, .val x63, .val x64, .val x69, .val x70, .val x71], [.box (.val b6)])
theorem Qk4 (E : Env) (x0 : U) (x13 : U) (x14 : U) (x15 : U) : f20_l2 E x0 x13 x14 x15 =
 (U.bin .lss x15 x14).bind fun t4 => U.asBool t4
 (U.asInt x15 fun n5 => U.elemAt 4 x13 n5 fun e6 => U.asVar true 4 e6 fun e7 => if storable (.val e7) = true ∧ e7.size = 4 then U.asVar true 4 e7 fun e8 => (E 250 [e8]).bind fun t9 => (U.un .not t9).bind fun t10 => U.asBool t10
 (some (.bool false))
 (U.asAgg e7 fun us11 => if 0 = sizes (us11.take 0) then (us11[0]?).bind fun e12 => U.asVar false 1 e12 fun e13 => (E 251 [x0, e13]).bind fun t14 => (U.bin .neq t14 x15).bind fun t15 => U.asBool t15
 (some (.bool false))
 ((U.bin .gtr x15 (.int .i64 0)).bind fun t16 => U.asBool t16
 (U.asAgg e7 fun us17 => if 1 = sizes (us17.take 1) then (us17[1]?).bind fun e18 => U.asVar false 1 e18 fun e19 => (U.bin .sub x15 (.int .i64 1)).bind fun t20 => U.asInt t20 fun n21 => U.elemAt 4 x0 n21 fun e22 => U.fieldAt 1 1 e22 fun f23 => U.asVar false 1 f23 fun e24 => (U.bin .lss e19 e24).bind fun t25 => U.asBool t25
 (some (.bool false))
 (U.asAgg e7 fun us26 => if 1 = sizes (us26.take 1) then (us26[1]?).bind fun e27 => U.asVar false 1 e27 fun e28 => (U.bin .sub x15 (.int .i64 1)).bind fun t29 => U.asInt t29 fun n30 => U.elemAt 4 x0 n30 fun e31 => U.fieldAt 1 1 e31 fun f32 => U.asVar false 1 f32 fun e33 => (U.bin .eql e28 e33).bind fun t34 => U.asBool t34
 (U.asAgg e7 fun us35 => if 3 = sizes (us35.take 3) then (us35[3]?).bind fun e36 => U.asVar false 1 e36 fun e37 => (U.lenOf false e37).bind fun n38 => (U.bin .gtr (.int .i64 (n38 : Int)) (.int .i64 0)).bind fun t39 => U.asBool t39
 (some (.bool false))
 ((U.bin .add x15 (.int .i64 1)).bind fun t40 => f20_l2 E x0 x13 x14 t40) else none)
 ((U.bin .add x15 (.int .i64 1)).bind fun t41 => f20_l2 E x0 x13 x14 t41) else none) else none)
 ((U.bin .add x15 (.int .i64 1)).bind fun t42 => f20_l2 E x0 x13 x14 t42)) else none) else none)
 ((U.lenOf false x0).bind fun n43 => f20_l0 E x0 x0 (.int .i64 (n43 : Int)) (.int .i64 0)) :=
 (Qd E _ _ _ _).trans (by kernel_rfl)
theorem Qk0 (E : Env) (x0 : U) (x62 : U) (x63 : U) (x64 : U) : f20_l0 E x0 x62 x63 x64 =
 (U.bin .lss x64 x63).bind fun t44 => U.asBool t44
 (U.asInt x64 fun n45 => U.elemAt 4 x62 n45 fun e46 => U.asVar true 4 e46 fun e47 => if storable (.val e47) = true ∧ e47.size = 4 then U.asAgg e47 fun us48 => if 2 = sizes (us48.take 2) then (us48[2]?).bind fun e49 => U.asVar false 1 e49 fun e50 => (U.lenOf false e50).bind fun n51 => f20_l1 E x0 x62 x63 x64 e50 (.int .i64 (n51 : Int)) (.int .i64 0) e47 else none else none)
 (some (.bool true)) :=
 (Qd E _ _ _ _).trans (by kernel_rfl)
theorem Qk2 (E : Env) (x0 : U) (x62 : U) (x63 : U) (x64 : U) (x69 : U) (x70 : U) (x71 : U) (b6 : U) : f20_l1 E x0 x62 x63 x64 x69 x70 x71 b6 =
 (U.bin .lss x71 x70).bind fun t52 => U.asBool t52
 (U.asInt x71 fun n53 => U.elemAt 2 x69 n53 fun e54 => U.asVar true 2 e54 fun e55 => if storable (.val e55) = true ∧ e55.size = 2 then U.asVar true 2 e55 fun e56 => (E 249 [x0, e56]).bind fun t57 => U.asAgg b6 fun us58 => if 0 = sizes (us58.take 0) then (us58[0]?).bind fun e59 => U.asVar false 1 e59 fun e60 => (U.bin .eql t57 e60).bind fun t61 => U.asBool t61
 (some (.bool false))
 (U.asAgg e55 fun us62 => if 1 = sizes (us62.take 1) then (us62[1]?).bind fun e63 => U.asVar false 1 e63 fun e64 => (U.bin .gtr e64 (.int .i64 0)).bind fun t65 => U.asBool t65
 ((U.bin .eql t57 (.int .i64 0)).bind fun t66 => U.asBool t66
 (some (.bool false))
 ((U.bin .add x71 (.int .i64 1)).bind fun t67 => f20_l1 E x0 x62 x63 x64 x69 x70 t67 b6))
 ((U.bin .add x71 (.int .i64 1)).bind fun t68 => f20_l1 E x0 x62 x63 x64 x69 x70 t68 b6) else none) else none else none)
 ((U.bin .add x64 (.int .i64 1)).bind fun t69 => f20_l0 E x0 x62 x63 t69) :=
 (Qd E _ _ _ _).trans (by kernel_rfl)
structure G_f20 (E : Env) : Prop where
 is : Is E 247 1 f20_ac [(2, none)]
 c_f16 : G_f16 E
 c_f34 : G_f34 E
 c_f25 : G_f25 E
theorem f20_E {E : Env} (h : G_f20 E) (a0 : U) : E 247 [a0] =
 (U.lenOf false a0).bind fun n1 => (U.bin .gtr (.int .i64 (n1 : Int)) (.int .i64 9)).bind fun t2 => U.asBool t2
 (some (.bool false))
 ((U.lenOf false a0).bind fun n3 => f20_l2 E a0 a0 (.int .i64 (n3 : Int)) (.int .i64 0)) := (h.is _ rfl).trans ((Qb rfl).trans (by kernel_rfl))
def f22_b0 : AC :=
 (.seq (rg [oo 15 (.bin .lss (.t 14) (.t 13))])
 (.seq (.cond (.t 15) .skip (.exit 0))
 (.seq (.block 1 (.seq (rg [oo 16 (.iaddr 4 (.t 12) (.t 14)),
 oo 17 (.load true 4 (.t 16)),
 oo 11 (.alloc 11 (.agg [(.int .i64 0), (.int .i64 0), (.nsl 2), (.nsl 2)])),
 ⟨none, .store 4 (.t 11) (.t 17), none⟩])
 (.seq (rg [oo 18 (.faddr 1 1 (.t 11)),
 oo 19 (.load false 1 (.t 18)),
 oo 20 (.mv (.t 2)),
 oo 21 (.bin .gtr (.t 19) (.t 20)),
 oo 22 (.mv (.t 21)),
 ⟨some 23, .load true 4 (.t 11), some (22, true)⟩,
 ⟨some 24, .mv (.t 1), some (22, true)⟩,
 ⟨some 25, .call false 52 [(.t 23), (.t 24)], some (22, true)⟩,
 oo 26 (.pick (.t 22) (.t 25) (.c (.bool false))),
 oo 27 (.mv (.t 26)),
 ⟨some 28, .mv (.t 9), some (27, true)⟩,
 ⟨some 29, .un .not (.t 28), some (27, true)⟩,
 ⟨some 30, .mv (.t 29), some (27, true)⟩,
 ⟨some 31, .faddr 1 1 (.t 11), some (30, false)⟩,
 ⟨some 32, .load false 1 (.t 31), some (30, false)⟩,
 ⟨some 33, .mv (.t 8), some (30, false)⟩,
 ⟨some 34, .bin .lss (.t 32) (.t 33), some (30, false)⟩,
 ⟨some 35, .pick (.t 30) (.c (.bool true)) (.t 34), some (27, true)⟩,
 oo 36 (.pick (.t 27) (.t 35) (.c (.bool false)))])
 (.cond (.t 36) (.region 7 [oo 37 (.faddr 0 0 (.t 11)),
 oo 38 (.load false 1 (.t 37)),
 oo 39 (.faddr 1 1 (.t 11)),
 oo 40 (.load false 1 (.t 39)),
 oo 7 (.mv (.t 38)),
 oo 8 (.mv (.t 40)),
 oo 9 (.mv (.c (.bool true)))]) .skip))))
 (rg [oo 41 (.bin .add (.t 14) (ci 1)),
 oo 14 (.mv (.t 41))]))))
def f22_r0 : AC :=
 (.seq (rg [oo 42 (.mv (.t 7)),
 oo 6 (.mv (.t 42))])
 .ret)
def f22_ac : AC :=
 (.seq (rg [oo 6 (.mv (ci 0))])
 (.seq (rg [oo 7 (.mv (ci 0)),
 oo 8 (.mv (ci 0)),
 oo 9 (.mv (.c (.bool false)))])
 (.seq (.seq (rg [oo 12 (.mv (.t 0)),
 oo 13 (.len false (.t 12)),
 oo 14 (.mv (ci 0))])
 (.block 0 (.loop ⟨[1, 2, 7, 8, 9, 12, 13, 14], [], []⟩ f22_b0)))
 f22_r0)))
noncomputable def f22_l0 (E : Env) (x1 : U) (x2 : U) (x7 : U) (x8 : U) (x9 : U) (x12 : U) (x13 : U) (x14 : U) : Option U := loopK (roundOf E ⟨[1, 2, 7, 8, 9, 12, 13, 14], [], []⟩ f22_b0 (blockK 0 (seqK (fun s => exec E f22_r0 s (finish [(6, none)])) (finish [(6, none)])))) ([.val x1, .val x2, .val x7, .val x8, .val x9, .val x12, .val x13, .val x14], [])
theorem Qk8 (E : Env) (x1 : U) (x2 : U) (x7 : U) (x8 : U) (x9 : U) (x12 : U) (x13 : U) (x14 : U) : f22_l0 E x1 x2 x7 x8 x9 x12 x13 x14 =
 (U.bin .lss x14 x13).bind fun t2 => U.asBool t2
 (U.asInt x14 fun n3 => U.elemAt 4 x12 n3 fun e4 => U.asVar true 4 e4 fun e5 => if storable (.val e5) = true ∧ e5.size = 4 then U.asAgg e5 fun us6 => if 1 = sizes (us6.take 1) then (us6[1]?).bind fun e7 => U.asVar false 1 e7 fun e8 => (U.bin .gtr e8 x2).bind fun t9 => U.asBool t9
 (U.asVar true 4 e5 fun e10 => (E 52 [e10, x1]).bind fun t11 => U.asBool t11
 ((U.un .not x9).bind fun t12 => U.asBool t12
 (U.asAgg e5 fun us13 => if 0 = sizes (us13.take 0) then (us13[0]?).bind fun e14 => U.asVar false 1 e14 fun e15 => U.asAgg e5 fun us16 => if 1 = sizes (us16.take 1) then (us16[1]?).bind fun e17 => U.asVar false 1 e17 fun e18 => (U.bin .add x14 (.int .i64 1)).bind fun t19 => f22_l0 E x1 x2 e15 e18 (.bool true) x12 x13 t19 else none else none)
 (U.asAgg e5 fun us20 => if 1 = sizes (us20.take 1) then (us20[1]?).bind fun e21 => U.asVar false 1 e21 fun e22 => (U.bin .lss e22 x8).bind fun t23 => U.asBool t23
 (U.asAgg e5 fun us24 => if 0 = sizes (us24.take 0) then (us24[0]?).bind fun e25 => U.asVar false 1 e25 fun e26 => U.asAgg e5 fun us27 => if 1 = sizes (us27.take 1) then (us27[1]?).bind fun e28 => U.asVar false 1 e28 fun e29 => (U.bin .add x14 (.int .i64 1)).bind fun t30 => f22_l0 E x1 x2 e26 e29 (.bool true) x12 x13 t30 else none else none)
 ((U.bin .add x14 (.int .i64 1)).bind fun t31 => f22_l0 E x1 x2 x7 x8 x9 x12 x13 t31) else none))
 ((U.bin .add x14 (.int .i64 1)).bind fun t32 => f22_l0 E x1 x2 x7 x8 x9 x12 x13 t32))
 ((U.bin .add x14 (.int .i64 1)).bind fun t33 => f22_l0 E x1 x2 x7 x8 x9 x12 x13 t33) else none else none)
 (some x7) :=
 (Qd E _ _ _ _).trans (by kernel_rfl)
structure G_f22 (E : Env) : Prop where
 is : Is E 47 3 f22_ac [(6, none)]
 c_f12 : G_f12 E
theorem f22_E {E : Env} (h : G_f22 E) (a0 a1 a2 : U) : E 47 [a0, a1, a2] =
 (U.lenOf false a0).bind fun n1 => f22_l0 E a1 a2 (.int .i64 0) (.int .i64 0) (.bool false) a0 (.int .i64 (n1 : Int)) (.int .i64 0) := (h.is _ rfl).trans ((Qb rfl).trans (by kernel_rfl))
def f67_b1 : AC :=
 (.seq (.seq (rg [oo 29 (.mv (.t 5)),
 oo 30 (.mv (.t 4)),
 oo 31 (.len false (.t 30)),
 oo 32 (.bin .lss (.t 29) (.t 31))])
 (.cond (.t 32) .skip (.exit 2)))
 (.seq (.block 3 (.seq (.region 10 [oo 35 (.mv (.t 4)),
 oo 36 (.mv (.t 5)),
 oo 37 (.iaddr 4 (.t 35) (.t 36)),
 oo 38 (.load true 4 (.t 37)),
 oo 39 (.mv (.t 4)),
 oo 40 (.mv (.t 5)),
 oo 41 (.bin .sub (.t 40) (ci 1)),
 oo 42 (.iaddr 4 (.t 39) (.t 41)),
 oo 43 (.load true 4 (.t 42)),
 oo 44 (.eqv true 6 (.t 38) (.t 43))])
 (.cond (.t 44) (.seq (rg [oo 45 (.mv (.t 0)),
 oo 46 (.mv (.t 3)),
 oo 47 (.mv (.t 4)),
 oo 48 (.mv (.t 5)),
 oo 49 (.iaddr 4 (.t 47) (.t 48)),
 oo 50 (.load true 4 (.t 49)),
 oo 51 (.iaddr 4 (.t 45) (.t 46)),
 ⟨none, .store 4 (.t 51) (.t 50), none⟩])
 (rg [oo 52 (.mv (.t 3)),
 oo 53 (.bin .add (.t 52) (ci 1)),
 oo 3 (.mv (.t 53))])) .skip)))
 (rg [oo 33 (.mv (.t 5)),
 oo 34 (.bin .add (.t 33) (ci 1)),
 oo 5 (.mv (.t 34))])))
def f67_r0 : AC :=
 (.seq (rg [oo 54 (.mv (.t 0)),
 oo 55 (.mv (.t 3)),
 oo 56 (.slice false 4 (.t 54) (some (.t 55)) none),
 ⟨none, .clear 4 (.agg [(.int .i64 0), (.int .i64 0), (.int .i64 0), (.int .i64 0)]) (.t 56), none⟩])
 (.seq (rg [oo 57 (.mv (.t 0)),
 oo 58 (.mv (.t 3)),
 oo 59 (.sliceO 59 4 (.t 57) (.t 58)),
 oo 2 (.mv (.t 59))])
 .ret))
def f67_r1 : AC :=
 (rg [oo 14 (.mv (.t 3)),
 oo 15 (.bin .add (.t 14) (ci 1)),
 oo 3 (.mv (.t 15))])
def f67_b0 : AC :=
 (.seq (.seq (rg [oo 10 (.mv (.t 3)),
 oo 11 (.mv (.t 0)),
 oo 12 (.len false (.t 11)),
 oo 13 (.bin .lss (.t 10) (.t 12))])
 (.cond (.t 13) .skip (.exit 0)))
 (.seq (.block 1 (.seq (.region 10 [oo 16 (.mv (.t 0)),
 oo 17 (.mv (.t 3)),
 oo 18 (.iaddr 4 (.t 16) (.t 17)),
 oo 19 (.load true 4 (.t 18)),
 oo 20 (.mv (.t 0)),
 oo 21 (.mv (.t 3)),
 oo 22 (.bin .sub (.t 21) (ci 1)),
 oo 23 (.iaddr 4 (.t 20) (.t 22)),
 oo 24 (.load true 4 (.t 23)),
 oo 25 (.eqv false 6 (.t 19) (.t 24))])
 (.cond (.t 25) (.seq (rg [oo 26 (.mv (.t 0)),
 oo 27 (.mv (.t 3)),
 oo 28 (.slice false 4 (.t 26) (some (.t 27)) none),
 oo 4 (.mv (.t 28))])
 (.seq (.seq (rg [oo 5 (.mv (ci 1))])
 (.block 2 (.loop ⟨[0, 3, 4, 5], [], [(5000, false)]⟩ f67_b1)))
 f67_r0)) .skip)))
 f67_r1))
def f67_r2 : AC :=
 (.seq (rg [oo 60 (.mv (.t 0)),
 oo 2 (.mv (.t 60))])
 .ret)
def f67_ac : AC :=
 (.seq (rg [oo 2 (.mv (.c (.nsl 4)))])
 (.seq (.seq (rg [oo 6 (.mv (.t 0)),
 oo 7 (.len false (.t 6)),
 oo 8 (.bin .lss (.t 7) (ci 2))])
 (.cond (.t 8) (.seq (rg [oo 9 (.mv (.t 0)),
 oo 2 (.mv (.t 9))])
 .ret) .skip))
 (.seq (.seq (rg [oo 3 (.mv (ci 1))])
 (.block 0 (.loop ⟨[0, 3], [], [(5000, false)]⟩ f67_b0)))
 f67_r2)))
noncomputable def f67_l0 (E : Env) (x3 : U) (b5000 : List U) : Option U := loopK (roundOf E ⟨[0, 3], [], [(5000, false)]⟩ f67_b0 (blockK 0 (seqK (fun s => exec E f67_r2 s (finishF [(2, none)])) (finishF [(2, none)])))) ([.ref 5000 [] 4 none, .val x3], [.vir (.own (.sl 4 b5000))])
noncomputable def f67_l1 (E : Env) (x3 : U) (x4_0 : Nat) (x4_1 : Nat) (x5 : U) (b5000 : List U) : Option U := loopK (roundOf E ⟨[0, 3, 4, 5], [], [(5000, false)]⟩ f67_b1 (blockK 2 (seqK (fun s => exec E f67_r0 s (blockK 1 (seqK (fun s => exec E f67_r1 s (roundK ⟨[0, 3], [], [(5000, false)]⟩ (loopK (roundOf E ⟨[0, 3], [], [(5000, false)]⟩ f67_b0 (blockK 0 (seqK (fun s => exec E f67_r2 s (finishF [(2, none)])) (finishF [(2, none)]))))) (blockK 0 (seqK (fun s => exec E f67_r2 s (finishF [(2, none)])) (finishF [(2, none)]))))) (roundK ⟨[0, 3], [], [(5000, false)]⟩ (loopK (roundOf E ⟨[0, 3], [], [(5000, false)]⟩ f67_b0 (blockK 0 (seqK (fun s => exec E f67_r2 s (finishF [(2, none)])) (finishF [(2, none)]))))) (blockK 0 (seqK (fun s => exec E f67_r2 s (finishF [(2, none)])) (finishF [(2, none)]))))))) (blockK 1 (seqK (fun s => exec E f67_r1 s (roundK ⟨[0, 3], [], [(5000, false)]⟩ (loopK (roundOf E ⟨[0, 3], [], [(5000, false)]⟩ f67_b0 (blockK 0 (seqK (fun s => exec E f67_r2 s (finishF [(2, none)])) (finishF [(2, none)]))))) (blockK 0 (seqK (fun s => exec E f67_r2 s (finishF [(2, none)])) (finishF [(2, none)]))))) (roundK ⟨[0, 3], [], [(5000, false)]⟩ (loopK (roundOf E ⟨[0, 3], [], [(5000, false)]⟩ f67_b0 (blockK 0 (seqK (fun s => exec E f67_r2 s (finishF [(2, none)])) (finishF [(2, none)]))))) (blockK 0 (seqK (fun s => exec E f67_r2 s (finishF [(2, none)])) (finishF [(2, none)]))))))))) ([.ref 5000 [] 4 none, .val x3, .ref 5000 [] 4 (some (x4_0, x4_1)), .val x5], [.vir (.own (.sl 4 b5000))])
theorem Qmw (E : Env) (x3 : U) (b5000 : List U) : f67_l0 E x3 b5000 =
 (U.bin .lss x3 (.int .i64 (b5000.length : Int))).bind fun t2 => U.asBool t2
 (U.asInt x3 fun n3 => if 4 = 4 ∧ 0 ≤ n3 ∧ n3 < (b5000.length : Int) then (b5000[(n3 : Int).toNat]?).bind fun e4 => U.asVar true 4 e4 fun e5 => if (e5 : U).flat = true then (U.bin .sub x3 (.int .i64 1)).bind fun t6 => U.asInt t6 fun n7 => if 4 = 4 ∧ 0 ≤ n7 ∧ n7 < (b5000.length : Int) then (b5000[(n7 : Int).toNat]?).bind fun e8 => U.asVar true 4 e8 fun e9 => if (e9 : U).flat = true then (U.eqv 6 e5 e9).bind fun q10 => U.asBool (.bool q10)
 (U.asInt x3 fun n11 => if false = false ∧ 4 = 4 ∧ 0 ≤ (n11) ∧ (n11) ≤ ((b5000.length : Nat) : Int) ∧ ((b5000.length : Nat) : Int) ≤ ((b5000.length : Nat) : Int) then f67_l1 E x3 ((n11) : Int).toNat ((((b5000.length : Nat) : Int) : Int).toNat - ((n11) : Int).toNat) (.int .i64 1) b5000 else none)
 ((U.bin .add x3 (.int .i64 1)).bind fun t12 => f67_l0 E t12 b5000) else none else none else none else none)
 (some (.sl 4 b5000)) :=
 (Qd E _ _ _ _).trans (by kernel_rfl)
theorem Qmx (E : Env) (x3 : U) (x4_0 : Nat) (x4_1 : Nat) (x5 : U) (b5000 : List U) : f67_l1 E x3 x4_0 x4_1 x5 b5000 =
 (U.bin .lss x5 (.int .i64 ((x4_1 : Nat) : Int))).bind fun t13 => U.asBool t13
 (U.asInt x5 fun n14 => if 4 = 4 ∧ 0 ≤ n14 ∧ n14 < ((x4_1 : Nat) : Int) ∧ x4_0 + x4_1 ≤ b5000.length then (b5000[(x4_0 + (n14 : Int).toNat)]?).bind fun e15 => U.asVar true 4 e15 fun e16 => if (e16 : U).flat = true then (U.bin .sub x5 (.int .i64 1)).bind fun t17 => U.asInt t17 fun n18 => if 4 = 4 ∧ 0 ≤ n18 ∧ n18 < ((x4_1 : Nat) : Int) ∧ x4_0 + x4_1 ≤ b5000.length then (b5000[(x4_0 + (n18 : Int).toNat)]?).bind fun e19 => U.asVar true 4 e19 fun e20 => if (e20 : U).flat = true then (U.eqv 6 e16 e20).bind fun q21 => U.asBool (.bool (!q21))
 (U.asInt x5 fun n22 => if 4 = 4 ∧ 0 ≤ n22 ∧ n22 < ((x4_1 : Nat) : Int) ∧ x4_0 + x4_1 ≤ b5000.length then (b5000[(x4_0 + (n22 : Int).toNat)]?).bind fun e23 => U.asVar true 4 e23 fun e24 => if (e24 : U).flat = true then U.asInt x3 fun n25 => if 4 = 4 ∧ 0 ≤ n25 ∧ n25 < (b5000.length : Int) then if storable (.val e24) = true ∧ e24.size = 4 then (b5000[(n25 : Int).toNat]?).bind fun e26 => if e26.size = 4 then if (e24 : U).flat = true then (U.bin .add x3 (.int .i64 1)).bind fun t27 => (U.bin .add x5 (.int .i64 1)).bind fun t28 => f67_l1 E t27 x4_0 x4_1 t28 (b5000.set (n25 : Int).toNat e24) else none else none else none else none else none else none)
 ((U.bin .add x5 (.int .i64 1)).bind fun t29 => f67_l1 E x3 x4_0 x4_1 t29 b5000) else none else none else none else none)
 (U.asInt x3 fun n30 => if false = false ∧ 4 = 4 ∧ 0 ≤ (n30) ∧ (n30) ≤ ((b5000.length : Nat) : Int) ∧ ((b5000.length : Nat) : Int) ≤ ((b5000.length : Nat) : Int) then if 4 = 4 ∧ ((.agg [(.int .i64 0), (.int .i64 0), (.int .i64 0), (.int .i64 0)]) : U).size = 4 ∧ 0 < 4 ∧ ((.agg [(.int .i64 0), (.int .i64 0), (.int .i64 0), (.int .i64 0)]) : U).flat = true ∧ U.flat.flats b5000 = true ∧ ((n30) : Int).toNat + ((((b5000.length : Nat) : Int) : Int).toNat - ((n30) : Int).toNat) ≤ ((b5000 : List U)).length then U.asInt x3 fun n31 => if 0 ≤ (n31 : Int) ∧ (n31 : Int) ≤ (((((b5000 : List U)).take ((n30) : Int).toNat ++ List.replicate ((((b5000.length : Nat) : Int) : Int).toNat - ((n30) : Int).toNat) (.agg [(.int .i64 0), (.int .i64 0), (.int .i64 0), (.int .i64 0)]) ++ ((b5000 : List U)).drop (((n30) : Int).toNat + ((((b5000.length : Nat) : Int) : Int).toNat - ((n30) : Int).toNat))) : List U)).length then some (.sl 4 ((((((b5000 : List U)).take ((n30) : Int).toNat ++ List.replicate ((((b5000.length : Nat) : Int) : Int).toNat - ((n30) : Int).toNat) (.agg [(.int .i64 0), (.int .i64 0), (.int .i64 0), (.int .i64 0)]) ++ ((b5000 : List U)).drop (((n30) : Int).toNat + ((((b5000.length : Nat) : Int) : Int).toNat - ((n30) : Int).toNat))) : List U)).take (n31 : Int).toNat)) else none else none else none) :=
 (Qd E _ _ _ _).trans (by kernel_rfl)
structure G_f67 (E : Env) : Prop where
 is : Is E 300361 1 f67_ac [(2, none)]
theorem f67_E {E : Env} (h : G_f67 E) (xs0 : List U) : E 300361 (.agg [.tup [.sl 4 xs0]] :: []) =
 (U.bin .lss (.int .i64 (xs0.length : Int)) (.int .i64 2)).bind fun t1 => U.asBool t1
 (some (.sl 4 xs0))
 (f67_l0 E (.int .i64 1) xs0) := (h.is _ rfl).trans ((Qaan rfl).trans (by kernel_rfl))
def f32_ac : AC :=
 (.seq (rg [oo 9 (.mv (.t 0)),
 oo 10 (.bin .neq (.t 9) (ci 0)),
 oo 11 (.mv (.t 10)),
 ⟨some 12, .mv (.t 1), some (11, true)⟩,
 ⟨some 13, .bin .neq (.t 12) (ci 0), some (11, true)⟩,
 oo 14 (.pick (.t 11) (.t 13) (.c (.bool false))),
 oo 15 (.mv (.t 14)),
 ⟨some 16, .mv (.t 0), some (15, true)⟩,
 ⟨some 17, .mv (.t 1), some (15, true)⟩,
 ⟨some 18, .bin .neq (.t 16) (.t 17), some (15, true)⟩,
 oo 19 (.pick (.t 15) (.t 18) (.c (.bool false)))])
 (.cond (.t 19) (rg [oo 20 (.loadO (.sl 4) (.t 4)),
 oo 21 (.mv (.t 0)),
 oo 22 (.mv (.t 1)),
 oo 23 (.mv (.t 2)),
 oo 24 (.mv (.t 3)),
 oo 25 (.build [(.int .i64 0), (.int .i64 0), (.int .i64 0), (.int .i64 0)] [(0, (.t 21)), (1, (.t 22)), (2, (.t 23)), (3, (.t 24))]),
 oo 26 (.bslice 0 26 4 1 (.agg [(.int .i64 0), (.int .i64 0), (.int .i64 0), (.int .i64 0)]) [(0, (.t 25))]),
 oo 27 (.append false 27 4 32 (.t 20) (.t 26)),
 ⟨none, .storeM 3000 1 (.t 4) (.t 27), none⟩]) .skip))
structure G_f32 (E : Env) : Prop where
 is : Is E 500363 5 f32_ac []
theorem f32_E {E : Env} (h : G_f32 E) (xs0 : List U) (a0 : U) (a1 : U) (a2 : U) (a3 : U) : E 500363 (.agg [.tup [(.sl 4 xs0)]] :: [a0, a1, a2, a3]) =
 (U.bin .neq a0 (.int .i64 0)).bind fun t1 => U.asBool t1
 ((U.bin .neq a1 (.int .i64 0)).bind fun t2 => U.asBool t2
 ((U.bin .neq a0 a1).bind fun t3 => U.asBool t3
 (if partable (.val a0) = true ∧ a0.size = 1 then if partable (.val a1) = true ∧ a1.size = 1 then if partable (.val a2) = true ∧ a2.size = 1 then if partable (.val a3) = true ∧ a3.size = 1 then if partable (.val (.agg [a0, a1, a2, a3])) = true ∧ ((.agg [a0, a1, a2, a3]) : U).size = 4 then if 4 = 4 ∧ U.flat.flats [(.agg [a0, a1, a2, a3])] = true ∧ ((xs0).length + ([(.agg [a0, a1, a2, a3])] : List U).length) * 32 ≤ 140737488355328 then some (.tup [(.tup []), (.sl 4 (xs0 ++ [(.agg [a0, a1, a2, a3])]))]) else none else none else none else none else none else none)
 (some (.tup [(.tup []), (.sl 4 xs0)])))
 (some (.tup [(.tup []), (.sl 4 xs0)])))
 (some (.tup [(.tup []), (.sl 4 xs0)])) := (h.is _ rfl).trans ((Qaao rfl).trans (by kernel_rfl))
def f31_b2 : AC :=
 (.seq (rg [oo 23 (.bin .lss (.t 22) (.t 21))])
 (.seq (.cond (.t 23) .skip (.exit 2))
 (.seq (.block 3 (.seq (rg [oo 24 (.iaddr 2 (.t 20) (.t 22)),
 oo 25 (.load true 2 (.t 24)),
 oo 8 (.alloc 8 (.agg [(.int .i64 0), (.int .i64 0)])),
 ⟨none, .store 2 (.t 8) (.t 25), none⟩])
 (.seq (.region 8 [oo 26 (.mv (.t 4)),
 oo 27 (.mv (.t 0)),
 oo 28 (.load true 2 (.t 8)),
 oo 29 (.call false 249 [(.t 27), (.t 28)]),
 oo 30 (.faddr 0 0 (.t 6)),
 oo 31 (.load false 1 (.t 30)),
 oo 32 (.faddr 0 0 (.t 8)),
 oo 33 (.load false 1 (.t 32)),
 oo 34 (.callL (.sl 4) 363 (.t 26) [(.t 29), (.t 31), (ci 1), (.t 33)])])
 (.region 11 [oo 35 (.mv (.t 4)),
 oo 36 (.faddr 0 0 (.t 6)),
 oo 37 (.load false 1 (.t 36)),
 oo 38 (.mv (.t 0)),
 oo 39 (.faddr 0 0 (.t 8)),
 oo 40 (.load false 1 (.t 39)),
 oo 41 (.faddr 1 1 (.t 8)),
 oo 42 (.load false 1 (.t 41)),
 oo 43 (.call false 47 [(.t 38), (.t 40), (.t 42)]),
 oo 44 (.faddr 0 0 (.t 8)),
 oo 45 (.load false 1 (.t 44)),
 oo 46 (.callL (.sl 4) 363 (.t 35) [(.t 37), (.t 43), (ci 3), (.t 45)])]))))
 (rg [oo 47 (.bin .add (.t 22) (ci 1)),
 oo 22 (.mv (.t 47))]))))
def f31_b1 : AC :=
 (.seq (rg [oo 52 (.bin .lss (.t 51) (.t 50))])
 (.seq (.cond (.t 52) .skip (.exit 4))
 (.seq (.block 5 (.seq (rg [oo 53 (.iaddr 2 (.t 49) (.t 51)),
 oo 54 (.load true 2 (.t 53)),
 oo 10 (.alloc 10 (.agg [(.int .i64 0), (.int .i64 0)])),
 ⟨none, .store 2 (.t 10) (.t 54), none⟩])
 (.region 11 [oo 55 (.mv (.t 4)),
 oo 56 (.faddr 0 0 (.t 6)),
 oo 57 (.load false 1 (.t 56)),
 oo 58 (.mv (.t 0)),
 oo 59 (.faddr 0 0 (.t 10)),
 oo 60 (.load false 1 (.t 59)),
 oo 61 (.faddr 1 1 (.t 6)),
 oo 62 (.load false 1 (.t 61)),
 oo 63 (.call false 47 [(.t 58), (.t 60), (.t 62)]),
 oo 64 (.faddr 0 0 (.t 10)),
 oo 65 (.load false 1 (.t 64)),
 oo 66 (.callL (.sl 4) 363 (.t 55) [(.t 57), (.t 63), (ci 2), (.t 65)])])))
 (rg [oo 67 (.bin .add (.t 51) (ci 1)),
 oo 51 (.mv (.t 67))]))))
def f31_r0 : AC :=
 (.seq (rg [oo 48 (.faddr 3 3 (.t 6)),
 oo 49 (.load false 1 (.t 48)),
 oo 50 (.len false (.t 49)),
 oo 51 (.mv (ci 0))])
 (.block 4 (.loop ⟨[0, 3, 4, 6, 13, 14, 15, 49, 50, 51], [], [(3, true), (6, false)]⟩ f31_b1)))
def f31_r1 : AC :=
 (rg [oo 68 (.bin .add (.t 15) (ci 1)),
 oo 15 (.mv (.t 68))])
def f31_b0 : AC :=
 (.seq (rg [oo 16 (.bin .lss (.t 15) (.t 14))])
 (.seq (.cond (.t 16) .skip (.exit 0))
 (.seq (.block 1 (.seq (rg [oo 17 (.iaddr 4 (.t 13) (.t 15)),
 oo 18 (.load true 4 (.t 17)),
 oo 6 (.alloc 6 (.agg [(.int .i64 0), (.int .i64 0), (.nsl 2), (.nsl 2)])),
 ⟨none, .store 4 (.t 6) (.t 18), none⟩])
 (.seq (.seq (rg [oo 19 (.faddr 2 2 (.t 6)),
 oo 20 (.load false 1 (.t 19)),
 oo 21 (.len false (.t 20)),
 oo 22 (.mv (ci 0))])
 (.block 2 (.loop ⟨[0, 3, 4, 6, 13, 14, 15, 20, 21, 22], [], [(3, true), (6, false)]⟩ f31_b2)))
 f31_r0)))
 f31_r1)))
def f31_r2 : AC :=
 (.seq (rg [oo 69 (.loadO (.sl 4) (.t 3)),
 oo 70 (.callM 4 362 (.t 69) [(.c (.fn 12 []))])])
 (.seq (rg [oo 71 (.loadO (.sl 4) (.t 3)),
 oo 72 (.callC 72 4 361 (.t 71) []),
 oo 2 (.mv (.t 72))])
 .ret))
def f31_ac : AC :=
 (.seq (rg [oo 2 (.mv (.c (.nsl 4)))])
 (.seq (rg [oo 11 (.bslice 2 11 4 0 (.agg [(.int .i64 0), (.int .i64 0), (.int .i64 0), (.int .i64 0)]) []),
 oo 3 (.alloc 3 (.nsl 4)),
 ⟨none, .storeM 3000 1 (.t 3) (.t 11), none⟩])
 (.seq (rg [oo 12 (.mkfn 363 [(.t 3)]),
 oo 4 (.mv (.t 12))])
 (.seq (.seq (rg [oo 13 (.mv (.t 0)),
 oo 14 (.len false (.t 13)),
 oo 15 (.mv (ci 0))])
 (.block 0 (.loop ⟨[0, 3, 4, 13, 14, 15], [], [(3, true)]⟩ f31_b0)))
 f31_r2))))
noncomputable def f31_l0 (E : Env) (x0 : U) (x13 : U) (x14 : U) (x15 : U) (b3 : List U) : Option U := loopK (roundOf E ⟨[0, 3, 4, 13, 14, 15], [], [(3, true)]⟩ f31_b0 (blockK 0 (seqK (fun s => exec E f31_r2 s (finish [(2, none)])) (finish [(2, none)])))) ([.val x0, .ptr 3 [], .fnv 363 [.ptr 3 []], .val x13, .val x14, .val x15], [.box (.own (.sl 4 b3))])
noncomputable def f31_l2 (E : Env) (x0 : U) (x13 : U) (x14 : U) (x15 : U) (x20 : U) (x21 : U) (x22 : U) (b3 : List U) (b6 : U) : Option U := loopK (roundOf E ⟨[0, 3, 4, 6, 13, 14, 15, 20, 21, 22], [], [(3, true), (6, false)]⟩ f31_b2 (blockK 2 (seqK (fun s => exec E f31_r0 s (blockK 1 (seqK (fun s => exec E f31_r1 s (roundK ⟨[0, 3, 4, 13, 14, 15], [], [(3, true)]⟩ (loopK (roundOf E ⟨[0, 3, 4, 13, 14, 15], [], [(3, true)]⟩ f31_b0 (blockK 0 (seqK (fun s => exec E f31_r2 s (finish [(2, none)])) (finish [(2, none)]))))) (blockK 0 (seqK (fun s => exec E f31_r2 s (finish [(2, none)])) (finish [(2, none)]))))) (roundK ⟨[0, 3, 4, 13, 14, 15], [], [(3, true)]⟩ (loopK (roundOf E ⟨[0, 3, 4, 13, 14, 15], [], [(3, true)]⟩ f31_b0 (blockK 0 (seqK (fun s => exec E f31_r2 s (finish [(2, none)])) (finish [(2, none)]))))) (blockK 0 (seqK (fun s => exec E f31_r2 s (finish [(2, none)])) (finish [(2, none)]))))))) (blockK 1 (seqK (fun s => exec E f31_r1 s (roundK ⟨[0, 3, 4, 13, 14, 15], [], [(3, true)]⟩ (loopK (roundOf E ⟨[0, 3, 4, 13, 14, 15], [], [(3, true)]⟩ f31_b0 (blockK 0 (seqK (fun s => exec E f31_r2 s (finish [(2, none)])) (finish [(2, none)]))))) (blockK 0 (seqK (fun s => exec E f31_r2 s (finish [(2, none)])) (finish [(2, none)]))))) (roundK ⟨[0, 3, 4, 13, 14, 15], [], [(3, true)]⟩ (loopK (roundOf E ⟨[0, 3, 4, 13, 14, 15], [], [(3, true)]⟩ f31_b0 (blockK 0 (seqK (fun s => exec E f31_r2 s (finish [(2, none)])) (finish [(2, none)]))))) (blockK 0 (seqK (fun s => exec E f31_r2 s (finish [(2, none)])) (finish [(2, none)]))))))))) ([.val x0, .ptr 3 [], .fnv 363 [.ptr 3 []], .ptr 6 [], .val x13, .val x14, .val x15, .val x20, .val x21, .val x22], [.box (.own (.sl 4 b3)), .box (.val b6)])
noncomputable def f31_l1 (E : Env) (x0 : U) (x13 : U) (x14 : U) (x15 : U) (x49 : U) (x50 : U) (x51 : U) (b3 : List U) (b6 : U) : Option U := loopK (roundOf E ⟨[0, 3, 4, 6, 13, 14, 15, 49, 50, 51], [], [(3, true), (6, false)]⟩ f31_b1 (blockK 4 (blockK 1 (seqK (fun s => exec E f31_r1 s (roundK ⟨[0, 3, 4, 13, 14, 15], [], [(3, true)]⟩ (loopK (roundOf E ⟨[0, 3, 4, 13, 14, 15], [], [(3, true)]⟩ f31_b0 (blockK 0 (seqK (fun s => exec E f31_r2 s (finish [(2, none)])) (finish [(2, none)]))))) (blockK 0 (seqK (fun s => exec E f31_r2 s (finish [(2, none)])) (finish [(2, none)]))))) (roundK ⟨[0, 3, 4, 13, 14, 15], [], [(3, true)]⟩ (loopK (roundOf E ⟨[0, 3, 4, 13, 14, 15], [], [(3, true)]⟩ f31_b0 (blockK 0 (seqK (fun s => exec E f31_r2 s (finish [(2, none)])) (finish [(2, none)]))))) (blockK 0 (seqK (fun s => exec E f31_r2 s (finish [(2, none)])) (finish [(2, none)])))))))) ([.val x0, .ptr 3 [], .fnv 363 [.ptr 3 []], .ptr 6 [], .val x13, .val x14, .val x15, .val x49, .val x50, .val x51], [.box (.own (.sl 4 b3)), .box (.val b6)])
theorem Qll (E : Env) (x0 : U) (x13 : U) (x14 : U) (x15 : U) (b3 : List U) : f31_l0 E x0 x13 x14 x15 b3 =
 (U.bin .lss x15 x14).bind fun t2 => U.asBool t2
 (U.asInt x15 fun n3 => U.elemAt 4 x13 n3 fun e4 => U.asVar true 4 e4 fun e5 => if storable (.val e5) = true ∧ e5.size = 4 then U.asAgg e5 fun us6 => if 2 = sizes (us6.take 2) then (us6[2]?).bind fun e7 => U.asVar false 1 e7 fun e8 => (U.lenOf false e8).bind fun n9 => f31_l2 E x0 x13 x14 x15 e8 (.int .i64 (n9 : Int)) (.int .i64 0) b3 e5 else none else none)
 ((E 200362 (.agg [.tup [.sl 4 b3]] :: [(.fn 12 [])])).bind fun t10 => U.asMut 4 t10 fun y11 ys12 => U.asFlat y11 fun y11 => (E 300361 (.agg [.tup [.sl 4 ys12]] :: [])).bind fun t13 => U.asSlK 4 t13 fun us14 => some (.sl 4 us14)) :=
 (Qd E _ _ _ _).trans (by kernel_rfl)
theorem Qlp (E : Env) (x0 : U) (x13 : U) (x14 : U) (x15 : U) (x20 : U) (x21 : U) (x22 : U) (b3 : List U) (b6 : U) : f31_l2 E x0 x13 x14 x15 x20 x21 x22 b3 b6 =
 (U.bin .lss x22 x21).bind fun t15 => U.asBool t15
 (U.asInt x22 fun n16 => U.elemAt 2 x20 n16 fun e17 => U.asVar true 2 e17 fun e18 => if storable (.val e18) = true ∧ e18.size = 2 then U.asVar true 2 e18 fun e19 => (E 249 [x0, e19]).bind fun t20 => U.asAgg b6 fun us21 => if 0 = sizes (us21.take 0) then (us21[0]?).bind fun e22 => U.asVar false 1 e22 fun e23 => U.asAgg e18 fun us24 => if 0 = sizes (us24.take 0) then (us24[0]?).bind fun e25 => U.asVar false 1 e25 fun e26 => (E 500363 (.agg [.tup [(.sl 4 b3)]] :: [t20, e23, (.int .i64 1), e26])).bind fun t27 => U.asPtr t27 fun y28 z29 => U.asSlK 4 z29 fun us30 => U.asAgg b6 fun us31 => if 0 = sizes (us31.take 0) then (us31[0]?).bind fun e32 => U.asVar false 1 e32 fun e33 => U.asAgg e18 fun us34 => if 0 = sizes (us34.take 0) then (us34[0]?).bind fun e35 => U.asVar false 1 e35 fun e36 => U.asAgg e18 fun us37 => if 1 = sizes (us37.take 1) then (us37[1]?).bind fun e38 => U.asVar false 1 e38 fun e39 => (E 47 [x0, e36, e39]).bind fun t40 => U.asAgg e18 fun us41 => if 0 = sizes (us41.take 0) then (us41[0]?).bind fun e42 => U.asVar false 1 e42 fun e43 => (E 500363 (.agg [.tup [(.sl 4 us30)]] :: [e33, t40, (.int .i64 3), e43])).bind fun t44 => U.asPtr t44 fun y45 z46 => U.asSlK 4 z46 fun us47 => (U.bin .add x22 (.int .i64 1)).bind fun t48 => f31_l2 E x0 x13 x14 x15 x20 x21 t48 us47 b6 else none else none else none else none else none else none else none)
 (U.asAgg b6 fun us49 => if 3 = sizes (us49.take 3) then (us49[3]?).bind fun e50 => U.asVar false 1 e50 fun e51 => (U.lenOf false e51).bind fun n52 => f31_l1 E x0 x13 x14 x15 e51 (.int .i64 (n52 : Int)) (.int .i64 0) b3 b6 else none) :=
 (Qd E _ _ _ _).trans (by kernel_rfl)
theorem Qln (E : Env) (x0 : U) (x13 : U) (x14 : U) (x15 : U) (x49 : U) (x50 : U) (x51 : U) (b3 : List U) (b6 : U) : f31_l1 E x0 x13 x14 x15 x49 x50 x51 b3 b6 =
 (U.bin .lss x51 x50).bind fun t53 => U.asBool t53
 (U.asInt x51 fun n54 => U.elemAt 2 x49 n54 fun e55 => U.asVar true 2 e55 fun e56 => if storable (.val e56) = true ∧ e56.size = 2 then U.asAgg b6 fun us57 => if 0 = sizes (us57.take 0) then (us57[0]?).bind fun e58 => U.asVar false 1 e58 fun e59 => U.asAgg e56 fun us60 => if 0 = sizes (us60.take 0) then (us60[0]?).bind fun e61 => U.asVar false 1 e61 fun e62 => U.asAgg b6 fun us63 => if 1 = sizes (us63.take 1) then (us63[1]?).bind fun e64 => U.asVar false 1 e64 fun e65 => (E 47 [x0, e62, e65]).bind fun t66 => U.asAgg e56 fun us67 => if 0 = sizes (us67.take 0) then (us67[0]?).bind fun e68 => U.asVar false 1 e68 fun e69 => (E 500363 (.agg [.tup [(.sl 4 b3)]] :: [e59, t66, (.int .i64 2), e69])).bind fun t70 => U.asPtr t70 fun y71 z72 => U.asSlK 4 z72 fun us73 => (U.bin .add x51 (.int .i64 1)).bind fun t74 => f31_l1 E x0 x13 x14 x15 x49 x50 t74 us73 b6 else none else none else none else none else none)
 ((U.bin .add x15 (.int .i64 1)).bind fun t75 => f31_l0 E x0 x13 x14 t75 b3) :=
 (Qd E _ _ _ _).trans (by kernel_rfl)
structure G_f31 (E : Env) : Prop where
 is : Is E 357 1 f31_ac [(2, none)]
 c_f28 : G_f28 E
 c_f25 : G_f25 E
 c_f22 : G_f22 E
 c_f67 : G_f67 E
 c_f32 : G_f32 E
 c_slices_SortFunc_g362 : IsSort E 362 12
theorem f31_E {E : Env} (h : G_f31 E) (a0 : U) : E 357 [a0] =
 (U.lenOf false a0).bind fun n1 => f31_l0 E a0 a0 (.int .i64 (n1 : Int)) (.int .i64 0) [] := (h.is _ rfl).trans ((Qb rfl).trans (by kernel_rfl))
def f4_ac : AC :=
 (.seq (rg [oo 2 (.mv (.c (.nsl 4)))])
 (.seq (.seq (rg [oo 3 (.mv (.t 0)),
 oo 4 (.call false 247 [(.t 3)]),
 oo 5 (.un .not (.t 4))])
 (.cond (.t 5) (.seq (rg [oo 2 (.mv (.c (.nsl 4)))])
 .ret) .skip))
 (.seq (rg [oo 6 (.mv (.t 0)),
 oo 7 (.call false 357 [(.t 6)]),
 oo 2 (.mv (.t 7))])
 .ret)))
structure G_f4 (E : Env) : Prop where
 is : Is E 408 1 f4_ac [(2, none)]
 c_f20 : G_f20 E
 c_f31 : G_f31 E
theorem f4_E {E : Env} (h : G_f4 E) (a0 : U) : E 408 [a0] =
 (E 247 [a0]).bind fun t1 => (U.un .not t1).bind fun t2 => U.asBool t2
 (some (.nsl 4))
 ((E 357 [a0]).bind fun t3 => some t3) := (h.is _ rfl).trans ((Qb rfl).trans (by kernel_rfl))
def f5_b0 : AC :=
 (.seq (rg [oo 18 (.bin .lss (.t 17) (.t 16))])
 (.seq (.cond (.t 18) .skip (.exit 0))
 (.seq (.block 1 (.seq (rg [oo 19 (.mv (.t 17)),
 oo 20 (.iaddr 1 (.t 15) (.t 17)),
 oo 21 (.load false 1 (.t 20)),
 oo 5 (.mv (.t 19)),
 oo 6 (.mv (.t 21))])
 (.seq (rg [oo 22 (.mv (.t 1)),
 oo 23 (.mv (.t 5)),
 oo 24 (.slice false 1 (.t 22) none (some (.t 23))),
 oo 25 (.mv (.t 6)),
 oo 26 (.call false 42 [(.t 24), (.t 25)]),
 oo 27 (.mv (.t 26)),
 ⟨some 28, .mv (.t 0), some (27, false)⟩,
 ⟨some 29, .mv (.t 6), some (27, false)⟩,
 ⟨some 30, .mv (.t 1), some (27, false)⟩,
 ⟨some 31, .mv (.t 5), some (27, false)⟩,
 ⟨some 32, .bin .add (.t 31) (ci 1), some (27, false)⟩,
 ⟨some 33, .mv (.t 1), some (27, false)⟩,
 ⟨some 34, .len false (.t 33), some (27, false)⟩,
 ⟨some 35, .bin .rem (.t 32) (.t 34), some (27, false)⟩,
 ⟨some 36, .iaddr 1 (.t 30) (.t 35), some (27, false)⟩,
 ⟨some 37, .load false 1 (.t 36), some (27, false)⟩,
 ⟨some 38, .call false 63 [(.t 28), (.t 29), (.t 37)], some (27, false)⟩,
 ⟨some 39, .un .not (.t 38), some (27, false)⟩,
 oo 40 (.pick (.t 27) (.c (.bool true)) (.t 39))])
 (.cond (.t 40) (.seq (rg [oo 4 (.mv (.c (.bool false)))])
 .ret) .skip))))
 (rg [oo 41 (.bin .add (.t 17) (ci 1)),
 oo 17 (.mv (.t 41))]))))
def f5_r0 : AC :=
 (.seq (rg [oo 4 (.mv (.c (.bool true)))])
 .ret)
def f5_ac : AC :=
 (.seq (rg [oo 4 (.mv (.c (.bool false)))])
 (.seq (.seq (rg [oo 7 (.mv (.t 0)),
 oo 8 (.call false 3 [(.t 7)]),
 oo 9 (.un .not (.t 8)),
 oo 10 (.mv (.t 9)),
 ⟨some 11, .mv (.t 1), some (10, false)⟩,
 ⟨some 12, .len false (.t 11), some (10, false)⟩,
 ⟨some 13, .bin .lss (.t 12) (ci 2), some (10, false)⟩,
 oo 14 (.pick (.t 10) (.c (.bool true)) (.t 13))])
 (.cond (.t 14) (.seq (rg [oo 4 (.mv (.c (.bool false)))])
 .ret) .skip))
 (.seq (.seq (rg [oo 15 (.mv (.t 1)),
 oo 16 (.len false (.t 15)),
 oo 17 (.mv (ci 0))])
 (.block 0 (.loop ⟨[0, 1, 15, 16, 17], [], []⟩ f5_b0)))
 f5_r0)))
noncomputable def f5_l0 (E : Env) (x0 : U) (x1 : U) (x15 : U) (x16 : U) (x17 : U) : Option U := loopK (roundOf E ⟨[0, 1, 15, 16, 17], [], []⟩ f5_b0 (blockK 0 (seqK (fun s => exec E f5_r0 s (finish [(4, none)])) (finish [(4, none)])))) ([.val x0, .val x1, .val x15, .val x16, .val x17], [])
theorem Qg5 (E : Env) (x0 : U) (x1 : U) (x15 : U) (x16 : U) (x17 : U) : f5_l0 E x0 x1 x15 x16 x17 =
 (U.bin .lss x17 x16).bind fun t6 => U.asBool t6
 (U.asInt x17 fun n7 => U.elemAt 1 x15 n7 fun e8 => U.asVar false 1 e8 fun e9 => U.asInt x17 fun n10 => (U.cut false 1 x1 none (some n10)).bind fun t11 => (E 42 [t11, e9]).bind fun t12 => U.asBool t12
 (some (.bool false))
 ((U.bin .add x17 (.int .i64 1)).bind fun t13 => (U.lenOf false x1).bind fun n14 => (U.bin .rem t13 (.int .i64 (n14 : Int))).bind fun t15 => U.asInt t15 fun n16 => U.elemAt 1 x1 n16 fun e17 => U.asVar false 1 e17 fun e18 => (E 63 [x0, e9, e18]).bind fun t19 => (U.un .not t19).bind fun t20 => U.asBool t20
 (some (.bool false))
 ((U.bin .add x17 (.int .i64 1)).bind fun t21 => f5_l0 E x0 x1 x15 x16 t21)))
 (some (.bool true)) :=
 (Qd E _ _ _ _).trans (by kernel_rfl)
structure G_f5 (E : Env) : Prop where
 is : Is E 60 2 f5_ac [(4, none)]
 c_f3 : G_f3 E
 c_f18 : G_f18 E
 c_f71 : G_f71 E
theorem f5_E {E : Env} (h : G_f5 E) (a0 a1 : U) : E 60 [a0, a1] =
 (E 3 [a0]).bind fun t1 => (U.un .not t1).bind fun t2 => U.asBool t2
 (some (.bool false))
 ((U.lenOf false a1).bind fun n3 => (U.bin .lss (.int .i64 (n3 : Int)) (.int .i64 2)).bind fun t4 => U.asBool t4
 (some (.bool false))
 ((U.lenOf false a1).bind fun n5 => f5_l0 E a0 a1 a1 (.int .i64 (n5 : Int)) (.int .i64 0))) := (h.is _ rfl).trans ((Qb rfl).trans (by kernel_rfl))
def f7_ac : AC :=
 (.seq (rg [oo 3 (.alloc 3 (.agg [(.int .i64 0), (.int .i64 0), (.nsl 2), (.nsl 2)]))])
 (.seq (.region 6 [oo 4 (.load false 1 (.t 1)),
 oo 5 (.load false 1 (.t 1)),
 oo 6 (.mv (.t 0)),
 oo 7 (.call false 251 [(.t 5), (.t 6)]),
 oo 8 (.iaddr 4 (.t 4) (.t 7)),
 oo 9 (.load true 4 (.t 8)),
 ⟨none, .store 4 (.t 3) (.t 9), none⟩])
 .ret))
structure G_f7 (E : Env) : Prop where
 is : Is E 446 2 f7_ac [(3, some (true, 4))]
 c_f16 : G_f16 E
theorem f7_E {E : Env} (h : G_f7 E) (a0 a1 : U) : E 446 [a0, a1] =
 U.asVp a1 fun v1 => U.asVar false 1 v1 fun e2 => U.asVp a1 fun v3 => U.asVar false 1 v3 fun e4 => (E 251 [e4, a0]).bind fun t5 => U.asInt t5 fun n6 => U.elemAt 4 e2 n6 fun e7 => U.asVar true 4 e7 fun e8 => if storable (.val e8) = true ∧ e8.size = 4 then U.asVar true 4 e8 fun e9 => some e9 else none := (h.is _ rfl).trans ((Qb rfl).trans (by kernel_rfl))
def f73_b0 : AC :=
 (.seq (rg [oo 9 (.bin .lss (.t 8) (.t 7))])
 (.seq (.cond (.t 9) .skip (.exit 0))
 (.seq (.block 1 (.seq (rg [oo 10 (.mv (.t 8)),
 oo 5 (.mv (.t 10))])
 (.seq (rg [oo 11 (.mv (.t 1)),
 oo 12 (.mv (.t 0)),
 oo 13 (.mv (.t 5)),
 oo 14 (.iaddr 1 (.t 12) (.t 13)),
 oo 15 (.load false 1 (.t 14)),
 oo 16 (.callv false (.t 11) [(.t 15)])])
 (.cond (.t 16) (.seq (rg [oo 17 (.mv (.t 5)),
 oo 4 (.mv (.t 17))])
 .ret) .skip))))
 (rg [oo 18 (.bin .add (.t 8) (ci 1)),
 oo 8 (.mv (.t 18))]))))
def f73_r0 : AC :=
 (.seq (rg [oo 4 (.mv (ci (-1)))])
 .ret)
def f73_ac : AC :=
 (.seq (rg [oo 4 (.mv (ci 0))])
 (.seq (.seq (rg [oo 6 (.mv (.t 0)),
 oo 7 (.len false (.t 6)),
 oo 8 (.mv (ci 0))])
 (.block 0 (.loop ⟨[0, 1, 7, 8], [], []⟩ f73_b0)))
 f73_r0))
noncomputable def f73_l0 (E : Env) (x0 : U) (x1 : U) (x7 : U) (x8 : U) : Option U := loopK (roundOf E ⟨[0, 1, 7, 8], [], []⟩ f73_b0 (blockK 0 (seqK (fun s => exec E f73_r0 s (finish [(4, none)])) (finish [(4, none)])))) ([.val x0, .val x1, .val x7, .val x8], [])
theorem Qm2 (E : Env) (x0 : U) (x1 : U) (x7 : U) (x8 : U) : f73_l0 E x0 x1 x7 x8 =
 (U.bin .lss x8 x7).bind fun t2 => U.asBool t2
 (U.asInt x8 fun n3 => U.elemAt 1 x0 n3 fun e4 => U.asVar false 1 e4 fun e5 => U.asFn x1 fun r6 caps7 => (E r6 ([e5] ++ caps7)).bind fun t8 => U.asBool t8
 (some x8)
 ((U.bin .add x8 (.int .i64 1)).bind fun t9 => f73_l0 E x0 x1 x7 t9))
 (some (.int .i64 (-1))) :=
 (Qd E _ _ _ _).trans (by kernel_rfl)
structure G_f73 (E : Env) : Prop where
 is : Is E 447 2 f73_ac [(4, none)]
theorem f73_E {E : Env} (h : G_f73 E) (a0 a1 : U) : E 447 [a0, a1] =
 (U.lenOf false a0).bind fun n1 => f73_l0 E a0 a1 (.int .i64 (n1 : Int)) (.int .i64 0) := (h.is _ rfl).trans ((Qb rfl).trans (by kernel_rfl))
def f68_ac : AC :=
 (.seq (rg [oo 4 (.mv (.c (.bool false)))])
 (.seq (rg [oo 5 (.mv (.t 0)),
 oo 6 (.mv (.t 1)),
 oo 7 (.call false 447 [(.t 5), (.t 6)]),
 oo 8 (.bin .geq (.t 7) (ci 0)),
 oo 4 (.mv (.t 8))])
 .ret))
structure G_f68 (E : Env) : Prop where
 is : Is E 445 2 f68_ac [(4, none)]
 c_f73 : G_f73 E
theorem f68_E {E : Env} (h : G_f68 E) (a0 a1 : U) : E 445 [a0, a1] =
 (E 447 [a0, a1]).bind fun t1 => (U.bin .geq t1 (.int .i64 0)).bind fun t2 => some t2 := (h.is _ rfl).trans ((Qb rfl).trans (by kernel_rfl))
def f8_ac : AC :=
 (.seq (rg [oo 3 (.mv (.c (.bool false)))])
 (.seq (rg [oo 4 (.load false 1 (.t 1)),
 oo 5 (.mv (.t 0)),
 oo 6 (.callv false (.t 4) [(.t 5)]),
 oo 7 (.field false 1 3 3 (.t 6)),
 oo 8 (.len false (.t 7)),
 oo 9 (.bin .eql (.t 8) (ci 0)),
 oo 3 (.mv (.t 9))])
 .ret))
structure G_f8 (E : Env) : Prop where
 is : Is E 444 2 f8_ac [(3, none)]
theorem f8_E {E : Env} (h : G_f8 E) (a0 a1 : U) : E 444 [a0, a1] =
 U.asVp a1 fun v1 => U.asVar false 1 v1 fun e2 => U.asFn e2 fun r3 caps4 => (E r3 ([a0] ++ caps4)).bind fun t5 => U.fieldAt 3 3 t5 fun f6 => U.asVar false 1 f6 fun e7 => (U.lenOf false e7).bind fun n8 => (U.bin .eql (.int .i64 (n8 : Int)) (.int .i64 0)).bind fun t9 => some t9 := (h.is _ rfl).trans ((Qb rfl).trans (by kernel_rfl))
def f9_ac : AC :=
 (.seq (rg [oo 2 (.box false 2 (.t 0)),
 oo 3 (.mv (.c (.bool false)))])
 (.seq (rg [oo 4 (.load false 1 (.t 1)),
 oo 5 (.faddr 0 0 (.t 2)),
 oo 6 (.load false 1 (.t 5)),
 oo 7 (.call false 42 [(.t 4), (.t 6)]),
 oo 8 (.mv (.t 7)),
 ⟨some 9, .load false 1 (.t 1), some (8, true)⟩,
 ⟨some 10, .faddr 1 1 (.t 2), some (8, true)⟩,
 ⟨some 11, .load false 1 (.t 10), some (8, true)⟩,
 ⟨some 12, .call false 42 [(.t 9), (.t 11)], some (8, true)⟩,
 oo 13 (.pick (.t 8) (.t 12) (.c (.bool false))),
 oo 3 (.mv (.t 13))])
 .ret))
structure G_f9 (E : Env) : Prop where
 is : Is E 443 2 f9_ac [(3, none)]
 c_f71 : G_f71 E
theorem f9_E {E : Env} (h : G_f9 E) (a0 a1 : U) : E 443 [a0, a1] =
 U.noTup a0 fun x1 => U.asVp a1 fun v2 => U.asVar false 1 v2 fun e3 => U.asAgg x1 fun us4 => if 0 = sizes (us4.take 0) then (us4[0]?).bind fun e5 => U.asVar false 1 e5 fun e6 => (E 42 [e3, e6]).bind fun t7 => U.asBool t7
 (U.asVp a1 fun v8 => U.asVar false 1 v8 fun e9 => U.asAgg x1 fun us10 => if 1 = sizes (us10.take 1) then (us10[1]?).bind fun e11 => U.asVar false 1 e11 fun e12 => (E 42 [e9, e12]).bind fun t13 => some t13 else none)
 (some (.bool false)) else none := (h.is _ rfl).trans ((Qb rfl).trans (by kernel_rfl))
def f10_ac : AC :=
 (.seq (rg [oo 2 (.box false 2 (.t 0)),
 oo 3 (.mv (.c (.bool false)))])
 (.seq (rg [oo 4 (.load true 4 (.t 1)),
 oo 5 (.faddr 0 0 (.t 2)),
 oo 6 (.load false 1 (.t 5)),
 oo 7 (.call false 52 [(.t 4), (.t 6)]),
 oo 3 (.mv (.t 7))])
 .ret))
structure G_f10 (E : Env) : Prop where
 is : Is E 442 2 f10_ac [(3, none)]
 c_f12 : G_f12 E
theorem f10_E {E : Env} (h : G_f10 E) (a0 a1 : U) : E 442 [a0, a1] =
 U.noTup a0 fun x1 => U.asVp a1 fun v2 => U.asVar true 4 v2 fun e3 => U.asAgg x1 fun us4 => if 0 = sizes (us4.take 0) then (us4[0]?).bind fun e5 => U.asVar false 1 e5 fun e6 => (E 52 [e3, e6]).bind fun t7 => some t7 else none := (h.is _ rfl).trans ((Qb rfl).trans (by kernel_rfl))
def f11_ac : AC :=
 (.seq (rg [oo 2 (.box false 2 (.t 0)),
 oo 3 (.mv (.c (.bool false)))])
 (.seq (rg [oo 4 (.load false 1 (.t 1)),
 oo 5 (.load true 4 (.t 2)),
 oo 6 (.callv false (.t 4) [(.t 5)]),
 oo 7 (.mv (.t 6)),
 ⟨some 8, .faddr 2 2 (.t 2), some (7, true)⟩,
 ⟨some 9, .load false 1 (.t 8), some (7, true)⟩,
 ⟨some 10, .bin .neq (.t 9) (ci 3), some (7, true)⟩,
 oo 11 (.pick (.t 7) (.t 10) (.c (.bool false))),
 oo 3 (.mv (.t 11))])
 .ret))
structure G_f11 (E : Env) : Prop where
 is : Is E 441 2 f11_ac [(3, none)]
theorem f11_E {E : Env} (h : G_f11 E) (a0 a1 : U) : E 441 [a0, a1] =
 U.noTup a0 fun x1 => U.asVp a1 fun v2 => U.asVar false 1 v2 fun e3 => U.asVar true 4 x1 fun e4 => U.asFn e3 fun r5 caps6 => (E r5 ([e4] ++ caps6)).bind fun t7 => U.asBool t7
 (U.asAgg x1 fun us8 => if 2 = sizes (us8.take 2) then (us8[2]?).bind fun e9 => U.asVar false 1 e9 fun e10 => (U.bin .neq e10 (.int .i64 3)).bind fun t11 => some t11 else none)
 (some (.bool false)) := (h.is _ rfl).trans ((Qb rfl).trans (by kernel_rfl))
def f6_ac : AC :=
 (.seq (rg [oo 2 (.box true 2 (.t 0)),
 oo 3 (.box true 3 (.t 1)),
 oo 4 (.mv (ci 0))])
 (.seq (rg [oo 9 (.load false 1 (.t 2)),
 oo 10 (.call false 408 [(.t 9)]),
 oo 5 (.mv (.t 10))])
 (.seq (.seq (rg [oo 11 (.mv (.t 5)),
 oo 12 (.load false 1 (.t 3)),
 oo 13 (.call false 60 [(.t 11), (.t 12)]),
 oo 14 (.un .not (.t 13))])
 (.cond (.t 14) (.seq (rg [oo 4 (.mv (ci 0))])
 .ret) .skip))
 (.seq (rg [oo 15 (.mkfn 446 [(.t 2)]),
 oo 6 (.allocJ 6),
 ⟨none, .store 1 (.t 6) (.t 15), none⟩])
 (.seq (.seq (rg [oo 16 (.load false 1 (.t 3)),
 oo 17 (.mkfn 444 [(.t 6)]),
 oo 18 (.call false 445 [(.t 16), (.t 17)])])
 (.cond (.t 18) (.seq (rg [oo 4 (.mv (ci 3))])
 .ret) .skip))
 (.seq (.seq (rg [oo 19 (.load false 1 (.t 3)),
 oo 20 (.len false (.t 19)),
 oo 21 (.bin .neq (.t 20) (ci 2))])
 (.cond (.t 21) (.seq (rg [oo 4 (.mv (ci 4))])
 .ret) .skip))
 (.seq (.regN 6 [7] [(0, 7), (1, 7), (2, 7), (3, 7), (4, 7)] [(.t 6), (.t 3), (.t 24)] [oo 22 (.load false 1 (.t 6)),
 oo 23 (.load false 1 (.t 3)),
 oo 24 (.iaddr 1 (.t 23) (ci 1)),
 oo 25 (.load false 1 (.t 24)),
 oo 26 (.callv false (.t 22) [(.t 25)]),
 oo 7 (.alloc 7 (.agg [(.int .i64 0), (.int .i64 0), (.nsl 2), (.nsl 2)])),
 ⟨none, .store 4 (.t 7) (.t 26), none⟩])
 (.seq (rg [oo 27 (.mkfn 443 [(.t 3)]),
 oo 8 (.allocJ 8),
 ⟨none, .store 1 (.t 8) (.t 27), none⟩])
 (.seq (.block 0 (.seq (.region 9 [oo 29 (.load false 1 (.t 6)),
 oo 30 (.load false 1 (.t 3)),
 oo 31 (.iaddr 1 (.t 30) (ci 0)),
 oo 32 (.load false 1 (.t 31)),
 oo 33 (.callv false (.t 29) [(.t 32)]),
 oo 34 (.field false 1 3 3 (.t 33)),
 oo 35 (.mkfn 442 [(.t 7)]),
 oo 36 (.call false 54 [(.t 34), (.t 35)]),
 oo 28 (.mv (.t 36))])
 (.cond (.t 28) (.seq (rg [oo 4 (.mv (ci 1))])
 .ret) (.seq (rg [oo 38 (.mv (.t 5)),
 oo 39 (.mkfn 441 [(.t 8)]),
 oo 40 (.call false 65 [(.t 38), (.t 39)]),
 oo 41 (.un .not (.t 40)),
 oo 37 (.mv (.t 41))])
 (.cond (.t 37) (.seq (rg [oo 4 (.mv (ci 2))])
 .ret) .skip)))))
 (.seq (rg [oo 4 (.mv (ci 4))])
 .ret))))))))))
structure G_f6 (E : Env) : Prop where
 is : Is E 438 2 f6_ac [(4, none)]
 c_f4 : G_f4 E
 c_f5 : G_f5 E
 c_f7 : G_f7 E
 c_f68 : G_f68 E
 c_f8 : G_f8 E
 c_f9 : G_f9 E
 c_f69 : G_f69 E
 c_f10 : G_f10 E
 c_f70 : G_f70 E
 c_f11 : G_f11 E
theorem f6_E {E : Env} (h : G_f6 E) (a0 a1 : U) : E 438 [a0, a1] =
 U.noTup a0 fun x1 => U.noTup a1 fun x2 => U.asVar false 1 x1 fun e3 => (E 408 [e3]).bind fun t4 => U.asVar false 1 x2 fun e5 => (E 60 [t4, e5]).bind fun t6 => (U.un .not t6).bind fun t7 => U.asBool t7
 (some (.int .i64 0))
 (U.asVar false 1 x2 fun e8 => (E 445 [e8, (.fn 444 [(.vp (.fn 446 [(.vp x1)]))])]).bind fun t9 => U.asFlat t9 fun t10 => U.asBool t10
 (some (.int .i64 3))
 (U.asVar false 1 x2 fun e11 => (U.lenOf false e11).bind fun n12 => (U.bin .neq (.int .i64 (n12 : Int)) (.int .i64 2)).bind fun t13 => U.asBool t13
 (some (.int .i64 4))
 (U.asVar false 1 x2 fun e14 => U.elemAt 1 e14 1 fun e15 => U.asVar false 1 e15 fun e16 => (E 446 ([e16] ++ [(.vp x1)])).bind fun t17 => if storable (.val t17) = true ∧ t17.size = 4 then U.asVar false 1 x2 fun e18 => U.elemAt 1 e18 0 fun e19 => U.asVar false 1 e19 fun e20 => (E 446 ([e20] ++ [(.vp x1)])).bind fun t21 => U.fieldAt 3 3 t21 fun f22 => U.asVar false 1 f22 fun e23 => (E 54 [e23, (.fn 442 [(.vp t17)])]).bind fun t24 => U.asFlat t24 fun t25 => U.asBool t25
 (some (.int .i64 1))
 ((E 65 [t4, (.fn 441 [(.vp (.fn 443 [(.vp x2)]))])]).bind fun t26 => U.asFlat t26 fun t27 => (U.un .not t27).bind fun t28 => U.asBool t28
 (some (.int .i64 2))
 (some (.int .i64 4))) else none))) := (h.is _ rfl).trans ((Qb rfl).trans (by kernel_rfl))
def f14_ac : AC :=
 (.seq (rg [oo 2 (.mv (ci 0)),
 oo 3 (.mv (.c (.nsl 1)))])
 (.seq (rg [oo 5 (.mv (.t 0)),
 oo 6 (.call false 408 [(.t 5)]),
 oo 7 (.call false 81 [(.t 6)]),
 oo 4 (.mv (.t 7))])
 (.seq (rg [oo 8 (.mv (.t 0)),
 oo 9 (.mv (.t 4)),
 oo 10 (.call false 438 [(.t 8), (.t 9)]),
 oo 11 (.mv (.t 4)),
 oo 2 (.mv (.t 10)),
 oo 3 (.mv (.t 11))])
 .ret)))
structure G_f14 (E : Env) : Prop where
 is : Is E 449 1 f14_ac [(2, none), (3, none)]
 c_f23 : G_f23 E
 c_f4 : G_f4 E
 c_f6 : G_f6 E
theorem f14_E {E : Env} (h : G_f14 E) (a0 : U) : E 449 [a0] =
 (E 408 [a0]).bind fun t1 => (E 81 [t1]).bind fun t2 => (E 438 [a0, t2]).bind fun t3 => U.noTup t3 fun x4 => U.noTup t2 fun x5 => some (.tup [x4, x5]) := (h.is _ rfl).trans ((Qb rfl).trans (by kernel_rfl))
def f41_b0 : AC :=
 (.seq (.seq (rg [oo 11 (.mv (.t 5)),
 oo 12 (.mv (.t 0)),
 oo 13 (.len false (.t 12)),
 oo 14 (.bin .lss (.t 11) (.t 13))])
 (.cond (.t 14) .skip (.exit 0)))
 (.seq (.block 1 (.seq (.region 9 [oo 17 (.mv (.t 0)),
 oo 18 (.mv (.t 5)),
 oo 19 (.iaddr 1 (.t 17) (.t 18)),
 oo 20 (.load false 1 (.t 19)),
 oo 21 (.mv (.t 1)),
 oo 22 (.mv (.t 5)),
 oo 23 (.iaddr 1 (.t 21) (.t 22)),
 oo 24 (.load false 1 (.t 23)),
 oo 25 (.bin .neq (.t 20) (.t 24))])
 (.cond (.t 25) (.seq (rg [oo 4 (.mv (.c (.bool false)))])
 .ret) .skip)))
 (rg [oo 15 (.mv (.t 5)),
 oo 16 (.bin .add (.t 15) (ci 1)),
 oo 5 (.mv (.t 16))])))
def f41_r0 : AC :=
 (.seq (rg [oo 4 (.mv (.c (.bool true)))])
 .ret)
def f41_ac : AC :=
 (.seq (rg [oo 4 (.mv (.c (.bool false)))])
 (.seq (.seq (rg [oo 6 (.mv (.t 0)),
 oo 7 (.len false (.t 6)),
 oo 8 (.mv (.t 1)),
 oo 9 (.len false (.t 8)),
 oo 10 (.bin .neq (.t 7) (.t 9))])
 (.cond (.t 10) (.seq (rg [oo 4 (.mv (.c (.bool false)))])
 .ret) .skip))
 (.seq (.seq (rg [oo 5 (.mv (ci 0))])
 (.block 0 (.loop ⟨[0, 1, 5], [], []⟩ f41_b0)))
 f41_r0)))
noncomputable def f41_l0 (E : Env) (x0 : U) (x1 : U) (x5 : U) : Option U := loopK (roundOf E ⟨[0, 1, 5], [], []⟩ f41_b0 (blockK 0 (seqK (fun s => exec E f41_r0 s (finish [(4, none)])) (finish [(4, none)])))) ([.val x0, .val x1, .val x5], [])
theorem Qg4 (E : Env) (x0 : U) (x1 : U) (x5 : U) : f41_l0 E x0 x1 x5 =
 (U.lenOf false x0).bind fun n4 => (U.bin .lss x5 (.int .i64 (n4 : Int))).bind fun t5 => U.asBool t5
 (U.asInt x5 fun n6 => U.elemAt 1 x0 n6 fun e7 => U.asVar false 1 e7 fun e8 => U.asInt x5 fun n9 => U.elemAt 1 x1 n9 fun e10 => U.asVar false 1 e10 fun e11 => (U.bin .neq e8 e11).bind fun t12 => U.asBool t12
 (some (.bool false))
 ((U.bin .add x5 (.int .i64 1)).bind fun t13 => f41_l0 E x0 x1 t13))
 (some (.bool true)) :=
 (Qd E _ _ _ _).trans (by kernel_rfl)
structure G_f41 (E : Env) : Prop where
 is : Is E 59 2 f41_ac [(4, none)]
theorem f41_E {E : Env} (h : G_f41 E) (a0 a1 : U) : E 59 [a0, a1] =
 (U.lenOf false a0).bind fun n1 => (U.lenOf false a1).bind fun n2 => (U.bin .neq (.int .i64 (n1 : Int)) (.int .i64 (n2 : Int))).bind fun t3 => U.asBool t3
 (some (.bool false))
 (f41_l0 E a0 a1 (.int .i64 0)) := (h.is _ rfl).trans ((Qb rfl).trans (by kernel_rfl))
def f42_ac : AC :=
 (.seq (rg [oo 2 (.box false 2 (.t 0)),
 oo 3 (.box false 3 (.t 1)),
 oo 4 (.mv (.c (.bool false)))])
 (.seq (.seq (rg [oo 5 (.faddr 0 0 (.t 2)),
 oo 6 (.load false 1 (.t 5)),
 oo 7 (.faddr 0 0 (.t 3)),
 oo 8 (.load false 1 (.t 7)),
 oo 9 (.bin .neq (.t 6) (.t 8))])
 (.cond (.t 9) (.seq (rg [oo 4 (.mv (.c (.bool false)))])
 .ret) .skip))
 (.seq (.seq (rg [oo 10 (.faddr 1 1 (.t 2)),
 oo 11 (.load false 1 (.t 10)),
 oo 12 (.faddr 1 1 (.t 3)),
 oo 13 (.load false 1 (.t 12)),
 oo 14 (.bin .neq (.t 11) (.t 13))])
 (.cond (.t 14) (.seq (rg [oo 4 (.mv (.c (.bool false)))])
 .ret) .skip))
 (.seq (rg [oo 4 (.mv (.c (.bool true)))])
 .ret))))
structure G_f42 (E : Env) : Prop where
 is : Is E 35 2 f42_ac [(4, none)]
theorem f42_E {E : Env} (h : G_f42 E) (a0 a1 : U) : E 35 [a0, a1] =
 U.noTup a0 fun x1 => U.noTup a1 fun x2 => U.asAgg x1 fun us3 => if 0 = sizes (us3.take 0) then (us3[0]?).bind fun e4 => U.asVar false 1 e4 fun e5 => U.asAgg x2 fun us6 => if 0 = sizes (us6.take 0) then (us6[0]?).bind fun e7 => U.asVar false 1 e7 fun e8 => (U.bin .neq e5 e8).bind fun t9 => U.asBool t9
 (some (.bool false))
 (U.asAgg x1 fun us10 => if 1 = sizes (us10.take 1) then (us10[1]?).bind fun e11 => U.asVar false 1 e11 fun e12 => U.asAgg x2 fun us13 => if 1 = sizes (us13.take 1) then (us13[1]?).bind fun e14 => U.asVar false 1 e14 fun e15 => (U.bin .neq e12 e15).bind fun t16 => U.asBool t16
 (some (.bool false))
 (some (.bool true)) else none else none) else none else none := (h.is _ rfl).trans ((Qb rfl).trans (by kernel_rfl))
def f43_b0 : AC :=
 (.seq (.seq (rg [oo 11 (.mv (.t 5)),
 oo 12 (.mv (.t 0)),
 oo 13 (.len false (.t 12)),
 oo 14 (.bin .lss (.t 11) (.t 13))])
 (.cond (.t 14) .skip (.exit 0)))
 (.seq (.block 1 (.seq (.region 10 [oo 17 (.mv (.t 0)),
 oo 18 (.mv (.t 5)),
 oo 19 (.iaddr 2 (.t 17) (.t 18)),
 oo 20 (.load true 2 (.t 19)),
 oo 21 (.mv (.t 1)),
 oo 22 (.mv (.t 5)),
 oo 23 (.iaddr 2 (.t 21) (.t 22)),
 oo 24 (.load true 2 (.t 23)),
 oo 25 (.call false 35 [(.t 20), (.t 24)]),
 oo 26 (.un .not (.t 25))])
 (.cond (.t 26) (.seq (rg [oo 4 (.mv (.c (.bool false)))])
 .ret) .skip)))
 (rg [oo 15 (.mv (.t 5)),
 oo 16 (.bin .add (.t 15) (ci 1)),
 oo 5 (.mv (.t 16))])))
def f43_r0 : AC :=
 (.seq (rg [oo 4 (.mv (.c (.bool true)))])
 .ret)
def f43_ac : AC :=
 (.seq (rg [oo 4 (.mv (.c (.bool false)))])
 (.seq (.seq (rg [oo 6 (.mv (.t 0)),
 oo 7 (.len false (.t 6)),
 oo 8 (.mv (.t 1)),
 oo 9 (.len false (.t 8)),
 oo 10 (.bin .neq (.t 7) (.t 9))])
 (.cond (.t 10) (.seq (rg [oo 4 (.mv (.c (.bool false)))])
 .ret) .skip))
 (.seq (.seq (rg [oo 5 (.mv (ci 0))])
 (.block 0 (.loop ⟨[0, 1, 5], [], []⟩ f43_b0)))
 f43_r0)))
noncomputable def f43_l0 (E : Env) (x0 : U) (x1 : U) (x5 : U) : Option U := loopK (roundOf E ⟨[0, 1, 5], [], []⟩ f43_b0 (blockK 0 (seqK (fun s => exec E f43_r0 s (finish [(4, none)])) (finish [(4, none)])))) ([.val x0, .val x1, .val x5], [])
theorem Qlz (E : Env) (x0 : U) (x1 : U) (x5 : U) : f43_l0 E x0 x1 x5 =
 (U.lenOf false x0).bind fun n4 => (U.bin .lss x5 (.int .i64 (n4 : Int))).bind fun t5 => U.asBool t5
 (U.asInt x5 fun n6 => U.elemAt 2 x0 n6 fun e7 => U.asVar true 2 e7 fun e8 => U.asInt x5 fun n9 => U.elemAt 2 x1 n9 fun e10 => U.asVar true 2 e10 fun e11 => (E 35 [e8, e11]).bind fun t12 => (U.un .not t12).bind fun t13 => U.asBool t13
 (some (.bool false))
 ((U.bin .add x5 (.int .i64 1)).bind fun t14 => f43_l0 E x0 x1 t14))
 (some (.bool true)) :=
 (Qd E _ _ _ _).trans (by kernel_rfl)
structure G_f43 (E : Env) : Prop where
 is : Is E 34 2 f43_ac [(4, none)]
 c_f42 : G_f42 E
theorem f43_E {E : Env} (h : G_f43 E) (a0 a1 : U) : E 34 [a0, a1] =
 (U.lenOf false a0).bind fun n1 => (U.lenOf false a1).bind fun n2 => (U.bin .neq (.int .i64 (n1 : Int)) (.int .i64 (n2 : Int))).bind fun t3 => U.asBool t3
 (some (.bool false))
 (f43_l0 E a0 a1 (.int .i64 0)) := (h.is _ rfl).trans ((Qb rfl).trans (by kernel_rfl))
def f44_ac : AC :=
 (.seq (rg [oo 2 (.box false 2 (.t 0)),
 oo 3 (.box false 3 (.t 1)),
 oo 4 (.mv (.c (.bool false)))])
 (.seq (.seq (rg [oo 5 (.faddr 0 0 (.t 2)),
 oo 6 (.load false 1 (.t 5)),
 oo 7 (.faddr 0 0 (.t 3)),
 oo 8 (.load false 1 (.t 7)),
 oo 9 (.bin .neq (.t 6) (.t 8))])
 (.cond (.t 9) (.seq (rg [oo 4 (.mv (.c (.bool false)))])
 .ret) .skip))
 (.seq (.seq (rg [oo 10 (.faddr 1 1 (.t 2)),
 oo 11 (.load false 1 (.t 10)),
 oo 12 (.faddr 1 1 (.t 3)),
 oo 13 (.load false 1 (.t 12)),
 oo 14 (.bin .neq (.t 11) (.t 13))])
 (.cond (.t 14) (.seq (rg [oo 4 (.mv (.c (.bool false)))])
 .ret) .skip))
 (.seq (rg [oo 4 (.mv (.c (.bool true)))])
 .ret))))
structure G_f44 (E : Env) : Prop where
 is : Is E 36 2 f44_ac [(4, none)]
theorem f44_E {E : Env} (h : G_f44 E) (a0 a1 : U) : E 36 [a0, a1] =
 U.noTup a0 fun x1 => U.noTup a1 fun x2 => U.asAgg x1 fun us3 => if 0 = sizes (us3.take 0) then (us3[0]?).bind fun e4 => U.asVar false 1 e4 fun e5 => U.asAgg x2 fun us6 => if 0 = sizes (us6.take 0) then (us6[0]?).bind fun e7 => U.asVar false 1 e7 fun e8 => (U.bin .neq e5 e8).bind fun t9 => U.asBool t9
 (some (.bool false))
 (U.asAgg x1 fun us10 => if 1 = sizes (us10.take 1) then (us10[1]?).bind fun e11 => U.asVar false 1 e11 fun e12 => U.asAgg x2 fun us13 => if 1 = sizes (us13.take 1) then (us13[1]?).bind fun e14 => U.asVar false 1 e14 fun e15 => (U.bin .neq e12 e15).bind fun t16 => U.asBool t16
 (some (.bool false))
 (some (.bool true)) else none else none) else none else none := (h.is _ rfl).trans ((Qb rfl).trans (by kernel_rfl))
def f45_b0 : AC :=
 (.seq (.seq (rg [oo 11 (.mv (.t 5)),
 oo 12 (.mv (.t 0)),
 oo 13 (.len false (.t 12)),
 oo 14 (.bin .lss (.t 11) (.t 13))])
 (.cond (.t 14) .skip (.exit 0)))
 (.seq (.block 1 (.seq (.region 10 [oo 17 (.mv (.t 0)),
 oo 18 (.mv (.t 5)),
 oo 19 (.iaddr 2 (.t 17) (.t 18)),
 oo 20 (.load true 2 (.t 19)),
 oo 21 (.mv (.t 1)),
 oo 22 (.mv (.t 5)),
 oo 23 (.iaddr 2 (.t 21) (.t 22)),
 oo 24 (.load true 2 (.t 23)),
 oo 25 (.call false 36 [(.t 20), (.t 24)]),
 oo 26 (.un .not (.t 25))])
 (.cond (.t 26) (.seq (rg [oo 4 (.mv (.c (.bool false)))])
 .ret) .skip)))
 (rg [oo 15 (.mv (.t 5)),
 oo 16 (.bin .add (.t 15) (ci 1)),
 oo 5 (.mv (.t 16))])))
def f45_r0 : AC :=
 (.seq (rg [oo 4 (.mv (.c (.bool true)))])
 .ret)
def f45_ac : AC :=
 (.seq (rg [oo 4 (.mv (.c (.bool false)))])
 (.seq (.seq (rg [oo 6 (.mv (.t 0)),
 oo 7 (.len false (.t 6)),
 oo 8 (.mv (.t 1)),
 oo 9 (.len false (.t 8)),
 oo 10 (.bin .neq (.t 7) (.t 9))])
 (.cond (.t 10) (.seq (rg [oo 4 (.mv (.c (.bool false)))])
 .ret) .skip))
 (.seq (.seq (rg [oo 5 (.mv (ci 0))])
 (.block 0 (.loop ⟨[0, 1, 5], [], []⟩ f45_b0)))
 f45_r0)))
noncomputable def f45_l0 (E : Env) (x0 : U) (x1 : U) (x5 : U) : Option U := loopK (roundOf E ⟨[0, 1, 5], [], []⟩ f45_b0 (blockK 0 (seqK (fun s => exec E f45_r0 s (finish [(4, none)])) (finish [(4, none)])))) ([.val x0, .val x1, .val x5], [])
theorem Ql2 (E : Env) (x0 : U) (x1 : U) (x5 : U) : f45_l0 E x0 x1 x5 =
 (U.lenOf false x0).bind fun n4 => (U.bin .lss x5 (.int .i64 (n4 : Int))).bind fun t5 => U.asBool t5
 (U.asInt x5 fun n6 => U.elemAt 2 x0 n6 fun e7 => U.asVar true 2 e7 fun e8 => U.asInt x5 fun n9 => U.elemAt 2 x1 n9 fun e10 => U.asVar true 2 e10 fun e11 => (E 36 [e8, e11]).bind fun t12 => (U.un .not t12).bind fun t13 => U.asBool t13
 (some (.bool false))
 ((U.bin .add x5 (.int .i64 1)).bind fun t14 => f45_l0 E x0 x1 t14))
 (some (.bool true)) :=
 (Qd E _ _ _ _).trans (by kernel_rfl)
structure G_f45 (E : Env) : Prop where
 is : Is E 33 2 f45_ac [(4, none)]
 c_f44 : G_f44 E
theorem f45_E {E : Env} (h : G_f45 E) (a0 a1 : U) : E 33 [a0, a1] =
 (U.lenOf false a0).bind fun n1 => (U.lenOf false a1).bind fun n2 => (U.bin .neq (.int .i64 (n1 : Int)) (.int .i64 (n2 : Int))).bind fun t3 => U.asBool t3
 (some (.bool false))
 (f45_l0 E a0 a1 (.int .i64 0)) := (h.is _ rfl).trans ((Qb rfl).trans (by kernel_rfl))
def f39_ac : AC :=
 (.seq (rg [oo 2 (.box false 2 (.t 0)),
 oo 3 (.box false 3 (.t 1)),
 oo 4 (.mv (.c (.bool false)))])
 (.seq (.seq (rg [oo 5 (.faddr 0 0 (.t 2)),
 oo 6 (.load false 1 (.t 5)),
 oo 7 (.faddr 0 0 (.t 3)),
 oo 8 (.load false 1 (.t 7)),
 oo 9 (.bin .neq (.t 6) (.t 8))])
 (.cond (.t 9) (.seq (rg [oo 4 (.mv (.c (.bool false)))])
 .ret) .skip))
 (.seq (.seq (rg [oo 10 (.faddr 1 1 (.t 2)),
 oo 11 (.load false 1 (.t 10)),
 oo 12 (.faddr 1 1 (.t 3)),
 oo 13 (.load false 1 (.t 12)),
 oo 14 (.bin .neq (.t 11) (.t 13))])
 (.cond (.t 14) (.seq (rg [oo 4 (.mv (.c (.bool false)))])
 .ret) .skip))
 (.seq (.seq (rg [oo 15 (.faddr 2 2 (.t 2)),
 oo 16 (.load false 1 (.t 15)),
 oo 17 (.faddr 2 2 (.t 3)),
 oo 18 (.load false 1 (.t 17)),
 oo 19 (.call false 34 [(.t 16), (.t 18)]),
 oo 20 (.un .not (.t 19))])
 (.cond (.t 20) (.seq (rg [oo 4 (.mv (.c (.bool false)))])
 .ret) .skip))
 (.seq (.seq (rg [oo 21 (.faddr 3 3 (.t 2)),
 oo 22 (.load false 1 (.t 21)),
 oo 23 (.faddr 3 3 (.t 3)),
 oo 24 (.load false 1 (.t 23)),
 oo 25 (.call false 33 [(.t 22), (.t 24)]),
 oo 26 (.un .not (.t 25))])
 (.cond (.t 26) (.seq (rg [oo 4 (.mv (.c (.bool false)))])
 .ret) .skip))
 (.seq (rg [oo 4 (.mv (.c (.bool true)))])
 .ret))))))
structure G_f39 (E : Env) : Prop where
 is : Is E 56 2 f39_ac [(4, none)]
 c_f43 : G_f43 E
 c_f45 : G_f45 E
theorem f39_E {E : Env} (h : G_f39 E) (a0 a1 : U) : E 56 [a0, a1] =
 U.noTup a0 fun x1 => U.noTup a1 fun x2 => U.asAgg x1 fun us3 => if 0 = sizes (us3.take 0) then (us3[0]?).bind fun e4 => U.asVar false 1 e4 fun e5 => U.asAgg x2 fun us6 => if 0 = sizes (us6.take 0) then (us6[0]?).bind fun e7 => U.asVar false 1 e7 fun e8 => (U.bin .neq e5 e8).bind fun t9 => U.asBool t9
 (some (.bool false))
 (U.asAgg x1 fun us10 => if 1 = sizes (us10.take 1) then (us10[1]?).bind fun e11 => U.asVar false 1 e11 fun e12 => U.asAgg x2 fun us13 => if 1 = sizes (us13.take 1) then (us13[1]?).bind fun e14 => U.asVar false 1 e14 fun e15 => (U.bin .neq e12 e15).bind fun t16 => U.asBool t16
 (some (.bool false))
 (U.asAgg x1 fun us17 => if 2 = sizes (us17.take 2) then (us17[2]?).bind fun e18 => U.asVar false 1 e18 fun e19 => U.asAgg x2 fun us20 => if 2 = sizes (us20.take 2) then (us20[2]?).bind fun e21 => U.asVar false 1 e21 fun e22 => (E 34 [e19, e22]).bind fun t23 => (U.un .not t23).bind fun t24 => U.asBool t24
 (some (.bool false))
 (U.asAgg x1 fun us25 => if 3 = sizes (us25.take 3) then (us25[3]?).bind fun e26 => U.asVar false 1 e26 fun e27 => U.asAgg x2 fun us28 => if 3 = sizes (us28.take 3) then (us28[3]?).bind fun e29 => U.asVar false 1 e29 fun e30 => (E 33 [e27, e30]).bind fun t31 => (U.un .not t31).bind fun t32 => U.asBool t32
 (some (.bool false))
 (some (.bool true)) else none else none) else none else none) else none else none) else none else none := (h.is _ rfl).trans ((Qb rfl).trans (by kernel_rfl))
def f40_b0 : AC :=
 (.seq (.seq (rg [oo 11 (.mv (.t 5)),
 oo 12 (.mv (.t 0)),
 oo 13 (.len false (.t 12)),
 oo 14 (.bin .lss (.t 11) (.t 13))])
 (.cond (.t 14) .skip (.exit 0)))
 (.seq (.block 1 (.seq (.region 10 [oo 17 (.mv (.t 0)),
 oo 18 (.mv (.t 5)),
 oo 19 (.iaddr 4 (.t 17) (.t 18)),
 oo 20 (.load true 4 (.t 19)),
 oo 21 (.mv (.t 1)),
 oo 22 (.mv (.t 5)),
 oo 23 (.iaddr 4 (.t 21) (.t 22)),
 oo 24 (.load true 4 (.t 23)),
 oo 25 (.call false 56 [(.t 20), (.t 24)]),
 oo 26 (.un .not (.t 25))])
 (.cond (.t 26) (.seq (rg [oo 4 (.mv (.c (.bool false)))])
 .ret) .skip)))
 (rg [oo 15 (.mv (.t 5)),
 oo 16 (.bin .add (.t 15) (ci 1)),
 oo 5 (.mv (.t 16))])))
def f40_r0 : AC :=
 (.seq (rg [oo 4 (.mv (.c (.bool true)))])
 .ret)
def f40_ac : AC :=
 (.seq (rg [oo 4 (.mv (.c (.bool false)))])
 (.seq (.seq (rg [oo 6 (.mv (.t 0)),
 oo 7 (.len false (.t 6)),
 oo 8 (.mv (.t 1)),
 oo 9 (.len false (.t 8)),
 oo 10 (.bin .neq (.t 7) (.t 9))])
 (.cond (.t 10) (.seq (rg [oo 4 (.mv (.c (.bool false)))])
 .ret) .skip))
 (.seq (.seq (rg [oo 5 (.mv (ci 0))])
 (.block 0 (.loop ⟨[0, 1, 5], [], []⟩ f40_b0)))
 f40_r0)))
noncomputable def f40_l0 (E : Env) (x0 : U) (x1 : U) (x5 : U) : Option U := loopK (roundOf E ⟨[0, 1, 5], [], []⟩ f40_b0 (blockK 0 (seqK (fun s => exec E f40_r0 s (finish [(4, none)])) (finish [(4, none)])))) ([.val x0, .val x1, .val x5], [])
theorem Qlu (E : Env) (x0 : U) (x1 : U) (x5 : U) : f40_l0 E x0 x1 x5 =
 (U.lenOf false x0).bind fun n4 => (U.bin .lss x5 (.int .i64 (n4 : Int))).bind fun t5 => U.asBool t5
 (U.asInt x5 fun n6 => U.elemAt 4 x0 n6 fun e7 => U.asVar true 4 e7 fun e8 => U.asInt x5 fun n9 => U.elemAt 4 x1 n9 fun e10 => U.asVar true 4 e10 fun e11 => (E 56 [e8, e11]).bind fun t12 => (U.un .not t12).bind fun t13 => U.asBool t13
 (some (.bool false))
 ((U.bin .add x5 (.int .i64 1)).bind fun t14 => f40_l0 E x0 x1 t14))
 (some (.bool true)) :=
 (Qd E _ _ _ _).trans (by kernel_rfl)
structure G_f40 (E : Env) : Prop where
 is : Is E 46 2 f40_ac [(4, none)]
 c_f39 : G_f39 E
theorem f40_E {E : Env} (h : G_f40 E) (a0 a1 : U) : E 46 [a0, a1] =
 (U.lenOf false a0).bind fun n1 => (U.lenOf false a1).bind fun n2 => (U.bin .neq (.int .i64 (n1 : Int)) (.int .i64 (n2 : Int))).bind fun t3 => U.asBool t3
 (some (.bool false))
 (f40_l0 E a0 a1 (.int .i64 0)) := (h.is _ rfl).trans ((Qb rfl).trans (by kernel_rfl))
def f46_b0 : AC :=
 (.seq (.seq (rg [oo 6 (.mv (.t 5)),
 oo 7 (.mv (.t 0)),
 oo 8 (.len false (.t 7)),
 oo 9 (.bin .lss (.t 6) (.t 8))])
 (.cond (.t 9) .skip (.exit 0)))
 (.seq (.block 1 (.seq (.seq (rg [oo 12 (.mv (.t 0)),
 oo 13 (.mv (.t 5)),
 oo 14 (.iaddr 1 (.t 12) (.t 13)),
 oo 15 (.load false 1 (.t 14)),
 oo 16 (.mv (.t 1)),
 oo 17 (.bin .neq (.t 15) (.t 16))])
 (.cond (.t 17) (.seq (rg [oo 4 (.mv (ci (-1)))])
 .ret) .skip))
 (rg [oo 18 (.mv (.t 1)),
 oo 19 (.bin .add (.t 18) (ci 1)),
 oo 1 (.mv (.t 19))])))
 (rg [oo 10 (.mv (.t 5)),
 oo 11 (.bin .add (.t 10) (ci 1)),
 oo 5 (.mv (.t 11))])))
def f46_r0 : AC :=
 (.seq (rg [oo 20 (.mv (.t 1)),
 oo 4 (.mv (.t 20))])
 .ret)
def f46_ac : AC :=
 (.seq (rg [oo 4 (.mv (ci 0))])
 (.seq (.seq (rg [oo 5 (.mv (ci 0))])
 (.block 0 (.loop ⟨[0, 1, 5], [], []⟩ f46_b0)))
 f46_r0))
noncomputable def f46_l0 (E : Env) (x0 : U) (x1 : U) (x5 : U) : Option U := loopK (roundOf E ⟨[0, 1, 5], [], []⟩ f46_b0 (blockK 0 (seqK (fun s => exec E f46_r0 s (finish [(4, none)])) (finish [(4, none)])))) ([.val x0, .val x1, .val x5], [])
theorem Ql4 (E : Env) (x0 : U) (x1 : U) (x5 : U) : f46_l0 E x0 x1 x5 =
 (U.lenOf false x0).bind fun n1 => (U.bin .lss x5 (.int .i64 (n1 : Int))).bind fun t2 => U.asBool t2
 (U.asInt x5 fun n3 => U.elemAt 1 x0 n3 fun e4 => U.asVar false 1 e4 fun e5 => (U.bin .neq e5 x1).bind fun t6 => U.asBool t6
 (some (.int .i64 (-1)))
 ((U.bin .add x1 (.int .i64 1)).bind fun t7 => (U.bin .add x5 (.int .i64 1)).bind fun t8 => f46_l0 E x0 t7 t8))
 (some x1) :=
 (Qd E _ _ _ _).trans (by kernel_rfl)
structure G_f46 (E : Env) : Prop where
 is : Is E 90 2 f46_ac [(4, none)]
theorem f46_E {E : Env} (h : G_f46 E) (a0 a1 : U) : E 90 [a0, a1] =
 f46_l0 E a0 a1 (.int .i64 0) := (h.is _ rfl).trans ((Qb rfl).trans (by kernel_rfl))
def f63_b0 : AC :=
 (.seq (.seq (rg [oo 8 (.mv (.t 4)),
 oo 9 (.mv (.t 0)),
 oo 10 (.len false (.t 9)),
 oo 11 (.bin .lss (.t 8) (.t 10))])
 (.cond (.t 11) .skip (.exit 0)))
 (.seq (.block 1 (rg [oo 14 (.mv (.t 3)),
 oo 15 (.mv (.t 4)),
 oo 16 (.mv (.t 0)),
 oo 17 (.mv (.t 4)),
 oo 18 (.iaddr 2 (.t 16) (.t 17)),
 oo 19 (.load true 2 (.t 18)),
 oo 20 (.call false 29 [(.t 19)]),
 oo 21 (.iaddr 2 (.t 14) (.t 15)),
 ⟨none, .store 2 (.t 21) (.t 20), none⟩]))
 (rg [oo 12 (.mv (.t 4)),
 oo 13 (.bin .add (.t 12) (ci 1)),
 oo 4 (.mv (.t 13))])))
def f63_r0 : AC :=
 (.seq (rg [oo 22 (.mv (.t 3)),
 oo 2 (.mv (.t 22))])
 .ret)
def f63_ac : AC :=
 (.seq (rg [oo 2 (.mv (.c (.nsl 2)))])
 (.seq (rg [oo 5 (.mv (.t 0)),
 oo 6 (.len false (.t 5)),
 oo 7 (.mkslice 7 2 16 (.agg [(.int .i64 0), (.int .i64 0)]) (.t 6) (.t 6)),
 oo 3 (.mv (.t 7))])
 (.seq (.seq (rg [oo 4 (.mv (ci 0))])
 (.block 0 (.loop ⟨[0, 4], [(3, 2, false)], []⟩ f63_b0)))
 f63_r0)))
noncomputable def f63_l0 (E : Env) (x0 : U) (x4 : U) (c3 : List U) : Option U := loopK (roundOf E ⟨[0, 4], [(3, 2, false)], []⟩ f63_b0 (blockK 0 (seqK (fun s => exec E f63_r0 s (finishF [(2, none)])) (finishF [(2, none)])))) ([.val x0, .val x4], [.vir (.asl 2 c3)])
theorem Qmp (E : Env) (x0 : U) (x4 : U) (c3 : List U) : f63_l0 E x0 x4 c3 =
 (U.lenOf false x0).bind fun n2 => (U.bin .lss x4 (.int .i64 (n2 : Int))).bind fun t3 => U.asBool t3
 (U.asInt x4 fun n4 => U.elemAt 2 x0 n4 fun e5 => U.asVar true 2 e5 fun e6 => (E 29 [e6]).bind fun t7 => U.asInt x4 fun n8 => if 2 = 2 ∧ 0 ≤ n8 ∧ n8 < ((c3).length : Int) then if storable (.val t7) = true ∧ t7.size = 2 then (c3[(n8 : Int).toNat]?).bind fun e9 => if e9.size = 2 then (U.bin .add x4 (.int .i64 1)).bind fun t10 => f63_l0 E x0 t10 (c3.set (n8 : Int).toNat t7) else none else none else none)
 (if U.flat.flats c3 = true then some (.sl 2 c3) else none) :=
 (Qd E _ _ _ _).trans (by kernel_rfl)
structure G_f63 (E : Env) : Prop where
 is : Is E 100028 1 f63_ac [(2, none)]
 c_f61 : G_f61 E
theorem f63_E {E : Env} (h : G_f63 E) (a0 : U) : E 100028 [a0] =
 (U.lenOf false a0).bind fun n1 => if 0 ≤ (n1 : Int) ∧ (n1 : Int) ≤ (n1 : Int) ∧ (n1 : Int) * 16 ≤ 140737488355328 ∧ ((.agg [(.int .i64 0), (.int .i64 0)]) : U).size = 2 then f63_l0 E a0 (.int .i64 0) (List.replicate ((n1 : Int) : Int).toNat (.agg [(.int .i64 0), (.int .i64 0)])) else none := (h.is _ rfl).trans ((Qcz rfl).trans (by kernel_rfl))
def f66_b0 : AC :=
 (.seq (.seq (rg [oo 8 (.mv (.t 4)),
 oo 9 (.mv (.t 0)),
 oo 10 (.len false (.t 9)),
 oo 11 (.bin .lss (.t 8) (.t 10))])
 (.cond (.t 11) .skip (.exit 0)))
 (.seq (.block 1 (rg [oo 14 (.mv (.t 3)),
 oo 15 (.mv (.t 4)),
 oo 16 (.mv (.t 0)),
 oo 17 (.mv (.t 4)),
 oo 18 (.iaddr 2 (.t 16) (.t 17)),
 oo 19 (.load true 2 (.t 18)),
 oo 20 (.call false 30 [(.t 19)]),
 oo 21 (.iaddr 2 (.t 14) (.t 15)),
 ⟨none, .store 2 (.t 21) (.t 20), none⟩]))
 (rg [oo 12 (.mv (.t 4)),
 oo 13 (.bin .add (.t 12) (ci 1)),
 oo 4 (.mv (.t 13))])))
def f66_r0 : AC :=
 (.seq (rg [oo 22 (.mv (.t 3)),
 oo 2 (.mv (.t 22))])
 .ret)
def f66_ac : AC :=
 (.seq (rg [oo 2 (.mv (.c (.nsl 2)))])
 (.seq (rg [oo 5 (.mv (.t 0)),
 oo 6 (.len false (.t 5)),
 oo 7 (.mkslice 7 2 16 (.agg [(.int .i64 0), (.int .i64 0)]) (.t 6) (.t 6)),
 oo 3 (.mv (.t 7))])
 (.seq (.seq (rg [oo 4 (.mv (ci 0))])
 (.block 0 (.loop ⟨[0, 4], [(3, 2, false)], []⟩ f66_b0)))
 f66_r0)))
noncomputable def f66_l0 (E : Env) (x0 : U) (x4 : U) (c3 : List U) : Option U := loopK (roundOf E ⟨[0, 4], [(3, 2, false)], []⟩ f66_b0 (blockK 0 (seqK (fun s => exec E f66_r0 s (finishF [(2, none)])) (finishF [(2, none)])))) ([.val x0, .val x4], [.vir (.asl 2 c3)])
theorem Qmu (E : Env) (x0 : U) (x4 : U) (c3 : List U) : f66_l0 E x0 x4 c3 =
 (U.lenOf false x0).bind fun n2 => (U.bin .lss x4 (.int .i64 (n2 : Int))).bind fun t3 => U.asBool t3
 (U.asInt x4 fun n4 => U.elemAt 2 x0 n4 fun e5 => U.asVar true 2 e5 fun e6 => (E 30 [e6]).bind fun t7 => U.asInt x4 fun n8 => if 2 = 2 ∧ 0 ≤ n8 ∧ n8 < ((c3).length : Int) then if storable (.val t7) = true ∧ t7.size = 2 then (c3[(n8 : Int).toNat]?).bind fun e9 => if e9.size = 2 then (U.bin .add x4 (.int .i64 1)).bind fun t10 => f66_l0 E x0 t10 (c3.set (n8 : Int).toNat t7) else none else none else none)
 (if U.flat.flats c3 = true then some (.sl 2 c3) else none) :=
 (Qd E _ _ _ _).trans (by kernel_rfl)
structure G_f66 (E : Env) : Prop where
 is : Is E 100027 1 f66_ac [(2, none)]
 c_f64 : G_f64 E
theorem f66_E {E : Env} (h : G_f66 E) (a0 : U) : E 100027 [a0] =
 (U.lenOf false a0).bind fun n1 => if 0 ≤ (n1 : Int) ∧ (n1 : Int) ≤ (n1 : Int) ∧ (n1 : Int) * 16 ≤ 140737488355328 ∧ ((.agg [(.int .i64 0), (.int .i64 0)]) : U).size = 2 then f66_l0 E a0 (.int .i64 0) (List.replicate ((n1 : Int) : Int).toNat (.agg [(.int .i64 0), (.int .i64 0)])) else none := (h.is _ rfl).trans ((Qcz rfl).trans (by kernel_rfl))
def f59_ac : AC :=
 (.seq (rg [oo 1 (.box false 1 (.t 0)),
 oo 2 (.alloc 2 (.agg [(.int .i64 0), (.int .i64 0), (.nsl 2), (.nsl 2)]))])
 (.seq (rg [oo 3 (.alloc 3 (.agg [(.int .i64 0), (.int .i64 0), (.nsl 2), (.nsl 2)]))])
 (.seq (rg [oo 4 (.faddr 0 0 (.t 1)),
 oo 5 (.load false 1 (.t 4)),
 oo 6 (.faddr 0 0 (.t 3)),
 ⟨none, .store 1 (.t 6) (.t 5), none⟩])
 (.seq (rg [oo 7 (.faddr 1 1 (.t 1)),
 oo 8 (.load false 1 (.t 7)),
 oo 9 (.faddr 1 1 (.t 3)),
 ⟨none, .store 1 (.t 9) (.t 8), none⟩])
 (.seq (rg [oo 10 (.faddr 2 2 (.t 1)),
 oo 11 (.load false 1 (.t 10)),
 oo 12 (.callF 12 false [(.sl 2)] 28 [(.t 11)]),
 oo 13 (.faddr 2 2 (.t 3)),
 ⟨none, .storeM 3000 1 (.t 13) (.t 12), none⟩])
 (.seq (rg [oo 14 (.faddr 3 3 (.t 1)),
 oo 15 (.load false 1 (.t 14)),
 oo 16 (.callF 16 false [(.sl 2)] 27 [(.t 15)]),
 oo 17 (.faddr 3 3 (.t 3)),
 ⟨none, .storeM 3002 1 (.t 17) (.t 16), none⟩])
 (.seq (rg [oo 18 (.loadO (.agg [.int, .int, (.sl 2), (.sl 2)]) (.t 3)),
 ⟨none, .storeM 3001 4 (.t 2) (.t 18), none⟩])
 .ret)))))))
structure G_f59 (E : Env) : Prop where
 is : Is E 100051 1 f59_ac [(2, some (true, 4))]
 c_f63 : G_f63 E
 c_f66 : G_f66 E
theorem f59_E {E : Env} (h : G_f59 E) (a0 : U) : E 100051 [a0] =
 U.noTup a0 fun x1 => U.asAgg x1 fun us2 => if 0 = sizes (us2.take 0) then (us2[0]?).bind fun e3 => U.asVar false 1 e3 fun e4 => if storable (.val e4) = true ∧ e4.size = 1 then U.asAgg x1 fun us5 => if 1 = sizes (us5.take 1) then (us5[1]?).bind fun e6 => U.asVar false 1 e6 fun e7 => if storable (.val e7) = true ∧ e7.size = 1 then if 1 = sizes [e4] then U.asAgg x1 fun us8 => if 2 = sizes (us8.take 2) then (us8[2]?).bind fun e9 => U.asVar false 1 e9 fun e10 => (E 100028 [e10]).bind fun t11 => U.noTup t11 fun x12 => U.asSlK 2 x12 fun us13 => if 2 = sizes [e4, e7] then if 2 = sizes [e4, e7] then if 2 = dsizes [.val e4, .val e7] then U.asAgg x1 fun us14 => if 3 = sizes (us14.take 3) then (us14[3]?).bind fun e15 => U.asVar false 1 e15 fun e16 => (E 100027 [e16]).bind fun t17 => U.noTup t17 fun x18 => U.asSlK 2 x18 fun us19 => if 3 = dsizes [.val e4, .val e7, .own (.sl 2 us13)] then if 3 = dsizes [.val e4, .val e7, .own (.sl 2 us13)] then if 3 = dsizes [.val e4, .val e7, .own (.sl 2 us13)] then U.asInt e4 fun n20 => U.asInt e7 fun n21 => if 2 = dsizes [.val e4, .val e7] then if 2 = dsizes [.val e4, .val e7] then if 3 = dsizes [.val e4, .val e7, .junk 1] then if 3 = dsizes [.val e4, .val e7, .junk 1] then some (.agg [(.int .i64 n20), (.int .i64 n21), (.sl 2 us13), (.sl 2 us19)]) else none else none else none else none else none else none else none else none else none else none else none else none else none else none else none else none else none := (h.is _ rfl).trans ((Qcz rfl).trans (by kernel_rfl))
def f58_b0 : AC :=
 (.seq (.seq (rg [oo 8 (.mv (.t 4)),
 oo 9 (.mv (.t 0)),
 oo 10 (.len false (.t 9)),
 oo 11 (.bin .lss (.t 8) (.t 10))])
 (.cond (.t 11) .skip (.exit 0)))
 (.seq (.block 1 (rg [oo 14 (.mv (.t 3)),
 oo 15 (.mv (.t 4)),
 oo 16 (.mv (.t 0)),
 oo 17 (.mv (.t 4)),
 oo 18 (.iaddr 4 (.t 16) (.t 17)),
 oo 19 (.load true 4 (.t 18)),
 oo 20 (.callF 20 false [(.agg [.int, .int, (.sl 2), (.sl 2)])] 51 [(.t 19)]),
 oo 21 (.iaddr 4 (.t 14) (.t 15)),
 ⟨none, .storeE 4 (.t 21) (.t 20), none⟩]))
 (rg [oo 12 (.mv (.t 4)),
 oo 13 (.bin .add (.t 12) (ci 1)),
 oo 4 (.mv (.t 13))])))
def f58_r0 : AC :=
 (.seq (rg [oo 22 (.mv (.t 3)),
 oo 2 (.mv (.t 22))])
 .ret)
def f58_ac : AC :=
 (.seq (rg [oo 2 (.mv (.c (.nsl 4)))])
 (.seq (rg [oo 5 (.mv (.t 0)),
 oo 6 (.len false (.t 5)),
 oo 7 (.mkslice 7 4 64 (.agg [(.int .i64 0), (.int .i64 0), (.nsl 2), (.nsl 2)]) (.t 6) (.t 6)),
 oo 3 (.mv (.t 7))])
 (.seq (.seq (rg [oo 4 (.mv (ci 0))])
 (.block 0 (.loop ⟨[0, 4], [(3, 4, true)], []⟩ f58_b0)))
 f58_r0)))
noncomputable def f58_l0 (E : Env) (x0 : U) (x4 : U) (c3 : List U) : Option U := loopK (roundOf E ⟨[0, 4], [(3, 4, true)], []⟩ f58_b0 (blockK 0 (seqK (fun s => exec E f58_r0 s (finishF [(2, none)])) (finishF [(2, none)])))) ([.val x0, .val x4], [.vir (.own (.sl 4 c3))])
theorem Qmj (E : Env) (x0 : U) (x4 : U) (c3 : List U) : f58_l0 E x0 x4 c3 =
 (U.lenOf false x0).bind fun n2 => (U.bin .lss x4 (.int .i64 (n2 : Int))).bind fun t3 => U.asBool t3
 (U.asInt x4 fun n4 => U.elemAt 4 x0 n4 fun e5 => U.asVar true 4 e5 fun e6 => (E 100051 [e6]).bind fun t7 => U.noTup t7 fun x8 => U.asAgg x8 fun us9 => (match us9 with
 | u10 :: us11 => (U.asInt u10 fun n12 => (match us11 with
 | u13 :: us14 => (U.asInt u13 fun n15 => (match us14 with
 | u16 :: us17 => (U.asSlK 2 u16 fun us18 => (match us17 with
 | u19 :: us20 => (U.asSlK 2 u19 fun us21 => (match us20 with
 | [] => (U.asInt x4 fun n22 => if 4 = 4 ∧ 0 ≤ n22 ∧ n22 < (c3.length : Int) then (c3[(n22 : Int).toNat]?).bind fun e23 => if e23.size = 4 then (U.bin .add x4 (.int .i64 1)).bind fun t24 => f58_l0 E x0 t24 (c3.set (n22 : Int).toNat (.agg [(.int .i64 n12), (.int .i64 n15), (.sl 2 us18), (.sl 2 us21)])) else none else none)
 | _ => none))
 | [] => none))
 | [] => none))
 | [] => none))
 | [] => none))
 (some (.sl 4 c3)) :=
 (Qd E _ _ _ _).trans (by kernel_rfl)
structure G_f58 (E : Env) : Prop where
 is : Is E 100045 1 f58_ac [(2, none)]
 c_f59 : G_f59 E
theorem f58_E {E : Env} (h : G_f58 E) (a0 : U) : E 100045 [a0] =
 (U.lenOf false a0).bind fun n1 => if 0 ≤ (n1 : Int) ∧ (n1 : Int) ≤ (n1 : Int) ∧ (n1 : Int) * 64 ≤ 140737488355328 ∧ ((.agg [(.int .i64 0), (.int .i64 0), (.nsl 2), (.nsl 2)]) : U).size = 4 then if U.flat.flats (List.replicate ((n1 : Int) : Int).toNat (.agg [(.int .i64 0), (.int .i64 0), (.nsl 2), (.nsl 2)])) = true then f58_l0 E a0 (.int .i64 0) (List.replicate ((n1 : Int) : Int).toNat (.agg [(.int .i64 0), (.int .i64 0), (.nsl 2), (.nsl 2)])) else none else none := (h.is _ rfl).trans ((Qcz rfl).trans (by kernel_rfl))
def f24_b2 : AC :=
 (.seq (.seq (rg [oo 14 (.mv (.t 5)),
 oo 15 (.bin .leq (.t 14) (ci 9))])
 (.cond (.t 15) .skip (.exit 0)))
 (.seq (.block 1 (.seq (rg [oo 18 (.mv (.t 0)),
 oo 19 (.mv (.t 5)),
 oo 20 (.call false 41 [(.t 18), (.t 19)]),
 oo 21 (.mv (.t 5)),
 oo 22 (.idxa false 1 10 1 (.t 20) (.t 21)),
 oo 6 (.mv (.t 22))])
 (.seq (rg [oo 23 (.mv (.t 6)),
 oo 24 (.bin .gtr (.t 23) (ci 0)),
 oo 25 (.mv (.t 24)),
 ⟨some 26, .mv (.t 3), some (25, true)⟩,
 ⟨some 27, .bin .eql (.t 26) (ci 0), some (25, true)⟩,
 ⟨some 28, .mv (.t 27), some (25, true)⟩,
 ⟨some 29, .mv (.t 6), some (28, false)⟩,
 ⟨some 30, .mv (.t 4), some (28, false)⟩,
 ⟨some 31, .bin .lss (.t 29) (.t 30), some (28, false)⟩,
 ⟨some 32, .pick (.t 28) (.c (.bool true)) (.t 31), some (25, true)⟩,
 oo 33 (.pick (.t 25) (.t 32) (.c (.bool false)))])
 (.cond (.t 33) (rg [oo 34 (.mv (.t 5)),
 oo 35 (.mv (.t 6)),
 oo 3 (.mv (.t 34)),
 oo 4 (.mv (.t 35))]) .skip))))
 (rg [oo 16 (.mv (.t 5)),
 oo 17 (.bin .add (.t 16) (ci 1)),
 oo 5 (.mv (.t 17))])))
def f24_b1 : AC :=
 (.seq (.seq (rg [oo 49 (.mv (.t 10)),
 oo 50 (.bin .leq (.t 49) (ci 9))])
 (.cond (.t 50) .skip (.exit 4)))
 (.seq (.block 5 (.seq (rg [oo 53 (.mv (.t 10)),
 oo 54 (.aaddr 10 1 (.t 8) (.t 53)),
 oo 55 (.load false 1 (.t 54)),
 oo 56 (.mv (.t 9)),
 oo 57 (.bin .eql (.t 55) (.t 56)),
 oo 58 (.mv (.t 57)),
 ⟨some 59, .mv (.t 0), some (58, true)⟩,
 ⟨some 60, .mv (.t 7), some (58, true)⟩,
 ⟨some 61, .mv (.t 7), some (58, true)⟩,
 ⟨some 62, .len false (.t 61), some (58, true)⟩,
 ⟨some 63, .bin .sub (.t 62) (ci 1), some (58, true)⟩,
 ⟨some 64, .iaddr 1 (.t 60) (.t 63), some (58, true)⟩,
 ⟨some 65, .load false 1 (.t 64), some (58, true)⟩,
 ⟨some 66, .mv (.t 10), some (58, true)⟩,
 ⟨some 67, .call false 63 [(.t 59), (.t 65), (.t 66)], some (58, true)⟩,
 oo 68 (.pick (.t 58) (.t 67) (.c (.bool false)))])
 (.cond (.t 68) (.seq (rg [oo 69 (.mv (.t 7)),
 oo 70 (.mv (.t 10)),
 oo 71 (.bslice 0 71 1 1 (.int .i64 0) [(0, (.t 70))]),
 oo 72 (.append false 72 1 8 (.t 69) (.t 71)),
 oo 7 (.mv (.t 72))])
 (.exit 4)) .skip)))
 (rg [oo 51 (.mv (.t 10)),
 oo 52 (.bin .add (.t 51) (ci 1)),
 oo 10 (.mv (.t 52))])))
def f24_r0 : AC :=
 (rg [oo 47 (.mv (.t 9)),
 oo 48 (.bin .sub (.t 47) (ci 1)),
 oo 9 (.mv (.t 48))])
def f24_b0 : AC :=
 (.seq (.seq (rg [oo 45 (.mv (.t 9)),
 oo 46 (.bin .gtr (.t 45) (ci 0))])
 (.cond (.t 46) .skip (.exit 2)))
 (.seq (.block 3 (.seq (rg [oo 10 (.mv (ci 1))])
 (.block 4 (.loop ⟨[0, 8, 9, 10], [(7, 1, false)], [(8, false)]⟩ f24_b1))))
 f24_r0))
def f24_r1 : AC :=
 (.seq (rg [oo 73 (.mv (.t 7)),
 oo 2 (.mv (.t 73))])
 .ret)
def f24_r2 : AC :=
 (.seq (.seq (rg [oo 36 (.mv (.t 3)),
 oo 37 (.bin .eql (.t 36) (ci 0))])
 (.cond (.t 37) (.seq (rg [oo 2 (.mv (.c (.nsl 1)))])
 .ret) .skip))
 (.seq (rg [oo 38 (.mv (.t 3)),
 oo 39 (.bslice 1 39 1 1 (.int .i64 0) [(0, (.t 38))]),
 oo 40 (.mv (.t 0)),
 oo 41 (.mv (.t 3)),
 oo 42 (.call false 41 [(.t 40), (.t 41)]),
 oo 8 (.alloc 8 (.agg [(.int .i64 0), (.int .i64 0), (.int .i64 0), (.int .i64 0), (.int .i64 0), (.int .i64 0), (.int .i64 0), (.int .i64 0), (.int .i64 0), (.int .i64 0)])),
 oo 7 (.mv (.t 39)),
 ⟨none, .store 10 (.t 8) (.t 42), none⟩])
 (.seq (.seq (rg [oo 43 (.mv (.t 4)),
 oo 44 (.bin .sub (.t 43) (ci 1)),
 oo 9 (.mv (.t 44))])
 (.block 2 (.loop ⟨[0, 8, 9], [(7, 1, false)], [(8, false)]⟩ f24_b0)))
 f24_r1)))
def f24_ac : AC :=
 (.seq (rg [oo 2 (.mv (.c (.nsl 1)))])
 (.seq (.seq (rg [oo 11 (.mv (.t 0)),
 oo 12 (.call false 3 [(.t 11)]),
 oo 13 (.un .not (.t 12))])
 (.cond (.t 13) (.seq (rg [oo 2 (.mv (.c (.nsl 1)))])
 .ret) .skip))
 (.seq (rg [oo 3 (.mv (ci 0)),
 oo 4 (.mv (ci 0))])
 (.seq (.seq (rg [oo 5 (.mv (ci 1))])
 (.block 0 (.loop ⟨[0, 3, 4, 5], [], []⟩ f24_b2)))
 f24_r2))))
noncomputable def f24_l2 (E : Env) (x0 : U) (x3 : U) (x4 : U) (x5 : U) : Option U := loopK (roundOf E ⟨[0, 3, 4, 5], [], []⟩ f24_b2 (blockK 0 (seqK (fun s => exec E f24_r2 s (finishF [(2, none)])) (finishF [(2, none)])))) ([.val x0, .val x3, .val x4, .val x5], [])
noncomputable def f24_l0 (E : Env) (x0 : U) (x9 : U) (c7 : List U) (b8 : U) : Option U := loopK (roundOf E ⟨[0, 8, 9], [(7, 1, false)], [(8, false)]⟩ f24_b0 (blockK 2 (seqK (fun s => exec E f24_r1 s (finishF [(2, none)])) (finishF [(2, none)])))) ([.val x0, .ptr 8 [], .val x9], [.vir (.asl 1 c7), .box (.val b8)])
noncomputable def f24_l1 (E : Env) (x0 : U) (x9 : U) (x10 : U) (c7 : List U) (b8 : U) : Option U := loopK (roundOf E ⟨[0, 8, 9, 10], [(7, 1, false)], [(8, false)]⟩ f24_b1 (blockK 4 (blockK 3 (seqK (fun s => exec E f24_r0 s (roundK ⟨[0, 8, 9], [(7, 1, false)], [(8, false)]⟩ (loopK (roundOf E ⟨[0, 8, 9], [(7, 1, false)], [(8, false)]⟩ f24_b0 (blockK 2 (seqK (fun s => exec E f24_r1 s (finishF [(2, none)])) (finishF [(2, none)]))))) (blockK 2 (seqK (fun s => exec E f24_r1 s (finishF [(2, none)])) (finishF [(2, none)]))))) (roundK ⟨[0, 8, 9], [(7, 1, false)], [(8, false)]⟩ (loopK (roundOf E ⟨[0, 8, 9], [(7, 1, false)], [(8, false)]⟩ f24_b0 (blockK 2 (seqK (fun s => exec E f24_r1 s (finishF [(2, none)])) (finishF [(2, none)]))))) (blockK 2 (seqK (fun s => exec E f24_r1 s (finishF [(2, none)])) (finishF [(2, none)])))))))) ([.val x0, .ptr 8 [], .val x9, .val x10], [.vir (.asl 1 c7), .box (.val b8)])
theorem Qez (E : Env) (x0 : U) (x3 : U) (x4 : U) (x5 : U) : f24_l2 E x0 x3 x4 x5 =
 (U.bin .leq x5 (.int .i64 9)).bind fun t3 => U.asBool t3
 ((E 41 [x0, x5]).bind fun t4 => U.asInt x5 fun n5 => if 0 ≤ n5 ∧ n5 < 10 then U.fieldAt (n5 : Int).toNat ((n5 : Int).toNat * 1) t4 fun e6 => U.asVar false 1 e6 fun e7 => (U.bin .gtr e7 (.int .i64 0)).bind fun t8 => U.asBool t8
 ((U.bin .eql x3 (.int .i64 0)).bind fun t9 => U.asBool t9
 ((U.bin .add x5 (.int .i64 1)).bind fun t10 => f24_l2 E x0 x5 e7 t10)
 ((U.bin .lss e7 x4).bind fun t11 => U.asBool t11
 ((U.bin .add x5 (.int .i64 1)).bind fun t12 => f24_l2 E x0 x5 e7 t12)
 ((U.bin .add x5 (.int .i64 1)).bind fun t13 => f24_l2 E x0 x3 x4 t13)))
 ((U.bin .add x5 (.int .i64 1)).bind fun t14 => f24_l2 E x0 x3 x4 t14) else none)
 ((U.bin .eql x3 (.int .i64 0)).bind fun t15 => U.asBool t15
 (some (.sl 1 []))
 (if partable (.val x3) = true ∧ x3.size = 1 then (E 41 [x0, x3]).bind fun t16 => if storable (.val t16) = true ∧ t16.size = 10 then (U.bin .sub x4 (.int .i64 1)).bind fun t17 => f24_l0 E x0 t17 [x3] t16 else none else none)) :=
 (Qd E _ _ _ _).trans (by kernel_rfl)
theorem Qlb (E : Env) (x0 : U) (x9 : U) (c7 : List U) (b8 : U) : f24_l0 E x0 x9 c7 b8 =
 (U.bin .gtr x9 (.int .i64 0)).bind fun t18 => U.asBool t18
 (f24_l1 E x0 x9 (.int .i64 1) c7 b8)
 (if U.flat.flats c7 = true then some (.sl 1 c7) else none) :=
 (Qd E _ _ _ _).trans (by kernel_rfl)
theorem Qlc (E : Env) (x0 : U) (x9 : U) (x10 : U) (c7 : List U) (b8 : U) : f24_l1 E x0 x9 x10 c7 b8 =
 (U.bin .leq x10 (.int .i64 9)).bind fun t19 => U.asBool t19
 (U.asInt x10 fun n20 => if 0 ≤ n20 ∧ n20 < 10 then U.asAgg b8 fun us21 => if (n20 : Int).toNat * 1 = sizes (us21.take (n20 : Int).toNat) then (us21[(n20 : Int).toNat]?).bind fun e22 => U.asVar false 1 e22 fun e23 => (U.bin .eql e23 x9).bind fun t24 => U.asBool t24
 ((U.bin .sub (.int .i64 ((c7).length : Int)) (.int .i64 1)).bind fun t25 => U.asInt t25 fun n26 => if 1 = 1 ∧ 0 ≤ n26 ∧ n26 < ((c7).length : Int) then (c7[(n26 : Int).toNat]?).bind fun e27 => U.asVar false 1 e27 fun e28 => (E 63 [x0, e28, x10]).bind fun t29 => U.asBool t29
 (if partable (.val x10) = true ∧ x10.size = 1 then if 1 = 1 ∧ 1 = 1 ∧ ((c7).length + ([x10] : List U).length) * 8 ≤ 140737488355328 then (U.bin .sub x9 (.int .i64 1)).bind fun t30 => f24_l0 E x0 t30 (c7 ++ ([x10] : List U)) b8 else none else none)
 ((U.bin .add x10 (.int .i64 1)).bind fun t31 => f24_l1 E x0 x9 t31 c7 b8) else none)
 ((U.bin .add x10 (.int .i64 1)).bind fun t32 => f24_l1 E x0 x9 t32 c7 b8) else none else none)
 ((U.bin .sub x9 (.int .i64 1)).bind fun t33 => f24_l0 E x0 t33 c7 b8) :=
 (Qd E _ _ _ _).trans (by kernel_rfl)
structure G_f24 (E : Env) : Prop where
 is : Is E 100081 1 f24_ac [(2, none)]
 c_f3 : G_f3 E
 c_f30 : G_f30 E
 c_f18 : G_f18 E
theorem f24_E {E : Env} (h : G_f24 E) (a0 : U) : E 100081 [a0] =
 (E 3 [a0]).bind fun t1 => (U.un .not t1).bind fun t2 => U.asBool t2
 (some (.sl 1 []))
 (f24_l2 E a0 (.int .i64 0) (.int .i64 0) (.int .i64 1)) := (h.is _ rfl).trans ((Qcz rfl).trans (by kernel_rfl))
def f15_ac : AC :=
 (.seq (rg [oo 2 (.mv (ci 0)),
 oo 3 (.mv (.c (.nsl 1)))])
 (.seq (rg [oo 5 (.mv (.t 0)),
 oo 6 (.call false 408 [(.t 5)]),
 oo 7 (.callF 7 false [(.sl 1)] 81 [(.t 6)]),
 oo 4 (.mv (.t 7))])
 (.seq (rg [oo 8 (.mv (.t 0)),
 oo 9 (.mv (.t 4)),
 oo 10 (.call false 438 [(.t 8), (.t 9)]),
 oo 11 (.mv (.t 4)),
 oo 2 (.mv (.t 10)),
 oo 3 (.mv (.t 11))])
 .ret)))
structure G_f15 (E : Env) : Prop where
 is : Is E 100449 1 f15_ac [(2, none), (3, none)]
 c_f4 : G_f4 E
 c_f6 : G_f6 E
 c_f24 : G_f24 E
theorem f15_E {E : Env} (h : G_f15 E) (a0 : U) : E 100449 [a0] =
 (E 408 [a0]).bind fun t1 => (E 100081 [t1]).bind fun t2 => U.noTup t2 fun x3 => U.asSlK 1 x3 fun us4 => (E 438 [a0, (.sl 1 us4)]).bind fun t5 => U.asFlat t5 fun t6 => U.ownV t6 fun w7 => some (.tup [(U.nilOwn w7), (.sl 1 us4)]) := (h.is _ rfl).trans ((Qcz rfl).trans (by kernel_rfl))
def f50_b0 : AC :=
 (.seq (.seq (rg [oo 6 (.mv (.t 5)),
 oo 7 (.mv (.t 0)),
 oo 8 (.len false (.t 7)),
 oo 9 (.bin .lss (.t 6) (.t 8))])
 (.cond (.t 9) .skip (.exit 0)))
 (.seq (.block 1 (.seq (rg [oo 12 (.mv (.t 0)),
 oo 13 (.mv (.t 5)),
 oo 14 (.mv (.t 1)),
 oo 15 (.iaddr 2 (.t 12) (.t 13)),
 oo 16 (.faddr 0 0 (.t 15)),
 ⟨none, .store 1 (.t 16) (.t 14), none⟩])
 (.seq (rg [oo 17 (.mv (.t 1)),
 oo 18 (.bin .add (.t 17) (ci 1)),
 oo 1 (.mv (.t 18))])
 (.seq (rg [oo 19 (.mv (.t 0)),
 oo 20 (.mv (.t 5)),
 oo 21 (.mv (.t 1)),
 oo 22 (.iaddr 2 (.t 19) (.t 20)),
 oo 23 (.faddr 1 1 (.t 22)),
 ⟨none, .store 1 (.t 23) (.t 21), none⟩])
 (rg [oo 24 (.mv (.t 1)),
 oo 25 (.bin .add (.t 24) (ci 1)),
 oo 1 (.mv (.t 25))])))))
 (rg [oo 10 (.mv (.t 5)),
 oo 11 (.bin .add (.t 10) (ci 1)),
 oo 5 (.mv (.t 11))])))
def f50_r0 : AC :=
 (.seq (rg [oo 26 (.mv (.t 1)),
 oo 4 (.mv (.t 26))])
 .ret)
def f50_ac : AC :=
 (.seq (rg [oo 4 (.mv (ci 0))])
 (.seq (.seq (rg [oo 5 (.mv (ci 0))])
 (.block 0 (.loop ⟨[0, 1, 5], [], [(5000, true)]⟩ f50_b0)))
 f50_r0))
noncomputable def f50_l0 (E : Env) (x1 : U) (x5 : U) (b5000 : List U) : Option U := loopK (roundOf E ⟨[0, 1, 5], [], [(5000, true)]⟩ f50_b0 (blockK 0 (seqK (fun s => exec E f50_r0 s (finishM 2 [(4, none)])) (finishM 2 [(4, none)])))) ([.ref 5000 [] 2 none, .val x1, .val x5], [.vir (.own (.sl 2 b5000))])
theorem Qma (E : Env) (x1 : U) (x5 : U) (b5000 : List U) : f50_l0 E x1 x5 b5000 =
 (U.bin .lss x5 (.int .i64 (b5000.length : Int))).bind fun t1 => U.asBool t1
 (U.asInt x5 fun n2 => if 2 = 2 ∧ 0 ≤ n2 ∧ n2 < (b5000.length : Int) then if storable (.val x1) = true ∧ x1.size = 1 then (b5000[(n2 : Int).toNat]?).bind fun e3 => U.asAgg e3 fun us4 => if 0 = sizes (us4.take 0) then (us4[0]?).bind fun e5 => if e5.size = 1 then if (x1 : U).flat = true then (U.bin .add x1 (.int .i64 1)).bind fun t6 => U.asInt x5 fun n7 => if 2 = 2 ∧ 0 ≤ n7 ∧ n7 < (((b5000.set (n2 : Int).toNat (.agg (us4.set 0 x1)))).length : Int) then if storable (.val t6) = true ∧ t6.size = 1 then ((b5000.set (n2 : Int).toNat (.agg (us4.set 0 x1)))[(n7 : Int).toNat]?).bind fun e8 => U.asAgg e8 fun us9 => if 1 = sizes (us9.take 1) then (us9[1]?).bind fun e10 => if e10.size = 1 then if (t6 : U).flat = true then (U.bin .add t6 (.int .i64 1)).bind fun t11 => (U.bin .add x5 (.int .i64 1)).bind fun t12 => f50_l0 E t11 t12 ((b5000.set (n2 : Int).toNat (.agg (us4.set 0 x1))).set (n7 : Int).toNat (.agg (us9.set 1 t6))) else none else none else none else none else none else none else none else none else none else none)
 (if (x1 : U).flat = true then some (.tup [x1, .sl 2 b5000]) else none) :=
 (Qd E _ _ _ _).trans (by kernel_rfl)
structure G_f50 (E : Env) : Prop where
 is : Is E 200095 2 f50_ac [(4, none)]
theorem f50_E {E : Env} (h : G_f50 E) (xs0 : List U) (a1 : U) : E 200095 (.agg [.tup [.sl 2 xs0]] :: [a1]) =
 f50_l0 E a1 (.int .i64 0) xs0 := (h.is _ rfl).trans ((Qfv rfl).trans (by kernel_rfl))
def f51_b0 : AC :=
 (.seq (.seq (rg [oo 6 (.mv (.t 5)),
 oo 7 (.mv (.t 0)),
 oo 8 (.len false (.t 7)),
 oo 9 (.bin .lss (.t 6) (.t 8))])
 (.cond (.t 9) .skip (.exit 0)))
 (.seq (.block 1 (.seq (rg [oo 12 (.mv (.t 0)),
 oo 13 (.mv (.t 5)),
 oo 14 (.mv (.t 1)),
 oo 15 (.iaddr 2 (.t 12) (.t 13)),
 oo 16 (.faddr 0 0 (.t 15)),
 ⟨none, .store 1 (.t 16) (.t 14), none⟩])
 (.seq (rg [oo 17 (.mv (.t 1)),
 oo 18 (.bin .add (.t 17) (ci 1)),
 oo 1 (.mv (.t 18))])
 (.seq (rg [oo 19 (.mv (.t 0)),
 oo 20 (.mv (.t 5)),
 oo 21 (.mv (.t 1)),
 oo 22 (.iaddr 2 (.t 19) (.t 20)),
 oo 23 (.faddr 1 1 (.t 22)),
 ⟨none, .store 1 (.t 23) (.t 21), none⟩])
 (rg [oo 24 (.mv (.t 1)),
 oo 25 (.bin .add (.t 24) (ci 1)),
 oo 1 (.mv (.t 25))])))))
 (rg [oo 10 (.mv (.t 5)),
 oo 11 (.bin .add (.t 10) (ci 1)),
 oo 5 (.mv (.t 11))])))
def f51_r0 : AC :=
 (.seq (rg [oo 26 (.mv (.t 1)),
 oo 4 (.mv (.t 26))])
 .ret)
def f51_ac : AC :=
 (.seq (rg [oo 4 (.mv (ci 0))])
 (.seq (.seq (rg [oo 5 (.mv (ci 0))])
 (.block 0 (.loop ⟨[0, 1, 5], [], [(5000, true)]⟩ f51_b0)))
 f51_r0))
noncomputable def f51_l0 (E : Env) (x1 : U) (x5 : U) (b5000 : List U) : Option U := loopK (roundOf E ⟨[0, 1, 5], [], [(5000, true)]⟩ f51_b0 (blockK 0 (seqK (fun s => exec E f51_r0 s (finishM 2 [(4, none)])) (finishM 2 [(4, none)])))) ([.ref 5000 [] 2 none, .val x1, .val x5], [.vir (.own (.sl 2 b5000))])
theorem Qmc (E : Env) (x1 : U) (x5 : U) (b5000 : List U) : f51_l0 E x1 x5 b5000 =
 (U.bin .lss x5 (.int .i64 (b5000.length : Int))).bind fun t1 => U.asBool t1
 (U.asInt x5 fun n2 => if 2 = 2 ∧ 0 ≤ n2 ∧ n2 < (b5000.length : Int) then if storable (.val x1) = true ∧ x1.size = 1 then (b5000[(n2 : Int).toNat]?).bind fun e3 => U.asAgg e3 fun us4 => if 0 = sizes (us4.take 0) then (us4[0]?).bind fun e5 => if e5.size = 1 then if (x1 : U).flat = true then (U.bin .add x1 (.int .i64 1)).bind fun t6 => U.asInt x5 fun n7 => if 2 = 2 ∧ 0 ≤ n7 ∧ n7 < (((b5000.set (n2 : Int).toNat (.agg (us4.set 0 x1)))).length : Int) then if storable (.val t6) = true ∧ t6.size = 1 then ((b5000.set (n2 : Int).toNat (.agg (us4.set 0 x1)))[(n7 : Int).toNat]?).bind fun e8 => U.asAgg e8 fun us9 => if 1 = sizes (us9.take 1) then (us9[1]?).bind fun e10 => if e10.size = 1 then if (t6 : U).flat = true then (U.bin .add t6 (.int .i64 1)).bind fun t11 => (U.bin .add x5 (.int .i64 1)).bind fun t12 => f51_l0 E t11 t12 ((b5000.set (n2 : Int).toNat (.agg (us4.set 0 x1))).set (n7 : Int).toNat (.agg (us9.set 1 t6))) else none else none else none else none else none else none else none else none else none else none)
 (if (x1 : U).flat = true then some (.tup [x1, .sl 2 b5000]) else none) :=
 (Qd E _ _ _ _).trans (by kernel_rfl)
structure G_f51 (E : Env) : Prop where
 is : Is E 200232 2 f51_ac [(4, none)]
theorem f51_E {E : Env} (h : G_f51 E) (xs0 : List U) (a1 : U) : E 200232 (.agg [.tup [.sl 2 xs0]] :: [a1]) =
 f51_l0 E a1 (.int .i64 0) xs0 := (h.is _ rfl).trans ((Qfv rfl).trans (by kernel_rfl))
def f48_b0 : AC :=
 (.seq (.seq (rg [oo 6 (.mv (.t 5)),
 oo 7 (.mv (.t 0)),
 oo 8 (.len false (.t 7)),
 oo 9 (.bin .lss (.t 6) (.t 8))])
 (.cond (.t 9) .skip (.exit 0)))
 (.seq (.block 1 (.seq (rg [oo 12 (.mv (.t 0)),
 oo 13 (.mv (.t 5)),
 oo 14 (.mv (.t 1)),
 oo 15 (.iaddr 4 (.t 12) (.t 13)),
 oo 16 (.faddr 0 0 (.t 15)),
 ⟨none, .store 1 (.t 16) (.t 14), none⟩])
 (.seq (rg [oo 17 (.mv (.t 1)),
 oo 18 (.bin .add (.t 17) (ci 1)),
 oo 1 (.mv (.t 18))])
 (.seq (rg [oo 19 (.mv (.t 0)),
 oo 20 (.mv (.t 5)),
 oo 21 (.mv (.t 1)),
 oo 22 (.iaddr 4 (.t 19) (.t 20)),
 oo 23 (.faddr 1 1 (.t 22)),
 ⟨none, .store 1 (.t 23) (.t 21), none⟩])
 (.seq (rg [oo 24 (.mv (.t 1)),
 oo 25 (.bin .add (.t 24) (ci 1)),
 oo 1 (.mv (.t 25))])
 (.seq (rg [oo 26 (.mv (.t 0)),
 oo 27 (.mv (.t 5)),
 oo 28 (.iaddr 4 (.t 26) (.t 27)),
 oo 29 (.faddr 2 2 (.t 28)),
 oo 30 (.loadO (.sl 2) (.t 29)),
 oo 31 (.mv (.t 1)),
 oo 32 (.callM 2 95 (.t 30) [(.t 31)]),
 oo 1 (.mv (.t 32))])
 (rg [oo 33 (.mv (.t 0)),
 oo 34 (.mv (.t 5)),
 oo 35 (.iaddr 4 (.t 33) (.t 34)),
 oo 36 (.faddr 3 3 (.t 35)),
 oo 37 (.loadO (.sl 2) (.t 36)),
 oo 38 (.mv (.t 1)),
 oo 39 (.callM 2 232 (.t 37) [(.t 38)]),
 oo 1 (.mv (.t 39))])))))))
 (rg [oo 10 (.mv (.t 5)),
 oo 11 (.bin .add (.t 10) (ci 1)),
 oo 5 (.mv (.t 11))])))
def f48_r0 : AC :=
 (.seq (rg [oo 40 (.mv (.t 1)),
 oo 4 (.mv (.t 40))])
 .ret)
def f48_ac : AC :=
 (.seq (rg [oo 4 (.mv (ci 0))])
 (.seq (.seq (rg [oo 5 (.mv (ci 0))])
 (.block 0 (.loop ⟨[0, 1, 5], [], [(5000, true)]⟩ f48_b0)))
 f48_r0))
noncomputable def f48_l0 (E : Env) (x1 : U) (x5 : U) (b5000 : List U) : Option U := loopK (roundOf E ⟨[0, 1, 5], [], [(5000, true)]⟩ f48_b0 (blockK 0 (seqK (fun s => exec E f48_r0 s (finishM 4 [(4, none)])) (finishM 4 [(4, none)])))) ([.ref 5000 [] 4 none, .val x1, .val x5], [.vir (.own (.sl 4 b5000))])
theorem Ql6 (E : Env) (x1 : U) (x5 : U) (b5000 : List U) : f48_l0 E x1 x5 b5000 =
 (U.bin .lss x5 (.int .i64 (b5000.length : Int))).bind fun t1 => U.asBool t1
 (U.asInt x5 fun n2 => if 4 = 4 ∧ 0 ≤ n2 ∧ n2 < (b5000.length : Int) then if storable (.val x1) = true ∧ x1.size = 1 then (b5000[(n2 : Int).toNat]?).bind fun e3 => U.asAgg e3 fun us4 => if 0 = sizes (us4.take 0) then (us4[0]?).bind fun e5 => if e5.size = 1 then if (x1 : U).flat = true then (U.bin .add x1 (.int .i64 1)).bind fun t6 => U.asInt x5 fun n7 => if 4 = 4 ∧ 0 ≤ n7 ∧ n7 < (((b5000.set (n2 : Int).toNat (.agg (us4.set 0 x1)))).length : Int) then if storable (.val t6) = true ∧ t6.size = 1 then ((b5000.set (n2 : Int).toNat (.agg (us4.set 0 x1)))[(n7 : Int).toNat]?).bind fun e8 => U.asAgg e8 fun us9 => if 1 = sizes (us9.take 1) then (us9[1]?).bind fun e10 => if e10.size = 1 then if (t6 : U).flat = true then (U.bin .add t6 (.int .i64 1)).bind fun t11 => U.asInt x5 fun n12 => if 4 = 4 ∧ 0 ≤ n12 ∧ n12 < ((((b5000.set (n2 : Int).toNat (.agg (us4.set 0 x1))).set (n7 : Int).toNat (.agg (us9.set 1 t6)))).length : Int) then (((b5000.set (n2 : Int).toNat (.agg (us4.set 0 x1))).set (n7 : Int).toNat (.agg (us9.set 1 t6)))[(n12 : Int).toNat]?).bind fun e13 => U.asAgg e13 fun us14 => if 2 = sizes (us14.take 2) then (us14[2]?).bind fun e15 => U.asSlK 2 e15 fun _ => (((b5000.set (n2 : Int).toNat (.agg (us4.set 0 x1))).set (n7 : Int).toNat (.agg (us9.set 1 t6)))[(n12 : Int).toNat]?).bind fun e16 => U.asAgg e16 fun us17 => if 2 = sizes (us17.take 2) then (us17[2]?).bind fun e18 => U.asSlK 2 e18 fun _ => U.asSlK 2 e18 fun us19 => (E 200095 (.agg [.tup [.sl 2 us19]] :: [t11])).bind fun t20 => U.asMut 2 t20 fun y21 ys22 => U.asFlat y21 fun y21 => (((b5000.set (n2 : Int).toNat (.agg (us4.set 0 x1))).set (n7 : Int).toNat (.agg (us9.set 1 t6)))[(n12 : Int).toNat]?).bind fun e23 => U.asAgg e23 fun us24 => if 2 = sizes (us24.take 2) then (us24[2]?).bind fun e25 => if e25.size = 1 then U.asInt x5 fun n26 => if 4 = 4 ∧ 0 ≤ n26 ∧ n26 < (((((b5000.set (n2 : Int).toNat (.agg (us4.set 0 x1))).set (n7 : Int).toNat (.agg (us9.set 1 t6))).set (n12 : Int).toNat (.agg (us24.set 2 (.sl 2 ys22))))).length : Int) then ((((b5000.set (n2 : Int).toNat (.agg (us4.set 0 x1))).set (n7 : Int).toNat (.agg (us9.set 1 t6))).set (n12 : Int).toNat (.agg (us24.set 2 (.sl 2 ys22))))[(n26 : Int).toNat]?).bind fun e27 => U.asAgg e27 fun us28 => if 3 = sizes (us28.take 3) then (us28[3]?).bind fun e29 => U.asSlK 2 e29 fun _ => ((((b5000.set (n2 : Int).toNat (.agg (us4.set 0 x1))).set (n7 : Int).toNat (.agg (us9.set 1 t6))).set (n12 : Int).toNat (.agg (us24.set 2 (.sl 2 ys22))))[(n26 : Int).toNat]?).bind fun e30 => U.asAgg e30 fun us31 => if 3 = sizes (us31.take 3) then (us31[3]?).bind fun e32 => U.asSlK 2 e32 fun _ => U.asSlK 2 e32 fun us33 => (E 200232 (.agg [.tup [.sl 2 us33]] :: [y21])).bind fun t34 => U.asMut 2 t34 fun y35 ys36 => U.asFlat y35 fun y35 => ((((b5000.set (n2 : Int).toNat (.agg (us4.set 0 x1))).set (n7 : Int).toNat (.agg (us9.set 1 t6))).set (n12 : Int).toNat (.agg (us24.set 2 (.sl 2 ys22))))[(n26 : Int).toNat]?).bind fun e37 => U.asAgg e37 fun us38 => if 3 = sizes (us38.take 3) then (us38[3]?).bind fun e39 => if e39.size = 1 then (U.bin .add x5 (.int .i64 1)).bind fun t40 => f48_l0 E y35 t40 ((((b5000.set (n2 : Int).toNat (.agg (us4.set 0 x1))).set (n7 : Int).toNat (.agg (us9.set 1 t6))).set (n12 : Int).toNat (.agg (us24.set 2 (.sl 2 ys22)))).set (n26 : Int).toNat (.agg (us38.set 3 (.sl 2 ys36)))) else none else none else none else none else none else none else none else none else none else none else none else none else none else none else none else none else none else none else none else none)
 (if (x1 : U).flat = true then some (.tup [x1, .sl 4 b5000]) else none) :=
 (Qd E _ _ _ _).trans (by kernel_rfl)
structure G_f48 (E : Env) : Prop where
 is : Is E 200287 2 f48_ac [(4, none)]
 c_f50 : G_f50 E
 c_f51 : G_f51 E
theorem f48_E {E : Env} (h : G_f48 E) (xs0 : List U) (a1 : U) : E 200287 (.agg [.tup [.sl 4 xs0]] :: [a1]) =
 f48_l0 E a1 (.int .i64 0) xs0 := (h.is _ rfl).trans ((Qfv rfl).trans (by kernel_rfl))
def f49_b0 : AC :=
 (.seq (.seq (rg [oo 6 (.mv (.t 5)),
 oo 7 (.mv (.t 0)),
 oo 8 (.len false (.t 7)),
 oo 9 (.bin .lss (.t 6) (.t 8))])
 (.cond (.t 9) .skip (.exit 0)))
 (.seq (.block 1 (.seq (rg [oo 12 (.mv (.t 0)),
 oo 13 (.mv (.t 5)),
 oo 14 (.mv (.t 1)),
 oo 15 (.iaddr 1 (.t 12) (.t 13)),
 ⟨none, .store 1 (.t 15) (.t 14), none⟩])
 (rg [oo 16 (.mv (.t 1)),
 oo 17 (.bin .add (.t 16) (ci 1)),
 oo 1 (.mv (.t 17))])))
 (rg [oo 10 (.mv (.t 5)),
 oo 11 (.bin .add (.t 10) (ci 1)),
 oo 5 (.mv (.t 11))])))
def f49_r0 : AC :=
 (.seq (rg [oo 18 (.mv (.t 1)),
 oo 4 (.mv (.t 18))])
 .ret)
def f49_ac : AC :=
 (.seq (rg [oo 4 (.mv (ci 0))])
 (.seq (.seq (rg [oo 5 (.mv (ci 0))])
 (.block 0 (.loop ⟨[0, 1, 5], [], [(5000, true)]⟩ f49_b0)))
 f49_r0))
noncomputable def f49_l0 (E : Env) (x1 : U) (x5 : U) (b5000 : List U) : Option U := loopK (roundOf E ⟨[0, 1, 5], [], [(5000, true)]⟩ f49_b0 (blockK 0 (seqK (fun s => exec E f49_r0 s (finishM 1 [(4, none)])) (finishM 1 [(4, none)])))) ([.ref 5000 [] 1 none, .val x1, .val x5], [.vir (.own (.sl 1 b5000))])
theorem Ql8 (E : Env) (x1 : U) (x5 : U) (b5000 : List U) : f49_l0 E x1 x5 b5000 =
 (U.bin .lss x5 (.int .i64 (b5000.length : Int))).bind fun t1 => U.asBool t1
 (U.asInt x5 fun n2 => if 1 = 1 ∧ 0 ≤ n2 ∧ n2 < (b5000.length : Int) then if storable (.val x1) = true ∧ x1.size = 1 then (b5000[(n2 : Int).toNat]?).bind fun e3 => if e3.size = 1 then if (x1 : U).flat = true then (U.bin .add x1 (.int .i64 1)).bind fun t4 => (U.bin .add x5 (.int .i64 1)).bind fun t5 => f49_l0 E t4 t5 (b5000.set (n2 : Int).toNat x1) else none else none else none else none)
 (if (x1 : U).flat = true then some (.tup [x1, .sl 1 b5000]) else none) :=
 (Qd E _ _ _ _).trans (by kernel_rfl)
structure G_f49 (E : Env) : Prop where
 is : Is E 200086 2 f49_ac [(4, none)]
theorem f49_E {E : Env} (h : G_f49 E) (xs0 : List U) (a1 : U) : E 200086 (.agg [.tup [.sl 1 xs0]] :: [a1]) =
 f49_l0 E a1 (.int .i64 0) xs0 := (h.is _ rfl).trans ((Qfv rfl).trans (by kernel_rfl))
def f38_ac : AC :=
 (.seq (rg [oo 2 (.mv (.c (.bool false)))])
 (.seq (rg [oo 3 (.mv (ci 1048576))])
 (.seq (rg [oo 14 (.mv (.t 0)),
 oo 15 (.mv (.t 3)),
 oo 16 (.call false 49 [(.t 14), (.t 15)]),
 oo 3 (.mv (.t 16))])
 (.seq (.seq (rg [oo 17 (.mv (.t 3)),
 oo 18 (.bin .lss (.t 17) (ci 0))])
 (.cond (.t 18) (.seq (rg [oo 2 (.mv (.c (.bool true)))])
 .ret) .skip))
 (.seq (rg [oo 20 (.mv (.t 0)),
 oo 21 (.call false 45 [(.t 20)]),
 oo 22 (.call false 450 [(.t 21)]),
 oo 19 (.mv (.t 22)),
 oo 23 (.extract 0 (.t 19)),
 oo 24 (.extract 1 (.t 19)),
 oo 4 (.mv (.t 23)),
 oo 5 (.mv (.t 24))])
 (.seq (rg [oo 25 (.mv (.t 0)),
 oo 26 (.callF 26 false [(.sl 4)] 45 [(.t 25)]),
 oo 6 (.mv (.t 26))])
 (.seq (rg [oo 28 (.mv (.t 6)),
 oo 29 (.callF 29 true [.int, (.sl 1)] 449 [(.t 28)]),
 oo 27 (.mv (.t 29)),
 oo 30 (.extract 0 (.t 27)),
 oo 31 (.extract 1 (.t 27)),
 oo 7 (.mv (.t 30)),
 oo 8 (.mv (.t 31))])
 (.seq (.seq (rg [oo 32 (.mv (.t 7)),
 oo 33 (.mv (.t 4)),
 oo 34 (.bin .neq (.t 32) (.t 33)),
 oo 35 (.mv (.t 34)),
 ⟨some 36, .mv (.t 8), some (35, false)⟩,
 ⟨some 37, .mv (.t 5), some (35, false)⟩,
 ⟨some 38, .call false 59 [(.t 36), (.t 37)], some (35, false)⟩,
 ⟨some 39, .un .not (.t 38), some (35, false)⟩,
 oo 40 (.pick (.t 35) (.c (.bool true)) (.t 39))])
 (.cond (.t 40) (.seq (rg [oo 2 (.mv (.c (.bool false)))])
 .ret) .skip))
 (.seq (.seq (rg [oo 41 (.mv (.t 6)),
 oo 42 (.mv (.t 0)),
 oo 43 (.call false 45 [(.t 42)]),
 oo 44 (.call false 46 [(.t 41), (.t 43)]),
 oo 45 (.un .not (.t 44))])
 (.cond (.t 45) (.seq (rg [oo 2 (.mv (.c (.bool false)))])
 .ret) .skip))
 (.seq (rg [oo 9 (.mv (ci 1))])
 (.seq (rg [oo 46 (.mv (.t 6)),
 oo 47 (.mv (.t 9)),
 oo 48 (.callM 4 287 (.t 46) [(.t 47)]),
 oo 9 (.mv (.t 48))])
 (.seq (.seq (rg [oo 49 (.mv (.t 9)),
 oo 50 (.bin .lss (.t 49) (ci 0)),
 oo 51 (.mv (.t 50)),
 ⟨some 52, .mv (.t 7), some (51, false)⟩,
 ⟨some 53, .mv (.t 4), some (51, false)⟩,
 ⟨some 54, .bin .neq (.t 52) (.t 53), some (51, false)⟩,
 oo 55 (.pick (.t 51) (.c (.bool true)) (.t 54)),
 oo 56 (.mv (.t 55)),
 ⟨some 57, .mv (.t 8), some (56, false)⟩,
 ⟨some 58, .mv (.t 5), some (56, false)⟩,
 ⟨some 59, .call false 59 [(.t 57), (.t 58)], some (56, false)⟩,
 ⟨some 60, .un .not (.t 59), some (56, false)⟩,
 oo 61 (.pick (.t 56) (.c (.bool true)) (.t 60))])
 (.cond (.t 61) (.seq (rg [oo 2 (.mv (.c (.bool false)))])
 .ret) .skip))
 (.seq (rg [oo 10 (.mv (ci 1))])
 (.seq (rg [oo 62 (.mv (.t 8)),
 oo 63 (.mv (.t 10)),
 oo 64 (.callM 1 86 (.t 62) [(.t 63)]),
 oo 10 (.mv (.t 64))])
 (.seq (rg [oo 11 (.mv (ci 1))])
 (.seq (rg [oo 65 (.mv (.t 8)),
 oo 66 (.mv (.t 11)),
 oo 67 (.call false 90 [(.t 65), (.t 66)]),
 oo 11 (.mv (.t 67))])
 (.seq (.seq (rg [oo 68 (.mv (.t 11)),
 oo 69 (.bin .lss (.t 68) (ci 0))])
 (.cond (.t 69) (.seq (rg [oo 2 (.mv (.c (.bool false)))])
 .ret) .skip))
 (.seq (.seq (rg [oo 70 (.mv (.t 11)),
 oo 71 (.mv (.t 10)),
 oo 72 (.bin .neq (.t 70) (.t 71))])
 (.cond (.t 72) (.seq (rg [oo 2 (.mv (.c (.bool false)))])
 .ret) .skip))
 (.seq (rg [oo 74 (.mv (.t 0)),
 oo 75 (.call false 45 [(.t 74)]),
 oo 76 (.call false 449 [(.t 75)]),
 oo 73 (.mv (.t 76)),
 oo 77 (.extract 0 (.t 73)),
 oo 78 (.extract 1 (.t 73)),
 oo 12 (.mv (.t 77)),
 oo 13 (.mv (.t 78))])
 (.seq (.seq (rg [oo 79 (.mv (.t 12)),
 oo 80 (.mv (.t 4)),
 oo 81 (.bin .neq (.t 79) (.t 80)),
 oo 82 (.mv (.t 81)),
 ⟨some 83, .mv (.t 13), some (82, false)⟩,
 ⟨some 84, .mv (.t 5), some (82, false)⟩,
 ⟨some 85, .call false 59 [(.t 83), (.t 84)], some (82, false)⟩,
 ⟨some 86, .un .not (.t 85), some (82, false)⟩,
 oo 87 (.pick (.t 82) (.c (.bool true)) (.t 86))])
 (.cond (.t 87) (.seq (rg [oo 2 (.mv (.c (.bool false)))])
 .ret) .skip))
 (.seq (rg [oo 11 (.mv (ci 1))])
 (.seq (rg [oo 88 (.mv (.t 8)),
 oo 89 (.mv (.t 11)),
 oo 90 (.call false 90 [(.t 88), (.t 89)]),
 oo 11 (.mv (.t 90))])
 (.seq (.seq (rg [oo 91 (.mv (.t 11)),
 oo 92 (.bin .lss (.t 91) (ci 0))])
 (.cond (.t 92) (.seq (rg [oo 2 (.mv (.c (.bool false)))])
 .ret) .skip))
 (.seq (.seq (rg [oo 93 (.mv (.t 11)),
 oo 94 (.mv (.t 10)),
 oo 95 (.bin .neq (.t 93) (.t 94))])
 (.cond (.t 95) (.seq (rg [oo 2 (.mv (.c (.bool false)))])
 .ret) .skip))
 (.seq (rg [oo 2 (.mv (.c (.bool true)))])
 .ret)))))))))))))))))))))))))
structure G_f38 (E : Env) : Prop where
 is : Is E 448 1 f38_ac [(2, none)]
 c_f53 : G_f53 E
 c_f82 : G_f82 E
 c_f57 : G_f57 E
 c_f14 : G_f14 E
 c_f41 : G_f41 E
 c_f40 : G_f40 E
 c_f46 : G_f46 E
 c_f58 : G_f58 E
 c_f15 : G_f15 E
 c_f48 : G_f48 E
 c_f49 : G_f49 E
theorem f38_E {E : Env} (h : G_f38 E) (a0 : U) : E 448 [a0] =
 (E 49 [a0, (.int .i64 1048576)]).bind fun t1 => (U.bin .lss t1 (.int .i64 0)).bind fun t2 => U.asBool t2
 (some (.bool true))
 ((E 45 [a0]).bind fun t3 => (E 450 [t3]).bind fun t4 => U.part 0 t4 fun p5 => U.part 1 t4 fun p6 => (E 100045 [a0]).bind fun t7 => U.noTup t7 fun x8 => U.asSlK 4 x8 fun us9 => (E 100449 [(.sl 4 us9)]).bind fun t10 => U.asTup t10 fun us11 => (match us11 with
 | u12 :: us13 => (U.asInt u12 fun n14 => (match us13 with
 | u15 :: us16 => (U.asSlK 1 u15 fun us17 => (match us16 with
 | [] => ((U.bin .neq (.int .i64 n14) p5).bind fun t18 => U.asBool t18
 (some (.bool false))
 ((E 59 [(.sl 1 us17), p6]).bind fun t19 => U.asFlat t19 fun t20 => (U.un .not t20).bind fun t21 => U.asBool t21
 (some (.bool false))
 ((E 45 [a0]).bind fun t22 => (E 46 [(.sl 4 us9), t22]).bind fun t23 => U.asFlat t23 fun t24 => (U.un .not t24).bind fun t25 => U.asBool t25
 (some (.bool false))
 ((E 200287 (.agg [.tup [.sl 4 us9]] :: [(.int .i64 1)])).bind fun t26 => U.asMut 4 t26 fun y27 ys28 => U.asFlat y27 fun y27 => (U.bin .lss y27 (.int .i64 0)).bind fun t29 => U.asBool t29
 (some (.bool false))
 ((U.bin .neq (.int .i64 n14) p5).bind fun t30 => U.asBool t30
 (some (.bool false))
 ((E 59 [(.sl 1 us17), p6]).bind fun t31 => U.asFlat t31 fun t32 => (U.un .not t32).bind fun t33 => U.asBool t33
 (some (.bool false))
 ((E 200086 (.agg [.tup [.sl 1 us17]] :: [(.int .i64 1)])).bind fun t34 => U.asMut 1 t34 fun y35 ys36 => U.asFlat y35 fun y35 => (E 90 [(.sl 1 ys36), (.int .i64 1)]).bind fun t37 => U.asFlat t37 fun t38 => (U.bin .lss t38 (.int .i64 0)).bind fun t39 => U.asBool t39
 (some (.bool false))
 ((U.bin .neq t38 y35).bind fun t40 => U.asBool t40
 (some (.bool false))
 ((E 45 [a0]).bind fun t41 => (E 449 [t41]).bind fun t42 => U.part 0 t42 fun p43 => U.part 1 t42 fun p44 => (U.bin .neq p43 p5).bind fun t45 => U.asBool t45
 (some (.bool false))
 ((E 59 [p44, p6]).bind fun t46 => (U.un .not t46).bind fun t47 => U.asBool t47
 (some (.bool false))
 ((E 90 [(.sl 1 ys36), (.int .i64 1)]).bind fun t48 => U.asFlat t48 fun t49 => (U.bin .lss t49 (.int .i64 0)).bind fun t50 => U.asBool t50
 (some (.bool false))
 ((U.bin .neq t49 y35).bind fun t51 => U.asBool t51
 (some (.bool false))
 (some (.bool true))))))))))))))
 | _ => none))
 | [] => none))
 | [] => none)) := (h.is _ rfl).trans ((Qb rfl).trans (by kernel_rfl))
end Go.Proofs.YtlgblpngiamhaaaGreat.Am
