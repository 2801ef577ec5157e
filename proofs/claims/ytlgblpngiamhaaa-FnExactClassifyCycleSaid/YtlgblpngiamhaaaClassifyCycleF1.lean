import Derived.KernelRfl
import Derived.Test.YtlgblpngiamhaaaClassifyCycleF0
import Derived.Test.YtlgblpngiamhaaaAmW
namespace Go.Proofs.Ytlgblpngiamhaaa.Am
open Go
set_option linter.unusedVariables false
set_option maxRecDepth 100000
def f55_ac : AC :=
 (.seq (rg [oo 4 (.mv (.c (.bool false)))])
 (.seq (rg [oo 5 (.mv (.t 0)),
  oo 6 (.mv (.t 1)),
  oo 7 (.call false 66 [(.t 5), (.t 6)]),
  oo 8 (.bin .geq (.t 7) (ci 0)),
  oo 4 (.mv (.t 8))])
 .ret))
structure G_f55 (E : Env) : Prop where
  is : Is E 65 2 f55_ac [(4, none)]
  c_f60 : G_f60 E
theorem f55_E {E : Env} (h : G_f55 E) (a0 a1 : U) : E 65 [a0, a1] =
 (E 66 [a0, a1]).bind fun t1 => (U.bin .geq t1 (.int .i64 0)).bind fun t2 => some t2 := (h.is _ rfl).trans ((runQ_V rfl).trans (by kernel_rfl))
def f17_ac : AC :=
 (.seq (rg [oo 3 (.box false 3 (.t 0)),
  oo 4 (.mv (.c (.bool false)))])
 (.seq (rg [oo 5 (.faddr 0 0 (.t 3)),
  oo 6 (.load false 1 (.t 5)),
  oo 7 (.load false 1 (.t 1)),
  oo 8 (.bin .eql (.t 6) (.t 7)),
  oo 9 (.mv (.t 8)),
  ⟨some 10, .faddr 1 1 (.t 3), some (9, true)⟩,
  ⟨some 11, .load false 1 (.t 10), some (9, true)⟩,
  ⟨some 12, .load false 1 (.t 2), some (9, true)⟩,
  ⟨some 13, .bin .eql (.t 11) (.t 12), some (9, true)⟩,
  oo 14 (.pick (.t 9) (.t 13) (.c (.bool false))),
  oo 4 (.mv (.t 14))])
 .ret))
structure G_f17 (E : Env) : Prop where
  is : Is E 64 3 f17_ac [(4, none)]
theorem f17_E {E : Env} (h : G_f17 E) (a0 a1 a2 : U) : E 64 [a0, a1, a2] =
 U.noTup a0 fun x1 => U.asAgg x1 fun us2 => if 0 = sizes (us2.take 0) then (us2[0]?).bind fun e3 => U.asVar false 1 e3 fun e4 => U.asVp a1 fun v5 => U.asVar false 1 v5 fun e6 => (U.bin .eql e4 e6).bind fun t7 => U.asBool t7
 (U.asAgg x1 fun us8 => if 1 = sizes (us8.take 1) then (us8[1]?).bind fun e9 => U.asVar false 1 e9 fun e10 => U.asVp a2 fun v11 => U.asVar false 1 v11 fun e12 => (U.bin .eql e10 e12).bind fun t13 => some t13 else none)
 (some (.bool false)) else none := (h.is _ rfl).trans ((runQ_V rfl).trans (by kernel_rfl))
def f16_ac : AC :=
 (.seq (rg [oo 4 (.box true 4 (.t 1)),
  oo 5 (.box true 5 (.t 2)),
  oo 6 (.mv (.c (.bool false)))])
 (.seq (rg [oo 7 (.mv (.t 0)),
  oo 8 (.mkfn 64 [(.t 4), (.t 5)]),
  oo 9 (.call false 65 [(.t 7), (.t 8)]),
  oo 6 (.mv (.t 9))])
 .ret))
structure G_f16 (E : Env) : Prop where
  is : Is E 63 3 f16_ac [(6, none)]
  c_f55 : G_f55 E
  c_f17 : G_f17 E
theorem f16_E {E : Env} (h : G_f16 E) (a0 a1 a2 : U) : E 63 [a0, a1, a2] =
 U.noTup a1 fun x1 => U.noTup a2 fun x2 => (E 65 [a0, (.fn 64 [(.vp x1), (.vp x2)])]).bind fun t3 => U.asFlat t3 fun t4 => some t4 := (h.is _ rfl).trans ((runQ_V rfl).trans (by kernel_rfl))
def f5_b0 : AC :=
 (.seq (rg [oo 18 (.bin .lss (.t 17) (.t 16))])
 (.seq (.cond (.t 18) .skip (.exit 0))
 (.seq (.block 1 (.seq (rg [oo 19 (.mv (.t 17)),
  oo 20 (.iaddr 1 (.t 15) (.t 17)),
  oo 21 (.load false 1 (.t 20)),
  oo 5 (.mv (.t 19)),
  oo 6 (.mv (.t 21))])
 (.seq (rg [oo 22 (.mv (.t 1)),
  oo 23 (.mv (.t 5)),
  oo 24 (.slice false 1 (.t 22) none (some (.t 23))),
  oo 25 (.mv (.t 6)),
  oo 26 (.call false 42 [(.t 24), (.t 25)]),
  oo 27 (.mv (.t 26)),
  ⟨some 28, .mv (.t 0), some (27, false)⟩,
  ⟨some 29, .mv (.t 6), some (27, false)⟩,
  ⟨some 30, .mv (.t 1), some (27, false)⟩,
  ⟨some 31, .mv (.t 5), some (27, false)⟩,
  ⟨some 32, .bin .add (.t 31) (ci 1), some (27, false)⟩,
  ⟨some 33, .mv (.t 1), some (27, false)⟩,
  ⟨some 34, .len false (.t 33), some (27, false)⟩,
  ⟨some 35, .bin .rem (.t 32) (.t 34), some (27, false)⟩,
  ⟨some 36, .iaddr 1 (.t 30) (.t 35), some (27, false)⟩,
  ⟨some 37, .load false 1 (.t 36), some (27, false)⟩,
  ⟨some 38, .call false 63 [(.t 28), (.t 29), (.t 37)], some (27, false)⟩,
  ⟨some 39, .un .not (.t 38), some (27, false)⟩,
  oo 40 (.pick (.t 27) (.c (.bool true)) (.t 39))])
 (.cond (.t 40) (.seq (rg [oo 4 (.mv (.c (.bool false)))])
 .ret) .skip))))
 (rg [oo 41 (.bin .add (.t 17) (ci 1)),
  oo 17 (.mv (.t 41))]))))
def f5_r0 : AC :=
 (.seq (rg [oo 4 (.mv (.c (.bool true)))])
 .ret)
def f5_ac : AC :=
 (.seq (rg [oo 4 (.mv (.c (.bool false)))])
 (.seq (.seq (rg [oo 7 (.mv (.t 0)),
  oo 8 (.call false 3 [(.t 7)]),
  oo 9 (.un .not (.t 8)),
  oo 10 (.mv (.t 9)),
  ⟨some 11, .mv (.t 1), some (10, false)⟩,
  ⟨some 12, .len false (.t 11), some (10, false)⟩,
  ⟨some 13, .bin .lss (.t 12) (ci 2), some (10, false)⟩,
  oo 14 (.pick (.t 10) (.c (.bool true)) (.t 13))])
 (.cond (.t 14) (.seq (rg [oo 4 (.mv (.c (.bool false)))])
 .ret) .skip))
 (.seq (.seq (rg [oo 15 (.mv (.t 1)),
  oo 16 (.len false (.t 15)),
  oo 17 (.mv (ci 0))])
 (.block 0 (.loop ⟨[0, 1, 15, 16, 17], [], []⟩ f5_b0)))
 f5_r0)))
noncomputable def f5_l0 (E : Env) (x0 : U) (x1 : U) (x15 : U) (x16 : U) (x17 : U) : Option U := loopK (roundOf E ⟨[0, 1, 15, 16, 17], [], []⟩ f5_b0 (blockK 0 (seqK (fun s => exec E f5_r0 s (finish [(4, none)])) (finish [(4, none)])))) ([.val x0, .val x1, .val x15, .val x16, .val x17], [])
theorem f5_l0_eq (E : Env) (x0 : U) (x1 : U) (x15 : U) (x16 : U) (x17 : U) : f5_l0 E x0 x1 x15 x16 x17 =
 (U.bin .lss x17 x16).bind fun t6 => U.asBool t6
 (U.asInt x17 fun n7 => U.elemAt 1 x15 n7 fun e8 => U.asVar false 1 e8 fun e9 => U.asInt x17 fun n10 => (U.cut false 1 x1 none (some n10)).bind fun t11 => (E 42 [t11, e9]).bind fun t12 => U.asBool t12
 (some (.bool false))
 ((U.bin .add x17 (.int .i64 1)).bind fun t13 => (U.lenOf false x1).bind fun n14 => (U.bin .rem t13 (.int .i64 (n14 : Int))).bind fun t15 => U.asInt t15 fun n16 => U.elemAt 1 x1 n16 fun e17 => U.asVar false 1 e17 fun e18 => (E 63 [x0, e9, e18]).bind fun t19 => (U.un .not t19).bind fun t20 => U.asBool t20
 (some (.bool false))
 ((U.bin .add x17 (.int .i64 1)).bind fun t21 => f5_l0 E x0 x1 x15 x16 t21)))
 (some (.bool true)) :=
 (loop_eq E _ _ _ _).trans (by kernel_rfl)
structure G_f5 (E : Env) : Prop where
  is : Is E 60 2 f5_ac [(4, none)]
  c_f3 : G_f3 E
  c_f16 : G_f16 E
  c_f56 : G_f56 E
theorem f5_E {E : Env} (h : G_f5 E) (a0 a1 : U) : E 60 [a0, a1] =
 (E 3 [a0]).bind fun t1 => (U.un .not t1).bind fun t2 => U.asBool t2
 (some (.bool false))
 ((U.lenOf false a1).bind fun n3 => (U.bin .lss (.int .i64 (n3 : Int)) (.int .i64 2)).bind fun t4 => U.asBool t4
 (some (.bool false))
 ((U.lenOf false a1).bind fun n5 => f5_l0 E a0 a1 a1 (.int .i64 (n5 : Int)) (.int .i64 0))) := (h.is _ rfl).trans ((runQ_V rfl).trans (by kernel_rfl))
def f7_ac : AC :=
 (.seq (rg [oo 3 (.alloc 3 (.agg [(.int .i64 0), (.int .i64 0), (.nsl 2), (.nsl 2)]))])
 (.seq (.region 6 [oo 4 (.load false 1 (.t 1)),
  oo 5 (.load false 1 (.t 1)),
  oo 6 (.mv (.t 0)),
  oo 7 (.call false 251 [(.t 5), (.t 6)]),
  oo 8 (.iaddr 4 (.t 4) (.t 7)),
  oo 9 (.load true 4 (.t 8)),
  ⟨none, .store 4 (.t 3) (.t 9), none⟩])
 .ret))
structure G_f7 (E : Env) : Prop where
  is : Is E 446 2 f7_ac [(3, some (true, 4))]
  c_f14 : G_f14 E
theorem f7_E {E : Env} (h : G_f7 E) (a0 a1 : U) : E 446 [a0, a1] =
 U.asVp a1 fun v1 => U.asVar false 1 v1 fun e2 => U.asVp a1 fun v3 => U.asVar false 1 v3 fun e4 => (E 251 [e4, a0]).bind fun t5 => U.asInt t5 fun n6 => U.elemAt 4 e2 n6 fun e7 => U.asVar true 4 e7 fun e8 => if storable (.val e8) = true ∧ e8.size = 4 then U.asVar true 4 e8 fun e9 => some e9 else none := (h.is _ rfl).trans ((runQ_V rfl).trans (by kernel_rfl))
def f58_b0 : AC :=
 (.seq (rg [oo 9 (.bin .lss (.t 8) (.t 7))])
 (.seq (.cond (.t 9) .skip (.exit 0))
 (.seq (.block 1 (.seq (rg [oo 10 (.mv (.t 8)),
  oo 5 (.mv (.t 10))])
 (.seq (rg [oo 11 (.mv (.t 1)),
  oo 12 (.mv (.t 0)),
  oo 13 (.mv (.t 5)),
  oo 14 (.iaddr 1 (.t 12) (.t 13)),
  oo 15 (.load false 1 (.t 14)),
  oo 16 (.callv false (.t 11) [(.t 15)])])
 (.cond (.t 16) (.seq (rg [oo 17 (.mv (.t 5)),
  oo 4 (.mv (.t 17))])
 .ret) .skip))))
 (rg [oo 18 (.bin .add (.t 8) (ci 1)),
  oo 8 (.mv (.t 18))]))))
def f58_r0 : AC :=
 (.seq (rg [oo 4 (.mv (ci (-1)))])
 .ret)
def f58_ac : AC :=
 (.seq (rg [oo 4 (.mv (ci 0))])
 (.seq (.seq (rg [oo 6 (.mv (.t 0)),
  oo 7 (.len false (.t 6)),
  oo 8 (.mv (ci 0))])
 (.block 0 (.loop ⟨[0, 1, 7, 8], [], []⟩ f58_b0)))
 f58_r0))
noncomputable def f58_l0 (E : Env) (x0 : U) (x1 : U) (x7 : U) (x8 : U) : Option U := loopK (roundOf E ⟨[0, 1, 7, 8], [], []⟩ f58_b0 (blockK 0 (seqK (fun s => exec E f58_r0 s (finish [(4, none)])) (finish [(4, none)])))) ([.val x0, .val x1, .val x7, .val x8], [])
theorem f58_l0_eq (E : Env) (x0 : U) (x1 : U) (x7 : U) (x8 : U) : f58_l0 E x0 x1 x7 x8 =
 (U.bin .lss x8 x7).bind fun t2 => U.asBool t2
 (U.asInt x8 fun n3 => U.elemAt 1 x0 n3 fun e4 => U.asVar false 1 e4 fun e5 => U.asFn x1 fun r6 caps7 => (E r6 ([e5] ++ caps7)).bind fun t8 => U.asBool t8
 (some x8)
 ((U.bin .add x8 (.int .i64 1)).bind fun t9 => f58_l0 E x0 x1 x7 t9))
 (some (.int .i64 (-1))) :=
 (loop_eq E _ _ _ _).trans (by kernel_rfl)
structure G_f58 (E : Env) : Prop where
  is : Is E 447 2 f58_ac [(4, none)]
theorem f58_E {E : Env} (h : G_f58 E) (a0 a1 : U) : E 447 [a0, a1] =
 (U.lenOf false a0).bind fun n1 => f58_l0 E a0 a1 (.int .i64 (n1 : Int)) (.int .i64 0) := (h.is _ rfl).trans ((runQ_V rfl).trans (by kernel_rfl))
def f53_ac : AC :=
 (.seq (rg [oo 4 (.mv (.c (.bool false)))])
 (.seq (rg [oo 5 (.mv (.t 0)),
  oo 6 (.mv (.t 1)),
  oo 7 (.call false 447 [(.t 5), (.t 6)]),
  oo 8 (.bin .geq (.t 7) (ci 0)),
  oo 4 (.mv (.t 8))])
 .ret))
structure G_f53 (E : Env) : Prop where
  is : Is E 445 2 f53_ac [(4, none)]
  c_f58 : G_f58 E
theorem f53_E {E : Env} (h : G_f53 E) (a0 a1 : U) : E 445 [a0, a1] =
 (E 447 [a0, a1]).bind fun t1 => (U.bin .geq t1 (.int .i64 0)).bind fun t2 => some t2 := (h.is _ rfl).trans ((runQ_V rfl).trans (by kernel_rfl))
def f8_ac : AC :=
 (.seq (rg [oo 3 (.mv (.c (.bool false)))])
 (.seq (rg [oo 4 (.load false 1 (.t 1)),
  oo 5 (.mv (.t 0)),
  oo 6 (.callv false (.t 4) [(.t 5)]),
  oo 7 (.field false 1 3 3 (.t 6)),
  oo 8 (.len false (.t 7)),
  oo 9 (.bin .eql (.t 8) (ci 0)),
  oo 3 (.mv (.t 9))])
 .ret))
structure G_f8 (E : Env) : Prop where
  is : Is E 444 2 f8_ac [(3, none)]
theorem f8_E {E : Env} (h : G_f8 E) (a0 a1 : U) : E 444 [a0, a1] =
 U.asVp a1 fun v1 => U.asVar false 1 v1 fun e2 => U.asFn e2 fun r3 caps4 => (E r3 ([a0] ++ caps4)).bind fun t5 => U.fieldAt 3 3 t5 fun f6 => U.asVar false 1 f6 fun e7 => (U.lenOf false e7).bind fun n8 => (U.bin .eql (.int .i64 (n8 : Int)) (.int .i64 0)).bind fun t9 => some t9 := (h.is _ rfl).trans ((runQ_V rfl).trans (by kernel_rfl))
def f9_ac : AC :=
 (.seq (rg [oo 2 (.box false 2 (.t 0)),
  oo 3 (.mv (.c (.bool false)))])
 (.seq (rg [oo 4 (.load false 1 (.t 1)),
  oo 5 (.faddr 0 0 (.t 2)),
  oo 6 (.load false 1 (.t 5)),
  oo 7 (.call false 42 [(.t 4), (.t 6)]),
  oo 8 (.mv (.t 7)),
  ⟨some 9, .load false 1 (.t 1), some (8, true)⟩,
  ⟨some 10, .faddr 1 1 (.t 2), some (8, true)⟩,
  ⟨some 11, .load false 1 (.t 10), some (8, true)⟩,
  ⟨some 12, .call false 42 [(.t 9), (.t 11)], some (8, true)⟩,
  oo 13 (.pick (.t 8) (.t 12) (.c (.bool false))),
  oo 3 (.mv (.t 13))])
 .ret))
structure G_f9 (E : Env) : Prop where
  is : Is E 443 2 f9_ac [(3, none)]
  c_f56 : G_f56 E
theorem f9_E {E : Env} (h : G_f9 E) (a0 a1 : U) : E 443 [a0, a1] =
 U.noTup a0 fun x1 => U.asVp a1 fun v2 => U.asVar false 1 v2 fun e3 => U.asAgg x1 fun us4 => if 0 = sizes (us4.take 0) then (us4[0]?).bind fun e5 => U.asVar false 1 e5 fun e6 => (E 42 [e3, e6]).bind fun t7 => U.asBool t7
 (U.asVp a1 fun v8 => U.asVar false 1 v8 fun e9 => U.asAgg x1 fun us10 => if 1 = sizes (us10.take 1) then (us10[1]?).bind fun e11 => U.asVar false 1 e11 fun e12 => (E 42 [e9, e12]).bind fun t13 => some t13 else none)
 (some (.bool false)) else none := (h.is _ rfl).trans ((runQ_V rfl).trans (by kernel_rfl))
def f10_ac : AC :=
 (.seq (rg [oo 2 (.box false 2 (.t 0)),
  oo 3 (.mv (.c (.bool false)))])
 (.seq (rg [oo 4 (.load true 4 (.t 1)),
  oo 5 (.faddr 0 0 (.t 2)),
  oo 6 (.load false 1 (.t 5)),
  oo 7 (.call false 52 [(.t 4), (.t 6)]),
  oo 3 (.mv (.t 7))])
 .ret))
structure G_f10 (E : Env) : Prop where
  is : Is E 442 2 f10_ac [(3, none)]
  c_f12 : G_f12 E
theorem f10_E {E : Env} (h : G_f10 E) (a0 a1 : U) : E 442 [a0, a1] =
 U.noTup a0 fun x1 => U.asVp a1 fun v2 => U.asVar true 4 v2 fun e3 => U.asAgg x1 fun us4 => if 0 = sizes (us4.take 0) then (us4[0]?).bind fun e5 => U.asVar false 1 e5 fun e6 => (E 52 [e3, e6]).bind fun t7 => some t7 else none := (h.is _ rfl).trans ((runQ_V rfl).trans (by kernel_rfl))
def f11_ac : AC :=
 (.seq (rg [oo 2 (.box false 2 (.t 0)),
  oo 3 (.mv (.c (.bool false)))])
 (.seq (rg [oo 4 (.load false 1 (.t 1)),
  oo 5 (.load true 4 (.t 2)),
  oo 6 (.callv false (.t 4) [(.t 5)]),
  oo 7 (.mv (.t 6)),
  ⟨some 8, .faddr 2 2 (.t 2), some (7, true)⟩,
  ⟨some 9, .load false 1 (.t 8), some (7, true)⟩,
  ⟨some 10, .bin .neq (.t 9) (ci 3), some (7, true)⟩,
  oo 11 (.pick (.t 7) (.t 10) (.c (.bool false))),
  oo 3 (.mv (.t 11))])
 .ret))
structure G_f11 (E : Env) : Prop where
  is : Is E 441 2 f11_ac [(3, none)]
theorem f11_E {E : Env} (h : G_f11 E) (a0 a1 : U) : E 441 [a0, a1] =
 U.noTup a0 fun x1 => U.asVp a1 fun v2 => U.asVar false 1 v2 fun e3 => U.asVar true 4 x1 fun e4 => U.asFn e3 fun r5 caps6 => (E r5 ([e4] ++ caps6)).bind fun t7 => U.asBool t7
 (U.asAgg x1 fun us8 => if 2 = sizes (us8.take 2) then (us8[2]?).bind fun e9 => U.asVar false 1 e9 fun e10 => (U.bin .neq e10 (.int .i64 3)).bind fun t11 => some t11 else none)
 (some (.bool false)) := (h.is _ rfl).trans ((runQ_V rfl).trans (by kernel_rfl))
def f6_ac : AC :=
 (.seq (rg [oo 2 (.box true 2 (.t 0)),
  oo 3 (.box true 3 (.t 1)),
  oo 4 (.mv (ci 0))])
 (.seq (rg [oo 9 (.load false 1 (.t 2)),
  oo 10 (.call false 408 [(.t 9)]),
  oo 5 (.mv (.t 10))])
 (.seq (.seq (rg [oo 11 (.mv (.t 5)),
  oo 12 (.load false 1 (.t 3)),
  oo 13 (.call false 60 [(.t 11), (.t 12)]),
  oo 14 (.un .not (.t 13))])
 (.cond (.t 14) (.seq (rg [oo 4 (.mv (ci 0))])
 .ret) .skip))
 (.seq (rg [oo 15 (.mkfn 446 [(.t 2)]),
  oo 6 (.allocJ 6),
  ⟨none, .store 1 (.t 6) (.t 15), none⟩])
 (.seq (.seq (rg [oo 16 (.load false 1 (.t 3)),
  oo 17 (.mkfn 444 [(.t 6)]),
  oo 18 (.call false 445 [(.t 16), (.t 17)])])
 (.cond (.t 18) (.seq (rg [oo 4 (.mv (ci 3))])
 .ret) .skip))
 (.seq (.seq (rg [oo 19 (.load false 1 (.t 3)),
  oo 20 (.len false (.t 19)),
  oo 21 (.bin .neq (.t 20) (ci 2))])
 (.cond (.t 21) (.seq (rg [oo 4 (.mv (ci 4))])
 .ret) .skip))
 (.seq (.regN 6 [7] [(0, 7), (1, 7), (2, 7), (3, 7), (4, 7)] [(.t 6), (.t 3), (.t 24)] [oo 22 (.load false 1 (.t 6)),
  oo 23 (.load false 1 (.t 3)),
  oo 24 (.iaddr 1 (.t 23) (ci 1)),
  oo 25 (.load false 1 (.t 24)),
  oo 26 (.callv false (.t 22) [(.t 25)]),
  oo 7 (.alloc 7 (.agg [(.int .i64 0), (.int .i64 0), (.nsl 2), (.nsl 2)])),
  ⟨none, .store 4 (.t 7) (.t 26), none⟩])
 (.seq (rg [oo 27 (.mkfn 443 [(.t 3)]),
  oo 8 (.allocJ 8),
  ⟨none, .store 1 (.t 8) (.t 27), none⟩])
 (.seq (.block 0 (.seq (.region 9 [oo 29 (.load false 1 (.t 6)),
  oo 30 (.load false 1 (.t 3)),
  oo 31 (.iaddr 1 (.t 30) (ci 0)),
  oo 32 (.load false 1 (.t 31)),
  oo 33 (.callv false (.t 29) [(.t 32)]),
  oo 34 (.field false 1 3 3 (.t 33)),
  oo 35 (.mkfn 442 [(.t 7)]),
  oo 36 (.call false 54 [(.t 34), (.t 35)]),
  oo 28 (.mv (.t 36))])
 (.cond (.t 28) (.seq (rg [oo 4 (.mv (ci 1))])
 .ret) (.seq (rg [oo 38 (.mv (.t 5)),
  oo 39 (.mkfn 441 [(.t 8)]),
  oo 40 (.call false 65 [(.t 38), (.t 39)]),
  oo 41 (.un .not (.t 40)),
  oo 37 (.mv (.t 41))])
 (.cond (.t 37) (.seq (rg [oo 4 (.mv (ci 2))])
 .ret) .skip)))))
 (.seq (rg [oo 4 (.mv (ci 4))])
 .ret))))))))))
structure G_f6 (E : Env) : Prop where
  is : Is E 438 2 f6_ac [(4, none)]
  c_f4 : G_f4 E
  c_f5 : G_f5 E
  c_f7 : G_f7 E
  c_f53 : G_f53 E
  c_f8 : G_f8 E
  c_f9 : G_f9 E
  c_f54 : G_f54 E
  c_f10 : G_f10 E
  c_f55 : G_f55 E
  c_f11 : G_f11 E
theorem f6_E {E : Env} (h : G_f6 E) (a0 a1 : U) : E 438 [a0, a1] =
 U.noTup a0 fun x1 => U.noTup a1 fun x2 => U.asVar false 1 x1 fun e3 => (E 408 [e3]).bind fun t4 => U.asVar false 1 x2 fun e5 => (E 60 [t4, e5]).bind fun t6 => (U.un .not t6).bind fun t7 => U.asBool t7
 (some (.int .i64 0))
 (U.asVar false 1 x2 fun e8 => (E 445 [e8, (.fn 444 [(.vp (.fn 446 [(.vp x1)]))])]).bind fun t9 => U.asFlat t9 fun t10 => U.asBool t10
 (some (.int .i64 3))
 (U.asVar false 1 x2 fun e11 => (U.lenOf false e11).bind fun n12 => (U.bin .neq (.int .i64 (n12 : Int)) (.int .i64 2)).bind fun t13 => U.asBool t13
 (some (.int .i64 4))
 (U.asVar false 1 x2 fun e14 => U.elemAt 1 e14 1 fun e15 => U.asVar false 1 e15 fun e16 => (E 446 ([e16] ++ [(.vp x1)])).bind fun t17 => if storable (.val t17) = true ∧ t17.size = 4 then U.asVar false 1 x2 fun e18 => U.elemAt 1 e18 0 fun e19 => U.asVar false 1 e19 fun e20 => (E 446 ([e20] ++ [(.vp x1)])).bind fun t21 => U.fieldAt 3 3 t21 fun f22 => U.asVar false 1 f22 fun e23 => (E 54 [e23, (.fn 442 [(.vp t17)])]).bind fun t24 => U.asFlat t24 fun t25 => U.asBool t25
 (some (.int .i64 1))
 ((E 65 [t4, (.fn 441 [(.vp (.fn 443 [(.vp x2)]))])]).bind fun t26 => U.asFlat t26 fun t27 => (U.un .not t27).bind fun t28 => U.asBool t28
 (some (.int .i64 2))
 (some (.int .i64 4))) else none))) := (h.is _ rfl).trans ((runQ_V rfl).trans (by kernel_rfl))
def f37_ac : AC :=
 (.seq (rg [oo 2 (.box false 2 (.t 0)),
  oo 3 (.box false 3 (.t 1)),
  oo 4 (.mv (.c (.bool false)))])
 (.seq (.seq (rg [oo 5 (.faddr 0 0 (.t 2)),
  oo 6 (.load false 1 (.t 5)),
  oo 7 (.faddr 0 0 (.t 3)),
  oo 8 (.load false 1 (.t 7)),
  oo 9 (.bin .neq (.t 6) (.t 8))])
 (.cond (.t 9) (.seq (rg [oo 4 (.mv (.c (.bool false)))])
 .ret) .skip))
 (.seq (.seq (rg [oo 10 (.faddr 1 1 (.t 2)),
  oo 11 (.load false 1 (.t 10)),
  oo 12 (.faddr 1 1 (.t 3)),
  oo 13 (.load false 1 (.t 12)),
  oo 14 (.bin .neq (.t 11) (.t 13))])
 (.cond (.t 14) (.seq (rg [oo 4 (.mv (.c (.bool false)))])
 .ret) .skip))
 (.seq (rg [oo 4 (.mv (.c (.bool true)))])
 .ret))))
structure G_f37 (E : Env) : Prop where
  is : Is E 35 2 f37_ac [(4, none)]
theorem f37_E {E : Env} (h : G_f37 E) (a0 a1 : U) : E 35 [a0, a1] =
 U.noTup a0 fun x1 => U.noTup a1 fun x2 => U.asAgg x1 fun us3 => if 0 = sizes (us3.take 0) then (us3[0]?).bind fun e4 => U.asVar false 1 e4 fun e5 => U.asAgg x2 fun us6 => if 0 = sizes (us6.take 0) then (us6[0]?).bind fun e7 => U.asVar false 1 e7 fun e8 => (U.bin .neq e5 e8).bind fun t9 => U.asBool t9
 (some (.bool false))
 (U.asAgg x1 fun us10 => if 1 = sizes (us10.take 1) then (us10[1]?).bind fun e11 => U.asVar false 1 e11 fun e12 => U.asAgg x2 fun us13 => if 1 = sizes (us13.take 1) then (us13[1]?).bind fun e14 => U.asVar false 1 e14 fun e15 => (U.bin .neq e12 e15).bind fun t16 => U.asBool t16
 (some (.bool false))
 (some (.bool true)) else none else none) else none else none := (h.is _ rfl).trans ((runQ_V rfl).trans (by kernel_rfl))
def f38_b0 : AC :=
 (.seq (.seq (rg [oo 11 (.mv (.t 5)),
  oo 12 (.mv (.t 0)),
  oo 13 (.len false (.t 12)),
  oo 14 (.bin .lss (.t 11) (.t 13))])
 (.cond (.t 14) .skip (.exit 0)))
 (.seq (.block 1 (.seq (.region 10 [oo 17 (.mv (.t 0)),
  oo 18 (.mv (.t 5)),
  oo 19 (.iaddr 2 (.t 17) (.t 18)),
  oo 20 (.load true 2 (.t 19)),
  oo 21 (.mv (.t 1)),
  oo 22 (.mv (.t 5)),
  oo 23 (.iaddr 2 (.t 21) (.t 22)),
  oo 24 (.load true 2 (.t 23)),
  oo 25 (.call false 35 [(.t 20), (.t 24)]),
  oo 26 (.un .not (.t 25))])
 (.cond (.t 26) (.seq (rg [oo 4 (.mv (.c (.bool false)))])
 .ret) .skip)))
 (rg [oo 15 (.mv (.t 5)),
  oo 16 (.bin .add (.t 15) (ci 1)),
  oo 5 (.mv (.t 16))])))
def f38_r0 : AC :=
 (.seq (rg [oo 4 (.mv (.c (.bool true)))])
 .ret)
def f38_ac : AC :=
 (.seq (rg [oo 4 (.mv (.c (.bool false)))])
 (.seq (.seq (rg [oo 6 (.mv (.t 0)),
  oo 7 (.len false (.t 6)),
  oo 8 (.mv (.t 1)),
  oo 9 (.len false (.t 8)),
  oo 10 (.bin .neq (.t 7) (.t 9))])
 (.cond (.t 10) (.seq (rg [oo 4 (.mv (.c (.bool false)))])
 .ret) .skip))
 (.seq (.seq (rg [oo 5 (.mv (ci 0))])
 (.block 0 (.loop ⟨[0, 1, 5], [], []⟩ f38_b0)))
 f38_r0)))
noncomputable def f38_l0 (E : Env) (x0 : U) (x1 : U) (x5 : U) : Option U := loopK (roundOf E ⟨[0, 1, 5], [], []⟩ f38_b0 (blockK 0 (seqK (fun s => exec E f38_r0 s (finish [(4, none)])) (finish [(4, none)])))) ([.val x0, .val x1, .val x5], [])
theorem f38_l0_eq (E : Env) (x0 : U) (x1 : U) (x5 : U) : f38_l0 E x0 x1 x5 =
 (U.lenOf false x0).bind fun n4 => (U.bin .lss x5 (.int .i64 (n4 : Int))).bind fun t5 => U.asBool t5
 (U.asInt x5 fun n6 => U.elemAt 2 x0 n6 fun e7 => U.asVar true 2 e7 fun e8 => U.asInt x5 fun n9 => U.elemAt 2 x1 n9 fun e10 => U.asVar true 2 e10 fun e11 => (E 35 [e8, e11]).bind fun t12 => (U.un .not t12).bind fun t13 => U.asBool t13
 (some (.bool false))
 ((U.bin .add x5 (.int .i64 1)).bind fun t14 => f38_l0 E x0 x1 t14))
 (some (.bool true)) :=
 (loop_eq E _ _ _ _).trans (by kernel_rfl)
structure G_f38 (E : Env) : Prop where
  is : Is E 34 2 f38_ac [(4, none)]
  c_f37 : G_f37 E
theorem f38_E {E : Env} (h : G_f38 E) (a0 a1 : U) : E 34 [a0, a1] =
 (U.lenOf false a0).bind fun n1 => (U.lenOf false a1).bind fun n2 => (U.bin .neq (.int .i64 (n1 : Int)) (.int .i64 (n2 : Int))).bind fun t3 => U.asBool t3
 (some (.bool false))
 (f38_l0 E a0 a1 (.int .i64 0)) := (h.is _ rfl).trans ((runQ_V rfl).trans (by kernel_rfl))
def f39_ac : AC :=
 (.seq (rg [oo 2 (.box false 2 (.t 0)),
  oo 3 (.box false 3 (.t 1)),
  oo 4 (.mv (.c (.bool false)))])
 (.seq (.seq (rg [oo 5 (.faddr 0 0 (.t 2)),
  oo 6 (.load false 1 (.t 5)),
  oo 7 (.faddr 0 0 (.t 3)),
  oo 8 (.load false 1 (.t 7)),
  oo 9 (.bin .neq (.t 6) (.t 8))])
 (.cond (.t 9) (.seq (rg [oo 4 (.mv (.c (.bool false)))])
 .ret) .skip))
 (.seq (.seq (rg [oo 10 (.faddr 1 1 (.t 2)),
  oo 11 (.load false 1 (.t 10)),
  oo 12 (.faddr 1 1 (.t 3)),
  oo 13 (.load false 1 (.t 12)),
  oo 14 (.bin .neq (.t 11) (.t 13))])
 (.cond (.t 14) (.seq (rg [oo 4 (.mv (.c (.bool false)))])
 .ret) .skip))
 (.seq (rg [oo 4 (.mv (.c (.bool true)))])
 .ret))))
structure G_f39 (E : Env) : Prop where
  is : Is E 36 2 f39_ac [(4, none)]
theorem f39_E {E : Env} (h : G_f39 E) (a0 a1 : U) : E 36 [a0, a1] =
 U.noTup a0 fun x1 => U.noTup a1 fun x2 => U.asAgg x1 fun us3 => if 0 = sizes (us3.take 0) then (us3[0]?).bind fun e4 => U.asVar false 1 e4 fun e5 => U.asAgg x2 fun us6 => if 0 = sizes (us6.take 0) then (us6[0]?).bind fun e7 => U.asVar false 1 e7 fun e8 => (U.bin .neq e5 e8).bind fun t9 => U.asBool t9
 (some (.bool false))
 (U.asAgg x1 fun us10 => if 1 = sizes (us10.take 1) then (us10[1]?).bind fun e11 => U.asVar false 1 e11 fun e12 => U.asAgg x2 fun us13 => if 1 = sizes (us13.take 1) then (us13[1]?).bind fun e14 => U.asVar false 1 e14 fun e15 => (U.bin .neq e12 e15).bind fun t16 => U.asBool t16
 (some (.bool false))
 (some (.bool true)) else none else none) else none else none := (h.is _ rfl).trans ((runQ_V rfl).trans (by kernel_rfl))
def f40_b0 : AC :=
 (.seq (.seq (rg [oo 11 (.mv (.t 5)),
  oo 12 (.mv (.t 0)),
  oo 13 (.len false (.t 12)),
  oo 14 (.bin .lss (.t 11) (.t 13))])
 (.cond (.t 14) .skip (.exit 0)))
 (.seq (.block 1 (.seq (.region 10 [oo 17 (.mv (.t 0)),
  oo 18 (.mv (.t 5)),
  oo 19 (.iaddr 2 (.t 17) (.t 18)),
  oo 20 (.load true 2 (.t 19)),
  oo 21 (.mv (.t 1)),
  oo 22 (.mv (.t 5)),
  oo 23 (.iaddr 2 (.t 21) (.t 22)),
  oo 24 (.load true 2 (.t 23)),
  oo 25 (.call false 36 [(.t 20), (.t 24)]),
  oo 26 (.un .not (.t 25))])
 (.cond (.t 26) (.seq (rg [oo 4 (.mv (.c (.bool false)))])
 .ret) .skip)))
 (rg [oo 15 (.mv (.t 5)),
  oo 16 (.bin .add (.t 15) (ci 1)),
  oo 5 (.mv (.t 16))])))
def f40_r0 : AC :=
 (.seq (rg [oo 4 (.mv (.c (.bool true)))])
 .ret)
def f40_ac : AC :=
 (.seq (rg [oo 4 (.mv (.c (.bool false)))])
 (.seq (.seq (rg [oo 6 (.mv (.t 0)),
  oo 7 (.len false (.t 6)),
  oo 8 (.mv (.t 1)),
  oo 9 (.len false (.t 8)),
  oo 10 (.bin .neq (.t 7) (.t 9))])
 (.cond (.t 10) (.seq (rg [oo 4 (.mv (.c (.bool false)))])
 .ret) .skip))
 (.seq (.seq (rg [oo 5 (.mv (ci 0))])
 (.block 0 (.loop ⟨[0, 1, 5], [], []⟩ f40_b0)))
 f40_r0)))
noncomputable def f40_l0 (E : Env) (x0 : U) (x1 : U) (x5 : U) : Option U := loopK (roundOf E ⟨[0, 1, 5], [], []⟩ f40_b0 (blockK 0 (seqK (fun s => exec E f40_r0 s (finish [(4, none)])) (finish [(4, none)])))) ([.val x0, .val x1, .val x5], [])
theorem f40_l0_eq (E : Env) (x0 : U) (x1 : U) (x5 : U) : f40_l0 E x0 x1 x5 =
 (U.lenOf false x0).bind fun n4 => (U.bin .lss x5 (.int .i64 (n4 : Int))).bind fun t5 => U.asBool t5
 (U.asInt x5 fun n6 => U.elemAt 2 x0 n6 fun e7 => U.asVar true 2 e7 fun e8 => U.asInt x5 fun n9 => U.elemAt 2 x1 n9 fun e10 => U.asVar true 2 e10 fun e11 => (E 36 [e8, e11]).bind fun t12 => (U.un .not t12).bind fun t13 => U.asBool t13
 (some (.bool false))
 ((U.bin .add x5 (.int .i64 1)).bind fun t14 => f40_l0 E x0 x1 t14))
 (some (.bool true)) :=
 (loop_eq E _ _ _ _).trans (by kernel_rfl)
structure G_f40 (E : Env) : Prop where
  is : Is E 33 2 f40_ac [(4, none)]
  c_f39 : G_f39 E
theorem f40_E {E : Env} (h : G_f40 E) (a0 a1 : U) : E 33 [a0, a1] =
 (U.lenOf false a0).bind fun n1 => (U.lenOf false a1).bind fun n2 => (U.bin .neq (.int .i64 (n1 : Int)) (.int .i64 (n2 : Int))).bind fun t3 => U.asBool t3
 (some (.bool false))
 (f40_l0 E a0 a1 (.int .i64 0)) := (h.is _ rfl).trans ((runQ_V rfl).trans (by kernel_rfl))
def f34_ac : AC :=
 (.seq (rg [oo 2 (.box false 2 (.t 0)),
  oo 3 (.box false 3 (.t 1)),
  oo 4 (.mv (.c (.bool false)))])
 (.seq (.seq (rg [oo 5 (.faddr 0 0 (.t 2)),
  oo 6 (.load false 1 (.t 5)),
  oo 7 (.faddr 0 0 (.t 3)),
  oo 8 (.load false 1 (.t 7)),
  oo 9 (.bin .neq (.t 6) (.t 8))])
 (.cond (.t 9) (.seq (rg [oo 4 (.mv (.c (.bool false)))])
 .ret) .skip))
 (.seq (.seq (rg [oo 10 (.faddr 1 1 (.t 2)),
  oo 11 (.load false 1 (.t 10)),
  oo 12 (.faddr 1 1 (.t 3)),
  oo 13 (.load false 1 (.t 12)),
  oo 14 (.bin .neq (.t 11) (.t 13))])
 (.cond (.t 14) (.seq (rg [oo 4 (.mv (.c (.bool false)))])
 .ret) .skip))
 (.seq (.seq (rg [oo 15 (.faddr 2 2 (.t 2)),
  oo 16 (.load false 1 (.t 15)),
  oo 17 (.faddr 2 2 (.t 3)),
  oo 18 (.load false 1 (.t 17)),
  oo 19 (.call false 34 [(.t 16), (.t 18)]),
  oo 20 (.un .not (.t 19))])
 (.cond (.t 20) (.seq (rg [oo 4 (.mv (.c (.bool false)))])
 .ret) .skip))
 (.seq (.seq (rg [oo 21 (.faddr 3 3 (.t 2)),
  oo 22 (.load false 1 (.t 21)),
  oo 23 (.faddr 3 3 (.t 3)),
  oo 24 (.load false 1 (.t 23)),
  oo 25 (.call false 33 [(.t 22), (.t 24)]),
  oo 26 (.un .not (.t 25))])
 (.cond (.t 26) (.seq (rg [oo 4 (.mv (.c (.bool false)))])
 .ret) .skip))
 (.seq (rg [oo 4 (.mv (.c (.bool true)))])
 .ret))))))
structure G_f34 (E : Env) : Prop where
  is : Is E 56 2 f34_ac [(4, none)]
  c_f38 : G_f38 E
  c_f40 : G_f40 E
theorem f34_E {E : Env} (h : G_f34 E) (a0 a1 : U) : E 56 [a0, a1] =
 U.noTup a0 fun x1 => U.noTup a1 fun x2 => U.asAgg x1 fun us3 => if 0 = sizes (us3.take 0) then (us3[0]?).bind fun e4 => U.asVar false 1 e4 fun e5 => U.asAgg x2 fun us6 => if 0 = sizes (us6.take 0) then (us6[0]?).bind fun e7 => U.asVar false 1 e7 fun e8 => (U.bin .neq e5 e8).bind fun t9 => U.asBool t9
 (some (.bool false))
 (U.asAgg x1 fun us10 => if 1 = sizes (us10.take 1) then (us10[1]?).bind fun e11 => U.asVar false 1 e11 fun e12 => U.asAgg x2 fun us13 => if 1 = sizes (us13.take 1) then (us13[1]?).bind fun e14 => U.asVar false 1 e14 fun e15 => (U.bin .neq e12 e15).bind fun t16 => U.asBool t16
 (some (.bool false))
 (U.asAgg x1 fun us17 => if 2 = sizes (us17.take 2) then (us17[2]?).bind fun e18 => U.asVar false 1 e18 fun e19 => U.asAgg x2 fun us20 => if 2 = sizes (us20.take 2) then (us20[2]?).bind fun e21 => U.asVar false 1 e21 fun e22 => (E 34 [e19, e22]).bind fun t23 => (U.un .not t23).bind fun t24 => U.asBool t24
 (some (.bool false))
 (U.asAgg x1 fun us25 => if 3 = sizes (us25.take 3) then (us25[3]?).bind fun e26 => U.asVar false 1 e26 fun e27 => U.asAgg x2 fun us28 => if 3 = sizes (us28.take 3) then (us28[3]?).bind fun e29 => U.asVar false 1 e29 fun e30 => (E 33 [e27, e30]).bind fun t31 => (U.un .not t31).bind fun t32 => U.asBool t32
 (some (.bool false))
 (some (.bool true)) else none else none) else none else none) else none else none) else none else none := (h.is _ rfl).trans ((runQ_V rfl).trans (by kernel_rfl))
def f35_b0 : AC :=
 (.seq (.seq (rg [oo 11 (.mv (.t 5)),
  oo 12 (.mv (.t 0)),
  oo 13 (.len false (.t 12)),
  oo 14 (.bin .lss (.t 11) (.t 13))])
 (.cond (.t 14) .skip (.exit 0)))
 (.seq (.block 1 (.seq (.region 10 [oo 17 (.mv (.t 0)),
  oo 18 (.mv (.t 5)),
  oo 19 (.iaddr 4 (.t 17) (.t 18)),
  oo 20 (.load true 4 (.t 19)),
  oo 21 (.mv (.t 1)),
  oo 22 (.mv (.t 5)),
  oo 23 (.iaddr 4 (.t 21) (.t 22)),
  oo 24 (.load true 4 (.t 23)),
  oo 25 (.call false 56 [(.t 20), (.t 24)]),
  oo 26 (.un .not (.t 25))])
 (.cond (.t 26) (.seq (rg [oo 4 (.mv (.c (.bool false)))])
 .ret) .skip)))
 (rg [oo 15 (.mv (.t 5)),
  oo 16 (.bin .add (.t 15) (ci 1)),
  oo 5 (.mv (.t 16))])))
def f35_r0 : AC :=
 (.seq (rg [oo 4 (.mv (.c (.bool true)))])
 .ret)
def f35_ac : AC :=
 (.seq (rg [oo 4 (.mv (.c (.bool false)))])
 (.seq (.seq (rg [oo 6 (.mv (.t 0)),
  oo 7 (.len false (.t 6)),
  oo 8 (.mv (.t 1)),
  oo 9 (.len false (.t 8)),
  oo 10 (.bin .neq (.t 7) (.t 9))])
 (.cond (.t 10) (.seq (rg [oo 4 (.mv (.c (.bool false)))])
 .ret) .skip))
 (.seq (.seq (rg [oo 5 (.mv (ci 0))])
 (.block 0 (.loop ⟨[0, 1, 5], [], []⟩ f35_b0)))
 f35_r0)))
noncomputable def f35_l0 (E : Env) (x0 : U) (x1 : U) (x5 : U) : Option U := loopK (roundOf E ⟨[0, 1, 5], [], []⟩ f35_b0 (blockK 0 (seqK (fun s => exec E f35_r0 s (finish [(4, none)])) (finish [(4, none)])))) ([.val x0, .val x1, .val x5], [])
theorem f35_l0_eq (E : Env) (x0 : U) (x1 : U) (x5 : U) : f35_l0 E x0 x1 x5 =
 (U.lenOf false x0).bind fun n4 => (U.bin .lss x5 (.int .i64 (n4 : Int))).bind fun t5 => U.asBool t5
 (U.asInt x5 fun n6 => U.elemAt 4 x0 n6 fun e7 => U.asVar true 4 e7 fun e8 => U.asInt x5 fun n9 => U.elemAt 4 x1 n9 fun e10 => U.asVar true 4 e10 fun e11 => (E 56 [e8, e11]).bind fun t12 => (U.un .not t12).bind fun t13 => U.asBool t13
 (some (.bool false))
 ((U.bin .add x5 (.int .i64 1)).bind fun t14 => f35_l0 E x0 x1 t14))
 (some (.bool true)) :=
 (loop_eq E _ _ _ _).trans (by kernel_rfl)
structure G_f35 (E : Env) : Prop where
  is : Is E 46 2 f35_ac [(4, none)]
  c_f34 : G_f34 E
theorem f35_E {E : Env} (h : G_f35 E) (a0 a1 : U) : E 46 [a0, a1] =
 (U.lenOf false a0).bind fun n1 => (U.lenOf false a1).bind fun n2 => (U.bin .neq (.int .i64 (n1 : Int)) (.int .i64 (n2 : Int))).bind fun t3 => U.asBool t3
 (some (.bool false))
 (f35_l0 E a0 a1 (.int .i64 0)) := (h.is _ rfl).trans ((runQ_V rfl).trans (by kernel_rfl))
def f36_b0 : AC :=
 (.seq (.seq (rg [oo 11 (.mv (.t 5)),
  oo 12 (.mv (.t 0)),
  oo 13 (.len false (.t 12)),
  oo 14 (.bin .lss (.t 11) (.t 13))])
 (.cond (.t 14) .skip (.exit 0)))
 (.seq (.block 1 (.seq (.region 9 [oo 17 (.mv (.t 0)),
  oo 18 (.mv (.t 5)),
  oo 19 (.iaddr 1 (.t 17) (.t 18)),
  oo 20 (.load false 1 (.t 19)),
  oo 21 (.mv (.t 1)),
  oo 22 (.mv (.t 5)),
  oo 23 (.iaddr 1 (.t 21) (.t 22)),
  oo 24 (.load false 1 (.t 23)),
  oo 25 (.bin .neq (.t 20) (.t 24))])
 (.cond (.t 25) (.seq (rg [oo 4 (.mv (.c (.bool false)))])
 .ret) .skip)))
 (rg [oo 15 (.mv (.t 5)),
  oo 16 (.bin .add (.t 15) (ci 1)),
  oo 5 (.mv (.t 16))])))
def f36_r0 : AC :=
 (.seq (rg [oo 4 (.mv (.c (.bool true)))])
 .ret)
def f36_ac : AC :=
 (.seq (rg [oo 4 (.mv (.c (.bool false)))])
 (.seq (.seq (rg [oo 6 (.mv (.t 0)),
  oo 7 (.len false (.t 6)),
  oo 8 (.mv (.t 1)),
  oo 9 (.len false (.t 8)),
  oo 10 (.bin .neq (.t 7) (.t 9))])
 (.cond (.t 10) (.seq (rg [oo 4 (.mv (.c (.bool false)))])
 .ret) .skip))
 (.seq (.seq (rg [oo 5 (.mv (ci 0))])
 (.block 0 (.loop ⟨[0, 1, 5], [], []⟩ f36_b0)))
 f36_r0)))
noncomputable def f36_l0 (E : Env) (x0 : U) (x1 : U) (x5 : U) : Option U := loopK (roundOf E ⟨[0, 1, 5], [], []⟩ f36_b0 (blockK 0 (seqK (fun s => exec E f36_r0 s (finish [(4, none)])) (finish [(4, none)])))) ([.val x0, .val x1, .val x5], [])
theorem f36_l0_eq (E : Env) (x0 : U) (x1 : U) (x5 : U) : f36_l0 E x0 x1 x5 =
 (U.lenOf false x0).bind fun n4 => (U.bin .lss x5 (.int .i64 (n4 : Int))).bind fun t5 => U.asBool t5
 (U.asInt x5 fun n6 => U.elemAt 1 x0 n6 fun e7 => U.asVar false 1 e7 fun e8 => U.asInt x5 fun n9 => U.elemAt 1 x1 n9 fun e10 => U.asVar false 1 e10 fun e11 => (U.bin .neq e8 e11).bind fun t12 => U.asBool t12
 (some (.bool false))
 ((U.bin .add x5 (.int .i64 1)).bind fun t13 => f36_l0 E x0 x1 t13))
 (some (.bool true)) :=
 (loop_eq E _ _ _ _).trans (by kernel_rfl)
structure G_f36 (E : Env) : Prop where
  is : Is E 59 2 f36_ac [(4, none)]
theorem f36_E {E : Env} (h : G_f36 E) (a0 a1 : U) : E 59 [a0, a1] =
 (U.lenOf false a0).bind fun n1 => (U.lenOf false a1).bind fun n2 => (U.bin .neq (.int .i64 (n1 : Int)) (.int .i64 (n2 : Int))).bind fun t3 => U.asBool t3
 (some (.bool false))
 (f36_l0 E a0 a1 (.int .i64 0)) := (h.is _ rfl).trans ((runQ_V rfl).trans (by kernel_rfl))
def f33_ac : AC :=
 (.seq (rg [oo 4 (.mv (.c (.bool false)))])
 (.seq (.seq (rg [oo 10 (.mv (.t 1)),
  oo 11 (.len false (.t 10)),
  oo 12 (.bin .gtr (.t 11) (ci 1048576))])
 (.cond (.t 12) (.seq (rg [oo 4 (.mv (.c (.bool true)))])
 .ret) .skip))
 (.seq (rg [oo 5 (.mv (ci 1048576))])
 (.seq (rg [oo 13 (.mv (.t 0)),
  oo 14 (.mv (.t 5)),
  oo 15 (.call false 49 [(.t 13), (.t 14)]),
  oo 5 (.mv (.t 15))])
 (.seq (.seq (rg [oo 16 (.mv (.t 5)),
  oo 17 (.bin .lss (.t 16) (ci 0))])
 (.cond (.t 17) (.seq (rg [oo 4 (.mv (.c (.bool true)))])
 .ret) .skip))
 (.seq (rg [oo 18 (.mv (.t 0)),
  oo 19 (.call false 45 [(.t 18)]),
  oo 20 (.mv (.t 1)),
  oo 21 (.call false 58 [(.t 20)]),
  oo 22 (.call false 439 [(.t 19), (.t 21)]),
  oo 6 (.mv (.t 22))])
 (.seq (rg [oo 23 (.mv (.t 0)),
  oo 24 (.call false 45 [(.t 23)]),
  oo 7 (.mv (.t 24))])
 (.seq (rg [oo 25 (.mv (.t 1)),
  oo 26 (.call false 58 [(.t 25)]),
  oo 8 (.mv (.t 26))])
 (.seq (rg [oo 27 (.mv (.t 7)),
  oo 28 (.mv (.t 8)),
  oo 29 (.call false 438 [(.t 27), (.t 28)]),
  oo 9 (.mv (.t 29))])
 (.seq (.seq (rg [oo 30 (.mv (.t 9)),
  oo 31 (.mv (.t 6)),
  oo 32 (.bin .neq (.t 30) (.t 31))])
 (.cond (.t 32) (.seq (rg [oo 4 (.mv (.c (.bool false)))])
 .ret) .skip))
 (.seq (.seq (rg [oo 33 (.mv (.t 7)),
  oo 34 (.mv (.t 0)),
  oo 35 (.call false 45 [(.t 34)]),
  oo 36 (.call false 46 [(.t 33), (.t 35)]),
  oo 37 (.un .not (.t 36))])
 (.cond (.t 37) (.seq (rg [oo 4 (.mv (.c (.bool false)))])
 .ret) .skip))
 (.seq (.seq (rg [oo 38 (.mv (.t 8)),
  oo 39 (.mv (.t 1)),
  oo 40 (.call false 58 [(.t 39)]),
  oo 41 (.call false 59 [(.t 38), (.t 40)]),
  oo 42 (.un .not (.t 41))])
 (.cond (.t 42) (.seq (rg [oo 4 (.mv (.c (.bool false)))])
 .ret) .skip))
 (.seq (rg [oo 4 (.mv (.c (.bool true)))])
 .ret)))))))))))))
structure G_f33 (E : Env) : Prop where
  is : Is E 437 2 f33_ac [(4, none)]
  c_f42 : G_f42 E
  c_f65 : G_f65 E
  c_f46 : G_f46 E
  c_f47 : G_f47 E
  c_f6 : G_f6 E
  c_f35 : G_f35 E
  c_f36 : G_f36 E
theorem f33_E {E : Env} (h : G_f33 E) (a0 a1 : U) : E 437 [a0, a1] =
 (U.lenOf false a1).bind fun n1 => (U.bin .gtr (.int .i64 (n1 : Int)) (.int .i64 1048576)).bind fun t2 => U.asBool t2
 (some (.bool true))
 ((E 49 [a0, (.int .i64 1048576)]).bind fun t3 => (U.bin .lss t3 (.int .i64 0)).bind fun t4 => U.asBool t4
 (some (.bool true))
 ((E 45 [a0]).bind fun t5 => (E 58 [a1]).bind fun t6 => (E 439 [t5, t6]).bind fun t7 => (E 45 [a0]).bind fun t8 => (E 58 [a1]).bind fun t9 => (E 438 [t8, t9]).bind fun t10 => (U.bin .neq t10 t7).bind fun t11 => U.asBool t11
 (some (.bool false))
 ((E 45 [a0]).bind fun t12 => (E 46 [t8, t12]).bind fun t13 => (U.un .not t13).bind fun t14 => U.asBool t14
 (some (.bool false))
 ((E 58 [a1]).bind fun t15 => (E 59 [t9, t15]).bind fun t16 => (U.un .not t16).bind fun t17 => U.asBool t17
 (some (.bool false))
 (some (.bool true)))))) := (h.is _ rfl).trans ((runQ_V rfl).trans (by kernel_rfl))
end Go.Proofs.Ytlgblpngiamhaaa.Am
