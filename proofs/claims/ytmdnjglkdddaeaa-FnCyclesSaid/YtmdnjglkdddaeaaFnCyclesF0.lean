import Derived.KernelRfl
import Derived.Test.YtmdnjglkdddaeaaAmW
namespace Go.Proofs.Ytmdnjglkdddaeaa.Am
open Go
set_option linter.unusedVariables false
set_option maxRecDepth 100000
def f18_ac : AC :=
 (.seq (rg [oo 2 (.mv (.c (.bool false)))])
 (.seq (rg [oo 3 (.mv (.t 0)),
  oo 4 (.len false (.t 3)),
  oo 5 (.bin .gtr (.t 4) (ci 1048576)),
  oo 2 (.mv (.t 5))])
 .ret))
structure G_f18 (E : Env) : Prop where
  is : Is E 413 1 f18_ac [(2, none)]
theorem f18_E {E : Env} (h : G_f18 E) (a0 : U) : E 413 [a0] =
 (U.lenOf false a0).bind fun n1 => (U.bin .gtr (.int .i64 (n1 : Int)) (.int .i64 1048576)).bind fun t2 => some t2 := (h.is _ rfl).trans ((runQ_V rfl).trans (by kernel_rfl))
def f34_ac : AC :=
 (.seq (rg [oo 2 (.box false 2 (.t 0)),
  oo 3 (.box false 3 (.t 1)),
  oo 4 (.mv (.c (.bool false)))])
 (.seq (.seq (rg [oo 5 (.faddr 0 0 (.t 2)),
  oo 6 (.load false 1 (.t 5)),
  oo 7 (.faddr 0 0 (.t 3)),
  oo 8 (.load false 1 (.t 7)),
  oo 9 (.bin .neq (.t 6) (.t 8))])
 (.cond (.t 9) (.seq (rg [oo 10 (.faddr 0 0 (.t 2)),
  oo 11 (.load false 1 (.t 10)),
  oo 12 (.faddr 0 0 (.t 3)),
  oo 13 (.load false 1 (.t 12)),
  oo 14 (.bin .lss (.t 11) (.t 13)),
  oo 4 (.mv (.t 14))])
 .ret) .skip))
 (.seq (.seq (rg [oo 15 (.faddr 1 1 (.t 2)),
  oo 16 (.load false 1 (.t 15)),
  oo 17 (.faddr 1 1 (.t 3)),
  oo 18 (.load false 1 (.t 17)),
  oo 19 (.bin .neq (.t 16) (.t 18))])
 (.cond (.t 19) (.seq (rg [oo 20 (.faddr 1 1 (.t 2)),
  oo 21 (.load false 1 (.t 20)),
  oo 22 (.faddr 1 1 (.t 3)),
  oo 23 (.load false 1 (.t 22)),
  oo 24 (.bin .lss (.t 21) (.t 23)),
  oo 4 (.mv (.t 24))])
 .ret) .skip))
 (.seq (.seq (rg [oo 25 (.faddr 2 2 (.t 2)),
  oo 26 (.load false 1 (.t 25)),
  oo 27 (.faddr 2 2 (.t 3)),
  oo 28 (.load false 1 (.t 27)),
  oo 29 (.bin .neq (.t 26) (.t 28))])
 (.cond (.t 29) (.seq (rg [oo 30 (.faddr 2 2 (.t 2)),
  oo 31 (.load false 1 (.t 30)),
  oo 32 (.faddr 2 2 (.t 3)),
  oo 33 (.load false 1 (.t 32)),
  oo 34 (.bin .lss (.t 31) (.t 33)),
  oo 4 (.mv (.t 34))])
 .ret) .skip))
 (.seq (rg [oo 35 (.faddr 3 3 (.t 2)),
  oo 36 (.load false 1 (.t 35)),
  oo 37 (.faddr 3 3 (.t 3)),
  oo 38 (.load false 1 (.t 37)),
  oo 39 (.bin .lss (.t 36) (.t 38)),
  oo 4 (.mv (.t 39))])
 .ret)))))
structure G_f34 (E : Env) : Prop where
  is : Is E 7 2 f34_ac [(4, none)]
theorem f34_E {E : Env} (h : G_f34 E) (a0 a1 : U) : E 7 [a0, a1] =
 U.noTup a0 fun x1 => U.noTup a1 fun x2 => U.asAgg x1 fun us3 => if 0 = sizes (us3.take 0) then (us3[0]?).bind fun e4 => U.asVar false 1 e4 fun e5 => U.asAgg x2 fun us6 => if 0 = sizes (us6.take 0) then (us6[0]?).bind fun e7 => U.asVar false 1 e7 fun e8 => (U.bin .neq e5 e8).bind fun t9 => U.asBool t9
 (U.asAgg x1 fun us10 => if 0 = sizes (us10.take 0) then (us10[0]?).bind fun e11 => U.asVar false 1 e11 fun e12 => U.asAgg x2 fun us13 => if 0 = sizes (us13.take 0) then (us13[0]?).bind fun e14 => U.asVar false 1 e14 fun e15 => (U.bin .lss e12 e15).bind fun t16 => some t16 else none else none)
 (U.asAgg x1 fun us17 => if 1 = sizes (us17.take 1) then (us17[1]?).bind fun e18 => U.asVar false 1 e18 fun e19 => U.asAgg x2 fun us20 => if 1 = sizes (us20.take 1) then (us20[1]?).bind fun e21 => U.asVar false 1 e21 fun e22 => (U.bin .neq e19 e22).bind fun t23 => U.asBool t23
 (U.asAgg x1 fun us24 => if 1 = sizes (us24.take 1) then (us24[1]?).bind fun e25 => U.asVar false 1 e25 fun e26 => U.asAgg x2 fun us27 => if 1 = sizes (us27.take 1) then (us27[1]?).bind fun e28 => U.asVar false 1 e28 fun e29 => (U.bin .lss e26 e29).bind fun t30 => some t30 else none else none)
 (U.asAgg x1 fun us31 => if 2 = sizes (us31.take 2) then (us31[2]?).bind fun e32 => U.asVar false 1 e32 fun e33 => U.asAgg x2 fun us34 => if 2 = sizes (us34.take 2) then (us34[2]?).bind fun e35 => U.asVar false 1 e35 fun e36 => (U.bin .neq e33 e36).bind fun t37 => U.asBool t37
 (U.asAgg x1 fun us38 => if 2 = sizes (us38.take 2) then (us38[2]?).bind fun e39 => U.asVar false 1 e39 fun e40 => U.asAgg x2 fun us41 => if 2 = sizes (us41.take 2) then (us41[2]?).bind fun e42 => U.asVar false 1 e42 fun e43 => (U.bin .lss e40 e43).bind fun t44 => some t44 else none else none)
 (U.asAgg x1 fun us45 => if 3 = sizes (us45.take 3) then (us45[3]?).bind fun e46 => U.asVar false 1 e46 fun e47 => U.asAgg x2 fun us48 => if 3 = sizes (us48.take 3) then (us48[3]?).bind fun e49 => U.asVar false 1 e49 fun e50 => (U.bin .lss e47 e50).bind fun t51 => some t51 else none else none) else none else none) else none else none) else none else none := (h.is _ rfl).trans ((runQ_V rfl).trans (by kernel_rfl))
def f35_b0 : AC :=
 (.seq (.seq (.region 12 [oo 22 (.mv (.t 5)),
  oo 23 (.mv (.t 0)),
  oo 24 (.len false (.t 23)),
  oo 25 (.bin .lss (.t 22) (.t 24)),
  oo 26 (.mv (.t 25)),
  ⟨some 27, .mv (.t 0), some (26, true)⟩,
  ⟨some 28, .mv (.t 5), some (26, true)⟩,
  ⟨some 29, .iaddr 4 (.t 27) (.t 28), some (26, true)⟩,
  ⟨some 30, .load true 4 (.t 29), some (26, true)⟩,
  ⟨some 31, .load true 4 (.t 3), some (26, true)⟩,
  ⟨some 32, .call false 7 [(.t 30), (.t 31)], some (26, true)⟩,
  oo 33 (.pick (.t 26) (.t 32) (.c (.bool false)))])
 (.cond (.t 33) .skip (.exit 0)))
 (.block 1 (rg [oo 34 (.mv (.t 5)),
  oo 35 (.bin .add (.t 34) (ci 1)),
  oo 5 (.mv (.t 35))])))
def f35_r0 : AC :=
 (.seq (.seq (.region 12 [oo 36 (.mv (.t 5)),
  oo 37 (.mv (.t 0)),
  oo 38 (.len false (.t 37)),
  oo 39 (.bin .lss (.t 36) (.t 38)),
  oo 40 (.mv (.t 39)),
  ⟨some 41, .mv (.t 0), some (40, true)⟩,
  ⟨some 42, .mv (.t 5), some (40, true)⟩,
  ⟨some 43, .iaddr 4 (.t 41) (.t 42), some (40, true)⟩,
  ⟨some 44, .load true 4 (.t 43), some (40, true)⟩,
  ⟨some 45, .load true 4 (.t 3), some (40, true)⟩,
  ⟨some 46, .eqv false 6 (.t 44) (.t 45), some (40, true)⟩,
  oo 47 (.pick (.t 40) (.t 46) (.c (.bool false)))])
 (.cond (.t 47) (.seq (rg [oo 48 (.mv (.t 0)),
  oo 4 (.mv (.t 48))])
 .ret) .skip))
 (.seq (.regC 11 [49, 53, 56] [oo 49 (.bslice 1 49 4 0 (.agg [(.int .i64 0), (.int .i64 0), (.int .i64 0), (.int .i64 0)]) []),
  oo 50 (.mv (.t 0)),
  oo 51 (.mv (.t 5)),
  oo 52 (.slice false 4 (.t 50) none (some (.t 51))),
  oo 53 (.append false 53 4 32 (.t 49) (.t 52)),
  oo 54 (.load true 4 (.t 3)),
  oo 55 (.bslice 0 55 4 1 (.agg [(.int .i64 0), (.int .i64 0), (.int .i64 0), (.int .i64 0)]) [(0, (.t 54))]),
  oo 56 (.append false 56 4 32 (.t 53) (.t 55)),
  oo 57 (.mv (.t 0)),
  oo 58 (.mv (.t 5)),
  oo 59 (.slice false 4 (.t 57) (some (.t 58)) none),
  oo 60 (.append false 60 4 32 (.t 56) (.t 59)),
  oo 4 (.mv (.t 60))])
 .ret))
def f35_ac : AC :=
 (.seq (rg [oo 3 (.box true 3 (.t 1)),
  oo 4 (.mv (.c (.nsl 4)))])
 (.seq (.seq (rg [oo 6 (.faddr 0 0 (.t 3)),
  oo 7 (.load false 1 (.t 6)),
  oo 8 (.bin .eql (.t 7) (ci 0)),
  oo 9 (.mv (.t 8)),
  ⟨some 10, .faddr 1 1 (.t 3), some (9, false)⟩,
  ⟨some 11, .load false 1 (.t 10), some (9, false)⟩,
  ⟨some 12, .bin .eql (.t 11) (ci 0), some (9, false)⟩,
  oo 13 (.pick (.t 9) (.c (.bool true)) (.t 12)),
  oo 14 (.mv (.t 13)),
  ⟨some 15, .faddr 0 0 (.t 3), some (14, false)⟩,
  ⟨some 16, .load false 1 (.t 15), some (14, false)⟩,
  ⟨some 17, .faddr 1 1 (.t 3), some (14, false)⟩,
  ⟨some 18, .load false 1 (.t 17), some (14, false)⟩,
  ⟨some 19, .bin .eql (.t 16) (.t 18), some (14, false)⟩,
  oo 20 (.pick (.t 14) (.c (.bool true)) (.t 19))])
 (.cond (.t 20) (.seq (rg [oo 21 (.mv (.t 0)),
  oo 4 (.mv (.t 21))])
 .ret) .skip))
 (.seq (rg [oo 5 (.mv (ci 0))])
 (.seq (.block 0 (.loop ⟨[0, 3, 5], [], [(5000, false)]⟩ f35_b0))
 f35_r0))))
noncomputable def f35_l0 (E : Env) (x3 : U) (x5 : U) (b5000 : List U) : Option U := loopK (roundOf E ⟨[0, 3, 5], [], [(5000, false)]⟩ f35_b0 (blockK 0 (seqK (fun s => exec E f35_r0 s (finishF [(4, none)])) (finishF [(4, none)])))) ([.ref 5000 [] 4 none, .val x3, .val x5], [.vir (.own (.sl 4 b5000))])
theorem f35_l0_eq (E : Env) (x3 : U) (x5 : U) (b5000 : List U) : f35_l0 E x3 x5 b5000 =
 (U.bin .lss x5 (.int .i64 (b5000.length : Int))).bind fun t13 => U.asBool t13
 (U.asInt x5 fun n14 => if 4 = 4 ∧ 0 ≤ n14 ∧ n14 < (b5000.length : Int) then (b5000[(n14 : Int).toNat]?).bind fun e15 => U.asVar true 4 e15 fun e16 => if (e16 : U).flat = true then U.asVp x3 fun v17 => U.asVar true 4 v17 fun e18 => (E 7 [e16, e18]).bind fun t19 => U.asBool t19
 ((U.bin .add x5 (.int .i64 1)).bind fun t20 => f35_l0 E x3 t20 b5000)
 ((U.bin .lss x5 (.int .i64 (b5000.length : Int))).bind fun t21 => U.asBool t21
 (U.asInt x5 fun n22 => if 4 = 4 ∧ 0 ≤ n22 ∧ n22 < (b5000.length : Int) then (b5000[(n22 : Int).toNat]?).bind fun e23 => U.asVar true 4 e23 fun e24 => if (e24 : U).flat = true then U.asVp x3 fun v25 => U.asVar true 4 v25 fun e26 => (U.eqv 6 e24 e26).bind fun q27 => U.asBool (.bool q27)
 (some (.sl 4 b5000))
 (U.asInt x5 fun n28 => if false = false ∧ 4 = 4 ∧ 0 ≤ (0 : Int) ∧ (0 : Int) ≤ (n28) ∧ (n28) ≤ ((b5000.length : Nat) : Int) then U.asVp x3 fun v29 => U.asVar true 4 v29 fun e30 => if partable (.val e30) = true ∧ e30.size = 4 then U.asInt x5 fun n31 => if false = false ∧ 4 = 4 ∧ 0 ≤ (n31) ∧ (n31) ≤ ((b5000.length : Nat) : Int) ∧ ((b5000.length : Nat) : Int) ≤ ((b5000.length : Nat) : Int) then if 4 = 4 ∧ U.flat.flats b5000 = true then if ((0 : Int) : Int).toNat + (((n28) : Int).toNat - ((0 : Int) : Int).toNat) ≤ ((b5000 : List U)).length then if 4 = 4 ∧ 4 = 4 ∧ ((([] : List U)).length + (((((b5000 : List U)).drop ((0 : Int) : Int).toNat).take (((n28) : Int).toNat - ((0 : Int) : Int).toNat)) : List U).length) * 32 ≤ 140737488355328 then if 4 = 4 ∧ 4 = 4 ∧ (((([] : List U) ++ ((((b5000 : List U)).drop ((0 : Int) : Int).toNat).take (((n28) : Int).toNat - ((0 : Int) : Int).toNat)))).length + ([e30] : List U).length) * 32 ≤ 140737488355328 then if 4 = 4 ∧ U.flat.flats b5000 = true then if ((n31) : Int).toNat + ((((b5000.length : Nat) : Int) : Int).toNat - ((n31) : Int).toNat) ≤ ((b5000 : List U)).length then if 4 = 4 ∧ 4 = 4 ∧ ((((([] : List U) ++ ((((b5000 : List U)).drop ((0 : Int) : Int).toNat).take (((n28) : Int).toNat - ((0 : Int) : Int).toNat))) ++ ([e30] : List U))).length + (((((b5000 : List U)).drop ((n31) : Int).toNat).take ((((b5000.length : Nat) : Int) : Int).toNat - ((n31) : Int).toNat)) : List U).length) * 32 ≤ 140737488355328 then if U.flat.flats (((([] : List U) ++ ((((b5000 : List U)).drop ((0 : Int) : Int).toNat).take (((n28) : Int).toNat - ((0 : Int) : Int).toNat))) ++ ([e30] : List U)) ++ ((((b5000 : List U)).drop ((n31) : Int).toNat).take ((((b5000.length : Nat) : Int) : Int).toNat - ((n31) : Int).toNat))) = true then some (.sl 4 (((([] : List U) ++ ((((b5000 : List U)).drop ((0 : Int) : Int).toNat).take (((n28) : Int).toNat - ((0 : Int) : Int).toNat))) ++ ([e30] : List U)) ++ ((((b5000 : List U)).drop ((n31) : Int).toNat).take ((((b5000.length : Nat) : Int) : Int).toNat - ((n31) : Int).toNat)))) else none else none else none else none else none else none else none else none else none else none else none) else none else none)
 (U.asInt x5 fun n32 => if false = false ∧ 4 = 4 ∧ 0 ≤ (0 : Int) ∧ (0 : Int) ≤ (n32) ∧ (n32) ≤ ((b5000.length : Nat) : Int) then U.asVp x3 fun v33 => U.asVar true 4 v33 fun e34 => if partable (.val e34) = true ∧ e34.size = 4 then U.asInt x5 fun n35 => if false = false ∧ 4 = 4 ∧ 0 ≤ (n35) ∧ (n35) ≤ ((b5000.length : Nat) : Int) ∧ ((b5000.length : Nat) : Int) ≤ ((b5000.length : Nat) : Int) then if 4 = 4 ∧ U.flat.flats b5000 = true then if ((0 : Int) : Int).toNat + (((n32) : Int).toNat - ((0 : Int) : Int).toNat) ≤ ((b5000 : List U)).length then if 4 = 4 ∧ 4 = 4 ∧ ((([] : List U)).length + (((((b5000 : List U)).drop ((0 : Int) : Int).toNat).take (((n32) : Int).toNat - ((0 : Int) : Int).toNat)) : List U).length) * 32 ≤ 140737488355328 then if 4 = 4 ∧ 4 = 4 ∧ (((([] : List U) ++ ((((b5000 : List U)).drop ((0 : Int) : Int).toNat).take (((n32) : Int).toNat - ((0 : Int) : Int).toNat)))).length + ([e34] : List U).length) * 32 ≤ 140737488355328 then if 4 = 4 ∧ U.flat.flats b5000 = true then if ((n35) : Int).toNat + ((((b5000.length : Nat) : Int) : Int).toNat - ((n35) : Int).toNat) ≤ ((b5000 : List U)).length then if 4 = 4 ∧ 4 = 4 ∧ ((((([] : List U) ++ ((((b5000 : List U)).drop ((0 : Int) : Int).toNat).take (((n32) : Int).toNat - ((0 : Int) : Int).toNat))) ++ ([e34] : List U))).length + (((((b5000 : List U)).drop ((n35) : Int).toNat).take ((((b5000.length : Nat) : Int) : Int).toNat - ((n35) : Int).toNat)) : List U).length) * 32 ≤ 140737488355328 then if U.flat.flats (((([] : List U) ++ ((((b5000 : List U)).drop ((0 : Int) : Int).toNat).take (((n32) : Int).toNat - ((0 : Int) : Int).toNat))) ++ ([e34] : List U)) ++ ((((b5000 : List U)).drop ((n35) : Int).toNat).take ((((b5000.length : Nat) : Int) : Int).toNat - ((n35) : Int).toNat))) = true then some (.sl 4 (((([] : List U) ++ ((((b5000 : List U)).drop ((0 : Int) : Int).toNat).take (((n32) : Int).toNat - ((0 : Int) : Int).toNat))) ++ ([e34] : List U)) ++ ((((b5000 : List U)).drop ((n35) : Int).toNat).take ((((b5000.length : Nat) : Int) : Int).toNat - ((n35) : Int).toNat)))) else none else none else none else none else none else none else none else none else none else none else none)) else none else none)
 ((U.bin .lss x5 (.int .i64 (b5000.length : Int))).bind fun t36 => U.asBool t36
 (U.asInt x5 fun n37 => if 4 = 4 ∧ 0 ≤ n37 ∧ n37 < (b5000.length : Int) then (b5000[(n37 : Int).toNat]?).bind fun e38 => U.asVar true 4 e38 fun e39 => if (e39 : U).flat = true then U.asVp x3 fun v40 => U.asVar true 4 v40 fun e41 => (U.eqv 6 e39 e41).bind fun q42 => U.asBool (.bool q42)
 (some (.sl 4 b5000))
 (U.asInt x5 fun n43 => if false = false ∧ 4 = 4 ∧ 0 ≤ (0 : Int) ∧ (0 : Int) ≤ (n43) ∧ (n43) ≤ ((b5000.length : Nat) : Int) then U.asVp x3 fun v44 => U.asVar true 4 v44 fun e45 => if partable (.val e45) = true ∧ e45.size = 4 then U.asInt x5 fun n46 => if false = false ∧ 4 = 4 ∧ 0 ≤ (n46) ∧ (n46) ≤ ((b5000.length : Nat) : Int) ∧ ((b5000.length : Nat) : Int) ≤ ((b5000.length : Nat) : Int) then if 4 = 4 ∧ U.flat.flats b5000 = true then if ((0 : Int) : Int).toNat + (((n43) : Int).toNat - ((0 : Int) : Int).toNat) ≤ ((b5000 : List U)).length then if 4 = 4 ∧ 4 = 4 ∧ ((([] : List U)).length + (((((b5000 : List U)).drop ((0 : Int) : Int).toNat).take (((n43) : Int).toNat - ((0 : Int) : Int).toNat)) : List U).length) * 32 ≤ 140737488355328 then if 4 = 4 ∧ 4 = 4 ∧ (((([] : List U) ++ ((((b5000 : List U)).drop ((0 : Int) : Int).toNat).take (((n43) : Int).toNat - ((0 : Int) : Int).toNat)))).length + ([e45] : List U).length) * 32 ≤ 140737488355328 then if 4 = 4 ∧ U.flat.flats b5000 = true then if ((n46) : Int).toNat + ((((b5000.length : Nat) : Int) : Int).toNat - ((n46) : Int).toNat) ≤ ((b5000 : List U)).length then if 4 = 4 ∧ 4 = 4 ∧ ((((([] : List U) ++ ((((b5000 : List U)).drop ((0 : Int) : Int).toNat).take (((n43) : Int).toNat - ((0 : Int) : Int).toNat))) ++ ([e45] : List U))).length + (((((b5000 : List U)).drop ((n46) : Int).toNat).take ((((b5000.length : Nat) : Int) : Int).toNat - ((n46) : Int).toNat)) : List U).length) * 32 ≤ 140737488355328 then if U.flat.flats (((([] : List U) ++ ((((b5000 : List U)).drop ((0 : Int) : Int).toNat).take (((n43) : Int).toNat - ((0 : Int) : Int).toNat))) ++ ([e45] : List U)) ++ ((((b5000 : List U)).drop ((n46) : Int).toNat).take ((((b5000.length : Nat) : Int) : Int).toNat - ((n46) : Int).toNat))) = true then some (.sl 4 (((([] : List U) ++ ((((b5000 : List U)).drop ((0 : Int) : Int).toNat).take (((n43) : Int).toNat - ((0 : Int) : Int).toNat))) ++ ([e45] : List U)) ++ ((((b5000 : List U)).drop ((n46) : Int).toNat).take ((((b5000.length : Nat) : Int) : Int).toNat - ((n46) : Int).toNat)))) else none else none else none else none else none else none else none else none else none else none else none) else none else none)
 (U.asInt x5 fun n47 => if false = false ∧ 4 = 4 ∧ 0 ≤ (0 : Int) ∧ (0 : Int) ≤ (n47) ∧ (n47) ≤ ((b5000.length : Nat) : Int) then U.asVp x3 fun v48 => U.asVar true 4 v48 fun e49 => if partable (.val e49) = true ∧ e49.size = 4 then U.asInt x5 fun n50 => if false = false ∧ 4 = 4 ∧ 0 ≤ (n50) ∧ (n50) ≤ ((b5000.length : Nat) : Int) ∧ ((b5000.length : Nat) : Int) ≤ ((b5000.length : Nat) : Int) then if 4 = 4 ∧ U.flat.flats b5000 = true then if ((0 : Int) : Int).toNat + (((n47) : Int).toNat - ((0 : Int) : Int).toNat) ≤ ((b5000 : List U)).length then if 4 = 4 ∧ 4 = 4 ∧ ((([] : List U)).length + (((((b5000 : List U)).drop ((0 : Int) : Int).toNat).take (((n47) : Int).toNat - ((0 : Int) : Int).toNat)) : List U).length) * 32 ≤ 140737488355328 then if 4 = 4 ∧ 4 = 4 ∧ (((([] : List U) ++ ((((b5000 : List U)).drop ((0 : Int) : Int).toNat).take (((n47) : Int).toNat - ((0 : Int) : Int).toNat)))).length + ([e49] : List U).length) * 32 ≤ 140737488355328 then if 4 = 4 ∧ U.flat.flats b5000 = true then if ((n50) : Int).toNat + ((((b5000.length : Nat) : Int) : Int).toNat - ((n50) : Int).toNat) ≤ ((b5000 : List U)).length then if 4 = 4 ∧ 4 = 4 ∧ ((((([] : List U) ++ ((((b5000 : List U)).drop ((0 : Int) : Int).toNat).take (((n47) : Int).toNat - ((0 : Int) : Int).toNat))) ++ ([e49] : List U))).length + (((((b5000 : List U)).drop ((n50) : Int).toNat).take ((((b5000.length : Nat) : Int) : Int).toNat - ((n50) : Int).toNat)) : List U).length) * 32 ≤ 140737488355328 then if U.flat.flats (((([] : List U) ++ ((((b5000 : List U)).drop ((0 : Int) : Int).toNat).take (((n47) : Int).toNat - ((0 : Int) : Int).toNat))) ++ ([e49] : List U)) ++ ((((b5000 : List U)).drop ((n50) : Int).toNat).take ((((b5000.length : Nat) : Int) : Int).toNat - ((n50) : Int).toNat))) = true then some (.sl 4 (((([] : List U) ++ ((((b5000 : List U)).drop ((0 : Int) : Int).toNat).take (((n47) : Int).toNat - ((0 : Int) : Int).toNat))) ++ ([e49] : List U)) ++ ((((b5000 : List U)).drop ((n50) : Int).toNat).take ((((b5000.length : Nat) : Int) : Int).toNat - ((n50) : Int).toNat)))) else none else none else none else none else none else none else none else none else none else none else none)) :=
 (loop_eq E _ _ _ _).trans (by kernel_rfl)
structure G_f35 (E : Env) : Prop where
  is : Is E 300356 2 f35_ac [(4, none)]
  c_f34 : G_f34 E
theorem f35_E {E : Env} (h : G_f35 E) (xs0 : List U) (a1 : U) : E 300356 (.agg [.tup [.sl 4 xs0]] :: [a1]) =
 U.noTup a1 fun x1 => U.fieldAt 0 0 x1 fun f2 => U.asVar false 1 f2 fun e3 => (U.bin .eql e3 (.int .i64 0)).bind fun t4 => U.asBool t4
 (some (.sl 4 xs0))
 (U.fieldAt 1 1 x1 fun f5 => U.asVar false 1 f5 fun e6 => (U.bin .eql e6 (.int .i64 0)).bind fun t7 => U.asBool t7
 (some (.sl 4 xs0))
 (U.fieldAt 0 0 x1 fun f8 => U.asVar false 1 f8 fun e9 => U.fieldAt 1 1 x1 fun f10 => U.asVar false 1 f10 fun e11 => (U.bin .eql e9 e11).bind fun t12 => U.asBool t12
 (some (.sl 4 xs0))
 (f35_l0 E (.vp x1) (.int .i64 0) xs0))) := (h.is _ rfl).trans ((runQ_C rfl).trans (by kernel_rfl))
def f37_ac : AC :=
 (.seq (rg [oo 2 (.mv (ci 0))])
 (.seq (rg [oo 4 (.mv (.t 0)),
  oo 5 (.mv (.t 0)),
  oo 6 (.nilck (.t 5)),
  oo 7 (.faddr 2 2 (.t 6)),
  oo 8 (.load false 1 (.t 7)),
  oo 9 (.bin .mul (.t 8) (ci 6364136223846793005)),
  oo 10 (.bin .add (.t 9) (ci 1442695040888963407)),
  oo 11 (.nilck (.t 4)),
  oo 12 (.faddr 2 2 (.t 11)),
  ⟨none, .store 1 (.t 12) (.t 10), none⟩])
 (.seq (.region 13 [oo 13 (.mv (.t 0)),
  oo 14 (.nilck (.t 13)),
  oo 15 (.faddr 2 2 (.t 14)),
  oo 16 (.load false 1 (.t 15)),
  oo 17 (.bin .shr (.t 16) (.c (.int .u64 33))),
  oo 18 (.mv (.t 0)),
  oo 19 (.nilck (.t 18)),
  oo 20 (.faddr 2 2 (.t 19)),
  oo 21 (.load false 1 (.t 20)),
  oo 22 (.bin .shr (.t 21) (.c (.int .u64 45))),
  oo 23 (.bin .xor (.t 17) (.t 22)),
  oo 24 (.bin .and (.t 23) (ci 255)),
  oo 3 (.mv (.t 24))])
 (.seq (.seq (.region 10 [oo 25 (.mv (.t 0)),
  oo 26 (.nilck (.t 25)),
  oo 27 (.faddr 1 1 (.t 26)),
  oo 28 (.load false 1 (.t 27)),
  oo 29 (.mv (.t 0)),
  oo 30 (.nilck (.t 29)),
  oo 31 (.faddr 0 0 (.t 30)),
  oo 32 (.load false 1 (.t 31)),
  oo 33 (.len false (.t 32)),
  oo 34 (.bin .lss (.t 28) (.t 33))])
 (.cond (.t 34) (.seq (.region 15 [oo 35 (.mv (.t 3)),
  oo 36 (.mv (.t 0)),
  oo 37 (.nilck (.t 36)),
  oo 38 (.faddr 0 0 (.t 37)),
  oo 39 (.load false 1 (.t 38)),
  oo 40 (.mv (.t 0)),
  oo 41 (.nilck (.t 40)),
  oo 42 (.faddr 1 1 (.t 41)),
  oo 43 (.load false 1 (.t 42)),
  oo 44 (.iaddr 1 (.t 39) (.t 43)),
  oo 45 (.load false 1 (.t 44)),
  oo 46 (.conv .i64 (.t 45)),
  oo 47 (.bin .add (.t 35) (.t 46)),
  oo 48 (.bin .and (.t 47) (ci 255)),
  oo 3 (.mv (.t 48))])
 (rg [oo 49 (.mv (.t 0)),
  oo 50 (.mv (.t 0)),
  oo 51 (.nilck (.t 50)),
  oo 52 (.faddr 1 1 (.t 51)),
  oo 53 (.load false 1 (.t 52)),
  oo 54 (.bin .add (.t 53) (ci 1)),
  oo 55 (.nilck (.t 49)),
  oo 56 (.faddr 1 1 (.t 55)),
  ⟨none, .store 1 (.t 56) (.t 54), none⟩])) .skip))
 (.seq (rg [oo 57 (.mv (.t 3)),
  oo 2 (.mv (.t 57))])
 .ret)))))
structure G_f37 (E : Env) : Prop where
  is : Is E 400418 1 f37_ac [(2, none)]
theorem f37_E {E : Env} (h : G_f37 E) (s0_ : List U) (n1_ : Int) (n2_ : Int) : E 400418 (.agg [.tup [(.vp (.agg [(.sl 1 s0_), (.int .i64 n1_), (.int .i64 n2_)]))]] :: []) =
 (U.bin .mul (.int .i64 n2_) (.int .i64 6364136223846793005)).bind fun t1 => (U.bin .add t1 (.int .i64 1442695040888963407)).bind fun t2 => if storable (.val t2) = true ∧ t2.size = 1 then U.asVar false 1 t2 fun e3 => (U.bin .shr e3 (.int .u64 33)).bind fun t4 => U.asVar false 1 t2 fun e5 => (U.bin .shr e5 (.int .u64 45)).bind fun t6 => (U.bin .xor t4 t6).bind fun t7 => (U.bin .and t7 (.int .i64 255)).bind fun t8 => (U.lenOf false (.sl 1 s0_)).bind fun n9 => (U.bin .lss (.int .i64 n1_) (.int .i64 (n9 : Int))).bind fun t10 => U.asBool t10
 (U.elemAt 1 (.sl 1 s0_) n1_ fun e11 => U.asVar false 1 e11 fun e12 => (U.conv .i64 e12).bind fun t13 => (U.bin .add t8 t13).bind fun t14 => (U.bin .and t14 (.int .i64 255)).bind fun t15 => (U.bin .add (.int .i64 n1_) (.int .i64 1)).bind fun t16 => if storable (.val t16) = true ∧ t16.size = 1 then some (.tup [t15, (.vp (.agg [(.sl 1 s0_), t16, t2]))]) else none)
 (some (.tup [t8, (.vp (.agg [(.sl 1 s0_), (.int .i64 n1_), t2]))])) else none := (h.is _ rfl).trans ((runQ_P rfl).trans (by kernel_rfl))
def f36_ac : AC :=
 (.seq (rg [oo 4 (.mv (ci 0))])
 (.seq (.seq (rg [oo 9 (.mv (.t 1)),
  oo 10 (.bin .leq (.t 9) (ci 0))])
 (.cond (.t 10) (.seq (rg [oo 4 (.mv (ci 0))])
 .ret) .skip))
 (.seq (.seq (rg [oo 11 (.mv (.t 1)),
  oo 12 (.bin .leq (.t 11) (ci 256))])
 (.cond (.t 12) (.seq (rg [oo 13 (.mv (.t 0)),
  oo 14 (.callP (.agg [(.sl 1), .int, .int]) 418 (.t 13) []),
  oo 15 (.mv (.t 1)),
  oo 16 (.bin .rem (.t 14) (.t 15)),
  oo 4 (.mv (.t 16))])
 .ret) .skip))
 (.seq (rg [oo 17 (.mv (.t 0)),
  oo 18 (.callP (.agg [(.sl 1), .int, .int]) 418 (.t 17) []),
  oo 5 (.mv (.t 18))])
 (.seq (rg [oo 19 (.mv (.t 0)),
  oo 20 (.callP (.agg [(.sl 1), .int, .int]) 418 (.t 19) []),
  oo 6 (.mv (.t 20))])
 (.seq (rg [oo 21 (.mv (.t 0)),
  oo 22 (.callP (.agg [(.sl 1), .int, .int]) 418 (.t 21) []),
  oo 7 (.mv (.t 22))])
 (.seq (rg [oo 23 (.mv (.t 0)),
  oo 24 (.callP (.agg [(.sl 1), .int, .int]) 418 (.t 23) []),
  oo 8 (.mv (.t 24))])
 (.seq (rg [oo 25 (.mv (.t 5)),
  oo 26 (.bin .mul (.t 25) (ci 16777216)),
  oo 27 (.mv (.t 6)),
  oo 28 (.bin .mul (.t 27) (ci 65536)),
  oo 29 (.bin .add (.t 26) (.t 28)),
  oo 30 (.mv (.t 7)),
  oo 31 (.bin .mul (.t 30) (ci 256)),
  oo 32 (.bin .add (.t 29) (.t 31)),
  oo 33 (.mv (.t 8)),
  oo 34 (.bin .add (.t 32) (.t 33)),
  oo 35 (.mv (.t 1)),
  oo 36 (.bin .rem (.t 34) (.t 35)),
  oo 4 (.mv (.t 36))])
 .ret))))))))
structure G_f36 (E : Env) : Prop where
  is : Is E 400416 2 f36_ac [(4, none)]
  c_f37 : G_f37 E
theorem f36_E {E : Env} (h : G_f36 E) (s0_ : List U) (n1_ : Int) (n2_ : Int) (a1 : U) : E 400416 (.agg [.tup [(.vp (.agg [(.sl 1 s0_), (.int .i64 n1_), (.int .i64 n2_)]))]] :: [a1]) =
 (U.bin .leq a1 (.int .i64 0)).bind fun t1 => U.asBool t1
 (some (.tup [(.int .i64 0), (.vp (.agg [(.sl 1 s0_), (.int .i64 n1_), (.int .i64 n2_)]))]))
 ((U.bin .leq a1 (.int .i64 256)).bind fun t2 => U.asBool t2
 ((E 400418 (.agg [.tup [(.vp (.agg [(.sl 1 s0_), (.int .i64 n1_), (.int .i64 n2_)]))]] :: [])).bind fun t3 => U.asPtr t3 fun y4 z5 => U.asVp z5 fun v8 => U.asAgg v8 fun us7 => (match us7 with
 | u9 :: us10 => (U.asSlK 1 u9 fun us11 => (match us10 with
 | u12 :: us13 => (U.asInt u12 fun n14 => (match us13 with
 | u15 :: us16 => (U.asInt u15 fun n17 => (match us16 with
 | [] => ((U.bin .rem y4 a1).bind fun t18 => some (.tup [t18, (.vp (.agg [(.sl 1 us11), (.int .i64 n14), (.int .i64 n17)]))]))
 | _ => none))
 | [] => none))
 | [] => none))
 | [] => none))
 ((E 400418 (.agg [.tup [(.vp (.agg [(.sl 1 s0_), (.int .i64 n1_), (.int .i64 n2_)]))]] :: [])).bind fun t19 => U.asPtr t19 fun y20 z21 => U.asVp z21 fun v24 => U.asAgg v24 fun us23 => (match us23 with
 | u25 :: us26 => (U.asSlK 1 u25 fun us27 => (match us26 with
 | u28 :: us29 => (U.asInt u28 fun n30 => (match us29 with
 | u31 :: us32 => (U.asInt u31 fun n33 => (match us32 with
 | [] => ((E 400418 (.agg [.tup [(.vp (.agg [(.sl 1 us27), (.int .i64 n30), (.int .i64 n33)]))]] :: [])).bind fun t34 => U.asPtr t34 fun y35 z36 => U.asVp z36 fun v39 => U.asAgg v39 fun us38 => (match us38 with
 | u40 :: us41 => (U.asSlK 1 u40 fun us42 => (match us41 with
 | u43 :: us44 => (U.asInt u43 fun n45 => (match us44 with
 | u46 :: us47 => (U.asInt u46 fun n48 => (match us47 with
 | [] => ((E 400418 (.agg [.tup [(.vp (.agg [(.sl 1 us42), (.int .i64 n45), (.int .i64 n48)]))]] :: [])).bind fun t49 => U.asPtr t49 fun y50 z51 => U.asVp z51 fun v54 => U.asAgg v54 fun us53 => (match us53 with
 | u55 :: us56 => (U.asSlK 1 u55 fun us57 => (match us56 with
 | u58 :: us59 => (U.asInt u58 fun n60 => (match us59 with
 | u61 :: us62 => (U.asInt u61 fun n63 => (match us62 with
 | [] => ((E 400418 (.agg [.tup [(.vp (.agg [(.sl 1 us57), (.int .i64 n60), (.int .i64 n63)]))]] :: [])).bind fun t64 => U.asPtr t64 fun y65 z66 => U.asVp z66 fun v69 => U.asAgg v69 fun us68 => (match us68 with
 | u70 :: us71 => (U.asSlK 1 u70 fun us72 => (match us71 with
 | u73 :: us74 => (U.asInt u73 fun n75 => (match us74 with
 | u76 :: us77 => (U.asInt u76 fun n78 => (match us77 with
 | [] => ((U.bin .mul y20 (.int .i64 16777216)).bind fun t79 => (U.bin .mul y35 (.int .i64 65536)).bind fun t80 => (U.bin .add t79 t80).bind fun t81 => (U.bin .mul y50 (.int .i64 256)).bind fun t82 => (U.bin .add t81 t82).bind fun t83 => (U.bin .add t83 y65).bind fun t84 => (U.bin .rem t84 a1).bind fun t85 => some (.tup [t85, (.vp (.agg [(.sl 1 us72), (.int .i64 n75), (.int .i64 n78)]))]))
 | _ => none))
 | [] => none))
 | [] => none))
 | [] => none))
 | _ => none))
 | [] => none))
 | [] => none))
 | [] => none))
 | _ => none))
 | [] => none))
 | [] => none))
 | [] => none))
 | _ => none))
 | [] => none))
 | [] => none))
 | [] => none))) := (h.is _ rfl).trans ((runQ_P rfl).trans (by kernel_rfl))
def f39_ac : AC :=
 (.seq (rg [oo 4 (.mv (.c (.bool false)))])
 (.seq (rg [oo 5 (.mv (.t 0)),
  oo 6 (.mv (.t 1)),
  oo 7 (.callP (.agg [(.sl 1), .int, .int]) 416 (.t 5) [(.t 6)]),
  oo 8 (.bin .eql (.t 7) (ci 0)),
  oo 4 (.mv (.t 8))])
 .ret))
structure G_f39 (E : Env) : Prop where
  is : Is E 400417 2 f39_ac [(4, none)]
  c_f36 : G_f36 E
theorem f39_E {E : Env} (h : G_f39 E) (s0_ : List U) (n1_ : Int) (n2_ : Int) (a1 : U) : E 400417 (.agg [.tup [(.vp (.agg [(.sl 1 s0_), (.int .i64 n1_), (.int .i64 n2_)]))]] :: [a1]) =
 (E 400416 (.agg [.tup [(.vp (.agg [(.sl 1 s0_), (.int .i64 n1_), (.int .i64 n2_)]))]] :: [a1])).bind fun t1 => U.asPtr t1 fun y2 z3 => U.asVp z3 fun v6 => U.asAgg v6 fun us5 => (match us5 with
 | u7 :: us8 => (U.asSlK 1 u7 fun us9 => (match us8 with
 | u10 :: us11 => (U.asInt u10 fun n12 => (match us11 with
 | u13 :: us14 => (U.asInt u13 fun n15 => (match us14 with
 | [] => ((U.bin .eql y2 (.int .i64 0)).bind fun t16 => some (.tup [t16, (.vp (.agg [(.sl 1 us9), (.int .i64 n12), (.int .i64 n15)]))]))
 | _ => none))
 | [] => none))
 | [] => none))
 | [] => none) := (h.is _ rfl).trans ((runQ_P rfl).trans (by kernel_rfl))
def f33_b0 : AC :=
 (.seq (.seq (rg [oo 8 (.mv (.t 4)),
  oo 9 (.bin .gtr (.t 8) (ci 0))])
 (.cond (.t 9) .skip (.exit 0)))
 (.seq (.block 1 (rg [oo 12 (.mv (.t 3)),
  oo 13 (.mv (.t 0)),
  oo 14 (.callP (.agg [(.sl 1), .int, .int]) 416 (.t 13) [(ci 5)]),
  oo 15 (.bin .add (ci 1) (.t 14)),
  oo 16 (.mv (.t 0)),
  oo 17 (.callP (.agg [(.sl 1), .int, .int]) 416 (.t 16) [(ci 5)]),
  oo 18 (.bin .add (ci 1) (.t 17)),
  oo 19 (.mv (.t 0)),
  oo 20 (.callP (.agg [(.sl 1), .int, .int]) 416 (.t 19) [(ci 3)]),
  oo 21 (.bin .add (ci 1) (.t 20)),
  oo 22 (.mv (.t 0)),
  oo 23 (.callP (.agg [(.sl 1), .int, .int]) 416 (.t 22) [(ci 3)]),
  oo 24 (.build [(.int .i64 0), (.int .i64 0), (.int .i64 0), (.int .i64 0)] [(0, (.t 15)), (1, (.t 18)), (2, (.t 21)), (3, (.t 23))]),
  oo 25 (.callC 25 4 356 (.t 12) [(.t 24)]),
  oo 3 (.mv (.t 25))]))
 (rg [oo 10 (.mv (.t 4)),
  oo 11 (.bin .sub (.t 10) (ci 1)),
  oo 4 (.mv (.t 11))])))
def f33_r0 : AC :=
 (.seq (.seq (rg [oo 26 (.mv (.t 0)),
  oo 27 (.callP (.agg [(.sl 1), .int, .int]) 417 (.t 26) [(ci 14)])])
 (.cond (.t 27) (rg [oo 28 (.mv (.t 3)),
  oo 29 (.mv (.t 0)),
  oo 30 (.callP (.agg [(.sl 1), .int, .int]) 416 (.t 29) [(ci 11)]),
  oo 31 (.mv (.t 0)),
  oo 32 (.callP (.agg [(.sl 1), .int, .int]) 416 (.t 31) [(ci 11)]),
  oo 33 (.mv (.t 0)),
  oo 34 (.callP (.agg [(.sl 1), .int, .int]) 416 (.t 33) [(ci 5)]),
  oo 35 (.mv (.t 0)),
  oo 36 (.callP (.agg [(.sl 1), .int, .int]) 416 (.t 35) [(ci 7)]),
  oo 37 (.build [(.int .i64 0), (.int .i64 0), (.int .i64 0), (.int .i64 0)] [(0, (.t 30)), (1, (.t 32)), (2, (.t 34)), (3, (.t 36))]),
  oo 38 (.bslice 0 38 4 1 (.agg [(.int .i64 0), (.int .i64 0), (.int .i64 0), (.int .i64 0)]) [(0, (.t 37))]),
  oo 39 (.append false 39 4 32 (.t 28) (.t 38)),
  oo 3 (.mv (.t 39))]) .skip))
 (.seq (rg [oo 40 (.mv (.t 3)),
  oo 2 (.mv (.t 40))])
 .ret))
def f33_ac : AC :=
 (.seq (rg [oo 2 (.mv (.c (.nsl 4)))])
 (.seq (rg [oo 5 (.bslice 1 5 4 0 (.agg [(.int .i64 0), (.int .i64 0), (.int .i64 0), (.int .i64 0)]) []),
  oo 3 (.mv (.t 5))])
 (.seq (.seq (rg [oo 6 (.mv (.t 0)),
  oo 7 (.callP (.agg [(.sl 1), .int, .int]) 416 (.t 6) [(ci 8)]),
  oo 4 (.mv (.t 7))])
 (.block 0 (.loop ⟨[0, 4], [(3, 4, true)], [(5000, false)]⟩ f33_b0)))
 f33_r0)))
noncomputable def f33_l0 (E : Env) (x4 : U) (c3 : List U) (b5000_0 : U) (b5000_1 : U) (b5000_2 : U) : Option U := loopK (roundOf E ⟨[0, 4], [(3, 4, true)], [(5000, false)]⟩ f33_b0 (blockK 0 (seqK (fun s => exec E f33_r0 s (finishP [(2, none)])) (finishP [(2, none)])))) ([.ptr 5000 [], .val x4], [.vir (.own (.sl 4 c3)), .box (.agg [.val b5000_0, .val b5000_1, .val b5000_2])])
theorem f33_l0_eq (E : Env) (x4 : U) (c3 : List U) (b5000_0 : U) (b5000_1 : U) (b5000_2 : U) : f33_l0 E x4 c3 b5000_0 b5000_1 b5000_2 =
 (U.bin .gtr x4 (.int .i64 0)).bind fun t16 => U.asBool t16
 ((E 400416 (.agg [.tup [(.vp (.agg [b5000_0, b5000_1, b5000_2]))]] :: [(.int .i64 5)])).bind fun t17 => U.asPtr t17 fun y18 z19 => U.asVp z19 fun v22 => U.asAgg v22 fun us21 => (match us21 with
 | u23 :: us24 => (U.asSlK 1 u23 fun us25 => (match us24 with
 | u26 :: us27 => (U.asInt u26 fun n28 => (match us27 with
 | u29 :: us30 => (U.asInt u29 fun n31 => (match us30 with
 | [] => ((U.bin .add (.int .i64 1) y18).bind fun t32 => (E 400416 (.agg [.tup [(.vp (.agg [(.sl 1 us25), (.int .i64 n28), (.int .i64 n31)]))]] :: [(.int .i64 5)])).bind fun t33 => U.asPtr t33 fun y34 z35 => U.asVp z35 fun v38 => U.asAgg v38 fun us37 => (match us37 with
 | u39 :: us40 => (U.asSlK 1 u39 fun us41 => (match us40 with
 | u42 :: us43 => (U.asInt u42 fun n44 => (match us43 with
 | u45 :: us46 => (U.asInt u45 fun n47 => (match us46 with
 | [] => ((U.bin .add (.int .i64 1) y34).bind fun t48 => (E 400416 (.agg [.tup [(.vp (.agg [(.sl 1 us41), (.int .i64 n44), (.int .i64 n47)]))]] :: [(.int .i64 3)])).bind fun t49 => U.asPtr t49 fun y50 z51 => U.asVp z51 fun v54 => U.asAgg v54 fun us53 => (match us53 with
 | u55 :: us56 => (U.asSlK 1 u55 fun us57 => (match us56 with
 | u58 :: us59 => (U.asInt u58 fun n60 => (match us59 with
 | u61 :: us62 => (U.asInt u61 fun n63 => (match us62 with
 | [] => ((U.bin .add (.int .i64 1) y50).bind fun t64 => (E 400416 (.agg [.tup [(.vp (.agg [(.sl 1 us57), (.int .i64 n60), (.int .i64 n63)]))]] :: [(.int .i64 3)])).bind fun t65 => U.asPtr t65 fun y66 z67 => U.asVp z67 fun v70 => U.asAgg v70 fun us69 => (match us69 with
 | u71 :: us72 => (U.asSlK 1 u71 fun us73 => (match us72 with
 | u74 :: us75 => (U.asInt u74 fun n76 => (match us75 with
 | u77 :: us78 => (U.asInt u77 fun n79 => (match us78 with
 | [] => (if partable (.val t32) = true ∧ t32.size = 1 then if partable (.val t48) = true ∧ t48.size = 1 then if partable (.val t64) = true ∧ t64.size = 1 then if partable (.val y66) = true ∧ y66.size = 1 then (E 300356 (.agg [.tup [.sl 4 c3]] :: [(.agg [t32, t48, t64, y66])])).bind fun t80 => U.asSlK 4 t80 fun us81 => (U.bin .sub x4 (.int .i64 1)).bind fun t82 => f33_l0 E t82 us81 (.sl 1 us73) (.int .i64 n76) (.int .i64 n79) else none else none else none else none)
 | _ => none))
 | [] => none))
 | [] => none))
 | [] => none))
 | _ => none))
 | [] => none))
 | [] => none))
 | [] => none))
 | _ => none))
 | [] => none))
 | [] => none))
 | [] => none))
 | _ => none))
 | [] => none))
 | [] => none))
 | [] => none))
 ((E 400417 (.agg [.tup [(.vp (.agg [b5000_0, b5000_1, b5000_2]))]] :: [(.int .i64 14)])).bind fun t83 => U.asPtr t83 fun y84 z85 => U.asVp z85 fun v88 => U.asAgg v88 fun us87 => (match us87 with
 | u89 :: us90 => (U.asSlK 1 u89 fun us91 => (match us90 with
 | u92 :: us93 => (U.asInt u92 fun n94 => (match us93 with
 | u95 :: us96 => (U.asInt u95 fun n97 => (match us96 with
 | [] => (U.asBool y84
 ((E 400416 (.agg [.tup [(.vp (.agg [(.sl 1 us91), (.int .i64 n94), (.int .i64 n97)]))]] :: [(.int .i64 11)])).bind fun t98 => U.asPtr t98 fun y99 z100 => U.asVp z100 fun v103 => U.asAgg v103 fun us102 => (match us102 with
 | u104 :: us105 => (U.asSlK 1 u104 fun us106 => (match us105 with
 | u107 :: us108 => (U.asInt u107 fun n109 => (match us108 with
 | u110 :: us111 => (U.asInt u110 fun n112 => (match us111 with
 | [] => ((E 400416 (.agg [.tup [(.vp (.agg [(.sl 1 us106), (.int .i64 n109), (.int .i64 n112)]))]] :: [(.int .i64 11)])).bind fun t113 => U.asPtr t113 fun y114 z115 => U.asVp z115 fun v118 => U.asAgg v118 fun us117 => (match us117 with
 | u119 :: us120 => (U.asSlK 1 u119 fun us121 => (match us120 with
 | u122 :: us123 => (U.asInt u122 fun n124 => (match us123 with
 | u125 :: us126 => (U.asInt u125 fun n127 => (match us126 with
 | [] => ((E 400416 (.agg [.tup [(.vp (.agg [(.sl 1 us121), (.int .i64 n124), (.int .i64 n127)]))]] :: [(.int .i64 5)])).bind fun t128 => U.asPtr t128 fun y129 z130 => U.asVp z130 fun v133 => U.asAgg v133 fun us132 => (match us132 with
 | u134 :: us135 => (U.asSlK 1 u134 fun us136 => (match us135 with
 | u137 :: us138 => (U.asInt u137 fun n139 => (match us138 with
 | u140 :: us141 => (U.asInt u140 fun n142 => (match us141 with
 | [] => ((E 400416 (.agg [.tup [(.vp (.agg [(.sl 1 us136), (.int .i64 n139), (.int .i64 n142)]))]] :: [(.int .i64 7)])).bind fun t143 => U.asPtr t143 fun y144 z145 => U.asVp z145 fun v148 => U.asAgg v148 fun us147 => (match us147 with
 | u149 :: us150 => (U.asSlK 1 u149 fun us151 => (match us150 with
 | u152 :: us153 => (U.asInt u152 fun n154 => (match us153 with
 | u155 :: us156 => (U.asInt u155 fun n157 => (match us156 with
 | [] => (if partable (.val y99) = true ∧ y99.size = 1 then if partable (.val y114) = true ∧ y114.size = 1 then if partable (.val y129) = true ∧ y129.size = 1 then if partable (.val y144) = true ∧ y144.size = 1 then if partable (.val (.agg [y99, y114, y129, y144])) = true ∧ ((.agg [y99, y114, y129, y144]) : U).size = 4 then if 4 = 4 ∧ U.flat.flats [(.agg [y99, y114, y129, y144])] = true ∧ ((c3).length + ([(.agg [y99, y114, y129, y144])] : List U).length) * 32 ≤ 140737488355328 then some (.tup [(.sl 4 (c3 ++ [(.agg [y99, y114, y129, y144])])), (.vp (.agg [(.sl 1 us151), (.int .i64 n154), (.int .i64 n157)]))]) else none else none else none else none else none else none)
 | _ => none))
 | [] => none))
 | [] => none))
 | [] => none))
 | _ => none))
 | [] => none))
 | [] => none))
 | [] => none))
 | _ => none))
 | [] => none))
 | [] => none))
 | [] => none))
 | _ => none))
 | [] => none))
 | [] => none))
 | [] => none))
 (some (.tup [(.sl 4 c3), (.vp (.agg [(.sl 1 us91), (.int .i64 n94), (.int .i64 n97)]))])))
 | _ => none))
 | [] => none))
 | [] => none))
 | [] => none)) :=
 (loop_eq E _ _ _ _).trans (by kernel_rfl)
structure G_f33 (E : Env) : Prop where
  is : Is E 400415 1 f33_ac [(2, none)]
  c_f35 : G_f35 E
  c_f36 : G_f36 E
  c_f39 : G_f39 E
theorem f33_E {E : Env} (h : G_f33 E) (s0_ : List U) (n1_ : Int) (n2_ : Int) : E 400415 (.agg [.tup [(.vp (.agg [(.sl 1 s0_), (.int .i64 n1_), (.int .i64 n2_)]))]] :: []) =
 (E 400416 (.agg [.tup [(.vp (.agg [(.sl 1 s0_), (.int .i64 n1_), (.int .i64 n2_)]))]] :: [(.int .i64 8)])).bind fun t1 => U.asPtr t1 fun y2 z3 => U.asVp z3 fun v6 => U.asAgg v6 fun us5 => (match us5 with
 | u7 :: us8 => (U.asSlK 1 u7 fun us9 => (match us8 with
 | u10 :: us11 => (U.asInt u10 fun n12 => (match us11 with
 | u13 :: us14 => (U.asInt u13 fun n15 => (match us14 with
 | [] => (if U.flat.flats ([] : List U) = true then f33_l0 E y2 ([] : List U) (.sl 1 us9) (.int .i64 n12) (.int .i64 n15) else none)
 | _ => none))
 | [] => none))
 | [] => none))
 | [] => none) := (h.is _ rfl).trans ((runQ_P rfl).trans (by kernel_rfl))
def f27_i0_b0 : AC :=
 (.seq (.seq (rg [oo 14 (.mv (.t 10)),
  oo 15 (.mv (.t 6)),
  oo 16 (.len false (.t 15)),
  oo 17 (.bin .lss (.t 14) (.t 16)),
  oo 18 (.mv (.t 17)),
  ⟨some 19, .mv (.t 10), some (18, true)⟩,
  ⟨some 20, .bin .lss (.t 19) (ci 4000), some (18, true)⟩,
  oo 21 (.pick (.t 18) (.t 20) (.c (.bool false)))])
 (.cond (.t 21) .skip (.exit 0)))
 (.seq (.block 1 (rg [oo 24 (.mv (.t 9)),
  oo 25 (.bin .mul (.t 24) (ci 131)),
  oo 26 (.mv (.t 6)),
  oo 27 (.mv (.t 10)),
  oo 28 (.iaddr 1 (.t 26) (.t 27)),
  oo 29 (.load false 1 (.t 28)),
  oo 30 (.conv .i64 (.t 29)),
  oo 31 (.bin .add (.t 25) (.t 30)),
  oo 32 (.bin .add (.t 31) (ci 7)),
  oo 33 (.bin .and (.t 32) (ci 1073741823)),
  oo 9 (.mv (.t 33))]))
 (rg [oo 22 (.mv (.t 10)),
  oo 23 (.bin .add (.t 22) (ci 1)),
  oo 10 (.mv (.t 23))])))
def f27_i0_r0 : AC :=
 (.seq (rg [oo 34 (.mv (.t 6)),
  oo 35 (.mv (.t 9)),
  oo 36 (.build [(.nsl 1), (.int .i64 0), (.int .i64 0)] [(0, (.t 34)), (2, (.t 35))]),
  oo 37 (.box false 37 (.t 36)),
  oo 8 (.mv (.t 37))])
 .ret)
def f27_r0 : AC :=
 (rg [oo 5 (.callP (.agg [(.sl 1), .int, .int]) 415 (.t 4) []),
  oo 2 (.mv (.t 5))])
def f27_r1 : AC :=
 .ret
def f27_ac : AC :=
 (.seq (rg [oo 2 (.mv (.c (.nsl 4)))])
 (.seq (.regI 0 [oo 3 (.mv (.t 0))] ⟨some 4, 6, 32, 414, [(.t 3)], [2]⟩ (.seq (rg [oo 8 (.mv (.c .nil))])
 (.seq (rg [oo 11 (.mv (.t 6)),
  oo 12 (.len false (.t 11)),
  oo 13 (.bin .add (ci 10101) (.t 12)),
  oo 9 (.mv (.t 13))])
 (.seq (.seq (rg [oo 10 (.mv (ci 0))])
 (.block 0 (.loop ⟨[6, 9, 10], [], []⟩ f27_i0_b0)))
 f27_i0_r0))) f27_r0)
 f27_r1))
noncomputable def f27_i0_l0 (E : Env) (x6 : U) (x9 : U) (x10 : U) : Option U := loopK (roundOf E ⟨[6, 9, 10], [], []⟩ f27_i0_b0 (blockK 0 (seqK (fun s => exec E f27_i0_r0 s (Inl.leave ⟨some 4, 6, 32, 414, [(.t 3)], [2]⟩ fun s => exec E f27_r0 s (seqK (fun s => exec E f27_r1 s (finish [(2, none)])) (finish [(2, none)])))) (Inl.leave ⟨some 4, 6, 32, 414, [(.t 3)], [2]⟩ fun s => exec E f27_r0 s (seqK (fun s => exec E f27_r1 s (finish [(2, none)])) (finish [(2, none)])))))) ([.val x6, .val x9, .val x10], [])
theorem f27_i0_l0_eq (E : Env) (x6 : U) (x9 : U) (x10 : U) : f27_i0_l0 E x6 x9 x10 =
 (U.lenOf false x6).bind fun n3 => (U.bin .lss x10 (.int .i64 (n3 : Int))).bind fun t4 => U.asBool t4
 ((U.bin .lss x10 (.int .i64 4000)).bind fun t5 => U.asBool t5
 ((U.bin .mul x9 (.int .i64 131)).bind fun t6 => U.asInt x10 fun n7 => U.elemAt 1 x6 n7 fun e8 => U.asVar false 1 e8 fun e9 => (U.conv .i64 e9).bind fun t10 => (U.bin .add t6 t10).bind fun t11 => (U.bin .add t11 (.int .i64 7)).bind fun t12 => (U.bin .and t12 (.int .i64 1073741823)).bind fun t13 => (U.bin .add x10 (.int .i64 1)).bind fun t14 => f27_i0_l0 E x6 t13 t14)
 (if partable (.val x6) = true ∧ x6.size = 1 then if partable (.val x9) = true ∧ x9.size = 1 then (E 400415 (.agg [.tup [(.vp (.agg [x6, (.int .i64 0), x9]))]] :: [])).bind fun t15 => U.asPtr t15 fun y16 z17 => U.asVp z17 fun v20 => U.asAgg v20 fun us19 => (match us19 with
 | u21 :: us22 => (U.asSlK 1 u21 fun us23 => (match us22 with
 | u24 :: us25 => (U.asInt u24 fun n26 => (match us25 with
 | u27 :: us28 => (U.asInt u27 fun n29 => (match us28 with
 | [] => (some y16)
 | _ => none))
 | [] => none))
 | [] => none))
 | [] => none) else none else none))
 (if partable (.val x6) = true ∧ x6.size = 1 then if partable (.val x9) = true ∧ x9.size = 1 then (E 400415 (.agg [.tup [(.vp (.agg [x6, (.int .i64 0), x9]))]] :: [])).bind fun t30 => U.asPtr t30 fun y31 z32 => U.asVp z32 fun v35 => U.asAgg v35 fun us34 => (match us34 with
 | u36 :: us37 => (U.asSlK 1 u36 fun us38 => (match us37 with
 | u39 :: us40 => (U.asInt u39 fun n41 => (match us40 with
 | u42 :: us43 => (U.asInt u42 fun n44 => (match us43 with
 | [] => (some y31)
 | _ => none))
 | [] => none))
 | [] => none))
 | [] => none) else none else none) :=
 (loop_eq E _ _ _ _).trans (by kernel_rfl)
structure G_f27 (E : Env) : Prop where
  is : Is E 412 1 f27_ac [(2, none)]
  c_f33 : G_f33 E
theorem f27_E {E : Env} (h : G_f27 E) (a0 : U) : E 412 [a0] =
 (U.lenOf false a0).bind fun n1 => (U.bin .add (.int .i64 10101) (.int .i64 (n1 : Int))).bind fun t2 => f27_i0_l0 E a0 t2 (.int .i64 0) := (h.is _ rfl).trans ((runQ_V rfl).trans (by kernel_rfl))
def f14_ac : AC :=
 (.seq (rg [oo 6 (.mv (.c (.bool false)))])
 (.seq (rg [oo 7 (.mv (.t 1)),
  oo 8 (.mv (.t 0)),
  oo 9 (.bin .leq (.t 7) (.t 8)),
  oo 10 (.mv (.t 9)),
  ⟨some 11, .mv (.t 0), some (10, true)⟩,
  ⟨some 12, .mv (.t 2), some (10, true)⟩,
  ⟨some 13, .bin .leq (.t 11) (.t 12), some (10, true)⟩,
  oo 14 (.pick (.t 10) (.t 13) (.c (.bool false))),
  oo 6 (.mv (.t 14))])
 .ret))
structure G_f14 (E : Env) : Prop where
  is : Is E 10 3 f14_ac [(6, none)]
theorem f14_E {E : Env} (h : G_f14 E) (a0 a1 a2 : U) : E 10 [a0, a1, a2] =
 (U.bin .leq a1 a0).bind fun t1 => U.asBool t1
 ((U.bin .leq a0 a2).bind fun t2 => some t2)
 (some (.bool false)) := (h.is _ rfl).trans ((runQ_V rfl).trans (by kernel_rfl))
def f15_ac : AC :=
 (.seq (rg [oo 2 (.mv (.c (.bool false)))])
 (.seq (rg [oo 3 (.mv (.t 0)),
  oo 4 (.call false 10 [(.t 3), (ci 1), (ci 9)]),
  oo 2 (.mv (.t 4))])
 .ret))
structure G_f15 (E : Env) : Prop where
  is : Is E 9 1 f15_ac [(2, none)]
  c_f14 : G_f14 E
theorem f15_E {E : Env} (h : G_f15 E) (a0 : U) : E 9 [a0] =
 (E 10 [a0, (.int .i64 1), (.int .i64 9)]).bind fun t1 => some t1 := (h.is _ rfl).trans ((runQ_V rfl).trans (by kernel_rfl))
def f16_ac : AC :=
 (.seq (rg [oo 2 (.mv (.c (.bool false)))])
 (.seq (rg [oo 3 (.mv (.t 0)),
  oo 4 (.call false 10 [(.t 3), (ci 0), (ci 5)]),
  oo 2 (.mv (.t 4))])
 .ret))
structure G_f16 (E : Env) : Prop where
  is : Is E 11 1 f16_ac [(2, none)]
  c_f14 : G_f14 E
theorem f16_E {E : Env} (h : G_f16 E) (a0 : U) : E 11 [a0] =
 (E 10 [a0, (.int .i64 0), (.int .i64 5)]).bind fun t1 => some t1 := (h.is _ rfl).trans ((runQ_V rfl).trans (by kernel_rfl))
def f1_b0 : AC :=
 (.seq (rg [oo 9 (.bin .lss (.t 8) (.t 7))])
 (.seq (.cond (.t 9) .skip (.exit 0))
 (.seq (.block 1 (.seq (rg [oo 10 (.iaddr 1 (.t 6) (.t 8)),
  oo 11 (.load false 1 (.t 10)),
  oo 5 (.mv (.t 11))])
 (.seq (rg [oo 12 (.mv (.t 5)),
  oo 13 (.mv (.t 3)),
  oo 14 (.bin .neq (.t 12) (.t 13))])
 (.cond (.t 14) (.seq (rg [oo 15 (.mv (.t 5)),
  oo 2 (.mv (.t 15))])
 .ret) .skip))))
 (rg [oo 16 (.bin .add (.t 8) (ci 1)),
  oo 8 (.mv (.t 16))]))))
def f1_r0 : AC :=
 (.seq (rg [oo 17 (.mv (.t 3)),
  oo 2 (.mv (.t 17))])
 .ret)
def f1_ac : AC :=
 (.seq (rg [oo 2 (.mv (ci 0))])
 (.seq (rg [oo 3 (.mv (ci 0))])
 (.seq (.seq (rg [oo 6 (.mv (.t 0)),
  oo 7 (.len false (.t 6)),
  oo 8 (.mv (ci 0))])
 (.block 0 (.loop ⟨[3, 6, 7, 8], [], []⟩ f1_b0)))
 f1_r0)))
noncomputable def f1_l0 (E : Env) (x3 : U) (x6 : U) (x7 : U) (x8 : U) : Option U := loopK (roundOf E ⟨[3, 6, 7, 8], [], []⟩ f1_b0 (blockK 0 (seqK (fun s => exec E f1_r0 s (finish [(2, none)])) (finish [(2, none)])))) ([.val x3, .val x6, .val x7, .val x8], [])
theorem f1_l0_eq (E : Env) (x3 : U) (x6 : U) (x7 : U) (x8 : U) : f1_l0 E x3 x6 x7 x8 =
 (U.bin .lss x8 x7).bind fun t2 => U.asBool t2
 (U.asInt x8 fun n3 => U.elemAt 1 x6 n3 fun e4 => U.asVar false 1 e4 fun e5 => (U.bin .neq e5 x3).bind fun t6 => U.asBool t6
 (some e5)
 ((U.bin .add x8 (.int .i64 1)).bind fun t7 => f1_l0 E x3 x6 x7 t7))
 (some x3) :=
 (loop_eq E _ _ _ _).trans (by kernel_rfl)
structure G_f1 (E : Env) : Prop where
  is : Is E 14 1 f1_ac [(2, none)]
theorem f1_E {E : Env} (h : G_f1 E) (a0 : U) : E 14 [a0] =
 (U.lenOf false a0).bind fun n1 => f1_l0 E (.int .i64 0) a0 (.int .i64 (n1 : Int)) (.int .i64 0) := (h.is _ rfl).trans ((runQ_V rfl).trans (by kernel_rfl))
def f2_ac : AC :=
 (.seq (rg [oo 2 (.mv (.c (.bool false)))])
 (.seq (rg [oo 3 (.mv (.t 0)),
  oo 4 (.mv (.t 0)),
  oo 5 (.bin .neq (.t 3) (.t 4)),
  oo 2 (.mv (.t 5))])
 .ret))
structure G_f2 (E : Env) : Prop where
  is : Is E 15 1 f2_ac [(2, none)]
theorem f2_E {E : Env} (h : G_f2 E) (a0 : U) : E 15 [a0] =
 (U.bin .neq a0 a0).bind fun t1 => some t1 := (h.is _ rfl).trans ((runQ_V rfl).trans (by kernel_rfl))
def f0_ac : AC :=
 (.seq (rg [oo 4 (.mv (ci 0))])
 (.seq (rg [oo 7 (.mv (.t 0)),
  oo 8 (.call false 15 [(.t 7)]),
  oo 5 (.mv (.t 8))])
 (.seq (rg [oo 9 (.mv (.t 1)),
  oo 10 (.call false 15 [(.t 9)]),
  oo 6 (.mv (.t 10))])
 (.seq (.seq (rg [oo 11 (.mv (.t 5))])
 (.cond (.t 11) (.seq (.seq (rg [oo 12 (.mv (.t 6))])
 (.cond (.t 12) (.seq (rg [oo 4 (.mv (ci 0))])
 .ret) .skip))
 (.seq (rg [oo 4 (.mv (ci (-1)))])
 .ret)) .skip))
 (.seq (.seq (rg [oo 13 (.mv (.t 6))])
 (.cond (.t 13) (.seq (rg [oo 4 (.mv (ci 1))])
 .ret) .skip))
 (.seq (.seq (rg [oo 14 (.mv (.t 0)),
  oo 15 (.mv (.t 1)),
  oo 16 (.bin .lss (.t 14) (.t 15))])
 (.cond (.t 16) (.seq (rg [oo 4 (.mv (ci (-1)))])
 .ret) .skip))
 (.seq (.seq (rg [oo 17 (.mv (.t 0)),
  oo 18 (.mv (.t 1)),
  oo 19 (.bin .gtr (.t 17) (.t 18))])
 (.cond (.t 19) (.seq (rg [oo 4 (.mv (ci 1))])
 .ret) .skip))
 (.seq (rg [oo 4 (.mv (ci 0))])
 .ret))))))))
structure G_f0 (E : Env) : Prop where
  is : Is E 13 2 f0_ac [(4, none)]
  c_f2 : G_f2 E
theorem f0_E {E : Env} (h : G_f0 E) (a0 a1 : U) : E 13 [a0, a1] =
 (E 15 [a0]).bind fun t1 => (E 15 [a1]).bind fun t2 => U.asBool t1
 (U.asBool t2
 (some (.int .i64 0))
 (some (.int .i64 (-1))))
 (U.asBool t2
 (some (.int .i64 1))
 ((U.bin .lss a0 a1).bind fun t3 => U.asBool t3
 (some (.int .i64 (-1)))
 ((U.bin .gtr a0 a1).bind fun t4 => U.asBool t4
 (some (.int .i64 1))
 (some (.int .i64 0))))) := (h.is _ rfl).trans ((runQ_V rfl).trans (by kernel_rfl))
def f12_ac : AC :=
 (.seq (rg [oo 2 (.box false 2 (.t 0)),
  oo 3 (.box false 3 (.t 1)),
  oo 4 (.mv (ci 0))])
 (.seq (.region 23 [oo 5 (.faddr 0 0 (.t 2)),
  oo 6 (.load false 1 (.t 5)),
  oo 7 (.faddr 0 0 (.t 3)),
  oo 8 (.load false 1 (.t 7)),
  oo 9 (.call false 13 [(.t 6), (.t 8)]),
  oo 10 (.faddr 1 1 (.t 2)),
  oo 11 (.load false 1 (.t 10)),
  oo 12 (.faddr 1 1 (.t 3)),
  oo 13 (.load false 1 (.t 12)),
  oo 14 (.call false 13 [(.t 11), (.t 13)]),
  oo 15 (.faddr 2 2 (.t 2)),
  oo 16 (.load false 1 (.t 15)),
  oo 17 (.faddr 2 2 (.t 3)),
  oo 18 (.load false 1 (.t 17)),
  oo 19 (.call false 13 [(.t 16), (.t 18)]),
  oo 20 (.faddr 3 3 (.t 2)),
  oo 21 (.load false 1 (.t 20)),
  oo 22 (.faddr 3 3 (.t 3)),
  oo 23 (.load false 1 (.t 22)),
  oo 24 (.call false 13 [(.t 21), (.t 23)]),
  oo 25 (.bslice 0 25 1 4 (.int .i64 0) [(0, (.t 9)), (1, (.t 14)), (2, (.t 19)), (3, (.t 24))]),
  oo 26 (.call false 14 [(.t 25)]),
  oo 4 (.mv (.t 26))])
 .ret))
structure G_f12 (E : Env) : Prop where
  is : Is E 12 2 f12_ac [(4, none)]
  c_f1 : G_f1 E
  c_f0 : G_f0 E
theorem f12_E {E : Env} (h : G_f12 E) (a0 a1 : U) : E 12 [a0, a1] =
 U.noTup a0 fun x1 => U.noTup a1 fun x2 => U.asAgg x1 fun us3 => if 0 = sizes (us3.take 0) then (us3[0]?).bind fun e4 => U.asVar false 1 e4 fun e5 => U.asAgg x2 fun us6 => if 0 = sizes (us6.take 0) then (us6[0]?).bind fun e7 => U.asVar false 1 e7 fun e8 => (E 13 [e5, e8]).bind fun t9 => U.asAgg x1 fun us10 => if 1 = sizes (us10.take 1) then (us10[1]?).bind fun e11 => U.asVar false 1 e11 fun e12 => U.asAgg x2 fun us13 => if 1 = sizes (us13.take 1) then (us13[1]?).bind fun e14 => U.asVar false 1 e14 fun e15 => (E 13 [e12, e15]).bind fun t16 => U.asAgg x1 fun us17 => if 2 = sizes (us17.take 2) then (us17[2]?).bind fun e18 => U.asVar false 1 e18 fun e19 => U.asAgg x2 fun us20 => if 2 = sizes (us20.take 2) then (us20[2]?).bind fun e21 => U.asVar false 1 e21 fun e22 => (E 13 [e19, e22]).bind fun t23 => U.asAgg x1 fun us24 => if 3 = sizes (us24.take 3) then (us24[3]?).bind fun e25 => U.asVar false 1 e25 fun e26 => U.asAgg x2 fun us27 => if 3 = sizes (us27.take 3) then (us27[3]?).bind fun e28 => U.asVar false 1 e28 fun e29 => (E 13 [e26, e29]).bind fun t30 => if partable (.val t9) = true ∧ t9.size = 1 then if partable (.val t16) = true ∧ t16.size = 1 then if partable (.val t23) = true ∧ t23.size = 1 then if partable (.val t30) = true ∧ t30.size = 1 then (E 14 [(.sl 1 [t9, t16, t23, t30])]).bind fun t31 => some t31 else none else none else none else none else none else none else none else none else none else none else none else none := (h.is _ rfl).trans ((runQ_V rfl).trans (by kernel_rfl))
def f3_b0 : AC :=
 (.seq (rg [oo 8 (.bin .lss (.t 7) (.t 6))])
 (.seq (.cond (.t 8) .skip (.exit 0))
 (.seq (.block 1 (.seq (rg [oo 9 (.mv (.t 7)),
  oo 10 (.iaddr 4 (.t 5) (.t 7)),
  oo 11 (.load true 4 (.t 10)),
  oo 4 (.alloc 4 (.agg [(.int .i64 0), (.int .i64 0), (.int .i64 0), (.int .i64 0)])),
  oo 3 (.mv (.t 9)),
  ⟨none, .store 4 (.t 4) (.t 11), none⟩])
 (.seq (.region 43 [oo 12 (.faddr 0 0 (.t 4)),
  oo 13 (.load false 1 (.t 12)),
  oo 14 (.call false 9 [(.t 13)]),
  oo 15 (.un .not (.t 14)),
  oo 16 (.mv (.t 15)),
  ⟨some 17, .faddr 1 1 (.t 4), some (16, false)⟩,
  ⟨some 18, .load false 1 (.t 17), some (16, false)⟩,
  ⟨some 19, .call false 9 [(.t 18)], some (16, false)⟩,
  ⟨some 20, .un .not (.t 19), some (16, false)⟩,
  oo 21 (.pick (.t 16) (.c (.bool true)) (.t 20)),
  oo 22 (.mv (.t 21)),
  ⟨some 23, .faddr 0 0 (.t 4), some (22, false)⟩,
  ⟨some 24, .load false 1 (.t 23), some (22, false)⟩,
  ⟨some 25, .faddr 1 1 (.t 4), some (22, false)⟩,
  ⟨some 26, .load false 1 (.t 25), some (22, false)⟩,
  ⟨some 27, .bin .eql (.t 24) (.t 26), some (22, false)⟩,
  oo 28 (.pick (.t 22) (.c (.bool true)) (.t 27)),
  oo 29 (.mv (.t 28)),
  ⟨some 30, .faddr 2 2 (.t 4), some (29, false)⟩,
  ⟨some 31, .load false 1 (.t 30), some (29, false)⟩,
  ⟨some 32, .call false 10 [(.t 31), (ci 1), (ci 3)], some (29, false)⟩,
  ⟨some 33, .un .not (.t 32), some (29, false)⟩,
  oo 34 (.pick (.t 29) (.c (.bool true)) (.t 33)),
  oo 35 (.mv (.t 34)),
  ⟨some 36, .faddr 3 3 (.t 4), some (35, false)⟩,
  ⟨some 37, .load false 1 (.t 36), some (35, false)⟩,
  ⟨some 38, .call false 11 [(.t 37)], some (35, false)⟩,
  ⟨some 39, .un .not (.t 38), some (35, false)⟩,
  oo 40 (.pick (.t 35) (.c (.bool true)) (.t 39)),
  oo 41 (.mv (.t 40)),
  ⟨some 42, .mv (.t 3), some (41, false)⟩,
  ⟨some 43, .bin .gtr (.t 42) (ci 0), some (41, false)⟩,
  ⟨some 44, .mv (.t 43), some (41, false)⟩,
  ⟨some 45, .mv (.t 0), some (44, true)⟩,
  ⟨some 46, .mv (.t 3), some (44, true)⟩,
  ⟨some 47, .bin .sub (.t 46) (ci 1), some (44, true)⟩,
  ⟨some 48, .iaddr 4 (.t 45) (.t 47), some (44, true)⟩,
  ⟨some 49, .load true 4 (.t 48), some (44, true)⟩,
  ⟨some 50, .load true 4 (.t 4), some (44, true)⟩,
  ⟨some 51, .call false 12 [(.t 49), (.t 50)], some (44, true)⟩,
  ⟨some 52, .bin .geq (.t 51) (ci 0), some (44, true)⟩,
  ⟨some 53, .pick (.t 44) (.t 52) (.c (.bool false)), some (41, false)⟩,
  oo 54 (.pick (.t 41) (.c (.bool true)) (.t 53))])
 (.cond (.t 54) (.seq (rg [oo 2 (.mv (.c (.bool false)))])
 .ret) .skip))))
 (rg [oo 55 (.bin .add (.t 7) (ci 1)),
  oo 7 (.mv (.t 55))]))))
def f3_r0 : AC :=
 (.seq (rg [oo 2 (.mv (.c (.bool true)))])
 .ret)
def f3_ac : AC :=
 (.seq (rg [oo 2 (.mv (.c (.bool false)))])
 (.seq (.seq (rg [oo 5 (.mv (.t 0)),
  oo 6 (.len false (.t 5)),
  oo 7 (.mv (ci 0))])
 (.block 0 (.loop ⟨[0, 5, 6, 7], [], []⟩ f3_b0)))
 f3_r0))
noncomputable def f3_l0 (E : Env) (x0 : U) (x5 : U) (x6 : U) (x7 : U) : Option U := loopK (roundOf E ⟨[0, 5, 6, 7], [], []⟩ f3_b0 (blockK 0 (seqK (fun s => exec E f3_r0 s (finish [(2, none)])) (finish [(2, none)])))) ([.val x0, .val x5, .val x6, .val x7], [])
theorem f3_l0_eq (E : Env) (x0 : U) (x5 : U) (x6 : U) (x7 : U) : f3_l0 E x0 x5 x6 x7 =
 (U.bin .lss x7 x6).bind fun t2 => U.asBool t2
 (U.asInt x7 fun n3 => U.elemAt 4 x5 n3 fun e4 => U.asVar true 4 e4 fun e5 => if storable (.val e5) = true ∧ e5.size = 4 then U.asAgg e5 fun us6 => if 0 = sizes (us6.take 0) then (us6[0]?).bind fun e7 => U.asVar false 1 e7 fun e8 => (E 9 [e8]).bind fun t9 => (U.un .not t9).bind fun t10 => U.asBool t10
 (some (.bool false))
 (U.asAgg e5 fun us11 => if 1 = sizes (us11.take 1) then (us11[1]?).bind fun e12 => U.asVar false 1 e12 fun e13 => (E 9 [e13]).bind fun t14 => (U.un .not t14).bind fun t15 => U.asBool t15
 (some (.bool false))
 (U.asAgg e5 fun us16 => if 0 = sizes (us16.take 0) then (us16[0]?).bind fun e17 => U.asVar false 1 e17 fun e18 => U.asAgg e5 fun us19 => if 1 = sizes (us19.take 1) then (us19[1]?).bind fun e20 => U.asVar false 1 e20 fun e21 => (U.bin .eql e18 e21).bind fun t22 => U.asBool t22
 (some (.bool false))
 (U.asAgg e5 fun us23 => if 2 = sizes (us23.take 2) then (us23[2]?).bind fun e24 => U.asVar false 1 e24 fun e25 => (E 10 [e25, (.int .i64 1), (.int .i64 3)]).bind fun t26 => (U.un .not t26).bind fun t27 => U.asBool t27
 (some (.bool false))
 (U.asAgg e5 fun us28 => if 3 = sizes (us28.take 3) then (us28[3]?).bind fun e29 => U.asVar false 1 e29 fun e30 => (E 11 [e30]).bind fun t31 => (U.un .not t31).bind fun t32 => U.asBool t32
 (some (.bool false))
 ((U.bin .gtr x7 (.int .i64 0)).bind fun t33 => U.asBool t33
 ((U.bin .sub x7 (.int .i64 1)).bind fun t34 => U.asInt t34 fun n35 => U.elemAt 4 x0 n35 fun e36 => U.asVar true 4 e36 fun e37 => U.asVar true 4 e5 fun e38 => (E 12 [e37, e38]).bind fun t39 => (U.bin .geq t39 (.int .i64 0)).bind fun t40 => U.asBool t40
 (some (.bool false))
 ((U.bin .add x7 (.int .i64 1)).bind fun t41 => f3_l0 E x0 x5 x6 t41))
 ((U.bin .add x7 (.int .i64 1)).bind fun t42 => f3_l0 E x0 x5 x6 t42)) else none) else none) else none else none) else none) else none else none)
 (some (.bool true)) :=
 (loop_eq E _ _ _ _).trans (by kernel_rfl)
structure G_f3 (E : Env) : Prop where
  is : Is E 3 1 f3_ac [(2, none)]
  c_f15 : G_f15 E
  c_f14 : G_f14 E
  c_f16 : G_f16 E
  c_f12 : G_f12 E
theorem f3_E {E : Env} (h : G_f3 E) (a0 : U) : E 3 [a0] =
 (U.lenOf false a0).bind fun n1 => f3_l0 E a0 a0 (.int .i64 (n1 : Int)) (.int .i64 0) := (h.is _ rfl).trans ((runQ_V rfl).trans (by kernel_rfl))
def f23_b0 : AC :=
 (.seq (rg [oo 9 (.bin .lss (.t 8) (.t 7))])
 (.seq (.cond (.t 9) .skip (.exit 0))
 (.seq (.block 1 (.seq (rg [oo 10 (.mv (.t 8)),
  oo 5 (.mv (.t 10))])
 (.seq (rg [oo 11 (.mv (.t 1)),
  oo 12 (.mv (.t 0)),
  oo 13 (.mv (.t 5)),
  oo 14 (.iaddr 1 (.t 12) (.t 13)),
  oo 15 (.load false 1 (.t 14)),
  oo 16 (.bin .eql (.t 11) (.t 15))])
 (.cond (.t 16) (.seq (rg [oo 17 (.mv (.t 5)),
  oo 4 (.mv (.t 17))])
 .ret) .skip))))
 (rg [oo 18 (.bin .add (.t 8) (ci 1)),
  oo 8 (.mv (.t 18))]))))
def f23_r0 : AC :=
 (.seq (rg [oo 4 (.mv (ci (-1)))])
 .ret)
def f23_ac : AC :=
 (.seq (rg [oo 4 (.mv (ci 0))])
 (.seq (.seq (rg [oo 6 (.mv (.t 0)),
  oo 7 (.len false (.t 6)),
  oo 8 (.mv (ci 0))])
 (.block 0 (.loop ⟨[0, 1, 7, 8], [], []⟩ f23_b0)))
 f23_r0))
noncomputable def f23_l0 (E : Env) (x0 : U) (x1 : U) (x7 : U) (x8 : U) : Option U := loopK (roundOf E ⟨[0, 1, 7, 8], [], []⟩ f23_b0 (blockK 0 (seqK (fun s => exec E f23_r0 s (finish [(4, none)])) (finish [(4, none)])))) ([.val x0, .val x1, .val x7, .val x8], [])
theorem f23_l0_eq (E : Env) (x0 : U) (x1 : U) (x7 : U) (x8 : U) : f23_l0 E x0 x1 x7 x8 =
 (U.bin .lss x8 x7).bind fun t2 => U.asBool t2
 (U.asInt x8 fun n3 => U.elemAt 1 x0 n3 fun e4 => U.asVar false 1 e4 fun e5 => (U.bin .eql x1 e5).bind fun t6 => U.asBool t6
 (some x8)
 ((U.bin .add x8 (.int .i64 1)).bind fun t7 => f23_l0 E x0 x1 x7 t7))
 (some (.int .i64 (-1))) :=
 (loop_eq E _ _ _ _).trans (by kernel_rfl)
structure G_f23 (E : Env) : Prop where
  is : Is E 43 2 f23_ac [(4, none)]
theorem f23_E {E : Env} (h : G_f23 E) (a0 a1 : U) : E 43 [a0, a1] =
 (U.lenOf false a0).bind fun n1 => f23_l0 E a0 a1 (.int .i64 (n1 : Int)) (.int .i64 0) := (h.is _ rfl).trans ((runQ_V rfl).trans (by kernel_rfl))
def f21_ac : AC :=
 (.seq (rg [oo 4 (.mv (.c (.bool false)))])
 (.seq (rg [oo 5 (.mv (.t 0)),
  oo 6 (.mv (.t 1)),
  oo 7 (.call false 43 [(.t 5), (.t 6)]),
  oo 8 (.bin .geq (.t 7) (ci 0)),
  oo 4 (.mv (.t 8))])
 .ret))
structure G_f21 (E : Env) : Prop where
  is : Is E 42 2 f21_ac [(4, none)]
  c_f23 : G_f23 E
theorem f21_E {E : Env} (h : G_f21 E) (a0 a1 : U) : E 42 [a0, a1] =
 (E 43 [a0, a1]).bind fun t1 => (U.bin .geq t1 (.int .i64 0)).bind fun t2 => some t2 := (h.is _ rfl).trans ((runQ_V rfl).trans (by kernel_rfl))
def f13_b2 : AC :=
 (.seq (rg [oo 14 (.bin .lss (.t 13) (ci 10))])
 (.seq (.cond (.t 14) .skip (.exit 0))
 (.seq (.block 1 (.seq (rg [oo 15 (.mv (.t 13)),
  oo 6 (.mv (.t 15))])
 (rg [oo 16 (.mv (.t 6)),
  oo 17 (.aaddr 10 1 (.t 5) (.t 16)),
  ⟨none, .store 1 (.t 17) (ci (-1)), none⟩])))
 (rg [oo 18 (.bin .add (.t 13) (ci 1)),
  oo 13 (.mv (.t 18))]))))
def f13_b1 : AC :=
 (.seq (rg [oo 30 (.bin .lss (.t 29) (.t 28))])
 (.seq (.cond (.t 30) .skip (.exit 4))
 (.seq (.block 5 (.seq (rg [oo 31 (.iaddr 4 (.t 27) (.t 29)),
  oo 32 (.load true 4 (.t 31)),
  oo 11 (.alloc 11 (.agg [(.int .i64 0), (.int .i64 0), (.int .i64 0), (.int .i64 0)])),
  ⟨none, .store 4 (.t 11) (.t 32), none⟩])
 (.seq (rg [oo 33 (.mv (.t 7)),
  oo 34 (.faddr 1 1 (.t 11)),
  oo 35 (.load false 1 (.t 34)),
  oo 36 (.call false 42 [(.t 33), (.t 35)]),
  oo 37 (.mv (.t 36)),
  ⟨some 38, .faddr 0 0 (.t 11), some (37, true)⟩,
  ⟨some 39, .load false 1 (.t 38), some (37, true)⟩,
  ⟨some 40, .aaddr 10 1 (.t 5) (.t 39), some (37, true)⟩,
  ⟨some 41, .load false 1 (.t 40), some (37, true)⟩,
  ⟨some 42, .bin .lss (.t 41) (ci 0), some (37, true)⟩,
  oo 43 (.pick (.t 37) (.t 42) (.c (.bool false)))])
 (.cond (.t 43) (.seq (rg [oo 44 (.faddr 0 0 (.t 11)),
  oo 45 (.load false 1 (.t 44)),
  oo 46 (.mv (.t 8)),
  oo 47 (.aaddr 10 1 (.t 5) (.t 45)),
  ⟨none, .store 1 (.t 47) (.t 46), none⟩])
 (rg [oo 48 (.mv (.t 9)),
  oo 49 (.faddr 0 0 (.t 11)),
  oo 50 (.load false 1 (.t 49)),
  oo 51 (.bslice 0 51 1 1 (.int .i64 0) [(0, (.t 50))]),
  oo 52 (.append false 52 1 8 (.t 48) (.t 51)),
  oo 9 (.mv (.t 52))])) .skip))))
 (rg [oo 53 (.bin .add (.t 29) (ci 1)),
  oo 29 (.mv (.t 53))]))))
def f13_r0 : AC :=
 (rg [oo 54 (.mv (.t 9)),
  oo 7 (.mv (.t 54))])
def f13_r1 : AC :=
 (rg [oo 24 (.mv (.t 8)),
  oo 25 (.bin .add (.t 24) (ci 1)),
  oo 8 (.mv (.t 25))])
def f13_b0 : AC :=
 (.seq (.seq (rg [oo 21 (.mv (.t 7)),
  oo 22 (.len false (.t 21)),
  oo 23 (.bin .gtr (.t 22) (ci 0))])
 (.cond (.t 23) .skip (.exit 2)))
 (.seq (.block 3 (.seq (rg [oo 26 (.bslice 1 26 1 0 (.int .i64 0) []),
  oo 9 (.mv (.t 26))])
 (.seq (.seq (rg [oo 27 (.mv (.t 0)),
  oo 28 (.len false (.t 27)),
  oo 29 (.mv (ci 0))])
 (.block 4 (.loop ⟨[0, 4, 5, 8, 27, 28, 29], [(7, 1, false), (9, 1, false)], [(4, false), (5, false)]⟩ f13_b1)))
 f13_r0)))
 f13_r1))
def f13_r2 : AC :=
 (.seq (rg [oo 55 (.load true 10 (.t 5)),
  ⟨none, .store 10 (.t 4) (.t 55), none⟩])
 .ret)
def f13_r3 : AC :=
 (.seq (rg [oo 19 (.mv (.t 1)),
  oo 20 (.bslice 1 20 1 1 (.int .i64 0) [(0, (.t 19))]),
  oo 7 (.mv (.t 20))])
 (.seq (.seq (rg [oo 8 (.mv (ci 1))])
 (.block 2 (.loop ⟨[0, 4, 5, 8], [(7, 1, false)], [(4, false), (5, false)]⟩ f13_b0)))
 f13_r2))
def f13_ac : AC :=
 (.seq (rg [oo 4 (.alloc 4 (.agg [(.int .i64 0), (.int .i64 0), (.int .i64 0), (.int .i64 0), (.int .i64 0), (.int .i64 0), (.int .i64 0), (.int .i64 0), (.int .i64 0), (.int .i64 0)]))])
 (.seq (rg [oo 12 (.build [(.int .i64 0), (.int .i64 0), (.int .i64 0), (.int .i64 0), (.int .i64 0), (.int .i64 0), (.int .i64 0), (.int .i64 0), (.int .i64 0), (.int .i64 0)] []),
  oo 5 (.alloc 5 (.agg [(.int .i64 0), (.int .i64 0), (.int .i64 0), (.int .i64 0), (.int .i64 0), (.int .i64 0), (.int .i64 0), (.int .i64 0), (.int .i64 0), (.int .i64 0)])),
  ⟨none, .store 10 (.t 5) (.t 12), none⟩])
 (.seq (.seq (rg [oo 13 (.mv (ci 0))])
 (.block 0 (.loop ⟨[0, 1, 4, 5, 13], [], [(4, false), (5, false)]⟩ f13_b2)))
 f13_r3)))
noncomputable def f13_l2 (E : Env) (x0 : U) (x1 : U) (x13 : U) (b4 : U) (b5 : U) : Option U := loopK (roundOf E ⟨[0, 1, 4, 5, 13], [], [(4, false), (5, false)]⟩ f13_b2 (blockK 0 (seqK (fun s => exec E f13_r3 s (finish [(4, some (true, 10))])) (finish [(4, some (true, 10))])))) ([.val x0, .val x1, .ptr 4 [], .ptr 5 [], .val x13], [.box (.val b4), .box (.val b5)])
noncomputable def f13_l0 (E : Env) (x0 : U) (x8 : U) (c7 : List U) (b4 : U) (b5 : U) : Option U := loopK (roundOf E ⟨[0, 4, 5, 8], [(7, 1, false)], [(4, false), (5, false)]⟩ f13_b0 (blockK 2 (seqK (fun s => exec E f13_r2 s (finish [(4, some (true, 10))])) (finish [(4, some (true, 10))])))) ([.val x0, .ptr 4 [], .ptr 5 [], .val x8], [.vir (.asl 1 c7), .box (.val b4), .box (.val b5)])
noncomputable def f13_l1 (E : Env) (x0 : U) (x8 : U) (x27 : U) (x28 : U) (x29 : U) (c7 : List U) (c9 : List U) (b4 : U) (b5 : U) : Option U := loopK (roundOf E ⟨[0, 4, 5, 8, 27, 28, 29], [(7, 1, false), (9, 1, false)], [(4, false), (5, false)]⟩ f13_b1 (blockK 4 (seqK (fun s => exec E f13_r0 s (blockK 3 (seqK (fun s => exec E f13_r1 s (roundK ⟨[0, 4, 5, 8], [(7, 1, false)], [(4, false), (5, false)]⟩ (loopK (roundOf E ⟨[0, 4, 5, 8], [(7, 1, false)], [(4, false), (5, false)]⟩ f13_b0 (blockK 2 (seqK (fun s => exec E f13_r2 s (finish [(4, some (true, 10))])) (finish [(4, some (true, 10))]))))) (blockK 2 (seqK (fun s => exec E f13_r2 s (finish [(4, some (true, 10))])) (finish [(4, some (true, 10))]))))) (roundK ⟨[0, 4, 5, 8], [(7, 1, false)], [(4, false), (5, false)]⟩ (loopK (roundOf E ⟨[0, 4, 5, 8], [(7, 1, false)], [(4, false), (5, false)]⟩ f13_b0 (blockK 2 (seqK (fun s => exec E f13_r2 s (finish [(4, some (true, 10))])) (finish [(4, some (true, 10))]))))) (blockK 2 (seqK (fun s => exec E f13_r2 s (finish [(4, some (true, 10))])) (finish [(4, some (true, 10))]))))))) (blockK 3 (seqK (fun s => exec E f13_r1 s (roundK ⟨[0, 4, 5, 8], [(7, 1, false)], [(4, false), (5, false)]⟩ (loopK (roundOf E ⟨[0, 4, 5, 8], [(7, 1, false)], [(4, false), (5, false)]⟩ f13_b0 (blockK 2 (seqK (fun s => exec E f13_r2 s (finish [(4, some (true, 10))])) (finish [(4, some (true, 10))]))))) (blockK 2 (seqK (fun s => exec E f13_r2 s (finish [(4, some (true, 10))])) (finish [(4, some (true, 10))]))))) (roundK ⟨[0, 4, 5, 8], [(7, 1, false)], [(4, false), (5, false)]⟩ (loopK (roundOf E ⟨[0, 4, 5, 8], [(7, 1, false)], [(4, false), (5, false)]⟩ f13_b0 (blockK 2 (seqK (fun s => exec E f13_r2 s (finish [(4, some (true, 10))])) (finish [(4, some (true, 10))]))))) (blockK 2 (seqK (fun s => exec E f13_r2 s (finish [(4, some (true, 10))])) (finish [(4, some (true, 10))]))))))))) ([.val x0, .ptr 4 [], .ptr 5 [], .val x8, .val x27, .val x28, .val x29], [.vir (.asl 1 c7), .vir (.asl 1 c9), .box (.val b4), .box (.val b5)])
theorem f13_l2_eq (E : Env) (x0 : U) (x1 : U) (x13 : U) (b4 : U) (b5 : U) : f13_l2 E x0 x1 x13 b4 b5 =
 (U.bin .lss x13 (.int .i64 10)).bind fun t1 => U.asBool t1
 (U.asInt x13 fun n2 => if 0 ≤ n2 ∧ n2 < 10 then U.asAgg b5 fun us3 => if (n2 : Int).toNat * 1 = sizes (us3.take (n2 : Int).toNat) then (us3[(n2 : Int).toNat]?).bind fun e4 => if e4.size = 1 then (U.bin .add x13 (.int .i64 1)).bind fun t5 => f13_l2 E x0 x1 t5 b4 (.agg (us3.set (n2 : Int).toNat (.int .i64 (-1)))) else none else none else none)
 (if partable (.val x1) = true ∧ x1.size = 1 then f13_l0 E x0 (.int .i64 1) [x1] b4 b5 else none) :=
 (loop_eq E _ _ _ _).trans (by kernel_rfl)
theorem f13_l0_eq (E : Env) (x0 : U) (x8 : U) (c7 : List U) (b4 : U) (b5 : U) : f13_l0 E x0 x8 c7 b4 b5 =
 (U.bin .gtr (.int .i64 ((c7).length : Int)) (.int .i64 0)).bind fun t6 => U.asBool t6
 ((U.lenOf false x0).bind fun n7 => f13_l1 E x0 x8 x0 (.int .i64 (n7 : Int)) (.int .i64 0) c7 ([] : List U) b4 b5)
 (U.asVar true 10 b5 fun e8 => if storable (.val e8) = true ∧ e8.size = 10 then if b4.size = 10 then U.asVar true 10 e8 fun e9 => some e9 else none else none) :=
 (loop_eq E _ _ _ _).trans (by kernel_rfl)
theorem f13_l1_eq (E : Env) (x0 : U) (x8 : U) (x27 : U) (x28 : U) (x29 : U) (c7 : List U) (c9 : List U) (b4 : U) (b5 : U) : f13_l1 E x0 x8 x27 x28 x29 c7 c9 b4 b5 =
 (U.bin .lss x29 x28).bind fun t10 => U.asBool t10
 (U.asInt x29 fun n11 => U.elemAt 4 x27 n11 fun e12 => U.asVar true 4 e12 fun e13 => if storable (.val e13) = true ∧ e13.size = 4 then U.asAgg e13 fun us14 => if 1 = sizes (us14.take 1) then (us14[1]?).bind fun e15 => U.asVar false 1 e15 fun e16 => (E 42 [(.sl 1 c7), e16]).bind fun t17 => U.asFlat t17 fun t18 => U.asBool t18
 (U.asAgg e13 fun us19 => if 0 = sizes (us19.take 0) then (us19[0]?).bind fun e20 => U.asVar false 1 e20 fun e21 => U.asInt e21 fun n22 => if 0 ≤ n22 ∧ n22 < 10 then U.asAgg b5 fun us23 => if (n22 : Int).toNat * 1 = sizes (us23.take (n22 : Int).toNat) then (us23[(n22 : Int).toNat]?).bind fun e24 => U.asVar false 1 e24 fun e25 => (U.bin .lss e25 (.int .i64 0)).bind fun t26 => U.asBool t26
 (U.asAgg e13 fun us27 => if 0 = sizes (us27.take 0) then (us27[0]?).bind fun e28 => U.asVar false 1 e28 fun e29 => U.asInt e29 fun n30 => if 0 ≤ n30 ∧ n30 < 10 then if storable (.val x8) = true ∧ x8.size = 1 then U.asAgg b5 fun us31 => if (n30 : Int).toNat * 1 = sizes (us31.take (n30 : Int).toNat) then (us31[(n30 : Int).toNat]?).bind fun e32 => if e32.size = 1 then U.asAgg e13 fun us33 => if 0 = sizes (us33.take 0) then (us33[0]?).bind fun e34 => U.asVar false 1 e34 fun e35 => if partable (.val e35) = true ∧ e35.size = 1 then if 1 = 1 ∧ 1 = 1 ∧ ((c9).length + ([e35] : List U).length) * 8 ≤ 140737488355328 then (U.bin .add x29 (.int .i64 1)).bind fun t36 => f13_l1 E x0 x8 x27 x28 t36 c7 (c9 ++ ([e35] : List U)) b4 (.agg (us31.set (n30 : Int).toNat x8)) else none else none else none else none else none else none else none else none)
 ((U.bin .add x29 (.int .i64 1)).bind fun t37 => f13_l1 E x0 x8 x27 x28 t37 c7 c9 b4 b5) else none else none else none)
 ((U.bin .add x29 (.int .i64 1)).bind fun t38 => f13_l1 E x0 x8 x27 x28 t38 c7 c9 b4 b5) else none else none)
 ((U.bin .add x8 (.int .i64 1)).bind fun t39 => f13_l0 E x0 t39 c9 b4 b5) :=
 (loop_eq E _ _ _ _).trans (by kernel_rfl)
structure G_f13 (E : Env) : Prop where
  is : Is E 41 2 f13_ac [(4, some (true, 10))]
  c_f21 : G_f21 E
theorem f13_E {E : Env} (h : G_f13 E) (a0 a1 : U) : E 41 [a0, a1] =
 f13_l2 E a0 a1 (.int .i64 0) (.agg [(.int .i64 0), (.int .i64 0), (.int .i64 0), (.int .i64 0), (.int .i64 0), (.int .i64 0), (.int .i64 0), (.int .i64 0), (.int .i64 0), (.int .i64 0)]) (.agg [(.int .i64 0), (.int .i64 0), (.int .i64 0), (.int .i64 0), (.int .i64 0), (.int .i64 0), (.int .i64 0), (.int .i64 0), (.int .i64 0), (.int .i64 0)]) := (h.is _ rfl).trans ((runQ_V rfl).trans (by kernel_rfl))
def f22_b0 : AC :=
 (.seq (rg [oo 9 (.bin .lss (.t 8) (.t 7))])
 (.seq (.cond (.t 9) .skip (.exit 0))
 (.seq (.block 1 (.seq (rg [oo 10 (.mv (.t 8)),
  oo 5 (.mv (.t 10))])
 (.seq (rg [oo 11 (.mv (.t 1)),
  oo 12 (.mv (.t 0)),
  oo 13 (.mv (.t 5)),
  oo 14 (.iaddr 4 (.t 12) (.t 13)),
  oo 15 (.load true 4 (.t 14)),
  oo 16 (.callv false (.t 11) [(.t 15)])])
 (.cond (.t 16) (.seq (rg [oo 17 (.mv (.t 5)),
  oo 4 (.mv (.t 17))])
 .ret) .skip))))
 (rg [oo 18 (.bin .add (.t 8) (ci 1)),
  oo 8 (.mv (.t 18))]))))
def f22_r0 : AC :=
 (.seq (rg [oo 4 (.mv (ci (-1)))])
 .ret)
def f22_ac : AC :=
 (.seq (rg [oo 4 (.mv (ci 0))])
 (.seq (.seq (rg [oo 6 (.mv (.t 0)),
  oo 7 (.len false (.t 6)),
  oo 8 (.mv (ci 0))])
 (.block 0 (.loop ⟨[0, 1, 7, 8], [], []⟩ f22_b0)))
 f22_r0))
noncomputable def f22_l0 (E : Env) (x0 : U) (x1 : U) (x7 : U) (x8 : U) : Option U := loopK (roundOf E ⟨[0, 1, 7, 8], [], []⟩ f22_b0 (blockK 0 (seqK (fun s => exec E f22_r0 s (finish [(4, none)])) (finish [(4, none)])))) ([.val x0, .val x1, .val x7, .val x8], [])
theorem f22_l0_eq (E : Env) (x0 : U) (x1 : U) (x7 : U) (x8 : U) : f22_l0 E x0 x1 x7 x8 =
 (U.bin .lss x8 x7).bind fun t2 => U.asBool t2
 (U.asInt x8 fun n3 => U.elemAt 4 x0 n3 fun e4 => U.asVar true 4 e4 fun e5 => U.asFn x1 fun r6 caps7 => (E r6 ([e5] ++ caps7)).bind fun t8 => U.asBool t8
 (some x8)
 ((U.bin .add x8 (.int .i64 1)).bind fun t9 => f22_l0 E x0 x1 x7 t9))
 (some (.int .i64 (-1))) :=
 (loop_eq E _ _ _ _).trans (by kernel_rfl)
structure G_f22 (E : Env) : Prop where
  is : Is E 66 2 f22_ac [(4, none)]
theorem f22_E {E : Env} (h : G_f22 E) (a0 a1 : U) : E 66 [a0, a1] =
 (U.lenOf false a0).bind fun n1 => f22_l0 E a0 a1 (.int .i64 (n1 : Int)) (.int .i64 0) := (h.is _ rfl).trans ((runQ_V rfl).trans (by kernel_rfl))
def f20_ac : AC :=
 (.seq (rg [oo 4 (.mv (.c (.bool false)))])
 (.seq (rg [oo 5 (.mv (.t 0)),
  oo 6 (.mv (.t 1)),
  oo 7 (.call false 66 [(.t 5), (.t 6)]),
  oo 8 (.bin .geq (.t 7) (ci 0)),
  oo 4 (.mv (.t 8))])
 .ret))
structure G_f20 (E : Env) : Prop where
  is : Is E 65 2 f20_ac [(4, none)]
  c_f22 : G_f22 E
theorem f20_E {E : Env} (h : G_f20 E) (a0 a1 : U) : E 65 [a0, a1] =
 (E 66 [a0, a1]).bind fun t1 => (U.bin .geq t1 (.int .i64 0)).bind fun t2 => some t2 := (h.is _ rfl).trans ((runQ_V rfl).trans (by kernel_rfl))
def f9_ac : AC :=
 (.seq (rg [oo 3 (.box false 3 (.t 0)),
  oo 4 (.mv (.c (.bool false)))])
 (.seq (rg [oo 5 (.faddr 0 0 (.t 3)),
  oo 6 (.load false 1 (.t 5)),
  oo 7 (.load false 1 (.t 1)),
  oo 8 (.bin .eql (.t 6) (.t 7)),
  oo 9 (.mv (.t 8)),
  ⟨some 10, .faddr 1 1 (.t 3), some (9, true)⟩,
  ⟨some 11, .load false 1 (.t 10), some (9, true)⟩,
  ⟨some 12, .load false 1 (.t 2), some (9, true)⟩,
  ⟨some 13, .bin .eql (.t 11) (.t 12), some (9, true)⟩,
  oo 14 (.pick (.t 9) (.t 13) (.c (.bool false))),
  oo 4 (.mv (.t 14))])
 .ret))
structure G_f9 (E : Env) : Prop where
  is : Is E 64 3 f9_ac [(4, none)]
theorem f9_E {E : Env} (h : G_f9 E) (a0 a1 a2 : U) : E 64 [a0, a1, a2] =
 U.noTup a0 fun x1 => U.asAgg x1 fun us2 => if 0 = sizes (us2.take 0) then (us2[0]?).bind fun e3 => U.asVar false 1 e3 fun e4 => U.asVp a1 fun v5 => U.asVar false 1 v5 fun e6 => (U.bin .eql e4 e6).bind fun t7 => U.asBool t7
 (U.asAgg x1 fun us8 => if 1 = sizes (us8.take 1) then (us8[1]?).bind fun e9 => U.asVar false 1 e9 fun e10 => U.asVp a2 fun v11 => U.asVar false 1 v11 fun e12 => (U.bin .eql e10 e12).bind fun t13 => some t13 else none)
 (some (.bool false)) else none := (h.is _ rfl).trans ((runQ_V rfl).trans (by kernel_rfl))
def f8_ac : AC :=
 (.seq (rg [oo 4 (.box true 4 (.t 1)),
  oo 5 (.box true 5 (.t 2)),
  oo 6 (.mv (.c (.bool false)))])
 (.seq (rg [oo 7 (.mv (.t 0)),
  oo 8 (.mkfn 64 [(.t 4), (.t 5)]),
  oo 9 (.call false 65 [(.t 7), (.t 8)]),
  oo 6 (.mv (.t 9))])
 .ret))
structure G_f8 (E : Env) : Prop where
  is : Is E 63 3 f8_ac [(6, none)]
  c_f20 : G_f20 E
  c_f9 : G_f9 E
theorem f8_E {E : Env} (h : G_f8 E) (a0 a1 a2 : U) : E 63 [a0, a1, a2] =
 U.noTup a1 fun x1 => U.noTup a2 fun x2 => (E 65 [a0, (.fn 64 [(.vp x1), (.vp x2)])]).bind fun t3 => U.asFlat t3 fun t4 => some t4 := (h.is _ rfl).trans ((runQ_V rfl).trans (by kernel_rfl))
def f11_b2 : AC :=
 (.seq (.seq (rg [oo 14 (.mv (.t 5)),
  oo 15 (.bin .leq (.t 14) (ci 9))])
 (.cond (.t 15) .skip (.exit 0)))
 (.seq (.block 1 (.seq (rg [oo 18 (.mv (.t 0)),
  oo 19 (.mv (.t 5)),
  oo 20 (.call false 41 [(.t 18), (.t 19)]),
  oo 21 (.mv (.t 5)),
  oo 22 (.idxa false 1 10 1 (.t 20) (.t 21)),
  oo 6 (.mv (.t 22))])
 (.seq (rg [oo 23 (.mv (.t 6)),
  oo 24 (.bin .gtr (.t 23) (ci 0)),
  oo 25 (.mv (.t 24)),
  ⟨some 26, .mv (.t 3), some (25, true)⟩,
  ⟨some 27, .bin .eql (.t 26) (ci 0), some (25, true)⟩,
  ⟨some 28, .mv (.t 27), some (25, true)⟩,
  ⟨some 29, .mv (.t 6), some (28, false)⟩,
  ⟨some 30, .mv (.t 4), some (28, false)⟩,
  ⟨some 31, .bin .lss (.t 29) (.t 30), some (28, false)⟩,
  ⟨some 32, .pick (.t 28) (.c (.bool true)) (.t 31), some (25, true)⟩,
  oo 33 (.pick (.t 25) (.t 32) (.c (.bool false)))])
 (.cond (.t 33) (rg [oo 34 (.mv (.t 5)),
  oo 35 (.mv (.t 6)),
  oo 3 (.mv (.t 34)),
  oo 4 (.mv (.t 35))]) .skip))))
 (rg [oo 16 (.mv (.t 5)),
  oo 17 (.bin .add (.t 16) (ci 1)),
  oo 5 (.mv (.t 17))])))
def f11_b1 : AC :=
 (.seq (.seq (rg [oo 49 (.mv (.t 10)),
  oo 50 (.bin .leq (.t 49) (ci 9))])
 (.cond (.t 50) .skip (.exit 4)))
 (.seq (.block 5 (.seq (rg [oo 53 (.mv (.t 10)),
  oo 54 (.aaddr 10 1 (.t 8) (.t 53)),
  oo 55 (.load false 1 (.t 54)),
  oo 56 (.mv (.t 9)),
  oo 57 (.bin .eql (.t 55) (.t 56)),
  oo 58 (.mv (.t 57)),
  ⟨some 59, .mv (.t 0), some (58, true)⟩,
  ⟨some 60, .mv (.t 7), some (58, true)⟩,
  ⟨some 61, .mv (.t 7), some (58, true)⟩,
  ⟨some 62, .len false (.t 61), some (58, true)⟩,
  ⟨some 63, .bin .sub (.t 62) (ci 1), some (58, true)⟩,
  ⟨some 64, .iaddr 1 (.t 60) (.t 63), some (58, true)⟩,
  ⟨some 65, .load false 1 (.t 64), some (58, true)⟩,
  ⟨some 66, .mv (.t 10), some (58, true)⟩,
  ⟨some 67, .call false 63 [(.t 59), (.t 65), (.t 66)], some (58, true)⟩,
  oo 68 (.pick (.t 58) (.t 67) (.c (.bool false)))])
 (.cond (.t 68) (.seq (rg [oo 69 (.mv (.t 7)),
  oo 70 (.mv (.t 10)),
  oo 71 (.bslice 0 71 1 1 (.int .i64 0) [(0, (.t 70))]),
  oo 72 (.append false 72 1 8 (.t 69) (.t 71)),
  oo 7 (.mv (.t 72))])
 (.exit 4)) .skip)))
 (rg [oo 51 (.mv (.t 10)),
  oo 52 (.bin .add (.t 51) (ci 1)),
  oo 10 (.mv (.t 52))])))
def f11_r0 : AC :=
 (rg [oo 47 (.mv (.t 9)),
  oo 48 (.bin .sub (.t 47) (ci 1)),
  oo 9 (.mv (.t 48))])
def f11_b0 : AC :=
 (.seq (.seq (rg [oo 45 (.mv (.t 9)),
  oo 46 (.bin .gtr (.t 45) (ci 0))])
 (.cond (.t 46) .skip (.exit 2)))
 (.seq (.block 3 (.seq (rg [oo 10 (.mv (ci 1))])
 (.block 4 (.loop ⟨[0, 8, 9, 10], [(7, 1, false)], [(8, false)]⟩ f11_b1))))
 f11_r0))
def f11_r1 : AC :=
 (.seq (rg [oo 73 (.mv (.t 7)),
  oo 2 (.mv (.t 73))])
 .ret)
def f11_r2 : AC :=
 (.seq (.seq (rg [oo 36 (.mv (.t 3)),
  oo 37 (.bin .eql (.t 36) (ci 0))])
 (.cond (.t 37) (.seq (rg [oo 2 (.mv (.c (.nsl 1)))])
 .ret) .skip))
 (.seq (rg [oo 38 (.mv (.t 3)),
  oo 39 (.bslice 1 39 1 1 (.int .i64 0) [(0, (.t 38))]),
  oo 40 (.mv (.t 0)),
  oo 41 (.mv (.t 3)),
  oo 42 (.call false 41 [(.t 40), (.t 41)]),
  oo 8 (.alloc 8 (.agg [(.int .i64 0), (.int .i64 0), (.int .i64 0), (.int .i64 0), (.int .i64 0), (.int .i64 0), (.int .i64 0), (.int .i64 0), (.int .i64 0), (.int .i64 0)])),
  oo 7 (.mv (.t 39)),
  ⟨none, .store 10 (.t 8) (.t 42), none⟩])
 (.seq (.seq (rg [oo 43 (.mv (.t 4)),
  oo 44 (.bin .sub (.t 43) (ci 1)),
  oo 9 (.mv (.t 44))])
 (.block 2 (.loop ⟨[0, 8, 9], [(7, 1, false)], [(8, false)]⟩ f11_b0)))
 f11_r1)))
def f11_ac : AC :=
 (.seq (rg [oo 2 (.mv (.c (.nsl 1)))])
 (.seq (.seq (rg [oo 11 (.mv (.t 0)),
  oo 12 (.call false 3 [(.t 11)]),
  oo 13 (.un .not (.t 12))])
 (.cond (.t 13) (.seq (rg [oo 2 (.mv (.c (.nsl 1)))])
 .ret) .skip))
 (.seq (rg [oo 3 (.mv (ci 0)),
  oo 4 (.mv (ci 0))])
 (.seq (.seq (rg [oo 5 (.mv (ci 1))])
 (.block 0 (.loop ⟨[0, 3, 4, 5], [], []⟩ f11_b2)))
 f11_r2))))
noncomputable def f11_l2 (E : Env) (x0 : U) (x3 : U) (x4 : U) (x5 : U) : Option U := loopK (roundOf E ⟨[0, 3, 4, 5], [], []⟩ f11_b2 (blockK 0 (seqK (fun s => exec E f11_r2 s (finish [(2, none)])) (finish [(2, none)])))) ([.val x0, .val x3, .val x4, .val x5], [])
noncomputable def f11_l0 (E : Env) (x0 : U) (x9 : U) (c7 : List U) (b8 : U) : Option U := loopK (roundOf E ⟨[0, 8, 9], [(7, 1, false)], [(8, false)]⟩ f11_b0 (blockK 2 (seqK (fun s => exec E f11_r1 s (finish [(2, none)])) (finish [(2, none)])))) ([.val x0, .ptr 8 [], .val x9], [.vir (.asl 1 c7), .box (.val b8)])
noncomputable def f11_l1 (E : Env) (x0 : U) (x9 : U) (x10 : U) (c7 : List U) (b8 : U) : Option U := loopK (roundOf E ⟨[0, 8, 9, 10], [(7, 1, false)], [(8, false)]⟩ f11_b1 (blockK 4 (blockK 3 (seqK (fun s => exec E f11_r0 s (roundK ⟨[0, 8, 9], [(7, 1, false)], [(8, false)]⟩ (loopK (roundOf E ⟨[0, 8, 9], [(7, 1, false)], [(8, false)]⟩ f11_b0 (blockK 2 (seqK (fun s => exec E f11_r1 s (finish [(2, none)])) (finish [(2, none)]))))) (blockK 2 (seqK (fun s => exec E f11_r1 s (finish [(2, none)])) (finish [(2, none)]))))) (roundK ⟨[0, 8, 9], [(7, 1, false)], [(8, false)]⟩ (loopK (roundOf E ⟨[0, 8, 9], [(7, 1, false)], [(8, false)]⟩ f11_b0 (blockK 2 (seqK (fun s => exec E f11_r1 s (finish [(2, none)])) (finish [(2, none)]))))) (blockK 2 (seqK (fun s => exec E f11_r1 s (finish [(2, none)])) (finish [(2, none)])))))))) ([.val x0, .ptr 8 [], .val x9, .val x10], [.vir (.asl 1 c7), .box (.val b8)])
theorem f11_l2_eq (E : Env) (x0 : U) (x3 : U) (x4 : U) (x5 : U) : f11_l2 E x0 x3 x4 x5 =
 (U.bin .leq x5 (.int .i64 9)).bind fun t3 => U.asBool t3
 ((E 41 [x0, x5]).bind fun t4 => U.asInt x5 fun n5 => if 0 ≤ n5 ∧ n5 < 10 then U.fieldAt (n5 : Int).toNat ((n5 : Int).toNat * 1) t4 fun e6 => U.asVar false 1 e6 fun e7 => (U.bin .gtr e7 (.int .i64 0)).bind fun t8 => U.asBool t8
 ((U.bin .eql x3 (.int .i64 0)).bind fun t9 => U.asBool t9
 ((U.bin .add x5 (.int .i64 1)).bind fun t10 => f11_l2 E x0 x5 e7 t10)
 ((U.bin .lss e7 x4).bind fun t11 => U.asBool t11
 ((U.bin .add x5 (.int .i64 1)).bind fun t12 => f11_l2 E x0 x5 e7 t12)
 ((U.bin .add x5 (.int .i64 1)).bind fun t13 => f11_l2 E x0 x3 x4 t13)))
 ((U.bin .add x5 (.int .i64 1)).bind fun t14 => f11_l2 E x0 x3 x4 t14) else none)
 ((U.bin .eql x3 (.int .i64 0)).bind fun t15 => U.asBool t15
 (some (.nsl 1))
 (if partable (.val x3) = true ∧ x3.size = 1 then (E 41 [x0, x3]).bind fun t16 => if storable (.val t16) = true ∧ t16.size = 10 then (U.bin .sub x4 (.int .i64 1)).bind fun t17 => f11_l0 E x0 t17 [x3] t16 else none else none)) :=
 (loop_eq E _ _ _ _).trans (by kernel_rfl)
theorem f11_l0_eq (E : Env) (x0 : U) (x9 : U) (c7 : List U) (b8 : U) : f11_l0 E x0 x9 c7 b8 =
 (U.bin .gtr x9 (.int .i64 0)).bind fun t18 => U.asBool t18
 (f11_l1 E x0 x9 (.int .i64 1) c7 b8)
 (some (.sl 1 c7)) :=
 (loop_eq E _ _ _ _).trans (by kernel_rfl)
theorem f11_l1_eq (E : Env) (x0 : U) (x9 : U) (x10 : U) (c7 : List U) (b8 : U) : f11_l1 E x0 x9 x10 c7 b8 =
 (U.bin .leq x10 (.int .i64 9)).bind fun t19 => U.asBool t19
 (U.asInt x10 fun n20 => if 0 ≤ n20 ∧ n20 < 10 then U.asAgg b8 fun us21 => if (n20 : Int).toNat * 1 = sizes (us21.take (n20 : Int).toNat) then (us21[(n20 : Int).toNat]?).bind fun e22 => U.asVar false 1 e22 fun e23 => (U.bin .eql e23 x9).bind fun t24 => U.asBool t24
 ((U.bin .sub (.int .i64 ((c7).length : Int)) (.int .i64 1)).bind fun t25 => U.asInt t25 fun n26 => if 1 = 1 ∧ 0 ≤ n26 ∧ n26 < ((c7).length : Int) then (c7[(n26 : Int).toNat]?).bind fun e27 => U.asVar false 1 e27 fun e28 => (E 63 [x0, e28, x10]).bind fun t29 => U.asBool t29
 (if partable (.val x10) = true ∧ x10.size = 1 then if 1 = 1 ∧ 1 = 1 ∧ ((c7).length + ([x10] : List U).length) * 8 ≤ 140737488355328 then (U.bin .sub x9 (.int .i64 1)).bind fun t30 => f11_l0 E x0 t30 (c7 ++ ([x10] : List U)) b8 else none else none)
 ((U.bin .add x10 (.int .i64 1)).bind fun t31 => f11_l1 E x0 x9 t31 c7 b8) else none)
 ((U.bin .add x10 (.int .i64 1)).bind fun t32 => f11_l1 E x0 x9 t32 c7 b8) else none else none)
 ((U.bin .sub x9 (.int .i64 1)).bind fun t33 => f11_l0 E x0 t33 c7 b8) :=
 (loop_eq E _ _ _ _).trans (by kernel_rfl)
structure G_f11 (E : Env) : Prop where
  is : Is E 81 1 f11_ac [(2, none)]
  c_f3 : G_f3 E
  c_f13 : G_f13 E
  c_f8 : G_f8 E
theorem f11_E {E : Env} (h : G_f11 E) (a0 : U) : E 81 [a0] =
 (E 3 [a0]).bind fun t1 => (U.un .not t1).bind fun t2 => U.asBool t2
 (some (.nsl 1))
 (f11_l2 E a0 (.int .i64 0) (.int .i64 0) (.int .i64 1)) := (h.is _ rfl).trans ((runQ_V rfl).trans (by kernel_rfl))
def f19_b0 : AC :=
 (.seq (.seq (rg [oo 11 (.mv (.t 5)),
  oo 12 (.mv (.t 0)),
  oo 13 (.len false (.t 12)),
  oo 14 (.bin .lss (.t 11) (.t 13))])
 (.cond (.t 14) .skip (.exit 0)))
 (.seq (.block 1 (.seq (.region 9 [oo 17 (.mv (.t 0)),
  oo 18 (.mv (.t 5)),
  oo 19 (.iaddr 1 (.t 17) (.t 18)),
  oo 20 (.load false 1 (.t 19)),
  oo 21 (.mv (.t 1)),
  oo 22 (.mv (.t 5)),
  oo 23 (.iaddr 1 (.t 21) (.t 22)),
  oo 24 (.load false 1 (.t 23)),
  oo 25 (.bin .neq (.t 20) (.t 24))])
 (.cond (.t 25) (.seq (rg [oo 4 (.mv (.c (.bool false)))])
 .ret) .skip)))
 (rg [oo 15 (.mv (.t 5)),
  oo 16 (.bin .add (.t 15) (ci 1)),
  oo 5 (.mv (.t 16))])))
def f19_r0 : AC :=
 (.seq (rg [oo 4 (.mv (.c (.bool true)))])
 .ret)
def f19_ac : AC :=
 (.seq (rg [oo 4 (.mv (.c (.bool false)))])
 (.seq (.seq (rg [oo 6 (.mv (.t 0)),
  oo 7 (.len false (.t 6)),
  oo 8 (.mv (.t 1)),
  oo 9 (.len false (.t 8)),
  oo 10 (.bin .neq (.t 7) (.t 9))])
 (.cond (.t 10) (.seq (rg [oo 4 (.mv (.c (.bool false)))])
 .ret) .skip))
 (.seq (.seq (rg [oo 5 (.mv (ci 0))])
 (.block 0 (.loop ⟨[0, 1, 5], [], []⟩ f19_b0)))
 f19_r0)))
noncomputable def f19_l0 (E : Env) (x0 : U) (x1 : U) (x5 : U) : Option U := loopK (roundOf E ⟨[0, 1, 5], [], []⟩ f19_b0 (blockK 0 (seqK (fun s => exec E f19_r0 s (finish [(4, none)])) (finish [(4, none)])))) ([.val x0, .val x1, .val x5], [])
theorem f19_l0_eq (E : Env) (x0 : U) (x1 : U) (x5 : U) : f19_l0 E x0 x1 x5 =
 (U.lenOf false x0).bind fun n4 => (U.bin .lss x5 (.int .i64 (n4 : Int))).bind fun t5 => U.asBool t5
 (U.asInt x5 fun n6 => U.elemAt 1 x0 n6 fun e7 => U.asVar false 1 e7 fun e8 => U.asInt x5 fun n9 => U.elemAt 1 x1 n9 fun e10 => U.asVar false 1 e10 fun e11 => (U.bin .neq e8 e11).bind fun t12 => U.asBool t12
 (some (.bool false))
 ((U.bin .add x5 (.int .i64 1)).bind fun t13 => f19_l0 E x0 x1 t13))
 (some (.bool true)) :=
 (loop_eq E _ _ _ _).trans (by kernel_rfl)
structure G_f19 (E : Env) : Prop where
  is : Is E 411 2 f19_ac [(4, none)]
theorem f19_E {E : Env} (h : G_f19 E) (a0 a1 : U) : E 411 [a0, a1] =
 (U.lenOf false a0).bind fun n1 => (U.lenOf false a1).bind fun n2 => (U.bin .neq (.int .i64 (n1 : Int)) (.int .i64 (n2 : Int))).bind fun t3 => U.asBool t3
 (some (.bool false))
 (f19_l0 E a0 a1 (.int .i64 0)) := (h.is _ rfl).trans ((runQ_V rfl).trans (by kernel_rfl))
def f40_b2 : AC :=
 (.seq (.seq (rg [oo 11 (.mv (.t 6)),
  oo 12 (.bin .leq (.t 11) (ci 9))])
 (.cond (.t 12) .skip (.exit 0)))
 (.seq (.block 1 (rg [oo 15 (.mv (.t 5)),
  oo 16 (.bslice 0 16 1 1 (.int .i64 0) [(0, (ci (-1)))]),
  oo 17 (.append false 17 1 8 (.t 15) (.t 16)),
  oo 5 (.mv (.t 17))]))
 (rg [oo 13 (.mv (.t 6)),
  oo 14 (.bin .add (.t 13) (ci 1)),
  oo 6 (.mv (.t 14))])))
def f40_b1 : AC :=
 (.seq (.seq (rg [oo 22 (.mv (.t 8)),
  oo 23 (.mv (.t 0)),
  oo 24 (.len false (.t 23)),
  oo 25 (.bin .lss (.t 22) (.t 24))])
 (.cond (.t 25) .skip (.exit 4)))
 (.seq (.block 5 (.seq (rg [oo 28 (.mv (.t 0)),
  oo 29 (.mv (.t 8)),
  oo 30 (.iaddr 4 (.t 28) (.t 29)),
  oo 31 (.faddr 0 0 (.t 30)),
  oo 32 (.load false 1 (.t 31)),
  oo 9 (.mv (.t 32))])
 (.seq (rg [oo 33 (.mv (.t 5)),
  oo 34 (.mv (.t 9)),
  oo 35 (.iaddr 1 (.t 33) (.t 34)),
  oo 36 (.load false 1 (.t 35)),
  oo 37 (.bin .lss (.t 36) (ci 0)),
  oo 38 (.mv (.t 37)),
  ⟨some 39, .mv (.t 7), some (38, true)⟩,
  ⟨some 40, .bin .eql (.t 39) (ci 1), some (38, true)⟩,
  ⟨some 41, .mv (.t 40), some (38, true)⟩,
  ⟨some 42, .mv (.t 0), some (41, true)⟩,
  ⟨some 43, .mv (.t 8), some (41, true)⟩,
  ⟨some 44, .iaddr 4 (.t 42) (.t 43), some (41, true)⟩,
  ⟨some 45, .faddr 1 1 (.t 44), some (41, true)⟩,
  ⟨some 46, .load false 1 (.t 45), some (41, true)⟩,
  ⟨some 47, .mv (.t 1), some (41, true)⟩,
  ⟨some 48, .bin .eql (.t 46) (.t 47), some (41, true)⟩,
  ⟨some 49, .pick (.t 41) (.t 48) (.c (.bool false)), some (38, true)⟩,
  ⟨some 50, .mv (.t 49), some (38, true)⟩,
  ⟨some 51, .mv (.t 7), some (50, false)⟩,
  ⟨some 52, .bin .gtr (.t 51) (ci 1), some (50, false)⟩,
  ⟨some 53, .mv (.t 52), some (50, false)⟩,
  ⟨some 54, .mv (.t 5), some (53, true)⟩,
  ⟨some 55, .mv (.t 0), some (53, true)⟩,
  ⟨some 56, .mv (.t 8), some (53, true)⟩,
  ⟨some 57, .iaddr 4 (.t 55) (.t 56), some (53, true)⟩,
  ⟨some 58, .faddr 1 1 (.t 57), some (53, true)⟩,
  ⟨some 59, .load false 1 (.t 58), some (53, true)⟩,
  ⟨some 60, .iaddr 1 (.t 54) (.t 59), some (53, true)⟩,
  ⟨some 61, .load false 1 (.t 60), some (53, true)⟩,
  ⟨some 62, .mv (.t 7), some (53, true)⟩,
  ⟨some 63, .bin .sub (.t 62) (ci 1), some (53, true)⟩,
  ⟨some 64, .bin .eql (.t 61) (.t 63), some (53, true)⟩,
  ⟨some 65, .pick (.t 53) (.t 64) (.c (.bool false)), some (50, false)⟩,
  ⟨some 66, .pick (.t 50) (.c (.bool true)) (.t 65), some (38, true)⟩,
  oo 67 (.pick (.t 38) (.t 66) (.c (.bool false)))])
 (.cond (.t 67) (rg [oo 68 (.mv (.t 5)),
  oo 69 (.mv (.t 9)),
  oo 70 (.mv (.t 7)),
  oo 71 (.iaddr 1 (.t 68) (.t 69)),
  ⟨none, .store 1 (.t 71) (.t 70), none⟩]) .skip))))
 (rg [oo 26 (.mv (.t 8)),
  oo 27 (.bin .add (.t 26) (ci 1)),
  oo 8 (.mv (.t 27))])))
def f40_r0 : AC :=
 (rg [oo 20 (.mv (.t 7)),
  oo 21 (.bin .add (.t 20) (ci 1)),
  oo 7 (.mv (.t 21))])
def f40_b0 : AC :=
 (.seq (.seq (rg [oo 18 (.mv (.t 7)),
  oo 19 (.bin .leq (.t 18) (ci 9))])
 (.cond (.t 19) .skip (.exit 2)))
 (.seq (.block 3 (.seq (rg [oo 8 (.mv (ci 0))])
 (.block 4 (.loop ⟨[0, 1, 7, 8], [(5, 1, false)], []⟩ f40_b1))))
 f40_r0))
def f40_r1 : AC :=
 (.seq (rg [oo 72 (.mv (.t 5)),
  oo 4 (.mv (.t 72))])
 .ret)
def f40_r2 : AC :=
 (.seq (.seq (rg [oo 7 (.mv (ci 1))])
 (.block 2 (.loop ⟨[0, 1, 7], [(5, 1, false)], []⟩ f40_b0)))
 f40_r1)
def f40_ac : AC :=
 (.seq (rg [oo 4 (.mv (.c (.nsl 1)))])
 (.seq (rg [oo 10 (.bslice 1 10 1 0 (.int .i64 0) []),
  oo 5 (.mv (.t 10))])
 (.seq (.seq (rg [oo 6 (.mv (ci 0))])
 (.block 0 (.loop ⟨[0, 1, 6], [(5, 1, false)], []⟩ f40_b2)))
 f40_r2)))
noncomputable def f40_l2 (E : Env) (x0 : U) (x1 : U) (x6 : U) (c5 : List U) : Option U := loopK (roundOf E ⟨[0, 1, 6], [(5, 1, false)], []⟩ f40_b2 (blockK 0 (seqK (fun s => exec E f40_r2 s (finish [(4, none)])) (finish [(4, none)])))) ([.val x0, .val x1, .val x6], [.vir (.asl 1 c5)])
noncomputable def f40_l0 (E : Env) (x0 : U) (x1 : U) (x7 : U) (c5 : List U) : Option U := loopK (roundOf E ⟨[0, 1, 7], [(5, 1, false)], []⟩ f40_b0 (blockK 2 (seqK (fun s => exec E f40_r1 s (finish [(4, none)])) (finish [(4, none)])))) ([.val x0, .val x1, .val x7], [.vir (.asl 1 c5)])
noncomputable def f40_l1 (E : Env) (x0 : U) (x1 : U) (x7 : U) (x8 : U) (c5 : List U) : Option U := loopK (roundOf E ⟨[0, 1, 7, 8], [(5, 1, false)], []⟩ f40_b1 (blockK 4 (blockK 3 (seqK (fun s => exec E f40_r0 s (roundK ⟨[0, 1, 7], [(5, 1, false)], []⟩ (loopK (roundOf E ⟨[0, 1, 7], [(5, 1, false)], []⟩ f40_b0 (blockK 2 (seqK (fun s => exec E f40_r1 s (finish [(4, none)])) (finish [(4, none)]))))) (blockK 2 (seqK (fun s => exec E f40_r1 s (finish [(4, none)])) (finish [(4, none)]))))) (roundK ⟨[0, 1, 7], [(5, 1, false)], []⟩ (loopK (roundOf E ⟨[0, 1, 7], [(5, 1, false)], []⟩ f40_b0 (blockK 2 (seqK (fun s => exec E f40_r1 s (finish [(4, none)])) (finish [(4, none)]))))) (blockK 2 (seqK (fun s => exec E f40_r1 s (finish [(4, none)])) (finish [(4, none)])))))))) ([.val x0, .val x1, .val x7, .val x8], [.vir (.asl 1 c5)])
theorem f40_l2_eq (E : Env) (x0 : U) (x1 : U) (x6 : U) (c5 : List U) : f40_l2 E x0 x1 x6 c5 =
 (U.bin .leq x6 (.int .i64 9)).bind fun t1 => U.asBool t1
 (if 1 = 1 ∧ 1 = 1 ∧ ((c5).length + ([(.int .i64 (-1))] : List U).length) * 8 ≤ 140737488355328 then (U.bin .add x6 (.int .i64 1)).bind fun t2 => f40_l2 E x0 x1 t2 (c5 ++ ([(.int .i64 (-1))] : List U)) else none)
 (f40_l0 E x0 x1 (.int .i64 1) c5) :=
 (loop_eq E _ _ _ _).trans (by kernel_rfl)
theorem f40_l0_eq (E : Env) (x0 : U) (x1 : U) (x7 : U) (c5 : List U) : f40_l0 E x0 x1 x7 c5 =
 (U.bin .leq x7 (.int .i64 9)).bind fun t3 => U.asBool t3
 (f40_l1 E x0 x1 x7 (.int .i64 0) c5)
 (some (.sl 1 c5)) :=
 (loop_eq E _ _ _ _).trans (by kernel_rfl)
theorem f40_l1_eq (E : Env) (x0 : U) (x1 : U) (x7 : U) (x8 : U) (c5 : List U) : f40_l1 E x0 x1 x7 x8 c5 =
 (U.lenOf false x0).bind fun n4 => (U.bin .lss x8 (.int .i64 (n4 : Int))).bind fun t5 => U.asBool t5
 (U.asInt x8 fun n6 => U.elemAt 4 x0 n6 fun e7 => U.fieldAt 0 0 e7 fun f8 => U.asVar false 1 f8 fun e9 => U.asInt e9 fun n10 => if 1 = 1 ∧ 0 ≤ n10 ∧ n10 < ((c5).length : Int) then (c5[(n10 : Int).toNat]?).bind fun e11 => U.asVar false 1 e11 fun e12 => (U.bin .lss e12 (.int .i64 0)).bind fun t13 => U.asBool t13
 ((U.bin .eql x7 (.int .i64 1)).bind fun t14 => U.asBool t14
 (U.asInt x8 fun n15 => U.elemAt 4 x0 n15 fun e16 => U.fieldAt 1 1 e16 fun f17 => U.asVar false 1 f17 fun e18 => (U.bin .eql e18 x1).bind fun t19 => U.asBool t19
 (U.asInt e9 fun n20 => if 1 = 1 ∧ 0 ≤ n20 ∧ n20 < ((c5).length : Int) then if storable (.val x7) = true ∧ x7.size = 1 then (c5[(n20 : Int).toNat]?).bind fun e21 => if e21.size = 1 then (U.bin .add x8 (.int .i64 1)).bind fun t22 => f40_l1 E x0 x1 x7 t22 (c5.set (n20 : Int).toNat x7) else none else none else none)
 ((U.bin .gtr x7 (.int .i64 1)).bind fun t23 => U.asBool t23
 (U.asInt x8 fun n24 => U.elemAt 4 x0 n24 fun e25 => U.fieldAt 1 1 e25 fun f26 => U.asVar false 1 f26 fun e27 => U.asInt e27 fun n28 => if 1 = 1 ∧ 0 ≤ n28 ∧ n28 < ((c5).length : Int) then (c5[(n28 : Int).toNat]?).bind fun e29 => U.asVar false 1 e29 fun e30 => (U.bin .sub x7 (.int .i64 1)).bind fun t31 => (U.bin .eql e30 t31).bind fun t32 => U.asBool t32
 (U.asInt e9 fun n33 => if 1 = 1 ∧ 0 ≤ n33 ∧ n33 < ((c5).length : Int) then if storable (.val x7) = true ∧ x7.size = 1 then (c5[(n33 : Int).toNat]?).bind fun e34 => if e34.size = 1 then (U.bin .add x8 (.int .i64 1)).bind fun t35 => f40_l1 E x0 x1 x7 t35 (c5.set (n33 : Int).toNat x7) else none else none else none)
 ((U.bin .add x8 (.int .i64 1)).bind fun t36 => f40_l1 E x0 x1 x7 t36 c5) else none)
 ((U.bin .add x8 (.int .i64 1)).bind fun t37 => f40_l1 E x0 x1 x7 t37 c5)))
 ((U.bin .gtr x7 (.int .i64 1)).bind fun t38 => U.asBool t38
 (U.asInt x8 fun n39 => U.elemAt 4 x0 n39 fun e40 => U.fieldAt 1 1 e40 fun f41 => U.asVar false 1 f41 fun e42 => U.asInt e42 fun n43 => if 1 = 1 ∧ 0 ≤ n43 ∧ n43 < ((c5).length : Int) then (c5[(n43 : Int).toNat]?).bind fun e44 => U.asVar false 1 e44 fun e45 => (U.bin .sub x7 (.int .i64 1)).bind fun t46 => (U.bin .eql e45 t46).bind fun t47 => U.asBool t47
 (U.asInt e9 fun n48 => if 1 = 1 ∧ 0 ≤ n48 ∧ n48 < ((c5).length : Int) then if storable (.val x7) = true ∧ x7.size = 1 then (c5[(n48 : Int).toNat]?).bind fun e49 => if e49.size = 1 then (U.bin .add x8 (.int .i64 1)).bind fun t50 => f40_l1 E x0 x1 x7 t50 (c5.set (n48 : Int).toNat x7) else none else none else none)
 ((U.bin .add x8 (.int .i64 1)).bind fun t51 => f40_l1 E x0 x1 x7 t51 c5) else none)
 ((U.bin .add x8 (.int .i64 1)).bind fun t52 => f40_l1 E x0 x1 x7 t52 c5)))
 ((U.bin .add x8 (.int .i64 1)).bind fun t53 => f40_l1 E x0 x1 x7 t53 c5) else none)
 ((U.bin .add x7 (.int .i64 1)).bind fun t54 => f40_l0 E x0 x1 t54 c5) :=
 (loop_eq E _ _ _ _).trans (by kernel_rfl)
structure G_f40 (E : Env) : Prop where
  is : Is E 40 2 f40_ac [(4, none)]
theorem f40_E {E : Env} (h : G_f40 E) (a0 a1 : U) : E 40 [a0, a1] =
 f40_l2 E a0 a1 (.int .i64 0) ([] : List U) := (h.is _ rfl).trans ((runQ_V rfl).trans (by kernel_rfl))
def f38_ac : AC :=
 (.seq (rg [oo 6 (.mv (.c (.bool false)))])
 (.seq (rg [oo 7 (.mv (.t 0)),
  oo 8 (.mv (.t 1)),
  oo 9 (.bin .geq (.t 7) (.t 8)),
  oo 10 (.mv (.t 9)),
  ⟨some 11, .mv (.t 0), some (10, true)⟩,
  ⟨some 12, .mv (.t 2), some (10, true)⟩,
  ⟨some 13, .bin .leq (.t 11) (.t 12), some (10, true)⟩,
  oo 14 (.pick (.t 10) (.t 13) (.c (.bool false))),
  oo 6 (.mv (.t 14))])
 .ret))
structure G_f38 (E : Env) : Prop where
  is : Is E 6 3 f38_ac [(6, none)]
theorem f38_E {E : Env} (h : G_f38 E) (a0 a1 a2 : U) : E 6 [a0, a1, a2] =
 (U.bin .geq a0 a1).bind fun t1 => U.asBool t1
 ((U.bin .leq a0 a2).bind fun t2 => some t2)
 (some (.bool false)) := (h.is _ rfl).trans ((runQ_V rfl).trans (by kernel_rfl))
def f24_b0 : AC :=
 (.seq (.seq (rg [oo 4 (.mv (.t 3)),
  oo 5 (.mv (.t 0)),
  oo 6 (.len false (.t 5)),
  oo 7 (.bin .lss (.t 4) (.t 6))])
 (.cond (.t 7) .skip (.exit 0)))
 (.seq (.block 1 (.seq (.region 64 [oo 10 (.mv (.t 0)),
  oo 11 (.mv (.t 3)),
  oo 12 (.iaddr 4 (.t 10) (.t 11)),
  oo 13 (.faddr 0 0 (.t 12)),
  oo 14 (.load false 1 (.t 13)),
  oo 15 (.call false 6 [(.t 14), (ci 1), (ci 9)]),
  oo 16 (.un .not (.t 15)),
  oo 17 (.mv (.t 16)),
  ⟨some 18, .mv (.t 0), some (17, false)⟩,
  ⟨some 19, .mv (.t 3), some (17, false)⟩,
  ⟨some 20, .iaddr 4 (.t 18) (.t 19), some (17, false)⟩,
  ⟨some 21, .faddr 1 1 (.t 20), some (17, false)⟩,
  ⟨some 22, .load false 1 (.t 21), some (17, false)⟩,
  ⟨some 23, .call false 6 [(.t 22), (ci 1), (ci 9)], some (17, false)⟩,
  ⟨some 24, .un .not (.t 23), some (17, false)⟩,
  oo 25 (.pick (.t 17) (.c (.bool true)) (.t 24)),
  oo 26 (.mv (.t 25)),
  ⟨some 27, .mv (.t 0), some (26, false)⟩,
  ⟨some 28, .mv (.t 3), some (26, false)⟩,
  ⟨some 29, .iaddr 4 (.t 27) (.t 28), some (26, false)⟩,
  ⟨some 30, .faddr 0 0 (.t 29), some (26, false)⟩,
  ⟨some 31, .load false 1 (.t 30), some (26, false)⟩,
  ⟨some 32, .mv (.t 0), some (26, false)⟩,
  ⟨some 33, .mv (.t 3), some (26, false)⟩,
  ⟨some 34, .iaddr 4 (.t 32) (.t 33), some (26, false)⟩,
  ⟨some 35, .faddr 1 1 (.t 34), some (26, false)⟩,
  ⟨some 36, .load false 1 (.t 35), some (26, false)⟩,
  ⟨some 37, .bin .eql (.t 31) (.t 36), some (26, false)⟩,
  oo 38 (.pick (.t 26) (.c (.bool true)) (.t 37)),
  oo 39 (.mv (.t 38)),
  ⟨some 40, .mv (.t 0), some (39, false)⟩,
  ⟨some 41, .mv (.t 3), some (39, false)⟩,
  ⟨some 42, .iaddr 4 (.t 40) (.t 41), some (39, false)⟩,
  ⟨some 43, .faddr 2 2 (.t 42), some (39, false)⟩,
  ⟨some 44, .load false 1 (.t 43), some (39, false)⟩,
  ⟨some 45, .call false 6 [(.t 44), (ci 1), (ci 3)], some (39, false)⟩,
  ⟨some 46, .un .not (.t 45), some (39, false)⟩,
  oo 47 (.pick (.t 39) (.c (.bool true)) (.t 46)),
  oo 48 (.mv (.t 47)),
  ⟨some 49, .mv (.t 0), some (48, false)⟩,
  ⟨some 50, .mv (.t 3), some (48, false)⟩,
  ⟨some 51, .iaddr 4 (.t 49) (.t 50), some (48, false)⟩,
  ⟨some 52, .faddr 3 3 (.t 51), some (48, false)⟩,
  ⟨some 53, .load false 1 (.t 52), some (48, false)⟩,
  ⟨some 54, .call false 6 [(.t 53), (ci 0), (ci 5)], some (48, false)⟩,
  ⟨some 55, .un .not (.t 54), some (48, false)⟩,
  oo 56 (.pick (.t 48) (.c (.bool true)) (.t 55)),
  oo 57 (.mv (.t 56)),
  ⟨some 58, .mv (.t 3), some (57, false)⟩,
  ⟨some 59, .bin .gtr (.t 58) (ci 0), some (57, false)⟩,
  ⟨some 60, .mv (.t 59), some (57, false)⟩,
  ⟨some 61, .mv (.t 0), some (60, true)⟩,
  ⟨some 62, .mv (.t 3), some (60, true)⟩,
  ⟨some 63, .bin .sub (.t 62) (ci 1), some (60, true)⟩,
  ⟨some 64, .iaddr 4 (.t 61) (.t 63), some (60, true)⟩,
  ⟨some 65, .load true 4 (.t 64), some (60, true)⟩,
  ⟨some 66, .mv (.t 0), some (60, true)⟩,
  ⟨some 67, .mv (.t 3), some (60, true)⟩,
  ⟨some 68, .iaddr 4 (.t 66) (.t 67), some (60, true)⟩,
  ⟨some 69, .load true 4 (.t 68), some (60, true)⟩,
  ⟨some 70, .call false 7 [(.t 65), (.t 69)], some (60, true)⟩,
  ⟨some 71, .un .not (.t 70), some (60, true)⟩,
  ⟨some 72, .pick (.t 60) (.t 71) (.c (.bool false)), some (57, false)⟩,
  oo 73 (.pick (.t 57) (.c (.bool true)) (.t 72))])
 (.cond (.t 73) (.seq (rg [oo 2 (.mv (.c (.bool false)))])
 .ret) .skip)))
 (rg [oo 8 (.mv (.t 3)),
  oo 9 (.bin .add (.t 8) (ci 1)),
  oo 3 (.mv (.t 9))])))
def f24_r0 : AC :=
 (.seq (rg [oo 2 (.mv (.c (.bool true)))])
 .ret)
def f24_ac : AC :=
 (.seq (rg [oo 2 (.mv (.c (.bool false)))])
 (.seq (.seq (rg [oo 3 (.mv (ci 0))])
 (.block 0 (.loop ⟨[0, 3], [], []⟩ f24_b0)))
 f24_r0))
noncomputable def f24_l0 (E : Env) (x0 : U) (x3 : U) : Option U := loopK (roundOf E ⟨[0, 3], [], []⟩ f24_b0 (blockK 0 (seqK (fun s => exec E f24_r0 s (finish [(2, none)])) (finish [(2, none)])))) ([.val x0, .val x3], [])
theorem f24_l0_eq (E : Env) (x0 : U) (x3 : U) : f24_l0 E x0 x3 =
 (U.lenOf false x0).bind fun n1 => (U.bin .lss x3 (.int .i64 (n1 : Int))).bind fun t2 => U.asBool t2
 (U.asInt x3 fun n3 => U.elemAt 4 x0 n3 fun e4 => U.fieldAt 0 0 e4 fun f5 => U.asVar false 1 f5 fun e6 => (E 6 [e6, (.int .i64 1), (.int .i64 9)]).bind fun t7 => (U.un .not t7).bind fun t8 => U.asBool t8
 (some (.bool false))
 (U.asInt x3 fun n9 => U.elemAt 4 x0 n9 fun e10 => U.fieldAt 1 1 e10 fun f11 => U.asVar false 1 f11 fun e12 => (E 6 [e12, (.int .i64 1), (.int .i64 9)]).bind fun t13 => (U.un .not t13).bind fun t14 => U.asBool t14
 (some (.bool false))
 (U.asInt x3 fun n15 => U.elemAt 4 x0 n15 fun e16 => U.fieldAt 0 0 e16 fun f17 => U.asVar false 1 f17 fun e18 => U.asInt x3 fun n19 => U.elemAt 4 x0 n19 fun e20 => U.fieldAt 1 1 e20 fun f21 => U.asVar false 1 f21 fun e22 => (U.bin .eql e18 e22).bind fun t23 => U.asBool t23
 (some (.bool false))
 (U.asInt x3 fun n24 => U.elemAt 4 x0 n24 fun e25 => U.fieldAt 2 2 e25 fun f26 => U.asVar false 1 f26 fun e27 => (E 6 [e27, (.int .i64 1), (.int .i64 3)]).bind fun t28 => (U.un .not t28).bind fun t29 => U.asBool t29
 (some (.bool false))
 (U.asInt x3 fun n30 => U.elemAt 4 x0 n30 fun e31 => U.fieldAt 3 3 e31 fun f32 => U.asVar false 1 f32 fun e33 => (E 6 [e33, (.int .i64 0), (.int .i64 5)]).bind fun t34 => (U.un .not t34).bind fun t35 => U.asBool t35
 (some (.bool false))
 ((U.bin .gtr x3 (.int .i64 0)).bind fun t36 => U.asBool t36
 ((U.bin .sub x3 (.int .i64 1)).bind fun t37 => U.asInt t37 fun n38 => U.elemAt 4 x0 n38 fun e39 => U.asVar true 4 e39 fun e40 => U.asInt x3 fun n41 => U.elemAt 4 x0 n41 fun e42 => U.asVar true 4 e42 fun e43 => (E 7 [e40, e43]).bind fun t44 => (U.un .not t44).bind fun t45 => U.asBool t45
 (some (.bool false))
 ((U.bin .add x3 (.int .i64 1)).bind fun t46 => f24_l0 E x0 t46))
 ((U.bin .add x3 (.int .i64 1)).bind fun t47 => f24_l0 E x0 t47)))))))
 (some (.bool true)) :=
 (loop_eq E _ _ _ _).trans (by kernel_rfl)
structure G_f24 (E : Env) : Prop where
  is : Is E 4 1 f24_ac [(2, none)]
  c_f38 : G_f38 E
  c_f34 : G_f34 E
theorem f24_E {E : Env} (h : G_f24 E) (a0 : U) : E 4 [a0] =
 f24_l0 E a0 (.int .i64 0) := (h.is _ rfl).trans ((runQ_V rfl).trans (by kernel_rfl))
def f28_ac : AC :=
 (.seq (rg [oo 6 (.mv (ci 0))])
 (.seq (.seq (rg [oo 7 (.mv (.t 0)),
  oo 8 (.call false 4 [(.t 7)]),
  oo 9 (.un .not (.t 8)),
  oo 10 (.mv (.t 9)),
  ⟨some 11, .mv (.t 1), some (10, false)⟩,
  ⟨some 12, .call false 6 [(.t 11), (ci 1), (ci 9)], some (10, false)⟩,
  ⟨some 13, .un .not (.t 12), some (10, false)⟩,
  oo 14 (.pick (.t 10) (.c (.bool true)) (.t 13)),
  oo 15 (.mv (.t 14)),
  ⟨some 16, .mv (.t 2), some (15, false)⟩,
  ⟨some 17, .call false 6 [(.t 16), (ci 1), (ci 9)], some (15, false)⟩,
  ⟨some 18, .un .not (.t 17), some (15, false)⟩,
  oo 19 (.pick (.t 15) (.c (.bool true)) (.t 18))])
 (.cond (.t 19) (.seq (rg [oo 6 (.mv (ci (-1)))])
 .ret) .skip))
 (.seq (rg [oo 20 (.mv (.t 0)),
  oo 21 (.mv (.t 2)),
  oo 22 (.call false 40 [(.t 20), (.t 21)]),
  oo 23 (.mv (.t 1)),
  oo 24 (.iaddr 1 (.t 22) (.t 23)),
  oo 25 (.load false 1 (.t 24)),
  oo 6 (.mv (.t 25))])
 .ret)))
structure G_f28 (E : Env) : Prop where
  is : Is E 39 3 f28_ac [(6, none)]
  c_f40 : G_f40 E
  c_f24 : G_f24 E
  c_f38 : G_f38 E
theorem f28_E {E : Env} (h : G_f28 E) (a0 a1 a2 : U) : E 39 [a0, a1, a2] =
 (E 4 [a0]).bind fun t1 => (U.un .not t1).bind fun t2 => U.asBool t2
 (some (.int .i64 (-1)))
 ((E 6 [a1, (.int .i64 1), (.int .i64 9)]).bind fun t3 => (U.un .not t3).bind fun t4 => U.asBool t4
 (some (.int .i64 (-1)))
 ((E 6 [a2, (.int .i64 1), (.int .i64 9)]).bind fun t5 => (U.un .not t5).bind fun t6 => U.asBool t6
 (some (.int .i64 (-1)))
 ((E 40 [a0, a2]).bind fun t7 => U.asInt a1 fun n8 => U.elemAt 1 t7 n8 fun e9 => U.asVar false 1 e9 fun e10 => some e10))) := (h.is _ rfl).trans ((runQ_V rfl).trans (by kernel_rfl))
def f29_b0 : AC :=
 (.seq (.seq (rg [oo 8 (.mv (.t 7)),
  oo 9 (.mv (.t 0)),
  oo 10 (.len false (.t 9)),
  oo 11 (.bin .lss (.t 8) (.t 10))])
 (.cond (.t 11) .skip (.exit 0)))
 (.seq (.block 1 (.seq (rg [oo 14 (.mv (.t 0)),
  oo 15 (.mv (.t 7)),
  oo 16 (.iaddr 4 (.t 14) (.t 15)),
  oo 17 (.faddr 0 0 (.t 16)),
  oo 18 (.load false 1 (.t 17)),
  oo 19 (.mv (.t 1)),
  oo 20 (.bin .eql (.t 18) (.t 19)),
  oo 21 (.mv (.t 20)),
  ⟨some 22, .mv (.t 0), some (21, true)⟩,
  ⟨some 23, .mv (.t 7), some (21, true)⟩,
  ⟨some 24, .iaddr 4 (.t 22) (.t 23), some (21, true)⟩,
  ⟨some 25, .faddr 1 1 (.t 24), some (21, true)⟩,
  ⟨some 26, .load false 1 (.t 25), some (21, true)⟩,
  ⟨some 27, .mv (.t 2), some (21, true)⟩,
  ⟨some 28, .bin .eql (.t 26) (.t 27), some (21, true)⟩,
  oo 29 (.pick (.t 21) (.t 28) (.c (.bool false)))])
 (.cond (.t 29) (.seq (rg [oo 6 (.mv (.c (.bool true)))])
 .ret) .skip)))
 (rg [oo 12 (.mv (.t 7)),
  oo 13 (.bin .add (.t 12) (ci 1)),
  oo 7 (.mv (.t 13))])))
def f29_r0 : AC :=
 (.seq (rg [oo 6 (.mv (.c (.bool false)))])
 .ret)
def f29_ac : AC :=
 (.seq (rg [oo 6 (.mv (.c (.bool false)))])
 (.seq (.seq (rg [oo 7 (.mv (ci 0))])
 (.block 0 (.loop ⟨[0, 1, 2, 7], [], []⟩ f29_b0)))
 f29_r0))
noncomputable def f29_l0 (E : Env) (x0 : U) (x1 : U) (x2 : U) (x7 : U) : Option U := loopK (roundOf E ⟨[0, 1, 2, 7], [], []⟩ f29_b0 (blockK 0 (seqK (fun s => exec E f29_r0 s (finish [(6, none)])) (finish [(6, none)])))) ([.val x0, .val x1, .val x2, .val x7], [])
theorem f29_l0_eq (E : Env) (x0 : U) (x1 : U) (x2 : U) (x7 : U) : f29_l0 E x0 x1 x2 x7 =
 (U.lenOf false x0).bind fun n1 => (U.bin .lss x7 (.int .i64 (n1 : Int))).bind fun t2 => U.asBool t2
 (U.asInt x7 fun n3 => U.elemAt 4 x0 n3 fun e4 => U.fieldAt 0 0 e4 fun f5 => U.asVar false 1 f5 fun e6 => (U.bin .eql e6 x1).bind fun t7 => U.asBool t7
 (U.asInt x7 fun n8 => U.elemAt 4 x0 n8 fun e9 => U.fieldAt 1 1 e9 fun f10 => U.asVar false 1 f10 fun e11 => (U.bin .eql e11 x2).bind fun t12 => U.asBool t12
 (some (.bool true))
 ((U.bin .add x7 (.int .i64 1)).bind fun t13 => f29_l0 E x0 x1 x2 t13))
 ((U.bin .add x7 (.int .i64 1)).bind fun t14 => f29_l0 E x0 x1 x2 t14))
 (some (.bool false)) :=
 (loop_eq E _ _ _ _).trans (by kernel_rfl)
structure G_f29 (E : Env) : Prop where
  is : Is E 62 3 f29_ac [(6, none)]
theorem f29_E {E : Env} (h : G_f29 E) (a0 a1 a2 : U) : E 62 [a0, a1, a2] =
 f29_l0 E a0 a1 a2 (.int .i64 0) := (h.is _ rfl).trans ((runQ_V rfl).trans (by kernel_rfl))
def f31_b2 : AC :=
 (.seq (.seq (rg [oo 12 (.mv (.t 5)),
  oo 13 (.bin .leq (.t 12) (ci 9))])
 (.cond (.t 13) .skip (.exit 0)))
 (.seq (.block 1 (.seq (rg [oo 16 (.mv (.t 0)),
  oo 17 (.mv (.t 5)),
  oo 18 (.mv (.t 5)),
  oo 19 (.call false 39 [(.t 16), (.t 17), (.t 18)]),
  oo 6 (.mv (.t 19))])
 (.seq (rg [oo 20 (.mv (.t 6)),
  oo 21 (.bin .gtr (.t 20) (ci 0)),
  oo 22 (.mv (.t 21)),
  ⟨some 23, .mv (.t 4), some (22, true)⟩,
  ⟨some 24, .bin .lss (.t 23) (ci 0), some (22, true)⟩,
  ⟨some 25, .mv (.t 24), some (22, true)⟩,
  ⟨some 26, .mv (.t 6), some (25, false)⟩,
  ⟨some 27, .mv (.t 4), some (25, false)⟩,
  ⟨some 28, .bin .lss (.t 26) (.t 27), some (25, false)⟩,
  ⟨some 29, .pick (.t 25) (.c (.bool true)) (.t 28), some (22, true)⟩,
  oo 30 (.pick (.t 22) (.t 29) (.c (.bool false)))])
 (.cond (.t 30) (.seq (rg [oo 31 (.mv (.t 6)),
  oo 4 (.mv (.t 31))])
 (rg [oo 32 (.mv (.t 5)),
  oo 3 (.mv (.t 32))])) .skip))))
 (rg [oo 14 (.mv (.t 5)),
  oo 15 (.bin .add (.t 14) (ci 1)),
  oo 5 (.mv (.t 15))])))
def f31_b1 : AC :=
 (.seq (.seq (rg [oo 48 (.mv (.t 11)),
  oo 49 (.bin .leq (.t 48) (ci 9))])
 (.cond (.t 49) .skip (.exit 4)))
 (.seq (.block 5 (.seq (rg [oo 52 (.mv (.t 0)),
  oo 53 (.mv (.t 9)),
  oo 54 (.mv (.t 11)),
  oo 55 (.call false 62 [(.t 52), (.t 53), (.t 54)]),
  oo 56 (.mv (.t 55)),
  ⟨some 57, .mv (.t 7), some (56, true)⟩,
  ⟨some 58, .mv (.t 11), some (56, true)⟩,
  ⟨some 59, .iaddr 1 (.t 57) (.t 58), some (56, true)⟩,
  ⟨some 60, .load false 1 (.t 59), some (56, true)⟩,
  ⟨some 61, .mv (.t 10), some (56, true)⟩,
  ⟨some 62, .bin .eql (.t 60) (.t 61), some (56, true)⟩,
  oo 63 (.pick (.t 56) (.t 62) (.c (.bool false)))])
 (.cond (.t 63) (.seq (rg [oo 64 (.mv (.t 8)),
  oo 65 (.mv (.t 11)),
  oo 66 (.bslice 0 66 1 1 (.int .i64 0) [(0, (.t 65))]),
  oo 67 (.append false 67 1 8 (.t 64) (.t 66)),
  oo 8 (.mv (.t 67))])
 (.seq (rg [oo 68 (.mv (.t 11)),
  oo 9 (.mv (.t 68))])
 (.exit 4))) .skip)))
 (rg [oo 50 (.mv (.t 11)),
  oo 51 (.bin .add (.t 50) (ci 1)),
  oo 11 (.mv (.t 51))])))
def f31_r0 : AC :=
 (rg [oo 46 (.mv (.t 10)),
  oo 47 (.bin .sub (.t 46) (ci 1)),
  oo 10 (.mv (.t 47))])
def f31_b0 : AC :=
 (.seq (.seq (rg [oo 44 (.mv (.t 10)),
  oo 45 (.bin .gtr (.t 44) (ci 0))])
 (.cond (.t 45) .skip (.exit 2)))
 (.seq (.block 3 (.seq (rg [oo 11 (.mv (ci 1))])
 (.block 4 (.loop ⟨[0, 7, 9, 10, 11], [(8, 1, false)], []⟩ f31_b1))))
 f31_r0))
def f31_r1 : AC :=
 (.seq (rg [oo 69 (.mv (.t 8)),
  oo 2 (.mv (.t 69))])
 .ret)
def f31_r2 : AC :=
 (.seq (.seq (rg [oo 33 (.mv (.t 4)),
  oo 34 (.bin .lss (.t 33) (ci 0))])
 (.cond (.t 34) (.seq (rg [oo 35 (.bslice 1 35 1 0 (.int .i64 0) []),
  oo 2 (.mv (.t 35))])
 .ret) .skip))
 (.seq (rg [oo 36 (.mv (.t 0)),
  oo 37 (.mv (.t 3)),
  oo 38 (.call false 40 [(.t 36), (.t 37)]),
  oo 7 (.mv (.t 38))])
 (.seq (rg [oo 39 (.mv (.t 3)),
  oo 40 (.bslice 1 40 1 1 (.int .i64 0) [(0, (.t 39))]),
  oo 8 (.mv (.t 40))])
 (.seq (rg [oo 41 (.mv (.t 3)),
  oo 9 (.mv (.t 41))])
 (.seq (.seq (rg [oo 42 (.mv (.t 4)),
  oo 43 (.bin .sub (.t 42) (ci 1)),
  oo 10 (.mv (.t 43))])
 (.block 2 (.loop ⟨[0, 7, 9, 10], [(8, 1, false)], []⟩ f31_b0)))
 f31_r1)))))
def f31_ac : AC :=
 (.seq (rg [oo 2 (.mv (.c (.nsl 1)))])
 (.seq (rg [oo 3 (.mv (ci 0))])
 (.seq (rg [oo 4 (.mv (ci (-1)))])
 (.seq (.seq (rg [oo 5 (.mv (ci 1))])
 (.block 0 (.loop ⟨[0, 3, 4, 5], [], []⟩ f31_b2)))
 f31_r2))))
noncomputable def f31_l2 (E : Env) (x0 : U) (x3 : U) (x4 : U) (x5 : U) : Option U := loopK (roundOf E ⟨[0, 3, 4, 5], [], []⟩ f31_b2 (blockK 0 (seqK (fun s => exec E f31_r2 s (finish [(2, none)])) (finish [(2, none)])))) ([.val x0, .val x3, .val x4, .val x5], [])
noncomputable def f31_l0 (E : Env) (x0 : U) (x7 : U) (x9 : U) (x10 : U) (c8 : List U) : Option U := loopK (roundOf E ⟨[0, 7, 9, 10], [(8, 1, false)], []⟩ f31_b0 (blockK 2 (seqK (fun s => exec E f31_r1 s (finish [(2, none)])) (finish [(2, none)])))) ([.val x0, .val x7, .val x9, .val x10], [.vir (.asl 1 c8)])
noncomputable def f31_l1 (E : Env) (x0 : U) (x7 : U) (x9 : U) (x10 : U) (x11 : U) (c8 : List U) : Option U := loopK (roundOf E ⟨[0, 7, 9, 10, 11], [(8, 1, false)], []⟩ f31_b1 (blockK 4 (blockK 3 (seqK (fun s => exec E f31_r0 s (roundK ⟨[0, 7, 9, 10], [(8, 1, false)], []⟩ (loopK (roundOf E ⟨[0, 7, 9, 10], [(8, 1, false)], []⟩ f31_b0 (blockK 2 (seqK (fun s => exec E f31_r1 s (finish [(2, none)])) (finish [(2, none)]))))) (blockK 2 (seqK (fun s => exec E f31_r1 s (finish [(2, none)])) (finish [(2, none)]))))) (roundK ⟨[0, 7, 9, 10], [(8, 1, false)], []⟩ (loopK (roundOf E ⟨[0, 7, 9, 10], [(8, 1, false)], []⟩ f31_b0 (blockK 2 (seqK (fun s => exec E f31_r1 s (finish [(2, none)])) (finish [(2, none)]))))) (blockK 2 (seqK (fun s => exec E f31_r1 s (finish [(2, none)])) (finish [(2, none)])))))))) ([.val x0, .val x7, .val x9, .val x10, .val x11], [.vir (.asl 1 c8)])
theorem f31_l2_eq (E : Env) (x0 : U) (x3 : U) (x4 : U) (x5 : U) : f31_l2 E x0 x3 x4 x5 =
 (U.bin .leq x5 (.int .i64 9)).bind fun t1 => U.asBool t1
 ((E 39 [x0, x5, x5]).bind fun t2 => (U.bin .gtr t2 (.int .i64 0)).bind fun t3 => U.asBool t3
 ((U.bin .lss x4 (.int .i64 0)).bind fun t4 => U.asBool t4
 ((U.bin .add x5 (.int .i64 1)).bind fun t5 => f31_l2 E x0 x5 t2 t5)
 ((U.bin .lss t2 x4).bind fun t6 => U.asBool t6
 ((U.bin .add x5 (.int .i64 1)).bind fun t7 => f31_l2 E x0 x5 t2 t7)
 ((U.bin .add x5 (.int .i64 1)).bind fun t8 => f31_l2 E x0 x3 x4 t8)))
 ((U.bin .add x5 (.int .i64 1)).bind fun t9 => f31_l2 E x0 x3 x4 t9))
 ((U.bin .lss x4 (.int .i64 0)).bind fun t10 => U.asBool t10
 (some (.sl 1 ([] : List U)))
 ((E 40 [x0, x3]).bind fun t11 => if partable (.val x3) = true ∧ x3.size = 1 then (U.bin .sub x4 (.int .i64 1)).bind fun t12 => f31_l0 E x0 t11 x3 t12 [x3] else none)) :=
 (loop_eq E _ _ _ _).trans (by kernel_rfl)
theorem f31_l0_eq (E : Env) (x0 : U) (x7 : U) (x9 : U) (x10 : U) (c8 : List U) : f31_l0 E x0 x7 x9 x10 c8 =
 (U.bin .gtr x10 (.int .i64 0)).bind fun t13 => U.asBool t13
 (f31_l1 E x0 x7 x9 x10 (.int .i64 1) c8)
 (some (.sl 1 c8)) :=
 (loop_eq E _ _ _ _).trans (by kernel_rfl)
theorem f31_l1_eq (E : Env) (x0 : U) (x7 : U) (x9 : U) (x10 : U) (x11 : U) (c8 : List U) : f31_l1 E x0 x7 x9 x10 x11 c8 =
 (U.bin .leq x11 (.int .i64 9)).bind fun t14 => U.asBool t14
 ((E 62 [x0, x9, x11]).bind fun t15 => U.asBool t15
 (U.asInt x11 fun n16 => U.elemAt 1 x7 n16 fun e17 => U.asVar false 1 e17 fun e18 => (U.bin .eql e18 x10).bind fun t19 => U.asBool t19
 (if partable (.val x11) = true ∧ x11.size = 1 then if 1 = 1 ∧ 1 = 1 ∧ ((c8).length + ([x11] : List U).length) * 8 ≤ 140737488355328 then (U.bin .sub x10 (.int .i64 1)).bind fun t20 => f31_l0 E x0 x7 x11 t20 (c8 ++ ([x11] : List U)) else none else none)
 ((U.bin .add x11 (.int .i64 1)).bind fun t21 => f31_l1 E x0 x7 x9 x10 t21 c8))
 ((U.bin .add x11 (.int .i64 1)).bind fun t22 => f31_l1 E x0 x7 x9 x10 t22 c8))
 ((U.bin .sub x10 (.int .i64 1)).bind fun t23 => f31_l0 E x0 x7 x9 t23 c8) :=
 (loop_eq E _ _ _ _).trans (by kernel_rfl)
structure G_f31 (E : Env) : Prop where
  is : Is E 80 1 f31_ac [(2, none)]
  c_f28 : G_f28 E
  c_f40 : G_f40 E
  c_f29 : G_f29 E
theorem f31_E {E : Env} (h : G_f31 E) (a0 : U) : E 80 [a0] =
 f31_l2 E a0 (.int .i64 0) (.int .i64 (-1)) (.int .i64 1) := (h.is _ rfl).trans ((runQ_V rfl).trans (by kernel_rfl))
def f10_ac : AC :=
 (.seq (rg [oo 2 (.mv (.c (.bool false)))])
 (.seq (rg [oo 3 (.mv (.t 0)),
  oo 4 (.call false 3 [(.t 3)]),
  oo 5 (.mv (.t 4)),
  ⟨some 6, .mv (.t 0), some (5, true)⟩,
  ⟨some 7, .call false 81 [(.t 6)], some (5, true)⟩,
  ⟨some 8, .len false (.t 7), some (5, true)⟩,
  ⟨some 9, .bin .eql (.t 8) (ci 0), some (5, true)⟩,
  oo 10 (.pick (.t 5) (.t 9) (.c (.bool false))),
  oo 2 (.mv (.t 10))])
 .ret))
structure G_f10 (E : Env) : Prop where
  is : Is E 78 1 f10_ac [(2, none)]
  c_f11 : G_f11 E
  c_f3 : G_f3 E
theorem f10_E {E : Env} (h : G_f10 E) (a0 : U) : E 78 [a0] =
 (E 3 [a0]).bind fun t1 => U.asBool t1
 ((E 81 [a0]).bind fun t2 => (U.lenOf false t2).bind fun n3 => (U.bin .eql (.int .i64 (n3 : Int)) (.int .i64 0)).bind fun t4 => some t4)
 (some (.bool false)) := (h.is _ rfl).trans ((runQ_V rfl).trans (by kernel_rfl))
def f30_ac : AC :=
 (.seq (rg [oo 2 (.mv (.c (.bool false)))])
 (.seq (rg [oo 3 (.mv (.t 0)),
  oo 4 (.call false 4 [(.t 3)]),
  oo 5 (.mv (.t 4)),
  ⟨some 6, .mv (.t 0), some (5, true)⟩,
  ⟨some 7, .call false 80 [(.t 6)], some (5, true)⟩,
  ⟨some 8, .len false (.t 7), some (5, true)⟩,
  ⟨some 9, .bin .eql (.t 8) (ci 0), some (5, true)⟩,
  oo 10 (.pick (.t 5) (.t 9) (.c (.bool false))),
  oo 2 (.mv (.t 10))])
 .ret))
structure G_f30 (E : Env) : Prop where
  is : Is E 79 1 f30_ac [(2, none)]
  c_f31 : G_f31 E
  c_f24 : G_f24 E
theorem f30_E {E : Env} (h : G_f30 E) (a0 : U) : E 79 [a0] =
 (E 4 [a0]).bind fun t1 => U.asBool t1
 ((E 80 [a0]).bind fun t2 => (U.lenOf false t2).bind fun n3 => (U.bin .eql (.int .i64 (n3 : Int)) (.int .i64 0)).bind fun t4 => some t4)
 (some (.bool false)) := (h.is _ rfl).trans ((runQ_V rfl).trans (by kernel_rfl))
def f4_b0 : AC :=
 (.seq (rg [oo 18 (.bin .lss (.t 17) (.t 16))])
 (.seq (.cond (.t 18) .skip (.exit 0))
 (.seq (.block 1 (.seq (rg [oo 19 (.mv (.t 17)),
  oo 20 (.iaddr 1 (.t 15) (.t 17)),
  oo 21 (.load false 1 (.t 20)),
  oo 5 (.mv (.t 19)),
  oo 6 (.mv (.t 21))])
 (.seq (rg [oo 22 (.mv (.t 1)),
  oo 23 (.mv (.t 5)),
  oo 24 (.slice false 1 (.t 22) none (some (.t 23))),
  oo 25 (.mv (.t 6)),
  oo 26 (.call false 42 [(.t 24), (.t 25)]),
  oo 27 (.mv (.t 26)),
  ⟨some 28, .mv (.t 0), some (27, false)⟩,
  ⟨some 29, .mv (.t 6), some (27, false)⟩,
  ⟨some 30, .mv (.t 1), some (27, false)⟩,
  ⟨some 31, .mv (.t 5), some (27, false)⟩,
  ⟨some 32, .bin .add (.t 31) (ci 1), some (27, false)⟩,
  ⟨some 33, .mv (.t 1), some (27, false)⟩,
  ⟨some 34, .len false (.t 33), some (27, false)⟩,
  ⟨some 35, .bin .rem (.t 32) (.t 34), some (27, false)⟩,
  ⟨some 36, .iaddr 1 (.t 30) (.t 35), some (27, false)⟩,
  ⟨some 37, .load false 1 (.t 36), some (27, false)⟩,
  ⟨some 38, .call false 63 [(.t 28), (.t 29), (.t 37)], some (27, false)⟩,
  ⟨some 39, .un .not (.t 38), some (27, false)⟩,
  oo 40 (.pick (.t 27) (.c (.bool true)) (.t 39))])
 (.cond (.t 40) (.seq (rg [oo 4 (.mv (.c (.bool false)))])
 .ret) .skip))))
 (rg [oo 41 (.bin .add (.t 17) (ci 1)),
  oo 17 (.mv (.t 41))]))))
def f4_r0 : AC :=
 (.seq (rg [oo 4 (.mv (.c (.bool true)))])
 .ret)
def f4_ac : AC :=
 (.seq (rg [oo 4 (.mv (.c (.bool false)))])
 (.seq (.seq (rg [oo 7 (.mv (.t 0)),
  oo 8 (.call false 3 [(.t 7)]),
  oo 9 (.un .not (.t 8)),
  oo 10 (.mv (.t 9)),
  ⟨some 11, .mv (.t 1), some (10, false)⟩,
  ⟨some 12, .len false (.t 11), some (10, false)⟩,
  ⟨some 13, .bin .lss (.t 12) (ci 2), some (10, false)⟩,
  oo 14 (.pick (.t 10) (.c (.bool true)) (.t 13))])
 (.cond (.t 14) (.seq (rg [oo 4 (.mv (.c (.bool false)))])
 .ret) .skip))
 (.seq (.seq (rg [oo 15 (.mv (.t 1)),
  oo 16 (.len false (.t 15)),
  oo 17 (.mv (ci 0))])
 (.block 0 (.loop ⟨[0, 1, 15, 16, 17], [], []⟩ f4_b0)))
 f4_r0)))
noncomputable def f4_l0 (E : Env) (x0 : U) (x1 : U) (x15 : U) (x16 : U) (x17 : U) : Option U := loopK (roundOf E ⟨[0, 1, 15, 16, 17], [], []⟩ f4_b0 (blockK 0 (seqK (fun s => exec E f4_r0 s (finish [(4, none)])) (finish [(4, none)])))) ([.val x0, .val x1, .val x15, .val x16, .val x17], [])
theorem f4_l0_eq (E : Env) (x0 : U) (x1 : U) (x15 : U) (x16 : U) (x17 : U) : f4_l0 E x0 x1 x15 x16 x17 =
 (U.bin .lss x17 x16).bind fun t6 => U.asBool t6
 (U.asInt x17 fun n7 => U.elemAt 1 x15 n7 fun e8 => U.asVar false 1 e8 fun e9 => U.asInt x17 fun n10 => (U.cut false 1 x1 none (some n10)).bind fun t11 => (E 42 [t11, e9]).bind fun t12 => U.asBool t12
 (some (.bool false))
 ((U.bin .add x17 (.int .i64 1)).bind fun t13 => (U.lenOf false x1).bind fun n14 => (U.bin .rem t13 (.int .i64 (n14 : Int))).bind fun t15 => U.asInt t15 fun n16 => U.elemAt 1 x1 n16 fun e17 => U.asVar false 1 e17 fun e18 => (E 63 [x0, e9, e18]).bind fun t19 => (U.un .not t19).bind fun t20 => U.asBool t20
 (some (.bool false))
 ((U.bin .add x17 (.int .i64 1)).bind fun t21 => f4_l0 E x0 x1 x15 x16 t21)))
 (some (.bool true)) :=
 (loop_eq E _ _ _ _).trans (by kernel_rfl)
structure G_f4 (E : Env) : Prop where
  is : Is E 60 2 f4_ac [(4, none)]
  c_f3 : G_f3 E
  c_f8 : G_f8 E
  c_f21 : G_f21 E
theorem f4_E {E : Env} (h : G_f4 E) (a0 a1 : U) : E 60 [a0, a1] =
 (E 3 [a0]).bind fun t1 => (U.un .not t1).bind fun t2 => U.asBool t2
 (some (.bool false))
 ((U.lenOf false a1).bind fun n3 => (U.bin .lss (.int .i64 (n3 : Int)) (.int .i64 2)).bind fun t4 => U.asBool t4
 (some (.bool false))
 ((U.lenOf false a1).bind fun n5 => f4_l0 E a0 a1 a1 (.int .i64 (n5 : Int)) (.int .i64 0))) := (h.is _ rfl).trans ((runQ_V rfl).trans (by kernel_rfl))
def f6_ac : AC :=
 (.seq (rg [oo 3 (.box false 3 (.t 0)),
  oo 4 (.mv (.c (.bool false)))])
 (.seq (rg [oo 5 (.faddr 0 0 (.t 3)),
  oo 6 (.load false 1 (.t 5)),
  oo 7 (.load false 1 (.t 1)),
  oo 8 (.bin .eql (.t 6) (.t 7)),
  oo 9 (.mv (.t 8)),
  ⟨some 10, .faddr 1 1 (.t 3), some (9, true)⟩,
  ⟨some 11, .load false 1 (.t 10), some (9, true)⟩,
  ⟨some 12, .load false 1 (.t 2), some (9, true)⟩,
  ⟨some 13, .bin .eql (.t 11) (.t 12), some (9, true)⟩,
  oo 14 (.pick (.t 9) (.t 13) (.c (.bool false))),
  oo 4 (.mv (.t 14))])
 .ret))
structure G_f6 (E : Env) : Prop where
  is : Is E 88 3 f6_ac [(4, none)]
theorem f6_E {E : Env} (h : G_f6 E) (a0 a1 a2 : U) : E 88 [a0, a1, a2] =
 U.noTup a0 fun x1 => U.asAgg x1 fun us2 => if 0 = sizes (us2.take 0) then (us2[0]?).bind fun e3 => U.asVar false 1 e3 fun e4 => U.asVp a1 fun v5 => U.asVar false 1 v5 fun e6 => (U.bin .eql e4 e6).bind fun t7 => U.asBool t7
 (U.asAgg x1 fun us8 => if 1 = sizes (us8.take 1) then (us8[1]?).bind fun e9 => U.asVar false 1 e9 fun e10 => U.asVp a2 fun v11 => U.asVar false 1 v11 fun e12 => (U.bin .eql e10 e12).bind fun t13 => some t13 else none)
 (some (.bool false)) else none := (h.is _ rfl).trans ((runQ_V rfl).trans (by kernel_rfl))
def f5_b0 : AC :=
 (.seq (rg [oo 17 (.bin .lss (.t 16) (.t 15))])
 (.seq (.cond (.t 17) .skip (.exit 0))
 (.seq (.block 1 (.seq (rg [oo 18 (.mv (.t 16)),
  oo 19 (.iaddr 1 (.t 14) (.t 16)),
  oo 20 (.load false 1 (.t 19)),
  oo 7 (.alloc 7 (.int .i64 0)),
  oo 6 (.mv (.t 18)),
  ⟨none, .store 1 (.t 7) (.t 20), none⟩])
 (.seq (rg [oo 21 (.mv (.t 1)),
  oo 22 (.mv (.t 6)),
  oo 23 (.bin .add (.t 22) (ci 1)),
  oo 24 (.mv (.t 1)),
  oo 25 (.len false (.t 24)),
  oo 26 (.bin .rem (.t 23) (.t 25)),
  oo 27 (.iaddr 1 (.t 21) (.t 26)),
  oo 28 (.load false 1 (.t 27)),
  oo 8 (.alloc 8 (.int .i64 0)),
  ⟨none, .store 1 (.t 8) (.t 28), none⟩])
 (rg [oo 29 (.mv (.t 5)),
  oo 30 (.mv (.t 0)),
  oo 31 (.mv (.t 0)),
  oo 32 (.mkfn 88 [(.t 7), (.t 8)]),
  oo 33 (.call false 66 [(.t 31), (.t 32)]),
  oo 34 (.iaddr 4 (.t 30) (.t 33)),
  oo 35 (.load true 4 (.t 34)),
  oo 36 (.bslice 0 36 4 1 (.agg [(.int .i64 0), (.int .i64 0), (.int .i64 0), (.int .i64 0)]) [(0, (.t 35))]),
  oo 37 (.append false 37 4 32 (.t 29) (.t 36)),
  oo 5 (.mv (.t 37))]))))
 (rg [oo 38 (.bin .add (.t 16) (ci 1)),
  oo 16 (.mv (.t 38))]))))
def f5_r0 : AC :=
 (.seq (rg [oo 39 (.mv (.t 5)),
  oo 4 (.mv (.t 39))])
 .ret)
def f5_ac : AC :=
 (.seq (rg [oo 4 (.mv (.c (.nsl 4)))])
 (.seq (.seq (rg [oo 9 (.mv (.t 0)),
  oo 10 (.mv (.t 1)),
  oo 11 (.call false 60 [(.t 9), (.t 10)]),
  oo 12 (.un .not (.t 11))])
 (.cond (.t 12) (.seq (rg [oo 4 (.mv (.c (.nsl 4)))])
 .ret) .skip))
 (.seq (rg [oo 13 (.bslice 1 13 4 0 (.agg [(.int .i64 0), (.int .i64 0), (.int .i64 0), (.int .i64 0)]) []),
  oo 5 (.mv (.t 13))])
 (.seq (.seq (rg [oo 14 (.mv (.t 1)),
  oo 15 (.len false (.t 14)),
  oo 16 (.mv (ci 0))])
 (.block 0 (.loop ⟨[0, 1, 14, 15, 16], [(5, 4, false)], []⟩ f5_b0)))
 f5_r0))))
noncomputable def f5_l0 (E : Env) (x0 : U) (x1 : U) (x14 : U) (x15 : U) (x16 : U) (c5 : List U) : Option U := loopK (roundOf E ⟨[0, 1, 14, 15, 16], [(5, 4, false)], []⟩ f5_b0 (blockK 0 (seqK (fun s => exec E f5_r0 s (finish [(4, none)])) (finish [(4, none)])))) ([.val x0, .val x1, .val x14, .val x15, .val x16], [.vir (.asl 4 c5)])
theorem f5_l0_eq (E : Env) (x0 : U) (x1 : U) (x14 : U) (x15 : U) (x16 : U) (c5 : List U) : f5_l0 E x0 x1 x14 x15 x16 c5 =
 (U.bin .lss x16 x15).bind fun t4 => U.asBool t4
 (U.asInt x16 fun n5 => U.elemAt 1 x14 n5 fun e6 => U.asVar false 1 e6 fun e7 => if storable (.val e7) = true ∧ e7.size = 1 then (U.bin .add x16 (.int .i64 1)).bind fun t8 => (U.lenOf false x1).bind fun n9 => (U.bin .rem t8 (.int .i64 (n9 : Int))).bind fun t10 => U.asInt t10 fun n11 => U.elemAt 1 x1 n11 fun e12 => U.asVar false 1 e12 fun e13 => if storable (.val e13) = true ∧ e13.size = 1 then (E 66 [x0, (.fn 88 [(.vp e7), (.vp e13)])]).bind fun t14 => U.asFlat t14 fun t15 => U.asInt t15 fun n16 => U.elemAt 4 x0 n16 fun e17 => U.asVar true 4 e17 fun e18 => if partable (.val e18) = true ∧ e18.size = 4 then if 4 = 4 ∧ 4 = 4 ∧ ((c5).length + ([e18] : List U).length) * 32 ≤ 140737488355328 then (U.bin .add x16 (.int .i64 1)).bind fun t19 => f5_l0 E x0 x1 x14 x15 t19 (c5 ++ ([e18] : List U)) else none else none else none else none)
 (some (.sl 4 c5)) :=
 (loop_eq E _ _ _ _).trans (by kernel_rfl)
structure G_f5 (E : Env) : Prop where
  is : Is E 84 2 f5_ac [(4, none)]
  c_f4 : G_f4 E
  c_f22 : G_f22 E
  c_f6 : G_f6 E
theorem f5_E {E : Env} (h : G_f5 E) (a0 a1 : U) : E 84 [a0, a1] =
 (E 60 [a0, a1]).bind fun t1 => (U.un .not t1).bind fun t2 => U.asBool t2
 (some (.nsl 4))
 ((U.lenOf false a1).bind fun n3 => f5_l0 E a0 a1 a1 (.int .i64 (n3 : Int)) (.int .i64 0) ([] : List U)) := (h.is _ rfl).trans ((runQ_V rfl).trans (by kernel_rfl))
def f7_ac : AC :=
 (.seq (rg [oo 6 (.mv (ci 0))])
 (.seq (.seq (rg [oo 7 (.mv (.t 0)),
  oo 8 (.call false 3 [(.t 7)]),
  oo 9 (.un .not (.t 8)),
  oo 10 (.mv (.t 9)),
  ⟨some 11, .mv (.t 1), some (10, false)⟩,
  ⟨some 12, .call false 9 [(.t 11)], some (10, false)⟩,
  ⟨some 13, .un .not (.t 12), some (10, false)⟩,
  oo 14 (.pick (.t 10) (.c (.bool true)) (.t 13)),
  oo 15 (.mv (.t 14)),
  ⟨some 16, .mv (.t 2), some (15, false)⟩,
  ⟨some 17, .call false 9 [(.t 16)], some (15, false)⟩,
  ⟨some 18, .un .not (.t 17), some (15, false)⟩,
  oo 19 (.pick (.t 15) (.c (.bool true)) (.t 18))])
 (.cond (.t 19) (.seq (rg [oo 6 (.mv (ci (-1)))])
 .ret) .skip))
 (.seq (rg [oo 20 (.mv (.t 0)),
  oo 21 (.mv (.t 2)),
  oo 22 (.call false 41 [(.t 20), (.t 21)]),
  oo 23 (.mv (.t 1)),
  oo 24 (.idxa false 1 10 1 (.t 22) (.t 23)),
  oo 6 (.mv (.t 24))])
 .ret)))
structure G_f7 (E : Env) : Prop where
  is : Is E 38 3 f7_ac [(6, none)]
  c_f3 : G_f3 E
  c_f13 : G_f13 E
  c_f15 : G_f15 E
theorem f7_E {E : Env} (h : G_f7 E) (a0 a1 a2 : U) : E 38 [a0, a1, a2] =
 (E 3 [a0]).bind fun t1 => (U.un .not t1).bind fun t2 => U.asBool t2
 (some (.int .i64 (-1)))
 ((E 9 [a1]).bind fun t3 => (U.un .not t3).bind fun t4 => U.asBool t4
 (some (.int .i64 (-1)))
 ((E 9 [a2]).bind fun t5 => (U.un .not t5).bind fun t6 => U.asBool t6
 (some (.int .i64 (-1)))
 ((E 41 [a0, a2]).bind fun t7 => U.asInt a1 fun n8 => if 0 ≤ n8 ∧ n8 < 10 then U.fieldAt (n8 : Int).toNat ((n8 : Int).toNat * 1) t7 fun e9 => U.asVar false 1 e9 fun e10 => some e10 else none))) := (h.is _ rfl).trans ((runQ_V rfl).trans (by kernel_rfl))
def f32_b2 : AC :=
 (.seq (.seq (rg [oo 12 (.mv (.t 5)),
  oo 13 (.bin .leq (.t 12) (ci 9))])
 (.cond (.t 13) .skip (.exit 0)))
 (.seq (.block 1 (.seq (rg [oo 16 (.mv (.t 0)),
  oo 17 (.mv (.t 5)),
  oo 18 (.mv (.t 5)),
  oo 19 (.call false 39 [(.t 16), (.t 17), (.t 18)]),
  oo 6 (.mv (.t 19))])
 (.seq (rg [oo 20 (.mv (.t 6)),
  oo 21 (.bin .gtr (.t 20) (ci 0)),
  oo 22 (.mv (.t 21)),
  ⟨some 23, .mv (.t 4), some (22, true)⟩,
  ⟨some 24, .bin .lss (.t 23) (ci 0), some (22, true)⟩,
  ⟨some 25, .mv (.t 24), some (22, true)⟩,
  ⟨some 26, .mv (.t 6), some (25, false)⟩,
  ⟨some 27, .mv (.t 4), some (25, false)⟩,
  ⟨some 28, .bin .lss (.t 26) (.t 27), some (25, false)⟩,
  ⟨some 29, .pick (.t 25) (.c (.bool true)) (.t 28), some (22, true)⟩,
  oo 30 (.pick (.t 22) (.t 29) (.c (.bool false)))])
 (.cond (.t 30) (.seq (rg [oo 31 (.mv (.t 6)),
  oo 4 (.mv (.t 31))])
 (rg [oo 32 (.mv (.t 5)),
  oo 3 (.mv (.t 32))])) .skip))))
 (rg [oo 14 (.mv (.t 5)),
  oo 15 (.bin .add (.t 14) (ci 1)),
  oo 5 (.mv (.t 15))])))
def f32_b1 : AC :=
 (.seq (.seq (rg [oo 48 (.mv (.t 11)),
  oo 49 (.bin .leq (.t 48) (ci 9))])
 (.cond (.t 49) .skip (.exit 4)))
 (.seq (.block 5 (.seq (rg [oo 52 (.mv (.t 0)),
  oo 53 (.mv (.t 9)),
  oo 54 (.mv (.t 11)),
  oo 55 (.call false 62 [(.t 52), (.t 53), (.t 54)]),
  oo 56 (.mv (.t 55)),
  ⟨some 57, .mv (.t 7), some (56, true)⟩,
  ⟨some 58, .mv (.t 11), some (56, true)⟩,
  ⟨some 59, .iaddr 1 (.t 57) (.t 58), some (56, true)⟩,
  ⟨some 60, .load false 1 (.t 59), some (56, true)⟩,
  ⟨some 61, .mv (.t 10), some (56, true)⟩,
  ⟨some 62, .bin .eql (.t 60) (.t 61), some (56, true)⟩,
  oo 63 (.pick (.t 56) (.t 62) (.c (.bool false)))])
 (.cond (.t 63) (.seq (rg [oo 64 (.mv (.t 8)),
  oo 65 (.mv (.t 11)),
  oo 66 (.bslice 0 66 1 1 (.int .i64 0) [(0, (.t 65))]),
  oo 67 (.append false 67 1 8 (.t 64) (.t 66)),
  oo 8 (.mv (.t 67))])
 (.seq (rg [oo 68 (.mv (.t 11)),
  oo 9 (.mv (.t 68))])
 (.exit 4))) .skip)))
 (rg [oo 50 (.mv (.t 11)),
  oo 51 (.bin .add (.t 50) (ci 1)),
  oo 11 (.mv (.t 51))])))
def f32_r0 : AC :=
 (rg [oo 46 (.mv (.t 10)),
  oo 47 (.bin .sub (.t 46) (ci 1)),
  oo 10 (.mv (.t 47))])
def f32_b0 : AC :=
 (.seq (.seq (rg [oo 44 (.mv (.t 10)),
  oo 45 (.bin .gtr (.t 44) (ci 0))])
 (.cond (.t 45) .skip (.exit 2)))
 (.seq (.block 3 (.seq (rg [oo 11 (.mv (ci 1))])
 (.block 4 (.loop ⟨[0, 7, 9, 10, 11], [(8, 1, false)], []⟩ f32_b1))))
 f32_r0))
def f32_r1 : AC :=
 (.seq (rg [oo 69 (.mv (.t 8)),
  oo 2 (.mv (.t 69))])
 .ret)
def f32_r2 : AC :=
 (.seq (.seq (rg [oo 33 (.mv (.t 4)),
  oo 34 (.bin .lss (.t 33) (ci 0))])
 (.cond (.t 34) (.seq (rg [oo 35 (.bslice 1 35 1 0 (.int .i64 0) []),
  oo 2 (.mv (.t 35))])
 .ret) .skip))
 (.seq (rg [oo 36 (.mv (.t 0)),
  oo 37 (.mv (.t 3)),
  oo 38 (.call false 40 [(.t 36), (.t 37)]),
  oo 7 (.mv (.t 38))])
 (.seq (rg [oo 39 (.mv (.t 3)),
  oo 40 (.bslice 1 40 1 1 (.int .i64 0) [(0, (.t 39))]),
  oo 8 (.mv (.t 40))])
 (.seq (rg [oo 41 (.mv (.t 3)),
  oo 9 (.mv (.t 41))])
 (.seq (.seq (rg [oo 42 (.mv (.t 4)),
  oo 43 (.bin .sub (.t 42) (ci 1)),
  oo 10 (.mv (.t 43))])
 (.block 2 (.loop ⟨[0, 7, 9, 10], [(8, 1, false)], []⟩ f32_b0)))
 f32_r1)))))
def f32_ac : AC :=
 (.seq (rg [oo 2 (.mv (.c (.nsl 1)))])
 (.seq (rg [oo 3 (.mv (ci 0))])
 (.seq (rg [oo 4 (.mv (ci (-1)))])
 (.seq (.seq (rg [oo 5 (.mv (ci 1))])
 (.block 0 (.loop ⟨[0, 3, 4, 5], [], []⟩ f32_b2)))
 f32_r2))))
noncomputable def f32_l2 (E : Env) (x0 : U) (x3 : U) (x4 : U) (x5 : U) : Option U := loopK (roundOf E ⟨[0, 3, 4, 5], [], []⟩ f32_b2 (blockK 0 (seqK (fun s => exec E f32_r2 s (finishF [(2, none)])) (finishF [(2, none)])))) ([.val x0, .val x3, .val x4, .val x5], [])
noncomputable def f32_l0 (E : Env) (x0 : U) (x7 : U) (x9 : U) (x10 : U) (c8 : List U) : Option U := loopK (roundOf E ⟨[0, 7, 9, 10], [(8, 1, false)], []⟩ f32_b0 (blockK 2 (seqK (fun s => exec E f32_r1 s (finishF [(2, none)])) (finishF [(2, none)])))) ([.val x0, .val x7, .val x9, .val x10], [.vir (.asl 1 c8)])
noncomputable def f32_l1 (E : Env) (x0 : U) (x7 : U) (x9 : U) (x10 : U) (x11 : U) (c8 : List U) : Option U := loopK (roundOf E ⟨[0, 7, 9, 10, 11], [(8, 1, false)], []⟩ f32_b1 (blockK 4 (blockK 3 (seqK (fun s => exec E f32_r0 s (roundK ⟨[0, 7, 9, 10], [(8, 1, false)], []⟩ (loopK (roundOf E ⟨[0, 7, 9, 10], [(8, 1, false)], []⟩ f32_b0 (blockK 2 (seqK (fun s => exec E f32_r1 s (finishF [(2, none)])) (finishF [(2, none)]))))) (blockK 2 (seqK (fun s => exec E f32_r1 s (finishF [(2, none)])) (finishF [(2, none)]))))) (roundK ⟨[0, 7, 9, 10], [(8, 1, false)], []⟩ (loopK (roundOf E ⟨[0, 7, 9, 10], [(8, 1, false)], []⟩ f32_b0 (blockK 2 (seqK (fun s => exec E f32_r1 s (finishF [(2, none)])) (finishF [(2, none)]))))) (blockK 2 (seqK (fun s => exec E f32_r1 s (finishF [(2, none)])) (finishF [(2, none)])))))))) ([.val x0, .val x7, .val x9, .val x10, .val x11], [.vir (.asl 1 c8)])
theorem f32_l2_eq (E : Env) (x0 : U) (x3 : U) (x4 : U) (x5 : U) : f32_l2 E x0 x3 x4 x5 =
 (U.bin .leq x5 (.int .i64 9)).bind fun t1 => U.asBool t1
 ((E 39 [x0, x5, x5]).bind fun t2 => (U.bin .gtr t2 (.int .i64 0)).bind fun t3 => U.asBool t3
 ((U.bin .lss x4 (.int .i64 0)).bind fun t4 => U.asBool t4
 ((U.bin .add x5 (.int .i64 1)).bind fun t5 => f32_l2 E x0 x5 t2 t5)
 ((U.bin .lss t2 x4).bind fun t6 => U.asBool t6
 ((U.bin .add x5 (.int .i64 1)).bind fun t7 => f32_l2 E x0 x5 t2 t7)
 ((U.bin .add x5 (.int .i64 1)).bind fun t8 => f32_l2 E x0 x3 x4 t8)))
 ((U.bin .add x5 (.int .i64 1)).bind fun t9 => f32_l2 E x0 x3 x4 t9))
 ((U.bin .lss x4 (.int .i64 0)).bind fun t10 => U.asBool t10
 (if U.flat.flats ([] : List U) = true then some (.sl 1 ([] : List U)) else none)
 ((E 40 [x0, x3]).bind fun t11 => if partable (.val x3) = true ∧ x3.size = 1 then (U.bin .sub x4 (.int .i64 1)).bind fun t12 => f32_l0 E x0 t11 x3 t12 [x3] else none)) :=
 (loop_eq E _ _ _ _).trans (by kernel_rfl)
theorem f32_l0_eq (E : Env) (x0 : U) (x7 : U) (x9 : U) (x10 : U) (c8 : List U) : f32_l0 E x0 x7 x9 x10 c8 =
 (U.bin .gtr x10 (.int .i64 0)).bind fun t13 => U.asBool t13
 (f32_l1 E x0 x7 x9 x10 (.int .i64 1) c8)
 (if U.flat.flats c8 = true then some (.sl 1 c8) else none) :=
 (loop_eq E _ _ _ _).trans (by kernel_rfl)
theorem f32_l1_eq (E : Env) (x0 : U) (x7 : U) (x9 : U) (x10 : U) (x11 : U) (c8 : List U) : f32_l1 E x0 x7 x9 x10 x11 c8 =
 (U.bin .leq x11 (.int .i64 9)).bind fun t14 => U.asBool t14
 ((E 62 [x0, x9, x11]).bind fun t15 => U.asBool t15
 (U.asInt x11 fun n16 => U.elemAt 1 x7 n16 fun e17 => U.asVar false 1 e17 fun e18 => (U.bin .eql e18 x10).bind fun t19 => U.asBool t19
 (if partable (.val x11) = true ∧ x11.size = 1 then if 1 = 1 ∧ 1 = 1 ∧ ((c8).length + ([x11] : List U).length) * 8 ≤ 140737488355328 then (U.bin .sub x10 (.int .i64 1)).bind fun t20 => f32_l0 E x0 x7 x11 t20 (c8 ++ ([x11] : List U)) else none else none)
 ((U.bin .add x11 (.int .i64 1)).bind fun t21 => f32_l1 E x0 x7 x9 x10 t21 c8))
 ((U.bin .add x11 (.int .i64 1)).bind fun t22 => f32_l1 E x0 x7 x9 x10 t22 c8))
 ((U.bin .sub x10 (.int .i64 1)).bind fun t23 => f32_l0 E x0 x7 x9 t23 c8) :=
 (loop_eq E _ _ _ _).trans (by kernel_rfl)
structure G_f32 (E : Env) : Prop where
  is : Is E 100080 1 f32_ac [(2, none)]
  c_f28 : G_f28 E
  c_f40 : G_f40 E
  c_f29 : G_f29 E
theorem f32_E {E : Env} (h : G_f32 E) (a0 : U) : E 100080 [a0] =
 f32_l2 E a0 (.int .i64 0) (.int .i64 (-1)) (.int .i64 1) := (h.is _ rfl).trans ((runQ_F rfl).trans (by kernel_rfl))
def f41_i0_b0 : AC :=
 (.seq (.seq (rg [oo 31 (.mv (.t 27)),
  oo 32 (.mv (.t 23)),
  oo 33 (.len false (.t 32)),
  oo 34 (.bin .lss (.t 31) (.t 33)),
  oo 35 (.mv (.t 34)),
  ⟨some 36, .mv (.t 27), some (35, true)⟩,
  ⟨some 37, .bin .lss (.t 36) (ci 4000), some (35, true)⟩,
  oo 38 (.pick (.t 35) (.t 37) (.c (.bool false)))])
 (.cond (.t 38) .skip (.exit 0)))
 (.seq (.block 1 (rg [oo 41 (.mv (.t 26)),
  oo 42 (.bin .mul (.t 41) (ci 131)),
  oo 43 (.mv (.t 23)),
  oo 44 (.mv (.t 27)),
  oo 45 (.iaddr 1 (.t 43) (.t 44)),
  oo 46 (.load false 1 (.t 45)),
  oo 47 (.conv .i64 (.t 46)),
  oo 48 (.bin .add (.t 42) (.t 47)),
  oo 49 (.bin .add (.t 48) (ci 7)),
  oo 50 (.bin .and (.t 49) (ci 1073741823)),
  oo 26 (.mv (.t 50))]))
 (rg [oo 39 (.mv (.t 27)),
  oo 40 (.bin .add (.t 39) (ci 1)),
  oo 27 (.mv (.t 40))])))
def f41_i0_r0 : AC :=
 (.seq (rg [oo 51 (.mv (.t 23)),
  oo 52 (.mv (.t 26)),
  oo 53 (.build [(.nsl 1), (.int .i64 0), (.int .i64 0)] [(0, (.t 51)), (2, (.t 52))]),
  oo 54 (.box false 54 (.t 53)),
  oo 25 (.mv (.t 54))])
 .ret)
def f41_r0 : AC :=
 (rg [oo 4 (.mv (.t 8))])
def f41_r1 : AC :=
 (.seq (rg [oo 9 (.mv (.t 4)),
  oo 10 (.callP (.agg [(.sl 1), .int, .int]) 415 (.t 9) []),
  oo 5 (.mv (.t 10))])
 (.seq (rg [oo 11 (.mv (.t 5)),
  oo 12 (.callF 12 false [(.sl 1)] 80 [(.t 11)]),
  oo 6 (.mv (.t 12))])
 (.seq (.seq (rg [oo 13 (.mv (.t 4)),
  oo 14 (.callP (.agg [(.sl 1), .int, .int]) 417 (.t 13) [(ci 4)])])
 (.cond (.t 14) (rg [oo 15 (.mv (.t 6)),
  oo 16 (.mv (.t 4)),
  oo 17 (.callP (.agg [(.sl 1), .int, .int]) 416 (.t 16) [(ci 5)]),
  oo 18 (.bin .add (ci 1) (.t 17)),
  oo 19 (.bslice 0 19 1 1 (.int .i64 0) [(0, (.t 18))]),
  oo 20 (.append false 20 1 8 (.t 15) (.t 19)),
  oo 6 (.mv (.t 20))]) .skip))
 (.seq (rg [oo 21 (.mv (.t 5)),
  oo 22 (.mv (.t 6)),
  oo 2 (.mv (.t 21)),
  oo 3 (.mv (.t 22))])
 .ret))))
def f41_ac : AC :=
 (.seq (rg [oo 2 (.mv (.c (.nsl 4))),
  oo 3 (.mv (.c (.nsl 1)))])
 (.seq (.regI 0 [oo 7 (.mv (.t 0))] ⟨some 8, 23, 32, 414, [(.t 7)], [2]⟩ (.seq (rg [oo 25 (.mv (.c .nil))])
 (.seq (rg [oo 28 (.mv (.t 23)),
  oo 29 (.len false (.t 28)),
  oo 30 (.bin .add (ci 10101) (.t 29)),
  oo 26 (.mv (.t 30))])
 (.seq (.seq (rg [oo 27 (.mv (ci 0))])
 (.block 0 (.loop ⟨[23, 26, 27], [], []⟩ f41_i0_b0)))
 f41_i0_r0))) f41_r0)
 f41_r1))
noncomputable def f41_i0_l0 (E : Env) (x23 : U) (x26 : U) (x27 : U) : Option U := loopK (roundOf E ⟨[23, 26, 27], [], []⟩ f41_i0_b0 (blockK 0 (seqK (fun s => exec E f41_i0_r0 s (Inl.leave ⟨some 8, 23, 32, 414, [(.t 7)], [2]⟩ fun s => exec E f41_r0 s (seqK (fun s => exec E f41_r1 s (finish [(2, none), (3, none)])) (finish [(2, none), (3, none)])))) (Inl.leave ⟨some 8, 23, 32, 414, [(.t 7)], [2]⟩ fun s => exec E f41_r0 s (seqK (fun s => exec E f41_r1 s (finish [(2, none), (3, none)])) (finish [(2, none), (3, none)])))))) ([.val x23, .val x26, .val x27], [])
theorem f41_i0_l0_eq (E : Env) (x23 : U) (x26 : U) (x27 : U) : f41_i0_l0 E x23 x26 x27 =
 (U.lenOf false x23).bind fun n3 => (U.bin .lss x27 (.int .i64 (n3 : Int))).bind fun t4 => U.asBool t4
 ((U.bin .lss x27 (.int .i64 4000)).bind fun t5 => U.asBool t5
 ((U.bin .mul x26 (.int .i64 131)).bind fun t6 => U.asInt x27 fun n7 => U.elemAt 1 x23 n7 fun e8 => U.asVar false 1 e8 fun e9 => (U.conv .i64 e9).bind fun t10 => (U.bin .add t6 t10).bind fun t11 => (U.bin .add t11 (.int .i64 7)).bind fun t12 => (U.bin .and t12 (.int .i64 1073741823)).bind fun t13 => (U.bin .add x27 (.int .i64 1)).bind fun t14 => f41_i0_l0 E x23 t13 t14)
 (if partable (.val x23) = true ∧ x23.size = 1 then if partable (.val x26) = true ∧ x26.size = 1 then (E 400415 (.agg [.tup [(.vp (.agg [x23, (.int .i64 0), x26]))]] :: [])).bind fun t15 => U.asPtr t15 fun y16 z17 => U.asVp z17 fun v20 => U.asAgg v20 fun us19 => (match us19 with
 | u21 :: us22 => (U.asSlK 1 u21 fun us23 => (match us22 with
 | u24 :: us25 => (U.asInt u24 fun n26 => (match us25 with
 | u27 :: us28 => (U.asInt u27 fun n29 => (match us28 with
 | [] => ((E 100080 [y16]).bind fun t30 => U.noTup t30 fun x31 => U.asSlK 1 x31 fun us32 => (E 400417 (.agg [.tup [(.vp (.agg [(.sl 1 us23), (.int .i64 n26), (.int .i64 n29)]))]] :: [(.int .i64 4)])).bind fun t33 => U.asPtr t33 fun y34 z35 => U.asVp z35 fun v38 => U.asAgg v38 fun us37 => (match us37 with
 | u39 :: us40 => (U.asSlK 1 u39 fun us41 => (match us40 with
 | u42 :: us43 => (U.asInt u42 fun n44 => (match us43 with
 | u45 :: us46 => (U.asInt u45 fun n47 => (match us46 with
 | [] => (U.asBool y34
 ((E 400416 (.agg [.tup [(.vp (.agg [(.sl 1 us41), (.int .i64 n44), (.int .i64 n47)]))]] :: [(.int .i64 5)])).bind fun t48 => U.asPtr t48 fun y49 z50 => U.asVp z50 fun v53 => U.asAgg v53 fun us52 => (match us52 with
 | u54 :: us55 => (U.asSlK 1 u54 fun us56 => (match us55 with
 | u57 :: us58 => (U.asInt u57 fun n59 => (match us58 with
 | u60 :: us61 => (U.asInt u60 fun n62 => (match us61 with
 | [] => ((U.bin .add (.int .i64 1) y49).bind fun t63 => if partable (.val t63) = true ∧ t63.size = 1 then if 1 = 1 ∧ U.flat.flats [t63] = true ∧ ((us32).length + ([t63] : List U).length) * 8 ≤ 140737488355328 then U.noTup y16 fun x64 => some (.tup [x64, (.sl 1 (us32 ++ [t63]))]) else none else none)
 | _ => none))
 | [] => none))
 | [] => none))
 | [] => none))
 (U.noTup y16 fun x65 => some (.tup [x65, (.sl 1 us32)])))
 | _ => none))
 | [] => none))
 | [] => none))
 | [] => none))
 | _ => none))
 | [] => none))
 | [] => none))
 | [] => none) else none else none))
 (if partable (.val x23) = true ∧ x23.size = 1 then if partable (.val x26) = true ∧ x26.size = 1 then (E 400415 (.agg [.tup [(.vp (.agg [x23, (.int .i64 0), x26]))]] :: [])).bind fun t66 => U.asPtr t66 fun y67 z68 => U.asVp z68 fun v71 => U.asAgg v71 fun us70 => (match us70 with
 | u72 :: us73 => (U.asSlK 1 u72 fun us74 => (match us73 with
 | u75 :: us76 => (U.asInt u75 fun n77 => (match us76 with
 | u78 :: us79 => (U.asInt u78 fun n80 => (match us79 with
 | [] => ((E 100080 [y67]).bind fun t81 => U.noTup t81 fun x82 => U.asSlK 1 x82 fun us83 => (E 400417 (.agg [.tup [(.vp (.agg [(.sl 1 us74), (.int .i64 n77), (.int .i64 n80)]))]] :: [(.int .i64 4)])).bind fun t84 => U.asPtr t84 fun y85 z86 => U.asVp z86 fun v89 => U.asAgg v89 fun us88 => (match us88 with
 | u90 :: us91 => (U.asSlK 1 u90 fun us92 => (match us91 with
 | u93 :: us94 => (U.asInt u93 fun n95 => (match us94 with
 | u96 :: us97 => (U.asInt u96 fun n98 => (match us97 with
 | [] => (U.asBool y85
 ((E 400416 (.agg [.tup [(.vp (.agg [(.sl 1 us92), (.int .i64 n95), (.int .i64 n98)]))]] :: [(.int .i64 5)])).bind fun t99 => U.asPtr t99 fun y100 z101 => U.asVp z101 fun v104 => U.asAgg v104 fun us103 => (match us103 with
 | u105 :: us106 => (U.asSlK 1 u105 fun us107 => (match us106 with
 | u108 :: us109 => (U.asInt u108 fun n110 => (match us109 with
 | u111 :: us112 => (U.asInt u111 fun n113 => (match us112 with
 | [] => ((U.bin .add (.int .i64 1) y100).bind fun t114 => if partable (.val t114) = true ∧ t114.size = 1 then if 1 = 1 ∧ U.flat.flats [t114] = true ∧ ((us83).length + ([t114] : List U).length) * 8 ≤ 140737488355328 then U.noTup y67 fun x115 => some (.tup [x115, (.sl 1 (us83 ++ [t114]))]) else none else none)
 | _ => none))
 | [] => none))
 | [] => none))
 | [] => none))
 (U.noTup y67 fun x116 => some (.tup [x116, (.sl 1 us83)])))
 | _ => none))
 | [] => none))
 | [] => none))
 | [] => none))
 | _ => none))
 | [] => none))
 | [] => none))
 | [] => none) else none else none) :=
 (loop_eq E _ _ _ _).trans (by kernel_rfl)
structure G_f41 (E : Env) : Prop where
  is : Is E 419 1 f41_ac [(2, none), (3, none)]
  c_f32 : G_f32 E
  c_f33 : G_f33 E
  c_f36 : G_f36 E
  c_f39 : G_f39 E
theorem f41_E {E : Env} (h : G_f41 E) (a0 : U) : E 419 [a0] =
 (U.lenOf false a0).bind fun n1 => (U.bin .add (.int .i64 10101) (.int .i64 (n1 : Int))).bind fun t2 => f41_i0_l0 E a0 t2 (.int .i64 0) := (h.is _ rfl).trans ((runQ_V rfl).trans (by kernel_rfl))
def f26_ac : AC :=
 (.seq (rg [oo 2 (.mv (.c (.nsl 4))),
  oo 3 (.mv (.c (.nsl 1)))])
 (.seq (rg [oo 7 (.mv (.t 0)),
  oo 8 (.call false 419 [(.t 7)]),
  oo 6 (.mv (.t 8)),
  oo 9 (.extract 0 (.t 6)),
  oo 10 (.extract 1 (.t 6)),
  oo 4 (.mv (.t 9)),
  oo 5 (.mv (.t 10))])
 (.seq (rg [oo 11 (.mv (.t 4)),
  oo 12 (.mv (.t 5)),
  oo 2 (.mv (.t 11)),
  oo 3 (.mv (.t 12))])
 .ret)))
structure G_f26 (E : Env) : Prop where
  is : Is E 410 1 f26_ac [(2, none), (3, none)]
  c_f41 : G_f41 E
theorem f26_E {E : Env} (h : G_f26 E) (a0 : U) : E 410 [a0] =
 (E 419 [a0]).bind fun t1 => U.part 0 t1 fun p2 => U.part 1 t1 fun p3 => U.noTup p2 fun x4 => U.noTup p3 fun x5 => some (.tup [x4, x5]) := (h.is _ rfl).trans ((runQ_V rfl).trans (by kernel_rfl))
def f25_b1 : AC :=
 (.seq (.seq (rg [oo 13 (.mv (.t 6)),
  oo 14 (.mv (.t 5)),
  oo 15 (.bin .lss (.t 13) (.t 14))])
 (.cond (.t 15) .skip (.exit 2)))
 (.seq (.block 3 (.seq (.region 9 [oo 18 (.mv (.t 1)),
  oo 19 (.mv (.t 6)),
  oo 20 (.iaddr 1 (.t 18) (.t 19)),
  oo 21 (.load false 1 (.t 20)),
  oo 22 (.mv (.t 1)),
  oo 23 (.mv (.t 5)),
  oo 24 (.iaddr 1 (.t 22) (.t 23)),
  oo 25 (.load false 1 (.t 24)),
  oo 26 (.bin .eql (.t 21) (.t 25))])
 (.cond (.t 26) (.seq (rg [oo 4 (.mv (.c (.bool false)))])
 .ret) .skip)))
 (rg [oo 16 (.mv (.t 6)),
  oo 17 (.bin .add (.t 16) (ci 1)),
  oo 6 (.mv (.t 17))])))
def f25_r0 : AC :=
 (.seq (.region 15 [oo 27 (.mv (.t 0)),
  oo 28 (.mv (.t 1)),
  oo 29 (.mv (.t 5)),
  oo 30 (.iaddr 1 (.t 28) (.t 29)),
  oo 31 (.load false 1 (.t 30)),
  oo 32 (.mv (.t 1)),
  oo 33 (.mv (.t 5)),
  oo 34 (.bin .add (.t 33) (ci 1)),
  oo 35 (.mv (.t 1)),
  oo 36 (.len false (.t 35)),
  oo 37 (.bin .rem (.t 34) (.t 36)),
  oo 38 (.iaddr 1 (.t 32) (.t 37)),
  oo 39 (.load false 1 (.t 38)),
  oo 40 (.call false 62 [(.t 27), (.t 31), (.t 39)]),
  oo 41 (.un .not (.t 40))])
 (.cond (.t 41) (.seq (rg [oo 4 (.mv (.c (.bool false)))])
 .ret) .skip))
def f25_r1 : AC :=
 (rg [oo 11 (.mv (.t 5)),
  oo 12 (.bin .add (.t 11) (ci 1)),
  oo 5 (.mv (.t 12))])
def f25_b0 : AC :=
 (.seq (.seq (rg [oo 7 (.mv (.t 5)),
  oo 8 (.mv (.t 1)),
  oo 9 (.len false (.t 8)),
  oo 10 (.bin .lss (.t 7) (.t 9))])
 (.cond (.t 10) .skip (.exit 0)))
 (.seq (.block 1 (.seq (.seq (rg [oo 6 (.mv (ci 0))])
 (.block 2 (.loop ⟨[0, 1, 5, 6], [], []⟩ f25_b1)))
 f25_r0))
 f25_r1))
def f25_r2 : AC :=
 (.seq (rg [oo 42 (.mv (.t 0)),
  oo 43 (.call false 4 [(.t 42)]),
  oo 44 (.mv (.t 43)),
  ⟨some 45, .mv (.t 1), some (44, true)⟩,
  ⟨some 46, .len false (.t 45), some (44, true)⟩,
  ⟨some 47, .bin .gtr (.t 46) (ci 1), some (44, true)⟩,
  oo 48 (.pick (.t 44) (.t 47) (.c (.bool false))),
  oo 4 (.mv (.t 48))])
 .ret)
def f25_ac : AC :=
 (.seq (rg [oo 4 (.mv (.c (.bool false)))])
 (.seq (.seq (rg [oo 5 (.mv (ci 0))])
 (.block 0 (.loop ⟨[0, 1, 5], [], []⟩ f25_b0)))
 f25_r2))
noncomputable def f25_l0 (E : Env) (x0 : U) (x1 : U) (x5 : U) : Option U := loopK (roundOf E ⟨[0, 1, 5], [], []⟩ f25_b0 (blockK 0 (seqK (fun s => exec E f25_r2 s (finish [(4, none)])) (finish [(4, none)])))) ([.val x0, .val x1, .val x5], [])
noncomputable def f25_l1 (E : Env) (x0 : U) (x1 : U) (x5 : U) (x6 : U) : Option U := loopK (roundOf E ⟨[0, 1, 5, 6], [], []⟩ f25_b1 (blockK 2 (seqK (fun s => exec E f25_r0 s (blockK 1 (seqK (fun s => exec E f25_r1 s (roundK ⟨[0, 1, 5], [], []⟩ (loopK (roundOf E ⟨[0, 1, 5], [], []⟩ f25_b0 (blockK 0 (seqK (fun s => exec E f25_r2 s (finish [(4, none)])) (finish [(4, none)]))))) (blockK 0 (seqK (fun s => exec E f25_r2 s (finish [(4, none)])) (finish [(4, none)]))))) (roundK ⟨[0, 1, 5], [], []⟩ (loopK (roundOf E ⟨[0, 1, 5], [], []⟩ f25_b0 (blockK 0 (seqK (fun s => exec E f25_r2 s (finish [(4, none)])) (finish [(4, none)]))))) (blockK 0 (seqK (fun s => exec E f25_r2 s (finish [(4, none)])) (finish [(4, none)]))))))) (blockK 1 (seqK (fun s => exec E f25_r1 s (roundK ⟨[0, 1, 5], [], []⟩ (loopK (roundOf E ⟨[0, 1, 5], [], []⟩ f25_b0 (blockK 0 (seqK (fun s => exec E f25_r2 s (finish [(4, none)])) (finish [(4, none)]))))) (blockK 0 (seqK (fun s => exec E f25_r2 s (finish [(4, none)])) (finish [(4, none)]))))) (roundK ⟨[0, 1, 5], [], []⟩ (loopK (roundOf E ⟨[0, 1, 5], [], []⟩ f25_b0 (blockK 0 (seqK (fun s => exec E f25_r2 s (finish [(4, none)])) (finish [(4, none)]))))) (blockK 0 (seqK (fun s => exec E f25_r2 s (finish [(4, none)])) (finish [(4, none)]))))))))) ([.val x0, .val x1, .val x5, .val x6], [])
theorem f25_l0_eq (E : Env) (x0 : U) (x1 : U) (x5 : U) : f25_l0 E x0 x1 x5 =
 (U.lenOf false x1).bind fun n1 => (U.bin .lss x5 (.int .i64 (n1 : Int))).bind fun t2 => U.asBool t2
 (f25_l1 E x0 x1 x5 (.int .i64 0))
 ((E 4 [x0]).bind fun t3 => U.asBool t3
 ((U.lenOf false x1).bind fun n4 => (U.bin .gtr (.int .i64 (n4 : Int)) (.int .i64 1)).bind fun t5 => some t5)
 (some (.bool false))) :=
 (loop_eq E _ _ _ _).trans (by kernel_rfl)
theorem f25_l1_eq (E : Env) (x0 : U) (x1 : U) (x5 : U) (x6 : U) : f25_l1 E x0 x1 x5 x6 =
 (U.bin .lss x6 x5).bind fun t6 => U.asBool t6
 (U.asInt x6 fun n7 => U.elemAt 1 x1 n7 fun e8 => U.asVar false 1 e8 fun e9 => U.asInt x5 fun n10 => U.elemAt 1 x1 n10 fun e11 => U.asVar false 1 e11 fun e12 => (U.bin .eql e9 e12).bind fun t13 => U.asBool t13
 (some (.bool false))
 ((U.bin .add x6 (.int .i64 1)).bind fun t14 => f25_l1 E x0 x1 x5 t14))
 (U.asInt x5 fun n15 => U.elemAt 1 x1 n15 fun e16 => U.asVar false 1 e16 fun e17 => (U.bin .add x5 (.int .i64 1)).bind fun t18 => (U.lenOf false x1).bind fun n19 => (U.bin .rem t18 (.int .i64 (n19 : Int))).bind fun t20 => U.asInt t20 fun n21 => U.elemAt 1 x1 n21 fun e22 => U.asVar false 1 e22 fun e23 => (E 62 [x0, e17, e23]).bind fun t24 => (U.un .not t24).bind fun t25 => U.asBool t25
 (some (.bool false))
 ((U.bin .add x5 (.int .i64 1)).bind fun t26 => f25_l0 E x0 x1 t26)) :=
 (loop_eq E _ _ _ _).trans (by kernel_rfl)
structure G_f25 (E : Env) : Prop where
  is : Is E 61 2 f25_ac [(4, none)]
  c_f29 : G_f29 E
  c_f24 : G_f24 E
theorem f25_E {E : Env} (h : G_f25 E) (a0 a1 : U) : E 61 [a0, a1] =
 f25_l0 E a0 a1 (.int .i64 0) := (h.is _ rfl).trans ((runQ_V rfl).trans (by kernel_rfl))
def f17_b0 : AC :=
 (.seq (.seq (rg [oo 61 (.mv (.t 6)),
  oo 62 (.mv (.t 5)),
  oo 63 (.len false (.t 62)),
  oo 64 (.bin .lss (.t 61) (.t 63))])
 (.cond (.t 64) .skip (.exit 0)))
 (.seq (.block 1 (.seq (.region 26 [oo 67 (.mv (.t 5)),
  oo 68 (.mv (.t 6)),
  oo 69 (.iaddr 4 (.t 67) (.t 68)),
  oo 70 (.faddr 0 0 (.t 69)),
  oo 71 (.load false 1 (.t 70)),
  oo 72 (.mv (.t 4)),
  oo 73 (.mv (.t 6)),
  oo 74 (.iaddr 1 (.t 72) (.t 73)),
  oo 75 (.load false 1 (.t 74)),
  oo 76 (.bin .neq (.t 71) (.t 75)),
  oo 77 (.mv (.t 76)),
  ⟨some 78, .mv (.t 5), some (77, false)⟩,
  ⟨some 79, .mv (.t 6), some (77, false)⟩,
  ⟨some 80, .iaddr 4 (.t 78) (.t 79), some (77, false)⟩,
  ⟨some 81, .faddr 1 1 (.t 80), some (77, false)⟩,
  ⟨some 82, .load false 1 (.t 81), some (77, false)⟩,
  ⟨some 83, .mv (.t 4), some (77, false)⟩,
  ⟨some 84, .mv (.t 6), some (77, false)⟩,
  ⟨some 85, .bin .add (.t 84) (ci 1), some (77, false)⟩,
  ⟨some 86, .mv (.t 4), some (77, false)⟩,
  ⟨some 87, .len false (.t 86), some (77, false)⟩,
  ⟨some 88, .bin .rem (.t 85) (.t 87), some (77, false)⟩,
  ⟨some 89, .iaddr 1 (.t 83) (.t 88), some (77, false)⟩,
  ⟨some 90, .load false 1 (.t 89), some (77, false)⟩,
  ⟨some 91, .bin .neq (.t 82) (.t 90), some (77, false)⟩,
  oo 92 (.pick (.t 77) (.c (.bool true)) (.t 91))])
 (.cond (.t 92) (.seq (rg [oo 2 (.mv (.c (.bool false)))])
 .ret) .skip)))
 (rg [oo 65 (.mv (.t 6)),
  oo 66 (.bin .add (.t 65) (ci 1)),
  oo 6 (.mv (.t 66))])))
def f17_r0 : AC :=
 (.seq (rg [oo 94 (.mv (.t 0)),
  oo 95 (.call false 410 [(.t 94)]),
  oo 93 (.mv (.t 95)),
  oo 96 (.extract 0 (.t 93)),
  oo 97 (.extract 1 (.t 93)),
  oo 7 (.mv (.t 96)),
  oo 8 (.mv (.t 97))])
 (.seq (.seq (rg [oo 98 (.mv (.t 7)),
  oo 99 (.mv (.t 8)),
  oo 100 (.call false 60 [(.t 98), (.t 99)]),
  oo 101 (.mv (.t 7)),
  oo 102 (.mv (.t 8)),
  oo 103 (.call false 61 [(.t 101), (.t 102)]),
  oo 104 (.eqv true 0 (.t 100) (.t 103))])
 (.cond (.t 104) (.seq (rg [oo 2 (.mv (.c (.bool false)))])
 .ret) .skip))
 (.seq (rg [oo 105 (.mv (.t 7)),
  oo 106 (.mv (.t 8)),
  oo 107 (.call false 60 [(.t 105), (.t 106)]),
  oo 108 (.un .not (.t 107)),
  oo 109 (.mv (.t 108)),
  ⟨some 110, .mv (.t 8), some (109, false)⟩,
  ⟨some 111, .len false (.t 110), some (109, false)⟩,
  ⟨some 112, .mv (.t 7), some (109, false)⟩,
  ⟨some 113, .call false 80 [(.t 112)], some (109, false)⟩,
  ⟨some 114, .len false (.t 113), some (109, false)⟩,
  ⟨some 115, .bin .geq (.t 111) (.t 114), some (109, false)⟩,
  oo 116 (.pick (.t 109) (.c (.bool true)) (.t 115)),
  oo 2 (.mv (.t 116))])
 .ret)))
def f17_ac : AC :=
 (.seq (rg [oo 2 (.mv (.c (.bool false)))])
 (.seq (.seq (rg [oo 9 (.mv (.t 0)),
  oo 10 (.call false 413 [(.t 9)])])
 (.cond (.t 10) (.seq (rg [oo 2 (.mv (.c (.bool true)))])
 .ret) .skip))
 (.seq (rg [oo 11 (.mv (.t 0)),
  oo 12 (.call false 412 [(.t 11)]),
  oo 3 (.mv (.t 12))])
 (.seq (rg [oo 13 (.mv (.t 3)),
  oo 14 (.call false 81 [(.t 13)]),
  oo 4 (.mv (.t 14))])
 (.seq (.seq (rg [oo 15 (.mv (.t 4)),
  oo 16 (.mv (.t 3)),
  oo 17 (.call false 80 [(.t 16)]),
  oo 18 (.call false 411 [(.t 15), (.t 17)]),
  oo 19 (.un .not (.t 18)),
  oo 20 (.mv (.t 19)),
  ⟨some 21, .mv (.t 3), some (20, false)⟩,
  ⟨some 22, .call false 78 [(.t 21)], some (20, false)⟩,
  ⟨some 23, .mv (.t 3), some (20, false)⟩,
  ⟨some 24, .call false 79 [(.t 23)], some (20, false)⟩,
  ⟨some 25, .eqv true 0 (.t 22) (.t 24), some (20, false)⟩,
  oo 26 (.pick (.t 20) (.c (.bool true)) (.t 25))])
 (.cond (.t 26) (.seq (rg [oo 2 (.mv (.c (.bool false)))])
 .ret) .skip))
 (.seq (.seq (rg [oo 27 (.mv (.t 4)),
  oo 28 (.len false (.t 27)),
  oo 29 (.bin .gtr (.t 28) (ci 0))])
 (.cond (.t 29) (.seq (rg [oo 30 (.mv (.t 3)),
  oo 31 (.mv (.t 4)),
  oo 32 (.call false 84 [(.t 30), (.t 31)]),
  oo 5 (.mv (.t 32))])
 (.seq (.seq (.region 28 [oo 33 (.mv (.t 3)),
  oo 34 (.mv (.t 4)),
  oo 35 (.call false 60 [(.t 33), (.t 34)]),
  oo 36 (.un .not (.t 35)),
  oo 37 (.mv (.t 36)),
  ⟨some 38, .mv (.t 5), some (37, false)⟩,
  ⟨some 39, .len false (.t 38), some (37, false)⟩,
  ⟨some 40, .mv (.t 4), some (37, false)⟩,
  ⟨some 41, .len false (.t 40), some (37, false)⟩,
  ⟨some 42, .bin .neq (.t 39) (.t 41), some (37, false)⟩,
  oo 43 (.pick (.t 37) (.c (.bool true)) (.t 42)),
  oo 44 (.mv (.t 43)),
  ⟨some 45, .mv (.t 3), some (44, false)⟩,
  ⟨some 46, .mv (.t 4), some (44, false)⟩,
  ⟨some 47, .iaddr 1 (.t 46) (ci 0), some (44, false)⟩,
  ⟨some 48, .load false 1 (.t 47), some (44, false)⟩,
  ⟨some 49, .mv (.t 4), some (44, false)⟩,
  ⟨some 50, .iaddr 1 (.t 49) (ci 0), some (44, false)⟩,
  ⟨some 51, .load false 1 (.t 50), some (44, false)⟩,
  ⟨some 52, .call false 38 [(.t 45), (.t 48), (.t 51)], some (44, false)⟩,
  ⟨some 53, .mv (.t 4), some (44, false)⟩,
  ⟨some 54, .len false (.t 53), some (44, false)⟩,
  ⟨some 55, .bin .neq (.t 52) (.t 54), some (44, false)⟩,
  oo 56 (.pick (.t 44) (.c (.bool true)) (.t 55)),
  oo 57 (.mv (.t 56)),
  ⟨some 58, .mv (.t 3), some (57, false)⟩,
  ⟨some 59, .call false 78 [(.t 58)], some (57, false)⟩,
  oo 60 (.pick (.t 57) (.c (.bool true)) (.t 59))])
 (.cond (.t 60) (.seq (rg [oo 2 (.mv (.c (.bool false)))])
 .ret) .skip))
 (.seq (rg [oo 6 (.mv (ci 0))])
 (.block 0 (.loop ⟨[0, 4, 5, 6], [], []⟩ f17_b0))))) .skip))
 f17_r0))))))
noncomputable def f17_l0 (E : Env) (x0 : U) (x4 : U) (x5 : U) (x6 : U) : Option U := loopK (roundOf E ⟨[0, 4, 5, 6], [], []⟩ f17_b0 (blockK 0 (seqK (fun s => exec E f17_r0 s (finish [(2, none)])) (finish [(2, none)])))) ([.val x0, .val x4, .val x5, .val x6], [])
theorem f17_l0_eq (E : Env) (x0 : U) (x4 : U) (x5 : U) (x6 : U) : f17_l0 E x0 x4 x5 x6 =
 (U.lenOf false x5).bind fun n38 => (U.bin .lss x6 (.int .i64 (n38 : Int))).bind fun t39 => U.asBool t39
 (U.asInt x6 fun n40 => U.elemAt 4 x5 n40 fun e41 => U.fieldAt 0 0 e41 fun f42 => U.asVar false 1 f42 fun e43 => U.asInt x6 fun n44 => U.elemAt 1 x4 n44 fun e45 => U.asVar false 1 e45 fun e46 => (U.bin .neq e43 e46).bind fun t47 => U.asBool t47
 (some (.bool false))
 (U.asInt x6 fun n48 => U.elemAt 4 x5 n48 fun e49 => U.fieldAt 1 1 e49 fun f50 => U.asVar false 1 f50 fun e51 => (U.bin .add x6 (.int .i64 1)).bind fun t52 => (U.lenOf false x4).bind fun n53 => (U.bin .rem t52 (.int .i64 (n53 : Int))).bind fun t54 => U.asInt t54 fun n55 => U.elemAt 1 x4 n55 fun e56 => U.asVar false 1 e56 fun e57 => (U.bin .neq e51 e57).bind fun t58 => U.asBool t58
 (some (.bool false))
 ((U.bin .add x6 (.int .i64 1)).bind fun t59 => f17_l0 E x0 x4 x5 t59)))
 ((E 410 [x0]).bind fun t60 => U.part 0 t60 fun p61 => U.part 1 t60 fun p62 => (E 60 [p61, p62]).bind fun t63 => (E 61 [p61, p62]).bind fun t64 => (U.eqv 0 t63 t64).bind fun q65 => U.asBool (.bool (!q65))
 (some (.bool false))
 ((E 60 [p61, p62]).bind fun t66 => (U.un .not t66).bind fun t67 => U.asBool t67
 (some (.bool true))
 ((U.lenOf false p62).bind fun n68 => (E 80 [p61]).bind fun t69 => (U.lenOf false t69).bind fun n70 => (U.bin .geq (.int .i64 (n68 : Int)) (.int .i64 (n70 : Int))).bind fun t71 => some t71))) :=
 (loop_eq E _ _ _ _).trans (by kernel_rfl)
structure G_f17 (E : Env) : Prop where
  is : Is E 409 1 f17_ac [(2, none)]
  c_f18 : G_f18 E
  c_f27 : G_f27 E
  c_f11 : G_f11 E
  c_f19 : G_f19 E
  c_f31 : G_f31 E
  c_f10 : G_f10 E
  c_f30 : G_f30 E
  c_f5 : G_f5 E
  c_f4 : G_f4 E
  c_f7 : G_f7 E
  c_f26 : G_f26 E
  c_f25 : G_f25 E
theorem f17_E {E : Env} (h : G_f17 E) (a0 : U) : E 409 [a0] =
 (E 413 [a0]).bind fun t1 => U.asBool t1
 (some (.bool true))
 ((E 412 [a0]).bind fun t2 => (E 81 [t2]).bind fun t3 => (E 80 [t2]).bind fun t4 => (E 411 [t3, t4]).bind fun t5 => (U.un .not t5).bind fun t6 => U.asBool t6
 (some (.bool false))
 ((E 78 [t2]).bind fun t7 => (E 79 [t2]).bind fun t8 => (U.eqv 0 t7 t8).bind fun q9 => U.asBool (.bool (!q9))
 (some (.bool false))
 ((U.lenOf false t3).bind fun n10 => (U.bin .gtr (.int .i64 (n10 : Int)) (.int .i64 0)).bind fun t11 => U.asBool t11
 ((E 84 [t2, t3]).bind fun t12 => (E 60 [t2, t3]).bind fun t13 => (U.un .not t13).bind fun t14 => U.asBool t14
 (some (.bool false))
 ((U.lenOf false t12).bind fun n15 => (U.lenOf false t3).bind fun n16 => (U.bin .neq (.int .i64 (n15 : Int)) (.int .i64 (n16 : Int))).bind fun t17 => U.asBool t17
 (some (.bool false))
 (U.elemAt 1 t3 0 fun e18 => U.asVar false 1 e18 fun e19 => U.elemAt 1 t3 0 fun e20 => U.asVar false 1 e20 fun e21 => (E 38 [t2, e19, e21]).bind fun t22 => (U.lenOf false t3).bind fun n23 => (U.bin .neq t22 (.int .i64 (n23 : Int))).bind fun t24 => U.asBool t24
 (some (.bool false))
 ((E 78 [t2]).bind fun t25 => U.asBool t25
 (some (.bool false))
 (f17_l0 E a0 t3 t12 (.int .i64 0))))))
 ((E 410 [a0]).bind fun t26 => U.part 0 t26 fun p27 => U.part 1 t26 fun p28 => (E 60 [p27, p28]).bind fun t29 => (E 61 [p27, p28]).bind fun t30 => (U.eqv 0 t29 t30).bind fun q31 => U.asBool (.bool (!q31))
 (some (.bool false))
 ((E 60 [p27, p28]).bind fun t32 => (U.un .not t32).bind fun t33 => U.asBool t33
 (some (.bool true))
 ((U.lenOf false p28).bind fun n34 => (E 80 [p27]).bind fun t35 => (U.lenOf false t35).bind fun n36 => (U.bin .geq (.int .i64 (n34 : Int)) (.int .i64 (n36 : Int))).bind fun t37 => some t37)))))) := (h.is _ rfl).trans ((runQ_V rfl).trans (by kernel_rfl))
end Go.Proofs.Ytmdnjglkdddaeaa.Am
