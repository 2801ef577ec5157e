import Derived.KernelRfl
import Derived.Test.YtmdnjglkdddaeaaGreatAmW
import Derived.Test.YtmdnjglkdddaeaaGreatRecordOfF0
import Derived.Test.YtmdnjglkdddaeaaGreatRecordOfF1
namespace Go.Proofs.YtmdnjglkdddaeaaGreat.Am
open Go
set_option linter.unusedVariables false
set_option maxRecDepth 100000
def f69_b0 : AC :=
 (.seq (.seq (rg [oo 6 (.mv (.t 5)),
  oo 7 (.mv (.t 0)),
  oo 8 (.len false (.t 7)),
  oo 9 (.bin .lss (.t 6) (.t 8))])
 (.cond (.t 9) .skip (.exit 0)))
 (.seq (.block 1 (.seq (rg [oo 12 (.mv (.t 0)),
  oo 13 (.mv (.t 5)),
  oo 14 (.mv (.t 1)),
  oo 15 (.iaddr 2 (.t 12) (.t 13)),
  oo 16 (.faddr 0 0 (.t 15)),
  ⟨none, .store 1 (.t 16) (.t 14), none⟩])
 (.seq (rg [oo 17 (.mv (.t 1)),
  oo 18 (.bin .add (.t 17) (ci 1)),
  oo 1 (.mv (.t 18))])
 (.seq (rg [oo 19 (.mv (.t 0)),
  oo 20 (.mv (.t 5)),
  oo 21 (.mv (.t 1)),
  oo 22 (.iaddr 2 (.t 19) (.t 20)),
  oo 23 (.faddr 1 1 (.t 22)),
  ⟨none, .store 1 (.t 23) (.t 21), none⟩])
 (rg [oo 24 (.mv (.t 1)),
  oo 25 (.bin .add (.t 24) (ci 1)),
  oo 1 (.mv (.t 25))])))))
 (rg [oo 10 (.mv (.t 5)),
  oo 11 (.bin .add (.t 10) (ci 1)),
  oo 5 (.mv (.t 11))])))
def f69_r0 : AC :=
 (.seq (rg [oo 26 (.mv (.t 1)),
  oo 4 (.mv (.t 26))])
 .ret)
def f69_ac : AC :=
 (.seq (rg [oo 4 (.mv (ci 0))])
 (.seq (.seq (rg [oo 5 (.mv (ci 0))])
 (.block 0 (.loop ⟨[0, 1, 5], [], [(5000, true)]⟩ f69_b0)))
 f69_r0))
noncomputable def f69_l0 (E : Env) (x1 : U) (x5 : U) (b5000 : List U) : Option U := loopK (roundOf E ⟨[0, 1, 5], [], [(5000, true)]⟩ f69_b0 (blockK 0 (seqK (fun s => exec E f69_r0 s (finishM 2 [(4, none)])) (finishM 2 [(4, none)])))) ([.ref 5000 [] 2 none, .val x1, .val x5], [.vir (.own (.sl 2 b5000))])
theorem Qlx (E : Env) (x1 : U) (x5 : U) (b5000 : List U) : f69_l0 E x1 x5 b5000 =
 (U.bin .lss x5 (.int .i64 (b5000.length : Int))).bind fun t1 => U.asBool t1
 (U.asInt x5 fun n2 => if 2 = 2 ∧ 0 ≤ n2 ∧ n2 < (b5000.length : Int) then if storable (.val x1) = true ∧ x1.size = 1 then (b5000[(n2 : Int).toNat]?).bind fun e3 => U.asAgg e3 fun us4 => if 0 = sizes (us4.take 0) then (us4[0]?).bind fun e5 => if e5.size = 1 then if (x1 : U).flat = true then (U.bin .add x1 (.int .i64 1)).bind fun t6 => U.asInt x5 fun n7 => if 2 = 2 ∧ 0 ≤ n7 ∧ n7 < (((b5000.set (n2 : Int).toNat (.agg (us4.set 0 x1)))).length : Int) then if storable (.val t6) = true ∧ t6.size = 1 then ((b5000.set (n2 : Int).toNat (.agg (us4.set 0 x1)))[(n7 : Int).toNat]?).bind fun e8 => U.asAgg e8 fun us9 => if 1 = sizes (us9.take 1) then (us9[1]?).bind fun e10 => if e10.size = 1 then if (t6 : U).flat = true then (U.bin .add t6 (.int .i64 1)).bind fun t11 => (U.bin .add x5 (.int .i64 1)).bind fun t12 => f69_l0 E t11 t12 ((b5000.set (n2 : Int).toNat (.agg (us4.set 0 x1))).set (n7 : Int).toNat (.agg (us9.set 1 t6))) else none else none else none else none else none else none else none else none else none else none)
 (if (x1 : U).flat = true then some (.tup [x1, .sl 2 b5000]) else none) :=
 (Qc E _ _ _ _).trans (by kernel_rfl)
structure G_f69 (E : Env) : Prop where
  is : Is E 200316 2 f69_ac [(4, none)]
theorem f69_E {E : Env} (h : G_f69 E) (xs0 : List U) (a1 : U) : E 200316 (.agg [.tup [.sl 2 xs0]] :: [a1]) =
 f69_l0 E a1 (.int .i64 0) xs0 := (h.is _ rfl).trans ((Qca rfl).trans (by kernel_rfl))
def f44_i1_r0 : AC :=
 (rg [oo 102 (.mv (.t 109))])
def f44_r1 : AC :=
 (rg [oo 11 (.mv (.t 52))])
def f44_r0 : AC :=
 (rg [oo 12 (.mv (.t 68))])
def f44_ac : AC :=
 (.seq (rg [oo 2 (.box false 2 (.t 0)),
  oo 4 (.mv (.c (.bool false)))])
 (.seq (rg [oo 5 (.mv (ci 1048576))])
 (.seq (rg [oo 16 (.load true 6 (.t 2)),
  oo 17 (.mv (.t 5)),
  oo 18 (.call false 128 [(.t 16), (.t 17)]),
  oo 5 (.mv (.t 18))])
 (.seq (.seq (rg [oo 19 (.mv (.t 5)),
  oo 20 (.bin .lss (.t 19) (ci 0))])
 (.cond (.t 20) (.seq (rg [oo 4 (.mv (.c (.bool true)))])
 .ret) .skip))
 (.seq (rg [oo 22 (.load true 6 (.t 2)),
  oo 23 (.call false 124 [(.t 22)]),
  oo 24 (.mv (.t 1)),
  oo 25 (.call false 399 [(.t 23), (.t 24)]),
  oo 21 (.mv (.t 25)),
  oo 26 (.extract 0 (.t 21)),
  oo 27 (.extract 1 (.t 21)),
  oo 6 (.alloc 6 (.agg [(.int .i64 0), (.int .i64 0), (.int .i64 0), (.int .i64 0), (.nsl 2), (.nsl 2)])),
  ⟨none, .store 6 (.t 6) (.t 26), none⟩,
  oo 7 (.mv (.t 27))])
 (.seq (rg [oo 28 (.load true 6 (.t 2)),
  oo 29 (.callF 29 false [(.agg [.bool, (.agg [(.sl 1)]), (.sl 9), (.sl 2), (.sl 2), .int])] 124 [(.t 28)]),
  oo 8 (.alloc 8 (.agg [(.bool false), (.agg [(.nsl 1)]), (.nsl 9), (.nsl 2), (.nsl 2), (.int .i64 0)])),
  ⟨none, .storeM 3000 6 (.t 8) (.t 29), none⟩])
 (.seq (rg [oo 31 (.loadO (.agg [.bool, (.agg [(.sl 1)]), (.sl 9), (.sl 2), (.sl 2), .int]) (.t 8)),
  oo 32 (.mv (.t 1)),
  oo 33 (.callF 33 true [(.agg [.int, .int, .int, .int, (.sl 2), (.sl 2)]), .bool] 397 [(.t 31), (.t 32)]),
  oo 30 (.mv (.t 33)),
  oo 34 (.extract 0 (.t 30)),
  oo 35 (.extract 1 (.t 30)),
  oo 9 (.alloc 9 (.agg [(.int .i64 0), (.int .i64 0), (.int .i64 0), (.int .i64 0), (.nsl 2), (.nsl 2)])),
  ⟨none, .storeM 3001 6 (.t 9) (.t 34), none⟩,
  oo 10 (.mv (.t 35))])
 (.seq (.seq (rg [oo 36 (.loadO (.agg [.int, .int, .int, .int, (.sl 2), (.sl 2)]) (.t 9)),
  oo 37 (.load true 6 (.t 6)),
  oo 38 (.call false 19 [(.t 36), (.t 37)]),
  oo 39 (.un .not (.t 38)),
  oo 40 (.mv (.t 39)),
  ⟨some 41, .mv (.t 10), some (40, false)⟩,
  ⟨some 42, .mv (.t 7), some (40, false)⟩,
  ⟨some 43, .eqv true 0 (.t 41) (.t 42), some (40, false)⟩,
  oo 44 (.pick (.t 40) (.c (.bool true)) (.t 43))])
 (.cond (.t 44) (.seq (rg [oo 4 (.mv (.c (.bool false)))])
 .ret) .skip))
 (.seq (.seq (.region 5 [oo 45 (.loadO (.agg [.bool, (.agg [(.sl 1)]), (.sl 9), (.sl 2), (.sl 2), .int]) (.t 8)),
  oo 46 (.load true 6 (.t 2)),
  oo 47 (.call false 124 [(.t 46)]),
  oo 48 (.call false 125 [(.t 45), (.t 47)]),
  oo 49 (.un .not (.t 48))])
 (.cond (.t 49) (.seq (rg [oo 4 (.mv (.c (.bool false)))])
 .ret) .skip))
 (.seq (rg [oo 11 (.mv (ci 1))])
 (.seq (.regI 0 [oo 50 (.loadO (.agg [.bool, (.agg [(.sl 1)]), (.sl 9), (.sl 2), (.sl 2), .int]) (.t 8)),
  oo 51 (.mv (.t 11))] ⟨some 52, 101, 22, 315, [(.t 50), (.t 51)], [4]⟩ (.seq (rg [oo 103 (.boxS 103 (.t 101)),
  oo 105 (.mv (ci 0))])
 (.seq (.regI 0 [oo 106 (.faddr 1 1 (.t 103)),
  oo 107 (.loadO (.agg [(.sl 1)]) (.t 106)),
  oo 108 (.mv (.t 102))] ⟨some 109, 123, 10, 96, [(.t 107), (.t 108)], [4]⟩ (.seq (rg [oo 125 (.boxS 125 (.t 123)),
  oo 127 (.mv (ci 0))])
 (.seq (rg [oo 128 (.faddr 0 0 (.t 125)),
  oo 129 (.load false 1 (.t 128)),
  oo 130 (.mv (.t 124)),
  oo 131 (.callM 1 121 (.t 129) [(.t 130)]),
  oo 124 (.mv (.t 131))])
 (.seq (rg [oo 132 (.mv (.t 124)),
  oo 127 (.mv (.t 132))])
 .ret))) f44_i1_r0)
 (.seq (rg [oo 110 (.faddr 2 2 (.t 103)),
  oo 111 (.load false 1 (.t 110)),
  oo 112 (.mv (.t 102)),
  oo 113 (.callM 9 318 (.t 111) [(.t 112)]),
  oo 102 (.mv (.t 113))])
 (.seq (rg [oo 114 (.faddr 3 3 (.t 103)),
  oo 115 (.load false 1 (.t 114)),
  oo 116 (.mv (.t 102)),
  oo 117 (.callM 2 317 (.t 115) [(.t 116)]),
  oo 102 (.mv (.t 117))])
 (.seq (rg [oo 118 (.faddr 4 4 (.t 103)),
  oo 119 (.load false 1 (.t 118)),
  oo 120 (.mv (.t 102)),
  oo 121 (.callM 2 316 (.t 119) [(.t 120)]),
  oo 102 (.mv (.t 121))])
 (.seq (rg [oo 122 (.mv (.t 102)),
  oo 105 (.mv (.t 122))])
 .ret)))))) f44_r1)
 (.seq (.seq (rg [oo 53 (.mv (.t 11)),
  oo 54 (.bin .lss (.t 53) (ci 0)),
  oo 55 (.mv (.t 54)),
  ⟨some 56, .loadO (.agg [.int, .int, .int, .int, (.sl 2), (.sl 2)]) (.t 9), some (55, false)⟩,
  ⟨some 57, .load true 6 (.t 6), some (55, false)⟩,
  ⟨some 58, .call false 19 [(.t 56), (.t 57)], some (55, false)⟩,
  ⟨some 59, .un .not (.t 58), some (55, false)⟩,
  oo 60 (.pick (.t 55) (.c (.bool true)) (.t 59)),
  oo 61 (.mv (.t 60)),
  ⟨some 62, .mv (.t 10), some (61, false)⟩,
  ⟨some 63, .mv (.t 7), some (61, false)⟩,
  ⟨some 64, .eqv true 0 (.t 62) (.t 63), some (61, false)⟩,
  oo 65 (.pick (.t 61) (.c (.bool true)) (.t 64))])
 (.cond (.t 65) (.seq (rg [oo 4 (.mv (.c (.bool false)))])
 .ret) .skip))
 (.seq (rg [oo 12 (.mv (ci 1))])
 (.seq (.regI 0 [oo 66 (.loadO (.agg [.int, .int, .int, .int, (.sl 2), (.sl 2)]) (.t 9)),
  oo 67 (.mv (.t 12))] ⟨some 68, 101, 14, 398, [(.t 66), (.t 67)], [4]⟩ (.seq (rg [oo 103 (.boxS 103 (.t 101)),
  oo 105 (.mv (ci 0))])
 (.seq (rg [oo 106 (.faddr 4 4 (.t 103)),
  oo 107 (.load false 1 (.t 106)),
  oo 108 (.mv (.t 102)),
  oo 109 (.callM 2 95 (.t 107) [(.t 108)]),
  oo 102 (.mv (.t 109))])
 (.seq (rg [oo 110 (.faddr 5 5 (.t 103)),
  oo 111 (.load false 1 (.t 110)),
  oo 112 (.mv (.t 102)),
  oo 113 (.callM 2 232 (.t 111) [(.t 112)]),
  oo 102 (.mv (.t 113))])
 (.seq (rg [oo 114 (.mv (.t 102)),
  oo 105 (.mv (.t 114))])
 .ret)))) f44_r0)
 (.seq (rg [oo 13 (.mv (ci 1))])
 (.seq (rg [oo 69 (.loadO (.agg [.int, .int, .int, .int, (.sl 2), (.sl 2)]) (.t 9)),
  oo 70 (.mv (.t 13)),
  oo 71 (.call false 396 [(.t 69), (.t 70)]),
  oo 13 (.mv (.t 71))])
 (.seq (.seq (rg [oo 72 (.mv (.t 13)),
  oo 73 (.bin .lss (.t 72) (ci 0))])
 (.cond (.t 73) (.seq (rg [oo 4 (.mv (.c (.bool false)))])
 .ret) .skip))
 (.seq (.seq (rg [oo 74 (.mv (.t 13)),
  oo 75 (.mv (.t 12)),
  oo 76 (.bin .neq (.t 74) (.t 75))])
 (.cond (.t 76) (.seq (rg [oo 4 (.mv (.c (.bool false)))])
 .ret) .skip))
 (.seq (rg [oo 78 (.load true 6 (.t 2)),
  oo 79 (.call false 124 [(.t 78)]),
  oo 80 (.mv (.t 1)),
  oo 81 (.call false 397 [(.t 79), (.t 80)]),
  oo 77 (.mv (.t 81)),
  oo 82 (.extract 0 (.t 77)),
  oo 83 (.extract 1 (.t 77)),
  oo 14 (.alloc 14 (.agg [(.int .i64 0), (.int .i64 0), (.int .i64 0), (.int .i64 0), (.nsl 2), (.nsl 2)])),
  ⟨none, .store 6 (.t 14) (.t 82), none⟩,
  oo 15 (.mv (.t 83))])
 (.seq (.seq (rg [oo 84 (.load true 6 (.t 14)),
  oo 85 (.load true 6 (.t 6)),
  oo 86 (.call false 19 [(.t 84), (.t 85)]),
  oo 87 (.un .not (.t 86)),
  oo 88 (.mv (.t 87)),
  ⟨some 89, .mv (.t 15), some (88, false)⟩,
  ⟨some 90, .mv (.t 7), some (88, false)⟩,
  ⟨some 91, .eqv true 0 (.t 89) (.t 90), some (88, false)⟩,
  oo 92 (.pick (.t 88) (.c (.bool true)) (.t 91))])
 (.cond (.t 92) (.seq (rg [oo 4 (.mv (.c (.bool false)))])
 .ret) .skip))
 (.seq (rg [oo 13 (.mv (ci 1))])
 (.seq (rg [oo 93 (.loadO (.agg [.int, .int, .int, .int, (.sl 2), (.sl 2)]) (.t 9)),
  oo 94 (.mv (.t 13)),
  oo 95 (.call false 396 [(.t 93), (.t 94)]),
  oo 13 (.mv (.t 95))])
 (.seq (.seq (rg [oo 96 (.mv (.t 13)),
  oo 97 (.bin .lss (.t 96) (ci 0))])
 (.cond (.t 97) (.seq (rg [oo 4 (.mv (.c (.bool false)))])
 .ret) .skip))
 (.seq (.seq (rg [oo 98 (.mv (.t 13)),
  oo 99 (.mv (.t 12)),
  oo 100 (.bin .neq (.t 98) (.t 99))])
 (.cond (.t 100) (.seq (rg [oo 4 (.mv (.c (.bool false)))])
 .ret) .skip))
 (.seq (rg [oo 4 (.mv (.c (.bool true)))])
 .ret)))))))))))))))))))))))))
structure G_f44 (E : Env) : Prop where
  is : Is E 395 2 f44_ac [(4, none)]
  c_f71 : G_f71 E
  c_f81 : G_f81 E
  c_f45 : G_f45 E
  c_f131 : G_f131 E
  c_f27 : G_f27 E
  c_f48 : G_f48 E
  c_f61 : G_f61 E
  c_f82 : G_f82 E
  c_f28 : G_f28 E
  c_f67 : G_f67 E
  c_f65 : G_f65 E
  c_f70 : G_f70 E
  c_f66 : G_f66 E
  c_f64 : G_f64 E
  c_f69 : G_f69 E
theorem f44_E {E : Env} (h : G_f44 E) (a0 a1 : U) : E 395 [a0, a1] =
 U.noTup a0 fun x1 => U.asVar true 6 x1 fun e2 => (E 128 [e2, (.int .i64 1048576)]).bind fun t3 => (U.bin .lss t3 (.int .i64 0)).bind fun t4 => U.asBool t4
 (some (.bool true))
 (U.asVar true 6 x1 fun e5 => (E 124 [e5]).bind fun t6 => (E 399 [t6, a1]).bind fun t7 => U.part 0 t7 fun p8 => U.part 1 t7 fun p9 => if storable (.val p8) = true ∧ p8.size = 6 then U.asVar true 6 x1 fun e10 => (E 100124 [e10]).bind fun t11 => U.noTup t11 fun x12 => U.asAgg x12 fun us13 => (match us13 with
 | u14 :: us15 => (U.asB u14 fun b16 => (match us15 with
 | u17 :: us18 => (U.asAgg u17 fun us19 => (match us19 with
 | u20 :: us21 => (U.asSlK 1 u20 fun us22 => (match us21 with
 | [] => ((match us18 with
 | u23 :: us24 => (U.asSlK 9 u23 fun us25 => (match us24 with
 | u26 :: us27 => (U.asSlK 2 u26 fun us28 => (match us27 with
 | u29 :: us30 => (U.asSlK 2 u29 fun us31 => (match us30 with
 | u32 :: us33 => (U.asInt u32 fun n34 => (match us33 with
 | [] => ((E 100397 [(.agg [(.bool b16), (.agg [(.sl 1 us22)]), (.sl 9 us25), (.sl 2 us28), (.sl 2 us31), (.int .i64 n34)]), a1]).bind fun t35 => U.asTup t35 fun us36 => (match us36 with
 | u37 :: us38 => (U.asAgg u37 fun us39 => (match us39 with
 | u40 :: us41 => (U.asInt u40 fun n42 => (match us41 with
 | u43 :: us44 => (U.asInt u43 fun n45 => (match us44 with
 | u46 :: us47 => (U.asInt u46 fun n48 => (match us47 with
 | u49 :: us50 => (U.asInt u49 fun n51 => (match us50 with
 | u52 :: us53 => (U.asSlK 2 u52 fun us54 => (match us53 with
 | u55 :: us56 => (U.asSlK 2 u55 fun us57 => (match us56 with
 | [] => ((match us38 with
 | u58 :: us59 => (U.asB u58 fun b60 => (match us59 with
 | [] => (U.asVar true 6 p8 fun e61 => (E 19 [(.agg [(.int .i64 n42), (.int .i64 n45), (.int .i64 n48), (.int .i64 n51), (.sl 2 us54), (.sl 2 us57)]), e61]).bind fun t62 => U.asFlat t62 fun t63 => (U.un .not t63).bind fun t64 => U.asBool t64
 (some (.bool false))
 ((U.eqv 0 (.bool b60) p9).bind fun q65 => U.asBool (.bool (!q65))
 (some (.bool false))
 (U.asVar true 6 x1 fun e66 => (E 124 [e66]).bind fun t67 => (E 125 [(.agg [(.bool b16), (.agg [(.sl 1 us22)]), (.sl 9 us25), (.sl 2 us28), (.sl 2 us31), (.int .i64 n34)]), t67]).bind fun t68 => U.asFlat t68 fun t69 => (U.un .not t69).bind fun t70 => U.asBool t70
 (some (.bool false))
 (if 1 = 1 then (E 200121 (.agg [.tup [.sl 1 us22]] :: [(.int .i64 1)])).bind fun t71 => U.asMut 1 t71 fun y72 ys73 => U.asFlat y72 fun y72 => if partable (.val y72) = true then (E 200318 (.agg [.tup [.sl 9 us25]] :: [y72])).bind fun t74 => U.asMut 9 t74 fun y75 ys76 => U.asFlat y75 fun y75 => (E 200317 (.agg [.tup [.sl 2 us28]] :: [y75])).bind fun t77 => U.asMut 2 t77 fun y78 ys79 => U.asFlat y78 fun y78 => (E 200316 (.agg [.tup [.sl 2 us31]] :: [y78])).bind fun t80 => U.asMut 2 t80 fun y81 ys82 => U.asFlat y81 fun y81 => if partable (.val y81) = true then (U.bin .lss y81 (.int .i64 0)).bind fun t83 => U.asBool t83
 (some (.bool false))
 (U.asVar true 6 p8 fun e84 => (E 19 [(.agg [(.int .i64 n42), (.int .i64 n45), (.int .i64 n48), (.int .i64 n51), (.sl 2 us54), (.sl 2 us57)]), e84]).bind fun t85 => U.asFlat t85 fun t86 => (U.un .not t86).bind fun t87 => U.asBool t87
 (some (.bool false))
 ((U.eqv 0 (.bool b60) p9).bind fun q88 => U.asBool (.bool (!q88))
 (some (.bool false))
 ((E 200095 (.agg [.tup [.sl 2 us54]] :: [(.int .i64 1)])).bind fun t89 => U.asMut 2 t89 fun y90 ys91 => U.asFlat y90 fun y90 => (E 200232 (.agg [.tup [.sl 2 us57]] :: [y90])).bind fun t92 => U.asMut 2 t92 fun y93 ys94 => U.asFlat y93 fun y93 => if partable (.val y93) = true then (E 396 [(.agg [(.int .i64 n42), (.int .i64 n45), (.int .i64 n48), (.int .i64 n51), (.sl 2 ys91), (.sl 2 ys94)]), (.int .i64 1)]).bind fun t95 => U.asFlat t95 fun t96 => (U.bin .lss t96 (.int .i64 0)).bind fun t97 => U.asBool t97
 (some (.bool false))
 ((U.bin .neq t96 y93).bind fun t98 => U.asBool t98
 (some (.bool false))
 (U.asVar true 6 x1 fun e99 => (E 124 [e99]).bind fun t100 => (E 397 [t100, a1]).bind fun t101 => U.part 0 t101 fun p102 => U.part 1 t101 fun p103 => if storable (.val p102) = true ∧ p102.size = 6 then U.asVar true 6 p102 fun e104 => U.asVar true 6 p8 fun e105 => (E 19 [e104, e105]).bind fun t106 => (U.un .not t106).bind fun t107 => U.asBool t107
 (some (.bool false))
 ((U.eqv 0 p103 p9).bind fun q108 => U.asBool (.bool (!q108))
 (some (.bool false))
 ((E 396 [(.agg [(.int .i64 n42), (.int .i64 n45), (.int .i64 n48), (.int .i64 n51), (.sl 2 ys91), (.sl 2 ys94)]), (.int .i64 1)]).bind fun t109 => U.asFlat t109 fun t110 => (U.bin .lss t110 (.int .i64 0)).bind fun t111 => U.asBool t111
 (some (.bool false))
 ((U.bin .neq t110 y93).bind fun t112 => U.asBool t112
 (some (.bool false))
 (some (.bool true))))) else none)) else none))) else none else none else none))))
 | _ => none))
 | [] => none))
 | _ => none))
 | [] => none))
 | [] => none))
 | [] => none))
 | [] => none))
 | [] => none))
 | [] => none))
 | [] => none))
 | _ => none))
 | [] => none))
 | [] => none))
 | [] => none))
 | [] => none))
 | _ => none))
 | [] => none))
 | [] => none))
 | [] => none) else none) := (h.is _ rfl).trans ((Qa rfl).trans (by kernel_rfl))
end Go.Proofs.YtmdnjglkdddaeaaGreat.Am
