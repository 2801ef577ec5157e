import Derived.KernelRfl
import Derived.Test.YtfdcdbkblkehcaaAbortTransactionF0
import Derived.Test.YtfdcdbkblkehcaaAmW
namespace Go.Proofs.Ytfdcdbkblkehcaa.Am
open Go
set_option linter.unusedVariables false
set_option maxRecDepth 100000

/- loop.example/g01924/laws.FnExactAbortTransaction -/
def laws_FnExactAbortTransaction_r1 : AC :=
 (.region 0 [⟨some 9, .mv (.t 48), none⟩])
def laws_FnExactAbortTransaction_r0 : AC :=
 (.region 0 [⟨some 10, .mv (.t 64), none⟩])
def laws_FnExactAbortTransaction_ac : AC :=
 (.seq (.region 0 [⟨some 1, .box false 1 (.t 0), none⟩,
  ⟨some 2, .mv (.c (.bool false)), none⟩])
 (.seq (.region 0 [⟨some 3, .mv (.c (.int .i64 1048576)), none⟩])
 (.seq (.region 0 [⟨some 14, .load true 9 (.t 1), none⟩,
  ⟨some 15, .mv (.t 3), none⟩,
  ⟨some 16, .call false 132 [(.t 14), (.t 15)], none⟩,
  ⟨some 3, .mv (.t 16), none⟩])
 (.seq (.seq (.region 0 [⟨some 17, .mv (.t 3), none⟩,
  ⟨some 18, .bin .lss (.t 17) (.c (.int .i64 0)), none⟩])
 (.cond (.t 18) (.seq (.region 0 [⟨some 2, .mv (.c (.bool true)), none⟩])
 .ret) .skip))
 (.seq (.region 0 [⟨some 20, .load true 9 (.t 1), none⟩,
  ⟨some 21, .call false 145 [(.t 20)], none⟩,
  ⟨some 22, .call false 329 [(.t 21)], none⟩,
  ⟨some 19, .mv (.t 22), none⟩,
  ⟨some 23, .extract 0 (.t 19), none⟩,
  ⟨some 24, .extract 1 (.t 19), none⟩,
  ⟨some 4, .alloc 4 (.agg [(.int .i64 0), (.int .i64 0), (.int .i64 0), (.int .i64 0), (.int .i64 0), (.int .i64 0), (.int .i64 0), (.nsl 2), (.nsl 2)]), none⟩,
  ⟨none, .store 9 (.t 4) (.t 23), none⟩,
  ⟨some 5, .mv (.t 24), none⟩])
 (.seq (.region 0 [⟨some 25, .load true 9 (.t 1), none⟩,
  ⟨some 26, .callF 26 false [(.agg [.int, .int, .int, .int, .int, .int, .int, (.sl 2), (.sl 2)])] 145 [(.t 25)], none⟩,
  ⟨some 6, .alloc 6 (.agg [(.int .i64 0), (.int .i64 0), (.int .i64 0), (.int .i64 0), (.int .i64 0), (.int .i64 0), (.int .i64 0), (.nsl 2), (.nsl 2)]), none⟩,
  ⟨none, .storeM 3000 9 (.t 6) (.t 26), none⟩])
 (.seq (.region 0 [⟨some 28, .loadO (.agg [.int, .int, .int, .int, .int, .int, .int, (.sl 2), (.sl 2)]) (.t 6), none⟩,
  ⟨some 29, .callF 29 true [(.agg [.int, .int, .int, .int, .int, .int, .int, (.sl 2), (.sl 2)]), .bool] 328 [(.t 28)], none⟩,
  ⟨some 27, .mv (.t 29), none⟩,
  ⟨some 30, .extract 0 (.t 27), none⟩,
  ⟨some 31, .extract 1 (.t 27), none⟩,
  ⟨some 7, .alloc 7 (.agg [(.int .i64 0), (.int .i64 0), (.int .i64 0), (.int .i64 0), (.int .i64 0), (.int .i64 0), (.int .i64 0), (.nsl 2), (.nsl 2)]), none⟩,
  ⟨none, .storeM 3001 9 (.t 7) (.t 30), none⟩,
  ⟨some 8, .mv (.t 31), none⟩])
 (.seq (.seq (.region 0 [⟨some 32, .loadO (.agg [.int, .int, .int, .int, .int, .int, .int, (.sl 2), (.sl 2)]) (.t 7), none⟩,
  ⟨some 33, .load true 9 (.t 4), none⟩,
  ⟨some 34, .call false 177 [(.t 32), (.t 33)], none⟩,
  ⟨some 35, .un .not (.t 34), none⟩,
  ⟨some 36, .mv (.t 35), none⟩,
  ⟨some 37, .mv (.t 8), some (36, false)⟩,
  ⟨some 38, .mv (.t 5), some (36, false)⟩,
  ⟨some 39, .eqv true 0 (.t 37) (.t 38), some (36, false)⟩,
  ⟨some 40, .pick (.t 36) (.c (.bool true)) (.t 39), none⟩])
 (.cond (.t 40) (.seq (.region 0 [⟨some 2, .mv (.c (.bool false)), none⟩])
 .ret) .skip))
 (.seq (.seq (.region 5 [⟨some 41, .loadO (.agg [.int, .int, .int, .int, .int, .int, .int, (.sl 2), (.sl 2)]) (.t 6), none⟩,
  ⟨some 42, .load true 9 (.t 1), none⟩,
  ⟨some 43, .call false 145 [(.t 42)], none⟩,
  ⟨some 44, .call false 177 [(.t 41), (.t 43)], none⟩,
  ⟨some 45, .un .not (.t 44), none⟩])
 (.cond (.t 45) (.seq (.region 0 [⟨some 2, .mv (.c (.bool false)), none⟩])
 .ret) .skip))
 (.seq (.region 0 [⟨some 9, .mv (.c (.int .i64 1)), none⟩])
 (.seq (.regI 0 [⟨some 46, .loadO (.agg [.int, .int, .int, .int, .int, .int, .int, (.sl 2), (.sl 2)]) (.t 6), none⟩,
  ⟨some 47, .mv (.t 9), none⟩] ⟨some 48, 96, 14, 208, [(.t 46), (.t 47)], [4]⟩ (.seq (.region 0 [⟨some 98, .boxS 98 (.t 96), none⟩,
  ⟨some 100, .mv (.c (.int .i64 0)), none⟩])
 (.seq (.region 0 [⟨some 101, .faddr 7 7 (.t 98), none⟩,
  ⟨some 102, .load false 1 (.t 101), none⟩,
  ⟨some 103, .mv (.t 97), none⟩,
  ⟨some 104, .callM 2 95 (.t 102) [(.t 103)], none⟩,
  ⟨some 97, .mv (.t 104), none⟩])
 (.seq (.region 0 [⟨some 105, .faddr 8 8 (.t 98), none⟩,
  ⟨some 106, .load false 1 (.t 105), none⟩,
  ⟨some 107, .mv (.t 97), none⟩,
  ⟨some 108, .callM 2 232 (.t 106) [(.t 107)], none⟩,
  ⟨some 97, .mv (.t 108), none⟩])
 (.seq (.region 0 [⟨some 109, .mv (.t 97), none⟩,
  ⟨some 100, .mv (.t 109), none⟩])
 .ret)))) laws_FnExactAbortTransaction_r1)
 (.seq (.seq (.region 0 [⟨some 49, .mv (.t 9), none⟩,
  ⟨some 50, .bin .lss (.t 49) (.c (.int .i64 0)), none⟩,
  ⟨some 51, .mv (.t 50), none⟩,
  ⟨some 52, .loadO (.agg [.int, .int, .int, .int, .int, .int, .int, (.sl 2), (.sl 2)]) (.t 7), some (51, false)⟩,
  ⟨some 53, .load true 9 (.t 4), some (51, false)⟩,
  ⟨some 54, .call false 177 [(.t 52), (.t 53)], some (51, false)⟩,
  ⟨some 55, .un .not (.t 54), some (51, false)⟩,
  ⟨some 56, .pick (.t 51) (.c (.bool true)) (.t 55), none⟩,
  ⟨some 57, .mv (.t 56), none⟩,
  ⟨some 58, .mv (.t 8), some (57, false)⟩,
  ⟨some 59, .mv (.t 5), some (57, false)⟩,
  ⟨some 60, .eqv true 0 (.t 58) (.t 59), some (57, false)⟩,
  ⟨some 61, .pick (.t 57) (.c (.bool true)) (.t 60), none⟩])
 (.cond (.t 61) (.seq (.region 0 [⟨some 2, .mv (.c (.bool false)), none⟩])
 .ret) .skip))
 (.seq (.region 0 [⟨some 10, .mv (.c (.int .i64 1)), none⟩])
 (.seq (.regI 0 [⟨some 62, .loadO (.agg [.int, .int, .int, .int, .int, .int, .int, (.sl 2), (.sl 2)]) (.t 7), none⟩,
  ⟨some 63, .mv (.t 10), none⟩] ⟨some 64, 96, 14, 208, [(.t 62), (.t 63)], [4]⟩ (.seq (.region 0 [⟨some 98, .boxS 98 (.t 96), none⟩,
  ⟨some 100, .mv (.c (.int .i64 0)), none⟩])
 (.seq (.region 0 [⟨some 101, .faddr 7 7 (.t 98), none⟩,
  ⟨some 102, .load false 1 (.t 101), none⟩,
  ⟨some 103, .mv (.t 97), none⟩,
  ⟨some 104, .callM 2 95 (.t 102) [(.t 103)], none⟩,
  ⟨some 97, .mv (.t 104), none⟩])
 (.seq (.region 0 [⟨some 105, .faddr 8 8 (.t 98), none⟩,
  ⟨some 106, .load false 1 (.t 105), none⟩,
  ⟨some 107, .mv (.t 97), none⟩,
  ⟨some 108, .callM 2 232 (.t 106) [(.t 107)], none⟩,
  ⟨some 97, .mv (.t 108), none⟩])
 (.seq (.region 0 [⟨some 109, .mv (.t 97), none⟩,
  ⟨some 100, .mv (.t 109), none⟩])
 .ret)))) laws_FnExactAbortTransaction_r0)
 (.seq (.region 0 [⟨some 11, .mv (.c (.int .i64 1)), none⟩])
 (.seq (.region 0 [⟨some 65, .loadO (.agg [.int, .int, .int, .int, .int, .int, .int, (.sl 2), (.sl 2)]) (.t 7), none⟩,
  ⟨some 66, .mv (.t 11), none⟩,
  ⟨some 67, .call false 205 [(.t 65), (.t 66)], none⟩,
  ⟨some 11, .mv (.t 67), none⟩])
 (.seq (.seq (.region 0 [⟨some 68, .mv (.t 11), none⟩,
  ⟨some 69, .bin .lss (.t 68) (.c (.int .i64 0)), none⟩])
 (.cond (.t 69) (.seq (.region 0 [⟨some 2, .mv (.c (.bool false)), none⟩])
 .ret) .skip))
 (.seq (.seq (.region 0 [⟨some 70, .mv (.t 11), none⟩,
  ⟨some 71, .mv (.t 10), none⟩,
  ⟨some 72, .bin .neq (.t 70) (.t 71), none⟩])
 (.cond (.t 72) (.seq (.region 0 [⟨some 2, .mv (.c (.bool false)), none⟩])
 .ret) .skip))
 (.seq (.region 0 [⟨some 74, .load true 9 (.t 1), none⟩,
  ⟨some 75, .call false 145 [(.t 74)], none⟩,
  ⟨some 76, .call false 328 [(.t 75)], none⟩,
  ⟨some 73, .mv (.t 76), none⟩,
  ⟨some 77, .extract 0 (.t 73), none⟩,
  ⟨some 78, .extract 1 (.t 73), none⟩,
  ⟨some 12, .alloc 12 (.agg [(.int .i64 0), (.int .i64 0), (.int .i64 0), (.int .i64 0), (.int .i64 0), (.int .i64 0), (.int .i64 0), (.nsl 2), (.nsl 2)]), none⟩,
  ⟨none, .store 9 (.t 12) (.t 77), none⟩,
  ⟨some 13, .mv (.t 78), none⟩])
 (.seq (.seq (.region 0 [⟨some 79, .load true 9 (.t 12), none⟩,
  ⟨some 80, .load true 9 (.t 4), none⟩,
  ⟨some 81, .call false 177 [(.t 79), (.t 80)], none⟩,
  ⟨some 82, .un .not (.t 81), none⟩,
  ⟨some 83, .mv (.t 82), none⟩,
  ⟨some 84, .mv (.t 13), some (83, false)⟩,
  ⟨some 85, .mv (.t 5), some (83, false)⟩,
  ⟨some 86, .eqv true 0 (.t 84) (.t 85), some (83, false)⟩,
  ⟨some 87, .pick (.t 83) (.c (.bool true)) (.t 86), none⟩])
 (.cond (.t 87) (.seq (.region 0 [⟨some 2, .mv (.c (.bool false)), none⟩])
 .ret) .skip))
 (.seq (.region 0 [⟨some 11, .mv (.c (.int .i64 1)), none⟩])
 (.seq (.region 0 [⟨some 88, .loadO (.agg [.int, .int, .int, .int, .int, .int, .int, (.sl 2), (.sl 2)]) (.t 7), none⟩,
  ⟨some 89, .mv (.t 11), none⟩,
  ⟨some 90, .call false 205 [(.t 88), (.t 89)], none⟩,
  ⟨some 11, .mv (.t 90), none⟩])
 (.seq (.seq (.region 0 [⟨some 91, .mv (.t 11), none⟩,
  ⟨some 92, .bin .lss (.t 91) (.c (.int .i64 0)), none⟩])
 (.cond (.t 92) (.seq (.region 0 [⟨some 2, .mv (.c (.bool false)), none⟩])
 .ret) .skip))
 (.seq (.seq (.region 0 [⟨some 93, .mv (.t 11), none⟩,
  ⟨some 94, .mv (.t 10), none⟩,
  ⟨some 95, .bin .neq (.t 93) (.t 94), none⟩])
 (.cond (.t 95) (.seq (.region 0 [⟨some 2, .mv (.c (.bool false)), none⟩])
 .ret) .skip))
 (.seq (.region 0 [⟨some 2, .mv (.c (.bool true)), none⟩])
 .ret)))))))))))))))))))))))))

theorem laws_FnExactAbortTransaction_eq (E : Env) (a0 : U) : run E laws_FnExactAbortTransaction_ac [(2, none)] [a0] =
 U.noTup a0 fun x1 => U.asVar true 9 x1 fun e2 => (E 132 [e2, (.int .i64 1048576)]).bind fun t3 => (U.bin .lss t3 (.int .i64 0)).bind fun t4 => U.asBool t4
 (some (.bool true))
 (U.asVar true 9 x1 fun e5 => (E 145 [e5]).bind fun t6 => (E 329 [t6]).bind fun t7 => U.part 0 t7 fun p8 => U.part 1 t7 fun p9 => if storable (.val p8) = true ∧ p8.size = 9 then U.asVar true 9 x1 fun e10 => (E 100145 [e10]).bind fun t11 => U.noTup t11 fun x12 => U.asAgg x12 fun us13 => (match us13 with
 | u14 :: us15 => (U.asInt u14 fun n16 => (match us15 with
 | u17 :: us18 => (U.asInt u17 fun n19 => (match us18 with
 | u20 :: us21 => (U.asInt u20 fun n22 => (match us21 with
 | u23 :: us24 => (U.asInt u23 fun n25 => (match us24 with
 | u26 :: us27 => (U.asInt u26 fun n28 => (match us27 with
 | u29 :: us30 => (U.asInt u29 fun n31 => (match us30 with
 | u32 :: us33 => (U.asInt u32 fun n34 => (match us33 with
 | u35 :: us36 => (U.asSlK 2 u35 fun us37 => (match us36 with
 | u38 :: us39 => (U.asSlK 2 u38 fun us40 => (match us39 with
 | [] => ((E 100328 [(.agg [(.int .i64 n16), (.int .i64 n19), (.int .i64 n22), (.int .i64 n25), (.int .i64 n28), (.int .i64 n31), (.int .i64 n34), (.sl 2 us37), (.sl 2 us40)])]).bind fun t41 => U.asTup t41 fun us42 => (match us42 with
 | u43 :: us44 => (U.asAgg u43 fun us45 => (match us45 with
 | u46 :: us47 => (U.asInt u46 fun n48 => (match us47 with
 | u49 :: us50 => (U.asInt u49 fun n51 => (match us50 with
 | u52 :: us53 => (U.asInt u52 fun n54 => (match us53 with
 | u55 :: us56 => (U.asInt u55 fun n57 => (match us56 with
 | u58 :: us59 => (U.asInt u58 fun n60 => (match us59 with
 | u61 :: us62 => (U.asInt u61 fun n63 => (match us62 with
 | u64 :: us65 => (U.asInt u64 fun n66 => (match us65 with
 | u67 :: us68 => (U.asSlK 2 u67 fun us69 => (match us68 with
 | u70 :: us71 => (U.asSlK 2 u70 fun us72 => (match us71 with
 | [] => ((match us44 with
 | u73 :: us74 => (U.asB u73 fun b75 => (match us74 with
 | [] => (U.asVar true 9 p8 fun e76 => (E 177 [(.agg [(.int .i64 n48), (.int .i64 n51), (.int .i64 n54), (.int .i64 n57), (.int .i64 n60), (.int .i64 n63), (.int .i64 n66), (.sl 2 us69), (.sl 2 us72)]), e76]).bind fun t77 => U.asFlat t77 fun t78 => (U.un .not t78).bind fun t79 => U.asBool t79
 (some (.bool false))
 ((U.eqv 0 (.bool b75) p9).bind fun q80 => U.asBool (.bool (!q80))
 (some (.bool false))
 (U.asVar true 9 x1 fun e81 => (E 145 [e81]).bind fun t82 => (E 177 [(.agg [(.int .i64 n16), (.int .i64 n19), (.int .i64 n22), (.int .i64 n25), (.int .i64 n28), (.int .i64 n31), (.int .i64 n34), (.sl 2 us37), (.sl 2 us40)]), t82]).bind fun t83 => U.asFlat t83 fun t84 => (U.un .not t84).bind fun t85 => U.asBool t85
 (some (.bool false))
 ((E 200095 (.agg [.tup [.sl 2 us37]] :: [(.int .i64 1)])).bind fun t86 => U.asMut 2 t86 fun y87 ys88 => U.asFlat y87 fun y87 => (E 200232 (.agg [.tup [.sl 2 us40]] :: [y87])).bind fun t89 => U.asMut 2 t89 fun y90 ys91 => U.asFlat y90 fun y90 => if partable (.val y90) = true then (U.bin .lss y90 (.int .i64 0)).bind fun t92 => U.asBool t92
 (some (.bool false))
 (U.asVar true 9 p8 fun e93 => (E 177 [(.agg [(.int .i64 n48), (.int .i64 n51), (.int .i64 n54), (.int .i64 n57), (.int .i64 n60), (.int .i64 n63), (.int .i64 n66), (.sl 2 us69), (.sl 2 us72)]), e93]).bind fun t94 => U.asFlat t94 fun t95 => (U.un .not t95).bind fun t96 => U.asBool t96
 (some (.bool false))
 ((U.eqv 0 (.bool b75) p9).bind fun q97 => U.asBool (.bool (!q97))
 (some (.bool false))
 ((E 200095 (.agg [.tup [.sl 2 us69]] :: [(.int .i64 1)])).bind fun t98 => U.asMut 2 t98 fun y99 ys100 => U.asFlat y99 fun y99 => (E 200232 (.agg [.tup [.sl 2 us72]] :: [y99])).bind fun t101 => U.asMut 2 t101 fun y102 ys103 => U.asFlat y102 fun y102 => if partable (.val y102) = true then (E 205 [(.agg [(.int .i64 n48), (.int .i64 n51), (.int .i64 n54), (.int .i64 n57), (.int .i64 n60), (.int .i64 n63), (.int .i64 n66), (.sl 2 ys100), (.sl 2 ys103)]), (.int .i64 1)]).bind fun t104 => U.asFlat t104 fun t105 => (U.bin .lss t105 (.int .i64 0)).bind fun t106 => U.asBool t106
 (some (.bool false))
 ((U.bin .neq t105 y102).bind fun t107 => U.asBool t107
 (some (.bool false))
 (U.asVar true 9 x1 fun e108 => (E 145 [e108]).bind fun t109 => (E 328 [t109]).bind fun t110 => U.part 0 t110 fun p111 => U.part 1 t110 fun p112 => if storable (.val p111) = true ∧ p111.size = 9 then U.asVar true 9 p111 fun e113 => U.asVar true 9 p8 fun e114 => (E 177 [e113, e114]).bind fun t115 => (U.un .not t115).bind fun t116 => U.asBool t116
 (some (.bool false))
 ((U.eqv 0 p112 p9).bind fun q117 => U.asBool (.bool (!q117))
 (some (.bool false))
 ((E 205 [(.agg [(.int .i64 n48), (.int .i64 n51), (.int .i64 n54), (.int .i64 n57), (.int .i64 n60), (.int .i64 n63), (.int .i64 n66), (.sl 2 ys100), (.sl 2 ys103)]), (.int .i64 1)]).bind fun t118 => U.asFlat t118 fun t119 => (U.bin .lss t119 (.int .i64 0)).bind fun t120 => U.asBool t120
 (some (.bool false))
 ((U.bin .neq t119 y102).bind fun t121 => U.asBool t121
 (some (.bool false))
 (some (.bool true))))) else none)) else none))) else none))))
 | _ => none))
 | [] => none))
 | _ => none))
 | [] => none))
 | [] => none))
 | [] => none))
 | [] => none))
 | [] => none))
 | [] => none))
 | [] => none))
 | [] => none))
 | [] => none))
 | [] => none))
 | _ => none))
 | [] => none))
 | [] => none))
 | [] => none))
 | [] => none))
 | [] => none))
 | [] => none))
 | [] => none))
 | [] => none))
 | [] => none) else none) := by kernel_rfl

/-- In the environment E: this function and those that it calls. -/
structure G_laws_FnExactAbortTransaction (E : Env) : Prop where
  is : Is E 327 1 laws_FnExactAbortTransaction_ac [(2, none)]
  c_laws_szTransaction : G_laws_szTransaction E
  c_spec_AbortTransaction : G_spec_AbortTransaction E
  c_laws_toTransaction : G_laws_toTransaction E
  c_impl_AbortTransaction : G_impl_AbortTransaction E
  c_laws_eqTransaction : G_laws_eqTransaction E
  c_laws_heldTransaction : G_laws_heldTransaction E
  c_laws_toTransaction_F : G_laws_toTransaction_F E
  c_impl_AbortTransaction_F : G_impl_AbortTransaction_F E
  c_laws_markReadMarkS_M : G_laws_markReadMarkS_M E
  c_laws_markWriteS_M : G_laws_markWriteS_M E
theorem laws_FnExactAbortTransaction_E {E : Env} (h : G_laws_FnExactAbortTransaction E) (a0 : U) : E 327 [a0] =
 U.noTup a0 fun x1 => U.asVar true 9 x1 fun e2 => (E 132 [e2, (.int .i64 1048576)]).bind fun t3 => (U.bin .lss t3 (.int .i64 0)).bind fun t4 => U.asBool t4
 (some (.bool true))
 (U.asVar true 9 x1 fun e5 => (E 145 [e5]).bind fun t6 => (E 329 [t6]).bind fun t7 => U.part 0 t7 fun p8 => U.part 1 t7 fun p9 => if storable (.val p8) = true ∧ p8.size = 9 then U.asVar true 9 x1 fun e10 => (E 100145 [e10]).bind fun t11 => U.noTup t11 fun x12 => U.asAgg x12 fun us13 => (match us13 with
 | u14 :: us15 => (U.asInt u14 fun n16 => (match us15 with
 | u17 :: us18 => (U.asInt u17 fun n19 => (match us18 with
 | u20 :: us21 => (U.asInt u20 fun n22 => (match us21 with
 | u23 :: us24 => (U.asInt u23 fun n25 => (match us24 with
 | u26 :: us27 => (U.asInt u26 fun n28 => (match us27 with
 | u29 :: us30 => (U.asInt u29 fun n31 => (match us30 with
 | u32 :: us33 => (U.asInt u32 fun n34 => (match us33 with
 | u35 :: us36 => (U.asSlK 2 u35 fun us37 => (match us36 with
 | u38 :: us39 => (U.asSlK 2 u38 fun us40 => (match us39 with
 | [] => ((E 100328 [(.agg [(.int .i64 n16), (.int .i64 n19), (.int .i64 n22), (.int .i64 n25), (.int .i64 n28), (.int .i64 n31), (.int .i64 n34), (.sl 2 us37), (.sl 2 us40)])]).bind fun t41 => U.asTup t41 fun us42 => (match us42 with
 | u43 :: us44 => (U.asAgg u43 fun us45 => (match us45 with
 | u46 :: us47 => (U.asInt u46 fun n48 => (match us47 with
 | u49 :: us50 => (U.asInt u49 fun n51 => (match us50 with
 | u52 :: us53 => (U.asInt u52 fun n54 => (match us53 with
 | u55 :: us56 => (U.asInt u55 fun n57 => (match us56 with
 | u58 :: us59 => (U.asInt u58 fun n60 => (match us59 with
 | u61 :: us62 => (U.asInt u61 fun n63 => (match us62 with
 | u64 :: us65 => (U.asInt u64 fun n66 => (match us65 with
 | u67 :: us68 => (U.asSlK 2 u67 fun us69 => (match us68 with
 | u70 :: us71 => (U.asSlK 2 u70 fun us72 => (match us71 with
 | [] => ((match us44 with
 | u73 :: us74 => (U.asB u73 fun b75 => (match us74 with
 | [] => (U.asVar true 9 p8 fun e76 => (E 177 [(.agg [(.int .i64 n48), (.int .i64 n51), (.int .i64 n54), (.int .i64 n57), (.int .i64 n60), (.int .i64 n63), (.int .i64 n66), (.sl 2 us69), (.sl 2 us72)]), e76]).bind fun t77 => U.asFlat t77 fun t78 => (U.un .not t78).bind fun t79 => U.asBool t79
 (some (.bool false))
 ((U.eqv 0 (.bool b75) p9).bind fun q80 => U.asBool (.bool (!q80))
 (some (.bool false))
 (U.asVar true 9 x1 fun e81 => (E 145 [e81]).bind fun t82 => (E 177 [(.agg [(.int .i64 n16), (.int .i64 n19), (.int .i64 n22), (.int .i64 n25), (.int .i64 n28), (.int .i64 n31), (.int .i64 n34), (.sl 2 us37), (.sl 2 us40)]), t82]).bind fun t83 => U.asFlat t83 fun t84 => (U.un .not t84).bind fun t85 => U.asBool t85
 (some (.bool false))
 ((E 200095 (.agg [.tup [.sl 2 us37]] :: [(.int .i64 1)])).bind fun t86 => U.asMut 2 t86 fun y87 ys88 => U.asFlat y87 fun y87 => (E 200232 (.agg [.tup [.sl 2 us40]] :: [y87])).bind fun t89 => U.asMut 2 t89 fun y90 ys91 => U.asFlat y90 fun y90 => if partable (.val y90) = true then (U.bin .lss y90 (.int .i64 0)).bind fun t92 => U.asBool t92
 (some (.bool false))
 (U.asVar true 9 p8 fun e93 => (E 177 [(.agg [(.int .i64 n48), (.int .i64 n51), (.int .i64 n54), (.int .i64 n57), (.int .i64 n60), (.int .i64 n63), (.int .i64 n66), (.sl 2 us69), (.sl 2 us72)]), e93]).bind fun t94 => U.asFlat t94 fun t95 => (U.un .not t95).bind fun t96 => U.asBool t96
 (some (.bool false))
 ((U.eqv 0 (.bool b75) p9).bind fun q97 => U.asBool (.bool (!q97))
 (some (.bool false))
 ((E 200095 (.agg [.tup [.sl 2 us69]] :: [(.int .i64 1)])).bind fun t98 => U.asMut 2 t98 fun y99 ys100 => U.asFlat y99 fun y99 => (E 200232 (.agg [.tup [.sl 2 us72]] :: [y99])).bind fun t101 => U.asMut 2 t101 fun y102 ys103 => U.asFlat y102 fun y102 => if partable (.val y102) = true then (E 205 [(.agg [(.int .i64 n48), (.int .i64 n51), (.int .i64 n54), (.int .i64 n57), (.int .i64 n60), (.int .i64 n63), (.int .i64 n66), (.sl 2 ys100), (.sl 2 ys103)]), (.int .i64 1)]).bind fun t104 => U.asFlat t104 fun t105 => (U.bin .lss t105 (.int .i64 0)).bind fun t106 => U.asBool t106
 (some (.bool false))
 ((U.bin .neq t105 y102).bind fun t107 => U.asBool t107
 (some (.bool false))
 (U.asVar true 9 x1 fun e108 => (E 145 [e108]).bind fun t109 => (E 328 [t109]).bind fun t110 => U.part 0 t110 fun p111 => U.part 1 t110 fun p112 => if storable (.val p111) = true ∧ p111.size = 9 then U.asVar true 9 p111 fun e113 => U.asVar true 9 p8 fun e114 => (E 177 [e113, e114]).bind fun t115 => (U.un .not t115).bind fun t116 => U.asBool t116
 (some (.bool false))
 ((U.eqv 0 p112 p9).bind fun q117 => U.asBool (.bool (!q117))
 (some (.bool false))
 ((E 205 [(.agg [(.int .i64 n48), (.int .i64 n51), (.int .i64 n54), (.int .i64 n57), (.int .i64 n60), (.int .i64 n63), (.int .i64 n66), (.sl 2 ys100), (.sl 2 ys103)]), (.int .i64 1)]).bind fun t118 => U.asFlat t118 fun t119 => (U.bin .lss t119 (.int .i64 0)).bind fun t120 => U.asBool t120
 (some (.bool false))
 ((U.bin .neq t119 y102).bind fun t121 => U.asBool t121
 (some (.bool false))
 (some (.bool true))))) else none)) else none))) else none))))
 | _ => none))
 | [] => none))
 | _ => none))
 | [] => none))
 | [] => none))
 | [] => none))
 | [] => none))
 | [] => none))
 | [] => none))
 | [] => none))
 | [] => none))
 | [] => none))
 | [] => none))
 | _ => none))
 | [] => none))
 | [] => none))
 | [] => none))
 | [] => none))
 | [] => none))
 | [] => none))
 | [] => none))
 | [] => none))
 | [] => none) else none) := (h.is _ rfl).trans ((runQ_V rfl).trans (laws_FnExactAbortTransaction_eq E a0))

end Go.Proofs.Ytfdcdbkblkehcaa.Am
namespace Go.Proofs.Ytfdcdbkblkehcaa.Am
open Go
set_option linter.unusedVariables false
set_option maxRecDepth 100000

/- loop.example/g01924/laws.szEdgeS -/
def laws_szEdgeS_ac : AC :=
 (.seq (.region 0 [⟨some 4, .mv (.c (.int .i64 0)), none⟩])
 (.seq (.region 0 [⟨some 5, .mv (.t 1), none⟩,
  ⟨some 6, .mv (.t 0), none⟩,
  ⟨some 7, .len false (.t 6), none⟩,
  ⟨some 8, .bin .sub (.t 5) (.t 7), none⟩,
  ⟨some 1, .mv (.t 8), none⟩])
 (.seq (.seq (.region 0 [⟨some 9, .mv (.t 1), none⟩,
  ⟨some 10, .bin .lss (.t 9) (.c (.int .i64 0)), none⟩])
 (.cond (.t 10) (.seq (.region 0 [⟨some 4, .mv (.c (.int .i64 (-1))), none⟩])
 .ret) .skip))
 (.seq (.region 0 [⟨some 11, .mv (.t 1), none⟩,
  ⟨some 4, .mv (.t 11), none⟩])
 .ret))))

theorem laws_szEdgeS_eq (E : Env) (a0 : U) (a1 : U) : run E laws_szEdgeS_ac [(4, none)] [a0, a1] =
 (U.lenOf false a0).bind fun n1 => (U.bin .sub a1 (.int .i64 (n1 : Int))).bind fun t2 => (U.bin .lss t2 (.int .i64 0)).bind fun t3 => U.asBool t3
 (some (.int .i64 (-1)))
 (some t2) := by kernel_rfl

/-- In the environment E: this function and those that it calls. -/
structure G_laws_szEdgeS (E : Env) : Prop where
  is : Is E 5 2 laws_szEdgeS_ac [(4, none)]
theorem laws_szEdgeS_E {E : Env} (h : G_laws_szEdgeS E) (a0 a1 : U) : E 5 [a0, a1] =
 (U.lenOf false a0).bind fun n1 => (U.bin .sub a1 (.int .i64 (n1 : Int))).bind fun t2 => (U.bin .lss t2 (.int .i64 0)).bind fun t3 => U.asBool t3
 (some (.int .i64 (-1)))
 (some t2) := (h.is _ rfl).trans ((runQ_V rfl).trans (laws_szEdgeS_eq E a0 a1))

end Go.Proofs.Ytfdcdbkblkehcaa.Am
namespace Go.Proofs.Ytfdcdbkblkehcaa.Am
open Go
set_option linter.unusedVariables false
set_option maxRecDepth 100000

/- loop.example/g01924/spec.l19Less -/
def spec_l19Less_ac : AC :=
 (.seq (.region 0 [⟨some 2, .box false 2 (.t 0), none⟩,
  ⟨some 3, .box false 3 (.t 1), none⟩,
  ⟨some 4, .mv (.c (.bool false)), none⟩])
 (.seq (.seq (.region 0 [⟨some 5, .faddr 0 0 (.t 2), none⟩,
  ⟨some 6, .load false 1 (.t 5), none⟩,
  ⟨some 7, .faddr 0 0 (.t 3), none⟩,
  ⟨some 8, .load false 1 (.t 7), none⟩,
  ⟨some 9, .bin .neq (.t 6) (.t 8), none⟩])
 (.cond (.t 9) (.seq (.region 0 [⟨some 10, .faddr 0 0 (.t 2), none⟩,
  ⟨some 11, .load false 1 (.t 10), none⟩,
  ⟨some 12, .faddr 0 0 (.t 3), none⟩,
  ⟨some 13, .load false 1 (.t 12), none⟩,
  ⟨some 14, .bin .lss (.t 11) (.t 13), none⟩,
  ⟨some 4, .mv (.t 14), none⟩])
 .ret) .skip))
 (.seq (.seq (.region 0 [⟨some 15, .faddr 1 1 (.t 2), none⟩,
  ⟨some 16, .load false 1 (.t 15), none⟩,
  ⟨some 17, .faddr 1 1 (.t 3), none⟩,
  ⟨some 18, .load false 1 (.t 17), none⟩,
  ⟨some 19, .bin .neq (.t 16) (.t 18), none⟩])
 (.cond (.t 19) (.seq (.region 0 [⟨some 20, .faddr 1 1 (.t 2), none⟩,
  ⟨some 21, .load false 1 (.t 20), none⟩,
  ⟨some 22, .faddr 1 1 (.t 3), none⟩,
  ⟨some 23, .load false 1 (.t 22), none⟩,
  ⟨some 24, .bin .lss (.t 21) (.t 23), none⟩,
  ⟨some 4, .mv (.t 24), none⟩])
 .ret) .skip))
 (.seq (.seq (.region 0 [⟨some 25, .faddr 2 2 (.t 2), none⟩,
  ⟨some 26, .load false 1 (.t 25), none⟩,
  ⟨some 27, .faddr 2 2 (.t 3), none⟩,
  ⟨some 28, .load false 1 (.t 27), none⟩,
  ⟨some 29, .bin .neq (.t 26) (.t 28), none⟩])
 (.cond (.t 29) (.seq (.region 0 [⟨some 30, .faddr 2 2 (.t 2), none⟩,
  ⟨some 31, .load false 1 (.t 30), none⟩,
  ⟨some 32, .faddr 2 2 (.t 3), none⟩,
  ⟨some 33, .load false 1 (.t 32), none⟩,
  ⟨some 34, .bin .lss (.t 31) (.t 33), none⟩,
  ⟨some 4, .mv (.t 34), none⟩])
 .ret) .skip))
 (.seq (.region 0 [⟨some 35, .faddr 3 3 (.t 2), none⟩,
  ⟨some 36, .load false 1 (.t 35), none⟩,
  ⟨some 37, .faddr 3 3 (.t 3), none⟩,
  ⟨some 38, .load false 1 (.t 37), none⟩,
  ⟨some 39, .bin .lss (.t 36) (.t 38), none⟩,
  ⟨some 4, .mv (.t 39), none⟩])
 .ret)))))

theorem spec_l19Less_eq (E : Env) (a0 : U) (a1 : U) : run E spec_l19Less_ac [(4, none)] [a0, a1] =
 U.noTup a0 fun x1 => U.noTup a1 fun x2 => U.asAgg x1 fun us3 => if 0 = sizes (us3.take 0) then (us3[0]?).bind fun e4 => U.asVar false 1 e4 fun e5 => U.asAgg x2 fun us6 => if 0 = sizes (us6.take 0) then (us6[0]?).bind fun e7 => U.asVar false 1 e7 fun e8 => (U.bin .neq e5 e8).bind fun t9 => U.asBool t9
 (U.asAgg x1 fun us10 => if 0 = sizes (us10.take 0) then (us10[0]?).bind fun e11 => U.asVar false 1 e11 fun e12 => U.asAgg x2 fun us13 => if 0 = sizes (us13.take 0) then (us13[0]?).bind fun e14 => U.asVar false 1 e14 fun e15 => (U.bin .lss e12 e15).bind fun t16 => some t16 else none else none)
 (U.asAgg x1 fun us17 => if 1 = sizes (us17.take 1) then (us17[1]?).bind fun e18 => U.asVar false 1 e18 fun e19 => U.asAgg x2 fun us20 => if 1 = sizes (us20.take 1) then (us20[1]?).bind fun e21 => U.asVar false 1 e21 fun e22 => (U.bin .neq e19 e22).bind fun t23 => U.asBool t23
 (U.asAgg x1 fun us24 => if 1 = sizes (us24.take 1) then (us24[1]?).bind fun e25 => U.asVar false 1 e25 fun e26 => U.asAgg x2 fun us27 => if 1 = sizes (us27.take 1) then (us27[1]?).bind fun e28 => U.asVar false 1 e28 fun e29 => (U.bin .lss e26 e29).bind fun t30 => some t30 else none else none)
 (U.asAgg x1 fun us31 => if 2 = sizes (us31.take 2) then (us31[2]?).bind fun e32 => U.asVar false 1 e32 fun e33 => U.asAgg x2 fun us34 => if 2 = sizes (us34.take 2) then (us34[2]?).bind fun e35 => U.asVar false 1 e35 fun e36 => (U.bin .neq e33 e36).bind fun t37 => U.asBool t37
 (U.asAgg x1 fun us38 => if 2 = sizes (us38.take 2) then (us38[2]?).bind fun e39 => U.asVar false 1 e39 fun e40 => U.asAgg x2 fun us41 => if 2 = sizes (us41.take 2) then (us41[2]?).bind fun e42 => U.asVar false 1 e42 fun e43 => (U.bin .lss e40 e43).bind fun t44 => some t44 else none else none)
 (U.asAgg x1 fun us45 => if 3 = sizes (us45.take 3) then (us45[3]?).bind fun e46 => U.asVar false 1 e46 fun e47 => U.asAgg x2 fun us48 => if 3 = sizes (us48.take 3) then (us48[3]?).bind fun e49 => U.asVar false 1 e49 fun e50 => (U.bin .lss e47 e50).bind fun t51 => some t51 else none else none) else none else none) else none else none) else none else none := by kernel_rfl

/-- In the environment E: this function and those that it calls. -/
structure G_spec_l19Less (E : Env) : Prop where
  is : Is E 7 2 spec_l19Less_ac [(4, none)]
theorem spec_l19Less_E {E : Env} (h : G_spec_l19Less E) (a0 a1 : U) : E 7 [a0, a1] =
 U.noTup a0 fun x1 => U.noTup a1 fun x2 => U.asAgg x1 fun us3 => if 0 = sizes (us3.take 0) then (us3[0]?).bind fun e4 => U.asVar false 1 e4 fun e5 => U.asAgg x2 fun us6 => if 0 = sizes (us6.take 0) then (us6[0]?).bind fun e7 => U.asVar false 1 e7 fun e8 => (U.bin .neq e5 e8).bind fun t9 => U.asBool t9
 (U.asAgg x1 fun us10 => if 0 = sizes (us10.take 0) then (us10[0]?).bind fun e11 => U.asVar false 1 e11 fun e12 => U.asAgg x2 fun us13 => if 0 = sizes (us13.take 0) then (us13[0]?).bind fun e14 => U.asVar false 1 e14 fun e15 => (U.bin .lss e12 e15).bind fun t16 => some t16 else none else none)
 (U.asAgg x1 fun us17 => if 1 = sizes (us17.take 1) then (us17[1]?).bind fun e18 => U.asVar false 1 e18 fun e19 => U.asAgg x2 fun us20 => if 1 = sizes (us20.take 1) then (us20[1]?).bind fun e21 => U.asVar false 1 e21 fun e22 => (U.bin .neq e19 e22).bind fun t23 => U.asBool t23
 (U.asAgg x1 fun us24 => if 1 = sizes (us24.take 1) then (us24[1]?).bind fun e25 => U.asVar false 1 e25 fun e26 => U.asAgg x2 fun us27 => if 1 = sizes (us27.take 1) then (us27[1]?).bind fun e28 => U.asVar false 1 e28 fun e29 => (U.bin .lss e26 e29).bind fun t30 => some t30 else none else none)
 (U.asAgg x1 fun us31 => if 2 = sizes (us31.take 2) then (us31[2]?).bind fun e32 => U.asVar false 1 e32 fun e33 => U.asAgg x2 fun us34 => if 2 = sizes (us34.take 2) then (us34[2]?).bind fun e35 => U.asVar false 1 e35 fun e36 => (U.bin .neq e33 e36).bind fun t37 => U.asBool t37
 (U.asAgg x1 fun us38 => if 2 = sizes (us38.take 2) then (us38[2]?).bind fun e39 => U.asVar false 1 e39 fun e40 => U.asAgg x2 fun us41 => if 2 = sizes (us41.take 2) then (us41[2]?).bind fun e42 => U.asVar false 1 e42 fun e43 => (U.bin .lss e40 e43).bind fun t44 => some t44 else none else none)
 (U.asAgg x1 fun us45 => if 3 = sizes (us45.take 3) then (us45[3]?).bind fun e46 => U.asVar false 1 e46 fun e47 => U.asAgg x2 fun us48 => if 3 = sizes (us48.take 3) then (us48[3]?).bind fun e49 => U.asVar false 1 e49 fun e50 => (U.bin .lss e47 e50).bind fun t51 => some t51 else none else none) else none else none) else none else none) else none else none := (h.is _ rfl).trans ((runQ_V rfl).trans (spec_l19Less_eq E a0 a1))

end Go.Proofs.Ytfdcdbkblkehcaa.Am
namespace Go.Proofs.Ytfdcdbkblkehcaa.Am
open Go
set_option linter.unusedVariables false
set_option maxRecDepth 100000

/- loop.example/g01924/spec.AreEdges -/
def spec_AreEdges_b0 : AC :=
 (.seq (.seq (.region 0 [⟨some 4, .mv (.t 3), none⟩,
  ⟨some 5, .mv (.t 0), none⟩,
  ⟨some 6, .len false (.t 5), none⟩,
  ⟨some 7, .bin .lss (.t 4) (.t 6), none⟩])
 (.cond (.t 7) .skip (.exit 0)))
 (.seq (.block 1 (.seq (.region 64 [⟨some 10, .mv (.t 0), none⟩,
  ⟨some 11, .mv (.t 3), none⟩,
  ⟨some 12, .iaddr 4 (.t 10) (.t 11), none⟩,
  ⟨some 13, .faddr 0 0 (.t 12), none⟩,
  ⟨some 14, .load false 1 (.t 13), none⟩,
  ⟨some 15, .call false 6 [(.t 14), (.c (.int .i64 1)), (.c (.int .i64 9))], none⟩,
  ⟨some 16, .un .not (.t 15), none⟩,
  ⟨some 17, .mv (.t 16), none⟩,
  ⟨some 18, .mv (.t 0), some (17, false)⟩,
  ⟨some 19, .mv (.t 3), some (17, false)⟩,
  ⟨some 20, .iaddr 4 (.t 18) (.t 19), some (17, false)⟩,
  ⟨some 21, .faddr 1 1 (.t 20), some (17, false)⟩,
  ⟨some 22, .load false 1 (.t 21), some (17, false)⟩,
  ⟨some 23, .call false 6 [(.t 22), (.c (.int .i64 1)), (.c (.int .i64 9))], some (17, false)⟩,
  ⟨some 24, .un .not (.t 23), some (17, false)⟩,
  ⟨some 25, .pick (.t 17) (.c (.bool true)) (.t 24), none⟩,
  ⟨some 26, .mv (.t 25), none⟩,
  ⟨some 27, .mv (.t 0), some (26, false)⟩,
  ⟨some 28, .mv (.t 3), some (26, false)⟩,
  ⟨some 29, .iaddr 4 (.t 27) (.t 28), some (26, false)⟩,
  ⟨some 30, .faddr 0 0 (.t 29), some (26, false)⟩,
  ⟨some 31, .load false 1 (.t 30), some (26, false)⟩,
  ⟨some 32, .mv (.t 0), some (26, false)⟩,
  ⟨some 33, .mv (.t 3), some (26, false)⟩,
  ⟨some 34, .iaddr 4 (.t 32) (.t 33), some (26, false)⟩,
  ⟨some 35, .faddr 1 1 (.t 34), some (26, false)⟩,
  ⟨some 36, .load false 1 (.t 35), some (26, false)⟩,
  ⟨some 37, .bin .eql (.t 31) (.t 36), some (26, false)⟩,
  ⟨some 38, .pick (.t 26) (.c (.bool true)) (.t 37), none⟩,
  ⟨some 39, .mv (.t 38), none⟩,
  ⟨some 40, .mv (.t 0), some (39, false)⟩,
  ⟨some 41, .mv (.t 3), some (39, false)⟩,
  ⟨some 42, .iaddr 4 (.t 40) (.t 41), some (39, false)⟩,
  ⟨some 43, .faddr 2 2 (.t 42), some (39, false)⟩,
  ⟨some 44, .load false 1 (.t 43), some (39, false)⟩,
  ⟨some 45, .call false 6 [(.t 44), (.c (.int .i64 1)), (.c (.int .i64 3))], some (39, false)⟩,
  ⟨some 46, .un .not (.t 45), some (39, false)⟩,
  ⟨some 47, .pick (.t 39) (.c (.bool true)) (.t 46), none⟩,
  ⟨some 48, .mv (.t 47), none⟩,
  ⟨some 49, .mv (.t 0), some (48, false)⟩,
  ⟨some 50, .mv (.t 3), some (48, false)⟩,
  ⟨some 51, .iaddr 4 (.t 49) (.t 50), some (48, false)⟩,
  ⟨some 52, .faddr 3 3 (.t 51), some (48, false)⟩,
  ⟨some 53, .load false 1 (.t 52), some (48, false)⟩,
  ⟨some 54, .call false 6 [(.t 53), (.c (.int .i64 0)), (.c (.int .i64 5))], some (48, false)⟩,
  ⟨some 55, .un .not (.t 54), some (48, false)⟩,
  ⟨some 56, .pick (.t 48) (.c (.bool true)) (.t 55), none⟩,
  ⟨some 57, .mv (.t 56), none⟩,
  ⟨some 58, .mv (.t 3), some (57, false)⟩,
  ⟨some 59, .bin .gtr (.t 58) (.c (.int .i64 0)), some (57, false)⟩,
  ⟨some 60, .mv (.t 59), some (57, false)⟩,
  ⟨some 61, .mv (.t 0), some (60, true)⟩,
  ⟨some 62, .mv (.t 3), some (60, true)⟩,
  ⟨some 63, .bin .sub (.t 62) (.c (.int .i64 1)), some (60, true)⟩,
  ⟨some 64, .iaddr 4 (.t 61) (.t 63), some (60, true)⟩,
  ⟨some 65, .load true 4 (.t 64), some (60, true)⟩,
  ⟨some 66, .mv (.t 0), some (60, true)⟩,
  ⟨some 67, .mv (.t 3), some (60, true)⟩,
  ⟨some 68, .iaddr 4 (.t 66) (.t 67), some (60, true)⟩,
  ⟨some 69, .load true 4 (.t 68), some (60, true)⟩,
  ⟨some 70, .call false 7 [(.t 65), (.t 69)], some (60, true)⟩,
  ⟨some 71, .un .not (.t 70), some (60, true)⟩,
  ⟨some 72, .pick (.t 60) (.t 71) (.c (.bool false)), some (57, false)⟩,
  ⟨some 73, .pick (.t 57) (.c (.bool true)) (.t 72), none⟩])
 (.cond (.t 73) (.seq (.region 0 [⟨some 2, .mv (.c (.bool false)), none⟩])
 .ret) .skip)))
 (.region 0 [⟨some 8, .mv (.t 3), none⟩,
  ⟨some 9, .bin .add (.t 8) (.c (.int .i64 1)), none⟩,
  ⟨some 3, .mv (.t 9), none⟩])))
def spec_AreEdges_r0 : AC :=
 (.seq (.region 0 [⟨some 2, .mv (.c (.bool true)), none⟩])
 .ret)
def spec_AreEdges_ac : AC :=
 (.seq (.region 0 [⟨some 2, .mv (.c (.bool false)), none⟩])
 (.seq (.seq (.region 0 [⟨some 3, .mv (.c (.int .i64 0)), none⟩])
 (.block 0 (.loop ⟨[0, 3], [], []⟩ spec_AreEdges_b0)))
 spec_AreEdges_r0))
noncomputable def spec_AreEdges_l0 (E : Env) (x0 : U) (x3 : U) : Option U := loopK (roundOf E ⟨[0, 3], [], []⟩ spec_AreEdges_b0 (blockK 0 (seqK (fun s => exec E spec_AreEdges_r0 s (finish [(2, none)])) (finish [(2, none)])))) ([.val x0, .val x3], [])
theorem spec_AreEdges_eq (E : Env) (a0 : U) : run E spec_AreEdges_ac [(2, none)] [a0] =
 spec_AreEdges_l0 E a0 (.int .i64 0) := by kernel_rfl
theorem spec_AreEdges_l0_eq (E : Env) (x0 : U) (x3 : U) : spec_AreEdges_l0 E x0 x3 =
 (U.lenOf false x0).bind fun n1 => (U.bin .lss x3 (.int .i64 (n1 : Int))).bind fun t2 => U.asBool t2
 (U.asInt x3 fun n3 => U.elemAt 4 x0 n3 fun e4 => U.fieldAt 0 0 e4 fun f5 => U.asVar false 1 f5 fun e6 => (E 6 [e6, (.int .i64 1), (.int .i64 9)]).bind fun t7 => (U.un .not t7).bind fun t8 => U.asBool t8
 (some (.bool false))
 (U.asInt x3 fun n9 => U.elemAt 4 x0 n9 fun e10 => U.fieldAt 1 1 e10 fun f11 => U.asVar false 1 f11 fun e12 => (E 6 [e12, (.int .i64 1), (.int .i64 9)]).bind fun t13 => (U.un .not t13).bind fun t14 => U.asBool t14
 (some (.bool false))
 (U.asInt x3 fun n15 => U.elemAt 4 x0 n15 fun e16 => U.fieldAt 0 0 e16 fun f17 => U.asVar false 1 f17 fun e18 => U.asInt x3 fun n19 => U.elemAt 4 x0 n19 fun e20 => U.fieldAt 1 1 e20 fun f21 => U.asVar false 1 f21 fun e22 => (U.bin .eql e18 e22).bind fun t23 => U.asBool t23
 (some (.bool false))
 (U.asInt x3 fun n24 => U.elemAt 4 x0 n24 fun e25 => U.fieldAt 2 2 e25 fun f26 => U.asVar false 1 f26 fun e27 => (E 6 [e27, (.int .i64 1), (.int .i64 3)]).bind fun t28 => (U.un .not t28).bind fun t29 => U.asBool t29
 (some (.bool false))
 (U.asInt x3 fun n30 => U.elemAt 4 x0 n30 fun e31 => U.fieldAt 3 3 e31 fun f32 => U.asVar false 1 f32 fun e33 => (E 6 [e33, (.int .i64 0), (.int .i64 5)]).bind fun t34 => (U.un .not t34).bind fun t35 => U.asBool t35
 (some (.bool false))
 ((U.bin .gtr x3 (.int .i64 0)).bind fun t36 => U.asBool t36
 ((U.bin .sub x3 (.int .i64 1)).bind fun t37 => U.asInt t37 fun n38 => U.elemAt 4 x0 n38 fun e39 => U.asVar true 4 e39 fun e40 => U.asInt x3 fun n41 => U.elemAt 4 x0 n41 fun e42 => U.asVar true 4 e42 fun e43 => (E 7 [e40, e43]).bind fun t44 => (U.un .not t44).bind fun t45 => U.asBool t45
 (some (.bool false))
 ((U.bin .add x3 (.int .i64 1)).bind fun t46 => spec_AreEdges_l0 E x0 t46))
 ((U.bin .add x3 (.int .i64 1)).bind fun t47 => spec_AreEdges_l0 E x0 t47)))))))
 (some (.bool true)) :=
 (loop_eq E _ _ _ _).trans (by kernel_rfl)

/-- In the environment E: this function and those that it calls. -/
structure G_spec_AreEdges (E : Env) : Prop where
  is : Is E 4 1 spec_AreEdges_ac [(2, none)]
  c_spec_l1In : G_spec_l1In E
  c_spec_l19Less : G_spec_l19Less E
theorem spec_AreEdges_E {E : Env} (h : G_spec_AreEdges E) (a0 : U) : E 4 [a0] =
 spec_AreEdges_l0 E a0 (.int .i64 0) := (h.is _ rfl).trans ((runQ_V rfl).trans (spec_AreEdges_eq E a0))

end Go.Proofs.Ytfdcdbkblkehcaa.Am
namespace Go.Proofs.Ytfdcdbkblkehcaa.Am
open Go
set_option linter.unusedVariables false
set_option maxRecDepth 100000

/- loop.example/g01924/laws.toEdge -/
def laws_toEdge_ac : AC :=
 (.seq (.region 0 [⟨some 1, .box false 1 (.t 0), none⟩,
  ⟨some 2, .alloc 2 (.agg [(.int .i64 0), (.int .i64 0), (.int .i64 0), (.int .i64 0)]), none⟩])
 (.seq (.region 0 [⟨some 3, .alloc 3 (.agg [(.int .i64 0), (.int .i64 0), (.int .i64 0), (.int .i64 0)]), none⟩])
 (.seq (.region 0 [⟨some 4, .faddr 0 0 (.t 1), none⟩,
  ⟨some 5, .load false 1 (.t 4), none⟩,
  ⟨some 6, .faddr 0 0 (.t 3), none⟩,
  ⟨none, .store 1 (.t 6) (.t 5), none⟩])
 (.seq (.region 0 [⟨some 7, .faddr 1 1 (.t 1), none⟩,
  ⟨some 8, .load false 1 (.t 7), none⟩,
  ⟨some 9, .faddr 1 1 (.t 3), none⟩,
  ⟨none, .store 1 (.t 9) (.t 8), none⟩])
 (.seq (.region 0 [⟨some 10, .faddr 2 2 (.t 1), none⟩,
  ⟨some 11, .load false 1 (.t 10), none⟩,
  ⟨some 12, .faddr 2 2 (.t 3), none⟩,
  ⟨none, .store 1 (.t 12) (.t 11), none⟩])
 (.seq (.region 0 [⟨some 13, .faddr 3 3 (.t 1), none⟩,
  ⟨some 14, .load false 1 (.t 13), none⟩,
  ⟨some 15, .faddr 3 3 (.t 3), none⟩,
  ⟨none, .store 1 (.t 15) (.t 14), none⟩])
 (.seq (.region 0 [⟨some 16, .load true 4 (.t 3), none⟩,
  ⟨none, .store 4 (.t 2) (.t 16), none⟩])
 .ret)))))))

theorem laws_toEdge_eq (E : Env) (a0 : U) : run E laws_toEdge_ac [(2, some (true, 4))] [a0] =
 U.noTup a0 fun x1 => U.asAgg x1 fun us2 => if 0 = sizes (us2.take 0) then (us2[0]?).bind fun e3 => U.asVar false 1 e3 fun e4 => if storable (.val e4) = true ∧ e4.size = 1 then U.asAgg x1 fun us5 => if 1 = sizes (us5.take 1) then (us5[1]?).bind fun e6 => U.asVar false 1 e6 fun e7 => if storable (.val e7) = true ∧ e7.size = 1 then if 1 = sizes [e4] then U.asAgg x1 fun us8 => if 2 = sizes (us8.take 2) then (us8[2]?).bind fun e9 => U.asVar false 1 e9 fun e10 => if storable (.val e10) = true ∧ e10.size = 1 then if 2 = sizes [e4, e7] then U.asAgg x1 fun us11 => if 3 = sizes (us11.take 3) then (us11[3]?).bind fun e12 => U.asVar false 1 e12 fun e13 => if storable (.val e13) = true ∧ e13.size = 1 then if 3 = sizes [e4, e7, e10] then U.asVar true 4 (.agg [e4, e7, e10, e13]) fun e14 => if storable (.val e14) = true ∧ e14.size = 4 then U.asVar true 4 e14 fun e15 => some e15 else none else none else none else none else none else none else none else none else none else none else none else none := by kernel_rfl

/-- In the environment E: this function and those that it calls. -/
structure G_laws_toEdge (E : Env) : Prop where
  is : Is E 8 1 laws_toEdge_ac [(2, some (true, 4))]
theorem laws_toEdge_E {E : Env} (h : G_laws_toEdge E) (a0 : U) : E 8 [a0] =
 U.noTup a0 fun x1 => U.asAgg x1 fun us2 => if 0 = sizes (us2.take 0) then (us2[0]?).bind fun e3 => U.asVar false 1 e3 fun e4 => if storable (.val e4) = true ∧ e4.size = 1 then U.asAgg x1 fun us5 => if 1 = sizes (us5.take 1) then (us5[1]?).bind fun e6 => U.asVar false 1 e6 fun e7 => if storable (.val e7) = true ∧ e7.size = 1 then if 1 = sizes [e4] then U.asAgg x1 fun us8 => if 2 = sizes (us8.take 2) then (us8[2]?).bind fun e9 => U.asVar false 1 e9 fun e10 => if storable (.val e10) = true ∧ e10.size = 1 then if 2 = sizes [e4, e7] then U.asAgg x1 fun us11 => if 3 = sizes (us11.take 3) then (us11[3]?).bind fun e12 => U.asVar false 1 e12 fun e13 => if storable (.val e13) = true ∧ e13.size = 1 then if 3 = sizes [e4, e7, e10] then U.asVar true 4 (.agg [e4, e7, e10, e13]) fun e14 => if storable (.val e14) = true ∧ e14.size = 4 then U.asVar true 4 e14 fun e15 => some e15 else none else none else none else none else none else none else none else none else none else none else none else none := (h.is _ rfl).trans ((runQ_V rfl).trans (laws_toEdge_eq E a0))

end Go.Proofs.Ytfdcdbkblkehcaa.Am
namespace Go.Proofs.Ytfdcdbkblkehcaa.Am
open Go
set_option linter.unusedVariables false
set_option maxRecDepth 100000

/- loop.example/g01924/laws.toEdgeS -/
def laws_toEdgeS_b0 : AC :=
 (.seq (.seq (.region 0 [⟨some 8, .mv (.t 4), none⟩,
  ⟨some 9, .mv (.t 0), none⟩,
  ⟨some 10, .len false (.t 9), none⟩,
  ⟨some 11, .bin .lss (.t 8) (.t 10), none⟩])
 (.cond (.t 11) .skip (.exit 0)))
 (.seq (.block 1 (.region 0 [⟨some 14, .mv (.t 3), none⟩,
  ⟨some 15, .mv (.t 4), none⟩,
  ⟨some 16, .mv (.t 0), none⟩,
  ⟨some 17, .mv (.t 4), none⟩,
  ⟨some 18, .iaddr 4 (.t 16) (.t 17), none⟩,
  ⟨some 19, .load true 4 (.t 18), none⟩,
  ⟨some 20, .call false 8 [(.t 19)], none⟩,
  ⟨some 21, .iaddr 4 (.t 14) (.t 15), none⟩,
  ⟨none, .store 4 (.t 21) (.t 20), none⟩]))
 (.region 0 [⟨some 12, .mv (.t 4), none⟩,
  ⟨some 13, .bin .add (.t 12) (.c (.int .i64 1)), none⟩,
  ⟨some 4, .mv (.t 13), none⟩])))
def laws_toEdgeS_r0 : AC :=
 (.seq (.region 0 [⟨some 22, .mv (.t 3), none⟩,
  ⟨some 2, .mv (.t 22), none⟩])
 .ret)
def laws_toEdgeS_ac : AC :=
 (.seq (.region 0 [⟨some 2, .mv (.c (.nsl 4)), none⟩])
 (.seq (.region 0 [⟨some 5, .mv (.t 0), none⟩,
  ⟨some 6, .len false (.t 5), none⟩,
  ⟨some 7, .mkslice 7 4 32 (.agg [(.int .i64 0), (.int .i64 0), (.int .i64 0), (.int .i64 0)]) (.t 6) (.t 6), none⟩,
  ⟨some 3, .mv (.t 7), none⟩])
 (.seq (.seq (.region 0 [⟨some 4, .mv (.c (.int .i64 0)), none⟩])
 (.block 0 (.loop ⟨[0, 4], [(3, 4, false)], []⟩ laws_toEdgeS_b0)))
 laws_toEdgeS_r0)))
noncomputable def laws_toEdgeS_l0 (E : Env) (x0 : U) (x4 : U) (c3 : List U) : Option U := loopK (roundOf E ⟨[0, 4], [(3, 4, false)], []⟩ laws_toEdgeS_b0 (blockK 0 (seqK (fun s => exec E laws_toEdgeS_r0 s (finish [(2, none)])) (finish [(2, none)])))) ([.val x0, .val x4], [.vir (.asl 4 c3)])
theorem laws_toEdgeS_eq (E : Env) (a0 : U) : run E laws_toEdgeS_ac [(2, none)] [a0] =
 (U.lenOf false a0).bind fun n1 => if 0 ≤ (n1 : Int) ∧ (n1 : Int) ≤ (n1 : Int) ∧ (n1 : Int) * 32 ≤ 140737488355328 ∧ ((.agg [(.int .i64 0), (.int .i64 0), (.int .i64 0), (.int .i64 0)]) : U).size = 4 then laws_toEdgeS_l0 E a0 (.int .i64 0) (List.replicate ((n1 : Int) : Int).toNat (.agg [(.int .i64 0), (.int .i64 0), (.int .i64 0), (.int .i64 0)])) else none := by kernel_rfl
theorem laws_toEdgeS_l0_eq (E : Env) (x0 : U) (x4 : U) (c3 : List U) : laws_toEdgeS_l0 E x0 x4 c3 =
 (U.lenOf false x0).bind fun n2 => (U.bin .lss x4 (.int .i64 (n2 : Int))).bind fun t3 => U.asBool t3
 (U.asInt x4 fun n4 => U.elemAt 4 x0 n4 fun e5 => U.asVar true 4 e5 fun e6 => (E 8 [e6]).bind fun t7 => U.asInt x4 fun n8 => if 4 = 4 ∧ 0 ≤ n8 ∧ n8 < ((c3).length : Int) then if storable (.val t7) = true ∧ t7.size = 4 then (c3[(n8 : Int).toNat]?).bind fun e9 => if e9.size = 4 then (U.bin .add x4 (.int .i64 1)).bind fun t10 => laws_toEdgeS_l0 E x0 t10 (c3.set (n8 : Int).toNat t7) else none else none else none)
 (some (.sl 4 c3)) :=
 (loop_eq E _ _ _ _).trans (by kernel_rfl)

/-- In the environment E: this function and those that it calls. -/
structure G_laws_toEdgeS (E : Env) : Prop where
  is : Is E 1 1 laws_toEdgeS_ac [(2, none)]
  c_laws_toEdge : G_laws_toEdge E
theorem laws_toEdgeS_E {E : Env} (h : G_laws_toEdgeS E) (a0 : U) : E 1 [a0] =
 (U.lenOf false a0).bind fun n1 => if 0 ≤ (n1 : Int) ∧ (n1 : Int) ≤ (n1 : Int) ∧ (n1 : Int) * 32 ≤ 140737488355328 ∧ ((.agg [(.int .i64 0), (.int .i64 0), (.int .i64 0), (.int .i64 0)]) : U).size = 4 then laws_toEdgeS_l0 E a0 (.int .i64 0) (List.replicate ((n1 : Int) : Int).toNat (.agg [(.int .i64 0), (.int .i64 0), (.int .i64 0), (.int .i64 0)])) else none := (h.is _ rfl).trans ((runQ_V rfl).trans (laws_toEdgeS_eq E a0))

end Go.Proofs.Ytfdcdbkblkehcaa.Am
namespace Go.Proofs.Ytfdcdbkblkehcaa.Am
open Go
set_option linter.unusedVariables false
set_option maxRecDepth 100000

/- loop.example/g01924/impl.compareEdges -/
def impl_compareEdges_ac : AC :=
 (.seq (.region 0 [⟨some 2, .box false 2 (.t 0), none⟩,
  ⟨some 3, .box false 3 (.t 1), none⟩,
  ⟨some 4, .mv (.c (.int .i64 0)), none⟩])
 (.seq (.region 23 [⟨some 5, .faddr 0 0 (.t 2), none⟩,
  ⟨some 6, .load false 1 (.t 5), none⟩,
  ⟨some 7, .faddr 0 0 (.t 3), none⟩,
  ⟨some 8, .load false 1 (.t 7), none⟩,
  ⟨some 9, .call false 13 [(.t 6), (.t 8)], none⟩,
  ⟨some 10, .faddr 1 1 (.t 2), none⟩,
  ⟨some 11, .load false 1 (.t 10), none⟩,
  ⟨some 12, .faddr 1 1 (.t 3), none⟩,
  ⟨some 13, .load false 1 (.t 12), none⟩,
  ⟨some 14, .call false 13 [(.t 11), (.t 13)], none⟩,
  ⟨some 15, .faddr 2 2 (.t 2), none⟩,
  ⟨some 16, .load false 1 (.t 15), none⟩,
  ⟨some 17, .faddr 2 2 (.t 3), none⟩,
  ⟨some 18, .load false 1 (.t 17), none⟩,
  ⟨some 19, .call false 13 [(.t 16), (.t 18)], none⟩,
  ⟨some 20, .faddr 3 3 (.t 2), none⟩,
  ⟨some 21, .load false 1 (.t 20), none⟩,
  ⟨some 22, .faddr 3 3 (.t 3), none⟩,
  ⟨some 23, .load false 1 (.t 22), none⟩,
  ⟨some 24, .call false 13 [(.t 21), (.t 23)], none⟩,
  ⟨some 25, .bslice 0 25 1 4 (.int .i64 0) [(0, (.t 9)), (1, (.t 14)), (2, (.t 19)), (3, (.t 24))], none⟩,
  ⟨some 26, .call false 14 [(.t 25)], none⟩,
  ⟨some 4, .mv (.t 26), none⟩])
 .ret))

theorem impl_compareEdges_eq (E : Env) (a0 : U) (a1 : U) : run E impl_compareEdges_ac [(4, none)] [a0, a1] =
 U.noTup a0 fun x1 => U.noTup a1 fun x2 => U.asAgg x1 fun us3 => if 0 = sizes (us3.take 0) then (us3[0]?).bind fun e4 => U.asVar false 1 e4 fun e5 => U.asAgg x2 fun us6 => if 0 = sizes (us6.take 0) then (us6[0]?).bind fun e7 => U.asVar false 1 e7 fun e8 => (E 13 [e5, e8]).bind fun t9 => U.asAgg x1 fun us10 => if 1 = sizes (us10.take 1) then (us10[1]?).bind fun e11 => U.asVar false 1 e11 fun e12 => U.asAgg x2 fun us13 => if 1 = sizes (us13.take 1) then (us13[1]?).bind fun e14 => U.asVar false 1 e14 fun e15 => (E 13 [e12, e15]).bind fun t16 => U.asAgg x1 fun us17 => if 2 = sizes (us17.take 2) then (us17[2]?).bind fun e18 => U.asVar false 1 e18 fun e19 => U.asAgg x2 fun us20 => if 2 = sizes (us20.take 2) then (us20[2]?).bind fun e21 => U.asVar false 1 e21 fun e22 => (E 13 [e19, e22]).bind fun t23 => U.asAgg x1 fun us24 => if 3 = sizes (us24.take 3) then (us24[3]?).bind fun e25 => U.asVar false 1 e25 fun e26 => U.asAgg x2 fun us27 => if 3 = sizes (us27.take 3) then (us27[3]?).bind fun e28 => U.asVar false 1 e28 fun e29 => (E 13 [e26, e29]).bind fun t30 => if partable (.val t9) = true ∧ t9.size = 1 then if partable (.val t16) = true ∧ t16.size = 1 then if partable (.val t23) = true ∧ t23.size = 1 then if partable (.val t30) = true ∧ t30.size = 1 then (E 14 [(.sl 1 [t9, t16, t23, t30])]).bind fun t31 => some t31 else none else none else none else none else none else none else none else none else none else none else none else none := by kernel_rfl

/-- In the environment E: this function and those that it calls. -/
structure G_impl_compareEdges (E : Env) : Prop where
  is : Is E 12 2 impl_compareEdges_ac [(4, none)]
  c_cmp_Or_g14 : G_cmp_Or_g14 E
  c_cmp_Compare_g13 : G_cmp_Compare_g13 E
theorem impl_compareEdges_E {E : Env} (h : G_impl_compareEdges E) (a0 a1 : U) : E 12 [a0, a1] =
 U.noTup a0 fun x1 => U.noTup a1 fun x2 => U.asAgg x1 fun us3 => if 0 = sizes (us3.take 0) then (us3[0]?).bind fun e4 => U.asVar false 1 e4 fun e5 => U.asAgg x2 fun us6 => if 0 = sizes (us6.take 0) then (us6[0]?).bind fun e7 => U.asVar false 1 e7 fun e8 => (E 13 [e5, e8]).bind fun t9 => U.asAgg x1 fun us10 => if 1 = sizes (us10.take 1) then (us10[1]?).bind fun e11 => U.asVar false 1 e11 fun e12 => U.asAgg x2 fun us13 => if 1 = sizes (us13.take 1) then (us13[1]?).bind fun e14 => U.asVar false 1 e14 fun e15 => (E 13 [e12, e15]).bind fun t16 => U.asAgg x1 fun us17 => if 2 = sizes (us17.take 2) then (us17[2]?).bind fun e18 => U.asVar false 1 e18 fun e19 => U.asAgg x2 fun us20 => if 2 = sizes (us20.take 2) then (us20[2]?).bind fun e21 => U.asVar false 1 e21 fun e22 => (E 13 [e19, e22]).bind fun t23 => U.asAgg x1 fun us24 => if 3 = sizes (us24.take 3) then (us24[3]?).bind fun e25 => U.asVar false 1 e25 fun e26 => U.asAgg x2 fun us27 => if 3 = sizes (us27.take 3) then (us27[3]?).bind fun e28 => U.asVar false 1 e28 fun e29 => (E 13 [e26, e29]).bind fun t30 => if partable (.val t9) = true ∧ t9.size = 1 then if partable (.val t16) = true ∧ t16.size = 1 then if partable (.val t23) = true ∧ t23.size = 1 then if partable (.val t30) = true ∧ t30.size = 1 then (E 14 [(.sl 1 [t9, t16, t23, t30])]).bind fun t31 => some t31 else none else none else none else none else none else none else none else none else none else none else none else none := (h.is _ rfl).trans ((runQ_V rfl).trans (impl_compareEdges_eq E a0 a1))

end Go.Proofs.Ytfdcdbkblkehcaa.Am
namespace Go.Proofs.Ytfdcdbkblkehcaa.Am
open Go
set_option linter.unusedVariables false
set_option maxRecDepth 100000

/- loop.example/g01924/impl.AreEdges -/
def impl_AreEdges_b0 : AC :=
 (.seq (.region 0 [⟨some 8, .bin .lss (.t 7) (.t 6), none⟩])
 (.seq (.cond (.t 8) .skip (.exit 0))
 (.seq (.block 1 (.seq (.region 0 [⟨some 9, .mv (.t 7), none⟩,
  ⟨some 10, .iaddr 4 (.t 5) (.t 7), none⟩,
  ⟨some 11, .load true 4 (.t 10), none⟩,
  ⟨some 4, .alloc 4 (.agg [(.int .i64 0), (.int .i64 0), (.int .i64 0), (.int .i64 0)]), none⟩,
  ⟨some 3, .mv (.t 9), none⟩,
  ⟨none, .store 4 (.t 4) (.t 11), none⟩])
 (.seq (.region 43 [⟨some 12, .faddr 0 0 (.t 4), none⟩,
  ⟨some 13, .load false 1 (.t 12), none⟩,
  ⟨some 14, .call false 9 [(.t 13)], none⟩,
  ⟨some 15, .un .not (.t 14), none⟩,
  ⟨some 16, .mv (.t 15), none⟩,
  ⟨some 17, .faddr 1 1 (.t 4), some (16, false)⟩,
  ⟨some 18, .load false 1 (.t 17), some (16, false)⟩,
  ⟨some 19, .call false 9 [(.t 18)], some (16, false)⟩,
  ⟨some 20, .un .not (.t 19), some (16, false)⟩,
  ⟨some 21, .pick (.t 16) (.c (.bool true)) (.t 20), none⟩,
  ⟨some 22, .mv (.t 21), none⟩,
  ⟨some 23, .faddr 0 0 (.t 4), some (22, false)⟩,
  ⟨some 24, .load false 1 (.t 23), some (22, false)⟩,
  ⟨some 25, .faddr 1 1 (.t 4), some (22, false)⟩,
  ⟨some 26, .load false 1 (.t 25), some (22, false)⟩,
  ⟨some 27, .bin .eql (.t 24) (.t 26), some (22, false)⟩,
  ⟨some 28, .pick (.t 22) (.c (.bool true)) (.t 27), none⟩,
  ⟨some 29, .mv (.t 28), none⟩,
  ⟨some 30, .faddr 2 2 (.t 4), some (29, false)⟩,
  ⟨some 31, .load false 1 (.t 30), some (29, false)⟩,
  ⟨some 32, .call false 10 [(.t 31), (.c (.int .i64 1)), (.c (.int .i64 3))], some (29, false)⟩,
  ⟨some 33, .un .not (.t 32), some (29, false)⟩,
  ⟨some 34, .pick (.t 29) (.c (.bool true)) (.t 33), none⟩,
  ⟨some 35, .mv (.t 34), none⟩,
  ⟨some 36, .faddr 3 3 (.t 4), some (35, false)⟩,
  ⟨some 37, .load false 1 (.t 36), some (35, false)⟩,
  ⟨some 38, .call false 11 [(.t 37)], some (35, false)⟩,
  ⟨some 39, .un .not (.t 38), some (35, false)⟩,
  ⟨some 40, .pick (.t 35) (.c (.bool true)) (.t 39), none⟩,
  ⟨some 41, .mv (.t 40), none⟩,
  ⟨some 42, .mv (.t 3), some (41, false)⟩,
  ⟨some 43, .bin .gtr (.t 42) (.c (.int .i64 0)), some (41, false)⟩,
  ⟨some 44, .mv (.t 43), some (41, false)⟩,
  ⟨some 45, .mv (.t 0), some (44, true)⟩,
  ⟨some 46, .mv (.t 3), some (44, true)⟩,
  ⟨some 47, .bin .sub (.t 46) (.c (.int .i64 1)), some (44, true)⟩,
  ⟨some 48, .iaddr 4 (.t 45) (.t 47), some (44, true)⟩,
  ⟨some 49, .load true 4 (.t 48), some (44, true)⟩,
  ⟨some 50, .load true 4 (.t 4), some (44, true)⟩,
  ⟨some 51, .call false 12 [(.t 49), (.t 50)], some (44, true)⟩,
  ⟨some 52, .bin .geq (.t 51) (.c (.int .i64 0)), some (44, true)⟩,
  ⟨some 53, .pick (.t 44) (.t 52) (.c (.bool false)), some (41, false)⟩,
  ⟨some 54, .pick (.t 41) (.c (.bool true)) (.t 53), none⟩])
 (.cond (.t 54) (.seq (.region 0 [⟨some 2, .mv (.c (.bool false)), none⟩])
 .ret) .skip))))
 (.region 0 [⟨some 55, .bin .add (.t 7) (.c (.int .i64 1)), none⟩,
  ⟨some 7, .mv (.t 55), none⟩]))))
def impl_AreEdges_r0 : AC :=
 (.seq (.region 0 [⟨some 2, .mv (.c (.bool true)), none⟩])
 .ret)
def impl_AreEdges_ac : AC :=
 (.seq (.region 0 [⟨some 2, .mv (.c (.bool false)), none⟩])
 (.seq (.seq (.region 0 [⟨some 5, .mv (.t 0), none⟩,
  ⟨some 6, .len false (.t 5), none⟩,
  ⟨some 7, .mv (.c (.int .i64 0)), none⟩])
 (.block 0 (.loop ⟨[0, 5, 6, 7], [], []⟩ impl_AreEdges_b0)))
 impl_AreEdges_r0))
noncomputable def impl_AreEdges_l0 (E : Env) (x0 : U) (x5 : U) (x6 : U) (x7 : U) : Option U := loopK (roundOf E ⟨[0, 5, 6, 7], [], []⟩ impl_AreEdges_b0 (blockK 0 (seqK (fun s => exec E impl_AreEdges_r0 s (finish [(2, none)])) (finish [(2, none)])))) ([.val x0, .val x5, .val x6, .val x7], [])
theorem impl_AreEdges_eq (E : Env) (a0 : U) : run E impl_AreEdges_ac [(2, none)] [a0] =
 (U.lenOf false a0).bind fun n1 => impl_AreEdges_l0 E a0 a0 (.int .i64 (n1 : Int)) (.int .i64 0) := by kernel_rfl
theorem impl_AreEdges_l0_eq (E : Env) (x0 : U) (x5 : U) (x6 : U) (x7 : U) : impl_AreEdges_l0 E x0 x5 x6 x7 =
 (U.bin .lss x7 x6).bind fun t2 => U.asBool t2
 (U.asInt x7 fun n3 => U.elemAt 4 x5 n3 fun e4 => U.asVar true 4 e4 fun e5 => if storable (.val e5) = true ∧ e5.size = 4 then U.asAgg e5 fun us6 => if 0 = sizes (us6.take 0) then (us6[0]?).bind fun e7 => U.asVar false 1 e7 fun e8 => (E 9 [e8]).bind fun t9 => (U.un .not t9).bind fun t10 => U.asBool t10
 (some (.bool false))
 (U.asAgg e5 fun us11 => if 1 = sizes (us11.take 1) then (us11[1]?).bind fun e12 => U.asVar false 1 e12 fun e13 => (E 9 [e13]).bind fun t14 => (U.un .not t14).bind fun t15 => U.asBool t15
 (some (.bool false))
 (U.asAgg e5 fun us16 => if 0 = sizes (us16.take 0) then (us16[0]?).bind fun e17 => U.asVar false 1 e17 fun e18 => U.asAgg e5 fun us19 => if 1 = sizes (us19.take 1) then (us19[1]?).bind fun e20 => U.asVar false 1 e20 fun e21 => (U.bin .eql e18 e21).bind fun t22 => U.asBool t22
 (some (.bool false))
 (U.asAgg e5 fun us23 => if 2 = sizes (us23.take 2) then (us23[2]?).bind fun e24 => U.asVar false 1 e24 fun e25 => (E 10 [e25, (.int .i64 1), (.int .i64 3)]).bind fun t26 => (U.un .not t26).bind fun t27 => U.asBool t27
 (some (.bool false))
 (U.asAgg e5 fun us28 => if 3 = sizes (us28.take 3) then (us28[3]?).bind fun e29 => U.asVar false 1 e29 fun e30 => (E 11 [e30]).bind fun t31 => (U.un .not t31).bind fun t32 => U.asBool t32
 (some (.bool false))
 ((U.bin .gtr x7 (.int .i64 0)).bind fun t33 => U.asBool t33
 ((U.bin .sub x7 (.int .i64 1)).bind fun t34 => U.asInt t34 fun n35 => U.elemAt 4 x0 n35 fun e36 => U.asVar true 4 e36 fun e37 => U.asVar true 4 e5 fun e38 => (E 12 [e37, e38]).bind fun t39 => (U.bin .geq t39 (.int .i64 0)).bind fun t40 => U.asBool t40
 (some (.bool false))
 ((U.bin .add x7 (.int .i64 1)).bind fun t41 => impl_AreEdges_l0 E x0 x5 x6 t41))
 ((U.bin .add x7 (.int .i64 1)).bind fun t42 => impl_AreEdges_l0 E x0 x5 x6 t42)) else none) else none) else none else none) else none) else none else none)
 (some (.bool true)) :=
 (loop_eq E _ _ _ _).trans (by kernel_rfl)

/-- In the environment E: this function and those that it calls. -/
structure G_impl_AreEdges (E : Env) : Prop where
  is : Is E 3 1 impl_AreEdges_ac [(2, none)]
  c_impl_in : G_impl_in E
  c_impl_isID : G_impl_isID E
  c_impl_isKey : G_impl_isKey E
  c_impl_compareEdges : G_impl_compareEdges E
theorem impl_AreEdges_E {E : Env} (h : G_impl_AreEdges E) (a0 : U) : E 3 [a0] =
 (U.lenOf false a0).bind fun n1 => impl_AreEdges_l0 E a0 a0 (.int .i64 (n1 : Int)) (.int .i64 0) := (h.is _ rfl).trans ((runQ_V rfl).trans (impl_AreEdges_eq E a0))

end Go.Proofs.Ytfdcdbkblkehcaa.Am
namespace Go.Proofs.Ytfdcdbkblkehcaa.Am
open Go
set_option linter.unusedVariables false
set_option maxRecDepth 100000

/- loop.example/g01924/laws.eqEdge -/
def laws_eqEdge_ac : AC :=
 (.seq (.region 0 [⟨some 2, .box false 2 (.t 0), none⟩,
  ⟨some 3, .box false 3 (.t 1), none⟩,
  ⟨some 4, .mv (.c (.bool false)), none⟩])
 (.seq (.seq (.region 0 [⟨some 5, .faddr 0 0 (.t 2), none⟩,
  ⟨some 6, .load false 1 (.t 5), none⟩,
  ⟨some 7, .faddr 0 0 (.t 3), none⟩,
  ⟨some 8, .load false 1 (.t 7), none⟩,
  ⟨some 9, .bin .neq (.t 6) (.t 8), none⟩])
 (.cond (.t 9) (.seq (.region 0 [⟨some 4, .mv (.c (.bool false)), none⟩])
 .ret) .skip))
 (.seq (.seq (.region 0 [⟨some 10, .faddr 1 1 (.t 2), none⟩,
  ⟨some 11, .load false 1 (.t 10), none⟩,
  ⟨some 12, .faddr 1 1 (.t 3), none⟩,
  ⟨some 13, .load false 1 (.t 12), none⟩,
  ⟨some 14, .bin .neq (.t 11) (.t 13), none⟩])
 (.cond (.t 14) (.seq (.region 0 [⟨some 4, .mv (.c (.bool false)), none⟩])
 .ret) .skip))
 (.seq (.seq (.region 0 [⟨some 15, .faddr 2 2 (.t 2), none⟩,
  ⟨some 16, .load false 1 (.t 15), none⟩,
  ⟨some 17, .faddr 2 2 (.t 3), none⟩,
  ⟨some 18, .load false 1 (.t 17), none⟩,
  ⟨some 19, .bin .neq (.t 16) (.t 18), none⟩])
 (.cond (.t 19) (.seq (.region 0 [⟨some 4, .mv (.c (.bool false)), none⟩])
 .ret) .skip))
 (.seq (.seq (.region 0 [⟨some 20, .faddr 3 3 (.t 2), none⟩,
  ⟨some 21, .load false 1 (.t 20), none⟩,
  ⟨some 22, .faddr 3 3 (.t 3), none⟩,
  ⟨some 23, .load false 1 (.t 22), none⟩,
  ⟨some 24, .bin .neq (.t 21) (.t 23), none⟩])
 (.cond (.t 24) (.seq (.region 0 [⟨some 4, .mv (.c (.bool false)), none⟩])
 .ret) .skip))
 (.seq (.region 0 [⟨some 4, .mv (.c (.bool true)), none⟩])
 .ret))))))

theorem laws_eqEdge_eq (E : Env) (a0 : U) (a1 : U) : run E laws_eqEdge_ac [(4, none)] [a0, a1] =
 U.noTup a0 fun x1 => U.noTup a1 fun x2 => U.asAgg x1 fun us3 => if 0 = sizes (us3.take 0) then (us3[0]?).bind fun e4 => U.asVar false 1 e4 fun e5 => U.asAgg x2 fun us6 => if 0 = sizes (us6.take 0) then (us6[0]?).bind fun e7 => U.asVar false 1 e7 fun e8 => (U.bin .neq e5 e8).bind fun t9 => U.asBool t9
 (some (.bool false))
 (U.asAgg x1 fun us10 => if 1 = sizes (us10.take 1) then (us10[1]?).bind fun e11 => U.asVar false 1 e11 fun e12 => U.asAgg x2 fun us13 => if 1 = sizes (us13.take 1) then (us13[1]?).bind fun e14 => U.asVar false 1 e14 fun e15 => (U.bin .neq e12 e15).bind fun t16 => U.asBool t16
 (some (.bool false))
 (U.asAgg x1 fun us17 => if 2 = sizes (us17.take 2) then (us17[2]?).bind fun e18 => U.asVar false 1 e18 fun e19 => U.asAgg x2 fun us20 => if 2 = sizes (us20.take 2) then (us20[2]?).bind fun e21 => U.asVar false 1 e21 fun e22 => (U.bin .neq e19 e22).bind fun t23 => U.asBool t23
 (some (.bool false))
 (U.asAgg x1 fun us24 => if 3 = sizes (us24.take 3) then (us24[3]?).bind fun e25 => U.asVar false 1 e25 fun e26 => U.asAgg x2 fun us27 => if 3 = sizes (us27.take 3) then (us27[3]?).bind fun e28 => U.asVar false 1 e28 fun e29 => (U.bin .neq e26 e29).bind fun t30 => U.asBool t30
 (some (.bool false))
 (some (.bool true)) else none else none) else none else none) else none else none) else none else none := by kernel_rfl

/-- In the environment E: this function and those that it calls. -/
structure G_laws_eqEdge (E : Env) : Prop where
  is : Is E 16 2 laws_eqEdge_ac [(4, none)]
theorem laws_eqEdge_E {E : Env} (h : G_laws_eqEdge E) (a0 a1 : U) : E 16 [a0, a1] =
 U.noTup a0 fun x1 => U.noTup a1 fun x2 => U.asAgg x1 fun us3 => if 0 = sizes (us3.take 0) then (us3[0]?).bind fun e4 => U.asVar false 1 e4 fun e5 => U.asAgg x2 fun us6 => if 0 = sizes (us6.take 0) then (us6[0]?).bind fun e7 => U.asVar false 1 e7 fun e8 => (U.bin .neq e5 e8).bind fun t9 => U.asBool t9
 (some (.bool false))
 (U.asAgg x1 fun us10 => if 1 = sizes (us10.take 1) then (us10[1]?).bind fun e11 => U.asVar false 1 e11 fun e12 => U.asAgg x2 fun us13 => if 1 = sizes (us13.take 1) then (us13[1]?).bind fun e14 => U.asVar false 1 e14 fun e15 => (U.bin .neq e12 e15).bind fun t16 => U.asBool t16
 (some (.bool false))
 (U.asAgg x1 fun us17 => if 2 = sizes (us17.take 2) then (us17[2]?).bind fun e18 => U.asVar false 1 e18 fun e19 => U.asAgg x2 fun us20 => if 2 = sizes (us20.take 2) then (us20[2]?).bind fun e21 => U.asVar false 1 e21 fun e22 => (U.bin .neq e19 e22).bind fun t23 => U.asBool t23
 (some (.bool false))
 (U.asAgg x1 fun us24 => if 3 = sizes (us24.take 3) then (us24[3]?).bind fun e25 => U.asVar false 1 e25 fun e26 => U.asAgg x2 fun us27 => if 3 = sizes (us27.take 3) then (us27[3]?).bind fun e28 => U.asVar false 1 e28 fun e29 => (U.bin .neq e26 e29).bind fun t30 => U.asBool t30
 (some (.bool false))
 (some (.bool true)) else none else none) else none else none) else none else none) else none else none := (h.is _ rfl).trans ((runQ_V rfl).trans (laws_eqEdge_eq E a0 a1))

end Go.Proofs.Ytfdcdbkblkehcaa.Am
namespace Go.Proofs.Ytfdcdbkblkehcaa.Am
open Go
set_option linter.unusedVariables false
set_option maxRecDepth 100000

/- loop.example/g01924/laws.eqEdgeS -/
def laws_eqEdgeS_b0 : AC :=
 (.seq (.seq (.region 0 [⟨some 11, .mv (.t 5), none⟩,
  ⟨some 12, .mv (.t 0), none⟩,
  ⟨some 13, .len false (.t 12), none⟩,
  ⟨some 14, .bin .lss (.t 11) (.t 13), none⟩])
 (.cond (.t 14) .skip (.exit 0)))
 (.seq (.block 1 (.seq (.region 10 [⟨some 17, .mv (.t 0), none⟩,
  ⟨some 18, .mv (.t 5), none⟩,
  ⟨some 19, .iaddr 4 (.t 17) (.t 18), none⟩,
  ⟨some 20, .load true 4 (.t 19), none⟩,
  ⟨some 21, .mv (.t 1), none⟩,
  ⟨some 22, .mv (.t 5), none⟩,
  ⟨some 23, .iaddr 4 (.t 21) (.t 22), none⟩,
  ⟨some 24, .load true 4 (.t 23), none⟩,
  ⟨some 25, .call false 16 [(.t 20), (.t 24)], none⟩,
  ⟨some 26, .un .not (.t 25), none⟩])
 (.cond (.t 26) (.seq (.region 0 [⟨some 4, .mv (.c (.bool false)), none⟩])
 .ret) .skip)))
 (.region 0 [⟨some 15, .mv (.t 5), none⟩,
  ⟨some 16, .bin .add (.t 15) (.c (.int .i64 1)), none⟩,
  ⟨some 5, .mv (.t 16), none⟩])))
def laws_eqEdgeS_r0 : AC :=
 (.seq (.region 0 [⟨some 4, .mv (.c (.bool true)), none⟩])
 .ret)
def laws_eqEdgeS_ac : AC :=
 (.seq (.region 0 [⟨some 4, .mv (.c (.bool false)), none⟩])
 (.seq (.seq (.region 0 [⟨some 6, .mv (.t 0), none⟩,
  ⟨some 7, .len false (.t 6), none⟩,
  ⟨some 8, .mv (.t 1), none⟩,
  ⟨some 9, .len false (.t 8), none⟩,
  ⟨some 10, .bin .neq (.t 7) (.t 9), none⟩])
 (.cond (.t 10) (.seq (.region 0 [⟨some 4, .mv (.c (.bool false)), none⟩])
 .ret) .skip))
 (.seq (.seq (.region 0 [⟨some 5, .mv (.c (.int .i64 0)), none⟩])
 (.block 0 (.loop ⟨[0, 1, 5], [], []⟩ laws_eqEdgeS_b0)))
 laws_eqEdgeS_r0)))
noncomputable def laws_eqEdgeS_l0 (E : Env) (x0 : U) (x1 : U) (x5 : U) : Option U := loopK (roundOf E ⟨[0, 1, 5], [], []⟩ laws_eqEdgeS_b0 (blockK 0 (seqK (fun s => exec E laws_eqEdgeS_r0 s (finish [(4, none)])) (finish [(4, none)])))) ([.val x0, .val x1, .val x5], [])
theorem laws_eqEdgeS_eq (E : Env) (a0 : U) (a1 : U) : run E laws_eqEdgeS_ac [(4, none)] [a0, a1] =
 (U.lenOf false a0).bind fun n1 => (U.lenOf false a1).bind fun n2 => (U.bin .neq (.int .i64 (n1 : Int)) (.int .i64 (n2 : Int))).bind fun t3 => U.asBool t3
 (some (.bool false))
 (laws_eqEdgeS_l0 E a0 a1 (.int .i64 0)) := by kernel_rfl
theorem laws_eqEdgeS_l0_eq (E : Env) (x0 : U) (x1 : U) (x5 : U) : laws_eqEdgeS_l0 E x0 x1 x5 =
 (U.lenOf false x0).bind fun n4 => (U.bin .lss x5 (.int .i64 (n4 : Int))).bind fun t5 => U.asBool t5
 (U.asInt x5 fun n6 => U.elemAt 4 x0 n6 fun e7 => U.asVar true 4 e7 fun e8 => U.asInt x5 fun n9 => U.elemAt 4 x1 n9 fun e10 => U.asVar true 4 e10 fun e11 => (E 16 [e8, e11]).bind fun t12 => (U.un .not t12).bind fun t13 => U.asBool t13
 (some (.bool false))
 ((U.bin .add x5 (.int .i64 1)).bind fun t14 => laws_eqEdgeS_l0 E x0 x1 t14))
 (some (.bool true)) :=
 (loop_eq E _ _ _ _).trans (by kernel_rfl)

/-- In the environment E: this function and those that it calls. -/
structure G_laws_eqEdgeS (E : Env) : Prop where
  is : Is E 2 2 laws_eqEdgeS_ac [(4, none)]
  c_laws_eqEdge : G_laws_eqEdge E
theorem laws_eqEdgeS_E {E : Env} (h : G_laws_eqEdgeS E) (a0 a1 : U) : E 2 [a0, a1] =
 (U.lenOf false a0).bind fun n1 => (U.lenOf false a1).bind fun n2 => (U.bin .neq (.int .i64 (n1 : Int)) (.int .i64 (n2 : Int))).bind fun t3 => U.asBool t3
 (some (.bool false))
 (laws_eqEdgeS_l0 E a0 a1 (.int .i64 0)) := (h.is _ rfl).trans ((runQ_V rfl).trans (laws_eqEdgeS_eq E a0 a1))

end Go.Proofs.Ytfdcdbkblkehcaa.Am
namespace Go.Proofs.Ytfdcdbkblkehcaa.Am
open Go
set_option linter.unusedVariables false
set_option maxRecDepth 100000

/- loop.example/g01924/laws.FnExactAreEdges -/
def laws_FnExactAreEdges_ac : AC :=
 (.seq (.region 0 [⟨some 2, .mv (.c (.bool false)), none⟩])
 (.seq (.region 0 [⟨some 3, .mv (.c (.int .i64 1048576)), none⟩])
 (.seq (.region 0 [⟨some 7, .mv (.t 0), none⟩,
  ⟨some 8, .mv (.t 3), none⟩,
  ⟨some 9, .call false 5 [(.t 7), (.t 8)], none⟩,
  ⟨some 3, .mv (.t 9), none⟩])
 (.seq (.seq (.region 0 [⟨some 10, .mv (.t 3), none⟩,
  ⟨some 11, .bin .lss (.t 10) (.c (.int .i64 0)), none⟩])
 (.cond (.t 11) (.seq (.region 0 [⟨some 2, .mv (.c (.bool true)), none⟩])
 .ret) .skip))
 (.seq (.region 0 [⟨some 12, .mv (.t 0), none⟩,
  ⟨some 13, .call false 1 [(.t 12)], none⟩,
  ⟨some 14, .call false 4 [(.t 13)], none⟩,
  ⟨some 4, .mv (.t 14), none⟩])
 (.seq (.region 0 [⟨some 15, .mv (.t 0), none⟩,
  ⟨some 16, .call false 1 [(.t 15)], none⟩,
  ⟨some 5, .mv (.t 16), none⟩])
 (.seq (.region 0 [⟨some 17, .mv (.t 5), none⟩,
  ⟨some 18, .call false 3 [(.t 17)], none⟩,
  ⟨some 6, .mv (.t 18), none⟩])
 (.seq (.seq (.region 0 [⟨some 19, .mv (.t 6), none⟩,
  ⟨some 20, .mv (.t 4), none⟩,
  ⟨some 21, .eqv true 0 (.t 19) (.t 20), none⟩])
 (.cond (.t 21) (.seq (.region 0 [⟨some 2, .mv (.c (.bool false)), none⟩])
 .ret) .skip))
 (.seq (.seq (.region 0 [⟨some 22, .mv (.t 5), none⟩,
  ⟨some 23, .mv (.t 0), none⟩,
  ⟨some 24, .call false 1 [(.t 23)], none⟩,
  ⟨some 25, .call false 2 [(.t 22), (.t 24)], none⟩,
  ⟨some 26, .un .not (.t 25), none⟩])
 (.cond (.t 26) (.seq (.region 0 [⟨some 2, .mv (.c (.bool false)), none⟩])
 .ret) .skip))
 (.seq (.region 0 [⟨some 2, .mv (.c (.bool true)), none⟩])
 .ret))))))))))

theorem laws_FnExactAreEdges_eq (E : Env) (a0 : U) : run E laws_FnExactAreEdges_ac [(2, none)] [a0] =
 (E 5 [a0, (.int .i64 1048576)]).bind fun t1 => (U.bin .lss t1 (.int .i64 0)).bind fun t2 => U.asBool t2
 (some (.bool true))
 ((E 1 [a0]).bind fun t3 => (E 4 [t3]).bind fun t4 => (E 1 [a0]).bind fun t5 => (E 3 [t5]).bind fun t6 => (U.eqv 0 t6 t4).bind fun q7 => U.asBool (.bool (!q7))
 (some (.bool false))
 ((E 1 [a0]).bind fun t8 => (E 2 [t5, t8]).bind fun t9 => (U.un .not t9).bind fun t10 => U.asBool t10
 (some (.bool false))
 (some (.bool true)))) := by kernel_rfl

/-- In the environment E: this function and those that it calls. -/
structure G_laws_FnExactAreEdges (E : Env) : Prop where
  is : Is E 0 1 laws_FnExactAreEdges_ac [(2, none)]
  c_laws_szEdgeS : G_laws_szEdgeS E
  c_spec_AreEdges : G_spec_AreEdges E
  c_laws_toEdgeS : G_laws_toEdgeS E
  c_impl_AreEdges : G_impl_AreEdges E
  c_laws_eqEdgeS : G_laws_eqEdgeS E
theorem laws_FnExactAreEdges_E {E : Env} (h : G_laws_FnExactAreEdges E) (a0 : U) : E 0 [a0] =
 (E 5 [a0, (.int .i64 1048576)]).bind fun t1 => (U.bin .lss t1 (.int .i64 0)).bind fun t2 => U.asBool t2
 (some (.bool true))
 ((E 1 [a0]).bind fun t3 => (E 4 [t3]).bind fun t4 => (E 1 [a0]).bind fun t5 => (E 3 [t5]).bind fun t6 => (U.eqv 0 t6 t4).bind fun q7 => U.asBool (.bool (!q7))
 (some (.bool false))
 ((E 1 [a0]).bind fun t8 => (E 2 [t5, t8]).bind fun t9 => (U.un .not t9).bind fun t10 => U.asBool t10
 (some (.bool false))
 (some (.bool true)))) := (h.is _ rfl).trans ((runQ_V rfl).trans (laws_FnExactAreEdges_eq E a0))

end Go.Proofs.Ytfdcdbkblkehcaa.Am
namespace Go.Proofs.Ytfdcdbkblkehcaa.Am
open Go
set_option linter.unusedVariables false
set_option maxRecDepth 100000

/- slices.Equal[[]loop.example/g01924/impl.ReadMark,loop.example/g01924/impl.ReadMark] -/
def slices_Equal_g31_b0 : AC :=
 (.seq (.region 0 [⟨some 14, .bin .lss (.t 13) (.t 12), none⟩])
 (.seq (.cond (.t 14) .skip (.exit 0))
 (.seq (.block 1 (.seq (.region 0 [⟨some 15, .mv (.t 13), none⟩,
  ⟨some 5, .mv (.t 15), none⟩])
 (.seq (.region 9 [⟨some 16, .mv (.t 0), none⟩,
  ⟨some 17, .mv (.t 5), none⟩,
  ⟨some 18, .iaddr 2 (.t 16) (.t 17), none⟩,
  ⟨some 19, .load true 2 (.t 18), none⟩,
  ⟨some 20, .mv (.t 1), none⟩,
  ⟨some 21, .mv (.t 5), none⟩,
  ⟨some 22, .iaddr 2 (.t 20) (.t 21), none⟩,
  ⟨some 23, .load true 2 (.t 22), none⟩,
  ⟨some 24, .eqv true 4 (.t 19) (.t 23), none⟩])
 (.cond (.t 24) (.seq (.region 0 [⟨some 4, .mv (.c (.bool false)), none⟩])
 .ret) .skip))))
 (.region 0 [⟨some 25, .bin .add (.t 13) (.c (.int .i64 1)), none⟩,
  ⟨some 13, .mv (.t 25), none⟩]))))
def slices_Equal_g31_r0 : AC :=
 (.seq (.region 0 [⟨some 4, .mv (.c (.bool true)), none⟩])
 .ret)
def slices_Equal_g31_ac : AC :=
 (.seq (.region 0 [⟨some 4, .mv (.c (.bool false)), none⟩])
 (.seq (.seq (.region 0 [⟨some 6, .mv (.t 0), none⟩,
  ⟨some 7, .len false (.t 6), none⟩,
  ⟨some 8, .mv (.t 1), none⟩,
  ⟨some 9, .len false (.t 8), none⟩,
  ⟨some 10, .bin .neq (.t 7) (.t 9), none⟩])
 (.cond (.t 10) (.seq (.region 0 [⟨some 4, .mv (.c (.bool false)), none⟩])
 .ret) .skip))
 (.seq (.seq (.region 0 [⟨some 11, .mv (.t 0), none⟩,
  ⟨some 12, .len false (.t 11), none⟩,
  ⟨some 13, .mv (.c (.int .i64 0)), none⟩])
 (.block 0 (.loop ⟨[0, 1, 12, 13], [], []⟩ slices_Equal_g31_b0)))
 slices_Equal_g31_r0)))
noncomputable def slices_Equal_g31_l0 (E : Env) (x0 : U) (x1 : U) (x12 : U) (x13 : U) : Option U := loopK (roundOf E ⟨[0, 1, 12, 13], [], []⟩ slices_Equal_g31_b0 (blockK 0 (seqK (fun s => exec E slices_Equal_g31_r0 s (finish [(4, none)])) (finish [(4, none)])))) ([.val x0, .val x1, .val x12, .val x13], [])
theorem slices_Equal_g31_eq (E : Env) (a0 : U) (a1 : U) : run E slices_Equal_g31_ac [(4, none)] [a0, a1] =
 (U.lenOf false a0).bind fun n1 => (U.lenOf false a1).bind fun n2 => (U.bin .neq (.int .i64 (n1 : Int)) (.int .i64 (n2 : Int))).bind fun t3 => U.asBool t3
 (some (.bool false))
 ((U.lenOf false a0).bind fun n4 => slices_Equal_g31_l0 E a0 a1 (.int .i64 (n4 : Int)) (.int .i64 0)) := by kernel_rfl
theorem slices_Equal_g31_l0_eq (E : Env) (x0 : U) (x1 : U) (x12 : U) (x13 : U) : slices_Equal_g31_l0 E x0 x1 x12 x13 =
 (U.bin .lss x13 x12).bind fun t5 => U.asBool t5
 (U.asInt x13 fun n6 => U.elemAt 2 x0 n6 fun e7 => U.asVar true 2 e7 fun e8 => U.asInt x13 fun n9 => U.elemAt 2 x1 n9 fun e10 => U.asVar true 2 e10 fun e11 => (U.eqv 4 e8 e11).bind fun q12 => U.asBool (.bool (!q12))
 (some (.bool false))
 ((U.bin .add x13 (.int .i64 1)).bind fun t13 => slices_Equal_g31_l0 E x0 x1 x12 t13))
 (some (.bool true)) :=
 (loop_eq E _ _ _ _).trans (by kernel_rfl)

/-- In the environment E: this function and those that it calls. -/
structure G_slices_Equal_g31 (E : Env) : Prop where
  is : Is E 31 2 slices_Equal_g31_ac [(4, none)]
theorem slices_Equal_g31_E {E : Env} (h : G_slices_Equal_g31 E) (a0 a1 : U) : E 31 [a0, a1] =
 (U.lenOf false a0).bind fun n1 => (U.lenOf false a1).bind fun n2 => (U.bin .neq (.int .i64 (n1 : Int)) (.int .i64 (n2 : Int))).bind fun t3 => U.asBool t3
 (some (.bool false))
 ((U.lenOf false a0).bind fun n4 => slices_Equal_g31_l0 E a0 a1 (.int .i64 (n4 : Int)) (.int .i64 0)) := (h.is _ rfl).trans ((runQ_V rfl).trans (slices_Equal_g31_eq E a0 a1))

end Go.Proofs.Ytfdcdbkblkehcaa.Am
namespace Go.Proofs.Ytfdcdbkblkehcaa.Am
open Go
set_option linter.unusedVariables false
set_option maxRecDepth 100000

/- slices.Equal[[]loop.example/g01924/impl.Write,loop.example/g01924/impl.Write] -/
def slices_Equal_g32_b0 : AC :=
 (.seq (.region 0 [⟨some 14, .bin .lss (.t 13) (.t 12), none⟩])
 (.seq (.cond (.t 14) .skip (.exit 0))
 (.seq (.block 1 (.seq (.region 0 [⟨some 15, .mv (.t 13), none⟩,
  ⟨some 5, .mv (.t 15), none⟩])
 (.seq (.region 9 [⟨some 16, .mv (.t 0), none⟩,
  ⟨some 17, .mv (.t 5), none⟩,
  ⟨some 18, .iaddr 2 (.t 16) (.t 17), none⟩,
  ⟨some 19, .load true 2 (.t 18), none⟩,
  ⟨some 20, .mv (.t 1), none⟩,
  ⟨some 21, .mv (.t 5), none⟩,
  ⟨some 22, .iaddr 2 (.t 20) (.t 21), none⟩,
  ⟨some 23, .load true 2 (.t 22), none⟩,
  ⟨some 24, .eqv true 4 (.t 19) (.t 23), none⟩])
 (.cond (.t 24) (.seq (.region 0 [⟨some 4, .mv (.c (.bool false)), none⟩])
 .ret) .skip))))
 (.region 0 [⟨some 25, .bin .add (.t 13) (.c (.int .i64 1)), none⟩,
  ⟨some 13, .mv (.t 25), none⟩]))))
def slices_Equal_g32_r0 : AC :=
 (.seq (.region 0 [⟨some 4, .mv (.c (.bool true)), none⟩])
 .ret)
def slices_Equal_g32_ac : AC :=
 (.seq (.region 0 [⟨some 4, .mv (.c (.bool false)), none⟩])
 (.seq (.seq (.region 0 [⟨some 6, .mv (.t 0), none⟩,
  ⟨some 7, .len false (.t 6), none⟩,
  ⟨some 8, .mv (.t 1), none⟩,
  ⟨some 9, .len false (.t 8), none⟩,
  ⟨some 10, .bin .neq (.t 7) (.t 9), none⟩])
 (.cond (.t 10) (.seq (.region 0 [⟨some 4, .mv (.c (.bool false)), none⟩])
 .ret) .skip))
 (.seq (.seq (.region 0 [⟨some 11, .mv (.t 0), none⟩,
  ⟨some 12, .len false (.t 11), none⟩,
  ⟨some 13, .mv (.c (.int .i64 0)), none⟩])
 (.block 0 (.loop ⟨[0, 1, 12, 13], [], []⟩ slices_Equal_g32_b0)))
 slices_Equal_g32_r0)))
noncomputable def slices_Equal_g32_l0 (E : Env) (x0 : U) (x1 : U) (x12 : U) (x13 : U) : Option U := loopK (roundOf E ⟨[0, 1, 12, 13], [], []⟩ slices_Equal_g32_b0 (blockK 0 (seqK (fun s => exec E slices_Equal_g32_r0 s (finish [(4, none)])) (finish [(4, none)])))) ([.val x0, .val x1, .val x12, .val x13], [])
theorem slices_Equal_g32_eq (E : Env) (a0 : U) (a1 : U) : run E slices_Equal_g32_ac [(4, none)] [a0, a1] =
 (U.lenOf false a0).bind fun n1 => (U.lenOf false a1).bind fun n2 => (U.bin .neq (.int .i64 (n1 : Int)) (.int .i64 (n2 : Int))).bind fun t3 => U.asBool t3
 (some (.bool false))
 ((U.lenOf false a0).bind fun n4 => slices_Equal_g32_l0 E a0 a1 (.int .i64 (n4 : Int)) (.int .i64 0)) := by kernel_rfl
theorem slices_Equal_g32_l0_eq (E : Env) (x0 : U) (x1 : U) (x12 : U) (x13 : U) : slices_Equal_g32_l0 E x0 x1 x12 x13 =
 (U.bin .lss x13 x12).bind fun t5 => U.asBool t5
 (U.asInt x13 fun n6 => U.elemAt 2 x0 n6 fun e7 => U.asVar true 2 e7 fun e8 => U.asInt x13 fun n9 => U.elemAt 2 x1 n9 fun e10 => U.asVar true 2 e10 fun e11 => (U.eqv 4 e8 e11).bind fun q12 => U.asBool (.bool (!q12))
 (some (.bool false))
 ((U.bin .add x13 (.int .i64 1)).bind fun t13 => slices_Equal_g32_l0 E x0 x1 x12 t13))
 (some (.bool true)) :=
 (loop_eq E _ _ _ _).trans (by kernel_rfl)

/-- In the environment E: this function and those that it calls. -/
structure G_slices_Equal_g32 (E : Env) : Prop where
  is : Is E 32 2 slices_Equal_g32_ac [(4, none)]
theorem slices_Equal_g32_E {E : Env} (h : G_slices_Equal_g32 E) (a0 a1 : U) : E 32 [a0, a1] =
 (U.lenOf false a0).bind fun n1 => (U.lenOf false a1).bind fun n2 => (U.bin .neq (.int .i64 (n1 : Int)) (.int .i64 (n2 : Int))).bind fun t3 => U.asBool t3
 (some (.bool false))
 ((U.lenOf false a0).bind fun n4 => slices_Equal_g32_l0 E a0 a1 (.int .i64 (n4 : Int)) (.int .i64 0)) := (h.is _ rfl).trans ((runQ_V rfl).trans (slices_Equal_g32_eq E a0 a1))

end Go.Proofs.Ytfdcdbkblkehcaa.Am
namespace Go.Proofs.Ytfdcdbkblkehcaa.Am
open Go
set_option linter.unusedVariables false
set_option maxRecDepth 100000

/- loop.example/g01924/spec.EqualTransactions -/
def spec_EqualTransactions_b1 : AC :=
 (.seq (.seq (.region 0 [⟨some 72, .mv (.t 5), none⟩,
  ⟨some 73, .faddr 7 7 (.t 2), none⟩,
  ⟨some 74, .load false 1 (.t 73), none⟩,
  ⟨some 75, .len false (.t 74), none⟩,
  ⟨some 76, .bin .lss (.t 72) (.t 75), none⟩])
 (.cond (.t 76) .skip (.exit 0)))
 (.seq (.block 1 (.seq (.region 11 [⟨some 79, .faddr 7 7 (.t 2), none⟩,
  ⟨some 80, .load false 1 (.t 79), none⟩,
  ⟨some 81, .mv (.t 5), none⟩,
  ⟨some 82, .iaddr 2 (.t 80) (.t 81), none⟩,
  ⟨some 83, .load true 2 (.t 82), none⟩,
  ⟨some 84, .faddr 7 7 (.t 3), none⟩,
  ⟨some 85, .load false 1 (.t 84), none⟩,
  ⟨some 86, .mv (.t 5), none⟩,
  ⟨some 87, .iaddr 2 (.t 85) (.t 86), none⟩,
  ⟨some 88, .load true 2 (.t 87), none⟩,
  ⟨some 89, .eqv true 4 (.t 83) (.t 88), none⟩])
 (.cond (.t 89) (.seq (.region 0 [⟨some 4, .mv (.c (.bool false)), none⟩])
 .ret) .skip)))
 (.region 0 [⟨some 77, .mv (.t 5), none⟩,
  ⟨some 78, .bin .add (.t 77) (.c (.int .i64 1)), none⟩,
  ⟨some 5, .mv (.t 78), none⟩])))
def spec_EqualTransactions_b0 : AC :=
 (.seq (.seq (.region 0 [⟨some 90, .mv (.t 6), none⟩,
  ⟨some 91, .faddr 8 8 (.t 2), none⟩,
  ⟨some 92, .load false 1 (.t 91), none⟩,
  ⟨some 93, .len false (.t 92), none⟩,
  ⟨some 94, .bin .lss (.t 90) (.t 93), none⟩])
 (.cond (.t 94) .skip (.exit 2)))
 (.seq (.block 3 (.seq (.region 11 [⟨some 97, .faddr 8 8 (.t 2), none⟩,
  ⟨some 98, .load false 1 (.t 97), none⟩,
  ⟨some 99, .mv (.t 6), none⟩,
  ⟨some 100, .iaddr 2 (.t 98) (.t 99), none⟩,
  ⟨some 101, .load true 2 (.t 100), none⟩,
  ⟨some 102, .faddr 8 8 (.t 3), none⟩,
  ⟨some 103, .load false 1 (.t 102), none⟩,
  ⟨some 104, .mv (.t 6), none⟩,
  ⟨some 105, .iaddr 2 (.t 103) (.t 104), none⟩,
  ⟨some 106, .load true 2 (.t 105), none⟩,
  ⟨some 107, .eqv true 4 (.t 101) (.t 106), none⟩])
 (.cond (.t 107) (.seq (.region 0 [⟨some 4, .mv (.c (.bool false)), none⟩])
 .ret) .skip)))
 (.region 0 [⟨some 95, .mv (.t 6), none⟩,
  ⟨some 96, .bin .add (.t 95) (.c (.int .i64 1)), none⟩,
  ⟨some 6, .mv (.t 96), none⟩])))
def spec_EqualTransactions_r0 : AC :=
 (.seq (.region 0 [⟨some 4, .mv (.c (.bool true)), none⟩])
 .ret)
def spec_EqualTransactions_r1 : AC :=
 (.seq (.seq (.region 0 [⟨some 6, .mv (.c (.int .i64 0)), none⟩])
 (.block 2 (.loop ⟨[2, 3, 6], [], [(2, false), (3, false)]⟩ spec_EqualTransactions_b0)))
 spec_EqualTransactions_r0)
def spec_EqualTransactions_ac : AC :=
 (.seq (.region 0 [⟨some 2, .box false 2 (.t 0), none⟩,
  ⟨some 3, .box false 3 (.t 1), none⟩,
  ⟨some 4, .mv (.c (.bool false)), none⟩])
 (.seq (.seq (.region 0 [⟨some 7, .faddr 0 0 (.t 2), none⟩,
  ⟨some 8, .load false 1 (.t 7), none⟩,
  ⟨some 9, .faddr 0 0 (.t 3), none⟩,
  ⟨some 10, .load false 1 (.t 9), none⟩,
  ⟨some 11, .bin .neq (.t 8) (.t 10), none⟩,
  ⟨some 12, .mv (.t 11), none⟩,
  ⟨some 13, .faddr 1 1 (.t 2), some (12, false)⟩,
  ⟨some 14, .load false 1 (.t 13), some (12, false)⟩,
  ⟨some 15, .faddr 1 1 (.t 3), some (12, false)⟩,
  ⟨some 16, .load false 1 (.t 15), some (12, false)⟩,
  ⟨some 17, .bin .neq (.t 14) (.t 16), some (12, false)⟩,
  ⟨some 18, .pick (.t 12) (.c (.bool true)) (.t 17), none⟩,
  ⟨some 19, .mv (.t 18), none⟩,
  ⟨some 20, .faddr 2 2 (.t 2), some (19, false)⟩,
  ⟨some 21, .load false 1 (.t 20), some (19, false)⟩,
  ⟨some 22, .faddr 2 2 (.t 3), some (19, false)⟩,
  ⟨some 23, .load false 1 (.t 22), some (19, false)⟩,
  ⟨some 24, .bin .neq (.t 21) (.t 23), some (19, false)⟩,
  ⟨some 25, .pick (.t 19) (.c (.bool true)) (.t 24), none⟩,
  ⟨some 26, .mv (.t 25), none⟩,
  ⟨some 27, .faddr 3 3 (.t 2), some (26, false)⟩,
  ⟨some 28, .load false 1 (.t 27), some (26, false)⟩,
  ⟨some 29, .faddr 3 3 (.t 3), some (26, false)⟩,
  ⟨some 30, .load false 1 (.t 29), some (26, false)⟩,
  ⟨some 31, .bin .neq (.t 28) (.t 30), some (26, false)⟩,
  ⟨some 32, .pick (.t 26) (.c (.bool true)) (.t 31), none⟩,
  ⟨some 33, .mv (.t 32), none⟩,
  ⟨some 34, .faddr 4 4 (.t 2), some (33, false)⟩,
  ⟨some 35, .load false 1 (.t 34), some (33, false)⟩,
  ⟨some 36, .faddr 4 4 (.t 3), some (33, false)⟩,
  ⟨some 37, .load false 1 (.t 36), some (33, false)⟩,
  ⟨some 38, .bin .neq (.t 35) (.t 37), some (33, false)⟩,
  ⟨some 39, .pick (.t 33) (.c (.bool true)) (.t 38), none⟩,
  ⟨some 40, .mv (.t 39), none⟩,
  ⟨some 41, .faddr 5 5 (.t 2), some (40, false)⟩,
  ⟨some 42, .load false 1 (.t 41), some (40, false)⟩,
  ⟨some 43, .faddr 5 5 (.t 3), some (40, false)⟩,
  ⟨some 44, .load false 1 (.t 43), some (40, false)⟩,
  ⟨some 45, .bin .neq (.t 42) (.t 44), some (40, false)⟩,
  ⟨some 46, .pick (.t 40) (.c (.bool true)) (.t 45), none⟩,
  ⟨some 47, .mv (.t 46), none⟩,
  ⟨some 48, .faddr 6 6 (.t 2), some (47, false)⟩,
  ⟨some 49, .load false 1 (.t 48), some (47, false)⟩,
  ⟨some 50, .faddr 6 6 (.t 3), some (47, false)⟩,
  ⟨some 51, .load false 1 (.t 50), some (47, false)⟩,
  ⟨some 52, .bin .neq (.t 49) (.t 51), some (47, false)⟩,
  ⟨some 53, .pick (.t 47) (.c (.bool true)) (.t 52), none⟩,
  ⟨some 54, .mv (.t 53), none⟩,
  ⟨some 55, .faddr 7 7 (.t 2), some (54, false)⟩,
  ⟨some 56, .load false 1 (.t 55), some (54, false)⟩,
  ⟨some 57, .len false (.t 56), some (54, false)⟩,
  ⟨some 58, .faddr 7 7 (.t 3), some (54, false)⟩,
  ⟨some 59, .load false 1 (.t 58), some (54, false)⟩,
  ⟨some 60, .len false (.t 59), some (54, false)⟩,
  ⟨some 61, .bin .neq (.t 57) (.t 60), some (54, false)⟩,
  ⟨some 62, .pick (.t 54) (.c (.bool true)) (.t 61), none⟩,
  ⟨some 63, .mv (.t 62), none⟩,
  ⟨some 64, .faddr 8 8 (.t 2), some (63, false)⟩,
  ⟨some 65, .load false 1 (.t 64), some (63, false)⟩,
  ⟨some 66, .len false (.t 65), some (63, false)⟩,
  ⟨some 67, .faddr 8 8 (.t 3), some (63, false)⟩,
  ⟨some 68, .load false 1 (.t 67), some (63, false)⟩,
  ⟨some 69, .len false (.t 68), some (63, false)⟩,
  ⟨some 70, .bin .neq (.t 66) (.t 69), some (63, false)⟩,
  ⟨some 71, .pick (.t 63) (.c (.bool true)) (.t 70), none⟩])
 (.cond (.t 71) (.seq (.region 0 [⟨some 4, .mv (.c (.bool false)), none⟩])
 .ret) .skip))
 (.seq (.seq (.region 0 [⟨some 5, .mv (.c (.int .i64 0)), none⟩])
 (.block 0 (.loop ⟨[2, 3, 5], [], [(2, false), (3, false)]⟩ spec_EqualTransactions_b1)))
 spec_EqualTransactions_r1)))
noncomputable def spec_EqualTransactions_l1 (E : Env) (x5 : U) (b2 : U) (b3 : U) : Option U := loopK (roundOf E ⟨[2, 3, 5], [], [(2, false), (3, false)]⟩ spec_EqualTransactions_b1 (blockK 0 (seqK (fun s => exec E spec_EqualTransactions_r1 s (finish [(4, none)])) (finish [(4, none)])))) ([.ptr 2 [], .ptr 3 [], .val x5], [.box (.val b2), .box (.val b3)])
noncomputable def spec_EqualTransactions_l0 (E : Env) (x6 : U) (b2 : U) (b3 : U) : Option U := loopK (roundOf E ⟨[2, 3, 6], [], [(2, false), (3, false)]⟩ spec_EqualTransactions_b0 (blockK 2 (seqK (fun s => exec E spec_EqualTransactions_r0 s (finish [(4, none)])) (finish [(4, none)])))) ([.ptr 2 [], .ptr 3 [], .val x6], [.box (.val b2), .box (.val b3)])
theorem spec_EqualTransactions_eq (E : Env) (a0 : U) (a1 : U) : run E spec_EqualTransactions_ac [(4, none)] [a0, a1] =
 U.noTup a0 fun x1 => U.noTup a1 fun x2 => U.asAgg x1 fun us3 => if 0 = sizes (us3.take 0) then (us3[0]?).bind fun e4 => U.asVar false 1 e4 fun e5 => U.asAgg x2 fun us6 => if 0 = sizes (us6.take 0) then (us6[0]?).bind fun e7 => U.asVar false 1 e7 fun e8 => (U.bin .neq e5 e8).bind fun t9 => U.asBool t9
 (some (.bool false))
 (U.asAgg x1 fun us10 => if 1 = sizes (us10.take 1) then (us10[1]?).bind fun e11 => U.asVar false 1 e11 fun e12 => U.asAgg x2 fun us13 => if 1 = sizes (us13.take 1) then (us13[1]?).bind fun e14 => U.asVar false 1 e14 fun e15 => (U.bin .neq e12 e15).bind fun t16 => U.asBool t16
 (some (.bool false))
 (U.asAgg x1 fun us17 => if 2 = sizes (us17.take 2) then (us17[2]?).bind fun e18 => U.asVar false 1 e18 fun e19 => U.asAgg x2 fun us20 => if 2 = sizes (us20.take 2) then (us20[2]?).bind fun e21 => U.asVar false 1 e21 fun e22 => (U.bin .neq e19 e22).bind fun t23 => U.asBool t23
 (some (.bool false))
 (U.asAgg x1 fun us24 => if 3 = sizes (us24.take 3) then (us24[3]?).bind fun e25 => U.asVar false 1 e25 fun e26 => U.asAgg x2 fun us27 => if 3 = sizes (us27.take 3) then (us27[3]?).bind fun e28 => U.asVar false 1 e28 fun e29 => (U.bin .neq e26 e29).bind fun t30 => U.asBool t30
 (some (.bool false))
 (U.asAgg x1 fun us31 => if 4 = sizes (us31.take 4) then (us31[4]?).bind fun e32 => U.asVar false 1 e32 fun e33 => U.asAgg x2 fun us34 => if 4 = sizes (us34.take 4) then (us34[4]?).bind fun e35 => U.asVar false 1 e35 fun e36 => (U.bin .neq e33 e36).bind fun t37 => U.asBool t37
 (some (.bool false))
 (U.asAgg x1 fun us38 => if 5 = sizes (us38.take 5) then (us38[5]?).bind fun e39 => U.asVar false 1 e39 fun e40 => U.asAgg x2 fun us41 => if 5 = sizes (us41.take 5) then (us41[5]?).bind fun e42 => U.asVar false 1 e42 fun e43 => (U.bin .neq e40 e43).bind fun t44 => U.asBool t44
 (some (.bool false))
 (U.asAgg x1 fun us45 => if 6 = sizes (us45.take 6) then (us45[6]?).bind fun e46 => U.asVar false 1 e46 fun e47 => U.asAgg x2 fun us48 => if 6 = sizes (us48.take 6) then (us48[6]?).bind fun e49 => U.asVar false 1 e49 fun e50 => (U.bin .neq e47 e50).bind fun t51 => U.asBool t51
 (some (.bool false))
 (U.asAgg x1 fun us52 => if 7 = sizes (us52.take 7) then (us52[7]?).bind fun e53 => U.asVar false 1 e53 fun e54 => (U.lenOf false e54).bind fun n55 => U.asAgg x2 fun us56 => if 7 = sizes (us56.take 7) then (us56[7]?).bind fun e57 => U.asVar false 1 e57 fun e58 => (U.lenOf false e58).bind fun n59 => (U.bin .neq (.int .i64 (n55 : Int)) (.int .i64 (n59 : Int))).bind fun t60 => U.asBool t60
 (some (.bool false))
 (U.asAgg x1 fun us61 => if 8 = sizes (us61.take 8) then (us61[8]?).bind fun e62 => U.asVar false 1 e62 fun e63 => (U.lenOf false e63).bind fun n64 => U.asAgg x2 fun us65 => if 8 = sizes (us65.take 8) then (us65[8]?).bind fun e66 => U.asVar false 1 e66 fun e67 => (U.lenOf false e67).bind fun n68 => (U.bin .neq (.int .i64 (n64 : Int)) (.int .i64 (n68 : Int))).bind fun t69 => U.asBool t69
 (some (.bool false))
 (spec_EqualTransactions_l1 E (.int .i64 0) x1 x2) else none else none) else none else none) else none else none) else none else none) else none else none) else none else none) else none else none) else none else none) else none else none := by kernel_rfl
theorem spec_EqualTransactions_l1_eq (E : Env) (x5 : U) (b2 : U) (b3 : U) : spec_EqualTransactions_l1 E x5 b2 b3 =
 U.asAgg b2 fun us70 => if 7 = sizes (us70.take 7) then (us70[7]?).bind fun e71 => U.asVar false 1 e71 fun e72 => (U.lenOf false e72).bind fun n73 => (U.bin .lss x5 (.int .i64 (n73 : Int))).bind fun t74 => U.asBool t74
 (U.asAgg b2 fun us75 => if 7 = sizes (us75.take 7) then (us75[7]?).bind fun e76 => U.asVar false 1 e76 fun e77 => U.asInt x5 fun n78 => U.elemAt 2 e77 n78 fun e79 => U.asVar true 2 e79 fun e80 => U.asAgg b3 fun us81 => if 7 = sizes (us81.take 7) then (us81[7]?).bind fun e82 => U.asVar false 1 e82 fun e83 => U.asInt x5 fun n84 => U.elemAt 2 e83 n84 fun e85 => U.asVar true 2 e85 fun e86 => (U.eqv 4 e80 e86).bind fun q87 => U.asBool (.bool (!q87))
 (some (.bool false))
 ((U.bin .add x5 (.int .i64 1)).bind fun t88 => spec_EqualTransactions_l1 E t88 b2 b3) else none else none)
 (spec_EqualTransactions_l0 E (.int .i64 0) b2 b3) else none :=
 (loop_eq E _ _ _ _).trans (by kernel_rfl)
theorem spec_EqualTransactions_l0_eq (E : Env) (x6 : U) (b2 : U) (b3 : U) : spec_EqualTransactions_l0 E x6 b2 b3 =
 U.asAgg b2 fun us89 => if 8 = sizes (us89.take 8) then (us89[8]?).bind fun e90 => U.asVar false 1 e90 fun e91 => (U.lenOf false e91).bind fun n92 => (U.bin .lss x6 (.int .i64 (n92 : Int))).bind fun t93 => U.asBool t93
 (U.asAgg b2 fun us94 => if 8 = sizes (us94.take 8) then (us94[8]?).bind fun e95 => U.asVar false 1 e95 fun e96 => U.asInt x6 fun n97 => U.elemAt 2 e96 n97 fun e98 => U.asVar true 2 e98 fun e99 => U.asAgg b3 fun us100 => if 8 = sizes (us100.take 8) then (us100[8]?).bind fun e101 => U.asVar false 1 e101 fun e102 => U.asInt x6 fun n103 => U.elemAt 2 e102 n103 fun e104 => U.asVar true 2 e104 fun e105 => (U.eqv 4 e99 e105).bind fun q106 => U.asBool (.bool (!q106))
 (some (.bool false))
 ((U.bin .add x6 (.int .i64 1)).bind fun t107 => spec_EqualTransactions_l0 E t107 b2 b3) else none else none)
 (some (.bool true)) else none :=
 (loop_eq E _ _ _ _).trans (by kernel_rfl)

/-- In the environment E: this function and those that it calls. -/
structure G_spec_EqualTransactions (E : Env) : Prop where
  is : Is E 26 2 spec_EqualTransactions_ac [(4, none)]
theorem spec_EqualTransactions_E {E : Env} (h : G_spec_EqualTransactions E) (a0 a1 : U) : E 26 [a0, a1] =
 U.noTup a0 fun x1 => U.noTup a1 fun x2 => U.asAgg x1 fun us3 => if 0 = sizes (us3.take 0) then (us3[0]?).bind fun e4 => U.asVar false 1 e4 fun e5 => U.asAgg x2 fun us6 => if 0 = sizes (us6.take 0) then (us6[0]?).bind fun e7 => U.asVar false 1 e7 fun e8 => (U.bin .neq e5 e8).bind fun t9 => U.asBool t9
 (some (.bool false))
 (U.asAgg x1 fun us10 => if 1 = sizes (us10.take 1) then (us10[1]?).bind fun e11 => U.asVar false 1 e11 fun e12 => U.asAgg x2 fun us13 => if 1 = sizes (us13.take 1) then (us13[1]?).bind fun e14 => U.asVar false 1 e14 fun e15 => (U.bin .neq e12 e15).bind fun t16 => U.asBool t16
 (some (.bool false))
 (U.asAgg x1 fun us17 => if 2 = sizes (us17.take 2) then (us17[2]?).bind fun e18 => U.asVar false 1 e18 fun e19 => U.asAgg x2 fun us20 => if 2 = sizes (us20.take 2) then (us20[2]?).bind fun e21 => U.asVar false 1 e21 fun e22 => (U.bin .neq e19 e22).bind fun t23 => U.asBool t23
 (some (.bool false))
 (U.asAgg x1 fun us24 => if 3 = sizes (us24.take 3) then (us24[3]?).bind fun e25 => U.asVar false 1 e25 fun e26 => U.asAgg x2 fun us27 => if 3 = sizes (us27.take 3) then (us27[3]?).bind fun e28 => U.asVar false 1 e28 fun e29 => (U.bin .neq e26 e29).bind fun t30 => U.asBool t30
 (some (.bool false))
 (U.asAgg x1 fun us31 => if 4 = sizes (us31.take 4) then (us31[4]?).bind fun e32 => U.asVar false 1 e32 fun e33 => U.asAgg x2 fun us34 => if 4 = sizes (us34.take 4) then (us34[4]?).bind fun e35 => U.asVar false 1 e35 fun e36 => (U.bin .neq e33 e36).bind fun t37 => U.asBool t37
 (some (.bool false))
 (U.asAgg x1 fun us38 => if 5 = sizes (us38.take 5) then (us38[5]?).bind fun e39 => U.asVar false 1 e39 fun e40 => U.asAgg x2 fun us41 => if 5 = sizes (us41.take 5) then (us41[5]?).bind fun e42 => U.asVar false 1 e42 fun e43 => (U.bin .neq e40 e43).bind fun t44 => U.asBool t44
 (some (.bool false))
 (U.asAgg x1 fun us45 => if 6 = sizes (us45.take 6) then (us45[6]?).bind fun e46 => U.asVar false 1 e46 fun e47 => U.asAgg x2 fun us48 => if 6 = sizes (us48.take 6) then (us48[6]?).bind fun e49 => U.asVar false 1 e49 fun e50 => (U.bin .neq e47 e50).bind fun t51 => U.asBool t51
 (some (.bool false))
 (U.asAgg x1 fun us52 => if 7 = sizes (us52.take 7) then (us52[7]?).bind fun e53 => U.asVar false 1 e53 fun e54 => (U.lenOf false e54).bind fun n55 => U.asAgg x2 fun us56 => if 7 = sizes (us56.take 7) then (us56[7]?).bind fun e57 => U.asVar false 1 e57 fun e58 => (U.lenOf false e58).bind fun n59 => (U.bin .neq (.int .i64 (n55 : Int)) (.int .i64 (n59 : Int))).bind fun t60 => U.asBool t60
 (some (.bool false))
 (U.asAgg x1 fun us61 => if 8 = sizes (us61.take 8) then (us61[8]?).bind fun e62 => U.asVar false 1 e62 fun e63 => (U.lenOf false e63).bind fun n64 => U.asAgg x2 fun us65 => if 8 = sizes (us65.take 8) then (us65[8]?).bind fun e66 => U.asVar false 1 e66 fun e67 => (U.lenOf false e67).bind fun n68 => (U.bin .neq (.int .i64 (n64 : Int)) (.int .i64 (n68 : Int))).bind fun t69 => U.asBool t69
 (some (.bool false))
 (spec_EqualTransactions_l1 E (.int .i64 0) x1 x2) else none else none) else none else none) else none else none) else none else none) else none else none) else none else none) else none else none) else none else none) else none else none := (h.is _ rfl).trans ((runQ_V rfl).trans (spec_EqualTransactions_eq E a0 a1))

end Go.Proofs.Ytfdcdbkblkehcaa.Am
namespace Go.Proofs.Ytfdcdbkblkehcaa.Am
open Go
set_option linter.unusedVariables false
set_option maxRecDepth 100000

/- loop.example/g01924/spec.l28Tx -/
def spec_l28Tx_ac : AC :=
 (.seq (.region 0 [⟨some 1, .box false 1 (.t 0), none⟩,
  ⟨some 2, .alloc 2 (.agg [(.int .i64 0), (.int .i64 0), (.int .i64 0), (.int .i64 0), (.int .i64 0), (.int .i64 0), (.int .i64 0), (.nsl 2), (.nsl 2)]), none⟩])
 (.seq (.region 0 [⟨some 3, .faddr 1 1 (.t 1), none⟩,
  ⟨some 4, .load false 1 (.t 3), none⟩,
  ⟨some 5, .faddr 0 0 (.t 1), none⟩,
  ⟨some 6, .load false 1 (.t 5), none⟩,
  ⟨some 7, .faddr 2 2 (.t 1), none⟩,
  ⟨some 8, .load false 1 (.t 7), none⟩,
  ⟨some 9, .faddr 4 4 (.t 1), none⟩,
  ⟨some 10, .load false 1 (.t 9), none⟩,
  ⟨some 11, .faddr 5 5 (.t 1), none⟩,
  ⟨some 12, .load false 1 (.t 11), none⟩,
  ⟨some 13, .build [(.int .i64 0), (.int .i64 0), (.int .i64 0), (.int .i64 0), (.int .i64 0), (.int .i64 0), (.int .i64 0), (.nsl 2), (.nsl 2)] [(0, (.t 4)), (1, (.c (.int .i64 1))), (2, (.c (.int .i64 2))), (6, (.t 6)), (5, (.t 8)), (7, (.t 10)), (8, (.t 12))], none⟩,
  ⟨none, .store 9 (.t 2) (.t 13), none⟩])
 .ret))

theorem spec_l28Tx_eq (E : Env) (a0 : U) : run E spec_l28Tx_ac [(2, some (true, 9))] [a0] =
 U.noTup a0 fun x1 => U.asAgg x1 fun us2 => if 1 = sizes (us2.take 1) then (us2[1]?).bind fun e3 => U.asVar false 1 e3 fun e4 => U.asAgg x1 fun us5 => if 0 = sizes (us5.take 0) then (us5[0]?).bind fun e6 => U.asVar false 1 e6 fun e7 => U.asAgg x1 fun us8 => if 2 = sizes (us8.take 2) then (us8[2]?).bind fun e9 => U.asVar false 1 e9 fun e10 => U.asAgg x1 fun us11 => if 4 = sizes (us11.take 4) then (us11[4]?).bind fun e12 => U.asVar false 1 e12 fun e13 => U.asAgg x1 fun us14 => if 5 = sizes (us14.take 5) then (us14[5]?).bind fun e15 => U.asVar false 1 e15 fun e16 => if partable (.val e4) = true ∧ e4.size = 1 then if partable (.val e7) = true ∧ e7.size = 1 then if partable (.val e10) = true ∧ e10.size = 1 then if partable (.val e13) = true ∧ e13.size = 1 then if partable (.val e16) = true ∧ e16.size = 1 then if storable (.val (.agg [e4, (.int .i64 1), (.int .i64 2), (.int .i64 0), (.int .i64 0), e10, e7, e13, e16])) = true ∧ ((.agg [e4, (.int .i64 1), (.int .i64 2), (.int .i64 0), (.int .i64 0), e10, e7, e13, e16]) : U).size = 9 then U.asVar true 9 (.agg [e4, (.int .i64 1), (.int .i64 2), (.int .i64 0), (.int .i64 0), e10, e7, e13, e16]) fun e17 => some e17 else none else none else none else none else none else none else none else none else none else none else none := by kernel_rfl

/-- In the environment E: this function and those that it calls. -/
structure G_spec_l28Tx (E : Env) : Prop where
  is : Is E 25 1 spec_l28Tx_ac [(2, some (true, 9))]
theorem spec_l28Tx_E {E : Env} (h : G_spec_l28Tx E) (a0 : U) : E 25 [a0] =
 U.noTup a0 fun x1 => U.asAgg x1 fun us2 => if 1 = sizes (us2.take 1) then (us2[1]?).bind fun e3 => U.asVar false 1 e3 fun e4 => U.asAgg x1 fun us5 => if 0 = sizes (us5.take 0) then (us5[0]?).bind fun e6 => U.asVar false 1 e6 fun e7 => U.asAgg x1 fun us8 => if 2 = sizes (us8.take 2) then (us8[2]?).bind fun e9 => U.asVar false 1 e9 fun e10 => U.asAgg x1 fun us11 => if 4 = sizes (us11.take 4) then (us11[4]?).bind fun e12 => U.asVar false 1 e12 fun e13 => U.asAgg x1 fun us14 => if 5 = sizes (us14.take 5) then (us14[5]?).bind fun e15 => U.asVar false 1 e15 fun e16 => if partable (.val e4) = true ∧ e4.size = 1 then if partable (.val e7) = true ∧ e7.size = 1 then if partable (.val e10) = true ∧ e10.size = 1 then if partable (.val e13) = true ∧ e13.size = 1 then if partable (.val e16) = true ∧ e16.size = 1 then if storable (.val (.agg [e4, (.int .i64 1), (.int .i64 2), (.int .i64 0), (.int .i64 0), e10, e7, e13, e16])) = true ∧ ((.agg [e4, (.int .i64 1), (.int .i64 2), (.int .i64 0), (.int .i64 0), e10, e7, e13, e16]) : U).size = 9 then U.asVar true 9 (.agg [e4, (.int .i64 1), (.int .i64 2), (.int .i64 0), (.int .i64 0), e10, e7, e13, e16]) fun e17 => some e17 else none else none else none else none else none else none else none else none else none else none else none := (h.is _ rfl).trans ((runQ_V rfl).trans (spec_l28Tx_eq E a0))

end Go.Proofs.Ytfdcdbkblkehcaa.Am
namespace Go.Proofs.Ytfdcdbkblkehcaa.Am
open Go
set_option linter.unusedVariables false
set_option maxRecDepth 100000

/- loop.example/g01924/spec.EqualRecords -/
def spec_EqualRecords_ac : AC :=
 (.seq (.region 0 [⟨some 2, .box false 2 (.t 0), none⟩,
  ⟨some 3, .box false 3 (.t 1), none⟩,
  ⟨some 4, .mv (.c (.bool false)), none⟩])
 (.seq (.region 13 [⟨some 5, .faddr 3 3 (.t 2), none⟩,
  ⟨some 6, .load false 1 (.t 5), none⟩,
  ⟨some 7, .faddr 3 3 (.t 3), none⟩,
  ⟨some 8, .load false 1 (.t 7), none⟩,
  ⟨some 9, .bin .eql (.t 6) (.t 8), none⟩,
  ⟨some 10, .mv (.t 9), none⟩,
  ⟨some 11, .load true 6 (.t 2), some (10, true)⟩,
  ⟨some 12, .call false 25 [(.t 11)], some (10, true)⟩,
  ⟨some 13, .load true 6 (.t 3), some (10, true)⟩,
  ⟨some 14, .call false 25 [(.t 13)], some (10, true)⟩,
  ⟨some 15, .call false 26 [(.t 12), (.t 14)], some (10, true)⟩,
  ⟨some 16, .pick (.t 10) (.t 15) (.c (.bool false)), none⟩,
  ⟨some 4, .mv (.t 16), none⟩])
 .ret))

theorem spec_EqualRecords_eq (E : Env) (a0 : U) (a1 : U) : run E spec_EqualRecords_ac [(4, none)] [a0, a1] =
 U.noTup a0 fun x1 => U.noTup a1 fun x2 => U.asAgg x1 fun us3 => if 3 = sizes (us3.take 3) then (us3[3]?).bind fun e4 => U.asVar false 1 e4 fun e5 => U.asAgg x2 fun us6 => if 3 = sizes (us6.take 3) then (us6[3]?).bind fun e7 => U.asVar false 1 e7 fun e8 => (U.bin .eql e5 e8).bind fun t9 => U.asBool t9
 (U.asVar true 6 x1 fun e10 => (E 25 [e10]).bind fun t11 => U.asVar true 6 x2 fun e12 => (E 25 [e12]).bind fun t13 => (E 26 [t11, t13]).bind fun t14 => some t14)
 (some (.bool false)) else none else none := by kernel_rfl

/-- In the environment E: this function and those that it calls. -/
structure G_spec_EqualRecords (E : Env) : Prop where
  is : Is E 21 2 spec_EqualRecords_ac [(4, none)]
  c_spec_EqualTransactions : G_spec_EqualTransactions E
  c_spec_l28Tx : G_spec_l28Tx E
theorem spec_EqualRecords_E {E : Env} (h : G_spec_EqualRecords E) (a0 a1 : U) : E 21 [a0, a1] =
 U.noTup a0 fun x1 => U.noTup a1 fun x2 => U.asAgg x1 fun us3 => if 3 = sizes (us3.take 3) then (us3[3]?).bind fun e4 => U.asVar false 1 e4 fun e5 => U.asAgg x2 fun us6 => if 3 = sizes (us6.take 3) then (us6[3]?).bind fun e7 => U.asVar false 1 e7 fun e8 => (U.bin .eql e5 e8).bind fun t9 => U.asBool t9
 (U.asVar true 6 x1 fun e10 => (E 25 [e10]).bind fun t11 => U.asVar true 6 x2 fun e12 => (E 25 [e12]).bind fun t13 => (E 26 [t11, t13]).bind fun t14 => some t14)
 (some (.bool false)) else none else none := (h.is _ rfl).trans ((runQ_V rfl).trans (spec_EqualRecords_eq E a0 a1))

end Go.Proofs.Ytfdcdbkblkehcaa.Am
namespace Go.Proofs.Ytfdcdbkblkehcaa.Am
open Go
set_option linter.unusedVariables false
set_option maxRecDepth 100000

/- loop.example/g01924/impl.EqualRecords -/
def impl_EqualRecords_ac : AC :=
 (.seq (.region 0 [⟨some 2, .box false 2 (.t 0), none⟩,
  ⟨some 3, .box false 3 (.t 1), none⟩,
  ⟨some 4, .mv (.c (.bool false)), none⟩])
 (.seq (.region 0 [⟨some 5, .faddr 0 0 (.t 2), none⟩,
  ⟨some 6, .load false 1 (.t 5), none⟩,
  ⟨some 7, .faddr 0 0 (.t 3), none⟩,
  ⟨some 8, .load false 1 (.t 7), none⟩,
  ⟨some 9, .bin .eql (.t 6) (.t 8), none⟩,
  ⟨some 10, .mv (.t 9), none⟩,
  ⟨some 11, .faddr 1 1 (.t 2), some (10, true)⟩,
  ⟨some 12, .load false 1 (.t 11), some (10, true)⟩,
  ⟨some 13, .faddr 1 1 (.t 3), some (10, true)⟩,
  ⟨some 14, .load false 1 (.t 13), some (10, true)⟩,
  ⟨some 15, .bin .eql (.t 12) (.t 14), some (10, true)⟩,
  ⟨some 16, .pick (.t 10) (.t 15) (.c (.bool false)), none⟩,
  ⟨some 17, .mv (.t 16), none⟩,
  ⟨some 18, .faddr 2 2 (.t 2), some (17, true)⟩,
  ⟨some 19, .load false 1 (.t 18), some (17, true)⟩,
  ⟨some 20, .faddr 2 2 (.t 3), some (17, true)⟩,
  ⟨some 21, .load false 1 (.t 20), some (17, true)⟩,
  ⟨some 22, .bin .eql (.t 19) (.t 21), some (17, true)⟩,
  ⟨some 23, .pick (.t 17) (.t 22) (.c (.bool false)), none⟩,
  ⟨some 24, .mv (.t 23), none⟩,
  ⟨some 25, .faddr 3 3 (.t 2), some (24, true)⟩,
  ⟨some 26, .load false 1 (.t 25), some (24, true)⟩,
  ⟨some 27, .faddr 3 3 (.t 3), some (24, true)⟩,
  ⟨some 28, .load false 1 (.t 27), some (24, true)⟩,
  ⟨some 29, .bin .eql (.t 26) (.t 28), some (24, true)⟩,
  ⟨some 30, .pick (.t 24) (.t 29) (.c (.bool false)), none⟩,
  ⟨some 31, .mv (.t 30), none⟩,
  ⟨some 32, .faddr 4 4 (.t 2), some (31, true)⟩,
  ⟨some 33, .load false 1 (.t 32), some (31, true)⟩,
  ⟨some 34, .faddr 4 4 (.t 3), some (31, true)⟩,
  ⟨some 35, .load false 1 (.t 34), some (31, true)⟩,
  ⟨some 36, .call false 31 [(.t 33), (.t 35)], some (31, true)⟩,
  ⟨some 37, .pick (.t 31) (.t 36) (.c (.bool false)), none⟩,
  ⟨some 38, .mv (.t 37), none⟩,
  ⟨some 39, .faddr 5 5 (.t 2), some (38, true)⟩,
  ⟨some 40, .load false 1 (.t 39), some (38, true)⟩,
  ⟨some 41, .faddr 5 5 (.t 3), some (38, true)⟩,
  ⟨some 42, .load false 1 (.t 41), some (38, true)⟩,
  ⟨some 43, .call false 32 [(.t 40), (.t 42)], some (38, true)⟩,
  ⟨some 44, .pick (.t 38) (.t 43) (.c (.bool false)), none⟩,
  ⟨some 4, .mv (.t 44), none⟩])
 .ret))

theorem impl_EqualRecords_eq (E : Env) (a0 : U) (a1 : U) : run E impl_EqualRecords_ac [(4, none)] [a0, a1] =
 U.noTup a0 fun x1 => U.noTup a1 fun x2 => U.asAgg x1 fun us3 => if 0 = sizes (us3.take 0) then (us3[0]?).bind fun e4 => U.asVar false 1 e4 fun e5 => U.asAgg x2 fun us6 => if 0 = sizes (us6.take 0) then (us6[0]?).bind fun e7 => U.asVar false 1 e7 fun e8 => (U.bin .eql e5 e8).bind fun t9 => U.asBool t9
 (U.asAgg x1 fun us10 => if 1 = sizes (us10.take 1) then (us10[1]?).bind fun e11 => U.asVar false 1 e11 fun e12 => U.asAgg x2 fun us13 => if 1 = sizes (us13.take 1) then (us13[1]?).bind fun e14 => U.asVar false 1 e14 fun e15 => (U.bin .eql e12 e15).bind fun t16 => U.asBool t16
 (U.asAgg x1 fun us17 => if 2 = sizes (us17.take 2) then (us17[2]?).bind fun e18 => U.asVar false 1 e18 fun e19 => U.asAgg x2 fun us20 => if 2 = sizes (us20.take 2) then (us20[2]?).bind fun e21 => U.asVar false 1 e21 fun e22 => (U.bin .eql e19 e22).bind fun t23 => U.asBool t23
 (U.asAgg x1 fun us24 => if 3 = sizes (us24.take 3) then (us24[3]?).bind fun e25 => U.asVar false 1 e25 fun e26 => U.asAgg x2 fun us27 => if 3 = sizes (us27.take 3) then (us27[3]?).bind fun e28 => U.asVar false 1 e28 fun e29 => (U.bin .eql e26 e29).bind fun t30 => U.asBool t30
 (U.asAgg x1 fun us31 => if 4 = sizes (us31.take 4) then (us31[4]?).bind fun e32 => U.asVar false 1 e32 fun e33 => U.asAgg x2 fun us34 => if 4 = sizes (us34.take 4) then (us34[4]?).bind fun e35 => U.asVar false 1 e35 fun e36 => (E 31 [e33, e36]).bind fun t37 => U.asBool t37
 (U.asAgg x1 fun us38 => if 5 = sizes (us38.take 5) then (us38[5]?).bind fun e39 => U.asVar false 1 e39 fun e40 => U.asAgg x2 fun us41 => if 5 = sizes (us41.take 5) then (us41[5]?).bind fun e42 => U.asVar false 1 e42 fun e43 => (E 32 [e40, e43]).bind fun t44 => some t44 else none else none)
 (some (.bool false)) else none else none)
 (some (.bool false)) else none else none)
 (some (.bool false)) else none else none)
 (some (.bool false)) else none else none)
 (some (.bool false)) else none else none := by kernel_rfl

/-- In the environment E: this function and those that it calls. -/
structure G_impl_EqualRecords (E : Env) : Prop where
  is : Is E 20 2 impl_EqualRecords_ac [(4, none)]
  c_slices_Equal_g31 : G_slices_Equal_g31 E
  c_slices_Equal_g32 : G_slices_Equal_g32 E
theorem impl_EqualRecords_E {E : Env} (h : G_impl_EqualRecords E) (a0 a1 : U) : E 20 [a0, a1] =
 U.noTup a0 fun x1 => U.noTup a1 fun x2 => U.asAgg x1 fun us3 => if 0 = sizes (us3.take 0) then (us3[0]?).bind fun e4 => U.asVar false 1 e4 fun e5 => U.asAgg x2 fun us6 => if 0 = sizes (us6.take 0) then (us6[0]?).bind fun e7 => U.asVar false 1 e7 fun e8 => (U.bin .eql e5 e8).bind fun t9 => U.asBool t9
 (U.asAgg x1 fun us10 => if 1 = sizes (us10.take 1) then (us10[1]?).bind fun e11 => U.asVar false 1 e11 fun e12 => U.asAgg x2 fun us13 => if 1 = sizes (us13.take 1) then (us13[1]?).bind fun e14 => U.asVar false 1 e14 fun e15 => (U.bin .eql e12 e15).bind fun t16 => U.asBool t16
 (U.asAgg x1 fun us17 => if 2 = sizes (us17.take 2) then (us17[2]?).bind fun e18 => U.asVar false 1 e18 fun e19 => U.asAgg x2 fun us20 => if 2 = sizes (us20.take 2) then (us20[2]?).bind fun e21 => U.asVar false 1 e21 fun e22 => (U.bin .eql e19 e22).bind fun t23 => U.asBool t23
 (U.asAgg x1 fun us24 => if 3 = sizes (us24.take 3) then (us24[3]?).bind fun e25 => U.asVar false 1 e25 fun e26 => U.asAgg x2 fun us27 => if 3 = sizes (us27.take 3) then (us27[3]?).bind fun e28 => U.asVar false 1 e28 fun e29 => (U.bin .eql e26 e29).bind fun t30 => U.asBool t30
 (U.asAgg x1 fun us31 => if 4 = sizes (us31.take 4) then (us31[4]?).bind fun e32 => U.asVar false 1 e32 fun e33 => U.asAgg x2 fun us34 => if 4 = sizes (us34.take 4) then (us34[4]?).bind fun e35 => U.asVar false 1 e35 fun e36 => (E 31 [e33, e36]).bind fun t37 => U.asBool t37
 (U.asAgg x1 fun us38 => if 5 = sizes (us38.take 5) then (us38[5]?).bind fun e39 => U.asVar false 1 e39 fun e40 => U.asAgg x2 fun us41 => if 5 = sizes (us41.take 5) then (us41[5]?).bind fun e42 => U.asVar false 1 e42 fun e43 => (E 32 [e40, e43]).bind fun t44 => some t44 else none else none)
 (some (.bool false)) else none else none)
 (some (.bool false)) else none else none)
 (some (.bool false)) else none else none)
 (some (.bool false)) else none else none)
 (some (.bool false)) else none else none := (h.is _ rfl).trans ((runQ_V rfl).trans (impl_EqualRecords_eq E a0 a1))

end Go.Proofs.Ytfdcdbkblkehcaa.Am
namespace Go.Proofs.Ytfdcdbkblkehcaa.Am
open Go
set_option linter.unusedVariables false
set_option maxRecDepth 100000

/- loop.example/g01924/spec.IsValidRecord -/
def spec_IsValidRecord_ac : AC :=
 (.seq (.region 0 [⟨some 1, .box false 1 (.t 0), none⟩,
  ⟨some 2, .mv (.c (.bool false)), none⟩])
 (.seq (.region 0 [⟨some 3, .load true 6 (.t 1), none⟩,
  ⟨some 4, .call false 25 [(.t 3)], none⟩,
  ⟨some 5, .call false 70 [(.t 4)], none⟩,
  ⟨some 6, .mv (.t 5), none⟩,
  ⟨some 7, .faddr 2 2 (.t 1), some (6, true)⟩,
  ⟨some 8, .load false 1 (.t 7), some (6, true)⟩,
  ⟨some 9, .faddr 0 0 (.t 1), some (6, true)⟩,
  ⟨some 10, .load false 1 (.t 9), some (6, true)⟩,
  ⟨some 11, .bin .leq (.t 8) (.t 10), some (6, true)⟩,
  ⟨some 12, .pick (.t 6) (.t 11) (.c (.bool false)), none⟩,
  ⟨some 13, .mv (.t 12), none⟩,
  ⟨some 14, .faddr 3 3 (.t 1), some (13, true)⟩,
  ⟨some 15, .load false 1 (.t 14), some (13, true)⟩,
  ⟨some 16, .faddr 0 0 (.t 1), some (13, true)⟩,
  ⟨some 17, .load false 1 (.t 16), some (13, true)⟩,
  ⟨some 18, .call false 6 [(.t 15), (.c (.int .i64 0)), (.t 17)], some (13, true)⟩,
  ⟨some 19, .pick (.t 13) (.t 18) (.c (.bool false)), none⟩,
  ⟨some 2, .mv (.t 19), none⟩])
 .ret))

theorem spec_IsValidRecord_eq (E : Env) (a0 : U) : run E spec_IsValidRecord_ac [(2, none)] [a0] =
 U.noTup a0 fun x1 => U.asVar true 6 x1 fun e2 => (E 25 [e2]).bind fun t3 => (E 70 [t3]).bind fun t4 => U.asBool t4
 (U.asAgg x1 fun us5 => if 2 = sizes (us5.take 2) then (us5[2]?).bind fun e6 => U.asVar false 1 e6 fun e7 => U.asAgg x1 fun us8 => if 0 = sizes (us8.take 0) then (us8[0]?).bind fun e9 => U.asVar false 1 e9 fun e10 => (U.bin .leq e7 e10).bind fun t11 => U.asBool t11
 (U.asAgg x1 fun us12 => if 3 = sizes (us12.take 3) then (us12[3]?).bind fun e13 => U.asVar false 1 e13 fun e14 => U.asAgg x1 fun us15 => if 0 = sizes (us15.take 0) then (us15[0]?).bind fun e16 => U.asVar false 1 e16 fun e17 => (E 6 [e14, (.int .i64 0), e17]).bind fun t18 => some t18 else none else none)
 (some (.bool false)) else none else none)
 (some (.bool false)) := by kernel_rfl

/-- In the environment E: this function and those that it calls. -/
structure G_spec_IsValidRecord (E : Env) : Prop where
  is : Is E 69 1 spec_IsValidRecord_ac [(2, none)]
  c_spec_l1In : G_spec_l1In E
  c_spec_l28Tx : G_spec_l28Tx E
  c_spec_IsValidTransaction : G_spec_IsValidTransaction E
theorem spec_IsValidRecord_E {E : Env} (h : G_spec_IsValidRecord E) (a0 : U) : E 69 [a0] =
 U.noTup a0 fun x1 => U.asVar true 6 x1 fun e2 => (E 25 [e2]).bind fun t3 => (E 70 [t3]).bind fun t4 => U.asBool t4
 (U.asAgg x1 fun us5 => if 2 = sizes (us5.take 2) then (us5[2]?).bind fun e6 => U.asVar false 1 e6 fun e7 => U.asAgg x1 fun us8 => if 0 = sizes (us8.take 0) then (us8[0]?).bind fun e9 => U.asVar false 1 e9 fun e10 => (U.bin .leq e7 e10).bind fun t11 => U.asBool t11
 (U.asAgg x1 fun us12 => if 3 = sizes (us12.take 3) then (us12[3]?).bind fun e13 => U.asVar false 1 e13 fun e14 => U.asAgg x1 fun us15 => if 0 = sizes (us15.take 0) then (us15[0]?).bind fun e16 => U.asVar false 1 e16 fun e17 => (E 6 [e14, (.int .i64 0), e17]).bind fun t18 => some t18 else none else none)
 (some (.bool false)) else none else none)
 (some (.bool false)) := (h.is _ rfl).trans ((runQ_V rfl).trans (spec_IsValidRecord_eq E a0))

end Go.Proofs.Ytfdcdbkblkehcaa.Am
namespace Go.Proofs.Ytfdcdbkblkehcaa.Am
open Go
set_option linter.unusedVariables false
set_option maxRecDepth 100000

/- loop.example/g01924/impl.IsValidRecord -/
def impl_IsValidRecord_ac : AC :=
 (.seq (.region 0 [⟨some 1, .box false 1 (.t 0), none⟩,
  ⟨some 2, .mv (.c (.bool false)), none⟩])
 (.seq (.region 0 [⟨some 3, .faddr 1 1 (.t 1), none⟩,
  ⟨some 4, .load false 1 (.t 3), none⟩,
  ⟨some 5, .call false 9 [(.t 4)], none⟩,
  ⟨some 6, .mv (.t 5), none⟩,
  ⟨some 7, .faddr 0 0 (.t 1), some (6, true)⟩,
  ⟨some 8, .load false 1 (.t 7), some (6, true)⟩,
  ⟨some 9, .call false 72 [(.t 8)], some (6, true)⟩,
  ⟨some 10, .pick (.t 6) (.t 9) (.c (.bool false)), none⟩,
  ⟨some 11, .mv (.t 10), none⟩,
  ⟨some 12, .faddr 2 2 (.t 1), some (11, true)⟩,
  ⟨some 13, .load false 1 (.t 12), some (11, true)⟩,
  ⟨some 14, .faddr 0 0 (.t 1), some (11, true)⟩,
  ⟨some 15, .load false 1 (.t 14), some (11, true)⟩,
  ⟨some 16, .call false 10 [(.t 13), (.c (.int .i64 1)), (.t 15)], some (11, true)⟩,
  ⟨some 17, .pick (.t 11) (.t 16) (.c (.bool false)), none⟩,
  ⟨some 18, .mv (.t 17), none⟩,
  ⟨some 19, .faddr 3 3 (.t 1), some (18, true)⟩,
  ⟨some 20, .load false 1 (.t 19), some (18, true)⟩,
  ⟨some 21, .faddr 0 0 (.t 1), some (18, true)⟩,
  ⟨some 22, .load false 1 (.t 21), some (18, true)⟩,
  ⟨some 23, .call false 10 [(.t 20), (.c (.int .i64 0)), (.t 22)], some (18, true)⟩,
  ⟨some 24, .pick (.t 18) (.t 23) (.c (.bool false)), none⟩,
  ⟨some 25, .mv (.t 24), none⟩,
  ⟨some 26, .faddr 4 4 (.t 1), some (25, true)⟩,
  ⟨some 27, .load false 1 (.t 26), some (25, true)⟩,
  ⟨some 28, .call false 73 [(.t 27)], some (25, true)⟩,
  ⟨some 29, .pick (.t 25) (.t 28) (.c (.bool false)), none⟩,
  ⟨some 30, .mv (.t 29), none⟩,
  ⟨some 31, .faddr 5 5 (.t 1), some (30, true)⟩,
  ⟨some 32, .load false 1 (.t 31), some (30, true)⟩,
  ⟨some 33, .call false 74 [(.t 32)], some (30, true)⟩,
  ⟨some 34, .pick (.t 30) (.t 33) (.c (.bool false)), none⟩,
  ⟨some 2, .mv (.t 34), none⟩])
 .ret))

theorem impl_IsValidRecord_eq (E : Env) (a0 : U) : run E impl_IsValidRecord_ac [(2, none)] [a0] =
 U.noTup a0 fun x1 => U.asAgg x1 fun us2 => if 1 = sizes (us2.take 1) then (us2[1]?).bind fun e3 => U.asVar false 1 e3 fun e4 => (E 9 [e4]).bind fun t5 => U.asBool t5
 (U.asAgg x1 fun us6 => if 0 = sizes (us6.take 0) then (us6[0]?).bind fun e7 => U.asVar false 1 e7 fun e8 => (E 72 [e8]).bind fun t9 => U.asBool t9
 (U.asAgg x1 fun us10 => if 2 = sizes (us10.take 2) then (us10[2]?).bind fun e11 => U.asVar false 1 e11 fun e12 => U.asAgg x1 fun us13 => if 0 = sizes (us13.take 0) then (us13[0]?).bind fun e14 => U.asVar false 1 e14 fun e15 => (E 10 [e12, (.int .i64 1), e15]).bind fun t16 => U.asBool t16
 (U.asAgg x1 fun us17 => if 3 = sizes (us17.take 3) then (us17[3]?).bind fun e18 => U.asVar false 1 e18 fun e19 => U.asAgg x1 fun us20 => if 0 = sizes (us20.take 0) then (us20[0]?).bind fun e21 => U.asVar false 1 e21 fun e22 => (E 10 [e19, (.int .i64 0), e22]).bind fun t23 => U.asBool t23
 (U.asAgg x1 fun us24 => if 4 = sizes (us24.take 4) then (us24[4]?).bind fun e25 => U.asVar false 1 e25 fun e26 => (E 73 [e26]).bind fun t27 => U.asBool t27
 (U.asAgg x1 fun us28 => if 5 = sizes (us28.take 5) then (us28[5]?).bind fun e29 => U.asVar false 1 e29 fun e30 => (E 74 [e30]).bind fun t31 => some t31 else none)
 (some (.bool false)) else none)
 (some (.bool false)) else none else none)
 (some (.bool false)) else none else none)
 (some (.bool false)) else none)
 (some (.bool false)) else none := by kernel_rfl

/-- In the environment E: this function and those that it calls. -/
structure G_impl_IsValidRecord (E : Env) : Prop where
  is : Is E 68 1 impl_IsValidRecord_ac [(2, none)]
  c_impl_in : G_impl_in E
  c_impl_isID : G_impl_isID E
  c_impl_IsStamp : G_impl_IsStamp E
  c_impl_areReads : G_impl_areReads E
  c_impl_areWrites : G_impl_areWrites E
theorem impl_IsValidRecord_E {E : Env} (h : G_impl_IsValidRecord E) (a0 : U) : E 68 [a0] =
 U.noTup a0 fun x1 => U.asAgg x1 fun us2 => if 1 = sizes (us2.take 1) then (us2[1]?).bind fun e3 => U.asVar false 1 e3 fun e4 => (E 9 [e4]).bind fun t5 => U.asBool t5
 (U.asAgg x1 fun us6 => if 0 = sizes (us6.take 0) then (us6[0]?).bind fun e7 => U.asVar false 1 e7 fun e8 => (E 72 [e8]).bind fun t9 => U.asBool t9
 (U.asAgg x1 fun us10 => if 2 = sizes (us10.take 2) then (us10[2]?).bind fun e11 => U.asVar false 1 e11 fun e12 => U.asAgg x1 fun us13 => if 0 = sizes (us13.take 0) then (us13[0]?).bind fun e14 => U.asVar false 1 e14 fun e15 => (E 10 [e12, (.int .i64 1), e15]).bind fun t16 => U.asBool t16
 (U.asAgg x1 fun us17 => if 3 = sizes (us17.take 3) then (us17[3]?).bind fun e18 => U.asVar false 1 e18 fun e19 => U.asAgg x1 fun us20 => if 0 = sizes (us20.take 0) then (us20[0]?).bind fun e21 => U.asVar false 1 e21 fun e22 => (E 10 [e19, (.int .i64 0), e22]).bind fun t23 => U.asBool t23
 (U.asAgg x1 fun us24 => if 4 = sizes (us24.take 4) then (us24[4]?).bind fun e25 => U.asVar false 1 e25 fun e26 => (E 73 [e26]).bind fun t27 => U.asBool t27
 (U.asAgg x1 fun us28 => if 5 = sizes (us28.take 5) then (us28[5]?).bind fun e29 => U.asVar false 1 e29 fun e30 => (E 74 [e30]).bind fun t31 => some t31 else none)
 (some (.bool false)) else none)
 (some (.bool false)) else none else none)
 (some (.bool false)) else none else none)
 (some (.bool false)) else none)
 (some (.bool false)) else none := (h.is _ rfl).trans ((runQ_V rfl).trans (impl_IsValidRecord_eq E a0))

end Go.Proofs.Ytfdcdbkblkehcaa.Am
namespace Go.Proofs.Ytfdcdbkblkehcaa.Am
open Go
set_option linter.unusedVariables false
set_option maxRecDepth 100000

/- loop.example/g01924/laws.szEntry -/
def laws_szEntry_ac : AC :=
 (.seq (.region 0 [⟨some 2, .box false 2 (.t 0), none⟩,
  ⟨some 4, .mv (.c (.int .i64 0)), none⟩])
 (.seq (.region 0 [⟨some 5, .faddr 2 2 (.t 2), none⟩,
  ⟨some 6, .load false 1 (.t 5), none⟩,
  ⟨some 7, .mv (.t 1), none⟩,
  ⟨some 8, .call false 24 [(.t 6), (.t 7)], none⟩,
  ⟨some 1, .mv (.t 8), none⟩])
 (.seq (.seq (.region 0 [⟨some 9, .mv (.t 1), none⟩,
  ⟨some 10, .bin .lss (.t 9) (.c (.int .i64 0)), none⟩])
 (.cond (.t 10) (.seq (.region 0 [⟨some 4, .mv (.c (.int .i64 (-1))), none⟩])
 .ret) .skip))
 (.seq (.region 0 [⟨some 11, .faddr 3 3 (.t 2), none⟩,
  ⟨some 12, .load false 1 (.t 11), none⟩,
  ⟨some 13, .mv (.t 1), none⟩,
  ⟨some 14, .call false 23 [(.t 12), (.t 13)], none⟩,
  ⟨some 1, .mv (.t 14), none⟩])
 (.seq (.seq (.region 0 [⟨some 15, .mv (.t 1), none⟩,
  ⟨some 16, .bin .lss (.t 15) (.c (.int .i64 0)), none⟩])
 (.cond (.t 16) (.seq (.region 0 [⟨some 4, .mv (.c (.int .i64 (-1))), none⟩])
 .ret) .skip))
 (.seq (.region 0 [⟨some 17, .mv (.t 1), none⟩,
  ⟨some 4, .mv (.t 17), none⟩])
 .ret))))))

theorem laws_szEntry_eq (E : Env) (a0 : U) (a1 : U) : run E laws_szEntry_ac [(4, none)] [a0, a1] =
 U.noTup a0 fun x1 => U.asAgg x1 fun us2 => if 2 = sizes (us2.take 2) then (us2[2]?).bind fun e3 => U.asVar false 1 e3 fun e4 => (E 24 [e4, a1]).bind fun t5 => (U.bin .lss t5 (.int .i64 0)).bind fun t6 => U.asBool t6
 (some (.int .i64 (-1)))
 (U.asAgg x1 fun us7 => if 3 = sizes (us7.take 3) then (us7[3]?).bind fun e8 => U.asVar false 1 e8 fun e9 => (E 23 [e9, t5]).bind fun t10 => (U.bin .lss t10 (.int .i64 0)).bind fun t11 => U.asBool t11
 (some (.int .i64 (-1)))
 (some t10) else none) else none := by kernel_rfl

/-- In the environment E: this function and those that it calls. -/
structure G_laws_szEntry (E : Env) : Prop where
  is : Is E 50 2 laws_szEntry_ac [(4, none)]
  c_laws_szReadMarkS : G_laws_szReadMarkS E
  c_laws_szWriteS : G_laws_szWriteS E
theorem laws_szEntry_E {E : Env} (h : G_laws_szEntry E) (a0 a1 : U) : E 50 [a0, a1] =
 U.noTup a0 fun x1 => U.asAgg x1 fun us2 => if 2 = sizes (us2.take 2) then (us2[2]?).bind fun e3 => U.asVar false 1 e3 fun e4 => (E 24 [e4, a1]).bind fun t5 => (U.bin .lss t5 (.int .i64 0)).bind fun t6 => U.asBool t6
 (some (.int .i64 (-1)))
 (U.asAgg x1 fun us7 => if 3 = sizes (us7.take 3) then (us7[3]?).bind fun e8 => U.asVar false 1 e8 fun e9 => (E 23 [e9, t5]).bind fun t10 => (U.bin .lss t10 (.int .i64 0)).bind fun t11 => U.asBool t11
 (some (.int .i64 (-1)))
 (some t10) else none) else none := (h.is _ rfl).trans ((runQ_V rfl).trans (laws_szEntry_eq E a0 a1))

end Go.Proofs.Ytfdcdbkblkehcaa.Am
namespace Go.Proofs.Ytfdcdbkblkehcaa.Am
open Go
set_option linter.unusedVariables false
set_option maxRecDepth 100000

/- loop.example/g01924/laws.toEntry -/
def laws_toEntry_ac : AC :=
 (.seq (.region 0 [⟨some 1, .box false 1 (.t 0), none⟩,
  ⟨some 2, .alloc 2 (.agg [(.int .i64 0), (.int .i64 0), (.nsl 2), (.nsl 2)]), none⟩])
 (.seq (.region 0 [⟨some 3, .alloc 3 (.agg [(.int .i64 0), (.int .i64 0), (.nsl 2), (.nsl 2)]), none⟩])
 (.seq (.region 0 [⟨some 4, .faddr 0 0 (.t 1), none⟩,
  ⟨some 5, .load false 1 (.t 4), none⟩,
  ⟨some 6, .faddr 0 0 (.t 3), none⟩,
  ⟨none, .store 1 (.t 6) (.t 5), none⟩])
 (.seq (.region 0 [⟨some 7, .faddr 1 1 (.t 1), none⟩,
  ⟨some 8, .load false 1 (.t 7), none⟩,
  ⟨some 9, .faddr 1 1 (.t 3), none⟩,
  ⟨none, .store 1 (.t 9) (.t 8), none⟩])
 (.seq (.region 0 [⟨some 10, .faddr 2 2 (.t 1), none⟩,
  ⟨some 11, .load false 1 (.t 10), none⟩,
  ⟨some 12, .call false 28 [(.t 11)], none⟩,
  ⟨some 13, .faddr 2 2 (.t 3), none⟩,
  ⟨none, .store 1 (.t 13) (.t 12), none⟩])
 (.seq (.region 0 [⟨some 14, .faddr 3 3 (.t 1), none⟩,
  ⟨some 15, .load false 1 (.t 14), none⟩,
  ⟨some 16, .call false 27 [(.t 15)], none⟩,
  ⟨some 17, .faddr 3 3 (.t 3), none⟩,
  ⟨none, .store 1 (.t 17) (.t 16), none⟩])
 (.seq (.region 0 [⟨some 18, .load true 4 (.t 3), none⟩,
  ⟨none, .store 4 (.t 2) (.t 18), none⟩])
 .ret)))))))

theorem laws_toEntry_eq (E : Env) (a0 : U) : run E laws_toEntry_ac [(2, some (true, 4))] [a0] =
 U.noTup a0 fun x1 => U.asAgg x1 fun us2 => if 0 = sizes (us2.take 0) then (us2[0]?).bind fun e3 => U.asVar false 1 e3 fun e4 => if storable (.val e4) = true ∧ e4.size = 1 then U.asAgg x1 fun us5 => if 1 = sizes (us5.take 1) then (us5[1]?).bind fun e6 => U.asVar false 1 e6 fun e7 => if storable (.val e7) = true ∧ e7.size = 1 then if 1 = sizes [e4] then U.asAgg x1 fun us8 => if 2 = sizes (us8.take 2) then (us8[2]?).bind fun e9 => U.asVar false 1 e9 fun e10 => (E 28 [e10]).bind fun t11 => if storable (.val t11) = true ∧ t11.size = 1 then if 2 = sizes [e4, e7] then U.asAgg x1 fun us12 => if 3 = sizes (us12.take 3) then (us12[3]?).bind fun e13 => U.asVar false 1 e13 fun e14 => (E 27 [e14]).bind fun t15 => if storable (.val t15) = true ∧ t15.size = 1 then if 3 = sizes [e4, e7, t11] then U.asVar true 4 (.agg [e4, e7, t11, t15]) fun e16 => if storable (.val e16) = true ∧ e16.size = 4 then U.asVar true 4 e16 fun e17 => some e17 else none else none else none else none else none else none else none else none else none else none else none else none := by kernel_rfl

/-- In the environment E: this function and those that it calls. -/
structure G_laws_toEntry (E : Env) : Prop where
  is : Is E 51 1 laws_toEntry_ac [(2, some (true, 4))]
  c_laws_toReadMarkS : G_laws_toReadMarkS E
  c_laws_toWriteS : G_laws_toWriteS E
theorem laws_toEntry_E {E : Env} (h : G_laws_toEntry E) (a0 : U) : E 51 [a0] =
 U.noTup a0 fun x1 => U.asAgg x1 fun us2 => if 0 = sizes (us2.take 0) then (us2[0]?).bind fun e3 => U.asVar false 1 e3 fun e4 => if storable (.val e4) = true ∧ e4.size = 1 then U.asAgg x1 fun us5 => if 1 = sizes (us5.take 1) then (us5[1]?).bind fun e6 => U.asVar false 1 e6 fun e7 => if storable (.val e7) = true ∧ e7.size = 1 then if 1 = sizes [e4] then U.asAgg x1 fun us8 => if 2 = sizes (us8.take 2) then (us8[2]?).bind fun e9 => U.asVar false 1 e9 fun e10 => (E 28 [e10]).bind fun t11 => if storable (.val t11) = true ∧ t11.size = 1 then if 2 = sizes [e4, e7] then U.asAgg x1 fun us12 => if 3 = sizes (us12.take 3) then (us12[3]?).bind fun e13 => U.asVar false 1 e13 fun e14 => (E 27 [e14]).bind fun t15 => if storable (.val t15) = true ∧ t15.size = 1 then if 3 = sizes [e4, e7, t11] then U.asVar true 4 (.agg [e4, e7, t11, t15]) fun e16 => if storable (.val e16) = true ∧ e16.size = 4 then U.asVar true 4 e16 fun e17 => some e17 else none else none else none else none else none else none else none else none else none else none else none else none := (h.is _ rfl).trans ((runQ_V rfl).trans (laws_toEntry_eq E a0))

end Go.Proofs.Ytfdcdbkblkehcaa.Am
namespace Go.Proofs.Ytfdcdbkblkehcaa.Am
open Go
set_option linter.unusedVariables false
set_option maxRecDepth 100000

/- loop.example/g01924/laws.eqEntry -/
def laws_eqEntry_ac : AC :=
 (.seq (.region 0 [⟨some 2, .box false 2 (.t 0), none⟩,
  ⟨some 3, .box false 3 (.t 1), none⟩,
  ⟨some 4, .mv (.c (.bool false)), none⟩])
 (.seq (.seq (.region 0 [⟨some 5, .faddr 0 0 (.t 2), none⟩,
  ⟨some 6, .load false 1 (.t 5), none⟩,
  ⟨some 7, .faddr 0 0 (.t 3), none⟩,
  ⟨some 8, .load false 1 (.t 7), none⟩,
  ⟨some 9, .bin .neq (.t 6) (.t 8), none⟩])
 (.cond (.t 9) (.seq (.region 0 [⟨some 4, .mv (.c (.bool false)), none⟩])
 .ret) .skip))
 (.seq (.seq (.region 0 [⟨some 10, .faddr 1 1 (.t 2), none⟩,
  ⟨some 11, .load false 1 (.t 10), none⟩,
  ⟨some 12, .faddr 1 1 (.t 3), none⟩,
  ⟨some 13, .load false 1 (.t 12), none⟩,
  ⟨some 14, .bin .neq (.t 11) (.t 13), none⟩])
 (.cond (.t 14) (.seq (.region 0 [⟨some 4, .mv (.c (.bool false)), none⟩])
 .ret) .skip))
 (.seq (.seq (.region 0 [⟨some 15, .faddr 2 2 (.t 2), none⟩,
  ⟨some 16, .load false 1 (.t 15), none⟩,
  ⟨some 17, .faddr 2 2 (.t 3), none⟩,
  ⟨some 18, .load false 1 (.t 17), none⟩,
  ⟨some 19, .call false 34 [(.t 16), (.t 18)], none⟩,
  ⟨some 20, .un .not (.t 19), none⟩])
 (.cond (.t 20) (.seq (.region 0 [⟨some 4, .mv (.c (.bool false)), none⟩])
 .ret) .skip))
 (.seq (.seq (.region 0 [⟨some 21, .faddr 3 3 (.t 2), none⟩,
  ⟨some 22, .load false 1 (.t 21), none⟩,
  ⟨some 23, .faddr 3 3 (.t 3), none⟩,
  ⟨some 24, .load false 1 (.t 23), none⟩,
  ⟨some 25, .call false 33 [(.t 22), (.t 24)], none⟩,
  ⟨some 26, .un .not (.t 25), none⟩])
 (.cond (.t 26) (.seq (.region 0 [⟨some 4, .mv (.c (.bool false)), none⟩])
 .ret) .skip))
 (.seq (.region 0 [⟨some 4, .mv (.c (.bool true)), none⟩])
 .ret))))))

theorem laws_eqEntry_eq (E : Env) (a0 : U) (a1 : U) : run E laws_eqEntry_ac [(4, none)] [a0, a1] =
 U.noTup a0 fun x1 => U.noTup a1 fun x2 => U.asAgg x1 fun us3 => if 0 = sizes (us3.take 0) then (us3[0]?).bind fun e4 => U.asVar false 1 e4 fun e5 => U.asAgg x2 fun us6 => if 0 = sizes (us6.take 0) then (us6[0]?).bind fun e7 => U.asVar false 1 e7 fun e8 => (U.bin .neq e5 e8).bind fun t9 => U.asBool t9
 (some (.bool false))
 (U.asAgg x1 fun us10 => if 1 = sizes (us10.take 1) then (us10[1]?).bind fun e11 => U.asVar false 1 e11 fun e12 => U.asAgg x2 fun us13 => if 1 = sizes (us13.take 1) then (us13[1]?).bind fun e14 => U.asVar false 1 e14 fun e15 => (U.bin .neq e12 e15).bind fun t16 => U.asBool t16
 (some (.bool false))
 (U.asAgg x1 fun us17 => if 2 = sizes (us17.take 2) then (us17[2]?).bind fun e18 => U.asVar false 1 e18 fun e19 => U.asAgg x2 fun us20 => if 2 = sizes (us20.take 2) then (us20[2]?).bind fun e21 => U.asVar false 1 e21 fun e22 => (E 34 [e19, e22]).bind fun t23 => (U.un .not t23).bind fun t24 => U.asBool t24
 (some (.bool false))
 (U.asAgg x1 fun us25 => if 3 = sizes (us25.take 3) then (us25[3]?).bind fun e26 => U.asVar false 1 e26 fun e27 => U.asAgg x2 fun us28 => if 3 = sizes (us28.take 3) then (us28[3]?).bind fun e29 => U.asVar false 1 e29 fun e30 => (E 33 [e27, e30]).bind fun t31 => (U.un .not t31).bind fun t32 => U.asBool t32
 (some (.bool false))
 (some (.bool true)) else none else none) else none else none) else none else none) else none else none := by kernel_rfl

/-- In the environment E: this function and those that it calls. -/
structure G_laws_eqEntry (E : Env) : Prop where
  is : Is E 56 2 laws_eqEntry_ac [(4, none)]
  c_laws_eqReadMarkS : G_laws_eqReadMarkS E
  c_laws_eqWriteS : G_laws_eqWriteS E
theorem laws_eqEntry_E {E : Env} (h : G_laws_eqEntry E) (a0 a1 : U) : E 56 [a0, a1] =
 U.noTup a0 fun x1 => U.noTup a1 fun x2 => U.asAgg x1 fun us3 => if 0 = sizes (us3.take 0) then (us3[0]?).bind fun e4 => U.asVar false 1 e4 fun e5 => U.asAgg x2 fun us6 => if 0 = sizes (us6.take 0) then (us6[0]?).bind fun e7 => U.asVar false 1 e7 fun e8 => (U.bin .neq e5 e8).bind fun t9 => U.asBool t9
 (some (.bool false))
 (U.asAgg x1 fun us10 => if 1 = sizes (us10.take 1) then (us10[1]?).bind fun e11 => U.asVar false 1 e11 fun e12 => U.asAgg x2 fun us13 => if 1 = sizes (us13.take 1) then (us13[1]?).bind fun e14 => U.asVar false 1 e14 fun e15 => (U.bin .neq e12 e15).bind fun t16 => U.asBool t16
 (some (.bool false))
 (U.asAgg x1 fun us17 => if 2 = sizes (us17.take 2) then (us17[2]?).bind fun e18 => U.asVar false 1 e18 fun e19 => U.asAgg x2 fun us20 => if 2 = sizes (us20.take 2) then (us20[2]?).bind fun e21 => U.asVar false 1 e21 fun e22 => (E 34 [e19, e22]).bind fun t23 => (U.un .not t23).bind fun t24 => U.asBool t24
 (some (.bool false))
 (U.asAgg x1 fun us25 => if 3 = sizes (us25.take 3) then (us25[3]?).bind fun e26 => U.asVar false 1 e26 fun e27 => U.asAgg x2 fun us28 => if 3 = sizes (us28.take 3) then (us28[3]?).bind fun e29 => U.asVar false 1 e29 fun e30 => (E 33 [e27, e30]).bind fun t31 => (U.un .not t31).bind fun t32 => U.asBool t32
 (some (.bool false))
 (some (.bool true)) else none else none) else none else none) else none else none) else none else none := (h.is _ rfl).trans ((runQ_V rfl).trans (laws_eqEntry_eq E a0 a1))

end Go.Proofs.Ytfdcdbkblkehcaa.Am
namespace Go.Proofs.Ytfdcdbkblkehcaa.Am
open Go
set_option linter.unusedVariables false
set_option maxRecDepth 100000

/- loop.example/g01924/laws.toEntryS -/
def laws_toEntryS_b0 : AC :=
 (.seq (.seq (.region 0 [⟨some 8, .mv (.t 4), none⟩,
  ⟨some 9, .mv (.t 0), none⟩,
  ⟨some 10, .len false (.t 9), none⟩,
  ⟨some 11, .bin .lss (.t 8) (.t 10), none⟩])
 (.cond (.t 11) .skip (.exit 0)))
 (.seq (.block 1 (.region 0 [⟨some 14, .mv (.t 3), none⟩,
  ⟨some 15, .mv (.t 4), none⟩,
  ⟨some 16, .mv (.t 0), none⟩,
  ⟨some 17, .mv (.t 4), none⟩,
  ⟨some 18, .iaddr 4 (.t 16) (.t 17), none⟩,
  ⟨some 19, .load true 4 (.t 18), none⟩,
  ⟨some 20, .call false 51 [(.t 19)], none⟩,
  ⟨some 21, .iaddr 4 (.t 14) (.t 15), none⟩,
  ⟨none, .store 4 (.t 21) (.t 20), none⟩]))
 (.region 0 [⟨some 12, .mv (.t 4), none⟩,
  ⟨some 13, .bin .add (.t 12) (.c (.int .i64 1)), none⟩,
  ⟨some 4, .mv (.t 13), none⟩])))
def laws_toEntryS_r0 : AC :=
 (.seq (.region 0 [⟨some 22, .mv (.t 3), none⟩,
  ⟨some 2, .mv (.t 22), none⟩])
 .ret)
def laws_toEntryS_ac : AC :=
 (.seq (.region 0 [⟨some 2, .mv (.c (.nsl 4)), none⟩])
 (.seq (.region 0 [⟨some 5, .mv (.t 0), none⟩,
  ⟨some 6, .len false (.t 5), none⟩,
  ⟨some 7, .mkslice 7 4 64 (.agg [(.int .i64 0), (.int .i64 0), (.nsl 2), (.nsl 2)]) (.t 6) (.t 6), none⟩,
  ⟨some 3, .mv (.t 7), none⟩])
 (.seq (.seq (.region 0 [⟨some 4, .mv (.c (.int .i64 0)), none⟩])
 (.block 0 (.loop ⟨[0, 4], [(3, 4, false)], []⟩ laws_toEntryS_b0)))
 laws_toEntryS_r0)))
noncomputable def laws_toEntryS_l0 (E : Env) (x0 : U) (x4 : U) (c3 : List U) : Option U := loopK (roundOf E ⟨[0, 4], [(3, 4, false)], []⟩ laws_toEntryS_b0 (blockK 0 (seqK (fun s => exec E laws_toEntryS_r0 s (finish [(2, none)])) (finish [(2, none)])))) ([.val x0, .val x4], [.vir (.asl 4 c3)])
theorem laws_toEntryS_eq (E : Env) (a0 : U) : run E laws_toEntryS_ac [(2, none)] [a0] =
 (U.lenOf false a0).bind fun n1 => if 0 ≤ (n1 : Int) ∧ (n1 : Int) ≤ (n1 : Int) ∧ (n1 : Int) * 64 ≤ 140737488355328 ∧ ((.agg [(.int .i64 0), (.int .i64 0), (.nsl 2), (.nsl 2)]) : U).size = 4 then laws_toEntryS_l0 E a0 (.int .i64 0) (List.replicate ((n1 : Int) : Int).toNat (.agg [(.int .i64 0), (.int .i64 0), (.nsl 2), (.nsl 2)])) else none := by kernel_rfl
theorem laws_toEntryS_l0_eq (E : Env) (x0 : U) (x4 : U) (c3 : List U) : laws_toEntryS_l0 E x0 x4 c3 =
 (U.lenOf false x0).bind fun n2 => (U.bin .lss x4 (.int .i64 (n2 : Int))).bind fun t3 => U.asBool t3
 (U.asInt x4 fun n4 => U.elemAt 4 x0 n4 fun e5 => U.asVar true 4 e5 fun e6 => (E 51 [e6]).bind fun t7 => U.asInt x4 fun n8 => if 4 = 4 ∧ 0 ≤ n8 ∧ n8 < ((c3).length : Int) then if storable (.val t7) = true ∧ t7.size = 4 then (c3[(n8 : Int).toNat]?).bind fun e9 => if e9.size = 4 then (U.bin .add x4 (.int .i64 1)).bind fun t10 => laws_toEntryS_l0 E x0 t10 (c3.set (n8 : Int).toNat t7) else none else none else none)
 (some (.sl 4 c3)) :=
 (loop_eq E _ _ _ _).trans (by kernel_rfl)

/-- In the environment E: this function and those that it calls. -/
structure G_laws_toEntryS (E : Env) : Prop where
  is : Is E 45 1 laws_toEntryS_ac [(2, none)]
  c_laws_toEntry : G_laws_toEntry E
theorem laws_toEntryS_E {E : Env} (h : G_laws_toEntryS E) (a0 : U) : E 45 [a0] =
 (U.lenOf false a0).bind fun n1 => if 0 ≤ (n1 : Int) ∧ (n1 : Int) ≤ (n1 : Int) ∧ (n1 : Int) * 64 ≤ 140737488355328 ∧ ((.agg [(.int .i64 0), (.int .i64 0), (.nsl 2), (.nsl 2)]) : U).size = 4 then laws_toEntryS_l0 E a0 (.int .i64 0) (List.replicate ((n1 : Int) : Int).toNat (.agg [(.int .i64 0), (.int .i64 0), (.nsl 2), (.nsl 2)])) else none := (h.is _ rfl).trans ((runQ_V rfl).trans (laws_toEntryS_eq E a0))

end Go.Proofs.Ytfdcdbkblkehcaa.Am
namespace Go.Proofs.Ytfdcdbkblkehcaa.Am
open Go
set_option linter.unusedVariables false
set_option maxRecDepth 100000

/- loop.example/g01924/laws.eqEntryS -/
def laws_eqEntryS_b0 : AC :=
 (.seq (.seq (.region 0 [⟨some 11, .mv (.t 5), none⟩,
  ⟨some 12, .mv (.t 0), none⟩,
  ⟨some 13, .len false (.t 12), none⟩,
  ⟨some 14, .bin .lss (.t 11) (.t 13), none⟩])
 (.cond (.t 14) .skip (.exit 0)))
 (.seq (.block 1 (.seq (.region 10 [⟨some 17, .mv (.t 0), none⟩,
  ⟨some 18, .mv (.t 5), none⟩,
  ⟨some 19, .iaddr 4 (.t 17) (.t 18), none⟩,
  ⟨some 20, .load true 4 (.t 19), none⟩,
  ⟨some 21, .mv (.t 1), none⟩,
  ⟨some 22, .mv (.t 5), none⟩,
  ⟨some 23, .iaddr 4 (.t 21) (.t 22), none⟩,
  ⟨some 24, .load true 4 (.t 23), none⟩,
  ⟨some 25, .call false 56 [(.t 20), (.t 24)], none⟩,
  ⟨some 26, .un .not (.t 25), none⟩])
 (.cond (.t 26) (.seq (.region 0 [⟨some 4, .mv (.c (.bool false)), none⟩])
 .ret) .skip)))
 (.region 0 [⟨some 15, .mv (.t 5), none⟩,
  ⟨some 16, .bin .add (.t 15) (.c (.int .i64 1)), none⟩,
  ⟨some 5, .mv (.t 16), none⟩])))
def laws_eqEntryS_r0 : AC :=
 (.seq (.region 0 [⟨some 4, .mv (.c (.bool true)), none⟩])
 .ret)
def laws_eqEntryS_ac : AC :=
 (.seq (.region 0 [⟨some 4, .mv (.c (.bool false)), none⟩])
 (.seq (.seq (.region 0 [⟨some 6, .mv (.t 0), none⟩,
  ⟨some 7, .len false (.t 6), none⟩,
  ⟨some 8, .mv (.t 1), none⟩,
  ⟨some 9, .len false (.t 8), none⟩,
  ⟨some 10, .bin .neq (.t 7) (.t 9), none⟩])
 (.cond (.t 10) (.seq (.region 0 [⟨some 4, .mv (.c (.bool false)), none⟩])
 .ret) .skip))
 (.seq (.seq (.region 0 [⟨some 5, .mv (.c (.int .i64 0)), none⟩])
 (.block 0 (.loop ⟨[0, 1, 5], [], []⟩ laws_eqEntryS_b0)))
 laws_eqEntryS_r0)))
noncomputable def laws_eqEntryS_l0 (E : Env) (x0 : U) (x1 : U) (x5 : U) : Option U := loopK (roundOf E ⟨[0, 1, 5], [], []⟩ laws_eqEntryS_b0 (blockK 0 (seqK (fun s => exec E laws_eqEntryS_r0 s (finish [(4, none)])) (finish [(4, none)])))) ([.val x0, .val x1, .val x5], [])
theorem laws_eqEntryS_eq (E : Env) (a0 : U) (a1 : U) : run E laws_eqEntryS_ac [(4, none)] [a0, a1] =
 (U.lenOf false a0).bind fun n1 => (U.lenOf false a1).bind fun n2 => (U.bin .neq (.int .i64 (n1 : Int)) (.int .i64 (n2 : Int))).bind fun t3 => U.asBool t3
 (some (.bool false))
 (laws_eqEntryS_l0 E a0 a1 (.int .i64 0)) := by kernel_rfl
theorem laws_eqEntryS_l0_eq (E : Env) (x0 : U) (x1 : U) (x5 : U) : laws_eqEntryS_l0 E x0 x1 x5 =
 (U.lenOf false x0).bind fun n4 => (U.bin .lss x5 (.int .i64 (n4 : Int))).bind fun t5 => U.asBool t5
 (U.asInt x5 fun n6 => U.elemAt 4 x0 n6 fun e7 => U.asVar true 4 e7 fun e8 => U.asInt x5 fun n9 => U.elemAt 4 x1 n9 fun e10 => U.asVar true 4 e10 fun e11 => (E 56 [e8, e11]).bind fun t12 => (U.un .not t12).bind fun t13 => U.asBool t13
 (some (.bool false))
 ((U.bin .add x5 (.int .i64 1)).bind fun t14 => laws_eqEntryS_l0 E x0 x1 t14))
 (some (.bool true)) :=
 (loop_eq E _ _ _ _).trans (by kernel_rfl)

/-- In the environment E: this function and those that it calls. -/
structure G_laws_eqEntryS (E : Env) : Prop where
  is : Is E 46 2 laws_eqEntryS_ac [(4, none)]
  c_laws_eqEntry : G_laws_eqEntry E
theorem laws_eqEntryS_E {E : Env} (h : G_laws_eqEntryS E) (a0 a1 : U) : E 46 [a0, a1] =
 (U.lenOf false a0).bind fun n1 => (U.lenOf false a1).bind fun n2 => (U.bin .neq (.int .i64 (n1 : Int)) (.int .i64 (n2 : Int))).bind fun t3 => U.asBool t3
 (some (.bool false))
 (laws_eqEntryS_l0 E a0 a1 (.int .i64 0)) := (h.is _ rfl).trans ((runQ_V rfl).trans (laws_eqEntryS_eq E a0 a1))

end Go.Proofs.Ytfdcdbkblkehcaa.Am
namespace Go.Proofs.Ytfdcdbkblkehcaa.Am
open Go
set_option linter.unusedVariables false
set_option maxRecDepth 100000

/- loop.example/g01924/laws.szEntryS -/
def laws_szEntryS_b0 : AC :=
 (.seq (.seq (.region 0 [⟨some 12, .mv (.t 5), none⟩,
  ⟨some 13, .mv (.t 0), none⟩,
  ⟨some 14, .len false (.t 13), none⟩,
  ⟨some 15, .bin .lss (.t 12) (.t 14), none⟩])
 (.cond (.t 15) .skip (.exit 0)))
 (.seq (.block 1 (.seq (.region 0 [⟨some 18, .mv (.t 0), none⟩,
  ⟨some 19, .mv (.t 5), none⟩,
  ⟨some 20, .iaddr 4 (.t 18) (.t 19), none⟩,
  ⟨some 21, .load true 4 (.t 20), none⟩,
  ⟨some 22, .mv (.t 1), none⟩,
  ⟨some 23, .call false 50 [(.t 21), (.t 22)], none⟩,
  ⟨some 1, .mv (.t 23), none⟩])
 (.seq (.region 0 [⟨some 24, .mv (.t 1), none⟩,
  ⟨some 25, .bin .lss (.t 24) (.c (.int .i64 0)), none⟩])
 (.cond (.t 25) (.seq (.region 0 [⟨some 4, .mv (.c (.int .i64 (-1))), none⟩])
 .ret) .skip))))
 (.region 0 [⟨some 16, .mv (.t 5), none⟩,
  ⟨some 17, .bin .add (.t 16) (.c (.int .i64 1)), none⟩,
  ⟨some 5, .mv (.t 17), none⟩])))
def laws_szEntryS_r0 : AC :=
 (.seq (.region 0 [⟨some 26, .mv (.t 1), none⟩,
  ⟨some 4, .mv (.t 26), none⟩])
 .ret)
def laws_szEntryS_ac : AC :=
 (.seq (.region 0 [⟨some 4, .mv (.c (.int .i64 0)), none⟩])
 (.seq (.region 0 [⟨some 6, .mv (.t 1), none⟩,
  ⟨some 7, .mv (.t 0), none⟩,
  ⟨some 8, .len false (.t 7), none⟩,
  ⟨some 9, .bin .sub (.t 6) (.t 8), none⟩,
  ⟨some 1, .mv (.t 9), none⟩])
 (.seq (.seq (.region 0 [⟨some 10, .mv (.t 1), none⟩,
  ⟨some 11, .bin .lss (.t 10) (.c (.int .i64 0)), none⟩])
 (.cond (.t 11) (.seq (.region 0 [⟨some 4, .mv (.c (.int .i64 (-1))), none⟩])
 .ret) .skip))
 (.seq (.seq (.region 0 [⟨some 5, .mv (.c (.int .i64 0)), none⟩])
 (.block 0 (.loop ⟨[0, 1, 5], [], []⟩ laws_szEntryS_b0)))
 laws_szEntryS_r0))))
noncomputable def laws_szEntryS_l0 (E : Env) (x0 : U) (x1 : U) (x5 : U) : Option U := loopK (roundOf E ⟨[0, 1, 5], [], []⟩ laws_szEntryS_b0 (blockK 0 (seqK (fun s => exec E laws_szEntryS_r0 s (finish [(4, none)])) (finish [(4, none)])))) ([.val x0, .val x1, .val x5], [])
theorem laws_szEntryS_eq (E : Env) (a0 : U) (a1 : U) : run E laws_szEntryS_ac [(4, none)] [a0, a1] =
 (U.lenOf false a0).bind fun n1 => (U.bin .sub a1 (.int .i64 (n1 : Int))).bind fun t2 => (U.bin .lss t2 (.int .i64 0)).bind fun t3 => U.asBool t3
 (some (.int .i64 (-1)))
 (laws_szEntryS_l0 E a0 t2 (.int .i64 0)) := by kernel_rfl
theorem laws_szEntryS_l0_eq (E : Env) (x0 : U) (x1 : U) (x5 : U) : laws_szEntryS_l0 E x0 x1 x5 =
 (U.lenOf false x0).bind fun n4 => (U.bin .lss x5 (.int .i64 (n4 : Int))).bind fun t5 => U.asBool t5
 (U.asInt x5 fun n6 => U.elemAt 4 x0 n6 fun e7 => U.asVar true 4 e7 fun e8 => (E 50 [e8, x1]).bind fun t9 => (U.bin .lss t9 (.int .i64 0)).bind fun t10 => U.asBool t10
 (some (.int .i64 (-1)))
 ((U.bin .add x5 (.int .i64 1)).bind fun t11 => laws_szEntryS_l0 E x0 t9 t11))
 (some x1) :=
 (loop_eq E _ _ _ _).trans (by kernel_rfl)

/-- In the environment E: this function and those that it calls. -/
structure G_laws_szEntryS (E : Env) : Prop where
  is : Is E 49 2 laws_szEntryS_ac [(4, none)]
  c_laws_szEntry : G_laws_szEntry E
theorem laws_szEntryS_E {E : Env} (h : G_laws_szEntryS E) (a0 a1 : U) : E 49 [a0, a1] =
 (U.lenOf false a0).bind fun n1 => (U.bin .sub a1 (.int .i64 (n1 : Int))).bind fun t2 => (U.bin .lss t2 (.int .i64 0)).bind fun t3 => U.asBool t3
 (some (.int .i64 (-1)))
 (laws_szEntryS_l0 E a0 t2 (.int .i64 0)) := (h.is _ rfl).trans ((runQ_V rfl).trans (laws_szEntryS_eq E a0 a1))

end Go.Proofs.Ytfdcdbkblkehcaa.Am
namespace Go.Proofs.Ytfdcdbkblkehcaa.Am
open Go
set_option linter.unusedVariables false
set_option maxRecDepth 100000

/- loop.example/g01924/laws.toEntry!F -/
def laws_toEntry_F_ac : AC :=
 (.seq (.region 0 [⟨some 1, .box false 1 (.t 0), none⟩,
  ⟨some 2, .alloc 2 (.agg [(.int .i64 0), (.int .i64 0), (.nsl 2), (.nsl 2)]), none⟩])
 (.seq (.region 0 [⟨some 3, .alloc 3 (.agg [(.int .i64 0), (.int .i64 0), (.nsl 2), (.nsl 2)]), none⟩])
 (.seq (.region 0 [⟨some 4, .faddr 0 0 (.t 1), none⟩,
  ⟨some 5, .load false 1 (.t 4), none⟩,
  ⟨some 6, .faddr 0 0 (.t 3), none⟩,
  ⟨none, .store 1 (.t 6) (.t 5), none⟩])
 (.seq (.region 0 [⟨some 7, .faddr 1 1 (.t 1), none⟩,
  ⟨some 8, .load false 1 (.t 7), none⟩,
  ⟨some 9, .faddr 1 1 (.t 3), none⟩,
  ⟨none, .store 1 (.t 9) (.t 8), none⟩])
 (.seq (.region 0 [⟨some 10, .faddr 2 2 (.t 1), none⟩,
  ⟨some 11, .load false 1 (.t 10), none⟩,
  ⟨some 12, .callF 12 false [(.sl 2)] 28 [(.t 11)], none⟩,
  ⟨some 13, .faddr 2 2 (.t 3), none⟩,
  ⟨none, .storeM 3000 1 (.t 13) (.t 12), none⟩])
 (.seq (.region 0 [⟨some 14, .faddr 3 3 (.t 1), none⟩,
  ⟨some 15, .load false 1 (.t 14), none⟩,
  ⟨some 16, .callF 16 false [(.sl 2)] 27 [(.t 15)], none⟩,
  ⟨some 17, .faddr 3 3 (.t 3), none⟩,
  ⟨none, .storeM 3002 1 (.t 17) (.t 16), none⟩])
 (.seq (.region 0 [⟨some 18, .loadO (.agg [.int, .int, (.sl 2), (.sl 2)]) (.t 3), none⟩,
  ⟨none, .storeM 3001 4 (.t 2) (.t 18), none⟩])
 .ret)))))))

theorem laws_toEntry_F_eq (E : Env) (a0 : U) : exec E laws_toEntry_F_ac (start [a0]) (finishF [(2, some (true, 4))]) =
 U.noTup a0 fun x1 => U.asAgg x1 fun us2 => if 0 = sizes (us2.take 0) then (us2[0]?).bind fun e3 => U.asVar false 1 e3 fun e4 => if storable (.val e4) = true ∧ e4.size = 1 then U.asAgg x1 fun us5 => if 1 = sizes (us5.take 1) then (us5[1]?).bind fun e6 => U.asVar false 1 e6 fun e7 => if storable (.val e7) = true ∧ e7.size = 1 then if 1 = sizes [e4] then U.asAgg x1 fun us8 => if 2 = sizes (us8.take 2) then (us8[2]?).bind fun e9 => U.asVar false 1 e9 fun e10 => (E 100028 [e10]).bind fun t11 => U.noTup t11 fun x12 => U.asSlK 2 x12 fun us13 => if 2 = sizes [e4, e7] then if 2 = sizes [e4, e7] then if 2 = dsizes [.val e4, .val e7] then U.asAgg x1 fun us14 => if 3 = sizes (us14.take 3) then (us14[3]?).bind fun e15 => U.asVar false 1 e15 fun e16 => (E 100027 [e16]).bind fun t17 => U.noTup t17 fun x18 => U.asSlK 2 x18 fun us19 => if 3 = dsizes [.val e4, .val e7, .own (.sl 2 us13)] then if 3 = dsizes [.val e4, .val e7, .own (.sl 2 us13)] then if 3 = dsizes [.val e4, .val e7, .own (.sl 2 us13)] then U.asInt e4 fun n20 => U.asInt e7 fun n21 => if 2 = dsizes [.val e4, .val e7] then if 2 = dsizes [.val e4, .val e7] then if 3 = dsizes [.val e4, .val e7, .junk 1] then if 3 = dsizes [.val e4, .val e7, .junk 1] then some (.agg [(.int .i64 n20), (.int .i64 n21), (.sl 2 us13), (.sl 2 us19)]) else none else none else none else none else none else none else none else none else none else none else none else none else none else none else none else none else none := by kernel_rfl

/-- In the environment E: this function and those that it calls. -/
structure G_laws_toEntry_F (E : Env) : Prop where
  is : Is E 100051 1 laws_toEntry_F_ac [(2, some (true, 4))]
  c_laws_toReadMarkS_F : G_laws_toReadMarkS_F E
  c_laws_toWriteS_F : G_laws_toWriteS_F E
theorem laws_toEntry_F_E {E : Env} (h : G_laws_toEntry_F E) (a0 : U) : E 100051 [a0] =
 U.noTup a0 fun x1 => U.asAgg x1 fun us2 => if 0 = sizes (us2.take 0) then (us2[0]?).bind fun e3 => U.asVar false 1 e3 fun e4 => if storable (.val e4) = true ∧ e4.size = 1 then U.asAgg x1 fun us5 => if 1 = sizes (us5.take 1) then (us5[1]?).bind fun e6 => U.asVar false 1 e6 fun e7 => if storable (.val e7) = true ∧ e7.size = 1 then if 1 = sizes [e4] then U.asAgg x1 fun us8 => if 2 = sizes (us8.take 2) then (us8[2]?).bind fun e9 => U.asVar false 1 e9 fun e10 => (E 100028 [e10]).bind fun t11 => U.noTup t11 fun x12 => U.asSlK 2 x12 fun us13 => if 2 = sizes [e4, e7] then if 2 = sizes [e4, e7] then if 2 = dsizes [.val e4, .val e7] then U.asAgg x1 fun us14 => if 3 = sizes (us14.take 3) then (us14[3]?).bind fun e15 => U.asVar false 1 e15 fun e16 => (E 100027 [e16]).bind fun t17 => U.noTup t17 fun x18 => U.asSlK 2 x18 fun us19 => if 3 = dsizes [.val e4, .val e7, .own (.sl 2 us13)] then if 3 = dsizes [.val e4, .val e7, .own (.sl 2 us13)] then if 3 = dsizes [.val e4, .val e7, .own (.sl 2 us13)] then U.asInt e4 fun n20 => U.asInt e7 fun n21 => if 2 = dsizes [.val e4, .val e7] then if 2 = dsizes [.val e4, .val e7] then if 3 = dsizes [.val e4, .val e7, .junk 1] then if 3 = dsizes [.val e4, .val e7, .junk 1] then some (.agg [(.int .i64 n20), (.int .i64 n21), (.sl 2 us13), (.sl 2 us19)]) else none else none else none else none else none else none else none else none else none else none else none else none else none else none else none else none else none := (h.is _ rfl).trans ((runQ_F rfl).trans (laws_toEntry_F_eq E a0))

end Go.Proofs.Ytfdcdbkblkehcaa.Am
namespace Go.Proofs.Ytfdcdbkblkehcaa.Am
open Go
set_option linter.unusedVariables false
set_option maxRecDepth 100000

/- loop.example/g01924/laws.toEntryS!F -/
def laws_toEntryS_F_b0 : AC :=
 (.seq (.seq (.region 0 [⟨some 8, .mv (.t 4), none⟩,
  ⟨some 9, .mv (.t 0), none⟩,
  ⟨some 10, .len false (.t 9), none⟩,
  ⟨some 11, .bin .lss (.t 8) (.t 10), none⟩])
 (.cond (.t 11) .skip (.exit 0)))
 (.seq (.block 1 (.region 0 [⟨some 14, .mv (.t 3), none⟩,
  ⟨some 15, .mv (.t 4), none⟩,
  ⟨some 16, .mv (.t 0), none⟩,
  ⟨some 17, .mv (.t 4), none⟩,
  ⟨some 18, .iaddr 4 (.t 16) (.t 17), none⟩,
  ⟨some 19, .load true 4 (.t 18), none⟩,
  ⟨some 20, .callF 20 false [(.agg [.int, .int, (.sl 2), (.sl 2)])] 51 [(.t 19)], none⟩,
  ⟨some 21, .iaddr 4 (.t 14) (.t 15), none⟩,
  ⟨none, .storeE 4 (.t 21) (.t 20), none⟩]))
 (.region 0 [⟨some 12, .mv (.t 4), none⟩,
  ⟨some 13, .bin .add (.t 12) (.c (.int .i64 1)), none⟩,
  ⟨some 4, .mv (.t 13), none⟩])))
def laws_toEntryS_F_r0 : AC :=
 (.seq (.region 0 [⟨some 22, .mv (.t 3), none⟩,
  ⟨some 2, .mv (.t 22), none⟩])
 .ret)
def laws_toEntryS_F_ac : AC :=
 (.seq (.region 0 [⟨some 2, .mv (.c (.nsl 4)), none⟩])
 (.seq (.region 0 [⟨some 5, .mv (.t 0), none⟩,
  ⟨some 6, .len false (.t 5), none⟩,
  ⟨some 7, .mkslice 7 4 64 (.agg [(.int .i64 0), (.int .i64 0), (.nsl 2), (.nsl 2)]) (.t 6) (.t 6), none⟩,
  ⟨some 3, .mv (.t 7), none⟩])
 (.seq (.seq (.region 0 [⟨some 4, .mv (.c (.int .i64 0)), none⟩])
 (.block 0 (.loop ⟨[0, 4], [(3, 4, true)], []⟩ laws_toEntryS_F_b0)))
 laws_toEntryS_F_r0)))
noncomputable def laws_toEntryS_F_l0 (E : Env) (x0 : U) (x4 : U) (c3 : List U) : Option U := loopK (roundOf E ⟨[0, 4], [(3, 4, true)], []⟩ laws_toEntryS_F_b0 (blockK 0 (seqK (fun s => exec E laws_toEntryS_F_r0 s (finishF [(2, none)])) (finishF [(2, none)])))) ([.val x0, .val x4], [.vir (.own (.sl 4 c3))])
theorem laws_toEntryS_F_eq (E : Env) (a0 : U) : exec E laws_toEntryS_F_ac (start [a0]) (finishF [(2, none)]) =
 (U.lenOf false a0).bind fun n1 => if 0 ≤ (n1 : Int) ∧ (n1 : Int) ≤ (n1 : Int) ∧ (n1 : Int) * 64 ≤ 140737488355328 ∧ ((.agg [(.int .i64 0), (.int .i64 0), (.nsl 2), (.nsl 2)]) : U).size = 4 then if U.flat.flats (List.replicate ((n1 : Int) : Int).toNat (.agg [(.int .i64 0), (.int .i64 0), (.nsl 2), (.nsl 2)])) = true then laws_toEntryS_F_l0 E a0 (.int .i64 0) (List.replicate ((n1 : Int) : Int).toNat (.agg [(.int .i64 0), (.int .i64 0), (.nsl 2), (.nsl 2)])) else none else none := by kernel_rfl
theorem laws_toEntryS_F_l0_eq (E : Env) (x0 : U) (x4 : U) (c3 : List U) : laws_toEntryS_F_l0 E x0 x4 c3 =
 (U.lenOf false x0).bind fun n2 => (U.bin .lss x4 (.int .i64 (n2 : Int))).bind fun t3 => U.asBool t3
 (U.asInt x4 fun n4 => U.elemAt 4 x0 n4 fun e5 => U.asVar true 4 e5 fun e6 => (E 100051 [e6]).bind fun t7 => U.noTup t7 fun x8 => U.asAgg x8 fun us9 => (match us9 with
 | u10 :: us11 => (U.asInt u10 fun n12 => (match us11 with
 | u13 :: us14 => (U.asInt u13 fun n15 => (match us14 with
 | u16 :: us17 => (U.asSlK 2 u16 fun us18 => (match us17 with
 | u19 :: us20 => (U.asSlK 2 u19 fun us21 => (match us20 with
 | [] => (U.asInt x4 fun n22 => if 4 = 4 ∧ 0 ≤ n22 ∧ n22 < (c3.length : Int) then (c3[(n22 : Int).toNat]?).bind fun e23 => if e23.size = 4 then (U.bin .add x4 (.int .i64 1)).bind fun t24 => laws_toEntryS_F_l0 E x0 t24 (c3.set (n22 : Int).toNat (.agg [(.int .i64 n12), (.int .i64 n15), (.sl 2 us18), (.sl 2 us21)])) else none else none)
 | _ => none))
 | [] => none))
 | [] => none))
 | [] => none))
 | [] => none))
 (some (.sl 4 c3)) :=
 (loop_eq E _ _ _ _).trans (by kernel_rfl)

/-- In the environment E: this function and those that it calls. -/
structure G_laws_toEntryS_F (E : Env) : Prop where
  is : Is E 100045 1 laws_toEntryS_F_ac [(2, none)]
  c_laws_toEntry_F : G_laws_toEntry_F E
theorem laws_toEntryS_F_E {E : Env} (h : G_laws_toEntryS_F E) (a0 : U) : E 100045 [a0] =
 (U.lenOf false a0).bind fun n1 => if 0 ≤ (n1 : Int) ∧ (n1 : Int) ≤ (n1 : Int) ∧ (n1 : Int) * 64 ≤ 140737488355328 ∧ ((.agg [(.int .i64 0), (.int .i64 0), (.nsl 2), (.nsl 2)]) : U).size = 4 then if U.flat.flats (List.replicate ((n1 : Int) : Int).toNat (.agg [(.int .i64 0), (.int .i64 0), (.nsl 2), (.nsl 2)])) = true then laws_toEntryS_F_l0 E a0 (.int .i64 0) (List.replicate ((n1 : Int) : Int).toNat (.agg [(.int .i64 0), (.int .i64 0), (.nsl 2), (.nsl 2)])) else none else none := (h.is _ rfl).trans ((runQ_F rfl).trans (laws_toEntryS_F_eq E a0))

end Go.Proofs.Ytfdcdbkblkehcaa.Am
namespace Go.Proofs.Ytfdcdbkblkehcaa.Am
open Go
set_option linter.unusedVariables false
set_option maxRecDepth 100000

/- loop.example/g01924/laws.markEntryS!M -/
def laws_markEntryS_M_b0 : AC :=
 (.seq (.seq (.region 0 [⟨some 6, .mv (.t 5), none⟩,
  ⟨some 7, .mv (.t 0), none⟩,
  ⟨some 8, .len false (.t 7), none⟩,
  ⟨some 9, .bin .lss (.t 6) (.t 8), none⟩])
 (.cond (.t 9) .skip (.exit 0)))
 (.seq (.block 1 (.seq (.region 0 [⟨some 12, .mv (.t 0), none⟩,
  ⟨some 13, .mv (.t 5), none⟩,
  ⟨some 14, .mv (.t 1), none⟩,
  ⟨some 15, .iaddr 4 (.t 12) (.t 13), none⟩,
  ⟨some 16, .faddr 0 0 (.t 15), none⟩,
  ⟨none, .store 1 (.t 16) (.t 14), none⟩])
 (.seq (.region 0 [⟨some 17, .mv (.t 1), none⟩,
  ⟨some 18, .bin .add (.t 17) (.c (.int .i64 1)), none⟩,
  ⟨some 1, .mv (.t 18), none⟩])
 (.seq (.region 0 [⟨some 19, .mv (.t 0), none⟩,
  ⟨some 20, .mv (.t 5), none⟩,
  ⟨some 21, .mv (.t 1), none⟩,
  ⟨some 22, .iaddr 4 (.t 19) (.t 20), none⟩,
  ⟨some 23, .faddr 1 1 (.t 22), none⟩,
  ⟨none, .store 1 (.t 23) (.t 21), none⟩])
 (.seq (.region 0 [⟨some 24, .mv (.t 1), none⟩,
  ⟨some 25, .bin .add (.t 24) (.c (.int .i64 1)), none⟩,
  ⟨some 1, .mv (.t 25), none⟩])
 (.seq (.region 0 [⟨some 26, .mv (.t 0), none⟩,
  ⟨some 27, .mv (.t 5), none⟩,
  ⟨some 28, .iaddr 4 (.t 26) (.t 27), none⟩,
  ⟨some 29, .faddr 2 2 (.t 28), none⟩,
  ⟨some 30, .loadO (.sl 2) (.t 29), none⟩,
  ⟨some 31, .mv (.t 1), none⟩,
  ⟨some 32, .callM 2 95 (.t 30) [(.t 31)], none⟩,
  ⟨some 1, .mv (.t 32), none⟩])
 (.region 0 [⟨some 33, .mv (.t 0), none⟩,
  ⟨some 34, .mv (.t 5), none⟩,
  ⟨some 35, .iaddr 4 (.t 33) (.t 34), none⟩,
  ⟨some 36, .faddr 3 3 (.t 35), none⟩,
  ⟨some 37, .loadO (.sl 2) (.t 36), none⟩,
  ⟨some 38, .mv (.t 1), none⟩,
  ⟨some 39, .callM 2 232 (.t 37) [(.t 38)], none⟩,
  ⟨some 1, .mv (.t 39), none⟩])))))))
 (.region 0 [⟨some 10, .mv (.t 5), none⟩,
  ⟨some 11, .bin .add (.t 10) (.c (.int .i64 1)), none⟩,
  ⟨some 5, .mv (.t 11), none⟩])))
def laws_markEntryS_M_r0 : AC :=
 (.seq (.region 0 [⟨some 40, .mv (.t 1), none⟩,
  ⟨some 4, .mv (.t 40), none⟩])
 .ret)
def laws_markEntryS_M_ac : AC :=
 (.seq (.region 0 [⟨some 4, .mv (.c (.int .i64 0)), none⟩])
 (.seq (.seq (.region 0 [⟨some 5, .mv (.c (.int .i64 0)), none⟩])
 (.block 0 (.loop ⟨[0, 1, 5], [], [(5000, true)]⟩ laws_markEntryS_M_b0)))
 laws_markEntryS_M_r0))
noncomputable def laws_markEntryS_M_l0 (E : Env) (x1 : U) (x5 : U) (b5000 : List U) : Option U := loopK (roundOf E ⟨[0, 1, 5], [], [(5000, true)]⟩ laws_markEntryS_M_b0 (blockK 0 (seqK (fun s => exec E laws_markEntryS_M_r0 s (finishM 4 [(4, none)])) (finishM 4 [(4, none)])))) ([.ref 5000 [] 4 none, .val x1, .val x5], [.vir (.own (.sl 4 b5000))])
theorem laws_markEntryS_M_eq (E : Env) (xs0 : List U) (a1 : U) : exec E laws_markEntryS_M_ac (startM 4 xs0 [a1]) (finishM 4 [(4, none)]) =
 laws_markEntryS_M_l0 E a1 (.int .i64 0) xs0 := by kernel_rfl
theorem laws_markEntryS_M_l0_eq (E : Env) (x1 : U) (x5 : U) (b5000 : List U) : laws_markEntryS_M_l0 E x1 x5 b5000 =
 (U.bin .lss x5 (.int .i64 (b5000.length : Int))).bind fun t1 => U.asBool t1
 (U.asInt x5 fun n2 => if 4 = 4 ∧ 0 ≤ n2 ∧ n2 < (b5000.length : Int) then if storable (.val x1) = true ∧ x1.size = 1 then (b5000[(n2 : Int).toNat]?).bind fun e3 => U.asAgg e3 fun us4 => if 0 = sizes (us4.take 0) then (us4[0]?).bind fun e5 => if e5.size = 1 then if (x1 : U).flat = true then (U.bin .add x1 (.int .i64 1)).bind fun t6 => U.asInt x5 fun n7 => if 4 = 4 ∧ 0 ≤ n7 ∧ n7 < (((b5000.set (n2 : Int).toNat (.agg (us4.set 0 x1)))).length : Int) then if storable (.val t6) = true ∧ t6.size = 1 then ((b5000.set (n2 : Int).toNat (.agg (us4.set 0 x1)))[(n7 : Int).toNat]?).bind fun e8 => U.asAgg e8 fun us9 => if 1 = sizes (us9.take 1) then (us9[1]?).bind fun e10 => if e10.size = 1 then if (t6 : U).flat = true then (U.bin .add t6 (.int .i64 1)).bind fun t11 => U.asInt x5 fun n12 => if 4 = 4 ∧ 0 ≤ n12 ∧ n12 < ((((b5000.set (n2 : Int).toNat (.agg (us4.set 0 x1))).set (n7 : Int).toNat (.agg (us9.set 1 t6)))).length : Int) then (((b5000.set (n2 : Int).toNat (.agg (us4.set 0 x1))).set (n7 : Int).toNat (.agg (us9.set 1 t6)))[(n12 : Int).toNat]?).bind fun e13 => U.asAgg e13 fun us14 => if 2 = sizes (us14.take 2) then (us14[2]?).bind fun e15 => U.asSlK 2 e15 fun _ => (((b5000.set (n2 : Int).toNat (.agg (us4.set 0 x1))).set (n7 : Int).toNat (.agg (us9.set 1 t6)))[(n12 : Int).toNat]?).bind fun e16 => U.asAgg e16 fun us17 => if 2 = sizes (us17.take 2) then (us17[2]?).bind fun e18 => U.asSlK 2 e18 fun _ => U.asSlK 2 e18 fun us19 => (E 200095 (.agg [.tup [.sl 2 us19]] :: [t11])).bind fun t20 => U.asMut 2 t20 fun y21 ys22 => U.asFlat y21 fun y21 => (((b5000.set (n2 : Int).toNat (.agg (us4.set 0 x1))).set (n7 : Int).toNat (.agg (us9.set 1 t6)))[(n12 : Int).toNat]?).bind fun e23 => U.asAgg e23 fun us24 => if 2 = sizes (us24.take 2) then (us24[2]?).bind fun e25 => if e25.size = 1 then U.asInt x5 fun n26 => if 4 = 4 ∧ 0 ≤ n26 ∧ n26 < (((((b5000.set (n2 : Int).toNat (.agg (us4.set 0 x1))).set (n7 : Int).toNat (.agg (us9.set 1 t6))).set (n12 : Int).toNat (.agg (us24.set 2 (.sl 2 ys22))))).length : Int) then ((((b5000.set (n2 : Int).toNat (.agg (us4.set 0 x1))).set (n7 : Int).toNat (.agg (us9.set 1 t6))).set (n12 : Int).toNat (.agg (us24.set 2 (.sl 2 ys22))))[(n26 : Int).toNat]?).bind fun e27 => U.asAgg e27 fun us28 => if 3 = sizes (us28.take 3) then (us28[3]?).bind fun e29 => U.asSlK 2 e29 fun _ => ((((b5000.set (n2 : Int).toNat (.agg (us4.set 0 x1))).set (n7 : Int).toNat (.agg (us9.set 1 t6))).set (n12 : Int).toNat (.agg (us24.set 2 (.sl 2 ys22))))[(n26 : Int).toNat]?).bind fun e30 => U.asAgg e30 fun us31 => if 3 = sizes (us31.take 3) then (us31[3]?).bind fun e32 => U.asSlK 2 e32 fun _ => U.asSlK 2 e32 fun us33 => (E 200232 (.agg [.tup [.sl 2 us33]] :: [y21])).bind fun t34 => U.asMut 2 t34 fun y35 ys36 => U.asFlat y35 fun y35 => ((((b5000.set (n2 : Int).toNat (.agg (us4.set 0 x1))).set (n7 : Int).toNat (.agg (us9.set 1 t6))).set (n12 : Int).toNat (.agg (us24.set 2 (.sl 2 ys22))))[(n26 : Int).toNat]?).bind fun e37 => U.asAgg e37 fun us38 => if 3 = sizes (us38.take 3) then (us38[3]?).bind fun e39 => if e39.size = 1 then (U.bin .add x5 (.int .i64 1)).bind fun t40 => laws_markEntryS_M_l0 E y35 t40 ((((b5000.set (n2 : Int).toNat (.agg (us4.set 0 x1))).set (n7 : Int).toNat (.agg (us9.set 1 t6))).set (n12 : Int).toNat (.agg (us24.set 2 (.sl 2 ys22)))).set (n26 : Int).toNat (.agg (us38.set 3 (.sl 2 ys36)))) else none else none else none else none else none else none else none else none else none else none else none else none else none else none else none else none else none else none else none else none)
 (if (x1 : U).flat = true then some (.tup [x1, .sl 4 b5000]) else none) :=
 (loop_eq E _ _ _ _).trans (by kernel_rfl)

/-- In the environment E: this function and those that it calls. -/
structure G_laws_markEntryS_M (E : Env) : Prop where
  is : Is E 200287 2 laws_markEntryS_M_ac [(4, none)]
  c_laws_markReadMarkS_M : G_laws_markReadMarkS_M E
  c_laws_markWriteS_M : G_laws_markWriteS_M E
theorem laws_markEntryS_M_E {E : Env} (h : G_laws_markEntryS_M E) (xs0 : List U) (a1 : U) : E 200287 (.agg [.tup [.sl 4 xs0]] :: [a1]) =
 laws_markEntryS_M_l0 E a1 (.int .i64 0) xs0 := (h.is _ rfl).trans ((runQ_M rfl).trans (laws_markEntryS_M_eq E xs0 a1))

end Go.Proofs.Ytfdcdbkblkehcaa.Am
