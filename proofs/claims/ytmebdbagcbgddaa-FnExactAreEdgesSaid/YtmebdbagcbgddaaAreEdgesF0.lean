import Derived.KernelRfl
import Derived.Test.YtmebdbagcbgddaaAmW
namespace Go.Proofs.Ytmebdbagcbgddaa.Am
open Go
set_option linter.unusedVariables false
set_option maxRecDepth 100000

/- loop.example/g01924/laws.szEdgeS -/
def laws_szEdgeS_ac : AC :=
 (.seq (.region 0 [⟨some 4, .mv (.c (.int .i64 0)), none⟩])
 (.seq (.region 0 [⟨some 5, .mv (.t 1), none⟩,
  ⟨some 6, .mv (.t 0), none⟩,
  ⟨some 7, .len false (.t 6), none⟩,
  ⟨some 8, .bin .sub (.t 5) (.t 7), none⟩,
  ⟨some 1, .mv (.t 8), none⟩])
 (.seq (.seq (.region 0 [⟨some 9, .mv (.t 1), none⟩,
  ⟨some 10, .bin .lss (.t 9) (.c (.int .i64 0)), none⟩])
 (.cond (.t 10) (.seq (.region 0 [⟨some 4, .mv (.c (.int .i64 (-1))), none⟩])
 .ret) .skip))
 (.seq (.region 0 [⟨some 11, .mv (.t 1), none⟩,
  ⟨some 4, .mv (.t 11), none⟩])
 .ret))))

theorem laws_szEdgeS_eq (E : Env) (a0 : U) (a1 : U) : run E laws_szEdgeS_ac [(4, none)] [a0, a1] =
 (U.lenOf false a0).bind fun n1 => (U.bin .sub a1 (.int .i64 (n1 : Int))).bind fun t2 => (U.bin .lss t2 (.int .i64 0)).bind fun t3 => U.asBool t3
 (some (.int .i64 (-1)))
 (some t2) := by kernel_rfl

/-- In the environment E: this function and those that it calls. -/
structure G_laws_szEdgeS (E : Env) : Prop where
  is : Is E 5 2 laws_szEdgeS_ac [(4, none)]
theorem laws_szEdgeS_E {E : Env} (h : G_laws_szEdgeS E) (a0 a1 : U) : E 5 [a0, a1] =
 (U.lenOf false a0).bind fun n1 => (U.bin .sub a1 (.int .i64 (n1 : Int))).bind fun t2 => (U.bin .lss t2 (.int .i64 0)).bind fun t3 => U.asBool t3
 (some (.int .i64 (-1)))
 (some t2) := (h.is _ rfl).trans (laws_szEdgeS_eq E a0 a1)

end Go.Proofs.Ytmebdbagcbgddaa.Am
namespace Go.Proofs.Ytmebdbagcbgddaa.Am
open Go
set_option linter.unusedVariables false
set_option maxRecDepth 100000

/- loop.example/g01924/spec.l1In -/
def spec_l1In_ac : AC :=
 (.seq (.region 0 [⟨some 6, .mv (.c (.bool false)), none⟩])
 (.seq (.region 0 [⟨some 7, .mv (.t 0), none⟩,
  ⟨some 8, .mv (.t 1), none⟩,
  ⟨some 9, .bin .geq (.t 7) (.t 8), none⟩,
  ⟨some 10, .mv (.t 9), none⟩,
  ⟨some 11, .mv (.t 0), some (10, true)⟩,
  ⟨some 12, .mv (.t 2), some (10, true)⟩,
  ⟨some 13, .bin .leq (.t 11) (.t 12), some (10, true)⟩,
  ⟨some 14, .pick (.t 10) (.t 13) (.c (.bool false)), none⟩,
  ⟨some 6, .mv (.t 14), none⟩])
 .ret))

theorem spec_l1In_eq (E : Env) (a0 : U) (a1 : U) (a2 : U) : run E spec_l1In_ac [(6, none)] [a0, a1, a2] =
 (U.bin .geq a0 a1).bind fun t1 => U.asBool t1
 ((U.bin .leq a0 a2).bind fun t2 => some t2)
 (some (.bool false)) := by kernel_rfl

/-- In the environment E: this function and those that it calls. -/
structure G_spec_l1In (E : Env) : Prop where
  is : Is E 6 3 spec_l1In_ac [(6, none)]
theorem spec_l1In_E {E : Env} (h : G_spec_l1In E) (a0 a1 a2 : U) : E 6 [a0, a1, a2] =
 (U.bin .geq a0 a1).bind fun t1 => U.asBool t1
 ((U.bin .leq a0 a2).bind fun t2 => some t2)
 (some (.bool false)) := (h.is _ rfl).trans (spec_l1In_eq E a0 a1 a2)

end Go.Proofs.Ytmebdbagcbgddaa.Am
namespace Go.Proofs.Ytmebdbagcbgddaa.Am
open Go
set_option linter.unusedVariables false
set_option maxRecDepth 100000

/- loop.example/g01924/spec.l19Less -/
def spec_l19Less_ac : AC :=
 (.seq (.region 0 [⟨some 2, .box false (.t 0), none⟩,
  ⟨some 3, .box false (.t 1), none⟩,
  ⟨some 4, .mv (.c (.bool false)), none⟩])
 (.seq (.seq (.region 0 [⟨some 5, .faddr 0 0 (.t 2), none⟩,
  ⟨some 6, .load false 1 (.t 5), none⟩,
  ⟨some 7, .faddr 0 0 (.t 3), none⟩,
  ⟨some 8, .load false 1 (.t 7), none⟩,
  ⟨some 9, .bin .neq (.t 6) (.t 8), none⟩])
 (.cond (.t 9) (.seq (.region 0 [⟨some 10, .faddr 0 0 (.t 2), none⟩,
  ⟨some 11, .load false 1 (.t 10), none⟩,
  ⟨some 12, .faddr 0 0 (.t 3), none⟩,
  ⟨some 13, .load false 1 (.t 12), none⟩,
  ⟨some 14, .bin .lss (.t 11) (.t 13), none⟩,
  ⟨some 4, .mv (.t 14), none⟩])
 .ret) .skip))
 (.seq (.seq (.region 0 [⟨some 15, .faddr 1 1 (.t 2), none⟩,
  ⟨some 16, .load false 1 (.t 15), none⟩,
  ⟨some 17, .faddr 1 1 (.t 3), none⟩,
  ⟨some 18, .load false 1 (.t 17), none⟩,
  ⟨some 19, .bin .neq (.t 16) (.t 18), none⟩])
 (.cond (.t 19) (.seq (.region 0 [⟨some 20, .faddr 1 1 (.t 2), none⟩,
  ⟨some 21, .load false 1 (.t 20), none⟩,
  ⟨some 22, .faddr 1 1 (.t 3), none⟩,
  ⟨some 23, .load false 1 (.t 22), none⟩,
  ⟨some 24, .bin .lss (.t 21) (.t 23), none⟩,
  ⟨some 4, .mv (.t 24), none⟩])
 .ret) .skip))
 (.seq (.seq (.region 0 [⟨some 25, .faddr 2 2 (.t 2), none⟩,
  ⟨some 26, .load false 1 (.t 25), none⟩,
  ⟨some 27, .faddr 2 2 (.t 3), none⟩,
  ⟨some 28, .load false 1 (.t 27), none⟩,
  ⟨some 29, .bin .neq (.t 26) (.t 28), none⟩])
 (.cond (.t 29) (.seq (.region 0 [⟨some 30, .faddr 2 2 (.t 2), none⟩,
  ⟨some 31, .load false 1 (.t 30), none⟩,
  ⟨some 32, .faddr 2 2 (.t 3), none⟩,
  ⟨some 33, .load false 1 (.t 32), none⟩,
  ⟨some 34, .bin .lss (.t 31) (.t 33), none⟩,
  ⟨some 4, .mv (.t 34), none⟩])
 .ret) .skip))
 (.seq (.region 0 [⟨some 35, .faddr 3 3 (.t 2), none⟩,
  ⟨some 36, .load false 1 (.t 35), none⟩,
  ⟨some 37, .faddr 3 3 (.t 3), none⟩,
  ⟨some 38, .load false 1 (.t 37), none⟩,
  ⟨some 39, .bin .lss (.t 36) (.t 38), none⟩,
  ⟨some 4, .mv (.t 39), none⟩])
 .ret)))))

theorem spec_l19Less_eq (E : Env) (a0 : U) (a1 : U) : run E spec_l19Less_ac [(4, none)] [a0, a1] =
 U.noTup a0 fun x1 => U.noTup a1 fun x2 => U.asAgg x1 fun us3 => if 0 = sizes (us3.take 0) then (us3[0]?).bind fun e4 => U.asVar false 1 e4 fun e5 => U.asAgg x2 fun us6 => if 0 = sizes (us6.take 0) then (us6[0]?).bind fun e7 => U.asVar false 1 e7 fun e8 => (U.bin .neq e5 e8).bind fun t9 => U.asBool t9
 (U.asAgg x1 fun us10 => if 0 = sizes (us10.take 0) then (us10[0]?).bind fun e11 => U.asVar false 1 e11 fun e12 => U.asAgg x2 fun us13 => if 0 = sizes (us13.take 0) then (us13[0]?).bind fun e14 => U.asVar false 1 e14 fun e15 => (U.bin .lss e12 e15).bind fun t16 => some t16 else none else none)
 (U.asAgg x1 fun us17 => if 1 = sizes (us17.take 1) then (us17[1]?).bind fun e18 => U.asVar false 1 e18 fun e19 => U.asAgg x2 fun us20 => if 1 = sizes (us20.take 1) then (us20[1]?).bind fun e21 => U.asVar false 1 e21 fun e22 => (U.bin .neq e19 e22).bind fun t23 => U.asBool t23
 (U.asAgg x1 fun us24 => if 1 = sizes (us24.take 1) then (us24[1]?).bind fun e25 => U.asVar false 1 e25 fun e26 => U.asAgg x2 fun us27 => if 1 = sizes (us27.take 1) then (us27[1]?).bind fun e28 => U.asVar false 1 e28 fun e29 => (U.bin .lss e26 e29).bind fun t30 => some t30 else none else none)
 (U.asAgg x1 fun us31 => if 2 = sizes (us31.take 2) then (us31[2]?).bind fun e32 => U.asVar false 1 e32 fun e33 => U.asAgg x2 fun us34 => if 2 = sizes (us34.take 2) then (us34[2]?).bind fun e35 => U.asVar false 1 e35 fun e36 => (U.bin .neq e33 e36).bind fun t37 => U.asBool t37
 (U.asAgg x1 fun us38 => if 2 = sizes (us38.take 2) then (us38[2]?).bind fun e39 => U.asVar false 1 e39 fun e40 => U.asAgg x2 fun us41 => if 2 = sizes (us41.take 2) then (us41[2]?).bind fun e42 => U.asVar false 1 e42 fun e43 => (U.bin .lss e40 e43).bind fun t44 => some t44 else none else none)
 (U.asAgg x1 fun us45 => if 3 = sizes (us45.take 3) then (us45[3]?).bind fun e46 => U.asVar false 1 e46 fun e47 => U.asAgg x2 fun us48 => if 3 = sizes (us48.take 3) then (us48[3]?).bind fun e49 => U.asVar false 1 e49 fun e50 => (U.bin .lss e47 e50).bind fun t51 => some t51 else none else none) else none else none) else none else none) else none else none := by kernel_rfl

/-- In the environment E: this function and those that it calls. -/
structure G_spec_l19Less (E : Env) : Prop where
  is : Is E 7 2 spec_l19Less_ac [(4, none)]
theorem spec_l19Less_E {E : Env} (h : G_spec_l19Less E) (a0 a1 : U) : E 7 [a0, a1] =
 U.noTup a0 fun x1 => U.noTup a1 fun x2 => U.asAgg x1 fun us3 => if 0 = sizes (us3.take 0) then (us3[0]?).bind fun e4 => U.asVar false 1 e4 fun e5 => U.asAgg x2 fun us6 => if 0 = sizes (us6.take 0) then (us6[0]?).bind fun e7 => U.asVar false 1 e7 fun e8 => (U.bin .neq e5 e8).bind fun t9 => U.asBool t9
 (U.asAgg x1 fun us10 => if 0 = sizes (us10.take 0) then (us10[0]?).bind fun e11 => U.asVar false 1 e11 fun e12 => U.asAgg x2 fun us13 => if 0 = sizes (us13.take 0) then (us13[0]?).bind fun e14 => U.asVar false 1 e14 fun e15 => (U.bin .lss e12 e15).bind fun t16 => some t16 else none else none)
 (U.asAgg x1 fun us17 => if 1 = sizes (us17.take 1) then (us17[1]?).bind fun e18 => U.asVar false 1 e18 fun e19 => U.asAgg x2 fun us20 => if 1 = sizes (us20.take 1) then (us20[1]?).bind fun e21 => U.asVar false 1 e21 fun e22 => (U.bin .neq e19 e22).bind fun t23 => U.asBool t23
 (U.asAgg x1 fun us24 => if 1 = sizes (us24.take 1) then (us24[1]?).bind fun e25 => U.asVar false 1 e25 fun e26 => U.asAgg x2 fun us27 => if 1 = sizes (us27.take 1) then (us27[1]?).bind fun e28 => U.asVar false 1 e28 fun e29 => (U.bin .lss e26 e29).bind fun t30 => some t30 else none else none)
 (U.asAgg x1 fun us31 => if 2 = sizes (us31.take 2) then (us31[2]?).bind fun e32 => U.asVar false 1 e32 fun e33 => U.asAgg x2 fun us34 => if 2 = sizes (us34.take 2) then (us34[2]?).bind fun e35 => U.asVar false 1 e35 fun e36 => (U.bin .neq e33 e36).bind fun t37 => U.asBool t37
 (U.asAgg x1 fun us38 => if 2 = sizes (us38.take 2) then (us38[2]?).bind fun e39 => U.asVar false 1 e39 fun e40 => U.asAgg x2 fun us41 => if 2 = sizes (us41.take 2) then (us41[2]?).bind fun e42 => U.asVar false 1 e42 fun e43 => (U.bin .lss e40 e43).bind fun t44 => some t44 else none else none)
 (U.asAgg x1 fun us45 => if 3 = sizes (us45.take 3) then (us45[3]?).bind fun e46 => U.asVar false 1 e46 fun e47 => U.asAgg x2 fun us48 => if 3 = sizes (us48.take 3) then (us48[3]?).bind fun e49 => U.asVar false 1 e49 fun e50 => (U.bin .lss e47 e50).bind fun t51 => some t51 else none else none) else none else none) else none else none) else none else none := (h.is _ rfl).trans (spec_l19Less_eq E a0 a1)

end Go.Proofs.Ytmebdbagcbgddaa.Am
namespace Go.Proofs.Ytmebdbagcbgddaa.Am
open Go
set_option linter.unusedVariables false
set_option maxRecDepth 100000

/- loop.example/g01924/spec.AreEdges -/
def spec_AreEdges_b0 : AC :=
 (.seq (.seq (.region 0 [⟨some 4, .mv (.t 3), none⟩,
  ⟨some 5, .mv (.t 0), none⟩,
  ⟨some 6, .len false (.t 5), none⟩,
  ⟨some 7, .bin .lss (.t 4) (.t 6), none⟩])
 (.cond (.t 7) .skip (.exit 0)))
 (.seq (.block 1 (.seq (.region 64 [⟨some 10, .mv (.t 0), none⟩,
  ⟨some 11, .mv (.t 3), none⟩,
  ⟨some 12, .iaddr 4 (.t 10) (.t 11), none⟩,
  ⟨some 13, .faddr 0 0 (.t 12), none⟩,
  ⟨some 14, .load false 1 (.t 13), none⟩,
  ⟨some 15, .call true 6 [(.t 14), (.c (.int .i64 1)), (.c (.int .i64 9))], none⟩,
  ⟨some 16, .un .not (.t 15), none⟩,
  ⟨some 17, .mv (.t 16), none⟩,
  ⟨some 18, .mv (.t 0), some (17, false)⟩,
  ⟨some 19, .mv (.t 3), some (17, false)⟩,
  ⟨some 20, .iaddr 4 (.t 18) (.t 19), some (17, false)⟩,
  ⟨some 21, .faddr 1 1 (.t 20), some (17, false)⟩,
  ⟨some 22, .load false 1 (.t 21), some (17, false)⟩,
  ⟨some 23, .call true 6 [(.t 22), (.c (.int .i64 1)), (.c (.int .i64 9))], some (17, false)⟩,
  ⟨some 24, .un .not (.t 23), some (17, false)⟩,
  ⟨some 25, .pick (.t 17) (.c (.bool true)) (.t 24), none⟩,
  ⟨some 26, .mv (.t 25), none⟩,
  ⟨some 27, .mv (.t 0), some (26, false)⟩,
  ⟨some 28, .mv (.t 3), some (26, false)⟩,
  ⟨some 29, .iaddr 4 (.t 27) (.t 28), some (26, false)⟩,
  ⟨some 30, .faddr 0 0 (.t 29), some (26, false)⟩,
  ⟨some 31, .load false 1 (.t 30), some (26, false)⟩,
  ⟨some 32, .mv (.t 0), some (26, false)⟩,
  ⟨some 33, .mv (.t 3), some (26, false)⟩,
  ⟨some 34, .iaddr 4 (.t 32) (.t 33), some (26, false)⟩,
  ⟨some 35, .faddr 1 1 (.t 34), some (26, false)⟩,
  ⟨some 36, .load false 1 (.t 35), some (26, false)⟩,
  ⟨some 37, .bin .eql (.t 31) (.t 36), some (26, false)⟩,
  ⟨some 38, .pick (.t 26) (.c (.bool true)) (.t 37), none⟩,
  ⟨some 39, .mv (.t 38), none⟩,
  ⟨some 40, .mv (.t 0), some (39, false)⟩,
  ⟨some 41, .mv (.t 3), some (39, false)⟩,
  ⟨some 42, .iaddr 4 (.t 40) (.t 41), some (39, false)⟩,
  ⟨some 43, .faddr 2 2 (.t 42), some (39, false)⟩,
  ⟨some 44, .load false 1 (.t 43), some (39, false)⟩,
  ⟨some 45, .call true 6 [(.t 44), (.c (.int .i64 1)), (.c (.int .i64 3))], some (39, false)⟩,
  ⟨some 46, .un .not (.t 45), some (39, false)⟩,
  ⟨some 47, .pick (.t 39) (.c (.bool true)) (.t 46), none⟩,
  ⟨some 48, .mv (.t 47), none⟩,
  ⟨some 49, .mv (.t 0), some (48, false)⟩,
  ⟨some 50, .mv (.t 3), some (48, false)⟩,
  ⟨some 51, .iaddr 4 (.t 49) (.t 50), some (48, false)⟩,
  ⟨some 52, .faddr 3 3 (.t 51), some (48, false)⟩,
  ⟨some 53, .load false 1 (.t 52), some (48, false)⟩,
  ⟨some 54, .call true 6 [(.t 53), (.c (.int .i64 0)), (.c (.int .i64 5))], some (48, false)⟩,
  ⟨some 55, .un .not (.t 54), some (48, false)⟩,
  ⟨some 56, .pick (.t 48) (.c (.bool true)) (.t 55), none⟩,
  ⟨some 57, .mv (.t 56), none⟩,
  ⟨some 58, .mv (.t 3), some (57, false)⟩,
  ⟨some 59, .bin .gtr (.t 58) (.c (.int .i64 0)), some (57, false)⟩,
  ⟨some 60, .mv (.t 59), some (57, false)⟩,
  ⟨some 61, .mv (.t 0), some (60, true)⟩,
  ⟨some 62, .mv (.t 3), some (60, true)⟩,
  ⟨some 63, .bin .sub (.t 62) (.c (.int .i64 1)), some (60, true)⟩,
  ⟨some 64, .iaddr 4 (.t 61) (.t 63), some (60, true)⟩,
  ⟨some 65, .load true 4 (.t 64), some (60, true)⟩,
  ⟨some 66, .mv (.t 0), some (60, true)⟩,
  ⟨some 67, .mv (.t 3), some (60, true)⟩,
  ⟨some 68, .iaddr 4 (.t 66) (.t 67), some (60, true)⟩,
  ⟨some 69, .load true 4 (.t 68), some (60, true)⟩,
  ⟨some 70, .call true 7 [(.t 65), (.t 69)], some (60, true)⟩,
  ⟨some 71, .un .not (.t 70), some (60, true)⟩,
  ⟨some 72, .pick (.t 60) (.t 71) (.c (.bool false)), some (57, false)⟩,
  ⟨some 73, .pick (.t 57) (.c (.bool true)) (.t 72), none⟩])
 (.cond (.t 73) (.seq (.region 0 [⟨some 2, .mv (.c (.bool false)), none⟩])
 .ret) .skip)))
 (.region 0 [⟨some 8, .mv (.t 3), none⟩,
  ⟨some 9, .bin .add (.t 8) (.c (.int .i64 1)), none⟩,
  ⟨some 3, .mv (.t 9), none⟩])))
def spec_AreEdges_r0 : AC :=
 (.seq (.region 0 [⟨some 2, .mv (.c (.bool true)), none⟩])
 .ret)
def spec_AreEdges_ac : AC :=
 (.seq (.region 0 [⟨some 2, .mv (.c (.bool false)), none⟩])
 (.seq (.seq (.region 0 [⟨some 3, .mv (.c (.int .i64 0)), none⟩])
 (.block 0 (.loop ⟨[0, 3], [], []⟩ spec_AreEdges_b0)))
 spec_AreEdges_r0))
noncomputable def spec_AreEdges_l0 (E : Env) (x0 : U) (x3 : U) : Option U := loopK (roundOf E ⟨[0, 3], [], []⟩ spec_AreEdges_b0 (blockK 0 (seqK (fun s => exec E spec_AreEdges_r0 s (finish [(2, none)])) (finish [(2, none)])))) ([.val x0, .val x3], [])
theorem spec_AreEdges_eq (E : Env) (a0 : U) : run E spec_AreEdges_ac [(2, none)] [a0] =
 spec_AreEdges_l0 E a0 (.int .i64 0) := by kernel_rfl
theorem spec_AreEdges_l0_eq (E : Env) (x0 : U) (x3 : U) : spec_AreEdges_l0 E x0 x3 =
 (U.lenOf false x0).bind fun n1 => (U.bin .lss x3 (.int .i64 (n1 : Int))).bind fun t2 => U.asBool t2
 (U.asInt x3 fun n3 => U.elemAt 4 x0 n3 fun e4 => U.fieldAt 0 0 e4 fun f5 => U.asVar false 1 f5 fun e6 => (E 6 [e6, (.int .i64 1), (.int .i64 9)]).bind fun t7 => U.asFlat t7 fun t8 => (U.un .not t8).bind fun t9 => U.asBool t9
 (some (.bool false))
 (U.asInt x3 fun n10 => U.elemAt 4 x0 n10 fun e11 => U.fieldAt 1 1 e11 fun f12 => U.asVar false 1 f12 fun e13 => (E 6 [e13, (.int .i64 1), (.int .i64 9)]).bind fun t14 => U.asFlat t14 fun t15 => (U.un .not t15).bind fun t16 => U.asBool t16
 (some (.bool false))
 (U.asInt x3 fun n17 => U.elemAt 4 x0 n17 fun e18 => U.fieldAt 0 0 e18 fun f19 => U.asVar false 1 f19 fun e20 => U.asInt x3 fun n21 => U.elemAt 4 x0 n21 fun e22 => U.fieldAt 1 1 e22 fun f23 => U.asVar false 1 f23 fun e24 => (U.bin .eql e20 e24).bind fun t25 => U.asBool t25
 (some (.bool false))
 (U.asInt x3 fun n26 => U.elemAt 4 x0 n26 fun e27 => U.fieldAt 2 2 e27 fun f28 => U.asVar false 1 f28 fun e29 => (E 6 [e29, (.int .i64 1), (.int .i64 3)]).bind fun t30 => U.asFlat t30 fun t31 => (U.un .not t31).bind fun t32 => U.asBool t32
 (some (.bool false))
 (U.asInt x3 fun n33 => U.elemAt 4 x0 n33 fun e34 => U.fieldAt 3 3 e34 fun f35 => U.asVar false 1 f35 fun e36 => (E 6 [e36, (.int .i64 0), (.int .i64 5)]).bind fun t37 => U.asFlat t37 fun t38 => (U.un .not t38).bind fun t39 => U.asBool t39
 (some (.bool false))
 ((U.bin .gtr x3 (.int .i64 0)).bind fun t40 => U.asBool t40
 ((U.bin .sub x3 (.int .i64 1)).bind fun t41 => U.asInt t41 fun n42 => U.elemAt 4 x0 n42 fun e43 => U.asVar true 4 e43 fun e44 => U.asInt x3 fun n45 => U.elemAt 4 x0 n45 fun e46 => U.asVar true 4 e46 fun e47 => (E 7 [e44, e47]).bind fun t48 => U.asFlat t48 fun t49 => (U.un .not t49).bind fun t50 => U.asBool t50
 (some (.bool false))
 ((U.bin .add x3 (.int .i64 1)).bind fun t51 => spec_AreEdges_l0 E x0 t51))
 ((U.bin .add x3 (.int .i64 1)).bind fun t52 => spec_AreEdges_l0 E x0 t52)))))))
 (some (.bool true)) :=
 (loop_eq E _ _ _ _).trans (by kernel_rfl)

/-- In the environment E: this function and those that it calls. -/
structure G_spec_AreEdges (E : Env) : Prop where
  is : Is E 4 1 spec_AreEdges_ac [(2, none)]
  c_spec_l1In : G_spec_l1In E
  c_spec_l19Less : G_spec_l19Less E
theorem spec_AreEdges_E {E : Env} (h : G_spec_AreEdges E) (a0 : U) : E 4 [a0] =
 spec_AreEdges_l0 E a0 (.int .i64 0) := (h.is _ rfl).trans (spec_AreEdges_eq E a0)

end Go.Proofs.Ytmebdbagcbgddaa.Am
namespace Go.Proofs.Ytmebdbagcbgddaa.Am
open Go
set_option linter.unusedVariables false
set_option maxRecDepth 100000

/- loop.example/g01924/laws.toEdge -/
def laws_toEdge_ac : AC :=
 (.seq (.region 0 [⟨some 1, .box false (.t 0), none⟩,
  ⟨some 2, .alloc (.agg [(.int .i64 0), (.int .i64 0), (.int .i64 0), (.int .i64 0)]), none⟩])
 (.seq (.region 0 [⟨some 3, .alloc (.agg [(.int .i64 0), (.int .i64 0), (.int .i64 0), (.int .i64 0)]), none⟩])
 (.seq (.region 0 [⟨some 4, .faddr 0 0 (.t 1), none⟩,
  ⟨some 5, .load false 1 (.t 4), none⟩,
  ⟨some 6, .faddr 0 0 (.t 3), none⟩,
  ⟨none, .store 1 (.t 6) (.t 5), none⟩])
 (.seq (.region 0 [⟨some 7, .faddr 1 1 (.t 1), none⟩,
  ⟨some 8, .load false 1 (.t 7), none⟩,
  ⟨some 9, .faddr 1 1 (.t 3), none⟩,
  ⟨none, .store 1 (.t 9) (.t 8), none⟩])
 (.seq (.region 0 [⟨some 10, .faddr 2 2 (.t 1), none⟩,
  ⟨some 11, .load false 1 (.t 10), none⟩,
  ⟨some 12, .faddr 2 2 (.t 3), none⟩,
  ⟨none, .store 1 (.t 12) (.t 11), none⟩])
 (.seq (.region 0 [⟨some 13, .faddr 3 3 (.t 1), none⟩,
  ⟨some 14, .load false 1 (.t 13), none⟩,
  ⟨some 15, .faddr 3 3 (.t 3), none⟩,
  ⟨none, .store 1 (.t 15) (.t 14), none⟩])
 (.seq (.region 0 [⟨some 16, .load true 4 (.t 3), none⟩,
  ⟨none, .store 4 (.t 2) (.t 16), none⟩])
 .ret)))))))

theorem laws_toEdge_eq (E : Env) (a0 : U) : run E laws_toEdge_ac [(2, some (true, 4))] [a0] =
 U.noTup a0 fun x1 => U.asAgg x1 fun us2 => if 0 = sizes (us2.take 0) then (us2[0]?).bind fun e3 => U.asVar false 1 e3 fun e4 => if storable (.val e4) = true ∧ e4.size = 1 then U.asAgg x1 fun us5 => if 1 = sizes (us5.take 1) then (us5[1]?).bind fun e6 => U.asVar false 1 e6 fun e7 => if storable (.val e7) = true ∧ e7.size = 1 then if 1 = sizes [e4] then U.asAgg x1 fun us8 => if 2 = sizes (us8.take 2) then (us8[2]?).bind fun e9 => U.asVar false 1 e9 fun e10 => if storable (.val e10) = true ∧ e10.size = 1 then if 2 = sizes [e4, e7] then U.asAgg x1 fun us11 => if 3 = sizes (us11.take 3) then (us11[3]?).bind fun e12 => U.asVar false 1 e12 fun e13 => if storable (.val e13) = true ∧ e13.size = 1 then if 3 = sizes [e4, e7, e10] then U.asVar true 4 (.agg [e4, e7, e10, e13]) fun e14 => if storable (.val e14) = true ∧ e14.size = 4 then U.asVar true 4 e14 fun e15 => some e15 else none else none else none else none else none else none else none else none else none else none else none else none := by kernel_rfl

/-- In the environment E: this function and those that it calls. -/
structure G_laws_toEdge (E : Env) : Prop where
  is : Is E 8 1 laws_toEdge_ac [(2, some (true, 4))]
theorem laws_toEdge_E {E : Env} (h : G_laws_toEdge E) (a0 : U) : E 8 [a0] =
 U.noTup a0 fun x1 => U.asAgg x1 fun us2 => if 0 = sizes (us2.take 0) then (us2[0]?).bind fun e3 => U.asVar false 1 e3 fun e4 => if storable (.val e4) = true ∧ e4.size = 1 then U.asAgg x1 fun us5 => if 1 = sizes (us5.take 1) then (us5[1]?).bind fun e6 => U.asVar false 1 e6 fun e7 => if storable (.val e7) = true ∧ e7.size = 1 then if 1 = sizes [e4] then U.asAgg x1 fun us8 => if 2 = sizes (us8.take 2) then (us8[2]?).bind fun e9 => U.asVar false 1 e9 fun e10 => if storable (.val e10) = true ∧ e10.size = 1 then if 2 = sizes [e4, e7] then U.asAgg x1 fun us11 => if 3 = sizes (us11.take 3) then (us11[3]?).bind fun e12 => U.asVar false 1 e12 fun e13 => if storable (.val e13) = true ∧ e13.size = 1 then if 3 = sizes [e4, e7, e10] then U.asVar true 4 (.agg [e4, e7, e10, e13]) fun e14 => if storable (.val e14) = true ∧ e14.size = 4 then U.asVar true 4 e14 fun e15 => some e15 else none else none else none else none else none else none else none else none else none else none else none else none := (h.is _ rfl).trans (laws_toEdge_eq E a0)

end Go.Proofs.Ytmebdbagcbgddaa.Am
namespace Go.Proofs.Ytmebdbagcbgddaa.Am
open Go
set_option linter.unusedVariables false
set_option maxRecDepth 100000

/- loop.example/g01924/laws.toEdgeS -/
def laws_toEdgeS_b0 : AC :=
 (.seq (.seq (.region 0 [⟨some 8, .mv (.t 4), none⟩,
  ⟨some 9, .mv (.t 0), none⟩,
  ⟨some 10, .len false (.t 9), none⟩,
  ⟨some 11, .bin .lss (.t 8) (.t 10), none⟩])
 (.cond (.t 11) .skip (.exit 0)))
 (.seq (.block 1 (.region 0 [⟨some 14, .mv (.t 3), none⟩,
  ⟨some 15, .mv (.t 4), none⟩,
  ⟨some 16, .mv (.t 0), none⟩,
  ⟨some 17, .mv (.t 4), none⟩,
  ⟨some 18, .iaddr 4 (.t 16) (.t 17), none⟩,
  ⟨some 19, .load true 4 (.t 18), none⟩,
  ⟨some 20, .call false 8 [(.t 19)], none⟩,
  ⟨some 21, .iaddr 4 (.t 14) (.t 15), none⟩,
  ⟨none, .store 4 (.t 21) (.t 20), none⟩]))
 (.region 0 [⟨some 12, .mv (.t 4), none⟩,
  ⟨some 13, .bin .add (.t 12) (.c (.int .i64 1)), none⟩,
  ⟨some 4, .mv (.t 13), none⟩])))
def laws_toEdgeS_r0 : AC :=
 (.seq (.region 0 [⟨some 22, .mv (.t 3), none⟩,
  ⟨some 2, .mv (.t 22), none⟩])
 .ret)
def laws_toEdgeS_ac : AC :=
 (.seq (.region 0 [⟨some 2, .mv (.c (.nsl 4)), none⟩])
 (.seq (.region 0 [⟨some 5, .mv (.t 0), none⟩,
  ⟨some 6, .len false (.t 5), none⟩,
  ⟨some 7, .mkslice 4 32 (.agg [(.int .i64 0), (.int .i64 0), (.int .i64 0), (.int .i64 0)]) (.t 6) (.t 6), none⟩,
  ⟨some 3, .mv (.t 7), none⟩])
 (.seq (.seq (.region 0 [⟨some 4, .mv (.c (.int .i64 0)), none⟩])
 (.block 0 (.loop ⟨[0, 4], [(3, 4)], []⟩ laws_toEdgeS_b0)))
 laws_toEdgeS_r0)))
noncomputable def laws_toEdgeS_l0 (E : Env) (x0 : U) (x4 : U) (c3 : List U) : Option U := loopK (roundOf E ⟨[0, 4], [(3, 4)], []⟩ laws_toEdgeS_b0 (blockK 0 (seqK (fun s => exec E laws_toEdgeS_r0 s (finish [(2, none)])) (finish [(2, none)])))) ([.val x0, .val x4], [.arr 4 c3])
theorem laws_toEdgeS_eq (E : Env) (a0 : U) : run E laws_toEdgeS_ac [(2, none)] [a0] =
 (U.lenOf false a0).bind fun n1 => if 0 ≤ (n1 : Int) ∧ (n1 : Int) ≤ (n1 : Int) ∧ (n1 : Int) * 32 ≤ 140737488355328 ∧ ((.agg [(.int .i64 0), (.int .i64 0), (.int .i64 0), (.int .i64 0)]) : U).size = 4 then laws_toEdgeS_l0 E a0 (.int .i64 0) (List.replicate ((n1 : Int) : Int).toNat (.agg [(.int .i64 0), (.int .i64 0), (.int .i64 0), (.int .i64 0)])) else none := by kernel_rfl
theorem laws_toEdgeS_l0_eq (E : Env) (x0 : U) (x4 : U) (c3 : List U) : laws_toEdgeS_l0 E x0 x4 c3 =
 (U.lenOf false x0).bind fun n2 => (U.bin .lss x4 (.int .i64 (n2 : Int))).bind fun t3 => U.asBool t3
 (U.asInt x4 fun n4 => U.elemAt 4 x0 n4 fun e5 => U.asVar true 4 e5 fun e6 => (E 8 [e6]).bind fun t7 => U.asInt x4 fun n8 => if 4 = 4 ∧ 4 = 4 ∧ 0 ≤ n8 ∧ n8 < ((c3).length : Int) then if storable (.val t7) = true ∧ t7.size = 4 then if 4 = 4 then (c3[(n8 : Int).toNat]?).bind fun e9 => if e9.size = 4 then (U.bin .add x4 (.int .i64 1)).bind fun t10 => laws_toEdgeS_l0 E x0 t10 (c3.set (n8 : Int).toNat t7) else none else none else none else none)
 (some (.sl 4 c3)) :=
 (loop_eq E _ _ _ _).trans (by kernel_rfl)

/-- In the environment E: this function and those that it calls. -/
structure G_laws_toEdgeS (E : Env) : Prop where
  is : Is E 1 1 laws_toEdgeS_ac [(2, none)]
  c_laws_toEdge : G_laws_toEdge E
theorem laws_toEdgeS_E {E : Env} (h : G_laws_toEdgeS E) (a0 : U) : E 1 [a0] =
 (U.lenOf false a0).bind fun n1 => if 0 ≤ (n1 : Int) ∧ (n1 : Int) ≤ (n1 : Int) ∧ (n1 : Int) * 32 ≤ 140737488355328 ∧ ((.agg [(.int .i64 0), (.int .i64 0), (.int .i64 0), (.int .i64 0)]) : U).size = 4 then laws_toEdgeS_l0 E a0 (.int .i64 0) (List.replicate ((n1 : Int) : Int).toNat (.agg [(.int .i64 0), (.int .i64 0), (.int .i64 0), (.int .i64 0)])) else none := (h.is _ rfl).trans (laws_toEdgeS_eq E a0)

end Go.Proofs.Ytmebdbagcbgddaa.Am
namespace Go.Proofs.Ytmebdbagcbgddaa.Am
open Go
set_option linter.unusedVariables false
set_option maxRecDepth 100000

/- loop.example/g01924/impl.in -/
def impl_in_ac : AC :=
 (.seq (.region 0 [⟨some 6, .mv (.c (.bool false)), none⟩])
 (.seq (.region 0 [⟨some 7, .mv (.t 1), none⟩,
  ⟨some 8, .mv (.t 0), none⟩,
  ⟨some 9, .bin .leq (.t 7) (.t 8), none⟩,
  ⟨some 10, .mv (.t 9), none⟩,
  ⟨some 11, .mv (.t 0), some (10, true)⟩,
  ⟨some 12, .mv (.t 2), some (10, true)⟩,
  ⟨some 13, .bin .leq (.t 11) (.t 12), some (10, true)⟩,
  ⟨some 14, .pick (.t 10) (.t 13) (.c (.bool false)), none⟩,
  ⟨some 6, .mv (.t 14), none⟩])
 .ret))

theorem impl_in_eq (E : Env) (a0 : U) (a1 : U) (a2 : U) : run E impl_in_ac [(6, none)] [a0, a1, a2] =
 (U.bin .leq a1 a0).bind fun t1 => U.asBool t1
 ((U.bin .leq a0 a2).bind fun t2 => some t2)
 (some (.bool false)) := by kernel_rfl

/-- In the environment E: this function and those that it calls. -/
structure G_impl_in (E : Env) : Prop where
  is : Is E 10 3 impl_in_ac [(6, none)]
theorem impl_in_E {E : Env} (h : G_impl_in E) (a0 a1 a2 : U) : E 10 [a0, a1, a2] =
 (U.bin .leq a1 a0).bind fun t1 => U.asBool t1
 ((U.bin .leq a0 a2).bind fun t2 => some t2)
 (some (.bool false)) := (h.is _ rfl).trans (impl_in_eq E a0 a1 a2)

end Go.Proofs.Ytmebdbagcbgddaa.Am
namespace Go.Proofs.Ytmebdbagcbgddaa.Am
open Go
set_option linter.unusedVariables false
set_option maxRecDepth 100000

/- loop.example/g01924/impl.isID -/
def impl_isID_ac : AC :=
 (.seq (.region 0 [⟨some 2, .mv (.c (.bool false)), none⟩])
 (.seq (.region 0 [⟨some 3, .mv (.t 0), none⟩,
  ⟨some 4, .call false 10 [(.t 3), (.c (.int .i64 1)), (.c (.int .i64 9))], none⟩,
  ⟨some 2, .mv (.t 4), none⟩])
 .ret))

theorem impl_isID_eq (E : Env) (a0 : U) : run E impl_isID_ac [(2, none)] [a0] =
 (E 10 [a0, (.int .i64 1), (.int .i64 9)]).bind fun t1 => some t1 := by kernel_rfl

/-- In the environment E: this function and those that it calls. -/
structure G_impl_isID (E : Env) : Prop where
  is : Is E 9 1 impl_isID_ac [(2, none)]
  c_impl_in : G_impl_in E
theorem impl_isID_E {E : Env} (h : G_impl_isID E) (a0 : U) : E 9 [a0] =
 (E 10 [a0, (.int .i64 1), (.int .i64 9)]).bind fun t1 => some t1 := (h.is _ rfl).trans (impl_isID_eq E a0)

end Go.Proofs.Ytmebdbagcbgddaa.Am
namespace Go.Proofs.Ytmebdbagcbgddaa.Am
open Go
set_option linter.unusedVariables false
set_option maxRecDepth 100000

/- loop.example/g01924/impl.isKey -/
def impl_isKey_ac : AC :=
 (.seq (.region 0 [⟨some 2, .mv (.c (.bool false)), none⟩])
 (.seq (.region 0 [⟨some 3, .mv (.t 0), none⟩,
  ⟨some 4, .call false 10 [(.t 3), (.c (.int .i64 0)), (.c (.int .i64 5))], none⟩,
  ⟨some 2, .mv (.t 4), none⟩])
 .ret))

theorem impl_isKey_eq (E : Env) (a0 : U) : run E impl_isKey_ac [(2, none)] [a0] =
 (E 10 [a0, (.int .i64 0), (.int .i64 5)]).bind fun t1 => some t1 := by kernel_rfl

/-- In the environment E: this function and those that it calls. -/
structure G_impl_isKey (E : Env) : Prop where
  is : Is E 11 1 impl_isKey_ac [(2, none)]
  c_impl_in : G_impl_in E
theorem impl_isKey_E {E : Env} (h : G_impl_isKey E) (a0 : U) : E 11 [a0] =
 (E 10 [a0, (.int .i64 0), (.int .i64 5)]).bind fun t1 => some t1 := (h.is _ rfl).trans (impl_isKey_eq E a0)

end Go.Proofs.Ytmebdbagcbgddaa.Am
namespace Go.Proofs.Ytmebdbagcbgddaa.Am
open Go
set_option linter.unusedVariables false
set_option maxRecDepth 100000

/- cmp.Or[int] -/
def cmp_Or_g14_b0 : AC :=
 (.seq (.region 0 [⟨some 9, .bin .lss (.t 8) (.t 7), none⟩])
 (.seq (.cond (.t 9) .skip (.exit 0))
 (.seq (.block 1 (.seq (.region 0 [⟨some 10, .iaddr 1 (.t 6) (.t 8), none⟩,
  ⟨some 11, .load false 1 (.t 10), none⟩,
  ⟨some 5, .mv (.t 11), none⟩])
 (.seq (.region 0 [⟨some 12, .mv (.t 5), none⟩,
  ⟨some 13, .mv (.t 3), none⟩,
  ⟨some 14, .bin .neq (.t 12) (.t 13), none⟩])
 (.cond (.t 14) (.seq (.region 0 [⟨some 15, .mv (.t 5), none⟩,
  ⟨some 2, .mv (.t 15), none⟩])
 .ret) .skip))))
 (.region 0 [⟨some 16, .bin .add (.t 8) (.c (.int .i64 1)), none⟩,
  ⟨some 8, .mv (.t 16), none⟩]))))
def cmp_Or_g14_r0 : AC :=
 (.seq (.region 0 [⟨some 17, .mv (.t 3), none⟩,
  ⟨some 2, .mv (.t 17), none⟩])
 .ret)
def cmp_Or_g14_ac : AC :=
 (.seq (.region 0 [⟨some 2, .mv (.c (.int .i64 0)), none⟩])
 (.seq (.region 0 [⟨some 3, .mv (.c (.int .i64 0)), none⟩])
 (.seq (.seq (.region 0 [⟨some 6, .mv (.t 0), none⟩,
  ⟨some 7, .len false (.t 6), none⟩,
  ⟨some 8, .mv (.c (.int .i64 0)), none⟩])
 (.block 0 (.loop ⟨[3, 6, 7, 8], [], []⟩ cmp_Or_g14_b0)))
 cmp_Or_g14_r0)))
noncomputable def cmp_Or_g14_l0 (E : Env) (x3 : U) (x6 : U) (x7 : U) (x8 : U) : Option U := loopK (roundOf E ⟨[3, 6, 7, 8], [], []⟩ cmp_Or_g14_b0 (blockK 0 (seqK (fun s => exec E cmp_Or_g14_r0 s (finish [(2, none)])) (finish [(2, none)])))) ([.val x3, .val x6, .val x7, .val x8], [])
theorem cmp_Or_g14_eq (E : Env) (a0 : U) : run E cmp_Or_g14_ac [(2, none)] [a0] =
 (U.lenOf false a0).bind fun n1 => cmp_Or_g14_l0 E (.int .i64 0) a0 (.int .i64 (n1 : Int)) (.int .i64 0) := by kernel_rfl
theorem cmp_Or_g14_l0_eq (E : Env) (x3 : U) (x6 : U) (x7 : U) (x8 : U) : cmp_Or_g14_l0 E x3 x6 x7 x8 =
 (U.bin .lss x8 x7).bind fun t2 => U.asBool t2
 (U.asInt x8 fun n3 => U.elemAt 1 x6 n3 fun e4 => U.asVar false 1 e4 fun e5 => (U.bin .neq e5 x3).bind fun t6 => U.asBool t6
 (some e5)
 ((U.bin .add x8 (.int .i64 1)).bind fun t7 => cmp_Or_g14_l0 E x3 x6 x7 t7))
 (some x3) :=
 (loop_eq E _ _ _ _).trans (by kernel_rfl)

/-- In the environment E: this function and those that it calls. -/
structure G_cmp_Or_g14 (E : Env) : Prop where
  is : Is E 14 1 cmp_Or_g14_ac [(2, none)]
theorem cmp_Or_g14_E {E : Env} (h : G_cmp_Or_g14 E) (a0 : U) : E 14 [a0] =
 (U.lenOf false a0).bind fun n1 => cmp_Or_g14_l0 E (.int .i64 0) a0 (.int .i64 (n1 : Int)) (.int .i64 0) := (h.is _ rfl).trans (cmp_Or_g14_eq E a0)

end Go.Proofs.Ytmebdbagcbgddaa.Am
namespace Go.Proofs.Ytmebdbagcbgddaa.Am
open Go
set_option linter.unusedVariables false
set_option maxRecDepth 100000

/- cmp.isNaN[int] -/
def cmp_isNaN_g15_ac : AC :=
 (.seq (.region 0 [⟨some 2, .mv (.c (.bool false)), none⟩])
 (.seq (.region 0 [⟨some 3, .mv (.t 0), none⟩,
  ⟨some 4, .mv (.t 0), none⟩,
  ⟨some 5, .bin .neq (.t 3) (.t 4), none⟩,
  ⟨some 2, .mv (.t 5), none⟩])
 .ret))

theorem cmp_isNaN_g15_eq (E : Env) (a0 : U) : run E cmp_isNaN_g15_ac [(2, none)] [a0] =
 (U.bin .neq a0 a0).bind fun t1 => some t1 := by kernel_rfl

/-- In the environment E: this function and those that it calls. -/
structure G_cmp_isNaN_g15 (E : Env) : Prop where
  is : Is E 15 1 cmp_isNaN_g15_ac [(2, none)]
theorem cmp_isNaN_g15_E {E : Env} (h : G_cmp_isNaN_g15 E) (a0 : U) : E 15 [a0] =
 (U.bin .neq a0 a0).bind fun t1 => some t1 := (h.is _ rfl).trans (cmp_isNaN_g15_eq E a0)

end Go.Proofs.Ytmebdbagcbgddaa.Am
namespace Go.Proofs.Ytmebdbagcbgddaa.Am
open Go
set_option linter.unusedVariables false
set_option maxRecDepth 100000

/- cmp.Compare[int] -/
def cmp_Compare_g13_ac : AC :=
 (.seq (.region 0 [⟨some 4, .mv (.c (.int .i64 0)), none⟩])
 (.seq (.region 0 [⟨some 7, .mv (.t 0), none⟩,
  ⟨some 8, .call false 15 [(.t 7)], none⟩,
  ⟨some 5, .mv (.t 8), none⟩])
 (.seq (.region 0 [⟨some 9, .mv (.t 1), none⟩,
  ⟨some 10, .call false 15 [(.t 9)], none⟩,
  ⟨some 6, .mv (.t 10), none⟩])
 (.seq (.seq (.region 0 [⟨some 11, .mv (.t 5), none⟩])
 (.cond (.t 11) (.seq (.seq (.region 0 [⟨some 12, .mv (.t 6), none⟩])
 (.cond (.t 12) (.seq (.region 0 [⟨some 4, .mv (.c (.int .i64 0)), none⟩])
 .ret) .skip))
 (.seq (.region 0 [⟨some 4, .mv (.c (.int .i64 (-1))), none⟩])
 .ret)) .skip))
 (.seq (.seq (.region 0 [⟨some 13, .mv (.t 6), none⟩])
 (.cond (.t 13) (.seq (.region 0 [⟨some 4, .mv (.c (.int .i64 1)), none⟩])
 .ret) .skip))
 (.seq (.seq (.region 0 [⟨some 14, .mv (.t 0), none⟩,
  ⟨some 15, .mv (.t 1), none⟩,
  ⟨some 16, .bin .lss (.t 14) (.t 15), none⟩])
 (.cond (.t 16) (.seq (.region 0 [⟨some 4, .mv (.c (.int .i64 (-1))), none⟩])
 .ret) .skip))
 (.seq (.seq (.region 0 [⟨some 17, .mv (.t 0), none⟩,
  ⟨some 18, .mv (.t 1), none⟩,
  ⟨some 19, .bin .gtr (.t 17) (.t 18), none⟩])
 (.cond (.t 19) (.seq (.region 0 [⟨some 4, .mv (.c (.int .i64 1)), none⟩])
 .ret) .skip))
 (.seq (.region 0 [⟨some 4, .mv (.c (.int .i64 0)), none⟩])
 .ret))))))))

theorem cmp_Compare_g13_eq (E : Env) (a0 : U) (a1 : U) : run E cmp_Compare_g13_ac [(4, none)] [a0, a1] =
 (E 15 [a0]).bind fun t1 => (E 15 [a1]).bind fun t2 => U.asBool t1
 (U.asBool t2
 (some (.int .i64 0))
 (some (.int .i64 (-1))))
 (U.asBool t2
 (some (.int .i64 1))
 ((U.bin .lss a0 a1).bind fun t3 => U.asBool t3
 (some (.int .i64 (-1)))
 ((U.bin .gtr a0 a1).bind fun t4 => U.asBool t4
 (some (.int .i64 1))
 (some (.int .i64 0))))) := by kernel_rfl

/-- In the environment E: this function and those that it calls. -/
structure G_cmp_Compare_g13 (E : Env) : Prop where
  is : Is E 13 2 cmp_Compare_g13_ac [(4, none)]
  c_cmp_isNaN_g15 : G_cmp_isNaN_g15 E
theorem cmp_Compare_g13_E {E : Env} (h : G_cmp_Compare_g13 E) (a0 a1 : U) : E 13 [a0, a1] =
 (E 15 [a0]).bind fun t1 => (E 15 [a1]).bind fun t2 => U.asBool t1
 (U.asBool t2
 (some (.int .i64 0))
 (some (.int .i64 (-1))))
 (U.asBool t2
 (some (.int .i64 1))
 ((U.bin .lss a0 a1).bind fun t3 => U.asBool t3
 (some (.int .i64 (-1)))
 ((U.bin .gtr a0 a1).bind fun t4 => U.asBool t4
 (some (.int .i64 1))
 (some (.int .i64 0))))) := (h.is _ rfl).trans (cmp_Compare_g13_eq E a0 a1)

end Go.Proofs.Ytmebdbagcbgddaa.Am
namespace Go.Proofs.Ytmebdbagcbgddaa.Am
open Go
set_option linter.unusedVariables false
set_option maxRecDepth 100000

/- loop.example/g01924/impl.compareEdges -/
def impl_compareEdges_ac : AC :=
 (.seq (.region 0 [⟨some 2, .box false (.t 0), none⟩,
  ⟨some 3, .box false (.t 1), none⟩,
  ⟨some 4, .mv (.c (.int .i64 0)), none⟩])
 (.seq (.region 20 [⟨some 5, .faddr 0 0 (.t 2), none⟩,
  ⟨some 6, .load false 1 (.t 5), none⟩,
  ⟨some 7, .faddr 0 0 (.t 3), none⟩,
  ⟨some 8, .load false 1 (.t 7), none⟩,
  ⟨some 9, .call true 13 [(.t 6), (.t 8)], none⟩,
  ⟨some 10, .faddr 1 1 (.t 2), none⟩,
  ⟨some 11, .load false 1 (.t 10), none⟩,
  ⟨some 12, .faddr 1 1 (.t 3), none⟩,
  ⟨some 13, .load false 1 (.t 12), none⟩,
  ⟨some 14, .call true 13 [(.t 11), (.t 13)], none⟩,
  ⟨some 15, .faddr 2 2 (.t 2), none⟩,
  ⟨some 16, .load false 1 (.t 15), none⟩,
  ⟨some 17, .faddr 2 2 (.t 3), none⟩,
  ⟨some 18, .load false 1 (.t 17), none⟩,
  ⟨some 19, .call true 13 [(.t 16), (.t 18)], none⟩,
  ⟨some 20, .faddr 3 3 (.t 2), none⟩,
  ⟨some 21, .load false 1 (.t 20), none⟩,
  ⟨some 22, .faddr 3 3 (.t 3), none⟩,
  ⟨some 23, .load false 1 (.t 22), none⟩,
  ⟨some 24, .call true 13 [(.t 21), (.t 23)], none⟩,
  ⟨some 25, .bslice true 1 4 (.int .i64 0) [(0, (.t 9)), (1, (.t 14)), (2, (.t 19)), (3, (.t 24))], none⟩,
  ⟨some 26, .call false 14 [(.t 25)], none⟩,
  ⟨some 4, .mv (.t 26), none⟩])
 .ret))

theorem impl_compareEdges_eq (E : Env) (a0 : U) (a1 : U) : run E impl_compareEdges_ac [(4, none)] [a0, a1] =
 U.noTup a0 fun x1 => U.noTup a1 fun x2 => U.asAgg x1 fun us3 => if 0 = sizes (us3.take 0) then (us3[0]?).bind fun e4 => U.asVar false 1 e4 fun e5 => U.asAgg x2 fun us6 => if 0 = sizes (us6.take 0) then (us6[0]?).bind fun e7 => U.asVar false 1 e7 fun e8 => (E 13 [e5, e8]).bind fun t9 => U.asFlat t9 fun t10 => U.asAgg x1 fun us11 => if 1 = sizes (us11.take 1) then (us11[1]?).bind fun e12 => U.asVar false 1 e12 fun e13 => U.asAgg x2 fun us14 => if 1 = sizes (us14.take 1) then (us14[1]?).bind fun e15 => U.asVar false 1 e15 fun e16 => (E 13 [e13, e16]).bind fun t17 => U.asFlat t17 fun t18 => U.asAgg x1 fun us19 => if 2 = sizes (us19.take 2) then (us19[2]?).bind fun e20 => U.asVar false 1 e20 fun e21 => U.asAgg x2 fun us22 => if 2 = sizes (us22.take 2) then (us22[2]?).bind fun e23 => U.asVar false 1 e23 fun e24 => (E 13 [e21, e24]).bind fun t25 => U.asFlat t25 fun t26 => U.asAgg x1 fun us27 => if 3 = sizes (us27.take 3) then (us27[3]?).bind fun e28 => U.asVar false 1 e28 fun e29 => U.asAgg x2 fun us30 => if 3 = sizes (us30.take 3) then (us30[3]?).bind fun e31 => U.asVar false 1 e31 fun e32 => (E 13 [e29, e32]).bind fun t33 => U.asFlat t33 fun t34 => if storable (.val t10) = true ∧ t10.size = 1 then if storable (.val t18) = true ∧ t18.size = 1 then if storable (.val t26) = true ∧ t26.size = 1 then if storable (.val t34) = true ∧ t34.size = 1 then (E 14 [(.sl 1 [t10, t18, t26, t34])]).bind fun t35 => some t35 else none else none else none else none else none else none else none else none else none else none else none else none := by kernel_rfl

/-- In the environment E: this function and those that it calls. -/
structure G_impl_compareEdges (E : Env) : Prop where
  is : Is E 12 2 impl_compareEdges_ac [(4, none)]
  c_cmp_Or_g14 : G_cmp_Or_g14 E
  c_cmp_Compare_g13 : G_cmp_Compare_g13 E
theorem impl_compareEdges_E {E : Env} (h : G_impl_compareEdges E) (a0 a1 : U) : E 12 [a0, a1] =
 U.noTup a0 fun x1 => U.noTup a1 fun x2 => U.asAgg x1 fun us3 => if 0 = sizes (us3.take 0) then (us3[0]?).bind fun e4 => U.asVar false 1 e4 fun e5 => U.asAgg x2 fun us6 => if 0 = sizes (us6.take 0) then (us6[0]?).bind fun e7 => U.asVar false 1 e7 fun e8 => (E 13 [e5, e8]).bind fun t9 => U.asFlat t9 fun t10 => U.asAgg x1 fun us11 => if 1 = sizes (us11.take 1) then (us11[1]?).bind fun e12 => U.asVar false 1 e12 fun e13 => U.asAgg x2 fun us14 => if 1 = sizes (us14.take 1) then (us14[1]?).bind fun e15 => U.asVar false 1 e15 fun e16 => (E 13 [e13, e16]).bind fun t17 => U.asFlat t17 fun t18 => U.asAgg x1 fun us19 => if 2 = sizes (us19.take 2) then (us19[2]?).bind fun e20 => U.asVar false 1 e20 fun e21 => U.asAgg x2 fun us22 => if 2 = sizes (us22.take 2) then (us22[2]?).bind fun e23 => U.asVar false 1 e23 fun e24 => (E 13 [e21, e24]).bind fun t25 => U.asFlat t25 fun t26 => U.asAgg x1 fun us27 => if 3 = sizes (us27.take 3) then (us27[3]?).bind fun e28 => U.asVar false 1 e28 fun e29 => U.asAgg x2 fun us30 => if 3 = sizes (us30.take 3) then (us30[3]?).bind fun e31 => U.asVar false 1 e31 fun e32 => (E 13 [e29, e32]).bind fun t33 => U.asFlat t33 fun t34 => if storable (.val t10) = true ∧ t10.size = 1 then if storable (.val t18) = true ∧ t18.size = 1 then if storable (.val t26) = true ∧ t26.size = 1 then if storable (.val t34) = true ∧ t34.size = 1 then (E 14 [(.sl 1 [t10, t18, t26, t34])]).bind fun t35 => some t35 else none else none else none else none else none else none else none else none else none else none else none else none := (h.is _ rfl).trans (impl_compareEdges_eq E a0 a1)

end Go.Proofs.Ytmebdbagcbgddaa.Am
namespace Go.Proofs.Ytmebdbagcbgddaa.Am
open Go
set_option linter.unusedVariables false
set_option maxRecDepth 100000

/- loop.example/g01924/impl.AreEdges -/
def impl_AreEdges_b0 : AC :=
 (.seq (.region 0 [⟨some 8, .bin .lss (.t 7) (.t 6), none⟩])
 (.seq (.cond (.t 8) .skip (.exit 0))
 (.seq (.block 1 (.seq (.region 0 [⟨some 9, .mv (.t 7), none⟩,
  ⟨some 10, .iaddr 4 (.t 5) (.t 7), none⟩,
  ⟨some 11, .load true 4 (.t 10), none⟩,
  ⟨some 4, .alloc (.agg [(.int .i64 0), (.int .i64 0), (.int .i64 0), (.int .i64 0)]), none⟩,
  ⟨some 3, .mv (.t 9), none⟩,
  ⟨none, .store 4 (.t 4) (.t 11), none⟩])
 (.seq (.region 43 [⟨some 12, .faddr 0 0 (.t 4), none⟩,
  ⟨some 13, .load false 1 (.t 12), none⟩,
  ⟨some 14, .call true 9 [(.t 13)], none⟩,
  ⟨some 15, .un .not (.t 14), none⟩,
  ⟨some 16, .mv (.t 15), none⟩,
  ⟨some 17, .faddr 1 1 (.t 4), some (16, false)⟩,
  ⟨some 18, .load false 1 (.t 17), some (16, false)⟩,
  ⟨some 19, .call true 9 [(.t 18)], some (16, false)⟩,
  ⟨some 20, .un .not (.t 19), some (16, false)⟩,
  ⟨some 21, .pick (.t 16) (.c (.bool true)) (.t 20), none⟩,
  ⟨some 22, .mv (.t 21), none⟩,
  ⟨some 23, .faddr 0 0 (.t 4), some (22, false)⟩,
  ⟨some 24, .load false 1 (.t 23), some (22, false)⟩,
  ⟨some 25, .faddr 1 1 (.t 4), some (22, false)⟩,
  ⟨some 26, .load false 1 (.t 25), some (22, false)⟩,
  ⟨some 27, .bin .eql (.t 24) (.t 26), some (22, false)⟩,
  ⟨some 28, .pick (.t 22) (.c (.bool true)) (.t 27), none⟩,
  ⟨some 29, .mv (.t 28), none⟩,
  ⟨some 30, .faddr 2 2 (.t 4), some (29, false)⟩,
  ⟨some 31, .load false 1 (.t 30), some (29, false)⟩,
  ⟨some 32, .call true 10 [(.t 31), (.c (.int .i64 1)), (.c (.int .i64 3))], some (29, false)⟩,
  ⟨some 33, .un .not (.t 32), some (29, false)⟩,
  ⟨some 34, .pick (.t 29) (.c (.bool true)) (.t 33), none⟩,
  ⟨some 35, .mv (.t 34), none⟩,
  ⟨some 36, .faddr 3 3 (.t 4), some (35, false)⟩,
  ⟨some 37, .load false 1 (.t 36), some (35, false)⟩,
  ⟨some 38, .call true 11 [(.t 37)], some (35, false)⟩,
  ⟨some 39, .un .not (.t 38), some (35, false)⟩,
  ⟨some 40, .pick (.t 35) (.c (.bool true)) (.t 39), none⟩,
  ⟨some 41, .mv (.t 40), none⟩,
  ⟨some 42, .mv (.t 3), some (41, false)⟩,
  ⟨some 43, .bin .gtr (.t 42) (.c (.int .i64 0)), some (41, false)⟩,
  ⟨some 44, .mv (.t 43), some (41, false)⟩,
  ⟨some 45, .mv (.t 0), some (44, true)⟩,
  ⟨some 46, .mv (.t 3), some (44, true)⟩,
  ⟨some 47, .bin .sub (.t 46) (.c (.int .i64 1)), some (44, true)⟩,
  ⟨some 48, .iaddr 4 (.t 45) (.t 47), some (44, true)⟩,
  ⟨some 49, .load true 4 (.t 48), some (44, true)⟩,
  ⟨some 50, .load true 4 (.t 4), some (44, true)⟩,
  ⟨some 51, .call true 12 [(.t 49), (.t 50)], some (44, true)⟩,
  ⟨some 52, .bin .geq (.t 51) (.c (.int .i64 0)), some (44, true)⟩,
  ⟨some 53, .pick (.t 44) (.t 52) (.c (.bool false)), some (41, false)⟩,
  ⟨some 54, .pick (.t 41) (.c (.bool true)) (.t 53), none⟩])
 (.cond (.t 54) (.seq (.region 0 [⟨some 2, .mv (.c (.bool false)), none⟩])
 .ret) .skip))))
 (.region 0 [⟨some 55, .bin .add (.t 7) (.c (.int .i64 1)), none⟩,
  ⟨some 7, .mv (.t 55), none⟩]))))
def impl_AreEdges_r0 : AC :=
 (.seq (.region 0 [⟨some 2, .mv (.c (.bool true)), none⟩])
 .ret)
def impl_AreEdges_ac : AC :=
 (.seq (.region 0 [⟨some 2, .mv (.c (.bool false)), none⟩])
 (.seq (.seq (.region 0 [⟨some 5, .mv (.t 0), none⟩,
  ⟨some 6, .len false (.t 5), none⟩,
  ⟨some 7, .mv (.c (.int .i64 0)), none⟩])
 (.block 0 (.loop ⟨[0, 5, 6, 7], [], []⟩ impl_AreEdges_b0)))
 impl_AreEdges_r0))
noncomputable def impl_AreEdges_l0 (E : Env) (x0 : U) (x5 : U) (x6 : U) (x7 : U) : Option U := loopK (roundOf E ⟨[0, 5, 6, 7], [], []⟩ impl_AreEdges_b0 (blockK 0 (seqK (fun s => exec E impl_AreEdges_r0 s (finish [(2, none)])) (finish [(2, none)])))) ([.val x0, .val x5, .val x6, .val x7], [])
theorem impl_AreEdges_eq (E : Env) (a0 : U) : run E impl_AreEdges_ac [(2, none)] [a0] =
 (U.lenOf false a0).bind fun n1 => impl_AreEdges_l0 E a0 a0 (.int .i64 (n1 : Int)) (.int .i64 0) := by kernel_rfl
theorem impl_AreEdges_l0_eq (E : Env) (x0 : U) (x5 : U) (x6 : U) (x7 : U) : impl_AreEdges_l0 E x0 x5 x6 x7 =
 (U.bin .lss x7 x6).bind fun t2 => U.asBool t2
 (U.asInt x7 fun n3 => U.elemAt 4 x5 n3 fun e4 => U.asVar true 4 e4 fun e5 => if storable (.val e5) = true ∧ e5.size = 4 then U.asAgg e5 fun us6 => if 0 = sizes (us6.take 0) then (us6[0]?).bind fun e7 => U.asVar false 1 e7 fun e8 => (E 9 [e8]).bind fun t9 => U.asFlat t9 fun t10 => (U.un .not t10).bind fun t11 => U.asBool t11
 (some (.bool false))
 (U.asAgg e5 fun us12 => if 1 = sizes (us12.take 1) then (us12[1]?).bind fun e13 => U.asVar false 1 e13 fun e14 => (E 9 [e14]).bind fun t15 => U.asFlat t15 fun t16 => (U.un .not t16).bind fun t17 => U.asBool t17
 (some (.bool false))
 (U.asAgg e5 fun us18 => if 0 = sizes (us18.take 0) then (us18[0]?).bind fun e19 => U.asVar false 1 e19 fun e20 => U.asAgg e5 fun us21 => if 1 = sizes (us21.take 1) then (us21[1]?).bind fun e22 => U.asVar false 1 e22 fun e23 => (U.bin .eql e20 e23).bind fun t24 => U.asBool t24
 (some (.bool false))
 (U.asAgg e5 fun us25 => if 2 = sizes (us25.take 2) then (us25[2]?).bind fun e26 => U.asVar false 1 e26 fun e27 => (E 10 [e27, (.int .i64 1), (.int .i64 3)]).bind fun t28 => U.asFlat t28 fun t29 => (U.un .not t29).bind fun t30 => U.asBool t30
 (some (.bool false))
 (U.asAgg e5 fun us31 => if 3 = sizes (us31.take 3) then (us31[3]?).bind fun e32 => U.asVar false 1 e32 fun e33 => (E 11 [e33]).bind fun t34 => U.asFlat t34 fun t35 => (U.un .not t35).bind fun t36 => U.asBool t36
 (some (.bool false))
 ((U.bin .gtr x7 (.int .i64 0)).bind fun t37 => U.asBool t37
 ((U.bin .sub x7 (.int .i64 1)).bind fun t38 => U.asInt t38 fun n39 => U.elemAt 4 x0 n39 fun e40 => U.asVar true 4 e40 fun e41 => U.asVar true 4 e5 fun e42 => (E 12 [e41, e42]).bind fun t43 => U.asFlat t43 fun t44 => (U.bin .geq t44 (.int .i64 0)).bind fun t45 => U.asBool t45
 (some (.bool false))
 ((U.bin .add x7 (.int .i64 1)).bind fun t46 => impl_AreEdges_l0 E x0 x5 x6 t46))
 ((U.bin .add x7 (.int .i64 1)).bind fun t47 => impl_AreEdges_l0 E x0 x5 x6 t47)) else none) else none) else none else none) else none) else none else none)
 (some (.bool true)) :=
 (loop_eq E _ _ _ _).trans (by kernel_rfl)

/-- In the environment E: this function and those that it calls. -/
structure G_impl_AreEdges (E : Env) : Prop where
  is : Is E 3 1 impl_AreEdges_ac [(2, none)]
  c_impl_in : G_impl_in E
  c_impl_isID : G_impl_isID E
  c_impl_isKey : G_impl_isKey E
  c_impl_compareEdges : G_impl_compareEdges E
theorem impl_AreEdges_E {E : Env} (h : G_impl_AreEdges E) (a0 : U) : E 3 [a0] =
 (U.lenOf false a0).bind fun n1 => impl_AreEdges_l0 E a0 a0 (.int .i64 (n1 : Int)) (.int .i64 0) := (h.is _ rfl).trans (impl_AreEdges_eq E a0)

end Go.Proofs.Ytmebdbagcbgddaa.Am
namespace Go.Proofs.Ytmebdbagcbgddaa.Am
open Go
set_option linter.unusedVariables false
set_option maxRecDepth 100000

/- loop.example/g01924/laws.eqEdge -/
def laws_eqEdge_ac : AC :=
 (.seq (.region 0 [⟨some 2, .box false (.t 0), none⟩,
  ⟨some 3, .box false (.t 1), none⟩,
  ⟨some 4, .mv (.c (.bool false)), none⟩])
 (.seq (.seq (.region 0 [⟨some 5, .faddr 0 0 (.t 2), none⟩,
  ⟨some 6, .load false 1 (.t 5), none⟩,
  ⟨some 7, .faddr 0 0 (.t 3), none⟩,
  ⟨some 8, .load false 1 (.t 7), none⟩,
  ⟨some 9, .bin .neq (.t 6) (.t 8), none⟩])
 (.cond (.t 9) (.seq (.region 0 [⟨some 4, .mv (.c (.bool false)), none⟩])
 .ret) .skip))
 (.seq (.seq (.region 0 [⟨some 10, .faddr 1 1 (.t 2), none⟩,
  ⟨some 11, .load false 1 (.t 10), none⟩,
  ⟨some 12, .faddr 1 1 (.t 3), none⟩,
  ⟨some 13, .load false 1 (.t 12), none⟩,
  ⟨some 14, .bin .neq (.t 11) (.t 13), none⟩])
 (.cond (.t 14) (.seq (.region 0 [⟨some 4, .mv (.c (.bool false)), none⟩])
 .ret) .skip))
 (.seq (.seq (.region 0 [⟨some 15, .faddr 2 2 (.t 2), none⟩,
  ⟨some 16, .load false 1 (.t 15), none⟩,
  ⟨some 17, .faddr 2 2 (.t 3), none⟩,
  ⟨some 18, .load false 1 (.t 17), none⟩,
  ⟨some 19, .bin .neq (.t 16) (.t 18), none⟩])
 (.cond (.t 19) (.seq (.region 0 [⟨some 4, .mv (.c (.bool false)), none⟩])
 .ret) .skip))
 (.seq (.seq (.region 0 [⟨some 20, .faddr 3 3 (.t 2), none⟩,
  ⟨some 21, .load false 1 (.t 20), none⟩,
  ⟨some 22, .faddr 3 3 (.t 3), none⟩,
  ⟨some 23, .load false 1 (.t 22), none⟩,
  ⟨some 24, .bin .neq (.t 21) (.t 23), none⟩])
 (.cond (.t 24) (.seq (.region 0 [⟨some 4, .mv (.c (.bool false)), none⟩])
 .ret) .skip))
 (.seq (.region 0 [⟨some 4, .mv (.c (.bool true)), none⟩])
 .ret))))))

theorem laws_eqEdge_eq (E : Env) (a0 : U) (a1 : U) : run E laws_eqEdge_ac [(4, none)] [a0, a1] =
 U.noTup a0 fun x1 => U.noTup a1 fun x2 => U.asAgg x1 fun us3 => if 0 = sizes (us3.take 0) then (us3[0]?).bind fun e4 => U.asVar false 1 e4 fun e5 => U.asAgg x2 fun us6 => if 0 = sizes (us6.take 0) then (us6[0]?).bind fun e7 => U.asVar false 1 e7 fun e8 => (U.bin .neq e5 e8).bind fun t9 => U.asBool t9
 (some (.bool false))
 (U.asAgg x1 fun us10 => if 1 = sizes (us10.take 1) then (us10[1]?).bind fun e11 => U.asVar false 1 e11 fun e12 => U.asAgg x2 fun us13 => if 1 = sizes (us13.take 1) then (us13[1]?).bind fun e14 => U.asVar false 1 e14 fun e15 => (U.bin .neq e12 e15).bind fun t16 => U.asBool t16
 (some (.bool false))
 (U.asAgg x1 fun us17 => if 2 = sizes (us17.take 2) then (us17[2]?).bind fun e18 => U.asVar false 1 e18 fun e19 => U.asAgg x2 fun us20 => if 2 = sizes (us20.take 2) then (us20[2]?).bind fun e21 => U.asVar false 1 e21 fun e22 => (U.bin .neq e19 e22).bind fun t23 => U.asBool t23
 (some (.bool false))
 (U.asAgg x1 fun us24 => if 3 = sizes (us24.take 3) then (us24[3]?).bind fun e25 => U.asVar false 1 e25 fun e26 => U.asAgg x2 fun us27 => if 3 = sizes (us27.take 3) then (us27[3]?).bind fun e28 => U.asVar false 1 e28 fun e29 => (U.bin .neq e26 e29).bind fun t30 => U.asBool t30
 (some (.bool false))
 (some (.bool true)) else none else none) else none else none) else none else none) else none else none := by kernel_rfl

/-- In the environment E: this function and those that it calls. -/
structure G_laws_eqEdge (E : Env) : Prop where
  is : Is E 16 2 laws_eqEdge_ac [(4, none)]
theorem laws_eqEdge_E {E : Env} (h : G_laws_eqEdge E) (a0 a1 : U) : E 16 [a0, a1] =
 U.noTup a0 fun x1 => U.noTup a1 fun x2 => U.asAgg x1 fun us3 => if 0 = sizes (us3.take 0) then (us3[0]?).bind fun e4 => U.asVar false 1 e4 fun e5 => U.asAgg x2 fun us6 => if 0 = sizes (us6.take 0) then (us6[0]?).bind fun e7 => U.asVar false 1 e7 fun e8 => (U.bin .neq e5 e8).bind fun t9 => U.asBool t9
 (some (.bool false))
 (U.asAgg x1 fun us10 => if 1 = sizes (us10.take 1) then (us10[1]?).bind fun e11 => U.asVar false 1 e11 fun e12 => U.asAgg x2 fun us13 => if 1 = sizes (us13.take 1) then (us13[1]?).bind fun e14 => U.asVar false 1 e14 fun e15 => (U.bin .neq e12 e15).bind fun t16 => U.asBool t16
 (some (.bool false))
 (U.asAgg x1 fun us17 => if 2 = sizes (us17.take 2) then (us17[2]?).bind fun e18 => U.asVar false 1 e18 fun e19 => U.asAgg x2 fun us20 => if 2 = sizes (us20.take 2) then (us20[2]?).bind fun e21 => U.asVar false 1 e21 fun e22 => (U.bin .neq e19 e22).bind fun t23 => U.asBool t23
 (some (.bool false))
 (U.asAgg x1 fun us24 => if 3 = sizes (us24.take 3) then (us24[3]?).bind fun e25 => U.asVar false 1 e25 fun e26 => U.asAgg x2 fun us27 => if 3 = sizes (us27.take 3) then (us27[3]?).bind fun e28 => U.asVar false 1 e28 fun e29 => (U.bin .neq e26 e29).bind fun t30 => U.asBool t30
 (some (.bool false))
 (some (.bool true)) else none else none) else none else none) else none else none) else none else none := (h.is _ rfl).trans (laws_eqEdge_eq E a0 a1)

end Go.Proofs.Ytmebdbagcbgddaa.Am
namespace Go.Proofs.Ytmebdbagcbgddaa.Am
open Go
set_option linter.unusedVariables false
set_option maxRecDepth 100000

/- loop.example/g01924/laws.eqEdgeS -/
def laws_eqEdgeS_b0 : AC :=
 (.seq (.seq (.region 0 [⟨some 11, .mv (.t 5), none⟩,
  ⟨some 12, .mv (.t 0), none⟩,
  ⟨some 13, .len false (.t 12), none⟩,
  ⟨some 14, .bin .lss (.t 11) (.t 13), none⟩])
 (.cond (.t 14) .skip (.exit 0)))
 (.seq (.block 1 (.seq (.region 10 [⟨some 17, .mv (.t 0), none⟩,
  ⟨some 18, .mv (.t 5), none⟩,
  ⟨some 19, .iaddr 4 (.t 17) (.t 18), none⟩,
  ⟨some 20, .load true 4 (.t 19), none⟩,
  ⟨some 21, .mv (.t 1), none⟩,
  ⟨some 22, .mv (.t 5), none⟩,
  ⟨some 23, .iaddr 4 (.t 21) (.t 22), none⟩,
  ⟨some 24, .load true 4 (.t 23), none⟩,
  ⟨some 25, .call true 16 [(.t 20), (.t 24)], none⟩,
  ⟨some 26, .un .not (.t 25), none⟩])
 (.cond (.t 26) (.seq (.region 0 [⟨some 4, .mv (.c (.bool false)), none⟩])
 .ret) .skip)))
 (.region 0 [⟨some 15, .mv (.t 5), none⟩,
  ⟨some 16, .bin .add (.t 15) (.c (.int .i64 1)), none⟩,
  ⟨some 5, .mv (.t 16), none⟩])))
def laws_eqEdgeS_r0 : AC :=
 (.seq (.region 0 [⟨some 4, .mv (.c (.bool true)), none⟩])
 .ret)
def laws_eqEdgeS_ac : AC :=
 (.seq (.region 0 [⟨some 4, .mv (.c (.bool false)), none⟩])
 (.seq (.seq (.region 0 [⟨some 6, .mv (.t 0), none⟩,
  ⟨some 7, .len false (.t 6), none⟩,
  ⟨some 8, .mv (.t 1), none⟩,
  ⟨some 9, .len false (.t 8), none⟩,
  ⟨some 10, .bin .neq (.t 7) (.t 9), none⟩])
 (.cond (.t 10) (.seq (.region 0 [⟨some 4, .mv (.c (.bool false)), none⟩])
 .ret) .skip))
 (.seq (.seq (.region 0 [⟨some 5, .mv (.c (.int .i64 0)), none⟩])
 (.block 0 (.loop ⟨[0, 1, 5], [], []⟩ laws_eqEdgeS_b0)))
 laws_eqEdgeS_r0)))
noncomputable def laws_eqEdgeS_l0 (E : Env) (x0 : U) (x1 : U) (x5 : U) : Option U := loopK (roundOf E ⟨[0, 1, 5], [], []⟩ laws_eqEdgeS_b0 (blockK 0 (seqK (fun s => exec E laws_eqEdgeS_r0 s (finish [(4, none)])) (finish [(4, none)])))) ([.val x0, .val x1, .val x5], [])
theorem laws_eqEdgeS_eq (E : Env) (a0 : U) (a1 : U) : run E laws_eqEdgeS_ac [(4, none)] [a0, a1] =
 (U.lenOf false a0).bind fun n1 => (U.lenOf false a1).bind fun n2 => (U.bin .neq (.int .i64 (n1 : Int)) (.int .i64 (n2 : Int))).bind fun t3 => U.asBool t3
 (some (.bool false))
 (laws_eqEdgeS_l0 E a0 a1 (.int .i64 0)) := by kernel_rfl
theorem laws_eqEdgeS_l0_eq (E : Env) (x0 : U) (x1 : U) (x5 : U) : laws_eqEdgeS_l0 E x0 x1 x5 =
 (U.lenOf false x0).bind fun n4 => (U.bin .lss x5 (.int .i64 (n4 : Int))).bind fun t5 => U.asBool t5
 (U.asInt x5 fun n6 => U.elemAt 4 x0 n6 fun e7 => U.asVar true 4 e7 fun e8 => U.asInt x5 fun n9 => U.elemAt 4 x1 n9 fun e10 => U.asVar true 4 e10 fun e11 => (E 16 [e8, e11]).bind fun t12 => U.asFlat t12 fun t13 => (U.un .not t13).bind fun t14 => U.asBool t14
 (some (.bool false))
 ((U.bin .add x5 (.int .i64 1)).bind fun t15 => laws_eqEdgeS_l0 E x0 x1 t15))
 (some (.bool true)) :=
 (loop_eq E _ _ _ _).trans (by kernel_rfl)

/-- In the environment E: this function and those that it calls. -/
structure G_laws_eqEdgeS (E : Env) : Prop where
  is : Is E 2 2 laws_eqEdgeS_ac [(4, none)]
  c_laws_eqEdge : G_laws_eqEdge E
theorem laws_eqEdgeS_E {E : Env} (h : G_laws_eqEdgeS E) (a0 a1 : U) : E 2 [a0, a1] =
 (U.lenOf false a0).bind fun n1 => (U.lenOf false a1).bind fun n2 => (U.bin .neq (.int .i64 (n1 : Int)) (.int .i64 (n2 : Int))).bind fun t3 => U.asBool t3
 (some (.bool false))
 (laws_eqEdgeS_l0 E a0 a1 (.int .i64 0)) := (h.is _ rfl).trans (laws_eqEdgeS_eq E a0 a1)

end Go.Proofs.Ytmebdbagcbgddaa.Am
namespace Go.Proofs.Ytmebdbagcbgddaa.Am
open Go
set_option linter.unusedVariables false
set_option maxRecDepth 100000

/- loop.example/g01924/laws.FnExactAreEdges -/
def laws_FnExactAreEdges_ac : AC :=
 (.seq (.region 0 [⟨some 2, .mv (.c (.bool false)), none⟩])
 (.seq (.region 0 [⟨some 3, .mv (.c (.int .i64 1048576)), none⟩])
 (.seq (.region 0 [⟨some 7, .mv (.t 0), none⟩,
  ⟨some 8, .mv (.t 3), none⟩,
  ⟨some 9, .call false 5 [(.t 7), (.t 8)], none⟩,
  ⟨some 3, .mv (.t 9), none⟩])
 (.seq (.seq (.region 0 [⟨some 10, .mv (.t 3), none⟩,
  ⟨some 11, .bin .lss (.t 10) (.c (.int .i64 0)), none⟩])
 (.cond (.t 11) (.seq (.region 0 [⟨some 2, .mv (.c (.bool true)), none⟩])
 .ret) .skip))
 (.seq (.region 0 [⟨some 12, .mv (.t 0), none⟩,
  ⟨some 13, .call false 1 [(.t 12)], none⟩,
  ⟨some 14, .call false 4 [(.t 13)], none⟩,
  ⟨some 4, .mv (.t 14), none⟩])
 (.seq (.region 0 [⟨some 15, .mv (.t 0), none⟩,
  ⟨some 16, .call false 1 [(.t 15)], none⟩,
  ⟨some 5, .mv (.t 16), none⟩])
 (.seq (.region 0 [⟨some 17, .mv (.t 5), none⟩,
  ⟨some 18, .call false 3 [(.t 17)], none⟩,
  ⟨some 6, .mv (.t 18), none⟩])
 (.seq (.seq (.region 0 [⟨some 19, .mv (.t 6), none⟩,
  ⟨some 20, .mv (.t 4), none⟩,
  ⟨some 21, .eqv true 0 (.t 19) (.t 20), none⟩])
 (.cond (.t 21) (.seq (.region 0 [⟨some 2, .mv (.c (.bool false)), none⟩])
 .ret) .skip))
 (.seq (.seq (.region 0 [⟨some 22, .mv (.t 5), none⟩,
  ⟨some 23, .mv (.t 0), none⟩,
  ⟨some 24, .call false 1 [(.t 23)], none⟩,
  ⟨some 25, .call false 2 [(.t 22), (.t 24)], none⟩,
  ⟨some 26, .un .not (.t 25), none⟩])
 (.cond (.t 26) (.seq (.region 0 [⟨some 2, .mv (.c (.bool false)), none⟩])
 .ret) .skip))
 (.seq (.region 0 [⟨some 2, .mv (.c (.bool true)), none⟩])
 .ret))))))))))

theorem laws_FnExactAreEdges_eq (E : Env) (a0 : U) : run E laws_FnExactAreEdges_ac [(2, none)] [a0] =
 (E 5 [a0, (.int .i64 1048576)]).bind fun t1 => (U.bin .lss t1 (.int .i64 0)).bind fun t2 => U.asBool t2
 (some (.bool true))
 ((E 1 [a0]).bind fun t3 => (E 4 [t3]).bind fun t4 => (E 1 [a0]).bind fun t5 => (E 3 [t5]).bind fun t6 => (U.eqv 0 t6 t4).bind fun q7 => U.asBool (.bool (!q7))
 (some (.bool false))
 ((E 1 [a0]).bind fun t8 => (E 2 [t5, t8]).bind fun t9 => (U.un .not t9).bind fun t10 => U.asBool t10
 (some (.bool false))
 (some (.bool true)))) := by kernel_rfl

/-- In the environment E: this function and those that it calls. -/
structure G_laws_FnExactAreEdges (E : Env) : Prop where
  is : Is E 0 1 laws_FnExactAreEdges_ac [(2, none)]
  c_laws_szEdgeS : G_laws_szEdgeS E
  c_spec_AreEdges : G_spec_AreEdges E
  c_laws_toEdgeS : G_laws_toEdgeS E
  c_impl_AreEdges : G_impl_AreEdges E
  c_laws_eqEdgeS : G_laws_eqEdgeS E
theorem laws_FnExactAreEdges_E {E : Env} (h : G_laws_FnExactAreEdges E) (a0 : U) : E 0 [a0] =
 (E 5 [a0, (.int .i64 1048576)]).bind fun t1 => (U.bin .lss t1 (.int .i64 0)).bind fun t2 => U.asBool t2
 (some (.bool true))
 ((E 1 [a0]).bind fun t3 => (E 4 [t3]).bind fun t4 => (E 1 [a0]).bind fun t5 => (E 3 [t5]).bind fun t6 => (U.eqv 0 t6 t4).bind fun q7 => U.asBool (.bool (!q7))
 (some (.bool false))
 ((E 1 [a0]).bind fun t8 => (E 2 [t5, t8]).bind fun t9 => (U.un .not t9).bind fun t10 => U.asBool t10
 (some (.bool false))
 (some (.bool true)))) := (h.is _ rfl).trans (laws_FnExactAreEdges_eq E a0)

end Go.Proofs.Ytmebdbagcbgddaa.Am
