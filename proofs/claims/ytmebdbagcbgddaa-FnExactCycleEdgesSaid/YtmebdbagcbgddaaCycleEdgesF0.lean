import Derived.KernelRfl
import Derived.Test.YtmebdbagcbgddaaAmW
namespace Go.Proofs.Ytmebdbagcbgddaa.Am
open Go
set_option linter.unusedVariables false
set_option maxRecDepth 100000

/- loop.example/g01924/laws.szEdgeS -/
def laws_szEdgeS_ac : AC :=
 (.seq (.region 0 [⟨some 4, .mv (.c (.int .i64 0)), none⟩])
 (.seq (.region 0 [⟨some 5, .mv (.t 1), none⟩,
  ⟨some 6, .mv (.t 0), none⟩,
  ⟨some 7, .len false (.t 6), none⟩,
  ⟨some 8, .bin .sub (.t 5) (.t 7), none⟩,
  ⟨some 1, .mv (.t 8), none⟩])
 (.seq (.seq (.region 0 [⟨some 9, .mv (.t 1), none⟩,
  ⟨some 10, .bin .lss (.t 9) (.c (.int .i64 0)), none⟩])
 (.cond (.t 10) (.seq (.region 0 [⟨some 4, .mv (.c (.int .i64 (-1))), none⟩])
 .ret) .skip))
 (.seq (.region 0 [⟨some 11, .mv (.t 1), none⟩,
  ⟨some 4, .mv (.t 11), none⟩])
 .ret))))

theorem laws_szEdgeS_eq (E : Env) (a0 : U) (a1 : U) : run E laws_szEdgeS_ac [(4, none)] [a0, a1] =
 (U.lenOf false a0).bind fun n1 => (U.bin .sub a1 (.int .i64 (n1 : Int))).bind fun t2 => (U.bin .lss t2 (.int .i64 0)).bind fun t3 => U.asBool t3
 (some (.int .i64 (-1)))
 (some t2) := by kernel_rfl

/-- In the environment E: this function and those that it calls. -/
structure G_laws_szEdgeS (E : Env) : Prop where
  is : Is E 5 2 laws_szEdgeS_ac [(4, none)]
theorem laws_szEdgeS_E {E : Env} (h : G_laws_szEdgeS E) (a0 a1 : U) : E 5 [a0, a1] =
 (U.lenOf false a0).bind fun n1 => (U.bin .sub a1 (.int .i64 (n1 : Int))).bind fun t2 => (U.bin .lss t2 (.int .i64 0)).bind fun t3 => U.asBool t3
 (some (.int .i64 (-1)))
 (some t2) := (h.is _ rfl).trans ((runQ_V rfl).trans (laws_szEdgeS_eq E a0 a1))

end Go.Proofs.Ytmebdbagcbgddaa.Am
namespace Go.Proofs.Ytmebdbagcbgddaa.Am
open Go
set_option linter.unusedVariables false
set_option maxRecDepth 100000

/- loop.example/g01924/laws.toEdge -/
def laws_toEdge_ac : AC :=
 (.seq (.region 0 [⟨some 1, .box false (.t 0), none⟩,
  ⟨some 2, .alloc (.agg [(.int .i64 0), (.int .i64 0), (.int .i64 0), (.int .i64 0)]), none⟩])
 (.seq (.region 0 [⟨some 3, .alloc (.agg [(.int .i64 0), (.int .i64 0), (.int .i64 0), (.int .i64 0)]), none⟩])
 (.seq (.region 0 [⟨some 4, .faddr 0 0 (.t 1), none⟩,
  ⟨some 5, .load false 1 (.t 4), none⟩,
  ⟨some 6, .faddr 0 0 (.t 3), none⟩,
  ⟨none, .store 1 (.t 6) (.t 5), none⟩])
 (.seq (.region 0 [⟨some 7, .faddr 1 1 (.t 1), none⟩,
  ⟨some 8, .load false 1 (.t 7), none⟩,
  ⟨some 9, .faddr 1 1 (.t 3), none⟩,
  ⟨none, .store 1 (.t 9) (.t 8), none⟩])
 (.seq (.region 0 [⟨some 10, .faddr 2 2 (.t 1), none⟩,
  ⟨some 11, .load false 1 (.t 10), none⟩,
  ⟨some 12, .faddr 2 2 (.t 3), none⟩,
  ⟨none, .store 1 (.t 12) (.t 11), none⟩])
 (.seq (.region 0 [⟨some 13, .faddr 3 3 (.t 1), none⟩,
  ⟨some 14, .load false 1 (.t 13), none⟩,
  ⟨some 15, .faddr 3 3 (.t 3), none⟩,
  ⟨none, .store 1 (.t 15) (.t 14), none⟩])
 (.seq (.region 0 [⟨some 16, .load true 4 (.t 3), none⟩,
  ⟨none, .store 4 (.t 2) (.t 16), none⟩])
 .ret)))))))

theorem laws_toEdge_eq (E : Env) (a0 : U) : run E laws_toEdge_ac [(2, some (true, 4))] [a0] =
 U.noTup a0 fun x1 => U.asAgg x1 fun us2 => if 0 = sizes (us2.take 0) then (us2[0]?).bind fun e3 => U.asVar false 1 e3 fun e4 => if storable (.val e4) = true ∧ e4.size = 1 then U.asAgg x1 fun us5 => if 1 = sizes (us5.take 1) then (us5[1]?).bind fun e6 => U.asVar false 1 e6 fun e7 => if storable (.val e7) = true ∧ e7.size = 1 then if 1 = sizes [e4] then U.asAgg x1 fun us8 => if 2 = sizes (us8.take 2) then (us8[2]?).bind fun e9 => U.asVar false 1 e9 fun e10 => if storable (.val e10) = true ∧ e10.size = 1 then if 2 = sizes [e4, e7] then U.asAgg x1 fun us11 => if 3 = sizes (us11.take 3) then (us11[3]?).bind fun e12 => U.asVar false 1 e12 fun e13 => if storable (.val e13) = true ∧ e13.size = 1 then if 3 = sizes [e4, e7, e10] then U.asVar true 4 (.agg [e4, e7, e10, e13]) fun e14 => if storable (.val e14) = true ∧ e14.size = 4 then U.asVar true 4 e14 fun e15 => some e15 else none else none else none else none else none else none else none else none else none else none else none else none := by kernel_rfl

/-- In the environment E: this function and those that it calls. -/
structure G_laws_toEdge (E : Env) : Prop where
  is : Is E 8 1 laws_toEdge_ac [(2, some (true, 4))]
theorem laws_toEdge_E {E : Env} (h : G_laws_toEdge E) (a0 : U) : E 8 [a0] =
 U.noTup a0 fun x1 => U.asAgg x1 fun us2 => if 0 = sizes (us2.take 0) then (us2[0]?).bind fun e3 => U.asVar false 1 e3 fun e4 => if storable (.val e4) = true ∧ e4.size = 1 then U.asAgg x1 fun us5 => if 1 = sizes (us5.take 1) then (us5[1]?).bind fun e6 => U.asVar false 1 e6 fun e7 => if storable (.val e7) = true ∧ e7.size = 1 then if 1 = sizes [e4] then U.asAgg x1 fun us8 => if 2 = sizes (us8.take 2) then (us8[2]?).bind fun e9 => U.asVar false 1 e9 fun e10 => if storable (.val e10) = true ∧ e10.size = 1 then if 2 = sizes [e4, e7] then U.asAgg x1 fun us11 => if 3 = sizes (us11.take 3) then (us11[3]?).bind fun e12 => U.asVar false 1 e12 fun e13 => if storable (.val e13) = true ∧ e13.size = 1 then if 3 = sizes [e4, e7, e10] then U.asVar true 4 (.agg [e4, e7, e10, e13]) fun e14 => if storable (.val e14) = true ∧ e14.size = 4 then U.asVar true 4 e14 fun e15 => some e15 else none else none else none else none else none else none else none else none else none else none else none else none := (h.is _ rfl).trans ((runQ_V rfl).trans (laws_toEdge_eq E a0))

end Go.Proofs.Ytmebdbagcbgddaa.Am
namespace Go.Proofs.Ytmebdbagcbgddaa.Am
open Go
set_option linter.unusedVariables false
set_option maxRecDepth 100000

/- loop.example/g01924/laws.toEdgeS -/
def laws_toEdgeS_b0 : AC :=
 (.seq (.seq (.region 0 [⟨some 8, .mv (.t 4), none⟩,
  ⟨some 9, .mv (.t 0), none⟩,
  ⟨some 10, .len false (.t 9), none⟩,
  ⟨some 11, .bin .lss (.t 8) (.t 10), none⟩])
 (.cond (.t 11) .skip (.exit 0)))
 (.seq (.block 1 (.region 0 [⟨some 14, .mv (.t 3), none⟩,
  ⟨some 15, .mv (.t 4), none⟩,
  ⟨some 16, .mv (.t 0), none⟩,
  ⟨some 17, .mv (.t 4), none⟩,
  ⟨some 18, .iaddr 4 (.t 16) (.t 17), none⟩,
  ⟨some 19, .load true 4 (.t 18), none⟩,
  ⟨some 20, .call false 8 [(.t 19)], none⟩,
  ⟨some 21, .iaddr 4 (.t 14) (.t 15), none⟩,
  ⟨none, .store 4 (.t 21) (.t 20), none⟩]))
 (.region 0 [⟨some 12, .mv (.t 4), none⟩,
  ⟨some 13, .bin .add (.t 12) (.c (.int .i64 1)), none⟩,
  ⟨some 4, .mv (.t 13), none⟩])))
def laws_toEdgeS_r0 : AC :=
 (.seq (.region 0 [⟨some 22, .mv (.t 3), none⟩,
  ⟨some 2, .mv (.t 22), none⟩])
 .ret)
def laws_toEdgeS_ac : AC :=
 (.seq (.region 0 [⟨some 2, .mv (.c (.nsl 4)), none⟩])
 (.seq (.region 0 [⟨some 5, .mv (.t 0), none⟩,
  ⟨some 6, .len false (.t 5), none⟩,
  ⟨some 7, .mkslice 4 32 (.agg [(.int .i64 0), (.int .i64 0), (.int .i64 0), (.int .i64 0)]) (.t 6) (.t 6), none⟩,
  ⟨some 3, .mv (.t 7), none⟩])
 (.seq (.seq (.region 0 [⟨some 4, .mv (.c (.int .i64 0)), none⟩])
 (.block 0 (.loop ⟨[0, 4], [(3, 4)], []⟩ laws_toEdgeS_b0)))
 laws_toEdgeS_r0)))
noncomputable def laws_toEdgeS_l0 (E : Env) (x0 : U) (x4 : U) (c3 : List U) : Option U := loopK (roundOf E ⟨[0, 4], [(3, 4)], []⟩ laws_toEdgeS_b0 (blockK 0 (seqK (fun s => exec E laws_toEdgeS_r0 s (finish [(2, none)])) (finish [(2, none)])))) ([.val x0, .val x4], [.arr 4 c3])
theorem laws_toEdgeS_eq (E : Env) (a0 : U) : run E laws_toEdgeS_ac [(2, none)] [a0] =
 (U.lenOf false a0).bind fun n1 => if 0 ≤ (n1 : Int) ∧ (n1 : Int) ≤ (n1 : Int) ∧ (n1 : Int) * 32 ≤ 140737488355328 ∧ ((.agg [(.int .i64 0), (.int .i64 0), (.int .i64 0), (.int .i64 0)]) : U).size = 4 then laws_toEdgeS_l0 E a0 (.int .i64 0) (List.replicate ((n1 : Int) : Int).toNat (.agg [(.int .i64 0), (.int .i64 0), (.int .i64 0), (.int .i64 0)])) else none := by kernel_rfl
theorem laws_toEdgeS_l0_eq (E : Env) (x0 : U) (x4 : U) (c3 : List U) : laws_toEdgeS_l0 E x0 x4 c3 =
 (U.lenOf false x0).bind fun n2 => (U.bin .lss x4 (.int .i64 (n2 : Int))).bind fun t3 => U.asBool t3
 (U.asInt x4 fun n4 => U.elemAt 4 x0 n4 fun e5 => U.asVar true 4 e5 fun e6 => (E 8 [e6]).bind fun t7 => U.asInt x4 fun n8 => if 4 = 4 ∧ 4 = 4 ∧ 0 ≤ n8 ∧ n8 < ((c3).length : Int) then if storable (.val t7) = true ∧ t7.size = 4 then if 4 = 4 then (c3[(n8 : Int).toNat]?).bind fun e9 => if e9.size = 4 then (U.bin .add x4 (.int .i64 1)).bind fun t10 => laws_toEdgeS_l0 E x0 t10 (c3.set (n8 : Int).toNat t7) else none else none else none else none)
 (some (.sl 4 c3)) :=
 (loop_eq E _ _ _ _).trans (by kernel_rfl)

/-- In the environment E: this function and those that it calls. -/
structure G_laws_toEdgeS (E : Env) : Prop where
  is : Is E 1 1 laws_toEdgeS_ac [(2, none)]
  c_laws_toEdge : G_laws_toEdge E
theorem laws_toEdgeS_E {E : Env} (h : G_laws_toEdgeS E) (a0 : U) : E 1 [a0] =
 (U.lenOf false a0).bind fun n1 => if 0 ≤ (n1 : Int) ∧ (n1 : Int) ≤ (n1 : Int) ∧ (n1 : Int) * 32 ≤ 140737488355328 ∧ ((.agg [(.int .i64 0), (.int .i64 0), (.int .i64 0), (.int .i64 0)]) : U).size = 4 then laws_toEdgeS_l0 E a0 (.int .i64 0) (List.replicate ((n1 : Int) : Int).toNat (.agg [(.int .i64 0), (.int .i64 0), (.int .i64 0), (.int .i64 0)])) else none := (h.is _ rfl).trans ((runQ_V rfl).trans (laws_toEdgeS_eq E a0))

end Go.Proofs.Ytmebdbagcbgddaa.Am
namespace Go.Proofs.Ytmebdbagcbgddaa.Am
open Go
set_option linter.unusedVariables false
set_option maxRecDepth 100000

/- loop.example/g01924/laws.eqEdge -/
def laws_eqEdge_ac : AC :=
 (.seq (.region 0 [⟨some 2, .box false (.t 0), none⟩,
  ⟨some 3, .box false (.t 1), none⟩,
  ⟨some 4, .mv (.c (.bool false)), none⟩])
 (.seq (.seq (.region 0 [⟨some 5, .faddr 0 0 (.t 2), none⟩,
  ⟨some 6, .load false 1 (.t 5), none⟩,
  ⟨some 7, .faddr 0 0 (.t 3), none⟩,
  ⟨some 8, .load false 1 (.t 7), none⟩,
  ⟨some 9, .bin .neq (.t 6) (.t 8), none⟩])
 (.cond (.t 9) (.seq (.region 0 [⟨some 4, .mv (.c (.bool false)), none⟩])
 .ret) .skip))
 (.seq (.seq (.region 0 [⟨some 10, .faddr 1 1 (.t 2), none⟩,
  ⟨some 11, .load false 1 (.t 10), none⟩,
  ⟨some 12, .faddr 1 1 (.t 3), none⟩,
  ⟨some 13, .load false 1 (.t 12), none⟩,
  ⟨some 14, .bin .neq (.t 11) (.t 13), none⟩])
 (.cond (.t 14) (.seq (.region 0 [⟨some 4, .mv (.c (.bool false)), none⟩])
 .ret) .skip))
 (.seq (.seq (.region 0 [⟨some 15, .faddr 2 2 (.t 2), none⟩,
  ⟨some 16, .load false 1 (.t 15), none⟩,
  ⟨some 17, .faddr 2 2 (.t 3), none⟩,
  ⟨some 18, .load false 1 (.t 17), none⟩,
  ⟨some 19, .bin .neq (.t 16) (.t 18), none⟩])
 (.cond (.t 19) (.seq (.region 0 [⟨some 4, .mv (.c (.bool false)), none⟩])
 .ret) .skip))
 (.seq (.seq (.region 0 [⟨some 20, .faddr 3 3 (.t 2), none⟩,
  ⟨some 21, .load false 1 (.t 20), none⟩,
  ⟨some 22, .faddr 3 3 (.t 3), none⟩,
  ⟨some 23, .load false 1 (.t 22), none⟩,
  ⟨some 24, .bin .neq (.t 21) (.t 23), none⟩])
 (.cond (.t 24) (.seq (.region 0 [⟨some 4, .mv (.c (.bool false)), none⟩])
 .ret) .skip))
 (.seq (.region 0 [⟨some 4, .mv (.c (.bool true)), none⟩])
 .ret))))))

theorem laws_eqEdge_eq (E : Env) (a0 : U) (a1 : U) : run E laws_eqEdge_ac [(4, none)] [a0, a1] =
 U.noTup a0 fun x1 => U.noTup a1 fun x2 => U.asAgg x1 fun us3 => if 0 = sizes (us3.take 0) then (us3[0]?).bind fun e4 => U.asVar false 1 e4 fun e5 => U.asAgg x2 fun us6 => if 0 = sizes (us6.take 0) then (us6[0]?).bind fun e7 => U.asVar false 1 e7 fun e8 => (U.bin .neq e5 e8).bind fun t9 => U.asBool t9
 (some (.bool false))
 (U.asAgg x1 fun us10 => if 1 = sizes (us10.take 1) then (us10[1]?).bind fun e11 => U.asVar false 1 e11 fun e12 => U.asAgg x2 fun us13 => if 1 = sizes (us13.take 1) then (us13[1]?).bind fun e14 => U.asVar false 1 e14 fun e15 => (U.bin .neq e12 e15).bind fun t16 => U.asBool t16
 (some (.bool false))
 (U.asAgg x1 fun us17 => if 2 = sizes (us17.take 2) then (us17[2]?).bind fun e18 => U.asVar false 1 e18 fun e19 => U.asAgg x2 fun us20 => if 2 = sizes (us20.take 2) then (us20[2]?).bind fun e21 => U.asVar false 1 e21 fun e22 => (U.bin .neq e19 e22).bind fun t23 => U.asBool t23
 (some (.bool false))
 (U.asAgg x1 fun us24 => if 3 = sizes (us24.take 3) then (us24[3]?).bind fun e25 => U.asVar false 1 e25 fun e26 => U.asAgg x2 fun us27 => if 3 = sizes (us27.take 3) then (us27[3]?).bind fun e28 => U.asVar false 1 e28 fun e29 => (U.bin .neq e26 e29).bind fun t30 => U.asBool t30
 (some (.bool false))
 (some (.bool true)) else none else none) else none else none) else none else none) else none else none := by kernel_rfl

/-- In the environment E: this function and those that it calls. -/
structure G_laws_eqEdge (E : Env) : Prop where
  is : Is E 16 2 laws_eqEdge_ac [(4, none)]
theorem laws_eqEdge_E {E : Env} (h : G_laws_eqEdge E) (a0 a1 : U) : E 16 [a0, a1] =
 U.noTup a0 fun x1 => U.noTup a1 fun x2 => U.asAgg x1 fun us3 => if 0 = sizes (us3.take 0) then (us3[0]?).bind fun e4 => U.asVar false 1 e4 fun e5 => U.asAgg x2 fun us6 => if 0 = sizes (us6.take 0) then (us6[0]?).bind fun e7 => U.asVar false 1 e7 fun e8 => (U.bin .neq e5 e8).bind fun t9 => U.asBool t9
 (some (.bool false))
 (U.asAgg x1 fun us10 => if 1 = sizes (us10.take 1) then (us10[1]?).bind fun e11 => U.asVar false 1 e11 fun e12 => U.asAgg x2 fun us13 => if 1 = sizes (us13.take 1) then (us13[1]?).bind fun e14 => U.asVar false 1 e14 fun e15 => (U.bin .neq e12 e15).bind fun t16 => U.asBool t16
 (some (.bool false))
 (U.asAgg x1 fun us17 => if 2 = sizes (us17.take 2) then (us17[2]?).bind fun e18 => U.asVar false 1 e18 fun e19 => U.asAgg x2 fun us20 => if 2 = sizes (us20.take 2) then (us20[2]?).bind fun e21 => U.asVar false 1 e21 fun e22 => (U.bin .neq e19 e22).bind fun t23 => U.asBool t23
 (some (.bool false))
 (U.asAgg x1 fun us24 => if 3 = sizes (us24.take 3) then (us24[3]?).bind fun e25 => U.asVar false 1 e25 fun e26 => U.asAgg x2 fun us27 => if 3 = sizes (us27.take 3) then (us27[3]?).bind fun e28 => U.asVar false 1 e28 fun e29 => (U.bin .neq e26 e29).bind fun t30 => U.asBool t30
 (some (.bool false))
 (some (.bool true)) else none else none) else none else none) else none else none) else none else none := (h.is _ rfl).trans ((runQ_V rfl).trans (laws_eqEdge_eq E a0 a1))

end Go.Proofs.Ytmebdbagcbgddaa.Am
namespace Go.Proofs.Ytmebdbagcbgddaa.Am
open Go
set_option linter.unusedVariables false
set_option maxRecDepth 100000

/- loop.example/g01924/laws.eqEdgeS -/
def laws_eqEdgeS_b0 : AC :=
 (.seq (.seq (.region 0 [⟨some 11, .mv (.t 5), none⟩,
  ⟨some 12, .mv (.t 0), none⟩,
  ⟨some 13, .len false (.t 12), none⟩,
  ⟨some 14, .bin .lss (.t 11) (.t 13), none⟩])
 (.cond (.t 14) .skip (.exit 0)))
 (.seq (.block 1 (.seq (.region 10 [⟨some 17, .mv (.t 0), none⟩,
  ⟨some 18, .mv (.t 5), none⟩,
  ⟨some 19, .iaddr 4 (.t 17) (.t 18), none⟩,
  ⟨some 20, .load true 4 (.t 19), none⟩,
  ⟨some 21, .mv (.t 1), none⟩,
  ⟨some 22, .mv (.t 5), none⟩,
  ⟨some 23, .iaddr 4 (.t 21) (.t 22), none⟩,
  ⟨some 24, .load true 4 (.t 23), none⟩,
  ⟨some 25, .call false 16 [(.t 20), (.t 24)], none⟩,
  ⟨some 26, .un .not (.t 25), none⟩])
 (.cond (.t 26) (.seq (.region 0 [⟨some 4, .mv (.c (.bool false)), none⟩])
 .ret) .skip)))
 (.region 0 [⟨some 15, .mv (.t 5), none⟩,
  ⟨some 16, .bin .add (.t 15) (.c (.int .i64 1)), none⟩,
  ⟨some 5, .mv (.t 16), none⟩])))
def laws_eqEdgeS_r0 : AC :=
 (.seq (.region 0 [⟨some 4, .mv (.c (.bool true)), none⟩])
 .ret)
def laws_eqEdgeS_ac : AC :=
 (.seq (.region 0 [⟨some 4, .mv (.c (.bool false)), none⟩])
 (.seq (.seq (.region 0 [⟨some 6, .mv (.t 0), none⟩,
  ⟨some 7, .len false (.t 6), none⟩,
  ⟨some 8, .mv (.t 1), none⟩,
  ⟨some 9, .len false (.t 8), none⟩,
  ⟨some 10, .bin .neq (.t 7) (.t 9), none⟩])
 (.cond (.t 10) (.seq (.region 0 [⟨some 4, .mv (.c (.bool false)), none⟩])
 .ret) .skip))
 (.seq (.seq (.region 0 [⟨some 5, .mv (.c (.int .i64 0)), none⟩])
 (.block 0 (.loop ⟨[0, 1, 5], [], []⟩ laws_eqEdgeS_b0)))
 laws_eqEdgeS_r0)))
noncomputable def laws_eqEdgeS_l0 (E : Env) (x0 : U) (x1 : U) (x5 : U) : Option U := loopK (roundOf E ⟨[0, 1, 5], [], []⟩ laws_eqEdgeS_b0 (blockK 0 (seqK (fun s => exec E laws_eqEdgeS_r0 s (finish [(4, none)])) (finish [(4, none)])))) ([.val x0, .val x1, .val x5], [])
theorem laws_eqEdgeS_eq (E : Env) (a0 : U) (a1 : U) : run E laws_eqEdgeS_ac [(4, none)] [a0, a1] =
 (U.lenOf false a0).bind fun n1 => (U.lenOf false a1).bind fun n2 => (U.bin .neq (.int .i64 (n1 : Int)) (.int .i64 (n2 : Int))).bind fun t3 => U.asBool t3
 (some (.bool false))
 (laws_eqEdgeS_l0 E a0 a1 (.int .i64 0)) := by kernel_rfl
theorem laws_eqEdgeS_l0_eq (E : Env) (x0 : U) (x1 : U) (x5 : U) : laws_eqEdgeS_l0 E x0 x1 x5 =
 (U.lenOf false x0).bind fun n4 => (U.bin .lss x5 (.int .i64 (n4 : Int))).bind fun t5 => U.asBool t5
 (U.asInt x5 fun n6 => U.elemAt 4 x0 n6 fun e7 => U.asVar true 4 e7 fun e8 => U.asInt x5 fun n9 => U.elemAt 4 x1 n9 fun e10 => U.asVar true 4 e10 fun e11 => (E 16 [e8, e11]).bind fun t12 => (U.un .not t12).bind fun t13 => U.asBool t13
 (some (.bool false))
 ((U.bin .add x5 (.int .i64 1)).bind fun t14 => laws_eqEdgeS_l0 E x0 x1 t14))
 (some (.bool true)) :=
 (loop_eq E _ _ _ _).trans (by kernel_rfl)

/-- In the environment E: this function and those that it calls. -/
structure G_laws_eqEdgeS (E : Env) : Prop where
  is : Is E 2 2 laws_eqEdgeS_ac [(4, none)]
  c_laws_eqEdge : G_laws_eqEdge E
theorem laws_eqEdgeS_E {E : Env} (h : G_laws_eqEdgeS E) (a0 a1 : U) : E 2 [a0, a1] =
 (U.lenOf false a0).bind fun n1 => (U.lenOf false a1).bind fun n2 => (U.bin .neq (.int .i64 (n1 : Int)) (.int .i64 (n2 : Int))).bind fun t3 => U.asBool t3
 (some (.bool false))
 (laws_eqEdgeS_l0 E a0 a1 (.int .i64 0)) := (h.is _ rfl).trans ((runQ_V rfl).trans (laws_eqEdgeS_eq E a0 a1))

end Go.Proofs.Ytmebdbagcbgddaa.Am
namespace Go.Proofs.Ytmebdbagcbgddaa.Am
open Go
set_option linter.unusedVariables false
set_option maxRecDepth 100000

/- loop.example/g01924/laws.toIntS -/
def laws_toIntS_b0 : AC :=
 (.seq (.seq (.region 0 [⟨some 8, .mv (.t 4), none⟩,
  ⟨some 9, .mv (.t 0), none⟩,
  ⟨some 10, .len false (.t 9), none⟩,
  ⟨some 11, .bin .lss (.t 8) (.t 10), none⟩])
 (.cond (.t 11) .skip (.exit 0)))
 (.seq (.block 1 (.region 0 [⟨some 14, .mv (.t 3), none⟩,
  ⟨some 15, .mv (.t 4), none⟩,
  ⟨some 16, .mv (.t 0), none⟩,
  ⟨some 17, .mv (.t 4), none⟩,
  ⟨some 18, .iaddr 1 (.t 16) (.t 17), none⟩,
  ⟨some 19, .load false 1 (.t 18), none⟩,
  ⟨some 20, .iaddr 1 (.t 14) (.t 15), none⟩,
  ⟨none, .store 1 (.t 20) (.t 19), none⟩]))
 (.region 0 [⟨some 12, .mv (.t 4), none⟩,
  ⟨some 13, .bin .add (.t 12) (.c (.int .i64 1)), none⟩,
  ⟨some 4, .mv (.t 13), none⟩])))
def laws_toIntS_r0 : AC :=
 (.seq (.region 0 [⟨some 21, .mv (.t 3), none⟩,
  ⟨some 2, .mv (.t 21), none⟩])
 .ret)
def laws_toIntS_ac : AC :=
 (.seq (.region 0 [⟨some 2, .mv (.c (.nsl 1)), none⟩])
 (.seq (.region 0 [⟨some 5, .mv (.t 0), none⟩,
  ⟨some 6, .len false (.t 5), none⟩,
  ⟨some 7, .mkslice 1 8 (.int .i64 0) (.t 6) (.t 6), none⟩,
  ⟨some 3, .mv (.t 7), none⟩])
 (.seq (.seq (.region 0 [⟨some 4, .mv (.c (.int .i64 0)), none⟩])
 (.block 0 (.loop ⟨[0, 4], [(3, 1)], []⟩ laws_toIntS_b0)))
 laws_toIntS_r0)))
noncomputable def laws_toIntS_l0 (E : Env) (x0 : U) (x4 : U) (c3 : List U) : Option U := loopK (roundOf E ⟨[0, 4], [(3, 1)], []⟩ laws_toIntS_b0 (blockK 0 (seqK (fun s => exec E laws_toIntS_r0 s (finish [(2, none)])) (finish [(2, none)])))) ([.val x0, .val x4], [.arr 1 c3])
theorem laws_toIntS_eq (E : Env) (a0 : U) : run E laws_toIntS_ac [(2, none)] [a0] =
 (U.lenOf false a0).bind fun n1 => if 0 ≤ (n1 : Int) ∧ (n1 : Int) ≤ (n1 : Int) ∧ (n1 : Int) * 8 ≤ 140737488355328 ∧ ((.int .i64 0) : U).size = 1 then laws_toIntS_l0 E a0 (.int .i64 0) (List.replicate ((n1 : Int) : Int).toNat (.int .i64 0)) else none := by kernel_rfl
theorem laws_toIntS_l0_eq (E : Env) (x0 : U) (x4 : U) (c3 : List U) : laws_toIntS_l0 E x0 x4 c3 =
 (U.lenOf false x0).bind fun n2 => (U.bin .lss x4 (.int .i64 (n2 : Int))).bind fun t3 => U.asBool t3
 (U.asInt x4 fun n4 => U.elemAt 1 x0 n4 fun e5 => U.asVar false 1 e5 fun e6 => U.asInt x4 fun n7 => if 1 = 1 ∧ 1 = 1 ∧ 0 ≤ n7 ∧ n7 < ((c3).length : Int) then if storable (.val e6) = true ∧ e6.size = 1 then if 1 = 1 then (c3[(n7 : Int).toNat]?).bind fun e8 => if e8.size = 1 then (U.bin .add x4 (.int .i64 1)).bind fun t9 => laws_toIntS_l0 E x0 t9 (c3.set (n7 : Int).toNat e6) else none else none else none else none)
 (some (.sl 1 c3)) :=
 (loop_eq E _ _ _ _).trans (by kernel_rfl)

/-- In the environment E: this function and those that it calls. -/
structure G_laws_toIntS (E : Env) : Prop where
  is : Is E 58 1 laws_toIntS_ac [(2, none)]
theorem laws_toIntS_E {E : Env} (h : G_laws_toIntS E) (a0 : U) : E 58 [a0] =
 (U.lenOf false a0).bind fun n1 => if 0 ≤ (n1 : Int) ∧ (n1 : Int) ≤ (n1 : Int) ∧ (n1 : Int) * 8 ≤ 140737488355328 ∧ ((.int .i64 0) : U).size = 1 then laws_toIntS_l0 E a0 (.int .i64 0) (List.replicate ((n1 : Int) : Int).toNat (.int .i64 0)) else none := (h.is _ rfl).trans ((runQ_V rfl).trans (laws_toIntS_eq E a0))

end Go.Proofs.Ytmebdbagcbgddaa.Am
namespace Go.Proofs.Ytmebdbagcbgddaa.Am
open Go
set_option linter.unusedVariables false
set_option maxRecDepth 100000

/- loop.example/g01924/laws.eqIntS -/
def laws_eqIntS_b0 : AC :=
 (.seq (.seq (.region 0 [⟨some 11, .mv (.t 5), none⟩,
  ⟨some 12, .mv (.t 0), none⟩,
  ⟨some 13, .len false (.t 12), none⟩,
  ⟨some 14, .bin .lss (.t 11) (.t 13), none⟩])
 (.cond (.t 14) .skip (.exit 0)))
 (.seq (.block 1 (.seq (.region 9 [⟨some 17, .mv (.t 0), none⟩,
  ⟨some 18, .mv (.t 5), none⟩,
  ⟨some 19, .iaddr 1 (.t 17) (.t 18), none⟩,
  ⟨some 20, .load false 1 (.t 19), none⟩,
  ⟨some 21, .mv (.t 1), none⟩,
  ⟨some 22, .mv (.t 5), none⟩,
  ⟨some 23, .iaddr 1 (.t 21) (.t 22), none⟩,
  ⟨some 24, .load false 1 (.t 23), none⟩,
  ⟨some 25, .bin .neq (.t 20) (.t 24), none⟩])
 (.cond (.t 25) (.seq (.region 0 [⟨some 4, .mv (.c (.bool false)), none⟩])
 .ret) .skip)))
 (.region 0 [⟨some 15, .mv (.t 5), none⟩,
  ⟨some 16, .bin .add (.t 15) (.c (.int .i64 1)), none⟩,
  ⟨some 5, .mv (.t 16), none⟩])))
def laws_eqIntS_r0 : AC :=
 (.seq (.region 0 [⟨some 4, .mv (.c (.bool true)), none⟩])
 .ret)
def laws_eqIntS_ac : AC :=
 (.seq (.region 0 [⟨some 4, .mv (.c (.bool false)), none⟩])
 (.seq (.seq (.region 0 [⟨some 6, .mv (.t 0), none⟩,
  ⟨some 7, .len false (.t 6), none⟩,
  ⟨some 8, .mv (.t 1), none⟩,
  ⟨some 9, .len false (.t 8), none⟩,
  ⟨some 10, .bin .neq (.t 7) (.t 9), none⟩])
 (.cond (.t 10) (.seq (.region 0 [⟨some 4, .mv (.c (.bool false)), none⟩])
 .ret) .skip))
 (.seq (.seq (.region 0 [⟨some 5, .mv (.c (.int .i64 0)), none⟩])
 (.block 0 (.loop ⟨[0, 1, 5], [], []⟩ laws_eqIntS_b0)))
 laws_eqIntS_r0)))
noncomputable def laws_eqIntS_l0 (E : Env) (x0 : U) (x1 : U) (x5 : U) : Option U := loopK (roundOf E ⟨[0, 1, 5], [], []⟩ laws_eqIntS_b0 (blockK 0 (seqK (fun s => exec E laws_eqIntS_r0 s (finish [(4, none)])) (finish [(4, none)])))) ([.val x0, .val x1, .val x5], [])
theorem laws_eqIntS_eq (E : Env) (a0 : U) (a1 : U) : run E laws_eqIntS_ac [(4, none)] [a0, a1] =
 (U.lenOf false a0).bind fun n1 => (U.lenOf false a1).bind fun n2 => (U.bin .neq (.int .i64 (n1 : Int)) (.int .i64 (n2 : Int))).bind fun t3 => U.asBool t3
 (some (.bool false))
 (laws_eqIntS_l0 E a0 a1 (.int .i64 0)) := by kernel_rfl
theorem laws_eqIntS_l0_eq (E : Env) (x0 : U) (x1 : U) (x5 : U) : laws_eqIntS_l0 E x0 x1 x5 =
 (U.lenOf false x0).bind fun n4 => (U.bin .lss x5 (.int .i64 (n4 : Int))).bind fun t5 => U.asBool t5
 (U.asInt x5 fun n6 => U.elemAt 1 x0 n6 fun e7 => U.asVar false 1 e7 fun e8 => U.asInt x5 fun n9 => U.elemAt 1 x1 n9 fun e10 => U.asVar false 1 e10 fun e11 => (U.bin .neq e8 e11).bind fun t12 => U.asBool t12
 (some (.bool false))
 ((U.bin .add x5 (.int .i64 1)).bind fun t13 => laws_eqIntS_l0 E x0 x1 t13))
 (some (.bool true)) :=
 (loop_eq E _ _ _ _).trans (by kernel_rfl)

/-- In the environment E: this function and those that it calls. -/
structure G_laws_eqIntS (E : Env) : Prop where
  is : Is E 59 2 laws_eqIntS_ac [(4, none)]
theorem laws_eqIntS_E {E : Env} (h : G_laws_eqIntS E) (a0 a1 : U) : E 59 [a0, a1] =
 (U.lenOf false a0).bind fun n1 => (U.lenOf false a1).bind fun n2 => (U.bin .neq (.int .i64 (n1 : Int)) (.int .i64 (n2 : Int))).bind fun t3 => U.asBool t3
 (some (.bool false))
 (laws_eqIntS_l0 E a0 a1 (.int .i64 0)) := (h.is _ rfl).trans ((runQ_V rfl).trans (laws_eqIntS_eq E a0 a1))

end Go.Proofs.Ytmebdbagcbgddaa.Am
namespace Go.Proofs.Ytmebdbagcbgddaa.Am
open Go
set_option linter.unusedVariables false
set_option maxRecDepth 100000

/- loop.example/g01924/spec.l1In -/
def spec_l1In_ac : AC :=
 (.seq (.region 0 [⟨some 6, .mv (.c (.bool false)), none⟩])
 (.seq (.region 0 [⟨some 7, .mv (.t 0), none⟩,
  ⟨some 8, .mv (.t 1), none⟩,
  ⟨some 9, .bin .geq (.t 7) (.t 8), none⟩,
  ⟨some 10, .mv (.t 9), none⟩,
  ⟨some 11, .mv (.t 0), some (10, true)⟩,
  ⟨some 12, .mv (.t 2), some (10, true)⟩,
  ⟨some 13, .bin .leq (.t 11) (.t 12), some (10, true)⟩,
  ⟨some 14, .pick (.t 10) (.t 13) (.c (.bool false)), none⟩,
  ⟨some 6, .mv (.t 14), none⟩])
 .ret))

theorem spec_l1In_eq (E : Env) (a0 : U) (a1 : U) (a2 : U) : run E spec_l1In_ac [(6, none)] [a0, a1, a2] =
 (U.bin .geq a0 a1).bind fun t1 => U.asBool t1
 ((U.bin .leq a0 a2).bind fun t2 => some t2)
 (some (.bool false)) := by kernel_rfl

/-- In the environment E: this function and those that it calls. -/
structure G_spec_l1In (E : Env) : Prop where
  is : Is E 6 3 spec_l1In_ac [(6, none)]
theorem spec_l1In_E {E : Env} (h : G_spec_l1In E) (a0 a1 a2 : U) : E 6 [a0, a1, a2] =
 (U.bin .geq a0 a1).bind fun t1 => U.asBool t1
 ((U.bin .leq a0 a2).bind fun t2 => some t2)
 (some (.bool false)) := (h.is _ rfl).trans ((runQ_V rfl).trans (spec_l1In_eq E a0 a1 a2))

end Go.Proofs.Ytmebdbagcbgddaa.Am
namespace Go.Proofs.Ytmebdbagcbgddaa.Am
open Go
set_option linter.unusedVariables false
set_option maxRecDepth 100000

/- loop.example/g01924/spec.l19Less -/
def spec_l19Less_ac : AC :=
 (.seq (.region 0 [⟨some 2, .box false (.t 0), none⟩,
  ⟨some 3, .box false (.t 1), none⟩,
  ⟨some 4, .mv (.c (.bool false)), none⟩])
 (.seq (.seq (.region 0 [⟨some 5, .faddr 0 0 (.t 2), none⟩,
  ⟨some 6, .load false 1 (.t 5), none⟩,
  ⟨some 7, .faddr 0 0 (.t 3), none⟩,
  ⟨some 8, .load false 1 (.t 7), none⟩,
  ⟨some 9, .bin .neq (.t 6) (.t 8), none⟩])
 (.cond (.t 9) (.seq (.region 0 [⟨some 10, .faddr 0 0 (.t 2), none⟩,
  ⟨some 11, .load false 1 (.t 10), none⟩,
  ⟨some 12, .faddr 0 0 (.t 3), none⟩,
  ⟨some 13, .load false 1 (.t 12), none⟩,
  ⟨some 14, .bin .lss (.t 11) (.t 13), none⟩,
  ⟨some 4, .mv (.t 14), none⟩])
 .ret) .skip))
 (.seq (.seq (.region 0 [⟨some 15, .faddr 1 1 (.t 2), none⟩,
  ⟨some 16, .load false 1 (.t 15), none⟩,
  ⟨some 17, .faddr 1 1 (.t 3), none⟩,
  ⟨some 18, .load false 1 (.t 17), none⟩,
  ⟨some 19, .bin .neq (.t 16) (.t 18), none⟩])
 (.cond (.t 19) (.seq (.region 0 [⟨some 20, .faddr 1 1 (.t 2), none⟩,
  ⟨some 21, .load false 1 (.t 20), none⟩,
  ⟨some 22, .faddr 1 1 (.t 3), none⟩,
  ⟨some 23, .load false 1 (.t 22), none⟩,
  ⟨some 24, .bin .lss (.t 21) (.t 23), none⟩,
  ⟨some 4, .mv (.t 24), none⟩])
 .ret) .skip))
 (.seq (.seq (.region 0 [⟨some 25, .faddr 2 2 (.t 2), none⟩,
  ⟨some 26, .load false 1 (.t 25), none⟩,
  ⟨some 27, .faddr 2 2 (.t 3), none⟩,
  ⟨some 28, .load false 1 (.t 27), none⟩,
  ⟨some 29, .bin .neq (.t 26) (.t 28), none⟩])
 (.cond (.t 29) (.seq (.region 0 [⟨some 30, .faddr 2 2 (.t 2), none⟩,
  ⟨some 31, .load false 1 (.t 30), none⟩,
  ⟨some 32, .faddr 2 2 (.t 3), none⟩,
  ⟨some 33, .load false 1 (.t 32), none⟩,
  ⟨some 34, .bin .lss (.t 31) (.t 33), none⟩,
  ⟨some 4, .mv (.t 34), none⟩])
 .ret) .skip))
 (.seq (.region 0 [⟨some 35, .faddr 3 3 (.t 2), none⟩,
  ⟨some 36, .load false 1 (.t 35), none⟩,
  ⟨some 37, .faddr 3 3 (.t 3), none⟩,
  ⟨some 38, .load false 1 (.t 37), none⟩,
  ⟨some 39, .bin .lss (.t 36) (.t 38), none⟩,
  ⟨some 4, .mv (.t 39), none⟩])
 .ret)))))

theorem spec_l19Less_eq (E : Env) (a0 : U) (a1 : U) : run E spec_l19Less_ac [(4, none)] [a0, a1] =
 U.noTup a0 fun x1 => U.noTup a1 fun x2 => U.asAgg x1 fun us3 => if 0 = sizes (us3.take 0) then (us3[0]?).bind fun e4 => U.asVar false 1 e4 fun e5 => U.asAgg x2 fun us6 => if 0 = sizes (us6.take 0) then (us6[0]?).bind fun e7 => U.asVar false 1 e7 fun e8 => (U.bin .neq e5 e8).bind fun t9 => U.asBool t9
 (U.asAgg x1 fun us10 => if 0 = sizes (us10.take 0) then (us10[0]?).bind fun e11 => U.asVar false 1 e11 fun e12 => U.asAgg x2 fun us13 => if 0 = sizes (us13.take 0) then (us13[0]?).bind fun e14 => U.asVar false 1 e14 fun e15 => (U.bin .lss e12 e15).bind fun t16 => some t16 else none else none)
 (U.asAgg x1 fun us17 => if 1 = sizes (us17.take 1) then (us17[1]?).bind fun e18 => U.asVar false 1 e18 fun e19 => U.asAgg x2 fun us20 => if 1 = sizes (us20.take 1) then (us20[1]?).bind fun e21 => U.asVar false 1 e21 fun e22 => (U.bin .neq e19 e22).bind fun t23 => U.asBool t23
 (U.asAgg x1 fun us24 => if 1 = sizes (us24.take 1) then (us24[1]?).bind fun e25 => U.asVar false 1 e25 fun e26 => U.asAgg x2 fun us27 => if 1 = sizes (us27.take 1) then (us27[1]?).bind fun e28 => U.asVar false 1 e28 fun e29 => (U.bin .lss e26 e29).bind fun t30 => some t30 else none else none)
 (U.asAgg x1 fun us31 => if 2 = sizes (us31.take 2) then (us31[2]?).bind fun e32 => U.asVar false 1 e32 fun e33 => U.asAgg x2 fun us34 => if 2 = sizes (us34.take 2) then (us34[2]?).bind fun e35 => U.asVar false 1 e35 fun e36 => (U.bin .neq e33 e36).bind fun t37 => U.asBool t37
 (U.asAgg x1 fun us38 => if 2 = sizes (us38.take 2) then (us38[2]?).bind fun e39 => U.asVar false 1 e39 fun e40 => U.asAgg x2 fun us41 => if 2 = sizes (us41.take 2) then (us41[2]?).bind fun e42 => U.asVar false 1 e42 fun e43 => (U.bin .lss e40 e43).bind fun t44 => some t44 else none else none)
 (U.asAgg x1 fun us45 => if 3 = sizes (us45.take 3) then (us45[3]?).bind fun e46 => U.asVar false 1 e46 fun e47 => U.asAgg x2 fun us48 => if 3 = sizes (us48.take 3) then (us48[3]?).bind fun e49 => U.asVar false 1 e49 fun e50 => (U.bin .lss e47 e50).bind fun t51 => some t51 else none else none) else none else none) else none else none) else none else none := by kernel_rfl

/-- In the environment E: this function and those that it calls. -/
structure G_spec_l19Less (E : Env) : Prop where
  is : Is E 7 2 spec_l19Less_ac [(4, none)]
theorem spec_l19Less_E {E : Env} (h : G_spec_l19Less E) (a0 a1 : U) : E 7 [a0, a1] =
 U.noTup a0 fun x1 => U.noTup a1 fun x2 => U.asAgg x1 fun us3 => if 0 = sizes (us3.take 0) then (us3[0]?).bind fun e4 => U.asVar false 1 e4 fun e5 => U.asAgg x2 fun us6 => if 0 = sizes (us6.take 0) then (us6[0]?).bind fun e7 => U.asVar false 1 e7 fun e8 => (U.bin .neq e5 e8).bind fun t9 => U.asBool t9
 (U.asAgg x1 fun us10 => if 0 = sizes (us10.take 0) then (us10[0]?).bind fun e11 => U.asVar false 1 e11 fun e12 => U.asAgg x2 fun us13 => if 0 = sizes (us13.take 0) then (us13[0]?).bind fun e14 => U.asVar false 1 e14 fun e15 => (U.bin .lss e12 e15).bind fun t16 => some t16 else none else none)
 (U.asAgg x1 fun us17 => if 1 = sizes (us17.take 1) then (us17[1]?).bind fun e18 => U.asVar false 1 e18 fun e19 => U.asAgg x2 fun us20 => if 1 = sizes (us20.take 1) then (us20[1]?).bind fun e21 => U.asVar false 1 e21 fun e22 => (U.bin .neq e19 e22).bind fun t23 => U.asBool t23
 (U.asAgg x1 fun us24 => if 1 = sizes (us24.take 1) then (us24[1]?).bind fun e25 => U.asVar false 1 e25 fun e26 => U.asAgg x2 fun us27 => if 1 = sizes (us27.take 1) then (us27[1]?).bind fun e28 => U.asVar false 1 e28 fun e29 => (U.bin .lss e26 e29).bind fun t30 => some t30 else none else none)
 (U.asAgg x1 fun us31 => if 2 = sizes (us31.take 2) then (us31[2]?).bind fun e32 => U.asVar false 1 e32 fun e33 => U.asAgg x2 fun us34 => if 2 = sizes (us34.take 2) then (us34[2]?).bind fun e35 => U.asVar false 1 e35 fun e36 => (U.bin .neq e33 e36).bind fun t37 => U.asBool t37
 (U.asAgg x1 fun us38 => if 2 = sizes (us38.take 2) then (us38[2]?).bind fun e39 => U.asVar false 1 e39 fun e40 => U.asAgg x2 fun us41 => if 2 = sizes (us41.take 2) then (us41[2]?).bind fun e42 => U.asVar false 1 e42 fun e43 => (U.bin .lss e40 e43).bind fun t44 => some t44 else none else none)
 (U.asAgg x1 fun us45 => if 3 = sizes (us45.take 3) then (us45[3]?).bind fun e46 => U.asVar false 1 e46 fun e47 => U.asAgg x2 fun us48 => if 3 = sizes (us48.take 3) then (us48[3]?).bind fun e49 => U.asVar false 1 e49 fun e50 => (U.bin .lss e47 e50).bind fun t51 => some t51 else none else none) else none else none) else none else none) else none else none := (h.is _ rfl).trans ((runQ_V rfl).trans (spec_l19Less_eq E a0 a1))

end Go.Proofs.Ytmebdbagcbgddaa.Am
namespace Go.Proofs.Ytmebdbagcbgddaa.Am
open Go
set_option linter.unusedVariables false
set_option maxRecDepth 100000

/- loop.example/g01924/spec.AreEdges -/
def spec_AreEdges_b0 : AC :=
 (.seq (.seq (.region 0 [⟨some 4, .mv (.t 3), none⟩,
  ⟨some 5, .mv (.t 0), none⟩,
  ⟨some 6, .len false (.t 5), none⟩,
  ⟨some 7, .bin .lss (.t 4) (.t 6), none⟩])
 (.cond (.t 7) .skip (.exit 0)))
 (.seq (.block 1 (.seq (.region 64 [⟨some 10, .mv (.t 0), none⟩,
  ⟨some 11, .mv (.t 3), none⟩,
  ⟨some 12, .iaddr 4 (.t 10) (.t 11), none⟩,
  ⟨some 13, .faddr 0 0 (.t 12), none⟩,
  ⟨some 14, .load false 1 (.t 13), none⟩,
  ⟨some 15, .call false 6 [(.t 14), (.c (.int .i64 1)), (.c (.int .i64 9))], none⟩,
  ⟨some 16, .un .not (.t 15), none⟩,
  ⟨some 17, .mv (.t 16), none⟩,
  ⟨some 18, .mv (.t 0), some (17, false)⟩,
  ⟨some 19, .mv (.t 3), some (17, false)⟩,
  ⟨some 20, .iaddr 4 (.t 18) (.t 19), some (17, false)⟩,
  ⟨some 21, .faddr 1 1 (.t 20), some (17, false)⟩,
  ⟨some 22, .load false 1 (.t 21), some (17, false)⟩,
  ⟨some 23, .call false 6 [(.t 22), (.c (.int .i64 1)), (.c (.int .i64 9))], some (17, false)⟩,
  ⟨some 24, .un .not (.t 23), some (17, false)⟩,
  ⟨some 25, .pick (.t 17) (.c (.bool true)) (.t 24), none⟩,
  ⟨some 26, .mv (.t 25), none⟩,
  ⟨some 27, .mv (.t 0), some (26, false)⟩,
  ⟨some 28, .mv (.t 3), some (26, false)⟩,
  ⟨some 29, .iaddr 4 (.t 27) (.t 28), some (26, false)⟩,
  ⟨some 30, .faddr 0 0 (.t 29), some (26, false)⟩,
  ⟨some 31, .load false 1 (.t 30), some (26, false)⟩,
  ⟨some 32, .mv (.t 0), some (26, false)⟩,
  ⟨some 33, .mv (.t 3), some (26, false)⟩,
  ⟨some 34, .iaddr 4 (.t 32) (.t 33), some (26, false)⟩,
  ⟨some 35, .faddr 1 1 (.t 34), some (26, false)⟩,
  ⟨some 36, .load false 1 (.t 35), some (26, false)⟩,
  ⟨some 37, .bin .eql (.t 31) (.t 36), some (26, false)⟩,
  ⟨some 38, .pick (.t 26) (.c (.bool true)) (.t 37), none⟩,
  ⟨some 39, .mv (.t 38), none⟩,
  ⟨some 40, .mv (.t 0), some (39, false)⟩,
  ⟨some 41, .mv (.t 3), some (39, false)⟩,
  ⟨some 42, .iaddr 4 (.t 40) (.t 41), some (39, false)⟩,
  ⟨some 43, .faddr 2 2 (.t 42), some (39, false)⟩,
  ⟨some 44, .load false 1 (.t 43), some (39, false)⟩,
  ⟨some 45, .call false 6 [(.t 44), (.c (.int .i64 1)), (.c (.int .i64 3))], some (39, false)⟩,
  ⟨some 46, .un .not (.t 45), some (39, false)⟩,
  ⟨some 47, .pick (.t 39) (.c (.bool true)) (.t 46), none⟩,
  ⟨some 48, .mv (.t 47), none⟩,
  ⟨some 49, .mv (.t 0), some (48, false)⟩,
  ⟨some 50, .mv (.t 3), some (48, false)⟩,
  ⟨some 51, .iaddr 4 (.t 49) (.t 50), some (48, false)⟩,
  ⟨some 52, .faddr 3 3 (.t 51), some (48, false)⟩,
  ⟨some 53, .load false 1 (.t 52), some (48, false)⟩,
  ⟨some 54, .call false 6 [(.t 53), (.c (.int .i64 0)), (.c (.int .i64 5))], some (48, false)⟩,
  ⟨some 55, .un .not (.t 54), some (48, false)⟩,
  ⟨some 56, .pick (.t 48) (.c (.bool true)) (.t 55), none⟩,
  ⟨some 57, .mv (.t 56), none⟩,
  ⟨some 58, .mv (.t 3), some (57, false)⟩,
  ⟨some 59, .bin .gtr (.t 58) (.c (.int .i64 0)), some (57, false)⟩,
  ⟨some 60, .mv (.t 59), some (57, false)⟩,
  ⟨some 61, .mv (.t 0), some (60, true)⟩,
  ⟨some 62, .mv (.t 3), some (60, true)⟩,
  ⟨some 63, .bin .sub (.t 62) (.c (.int .i64 1)), some (60, true)⟩,
  ⟨some 64, .iaddr 4 (.t 61) (.t 63), some (60, true)⟩,
  ⟨some 65, .load true 4 (.t 64), some (60, true)⟩,
  ⟨some 66, .mv (.t 0), some (60, true)⟩,
  ⟨some 67, .mv (.t 3), some (60, true)⟩,
  ⟨some 68, .iaddr 4 (.t 66) (.t 67), some (60, true)⟩,
  ⟨some 69, .load true 4 (.t 68), some (60, true)⟩,
  ⟨some 70, .call false 7 [(.t 65), (.t 69)], some (60, true)⟩,
  ⟨some 71, .un .not (.t 70), some (60, true)⟩,
  ⟨some 72, .pick (.t 60) (.t 71) (.c (.bool false)), some (57, false)⟩,
  ⟨some 73, .pick (.t 57) (.c (.bool true)) (.t 72), none⟩])
 (.cond (.t 73) (.seq (.region 0 [⟨some 2, .mv (.c (.bool false)), none⟩])
 .ret) .skip)))
 (.region 0 [⟨some 8, .mv (.t 3), none⟩,
  ⟨some 9, .bin .add (.t 8) (.c (.int .i64 1)), none⟩,
  ⟨some 3, .mv (.t 9), none⟩])))
def spec_AreEdges_r0 : AC :=
 (.seq (.region 0 [⟨some 2, .mv (.c (.bool true)), none⟩])
 .ret)
def spec_AreEdges_ac : AC :=
 (.seq (.region 0 [⟨some 2, .mv (.c (.bool false)), none⟩])
 (.seq (.seq (.region 0 [⟨some 3, .mv (.c (.int .i64 0)), none⟩])
 (.block 0 (.loop ⟨[0, 3], [], []⟩ spec_AreEdges_b0)))
 spec_AreEdges_r0))
noncomputable def spec_AreEdges_l0 (E : Env) (x0 : U) (x3 : U) : Option U := loopK (roundOf E ⟨[0, 3], [], []⟩ spec_AreEdges_b0 (blockK 0 (seqK (fun s => exec E spec_AreEdges_r0 s (finish [(2, none)])) (finish [(2, none)])))) ([.val x0, .val x3], [])
theorem spec_AreEdges_eq (E : Env) (a0 : U) : run E spec_AreEdges_ac [(2, none)] [a0] =
 spec_AreEdges_l0 E a0 (.int .i64 0) := by kernel_rfl
theorem spec_AreEdges_l0_eq (E : Env) (x0 : U) (x3 : U) : spec_AreEdges_l0 E x0 x3 =
 (U.lenOf false x0).bind fun n1 => (U.bin .lss x3 (.int .i64 (n1 : Int))).bind fun t2 => U.asBool t2
 (U.asInt x3 fun n3 => U.elemAt 4 x0 n3 fun e4 => U.fieldAt 0 0 e4 fun f5 => U.asVar false 1 f5 fun e6 => (E 6 [e6, (.int .i64 1), (.int .i64 9)]).bind fun t7 => (U.un .not t7).bind fun t8 => U.asBool t8
 (some (.bool false))
 (U.asInt x3 fun n9 => U.elemAt 4 x0 n9 fun e10 => U.fieldAt 1 1 e10 fun f11 => U.asVar false 1 f11 fun e12 => (E 6 [e12, (.int .i64 1), (.int .i64 9)]).bind fun t13 => (U.un .not t13).bind fun t14 => U.asBool t14
 (some (.bool false))
 (U.asInt x3 fun n15 => U.elemAt 4 x0 n15 fun e16 => U.fieldAt 0 0 e16 fun f17 => U.asVar false 1 f17 fun e18 => U.asInt x3 fun n19 => U.elemAt 4 x0 n19 fun e20 => U.fieldAt 1 1 e20 fun f21 => U.asVar false 1 f21 fun e22 => (U.bin .eql e18 e22).bind fun t23 => U.asBool t23
 (some (.bool false))
 (U.asInt x3 fun n24 => U.elemAt 4 x0 n24 fun e25 => U.fieldAt 2 2 e25 fun f26 => U.asVar false 1 f26 fun e27 => (E 6 [e27, (.int .i64 1), (.int .i64 3)]).bind fun t28 => (U.un .not t28).bind fun t29 => U.asBool t29
 (some (.bool false))
 (U.asInt x3 fun n30 => U.elemAt 4 x0 n30 fun e31 => U.fieldAt 3 3 e31 fun f32 => U.asVar false 1 f32 fun e33 => (E 6 [e33, (.int .i64 0), (.int .i64 5)]).bind fun t34 => (U.un .not t34).bind fun t35 => U.asBool t35
 (some (.bool false))
 ((U.bin .gtr x3 (.int .i64 0)).bind fun t36 => U.asBool t36
 ((U.bin .sub x3 (.int .i64 1)).bind fun t37 => U.asInt t37 fun n38 => U.elemAt 4 x0 n38 fun e39 => U.asVar true 4 e39 fun e40 => U.asInt x3 fun n41 => U.elemAt 4 x0 n41 fun e42 => U.asVar true 4 e42 fun e43 => (E 7 [e40, e43]).bind fun t44 => (U.un .not t44).bind fun t45 => U.asBool t45
 (some (.bool false))
 ((U.bin .add x3 (.int .i64 1)).bind fun t46 => spec_AreEdges_l0 E x0 t46))
 ((U.bin .add x3 (.int .i64 1)).bind fun t47 => spec_AreEdges_l0 E x0 t47)))))))
 (some (.bool true)) :=
 (loop_eq E _ _ _ _).trans (by kernel_rfl)

/-- In the environment E: this function and those that it calls. -/
structure G_spec_AreEdges (E : Env) : Prop where
  is : Is E 4 1 spec_AreEdges_ac [(2, none)]
  c_spec_l1In : G_spec_l1In E
  c_spec_l19Less : G_spec_l19Less E
theorem spec_AreEdges_E {E : Env} (h : G_spec_AreEdges E) (a0 : U) : E 4 [a0] =
 spec_AreEdges_l0 E a0 (.int .i64 0) := (h.is _ rfl).trans ((runQ_V rfl).trans (spec_AreEdges_eq E a0))

end Go.Proofs.Ytmebdbagcbgddaa.Am
namespace Go.Proofs.Ytmebdbagcbgddaa.Am
open Go
set_option linter.unusedVariables false
set_option maxRecDepth 100000

/- loop.example/g01924/spec.HasEdge -/
def spec_HasEdge_b0 : AC :=
 (.seq (.seq (.region 0 [⟨some 8, .mv (.t 7), none⟩,
  ⟨some 9, .mv (.t 0), none⟩,
  ⟨some 10, .len false (.t 9), none⟩,
  ⟨some 11, .bin .lss (.t 8) (.t 10), none⟩])
 (.cond (.t 11) .skip (.exit 0)))
 (.seq (.block 1 (.seq (.region 0 [⟨some 14, .mv (.t 0), none⟩,
  ⟨some 15, .mv (.t 7), none⟩,
  ⟨some 16, .iaddr 4 (.t 14) (.t 15), none⟩,
  ⟨some 17, .faddr 0 0 (.t 16), none⟩,
  ⟨some 18, .load false 1 (.t 17), none⟩,
  ⟨some 19, .mv (.t 1), none⟩,
  ⟨some 20, .bin .eql (.t 18) (.t 19), none⟩,
  ⟨some 21, .mv (.t 20), none⟩,
  ⟨some 22, .mv (.t 0), some (21, true)⟩,
  ⟨some 23, .mv (.t 7), some (21, true)⟩,
  ⟨some 24, .iaddr 4 (.t 22) (.t 23), some (21, true)⟩,
  ⟨some 25, .faddr 1 1 (.t 24), some (21, true)⟩,
  ⟨some 26, .load false 1 (.t 25), some (21, true)⟩,
  ⟨some 27, .mv (.t 2), some (21, true)⟩,
  ⟨some 28, .bin .eql (.t 26) (.t 27), some (21, true)⟩,
  ⟨some 29, .pick (.t 21) (.t 28) (.c (.bool false)), none⟩])
 (.cond (.t 29) (.seq (.region 0 [⟨some 6, .mv (.c (.bool true)), none⟩])
 .ret) .skip)))
 (.region 0 [⟨some 12, .mv (.t 7), none⟩,
  ⟨some 13, .bin .add (.t 12) (.c (.int .i64 1)), none⟩,
  ⟨some 7, .mv (.t 13), none⟩])))
def spec_HasEdge_r0 : AC :=
 (.seq (.region 0 [⟨some 6, .mv (.c (.bool false)), none⟩])
 .ret)
def spec_HasEdge_ac : AC :=
 (.seq (.region 0 [⟨some 6, .mv (.c (.bool false)), none⟩])
 (.seq (.seq (.region 0 [⟨some 7, .mv (.c (.int .i64 0)), none⟩])
 (.block 0 (.loop ⟨[0, 1, 2, 7], [], []⟩ spec_HasEdge_b0)))
 spec_HasEdge_r0))
noncomputable def spec_HasEdge_l0 (E : Env) (x0 : U) (x1 : U) (x2 : U) (x7 : U) : Option U := loopK (roundOf E ⟨[0, 1, 2, 7], [], []⟩ spec_HasEdge_b0 (blockK 0 (seqK (fun s => exec E spec_HasEdge_r0 s (finish [(6, none)])) (finish [(6, none)])))) ([.val x0, .val x1, .val x2, .val x7], [])
theorem spec_HasEdge_eq (E : Env) (a0 : U) (a1 : U) (a2 : U) : run E spec_HasEdge_ac [(6, none)] [a0, a1, a2] =
 spec_HasEdge_l0 E a0 a1 a2 (.int .i64 0) := by kernel_rfl
theorem spec_HasEdge_l0_eq (E : Env) (x0 : U) (x1 : U) (x2 : U) (x7 : U) : spec_HasEdge_l0 E x0 x1 x2 x7 =
 (U.lenOf false x0).bind fun n1 => (U.bin .lss x7 (.int .i64 (n1 : Int))).bind fun t2 => U.asBool t2
 (U.asInt x7 fun n3 => U.elemAt 4 x0 n3 fun e4 => U.fieldAt 0 0 e4 fun f5 => U.asVar false 1 f5 fun e6 => (U.bin .eql e6 x1).bind fun t7 => U.asBool t7
 (U.asInt x7 fun n8 => U.elemAt 4 x0 n8 fun e9 => U.fieldAt 1 1 e9 fun f10 => U.asVar false 1 f10 fun e11 => (U.bin .eql e11 x2).bind fun t12 => U.asBool t12
 (some (.bool true))
 ((U.bin .add x7 (.int .i64 1)).bind fun t13 => spec_HasEdge_l0 E x0 x1 x2 t13))
 ((U.bin .add x7 (.int .i64 1)).bind fun t14 => spec_HasEdge_l0 E x0 x1 x2 t14))
 (some (.bool false)) :=
 (loop_eq E _ _ _ _).trans (by kernel_rfl)

/-- In the environment E: this function and those that it calls. -/
structure G_spec_HasEdge (E : Env) : Prop where
  is : Is E 62 3 spec_HasEdge_ac [(6, none)]
theorem spec_HasEdge_E {E : Env} (h : G_spec_HasEdge E) (a0 a1 a2 : U) : E 62 [a0, a1, a2] =
 spec_HasEdge_l0 E a0 a1 a2 (.int .i64 0) := (h.is _ rfl).trans ((runQ_V rfl).trans (spec_HasEdge_eq E a0 a1 a2))

end Go.Proofs.Ytmebdbagcbgddaa.Am
namespace Go.Proofs.Ytmebdbagcbgddaa.Am
open Go
set_option linter.unusedVariables false
set_option maxRecDepth 100000

/- loop.example/g01924/spec.CheckCycle -/
def spec_CheckCycle_b1 : AC :=
 (.seq (.seq (.region 0 [⟨some 13, .mv (.t 6), none⟩,
  ⟨some 14, .mv (.t 5), none⟩,
  ⟨some 15, .bin .lss (.t 13) (.t 14), none⟩])
 (.cond (.t 15) .skip (.exit 2)))
 (.seq (.block 3 (.seq (.region 9 [⟨some 18, .mv (.t 1), none⟩,
  ⟨some 19, .mv (.t 6), none⟩,
  ⟨some 20, .iaddr 1 (.t 18) (.t 19), none⟩,
  ⟨some 21, .load false 1 (.t 20), none⟩,
  ⟨some 22, .mv (.t 1), none⟩,
  ⟨some 23, .mv (.t 5), none⟩,
  ⟨some 24, .iaddr 1 (.t 22) (.t 23), none⟩,
  ⟨some 25, .load false 1 (.t 24), none⟩,
  ⟨some 26, .bin .eql (.t 21) (.t 25), none⟩])
 (.cond (.t 26) (.seq (.region 0 [⟨some 4, .mv (.c (.bool false)), none⟩])
 .ret) .skip)))
 (.region 0 [⟨some 16, .mv (.t 6), none⟩,
  ⟨some 17, .bin .add (.t 16) (.c (.int .i64 1)), none⟩,
  ⟨some 6, .mv (.t 17), none⟩])))
def spec_CheckCycle_r0 : AC :=
 (.seq (.region 15 [⟨some 27, .mv (.t 0), none⟩,
  ⟨some 28, .mv (.t 1), none⟩,
  ⟨some 29, .mv (.t 5), none⟩,
  ⟨some 30, .iaddr 1 (.t 28) (.t 29), none⟩,
  ⟨some 31, .load false 1 (.t 30), none⟩,
  ⟨some 32, .mv (.t 1), none⟩,
  ⟨some 33, .mv (.t 5), none⟩,
  ⟨some 34, .bin .add (.t 33) (.c (.int .i64 1)), none⟩,
  ⟨some 35, .mv (.t 1), none⟩,
  ⟨some 36, .len false (.t 35), none⟩,
  ⟨some 37, .bin .rem (.t 34) (.t 36), none⟩,
  ⟨some 38, .iaddr 1 (.t 32) (.t 37), none⟩,
  ⟨some 39, .load false 1 (.t 38), none⟩,
  ⟨some 40, .call false 62 [(.t 27), (.t 31), (.t 39)], none⟩,
  ⟨some 41, .un .not (.t 40), none⟩])
 (.cond (.t 41) (.seq (.region 0 [⟨some 4, .mv (.c (.bool false)), none⟩])
 .ret) .skip))
def spec_CheckCycle_r1 : AC :=
 (.region 0 [⟨some 11, .mv (.t 5), none⟩,
  ⟨some 12, .bin .add (.t 11) (.c (.int .i64 1)), none⟩,
  ⟨some 5, .mv (.t 12), none⟩])
def spec_CheckCycle_b0 : AC :=
 (.seq (.seq (.region 0 [⟨some 7, .mv (.t 5), none⟩,
  ⟨some 8, .mv (.t 1), none⟩,
  ⟨some 9, .len false (.t 8), none⟩,
  ⟨some 10, .bin .lss (.t 7) (.t 9), none⟩])
 (.cond (.t 10) .skip (.exit 0)))
 (.seq (.block 1 (.seq (.seq (.region 0 [⟨some 6, .mv (.c (.int .i64 0)), none⟩])
 (.block 2 (.loop ⟨[0, 1, 5, 6], [], []⟩ spec_CheckCycle_b1)))
 spec_CheckCycle_r0))
 spec_CheckCycle_r1))
def spec_CheckCycle_r2 : AC :=
 (.seq (.region 0 [⟨some 42, .mv (.t 0), none⟩,
  ⟨some 43, .call false 4 [(.t 42)], none⟩,
  ⟨some 44, .mv (.t 43), none⟩,
  ⟨some 45, .mv (.t 1), some (44, true)⟩,
  ⟨some 46, .len false (.t 45), some (44, true)⟩,
  ⟨some 47, .bin .gtr (.t 46) (.c (.int .i64 1)), some (44, true)⟩,
  ⟨some 48, .pick (.t 44) (.t 47) (.c (.bool false)), none⟩,
  ⟨some 4, .mv (.t 48), none⟩])
 .ret)
def spec_CheckCycle_ac : AC :=
 (.seq (.region 0 [⟨some 4, .mv (.c (.bool false)), none⟩])
 (.seq (.seq (.region 0 [⟨some 5, .mv (.c (.int .i64 0)), none⟩])
 (.block 0 (.loop ⟨[0, 1, 5], [], []⟩ spec_CheckCycle_b0)))
 spec_CheckCycle_r2))
noncomputable def spec_CheckCycle_l0 (E : Env) (x0 : U) (x1 : U) (x5 : U) : Option U := loopK (roundOf E ⟨[0, 1, 5], [], []⟩ spec_CheckCycle_b0 (blockK 0 (seqK (fun s => exec E spec_CheckCycle_r2 s (finish [(4, none)])) (finish [(4, none)])))) ([.val x0, .val x1, .val x5], [])
noncomputable def spec_CheckCycle_l1 (E : Env) (x0 : U) (x1 : U) (x5 : U) (x6 : U) : Option U := loopK (roundOf E ⟨[0, 1, 5, 6], [], []⟩ spec_CheckCycle_b1 (blockK 2 (seqK (fun s => exec E spec_CheckCycle_r0 s (blockK 1 (seqK (fun s => exec E spec_CheckCycle_r1 s (roundK ⟨[0, 1, 5], [], []⟩ (loopK (roundOf E ⟨[0, 1, 5], [], []⟩ spec_CheckCycle_b0 (blockK 0 (seqK (fun s => exec E spec_CheckCycle_r2 s (finish [(4, none)])) (finish [(4, none)]))))) (blockK 0 (seqK (fun s => exec E spec_CheckCycle_r2 s (finish [(4, none)])) (finish [(4, none)]))))) (roundK ⟨[0, 1, 5], [], []⟩ (loopK (roundOf E ⟨[0, 1, 5], [], []⟩ spec_CheckCycle_b0 (blockK 0 (seqK (fun s => exec E spec_CheckCycle_r2 s (finish [(4, none)])) (finish [(4, none)]))))) (blockK 0 (seqK (fun s => exec E spec_CheckCycle_r2 s (finish [(4, none)])) (finish [(4, none)]))))))) (blockK 1 (seqK (fun s => exec E spec_CheckCycle_r1 s (roundK ⟨[0, 1, 5], [], []⟩ (loopK (roundOf E ⟨[0, 1, 5], [], []⟩ spec_CheckCycle_b0 (blockK 0 (seqK (fun s => exec E spec_CheckCycle_r2 s (finish [(4, none)])) (finish [(4, none)]))))) (blockK 0 (seqK (fun s => exec E spec_CheckCycle_r2 s (finish [(4, none)])) (finish [(4, none)]))))) (roundK ⟨[0, 1, 5], [], []⟩ (loopK (roundOf E ⟨[0, 1, 5], [], []⟩ spec_CheckCycle_b0 (blockK 0 (seqK (fun s => exec E spec_CheckCycle_r2 s (finish [(4, none)])) (finish [(4, none)]))))) (blockK 0 (seqK (fun s => exec E spec_CheckCycle_r2 s (finish [(4, none)])) (finish [(4, none)]))))))))) ([.val x0, .val x1, .val x5, .val x6], [])
theorem spec_CheckCycle_eq (E : Env) (a0 : U) (a1 : U) : run E spec_CheckCycle_ac [(4, none)] [a0, a1] =
 spec_CheckCycle_l0 E a0 a1 (.int .i64 0) := by kernel_rfl
theorem spec_CheckCycle_l0_eq (E : Env) (x0 : U) (x1 : U) (x5 : U) : spec_CheckCycle_l0 E x0 x1 x5 =
 (U.lenOf false x1).bind fun n1 => (U.bin .lss x5 (.int .i64 (n1 : Int))).bind fun t2 => U.asBool t2
 (spec_CheckCycle_l1 E x0 x1 x5 (.int .i64 0))
 ((E 4 [x0]).bind fun t3 => U.asBool t3
 ((U.lenOf false x1).bind fun n4 => (U.bin .gtr (.int .i64 (n4 : Int)) (.int .i64 1)).bind fun t5 => some t5)
 (some (.bool false))) :=
 (loop_eq E _ _ _ _).trans (by kernel_rfl)
theorem spec_CheckCycle_l1_eq (E : Env) (x0 : U) (x1 : U) (x5 : U) (x6 : U) : spec_CheckCycle_l1 E x0 x1 x5 x6 =
 (U.bin .lss x6 x5).bind fun t6 => U.asBool t6
 (U.asInt x6 fun n7 => U.elemAt 1 x1 n7 fun e8 => U.asVar false 1 e8 fun e9 => U.asInt x5 fun n10 => U.elemAt 1 x1 n10 fun e11 => U.asVar false 1 e11 fun e12 => (U.bin .eql e9 e12).bind fun t13 => U.asBool t13
 (some (.bool false))
 ((U.bin .add x6 (.int .i64 1)).bind fun t14 => spec_CheckCycle_l1 E x0 x1 x5 t14))
 (U.asInt x5 fun n15 => U.elemAt 1 x1 n15 fun e16 => U.asVar false 1 e16 fun e17 => (U.bin .add x5 (.int .i64 1)).bind fun t18 => (U.lenOf false x1).bind fun n19 => (U.bin .rem t18 (.int .i64 (n19 : Int))).bind fun t20 => U.asInt t20 fun n21 => U.elemAt 1 x1 n21 fun e22 => U.asVar false 1 e22 fun e23 => (E 62 [x0, e17, e23]).bind fun t24 => (U.un .not t24).bind fun t25 => U.asBool t25
 (some (.bool false))
 ((U.bin .add x5 (.int .i64 1)).bind fun t26 => spec_CheckCycle_l0 E x0 x1 t26)) :=
 (loop_eq E _ _ _ _).trans (by kernel_rfl)

/-- In the environment E: this function and those that it calls. -/
structure G_spec_CheckCycle (E : Env) : Prop where
  is : Is E 61 2 spec_CheckCycle_ac [(4, none)]
  c_spec_AreEdges : G_spec_AreEdges E
  c_spec_HasEdge : G_spec_HasEdge E
theorem spec_CheckCycle_E {E : Env} (h : G_spec_CheckCycle E) (a0 a1 : U) : E 61 [a0, a1] =
 spec_CheckCycle_l0 E a0 a1 (.int .i64 0) := (h.is _ rfl).trans ((runQ_V rfl).trans (spec_CheckCycle_eq E a0 a1))

end Go.Proofs.Ytmebdbagcbgddaa.Am
namespace Go.Proofs.Ytmebdbagcbgddaa.Am
open Go
set_option linter.unusedVariables false
set_option maxRecDepth 100000

/- loop.example/g01924/spec.CycleEdges -/
def spec_CycleEdges_b1 : AC :=
 (.seq (.seq (.region 0 [⟨some 20, .mv (.t 7), none⟩,
  ⟨some 21, .mv (.t 0), none⟩,
  ⟨some 22, .len false (.t 21), none⟩,
  ⟨some 23, .bin .lss (.t 20) (.t 22), none⟩])
 (.cond (.t 23) .skip (.exit 2)))
 (.seq (.block 3 (.seq (.region 26 [⟨some 26, .mv (.t 0), none⟩,
  ⟨some 27, .mv (.t 7), none⟩,
  ⟨some 28, .iaddr 4 (.t 26) (.t 27), none⟩,
  ⟨some 29, .faddr 0 0 (.t 28), none⟩,
  ⟨some 30, .load false 1 (.t 29), none⟩,
  ⟨some 31, .mv (.t 1), none⟩,
  ⟨some 32, .mv (.t 6), none⟩,
  ⟨some 33, .iaddr 1 (.t 31) (.t 32), none⟩,
  ⟨some 34, .load false 1 (.t 33), none⟩,
  ⟨some 35, .bin .eql (.t 30) (.t 34), none⟩,
  ⟨some 36, .mv (.t 35), none⟩,
  ⟨some 37, .mv (.t 0), some (36, true)⟩,
  ⟨some 38, .mv (.t 7), some (36, true)⟩,
  ⟨some 39, .iaddr 4 (.t 37) (.t 38), some (36, true)⟩,
  ⟨some 40, .faddr 1 1 (.t 39), some (36, true)⟩,
  ⟨some 41, .load false 1 (.t 40), some (36, true)⟩,
  ⟨some 42, .mv (.t 1), some (36, true)⟩,
  ⟨some 43, .mv (.t 6), some (36, true)⟩,
  ⟨some 44, .bin .add (.t 43) (.c (.int .i64 1)), some (36, true)⟩,
  ⟨some 45, .mv (.t 1), some (36, true)⟩,
  ⟨some 46, .len false (.t 45), some (36, true)⟩,
  ⟨some 47, .bin .rem (.t 44) (.t 46), some (36, true)⟩,
  ⟨some 48, .iaddr 1 (.t 42) (.t 47), some (36, true)⟩,
  ⟨some 49, .load false 1 (.t 48), some (36, true)⟩,
  ⟨some 50, .bin .eql (.t 41) (.t 49), some (36, true)⟩,
  ⟨some 51, .pick (.t 36) (.t 50) (.c (.bool false)), none⟩])
 (.cond (.t 51) (.seq (.region 0 [⟨some 52, .mv (.t 5), none⟩,
  ⟨some 53, .mv (.t 0), none⟩,
  ⟨some 54, .mv (.t 7), none⟩,
  ⟨some 55, .iaddr 4 (.t 53) (.t 54), none⟩,
  ⟨some 56, .load true 4 (.t 55), none⟩,
  ⟨some 57, .bslice true 4 1 (.agg [(.int .i64 0), (.int .i64 0), (.int .i64 0), (.int .i64 0)]) [(0, (.t 56))], none⟩,
  ⟨some 58, .append 4 32 (.t 52) (.t 57), none⟩,
  ⟨some 5, .mv (.t 58), none⟩])
 (.exit 2)) .skip)))
 (.region 0 [⟨some 24, .mv (.t 7), none⟩,
  ⟨some 25, .bin .add (.t 24) (.c (.int .i64 1)), none⟩,
  ⟨some 7, .mv (.t 25), none⟩])))
def spec_CycleEdges_r0 : AC :=
 (.region 0 [⟨some 18, .mv (.t 6), none⟩,
  ⟨some 19, .bin .add (.t 18) (.c (.int .i64 1)), none⟩,
  ⟨some 6, .mv (.t 19), none⟩])
def spec_CycleEdges_b0 : AC :=
 (.seq (.seq (.region 0 [⟨some 9, .mv (.t 6), none⟩,
  ⟨some 10, .mv (.t 1), none⟩,
  ⟨some 11, .len false (.t 10), none⟩,
  ⟨some 12, .bin .lss (.t 9) (.t 11), none⟩,
  ⟨some 13, .mv (.t 12), none⟩,
  ⟨some 14, .mv (.t 0), some (13, true)⟩,
  ⟨some 15, .mv (.t 1), some (13, true)⟩,
  ⟨some 16, .call false 61 [(.t 14), (.t 15)], some (13, true)⟩,
  ⟨some 17, .pick (.t 13) (.t 16) (.c (.bool false)), none⟩])
 (.cond (.t 17) .skip (.exit 0)))
 (.seq (.block 1 (.seq (.region 0 [⟨some 7, .mv (.c (.int .i64 0)), none⟩])
 (.block 2 (.loop ⟨[0, 1, 6, 7], [(5, 4)], []⟩ spec_CycleEdges_b1))))
 spec_CycleEdges_r0))
def spec_CycleEdges_r1 : AC :=
 (.seq (.region 0 [⟨some 59, .mv (.t 5), none⟩,
  ⟨some 4, .mv (.t 59), none⟩])
 .ret)
def spec_CycleEdges_ac : AC :=
 (.seq (.region 0 [⟨some 4, .mv (.c (.nsl 4)), none⟩])
 (.seq (.region 0 [⟨some 8, .bslice false 4 0 (.agg [(.int .i64 0), (.int .i64 0), (.int .i64 0), (.int .i64 0)]) [], none⟩,
  ⟨some 5, .mv (.t 8), none⟩])
 (.seq (.seq (.region 0 [⟨some 6, .mv (.c (.int .i64 0)), none⟩])
 (.block 0 (.loop ⟨[0, 1, 6], [(5, 4)], []⟩ spec_CycleEdges_b0)))
 spec_CycleEdges_r1)))
noncomputable def spec_CycleEdges_l0 (E : Env) (x0 : U) (x1 : U) (x6 : U) (c5 : List U) : Option U := loopK (roundOf E ⟨[0, 1, 6], [(5, 4)], []⟩ spec_CycleEdges_b0 (blockK 0 (seqK (fun s => exec E spec_CycleEdges_r1 s (finish [(4, none)])) (finish [(4, none)])))) ([.val x0, .val x1, .val x6], [.arr 4 c5])
noncomputable def spec_CycleEdges_l1 (E : Env) (x0 : U) (x1 : U) (x6 : U) (x7 : U) (c5 : List U) : Option U := loopK (roundOf E ⟨[0, 1, 6, 7], [(5, 4)], []⟩ spec_CycleEdges_b1 (blockK 2 (blockK 1 (seqK (fun s => exec E spec_CycleEdges_r0 s (roundK ⟨[0, 1, 6], [(5, 4)], []⟩ (loopK (roundOf E ⟨[0, 1, 6], [(5, 4)], []⟩ spec_CycleEdges_b0 (blockK 0 (seqK (fun s => exec E spec_CycleEdges_r1 s (finish [(4, none)])) (finish [(4, none)]))))) (blockK 0 (seqK (fun s => exec E spec_CycleEdges_r1 s (finish [(4, none)])) (finish [(4, none)]))))) (roundK ⟨[0, 1, 6], [(5, 4)], []⟩ (loopK (roundOf E ⟨[0, 1, 6], [(5, 4)], []⟩ spec_CycleEdges_b0 (blockK 0 (seqK (fun s => exec E spec_CycleEdges_r1 s (finish [(4, none)])) (finish [(4, none)]))))) (blockK 0 (seqK (fun s => exec E spec_CycleEdges_r1 s (finish [(4, none)])) (finish [(4, none)])))))))) ([.val x0, .val x1, .val x6, .val x7], [.arr 4 c5])
theorem spec_CycleEdges_eq (E : Env) (a0 : U) (a1 : U) : run E spec_CycleEdges_ac [(4, none)] [a0, a1] =
 spec_CycleEdges_l0 E a0 a1 (.int .i64 0) [] := by kernel_rfl
theorem spec_CycleEdges_l0_eq (E : Env) (x0 : U) (x1 : U) (x6 : U) (c5 : List U) : spec_CycleEdges_l0 E x0 x1 x6 c5 =
 (U.lenOf false x1).bind fun n1 => (U.bin .lss x6 (.int .i64 (n1 : Int))).bind fun t2 => U.asBool t2
 ((E 61 [x0, x1]).bind fun t3 => U.asBool t3
 (spec_CycleEdges_l1 E x0 x1 x6 (.int .i64 0) c5)
 (some (.sl 4 c5)))
 (some (.sl 4 c5)) :=
 (loop_eq E _ _ _ _).trans (by kernel_rfl)
theorem spec_CycleEdges_l1_eq (E : Env) (x0 : U) (x1 : U) (x6 : U) (x7 : U) (c5 : List U) : spec_CycleEdges_l1 E x0 x1 x6 x7 c5 =
 (U.lenOf false x0).bind fun n4 => (U.bin .lss x7 (.int .i64 (n4 : Int))).bind fun t5 => U.asBool t5
 (U.asInt x7 fun n6 => U.elemAt 4 x0 n6 fun e7 => U.fieldAt 0 0 e7 fun f8 => U.asVar false 1 f8 fun e9 => U.asInt x6 fun n10 => U.elemAt 1 x1 n10 fun e11 => U.asVar false 1 e11 fun e12 => (U.bin .eql e9 e12).bind fun t13 => U.asBool t13
 (U.asInt x7 fun n14 => U.elemAt 4 x0 n14 fun e15 => U.fieldAt 1 1 e15 fun f16 => U.asVar false 1 f16 fun e17 => (U.bin .add x6 (.int .i64 1)).bind fun t18 => (U.lenOf false x1).bind fun n19 => (U.bin .rem t18 (.int .i64 (n19 : Int))).bind fun t20 => U.asInt t20 fun n21 => U.elemAt 1 x1 n21 fun e22 => U.asVar false 1 e22 fun e23 => (U.bin .eql e17 e23).bind fun t24 => U.asBool t24
 (U.asInt x7 fun n25 => U.elemAt 4 x0 n25 fun e26 => U.asVar true 4 e26 fun e27 => if storable (.val e27) = true ∧ e27.size = 4 then if 4 = 4 ∧ 4 = 4 ∧ ((c5).length + ([e27] : List U).length) * 32 ≤ 140737488355328 then (U.bin .add x6 (.int .i64 1)).bind fun t29 => spec_CycleEdges_l0 E x0 x1 t29 (c5 ++ [e27]) else none else none)
 ((U.bin .add x7 (.int .i64 1)).bind fun t30 => spec_CycleEdges_l1 E x0 x1 x6 t30 c5))
 ((U.bin .add x7 (.int .i64 1)).bind fun t31 => spec_CycleEdges_l1 E x0 x1 x6 t31 c5))
 ((U.bin .add x6 (.int .i64 1)).bind fun t32 => spec_CycleEdges_l0 E x0 x1 t32 c5) :=
 (loop_eq E _ _ _ _).trans (by kernel_rfl)

/-- In the environment E: this function and those that it calls. -/
structure G_spec_CycleEdges (E : Env) : Prop where
  is : Is E 87 2 spec_CycleEdges_ac [(4, none)]
  c_spec_CheckCycle : G_spec_CheckCycle E
theorem spec_CycleEdges_E {E : Env} (h : G_spec_CycleEdges E) (a0 a1 : U) : E 87 [a0, a1] =
 spec_CycleEdges_l0 E a0 a1 (.int .i64 0) [] := (h.is _ rfl).trans ((runQ_V rfl).trans (spec_CycleEdges_eq E a0 a1))

end Go.Proofs.Ytmebdbagcbgddaa.Am
namespace Go.Proofs.Ytmebdbagcbgddaa.Am
open Go
set_option linter.unusedVariables false
set_option maxRecDepth 100000

/- loop.example/g01924/impl.in -/
def impl_in_ac : AC :=
 (.seq (.region 0 [⟨some 6, .mv (.c (.bool false)), none⟩])
 (.seq (.region 0 [⟨some 7, .mv (.t 1), none⟩,
  ⟨some 8, .mv (.t 0), none⟩,
  ⟨some 9, .bin .leq (.t 7) (.t 8), none⟩,
  ⟨some 10, .mv (.t 9), none⟩,
  ⟨some 11, .mv (.t 0), some (10, true)⟩,
  ⟨some 12, .mv (.t 2), some (10, true)⟩,
  ⟨some 13, .bin .leq (.t 11) (.t 12), some (10, true)⟩,
  ⟨some 14, .pick (.t 10) (.t 13) (.c (.bool false)), none⟩,
  ⟨some 6, .mv (.t 14), none⟩])
 .ret))

theorem impl_in_eq (E : Env) (a0 : U) (a1 : U) (a2 : U) : run E impl_in_ac [(6, none)] [a0, a1, a2] =
 (U.bin .leq a1 a0).bind fun t1 => U.asBool t1
 ((U.bin .leq a0 a2).bind fun t2 => some t2)
 (some (.bool false)) := by kernel_rfl

/-- In the environment E: this function and those that it calls. -/
structure G_impl_in (E : Env) : Prop where
  is : Is E 10 3 impl_in_ac [(6, none)]
theorem impl_in_E {E : Env} (h : G_impl_in E) (a0 a1 a2 : U) : E 10 [a0, a1, a2] =
 (U.bin .leq a1 a0).bind fun t1 => U.asBool t1
 ((U.bin .leq a0 a2).bind fun t2 => some t2)
 (some (.bool false)) := (h.is _ rfl).trans ((runQ_V rfl).trans (impl_in_eq E a0 a1 a2))

end Go.Proofs.Ytmebdbagcbgddaa.Am
namespace Go.Proofs.Ytmebdbagcbgddaa.Am
open Go
set_option linter.unusedVariables false
set_option maxRecDepth 100000

/- loop.example/g01924/impl.isID -/
def impl_isID_ac : AC :=
 (.seq (.region 0 [⟨some 2, .mv (.c (.bool false)), none⟩])
 (.seq (.region 0 [⟨some 3, .mv (.t 0), none⟩,
  ⟨some 4, .call false 10 [(.t 3), (.c (.int .i64 1)), (.c (.int .i64 9))], none⟩,
  ⟨some 2, .mv (.t 4), none⟩])
 .ret))

theorem impl_isID_eq (E : Env) (a0 : U) : run E impl_isID_ac [(2, none)] [a0] =
 (E 10 [a0, (.int .i64 1), (.int .i64 9)]).bind fun t1 => some t1 := by kernel_rfl

/-- In the environment E: this function and those that it calls. -/
structure G_impl_isID (E : Env) : Prop where
  is : Is E 9 1 impl_isID_ac [(2, none)]
  c_impl_in : G_impl_in E
theorem impl_isID_E {E : Env} (h : G_impl_isID E) (a0 : U) : E 9 [a0] =
 (E 10 [a0, (.int .i64 1), (.int .i64 9)]).bind fun t1 => some t1 := (h.is _ rfl).trans ((runQ_V rfl).trans (impl_isID_eq E a0))

end Go.Proofs.Ytmebdbagcbgddaa.Am
namespace Go.Proofs.Ytmebdbagcbgddaa.Am
open Go
set_option linter.unusedVariables false
set_option maxRecDepth 100000

/- loop.example/g01924/impl.isKey -/
def impl_isKey_ac : AC :=
 (.seq (.region 0 [⟨some 2, .mv (.c (.bool false)), none⟩])
 (.seq (.region 0 [⟨some 3, .mv (.t 0), none⟩,
  ⟨some 4, .call false 10 [(.t 3), (.c (.int .i64 0)), (.c (.int .i64 5))], none⟩,
  ⟨some 2, .mv (.t 4), none⟩])
 .ret))

theorem impl_isKey_eq (E : Env) (a0 : U) : run E impl_isKey_ac [(2, none)] [a0] =
 (E 10 [a0, (.int .i64 0), (.int .i64 5)]).bind fun t1 => some t1 := by kernel_rfl

/-- In the environment E: this function and those that it calls. -/
structure G_impl_isKey (E : Env) : Prop where
  is : Is E 11 1 impl_isKey_ac [(2, none)]
  c_impl_in : G_impl_in E
theorem impl_isKey_E {E : Env} (h : G_impl_isKey E) (a0 : U) : E 11 [a0] =
 (E 10 [a0, (.int .i64 0), (.int .i64 5)]).bind fun t1 => some t1 := (h.is _ rfl).trans ((runQ_V rfl).trans (impl_isKey_eq E a0))

end Go.Proofs.Ytmebdbagcbgddaa.Am
namespace Go.Proofs.Ytmebdbagcbgddaa.Am
open Go
set_option linter.unusedVariables false
set_option maxRecDepth 100000

/- cmp.Or[int] -/
def cmp_Or_g14_b0 : AC :=
 (.seq (.region 0 [⟨some 9, .bin .lss (.t 8) (.t 7), none⟩])
 (.seq (.cond (.t 9) .skip (.exit 0))
 (.seq (.block 1 (.seq (.region 0 [⟨some 10, .iaddr 1 (.t 6) (.t 8), none⟩,
  ⟨some 11, .load false 1 (.t 10), none⟩,
  ⟨some 5, .mv (.t 11), none⟩])
 (.seq (.region 0 [⟨some 12, .mv (.t 5), none⟩,
  ⟨some 13, .mv (.t 3), none⟩,
  ⟨some 14, .bin .neq (.t 12) (.t 13), none⟩])
 (.cond (.t 14) (.seq (.region 0 [⟨some 15, .mv (.t 5), none⟩,
  ⟨some 2, .mv (.t 15), none⟩])
 .ret) .skip))))
 (.region 0 [⟨some 16, .bin .add (.t 8) (.c (.int .i64 1)), none⟩,
  ⟨some 8, .mv (.t 16), none⟩]))))
def cmp_Or_g14_r0 : AC :=
 (.seq (.region 0 [⟨some 17, .mv (.t 3), none⟩,
  ⟨some 2, .mv (.t 17), none⟩])
 .ret)
def cmp_Or_g14_ac : AC :=
 (.seq (.region 0 [⟨some 2, .mv (.c (.int .i64 0)), none⟩])
 (.seq (.region 0 [⟨some 3, .mv (.c (.int .i64 0)), none⟩])
 (.seq (.seq (.region 0 [⟨some 6, .mv (.t 0), none⟩,
  ⟨some 7, .len false (.t 6), none⟩,
  ⟨some 8, .mv (.c (.int .i64 0)), none⟩])
 (.block 0 (.loop ⟨[3, 6, 7, 8], [], []⟩ cmp_Or_g14_b0)))
 cmp_Or_g14_r0)))
noncomputable def cmp_Or_g14_l0 (E : Env) (x3 : U) (x6 : U) (x7 : U) (x8 : U) : Option U := loopK (roundOf E ⟨[3, 6, 7, 8], [], []⟩ cmp_Or_g14_b0 (blockK 0 (seqK (fun s => exec E cmp_Or_g14_r0 s (finish [(2, none)])) (finish [(2, none)])))) ([.val x3, .val x6, .val x7, .val x8], [])
theorem cmp_Or_g14_eq (E : Env) (a0 : U) : run E cmp_Or_g14_ac [(2, none)] [a0] =
 (U.lenOf false a0).bind fun n1 => cmp_Or_g14_l0 E (.int .i64 0) a0 (.int .i64 (n1 : Int)) (.int .i64 0) := by kernel_rfl
theorem cmp_Or_g14_l0_eq (E : Env) (x3 : U) (x6 : U) (x7 : U) (x8 : U) : cmp_Or_g14_l0 E x3 x6 x7 x8 =
 (U.bin .lss x8 x7).bind fun t2 => U.asBool t2
 (U.asInt x8 fun n3 => U.elemAt 1 x6 n3 fun e4 => U.asVar false 1 e4 fun e5 => (U.bin .neq e5 x3).bind fun t6 => U.asBool t6
 (some e5)
 ((U.bin .add x8 (.int .i64 1)).bind fun t7 => cmp_Or_g14_l0 E x3 x6 x7 t7))
 (some x3) :=
 (loop_eq E _ _ _ _).trans (by kernel_rfl)

/-- In the environment E: this function and those that it calls. -/
structure G_cmp_Or_g14 (E : Env) : Prop where
  is : Is E 14 1 cmp_Or_g14_ac [(2, none)]
theorem cmp_Or_g14_E {E : Env} (h : G_cmp_Or_g14 E) (a0 : U) : E 14 [a0] =
 (U.lenOf false a0).bind fun n1 => cmp_Or_g14_l0 E (.int .i64 0) a0 (.int .i64 (n1 : Int)) (.int .i64 0) := (h.is _ rfl).trans ((runQ_V rfl).trans (cmp_Or_g14_eq E a0))

end Go.Proofs.Ytmebdbagcbgddaa.Am
namespace Go.Proofs.Ytmebdbagcbgddaa.Am
open Go
set_option linter.unusedVariables false
set_option maxRecDepth 100000

/- cmp.isNaN[int] -/
def cmp_isNaN_g15_ac : AC :=
 (.seq (.region 0 [⟨some 2, .mv (.c (.bool false)), none⟩])
 (.seq (.region 0 [⟨some 3, .mv (.t 0), none⟩,
  ⟨some 4, .mv (.t 0), none⟩,
  ⟨some 5, .bin .neq (.t 3) (.t 4), none⟩,
  ⟨some 2, .mv (.t 5), none⟩])
 .ret))

theorem cmp_isNaN_g15_eq (E : Env) (a0 : U) : run E cmp_isNaN_g15_ac [(2, none)] [a0] =
 (U.bin .neq a0 a0).bind fun t1 => some t1 := by kernel_rfl

/-- In the environment E: this function and those that it calls. -/
structure G_cmp_isNaN_g15 (E : Env) : Prop where
  is : Is E 15 1 cmp_isNaN_g15_ac [(2, none)]
theorem cmp_isNaN_g15_E {E : Env} (h : G_cmp_isNaN_g15 E) (a0 : U) : E 15 [a0] =
 (U.bin .neq a0 a0).bind fun t1 => some t1 := (h.is _ rfl).trans ((runQ_V rfl).trans (cmp_isNaN_g15_eq E a0))

end Go.Proofs.Ytmebdbagcbgddaa.Am
namespace Go.Proofs.Ytmebdbagcbgddaa.Am
open Go
set_option linter.unusedVariables false
set_option maxRecDepth 100000

/- cmp.Compare[int] -/
def cmp_Compare_g13_ac : AC :=
 (.seq (.region 0 [⟨some 4, .mv (.c (.int .i64 0)), none⟩])
 (.seq (.region 0 [⟨some 7, .mv (.t 0), none⟩,
  ⟨some 8, .call false 15 [(.t 7)], none⟩,
  ⟨some 5, .mv (.t 8), none⟩])
 (.seq (.region 0 [⟨some 9, .mv (.t 1), none⟩,
  ⟨some 10, .call false 15 [(.t 9)], none⟩,
  ⟨some 6, .mv (.t 10), none⟩])
 (.seq (.seq (.region 0 [⟨some 11, .mv (.t 5), none⟩])
 (.cond (.t 11) (.seq (.seq (.region 0 [⟨some 12, .mv (.t 6), none⟩])
 (.cond (.t 12) (.seq (.region 0 [⟨some 4, .mv (.c (.int .i64 0)), none⟩])
 .ret) .skip))
 (.seq (.region 0 [⟨some 4, .mv (.c (.int .i64 (-1))), none⟩])
 .ret)) .skip))
 (.seq (.seq (.region 0 [⟨some 13, .mv (.t 6), none⟩])
 (.cond (.t 13) (.seq (.region 0 [⟨some 4, .mv (.c (.int .i64 1)), none⟩])
 .ret) .skip))
 (.seq (.seq (.region 0 [⟨some 14, .mv (.t 0), none⟩,
  ⟨some 15, .mv (.t 1), none⟩,
  ⟨some 16, .bin .lss (.t 14) (.t 15), none⟩])
 (.cond (.t 16) (.seq (.region 0 [⟨some 4, .mv (.c (.int .i64 (-1))), none⟩])
 .ret) .skip))
 (.seq (.seq (.region 0 [⟨some 17, .mv (.t 0), none⟩,
  ⟨some 18, .mv (.t 1), none⟩,
  ⟨some 19, .bin .gtr (.t 17) (.t 18), none⟩])
 (.cond (.t 19) (.seq (.region 0 [⟨some 4, .mv (.c (.int .i64 1)), none⟩])
 .ret) .skip))
 (.seq (.region 0 [⟨some 4, .mv (.c (.int .i64 0)), none⟩])
 .ret))))))))

theorem cmp_Compare_g13_eq (E : Env) (a0 : U) (a1 : U) : run E cmp_Compare_g13_ac [(4, none)] [a0, a1] =
 (E 15 [a0]).bind fun t1 => (E 15 [a1]).bind fun t2 => U.asBool t1
 (U.asBool t2
 (some (.int .i64 0))
 (some (.int .i64 (-1))))
 (U.asBool t2
 (some (.int .i64 1))
 ((U.bin .lss a0 a1).bind fun t3 => U.asBool t3
 (some (.int .i64 (-1)))
 ((U.bin .gtr a0 a1).bind fun t4 => U.asBool t4
 (some (.int .i64 1))
 (some (.int .i64 0))))) := by kernel_rfl

/-- In the environment E: this function and those that it calls. -/
structure G_cmp_Compare_g13 (E : Env) : Prop where
  is : Is E 13 2 cmp_Compare_g13_ac [(4, none)]
  c_cmp_isNaN_g15 : G_cmp_isNaN_g15 E
theorem cmp_Compare_g13_E {E : Env} (h : G_cmp_Compare_g13 E) (a0 a1 : U) : E 13 [a0, a1] =
 (E 15 [a0]).bind fun t1 => (E 15 [a1]).bind fun t2 => U.asBool t1
 (U.asBool t2
 (some (.int .i64 0))
 (some (.int .i64 (-1))))
 (U.asBool t2
 (some (.int .i64 1))
 ((U.bin .lss a0 a1).bind fun t3 => U.asBool t3
 (some (.int .i64 (-1)))
 ((U.bin .gtr a0 a1).bind fun t4 => U.asBool t4
 (some (.int .i64 1))
 (some (.int .i64 0))))) := (h.is _ rfl).trans ((runQ_V rfl).trans (cmp_Compare_g13_eq E a0 a1))

end Go.Proofs.Ytmebdbagcbgddaa.Am
namespace Go.Proofs.Ytmebdbagcbgddaa.Am
open Go
set_option linter.unusedVariables false
set_option maxRecDepth 100000

/- loop.example/g01924/impl.compareEdges -/
def impl_compareEdges_ac : AC :=
 (.seq (.region 0 [⟨some 2, .box false (.t 0), none⟩,
  ⟨some 3, .box false (.t 1), none⟩,
  ⟨some 4, .mv (.c (.int .i64 0)), none⟩])
 (.seq (.region 23 [⟨some 5, .faddr 0 0 (.t 2), none⟩,
  ⟨some 6, .load false 1 (.t 5), none⟩,
  ⟨some 7, .faddr 0 0 (.t 3), none⟩,
  ⟨some 8, .load false 1 (.t 7), none⟩,
  ⟨some 9, .call false 13 [(.t 6), (.t 8)], none⟩,
  ⟨some 10, .faddr 1 1 (.t 2), none⟩,
  ⟨some 11, .load false 1 (.t 10), none⟩,
  ⟨some 12, .faddr 1 1 (.t 3), none⟩,
  ⟨some 13, .load false 1 (.t 12), none⟩,
  ⟨some 14, .call false 13 [(.t 11), (.t 13)], none⟩,
  ⟨some 15, .faddr 2 2 (.t 2), none⟩,
  ⟨some 16, .load false 1 (.t 15), none⟩,
  ⟨some 17, .faddr 2 2 (.t 3), none⟩,
  ⟨some 18, .load false 1 (.t 17), none⟩,
  ⟨some 19, .call false 13 [(.t 16), (.t 18)], none⟩,
  ⟨some 20, .faddr 3 3 (.t 2), none⟩,
  ⟨some 21, .load false 1 (.t 20), none⟩,
  ⟨some 22, .faddr 3 3 (.t 3), none⟩,
  ⟨some 23, .load false 1 (.t 22), none⟩,
  ⟨some 24, .call false 13 [(.t 21), (.t 23)], none⟩,
  ⟨some 25, .bslice true 1 4 (.int .i64 0) [(0, (.t 9)), (1, (.t 14)), (2, (.t 19)), (3, (.t 24))], none⟩,
  ⟨some 26, .call false 14 [(.t 25)], none⟩,
  ⟨some 4, .mv (.t 26), none⟩])
 .ret))

theorem impl_compareEdges_eq (E : Env) (a0 : U) (a1 : U) : run E impl_compareEdges_ac [(4, none)] [a0, a1] =
 U.noTup a0 fun x1 => U.noTup a1 fun x2 => U.asAgg x1 fun us3 => if 0 = sizes (us3.take 0) then (us3[0]?).bind fun e4 => U.asVar false 1 e4 fun e5 => U.asAgg x2 fun us6 => if 0 = sizes (us6.take 0) then (us6[0]?).bind fun e7 => U.asVar false 1 e7 fun e8 => (E 13 [e5, e8]).bind fun t9 => U.asAgg x1 fun us10 => if 1 = sizes (us10.take 1) then (us10[1]?).bind fun e11 => U.asVar false 1 e11 fun e12 => U.asAgg x2 fun us13 => if 1 = sizes (us13.take 1) then (us13[1]?).bind fun e14 => U.asVar false 1 e14 fun e15 => (E 13 [e12, e15]).bind fun t16 => U.asAgg x1 fun us17 => if 2 = sizes (us17.take 2) then (us17[2]?).bind fun e18 => U.asVar false 1 e18 fun e19 => U.asAgg x2 fun us20 => if 2 = sizes (us20.take 2) then (us20[2]?).bind fun e21 => U.asVar false 1 e21 fun e22 => (E 13 [e19, e22]).bind fun t23 => U.asAgg x1 fun us24 => if 3 = sizes (us24.take 3) then (us24[3]?).bind fun e25 => U.asVar false 1 e25 fun e26 => U.asAgg x2 fun us27 => if 3 = sizes (us27.take 3) then (us27[3]?).bind fun e28 => U.asVar false 1 e28 fun e29 => (E 13 [e26, e29]).bind fun t30 => if storable (.val t9) = true ∧ t9.size = 1 then if storable (.val t16) = true ∧ t16.size = 1 then if storable (.val t23) = true ∧ t23.size = 1 then if storable (.val t30) = true ∧ t30.size = 1 then (E 14 [(.sl 1 [t9, t16, t23, t30])]).bind fun t31 => some t31 else none else none else none else none else none else none else none else none else none else none else none else none := by kernel_rfl

/-- In the environment E: this function and those that it calls. -/
structure G_impl_compareEdges (E : Env) : Prop where
  is : Is E 12 2 impl_compareEdges_ac [(4, none)]
  c_cmp_Or_g14 : G_cmp_Or_g14 E
  c_cmp_Compare_g13 : G_cmp_Compare_g13 E
theorem impl_compareEdges_E {E : Env} (h : G_impl_compareEdges E) (a0 a1 : U) : E 12 [a0, a1] =
 U.noTup a0 fun x1 => U.noTup a1 fun x2 => U.asAgg x1 fun us3 => if 0 = sizes (us3.take 0) then (us3[0]?).bind fun e4 => U.asVar false 1 e4 fun e5 => U.asAgg x2 fun us6 => if 0 = sizes (us6.take 0) then (us6[0]?).bind fun e7 => U.asVar false 1 e7 fun e8 => (E 13 [e5, e8]).bind fun t9 => U.asAgg x1 fun us10 => if 1 = sizes (us10.take 1) then (us10[1]?).bind fun e11 => U.asVar false 1 e11 fun e12 => U.asAgg x2 fun us13 => if 1 = sizes (us13.take 1) then (us13[1]?).bind fun e14 => U.asVar false 1 e14 fun e15 => (E 13 [e12, e15]).bind fun t16 => U.asAgg x1 fun us17 => if 2 = sizes (us17.take 2) then (us17[2]?).bind fun e18 => U.asVar false 1 e18 fun e19 => U.asAgg x2 fun us20 => if 2 = sizes (us20.take 2) then (us20[2]?).bind fun e21 => U.asVar false 1 e21 fun e22 => (E 13 [e19, e22]).bind fun t23 => U.asAgg x1 fun us24 => if 3 = sizes (us24.take 3) then (us24[3]?).bind fun e25 => U.asVar false 1 e25 fun e26 => U.asAgg x2 fun us27 => if 3 = sizes (us27.take 3) then (us27[3]?).bind fun e28 => U.asVar false 1 e28 fun e29 => (E 13 [e26, e29]).bind fun t30 => if storable (.val t9) = true ∧ t9.size = 1 then if storable (.val t16) = true ∧ t16.size = 1 then if storable (.val t23) = true ∧ t23.size = 1 then if storable (.val t30) = true ∧ t30.size = 1 then (E 14 [(.sl 1 [t9, t16, t23, t30])]).bind fun t31 => some t31 else none else none else none else none else none else none else none else none else none else none else none else none := (h.is _ rfl).trans ((runQ_V rfl).trans (impl_compareEdges_eq E a0 a1))

end Go.Proofs.Ytmebdbagcbgddaa.Am
namespace Go.Proofs.Ytmebdbagcbgddaa.Am
open Go
set_option linter.unusedVariables false
set_option maxRecDepth 100000

/- loop.example/g01924/impl.AreEdges -/
def impl_AreEdges_b0 : AC :=
 (.seq (.region 0 [⟨some 8, .bin .lss (.t 7) (.t 6), none⟩])
 (.seq (.cond (.t 8) .skip (.exit 0))
 (.seq (.block 1 (.seq (.region 0 [⟨some 9, .mv (.t 7), none⟩,
  ⟨some 10, .iaddr 4 (.t 5) (.t 7), none⟩,
  ⟨some 11, .load true 4 (.t 10), none⟩,
  ⟨some 4, .alloc (.agg [(.int .i64 0), (.int .i64 0), (.int .i64 0), (.int .i64 0)]), none⟩,
  ⟨some 3, .mv (.t 9), none⟩,
  ⟨none, .store 4 (.t 4) (.t 11), none⟩])
 (.seq (.region 43 [⟨some 12, .faddr 0 0 (.t 4), none⟩,
  ⟨some 13, .load false 1 (.t 12), none⟩,
  ⟨some 14, .call false 9 [(.t 13)], none⟩,
  ⟨some 15, .un .not (.t 14), none⟩,
  ⟨some 16, .mv (.t 15), none⟩,
  ⟨some 17, .faddr 1 1 (.t 4), some (16, false)⟩,
  ⟨some 18, .load false 1 (.t 17), some (16, false)⟩,
  ⟨some 19, .call false 9 [(.t 18)], some (16, false)⟩,
  ⟨some 20, .un .not (.t 19), some (16, false)⟩,
  ⟨some 21, .pick (.t 16) (.c (.bool true)) (.t 20), none⟩,
  ⟨some 22, .mv (.t 21), none⟩,
  ⟨some 23, .faddr 0 0 (.t 4), some (22, false)⟩,
  ⟨some 24, .load false 1 (.t 23), some (22, false)⟩,
  ⟨some 25, .faddr 1 1 (.t 4), some (22, false)⟩,
  ⟨some 26, .load false 1 (.t 25), some (22, false)⟩,
  ⟨some 27, .bin .eql (.t 24) (.t 26), some (22, false)⟩,
  ⟨some 28, .pick (.t 22) (.c (.bool true)) (.t 27), none⟩,
  ⟨some 29, .mv (.t 28), none⟩,
  ⟨some 30, .faddr 2 2 (.t 4), some (29, false)⟩,
  ⟨some 31, .load false 1 (.t 30), some (29, false)⟩,
  ⟨some 32, .call false 10 [(.t 31), (.c (.int .i64 1)), (.c (.int .i64 3))], some (29, false)⟩,
  ⟨some 33, .un .not (.t 32), some (29, false)⟩,
  ⟨some 34, .pick (.t 29) (.c (.bool true)) (.t 33), none⟩,
  ⟨some 35, .mv (.t 34), none⟩,
  ⟨some 36, .faddr 3 3 (.t 4), some (35, false)⟩,
  ⟨some 37, .load false 1 (.t 36), some (35, false)⟩,
  ⟨some 38, .call false 11 [(.t 37)], some (35, false)⟩,
  ⟨some 39, .un .not (.t 38), some (35, false)⟩,
  ⟨some 40, .pick (.t 35) (.c (.bool true)) (.t 39), none⟩,
  ⟨some 41, .mv (.t 40), none⟩,
  ⟨some 42, .mv (.t 3), some (41, false)⟩,
  ⟨some 43, .bin .gtr (.t 42) (.c (.int .i64 0)), some (41, false)⟩,
  ⟨some 44, .mv (.t 43), some (41, false)⟩,
  ⟨some 45, .mv (.t 0), some (44, true)⟩,
  ⟨some 46, .mv (.t 3), some (44, true)⟩,
  ⟨some 47, .bin .sub (.t 46) (.c (.int .i64 1)), some (44, true)⟩,
  ⟨some 48, .iaddr 4 (.t 45) (.t 47), some (44, true)⟩,
  ⟨some 49, .load true 4 (.t 48), some (44, true)⟩,
  ⟨some 50, .load true 4 (.t 4), some (44, true)⟩,
  ⟨some 51, .call false 12 [(.t 49), (.t 50)], some (44, true)⟩,
  ⟨some 52, .bin .geq (.t 51) (.c (.int .i64 0)), some (44, true)⟩,
  ⟨some 53, .pick (.t 44) (.t 52) (.c (.bool false)), some (41, false)⟩,
  ⟨some 54, .pick (.t 41) (.c (.bool true)) (.t 53), none⟩])
 (.cond (.t 54) (.seq (.region 0 [⟨some 2, .mv (.c (.bool false)), none⟩])
 .ret) .skip))))
 (.region 0 [⟨some 55, .bin .add (.t 7) (.c (.int .i64 1)), none⟩,
  ⟨some 7, .mv (.t 55), none⟩]))))
def impl_AreEdges_r0 : AC :=
 (.seq (.region 0 [⟨some 2, .mv (.c (.bool true)), none⟩])
 .ret)
def impl_AreEdges_ac : AC :=
 (.seq (.region 0 [⟨some 2, .mv (.c (.bool false)), none⟩])
 (.seq (.seq (.region 0 [⟨some 5, .mv (.t 0), none⟩,
  ⟨some 6, .len false (.t 5), none⟩,
  ⟨some 7, .mv (.c (.int .i64 0)), none⟩])
 (.block 0 (.loop ⟨[0, 5, 6, 7], [], []⟩ impl_AreEdges_b0)))
 impl_AreEdges_r0))
noncomputable def impl_AreEdges_l0 (E : Env) (x0 : U) (x5 : U) (x6 : U) (x7 : U) : Option U := loopK (roundOf E ⟨[0, 5, 6, 7], [], []⟩ impl_AreEdges_b0 (blockK 0 (seqK (fun s => exec E impl_AreEdges_r0 s (finish [(2, none)])) (finish [(2, none)])))) ([.val x0, .val x5, .val x6, .val x7], [])
theorem impl_AreEdges_eq (E : Env) (a0 : U) : run E impl_AreEdges_ac [(2, none)] [a0] =
 (U.lenOf false a0).bind fun n1 => impl_AreEdges_l0 E a0 a0 (.int .i64 (n1 : Int)) (.int .i64 0) := by kernel_rfl
theorem impl_AreEdges_l0_eq (E : Env) (x0 : U) (x5 : U) (x6 : U) (x7 : U) : impl_AreEdges_l0 E x0 x5 x6 x7 =
 (U.bin .lss x7 x6).bind fun t2 => U.asBool t2
 (U.asInt x7 fun n3 => U.elemAt 4 x5 n3 fun e4 => U.asVar true 4 e4 fun e5 => if storable (.val e5) = true ∧ e5.size = 4 then U.asAgg e5 fun us6 => if 0 = sizes (us6.take 0) then (us6[0]?).bind fun e7 => U.asVar false 1 e7 fun e8 => (E 9 [e8]).bind fun t9 => (U.un .not t9).bind fun t10 => U.asBool t10
 (some (.bool false))
 (U.asAgg e5 fun us11 => if 1 = sizes (us11.take 1) then (us11[1]?).bind fun e12 => U.asVar false 1 e12 fun e13 => (E 9 [e13]).bind fun t14 => (U.un .not t14).bind fun t15 => U.asBool t15
 (some (.bool false))
 (U.asAgg e5 fun us16 => if 0 = sizes (us16.take 0) then (us16[0]?).bind fun e17 => U.asVar false 1 e17 fun e18 => U.asAgg e5 fun us19 => if 1 = sizes (us19.take 1) then (us19[1]?).bind fun e20 => U.asVar false 1 e20 fun e21 => (U.bin .eql e18 e21).bind fun t22 => U.asBool t22
 (some (.bool false))
 (U.asAgg e5 fun us23 => if 2 = sizes (us23.take 2) then (us23[2]?).bind fun e24 => U.asVar false 1 e24 fun e25 => (E 10 [e25, (.int .i64 1), (.int .i64 3)]).bind fun t26 => (U.un .not t26).bind fun t27 => U.asBool t27
 (some (.bool false))
 (U.asAgg e5 fun us28 => if 3 = sizes (us28.take 3) then (us28[3]?).bind fun e29 => U.asVar false 1 e29 fun e30 => (E 11 [e30]).bind fun t31 => (U.un .not t31).bind fun t32 => U.asBool t32
 (some (.bool false))
 ((U.bin .gtr x7 (.int .i64 0)).bind fun t33 => U.asBool t33
 ((U.bin .sub x7 (.int .i64 1)).bind fun t34 => U.asInt t34 fun n35 => U.elemAt 4 x0 n35 fun e36 => U.asVar true 4 e36 fun e37 => U.asVar true 4 e5 fun e38 => (E 12 [e37, e38]).bind fun t39 => (U.bin .geq t39 (.int .i64 0)).bind fun t40 => U.asBool t40
 (some (.bool false))
 ((U.bin .add x7 (.int .i64 1)).bind fun t41 => impl_AreEdges_l0 E x0 x5 x6 t41))
 ((U.bin .add x7 (.int .i64 1)).bind fun t42 => impl_AreEdges_l0 E x0 x5 x6 t42)) else none) else none) else none else none) else none) else none else none)
 (some (.bool true)) :=
 (loop_eq E _ _ _ _).trans (by kernel_rfl)

/-- In the environment E: this function and those that it calls. -/
structure G_impl_AreEdges (E : Env) : Prop where
  is : Is E 3 1 impl_AreEdges_ac [(2, none)]
  c_impl_in : G_impl_in E
  c_impl_isID : G_impl_isID E
  c_impl_isKey : G_impl_isKey E
  c_impl_compareEdges : G_impl_compareEdges E
theorem impl_AreEdges_E {E : Env} (h : G_impl_AreEdges E) (a0 : U) : E 3 [a0] =
 (U.lenOf false a0).bind fun n1 => impl_AreEdges_l0 E a0 a0 (.int .i64 (n1 : Int)) (.int .i64 0) := (h.is _ rfl).trans ((runQ_V rfl).trans (impl_AreEdges_eq E a0))

end Go.Proofs.Ytmebdbagcbgddaa.Am
namespace Go.Proofs.Ytmebdbagcbgddaa.Am
open Go
set_option linter.unusedVariables false
set_option maxRecDepth 100000

/- slices.Index[[]int,int] -/
def slices_Index_g43_b0 : AC :=
 (.seq (.region 0 [⟨some 9, .bin .lss (.t 8) (.t 7), none⟩])
 (.seq (.cond (.t 9) .skip (.exit 0))
 (.seq (.block 1 (.seq (.region 0 [⟨some 10, .mv (.t 8), none⟩,
  ⟨some 5, .mv (.t 10), none⟩])
 (.seq (.region 0 [⟨some 11, .mv (.t 1), none⟩,
  ⟨some 12, .mv (.t 0), none⟩,
  ⟨some 13, .mv (.t 5), none⟩,
  ⟨some 14, .iaddr 1 (.t 12) (.t 13), none⟩,
  ⟨some 15, .load false 1 (.t 14), none⟩,
  ⟨some 16, .bin .eql (.t 11) (.t 15), none⟩])
 (.cond (.t 16) (.seq (.region 0 [⟨some 17, .mv (.t 5), none⟩,
  ⟨some 4, .mv (.t 17), none⟩])
 .ret) .skip))))
 (.region 0 [⟨some 18, .bin .add (.t 8) (.c (.int .i64 1)), none⟩,
  ⟨some 8, .mv (.t 18), none⟩]))))
def slices_Index_g43_r0 : AC :=
 (.seq (.region 0 [⟨some 4, .mv (.c (.int .i64 (-1))), none⟩])
 .ret)
def slices_Index_g43_ac : AC :=
 (.seq (.region 0 [⟨some 4, .mv (.c (.int .i64 0)), none⟩])
 (.seq (.seq (.region 0 [⟨some 6, .mv (.t 0), none⟩,
  ⟨some 7, .len false (.t 6), none⟩,
  ⟨some 8, .mv (.c (.int .i64 0)), none⟩])
 (.block 0 (.loop ⟨[0, 1, 7, 8], [], []⟩ slices_Index_g43_b0)))
 slices_Index_g43_r0))
noncomputable def slices_Index_g43_l0 (E : Env) (x0 : U) (x1 : U) (x7 : U) (x8 : U) : Option U := loopK (roundOf E ⟨[0, 1, 7, 8], [], []⟩ slices_Index_g43_b0 (blockK 0 (seqK (fun s => exec E slices_Index_g43_r0 s (finish [(4, none)])) (finish [(4, none)])))) ([.val x0, .val x1, .val x7, .val x8], [])
theorem slices_Index_g43_eq (E : Env) (a0 : U) (a1 : U) : run E slices_Index_g43_ac [(4, none)] [a0, a1] =
 (U.lenOf false a0).bind fun n1 => slices_Index_g43_l0 E a0 a1 (.int .i64 (n1 : Int)) (.int .i64 0) := by kernel_rfl
theorem slices_Index_g43_l0_eq (E : Env) (x0 : U) (x1 : U) (x7 : U) (x8 : U) : slices_Index_g43_l0 E x0 x1 x7 x8 =
 (U.bin .lss x8 x7).bind fun t2 => U.asBool t2
 (U.asInt x8 fun n3 => U.elemAt 1 x0 n3 fun e4 => U.asVar false 1 e4 fun e5 => (U.bin .eql x1 e5).bind fun t6 => U.asBool t6
 (some x8)
 ((U.bin .add x8 (.int .i64 1)).bind fun t7 => slices_Index_g43_l0 E x0 x1 x7 t7))
 (some (.int .i64 (-1))) :=
 (loop_eq E _ _ _ _).trans (by kernel_rfl)

/-- In the environment E: this function and those that it calls. -/
structure G_slices_Index_g43 (E : Env) : Prop where
  is : Is E 43 2 slices_Index_g43_ac [(4, none)]
theorem slices_Index_g43_E {E : Env} (h : G_slices_Index_g43 E) (a0 a1 : U) : E 43 [a0, a1] =
 (U.lenOf false a0).bind fun n1 => slices_Index_g43_l0 E a0 a1 (.int .i64 (n1 : Int)) (.int .i64 0) := (h.is _ rfl).trans ((runQ_V rfl).trans (slices_Index_g43_eq E a0 a1))

end Go.Proofs.Ytmebdbagcbgddaa.Am
namespace Go.Proofs.Ytmebdbagcbgddaa.Am
open Go
set_option linter.unusedVariables false
set_option maxRecDepth 100000

/- slices.Contains[[]int,int] -/
def slices_Contains_g42_ac : AC :=
 (.seq (.region 0 [⟨some 4, .mv (.c (.bool false)), none⟩])
 (.seq (.region 0 [⟨some 5, .mv (.t 0), none⟩,
  ⟨some 6, .mv (.t 1), none⟩,
  ⟨some 7, .call false 43 [(.t 5), (.t 6)], none⟩,
  ⟨some 8, .bin .geq (.t 7) (.c (.int .i64 0)), none⟩,
  ⟨some 4, .mv (.t 8), none⟩])
 .ret))

theorem slices_Contains_g42_eq (E : Env) (a0 : U) (a1 : U) : run E slices_Contains_g42_ac [(4, none)] [a0, a1] =
 (E 43 [a0, a1]).bind fun t1 => (U.bin .geq t1 (.int .i64 0)).bind fun t2 => some t2 := by kernel_rfl

/-- In the environment E: this function and those that it calls. -/
structure G_slices_Contains_g42 (E : Env) : Prop where
  is : Is E 42 2 slices_Contains_g42_ac [(4, none)]
  c_slices_Index_g43 : G_slices_Index_g43 E
theorem slices_Contains_g42_E {E : Env} (h : G_slices_Contains_g42 E) (a0 a1 : U) : E 42 [a0, a1] =
 (E 43 [a0, a1]).bind fun t1 => (U.bin .geq t1 (.int .i64 0)).bind fun t2 => some t2 := (h.is _ rfl).trans ((runQ_V rfl).trans (slices_Contains_g42_eq E a0 a1))

end Go.Proofs.Ytmebdbagcbgddaa.Am
namespace Go.Proofs.Ytmebdbagcbgddaa.Am
open Go
set_option linter.unusedVariables false
set_option maxRecDepth 100000

/- slices.IndexFunc[[]loop.example/g01924/impl.Edge,loop.example/g01924/impl.Edge] -/
def slices_IndexFunc_g66_b0 : AC :=
 (.seq (.region 0 [⟨some 9, .bin .lss (.t 8) (.t 7), none⟩])
 (.seq (.cond (.t 9) .skip (.exit 0))
 (.seq (.block 1 (.seq (.region 0 [⟨some 10, .mv (.t 8), none⟩,
  ⟨some 5, .mv (.t 10), none⟩])
 (.seq (.region 0 [⟨some 11, .mv (.t 1), none⟩,
  ⟨some 12, .mv (.t 0), none⟩,
  ⟨some 13, .mv (.t 5), none⟩,
  ⟨some 14, .iaddr 4 (.t 12) (.t 13), none⟩,
  ⟨some 15, .load true 4 (.t 14), none⟩,
  ⟨some 16, .callv false (.t 11) [(.t 15)], none⟩])
 (.cond (.t 16) (.seq (.region 0 [⟨some 17, .mv (.t 5), none⟩,
  ⟨some 4, .mv (.t 17), none⟩])
 .ret) .skip))))
 (.region 0 [⟨some 18, .bin .add (.t 8) (.c (.int .i64 1)), none⟩,
  ⟨some 8, .mv (.t 18), none⟩]))))
def slices_IndexFunc_g66_r0 : AC :=
 (.seq (.region 0 [⟨some 4, .mv (.c (.int .i64 (-1))), none⟩])
 .ret)
def slices_IndexFunc_g66_ac : AC :=
 (.seq (.region 0 [⟨some 4, .mv (.c (.int .i64 0)), none⟩])
 (.seq (.seq (.region 0 [⟨some 6, .mv (.t 0), none⟩,
  ⟨some 7, .len false (.t 6), none⟩,
  ⟨some 8, .mv (.c (.int .i64 0)), none⟩])
 (.block 0 (.loop ⟨[0, 1, 7, 8], [], []⟩ slices_IndexFunc_g66_b0)))
 slices_IndexFunc_g66_r0))
noncomputable def slices_IndexFunc_g66_l0 (E : Env) (x0 : U) (x1 : U) (x7 : U) (x8 : U) : Option U := loopK (roundOf E ⟨[0, 1, 7, 8], [], []⟩ slices_IndexFunc_g66_b0 (blockK 0 (seqK (fun s => exec E slices_IndexFunc_g66_r0 s (finish [(4, none)])) (finish [(4, none)])))) ([.val x0, .val x1, .val x7, .val x8], [])
theorem slices_IndexFunc_g66_eq (E : Env) (a0 : U) (a1 : U) : run E slices_IndexFunc_g66_ac [(4, none)] [a0, a1] =
 (U.lenOf false a0).bind fun n1 => slices_IndexFunc_g66_l0 E a0 a1 (.int .i64 (n1 : Int)) (.int .i64 0) := by kernel_rfl
theorem slices_IndexFunc_g66_l0_eq (E : Env) (x0 : U) (x1 : U) (x7 : U) (x8 : U) : slices_IndexFunc_g66_l0 E x0 x1 x7 x8 =
 (U.bin .lss x8 x7).bind fun t2 => U.asBool t2
 (U.asInt x8 fun n3 => U.elemAt 4 x0 n3 fun e4 => U.asVar true 4 e4 fun e5 => U.asFn x1 fun r6 caps7 => (E r6 ([e5] ++ caps7)).bind fun t8 => U.asBool t8
 (some x8)
 ((U.bin .add x8 (.int .i64 1)).bind fun t9 => slices_IndexFunc_g66_l0 E x0 x1 x7 t9))
 (some (.int .i64 (-1))) :=
 (loop_eq E _ _ _ _).trans (by kernel_rfl)

/-- In the environment E: this function and those that it calls. -/
structure G_slices_IndexFunc_g66 (E : Env) : Prop where
  is : Is E 66 2 slices_IndexFunc_g66_ac [(4, none)]
theorem slices_IndexFunc_g66_E {E : Env} (h : G_slices_IndexFunc_g66 E) (a0 a1 : U) : E 66 [a0, a1] =
 (U.lenOf false a0).bind fun n1 => slices_IndexFunc_g66_l0 E a0 a1 (.int .i64 (n1 : Int)) (.int .i64 0) := (h.is _ rfl).trans ((runQ_V rfl).trans (slices_IndexFunc_g66_eq E a0 a1))

end Go.Proofs.Ytmebdbagcbgddaa.Am
namespace Go.Proofs.Ytmebdbagcbgddaa.Am
open Go
set_option linter.unusedVariables false
set_option maxRecDepth 100000

/- slices.ContainsFunc[[]loop.example/g01924/impl.Edge,loop.example/g01924/impl.Edge] -/
def slices_ContainsFunc_g65_ac : AC :=
 (.seq (.region 0 [⟨some 4, .mv (.c (.bool false)), none⟩])
 (.seq (.region 0 [⟨some 5, .mv (.t 0), none⟩,
  ⟨some 6, .mv (.t 1), none⟩,
  ⟨some 7, .call false 66 [(.t 5), (.t 6)], none⟩,
  ⟨some 8, .bin .geq (.t 7) (.c (.int .i64 0)), none⟩,
  ⟨some 4, .mv (.t 8), none⟩])
 .ret))

theorem slices_ContainsFunc_g65_eq (E : Env) (a0 : U) (a1 : U) : run E slices_ContainsFunc_g65_ac [(4, none)] [a0, a1] =
 (E 66 [a0, a1]).bind fun t1 => (U.bin .geq t1 (.int .i64 0)).bind fun t2 => some t2 := by kernel_rfl

/-- In the environment E: this function and those that it calls. -/
structure G_slices_ContainsFunc_g65 (E : Env) : Prop where
  is : Is E 65 2 slices_ContainsFunc_g65_ac [(4, none)]
  c_slices_IndexFunc_g66 : G_slices_IndexFunc_g66 E
theorem slices_ContainsFunc_g65_E {E : Env} (h : G_slices_ContainsFunc_g65 E) (a0 a1 : U) : E 65 [a0, a1] =
 (E 66 [a0, a1]).bind fun t1 => (U.bin .geq t1 (.int .i64 0)).bind fun t2 => some t2 := (h.is _ rfl).trans ((runQ_V rfl).trans (slices_ContainsFunc_g65_eq E a0 a1))

end Go.Proofs.Ytmebdbagcbgddaa.Am
namespace Go.Proofs.Ytmebdbagcbgddaa.Am
open Go
set_option linter.unusedVariables false
set_option maxRecDepth 100000

/- loop.example/g01924/impl.HasEdge$1 -/
def impl_HasEdge_1_ac : AC :=
 (.seq (.region 0 [⟨some 3, .box false (.t 0), none⟩,
  ⟨some 4, .mv (.c (.bool false)), none⟩])
 (.seq (.region 0 [⟨some 5, .faddr 0 0 (.t 3), none⟩,
  ⟨some 6, .load false 1 (.t 5), none⟩,
  ⟨some 7, .load false 1 (.t 1), none⟩,
  ⟨some 8, .bin .eql (.t 6) (.t 7), none⟩,
  ⟨some 9, .mv (.t 8), none⟩,
  ⟨some 10, .faddr 1 1 (.t 3), some (9, true)⟩,
  ⟨some 11, .load false 1 (.t 10), some (9, true)⟩,
  ⟨some 12, .load false 1 (.t 2), some (9, true)⟩,
  ⟨some 13, .bin .eql (.t 11) (.t 12), some (9, true)⟩,
  ⟨some 14, .pick (.t 9) (.t 13) (.c (.bool false)), none⟩,
  ⟨some 4, .mv (.t 14), none⟩])
 .ret))

theorem impl_HasEdge_1_eq (E : Env) (a0 : U) (a1 : U) (a2 : U) : run E impl_HasEdge_1_ac [(4, none)] [a0, a1, a2] =
 U.noTup a0 fun x1 => U.asAgg x1 fun us2 => if 0 = sizes (us2.take 0) then (us2[0]?).bind fun e3 => U.asVar false 1 e3 fun e4 => U.asVp a1 fun v5 => U.asVar false 1 v5 fun e6 => (U.bin .eql e4 e6).bind fun t7 => U.asBool t7
 (U.asAgg x1 fun us8 => if 1 = sizes (us8.take 1) then (us8[1]?).bind fun e9 => U.asVar false 1 e9 fun e10 => U.asVp a2 fun v11 => U.asVar false 1 v11 fun e12 => (U.bin .eql e10 e12).bind fun t13 => some t13 else none)
 (some (.bool false)) else none := by kernel_rfl

/-- In the environment E: this function and those that it calls. -/
structure G_impl_HasEdge_1 (E : Env) : Prop where
  is : Is E 64 3 impl_HasEdge_1_ac [(4, none)]
theorem impl_HasEdge_1_E {E : Env} (h : G_impl_HasEdge_1 E) (a0 a1 a2 : U) : E 64 [a0, a1, a2] =
 U.noTup a0 fun x1 => U.asAgg x1 fun us2 => if 0 = sizes (us2.take 0) then (us2[0]?).bind fun e3 => U.asVar false 1 e3 fun e4 => U.asVp a1 fun v5 => U.asVar false 1 v5 fun e6 => (U.bin .eql e4 e6).bind fun t7 => U.asBool t7
 (U.asAgg x1 fun us8 => if 1 = sizes (us8.take 1) then (us8[1]?).bind fun e9 => U.asVar false 1 e9 fun e10 => U.asVp a2 fun v11 => U.asVar false 1 v11 fun e12 => (U.bin .eql e10 e12).bind fun t13 => some t13 else none)
 (some (.bool false)) else none := (h.is _ rfl).trans ((runQ_V rfl).trans (impl_HasEdge_1_eq E a0 a1 a2))

end Go.Proofs.Ytmebdbagcbgddaa.Am
namespace Go.Proofs.Ytmebdbagcbgddaa.Am
open Go
set_option linter.unusedVariables false
set_option maxRecDepth 100000

/- loop.example/g01924/impl.HasEdge -/
def impl_HasEdge_ac : AC :=
 (.seq (.region 0 [⟨some 4, .box true (.t 1), none⟩,
  ⟨some 5, .box true (.t 2), none⟩,
  ⟨some 6, .mv (.c (.bool false)), none⟩])
 (.seq (.region 0 [⟨some 7, .mv (.t 0), none⟩,
  ⟨some 8, .mkfn 64 [(.t 4), (.t 5)], none⟩,
  ⟨some 9, .call false 65 [(.t 7), (.t 8)], none⟩,
  ⟨some 6, .mv (.t 9), none⟩])
 .ret))

theorem impl_HasEdge_eq (E : Env) (a0 : U) (a1 : U) (a2 : U) : run E impl_HasEdge_ac [(6, none)] [a0, a1, a2] =
 U.noTup a1 fun x1 => U.noTup a2 fun x2 => (E 65 [a0, (.fn 64 [(.vp x1), (.vp x2)])]).bind fun t3 => U.asFlat t3 fun t4 => some t4 := by kernel_rfl

/-- In the environment E: this function and those that it calls. -/
structure G_impl_HasEdge (E : Env) : Prop where
  is : Is E 63 3 impl_HasEdge_ac [(6, none)]
  c_slices_ContainsFunc_g65 : G_slices_ContainsFunc_g65 E
  c_impl_HasEdge_1 : G_impl_HasEdge_1 E
theorem impl_HasEdge_E {E : Env} (h : G_impl_HasEdge E) (a0 a1 a2 : U) : E 63 [a0, a1, a2] =
 U.noTup a1 fun x1 => U.noTup a2 fun x2 => (E 65 [a0, (.fn 64 [(.vp x1), (.vp x2)])]).bind fun t3 => U.asFlat t3 fun t4 => some t4 := (h.is _ rfl).trans ((runQ_V rfl).trans (impl_HasEdge_eq E a0 a1 a2))

end Go.Proofs.Ytmebdbagcbgddaa.Am
namespace Go.Proofs.Ytmebdbagcbgddaa.Am
open Go
set_option linter.unusedVariables false
set_option maxRecDepth 100000

/- loop.example/g01924/impl.CheckCycle -/
def impl_CheckCycle_b0 : AC :=
 (.seq (.region 0 [⟨some 18, .bin .lss (.t 17) (.t 16), none⟩])
 (.seq (.cond (.t 18) .skip (.exit 0))
 (.seq (.block 1 (.seq (.region 0 [⟨some 19, .mv (.t 17), none⟩,
  ⟨some 20, .iaddr 1 (.t 15) (.t 17), none⟩,
  ⟨some 21, .load false 1 (.t 20), none⟩,
  ⟨some 5, .mv (.t 19), none⟩,
  ⟨some 6, .mv (.t 21), none⟩])
 (.seq (.region 0 [⟨some 22, .mv (.t 1), none⟩,
  ⟨some 23, .mv (.t 5), none⟩,
  ⟨some 24, .slice false 1 (.t 22) none (some (.t 23)), none⟩,
  ⟨some 25, .mv (.t 6), none⟩,
  ⟨some 26, .call false 42 [(.t 24), (.t 25)], none⟩,
  ⟨some 27, .mv (.t 26), none⟩,
  ⟨some 28, .mv (.t 0), some (27, false)⟩,
  ⟨some 29, .mv (.t 6), some (27, false)⟩,
  ⟨some 30, .mv (.t 1), some (27, false)⟩,
  ⟨some 31, .mv (.t 5), some (27, false)⟩,
  ⟨some 32, .bin .add (.t 31) (.c (.int .i64 1)), some (27, false)⟩,
  ⟨some 33, .mv (.t 1), some (27, false)⟩,
  ⟨some 34, .len false (.t 33), some (27, false)⟩,
  ⟨some 35, .bin .rem (.t 32) (.t 34), some (27, false)⟩,
  ⟨some 36, .iaddr 1 (.t 30) (.t 35), some (27, false)⟩,
  ⟨some 37, .load false 1 (.t 36), some (27, false)⟩,
  ⟨some 38, .call false 63 [(.t 28), (.t 29), (.t 37)], some (27, false)⟩,
  ⟨some 39, .un .not (.t 38), some (27, false)⟩,
  ⟨some 40, .pick (.t 27) (.c (.bool true)) (.t 39), none⟩])
 (.cond (.t 40) (.seq (.region 0 [⟨some 4, .mv (.c (.bool false)), none⟩])
 .ret) .skip))))
 (.region 0 [⟨some 41, .bin .add (.t 17) (.c (.int .i64 1)), none⟩,
  ⟨some 17, .mv (.t 41), none⟩]))))
def impl_CheckCycle_r0 : AC :=
 (.seq (.region 0 [⟨some 4, .mv (.c (.bool true)), none⟩])
 .ret)
def impl_CheckCycle_ac : AC :=
 (.seq (.region 0 [⟨some 4, .mv (.c (.bool false)), none⟩])
 (.seq (.seq (.region 0 [⟨some 7, .mv (.t 0), none⟩,
  ⟨some 8, .call false 3 [(.t 7)], none⟩,
  ⟨some 9, .un .not (.t 8), none⟩,
  ⟨some 10, .mv (.t 9), none⟩,
  ⟨some 11, .mv (.t 1), some (10, false)⟩,
  ⟨some 12, .len false (.t 11), some (10, false)⟩,
  ⟨some 13, .bin .lss (.t 12) (.c (.int .i64 2)), some (10, false)⟩,
  ⟨some 14, .pick (.t 10) (.c (.bool true)) (.t 13), none⟩])
 (.cond (.t 14) (.seq (.region 0 [⟨some 4, .mv (.c (.bool false)), none⟩])
 .ret) .skip))
 (.seq (.seq (.region 0 [⟨some 15, .mv (.t 1), none⟩,
  ⟨some 16, .len false (.t 15), none⟩,
  ⟨some 17, .mv (.c (.int .i64 0)), none⟩])
 (.block 0 (.loop ⟨[0, 1, 15, 16, 17], [], []⟩ impl_CheckCycle_b0)))
 impl_CheckCycle_r0)))
noncomputable def impl_CheckCycle_l0 (E : Env) (x0 : U) (x1 : U) (x15 : U) (x16 : U) (x17 : U) : Option U := loopK (roundOf E ⟨[0, 1, 15, 16, 17], [], []⟩ impl_CheckCycle_b0 (blockK 0 (seqK (fun s => exec E impl_CheckCycle_r0 s (finish [(4, none)])) (finish [(4, none)])))) ([.val x0, .val x1, .val x15, .val x16, .val x17], [])
theorem impl_CheckCycle_eq (E : Env) (a0 : U) (a1 : U) : run E impl_CheckCycle_ac [(4, none)] [a0, a1] =
 (E 3 [a0]).bind fun t1 => (U.un .not t1).bind fun t2 => U.asBool t2
 (some (.bool false))
 ((U.lenOf false a1).bind fun n3 => (U.bin .lss (.int .i64 (n3 : Int)) (.int .i64 2)).bind fun t4 => U.asBool t4
 (some (.bool false))
 ((U.lenOf false a1).bind fun n5 => impl_CheckCycle_l0 E a0 a1 a1 (.int .i64 (n5 : Int)) (.int .i64 0))) := by kernel_rfl
theorem impl_CheckCycle_l0_eq (E : Env) (x0 : U) (x1 : U) (x15 : U) (x16 : U) (x17 : U) : impl_CheckCycle_l0 E x0 x1 x15 x16 x17 =
 (U.bin .lss x17 x16).bind fun t6 => U.asBool t6
 (U.asInt x17 fun n7 => U.elemAt 1 x15 n7 fun e8 => U.asVar false 1 e8 fun e9 => U.asInt x17 fun n10 => (U.cut false 1 x1 none (some n10)).bind fun t11 => (E 42 [t11, e9]).bind fun t12 => U.asBool t12
 (some (.bool false))
 ((U.bin .add x17 (.int .i64 1)).bind fun t13 => (U.lenOf false x1).bind fun n14 => (U.bin .rem t13 (.int .i64 (n14 : Int))).bind fun t15 => U.asInt t15 fun n16 => U.elemAt 1 x1 n16 fun e17 => U.asVar false 1 e17 fun e18 => (E 63 [x0, e9, e18]).bind fun t19 => (U.un .not t19).bind fun t20 => U.asBool t20
 (some (.bool false))
 ((U.bin .add x17 (.int .i64 1)).bind fun t21 => impl_CheckCycle_l0 E x0 x1 x15 x16 t21)))
 (some (.bool true)) :=
 (loop_eq E _ _ _ _).trans (by kernel_rfl)

/-- In the environment E: this function and those that it calls. -/
structure G_impl_CheckCycle (E : Env) : Prop where
  is : Is E 60 2 impl_CheckCycle_ac [(4, none)]
  c_impl_AreEdges : G_impl_AreEdges E
  c_slices_Contains_g42 : G_slices_Contains_g42 E
  c_impl_HasEdge : G_impl_HasEdge E
theorem impl_CheckCycle_E {E : Env} (h : G_impl_CheckCycle E) (a0 a1 : U) : E 60 [a0, a1] =
 (E 3 [a0]).bind fun t1 => (U.un .not t1).bind fun t2 => U.asBool t2
 (some (.bool false))
 ((U.lenOf false a1).bind fun n3 => (U.bin .lss (.int .i64 (n3 : Int)) (.int .i64 2)).bind fun t4 => U.asBool t4
 (some (.bool false))
 ((U.lenOf false a1).bind fun n5 => impl_CheckCycle_l0 E a0 a1 a1 (.int .i64 (n5 : Int)) (.int .i64 0))) := (h.is _ rfl).trans ((runQ_V rfl).trans (impl_CheckCycle_eq E a0 a1))

end Go.Proofs.Ytmebdbagcbgddaa.Am
namespace Go.Proofs.Ytmebdbagcbgddaa.Am
open Go
set_option linter.unusedVariables false
set_option maxRecDepth 100000

/- loop.example/g01924/impl.CycleEdges$1 -/
def impl_CycleEdges_1_ac : AC :=
 (.seq (.region 0 [⟨some 3, .box false (.t 0), none⟩,
  ⟨some 4, .mv (.c (.bool false)), none⟩])
 (.seq (.region 0 [⟨some 5, .faddr 0 0 (.t 3), none⟩,
  ⟨some 6, .load false 1 (.t 5), none⟩,
  ⟨some 7, .load false 1 (.t 1), none⟩,
  ⟨some 8, .bin .eql (.t 6) (.t 7), none⟩,
  ⟨some 9, .mv (.t 8), none⟩,
  ⟨some 10, .faddr 1 1 (.t 3), some (9, true)⟩,
  ⟨some 11, .load false 1 (.t 10), some (9, true)⟩,
  ⟨some 12, .load false 1 (.t 2), some (9, true)⟩,
  ⟨some 13, .bin .eql (.t 11) (.t 12), some (9, true)⟩,
  ⟨some 14, .pick (.t 9) (.t 13) (.c (.bool false)), none⟩,
  ⟨some 4, .mv (.t 14), none⟩])
 .ret))

theorem impl_CycleEdges_1_eq (E : Env) (a0 : U) (a1 : U) (a2 : U) : run E impl_CycleEdges_1_ac [(4, none)] [a0, a1, a2] =
 U.noTup a0 fun x1 => U.asAgg x1 fun us2 => if 0 = sizes (us2.take 0) then (us2[0]?).bind fun e3 => U.asVar false 1 e3 fun e4 => U.asVp a1 fun v5 => U.asVar false 1 v5 fun e6 => (U.bin .eql e4 e6).bind fun t7 => U.asBool t7
 (U.asAgg x1 fun us8 => if 1 = sizes (us8.take 1) then (us8[1]?).bind fun e9 => U.asVar false 1 e9 fun e10 => U.asVp a2 fun v11 => U.asVar false 1 v11 fun e12 => (U.bin .eql e10 e12).bind fun t13 => some t13 else none)
 (some (.bool false)) else none := by kernel_rfl

/-- In the environment E: this function and those that it calls. -/
structure G_impl_CycleEdges_1 (E : Env) : Prop where
  is : Is E 88 3 impl_CycleEdges_1_ac [(4, none)]
theorem impl_CycleEdges_1_E {E : Env} (h : G_impl_CycleEdges_1 E) (a0 a1 a2 : U) : E 88 [a0, a1, a2] =
 U.noTup a0 fun x1 => U.asAgg x1 fun us2 => if 0 = sizes (us2.take 0) then (us2[0]?).bind fun e3 => U.asVar false 1 e3 fun e4 => U.asVp a1 fun v5 => U.asVar false 1 v5 fun e6 => (U.bin .eql e4 e6).bind fun t7 => U.asBool t7
 (U.asAgg x1 fun us8 => if 1 = sizes (us8.take 1) then (us8[1]?).bind fun e9 => U.asVar false 1 e9 fun e10 => U.asVp a2 fun v11 => U.asVar false 1 v11 fun e12 => (U.bin .eql e10 e12).bind fun t13 => some t13 else none)
 (some (.bool false)) else none := (h.is _ rfl).trans ((runQ_V rfl).trans (impl_CycleEdges_1_eq E a0 a1 a2))

end Go.Proofs.Ytmebdbagcbgddaa.Am
namespace Go.Proofs.Ytmebdbagcbgddaa.Am
open Go
set_option linter.unusedVariables false
set_option maxRecDepth 100000

/- loop.example/g01924/impl.CycleEdges -/
def impl_CycleEdges_b0 : AC :=
 (.seq (.region 0 [⟨some 17, .bin .lss (.t 16) (.t 15), none⟩])
 (.seq (.cond (.t 17) .skip (.exit 0))
 (.seq (.block 1 (.seq (.region 0 [⟨some 18, .mv (.t 16), none⟩,
  ⟨some 19, .iaddr 1 (.t 14) (.t 16), none⟩,
  ⟨some 20, .load false 1 (.t 19), none⟩,
  ⟨some 7, .alloc (.int .i64 0), none⟩,
  ⟨some 6, .mv (.t 18), none⟩,
  ⟨none, .store 1 (.t 7) (.t 20), none⟩])
 (.seq (.region 0 [⟨some 21, .mv (.t 1), none⟩,
  ⟨some 22, .mv (.t 6), none⟩,
  ⟨some 23, .bin .add (.t 22) (.c (.int .i64 1)), none⟩,
  ⟨some 24, .mv (.t 1), none⟩,
  ⟨some 25, .len false (.t 24), none⟩,
  ⟨some 26, .bin .rem (.t 23) (.t 25), none⟩,
  ⟨some 27, .iaddr 1 (.t 21) (.t 26), none⟩,
  ⟨some 28, .load false 1 (.t 27), none⟩,
  ⟨some 8, .alloc (.int .i64 0), none⟩,
  ⟨none, .store 1 (.t 8) (.t 28), none⟩])
 (.region 0 [⟨some 29, .mv (.t 5), none⟩,
  ⟨some 30, .mv (.t 0), none⟩,
  ⟨some 31, .mv (.t 0), none⟩,
  ⟨some 32, .mkfn 88 [(.t 7), (.t 8)], none⟩,
  ⟨some 33, .call false 66 [(.t 31), (.t 32)], none⟩,
  ⟨some 34, .iaddr 4 (.t 30) (.t 33), none⟩,
  ⟨some 35, .load true 4 (.t 34), none⟩,
  ⟨some 36, .bslice true 4 1 (.agg [(.int .i64 0), (.int .i64 0), (.int .i64 0), (.int .i64 0)]) [(0, (.t 35))], none⟩,
  ⟨some 37, .append 4 32 (.t 29) (.t 36), none⟩,
  ⟨some 5, .mv (.t 37), none⟩]))))
 (.region 0 [⟨some 38, .bin .add (.t 16) (.c (.int .i64 1)), none⟩,
  ⟨some 16, .mv (.t 38), none⟩]))))
def impl_CycleEdges_r0 : AC :=
 (.seq (.region 0 [⟨some 39, .mv (.t 5), none⟩,
  ⟨some 4, .mv (.t 39), none⟩])
 .ret)
def impl_CycleEdges_ac : AC :=
 (.seq (.region 0 [⟨some 4, .mv (.c (.nsl 4)), none⟩])
 (.seq (.seq (.region 0 [⟨some 9, .mv (.t 0), none⟩,
  ⟨some 10, .mv (.t 1), none⟩,
  ⟨some 11, .call false 60 [(.t 9), (.t 10)], none⟩,
  ⟨some 12, .un .not (.t 11), none⟩])
 (.cond (.t 12) (.seq (.region 0 [⟨some 4, .mv (.c (.nsl 4)), none⟩])
 .ret) .skip))
 (.seq (.region 0 [⟨some 13, .bslice false 4 0 (.agg [(.int .i64 0), (.int .i64 0), (.int .i64 0), (.int .i64 0)]) [], none⟩,
  ⟨some 5, .mv (.t 13), none⟩])
 (.seq (.seq (.region 0 [⟨some 14, .mv (.t 1), none⟩,
  ⟨some 15, .len false (.t 14), none⟩,
  ⟨some 16, .mv (.c (.int .i64 0)), none⟩])
 (.block 0 (.loop ⟨[0, 1, 14, 15, 16], [(5, 4)], []⟩ impl_CycleEdges_b0)))
 impl_CycleEdges_r0))))
noncomputable def impl_CycleEdges_l0 (E : Env) (x0 : U) (x1 : U) (x14 : U) (x15 : U) (x16 : U) (c5 : List U) : Option U := loopK (roundOf E ⟨[0, 1, 14, 15, 16], [(5, 4)], []⟩ impl_CycleEdges_b0 (blockK 0 (seqK (fun s => exec E impl_CycleEdges_r0 s (finish [(4, none)])) (finish [(4, none)])))) ([.val x0, .val x1, .val x14, .val x15, .val x16], [.arr 4 c5])
theorem impl_CycleEdges_eq (E : Env) (a0 : U) (a1 : U) : run E impl_CycleEdges_ac [(4, none)] [a0, a1] =
 (E 60 [a0, a1]).bind fun t1 => (U.un .not t1).bind fun t2 => U.asBool t2
 (some (.nsl 4))
 ((U.lenOf false a1).bind fun n3 => impl_CycleEdges_l0 E a0 a1 a1 (.int .i64 (n3 : Int)) (.int .i64 0) []) := by kernel_rfl
theorem impl_CycleEdges_l0_eq (E : Env) (x0 : U) (x1 : U) (x14 : U) (x15 : U) (x16 : U) (c5 : List U) : impl_CycleEdges_l0 E x0 x1 x14 x15 x16 c5 =
 (U.bin .lss x16 x15).bind fun t4 => U.asBool t4
 (U.asInt x16 fun n5 => U.elemAt 1 x14 n5 fun e6 => U.asVar false 1 e6 fun e7 => if storable (.val e7) = true ∧ e7.size = 1 then (U.bin .add x16 (.int .i64 1)).bind fun t8 => (U.lenOf false x1).bind fun n9 => (U.bin .rem t8 (.int .i64 (n9 : Int))).bind fun t10 => U.asInt t10 fun n11 => U.elemAt 1 x1 n11 fun e12 => U.asVar false 1 e12 fun e13 => if storable (.val e13) = true ∧ e13.size = 1 then (E 66 [x0, (.fn 88 [(.vp e7), (.vp e13)])]).bind fun t14 => U.asFlat t14 fun t15 => U.asInt t15 fun n16 => U.elemAt 4 x0 n16 fun e17 => U.asVar true 4 e17 fun e18 => if storable (.val e18) = true ∧ e18.size = 4 then if 4 = 4 ∧ 4 = 4 ∧ ((c5).length + ([e18] : List U).length) * 32 ≤ 140737488355328 then (U.bin .add x16 (.int .i64 1)).bind fun t20 => impl_CycleEdges_l0 E x0 x1 x14 x15 t20 (c5 ++ [e18]) else none else none else none else none)
 (some (.sl 4 c5)) :=
 (loop_eq E _ _ _ _).trans (by kernel_rfl)

/-- In the environment E: this function and those that it calls. -/
structure G_impl_CycleEdges (E : Env) : Prop where
  is : Is E 84 2 impl_CycleEdges_ac [(4, none)]
  c_impl_CheckCycle : G_impl_CheckCycle E
  c_slices_IndexFunc_g66 : G_slices_IndexFunc_g66 E
  c_impl_CycleEdges_1 : G_impl_CycleEdges_1 E
theorem impl_CycleEdges_E {E : Env} (h : G_impl_CycleEdges E) (a0 a1 : U) : E 84 [a0, a1] =
 (E 60 [a0, a1]).bind fun t1 => (U.un .not t1).bind fun t2 => U.asBool t2
 (some (.nsl 4))
 ((U.lenOf false a1).bind fun n3 => impl_CycleEdges_l0 E a0 a1 a1 (.int .i64 (n3 : Int)) (.int .i64 0) []) := (h.is _ rfl).trans ((runQ_V rfl).trans (impl_CycleEdges_eq E a0 a1))

end Go.Proofs.Ytmebdbagcbgddaa.Am
namespace Go.Proofs.Ytmebdbagcbgddaa.Am
open Go
set_option linter.unusedVariables false
set_option maxRecDepth 100000

/- loop.example/g01924/laws.heldEdgeS -/
def laws_heldEdgeS_b0 : AC :=
 (.seq (.seq (.region 0 [⟨some 6, .mv (.t 5), none⟩,
  ⟨some 7, .mv (.t 0), none⟩,
  ⟨some 8, .len false (.t 7), none⟩,
  ⟨some 9, .bin .lss (.t 6) (.t 8), none⟩])
 (.cond (.t 9) .skip (.exit 0)))
 (.seq (.block 1 (.seq (.seq (.region 0 [⟨some 12, .mv (.t 0), none⟩,
  ⟨some 13, .mv (.t 5), none⟩,
  ⟨some 14, .iaddr 4 (.t 12) (.t 13), none⟩,
  ⟨some 15, .faddr 0 0 (.t 14), none⟩,
  ⟨some 16, .load false 1 (.t 15), none⟩,
  ⟨some 17, .mv (.t 1), none⟩,
  ⟨some 18, .bin .neq (.t 16) (.t 17), none⟩])
 (.cond (.t 18) (.seq (.region 0 [⟨some 4, .mv (.c (.int .i64 (-1))), none⟩])
 .ret) .skip))
 (.seq (.region 0 [⟨some 19, .mv (.t 1), none⟩,
  ⟨some 20, .bin .add (.t 19) (.c (.int .i64 1)), none⟩,
  ⟨some 1, .mv (.t 20), none⟩])
 (.seq (.seq (.region 0 [⟨some 21, .mv (.t 0), none⟩,
  ⟨some 22, .mv (.t 5), none⟩,
  ⟨some 23, .iaddr 4 (.t 21) (.t 22), none⟩,
  ⟨some 24, .faddr 1 1 (.t 23), none⟩,
  ⟨some 25, .load false 1 (.t 24), none⟩,
  ⟨some 26, .mv (.t 1), none⟩,
  ⟨some 27, .bin .neq (.t 25) (.t 26), none⟩])
 (.cond (.t 27) (.seq (.region 0 [⟨some 4, .mv (.c (.int .i64 (-1))), none⟩])
 .ret) .skip))
 (.seq (.region 0 [⟨some 28, .mv (.t 1), none⟩,
  ⟨some 29, .bin .add (.t 28) (.c (.int .i64 1)), none⟩,
  ⟨some 1, .mv (.t 29), none⟩])
 (.seq (.seq (.region 0 [⟨some 30, .mv (.t 0), none⟩,
  ⟨some 31, .mv (.t 5), none⟩,
  ⟨some 32, .iaddr 4 (.t 30) (.t 31), none⟩,
  ⟨some 33, .faddr 2 2 (.t 32), none⟩,
  ⟨some 34, .load false 1 (.t 33), none⟩,
  ⟨some 35, .mv (.t 1), none⟩,
  ⟨some 36, .bin .neq (.t 34) (.t 35), none⟩])
 (.cond (.t 36) (.seq (.region 0 [⟨some 4, .mv (.c (.int .i64 (-1))), none⟩])
 .ret) .skip))
 (.seq (.region 0 [⟨some 37, .mv (.t 1), none⟩,
  ⟨some 38, .bin .add (.t 37) (.c (.int .i64 1)), none⟩,
  ⟨some 1, .mv (.t 38), none⟩])
 (.seq (.seq (.region 0 [⟨some 39, .mv (.t 0), none⟩,
  ⟨some 40, .mv (.t 5), none⟩,
  ⟨some 41, .iaddr 4 (.t 39) (.t 40), none⟩,
  ⟨some 42, .faddr 3 3 (.t 41), none⟩,
  ⟨some 43, .load false 1 (.t 42), none⟩,
  ⟨some 44, .mv (.t 1), none⟩,
  ⟨some 45, .bin .neq (.t 43) (.t 44), none⟩])
 (.cond (.t 45) (.seq (.region 0 [⟨some 4, .mv (.c (.int .i64 (-1))), none⟩])
 .ret) .skip))
 (.region 0 [⟨some 46, .mv (.t 1), none⟩,
  ⟨some 47, .bin .add (.t 46) (.c (.int .i64 1)), none⟩,
  ⟨some 1, .mv (.t 47), none⟩])))))))))
 (.region 0 [⟨some 10, .mv (.t 5), none⟩,
  ⟨some 11, .bin .add (.t 10) (.c (.int .i64 1)), none⟩,
  ⟨some 5, .mv (.t 11), none⟩])))
def laws_heldEdgeS_r0 : AC :=
 (.seq (.region 0 [⟨some 48, .mv (.t 1), none⟩,
  ⟨some 4, .mv (.t 48), none⟩])
 .ret)
def laws_heldEdgeS_ac : AC :=
 (.seq (.region 0 [⟨some 4, .mv (.c (.int .i64 0)), none⟩])
 (.seq (.seq (.region 0 [⟨some 5, .mv (.c (.int .i64 0)), none⟩])
 (.block 0 (.loop ⟨[0, 1, 5], [], []⟩ laws_heldEdgeS_b0)))
 laws_heldEdgeS_r0))
noncomputable def laws_heldEdgeS_l0 (E : Env) (x0 : U) (x1 : U) (x5 : U) : Option U := loopK (roundOf E ⟨[0, 1, 5], [], []⟩ laws_heldEdgeS_b0 (blockK 0 (seqK (fun s => exec E laws_heldEdgeS_r0 s (finish [(4, none)])) (finish [(4, none)])))) ([.val x0, .val x1, .val x5], [])
theorem laws_heldEdgeS_eq (E : Env) (a0 : U) (a1 : U) : run E laws_heldEdgeS_ac [(4, none)] [a0, a1] =
 laws_heldEdgeS_l0 E a0 a1 (.int .i64 0) := by kernel_rfl
theorem laws_heldEdgeS_l0_eq (E : Env) (x0 : U) (x1 : U) (x5 : U) : laws_heldEdgeS_l0 E x0 x1 x5 =
 (U.lenOf false x0).bind fun n1 => (U.bin .lss x5 (.int .i64 (n1 : Int))).bind fun t2 => U.asBool t2
 (U.asInt x5 fun n3 => U.elemAt 4 x0 n3 fun e4 => U.fieldAt 0 0 e4 fun f5 => U.asVar false 1 f5 fun e6 => (U.bin .neq e6 x1).bind fun t7 => U.asBool t7
 (some (.int .i64 (-1)))
 ((U.bin .add x1 (.int .i64 1)).bind fun t8 => U.asInt x5 fun n9 => U.elemAt 4 x0 n9 fun e10 => U.fieldAt 1 1 e10 fun f11 => U.asVar false 1 f11 fun e12 => (U.bin .neq e12 t8).bind fun t13 => U.asBool t13
 (some (.int .i64 (-1)))
 ((U.bin .add t8 (.int .i64 1)).bind fun t14 => U.asInt x5 fun n15 => U.elemAt 4 x0 n15 fun e16 => U.fieldAt 2 2 e16 fun f17 => U.asVar false 1 f17 fun e18 => (U.bin .neq e18 t14).bind fun t19 => U.asBool t19
 (some (.int .i64 (-1)))
 ((U.bin .add t14 (.int .i64 1)).bind fun t20 => U.asInt x5 fun n21 => U.elemAt 4 x0 n21 fun e22 => U.fieldAt 3 3 e22 fun f23 => U.asVar false 1 f23 fun e24 => (U.bin .neq e24 t20).bind fun t25 => U.asBool t25
 (some (.int .i64 (-1)))
 ((U.bin .add t20 (.int .i64 1)).bind fun t26 => (U.bin .add x5 (.int .i64 1)).bind fun t27 => laws_heldEdgeS_l0 E x0 t26 t27)))))
 (some x1) :=
 (loop_eq E _ _ _ _).trans (by kernel_rfl)

/-- In the environment E: this function and those that it calls. -/
structure G_laws_heldEdgeS (E : Env) : Prop where
  is : Is E 83 2 laws_heldEdgeS_ac [(4, none)]
theorem laws_heldEdgeS_E {E : Env} (h : G_laws_heldEdgeS E) (a0 a1 : U) : E 83 [a0, a1] =
 laws_heldEdgeS_l0 E a0 a1 (.int .i64 0) := (h.is _ rfl).trans ((runQ_V rfl).trans (laws_heldEdgeS_eq E a0 a1))

end Go.Proofs.Ytmebdbagcbgddaa.Am
namespace Go.Proofs.Ytmebdbagcbgddaa.Am
open Go
set_option linter.unusedVariables false
set_option maxRecDepth 100000

/- loop.example/g01924/laws.toEdgeS!F -/
def laws_toEdgeS_F_b0 : AC :=
 (.seq (.seq (.region 0 [⟨some 8, .mv (.t 4), none⟩,
  ⟨some 9, .mv (.t 0), none⟩,
  ⟨some 10, .len false (.t 9), none⟩,
  ⟨some 11, .bin .lss (.t 8) (.t 10), none⟩])
 (.cond (.t 11) .skip (.exit 0)))
 (.seq (.block 1 (.region 0 [⟨some 14, .mv (.t 3), none⟩,
  ⟨some 15, .mv (.t 4), none⟩,
  ⟨some 16, .mv (.t 0), none⟩,
  ⟨some 17, .mv (.t 4), none⟩,
  ⟨some 18, .iaddr 4 (.t 16) (.t 17), none⟩,
  ⟨some 19, .load true 4 (.t 18), none⟩,
  ⟨some 20, .call false 8 [(.t 19)], none⟩,
  ⟨some 21, .iaddr 4 (.t 14) (.t 15), none⟩,
  ⟨none, .store 4 (.t 21) (.t 20), none⟩]))
 (.region 0 [⟨some 12, .mv (.t 4), none⟩,
  ⟨some 13, .bin .add (.t 12) (.c (.int .i64 1)), none⟩,
  ⟨some 4, .mv (.t 13), none⟩])))
def laws_toEdgeS_F_r0 : AC :=
 (.seq (.region 0 [⟨some 22, .mv (.t 3), none⟩,
  ⟨some 2, .mv (.t 22), none⟩])
 .ret)
def laws_toEdgeS_F_ac : AC :=
 (.seq (.region 0 [⟨some 2, .mv (.c (.nsl 4)), none⟩])
 (.seq (.region 0 [⟨some 5, .mv (.t 0), none⟩,
  ⟨some 6, .len false (.t 5), none⟩,
  ⟨some 7, .mkslice 4 32 (.agg [(.int .i64 0), (.int .i64 0), (.int .i64 0), (.int .i64 0)]) (.t 6) (.t 6), none⟩,
  ⟨some 3, .mv (.t 7), none⟩])
 (.seq (.seq (.region 0 [⟨some 4, .mv (.c (.int .i64 0)), none⟩])
 (.block 0 (.loop ⟨[0, 4], [(3, 4)], []⟩ laws_toEdgeS_F_b0)))
 laws_toEdgeS_F_r0)))
noncomputable def laws_toEdgeS_F_l0 (E : Env) (x0 : U) (x4 : U) (c3 : List U) : Option U := loopK (roundOf E ⟨[0, 4], [(3, 4)], []⟩ laws_toEdgeS_F_b0 (blockK 0 (seqK (fun s => exec E laws_toEdgeS_F_r0 s (finishF [(2, none)])) (finishF [(2, none)])))) ([.val x0, .val x4], [.arr 4 c3])
theorem laws_toEdgeS_F_eq (E : Env) (a0 : U) : exec E laws_toEdgeS_F_ac (start [a0]) (finishF [(2, none)]) =
 (U.lenOf false a0).bind fun n1 => if 0 ≤ (n1 : Int) ∧ (n1 : Int) ≤ (n1 : Int) ∧ (n1 : Int) * 32 ≤ 140737488355328 ∧ ((.agg [(.int .i64 0), (.int .i64 0), (.int .i64 0), (.int .i64 0)]) : U).size = 4 then laws_toEdgeS_F_l0 E a0 (.int .i64 0) (List.replicate ((n1 : Int) : Int).toNat (.agg [(.int .i64 0), (.int .i64 0), (.int .i64 0), (.int .i64 0)])) else none := by kernel_rfl
theorem laws_toEdgeS_F_l0_eq (E : Env) (x0 : U) (x4 : U) (c3 : List U) : laws_toEdgeS_F_l0 E x0 x4 c3 =
 (U.lenOf false x0).bind fun n2 => (U.bin .lss x4 (.int .i64 (n2 : Int))).bind fun t3 => U.asBool t3
 (U.asInt x4 fun n4 => U.elemAt 4 x0 n4 fun e5 => U.asVar true 4 e5 fun e6 => (E 8 [e6]).bind fun t7 => U.asInt x4 fun n8 => if 4 = 4 ∧ 4 = 4 ∧ 0 ≤ n8 ∧ n8 < ((c3).length : Int) then if storable (.val t7) = true ∧ t7.size = 4 then if 4 = 4 then (c3[(n8 : Int).toNat]?).bind fun e9 => if e9.size = 4 then (U.bin .add x4 (.int .i64 1)).bind fun t10 => laws_toEdgeS_F_l0 E x0 t10 (c3.set (n8 : Int).toNat t7) else none else none else none else none)
 (if 4 = 4 ∧ U.flat.flats c3 = true then some (.sl 4 c3) else none) :=
 (loop_eq E _ _ _ _).trans (by kernel_rfl)

/-- In the environment E: this function and those that it calls. -/
structure G_laws_toEdgeS_F (E : Env) : Prop where
  is : Is E 100001 1 laws_toEdgeS_F_ac [(2, none)]
  c_laws_toEdge : G_laws_toEdge E
theorem laws_toEdgeS_F_E {E : Env} (h : G_laws_toEdgeS_F E) (a0 : U) : E 100001 [a0] =
 (U.lenOf false a0).bind fun n1 => if 0 ≤ (n1 : Int) ∧ (n1 : Int) ≤ (n1 : Int) ∧ (n1 : Int) * 32 ≤ 140737488355328 ∧ ((.agg [(.int .i64 0), (.int .i64 0), (.int .i64 0), (.int .i64 0)]) : U).size = 4 then laws_toEdgeS_F_l0 E a0 (.int .i64 0) (List.replicate ((n1 : Int) : Int).toNat (.agg [(.int .i64 0), (.int .i64 0), (.int .i64 0), (.int .i64 0)])) else none := (h.is _ rfl).trans ((runQ_F rfl).trans (laws_toEdgeS_F_eq E a0))

end Go.Proofs.Ytmebdbagcbgddaa.Am
namespace Go.Proofs.Ytmebdbagcbgddaa.Am
open Go
set_option linter.unusedVariables false
set_option maxRecDepth 100000

/- loop.example/g01924/laws.toIntS!F -/
def laws_toIntS_F_b0 : AC :=
 (.seq (.seq (.region 0 [⟨some 8, .mv (.t 4), none⟩,
  ⟨some 9, .mv (.t 0), none⟩,
  ⟨some 10, .len false (.t 9), none⟩,
  ⟨some 11, .bin .lss (.t 8) (.t 10), none⟩])
 (.cond (.t 11) .skip (.exit 0)))
 (.seq (.block 1 (.region 0 [⟨some 14, .mv (.t 3), none⟩,
  ⟨some 15, .mv (.t 4), none⟩,
  ⟨some 16, .mv (.t 0), none⟩,
  ⟨some 17, .mv (.t 4), none⟩,
  ⟨some 18, .iaddr 1 (.t 16) (.t 17), none⟩,
  ⟨some 19, .load false 1 (.t 18), none⟩,
  ⟨some 20, .iaddr 1 (.t 14) (.t 15), none⟩,
  ⟨none, .store 1 (.t 20) (.t 19), none⟩]))
 (.region 0 [⟨some 12, .mv (.t 4), none⟩,
  ⟨some 13, .bin .add (.t 12) (.c (.int .i64 1)), none⟩,
  ⟨some 4, .mv (.t 13), none⟩])))
def laws_toIntS_F_r0 : AC :=
 (.seq (.region 0 [⟨some 21, .mv (.t 3), none⟩,
  ⟨some 2, .mv (.t 21), none⟩])
 .ret)
def laws_toIntS_F_ac : AC :=
 (.seq (.region 0 [⟨some 2, .mv (.c (.nsl 1)), none⟩])
 (.seq (.region 0 [⟨some 5, .mv (.t 0), none⟩,
  ⟨some 6, .len false (.t 5), none⟩,
  ⟨some 7, .mkslice 1 8 (.int .i64 0) (.t 6) (.t 6), none⟩,
  ⟨some 3, .mv (.t 7), none⟩])
 (.seq (.seq (.region 0 [⟨some 4, .mv (.c (.int .i64 0)), none⟩])
 (.block 0 (.loop ⟨[0, 4], [(3, 1)], []⟩ laws_toIntS_F_b0)))
 laws_toIntS_F_r0)))
noncomputable def laws_toIntS_F_l0 (E : Env) (x0 : U) (x4 : U) (c3 : List U) : Option U := loopK (roundOf E ⟨[0, 4], [(3, 1)], []⟩ laws_toIntS_F_b0 (blockK 0 (seqK (fun s => exec E laws_toIntS_F_r0 s (finishF [(2, none)])) (finishF [(2, none)])))) ([.val x0, .val x4], [.arr 1 c3])
theorem laws_toIntS_F_eq (E : Env) (a0 : U) : exec E laws_toIntS_F_ac (start [a0]) (finishF [(2, none)]) =
 (U.lenOf false a0).bind fun n1 => if 0 ≤ (n1 : Int) ∧ (n1 : Int) ≤ (n1 : Int) ∧ (n1 : Int) * 8 ≤ 140737488355328 ∧ ((.int .i64 0) : U).size = 1 then laws_toIntS_F_l0 E a0 (.int .i64 0) (List.replicate ((n1 : Int) : Int).toNat (.int .i64 0)) else none := by kernel_rfl
theorem laws_toIntS_F_l0_eq (E : Env) (x0 : U) (x4 : U) (c3 : List U) : laws_toIntS_F_l0 E x0 x4 c3 =
 (U.lenOf false x0).bind fun n2 => (U.bin .lss x4 (.int .i64 (n2 : Int))).bind fun t3 => U.asBool t3
 (U.asInt x4 fun n4 => U.elemAt 1 x0 n4 fun e5 => U.asVar false 1 e5 fun e6 => U.asInt x4 fun n7 => if 1 = 1 ∧ 1 = 1 ∧ 0 ≤ n7 ∧ n7 < ((c3).length : Int) then if storable (.val e6) = true ∧ e6.size = 1 then if 1 = 1 then (c3[(n7 : Int).toNat]?).bind fun e8 => if e8.size = 1 then (U.bin .add x4 (.int .i64 1)).bind fun t9 => laws_toIntS_F_l0 E x0 t9 (c3.set (n7 : Int).toNat e6) else none else none else none else none)
 (if 1 = 1 ∧ U.flat.flats c3 = true then some (.sl 1 c3) else none) :=
 (loop_eq E _ _ _ _).trans (by kernel_rfl)

/-- In the environment E: this function and those that it calls. -/
structure G_laws_toIntS_F (E : Env) : Prop where
  is : Is E 100058 1 laws_toIntS_F_ac [(2, none)]
theorem laws_toIntS_F_E {E : Env} (h : G_laws_toIntS_F E) (a0 : U) : E 100058 [a0] =
 (U.lenOf false a0).bind fun n1 => if 0 ≤ (n1 : Int) ∧ (n1 : Int) ≤ (n1 : Int) ∧ (n1 : Int) * 8 ≤ 140737488355328 ∧ ((.int .i64 0) : U).size = 1 then laws_toIntS_F_l0 E a0 (.int .i64 0) (List.replicate ((n1 : Int) : Int).toNat (.int .i64 0)) else none := (h.is _ rfl).trans ((runQ_F rfl).trans (laws_toIntS_F_eq E a0))

end Go.Proofs.Ytmebdbagcbgddaa.Am
namespace Go.Proofs.Ytmebdbagcbgddaa.Am
open Go
set_option linter.unusedVariables false
set_option maxRecDepth 100000

/- loop.example/g01924/impl.CycleEdges!F -/
def impl_CycleEdges_F_b0 : AC :=
 (.seq (.region 0 [⟨some 17, .bin .lss (.t 16) (.t 15), none⟩])
 (.seq (.cond (.t 17) .skip (.exit 0))
 (.seq (.block 1 (.seq (.region 0 [⟨some 18, .mv (.t 16), none⟩,
  ⟨some 19, .iaddr 1 (.t 14) (.t 16), none⟩,
  ⟨some 20, .load false 1 (.t 19), none⟩,
  ⟨some 7, .alloc (.int .i64 0), none⟩,
  ⟨some 6, .mv (.t 18), none⟩,
  ⟨none, .store 1 (.t 7) (.t 20), none⟩])
 (.seq (.region 0 [⟨some 21, .mv (.t 1), none⟩,
  ⟨some 22, .mv (.t 6), none⟩,
  ⟨some 23, .bin .add (.t 22) (.c (.int .i64 1)), none⟩,
  ⟨some 24, .mv (.t 1), none⟩,
  ⟨some 25, .len false (.t 24), none⟩,
  ⟨some 26, .bin .rem (.t 23) (.t 25), none⟩,
  ⟨some 27, .iaddr 1 (.t 21) (.t 26), none⟩,
  ⟨some 28, .load false 1 (.t 27), none⟩,
  ⟨some 8, .alloc (.int .i64 0), none⟩,
  ⟨none, .store 1 (.t 8) (.t 28), none⟩])
 (.region 0 [⟨some 29, .mv (.t 5), none⟩,
  ⟨some 30, .mv (.t 0), none⟩,
  ⟨some 31, .mv (.t 0), none⟩,
  ⟨some 32, .mkfn 88 [(.t 7), (.t 8)], none⟩,
  ⟨some 33, .call false 66 [(.t 31), (.t 32)], none⟩,
  ⟨some 34, .iaddr 4 (.t 30) (.t 33), none⟩,
  ⟨some 35, .load true 4 (.t 34), none⟩,
  ⟨some 36, .bslice true 4 1 (.agg [(.int .i64 0), (.int .i64 0), (.int .i64 0), (.int .i64 0)]) [(0, (.t 35))], none⟩,
  ⟨some 37, .append 4 32 (.t 29) (.t 36), none⟩,
  ⟨some 5, .mv (.t 37), none⟩]))))
 (.region 0 [⟨some 38, .bin .add (.t 16) (.c (.int .i64 1)), none⟩,
  ⟨some 16, .mv (.t 38), none⟩]))))
def impl_CycleEdges_F_r0 : AC :=
 (.seq (.region 0 [⟨some 39, .mv (.t 5), none⟩,
  ⟨some 4, .mv (.t 39), none⟩])
 .ret)
def impl_CycleEdges_F_ac : AC :=
 (.seq (.region 0 [⟨some 4, .mv (.c (.nsl 4)), none⟩])
 (.seq (.seq (.region 0 [⟨some 9, .mv (.t 0), none⟩,
  ⟨some 10, .mv (.t 1), none⟩,
  ⟨some 11, .call false 60 [(.t 9), (.t 10)], none⟩,
  ⟨some 12, .un .not (.t 11), none⟩])
 (.cond (.t 12) (.seq (.region 0 [⟨some 4, .mv (.c (.nsl 4)), none⟩])
 .ret) .skip))
 (.seq (.region 0 [⟨some 13, .bslice false 4 0 (.agg [(.int .i64 0), (.int .i64 0), (.int .i64 0), (.int .i64 0)]) [], none⟩,
  ⟨some 5, .mv (.t 13), none⟩])
 (.seq (.seq (.region 0 [⟨some 14, .mv (.t 1), none⟩,
  ⟨some 15, .len false (.t 14), none⟩,
  ⟨some 16, .mv (.c (.int .i64 0)), none⟩])
 (.block 0 (.loop ⟨[0, 1, 14, 15, 16], [(5, 4)], []⟩ impl_CycleEdges_F_b0)))
 impl_CycleEdges_F_r0))))
noncomputable def impl_CycleEdges_F_l0 (E : Env) (x0 : U) (x1 : U) (x14 : U) (x15 : U) (x16 : U) (c5 : List U) : Option U := loopK (roundOf E ⟨[0, 1, 14, 15, 16], [(5, 4)], []⟩ impl_CycleEdges_F_b0 (blockK 0 (seqK (fun s => exec E impl_CycleEdges_F_r0 s (finishF [(4, none)])) (finishF [(4, none)])))) ([.val x0, .val x1, .val x14, .val x15, .val x16], [.arr 4 c5])
theorem impl_CycleEdges_F_eq (E : Env) (a0 : U) (a1 : U) : exec E impl_CycleEdges_F_ac (start [a0, a1]) (finishF [(4, none)]) =
 (E 60 [a0, a1]).bind fun t1 => (U.un .not t1).bind fun t2 => U.asBool t2
 (some (.sl 4 []))
 ((U.lenOf false a1).bind fun n3 => impl_CycleEdges_F_l0 E a0 a1 a1 (.int .i64 (n3 : Int)) (.int .i64 0) []) := by kernel_rfl
theorem impl_CycleEdges_F_l0_eq (E : Env) (x0 : U) (x1 : U) (x14 : U) (x15 : U) (x16 : U) (c5 : List U) : impl_CycleEdges_F_l0 E x0 x1 x14 x15 x16 c5 =
 (U.bin .lss x16 x15).bind fun t4 => U.asBool t4
 (U.asInt x16 fun n5 => U.elemAt 1 x14 n5 fun e6 => U.asVar false 1 e6 fun e7 => if storable (.val e7) = true ∧ e7.size = 1 then (U.bin .add x16 (.int .i64 1)).bind fun t8 => (U.lenOf false x1).bind fun n9 => (U.bin .rem t8 (.int .i64 (n9 : Int))).bind fun t10 => U.asInt t10 fun n11 => U.elemAt 1 x1 n11 fun e12 => U.asVar false 1 e12 fun e13 => if storable (.val e13) = true ∧ e13.size = 1 then (E 66 [x0, (.fn 88 [(.vp e7), (.vp e13)])]).bind fun t14 => U.asFlat t14 fun t15 => U.asInt t15 fun n16 => U.elemAt 4 x0 n16 fun e17 => U.asVar true 4 e17 fun e18 => if storable (.val e18) = true ∧ e18.size = 4 then if 4 = 4 ∧ 4 = 4 ∧ ((c5).length + ([e18] : List U).length) * 32 ≤ 140737488355328 then (U.bin .add x16 (.int .i64 1)).bind fun t20 => impl_CycleEdges_F_l0 E x0 x1 x14 x15 t20 (c5 ++ [e18]) else none else none else none else none)
 (if 4 = 4 ∧ U.flat.flats c5 = true then some (.sl 4 c5) else none) :=
 (loop_eq E _ _ _ _).trans (by kernel_rfl)

/-- In the environment E: this function and those that it calls. -/
structure G_impl_CycleEdges_F (E : Env) : Prop where
  is : Is E 100084 2 impl_CycleEdges_F_ac [(4, none)]
  c_impl_CheckCycle : G_impl_CheckCycle E
  c_slices_IndexFunc_g66 : G_slices_IndexFunc_g66 E
  c_impl_CycleEdges_1 : G_impl_CycleEdges_1 E
theorem impl_CycleEdges_F_E {E : Env} (h : G_impl_CycleEdges_F E) (a0 a1 : U) : E 100084 [a0, a1] =
 (E 60 [a0, a1]).bind fun t1 => (U.un .not t1).bind fun t2 => U.asBool t2
 (some (.sl 4 []))
 ((U.lenOf false a1).bind fun n3 => impl_CycleEdges_F_l0 E a0 a1 a1 (.int .i64 (n3 : Int)) (.int .i64 0) []) := (h.is _ rfl).trans ((runQ_F rfl).trans (impl_CycleEdges_F_eq E a0 a1))

end Go.Proofs.Ytmebdbagcbgddaa.Am
namespace Go.Proofs.Ytmebdbagcbgddaa.Am
open Go
set_option linter.unusedVariables false
set_option maxRecDepth 100000

/- loop.example/g01924/laws.markEdgeS!M -/
def laws_markEdgeS_M_b0 : AC :=
 (.seq (.seq (.region 0 [⟨some 6, .mv (.t 5), none⟩,
  ⟨some 7, .mv (.t 0), none⟩,
  ⟨some 8, .len false (.t 7), none⟩,
  ⟨some 9, .bin .lss (.t 6) (.t 8), none⟩])
 (.cond (.t 9) .skip (.exit 0)))
 (.seq (.block 1 (.seq (.region 0 [⟨some 12, .mv (.t 0), none⟩,
  ⟨some 13, .mv (.t 5), none⟩,
  ⟨some 14, .mv (.t 1), none⟩,
  ⟨some 15, .iaddr 4 (.t 12) (.t 13), none⟩,
  ⟨some 16, .faddr 0 0 (.t 15), none⟩,
  ⟨none, .store 1 (.t 16) (.t 14), none⟩])
 (.seq (.region 0 [⟨some 17, .mv (.t 1), none⟩,
  ⟨some 18, .bin .add (.t 17) (.c (.int .i64 1)), none⟩,
  ⟨some 1, .mv (.t 18), none⟩])
 (.seq (.region 0 [⟨some 19, .mv (.t 0), none⟩,
  ⟨some 20, .mv (.t 5), none⟩,
  ⟨some 21, .mv (.t 1), none⟩,
  ⟨some 22, .iaddr 4 (.t 19) (.t 20), none⟩,
  ⟨some 23, .faddr 1 1 (.t 22), none⟩,
  ⟨none, .store 1 (.t 23) (.t 21), none⟩])
 (.seq (.region 0 [⟨some 24, .mv (.t 1), none⟩,
  ⟨some 25, .bin .add (.t 24) (.c (.int .i64 1)), none⟩,
  ⟨some 1, .mv (.t 25), none⟩])
 (.seq (.region 0 [⟨some 26, .mv (.t 0), none⟩,
  ⟨some 27, .mv (.t 5), none⟩,
  ⟨some 28, .mv (.t 1), none⟩,
  ⟨some 29, .iaddr 4 (.t 26) (.t 27), none⟩,
  ⟨some 30, .faddr 2 2 (.t 29), none⟩,
  ⟨none, .store 1 (.t 30) (.t 28), none⟩])
 (.seq (.region 0 [⟨some 31, .mv (.t 1), none⟩,
  ⟨some 32, .bin .add (.t 31) (.c (.int .i64 1)), none⟩,
  ⟨some 1, .mv (.t 32), none⟩])
 (.seq (.region 0 [⟨some 33, .mv (.t 0), none⟩,
  ⟨some 34, .mv (.t 5), none⟩,
  ⟨some 35, .mv (.t 1), none⟩,
  ⟨some 36, .iaddr 4 (.t 33) (.t 34), none⟩,
  ⟨some 37, .faddr 3 3 (.t 36), none⟩,
  ⟨none, .store 1 (.t 37) (.t 35), none⟩])
 (.region 0 [⟨some 38, .mv (.t 1), none⟩,
  ⟨some 39, .bin .add (.t 38) (.c (.int .i64 1)), none⟩,
  ⟨some 1, .mv (.t 39), none⟩])))))))))
 (.region 0 [⟨some 10, .mv (.t 5), none⟩,
  ⟨some 11, .bin .add (.t 10) (.c (.int .i64 1)), none⟩,
  ⟨some 5, .mv (.t 11), none⟩])))
def laws_markEdgeS_M_r0 : AC :=
 (.seq (.region 0 [⟨some 40, .mv (.t 1), none⟩,
  ⟨some 4, .mv (.t 40), none⟩])
 .ret)
def laws_markEdgeS_M_ac : AC :=
 (.seq (.region 0 [⟨some 4, .mv (.c (.int .i64 0)), none⟩])
 (.seq (.seq (.region 0 [⟨some 5, .mv (.c (.int .i64 0)), none⟩])
 (.block 0 (.loop ⟨[0, 1, 5], [], [5000]⟩ laws_markEdgeS_M_b0)))
 laws_markEdgeS_M_r0))
noncomputable def laws_markEdgeS_M_l0 (E : Env) (x1 : U) (x5 : U) (b5000 : List U) : Option U := loopK (roundOf E ⟨[0, 1, 5], [], [5000]⟩ laws_markEdgeS_M_b0 (blockK 0 (seqK (fun s => exec E laws_markEdgeS_M_r0 s (finishM 4 [(4, none)])) (finishM 4 [(4, none)])))) ([.ref 5000 4 none, .val x1, .val x5], [.arr 4 b5000])
theorem laws_markEdgeS_M_eq (E : Env) (xs0 : List U) (a1 : U) : exec E laws_markEdgeS_M_ac (startM 4 xs0 [a1]) (finishM 4 [(4, none)]) =
 laws_markEdgeS_M_l0 E a1 (.int .i64 0) xs0 := by kernel_rfl
theorem laws_markEdgeS_M_l0_eq (E : Env) (x1 : U) (x5 : U) (b5000 : List U) : laws_markEdgeS_M_l0 E x1 x5 b5000 =
 (U.bin .lss x5 (.int .i64 ((b5000).length : Int))).bind fun t1 => U.asBool t1
 (U.asInt x5 fun n2 => if 4 = 4 ∧ 4 = 4 ∧ 0 ≤ n2 ∧ n2 < ((b5000).length : Int) then if storable (.val x1) = true ∧ x1.size = 1 then if 4 = 4 then (b5000[(n2 : Int).toNat]?).bind fun e3 => U.asAgg e3 fun us4 => if 0 = sizes (us4.take 0) then (us4[0]?).bind fun e5 => if e5.size = 1 then (U.bin .add x1 (.int .i64 1)).bind fun t6 => U.asInt x5 fun n7 => if 4 = 4 ∧ 4 = 4 ∧ 0 ≤ n7 ∧ n7 < (((b5000.set (n2 : Int).toNat (.agg (us4.set 0 x1)))).length : Int) then if storable (.val t6) = true ∧ t6.size = 1 then if 4 = 4 then ((b5000.set (n2 : Int).toNat (.agg (us4.set 0 x1)))[(n7 : Int).toNat]?).bind fun e8 => U.asAgg e8 fun us9 => if 1 = sizes (us9.take 1) then (us9[1]?).bind fun e10 => if e10.size = 1 then (U.bin .add t6 (.int .i64 1)).bind fun t11 => U.asInt x5 fun n12 => if 4 = 4 ∧ 4 = 4 ∧ 0 ≤ n12 ∧ n12 < ((((b5000.set (n2 : Int).toNat (.agg (us4.set 0 x1))).set (n7 : Int).toNat (.agg (us9.set 1 t6)))).length : Int) then if storable (.val t11) = true ∧ t11.size = 1 then if 4 = 4 then (((b5000.set (n2 : Int).toNat (.agg (us4.set 0 x1))).set (n7 : Int).toNat (.agg (us9.set 1 t6)))[(n12 : Int).toNat]?).bind fun e13 => U.asAgg e13 fun us14 => if 2 = sizes (us14.take 2) then (us14[2]?).bind fun e15 => if e15.size = 1 then (U.bin .add t11 (.int .i64 1)).bind fun t16 => U.asInt x5 fun n17 => if 4 = 4 ∧ 4 = 4 ∧ 0 ≤ n17 ∧ n17 < (((((b5000.set (n2 : Int).toNat (.agg (us4.set 0 x1))).set (n7 : Int).toNat (.agg (us9.set 1 t6))).set (n12 : Int).toNat (.agg (us14.set 2 t11)))).length : Int) then if storable (.val t16) = true ∧ t16.size = 1 then if 4 = 4 then ((((b5000.set (n2 : Int).toNat (.agg (us4.set 0 x1))).set (n7 : Int).toNat (.agg (us9.set 1 t6))).set (n12 : Int).toNat (.agg (us14.set 2 t11)))[(n17 : Int).toNat]?).bind fun e18 => U.asAgg e18 fun us19 => if 3 = sizes (us19.take 3) then (us19[3]?).bind fun e20 => if e20.size = 1 then (U.bin .add t16 (.int .i64 1)).bind fun t21 => (U.bin .add x5 (.int .i64 1)).bind fun t22 => laws_markEdgeS_M_l0 E t21 t22 ((((b5000.set (n2 : Int).toNat (.agg (us4.set 0 x1))).set (n7 : Int).toNat (.agg (us9.set 1 t6))).set (n12 : Int).toNat (.agg (us14.set 2 t11))).set (n17 : Int).toNat (.agg (us19.set 3 t16))) else none else none else none else none else none else none else none else none else none else none else none else none else none else none else none else none else none else none else none else none)
 (if 4 = 4 ∧ (x1 : U).flat = true ∧ U.flat.flats b5000 = true then some (.tup [x1, .sl 4 b5000]) else none) :=
 (loop_eq E _ _ _ _).trans (by kernel_rfl)

/-- In the environment E: this function and those that it calls. -/
structure G_laws_markEdgeS_M (E : Env) : Prop where
  is : Is E 200085 2 laws_markEdgeS_M_ac [(4, none)]
theorem laws_markEdgeS_M_E {E : Env} (h : G_laws_markEdgeS_M E) (xs0 : List U) (a1 : U) : E 200085 (.agg [.tup [.sl 4 xs0]] :: [a1]) =
 laws_markEdgeS_M_l0 E a1 (.int .i64 0) xs0 := (h.is _ rfl).trans ((runQ_M rfl).trans (laws_markEdgeS_M_eq E xs0 a1))

end Go.Proofs.Ytmebdbagcbgddaa.Am
namespace Go.Proofs.Ytmebdbagcbgddaa.Am
open Go
set_option linter.unusedVariables false
set_option maxRecDepth 100000

/- loop.example/g01924/laws.markIntS!M -/
def laws_markIntS_M_b0 : AC :=
 (.seq (.seq (.region 0 [⟨some 6, .mv (.t 5), none⟩,
  ⟨some 7, .mv (.t 0), none⟩,
  ⟨some 8, .len false (.t 7), none⟩,
  ⟨some 9, .bin .lss (.t 6) (.t 8), none⟩])
 (.cond (.t 9) .skip (.exit 0)))
 (.seq (.block 1 (.seq (.region 0 [⟨some 12, .mv (.t 0), none⟩,
  ⟨some 13, .mv (.t 5), none⟩,
  ⟨some 14, .mv (.t 1), none⟩,
  ⟨some 15, .iaddr 1 (.t 12) (.t 13), none⟩,
  ⟨none, .store 1 (.t 15) (.t 14), none⟩])
 (.region 0 [⟨some 16, .mv (.t 1), none⟩,
  ⟨some 17, .bin .add (.t 16) (.c (.int .i64 1)), none⟩,
  ⟨some 1, .mv (.t 17), none⟩])))
 (.region 0 [⟨some 10, .mv (.t 5), none⟩,
  ⟨some 11, .bin .add (.t 10) (.c (.int .i64 1)), none⟩,
  ⟨some 5, .mv (.t 11), none⟩])))
def laws_markIntS_M_r0 : AC :=
 (.seq (.region 0 [⟨some 18, .mv (.t 1), none⟩,
  ⟨some 4, .mv (.t 18), none⟩])
 .ret)
def laws_markIntS_M_ac : AC :=
 (.seq (.region 0 [⟨some 4, .mv (.c (.int .i64 0)), none⟩])
 (.seq (.seq (.region 0 [⟨some 5, .mv (.c (.int .i64 0)), none⟩])
 (.block 0 (.loop ⟨[0, 1, 5], [], [5000]⟩ laws_markIntS_M_b0)))
 laws_markIntS_M_r0))
noncomputable def laws_markIntS_M_l0 (E : Env) (x1 : U) (x5 : U) (b5000 : List U) : Option U := loopK (roundOf E ⟨[0, 1, 5], [], [5000]⟩ laws_markIntS_M_b0 (blockK 0 (seqK (fun s => exec E laws_markIntS_M_r0 s (finishM 1 [(4, none)])) (finishM 1 [(4, none)])))) ([.ref 5000 1 none, .val x1, .val x5], [.arr 1 b5000])
theorem laws_markIntS_M_eq (E : Env) (xs0 : List U) (a1 : U) : exec E laws_markIntS_M_ac (startM 1 xs0 [a1]) (finishM 1 [(4, none)]) =
 laws_markIntS_M_l0 E a1 (.int .i64 0) xs0 := by kernel_rfl
theorem laws_markIntS_M_l0_eq (E : Env) (x1 : U) (x5 : U) (b5000 : List U) : laws_markIntS_M_l0 E x1 x5 b5000 =
 (U.bin .lss x5 (.int .i64 ((b5000).length : Int))).bind fun t1 => U.asBool t1
 (U.asInt x5 fun n2 => if 1 = 1 ∧ 1 = 1 ∧ 0 ≤ n2 ∧ n2 < ((b5000).length : Int) then if storable (.val x1) = true ∧ x1.size = 1 then if 1 = 1 then (b5000[(n2 : Int).toNat]?).bind fun e3 => if e3.size = 1 then (U.bin .add x1 (.int .i64 1)).bind fun t4 => (U.bin .add x5 (.int .i64 1)).bind fun t5 => laws_markIntS_M_l0 E t4 t5 (b5000.set (n2 : Int).toNat x1) else none else none else none else none)
 (if 1 = 1 ∧ (x1 : U).flat = true ∧ U.flat.flats b5000 = true then some (.tup [x1, .sl 1 b5000]) else none) :=
 (loop_eq E _ _ _ _).trans (by kernel_rfl)

/-- In the environment E: this function and those that it calls. -/
structure G_laws_markIntS_M (E : Env) : Prop where
  is : Is E 200086 2 laws_markIntS_M_ac [(4, none)]
theorem laws_markIntS_M_E {E : Env} (h : G_laws_markIntS_M E) (xs0 : List U) (a1 : U) : E 200086 (.agg [.tup [.sl 1 xs0]] :: [a1]) =
 laws_markIntS_M_l0 E a1 (.int .i64 0) xs0 := (h.is _ rfl).trans ((runQ_M rfl).trans (laws_markIntS_M_eq E xs0 a1))

end Go.Proofs.Ytmebdbagcbgddaa.Am
namespace Go.Proofs.Ytmebdbagcbgddaa.Am
open Go
set_option linter.unusedVariables false
set_option maxRecDepth 100000

/- loop.example/g01924/laws.FnExactCycleEdges -/
def laws_FnExactCycleEdges_ac : AC :=
 (.seq (.region 0 [⟨some 4, .mv (.c (.bool false)), none⟩])
 (.seq (.seq (.region 0 [⟨some 14, .mv (.t 1), none⟩,
  ⟨some 15, .len false (.t 14), none⟩,
  ⟨some 16, .bin .gtr (.t 15) (.c (.int .i64 1048576)), none⟩])
 (.cond (.t 16) (.seq (.region 0 [⟨some 4, .mv (.c (.bool true)), none⟩])
 .ret) .skip))
 (.seq (.region 0 [⟨some 5, .mv (.c (.int .i64 1048576)), none⟩])
 (.seq (.region 0 [⟨some 17, .mv (.t 0), none⟩,
  ⟨some 18, .mv (.t 5), none⟩,
  ⟨some 19, .call false 5 [(.t 17), (.t 18)], none⟩,
  ⟨some 5, .mv (.t 19), none⟩])
 (.seq (.seq (.region 0 [⟨some 20, .mv (.t 5), none⟩,
  ⟨some 21, .bin .lss (.t 20) (.c (.int .i64 0)), none⟩])
 (.cond (.t 21) (.seq (.region 0 [⟨some 4, .mv (.c (.bool true)), none⟩])
 .ret) .skip))
 (.seq (.region 0 [⟨some 22, .mv (.t 0), none⟩,
  ⟨some 23, .call false 1 [(.t 22)], none⟩,
  ⟨some 24, .mv (.t 1), none⟩,
  ⟨some 25, .call false 58 [(.t 24)], none⟩,
  ⟨some 26, .call false 87 [(.t 23), (.t 25)], none⟩,
  ⟨some 6, .mv (.t 26), none⟩])
 (.seq (.region 0 [⟨some 27, .mv (.t 0), none⟩,
  ⟨some 28, .callF 4 1 [(.t 27)], none⟩,
  ⟨some 7, .mv (.t 28), none⟩])
 (.seq (.region 0 [⟨some 29, .mv (.t 1), none⟩,
  ⟨some 30, .callF 1 58 [(.t 29)], none⟩,
  ⟨some 8, .mv (.t 30), none⟩])
 (.seq (.region 0 [⟨some 31, .mv (.t 7), none⟩,
  ⟨some 32, .mv (.t 8), none⟩,
  ⟨some 33, .callF 4 84 [(.t 31), (.t 32)], none⟩,
  ⟨some 9, .mv (.t 33), none⟩])
 (.seq (.seq (.region 0 [⟨some 34, .mv (.t 9), none⟩,
  ⟨some 35, .mv (.t 6), none⟩,
  ⟨some 36, .call false 2 [(.t 34), (.t 35)], none⟩,
  ⟨some 37, .un .not (.t 36), none⟩])
 (.cond (.t 37) (.seq (.region 0 [⟨some 4, .mv (.c (.bool false)), none⟩])
 .ret) .skip))
 (.seq (.seq (.region 0 [⟨some 38, .mv (.t 7), none⟩,
  ⟨some 39, .mv (.t 0), none⟩,
  ⟨some 40, .call false 1 [(.t 39)], none⟩,
  ⟨some 41, .call false 2 [(.t 38), (.t 40)], none⟩,
  ⟨some 42, .un .not (.t 41), none⟩])
 (.cond (.t 42) (.seq (.region 0 [⟨some 4, .mv (.c (.bool false)), none⟩])
 .ret) .skip))
 (.seq (.seq (.region 0 [⟨some 43, .mv (.t 8), none⟩,
  ⟨some 44, .mv (.t 1), none⟩,
  ⟨some 45, .call false 58 [(.t 44)], none⟩,
  ⟨some 46, .call false 59 [(.t 43), (.t 45)], none⟩,
  ⟨some 47, .un .not (.t 46), none⟩])
 (.cond (.t 47) (.seq (.region 0 [⟨some 4, .mv (.c (.bool false)), none⟩])
 .ret) .skip))
 (.seq (.region 0 [⟨some 10, .mv (.c (.int .i64 1)), none⟩])
 (.seq (.region 0 [⟨some 48, .mv (.t 7), none⟩,
  ⟨some 49, .mv (.t 10), none⟩,
  ⟨some 50, .callM 4 85 (.t 48) [(.t 49)], none⟩,
  ⟨some 10, .mv (.t 50), none⟩])
 (.seq (.region 0 [⟨some 51, .mv (.t 8), none⟩,
  ⟨some 52, .mv (.t 10), none⟩,
  ⟨some 53, .callM 1 86 (.t 51) [(.t 52)], none⟩,
  ⟨some 10, .mv (.t 53), none⟩])
 (.seq (.seq (.region 0 [⟨some 54, .mv (.t 10), none⟩,
  ⟨some 55, .bin .lss (.t 54) (.c (.int .i64 0)), none⟩,
  ⟨some 56, .mv (.t 55), none⟩,
  ⟨some 57, .mv (.t 9), some (56, false)⟩,
  ⟨some 58, .mv (.t 6), some (56, false)⟩,
  ⟨some 59, .call false 2 [(.t 57), (.t 58)], some (56, false)⟩,
  ⟨some 60, .un .not (.t 59), some (56, false)⟩,
  ⟨some 61, .pick (.t 56) (.c (.bool true)) (.t 60), none⟩])
 (.cond (.t 61) (.seq (.region 0 [⟨some 4, .mv (.c (.bool false)), none⟩])
 .ret) .skip))
 (.seq (.region 0 [⟨some 11, .mv (.c (.int .i64 1)), none⟩])
 (.seq (.region 0 [⟨some 62, .mv (.t 9), none⟩,
  ⟨some 63, .mv (.t 11), none⟩,
  ⟨some 64, .callM 4 85 (.t 62) [(.t 63)], none⟩,
  ⟨some 11, .mv (.t 64), none⟩])
 (.seq (.region 0 [⟨some 12, .mv (.c (.int .i64 1)), none⟩])
 (.seq (.region 0 [⟨some 65, .mv (.t 9), none⟩,
  ⟨some 66, .mv (.t 12), none⟩,
  ⟨some 67, .call false 83 [(.t 65), (.t 66)], none⟩,
  ⟨some 12, .mv (.t 67), none⟩])
 (.seq (.seq (.region 0 [⟨some 68, .mv (.t 12), none⟩,
  ⟨some 69, .bin .lss (.t 68) (.c (.int .i64 0)), none⟩])
 (.cond (.t 69) (.seq (.region 0 [⟨some 4, .mv (.c (.bool false)), none⟩])
 .ret) .skip))
 (.seq (.seq (.region 0 [⟨some 70, .mv (.t 12), none⟩,
  ⟨some 71, .mv (.t 11), none⟩,
  ⟨some 72, .bin .neq (.t 70) (.t 71), none⟩])
 (.cond (.t 72) (.seq (.region 0 [⟨some 4, .mv (.c (.bool false)), none⟩])
 .ret) .skip))
 (.seq (.region 0 [⟨some 73, .mv (.t 0), none⟩,
  ⟨some 74, .call false 1 [(.t 73)], none⟩,
  ⟨some 75, .mv (.t 1), none⟩,
  ⟨some 76, .call false 58 [(.t 75)], none⟩,
  ⟨some 77, .call false 84 [(.t 74), (.t 76)], none⟩,
  ⟨some 13, .mv (.t 77), none⟩])
 (.seq (.seq (.region 0 [⟨some 78, .mv (.t 13), none⟩,
  ⟨some 79, .mv (.t 6), none⟩,
  ⟨some 80, .call false 2 [(.t 78), (.t 79)], none⟩,
  ⟨some 81, .un .not (.t 80), none⟩])
 (.cond (.t 81) (.seq (.region 0 [⟨some 4, .mv (.c (.bool false)), none⟩])
 .ret) .skip))
 (.seq (.region 0 [⟨some 12, .mv (.c (.int .i64 1)), none⟩])
 (.seq (.region 0 [⟨some 82, .mv (.t 9), none⟩,
  ⟨some 83, .mv (.t 12), none⟩,
  ⟨some 84, .call false 83 [(.t 82), (.t 83)], none⟩,
  ⟨some 12, .mv (.t 84), none⟩])
 (.seq (.seq (.region 0 [⟨some 85, .mv (.t 12), none⟩,
  ⟨some 86, .bin .lss (.t 85) (.c (.int .i64 0)), none⟩])
 (.cond (.t 86) (.seq (.region 0 [⟨some 4, .mv (.c (.bool false)), none⟩])
 .ret) .skip))
 (.seq (.seq (.region 0 [⟨some 87, .mv (.t 12), none⟩,
  ⟨some 88, .mv (.t 11), none⟩,
  ⟨some 89, .bin .neq (.t 87) (.t 88), none⟩])
 (.cond (.t 89) (.seq (.region 0 [⟨some 4, .mv (.c (.bool false)), none⟩])
 .ret) .skip))
 (.seq (.region 0 [⟨some 4, .mv (.c (.bool true)), none⟩])
 .ret)))))))))))))))))))))))))))))

theorem laws_FnExactCycleEdges_eq (E : Env) (a0 : U) (a1 : U) : run E laws_FnExactCycleEdges_ac [(4, none)] [a0, a1] =
 (U.lenOf false a1).bind fun n1 => (U.bin .gtr (.int .i64 (n1 : Int)) (.int .i64 1048576)).bind fun t2 => U.asBool t2
 (some (.bool true))
 ((E 5 [a0, (.int .i64 1048576)]).bind fun t3 => (U.bin .lss t3 (.int .i64 0)).bind fun t4 => U.asBool t4
 (some (.bool true))
 ((E 1 [a0]).bind fun t5 => (E 58 [a1]).bind fun t6 => (E 87 [t5, t6]).bind fun t7 => (E 100001 [a0]).bind fun t8 => U.asSl t8 fun k9 xs10 => if k9 = 4 ∧ U.flat.flats xs10 = true then (E 100058 [a1]).bind fun t11 => U.asSl t11 fun k12 xs13 => if k12 = 1 ∧ U.flat.flats xs13 = true then (E 100084 [(.sl 4 xs10), (.sl 1 xs13)]).bind fun t14 => U.asSl t14 fun k15 xs16 => if k15 = 4 ∧ U.flat.flats xs16 = true then (E 2 [(.sl 4 xs16), t7]).bind fun t17 => U.asFlat t17 fun t18 => (U.un .not t18).bind fun t19 => U.asBool t19
 (some (.bool false))
 ((E 1 [a0]).bind fun t20 => (E 2 [(.sl 4 xs10), t20]).bind fun t21 => U.asFlat t21 fun t22 => (U.un .not t22).bind fun t23 => U.asBool t23
 (some (.bool false))
 ((E 58 [a1]).bind fun t24 => (E 59 [(.sl 1 xs13), t24]).bind fun t25 => U.asFlat t25 fun t26 => (U.un .not t26).bind fun t27 => U.asBool t27
 (some (.bool false))
 (if 4 = 4 ∧ 4 = 4 ∧ U.flat.flats xs10 = true then (E 200085 (.agg [.tup [.sl 4 xs10]] :: [(.int .i64 1)])).bind fun t28 => U.asMut 4 t28 fun y29 ys30 => if y29.flat = true ∧ U.flat.flats ys30 = true then if 1 = 1 ∧ 1 = 1 ∧ U.flat.flats xs13 = true then (E 200086 (.agg [.tup [.sl 1 xs13]] :: [y29])).bind fun t31 => U.asMut 1 t31 fun y32 ys33 => if y32.flat = true ∧ U.flat.flats ys33 = true then (U.bin .lss y32 (.int .i64 0)).bind fun t34 => U.asBool t34
 (some (.bool false))
 ((E 2 [(.sl 4 xs16), t7]).bind fun t35 => U.asFlat t35 fun t36 => (U.un .not t36).bind fun t37 => U.asBool t37
 (some (.bool false))
 (if 4 = 4 ∧ 4 = 4 ∧ U.flat.flats xs16 = true then (E 200085 (.agg [.tup [.sl 4 xs16]] :: [(.int .i64 1)])).bind fun t38 => U.asMut 4 t38 fun y39 ys40 => if y39.flat = true ∧ U.flat.flats ys40 = true then (E 83 [(.sl 4 ys40), (.int .i64 1)]).bind fun t41 => U.asFlat t41 fun t42 => (U.bin .lss t42 (.int .i64 0)).bind fun t43 => U.asBool t43
 (some (.bool false))
 ((U.bin .neq t42 y39).bind fun t44 => U.asBool t44
 (some (.bool false))
 ((E 1 [a0]).bind fun t45 => (E 58 [a1]).bind fun t46 => (E 84 [t45, t46]).bind fun t47 => (E 2 [t47, t7]).bind fun t48 => (U.un .not t48).bind fun t49 => U.asBool t49
 (some (.bool false))
 ((E 83 [(.sl 4 ys40), (.int .i64 1)]).bind fun t50 => U.asFlat t50 fun t51 => (U.bin .lss t51 (.int .i64 0)).bind fun t52 => U.asBool t52
 (some (.bool false))
 ((U.bin .neq t51 y39).bind fun t53 => U.asBool t53
 (some (.bool false))
 (some (.bool true)))))) else none else none)) else none else none else none else none))) else none else none else none)) := by kernel_rfl

/-- In the environment E: this function and those that it calls. -/
structure G_laws_FnExactCycleEdges (E : Env) : Prop where
  is : Is E 82 2 laws_FnExactCycleEdges_ac [(4, none)]
  c_laws_szEdgeS : G_laws_szEdgeS E
  c_laws_toEdgeS : G_laws_toEdgeS E
  c_laws_eqEdgeS : G_laws_eqEdgeS E
  c_laws_toIntS : G_laws_toIntS E
  c_laws_eqIntS : G_laws_eqIntS E
  c_spec_CycleEdges : G_spec_CycleEdges E
  c_impl_CycleEdges : G_impl_CycleEdges E
  c_laws_heldEdgeS : G_laws_heldEdgeS E
  c_laws_toEdgeS_F : G_laws_toEdgeS_F E
  c_laws_toIntS_F : G_laws_toIntS_F E
  c_impl_CycleEdges_F : G_impl_CycleEdges_F E
  c_laws_markEdgeS_M : G_laws_markEdgeS_M E
  c_laws_markIntS_M : G_laws_markIntS_M E
theorem laws_FnExactCycleEdges_E {E : Env} (h : G_laws_FnExactCycleEdges E) (a0 a1 : U) : E 82 [a0, a1] =
 (U.lenOf false a1).bind fun n1 => (U.bin .gtr (.int .i64 (n1 : Int)) (.int .i64 1048576)).bind fun t2 => U.asBool t2
 (some (.bool true))
 ((E 5 [a0, (.int .i64 1048576)]).bind fun t3 => (U.bin .lss t3 (.int .i64 0)).bind fun t4 => U.asBool t4
 (some (.bool true))
 ((E 1 [a0]).bind fun t5 => (E 58 [a1]).bind fun t6 => (E 87 [t5, t6]).bind fun t7 => (E 100001 [a0]).bind fun t8 => U.asSl t8 fun k9 xs10 => if k9 = 4 ∧ U.flat.flats xs10 = true then (E 100058 [a1]).bind fun t11 => U.asSl t11 fun k12 xs13 => if k12 = 1 ∧ U.flat.flats xs13 = true then (E 100084 [(.sl 4 xs10), (.sl 1 xs13)]).bind fun t14 => U.asSl t14 fun k15 xs16 => if k15 = 4 ∧ U.flat.flats xs16 = true then (E 2 [(.sl 4 xs16), t7]).bind fun t17 => U.asFlat t17 fun t18 => (U.un .not t18).bind fun t19 => U.asBool t19
 (some (.bool false))
 ((E 1 [a0]).bind fun t20 => (E 2 [(.sl 4 xs10), t20]).bind fun t21 => U.asFlat t21 fun t22 => (U.un .not t22).bind fun t23 => U.asBool t23
 (some (.bool false))
 ((E 58 [a1]).bind fun t24 => (E 59 [(.sl 1 xs13), t24]).bind fun t25 => U.asFlat t25 fun t26 => (U.un .not t26).bind fun t27 => U.asBool t27
 (some (.bool false))
 (if 4 = 4 ∧ 4 = 4 ∧ U.flat.flats xs10 = true then (E 200085 (.agg [.tup [.sl 4 xs10]] :: [(.int .i64 1)])).bind fun t28 => U.asMut 4 t28 fun y29 ys30 => if y29.flat = true ∧ U.flat.flats ys30 = true then if 1 = 1 ∧ 1 = 1 ∧ U.flat.flats xs13 = true then (E 200086 (.agg [.tup [.sl 1 xs13]] :: [y29])).bind fun t31 => U.asMut 1 t31 fun y32 ys33 => if y32.flat = true ∧ U.flat.flats ys33 = true then (U.bin .lss y32 (.int .i64 0)).bind fun t34 => U.asBool t34
 (some (.bool false))
 ((E 2 [(.sl 4 xs16), t7]).bind fun t35 => U.asFlat t35 fun t36 => (U.un .not t36).bind fun t37 => U.asBool t37
 (some (.bool false))
 (if 4 = 4 ∧ 4 = 4 ∧ U.flat.flats xs16 = true then (E 200085 (.agg [.tup [.sl 4 xs16]] :: [(.int .i64 1)])).bind fun t38 => U.asMut 4 t38 fun y39 ys40 => if y39.flat = true ∧ U.flat.flats ys40 = true then (E 83 [(.sl 4 ys40), (.int .i64 1)]).bind fun t41 => U.asFlat t41 fun t42 => (U.bin .lss t42 (.int .i64 0)).bind fun t43 => U.asBool t43
 (some (.bool false))
 ((U.bin .neq t42 y39).bind fun t44 => U.asBool t44
 (some (.bool false))
 ((E 1 [a0]).bind fun t45 => (E 58 [a1]).bind fun t46 => (E 84 [t45, t46]).bind fun t47 => (E 2 [t47, t7]).bind fun t48 => (U.un .not t48).bind fun t49 => U.asBool t49
 (some (.bool false))
 ((E 83 [(.sl 4 ys40), (.int .i64 1)]).bind fun t50 => U.asFlat t50 fun t51 => (U.bin .lss t51 (.int .i64 0)).bind fun t52 => U.asBool t52
 (some (.bool false))
 ((U.bin .neq t51 y39).bind fun t53 => U.asBool t53
 (some (.bool false))
 (some (.bool true)))))) else none else none)) else none else none else none else none))) else none else none else none)) := (h.is _ rfl).trans ((runQ_V rfl).trans (laws_FnExactCycleEdges_eq E a0 a1))

end Go.Proofs.Ytmebdbagcbgddaa.Am
namespace Go.Proofs.Ytmebdbagcbgddaa.Am
open Go
set_option linter.unusedVariables false
set_option maxRecDepth 100000

/- loop.example/g01924/laws.FnExactAreEdges -/
def laws_FnExactAreEdges_ac : AC :=
 (.seq (.region 0 [⟨some 2, .mv (.c (.bool false)), none⟩])
 (.seq (.region 0 [⟨some 3, .mv (.c (.int .i64 1048576)), none⟩])
 (.seq (.region 0 [⟨some 7, .mv (.t 0), none⟩,
  ⟨some 8, .mv (.t 3), none⟩,
  ⟨some 9, .call false 5 [(.t 7), (.t 8)], none⟩,
  ⟨some 3, .mv (.t 9), none⟩])
 (.seq (.seq (.region 0 [⟨some 10, .mv (.t 3), none⟩,
  ⟨some 11, .bin .lss (.t 10) (.c (.int .i64 0)), none⟩])
 (.cond (.t 11) (.seq (.region 0 [⟨some 2, .mv (.c (.bool true)), none⟩])
 .ret) .skip))
 (.seq (.region 0 [⟨some 12, .mv (.t 0), none⟩,
  ⟨some 13, .call false 1 [(.t 12)], none⟩,
  ⟨some 14, .call false 4 [(.t 13)], none⟩,
  ⟨some 4, .mv (.t 14), none⟩])
 (.seq (.region 0 [⟨some 15, .mv (.t 0), none⟩,
  ⟨some 16, .call false 1 [(.t 15)], none⟩,
  ⟨some 5, .mv (.t 16), none⟩])
 (.seq (.region 0 [⟨some 17, .mv (.t 5), none⟩,
  ⟨some 18, .call false 3 [(.t 17)], none⟩,
  ⟨some 6, .mv (.t 18), none⟩])
 (.seq (.seq (.region 0 [⟨some 19, .mv (.t 6), none⟩,
  ⟨some 20, .mv (.t 4), none⟩,
  ⟨some 21, .eqv true 0 (.t 19) (.t 20), none⟩])
 (.cond (.t 21) (.seq (.region 0 [⟨some 2, .mv (.c (.bool false)), none⟩])
 .ret) .skip))
 (.seq (.seq (.region 0 [⟨some 22, .mv (.t 5), none⟩,
  ⟨some 23, .mv (.t 0), none⟩,
  ⟨some 24, .call false 1 [(.t 23)], none⟩,
  ⟨some 25, .call false 2 [(.t 22), (.t 24)], none⟩,
  ⟨some 26, .un .not (.t 25), none⟩])
 (.cond (.t 26) (.seq (.region 0 [⟨some 2, .mv (.c (.bool false)), none⟩])
 .ret) .skip))
 (.seq (.region 0 [⟨some 2, .mv (.c (.bool true)), none⟩])
 .ret))))))))))

theorem laws_FnExactAreEdges_eq (E : Env) (a0 : U) : run E laws_FnExactAreEdges_ac [(2, none)] [a0] =
 (E 5 [a0, (.int .i64 1048576)]).bind fun t1 => (U.bin .lss t1 (.int .i64 0)).bind fun t2 => U.asBool t2
 (some (.bool true))
 ((E 1 [a0]).bind fun t3 => (E 4 [t3]).bind fun t4 => (E 1 [a0]).bind fun t5 => (E 3 [t5]).bind fun t6 => (U.eqv 0 t6 t4).bind fun q7 => U.asBool (.bool (!q7))
 (some (.bool false))
 ((E 1 [a0]).bind fun t8 => (E 2 [t5, t8]).bind fun t9 => (U.un .not t9).bind fun t10 => U.asBool t10
 (some (.bool false))
 (some (.bool true)))) := by kernel_rfl

/-- In the environment E: this function and those that it calls. -/
structure G_laws_FnExactAreEdges (E : Env) : Prop where
  is : Is E 0 1 laws_FnExactAreEdges_ac [(2, none)]
  c_laws_szEdgeS : G_laws_szEdgeS E
  c_spec_AreEdges : G_spec_AreEdges E
  c_laws_toEdgeS : G_laws_toEdgeS E
  c_impl_AreEdges : G_impl_AreEdges E
  c_laws_eqEdgeS : G_laws_eqEdgeS E
theorem laws_FnExactAreEdges_E {E : Env} (h : G_laws_FnExactAreEdges E) (a0 : U) : E 0 [a0] =
 (E 5 [a0, (.int .i64 1048576)]).bind fun t1 => (U.bin .lss t1 (.int .i64 0)).bind fun t2 => U.asBool t2
 (some (.bool true))
 ((E 1 [a0]).bind fun t3 => (E 4 [t3]).bind fun t4 => (E 1 [a0]).bind fun t5 => (E 3 [t5]).bind fun t6 => (U.eqv 0 t6 t4).bind fun q7 => U.asBool (.bool (!q7))
 (some (.bool false))
 ((E 1 [a0]).bind fun t8 => (E 2 [t5, t8]).bind fun t9 => (U.un .not t9).bind fun t10 => U.asBool t10
 (some (.bool false))
 (some (.bool true)))) := (h.is _ rfl).trans ((runQ_V rfl).trans (laws_FnExactAreEdges_eq E a0))

end Go.Proofs.Ytmebdbagcbgddaa.Am
namespace Go.Proofs.Ytmebdbagcbgddaa.Am
open Go
set_option linter.unusedVariables false
set_option maxRecDepth 100000

/- loop.example/g01924/spec.l20Far -/
def spec_l20Far_b2 : AC :=
 (.seq (.seq (.region 0 [⟨some 11, .mv (.t 6), none⟩,
  ⟨some 12, .bin .leq (.t 11) (.c (.int .i64 9)), none⟩])
 (.cond (.t 12) .skip (.exit 0)))
 (.seq (.block 1 (.region 0 [⟨some 15, .mv (.t 5), none⟩,
  ⟨some 16, .bslice true 1 1 (.int .i64 0) [(0, (.c (.int .i64 (-1))))], none⟩,
  ⟨some 17, .append 1 8 (.t 15) (.t 16), none⟩,
  ⟨some 5, .mv (.t 17), none⟩]))
 (.region 0 [⟨some 13, .mv (.t 6), none⟩,
  ⟨some 14, .bin .add (.t 13) (.c (.int .i64 1)), none⟩,
  ⟨some 6, .mv (.t 14), none⟩])))
def spec_l20Far_b1 : AC :=
 (.seq (.seq (.region 0 [⟨some 22, .mv (.t 8), none⟩,
  ⟨some 23, .mv (.t 0), none⟩,
  ⟨some 24, .len false (.t 23), none⟩,
  ⟨some 25, .bin .lss (.t 22) (.t 24), none⟩])
 (.cond (.t 25) .skip (.exit 4)))
 (.seq (.block 5 (.seq (.region 0 [⟨some 28, .mv (.t 0), none⟩,
  ⟨some 29, .mv (.t 8), none⟩,
  ⟨some 30, .iaddr 4 (.t 28) (.t 29), none⟩,
  ⟨some 31, .faddr 0 0 (.t 30), none⟩,
  ⟨some 32, .load false 1 (.t 31), none⟩,
  ⟨some 9, .mv (.t 32), none⟩])
 (.seq (.region 0 [⟨some 33, .mv (.t 5), none⟩,
  ⟨some 34, .mv (.t 9), none⟩,
  ⟨some 35, .iaddr 1 (.t 33) (.t 34), none⟩,
  ⟨some 36, .load false 1 (.t 35), none⟩,
  ⟨some 37, .bin .lss (.t 36) (.c (.int .i64 0)), none⟩,
  ⟨some 38, .mv (.t 37), none⟩,
  ⟨some 39, .mv (.t 7), some (38, true)⟩,
  ⟨some 40, .bin .eql (.t 39) (.c (.int .i64 1)), some (38, true)⟩,
  ⟨some 41, .mv (.t 40), some (38, true)⟩,
  ⟨some 42, .mv (.t 0), some (41, true)⟩,
  ⟨some 43, .mv (.t 8), some (41, true)⟩,
  ⟨some 44, .iaddr 4 (.t 42) (.t 43), some (41, true)⟩,
  ⟨some 45, .faddr 1 1 (.t 44), some (41, true)⟩,
  ⟨some 46, .load false 1 (.t 45), some (41, true)⟩,
  ⟨some 47, .mv (.t 1), some (41, true)⟩,
  ⟨some 48, .bin .eql (.t 46) (.t 47), some (41, true)⟩,
  ⟨some 49, .pick (.t 41) (.t 48) (.c (.bool false)), some (38, true)⟩,
  ⟨some 50, .mv (.t 49), some (38, true)⟩,
  ⟨some 51, .mv (.t 7), some (50, false)⟩,
  ⟨some 52, .bin .gtr (.t 51) (.c (.int .i64 1)), some (50, false)⟩,
  ⟨some 53, .mv (.t 52), some (50, false)⟩,
  ⟨some 54, .mv (.t 5), some (53, true)⟩,
  ⟨some 55, .mv (.t 0), some (53, true)⟩,
  ⟨some 56, .mv (.t 8), some (53, true)⟩,
  ⟨some 57, .iaddr 4 (.t 55) (.t 56), some (53, true)⟩,
  ⟨some 58, .faddr 1 1 (.t 57), some (53, true)⟩,
  ⟨some 59, .load false 1 (.t 58), some (53, true)⟩,
  ⟨some 60, .iaddr 1 (.t 54) (.t 59), some (53, true)⟩,
  ⟨some 61, .load false 1 (.t 60), some (53, true)⟩,
  ⟨some 62, .mv (.t 7), some (53, true)⟩,
  ⟨some 63, .bin .sub (.t 62) (.c (.int .i64 1)), some (53, true)⟩,
  ⟨some 64, .bin .eql (.t 61) (.t 63), some (53, true)⟩,
  ⟨some 65, .pick (.t 53) (.t 64) (.c (.bool false)), some (50, false)⟩,
  ⟨some 66, .pick (.t 50) (.c (.bool true)) (.t 65), some (38, true)⟩,
  ⟨some 67, .pick (.t 38) (.t 66) (.c (.bool false)), none⟩])
 (.cond (.t 67) (.region 0 [⟨some 68, .mv (.t 5), none⟩,
  ⟨some 69, .mv (.t 9), none⟩,
  ⟨some 70, .mv (.t 7), none⟩,
  ⟨some 71, .iaddr 1 (.t 68) (.t 69), none⟩,
  ⟨none, .store 1 (.t 71) (.t 70), none⟩]) .skip))))
 (.region 0 [⟨some 26, .mv (.t 8), none⟩,
  ⟨some 27, .bin .add (.t 26) (.c (.int .i64 1)), none⟩,
  ⟨some 8, .mv (.t 27), none⟩])))
def spec_l20Far_r0 : AC :=
 (.region 0 [⟨some 20, .mv (.t 7), none⟩,
  ⟨some 21, .bin .add (.t 20) (.c (.int .i64 1)), none⟩,
  ⟨some 7, .mv (.t 21), none⟩])
def spec_l20Far_b0 : AC :=
 (.seq (.seq (.region 0 [⟨some 18, .mv (.t 7), none⟩,
  ⟨some 19, .bin .leq (.t 18) (.c (.int .i64 9)), none⟩])
 (.cond (.t 19) .skip (.exit 2)))
 (.seq (.block 3 (.seq (.region 0 [⟨some 8, .mv (.c (.int .i64 0)), none⟩])
 (.block 4 (.loop ⟨[0, 1, 7, 8], [(5, 1)], []⟩ spec_l20Far_b1))))
 spec_l20Far_r0))
def spec_l20Far_r1 : AC :=
 (.seq (.region 0 [⟨some 72, .mv (.t 5), none⟩,
  ⟨some 4, .mv (.t 72), none⟩])
 .ret)
def spec_l20Far_r2 : AC :=
 (.seq (.seq (.region 0 [⟨some 7, .mv (.c (.int .i64 1)), none⟩])
 (.block 2 (.loop ⟨[0, 1, 7], [(5, 1)], []⟩ spec_l20Far_b0)))
 spec_l20Far_r1)
def spec_l20Far_ac : AC :=
 (.seq (.region 0 [⟨some 4, .mv (.c (.nsl 1)), none⟩])
 (.seq (.region 0 [⟨some 10, .bslice false 1 0 (.int .i64 0) [], none⟩,
  ⟨some 5, .mv (.t 10), none⟩])
 (.seq (.seq (.region 0 [⟨some 6, .mv (.c (.int .i64 0)), none⟩])
 (.block 0 (.loop ⟨[0, 1, 6], [(5, 1)], []⟩ spec_l20Far_b2)))
 spec_l20Far_r2)))
noncomputable def spec_l20Far_l2 (E : Env) (x0 : U) (x1 : U) (x6 : U) (c5 : List U) : Option U := loopK (roundOf E ⟨[0, 1, 6], [(5, 1)], []⟩ spec_l20Far_b2 (blockK 0 (seqK (fun s => exec E spec_l20Far_r2 s (finish [(4, none)])) (finish [(4, none)])))) ([.val x0, .val x1, .val x6], [.arr 1 c5])
noncomputable def spec_l20Far_l0 (E : Env) (x0 : U) (x1 : U) (x7 : U) (c5 : List U) : Option U := loopK (roundOf E ⟨[0, 1, 7], [(5, 1)], []⟩ spec_l20Far_b0 (blockK 2 (seqK (fun s => exec E spec_l20Far_r1 s (finish [(4, none)])) (finish [(4, none)])))) ([.val x0, .val x1, .val x7], [.arr 1 c5])
noncomputable def spec_l20Far_l1 (E : Env) (x0 : U) (x1 : U) (x7 : U) (x8 : U) (c5 : List U) : Option U := loopK (roundOf E ⟨[0, 1, 7, 8], [(5, 1)], []⟩ spec_l20Far_b1 (blockK 4 (blockK 3 (seqK (fun s => exec E spec_l20Far_r0 s (roundK ⟨[0, 1, 7], [(5, 1)], []⟩ (loopK (roundOf E ⟨[0, 1, 7], [(5, 1)], []⟩ spec_l20Far_b0 (blockK 2 (seqK (fun s => exec E spec_l20Far_r1 s (finish [(4, none)])) (finish [(4, none)]))))) (blockK 2 (seqK (fun s => exec E spec_l20Far_r1 s (finish [(4, none)])) (finish [(4, none)]))))) (roundK ⟨[0, 1, 7], [(5, 1)], []⟩ (loopK (roundOf E ⟨[0, 1, 7], [(5, 1)], []⟩ spec_l20Far_b0 (blockK 2 (seqK (fun s => exec E spec_l20Far_r1 s (finish [(4, none)])) (finish [(4, none)]))))) (blockK 2 (seqK (fun s => exec E spec_l20Far_r1 s (finish [(4, none)])) (finish [(4, none)])))))))) ([.val x0, .val x1, .val x7, .val x8], [.arr 1 c5])
theorem spec_l20Far_eq (E : Env) (a0 : U) (a1 : U) : run E spec_l20Far_ac [(4, none)] [a0, a1] =
 spec_l20Far_l2 E a0 a1 (.int .i64 0) [] := by kernel_rfl
theorem spec_l20Far_l2_eq (E : Env) (x0 : U) (x1 : U) (x6 : U) (c5 : List U) : spec_l20Far_l2 E x0 x1 x6 c5 =
 (U.bin .leq x6 (.int .i64 9)).bind fun t1 => U.asBool t1
 (if 1 = 1 ∧ 1 = 1 ∧ ((c5).length + ([(.int .i64 (-1))] : List U).length) * 8 ≤ 140737488355328 then (U.bin .add x6 (.int .i64 1)).bind fun t3 => spec_l20Far_l2 E x0 x1 t3 (c5 ++ [(.int .i64 (-1))]) else none)
 (spec_l20Far_l0 E x0 x1 (.int .i64 1) c5) :=
 (loop_eq E _ _ _ _).trans (by kernel_rfl)
theorem spec_l20Far_l0_eq (E : Env) (x0 : U) (x1 : U) (x7 : U) (c5 : List U) : spec_l20Far_l0 E x0 x1 x7 c5 =
 (U.bin .leq x7 (.int .i64 9)).bind fun t4 => U.asBool t4
 (spec_l20Far_l1 E x0 x1 x7 (.int .i64 0) c5)
 (some (.sl 1 c5)) :=
 (loop_eq E _ _ _ _).trans (by kernel_rfl)
theorem spec_l20Far_l1_eq (E : Env) (x0 : U) (x1 : U) (x7 : U) (x8 : U) (c5 : List U) : spec_l20Far_l1 E x0 x1 x7 x8 c5 =
 (U.lenOf false x0).bind fun n5 => (U.bin .lss x8 (.int .i64 (n5 : Int))).bind fun t6 => U.asBool t6
 (U.asInt x8 fun n7 => U.elemAt 4 x0 n7 fun e8 => U.fieldAt 0 0 e8 fun f9 => U.asVar false 1 f9 fun e10 => U.asInt e10 fun n11 => if 1 = 1 ∧ 1 = 1 ∧ 0 ≤ n11 ∧ n11 < ((c5).length : Int) then if 1 = 1 then (c5[(n11 : Int).toNat]?).bind fun e12 => U.asVar false 1 e12 fun e13 => (U.bin .lss e13 (.int .i64 0)).bind fun t14 => U.asBool t14
 ((U.bin .eql x7 (.int .i64 1)).bind fun t15 => U.asBool t15
 (U.asInt x8 fun n16 => U.elemAt 4 x0 n16 fun e17 => U.fieldAt 1 1 e17 fun f18 => U.asVar false 1 f18 fun e19 => (U.bin .eql e19 x1).bind fun t20 => U.asBool t20
 (U.asInt e10 fun n21 => if 1 = 1 ∧ 1 = 1 ∧ 0 ≤ n21 ∧ n21 < ((c5).length : Int) then if storable (.val x7) = true ∧ x7.size = 1 then if 1 = 1 then (c5[(n21 : Int).toNat]?).bind fun e22 => if e22.size = 1 then (U.bin .add x8 (.int .i64 1)).bind fun t23 => spec_l20Far_l1 E x0 x1 x7 t23 (c5.set (n21 : Int).toNat x7) else none else none else none else none)
 ((U.bin .gtr x7 (.int .i64 1)).bind fun t24 => U.asBool t24
 (U.asInt x8 fun n25 => U.elemAt 4 x0 n25 fun e26 => U.fieldAt 1 1 e26 fun f27 => U.asVar false 1 f27 fun e28 => U.asInt e28 fun n29 => if 1 = 1 ∧ 1 = 1 ∧ 0 ≤ n29 ∧ n29 < ((c5).length : Int) then if 1 = 1 then (c5[(n29 : Int).toNat]?).bind fun e30 => U.asVar false 1 e30 fun e31 => (U.bin .sub x7 (.int .i64 1)).bind fun t32 => (U.bin .eql e31 t32).bind fun t33 => U.asBool t33
 (U.asInt e10 fun n34 => if 1 = 1 ∧ 1 = 1 ∧ 0 ≤ n34 ∧ n34 < ((c5).length : Int) then if storable (.val x7) = true ∧ x7.size = 1 then if 1 = 1 then (c5[(n34 : Int).toNat]?).bind fun e35 => if e35.size = 1 then (U.bin .add x8 (.int .i64 1)).bind fun t36 => spec_l20Far_l1 E x0 x1 x7 t36 (c5.set (n34 : Int).toNat x7) else none else none else none else none)
 ((U.bin .add x8 (.int .i64 1)).bind fun t37 => spec_l20Far_l1 E x0 x1 x7 t37 c5) else none else none)
 ((U.bin .add x8 (.int .i64 1)).bind fun t38 => spec_l20Far_l1 E x0 x1 x7 t38 c5)))
 ((U.bin .gtr x7 (.int .i64 1)).bind fun t39 => U.asBool t39
 (U.asInt x8 fun n40 => U.elemAt 4 x0 n40 fun e41 => U.fieldAt 1 1 e41 fun f42 => U.asVar false 1 f42 fun e43 => U.asInt e43 fun n44 => if 1 = 1 ∧ 1 = 1 ∧ 0 ≤ n44 ∧ n44 < ((c5).length : Int) then if 1 = 1 then (c5[(n44 : Int).toNat]?).bind fun e45 => U.asVar false 1 e45 fun e46 => (U.bin .sub x7 (.int .i64 1)).bind fun t47 => (U.bin .eql e46 t47).bind fun t48 => U.asBool t48
 (U.asInt e10 fun n49 => if 1 = 1 ∧ 1 = 1 ∧ 0 ≤ n49 ∧ n49 < ((c5).length : Int) then if storable (.val x7) = true ∧ x7.size = 1 then if 1 = 1 then (c5[(n49 : Int).toNat]?).bind fun e50 => if e50.size = 1 then (U.bin .add x8 (.int .i64 1)).bind fun t51 => spec_l20Far_l1 E x0 x1 x7 t51 (c5.set (n49 : Int).toNat x7) else none else none else none else none)
 ((U.bin .add x8 (.int .i64 1)).bind fun t52 => spec_l20Far_l1 E x0 x1 x7 t52 c5) else none else none)
 ((U.bin .add x8 (.int .i64 1)).bind fun t53 => spec_l20Far_l1 E x0 x1 x7 t53 c5)))
 ((U.bin .add x8 (.int .i64 1)).bind fun t54 => spec_l20Far_l1 E x0 x1 x7 t54 c5) else none else none)
 ((U.bin .add x7 (.int .i64 1)).bind fun t55 => spec_l20Far_l0 E x0 x1 t55 c5) :=
 (loop_eq E _ _ _ _).trans (by kernel_rfl)

/-- In the environment E: this function and those that it calls. -/
structure G_spec_l20Far (E : Env) : Prop where
  is : Is E 40 2 spec_l20Far_ac [(4, none)]
theorem spec_l20Far_E {E : Env} (h : G_spec_l20Far E) (a0 a1 : U) : E 40 [a0, a1] =
 spec_l20Far_l2 E a0 a1 (.int .i64 0) [] := (h.is _ rfl).trans ((runQ_V rfl).trans (spec_l20Far_eq E a0 a1))

end Go.Proofs.Ytmebdbagcbgddaa.Am
namespace Go.Proofs.Ytmebdbagcbgddaa.Am
open Go
set_option linter.unusedVariables false
set_option maxRecDepth 100000

/- loop.example/g01924/spec.EdgeDistance -/
def spec_EdgeDistance_ac : AC :=
 (.seq (.region 0 [⟨some 6, .mv (.c (.int .i64 0)), none⟩])
 (.seq (.seq (.region 0 [⟨some 7, .mv (.t 0), none⟩,
  ⟨some 8, .call false 4 [(.t 7)], none⟩,
  ⟨some 9, .un .not (.t 8), none⟩,
  ⟨some 10, .mv (.t 9), none⟩,
  ⟨some 11, .mv (.t 1), some (10, false)⟩,
  ⟨some 12, .call false 6 [(.t 11), (.c (.int .i64 1)), (.c (.int .i64 9))], some (10, false)⟩,
  ⟨some 13, .un .not (.t 12), some (10, false)⟩,
  ⟨some 14, .pick (.t 10) (.c (.bool true)) (.t 13), none⟩,
  ⟨some 15, .mv (.t 14), none⟩,
  ⟨some 16, .mv (.t 2), some (15, false)⟩,
  ⟨some 17, .call false 6 [(.t 16), (.c (.int .i64 1)), (.c (.int .i64 9))], some (15, false)⟩,
  ⟨some 18, .un .not (.t 17), some (15, false)⟩,
  ⟨some 19, .pick (.t 15) (.c (.bool true)) (.t 18), none⟩])
 (.cond (.t 19) (.seq (.region 0 [⟨some 6, .mv (.c (.int .i64 (-1))), none⟩])
 .ret) .skip))
 (.seq (.region 0 [⟨some 20, .mv (.t 0), none⟩,
  ⟨some 21, .mv (.t 2), none⟩,
  ⟨some 22, .call false 40 [(.t 20), (.t 21)], none⟩,
  ⟨some 23, .mv (.t 1), none⟩,
  ⟨some 24, .iaddr 1 (.t 22) (.t 23), none⟩,
  ⟨some 25, .load false 1 (.t 24), none⟩,
  ⟨some 6, .mv (.t 25), none⟩])
 .ret)))

theorem spec_EdgeDistance_eq (E : Env) (a0 : U) (a1 : U) (a2 : U) : run E spec_EdgeDistance_ac [(6, none)] [a0, a1, a2] =
 (E 4 [a0]).bind fun t1 => (U.un .not t1).bind fun t2 => U.asBool t2
 (some (.int .i64 (-1)))
 ((E 6 [a1, (.int .i64 1), (.int .i64 9)]).bind fun t3 => (U.un .not t3).bind fun t4 => U.asBool t4
 (some (.int .i64 (-1)))
 ((E 6 [a2, (.int .i64 1), (.int .i64 9)]).bind fun t5 => (U.un .not t5).bind fun t6 => U.asBool t6
 (some (.int .i64 (-1)))
 ((E 40 [a0, a2]).bind fun t7 => U.asInt a1 fun n8 => U.elemAt 1 t7 n8 fun e9 => U.asVar false 1 e9 fun e10 => some e10))) := by kernel_rfl

/-- In the environment E: this function and those that it calls. -/
structure G_spec_EdgeDistance (E : Env) : Prop where
  is : Is E 39 3 spec_EdgeDistance_ac [(6, none)]
  c_spec_AreEdges : G_spec_AreEdges E
  c_spec_l1In : G_spec_l1In E
  c_spec_l20Far : G_spec_l20Far E
theorem spec_EdgeDistance_E {E : Env} (h : G_spec_EdgeDistance E) (a0 a1 a2 : U) : E 39 [a0, a1, a2] =
 (E 4 [a0]).bind fun t1 => (U.un .not t1).bind fun t2 => U.asBool t2
 (some (.int .i64 (-1)))
 ((E 6 [a1, (.int .i64 1), (.int .i64 9)]).bind fun t3 => (U.un .not t3).bind fun t4 => U.asBool t4
 (some (.int .i64 (-1)))
 ((E 6 [a2, (.int .i64 1), (.int .i64 9)]).bind fun t5 => (U.un .not t5).bind fun t6 => U.asBool t6
 (some (.int .i64 (-1)))
 ((E 40 [a0, a2]).bind fun t7 => U.asInt a1 fun n8 => U.elemAt 1 t7 n8 fun e9 => U.asVar false 1 e9 fun e10 => some e10))) := (h.is _ rfl).trans ((runQ_V rfl).trans (spec_EdgeDistance_eq E a0 a1 a2))

end Go.Proofs.Ytmebdbagcbgddaa.Am
namespace Go.Proofs.Ytmebdbagcbgddaa.Am
open Go
set_option linter.unusedVariables false
set_option maxRecDepth 100000

/- loop.example/g01924/impl.distances -/
def impl_distances_b2 : AC :=
 (.seq (.region 0 [⟨some 14, .bin .lss (.t 13) (.c (.int .i64 10)), none⟩])
 (.seq (.cond (.t 14) .skip (.exit 0))
 (.seq (.block 1 (.seq (.region 0 [⟨some 15, .mv (.t 13), none⟩,
  ⟨some 6, .mv (.t 15), none⟩])
 (.region 0 [⟨some 16, .mv (.t 6), none⟩,
  ⟨some 17, .aaddr 10 1 (.t 5) (.t 16), none⟩,
  ⟨none, .store 1 (.t 17) (.c (.int .i64 (-1))), none⟩])))
 (.region 0 [⟨some 18, .bin .add (.t 13) (.c (.int .i64 1)), none⟩,
  ⟨some 13, .mv (.t 18), none⟩]))))
def impl_distances_b1 : AC :=
 (.seq (.region 0 [⟨some 30, .bin .lss (.t 29) (.t 28), none⟩])
 (.seq (.cond (.t 30) .skip (.exit 4))
 (.seq (.block 5 (.seq (.region 0 [⟨some 31, .iaddr 4 (.t 27) (.t 29), none⟩,
  ⟨some 32, .load true 4 (.t 31), none⟩,
  ⟨some 11, .alloc (.agg [(.int .i64 0), (.int .i64 0), (.int .i64 0), (.int .i64 0)]), none⟩,
  ⟨none, .store 4 (.t 11) (.t 32), none⟩])
 (.seq (.region 0 [⟨some 33, .mv (.t 7), none⟩,
  ⟨some 34, .faddr 1 1 (.t 11), none⟩,
  ⟨some 35, .load false 1 (.t 34), none⟩,
  ⟨some 36, .call false 42 [(.t 33), (.t 35)], none⟩,
  ⟨some 37, .mv (.t 36), none⟩,
  ⟨some 38, .faddr 0 0 (.t 11), some (37, true)⟩,
  ⟨some 39, .load false 1 (.t 38), some (37, true)⟩,
  ⟨some 40, .aaddr 10 1 (.t 5) (.t 39), some (37, true)⟩,
  ⟨some 41, .load false 1 (.t 40), some (37, true)⟩,
  ⟨some 42, .bin .lss (.t 41) (.c (.int .i64 0)), some (37, true)⟩,
  ⟨some 43, .pick (.t 37) (.t 42) (.c (.bool false)), none⟩])
 (.cond (.t 43) (.seq (.region 0 [⟨some 44, .faddr 0 0 (.t 11), none⟩,
  ⟨some 45, .load false 1 (.t 44), none⟩,
  ⟨some 46, .mv (.t 8), none⟩,
  ⟨some 47, .aaddr 10 1 (.t 5) (.t 45), none⟩,
  ⟨none, .store 1 (.t 47) (.t 46), none⟩])
 (.region 0 [⟨some 48, .mv (.t 9), none⟩,
  ⟨some 49, .faddr 0 0 (.t 11), none⟩,
  ⟨some 50, .load false 1 (.t 49), none⟩,
  ⟨some 51, .bslice true 1 1 (.int .i64 0) [(0, (.t 50))], none⟩,
  ⟨some 52, .append 1 8 (.t 48) (.t 51), none⟩,
  ⟨some 9, .mv (.t 52), none⟩])) .skip))))
 (.region 0 [⟨some 53, .bin .add (.t 29) (.c (.int .i64 1)), none⟩,
  ⟨some 29, .mv (.t 53), none⟩]))))
def impl_distances_r0 : AC :=
 (.region 0 [⟨some 54, .mv (.t 9), none⟩,
  ⟨some 7, .mv (.t 54), none⟩])
def impl_distances_r1 : AC :=
 (.region 0 [⟨some 24, .mv (.t 8), none⟩,
  ⟨some 25, .bin .add (.t 24) (.c (.int .i64 1)), none⟩,
  ⟨some 8, .mv (.t 25), none⟩])
def impl_distances_b0 : AC :=
 (.seq (.seq (.region 0 [⟨some 21, .mv (.t 7), none⟩,
  ⟨some 22, .len false (.t 21), none⟩,
  ⟨some 23, .bin .gtr (.t 22) (.c (.int .i64 0)), none⟩])
 (.cond (.t 23) .skip (.exit 2)))
 (.seq (.block 3 (.seq (.region 0 [⟨some 26, .bslice false 1 0 (.int .i64 0) [], none⟩,
  ⟨some 9, .mv (.t 26), none⟩])
 (.seq (.seq (.region 0 [⟨some 27, .mv (.t 0), none⟩,
  ⟨some 28, .len false (.t 27), none⟩,
  ⟨some 29, .mv (.c (.int .i64 0)), none⟩])
 (.block 4 (.loop ⟨[0, 4, 5, 8, 27, 28, 29], [(7, 1), (9, 1)], [4, 5]⟩ impl_distances_b1)))
 impl_distances_r0)))
 impl_distances_r1))
def impl_distances_r2 : AC :=
 (.seq (.region 0 [⟨some 55, .load true 10 (.t 5), none⟩,
  ⟨none, .store 10 (.t 4) (.t 55), none⟩])
 .ret)
def impl_distances_r3 : AC :=
 (.seq (.region 0 [⟨some 19, .mv (.t 1), none⟩,
  ⟨some 20, .bslice false 1 1 (.int .i64 0) [(0, (.t 19))], none⟩,
  ⟨some 7, .mv (.t 20), none⟩])
 (.seq (.seq (.region 0 [⟨some 8, .mv (.c (.int .i64 1)), none⟩])
 (.block 2 (.loop ⟨[0, 4, 5, 8], [(7, 1)], [4, 5]⟩ impl_distances_b0)))
 impl_distances_r2))
def impl_distances_ac : AC :=
 (.seq (.region 0 [⟨some 4, .alloc (.agg [(.int .i64 0), (.int .i64 0), (.int .i64 0), (.int .i64 0), (.int .i64 0), (.int .i64 0), (.int .i64 0), (.int .i64 0), (.int .i64 0), (.int .i64 0)]), none⟩])
 (.seq (.region 0 [⟨some 12, .build [(.int .i64 0), (.int .i64 0), (.int .i64 0), (.int .i64 0), (.int .i64 0), (.int .i64 0), (.int .i64 0), (.int .i64 0), (.int .i64 0), (.int .i64 0)] [], none⟩,
  ⟨some 5, .alloc (.agg [(.int .i64 0), (.int .i64 0), (.int .i64 0), (.int .i64 0), (.int .i64 0), (.int .i64 0), (.int .i64 0), (.int .i64 0), (.int .i64 0), (.int .i64 0)]), none⟩,
  ⟨none, .store 10 (.t 5) (.t 12), none⟩])
 (.seq (.seq (.region 0 [⟨some 13, .mv (.c (.int .i64 0)), none⟩])
 (.block 0 (.loop ⟨[0, 1, 4, 5, 13], [], [4, 5]⟩ impl_distances_b2)))
 impl_distances_r3)))
noncomputable def impl_distances_l2 (E : Env) (x0 : U) (x1 : U) (x13 : U) (b4 : U) (b5 : U) : Option U := loopK (roundOf E ⟨[0, 1, 4, 5, 13], [], [4, 5]⟩ impl_distances_b2 (blockK 0 (seqK (fun s => exec E impl_distances_r3 s (finish [(4, some (true, 10))])) (finish [(4, some (true, 10))])))) ([.val x0, .val x1, .ptr 4 [], .ptr 5 [], .val x13], [.box (.val b4), .box (.val b5)])
noncomputable def impl_distances_l0 (E : Env) (x0 : U) (x8 : U) (c7 : List U) (b4 : U) (b5 : U) : Option U := loopK (roundOf E ⟨[0, 4, 5, 8], [(7, 1)], [4, 5]⟩ impl_distances_b0 (blockK 2 (seqK (fun s => exec E impl_distances_r2 s (finish [(4, some (true, 10))])) (finish [(4, some (true, 10))])))) ([.val x0, .ptr 4 [], .ptr 5 [], .val x8], [.arr 1 c7, .box (.val b4), .box (.val b5)])
noncomputable def impl_distances_l1 (E : Env) (x0 : U) (x8 : U) (x27 : U) (x28 : U) (x29 : U) (c7 : List U) (c9 : List U) (b4 : U) (b5 : U) : Option U := loopK (roundOf E ⟨[0, 4, 5, 8, 27, 28, 29], [(7, 1), (9, 1)], [4, 5]⟩ impl_distances_b1 (blockK 4 (seqK (fun s => exec E impl_distances_r0 s (blockK 3 (seqK (fun s => exec E impl_distances_r1 s (roundK ⟨[0, 4, 5, 8], [(7, 1)], [4, 5]⟩ (loopK (roundOf E ⟨[0, 4, 5, 8], [(7, 1)], [4, 5]⟩ impl_distances_b0 (blockK 2 (seqK (fun s => exec E impl_distances_r2 s (finish [(4, some (true, 10))])) (finish [(4, some (true, 10))]))))) (blockK 2 (seqK (fun s => exec E impl_distances_r2 s (finish [(4, some (true, 10))])) (finish [(4, some (true, 10))]))))) (roundK ⟨[0, 4, 5, 8], [(7, 1)], [4, 5]⟩ (loopK (roundOf E ⟨[0, 4, 5, 8], [(7, 1)], [4, 5]⟩ impl_distances_b0 (blockK 2 (seqK (fun s => exec E impl_distances_r2 s (finish [(4, some (true, 10))])) (finish [(4, some (true, 10))]))))) (blockK 2 (seqK (fun s => exec E impl_distances_r2 s (finish [(4, some (true, 10))])) (finish [(4, some (true, 10))]))))))) (blockK 3 (seqK (fun s => exec E impl_distances_r1 s (roundK ⟨[0, 4, 5, 8], [(7, 1)], [4, 5]⟩ (loopK (roundOf E ⟨[0, 4, 5, 8], [(7, 1)], [4, 5]⟩ impl_distances_b0 (blockK 2 (seqK (fun s => exec E impl_distances_r2 s (finish [(4, some (true, 10))])) (finish [(4, some (true, 10))]))))) (blockK 2 (seqK (fun s => exec E impl_distances_r2 s (finish [(4, some (true, 10))])) (finish [(4, some (true, 10))]))))) (roundK ⟨[0, 4, 5, 8], [(7, 1)], [4, 5]⟩ (loopK (roundOf E ⟨[0, 4, 5, 8], [(7, 1)], [4, 5]⟩ impl_distances_b0 (blockK 2 (seqK (fun s => exec E impl_distances_r2 s (finish [(4, some (true, 10))])) (finish [(4, some (true, 10))]))))) (blockK 2 (seqK (fun s => exec E impl_distances_r2 s (finish [(4, some (true, 10))])) (finish [(4, some (true, 10))]))))))))) ([.val x0, .ptr 4 [], .ptr 5 [], .val x8, .val x27, .val x28, .val x29], [.arr 1 c7, .arr 1 c9, .box (.val b4), .box (.val b5)])
theorem impl_distances_eq (E : Env) (a0 : U) (a1 : U) : run E impl_distances_ac [(4, some (true, 10))] [a0, a1] =
 impl_distances_l2 E a0 a1 (.int .i64 0) (.agg [(.int .i64 0), (.int .i64 0), (.int .i64 0), (.int .i64 0), (.int .i64 0), (.int .i64 0), (.int .i64 0), (.int .i64 0), (.int .i64 0), (.int .i64 0)]) (.agg [(.int .i64 0), (.int .i64 0), (.int .i64 0), (.int .i64 0), (.int .i64 0), (.int .i64 0), (.int .i64 0), (.int .i64 0), (.int .i64 0), (.int .i64 0)]) := by kernel_rfl
theorem impl_distances_l2_eq (E : Env) (x0 : U) (x1 : U) (x13 : U) (b4 : U) (b5 : U) : impl_distances_l2 E x0 x1 x13 b4 b5 =
 (U.bin .lss x13 (.int .i64 10)).bind fun t1 => U.asBool t1
 (U.asInt x13 fun n2 => if 0 ≤ n2 ∧ n2 < 10 then U.asAgg b5 fun us3 => if (n2 : Int).toNat * 1 = sizes (us3.take (n2 : Int).toNat) then (us3[(n2 : Int).toNat]?).bind fun e4 => if e4.size = 1 then (U.bin .add x13 (.int .i64 1)).bind fun t5 => impl_distances_l2 E x0 x1 t5 b4 (.agg (us3.set (n2 : Int).toNat (.int .i64 (-1)))) else none else none else none)
 (if storable (.val x1) = true ∧ x1.size = 1 then impl_distances_l0 E x0 (.int .i64 1) [x1] b4 b5 else none) :=
 (loop_eq E _ _ _ _).trans (by kernel_rfl)
theorem impl_distances_l0_eq (E : Env) (x0 : U) (x8 : U) (c7 : List U) (b4 : U) (b5 : U) : impl_distances_l0 E x0 x8 c7 b4 b5 =
 (U.bin .gtr (.int .i64 ((c7).length : Int)) (.int .i64 0)).bind fun t6 => U.asBool t6
 ((U.lenOf false x0).bind fun n7 => impl_distances_l1 E x0 x8 x0 (.int .i64 (n7 : Int)) (.int .i64 0) c7 [] b4 b5)
 (U.asVar true 10 b5 fun e8 => if storable (.val e8) = true ∧ e8.size = 10 then if b4.size = 10 then U.asVar true 10 e8 fun e9 => some e9 else none else none) :=
 (loop_eq E _ _ _ _).trans (by kernel_rfl)
theorem impl_distances_l1_eq (E : Env) (x0 : U) (x8 : U) (x27 : U) (x28 : U) (x29 : U) (c7 : List U) (c9 : List U) (b4 : U) (b5 : U) : impl_distances_l1 E x0 x8 x27 x28 x29 c7 c9 b4 b5 =
 (U.bin .lss x29 x28).bind fun t10 => U.asBool t10
 (U.asInt x29 fun n11 => U.elemAt 4 x27 n11 fun e12 => U.asVar true 4 e12 fun e13 => if storable (.val e13) = true ∧ e13.size = 4 then U.asAgg e13 fun us14 => if 1 = sizes (us14.take 1) then (us14[1]?).bind fun e15 => U.asVar false 1 e15 fun e16 => (E 42 [(.sl 1 c7), e16]).bind fun t17 => U.asFlat t17 fun t18 => U.asBool t18
 (U.asAgg e13 fun us19 => if 0 = sizes (us19.take 0) then (us19[0]?).bind fun e20 => U.asVar false 1 e20 fun e21 => U.asInt e21 fun n22 => if 0 ≤ n22 ∧ n22 < 10 then U.asAgg b5 fun us23 => if (n22 : Int).toNat * 1 = sizes (us23.take (n22 : Int).toNat) then (us23[(n22 : Int).toNat]?).bind fun e24 => U.asVar false 1 e24 fun e25 => (U.bin .lss e25 (.int .i64 0)).bind fun t26 => U.asBool t26
 (U.asAgg e13 fun us27 => if 0 = sizes (us27.take 0) then (us27[0]?).bind fun e28 => U.asVar false 1 e28 fun e29 => U.asInt e29 fun n30 => if 0 ≤ n30 ∧ n30 < 10 then if storable (.val x8) = true ∧ x8.size = 1 then U.asAgg b5 fun us31 => if (n30 : Int).toNat * 1 = sizes (us31.take (n30 : Int).toNat) then (us31[(n30 : Int).toNat]?).bind fun e32 => if e32.size = 1 then U.asAgg e13 fun us33 => if 0 = sizes (us33.take 0) then (us33[0]?).bind fun e34 => U.asVar false 1 e34 fun e35 => if storable (.val e35) = true ∧ e35.size = 1 then if 1 = 1 ∧ 1 = 1 ∧ ((c9).length + ([e35] : List U).length) * 8 ≤ 140737488355328 then (U.bin .add x29 (.int .i64 1)).bind fun t37 => impl_distances_l1 E x0 x8 x27 x28 t37 c7 (c9 ++ [e35]) b4 (.agg (us31.set (n30 : Int).toNat x8)) else none else none else none else none else none else none else none else none)
 ((U.bin .add x29 (.int .i64 1)).bind fun t38 => impl_distances_l1 E x0 x8 x27 x28 t38 c7 c9 b4 b5) else none else none else none)
 ((U.bin .add x29 (.int .i64 1)).bind fun t39 => impl_distances_l1 E x0 x8 x27 x28 t39 c7 c9 b4 b5) else none else none)
 ((U.bin .add x8 (.int .i64 1)).bind fun t40 => impl_distances_l0 E x0 t40 c9 b4 b5) :=
 (loop_eq E _ _ _ _).trans (by kernel_rfl)

/-- In the environment E: this function and those that it calls. -/
structure G_impl_distances (E : Env) : Prop where
  is : Is E 41 2 impl_distances_ac [(4, some (true, 10))]
  c_slices_Contains_g42 : G_slices_Contains_g42 E
theorem impl_distances_E {E : Env} (h : G_impl_distances E) (a0 a1 : U) : E 41 [a0, a1] =
 impl_distances_l2 E a0 a1 (.int .i64 0) (.agg [(.int .i64 0), (.int .i64 0), (.int .i64 0), (.int .i64 0), (.int .i64 0), (.int .i64 0), (.int .i64 0), (.int .i64 0), (.int .i64 0), (.int .i64 0)]) (.agg [(.int .i64 0), (.int .i64 0), (.int .i64 0), (.int .i64 0), (.int .i64 0), (.int .i64 0), (.int .i64 0), (.int .i64 0), (.int .i64 0), (.int .i64 0)]) := (h.is _ rfl).trans ((runQ_V rfl).trans (impl_distances_eq E a0 a1))

end Go.Proofs.Ytmebdbagcbgddaa.Am
namespace Go.Proofs.Ytmebdbagcbgddaa.Am
open Go
set_option linter.unusedVariables false
set_option maxRecDepth 100000

/- loop.example/g01924/impl.EdgeDistance -/
def impl_EdgeDistance_ac : AC :=
 (.seq (.region 0 [⟨some 6, .mv (.c (.int .i64 0)), none⟩])
 (.seq (.seq (.region 0 [⟨some 7, .mv (.t 0), none⟩,
  ⟨some 8, .call false 3 [(.t 7)], none⟩,
  ⟨some 9, .un .not (.t 8), none⟩,
  ⟨some 10, .mv (.t 9), none⟩,
  ⟨some 11, .mv (.t 1), some (10, false)⟩,
  ⟨some 12, .call false 9 [(.t 11)], some (10, false)⟩,
  ⟨some 13, .un .not (.t 12), some (10, false)⟩,
  ⟨some 14, .pick (.t 10) (.c (.bool true)) (.t 13), none⟩,
  ⟨some 15, .mv (.t 14), none⟩,
  ⟨some 16, .mv (.t 2), some (15, false)⟩,
  ⟨some 17, .call false 9 [(.t 16)], some (15, false)⟩,
  ⟨some 18, .un .not (.t 17), some (15, false)⟩,
  ⟨some 19, .pick (.t 15) (.c (.bool true)) (.t 18), none⟩])
 (.cond (.t 19) (.seq (.region 0 [⟨some 6, .mv (.c (.int .i64 (-1))), none⟩])
 .ret) .skip))
 (.seq (.region 0 [⟨some 20, .mv (.t 0), none⟩,
  ⟨some 21, .mv (.t 2), none⟩,
  ⟨some 22, .call false 41 [(.t 20), (.t 21)], none⟩,
  ⟨some 23, .mv (.t 1), none⟩,
  ⟨some 24, .idxa false 1 10 1 (.t 22) (.t 23), none⟩,
  ⟨some 6, .mv (.t 24), none⟩])
 .ret)))

theorem impl_EdgeDistance_eq (E : Env) (a0 : U) (a1 : U) (a2 : U) : run E impl_EdgeDistance_ac [(6, none)] [a0, a1, a2] =
 (E 3 [a0]).bind fun t1 => (U.un .not t1).bind fun t2 => U.asBool t2
 (some (.int .i64 (-1)))
 ((E 9 [a1]).bind fun t3 => (U.un .not t3).bind fun t4 => U.asBool t4
 (some (.int .i64 (-1)))
 ((E 9 [a2]).bind fun t5 => (U.un .not t5).bind fun t6 => U.asBool t6
 (some (.int .i64 (-1)))
 ((E 41 [a0, a2]).bind fun t7 => U.asInt a1 fun n8 => if 0 ≤ n8 ∧ n8 < 10 then U.fieldAt (n8 : Int).toNat ((n8 : Int).toNat * 1) t7 fun e9 => U.asVar false 1 e9 fun e10 => some e10 else none))) := by kernel_rfl

/-- In the environment E: this function and those that it calls. -/
structure G_impl_EdgeDistance (E : Env) : Prop where
  is : Is E 38 3 impl_EdgeDistance_ac [(6, none)]
  c_impl_AreEdges : G_impl_AreEdges E
  c_impl_isID : G_impl_isID E
  c_impl_distances : G_impl_distances E
theorem impl_EdgeDistance_E {E : Env} (h : G_impl_EdgeDistance E) (a0 a1 a2 : U) : E 38 [a0, a1, a2] =
 (E 3 [a0]).bind fun t1 => (U.un .not t1).bind fun t2 => U.asBool t2
 (some (.int .i64 (-1)))
 ((E 9 [a1]).bind fun t3 => (U.un .not t3).bind fun t4 => U.asBool t4
 (some (.int .i64 (-1)))
 ((E 9 [a2]).bind fun t5 => (U.un .not t5).bind fun t6 => U.asBool t6
 (some (.int .i64 (-1)))
 ((E 41 [a0, a2]).bind fun t7 => U.asInt a1 fun n8 => if 0 ≤ n8 ∧ n8 < 10 then U.fieldAt (n8 : Int).toNat ((n8 : Int).toNat * 1) t7 fun e9 => U.asVar false 1 e9 fun e10 => some e10 else none))) := (h.is _ rfl).trans ((runQ_V rfl).trans (impl_EdgeDistance_eq E a0 a1 a2))

end Go.Proofs.Ytmebdbagcbgddaa.Am
namespace Go.Proofs.Ytmebdbagcbgddaa.Am
open Go
set_option linter.unusedVariables false
set_option maxRecDepth 100000

/- loop.example/g01924/spec.ShortestCycle -/
def spec_ShortestCycle_b2 : AC :=
 (.seq (.seq (.region 0 [⟨some 12, .mv (.t 5), none⟩,
  ⟨some 13, .bin .leq (.t 12) (.c (.int .i64 9)), none⟩])
 (.cond (.t 13) .skip (.exit 0)))
 (.seq (.block 1 (.seq (.region 0 [⟨some 16, .mv (.t 0), none⟩,
  ⟨some 17, .mv (.t 5), none⟩,
  ⟨some 18, .mv (.t 5), none⟩,
  ⟨some 19, .call false 39 [(.t 16), (.t 17), (.t 18)], none⟩,
  ⟨some 6, .mv (.t 19), none⟩])
 (.seq (.region 0 [⟨some 20, .mv (.t 6), none⟩,
  ⟨some 21, .bin .gtr (.t 20) (.c (.int .i64 0)), none⟩,
  ⟨some 22, .mv (.t 21), none⟩,
  ⟨some 23, .mv (.t 4), some (22, true)⟩,
  ⟨some 24, .bin .lss (.t 23) (.c (.int .i64 0)), some (22, true)⟩,
  ⟨some 25, .mv (.t 24), some (22, true)⟩,
  ⟨some 26, .mv (.t 6), some (25, false)⟩,
  ⟨some 27, .mv (.t 4), some (25, false)⟩,
  ⟨some 28, .bin .lss (.t 26) (.t 27), some (25, false)⟩,
  ⟨some 29, .pick (.t 25) (.c (.bool true)) (.t 28), some (22, true)⟩,
  ⟨some 30, .pick (.t 22) (.t 29) (.c (.bool false)), none⟩])
 (.cond (.t 30) (.seq (.region 0 [⟨some 31, .mv (.t 6), none⟩,
  ⟨some 4, .mv (.t 31), none⟩])
 (.region 0 [⟨some 32, .mv (.t 5), none⟩,
  ⟨some 3, .mv (.t 32), none⟩])) .skip))))
 (.region 0 [⟨some 14, .mv (.t 5), none⟩,
  ⟨some 15, .bin .add (.t 14) (.c (.int .i64 1)), none⟩,
  ⟨some 5, .mv (.t 15), none⟩])))
def spec_ShortestCycle_b1 : AC :=
 (.seq (.seq (.region 0 [⟨some 48, .mv (.t 11), none⟩,
  ⟨some 49, .bin .leq (.t 48) (.c (.int .i64 9)), none⟩])
 (.cond (.t 49) .skip (.exit 4)))
 (.seq (.block 5 (.seq (.region 0 [⟨some 52, .mv (.t 0), none⟩,
  ⟨some 53, .mv (.t 9), none⟩,
  ⟨some 54, .mv (.t 11), none⟩,
  ⟨some 55, .call false 62 [(.t 52), (.t 53), (.t 54)], none⟩,
  ⟨some 56, .mv (.t 55), none⟩,
  ⟨some 57, .mv (.t 7), some (56, true)⟩,
  ⟨some 58, .mv (.t 11), some (56, true)⟩,
  ⟨some 59, .iaddr 1 (.t 57) (.t 58), some (56, true)⟩,
  ⟨some 60, .load false 1 (.t 59), some (56, true)⟩,
  ⟨some 61, .mv (.t 10), some (56, true)⟩,
  ⟨some 62, .bin .eql (.t 60) (.t 61), some (56, true)⟩,
  ⟨some 63, .pick (.t 56) (.t 62) (.c (.bool false)), none⟩])
 (.cond (.t 63) (.seq (.region 0 [⟨some 64, .mv (.t 8), none⟩,
  ⟨some 65, .mv (.t 11), none⟩,
  ⟨some 66, .bslice true 1 1 (.int .i64 0) [(0, (.t 65))], none⟩,
  ⟨some 67, .append 1 8 (.t 64) (.t 66), none⟩,
  ⟨some 8, .mv (.t 67), none⟩])
 (.seq (.region 0 [⟨some 68, .mv (.t 11), none⟩,
  ⟨some 9, .mv (.t 68), none⟩])
 (.exit 4))) .skip)))
 (.region 0 [⟨some 50, .mv (.t 11), none⟩,
  ⟨some 51, .bin .add (.t 50) (.c (.int .i64 1)), none⟩,
  ⟨some 11, .mv (.t 51), none⟩])))
def spec_ShortestCycle_r0 : AC :=
 (.region 0 [⟨some 46, .mv (.t 10), none⟩,
  ⟨some 47, .bin .sub (.t 46) (.c (.int .i64 1)), none⟩,
  ⟨some 10, .mv (.t 47), none⟩])
def spec_ShortestCycle_b0 : AC :=
 (.seq (.seq (.region 0 [⟨some 44, .mv (.t 10), none⟩,
  ⟨some 45, .bin .gtr (.t 44) (.c (.int .i64 0)), none⟩])
 (.cond (.t 45) .skip (.exit 2)))
 (.seq (.block 3 (.seq (.region 0 [⟨some 11, .mv (.c (.int .i64 1)), none⟩])
 (.block 4 (.loop ⟨[0, 7, 9, 10, 11], [(8, 1)], []⟩ spec_ShortestCycle_b1))))
 spec_ShortestCycle_r0))
def spec_ShortestCycle_r1 : AC :=
 (.seq (.region 0 [⟨some 69, .mv (.t 8), none⟩,
  ⟨some 2, .mv (.t 69), none⟩])
 .ret)
def spec_ShortestCycle_r2 : AC :=
 (.seq (.seq (.region 0 [⟨some 33, .mv (.t 4), none⟩,
  ⟨some 34, .bin .lss (.t 33) (.c (.int .i64 0)), none⟩])
 (.cond (.t 34) (.seq (.region 0 [⟨some 35, .bslice false 1 0 (.int .i64 0) [], none⟩,
  ⟨some 2, .mv (.t 35), none⟩])
 .ret) .skip))
 (.seq (.region 0 [⟨some 36, .mv (.t 0), none⟩,
  ⟨some 37, .mv (.t 3), none⟩,
  ⟨some 38, .call false 40 [(.t 36), (.t 37)], none⟩,
  ⟨some 7, .mv (.t 38), none⟩])
 (.seq (.region 0 [⟨some 39, .mv (.t 3), none⟩,
  ⟨some 40, .bslice false 1 1 (.int .i64 0) [(0, (.t 39))], none⟩,
  ⟨some 8, .mv (.t 40), none⟩])
 (.seq (.region 0 [⟨some 41, .mv (.t 3), none⟩,
  ⟨some 9, .mv (.t 41), none⟩])
 (.seq (.seq (.region 0 [⟨some 42, .mv (.t 4), none⟩,
  ⟨some 43, .bin .sub (.t 42) (.c (.int .i64 1)), none⟩,
  ⟨some 10, .mv (.t 43), none⟩])
 (.block 2 (.loop ⟨[0, 7, 9, 10], [(8, 1)], []⟩ spec_ShortestCycle_b0)))
 spec_ShortestCycle_r1)))))
def spec_ShortestCycle_ac : AC :=
 (.seq (.region 0 [⟨some 2, .mv (.c (.nsl 1)), none⟩])
 (.seq (.region 0 [⟨some 3, .mv (.c (.int .i64 0)), none⟩])
 (.seq (.region 0 [⟨some 4, .mv (.c (.int .i64 (-1))), none⟩])
 (.seq (.seq (.region 0 [⟨some 5, .mv (.c (.int .i64 1)), none⟩])
 (.block 0 (.loop ⟨[0, 3, 4, 5], [], []⟩ spec_ShortestCycle_b2)))
 spec_ShortestCycle_r2))))
noncomputable def spec_ShortestCycle_l2 (E : Env) (x0 : U) (x3 : U) (x4 : U) (x5 : U) : Option U := loopK (roundOf E ⟨[0, 3, 4, 5], [], []⟩ spec_ShortestCycle_b2 (blockK 0 (seqK (fun s => exec E spec_ShortestCycle_r2 s (finish [(2, none)])) (finish [(2, none)])))) ([.val x0, .val x3, .val x4, .val x5], [])
noncomputable def spec_ShortestCycle_l0 (E : Env) (x0 : U) (x7 : U) (x9 : U) (x10 : U) (c8 : List U) : Option U := loopK (roundOf E ⟨[0, 7, 9, 10], [(8, 1)], []⟩ spec_ShortestCycle_b0 (blockK 2 (seqK (fun s => exec E spec_ShortestCycle_r1 s (finish [(2, none)])) (finish [(2, none)])))) ([.val x0, .val x7, .val x9, .val x10], [.arr 1 c8])
noncomputable def spec_ShortestCycle_l1 (E : Env) (x0 : U) (x7 : U) (x9 : U) (x10 : U) (x11 : U) (c8 : List U) : Option U := loopK (roundOf E ⟨[0, 7, 9, 10, 11], [(8, 1)], []⟩ spec_ShortestCycle_b1 (blockK 4 (blockK 3 (seqK (fun s => exec E spec_ShortestCycle_r0 s (roundK ⟨[0, 7, 9, 10], [(8, 1)], []⟩ (loopK (roundOf E ⟨[0, 7, 9, 10], [(8, 1)], []⟩ spec_ShortestCycle_b0 (blockK 2 (seqK (fun s => exec E spec_ShortestCycle_r1 s (finish [(2, none)])) (finish [(2, none)]))))) (blockK 2 (seqK (fun s => exec E spec_ShortestCycle_r1 s (finish [(2, none)])) (finish [(2, none)]))))) (roundK ⟨[0, 7, 9, 10], [(8, 1)], []⟩ (loopK (roundOf E ⟨[0, 7, 9, 10], [(8, 1)], []⟩ spec_ShortestCycle_b0 (blockK 2 (seqK (fun s => exec E spec_ShortestCycle_r1 s (finish [(2, none)])) (finish [(2, none)]))))) (blockK 2 (seqK (fun s => exec E spec_ShortestCycle_r1 s (finish [(2, none)])) (finish [(2, none)])))))))) ([.val x0, .val x7, .val x9, .val x10, .val x11], [.arr 1 c8])
theorem spec_ShortestCycle_eq (E : Env) (a0 : U) : run E spec_ShortestCycle_ac [(2, none)] [a0] =
 spec_ShortestCycle_l2 E a0 (.int .i64 0) (.int .i64 (-1)) (.int .i64 1) := by kernel_rfl
theorem spec_ShortestCycle_l2_eq (E : Env) (x0 : U) (x3 : U) (x4 : U) (x5 : U) : spec_ShortestCycle_l2 E x0 x3 x4 x5 =
 (U.bin .leq x5 (.int .i64 9)).bind fun t1 => U.asBool t1
 ((E 39 [x0, x5, x5]).bind fun t2 => (U.bin .gtr t2 (.int .i64 0)).bind fun t3 => U.asBool t3
 ((U.bin .lss x4 (.int .i64 0)).bind fun t4 => U.asBool t4
 ((U.bin .add x5 (.int .i64 1)).bind fun t5 => spec_ShortestCycle_l2 E x0 x5 t2 t5)
 ((U.bin .lss t2 x4).bind fun t6 => U.asBool t6
 ((U.bin .add x5 (.int .i64 1)).bind fun t7 => spec_ShortestCycle_l2 E x0 x5 t2 t7)
 ((U.bin .add x5 (.int .i64 1)).bind fun t8 => spec_ShortestCycle_l2 E x0 x3 x4 t8)))
 ((U.bin .add x5 (.int .i64 1)).bind fun t9 => spec_ShortestCycle_l2 E x0 x3 x4 t9))
 ((U.bin .lss x4 (.int .i64 0)).bind fun t10 => U.asBool t10
 (some (.sl 1 []))
 ((E 40 [x0, x3]).bind fun t11 => if storable (.val x3) = true ∧ x3.size = 1 then (U.bin .sub x4 (.int .i64 1)).bind fun t12 => spec_ShortestCycle_l0 E x0 t11 x3 t12 [x3] else none)) :=
 (loop_eq E _ _ _ _).trans (by kernel_rfl)
theorem spec_ShortestCycle_l0_eq (E : Env) (x0 : U) (x7 : U) (x9 : U) (x10 : U) (c8 : List U) : spec_ShortestCycle_l0 E x0 x7 x9 x10 c8 =
 (U.bin .gtr x10 (.int .i64 0)).bind fun t13 => U.asBool t13
 (spec_ShortestCycle_l1 E x0 x7 x9 x10 (.int .i64 1) c8)
 (some (.sl 1 c8)) :=
 (loop_eq E _ _ _ _).trans (by kernel_rfl)
theorem spec_ShortestCycle_l1_eq (E : Env) (x0 : U) (x7 : U) (x9 : U) (x10 : U) (x11 : U) (c8 : List U) : spec_ShortestCycle_l1 E x0 x7 x9 x10 x11 c8 =
 (U.bin .leq x11 (.int .i64 9)).bind fun t14 => U.asBool t14
 ((E 62 [x0, x9, x11]).bind fun t15 => U.asBool t15
 (U.asInt x11 fun n16 => U.elemAt 1 x7 n16 fun e17 => U.asVar false 1 e17 fun e18 => (U.bin .eql e18 x10).bind fun t19 => U.asBool t19
 (if storable (.val x11) = true ∧ x11.size = 1 then if 1 = 1 ∧ 1 = 1 ∧ ((c8).length + ([x11] : List U).length) * 8 ≤ 140737488355328 then (U.bin .sub x10 (.int .i64 1)).bind fun t21 => spec_ShortestCycle_l0 E x0 x7 x11 t21 (c8 ++ [x11]) else none else none)
 ((U.bin .add x11 (.int .i64 1)).bind fun t22 => spec_ShortestCycle_l1 E x0 x7 x9 x10 t22 c8))
 ((U.bin .add x11 (.int .i64 1)).bind fun t23 => spec_ShortestCycle_l1 E x0 x7 x9 x10 t23 c8))
 ((U.bin .sub x10 (.int .i64 1)).bind fun t24 => spec_ShortestCycle_l0 E x0 x7 x9 t24 c8) :=
 (loop_eq E _ _ _ _).trans (by kernel_rfl)

/-- In the environment E: this function and those that it calls. -/
structure G_spec_ShortestCycle (E : Env) : Prop where
  is : Is E 80 1 spec_ShortestCycle_ac [(2, none)]
  c_spec_EdgeDistance : G_spec_EdgeDistance E
  c_spec_l20Far : G_spec_l20Far E
  c_spec_HasEdge : G_spec_HasEdge E
theorem spec_ShortestCycle_E {E : Env} (h : G_spec_ShortestCycle E) (a0 : U) : E 80 [a0] =
 spec_ShortestCycle_l2 E a0 (.int .i64 0) (.int .i64 (-1)) (.int .i64 1) := (h.is _ rfl).trans ((runQ_V rfl).trans (spec_ShortestCycle_eq E a0))

end Go.Proofs.Ytmebdbagcbgddaa.Am
namespace Go.Proofs.Ytmebdbagcbgddaa.Am
open Go
set_option linter.unusedVariables false
set_option maxRecDepth 100000

/- loop.example/g01924/impl.ShortestCycle -/
def impl_ShortestCycle_b2 : AC :=
 (.seq (.seq (.region 0 [⟨some 14, .mv (.t 5), none⟩,
  ⟨some 15, .bin .leq (.t 14) (.c (.int .i64 9)), none⟩])
 (.cond (.t 15) .skip (.exit 0)))
 (.seq (.block 1 (.seq (.region 0 [⟨some 18, .mv (.t 0), none⟩,
  ⟨some 19, .mv (.t 5), none⟩,
  ⟨some 20, .call false 41 [(.t 18), (.t 19)], none⟩,
  ⟨some 21, .mv (.t 5), none⟩,
  ⟨some 22, .idxa false 1 10 1 (.t 20) (.t 21), none⟩,
  ⟨some 6, .mv (.t 22), none⟩])
 (.seq (.region 0 [⟨some 23, .mv (.t 6), none⟩,
  ⟨some 24, .bin .gtr (.t 23) (.c (.int .i64 0)), none⟩,
  ⟨some 25, .mv (.t 24), none⟩,
  ⟨some 26, .mv (.t 3), some (25, true)⟩,
  ⟨some 27, .bin .eql (.t 26) (.c (.int .i64 0)), some (25, true)⟩,
  ⟨some 28, .mv (.t 27), some (25, true)⟩,
  ⟨some 29, .mv (.t 6), some (28, false)⟩,
  ⟨some 30, .mv (.t 4), some (28, false)⟩,
  ⟨some 31, .bin .lss (.t 29) (.t 30), some (28, false)⟩,
  ⟨some 32, .pick (.t 28) (.c (.bool true)) (.t 31), some (25, true)⟩,
  ⟨some 33, .pick (.t 25) (.t 32) (.c (.bool false)), none⟩])
 (.cond (.t 33) (.region 0 [⟨some 34, .mv (.t 5), none⟩,
  ⟨some 35, .mv (.t 6), none⟩,
  ⟨some 3, .mv (.t 34), none⟩,
  ⟨some 4, .mv (.t 35), none⟩]) .skip))))
 (.region 0 [⟨some 16, .mv (.t 5), none⟩,
  ⟨some 17, .bin .add (.t 16) (.c (.int .i64 1)), none⟩,
  ⟨some 5, .mv (.t 17), none⟩])))
def impl_ShortestCycle_b1 : AC :=
 (.seq (.seq (.region 0 [⟨some 49, .mv (.t 10), none⟩,
  ⟨some 50, .bin .leq (.t 49) (.c (.int .i64 9)), none⟩])
 (.cond (.t 50) .skip (.exit 4)))
 (.seq (.block 5 (.seq (.region 0 [⟨some 53, .mv (.t 10), none⟩,
  ⟨some 54, .aaddr 10 1 (.t 8) (.t 53), none⟩,
  ⟨some 55, .load false 1 (.t 54), none⟩,
  ⟨some 56, .mv (.t 9), none⟩,
  ⟨some 57, .bin .eql (.t 55) (.t 56), none⟩,
  ⟨some 58, .mv (.t 57), none⟩,
  ⟨some 59, .mv (.t 0), some (58, true)⟩,
  ⟨some 60, .mv (.t 7), some (58, true)⟩,
  ⟨some 61, .mv (.t 7), some (58, true)⟩,
  ⟨some 62, .len false (.t 61), some (58, true)⟩,
  ⟨some 63, .bin .sub (.t 62) (.c (.int .i64 1)), some (58, true)⟩,
  ⟨some 64, .iaddr 1 (.t 60) (.t 63), some (58, true)⟩,
  ⟨some 65, .load false 1 (.t 64), some (58, true)⟩,
  ⟨some 66, .mv (.t 10), some (58, true)⟩,
  ⟨some 67, .call false 63 [(.t 59), (.t 65), (.t 66)], some (58, true)⟩,
  ⟨some 68, .pick (.t 58) (.t 67) (.c (.bool false)), none⟩])
 (.cond (.t 68) (.seq (.region 0 [⟨some 69, .mv (.t 7), none⟩,
  ⟨some 70, .mv (.t 10), none⟩,
  ⟨some 71, .bslice true 1 1 (.int .i64 0) [(0, (.t 70))], none⟩,
  ⟨some 72, .append 1 8 (.t 69) (.t 71), none⟩,
  ⟨some 7, .mv (.t 72), none⟩])
 (.exit 4)) .skip)))
 (.region 0 [⟨some 51, .mv (.t 10), none⟩,
  ⟨some 52, .bin .add (.t 51) (.c (.int .i64 1)), none⟩,
  ⟨some 10, .mv (.t 52), none⟩])))
def impl_ShortestCycle_r0 : AC :=
 (.region 0 [⟨some 47, .mv (.t 9), none⟩,
  ⟨some 48, .bin .sub (.t 47) (.c (.int .i64 1)), none⟩,
  ⟨some 9, .mv (.t 48), none⟩])
def impl_ShortestCycle_b0 : AC :=
 (.seq (.seq (.region 0 [⟨some 45, .mv (.t 9), none⟩,
  ⟨some 46, .bin .gtr (.t 45) (.c (.int .i64 0)), none⟩])
 (.cond (.t 46) .skip (.exit 2)))
 (.seq (.block 3 (.seq (.region 0 [⟨some 10, .mv (.c (.int .i64 1)), none⟩])
 (.block 4 (.loop ⟨[0, 8, 9, 10], [(7, 1)], [8]⟩ impl_ShortestCycle_b1))))
 impl_ShortestCycle_r0))
def impl_ShortestCycle_r1 : AC :=
 (.seq (.region 0 [⟨some 73, .mv (.t 7), none⟩,
  ⟨some 2, .mv (.t 73), none⟩])
 .ret)
def impl_ShortestCycle_r2 : AC :=
 (.seq (.seq (.region 0 [⟨some 36, .mv (.t 3), none⟩,
  ⟨some 37, .bin .eql (.t 36) (.c (.int .i64 0)), none⟩])
 (.cond (.t 37) (.seq (.region 0 [⟨some 2, .mv (.c (.nsl 1)), none⟩])
 .ret) .skip))
 (.seq (.region 0 [⟨some 38, .mv (.t 3), none⟩,
  ⟨some 39, .bslice false 1 1 (.int .i64 0) [(0, (.t 38))], none⟩,
  ⟨some 40, .mv (.t 0), none⟩,
  ⟨some 41, .mv (.t 3), none⟩,
  ⟨some 42, .call false 41 [(.t 40), (.t 41)], none⟩,
  ⟨some 8, .alloc (.agg [(.int .i64 0), (.int .i64 0), (.int .i64 0), (.int .i64 0), (.int .i64 0), (.int .i64 0), (.int .i64 0), (.int .i64 0), (.int .i64 0), (.int .i64 0)]), none⟩,
  ⟨some 7, .mv (.t 39), none⟩,
  ⟨none, .store 10 (.t 8) (.t 42), none⟩])
 (.seq (.seq (.region 0 [⟨some 43, .mv (.t 4), none⟩,
  ⟨some 44, .bin .sub (.t 43) (.c (.int .i64 1)), none⟩,
  ⟨some 9, .mv (.t 44), none⟩])
 (.block 2 (.loop ⟨[0, 8, 9], [(7, 1)], [8]⟩ impl_ShortestCycle_b0)))
 impl_ShortestCycle_r1)))
def impl_ShortestCycle_ac : AC :=
 (.seq (.region 0 [⟨some 2, .mv (.c (.nsl 1)), none⟩])
 (.seq (.seq (.region 0 [⟨some 11, .mv (.t 0), none⟩,
  ⟨some 12, .call false 3 [(.t 11)], none⟩,
  ⟨some 13, .un .not (.t 12), none⟩])
 (.cond (.t 13) (.seq (.region 0 [⟨some 2, .mv (.c (.nsl 1)), none⟩])
 .ret) .skip))
 (.seq (.region 0 [⟨some 3, .mv (.c (.int .i64 0)), none⟩,
  ⟨some 4, .mv (.c (.int .i64 0)), none⟩])
 (.seq (.seq (.region 0 [⟨some 5, .mv (.c (.int .i64 1)), none⟩])
 (.block 0 (.loop ⟨[0, 3, 4, 5], [], []⟩ impl_ShortestCycle_b2)))
 impl_ShortestCycle_r2))))
noncomputable def impl_ShortestCycle_l2 (E : Env) (x0 : U) (x3 : U) (x4 : U) (x5 : U) : Option U := loopK (roundOf E ⟨[0, 3, 4, 5], [], []⟩ impl_ShortestCycle_b2 (blockK 0 (seqK (fun s => exec E impl_ShortestCycle_r2 s (finish [(2, none)])) (finish [(2, none)])))) ([.val x0, .val x3, .val x4, .val x5], [])
noncomputable def impl_ShortestCycle_l0 (E : Env) (x0 : U) (x9 : U) (c7 : List U) (b8 : U) : Option U := loopK (roundOf E ⟨[0, 8, 9], [(7, 1)], [8]⟩ impl_ShortestCycle_b0 (blockK 2 (seqK (fun s => exec E impl_ShortestCycle_r1 s (finish [(2, none)])) (finish [(2, none)])))) ([.val x0, .ptr 8 [], .val x9], [.arr 1 c7, .box (.val b8)])
noncomputable def impl_ShortestCycle_l1 (E : Env) (x0 : U) (x9 : U) (x10 : U) (c7 : List U) (b8 : U) : Option U := loopK (roundOf E ⟨[0, 8, 9, 10], [(7, 1)], [8]⟩ impl_ShortestCycle_b1 (blockK 4 (blockK 3 (seqK (fun s => exec E impl_ShortestCycle_r0 s (roundK ⟨[0, 8, 9], [(7, 1)], [8]⟩ (loopK (roundOf E ⟨[0, 8, 9], [(7, 1)], [8]⟩ impl_ShortestCycle_b0 (blockK 2 (seqK (fun s => exec E impl_ShortestCycle_r1 s (finish [(2, none)])) (finish [(2, none)]))))) (blockK 2 (seqK (fun s => exec E impl_ShortestCycle_r1 s (finish [(2, none)])) (finish [(2, none)]))))) (roundK ⟨[0, 8, 9], [(7, 1)], [8]⟩ (loopK (roundOf E ⟨[0, 8, 9], [(7, 1)], [8]⟩ impl_ShortestCycle_b0 (blockK 2 (seqK (fun s => exec E impl_ShortestCycle_r1 s (finish [(2, none)])) (finish [(2, none)]))))) (blockK 2 (seqK (fun s => exec E impl_ShortestCycle_r1 s (finish [(2, none)])) (finish [(2, none)])))))))) ([.val x0, .ptr 8 [], .val x9, .val x10], [.arr 1 c7, .box (.val b8)])
theorem impl_ShortestCycle_eq (E : Env) (a0 : U) : run E impl_ShortestCycle_ac [(2, none)] [a0] =
 (E 3 [a0]).bind fun t1 => (U.un .not t1).bind fun t2 => U.asBool t2
 (some (.nsl 1))
 (impl_ShortestCycle_l2 E a0 (.int .i64 0) (.int .i64 0) (.int .i64 1)) := by kernel_rfl
theorem impl_ShortestCycle_l2_eq (E : Env) (x0 : U) (x3 : U) (x4 : U) (x5 : U) : impl_ShortestCycle_l2 E x0 x3 x4 x5 =
 (U.bin .leq x5 (.int .i64 9)).bind fun t3 => U.asBool t3
 ((E 41 [x0, x5]).bind fun t4 => U.asInt x5 fun n5 => if 0 ≤ n5 ∧ n5 < 10 then U.fieldAt (n5 : Int).toNat ((n5 : Int).toNat * 1) t4 fun e6 => U.asVar false 1 e6 fun e7 => (U.bin .gtr e7 (.int .i64 0)).bind fun t8 => U.asBool t8
 ((U.bin .eql x3 (.int .i64 0)).bind fun t9 => U.asBool t9
 ((U.bin .add x5 (.int .i64 1)).bind fun t10 => impl_ShortestCycle_l2 E x0 x5 e7 t10)
 ((U.bin .lss e7 x4).bind fun t11 => U.asBool t11
 ((U.bin .add x5 (.int .i64 1)).bind fun t12 => impl_ShortestCycle_l2 E x0 x5 e7 t12)
 ((U.bin .add x5 (.int .i64 1)).bind fun t13 => impl_ShortestCycle_l2 E x0 x3 x4 t13)))
 ((U.bin .add x5 (.int .i64 1)).bind fun t14 => impl_ShortestCycle_l2 E x0 x3 x4 t14) else none)
 ((U.bin .eql x3 (.int .i64 0)).bind fun t15 => U.asBool t15
 (some (.nsl 1))
 (if storable (.val x3) = true ∧ x3.size = 1 then (E 41 [x0, x3]).bind fun t16 => if storable (.val t16) = true ∧ t16.size = 10 then (U.bin .sub x4 (.int .i64 1)).bind fun t17 => impl_ShortestCycle_l0 E x0 t17 [x3] t16 else none else none)) :=
 (loop_eq E _ _ _ _).trans (by kernel_rfl)
theorem impl_ShortestCycle_l0_eq (E : Env) (x0 : U) (x9 : U) (c7 : List U) (b8 : U) : impl_ShortestCycle_l0 E x0 x9 c7 b8 =
 (U.bin .gtr x9 (.int .i64 0)).bind fun t18 => U.asBool t18
 (impl_ShortestCycle_l1 E x0 x9 (.int .i64 1) c7 b8)
 (some (.sl 1 c7)) :=
 (loop_eq E _ _ _ _).trans (by kernel_rfl)
theorem impl_ShortestCycle_l1_eq (E : Env) (x0 : U) (x9 : U) (x10 : U) (c7 : List U) (b8 : U) : impl_ShortestCycle_l1 E x0 x9 x10 c7 b8 =
 (U.bin .leq x10 (.int .i64 9)).bind fun t19 => U.asBool t19
 (U.asInt x10 fun n20 => if 0 ≤ n20 ∧ n20 < 10 then U.asAgg b8 fun us21 => if (n20 : Int).toNat * 1 = sizes (us21.take (n20 : Int).toNat) then (us21[(n20 : Int).toNat]?).bind fun e22 => U.asVar false 1 e22 fun e23 => (U.bin .eql e23 x9).bind fun t24 => U.asBool t24
 ((U.bin .sub (.int .i64 ((c7).length : Int)) (.int .i64 1)).bind fun t25 => U.asInt t25 fun n26 => if 1 = 1 ∧ 1 = 1 ∧ 0 ≤ n26 ∧ n26 < ((c7).length : Int) then if 1 = 1 then (c7[(n26 : Int).toNat]?).bind fun e27 => U.asVar false 1 e27 fun e28 => (E 63 [x0, e28, x10]).bind fun t29 => U.asBool t29
 (if storable (.val x10) = true ∧ x10.size = 1 then if 1 = 1 ∧ 1 = 1 ∧ ((c7).length + ([x10] : List U).length) * 8 ≤ 140737488355328 then (U.bin .sub x9 (.int .i64 1)).bind fun t31 => impl_ShortestCycle_l0 E x0 t31 (c7 ++ [x10]) b8 else none else none)
 ((U.bin .add x10 (.int .i64 1)).bind fun t32 => impl_ShortestCycle_l1 E x0 x9 t32 c7 b8) else none else none)
 ((U.bin .add x10 (.int .i64 1)).bind fun t33 => impl_ShortestCycle_l1 E x0 x9 t33 c7 b8) else none else none)
 ((U.bin .sub x9 (.int .i64 1)).bind fun t34 => impl_ShortestCycle_l0 E x0 t34 c7 b8) :=
 (loop_eq E _ _ _ _).trans (by kernel_rfl)

/-- In the environment E: this function and those that it calls. -/
structure G_impl_ShortestCycle (E : Env) : Prop where
  is : Is E 81 1 impl_ShortestCycle_ac [(2, none)]
  c_impl_AreEdges : G_impl_AreEdges E
  c_impl_distances : G_impl_distances E
  c_impl_HasEdge : G_impl_HasEdge E
theorem impl_ShortestCycle_E {E : Env} (h : G_impl_ShortestCycle E) (a0 : U) : E 81 [a0] =
 (E 3 [a0]).bind fun t1 => (U.un .not t1).bind fun t2 => U.asBool t2
 (some (.nsl 1))
 (impl_ShortestCycle_l2 E a0 (.int .i64 0) (.int .i64 0) (.int .i64 1)) := (h.is _ rfl).trans ((runQ_V rfl).trans (impl_ShortestCycle_eq E a0))

end Go.Proofs.Ytmebdbagcbgddaa.Am
