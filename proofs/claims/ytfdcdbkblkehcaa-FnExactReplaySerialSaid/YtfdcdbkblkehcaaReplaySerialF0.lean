import Derived.KernelRfl
import Derived.Test.YtfdcdbkblkehcaaAmW
namespace Go.Proofs.Ytfdcdbkblkehcaa.Am
open Go
set_option linter.unusedVariables false
set_option maxRecDepth 100000
def laws_szReadMarkS_ac : AC :=
 (.seq (.region 0 [⟨some 4, .mv (.c (.int .i64 0)), none⟩])
 (.seq (.region 0 [⟨some 5, .mv (.t 1), none⟩,
  ⟨some 6, .mv (.t 0), none⟩,
  ⟨some 7, .len false (.t 6), none⟩,
  ⟨some 8, .bin .sub (.t 5) (.t 7), none⟩,
  ⟨some 1, .mv (.t 8), none⟩])
 (.seq (.seq (.region 0 [⟨some 9, .mv (.t 1), none⟩,
  ⟨some 10, .bin .lss (.t 9) (.c (.int .i64 0)), none⟩])
 (.cond (.t 10) (.seq (.region 0 [⟨some 4, .mv (.c (.int .i64 (-1))), none⟩])
 .ret) .skip))
 (.seq (.region 0 [⟨some 11, .mv (.t 1), none⟩,
  ⟨some 4, .mv (.t 11), none⟩])
 .ret))))
structure G_laws_szReadMarkS (E : Env) : Prop where
  is : Is E 24 2 laws_szReadMarkS_ac [(4, none)]
theorem laws_szReadMarkS_E {E : Env} (h : G_laws_szReadMarkS E) (a0 a1 : U) : E 24 [a0, a1] =
 (U.lenOf false a0).bind fun n1 => (U.bin .sub a1 (.int .i64 (n1 : Int))).bind fun t2 => (U.bin .lss t2 (.int .i64 0)).bind fun t3 => U.asBool t3
 (some (.int .i64 (-1)))
 (some t2) := (h.is _ rfl).trans ((runQ_V rfl).trans (by kernel_rfl))
end Go.Proofs.Ytfdcdbkblkehcaa.Am
namespace Go.Proofs.Ytfdcdbkblkehcaa.Am
open Go
set_option linter.unusedVariables false
set_option maxRecDepth 100000
def laws_szWriteS_ac : AC :=
 (.seq (.region 0 [⟨some 4, .mv (.c (.int .i64 0)), none⟩])
 (.seq (.region 0 [⟨some 5, .mv (.t 1), none⟩,
  ⟨some 6, .mv (.t 0), none⟩,
  ⟨some 7, .len false (.t 6), none⟩,
  ⟨some 8, .bin .sub (.t 5) (.t 7), none⟩,
  ⟨some 1, .mv (.t 8), none⟩])
 (.seq (.seq (.region 0 [⟨some 9, .mv (.t 1), none⟩,
  ⟨some 10, .bin .lss (.t 9) (.c (.int .i64 0)), none⟩])
 (.cond (.t 10) (.seq (.region 0 [⟨some 4, .mv (.c (.int .i64 (-1))), none⟩])
 .ret) .skip))
 (.seq (.region 0 [⟨some 11, .mv (.t 1), none⟩,
  ⟨some 4, .mv (.t 11), none⟩])
 .ret))))
structure G_laws_szWriteS (E : Env) : Prop where
  is : Is E 23 2 laws_szWriteS_ac [(4, none)]
theorem laws_szWriteS_E {E : Env} (h : G_laws_szWriteS E) (a0 a1 : U) : E 23 [a0, a1] =
 (U.lenOf false a0).bind fun n1 => (U.bin .sub a1 (.int .i64 (n1 : Int))).bind fun t2 => (U.bin .lss t2 (.int .i64 0)).bind fun t3 => U.asBool t3
 (some (.int .i64 (-1)))
 (some t2) := (h.is _ rfl).trans ((runQ_V rfl).trans (by kernel_rfl))
end Go.Proofs.Ytfdcdbkblkehcaa.Am
namespace Go.Proofs.Ytfdcdbkblkehcaa.Am
open Go
set_option linter.unusedVariables false
set_option maxRecDepth 100000
def laws_szEntry_ac : AC :=
 (.seq (.region 0 [⟨some 2, .box false 2 (.t 0), none⟩,
  ⟨some 4, .mv (.c (.int .i64 0)), none⟩])
 (.seq (.region 0 [⟨some 5, .faddr 2 2 (.t 2), none⟩,
  ⟨some 6, .load false 1 (.t 5), none⟩,
  ⟨some 7, .mv (.t 1), none⟩,
  ⟨some 8, .call false 24 [(.t 6), (.t 7)], none⟩,
  ⟨some 1, .mv (.t 8), none⟩])
 (.seq (.seq (.region 0 [⟨some 9, .mv (.t 1), none⟩,
  ⟨some 10, .bin .lss (.t 9) (.c (.int .i64 0)), none⟩])
 (.cond (.t 10) (.seq (.region 0 [⟨some 4, .mv (.c (.int .i64 (-1))), none⟩])
 .ret) .skip))
 (.seq (.region 0 [⟨some 11, .faddr 3 3 (.t 2), none⟩,
  ⟨some 12, .load false 1 (.t 11), none⟩,
  ⟨some 13, .mv (.t 1), none⟩,
  ⟨some 14, .call false 23 [(.t 12), (.t 13)], none⟩,
  ⟨some 1, .mv (.t 14), none⟩])
 (.seq (.seq (.region 0 [⟨some 15, .mv (.t 1), none⟩,
  ⟨some 16, .bin .lss (.t 15) (.c (.int .i64 0)), none⟩])
 (.cond (.t 16) (.seq (.region 0 [⟨some 4, .mv (.c (.int .i64 (-1))), none⟩])
 .ret) .skip))
 (.seq (.region 0 [⟨some 17, .mv (.t 1), none⟩,
  ⟨some 4, .mv (.t 17), none⟩])
 .ret))))))
structure G_laws_szEntry (E : Env) : Prop where
  is : Is E 50 2 laws_szEntry_ac [(4, none)]
  c_laws_szReadMarkS : G_laws_szReadMarkS E
  c_laws_szWriteS : G_laws_szWriteS E
theorem laws_szEntry_E {E : Env} (h : G_laws_szEntry E) (a0 a1 : U) : E 50 [a0, a1] =
 U.noTup a0 fun x1 => U.asAgg x1 fun us2 => if 2 = sizes (us2.take 2) then (us2[2]?).bind fun e3 => U.asVar false 1 e3 fun e4 => (E 24 [e4, a1]).bind fun t5 => (U.bin .lss t5 (.int .i64 0)).bind fun t6 => U.asBool t6
 (some (.int .i64 (-1)))
 (U.asAgg x1 fun us7 => if 3 = sizes (us7.take 3) then (us7[3]?).bind fun e8 => U.asVar false 1 e8 fun e9 => (E 23 [e9, t5]).bind fun t10 => (U.bin .lss t10 (.int .i64 0)).bind fun t11 => U.asBool t11
 (some (.int .i64 (-1)))
 (some t10) else none) else none := (h.is _ rfl).trans ((runQ_V rfl).trans (by kernel_rfl))
end Go.Proofs.Ytfdcdbkblkehcaa.Am
namespace Go.Proofs.Ytfdcdbkblkehcaa.Am
open Go
set_option linter.unusedVariables false
set_option maxRecDepth 100000
def laws_szEntryS_b0 : AC :=
 (.seq (.seq (.region 0 [⟨some 12, .mv (.t 5), none⟩,
  ⟨some 13, .mv (.t 0), none⟩,
  ⟨some 14, .len false (.t 13), none⟩,
  ⟨some 15, .bin .lss (.t 12) (.t 14), none⟩])
 (.cond (.t 15) .skip (.exit 0)))
 (.seq (.block 1 (.seq (.region 0 [⟨some 18, .mv (.t 0), none⟩,
  ⟨some 19, .mv (.t 5), none⟩,
  ⟨some 20, .iaddr 4 (.t 18) (.t 19), none⟩,
  ⟨some 21, .load true 4 (.t 20), none⟩,
  ⟨some 22, .mv (.t 1), none⟩,
  ⟨some 23, .call false 50 [(.t 21), (.t 22)], none⟩,
  ⟨some 1, .mv (.t 23), none⟩])
 (.seq (.region 0 [⟨some 24, .mv (.t 1), none⟩,
  ⟨some 25, .bin .lss (.t 24) (.c (.int .i64 0)), none⟩])
 (.cond (.t 25) (.seq (.region 0 [⟨some 4, .mv (.c (.int .i64 (-1))), none⟩])
 .ret) .skip))))
 (.region 0 [⟨some 16, .mv (.t 5), none⟩,
  ⟨some 17, .bin .add (.t 16) (.c (.int .i64 1)), none⟩,
  ⟨some 5, .mv (.t 17), none⟩])))
def laws_szEntryS_r0 : AC :=
 (.seq (.region 0 [⟨some 26, .mv (.t 1), none⟩,
  ⟨some 4, .mv (.t 26), none⟩])
 .ret)
def laws_szEntryS_ac : AC :=
 (.seq (.region 0 [⟨some 4, .mv (.c (.int .i64 0)), none⟩])
 (.seq (.region 0 [⟨some 6, .mv (.t 1), none⟩,
  ⟨some 7, .mv (.t 0), none⟩,
  ⟨some 8, .len false (.t 7), none⟩,
  ⟨some 9, .bin .sub (.t 6) (.t 8), none⟩,
  ⟨some 1, .mv (.t 9), none⟩])
 (.seq (.seq (.region 0 [⟨some 10, .mv (.t 1), none⟩,
  ⟨some 11, .bin .lss (.t 10) (.c (.int .i64 0)), none⟩])
 (.cond (.t 11) (.seq (.region 0 [⟨some 4, .mv (.c (.int .i64 (-1))), none⟩])
 .ret) .skip))
 (.seq (.seq (.region 0 [⟨some 5, .mv (.c (.int .i64 0)), none⟩])
 (.block 0 (.loop ⟨[0, 1, 5], [], []⟩ laws_szEntryS_b0)))
 laws_szEntryS_r0))))
noncomputable def laws_szEntryS_l0 (E : Env) (x0 : U) (x1 : U) (x5 : U) : Option U := loopK (roundOf E ⟨[0, 1, 5], [], []⟩ laws_szEntryS_b0 (blockK 0 (seqK (fun s => exec E laws_szEntryS_r0 s (finish [(4, none)])) (finish [(4, none)])))) ([.val x0, .val x1, .val x5], [])
theorem laws_szEntryS_l0_eq (E : Env) (x0 : U) (x1 : U) (x5 : U) : laws_szEntryS_l0 E x0 x1 x5 =
 (U.lenOf false x0).bind fun n4 => (U.bin .lss x5 (.int .i64 (n4 : Int))).bind fun t5 => U.asBool t5
 (U.asInt x5 fun n6 => U.elemAt 4 x0 n6 fun e7 => U.asVar true 4 e7 fun e8 => (E 50 [e8, x1]).bind fun t9 => (U.bin .lss t9 (.int .i64 0)).bind fun t10 => U.asBool t10
 (some (.int .i64 (-1)))
 ((U.bin .add x5 (.int .i64 1)).bind fun t11 => laws_szEntryS_l0 E x0 t9 t11))
 (some x1) :=
 (loop_eq E _ _ _ _).trans (by kernel_rfl)
structure G_laws_szEntryS (E : Env) : Prop where
  is : Is E 49 2 laws_szEntryS_ac [(4, none)]
  c_laws_szEntry : G_laws_szEntry E
theorem laws_szEntryS_E {E : Env} (h : G_laws_szEntryS E) (a0 a1 : U) : E 49 [a0, a1] =
 (U.lenOf false a0).bind fun n1 => (U.bin .sub a1 (.int .i64 (n1 : Int))).bind fun t2 => (U.bin .lss t2 (.int .i64 0)).bind fun t3 => U.asBool t3
 (some (.int .i64 (-1)))
 (laws_szEntryS_l0 E a0 t2 (.int .i64 0)) := (h.is _ rfl).trans ((runQ_V rfl).trans (by kernel_rfl))
end Go.Proofs.Ytfdcdbkblkehcaa.Am
namespace Go.Proofs.Ytfdcdbkblkehcaa.Am
open Go
set_option linter.unusedVariables false
set_option maxRecDepth 100000
def laws_toReadMark_ac : AC :=
 (.seq (.region 0 [⟨some 1, .box false 1 (.t 0), none⟩,
  ⟨some 2, .alloc 2 (.agg [(.int .i64 0), (.int .i64 0)]), none⟩])
 (.seq (.region 0 [⟨some 3, .alloc 3 (.agg [(.int .i64 0), (.int .i64 0)]), none⟩])
 (.seq (.region 0 [⟨some 4, .faddr 0 0 (.t 1), none⟩,
  ⟨some 5, .load false 1 (.t 4), none⟩,
  ⟨some 6, .faddr 0 0 (.t 3), none⟩,
  ⟨none, .store 1 (.t 6) (.t 5), none⟩])
 (.seq (.region 0 [⟨some 7, .faddr 1 1 (.t 1), none⟩,
  ⟨some 8, .load false 1 (.t 7), none⟩,
  ⟨some 9, .faddr 1 1 (.t 3), none⟩,
  ⟨none, .store 1 (.t 9) (.t 8), none⟩])
 (.seq (.region 0 [⟨some 10, .load true 2 (.t 3), none⟩,
  ⟨none, .store 2 (.t 2) (.t 10), none⟩])
 .ret)))))
structure G_laws_toReadMark (E : Env) : Prop where
  is : Is E 29 1 laws_toReadMark_ac [(2, some (true, 2))]
theorem laws_toReadMark_E {E : Env} (h : G_laws_toReadMark E) (a0 : U) : E 29 [a0] =
 U.noTup a0 fun x1 => U.asAgg x1 fun us2 => if 0 = sizes (us2.take 0) then (us2[0]?).bind fun e3 => U.asVar false 1 e3 fun e4 => if storable (.val e4) = true ∧ e4.size = 1 then U.asAgg x1 fun us5 => if 1 = sizes (us5.take 1) then (us5[1]?).bind fun e6 => U.asVar false 1 e6 fun e7 => if storable (.val e7) = true ∧ e7.size = 1 then if 1 = sizes [e4] then U.asVar true 2 (.agg [e4, e7]) fun e8 => if storable (.val e8) = true ∧ e8.size = 2 then U.asVar true 2 e8 fun e9 => some e9 else none else none else none else none else none else none := (h.is _ rfl).trans ((runQ_V rfl).trans (by kernel_rfl))
end Go.Proofs.Ytfdcdbkblkehcaa.Am
namespace Go.Proofs.Ytfdcdbkblkehcaa.Am
open Go
set_option linter.unusedVariables false
set_option maxRecDepth 100000
def laws_toReadMarkS_b0 : AC :=
 (.seq (.seq (.region 0 [⟨some 8, .mv (.t 4), none⟩,
  ⟨some 9, .mv (.t 0), none⟩,
  ⟨some 10, .len false (.t 9), none⟩,
  ⟨some 11, .bin .lss (.t 8) (.t 10), none⟩])
 (.cond (.t 11) .skip (.exit 0)))
 (.seq (.block 1 (.region 0 [⟨some 14, .mv (.t 3), none⟩,
  ⟨some 15, .mv (.t 4), none⟩,
  ⟨some 16, .mv (.t 0), none⟩,
  ⟨some 17, .mv (.t 4), none⟩,
  ⟨some 18, .iaddr 2 (.t 16) (.t 17), none⟩,
  ⟨some 19, .load true 2 (.t 18), none⟩,
  ⟨some 20, .call false 29 [(.t 19)], none⟩,
  ⟨some 21, .iaddr 2 (.t 14) (.t 15), none⟩,
  ⟨none, .store 2 (.t 21) (.t 20), none⟩]))
 (.region 0 [⟨some 12, .mv (.t 4), none⟩,
  ⟨some 13, .bin .add (.t 12) (.c (.int .i64 1)), none⟩,
  ⟨some 4, .mv (.t 13), none⟩])))
def laws_toReadMarkS_r0 : AC :=
 (.seq (.region 0 [⟨some 22, .mv (.t 3), none⟩,
  ⟨some 2, .mv (.t 22), none⟩])
 .ret)
def laws_toReadMarkS_ac : AC :=
 (.seq (.region 0 [⟨some 2, .mv (.c (.nsl 2)), none⟩])
 (.seq (.region 0 [⟨some 5, .mv (.t 0), none⟩,
  ⟨some 6, .len false (.t 5), none⟩,
  ⟨some 7, .mkslice 7 2 16 (.agg [(.int .i64 0), (.int .i64 0)]) (.t 6) (.t 6), none⟩,
  ⟨some 3, .mv (.t 7), none⟩])
 (.seq (.seq (.region 0 [⟨some 4, .mv (.c (.int .i64 0)), none⟩])
 (.block 0 (.loop ⟨[0, 4], [(3, 2, false)], []⟩ laws_toReadMarkS_b0)))
 laws_toReadMarkS_r0)))
noncomputable def laws_toReadMarkS_l0 (E : Env) (x0 : U) (x4 : U) (c3 : List U) : Option U := loopK (roundOf E ⟨[0, 4], [(3, 2, false)], []⟩ laws_toReadMarkS_b0 (blockK 0 (seqK (fun s => exec E laws_toReadMarkS_r0 s (finish [(2, none)])) (finish [(2, none)])))) ([.val x0, .val x4], [.vir (.asl 2 c3)])
theorem laws_toReadMarkS_l0_eq (E : Env) (x0 : U) (x4 : U) (c3 : List U) : laws_toReadMarkS_l0 E x0 x4 c3 =
 (U.lenOf false x0).bind fun n2 => (U.bin .lss x4 (.int .i64 (n2 : Int))).bind fun t3 => U.asBool t3
 (U.asInt x4 fun n4 => U.elemAt 2 x0 n4 fun e5 => U.asVar true 2 e5 fun e6 => (E 29 [e6]).bind fun t7 => U.asInt x4 fun n8 => if 2 = 2 ∧ 0 ≤ n8 ∧ n8 < ((c3).length : Int) then if storable (.val t7) = true ∧ t7.size = 2 then (c3[(n8 : Int).toNat]?).bind fun e9 => if e9.size = 2 then (U.bin .add x4 (.int .i64 1)).bind fun t10 => laws_toReadMarkS_l0 E x0 t10 (c3.set (n8 : Int).toNat t7) else none else none else none)
 (some (.sl 2 c3)) :=
 (loop_eq E _ _ _ _).trans (by kernel_rfl)
structure G_laws_toReadMarkS (E : Env) : Prop where
  is : Is E 28 1 laws_toReadMarkS_ac [(2, none)]
  c_laws_toReadMark : G_laws_toReadMark E
theorem laws_toReadMarkS_E {E : Env} (h : G_laws_toReadMarkS E) (a0 : U) : E 28 [a0] =
 (U.lenOf false a0).bind fun n1 => if 0 ≤ (n1 : Int) ∧ (n1 : Int) ≤ (n1 : Int) ∧ (n1 : Int) * 16 ≤ 140737488355328 ∧ ((.agg [(.int .i64 0), (.int .i64 0)]) : U).size = 2 then laws_toReadMarkS_l0 E a0 (.int .i64 0) (List.replicate ((n1 : Int) : Int).toNat (.agg [(.int .i64 0), (.int .i64 0)])) else none := (h.is _ rfl).trans ((runQ_V rfl).trans (by kernel_rfl))
end Go.Proofs.Ytfdcdbkblkehcaa.Am
namespace Go.Proofs.Ytfdcdbkblkehcaa.Am
open Go
set_option linter.unusedVariables false
set_option maxRecDepth 100000
def laws_toWrite_ac : AC :=
 (.seq (.region 0 [⟨some 1, .box false 1 (.t 0), none⟩,
  ⟨some 2, .alloc 2 (.agg [(.int .i64 0), (.int .i64 0)]), none⟩])
 (.seq (.region 0 [⟨some 3, .alloc 3 (.agg [(.int .i64 0), (.int .i64 0)]), none⟩])
 (.seq (.region 0 [⟨some 4, .faddr 0 0 (.t 1), none⟩,
  ⟨some 5, .load false 1 (.t 4), none⟩,
  ⟨some 6, .faddr 0 0 (.t 3), none⟩,
  ⟨none, .store 1 (.t 6) (.t 5), none⟩])
 (.seq (.region 0 [⟨some 7, .faddr 1 1 (.t 1), none⟩,
  ⟨some 8, .load false 1 (.t 7), none⟩,
  ⟨some 9, .faddr 1 1 (.t 3), none⟩,
  ⟨none, .store 1 (.t 9) (.t 8), none⟩])
 (.seq (.region 0 [⟨some 10, .load true 2 (.t 3), none⟩,
  ⟨none, .store 2 (.t 2) (.t 10), none⟩])
 .ret)))))
structure G_laws_toWrite (E : Env) : Prop where
  is : Is E 30 1 laws_toWrite_ac [(2, some (true, 2))]
theorem laws_toWrite_E {E : Env} (h : G_laws_toWrite E) (a0 : U) : E 30 [a0] =
 U.noTup a0 fun x1 => U.asAgg x1 fun us2 => if 0 = sizes (us2.take 0) then (us2[0]?).bind fun e3 => U.asVar false 1 e3 fun e4 => if storable (.val e4) = true ∧ e4.size = 1 then U.asAgg x1 fun us5 => if 1 = sizes (us5.take 1) then (us5[1]?).bind fun e6 => U.asVar false 1 e6 fun e7 => if storable (.val e7) = true ∧ e7.size = 1 then if 1 = sizes [e4] then U.asVar true 2 (.agg [e4, e7]) fun e8 => if storable (.val e8) = true ∧ e8.size = 2 then U.asVar true 2 e8 fun e9 => some e9 else none else none else none else none else none else none := (h.is _ rfl).trans ((runQ_V rfl).trans (by kernel_rfl))
end Go.Proofs.Ytfdcdbkblkehcaa.Am
namespace Go.Proofs.Ytfdcdbkblkehcaa.Am
open Go
set_option linter.unusedVariables false
set_option maxRecDepth 100000
def laws_toWriteS_b0 : AC :=
 (.seq (.seq (.region 0 [⟨some 8, .mv (.t 4), none⟩,
  ⟨some 9, .mv (.t 0), none⟩,
  ⟨some 10, .len false (.t 9), none⟩,
  ⟨some 11, .bin .lss (.t 8) (.t 10), none⟩])
 (.cond (.t 11) .skip (.exit 0)))
 (.seq (.block 1 (.region 0 [⟨some 14, .mv (.t 3), none⟩,
  ⟨some 15, .mv (.t 4), none⟩,
  ⟨some 16, .mv (.t 0), none⟩,
  ⟨some 17, .mv (.t 4), none⟩,
  ⟨some 18, .iaddr 2 (.t 16) (.t 17), none⟩,
  ⟨some 19, .load true 2 (.t 18), none⟩,
  ⟨some 20, .call false 30 [(.t 19)], none⟩,
  ⟨some 21, .iaddr 2 (.t 14) (.t 15), none⟩,
  ⟨none, .store 2 (.t 21) (.t 20), none⟩]))
 (.region 0 [⟨some 12, .mv (.t 4), none⟩,
  ⟨some 13, .bin .add (.t 12) (.c (.int .i64 1)), none⟩,
  ⟨some 4, .mv (.t 13), none⟩])))
def laws_toWriteS_r0 : AC :=
 (.seq (.region 0 [⟨some 22, .mv (.t 3), none⟩,
  ⟨some 2, .mv (.t 22), none⟩])
 .ret)
def laws_toWriteS_ac : AC :=
 (.seq (.region 0 [⟨some 2, .mv (.c (.nsl 2)), none⟩])
 (.seq (.region 0 [⟨some 5, .mv (.t 0), none⟩,
  ⟨some 6, .len false (.t 5), none⟩,
  ⟨some 7, .mkslice 7 2 16 (.agg [(.int .i64 0), (.int .i64 0)]) (.t 6) (.t 6), none⟩,
  ⟨some 3, .mv (.t 7), none⟩])
 (.seq (.seq (.region 0 [⟨some 4, .mv (.c (.int .i64 0)), none⟩])
 (.block 0 (.loop ⟨[0, 4], [(3, 2, false)], []⟩ laws_toWriteS_b0)))
 laws_toWriteS_r0)))
noncomputable def laws_toWriteS_l0 (E : Env) (x0 : U) (x4 : U) (c3 : List U) : Option U := loopK (roundOf E ⟨[0, 4], [(3, 2, false)], []⟩ laws_toWriteS_b0 (blockK 0 (seqK (fun s => exec E laws_toWriteS_r0 s (finish [(2, none)])) (finish [(2, none)])))) ([.val x0, .val x4], [.vir (.asl 2 c3)])
theorem laws_toWriteS_l0_eq (E : Env) (x0 : U) (x4 : U) (c3 : List U) : laws_toWriteS_l0 E x0 x4 c3 =
 (U.lenOf false x0).bind fun n2 => (U.bin .lss x4 (.int .i64 (n2 : Int))).bind fun t3 => U.asBool t3
 (U.asInt x4 fun n4 => U.elemAt 2 x0 n4 fun e5 => U.asVar true 2 e5 fun e6 => (E 30 [e6]).bind fun t7 => U.asInt x4 fun n8 => if 2 = 2 ∧ 0 ≤ n8 ∧ n8 < ((c3).length : Int) then if storable (.val t7) = true ∧ t7.size = 2 then (c3[(n8 : Int).toNat]?).bind fun e9 => if e9.size = 2 then (U.bin .add x4 (.int .i64 1)).bind fun t10 => laws_toWriteS_l0 E x0 t10 (c3.set (n8 : Int).toNat t7) else none else none else none)
 (some (.sl 2 c3)) :=
 (loop_eq E _ _ _ _).trans (by kernel_rfl)
structure G_laws_toWriteS (E : Env) : Prop where
  is : Is E 27 1 laws_toWriteS_ac [(2, none)]
  c_laws_toWrite : G_laws_toWrite E
theorem laws_toWriteS_E {E : Env} (h : G_laws_toWriteS E) (a0 : U) : E 27 [a0] =
 (U.lenOf false a0).bind fun n1 => if 0 ≤ (n1 : Int) ∧ (n1 : Int) ≤ (n1 : Int) ∧ (n1 : Int) * 16 ≤ 140737488355328 ∧ ((.agg [(.int .i64 0), (.int .i64 0)]) : U).size = 2 then laws_toWriteS_l0 E a0 (.int .i64 0) (List.replicate ((n1 : Int) : Int).toNat (.agg [(.int .i64 0), (.int .i64 0)])) else none := (h.is _ rfl).trans ((runQ_V rfl).trans (by kernel_rfl))
end Go.Proofs.Ytfdcdbkblkehcaa.Am
namespace Go.Proofs.Ytfdcdbkblkehcaa.Am
open Go
set_option linter.unusedVariables false
set_option maxRecDepth 100000
def laws_toEntry_ac : AC :=
 (.seq (.region 0 [⟨some 1, .box false 1 (.t 0), none⟩,
  ⟨some 2, .alloc 2 (.agg [(.int .i64 0), (.int .i64 0), (.nsl 2), (.nsl 2)]), none⟩])
 (.seq (.region 0 [⟨some 3, .alloc 3 (.agg [(.int .i64 0), (.int .i64 0), (.nsl 2), (.nsl 2)]), none⟩])
 (.seq (.region 0 [⟨some 4, .faddr 0 0 (.t 1), none⟩,
  ⟨some 5, .load false 1 (.t 4), none⟩,
  ⟨some 6, .faddr 0 0 (.t 3), none⟩,
  ⟨none, .store 1 (.t 6) (.t 5), none⟩])
 (.seq (.region 0 [⟨some 7, .faddr 1 1 (.t 1), none⟩,
  ⟨some 8, .load false 1 (.t 7), none⟩,
  ⟨some 9, .faddr 1 1 (.t 3), none⟩,
  ⟨none, .store 1 (.t 9) (.t 8), none⟩])
 (.seq (.region 0 [⟨some 10, .faddr 2 2 (.t 1), none⟩,
  ⟨some 11, .load false 1 (.t 10), none⟩,
  ⟨some 12, .call false 28 [(.t 11)], none⟩,
  ⟨some 13, .faddr 2 2 (.t 3), none⟩,
  ⟨none, .store 1 (.t 13) (.t 12), none⟩])
 (.seq (.region 0 [⟨some 14, .faddr 3 3 (.t 1), none⟩,
  ⟨some 15, .load false 1 (.t 14), none⟩,
  ⟨some 16, .call false 27 [(.t 15)], none⟩,
  ⟨some 17, .faddr 3 3 (.t 3), none⟩,
  ⟨none, .store 1 (.t 17) (.t 16), none⟩])
 (.seq (.region 0 [⟨some 18, .load true 4 (.t 3), none⟩,
  ⟨none, .store 4 (.t 2) (.t 18), none⟩])
 .ret)))))))
structure G_laws_toEntry (E : Env) : Prop where
  is : Is E 51 1 laws_toEntry_ac [(2, some (true, 4))]
  c_laws_toReadMarkS : G_laws_toReadMarkS E
  c_laws_toWriteS : G_laws_toWriteS E
theorem laws_toEntry_E {E : Env} (h : G_laws_toEntry E) (a0 : U) : E 51 [a0] =
 U.noTup a0 fun x1 => U.asAgg x1 fun us2 => if 0 = sizes (us2.take 0) then (us2[0]?).bind fun e3 => U.asVar false 1 e3 fun e4 => if storable (.val e4) = true ∧ e4.size = 1 then U.asAgg x1 fun us5 => if 1 = sizes (us5.take 1) then (us5[1]?).bind fun e6 => U.asVar false 1 e6 fun e7 => if storable (.val e7) = true ∧ e7.size = 1 then if 1 = sizes [e4] then U.asAgg x1 fun us8 => if 2 = sizes (us8.take 2) then (us8[2]?).bind fun e9 => U.asVar false 1 e9 fun e10 => (E 28 [e10]).bind fun t11 => if storable (.val t11) = true ∧ t11.size = 1 then if 2 = sizes [e4, e7] then U.asAgg x1 fun us12 => if 3 = sizes (us12.take 3) then (us12[3]?).bind fun e13 => U.asVar false 1 e13 fun e14 => (E 27 [e14]).bind fun t15 => if storable (.val t15) = true ∧ t15.size = 1 then if 3 = sizes [e4, e7, t11] then U.asVar true 4 (.agg [e4, e7, t11, t15]) fun e16 => if storable (.val e16) = true ∧ e16.size = 4 then U.asVar true 4 e16 fun e17 => some e17 else none else none else none else none else none else none else none else none else none else none else none else none := (h.is _ rfl).trans ((runQ_V rfl).trans (by kernel_rfl))
end Go.Proofs.Ytfdcdbkblkehcaa.Am
namespace Go.Proofs.Ytfdcdbkblkehcaa.Am
open Go
set_option linter.unusedVariables false
set_option maxRecDepth 100000
def laws_toEntryS_b0 : AC :=
 (.seq (.seq (.region 0 [⟨some 8, .mv (.t 4), none⟩,
  ⟨some 9, .mv (.t 0), none⟩,
  ⟨some 10, .len false (.t 9), none⟩,
  ⟨some 11, .bin .lss (.t 8) (.t 10), none⟩])
 (.cond (.t 11) .skip (.exit 0)))
 (.seq (.block 1 (.region 0 [⟨some 14, .mv (.t 3), none⟩,
  ⟨some 15, .mv (.t 4), none⟩,
  ⟨some 16, .mv (.t 0), none⟩,
  ⟨some 17, .mv (.t 4), none⟩,
  ⟨some 18, .iaddr 4 (.t 16) (.t 17), none⟩,
  ⟨some 19, .load true 4 (.t 18), none⟩,
  ⟨some 20, .call false 51 [(.t 19)], none⟩,
  ⟨some 21, .iaddr 4 (.t 14) (.t 15), none⟩,
  ⟨none, .store 4 (.t 21) (.t 20), none⟩]))
 (.region 0 [⟨some 12, .mv (.t 4), none⟩,
  ⟨some 13, .bin .add (.t 12) (.c (.int .i64 1)), none⟩,
  ⟨some 4, .mv (.t 13), none⟩])))
def laws_toEntryS_r0 : AC :=
 (.seq (.region 0 [⟨some 22, .mv (.t 3), none⟩,
  ⟨some 2, .mv (.t 22), none⟩])
 .ret)
def laws_toEntryS_ac : AC :=
 (.seq (.region 0 [⟨some 2, .mv (.c (.nsl 4)), none⟩])
 (.seq (.region 0 [⟨some 5, .mv (.t 0), none⟩,
  ⟨some 6, .len false (.t 5), none⟩,
  ⟨some 7, .mkslice 7 4 64 (.agg [(.int .i64 0), (.int .i64 0), (.nsl 2), (.nsl 2)]) (.t 6) (.t 6), none⟩,
  ⟨some 3, .mv (.t 7), none⟩])
 (.seq (.seq (.region 0 [⟨some 4, .mv (.c (.int .i64 0)), none⟩])
 (.block 0 (.loop ⟨[0, 4], [(3, 4, false)], []⟩ laws_toEntryS_b0)))
 laws_toEntryS_r0)))
noncomputable def laws_toEntryS_l0 (E : Env) (x0 : U) (x4 : U) (c3 : List U) : Option U := loopK (roundOf E ⟨[0, 4], [(3, 4, false)], []⟩ laws_toEntryS_b0 (blockK 0 (seqK (fun s => exec E laws_toEntryS_r0 s (finish [(2, none)])) (finish [(2, none)])))) ([.val x0, .val x4], [.vir (.asl 4 c3)])
theorem laws_toEntryS_l0_eq (E : Env) (x0 : U) (x4 : U) (c3 : List U) : laws_toEntryS_l0 E x0 x4 c3 =
 (U.lenOf false x0).bind fun n2 => (U.bin .lss x4 (.int .i64 (n2 : Int))).bind fun t3 => U.asBool t3
 (U.asInt x4 fun n4 => U.elemAt 4 x0 n4 fun e5 => U.asVar true 4 e5 fun e6 => (E 51 [e6]).bind fun t7 => U.asInt x4 fun n8 => if 4 = 4 ∧ 0 ≤ n8 ∧ n8 < ((c3).length : Int) then if storable (.val t7) = true ∧ t7.size = 4 then (c3[(n8 : Int).toNat]?).bind fun e9 => if e9.size = 4 then (U.bin .add x4 (.int .i64 1)).bind fun t10 => laws_toEntryS_l0 E x0 t10 (c3.set (n8 : Int).toNat t7) else none else none else none)
 (some (.sl 4 c3)) :=
 (loop_eq E _ _ _ _).trans (by kernel_rfl)
structure G_laws_toEntryS (E : Env) : Prop where
  is : Is E 45 1 laws_toEntryS_ac [(2, none)]
  c_laws_toEntry : G_laws_toEntry E
theorem laws_toEntryS_E {E : Env} (h : G_laws_toEntryS E) (a0 : U) : E 45 [a0] =
 (U.lenOf false a0).bind fun n1 => if 0 ≤ (n1 : Int) ∧ (n1 : Int) ≤ (n1 : Int) ∧ (n1 : Int) * 64 ≤ 140737488355328 ∧ ((.agg [(.int .i64 0), (.int .i64 0), (.nsl 2), (.nsl 2)]) : U).size = 4 then laws_toEntryS_l0 E a0 (.int .i64 0) (List.replicate ((n1 : Int) : Int).toNat (.agg [(.int .i64 0), (.int .i64 0), (.nsl 2), (.nsl 2)])) else none := (h.is _ rfl).trans ((runQ_V rfl).trans (by kernel_rfl))
end Go.Proofs.Ytfdcdbkblkehcaa.Am
namespace Go.Proofs.Ytfdcdbkblkehcaa.Am
open Go
set_option linter.unusedVariables false
set_option maxRecDepth 100000
def laws_eqIntS_b0 : AC :=
 (.seq (.seq (.region 0 [⟨some 11, .mv (.t 5), none⟩,
  ⟨some 12, .mv (.t 0), none⟩,
  ⟨some 13, .len false (.t 12), none⟩,
  ⟨some 14, .bin .lss (.t 11) (.t 13), none⟩])
 (.cond (.t 14) .skip (.exit 0)))
 (.seq (.block 1 (.seq (.region 9 [⟨some 17, .mv (.t 0), none⟩,
  ⟨some 18, .mv (.t 5), none⟩,
  ⟨some 19, .iaddr 1 (.t 17) (.t 18), none⟩,
  ⟨some 20, .load false 1 (.t 19), none⟩,
  ⟨some 21, .mv (.t 1), none⟩,
  ⟨some 22, .mv (.t 5), none⟩,
  ⟨some 23, .iaddr 1 (.t 21) (.t 22), none⟩,
  ⟨some 24, .load false 1 (.t 23), none⟩,
  ⟨some 25, .bin .neq (.t 20) (.t 24), none⟩])
 (.cond (.t 25) (.seq (.region 0 [⟨some 4, .mv (.c (.bool false)), none⟩])
 .ret) .skip)))
 (.region 0 [⟨some 15, .mv (.t 5), none⟩,
  ⟨some 16, .bin .add (.t 15) (.c (.int .i64 1)), none⟩,
  ⟨some 5, .mv (.t 16), none⟩])))
def laws_eqIntS_r0 : AC :=
 (.seq (.region 0 [⟨some 4, .mv (.c (.bool true)), none⟩])
 .ret)
def laws_eqIntS_ac : AC :=
 (.seq (.region 0 [⟨some 4, .mv (.c (.bool false)), none⟩])
 (.seq (.seq (.region 0 [⟨some 6, .mv (.t 0), none⟩,
  ⟨some 7, .len false (.t 6), none⟩,
  ⟨some 8, .mv (.t 1), none⟩,
  ⟨some 9, .len false (.t 8), none⟩,
  ⟨some 10, .bin .neq (.t 7) (.t 9), none⟩])
 (.cond (.t 10) (.seq (.region 0 [⟨some 4, .mv (.c (.bool false)), none⟩])
 .ret) .skip))
 (.seq (.seq (.region 0 [⟨some 5, .mv (.c (.int .i64 0)), none⟩])
 (.block 0 (.loop ⟨[0, 1, 5], [], []⟩ laws_eqIntS_b0)))
 laws_eqIntS_r0)))
noncomputable def laws_eqIntS_l0 (E : Env) (x0 : U) (x1 : U) (x5 : U) : Option U := loopK (roundOf E ⟨[0, 1, 5], [], []⟩ laws_eqIntS_b0 (blockK 0 (seqK (fun s => exec E laws_eqIntS_r0 s (finish [(4, none)])) (finish [(4, none)])))) ([.val x0, .val x1, .val x5], [])
theorem laws_eqIntS_l0_eq (E : Env) (x0 : U) (x1 : U) (x5 : U) : laws_eqIntS_l0 E x0 x1 x5 =
 (U.lenOf false x0).bind fun n4 => (U.bin .lss x5 (.int .i64 (n4 : Int))).bind fun t5 => U.asBool t5
 (U.asInt x5 fun n6 => U.elemAt 1 x0 n6 fun e7 => U.asVar false 1 e7 fun e8 => U.asInt x5 fun n9 => U.elemAt 1 x1 n9 fun e10 => U.asVar false 1 e10 fun e11 => (U.bin .neq e8 e11).bind fun t12 => U.asBool t12
 (some (.bool false))
 ((U.bin .add x5 (.int .i64 1)).bind fun t13 => laws_eqIntS_l0 E x0 x1 t13))
 (some (.bool true)) :=
 (loop_eq E _ _ _ _).trans (by kernel_rfl)
structure G_laws_eqIntS (E : Env) : Prop where
  is : Is E 59 2 laws_eqIntS_ac [(4, none)]
theorem laws_eqIntS_E {E : Env} (h : G_laws_eqIntS E) (a0 a1 : U) : E 59 [a0, a1] =
 (U.lenOf false a0).bind fun n1 => (U.lenOf false a1).bind fun n2 => (U.bin .neq (.int .i64 (n1 : Int)) (.int .i64 (n2 : Int))).bind fun t3 => U.asBool t3
 (some (.bool false))
 (laws_eqIntS_l0 E a0 a1 (.int .i64 0)) := (h.is _ rfl).trans ((runQ_V rfl).trans (by kernel_rfl))
end Go.Proofs.Ytfdcdbkblkehcaa.Am
namespace Go.Proofs.Ytfdcdbkblkehcaa.Am
open Go
set_option linter.unusedVariables false
set_option maxRecDepth 100000
def laws_eqReadMark_ac : AC :=
 (.seq (.region 0 [⟨some 2, .box false 2 (.t 0), none⟩,
  ⟨some 3, .box false 3 (.t 1), none⟩,
  ⟨some 4, .mv (.c (.bool false)), none⟩])
 (.seq (.seq (.region 0 [⟨some 5, .faddr 0 0 (.t 2), none⟩,
  ⟨some 6, .load false 1 (.t 5), none⟩,
  ⟨some 7, .faddr 0 0 (.t 3), none⟩,
  ⟨some 8, .load false 1 (.t 7), none⟩,
  ⟨some 9, .bin .neq (.t 6) (.t 8), none⟩])
 (.cond (.t 9) (.seq (.region 0 [⟨some 4, .mv (.c (.bool false)), none⟩])
 .ret) .skip))
 (.seq (.seq (.region 0 [⟨some 10, .faddr 1 1 (.t 2), none⟩,
  ⟨some 11, .load false 1 (.t 10), none⟩,
  ⟨some 12, .faddr 1 1 (.t 3), none⟩,
  ⟨some 13, .load false 1 (.t 12), none⟩,
  ⟨some 14, .bin .neq (.t 11) (.t 13), none⟩])
 (.cond (.t 14) (.seq (.region 0 [⟨some 4, .mv (.c (.bool false)), none⟩])
 .ret) .skip))
 (.seq (.region 0 [⟨some 4, .mv (.c (.bool true)), none⟩])
 .ret))))
structure G_laws_eqReadMark (E : Env) : Prop where
  is : Is E 35 2 laws_eqReadMark_ac [(4, none)]
theorem laws_eqReadMark_E {E : Env} (h : G_laws_eqReadMark E) (a0 a1 : U) : E 35 [a0, a1] =
 U.noTup a0 fun x1 => U.noTup a1 fun x2 => U.asAgg x1 fun us3 => if 0 = sizes (us3.take 0) then (us3[0]?).bind fun e4 => U.asVar false 1 e4 fun e5 => U.asAgg x2 fun us6 => if 0 = sizes (us6.take 0) then (us6[0]?).bind fun e7 => U.asVar false 1 e7 fun e8 => (U.bin .neq e5 e8).bind fun t9 => U.asBool t9
 (some (.bool false))
 (U.asAgg x1 fun us10 => if 1 = sizes (us10.take 1) then (us10[1]?).bind fun e11 => U.asVar false 1 e11 fun e12 => U.asAgg x2 fun us13 => if 1 = sizes (us13.take 1) then (us13[1]?).bind fun e14 => U.asVar false 1 e14 fun e15 => (U.bin .neq e12 e15).bind fun t16 => U.asBool t16
 (some (.bool false))
 (some (.bool true)) else none else none) else none else none := (h.is _ rfl).trans ((runQ_V rfl).trans (by kernel_rfl))
end Go.Proofs.Ytfdcdbkblkehcaa.Am
namespace Go.Proofs.Ytfdcdbkblkehcaa.Am
open Go
set_option linter.unusedVariables false
set_option maxRecDepth 100000
def laws_eqReadMarkS_b0 : AC :=
 (.seq (.seq (.region 0 [⟨some 11, .mv (.t 5), none⟩,
  ⟨some 12, .mv (.t 0), none⟩,
  ⟨some 13, .len false (.t 12), none⟩,
  ⟨some 14, .bin .lss (.t 11) (.t 13), none⟩])
 (.cond (.t 14) .skip (.exit 0)))
 (.seq (.block 1 (.seq (.region 10 [⟨some 17, .mv (.t 0), none⟩,
  ⟨some 18, .mv (.t 5), none⟩,
  ⟨some 19, .iaddr 2 (.t 17) (.t 18), none⟩,
  ⟨some 20, .load true 2 (.t 19), none⟩,
  ⟨some 21, .mv (.t 1), none⟩,
  ⟨some 22, .mv (.t 5), none⟩,
  ⟨some 23, .iaddr 2 (.t 21) (.t 22), none⟩,
  ⟨some 24, .load true 2 (.t 23), none⟩,
  ⟨some 25, .call false 35 [(.t 20), (.t 24)], none⟩,
  ⟨some 26, .un .not (.t 25), none⟩])
 (.cond (.t 26) (.seq (.region 0 [⟨some 4, .mv (.c (.bool false)), none⟩])
 .ret) .skip)))
 (.region 0 [⟨some 15, .mv (.t 5), none⟩,
  ⟨some 16, .bin .add (.t 15) (.c (.int .i64 1)), none⟩,
  ⟨some 5, .mv (.t 16), none⟩])))
def laws_eqReadMarkS_r0 : AC :=
 (.seq (.region 0 [⟨some 4, .mv (.c (.bool true)), none⟩])
 .ret)
def laws_eqReadMarkS_ac : AC :=
 (.seq (.region 0 [⟨some 4, .mv (.c (.bool false)), none⟩])
 (.seq (.seq (.region 0 [⟨some 6, .mv (.t 0), none⟩,
  ⟨some 7, .len false (.t 6), none⟩,
  ⟨some 8, .mv (.t 1), none⟩,
  ⟨some 9, .len false (.t 8), none⟩,
  ⟨some 10, .bin .neq (.t 7) (.t 9), none⟩])
 (.cond (.t 10) (.seq (.region 0 [⟨some 4, .mv (.c (.bool false)), none⟩])
 .ret) .skip))
 (.seq (.seq (.region 0 [⟨some 5, .mv (.c (.int .i64 0)), none⟩])
 (.block 0 (.loop ⟨[0, 1, 5], [], []⟩ laws_eqReadMarkS_b0)))
 laws_eqReadMarkS_r0)))
noncomputable def laws_eqReadMarkS_l0 (E : Env) (x0 : U) (x1 : U) (x5 : U) : Option U := loopK (roundOf E ⟨[0, 1, 5], [], []⟩ laws_eqReadMarkS_b0 (blockK 0 (seqK (fun s => exec E laws_eqReadMarkS_r0 s (finish [(4, none)])) (finish [(4, none)])))) ([.val x0, .val x1, .val x5], [])
theorem laws_eqReadMarkS_l0_eq (E : Env) (x0 : U) (x1 : U) (x5 : U) : laws_eqReadMarkS_l0 E x0 x1 x5 =
 (U.lenOf false x0).bind fun n4 => (U.bin .lss x5 (.int .i64 (n4 : Int))).bind fun t5 => U.asBool t5
 (U.asInt x5 fun n6 => U.elemAt 2 x0 n6 fun e7 => U.asVar true 2 e7 fun e8 => U.asInt x5 fun n9 => U.elemAt 2 x1 n9 fun e10 => U.asVar true 2 e10 fun e11 => (E 35 [e8, e11]).bind fun t12 => (U.un .not t12).bind fun t13 => U.asBool t13
 (some (.bool false))
 ((U.bin .add x5 (.int .i64 1)).bind fun t14 => laws_eqReadMarkS_l0 E x0 x1 t14))
 (some (.bool true)) :=
 (loop_eq E _ _ _ _).trans (by kernel_rfl)
structure G_laws_eqReadMarkS (E : Env) : Prop where
  is : Is E 34 2 laws_eqReadMarkS_ac [(4, none)]
  c_laws_eqReadMark : G_laws_eqReadMark E
theorem laws_eqReadMarkS_E {E : Env} (h : G_laws_eqReadMarkS E) (a0 a1 : U) : E 34 [a0, a1] =
 (U.lenOf false a0).bind fun n1 => (U.lenOf false a1).bind fun n2 => (U.bin .neq (.int .i64 (n1 : Int)) (.int .i64 (n2 : Int))).bind fun t3 => U.asBool t3
 (some (.bool false))
 (laws_eqReadMarkS_l0 E a0 a1 (.int .i64 0)) := (h.is _ rfl).trans ((runQ_V rfl).trans (by kernel_rfl))
end Go.Proofs.Ytfdcdbkblkehcaa.Am
namespace Go.Proofs.Ytfdcdbkblkehcaa.Am
open Go
set_option linter.unusedVariables false
set_option maxRecDepth 100000
def laws_eqWrite_ac : AC :=
 (.seq (.region 0 [⟨some 2, .box false 2 (.t 0), none⟩,
  ⟨some 3, .box false 3 (.t 1), none⟩,
  ⟨some 4, .mv (.c (.bool false)), none⟩])
 (.seq (.seq (.region 0 [⟨some 5, .faddr 0 0 (.t 2), none⟩,
  ⟨some 6, .load false 1 (.t 5), none⟩,
  ⟨some 7, .faddr 0 0 (.t 3), none⟩,
  ⟨some 8, .load false 1 (.t 7), none⟩,
  ⟨some 9, .bin .neq (.t 6) (.t 8), none⟩])
 (.cond (.t 9) (.seq (.region 0 [⟨some 4, .mv (.c (.bool false)), none⟩])
 .ret) .skip))
 (.seq (.seq (.region 0 [⟨some 10, .faddr 1 1 (.t 2), none⟩,
  ⟨some 11, .load false 1 (.t 10), none⟩,
  ⟨some 12, .faddr 1 1 (.t 3), none⟩,
  ⟨some 13, .load false 1 (.t 12), none⟩,
  ⟨some 14, .bin .neq (.t 11) (.t 13), none⟩])
 (.cond (.t 14) (.seq (.region 0 [⟨some 4, .mv (.c (.bool false)), none⟩])
 .ret) .skip))
 (.seq (.region 0 [⟨some 4, .mv (.c (.bool true)), none⟩])
 .ret))))
structure G_laws_eqWrite (E : Env) : Prop where
  is : Is E 36 2 laws_eqWrite_ac [(4, none)]
theorem laws_eqWrite_E {E : Env} (h : G_laws_eqWrite E) (a0 a1 : U) : E 36 [a0, a1] =
 U.noTup a0 fun x1 => U.noTup a1 fun x2 => U.asAgg x1 fun us3 => if 0 = sizes (us3.take 0) then (us3[0]?).bind fun e4 => U.asVar false 1 e4 fun e5 => U.asAgg x2 fun us6 => if 0 = sizes (us6.take 0) then (us6[0]?).bind fun e7 => U.asVar false 1 e7 fun e8 => (U.bin .neq e5 e8).bind fun t9 => U.asBool t9
 (some (.bool false))
 (U.asAgg x1 fun us10 => if 1 = sizes (us10.take 1) then (us10[1]?).bind fun e11 => U.asVar false 1 e11 fun e12 => U.asAgg x2 fun us13 => if 1 = sizes (us13.take 1) then (us13[1]?).bind fun e14 => U.asVar false 1 e14 fun e15 => (U.bin .neq e12 e15).bind fun t16 => U.asBool t16
 (some (.bool false))
 (some (.bool true)) else none else none) else none else none := (h.is _ rfl).trans ((runQ_V rfl).trans (by kernel_rfl))
end Go.Proofs.Ytfdcdbkblkehcaa.Am
namespace Go.Proofs.Ytfdcdbkblkehcaa.Am
open Go
set_option linter.unusedVariables false
set_option maxRecDepth 100000
def laws_eqWriteS_b0 : AC :=
 (.seq (.seq (.region 0 [⟨some 11, .mv (.t 5), none⟩,
  ⟨some 12, .mv (.t 0), none⟩,
  ⟨some 13, .len false (.t 12), none⟩,
  ⟨some 14, .bin .lss (.t 11) (.t 13), none⟩])
 (.cond (.t 14) .skip (.exit 0)))
 (.seq (.block 1 (.seq (.region 10 [⟨some 17, .mv (.t 0), none⟩,
  ⟨some 18, .mv (.t 5), none⟩,
  ⟨some 19, .iaddr 2 (.t 17) (.t 18), none⟩,
  ⟨some 20, .load true 2 (.t 19), none⟩,
  ⟨some 21, .mv (.t 1), none⟩,
  ⟨some 22, .mv (.t 5), none⟩,
  ⟨some 23, .iaddr 2 (.t 21) (.t 22), none⟩,
  ⟨some 24, .load true 2 (.t 23), none⟩,
  ⟨some 25, .call false 36 [(.t 20), (.t 24)], none⟩,
  ⟨some 26, .un .not (.t 25), none⟩])
 (.cond (.t 26) (.seq (.region 0 [⟨some 4, .mv (.c (.bool false)), none⟩])
 .ret) .skip)))
 (.region 0 [⟨some 15, .mv (.t 5), none⟩,
  ⟨some 16, .bin .add (.t 15) (.c (.int .i64 1)), none⟩,
  ⟨some 5, .mv (.t 16), none⟩])))
def laws_eqWriteS_r0 : AC :=
 (.seq (.region 0 [⟨some 4, .mv (.c (.bool true)), none⟩])
 .ret)
def laws_eqWriteS_ac : AC :=
 (.seq (.region 0 [⟨some 4, .mv (.c (.bool false)), none⟩])
 (.seq (.seq (.region 0 [⟨some 6, .mv (.t 0), none⟩,
  ⟨some 7, .len false (.t 6), none⟩,
  ⟨some 8, .mv (.t 1), none⟩,
  ⟨some 9, .len false (.t 8), none⟩,
  ⟨some 10, .bin .neq (.t 7) (.t 9), none⟩])
 (.cond (.t 10) (.seq (.region 0 [⟨some 4, .mv (.c (.bool false)), none⟩])
 .ret) .skip))
 (.seq (.seq (.region 0 [⟨some 5, .mv (.c (.int .i64 0)), none⟩])
 (.block 0 (.loop ⟨[0, 1, 5], [], []⟩ laws_eqWriteS_b0)))
 laws_eqWriteS_r0)))
noncomputable def laws_eqWriteS_l0 (E : Env) (x0 : U) (x1 : U) (x5 : U) : Option U := loopK (roundOf E ⟨[0, 1, 5], [], []⟩ laws_eqWriteS_b0 (blockK 0 (seqK (fun s => exec E laws_eqWriteS_r0 s (finish [(4, none)])) (finish [(4, none)])))) ([.val x0, .val x1, .val x5], [])
theorem laws_eqWriteS_l0_eq (E : Env) (x0 : U) (x1 : U) (x5 : U) : laws_eqWriteS_l0 E x0 x1 x5 =
 (U.lenOf false x0).bind fun n4 => (U.bin .lss x5 (.int .i64 (n4 : Int))).bind fun t5 => U.asBool t5
 (U.asInt x5 fun n6 => U.elemAt 2 x0 n6 fun e7 => U.asVar true 2 e7 fun e8 => U.asInt x5 fun n9 => U.elemAt 2 x1 n9 fun e10 => U.asVar true 2 e10 fun e11 => (E 36 [e8, e11]).bind fun t12 => (U.un .not t12).bind fun t13 => U.asBool t13
 (some (.bool false))
 ((U.bin .add x5 (.int .i64 1)).bind fun t14 => laws_eqWriteS_l0 E x0 x1 t14))
 (some (.bool true)) :=
 (loop_eq E _ _ _ _).trans (by kernel_rfl)
structure G_laws_eqWriteS (E : Env) : Prop where
  is : Is E 33 2 laws_eqWriteS_ac [(4, none)]
  c_laws_eqWrite : G_laws_eqWrite E
theorem laws_eqWriteS_E {E : Env} (h : G_laws_eqWriteS E) (a0 a1 : U) : E 33 [a0, a1] =
 (U.lenOf false a0).bind fun n1 => (U.lenOf false a1).bind fun n2 => (U.bin .neq (.int .i64 (n1 : Int)) (.int .i64 (n2 : Int))).bind fun t3 => U.asBool t3
 (some (.bool false))
 (laws_eqWriteS_l0 E a0 a1 (.int .i64 0)) := (h.is _ rfl).trans ((runQ_V rfl).trans (by kernel_rfl))
end Go.Proofs.Ytfdcdbkblkehcaa.Am
namespace Go.Proofs.Ytfdcdbkblkehcaa.Am
open Go
set_option linter.unusedVariables false
set_option maxRecDepth 100000
def laws_eqEntry_ac : AC :=
 (.seq (.region 0 [⟨some 2, .box false 2 (.t 0), none⟩,
  ⟨some 3, .box false 3 (.t 1), none⟩,
  ⟨some 4, .mv (.c (.bool false)), none⟩])
 (.seq (.seq (.region 0 [⟨some 5, .faddr 0 0 (.t 2), none⟩,
  ⟨some 6, .load false 1 (.t 5), none⟩,
  ⟨some 7, .faddr 0 0 (.t 3), none⟩,
  ⟨some 8, .load false 1 (.t 7), none⟩,
  ⟨some 9, .bin .neq (.t 6) (.t 8), none⟩])
 (.cond (.t 9) (.seq (.region 0 [⟨some 4, .mv (.c (.bool false)), none⟩])
 .ret) .skip))
 (.seq (.seq (.region 0 [⟨some 10, .faddr 1 1 (.t 2), none⟩,
  ⟨some 11, .load false 1 (.t 10), none⟩,
  ⟨some 12, .faddr 1 1 (.t 3), none⟩,
  ⟨some 13, .load false 1 (.t 12), none⟩,
  ⟨some 14, .bin .neq (.t 11) (.t 13), none⟩])
 (.cond (.t 14) (.seq (.region 0 [⟨some 4, .mv (.c (.bool false)), none⟩])
 .ret) .skip))
 (.seq (.seq (.region 0 [⟨some 15, .faddr 2 2 (.t 2), none⟩,
  ⟨some 16, .load false 1 (.t 15), none⟩,
  ⟨some 17, .faddr 2 2 (.t 3), none⟩,
  ⟨some 18, .load false 1 (.t 17), none⟩,
  ⟨some 19, .call false 34 [(.t 16), (.t 18)], none⟩,
  ⟨some 20, .un .not (.t 19), none⟩])
 (.cond (.t 20) (.seq (.region 0 [⟨some 4, .mv (.c (.bool false)), none⟩])
 .ret) .skip))
 (.seq (.seq (.region 0 [⟨some 21, .faddr 3 3 (.t 2), none⟩,
  ⟨some 22, .load false 1 (.t 21), none⟩,
  ⟨some 23, .faddr 3 3 (.t 3), none⟩,
  ⟨some 24, .load false 1 (.t 23), none⟩,
  ⟨some 25, .call false 33 [(.t 22), (.t 24)], none⟩,
  ⟨some 26, .un .not (.t 25), none⟩])
 (.cond (.t 26) (.seq (.region 0 [⟨some 4, .mv (.c (.bool false)), none⟩])
 .ret) .skip))
 (.seq (.region 0 [⟨some 4, .mv (.c (.bool true)), none⟩])
 .ret))))))
structure G_laws_eqEntry (E : Env) : Prop where
  is : Is E 56 2 laws_eqEntry_ac [(4, none)]
  c_laws_eqReadMarkS : G_laws_eqReadMarkS E
  c_laws_eqWriteS : G_laws_eqWriteS E
theorem laws_eqEntry_E {E : Env} (h : G_laws_eqEntry E) (a0 a1 : U) : E 56 [a0, a1] =
 U.noTup a0 fun x1 => U.noTup a1 fun x2 => U.asAgg x1 fun us3 => if 0 = sizes (us3.take 0) then (us3[0]?).bind fun e4 => U.asVar false 1 e4 fun e5 => U.asAgg x2 fun us6 => if 0 = sizes (us6.take 0) then (us6[0]?).bind fun e7 => U.asVar false 1 e7 fun e8 => (U.bin .neq e5 e8).bind fun t9 => U.asBool t9
 (some (.bool false))
 (U.asAgg x1 fun us10 => if 1 = sizes (us10.take 1) then (us10[1]?).bind fun e11 => U.asVar false 1 e11 fun e12 => U.asAgg x2 fun us13 => if 1 = sizes (us13.take 1) then (us13[1]?).bind fun e14 => U.asVar false 1 e14 fun e15 => (U.bin .neq e12 e15).bind fun t16 => U.asBool t16
 (some (.bool false))
 (U.asAgg x1 fun us17 => if 2 = sizes (us17.take 2) then (us17[2]?).bind fun e18 => U.asVar false 1 e18 fun e19 => U.asAgg x2 fun us20 => if 2 = sizes (us20.take 2) then (us20[2]?).bind fun e21 => U.asVar false 1 e21 fun e22 => (E 34 [e19, e22]).bind fun t23 => (U.un .not t23).bind fun t24 => U.asBool t24
 (some (.bool false))
 (U.asAgg x1 fun us25 => if 3 = sizes (us25.take 3) then (us25[3]?).bind fun e26 => U.asVar false 1 e26 fun e27 => U.asAgg x2 fun us28 => if 3 = sizes (us28.take 3) then (us28[3]?).bind fun e29 => U.asVar false 1 e29 fun e30 => (E 33 [e27, e30]).bind fun t31 => (U.un .not t31).bind fun t32 => U.asBool t32
 (some (.bool false))
 (some (.bool true)) else none else none) else none else none) else none else none) else none else none := (h.is _ rfl).trans ((runQ_V rfl).trans (by kernel_rfl))
end Go.Proofs.Ytfdcdbkblkehcaa.Am
namespace Go.Proofs.Ytfdcdbkblkehcaa.Am
open Go
set_option linter.unusedVariables false
set_option maxRecDepth 100000
def laws_eqEntryS_b0 : AC :=
 (.seq (.seq (.region 0 [⟨some 11, .mv (.t 5), none⟩,
  ⟨some 12, .mv (.t 0), none⟩,
  ⟨some 13, .len false (.t 12), none⟩,
  ⟨some 14, .bin .lss (.t 11) (.t 13), none⟩])
 (.cond (.t 14) .skip (.exit 0)))
 (.seq (.block 1 (.seq (.region 10 [⟨some 17, .mv (.t 0), none⟩,
  ⟨some 18, .mv (.t 5), none⟩,
  ⟨some 19, .iaddr 4 (.t 17) (.t 18), none⟩,
  ⟨some 20, .load true 4 (.t 19), none⟩,
  ⟨some 21, .mv (.t 1), none⟩,
  ⟨some 22, .mv (.t 5), none⟩,
  ⟨some 23, .iaddr 4 (.t 21) (.t 22), none⟩,
  ⟨some 24, .load true 4 (.t 23), none⟩,
  ⟨some 25, .call false 56 [(.t 20), (.t 24)], none⟩,
  ⟨some 26, .un .not (.t 25), none⟩])
 (.cond (.t 26) (.seq (.region 0 [⟨some 4, .mv (.c (.bool false)), none⟩])
 .ret) .skip)))
 (.region 0 [⟨some 15, .mv (.t 5), none⟩,
  ⟨some 16, .bin .add (.t 15) (.c (.int .i64 1)), none⟩,
  ⟨some 5, .mv (.t 16), none⟩])))
def laws_eqEntryS_r0 : AC :=
 (.seq (.region 0 [⟨some 4, .mv (.c (.bool true)), none⟩])
 .ret)
def laws_eqEntryS_ac : AC :=
 (.seq (.region 0 [⟨some 4, .mv (.c (.bool false)), none⟩])
 (.seq (.seq (.region 0 [⟨some 6, .mv (.t 0), none⟩,
  ⟨some 7, .len false (.t 6), none⟩,
  ⟨some 8, .mv (.t 1), none⟩,
  ⟨some 9, .len false (.t 8), none⟩,
  ⟨some 10, .bin .neq (.t 7) (.t 9), none⟩])
 (.cond (.t 10) (.seq (.region 0 [⟨some 4, .mv (.c (.bool false)), none⟩])
 .ret) .skip))
 (.seq (.seq (.region 0 [⟨some 5, .mv (.c (.int .i64 0)), none⟩])
 (.block 0 (.loop ⟨[0, 1, 5], [], []⟩ laws_eqEntryS_b0)))
 laws_eqEntryS_r0)))
noncomputable def laws_eqEntryS_l0 (E : Env) (x0 : U) (x1 : U) (x5 : U) : Option U := loopK (roundOf E ⟨[0, 1, 5], [], []⟩ laws_eqEntryS_b0 (blockK 0 (seqK (fun s => exec E laws_eqEntryS_r0 s (finish [(4, none)])) (finish [(4, none)])))) ([.val x0, .val x1, .val x5], [])
theorem laws_eqEntryS_l0_eq (E : Env) (x0 : U) (x1 : U) (x5 : U) : laws_eqEntryS_l0 E x0 x1 x5 =
 (U.lenOf false x0).bind fun n4 => (U.bin .lss x5 (.int .i64 (n4 : Int))).bind fun t5 => U.asBool t5
 (U.asInt x5 fun n6 => U.elemAt 4 x0 n6 fun e7 => U.asVar true 4 e7 fun e8 => U.asInt x5 fun n9 => U.elemAt 4 x1 n9 fun e10 => U.asVar true 4 e10 fun e11 => (E 56 [e8, e11]).bind fun t12 => (U.un .not t12).bind fun t13 => U.asBool t13
 (some (.bool false))
 ((U.bin .add x5 (.int .i64 1)).bind fun t14 => laws_eqEntryS_l0 E x0 x1 t14))
 (some (.bool true)) :=
 (loop_eq E _ _ _ _).trans (by kernel_rfl)
structure G_laws_eqEntryS (E : Env) : Prop where
  is : Is E 46 2 laws_eqEntryS_ac [(4, none)]
  c_laws_eqEntry : G_laws_eqEntry E
theorem laws_eqEntryS_E {E : Env} (h : G_laws_eqEntryS E) (a0 a1 : U) : E 46 [a0, a1] =
 (U.lenOf false a0).bind fun n1 => (U.lenOf false a1).bind fun n2 => (U.bin .neq (.int .i64 (n1 : Int)) (.int .i64 (n2 : Int))).bind fun t3 => U.asBool t3
 (some (.bool false))
 (laws_eqEntryS_l0 E a0 a1 (.int .i64 0)) := (h.is _ rfl).trans ((runQ_V rfl).trans (by kernel_rfl))
end Go.Proofs.Ytfdcdbkblkehcaa.Am
namespace Go.Proofs.Ytfdcdbkblkehcaa.Am
open Go
set_option linter.unusedVariables false
set_option maxRecDepth 100000
def laws_heldIntS_b0 : AC :=
 (.seq (.seq (.region 0 [⟨some 6, .mv (.t 5), none⟩,
  ⟨some 7, .mv (.t 0), none⟩,
  ⟨some 8, .len false (.t 7), none⟩,
  ⟨some 9, .bin .lss (.t 6) (.t 8), none⟩])
 (.cond (.t 9) .skip (.exit 0)))
 (.seq (.block 1 (.seq (.seq (.region 0 [⟨some 12, .mv (.t 0), none⟩,
  ⟨some 13, .mv (.t 5), none⟩,
  ⟨some 14, .iaddr 1 (.t 12) (.t 13), none⟩,
  ⟨some 15, .load false 1 (.t 14), none⟩,
  ⟨some 16, .mv (.t 1), none⟩,
  ⟨some 17, .bin .neq (.t 15) (.t 16), none⟩])
 (.cond (.t 17) (.seq (.region 0 [⟨some 4, .mv (.c (.int .i64 (-1))), none⟩])
 .ret) .skip))
 (.region 0 [⟨some 18, .mv (.t 1), none⟩,
  ⟨some 19, .bin .add (.t 18) (.c (.int .i64 1)), none⟩,
  ⟨some 1, .mv (.t 19), none⟩])))
 (.region 0 [⟨some 10, .mv (.t 5), none⟩,
  ⟨some 11, .bin .add (.t 10) (.c (.int .i64 1)), none⟩,
  ⟨some 5, .mv (.t 11), none⟩])))
def laws_heldIntS_r0 : AC :=
 (.seq (.region 0 [⟨some 20, .mv (.t 1), none⟩,
  ⟨some 4, .mv (.t 20), none⟩])
 .ret)
def laws_heldIntS_ac : AC :=
 (.seq (.region 0 [⟨some 4, .mv (.c (.int .i64 0)), none⟩])
 (.seq (.seq (.region 0 [⟨some 5, .mv (.c (.int .i64 0)), none⟩])
 (.block 0 (.loop ⟨[0, 1, 5], [], []⟩ laws_heldIntS_b0)))
 laws_heldIntS_r0))
noncomputable def laws_heldIntS_l0 (E : Env) (x0 : U) (x1 : U) (x5 : U) : Option U := loopK (roundOf E ⟨[0, 1, 5], [], []⟩ laws_heldIntS_b0 (blockK 0 (seqK (fun s => exec E laws_heldIntS_r0 s (finish [(4, none)])) (finish [(4, none)])))) ([.val x0, .val x1, .val x5], [])
theorem laws_heldIntS_l0_eq (E : Env) (x0 : U) (x1 : U) (x5 : U) : laws_heldIntS_l0 E x0 x1 x5 =
 (U.lenOf false x0).bind fun n1 => (U.bin .lss x5 (.int .i64 (n1 : Int))).bind fun t2 => U.asBool t2
 (U.asInt x5 fun n3 => U.elemAt 1 x0 n3 fun e4 => U.asVar false 1 e4 fun e5 => (U.bin .neq e5 x1).bind fun t6 => U.asBool t6
 (some (.int .i64 (-1)))
 ((U.bin .add x1 (.int .i64 1)).bind fun t7 => (U.bin .add x5 (.int .i64 1)).bind fun t8 => laws_heldIntS_l0 E x0 t7 t8))
 (some x1) :=
 (loop_eq E _ _ _ _).trans (by kernel_rfl)
structure G_laws_heldIntS (E : Env) : Prop where
  is : Is E 90 2 laws_heldIntS_ac [(4, none)]
theorem laws_heldIntS_E {E : Env} (h : G_laws_heldIntS E) (a0 a1 : U) : E 90 [a0, a1] =
 laws_heldIntS_l0 E a0 a1 (.int .i64 0) := (h.is _ rfl).trans ((runQ_V rfl).trans (by kernel_rfl))
end Go.Proofs.Ytfdcdbkblkehcaa.Am
namespace Go.Proofs.Ytfdcdbkblkehcaa.Am
open Go
set_option linter.unusedVariables false
set_option maxRecDepth 100000
def laws_toIntS_b0 : AC :=
 (.seq (.seq (.region 0 [⟨some 8, .mv (.t 4), none⟩,
  ⟨some 9, .mv (.t 0), none⟩,
  ⟨some 10, .len false (.t 9), none⟩,
  ⟨some 11, .bin .lss (.t 8) (.t 10), none⟩])
 (.cond (.t 11) .skip (.exit 0)))
 (.seq (.block 1 (.region 0 [⟨some 14, .mv (.t 3), none⟩,
  ⟨some 15, .mv (.t 4), none⟩,
  ⟨some 16, .mv (.t 0), none⟩,
  ⟨some 17, .mv (.t 4), none⟩,
  ⟨some 18, .iaddr 1 (.t 16) (.t 17), none⟩,
  ⟨some 19, .load false 1 (.t 18), none⟩,
  ⟨some 20, .iaddr 1 (.t 14) (.t 15), none⟩,
  ⟨none, .store 1 (.t 20) (.t 19), none⟩]))
 (.region 0 [⟨some 12, .mv (.t 4), none⟩,
  ⟨some 13, .bin .add (.t 12) (.c (.int .i64 1)), none⟩,
  ⟨some 4, .mv (.t 13), none⟩])))
def laws_toIntS_r0 : AC :=
 (.seq (.region 0 [⟨some 21, .mv (.t 3), none⟩,
  ⟨some 2, .mv (.t 21), none⟩])
 .ret)
def laws_toIntS_ac : AC :=
 (.seq (.region 0 [⟨some 2, .mv (.c (.nsl 1)), none⟩])
 (.seq (.region 0 [⟨some 5, .mv (.t 0), none⟩,
  ⟨some 6, .len false (.t 5), none⟩,
  ⟨some 7, .mkslice 7 1 8 (.int .i64 0) (.t 6) (.t 6), none⟩,
  ⟨some 3, .mv (.t 7), none⟩])
 (.seq (.seq (.region 0 [⟨some 4, .mv (.c (.int .i64 0)), none⟩])
 (.block 0 (.loop ⟨[0, 4], [(3, 1, false)], []⟩ laws_toIntS_b0)))
 laws_toIntS_r0)))
noncomputable def laws_toIntS_l0 (E : Env) (x0 : U) (x4 : U) (c3 : List U) : Option U := loopK (roundOf E ⟨[0, 4], [(3, 1, false)], []⟩ laws_toIntS_b0 (blockK 0 (seqK (fun s => exec E laws_toIntS_r0 s (finish [(2, none)])) (finish [(2, none)])))) ([.val x0, .val x4], [.vir (.asl 1 c3)])
theorem laws_toIntS_l0_eq (E : Env) (x0 : U) (x4 : U) (c3 : List U) : laws_toIntS_l0 E x0 x4 c3 =
 (U.lenOf false x0).bind fun n2 => (U.bin .lss x4 (.int .i64 (n2 : Int))).bind fun t3 => U.asBool t3
 (U.asInt x4 fun n4 => U.elemAt 1 x0 n4 fun e5 => U.asVar false 1 e5 fun e6 => U.asInt x4 fun n7 => if 1 = 1 ∧ 0 ≤ n7 ∧ n7 < ((c3).length : Int) then if storable (.val e6) = true ∧ e6.size = 1 then (c3[(n7 : Int).toNat]?).bind fun e8 => if e8.size = 1 then (U.bin .add x4 (.int .i64 1)).bind fun t9 => laws_toIntS_l0 E x0 t9 (c3.set (n7 : Int).toNat e6) else none else none else none)
 (some (.sl 1 c3)) :=
 (loop_eq E _ _ _ _).trans (by kernel_rfl)
structure G_laws_toIntS (E : Env) : Prop where
  is : Is E 58 1 laws_toIntS_ac [(2, none)]
theorem laws_toIntS_E {E : Env} (h : G_laws_toIntS E) (a0 : U) : E 58 [a0] =
 (U.lenOf false a0).bind fun n1 => if 0 ≤ (n1 : Int) ∧ (n1 : Int) ≤ (n1 : Int) ∧ (n1 : Int) * 8 ≤ 140737488355328 ∧ ((.int .i64 0) : U).size = 1 then laws_toIntS_l0 E a0 (.int .i64 0) (List.replicate ((n1 : Int) : Int).toNat (.int .i64 0)) else none := (h.is _ rfl).trans ((runQ_V rfl).trans (by kernel_rfl))
end Go.Proofs.Ytfdcdbkblkehcaa.Am
namespace Go.Proofs.Ytfdcdbkblkehcaa.Am
open Go
set_option linter.unusedVariables false
set_option maxRecDepth 100000
def spec_l1In_ac : AC :=
 (.seq (.region 0 [⟨some 6, .mv (.c (.bool false)), none⟩])
 (.seq (.region 0 [⟨some 7, .mv (.t 0), none⟩,
  ⟨some 8, .mv (.t 1), none⟩,
  ⟨some 9, .bin .geq (.t 7) (.t 8), none⟩,
  ⟨some 10, .mv (.t 9), none⟩,
  ⟨some 11, .mv (.t 0), some (10, true)⟩,
  ⟨some 12, .mv (.t 2), some (10, true)⟩,
  ⟨some 13, .bin .leq (.t 11) (.t 12), some (10, true)⟩,
  ⟨some 14, .pick (.t 10) (.t 13) (.c (.bool false)), none⟩,
  ⟨some 6, .mv (.t 14), none⟩])
 .ret))
structure G_spec_l1In (E : Env) : Prop where
  is : Is E 6 3 spec_l1In_ac [(6, none)]
theorem spec_l1In_E {E : Env} (h : G_spec_l1In E) (a0 a1 a2 : U) : E 6 [a0, a1, a2] =
 (U.bin .geq a0 a1).bind fun t1 => U.asBool t1
 ((U.bin .leq a0 a2).bind fun t2 => some t2)
 (some (.bool false)) := (h.is _ rfl).trans ((runQ_V rfl).trans (by kernel_rfl))
end Go.Proofs.Ytfdcdbkblkehcaa.Am
namespace Go.Proofs.Ytfdcdbkblkehcaa.Am
open Go
set_option linter.unusedVariables false
set_option maxRecDepth 100000
def spec_l5Before_ac : AC :=
 (.seq (.region 0 [⟨some 2, .box false 2 (.t 0), none⟩,
  ⟨some 3, .box false 3 (.t 1), none⟩,
  ⟨some 4, .mv (.c (.bool false)), none⟩])
 (.seq (.region 0 [⟨some 5, .faddr 0 0 (.t 2), none⟩,
  ⟨some 6, .load false 1 (.t 5), none⟩,
  ⟨some 7, .faddr 0 0 (.t 3), none⟩,
  ⟨some 8, .load false 1 (.t 7), none⟩,
  ⟨some 9, .bin .lss (.t 6) (.t 8), none⟩,
  ⟨some 10, .mv (.t 9), none⟩,
  ⟨some 11, .faddr 0 0 (.t 2), some (10, false)⟩,
  ⟨some 12, .load false 1 (.t 11), some (10, false)⟩,
  ⟨some 13, .faddr 0 0 (.t 3), some (10, false)⟩,
  ⟨some 14, .load false 1 (.t 13), some (10, false)⟩,
  ⟨some 15, .bin .eql (.t 12) (.t 14), some (10, false)⟩,
  ⟨some 16, .mv (.t 15), some (10, false)⟩,
  ⟨some 17, .faddr 1 1 (.t 2), some (16, true)⟩,
  ⟨some 18, .load false 1 (.t 17), some (16, true)⟩,
  ⟨some 19, .faddr 1 1 (.t 3), some (16, true)⟩,
  ⟨some 20, .load false 1 (.t 19), some (16, true)⟩,
  ⟨some 21, .bin .lss (.t 18) (.t 20), some (16, true)⟩,
  ⟨some 22, .pick (.t 16) (.t 21) (.c (.bool false)), some (10, false)⟩,
  ⟨some 23, .pick (.t 10) (.c (.bool true)) (.t 22), none⟩,
  ⟨some 4, .mv (.t 23), none⟩])
 .ret))
structure G_spec_l5Before (E : Env) : Prop where
  is : Is E 71 2 spec_l5Before_ac [(4, none)]
theorem spec_l5Before_E {E : Env} (h : G_spec_l5Before E) (a0 a1 : U) : E 71 [a0, a1] =
 U.noTup a0 fun x1 => U.noTup a1 fun x2 => U.asAgg x1 fun us3 => if 0 = sizes (us3.take 0) then (us3[0]?).bind fun e4 => U.asVar false 1 e4 fun e5 => U.asAgg x2 fun us6 => if 0 = sizes (us6.take 0) then (us6[0]?).bind fun e7 => U.asVar false 1 e7 fun e8 => (U.bin .lss e5 e8).bind fun t9 => U.asBool t9
 (some (.bool true))
 (U.asAgg x1 fun us10 => if 0 = sizes (us10.take 0) then (us10[0]?).bind fun e11 => U.asVar false 1 e11 fun e12 => U.asAgg x2 fun us13 => if 0 = sizes (us13.take 0) then (us13[0]?).bind fun e14 => U.asVar false 1 e14 fun e15 => (U.bin .eql e12 e15).bind fun t16 => U.asBool t16
 (U.asAgg x1 fun us17 => if 1 = sizes (us17.take 1) then (us17[1]?).bind fun e18 => U.asVar false 1 e18 fun e19 => U.asAgg x2 fun us20 => if 1 = sizes (us20.take 1) then (us20[1]?).bind fun e21 => U.asVar false 1 e21 fun e22 => (U.bin .lss e19 e22).bind fun t23 => some t23 else none else none)
 (some (.bool false)) else none else none) else none else none := (h.is _ rfl).trans ((runQ_V rfl).trans (by kernel_rfl))
end Go.Proofs.Ytfdcdbkblkehcaa.Am
namespace Go.Proofs.Ytfdcdbkblkehcaa.Am
open Go
set_option linter.unusedVariables false
set_option maxRecDepth 100000
def spec_IsValidTransaction_b1 : AC :=
 (.seq (.seq (.region 0 [⟨some 7, .mv (.t 3), none⟩,
  ⟨some 8, .faddr 7 7 (.t 1), none⟩,
  ⟨some 9, .load false 1 (.t 8), none⟩,
  ⟨some 10, .len false (.t 9), none⟩,
  ⟨some 11, .bin .lss (.t 7) (.t 10), none⟩])
 (.cond (.t 11) .skip (.exit 0)))
 (.seq (.block 1 (.seq (.region 0 [⟨some 14, .faddr 7 7 (.t 1), none⟩,
  ⟨some 15, .load false 1 (.t 14), none⟩,
  ⟨some 16, .mv (.t 3), none⟩,
  ⟨some 17, .iaddr 2 (.t 15) (.t 16), none⟩,
  ⟨some 18, .load true 2 (.t 17), none⟩,
  ⟨some 4, .alloc 4 (.agg [(.int .i64 0), (.int .i64 0)]), none⟩,
  ⟨none, .store 2 (.t 4) (.t 18), none⟩])
 (.seq (.region 25 [⟨some 19, .faddr 0 0 (.t 4), none⟩,
  ⟨some 20, .load false 1 (.t 19), none⟩,
  ⟨some 21, .call false 6 [(.t 20), (.c (.int .i64 0)), (.c (.int .i64 5))], none⟩,
  ⟨some 22, .un .not (.t 21), none⟩,
  ⟨some 23, .mv (.t 22), none⟩,
  ⟨some 24, .faddr 1 1 (.t 4), some (23, false)⟩,
  ⟨some 25, .load false 1 (.t 24), some (23, false)⟩,
  ⟨some 26, .call false 6 [(.t 25), (.c (.int .i64 0)), (.c (.int .i64 999))], some (23, false)⟩,
  ⟨some 27, .un .not (.t 26), some (23, false)⟩,
  ⟨some 28, .pick (.t 23) (.c (.bool true)) (.t 27), none⟩,
  ⟨some 29, .mv (.t 28), none⟩,
  ⟨some 30, .mv (.t 3), some (29, false)⟩,
  ⟨some 31, .bin .gtr (.t 30) (.c (.int .i64 0)), some (29, false)⟩,
  ⟨some 32, .mv (.t 31), some (29, false)⟩,
  ⟨some 33, .faddr 7 7 (.t 1), some (32, true)⟩,
  ⟨some 34, .load false 1 (.t 33), some (32, true)⟩,
  ⟨some 35, .mv (.t 3), some (32, true)⟩,
  ⟨some 36, .bin .sub (.t 35) (.c (.int .i64 1)), some (32, true)⟩,
  ⟨some 37, .iaddr 2 (.t 34) (.t 36), some (32, true)⟩,
  ⟨some 38, .load true 2 (.t 37), some (32, true)⟩,
  ⟨some 39, .load true 2 (.t 4), some (32, true)⟩,
  ⟨some 40, .call false 71 [(.t 38), (.t 39)], some (32, true)⟩,
  ⟨some 41, .un .not (.t 40), some (32, true)⟩,
  ⟨some 42, .pick (.t 32) (.t 41) (.c (.bool false)), some (29, false)⟩,
  ⟨some 43, .pick (.t 29) (.c (.bool true)) (.t 42), none⟩])
 (.cond (.t 43) (.seq (.region 0 [⟨some 2, .mv (.c (.bool false)), none⟩])
 .ret) .skip))))
 (.region 0 [⟨some 12, .mv (.t 3), none⟩,
  ⟨some 13, .bin .add (.t 12) (.c (.int .i64 1)), none⟩,
  ⟨some 3, .mv (.t 13), none⟩])))
def spec_IsValidTransaction_b0 : AC :=
 (.seq (.seq (.region 0 [⟨some 44, .mv (.t 5), none⟩,
  ⟨some 45, .faddr 8 8 (.t 1), none⟩,
  ⟨some 46, .load false 1 (.t 45), none⟩,
  ⟨some 47, .len false (.t 46), none⟩,
  ⟨some 48, .bin .lss (.t 44) (.t 47), none⟩])
 (.cond (.t 48) .skip (.exit 2)))
 (.seq (.block 3 (.seq (.region 0 [⟨some 51, .faddr 8 8 (.t 1), none⟩,
  ⟨some 52, .load false 1 (.t 51), none⟩,
  ⟨some 53, .mv (.t 5), none⟩,
  ⟨some 54, .iaddr 2 (.t 52) (.t 53), none⟩,
  ⟨some 55, .load true 2 (.t 54), none⟩,
  ⟨some 6, .alloc 6 (.agg [(.int .i64 0), (.int .i64 0)]), none⟩,
  ⟨none, .store 2 (.t 6) (.t 55), none⟩])
 (.seq (.region 26 [⟨some 56, .faddr 0 0 (.t 6), none⟩,
  ⟨some 57, .load false 1 (.t 56), none⟩,
  ⟨some 58, .call false 6 [(.t 57), (.c (.int .i64 0)), (.c (.int .i64 5))], none⟩,
  ⟨some 59, .un .not (.t 58), none⟩,
  ⟨some 60, .mv (.t 59), none⟩,
  ⟨some 61, .faddr 1 1 (.t 6), some (60, false)⟩,
  ⟨some 62, .load false 1 (.t 61), some (60, false)⟩,
  ⟨some 63, .call false 6 [(.t 62), (.c (.int .i64 (-1))), (.c (.int .i64 99))], some (60, false)⟩,
  ⟨some 64, .un .not (.t 63), some (60, false)⟩,
  ⟨some 65, .pick (.t 60) (.c (.bool true)) (.t 64), none⟩,
  ⟨some 66, .mv (.t 65), none⟩,
  ⟨some 67, .mv (.t 5), some (66, false)⟩,
  ⟨some 68, .bin .gtr (.t 67) (.c (.int .i64 0)), some (66, false)⟩,
  ⟨some 69, .mv (.t 68), some (66, false)⟩,
  ⟨some 70, .faddr 8 8 (.t 1), some (69, true)⟩,
  ⟨some 71, .load false 1 (.t 70), some (69, true)⟩,
  ⟨some 72, .mv (.t 5), some (69, true)⟩,
  ⟨some 73, .bin .sub (.t 72) (.c (.int .i64 1)), some (69, true)⟩,
  ⟨some 74, .iaddr 2 (.t 71) (.t 73), some (69, true)⟩,
  ⟨some 75, .faddr 0 0 (.t 74), some (69, true)⟩,
  ⟨some 76, .load false 1 (.t 75), some (69, true)⟩,
  ⟨some 77, .faddr 0 0 (.t 6), some (69, true)⟩,
  ⟨some 78, .load false 1 (.t 77), some (69, true)⟩,
  ⟨some 79, .bin .geq (.t 76) (.t 78), some (69, true)⟩,
  ⟨some 80, .pick (.t 69) (.t 79) (.c (.bool false)), some (66, false)⟩,
  ⟨some 81, .pick (.t 66) (.c (.bool true)) (.t 80), none⟩])
 (.cond (.t 81) (.seq (.region 0 [⟨some 2, .mv (.c (.bool false)), none⟩])
 .ret) .skip))))
 (.region 0 [⟨some 49, .mv (.t 5), none⟩,
  ⟨some 50, .bin .add (.t 49) (.c (.int .i64 1)), none⟩,
  ⟨some 5, .mv (.t 50), none⟩])))
def spec_IsValidTransaction_r0 : AC :=
 (.seq (.seq (.region 0 [⟨some 82, .faddr 0 0 (.t 1), none⟩,
  ⟨some 83, .load false 1 (.t 82), none⟩,
  ⟨some 84, .call false 6 [(.t 83), (.c (.int .i64 1)), (.c (.int .i64 9))], none⟩,
  ⟨some 85, .un .not (.t 84), none⟩,
  ⟨some 86, .mv (.t 85), none⟩,
  ⟨some 87, .faddr 1 1 (.t 1), some (86, false)⟩,
  ⟨some 88, .load false 1 (.t 87), some (86, false)⟩,
  ⟨some 89, .call false 6 [(.t 88), (.c (.int .i64 1)), (.c (.int .i64 4))], some (86, false)⟩,
  ⟨some 90, .un .not (.t 89), some (86, false)⟩,
  ⟨some 91, .pick (.t 86) (.c (.bool true)) (.t 90), none⟩,
  ⟨some 92, .mv (.t 91), none⟩,
  ⟨some 93, .faddr 3 3 (.t 1), some (92, false)⟩,
  ⟨some 94, .load false 1 (.t 93), some (92, false)⟩,
  ⟨some 95, .call false 6 [(.t 94), (.c (.int .i64 0)), (.c (.int .i64 999))], some (92, false)⟩,
  ⟨some 96, .un .not (.t 95), some (92, false)⟩,
  ⟨some 97, .pick (.t 92) (.c (.bool true)) (.t 96), none⟩])
 (.cond (.t 97) (.seq (.region 0 [⟨some 2, .mv (.c (.bool false)), none⟩])
 .ret) .skip))
 (.seq (.region 0 [⟨some 98, .faddr 2 2 (.t 1), none⟩,
  ⟨some 99, .load false 1 (.t 98), none⟩,
  ⟨some 100, .call false 6 [(.t 99), (.c (.int .i64 1)), (.c (.int .i64 3))], none⟩,
  ⟨some 101, .mv (.t 100), none⟩,
  ⟨some 102, .faddr 4 4 (.t 1), some (101, true)⟩,
  ⟨some 103, .load false 1 (.t 102), some (101, true)⟩,
  ⟨some 104, .call false 6 [(.t 103), (.c (.int .i64 0)), (.c (.int .i64 999))], some (101, true)⟩,
  ⟨some 105, .pick (.t 101) (.t 104) (.c (.bool false)), none⟩,
  ⟨some 106, .mv (.t 105), none⟩,
  ⟨some 107, .faddr 5 5 (.t 1), some (106, true)⟩,
  ⟨some 108, .load false 1 (.t 107), some (106, true)⟩,
  ⟨some 109, .call false 6 [(.t 108), (.c (.int .i64 1)), (.c (.int .i64 1000))], some (106, true)⟩,
  ⟨some 110, .pick (.t 106) (.t 109) (.c (.bool false)), none⟩,
  ⟨some 111, .mv (.t 110), none⟩,
  ⟨some 112, .faddr 2 2 (.t 1), some (111, true)⟩,
  ⟨some 113, .load false 1 (.t 112), some (111, true)⟩,
  ⟨some 114, .bin .eql (.t 113) (.c (.int .i64 2)), some (111, true)⟩,
  ⟨some 115, .faddr 6 6 (.t 1), some (111, true)⟩,
  ⟨some 116, .load false 1 (.t 115), some (111, true)⟩,
  ⟨some 117, .bin .gtr (.t 116) (.c (.int .i64 0)), some (111, true)⟩,
  ⟨some 118, .eqv false 0 (.t 114) (.t 117), some (111, true)⟩,
  ⟨some 119, .pick (.t 111) (.t 118) (.c (.bool false)), none⟩,
  ⟨some 120, .mv (.t 119), none⟩,
  ⟨some 121, .faddr 6 6 (.t 1), some (120, true)⟩,
  ⟨some 122, .load false 1 (.t 121), some (120, true)⟩,
  ⟨some 123, .call false 6 [(.t 122), (.c (.int .i64 0)), (.c (.int .i64 999))], some (120, true)⟩,
  ⟨some 124, .pick (.t 120) (.t 123) (.c (.bool false)), none⟩,
  ⟨some 125, .mv (.t 124), none⟩,
  ⟨some 126, .faddr 7 7 (.t 1), some (125, true)⟩,
  ⟨some 127, .load false 1 (.t 126), some (125, true)⟩,
  ⟨some 128, .len false (.t 127), some (125, true)⟩,
  ⟨some 129, .bin .leq (.t 128) (.c (.int .i64 60)), some (125, true)⟩,
  ⟨some 130, .pick (.t 125) (.t 129) (.c (.bool false)), none⟩,
  ⟨some 2, .mv (.t 130), none⟩])
 .ret))
def spec_IsValidTransaction_r1 : AC :=
 (.seq (.seq (.region 0 [⟨some 5, .mv (.c (.int .i64 0)), none⟩])
 (.block 2 (.loop ⟨[1, 5], [], [(1, false)]⟩ spec_IsValidTransaction_b0)))
 spec_IsValidTransaction_r0)
def spec_IsValidTransaction_ac : AC :=
 (.seq (.region 0 [⟨some 1, .box false 1 (.t 0), none⟩,
  ⟨some 2, .mv (.c (.bool false)), none⟩])
 (.seq (.seq (.region 0 [⟨some 3, .mv (.c (.int .i64 0)), none⟩])
 (.block 0 (.loop ⟨[1, 3], [], [(1, false)]⟩ spec_IsValidTransaction_b1)))
 spec_IsValidTransaction_r1))
noncomputable def spec_IsValidTransaction_l1 (E : Env) (x3 : U) (b1 : U) : Option U := loopK (roundOf E ⟨[1, 3], [], [(1, false)]⟩ spec_IsValidTransaction_b1 (blockK 0 (seqK (fun s => exec E spec_IsValidTransaction_r1 s (finish [(2, none)])) (finish [(2, none)])))) ([.ptr 1 [], .val x3], [.box (.val b1)])
noncomputable def spec_IsValidTransaction_l0 (E : Env) (x5 : U) (b1 : U) : Option U := loopK (roundOf E ⟨[1, 5], [], [(1, false)]⟩ spec_IsValidTransaction_b0 (blockK 2 (seqK (fun s => exec E spec_IsValidTransaction_r0 s (finish [(2, none)])) (finish [(2, none)])))) ([.ptr 1 [], .val x5], [.box (.val b1)])
theorem spec_IsValidTransaction_l1_eq (E : Env) (x3 : U) (b1 : U) : spec_IsValidTransaction_l1 E x3 b1 =
 U.asAgg b1 fun us2 => if 7 = sizes (us2.take 7) then (us2[7]?).bind fun e3 => U.asVar false 1 e3 fun e4 => (U.lenOf false e4).bind fun n5 => (U.bin .lss x3 (.int .i64 (n5 : Int))).bind fun t6 => U.asBool t6
 (U.asAgg b1 fun us7 => if 7 = sizes (us7.take 7) then (us7[7]?).bind fun e8 => U.asVar false 1 e8 fun e9 => U.asInt x3 fun n10 => U.elemAt 2 e9 n10 fun e11 => U.asVar true 2 e11 fun e12 => if storable (.val e12) = true ∧ e12.size = 2 then U.asAgg e12 fun us13 => if 0 = sizes (us13.take 0) then (us13[0]?).bind fun e14 => U.asVar false 1 e14 fun e15 => (E 6 [e15, (.int .i64 0), (.int .i64 5)]).bind fun t16 => (U.un .not t16).bind fun t17 => U.asBool t17
 (some (.bool false))
 (U.asAgg e12 fun us18 => if 1 = sizes (us18.take 1) then (us18[1]?).bind fun e19 => U.asVar false 1 e19 fun e20 => (E 6 [e20, (.int .i64 0), (.int .i64 999)]).bind fun t21 => (U.un .not t21).bind fun t22 => U.asBool t22
 (some (.bool false))
 ((U.bin .gtr x3 (.int .i64 0)).bind fun t23 => U.asBool t23
 (U.asAgg b1 fun us24 => if 7 = sizes (us24.take 7) then (us24[7]?).bind fun e25 => U.asVar false 1 e25 fun e26 => (U.bin .sub x3 (.int .i64 1)).bind fun t27 => U.asInt t27 fun n28 => U.elemAt 2 e26 n28 fun e29 => U.asVar true 2 e29 fun e30 => U.asVar true 2 e12 fun e31 => (E 71 [e30, e31]).bind fun t32 => (U.un .not t32).bind fun t33 => U.asBool t33
 (some (.bool false))
 ((U.bin .add x3 (.int .i64 1)).bind fun t34 => spec_IsValidTransaction_l1 E t34 b1) else none)
 ((U.bin .add x3 (.int .i64 1)).bind fun t35 => spec_IsValidTransaction_l1 E t35 b1)) else none) else none else none else none)
 (spec_IsValidTransaction_l0 E (.int .i64 0) b1) else none :=
 (loop_eq E _ _ _ _).trans (by kernel_rfl)
theorem spec_IsValidTransaction_l0_eq (E : Env) (x5 : U) (b1 : U) : spec_IsValidTransaction_l0 E x5 b1 =
 U.asAgg b1 fun us36 => if 8 = sizes (us36.take 8) then (us36[8]?).bind fun e37 => U.asVar false 1 e37 fun e38 => (U.lenOf false e38).bind fun n39 => (U.bin .lss x5 (.int .i64 (n39 : Int))).bind fun t40 => U.asBool t40
 (U.asAgg b1 fun us41 => if 8 = sizes (us41.take 8) then (us41[8]?).bind fun e42 => U.asVar false 1 e42 fun e43 => U.asInt x5 fun n44 => U.elemAt 2 e43 n44 fun e45 => U.asVar true 2 e45 fun e46 => if storable (.val e46) = true ∧ e46.size = 2 then U.asAgg e46 fun us47 => if 0 = sizes (us47.take 0) then (us47[0]?).bind fun e48 => U.asVar false 1 e48 fun e49 => (E 6 [e49, (.int .i64 0), (.int .i64 5)]).bind fun t50 => (U.un .not t50).bind fun t51 => U.asBool t51
 (some (.bool false))
 (U.asAgg e46 fun us52 => if 1 = sizes (us52.take 1) then (us52[1]?).bind fun e53 => U.asVar false 1 e53 fun e54 => (E 6 [e54, (.int .i64 (-1)), (.int .i64 99)]).bind fun t55 => (U.un .not t55).bind fun t56 => U.asBool t56
 (some (.bool false))
 ((U.bin .gtr x5 (.int .i64 0)).bind fun t57 => U.asBool t57
 (U.asAgg b1 fun us58 => if 8 = sizes (us58.take 8) then (us58[8]?).bind fun e59 => U.asVar false 1 e59 fun e60 => (U.bin .sub x5 (.int .i64 1)).bind fun t61 => U.asInt t61 fun n62 => U.elemAt 2 e60 n62 fun e63 => U.fieldAt 0 0 e63 fun f64 => U.asVar false 1 f64 fun e65 => U.asAgg e46 fun us66 => if 0 = sizes (us66.take 0) then (us66[0]?).bind fun e67 => U.asVar false 1 e67 fun e68 => (U.bin .geq e65 e68).bind fun t69 => U.asBool t69
 (some (.bool false))
 ((U.bin .add x5 (.int .i64 1)).bind fun t70 => spec_IsValidTransaction_l0 E t70 b1) else none else none)
 ((U.bin .add x5 (.int .i64 1)).bind fun t71 => spec_IsValidTransaction_l0 E t71 b1)) else none) else none else none else none)
 (U.asAgg b1 fun us72 => if 0 = sizes (us72.take 0) then (us72[0]?).bind fun e73 => U.asVar false 1 e73 fun e74 => (E 6 [e74, (.int .i64 1), (.int .i64 9)]).bind fun t75 => (U.un .not t75).bind fun t76 => U.asBool t76
 (some (.bool false))
 (U.asAgg b1 fun us77 => if 1 = sizes (us77.take 1) then (us77[1]?).bind fun e78 => U.asVar false 1 e78 fun e79 => (E 6 [e79, (.int .i64 1), (.int .i64 4)]).bind fun t80 => (U.un .not t80).bind fun t81 => U.asBool t81
 (some (.bool false))
 (U.asAgg b1 fun us82 => if 3 = sizes (us82.take 3) then (us82[3]?).bind fun e83 => U.asVar false 1 e83 fun e84 => (E 6 [e84, (.int .i64 0), (.int .i64 999)]).bind fun t85 => (U.un .not t85).bind fun t86 => U.asBool t86
 (some (.bool false))
 (U.asAgg b1 fun us87 => if 2 = sizes (us87.take 2) then (us87[2]?).bind fun e88 => U.asVar false 1 e88 fun e89 => (E 6 [e89, (.int .i64 1), (.int .i64 3)]).bind fun t90 => U.asBool t90
 (U.asAgg b1 fun us91 => if 4 = sizes (us91.take 4) then (us91[4]?).bind fun e92 => U.asVar false 1 e92 fun e93 => (E 6 [e93, (.int .i64 0), (.int .i64 999)]).bind fun t94 => U.asBool t94
 (U.asAgg b1 fun us95 => if 5 = sizes (us95.take 5) then (us95[5]?).bind fun e96 => U.asVar false 1 e96 fun e97 => (E 6 [e97, (.int .i64 1), (.int .i64 1000)]).bind fun t98 => U.asBool t98
 (U.asAgg b1 fun us99 => if 2 = sizes (us99.take 2) then (us99[2]?).bind fun e100 => U.asVar false 1 e100 fun e101 => (U.bin .eql e101 (.int .i64 2)).bind fun t102 => U.asAgg b1 fun us103 => if 6 = sizes (us103.take 6) then (us103[6]?).bind fun e104 => U.asVar false 1 e104 fun e105 => (U.bin .gtr e105 (.int .i64 0)).bind fun t106 => (U.eqv 0 t102 t106).bind fun q107 => U.asBool (.bool q107)
 (U.asAgg b1 fun us108 => if 6 = sizes (us108.take 6) then (us108[6]?).bind fun e109 => U.asVar false 1 e109 fun e110 => (E 6 [e110, (.int .i64 0), (.int .i64 999)]).bind fun t111 => U.asBool t111
 (U.asAgg b1 fun us112 => if 7 = sizes (us112.take 7) then (us112[7]?).bind fun e113 => U.asVar false 1 e113 fun e114 => (U.lenOf false e114).bind fun n115 => (U.bin .leq (.int .i64 (n115 : Int)) (.int .i64 60)).bind fun t116 => some t116 else none)
 (some (.bool false)) else none)
 (some (.bool false)) else none else none)
 (some (.bool false)) else none)
 (some (.bool false)) else none)
 (some (.bool false)) else none) else none) else none) else none) else none :=
 (loop_eq E _ _ _ _).trans (by kernel_rfl)
structure G_spec_IsValidTransaction (E : Env) : Prop where
  is : Is E 70 1 spec_IsValidTransaction_ac [(2, none)]
  c_spec_l1In : G_spec_l1In E
  c_spec_l5Before : G_spec_l5Before E
theorem spec_IsValidTransaction_E {E : Env} (h : G_spec_IsValidTransaction E) (a0 : U) : E 70 [a0] =
 U.noTup a0 fun x1 => spec_IsValidTransaction_l1 E (.int .i64 0) x1 := (h.is _ rfl).trans ((runQ_V rfl).trans (by kernel_rfl))
end Go.Proofs.Ytfdcdbkblkehcaa.Am
namespace Go.Proofs.Ytfdcdbkblkehcaa.Am
open Go
set_option linter.unusedVariables false
set_option maxRecDepth 100000
def spec_l18Tx_ac : AC :=
 (.seq (.region 0 [⟨some 1, .box false 1 (.t 0), none⟩,
  ⟨some 2, .alloc 2 (.agg [(.int .i64 0), (.int .i64 0), (.int .i64 0), (.int .i64 0), (.int .i64 0), (.int .i64 0), (.int .i64 0), (.nsl 2), (.nsl 2)]), none⟩])
 (.seq (.region 0 [⟨some 3, .faddr 0 0 (.t 1), none⟩,
  ⟨some 4, .load false 1 (.t 3), none⟩,
  ⟨some 5, .faddr 1 1 (.t 1), none⟩,
  ⟨some 6, .load false 1 (.t 5), none⟩,
  ⟨some 7, .faddr 2 2 (.t 1), none⟩,
  ⟨some 8, .load false 1 (.t 7), none⟩,
  ⟨some 9, .faddr 3 3 (.t 1), none⟩,
  ⟨some 10, .load false 1 (.t 9), none⟩,
  ⟨some 11, .build [(.int .i64 0), (.int .i64 0), (.int .i64 0), (.int .i64 0), (.int .i64 0), (.int .i64 0), (.int .i64 0), (.nsl 2), (.nsl 2)] [(0, (.t 4)), (1, (.c (.int .i64 1))), (2, (.c (.int .i64 2))), (6, (.t 6)), (5, (.c (.int .i64 1000))), (7, (.t 8)), (8, (.t 10))], none⟩,
  ⟨none, .store 9 (.t 2) (.t 11), none⟩])
 .ret))
structure G_spec_l18Tx (E : Env) : Prop where
  is : Is E 245 1 spec_l18Tx_ac [(2, some (true, 9))]
theorem spec_l18Tx_E {E : Env} (h : G_spec_l18Tx E) (a0 : U) : E 245 [a0] =
 U.noTup a0 fun x1 => U.asAgg x1 fun us2 => if 0 = sizes (us2.take 0) then (us2[0]?).bind fun e3 => U.asVar false 1 e3 fun e4 => U.asAgg x1 fun us5 => if 1 = sizes (us5.take 1) then (us5[1]?).bind fun e6 => U.asVar false 1 e6 fun e7 => U.asAgg x1 fun us8 => if 2 = sizes (us8.take 2) then (us8[2]?).bind fun e9 => U.asVar false 1 e9 fun e10 => U.asAgg x1 fun us11 => if 3 = sizes (us11.take 3) then (us11[3]?).bind fun e12 => U.asVar false 1 e12 fun e13 => if partable (.val e4) = true ∧ e4.size = 1 then if partable (.val e7) = true ∧ e7.size = 1 then if partable (.val e10) = true ∧ e10.size = 1 then if partable (.val e13) = true ∧ e13.size = 1 then if storable (.val (.agg [e4, (.int .i64 1), (.int .i64 2), (.int .i64 0), (.int .i64 0), (.int .i64 1000), e7, e10, e13])) = true ∧ ((.agg [e4, (.int .i64 1), (.int .i64 2), (.int .i64 0), (.int .i64 0), (.int .i64 1000), e7, e10, e13]) : U).size = 9 then U.asVar true 9 (.agg [e4, (.int .i64 1), (.int .i64 2), (.int .i64 0), (.int .i64 0), (.int .i64 1000), e7, e10, e13]) fun e14 => some e14 else none else none else none else none else none else none else none else none else none := (h.is _ rfl).trans ((runQ_V rfl).trans (by kernel_rfl))
end Go.Proofs.Ytfdcdbkblkehcaa.Am
namespace Go.Proofs.Ytfdcdbkblkehcaa.Am
open Go
set_option linter.unusedVariables false
set_option maxRecDepth 100000
def spec_FindEntry_b0 : AC :=
 (.seq (.seq (.region 0 [⟨some 6, .mv (.t 5), none⟩,
  ⟨some 7, .mv (.t 0), none⟩,
  ⟨some 8, .len false (.t 7), none⟩,
  ⟨some 9, .bin .lss (.t 6) (.t 8), none⟩])
 (.cond (.t 9) .skip (.exit 0)))
 (.seq (.block 1 (.seq (.region 0 [⟨some 12, .mv (.t 0), none⟩,
  ⟨some 13, .mv (.t 5), none⟩,
  ⟨some 14, .iaddr 4 (.t 12) (.t 13), none⟩,
  ⟨some 15, .faddr 0 0 (.t 14), none⟩,
  ⟨some 16, .load false 1 (.t 15), none⟩,
  ⟨some 17, .mv (.t 1), none⟩,
  ⟨some 18, .bin .eql (.t 16) (.t 17), none⟩])
 (.cond (.t 18) (.seq (.region 0 [⟨some 19, .mv (.t 5), none⟩,
  ⟨some 4, .mv (.t 19), none⟩])
 .ret) .skip)))
 (.region 0 [⟨some 10, .mv (.t 5), none⟩,
  ⟨some 11, .bin .add (.t 10) (.c (.int .i64 1)), none⟩,
  ⟨some 5, .mv (.t 11), none⟩])))
def spec_FindEntry_r0 : AC :=
 (.seq (.region 0 [⟨some 4, .mv (.c (.int .i64 (-1))), none⟩])
 .ret)
def spec_FindEntry_ac : AC :=
 (.seq (.region 0 [⟨some 4, .mv (.c (.int .i64 0)), none⟩])
 (.seq (.seq (.region 0 [⟨some 5, .mv (.c (.int .i64 0)), none⟩])
 (.block 0 (.loop ⟨[0, 1, 5], [], []⟩ spec_FindEntry_b0)))
 spec_FindEntry_r0))
noncomputable def spec_FindEntry_l0 (E : Env) (x0 : U) (x1 : U) (x5 : U) : Option U := loopK (roundOf E ⟨[0, 1, 5], [], []⟩ spec_FindEntry_b0 (blockK 0 (seqK (fun s => exec E spec_FindEntry_r0 s (finish [(4, none)])) (finish [(4, none)])))) ([.val x0, .val x1, .val x5], [])
theorem spec_FindEntry_l0_eq (E : Env) (x0 : U) (x1 : U) (x5 : U) : spec_FindEntry_l0 E x0 x1 x5 =
 (U.lenOf false x0).bind fun n1 => (U.bin .lss x5 (.int .i64 (n1 : Int))).bind fun t2 => U.asBool t2
 (U.asInt x5 fun n3 => U.elemAt 4 x0 n3 fun e4 => U.fieldAt 0 0 e4 fun f5 => U.asVar false 1 f5 fun e6 => (U.bin .eql e6 x1).bind fun t7 => U.asBool t7
 (some x5)
 ((U.bin .add x5 (.int .i64 1)).bind fun t8 => spec_FindEntry_l0 E x0 x1 t8))
 (some (.int .i64 (-1))) :=
 (loop_eq E _ _ _ _).trans (by kernel_rfl)
structure G_spec_FindEntry (E : Env) : Prop where
  is : Is E 241 2 spec_FindEntry_ac [(4, none)]
theorem spec_FindEntry_E {E : Env} (h : G_spec_FindEntry E) (a0 a1 : U) : E 241 [a0, a1] =
 spec_FindEntry_l0 E a0 a1 (.int .i64 0) := (h.is _ rfl).trans ((runQ_V rfl).trans (by kernel_rfl))
end Go.Proofs.Ytfdcdbkblkehcaa.Am
namespace Go.Proofs.Ytfdcdbkblkehcaa.Am
open Go
set_option linter.unusedVariables false
set_option maxRecDepth 100000
def spec_WriterOf_b1 : AC :=
 (.seq (.seq (.region 0 [⟨some 13, .mv (.t 6), none⟩,
  ⟨some 14, .mv (.t 0), none⟩,
  ⟨some 15, .mv (.t 5), none⟩,
  ⟨some 16, .iaddr 4 (.t 14) (.t 15), none⟩,
  ⟨some 17, .faddr 3 3 (.t 16), none⟩,
  ⟨some 18, .load false 1 (.t 17), none⟩,
  ⟨some 19, .len false (.t 18), none⟩,
  ⟨some 20, .bin .lss (.t 13) (.t 19), none⟩])
 (.cond (.t 20) .skip (.exit 2)))
 (.seq (.block 3 (.seq (.region 22 [⟨some 23, .mv (.t 0), none⟩,
  ⟨some 24, .mv (.t 5), none⟩,
  ⟨some 25, .iaddr 4 (.t 23) (.t 24), none⟩,
  ⟨some 26, .faddr 1 1 (.t 25), none⟩,
  ⟨some 27, .load false 1 (.t 26), none⟩,
  ⟨some 28, .faddr 1 1 (.t 3), none⟩,
  ⟨some 29, .load false 1 (.t 28), none⟩,
  ⟨some 30, .bin .eql (.t 27) (.t 29), none⟩,
  ⟨some 31, .mv (.t 30), none⟩,
  ⟨some 32, .mv (.t 0), some (31, true)⟩,
  ⟨some 33, .mv (.t 5), some (31, true)⟩,
  ⟨some 34, .iaddr 4 (.t 32) (.t 33), some (31, true)⟩,
  ⟨some 35, .faddr 3 3 (.t 34), some (31, true)⟩,
  ⟨some 36, .load false 1 (.t 35), some (31, true)⟩,
  ⟨some 37, .mv (.t 6), some (31, true)⟩,
  ⟨some 38, .iaddr 2 (.t 36) (.t 37), some (31, true)⟩,
  ⟨some 39, .faddr 0 0 (.t 38), some (31, true)⟩,
  ⟨some 40, .load false 1 (.t 39), some (31, true)⟩,
  ⟨some 41, .faddr 0 0 (.t 3), some (31, true)⟩,
  ⟨some 42, .load false 1 (.t 41), some (31, true)⟩,
  ⟨some 43, .bin .eql (.t 40) (.t 42), some (31, true)⟩,
  ⟨some 44, .pick (.t 31) (.t 43) (.c (.bool false)), none⟩])
 (.cond (.t 44) (.seq (.region 0 [⟨some 45, .mv (.t 0), none⟩,
  ⟨some 46, .mv (.t 5), none⟩,
  ⟨some 47, .iaddr 4 (.t 45) (.t 46), none⟩,
  ⟨some 48, .faddr 0 0 (.t 47), none⟩,
  ⟨some 49, .load false 1 (.t 48), none⟩,
  ⟨some 4, .mv (.t 49), none⟩])
 .ret) .skip)))
 (.region 0 [⟨some 21, .mv (.t 6), none⟩,
  ⟨some 22, .bin .add (.t 21) (.c (.int .i64 1)), none⟩,
  ⟨some 6, .mv (.t 22), none⟩])))
def spec_WriterOf_r0 : AC :=
 (.region 0 [⟨some 11, .mv (.t 5), none⟩,
  ⟨some 12, .bin .add (.t 11) (.c (.int .i64 1)), none⟩,
  ⟨some 5, .mv (.t 12), none⟩])
def spec_WriterOf_b0 : AC :=
 (.seq (.seq (.region 0 [⟨some 7, .mv (.t 5), none⟩,
  ⟨some 8, .mv (.t 0), none⟩,
  ⟨some 9, .len false (.t 8), none⟩,
  ⟨some 10, .bin .lss (.t 7) (.t 9), none⟩])
 (.cond (.t 10) .skip (.exit 0)))
 (.seq (.block 1 (.seq (.region 0 [⟨some 6, .mv (.c (.int .i64 0)), none⟩])
 (.block 2 (.loop ⟨[0, 3, 5, 6], [], [(3, false)]⟩ spec_WriterOf_b1))))
 spec_WriterOf_r0))
def spec_WriterOf_r1 : AC :=
 (.seq (.region 0 [⟨some 4, .mv (.c (.int .i64 0)), none⟩])
 .ret)
def spec_WriterOf_ac : AC :=
 (.seq (.region 0 [⟨some 3, .box false 3 (.t 1), none⟩,
  ⟨some 4, .mv (.c (.int .i64 0)), none⟩])
 (.seq (.seq (.region 0 [⟨some 5, .mv (.c (.int .i64 0)), none⟩])
 (.block 0 (.loop ⟨[0, 3, 5], [], [(3, false)]⟩ spec_WriterOf_b0)))
 spec_WriterOf_r1))
noncomputable def spec_WriterOf_l0 (E : Env) (x0 : U) (x5 : U) (b3 : U) : Option U := loopK (roundOf E ⟨[0, 3, 5], [], [(3, false)]⟩ spec_WriterOf_b0 (blockK 0 (seqK (fun s => exec E spec_WriterOf_r1 s (finish [(4, none)])) (finish [(4, none)])))) ([.val x0, .ptr 3 [], .val x5], [.box (.val b3)])
noncomputable def spec_WriterOf_l1 (E : Env) (x0 : U) (x5 : U) (x6 : U) (b3 : U) : Option U := loopK (roundOf E ⟨[0, 3, 5, 6], [], [(3, false)]⟩ spec_WriterOf_b1 (blockK 2 (blockK 1 (seqK (fun s => exec E spec_WriterOf_r0 s (roundK ⟨[0, 3, 5], [], [(3, false)]⟩ (loopK (roundOf E ⟨[0, 3, 5], [], [(3, false)]⟩ spec_WriterOf_b0 (blockK 0 (seqK (fun s => exec E spec_WriterOf_r1 s (finish [(4, none)])) (finish [(4, none)]))))) (blockK 0 (seqK (fun s => exec E spec_WriterOf_r1 s (finish [(4, none)])) (finish [(4, none)]))))) (roundK ⟨[0, 3, 5], [], [(3, false)]⟩ (loopK (roundOf E ⟨[0, 3, 5], [], [(3, false)]⟩ spec_WriterOf_b0 (blockK 0 (seqK (fun s => exec E spec_WriterOf_r1 s (finish [(4, none)])) (finish [(4, none)]))))) (blockK 0 (seqK (fun s => exec E spec_WriterOf_r1 s (finish [(4, none)])) (finish [(4, none)])))))))) ([.val x0, .ptr 3 [], .val x5, .val x6], [.box (.val b3)])
theorem spec_WriterOf_l0_eq (E : Env) (x0 : U) (x5 : U) (b3 : U) : spec_WriterOf_l0 E x0 x5 b3 =
 (U.lenOf false x0).bind fun n2 => (U.bin .lss x5 (.int .i64 (n2 : Int))).bind fun t3 => U.asBool t3
 (spec_WriterOf_l1 E x0 x5 (.int .i64 0) b3)
 (some (.int .i64 0)) :=
 (loop_eq E _ _ _ _).trans (by kernel_rfl)
theorem spec_WriterOf_l1_eq (E : Env) (x0 : U) (x5 : U) (x6 : U) (b3 : U) : spec_WriterOf_l1 E x0 x5 x6 b3 =
 U.asInt x5 fun n4 => U.elemAt 4 x0 n4 fun e5 => U.fieldAt 3 3 e5 fun f6 => U.asVar false 1 f6 fun e7 => (U.lenOf false e7).bind fun n8 => (U.bin .lss x6 (.int .i64 (n8 : Int))).bind fun t9 => U.asBool t9
 (U.asInt x5 fun n10 => U.elemAt 4 x0 n10 fun e11 => U.fieldAt 1 1 e11 fun f12 => U.asVar false 1 f12 fun e13 => U.asAgg b3 fun us14 => if 1 = sizes (us14.take 1) then (us14[1]?).bind fun e15 => U.asVar false 1 e15 fun e16 => (U.bin .eql e13 e16).bind fun t17 => U.asBool t17
 (U.asInt x5 fun n18 => U.elemAt 4 x0 n18 fun e19 => U.fieldAt 3 3 e19 fun f20 => U.asVar false 1 f20 fun e21 => U.asInt x6 fun n22 => U.elemAt 2 e21 n22 fun e23 => U.fieldAt 0 0 e23 fun f24 => U.asVar false 1 f24 fun e25 => U.asAgg b3 fun us26 => if 0 = sizes (us26.take 0) then (us26[0]?).bind fun e27 => U.asVar false 1 e27 fun e28 => (U.bin .eql e25 e28).bind fun t29 => U.asBool t29
 (U.asInt x5 fun n30 => U.elemAt 4 x0 n30 fun e31 => U.fieldAt 0 0 e31 fun f32 => U.asVar false 1 f32 fun e33 => some e33)
 ((U.bin .add x6 (.int .i64 1)).bind fun t34 => spec_WriterOf_l1 E x0 x5 t34 b3) else none)
 ((U.bin .add x6 (.int .i64 1)).bind fun t35 => spec_WriterOf_l1 E x0 x5 t35 b3) else none)
 ((U.bin .add x5 (.int .i64 1)).bind fun t36 => spec_WriterOf_l0 E x0 t36 b3) :=
 (loop_eq E _ _ _ _).trans (by kernel_rfl)
structure G_spec_WriterOf (E : Env) : Prop where
  is : Is E 244 2 spec_WriterOf_ac [(4, none)]
theorem spec_WriterOf_E {E : Env} (h : G_spec_WriterOf E) (a0 a1 : U) : E 244 [a0, a1] =
 U.noTup a1 fun x1 => spec_WriterOf_l0 E a0 (.int .i64 0) x1 := (h.is _ rfl).trans ((runQ_V rfl).trans (by kernel_rfl))
end Go.Proofs.Ytfdcdbkblkehcaa.Am
namespace Go.Proofs.Ytfdcdbkblkehcaa.Am
open Go
set_option linter.unusedVariables false
set_option maxRecDepth 100000
def spec_IsHistory_b2 : AC :=
 (.seq (.seq (.region 0 [⟨some 7, .mv (.t 3), none⟩,
  ⟨some 8, .mv (.t 0), none⟩,
  ⟨some 9, .len false (.t 8), none⟩,
  ⟨some 10, .bin .lss (.t 7) (.t 9), none⟩])
 (.cond (.t 10) .skip (.exit 0)))
 (.seq (.block 1 (.seq (.seq (.region 19 [⟨some 13, .mv (.t 0), none⟩,
  ⟨some 14, .mv (.t 3), none⟩,
  ⟨some 15, .iaddr 4 (.t 13) (.t 14), none⟩,
  ⟨some 16, .load true 4 (.t 15), none⟩,
  ⟨some 17, .call false 245 [(.t 16)], none⟩,
  ⟨some 18, .call false 70 [(.t 17)], none⟩,
  ⟨some 19, .un .not (.t 18), none⟩,
  ⟨some 20, .mv (.t 19), none⟩,
  ⟨some 21, .mv (.t 0), some (20, false)⟩,
  ⟨some 22, .mv (.t 3), some (20, false)⟩,
  ⟨some 23, .slice false 4 (.t 21) none (some (.t 22)), some (20, false)⟩,
  ⟨some 24, .mv (.t 0), some (20, false)⟩,
  ⟨some 25, .mv (.t 3), some (20, false)⟩,
  ⟨some 26, .iaddr 4 (.t 24) (.t 25), some (20, false)⟩,
  ⟨some 27, .faddr 0 0 (.t 26), some (20, false)⟩,
  ⟨some 28, .load false 1 (.t 27), some (20, false)⟩,
  ⟨some 29, .call false 241 [(.t 23), (.t 28)], some (20, false)⟩,
  ⟨some 30, .bin .geq (.t 29) (.c (.int .i64 0)), some (20, false)⟩,
  ⟨some 31, .pick (.t 20) (.c (.bool true)) (.t 30), none⟩])
 (.cond (.t 31) (.seq (.region 0 [⟨some 2, .mv (.c (.bool false)), none⟩])
 .ret) .skip))
 (.seq (.region 39 [⟨some 32, .mv (.t 3), none⟩,
  ⟨some 33, .bin .gtr (.t 32) (.c (.int .i64 0)), none⟩,
  ⟨some 34, .mv (.t 33), none⟩,
  ⟨some 35, .mv (.t 0), some (34, true)⟩,
  ⟨some 36, .mv (.t 3), some (34, true)⟩,
  ⟨some 37, .bin .sub (.t 36) (.c (.int .i64 1)), some (34, true)⟩,
  ⟨some 38, .iaddr 4 (.t 35) (.t 37), some (34, true)⟩,
  ⟨some 39, .faddr 1 1 (.t 38), some (34, true)⟩,
  ⟨some 40, .load false 1 (.t 39), some (34, true)⟩,
  ⟨some 41, .mv (.t 0), some (34, true)⟩,
  ⟨some 42, .mv (.t 3), some (34, true)⟩,
  ⟨some 43, .iaddr 4 (.t 41) (.t 42), some (34, true)⟩,
  ⟨some 44, .faddr 1 1 (.t 43), some (34, true)⟩,
  ⟨some 45, .load false 1 (.t 44), some (34, true)⟩,
  ⟨some 46, .bin .gtr (.t 40) (.t 45), some (34, true)⟩,
  ⟨some 47, .mv (.t 46), some (34, true)⟩,
  ⟨some 48, .mv (.t 0), some (47, false)⟩,
  ⟨some 49, .mv (.t 3), some (47, false)⟩,
  ⟨some 50, .bin .sub (.t 49) (.c (.int .i64 1)), some (47, false)⟩,
  ⟨some 51, .iaddr 4 (.t 48) (.t 50), some (47, false)⟩,
  ⟨some 52, .faddr 1 1 (.t 51), some (47, false)⟩,
  ⟨some 53, .load false 1 (.t 52), some (47, false)⟩,
  ⟨some 54, .mv (.t 0), some (47, false)⟩,
  ⟨some 55, .mv (.t 3), some (47, false)⟩,
  ⟨some 56, .iaddr 4 (.t 54) (.t 55), some (47, false)⟩,
  ⟨some 57, .faddr 1 1 (.t 56), some (47, false)⟩,
  ⟨some 58, .load false 1 (.t 57), some (47, false)⟩,
  ⟨some 59, .bin .eql (.t 53) (.t 58), some (47, false)⟩,
  ⟨some 60, .mv (.t 59), some (47, false)⟩,
  ⟨some 61, .mv (.t 0), some (60, true)⟩,
  ⟨some 62, .mv (.t 3), some (60, true)⟩,
  ⟨some 63, .iaddr 4 (.t 61) (.t 62), some (60, true)⟩,
  ⟨some 64, .faddr 3 3 (.t 63), some (60, true)⟩,
  ⟨some 65, .load false 1 (.t 64), some (60, true)⟩,
  ⟨some 66, .len false (.t 65), some (60, true)⟩,
  ⟨some 67, .bin .gtr (.t 66) (.c (.int .i64 0)), some (60, true)⟩,
  ⟨some 68, .pick (.t 60) (.t 67) (.c (.bool false)), some (47, false)⟩,
  ⟨some 69, .pick (.t 47) (.c (.bool true)) (.t 68), some (34, true)⟩,
  ⟨some 70, .pick (.t 34) (.t 69) (.c (.bool false)), none⟩])
 (.cond (.t 70) (.seq (.region 0 [⟨some 2, .mv (.c (.bool false)), none⟩])
 .ret) .skip))))
 (.region 0 [⟨some 11, .mv (.t 3), none⟩,
  ⟨some 12, .bin .add (.t 11) (.c (.int .i64 1)), none⟩,
  ⟨some 3, .mv (.t 12), none⟩])))
def spec_IsHistory_b1 : AC :=
 (.seq (.seq (.region 0 [⟨some 77, .mv (.t 5), none⟩,
  ⟨some 78, .mv (.t 0), none⟩,
  ⟨some 79, .mv (.t 4), none⟩,
  ⟨some 80, .iaddr 4 (.t 78) (.t 79), none⟩,
  ⟨some 81, .faddr 2 2 (.t 80), none⟩,
  ⟨some 82, .load false 1 (.t 81), none⟩,
  ⟨some 83, .len false (.t 82), none⟩,
  ⟨some 84, .bin .lss (.t 77) (.t 83), none⟩])
 (.cond (.t 84) .skip (.exit 4)))
 (.seq (.block 5 (.seq (.region 0 [⟨some 87, .mv (.t 0), none⟩,
  ⟨some 88, .mv (.t 0), none⟩,
  ⟨some 89, .mv (.t 4), none⟩,
  ⟨some 90, .iaddr 4 (.t 88) (.t 89), none⟩,
  ⟨some 91, .faddr 2 2 (.t 90), none⟩,
  ⟨some 92, .load false 1 (.t 91), none⟩,
  ⟨some 93, .mv (.t 5), none⟩,
  ⟨some 94, .iaddr 2 (.t 92) (.t 93), none⟩,
  ⟨some 95, .load true 2 (.t 94), none⟩,
  ⟨some 96, .call false 244 [(.t 87), (.t 95)], none⟩,
  ⟨some 6, .mv (.t 96), none⟩])
 (.seq (.region 0 [⟨some 97, .mv (.t 6), none⟩,
  ⟨some 98, .mv (.t 0), none⟩,
  ⟨some 99, .mv (.t 4), none⟩,
  ⟨some 100, .iaddr 4 (.t 98) (.t 99), none⟩,
  ⟨some 101, .faddr 0 0 (.t 100), none⟩,
  ⟨some 102, .load false 1 (.t 101), none⟩,
  ⟨some 103, .bin .eql (.t 97) (.t 102), none⟩,
  ⟨some 104, .mv (.t 103), none⟩,
  ⟨some 105, .mv (.t 0), some (104, false)⟩,
  ⟨some 106, .mv (.t 4), some (104, false)⟩,
  ⟨some 107, .iaddr 4 (.t 105) (.t 106), some (104, false)⟩,
  ⟨some 108, .faddr 2 2 (.t 107), some (104, false)⟩,
  ⟨some 109, .load false 1 (.t 108), some (104, false)⟩,
  ⟨some 110, .mv (.t 5), some (104, false)⟩,
  ⟨some 111, .iaddr 2 (.t 109) (.t 110), some (104, false)⟩,
  ⟨some 112, .faddr 1 1 (.t 111), some (104, false)⟩,
  ⟨some 113, .load false 1 (.t 112), some (104, false)⟩,
  ⟨some 114, .bin .gtr (.t 113) (.c (.int .i64 0)), some (104, false)⟩,
  ⟨some 115, .mv (.t 114), some (104, false)⟩,
  ⟨some 116, .mv (.t 6), some (115, true)⟩,
  ⟨some 117, .bin .eql (.t 116) (.c (.int .i64 0)), some (115, true)⟩,
  ⟨some 118, .pick (.t 115) (.t 117) (.c (.bool false)), some (104, false)⟩,
  ⟨some 119, .pick (.t 104) (.c (.bool true)) (.t 118), none⟩])
 (.cond (.t 119) (.seq (.region 0 [⟨some 2, .mv (.c (.bool false)), none⟩])
 .ret) .skip))))
 (.region 0 [⟨some 85, .mv (.t 5), none⟩,
  ⟨some 86, .bin .add (.t 85) (.c (.int .i64 1)), none⟩,
  ⟨some 5, .mv (.t 86), none⟩])))
def spec_IsHistory_r0 : AC :=
 (.region 0 [⟨some 75, .mv (.t 4), none⟩,
  ⟨some 76, .bin .add (.t 75) (.c (.int .i64 1)), none⟩,
  ⟨some 4, .mv (.t 76), none⟩])
def spec_IsHistory_b0 : AC :=
 (.seq (.seq (.region 0 [⟨some 71, .mv (.t 4), none⟩,
  ⟨some 72, .mv (.t 0), none⟩,
  ⟨some 73, .len false (.t 72), none⟩,
  ⟨some 74, .bin .lss (.t 71) (.t 73), none⟩])
 (.cond (.t 74) .skip (.exit 2)))
 (.seq (.block 3 (.seq (.region 0 [⟨some 5, .mv (.c (.int .i64 0)), none⟩])
 (.block 4 (.loop ⟨[0, 4, 5], [], []⟩ spec_IsHistory_b1))))
 spec_IsHistory_r0))
def spec_IsHistory_r1 : AC :=
 (.seq (.region 0 [⟨some 120, .mv (.t 0), none⟩,
  ⟨some 121, .len false (.t 120), none⟩,
  ⟨some 122, .bin .leq (.t 121) (.c (.int .i64 9)), none⟩,
  ⟨some 2, .mv (.t 122), none⟩])
 .ret)
def spec_IsHistory_r2 : AC :=
 (.seq (.seq (.region 0 [⟨some 4, .mv (.c (.int .i64 0)), none⟩])
 (.block 2 (.loop ⟨[0, 4], [], []⟩ spec_IsHistory_b0)))
 spec_IsHistory_r1)
def spec_IsHistory_ac : AC :=
 (.seq (.region 0 [⟨some 2, .mv (.c (.bool false)), none⟩])
 (.seq (.seq (.region 0 [⟨some 3, .mv (.c (.int .i64 0)), none⟩])
 (.block 0 (.loop ⟨[0, 3], [], []⟩ spec_IsHistory_b2)))
 spec_IsHistory_r2))
noncomputable def spec_IsHistory_l2 (E : Env) (x0 : U) (x3 : U) : Option U := loopK (roundOf E ⟨[0, 3], [], []⟩ spec_IsHistory_b2 (blockK 0 (seqK (fun s => exec E spec_IsHistory_r2 s (finish [(2, none)])) (finish [(2, none)])))) ([.val x0, .val x3], [])
noncomputable def spec_IsHistory_l0 (E : Env) (x0 : U) (x4 : U) : Option U := loopK (roundOf E ⟨[0, 4], [], []⟩ spec_IsHistory_b0 (blockK 2 (seqK (fun s => exec E spec_IsHistory_r1 s (finish [(2, none)])) (finish [(2, none)])))) ([.val x0, .val x4], [])
noncomputable def spec_IsHistory_l1 (E : Env) (x0 : U) (x4 : U) (x5 : U) : Option U := loopK (roundOf E ⟨[0, 4, 5], [], []⟩ spec_IsHistory_b1 (blockK 4 (blockK 3 (seqK (fun s => exec E spec_IsHistory_r0 s (roundK ⟨[0, 4], [], []⟩ (loopK (roundOf E ⟨[0, 4], [], []⟩ spec_IsHistory_b0 (blockK 2 (seqK (fun s => exec E spec_IsHistory_r1 s (finish [(2, none)])) (finish [(2, none)]))))) (blockK 2 (seqK (fun s => exec E spec_IsHistory_r1 s (finish [(2, none)])) (finish [(2, none)]))))) (roundK ⟨[0, 4], [], []⟩ (loopK (roundOf E ⟨[0, 4], [], []⟩ spec_IsHistory_b0 (blockK 2 (seqK (fun s => exec E spec_IsHistory_r1 s (finish [(2, none)])) (finish [(2, none)]))))) (blockK 2 (seqK (fun s => exec E spec_IsHistory_r1 s (finish [(2, none)])) (finish [(2, none)])))))))) ([.val x0, .val x4, .val x5], [])
theorem spec_IsHistory_l2_eq (E : Env) (x0 : U) (x3 : U) : spec_IsHistory_l2 E x0 x3 =
 (U.lenOf false x0).bind fun n1 => (U.bin .lss x3 (.int .i64 (n1 : Int))).bind fun t2 => U.asBool t2
 (U.asInt x3 fun n3 => U.elemAt 4 x0 n3 fun e4 => U.asVar true 4 e4 fun e5 => (E 245 [e5]).bind fun t6 => (E 70 [t6]).bind fun t7 => (U.un .not t7).bind fun t8 => U.asBool t8
 (some (.bool false))
 (U.asInt x3 fun n9 => (U.cut false 4 x0 none (some n9)).bind fun t10 => U.asInt x3 fun n11 => U.elemAt 4 x0 n11 fun e12 => U.fieldAt 0 0 e12 fun f13 => U.asVar false 1 f13 fun e14 => (E 241 [t10, e14]).bind fun t15 => (U.bin .geq t15 (.int .i64 0)).bind fun t16 => U.asBool t16
 (some (.bool false))
 ((U.bin .gtr x3 (.int .i64 0)).bind fun t17 => U.asBool t17
 ((U.bin .sub x3 (.int .i64 1)).bind fun t18 => U.asInt t18 fun n19 => U.elemAt 4 x0 n19 fun e20 => U.fieldAt 1 1 e20 fun f21 => U.asVar false 1 f21 fun e22 => U.asInt x3 fun n23 => U.elemAt 4 x0 n23 fun e24 => U.fieldAt 1 1 e24 fun f25 => U.asVar false 1 f25 fun e26 => (U.bin .gtr e22 e26).bind fun t27 => U.asBool t27
 (some (.bool false))
 ((U.bin .sub x3 (.int .i64 1)).bind fun t28 => U.asInt t28 fun n29 => U.elemAt 4 x0 n29 fun e30 => U.fieldAt 1 1 e30 fun f31 => U.asVar false 1 f31 fun e32 => U.asInt x3 fun n33 => U.elemAt 4 x0 n33 fun e34 => U.fieldAt 1 1 e34 fun f35 => U.asVar false 1 f35 fun e36 => (U.bin .eql e32 e36).bind fun t37 => U.asBool t37
 (U.asInt x3 fun n38 => U.elemAt 4 x0 n38 fun e39 => U.fieldAt 3 3 e39 fun f40 => U.asVar false 1 f40 fun e41 => (U.lenOf false e41).bind fun n42 => (U.bin .gtr (.int .i64 (n42 : Int)) (.int .i64 0)).bind fun t43 => U.asBool t43
 (some (.bool false))
 ((U.bin .add x3 (.int .i64 1)).bind fun t44 => spec_IsHistory_l2 E x0 t44))
 ((U.bin .add x3 (.int .i64 1)).bind fun t45 => spec_IsHistory_l2 E x0 t45)))
 ((U.bin .add x3 (.int .i64 1)).bind fun t46 => spec_IsHistory_l2 E x0 t46))))
 (spec_IsHistory_l0 E x0 (.int .i64 0)) :=
 (loop_eq E _ _ _ _).trans (by kernel_rfl)
theorem spec_IsHistory_l0_eq (E : Env) (x0 : U) (x4 : U) : spec_IsHistory_l0 E x0 x4 =
 (U.lenOf false x0).bind fun n47 => (U.bin .lss x4 (.int .i64 (n47 : Int))).bind fun t48 => U.asBool t48
 (spec_IsHistory_l1 E x0 x4 (.int .i64 0))
 ((U.lenOf false x0).bind fun n49 => (U.bin .leq (.int .i64 (n49 : Int)) (.int .i64 9)).bind fun t50 => some t50) :=
 (loop_eq E _ _ _ _).trans (by kernel_rfl)
theorem spec_IsHistory_l1_eq (E : Env) (x0 : U) (x4 : U) (x5 : U) : spec_IsHistory_l1 E x0 x4 x5 =
 U.asInt x4 fun n51 => U.elemAt 4 x0 n51 fun e52 => U.fieldAt 2 2 e52 fun f53 => U.asVar false 1 f53 fun e54 => (U.lenOf false e54).bind fun n55 => (U.bin .lss x5 (.int .i64 (n55 : Int))).bind fun t56 => U.asBool t56
 (U.asInt x4 fun n57 => U.elemAt 4 x0 n57 fun e58 => U.fieldAt 2 2 e58 fun f59 => U.asVar false 1 f59 fun e60 => U.asInt x5 fun n61 => U.elemAt 2 e60 n61 fun e62 => U.asVar true 2 e62 fun e63 => (E 244 [x0, e63]).bind fun t64 => U.asInt x4 fun n65 => U.elemAt 4 x0 n65 fun e66 => U.fieldAt 0 0 e66 fun f67 => U.asVar false 1 f67 fun e68 => (U.bin .eql t64 e68).bind fun t69 => U.asBool t69
 (some (.bool false))
 (U.asInt x4 fun n70 => U.elemAt 4 x0 n70 fun e71 => U.fieldAt 2 2 e71 fun f72 => U.asVar false 1 f72 fun e73 => U.asInt x5 fun n74 => U.elemAt 2 e73 n74 fun e75 => U.fieldAt 1 1 e75 fun f76 => U.asVar false 1 f76 fun e77 => (U.bin .gtr e77 (.int .i64 0)).bind fun t78 => U.asBool t78
 ((U.bin .eql t64 (.int .i64 0)).bind fun t79 => U.asBool t79
 (some (.bool false))
 ((U.bin .add x5 (.int .i64 1)).bind fun t80 => spec_IsHistory_l1 E x0 x4 t80))
 ((U.bin .add x5 (.int .i64 1)).bind fun t81 => spec_IsHistory_l1 E x0 x4 t81)))
 ((U.bin .add x4 (.int .i64 1)).bind fun t82 => spec_IsHistory_l0 E x0 t82) :=
 (loop_eq E _ _ _ _).trans (by kernel_rfl)
structure G_spec_IsHistory (E : Env) : Prop where
  is : Is E 243 1 spec_IsHistory_ac [(2, none)]
  c_spec_IsValidTransaction : G_spec_IsValidTransaction E
  c_spec_l18Tx : G_spec_l18Tx E
  c_spec_FindEntry : G_spec_FindEntry E
  c_spec_WriterOf : G_spec_WriterOf E
theorem spec_IsHistory_E {E : Env} (h : G_spec_IsHistory E) (a0 : U) : E 243 [a0] =
 spec_IsHistory_l2 E a0 (.int .i64 0) := (h.is _ rfl).trans ((runQ_V rfl).trans (by kernel_rfl))
end Go.Proofs.Ytfdcdbkblkehcaa.Am
namespace Go.Proofs.Ytfdcdbkblkehcaa.Am
open Go
set_option linter.unusedVariables false
set_option maxRecDepth 100000
def spec_l21Has_b0 : AC :=
 (.seq (.seq (.region 0 [⟨some 6, .mv (.t 5), none⟩,
  ⟨some 7, .mv (.t 0), none⟩,
  ⟨some 8, .len false (.t 7), none⟩,
  ⟨some 9, .bin .lss (.t 6) (.t 8), none⟩])
 (.cond (.t 9) .skip (.exit 0)))
 (.seq (.block 1 (.seq (.region 0 [⟨some 12, .mv (.t 0), none⟩,
  ⟨some 13, .mv (.t 5), none⟩,
  ⟨some 14, .iaddr 1 (.t 12) (.t 13), none⟩,
  ⟨some 15, .load false 1 (.t 14), none⟩,
  ⟨some 16, .mv (.t 1), none⟩,
  ⟨some 17, .bin .eql (.t 15) (.t 16), none⟩])
 (.cond (.t 17) (.seq (.region 0 [⟨some 4, .mv (.c (.bool true)), none⟩])
 .ret) .skip)))
 (.region 0 [⟨some 10, .mv (.t 5), none⟩,
  ⟨some 11, .bin .add (.t 10) (.c (.int .i64 1)), none⟩,
  ⟨some 5, .mv (.t 11), none⟩])))
def spec_l21Has_r0 : AC :=
 (.seq (.region 0 [⟨some 4, .mv (.c (.bool false)), none⟩])
 .ret)
def spec_l21Has_ac : AC :=
 (.seq (.region 0 [⟨some 4, .mv (.c (.bool false)), none⟩])
 (.seq (.seq (.region 0 [⟨some 5, .mv (.c (.int .i64 0)), none⟩])
 (.block 0 (.loop ⟨[0, 1, 5], [], []⟩ spec_l21Has_b0)))
 spec_l21Has_r0))
noncomputable def spec_l21Has_l0 (E : Env) (x0 : U) (x1 : U) (x5 : U) : Option U := loopK (roundOf E ⟨[0, 1, 5], [], []⟩ spec_l21Has_b0 (blockK 0 (seqK (fun s => exec E spec_l21Has_r0 s (finish [(4, none)])) (finish [(4, none)])))) ([.val x0, .val x1, .val x5], [])
theorem spec_l21Has_l0_eq (E : Env) (x0 : U) (x1 : U) (x5 : U) : spec_l21Has_l0 E x0 x1 x5 =
 (U.lenOf false x0).bind fun n1 => (U.bin .lss x5 (.int .i64 (n1 : Int))).bind fun t2 => U.asBool t2
 (U.asInt x5 fun n3 => U.elemAt 1 x0 n3 fun e4 => U.asVar false 1 e4 fun e5 => (U.bin .eql e5 x1).bind fun t6 => U.asBool t6
 (some (.bool true))
 ((U.bin .add x5 (.int .i64 1)).bind fun t7 => spec_l21Has_l0 E x0 x1 t7))
 (some (.bool false)) :=
 (loop_eq E _ _ _ _).trans (by kernel_rfl)
structure G_spec_l21Has (E : Env) : Prop where
  is : Is E 242 2 spec_l21Has_ac [(4, none)]
theorem spec_l21Has_E {E : Env} (h : G_spec_l21Has E) (a0 a1 : U) : E 242 [a0, a1] =
 spec_l21Has_l0 E a0 a1 (.int .i64 0) := (h.is _ rfl).trans ((runQ_V rfl).trans (by kernel_rfl))
end Go.Proofs.Ytfdcdbkblkehcaa.Am
namespace Go.Proofs.Ytfdcdbkblkehcaa.Am
open Go
set_option linter.unusedVariables false
set_option maxRecDepth 100000
def spec_l22Good_b0 : AC :=
 (.seq (.seq (.region 0 [⟨some 16, .mv (.t 5), none⟩,
  ⟨some 17, .mv (.t 1), none⟩,
  ⟨some 18, .len false (.t 17), none⟩,
  ⟨some 19, .bin .lss (.t 16) (.t 18), none⟩])
 (.cond (.t 19) .skip (.exit 0)))
 (.seq (.block 1 (.seq (.region 17 [⟨some 22, .mv (.t 0), none⟩,
  ⟨some 23, .mv (.t 1), none⟩,
  ⟨some 24, .mv (.t 5), none⟩,
  ⟨some 25, .iaddr 1 (.t 23) (.t 24), none⟩,
  ⟨some 26, .load false 1 (.t 25), none⟩,
  ⟨some 27, .call false 241 [(.t 22), (.t 26)], none⟩,
  ⟨some 28, .bin .lss (.t 27) (.c (.int .i64 0)), none⟩,
  ⟨some 29, .mv (.t 28), none⟩,
  ⟨some 30, .mv (.t 1), some (29, false)⟩,
  ⟨some 31, .mv (.t 5), some (29, false)⟩,
  ⟨some 32, .slice false 1 (.t 30) none (some (.t 31)), some (29, false)⟩,
  ⟨some 33, .mv (.t 1), some (29, false)⟩,
  ⟨some 34, .mv (.t 5), some (29, false)⟩,
  ⟨some 35, .iaddr 1 (.t 33) (.t 34), some (29, false)⟩,
  ⟨some 36, .load false 1 (.t 35), some (29, false)⟩,
  ⟨some 37, .call false 242 [(.t 32), (.t 36)], some (29, false)⟩,
  ⟨some 38, .pick (.t 29) (.c (.bool true)) (.t 37), none⟩])
 (.cond (.t 38) (.seq (.region 0 [⟨some 4, .mv (.c (.bool false)), none⟩])
 .ret) .skip)))
 (.region 0 [⟨some 20, .mv (.t 5), none⟩,
  ⟨some 21, .bin .add (.t 20) (.c (.int .i64 1)), none⟩,
  ⟨some 5, .mv (.t 21), none⟩])))
def spec_l22Good_r0 : AC :=
 (.seq (.region 0 [⟨some 4, .mv (.c (.bool true)), none⟩])
 .ret)
def spec_l22Good_ac : AC :=
 (.seq (.region 0 [⟨some 4, .mv (.c (.bool false)), none⟩])
 (.seq (.seq (.region 0 [⟨some 6, .mv (.t 0), none⟩,
  ⟨some 7, .call false 243 [(.t 6)], none⟩,
  ⟨some 8, .un .not (.t 7), none⟩,
  ⟨some 9, .mv (.t 8), none⟩,
  ⟨some 10, .mv (.t 1), some (9, false)⟩,
  ⟨some 11, .len false (.t 10), some (9, false)⟩,
  ⟨some 12, .mv (.t 0), some (9, false)⟩,
  ⟨some 13, .len false (.t 12), some (9, false)⟩,
  ⟨some 14, .bin .neq (.t 11) (.t 13), some (9, false)⟩,
  ⟨some 15, .pick (.t 9) (.c (.bool true)) (.t 14), none⟩])
 (.cond (.t 15) (.seq (.region 0 [⟨some 4, .mv (.c (.bool false)), none⟩])
 .ret) .skip))
 (.seq (.seq (.region 0 [⟨some 5, .mv (.c (.int .i64 0)), none⟩])
 (.block 0 (.loop ⟨[0, 1, 5], [], []⟩ spec_l22Good_b0)))
 spec_l22Good_r0)))
noncomputable def spec_l22Good_l0 (E : Env) (x0 : U) (x1 : U) (x5 : U) : Option U := loopK (roundOf E ⟨[0, 1, 5], [], []⟩ spec_l22Good_b0 (blockK 0 (seqK (fun s => exec E spec_l22Good_r0 s (finish [(4, none)])) (finish [(4, none)])))) ([.val x0, .val x1, .val x5], [])
theorem spec_l22Good_l0_eq (E : Env) (x0 : U) (x1 : U) (x5 : U) : spec_l22Good_l0 E x0 x1 x5 =
 (U.lenOf false x1).bind fun n6 => (U.bin .lss x5 (.int .i64 (n6 : Int))).bind fun t7 => U.asBool t7
 (U.asInt x5 fun n8 => U.elemAt 1 x1 n8 fun e9 => U.asVar false 1 e9 fun e10 => (E 241 [x0, e10]).bind fun t11 => (U.bin .lss t11 (.int .i64 0)).bind fun t12 => U.asBool t12
 (some (.bool false))
 (U.asInt x5 fun n13 => (U.cut false 1 x1 none (some n13)).bind fun t14 => U.asInt x5 fun n15 => U.elemAt 1 x1 n15 fun e16 => U.asVar false 1 e16 fun e17 => (E 242 [t14, e17]).bind fun t18 => U.asBool t18
 (some (.bool false))
 ((U.bin .add x5 (.int .i64 1)).bind fun t19 => spec_l22Good_l0 E x0 x1 t19)))
 (some (.bool true)) :=
 (loop_eq E _ _ _ _).trans (by kernel_rfl)
structure G_spec_l22Good (E : Env) : Prop where
  is : Is E 240 2 spec_l22Good_ac [(4, none)]
  c_spec_IsHistory : G_spec_IsHistory E
  c_spec_FindEntry : G_spec_FindEntry E
  c_spec_l21Has : G_spec_l21Has E
theorem spec_l22Good_E {E : Env} (h : G_spec_l22Good E) (a0 a1 : U) : E 240 [a0, a1] =
 (E 243 [a0]).bind fun t1 => (U.un .not t1).bind fun t2 => U.asBool t2
 (some (.bool false))
 ((U.lenOf false a1).bind fun n3 => (U.lenOf false a0).bind fun n4 => (U.bin .neq (.int .i64 (n3 : Int)) (.int .i64 (n4 : Int))).bind fun t5 => U.asBool t5
 (some (.bool false))
 (spec_l22Good_l0 E a0 a1 (.int .i64 0))) := (h.is _ rfl).trans ((runQ_V rfl).trans (by kernel_rfl))
end Go.Proofs.Ytfdcdbkblkehcaa.Am
namespace Go.Proofs.Ytfdcdbkblkehcaa.Am
open Go
set_option linter.unusedVariables false
set_option maxRecDepth 100000
def spec_l22Run_b3 : AC :=
 (.seq (.seq (.region 0 [⟨some 15, .mv (.t 8), none⟩,
  ⟨some 16, .bin .lss (.t 15) (.c (.int .i64 6)), none⟩])
 (.cond (.t 16) .skip (.exit 0)))
 (.seq (.block 1 (.region 0 [⟨some 19, .mv (.t 7), none⟩,
  ⟨some 20, .bslice 0 20 1 1 (.int .i64 0) [(0, (.c (.int .i64 (-1))))], none⟩,
  ⟨some 21, .append false 21 1 8 (.t 19) (.t 20), none⟩,
  ⟨some 7, .mv (.t 21), none⟩]))
 (.region 0 [⟨some 17, .mv (.t 8), none⟩,
  ⟨some 18, .bin .add (.t 17) (.c (.int .i64 1)), none⟩,
  ⟨some 8, .mv (.t 18), none⟩])))
def spec_l22Run_b2 : AC :=
 (.seq (.seq (.region 0 [⟨some 37, .mv (.t 11), none⟩,
  ⟨some 38, .faddr 2 2 (.t 10), none⟩,
  ⟨some 39, .load false 1 (.t 38), none⟩,
  ⟨some 40, .len false (.t 39), none⟩,
  ⟨some 41, .bin .lss (.t 37) (.t 40), none⟩])
 (.cond (.t 41) .skip (.exit 4)))
 (.seq (.block 5 (.seq (.region 16 [⟨some 44, .mv (.t 6), none⟩,
  ⟨some 45, .faddr 2 2 (.t 10), none⟩,
  ⟨some 46, .load false 1 (.t 45), none⟩,
  ⟨some 47, .mv (.t 11), none⟩,
  ⟨some 48, .iaddr 2 (.t 46) (.t 47), none⟩,
  ⟨some 49, .faddr 0 0 (.t 48), none⟩,
  ⟨some 50, .load false 1 (.t 49), none⟩,
  ⟨some 51, .iaddr 1 (.t 44) (.t 50), none⟩,
  ⟨some 52, .load false 1 (.t 51), none⟩,
  ⟨some 53, .faddr 2 2 (.t 10), none⟩,
  ⟨some 54, .load false 1 (.t 53), none⟩,
  ⟨some 55, .mv (.t 11), none⟩,
  ⟨some 56, .iaddr 2 (.t 54) (.t 55), none⟩,
  ⟨some 57, .faddr 1 1 (.t 56), none⟩,
  ⟨some 58, .load false 1 (.t 57), none⟩,
  ⟨some 59, .bin .neq (.t 52) (.t 58), none⟩])
 (.cond (.t 59) (.seq (.region 0 [⟨some 60, .mv (.t 7), none⟩,
  ⟨some 61, .mv (.t 9), none⟩,
  ⟨some 4, .mv (.t 60), none⟩,
  ⟨some 5, .mv (.t 61), none⟩])
 .ret) .skip)))
 (.region 0 [⟨some 42, .mv (.t 11), none⟩,
  ⟨some 43, .bin .add (.t 42) (.c (.int .i64 1)), none⟩,
  ⟨some 11, .mv (.t 43), none⟩])))
def spec_l22Run_b1 : AC :=
 (.seq (.seq (.region 0 [⟨some 62, .mv (.t 12), none⟩,
  ⟨some 63, .faddr 3 3 (.t 10), none⟩,
  ⟨some 64, .load false 1 (.t 63), none⟩,
  ⟨some 65, .len false (.t 64), none⟩,
  ⟨some 66, .bin .lss (.t 62) (.t 65), none⟩])
 (.cond (.t 66) .skip (.exit 6)))
 (.seq (.block 7 (.seq (.region 10 [⟨some 69, .mv (.t 6), none⟩,
  ⟨some 70, .faddr 3 3 (.t 10), none⟩,
  ⟨some 71, .load false 1 (.t 70), none⟩,
  ⟨some 72, .mv (.t 12), none⟩,
  ⟨some 73, .iaddr 2 (.t 71) (.t 72), none⟩,
  ⟨some 74, .faddr 0 0 (.t 73), none⟩,
  ⟨some 75, .load false 1 (.t 74), none⟩,
  ⟨some 76, .faddr 1 1 (.t 10), none⟩,
  ⟨some 77, .load false 1 (.t 76), none⟩,
  ⟨some 78, .iaddr 1 (.t 69) (.t 75), none⟩,
  ⟨none, .store 1 (.t 78) (.t 77), none⟩])
 (.region 14 [⟨some 79, .mv (.t 7), none⟩,
  ⟨some 80, .faddr 3 3 (.t 10), none⟩,
  ⟨some 81, .load false 1 (.t 80), none⟩,
  ⟨some 82, .mv (.t 12), none⟩,
  ⟨some 83, .iaddr 2 (.t 81) (.t 82), none⟩,
  ⟨some 84, .faddr 0 0 (.t 83), none⟩,
  ⟨some 85, .load false 1 (.t 84), none⟩,
  ⟨some 86, .faddr 3 3 (.t 10), none⟩,
  ⟨some 87, .load false 1 (.t 86), none⟩,
  ⟨some 88, .mv (.t 12), none⟩,
  ⟨some 89, .iaddr 2 (.t 87) (.t 88), none⟩,
  ⟨some 90, .faddr 1 1 (.t 89), none⟩,
  ⟨some 91, .load false 1 (.t 90), none⟩,
  ⟨some 92, .iaddr 1 (.t 79) (.t 85), none⟩,
  ⟨none, .store 1 (.t 92) (.t 91), none⟩])))
 (.region 0 [⟨some 67, .mv (.t 12), none⟩,
  ⟨some 68, .bin .add (.t 67) (.c (.int .i64 1)), none⟩,
  ⟨some 12, .mv (.t 68), none⟩])))
def spec_l22Run_r0 : AC :=
 (.seq (.region 0 [⟨some 12, .mv (.c (.int .i64 0)), none⟩])
 (.block 6 (.loop ⟨[0, 1, 9, 10, 12], [(6, 1, false), (7, 1, false)], [(10, false)]⟩ spec_l22Run_b1)))
def spec_l22Run_r1 : AC :=
 (.region 0 [⟨some 26, .mv (.t 9), none⟩,
  ⟨some 27, .bin .add (.t 26) (.c (.int .i64 1)), none⟩,
  ⟨some 9, .mv (.t 27), none⟩])
def spec_l22Run_b0 : AC :=
 (.seq (.seq (.region 0 [⟨some 22, .mv (.t 9), none⟩,
  ⟨some 23, .mv (.t 1), none⟩,
  ⟨some 24, .len false (.t 23), none⟩,
  ⟨some 25, .bin .lss (.t 22) (.t 24), none⟩])
 (.cond (.t 25) .skip (.exit 2)))
 (.seq (.block 3 (.seq (.region 0 [⟨some 28, .mv (.t 0), none⟩,
  ⟨some 29, .mv (.t 0), none⟩,
  ⟨some 30, .mv (.t 1), none⟩,
  ⟨some 31, .mv (.t 9), none⟩,
  ⟨some 32, .iaddr 1 (.t 30) (.t 31), none⟩,
  ⟨some 33, .load false 1 (.t 32), none⟩,
  ⟨some 34, .call false 241 [(.t 29), (.t 33)], none⟩,
  ⟨some 35, .iaddr 4 (.t 28) (.t 34), none⟩,
  ⟨some 36, .load true 4 (.t 35), none⟩,
  ⟨some 10, .alloc 10 (.agg [(.int .i64 0), (.int .i64 0), (.nsl 2), (.nsl 2)]), none⟩,
  ⟨none, .store 4 (.t 10) (.t 36), none⟩])
 (.seq (.seq (.region 0 [⟨some 11, .mv (.c (.int .i64 0)), none⟩])
 (.block 4 (.loop ⟨[0, 1, 9, 10, 11], [(6, 1, false), (7, 1, false)], [(10, false)]⟩ spec_l22Run_b2)))
 spec_l22Run_r0)))
 spec_l22Run_r1))
def spec_l22Run_r2 : AC :=
 (.seq (.region 0 [⟨some 93, .mv (.t 7), none⟩,
  ⟨some 4, .mv (.t 93), none⟩,
  ⟨some 5, .mv (.c (.int .i64 (-1))), none⟩])
 .ret)
def spec_l22Run_r3 : AC :=
 (.seq (.seq (.region 0 [⟨some 9, .mv (.c (.int .i64 0)), none⟩])
 (.block 2 (.loop ⟨[0, 1, 9], [(6, 1, false), (7, 1, false)], []⟩ spec_l22Run_b0)))
 spec_l22Run_r2)
def spec_l22Run_ac : AC :=
 (.seq (.region 0 [⟨some 4, .mv (.c (.nsl 1)), none⟩,
  ⟨some 5, .mv (.c (.int .i64 0)), none⟩])
 (.seq (.region 0 [⟨some 13, .mkslice 13 1 8 (.int .i64 0) (.c (.int .i64 6)) (.c (.int .i64 6)), none⟩,
  ⟨some 6, .mv (.t 13), none⟩])
 (.seq (.region 0 [⟨some 14, .bslice 1 14 1 0 (.int .i64 0) [], none⟩,
  ⟨some 7, .mv (.t 14), none⟩])
 (.seq (.seq (.region 0 [⟨some 8, .mv (.c (.int .i64 0)), none⟩])
 (.block 0 (.loop ⟨[0, 1, 8], [(6, 1, false), (7, 1, false)], []⟩ spec_l22Run_b3)))
 spec_l22Run_r3))))
noncomputable def spec_l22Run_l3 (E : Env) (x0 : U) (x1 : U) (x8 : U) (c6 : List U) (c7 : List U) : Option U := loopK (roundOf E ⟨[0, 1, 8], [(6, 1, false), (7, 1, false)], []⟩ spec_l22Run_b3 (blockK 0 (seqK (fun s => exec E spec_l22Run_r3 s (finish [(4, none), (5, none)])) (finish [(4, none), (5, none)])))) ([.val x0, .val x1, .val x8], [.vir (.asl 1 c6), .vir (.asl 1 c7)])
noncomputable def spec_l22Run_l0 (E : Env) (x0 : U) (x1 : U) (x9 : U) (c6 : List U) (c7 : List U) : Option U := loopK (roundOf E ⟨[0, 1, 9], [(6, 1, false), (7, 1, false)], []⟩ spec_l22Run_b0 (blockK 2 (seqK (fun s => exec E spec_l22Run_r2 s (finish [(4, none), (5, none)])) (finish [(4, none), (5, none)])))) ([.val x0, .val x1, .val x9], [.vir (.asl 1 c6), .vir (.asl 1 c7)])
noncomputable def spec_l22Run_l2 (E : Env) (x0 : U) (x1 : U) (x9 : U) (x11 : U) (c6 : List U) (c7 : List U) (b10 : U) : Option U := loopK (roundOf E ⟨[0, 1, 9, 10, 11], [(6, 1, false), (7, 1, false)], [(10, false)]⟩ spec_l22Run_b2 (blockK 4 (seqK (fun s => exec E spec_l22Run_r0 s (blockK 3 (seqK (fun s => exec E spec_l22Run_r1 s (roundK ⟨[0, 1, 9], [(6, 1, false), (7, 1, false)], []⟩ (loopK (roundOf E ⟨[0, 1, 9], [(6, 1, false), (7, 1, false)], []⟩ spec_l22Run_b0 (blockK 2 (seqK (fun s => exec E spec_l22Run_r2 s (finish [(4, none), (5, none)])) (finish [(4, none), (5, none)]))))) (blockK 2 (seqK (fun s => exec E spec_l22Run_r2 s (finish [(4, none), (5, none)])) (finish [(4, none), (5, none)]))))) (roundK ⟨[0, 1, 9], [(6, 1, false), (7, 1, false)], []⟩ (loopK (roundOf E ⟨[0, 1, 9], [(6, 1, false), (7, 1, false)], []⟩ spec_l22Run_b0 (blockK 2 (seqK (fun s => exec E spec_l22Run_r2 s (finish [(4, none), (5, none)])) (finish [(4, none), (5, none)]))))) (blockK 2 (seqK (fun s => exec E spec_l22Run_r2 s (finish [(4, none), (5, none)])) (finish [(4, none), (5, none)]))))))) (blockK 3 (seqK (fun s => exec E spec_l22Run_r1 s (roundK ⟨[0, 1, 9], [(6, 1, false), (7, 1, false)], []⟩ (loopK (roundOf E ⟨[0, 1, 9], [(6, 1, false), (7, 1, false)], []⟩ spec_l22Run_b0 (blockK 2 (seqK (fun s => exec E spec_l22Run_r2 s (finish [(4, none), (5, none)])) (finish [(4, none), (5, none)]))))) (blockK 2 (seqK (fun s => exec E spec_l22Run_r2 s (finish [(4, none), (5, none)])) (finish [(4, none), (5, none)]))))) (roundK ⟨[0, 1, 9], [(6, 1, false), (7, 1, false)], []⟩ (loopK (roundOf E ⟨[0, 1, 9], [(6, 1, false), (7, 1, false)], []⟩ spec_l22Run_b0 (blockK 2 (seqK (fun s => exec E spec_l22Run_r2 s (finish [(4, none), (5, none)])) (finish [(4, none), (5, none)]))))) (blockK 2 (seqK (fun s => exec E spec_l22Run_r2 s (finish [(4, none), (5, none)])) (finish [(4, none), (5, none)]))))))))) ([.val x0, .val x1, .val x9, .ptr 10 [], .val x11], [.vir (.asl 1 c6), .vir (.asl 1 c7), .box (.val b10)])
noncomputable def spec_l22Run_l1 (E : Env) (x0 : U) (x1 : U) (x9 : U) (x12 : U) (c6 : List U) (c7 : List U) (b10 : U) : Option U := loopK (roundOf E ⟨[0, 1, 9, 10, 12], [(6, 1, false), (7, 1, false)], [(10, false)]⟩ spec_l22Run_b1 (blockK 6 (blockK 3 (seqK (fun s => exec E spec_l22Run_r1 s (roundK ⟨[0, 1, 9], [(6, 1, false), (7, 1, false)], []⟩ (loopK (roundOf E ⟨[0, 1, 9], [(6, 1, false), (7, 1, false)], []⟩ spec_l22Run_b0 (blockK 2 (seqK (fun s => exec E spec_l22Run_r2 s (finish [(4, none), (5, none)])) (finish [(4, none), (5, none)]))))) (blockK 2 (seqK (fun s => exec E spec_l22Run_r2 s (finish [(4, none), (5, none)])) (finish [(4, none), (5, none)]))))) (roundK ⟨[0, 1, 9], [(6, 1, false), (7, 1, false)], []⟩ (loopK (roundOf E ⟨[0, 1, 9], [(6, 1, false), (7, 1, false)], []⟩ spec_l22Run_b0 (blockK 2 (seqK (fun s => exec E spec_l22Run_r2 s (finish [(4, none), (5, none)])) (finish [(4, none), (5, none)]))))) (blockK 2 (seqK (fun s => exec E spec_l22Run_r2 s (finish [(4, none), (5, none)])) (finish [(4, none), (5, none)])))))))) ([.val x0, .val x1, .val x9, .ptr 10 [], .val x12], [.vir (.asl 1 c6), .vir (.asl 1 c7), .box (.val b10)])
theorem spec_l22Run_l3_eq (E : Env) (x0 : U) (x1 : U) (x8 : U) (c6 : List U) (c7 : List U) : spec_l22Run_l3 E x0 x1 x8 c6 c7 =
 (U.bin .lss x8 (.int .i64 6)).bind fun t1 => U.asBool t1
 (if 1 = 1 ∧ 1 = 1 ∧ ((c7).length + ([(.int .i64 (-1))] : List U).length) * 8 ≤ 140737488355328 then (U.bin .add x8 (.int .i64 1)).bind fun t2 => spec_l22Run_l3 E x0 x1 t2 c6 (c7 ++ [(.int .i64 (-1))]) else none)
 (spec_l22Run_l0 E x0 x1 (.int .i64 0) c6 c7) :=
 (loop_eq E _ _ _ _).trans (by kernel_rfl)
theorem spec_l22Run_l0_eq (E : Env) (x0 : U) (x1 : U) (x9 : U) (c6 : List U) (c7 : List U) : spec_l22Run_l0 E x0 x1 x9 c6 c7 =
 (U.lenOf false x1).bind fun n3 => (U.bin .lss x9 (.int .i64 (n3 : Int))).bind fun t4 => U.asBool t4
 (U.asInt x9 fun n5 => U.elemAt 1 x1 n5 fun e6 => U.asVar false 1 e6 fun e7 => (E 241 [x0, e7]).bind fun t8 => U.asInt t8 fun n9 => U.elemAt 4 x0 n9 fun e10 => U.asVar true 4 e10 fun e11 => if storable (.val e11) = true ∧ e11.size = 4 then spec_l22Run_l2 E x0 x1 x9 (.int .i64 0) c6 c7 e11 else none)
 (some (.tup [(.sl 1 c7), (.int .i64 (-1))])) :=
 (loop_eq E _ _ _ _).trans (by kernel_rfl)
theorem spec_l22Run_l2_eq (E : Env) (x0 : U) (x1 : U) (x9 : U) (x11 : U) (c6 : List U) (c7 : List U) (b10 : U) : spec_l22Run_l2 E x0 x1 x9 x11 c6 c7 b10 =
 U.asAgg b10 fun us12 => if 2 = sizes (us12.take 2) then (us12[2]?).bind fun e13 => U.asVar false 1 e13 fun e14 => (U.lenOf false e14).bind fun n15 => (U.bin .lss x11 (.int .i64 (n15 : Int))).bind fun t16 => U.asBool t16
 (U.asAgg b10 fun us17 => if 2 = sizes (us17.take 2) then (us17[2]?).bind fun e18 => U.asVar false 1 e18 fun e19 => U.asInt x11 fun n20 => U.elemAt 2 e19 n20 fun e21 => U.fieldAt 0 0 e21 fun f22 => U.asVar false 1 f22 fun e23 => U.asInt e23 fun n24 => if 1 = 1 ∧ 0 ≤ n24 ∧ n24 < ((c6).length : Int) then (c6[(n24 : Int).toNat]?).bind fun e25 => U.asVar false 1 e25 fun e26 => U.asAgg b10 fun us27 => if 2 = sizes (us27.take 2) then (us27[2]?).bind fun e28 => U.asVar false 1 e28 fun e29 => U.asInt x11 fun n30 => U.elemAt 2 e29 n30 fun e31 => U.fieldAt 1 1 e31 fun f32 => U.asVar false 1 f32 fun e33 => (U.bin .neq e26 e33).bind fun t34 => U.asBool t34
 (U.noTup x9 fun x35 => some (.tup [(.sl 1 c7), x35]))
 ((U.bin .add x11 (.int .i64 1)).bind fun t36 => spec_l22Run_l2 E x0 x1 x9 t36 c6 c7 b10) else none else none else none)
 (spec_l22Run_l1 E x0 x1 x9 (.int .i64 0) c6 c7 b10) else none :=
 (loop_eq E _ _ _ _).trans (by kernel_rfl)
theorem spec_l22Run_l1_eq (E : Env) (x0 : U) (x1 : U) (x9 : U) (x12 : U) (c6 : List U) (c7 : List U) (b10 : U) : spec_l22Run_l1 E x0 x1 x9 x12 c6 c7 b10 =
 U.asAgg b10 fun us37 => if 3 = sizes (us37.take 3) then (us37[3]?).bind fun e38 => U.asVar false 1 e38 fun e39 => (U.lenOf false e39).bind fun n40 => (U.bin .lss x12 (.int .i64 (n40 : Int))).bind fun t41 => U.asBool t41
 (U.asAgg b10 fun us42 => if 3 = sizes (us42.take 3) then (us42[3]?).bind fun e43 => U.asVar false 1 e43 fun e44 => U.asInt x12 fun n45 => U.elemAt 2 e44 n45 fun e46 => U.fieldAt 0 0 e46 fun f47 => U.asVar false 1 f47 fun e48 => U.asAgg b10 fun us49 => if 1 = sizes (us49.take 1) then (us49[1]?).bind fun e50 => U.asVar false 1 e50 fun e51 => U.asInt e48 fun n52 => if 1 = 1 ∧ 0 ≤ n52 ∧ n52 < ((c6).length : Int) then if storable (.val e51) = true ∧ e51.size = 1 then (c6[(n52 : Int).toNat]?).bind fun e53 => if e53.size = 1 then U.asAgg b10 fun us54 => if 3 = sizes (us54.take 3) then (us54[3]?).bind fun e55 => U.asVar false 1 e55 fun e56 => U.asInt x12 fun n57 => U.elemAt 2 e56 n57 fun e58 => U.fieldAt 0 0 e58 fun f59 => U.asVar false 1 f59 fun e60 => U.asAgg b10 fun us61 => if 3 = sizes (us61.take 3) then (us61[3]?).bind fun e62 => U.asVar false 1 e62 fun e63 => U.asInt x12 fun n64 => U.elemAt 2 e63 n64 fun e65 => U.fieldAt 1 1 e65 fun f66 => U.asVar false 1 f66 fun e67 => U.asInt e60 fun n68 => if 1 = 1 ∧ 0 ≤ n68 ∧ n68 < ((c7).length : Int) then if storable (.val e67) = true ∧ e67.size = 1 then (c7[(n68 : Int).toNat]?).bind fun e69 => if e69.size = 1 then (U.bin .add x12 (.int .i64 1)).bind fun t70 => spec_l22Run_l1 E x0 x1 x9 t70 (c6.set (n52 : Int).toNat e51) (c7.set (n68 : Int).toNat e67) b10 else none else none else none else none else none else none else none else none else none else none)
 ((U.bin .add x9 (.int .i64 1)).bind fun t71 => spec_l22Run_l0 E x0 x1 t71 c6 c7) else none :=
 (loop_eq E _ _ _ _).trans (by kernel_rfl)
structure G_spec_l22Run (E : Env) : Prop where
  is : Is E 239 2 spec_l22Run_ac [(4, none), (5, none)]
  c_spec_FindEntry : G_spec_FindEntry E
theorem spec_l22Run_E {E : Env} (h : G_spec_l22Run E) (a0 a1 : U) : E 239 [a0, a1] =
 if 0 ≤ 6 ∧ 6 ≤ 6 ∧ 6 * 8 ≤ 140737488355328 ∧ ((.int .i64 0) : U).size = 1 then spec_l22Run_l3 E a0 a1 (.int .i64 0) (List.replicate (6 : Int).toNat (.int .i64 0)) ([] : List U) else none := (h.is _ rfl).trans ((runQ_V rfl).trans (by kernel_rfl))
end Go.Proofs.Ytfdcdbkblkehcaa.Am
namespace Go.Proofs.Ytfdcdbkblkehcaa.Am
open Go
set_option linter.unusedVariables false
set_option maxRecDepth 100000
def spec_ReplaySerial_ac : AC :=
 (.seq (.region 0 [⟨some 4, .mv (.c (.nsl 1)), none⟩,
  ⟨some 5, .mv (.c (.bool false)), none⟩])
 (.seq (.seq (.region 0 [⟨some 8, .mv (.t 0), none⟩,
  ⟨some 9, .mv (.t 1), none⟩,
  ⟨some 10, .call false 240 [(.t 8), (.t 9)], none⟩,
  ⟨some 11, .un .not (.t 10), none⟩])
 (.cond (.t 11) (.seq (.region 0 [⟨some 12, .bslice 0 12 1 0 (.int .i64 0) [], none⟩,
  ⟨some 4, .mv (.t 12), none⟩,
  ⟨some 5, .mv (.c (.bool false)), none⟩])
 .ret) .skip))
 (.seq (.region 0 [⟨some 14, .mv (.t 0), none⟩,
  ⟨some 15, .mv (.t 1), none⟩,
  ⟨some 16, .call false 239 [(.t 14), (.t 15)], none⟩,
  ⟨some 13, .mv (.t 16), none⟩,
  ⟨some 17, .extract 0 (.t 13), none⟩,
  ⟨some 18, .extract 1 (.t 13), none⟩,
  ⟨some 6, .mv (.t 17), none⟩,
  ⟨some 7, .mv (.t 18), none⟩])
 (.seq (.seq (.region 0 [⟨some 19, .mv (.t 7), none⟩,
  ⟨some 20, .bin .geq (.t 19) (.c (.int .i64 0)), none⟩])
 (.cond (.t 20) (.seq (.region 0 [⟨some 21, .bslice 0 21 1 0 (.int .i64 0) [], none⟩,
  ⟨some 4, .mv (.t 21), none⟩,
  ⟨some 5, .mv (.c (.bool false)), none⟩])
 .ret) .skip))
 (.seq (.region 0 [⟨some 22, .mv (.t 6), none⟩,
  ⟨some 4, .mv (.t 22), none⟩,
  ⟨some 5, .mv (.c (.bool true)), none⟩])
 .ret)))))
structure G_spec_ReplaySerial (E : Env) : Prop where
  is : Is E 280 2 spec_ReplaySerial_ac [(4, none), (5, none)]
  c_spec_l22Good : G_spec_l22Good E
  c_spec_l22Run : G_spec_l22Run E
theorem spec_ReplaySerial_E {E : Env} (h : G_spec_ReplaySerial E) (a0 a1 : U) : E 280 [a0, a1] =
 (E 240 [a0, a1]).bind fun t1 => (U.un .not t1).bind fun t2 => U.asBool t2
 (some (.tup [(.sl 1 ([] : List U)), (.bool false)]))
 ((E 239 [a0, a1]).bind fun t3 => U.part 0 t3 fun p4 => U.part 1 t3 fun p5 => (U.bin .geq p5 (.int .i64 0)).bind fun t6 => U.asBool t6
 (some (.tup [(.sl 1 ([] : List U)), (.bool false)]))
 (U.noTup p4 fun x7 => some (.tup [x7, (.bool true)]))) := (h.is _ rfl).trans ((runQ_V rfl).trans (by kernel_rfl))
end Go.Proofs.Ytfdcdbkblkehcaa.Am
namespace Go.Proofs.Ytfdcdbkblkehcaa.Am
open Go
set_option linter.unusedVariables false
set_option maxRecDepth 100000
def impl_in_ac : AC :=
 (.seq (.region 0 [⟨some 6, .mv (.c (.bool false)), none⟩])
 (.seq (.region 0 [⟨some 7, .mv (.t 1), none⟩,
  ⟨some 8, .mv (.t 0), none⟩,
  ⟨some 9, .bin .leq (.t 7) (.t 8), none⟩,
  ⟨some 10, .mv (.t 9), none⟩,
  ⟨some 11, .mv (.t 0), some (10, true)⟩,
  ⟨some 12, .mv (.t 2), some (10, true)⟩,
  ⟨some 13, .bin .leq (.t 11) (.t 12), some (10, true)⟩,
  ⟨some 14, .pick (.t 10) (.t 13) (.c (.bool false)), none⟩,
  ⟨some 6, .mv (.t 14), none⟩])
 .ret))
structure G_impl_in (E : Env) : Prop where
  is : Is E 10 3 impl_in_ac [(6, none)]
theorem impl_in_E {E : Env} (h : G_impl_in E) (a0 a1 a2 : U) : E 10 [a0, a1, a2] =
 (U.bin .leq a1 a0).bind fun t1 => U.asBool t1
 ((U.bin .leq a0 a2).bind fun t2 => some t2)
 (some (.bool false)) := (h.is _ rfl).trans ((runQ_V rfl).trans (by kernel_rfl))
end Go.Proofs.Ytfdcdbkblkehcaa.Am
namespace Go.Proofs.Ytfdcdbkblkehcaa.Am
open Go
set_option linter.unusedVariables false
set_option maxRecDepth 100000
def impl_isID_ac : AC :=
 (.seq (.region 0 [⟨some 2, .mv (.c (.bool false)), none⟩])
 (.seq (.region 0 [⟨some 3, .mv (.t 0), none⟩,
  ⟨some 4, .call false 10 [(.t 3), (.c (.int .i64 1)), (.c (.int .i64 9))], none⟩,
  ⟨some 2, .mv (.t 4), none⟩])
 .ret))
structure G_impl_isID (E : Env) : Prop where
  is : Is E 9 1 impl_isID_ac [(2, none)]
  c_impl_in : G_impl_in E
theorem impl_isID_E {E : Env} (h : G_impl_isID E) (a0 : U) : E 9 [a0] =
 (E 10 [a0, (.int .i64 1), (.int .i64 9)]).bind fun t1 => some t1 := (h.is _ rfl).trans ((runQ_V rfl).trans (by kernel_rfl))
end Go.Proofs.Ytfdcdbkblkehcaa.Am
namespace Go.Proofs.Ytfdcdbkblkehcaa.Am
open Go
set_option linter.unusedVariables false
set_option maxRecDepth 100000
def impl_IsStamp_ac : AC :=
 (.seq (.region 0 [⟨some 2, .mv (.c (.bool false)), none⟩])
 (.seq (.region 0 [⟨some 3, .mv (.t 0), none⟩,
  ⟨some 4, .call false 10 [(.t 3), (.c (.int .i64 1)), (.c (.int .i64 999))], none⟩,
  ⟨some 2, .mv (.t 4), none⟩])
 .ret))
structure G_impl_IsStamp (E : Env) : Prop where
  is : Is E 72 1 impl_IsStamp_ac [(2, none)]
  c_impl_in : G_impl_in E
theorem impl_IsStamp_E {E : Env} (h : G_impl_IsStamp E) (a0 : U) : E 72 [a0] =
 (E 10 [a0, (.int .i64 1), (.int .i64 999)]).bind fun t1 => some t1 := (h.is _ rfl).trans ((runQ_V rfl).trans (by kernel_rfl))
end Go.Proofs.Ytfdcdbkblkehcaa.Am
namespace Go.Proofs.Ytfdcdbkblkehcaa.Am
open Go
set_option linter.unusedVariables false
set_option maxRecDepth 100000
def impl_isKey_ac : AC :=
 (.seq (.region 0 [⟨some 2, .mv (.c (.bool false)), none⟩])
 (.seq (.region 0 [⟨some 3, .mv (.t 0), none⟩,
  ⟨some 4, .call false 10 [(.t 3), (.c (.int .i64 0)), (.c (.int .i64 5))], none⟩,
  ⟨some 2, .mv (.t 4), none⟩])
 .ret))
structure G_impl_isKey (E : Env) : Prop where
  is : Is E 11 1 impl_isKey_ac [(2, none)]
  c_impl_in : G_impl_in E
theorem impl_isKey_E {E : Env} (h : G_impl_isKey E) (a0 : U) : E 11 [a0] =
 (E 10 [a0, (.int .i64 0), (.int .i64 5)]).bind fun t1 => some t1 := (h.is _ rfl).trans ((runQ_V rfl).trans (by kernel_rfl))
end Go.Proofs.Ytfdcdbkblkehcaa.Am
namespace Go.Proofs.Ytfdcdbkblkehcaa.Am
open Go
set_option linter.unusedVariables false
set_option maxRecDepth 100000
def cmp_Or_g14_b0 : AC :=
 (.seq (.region 0 [⟨some 9, .bin .lss (.t 8) (.t 7), none⟩])
 (.seq (.cond (.t 9) .skip (.exit 0))
 (.seq (.block 1 (.seq (.region 0 [⟨some 10, .iaddr 1 (.t 6) (.t 8), none⟩,
  ⟨some 11, .load false 1 (.t 10), none⟩,
  ⟨some 5, .mv (.t 11), none⟩])
 (.seq (.region 0 [⟨some 12, .mv (.t 5), none⟩,
  ⟨some 13, .mv (.t 3), none⟩,
  ⟨some 14, .bin .neq (.t 12) (.t 13), none⟩])
 (.cond (.t 14) (.seq (.region 0 [⟨some 15, .mv (.t 5), none⟩,
  ⟨some 2, .mv (.t 15), none⟩])
 .ret) .skip))))
 (.region 0 [⟨some 16, .bin .add (.t 8) (.c (.int .i64 1)), none⟩,
  ⟨some 8, .mv (.t 16), none⟩]))))
def cmp_Or_g14_r0 : AC :=
 (.seq (.region 0 [⟨some 17, .mv (.t 3), none⟩,
  ⟨some 2, .mv (.t 17), none⟩])
 .ret)
def cmp_Or_g14_ac : AC :=
 (.seq (.region 0 [⟨some 2, .mv (.c (.int .i64 0)), none⟩])
 (.seq (.region 0 [⟨some 3, .mv (.c (.int .i64 0)), none⟩])
 (.seq (.seq (.region 0 [⟨some 6, .mv (.t 0), none⟩,
  ⟨some 7, .len false (.t 6), none⟩,
  ⟨some 8, .mv (.c (.int .i64 0)), none⟩])
 (.block 0 (.loop ⟨[3, 6, 7, 8], [], []⟩ cmp_Or_g14_b0)))
 cmp_Or_g14_r0)))
noncomputable def cmp_Or_g14_l0 (E : Env) (x3 : U) (x6 : U) (x7 : U) (x8 : U) : Option U := loopK (roundOf E ⟨[3, 6, 7, 8], [], []⟩ cmp_Or_g14_b0 (blockK 0 (seqK (fun s => exec E cmp_Or_g14_r0 s (finish [(2, none)])) (finish [(2, none)])))) ([.val x3, .val x6, .val x7, .val x8], [])
theorem cmp_Or_g14_l0_eq (E : Env) (x3 : U) (x6 : U) (x7 : U) (x8 : U) : cmp_Or_g14_l0 E x3 x6 x7 x8 =
 (U.bin .lss x8 x7).bind fun t2 => U.asBool t2
 (U.asInt x8 fun n3 => U.elemAt 1 x6 n3 fun e4 => U.asVar false 1 e4 fun e5 => (U.bin .neq e5 x3).bind fun t6 => U.asBool t6
 (some e5)
 ((U.bin .add x8 (.int .i64 1)).bind fun t7 => cmp_Or_g14_l0 E x3 x6 x7 t7))
 (some x3) :=
 (loop_eq E _ _ _ _).trans (by kernel_rfl)
structure G_cmp_Or_g14 (E : Env) : Prop where
  is : Is E 14 1 cmp_Or_g14_ac [(2, none)]
theorem cmp_Or_g14_E {E : Env} (h : G_cmp_Or_g14 E) (a0 : U) : E 14 [a0] =
 (U.lenOf false a0).bind fun n1 => cmp_Or_g14_l0 E (.int .i64 0) a0 (.int .i64 (n1 : Int)) (.int .i64 0) := (h.is _ rfl).trans ((runQ_V rfl).trans (by kernel_rfl))
end Go.Proofs.Ytfdcdbkblkehcaa.Am
namespace Go.Proofs.Ytfdcdbkblkehcaa.Am
open Go
set_option linter.unusedVariables false
set_option maxRecDepth 100000
def cmp_isNaN_g15_ac : AC :=
 (.seq (.region 0 [⟨some 2, .mv (.c (.bool false)), none⟩])
 (.seq (.region 0 [⟨some 3, .mv (.t 0), none⟩,
  ⟨some 4, .mv (.t 0), none⟩,
  ⟨some 5, .bin .neq (.t 3) (.t 4), none⟩,
  ⟨some 2, .mv (.t 5), none⟩])
 .ret))
structure G_cmp_isNaN_g15 (E : Env) : Prop where
  is : Is E 15 1 cmp_isNaN_g15_ac [(2, none)]
theorem cmp_isNaN_g15_E {E : Env} (h : G_cmp_isNaN_g15 E) (a0 : U) : E 15 [a0] =
 (U.bin .neq a0 a0).bind fun t1 => some t1 := (h.is _ rfl).trans ((runQ_V rfl).trans (by kernel_rfl))
end Go.Proofs.Ytfdcdbkblkehcaa.Am
namespace Go.Proofs.Ytfdcdbkblkehcaa.Am
open Go
set_option linter.unusedVariables false
set_option maxRecDepth 100000
def cmp_Compare_g13_ac : AC :=
 (.seq (.region 0 [⟨some 4, .mv (.c (.int .i64 0)), none⟩])
 (.seq (.region 0 [⟨some 7, .mv (.t 0), none⟩,
  ⟨some 8, .call false 15 [(.t 7)], none⟩,
  ⟨some 5, .mv (.t 8), none⟩])
 (.seq (.region 0 [⟨some 9, .mv (.t 1), none⟩,
  ⟨some 10, .call false 15 [(.t 9)], none⟩,
  ⟨some 6, .mv (.t 10), none⟩])
 (.seq (.seq (.region 0 [⟨some 11, .mv (.t 5), none⟩])
 (.cond (.t 11) (.seq (.seq (.region 0 [⟨some 12, .mv (.t 6), none⟩])
 (.cond (.t 12) (.seq (.region 0 [⟨some 4, .mv (.c (.int .i64 0)), none⟩])
 .ret) .skip))
 (.seq (.region 0 [⟨some 4, .mv (.c (.int .i64 (-1))), none⟩])
 .ret)) .skip))
 (.seq (.seq (.region 0 [⟨some 13, .mv (.t 6), none⟩])
 (.cond (.t 13) (.seq (.region 0 [⟨some 4, .mv (.c (.int .i64 1)), none⟩])
 .ret) .skip))
 (.seq (.seq (.region 0 [⟨some 14, .mv (.t 0), none⟩,
  ⟨some 15, .mv (.t 1), none⟩,
  ⟨some 16, .bin .lss (.t 14) (.t 15), none⟩])
 (.cond (.t 16) (.seq (.region 0 [⟨some 4, .mv (.c (.int .i64 (-1))), none⟩])
 .ret) .skip))
 (.seq (.seq (.region 0 [⟨some 17, .mv (.t 0), none⟩,
  ⟨some 18, .mv (.t 1), none⟩,
  ⟨some 19, .bin .gtr (.t 17) (.t 18), none⟩])
 (.cond (.t 19) (.seq (.region 0 [⟨some 4, .mv (.c (.int .i64 1)), none⟩])
 .ret) .skip))
 (.seq (.region 0 [⟨some 4, .mv (.c (.int .i64 0)), none⟩])
 .ret))))))))
structure G_cmp_Compare_g13 (E : Env) : Prop where
  is : Is E 13 2 cmp_Compare_g13_ac [(4, none)]
  c_cmp_isNaN_g15 : G_cmp_isNaN_g15 E
theorem cmp_Compare_g13_E {E : Env} (h : G_cmp_Compare_g13 E) (a0 a1 : U) : E 13 [a0, a1] =
 (E 15 [a0]).bind fun t1 => (E 15 [a1]).bind fun t2 => U.asBool t1
 (U.asBool t2
 (some (.int .i64 0))
 (some (.int .i64 (-1))))
 (U.asBool t2
 (some (.int .i64 1))
 ((U.bin .lss a0 a1).bind fun t3 => U.asBool t3
 (some (.int .i64 (-1)))
 ((U.bin .gtr a0 a1).bind fun t4 => U.asBool t4
 (some (.int .i64 1))
 (some (.int .i64 0))))) := (h.is _ rfl).trans ((runQ_V rfl).trans (by kernel_rfl))
end Go.Proofs.Ytfdcdbkblkehcaa.Am
namespace Go.Proofs.Ytfdcdbkblkehcaa.Am
open Go
set_option linter.unusedVariables false
set_option maxRecDepth 100000
def impl_compareMarks_ac : AC :=
 (.seq (.region 0 [⟨some 2, .box false 2 (.t 0), none⟩,
  ⟨some 3, .box false 3 (.t 1), none⟩,
  ⟨some 4, .mv (.c (.int .i64 0)), none⟩])
 (.seq (.region 13 [⟨some 5, .faddr 0 0 (.t 2), none⟩,
  ⟨some 6, .load false 1 (.t 5), none⟩,
  ⟨some 7, .faddr 0 0 (.t 3), none⟩,
  ⟨some 8, .load false 1 (.t 7), none⟩,
  ⟨some 9, .call false 13 [(.t 6), (.t 8)], none⟩,
  ⟨some 10, .faddr 1 1 (.t 2), none⟩,
  ⟨some 11, .load false 1 (.t 10), none⟩,
  ⟨some 12, .faddr 1 1 (.t 3), none⟩,
  ⟨some 13, .load false 1 (.t 12), none⟩,
  ⟨some 14, .call false 13 [(.t 11), (.t 13)], none⟩,
  ⟨some 15, .bslice 0 15 1 2 (.int .i64 0) [(0, (.t 9)), (1, (.t 14))], none⟩,
  ⟨some 16, .call false 14 [(.t 15)], none⟩,
  ⟨some 4, .mv (.t 16), none⟩])
 .ret))
structure G_impl_compareMarks (E : Env) : Prop where
  is : Is E 75 2 impl_compareMarks_ac [(4, none)]
  c_cmp_Or_g14 : G_cmp_Or_g14 E
  c_cmp_Compare_g13 : G_cmp_Compare_g13 E
theorem impl_compareMarks_E {E : Env} (h : G_impl_compareMarks E) (a0 a1 : U) : E 75 [a0, a1] =
 U.noTup a0 fun x1 => U.noTup a1 fun x2 => U.asAgg x1 fun us3 => if 0 = sizes (us3.take 0) then (us3[0]?).bind fun e4 => U.asVar false 1 e4 fun e5 => U.asAgg x2 fun us6 => if 0 = sizes (us6.take 0) then (us6[0]?).bind fun e7 => U.asVar false 1 e7 fun e8 => (E 13 [e5, e8]).bind fun t9 => U.asAgg x1 fun us10 => if 1 = sizes (us10.take 1) then (us10[1]?).bind fun e11 => U.asVar false 1 e11 fun e12 => U.asAgg x2 fun us13 => if 1 = sizes (us13.take 1) then (us13[1]?).bind fun e14 => U.asVar false 1 e14 fun e15 => (E 13 [e12, e15]).bind fun t16 => if partable (.val t9) = true ∧ t9.size = 1 then if partable (.val t16) = true ∧ t16.size = 1 then (E 14 [(.sl 1 [t9, t16])]).bind fun t17 => some t17 else none else none else none else none else none else none := (h.is _ rfl).trans ((runQ_V rfl).trans (by kernel_rfl))
end Go.Proofs.Ytfdcdbkblkehcaa.Am
namespace Go.Proofs.Ytfdcdbkblkehcaa.Am
open Go
set_option linter.unusedVariables false
set_option maxRecDepth 100000
def impl_areReads_b0 : AC :=
 (.seq (.region 0 [⟨some 8, .bin .lss (.t 7) (.t 6), none⟩])
 (.seq (.cond (.t 8) .skip (.exit 0))
 (.seq (.block 1 (.seq (.region 0 [⟨some 9, .mv (.t 7), none⟩,
  ⟨some 10, .iaddr 2 (.t 5) (.t 7), none⟩,
  ⟨some 11, .load true 2 (.t 10), none⟩,
  ⟨some 4, .alloc 4 (.agg [(.int .i64 0), (.int .i64 0)]), none⟩,
  ⟨some 3, .mv (.t 9), none⟩,
  ⟨none, .store 2 (.t 4) (.t 11), none⟩])
 (.seq (.region 24 [⟨some 12, .faddr 0 0 (.t 4), none⟩,
  ⟨some 13, .load false 1 (.t 12), none⟩,
  ⟨some 14, .call false 11 [(.t 13)], none⟩,
  ⟨some 15, .un .not (.t 14), none⟩,
  ⟨some 16, .mv (.t 15), none⟩,
  ⟨some 17, .faddr 1 1 (.t 4), some (16, false)⟩,
  ⟨some 18, .load false 1 (.t 17), some (16, false)⟩,
  ⟨some 19, .call false 10 [(.t 18), (.c (.int .i64 0)), (.c (.int .i64 999))], some (16, false)⟩,
  ⟨some 20, .un .not (.t 19), some (16, false)⟩,
  ⟨some 21, .pick (.t 16) (.c (.bool true)) (.t 20), none⟩,
  ⟨some 22, .mv (.t 21), none⟩,
  ⟨some 23, .mv (.t 3), some (22, false)⟩,
  ⟨some 24, .bin .gtr (.t 23) (.c (.int .i64 0)), some (22, false)⟩,
  ⟨some 25, .mv (.t 24), some (22, false)⟩,
  ⟨some 26, .mv (.t 0), some (25, true)⟩,
  ⟨some 27, .mv (.t 3), some (25, true)⟩,
  ⟨some 28, .bin .sub (.t 27) (.c (.int .i64 1)), some (25, true)⟩,
  ⟨some 29, .iaddr 2 (.t 26) (.t 28), some (25, true)⟩,
  ⟨some 30, .load true 2 (.t 29), some (25, true)⟩,
  ⟨some 31, .load true 2 (.t 4), some (25, true)⟩,
  ⟨some 32, .call false 75 [(.t 30), (.t 31)], some (25, true)⟩,
  ⟨some 33, .bin .geq (.t 32) (.c (.int .i64 0)), some (25, true)⟩,
  ⟨some 34, .pick (.t 25) (.t 33) (.c (.bool false)), some (22, false)⟩,
  ⟨some 35, .pick (.t 22) (.c (.bool true)) (.t 34), none⟩])
 (.cond (.t 35) (.seq (.region 0 [⟨some 2, .mv (.c (.bool false)), none⟩])
 .ret) .skip))))
 (.region 0 [⟨some 36, .bin .add (.t 7) (.c (.int .i64 1)), none⟩,
  ⟨some 7, .mv (.t 36), none⟩]))))
def impl_areReads_r0 : AC :=
 (.seq (.region 0 [⟨some 37, .mv (.t 0), none⟩,
  ⟨some 38, .len false (.t 37), none⟩,
  ⟨some 39, .bin .leq (.t 38) (.c (.int .i64 60)), none⟩,
  ⟨some 2, .mv (.t 39), none⟩])
 .ret)
def impl_areReads_ac : AC :=
 (.seq (.region 0 [⟨some 2, .mv (.c (.bool false)), none⟩])
 (.seq (.seq (.region 0 [⟨some 5, .mv (.t 0), none⟩,
  ⟨some 6, .len false (.t 5), none⟩,
  ⟨some 7, .mv (.c (.int .i64 0)), none⟩])
 (.block 0 (.loop ⟨[0, 5, 6, 7], [], []⟩ impl_areReads_b0)))
 impl_areReads_r0))
noncomputable def impl_areReads_l0 (E : Env) (x0 : U) (x5 : U) (x6 : U) (x7 : U) : Option U := loopK (roundOf E ⟨[0, 5, 6, 7], [], []⟩ impl_areReads_b0 (blockK 0 (seqK (fun s => exec E impl_areReads_r0 s (finish [(2, none)])) (finish [(2, none)])))) ([.val x0, .val x5, .val x6, .val x7], [])
theorem impl_areReads_l0_eq (E : Env) (x0 : U) (x5 : U) (x6 : U) (x7 : U) : impl_areReads_l0 E x0 x5 x6 x7 =
 (U.bin .lss x7 x6).bind fun t2 => U.asBool t2
 (U.asInt x7 fun n3 => U.elemAt 2 x5 n3 fun e4 => U.asVar true 2 e4 fun e5 => if storable (.val e5) = true ∧ e5.size = 2 then U.asAgg e5 fun us6 => if 0 = sizes (us6.take 0) then (us6[0]?).bind fun e7 => U.asVar false 1 e7 fun e8 => (E 11 [e8]).bind fun t9 => (U.un .not t9).bind fun t10 => U.asBool t10
 (some (.bool false))
 (U.asAgg e5 fun us11 => if 1 = sizes (us11.take 1) then (us11[1]?).bind fun e12 => U.asVar false 1 e12 fun e13 => (E 10 [e13, (.int .i64 0), (.int .i64 999)]).bind fun t14 => (U.un .not t14).bind fun t15 => U.asBool t15
 (some (.bool false))
 ((U.bin .gtr x7 (.int .i64 0)).bind fun t16 => U.asBool t16
 ((U.bin .sub x7 (.int .i64 1)).bind fun t17 => U.asInt t17 fun n18 => U.elemAt 2 x0 n18 fun e19 => U.asVar true 2 e19 fun e20 => U.asVar true 2 e5 fun e21 => (E 75 [e20, e21]).bind fun t22 => (U.bin .geq t22 (.int .i64 0)).bind fun t23 => U.asBool t23
 (some (.bool false))
 ((U.bin .add x7 (.int .i64 1)).bind fun t24 => impl_areReads_l0 E x0 x5 x6 t24))
 ((U.bin .add x7 (.int .i64 1)).bind fun t25 => impl_areReads_l0 E x0 x5 x6 t25)) else none) else none else none)
 ((U.lenOf false x0).bind fun n26 => (U.bin .leq (.int .i64 (n26 : Int)) (.int .i64 60)).bind fun t27 => some t27) :=
 (loop_eq E _ _ _ _).trans (by kernel_rfl)
structure G_impl_areReads (E : Env) : Prop where
  is : Is E 73 1 impl_areReads_ac [(2, none)]
  c_impl_isKey : G_impl_isKey E
  c_impl_in : G_impl_in E
  c_impl_compareMarks : G_impl_compareMarks E
theorem impl_areReads_E {E : Env} (h : G_impl_areReads E) (a0 : U) : E 73 [a0] =
 (U.lenOf false a0).bind fun n1 => impl_areReads_l0 E a0 a0 (.int .i64 (n1 : Int)) (.int .i64 0) := (h.is _ rfl).trans ((runQ_V rfl).trans (by kernel_rfl))
end Go.Proofs.Ytfdcdbkblkehcaa.Am
namespace Go.Proofs.Ytfdcdbkblkehcaa.Am
open Go
set_option linter.unusedVariables false
set_option maxRecDepth 100000
def impl_isValue_ac : AC :=
 (.seq (.region 0 [⟨some 2, .mv (.c (.bool false)), none⟩])
 (.seq (.region 0 [⟨some 3, .mv (.t 0), none⟩,
  ⟨some 4, .call false 10 [(.t 3), (.c (.int .i64 (-1))), (.c (.int .i64 99))], none⟩,
  ⟨some 2, .mv (.t 4), none⟩])
 .ret))
structure G_impl_isValue (E : Env) : Prop where
  is : Is E 76 1 impl_isValue_ac [(2, none)]
  c_impl_in : G_impl_in E
theorem impl_isValue_E {E : Env} (h : G_impl_isValue E) (a0 : U) : E 76 [a0] =
 (E 10 [a0, (.int .i64 (-1)), (.int .i64 99)]).bind fun t1 => some t1 := (h.is _ rfl).trans ((runQ_V rfl).trans (by kernel_rfl))
end Go.Proofs.Ytfdcdbkblkehcaa.Am
namespace Go.Proofs.Ytfdcdbkblkehcaa.Am
open Go
set_option linter.unusedVariables false
set_option maxRecDepth 100000
def impl_areWrites_b0 : AC :=
 (.seq (.region 0 [⟨some 8, .bin .lss (.t 7) (.t 6), none⟩])
 (.seq (.cond (.t 8) .skip (.exit 0))
 (.seq (.block 1 (.seq (.region 0 [⟨some 9, .mv (.t 7), none⟩,
  ⟨some 10, .iaddr 2 (.t 5) (.t 7), none⟩,
  ⟨some 11, .load true 2 (.t 10), none⟩,
  ⟨some 4, .alloc 4 (.agg [(.int .i64 0), (.int .i64 0)]), none⟩,
  ⟨some 3, .mv (.t 9), none⟩,
  ⟨none, .store 2 (.t 4) (.t 11), none⟩])
 (.seq (.region 25 [⟨some 12, .faddr 0 0 (.t 4), none⟩,
  ⟨some 13, .load false 1 (.t 12), none⟩,
  ⟨some 14, .call false 11 [(.t 13)], none⟩,
  ⟨some 15, .un .not (.t 14), none⟩,
  ⟨some 16, .mv (.t 15), none⟩,
  ⟨some 17, .faddr 1 1 (.t 4), some (16, false)⟩,
  ⟨some 18, .load false 1 (.t 17), some (16, false)⟩,
  ⟨some 19, .call false 76 [(.t 18)], some (16, false)⟩,
  ⟨some 20, .un .not (.t 19), some (16, false)⟩,
  ⟨some 21, .pick (.t 16) (.c (.bool true)) (.t 20), none⟩,
  ⟨some 22, .mv (.t 21), none⟩,
  ⟨some 23, .mv (.t 3), some (22, false)⟩,
  ⟨some 24, .bin .gtr (.t 23) (.c (.int .i64 0)), some (22, false)⟩,
  ⟨some 25, .mv (.t 24), some (22, false)⟩,
  ⟨some 26, .mv (.t 0), some (25, true)⟩,
  ⟨some 27, .mv (.t 3), some (25, true)⟩,
  ⟨some 28, .bin .sub (.t 27) (.c (.int .i64 1)), some (25, true)⟩,
  ⟨some 29, .iaddr 2 (.t 26) (.t 28), some (25, true)⟩,
  ⟨some 30, .faddr 0 0 (.t 29), some (25, true)⟩,
  ⟨some 31, .load false 1 (.t 30), some (25, true)⟩,
  ⟨some 32, .faddr 0 0 (.t 4), some (25, true)⟩,
  ⟨some 33, .load false 1 (.t 32), some (25, true)⟩,
  ⟨some 34, .bin .geq (.t 31) (.t 33), some (25, true)⟩,
  ⟨some 35, .pick (.t 25) (.t 34) (.c (.bool false)), some (22, false)⟩,
  ⟨some 36, .pick (.t 22) (.c (.bool true)) (.t 35), none⟩])
 (.cond (.t 36) (.seq (.region 0 [⟨some 2, .mv (.c (.bool false)), none⟩])
 .ret) .skip))))
 (.region 0 [⟨some 37, .bin .add (.t 7) (.c (.int .i64 1)), none⟩,
  ⟨some 7, .mv (.t 37), none⟩]))))
def impl_areWrites_r0 : AC :=
 (.seq (.region 0 [⟨some 2, .mv (.c (.bool true)), none⟩])
 .ret)
def impl_areWrites_ac : AC :=
 (.seq (.region 0 [⟨some 2, .mv (.c (.bool false)), none⟩])
 (.seq (.seq (.region 0 [⟨some 5, .mv (.t 0), none⟩,
  ⟨some 6, .len false (.t 5), none⟩,
  ⟨some 7, .mv (.c (.int .i64 0)), none⟩])
 (.block 0 (.loop ⟨[0, 5, 6, 7], [], []⟩ impl_areWrites_b0)))
 impl_areWrites_r0))
noncomputable def impl_areWrites_l0 (E : Env) (x0 : U) (x5 : U) (x6 : U) (x7 : U) : Option U := loopK (roundOf E ⟨[0, 5, 6, 7], [], []⟩ impl_areWrites_b0 (blockK 0 (seqK (fun s => exec E impl_areWrites_r0 s (finish [(2, none)])) (finish [(2, none)])))) ([.val x0, .val x5, .val x6, .val x7], [])
theorem impl_areWrites_l0_eq (E : Env) (x0 : U) (x5 : U) (x6 : U) (x7 : U) : impl_areWrites_l0 E x0 x5 x6 x7 =
 (U.bin .lss x7 x6).bind fun t2 => U.asBool t2
 (U.asInt x7 fun n3 => U.elemAt 2 x5 n3 fun e4 => U.asVar true 2 e4 fun e5 => if storable (.val e5) = true ∧ e5.size = 2 then U.asAgg e5 fun us6 => if 0 = sizes (us6.take 0) then (us6[0]?).bind fun e7 => U.asVar false 1 e7 fun e8 => (E 11 [e8]).bind fun t9 => (U.un .not t9).bind fun t10 => U.asBool t10
 (some (.bool false))
 (U.asAgg e5 fun us11 => if 1 = sizes (us11.take 1) then (us11[1]?).bind fun e12 => U.asVar false 1 e12 fun e13 => (E 76 [e13]).bind fun t14 => (U.un .not t14).bind fun t15 => U.asBool t15
 (some (.bool false))
 ((U.bin .gtr x7 (.int .i64 0)).bind fun t16 => U.asBool t16
 ((U.bin .sub x7 (.int .i64 1)).bind fun t17 => U.asInt t17 fun n18 => U.elemAt 2 x0 n18 fun e19 => U.fieldAt 0 0 e19 fun f20 => U.asVar false 1 f20 fun e21 => U.asAgg e5 fun us22 => if 0 = sizes (us22.take 0) then (us22[0]?).bind fun e23 => U.asVar false 1 e23 fun e24 => (U.bin .geq e21 e24).bind fun t25 => U.asBool t25
 (some (.bool false))
 ((U.bin .add x7 (.int .i64 1)).bind fun t26 => impl_areWrites_l0 E x0 x5 x6 t26) else none)
 ((U.bin .add x7 (.int .i64 1)).bind fun t27 => impl_areWrites_l0 E x0 x5 x6 t27)) else none) else none else none)
 (some (.bool true)) :=
 (loop_eq E _ _ _ _).trans (by kernel_rfl)
structure G_impl_areWrites (E : Env) : Prop where
  is : Is E 74 1 impl_areWrites_ac [(2, none)]
  c_impl_isKey : G_impl_isKey E
  c_impl_isValue : G_impl_isValue E
theorem impl_areWrites_E {E : Env} (h : G_impl_areWrites E) (a0 : U) : E 74 [a0] =
 (U.lenOf false a0).bind fun n1 => impl_areWrites_l0 E a0 a0 (.int .i64 (n1 : Int)) (.int .i64 0) := (h.is _ rfl).trans ((runQ_V rfl).trans (by kernel_rfl))
end Go.Proofs.Ytfdcdbkblkehcaa.Am
namespace Go.Proofs.Ytfdcdbkblkehcaa.Am
open Go
set_option linter.unusedVariables false
set_option maxRecDepth 100000
def impl_isEntry_ac : AC :=
 (.seq (.region 0 [⟨some 1, .box false 1 (.t 0), none⟩,
  ⟨some 2, .mv (.c (.bool false)), none⟩])
 (.seq (.region 0 [⟨some 3, .faddr 0 0 (.t 1), none⟩,
  ⟨some 4, .load false 1 (.t 3), none⟩,
  ⟨some 5, .call false 9 [(.t 4)], none⟩,
  ⟨some 6, .mv (.t 5), none⟩,
  ⟨some 7, .faddr 1 1 (.t 1), some (6, true)⟩,
  ⟨some 8, .load false 1 (.t 7), some (6, true)⟩,
  ⟨some 9, .call false 72 [(.t 8)], some (6, true)⟩,
  ⟨some 10, .pick (.t 6) (.t 9) (.c (.bool false)), none⟩,
  ⟨some 11, .mv (.t 10), none⟩,
  ⟨some 12, .faddr 2 2 (.t 1), some (11, true)⟩,
  ⟨some 13, .load false 1 (.t 12), some (11, true)⟩,
  ⟨some 14, .call false 73 [(.t 13)], some (11, true)⟩,
  ⟨some 15, .pick (.t 11) (.t 14) (.c (.bool false)), none⟩,
  ⟨some 16, .mv (.t 15), none⟩,
  ⟨some 17, .faddr 3 3 (.t 1), some (16, true)⟩,
  ⟨some 18, .load false 1 (.t 17), some (16, true)⟩,
  ⟨some 19, .call false 74 [(.t 18)], some (16, true)⟩,
  ⟨some 20, .pick (.t 16) (.t 19) (.c (.bool false)), none⟩,
  ⟨some 2, .mv (.t 20), none⟩])
 .ret))
structure G_impl_isEntry (E : Env) : Prop where
  is : Is E 250 1 impl_isEntry_ac [(2, none)]
  c_impl_isID : G_impl_isID E
  c_impl_IsStamp : G_impl_IsStamp E
  c_impl_areReads : G_impl_areReads E
  c_impl_areWrites : G_impl_areWrites E
theorem impl_isEntry_E {E : Env} (h : G_impl_isEntry E) (a0 : U) : E 250 [a0] =
 U.noTup a0 fun x1 => U.asAgg x1 fun us2 => if 0 = sizes (us2.take 0) then (us2[0]?).bind fun e3 => U.asVar false 1 e3 fun e4 => (E 9 [e4]).bind fun t5 => U.asBool t5
 (U.asAgg x1 fun us6 => if 1 = sizes (us6.take 1) then (us6[1]?).bind fun e7 => U.asVar false 1 e7 fun e8 => (E 72 [e8]).bind fun t9 => U.asBool t9
 (U.asAgg x1 fun us10 => if 2 = sizes (us10.take 2) then (us10[2]?).bind fun e11 => U.asVar false 1 e11 fun e12 => (E 73 [e12]).bind fun t13 => U.asBool t13
 (U.asAgg x1 fun us14 => if 3 = sizes (us14.take 3) then (us14[3]?).bind fun e15 => U.asVar false 1 e15 fun e16 => (E 74 [e16]).bind fun t17 => some t17 else none)
 (some (.bool false)) else none)
 (some (.bool false)) else none)
 (some (.bool false)) else none := (h.is _ rfl).trans ((runQ_V rfl).trans (by kernel_rfl))
end Go.Proofs.Ytfdcdbkblkehcaa.Am
namespace Go.Proofs.Ytfdcdbkblkehcaa.Am
open Go
set_option linter.unusedVariables false
set_option maxRecDepth 100000
def slices_IndexFunc_g253_b0 : AC :=
 (.seq (.region 0 [⟨some 9, .bin .lss (.t 8) (.t 7), none⟩])
 (.seq (.cond (.t 9) .skip (.exit 0))
 (.seq (.block 1 (.seq (.region 0 [⟨some 10, .mv (.t 8), none⟩,
  ⟨some 5, .mv (.t 10), none⟩])
 (.seq (.region 0 [⟨some 11, .mv (.t 1), none⟩,
  ⟨some 12, .mv (.t 0), none⟩,
  ⟨some 13, .mv (.t 5), none⟩,
  ⟨some 14, .iaddr 4 (.t 12) (.t 13), none⟩,
  ⟨some 15, .load true 4 (.t 14), none⟩,
  ⟨some 16, .callv false (.t 11) [(.t 15)], none⟩])
 (.cond (.t 16) (.seq (.region 0 [⟨some 17, .mv (.t 5), none⟩,
  ⟨some 4, .mv (.t 17), none⟩])
 .ret) .skip))))
 (.region 0 [⟨some 18, .bin .add (.t 8) (.c (.int .i64 1)), none⟩,
  ⟨some 8, .mv (.t 18), none⟩]))))
def slices_IndexFunc_g253_r0 : AC :=
 (.seq (.region 0 [⟨some 4, .mv (.c (.int .i64 (-1))), none⟩])
 .ret)
def slices_IndexFunc_g253_ac : AC :=
 (.seq (.region 0 [⟨some 4, .mv (.c (.int .i64 0)), none⟩])
 (.seq (.seq (.region 0 [⟨some 6, .mv (.t 0), none⟩,
  ⟨some 7, .len false (.t 6), none⟩,
  ⟨some 8, .mv (.c (.int .i64 0)), none⟩])
 (.block 0 (.loop ⟨[0, 1, 7, 8], [], []⟩ slices_IndexFunc_g253_b0)))
 slices_IndexFunc_g253_r0))
noncomputable def slices_IndexFunc_g253_l0 (E : Env) (x0 : U) (x1 : U) (x7 : U) (x8 : U) : Option U := loopK (roundOf E ⟨[0, 1, 7, 8], [], []⟩ slices_IndexFunc_g253_b0 (blockK 0 (seqK (fun s => exec E slices_IndexFunc_g253_r0 s (finish [(4, none)])) (finish [(4, none)])))) ([.val x0, .val x1, .val x7, .val x8], [])
theorem slices_IndexFunc_g253_l0_eq (E : Env) (x0 : U) (x1 : U) (x7 : U) (x8 : U) : slices_IndexFunc_g253_l0 E x0 x1 x7 x8 =
 (U.bin .lss x8 x7).bind fun t2 => U.asBool t2
 (U.asInt x8 fun n3 => U.elemAt 4 x0 n3 fun e4 => U.asVar true 4 e4 fun e5 => U.asFn x1 fun r6 caps7 => (E r6 ([e5] ++ caps7)).bind fun t8 => U.asBool t8
 (some x8)
 ((U.bin .add x8 (.int .i64 1)).bind fun t9 => slices_IndexFunc_g253_l0 E x0 x1 x7 t9))
 (some (.int .i64 (-1))) :=
 (loop_eq E _ _ _ _).trans (by kernel_rfl)
structure G_slices_IndexFunc_g253 (E : Env) : Prop where
  is : Is E 253 2 slices_IndexFunc_g253_ac [(4, none)]
theorem slices_IndexFunc_g253_E {E : Env} (h : G_slices_IndexFunc_g253 E) (a0 a1 : U) : E 253 [a0, a1] =
 (U.lenOf false a0).bind fun n1 => slices_IndexFunc_g253_l0 E a0 a1 (.int .i64 (n1 : Int)) (.int .i64 0) := (h.is _ rfl).trans ((runQ_V rfl).trans (by kernel_rfl))
end Go.Proofs.Ytfdcdbkblkehcaa.Am
namespace Go.Proofs.Ytfdcdbkblkehcaa.Am
open Go
set_option linter.unusedVariables false
set_option maxRecDepth 100000
def impl_FindEntry_1_ac : AC :=
 (.seq (.region 0 [⟨some 2, .box false 2 (.t 0), none⟩,
  ⟨some 3, .mv (.c (.bool false)), none⟩])
 (.seq (.region 0 [⟨some 4, .faddr 0 0 (.t 2), none⟩,
  ⟨some 5, .load false 1 (.t 4), none⟩,
  ⟨some 6, .load false 1 (.t 1), none⟩,
  ⟨some 7, .bin .eql (.t 5) (.t 6), none⟩,
  ⟨some 3, .mv (.t 7), none⟩])
 .ret))
structure G_impl_FindEntry_1 (E : Env) : Prop where
  is : Is E 252 2 impl_FindEntry_1_ac [(3, none)]
theorem impl_FindEntry_1_E {E : Env} (h : G_impl_FindEntry_1 E) (a0 a1 : U) : E 252 [a0, a1] =
 U.noTup a0 fun x1 => U.asAgg x1 fun us2 => if 0 = sizes (us2.take 0) then (us2[0]?).bind fun e3 => U.asVar false 1 e3 fun e4 => U.asVp a1 fun v5 => U.asVar false 1 v5 fun e6 => (U.bin .eql e4 e6).bind fun t7 => some t7 else none := (h.is _ rfl).trans ((runQ_V rfl).trans (by kernel_rfl))
end Go.Proofs.Ytfdcdbkblkehcaa.Am
namespace Go.Proofs.Ytfdcdbkblkehcaa.Am
open Go
set_option linter.unusedVariables false
set_option maxRecDepth 100000
def impl_FindEntry_ac : AC :=
 (.seq (.region 0 [⟨some 3, .box true 3 (.t 1), none⟩,
  ⟨some 4, .mv (.c (.int .i64 0)), none⟩])
 (.seq (.region 0 [⟨some 5, .mv (.t 0), none⟩,
  ⟨some 6, .mkfn 252 [(.t 3)], none⟩,
  ⟨some 7, .call false 253 [(.t 5), (.t 6)], none⟩,
  ⟨some 4, .mv (.t 7), none⟩])
 .ret))
structure G_impl_FindEntry (E : Env) : Prop where
  is : Is E 251 2 impl_FindEntry_ac [(4, none)]
  c_slices_IndexFunc_g253 : G_slices_IndexFunc_g253 E
  c_impl_FindEntry_1 : G_impl_FindEntry_1 E
theorem impl_FindEntry_E {E : Env} (h : G_impl_FindEntry E) (a0 a1 : U) : E 251 [a0, a1] =
 U.noTup a1 fun x1 => (E 253 [a0, (.fn 252 [(.vp x1)])]).bind fun t2 => U.asFlat t2 fun t3 => some t3 := (h.is _ rfl).trans ((runQ_V rfl).trans (by kernel_rfl))
end Go.Proofs.Ytfdcdbkblkehcaa.Am
namespace Go.Proofs.Ytfdcdbkblkehcaa.Am
open Go
set_option linter.unusedVariables false
set_option maxRecDepth 100000
def slices_IndexFunc_g55_b0 : AC :=
 (.seq (.region 0 [⟨some 9, .bin .lss (.t 8) (.t 7), none⟩])
 (.seq (.cond (.t 9) .skip (.exit 0))
 (.seq (.block 1 (.seq (.region 0 [⟨some 10, .mv (.t 8), none⟩,
  ⟨some 5, .mv (.t 10), none⟩])
 (.seq (.region 0 [⟨some 11, .mv (.t 1), none⟩,
  ⟨some 12, .mv (.t 0), none⟩,
  ⟨some 13, .mv (.t 5), none⟩,
  ⟨some 14, .iaddr 2 (.t 12) (.t 13), none⟩,
  ⟨some 15, .load true 2 (.t 14), none⟩,
  ⟨some 16, .callv false (.t 11) [(.t 15)], none⟩])
 (.cond (.t 16) (.seq (.region 0 [⟨some 17, .mv (.t 5), none⟩,
  ⟨some 4, .mv (.t 17), none⟩])
 .ret) .skip))))
 (.region 0 [⟨some 18, .bin .add (.t 8) (.c (.int .i64 1)), none⟩,
  ⟨some 8, .mv (.t 18), none⟩]))))
def slices_IndexFunc_g55_r0 : AC :=
 (.seq (.region 0 [⟨some 4, .mv (.c (.int .i64 (-1))), none⟩])
 .ret)
def slices_IndexFunc_g55_ac : AC :=
 (.seq (.region 0 [⟨some 4, .mv (.c (.int .i64 0)), none⟩])
 (.seq (.seq (.region 0 [⟨some 6, .mv (.t 0), none⟩,
  ⟨some 7, .len false (.t 6), none⟩,
  ⟨some 8, .mv (.c (.int .i64 0)), none⟩])
 (.block 0 (.loop ⟨[0, 1, 7, 8], [], []⟩ slices_IndexFunc_g55_b0)))
 slices_IndexFunc_g55_r0))
noncomputable def slices_IndexFunc_g55_l0 (E : Env) (x0 : U) (x1 : U) (x7 : U) (x8 : U) : Option U := loopK (roundOf E ⟨[0, 1, 7, 8], [], []⟩ slices_IndexFunc_g55_b0 (blockK 0 (seqK (fun s => exec E slices_IndexFunc_g55_r0 s (finish [(4, none)])) (finish [(4, none)])))) ([.val x0, .val x1, .val x7, .val x8], [])
theorem slices_IndexFunc_g55_l0_eq (E : Env) (x0 : U) (x1 : U) (x7 : U) (x8 : U) : slices_IndexFunc_g55_l0 E x0 x1 x7 x8 =
 (U.bin .lss x8 x7).bind fun t2 => U.asBool t2
 (U.asInt x8 fun n3 => U.elemAt 2 x0 n3 fun e4 => U.asVar true 2 e4 fun e5 => U.asFn x1 fun r6 caps7 => (E r6 ([e5] ++ caps7)).bind fun t8 => U.asBool t8
 (some x8)
 ((U.bin .add x8 (.int .i64 1)).bind fun t9 => slices_IndexFunc_g55_l0 E x0 x1 x7 t9))
 (some (.int .i64 (-1))) :=
 (loop_eq E _ _ _ _).trans (by kernel_rfl)
structure G_slices_IndexFunc_g55 (E : Env) : Prop where
  is : Is E 55 2 slices_IndexFunc_g55_ac [(4, none)]
theorem slices_IndexFunc_g55_E {E : Env} (h : G_slices_IndexFunc_g55 E) (a0 a1 : U) : E 55 [a0, a1] =
 (U.lenOf false a0).bind fun n1 => slices_IndexFunc_g55_l0 E a0 a1 (.int .i64 (n1 : Int)) (.int .i64 0) := (h.is _ rfl).trans ((runQ_V rfl).trans (by kernel_rfl))
end Go.Proofs.Ytfdcdbkblkehcaa.Am
namespace Go.Proofs.Ytfdcdbkblkehcaa.Am
open Go
set_option linter.unusedVariables false
set_option maxRecDepth 100000
def slices_ContainsFunc_g54_ac : AC :=
 (.seq (.region 0 [⟨some 4, .mv (.c (.bool false)), none⟩])
 (.seq (.region 0 [⟨some 5, .mv (.t 0), none⟩,
  ⟨some 6, .mv (.t 1), none⟩,
  ⟨some 7, .call false 55 [(.t 5), (.t 6)], none⟩,
  ⟨some 8, .bin .geq (.t 7) (.c (.int .i64 0)), none⟩,
  ⟨some 4, .mv (.t 8), none⟩])
 .ret))
structure G_slices_ContainsFunc_g54 (E : Env) : Prop where
  is : Is E 54 2 slices_ContainsFunc_g54_ac [(4, none)]
  c_slices_IndexFunc_g55 : G_slices_IndexFunc_g55 E
theorem slices_ContainsFunc_g54_E {E : Env} (h : G_slices_ContainsFunc_g54 E) (a0 a1 : U) : E 54 [a0, a1] =
 (E 55 [a0, a1]).bind fun t1 => (U.bin .geq t1 (.int .i64 0)).bind fun t2 => some t2 := (h.is _ rfl).trans ((runQ_V rfl).trans (by kernel_rfl))
end Go.Proofs.Ytfdcdbkblkehcaa.Am
namespace Go.Proofs.Ytfdcdbkblkehcaa.Am
open Go
set_option linter.unusedVariables false
set_option maxRecDepth 100000
def impl_Entry_writes_1_ac : AC :=
 (.seq (.region 0 [⟨some 2, .box false 2 (.t 0), none⟩,
  ⟨some 3, .mv (.c (.bool false)), none⟩])
 (.seq (.region 0 [⟨some 4, .faddr 0 0 (.t 2), none⟩,
  ⟨some 5, .load false 1 (.t 4), none⟩,
  ⟨some 6, .load false 1 (.t 1), none⟩,
  ⟨some 7, .bin .eql (.t 5) (.t 6), none⟩,
  ⟨some 3, .mv (.t 7), none⟩])
 .ret))
structure G_impl_Entry_writes_1 (E : Env) : Prop where
  is : Is E 53 2 impl_Entry_writes_1_ac [(3, none)]
theorem impl_Entry_writes_1_E {E : Env} (h : G_impl_Entry_writes_1 E) (a0 a1 : U) : E 53 [a0, a1] =
 U.noTup a0 fun x1 => U.asAgg x1 fun us2 => if 0 = sizes (us2.take 0) then (us2[0]?).bind fun e3 => U.asVar false 1 e3 fun e4 => U.asVp a1 fun v5 => U.asVar false 1 v5 fun e6 => (U.bin .eql e4 e6).bind fun t7 => some t7 else none := (h.is _ rfl).trans ((runQ_V rfl).trans (by kernel_rfl))
end Go.Proofs.Ytfdcdbkblkehcaa.Am
namespace Go.Proofs.Ytfdcdbkblkehcaa.Am
open Go
set_option linter.unusedVariables false
set_option maxRecDepth 100000
def impl_Entry_writes_ac : AC :=
 (.seq (.region 0 [⟨some 2, .box false 2 (.t 0), none⟩,
  ⟨some 3, .box true 3 (.t 1), none⟩,
  ⟨some 4, .mv (.c (.bool false)), none⟩])
 (.seq (.region 0 [⟨some 5, .faddr 3 3 (.t 2), none⟩,
  ⟨some 6, .load false 1 (.t 5), none⟩,
  ⟨some 7, .mkfn 53 [(.t 3)], none⟩,
  ⟨some 8, .call false 54 [(.t 6), (.t 7)], none⟩,
  ⟨some 4, .mv (.t 8), none⟩])
 .ret))
structure G_impl_Entry_writes (E : Env) : Prop where
  is : Is E 52 2 impl_Entry_writes_ac [(4, none)]
  c_slices_ContainsFunc_g54 : G_slices_ContainsFunc_g54 E
  c_impl_Entry_writes_1 : G_impl_Entry_writes_1 E
theorem impl_Entry_writes_E {E : Env} (h : G_impl_Entry_writes E) (a0 a1 : U) : E 52 [a0, a1] =
 U.noTup a0 fun x1 => U.noTup a1 fun x2 => U.asAgg x1 fun us3 => if 3 = sizes (us3.take 3) then (us3[3]?).bind fun e4 => U.asVar false 1 e4 fun e5 => (E 54 [e5, (.fn 53 [(.vp x2)])]).bind fun t6 => U.asFlat t6 fun t7 => some t7 else none := (h.is _ rfl).trans ((runQ_V rfl).trans (by kernel_rfl))
end Go.Proofs.Ytfdcdbkblkehcaa.Am
namespace Go.Proofs.Ytfdcdbkblkehcaa.Am
open Go
set_option linter.unusedVariables false
set_option maxRecDepth 100000
def impl_WriterOf_b0 : AC :=
 (.seq (.region 0 [⟨some 10, .bin .lss (.t 9) (.t 8), none⟩])
 (.seq (.cond (.t 10) .skip (.exit 0))
 (.seq (.block 1 (.seq (.region 0 [⟨some 11, .iaddr 4 (.t 7) (.t 9), none⟩,
  ⟨some 12, .load true 4 (.t 11), none⟩,
  ⟨some 6, .alloc 6 (.agg [(.int .i64 0), (.int .i64 0), (.nsl 2), (.nsl 2)]), none⟩,
  ⟨none, .store 4 (.t 6) (.t 12), none⟩])
 (.seq (.region 0 [⟨some 13, .faddr 1 1 (.t 6), none⟩,
  ⟨some 14, .load false 1 (.t 13), none⟩,
  ⟨some 15, .faddr 1 1 (.t 3), none⟩,
  ⟨some 16, .load false 1 (.t 15), none⟩,
  ⟨some 17, .bin .eql (.t 14) (.t 16), none⟩,
  ⟨some 18, .mv (.t 17), none⟩,
  ⟨some 19, .load true 4 (.t 6), some (18, true)⟩,
  ⟨some 20, .faddr 0 0 (.t 3), some (18, true)⟩,
  ⟨some 21, .load false 1 (.t 20), some (18, true)⟩,
  ⟨some 22, .call false 52 [(.t 19), (.t 21)], some (18, true)⟩,
  ⟨some 23, .pick (.t 18) (.t 22) (.c (.bool false)), none⟩])
 (.cond (.t 23) (.seq (.region 0 [⟨some 24, .faddr 0 0 (.t 6), none⟩,
  ⟨some 25, .load false 1 (.t 24), none⟩,
  ⟨some 4, .mv (.t 25), none⟩])
 .ret) .skip))))
 (.region 0 [⟨some 26, .bin .add (.t 9) (.c (.int .i64 1)), none⟩,
  ⟨some 9, .mv (.t 26), none⟩]))))
def impl_WriterOf_r0 : AC :=
 (.seq (.region 0 [⟨some 4, .mv (.c (.int .i64 0)), none⟩])
 .ret)
def impl_WriterOf_ac : AC :=
 (.seq (.region 0 [⟨some 3, .box false 3 (.t 1), none⟩,
  ⟨some 4, .mv (.c (.int .i64 0)), none⟩])
 (.seq (.seq (.region 0 [⟨some 7, .mv (.t 0), none⟩,
  ⟨some 8, .len false (.t 7), none⟩,
  ⟨some 9, .mv (.c (.int .i64 0)), none⟩])
 (.block 0 (.loop ⟨[3, 7, 8, 9], [], [(3, false)]⟩ impl_WriterOf_b0)))
 impl_WriterOf_r0))
noncomputable def impl_WriterOf_l0 (E : Env) (x7 : U) (x8 : U) (x9 : U) (b3 : U) : Option U := loopK (roundOf E ⟨[3, 7, 8, 9], [], [(3, false)]⟩ impl_WriterOf_b0 (blockK 0 (seqK (fun s => exec E impl_WriterOf_r0 s (finish [(4, none)])) (finish [(4, none)])))) ([.ptr 3 [], .val x7, .val x8, .val x9], [.box (.val b3)])
theorem impl_WriterOf_l0_eq (E : Env) (x7 : U) (x8 : U) (x9 : U) (b3 : U) : impl_WriterOf_l0 E x7 x8 x9 b3 =
 (U.bin .lss x9 x8).bind fun t3 => U.asBool t3
 (U.asInt x9 fun n4 => U.elemAt 4 x7 n4 fun e5 => U.asVar true 4 e5 fun e6 => if storable (.val e6) = true ∧ e6.size = 4 then U.asAgg e6 fun us7 => if 1 = sizes (us7.take 1) then (us7[1]?).bind fun e8 => U.asVar false 1 e8 fun e9 => U.asAgg b3 fun us10 => if 1 = sizes (us10.take 1) then (us10[1]?).bind fun e11 => U.asVar false 1 e11 fun e12 => (U.bin .eql e9 e12).bind fun t13 => U.asBool t13
 (U.asVar true 4 e6 fun e14 => U.asAgg b3 fun us15 => if 0 = sizes (us15.take 0) then (us15[0]?).bind fun e16 => U.asVar false 1 e16 fun e17 => (E 52 [e14, e17]).bind fun t18 => U.asBool t18
 (U.asAgg e6 fun us19 => if 0 = sizes (us19.take 0) then (us19[0]?).bind fun e20 => U.asVar false 1 e20 fun e21 => some e21 else none)
 ((U.bin .add x9 (.int .i64 1)).bind fun t22 => impl_WriterOf_l0 E x7 x8 t22 b3) else none)
 ((U.bin .add x9 (.int .i64 1)).bind fun t23 => impl_WriterOf_l0 E x7 x8 t23 b3) else none else none else none)
 (some (.int .i64 0)) :=
 (loop_eq E _ _ _ _).trans (by kernel_rfl)
structure G_impl_WriterOf (E : Env) : Prop where
  is : Is E 249 2 impl_WriterOf_ac [(4, none)]
  c_impl_Entry_writes : G_impl_Entry_writes E
theorem impl_WriterOf_E {E : Env} (h : G_impl_WriterOf E) (a0 a1 : U) : E 249 [a0, a1] =
 U.noTup a1 fun x1 => (U.lenOf false a0).bind fun n2 => impl_WriterOf_l0 E a0 (.int .i64 (n2 : Int)) (.int .i64 0) x1 := (h.is _ rfl).trans ((runQ_V rfl).trans (by kernel_rfl))
end Go.Proofs.Ytfdcdbkblkehcaa.Am
namespace Go.Proofs.Ytfdcdbkblkehcaa.Am
open Go
set_option linter.unusedVariables false
set_option maxRecDepth 100000
def impl_IsHistory_b2 : AC :=
 (.seq (.region 0 [⟨some 16, .bin .lss (.t 15) (.t 14), none⟩])
 (.seq (.cond (.t 16) .skip (.exit 0))
 (.seq (.block 1 (.seq (.region 0 [⟨some 17, .mv (.t 15), none⟩,
  ⟨some 18, .iaddr 4 (.t 13) (.t 15), none⟩,
  ⟨some 19, .load true 4 (.t 18), none⟩,
  ⟨some 4, .alloc 4 (.agg [(.int .i64 0), (.int .i64 0), (.nsl 2), (.nsl 2)]), none⟩,
  ⟨some 3, .mv (.t 17), none⟩,
  ⟨none, .store 4 (.t 4) (.t 19), none⟩])
 (.seq (.seq (.region 0 [⟨some 20, .load true 4 (.t 4), none⟩,
  ⟨some 21, .call false 250 [(.t 20)], none⟩,
  ⟨some 22, .un .not (.t 21), none⟩,
  ⟨some 23, .mv (.t 22), none⟩,
  ⟨some 24, .mv (.t 0), some (23, false)⟩,
  ⟨some 25, .faddr 0 0 (.t 4), some (23, false)⟩,
  ⟨some 26, .load false 1 (.t 25), some (23, false)⟩,
  ⟨some 27, .call false 251 [(.t 24), (.t 26)], some (23, false)⟩,
  ⟨some 28, .mv (.t 3), some (23, false)⟩,
  ⟨some 29, .bin .neq (.t 27) (.t 28), some (23, false)⟩,
  ⟨some 30, .pick (.t 23) (.c (.bool true)) (.t 29), none⟩])
 (.cond (.t 30) (.seq (.region 0 [⟨some 2, .mv (.c (.bool false)), none⟩])
 .ret) .skip))
 (.seq (.region 30 [⟨some 31, .mv (.t 3), none⟩,
  ⟨some 32, .bin .gtr (.t 31) (.c (.int .i64 0)), none⟩,
  ⟨some 33, .mv (.t 32), none⟩,
  ⟨some 34, .faddr 1 1 (.t 4), some (33, true)⟩,
  ⟨some 35, .load false 1 (.t 34), some (33, true)⟩,
  ⟨some 36, .mv (.t 0), some (33, true)⟩,
  ⟨some 37, .mv (.t 3), some (33, true)⟩,
  ⟨some 38, .bin .sub (.t 37) (.c (.int .i64 1)), some (33, true)⟩,
  ⟨some 39, .iaddr 4 (.t 36) (.t 38), some (33, true)⟩,
  ⟨some 40, .faddr 1 1 (.t 39), some (33, true)⟩,
  ⟨some 41, .load false 1 (.t 40), some (33, true)⟩,
  ⟨some 42, .bin .lss (.t 35) (.t 41), some (33, true)⟩,
  ⟨some 43, .mv (.t 42), some (33, true)⟩,
  ⟨some 44, .faddr 1 1 (.t 4), some (43, false)⟩,
  ⟨some 45, .load false 1 (.t 44), some (43, false)⟩,
  ⟨some 46, .mv (.t 0), some (43, false)⟩,
  ⟨some 47, .mv (.t 3), some (43, false)⟩,
  ⟨some 48, .bin .sub (.t 47) (.c (.int .i64 1)), some (43, false)⟩,
  ⟨some 49, .iaddr 4 (.t 46) (.t 48), some (43, false)⟩,
  ⟨some 50, .faddr 1 1 (.t 49), some (43, false)⟩,
  ⟨some 51, .load false 1 (.t 50), some (43, false)⟩,
  ⟨some 52, .bin .eql (.t 45) (.t 51), some (43, false)⟩,
  ⟨some 53, .mv (.t 52), some (43, false)⟩,
  ⟨some 54, .faddr 3 3 (.t 4), some (53, true)⟩,
  ⟨some 55, .load false 1 (.t 54), some (53, true)⟩,
  ⟨some 56, .len false (.t 55), some (53, true)⟩,
  ⟨some 57, .bin .gtr (.t 56) (.c (.int .i64 0)), some (53, true)⟩,
  ⟨some 58, .pick (.t 53) (.t 57) (.c (.bool false)), some (43, false)⟩,
  ⟨some 59, .pick (.t 43) (.c (.bool true)) (.t 58), some (33, true)⟩,
  ⟨some 60, .pick (.t 33) (.t 59) (.c (.bool false)), none⟩])
 (.cond (.t 60) (.seq (.region 0 [⟨some 2, .mv (.c (.bool false)), none⟩])
 .ret) .skip)))))
 (.region 0 [⟨some 61, .bin .add (.t 15) (.c (.int .i64 1)), none⟩,
  ⟨some 15, .mv (.t 61), none⟩]))))
def impl_IsHistory_b1 : AC :=
 (.seq (.region 0 [⟨some 72, .bin .lss (.t 71) (.t 70), none⟩])
 (.seq (.cond (.t 72) .skip (.exit 4))
 (.seq (.block 5 (.seq (.region 0 [⟨some 73, .iaddr 2 (.t 69) (.t 71), none⟩,
  ⟨some 74, .load true 2 (.t 73), none⟩,
  ⟨some 8, .alloc 8 (.agg [(.int .i64 0), (.int .i64 0)]), none⟩,
  ⟨none, .store 2 (.t 8) (.t 74), none⟩])
 (.seq (.region 0 [⟨some 75, .mv (.t 0), none⟩,
  ⟨some 76, .load true 2 (.t 8), none⟩,
  ⟨some 77, .call false 249 [(.t 75), (.t 76)], none⟩,
  ⟨some 9, .mv (.t 77), none⟩])
 (.seq (.region 0 [⟨some 78, .mv (.t 9), none⟩,
  ⟨some 79, .faddr 0 0 (.t 6), none⟩,
  ⟨some 80, .load false 1 (.t 79), none⟩,
  ⟨some 81, .bin .eql (.t 78) (.t 80), none⟩,
  ⟨some 82, .mv (.t 81), none⟩,
  ⟨some 83, .faddr 1 1 (.t 8), some (82, false)⟩,
  ⟨some 84, .load false 1 (.t 83), some (82, false)⟩,
  ⟨some 85, .bin .gtr (.t 84) (.c (.int .i64 0)), some (82, false)⟩,
  ⟨some 86, .mv (.t 85), some (82, false)⟩,
  ⟨some 87, .mv (.t 9), some (86, true)⟩,
  ⟨some 88, .bin .eql (.t 87) (.c (.int .i64 0)), some (86, true)⟩,
  ⟨some 89, .pick (.t 86) (.t 88) (.c (.bool false)), some (82, false)⟩,
  ⟨some 90, .pick (.t 82) (.c (.bool true)) (.t 89), none⟩])
 (.cond (.t 90) (.seq (.region 0 [⟨some 2, .mv (.c (.bool false)), none⟩])
 .ret) .skip)))))
 (.region 0 [⟨some 91, .bin .add (.t 71) (.c (.int .i64 1)), none⟩,
  ⟨some 71, .mv (.t 91), none⟩]))))
def impl_IsHistory_r0 : AC :=
 (.region 0 [⟨some 92, .bin .add (.t 64) (.c (.int .i64 1)), none⟩,
  ⟨some 64, .mv (.t 92), none⟩])
def impl_IsHistory_b0 : AC :=
 (.seq (.region 0 [⟨some 65, .bin .lss (.t 64) (.t 63), none⟩])
 (.seq (.cond (.t 65) .skip (.exit 2))
 (.seq (.block 3 (.seq (.region 0 [⟨some 66, .iaddr 4 (.t 62) (.t 64), none⟩,
  ⟨some 67, .load true 4 (.t 66), none⟩,
  ⟨some 6, .alloc 6 (.agg [(.int .i64 0), (.int .i64 0), (.nsl 2), (.nsl 2)]), none⟩,
  ⟨none, .store 4 (.t 6) (.t 67), none⟩])
 (.seq (.region 0 [⟨some 68, .faddr 2 2 (.t 6), none⟩,
  ⟨some 69, .load false 1 (.t 68), none⟩,
  ⟨some 70, .len false (.t 69), none⟩,
  ⟨some 71, .mv (.c (.int .i64 0)), none⟩])
 (.block 4 (.loop ⟨[0, 6, 62, 63, 64, 69, 70, 71], [], [(6, false)]⟩ impl_IsHistory_b1)))))
 impl_IsHistory_r0)))
def impl_IsHistory_r1 : AC :=
 (.seq (.region 0 [⟨some 2, .mv (.c (.bool true)), none⟩])
 .ret)
def impl_IsHistory_r2 : AC :=
 (.seq (.seq (.region 0 [⟨some 62, .mv (.t 0), none⟩,
  ⟨some 63, .len false (.t 62), none⟩,
  ⟨some 64, .mv (.c (.int .i64 0)), none⟩])
 (.block 2 (.loop ⟨[0, 62, 63, 64], [], []⟩ impl_IsHistory_b0)))
 impl_IsHistory_r1)
def impl_IsHistory_ac : AC :=
 (.seq (.region 0 [⟨some 2, .mv (.c (.bool false)), none⟩])
 (.seq (.seq (.region 0 [⟨some 10, .mv (.t 0), none⟩,
  ⟨some 11, .len false (.t 10), none⟩,
  ⟨some 12, .bin .gtr (.t 11) (.c (.int .i64 9)), none⟩])
 (.cond (.t 12) (.seq (.region 0 [⟨some 2, .mv (.c (.bool false)), none⟩])
 .ret) .skip))
 (.seq (.seq (.region 0 [⟨some 13, .mv (.t 0), none⟩,
  ⟨some 14, .len false (.t 13), none⟩,
  ⟨some 15, .mv (.c (.int .i64 0)), none⟩])
 (.block 0 (.loop ⟨[0, 13, 14, 15], [], []⟩ impl_IsHistory_b2)))
 impl_IsHistory_r2)))
noncomputable def impl_IsHistory_l2 (E : Env) (x0 : U) (x13 : U) (x14 : U) (x15 : U) : Option U := loopK (roundOf E ⟨[0, 13, 14, 15], [], []⟩ impl_IsHistory_b2 (blockK 0 (seqK (fun s => exec E impl_IsHistory_r2 s (finish [(2, none)])) (finish [(2, none)])))) ([.val x0, .val x13, .val x14, .val x15], [])
noncomputable def impl_IsHistory_l0 (E : Env) (x0 : U) (x62 : U) (x63 : U) (x64 : U) : Option U := loopK (roundOf E ⟨[0, 62, 63, 64], [], []⟩ impl_IsHistory_b0 (blockK 2 (seqK (fun s => exec E impl_IsHistory_r1 s (finish [(2, none)])) (finish [(2, none)])))) ([.val x0, .val x62, .val x63, .val x64], [])
noncomputable def impl_IsHistory_l1 (E : Env) (x0 : U) (x62 : U) (x63 : U) (x64 : U) (x69 : U) (x70 : U) (x71 : U) (b6 : U) : Option U := loopK (roundOf E ⟨[0, 6, 62, 63, 64, 69, 70, 71], [], [(6, false)]⟩ impl_IsHistory_b1 (blockK 4 (blockK 3 (seqK (fun s => exec E impl_IsHistory_r0 s (roundK ⟨[0, 62, 63, 64], [], []⟩ (loopK (roundOf E ⟨[0, 62, 63, 64], [], []⟩ impl_IsHistory_b0 (blockK 2 (seqK (fun s => exec E impl_IsHistory_r1 s (finish [(2, none)])) (finish [(2, none)]))))) (blockK 2 (seqK (fun s => exec E impl_IsHistory_r1 s (finish [(2, none)])) (finish [(2, none)]))))) (roundK ⟨[0, 62, 63, 64], [], []⟩ (loopK (roundOf E ⟨[0, 62, 63, 64], [], []⟩ impl_IsHistory_b0 (blockK 2 (seqK (fun s => exec E impl_IsHistory_r1 s (finish [(2, none)])) (finish [(2, none)]))))) (blockK 2 (seqK (fun s => exec E impl_IsHistory_r1 s (finish [(2, none)])) (finish [(2, none)])))))))) ([.val x0, .ptr 6 [], .val x62, .val x63, .val x64, .val x69, .val x70, .val x71], [.box (.val b6)])
theorem impl_IsHistory_l2_eq (E : Env) (x0 : U) (x13 : U) (x14 : U) (x15 : U) : impl_IsHistory_l2 E x0 x13 x14 x15 =
 (U.bin .lss x15 x14).bind fun t4 => U.asBool t4
 (U.asInt x15 fun n5 => U.elemAt 4 x13 n5 fun e6 => U.asVar true 4 e6 fun e7 => if storable (.val e7) = true ∧ e7.size = 4 then U.asVar true 4 e7 fun e8 => (E 250 [e8]).bind fun t9 => (U.un .not t9).bind fun t10 => U.asBool t10
 (some (.bool false))
 (U.asAgg e7 fun us11 => if 0 = sizes (us11.take 0) then (us11[0]?).bind fun e12 => U.asVar false 1 e12 fun e13 => (E 251 [x0, e13]).bind fun t14 => (U.bin .neq t14 x15).bind fun t15 => U.asBool t15
 (some (.bool false))
 ((U.bin .gtr x15 (.int .i64 0)).bind fun t16 => U.asBool t16
 (U.asAgg e7 fun us17 => if 1 = sizes (us17.take 1) then (us17[1]?).bind fun e18 => U.asVar false 1 e18 fun e19 => (U.bin .sub x15 (.int .i64 1)).bind fun t20 => U.asInt t20 fun n21 => U.elemAt 4 x0 n21 fun e22 => U.fieldAt 1 1 e22 fun f23 => U.asVar false 1 f23 fun e24 => (U.bin .lss e19 e24).bind fun t25 => U.asBool t25
 (some (.bool false))
 (U.asAgg e7 fun us26 => if 1 = sizes (us26.take 1) then (us26[1]?).bind fun e27 => U.asVar false 1 e27 fun e28 => (U.bin .sub x15 (.int .i64 1)).bind fun t29 => U.asInt t29 fun n30 => U.elemAt 4 x0 n30 fun e31 => U.fieldAt 1 1 e31 fun f32 => U.asVar false 1 f32 fun e33 => (U.bin .eql e28 e33).bind fun t34 => U.asBool t34
 (U.asAgg e7 fun us35 => if 3 = sizes (us35.take 3) then (us35[3]?).bind fun e36 => U.asVar false 1 e36 fun e37 => (U.lenOf false e37).bind fun n38 => (U.bin .gtr (.int .i64 (n38 : Int)) (.int .i64 0)).bind fun t39 => U.asBool t39
 (some (.bool false))
 ((U.bin .add x15 (.int .i64 1)).bind fun t40 => impl_IsHistory_l2 E x0 x13 x14 t40) else none)
 ((U.bin .add x15 (.int .i64 1)).bind fun t41 => impl_IsHistory_l2 E x0 x13 x14 t41) else none) else none)
 ((U.bin .add x15 (.int .i64 1)).bind fun t42 => impl_IsHistory_l2 E x0 x13 x14 t42)) else none) else none)
 ((U.lenOf false x0).bind fun n43 => impl_IsHistory_l0 E x0 x0 (.int .i64 (n43 : Int)) (.int .i64 0)) :=
 (loop_eq E _ _ _ _).trans (by kernel_rfl)
theorem impl_IsHistory_l0_eq (E : Env) (x0 : U) (x62 : U) (x63 : U) (x64 : U) : impl_IsHistory_l0 E x0 x62 x63 x64 =
 (U.bin .lss x64 x63).bind fun t44 => U.asBool t44
 (U.asInt x64 fun n45 => U.elemAt 4 x62 n45 fun e46 => U.asVar true 4 e46 fun e47 => if storable (.val e47) = true ∧ e47.size = 4 then U.asAgg e47 fun us48 => if 2 = sizes (us48.take 2) then (us48[2]?).bind fun e49 => U.asVar false 1 e49 fun e50 => (U.lenOf false e50).bind fun n51 => impl_IsHistory_l1 E x0 x62 x63 x64 e50 (.int .i64 (n51 : Int)) (.int .i64 0) e47 else none else none)
 (some (.bool true)) :=
 (loop_eq E _ _ _ _).trans (by kernel_rfl)
theorem impl_IsHistory_l1_eq (E : Env) (x0 : U) (x62 : U) (x63 : U) (x64 : U) (x69 : U) (x70 : U) (x71 : U) (b6 : U) : impl_IsHistory_l1 E x0 x62 x63 x64 x69 x70 x71 b6 =
 (U.bin .lss x71 x70).bind fun t52 => U.asBool t52
 (U.asInt x71 fun n53 => U.elemAt 2 x69 n53 fun e54 => U.asVar true 2 e54 fun e55 => if storable (.val e55) = true ∧ e55.size = 2 then U.asVar true 2 e55 fun e56 => (E 249 [x0, e56]).bind fun t57 => U.asAgg b6 fun us58 => if 0 = sizes (us58.take 0) then (us58[0]?).bind fun e59 => U.asVar false 1 e59 fun e60 => (U.bin .eql t57 e60).bind fun t61 => U.asBool t61
 (some (.bool false))
 (U.asAgg e55 fun us62 => if 1 = sizes (us62.take 1) then (us62[1]?).bind fun e63 => U.asVar false 1 e63 fun e64 => (U.bin .gtr e64 (.int .i64 0)).bind fun t65 => U.asBool t65
 ((U.bin .eql t57 (.int .i64 0)).bind fun t66 => U.asBool t66
 (some (.bool false))
 ((U.bin .add x71 (.int .i64 1)).bind fun t67 => impl_IsHistory_l1 E x0 x62 x63 x64 x69 x70 t67 b6))
 ((U.bin .add x71 (.int .i64 1)).bind fun t68 => impl_IsHistory_l1 E x0 x62 x63 x64 x69 x70 t68 b6) else none) else none else none)
 ((U.bin .add x64 (.int .i64 1)).bind fun t69 => impl_IsHistory_l0 E x0 x62 x63 t69) :=
 (loop_eq E _ _ _ _).trans (by kernel_rfl)
structure G_impl_IsHistory (E : Env) : Prop where
  is : Is E 247 1 impl_IsHistory_ac [(2, none)]
  c_impl_isEntry : G_impl_isEntry E
  c_impl_FindEntry : G_impl_FindEntry E
  c_impl_WriterOf : G_impl_WriterOf E
theorem impl_IsHistory_E {E : Env} (h : G_impl_IsHistory E) (a0 : U) : E 247 [a0] =
 (U.lenOf false a0).bind fun n1 => (U.bin .gtr (.int .i64 (n1 : Int)) (.int .i64 9)).bind fun t2 => U.asBool t2
 (some (.bool false))
 ((U.lenOf false a0).bind fun n3 => impl_IsHistory_l2 E a0 a0 (.int .i64 (n3 : Int)) (.int .i64 0)) := (h.is _ rfl).trans ((runQ_V rfl).trans (by kernel_rfl))
end Go.Proofs.Ytfdcdbkblkehcaa.Am
namespace Go.Proofs.Ytfdcdbkblkehcaa.Am
open Go
set_option linter.unusedVariables false
set_option maxRecDepth 100000
def slices_ContainsFunc_g255_ac : AC :=
 (.seq (.region 0 [⟨some 4, .mv (.c (.bool false)), none⟩])
 (.seq (.region 0 [⟨some 5, .mv (.t 0), none⟩,
  ⟨some 6, .mv (.t 1), none⟩,
  ⟨some 7, .call false 253 [(.t 5), (.t 6)], none⟩,
  ⟨some 8, .bin .geq (.t 7) (.c (.int .i64 0)), none⟩,
  ⟨some 4, .mv (.t 8), none⟩])
 .ret))
structure G_slices_ContainsFunc_g255 (E : Env) : Prop where
  is : Is E 255 2 slices_ContainsFunc_g255_ac [(4, none)]
  c_slices_IndexFunc_g253 : G_slices_IndexFunc_g253 E
theorem slices_ContainsFunc_g255_E {E : Env} (h : G_slices_ContainsFunc_g255 E) (a0 a1 : U) : E 255 [a0, a1] =
 (E 253 [a0, a1]).bind fun t1 => (U.bin .geq t1 (.int .i64 0)).bind fun t2 => some t2 := (h.is _ rfl).trans ((runQ_V rfl).trans (by kernel_rfl))
end Go.Proofs.Ytfdcdbkblkehcaa.Am
namespace Go.Proofs.Ytfdcdbkblkehcaa.Am
open Go
set_option linter.unusedVariables false
set_option maxRecDepth 100000
def slices_Index_g43_b0 : AC :=
 (.seq (.region 0 [⟨some 9, .bin .lss (.t 8) (.t 7), none⟩])
 (.seq (.cond (.t 9) .skip (.exit 0))
 (.seq (.block 1 (.seq (.region 0 [⟨some 10, .mv (.t 8), none⟩,
  ⟨some 5, .mv (.t 10), none⟩])
 (.seq (.region 0 [⟨some 11, .mv (.t 1), none⟩,
  ⟨some 12, .mv (.t 0), none⟩,
  ⟨some 13, .mv (.t 5), none⟩,
  ⟨some 14, .iaddr 1 (.t 12) (.t 13), none⟩,
  ⟨some 15, .load false 1 (.t 14), none⟩,
  ⟨some 16, .bin .eql (.t 11) (.t 15), none⟩])
 (.cond (.t 16) (.seq (.region 0 [⟨some 17, .mv (.t 5), none⟩,
  ⟨some 4, .mv (.t 17), none⟩])
 .ret) .skip))))
 (.region 0 [⟨some 18, .bin .add (.t 8) (.c (.int .i64 1)), none⟩,
  ⟨some 8, .mv (.t 18), none⟩]))))
def slices_Index_g43_r0 : AC :=
 (.seq (.region 0 [⟨some 4, .mv (.c (.int .i64 (-1))), none⟩])
 .ret)
def slices_Index_g43_ac : AC :=
 (.seq (.region 0 [⟨some 4, .mv (.c (.int .i64 0)), none⟩])
 (.seq (.seq (.region 0 [⟨some 6, .mv (.t 0), none⟩,
  ⟨some 7, .len false (.t 6), none⟩,
  ⟨some 8, .mv (.c (.int .i64 0)), none⟩])
 (.block 0 (.loop ⟨[0, 1, 7, 8], [], []⟩ slices_Index_g43_b0)))
 slices_Index_g43_r0))
noncomputable def slices_Index_g43_l0 (E : Env) (x0 : U) (x1 : U) (x7 : U) (x8 : U) : Option U := loopK (roundOf E ⟨[0, 1, 7, 8], [], []⟩ slices_Index_g43_b0 (blockK 0 (seqK (fun s => exec E slices_Index_g43_r0 s (finish [(4, none)])) (finish [(4, none)])))) ([.val x0, .val x1, .val x7, .val x8], [])
theorem slices_Index_g43_l0_eq (E : Env) (x0 : U) (x1 : U) (x7 : U) (x8 : U) : slices_Index_g43_l0 E x0 x1 x7 x8 =
 (U.bin .lss x8 x7).bind fun t2 => U.asBool t2
 (U.asInt x8 fun n3 => U.elemAt 1 x0 n3 fun e4 => U.asVar false 1 e4 fun e5 => (U.bin .eql x1 e5).bind fun t6 => U.asBool t6
 (some x8)
 ((U.bin .add x8 (.int .i64 1)).bind fun t7 => slices_Index_g43_l0 E x0 x1 x7 t7))
 (some (.int .i64 (-1))) :=
 (loop_eq E _ _ _ _).trans (by kernel_rfl)
structure G_slices_Index_g43 (E : Env) : Prop where
  is : Is E 43 2 slices_Index_g43_ac [(4, none)]
theorem slices_Index_g43_E {E : Env} (h : G_slices_Index_g43 E) (a0 a1 : U) : E 43 [a0, a1] =
 (U.lenOf false a0).bind fun n1 => slices_Index_g43_l0 E a0 a1 (.int .i64 (n1 : Int)) (.int .i64 0) := (h.is _ rfl).trans ((runQ_V rfl).trans (by kernel_rfl))
end Go.Proofs.Ytfdcdbkblkehcaa.Am
namespace Go.Proofs.Ytfdcdbkblkehcaa.Am
open Go
set_option linter.unusedVariables false
set_option maxRecDepth 100000
def slices_Contains_g42_ac : AC :=
 (.seq (.region 0 [⟨some 4, .mv (.c (.bool false)), none⟩])
 (.seq (.region 0 [⟨some 5, .mv (.t 0), none⟩,
  ⟨some 6, .mv (.t 1), none⟩,
  ⟨some 7, .call false 43 [(.t 5), (.t 6)], none⟩,
  ⟨some 8, .bin .geq (.t 7) (.c (.int .i64 0)), none⟩,
  ⟨some 4, .mv (.t 8), none⟩])
 .ret))
structure G_slices_Contains_g42 (E : Env) : Prop where
  is : Is E 42 2 slices_Contains_g42_ac [(4, none)]
  c_slices_Index_g43 : G_slices_Index_g43 E
theorem slices_Contains_g42_E {E : Env} (h : G_slices_Contains_g42 E) (a0 a1 : U) : E 42 [a0, a1] =
 (E 43 [a0, a1]).bind fun t1 => (U.bin .geq t1 (.int .i64 0)).bind fun t2 => some t2 := (h.is _ rfl).trans ((runQ_V rfl).trans (by kernel_rfl))
end Go.Proofs.Ytfdcdbkblkehcaa.Am
namespace Go.Proofs.Ytfdcdbkblkehcaa.Am
open Go
set_option linter.unusedVariables false
set_option maxRecDepth 100000
def impl_isOrder_1_ac : AC :=
 (.seq (.region 0 [⟨some 2, .box false 2 (.t 0), none⟩,
  ⟨some 3, .mv (.c (.bool false)), none⟩])
 (.seq (.region 0 [⟨some 4, .load false 1 (.t 1), none⟩,
  ⟨some 5, .faddr 0 0 (.t 2), none⟩,
  ⟨some 6, .load false 1 (.t 5), none⟩,
  ⟨some 7, .call false 42 [(.t 4), (.t 6)], none⟩,
  ⟨some 8, .un .not (.t 7), none⟩,
  ⟨some 3, .mv (.t 8), none⟩])
 .ret))
structure G_impl_isOrder_1 (E : Env) : Prop where
  is : Is E 254 2 impl_isOrder_1_ac [(3, none)]
  c_slices_Contains_g42 : G_slices_Contains_g42 E
theorem impl_isOrder_1_E {E : Env} (h : G_impl_isOrder_1 E) (a0 a1 : U) : E 254 [a0, a1] =
 U.noTup a0 fun x1 => U.asVp a1 fun v2 => U.asVar false 1 v2 fun e3 => U.asAgg x1 fun us4 => if 0 = sizes (us4.take 0) then (us4[0]?).bind fun e5 => U.asVar false 1 e5 fun e6 => (E 42 [e3, e6]).bind fun t7 => (U.un .not t7).bind fun t8 => some t8 else none := (h.is _ rfl).trans ((runQ_V rfl).trans (by kernel_rfl))
end Go.Proofs.Ytfdcdbkblkehcaa.Am
namespace Go.Proofs.Ytfdcdbkblkehcaa.Am
open Go
set_option linter.unusedVariables false
set_option maxRecDepth 100000
def impl_isOrder_ac : AC :=
 (.seq (.region 0 [⟨some 3, .box true 3 (.t 1), none⟩,
  ⟨some 4, .mv (.c (.bool false)), none⟩])
 (.seq (.region 0 [⟨some 5, .load false 1 (.t 3), none⟩,
  ⟨some 6, .len false (.t 5), none⟩,
  ⟨some 7, .mv (.t 0), none⟩,
  ⟨some 8, .len false (.t 7), none⟩,
  ⟨some 9, .bin .eql (.t 6) (.t 8), none⟩,
  ⟨some 10, .mv (.t 9), none⟩,
  ⟨some 11, .mv (.t 0), some (10, true)⟩,
  ⟨some 12, .mkfn 254 [(.t 3)], some (10, true)⟩,
  ⟨some 13, .call false 255 [(.t 11), (.t 12)], some (10, true)⟩,
  ⟨some 14, .un .not (.t 13), some (10, true)⟩,
  ⟨some 15, .pick (.t 10) (.t 14) (.c (.bool false)), none⟩,
  ⟨some 4, .mv (.t 15), none⟩])
 .ret))
structure G_impl_isOrder (E : Env) : Prop where
  is : Is E 248 2 impl_isOrder_ac [(4, none)]
  c_slices_ContainsFunc_g255 : G_slices_ContainsFunc_g255 E
  c_impl_isOrder_1 : G_impl_isOrder_1 E
theorem impl_isOrder_E {E : Env} (h : G_impl_isOrder E) (a0 a1 : U) : E 248 [a0, a1] =
 U.noTup a1 fun x1 => U.asVar false 1 x1 fun e2 => (U.lenOf false e2).bind fun n3 => (U.lenOf false a0).bind fun n4 => (U.bin .eql (.int .i64 (n3 : Int)) (.int .i64 (n4 : Int))).bind fun t5 => U.asBool t5
 ((E 255 [a0, (.fn 254 [(.vp x1)])]).bind fun t6 => U.asFlat t6 fun t7 => (U.un .not t7).bind fun t8 => some t8)
 (some (.bool false)) := (h.is _ rfl).trans ((runQ_V rfl).trans (by kernel_rfl))
end Go.Proofs.Ytfdcdbkblkehcaa.Am
namespace Go.Proofs.Ytfdcdbkblkehcaa.Am
open Go
set_option linter.unusedVariables false
set_option maxRecDepth 100000
def slices_IndexFunc_g163_b0 : AC :=
 (.seq (.region 0 [⟨some 9, .bin .lss (.t 8) (.t 7), none⟩])
 (.seq (.cond (.t 9) .skip (.exit 0))
 (.seq (.block 1 (.seq (.region 0 [⟨some 10, .mv (.t 8), none⟩,
  ⟨some 5, .mv (.t 10), none⟩])
 (.seq (.region 0 [⟨some 11, .mv (.t 1), none⟩,
  ⟨some 12, .mv (.t 0), none⟩,
  ⟨some 13, .mv (.t 5), none⟩,
  ⟨some 14, .iaddr 2 (.t 12) (.t 13), none⟩,
  ⟨some 15, .load true 2 (.t 14), none⟩,
  ⟨some 16, .callv false (.t 11) [(.t 15)], none⟩])
 (.cond (.t 16) (.seq (.region 0 [⟨some 17, .mv (.t 5), none⟩,
  ⟨some 4, .mv (.t 17), none⟩])
 .ret) .skip))))
 (.region 0 [⟨some 18, .bin .add (.t 8) (.c (.int .i64 1)), none⟩,
  ⟨some 8, .mv (.t 18), none⟩]))))
def slices_IndexFunc_g163_r0 : AC :=
 (.seq (.region 0 [⟨some 4, .mv (.c (.int .i64 (-1))), none⟩])
 .ret)
def slices_IndexFunc_g163_ac : AC :=
 (.seq (.region 0 [⟨some 4, .mv (.c (.int .i64 0)), none⟩])
 (.seq (.seq (.region 0 [⟨some 6, .mv (.t 0), none⟩,
  ⟨some 7, .len false (.t 6), none⟩,
  ⟨some 8, .mv (.c (.int .i64 0)), none⟩])
 (.block 0 (.loop ⟨[0, 1, 7, 8], [], []⟩ slices_IndexFunc_g163_b0)))
 slices_IndexFunc_g163_r0))
noncomputable def slices_IndexFunc_g163_l0 (E : Env) (x0 : U) (x1 : U) (x7 : U) (x8 : U) : Option U := loopK (roundOf E ⟨[0, 1, 7, 8], [], []⟩ slices_IndexFunc_g163_b0 (blockK 0 (seqK (fun s => exec E slices_IndexFunc_g163_r0 s (finish [(4, none)])) (finish [(4, none)])))) ([.val x0, .val x1, .val x7, .val x8], [])
theorem slices_IndexFunc_g163_l0_eq (E : Env) (x0 : U) (x1 : U) (x7 : U) (x8 : U) : slices_IndexFunc_g163_l0 E x0 x1 x7 x8 =
 (U.bin .lss x8 x7).bind fun t2 => U.asBool t2
 (U.asInt x8 fun n3 => U.elemAt 2 x0 n3 fun e4 => U.asVar true 2 e4 fun e5 => U.asFn x1 fun r6 caps7 => (E r6 ([e5] ++ caps7)).bind fun t8 => U.asBool t8
 (some x8)
 ((U.bin .add x8 (.int .i64 1)).bind fun t9 => slices_IndexFunc_g163_l0 E x0 x1 x7 t9))
 (some (.int .i64 (-1))) :=
 (loop_eq E _ _ _ _).trans (by kernel_rfl)
structure G_slices_IndexFunc_g163 (E : Env) : Prop where
  is : Is E 163 2 slices_IndexFunc_g163_ac [(4, none)]
theorem slices_IndexFunc_g163_E {E : Env} (h : G_slices_IndexFunc_g163 E) (a0 a1 : U) : E 163 [a0, a1] =
 (U.lenOf false a0).bind fun n1 => slices_IndexFunc_g163_l0 E a0 a1 (.int .i64 (n1 : Int)) (.int .i64 0) := (h.is _ rfl).trans ((runQ_V rfl).trans (by kernel_rfl))
end Go.Proofs.Ytfdcdbkblkehcaa.Am
namespace Go.Proofs.Ytfdcdbkblkehcaa.Am
open Go
set_option linter.unusedVariables false
set_option maxRecDepth 100000
def slices_ContainsFunc_g162_ac : AC :=
 (.seq (.region 0 [⟨some 4, .mv (.c (.bool false)), none⟩])
 (.seq (.region 0 [⟨some 5, .mv (.t 0), none⟩,
  ⟨some 6, .mv (.t 1), none⟩,
  ⟨some 7, .call false 163 [(.t 5), (.t 6)], none⟩,
  ⟨some 8, .bin .geq (.t 7) (.c (.int .i64 0)), none⟩,
  ⟨some 4, .mv (.t 8), none⟩])
 .ret))
structure G_slices_ContainsFunc_g162 (E : Env) : Prop where
  is : Is E 162 2 slices_ContainsFunc_g162_ac [(4, none)]
  c_slices_IndexFunc_g163 : G_slices_IndexFunc_g163 E
theorem slices_ContainsFunc_g162_E {E : Env} (h : G_slices_ContainsFunc_g162 E) (a0 a1 : U) : E 162 [a0, a1] =
 (E 163 [a0, a1]).bind fun t1 => (U.bin .geq t1 (.int .i64 0)).bind fun t2 => some t2 := (h.is _ rfl).trans ((runQ_V rfl).trans (by kernel_rfl))
end Go.Proofs.Ytfdcdbkblkehcaa.Am
namespace Go.Proofs.Ytfdcdbkblkehcaa.Am
open Go
set_option linter.unusedVariables false
set_option maxRecDepth 100000
def impl_replayed_1_ac : AC :=
 (.seq (.region 0 [⟨some 2, .box false 2 (.t 0), none⟩,
  ⟨some 3, .mv (.c (.bool false)), none⟩])
 (.seq (.region 9 [⟨some 4, .load false 1 (.t 1), none⟩,
  ⟨some 5, .faddr 0 0 (.t 2), none⟩,
  ⟨some 6, .load false 1 (.t 5), none⟩,
  ⟨some 7, .iaddr 1 (.t 4) (.t 6), none⟩,
  ⟨some 8, .load false 1 (.t 7), none⟩,
  ⟨some 9, .faddr 1 1 (.t 2), none⟩,
  ⟨some 10, .load false 1 (.t 9), none⟩,
  ⟨some 11, .bin .neq (.t 8) (.t 10), none⟩,
  ⟨some 3, .mv (.t 11), none⟩])
 .ret))
structure G_impl_replayed_1 (E : Env) : Prop where
  is : Is E 256 2 impl_replayed_1_ac [(3, none)]
theorem impl_replayed_1_E {E : Env} (h : G_impl_replayed_1 E) (a0 a1 : U) : E 256 [a0, a1] =
 U.noTup a0 fun x1 => U.asVp a1 fun v2 => U.asVar false 1 v2 fun e3 => U.asAgg x1 fun us4 => if 0 = sizes (us4.take 0) then (us4[0]?).bind fun e5 => U.asVar false 1 e5 fun e6 => U.asInt e6 fun n7 => U.elemAt 1 e3 n7 fun e8 => U.asVar false 1 e8 fun e9 => U.asAgg x1 fun us10 => if 1 = sizes (us10.take 1) then (us10[1]?).bind fun e11 => U.asVar false 1 e11 fun e12 => (U.bin .neq e9 e12).bind fun t13 => some t13 else none else none := (h.is _ rfl).trans ((runQ_V rfl).trans (by kernel_rfl))
end Go.Proofs.Ytfdcdbkblkehcaa.Am
namespace Go.Proofs.Ytfdcdbkblkehcaa.Am
open Go
set_option linter.unusedVariables false
set_option maxRecDepth 100000
def math_bits_Mul32_ac : AC :=
 (.seq (.region 0 [⟨some 4, .mv (.c (.int .u32 0)), none⟩,
  ⟨some 5, .mv (.c (.int .u32 0)), none⟩])
 (.seq (.region 0 [⟨some 7, .mv (.t 0), none⟩,
  ⟨some 8, .conv .u64 (.t 7), none⟩,
  ⟨some 9, .mv (.t 1), none⟩,
  ⟨some 10, .conv .u64 (.t 9), none⟩,
  ⟨some 11, .bin .mul (.t 8) (.t 10), none⟩,
  ⟨some 6, .mv (.t 11), none⟩])
 (.seq (.region 0 [⟨some 12, .mv (.t 6), none⟩,
  ⟨some 13, .bin .shr (.t 12) (.c (.int .u64 32)), none⟩,
  ⟨some 14, .conv .u32 (.t 13), none⟩,
  ⟨some 15, .mv (.t 6), none⟩,
  ⟨some 16, .conv .u32 (.t 15), none⟩,
  ⟨some 4, .mv (.t 14), none⟩,
  ⟨some 5, .mv (.t 16), none⟩])
 .ret)))
structure G_math_bits_Mul32 (E : Env) : Prop where
  is : Is E 394 2 math_bits_Mul32_ac [(4, none), (5, none)]
end Go.Proofs.Ytfdcdbkblkehcaa.Am
namespace Go.Proofs.Ytfdcdbkblkehcaa.Am
open Go
set_option linter.unusedVariables false
set_option maxRecDepth 100000
def math_bits_Mul64_ac : AC :=
 (.seq (.region 0 [⟨some 4, .mv (.c (.int .u64 0)), none⟩,
  ⟨some 5, .mv (.c (.int .u64 0)), none⟩])
 (.seq (.region 0 [⟨some 14, .mv (.t 0), none⟩,
  ⟨some 15, .bin .and (.t 14) (.c (.int .u64 4294967295)), none⟩,
  ⟨some 6, .mv (.t 15), none⟩])
 (.seq (.region 0 [⟨some 16, .mv (.t 0), none⟩,
  ⟨some 17, .bin .shr (.t 16) (.c (.int .u64 32)), none⟩,
  ⟨some 7, .mv (.t 17), none⟩])
 (.seq (.region 0 [⟨some 18, .mv (.t 1), none⟩,
  ⟨some 19, .bin .and (.t 18) (.c (.int .u64 4294967295)), none⟩,
  ⟨some 8, .mv (.t 19), none⟩])
 (.seq (.region 0 [⟨some 20, .mv (.t 1), none⟩,
  ⟨some 21, .bin .shr (.t 20) (.c (.int .u64 32)), none⟩,
  ⟨some 9, .mv (.t 21), none⟩])
 (.seq (.region 0 [⟨some 22, .mv (.t 6), none⟩,
  ⟨some 23, .mv (.t 8), none⟩,
  ⟨some 24, .bin .mul (.t 22) (.t 23), none⟩,
  ⟨some 10, .mv (.t 24), none⟩])
 (.seq (.region 0 [⟨some 25, .mv (.t 7), none⟩,
  ⟨some 26, .mv (.t 8), none⟩,
  ⟨some 27, .bin .mul (.t 25) (.t 26), none⟩,
  ⟨some 28, .mv (.t 10), none⟩,
  ⟨some 29, .bin .shr (.t 28) (.c (.int .u64 32)), none⟩,
  ⟨some 30, .bin .add (.t 27) (.t 29), none⟩,
  ⟨some 11, .mv (.t 30), none⟩])
 (.seq (.region 0 [⟨some 31, .mv (.t 11), none⟩,
  ⟨some 32, .bin .and (.t 31) (.c (.int .u64 4294967295)), none⟩,
  ⟨some 12, .mv (.t 32), none⟩])
 (.seq (.region 0 [⟨some 33, .mv (.t 11), none⟩,
  ⟨some 34, .bin .shr (.t 33) (.c (.int .u64 32)), none⟩,
  ⟨some 13, .mv (.t 34), none⟩])
 (.seq (.region 0 [⟨some 35, .mv (.t 12), none⟩,
  ⟨some 36, .mv (.t 6), none⟩,
  ⟨some 37, .mv (.t 9), none⟩,
  ⟨some 38, .bin .mul (.t 36) (.t 37), none⟩,
  ⟨some 39, .bin .add (.t 35) (.t 38), none⟩,
  ⟨some 12, .mv (.t 39), none⟩])
 (.seq (.region 0 [⟨some 40, .mv (.t 7), none⟩,
  ⟨some 41, .mv (.t 9), none⟩,
  ⟨some 42, .bin .mul (.t 40) (.t 41), none⟩,
  ⟨some 43, .mv (.t 13), none⟩,
  ⟨some 44, .bin .add (.t 42) (.t 43), none⟩,
  ⟨some 45, .mv (.t 12), none⟩,
  ⟨some 46, .bin .shr (.t 45) (.c (.int .u64 32)), none⟩,
  ⟨some 47, .bin .add (.t 44) (.t 46), none⟩,
  ⟨some 4, .mv (.t 47), none⟩])
 (.seq (.region 0 [⟨some 48, .mv (.t 0), none⟩,
  ⟨some 49, .mv (.t 1), none⟩,
  ⟨some 50, .bin .mul (.t 48) (.t 49), none⟩,
  ⟨some 5, .mv (.t 50), none⟩])
 .ret))))))))))))
structure G_math_bits_Mul64 (E : Env) : Prop where
  is : Is E 393 2 math_bits_Mul64_ac [(4, none), (5, none)]
theorem math_bits_Mul64_E {E : Env} (h : G_math_bits_Mul64 E) (a0 a1 : U) : E 393 [a0, a1] =
 (U.bin .and a0 (.int .u64 4294967295)).bind fun t1 => (U.bin .shr a0 (.int .u64 32)).bind fun t2 => (U.bin .and a1 (.int .u64 4294967295)).bind fun t3 => (U.bin .shr a1 (.int .u64 32)).bind fun t4 => (U.bin .mul t1 t3).bind fun t5 => (U.bin .mul t2 t3).bind fun t6 => (U.bin .shr t5 (.int .u64 32)).bind fun t7 => (U.bin .add t6 t7).bind fun t8 => (U.bin .and t8 (.int .u64 4294967295)).bind fun t9 => (U.bin .shr t8 (.int .u64 32)).bind fun t10 => (U.bin .mul t1 t4).bind fun t11 => (U.bin .add t9 t11).bind fun t12 => (U.bin .mul t2 t4).bind fun t13 => (U.bin .add t13 t10).bind fun t14 => (U.bin .shr t12 (.int .u64 32)).bind fun t15 => (U.bin .add t14 t15).bind fun t16 => (U.bin .mul a0 a1).bind fun t17 => U.noTup t16 fun x18 => U.noTup t17 fun x19 => some (.tup [x18, x19]) := (h.is _ rfl).trans ((runQ_V rfl).trans (by kernel_rfl))
end Go.Proofs.Ytfdcdbkblkehcaa.Am
namespace Go.Proofs.Ytfdcdbkblkehcaa.Am
open Go
set_option linter.unusedVariables false
set_option maxRecDepth 100000
def math_bits_Mul_ac : AC :=
 (.seq (.region 0 [⟨some 4, .mv (.c (.int .u64 0)), none⟩,
  ⟨some 5, .mv (.c (.int .u64 0)), none⟩])
 (.seq (.cond (.c (.bool false)) (.seq (.region 0 [⟨some 11, .mv (.t 0), none⟩,
  ⟨some 12, .conv .u32 (.t 11), none⟩,
  ⟨some 13, .mv (.t 1), none⟩,
  ⟨some 14, .conv .u32 (.t 13), none⟩,
  ⟨some 15, .call false 394 [(.t 12), (.t 14)], none⟩,
  ⟨some 10, .mv (.t 15), none⟩,
  ⟨some 16, .extract 0 (.t 10), none⟩,
  ⟨some 17, .extract 1 (.t 10), none⟩,
  ⟨some 6, .mv (.t 16), none⟩,
  ⟨some 7, .mv (.t 17), none⟩])
 (.seq (.region 0 [⟨some 18, .mv (.t 6), none⟩,
  ⟨some 19, .conv .u64 (.t 18), none⟩,
  ⟨some 20, .mv (.t 7), none⟩,
  ⟨some 21, .conv .u64 (.t 20), none⟩,
  ⟨some 4, .mv (.t 19), none⟩,
  ⟨some 5, .mv (.t 21), none⟩])
 .ret)) .skip)
 (.seq (.region 0 [⟨some 23, .mv (.t 0), none⟩,
  ⟨some 24, .mv (.t 1), none⟩,
  ⟨some 25, .call false 393 [(.t 23), (.t 24)], none⟩,
  ⟨some 22, .mv (.t 25), none⟩,
  ⟨some 26, .extract 0 (.t 22), none⟩,
  ⟨some 27, .extract 1 (.t 22), none⟩,
  ⟨some 8, .mv (.t 26), none⟩,
  ⟨some 9, .mv (.t 27), none⟩])
 (.seq (.region 0 [⟨some 28, .mv (.t 8), none⟩,
  ⟨some 29, .mv (.t 9), none⟩,
  ⟨some 4, .mv (.t 28), none⟩,
  ⟨some 5, .mv (.t 29), none⟩])
 .ret))))
structure G_math_bits_Mul (E : Env) : Prop where
  is : Is E 392 2 math_bits_Mul_ac [(4, none), (5, none)]
  c_math_bits_Mul32 : G_math_bits_Mul32 E
  c_math_bits_Mul64 : G_math_bits_Mul64 E
theorem math_bits_Mul_E {E : Env} (h : G_math_bits_Mul E) (a0 a1 : U) : E 392 [a0, a1] =
 (E 393 [a0, a1]).bind fun t1 => U.part 0 t1 fun p2 => U.part 1 t1 fun p3 => U.noTup p2 fun x4 => U.noTup p3 fun x5 => some (.tup [x4, x5]) := (h.is _ rfl).trans ((runQ_V rfl).trans (by kernel_rfl))
end Go.Proofs.Ytfdcdbkblkehcaa.Am
namespace Go.Proofs.Ytfdcdbkblkehcaa.Am
open Go
set_option linter.unusedVariables false
set_option maxRecDepth 100000
def slices_Repeat_g257_F_b0 : AC :=
 (.seq (.seq (.region 0 [⟨some 34, .mv (.t 8), none⟩,
  ⟨some 35, .mv (.t 7), none⟩,
  ⟨some 36, .len false (.t 35), none⟩,
  ⟨some 37, .bin .lss (.t 34) (.t 36), none⟩])
 (.cond (.t 37) .skip (.exit 0)))
 (.block 1 (.region 7 [⟨some 38, .mv (.t 8), none⟩,
  ⟨some 39, .mv (.t 7), none⟩,
  ⟨some 40, .mv (.t 8), none⟩,
  ⟨some 41, .slice false 1 (.t 39) (some (.t 40)) none, none⟩,
  ⟨some 42, .mv (.t 7), none⟩,
  ⟨some 43, .mv (.t 8), none⟩,
  ⟨some 44, .slice false 1 (.t 42) none (some (.t 43)), none⟩,
  ⟨some 45, .copy (.t 41) (.t 44), none⟩,
  ⟨some 46, .bin .add (.t 38) (.t 45), none⟩,
  ⟨some 8, .mv (.t 46), none⟩])))
def slices_Repeat_g257_F_r0 : AC :=
 (.seq (.region 0 [⟨some 47, .mv (.t 7), none⟩,
  ⟨some 4, .mv (.t 47), none⟩])
 .ret)
def slices_Repeat_g257_F_ac : AC :=
 (.seq (.region 0 [⟨some 4, .mv (.c (.nsl 1)), none⟩])
 (.seq (.seq (.region 0 [⟨some 9, .mv (.t 1), none⟩,
  ⟨some 10, .bin .lss (.t 9) (.c (.int .i64 0)), none⟩])
 (.cond (.t 10) (.region 0 [⟨some 11, .bad, none⟩,
  ⟨none, .bad, none⟩]) .skip))
 (.seq (.region 0 [⟨some 13, .mv (.t 0), none⟩,
  ⟨some 14, .len false (.t 13), none⟩,
  ⟨some 15, .conv .u64 (.t 14), none⟩,
  ⟨some 16, .mv (.t 1), none⟩,
  ⟨some 17, .conv .u64 (.t 16), none⟩,
  ⟨some 18, .call false 392 [(.t 15), (.t 17)], none⟩,
  ⟨some 12, .mv (.t 18), none⟩,
  ⟨some 19, .extract 0 (.t 12), none⟩,
  ⟨some 20, .extract 1 (.t 12), none⟩,
  ⟨some 5, .mv (.t 19), none⟩,
  ⟨some 6, .mv (.t 20), none⟩])
 (.seq (.seq (.region 0 [⟨some 21, .mv (.t 5), none⟩,
  ⟨some 22, .bin .gtr (.t 21) (.c (.int .u64 0)), none⟩,
  ⟨some 23, .mv (.t 22), none⟩,
  ⟨some 24, .mv (.t 6), some (23, false)⟩,
  ⟨some 25, .bin .gtr (.t 24) (.c (.int .u64 9223372036854775807)), some (23, false)⟩,
  ⟨some 26, .pick (.t 23) (.c (.bool true)) (.t 25), none⟩])
 (.cond (.t 26) (.region 0 [⟨some 27, .bad, none⟩,
  ⟨none, .bad, none⟩]) .skip))
 (.seq (.region 0 [⟨some 28, .mv (.t 6), none⟩,
  ⟨some 29, .conv .i64 (.t 28), none⟩,
  ⟨some 30, .mkslice 30 1 8 (.int .i64 0) (.t 29) (.t 29), none⟩,
  ⟨some 7, .mv (.t 30), none⟩])
 (.seq (.region 0 [⟨some 31, .mv (.t 7), none⟩,
  ⟨some 32, .mv (.t 0), none⟩,
  ⟨some 33, .copy (.t 31) (.t 32), none⟩,
  ⟨some 8, .mv (.t 33), none⟩])
 (.seq (.block 0 (.loop ⟨[8], [(7, 1, false)], []⟩ slices_Repeat_g257_F_b0))
 slices_Repeat_g257_F_r0)))))))
noncomputable def slices_Repeat_g257_F_l0 (E : Env) (x8 : U) (c7 : List U) : Option U := loopK (roundOf E ⟨[8], [(7, 1, false)], []⟩ slices_Repeat_g257_F_b0 (blockK 0 (seqK (fun s => exec E slices_Repeat_g257_F_r0 s (finishF [(4, none)])) (finishF [(4, none)])))) ([.val x8], [.vir (.asl 1 c7)])
theorem slices_Repeat_g257_F_l0_eq (E : Env) (x8 : U) (c7 : List U) : slices_Repeat_g257_F_l0 E x8 c7 =
 (U.bin .lss x8 (.int .i64 ((c7).length : Int))).bind fun t14 => U.asBool t14
 (U.asInt x8 fun n15 => if false = false ∧ 1 = 1 ∧ 0 ≤ (n15) ∧ (n15) ≤ (((c7).length : Nat) : Int) ∧ (((c7).length : Nat) : Int) ≤ (((c7).length : Nat) : Int) then U.asInt x8 fun n16 => if false = false ∧ 1 = 1 ∧ 0 ≤ (0 : Int) ∧ (0 : Int) ≤ (n16) ∧ (n16) ≤ (((c7).length : Nat) : Int) then if 1 = 1 ∧ 1 = 1 then if ((0 : Int) : Int).toNat + (((n16) : Int).toNat - ((0 : Int) : Int).toNat) ≤ ((c7 : List U)).length then if 1 = 1 ∧ 1 = 1 ∧ 0 < (min (((((c7 : List U)).drop ((0 : Int) : Int).toNat).take (((n16) : Int).toNat - ((0 : Int) : Int).toNat)) : List U).length (((((c7).length : Nat) : Int) : Int).toNat - ((n15) : Int).toNat)) ∧ ((n15) : Int).toNat + (((((c7).length : Nat) : Int) : Int).toNat - ((n15) : Int).toNat) ≤ ((c7 : List U)).length then (U.bin .add x8 (.int .i64 (((min (((((c7 : List U)).drop ((0 : Int) : Int).toNat).take (((n16) : Int).toNat - ((0 : Int) : Int).toNat)) : List U).length (((((c7).length : Nat) : Int) : Int).toNat - ((n15) : Int).toNat)) : Nat) : Int))).bind fun t17 => slices_Repeat_g257_F_l0 E t17 (((c7 : List U)).take ((n15) : Int).toNat ++ (((((c7 : List U)).drop ((0 : Int) : Int).toNat).take (((n16) : Int).toNat - ((0 : Int) : Int).toNat))).take (min (((((c7 : List U)).drop ((0 : Int) : Int).toNat).take (((n16) : Int).toNat - ((0 : Int) : Int).toNat)) : List U).length (((((c7).length : Nat) : Int) : Int).toNat - ((n15) : Int).toNat)) ++ ((c7 : List U)).drop (((n15) : Int).toNat + (min (((((c7 : List U)).drop ((0 : Int) : Int).toNat).take (((n16) : Int).toNat - ((0 : Int) : Int).toNat)) : List U).length (((((c7).length : Nat) : Int) : Int).toNat - ((n15) : Int).toNat)))) else none else none else none else none else none)
 (if U.flat.flats c7 = true then some (.sl 1 c7) else none) :=
 (loop_eq E _ _ _ _).trans (by kernel_rfl)
structure G_slices_Repeat_g257_F (E : Env) : Prop where
  is : Is E 100257 2 slices_Repeat_g257_F_ac [(4, none)]
  c_math_bits_Mul : G_math_bits_Mul E
theorem slices_Repeat_g257_F_E {E : Env} (h : G_slices_Repeat_g257_F E) (a0 a1 : U) : E 100257 [a0, a1] =
 (U.bin .lss a1 (.int .i64 0)).bind fun t1 => U.asBool t1
 (none)
 ((U.lenOf false a0).bind fun n2 => (U.conv .u64 (.int .i64 (n2 : Int))).bind fun t3 => (U.conv .u64 a1).bind fun t4 => (E 392 [t3, t4]).bind fun t5 => U.part 0 t5 fun p6 => U.part 1 t5 fun p7 => (U.bin .gtr p6 (.int .u64 0)).bind fun t8 => U.asBool t8
 (none)
 ((U.bin .gtr p7 (.int .u64 9223372036854775807)).bind fun t9 => U.asBool t9
 (none)
 ((U.conv .i64 p7).bind fun t10 => U.asInt t10 fun n11 => U.asInt t10 fun n12 => if 0 ≤ n11 ∧ n11 ≤ n12 ∧ n12 * 8 ≤ 140737488355328 ∧ ((.int .i64 0) : U).size = 1 then (U.elems 1 a0).bind fun ys13 => if 1 = 1 ∧ 1 = 1 ∧ 0 < (min (ys13 : List U).length (((List.replicate (n11 : Int).toNat (.int .i64 0)) : List U)).length) ∧ 0 + (((List.replicate (n11 : Int).toNat (.int .i64 0)) : List U)).length ≤ (((List.replicate (n11 : Int).toNat (.int .i64 0)) : List U)).length then slices_Repeat_g257_F_l0 E (.int .i64 (((min (ys13 : List U).length (((List.replicate (n11 : Int).toNat (.int .i64 0)) : List U)).length) : Nat) : Int)) ((((List.replicate (n11 : Int).toNat (.int .i64 0)) : List U)).take 0 ++ (ys13).take (min (ys13 : List U).length (((List.replicate (n11 : Int).toNat (.int .i64 0)) : List U)).length) ++ (((List.replicate (n11 : Int).toNat (.int .i64 0)) : List U)).drop (0 + (min (ys13 : List U).length (((List.replicate (n11 : Int).toNat (.int .i64 0)) : List U)).length))) else none else none))) := (h.is _ rfl).trans ((runQ_F rfl).trans (by kernel_rfl))
end Go.Proofs.Ytfdcdbkblkehcaa.Am
