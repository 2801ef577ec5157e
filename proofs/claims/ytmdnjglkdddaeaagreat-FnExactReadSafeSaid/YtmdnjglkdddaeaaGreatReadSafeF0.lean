import Derived.KernelRfl
import Derived.Test.YtmdnjglkdddaeaaGreatAmW
namespace Go.Proofs.YtmdnjglkdddaeaaGreat.Am
open Go
set_option linter.unusedVariables false
set_option maxRecDepth 100000
def laws_szVersionS_ac : AC :=
 (.seq (.region 0 [⟨some 4, .mv (.c (.int .i64 0)), none⟩])
 (.seq (.region 0 [⟨some 5, .mv (.t 1), none⟩,
  ⟨some 6, .mv (.t 0), none⟩,
  ⟨some 7, .len false (.t 6), none⟩,
  ⟨some 8, .bin .sub (.t 5) (.t 7), none⟩,
  ⟨some 1, .mv (.t 8), none⟩])
 (.seq (.seq (.region 0 [⟨some 9, .mv (.t 1), none⟩,
  ⟨some 10, .bin .lss (.t 9) (.c (.int .i64 0)), none⟩])
 (.cond (.t 10) (.seq (.region 0 [⟨some 4, .mv (.c (.int .i64 (-1))), none⟩])
 .ret) .skip))
 (.seq (.region 0 [⟨some 11, .mv (.t 1), none⟩,
  ⟨some 4, .mv (.t 11), none⟩])
 .ret))))
structure G_laws_szVersionS (E : Env) : Prop where
  is : Is E 101 2 laws_szVersionS_ac [(4, none)]
theorem laws_szVersionS_E {E : Env} (h : G_laws_szVersionS E) (a0 a1 : U) : E 101 [a0, a1] =
 (U.lenOf false a0).bind fun n1 => (U.bin .sub a1 (.int .i64 (n1 : Int))).bind fun t2 => (U.bin .lss t2 (.int .i64 0)).bind fun t3 => U.asBool t3
 (some (.int .i64 (-1)))
 (some t2) := (h.is _ rfl).trans ((runQ_V rfl).trans (by kernel_rfl))
end Go.Proofs.YtmdnjglkdddaeaaGreat.Am
namespace Go.Proofs.YtmdnjglkdddaeaaGreat.Am
open Go
set_option linter.unusedVariables false
set_option maxRecDepth 100000
def laws_szVersionSS_b0 : AC :=
 (.seq (.seq (.region 0 [⟨some 12, .mv (.t 5), none⟩,
  ⟨some 13, .mv (.t 0), none⟩,
  ⟨some 14, .len false (.t 13), none⟩,
  ⟨some 15, .bin .lss (.t 12) (.t 14), none⟩])
 (.cond (.t 15) .skip (.exit 0)))
 (.seq (.block 1 (.seq (.region 0 [⟨some 18, .mv (.t 0), none⟩,
  ⟨some 19, .mv (.t 5), none⟩,
  ⟨some 20, .iaddr 1 (.t 18) (.t 19), none⟩,
  ⟨some 21, .load false 1 (.t 20), none⟩,
  ⟨some 22, .mv (.t 1), none⟩,
  ⟨some 23, .call false 101 [(.t 21), (.t 22)], none⟩,
  ⟨some 1, .mv (.t 23), none⟩])
 (.seq (.region 0 [⟨some 24, .mv (.t 1), none⟩,
  ⟨some 25, .bin .lss (.t 24) (.c (.int .i64 0)), none⟩])
 (.cond (.t 25) (.seq (.region 0 [⟨some 4, .mv (.c (.int .i64 (-1))), none⟩])
 .ret) .skip))))
 (.region 0 [⟨some 16, .mv (.t 5), none⟩,
  ⟨some 17, .bin .add (.t 16) (.c (.int .i64 1)), none⟩,
  ⟨some 5, .mv (.t 17), none⟩])))
def laws_szVersionSS_r0 : AC :=
 (.seq (.region 0 [⟨some 26, .mv (.t 1), none⟩,
  ⟨some 4, .mv (.t 26), none⟩])
 .ret)
def laws_szVersionSS_ac : AC :=
 (.seq (.region 0 [⟨some 4, .mv (.c (.int .i64 0)), none⟩])
 (.seq (.region 0 [⟨some 6, .mv (.t 1), none⟩,
  ⟨some 7, .mv (.t 0), none⟩,
  ⟨some 8, .len false (.t 7), none⟩,
  ⟨some 9, .bin .sub (.t 6) (.t 8), none⟩,
  ⟨some 1, .mv (.t 9), none⟩])
 (.seq (.seq (.region 0 [⟨some 10, .mv (.t 1), none⟩,
  ⟨some 11, .bin .lss (.t 10) (.c (.int .i64 0)), none⟩])
 (.cond (.t 11) (.seq (.region 0 [⟨some 4, .mv (.c (.int .i64 (-1))), none⟩])
 .ret) .skip))
 (.seq (.seq (.region 0 [⟨some 5, .mv (.c (.int .i64 0)), none⟩])
 (.block 0 (.loop ⟨[0, 1, 5], [], []⟩ laws_szVersionSS_b0)))
 laws_szVersionSS_r0))))
noncomputable def laws_szVersionSS_l0 (E : Env) (x0 : U) (x1 : U) (x5 : U) : Option U := loopK (roundOf E ⟨[0, 1, 5], [], []⟩ laws_szVersionSS_b0 (blockK 0 (seqK (fun s => exec E laws_szVersionSS_r0 s (finish [(4, none)])) (finish [(4, none)])))) ([.val x0, .val x1, .val x5], [])
theorem laws_szVersionSS_l0_eq (E : Env) (x0 : U) (x1 : U) (x5 : U) : laws_szVersionSS_l0 E x0 x1 x5 =
 (U.lenOf false x0).bind fun n4 => (U.bin .lss x5 (.int .i64 (n4 : Int))).bind fun t5 => U.asBool t5
 (U.asInt x5 fun n6 => U.elemAt 1 x0 n6 fun e7 => U.asVar false 1 e7 fun e8 => (E 101 [e8, x1]).bind fun t9 => (U.bin .lss t9 (.int .i64 0)).bind fun t10 => U.asBool t10
 (some (.int .i64 (-1)))
 ((U.bin .add x5 (.int .i64 1)).bind fun t11 => laws_szVersionSS_l0 E x0 t9 t11))
 (some x1) :=
 (loop_eq E _ _ _ _).trans (by kernel_rfl)
structure G_laws_szVersionSS (E : Env) : Prop where
  is : Is E 100 2 laws_szVersionSS_ac [(4, none)]
  c_laws_szVersionS : G_laws_szVersionS E
theorem laws_szVersionSS_E {E : Env} (h : G_laws_szVersionSS E) (a0 a1 : U) : E 100 [a0, a1] =
 (U.lenOf false a0).bind fun n1 => (U.bin .sub a1 (.int .i64 (n1 : Int))).bind fun t2 => (U.bin .lss t2 (.int .i64 0)).bind fun t3 => U.asBool t3
 (some (.int .i64 (-1)))
 (laws_szVersionSS_l0 E a0 t2 (.int .i64 0)) := (h.is _ rfl).trans ((runQ_V rfl).trans (by kernel_rfl))
end Go.Proofs.YtmdnjglkdddaeaaGreat.Am
namespace Go.Proofs.YtmdnjglkdddaeaaGreat.Am
open Go
set_option linter.unusedVariables false
set_option maxRecDepth 100000
def laws_szStore_ac : AC :=
 (.seq (.region 0 [⟨some 2, .box false 2 (.t 0), none⟩,
  ⟨some 4, .mv (.c (.int .i64 0)), none⟩])
 (.seq (.region 0 [⟨some 5, .faddr 0 0 (.t 2), none⟩,
  ⟨some 6, .load false 1 (.t 5), none⟩,
  ⟨some 7, .mv (.t 1), none⟩,
  ⟨some 8, .call false 100 [(.t 6), (.t 7)], none⟩,
  ⟨some 1, .mv (.t 8), none⟩])
 (.seq (.seq (.region 0 [⟨some 9, .mv (.t 1), none⟩,
  ⟨some 10, .bin .lss (.t 9) (.c (.int .i64 0)), none⟩])
 (.cond (.t 10) (.seq (.region 0 [⟨some 4, .mv (.c (.int .i64 (-1))), none⟩])
 .ret) .skip))
 (.seq (.region 0 [⟨some 11, .mv (.t 1), none⟩,
  ⟨some 4, .mv (.t 11), none⟩])
 .ret))))
structure G_laws_szStore (E : Env) : Prop where
  is : Is E 99 2 laws_szStore_ac [(4, none)]
  c_laws_szVersionSS : G_laws_szVersionSS E
theorem laws_szStore_E {E : Env} (h : G_laws_szStore E) (a0 a1 : U) : E 99 [a0, a1] =
 U.noTup a0 fun x1 => U.asAgg x1 fun us2 => if 0 = sizes (us2.take 0) then (us2[0]?).bind fun e3 => U.asVar false 1 e3 fun e4 => (E 100 [e4, a1]).bind fun t5 => (U.bin .lss t5 (.int .i64 0)).bind fun t6 => U.asBool t6
 (some (.int .i64 (-1)))
 (some t5) else none := (h.is _ rfl).trans ((runQ_V rfl).trans (by kernel_rfl))
end Go.Proofs.YtmdnjglkdddaeaaGreat.Am
namespace Go.Proofs.YtmdnjglkdddaeaaGreat.Am
open Go
set_option linter.unusedVariables false
set_option maxRecDepth 100000
def laws_szReadMarkS_ac : AC :=
 (.seq (.region 0 [⟨some 4, .mv (.c (.int .i64 0)), none⟩])
 (.seq (.region 0 [⟨some 5, .mv (.t 1), none⟩,
  ⟨some 6, .mv (.t 0), none⟩,
  ⟨some 7, .len false (.t 6), none⟩,
  ⟨some 8, .bin .sub (.t 5) (.t 7), none⟩,
  ⟨some 1, .mv (.t 8), none⟩])
 (.seq (.seq (.region 0 [⟨some 9, .mv (.t 1), none⟩,
  ⟨some 10, .bin .lss (.t 9) (.c (.int .i64 0)), none⟩])
 (.cond (.t 10) (.seq (.region 0 [⟨some 4, .mv (.c (.int .i64 (-1))), none⟩])
 .ret) .skip))
 (.seq (.region 0 [⟨some 11, .mv (.t 1), none⟩,
  ⟨some 4, .mv (.t 11), none⟩])
 .ret))))
structure G_laws_szReadMarkS (E : Env) : Prop where
  is : Is E 24 2 laws_szReadMarkS_ac [(4, none)]
theorem laws_szReadMarkS_E {E : Env} (h : G_laws_szReadMarkS E) (a0 a1 : U) : E 24 [a0, a1] =
 (U.lenOf false a0).bind fun n1 => (U.bin .sub a1 (.int .i64 (n1 : Int))).bind fun t2 => (U.bin .lss t2 (.int .i64 0)).bind fun t3 => U.asBool t3
 (some (.int .i64 (-1)))
 (some t2) := (h.is _ rfl).trans ((runQ_V rfl).trans (by kernel_rfl))
end Go.Proofs.YtmdnjglkdddaeaaGreat.Am
namespace Go.Proofs.YtmdnjglkdddaeaaGreat.Am
open Go
set_option linter.unusedVariables false
set_option maxRecDepth 100000
def laws_szWriteS_ac : AC :=
 (.seq (.region 0 [⟨some 4, .mv (.c (.int .i64 0)), none⟩])
 (.seq (.region 0 [⟨some 5, .mv (.t 1), none⟩,
  ⟨some 6, .mv (.t 0), none⟩,
  ⟨some 7, .len false (.t 6), none⟩,
  ⟨some 8, .bin .sub (.t 5) (.t 7), none⟩,
  ⟨some 1, .mv (.t 8), none⟩])
 (.seq (.seq (.region 0 [⟨some 9, .mv (.t 1), none⟩,
  ⟨some 10, .bin .lss (.t 9) (.c (.int .i64 0)), none⟩])
 (.cond (.t 10) (.seq (.region 0 [⟨some 4, .mv (.c (.int .i64 (-1))), none⟩])
 .ret) .skip))
 (.seq (.region 0 [⟨some 11, .mv (.t 1), none⟩,
  ⟨some 4, .mv (.t 11), none⟩])
 .ret))))
structure G_laws_szWriteS (E : Env) : Prop where
  is : Is E 23 2 laws_szWriteS_ac [(4, none)]
theorem laws_szWriteS_E {E : Env} (h : G_laws_szWriteS E) (a0 a1 : U) : E 23 [a0, a1] =
 (U.lenOf false a0).bind fun n1 => (U.bin .sub a1 (.int .i64 (n1 : Int))).bind fun t2 => (U.bin .lss t2 (.int .i64 0)).bind fun t3 => U.asBool t3
 (some (.int .i64 (-1)))
 (some t2) := (h.is _ rfl).trans ((runQ_V rfl).trans (by kernel_rfl))
end Go.Proofs.YtmdnjglkdddaeaaGreat.Am
namespace Go.Proofs.YtmdnjglkdddaeaaGreat.Am
open Go
set_option linter.unusedVariables false
set_option maxRecDepth 100000
def laws_szTransaction_ac : AC :=
 (.seq (.region 0 [⟨some 2, .box false 2 (.t 0), none⟩,
  ⟨some 4, .mv (.c (.int .i64 0)), none⟩])
 (.seq (.region 0 [⟨some 5, .faddr 7 7 (.t 2), none⟩,
  ⟨some 6, .load false 1 (.t 5), none⟩,
  ⟨some 7, .mv (.t 1), none⟩,
  ⟨some 8, .call false 24 [(.t 6), (.t 7)], none⟩,
  ⟨some 1, .mv (.t 8), none⟩])
 (.seq (.seq (.region 0 [⟨some 9, .mv (.t 1), none⟩,
  ⟨some 10, .bin .lss (.t 9) (.c (.int .i64 0)), none⟩])
 (.cond (.t 10) (.seq (.region 0 [⟨some 4, .mv (.c (.int .i64 (-1))), none⟩])
 .ret) .skip))
 (.seq (.region 0 [⟨some 11, .faddr 8 8 (.t 2), none⟩,
  ⟨some 12, .load false 1 (.t 11), none⟩,
  ⟨some 13, .mv (.t 1), none⟩,
  ⟨some 14, .call false 23 [(.t 12), (.t 13)], none⟩,
  ⟨some 1, .mv (.t 14), none⟩])
 (.seq (.seq (.region 0 [⟨some 15, .mv (.t 1), none⟩,
  ⟨some 16, .bin .lss (.t 15) (.c (.int .i64 0)), none⟩])
 (.cond (.t 16) (.seq (.region 0 [⟨some 4, .mv (.c (.int .i64 (-1))), none⟩])
 .ret) .skip))
 (.seq (.region 0 [⟨some 17, .mv (.t 1), none⟩,
  ⟨some 4, .mv (.t 17), none⟩])
 .ret))))))
structure G_laws_szTransaction (E : Env) : Prop where
  is : Is E 132 2 laws_szTransaction_ac [(4, none)]
  c_laws_szReadMarkS : G_laws_szReadMarkS E
  c_laws_szWriteS : G_laws_szWriteS E
theorem laws_szTransaction_E {E : Env} (h : G_laws_szTransaction E) (a0 a1 : U) : E 132 [a0, a1] =
 U.noTup a0 fun x1 => U.asAgg x1 fun us2 => if 7 = sizes (us2.take 7) then (us2[7]?).bind fun e3 => U.asVar false 1 e3 fun e4 => (E 24 [e4, a1]).bind fun t5 => (U.bin .lss t5 (.int .i64 0)).bind fun t6 => U.asBool t6
 (some (.int .i64 (-1)))
 (U.asAgg x1 fun us7 => if 8 = sizes (us7.take 8) then (us7[8]?).bind fun e8 => U.asVar false 1 e8 fun e9 => (E 23 [e9, t5]).bind fun t10 => (U.bin .lss t10 (.int .i64 0)).bind fun t11 => U.asBool t11
 (some (.int .i64 (-1)))
 (some t10) else none) else none := (h.is _ rfl).trans ((runQ_V rfl).trans (by kernel_rfl))
end Go.Proofs.YtmdnjglkdddaeaaGreat.Am
namespace Go.Proofs.YtmdnjglkdddaeaaGreat.Am
open Go
set_option linter.unusedVariables false
set_option maxRecDepth 100000
def laws_szTransactionS_b0 : AC :=
 (.seq (.seq (.region 0 [⟨some 12, .mv (.t 5), none⟩,
  ⟨some 13, .mv (.t 0), none⟩,
  ⟨some 14, .len false (.t 13), none⟩,
  ⟨some 15, .bin .lss (.t 12) (.t 14), none⟩])
 (.cond (.t 15) .skip (.exit 0)))
 (.seq (.block 1 (.seq (.region 0 [⟨some 18, .mv (.t 0), none⟩,
  ⟨some 19, .mv (.t 5), none⟩,
  ⟨some 20, .iaddr 9 (.t 18) (.t 19), none⟩,
  ⟨some 21, .load true 9 (.t 20), none⟩,
  ⟨some 22, .mv (.t 1), none⟩,
  ⟨some 23, .call false 132 [(.t 21), (.t 22)], none⟩,
  ⟨some 1, .mv (.t 23), none⟩])
 (.seq (.region 0 [⟨some 24, .mv (.t 1), none⟩,
  ⟨some 25, .bin .lss (.t 24) (.c (.int .i64 0)), none⟩])
 (.cond (.t 25) (.seq (.region 0 [⟨some 4, .mv (.c (.int .i64 (-1))), none⟩])
 .ret) .skip))))
 (.region 0 [⟨some 16, .mv (.t 5), none⟩,
  ⟨some 17, .bin .add (.t 16) (.c (.int .i64 1)), none⟩,
  ⟨some 5, .mv (.t 17), none⟩])))
def laws_szTransactionS_r0 : AC :=
 (.seq (.region 0 [⟨some 26, .mv (.t 1), none⟩,
  ⟨some 4, .mv (.t 26), none⟩])
 .ret)
def laws_szTransactionS_ac : AC :=
 (.seq (.region 0 [⟨some 4, .mv (.c (.int .i64 0)), none⟩])
 (.seq (.region 0 [⟨some 6, .mv (.t 1), none⟩,
  ⟨some 7, .mv (.t 0), none⟩,
  ⟨some 8, .len false (.t 7), none⟩,
  ⟨some 9, .bin .sub (.t 6) (.t 8), none⟩,
  ⟨some 1, .mv (.t 9), none⟩])
 (.seq (.seq (.region 0 [⟨some 10, .mv (.t 1), none⟩,
  ⟨some 11, .bin .lss (.t 10) (.c (.int .i64 0)), none⟩])
 (.cond (.t 11) (.seq (.region 0 [⟨some 4, .mv (.c (.int .i64 (-1))), none⟩])
 .ret) .skip))
 (.seq (.seq (.region 0 [⟨some 5, .mv (.c (.int .i64 0)), none⟩])
 (.block 0 (.loop ⟨[0, 1, 5], [], []⟩ laws_szTransactionS_b0)))
 laws_szTransactionS_r0))))
noncomputable def laws_szTransactionS_l0 (E : Env) (x0 : U) (x1 : U) (x5 : U) : Option U := loopK (roundOf E ⟨[0, 1, 5], [], []⟩ laws_szTransactionS_b0 (blockK 0 (seqK (fun s => exec E laws_szTransactionS_r0 s (finish [(4, none)])) (finish [(4, none)])))) ([.val x0, .val x1, .val x5], [])
theorem laws_szTransactionS_l0_eq (E : Env) (x0 : U) (x1 : U) (x5 : U) : laws_szTransactionS_l0 E x0 x1 x5 =
 (U.lenOf false x0).bind fun n4 => (U.bin .lss x5 (.int .i64 (n4 : Int))).bind fun t5 => U.asBool t5
 (U.asInt x5 fun n6 => U.elemAt 9 x0 n6 fun e7 => U.asVar true 9 e7 fun e8 => (E 132 [e8, x1]).bind fun t9 => (U.bin .lss t9 (.int .i64 0)).bind fun t10 => U.asBool t10
 (some (.int .i64 (-1)))
 ((U.bin .add x5 (.int .i64 1)).bind fun t11 => laws_szTransactionS_l0 E x0 t9 t11))
 (some x1) :=
 (loop_eq E _ _ _ _).trans (by kernel_rfl)
structure G_laws_szTransactionS (E : Env) : Prop where
  is : Is E 131 2 laws_szTransactionS_ac [(4, none)]
  c_laws_szTransaction : G_laws_szTransaction E
theorem laws_szTransactionS_E {E : Env} (h : G_laws_szTransactionS E) (a0 a1 : U) : E 131 [a0, a1] =
 (U.lenOf false a0).bind fun n1 => (U.bin .sub a1 (.int .i64 (n1 : Int))).bind fun t2 => (U.bin .lss t2 (.int .i64 0)).bind fun t3 => U.asBool t3
 (some (.int .i64 (-1)))
 (laws_szTransactionS_l0 E a0 t2 (.int .i64 0)) := (h.is _ rfl).trans ((runQ_V rfl).trans (by kernel_rfl))
end Go.Proofs.YtmdnjglkdddaeaaGreat.Am
namespace Go.Proofs.YtmdnjglkdddaeaaGreat.Am
open Go
set_option linter.unusedVariables false
set_option maxRecDepth 100000
def laws_szLockS_ac : AC :=
 (.seq (.region 0 [⟨some 4, .mv (.c (.int .i64 0)), none⟩])
 (.seq (.region 0 [⟨some 5, .mv (.t 1), none⟩,
  ⟨some 6, .mv (.t 0), none⟩,
  ⟨some 7, .len false (.t 6), none⟩,
  ⟨some 8, .bin .sub (.t 5) (.t 7), none⟩,
  ⟨some 1, .mv (.t 8), none⟩])
 (.seq (.seq (.region 0 [⟨some 9, .mv (.t 1), none⟩,
  ⟨some 10, .bin .lss (.t 9) (.c (.int .i64 0)), none⟩])
 (.cond (.t 10) (.seq (.region 0 [⟨some 4, .mv (.c (.int .i64 (-1))), none⟩])
 .ret) .skip))
 (.seq (.region 0 [⟨some 11, .mv (.t 1), none⟩,
  ⟨some 4, .mv (.t 11), none⟩])
 .ret))))
structure G_laws_szLockS (E : Env) : Prop where
  is : Is E 130 2 laws_szLockS_ac [(4, none)]
theorem laws_szLockS_E {E : Env} (h : G_laws_szLockS E) (a0 a1 : U) : E 130 [a0, a1] =
 (U.lenOf false a0).bind fun n1 => (U.bin .sub a1 (.int .i64 (n1 : Int))).bind fun t2 => (U.bin .lss t2 (.int .i64 0)).bind fun t3 => U.asBool t3
 (some (.int .i64 (-1)))
 (some t2) := (h.is _ rfl).trans ((runQ_V rfl).trans (by kernel_rfl))
end Go.Proofs.YtmdnjglkdddaeaaGreat.Am
namespace Go.Proofs.YtmdnjglkdddaeaaGreat.Am
open Go
set_option linter.unusedVariables false
set_option maxRecDepth 100000
def laws_szWaitS_ac : AC :=
 (.seq (.region 0 [⟨some 4, .mv (.c (.int .i64 0)), none⟩])
 (.seq (.region 0 [⟨some 5, .mv (.t 1), none⟩,
  ⟨some 6, .mv (.t 0), none⟩,
  ⟨some 7, .len false (.t 6), none⟩,
  ⟨some 8, .bin .sub (.t 5) (.t 7), none⟩,
  ⟨some 1, .mv (.t 8), none⟩])
 (.seq (.seq (.region 0 [⟨some 9, .mv (.t 1), none⟩,
  ⟨some 10, .bin .lss (.t 9) (.c (.int .i64 0)), none⟩])
 (.cond (.t 10) (.seq (.region 0 [⟨some 4, .mv (.c (.int .i64 (-1))), none⟩])
 .ret) .skip))
 (.seq (.region 0 [⟨some 11, .mv (.t 1), none⟩,
  ⟨some 4, .mv (.t 11), none⟩])
 .ret))))
structure G_laws_szWaitS (E : Env) : Prop where
  is : Is E 129 2 laws_szWaitS_ac [(4, none)]
theorem laws_szWaitS_E {E : Env} (h : G_laws_szWaitS E) (a0 a1 : U) : E 129 [a0, a1] =
 (U.lenOf false a0).bind fun n1 => (U.bin .sub a1 (.int .i64 (n1 : Int))).bind fun t2 => (U.bin .lss t2 (.int .i64 0)).bind fun t3 => U.asBool t3
 (some (.int .i64 (-1)))
 (some t2) := (h.is _ rfl).trans ((runQ_V rfl).trans (by kernel_rfl))
end Go.Proofs.YtmdnjglkdddaeaaGreat.Am
namespace Go.Proofs.YtmdnjglkdddaeaaGreat.Am
open Go
set_option linter.unusedVariables false
set_option maxRecDepth 100000
def laws_szEngine_ac : AC :=
 (.seq (.region 0 [⟨some 2, .box false 2 (.t 0), none⟩,
  ⟨some 4, .mv (.c (.int .i64 0)), none⟩])
 (.seq (.region 0 [⟨some 5, .faddr 1 1 (.t 2), none⟩,
  ⟨some 6, .load true 1 (.t 5), none⟩,
  ⟨some 7, .mv (.t 1), none⟩,
  ⟨some 8, .call false 99 [(.t 6), (.t 7)], none⟩,
  ⟨some 1, .mv (.t 8), none⟩])
 (.seq (.seq (.region 0 [⟨some 9, .mv (.t 1), none⟩,
  ⟨some 10, .bin .lss (.t 9) (.c (.int .i64 0)), none⟩])
 (.cond (.t 10) (.seq (.region 0 [⟨some 4, .mv (.c (.int .i64 (-1))), none⟩])
 .ret) .skip))
 (.seq (.region 0 [⟨some 11, .faddr 2 2 (.t 2), none⟩,
  ⟨some 12, .load false 1 (.t 11), none⟩,
  ⟨some 13, .mv (.t 1), none⟩,
  ⟨some 14, .call false 131 [(.t 12), (.t 13)], none⟩,
  ⟨some 1, .mv (.t 14), none⟩])
 (.seq (.seq (.region 0 [⟨some 15, .mv (.t 1), none⟩,
  ⟨some 16, .bin .lss (.t 15) (.c (.int .i64 0)), none⟩])
 (.cond (.t 16) (.seq (.region 0 [⟨some 4, .mv (.c (.int .i64 (-1))), none⟩])
 .ret) .skip))
 (.seq (.region 0 [⟨some 17, .faddr 3 3 (.t 2), none⟩,
  ⟨some 18, .load false 1 (.t 17), none⟩,
  ⟨some 19, .mv (.t 1), none⟩,
  ⟨some 20, .call false 130 [(.t 18), (.t 19)], none⟩,
  ⟨some 1, .mv (.t 20), none⟩])
 (.seq (.seq (.region 0 [⟨some 21, .mv (.t 1), none⟩,
  ⟨some 22, .bin .lss (.t 21) (.c (.int .i64 0)), none⟩])
 (.cond (.t 22) (.seq (.region 0 [⟨some 4, .mv (.c (.int .i64 (-1))), none⟩])
 .ret) .skip))
 (.seq (.region 0 [⟨some 23, .faddr 4 4 (.t 2), none⟩,
  ⟨some 24, .load false 1 (.t 23), none⟩,
  ⟨some 25, .mv (.t 1), none⟩,
  ⟨some 26, .call false 129 [(.t 24), (.t 25)], none⟩,
  ⟨some 1, .mv (.t 26), none⟩])
 (.seq (.seq (.region 0 [⟨some 27, .mv (.t 1), none⟩,
  ⟨some 28, .bin .lss (.t 27) (.c (.int .i64 0)), none⟩])
 (.cond (.t 28) (.seq (.region 0 [⟨some 4, .mv (.c (.int .i64 (-1))), none⟩])
 .ret) .skip))
 (.seq (.region 0 [⟨some 29, .mv (.t 1), none⟩,
  ⟨some 4, .mv (.t 29), none⟩])
 .ret))))))))))
structure G_laws_szEngine (E : Env) : Prop where
  is : Is E 128 2 laws_szEngine_ac [(4, none)]
  c_laws_szStore : G_laws_szStore E
  c_laws_szTransactionS : G_laws_szTransactionS E
  c_laws_szLockS : G_laws_szLockS E
  c_laws_szWaitS : G_laws_szWaitS E
theorem laws_szEngine_E {E : Env} (h : G_laws_szEngine E) (a0 a1 : U) : E 128 [a0, a1] =
 U.noTup a0 fun x1 => U.asAgg x1 fun us2 => if 1 = sizes (us2.take 1) then (us2[1]?).bind fun e3 => U.asVar true 1 e3 fun e4 => (E 99 [e4, a1]).bind fun t5 => (U.bin .lss t5 (.int .i64 0)).bind fun t6 => U.asBool t6
 (some (.int .i64 (-1)))
 (U.asAgg x1 fun us7 => if 2 = sizes (us7.take 2) then (us7[2]?).bind fun e8 => U.asVar false 1 e8 fun e9 => (E 131 [e9, t5]).bind fun t10 => (U.bin .lss t10 (.int .i64 0)).bind fun t11 => U.asBool t11
 (some (.int .i64 (-1)))
 (U.asAgg x1 fun us12 => if 3 = sizes (us12.take 3) then (us12[3]?).bind fun e13 => U.asVar false 1 e13 fun e14 => (E 130 [e14, t10]).bind fun t15 => (U.bin .lss t15 (.int .i64 0)).bind fun t16 => U.asBool t16
 (some (.int .i64 (-1)))
 (U.asAgg x1 fun us17 => if 4 = sizes (us17.take 4) then (us17[4]?).bind fun e18 => U.asVar false 1 e18 fun e19 => (E 129 [e19, t15]).bind fun t20 => (U.bin .lss t20 (.int .i64 0)).bind fun t21 => U.asBool t21
 (some (.int .i64 (-1)))
 (some t20) else none) else none) else none) else none := (h.is _ rfl).trans ((runQ_V rfl).trans (by kernel_rfl))
end Go.Proofs.YtmdnjglkdddaeaaGreat.Am
namespace Go.Proofs.YtmdnjglkdddaeaaGreat.Am
open Go
set_option linter.unusedVariables false
set_option maxRecDepth 100000
def spec_l1In_ac : AC :=
 (.seq (.region 0 [⟨some 6, .mv (.c (.bool false)), none⟩])
 (.seq (.region 0 [⟨some 7, .mv (.t 0), none⟩,
  ⟨some 8, .mv (.t 1), none⟩,
  ⟨some 9, .bin .geq (.t 7) (.t 8), none⟩,
  ⟨some 10, .mv (.t 9), none⟩,
  ⟨some 11, .mv (.t 0), some (10, true)⟩,
  ⟨some 12, .mv (.t 2), some (10, true)⟩,
  ⟨some 13, .bin .leq (.t 11) (.t 12), some (10, true)⟩,
  ⟨some 14, .pick (.t 10) (.t 13) (.c (.bool false)), none⟩,
  ⟨some 6, .mv (.t 14), none⟩])
 .ret))
structure G_spec_l1In (E : Env) : Prop where
  is : Is E 6 3 spec_l1In_ac [(6, none)]
theorem spec_l1In_E {E : Env} (h : G_spec_l1In E) (a0 a1 a2 : U) : E 6 [a0, a1, a2] =
 (U.bin .geq a0 a1).bind fun t1 => U.asBool t1
 ((U.bin .leq a0 a2).bind fun t2 => some t2)
 (some (.bool false)) := (h.is _ rfl).trans ((runQ_V rfl).trans (by kernel_rfl))
end Go.Proofs.YtmdnjglkdddaeaaGreat.Am
namespace Go.Proofs.YtmdnjglkdddaeaaGreat.Am
open Go
set_option linter.unusedVariables false
set_option maxRecDepth 100000
def spec_FindVersion_b0 : AC :=
 (.seq (.seq (.region 0 [⟨some 6, .mv (.t 5), none⟩,
  ⟨some 7, .mv (.t 0), none⟩,
  ⟨some 8, .len false (.t 7), none⟩,
  ⟨some 9, .bin .lss (.t 6) (.t 8), none⟩])
 (.cond (.t 9) .skip (.exit 0)))
 (.seq (.block 1 (.seq (.region 0 [⟨some 12, .mv (.t 0), none⟩,
  ⟨some 13, .mv (.t 5), none⟩,
  ⟨some 14, .iaddr 5 (.t 12) (.t 13), none⟩,
  ⟨some 15, .faddr 2 2 (.t 14), none⟩,
  ⟨some 16, .load false 1 (.t 15), none⟩,
  ⟨some 17, .mv (.t 1), none⟩,
  ⟨some 18, .bin .eql (.t 16) (.t 17), none⟩])
 (.cond (.t 18) (.seq (.region 0 [⟨some 19, .mv (.t 5), none⟩,
  ⟨some 4, .mv (.t 19), none⟩])
 .ret) .skip)))
 (.region 0 [⟨some 10, .mv (.t 5), none⟩,
  ⟨some 11, .bin .add (.t 10) (.c (.int .i64 1)), none⟩,
  ⟨some 5, .mv (.t 11), none⟩])))
def spec_FindVersion_r0 : AC :=
 (.seq (.region 0 [⟨some 4, .mv (.c (.int .i64 (-1))), none⟩])
 .ret)
def spec_FindVersion_ac : AC :=
 (.seq (.region 0 [⟨some 4, .mv (.c (.int .i64 0)), none⟩])
 (.seq (.seq (.region 0 [⟨some 5, .mv (.c (.int .i64 0)), none⟩])
 (.block 0 (.loop ⟨[0, 1, 5], [], []⟩ spec_FindVersion_b0)))
 spec_FindVersion_r0))
noncomputable def spec_FindVersion_l0 (E : Env) (x0 : U) (x1 : U) (x5 : U) : Option U := loopK (roundOf E ⟨[0, 1, 5], [], []⟩ spec_FindVersion_b0 (blockK 0 (seqK (fun s => exec E spec_FindVersion_r0 s (finish [(4, none)])) (finish [(4, none)])))) ([.val x0, .val x1, .val x5], [])
theorem spec_FindVersion_l0_eq (E : Env) (x0 : U) (x1 : U) (x5 : U) : spec_FindVersion_l0 E x0 x1 x5 =
 (U.lenOf false x0).bind fun n1 => (U.bin .lss x5 (.int .i64 (n1 : Int))).bind fun t2 => U.asBool t2
 (U.asInt x5 fun n3 => U.elemAt 5 x0 n3 fun e4 => U.fieldAt 2 2 e4 fun f5 => U.asVar false 1 f5 fun e6 => (U.bin .eql e6 x1).bind fun t7 => U.asBool t7
 (some x5)
 ((U.bin .add x5 (.int .i64 1)).bind fun t8 => spec_FindVersion_l0 E x0 x1 t8))
 (some (.int .i64 (-1))) :=
 (loop_eq E _ _ _ _).trans (by kernel_rfl)
structure G_spec_FindVersion (E : Env) : Prop where
  is : Is E 140 2 spec_FindVersion_ac [(4, none)]
theorem spec_FindVersion_E {E : Env} (h : G_spec_FindVersion E) (a0 a1 : U) : E 140 [a0, a1] =
 spec_FindVersion_l0 E a0 a1 (.int .i64 0) := (h.is _ rfl).trans ((runQ_V rfl).trans (by kernel_rfl))
end Go.Proofs.YtmdnjglkdddaeaaGreat.Am
namespace Go.Proofs.YtmdnjglkdddaeaaGreat.Am
open Go
set_option linter.unusedVariables false
set_option maxRecDepth 100000
def spec_IsValidVersion_ac : AC :=
 (.seq (.region 0 [⟨some 1, .box false 1 (.t 0), none⟩,
  ⟨some 2, .mv (.c (.bool false)), none⟩])
 (.seq (.seq (.region 0 [⟨some 3, .faddr 1 1 (.t 1), none⟩,
  ⟨some 4, .load false 1 (.t 3), none⟩,
  ⟨some 5, .call false 6 [(.t 4), (.c (.int .i64 (-1))), (.c (.int .i64 99))], none⟩,
  ⟨some 6, .un .not (.t 5), none⟩,
  ⟨some 7, .mv (.t 6), none⟩,
  ⟨some 8, .faddr 2 2 (.t 1), some (7, false)⟩,
  ⟨some 9, .load false 1 (.t 8), some (7, false)⟩,
  ⟨some 10, .call false 6 [(.t 9), (.c (.int .i64 0)), (.c (.int .i64 999))], some (7, false)⟩,
  ⟨some 11, .un .not (.t 10), some (7, false)⟩,
  ⟨some 12, .pick (.t 7) (.c (.bool true)) (.t 11), none⟩,
  ⟨some 13, .mv (.t 12), none⟩,
  ⟨some 14, .faddr 3 3 (.t 1), some (13, false)⟩,
  ⟨some 15, .load false 1 (.t 14), some (13, false)⟩,
  ⟨some 16, .faddr 2 2 (.t 1), some (13, false)⟩,
  ⟨some 17, .load false 1 (.t 16), some (13, false)⟩,
  ⟨some 18, .call false 6 [(.t 15), (.t 17), (.c (.int .i64 999))], some (13, false)⟩,
  ⟨some 19, .un .not (.t 18), some (13, false)⟩,
  ⟨some 20, .pick (.t 13) (.c (.bool true)) (.t 19), none⟩,
  ⟨some 21, .mv (.t 20), none⟩,
  ⟨some 22, .faddr 4 4 (.t 1), some (21, false)⟩,
  ⟨some 23, .load false 1 (.t 22), some (21, false)⟩,
  ⟨some 24, .call false 6 [(.t 23), (.c (.int .i64 1)), (.c (.int .i64 1000))], some (21, false)⟩,
  ⟨some 25, .un .not (.t 24), some (21, false)⟩,
  ⟨some 26, .pick (.t 21) (.c (.bool true)) (.t 25), none⟩])
 (.cond (.t 26) (.seq (.region 0 [⟨some 2, .mv (.c (.bool false)), none⟩])
 .ret) .skip))
 (.seq (.seq (.region 0 [⟨some 27, .faddr 2 2 (.t 1), none⟩,
  ⟨some 28, .load false 1 (.t 27), none⟩,
  ⟨some 29, .bin .eql (.t 28) (.c (.int .i64 0)), none⟩])
 (.cond (.t 29) (.seq (.region 0 [⟨some 30, .faddr 0 0 (.t 1), none⟩,
  ⟨some 31, .load false 1 (.t 30), none⟩,
  ⟨some 32, .bin .eql (.t 31) (.c (.int .i64 0)), none⟩,
  ⟨some 33, .mv (.t 32), none⟩,
  ⟨some 34, .faddr 1 1 (.t 1), some (33, true)⟩,
  ⟨some 35, .load false 1 (.t 34), some (33, true)⟩,
  ⟨some 36, .bin .eql (.t 35) (.c (.int .i64 (-1))), some (33, true)⟩,
  ⟨some 37, .pick (.t 33) (.t 36) (.c (.bool false)), none⟩,
  ⟨some 2, .mv (.t 37), none⟩])
 .ret) .skip))
 (.seq (.region 0 [⟨some 38, .faddr 0 0 (.t 1), none⟩,
  ⟨some 39, .load false 1 (.t 38), none⟩,
  ⟨some 40, .call false 6 [(.t 39), (.c (.int .i64 1)), (.c (.int .i64 9))], none⟩,
  ⟨some 2, .mv (.t 40), none⟩])
 .ret))))
structure G_spec_IsValidVersion (E : Env) : Prop where
  is : Is E 105 1 spec_IsValidVersion_ac [(2, none)]
  c_spec_l1In : G_spec_l1In E
theorem spec_IsValidVersion_E {E : Env} (h : G_spec_IsValidVersion E) (a0 : U) : E 105 [a0] =
 U.noTup a0 fun x1 => U.asAgg x1 fun us2 => if 1 = sizes (us2.take 1) then (us2[1]?).bind fun e3 => U.asVar false 1 e3 fun e4 => (E 6 [e4, (.int .i64 (-1)), (.int .i64 99)]).bind fun t5 => (U.un .not t5).bind fun t6 => U.asBool t6
 (some (.bool false))
 (U.asAgg x1 fun us7 => if 2 = sizes (us7.take 2) then (us7[2]?).bind fun e8 => U.asVar false 1 e8 fun e9 => (E 6 [e9, (.int .i64 0), (.int .i64 999)]).bind fun t10 => (U.un .not t10).bind fun t11 => U.asBool t11
 (some (.bool false))
 (U.asAgg x1 fun us12 => if 3 = sizes (us12.take 3) then (us12[3]?).bind fun e13 => U.asVar false 1 e13 fun e14 => U.asAgg x1 fun us15 => if 2 = sizes (us15.take 2) then (us15[2]?).bind fun e16 => U.asVar false 1 e16 fun e17 => (E 6 [e14, e17, (.int .i64 999)]).bind fun t18 => (U.un .not t18).bind fun t19 => U.asBool t19
 (some (.bool false))
 (U.asAgg x1 fun us20 => if 4 = sizes (us20.take 4) then (us20[4]?).bind fun e21 => U.asVar false 1 e21 fun e22 => (E 6 [e22, (.int .i64 1), (.int .i64 1000)]).bind fun t23 => (U.un .not t23).bind fun t24 => U.asBool t24
 (some (.bool false))
 (U.asAgg x1 fun us25 => if 2 = sizes (us25.take 2) then (us25[2]?).bind fun e26 => U.asVar false 1 e26 fun e27 => (U.bin .eql e27 (.int .i64 0)).bind fun t28 => U.asBool t28
 (U.asAgg x1 fun us29 => if 0 = sizes (us29.take 0) then (us29[0]?).bind fun e30 => U.asVar false 1 e30 fun e31 => (U.bin .eql e31 (.int .i64 0)).bind fun t32 => U.asBool t32
 (U.asAgg x1 fun us33 => if 1 = sizes (us33.take 1) then (us33[1]?).bind fun e34 => U.asVar false 1 e34 fun e35 => (U.bin .eql e35 (.int .i64 (-1))).bind fun t36 => some t36 else none)
 (some (.bool false)) else none)
 (U.asAgg x1 fun us37 => if 0 = sizes (us37.take 0) then (us37[0]?).bind fun e38 => U.asVar false 1 e38 fun e39 => (E 6 [e39, (.int .i64 1), (.int .i64 9)]).bind fun t40 => some t40 else none) else none) else none) else none else none) else none) else none := (h.is _ rfl).trans ((runQ_V rfl).trans (by kernel_rfl))
end Go.Proofs.YtmdnjglkdddaeaaGreat.Am
namespace Go.Proofs.YtmdnjglkdddaeaaGreat.Am
open Go
set_option linter.unusedVariables false
set_option maxRecDepth 100000
def spec_IsValidChain_b0 : AC :=
 (.seq (.seq (.region 0 [⟨some 4, .mv (.t 3), none⟩,
  ⟨some 5, .mv (.t 0), none⟩,
  ⟨some 6, .len false (.t 5), none⟩,
  ⟨some 7, .bin .lss (.t 4) (.t 6), none⟩])
 (.cond (.t 7) .skip (.exit 0)))
 (.seq (.block 1 (.seq (.seq (.region 0 [⟨some 10, .mv (.t 0), none⟩,
  ⟨some 11, .mv (.t 3), none⟩,
  ⟨some 12, .iaddr 5 (.t 10) (.t 11), none⟩,
  ⟨some 13, .load true 5 (.t 12), none⟩,
  ⟨some 14, .call false 105 [(.t 13)], none⟩,
  ⟨some 15, .un .not (.t 14), none⟩])
 (.cond (.t 15) (.seq (.region 0 [⟨some 2, .mv (.c (.bool false)), none⟩])
 .ret) .skip))
 (.seq (.region 33 [⟨some 16, .mv (.t 3), none⟩,
  ⟨some 17, .bin .add (.t 16) (.c (.int .i64 1)), none⟩,
  ⟨some 18, .mv (.t 0), none⟩,
  ⟨some 19, .len false (.t 18), none⟩,
  ⟨some 20, .bin .lss (.t 17) (.t 19), none⟩,
  ⟨some 21, .mv (.t 20), none⟩,
  ⟨some 22, .mv (.t 0), some (21, true)⟩,
  ⟨some 23, .mv (.t 3), some (21, true)⟩,
  ⟨some 24, .iaddr 5 (.t 22) (.t 23), some (21, true)⟩,
  ⟨some 25, .faddr 2 2 (.t 24), some (21, true)⟩,
  ⟨some 26, .load false 1 (.t 25), some (21, true)⟩,
  ⟨some 27, .mv (.t 0), some (21, true)⟩,
  ⟨some 28, .mv (.t 3), some (21, true)⟩,
  ⟨some 29, .bin .add (.t 28) (.c (.int .i64 1)), some (21, true)⟩,
  ⟨some 30, .iaddr 5 (.t 27) (.t 29), some (21, true)⟩,
  ⟨some 31, .faddr 2 2 (.t 30), some (21, true)⟩,
  ⟨some 32, .load false 1 (.t 31), some (21, true)⟩,
  ⟨some 33, .bin .geq (.t 26) (.t 32), some (21, true)⟩,
  ⟨some 34, .mv (.t 33), some (21, true)⟩,
  ⟨some 35, .mv (.t 0), some (34, false)⟩,
  ⟨some 36, .mv (.t 3), some (34, false)⟩,
  ⟨some 37, .iaddr 5 (.t 35) (.t 36), some (34, false)⟩,
  ⟨some 38, .faddr 4 4 (.t 37), some (34, false)⟩,
  ⟨some 39, .load false 1 (.t 38), some (34, false)⟩,
  ⟨some 40, .mv (.t 0), some (34, false)⟩,
  ⟨some 41, .mv (.t 3), some (34, false)⟩,
  ⟨some 42, .bin .add (.t 41) (.c (.int .i64 1)), some (34, false)⟩,
  ⟨some 43, .iaddr 5 (.t 40) (.t 42), some (34, false)⟩,
  ⟨some 44, .faddr 2 2 (.t 43), some (34, false)⟩,
  ⟨some 45, .load false 1 (.t 44), some (34, false)⟩,
  ⟨some 46, .bin .gtr (.t 39) (.t 45), some (34, false)⟩,
  ⟨some 47, .pick (.t 34) (.c (.bool true)) (.t 46), some (21, true)⟩,
  ⟨some 48, .pick (.t 21) (.t 47) (.c (.bool false)), none⟩])
 (.cond (.t 48) (.seq (.region 0 [⟨some 2, .mv (.c (.bool false)), none⟩])
 .ret) .skip))))
 (.region 0 [⟨some 8, .mv (.t 3), none⟩,
  ⟨some 9, .bin .add (.t 8) (.c (.int .i64 1)), none⟩,
  ⟨some 3, .mv (.t 9), none⟩])))
def spec_IsValidChain_r0 : AC :=
 (.seq (.region 0 [⟨some 49, .mv (.t 0), none⟩,
  ⟨some 50, .len false (.t 49), none⟩,
  ⟨some 51, .bin .gtr (.t 50) (.c (.int .i64 0)), none⟩,
  ⟨some 52, .mv (.t 51), none⟩,
  ⟨some 53, .mv (.t 0), some (52, true)⟩,
  ⟨some 54, .mv (.t 0), some (52, true)⟩,
  ⟨some 55, .len false (.t 54), some (52, true)⟩,
  ⟨some 56, .bin .sub (.t 55) (.c (.int .i64 1)), some (52, true)⟩,
  ⟨some 57, .iaddr 5 (.t 53) (.t 56), some (52, true)⟩,
  ⟨some 58, .faddr 4 4 (.t 57), some (52, true)⟩,
  ⟨some 59, .load false 1 (.t 58), some (52, true)⟩,
  ⟨some 60, .bin .eql (.t 59) (.c (.int .i64 1000)), some (52, true)⟩,
  ⟨some 61, .pick (.t 52) (.t 60) (.c (.bool false)), none⟩,
  ⟨some 2, .mv (.t 61), none⟩])
 .ret)
def spec_IsValidChain_ac : AC :=
 (.seq (.region 0 [⟨some 2, .mv (.c (.bool false)), none⟩])
 (.seq (.seq (.region 0 [⟨some 3, .mv (.c (.int .i64 0)), none⟩])
 (.block 0 (.loop ⟨[0, 3], [], []⟩ spec_IsValidChain_b0)))
 spec_IsValidChain_r0))
noncomputable def spec_IsValidChain_l0 (E : Env) (x0 : U) (x3 : U) : Option U := loopK (roundOf E ⟨[0, 3], [], []⟩ spec_IsValidChain_b0 (blockK 0 (seqK (fun s => exec E spec_IsValidChain_r0 s (finish [(2, none)])) (finish [(2, none)])))) ([.val x0, .val x3], [])
theorem spec_IsValidChain_l0_eq (E : Env) (x0 : U) (x3 : U) : spec_IsValidChain_l0 E x0 x3 =
 (U.lenOf false x0).bind fun n1 => (U.bin .lss x3 (.int .i64 (n1 : Int))).bind fun t2 => U.asBool t2
 (U.asInt x3 fun n3 => U.elemAt 5 x0 n3 fun e4 => U.asVar true 5 e4 fun e5 => (E 105 [e5]).bind fun t6 => (U.un .not t6).bind fun t7 => U.asBool t7
 (some (.bool false))
 ((U.bin .add x3 (.int .i64 1)).bind fun t8 => (U.lenOf false x0).bind fun n9 => (U.bin .lss t8 (.int .i64 (n9 : Int))).bind fun t10 => U.asBool t10
 (U.asInt x3 fun n11 => U.elemAt 5 x0 n11 fun e12 => U.fieldAt 2 2 e12 fun f13 => U.asVar false 1 f13 fun e14 => (U.bin .add x3 (.int .i64 1)).bind fun t15 => U.asInt t15 fun n16 => U.elemAt 5 x0 n16 fun e17 => U.fieldAt 2 2 e17 fun f18 => U.asVar false 1 f18 fun e19 => (U.bin .geq e14 e19).bind fun t20 => U.asBool t20
 (some (.bool false))
 (U.asInt x3 fun n21 => U.elemAt 5 x0 n21 fun e22 => U.fieldAt 4 4 e22 fun f23 => U.asVar false 1 f23 fun e24 => (U.bin .add x3 (.int .i64 1)).bind fun t25 => U.asInt t25 fun n26 => U.elemAt 5 x0 n26 fun e27 => U.fieldAt 2 2 e27 fun f28 => U.asVar false 1 f28 fun e29 => (U.bin .gtr e24 e29).bind fun t30 => U.asBool t30
 (some (.bool false))
 ((U.bin .add x3 (.int .i64 1)).bind fun t31 => spec_IsValidChain_l0 E x0 t31)))
 ((U.bin .add x3 (.int .i64 1)).bind fun t32 => spec_IsValidChain_l0 E x0 t32)))
 ((U.lenOf false x0).bind fun n33 => (U.bin .gtr (.int .i64 (n33 : Int)) (.int .i64 0)).bind fun t34 => U.asBool t34
 ((U.lenOf false x0).bind fun n35 => (U.bin .sub (.int .i64 (n35 : Int)) (.int .i64 1)).bind fun t36 => U.asInt t36 fun n37 => U.elemAt 5 x0 n37 fun e38 => U.fieldAt 4 4 e38 fun f39 => U.asVar false 1 f39 fun e40 => (U.bin .eql e40 (.int .i64 1000)).bind fun t41 => some t41)
 (some (.bool false))) :=
 (loop_eq E _ _ _ _).trans (by kernel_rfl)
structure G_spec_IsValidChain (E : Env) : Prop where
  is : Is E 104 1 spec_IsValidChain_ac [(2, none)]
  c_spec_IsValidVersion : G_spec_IsValidVersion E
theorem spec_IsValidChain_E {E : Env} (h : G_spec_IsValidChain E) (a0 : U) : E 104 [a0] =
 spec_IsValidChain_l0 E a0 (.int .i64 0) := (h.is _ rfl).trans ((runQ_V rfl).trans (by kernel_rfl))
end Go.Proofs.YtmdnjglkdddaeaaGreat.Am
namespace Go.Proofs.YtmdnjglkdddaeaaGreat.Am
open Go
set_option linter.unusedVariables false
set_option maxRecDepth 100000
def spec_IsValidStore_b0 : AC :=
 (.seq (.seq (.region 0 [⟨some 4, .mv (.t 3), none⟩,
  ⟨some 5, .faddr 0 0 (.t 1), none⟩,
  ⟨some 6, .load false 1 (.t 5), none⟩,
  ⟨some 7, .len false (.t 6), none⟩,
  ⟨some 8, .bin .lss (.t 4) (.t 7), none⟩])
 (.cond (.t 8) .skip (.exit 0)))
 (.seq (.block 1 (.seq (.region 0 [⟨some 11, .faddr 0 0 (.t 1), none⟩,
  ⟨some 12, .load false 1 (.t 11), none⟩,
  ⟨some 13, .mv (.t 3), none⟩,
  ⟨some 14, .iaddr 1 (.t 12) (.t 13), none⟩,
  ⟨some 15, .load false 1 (.t 14), none⟩,
  ⟨some 16, .call false 104 [(.t 15)], none⟩,
  ⟨some 17, .un .not (.t 16), none⟩,
  ⟨some 18, .mv (.t 17), none⟩,
  ⟨some 19, .faddr 0 0 (.t 1), some (18, false)⟩,
  ⟨some 20, .load false 1 (.t 19), some (18, false)⟩,
  ⟨some 21, .mv (.t 3), some (18, false)⟩,
  ⟨some 22, .iaddr 1 (.t 20) (.t 21), some (18, false)⟩,
  ⟨some 23, .load false 1 (.t 22), some (18, false)⟩,
  ⟨some 24, .iaddr 5 (.t 23) (.c (.int .i64 0)), some (18, false)⟩,
  ⟨some 25, .faddr 2 2 (.t 24), some (18, false)⟩,
  ⟨some 26, .load false 1 (.t 25), some (18, false)⟩,
  ⟨some 27, .bin .gtr (.t 26) (.c (.int .i64 0)), some (18, false)⟩,
  ⟨some 28, .mv (.t 27), some (18, false)⟩,
  ⟨some 29, .faddr 0 0 (.t 1), some (28, true)⟩,
  ⟨some 30, .load false 1 (.t 29), some (28, true)⟩,
  ⟨some 31, .mv (.t 3), some (28, true)⟩,
  ⟨some 32, .iaddr 1 (.t 30) (.t 31), some (28, true)⟩,
  ⟨some 33, .load false 1 (.t 32), some (28, true)⟩,
  ⟨some 34, .len false (.t 33), some (28, true)⟩,
  ⟨some 35, .bin .gtr (.t 34) (.c (.int .i64 50)), some (28, true)⟩,
  ⟨some 36, .pick (.t 28) (.t 35) (.c (.bool false)), some (18, false)⟩,
  ⟨some 37, .pick (.t 18) (.c (.bool true)) (.t 36), none⟩,
  ⟨some 38, .mv (.t 37), none⟩,
  ⟨some 39, .faddr 0 0 (.t 1), some (38, false)⟩,
  ⟨some 40, .load false 1 (.t 39), some (38, false)⟩,
  ⟨some 41, .mv (.t 3), some (38, false)⟩,
  ⟨some 42, .iaddr 1 (.t 40) (.t 41), some (38, false)⟩,
  ⟨some 43, .load false 1 (.t 42), some (38, false)⟩,
  ⟨some 44, .len false (.t 43), some (38, false)⟩,
  ⟨some 45, .bin .gtr (.t 44) (.c (.int .i64 50)), some (38, false)⟩,
  ⟨some 46, .pick (.t 38) (.c (.bool true)) (.t 45), none⟩])
 (.cond (.t 46) (.seq (.region 0 [⟨some 2, .mv (.c (.bool false)), none⟩])
 .ret) .skip)))
 (.region 0 [⟨some 9, .mv (.t 3), none⟩,
  ⟨some 10, .bin .add (.t 9) (.c (.int .i64 1)), none⟩,
  ⟨some 3, .mv (.t 10), none⟩])))
def spec_IsValidStore_r0 : AC :=
 (.seq (.region 0 [⟨some 47, .faddr 0 0 (.t 1), none⟩,
  ⟨some 48, .load false 1 (.t 47), none⟩,
  ⟨some 49, .len false (.t 48), none⟩,
  ⟨some 50, .bin .eql (.t 49) (.c (.int .i64 6)), none⟩,
  ⟨some 2, .mv (.t 50), none⟩])
 .ret)
def spec_IsValidStore_ac : AC :=
 (.seq (.region 0 [⟨some 1, .box false 1 (.t 0), none⟩,
  ⟨some 2, .mv (.c (.bool false)), none⟩])
 (.seq (.seq (.region 0 [⟨some 3, .mv (.c (.int .i64 0)), none⟩])
 (.block 0 (.loop ⟨[1, 3], [], [(1, false)]⟩ spec_IsValidStore_b0)))
 spec_IsValidStore_r0))
noncomputable def spec_IsValidStore_l0 (E : Env) (x3 : U) (b1 : U) : Option U := loopK (roundOf E ⟨[1, 3], [], [(1, false)]⟩ spec_IsValidStore_b0 (blockK 0 (seqK (fun s => exec E spec_IsValidStore_r0 s (finish [(2, none)])) (finish [(2, none)])))) ([.ptr 1 [], .val x3], [.box (.val b1)])
theorem spec_IsValidStore_l0_eq (E : Env) (x3 : U) (b1 : U) : spec_IsValidStore_l0 E x3 b1 =
 U.asAgg b1 fun us2 => if 0 = sizes (us2.take 0) then (us2[0]?).bind fun e3 => U.asVar false 1 e3 fun e4 => (U.lenOf false e4).bind fun n5 => (U.bin .lss x3 (.int .i64 (n5 : Int))).bind fun t6 => U.asBool t6
 (U.asAgg b1 fun us7 => if 0 = sizes (us7.take 0) then (us7[0]?).bind fun e8 => U.asVar false 1 e8 fun e9 => U.asInt x3 fun n10 => U.elemAt 1 e9 n10 fun e11 => U.asVar false 1 e11 fun e12 => (E 104 [e12]).bind fun t13 => (U.un .not t13).bind fun t14 => U.asBool t14
 (some (.bool false))
 (U.asAgg b1 fun us15 => if 0 = sizes (us15.take 0) then (us15[0]?).bind fun e16 => U.asVar false 1 e16 fun e17 => U.asInt x3 fun n18 => U.elemAt 1 e17 n18 fun e19 => U.asVar false 1 e19 fun e20 => U.elemAt 5 e20 0 fun e21 => U.fieldAt 2 2 e21 fun f22 => U.asVar false 1 f22 fun e23 => (U.bin .gtr e23 (.int .i64 0)).bind fun t24 => U.asBool t24
 (U.asAgg b1 fun us25 => if 0 = sizes (us25.take 0) then (us25[0]?).bind fun e26 => U.asVar false 1 e26 fun e27 => U.asInt x3 fun n28 => U.elemAt 1 e27 n28 fun e29 => U.asVar false 1 e29 fun e30 => (U.lenOf false e30).bind fun n31 => (U.bin .gtr (.int .i64 (n31 : Int)) (.int .i64 50)).bind fun t32 => U.asBool t32
 (some (.bool false))
 (U.asAgg b1 fun us33 => if 0 = sizes (us33.take 0) then (us33[0]?).bind fun e34 => U.asVar false 1 e34 fun e35 => U.asInt x3 fun n36 => U.elemAt 1 e35 n36 fun e37 => U.asVar false 1 e37 fun e38 => (U.lenOf false e38).bind fun n39 => (U.bin .gtr (.int .i64 (n39 : Int)) (.int .i64 50)).bind fun t40 => U.asBool t40
 (some (.bool false))
 ((U.bin .add x3 (.int .i64 1)).bind fun t41 => spec_IsValidStore_l0 E t41 b1) else none) else none)
 (U.asAgg b1 fun us42 => if 0 = sizes (us42.take 0) then (us42[0]?).bind fun e43 => U.asVar false 1 e43 fun e44 => U.asInt x3 fun n45 => U.elemAt 1 e44 n45 fun e46 => U.asVar false 1 e46 fun e47 => (U.lenOf false e47).bind fun n48 => (U.bin .gtr (.int .i64 (n48 : Int)) (.int .i64 50)).bind fun t49 => U.asBool t49
 (some (.bool false))
 ((U.bin .add x3 (.int .i64 1)).bind fun t50 => spec_IsValidStore_l0 E t50 b1) else none) else none) else none)
 (U.asAgg b1 fun us51 => if 0 = sizes (us51.take 0) then (us51[0]?).bind fun e52 => U.asVar false 1 e52 fun e53 => (U.lenOf false e53).bind fun n54 => (U.bin .eql (.int .i64 (n54 : Int)) (.int .i64 6)).bind fun t55 => some t55 else none) else none :=
 (loop_eq E _ _ _ _).trans (by kernel_rfl)
structure G_spec_IsValidStore (E : Env) : Prop where
  is : Is E 103 1 spec_IsValidStore_ac [(2, none)]
  c_spec_IsValidChain : G_spec_IsValidChain E
theorem spec_IsValidStore_E {E : Env} (h : G_spec_IsValidStore E) (a0 : U) : E 103 [a0] =
 U.noTup a0 fun x1 => spec_IsValidStore_l0 E (.int .i64 0) x1 := (h.is _ rfl).trans ((runQ_V rfl).trans (by kernel_rfl))
end Go.Proofs.YtmdnjglkdddaeaaGreat.Am
namespace Go.Proofs.YtmdnjglkdddaeaaGreat.Am
open Go
set_option linter.unusedVariables false
set_option maxRecDepth 100000
def spec_l5Before_ac : AC :=
 (.seq (.region 0 [⟨some 2, .box false 2 (.t 0), none⟩,
  ⟨some 3, .box false 3 (.t 1), none⟩,
  ⟨some 4, .mv (.c (.bool false)), none⟩])
 (.seq (.region 0 [⟨some 5, .faddr 0 0 (.t 2), none⟩,
  ⟨some 6, .load false 1 (.t 5), none⟩,
  ⟨some 7, .faddr 0 0 (.t 3), none⟩,
  ⟨some 8, .load false 1 (.t 7), none⟩,
  ⟨some 9, .bin .lss (.t 6) (.t 8), none⟩,
  ⟨some 10, .mv (.t 9), none⟩,
  ⟨some 11, .faddr 0 0 (.t 2), some (10, false)⟩,
  ⟨some 12, .load false 1 (.t 11), some (10, false)⟩,
  ⟨some 13, .faddr 0 0 (.t 3), some (10, false)⟩,
  ⟨some 14, .load false 1 (.t 13), some (10, false)⟩,
  ⟨some 15, .bin .eql (.t 12) (.t 14), some (10, false)⟩,
  ⟨some 16, .mv (.t 15), some (10, false)⟩,
  ⟨some 17, .faddr 1 1 (.t 2), some (16, true)⟩,
  ⟨some 18, .load false 1 (.t 17), some (16, true)⟩,
  ⟨some 19, .faddr 1 1 (.t 3), some (16, true)⟩,
  ⟨some 20, .load false 1 (.t 19), some (16, true)⟩,
  ⟨some 21, .bin .lss (.t 18) (.t 20), some (16, true)⟩,
  ⟨some 22, .pick (.t 16) (.t 21) (.c (.bool false)), some (10, false)⟩,
  ⟨some 23, .pick (.t 10) (.c (.bool true)) (.t 22), none⟩,
  ⟨some 4, .mv (.t 23), none⟩])
 .ret))
structure G_spec_l5Before (E : Env) : Prop where
  is : Is E 71 2 spec_l5Before_ac [(4, none)]
theorem spec_l5Before_E {E : Env} (h : G_spec_l5Before E) (a0 a1 : U) : E 71 [a0, a1] =
 U.noTup a0 fun x1 => U.noTup a1 fun x2 => U.asAgg x1 fun us3 => if 0 = sizes (us3.take 0) then (us3[0]?).bind fun e4 => U.asVar false 1 e4 fun e5 => U.asAgg x2 fun us6 => if 0 = sizes (us6.take 0) then (us6[0]?).bind fun e7 => U.asVar false 1 e7 fun e8 => (U.bin .lss e5 e8).bind fun t9 => U.asBool t9
 (some (.bool true))
 (U.asAgg x1 fun us10 => if 0 = sizes (us10.take 0) then (us10[0]?).bind fun e11 => U.asVar false 1 e11 fun e12 => U.asAgg x2 fun us13 => if 0 = sizes (us13.take 0) then (us13[0]?).bind fun e14 => U.asVar false 1 e14 fun e15 => (U.bin .eql e12 e15).bind fun t16 => U.asBool t16
 (U.asAgg x1 fun us17 => if 1 = sizes (us17.take 1) then (us17[1]?).bind fun e18 => U.asVar false 1 e18 fun e19 => U.asAgg x2 fun us20 => if 1 = sizes (us20.take 1) then (us20[1]?).bind fun e21 => U.asVar false 1 e21 fun e22 => (U.bin .lss e19 e22).bind fun t23 => some t23 else none else none)
 (some (.bool false)) else none else none) else none else none := (h.is _ rfl).trans ((runQ_V rfl).trans (by kernel_rfl))
end Go.Proofs.YtmdnjglkdddaeaaGreat.Am
namespace Go.Proofs.YtmdnjglkdddaeaaGreat.Am
open Go
set_option linter.unusedVariables false
set_option maxRecDepth 100000
def spec_IsValidTransaction_b1 : AC :=
 (.seq (.seq (.region 0 [⟨some 7, .mv (.t 3), none⟩,
  ⟨some 8, .faddr 7 7 (.t 1), none⟩,
  ⟨some 9, .load false 1 (.t 8), none⟩,
  ⟨some 10, .len false (.t 9), none⟩,
  ⟨some 11, .bin .lss (.t 7) (.t 10), none⟩])
 (.cond (.t 11) .skip (.exit 0)))
 (.seq (.block 1 (.seq (.region 0 [⟨some 14, .faddr 7 7 (.t 1), none⟩,
  ⟨some 15, .load false 1 (.t 14), none⟩,
  ⟨some 16, .mv (.t 3), none⟩,
  ⟨some 17, .iaddr 2 (.t 15) (.t 16), none⟩,
  ⟨some 18, .load true 2 (.t 17), none⟩,
  ⟨some 4, .alloc 4 (.agg [(.int .i64 0), (.int .i64 0)]), none⟩,
  ⟨none, .store 2 (.t 4) (.t 18), none⟩])
 (.seq (.region 25 [⟨some 19, .faddr 0 0 (.t 4), none⟩,
  ⟨some 20, .load false 1 (.t 19), none⟩,
  ⟨some 21, .call false 6 [(.t 20), (.c (.int .i64 0)), (.c (.int .i64 5))], none⟩,
  ⟨some 22, .un .not (.t 21), none⟩,
  ⟨some 23, .mv (.t 22), none⟩,
  ⟨some 24, .faddr 1 1 (.t 4), some (23, false)⟩,
  ⟨some 25, .load false 1 (.t 24), some (23, false)⟩,
  ⟨some 26, .call false 6 [(.t 25), (.c (.int .i64 0)), (.c (.int .i64 999))], some (23, false)⟩,
  ⟨some 27, .un .not (.t 26), some (23, false)⟩,
  ⟨some 28, .pick (.t 23) (.c (.bool true)) (.t 27), none⟩,
  ⟨some 29, .mv (.t 28), none⟩,
  ⟨some 30, .mv (.t 3), some (29, false)⟩,
  ⟨some 31, .bin .gtr (.t 30) (.c (.int .i64 0)), some (29, false)⟩,
  ⟨some 32, .mv (.t 31), some (29, false)⟩,
  ⟨some 33, .faddr 7 7 (.t 1), some (32, true)⟩,
  ⟨some 34, .load false 1 (.t 33), some (32, true)⟩,
  ⟨some 35, .mv (.t 3), some (32, true)⟩,
  ⟨some 36, .bin .sub (.t 35) (.c (.int .i64 1)), some (32, true)⟩,
  ⟨some 37, .iaddr 2 (.t 34) (.t 36), some (32, true)⟩,
  ⟨some 38, .load true 2 (.t 37), some (32, true)⟩,
  ⟨some 39, .load true 2 (.t 4), some (32, true)⟩,
  ⟨some 40, .call false 71 [(.t 38), (.t 39)], some (32, true)⟩,
  ⟨some 41, .un .not (.t 40), some (32, true)⟩,
  ⟨some 42, .pick (.t 32) (.t 41) (.c (.bool false)), some (29, false)⟩,
  ⟨some 43, .pick (.t 29) (.c (.bool true)) (.t 42), none⟩])
 (.cond (.t 43) (.seq (.region 0 [⟨some 2, .mv (.c (.bool false)), none⟩])
 .ret) .skip))))
 (.region 0 [⟨some 12, .mv (.t 3), none⟩,
  ⟨some 13, .bin .add (.t 12) (.c (.int .i64 1)), none⟩,
  ⟨some 3, .mv (.t 13), none⟩])))
def spec_IsValidTransaction_b0 : AC :=
 (.seq (.seq (.region 0 [⟨some 44, .mv (.t 5), none⟩,
  ⟨some 45, .faddr 8 8 (.t 1), none⟩,
  ⟨some 46, .load false 1 (.t 45), none⟩,
  ⟨some 47, .len false (.t 46), none⟩,
  ⟨some 48, .bin .lss (.t 44) (.t 47), none⟩])
 (.cond (.t 48) .skip (.exit 2)))
 (.seq (.block 3 (.seq (.region 0 [⟨some 51, .faddr 8 8 (.t 1), none⟩,
  ⟨some 52, .load false 1 (.t 51), none⟩,
  ⟨some 53, .mv (.t 5), none⟩,
  ⟨some 54, .iaddr 2 (.t 52) (.t 53), none⟩,
  ⟨some 55, .load true 2 (.t 54), none⟩,
  ⟨some 6, .alloc 6 (.agg [(.int .i64 0), (.int .i64 0)]), none⟩,
  ⟨none, .store 2 (.t 6) (.t 55), none⟩])
 (.seq (.region 26 [⟨some 56, .faddr 0 0 (.t 6), none⟩,
  ⟨some 57, .load false 1 (.t 56), none⟩,
  ⟨some 58, .call false 6 [(.t 57), (.c (.int .i64 0)), (.c (.int .i64 5))], none⟩,
  ⟨some 59, .un .not (.t 58), none⟩,
  ⟨some 60, .mv (.t 59), none⟩,
  ⟨some 61, .faddr 1 1 (.t 6), some (60, false)⟩,
  ⟨some 62, .load false 1 (.t 61), some (60, false)⟩,
  ⟨some 63, .call false 6 [(.t 62), (.c (.int .i64 (-1))), (.c (.int .i64 99))], some (60, false)⟩,
  ⟨some 64, .un .not (.t 63), some (60, false)⟩,
  ⟨some 65, .pick (.t 60) (.c (.bool true)) (.t 64), none⟩,
  ⟨some 66, .mv (.t 65), none⟩,
  ⟨some 67, .mv (.t 5), some (66, false)⟩,
  ⟨some 68, .bin .gtr (.t 67) (.c (.int .i64 0)), some (66, false)⟩,
  ⟨some 69, .mv (.t 68), some (66, false)⟩,
  ⟨some 70, .faddr 8 8 (.t 1), some (69, true)⟩,
  ⟨some 71, .load false 1 (.t 70), some (69, true)⟩,
  ⟨some 72, .mv (.t 5), some (69, true)⟩,
  ⟨some 73, .bin .sub (.t 72) (.c (.int .i64 1)), some (69, true)⟩,
  ⟨some 74, .iaddr 2 (.t 71) (.t 73), some (69, true)⟩,
  ⟨some 75, .faddr 0 0 (.t 74), some (69, true)⟩,
  ⟨some 76, .load false 1 (.t 75), some (69, true)⟩,
  ⟨some 77, .faddr 0 0 (.t 6), some (69, true)⟩,
  ⟨some 78, .load false 1 (.t 77), some (69, true)⟩,
  ⟨some 79, .bin .geq (.t 76) (.t 78), some (69, true)⟩,
  ⟨some 80, .pick (.t 69) (.t 79) (.c (.bool false)), some (66, false)⟩,
  ⟨some 81, .pick (.t 66) (.c (.bool true)) (.t 80), none⟩])
 (.cond (.t 81) (.seq (.region 0 [⟨some 2, .mv (.c (.bool false)), none⟩])
 .ret) .skip))))
 (.region 0 [⟨some 49, .mv (.t 5), none⟩,
  ⟨some 50, .bin .add (.t 49) (.c (.int .i64 1)), none⟩,
  ⟨some 5, .mv (.t 50), none⟩])))
def spec_IsValidTransaction_r0 : AC :=
 (.seq (.seq (.region 0 [⟨some 82, .faddr 0 0 (.t 1), none⟩,
  ⟨some 83, .load false 1 (.t 82), none⟩,
  ⟨some 84, .call false 6 [(.t 83), (.c (.int .i64 1)), (.c (.int .i64 9))], none⟩,
  ⟨some 85, .un .not (.t 84), none⟩,
  ⟨some 86, .mv (.t 85), none⟩,
  ⟨some 87, .faddr 1 1 (.t 1), some (86, false)⟩,
  ⟨some 88, .load false 1 (.t 87), some (86, false)⟩,
  ⟨some 89, .call false 6 [(.t 88), (.c (.int .i64 1)), (.c (.int .i64 4))], some (86, false)⟩,
  ⟨some 90, .un .not (.t 89), some (86, false)⟩,
  ⟨some 91, .pick (.t 86) (.c (.bool true)) (.t 90), none⟩,
  ⟨some 92, .mv (.t 91), none⟩,
  ⟨some 93, .faddr 3 3 (.t 1), some (92, false)⟩,
  ⟨some 94, .load false 1 (.t 93), some (92, false)⟩,
  ⟨some 95, .call false 6 [(.t 94), (.c (.int .i64 0)), (.c (.int .i64 999))], some (92, false)⟩,
  ⟨some 96, .un .not (.t 95), some (92, false)⟩,
  ⟨some 97, .pick (.t 92) (.c (.bool true)) (.t 96), none⟩])
 (.cond (.t 97) (.seq (.region 0 [⟨some 2, .mv (.c (.bool false)), none⟩])
 .ret) .skip))
 (.seq (.region 0 [⟨some 98, .faddr 2 2 (.t 1), none⟩,
  ⟨some 99, .load false 1 (.t 98), none⟩,
  ⟨some 100, .call false 6 [(.t 99), (.c (.int .i64 1)), (.c (.int .i64 3))], none⟩,
  ⟨some 101, .mv (.t 100), none⟩,
  ⟨some 102, .faddr 4 4 (.t 1), some (101, true)⟩,
  ⟨some 103, .load false 1 (.t 102), some (101, true)⟩,
  ⟨some 104, .call false 6 [(.t 103), (.c (.int .i64 0)), (.c (.int .i64 999))], some (101, true)⟩,
  ⟨some 105, .pick (.t 101) (.t 104) (.c (.bool false)), none⟩,
  ⟨some 106, .mv (.t 105), none⟩,
  ⟨some 107, .faddr 5 5 (.t 1), some (106, true)⟩,
  ⟨some 108, .load false 1 (.t 107), some (106, true)⟩,
  ⟨some 109, .call false 6 [(.t 108), (.c (.int .i64 1)), (.c (.int .i64 1000))], some (106, true)⟩,
  ⟨some 110, .pick (.t 106) (.t 109) (.c (.bool false)), none⟩,
  ⟨some 111, .mv (.t 110), none⟩,
  ⟨some 112, .faddr 2 2 (.t 1), some (111, true)⟩,
  ⟨some 113, .load false 1 (.t 112), some (111, true)⟩,
  ⟨some 114, .bin .eql (.t 113) (.c (.int .i64 2)), some (111, true)⟩,
  ⟨some 115, .faddr 6 6 (.t 1), some (111, true)⟩,
  ⟨some 116, .load false 1 (.t 115), some (111, true)⟩,
  ⟨some 117, .bin .gtr (.t 116) (.c (.int .i64 0)), some (111, true)⟩,
  ⟨some 118, .eqv false 0 (.t 114) (.t 117), some (111, true)⟩,
  ⟨some 119, .pick (.t 111) (.t 118) (.c (.bool false)), none⟩,
  ⟨some 120, .mv (.t 119), none⟩,
  ⟨some 121, .faddr 6 6 (.t 1), some (120, true)⟩,
  ⟨some 122, .load false 1 (.t 121), some (120, true)⟩,
  ⟨some 123, .call false 6 [(.t 122), (.c (.int .i64 0)), (.c (.int .i64 999))], some (120, true)⟩,
  ⟨some 124, .pick (.t 120) (.t 123) (.c (.bool false)), none⟩,
  ⟨some 125, .mv (.t 124), none⟩,
  ⟨some 126, .faddr 7 7 (.t 1), some (125, true)⟩,
  ⟨some 127, .load false 1 (.t 126), some (125, true)⟩,
  ⟨some 128, .len false (.t 127), some (125, true)⟩,
  ⟨some 129, .bin .leq (.t 128) (.c (.int .i64 60)), some (125, true)⟩,
  ⟨some 130, .pick (.t 125) (.t 129) (.c (.bool false)), none⟩,
  ⟨some 2, .mv (.t 130), none⟩])
 .ret))
def spec_IsValidTransaction_r1 : AC :=
 (.seq (.seq (.region 0 [⟨some 5, .mv (.c (.int .i64 0)), none⟩])
 (.block 2 (.loop ⟨[1, 5], [], [(1, false)]⟩ spec_IsValidTransaction_b0)))
 spec_IsValidTransaction_r0)
def spec_IsValidTransaction_ac : AC :=
 (.seq (.region 0 [⟨some 1, .box false 1 (.t 0), none⟩,
  ⟨some 2, .mv (.c (.bool false)), none⟩])
 (.seq (.seq (.region 0 [⟨some 3, .mv (.c (.int .i64 0)), none⟩])
 (.block 0 (.loop ⟨[1, 3], [], [(1, false)]⟩ spec_IsValidTransaction_b1)))
 spec_IsValidTransaction_r1))
noncomputable def spec_IsValidTransaction_l1 (E : Env) (x3 : U) (b1 : U) : Option U := loopK (roundOf E ⟨[1, 3], [], [(1, false)]⟩ spec_IsValidTransaction_b1 (blockK 0 (seqK (fun s => exec E spec_IsValidTransaction_r1 s (finish [(2, none)])) (finish [(2, none)])))) ([.ptr 1 [], .val x3], [.box (.val b1)])
noncomputable def spec_IsValidTransaction_l0 (E : Env) (x5 : U) (b1 : U) : Option U := loopK (roundOf E ⟨[1, 5], [], [(1, false)]⟩ spec_IsValidTransaction_b0 (blockK 2 (seqK (fun s => exec E spec_IsValidTransaction_r0 s (finish [(2, none)])) (finish [(2, none)])))) ([.ptr 1 [], .val x5], [.box (.val b1)])
theorem spec_IsValidTransaction_l1_eq (E : Env) (x3 : U) (b1 : U) : spec_IsValidTransaction_l1 E x3 b1 =
 U.asAgg b1 fun us2 => if 7 = sizes (us2.take 7) then (us2[7]?).bind fun e3 => U.asVar false 1 e3 fun e4 => (U.lenOf false e4).bind fun n5 => (U.bin .lss x3 (.int .i64 (n5 : Int))).bind fun t6 => U.asBool t6
 (U.asAgg b1 fun us7 => if 7 = sizes (us7.take 7) then (us7[7]?).bind fun e8 => U.asVar false 1 e8 fun e9 => U.asInt x3 fun n10 => U.elemAt 2 e9 n10 fun e11 => U.asVar true 2 e11 fun e12 => if storable (.val e12) = true ∧ e12.size = 2 then U.asAgg e12 fun us13 => if 0 = sizes (us13.take 0) then (us13[0]?).bind fun e14 => U.asVar false 1 e14 fun e15 => (E 6 [e15, (.int .i64 0), (.int .i64 5)]).bind fun t16 => (U.un .not t16).bind fun t17 => U.asBool t17
 (some (.bool false))
 (U.asAgg e12 fun us18 => if 1 = sizes (us18.take 1) then (us18[1]?).bind fun e19 => U.asVar false 1 e19 fun e20 => (E 6 [e20, (.int .i64 0), (.int .i64 999)]).bind fun t21 => (U.un .not t21).bind fun t22 => U.asBool t22
 (some (.bool false))
 ((U.bin .gtr x3 (.int .i64 0)).bind fun t23 => U.asBool t23
 (U.asAgg b1 fun us24 => if 7 = sizes (us24.take 7) then (us24[7]?).bind fun e25 => U.asVar false 1 e25 fun e26 => (U.bin .sub x3 (.int .i64 1)).bind fun t27 => U.asInt t27 fun n28 => U.elemAt 2 e26 n28 fun e29 => U.asVar true 2 e29 fun e30 => U.asVar true 2 e12 fun e31 => (E 71 [e30, e31]).bind fun t32 => (U.un .not t32).bind fun t33 => U.asBool t33
 (some (.bool false))
 ((U.bin .add x3 (.int .i64 1)).bind fun t34 => spec_IsValidTransaction_l1 E t34 b1) else none)
 ((U.bin .add x3 (.int .i64 1)).bind fun t35 => spec_IsValidTransaction_l1 E t35 b1)) else none) else none else none else none)
 (spec_IsValidTransaction_l0 E (.int .i64 0) b1) else none :=
 (loop_eq E _ _ _ _).trans (by kernel_rfl)
theorem spec_IsValidTransaction_l0_eq (E : Env) (x5 : U) (b1 : U) : spec_IsValidTransaction_l0 E x5 b1 =
 U.asAgg b1 fun us36 => if 8 = sizes (us36.take 8) then (us36[8]?).bind fun e37 => U.asVar false 1 e37 fun e38 => (U.lenOf false e38).bind fun n39 => (U.bin .lss x5 (.int .i64 (n39 : Int))).bind fun t40 => U.asBool t40
 (U.asAgg b1 fun us41 => if 8 = sizes (us41.take 8) then (us41[8]?).bind fun e42 => U.asVar false 1 e42 fun e43 => U.asInt x5 fun n44 => U.elemAt 2 e43 n44 fun e45 => U.asVar true 2 e45 fun e46 => if storable (.val e46) = true ∧ e46.size = 2 then U.asAgg e46 fun us47 => if 0 = sizes (us47.take 0) then (us47[0]?).bind fun e48 => U.asVar false 1 e48 fun e49 => (E 6 [e49, (.int .i64 0), (.int .i64 5)]).bind fun t50 => (U.un .not t50).bind fun t51 => U.asBool t51
 (some (.bool false))
 (U.asAgg e46 fun us52 => if 1 = sizes (us52.take 1) then (us52[1]?).bind fun e53 => U.asVar false 1 e53 fun e54 => (E 6 [e54, (.int .i64 (-1)), (.int .i64 99)]).bind fun t55 => (U.un .not t55).bind fun t56 => U.asBool t56
 (some (.bool false))
 ((U.bin .gtr x5 (.int .i64 0)).bind fun t57 => U.asBool t57
 (U.asAgg b1 fun us58 => if 8 = sizes (us58.take 8) then (us58[8]?).bind fun e59 => U.asVar false 1 e59 fun e60 => (U.bin .sub x5 (.int .i64 1)).bind fun t61 => U.asInt t61 fun n62 => U.elemAt 2 e60 n62 fun e63 => U.fieldAt 0 0 e63 fun f64 => U.asVar false 1 f64 fun e65 => U.asAgg e46 fun us66 => if 0 = sizes (us66.take 0) then (us66[0]?).bind fun e67 => U.asVar false 1 e67 fun e68 => (U.bin .geq e65 e68).bind fun t69 => U.asBool t69
 (some (.bool false))
 ((U.bin .add x5 (.int .i64 1)).bind fun t70 => spec_IsValidTransaction_l0 E t70 b1) else none else none)
 ((U.bin .add x5 (.int .i64 1)).bind fun t71 => spec_IsValidTransaction_l0 E t71 b1)) else none) else none else none else none)
 (U.asAgg b1 fun us72 => if 0 = sizes (us72.take 0) then (us72[0]?).bind fun e73 => U.asVar false 1 e73 fun e74 => (E 6 [e74, (.int .i64 1), (.int .i64 9)]).bind fun t75 => (U.un .not t75).bind fun t76 => U.asBool t76
 (some (.bool false))
 (U.asAgg b1 fun us77 => if 1 = sizes (us77.take 1) then (us77[1]?).bind fun e78 => U.asVar false 1 e78 fun e79 => (E 6 [e79, (.int .i64 1), (.int .i64 4)]).bind fun t80 => (U.un .not t80).bind fun t81 => U.asBool t81
 (some (.bool false))
 (U.asAgg b1 fun us82 => if 3 = sizes (us82.take 3) then (us82[3]?).bind fun e83 => U.asVar false 1 e83 fun e84 => (E 6 [e84, (.int .i64 0), (.int .i64 999)]).bind fun t85 => (U.un .not t85).bind fun t86 => U.asBool t86
 (some (.bool false))
 (U.asAgg b1 fun us87 => if 2 = sizes (us87.take 2) then (us87[2]?).bind fun e88 => U.asVar false 1 e88 fun e89 => (E 6 [e89, (.int .i64 1), (.int .i64 3)]).bind fun t90 => U.asBool t90
 (U.asAgg b1 fun us91 => if 4 = sizes (us91.take 4) then (us91[4]?).bind fun e92 => U.asVar false 1 e92 fun e93 => (E 6 [e93, (.int .i64 0), (.int .i64 999)]).bind fun t94 => U.asBool t94
 (U.asAgg b1 fun us95 => if 5 = sizes (us95.take 5) then (us95[5]?).bind fun e96 => U.asVar false 1 e96 fun e97 => (E 6 [e97, (.int .i64 1), (.int .i64 1000)]).bind fun t98 => U.asBool t98
 (U.asAgg b1 fun us99 => if 2 = sizes (us99.take 2) then (us99[2]?).bind fun e100 => U.asVar false 1 e100 fun e101 => (U.bin .eql e101 (.int .i64 2)).bind fun t102 => U.asAgg b1 fun us103 => if 6 = sizes (us103.take 6) then (us103[6]?).bind fun e104 => U.asVar false 1 e104 fun e105 => (U.bin .gtr e105 (.int .i64 0)).bind fun t106 => (U.eqv 0 t102 t106).bind fun q107 => U.asBool (.bool q107)
 (U.asAgg b1 fun us108 => if 6 = sizes (us108.take 6) then (us108[6]?).bind fun e109 => U.asVar false 1 e109 fun e110 => (E 6 [e110, (.int .i64 0), (.int .i64 999)]).bind fun t111 => U.asBool t111
 (U.asAgg b1 fun us112 => if 7 = sizes (us112.take 7) then (us112[7]?).bind fun e113 => U.asVar false 1 e113 fun e114 => (U.lenOf false e114).bind fun n115 => (U.bin .leq (.int .i64 (n115 : Int)) (.int .i64 60)).bind fun t116 => some t116 else none)
 (some (.bool false)) else none)
 (some (.bool false)) else none else none)
 (some (.bool false)) else none)
 (some (.bool false)) else none)
 (some (.bool false)) else none) else none) else none) else none) else none :=
 (loop_eq E _ _ _ _).trans (by kernel_rfl)
structure G_spec_IsValidTransaction (E : Env) : Prop where
  is : Is E 70 1 spec_IsValidTransaction_ac [(2, none)]
  c_spec_l1In : G_spec_l1In E
  c_spec_l5Before : G_spec_l5Before E
theorem spec_IsValidTransaction_E {E : Env} (h : G_spec_IsValidTransaction E) (a0 : U) : E 70 [a0] =
 U.noTup a0 fun x1 => spec_IsValidTransaction_l1 E (.int .i64 0) x1 := (h.is _ rfl).trans ((runQ_V rfl).trans (by kernel_rfl))
end Go.Proofs.YtmdnjglkdddaeaaGreat.Am
namespace Go.Proofs.YtmdnjglkdddaeaaGreat.Am
open Go
set_option linter.unusedVariables false
set_option maxRecDepth 100000
def spec_ReadsExist_b0 : AC :=
 (.seq (.seq (.region 0 [⟨some 14, .mv (.t 5), none⟩,
  ⟨some 15, .faddr 7 7 (.t 3), none⟩,
  ⟨some 16, .load false 1 (.t 15), none⟩,
  ⟨some 17, .len false (.t 16), none⟩,
  ⟨some 18, .bin .lss (.t 14) (.t 17), none⟩])
 (.cond (.t 18) .skip (.exit 0)))
 (.seq (.block 1 (.seq (.region 18 [⟨some 21, .faddr 0 0 (.t 2), none⟩,
  ⟨some 22, .load false 1 (.t 21), none⟩,
  ⟨some 23, .faddr 7 7 (.t 3), none⟩,
  ⟨some 24, .load false 1 (.t 23), none⟩,
  ⟨some 25, .mv (.t 5), none⟩,
  ⟨some 26, .iaddr 2 (.t 24) (.t 25), none⟩,
  ⟨some 27, .faddr 0 0 (.t 26), none⟩,
  ⟨some 28, .load false 1 (.t 27), none⟩,
  ⟨some 29, .iaddr 1 (.t 22) (.t 28), none⟩,
  ⟨some 30, .load false 1 (.t 29), none⟩,
  ⟨some 31, .faddr 7 7 (.t 3), none⟩,
  ⟨some 32, .load false 1 (.t 31), none⟩,
  ⟨some 33, .mv (.t 5), none⟩,
  ⟨some 34, .iaddr 2 (.t 32) (.t 33), none⟩,
  ⟨some 35, .faddr 1 1 (.t 34), none⟩,
  ⟨some 36, .load false 1 (.t 35), none⟩,
  ⟨some 37, .call false 140 [(.t 30), (.t 36)], none⟩,
  ⟨some 38, .bin .lss (.t 37) (.c (.int .i64 0)), none⟩])
 (.cond (.t 38) (.seq (.region 0 [⟨some 4, .mv (.c (.bool false)), none⟩])
 .ret) .skip)))
 (.region 0 [⟨some 19, .mv (.t 5), none⟩,
  ⟨some 20, .bin .add (.t 19) (.c (.int .i64 1)), none⟩,
  ⟨some 5, .mv (.t 20), none⟩])))
def spec_ReadsExist_r0 : AC :=
 (.seq (.region 0 [⟨some 4, .mv (.c (.bool true)), none⟩])
 .ret)
def spec_ReadsExist_ac : AC :=
 (.seq (.region 0 [⟨some 2, .box false 2 (.t 0), none⟩,
  ⟨some 3, .box false 3 (.t 1), none⟩,
  ⟨some 4, .mv (.c (.bool false)), none⟩])
 (.seq (.seq (.region 0 [⟨some 6, .load true 1 (.t 2), none⟩,
  ⟨some 7, .call false 103 [(.t 6)], none⟩,
  ⟨some 8, .un .not (.t 7), none⟩,
  ⟨some 9, .mv (.t 8), none⟩,
  ⟨some 10, .load true 9 (.t 3), some (9, false)⟩,
  ⟨some 11, .call false 70 [(.t 10)], some (9, false)⟩,
  ⟨some 12, .un .not (.t 11), some (9, false)⟩,
  ⟨some 13, .pick (.t 9) (.c (.bool true)) (.t 12), none⟩])
 (.cond (.t 13) (.seq (.region 0 [⟨some 4, .mv (.c (.bool false)), none⟩])
 .ret) .skip))
 (.seq (.seq (.region 0 [⟨some 5, .mv (.c (.int .i64 0)), none⟩])
 (.block 0 (.loop ⟨[2, 3, 5], [], [(2, false), (3, false)]⟩ spec_ReadsExist_b0)))
 spec_ReadsExist_r0)))
noncomputable def spec_ReadsExist_l0 (E : Env) (x5 : U) (b2 : U) (b3 : U) : Option U := loopK (roundOf E ⟨[2, 3, 5], [], [(2, false), (3, false)]⟩ spec_ReadsExist_b0 (blockK 0 (seqK (fun s => exec E spec_ReadsExist_r0 s (finish [(4, none)])) (finish [(4, none)])))) ([.ptr 2 [], .ptr 3 [], .val x5], [.box (.val b2), .box (.val b3)])
theorem spec_ReadsExist_l0_eq (E : Env) (x5 : U) (b2 : U) (b3 : U) : spec_ReadsExist_l0 E x5 b2 b3 =
 U.asAgg b3 fun us9 => if 7 = sizes (us9.take 7) then (us9[7]?).bind fun e10 => U.asVar false 1 e10 fun e11 => (U.lenOf false e11).bind fun n12 => (U.bin .lss x5 (.int .i64 (n12 : Int))).bind fun t13 => U.asBool t13
 (U.asAgg b2 fun us14 => if 0 = sizes (us14.take 0) then (us14[0]?).bind fun e15 => U.asVar false 1 e15 fun e16 => U.asAgg b3 fun us17 => if 7 = sizes (us17.take 7) then (us17[7]?).bind fun e18 => U.asVar false 1 e18 fun e19 => U.asInt x5 fun n20 => U.elemAt 2 e19 n20 fun e21 => U.fieldAt 0 0 e21 fun f22 => U.asVar false 1 f22 fun e23 => U.asInt e23 fun n24 => U.elemAt 1 e16 n24 fun e25 => U.asVar false 1 e25 fun e26 => U.asAgg b3 fun us27 => if 7 = sizes (us27.take 7) then (us27[7]?).bind fun e28 => U.asVar false 1 e28 fun e29 => U.asInt x5 fun n30 => U.elemAt 2 e29 n30 fun e31 => U.fieldAt 1 1 e31 fun f32 => U.asVar false 1 f32 fun e33 => (E 140 [e26, e33]).bind fun t34 => (U.bin .lss t34 (.int .i64 0)).bind fun t35 => U.asBool t35
 (some (.bool false))
 ((U.bin .add x5 (.int .i64 1)).bind fun t36 => spec_ReadsExist_l0 E t36 b2 b3) else none else none else none)
 (some (.bool true)) else none :=
 (loop_eq E _ _ _ _).trans (by kernel_rfl)
structure G_spec_ReadsExist (E : Env) : Prop where
  is : Is E 136 2 spec_ReadsExist_ac [(4, none)]
  c_spec_FindVersion : G_spec_FindVersion E
  c_spec_IsValidStore : G_spec_IsValidStore E
  c_spec_IsValidTransaction : G_spec_IsValidTransaction E
theorem spec_ReadsExist_E {E : Env} (h : G_spec_ReadsExist E) (a0 a1 : U) : E 136 [a0, a1] =
 U.noTup a0 fun x1 => U.noTup a1 fun x2 => U.asVar true 1 x1 fun e3 => (E 103 [e3]).bind fun t4 => (U.un .not t4).bind fun t5 => U.asBool t5
 (some (.bool false))
 (U.asVar true 9 x2 fun e6 => (E 70 [e6]).bind fun t7 => (U.un .not t7).bind fun t8 => U.asBool t8
 (some (.bool false))
 (spec_ReadsExist_l0 E (.int .i64 0) x1 x2)) := (h.is _ rfl).trans ((runQ_V rfl).trans (by kernel_rfl))
end Go.Proofs.YtmdnjglkdddaeaaGreat.Am
namespace Go.Proofs.YtmdnjglkdddaeaaGreat.Am
open Go
set_option linter.unusedVariables false
set_option maxRecDepth 100000
def spec_LastStamp_b1 : AC :=
 (.seq (.seq (.region 0 [⟨some 17, .mv (.t 5), none⟩,
  ⟨some 18, .faddr 0 0 (.t 1), none⟩,
  ⟨some 19, .load false 1 (.t 18), none⟩,
  ⟨some 20, .mv (.t 4), none⟩,
  ⟨some 21, .iaddr 1 (.t 19) (.t 20), none⟩,
  ⟨some 22, .load false 1 (.t 21), none⟩,
  ⟨some 23, .len false (.t 22), none⟩,
  ⟨some 24, .bin .lss (.t 17) (.t 23), none⟩])
 (.cond (.t 24) .skip (.exit 2)))
 (.seq (.block 3 (.region 21 [⟨some 27, .mv (.t 3), none⟩,
  ⟨some 28, .faddr 0 0 (.t 1), none⟩,
  ⟨some 29, .load false 1 (.t 28), none⟩,
  ⟨some 30, .mv (.t 4), none⟩,
  ⟨some 31, .iaddr 1 (.t 29) (.t 30), none⟩,
  ⟨some 32, .load false 1 (.t 31), none⟩,
  ⟨some 33, .mv (.t 5), none⟩,
  ⟨some 34, .iaddr 5 (.t 32) (.t 33), none⟩,
  ⟨some 35, .faddr 2 2 (.t 34), none⟩,
  ⟨some 36, .load false 1 (.t 35), none⟩,
  ⟨some 37, .faddr 0 0 (.t 1), none⟩,
  ⟨some 38, .load false 1 (.t 37), none⟩,
  ⟨some 39, .mv (.t 4), none⟩,
  ⟨some 40, .iaddr 1 (.t 38) (.t 39), none⟩,
  ⟨some 41, .load false 1 (.t 40), none⟩,
  ⟨some 42, .mv (.t 5), none⟩,
  ⟨some 43, .iaddr 5 (.t 41) (.t 42), none⟩,
  ⟨some 44, .faddr 3 3 (.t 43), none⟩,
  ⟨some 45, .load false 1 (.t 44), none⟩,
  ⟨some 46, .minmax true [(.t 27), (.t 36), (.t 45)], none⟩,
  ⟨some 3, .mv (.t 46), none⟩]))
 (.region 0 [⟨some 25, .mv (.t 5), none⟩,
  ⟨some 26, .bin .add (.t 25) (.c (.int .i64 1)), none⟩,
  ⟨some 5, .mv (.t 26), none⟩])))
def spec_LastStamp_r0 : AC :=
 (.region 0 [⟨some 15, .mv (.t 4), none⟩,
  ⟨some 16, .bin .add (.t 15) (.c (.int .i64 1)), none⟩,
  ⟨some 4, .mv (.t 16), none⟩])
def spec_LastStamp_b0 : AC :=
 (.seq (.seq (.region 0 [⟨some 6, .mv (.t 4), none⟩,
  ⟨some 7, .faddr 0 0 (.t 1), none⟩,
  ⟨some 8, .load false 1 (.t 7), none⟩,
  ⟨some 9, .len false (.t 8), none⟩,
  ⟨some 10, .bin .lss (.t 6) (.t 9), none⟩,
  ⟨some 11, .mv (.t 10), none⟩,
  ⟨some 12, .load true 1 (.t 1), some (11, true)⟩,
  ⟨some 13, .call false 103 [(.t 12)], some (11, true)⟩,
  ⟨some 14, .pick (.t 11) (.t 13) (.c (.bool false)), none⟩])
 (.cond (.t 14) .skip (.exit 0)))
 (.seq (.block 1 (.seq (.region 0 [⟨some 5, .mv (.c (.int .i64 0)), none⟩])
 (.block 2 (.loop ⟨[1, 3, 4, 5], [], [(1, false)]⟩ spec_LastStamp_b1))))
 spec_LastStamp_r0))
def spec_LastStamp_r1 : AC :=
 (.seq (.region 0 [⟨some 47, .mv (.t 3), none⟩,
  ⟨some 2, .mv (.t 47), none⟩])
 .ret)
def spec_LastStamp_ac : AC :=
 (.seq (.region 0 [⟨some 1, .box false 1 (.t 0), none⟩,
  ⟨some 2, .mv (.c (.int .i64 0)), none⟩])
 (.seq (.region 0 [⟨some 3, .mv (.c (.int .i64 0)), none⟩])
 (.seq (.seq (.region 0 [⟨some 4, .mv (.c (.int .i64 0)), none⟩])
 (.block 0 (.loop ⟨[1, 3, 4], [], [(1, false)]⟩ spec_LastStamp_b0)))
 spec_LastStamp_r1)))
noncomputable def spec_LastStamp_l0 (E : Env) (x3 : U) (x4 : U) (b1 : U) : Option U := loopK (roundOf E ⟨[1, 3, 4], [], [(1, false)]⟩ spec_LastStamp_b0 (blockK 0 (seqK (fun s => exec E spec_LastStamp_r1 s (finish [(2, none)])) (finish [(2, none)])))) ([.ptr 1 [], .val x3, .val x4], [.box (.val b1)])
noncomputable def spec_LastStamp_l1 (E : Env) (x3 : U) (x4 : U) (x5 : U) (b1 : U) : Option U := loopK (roundOf E ⟨[1, 3, 4, 5], [], [(1, false)]⟩ spec_LastStamp_b1 (blockK 2 (blockK 1 (seqK (fun s => exec E spec_LastStamp_r0 s (roundK ⟨[1, 3, 4], [], [(1, false)]⟩ (loopK (roundOf E ⟨[1, 3, 4], [], [(1, false)]⟩ spec_LastStamp_b0 (blockK 0 (seqK (fun s => exec E spec_LastStamp_r1 s (finish [(2, none)])) (finish [(2, none)]))))) (blockK 0 (seqK (fun s => exec E spec_LastStamp_r1 s (finish [(2, none)])) (finish [(2, none)]))))) (roundK ⟨[1, 3, 4], [], [(1, false)]⟩ (loopK (roundOf E ⟨[1, 3, 4], [], [(1, false)]⟩ spec_LastStamp_b0 (blockK 0 (seqK (fun s => exec E spec_LastStamp_r1 s (finish [(2, none)])) (finish [(2, none)]))))) (blockK 0 (seqK (fun s => exec E spec_LastStamp_r1 s (finish [(2, none)])) (finish [(2, none)])))))))) ([.ptr 1 [], .val x3, .val x4, .val x5], [.box (.val b1)])
theorem spec_LastStamp_l0_eq (E : Env) (x3 : U) (x4 : U) (b1 : U) : spec_LastStamp_l0 E x3 x4 b1 =
 U.asAgg b1 fun us2 => if 0 = sizes (us2.take 0) then (us2[0]?).bind fun e3 => U.asVar false 1 e3 fun e4 => (U.lenOf false e4).bind fun n5 => (U.bin .lss x4 (.int .i64 (n5 : Int))).bind fun t6 => U.asBool t6
 (U.asVar true 1 b1 fun e7 => (E 103 [e7]).bind fun t8 => U.asBool t8
 (spec_LastStamp_l1 E x3 x4 (.int .i64 0) b1)
 (some x3))
 (some x3) else none :=
 (loop_eq E _ _ _ _).trans (by kernel_rfl)
theorem spec_LastStamp_l1_eq (E : Env) (x3 : U) (x4 : U) (x5 : U) (b1 : U) : spec_LastStamp_l1 E x3 x4 x5 b1 =
 U.asAgg b1 fun us9 => if 0 = sizes (us9.take 0) then (us9[0]?).bind fun e10 => U.asVar false 1 e10 fun e11 => U.asInt x4 fun n12 => U.elemAt 1 e11 n12 fun e13 => U.asVar false 1 e13 fun e14 => (U.lenOf false e14).bind fun n15 => (U.bin .lss x5 (.int .i64 (n15 : Int))).bind fun t16 => U.asBool t16
 (U.asAgg b1 fun us17 => if 0 = sizes (us17.take 0) then (us17[0]?).bind fun e18 => U.asVar false 1 e18 fun e19 => U.asInt x4 fun n20 => U.elemAt 1 e19 n20 fun e21 => U.asVar false 1 e21 fun e22 => U.asInt x5 fun n23 => U.elemAt 5 e22 n23 fun e24 => U.fieldAt 2 2 e24 fun f25 => U.asVar false 1 f25 fun e26 => U.asAgg b1 fun us27 => if 0 = sizes (us27.take 0) then (us27[0]?).bind fun e28 => U.asVar false 1 e28 fun e29 => U.asInt x4 fun n30 => U.elemAt 1 e29 n30 fun e31 => U.asVar false 1 e31 fun e32 => U.asInt x5 fun n33 => U.elemAt 5 e32 n33 fun e34 => U.fieldAt 3 3 e34 fun f35 => U.asVar false 1 f35 fun e36 => U.asInt x3 fun n37 => U.asInt e26 fun n38 => U.asInt e36 fun n39 => (U.bin .add x5 (.int .i64 1)).bind fun t40 => spec_LastStamp_l1 E (.int .i64 (([n38, n39] : List Int).foldl (fun a b => if true then (if a < b then b else a) else (if b < a then b else a)) n37)) x4 t40 b1 else none else none)
 ((U.bin .add x4 (.int .i64 1)).bind fun t41 => spec_LastStamp_l0 E x3 t41 b1) else none :=
 (loop_eq E _ _ _ _).trans (by kernel_rfl)
structure G_spec_LastStamp (E : Env) : Prop where
  is : Is E 139 1 spec_LastStamp_ac [(2, none)]
  c_spec_IsValidStore : G_spec_IsValidStore E
theorem spec_LastStamp_E {E : Env} (h : G_spec_LastStamp E) (a0 : U) : E 139 [a0] =
 U.noTup a0 fun x1 => spec_LastStamp_l0 E (.int .i64 0) (.int .i64 0) x1 := (h.is _ rfl).trans ((runQ_V rfl).trans (by kernel_rfl))
end Go.Proofs.YtmdnjglkdddaeaaGreat.Am
namespace Go.Proofs.YtmdnjglkdddaeaaGreat.Am
open Go
set_option linter.unusedVariables false
set_option maxRecDepth 100000
def spec_AreLocks_b0 : AC :=
 (.seq (.seq (.region 0 [⟨some 4, .mv (.t 3), none⟩,
  ⟨some 5, .mv (.t 0), none⟩,
  ⟨some 6, .len false (.t 5), none⟩,
  ⟨some 7, .bin .lss (.t 4) (.t 6), none⟩])
 (.cond (.t 7) .skip (.exit 0)))
 (.seq (.block 1 (.seq (.region 34 [⟨some 10, .mv (.t 0), none⟩,
  ⟨some 11, .mv (.t 3), none⟩,
  ⟨some 12, .iaddr 2 (.t 10) (.t 11), none⟩,
  ⟨some 13, .faddr 0 0 (.t 12), none⟩,
  ⟨some 14, .load false 1 (.t 13), none⟩,
  ⟨some 15, .call false 6 [(.t 14), (.c (.int .i64 0)), (.c (.int .i64 5))], none⟩,
  ⟨some 16, .un .not (.t 15), none⟩,
  ⟨some 17, .mv (.t 16), none⟩,
  ⟨some 18, .mv (.t 0), some (17, false)⟩,
  ⟨some 19, .mv (.t 3), some (17, false)⟩,
  ⟨some 20, .iaddr 2 (.t 18) (.t 19), some (17, false)⟩,
  ⟨some 21, .faddr 1 1 (.t 20), some (17, false)⟩,
  ⟨some 22, .load false 1 (.t 21), some (17, false)⟩,
  ⟨some 23, .call false 6 [(.t 22), (.c (.int .i64 1)), (.c (.int .i64 9))], some (17, false)⟩,
  ⟨some 24, .un .not (.t 23), some (17, false)⟩,
  ⟨some 25, .pick (.t 17) (.c (.bool true)) (.t 24), none⟩,
  ⟨some 26, .mv (.t 25), none⟩,
  ⟨some 27, .mv (.t 3), some (26, false)⟩,
  ⟨some 28, .bin .gtr (.t 27) (.c (.int .i64 0)), some (26, false)⟩,
  ⟨some 29, .mv (.t 28), some (26, false)⟩,
  ⟨some 30, .mv (.t 0), some (29, true)⟩,
  ⟨some 31, .mv (.t 3), some (29, true)⟩,
  ⟨some 32, .bin .sub (.t 31) (.c (.int .i64 1)), some (29, true)⟩,
  ⟨some 33, .iaddr 2 (.t 30) (.t 32), some (29, true)⟩,
  ⟨some 34, .faddr 0 0 (.t 33), some (29, true)⟩,
  ⟨some 35, .load false 1 (.t 34), some (29, true)⟩,
  ⟨some 36, .mv (.t 0), some (29, true)⟩,
  ⟨some 37, .mv (.t 3), some (29, true)⟩,
  ⟨some 38, .iaddr 2 (.t 36) (.t 37), some (29, true)⟩,
  ⟨some 39, .faddr 0 0 (.t 38), some (29, true)⟩,
  ⟨some 40, .load false 1 (.t 39), some (29, true)⟩,
  ⟨some 41, .bin .geq (.t 35) (.t 40), some (29, true)⟩,
  ⟨some 42, .pick (.t 29) (.t 41) (.c (.bool false)), some (26, false)⟩,
  ⟨some 43, .pick (.t 26) (.c (.bool true)) (.t 42), none⟩])
 (.cond (.t 43) (.seq (.region 0 [⟨some 2, .mv (.c (.bool false)), none⟩])
 .ret) .skip)))
 (.region 0 [⟨some 8, .mv (.t 3), none⟩,
  ⟨some 9, .bin .add (.t 8) (.c (.int .i64 1)), none⟩,
  ⟨some 3, .mv (.t 9), none⟩])))
def spec_AreLocks_r0 : AC :=
 (.seq (.region 0 [⟨some 2, .mv (.c (.bool true)), none⟩])
 .ret)
def spec_AreLocks_ac : AC :=
 (.seq (.region 0 [⟨some 2, .mv (.c (.bool false)), none⟩])
 (.seq (.seq (.region 0 [⟨some 3, .mv (.c (.int .i64 0)), none⟩])
 (.block 0 (.loop ⟨[0, 3], [], []⟩ spec_AreLocks_b0)))
 spec_AreLocks_r0))
noncomputable def spec_AreLocks_l0 (E : Env) (x0 : U) (x3 : U) : Option U := loopK (roundOf E ⟨[0, 3], [], []⟩ spec_AreLocks_b0 (blockK 0 (seqK (fun s => exec E spec_AreLocks_r0 s (finish [(2, none)])) (finish [(2, none)])))) ([.val x0, .val x3], [])
theorem spec_AreLocks_l0_eq (E : Env) (x0 : U) (x3 : U) : spec_AreLocks_l0 E x0 x3 =
 (U.lenOf false x0).bind fun n1 => (U.bin .lss x3 (.int .i64 (n1 : Int))).bind fun t2 => U.asBool t2
 (U.asInt x3 fun n3 => U.elemAt 2 x0 n3 fun e4 => U.fieldAt 0 0 e4 fun f5 => U.asVar false 1 f5 fun e6 => (E 6 [e6, (.int .i64 0), (.int .i64 5)]).bind fun t7 => (U.un .not t7).bind fun t8 => U.asBool t8
 (some (.bool false))
 (U.asInt x3 fun n9 => U.elemAt 2 x0 n9 fun e10 => U.fieldAt 1 1 e10 fun f11 => U.asVar false 1 f11 fun e12 => (E 6 [e12, (.int .i64 1), (.int .i64 9)]).bind fun t13 => (U.un .not t13).bind fun t14 => U.asBool t14
 (some (.bool false))
 ((U.bin .gtr x3 (.int .i64 0)).bind fun t15 => U.asBool t15
 ((U.bin .sub x3 (.int .i64 1)).bind fun t16 => U.asInt t16 fun n17 => U.elemAt 2 x0 n17 fun e18 => U.fieldAt 0 0 e18 fun f19 => U.asVar false 1 f19 fun e20 => U.asInt x3 fun n21 => U.elemAt 2 x0 n21 fun e22 => U.fieldAt 0 0 e22 fun f23 => U.asVar false 1 f23 fun e24 => (U.bin .geq e20 e24).bind fun t25 => U.asBool t25
 (some (.bool false))
 ((U.bin .add x3 (.int .i64 1)).bind fun t26 => spec_AreLocks_l0 E x0 t26))
 ((U.bin .add x3 (.int .i64 1)).bind fun t27 => spec_AreLocks_l0 E x0 t27))))
 (some (.bool true)) :=
 (loop_eq E _ _ _ _).trans (by kernel_rfl)
structure G_spec_AreLocks (E : Env) : Prop where
  is : Is E 137 1 spec_AreLocks_ac [(2, none)]
  c_spec_l1In : G_spec_l1In E
theorem spec_AreLocks_E {E : Env} (h : G_spec_AreLocks E) (a0 : U) : E 137 [a0] =
 spec_AreLocks_l0 E a0 (.int .i64 0) := (h.is _ rfl).trans ((runQ_V rfl).trans (by kernel_rfl))
end Go.Proofs.YtmdnjglkdddaeaaGreat.Am
namespace Go.Proofs.YtmdnjglkdddaeaaGreat.Am
open Go
set_option linter.unusedVariables false
set_option maxRecDepth 100000
def spec_AreWaits_b0 : AC :=
 (.seq (.seq (.region 0 [⟨some 4, .mv (.t 3), none⟩,
  ⟨some 5, .mv (.t 0), none⟩,
  ⟨some 6, .len false (.t 5), none⟩,
  ⟨some 7, .bin .lss (.t 4) (.t 6), none⟩])
 (.cond (.t 7) .skip (.exit 0)))
 (.seq (.block 1 (.seq (.region 47 [⟨some 10, .mv (.t 0), none⟩,
  ⟨some 11, .mv (.t 3), none⟩,
  ⟨some 12, .iaddr 2 (.t 10) (.t 11), none⟩,
  ⟨some 13, .faddr 0 0 (.t 12), none⟩,
  ⟨some 14, .load false 1 (.t 13), none⟩,
  ⟨some 15, .call false 6 [(.t 14), (.c (.int .i64 1)), (.c (.int .i64 9))], none⟩,
  ⟨some 16, .un .not (.t 15), none⟩,
  ⟨some 17, .mv (.t 16), none⟩,
  ⟨some 18, .mv (.t 0), some (17, false)⟩,
  ⟨some 19, .mv (.t 3), some (17, false)⟩,
  ⟨some 20, .iaddr 2 (.t 18) (.t 19), some (17, false)⟩,
  ⟨some 21, .faddr 1 1 (.t 20), some (17, false)⟩,
  ⟨some 22, .load false 1 (.t 21), some (17, false)⟩,
  ⟨some 23, .call false 6 [(.t 22), (.c (.int .i64 1)), (.c (.int .i64 9))], some (17, false)⟩,
  ⟨some 24, .un .not (.t 23), some (17, false)⟩,
  ⟨some 25, .pick (.t 17) (.c (.bool true)) (.t 24), none⟩,
  ⟨some 26, .mv (.t 25), none⟩,
  ⟨some 27, .mv (.t 0), some (26, false)⟩,
  ⟨some 28, .mv (.t 3), some (26, false)⟩,
  ⟨some 29, .iaddr 2 (.t 27) (.t 28), some (26, false)⟩,
  ⟨some 30, .faddr 0 0 (.t 29), some (26, false)⟩,
  ⟨some 31, .load false 1 (.t 30), some (26, false)⟩,
  ⟨some 32, .mv (.t 0), some (26, false)⟩,
  ⟨some 33, .mv (.t 3), some (26, false)⟩,
  ⟨some 34, .iaddr 2 (.t 32) (.t 33), some (26, false)⟩,
  ⟨some 35, .faddr 1 1 (.t 34), some (26, false)⟩,
  ⟨some 36, .load false 1 (.t 35), some (26, false)⟩,
  ⟨some 37, .bin .eql (.t 31) (.t 36), some (26, false)⟩,
  ⟨some 38, .pick (.t 26) (.c (.bool true)) (.t 37), none⟩,
  ⟨some 39, .mv (.t 38), none⟩,
  ⟨some 40, .mv (.t 3), some (39, false)⟩,
  ⟨some 41, .bin .gtr (.t 40) (.c (.int .i64 0)), some (39, false)⟩,
  ⟨some 42, .mv (.t 41), some (39, false)⟩,
  ⟨some 43, .mv (.t 0), some (42, true)⟩,
  ⟨some 44, .mv (.t 3), some (42, true)⟩,
  ⟨some 45, .bin .sub (.t 44) (.c (.int .i64 1)), some (42, true)⟩,
  ⟨some 46, .iaddr 2 (.t 43) (.t 45), some (42, true)⟩,
  ⟨some 47, .faddr 0 0 (.t 46), some (42, true)⟩,
  ⟨some 48, .load false 1 (.t 47), some (42, true)⟩,
  ⟨some 49, .mv (.t 0), some (42, true)⟩,
  ⟨some 50, .mv (.t 3), some (42, true)⟩,
  ⟨some 51, .iaddr 2 (.t 49) (.t 50), some (42, true)⟩,
  ⟨some 52, .faddr 0 0 (.t 51), some (42, true)⟩,
  ⟨some 53, .load false 1 (.t 52), some (42, true)⟩,
  ⟨some 54, .bin .geq (.t 48) (.t 53), some (42, true)⟩,
  ⟨some 55, .pick (.t 42) (.t 54) (.c (.bool false)), some (39, false)⟩,
  ⟨some 56, .pick (.t 39) (.c (.bool true)) (.t 55), none⟩])
 (.cond (.t 56) (.seq (.region 0 [⟨some 2, .mv (.c (.bool false)), none⟩])
 .ret) .skip)))
 (.region 0 [⟨some 8, .mv (.t 3), none⟩,
  ⟨some 9, .bin .add (.t 8) (.c (.int .i64 1)), none⟩,
  ⟨some 3, .mv (.t 9), none⟩])))
def spec_AreWaits_r0 : AC :=
 (.seq (.region 0 [⟨some 2, .mv (.c (.bool true)), none⟩])
 .ret)
def spec_AreWaits_ac : AC :=
 (.seq (.region 0 [⟨some 2, .mv (.c (.bool false)), none⟩])
 (.seq (.seq (.region 0 [⟨some 3, .mv (.c (.int .i64 0)), none⟩])
 (.block 0 (.loop ⟨[0, 3], [], []⟩ spec_AreWaits_b0)))
 spec_AreWaits_r0))
noncomputable def spec_AreWaits_l0 (E : Env) (x0 : U) (x3 : U) : Option U := loopK (roundOf E ⟨[0, 3], [], []⟩ spec_AreWaits_b0 (blockK 0 (seqK (fun s => exec E spec_AreWaits_r0 s (finish [(2, none)])) (finish [(2, none)])))) ([.val x0, .val x3], [])
theorem spec_AreWaits_l0_eq (E : Env) (x0 : U) (x3 : U) : spec_AreWaits_l0 E x0 x3 =
 (U.lenOf false x0).bind fun n1 => (U.bin .lss x3 (.int .i64 (n1 : Int))).bind fun t2 => U.asBool t2
 (U.asInt x3 fun n3 => U.elemAt 2 x0 n3 fun e4 => U.fieldAt 0 0 e4 fun f5 => U.asVar false 1 f5 fun e6 => (E 6 [e6, (.int .i64 1), (.int .i64 9)]).bind fun t7 => (U.un .not t7).bind fun t8 => U.asBool t8
 (some (.bool false))
 (U.asInt x3 fun n9 => U.elemAt 2 x0 n9 fun e10 => U.fieldAt 1 1 e10 fun f11 => U.asVar false 1 f11 fun e12 => (E 6 [e12, (.int .i64 1), (.int .i64 9)]).bind fun t13 => (U.un .not t13).bind fun t14 => U.asBool t14
 (some (.bool false))
 (U.asInt x3 fun n15 => U.elemAt 2 x0 n15 fun e16 => U.fieldAt 0 0 e16 fun f17 => U.asVar false 1 f17 fun e18 => U.asInt x3 fun n19 => U.elemAt 2 x0 n19 fun e20 => U.fieldAt 1 1 e20 fun f21 => U.asVar false 1 f21 fun e22 => (U.bin .eql e18 e22).bind fun t23 => U.asBool t23
 (some (.bool false))
 ((U.bin .gtr x3 (.int .i64 0)).bind fun t24 => U.asBool t24
 ((U.bin .sub x3 (.int .i64 1)).bind fun t25 => U.asInt t25 fun n26 => U.elemAt 2 x0 n26 fun e27 => U.fieldAt 0 0 e27 fun f28 => U.asVar false 1 f28 fun e29 => U.asInt x3 fun n30 => U.elemAt 2 x0 n30 fun e31 => U.fieldAt 0 0 e31 fun f32 => U.asVar false 1 f32 fun e33 => (U.bin .geq e29 e33).bind fun t34 => U.asBool t34
 (some (.bool false))
 ((U.bin .add x3 (.int .i64 1)).bind fun t35 => spec_AreWaits_l0 E x0 t35))
 ((U.bin .add x3 (.int .i64 1)).bind fun t36 => spec_AreWaits_l0 E x0 t36)))))
 (some (.bool true)) :=
 (loop_eq E _ _ _ _).trans (by kernel_rfl)
structure G_spec_AreWaits (E : Env) : Prop where
  is : Is E 138 1 spec_AreWaits_ac [(2, none)]
  c_spec_l1In : G_spec_l1In E
theorem spec_AreWaits_E {E : Env} (h : G_spec_AreWaits E) (a0 : U) : E 138 [a0] =
 spec_AreWaits_l0 E a0 (.int .i64 0) := (h.is _ rfl).trans ((runQ_V rfl).trans (by kernel_rfl))
end Go.Proofs.YtmdnjglkdddaeaaGreat.Am
namespace Go.Proofs.YtmdnjglkdddaeaaGreat.Am
open Go
set_option linter.unusedVariables false
set_option maxRecDepth 100000
def spec_FindTransaction_b0 : AC :=
 (.seq (.seq (.region 0 [⟨some 6, .mv (.t 5), none⟩,
  ⟨some 7, .faddr 2 2 (.t 2), none⟩,
  ⟨some 8, .load false 1 (.t 7), none⟩,
  ⟨some 9, .len false (.t 8), none⟩,
  ⟨some 10, .bin .lss (.t 6) (.t 9), none⟩])
 (.cond (.t 10) .skip (.exit 0)))
 (.seq (.block 1 (.seq (.region 0 [⟨some 13, .faddr 2 2 (.t 2), none⟩,
  ⟨some 14, .load false 1 (.t 13), none⟩,
  ⟨some 15, .mv (.t 5), none⟩,
  ⟨some 16, .iaddr 9 (.t 14) (.t 15), none⟩,
  ⟨some 17, .faddr 0 0 (.t 16), none⟩,
  ⟨some 18, .load false 1 (.t 17), none⟩,
  ⟨some 19, .mv (.t 1), none⟩,
  ⟨some 20, .bin .eql (.t 18) (.t 19), none⟩])
 (.cond (.t 20) (.seq (.region 0 [⟨some 21, .mv (.t 5), none⟩,
  ⟨some 4, .mv (.t 21), none⟩])
 .ret) .skip)))
 (.region 0 [⟨some 11, .mv (.t 5), none⟩,
  ⟨some 12, .bin .add (.t 11) (.c (.int .i64 1)), none⟩,
  ⟨some 5, .mv (.t 12), none⟩])))
def spec_FindTransaction_r0 : AC :=
 (.seq (.region 0 [⟨some 4, .mv (.c (.int .i64 (-1))), none⟩])
 .ret)
def spec_FindTransaction_ac : AC :=
 (.seq (.region 0 [⟨some 2, .box false 2 (.t 0), none⟩,
  ⟨some 4, .mv (.c (.int .i64 0)), none⟩])
 (.seq (.seq (.region 0 [⟨some 5, .mv (.c (.int .i64 0)), none⟩])
 (.block 0 (.loop ⟨[1, 2, 5], [], [(2, false)]⟩ spec_FindTransaction_b0)))
 spec_FindTransaction_r0))
noncomputable def spec_FindTransaction_l0 (E : Env) (x1 : U) (x5 : U) (b2 : U) : Option U := loopK (roundOf E ⟨[1, 2, 5], [], [(2, false)]⟩ spec_FindTransaction_b0 (blockK 0 (seqK (fun s => exec E spec_FindTransaction_r0 s (finish [(4, none)])) (finish [(4, none)])))) ([.val x1, .ptr 2 [], .val x5], [.box (.val b2)])
theorem spec_FindTransaction_l0_eq (E : Env) (x1 : U) (x5 : U) (b2 : U) : spec_FindTransaction_l0 E x1 x5 b2 =
 U.asAgg b2 fun us2 => if 2 = sizes (us2.take 2) then (us2[2]?).bind fun e3 => U.asVar false 1 e3 fun e4 => (U.lenOf false e4).bind fun n5 => (U.bin .lss x5 (.int .i64 (n5 : Int))).bind fun t6 => U.asBool t6
 (U.asAgg b2 fun us7 => if 2 = sizes (us7.take 2) then (us7[2]?).bind fun e8 => U.asVar false 1 e8 fun e9 => U.asInt x5 fun n10 => U.elemAt 9 e9 n10 fun e11 => U.fieldAt 0 0 e11 fun f12 => U.asVar false 1 f12 fun e13 => (U.bin .eql e13 x1).bind fun t14 => U.asBool t14
 (some x5)
 ((U.bin .add x5 (.int .i64 1)).bind fun t15 => spec_FindTransaction_l0 E x1 t15 b2) else none)
 (some (.int .i64 (-1))) else none :=
 (loop_eq E _ _ _ _).trans (by kernel_rfl)
structure G_spec_FindTransaction (E : Env) : Prop where
  is : Is E 141 2 spec_FindTransaction_ac [(4, none)]
theorem spec_FindTransaction_E {E : Env} (h : G_spec_FindTransaction E) (a0 a1 : U) : E 141 [a0, a1] =
 U.noTup a0 fun x1 => spec_FindTransaction_l0 E a1 (.int .i64 0) x1 := (h.is _ rfl).trans ((runQ_V rfl).trans (by kernel_rfl))
end Go.Proofs.YtmdnjglkdddaeaaGreat.Am
namespace Go.Proofs.YtmdnjglkdddaeaaGreat.Am
open Go
set_option linter.unusedVariables false
set_option maxRecDepth 100000
def spec_l13Active_ac : AC :=
 (.seq (.region 0 [⟨some 2, .box false 2 (.t 0), none⟩,
  ⟨some 4, .mv (.c (.bool false)), none⟩])
 (.seq (.region 0 [⟨some 6, .load true 6 (.t 2), none⟩,
  ⟨some 7, .mv (.t 1), none⟩,
  ⟨some 8, .call false 141 [(.t 6), (.t 7)], none⟩,
  ⟨some 5, .mv (.t 8), none⟩])
 (.seq (.region 0 [⟨some 9, .mv (.t 5), none⟩,
  ⟨some 10, .bin .geq (.t 9) (.c (.int .i64 0)), none⟩,
  ⟨some 11, .mv (.t 10), none⟩,
  ⟨some 12, .faddr 2 2 (.t 2), some (11, true)⟩,
  ⟨some 13, .load false 1 (.t 12), some (11, true)⟩,
  ⟨some 14, .mv (.t 5), some (11, true)⟩,
  ⟨some 15, .iaddr 9 (.t 13) (.t 14), some (11, true)⟩,
  ⟨some 16, .faddr 2 2 (.t 15), some (11, true)⟩,
  ⟨some 17, .load false 1 (.t 16), some (11, true)⟩,
  ⟨some 18, .bin .eql (.t 17) (.c (.int .i64 1)), some (11, true)⟩,
  ⟨some 19, .pick (.t 11) (.t 18) (.c (.bool false)), none⟩,
  ⟨some 4, .mv (.t 19), none⟩])
 .ret)))
structure G_spec_l13Active (E : Env) : Prop where
  is : Is E 135 2 spec_l13Active_ac [(4, none)]
  c_spec_FindTransaction : G_spec_FindTransaction E
theorem spec_l13Active_E {E : Env} (h : G_spec_l13Active E) (a0 a1 : U) : E 135 [a0, a1] =
 U.noTup a0 fun x1 => U.asVar true 6 x1 fun e2 => (E 141 [e2, a1]).bind fun t3 => (U.bin .geq t3 (.int .i64 0)).bind fun t4 => U.asBool t4
 (U.asAgg x1 fun us5 => if 2 = sizes (us5.take 2) then (us5[2]?).bind fun e6 => U.asVar false 1 e6 fun e7 => U.asInt t3 fun n8 => U.elemAt 9 e7 n8 fun e9 => U.fieldAt 2 2 e9 fun f10 => U.asVar false 1 f10 fun e11 => (U.bin .eql e11 (.int .i64 1)).bind fun t12 => some t12 else none)
 (some (.bool false)) := (h.is _ rfl).trans ((runQ_V rfl).trans (by kernel_rfl))
end Go.Proofs.YtmdnjglkdddaeaaGreat.Am
namespace Go.Proofs.YtmdnjglkdddaeaaGreat.Am
open Go
set_option linter.unusedVariables false
set_option maxRecDepth 100000
def spec_IsValidEngine_b2 : AC :=
 (.seq (.seq (.region 0 [⟨some 38, .mv (.t 3), none⟩,
  ⟨some 39, .faddr 2 2 (.t 1), none⟩,
  ⟨some 40, .load false 1 (.t 39), none⟩,
  ⟨some 41, .len false (.t 40), none⟩,
  ⟨some 42, .bin .lss (.t 38) (.t 41), none⟩])
 (.cond (.t 42) .skip (.exit 0)))
 (.seq (.block 1 (.seq (.region 0 [⟨some 45, .faddr 2 2 (.t 1), none⟩,
  ⟨some 46, .load false 1 (.t 45), none⟩,
  ⟨some 47, .mv (.t 3), none⟩,
  ⟨some 48, .iaddr 9 (.t 46) (.t 47), none⟩,
  ⟨some 49, .load true 9 (.t 48), none⟩,
  ⟨some 4, .alloc 4 (.agg [(.int .i64 0), (.int .i64 0), (.int .i64 0), (.int .i64 0), (.int .i64 0), (.int .i64 0), (.int .i64 0), (.nsl 2), (.nsl 2)]), none⟩,
  ⟨none, .store 9 (.t 4) (.t 49), none⟩])
 (.seq (.region 45 [⟨some 50, .load true 9 (.t 4), none⟩,
  ⟨some 51, .call false 70 [(.t 50)], none⟩,
  ⟨some 52, .un .not (.t 51), none⟩,
  ⟨some 53, .mv (.t 52), none⟩,
  ⟨some 54, .mv (.t 3), some (53, false)⟩,
  ⟨some 55, .bin .gtr (.t 54) (.c (.int .i64 0)), some (53, false)⟩,
  ⟨some 56, .mv (.t 55), some (53, false)⟩,
  ⟨some 57, .faddr 2 2 (.t 1), some (56, true)⟩,
  ⟨some 58, .load false 1 (.t 57), some (56, true)⟩,
  ⟨some 59, .mv (.t 3), some (56, true)⟩,
  ⟨some 60, .bin .sub (.t 59) (.c (.int .i64 1)), some (56, true)⟩,
  ⟨some 61, .iaddr 9 (.t 58) (.t 60), some (56, true)⟩,
  ⟨some 62, .faddr 0 0 (.t 61), some (56, true)⟩,
  ⟨some 63, .load false 1 (.t 62), some (56, true)⟩,
  ⟨some 64, .faddr 0 0 (.t 4), some (56, true)⟩,
  ⟨some 65, .load false 1 (.t 64), some (56, true)⟩,
  ⟨some 66, .bin .geq (.t 63) (.t 65), some (56, true)⟩,
  ⟨some 67, .pick (.t 56) (.t 66) (.c (.bool false)), some (53, false)⟩,
  ⟨some 68, .pick (.t 53) (.c (.bool true)) (.t 67), none⟩,
  ⟨some 69, .mv (.t 68), none⟩,
  ⟨some 70, .faddr 3 3 (.t 4), some (69, false)⟩,
  ⟨some 71, .load false 1 (.t 70), some (69, false)⟩,
  ⟨some 72, .faddr 5 5 (.t 1), some (69, false)⟩,
  ⟨some 73, .load false 1 (.t 72), some (69, false)⟩,
  ⟨some 74, .bin .gtr (.t 71) (.t 73), some (69, false)⟩,
  ⟨some 75, .pick (.t 69) (.c (.bool true)) (.t 74), none⟩,
  ⟨some 76, .mv (.t 75), none⟩,
  ⟨some 77, .faddr 6 6 (.t 4), some (76, false)⟩,
  ⟨some 78, .load false 1 (.t 77), some (76, false)⟩,
  ⟨some 79, .faddr 5 5 (.t 1), some (76, false)⟩,
  ⟨some 80, .load false 1 (.t 79), some (76, false)⟩,
  ⟨some 81, .bin .gtr (.t 78) (.t 80), some (76, false)⟩,
  ⟨some 82, .pick (.t 76) (.c (.bool true)) (.t 81), none⟩,
  ⟨some 83, .mv (.t 82), none⟩,
  ⟨some 84, .faddr 2 2 (.t 4), some (83, false)⟩,
  ⟨some 85, .load false 1 (.t 84), some (83, false)⟩,
  ⟨some 86, .bin .eql (.t 85) (.c (.int .i64 1)), some (83, false)⟩,
  ⟨some 87, .mv (.t 86), some (83, false)⟩,
  ⟨some 88, .faddr 1 1 (.t 1), some (87, true)⟩,
  ⟨some 89, .load true 1 (.t 88), some (87, true)⟩,
  ⟨some 90, .load true 9 (.t 4), some (87, true)⟩,
  ⟨some 91, .call false 136 [(.t 89), (.t 90)], some (87, true)⟩,
  ⟨some 92, .un .not (.t 91), some (87, true)⟩,
  ⟨some 93, .pick (.t 87) (.t 92) (.c (.bool false)), some (83, false)⟩,
  ⟨some 94, .pick (.t 83) (.c (.bool true)) (.t 93), none⟩])
 (.cond (.t 94) (.seq (.region 0 [⟨some 2, .mv (.c (.bool false)), none⟩])
 .ret) .skip))))
 (.region 0 [⟨some 43, .mv (.t 3), none⟩,
  ⟨some 44, .bin .add (.t 43) (.c (.int .i64 1)), none⟩,
  ⟨some 3, .mv (.t 44), none⟩])))
def spec_IsValidEngine_b1 : AC :=
 (.seq (.seq (.region 0 [⟨some 95, .mv (.t 5), none⟩,
  ⟨some 96, .faddr 3 3 (.t 1), none⟩,
  ⟨some 97, .load false 1 (.t 96), none⟩,
  ⟨some 98, .len false (.t 97), none⟩,
  ⟨some 99, .bin .lss (.t 95) (.t 98), none⟩])
 (.cond (.t 99) .skip (.exit 2)))
 (.seq (.block 3 (.seq (.region 9 [⟨some 102, .load true 6 (.t 1), none⟩,
  ⟨some 103, .faddr 3 3 (.t 1), none⟩,
  ⟨some 104, .load false 1 (.t 103), none⟩,
  ⟨some 105, .mv (.t 5), none⟩,
  ⟨some 106, .iaddr 2 (.t 104) (.t 105), none⟩,
  ⟨some 107, .faddr 1 1 (.t 106), none⟩,
  ⟨some 108, .load false 1 (.t 107), none⟩,
  ⟨some 109, .call false 135 [(.t 102), (.t 108)], none⟩,
  ⟨some 110, .un .not (.t 109), none⟩])
 (.cond (.t 110) (.seq (.region 0 [⟨some 2, .mv (.c (.bool false)), none⟩])
 .ret) .skip)))
 (.region 0 [⟨some 100, .mv (.t 5), none⟩,
  ⟨some 101, .bin .add (.t 100) (.c (.int .i64 1)), none⟩,
  ⟨some 5, .mv (.t 101), none⟩])))
def spec_IsValidEngine_b0 : AC :=
 (.seq (.seq (.region 0 [⟨some 111, .mv (.t 6), none⟩,
  ⟨some 112, .faddr 4 4 (.t 1), none⟩,
  ⟨some 113, .load false 1 (.t 112), none⟩,
  ⟨some 114, .len false (.t 113), none⟩,
  ⟨some 115, .bin .lss (.t 111) (.t 114), none⟩])
 (.cond (.t 115) .skip (.exit 4)))
 (.seq (.block 5 (.seq (.region 20 [⟨some 118, .load true 6 (.t 1), none⟩,
  ⟨some 119, .faddr 4 4 (.t 1), none⟩,
  ⟨some 120, .load false 1 (.t 119), none⟩,
  ⟨some 121, .mv (.t 6), none⟩,
  ⟨some 122, .iaddr 2 (.t 120) (.t 121), none⟩,
  ⟨some 123, .faddr 0 0 (.t 122), none⟩,
  ⟨some 124, .load false 1 (.t 123), none⟩,
  ⟨some 125, .call false 135 [(.t 118), (.t 124)], none⟩,
  ⟨some 126, .un .not (.t 125), none⟩,
  ⟨some 127, .mv (.t 126), none⟩,
  ⟨some 128, .load true 6 (.t 1), some (127, false)⟩,
  ⟨some 129, .faddr 4 4 (.t 1), some (127, false)⟩,
  ⟨some 130, .load false 1 (.t 129), some (127, false)⟩,
  ⟨some 131, .mv (.t 6), some (127, false)⟩,
  ⟨some 132, .iaddr 2 (.t 130) (.t 131), some (127, false)⟩,
  ⟨some 133, .faddr 1 1 (.t 132), some (127, false)⟩,
  ⟨some 134, .load false 1 (.t 133), some (127, false)⟩,
  ⟨some 135, .call false 135 [(.t 128), (.t 134)], some (127, false)⟩,
  ⟨some 136, .un .not (.t 135), some (127, false)⟩,
  ⟨some 137, .pick (.t 127) (.c (.bool true)) (.t 136), none⟩])
 (.cond (.t 137) (.seq (.region 0 [⟨some 2, .mv (.c (.bool false)), none⟩])
 .ret) .skip)))
 (.region 0 [⟨some 116, .mv (.t 6), none⟩,
  ⟨some 117, .bin .add (.t 116) (.c (.int .i64 1)), none⟩,
  ⟨some 6, .mv (.t 117), none⟩])))
def spec_IsValidEngine_r0 : AC :=
 (.seq (.region 0 [⟨some 2, .mv (.c (.bool true)), none⟩])
 .ret)
def spec_IsValidEngine_r1 : AC :=
 (.seq (.seq (.region 0 [⟨some 6, .mv (.c (.int .i64 0)), none⟩])
 (.block 4 (.loop ⟨[1, 6], [], [(1, false)]⟩ spec_IsValidEngine_b0)))
 spec_IsValidEngine_r0)
def spec_IsValidEngine_r2 : AC :=
 (.seq (.seq (.region 0 [⟨some 5, .mv (.c (.int .i64 0)), none⟩])
 (.block 2 (.loop ⟨[1, 5], [], [(1, false)]⟩ spec_IsValidEngine_b1)))
 spec_IsValidEngine_r1)
def spec_IsValidEngine_ac : AC :=
 (.seq (.region 0 [⟨some 1, .box false 1 (.t 0), none⟩,
  ⟨some 2, .mv (.c (.bool false)), none⟩])
 (.seq (.seq (.region 31 [⟨some 7, .faddr 1 1 (.t 1), none⟩,
  ⟨some 8, .load true 1 (.t 7), none⟩,
  ⟨some 9, .call false 103 [(.t 8)], none⟩,
  ⟨some 10, .un .not (.t 9), none⟩,
  ⟨some 11, .mv (.t 10), none⟩,
  ⟨some 12, .faddr 3 3 (.t 1), some (11, false)⟩,
  ⟨some 13, .load false 1 (.t 12), some (11, false)⟩,
  ⟨some 14, .call false 137 [(.t 13)], some (11, false)⟩,
  ⟨some 15, .un .not (.t 14), some (11, false)⟩,
  ⟨some 16, .pick (.t 11) (.c (.bool true)) (.t 15), none⟩,
  ⟨some 17, .mv (.t 16), none⟩,
  ⟨some 18, .faddr 4 4 (.t 1), some (17, false)⟩,
  ⟨some 19, .load false 1 (.t 18), some (17, false)⟩,
  ⟨some 20, .call false 138 [(.t 19)], some (17, false)⟩,
  ⟨some 21, .un .not (.t 20), some (17, false)⟩,
  ⟨some 22, .pick (.t 17) (.c (.bool true)) (.t 21), none⟩,
  ⟨some 23, .mv (.t 22), none⟩,
  ⟨some 24, .faddr 5 5 (.t 1), some (23, false)⟩,
  ⟨some 25, .load false 1 (.t 24), some (23, false)⟩,
  ⟨some 26, .faddr 1 1 (.t 1), some (23, false)⟩,
  ⟨some 27, .load true 1 (.t 26), some (23, false)⟩,
  ⟨some 28, .call false 139 [(.t 27)], some (23, false)⟩,
  ⟨some 29, .call false 6 [(.t 25), (.t 28), (.c (.int .i64 999))], some (23, false)⟩,
  ⟨some 30, .un .not (.t 29), some (23, false)⟩,
  ⟨some 31, .pick (.t 23) (.c (.bool true)) (.t 30), none⟩,
  ⟨some 32, .mv (.t 31), none⟩,
  ⟨some 33, .faddr 2 2 (.t 1), some (32, false)⟩,
  ⟨some 34, .load false 1 (.t 33), some (32, false)⟩,
  ⟨some 35, .len false (.t 34), some (32, false)⟩,
  ⟨some 36, .bin .gtr (.t 35) (.c (.int .i64 6)), some (32, false)⟩,
  ⟨some 37, .pick (.t 32) (.c (.bool true)) (.t 36), none⟩])
 (.cond (.t 37) (.seq (.region 0 [⟨some 2, .mv (.c (.bool false)), none⟩])
 .ret) .skip))
 (.seq (.seq (.region 0 [⟨some 3, .mv (.c (.int .i64 0)), none⟩])
 (.block 0 (.loop ⟨[1, 3], [], [(1, false)]⟩ spec_IsValidEngine_b2)))
 spec_IsValidEngine_r2)))
noncomputable def spec_IsValidEngine_l2 (E : Env) (x3 : U) (b1 : U) : Option U := loopK (roundOf E ⟨[1, 3], [], [(1, false)]⟩ spec_IsValidEngine_b2 (blockK 0 (seqK (fun s => exec E spec_IsValidEngine_r2 s (finish [(2, none)])) (finish [(2, none)])))) ([.ptr 1 [], .val x3], [.box (.val b1)])
noncomputable def spec_IsValidEngine_l1 (E : Env) (x5 : U) (b1 : U) : Option U := loopK (roundOf E ⟨[1, 5], [], [(1, false)]⟩ spec_IsValidEngine_b1 (blockK 2 (seqK (fun s => exec E spec_IsValidEngine_r1 s (finish [(2, none)])) (finish [(2, none)])))) ([.ptr 1 [], .val x5], [.box (.val b1)])
noncomputable def spec_IsValidEngine_l0 (E : Env) (x6 : U) (b1 : U) : Option U := loopK (roundOf E ⟨[1, 6], [], [(1, false)]⟩ spec_IsValidEngine_b0 (blockK 4 (seqK (fun s => exec E spec_IsValidEngine_r0 s (finish [(2, none)])) (finish [(2, none)])))) ([.ptr 1 [], .val x6], [.box (.val b1)])
theorem spec_IsValidEngine_l2_eq (E : Env) (x3 : U) (b1 : U) : spec_IsValidEngine_l2 E x3 b1 =
 U.asAgg b1 fun us31 => if 2 = sizes (us31.take 2) then (us31[2]?).bind fun e32 => U.asVar false 1 e32 fun e33 => (U.lenOf false e33).bind fun n34 => (U.bin .lss x3 (.int .i64 (n34 : Int))).bind fun t35 => U.asBool t35
 (U.asAgg b1 fun us36 => if 2 = sizes (us36.take 2) then (us36[2]?).bind fun e37 => U.asVar false 1 e37 fun e38 => U.asInt x3 fun n39 => U.elemAt 9 e38 n39 fun e40 => U.asVar true 9 e40 fun e41 => if storable (.val e41) = true ∧ e41.size = 9 then U.asVar true 9 e41 fun e42 => (E 70 [e42]).bind fun t43 => (U.un .not t43).bind fun t44 => U.asBool t44
 (some (.bool false))
 ((U.bin .gtr x3 (.int .i64 0)).bind fun t45 => U.asBool t45
 (U.asAgg b1 fun us46 => if 2 = sizes (us46.take 2) then (us46[2]?).bind fun e47 => U.asVar false 1 e47 fun e48 => (U.bin .sub x3 (.int .i64 1)).bind fun t49 => U.asInt t49 fun n50 => U.elemAt 9 e48 n50 fun e51 => U.fieldAt 0 0 e51 fun f52 => U.asVar false 1 f52 fun e53 => U.asAgg e41 fun us54 => if 0 = sizes (us54.take 0) then (us54[0]?).bind fun e55 => U.asVar false 1 e55 fun e56 => (U.bin .geq e53 e56).bind fun t57 => U.asBool t57
 (some (.bool false))
 (U.asAgg e41 fun us58 => if 3 = sizes (us58.take 3) then (us58[3]?).bind fun e59 => U.asVar false 1 e59 fun e60 => U.asAgg b1 fun us61 => if 5 = sizes (us61.take 5) then (us61[5]?).bind fun e62 => U.asVar false 1 e62 fun e63 => (U.bin .gtr e60 e63).bind fun t64 => U.asBool t64
 (some (.bool false))
 (U.asAgg e41 fun us65 => if 6 = sizes (us65.take 6) then (us65[6]?).bind fun e66 => U.asVar false 1 e66 fun e67 => U.asAgg b1 fun us68 => if 5 = sizes (us68.take 5) then (us68[5]?).bind fun e69 => U.asVar false 1 e69 fun e70 => (U.bin .gtr e67 e70).bind fun t71 => U.asBool t71
 (some (.bool false))
 (U.asAgg e41 fun us72 => if 2 = sizes (us72.take 2) then (us72[2]?).bind fun e73 => U.asVar false 1 e73 fun e74 => (U.bin .eql e74 (.int .i64 1)).bind fun t75 => U.asBool t75
 (U.asAgg b1 fun us76 => if 1 = sizes (us76.take 1) then (us76[1]?).bind fun e77 => U.asVar true 1 e77 fun e78 => U.asVar true 9 e41 fun e79 => (E 136 [e78, e79]).bind fun t80 => (U.un .not t80).bind fun t81 => U.asBool t81
 (some (.bool false))
 ((U.bin .add x3 (.int .i64 1)).bind fun t82 => spec_IsValidEngine_l2 E t82 b1) else none)
 ((U.bin .add x3 (.int .i64 1)).bind fun t83 => spec_IsValidEngine_l2 E t83 b1) else none) else none else none) else none else none) else none else none)
 (U.asAgg e41 fun us84 => if 3 = sizes (us84.take 3) then (us84[3]?).bind fun e85 => U.asVar false 1 e85 fun e86 => U.asAgg b1 fun us87 => if 5 = sizes (us87.take 5) then (us87[5]?).bind fun e88 => U.asVar false 1 e88 fun e89 => (U.bin .gtr e86 e89).bind fun t90 => U.asBool t90
 (some (.bool false))
 (U.asAgg e41 fun us91 => if 6 = sizes (us91.take 6) then (us91[6]?).bind fun e92 => U.asVar false 1 e92 fun e93 => U.asAgg b1 fun us94 => if 5 = sizes (us94.take 5) then (us94[5]?).bind fun e95 => U.asVar false 1 e95 fun e96 => (U.bin .gtr e93 e96).bind fun t97 => U.asBool t97
 (some (.bool false))
 (U.asAgg e41 fun us98 => if 2 = sizes (us98.take 2) then (us98[2]?).bind fun e99 => U.asVar false 1 e99 fun e100 => (U.bin .eql e100 (.int .i64 1)).bind fun t101 => U.asBool t101
 (U.asAgg b1 fun us102 => if 1 = sizes (us102.take 1) then (us102[1]?).bind fun e103 => U.asVar true 1 e103 fun e104 => U.asVar true 9 e41 fun e105 => (E 136 [e104, e105]).bind fun t106 => (U.un .not t106).bind fun t107 => U.asBool t107
 (some (.bool false))
 ((U.bin .add x3 (.int .i64 1)).bind fun t108 => spec_IsValidEngine_l2 E t108 b1) else none)
 ((U.bin .add x3 (.int .i64 1)).bind fun t109 => spec_IsValidEngine_l2 E t109 b1) else none) else none else none) else none else none)) else none else none)
 (spec_IsValidEngine_l1 E (.int .i64 0) b1) else none :=
 (loop_eq E _ _ _ _).trans (by kernel_rfl)
theorem spec_IsValidEngine_l1_eq (E : Env) (x5 : U) (b1 : U) : spec_IsValidEngine_l1 E x5 b1 =
 U.asAgg b1 fun us110 => if 3 = sizes (us110.take 3) then (us110[3]?).bind fun e111 => U.asVar false 1 e111 fun e112 => (U.lenOf false e112).bind fun n113 => (U.bin .lss x5 (.int .i64 (n113 : Int))).bind fun t114 => U.asBool t114
 (U.asVar true 6 b1 fun e115 => U.asAgg b1 fun us116 => if 3 = sizes (us116.take 3) then (us116[3]?).bind fun e117 => U.asVar false 1 e117 fun e118 => U.asInt x5 fun n119 => U.elemAt 2 e118 n119 fun e120 => U.fieldAt 1 1 e120 fun f121 => U.asVar false 1 f121 fun e122 => (E 135 [e115, e122]).bind fun t123 => (U.un .not t123).bind fun t124 => U.asBool t124
 (some (.bool false))
 ((U.bin .add x5 (.int .i64 1)).bind fun t125 => spec_IsValidEngine_l1 E t125 b1) else none)
 (spec_IsValidEngine_l0 E (.int .i64 0) b1) else none :=
 (loop_eq E _ _ _ _).trans (by kernel_rfl)
theorem spec_IsValidEngine_l0_eq (E : Env) (x6 : U) (b1 : U) : spec_IsValidEngine_l0 E x6 b1 =
 U.asAgg b1 fun us126 => if 4 = sizes (us126.take 4) then (us126[4]?).bind fun e127 => U.asVar false 1 e127 fun e128 => (U.lenOf false e128).bind fun n129 => (U.bin .lss x6 (.int .i64 (n129 : Int))).bind fun t130 => U.asBool t130
 (U.asVar true 6 b1 fun e131 => U.asAgg b1 fun us132 => if 4 = sizes (us132.take 4) then (us132[4]?).bind fun e133 => U.asVar false 1 e133 fun e134 => U.asInt x6 fun n135 => U.elemAt 2 e134 n135 fun e136 => U.fieldAt 0 0 e136 fun f137 => U.asVar false 1 f137 fun e138 => (E 135 [e131, e138]).bind fun t139 => (U.un .not t139).bind fun t140 => U.asBool t140
 (some (.bool false))
 (U.asVar true 6 b1 fun e141 => U.asAgg b1 fun us142 => if 4 = sizes (us142.take 4) then (us142[4]?).bind fun e143 => U.asVar false 1 e143 fun e144 => U.asInt x6 fun n145 => U.elemAt 2 e144 n145 fun e146 => U.fieldAt 1 1 e146 fun f147 => U.asVar false 1 f147 fun e148 => (E 135 [e141, e148]).bind fun t149 => (U.un .not t149).bind fun t150 => U.asBool t150
 (some (.bool false))
 ((U.bin .add x6 (.int .i64 1)).bind fun t151 => spec_IsValidEngine_l0 E t151 b1) else none) else none)
 (some (.bool true)) else none :=
 (loop_eq E _ _ _ _).trans (by kernel_rfl)
structure G_spec_IsValidEngine (E : Env) : Prop where
  is : Is E 133 1 spec_IsValidEngine_ac [(2, none)]
  c_spec_l1In : G_spec_l1In E
  c_spec_ReadsExist : G_spec_ReadsExist E
  c_spec_LastStamp : G_spec_LastStamp E
  c_spec_IsValidStore : G_spec_IsValidStore E
  c_spec_AreLocks : G_spec_AreLocks E
  c_spec_AreWaits : G_spec_AreWaits E
  c_spec_IsValidTransaction : G_spec_IsValidTransaction E
  c_spec_l13Active : G_spec_l13Active E
theorem spec_IsValidEngine_E {E : Env} (h : G_spec_IsValidEngine E) (a0 : U) : E 133 [a0] =
 U.noTup a0 fun x1 => U.asAgg x1 fun us2 => if 1 = sizes (us2.take 1) then (us2[1]?).bind fun e3 => U.asVar true 1 e3 fun e4 => (E 103 [e4]).bind fun t5 => (U.un .not t5).bind fun t6 => U.asBool t6
 (some (.bool false))
 (U.asAgg x1 fun us7 => if 3 = sizes (us7.take 3) then (us7[3]?).bind fun e8 => U.asVar false 1 e8 fun e9 => (E 137 [e9]).bind fun t10 => (U.un .not t10).bind fun t11 => U.asBool t11
 (some (.bool false))
 (U.asAgg x1 fun us12 => if 4 = sizes (us12.take 4) then (us12[4]?).bind fun e13 => U.asVar false 1 e13 fun e14 => (E 138 [e14]).bind fun t15 => (U.un .not t15).bind fun t16 => U.asBool t16
 (some (.bool false))
 (U.asAgg x1 fun us17 => if 5 = sizes (us17.take 5) then (us17[5]?).bind fun e18 => U.asVar false 1 e18 fun e19 => U.asAgg x1 fun us20 => if 1 = sizes (us20.take 1) then (us20[1]?).bind fun e21 => U.asVar true 1 e21 fun e22 => (E 139 [e22]).bind fun t23 => (E 6 [e19, t23, (.int .i64 999)]).bind fun t24 => (U.un .not t24).bind fun t25 => U.asBool t25
 (some (.bool false))
 (U.asAgg x1 fun us26 => if 2 = sizes (us26.take 2) then (us26[2]?).bind fun e27 => U.asVar false 1 e27 fun e28 => (U.lenOf false e28).bind fun n29 => (U.bin .gtr (.int .i64 (n29 : Int)) (.int .i64 6)).bind fun t30 => U.asBool t30
 (some (.bool false))
 (spec_IsValidEngine_l2 E (.int .i64 0) x1) else none) else none else none) else none) else none) else none := (h.is _ rfl).trans ((runQ_V rfl).trans (by kernel_rfl))
end Go.Proofs.YtmdnjglkdddaeaaGreat.Am
namespace Go.Proofs.YtmdnjglkdddaeaaGreat.Am
open Go
set_option linter.unusedVariables false
set_option maxRecDepth 100000
def spec_VersionAt_b0 : AC :=
 (.seq (.seq (.region 0 [⟨some 7, .mv (.t 6), none⟩,
  ⟨some 8, .mv (.t 0), none⟩,
  ⟨some 9, .len false (.t 8), none⟩,
  ⟨some 10, .bin .lss (.t 7) (.t 9), none⟩,
  ⟨some 11, .mv (.t 10), none⟩,
  ⟨some 12, .mv (.t 0), some (11, true)⟩,
  ⟨some 13, .call false 104 [(.t 12)], some (11, true)⟩,
  ⟨some 14, .pick (.t 11) (.t 13) (.c (.bool false)), none⟩])
 (.cond (.t 14) .skip (.exit 0)))
 (.seq (.block 1 (.seq (.region 0 [⟨some 17, .mv (.t 0), none⟩,
  ⟨some 18, .mv (.t 6), none⟩,
  ⟨some 19, .iaddr 5 (.t 17) (.t 18), none⟩,
  ⟨some 20, .faddr 2 2 (.t 19), none⟩,
  ⟨some 21, .load false 1 (.t 20), none⟩,
  ⟨some 22, .mv (.t 1), none⟩,
  ⟨some 23, .bin .leq (.t 21) (.t 22), none⟩])
 (.cond (.t 23) (.region 0 [⟨some 24, .mv (.t 6), none⟩,
  ⟨some 5, .mv (.t 24), none⟩]) .skip)))
 (.region 0 [⟨some 15, .mv (.t 6), none⟩,
  ⟨some 16, .bin .add (.t 15) (.c (.int .i64 1)), none⟩,
  ⟨some 6, .mv (.t 16), none⟩])))
def spec_VersionAt_r0 : AC :=
 (.seq (.region 0 [⟨some 25, .mv (.t 5), none⟩,
  ⟨some 4, .mv (.t 25), none⟩])
 .ret)
def spec_VersionAt_ac : AC :=
 (.seq (.region 0 [⟨some 4, .mv (.c (.int .i64 0)), none⟩])
 (.seq (.region 0 [⟨some 5, .mv (.c (.int .i64 (-1))), none⟩])
 (.seq (.seq (.region 0 [⟨some 6, .mv (.c (.int .i64 0)), none⟩])
 (.block 0 (.loop ⟨[0, 1, 5, 6], [], []⟩ spec_VersionAt_b0)))
 spec_VersionAt_r0)))
noncomputable def spec_VersionAt_l0 (E : Env) (x0 : U) (x1 : U) (x5 : U) (x6 : U) : Option U := loopK (roundOf E ⟨[0, 1, 5, 6], [], []⟩ spec_VersionAt_b0 (blockK 0 (seqK (fun s => exec E spec_VersionAt_r0 s (finish [(4, none)])) (finish [(4, none)])))) ([.val x0, .val x1, .val x5, .val x6], [])
theorem spec_VersionAt_l0_eq (E : Env) (x0 : U) (x1 : U) (x5 : U) (x6 : U) : spec_VersionAt_l0 E x0 x1 x5 x6 =
 (U.lenOf false x0).bind fun n1 => (U.bin .lss x6 (.int .i64 (n1 : Int))).bind fun t2 => U.asBool t2
 ((E 104 [x0]).bind fun t3 => U.asBool t3
 (U.asInt x6 fun n4 => U.elemAt 5 x0 n4 fun e5 => U.fieldAt 2 2 e5 fun f6 => U.asVar false 1 f6 fun e7 => (U.bin .leq e7 x1).bind fun t8 => U.asBool t8
 ((U.bin .add x6 (.int .i64 1)).bind fun t9 => spec_VersionAt_l0 E x0 x1 x6 t9)
 ((U.bin .add x6 (.int .i64 1)).bind fun t10 => spec_VersionAt_l0 E x0 x1 x5 t10))
 (some x5))
 (some x5) :=
 (loop_eq E _ _ _ _).trans (by kernel_rfl)
structure G_spec_VersionAt (E : Env) : Prop where
  is : Is E 106 2 spec_VersionAt_ac [(4, none)]
  c_spec_IsValidChain : G_spec_IsValidChain E
theorem spec_VersionAt_E {E : Env} (h : G_spec_VersionAt E) (a0 a1 : U) : E 106 [a0, a1] =
 spec_VersionAt_l0 E a0 a1 (.int .i64 (-1)) (.int .i64 0) := (h.is _ rfl).trans ((runQ_V rfl).trans (by kernel_rfl))
end Go.Proofs.YtmdnjglkdddaeaaGreat.Am
namespace Go.Proofs.YtmdnjglkdddaeaaGreat.Am
open Go
set_option linter.unusedVariables false
set_option maxRecDepth 100000
def spec_ReadAt_ac : AC :=
 (.seq (.region 0 [⟨some 3, .box false 3 (.t 0), none⟩,
  ⟨some 6, .alloc 6 (.agg [(.int .i64 0), (.int .i64 0), (.int .i64 0), (.int .i64 0), (.int .i64 0)]), none⟩,
  ⟨some 7, .mv (.c (.bool false)), none⟩])
 (.seq (.seq (.region 0 [⟨some 9, .load true 1 (.t 3), none⟩,
  ⟨some 10, .call false 103 [(.t 9)], none⟩,
  ⟨some 11, .un .not (.t 10), none⟩,
  ⟨some 12, .mv (.t 11), none⟩,
  ⟨some 13, .mv (.t 1), some (12, false)⟩,
  ⟨some 14, .call false 6 [(.t 13), (.c (.int .i64 0)), (.c (.int .i64 5))], some (12, false)⟩,
  ⟨some 15, .un .not (.t 14), some (12, false)⟩,
  ⟨some 16, .pick (.t 12) (.c (.bool true)) (.t 15), none⟩])
 (.cond (.t 16) (.seq (.region 0 [⟨some 17, .build [(.int .i64 0), (.int .i64 0), (.int .i64 0), (.int .i64 0), (.int .i64 0)] [], none⟩,
  ⟨none, .store 5 (.t 6) (.t 17), none⟩,
  ⟨some 7, .mv (.c (.bool false)), none⟩])
 .ret) .skip))
 (.seq (.region 0 [⟨some 18, .faddr 0 0 (.t 3), none⟩,
  ⟨some 19, .load false 1 (.t 18), none⟩,
  ⟨some 20, .mv (.t 1), none⟩,
  ⟨some 21, .iaddr 1 (.t 19) (.t 20), none⟩,
  ⟨some 22, .load false 1 (.t 21), none⟩,
  ⟨some 23, .mv (.t 2), none⟩,
  ⟨some 24, .call false 106 [(.t 22), (.t 23)], none⟩,
  ⟨some 8, .mv (.t 24), none⟩])
 (.seq (.seq (.region 0 [⟨some 25, .mv (.t 8), none⟩,
  ⟨some 26, .bin .lss (.t 25) (.c (.int .i64 0)), none⟩])
 (.cond (.t 26) (.seq (.region 0 [⟨some 27, .build [(.int .i64 0), (.int .i64 0), (.int .i64 0), (.int .i64 0), (.int .i64 0)] [], none⟩,
  ⟨none, .store 5 (.t 6) (.t 27), none⟩,
  ⟨some 7, .mv (.c (.bool false)), none⟩])
 .ret) .skip))
 (.seq (.region 0 [⟨some 28, .faddr 0 0 (.t 3), none⟩,
  ⟨some 29, .load false 1 (.t 28), none⟩,
  ⟨some 30, .mv (.t 1), none⟩,
  ⟨some 31, .iaddr 1 (.t 29) (.t 30), none⟩,
  ⟨some 32, .load false 1 (.t 31), none⟩,
  ⟨some 33, .mv (.t 8), none⟩,
  ⟨some 34, .iaddr 5 (.t 32) (.t 33), none⟩,
  ⟨some 35, .load true 5 (.t 34), none⟩,
  ⟨none, .store 5 (.t 6) (.t 35), none⟩,
  ⟨some 7, .mv (.c (.bool true)), none⟩])
 .ret)))))
structure G_spec_ReadAt (E : Env) : Prop where
  is : Is E 102 3 spec_ReadAt_ac [(6, some (true, 5)), (7, none)]
  c_spec_l1In : G_spec_l1In E
  c_spec_IsValidStore : G_spec_IsValidStore E
  c_spec_VersionAt : G_spec_VersionAt E
theorem spec_ReadAt_E {E : Env} (h : G_spec_ReadAt E) (a0 a1 a2 : U) : E 102 [a0, a1, a2] =
 U.noTup a0 fun x1 => U.asVar true 1 x1 fun e2 => (E 103 [e2]).bind fun t3 => (U.un .not t3).bind fun t4 => U.asBool t4
 (some (.tup [(.agg [(.int .i64 0), (.int .i64 0), (.int .i64 0), (.int .i64 0), (.int .i64 0)]), (.bool false)]))
 ((E 6 [a1, (.int .i64 0), (.int .i64 5)]).bind fun t5 => (U.un .not t5).bind fun t6 => U.asBool t6
 (some (.tup [(.agg [(.int .i64 0), (.int .i64 0), (.int .i64 0), (.int .i64 0), (.int .i64 0)]), (.bool false)]))
 (U.asAgg x1 fun us7 => if 0 = sizes (us7.take 0) then (us7[0]?).bind fun e8 => U.asVar false 1 e8 fun e9 => U.asInt a1 fun n10 => U.elemAt 1 e9 n10 fun e11 => U.asVar false 1 e11 fun e12 => (E 106 [e12, a2]).bind fun t13 => (U.bin .lss t13 (.int .i64 0)).bind fun t14 => U.asBool t14
 (some (.tup [(.agg [(.int .i64 0), (.int .i64 0), (.int .i64 0), (.int .i64 0), (.int .i64 0)]), (.bool false)]))
 (U.asAgg x1 fun us15 => if 0 = sizes (us15.take 0) then (us15[0]?).bind fun e16 => U.asVar false 1 e16 fun e17 => U.asInt a1 fun n18 => U.elemAt 1 e17 n18 fun e19 => U.asVar false 1 e19 fun e20 => U.asInt t13 fun n21 => U.elemAt 5 e20 n21 fun e22 => U.asVar true 5 e22 fun e23 => if storable (.val e23) = true ∧ e23.size = 5 then U.asVar true 5 e23 fun e24 => U.noTup e24 fun x25 => some (.tup [x25, (.bool true)]) else none else none) else none)) := (h.is _ rfl).trans ((runQ_V rfl).trans (by kernel_rfl))
end Go.Proofs.YtmdnjglkdddaeaaGreat.Am
namespace Go.Proofs.YtmdnjglkdddaeaaGreat.Am
open Go
set_option linter.unusedVariables false
set_option maxRecDepth 100000
def spec_RefreshHigh_b0 : AC :=
 (.seq (.seq (.region 0 [⟨some 12, .mv (.t 6), none⟩,
  ⟨some 13, .faddr 7 7 (.t 3), none⟩,
  ⟨some 14, .load false 1 (.t 13), none⟩,
  ⟨some 15, .len false (.t 14), none⟩,
  ⟨some 16, .bin .lss (.t 12) (.t 15), none⟩])
 (.cond (.t 16) .skip (.exit 0)))
 (.seq (.block 1 (.seq (.region 11 [⟨some 19, .faddr 0 0 (.t 2), none⟩,
  ⟨some 20, .load false 1 (.t 19), none⟩,
  ⟨some 21, .faddr 7 7 (.t 3), none⟩,
  ⟨some 22, .load false 1 (.t 21), none⟩,
  ⟨some 23, .mv (.t 6), none⟩,
  ⟨some 24, .iaddr 2 (.t 22) (.t 23), none⟩,
  ⟨some 25, .faddr 0 0 (.t 24), none⟩,
  ⟨some 26, .load false 1 (.t 25), none⟩,
  ⟨some 27, .iaddr 1 (.t 20) (.t 26), none⟩,
  ⟨some 28, .load false 1 (.t 27), none⟩,
  ⟨some 7, .mv (.t 28), none⟩])
 (.region 0 [⟨some 29, .mv (.t 5), none⟩,
  ⟨some 30, .mv (.t 7), none⟩,
  ⟨some 31, .mv (.t 7), none⟩,
  ⟨some 32, .faddr 7 7 (.t 3), none⟩,
  ⟨some 33, .load false 1 (.t 32), none⟩,
  ⟨some 34, .mv (.t 6), none⟩,
  ⟨some 35, .iaddr 2 (.t 33) (.t 34), none⟩,
  ⟨some 36, .faddr 1 1 (.t 35), none⟩,
  ⟨some 37, .load false 1 (.t 36), none⟩,
  ⟨some 38, .call false 140 [(.t 31), (.t 37)], none⟩,
  ⟨some 39, .iaddr 5 (.t 30) (.t 38), none⟩,
  ⟨some 40, .faddr 4 4 (.t 39), none⟩,
  ⟨some 41, .load false 1 (.t 40), none⟩,
  ⟨some 42, .minmax false [(.t 29), (.t 41)], none⟩,
  ⟨some 5, .mv (.t 42), none⟩])))
 (.region 0 [⟨some 17, .mv (.t 6), none⟩,
  ⟨some 18, .bin .add (.t 17) (.c (.int .i64 1)), none⟩,
  ⟨some 6, .mv (.t 18), none⟩])))
def spec_RefreshHigh_r0 : AC :=
 (.seq (.region 0 [⟨some 43, .mv (.t 5), none⟩,
  ⟨some 4, .mv (.t 43), none⟩])
 .ret)
def spec_RefreshHigh_ac : AC :=
 (.seq (.region 0 [⟨some 2, .box false 2 (.t 0), none⟩,
  ⟨some 3, .box false 3 (.t 1), none⟩,
  ⟨some 4, .mv (.c (.int .i64 0)), none⟩])
 (.seq (.seq (.region 0 [⟨some 8, .load true 1 (.t 2), none⟩,
  ⟨some 9, .load true 9 (.t 3), none⟩,
  ⟨some 10, .call false 136 [(.t 8), (.t 9)], none⟩,
  ⟨some 11, .un .not (.t 10), none⟩])
 (.cond (.t 11) (.seq (.region 0 [⟨some 4, .mv (.c (.int .i64 0)), none⟩])
 .ret) .skip))
 (.seq (.region 0 [⟨some 5, .mv (.c (.int .i64 1000)), none⟩])
 (.seq (.seq (.region 0 [⟨some 6, .mv (.c (.int .i64 0)), none⟩])
 (.block 0 (.loop ⟨[2, 3, 5, 6], [], [(2, false), (3, false)]⟩ spec_RefreshHigh_b0)))
 spec_RefreshHigh_r0))))
noncomputable def spec_RefreshHigh_l0 (E : Env) (x5 : U) (x6 : U) (b2 : U) (b3 : U) : Option U := loopK (roundOf E ⟨[2, 3, 5, 6], [], [(2, false), (3, false)]⟩ spec_RefreshHigh_b0 (blockK 0 (seqK (fun s => exec E spec_RefreshHigh_r0 s (finish [(4, none)])) (finish [(4, none)])))) ([.ptr 2 [], .ptr 3 [], .val x5, .val x6], [.box (.val b2), .box (.val b3)])
theorem spec_RefreshHigh_l0_eq (E : Env) (x5 : U) (x6 : U) (b2 : U) (b3 : U) : spec_RefreshHigh_l0 E x5 x6 b2 b3 =
 U.asAgg b3 fun us7 => if 7 = sizes (us7.take 7) then (us7[7]?).bind fun e8 => U.asVar false 1 e8 fun e9 => (U.lenOf false e9).bind fun n10 => (U.bin .lss x6 (.int .i64 (n10 : Int))).bind fun t11 => U.asBool t11
 (U.asAgg b2 fun us12 => if 0 = sizes (us12.take 0) then (us12[0]?).bind fun e13 => U.asVar false 1 e13 fun e14 => U.asAgg b3 fun us15 => if 7 = sizes (us15.take 7) then (us15[7]?).bind fun e16 => U.asVar false 1 e16 fun e17 => U.asInt x6 fun n18 => U.elemAt 2 e17 n18 fun e19 => U.fieldAt 0 0 e19 fun f20 => U.asVar false 1 f20 fun e21 => U.asInt e21 fun n22 => U.elemAt 1 e14 n22 fun e23 => U.asVar false 1 e23 fun e24 => U.asAgg b3 fun us25 => if 7 = sizes (us25.take 7) then (us25[7]?).bind fun e26 => U.asVar false 1 e26 fun e27 => U.asInt x6 fun n28 => U.elemAt 2 e27 n28 fun e29 => U.fieldAt 1 1 e29 fun f30 => U.asVar false 1 f30 fun e31 => (E 140 [e24, e31]).bind fun t32 => U.asInt t32 fun n33 => U.elemAt 5 e24 n33 fun e34 => U.fieldAt 4 4 e34 fun f35 => U.asVar false 1 f35 fun e36 => U.asInt x5 fun n37 => U.asInt e36 fun n38 => (U.bin .add x6 (.int .i64 1)).bind fun t39 => spec_RefreshHigh_l0 E (.int .i64 (([n38] : List Int).foldl (fun a b => if false then (if a < b then b else a) else (if b < a then b else a)) n37)) t39 b2 b3 else none else none else none)
 (some x5) else none :=
 (loop_eq E _ _ _ _).trans (by kernel_rfl)
structure G_spec_RefreshHigh (E : Env) : Prop where
  is : Is E 183 2 spec_RefreshHigh_ac [(4, none)]
  c_spec_ReadsExist : G_spec_ReadsExist E
  c_spec_FindVersion : G_spec_FindVersion E
theorem spec_RefreshHigh_E {E : Env} (h : G_spec_RefreshHigh E) (a0 a1 : U) : E 183 [a0, a1] =
 U.noTup a0 fun x1 => U.noTup a1 fun x2 => U.asVar true 1 x1 fun e3 => U.asVar true 9 x2 fun e4 => (E 136 [e3, e4]).bind fun t5 => (U.un .not t5).bind fun t6 => U.asBool t6
 (some (.int .i64 0))
 (spec_RefreshHigh_l0 E (.int .i64 1000) (.int .i64 0) x1 x2) := (h.is _ rfl).trans ((runQ_V rfl).trans (by kernel_rfl))
end Go.Proofs.YtmdnjglkdddaeaaGreat.Am
namespace Go.Proofs.YtmdnjglkdddaeaaGreat.Am
open Go
set_option linter.unusedVariables false
set_option maxRecDepth 100000
def spec_UnsafeBecause_b0 : AC :=
 (.seq (.seq (.region 0 [⟨some 7, .mv (.t 5), none⟩,
  ⟨some 8, .faddr 2 2 (.t 2), none⟩,
  ⟨some 9, .load false 1 (.t 8), none⟩,
  ⟨some 10, .len false (.t 9), none⟩,
  ⟨some 11, .bin .lss (.t 7) (.t 10), none⟩,
  ⟨some 12, .mv (.t 11), none⟩,
  ⟨some 13, .load true 6 (.t 2), some (12, true)⟩,
  ⟨some 14, .call false 133 [(.t 13)], some (12, true)⟩,
  ⟨some 15, .pick (.t 12) (.t 14) (.c (.bool false)), none⟩,
  ⟨some 16, .mv (.t 15), none⟩,
  ⟨some 17, .mv (.t 1), some (16, true)⟩,
  ⟨some 18, .faddr 5 5 (.t 2), some (16, true)⟩,
  ⟨some 19, .load false 1 (.t 18), some (16, true)⟩,
  ⟨some 20, .call false 6 [(.t 17), (.c (.int .i64 0)), (.t 19)], some (16, true)⟩,
  ⟨some 21, .pick (.t 16) (.t 20) (.c (.bool false)), none⟩])
 (.cond (.t 21) .skip (.exit 0)))
 (.seq (.block 1 (.seq (.region 0 [⟨some 24, .faddr 2 2 (.t 2), none⟩,
  ⟨some 25, .load false 1 (.t 24), none⟩,
  ⟨some 26, .mv (.t 5), none⟩,
  ⟨some 27, .iaddr 9 (.t 25) (.t 26), none⟩,
  ⟨some 28, .load true 9 (.t 27), none⟩,
  ⟨some 6, .alloc 6 (.agg [(.int .i64 0), (.int .i64 0), (.int .i64 0), (.int .i64 0), (.int .i64 0), (.int .i64 0), (.int .i64 0), (.nsl 2), (.nsl 2)]), none⟩,
  ⟨none, .store 9 (.t 6) (.t 28), none⟩])
 (.seq (.region 0 [⟨some 29, .faddr 2 2 (.t 6), none⟩,
  ⟨some 30, .load false 1 (.t 29), none⟩])
 (.block 2 (.seq (.region 0 [⟨some 32, .bin .eql (.t 30) (.c (.int .i64 2)), none⟩,
  ⟨some 31, .mv (.t 32), none⟩])
 (.cond (.t 31) (.seq (.region 0 [⟨some 33, .faddr 6 6 (.t 6), none⟩,
  ⟨some 34, .load false 1 (.t 33), none⟩,
  ⟨some 35, .mv (.t 1), none⟩,
  ⟨some 36, .bin .gtr (.t 34) (.t 35), none⟩,
  ⟨some 37, .mv (.t 36), none⟩,
  ⟨some 38, .faddr 5 5 (.t 6), some (37, true)⟩,
  ⟨some 39, .load false 1 (.t 38), some (37, true)⟩,
  ⟨some 40, .mv (.t 1), some (37, true)⟩,
  ⟨some 41, .bin .leq (.t 39) (.t 40), some (37, true)⟩,
  ⟨some 42, .pick (.t 37) (.t 41) (.c (.bool false)), none⟩])
 (.cond (.t 42) (.seq (.region 0 [⟨some 43, .faddr 0 0 (.t 6), none⟩,
  ⟨some 44, .load false 1 (.t 43), none⟩,
  ⟨some 4, .mv (.t 44), none⟩])
 .ret) .skip)) (.seq (.region 0 [⟨some 46, .bin .eql (.t 30) (.c (.int .i64 1)), none⟩,
  ⟨some 45, .mv (.t 46), none⟩])
 (.cond (.t 45) (.seq (.region 0 [⟨some 47, .faddr 1 1 (.t 2), none⟩,
  ⟨some 48, .load true 1 (.t 47), none⟩,
  ⟨some 49, .load true 9 (.t 6), none⟩,
  ⟨some 50, .call false 183 [(.t 48), (.t 49)], none⟩,
  ⟨some 51, .mv (.t 1), none⟩,
  ⟨some 52, .bin .leq (.t 50) (.t 51), none⟩,
  ⟨some 53, .mv (.t 52), none⟩,
  ⟨some 54, .faddr 1 1 (.t 6), some (53, false)⟩,
  ⟨some 55, .load false 1 (.t 54), some (53, false)⟩,
  ⟨some 56, .bin .eql (.t 55) (.c (.int .i64 2)), some (53, false)⟩,
  ⟨some 57, .mv (.t 56), some (53, false)⟩,
  ⟨some 58, .faddr 3 3 (.t 6), some (57, true)⟩,
  ⟨some 59, .load false 1 (.t 58), some (57, true)⟩,
  ⟨some 60, .mv (.t 1), some (57, true)⟩,
  ⟨some 61, .bin .lss (.t 59) (.t 60), some (57, true)⟩,
  ⟨some 62, .pick (.t 57) (.t 61) (.c (.bool false)), some (53, false)⟩,
  ⟨some 63, .pick (.t 53) (.c (.bool true)) (.t 62), none⟩])
 (.cond (.t 63) (.seq (.region 0 [⟨some 64, .faddr 0 0 (.t 6), none⟩,
  ⟨some 65, .load false 1 (.t 64), none⟩,
  ⟨some 4, .mv (.t 65), none⟩])
 .ret) .skip)) .skip))))))))
 (.region 0 [⟨some 22, .mv (.t 5), none⟩,
  ⟨some 23, .bin .add (.t 22) (.c (.int .i64 1)), none⟩,
  ⟨some 5, .mv (.t 23), none⟩])))
def spec_UnsafeBecause_r0 : AC :=
 (.seq (.region 0 [⟨some 4, .mv (.c (.int .i64 0)), none⟩])
 .ret)
def spec_UnsafeBecause_ac : AC :=
 (.seq (.region 0 [⟨some 2, .box false 2 (.t 0), none⟩,
  ⟨some 4, .mv (.c (.int .i64 0)), none⟩])
 (.seq (.seq (.region 0 [⟨some 5, .mv (.c (.int .i64 0)), none⟩])
 (.block 0 (.loop ⟨[1, 2, 5], [], [(2, false)]⟩ spec_UnsafeBecause_b0)))
 spec_UnsafeBecause_r0))
noncomputable def spec_UnsafeBecause_l0 (E : Env) (x1 : U) (x5 : U) (b2 : U) : Option U := loopK (roundOf E ⟨[1, 2, 5], [], [(2, false)]⟩ spec_UnsafeBecause_b0 (blockK 0 (seqK (fun s => exec E spec_UnsafeBecause_r0 s (finish [(4, none)])) (finish [(4, none)])))) ([.val x1, .ptr 2 [], .val x5], [.box (.val b2)])
theorem spec_UnsafeBecause_l0_eq (E : Env) (x1 : U) (x5 : U) (b2 : U) : spec_UnsafeBecause_l0 E x1 x5 b2 =
 U.asAgg b2 fun us2 => if 2 = sizes (us2.take 2) then (us2[2]?).bind fun e3 => U.asVar false 1 e3 fun e4 => (U.lenOf false e4).bind fun n5 => (U.bin .lss x5 (.int .i64 (n5 : Int))).bind fun t6 => U.asBool t6
 (U.asVar true 6 b2 fun e7 => (E 133 [e7]).bind fun t8 => U.asBool t8
 (U.asAgg b2 fun us9 => if 5 = sizes (us9.take 5) then (us9[5]?).bind fun e10 => U.asVar false 1 e10 fun e11 => (E 6 [x1, (.int .i64 0), e11]).bind fun t12 => U.asBool t12
 (U.asAgg b2 fun us13 => if 2 = sizes (us13.take 2) then (us13[2]?).bind fun e14 => U.asVar false 1 e14 fun e15 => U.asInt x5 fun n16 => U.elemAt 9 e15 n16 fun e17 => U.asVar true 9 e17 fun e18 => if storable (.val e18) = true ∧ e18.size = 9 then U.asAgg e18 fun us19 => if 2 = sizes (us19.take 2) then (us19[2]?).bind fun e20 => U.asVar false 1 e20 fun e21 => (U.bin .eql e21 (.int .i64 2)).bind fun t22 => U.asBool t22
 (U.asAgg e18 fun us23 => if 6 = sizes (us23.take 6) then (us23[6]?).bind fun e24 => U.asVar false 1 e24 fun e25 => (U.bin .gtr e25 x1).bind fun t26 => U.asBool t26
 (U.asAgg e18 fun us27 => if 5 = sizes (us27.take 5) then (us27[5]?).bind fun e28 => U.asVar false 1 e28 fun e29 => (U.bin .leq e29 x1).bind fun t30 => U.asBool t30
 (U.asAgg e18 fun us31 => if 0 = sizes (us31.take 0) then (us31[0]?).bind fun e32 => U.asVar false 1 e32 fun e33 => some e33 else none)
 ((U.bin .add x5 (.int .i64 1)).bind fun t34 => spec_UnsafeBecause_l0 E x1 t34 b2) else none)
 ((U.bin .add x5 (.int .i64 1)).bind fun t35 => spec_UnsafeBecause_l0 E x1 t35 b2) else none)
 ((U.bin .eql e21 (.int .i64 1)).bind fun t36 => U.asBool t36
 (U.asAgg b2 fun us37 => if 1 = sizes (us37.take 1) then (us37[1]?).bind fun e38 => U.asVar true 1 e38 fun e39 => U.asVar true 9 e18 fun e40 => (E 183 [e39, e40]).bind fun t41 => (U.bin .leq t41 x1).bind fun t42 => U.asBool t42
 (U.asAgg e18 fun us43 => if 0 = sizes (us43.take 0) then (us43[0]?).bind fun e44 => U.asVar false 1 e44 fun e45 => some e45 else none)
 (U.asAgg e18 fun us46 => if 1 = sizes (us46.take 1) then (us46[1]?).bind fun e47 => U.asVar false 1 e47 fun e48 => (U.bin .eql e48 (.int .i64 2)).bind fun t49 => U.asBool t49
 (U.asAgg e18 fun us50 => if 3 = sizes (us50.take 3) then (us50[3]?).bind fun e51 => U.asVar false 1 e51 fun e52 => (U.bin .lss e52 x1).bind fun t53 => U.asBool t53
 (U.asAgg e18 fun us54 => if 0 = sizes (us54.take 0) then (us54[0]?).bind fun e55 => U.asVar false 1 e55 fun e56 => some e56 else none)
 ((U.bin .add x5 (.int .i64 1)).bind fun t57 => spec_UnsafeBecause_l0 E x1 t57 b2) else none)
 ((U.bin .add x5 (.int .i64 1)).bind fun t58 => spec_UnsafeBecause_l0 E x1 t58 b2) else none) else none)
 ((U.bin .add x5 (.int .i64 1)).bind fun t59 => spec_UnsafeBecause_l0 E x1 t59 b2)) else none else none else none)
 (some (.int .i64 0)) else none)
 (some (.int .i64 0)))
 (some (.int .i64 0)) else none :=
 (loop_eq E _ _ _ _).trans (by kernel_rfl)
structure G_spec_UnsafeBecause (E : Env) : Prop where
  is : Is E 182 2 spec_UnsafeBecause_ac [(4, none)]
  c_spec_IsValidEngine : G_spec_IsValidEngine E
  c_spec_l1In : G_spec_l1In E
  c_spec_RefreshHigh : G_spec_RefreshHigh E
theorem spec_UnsafeBecause_E {E : Env} (h : G_spec_UnsafeBecause E) (a0 a1 : U) : E 182 [a0, a1] =
 U.noTup a0 fun x1 => spec_UnsafeBecause_l0 E a1 (.int .i64 0) x1 := (h.is _ rfl).trans ((runQ_V rfl).trans (by kernel_rfl))
end Go.Proofs.YtmdnjglkdddaeaaGreat.Am
namespace Go.Proofs.YtmdnjglkdddaeaaGreat.Am
open Go
set_option linter.unusedVariables false
set_option maxRecDepth 100000
def spec_IsSafe_ac : AC :=
 (.seq (.region 0 [⟨some 2, .box false 2 (.t 0), none⟩,
  ⟨some 4, .mv (.c (.bool false)), none⟩])
 (.seq (.region 0 [⟨some 5, .load true 6 (.t 2), none⟩,
  ⟨some 6, .call false 133 [(.t 5)], none⟩,
  ⟨some 7, .mv (.t 6), none⟩,
  ⟨some 8, .mv (.t 1), some (7, true)⟩,
  ⟨some 9, .faddr 5 5 (.t 2), some (7, true)⟩,
  ⟨some 10, .load false 1 (.t 9), some (7, true)⟩,
  ⟨some 11, .call false 6 [(.t 8), (.c (.int .i64 0)), (.t 10)], some (7, true)⟩,
  ⟨some 12, .pick (.t 7) (.t 11) (.c (.bool false)), none⟩,
  ⟨some 13, .mv (.t 12), none⟩,
  ⟨some 14, .load true 6 (.t 2), some (13, true)⟩,
  ⟨some 15, .mv (.t 1), some (13, true)⟩,
  ⟨some 16, .call false 182 [(.t 14), (.t 15)], some (13, true)⟩,
  ⟨some 17, .bin .eql (.t 16) (.c (.int .i64 0)), some (13, true)⟩,
  ⟨some 18, .pick (.t 13) (.t 17) (.c (.bool false)), none⟩,
  ⟨some 4, .mv (.t 18), none⟩])
 .ret))
structure G_spec_IsSafe (E : Env) : Prop where
  is : Is E 189 2 spec_IsSafe_ac [(4, none)]
  c_spec_IsValidEngine : G_spec_IsValidEngine E
  c_spec_l1In : G_spec_l1In E
  c_spec_UnsafeBecause : G_spec_UnsafeBecause E
theorem spec_IsSafe_E {E : Env} (h : G_spec_IsSafe E) (a0 a1 : U) : E 189 [a0, a1] =
 U.noTup a0 fun x1 => U.asVar true 6 x1 fun e2 => (E 133 [e2]).bind fun t3 => U.asBool t3
 (U.asAgg x1 fun us4 => if 5 = sizes (us4.take 5) then (us4[5]?).bind fun e5 => U.asVar false 1 e5 fun e6 => (E 6 [a1, (.int .i64 0), e6]).bind fun t7 => U.asBool t7
 (U.asVar true 6 x1 fun e8 => (E 182 [e8, a1]).bind fun t9 => (U.bin .eql t9 (.int .i64 0)).bind fun t10 => some t10)
 (some (.bool false)) else none)
 (some (.bool false)) := (h.is _ rfl).trans ((runQ_V rfl).trans (by kernel_rfl))
end Go.Proofs.YtmdnjglkdddaeaaGreat.Am
namespace Go.Proofs.YtmdnjglkdddaeaaGreat.Am
open Go
set_option linter.unusedVariables false
set_option maxRecDepth 100000
def spec_SafeStamp_b0 : AC :=
 (.seq (.seq (.region 0 [⟨some 6, .mv (.t 3), none⟩,
  ⟨some 7, .bin .gtr (.t 6) (.c (.int .i64 0)), none⟩,
  ⟨some 8, .mv (.t 7), none⟩,
  ⟨some 9, .load true 6 (.t 1), some (8, true)⟩,
  ⟨some 10, .call false 133 [(.t 9)], some (8, true)⟩,
  ⟨some 11, .pick (.t 8) (.t 10) (.c (.bool false)), none⟩])
 (.cond (.t 11) .skip (.exit 0)))
 (.seq (.block 1 (.seq (.region 0 [⟨some 14, .load true 6 (.t 1), none⟩,
  ⟨some 15, .mv (.t 3), none⟩,
  ⟨some 16, .call false 189 [(.t 14), (.t 15)], none⟩])
 (.cond (.t 16) (.seq (.region 0 [⟨some 17, .mv (.t 3), none⟩,
  ⟨some 2, .mv (.t 17), none⟩])
 .ret) .skip)))
 (.region 0 [⟨some 12, .mv (.t 3), none⟩,
  ⟨some 13, .bin .sub (.t 12) (.c (.int .i64 1)), none⟩,
  ⟨some 3, .mv (.t 13), none⟩])))
def spec_SafeStamp_r0 : AC :=
 (.seq (.region 0 [⟨some 2, .mv (.c (.int .i64 0)), none⟩])
 .ret)
def spec_SafeStamp_ac : AC :=
 (.seq (.region 0 [⟨some 1, .box false 1 (.t 0), none⟩,
  ⟨some 2, .mv (.c (.int .i64 0)), none⟩])
 (.seq (.seq (.region 0 [⟨some 4, .faddr 5 5 (.t 1), none⟩,
  ⟨some 5, .load false 1 (.t 4), none⟩,
  ⟨some 3, .mv (.t 5), none⟩])
 (.block 0 (.loop ⟨[1, 3], [], [(1, false)]⟩ spec_SafeStamp_b0)))
 spec_SafeStamp_r0))
noncomputable def spec_SafeStamp_l0 (E : Env) (x3 : U) (b1 : U) : Option U := loopK (roundOf E ⟨[1, 3], [], [(1, false)]⟩ spec_SafeStamp_b0 (blockK 0 (seqK (fun s => exec E spec_SafeStamp_r0 s (finish [(2, none)])) (finish [(2, none)])))) ([.ptr 1 [], .val x3], [.box (.val b1)])
theorem spec_SafeStamp_l0_eq (E : Env) (x3 : U) (b1 : U) : spec_SafeStamp_l0 E x3 b1 =
 (U.bin .gtr x3 (.int .i64 0)).bind fun t5 => U.asBool t5
 (U.asVar true 6 b1 fun e6 => (E 133 [e6]).bind fun t7 => U.asBool t7
 (U.asVar true 6 b1 fun e8 => (E 189 [e8, x3]).bind fun t9 => U.asBool t9
 (some x3)
 ((U.bin .sub x3 (.int .i64 1)).bind fun t10 => spec_SafeStamp_l0 E t10 b1))
 (some (.int .i64 0)))
 (some (.int .i64 0)) :=
 (loop_eq E _ _ _ _).trans (by kernel_rfl)
structure G_spec_SafeStamp (E : Env) : Prop where
  is : Is E 192 1 spec_SafeStamp_ac [(2, none)]
  c_spec_IsValidEngine : G_spec_IsValidEngine E
  c_spec_IsSafe : G_spec_IsSafe E
theorem spec_SafeStamp_E {E : Env} (h : G_spec_SafeStamp E) (a0 : U) : E 192 [a0] =
 U.noTup a0 fun x1 => U.asAgg x1 fun us2 => if 5 = sizes (us2.take 5) then (us2[5]?).bind fun e3 => U.asVar false 1 e3 fun e4 => spec_SafeStamp_l0 E e4 x1 else none := (h.is _ rfl).trans ((runQ_V rfl).trans (by kernel_rfl))
end Go.Proofs.YtmdnjglkdddaeaaGreat.Am
namespace Go.Proofs.YtmdnjglkdddaeaaGreat.Am
open Go
set_option linter.unusedVariables false
set_option maxRecDepth 100000
def spec_ReadSafe_ac : AC :=
 (.seq (.region 0 [⟨some 2, .box false 2 (.t 0), none⟩,
  ⟨some 4, .mv (.c (.int .i64 0)), none⟩,
  ⟨some 5, .mv (.c (.bool false)), none⟩])
 (.seq (.seq (.region 0 [⟨some 8, .load true 6 (.t 2), none⟩,
  ⟨some 9, .call false 133 [(.t 8)], none⟩,
  ⟨some 10, .un .not (.t 9), none⟩])
 (.cond (.t 10) (.seq (.region 0 [⟨some 4, .mv (.c (.int .i64 0)), none⟩,
  ⟨some 5, .mv (.c (.bool false)), none⟩])
 .ret) .skip))
 (.seq (.regN 11 [6] [(0, 6), (1, 6), (2, 6), (3, 6), (4, 6), (5, 6), (6, 6), (7, 6), (8, 6)] [(.t 12), (.t 2)] [⟨some 12, .faddr 1 1 (.t 2), none⟩,
  ⟨some 13, .load true 1 (.t 12), none⟩,
  ⟨some 14, .mv (.t 1), none⟩,
  ⟨some 15, .load true 6 (.t 2), none⟩,
  ⟨some 16, .call false 192 [(.t 15)], none⟩,
  ⟨some 17, .call false 102 [(.t 13), (.t 14), (.t 16)], none⟩,
  ⟨some 11, .mv (.t 17), none⟩,
  ⟨some 18, .extract 0 (.t 11), none⟩,
  ⟨some 19, .extract 1 (.t 11), none⟩,
  ⟨some 6, .alloc 6 (.agg [(.int .i64 0), (.int .i64 0), (.int .i64 0), (.int .i64 0), (.int .i64 0)]), none⟩,
  ⟨none, .storeN 6 5 (.t 6) (.t 18), none⟩,
  ⟨some 7, .mv (.t 19), none⟩])
 (.seq (.seq (.region 0 [⟨some 20, .mv (.t 7), none⟩,
  ⟨some 21, .un .not (.t 20), none⟩])
 (.cond (.t 21) (.seq (.region 0 [⟨some 4, .mv (.c (.int .i64 0)), none⟩,
  ⟨some 5, .mv (.c (.bool false)), none⟩])
 .ret) .skip))
 (.seq (.region 0 [⟨some 22, .faddr 1 1 (.t 6), none⟩,
  ⟨some 23, .load false 1 (.t 22), none⟩,
  ⟨some 4, .mv (.t 23), none⟩,
  ⟨some 5, .mv (.c (.bool true)), none⟩])
 .ret)))))
structure G_spec_ReadSafe (E : Env) : Prop where
  is : Is E 203 2 spec_ReadSafe_ac [(4, none), (5, none)]
  c_spec_IsValidEngine : G_spec_IsValidEngine E
  c_spec_ReadAt : G_spec_ReadAt E
  c_spec_SafeStamp : G_spec_SafeStamp E
theorem spec_ReadSafe_E {E : Env} (h : G_spec_ReadSafe E) (a0 a1 : U) : E 203 [a0, a1] =
 U.noTup a0 fun x1 => U.asVar true 6 x1 fun e2 => (E 133 [e2]).bind fun t3 => (U.un .not t3).bind fun t4 => U.asBool t4
 (some (.tup [(.int .i64 0), (.bool false)]))
 (U.asAgg x1 fun us5 => if 1 = sizes (us5.take 1) then (us5[1]?).bind fun e6 => U.asVar true 1 e6 fun e7 => U.asVar true 6 x1 fun e8 => (E 192 [e8]).bind fun t9 => (E 102 [e7, a1, t9]).bind fun t10 => U.part 0 t10 fun p11 => U.part 1 t10 fun p12 => U.noTup p11 fun x13 => if x13.size = 5 then (U.un .not p12).bind fun t14 => U.asBool t14
 (some (.tup [(.int .i64 0), (.bool false)]))
 (U.asAgg x13 fun us15 => if 1 = sizes (us15.take 1) then (us15[1]?).bind fun e16 => U.asVar false 1 e16 fun e17 => U.noTup e17 fun x18 => some (.tup [x18, (.bool true)]) else none) else none else none) := (h.is _ rfl).trans ((runQ_V rfl).trans (by kernel_rfl))
end Go.Proofs.YtmdnjglkdddaeaaGreat.Am
namespace Go.Proofs.YtmdnjglkdddaeaaGreat.Am
open Go
set_option linter.unusedVariables false
set_option maxRecDepth 100000
def laws_toVersion_ac : AC :=
 (.seq (.region 0 [⟨some 1, .box false 1 (.t 0), none⟩,
  ⟨some 2, .alloc 2 (.agg [(.int .i64 0), (.int .i64 0), (.int .i64 0), (.int .i64 0), (.int .i64 0)]), none⟩])
 (.seq (.region 0 [⟨some 3, .alloc 3 (.agg [(.int .i64 0), (.int .i64 0), (.int .i64 0), (.int .i64 0), (.int .i64 0)]), none⟩])
 (.seq (.region 0 [⟨some 4, .faddr 0 0 (.t 1), none⟩,
  ⟨some 5, .load false 1 (.t 4), none⟩,
  ⟨some 6, .faddr 0 0 (.t 3), none⟩,
  ⟨none, .store 1 (.t 6) (.t 5), none⟩])
 (.seq (.region 0 [⟨some 7, .faddr 1 1 (.t 1), none⟩,
  ⟨some 8, .load false 1 (.t 7), none⟩,
  ⟨some 9, .faddr 1 1 (.t 3), none⟩,
  ⟨none, .store 1 (.t 9) (.t 8), none⟩])
 (.seq (.region 0 [⟨some 10, .faddr 2 2 (.t 1), none⟩,
  ⟨some 11, .load false 1 (.t 10), none⟩,
  ⟨some 12, .faddr 2 2 (.t 3), none⟩,
  ⟨none, .store 1 (.t 12) (.t 11), none⟩])
 (.seq (.region 0 [⟨some 13, .faddr 3 3 (.t 1), none⟩,
  ⟨some 14, .load false 1 (.t 13), none⟩,
  ⟨some 15, .faddr 3 3 (.t 3), none⟩,
  ⟨none, .store 1 (.t 15) (.t 14), none⟩])
 (.seq (.region 0 [⟨some 16, .faddr 4 4 (.t 1), none⟩,
  ⟨some 17, .load false 1 (.t 16), none⟩,
  ⟨some 18, .faddr 4 4 (.t 3), none⟩,
  ⟨none, .store 1 (.t 18) (.t 17), none⟩])
 (.seq (.region 0 [⟨some 19, .load true 5 (.t 3), none⟩,
  ⟨none, .store 5 (.t 2) (.t 19), none⟩])
 .ret))))))))
structure G_laws_toVersion (E : Env) : Prop where
  is : Is E 109 1 laws_toVersion_ac [(2, some (true, 5))]
theorem laws_toVersion_E {E : Env} (h : G_laws_toVersion E) (a0 : U) : E 109 [a0] =
 U.noTup a0 fun x1 => U.asAgg x1 fun us2 => if 0 = sizes (us2.take 0) then (us2[0]?).bind fun e3 => U.asVar false 1 e3 fun e4 => if storable (.val e4) = true ∧ e4.size = 1 then U.asAgg x1 fun us5 => if 1 = sizes (us5.take 1) then (us5[1]?).bind fun e6 => U.asVar false 1 e6 fun e7 => if storable (.val e7) = true ∧ e7.size = 1 then if 1 = sizes [e4] then U.asAgg x1 fun us8 => if 2 = sizes (us8.take 2) then (us8[2]?).bind fun e9 => U.asVar false 1 e9 fun e10 => if storable (.val e10) = true ∧ e10.size = 1 then if 2 = sizes [e4, e7] then U.asAgg x1 fun us11 => if 3 = sizes (us11.take 3) then (us11[3]?).bind fun e12 => U.asVar false 1 e12 fun e13 => if storable (.val e13) = true ∧ e13.size = 1 then if 3 = sizes [e4, e7, e10] then U.asAgg x1 fun us14 => if 4 = sizes (us14.take 4) then (us14[4]?).bind fun e15 => U.asVar false 1 e15 fun e16 => if storable (.val e16) = true ∧ e16.size = 1 then if 4 = sizes [e4, e7, e10, e13] then U.asVar true 5 (.agg [e4, e7, e10, e13, e16]) fun e17 => if storable (.val e17) = true ∧ e17.size = 5 then U.asVar true 5 e17 fun e18 => some e18 else none else none else none else none else none else none else none else none else none else none else none else none else none else none else none := (h.is _ rfl).trans ((runQ_V rfl).trans (by kernel_rfl))
end Go.Proofs.YtmdnjglkdddaeaaGreat.Am
namespace Go.Proofs.YtmdnjglkdddaeaaGreat.Am
open Go
set_option linter.unusedVariables false
set_option maxRecDepth 100000
def laws_toVersionS_b0 : AC :=
 (.seq (.seq (.region 0 [⟨some 8, .mv (.t 4), none⟩,
  ⟨some 9, .mv (.t 0), none⟩,
  ⟨some 10, .len false (.t 9), none⟩,
  ⟨some 11, .bin .lss (.t 8) (.t 10), none⟩])
 (.cond (.t 11) .skip (.exit 0)))
 (.seq (.block 1 (.region 0 [⟨some 14, .mv (.t 3), none⟩,
  ⟨some 15, .mv (.t 4), none⟩,
  ⟨some 16, .mv (.t 0), none⟩,
  ⟨some 17, .mv (.t 4), none⟩,
  ⟨some 18, .iaddr 5 (.t 16) (.t 17), none⟩,
  ⟨some 19, .load true 5 (.t 18), none⟩,
  ⟨some 20, .call false 109 [(.t 19)], none⟩,
  ⟨some 21, .iaddr 5 (.t 14) (.t 15), none⟩,
  ⟨none, .store 5 (.t 21) (.t 20), none⟩]))
 (.region 0 [⟨some 12, .mv (.t 4), none⟩,
  ⟨some 13, .bin .add (.t 12) (.c (.int .i64 1)), none⟩,
  ⟨some 4, .mv (.t 13), none⟩])))
def laws_toVersionS_r0 : AC :=
 (.seq (.region 0 [⟨some 22, .mv (.t 3), none⟩,
  ⟨some 2, .mv (.t 22), none⟩])
 .ret)
def laws_toVersionS_ac : AC :=
 (.seq (.region 0 [⟨some 2, .mv (.c (.nsl 5)), none⟩])
 (.seq (.region 0 [⟨some 5, .mv (.t 0), none⟩,
  ⟨some 6, .len false (.t 5), none⟩,
  ⟨some 7, .mkslice 7 5 40 (.agg [(.int .i64 0), (.int .i64 0), (.int .i64 0), (.int .i64 0), (.int .i64 0)]) (.t 6) (.t 6), none⟩,
  ⟨some 3, .mv (.t 7), none⟩])
 (.seq (.seq (.region 0 [⟨some 4, .mv (.c (.int .i64 0)), none⟩])
 (.block 0 (.loop ⟨[0, 4], [(3, 5, false)], []⟩ laws_toVersionS_b0)))
 laws_toVersionS_r0)))
noncomputable def laws_toVersionS_l0 (E : Env) (x0 : U) (x4 : U) (c3 : List U) : Option U := loopK (roundOf E ⟨[0, 4], [(3, 5, false)], []⟩ laws_toVersionS_b0 (blockK 0 (seqK (fun s => exec E laws_toVersionS_r0 s (finish [(2, none)])) (finish [(2, none)])))) ([.val x0, .val x4], [.vir (.asl 5 c3)])
theorem laws_toVersionS_l0_eq (E : Env) (x0 : U) (x4 : U) (c3 : List U) : laws_toVersionS_l0 E x0 x4 c3 =
 (U.lenOf false x0).bind fun n2 => (U.bin .lss x4 (.int .i64 (n2 : Int))).bind fun t3 => U.asBool t3
 (U.asInt x4 fun n4 => U.elemAt 5 x0 n4 fun e5 => U.asVar true 5 e5 fun e6 => (E 109 [e6]).bind fun t7 => U.asInt x4 fun n8 => if 5 = 5 ∧ 0 ≤ n8 ∧ n8 < ((c3).length : Int) then if storable (.val t7) = true ∧ t7.size = 5 then (c3[(n8 : Int).toNat]?).bind fun e9 => if e9.size = 5 then (U.bin .add x4 (.int .i64 1)).bind fun t10 => laws_toVersionS_l0 E x0 t10 (c3.set (n8 : Int).toNat t7) else none else none else none)
 (some (.sl 5 c3)) :=
 (loop_eq E _ _ _ _).trans (by kernel_rfl)
structure G_laws_toVersionS (E : Env) : Prop where
  is : Is E 108 1 laws_toVersionS_ac [(2, none)]
  c_laws_toVersion : G_laws_toVersion E
theorem laws_toVersionS_E {E : Env} (h : G_laws_toVersionS E) (a0 : U) : E 108 [a0] =
 (U.lenOf false a0).bind fun n1 => if 0 ≤ (n1 : Int) ∧ (n1 : Int) ≤ (n1 : Int) ∧ (n1 : Int) * 40 ≤ 140737488355328 ∧ ((.agg [(.int .i64 0), (.int .i64 0), (.int .i64 0), (.int .i64 0), (.int .i64 0)]) : U).size = 5 then laws_toVersionS_l0 E a0 (.int .i64 0) (List.replicate ((n1 : Int) : Int).toNat (.agg [(.int .i64 0), (.int .i64 0), (.int .i64 0), (.int .i64 0), (.int .i64 0)])) else none := (h.is _ rfl).trans ((runQ_V rfl).trans (by kernel_rfl))
end Go.Proofs.YtmdnjglkdddaeaaGreat.Am
namespace Go.Proofs.YtmdnjglkdddaeaaGreat.Am
open Go
set_option linter.unusedVariables false
set_option maxRecDepth 100000
def laws_toVersionSS_b0 : AC :=
 (.seq (.seq (.region 0 [⟨some 8, .mv (.t 4), none⟩,
  ⟨some 9, .mv (.t 0), none⟩,
  ⟨some 10, .len false (.t 9), none⟩,
  ⟨some 11, .bin .lss (.t 8) (.t 10), none⟩])
 (.cond (.t 11) .skip (.exit 0)))
 (.seq (.block 1 (.region 0 [⟨some 14, .mv (.t 3), none⟩,
  ⟨some 15, .mv (.t 4), none⟩,
  ⟨some 16, .mv (.t 0), none⟩,
  ⟨some 17, .mv (.t 4), none⟩,
  ⟨some 18, .iaddr 1 (.t 16) (.t 17), none⟩,
  ⟨some 19, .load false 1 (.t 18), none⟩,
  ⟨some 20, .call false 108 [(.t 19)], none⟩,
  ⟨some 21, .iaddr 1 (.t 14) (.t 15), none⟩,
  ⟨none, .store 1 (.t 21) (.t 20), none⟩]))
 (.region 0 [⟨some 12, .mv (.t 4), none⟩,
  ⟨some 13, .bin .add (.t 12) (.c (.int .i64 1)), none⟩,
  ⟨some 4, .mv (.t 13), none⟩])))
def laws_toVersionSS_r0 : AC :=
 (.seq (.region 0 [⟨some 22, .mv (.t 3), none⟩,
  ⟨some 2, .mv (.t 22), none⟩])
 .ret)
def laws_toVersionSS_ac : AC :=
 (.seq (.region 0 [⟨some 2, .mv (.c (.nsl 1)), none⟩])
 (.seq (.region 0 [⟨some 5, .mv (.t 0), none⟩,
  ⟨some 6, .len false (.t 5), none⟩,
  ⟨some 7, .mkslice 7 1 24 (.nsl 5) (.t 6) (.t 6), none⟩,
  ⟨some 3, .mv (.t 7), none⟩])
 (.seq (.seq (.region 0 [⟨some 4, .mv (.c (.int .i64 0)), none⟩])
 (.block 0 (.loop ⟨[0, 4], [(3, 1, false)], []⟩ laws_toVersionSS_b0)))
 laws_toVersionSS_r0)))
noncomputable def laws_toVersionSS_l0 (E : Env) (x0 : U) (x4 : U) (c3 : List U) : Option U := loopK (roundOf E ⟨[0, 4], [(3, 1, false)], []⟩ laws_toVersionSS_b0 (blockK 0 (seqK (fun s => exec E laws_toVersionSS_r0 s (finish [(2, none)])) (finish [(2, none)])))) ([.val x0, .val x4], [.vir (.asl 1 c3)])
theorem laws_toVersionSS_l0_eq (E : Env) (x0 : U) (x4 : U) (c3 : List U) : laws_toVersionSS_l0 E x0 x4 c3 =
 (U.lenOf false x0).bind fun n2 => (U.bin .lss x4 (.int .i64 (n2 : Int))).bind fun t3 => U.asBool t3
 (U.asInt x4 fun n4 => U.elemAt 1 x0 n4 fun e5 => U.asVar false 1 e5 fun e6 => (E 108 [e6]).bind fun t7 => U.asInt x4 fun n8 => if 1 = 1 ∧ 0 ≤ n8 ∧ n8 < ((c3).length : Int) then if storable (.val t7) = true ∧ t7.size = 1 then (c3[(n8 : Int).toNat]?).bind fun e9 => if e9.size = 1 then (U.bin .add x4 (.int .i64 1)).bind fun t10 => laws_toVersionSS_l0 E x0 t10 (c3.set (n8 : Int).toNat t7) else none else none else none)
 (some (.sl 1 c3)) :=
 (loop_eq E _ _ _ _).trans (by kernel_rfl)
structure G_laws_toVersionSS (E : Env) : Prop where
  is : Is E 107 1 laws_toVersionSS_ac [(2, none)]
  c_laws_toVersionS : G_laws_toVersionS E
theorem laws_toVersionSS_E {E : Env} (h : G_laws_toVersionSS E) (a0 : U) : E 107 [a0] =
 (U.lenOf false a0).bind fun n1 => if 0 ≤ (n1 : Int) ∧ (n1 : Int) ≤ (n1 : Int) ∧ (n1 : Int) * 24 ≤ 140737488355328 ∧ ((.nsl 5) : U).size = 1 then laws_toVersionSS_l0 E a0 (.int .i64 0) (List.replicate ((n1 : Int) : Int).toNat (.nsl 5)) else none := (h.is _ rfl).trans ((runQ_V rfl).trans (by kernel_rfl))
end Go.Proofs.YtmdnjglkdddaeaaGreat.Am
namespace Go.Proofs.YtmdnjglkdddaeaaGreat.Am
open Go
set_option linter.unusedVariables false
set_option maxRecDepth 100000
def laws_toStore_ac : AC :=
 (.seq (.region 0 [⟨some 1, .box false 1 (.t 0), none⟩,
  ⟨some 2, .alloc 2 (.agg [(.nsl 1)]), none⟩])
 (.seq (.region 0 [⟨some 3, .alloc 3 (.agg [(.nsl 1)]), none⟩])
 (.seq (.region 0 [⟨some 4, .faddr 0 0 (.t 1), none⟩,
  ⟨some 5, .load false 1 (.t 4), none⟩,
  ⟨some 6, .call false 107 [(.t 5)], none⟩,
  ⟨some 7, .faddr 0 0 (.t 3), none⟩,
  ⟨none, .store 1 (.t 7) (.t 6), none⟩])
 (.seq (.region 0 [⟨some 8, .load true 1 (.t 3), none⟩,
  ⟨none, .store 1 (.t 2) (.t 8), none⟩])
 .ret))))
structure G_laws_toStore (E : Env) : Prop where
  is : Is E 93 1 laws_toStore_ac [(2, some (true, 1))]
  c_laws_toVersionSS : G_laws_toVersionSS E
theorem laws_toStore_E {E : Env} (h : G_laws_toStore E) (a0 : U) : E 93 [a0] =
 U.noTup a0 fun x1 => U.asAgg x1 fun us2 => if 0 = sizes (us2.take 0) then (us2[0]?).bind fun e3 => U.asVar false 1 e3 fun e4 => (E 107 [e4]).bind fun t5 => if storable (.val t5) = true ∧ t5.size = 1 then U.asVar true 1 (.agg [t5]) fun e6 => if storable (.val e6) = true ∧ e6.size = 1 then U.asVar true 1 e6 fun e7 => some e7 else none else none else none := (h.is _ rfl).trans ((runQ_V rfl).trans (by kernel_rfl))
end Go.Proofs.YtmdnjglkdddaeaaGreat.Am
namespace Go.Proofs.YtmdnjglkdddaeaaGreat.Am
open Go
set_option linter.unusedVariables false
set_option maxRecDepth 100000
def laws_toReadMark_ac : AC :=
 (.seq (.region 0 [⟨some 1, .box false 1 (.t 0), none⟩,
  ⟨some 2, .alloc 2 (.agg [(.int .i64 0), (.int .i64 0)]), none⟩])
 (.seq (.region 0 [⟨some 3, .alloc 3 (.agg [(.int .i64 0), (.int .i64 0)]), none⟩])
 (.seq (.region 0 [⟨some 4, .faddr 0 0 (.t 1), none⟩,
  ⟨some 5, .load false 1 (.t 4), none⟩,
  ⟨some 6, .faddr 0 0 (.t 3), none⟩,
  ⟨none, .store 1 (.t 6) (.t 5), none⟩])
 (.seq (.region 0 [⟨some 7, .faddr 1 1 (.t 1), none⟩,
  ⟨some 8, .load false 1 (.t 7), none⟩,
  ⟨some 9, .faddr 1 1 (.t 3), none⟩,
  ⟨none, .store 1 (.t 9) (.t 8), none⟩])
 (.seq (.region 0 [⟨some 10, .load true 2 (.t 3), none⟩,
  ⟨none, .store 2 (.t 2) (.t 10), none⟩])
 .ret)))))
structure G_laws_toReadMark (E : Env) : Prop where
  is : Is E 29 1 laws_toReadMark_ac [(2, some (true, 2))]
theorem laws_toReadMark_E {E : Env} (h : G_laws_toReadMark E) (a0 : U) : E 29 [a0] =
 U.noTup a0 fun x1 => U.asAgg x1 fun us2 => if 0 = sizes (us2.take 0) then (us2[0]?).bind fun e3 => U.asVar false 1 e3 fun e4 => if storable (.val e4) = true ∧ e4.size = 1 then U.asAgg x1 fun us5 => if 1 = sizes (us5.take 1) then (us5[1]?).bind fun e6 => U.asVar false 1 e6 fun e7 => if storable (.val e7) = true ∧ e7.size = 1 then if 1 = sizes [e4] then U.asVar true 2 (.agg [e4, e7]) fun e8 => if storable (.val e8) = true ∧ e8.size = 2 then U.asVar true 2 e8 fun e9 => some e9 else none else none else none else none else none else none := (h.is _ rfl).trans ((runQ_V rfl).trans (by kernel_rfl))
end Go.Proofs.YtmdnjglkdddaeaaGreat.Am
namespace Go.Proofs.YtmdnjglkdddaeaaGreat.Am
open Go
set_option linter.unusedVariables false
set_option maxRecDepth 100000
def laws_toReadMarkS_b0 : AC :=
 (.seq (.seq (.region 0 [⟨some 8, .mv (.t 4), none⟩,
  ⟨some 9, .mv (.t 0), none⟩,
  ⟨some 10, .len false (.t 9), none⟩,
  ⟨some 11, .bin .lss (.t 8) (.t 10), none⟩])
 (.cond (.t 11) .skip (.exit 0)))
 (.seq (.block 1 (.region 0 [⟨some 14, .mv (.t 3), none⟩,
  ⟨some 15, .mv (.t 4), none⟩,
  ⟨some 16, .mv (.t 0), none⟩,
  ⟨some 17, .mv (.t 4), none⟩,
  ⟨some 18, .iaddr 2 (.t 16) (.t 17), none⟩,
  ⟨some 19, .load true 2 (.t 18), none⟩,
  ⟨some 20, .call false 29 [(.t 19)], none⟩,
  ⟨some 21, .iaddr 2 (.t 14) (.t 15), none⟩,
  ⟨none, .store 2 (.t 21) (.t 20), none⟩]))
 (.region 0 [⟨some 12, .mv (.t 4), none⟩,
  ⟨some 13, .bin .add (.t 12) (.c (.int .i64 1)), none⟩,
  ⟨some 4, .mv (.t 13), none⟩])))
def laws_toReadMarkS_r0 : AC :=
 (.seq (.region 0 [⟨some 22, .mv (.t 3), none⟩,
  ⟨some 2, .mv (.t 22), none⟩])
 .ret)
def laws_toReadMarkS_ac : AC :=
 (.seq (.region 0 [⟨some 2, .mv (.c (.nsl 2)), none⟩])
 (.seq (.region 0 [⟨some 5, .mv (.t 0), none⟩,
  ⟨some 6, .len false (.t 5), none⟩,
  ⟨some 7, .mkslice 7 2 16 (.agg [(.int .i64 0), (.int .i64 0)]) (.t 6) (.t 6), none⟩,
  ⟨some 3, .mv (.t 7), none⟩])
 (.seq (.seq (.region 0 [⟨some 4, .mv (.c (.int .i64 0)), none⟩])
 (.block 0 (.loop ⟨[0, 4], [(3, 2, false)], []⟩ laws_toReadMarkS_b0)))
 laws_toReadMarkS_r0)))
noncomputable def laws_toReadMarkS_l0 (E : Env) (x0 : U) (x4 : U) (c3 : List U) : Option U := loopK (roundOf E ⟨[0, 4], [(3, 2, false)], []⟩ laws_toReadMarkS_b0 (blockK 0 (seqK (fun s => exec E laws_toReadMarkS_r0 s (finish [(2, none)])) (finish [(2, none)])))) ([.val x0, .val x4], [.vir (.asl 2 c3)])
theorem laws_toReadMarkS_l0_eq (E : Env) (x0 : U) (x4 : U) (c3 : List U) : laws_toReadMarkS_l0 E x0 x4 c3 =
 (U.lenOf false x0).bind fun n2 => (U.bin .lss x4 (.int .i64 (n2 : Int))).bind fun t3 => U.asBool t3
 (U.asInt x4 fun n4 => U.elemAt 2 x0 n4 fun e5 => U.asVar true 2 e5 fun e6 => (E 29 [e6]).bind fun t7 => U.asInt x4 fun n8 => if 2 = 2 ∧ 0 ≤ n8 ∧ n8 < ((c3).length : Int) then if storable (.val t7) = true ∧ t7.size = 2 then (c3[(n8 : Int).toNat]?).bind fun e9 => if e9.size = 2 then (U.bin .add x4 (.int .i64 1)).bind fun t10 => laws_toReadMarkS_l0 E x0 t10 (c3.set (n8 : Int).toNat t7) else none else none else none)
 (some (.sl 2 c3)) :=
 (loop_eq E _ _ _ _).trans (by kernel_rfl)
structure G_laws_toReadMarkS (E : Env) : Prop where
  is : Is E 28 1 laws_toReadMarkS_ac [(2, none)]
  c_laws_toReadMark : G_laws_toReadMark E
theorem laws_toReadMarkS_E {E : Env} (h : G_laws_toReadMarkS E) (a0 : U) : E 28 [a0] =
 (U.lenOf false a0).bind fun n1 => if 0 ≤ (n1 : Int) ∧ (n1 : Int) ≤ (n1 : Int) ∧ (n1 : Int) * 16 ≤ 140737488355328 ∧ ((.agg [(.int .i64 0), (.int .i64 0)]) : U).size = 2 then laws_toReadMarkS_l0 E a0 (.int .i64 0) (List.replicate ((n1 : Int) : Int).toNat (.agg [(.int .i64 0), (.int .i64 0)])) else none := (h.is _ rfl).trans ((runQ_V rfl).trans (by kernel_rfl))
end Go.Proofs.YtmdnjglkdddaeaaGreat.Am
namespace Go.Proofs.YtmdnjglkdddaeaaGreat.Am
open Go
set_option linter.unusedVariables false
set_option maxRecDepth 100000
def laws_toWrite_ac : AC :=
 (.seq (.region 0 [⟨some 1, .box false 1 (.t 0), none⟩,
  ⟨some 2, .alloc 2 (.agg [(.int .i64 0), (.int .i64 0)]), none⟩])
 (.seq (.region 0 [⟨some 3, .alloc 3 (.agg [(.int .i64 0), (.int .i64 0)]), none⟩])
 (.seq (.region 0 [⟨some 4, .faddr 0 0 (.t 1), none⟩,
  ⟨some 5, .load false 1 (.t 4), none⟩,
  ⟨some 6, .faddr 0 0 (.t 3), none⟩,
  ⟨none, .store 1 (.t 6) (.t 5), none⟩])
 (.seq (.region 0 [⟨some 7, .faddr 1 1 (.t 1), none⟩,
  ⟨some 8, .load false 1 (.t 7), none⟩,
  ⟨some 9, .faddr 1 1 (.t 3), none⟩,
  ⟨none, .store 1 (.t 9) (.t 8), none⟩])
 (.seq (.region 0 [⟨some 10, .load true 2 (.t 3), none⟩,
  ⟨none, .store 2 (.t 2) (.t 10), none⟩])
 .ret)))))
structure G_laws_toWrite (E : Env) : Prop where
  is : Is E 30 1 laws_toWrite_ac [(2, some (true, 2))]
theorem laws_toWrite_E {E : Env} (h : G_laws_toWrite E) (a0 : U) : E 30 [a0] =
 U.noTup a0 fun x1 => U.asAgg x1 fun us2 => if 0 = sizes (us2.take 0) then (us2[0]?).bind fun e3 => U.asVar false 1 e3 fun e4 => if storable (.val e4) = true ∧ e4.size = 1 then U.asAgg x1 fun us5 => if 1 = sizes (us5.take 1) then (us5[1]?).bind fun e6 => U.asVar false 1 e6 fun e7 => if storable (.val e7) = true ∧ e7.size = 1 then if 1 = sizes [e4] then U.asVar true 2 (.agg [e4, e7]) fun e8 => if storable (.val e8) = true ∧ e8.size = 2 then U.asVar true 2 e8 fun e9 => some e9 else none else none else none else none else none else none := (h.is _ rfl).trans ((runQ_V rfl).trans (by kernel_rfl))
end Go.Proofs.YtmdnjglkdddaeaaGreat.Am
namespace Go.Proofs.YtmdnjglkdddaeaaGreat.Am
open Go
set_option linter.unusedVariables false
set_option maxRecDepth 100000
def laws_toWriteS_b0 : AC :=
 (.seq (.seq (.region 0 [⟨some 8, .mv (.t 4), none⟩,
  ⟨some 9, .mv (.t 0), none⟩,
  ⟨some 10, .len false (.t 9), none⟩,
  ⟨some 11, .bin .lss (.t 8) (.t 10), none⟩])
 (.cond (.t 11) .skip (.exit 0)))
 (.seq (.block 1 (.region 0 [⟨some 14, .mv (.t 3), none⟩,
  ⟨some 15, .mv (.t 4), none⟩,
  ⟨some 16, .mv (.t 0), none⟩,
  ⟨some 17, .mv (.t 4), none⟩,
  ⟨some 18, .iaddr 2 (.t 16) (.t 17), none⟩,
  ⟨some 19, .load true 2 (.t 18), none⟩,
  ⟨some 20, .call false 30 [(.t 19)], none⟩,
  ⟨some 21, .iaddr 2 (.t 14) (.t 15), none⟩,
  ⟨none, .store 2 (.t 21) (.t 20), none⟩]))
 (.region 0 [⟨some 12, .mv (.t 4), none⟩,
  ⟨some 13, .bin .add (.t 12) (.c (.int .i64 1)), none⟩,
  ⟨some 4, .mv (.t 13), none⟩])))
def laws_toWriteS_r0 : AC :=
 (.seq (.region 0 [⟨some 22, .mv (.t 3), none⟩,
  ⟨some 2, .mv (.t 22), none⟩])
 .ret)
def laws_toWriteS_ac : AC :=
 (.seq (.region 0 [⟨some 2, .mv (.c (.nsl 2)), none⟩])
 (.seq (.region 0 [⟨some 5, .mv (.t 0), none⟩,
  ⟨some 6, .len false (.t 5), none⟩,
  ⟨some 7, .mkslice 7 2 16 (.agg [(.int .i64 0), (.int .i64 0)]) (.t 6) (.t 6), none⟩,
  ⟨some 3, .mv (.t 7), none⟩])
 (.seq (.seq (.region 0 [⟨some 4, .mv (.c (.int .i64 0)), none⟩])
 (.block 0 (.loop ⟨[0, 4], [(3, 2, false)], []⟩ laws_toWriteS_b0)))
 laws_toWriteS_r0)))
noncomputable def laws_toWriteS_l0 (E : Env) (x0 : U) (x4 : U) (c3 : List U) : Option U := loopK (roundOf E ⟨[0, 4], [(3, 2, false)], []⟩ laws_toWriteS_b0 (blockK 0 (seqK (fun s => exec E laws_toWriteS_r0 s (finish [(2, none)])) (finish [(2, none)])))) ([.val x0, .val x4], [.vir (.asl 2 c3)])
theorem laws_toWriteS_l0_eq (E : Env) (x0 : U) (x4 : U) (c3 : List U) : laws_toWriteS_l0 E x0 x4 c3 =
 (U.lenOf false x0).bind fun n2 => (U.bin .lss x4 (.int .i64 (n2 : Int))).bind fun t3 => U.asBool t3
 (U.asInt x4 fun n4 => U.elemAt 2 x0 n4 fun e5 => U.asVar true 2 e5 fun e6 => (E 30 [e6]).bind fun t7 => U.asInt x4 fun n8 => if 2 = 2 ∧ 0 ≤ n8 ∧ n8 < ((c3).length : Int) then if storable (.val t7) = true ∧ t7.size = 2 then (c3[(n8 : Int).toNat]?).bind fun e9 => if e9.size = 2 then (U.bin .add x4 (.int .i64 1)).bind fun t10 => laws_toWriteS_l0 E x0 t10 (c3.set (n8 : Int).toNat t7) else none else none else none)
 (some (.sl 2 c3)) :=
 (loop_eq E _ _ _ _).trans (by kernel_rfl)
structure G_laws_toWriteS (E : Env) : Prop where
  is : Is E 27 1 laws_toWriteS_ac [(2, none)]
  c_laws_toWrite : G_laws_toWrite E
theorem laws_toWriteS_E {E : Env} (h : G_laws_toWriteS E) (a0 : U) : E 27 [a0] =
 (U.lenOf false a0).bind fun n1 => if 0 ≤ (n1 : Int) ∧ (n1 : Int) ≤ (n1 : Int) ∧ (n1 : Int) * 16 ≤ 140737488355328 ∧ ((.agg [(.int .i64 0), (.int .i64 0)]) : U).size = 2 then laws_toWriteS_l0 E a0 (.int .i64 0) (List.replicate ((n1 : Int) : Int).toNat (.agg [(.int .i64 0), (.int .i64 0)])) else none := (h.is _ rfl).trans ((runQ_V rfl).trans (by kernel_rfl))
end Go.Proofs.YtmdnjglkdddaeaaGreat.Am
namespace Go.Proofs.YtmdnjglkdddaeaaGreat.Am
open Go
set_option linter.unusedVariables false
set_option maxRecDepth 100000
def laws_toTransaction_ac : AC :=
 (.seq (.region 0 [⟨some 1, .box false 1 (.t 0), none⟩,
  ⟨some 2, .alloc 2 (.agg [(.int .i64 0), (.int .i64 0), (.int .i64 0), (.int .i64 0), (.int .i64 0), (.int .i64 0), (.int .i64 0), (.nsl 2), (.nsl 2)]), none⟩])
 (.seq (.region 0 [⟨some 3, .alloc 3 (.agg [(.int .i64 0), (.int .i64 0), (.int .i64 0), (.int .i64 0), (.int .i64 0), (.int .i64 0), (.int .i64 0), (.nsl 2), (.nsl 2)]), none⟩])
 (.seq (.region 0 [⟨some 4, .faddr 0 0 (.t 1), none⟩,
  ⟨some 5, .load false 1 (.t 4), none⟩,
  ⟨some 6, .faddr 0 0 (.t 3), none⟩,
  ⟨none, .store 1 (.t 6) (.t 5), none⟩])
 (.seq (.region 0 [⟨some 7, .faddr 1 1 (.t 1), none⟩,
  ⟨some 8, .load false 1 (.t 7), none⟩,
  ⟨some 9, .faddr 1 1 (.t 3), none⟩,
  ⟨none, .store 1 (.t 9) (.t 8), none⟩])
 (.seq (.region 0 [⟨some 10, .faddr 2 2 (.t 1), none⟩,
  ⟨some 11, .load false 1 (.t 10), none⟩,
  ⟨some 12, .faddr 2 2 (.t 3), none⟩,
  ⟨none, .store 1 (.t 12) (.t 11), none⟩])
 (.seq (.region 0 [⟨some 13, .faddr 3 3 (.t 1), none⟩,
  ⟨some 14, .load false 1 (.t 13), none⟩,
  ⟨some 15, .faddr 3 3 (.t 3), none⟩,
  ⟨none, .store 1 (.t 15) (.t 14), none⟩])
 (.seq (.region 0 [⟨some 16, .faddr 4 4 (.t 1), none⟩,
  ⟨some 17, .load false 1 (.t 16), none⟩,
  ⟨some 18, .faddr 4 4 (.t 3), none⟩,
  ⟨none, .store 1 (.t 18) (.t 17), none⟩])
 (.seq (.region 0 [⟨some 19, .faddr 5 5 (.t 1), none⟩,
  ⟨some 20, .load false 1 (.t 19), none⟩,
  ⟨some 21, .faddr 5 5 (.t 3), none⟩,
  ⟨none, .store 1 (.t 21) (.t 20), none⟩])
 (.seq (.region 0 [⟨some 22, .faddr 6 6 (.t 1), none⟩,
  ⟨some 23, .load false 1 (.t 22), none⟩,
  ⟨some 24, .faddr 6 6 (.t 3), none⟩,
  ⟨none, .store 1 (.t 24) (.t 23), none⟩])
 (.seq (.region 0 [⟨some 25, .faddr 7 7 (.t 1), none⟩,
  ⟨some 26, .load false 1 (.t 25), none⟩,
  ⟨some 27, .call false 28 [(.t 26)], none⟩,
  ⟨some 28, .faddr 7 7 (.t 3), none⟩,
  ⟨none, .store 1 (.t 28) (.t 27), none⟩])
 (.seq (.region 0 [⟨some 29, .faddr 8 8 (.t 1), none⟩,
  ⟨some 30, .load false 1 (.t 29), none⟩,
  ⟨some 31, .call false 27 [(.t 30)], none⟩,
  ⟨some 32, .faddr 8 8 (.t 3), none⟩,
  ⟨none, .store 1 (.t 32) (.t 31), none⟩])
 (.seq (.region 0 [⟨some 33, .load true 9 (.t 3), none⟩,
  ⟨none, .store 9 (.t 2) (.t 33), none⟩])
 .ret))))))))))))
structure G_laws_toTransaction (E : Env) : Prop where
  is : Is E 145 1 laws_toTransaction_ac [(2, some (true, 9))]
  c_laws_toReadMarkS : G_laws_toReadMarkS E
  c_laws_toWriteS : G_laws_toWriteS E
theorem laws_toTransaction_E {E : Env} (h : G_laws_toTransaction E) (a0 : U) : E 145 [a0] =
 U.noTup a0 fun x1 => U.asAgg x1 fun us2 => if 0 = sizes (us2.take 0) then (us2[0]?).bind fun e3 => U.asVar false 1 e3 fun e4 => if storable (.val e4) = true ∧ e4.size = 1 then U.asAgg x1 fun us5 => if 1 = sizes (us5.take 1) then (us5[1]?).bind fun e6 => U.asVar false 1 e6 fun e7 => if storable (.val e7) = true ∧ e7.size = 1 then if 1 = sizes [e4] then U.asAgg x1 fun us8 => if 2 = sizes (us8.take 2) then (us8[2]?).bind fun e9 => U.asVar false 1 e9 fun e10 => if storable (.val e10) = true ∧ e10.size = 1 then if 2 = sizes [e4, e7] then U.asAgg x1 fun us11 => if 3 = sizes (us11.take 3) then (us11[3]?).bind fun e12 => U.asVar false 1 e12 fun e13 => if storable (.val e13) = true ∧ e13.size = 1 then if 3 = sizes [e4, e7, e10] then U.asAgg x1 fun us14 => if 4 = sizes (us14.take 4) then (us14[4]?).bind fun e15 => U.asVar false 1 e15 fun e16 => if storable (.val e16) = true ∧ e16.size = 1 then if 4 = sizes [e4, e7, e10, e13] then U.asAgg x1 fun us17 => if 5 = sizes (us17.take 5) then (us17[5]?).bind fun e18 => U.asVar false 1 e18 fun e19 => if storable (.val e19) = true ∧ e19.size = 1 then if 5 = sizes [e4, e7, e10, e13, e16] then U.asAgg x1 fun us20 => if 6 = sizes (us20.take 6) then (us20[6]?).bind fun e21 => U.asVar false 1 e21 fun e22 => if storable (.val e22) = true ∧ e22.size = 1 then if 6 = sizes [e4, e7, e10, e13, e16, e19] then U.asAgg x1 fun us23 => if 7 = sizes (us23.take 7) then (us23[7]?).bind fun e24 => U.asVar false 1 e24 fun e25 => (E 28 [e25]).bind fun t26 => if storable (.val t26) = true ∧ t26.size = 1 then if 7 = sizes [e4, e7, e10, e13, e16, e19, e22] then U.asAgg x1 fun us27 => if 8 = sizes (us27.take 8) then (us27[8]?).bind fun e28 => U.asVar false 1 e28 fun e29 => (E 27 [e29]).bind fun t30 => if storable (.val t30) = true ∧ t30.size = 1 then if 8 = sizes [e4, e7, e10, e13, e16, e19, e22, t26] then U.asVar true 9 (.agg [e4, e7, e10, e13, e16, e19, e22, t26, t30]) fun e31 => if storable (.val e31) = true ∧ e31.size = 9 then U.asVar true 9 e31 fun e32 => some e32 else none else none else none else none else none else none else none else none else none else none else none else none else none else none else none else none else none else none else none else none else none else none else none else none else none else none else none := (h.is _ rfl).trans ((runQ_V rfl).trans (by kernel_rfl))
end Go.Proofs.YtmdnjglkdddaeaaGreat.Am
namespace Go.Proofs.YtmdnjglkdddaeaaGreat.Am
open Go
set_option linter.unusedVariables false
set_option maxRecDepth 100000
def laws_toTransactionS_b0 : AC :=
 (.seq (.seq (.region 0 [⟨some 8, .mv (.t 4), none⟩,
  ⟨some 9, .mv (.t 0), none⟩,
  ⟨some 10, .len false (.t 9), none⟩,
  ⟨some 11, .bin .lss (.t 8) (.t 10), none⟩])
 (.cond (.t 11) .skip (.exit 0)))
 (.seq (.block 1 (.region 0 [⟨some 14, .mv (.t 3), none⟩,
  ⟨some 15, .mv (.t 4), none⟩,
  ⟨some 16, .mv (.t 0), none⟩,
  ⟨some 17, .mv (.t 4), none⟩,
  ⟨some 18, .iaddr 9 (.t 16) (.t 17), none⟩,
  ⟨some 19, .load true 9 (.t 18), none⟩,
  ⟨some 20, .call false 145 [(.t 19)], none⟩,
  ⟨some 21, .iaddr 9 (.t 14) (.t 15), none⟩,
  ⟨none, .store 9 (.t 21) (.t 20), none⟩]))
 (.region 0 [⟨some 12, .mv (.t 4), none⟩,
  ⟨some 13, .bin .add (.t 12) (.c (.int .i64 1)), none⟩,
  ⟨some 4, .mv (.t 13), none⟩])))
def laws_toTransactionS_r0 : AC :=
 (.seq (.region 0 [⟨some 22, .mv (.t 3), none⟩,
  ⟨some 2, .mv (.t 22), none⟩])
 .ret)
def laws_toTransactionS_ac : AC :=
 (.seq (.region 0 [⟨some 2, .mv (.c (.nsl 9)), none⟩])
 (.seq (.region 0 [⟨some 5, .mv (.t 0), none⟩,
  ⟨some 6, .len false (.t 5), none⟩,
  ⟨some 7, .mkslice 7 9 104 (.agg [(.int .i64 0), (.int .i64 0), (.int .i64 0), (.int .i64 0), (.int .i64 0), (.int .i64 0), (.int .i64 0), (.nsl 2), (.nsl 2)]) (.t 6) (.t 6), none⟩,
  ⟨some 3, .mv (.t 7), none⟩])
 (.seq (.seq (.region 0 [⟨some 4, .mv (.c (.int .i64 0)), none⟩])
 (.block 0 (.loop ⟨[0, 4], [(3, 9, false)], []⟩ laws_toTransactionS_b0)))
 laws_toTransactionS_r0)))
noncomputable def laws_toTransactionS_l0 (E : Env) (x0 : U) (x4 : U) (c3 : List U) : Option U := loopK (roundOf E ⟨[0, 4], [(3, 9, false)], []⟩ laws_toTransactionS_b0 (blockK 0 (seqK (fun s => exec E laws_toTransactionS_r0 s (finish [(2, none)])) (finish [(2, none)])))) ([.val x0, .val x4], [.vir (.asl 9 c3)])
theorem laws_toTransactionS_l0_eq (E : Env) (x0 : U) (x4 : U) (c3 : List U) : laws_toTransactionS_l0 E x0 x4 c3 =
 (U.lenOf false x0).bind fun n2 => (U.bin .lss x4 (.int .i64 (n2 : Int))).bind fun t3 => U.asBool t3
 (U.asInt x4 fun n4 => U.elemAt 9 x0 n4 fun e5 => U.asVar true 9 e5 fun e6 => (E 145 [e6]).bind fun t7 => U.asInt x4 fun n8 => if 9 = 9 ∧ 0 ≤ n8 ∧ n8 < ((c3).length : Int) then if storable (.val t7) = true ∧ t7.size = 9 then (c3[(n8 : Int).toNat]?).bind fun e9 => if e9.size = 9 then (U.bin .add x4 (.int .i64 1)).bind fun t10 => laws_toTransactionS_l0 E x0 t10 (c3.set (n8 : Int).toNat t7) else none else none else none)
 (some (.sl 9 c3)) :=
 (loop_eq E _ _ _ _).trans (by kernel_rfl)
structure G_laws_toTransactionS (E : Env) : Prop where
  is : Is E 144 1 laws_toTransactionS_ac [(2, none)]
  c_laws_toTransaction : G_laws_toTransaction E
theorem laws_toTransactionS_E {E : Env} (h : G_laws_toTransactionS E) (a0 : U) : E 144 [a0] =
 (U.lenOf false a0).bind fun n1 => if 0 ≤ (n1 : Int) ∧ (n1 : Int) ≤ (n1 : Int) ∧ (n1 : Int) * 104 ≤ 140737488355328 ∧ ((.agg [(.int .i64 0), (.int .i64 0), (.int .i64 0), (.int .i64 0), (.int .i64 0), (.int .i64 0), (.int .i64 0), (.nsl 2), (.nsl 2)]) : U).size = 9 then laws_toTransactionS_l0 E a0 (.int .i64 0) (List.replicate ((n1 : Int) : Int).toNat (.agg [(.int .i64 0), (.int .i64 0), (.int .i64 0), (.int .i64 0), (.int .i64 0), (.int .i64 0), (.int .i64 0), (.nsl 2), (.nsl 2)])) else none := (h.is _ rfl).trans ((runQ_V rfl).trans (by kernel_rfl))
end Go.Proofs.YtmdnjglkdddaeaaGreat.Am
namespace Go.Proofs.YtmdnjglkdddaeaaGreat.Am
open Go
set_option linter.unusedVariables false
set_option maxRecDepth 100000
def laws_toLock_ac : AC :=
 (.seq (.region 0 [⟨some 1, .box false 1 (.t 0), none⟩,
  ⟨some 2, .alloc 2 (.agg [(.int .i64 0), (.int .i64 0)]), none⟩])
 (.seq (.region 0 [⟨some 3, .alloc 3 (.agg [(.int .i64 0), (.int .i64 0)]), none⟩])
 (.seq (.region 0 [⟨some 4, .faddr 0 0 (.t 1), none⟩,
  ⟨some 5, .load false 1 (.t 4), none⟩,
  ⟨some 6, .faddr 0 0 (.t 3), none⟩,
  ⟨none, .store 1 (.t 6) (.t 5), none⟩])
 (.seq (.region 0 [⟨some 7, .faddr 1 1 (.t 1), none⟩,
  ⟨some 8, .load false 1 (.t 7), none⟩,
  ⟨some 9, .faddr 1 1 (.t 3), none⟩,
  ⟨none, .store 1 (.t 9) (.t 8), none⟩])
 (.seq (.region 0 [⟨some 10, .load true 2 (.t 3), none⟩,
  ⟨none, .store 2 (.t 2) (.t 10), none⟩])
 .ret)))))
structure G_laws_toLock (E : Env) : Prop where
  is : Is E 146 1 laws_toLock_ac [(2, some (true, 2))]
theorem laws_toLock_E {E : Env} (h : G_laws_toLock E) (a0 : U) : E 146 [a0] =
 U.noTup a0 fun x1 => U.asAgg x1 fun us2 => if 0 = sizes (us2.take 0) then (us2[0]?).bind fun e3 => U.asVar false 1 e3 fun e4 => if storable (.val e4) = true ∧ e4.size = 1 then U.asAgg x1 fun us5 => if 1 = sizes (us5.take 1) then (us5[1]?).bind fun e6 => U.asVar false 1 e6 fun e7 => if storable (.val e7) = true ∧ e7.size = 1 then if 1 = sizes [e4] then U.asVar true 2 (.agg [e4, e7]) fun e8 => if storable (.val e8) = true ∧ e8.size = 2 then U.asVar true 2 e8 fun e9 => some e9 else none else none else none else none else none else none := (h.is _ rfl).trans ((runQ_V rfl).trans (by kernel_rfl))
end Go.Proofs.YtmdnjglkdddaeaaGreat.Am
namespace Go.Proofs.YtmdnjglkdddaeaaGreat.Am
open Go
set_option linter.unusedVariables false
set_option maxRecDepth 100000
def laws_toLockS_b0 : AC :=
 (.seq (.seq (.region 0 [⟨some 8, .mv (.t 4), none⟩,
  ⟨some 9, .mv (.t 0), none⟩,
  ⟨some 10, .len false (.t 9), none⟩,
  ⟨some 11, .bin .lss (.t 8) (.t 10), none⟩])
 (.cond (.t 11) .skip (.exit 0)))
 (.seq (.block 1 (.region 0 [⟨some 14, .mv (.t 3), none⟩,
  ⟨some 15, .mv (.t 4), none⟩,
  ⟨some 16, .mv (.t 0), none⟩,
  ⟨some 17, .mv (.t 4), none⟩,
  ⟨some 18, .iaddr 2 (.t 16) (.t 17), none⟩,
  ⟨some 19, .load true 2 (.t 18), none⟩,
  ⟨some 20, .call false 146 [(.t 19)], none⟩,
  ⟨some 21, .iaddr 2 (.t 14) (.t 15), none⟩,
  ⟨none, .store 2 (.t 21) (.t 20), none⟩]))
 (.region 0 [⟨some 12, .mv (.t 4), none⟩,
  ⟨some 13, .bin .add (.t 12) (.c (.int .i64 1)), none⟩,
  ⟨some 4, .mv (.t 13), none⟩])))
def laws_toLockS_r0 : AC :=
 (.seq (.region 0 [⟨some 22, .mv (.t 3), none⟩,
  ⟨some 2, .mv (.t 22), none⟩])
 .ret)
def laws_toLockS_ac : AC :=
 (.seq (.region 0 [⟨some 2, .mv (.c (.nsl 2)), none⟩])
 (.seq (.region 0 [⟨some 5, .mv (.t 0), none⟩,
  ⟨some 6, .len false (.t 5), none⟩,
  ⟨some 7, .mkslice 7 2 16 (.agg [(.int .i64 0), (.int .i64 0)]) (.t 6) (.t 6), none⟩,
  ⟨some 3, .mv (.t 7), none⟩])
 (.seq (.seq (.region 0 [⟨some 4, .mv (.c (.int .i64 0)), none⟩])
 (.block 0 (.loop ⟨[0, 4], [(3, 2, false)], []⟩ laws_toLockS_b0)))
 laws_toLockS_r0)))
noncomputable def laws_toLockS_l0 (E : Env) (x0 : U) (x4 : U) (c3 : List U) : Option U := loopK (roundOf E ⟨[0, 4], [(3, 2, false)], []⟩ laws_toLockS_b0 (blockK 0 (seqK (fun s => exec E laws_toLockS_r0 s (finish [(2, none)])) (finish [(2, none)])))) ([.val x0, .val x4], [.vir (.asl 2 c3)])
theorem laws_toLockS_l0_eq (E : Env) (x0 : U) (x4 : U) (c3 : List U) : laws_toLockS_l0 E x0 x4 c3 =
 (U.lenOf false x0).bind fun n2 => (U.bin .lss x4 (.int .i64 (n2 : Int))).bind fun t3 => U.asBool t3
 (U.asInt x4 fun n4 => U.elemAt 2 x0 n4 fun e5 => U.asVar true 2 e5 fun e6 => (E 146 [e6]).bind fun t7 => U.asInt x4 fun n8 => if 2 = 2 ∧ 0 ≤ n8 ∧ n8 < ((c3).length : Int) then if storable (.val t7) = true ∧ t7.size = 2 then (c3[(n8 : Int).toNat]?).bind fun e9 => if e9.size = 2 then (U.bin .add x4 (.int .i64 1)).bind fun t10 => laws_toLockS_l0 E x0 t10 (c3.set (n8 : Int).toNat t7) else none else none else none)
 (some (.sl 2 c3)) :=
 (loop_eq E _ _ _ _).trans (by kernel_rfl)
structure G_laws_toLockS (E : Env) : Prop where
  is : Is E 143 1 laws_toLockS_ac [(2, none)]
  c_laws_toLock : G_laws_toLock E
theorem laws_toLockS_E {E : Env} (h : G_laws_toLockS E) (a0 : U) : E 143 [a0] =
 (U.lenOf false a0).bind fun n1 => if 0 ≤ (n1 : Int) ∧ (n1 : Int) ≤ (n1 : Int) ∧ (n1 : Int) * 16 ≤ 140737488355328 ∧ ((.agg [(.int .i64 0), (.int .i64 0)]) : U).size = 2 then laws_toLockS_l0 E a0 (.int .i64 0) (List.replicate ((n1 : Int) : Int).toNat (.agg [(.int .i64 0), (.int .i64 0)])) else none := (h.is _ rfl).trans ((runQ_V rfl).trans (by kernel_rfl))
end Go.Proofs.YtmdnjglkdddaeaaGreat.Am
namespace Go.Proofs.YtmdnjglkdddaeaaGreat.Am
open Go
set_option linter.unusedVariables false
set_option maxRecDepth 100000
def laws_toWait_ac : AC :=
 (.seq (.region 0 [⟨some 1, .box false 1 (.t 0), none⟩,
  ⟨some 2, .alloc 2 (.agg [(.int .i64 0), (.int .i64 0)]), none⟩])
 (.seq (.region 0 [⟨some 3, .alloc 3 (.agg [(.int .i64 0), (.int .i64 0)]), none⟩])
 (.seq (.region 0 [⟨some 4, .faddr 0 0 (.t 1), none⟩,
  ⟨some 5, .load false 1 (.t 4), none⟩,
  ⟨some 6, .faddr 0 0 (.t 3), none⟩,
  ⟨none, .store 1 (.t 6) (.t 5), none⟩])
 (.seq (.region 0 [⟨some 7, .faddr 1 1 (.t 1), none⟩,
  ⟨some 8, .load false 1 (.t 7), none⟩,
  ⟨some 9, .faddr 1 1 (.t 3), none⟩,
  ⟨none, .store 1 (.t 9) (.t 8), none⟩])
 (.seq (.region 0 [⟨some 10, .load true 2 (.t 3), none⟩,
  ⟨none, .store 2 (.t 2) (.t 10), none⟩])
 .ret)))))
structure G_laws_toWait (E : Env) : Prop where
  is : Is E 147 1 laws_toWait_ac [(2, some (true, 2))]
theorem laws_toWait_E {E : Env} (h : G_laws_toWait E) (a0 : U) : E 147 [a0] =
 U.noTup a0 fun x1 => U.asAgg x1 fun us2 => if 0 = sizes (us2.take 0) then (us2[0]?).bind fun e3 => U.asVar false 1 e3 fun e4 => if storable (.val e4) = true ∧ e4.size = 1 then U.asAgg x1 fun us5 => if 1 = sizes (us5.take 1) then (us5[1]?).bind fun e6 => U.asVar false 1 e6 fun e7 => if storable (.val e7) = true ∧ e7.size = 1 then if 1 = sizes [e4] then U.asVar true 2 (.agg [e4, e7]) fun e8 => if storable (.val e8) = true ∧ e8.size = 2 then U.asVar true 2 e8 fun e9 => some e9 else none else none else none else none else none else none := (h.is _ rfl).trans ((runQ_V rfl).trans (by kernel_rfl))
end Go.Proofs.YtmdnjglkdddaeaaGreat.Am
namespace Go.Proofs.YtmdnjglkdddaeaaGreat.Am
open Go
set_option linter.unusedVariables false
set_option maxRecDepth 100000
def laws_toWaitS_b0 : AC :=
 (.seq (.seq (.region 0 [⟨some 8, .mv (.t 4), none⟩,
  ⟨some 9, .mv (.t 0), none⟩,
  ⟨some 10, .len false (.t 9), none⟩,
  ⟨some 11, .bin .lss (.t 8) (.t 10), none⟩])
 (.cond (.t 11) .skip (.exit 0)))
 (.seq (.block 1 (.region 0 [⟨some 14, .mv (.t 3), none⟩,
  ⟨some 15, .mv (.t 4), none⟩,
  ⟨some 16, .mv (.t 0), none⟩,
  ⟨some 17, .mv (.t 4), none⟩,
  ⟨some 18, .iaddr 2 (.t 16) (.t 17), none⟩,
  ⟨some 19, .load true 2 (.t 18), none⟩,
  ⟨some 20, .call false 147 [(.t 19)], none⟩,
  ⟨some 21, .iaddr 2 (.t 14) (.t 15), none⟩,
  ⟨none, .store 2 (.t 21) (.t 20), none⟩]))
 (.region 0 [⟨some 12, .mv (.t 4), none⟩,
  ⟨some 13, .bin .add (.t 12) (.c (.int .i64 1)), none⟩,
  ⟨some 4, .mv (.t 13), none⟩])))
def laws_toWaitS_r0 : AC :=
 (.seq (.region 0 [⟨some 22, .mv (.t 3), none⟩,
  ⟨some 2, .mv (.t 22), none⟩])
 .ret)
def laws_toWaitS_ac : AC :=
 (.seq (.region 0 [⟨some 2, .mv (.c (.nsl 2)), none⟩])
 (.seq (.region 0 [⟨some 5, .mv (.t 0), none⟩,
  ⟨some 6, .len false (.t 5), none⟩,
  ⟨some 7, .mkslice 7 2 16 (.agg [(.int .i64 0), (.int .i64 0)]) (.t 6) (.t 6), none⟩,
  ⟨some 3, .mv (.t 7), none⟩])
 (.seq (.seq (.region 0 [⟨some 4, .mv (.c (.int .i64 0)), none⟩])
 (.block 0 (.loop ⟨[0, 4], [(3, 2, false)], []⟩ laws_toWaitS_b0)))
 laws_toWaitS_r0)))
noncomputable def laws_toWaitS_l0 (E : Env) (x0 : U) (x4 : U) (c3 : List U) : Option U := loopK (roundOf E ⟨[0, 4], [(3, 2, false)], []⟩ laws_toWaitS_b0 (blockK 0 (seqK (fun s => exec E laws_toWaitS_r0 s (finish [(2, none)])) (finish [(2, none)])))) ([.val x0, .val x4], [.vir (.asl 2 c3)])
theorem laws_toWaitS_l0_eq (E : Env) (x0 : U) (x4 : U) (c3 : List U) : laws_toWaitS_l0 E x0 x4 c3 =
 (U.lenOf false x0).bind fun n2 => (U.bin .lss x4 (.int .i64 (n2 : Int))).bind fun t3 => U.asBool t3
 (U.asInt x4 fun n4 => U.elemAt 2 x0 n4 fun e5 => U.asVar true 2 e5 fun e6 => (E 147 [e6]).bind fun t7 => U.asInt x4 fun n8 => if 2 = 2 ∧ 0 ≤ n8 ∧ n8 < ((c3).length : Int) then if storable (.val t7) = true ∧ t7.size = 2 then (c3[(n8 : Int).toNat]?).bind fun e9 => if e9.size = 2 then (U.bin .add x4 (.int .i64 1)).bind fun t10 => laws_toWaitS_l0 E x0 t10 (c3.set (n8 : Int).toNat t7) else none else none else none)
 (some (.sl 2 c3)) :=
 (loop_eq E _ _ _ _).trans (by kernel_rfl)
structure G_laws_toWaitS (E : Env) : Prop where
  is : Is E 142 1 laws_toWaitS_ac [(2, none)]
  c_laws_toWait : G_laws_toWait E
theorem laws_toWaitS_E {E : Env} (h : G_laws_toWaitS E) (a0 : U) : E 142 [a0] =
 (U.lenOf false a0).bind fun n1 => if 0 ≤ (n1 : Int) ∧ (n1 : Int) ≤ (n1 : Int) ∧ (n1 : Int) * 16 ≤ 140737488355328 ∧ ((.agg [(.int .i64 0), (.int .i64 0)]) : U).size = 2 then laws_toWaitS_l0 E a0 (.int .i64 0) (List.replicate ((n1 : Int) : Int).toNat (.agg [(.int .i64 0), (.int .i64 0)])) else none := (h.is _ rfl).trans ((runQ_V rfl).trans (by kernel_rfl))
end Go.Proofs.YtmdnjglkdddaeaaGreat.Am
namespace Go.Proofs.YtmdnjglkdddaeaaGreat.Am
open Go
set_option linter.unusedVariables false
set_option maxRecDepth 100000
def laws_toEngine_ac : AC :=
 (.seq (.region 0 [⟨some 1, .box false 1 (.t 0), none⟩,
  ⟨some 2, .alloc 2 (.agg [(.bool false), (.agg [(.nsl 1)]), (.nsl 9), (.nsl 2), (.nsl 2), (.int .i64 0)]), none⟩])
 (.seq (.region 0 [⟨some 3, .alloc 3 (.agg [(.bool false), (.agg [(.nsl 1)]), (.nsl 9), (.nsl 2), (.nsl 2), (.int .i64 0)]), none⟩])
 (.seq (.region 0 [⟨some 4, .faddr 0 0 (.t 1), none⟩,
  ⟨some 5, .load false 1 (.t 4), none⟩,
  ⟨some 6, .faddr 0 0 (.t 3), none⟩,
  ⟨none, .store 1 (.t 6) (.t 5), none⟩])
 (.seq (.region 0 [⟨some 7, .faddr 1 1 (.t 1), none⟩,
  ⟨some 8, .load true 1 (.t 7), none⟩,
  ⟨some 9, .call false 93 [(.t 8)], none⟩,
  ⟨some 10, .faddr 1 1 (.t 3), none⟩,
  ⟨none, .store 1 (.t 10) (.t 9), none⟩])
 (.seq (.region 0 [⟨some 11, .faddr 2 2 (.t 1), none⟩,
  ⟨some 12, .load false 1 (.t 11), none⟩,
  ⟨some 13, .call false 144 [(.t 12)], none⟩,
  ⟨some 14, .faddr 2 2 (.t 3), none⟩,
  ⟨none, .store 1 (.t 14) (.t 13), none⟩])
 (.seq (.region 0 [⟨some 15, .faddr 3 3 (.t 1), none⟩,
  ⟨some 16, .load false 1 (.t 15), none⟩,
  ⟨some 17, .call false 143 [(.t 16)], none⟩,
  ⟨some 18, .faddr 3 3 (.t 3), none⟩,
  ⟨none, .store 1 (.t 18) (.t 17), none⟩])
 (.seq (.region 0 [⟨some 19, .faddr 4 4 (.t 1), none⟩,
  ⟨some 20, .load false 1 (.t 19), none⟩,
  ⟨some 21, .call false 142 [(.t 20)], none⟩,
  ⟨some 22, .faddr 4 4 (.t 3), none⟩,
  ⟨none, .store 1 (.t 22) (.t 21), none⟩])
 (.seq (.region 0 [⟨some 23, .faddr 5 5 (.t 1), none⟩,
  ⟨some 24, .load false 1 (.t 23), none⟩,
  ⟨some 25, .faddr 5 5 (.t 3), none⟩,
  ⟨none, .store 1 (.t 25) (.t 24), none⟩])
 (.seq (.region 0 [⟨some 26, .load true 6 (.t 3), none⟩,
  ⟨none, .store 6 (.t 2) (.t 26), none⟩])
 .ret)))))))))
structure G_laws_toEngine (E : Env) : Prop where
  is : Is E 124 1 laws_toEngine_ac [(2, some (true, 6))]
  c_laws_toStore : G_laws_toStore E
  c_laws_toTransactionS : G_laws_toTransactionS E
  c_laws_toLockS : G_laws_toLockS E
  c_laws_toWaitS : G_laws_toWaitS E
theorem laws_toEngine_E {E : Env} (h : G_laws_toEngine E) (a0 : U) : E 124 [a0] =
 U.noTup a0 fun x1 => U.asAgg x1 fun us2 => if 0 = sizes (us2.take 0) then (us2[0]?).bind fun e3 => U.asVar false 1 e3 fun e4 => if storable (.val e4) = true ∧ e4.size = 1 then U.asAgg x1 fun us5 => if 1 = sizes (us5.take 1) then (us5[1]?).bind fun e6 => U.asVar true 1 e6 fun e7 => (E 93 [e7]).bind fun t8 => if storable (.val t8) = true ∧ t8.size = 1 then if 1 = sizes [e4] then U.asAgg x1 fun us9 => if 2 = sizes (us9.take 2) then (us9[2]?).bind fun e10 => U.asVar false 1 e10 fun e11 => (E 144 [e11]).bind fun t12 => if storable (.val t12) = true ∧ t12.size = 1 then if 2 = sizes [e4, t8] then U.asAgg x1 fun us13 => if 3 = sizes (us13.take 3) then (us13[3]?).bind fun e14 => U.asVar false 1 e14 fun e15 => (E 143 [e15]).bind fun t16 => if storable (.val t16) = true ∧ t16.size = 1 then if 3 = sizes [e4, t8, t12] then U.asAgg x1 fun us17 => if 4 = sizes (us17.take 4) then (us17[4]?).bind fun e18 => U.asVar false 1 e18 fun e19 => (E 142 [e19]).bind fun t20 => if storable (.val t20) = true ∧ t20.size = 1 then if 4 = sizes [e4, t8, t12, t16] then U.asAgg x1 fun us21 => if 5 = sizes (us21.take 5) then (us21[5]?).bind fun e22 => U.asVar false 1 e22 fun e23 => if storable (.val e23) = true ∧ e23.size = 1 then if 5 = sizes [e4, t8, t12, t16, t20] then U.asVar true 6 (.agg [e4, t8, t12, t16, t20, e23]) fun e24 => if storable (.val e24) = true ∧ e24.size = 6 then U.asVar true 6 e24 fun e25 => some e25 else none else none else none else none else none else none else none else none else none else none else none else none else none else none else none else none else none else none := (h.is _ rfl).trans ((runQ_V rfl).trans (by kernel_rfl))
end Go.Proofs.YtmdnjglkdddaeaaGreat.Am
namespace Go.Proofs.YtmdnjglkdddaeaaGreat.Am
open Go
set_option linter.unusedVariables false
set_option maxRecDepth 100000
def slices_IndexFunc_g115_b0 : AC :=
 (.seq (.region 0 [⟨some 9, .bin .lss (.t 8) (.t 7), none⟩])
 (.seq (.cond (.t 9) .skip (.exit 0))
 (.seq (.block 1 (.seq (.region 0 [⟨some 10, .mv (.t 8), none⟩,
  ⟨some 5, .mv (.t 10), none⟩])
 (.seq (.region 0 [⟨some 11, .mv (.t 1), none⟩,
  ⟨some 12, .mv (.t 0), none⟩,
  ⟨some 13, .mv (.t 5), none⟩,
  ⟨some 14, .iaddr 1 (.t 12) (.t 13), none⟩,
  ⟨some 15, .load false 1 (.t 14), none⟩,
  ⟨some 16, .callv false (.t 11) [(.t 15)], none⟩])
 (.cond (.t 16) (.seq (.region 0 [⟨some 17, .mv (.t 5), none⟩,
  ⟨some 4, .mv (.t 17), none⟩])
 .ret) .skip))))
 (.region 0 [⟨some 18, .bin .add (.t 8) (.c (.int .i64 1)), none⟩,
  ⟨some 8, .mv (.t 18), none⟩]))))
def slices_IndexFunc_g115_r0 : AC :=
 (.seq (.region 0 [⟨some 4, .mv (.c (.int .i64 (-1))), none⟩])
 .ret)
def slices_IndexFunc_g115_ac : AC :=
 (.seq (.region 0 [⟨some 4, .mv (.c (.int .i64 0)), none⟩])
 (.seq (.seq (.region 0 [⟨some 6, .mv (.t 0), none⟩,
  ⟨some 7, .len false (.t 6), none⟩,
  ⟨some 8, .mv (.c (.int .i64 0)), none⟩])
 (.block 0 (.loop ⟨[0, 1, 7, 8], [], []⟩ slices_IndexFunc_g115_b0)))
 slices_IndexFunc_g115_r0))
noncomputable def slices_IndexFunc_g115_l0 (E : Env) (x0 : U) (x1 : U) (x7 : U) (x8 : U) : Option U := loopK (roundOf E ⟨[0, 1, 7, 8], [], []⟩ slices_IndexFunc_g115_b0 (blockK 0 (seqK (fun s => exec E slices_IndexFunc_g115_r0 s (finish [(4, none)])) (finish [(4, none)])))) ([.val x0, .val x1, .val x7, .val x8], [])
theorem slices_IndexFunc_g115_l0_eq (E : Env) (x0 : U) (x1 : U) (x7 : U) (x8 : U) : slices_IndexFunc_g115_l0 E x0 x1 x7 x8 =
 (U.bin .lss x8 x7).bind fun t2 => U.asBool t2
 (U.asInt x8 fun n3 => U.elemAt 1 x0 n3 fun e4 => U.asVar false 1 e4 fun e5 => U.asFn x1 fun r6 caps7 => (E r6 ([e5] ++ caps7)).bind fun t8 => U.asBool t8
 (some x8)
 ((U.bin .add x8 (.int .i64 1)).bind fun t9 => slices_IndexFunc_g115_l0 E x0 x1 x7 t9))
 (some (.int .i64 (-1))) :=
 (loop_eq E _ _ _ _).trans (by kernel_rfl)
structure G_slices_IndexFunc_g115 (E : Env) : Prop where
  is : Is E 115 2 slices_IndexFunc_g115_ac [(4, none)]
theorem slices_IndexFunc_g115_E {E : Env} (h : G_slices_IndexFunc_g115 E) (a0 a1 : U) : E 115 [a0, a1] =
 (U.lenOf false a0).bind fun n1 => slices_IndexFunc_g115_l0 E a0 a1 (.int .i64 (n1 : Int)) (.int .i64 0) := (h.is _ rfl).trans ((runQ_V rfl).trans (by kernel_rfl))
end Go.Proofs.YtmdnjglkdddaeaaGreat.Am
namespace Go.Proofs.YtmdnjglkdddaeaaGreat.Am
open Go
set_option linter.unusedVariables false
set_option maxRecDepth 100000
def slices_ContainsFunc_g114_ac : AC :=
 (.seq (.region 0 [⟨some 4, .mv (.c (.bool false)), none⟩])
 (.seq (.region 0 [⟨some 5, .mv (.t 0), none⟩,
  ⟨some 6, .mv (.t 1), none⟩,
  ⟨some 7, .call false 115 [(.t 5), (.t 6)], none⟩,
  ⟨some 8, .bin .geq (.t 7) (.c (.int .i64 0)), none⟩,
  ⟨some 4, .mv (.t 8), none⟩])
 .ret))
structure G_slices_ContainsFunc_g114 (E : Env) : Prop where
  is : Is E 114 2 slices_ContainsFunc_g114_ac [(4, none)]
  c_slices_IndexFunc_g115 : G_slices_IndexFunc_g115 E
theorem slices_ContainsFunc_g114_E {E : Env} (h : G_slices_ContainsFunc_g114 E) (a0 a1 : U) : E 114 [a0, a1] =
 (E 115 [a0, a1]).bind fun t1 => (U.bin .geq t1 (.int .i64 0)).bind fun t2 => some t2 := (h.is _ rfl).trans ((runQ_V rfl).trans (by kernel_rfl))
end Go.Proofs.YtmdnjglkdddaeaaGreat.Am
namespace Go.Proofs.YtmdnjglkdddaeaaGreat.Am
open Go
set_option linter.unusedVariables false
set_option maxRecDepth 100000
def impl_in_ac : AC :=
 (.seq (.region 0 [⟨some 6, .mv (.c (.bool false)), none⟩])
 (.seq (.region 0 [⟨some 7, .mv (.t 1), none⟩,
  ⟨some 8, .mv (.t 0), none⟩,
  ⟨some 9, .bin .leq (.t 7) (.t 8), none⟩,
  ⟨some 10, .mv (.t 9), none⟩,
  ⟨some 11, .mv (.t 0), some (10, true)⟩,
  ⟨some 12, .mv (.t 2), some (10, true)⟩,
  ⟨some 13, .bin .leq (.t 11) (.t 12), some (10, true)⟩,
  ⟨some 14, .pick (.t 10) (.t 13) (.c (.bool false)), none⟩,
  ⟨some 6, .mv (.t 14), none⟩])
 .ret))
structure G_impl_in (E : Env) : Prop where
  is : Is E 10 3 impl_in_ac [(6, none)]
theorem impl_in_E {E : Env} (h : G_impl_in E) (a0 a1 a2 : U) : E 10 [a0, a1, a2] =
 (U.bin .leq a1 a0).bind fun t1 => U.asBool t1
 ((U.bin .leq a0 a2).bind fun t2 => some t2)
 (some (.bool false)) := (h.is _ rfl).trans ((runQ_V rfl).trans (by kernel_rfl))
end Go.Proofs.YtmdnjglkdddaeaaGreat.Am
namespace Go.Proofs.YtmdnjglkdddaeaaGreat.Am
open Go
set_option linter.unusedVariables false
set_option maxRecDepth 100000
def impl_isID_ac : AC :=
 (.seq (.region 0 [⟨some 2, .mv (.c (.bool false)), none⟩])
 (.seq (.region 0 [⟨some 3, .mv (.t 0), none⟩,
  ⟨some 4, .call false 10 [(.t 3), (.c (.int .i64 1)), (.c (.int .i64 9))], none⟩,
  ⟨some 2, .mv (.t 4), none⟩])
 .ret))
structure G_impl_isID (E : Env) : Prop where
  is : Is E 9 1 impl_isID_ac [(2, none)]
  c_impl_in : G_impl_in E
theorem impl_isID_E {E : Env} (h : G_impl_isID E) (a0 : U) : E 9 [a0] =
 (E 10 [a0, (.int .i64 1), (.int .i64 9)]).bind fun t1 => some t1 := (h.is _ rfl).trans ((runQ_V rfl).trans (by kernel_rfl))
end Go.Proofs.YtmdnjglkdddaeaaGreat.Am
namespace Go.Proofs.YtmdnjglkdddaeaaGreat.Am
open Go
set_option linter.unusedVariables false
set_option maxRecDepth 100000
def impl_isValue_ac : AC :=
 (.seq (.region 0 [⟨some 2, .mv (.c (.bool false)), none⟩])
 (.seq (.region 0 [⟨some 3, .mv (.t 0), none⟩,
  ⟨some 4, .call false 10 [(.t 3), (.c (.int .i64 (-1))), (.c (.int .i64 99))], none⟩,
  ⟨some 2, .mv (.t 4), none⟩])
 .ret))
structure G_impl_isValue (E : Env) : Prop where
  is : Is E 76 1 impl_isValue_ac [(2, none)]
  c_impl_in : G_impl_in E
theorem impl_isValue_E {E : Env} (h : G_impl_isValue E) (a0 : U) : E 76 [a0] =
 (E 10 [a0, (.int .i64 (-1)), (.int .i64 99)]).bind fun t1 => some t1 := (h.is _ rfl).trans ((runQ_V rfl).trans (by kernel_rfl))
end Go.Proofs.YtmdnjglkdddaeaaGreat.Am
namespace Go.Proofs.YtmdnjglkdddaeaaGreat.Am
open Go
set_option linter.unusedVariables false
set_option maxRecDepth 100000
def impl_IsValidVersion_ac : AC :=
 (.seq (.region 0 [⟨some 1, .box false 1 (.t 0), none⟩,
  ⟨some 2, .mv (.c (.bool false)), none⟩])
 (.seq (.seq (.region 0 [⟨some 3, .faddr 1 1 (.t 1), none⟩,
  ⟨some 4, .load false 1 (.t 3), none⟩,
  ⟨some 5, .call false 76 [(.t 4)], none⟩,
  ⟨some 6, .un .not (.t 5), none⟩,
  ⟨some 7, .mv (.t 6), none⟩,
  ⟨some 8, .faddr 2 2 (.t 1), some (7, false)⟩,
  ⟨some 9, .load false 1 (.t 8), some (7, false)⟩,
  ⟨some 10, .call false 10 [(.t 9), (.c (.int .i64 0)), (.c (.int .i64 999))], some (7, false)⟩,
  ⟨some 11, .un .not (.t 10), some (7, false)⟩,
  ⟨some 12, .pick (.t 7) (.c (.bool true)) (.t 11), none⟩,
  ⟨some 13, .mv (.t 12), none⟩,
  ⟨some 14, .faddr 3 3 (.t 1), some (13, false)⟩,
  ⟨some 15, .load false 1 (.t 14), some (13, false)⟩,
  ⟨some 16, .faddr 2 2 (.t 1), some (13, false)⟩,
  ⟨some 17, .load false 1 (.t 16), some (13, false)⟩,
  ⟨some 18, .call false 10 [(.t 15), (.t 17), (.c (.int .i64 999))], some (13, false)⟩,
  ⟨some 19, .un .not (.t 18), some (13, false)⟩,
  ⟨some 20, .pick (.t 13) (.c (.bool true)) (.t 19), none⟩,
  ⟨some 21, .mv (.t 20), none⟩,
  ⟨some 22, .faddr 4 4 (.t 1), some (21, false)⟩,
  ⟨some 23, .load false 1 (.t 22), some (21, false)⟩,
  ⟨some 24, .call false 10 [(.t 23), (.c (.int .i64 1)), (.c (.int .i64 1000))], some (21, false)⟩,
  ⟨some 25, .un .not (.t 24), some (21, false)⟩,
  ⟨some 26, .pick (.t 21) (.c (.bool true)) (.t 25), none⟩])
 (.cond (.t 26) (.seq (.region 0 [⟨some 2, .mv (.c (.bool false)), none⟩])
 .ret) .skip))
 (.seq (.seq (.region 0 [⟨some 27, .faddr 2 2 (.t 1), none⟩,
  ⟨some 28, .load false 1 (.t 27), none⟩,
  ⟨some 29, .bin .eql (.t 28) (.c (.int .i64 0)), none⟩])
 (.cond (.t 29) (.seq (.region 0 [⟨some 30, .faddr 0 0 (.t 1), none⟩,
  ⟨some 31, .load false 1 (.t 30), none⟩,
  ⟨some 32, .bin .eql (.t 31) (.c (.int .i64 0)), none⟩,
  ⟨some 33, .mv (.t 32), none⟩,
  ⟨some 34, .faddr 1 1 (.t 1), some (33, true)⟩,
  ⟨some 35, .load false 1 (.t 34), some (33, true)⟩,
  ⟨some 36, .bin .eql (.t 35) (.c (.int .i64 (-1))), some (33, true)⟩,
  ⟨some 37, .pick (.t 33) (.t 36) (.c (.bool false)), none⟩,
  ⟨some 2, .mv (.t 37), none⟩])
 .ret) .skip))
 (.seq (.region 0 [⟨some 38, .faddr 0 0 (.t 1), none⟩,
  ⟨some 39, .load false 1 (.t 38), none⟩,
  ⟨some 40, .call false 9 [(.t 39)], none⟩,
  ⟨some 2, .mv (.t 40), none⟩])
 .ret))))
structure G_impl_IsValidVersion (E : Env) : Prop where
  is : Is E 117 1 impl_IsValidVersion_ac [(2, none)]
  c_impl_in : G_impl_in E
  c_impl_isID : G_impl_isID E
  c_impl_isValue : G_impl_isValue E
theorem impl_IsValidVersion_E {E : Env} (h : G_impl_IsValidVersion E) (a0 : U) : E 117 [a0] =
 U.noTup a0 fun x1 => U.asAgg x1 fun us2 => if 1 = sizes (us2.take 1) then (us2[1]?).bind fun e3 => U.asVar false 1 e3 fun e4 => (E 76 [e4]).bind fun t5 => (U.un .not t5).bind fun t6 => U.asBool t6
 (some (.bool false))
 (U.asAgg x1 fun us7 => if 2 = sizes (us7.take 2) then (us7[2]?).bind fun e8 => U.asVar false 1 e8 fun e9 => (E 10 [e9, (.int .i64 0), (.int .i64 999)]).bind fun t10 => (U.un .not t10).bind fun t11 => U.asBool t11
 (some (.bool false))
 (U.asAgg x1 fun us12 => if 3 = sizes (us12.take 3) then (us12[3]?).bind fun e13 => U.asVar false 1 e13 fun e14 => U.asAgg x1 fun us15 => if 2 = sizes (us15.take 2) then (us15[2]?).bind fun e16 => U.asVar false 1 e16 fun e17 => (E 10 [e14, e17, (.int .i64 999)]).bind fun t18 => (U.un .not t18).bind fun t19 => U.asBool t19
 (some (.bool false))
 (U.asAgg x1 fun us20 => if 4 = sizes (us20.take 4) then (us20[4]?).bind fun e21 => U.asVar false 1 e21 fun e22 => (E 10 [e22, (.int .i64 1), (.int .i64 1000)]).bind fun t23 => (U.un .not t23).bind fun t24 => U.asBool t24
 (some (.bool false))
 (U.asAgg x1 fun us25 => if 2 = sizes (us25.take 2) then (us25[2]?).bind fun e26 => U.asVar false 1 e26 fun e27 => (U.bin .eql e27 (.int .i64 0)).bind fun t28 => U.asBool t28
 (U.asAgg x1 fun us29 => if 0 = sizes (us29.take 0) then (us29[0]?).bind fun e30 => U.asVar false 1 e30 fun e31 => (U.bin .eql e31 (.int .i64 0)).bind fun t32 => U.asBool t32
 (U.asAgg x1 fun us33 => if 1 = sizes (us33.take 1) then (us33[1]?).bind fun e34 => U.asVar false 1 e34 fun e35 => (U.bin .eql e35 (.int .i64 (-1))).bind fun t36 => some t36 else none)
 (some (.bool false)) else none)
 (U.asAgg x1 fun us37 => if 0 = sizes (us37.take 0) then (us37[0]?).bind fun e38 => U.asVar false 1 e38 fun e39 => (E 9 [e39]).bind fun t40 => some t40 else none) else none) else none) else none else none) else none) else none := (h.is _ rfl).trans ((runQ_V rfl).trans (by kernel_rfl))
end Go.Proofs.YtmdnjglkdddaeaaGreat.Am
namespace Go.Proofs.YtmdnjglkdddaeaaGreat.Am
open Go
set_option linter.unusedVariables false
set_option maxRecDepth 100000
def impl_IsValidChain_b0 : AC :=
 (.seq (.region 0 [⟨some 8, .bin .lss (.t 7) (.t 6), none⟩])
 (.seq (.cond (.t 8) .skip (.exit 0))
 (.seq (.block 1 (.seq (.region 0 [⟨some 9, .mv (.t 7), none⟩,
  ⟨some 10, .iaddr 5 (.t 5) (.t 7), none⟩,
  ⟨some 11, .load true 5 (.t 10), none⟩,
  ⟨some 4, .alloc 4 (.agg [(.int .i64 0), (.int .i64 0), (.int .i64 0), (.int .i64 0), (.int .i64 0)]), none⟩,
  ⟨some 3, .mv (.t 9), none⟩,
  ⟨none, .store 5 (.t 4) (.t 11), none⟩])
 (.seq (.region 29 [⟨some 12, .load true 5 (.t 4), none⟩,
  ⟨some 13, .call false 117 [(.t 12)], none⟩,
  ⟨some 14, .un .not (.t 13), none⟩,
  ⟨some 15, .mv (.t 14), none⟩,
  ⟨some 16, .mv (.t 3), some (15, false)⟩,
  ⟨some 17, .bin .gtr (.t 16) (.c (.int .i64 0)), some (15, false)⟩,
  ⟨some 18, .mv (.t 17), some (15, false)⟩,
  ⟨some 19, .mv (.t 0), some (18, true)⟩,
  ⟨some 20, .mv (.t 3), some (18, true)⟩,
  ⟨some 21, .bin .sub (.t 20) (.c (.int .i64 1)), some (18, true)⟩,
  ⟨some 22, .iaddr 5 (.t 19) (.t 21), some (18, true)⟩,
  ⟨some 23, .faddr 2 2 (.t 22), some (18, true)⟩,
  ⟨some 24, .load false 1 (.t 23), some (18, true)⟩,
  ⟨some 25, .faddr 2 2 (.t 4), some (18, true)⟩,
  ⟨some 26, .load false 1 (.t 25), some (18, true)⟩,
  ⟨some 27, .bin .geq (.t 24) (.t 26), some (18, true)⟩,
  ⟨some 28, .mv (.t 27), some (18, true)⟩,
  ⟨some 29, .mv (.t 0), some (28, false)⟩,
  ⟨some 30, .mv (.t 3), some (28, false)⟩,
  ⟨some 31, .bin .sub (.t 30) (.c (.int .i64 1)), some (28, false)⟩,
  ⟨some 32, .iaddr 5 (.t 29) (.t 31), some (28, false)⟩,
  ⟨some 33, .faddr 4 4 (.t 32), some (28, false)⟩,
  ⟨some 34, .load false 1 (.t 33), some (28, false)⟩,
  ⟨some 35, .faddr 2 2 (.t 4), some (28, false)⟩,
  ⟨some 36, .load false 1 (.t 35), some (28, false)⟩,
  ⟨some 37, .bin .gtr (.t 34) (.t 36), some (28, false)⟩,
  ⟨some 38, .pick (.t 28) (.c (.bool true)) (.t 37), some (18, true)⟩,
  ⟨some 39, .pick (.t 18) (.t 38) (.c (.bool false)), some (15, false)⟩,
  ⟨some 40, .pick (.t 15) (.c (.bool true)) (.t 39), none⟩])
 (.cond (.t 40) (.seq (.region 0 [⟨some 2, .mv (.c (.bool false)), none⟩])
 .ret) .skip))))
 (.region 0 [⟨some 41, .bin .add (.t 7) (.c (.int .i64 1)), none⟩,
  ⟨some 7, .mv (.t 41), none⟩]))))
def impl_IsValidChain_r0 : AC :=
 (.seq (.region 0 [⟨some 42, .mv (.t 0), none⟩,
  ⟨some 43, .len false (.t 42), none⟩,
  ⟨some 44, .bin .gtr (.t 43) (.c (.int .i64 0)), none⟩,
  ⟨some 45, .mv (.t 44), none⟩,
  ⟨some 46, .mv (.t 0), some (45, true)⟩,
  ⟨some 47, .mv (.t 0), some (45, true)⟩,
  ⟨some 48, .len false (.t 47), some (45, true)⟩,
  ⟨some 49, .bin .sub (.t 48) (.c (.int .i64 1)), some (45, true)⟩,
  ⟨some 50, .iaddr 5 (.t 46) (.t 49), some (45, true)⟩,
  ⟨some 51, .faddr 4 4 (.t 50), some (45, true)⟩,
  ⟨some 52, .load false 1 (.t 51), some (45, true)⟩,
  ⟨some 53, .bin .eql (.t 52) (.c (.int .i64 1000)), some (45, true)⟩,
  ⟨some 54, .pick (.t 45) (.t 53) (.c (.bool false)), none⟩,
  ⟨some 2, .mv (.t 54), none⟩])
 .ret)
def impl_IsValidChain_ac : AC :=
 (.seq (.region 0 [⟨some 2, .mv (.c (.bool false)), none⟩])
 (.seq (.seq (.region 0 [⟨some 5, .mv (.t 0), none⟩,
  ⟨some 6, .len false (.t 5), none⟩,
  ⟨some 7, .mv (.c (.int .i64 0)), none⟩])
 (.block 0 (.loop ⟨[0, 5, 6, 7], [], []⟩ impl_IsValidChain_b0)))
 impl_IsValidChain_r0))
noncomputable def impl_IsValidChain_l0 (E : Env) (x0 : U) (x5 : U) (x6 : U) (x7 : U) : Option U := loopK (roundOf E ⟨[0, 5, 6, 7], [], []⟩ impl_IsValidChain_b0 (blockK 0 (seqK (fun s => exec E impl_IsValidChain_r0 s (finish [(2, none)])) (finish [(2, none)])))) ([.val x0, .val x5, .val x6, .val x7], [])
theorem impl_IsValidChain_l0_eq (E : Env) (x0 : U) (x5 : U) (x6 : U) (x7 : U) : impl_IsValidChain_l0 E x0 x5 x6 x7 =
 (U.bin .lss x7 x6).bind fun t2 => U.asBool t2
 (U.asInt x7 fun n3 => U.elemAt 5 x5 n3 fun e4 => U.asVar true 5 e4 fun e5 => if storable (.val e5) = true ∧ e5.size = 5 then U.asVar true 5 e5 fun e6 => (E 117 [e6]).bind fun t7 => (U.un .not t7).bind fun t8 => U.asBool t8
 (some (.bool false))
 ((U.bin .gtr x7 (.int .i64 0)).bind fun t9 => U.asBool t9
 ((U.bin .sub x7 (.int .i64 1)).bind fun t10 => U.asInt t10 fun n11 => U.elemAt 5 x0 n11 fun e12 => U.fieldAt 2 2 e12 fun f13 => U.asVar false 1 f13 fun e14 => U.asAgg e5 fun us15 => if 2 = sizes (us15.take 2) then (us15[2]?).bind fun e16 => U.asVar false 1 e16 fun e17 => (U.bin .geq e14 e17).bind fun t18 => U.asBool t18
 (some (.bool false))
 ((U.bin .sub x7 (.int .i64 1)).bind fun t19 => U.asInt t19 fun n20 => U.elemAt 5 x0 n20 fun e21 => U.fieldAt 4 4 e21 fun f22 => U.asVar false 1 f22 fun e23 => U.asAgg e5 fun us24 => if 2 = sizes (us24.take 2) then (us24[2]?).bind fun e25 => U.asVar false 1 e25 fun e26 => (U.bin .gtr e23 e26).bind fun t27 => U.asBool t27
 (some (.bool false))
 ((U.bin .add x7 (.int .i64 1)).bind fun t28 => impl_IsValidChain_l0 E x0 x5 x6 t28) else none) else none)
 ((U.bin .add x7 (.int .i64 1)).bind fun t29 => impl_IsValidChain_l0 E x0 x5 x6 t29)) else none)
 ((U.lenOf false x0).bind fun n30 => (U.bin .gtr (.int .i64 (n30 : Int)) (.int .i64 0)).bind fun t31 => U.asBool t31
 ((U.lenOf false x0).bind fun n32 => (U.bin .sub (.int .i64 (n32 : Int)) (.int .i64 1)).bind fun t33 => U.asInt t33 fun n34 => U.elemAt 5 x0 n34 fun e35 => U.fieldAt 4 4 e35 fun f36 => U.asVar false 1 f36 fun e37 => (U.bin .eql e37 (.int .i64 1000)).bind fun t38 => some t38)
 (some (.bool false))) :=
 (loop_eq E _ _ _ _).trans (by kernel_rfl)
structure G_impl_IsValidChain (E : Env) : Prop where
  is : Is E 116 1 impl_IsValidChain_ac [(2, none)]
  c_impl_IsValidVersion : G_impl_IsValidVersion E
theorem impl_IsValidChain_E {E : Env} (h : G_impl_IsValidChain E) (a0 : U) : E 116 [a0] =
 (U.lenOf false a0).bind fun n1 => impl_IsValidChain_l0 E a0 a0 (.int .i64 (n1 : Int)) (.int .i64 0) := (h.is _ rfl).trans ((runQ_V rfl).trans (by kernel_rfl))
end Go.Proofs.YtmdnjglkdddaeaaGreat.Am
namespace Go.Proofs.YtmdnjglkdddaeaaGreat.Am
open Go
set_option linter.unusedVariables false
set_option maxRecDepth 100000
def impl_IsValidStore_1_ac : AC :=
 (.seq (.region 0 [⟨some 2, .mv (.c (.bool false)), none⟩])
 (.seq (.region 0 [⟨some 3, .mv (.t 0), none⟩,
  ⟨some 4, .call false 116 [(.t 3)], none⟩,
  ⟨some 5, .un .not (.t 4), none⟩,
  ⟨some 6, .mv (.t 5), none⟩,
  ⟨some 7, .mv (.t 0), some (6, false)⟩,
  ⟨some 8, .len false (.t 7), some (6, false)⟩,
  ⟨some 9, .bin .gtr (.t 8) (.c (.int .i64 50)), some (6, false)⟩,
  ⟨some 10, .pick (.t 6) (.c (.bool true)) (.t 9), none⟩,
  ⟨some 2, .mv (.t 10), none⟩])
 .ret))
structure G_impl_IsValidStore_1 (E : Env) : Prop where
  is : Is E 113 1 impl_IsValidStore_1_ac [(2, none)]
  c_impl_IsValidChain : G_impl_IsValidChain E
theorem impl_IsValidStore_1_E {E : Env} (h : G_impl_IsValidStore_1 E) (a0 : U) : E 113 [a0] =
 (E 116 [a0]).bind fun t1 => (U.un .not t1).bind fun t2 => U.asBool t2
 (some (.bool true))
 ((U.lenOf false a0).bind fun n3 => (U.bin .gtr (.int .i64 (n3 : Int)) (.int .i64 50)).bind fun t4 => some t4) := (h.is _ rfl).trans ((runQ_V rfl).trans (by kernel_rfl))
end Go.Proofs.YtmdnjglkdddaeaaGreat.Am
namespace Go.Proofs.YtmdnjglkdddaeaaGreat.Am
open Go
set_option linter.unusedVariables false
set_option maxRecDepth 100000
def impl_IsValidStore_ac : AC :=
 (.seq (.region 0 [⟨some 1, .box false 1 (.t 0), none⟩,
  ⟨some 2, .mv (.c (.bool false)), none⟩])
 (.seq (.region 0 [⟨some 3, .faddr 0 0 (.t 1), none⟩,
  ⟨some 4, .load false 1 (.t 3), none⟩,
  ⟨some 5, .len false (.t 4), none⟩,
  ⟨some 6, .bin .eql (.t 5) (.c (.int .i64 6)), none⟩,
  ⟨some 7, .mv (.t 6), none⟩,
  ⟨some 8, .faddr 0 0 (.t 1), some (7, true)⟩,
  ⟨some 9, .load false 1 (.t 8), some (7, true)⟩,
  ⟨some 10, .call false 114 [(.t 9), (.c (.fn 113 []))], some (7, true)⟩,
  ⟨some 11, .un .not (.t 10), some (7, true)⟩,
  ⟨some 12, .pick (.t 7) (.t 11) (.c (.bool false)), none⟩,
  ⟨some 2, .mv (.t 12), none⟩])
 .ret))
structure G_impl_IsValidStore (E : Env) : Prop where
  is : Is E 112 1 impl_IsValidStore_ac [(2, none)]
  c_slices_ContainsFunc_g114 : G_slices_ContainsFunc_g114 E
  c_impl_IsValidStore_1 : G_impl_IsValidStore_1 E
theorem impl_IsValidStore_E {E : Env} (h : G_impl_IsValidStore E) (a0 : U) : E 112 [a0] =
 U.noTup a0 fun x1 => U.asAgg x1 fun us2 => if 0 = sizes (us2.take 0) then (us2[0]?).bind fun e3 => U.asVar false 1 e3 fun e4 => (U.lenOf false e4).bind fun n5 => (U.bin .eql (.int .i64 (n5 : Int)) (.int .i64 6)).bind fun t6 => U.asBool t6
 (U.asAgg x1 fun us7 => if 0 = sizes (us7.take 0) then (us7[0]?).bind fun e8 => U.asVar false 1 e8 fun e9 => (E 114 [e9, (.fn 113 [])]).bind fun t10 => (U.un .not t10).bind fun t11 => some t11 else none)
 (some (.bool false)) else none := (h.is _ rfl).trans ((runQ_V rfl).trans (by kernel_rfl))
end Go.Proofs.YtmdnjglkdddaeaaGreat.Am
namespace Go.Proofs.YtmdnjglkdddaeaaGreat.Am
open Go
set_option linter.unusedVariables false
set_option maxRecDepth 100000
def impl_isKey_ac : AC :=
 (.seq (.region 0 [⟨some 2, .mv (.c (.bool false)), none⟩])
 (.seq (.region 0 [⟨some 3, .mv (.t 0), none⟩,
  ⟨some 4, .call false 10 [(.t 3), (.c (.int .i64 0)), (.c (.int .i64 5))], none⟩,
  ⟨some 2, .mv (.t 4), none⟩])
 .ret))
structure G_impl_isKey (E : Env) : Prop where
  is : Is E 11 1 impl_isKey_ac [(2, none)]
  c_impl_in : G_impl_in E
theorem impl_isKey_E {E : Env} (h : G_impl_isKey E) (a0 : U) : E 11 [a0] =
 (E 10 [a0, (.int .i64 0), (.int .i64 5)]).bind fun t1 => some t1 := (h.is _ rfl).trans ((runQ_V rfl).trans (by kernel_rfl))
end Go.Proofs.YtmdnjglkdddaeaaGreat.Am
namespace Go.Proofs.YtmdnjglkdddaeaaGreat.Am
open Go
set_option linter.unusedVariables false
set_option maxRecDepth 100000
def impl_AreLocks_b0 : AC :=
 (.seq (.region 0 [⟨some 8, .bin .lss (.t 7) (.t 6), none⟩])
 (.seq (.cond (.t 8) .skip (.exit 0))
 (.seq (.block 1 (.seq (.region 0 [⟨some 9, .mv (.t 7), none⟩,
  ⟨some 10, .iaddr 2 (.t 5) (.t 7), none⟩,
  ⟨some 11, .load true 2 (.t 10), none⟩,
  ⟨some 4, .alloc 4 (.agg [(.int .i64 0), (.int .i64 0)]), none⟩,
  ⟨some 3, .mv (.t 9), none⟩,
  ⟨none, .store 2 (.t 4) (.t 11), none⟩])
 (.seq (.region 25 [⟨some 12, .faddr 0 0 (.t 4), none⟩,
  ⟨some 13, .load false 1 (.t 12), none⟩,
  ⟨some 14, .call false 11 [(.t 13)], none⟩,
  ⟨some 15, .un .not (.t 14), none⟩,
  ⟨some 16, .mv (.t 15), none⟩,
  ⟨some 17, .faddr 1 1 (.t 4), some (16, false)⟩,
  ⟨some 18, .load false 1 (.t 17), some (16, false)⟩,
  ⟨some 19, .call false 9 [(.t 18)], some (16, false)⟩,
  ⟨some 20, .un .not (.t 19), some (16, false)⟩,
  ⟨some 21, .pick (.t 16) (.c (.bool true)) (.t 20), none⟩,
  ⟨some 22, .mv (.t 21), none⟩,
  ⟨some 23, .mv (.t 3), some (22, false)⟩,
  ⟨some 24, .bin .gtr (.t 23) (.c (.int .i64 0)), some (22, false)⟩,
  ⟨some 25, .mv (.t 24), some (22, false)⟩,
  ⟨some 26, .mv (.t 0), some (25, true)⟩,
  ⟨some 27, .mv (.t 3), some (25, true)⟩,
  ⟨some 28, .bin .sub (.t 27) (.c (.int .i64 1)), some (25, true)⟩,
  ⟨some 29, .iaddr 2 (.t 26) (.t 28), some (25, true)⟩,
  ⟨some 30, .faddr 0 0 (.t 29), some (25, true)⟩,
  ⟨some 31, .load false 1 (.t 30), some (25, true)⟩,
  ⟨some 32, .faddr 0 0 (.t 4), some (25, true)⟩,
  ⟨some 33, .load false 1 (.t 32), some (25, true)⟩,
  ⟨some 34, .bin .geq (.t 31) (.t 33), some (25, true)⟩,
  ⟨some 35, .pick (.t 25) (.t 34) (.c (.bool false)), some (22, false)⟩,
  ⟨some 36, .pick (.t 22) (.c (.bool true)) (.t 35), none⟩])
 (.cond (.t 36) (.seq (.region 0 [⟨some 2, .mv (.c (.bool false)), none⟩])
 .ret) .skip))))
 (.region 0 [⟨some 37, .bin .add (.t 7) (.c (.int .i64 1)), none⟩,
  ⟨some 7, .mv (.t 37), none⟩]))))
def impl_AreLocks_r0 : AC :=
 (.seq (.region 0 [⟨some 2, .mv (.c (.bool true)), none⟩])
 .ret)
def impl_AreLocks_ac : AC :=
 (.seq (.region 0 [⟨some 2, .mv (.c (.bool false)), none⟩])
 (.seq (.seq (.region 0 [⟨some 5, .mv (.t 0), none⟩,
  ⟨some 6, .len false (.t 5), none⟩,
  ⟨some 7, .mv (.c (.int .i64 0)), none⟩])
 (.block 0 (.loop ⟨[0, 5, 6, 7], [], []⟩ impl_AreLocks_b0)))
 impl_AreLocks_r0))
noncomputable def impl_AreLocks_l0 (E : Env) (x0 : U) (x5 : U) (x6 : U) (x7 : U) : Option U := loopK (roundOf E ⟨[0, 5, 6, 7], [], []⟩ impl_AreLocks_b0 (blockK 0 (seqK (fun s => exec E impl_AreLocks_r0 s (finish [(2, none)])) (finish [(2, none)])))) ([.val x0, .val x5, .val x6, .val x7], [])
theorem impl_AreLocks_l0_eq (E : Env) (x0 : U) (x5 : U) (x6 : U) (x7 : U) : impl_AreLocks_l0 E x0 x5 x6 x7 =
 (U.bin .lss x7 x6).bind fun t2 => U.asBool t2
 (U.asInt x7 fun n3 => U.elemAt 2 x5 n3 fun e4 => U.asVar true 2 e4 fun e5 => if storable (.val e5) = true ∧ e5.size = 2 then U.asAgg e5 fun us6 => if 0 = sizes (us6.take 0) then (us6[0]?).bind fun e7 => U.asVar false 1 e7 fun e8 => (E 11 [e8]).bind fun t9 => (U.un .not t9).bind fun t10 => U.asBool t10
 (some (.bool false))
 (U.asAgg e5 fun us11 => if 1 = sizes (us11.take 1) then (us11[1]?).bind fun e12 => U.asVar false 1 e12 fun e13 => (E 9 [e13]).bind fun t14 => (U.un .not t14).bind fun t15 => U.asBool t15
 (some (.bool false))
 ((U.bin .gtr x7 (.int .i64 0)).bind fun t16 => U.asBool t16
 ((U.bin .sub x7 (.int .i64 1)).bind fun t17 => U.asInt t17 fun n18 => U.elemAt 2 x0 n18 fun e19 => U.fieldAt 0 0 e19 fun f20 => U.asVar false 1 f20 fun e21 => U.asAgg e5 fun us22 => if 0 = sizes (us22.take 0) then (us22[0]?).bind fun e23 => U.asVar false 1 e23 fun e24 => (U.bin .geq e21 e24).bind fun t25 => U.asBool t25
 (some (.bool false))
 ((U.bin .add x7 (.int .i64 1)).bind fun t26 => impl_AreLocks_l0 E x0 x5 x6 t26) else none)
 ((U.bin .add x7 (.int .i64 1)).bind fun t27 => impl_AreLocks_l0 E x0 x5 x6 t27)) else none) else none else none)
 (some (.bool true)) :=
 (loop_eq E _ _ _ _).trans (by kernel_rfl)
structure G_impl_AreLocks (E : Env) : Prop where
  is : Is E 150 1 impl_AreLocks_ac [(2, none)]
  c_impl_isKey : G_impl_isKey E
  c_impl_isID : G_impl_isID E
theorem impl_AreLocks_E {E : Env} (h : G_impl_AreLocks E) (a0 : U) : E 150 [a0] =
 (U.lenOf false a0).bind fun n1 => impl_AreLocks_l0 E a0 a0 (.int .i64 (n1 : Int)) (.int .i64 0) := (h.is _ rfl).trans ((runQ_V rfl).trans (by kernel_rfl))
end Go.Proofs.YtmdnjglkdddaeaaGreat.Am
