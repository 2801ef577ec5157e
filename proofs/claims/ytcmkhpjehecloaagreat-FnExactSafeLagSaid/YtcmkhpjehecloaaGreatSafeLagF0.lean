import Derived.KernelRfl
import Derived.Test.YtcmkhpjehecloaaGreatAmW
namespace Go.Proofs.YtcmkhpjehecloaaGreat.Am
open Go
set_option linter.unusedVariables false
set_option maxRecDepth 100000

/- loop.example/g01924/laws.szVersionS -/
def laws_szVersionS_ac : AC :=
 (.seq (.region 0 [⟨some 4, .mv (.c (.int .i64 0)), none⟩])
 (.seq (.region 0 [⟨some 5, .mv (.t 1), none⟩,
  ⟨some 6, .mv (.t 0), none⟩,
  ⟨some 7, .len false (.t 6), none⟩,
  ⟨some 8, .bin .sub (.t 5) (.t 7), none⟩,
  ⟨some 1, .mv (.t 8), none⟩])
 (.seq (.seq (.region 0 [⟨some 9, .mv (.t 1), none⟩,
  ⟨some 10, .bin .lss (.t 9) (.c (.int .i64 0)), none⟩])
 (.cond (.t 10) (.seq (.region 0 [⟨some 4, .mv (.c (.int .i64 (-1))), none⟩])
 .ret) .skip))
 (.seq (.region 0 [⟨some 11, .mv (.t 1), none⟩,
  ⟨some 4, .mv (.t 11), none⟩])
 .ret))))

theorem laws_szVersionS_eq (E : Env) (a0 : U) (a1 : U) : run E laws_szVersionS_ac [(4, none)] [a0, a1] =
 (U.lenOf false a0).bind fun n1 => (U.bin .sub a1 (.int .i64 (n1 : Int))).bind fun t2 => (U.bin .lss t2 (.int .i64 0)).bind fun t3 => U.asBool t3
 (some (.int .i64 (-1)))
 (some t2) := by kernel_rfl

/-- In the environment E: this function and those that it calls. -/
structure G_laws_szVersionS (E : Env) : Prop where
  is : Is E 101 2 laws_szVersionS_ac [(4, none)]
theorem laws_szVersionS_E {E : Env} (h : G_laws_szVersionS E) (a0 a1 : U) : E 101 [a0, a1] =
 (U.lenOf false a0).bind fun n1 => (U.bin .sub a1 (.int .i64 (n1 : Int))).bind fun t2 => (U.bin .lss t2 (.int .i64 0)).bind fun t3 => U.asBool t3
 (some (.int .i64 (-1)))
 (some t2) := (h.is _ rfl).trans (laws_szVersionS_eq E a0 a1)

end Go.Proofs.YtcmkhpjehecloaaGreat.Am
namespace Go.Proofs.YtcmkhpjehecloaaGreat.Am
open Go
set_option linter.unusedVariables false
set_option maxRecDepth 100000

/- loop.example/g01924/laws.szVersionSS -/
def laws_szVersionSS_b0 : AC :=
 (.seq (.seq (.region 0 [⟨some 12, .mv (.t 5), none⟩,
  ⟨some 13, .mv (.t 0), none⟩,
  ⟨some 14, .len false (.t 13), none⟩,
  ⟨some 15, .bin .lss (.t 12) (.t 14), none⟩])
 (.cond (.t 15) .skip (.exit 0)))
 (.seq (.block 1 (.seq (.region 0 [⟨some 18, .mv (.t 0), none⟩,
  ⟨some 19, .mv (.t 5), none⟩,
  ⟨some 20, .iaddr 1 (.t 18) (.t 19), none⟩,
  ⟨some 21, .load false 1 (.t 20), none⟩,
  ⟨some 22, .mv (.t 1), none⟩,
  ⟨some 23, .call false 101 [(.t 21), (.t 22)], none⟩,
  ⟨some 1, .mv (.t 23), none⟩])
 (.seq (.region 0 [⟨some 24, .mv (.t 1), none⟩,
  ⟨some 25, .bin .lss (.t 24) (.c (.int .i64 0)), none⟩])
 (.cond (.t 25) (.seq (.region 0 [⟨some 4, .mv (.c (.int .i64 (-1))), none⟩])
 .ret) .skip))))
 (.region 0 [⟨some 16, .mv (.t 5), none⟩,
  ⟨some 17, .bin .add (.t 16) (.c (.int .i64 1)), none⟩,
  ⟨some 5, .mv (.t 17), none⟩])))
def laws_szVersionSS_r0 : AC :=
 (.seq (.region 0 [⟨some 26, .mv (.t 1), none⟩,
  ⟨some 4, .mv (.t 26), none⟩])
 .ret)
def laws_szVersionSS_ac : AC :=
 (.seq (.region 0 [⟨some 4, .mv (.c (.int .i64 0)), none⟩])
 (.seq (.region 0 [⟨some 6, .mv (.t 1), none⟩,
  ⟨some 7, .mv (.t 0), none⟩,
  ⟨some 8, .len false (.t 7), none⟩,
  ⟨some 9, .bin .sub (.t 6) (.t 8), none⟩,
  ⟨some 1, .mv (.t 9), none⟩])
 (.seq (.seq (.region 0 [⟨some 10, .mv (.t 1), none⟩,
  ⟨some 11, .bin .lss (.t 10) (.c (.int .i64 0)), none⟩])
 (.cond (.t 11) (.seq (.region 0 [⟨some 4, .mv (.c (.int .i64 (-1))), none⟩])
 .ret) .skip))
 (.seq (.seq (.region 0 [⟨some 5, .mv (.c (.int .i64 0)), none⟩])
 (.block 0 (.loop ⟨[0, 1, 5], [], []⟩ laws_szVersionSS_b0)))
 laws_szVersionSS_r0))))
noncomputable def laws_szVersionSS_l0 (E : Env) (x0 : U) (x1 : U) (x5 : U) : Option U := loopK (roundOf E ⟨[0, 1, 5], [], []⟩ laws_szVersionSS_b0 (blockK 0 (seqK (fun s => exec E laws_szVersionSS_r0 s (finish [(4, none)])) (finish [(4, none)])))) ([.val x0, .val x1, .val x5], [])
theorem laws_szVersionSS_eq (E : Env) (a0 : U) (a1 : U) : run E laws_szVersionSS_ac [(4, none)] [a0, a1] =
 (U.lenOf false a0).bind fun n1 => (U.bin .sub a1 (.int .i64 (n1 : Int))).bind fun t2 => (U.bin .lss t2 (.int .i64 0)).bind fun t3 => U.asBool t3
 (some (.int .i64 (-1)))
 (laws_szVersionSS_l0 E a0 t2 (.int .i64 0)) := by kernel_rfl
theorem laws_szVersionSS_l0_eq (E : Env) (x0 : U) (x1 : U) (x5 : U) : laws_szVersionSS_l0 E x0 x1 x5 =
 (U.lenOf false x0).bind fun n4 => (U.bin .lss x5 (.int .i64 (n4 : Int))).bind fun t5 => U.asBool t5
 (U.asInt x5 fun n6 => U.elemAt 1 x0 n6 fun e7 => U.asVar false 1 e7 fun e8 => (E 101 [e8, x1]).bind fun t9 => (U.bin .lss t9 (.int .i64 0)).bind fun t10 => U.asBool t10
 (some (.int .i64 (-1)))
 ((U.bin .add x5 (.int .i64 1)).bind fun t11 => laws_szVersionSS_l0 E x0 t9 t11))
 (some x1) :=
 (loop_eq E _ _ _ _).trans (by kernel_rfl)

/-- In the environment E: this function and those that it calls. -/
structure G_laws_szVersionSS (E : Env) : Prop where
  is : Is E 100 2 laws_szVersionSS_ac [(4, none)]
  c_laws_szVersionS : G_laws_szVersionS E
theorem laws_szVersionSS_E {E : Env} (h : G_laws_szVersionSS E) (a0 a1 : U) : E 100 [a0, a1] =
 (U.lenOf false a0).bind fun n1 => (U.bin .sub a1 (.int .i64 (n1 : Int))).bind fun t2 => (U.bin .lss t2 (.int .i64 0)).bind fun t3 => U.asBool t3
 (some (.int .i64 (-1)))
 (laws_szVersionSS_l0 E a0 t2 (.int .i64 0)) := (h.is _ rfl).trans (laws_szVersionSS_eq E a0 a1)

end Go.Proofs.YtcmkhpjehecloaaGreat.Am
namespace Go.Proofs.YtcmkhpjehecloaaGreat.Am
open Go
set_option linter.unusedVariables false
set_option maxRecDepth 100000

/- loop.example/g01924/laws.szStore -/
def laws_szStore_ac : AC :=
 (.seq (.region 0 [⟨some 2, .box false (.t 0), none⟩,
  ⟨some 4, .mv (.c (.int .i64 0)), none⟩])
 (.seq (.region 0 [⟨some 5, .faddr 0 0 (.t 2), none⟩,
  ⟨some 6, .load false 1 (.t 5), none⟩,
  ⟨some 7, .mv (.t 1), none⟩,
  ⟨some 8, .call false 100 [(.t 6), (.t 7)], none⟩,
  ⟨some 1, .mv (.t 8), none⟩])
 (.seq (.seq (.region 0 [⟨some 9, .mv (.t 1), none⟩,
  ⟨some 10, .bin .lss (.t 9) (.c (.int .i64 0)), none⟩])
 (.cond (.t 10) (.seq (.region 0 [⟨some 4, .mv (.c (.int .i64 (-1))), none⟩])
 .ret) .skip))
 (.seq (.region 0 [⟨some 11, .mv (.t 1), none⟩,
  ⟨some 4, .mv (.t 11), none⟩])
 .ret))))

theorem laws_szStore_eq (E : Env) (a0 : U) (a1 : U) : run E laws_szStore_ac [(4, none)] [a0, a1] =
 U.noTup a0 fun x1 => U.asAgg x1 fun us2 => if 0 = sizes (us2.take 0) then (us2[0]?).bind fun e3 => U.asVar false 1 e3 fun e4 => (E 100 [e4, a1]).bind fun t5 => (U.bin .lss t5 (.int .i64 0)).bind fun t6 => U.asBool t6
 (some (.int .i64 (-1)))
 (some t5) else none := by kernel_rfl

/-- In the environment E: this function and those that it calls. -/
structure G_laws_szStore (E : Env) : Prop where
  is : Is E 99 2 laws_szStore_ac [(4, none)]
  c_laws_szVersionSS : G_laws_szVersionSS E
theorem laws_szStore_E {E : Env} (h : G_laws_szStore E) (a0 a1 : U) : E 99 [a0, a1] =
 U.noTup a0 fun x1 => U.asAgg x1 fun us2 => if 0 = sizes (us2.take 0) then (us2[0]?).bind fun e3 => U.asVar false 1 e3 fun e4 => (E 100 [e4, a1]).bind fun t5 => (U.bin .lss t5 (.int .i64 0)).bind fun t6 => U.asBool t6
 (some (.int .i64 (-1)))
 (some t5) else none := (h.is _ rfl).trans (laws_szStore_eq E a0 a1)

end Go.Proofs.YtcmkhpjehecloaaGreat.Am
namespace Go.Proofs.YtcmkhpjehecloaaGreat.Am
open Go
set_option linter.unusedVariables false
set_option maxRecDepth 100000

/- loop.example/g01924/laws.szReadMarkS -/
def laws_szReadMarkS_ac : AC :=
 (.seq (.region 0 [⟨some 4, .mv (.c (.int .i64 0)), none⟩])
 (.seq (.region 0 [⟨some 5, .mv (.t 1), none⟩,
  ⟨some 6, .mv (.t 0), none⟩,
  ⟨some 7, .len false (.t 6), none⟩,
  ⟨some 8, .bin .sub (.t 5) (.t 7), none⟩,
  ⟨some 1, .mv (.t 8), none⟩])
 (.seq (.seq (.region 0 [⟨some 9, .mv (.t 1), none⟩,
  ⟨some 10, .bin .lss (.t 9) (.c (.int .i64 0)), none⟩])
 (.cond (.t 10) (.seq (.region 0 [⟨some 4, .mv (.c (.int .i64 (-1))), none⟩])
 .ret) .skip))
 (.seq (.region 0 [⟨some 11, .mv (.t 1), none⟩,
  ⟨some 4, .mv (.t 11), none⟩])
 .ret))))

theorem laws_szReadMarkS_eq (E : Env) (a0 : U) (a1 : U) : run E laws_szReadMarkS_ac [(4, none)] [a0, a1] =
 (U.lenOf false a0).bind fun n1 => (U.bin .sub a1 (.int .i64 (n1 : Int))).bind fun t2 => (U.bin .lss t2 (.int .i64 0)).bind fun t3 => U.asBool t3
 (some (.int .i64 (-1)))
 (some t2) := by kernel_rfl

/-- In the environment E: this function and those that it calls. -/
structure G_laws_szReadMarkS (E : Env) : Prop where
  is : Is E 24 2 laws_szReadMarkS_ac [(4, none)]
theorem laws_szReadMarkS_E {E : Env} (h : G_laws_szReadMarkS E) (a0 a1 : U) : E 24 [a0, a1] =
 (U.lenOf false a0).bind fun n1 => (U.bin .sub a1 (.int .i64 (n1 : Int))).bind fun t2 => (U.bin .lss t2 (.int .i64 0)).bind fun t3 => U.asBool t3
 (some (.int .i64 (-1)))
 (some t2) := (h.is _ rfl).trans (laws_szReadMarkS_eq E a0 a1)

end Go.Proofs.YtcmkhpjehecloaaGreat.Am
namespace Go.Proofs.YtcmkhpjehecloaaGreat.Am
open Go
set_option linter.unusedVariables false
set_option maxRecDepth 100000

/- loop.example/g01924/laws.szWriteS -/
def laws_szWriteS_ac : AC :=
 (.seq (.region 0 [⟨some 4, .mv (.c (.int .i64 0)), none⟩])
 (.seq (.region 0 [⟨some 5, .mv (.t 1), none⟩,
  ⟨some 6, .mv (.t 0), none⟩,
  ⟨some 7, .len false (.t 6), none⟩,
  ⟨some 8, .bin .sub (.t 5) (.t 7), none⟩,
  ⟨some 1, .mv (.t 8), none⟩])
 (.seq (.seq (.region 0 [⟨some 9, .mv (.t 1), none⟩,
  ⟨some 10, .bin .lss (.t 9) (.c (.int .i64 0)), none⟩])
 (.cond (.t 10) (.seq (.region 0 [⟨some 4, .mv (.c (.int .i64 (-1))), none⟩])
 .ret) .skip))
 (.seq (.region 0 [⟨some 11, .mv (.t 1), none⟩,
  ⟨some 4, .mv (.t 11), none⟩])
 .ret))))

theorem laws_szWriteS_eq (E : Env) (a0 : U) (a1 : U) : run E laws_szWriteS_ac [(4, none)] [a0, a1] =
 (U.lenOf false a0).bind fun n1 => (U.bin .sub a1 (.int .i64 (n1 : Int))).bind fun t2 => (U.bin .lss t2 (.int .i64 0)).bind fun t3 => U.asBool t3
 (some (.int .i64 (-1)))
 (some t2) := by kernel_rfl

/-- In the environment E: this function and those that it calls. -/
structure G_laws_szWriteS (E : Env) : Prop where
  is : Is E 23 2 laws_szWriteS_ac [(4, none)]
theorem laws_szWriteS_E {E : Env} (h : G_laws_szWriteS E) (a0 a1 : U) : E 23 [a0, a1] =
 (U.lenOf false a0).bind fun n1 => (U.bin .sub a1 (.int .i64 (n1 : Int))).bind fun t2 => (U.bin .lss t2 (.int .i64 0)).bind fun t3 => U.asBool t3
 (some (.int .i64 (-1)))
 (some t2) := (h.is _ rfl).trans (laws_szWriteS_eq E a0 a1)

end Go.Proofs.YtcmkhpjehecloaaGreat.Am
namespace Go.Proofs.YtcmkhpjehecloaaGreat.Am
open Go
set_option linter.unusedVariables false
set_option maxRecDepth 100000

/- loop.example/g01924/laws.szTransaction -/
def laws_szTransaction_ac : AC :=
 (.seq (.region 0 [⟨some 2, .box false (.t 0), none⟩,
  ⟨some 4, .mv (.c (.int .i64 0)), none⟩])
 (.seq (.region 0 [⟨some 5, .faddr 7 7 (.t 2), none⟩,
  ⟨some 6, .load false 1 (.t 5), none⟩,
  ⟨some 7, .mv (.t 1), none⟩,
  ⟨some 8, .call false 24 [(.t 6), (.t 7)], none⟩,
  ⟨some 1, .mv (.t 8), none⟩])
 (.seq (.seq (.region 0 [⟨some 9, .mv (.t 1), none⟩,
  ⟨some 10, .bin .lss (.t 9) (.c (.int .i64 0)), none⟩])
 (.cond (.t 10) (.seq (.region 0 [⟨some 4, .mv (.c (.int .i64 (-1))), none⟩])
 .ret) .skip))
 (.seq (.region 0 [⟨some 11, .faddr 8 8 (.t 2), none⟩,
  ⟨some 12, .load false 1 (.t 11), none⟩,
  ⟨some 13, .mv (.t 1), none⟩,
  ⟨some 14, .call false 23 [(.t 12), (.t 13)], none⟩,
  ⟨some 1, .mv (.t 14), none⟩])
 (.seq (.seq (.region 0 [⟨some 15, .mv (.t 1), none⟩,
  ⟨some 16, .bin .lss (.t 15) (.c (.int .i64 0)), none⟩])
 (.cond (.t 16) (.seq (.region 0 [⟨some 4, .mv (.c (.int .i64 (-1))), none⟩])
 .ret) .skip))
 (.seq (.region 0 [⟨some 17, .mv (.t 1), none⟩,
  ⟨some 4, .mv (.t 17), none⟩])
 .ret))))))

theorem laws_szTransaction_eq (E : Env) (a0 : U) (a1 : U) : run E laws_szTransaction_ac [(4, none)] [a0, a1] =
 U.noTup a0 fun x1 => U.asAgg x1 fun us2 => if 7 = sizes (us2.take 7) then (us2[7]?).bind fun e3 => U.asVar false 1 e3 fun e4 => (E 24 [e4, a1]).bind fun t5 => (U.bin .lss t5 (.int .i64 0)).bind fun t6 => U.asBool t6
 (some (.int .i64 (-1)))
 (U.asAgg x1 fun us7 => if 8 = sizes (us7.take 8) then (us7[8]?).bind fun e8 => U.asVar false 1 e8 fun e9 => (E 23 [e9, t5]).bind fun t10 => (U.bin .lss t10 (.int .i64 0)).bind fun t11 => U.asBool t11
 (some (.int .i64 (-1)))
 (some t10) else none) else none := by kernel_rfl

/-- In the environment E: this function and those that it calls. -/
structure G_laws_szTransaction (E : Env) : Prop where
  is : Is E 132 2 laws_szTransaction_ac [(4, none)]
  c_laws_szReadMarkS : G_laws_szReadMarkS E
  c_laws_szWriteS : G_laws_szWriteS E
theorem laws_szTransaction_E {E : Env} (h : G_laws_szTransaction E) (a0 a1 : U) : E 132 [a0, a1] =
 U.noTup a0 fun x1 => U.asAgg x1 fun us2 => if 7 = sizes (us2.take 7) then (us2[7]?).bind fun e3 => U.asVar false 1 e3 fun e4 => (E 24 [e4, a1]).bind fun t5 => (U.bin .lss t5 (.int .i64 0)).bind fun t6 => U.asBool t6
 (some (.int .i64 (-1)))
 (U.asAgg x1 fun us7 => if 8 = sizes (us7.take 8) then (us7[8]?).bind fun e8 => U.asVar false 1 e8 fun e9 => (E 23 [e9, t5]).bind fun t10 => (U.bin .lss t10 (.int .i64 0)).bind fun t11 => U.asBool t11
 (some (.int .i64 (-1)))
 (some t10) else none) else none := (h.is _ rfl).trans (laws_szTransaction_eq E a0 a1)

end Go.Proofs.YtcmkhpjehecloaaGreat.Am
namespace Go.Proofs.YtcmkhpjehecloaaGreat.Am
open Go
set_option linter.unusedVariables false
set_option maxRecDepth 100000

/- loop.example/g01924/laws.szTransactionS -/
def laws_szTransactionS_b0 : AC :=
 (.seq (.seq (.region 0 [⟨some 12, .mv (.t 5), none⟩,
  ⟨some 13, .mv (.t 0), none⟩,
  ⟨some 14, .len false (.t 13), none⟩,
  ⟨some 15, .bin .lss (.t 12) (.t 14), none⟩])
 (.cond (.t 15) .skip (.exit 0)))
 (.seq (.block 1 (.seq (.region 0 [⟨some 18, .mv (.t 0), none⟩,
  ⟨some 19, .mv (.t 5), none⟩,
  ⟨some 20, .iaddr 9 (.t 18) (.t 19), none⟩,
  ⟨some 21, .load true 9 (.t 20), none⟩,
  ⟨some 22, .mv (.t 1), none⟩,
  ⟨some 23, .call false 132 [(.t 21), (.t 22)], none⟩,
  ⟨some 1, .mv (.t 23), none⟩])
 (.seq (.region 0 [⟨some 24, .mv (.t 1), none⟩,
  ⟨some 25, .bin .lss (.t 24) (.c (.int .i64 0)), none⟩])
 (.cond (.t 25) (.seq (.region 0 [⟨some 4, .mv (.c (.int .i64 (-1))), none⟩])
 .ret) .skip))))
 (.region 0 [⟨some 16, .mv (.t 5), none⟩,
  ⟨some 17, .bin .add (.t 16) (.c (.int .i64 1)), none⟩,
  ⟨some 5, .mv (.t 17), none⟩])))
def laws_szTransactionS_r0 : AC :=
 (.seq (.region 0 [⟨some 26, .mv (.t 1), none⟩,
  ⟨some 4, .mv (.t 26), none⟩])
 .ret)
def laws_szTransactionS_ac : AC :=
 (.seq (.region 0 [⟨some 4, .mv (.c (.int .i64 0)), none⟩])
 (.seq (.region 0 [⟨some 6, .mv (.t 1), none⟩,
  ⟨some 7, .mv (.t 0), none⟩,
  ⟨some 8, .len false (.t 7), none⟩,
  ⟨some 9, .bin .sub (.t 6) (.t 8), none⟩,
  ⟨some 1, .mv (.t 9), none⟩])
 (.seq (.seq (.region 0 [⟨some 10, .mv (.t 1), none⟩,
  ⟨some 11, .bin .lss (.t 10) (.c (.int .i64 0)), none⟩])
 (.cond (.t 11) (.seq (.region 0 [⟨some 4, .mv (.c (.int .i64 (-1))), none⟩])
 .ret) .skip))
 (.seq (.seq (.region 0 [⟨some 5, .mv (.c (.int .i64 0)), none⟩])
 (.block 0 (.loop ⟨[0, 1, 5], [], []⟩ laws_szTransactionS_b0)))
 laws_szTransactionS_r0))))
noncomputable def laws_szTransactionS_l0 (E : Env) (x0 : U) (x1 : U) (x5 : U) : Option U := loopK (roundOf E ⟨[0, 1, 5], [], []⟩ laws_szTransactionS_b0 (blockK 0 (seqK (fun s => exec E laws_szTransactionS_r0 s (finish [(4, none)])) (finish [(4, none)])))) ([.val x0, .val x1, .val x5], [])
theorem laws_szTransactionS_eq (E : Env) (a0 : U) (a1 : U) : run E laws_szTransactionS_ac [(4, none)] [a0, a1] =
 (U.lenOf false a0).bind fun n1 => (U.bin .sub a1 (.int .i64 (n1 : Int))).bind fun t2 => (U.bin .lss t2 (.int .i64 0)).bind fun t3 => U.asBool t3
 (some (.int .i64 (-1)))
 (laws_szTransactionS_l0 E a0 t2 (.int .i64 0)) := by kernel_rfl
theorem laws_szTransactionS_l0_eq (E : Env) (x0 : U) (x1 : U) (x5 : U) : laws_szTransactionS_l0 E x0 x1 x5 =
 (U.lenOf false x0).bind fun n4 => (U.bin .lss x5 (.int .i64 (n4 : Int))).bind fun t5 => U.asBool t5
 (U.asInt x5 fun n6 => U.elemAt 9 x0 n6 fun e7 => U.asVar true 9 e7 fun e8 => (E 132 [e8, x1]).bind fun t9 => (U.bin .lss t9 (.int .i64 0)).bind fun t10 => U.asBool t10
 (some (.int .i64 (-1)))
 ((U.bin .add x5 (.int .i64 1)).bind fun t11 => laws_szTransactionS_l0 E x0 t9 t11))
 (some x1) :=
 (loop_eq E _ _ _ _).trans (by kernel_rfl)

/-- In the environment E: this function and those that it calls. -/
structure G_laws_szTransactionS (E : Env) : Prop where
  is : Is E 131 2 laws_szTransactionS_ac [(4, none)]
  c_laws_szTransaction : G_laws_szTransaction E
theorem laws_szTransactionS_E {E : Env} (h : G_laws_szTransactionS E) (a0 a1 : U) : E 131 [a0, a1] =
 (U.lenOf false a0).bind fun n1 => (U.bin .sub a1 (.int .i64 (n1 : Int))).bind fun t2 => (U.bin .lss t2 (.int .i64 0)).bind fun t3 => U.asBool t3
 (some (.int .i64 (-1)))
 (laws_szTransactionS_l0 E a0 t2 (.int .i64 0)) := (h.is _ rfl).trans (laws_szTransactionS_eq E a0 a1)

end Go.Proofs.YtcmkhpjehecloaaGreat.Am
namespace Go.Proofs.YtcmkhpjehecloaaGreat.Am
open Go
set_option linter.unusedVariables false
set_option maxRecDepth 100000

/- loop.example/g01924/laws.szLockS -/
def laws_szLockS_ac : AC :=
 (.seq (.region 0 [⟨some 4, .mv (.c (.int .i64 0)), none⟩])
 (.seq (.region 0 [⟨some 5, .mv (.t 1), none⟩,
  ⟨some 6, .mv (.t 0), none⟩,
  ⟨some 7, .len false (.t 6), none⟩,
  ⟨some 8, .bin .sub (.t 5) (.t 7), none⟩,
  ⟨some 1, .mv (.t 8), none⟩])
 (.seq (.seq (.region 0 [⟨some 9, .mv (.t 1), none⟩,
  ⟨some 10, .bin .lss (.t 9) (.c (.int .i64 0)), none⟩])
 (.cond (.t 10) (.seq (.region 0 [⟨some 4, .mv (.c (.int .i64 (-1))), none⟩])
 .ret) .skip))
 (.seq (.region 0 [⟨some 11, .mv (.t 1), none⟩,
  ⟨some 4, .mv (.t 11), none⟩])
 .ret))))

theorem laws_szLockS_eq (E : Env) (a0 : U) (a1 : U) : run E laws_szLockS_ac [(4, none)] [a0, a1] =
 (U.lenOf false a0).bind fun n1 => (U.bin .sub a1 (.int .i64 (n1 : Int))).bind fun t2 => (U.bin .lss t2 (.int .i64 0)).bind fun t3 => U.asBool t3
 (some (.int .i64 (-1)))
 (some t2) := by kernel_rfl

/-- In the environment E: this function and those that it calls. -/
structure G_laws_szLockS (E : Env) : Prop where
  is : Is E 130 2 laws_szLockS_ac [(4, none)]
theorem laws_szLockS_E {E : Env} (h : G_laws_szLockS E) (a0 a1 : U) : E 130 [a0, a1] =
 (U.lenOf false a0).bind fun n1 => (U.bin .sub a1 (.int .i64 (n1 : Int))).bind fun t2 => (U.bin .lss t2 (.int .i64 0)).bind fun t3 => U.asBool t3
 (some (.int .i64 (-1)))
 (some t2) := (h.is _ rfl).trans (laws_szLockS_eq E a0 a1)

end Go.Proofs.YtcmkhpjehecloaaGreat.Am
namespace Go.Proofs.YtcmkhpjehecloaaGreat.Am
open Go
set_option linter.unusedVariables false
set_option maxRecDepth 100000

/- loop.example/g01924/laws.szWaitS -/
def laws_szWaitS_ac : AC :=
 (.seq (.region 0 [⟨some 4, .mv (.c (.int .i64 0)), none⟩])
 (.seq (.region 0 [⟨some 5, .mv (.t 1), none⟩,
  ⟨some 6, .mv (.t 0), none⟩,
  ⟨some 7, .len false (.t 6), none⟩,
  ⟨some 8, .bin .sub (.t 5) (.t 7), none⟩,
  ⟨some 1, .mv (.t 8), none⟩])
 (.seq (.seq (.region 0 [⟨some 9, .mv (.t 1), none⟩,
  ⟨some 10, .bin .lss (.t 9) (.c (.int .i64 0)), none⟩])
 (.cond (.t 10) (.seq (.region 0 [⟨some 4, .mv (.c (.int .i64 (-1))), none⟩])
 .ret) .skip))
 (.seq (.region 0 [⟨some 11, .mv (.t 1), none⟩,
  ⟨some 4, .mv (.t 11), none⟩])
 .ret))))

theorem laws_szWaitS_eq (E : Env) (a0 : U) (a1 : U) : run E laws_szWaitS_ac [(4, none)] [a0, a1] =
 (U.lenOf false a0).bind fun n1 => (U.bin .sub a1 (.int .i64 (n1 : Int))).bind fun t2 => (U.bin .lss t2 (.int .i64 0)).bind fun t3 => U.asBool t3
 (some (.int .i64 (-1)))
 (some t2) := by kernel_rfl

/-- In the environment E: this function and those that it calls. -/
structure G_laws_szWaitS (E : Env) : Prop where
  is : Is E 129 2 laws_szWaitS_ac [(4, none)]
theorem laws_szWaitS_E {E : Env} (h : G_laws_szWaitS E) (a0 a1 : U) : E 129 [a0, a1] =
 (U.lenOf false a0).bind fun n1 => (U.bin .sub a1 (.int .i64 (n1 : Int))).bind fun t2 => (U.bin .lss t2 (.int .i64 0)).bind fun t3 => U.asBool t3
 (some (.int .i64 (-1)))
 (some t2) := (h.is _ rfl).trans (laws_szWaitS_eq E a0 a1)

end Go.Proofs.YtcmkhpjehecloaaGreat.Am
namespace Go.Proofs.YtcmkhpjehecloaaGreat.Am
open Go
set_option linter.unusedVariables false
set_option maxRecDepth 100000

/- loop.example/g01924/laws.szEngine -/
def laws_szEngine_ac : AC :=
 (.seq (.region 0 [⟨some 2, .box false (.t 0), none⟩,
  ⟨some 4, .mv (.c (.int .i64 0)), none⟩])
 (.seq (.region 0 [⟨some 5, .faddr 1 1 (.t 2), none⟩,
  ⟨some 6, .load true 1 (.t 5), none⟩,
  ⟨some 7, .mv (.t 1), none⟩,
  ⟨some 8, .call false 99 [(.t 6), (.t 7)], none⟩,
  ⟨some 1, .mv (.t 8), none⟩])
 (.seq (.seq (.region 0 [⟨some 9, .mv (.t 1), none⟩,
  ⟨some 10, .bin .lss (.t 9) (.c (.int .i64 0)), none⟩])
 (.cond (.t 10) (.seq (.region 0 [⟨some 4, .mv (.c (.int .i64 (-1))), none⟩])
 .ret) .skip))
 (.seq (.region 0 [⟨some 11, .faddr 2 2 (.t 2), none⟩,
  ⟨some 12, .load false 1 (.t 11), none⟩,
  ⟨some 13, .mv (.t 1), none⟩,
  ⟨some 14, .call false 131 [(.t 12), (.t 13)], none⟩,
  ⟨some 1, .mv (.t 14), none⟩])
 (.seq (.seq (.region 0 [⟨some 15, .mv (.t 1), none⟩,
  ⟨some 16, .bin .lss (.t 15) (.c (.int .i64 0)), none⟩])
 (.cond (.t 16) (.seq (.region 0 [⟨some 4, .mv (.c (.int .i64 (-1))), none⟩])
 .ret) .skip))
 (.seq (.region 0 [⟨some 17, .faddr 3 3 (.t 2), none⟩,
  ⟨some 18, .load false 1 (.t 17), none⟩,
  ⟨some 19, .mv (.t 1), none⟩,
  ⟨some 20, .call false 130 [(.t 18), (.t 19)], none⟩,
  ⟨some 1, .mv (.t 20), none⟩])
 (.seq (.seq (.region 0 [⟨some 21, .mv (.t 1), none⟩,
  ⟨some 22, .bin .lss (.t 21) (.c (.int .i64 0)), none⟩])
 (.cond (.t 22) (.seq (.region 0 [⟨some 4, .mv (.c (.int .i64 (-1))), none⟩])
 .ret) .skip))
 (.seq (.region 0 [⟨some 23, .faddr 4 4 (.t 2), none⟩,
  ⟨some 24, .load false 1 (.t 23), none⟩,
  ⟨some 25, .mv (.t 1), none⟩,
  ⟨some 26, .call false 129 [(.t 24), (.t 25)], none⟩,
  ⟨some 1, .mv (.t 26), none⟩])
 (.seq (.seq (.region 0 [⟨some 27, .mv (.t 1), none⟩,
  ⟨some 28, .bin .lss (.t 27) (.c (.int .i64 0)), none⟩])
 (.cond (.t 28) (.seq (.region 0 [⟨some 4, .mv (.c (.int .i64 (-1))), none⟩])
 .ret) .skip))
 (.seq (.region 0 [⟨some 29, .mv (.t 1), none⟩,
  ⟨some 4, .mv (.t 29), none⟩])
 .ret))))))))))

theorem laws_szEngine_eq (E : Env) (a0 : U) (a1 : U) : run E laws_szEngine_ac [(4, none)] [a0, a1] =
 U.noTup a0 fun x1 => U.asAgg x1 fun us2 => if 1 = sizes (us2.take 1) then (us2[1]?).bind fun e3 => U.asVar true 1 e3 fun e4 => (E 99 [e4, a1]).bind fun t5 => (U.bin .lss t5 (.int .i64 0)).bind fun t6 => U.asBool t6
 (some (.int .i64 (-1)))
 (U.asAgg x1 fun us7 => if 2 = sizes (us7.take 2) then (us7[2]?).bind fun e8 => U.asVar false 1 e8 fun e9 => (E 131 [e9, t5]).bind fun t10 => (U.bin .lss t10 (.int .i64 0)).bind fun t11 => U.asBool t11
 (some (.int .i64 (-1)))
 (U.asAgg x1 fun us12 => if 3 = sizes (us12.take 3) then (us12[3]?).bind fun e13 => U.asVar false 1 e13 fun e14 => (E 130 [e14, t10]).bind fun t15 => (U.bin .lss t15 (.int .i64 0)).bind fun t16 => U.asBool t16
 (some (.int .i64 (-1)))
 (U.asAgg x1 fun us17 => if 4 = sizes (us17.take 4) then (us17[4]?).bind fun e18 => U.asVar false 1 e18 fun e19 => (E 129 [e19, t15]).bind fun t20 => (U.bin .lss t20 (.int .i64 0)).bind fun t21 => U.asBool t21
 (some (.int .i64 (-1)))
 (some t20) else none) else none) else none) else none := by kernel_rfl

/-- In the environment E: this function and those that it calls. -/
structure G_laws_szEngine (E : Env) : Prop where
  is : Is E 128 2 laws_szEngine_ac [(4, none)]
  c_laws_szStore : G_laws_szStore E
  c_laws_szTransactionS : G_laws_szTransactionS E
  c_laws_szLockS : G_laws_szLockS E
  c_laws_szWaitS : G_laws_szWaitS E
theorem laws_szEngine_E {E : Env} (h : G_laws_szEngine E) (a0 a1 : U) : E 128 [a0, a1] =
 U.noTup a0 fun x1 => U.asAgg x1 fun us2 => if 1 = sizes (us2.take 1) then (us2[1]?).bind fun e3 => U.asVar true 1 e3 fun e4 => (E 99 [e4, a1]).bind fun t5 => (U.bin .lss t5 (.int .i64 0)).bind fun t6 => U.asBool t6
 (some (.int .i64 (-1)))
 (U.asAgg x1 fun us7 => if 2 = sizes (us7.take 2) then (us7[2]?).bind fun e8 => U.asVar false 1 e8 fun e9 => (E 131 [e9, t5]).bind fun t10 => (U.bin .lss t10 (.int .i64 0)).bind fun t11 => U.asBool t11
 (some (.int .i64 (-1)))
 (U.asAgg x1 fun us12 => if 3 = sizes (us12.take 3) then (us12[3]?).bind fun e13 => U.asVar false 1 e13 fun e14 => (E 130 [e14, t10]).bind fun t15 => (U.bin .lss t15 (.int .i64 0)).bind fun t16 => U.asBool t16
 (some (.int .i64 (-1)))
 (U.asAgg x1 fun us17 => if 4 = sizes (us17.take 4) then (us17[4]?).bind fun e18 => U.asVar false 1 e18 fun e19 => (E 129 [e19, t15]).bind fun t20 => (U.bin .lss t20 (.int .i64 0)).bind fun t21 => U.asBool t21
 (some (.int .i64 (-1)))
 (some t20) else none) else none) else none) else none := (h.is _ rfl).trans (laws_szEngine_eq E a0 a1)

end Go.Proofs.YtcmkhpjehecloaaGreat.Am
namespace Go.Proofs.YtcmkhpjehecloaaGreat.Am
open Go
set_option linter.unusedVariables false
set_option maxRecDepth 100000

/- loop.example/g01924/laws.toVersion -/
def laws_toVersion_ac : AC :=
 (.seq (.region 0 [⟨some 1, .box false (.t 0), none⟩,
  ⟨some 2, .alloc (.agg [(.int .i64 0), (.int .i64 0), (.int .i64 0), (.int .i64 0), (.int .i64 0)]), none⟩])
 (.seq (.region 0 [⟨some 3, .alloc (.agg [(.int .i64 0), (.int .i64 0), (.int .i64 0), (.int .i64 0), (.int .i64 0)]), none⟩])
 (.seq (.region 0 [⟨some 4, .faddr 0 0 (.t 1), none⟩,
  ⟨some 5, .load false 1 (.t 4), none⟩,
  ⟨some 6, .faddr 0 0 (.t 3), none⟩,
  ⟨none, .store 1 (.t 6) (.t 5), none⟩])
 (.seq (.region 0 [⟨some 7, .faddr 1 1 (.t 1), none⟩,
  ⟨some 8, .load false 1 (.t 7), none⟩,
  ⟨some 9, .faddr 1 1 (.t 3), none⟩,
  ⟨none, .store 1 (.t 9) (.t 8), none⟩])
 (.seq (.region 0 [⟨some 10, .faddr 2 2 (.t 1), none⟩,
  ⟨some 11, .load false 1 (.t 10), none⟩,
  ⟨some 12, .faddr 2 2 (.t 3), none⟩,
  ⟨none, .store 1 (.t 12) (.t 11), none⟩])
 (.seq (.region 0 [⟨some 13, .faddr 3 3 (.t 1), none⟩,
  ⟨some 14, .load false 1 (.t 13), none⟩,
  ⟨some 15, .faddr 3 3 (.t 3), none⟩,
  ⟨none, .store 1 (.t 15) (.t 14), none⟩])
 (.seq (.region 0 [⟨some 16, .faddr 4 4 (.t 1), none⟩,
  ⟨some 17, .load false 1 (.t 16), none⟩,
  ⟨some 18, .faddr 4 4 (.t 3), none⟩,
  ⟨none, .store 1 (.t 18) (.t 17), none⟩])
 (.seq (.region 0 [⟨some 19, .load true 5 (.t 3), none⟩,
  ⟨none, .store 5 (.t 2) (.t 19), none⟩])
 .ret))))))))

theorem laws_toVersion_eq (E : Env) (a0 : U) : run E laws_toVersion_ac [(2, some (true, 5))] [a0] =
 U.noTup a0 fun x1 => U.asAgg x1 fun us2 => if 0 = sizes (us2.take 0) then (us2[0]?).bind fun e3 => U.asVar false 1 e3 fun e4 => if storable (.val e4) = true ∧ e4.size = 1 then U.asAgg x1 fun us5 => if 1 = sizes (us5.take 1) then (us5[1]?).bind fun e6 => U.asVar false 1 e6 fun e7 => if storable (.val e7) = true ∧ e7.size = 1 then if 1 = sizes [e4] then U.asAgg x1 fun us8 => if 2 = sizes (us8.take 2) then (us8[2]?).bind fun e9 => U.asVar false 1 e9 fun e10 => if storable (.val e10) = true ∧ e10.size = 1 then if 2 = sizes [e4, e7] then U.asAgg x1 fun us11 => if 3 = sizes (us11.take 3) then (us11[3]?).bind fun e12 => U.asVar false 1 e12 fun e13 => if storable (.val e13) = true ∧ e13.size = 1 then if 3 = sizes [e4, e7, e10] then U.asAgg x1 fun us14 => if 4 = sizes (us14.take 4) then (us14[4]?).bind fun e15 => U.asVar false 1 e15 fun e16 => if storable (.val e16) = true ∧ e16.size = 1 then if 4 = sizes [e4, e7, e10, e13] then U.asVar true 5 (.agg [e4, e7, e10, e13, e16]) fun e17 => if storable (.val e17) = true ∧ e17.size = 5 then U.asVar true 5 e17 fun e18 => some e18 else none else none else none else none else none else none else none else none else none else none else none else none else none else none else none := by kernel_rfl

/-- In the environment E: this function and those that it calls. -/
structure G_laws_toVersion (E : Env) : Prop where
  is : Is E 109 1 laws_toVersion_ac [(2, some (true, 5))]
theorem laws_toVersion_E {E : Env} (h : G_laws_toVersion E) (a0 : U) : E 109 [a0] =
 U.noTup a0 fun x1 => U.asAgg x1 fun us2 => if 0 = sizes (us2.take 0) then (us2[0]?).bind fun e3 => U.asVar false 1 e3 fun e4 => if storable (.val e4) = true ∧ e4.size = 1 then U.asAgg x1 fun us5 => if 1 = sizes (us5.take 1) then (us5[1]?).bind fun e6 => U.asVar false 1 e6 fun e7 => if storable (.val e7) = true ∧ e7.size = 1 then if 1 = sizes [e4] then U.asAgg x1 fun us8 => if 2 = sizes (us8.take 2) then (us8[2]?).bind fun e9 => U.asVar false 1 e9 fun e10 => if storable (.val e10) = true ∧ e10.size = 1 then if 2 = sizes [e4, e7] then U.asAgg x1 fun us11 => if 3 = sizes (us11.take 3) then (us11[3]?).bind fun e12 => U.asVar false 1 e12 fun e13 => if storable (.val e13) = true ∧ e13.size = 1 then if 3 = sizes [e4, e7, e10] then U.asAgg x1 fun us14 => if 4 = sizes (us14.take 4) then (us14[4]?).bind fun e15 => U.asVar false 1 e15 fun e16 => if storable (.val e16) = true ∧ e16.size = 1 then if 4 = sizes [e4, e7, e10, e13] then U.asVar true 5 (.agg [e4, e7, e10, e13, e16]) fun e17 => if storable (.val e17) = true ∧ e17.size = 5 then U.asVar true 5 e17 fun e18 => some e18 else none else none else none else none else none else none else none else none else none else none else none else none else none else none else none := (h.is _ rfl).trans (laws_toVersion_eq E a0)

end Go.Proofs.YtcmkhpjehecloaaGreat.Am
namespace Go.Proofs.YtcmkhpjehecloaaGreat.Am
open Go
set_option linter.unusedVariables false
set_option maxRecDepth 100000

/- loop.example/g01924/laws.toVersionS -/
def laws_toVersionS_b0 : AC :=
 (.seq (.seq (.region 0 [⟨some 8, .mv (.t 4), none⟩,
  ⟨some 9, .mv (.t 0), none⟩,
  ⟨some 10, .len false (.t 9), none⟩,
  ⟨some 11, .bin .lss (.t 8) (.t 10), none⟩])
 (.cond (.t 11) .skip (.exit 0)))
 (.seq (.block 1 (.region 0 [⟨some 14, .mv (.t 3), none⟩,
  ⟨some 15, .mv (.t 4), none⟩,
  ⟨some 16, .mv (.t 0), none⟩,
  ⟨some 17, .mv (.t 4), none⟩,
  ⟨some 18, .iaddr 5 (.t 16) (.t 17), none⟩,
  ⟨some 19, .load true 5 (.t 18), none⟩,
  ⟨some 20, .call false 109 [(.t 19)], none⟩,
  ⟨some 21, .iaddr 5 (.t 14) (.t 15), none⟩,
  ⟨none, .store 5 (.t 21) (.t 20), none⟩]))
 (.region 0 [⟨some 12, .mv (.t 4), none⟩,
  ⟨some 13, .bin .add (.t 12) (.c (.int .i64 1)), none⟩,
  ⟨some 4, .mv (.t 13), none⟩])))
def laws_toVersionS_r0 : AC :=
 (.seq (.region 0 [⟨some 22, .mv (.t 3), none⟩,
  ⟨some 2, .mv (.t 22), none⟩])
 .ret)
def laws_toVersionS_ac : AC :=
 (.seq (.region 0 [⟨some 2, .mv (.c (.nsl 5)), none⟩])
 (.seq (.region 0 [⟨some 5, .mv (.t 0), none⟩,
  ⟨some 6, .len false (.t 5), none⟩,
  ⟨some 7, .mkslice 5 40 (.agg [(.int .i64 0), (.int .i64 0), (.int .i64 0), (.int .i64 0), (.int .i64 0)]) (.t 6) (.t 6), none⟩,
  ⟨some 3, .mv (.t 7), none⟩])
 (.seq (.seq (.region 0 [⟨some 4, .mv (.c (.int .i64 0)), none⟩])
 (.block 0 (.loop ⟨[0, 4], [(3, 5)], []⟩ laws_toVersionS_b0)))
 laws_toVersionS_r0)))
noncomputable def laws_toVersionS_l0 (E : Env) (x0 : U) (x4 : U) (c3 : List U) : Option U := loopK (roundOf E ⟨[0, 4], [(3, 5)], []⟩ laws_toVersionS_b0 (blockK 0 (seqK (fun s => exec E laws_toVersionS_r0 s (finish [(2, none)])) (finish [(2, none)])))) ([.val x0, .val x4], [.arr 5 c3])
theorem laws_toVersionS_eq (E : Env) (a0 : U) : run E laws_toVersionS_ac [(2, none)] [a0] =
 (U.lenOf false a0).bind fun n1 => if 0 ≤ (n1 : Int) ∧ (n1 : Int) ≤ (n1 : Int) ∧ (n1 : Int) * 40 ≤ 140737488355328 ∧ ((.agg [(.int .i64 0), (.int .i64 0), (.int .i64 0), (.int .i64 0), (.int .i64 0)]) : U).size = 5 then laws_toVersionS_l0 E a0 (.int .i64 0) (List.replicate ((n1 : Int) : Int).toNat (.agg [(.int .i64 0), (.int .i64 0), (.int .i64 0), (.int .i64 0), (.int .i64 0)])) else none := by kernel_rfl
theorem laws_toVersionS_l0_eq (E : Env) (x0 : U) (x4 : U) (c3 : List U) : laws_toVersionS_l0 E x0 x4 c3 =
 (U.lenOf false x0).bind fun n2 => (U.bin .lss x4 (.int .i64 (n2 : Int))).bind fun t3 => U.asBool t3
 (U.asInt x4 fun n4 => U.elemAt 5 x0 n4 fun e5 => U.asVar true 5 e5 fun e6 => (E 109 [e6]).bind fun t7 => U.asInt x4 fun n8 => if 5 = 5 ∧ 5 = 5 ∧ 0 ≤ n8 ∧ n8 < ((c3).length : Int) then if storable (.val t7) = true ∧ t7.size = 5 then if 5 = 5 then (c3[(n8 : Int).toNat]?).bind fun e9 => if e9.size = 5 then (U.bin .add x4 (.int .i64 1)).bind fun t10 => laws_toVersionS_l0 E x0 t10 (c3.set (n8 : Int).toNat t7) else none else none else none else none)
 (some (.sl 5 c3)) :=
 (loop_eq E _ _ _ _).trans (by kernel_rfl)

/-- In the environment E: this function and those that it calls. -/
structure G_laws_toVersionS (E : Env) : Prop where
  is : Is E 108 1 laws_toVersionS_ac [(2, none)]
  c_laws_toVersion : G_laws_toVersion E
theorem laws_toVersionS_E {E : Env} (h : G_laws_toVersionS E) (a0 : U) : E 108 [a0] =
 (U.lenOf false a0).bind fun n1 => if 0 ≤ (n1 : Int) ∧ (n1 : Int) ≤ (n1 : Int) ∧ (n1 : Int) * 40 ≤ 140737488355328 ∧ ((.agg [(.int .i64 0), (.int .i64 0), (.int .i64 0), (.int .i64 0), (.int .i64 0)]) : U).size = 5 then laws_toVersionS_l0 E a0 (.int .i64 0) (List.replicate ((n1 : Int) : Int).toNat (.agg [(.int .i64 0), (.int .i64 0), (.int .i64 0), (.int .i64 0), (.int .i64 0)])) else none := (h.is _ rfl).trans (laws_toVersionS_eq E a0)

end Go.Proofs.YtcmkhpjehecloaaGreat.Am
namespace Go.Proofs.YtcmkhpjehecloaaGreat.Am
open Go
set_option linter.unusedVariables false
set_option maxRecDepth 100000

/- loop.example/g01924/laws.toVersionSS -/
def laws_toVersionSS_b0 : AC :=
 (.seq (.seq (.region 0 [⟨some 8, .mv (.t 4), none⟩,
  ⟨some 9, .mv (.t 0), none⟩,
  ⟨some 10, .len false (.t 9), none⟩,
  ⟨some 11, .bin .lss (.t 8) (.t 10), none⟩])
 (.cond (.t 11) .skip (.exit 0)))
 (.seq (.block 1 (.region 0 [⟨some 14, .mv (.t 3), none⟩,
  ⟨some 15, .mv (.t 4), none⟩,
  ⟨some 16, .mv (.t 0), none⟩,
  ⟨some 17, .mv (.t 4), none⟩,
  ⟨some 18, .iaddr 1 (.t 16) (.t 17), none⟩,
  ⟨some 19, .load false 1 (.t 18), none⟩,
  ⟨some 20, .call false 108 [(.t 19)], none⟩,
  ⟨some 21, .iaddr 1 (.t 14) (.t 15), none⟩,
  ⟨none, .store 1 (.t 21) (.t 20), none⟩]))
 (.region 0 [⟨some 12, .mv (.t 4), none⟩,
  ⟨some 13, .bin .add (.t 12) (.c (.int .i64 1)), none⟩,
  ⟨some 4, .mv (.t 13), none⟩])))
def laws_toVersionSS_r0 : AC :=
 (.seq (.region 0 [⟨some 22, .mv (.t 3), none⟩,
  ⟨some 2, .mv (.t 22), none⟩])
 .ret)
def laws_toVersionSS_ac : AC :=
 (.seq (.region 0 [⟨some 2, .mv (.c (.nsl 1)), none⟩])
 (.seq (.region 0 [⟨some 5, .mv (.t 0), none⟩,
  ⟨some 6, .len false (.t 5), none⟩,
  ⟨some 7, .mkslice 1 24 (.nsl 5) (.t 6) (.t 6), none⟩,
  ⟨some 3, .mv (.t 7), none⟩])
 (.seq (.seq (.region 0 [⟨some 4, .mv (.c (.int .i64 0)), none⟩])
 (.block 0 (.loop ⟨[0, 4], [(3, 1)], []⟩ laws_toVersionSS_b0)))
 laws_toVersionSS_r0)))
noncomputable def laws_toVersionSS_l0 (E : Env) (x0 : U) (x4 : U) (c3 : List U) : Option U := loopK (roundOf E ⟨[0, 4], [(3, 1)], []⟩ laws_toVersionSS_b0 (blockK 0 (seqK (fun s => exec E laws_toVersionSS_r0 s (finish [(2, none)])) (finish [(2, none)])))) ([.val x0, .val x4], [.arr 1 c3])
theorem laws_toVersionSS_eq (E : Env) (a0 : U) : run E laws_toVersionSS_ac [(2, none)] [a0] =
 (U.lenOf false a0).bind fun n1 => if 0 ≤ (n1 : Int) ∧ (n1 : Int) ≤ (n1 : Int) ∧ (n1 : Int) * 24 ≤ 140737488355328 ∧ ((.nsl 5) : U).size = 1 then laws_toVersionSS_l0 E a0 (.int .i64 0) (List.replicate ((n1 : Int) : Int).toNat (.nsl 5)) else none := by kernel_rfl
theorem laws_toVersionSS_l0_eq (E : Env) (x0 : U) (x4 : U) (c3 : List U) : laws_toVersionSS_l0 E x0 x4 c3 =
 (U.lenOf false x0).bind fun n2 => (U.bin .lss x4 (.int .i64 (n2 : Int))).bind fun t3 => U.asBool t3
 (U.asInt x4 fun n4 => U.elemAt 1 x0 n4 fun e5 => U.asVar false 1 e5 fun e6 => (E 108 [e6]).bind fun t7 => U.asInt x4 fun n8 => if 1 = 1 ∧ 1 = 1 ∧ 0 ≤ n8 ∧ n8 < ((c3).length : Int) then if storable (.val t7) = true ∧ t7.size = 1 then if 1 = 1 then (c3[(n8 : Int).toNat]?).bind fun e9 => if e9.size = 1 then (U.bin .add x4 (.int .i64 1)).bind fun t10 => laws_toVersionSS_l0 E x0 t10 (c3.set (n8 : Int).toNat t7) else none else none else none else none)
 (some (.sl 1 c3)) :=
 (loop_eq E _ _ _ _).trans (by kernel_rfl)

/-- In the environment E: this function and those that it calls. -/
structure G_laws_toVersionSS (E : Env) : Prop where
  is : Is E 107 1 laws_toVersionSS_ac [(2, none)]
  c_laws_toVersionS : G_laws_toVersionS E
theorem laws_toVersionSS_E {E : Env} (h : G_laws_toVersionSS E) (a0 : U) : E 107 [a0] =
 (U.lenOf false a0).bind fun n1 => if 0 ≤ (n1 : Int) ∧ (n1 : Int) ≤ (n1 : Int) ∧ (n1 : Int) * 24 ≤ 140737488355328 ∧ ((.nsl 5) : U).size = 1 then laws_toVersionSS_l0 E a0 (.int .i64 0) (List.replicate ((n1 : Int) : Int).toNat (.nsl 5)) else none := (h.is _ rfl).trans (laws_toVersionSS_eq E a0)

end Go.Proofs.YtcmkhpjehecloaaGreat.Am
namespace Go.Proofs.YtcmkhpjehecloaaGreat.Am
open Go
set_option linter.unusedVariables false
set_option maxRecDepth 100000

/- loop.example/g01924/laws.toStore -/
def laws_toStore_ac : AC :=
 (.seq (.region 0 [⟨some 1, .box false (.t 0), none⟩,
  ⟨some 2, .alloc (.agg [(.nsl 1)]), none⟩])
 (.seq (.region 0 [⟨some 3, .alloc (.agg [(.nsl 1)]), none⟩])
 (.seq (.region 0 [⟨some 4, .faddr 0 0 (.t 1), none⟩,
  ⟨some 5, .load false 1 (.t 4), none⟩,
  ⟨some 6, .call false 107 [(.t 5)], none⟩,
  ⟨some 7, .faddr 0 0 (.t 3), none⟩,
  ⟨none, .store 1 (.t 7) (.t 6), none⟩])
 (.seq (.region 0 [⟨some 8, .load true 1 (.t 3), none⟩,
  ⟨none, .store 1 (.t 2) (.t 8), none⟩])
 .ret))))

theorem laws_toStore_eq (E : Env) (a0 : U) : run E laws_toStore_ac [(2, some (true, 1))] [a0] =
 U.noTup a0 fun x1 => U.asAgg x1 fun us2 => if 0 = sizes (us2.take 0) then (us2[0]?).bind fun e3 => U.asVar false 1 e3 fun e4 => (E 107 [e4]).bind fun t5 => if storable (.val t5) = true ∧ t5.size = 1 then U.asVar true 1 (.agg [t5]) fun e6 => if storable (.val e6) = true ∧ e6.size = 1 then U.asVar true 1 e6 fun e7 => some e7 else none else none else none := by kernel_rfl

/-- In the environment E: this function and those that it calls. -/
structure G_laws_toStore (E : Env) : Prop where
  is : Is E 93 1 laws_toStore_ac [(2, some (true, 1))]
  c_laws_toVersionSS : G_laws_toVersionSS E
theorem laws_toStore_E {E : Env} (h : G_laws_toStore E) (a0 : U) : E 93 [a0] =
 U.noTup a0 fun x1 => U.asAgg x1 fun us2 => if 0 = sizes (us2.take 0) then (us2[0]?).bind fun e3 => U.asVar false 1 e3 fun e4 => (E 107 [e4]).bind fun t5 => if storable (.val t5) = true ∧ t5.size = 1 then U.asVar true 1 (.agg [t5]) fun e6 => if storable (.val e6) = true ∧ e6.size = 1 then U.asVar true 1 e6 fun e7 => some e7 else none else none else none := (h.is _ rfl).trans (laws_toStore_eq E a0)

end Go.Proofs.YtcmkhpjehecloaaGreat.Am
namespace Go.Proofs.YtcmkhpjehecloaaGreat.Am
open Go
set_option linter.unusedVariables false
set_option maxRecDepth 100000

/- loop.example/g01924/laws.toReadMark -/
def laws_toReadMark_ac : AC :=
 (.seq (.region 0 [⟨some 1, .box false (.t 0), none⟩,
  ⟨some 2, .alloc (.agg [(.int .i64 0), (.int .i64 0)]), none⟩])
 (.seq (.region 0 [⟨some 3, .alloc (.agg [(.int .i64 0), (.int .i64 0)]), none⟩])
 (.seq (.region 0 [⟨some 4, .faddr 0 0 (.t 1), none⟩,
  ⟨some 5, .load false 1 (.t 4), none⟩,
  ⟨some 6, .faddr 0 0 (.t 3), none⟩,
  ⟨none, .store 1 (.t 6) (.t 5), none⟩])
 (.seq (.region 0 [⟨some 7, .faddr 1 1 (.t 1), none⟩,
  ⟨some 8, .load false 1 (.t 7), none⟩,
  ⟨some 9, .faddr 1 1 (.t 3), none⟩,
  ⟨none, .store 1 (.t 9) (.t 8), none⟩])
 (.seq (.region 0 [⟨some 10, .load true 2 (.t 3), none⟩,
  ⟨none, .store 2 (.t 2) (.t 10), none⟩])
 .ret)))))

theorem laws_toReadMark_eq (E : Env) (a0 : U) : run E laws_toReadMark_ac [(2, some (true, 2))] [a0] =
 U.noTup a0 fun x1 => U.asAgg x1 fun us2 => if 0 = sizes (us2.take 0) then (us2[0]?).bind fun e3 => U.asVar false 1 e3 fun e4 => if storable (.val e4) = true ∧ e4.size = 1 then U.asAgg x1 fun us5 => if 1 = sizes (us5.take 1) then (us5[1]?).bind fun e6 => U.asVar false 1 e6 fun e7 => if storable (.val e7) = true ∧ e7.size = 1 then if 1 = sizes [e4] then U.asVar true 2 (.agg [e4, e7]) fun e8 => if storable (.val e8) = true ∧ e8.size = 2 then U.asVar true 2 e8 fun e9 => some e9 else none else none else none else none else none else none := by kernel_rfl

/-- In the environment E: this function and those that it calls. -/
structure G_laws_toReadMark (E : Env) : Prop where
  is : Is E 29 1 laws_toReadMark_ac [(2, some (true, 2))]
theorem laws_toReadMark_E {E : Env} (h : G_laws_toReadMark E) (a0 : U) : E 29 [a0] =
 U.noTup a0 fun x1 => U.asAgg x1 fun us2 => if 0 = sizes (us2.take 0) then (us2[0]?).bind fun e3 => U.asVar false 1 e3 fun e4 => if storable (.val e4) = true ∧ e4.size = 1 then U.asAgg x1 fun us5 => if 1 = sizes (us5.take 1) then (us5[1]?).bind fun e6 => U.asVar false 1 e6 fun e7 => if storable (.val e7) = true ∧ e7.size = 1 then if 1 = sizes [e4] then U.asVar true 2 (.agg [e4, e7]) fun e8 => if storable (.val e8) = true ∧ e8.size = 2 then U.asVar true 2 e8 fun e9 => some e9 else none else none else none else none else none else none := (h.is _ rfl).trans (laws_toReadMark_eq E a0)

end Go.Proofs.YtcmkhpjehecloaaGreat.Am
namespace Go.Proofs.YtcmkhpjehecloaaGreat.Am
open Go
set_option linter.unusedVariables false
set_option maxRecDepth 100000

/- loop.example/g01924/laws.toReadMarkS -/
def laws_toReadMarkS_b0 : AC :=
 (.seq (.seq (.region 0 [⟨some 8, .mv (.t 4), none⟩,
  ⟨some 9, .mv (.t 0), none⟩,
  ⟨some 10, .len false (.t 9), none⟩,
  ⟨some 11, .bin .lss (.t 8) (.t 10), none⟩])
 (.cond (.t 11) .skip (.exit 0)))
 (.seq (.block 1 (.region 0 [⟨some 14, .mv (.t 3), none⟩,
  ⟨some 15, .mv (.t 4), none⟩,
  ⟨some 16, .mv (.t 0), none⟩,
  ⟨some 17, .mv (.t 4), none⟩,
  ⟨some 18, .iaddr 2 (.t 16) (.t 17), none⟩,
  ⟨some 19, .load true 2 (.t 18), none⟩,
  ⟨some 20, .call false 29 [(.t 19)], none⟩,
  ⟨some 21, .iaddr 2 (.t 14) (.t 15), none⟩,
  ⟨none, .store 2 (.t 21) (.t 20), none⟩]))
 (.region 0 [⟨some 12, .mv (.t 4), none⟩,
  ⟨some 13, .bin .add (.t 12) (.c (.int .i64 1)), none⟩,
  ⟨some 4, .mv (.t 13), none⟩])))
def laws_toReadMarkS_r0 : AC :=
 (.seq (.region 0 [⟨some 22, .mv (.t 3), none⟩,
  ⟨some 2, .mv (.t 22), none⟩])
 .ret)
def laws_toReadMarkS_ac : AC :=
 (.seq (.region 0 [⟨some 2, .mv (.c (.nsl 2)), none⟩])
 (.seq (.region 0 [⟨some 5, .mv (.t 0), none⟩,
  ⟨some 6, .len false (.t 5), none⟩,
  ⟨some 7, .mkslice 2 16 (.agg [(.int .i64 0), (.int .i64 0)]) (.t 6) (.t 6), none⟩,
  ⟨some 3, .mv (.t 7), none⟩])
 (.seq (.seq (.region 0 [⟨some 4, .mv (.c (.int .i64 0)), none⟩])
 (.block 0 (.loop ⟨[0, 4], [(3, 2)], []⟩ laws_toReadMarkS_b0)))
 laws_toReadMarkS_r0)))
noncomputable def laws_toReadMarkS_l0 (E : Env) (x0 : U) (x4 : U) (c3 : List U) : Option U := loopK (roundOf E ⟨[0, 4], [(3, 2)], []⟩ laws_toReadMarkS_b0 (blockK 0 (seqK (fun s => exec E laws_toReadMarkS_r0 s (finish [(2, none)])) (finish [(2, none)])))) ([.val x0, .val x4], [.arr 2 c3])
theorem laws_toReadMarkS_eq (E : Env) (a0 : U) : run E laws_toReadMarkS_ac [(2, none)] [a0] =
 (U.lenOf false a0).bind fun n1 => if 0 ≤ (n1 : Int) ∧ (n1 : Int) ≤ (n1 : Int) ∧ (n1 : Int) * 16 ≤ 140737488355328 ∧ ((.agg [(.int .i64 0), (.int .i64 0)]) : U).size = 2 then laws_toReadMarkS_l0 E a0 (.int .i64 0) (List.replicate ((n1 : Int) : Int).toNat (.agg [(.int .i64 0), (.int .i64 0)])) else none := by kernel_rfl
theorem laws_toReadMarkS_l0_eq (E : Env) (x0 : U) (x4 : U) (c3 : List U) : laws_toReadMarkS_l0 E x0 x4 c3 =
 (U.lenOf false x0).bind fun n2 => (U.bin .lss x4 (.int .i64 (n2 : Int))).bind fun t3 => U.asBool t3
 (U.asInt x4 fun n4 => U.elemAt 2 x0 n4 fun e5 => U.asVar true 2 e5 fun e6 => (E 29 [e6]).bind fun t7 => U.asInt x4 fun n8 => if 2 = 2 ∧ 2 = 2 ∧ 0 ≤ n8 ∧ n8 < ((c3).length : Int) then if storable (.val t7) = true ∧ t7.size = 2 then if 2 = 2 then (c3[(n8 : Int).toNat]?).bind fun e9 => if e9.size = 2 then (U.bin .add x4 (.int .i64 1)).bind fun t10 => laws_toReadMarkS_l0 E x0 t10 (c3.set (n8 : Int).toNat t7) else none else none else none else none)
 (some (.sl 2 c3)) :=
 (loop_eq E _ _ _ _).trans (by kernel_rfl)

/-- In the environment E: this function and those that it calls. -/
structure G_laws_toReadMarkS (E : Env) : Prop where
  is : Is E 28 1 laws_toReadMarkS_ac [(2, none)]
  c_laws_toReadMark : G_laws_toReadMark E
theorem laws_toReadMarkS_E {E : Env} (h : G_laws_toReadMarkS E) (a0 : U) : E 28 [a0] =
 (U.lenOf false a0).bind fun n1 => if 0 ≤ (n1 : Int) ∧ (n1 : Int) ≤ (n1 : Int) ∧ (n1 : Int) * 16 ≤ 140737488355328 ∧ ((.agg [(.int .i64 0), (.int .i64 0)]) : U).size = 2 then laws_toReadMarkS_l0 E a0 (.int .i64 0) (List.replicate ((n1 : Int) : Int).toNat (.agg [(.int .i64 0), (.int .i64 0)])) else none := (h.is _ rfl).trans (laws_toReadMarkS_eq E a0)

end Go.Proofs.YtcmkhpjehecloaaGreat.Am
namespace Go.Proofs.YtcmkhpjehecloaaGreat.Am
open Go
set_option linter.unusedVariables false
set_option maxRecDepth 100000

/- loop.example/g01924/laws.toWrite -/
def laws_toWrite_ac : AC :=
 (.seq (.region 0 [⟨some 1, .box false (.t 0), none⟩,
  ⟨some 2, .alloc (.agg [(.int .i64 0), (.int .i64 0)]), none⟩])
 (.seq (.region 0 [⟨some 3, .alloc (.agg [(.int .i64 0), (.int .i64 0)]), none⟩])
 (.seq (.region 0 [⟨some 4, .faddr 0 0 (.t 1), none⟩,
  ⟨some 5, .load false 1 (.t 4), none⟩,
  ⟨some 6, .faddr 0 0 (.t 3), none⟩,
  ⟨none, .store 1 (.t 6) (.t 5), none⟩])
 (.seq (.region 0 [⟨some 7, .faddr 1 1 (.t 1), none⟩,
  ⟨some 8, .load false 1 (.t 7), none⟩,
  ⟨some 9, .faddr 1 1 (.t 3), none⟩,
  ⟨none, .store 1 (.t 9) (.t 8), none⟩])
 (.seq (.region 0 [⟨some 10, .load true 2 (.t 3), none⟩,
  ⟨none, .store 2 (.t 2) (.t 10), none⟩])
 .ret)))))

theorem laws_toWrite_eq (E : Env) (a0 : U) : run E laws_toWrite_ac [(2, some (true, 2))] [a0] =
 U.noTup a0 fun x1 => U.asAgg x1 fun us2 => if 0 = sizes (us2.take 0) then (us2[0]?).bind fun e3 => U.asVar false 1 e3 fun e4 => if storable (.val e4) = true ∧ e4.size = 1 then U.asAgg x1 fun us5 => if 1 = sizes (us5.take 1) then (us5[1]?).bind fun e6 => U.asVar false 1 e6 fun e7 => if storable (.val e7) = true ∧ e7.size = 1 then if 1 = sizes [e4] then U.asVar true 2 (.agg [e4, e7]) fun e8 => if storable (.val e8) = true ∧ e8.size = 2 then U.asVar true 2 e8 fun e9 => some e9 else none else none else none else none else none else none := by kernel_rfl

/-- In the environment E: this function and those that it calls. -/
structure G_laws_toWrite (E : Env) : Prop where
  is : Is E 30 1 laws_toWrite_ac [(2, some (true, 2))]
theorem laws_toWrite_E {E : Env} (h : G_laws_toWrite E) (a0 : U) : E 30 [a0] =
 U.noTup a0 fun x1 => U.asAgg x1 fun us2 => if 0 = sizes (us2.take 0) then (us2[0]?).bind fun e3 => U.asVar false 1 e3 fun e4 => if storable (.val e4) = true ∧ e4.size = 1 then U.asAgg x1 fun us5 => if 1 = sizes (us5.take 1) then (us5[1]?).bind fun e6 => U.asVar false 1 e6 fun e7 => if storable (.val e7) = true ∧ e7.size = 1 then if 1 = sizes [e4] then U.asVar true 2 (.agg [e4, e7]) fun e8 => if storable (.val e8) = true ∧ e8.size = 2 then U.asVar true 2 e8 fun e9 => some e9 else none else none else none else none else none else none := (h.is _ rfl).trans (laws_toWrite_eq E a0)

end Go.Proofs.YtcmkhpjehecloaaGreat.Am
namespace Go.Proofs.YtcmkhpjehecloaaGreat.Am
open Go
set_option linter.unusedVariables false
set_option maxRecDepth 100000

/- loop.example/g01924/laws.toWriteS -/
def laws_toWriteS_b0 : AC :=
 (.seq (.seq (.region 0 [⟨some 8, .mv (.t 4), none⟩,
  ⟨some 9, .mv (.t 0), none⟩,
  ⟨some 10, .len false (.t 9), none⟩,
  ⟨some 11, .bin .lss (.t 8) (.t 10), none⟩])
 (.cond (.t 11) .skip (.exit 0)))
 (.seq (.block 1 (.region 0 [⟨some 14, .mv (.t 3), none⟩,
  ⟨some 15, .mv (.t 4), none⟩,
  ⟨some 16, .mv (.t 0), none⟩,
  ⟨some 17, .mv (.t 4), none⟩,
  ⟨some 18, .iaddr 2 (.t 16) (.t 17), none⟩,
  ⟨some 19, .load true 2 (.t 18), none⟩,
  ⟨some 20, .call false 30 [(.t 19)], none⟩,
  ⟨some 21, .iaddr 2 (.t 14) (.t 15), none⟩,
  ⟨none, .store 2 (.t 21) (.t 20), none⟩]))
 (.region 0 [⟨some 12, .mv (.t 4), none⟩,
  ⟨some 13, .bin .add (.t 12) (.c (.int .i64 1)), none⟩,
  ⟨some 4, .mv (.t 13), none⟩])))
def laws_toWriteS_r0 : AC :=
 (.seq (.region 0 [⟨some 22, .mv (.t 3), none⟩,
  ⟨some 2, .mv (.t 22), none⟩])
 .ret)
def laws_toWriteS_ac : AC :=
 (.seq (.region 0 [⟨some 2, .mv (.c (.nsl 2)), none⟩])
 (.seq (.region 0 [⟨some 5, .mv (.t 0), none⟩,
  ⟨some 6, .len false (.t 5), none⟩,
  ⟨some 7, .mkslice 2 16 (.agg [(.int .i64 0), (.int .i64 0)]) (.t 6) (.t 6), none⟩,
  ⟨some 3, .mv (.t 7), none⟩])
 (.seq (.seq (.region 0 [⟨some 4, .mv (.c (.int .i64 0)), none⟩])
 (.block 0 (.loop ⟨[0, 4], [(3, 2)], []⟩ laws_toWriteS_b0)))
 laws_toWriteS_r0)))
noncomputable def laws_toWriteS_l0 (E : Env) (x0 : U) (x4 : U) (c3 : List U) : Option U := loopK (roundOf E ⟨[0, 4], [(3, 2)], []⟩ laws_toWriteS_b0 (blockK 0 (seqK (fun s => exec E laws_toWriteS_r0 s (finish [(2, none)])) (finish [(2, none)])))) ([.val x0, .val x4], [.arr 2 c3])
theorem laws_toWriteS_eq (E : Env) (a0 : U) : run E laws_toWriteS_ac [(2, none)] [a0] =
 (U.lenOf false a0).bind fun n1 => if 0 ≤ (n1 : Int) ∧ (n1 : Int) ≤ (n1 : Int) ∧ (n1 : Int) * 16 ≤ 140737488355328 ∧ ((.agg [(.int .i64 0), (.int .i64 0)]) : U).size = 2 then laws_toWriteS_l0 E a0 (.int .i64 0) (List.replicate ((n1 : Int) : Int).toNat (.agg [(.int .i64 0), (.int .i64 0)])) else none := by kernel_rfl
theorem laws_toWriteS_l0_eq (E : Env) (x0 : U) (x4 : U) (c3 : List U) : laws_toWriteS_l0 E x0 x4 c3 =
 (U.lenOf false x0).bind fun n2 => (U.bin .lss x4 (.int .i64 (n2 : Int))).bind fun t3 => U.asBool t3
 (U.asInt x4 fun n4 => U.elemAt 2 x0 n4 fun e5 => U.asVar true 2 e5 fun e6 => (E 30 [e6]).bind fun t7 => U.asInt x4 fun n8 => if 2 = 2 ∧ 2 = 2 ∧ 0 ≤ n8 ∧ n8 < ((c3).length : Int) then if storable (.val t7) = true ∧ t7.size = 2 then if 2 = 2 then (c3[(n8 : Int).toNat]?).bind fun e9 => if e9.size = 2 then (U.bin .add x4 (.int .i64 1)).bind fun t10 => laws_toWriteS_l0 E x0 t10 (c3.set (n8 : Int).toNat t7) else none else none else none else none)
 (some (.sl 2 c3)) :=
 (loop_eq E _ _ _ _).trans (by kernel_rfl)

/-- In the environment E: this function and those that it calls. -/
structure G_laws_toWriteS (E : Env) : Prop where
  is : Is E 27 1 laws_toWriteS_ac [(2, none)]
  c_laws_toWrite : G_laws_toWrite E
theorem laws_toWriteS_E {E : Env} (h : G_laws_toWriteS E) (a0 : U) : E 27 [a0] =
 (U.lenOf false a0).bind fun n1 => if 0 ≤ (n1 : Int) ∧ (n1 : Int) ≤ (n1 : Int) ∧ (n1 : Int) * 16 ≤ 140737488355328 ∧ ((.agg [(.int .i64 0), (.int .i64 0)]) : U).size = 2 then laws_toWriteS_l0 E a0 (.int .i64 0) (List.replicate ((n1 : Int) : Int).toNat (.agg [(.int .i64 0), (.int .i64 0)])) else none := (h.is _ rfl).trans (laws_toWriteS_eq E a0)

end Go.Proofs.YtcmkhpjehecloaaGreat.Am
namespace Go.Proofs.YtcmkhpjehecloaaGreat.Am
open Go
set_option linter.unusedVariables false
set_option maxRecDepth 100000

/- loop.example/g01924/laws.toTransaction -/
def laws_toTransaction_ac : AC :=
 (.seq (.region 0 [⟨some 1, .box false (.t 0), none⟩,
  ⟨some 2, .alloc (.agg [(.int .i64 0), (.int .i64 0), (.int .i64 0), (.int .i64 0), (.int .i64 0), (.int .i64 0), (.int .i64 0), (.nsl 2), (.nsl 2)]), none⟩])
 (.seq (.region 0 [⟨some 3, .alloc (.agg [(.int .i64 0), (.int .i64 0), (.int .i64 0), (.int .i64 0), (.int .i64 0), (.int .i64 0), (.int .i64 0), (.nsl 2), (.nsl 2)]), none⟩])
 (.seq (.region 0 [⟨some 4, .faddr 0 0 (.t 1), none⟩,
  ⟨some 5, .load false 1 (.t 4), none⟩,
  ⟨some 6, .faddr 0 0 (.t 3), none⟩,
  ⟨none, .store 1 (.t 6) (.t 5), none⟩])
 (.seq (.region 0 [⟨some 7, .faddr 1 1 (.t 1), none⟩,
  ⟨some 8, .load false 1 (.t 7), none⟩,
  ⟨some 9, .faddr 1 1 (.t 3), none⟩,
  ⟨none, .store 1 (.t 9) (.t 8), none⟩])
 (.seq (.region 0 [⟨some 10, .faddr 2 2 (.t 1), none⟩,
  ⟨some 11, .load false 1 (.t 10), none⟩,
  ⟨some 12, .faddr 2 2 (.t 3), none⟩,
  ⟨none, .store 1 (.t 12) (.t 11), none⟩])
 (.seq (.region 0 [⟨some 13, .faddr 3 3 (.t 1), none⟩,
  ⟨some 14, .load false 1 (.t 13), none⟩,
  ⟨some 15, .faddr 3 3 (.t 3), none⟩,
  ⟨none, .store 1 (.t 15) (.t 14), none⟩])
 (.seq (.region 0 [⟨some 16, .faddr 4 4 (.t 1), none⟩,
  ⟨some 17, .load false 1 (.t 16), none⟩,
  ⟨some 18, .faddr 4 4 (.t 3), none⟩,
  ⟨none, .store 1 (.t 18) (.t 17), none⟩])
 (.seq (.region 0 [⟨some 19, .faddr 5 5 (.t 1), none⟩,
  ⟨some 20, .load false 1 (.t 19), none⟩,
  ⟨some 21, .faddr 5 5 (.t 3), none⟩,
  ⟨none, .store 1 (.t 21) (.t 20), none⟩])
 (.seq (.region 0 [⟨some 22, .faddr 6 6 (.t 1), none⟩,
  ⟨some 23, .load false 1 (.t 22), none⟩,
  ⟨some 24, .faddr 6 6 (.t 3), none⟩,
  ⟨none, .store 1 (.t 24) (.t 23), none⟩])
 (.seq (.region 0 [⟨some 25, .faddr 7 7 (.t 1), none⟩,
  ⟨some 26, .load false 1 (.t 25), none⟩,
  ⟨some 27, .call false 28 [(.t 26)], none⟩,
  ⟨some 28, .faddr 7 7 (.t 3), none⟩,
  ⟨none, .store 1 (.t 28) (.t 27), none⟩])
 (.seq (.region 0 [⟨some 29, .faddr 8 8 (.t 1), none⟩,
  ⟨some 30, .load false 1 (.t 29), none⟩,
  ⟨some 31, .call false 27 [(.t 30)], none⟩,
  ⟨some 32, .faddr 8 8 (.t 3), none⟩,
  ⟨none, .store 1 (.t 32) (.t 31), none⟩])
 (.seq (.region 0 [⟨some 33, .load true 9 (.t 3), none⟩,
  ⟨none, .store 9 (.t 2) (.t 33), none⟩])
 .ret))))))))))))

theorem laws_toTransaction_eq (E : Env) (a0 : U) : run E laws_toTransaction_ac [(2, some (true, 9))] [a0] =
 U.noTup a0 fun x1 => U.asAgg x1 fun us2 => if 0 = sizes (us2.take 0) then (us2[0]?).bind fun e3 => U.asVar false 1 e3 fun e4 => if storable (.val e4) = true ∧ e4.size = 1 then U.asAgg x1 fun us5 => if 1 = sizes (us5.take 1) then (us5[1]?).bind fun e6 => U.asVar false 1 e6 fun e7 => if storable (.val e7) = true ∧ e7.size = 1 then if 1 = sizes [e4] then U.asAgg x1 fun us8 => if 2 = sizes (us8.take 2) then (us8[2]?).bind fun e9 => U.asVar false 1 e9 fun e10 => if storable (.val e10) = true ∧ e10.size = 1 then if 2 = sizes [e4, e7] then U.asAgg x1 fun us11 => if 3 = sizes (us11.take 3) then (us11[3]?).bind fun e12 => U.asVar false 1 e12 fun e13 => if storable (.val e13) = true ∧ e13.size = 1 then if 3 = sizes [e4, e7, e10] then U.asAgg x1 fun us14 => if 4 = sizes (us14.take 4) then (us14[4]?).bind fun e15 => U.asVar false 1 e15 fun e16 => if storable (.val e16) = true ∧ e16.size = 1 then if 4 = sizes [e4, e7, e10, e13] then U.asAgg x1 fun us17 => if 5 = sizes (us17.take 5) then (us17[5]?).bind fun e18 => U.asVar false 1 e18 fun e19 => if storable (.val e19) = true ∧ e19.size = 1 then if 5 = sizes [e4, e7, e10, e13, e16] then U.asAgg x1 fun us20 => if 6 = sizes (us20.take 6) then (us20[6]?).bind fun e21 => U.asVar false 1 e21 fun e22 => if storable (.val e22) = true ∧ e22.size = 1 then if 6 = sizes [e4, e7, e10, e13, e16, e19] then U.asAgg x1 fun us23 => if 7 = sizes (us23.take 7) then (us23[7]?).bind fun e24 => U.asVar false 1 e24 fun e25 => (E 28 [e25]).bind fun t26 => if storable (.val t26) = true ∧ t26.size = 1 then if 7 = sizes [e4, e7, e10, e13, e16, e19, e22] then U.asAgg x1 fun us27 => if 8 = sizes (us27.take 8) then (us27[8]?).bind fun e28 => U.asVar false 1 e28 fun e29 => (E 27 [e29]).bind fun t30 => if storable (.val t30) = true ∧ t30.size = 1 then if 8 = sizes [e4, e7, e10, e13, e16, e19, e22, t26] then U.asVar true 9 (.agg [e4, e7, e10, e13, e16, e19, e22, t26, t30]) fun e31 => if storable (.val e31) = true ∧ e31.size = 9 then U.asVar true 9 e31 fun e32 => some e32 else none else none else none else none else none else none else none else none else none else none else none else none else none else none else none else none else none else none else none else none else none else none else none else none else none else none else none := by kernel_rfl

/-- In the environment E: this function and those that it calls. -/
structure G_laws_toTransaction (E : Env) : Prop where
  is : Is E 145 1 laws_toTransaction_ac [(2, some (true, 9))]
  c_laws_toReadMarkS : G_laws_toReadMarkS E
  c_laws_toWriteS : G_laws_toWriteS E
theorem laws_toTransaction_E {E : Env} (h : G_laws_toTransaction E) (a0 : U) : E 145 [a0] =
 U.noTup a0 fun x1 => U.asAgg x1 fun us2 => if 0 = sizes (us2.take 0) then (us2[0]?).bind fun e3 => U.asVar false 1 e3 fun e4 => if storable (.val e4) = true ∧ e4.size = 1 then U.asAgg x1 fun us5 => if 1 = sizes (us5.take 1) then (us5[1]?).bind fun e6 => U.asVar false 1 e6 fun e7 => if storable (.val e7) = true ∧ e7.size = 1 then if 1 = sizes [e4] then U.asAgg x1 fun us8 => if 2 = sizes (us8.take 2) then (us8[2]?).bind fun e9 => U.asVar false 1 e9 fun e10 => if storable (.val e10) = true ∧ e10.size = 1 then if 2 = sizes [e4, e7] then U.asAgg x1 fun us11 => if 3 = sizes (us11.take 3) then (us11[3]?).bind fun e12 => U.asVar false 1 e12 fun e13 => if storable (.val e13) = true ∧ e13.size = 1 then if 3 = sizes [e4, e7, e10] then U.asAgg x1 fun us14 => if 4 = sizes (us14.take 4) then (us14[4]?).bind fun e15 => U.asVar false 1 e15 fun e16 => if storable (.val e16) = true ∧ e16.size = 1 then if 4 = sizes [e4, e7, e10, e13] then U.asAgg x1 fun us17 => if 5 = sizes (us17.take 5) then (us17[5]?).bind fun e18 => U.asVar false 1 e18 fun e19 => if storable (.val e19) = true ∧ e19.size = 1 then if 5 = sizes [e4, e7, e10, e13, e16] then U.asAgg x1 fun us20 => if 6 = sizes (us20.take 6) then (us20[6]?).bind fun e21 => U.asVar false 1 e21 fun e22 => if storable (.val e22) = true ∧ e22.size = 1 then if 6 = sizes [e4, e7, e10, e13, e16, e19] then U.asAgg x1 fun us23 => if 7 = sizes (us23.take 7) then (us23[7]?).bind fun e24 => U.asVar false 1 e24 fun e25 => (E 28 [e25]).bind fun t26 => if storable (.val t26) = true ∧ t26.size = 1 then if 7 = sizes [e4, e7, e10, e13, e16, e19, e22] then U.asAgg x1 fun us27 => if 8 = sizes (us27.take 8) then (us27[8]?).bind fun e28 => U.asVar false 1 e28 fun e29 => (E 27 [e29]).bind fun t30 => if storable (.val t30) = true ∧ t30.size = 1 then if 8 = sizes [e4, e7, e10, e13, e16, e19, e22, t26] then U.asVar true 9 (.agg [e4, e7, e10, e13, e16, e19, e22, t26, t30]) fun e31 => if storable (.val e31) = true ∧ e31.size = 9 then U.asVar true 9 e31 fun e32 => some e32 else none else none else none else none else none else none else none else none else none else none else none else none else none else none else none else none else none else none else none else none else none else none else none else none else none else none else none := (h.is _ rfl).trans (laws_toTransaction_eq E a0)

end Go.Proofs.YtcmkhpjehecloaaGreat.Am
namespace Go.Proofs.YtcmkhpjehecloaaGreat.Am
open Go
set_option linter.unusedVariables false
set_option maxRecDepth 100000

/- loop.example/g01924/laws.toTransactionS -/
def laws_toTransactionS_b0 : AC :=
 (.seq (.seq (.region 0 [⟨some 8, .mv (.t 4), none⟩,
  ⟨some 9, .mv (.t 0), none⟩,
  ⟨some 10, .len false (.t 9), none⟩,
  ⟨some 11, .bin .lss (.t 8) (.t 10), none⟩])
 (.cond (.t 11) .skip (.exit 0)))
 (.seq (.block 1 (.region 0 [⟨some 14, .mv (.t 3), none⟩,
  ⟨some 15, .mv (.t 4), none⟩,
  ⟨some 16, .mv (.t 0), none⟩,
  ⟨some 17, .mv (.t 4), none⟩,
  ⟨some 18, .iaddr 9 (.t 16) (.t 17), none⟩,
  ⟨some 19, .load true 9 (.t 18), none⟩,
  ⟨some 20, .call false 145 [(.t 19)], none⟩,
  ⟨some 21, .iaddr 9 (.t 14) (.t 15), none⟩,
  ⟨none, .store 9 (.t 21) (.t 20), none⟩]))
 (.region 0 [⟨some 12, .mv (.t 4), none⟩,
  ⟨some 13, .bin .add (.t 12) (.c (.int .i64 1)), none⟩,
  ⟨some 4, .mv (.t 13), none⟩])))
def laws_toTransactionS_r0 : AC :=
 (.seq (.region 0 [⟨some 22, .mv (.t 3), none⟩,
  ⟨some 2, .mv (.t 22), none⟩])
 .ret)
def laws_toTransactionS_ac : AC :=
 (.seq (.region 0 [⟨some 2, .mv (.c (.nsl 9)), none⟩])
 (.seq (.region 0 [⟨some 5, .mv (.t 0), none⟩,
  ⟨some 6, .len false (.t 5), none⟩,
  ⟨some 7, .mkslice 9 104 (.agg [(.int .i64 0), (.int .i64 0), (.int .i64 0), (.int .i64 0), (.int .i64 0), (.int .i64 0), (.int .i64 0), (.nsl 2), (.nsl 2)]) (.t 6) (.t 6), none⟩,
  ⟨some 3, .mv (.t 7), none⟩])
 (.seq (.seq (.region 0 [⟨some 4, .mv (.c (.int .i64 0)), none⟩])
 (.block 0 (.loop ⟨[0, 4], [(3, 9)], []⟩ laws_toTransactionS_b0)))
 laws_toTransactionS_r0)))
noncomputable def laws_toTransactionS_l0 (E : Env) (x0 : U) (x4 : U) (c3 : List U) : Option U := loopK (roundOf E ⟨[0, 4], [(3, 9)], []⟩ laws_toTransactionS_b0 (blockK 0 (seqK (fun s => exec E laws_toTransactionS_r0 s (finish [(2, none)])) (finish [(2, none)])))) ([.val x0, .val x4], [.arr 9 c3])
theorem laws_toTransactionS_eq (E : Env) (a0 : U) : run E laws_toTransactionS_ac [(2, none)] [a0] =
 (U.lenOf false a0).bind fun n1 => if 0 ≤ (n1 : Int) ∧ (n1 : Int) ≤ (n1 : Int) ∧ (n1 : Int) * 104 ≤ 140737488355328 ∧ ((.agg [(.int .i64 0), (.int .i64 0), (.int .i64 0), (.int .i64 0), (.int .i64 0), (.int .i64 0), (.int .i64 0), (.nsl 2), (.nsl 2)]) : U).size = 9 then laws_toTransactionS_l0 E a0 (.int .i64 0) (List.replicate ((n1 : Int) : Int).toNat (.agg [(.int .i64 0), (.int .i64 0), (.int .i64 0), (.int .i64 0), (.int .i64 0), (.int .i64 0), (.int .i64 0), (.nsl 2), (.nsl 2)])) else none := by kernel_rfl
theorem laws_toTransactionS_l0_eq (E : Env) (x0 : U) (x4 : U) (c3 : List U) : laws_toTransactionS_l0 E x0 x4 c3 =
 (U.lenOf false x0).bind fun n2 => (U.bin .lss x4 (.int .i64 (n2 : Int))).bind fun t3 => U.asBool t3
 (U.asInt x4 fun n4 => U.elemAt 9 x0 n4 fun e5 => U.asVar true 9 e5 fun e6 => (E 145 [e6]).bind fun t7 => U.asInt x4 fun n8 => if 9 = 9 ∧ 9 = 9 ∧ 0 ≤ n8 ∧ n8 < ((c3).length : Int) then if storable (.val t7) = true ∧ t7.size = 9 then if 9 = 9 then (c3[(n8 : Int).toNat]?).bind fun e9 => if e9.size = 9 then (U.bin .add x4 (.int .i64 1)).bind fun t10 => laws_toTransactionS_l0 E x0 t10 (c3.set (n8 : Int).toNat t7) else none else none else none else none)
 (some (.sl 9 c3)) :=
 (loop_eq E _ _ _ _).trans (by kernel_rfl)

/-- In the environment E: this function and those that it calls. -/
structure G_laws_toTransactionS (E : Env) : Prop where
  is : Is E 144 1 laws_toTransactionS_ac [(2, none)]
  c_laws_toTransaction : G_laws_toTransaction E
theorem laws_toTransactionS_E {E : Env} (h : G_laws_toTransactionS E) (a0 : U) : E 144 [a0] =
 (U.lenOf false a0).bind fun n1 => if 0 ≤ (n1 : Int) ∧ (n1 : Int) ≤ (n1 : Int) ∧ (n1 : Int) * 104 ≤ 140737488355328 ∧ ((.agg [(.int .i64 0), (.int .i64 0), (.int .i64 0), (.int .i64 0), (.int .i64 0), (.int .i64 0), (.int .i64 0), (.nsl 2), (.nsl 2)]) : U).size = 9 then laws_toTransactionS_l0 E a0 (.int .i64 0) (List.replicate ((n1 : Int) : Int).toNat (.agg [(.int .i64 0), (.int .i64 0), (.int .i64 0), (.int .i64 0), (.int .i64 0), (.int .i64 0), (.int .i64 0), (.nsl 2), (.nsl 2)])) else none := (h.is _ rfl).trans (laws_toTransactionS_eq E a0)

end Go.Proofs.YtcmkhpjehecloaaGreat.Am
namespace Go.Proofs.YtcmkhpjehecloaaGreat.Am
open Go
set_option linter.unusedVariables false
set_option maxRecDepth 100000

/- loop.example/g01924/laws.toLock -/
def laws_toLock_ac : AC :=
 (.seq (.region 0 [⟨some 1, .box false (.t 0), none⟩,
  ⟨some 2, .alloc (.agg [(.int .i64 0), (.int .i64 0)]), none⟩])
 (.seq (.region 0 [⟨some 3, .alloc (.agg [(.int .i64 0), (.int .i64 0)]), none⟩])
 (.seq (.region 0 [⟨some 4, .faddr 0 0 (.t 1), none⟩,
  ⟨some 5, .load false 1 (.t 4), none⟩,
  ⟨some 6, .faddr 0 0 (.t 3), none⟩,
  ⟨none, .store 1 (.t 6) (.t 5), none⟩])
 (.seq (.region 0 [⟨some 7, .faddr 1 1 (.t 1), none⟩,
  ⟨some 8, .load false 1 (.t 7), none⟩,
  ⟨some 9, .faddr 1 1 (.t 3), none⟩,
  ⟨none, .store 1 (.t 9) (.t 8), none⟩])
 (.seq (.region 0 [⟨some 10, .load true 2 (.t 3), none⟩,
  ⟨none, .store 2 (.t 2) (.t 10), none⟩])
 .ret)))))

theorem laws_toLock_eq (E : Env) (a0 : U) : run E laws_toLock_ac [(2, some (true, 2))] [a0] =
 U.noTup a0 fun x1 => U.asAgg x1 fun us2 => if 0 = sizes (us2.take 0) then (us2[0]?).bind fun e3 => U.asVar false 1 e3 fun e4 => if storable (.val e4) = true ∧ e4.size = 1 then U.asAgg x1 fun us5 => if 1 = sizes (us5.take 1) then (us5[1]?).bind fun e6 => U.asVar false 1 e6 fun e7 => if storable (.val e7) = true ∧ e7.size = 1 then if 1 = sizes [e4] then U.asVar true 2 (.agg [e4, e7]) fun e8 => if storable (.val e8) = true ∧ e8.size = 2 then U.asVar true 2 e8 fun e9 => some e9 else none else none else none else none else none else none := by kernel_rfl

/-- In the environment E: this function and those that it calls. -/
structure G_laws_toLock (E : Env) : Prop where
  is : Is E 146 1 laws_toLock_ac [(2, some (true, 2))]
theorem laws_toLock_E {E : Env} (h : G_laws_toLock E) (a0 : U) : E 146 [a0] =
 U.noTup a0 fun x1 => U.asAgg x1 fun us2 => if 0 = sizes (us2.take 0) then (us2[0]?).bind fun e3 => U.asVar false 1 e3 fun e4 => if storable (.val e4) = true ∧ e4.size = 1 then U.asAgg x1 fun us5 => if 1 = sizes (us5.take 1) then (us5[1]?).bind fun e6 => U.asVar false 1 e6 fun e7 => if storable (.val e7) = true ∧ e7.size = 1 then if 1 = sizes [e4] then U.asVar true 2 (.agg [e4, e7]) fun e8 => if storable (.val e8) = true ∧ e8.size = 2 then U.asVar true 2 e8 fun e9 => some e9 else none else none else none else none else none else none := (h.is _ rfl).trans (laws_toLock_eq E a0)

end Go.Proofs.YtcmkhpjehecloaaGreat.Am
namespace Go.Proofs.YtcmkhpjehecloaaGreat.Am
open Go
set_option linter.unusedVariables false
set_option maxRecDepth 100000

/- loop.example/g01924/laws.toLockS -/
def laws_toLockS_b0 : AC :=
 (.seq (.seq (.region 0 [⟨some 8, .mv (.t 4), none⟩,
  ⟨some 9, .mv (.t 0), none⟩,
  ⟨some 10, .len false (.t 9), none⟩,
  ⟨some 11, .bin .lss (.t 8) (.t 10), none⟩])
 (.cond (.t 11) .skip (.exit 0)))
 (.seq (.block 1 (.region 0 [⟨some 14, .mv (.t 3), none⟩,
  ⟨some 15, .mv (.t 4), none⟩,
  ⟨some 16, .mv (.t 0), none⟩,
  ⟨some 17, .mv (.t 4), none⟩,
  ⟨some 18, .iaddr 2 (.t 16) (.t 17), none⟩,
  ⟨some 19, .load true 2 (.t 18), none⟩,
  ⟨some 20, .call false 146 [(.t 19)], none⟩,
  ⟨some 21, .iaddr 2 (.t 14) (.t 15), none⟩,
  ⟨none, .store 2 (.t 21) (.t 20), none⟩]))
 (.region 0 [⟨some 12, .mv (.t 4), none⟩,
  ⟨some 13, .bin .add (.t 12) (.c (.int .i64 1)), none⟩,
  ⟨some 4, .mv (.t 13), none⟩])))
def laws_toLockS_r0 : AC :=
 (.seq (.region 0 [⟨some 22, .mv (.t 3), none⟩,
  ⟨some 2, .mv (.t 22), none⟩])
 .ret)
def laws_toLockS_ac : AC :=
 (.seq (.region 0 [⟨some 2, .mv (.c (.nsl 2)), none⟩])
 (.seq (.region 0 [⟨some 5, .mv (.t 0), none⟩,
  ⟨some 6, .len false (.t 5), none⟩,
  ⟨some 7, .mkslice 2 16 (.agg [(.int .i64 0), (.int .i64 0)]) (.t 6) (.t 6), none⟩,
  ⟨some 3, .mv (.t 7), none⟩])
 (.seq (.seq (.region 0 [⟨some 4, .mv (.c (.int .i64 0)), none⟩])
 (.block 0 (.loop ⟨[0, 4], [(3, 2)], []⟩ laws_toLockS_b0)))
 laws_toLockS_r0)))
noncomputable def laws_toLockS_l0 (E : Env) (x0 : U) (x4 : U) (c3 : List U) : Option U := loopK (roundOf E ⟨[0, 4], [(3, 2)], []⟩ laws_toLockS_b0 (blockK 0 (seqK (fun s => exec E laws_toLockS_r0 s (finish [(2, none)])) (finish [(2, none)])))) ([.val x0, .val x4], [.arr 2 c3])
theorem laws_toLockS_eq (E : Env) (a0 : U) : run E laws_toLockS_ac [(2, none)] [a0] =
 (U.lenOf false a0).bind fun n1 => if 0 ≤ (n1 : Int) ∧ (n1 : Int) ≤ (n1 : Int) ∧ (n1 : Int) * 16 ≤ 140737488355328 ∧ ((.agg [(.int .i64 0), (.int .i64 0)]) : U).size = 2 then laws_toLockS_l0 E a0 (.int .i64 0) (List.replicate ((n1 : Int) : Int).toNat (.agg [(.int .i64 0), (.int .i64 0)])) else none := by kernel_rfl
theorem laws_toLockS_l0_eq (E : Env) (x0 : U) (x4 : U) (c3 : List U) : laws_toLockS_l0 E x0 x4 c3 =
 (U.lenOf false x0).bind fun n2 => (U.bin .lss x4 (.int .i64 (n2 : Int))).bind fun t3 => U.asBool t3
 (U.asInt x4 fun n4 => U.elemAt 2 x0 n4 fun e5 => U.asVar true 2 e5 fun e6 => (E 146 [e6]).bind fun t7 => U.asInt x4 fun n8 => if 2 = 2 ∧ 2 = 2 ∧ 0 ≤ n8 ∧ n8 < ((c3).length : Int) then if storable (.val t7) = true ∧ t7.size = 2 then if 2 = 2 then (c3[(n8 : Int).toNat]?).bind fun e9 => if e9.size = 2 then (U.bin .add x4 (.int .i64 1)).bind fun t10 => laws_toLockS_l0 E x0 t10 (c3.set (n8 : Int).toNat t7) else none else none else none else none)
 (some (.sl 2 c3)) :=
 (loop_eq E _ _ _ _).trans (by kernel_rfl)

/-- In the environment E: this function and those that it calls. -/
structure G_laws_toLockS (E : Env) : Prop where
  is : Is E 143 1 laws_toLockS_ac [(2, none)]
  c_laws_toLock : G_laws_toLock E
theorem laws_toLockS_E {E : Env} (h : G_laws_toLockS E) (a0 : U) : E 143 [a0] =
 (U.lenOf false a0).bind fun n1 => if 0 ≤ (n1 : Int) ∧ (n1 : Int) ≤ (n1 : Int) ∧ (n1 : Int) * 16 ≤ 140737488355328 ∧ ((.agg [(.int .i64 0), (.int .i64 0)]) : U).size = 2 then laws_toLockS_l0 E a0 (.int .i64 0) (List.replicate ((n1 : Int) : Int).toNat (.agg [(.int .i64 0), (.int .i64 0)])) else none := (h.is _ rfl).trans (laws_toLockS_eq E a0)

end Go.Proofs.YtcmkhpjehecloaaGreat.Am
namespace Go.Proofs.YtcmkhpjehecloaaGreat.Am
open Go
set_option linter.unusedVariables false
set_option maxRecDepth 100000

/- loop.example/g01924/laws.toWait -/
def laws_toWait_ac : AC :=
 (.seq (.region 0 [⟨some 1, .box false (.t 0), none⟩,
  ⟨some 2, .alloc (.agg [(.int .i64 0), (.int .i64 0)]), none⟩])
 (.seq (.region 0 [⟨some 3, .alloc (.agg [(.int .i64 0), (.int .i64 0)]), none⟩])
 (.seq (.region 0 [⟨some 4, .faddr 0 0 (.t 1), none⟩,
  ⟨some 5, .load false 1 (.t 4), none⟩,
  ⟨some 6, .faddr 0 0 (.t 3), none⟩,
  ⟨none, .store 1 (.t 6) (.t 5), none⟩])
 (.seq (.region 0 [⟨some 7, .faddr 1 1 (.t 1), none⟩,
  ⟨some 8, .load false 1 (.t 7), none⟩,
  ⟨some 9, .faddr 1 1 (.t 3), none⟩,
  ⟨none, .store 1 (.t 9) (.t 8), none⟩])
 (.seq (.region 0 [⟨some 10, .load true 2 (.t 3), none⟩,
  ⟨none, .store 2 (.t 2) (.t 10), none⟩])
 .ret)))))

theorem laws_toWait_eq (E : Env) (a0 : U) : run E laws_toWait_ac [(2, some (true, 2))] [a0] =
 U.noTup a0 fun x1 => U.asAgg x1 fun us2 => if 0 = sizes (us2.take 0) then (us2[0]?).bind fun e3 => U.asVar false 1 e3 fun e4 => if storable (.val e4) = true ∧ e4.size = 1 then U.asAgg x1 fun us5 => if 1 = sizes (us5.take 1) then (us5[1]?).bind fun e6 => U.asVar false 1 e6 fun e7 => if storable (.val e7) = true ∧ e7.size = 1 then if 1 = sizes [e4] then U.asVar true 2 (.agg [e4, e7]) fun e8 => if storable (.val e8) = true ∧ e8.size = 2 then U.asVar true 2 e8 fun e9 => some e9 else none else none else none else none else none else none := by kernel_rfl

/-- In the environment E: this function and those that it calls. -/
structure G_laws_toWait (E : Env) : Prop where
  is : Is E 147 1 laws_toWait_ac [(2, some (true, 2))]
theorem laws_toWait_E {E : Env} (h : G_laws_toWait E) (a0 : U) : E 147 [a0] =
 U.noTup a0 fun x1 => U.asAgg x1 fun us2 => if 0 = sizes (us2.take 0) then (us2[0]?).bind fun e3 => U.asVar false 1 e3 fun e4 => if storable (.val e4) = true ∧ e4.size = 1 then U.asAgg x1 fun us5 => if 1 = sizes (us5.take 1) then (us5[1]?).bind fun e6 => U.asVar false 1 e6 fun e7 => if storable (.val e7) = true ∧ e7.size = 1 then if 1 = sizes [e4] then U.asVar true 2 (.agg [e4, e7]) fun e8 => if storable (.val e8) = true ∧ e8.size = 2 then U.asVar true 2 e8 fun e9 => some e9 else none else none else none else none else none else none := (h.is _ rfl).trans (laws_toWait_eq E a0)

end Go.Proofs.YtcmkhpjehecloaaGreat.Am
namespace Go.Proofs.YtcmkhpjehecloaaGreat.Am
open Go
set_option linter.unusedVariables false
set_option maxRecDepth 100000

/- loop.example/g01924/laws.toWaitS -/
def laws_toWaitS_b0 : AC :=
 (.seq (.seq (.region 0 [⟨some 8, .mv (.t 4), none⟩,
  ⟨some 9, .mv (.t 0), none⟩,
  ⟨some 10, .len false (.t 9), none⟩,
  ⟨some 11, .bin .lss (.t 8) (.t 10), none⟩])
 (.cond (.t 11) .skip (.exit 0)))
 (.seq (.block 1 (.region 0 [⟨some 14, .mv (.t 3), none⟩,
  ⟨some 15, .mv (.t 4), none⟩,
  ⟨some 16, .mv (.t 0), none⟩,
  ⟨some 17, .mv (.t 4), none⟩,
  ⟨some 18, .iaddr 2 (.t 16) (.t 17), none⟩,
  ⟨some 19, .load true 2 (.t 18), none⟩,
  ⟨some 20, .call false 147 [(.t 19)], none⟩,
  ⟨some 21, .iaddr 2 (.t 14) (.t 15), none⟩,
  ⟨none, .store 2 (.t 21) (.t 20), none⟩]))
 (.region 0 [⟨some 12, .mv (.t 4), none⟩,
  ⟨some 13, .bin .add (.t 12) (.c (.int .i64 1)), none⟩,
  ⟨some 4, .mv (.t 13), none⟩])))
def laws_toWaitS_r0 : AC :=
 (.seq (.region 0 [⟨some 22, .mv (.t 3), none⟩,
  ⟨some 2, .mv (.t 22), none⟩])
 .ret)
def laws_toWaitS_ac : AC :=
 (.seq (.region 0 [⟨some 2, .mv (.c (.nsl 2)), none⟩])
 (.seq (.region 0 [⟨some 5, .mv (.t 0), none⟩,
  ⟨some 6, .len false (.t 5), none⟩,
  ⟨some 7, .mkslice 2 16 (.agg [(.int .i64 0), (.int .i64 0)]) (.t 6) (.t 6), none⟩,
  ⟨some 3, .mv (.t 7), none⟩])
 (.seq (.seq (.region 0 [⟨some 4, .mv (.c (.int .i64 0)), none⟩])
 (.block 0 (.loop ⟨[0, 4], [(3, 2)], []⟩ laws_toWaitS_b0)))
 laws_toWaitS_r0)))
noncomputable def laws_toWaitS_l0 (E : Env) (x0 : U) (x4 : U) (c3 : List U) : Option U := loopK (roundOf E ⟨[0, 4], [(3, 2)], []⟩ laws_toWaitS_b0 (blockK 0 (seqK (fun s => exec E laws_toWaitS_r0 s (finish [(2, none)])) (finish [(2, none)])))) ([.val x0, .val x4], [.arr 2 c3])
theorem laws_toWaitS_eq (E : Env) (a0 : U) : run E laws_toWaitS_ac [(2, none)] [a0] =
 (U.lenOf false a0).bind fun n1 => if 0 ≤ (n1 : Int) ∧ (n1 : Int) ≤ (n1 : Int) ∧ (n1 : Int) * 16 ≤ 140737488355328 ∧ ((.agg [(.int .i64 0), (.int .i64 0)]) : U).size = 2 then laws_toWaitS_l0 E a0 (.int .i64 0) (List.replicate ((n1 : Int) : Int).toNat (.agg [(.int .i64 0), (.int .i64 0)])) else none := by kernel_rfl
theorem laws_toWaitS_l0_eq (E : Env) (x0 : U) (x4 : U) (c3 : List U) : laws_toWaitS_l0 E x0 x4 c3 =
 (U.lenOf false x0).bind fun n2 => (U.bin .lss x4 (.int .i64 (n2 : Int))).bind fun t3 => U.asBool t3
 (U.asInt x4 fun n4 => U.elemAt 2 x0 n4 fun e5 => U.asVar true 2 e5 fun e6 => (E 147 [e6]).bind fun t7 => U.asInt x4 fun n8 => if 2 = 2 ∧ 2 = 2 ∧ 0 ≤ n8 ∧ n8 < ((c3).length : Int) then if storable (.val t7) = true ∧ t7.size = 2 then if 2 = 2 then (c3[(n8 : Int).toNat]?).bind fun e9 => if e9.size = 2 then (U.bin .add x4 (.int .i64 1)).bind fun t10 => laws_toWaitS_l0 E x0 t10 (c3.set (n8 : Int).toNat t7) else none else none else none else none)
 (some (.sl 2 c3)) :=
 (loop_eq E _ _ _ _).trans (by kernel_rfl)

/-- In the environment E: this function and those that it calls. -/
structure G_laws_toWaitS (E : Env) : Prop where
  is : Is E 142 1 laws_toWaitS_ac [(2, none)]
  c_laws_toWait : G_laws_toWait E
theorem laws_toWaitS_E {E : Env} (h : G_laws_toWaitS E) (a0 : U) : E 142 [a0] =
 (U.lenOf false a0).bind fun n1 => if 0 ≤ (n1 : Int) ∧ (n1 : Int) ≤ (n1 : Int) ∧ (n1 : Int) * 16 ≤ 140737488355328 ∧ ((.agg [(.int .i64 0), (.int .i64 0)]) : U).size = 2 then laws_toWaitS_l0 E a0 (.int .i64 0) (List.replicate ((n1 : Int) : Int).toNat (.agg [(.int .i64 0), (.int .i64 0)])) else none := (h.is _ rfl).trans (laws_toWaitS_eq E a0)

end Go.Proofs.YtcmkhpjehecloaaGreat.Am
namespace Go.Proofs.YtcmkhpjehecloaaGreat.Am
open Go
set_option linter.unusedVariables false
set_option maxRecDepth 100000

/- loop.example/g01924/laws.toEngine -/
def laws_toEngine_ac : AC :=
 (.seq (.region 0 [⟨some 1, .box false (.t 0), none⟩,
  ⟨some 2, .alloc (.agg [(.bool false), (.agg [(.nsl 1)]), (.nsl 9), (.nsl 2), (.nsl 2), (.int .i64 0)]), none⟩])
 (.seq (.region 0 [⟨some 3, .alloc (.agg [(.bool false), (.agg [(.nsl 1)]), (.nsl 9), (.nsl 2), (.nsl 2), (.int .i64 0)]), none⟩])
 (.seq (.region 0 [⟨some 4, .faddr 0 0 (.t 1), none⟩,
  ⟨some 5, .load false 1 (.t 4), none⟩,
  ⟨some 6, .faddr 0 0 (.t 3), none⟩,
  ⟨none, .store 1 (.t 6) (.t 5), none⟩])
 (.seq (.region 0 [⟨some 7, .faddr 1 1 (.t 1), none⟩,
  ⟨some 8, .load true 1 (.t 7), none⟩,
  ⟨some 9, .call false 93 [(.t 8)], none⟩,
  ⟨some 10, .faddr 1 1 (.t 3), none⟩,
  ⟨none, .store 1 (.t 10) (.t 9), none⟩])
 (.seq (.region 0 [⟨some 11, .faddr 2 2 (.t 1), none⟩,
  ⟨some 12, .load false 1 (.t 11), none⟩,
  ⟨some 13, .call false 144 [(.t 12)], none⟩,
  ⟨some 14, .faddr 2 2 (.t 3), none⟩,
  ⟨none, .store 1 (.t 14) (.t 13), none⟩])
 (.seq (.region 0 [⟨some 15, .faddr 3 3 (.t 1), none⟩,
  ⟨some 16, .load false 1 (.t 15), none⟩,
  ⟨some 17, .call false 143 [(.t 16)], none⟩,
  ⟨some 18, .faddr 3 3 (.t 3), none⟩,
  ⟨none, .store 1 (.t 18) (.t 17), none⟩])
 (.seq (.region 0 [⟨some 19, .faddr 4 4 (.t 1), none⟩,
  ⟨some 20, .load false 1 (.t 19), none⟩,
  ⟨some 21, .call false 142 [(.t 20)], none⟩,
  ⟨some 22, .faddr 4 4 (.t 3), none⟩,
  ⟨none, .store 1 (.t 22) (.t 21), none⟩])
 (.seq (.region 0 [⟨some 23, .faddr 5 5 (.t 1), none⟩,
  ⟨some 24, .load false 1 (.t 23), none⟩,
  ⟨some 25, .faddr 5 5 (.t 3), none⟩,
  ⟨none, .store 1 (.t 25) (.t 24), none⟩])
 (.seq (.region 0 [⟨some 26, .load true 6 (.t 3), none⟩,
  ⟨none, .store 6 (.t 2) (.t 26), none⟩])
 .ret)))))))))

theorem laws_toEngine_eq (E : Env) (a0 : U) : run E laws_toEngine_ac [(2, some (true, 6))] [a0] =
 U.noTup a0 fun x1 => U.asAgg x1 fun us2 => if 0 = sizes (us2.take 0) then (us2[0]?).bind fun e3 => U.asVar false 1 e3 fun e4 => if storable (.val e4) = true ∧ e4.size = 1 then U.asAgg x1 fun us5 => if 1 = sizes (us5.take 1) then (us5[1]?).bind fun e6 => U.asVar true 1 e6 fun e7 => (E 93 [e7]).bind fun t8 => if storable (.val t8) = true ∧ t8.size = 1 then if 1 = sizes [e4] then U.asAgg x1 fun us9 => if 2 = sizes (us9.take 2) then (us9[2]?).bind fun e10 => U.asVar false 1 e10 fun e11 => (E 144 [e11]).bind fun t12 => if storable (.val t12) = true ∧ t12.size = 1 then if 2 = sizes [e4, t8] then U.asAgg x1 fun us13 => if 3 = sizes (us13.take 3) then (us13[3]?).bind fun e14 => U.asVar false 1 e14 fun e15 => (E 143 [e15]).bind fun t16 => if storable (.val t16) = true ∧ t16.size = 1 then if 3 = sizes [e4, t8, t12] then U.asAgg x1 fun us17 => if 4 = sizes (us17.take 4) then (us17[4]?).bind fun e18 => U.asVar false 1 e18 fun e19 => (E 142 [e19]).bind fun t20 => if storable (.val t20) = true ∧ t20.size = 1 then if 4 = sizes [e4, t8, t12, t16] then U.asAgg x1 fun us21 => if 5 = sizes (us21.take 5) then (us21[5]?).bind fun e22 => U.asVar false 1 e22 fun e23 => if storable (.val e23) = true ∧ e23.size = 1 then if 5 = sizes [e4, t8, t12, t16, t20] then U.asVar true 6 (.agg [e4, t8, t12, t16, t20, e23]) fun e24 => if storable (.val e24) = true ∧ e24.size = 6 then U.asVar true 6 e24 fun e25 => some e25 else none else none else none else none else none else none else none else none else none else none else none else none else none else none else none else none else none else none := by kernel_rfl

/-- In the environment E: this function and those that it calls. -/
structure G_laws_toEngine (E : Env) : Prop where
  is : Is E 124 1 laws_toEngine_ac [(2, some (true, 6))]
  c_laws_toStore : G_laws_toStore E
  c_laws_toTransactionS : G_laws_toTransactionS E
  c_laws_toLockS : G_laws_toLockS E
  c_laws_toWaitS : G_laws_toWaitS E
theorem laws_toEngine_E {E : Env} (h : G_laws_toEngine E) (a0 : U) : E 124 [a0] =
 U.noTup a0 fun x1 => U.asAgg x1 fun us2 => if 0 = sizes (us2.take 0) then (us2[0]?).bind fun e3 => U.asVar false 1 e3 fun e4 => if storable (.val e4) = true ∧ e4.size = 1 then U.asAgg x1 fun us5 => if 1 = sizes (us5.take 1) then (us5[1]?).bind fun e6 => U.asVar true 1 e6 fun e7 => (E 93 [e7]).bind fun t8 => if storable (.val t8) = true ∧ t8.size = 1 then if 1 = sizes [e4] then U.asAgg x1 fun us9 => if 2 = sizes (us9.take 2) then (us9[2]?).bind fun e10 => U.asVar false 1 e10 fun e11 => (E 144 [e11]).bind fun t12 => if storable (.val t12) = true ∧ t12.size = 1 then if 2 = sizes [e4, t8] then U.asAgg x1 fun us13 => if 3 = sizes (us13.take 3) then (us13[3]?).bind fun e14 => U.asVar false 1 e14 fun e15 => (E 143 [e15]).bind fun t16 => if storable (.val t16) = true ∧ t16.size = 1 then if 3 = sizes [e4, t8, t12] then U.asAgg x1 fun us17 => if 4 = sizes (us17.take 4) then (us17[4]?).bind fun e18 => U.asVar false 1 e18 fun e19 => (E 142 [e19]).bind fun t20 => if storable (.val t20) = true ∧ t20.size = 1 then if 4 = sizes [e4, t8, t12, t16] then U.asAgg x1 fun us21 => if 5 = sizes (us21.take 5) then (us21[5]?).bind fun e22 => U.asVar false 1 e22 fun e23 => if storable (.val e23) = true ∧ e23.size = 1 then if 5 = sizes [e4, t8, t12, t16, t20] then U.asVar true 6 (.agg [e4, t8, t12, t16, t20, e23]) fun e24 => if storable (.val e24) = true ∧ e24.size = 6 then U.asVar true 6 e24 fun e25 => some e25 else none else none else none else none else none else none else none else none else none else none else none else none else none else none else none else none else none else none := (h.is _ rfl).trans (laws_toEngine_eq E a0)

end Go.Proofs.YtcmkhpjehecloaaGreat.Am
namespace Go.Proofs.YtcmkhpjehecloaaGreat.Am
open Go
set_option linter.unusedVariables false
set_option maxRecDepth 100000

/- loop.example/g01924/laws.eqVersion -/
def laws_eqVersion_ac : AC :=
 (.seq (.region 0 [⟨some 2, .box false (.t 0), none⟩,
  ⟨some 3, .box false (.t 1), none⟩,
  ⟨some 4, .mv (.c (.bool false)), none⟩])
 (.seq (.seq (.region 0 [⟨some 5, .faddr 0 0 (.t 2), none⟩,
  ⟨some 6, .load false 1 (.t 5), none⟩,
  ⟨some 7, .faddr 0 0 (.t 3), none⟩,
  ⟨some 8, .load false 1 (.t 7), none⟩,
  ⟨some 9, .bin .neq (.t 6) (.t 8), none⟩])
 (.cond (.t 9) (.seq (.region 0 [⟨some 4, .mv (.c (.bool false)), none⟩])
 .ret) .skip))
 (.seq (.seq (.region 0 [⟨some 10, .faddr 1 1 (.t 2), none⟩,
  ⟨some 11, .load false 1 (.t 10), none⟩,
  ⟨some 12, .faddr 1 1 (.t 3), none⟩,
  ⟨some 13, .load false 1 (.t 12), none⟩,
  ⟨some 14, .bin .neq (.t 11) (.t 13), none⟩])
 (.cond (.t 14) (.seq (.region 0 [⟨some 4, .mv (.c (.bool false)), none⟩])
 .ret) .skip))
 (.seq (.seq (.region 0 [⟨some 15, .faddr 2 2 (.t 2), none⟩,
  ⟨some 16, .load false 1 (.t 15), none⟩,
  ⟨some 17, .faddr 2 2 (.t 3), none⟩,
  ⟨some 18, .load false 1 (.t 17), none⟩,
  ⟨some 19, .bin .neq (.t 16) (.t 18), none⟩])
 (.cond (.t 19) (.seq (.region 0 [⟨some 4, .mv (.c (.bool false)), none⟩])
 .ret) .skip))
 (.seq (.seq (.region 0 [⟨some 20, .faddr 3 3 (.t 2), none⟩,
  ⟨some 21, .load false 1 (.t 20), none⟩,
  ⟨some 22, .faddr 3 3 (.t 3), none⟩,
  ⟨some 23, .load false 1 (.t 22), none⟩,
  ⟨some 24, .bin .neq (.t 21) (.t 23), none⟩])
 (.cond (.t 24) (.seq (.region 0 [⟨some 4, .mv (.c (.bool false)), none⟩])
 .ret) .skip))
 (.seq (.seq (.region 0 [⟨some 25, .faddr 4 4 (.t 2), none⟩,
  ⟨some 26, .load false 1 (.t 25), none⟩,
  ⟨some 27, .faddr 4 4 (.t 3), none⟩,
  ⟨some 28, .load false 1 (.t 27), none⟩,
  ⟨some 29, .bin .neq (.t 26) (.t 28), none⟩])
 (.cond (.t 29) (.seq (.region 0 [⟨some 4, .mv (.c (.bool false)), none⟩])
 .ret) .skip))
 (.seq (.region 0 [⟨some 4, .mv (.c (.bool true)), none⟩])
 .ret)))))))

theorem laws_eqVersion_eq (E : Env) (a0 : U) (a1 : U) : run E laws_eqVersion_ac [(4, none)] [a0, a1] =
 U.noTup a0 fun x1 => U.noTup a1 fun x2 => U.asAgg x1 fun us3 => if 0 = sizes (us3.take 0) then (us3[0]?).bind fun e4 => U.asVar false 1 e4 fun e5 => U.asAgg x2 fun us6 => if 0 = sizes (us6.take 0) then (us6[0]?).bind fun e7 => U.asVar false 1 e7 fun e8 => (U.bin .neq e5 e8).bind fun t9 => U.asBool t9
 (some (.bool false))
 (U.asAgg x1 fun us10 => if 1 = sizes (us10.take 1) then (us10[1]?).bind fun e11 => U.asVar false 1 e11 fun e12 => U.asAgg x2 fun us13 => if 1 = sizes (us13.take 1) then (us13[1]?).bind fun e14 => U.asVar false 1 e14 fun e15 => (U.bin .neq e12 e15).bind fun t16 => U.asBool t16
 (some (.bool false))
 (U.asAgg x1 fun us17 => if 2 = sizes (us17.take 2) then (us17[2]?).bind fun e18 => U.asVar false 1 e18 fun e19 => U.asAgg x2 fun us20 => if 2 = sizes (us20.take 2) then (us20[2]?).bind fun e21 => U.asVar false 1 e21 fun e22 => (U.bin .neq e19 e22).bind fun t23 => U.asBool t23
 (some (.bool false))
 (U.asAgg x1 fun us24 => if 3 = sizes (us24.take 3) then (us24[3]?).bind fun e25 => U.asVar false 1 e25 fun e26 => U.asAgg x2 fun us27 => if 3 = sizes (us27.take 3) then (us27[3]?).bind fun e28 => U.asVar false 1 e28 fun e29 => (U.bin .neq e26 e29).bind fun t30 => U.asBool t30
 (some (.bool false))
 (U.asAgg x1 fun us31 => if 4 = sizes (us31.take 4) then (us31[4]?).bind fun e32 => U.asVar false 1 e32 fun e33 => U.asAgg x2 fun us34 => if 4 = sizes (us34.take 4) then (us34[4]?).bind fun e35 => U.asVar false 1 e35 fun e36 => (U.bin .neq e33 e36).bind fun t37 => U.asBool t37
 (some (.bool false))
 (some (.bool true)) else none else none) else none else none) else none else none) else none else none) else none else none := by kernel_rfl

/-- In the environment E: this function and those that it calls. -/
structure G_laws_eqVersion (E : Env) : Prop where
  is : Is E 120 2 laws_eqVersion_ac [(4, none)]
theorem laws_eqVersion_E {E : Env} (h : G_laws_eqVersion E) (a0 a1 : U) : E 120 [a0, a1] =
 U.noTup a0 fun x1 => U.noTup a1 fun x2 => U.asAgg x1 fun us3 => if 0 = sizes (us3.take 0) then (us3[0]?).bind fun e4 => U.asVar false 1 e4 fun e5 => U.asAgg x2 fun us6 => if 0 = sizes (us6.take 0) then (us6[0]?).bind fun e7 => U.asVar false 1 e7 fun e8 => (U.bin .neq e5 e8).bind fun t9 => U.asBool t9
 (some (.bool false))
 (U.asAgg x1 fun us10 => if 1 = sizes (us10.take 1) then (us10[1]?).bind fun e11 => U.asVar false 1 e11 fun e12 => U.asAgg x2 fun us13 => if 1 = sizes (us13.take 1) then (us13[1]?).bind fun e14 => U.asVar false 1 e14 fun e15 => (U.bin .neq e12 e15).bind fun t16 => U.asBool t16
 (some (.bool false))
 (U.asAgg x1 fun us17 => if 2 = sizes (us17.take 2) then (us17[2]?).bind fun e18 => U.asVar false 1 e18 fun e19 => U.asAgg x2 fun us20 => if 2 = sizes (us20.take 2) then (us20[2]?).bind fun e21 => U.asVar false 1 e21 fun e22 => (U.bin .neq e19 e22).bind fun t23 => U.asBool t23
 (some (.bool false))
 (U.asAgg x1 fun us24 => if 3 = sizes (us24.take 3) then (us24[3]?).bind fun e25 => U.asVar false 1 e25 fun e26 => U.asAgg x2 fun us27 => if 3 = sizes (us27.take 3) then (us27[3]?).bind fun e28 => U.asVar false 1 e28 fun e29 => (U.bin .neq e26 e29).bind fun t30 => U.asBool t30
 (some (.bool false))
 (U.asAgg x1 fun us31 => if 4 = sizes (us31.take 4) then (us31[4]?).bind fun e32 => U.asVar false 1 e32 fun e33 => U.asAgg x2 fun us34 => if 4 = sizes (us34.take 4) then (us34[4]?).bind fun e35 => U.asVar false 1 e35 fun e36 => (U.bin .neq e33 e36).bind fun t37 => U.asBool t37
 (some (.bool false))
 (some (.bool true)) else none else none) else none else none) else none else none) else none else none) else none else none := (h.is _ rfl).trans (laws_eqVersion_eq E a0 a1)

end Go.Proofs.YtcmkhpjehecloaaGreat.Am
namespace Go.Proofs.YtcmkhpjehecloaaGreat.Am
open Go
set_option linter.unusedVariables false
set_option maxRecDepth 100000

/- loop.example/g01924/laws.eqVersionS -/
def laws_eqVersionS_b0 : AC :=
 (.seq (.seq (.region 0 [⟨some 11, .mv (.t 5), none⟩,
  ⟨some 12, .mv (.t 0), none⟩,
  ⟨some 13, .len false (.t 12), none⟩,
  ⟨some 14, .bin .lss (.t 11) (.t 13), none⟩])
 (.cond (.t 14) .skip (.exit 0)))
 (.seq (.block 1 (.seq (.region 10 [⟨some 17, .mv (.t 0), none⟩,
  ⟨some 18, .mv (.t 5), none⟩,
  ⟨some 19, .iaddr 5 (.t 17) (.t 18), none⟩,
  ⟨some 20, .load true 5 (.t 19), none⟩,
  ⟨some 21, .mv (.t 1), none⟩,
  ⟨some 22, .mv (.t 5), none⟩,
  ⟨some 23, .iaddr 5 (.t 21) (.t 22), none⟩,
  ⟨some 24, .load true 5 (.t 23), none⟩,
  ⟨some 25, .call false 120 [(.t 20), (.t 24)], none⟩,
  ⟨some 26, .un .not (.t 25), none⟩])
 (.cond (.t 26) (.seq (.region 0 [⟨some 4, .mv (.c (.bool false)), none⟩])
 .ret) .skip)))
 (.region 0 [⟨some 15, .mv (.t 5), none⟩,
  ⟨some 16, .bin .add (.t 15) (.c (.int .i64 1)), none⟩,
  ⟨some 5, .mv (.t 16), none⟩])))
def laws_eqVersionS_r0 : AC :=
 (.seq (.region 0 [⟨some 4, .mv (.c (.bool true)), none⟩])
 .ret)
def laws_eqVersionS_ac : AC :=
 (.seq (.region 0 [⟨some 4, .mv (.c (.bool false)), none⟩])
 (.seq (.seq (.region 0 [⟨some 6, .mv (.t 0), none⟩,
  ⟨some 7, .len false (.t 6), none⟩,
  ⟨some 8, .mv (.t 1), none⟩,
  ⟨some 9, .len false (.t 8), none⟩,
  ⟨some 10, .bin .neq (.t 7) (.t 9), none⟩])
 (.cond (.t 10) (.seq (.region 0 [⟨some 4, .mv (.c (.bool false)), none⟩])
 .ret) .skip))
 (.seq (.seq (.region 0 [⟨some 5, .mv (.c (.int .i64 0)), none⟩])
 (.block 0 (.loop ⟨[0, 1, 5], [], []⟩ laws_eqVersionS_b0)))
 laws_eqVersionS_r0)))
noncomputable def laws_eqVersionS_l0 (E : Env) (x0 : U) (x1 : U) (x5 : U) : Option U := loopK (roundOf E ⟨[0, 1, 5], [], []⟩ laws_eqVersionS_b0 (blockK 0 (seqK (fun s => exec E laws_eqVersionS_r0 s (finish [(4, none)])) (finish [(4, none)])))) ([.val x0, .val x1, .val x5], [])
theorem laws_eqVersionS_eq (E : Env) (a0 : U) (a1 : U) : run E laws_eqVersionS_ac [(4, none)] [a0, a1] =
 (U.lenOf false a0).bind fun n1 => (U.lenOf false a1).bind fun n2 => (U.bin .neq (.int .i64 (n1 : Int)) (.int .i64 (n2 : Int))).bind fun t3 => U.asBool t3
 (some (.bool false))
 (laws_eqVersionS_l0 E a0 a1 (.int .i64 0)) := by kernel_rfl
theorem laws_eqVersionS_l0_eq (E : Env) (x0 : U) (x1 : U) (x5 : U) : laws_eqVersionS_l0 E x0 x1 x5 =
 (U.lenOf false x0).bind fun n4 => (U.bin .lss x5 (.int .i64 (n4 : Int))).bind fun t5 => U.asBool t5
 (U.asInt x5 fun n6 => U.elemAt 5 x0 n6 fun e7 => U.asVar true 5 e7 fun e8 => U.asInt x5 fun n9 => U.elemAt 5 x1 n9 fun e10 => U.asVar true 5 e10 fun e11 => (E 120 [e8, e11]).bind fun t12 => (U.un .not t12).bind fun t13 => U.asBool t13
 (some (.bool false))
 ((U.bin .add x5 (.int .i64 1)).bind fun t14 => laws_eqVersionS_l0 E x0 x1 t14))
 (some (.bool true)) :=
 (loop_eq E _ _ _ _).trans (by kernel_rfl)

/-- In the environment E: this function and those that it calls. -/
structure G_laws_eqVersionS (E : Env) : Prop where
  is : Is E 119 2 laws_eqVersionS_ac [(4, none)]
  c_laws_eqVersion : G_laws_eqVersion E
theorem laws_eqVersionS_E {E : Env} (h : G_laws_eqVersionS E) (a0 a1 : U) : E 119 [a0, a1] =
 (U.lenOf false a0).bind fun n1 => (U.lenOf false a1).bind fun n2 => (U.bin .neq (.int .i64 (n1 : Int)) (.int .i64 (n2 : Int))).bind fun t3 => U.asBool t3
 (some (.bool false))
 (laws_eqVersionS_l0 E a0 a1 (.int .i64 0)) := (h.is _ rfl).trans (laws_eqVersionS_eq E a0 a1)

end Go.Proofs.YtcmkhpjehecloaaGreat.Am
namespace Go.Proofs.YtcmkhpjehecloaaGreat.Am
open Go
set_option linter.unusedVariables false
set_option maxRecDepth 100000

/- loop.example/g01924/laws.eqVersionSS -/
def laws_eqVersionSS_b0 : AC :=
 (.seq (.seq (.region 0 [⟨some 11, .mv (.t 5), none⟩,
  ⟨some 12, .mv (.t 0), none⟩,
  ⟨some 13, .len false (.t 12), none⟩,
  ⟨some 14, .bin .lss (.t 11) (.t 13), none⟩])
 (.cond (.t 14) .skip (.exit 0)))
 (.seq (.block 1 (.seq (.region 10 [⟨some 17, .mv (.t 0), none⟩,
  ⟨some 18, .mv (.t 5), none⟩,
  ⟨some 19, .iaddr 1 (.t 17) (.t 18), none⟩,
  ⟨some 20, .load false 1 (.t 19), none⟩,
  ⟨some 21, .mv (.t 1), none⟩,
  ⟨some 22, .mv (.t 5), none⟩,
  ⟨some 23, .iaddr 1 (.t 21) (.t 22), none⟩,
  ⟨some 24, .load false 1 (.t 23), none⟩,
  ⟨some 25, .call false 119 [(.t 20), (.t 24)], none⟩,
  ⟨some 26, .un .not (.t 25), none⟩])
 (.cond (.t 26) (.seq (.region 0 [⟨some 4, .mv (.c (.bool false)), none⟩])
 .ret) .skip)))
 (.region 0 [⟨some 15, .mv (.t 5), none⟩,
  ⟨some 16, .bin .add (.t 15) (.c (.int .i64 1)), none⟩,
  ⟨some 5, .mv (.t 16), none⟩])))
def laws_eqVersionSS_r0 : AC :=
 (.seq (.region 0 [⟨some 4, .mv (.c (.bool true)), none⟩])
 .ret)
def laws_eqVersionSS_ac : AC :=
 (.seq (.region 0 [⟨some 4, .mv (.c (.bool false)), none⟩])
 (.seq (.seq (.region 0 [⟨some 6, .mv (.t 0), none⟩,
  ⟨some 7, .len false (.t 6), none⟩,
  ⟨some 8, .mv (.t 1), none⟩,
  ⟨some 9, .len false (.t 8), none⟩,
  ⟨some 10, .bin .neq (.t 7) (.t 9), none⟩])
 (.cond (.t 10) (.seq (.region 0 [⟨some 4, .mv (.c (.bool false)), none⟩])
 .ret) .skip))
 (.seq (.seq (.region 0 [⟨some 5, .mv (.c (.int .i64 0)), none⟩])
 (.block 0 (.loop ⟨[0, 1, 5], [], []⟩ laws_eqVersionSS_b0)))
 laws_eqVersionSS_r0)))
noncomputable def laws_eqVersionSS_l0 (E : Env) (x0 : U) (x1 : U) (x5 : U) : Option U := loopK (roundOf E ⟨[0, 1, 5], [], []⟩ laws_eqVersionSS_b0 (blockK 0 (seqK (fun s => exec E laws_eqVersionSS_r0 s (finish [(4, none)])) (finish [(4, none)])))) ([.val x0, .val x1, .val x5], [])
theorem laws_eqVersionSS_eq (E : Env) (a0 : U) (a1 : U) : run E laws_eqVersionSS_ac [(4, none)] [a0, a1] =
 (U.lenOf false a0).bind fun n1 => (U.lenOf false a1).bind fun n2 => (U.bin .neq (.int .i64 (n1 : Int)) (.int .i64 (n2 : Int))).bind fun t3 => U.asBool t3
 (some (.bool false))
 (laws_eqVersionSS_l0 E a0 a1 (.int .i64 0)) := by kernel_rfl
theorem laws_eqVersionSS_l0_eq (E : Env) (x0 : U) (x1 : U) (x5 : U) : laws_eqVersionSS_l0 E x0 x1 x5 =
 (U.lenOf false x0).bind fun n4 => (U.bin .lss x5 (.int .i64 (n4 : Int))).bind fun t5 => U.asBool t5
 (U.asInt x5 fun n6 => U.elemAt 1 x0 n6 fun e7 => U.asVar false 1 e7 fun e8 => U.asInt x5 fun n9 => U.elemAt 1 x1 n9 fun e10 => U.asVar false 1 e10 fun e11 => (E 119 [e8, e11]).bind fun t12 => (U.un .not t12).bind fun t13 => U.asBool t13
 (some (.bool false))
 ((U.bin .add x5 (.int .i64 1)).bind fun t14 => laws_eqVersionSS_l0 E x0 x1 t14))
 (some (.bool true)) :=
 (loop_eq E _ _ _ _).trans (by kernel_rfl)

/-- In the environment E: this function and those that it calls. -/
structure G_laws_eqVersionSS (E : Env) : Prop where
  is : Is E 118 2 laws_eqVersionSS_ac [(4, none)]
  c_laws_eqVersionS : G_laws_eqVersionS E
theorem laws_eqVersionSS_E {E : Env} (h : G_laws_eqVersionSS E) (a0 a1 : U) : E 118 [a0, a1] =
 (U.lenOf false a0).bind fun n1 => (U.lenOf false a1).bind fun n2 => (U.bin .neq (.int .i64 (n1 : Int)) (.int .i64 (n2 : Int))).bind fun t3 => U.asBool t3
 (some (.bool false))
 (laws_eqVersionSS_l0 E a0 a1 (.int .i64 0)) := (h.is _ rfl).trans (laws_eqVersionSS_eq E a0 a1)

end Go.Proofs.YtcmkhpjehecloaaGreat.Am
namespace Go.Proofs.YtcmkhpjehecloaaGreat.Am
open Go
set_option linter.unusedVariables false
set_option maxRecDepth 100000

/- loop.example/g01924/laws.eqStore -/
def laws_eqStore_ac : AC :=
 (.seq (.region 0 [⟨some 2, .box false (.t 0), none⟩,
  ⟨some 3, .box false (.t 1), none⟩,
  ⟨some 4, .mv (.c (.bool false)), none⟩])
 (.seq (.seq (.region 0 [⟨some 5, .faddr 0 0 (.t 2), none⟩,
  ⟨some 6, .load false 1 (.t 5), none⟩,
  ⟨some 7, .faddr 0 0 (.t 3), none⟩,
  ⟨some 8, .load false 1 (.t 7), none⟩,
  ⟨some 9, .call false 118 [(.t 6), (.t 8)], none⟩,
  ⟨some 10, .un .not (.t 9), none⟩])
 (.cond (.t 10) (.seq (.region 0 [⟨some 4, .mv (.c (.bool false)), none⟩])
 .ret) .skip))
 (.seq (.region 0 [⟨some 4, .mv (.c (.bool true)), none⟩])
 .ret)))

theorem laws_eqStore_eq (E : Env) (a0 : U) (a1 : U) : run E laws_eqStore_ac [(4, none)] [a0, a1] =
 U.noTup a0 fun x1 => U.noTup a1 fun x2 => U.asAgg x1 fun us3 => if 0 = sizes (us3.take 0) then (us3[0]?).bind fun e4 => U.asVar false 1 e4 fun e5 => U.asAgg x2 fun us6 => if 0 = sizes (us6.take 0) then (us6[0]?).bind fun e7 => U.asVar false 1 e7 fun e8 => (E 118 [e5, e8]).bind fun t9 => (U.un .not t9).bind fun t10 => U.asBool t10
 (some (.bool false))
 (some (.bool true)) else none else none := by kernel_rfl

/-- In the environment E: this function and those that it calls. -/
structure G_laws_eqStore (E : Env) : Prop where
  is : Is E 97 2 laws_eqStore_ac [(4, none)]
  c_laws_eqVersionSS : G_laws_eqVersionSS E
theorem laws_eqStore_E {E : Env} (h : G_laws_eqStore E) (a0 a1 : U) : E 97 [a0, a1] =
 U.noTup a0 fun x1 => U.noTup a1 fun x2 => U.asAgg x1 fun us3 => if 0 = sizes (us3.take 0) then (us3[0]?).bind fun e4 => U.asVar false 1 e4 fun e5 => U.asAgg x2 fun us6 => if 0 = sizes (us6.take 0) then (us6[0]?).bind fun e7 => U.asVar false 1 e7 fun e8 => (E 118 [e5, e8]).bind fun t9 => (U.un .not t9).bind fun t10 => U.asBool t10
 (some (.bool false))
 (some (.bool true)) else none else none := (h.is _ rfl).trans (laws_eqStore_eq E a0 a1)

end Go.Proofs.YtcmkhpjehecloaaGreat.Am
namespace Go.Proofs.YtcmkhpjehecloaaGreat.Am
open Go
set_option linter.unusedVariables false
set_option maxRecDepth 100000

/- loop.example/g01924/laws.eqReadMark -/
def laws_eqReadMark_ac : AC :=
 (.seq (.region 0 [⟨some 2, .box false (.t 0), none⟩,
  ⟨some 3, .box false (.t 1), none⟩,
  ⟨some 4, .mv (.c (.bool false)), none⟩])
 (.seq (.seq (.region 0 [⟨some 5, .faddr 0 0 (.t 2), none⟩,
  ⟨some 6, .load false 1 (.t 5), none⟩,
  ⟨some 7, .faddr 0 0 (.t 3), none⟩,
  ⟨some 8, .load false 1 (.t 7), none⟩,
  ⟨some 9, .bin .neq (.t 6) (.t 8), none⟩])
 (.cond (.t 9) (.seq (.region 0 [⟨some 4, .mv (.c (.bool false)), none⟩])
 .ret) .skip))
 (.seq (.seq (.region 0 [⟨some 10, .faddr 1 1 (.t 2), none⟩,
  ⟨some 11, .load false 1 (.t 10), none⟩,
  ⟨some 12, .faddr 1 1 (.t 3), none⟩,
  ⟨some 13, .load false 1 (.t 12), none⟩,
  ⟨some 14, .bin .neq (.t 11) (.t 13), none⟩])
 (.cond (.t 14) (.seq (.region 0 [⟨some 4, .mv (.c (.bool false)), none⟩])
 .ret) .skip))
 (.seq (.region 0 [⟨some 4, .mv (.c (.bool true)), none⟩])
 .ret))))

theorem laws_eqReadMark_eq (E : Env) (a0 : U) (a1 : U) : run E laws_eqReadMark_ac [(4, none)] [a0, a1] =
 U.noTup a0 fun x1 => U.noTup a1 fun x2 => U.asAgg x1 fun us3 => if 0 = sizes (us3.take 0) then (us3[0]?).bind fun e4 => U.asVar false 1 e4 fun e5 => U.asAgg x2 fun us6 => if 0 = sizes (us6.take 0) then (us6[0]?).bind fun e7 => U.asVar false 1 e7 fun e8 => (U.bin .neq e5 e8).bind fun t9 => U.asBool t9
 (some (.bool false))
 (U.asAgg x1 fun us10 => if 1 = sizes (us10.take 1) then (us10[1]?).bind fun e11 => U.asVar false 1 e11 fun e12 => U.asAgg x2 fun us13 => if 1 = sizes (us13.take 1) then (us13[1]?).bind fun e14 => U.asVar false 1 e14 fun e15 => (U.bin .neq e12 e15).bind fun t16 => U.asBool t16
 (some (.bool false))
 (some (.bool true)) else none else none) else none else none := by kernel_rfl

/-- In the environment E: this function and those that it calls. -/
structure G_laws_eqReadMark (E : Env) : Prop where
  is : Is E 35 2 laws_eqReadMark_ac [(4, none)]
theorem laws_eqReadMark_E {E : Env} (h : G_laws_eqReadMark E) (a0 a1 : U) : E 35 [a0, a1] =
 U.noTup a0 fun x1 => U.noTup a1 fun x2 => U.asAgg x1 fun us3 => if 0 = sizes (us3.take 0) then (us3[0]?).bind fun e4 => U.asVar false 1 e4 fun e5 => U.asAgg x2 fun us6 => if 0 = sizes (us6.take 0) then (us6[0]?).bind fun e7 => U.asVar false 1 e7 fun e8 => (U.bin .neq e5 e8).bind fun t9 => U.asBool t9
 (some (.bool false))
 (U.asAgg x1 fun us10 => if 1 = sizes (us10.take 1) then (us10[1]?).bind fun e11 => U.asVar false 1 e11 fun e12 => U.asAgg x2 fun us13 => if 1 = sizes (us13.take 1) then (us13[1]?).bind fun e14 => U.asVar false 1 e14 fun e15 => (U.bin .neq e12 e15).bind fun t16 => U.asBool t16
 (some (.bool false))
 (some (.bool true)) else none else none) else none else none := (h.is _ rfl).trans (laws_eqReadMark_eq E a0 a1)

end Go.Proofs.YtcmkhpjehecloaaGreat.Am
namespace Go.Proofs.YtcmkhpjehecloaaGreat.Am
open Go
set_option linter.unusedVariables false
set_option maxRecDepth 100000

/- loop.example/g01924/laws.eqReadMarkS -/
def laws_eqReadMarkS_b0 : AC :=
 (.seq (.seq (.region 0 [⟨some 11, .mv (.t 5), none⟩,
  ⟨some 12, .mv (.t 0), none⟩,
  ⟨some 13, .len false (.t 12), none⟩,
  ⟨some 14, .bin .lss (.t 11) (.t 13), none⟩])
 (.cond (.t 14) .skip (.exit 0)))
 (.seq (.block 1 (.seq (.region 10 [⟨some 17, .mv (.t 0), none⟩,
  ⟨some 18, .mv (.t 5), none⟩,
  ⟨some 19, .iaddr 2 (.t 17) (.t 18), none⟩,
  ⟨some 20, .load true 2 (.t 19), none⟩,
  ⟨some 21, .mv (.t 1), none⟩,
  ⟨some 22, .mv (.t 5), none⟩,
  ⟨some 23, .iaddr 2 (.t 21) (.t 22), none⟩,
  ⟨some 24, .load true 2 (.t 23), none⟩,
  ⟨some 25, .call false 35 [(.t 20), (.t 24)], none⟩,
  ⟨some 26, .un .not (.t 25), none⟩])
 (.cond (.t 26) (.seq (.region 0 [⟨some 4, .mv (.c (.bool false)), none⟩])
 .ret) .skip)))
 (.region 0 [⟨some 15, .mv (.t 5), none⟩,
  ⟨some 16, .bin .add (.t 15) (.c (.int .i64 1)), none⟩,
  ⟨some 5, .mv (.t 16), none⟩])))
def laws_eqReadMarkS_r0 : AC :=
 (.seq (.region 0 [⟨some 4, .mv (.c (.bool true)), none⟩])
 .ret)
def laws_eqReadMarkS_ac : AC :=
 (.seq (.region 0 [⟨some 4, .mv (.c (.bool false)), none⟩])
 (.seq (.seq (.region 0 [⟨some 6, .mv (.t 0), none⟩,
  ⟨some 7, .len false (.t 6), none⟩,
  ⟨some 8, .mv (.t 1), none⟩,
  ⟨some 9, .len false (.t 8), none⟩,
  ⟨some 10, .bin .neq (.t 7) (.t 9), none⟩])
 (.cond (.t 10) (.seq (.region 0 [⟨some 4, .mv (.c (.bool false)), none⟩])
 .ret) .skip))
 (.seq (.seq (.region 0 [⟨some 5, .mv (.c (.int .i64 0)), none⟩])
 (.block 0 (.loop ⟨[0, 1, 5], [], []⟩ laws_eqReadMarkS_b0)))
 laws_eqReadMarkS_r0)))
noncomputable def laws_eqReadMarkS_l0 (E : Env) (x0 : U) (x1 : U) (x5 : U) : Option U := loopK (roundOf E ⟨[0, 1, 5], [], []⟩ laws_eqReadMarkS_b0 (blockK 0 (seqK (fun s => exec E laws_eqReadMarkS_r0 s (finish [(4, none)])) (finish [(4, none)])))) ([.val x0, .val x1, .val x5], [])
theorem laws_eqReadMarkS_eq (E : Env) (a0 : U) (a1 : U) : run E laws_eqReadMarkS_ac [(4, none)] [a0, a1] =
 (U.lenOf false a0).bind fun n1 => (U.lenOf false a1).bind fun n2 => (U.bin .neq (.int .i64 (n1 : Int)) (.int .i64 (n2 : Int))).bind fun t3 => U.asBool t3
 (some (.bool false))
 (laws_eqReadMarkS_l0 E a0 a1 (.int .i64 0)) := by kernel_rfl
theorem laws_eqReadMarkS_l0_eq (E : Env) (x0 : U) (x1 : U) (x5 : U) : laws_eqReadMarkS_l0 E x0 x1 x5 =
 (U.lenOf false x0).bind fun n4 => (U.bin .lss x5 (.int .i64 (n4 : Int))).bind fun t5 => U.asBool t5
 (U.asInt x5 fun n6 => U.elemAt 2 x0 n6 fun e7 => U.asVar true 2 e7 fun e8 => U.asInt x5 fun n9 => U.elemAt 2 x1 n9 fun e10 => U.asVar true 2 e10 fun e11 => (E 35 [e8, e11]).bind fun t12 => (U.un .not t12).bind fun t13 => U.asBool t13
 (some (.bool false))
 ((U.bin .add x5 (.int .i64 1)).bind fun t14 => laws_eqReadMarkS_l0 E x0 x1 t14))
 (some (.bool true)) :=
 (loop_eq E _ _ _ _).trans (by kernel_rfl)

/-- In the environment E: this function and those that it calls. -/
structure G_laws_eqReadMarkS (E : Env) : Prop where
  is : Is E 34 2 laws_eqReadMarkS_ac [(4, none)]
  c_laws_eqReadMark : G_laws_eqReadMark E
theorem laws_eqReadMarkS_E {E : Env} (h : G_laws_eqReadMarkS E) (a0 a1 : U) : E 34 [a0, a1] =
 (U.lenOf false a0).bind fun n1 => (U.lenOf false a1).bind fun n2 => (U.bin .neq (.int .i64 (n1 : Int)) (.int .i64 (n2 : Int))).bind fun t3 => U.asBool t3
 (some (.bool false))
 (laws_eqReadMarkS_l0 E a0 a1 (.int .i64 0)) := (h.is _ rfl).trans (laws_eqReadMarkS_eq E a0 a1)

end Go.Proofs.YtcmkhpjehecloaaGreat.Am
namespace Go.Proofs.YtcmkhpjehecloaaGreat.Am
open Go
set_option linter.unusedVariables false
set_option maxRecDepth 100000

/- loop.example/g01924/laws.eqWrite -/
def laws_eqWrite_ac : AC :=
 (.seq (.region 0 [⟨some 2, .box false (.t 0), none⟩,
  ⟨some 3, .box false (.t 1), none⟩,
  ⟨some 4, .mv (.c (.bool false)), none⟩])
 (.seq (.seq (.region 0 [⟨some 5, .faddr 0 0 (.t 2), none⟩,
  ⟨some 6, .load false 1 (.t 5), none⟩,
  ⟨some 7, .faddr 0 0 (.t 3), none⟩,
  ⟨some 8, .load false 1 (.t 7), none⟩,
  ⟨some 9, .bin .neq (.t 6) (.t 8), none⟩])
 (.cond (.t 9) (.seq (.region 0 [⟨some 4, .mv (.c (.bool false)), none⟩])
 .ret) .skip))
 (.seq (.seq (.region 0 [⟨some 10, .faddr 1 1 (.t 2), none⟩,
  ⟨some 11, .load false 1 (.t 10), none⟩,
  ⟨some 12, .faddr 1 1 (.t 3), none⟩,
  ⟨some 13, .load false 1 (.t 12), none⟩,
  ⟨some 14, .bin .neq (.t 11) (.t 13), none⟩])
 (.cond (.t 14) (.seq (.region 0 [⟨some 4, .mv (.c (.bool false)), none⟩])
 .ret) .skip))
 (.seq (.region 0 [⟨some 4, .mv (.c (.bool true)), none⟩])
 .ret))))

theorem laws_eqWrite_eq (E : Env) (a0 : U) (a1 : U) : run E laws_eqWrite_ac [(4, none)] [a0, a1] =
 U.noTup a0 fun x1 => U.noTup a1 fun x2 => U.asAgg x1 fun us3 => if 0 = sizes (us3.take 0) then (us3[0]?).bind fun e4 => U.asVar false 1 e4 fun e5 => U.asAgg x2 fun us6 => if 0 = sizes (us6.take 0) then (us6[0]?).bind fun e7 => U.asVar false 1 e7 fun e8 => (U.bin .neq e5 e8).bind fun t9 => U.asBool t9
 (some (.bool false))
 (U.asAgg x1 fun us10 => if 1 = sizes (us10.take 1) then (us10[1]?).bind fun e11 => U.asVar false 1 e11 fun e12 => U.asAgg x2 fun us13 => if 1 = sizes (us13.take 1) then (us13[1]?).bind fun e14 => U.asVar false 1 e14 fun e15 => (U.bin .neq e12 e15).bind fun t16 => U.asBool t16
 (some (.bool false))
 (some (.bool true)) else none else none) else none else none := by kernel_rfl

/-- In the environment E: this function and those that it calls. -/
structure G_laws_eqWrite (E : Env) : Prop where
  is : Is E 36 2 laws_eqWrite_ac [(4, none)]
theorem laws_eqWrite_E {E : Env} (h : G_laws_eqWrite E) (a0 a1 : U) : E 36 [a0, a1] =
 U.noTup a0 fun x1 => U.noTup a1 fun x2 => U.asAgg x1 fun us3 => if 0 = sizes (us3.take 0) then (us3[0]?).bind fun e4 => U.asVar false 1 e4 fun e5 => U.asAgg x2 fun us6 => if 0 = sizes (us6.take 0) then (us6[0]?).bind fun e7 => U.asVar false 1 e7 fun e8 => (U.bin .neq e5 e8).bind fun t9 => U.asBool t9
 (some (.bool false))
 (U.asAgg x1 fun us10 => if 1 = sizes (us10.take 1) then (us10[1]?).bind fun e11 => U.asVar false 1 e11 fun e12 => U.asAgg x2 fun us13 => if 1 = sizes (us13.take 1) then (us13[1]?).bind fun e14 => U.asVar false 1 e14 fun e15 => (U.bin .neq e12 e15).bind fun t16 => U.asBool t16
 (some (.bool false))
 (some (.bool true)) else none else none) else none else none := (h.is _ rfl).trans (laws_eqWrite_eq E a0 a1)

end Go.Proofs.YtcmkhpjehecloaaGreat.Am
namespace Go.Proofs.YtcmkhpjehecloaaGreat.Am
open Go
set_option linter.unusedVariables false
set_option maxRecDepth 100000

/- loop.example/g01924/laws.eqWriteS -/
def laws_eqWriteS_b0 : AC :=
 (.seq (.seq (.region 0 [⟨some 11, .mv (.t 5), none⟩,
  ⟨some 12, .mv (.t 0), none⟩,
  ⟨some 13, .len false (.t 12), none⟩,
  ⟨some 14, .bin .lss (.t 11) (.t 13), none⟩])
 (.cond (.t 14) .skip (.exit 0)))
 (.seq (.block 1 (.seq (.region 10 [⟨some 17, .mv (.t 0), none⟩,
  ⟨some 18, .mv (.t 5), none⟩,
  ⟨some 19, .iaddr 2 (.t 17) (.t 18), none⟩,
  ⟨some 20, .load true 2 (.t 19), none⟩,
  ⟨some 21, .mv (.t 1), none⟩,
  ⟨some 22, .mv (.t 5), none⟩,
  ⟨some 23, .iaddr 2 (.t 21) (.t 22), none⟩,
  ⟨some 24, .load true 2 (.t 23), none⟩,
  ⟨some 25, .call false 36 [(.t 20), (.t 24)], none⟩,
  ⟨some 26, .un .not (.t 25), none⟩])
 (.cond (.t 26) (.seq (.region 0 [⟨some 4, .mv (.c (.bool false)), none⟩])
 .ret) .skip)))
 (.region 0 [⟨some 15, .mv (.t 5), none⟩,
  ⟨some 16, .bin .add (.t 15) (.c (.int .i64 1)), none⟩,
  ⟨some 5, .mv (.t 16), none⟩])))
def laws_eqWriteS_r0 : AC :=
 (.seq (.region 0 [⟨some 4, .mv (.c (.bool true)), none⟩])
 .ret)
def laws_eqWriteS_ac : AC :=
 (.seq (.region 0 [⟨some 4, .mv (.c (.bool false)), none⟩])
 (.seq (.seq (.region 0 [⟨some 6, .mv (.t 0), none⟩,
  ⟨some 7, .len false (.t 6), none⟩,
  ⟨some 8, .mv (.t 1), none⟩,
  ⟨some 9, .len false (.t 8), none⟩,
  ⟨some 10, .bin .neq (.t 7) (.t 9), none⟩])
 (.cond (.t 10) (.seq (.region 0 [⟨some 4, .mv (.c (.bool false)), none⟩])
 .ret) .skip))
 (.seq (.seq (.region 0 [⟨some 5, .mv (.c (.int .i64 0)), none⟩])
 (.block 0 (.loop ⟨[0, 1, 5], [], []⟩ laws_eqWriteS_b0)))
 laws_eqWriteS_r0)))
noncomputable def laws_eqWriteS_l0 (E : Env) (x0 : U) (x1 : U) (x5 : U) : Option U := loopK (roundOf E ⟨[0, 1, 5], [], []⟩ laws_eqWriteS_b0 (blockK 0 (seqK (fun s => exec E laws_eqWriteS_r0 s (finish [(4, none)])) (finish [(4, none)])))) ([.val x0, .val x1, .val x5], [])
theorem laws_eqWriteS_eq (E : Env) (a0 : U) (a1 : U) : run E laws_eqWriteS_ac [(4, none)] [a0, a1] =
 (U.lenOf false a0).bind fun n1 => (U.lenOf false a1).bind fun n2 => (U.bin .neq (.int .i64 (n1 : Int)) (.int .i64 (n2 : Int))).bind fun t3 => U.asBool t3
 (some (.bool false))
 (laws_eqWriteS_l0 E a0 a1 (.int .i64 0)) := by kernel_rfl
theorem laws_eqWriteS_l0_eq (E : Env) (x0 : U) (x1 : U) (x5 : U) : laws_eqWriteS_l0 E x0 x1 x5 =
 (U.lenOf false x0).bind fun n4 => (U.bin .lss x5 (.int .i64 (n4 : Int))).bind fun t5 => U.asBool t5
 (U.asInt x5 fun n6 => U.elemAt 2 x0 n6 fun e7 => U.asVar true 2 e7 fun e8 => U.asInt x5 fun n9 => U.elemAt 2 x1 n9 fun e10 => U.asVar true 2 e10 fun e11 => (E 36 [e8, e11]).bind fun t12 => (U.un .not t12).bind fun t13 => U.asBool t13
 (some (.bool false))
 ((U.bin .add x5 (.int .i64 1)).bind fun t14 => laws_eqWriteS_l0 E x0 x1 t14))
 (some (.bool true)) :=
 (loop_eq E _ _ _ _).trans (by kernel_rfl)

/-- In the environment E: this function and those that it calls. -/
structure G_laws_eqWriteS (E : Env) : Prop where
  is : Is E 33 2 laws_eqWriteS_ac [(4, none)]
  c_laws_eqWrite : G_laws_eqWrite E
theorem laws_eqWriteS_E {E : Env} (h : G_laws_eqWriteS E) (a0 a1 : U) : E 33 [a0, a1] =
 (U.lenOf false a0).bind fun n1 => (U.lenOf false a1).bind fun n2 => (U.bin .neq (.int .i64 (n1 : Int)) (.int .i64 (n2 : Int))).bind fun t3 => U.asBool t3
 (some (.bool false))
 (laws_eqWriteS_l0 E a0 a1 (.int .i64 0)) := (h.is _ rfl).trans (laws_eqWriteS_eq E a0 a1)

end Go.Proofs.YtcmkhpjehecloaaGreat.Am
namespace Go.Proofs.YtcmkhpjehecloaaGreat.Am
open Go
set_option linter.unusedVariables false
set_option maxRecDepth 100000

/- loop.example/g01924/laws.eqTransaction -/
def laws_eqTransaction_ac : AC :=
 (.seq (.region 0 [⟨some 2, .box false (.t 0), none⟩,
  ⟨some 3, .box false (.t 1), none⟩,
  ⟨some 4, .mv (.c (.bool false)), none⟩])
 (.seq (.seq (.region 0 [⟨some 5, .faddr 0 0 (.t 2), none⟩,
  ⟨some 6, .load false 1 (.t 5), none⟩,
  ⟨some 7, .faddr 0 0 (.t 3), none⟩,
  ⟨some 8, .load false 1 (.t 7), none⟩,
  ⟨some 9, .bin .neq (.t 6) (.t 8), none⟩])
 (.cond (.t 9) (.seq (.region 0 [⟨some 4, .mv (.c (.bool false)), none⟩])
 .ret) .skip))
 (.seq (.seq (.region 0 [⟨some 10, .faddr 1 1 (.t 2), none⟩,
  ⟨some 11, .load false 1 (.t 10), none⟩,
  ⟨some 12, .faddr 1 1 (.t 3), none⟩,
  ⟨some 13, .load false 1 (.t 12), none⟩,
  ⟨some 14, .bin .neq (.t 11) (.t 13), none⟩])
 (.cond (.t 14) (.seq (.region 0 [⟨some 4, .mv (.c (.bool false)), none⟩])
 .ret) .skip))
 (.seq (.seq (.region 0 [⟨some 15, .faddr 2 2 (.t 2), none⟩,
  ⟨some 16, .load false 1 (.t 15), none⟩,
  ⟨some 17, .faddr 2 2 (.t 3), none⟩,
  ⟨some 18, .load false 1 (.t 17), none⟩,
  ⟨some 19, .bin .neq (.t 16) (.t 18), none⟩])
 (.cond (.t 19) (.seq (.region 0 [⟨some 4, .mv (.c (.bool false)), none⟩])
 .ret) .skip))
 (.seq (.seq (.region 0 [⟨some 20, .faddr 3 3 (.t 2), none⟩,
  ⟨some 21, .load false 1 (.t 20), none⟩,
  ⟨some 22, .faddr 3 3 (.t 3), none⟩,
  ⟨some 23, .load false 1 (.t 22), none⟩,
  ⟨some 24, .bin .neq (.t 21) (.t 23), none⟩])
 (.cond (.t 24) (.seq (.region 0 [⟨some 4, .mv (.c (.bool false)), none⟩])
 .ret) .skip))
 (.seq (.seq (.region 0 [⟨some 25, .faddr 4 4 (.t 2), none⟩,
  ⟨some 26, .load false 1 (.t 25), none⟩,
  ⟨some 27, .faddr 4 4 (.t 3), none⟩,
  ⟨some 28, .load false 1 (.t 27), none⟩,
  ⟨some 29, .bin .neq (.t 26) (.t 28), none⟩])
 (.cond (.t 29) (.seq (.region 0 [⟨some 4, .mv (.c (.bool false)), none⟩])
 .ret) .skip))
 (.seq (.seq (.region 0 [⟨some 30, .faddr 5 5 (.t 2), none⟩,
  ⟨some 31, .load false 1 (.t 30), none⟩,
  ⟨some 32, .faddr 5 5 (.t 3), none⟩,
  ⟨some 33, .load false 1 (.t 32), none⟩,
  ⟨some 34, .bin .neq (.t 31) (.t 33), none⟩])
 (.cond (.t 34) (.seq (.region 0 [⟨some 4, .mv (.c (.bool false)), none⟩])
 .ret) .skip))
 (.seq (.seq (.region 0 [⟨some 35, .faddr 6 6 (.t 2), none⟩,
  ⟨some 36, .load false 1 (.t 35), none⟩,
  ⟨some 37, .faddr 6 6 (.t 3), none⟩,
  ⟨some 38, .load false 1 (.t 37), none⟩,
  ⟨some 39, .bin .neq (.t 36) (.t 38), none⟩])
 (.cond (.t 39) (.seq (.region 0 [⟨some 4, .mv (.c (.bool false)), none⟩])
 .ret) .skip))
 (.seq (.seq (.region 0 [⟨some 40, .faddr 7 7 (.t 2), none⟩,
  ⟨some 41, .load false 1 (.t 40), none⟩,
  ⟨some 42, .faddr 7 7 (.t 3), none⟩,
  ⟨some 43, .load false 1 (.t 42), none⟩,
  ⟨some 44, .call false 34 [(.t 41), (.t 43)], none⟩,
  ⟨some 45, .un .not (.t 44), none⟩])
 (.cond (.t 45) (.seq (.region 0 [⟨some 4, .mv (.c (.bool false)), none⟩])
 .ret) .skip))
 (.seq (.seq (.region 0 [⟨some 46, .faddr 8 8 (.t 2), none⟩,
  ⟨some 47, .load false 1 (.t 46), none⟩,
  ⟨some 48, .faddr 8 8 (.t 3), none⟩,
  ⟨some 49, .load false 1 (.t 48), none⟩,
  ⟨some 50, .call false 33 [(.t 47), (.t 49)], none⟩,
  ⟨some 51, .un .not (.t 50), none⟩])
 (.cond (.t 51) (.seq (.region 0 [⟨some 4, .mv (.c (.bool false)), none⟩])
 .ret) .skip))
 (.seq (.region 0 [⟨some 4, .mv (.c (.bool true)), none⟩])
 .ret)))))))))))

theorem laws_eqTransaction_eq (E : Env) (a0 : U) (a1 : U) : run E laws_eqTransaction_ac [(4, none)] [a0, a1] =
 U.noTup a0 fun x1 => U.noTup a1 fun x2 => U.asAgg x1 fun us3 => if 0 = sizes (us3.take 0) then (us3[0]?).bind fun e4 => U.asVar false 1 e4 fun e5 => U.asAgg x2 fun us6 => if 0 = sizes (us6.take 0) then (us6[0]?).bind fun e7 => U.asVar false 1 e7 fun e8 => (U.bin .neq e5 e8).bind fun t9 => U.asBool t9
 (some (.bool false))
 (U.asAgg x1 fun us10 => if 1 = sizes (us10.take 1) then (us10[1]?).bind fun e11 => U.asVar false 1 e11 fun e12 => U.asAgg x2 fun us13 => if 1 = sizes (us13.take 1) then (us13[1]?).bind fun e14 => U.asVar false 1 e14 fun e15 => (U.bin .neq e12 e15).bind fun t16 => U.asBool t16
 (some (.bool false))
 (U.asAgg x1 fun us17 => if 2 = sizes (us17.take 2) then (us17[2]?).bind fun e18 => U.asVar false 1 e18 fun e19 => U.asAgg x2 fun us20 => if 2 = sizes (us20.take 2) then (us20[2]?).bind fun e21 => U.asVar false 1 e21 fun e22 => (U.bin .neq e19 e22).bind fun t23 => U.asBool t23
 (some (.bool false))
 (U.asAgg x1 fun us24 => if 3 = sizes (us24.take 3) then (us24[3]?).bind fun e25 => U.asVar false 1 e25 fun e26 => U.asAgg x2 fun us27 => if 3 = sizes (us27.take 3) then (us27[3]?).bind fun e28 => U.asVar false 1 e28 fun e29 => (U.bin .neq e26 e29).bind fun t30 => U.asBool t30
 (some (.bool false))
 (U.asAgg x1 fun us31 => if 4 = sizes (us31.take 4) then (us31[4]?).bind fun e32 => U.asVar false 1 e32 fun e33 => U.asAgg x2 fun us34 => if 4 = sizes (us34.take 4) then (us34[4]?).bind fun e35 => U.asVar false 1 e35 fun e36 => (U.bin .neq e33 e36).bind fun t37 => U.asBool t37
 (some (.bool false))
 (U.asAgg x1 fun us38 => if 5 = sizes (us38.take 5) then (us38[5]?).bind fun e39 => U.asVar false 1 e39 fun e40 => U.asAgg x2 fun us41 => if 5 = sizes (us41.take 5) then (us41[5]?).bind fun e42 => U.asVar false 1 e42 fun e43 => (U.bin .neq e40 e43).bind fun t44 => U.asBool t44
 (some (.bool false))
 (U.asAgg x1 fun us45 => if 6 = sizes (us45.take 6) then (us45[6]?).bind fun e46 => U.asVar false 1 e46 fun e47 => U.asAgg x2 fun us48 => if 6 = sizes (us48.take 6) then (us48[6]?).bind fun e49 => U.asVar false 1 e49 fun e50 => (U.bin .neq e47 e50).bind fun t51 => U.asBool t51
 (some (.bool false))
 (U.asAgg x1 fun us52 => if 7 = sizes (us52.take 7) then (us52[7]?).bind fun e53 => U.asVar false 1 e53 fun e54 => U.asAgg x2 fun us55 => if 7 = sizes (us55.take 7) then (us55[7]?).bind fun e56 => U.asVar false 1 e56 fun e57 => (E 34 [e54, e57]).bind fun t58 => (U.un .not t58).bind fun t59 => U.asBool t59
 (some (.bool false))
 (U.asAgg x1 fun us60 => if 8 = sizes (us60.take 8) then (us60[8]?).bind fun e61 => U.asVar false 1 e61 fun e62 => U.asAgg x2 fun us63 => if 8 = sizes (us63.take 8) then (us63[8]?).bind fun e64 => U.asVar false 1 e64 fun e65 => (E 33 [e62, e65]).bind fun t66 => (U.un .not t66).bind fun t67 => U.asBool t67
 (some (.bool false))
 (some (.bool true)) else none else none) else none else none) else none else none) else none else none) else none else none) else none else none) else none else none) else none else none) else none else none := by kernel_rfl

/-- In the environment E: this function and those that it calls. -/
structure G_laws_eqTransaction (E : Env) : Prop where
  is : Is E 177 2 laws_eqTransaction_ac [(4, none)]
  c_laws_eqReadMarkS : G_laws_eqReadMarkS E
  c_laws_eqWriteS : G_laws_eqWriteS E
theorem laws_eqTransaction_E {E : Env} (h : G_laws_eqTransaction E) (a0 a1 : U) : E 177 [a0, a1] =
 U.noTup a0 fun x1 => U.noTup a1 fun x2 => U.asAgg x1 fun us3 => if 0 = sizes (us3.take 0) then (us3[0]?).bind fun e4 => U.asVar false 1 e4 fun e5 => U.asAgg x2 fun us6 => if 0 = sizes (us6.take 0) then (us6[0]?).bind fun e7 => U.asVar false 1 e7 fun e8 => (U.bin .neq e5 e8).bind fun t9 => U.asBool t9
 (some (.bool false))
 (U.asAgg x1 fun us10 => if 1 = sizes (us10.take 1) then (us10[1]?).bind fun e11 => U.asVar false 1 e11 fun e12 => U.asAgg x2 fun us13 => if 1 = sizes (us13.take 1) then (us13[1]?).bind fun e14 => U.asVar false 1 e14 fun e15 => (U.bin .neq e12 e15).bind fun t16 => U.asBool t16
 (some (.bool false))
 (U.asAgg x1 fun us17 => if 2 = sizes (us17.take 2) then (us17[2]?).bind fun e18 => U.asVar false 1 e18 fun e19 => U.asAgg x2 fun us20 => if 2 = sizes (us20.take 2) then (us20[2]?).bind fun e21 => U.asVar false 1 e21 fun e22 => (U.bin .neq e19 e22).bind fun t23 => U.asBool t23
 (some (.bool false))
 (U.asAgg x1 fun us24 => if 3 = sizes (us24.take 3) then (us24[3]?).bind fun e25 => U.asVar false 1 e25 fun e26 => U.asAgg x2 fun us27 => if 3 = sizes (us27.take 3) then (us27[3]?).bind fun e28 => U.asVar false 1 e28 fun e29 => (U.bin .neq e26 e29).bind fun t30 => U.asBool t30
 (some (.bool false))
 (U.asAgg x1 fun us31 => if 4 = sizes (us31.take 4) then (us31[4]?).bind fun e32 => U.asVar false 1 e32 fun e33 => U.asAgg x2 fun us34 => if 4 = sizes (us34.take 4) then (us34[4]?).bind fun e35 => U.asVar false 1 e35 fun e36 => (U.bin .neq e33 e36).bind fun t37 => U.asBool t37
 (some (.bool false))
 (U.asAgg x1 fun us38 => if 5 = sizes (us38.take 5) then (us38[5]?).bind fun e39 => U.asVar false 1 e39 fun e40 => U.asAgg x2 fun us41 => if 5 = sizes (us41.take 5) then (us41[5]?).bind fun e42 => U.asVar false 1 e42 fun e43 => (U.bin .neq e40 e43).bind fun t44 => U.asBool t44
 (some (.bool false))
 (U.asAgg x1 fun us45 => if 6 = sizes (us45.take 6) then (us45[6]?).bind fun e46 => U.asVar false 1 e46 fun e47 => U.asAgg x2 fun us48 => if 6 = sizes (us48.take 6) then (us48[6]?).bind fun e49 => U.asVar false 1 e49 fun e50 => (U.bin .neq e47 e50).bind fun t51 => U.asBool t51
 (some (.bool false))
 (U.asAgg x1 fun us52 => if 7 = sizes (us52.take 7) then (us52[7]?).bind fun e53 => U.asVar false 1 e53 fun e54 => U.asAgg x2 fun us55 => if 7 = sizes (us55.take 7) then (us55[7]?).bind fun e56 => U.asVar false 1 e56 fun e57 => (E 34 [e54, e57]).bind fun t58 => (U.un .not t58).bind fun t59 => U.asBool t59
 (some (.bool false))
 (U.asAgg x1 fun us60 => if 8 = sizes (us60.take 8) then (us60[8]?).bind fun e61 => U.asVar false 1 e61 fun e62 => U.asAgg x2 fun us63 => if 8 = sizes (us63.take 8) then (us63[8]?).bind fun e64 => U.asVar false 1 e64 fun e65 => (E 33 [e62, e65]).bind fun t66 => (U.un .not t66).bind fun t67 => U.asBool t67
 (some (.bool false))
 (some (.bool true)) else none else none) else none else none) else none else none) else none else none) else none else none) else none else none) else none else none) else none else none) else none else none := (h.is _ rfl).trans (laws_eqTransaction_eq E a0 a1)

end Go.Proofs.YtcmkhpjehecloaaGreat.Am
namespace Go.Proofs.YtcmkhpjehecloaaGreat.Am
open Go
set_option linter.unusedVariables false
set_option maxRecDepth 100000

/- loop.example/g01924/laws.eqTransactionS -/
def laws_eqTransactionS_b0 : AC :=
 (.seq (.seq (.region 0 [⟨some 11, .mv (.t 5), none⟩,
  ⟨some 12, .mv (.t 0), none⟩,
  ⟨some 13, .len false (.t 12), none⟩,
  ⟨some 14, .bin .lss (.t 11) (.t 13), none⟩])
 (.cond (.t 14) .skip (.exit 0)))
 (.seq (.block 1 (.seq (.region 10 [⟨some 17, .mv (.t 0), none⟩,
  ⟨some 18, .mv (.t 5), none⟩,
  ⟨some 19, .iaddr 9 (.t 17) (.t 18), none⟩,
  ⟨some 20, .load true 9 (.t 19), none⟩,
  ⟨some 21, .mv (.t 1), none⟩,
  ⟨some 22, .mv (.t 5), none⟩,
  ⟨some 23, .iaddr 9 (.t 21) (.t 22), none⟩,
  ⟨some 24, .load true 9 (.t 23), none⟩,
  ⟨some 25, .call false 177 [(.t 20), (.t 24)], none⟩,
  ⟨some 26, .un .not (.t 25), none⟩])
 (.cond (.t 26) (.seq (.region 0 [⟨some 4, .mv (.c (.bool false)), none⟩])
 .ret) .skip)))
 (.region 0 [⟨some 15, .mv (.t 5), none⟩,
  ⟨some 16, .bin .add (.t 15) (.c (.int .i64 1)), none⟩,
  ⟨some 5, .mv (.t 16), none⟩])))
def laws_eqTransactionS_r0 : AC :=
 (.seq (.region 0 [⟨some 4, .mv (.c (.bool true)), none⟩])
 .ret)
def laws_eqTransactionS_ac : AC :=
 (.seq (.region 0 [⟨some 4, .mv (.c (.bool false)), none⟩])
 (.seq (.seq (.region 0 [⟨some 6, .mv (.t 0), none⟩,
  ⟨some 7, .len false (.t 6), none⟩,
  ⟨some 8, .mv (.t 1), none⟩,
  ⟨some 9, .len false (.t 8), none⟩,
  ⟨some 10, .bin .neq (.t 7) (.t 9), none⟩])
 (.cond (.t 10) (.seq (.region 0 [⟨some 4, .mv (.c (.bool false)), none⟩])
 .ret) .skip))
 (.seq (.seq (.region 0 [⟨some 5, .mv (.c (.int .i64 0)), none⟩])
 (.block 0 (.loop ⟨[0, 1, 5], [], []⟩ laws_eqTransactionS_b0)))
 laws_eqTransactionS_r0)))
noncomputable def laws_eqTransactionS_l0 (E : Env) (x0 : U) (x1 : U) (x5 : U) : Option U := loopK (roundOf E ⟨[0, 1, 5], [], []⟩ laws_eqTransactionS_b0 (blockK 0 (seqK (fun s => exec E laws_eqTransactionS_r0 s (finish [(4, none)])) (finish [(4, none)])))) ([.val x0, .val x1, .val x5], [])
theorem laws_eqTransactionS_eq (E : Env) (a0 : U) (a1 : U) : run E laws_eqTransactionS_ac [(4, none)] [a0, a1] =
 (U.lenOf false a0).bind fun n1 => (U.lenOf false a1).bind fun n2 => (U.bin .neq (.int .i64 (n1 : Int)) (.int .i64 (n2 : Int))).bind fun t3 => U.asBool t3
 (some (.bool false))
 (laws_eqTransactionS_l0 E a0 a1 (.int .i64 0)) := by kernel_rfl
theorem laws_eqTransactionS_l0_eq (E : Env) (x0 : U) (x1 : U) (x5 : U) : laws_eqTransactionS_l0 E x0 x1 x5 =
 (U.lenOf false x0).bind fun n4 => (U.bin .lss x5 (.int .i64 (n4 : Int))).bind fun t5 => U.asBool t5
 (U.asInt x5 fun n6 => U.elemAt 9 x0 n6 fun e7 => U.asVar true 9 e7 fun e8 => U.asInt x5 fun n9 => U.elemAt 9 x1 n9 fun e10 => U.asVar true 9 e10 fun e11 => (E 177 [e8, e11]).bind fun t12 => (U.un .not t12).bind fun t13 => U.asBool t13
 (some (.bool false))
 ((U.bin .add x5 (.int .i64 1)).bind fun t14 => laws_eqTransactionS_l0 E x0 x1 t14))
 (some (.bool true)) :=
 (loop_eq E _ _ _ _).trans (by kernel_rfl)

/-- In the environment E: this function and those that it calls. -/
structure G_laws_eqTransactionS (E : Env) : Prop where
  is : Is E 176 2 laws_eqTransactionS_ac [(4, none)]
  c_laws_eqTransaction : G_laws_eqTransaction E
theorem laws_eqTransactionS_E {E : Env} (h : G_laws_eqTransactionS E) (a0 a1 : U) : E 176 [a0, a1] =
 (U.lenOf false a0).bind fun n1 => (U.lenOf false a1).bind fun n2 => (U.bin .neq (.int .i64 (n1 : Int)) (.int .i64 (n2 : Int))).bind fun t3 => U.asBool t3
 (some (.bool false))
 (laws_eqTransactionS_l0 E a0 a1 (.int .i64 0)) := (h.is _ rfl).trans (laws_eqTransactionS_eq E a0 a1)

end Go.Proofs.YtcmkhpjehecloaaGreat.Am
namespace Go.Proofs.YtcmkhpjehecloaaGreat.Am
open Go
set_option linter.unusedVariables false
set_option maxRecDepth 100000

/- loop.example/g01924/laws.eqLock -/
def laws_eqLock_ac : AC :=
 (.seq (.region 0 [⟨some 2, .box false (.t 0), none⟩,
  ⟨some 3, .box false (.t 1), none⟩,
  ⟨some 4, .mv (.c (.bool false)), none⟩])
 (.seq (.seq (.region 0 [⟨some 5, .faddr 0 0 (.t 2), none⟩,
  ⟨some 6, .load false 1 (.t 5), none⟩,
  ⟨some 7, .faddr 0 0 (.t 3), none⟩,
  ⟨some 8, .load false 1 (.t 7), none⟩,
  ⟨some 9, .bin .neq (.t 6) (.t 8), none⟩])
 (.cond (.t 9) (.seq (.region 0 [⟨some 4, .mv (.c (.bool false)), none⟩])
 .ret) .skip))
 (.seq (.seq (.region 0 [⟨some 10, .faddr 1 1 (.t 2), none⟩,
  ⟨some 11, .load false 1 (.t 10), none⟩,
  ⟨some 12, .faddr 1 1 (.t 3), none⟩,
  ⟨some 13, .load false 1 (.t 12), none⟩,
  ⟨some 14, .bin .neq (.t 11) (.t 13), none⟩])
 (.cond (.t 14) (.seq (.region 0 [⟨some 4, .mv (.c (.bool false)), none⟩])
 .ret) .skip))
 (.seq (.region 0 [⟨some 4, .mv (.c (.bool true)), none⟩])
 .ret))))

theorem laws_eqLock_eq (E : Env) (a0 : U) (a1 : U) : run E laws_eqLock_ac [(4, none)] [a0, a1] =
 U.noTup a0 fun x1 => U.noTup a1 fun x2 => U.asAgg x1 fun us3 => if 0 = sizes (us3.take 0) then (us3[0]?).bind fun e4 => U.asVar false 1 e4 fun e5 => U.asAgg x2 fun us6 => if 0 = sizes (us6.take 0) then (us6[0]?).bind fun e7 => U.asVar false 1 e7 fun e8 => (U.bin .neq e5 e8).bind fun t9 => U.asBool t9
 (some (.bool false))
 (U.asAgg x1 fun us10 => if 1 = sizes (us10.take 1) then (us10[1]?).bind fun e11 => U.asVar false 1 e11 fun e12 => U.asAgg x2 fun us13 => if 1 = sizes (us13.take 1) then (us13[1]?).bind fun e14 => U.asVar false 1 e14 fun e15 => (U.bin .neq e12 e15).bind fun t16 => U.asBool t16
 (some (.bool false))
 (some (.bool true)) else none else none) else none else none := by kernel_rfl

/-- In the environment E: this function and those that it calls. -/
structure G_laws_eqLock (E : Env) : Prop where
  is : Is E 178 2 laws_eqLock_ac [(4, none)]
theorem laws_eqLock_E {E : Env} (h : G_laws_eqLock E) (a0 a1 : U) : E 178 [a0, a1] =
 U.noTup a0 fun x1 => U.noTup a1 fun x2 => U.asAgg x1 fun us3 => if 0 = sizes (us3.take 0) then (us3[0]?).bind fun e4 => U.asVar false 1 e4 fun e5 => U.asAgg x2 fun us6 => if 0 = sizes (us6.take 0) then (us6[0]?).bind fun e7 => U.asVar false 1 e7 fun e8 => (U.bin .neq e5 e8).bind fun t9 => U.asBool t9
 (some (.bool false))
 (U.asAgg x1 fun us10 => if 1 = sizes (us10.take 1) then (us10[1]?).bind fun e11 => U.asVar false 1 e11 fun e12 => U.asAgg x2 fun us13 => if 1 = sizes (us13.take 1) then (us13[1]?).bind fun e14 => U.asVar false 1 e14 fun e15 => (U.bin .neq e12 e15).bind fun t16 => U.asBool t16
 (some (.bool false))
 (some (.bool true)) else none else none) else none else none := (h.is _ rfl).trans (laws_eqLock_eq E a0 a1)

end Go.Proofs.YtcmkhpjehecloaaGreat.Am
namespace Go.Proofs.YtcmkhpjehecloaaGreat.Am
open Go
set_option linter.unusedVariables false
set_option maxRecDepth 100000

/- loop.example/g01924/laws.eqLockS -/
def laws_eqLockS_b0 : AC :=
 (.seq (.seq (.region 0 [⟨some 11, .mv (.t 5), none⟩,
  ⟨some 12, .mv (.t 0), none⟩,
  ⟨some 13, .len false (.t 12), none⟩,
  ⟨some 14, .bin .lss (.t 11) (.t 13), none⟩])
 (.cond (.t 14) .skip (.exit 0)))
 (.seq (.block 1 (.seq (.region 10 [⟨some 17, .mv (.t 0), none⟩,
  ⟨some 18, .mv (.t 5), none⟩,
  ⟨some 19, .iaddr 2 (.t 17) (.t 18), none⟩,
  ⟨some 20, .load true 2 (.t 19), none⟩,
  ⟨some 21, .mv (.t 1), none⟩,
  ⟨some 22, .mv (.t 5), none⟩,
  ⟨some 23, .iaddr 2 (.t 21) (.t 22), none⟩,
  ⟨some 24, .load true 2 (.t 23), none⟩,
  ⟨some 25, .call false 178 [(.t 20), (.t 24)], none⟩,
  ⟨some 26, .un .not (.t 25), none⟩])
 (.cond (.t 26) (.seq (.region 0 [⟨some 4, .mv (.c (.bool false)), none⟩])
 .ret) .skip)))
 (.region 0 [⟨some 15, .mv (.t 5), none⟩,
  ⟨some 16, .bin .add (.t 15) (.c (.int .i64 1)), none⟩,
  ⟨some 5, .mv (.t 16), none⟩])))
def laws_eqLockS_r0 : AC :=
 (.seq (.region 0 [⟨some 4, .mv (.c (.bool true)), none⟩])
 .ret)
def laws_eqLockS_ac : AC :=
 (.seq (.region 0 [⟨some 4, .mv (.c (.bool false)), none⟩])
 (.seq (.seq (.region 0 [⟨some 6, .mv (.t 0), none⟩,
  ⟨some 7, .len false (.t 6), none⟩,
  ⟨some 8, .mv (.t 1), none⟩,
  ⟨some 9, .len false (.t 8), none⟩,
  ⟨some 10, .bin .neq (.t 7) (.t 9), none⟩])
 (.cond (.t 10) (.seq (.region 0 [⟨some 4, .mv (.c (.bool false)), none⟩])
 .ret) .skip))
 (.seq (.seq (.region 0 [⟨some 5, .mv (.c (.int .i64 0)), none⟩])
 (.block 0 (.loop ⟨[0, 1, 5], [], []⟩ laws_eqLockS_b0)))
 laws_eqLockS_r0)))
noncomputable def laws_eqLockS_l0 (E : Env) (x0 : U) (x1 : U) (x5 : U) : Option U := loopK (roundOf E ⟨[0, 1, 5], [], []⟩ laws_eqLockS_b0 (blockK 0 (seqK (fun s => exec E laws_eqLockS_r0 s (finish [(4, none)])) (finish [(4, none)])))) ([.val x0, .val x1, .val x5], [])
theorem laws_eqLockS_eq (E : Env) (a0 : U) (a1 : U) : run E laws_eqLockS_ac [(4, none)] [a0, a1] =
 (U.lenOf false a0).bind fun n1 => (U.lenOf false a1).bind fun n2 => (U.bin .neq (.int .i64 (n1 : Int)) (.int .i64 (n2 : Int))).bind fun t3 => U.asBool t3
 (some (.bool false))
 (laws_eqLockS_l0 E a0 a1 (.int .i64 0)) := by kernel_rfl
theorem laws_eqLockS_l0_eq (E : Env) (x0 : U) (x1 : U) (x5 : U) : laws_eqLockS_l0 E x0 x1 x5 =
 (U.lenOf false x0).bind fun n4 => (U.bin .lss x5 (.int .i64 (n4 : Int))).bind fun t5 => U.asBool t5
 (U.asInt x5 fun n6 => U.elemAt 2 x0 n6 fun e7 => U.asVar true 2 e7 fun e8 => U.asInt x5 fun n9 => U.elemAt 2 x1 n9 fun e10 => U.asVar true 2 e10 fun e11 => (E 178 [e8, e11]).bind fun t12 => (U.un .not t12).bind fun t13 => U.asBool t13
 (some (.bool false))
 ((U.bin .add x5 (.int .i64 1)).bind fun t14 => laws_eqLockS_l0 E x0 x1 t14))
 (some (.bool true)) :=
 (loop_eq E _ _ _ _).trans (by kernel_rfl)

/-- In the environment E: this function and those that it calls. -/
structure G_laws_eqLockS (E : Env) : Prop where
  is : Is E 175 2 laws_eqLockS_ac [(4, none)]
  c_laws_eqLock : G_laws_eqLock E
theorem laws_eqLockS_E {E : Env} (h : G_laws_eqLockS E) (a0 a1 : U) : E 175 [a0, a1] =
 (U.lenOf false a0).bind fun n1 => (U.lenOf false a1).bind fun n2 => (U.bin .neq (.int .i64 (n1 : Int)) (.int .i64 (n2 : Int))).bind fun t3 => U.asBool t3
 (some (.bool false))
 (laws_eqLockS_l0 E a0 a1 (.int .i64 0)) := (h.is _ rfl).trans (laws_eqLockS_eq E a0 a1)

end Go.Proofs.YtcmkhpjehecloaaGreat.Am
namespace Go.Proofs.YtcmkhpjehecloaaGreat.Am
open Go
set_option linter.unusedVariables false
set_option maxRecDepth 100000

/- loop.example/g01924/laws.eqWait -/
def laws_eqWait_ac : AC :=
 (.seq (.region 0 [⟨some 2, .box false (.t 0), none⟩,
  ⟨some 3, .box false (.t 1), none⟩,
  ⟨some 4, .mv (.c (.bool false)), none⟩])
 (.seq (.seq (.region 0 [⟨some 5, .faddr 0 0 (.t 2), none⟩,
  ⟨some 6, .load false 1 (.t 5), none⟩,
  ⟨some 7, .faddr 0 0 (.t 3), none⟩,
  ⟨some 8, .load false 1 (.t 7), none⟩,
  ⟨some 9, .bin .neq (.t 6) (.t 8), none⟩])
 (.cond (.t 9) (.seq (.region 0 [⟨some 4, .mv (.c (.bool false)), none⟩])
 .ret) .skip))
 (.seq (.seq (.region 0 [⟨some 10, .faddr 1 1 (.t 2), none⟩,
  ⟨some 11, .load false 1 (.t 10), none⟩,
  ⟨some 12, .faddr 1 1 (.t 3), none⟩,
  ⟨some 13, .load false 1 (.t 12), none⟩,
  ⟨some 14, .bin .neq (.t 11) (.t 13), none⟩])
 (.cond (.t 14) (.seq (.region 0 [⟨some 4, .mv (.c (.bool false)), none⟩])
 .ret) .skip))
 (.seq (.region 0 [⟨some 4, .mv (.c (.bool true)), none⟩])
 .ret))))

theorem laws_eqWait_eq (E : Env) (a0 : U) (a1 : U) : run E laws_eqWait_ac [(4, none)] [a0, a1] =
 U.noTup a0 fun x1 => U.noTup a1 fun x2 => U.asAgg x1 fun us3 => if 0 = sizes (us3.take 0) then (us3[0]?).bind fun e4 => U.asVar false 1 e4 fun e5 => U.asAgg x2 fun us6 => if 0 = sizes (us6.take 0) then (us6[0]?).bind fun e7 => U.asVar false 1 e7 fun e8 => (U.bin .neq e5 e8).bind fun t9 => U.asBool t9
 (some (.bool false))
 (U.asAgg x1 fun us10 => if 1 = sizes (us10.take 1) then (us10[1]?).bind fun e11 => U.asVar false 1 e11 fun e12 => U.asAgg x2 fun us13 => if 1 = sizes (us13.take 1) then (us13[1]?).bind fun e14 => U.asVar false 1 e14 fun e15 => (U.bin .neq e12 e15).bind fun t16 => U.asBool t16
 (some (.bool false))
 (some (.bool true)) else none else none) else none else none := by kernel_rfl

/-- In the environment E: this function and those that it calls. -/
structure G_laws_eqWait (E : Env) : Prop where
  is : Is E 179 2 laws_eqWait_ac [(4, none)]
theorem laws_eqWait_E {E : Env} (h : G_laws_eqWait E) (a0 a1 : U) : E 179 [a0, a1] =
 U.noTup a0 fun x1 => U.noTup a1 fun x2 => U.asAgg x1 fun us3 => if 0 = sizes (us3.take 0) then (us3[0]?).bind fun e4 => U.asVar false 1 e4 fun e5 => U.asAgg x2 fun us6 => if 0 = sizes (us6.take 0) then (us6[0]?).bind fun e7 => U.asVar false 1 e7 fun e8 => (U.bin .neq e5 e8).bind fun t9 => U.asBool t9
 (some (.bool false))
 (U.asAgg x1 fun us10 => if 1 = sizes (us10.take 1) then (us10[1]?).bind fun e11 => U.asVar false 1 e11 fun e12 => U.asAgg x2 fun us13 => if 1 = sizes (us13.take 1) then (us13[1]?).bind fun e14 => U.asVar false 1 e14 fun e15 => (U.bin .neq e12 e15).bind fun t16 => U.asBool t16
 (some (.bool false))
 (some (.bool true)) else none else none) else none else none := (h.is _ rfl).trans (laws_eqWait_eq E a0 a1)

end Go.Proofs.YtcmkhpjehecloaaGreat.Am
namespace Go.Proofs.YtcmkhpjehecloaaGreat.Am
open Go
set_option linter.unusedVariables false
set_option maxRecDepth 100000

/- loop.example/g01924/laws.eqWaitS -/
def laws_eqWaitS_b0 : AC :=
 (.seq (.seq (.region 0 [⟨some 11, .mv (.t 5), none⟩,
  ⟨some 12, .mv (.t 0), none⟩,
  ⟨some 13, .len false (.t 12), none⟩,
  ⟨some 14, .bin .lss (.t 11) (.t 13), none⟩])
 (.cond (.t 14) .skip (.exit 0)))
 (.seq (.block 1 (.seq (.region 10 [⟨some 17, .mv (.t 0), none⟩,
  ⟨some 18, .mv (.t 5), none⟩,
  ⟨some 19, .iaddr 2 (.t 17) (.t 18), none⟩,
  ⟨some 20, .load true 2 (.t 19), none⟩,
  ⟨some 21, .mv (.t 1), none⟩,
  ⟨some 22, .mv (.t 5), none⟩,
  ⟨some 23, .iaddr 2 (.t 21) (.t 22), none⟩,
  ⟨some 24, .load true 2 (.t 23), none⟩,
  ⟨some 25, .call false 179 [(.t 20), (.t 24)], none⟩,
  ⟨some 26, .un .not (.t 25), none⟩])
 (.cond (.t 26) (.seq (.region 0 [⟨some 4, .mv (.c (.bool false)), none⟩])
 .ret) .skip)))
 (.region 0 [⟨some 15, .mv (.t 5), none⟩,
  ⟨some 16, .bin .add (.t 15) (.c (.int .i64 1)), none⟩,
  ⟨some 5, .mv (.t 16), none⟩])))
def laws_eqWaitS_r0 : AC :=
 (.seq (.region 0 [⟨some 4, .mv (.c (.bool true)), none⟩])
 .ret)
def laws_eqWaitS_ac : AC :=
 (.seq (.region 0 [⟨some 4, .mv (.c (.bool false)), none⟩])
 (.seq (.seq (.region 0 [⟨some 6, .mv (.t 0), none⟩,
  ⟨some 7, .len false (.t 6), none⟩,
  ⟨some 8, .mv (.t 1), none⟩,
  ⟨some 9, .len false (.t 8), none⟩,
  ⟨some 10, .bin .neq (.t 7) (.t 9), none⟩])
 (.cond (.t 10) (.seq (.region 0 [⟨some 4, .mv (.c (.bool false)), none⟩])
 .ret) .skip))
 (.seq (.seq (.region 0 [⟨some 5, .mv (.c (.int .i64 0)), none⟩])
 (.block 0 (.loop ⟨[0, 1, 5], [], []⟩ laws_eqWaitS_b0)))
 laws_eqWaitS_r0)))
noncomputable def laws_eqWaitS_l0 (E : Env) (x0 : U) (x1 : U) (x5 : U) : Option U := loopK (roundOf E ⟨[0, 1, 5], [], []⟩ laws_eqWaitS_b0 (blockK 0 (seqK (fun s => exec E laws_eqWaitS_r0 s (finish [(4, none)])) (finish [(4, none)])))) ([.val x0, .val x1, .val x5], [])
theorem laws_eqWaitS_eq (E : Env) (a0 : U) (a1 : U) : run E laws_eqWaitS_ac [(4, none)] [a0, a1] =
 (U.lenOf false a0).bind fun n1 => (U.lenOf false a1).bind fun n2 => (U.bin .neq (.int .i64 (n1 : Int)) (.int .i64 (n2 : Int))).bind fun t3 => U.asBool t3
 (some (.bool false))
 (laws_eqWaitS_l0 E a0 a1 (.int .i64 0)) := by kernel_rfl
theorem laws_eqWaitS_l0_eq (E : Env) (x0 : U) (x1 : U) (x5 : U) : laws_eqWaitS_l0 E x0 x1 x5 =
 (U.lenOf false x0).bind fun n4 => (U.bin .lss x5 (.int .i64 (n4 : Int))).bind fun t5 => U.asBool t5
 (U.asInt x5 fun n6 => U.elemAt 2 x0 n6 fun e7 => U.asVar true 2 e7 fun e8 => U.asInt x5 fun n9 => U.elemAt 2 x1 n9 fun e10 => U.asVar true 2 e10 fun e11 => (E 179 [e8, e11]).bind fun t12 => (U.un .not t12).bind fun t13 => U.asBool t13
 (some (.bool false))
 ((U.bin .add x5 (.int .i64 1)).bind fun t14 => laws_eqWaitS_l0 E x0 x1 t14))
 (some (.bool true)) :=
 (loop_eq E _ _ _ _).trans (by kernel_rfl)

/-- In the environment E: this function and those that it calls. -/
structure G_laws_eqWaitS (E : Env) : Prop where
  is : Is E 174 2 laws_eqWaitS_ac [(4, none)]
  c_laws_eqWait : G_laws_eqWait E
theorem laws_eqWaitS_E {E : Env} (h : G_laws_eqWaitS E) (a0 a1 : U) : E 174 [a0, a1] =
 (U.lenOf false a0).bind fun n1 => (U.lenOf false a1).bind fun n2 => (U.bin .neq (.int .i64 (n1 : Int)) (.int .i64 (n2 : Int))).bind fun t3 => U.asBool t3
 (some (.bool false))
 (laws_eqWaitS_l0 E a0 a1 (.int .i64 0)) := (h.is _ rfl).trans (laws_eqWaitS_eq E a0 a1)

end Go.Proofs.YtcmkhpjehecloaaGreat.Am
namespace Go.Proofs.YtcmkhpjehecloaaGreat.Am
open Go
set_option linter.unusedVariables false
set_option maxRecDepth 100000

/- loop.example/g01924/laws.eqEngine -/
def laws_eqEngine_ac : AC :=
 (.seq (.region 0 [⟨some 2, .box false (.t 0), none⟩,
  ⟨some 3, .box false (.t 1), none⟩,
  ⟨some 4, .mv (.c (.bool false)), none⟩])
 (.seq (.seq (.region 0 [⟨some 5, .faddr 0 0 (.t 2), none⟩,
  ⟨some 6, .load false 1 (.t 5), none⟩,
  ⟨some 7, .faddr 0 0 (.t 3), none⟩,
  ⟨some 8, .load false 1 (.t 7), none⟩,
  ⟨some 9, .eqv true 0 (.t 6) (.t 8), none⟩])
 (.cond (.t 9) (.seq (.region 0 [⟨some 4, .mv (.c (.bool false)), none⟩])
 .ret) .skip))
 (.seq (.seq (.region 0 [⟨some 10, .faddr 1 1 (.t 2), none⟩,
  ⟨some 11, .load true 1 (.t 10), none⟩,
  ⟨some 12, .faddr 1 1 (.t 3), none⟩,
  ⟨some 13, .load true 1 (.t 12), none⟩,
  ⟨some 14, .call false 97 [(.t 11), (.t 13)], none⟩,
  ⟨some 15, .un .not (.t 14), none⟩])
 (.cond (.t 15) (.seq (.region 0 [⟨some 4, .mv (.c (.bool false)), none⟩])
 .ret) .skip))
 (.seq (.seq (.region 0 [⟨some 16, .faddr 2 2 (.t 2), none⟩,
  ⟨some 17, .load false 1 (.t 16), none⟩,
  ⟨some 18, .faddr 2 2 (.t 3), none⟩,
  ⟨some 19, .load false 1 (.t 18), none⟩,
  ⟨some 20, .call false 176 [(.t 17), (.t 19)], none⟩,
  ⟨some 21, .un .not (.t 20), none⟩])
 (.cond (.t 21) (.seq (.region 0 [⟨some 4, .mv (.c (.bool false)), none⟩])
 .ret) .skip))
 (.seq (.seq (.region 0 [⟨some 22, .faddr 3 3 (.t 2), none⟩,
  ⟨some 23, .load false 1 (.t 22), none⟩,
  ⟨some 24, .faddr 3 3 (.t 3), none⟩,
  ⟨some 25, .load false 1 (.t 24), none⟩,
  ⟨some 26, .call false 175 [(.t 23), (.t 25)], none⟩,
  ⟨some 27, .un .not (.t 26), none⟩])
 (.cond (.t 27) (.seq (.region 0 [⟨some 4, .mv (.c (.bool false)), none⟩])
 .ret) .skip))
 (.seq (.seq (.region 0 [⟨some 28, .faddr 4 4 (.t 2), none⟩,
  ⟨some 29, .load false 1 (.t 28), none⟩,
  ⟨some 30, .faddr 4 4 (.t 3), none⟩,
  ⟨some 31, .load false 1 (.t 30), none⟩,
  ⟨some 32, .call false 174 [(.t 29), (.t 31)], none⟩,
  ⟨some 33, .un .not (.t 32), none⟩])
 (.cond (.t 33) (.seq (.region 0 [⟨some 4, .mv (.c (.bool false)), none⟩])
 .ret) .skip))
 (.seq (.seq (.region 0 [⟨some 34, .faddr 5 5 (.t 2), none⟩,
  ⟨some 35, .load false 1 (.t 34), none⟩,
  ⟨some 36, .faddr 5 5 (.t 3), none⟩,
  ⟨some 37, .load false 1 (.t 36), none⟩,
  ⟨some 38, .bin .neq (.t 35) (.t 37), none⟩])
 (.cond (.t 38) (.seq (.region 0 [⟨some 4, .mv (.c (.bool false)), none⟩])
 .ret) .skip))
 (.seq (.region 0 [⟨some 4, .mv (.c (.bool true)), none⟩])
 .ret))))))))

theorem laws_eqEngine_eq (E : Env) (a0 : U) (a1 : U) : run E laws_eqEngine_ac [(4, none)] [a0, a1] =
 U.noTup a0 fun x1 => U.noTup a1 fun x2 => U.asAgg x1 fun us3 => if 0 = sizes (us3.take 0) then (us3[0]?).bind fun e4 => U.asVar false 1 e4 fun e5 => U.asAgg x2 fun us6 => if 0 = sizes (us6.take 0) then (us6[0]?).bind fun e7 => U.asVar false 1 e7 fun e8 => (U.eqv 0 e5 e8).bind fun q9 => U.asBool (.bool (!q9))
 (some (.bool false))
 (U.asAgg x1 fun us10 => if 1 = sizes (us10.take 1) then (us10[1]?).bind fun e11 => U.asVar true 1 e11 fun e12 => U.asAgg x2 fun us13 => if 1 = sizes (us13.take 1) then (us13[1]?).bind fun e14 => U.asVar true 1 e14 fun e15 => (E 97 [e12, e15]).bind fun t16 => (U.un .not t16).bind fun t17 => U.asBool t17
 (some (.bool false))
 (U.asAgg x1 fun us18 => if 2 = sizes (us18.take 2) then (us18[2]?).bind fun e19 => U.asVar false 1 e19 fun e20 => U.asAgg x2 fun us21 => if 2 = sizes (us21.take 2) then (us21[2]?).bind fun e22 => U.asVar false 1 e22 fun e23 => (E 176 [e20, e23]).bind fun t24 => (U.un .not t24).bind fun t25 => U.asBool t25
 (some (.bool false))
 (U.asAgg x1 fun us26 => if 3 = sizes (us26.take 3) then (us26[3]?).bind fun e27 => U.asVar false 1 e27 fun e28 => U.asAgg x2 fun us29 => if 3 = sizes (us29.take 3) then (us29[3]?).bind fun e30 => U.asVar false 1 e30 fun e31 => (E 175 [e28, e31]).bind fun t32 => (U.un .not t32).bind fun t33 => U.asBool t33
 (some (.bool false))
 (U.asAgg x1 fun us34 => if 4 = sizes (us34.take 4) then (us34[4]?).bind fun e35 => U.asVar false 1 e35 fun e36 => U.asAgg x2 fun us37 => if 4 = sizes (us37.take 4) then (us37[4]?).bind fun e38 => U.asVar false 1 e38 fun e39 => (E 174 [e36, e39]).bind fun t40 => (U.un .not t40).bind fun t41 => U.asBool t41
 (some (.bool false))
 (U.asAgg x1 fun us42 => if 5 = sizes (us42.take 5) then (us42[5]?).bind fun e43 => U.asVar false 1 e43 fun e44 => U.asAgg x2 fun us45 => if 5 = sizes (us45.take 5) then (us45[5]?).bind fun e46 => U.asVar false 1 e46 fun e47 => (U.bin .neq e44 e47).bind fun t48 => U.asBool t48
 (some (.bool false))
 (some (.bool true)) else none else none) else none else none) else none else none) else none else none) else none else none) else none else none := by kernel_rfl

/-- In the environment E: this function and those that it calls. -/
structure G_laws_eqEngine (E : Env) : Prop where
  is : Is E 125 2 laws_eqEngine_ac [(4, none)]
  c_laws_eqStore : G_laws_eqStore E
  c_laws_eqTransactionS : G_laws_eqTransactionS E
  c_laws_eqLockS : G_laws_eqLockS E
  c_laws_eqWaitS : G_laws_eqWaitS E
theorem laws_eqEngine_E {E : Env} (h : G_laws_eqEngine E) (a0 a1 : U) : E 125 [a0, a1] =
 U.noTup a0 fun x1 => U.noTup a1 fun x2 => U.asAgg x1 fun us3 => if 0 = sizes (us3.take 0) then (us3[0]?).bind fun e4 => U.asVar false 1 e4 fun e5 => U.asAgg x2 fun us6 => if 0 = sizes (us6.take 0) then (us6[0]?).bind fun e7 => U.asVar false 1 e7 fun e8 => (U.eqv 0 e5 e8).bind fun q9 => U.asBool (.bool (!q9))
 (some (.bool false))
 (U.asAgg x1 fun us10 => if 1 = sizes (us10.take 1) then (us10[1]?).bind fun e11 => U.asVar true 1 e11 fun e12 => U.asAgg x2 fun us13 => if 1 = sizes (us13.take 1) then (us13[1]?).bind fun e14 => U.asVar true 1 e14 fun e15 => (E 97 [e12, e15]).bind fun t16 => (U.un .not t16).bind fun t17 => U.asBool t17
 (some (.bool false))
 (U.asAgg x1 fun us18 => if 2 = sizes (us18.take 2) then (us18[2]?).bind fun e19 => U.asVar false 1 e19 fun e20 => U.asAgg x2 fun us21 => if 2 = sizes (us21.take 2) then (us21[2]?).bind fun e22 => U.asVar false 1 e22 fun e23 => (E 176 [e20, e23]).bind fun t24 => (U.un .not t24).bind fun t25 => U.asBool t25
 (some (.bool false))
 (U.asAgg x1 fun us26 => if 3 = sizes (us26.take 3) then (us26[3]?).bind fun e27 => U.asVar false 1 e27 fun e28 => U.asAgg x2 fun us29 => if 3 = sizes (us29.take 3) then (us29[3]?).bind fun e30 => U.asVar false 1 e30 fun e31 => (E 175 [e28, e31]).bind fun t32 => (U.un .not t32).bind fun t33 => U.asBool t33
 (some (.bool false))
 (U.asAgg x1 fun us34 => if 4 = sizes (us34.take 4) then (us34[4]?).bind fun e35 => U.asVar false 1 e35 fun e36 => U.asAgg x2 fun us37 => if 4 = sizes (us37.take 4) then (us37[4]?).bind fun e38 => U.asVar false 1 e38 fun e39 => (E 174 [e36, e39]).bind fun t40 => (U.un .not t40).bind fun t41 => U.asBool t41
 (some (.bool false))
 (U.asAgg x1 fun us42 => if 5 = sizes (us42.take 5) then (us42[5]?).bind fun e43 => U.asVar false 1 e43 fun e44 => U.asAgg x2 fun us45 => if 5 = sizes (us45.take 5) then (us45[5]?).bind fun e46 => U.asVar false 1 e46 fun e47 => (U.bin .neq e44 e47).bind fun t48 => U.asBool t48
 (some (.bool false))
 (some (.bool true)) else none else none) else none else none) else none else none) else none else none) else none else none) else none else none := (h.is _ rfl).trans (laws_eqEngine_eq E a0 a1)

end Go.Proofs.YtcmkhpjehecloaaGreat.Am
namespace Go.Proofs.YtcmkhpjehecloaaGreat.Am
open Go
set_option linter.unusedVariables false
set_option maxRecDepth 100000

/- loop.example/g01924/spec.l1In -/
def spec_l1In_ac : AC :=
 (.seq (.region 0 [⟨some 6, .mv (.c (.bool false)), none⟩])
 (.seq (.region 0 [⟨some 7, .mv (.t 0), none⟩,
  ⟨some 8, .mv (.t 1), none⟩,
  ⟨some 9, .bin .geq (.t 7) (.t 8), none⟩,
  ⟨some 10, .mv (.t 9), none⟩,
  ⟨some 11, .mv (.t 0), some (10, true)⟩,
  ⟨some 12, .mv (.t 2), some (10, true)⟩,
  ⟨some 13, .bin .leq (.t 11) (.t 12), some (10, true)⟩,
  ⟨some 14, .pick (.t 10) (.t 13) (.c (.bool false)), none⟩,
  ⟨some 6, .mv (.t 14), none⟩])
 .ret))

theorem spec_l1In_eq (E : Env) (a0 : U) (a1 : U) (a2 : U) : run E spec_l1In_ac [(6, none)] [a0, a1, a2] =
 (U.bin .geq a0 a1).bind fun t1 => U.asBool t1
 ((U.bin .leq a0 a2).bind fun t2 => some t2)
 (some (.bool false)) := by kernel_rfl

/-- In the environment E: this function and those that it calls. -/
structure G_spec_l1In (E : Env) : Prop where
  is : Is E 6 3 spec_l1In_ac [(6, none)]
theorem spec_l1In_E {E : Env} (h : G_spec_l1In E) (a0 a1 a2 : U) : E 6 [a0, a1, a2] =
 (U.bin .geq a0 a1).bind fun t1 => U.asBool t1
 ((U.bin .leq a0 a2).bind fun t2 => some t2)
 (some (.bool false)) := (h.is _ rfl).trans (spec_l1In_eq E a0 a1 a2)

end Go.Proofs.YtcmkhpjehecloaaGreat.Am
namespace Go.Proofs.YtcmkhpjehecloaaGreat.Am
open Go
set_option linter.unusedVariables false
set_option maxRecDepth 100000

/- loop.example/g01924/spec.IsValidVersion -/
def spec_IsValidVersion_ac : AC :=
 (.seq (.region 0 [⟨some 1, .box false (.t 0), none⟩,
  ⟨some 2, .mv (.c (.bool false)), none⟩])
 (.seq (.seq (.region 0 [⟨some 3, .faddr 1 1 (.t 1), none⟩,
  ⟨some 4, .load false 1 (.t 3), none⟩,
  ⟨some 5, .call false 6 [(.t 4), (.c (.int .i64 (-1))), (.c (.int .i64 99))], none⟩,
  ⟨some 6, .un .not (.t 5), none⟩,
  ⟨some 7, .mv (.t 6), none⟩,
  ⟨some 8, .faddr 2 2 (.t 1), some (7, false)⟩,
  ⟨some 9, .load false 1 (.t 8), some (7, false)⟩,
  ⟨some 10, .call false 6 [(.t 9), (.c (.int .i64 0)), (.c (.int .i64 999))], some (7, false)⟩,
  ⟨some 11, .un .not (.t 10), some (7, false)⟩,
  ⟨some 12, .pick (.t 7) (.c (.bool true)) (.t 11), none⟩,
  ⟨some 13, .mv (.t 12), none⟩,
  ⟨some 14, .faddr 3 3 (.t 1), some (13, false)⟩,
  ⟨some 15, .load false 1 (.t 14), some (13, false)⟩,
  ⟨some 16, .faddr 2 2 (.t 1), some (13, false)⟩,
  ⟨some 17, .load false 1 (.t 16), some (13, false)⟩,
  ⟨some 18, .call false 6 [(.t 15), (.t 17), (.c (.int .i64 999))], some (13, false)⟩,
  ⟨some 19, .un .not (.t 18), some (13, false)⟩,
  ⟨some 20, .pick (.t 13) (.c (.bool true)) (.t 19), none⟩,
  ⟨some 21, .mv (.t 20), none⟩,
  ⟨some 22, .faddr 4 4 (.t 1), some (21, false)⟩,
  ⟨some 23, .load false 1 (.t 22), some (21, false)⟩,
  ⟨some 24, .call false 6 [(.t 23), (.c (.int .i64 1)), (.c (.int .i64 1000))], some (21, false)⟩,
  ⟨some 25, .un .not (.t 24), some (21, false)⟩,
  ⟨some 26, .pick (.t 21) (.c (.bool true)) (.t 25), none⟩])
 (.cond (.t 26) (.seq (.region 0 [⟨some 2, .mv (.c (.bool false)), none⟩])
 .ret) .skip))
 (.seq (.seq (.region 0 [⟨some 27, .faddr 2 2 (.t 1), none⟩,
  ⟨some 28, .load false 1 (.t 27), none⟩,
  ⟨some 29, .bin .eql (.t 28) (.c (.int .i64 0)), none⟩])
 (.cond (.t 29) (.seq (.region 0 [⟨some 30, .faddr 0 0 (.t 1), none⟩,
  ⟨some 31, .load false 1 (.t 30), none⟩,
  ⟨some 32, .bin .eql (.t 31) (.c (.int .i64 0)), none⟩,
  ⟨some 33, .mv (.t 32), none⟩,
  ⟨some 34, .faddr 1 1 (.t 1), some (33, true)⟩,
  ⟨some 35, .load false 1 (.t 34), some (33, true)⟩,
  ⟨some 36, .bin .eql (.t 35) (.c (.int .i64 (-1))), some (33, true)⟩,
  ⟨some 37, .pick (.t 33) (.t 36) (.c (.bool false)), none⟩,
  ⟨some 2, .mv (.t 37), none⟩])
 .ret) .skip))
 (.seq (.region 0 [⟨some 38, .faddr 0 0 (.t 1), none⟩,
  ⟨some 39, .load false 1 (.t 38), none⟩,
  ⟨some 40, .call false 6 [(.t 39), (.c (.int .i64 1)), (.c (.int .i64 9))], none⟩,
  ⟨some 2, .mv (.t 40), none⟩])
 .ret))))

theorem spec_IsValidVersion_eq (E : Env) (a0 : U) : run E spec_IsValidVersion_ac [(2, none)] [a0] =
 U.noTup a0 fun x1 => U.asAgg x1 fun us2 => if 1 = sizes (us2.take 1) then (us2[1]?).bind fun e3 => U.asVar false 1 e3 fun e4 => (E 6 [e4, (.int .i64 (-1)), (.int .i64 99)]).bind fun t5 => (U.un .not t5).bind fun t6 => U.asBool t6
 (some (.bool false))
 (U.asAgg x1 fun us7 => if 2 = sizes (us7.take 2) then (us7[2]?).bind fun e8 => U.asVar false 1 e8 fun e9 => (E 6 [e9, (.int .i64 0), (.int .i64 999)]).bind fun t10 => (U.un .not t10).bind fun t11 => U.asBool t11
 (some (.bool false))
 (U.asAgg x1 fun us12 => if 3 = sizes (us12.take 3) then (us12[3]?).bind fun e13 => U.asVar false 1 e13 fun e14 => U.asAgg x1 fun us15 => if 2 = sizes (us15.take 2) then (us15[2]?).bind fun e16 => U.asVar false 1 e16 fun e17 => (E 6 [e14, e17, (.int .i64 999)]).bind fun t18 => (U.un .not t18).bind fun t19 => U.asBool t19
 (some (.bool false))
 (U.asAgg x1 fun us20 => if 4 = sizes (us20.take 4) then (us20[4]?).bind fun e21 => U.asVar false 1 e21 fun e22 => (E 6 [e22, (.int .i64 1), (.int .i64 1000)]).bind fun t23 => (U.un .not t23).bind fun t24 => U.asBool t24
 (some (.bool false))
 (U.asAgg x1 fun us25 => if 2 = sizes (us25.take 2) then (us25[2]?).bind fun e26 => U.asVar false 1 e26 fun e27 => (U.bin .eql e27 (.int .i64 0)).bind fun t28 => U.asBool t28
 (U.asAgg x1 fun us29 => if 0 = sizes (us29.take 0) then (us29[0]?).bind fun e30 => U.asVar false 1 e30 fun e31 => (U.bin .eql e31 (.int .i64 0)).bind fun t32 => U.asBool t32
 (U.asAgg x1 fun us33 => if 1 = sizes (us33.take 1) then (us33[1]?).bind fun e34 => U.asVar false 1 e34 fun e35 => (U.bin .eql e35 (.int .i64 (-1))).bind fun t36 => some t36 else none)
 (some (.bool false)) else none)
 (U.asAgg x1 fun us37 => if 0 = sizes (us37.take 0) then (us37[0]?).bind fun e38 => U.asVar false 1 e38 fun e39 => (E 6 [e39, (.int .i64 1), (.int .i64 9)]).bind fun t40 => some t40 else none) else none) else none) else none else none) else none) else none := by kernel_rfl

/-- In the environment E: this function and those that it calls. -/
structure G_spec_IsValidVersion (E : Env) : Prop where
  is : Is E 105 1 spec_IsValidVersion_ac [(2, none)]
  c_spec_l1In : G_spec_l1In E
theorem spec_IsValidVersion_E {E : Env} (h : G_spec_IsValidVersion E) (a0 : U) : E 105 [a0] =
 U.noTup a0 fun x1 => U.asAgg x1 fun us2 => if 1 = sizes (us2.take 1) then (us2[1]?).bind fun e3 => U.asVar false 1 e3 fun e4 => (E 6 [e4, (.int .i64 (-1)), (.int .i64 99)]).bind fun t5 => (U.un .not t5).bind fun t6 => U.asBool t6
 (some (.bool false))
 (U.asAgg x1 fun us7 => if 2 = sizes (us7.take 2) then (us7[2]?).bind fun e8 => U.asVar false 1 e8 fun e9 => (E 6 [e9, (.int .i64 0), (.int .i64 999)]).bind fun t10 => (U.un .not t10).bind fun t11 => U.asBool t11
 (some (.bool false))
 (U.asAgg x1 fun us12 => if 3 = sizes (us12.take 3) then (us12[3]?).bind fun e13 => U.asVar false 1 e13 fun e14 => U.asAgg x1 fun us15 => if 2 = sizes (us15.take 2) then (us15[2]?).bind fun e16 => U.asVar false 1 e16 fun e17 => (E 6 [e14, e17, (.int .i64 999)]).bind fun t18 => (U.un .not t18).bind fun t19 => U.asBool t19
 (some (.bool false))
 (U.asAgg x1 fun us20 => if 4 = sizes (us20.take 4) then (us20[4]?).bind fun e21 => U.asVar false 1 e21 fun e22 => (E 6 [e22, (.int .i64 1), (.int .i64 1000)]).bind fun t23 => (U.un .not t23).bind fun t24 => U.asBool t24
 (some (.bool false))
 (U.asAgg x1 fun us25 => if 2 = sizes (us25.take 2) then (us25[2]?).bind fun e26 => U.asVar false 1 e26 fun e27 => (U.bin .eql e27 (.int .i64 0)).bind fun t28 => U.asBool t28
 (U.asAgg x1 fun us29 => if 0 = sizes (us29.take 0) then (us29[0]?).bind fun e30 => U.asVar false 1 e30 fun e31 => (U.bin .eql e31 (.int .i64 0)).bind fun t32 => U.asBool t32
 (U.asAgg x1 fun us33 => if 1 = sizes (us33.take 1) then (us33[1]?).bind fun e34 => U.asVar false 1 e34 fun e35 => (U.bin .eql e35 (.int .i64 (-1))).bind fun t36 => some t36 else none)
 (some (.bool false)) else none)
 (U.asAgg x1 fun us37 => if 0 = sizes (us37.take 0) then (us37[0]?).bind fun e38 => U.asVar false 1 e38 fun e39 => (E 6 [e39, (.int .i64 1), (.int .i64 9)]).bind fun t40 => some t40 else none) else none) else none) else none else none) else none) else none := (h.is _ rfl).trans (spec_IsValidVersion_eq E a0)

end Go.Proofs.YtcmkhpjehecloaaGreat.Am
namespace Go.Proofs.YtcmkhpjehecloaaGreat.Am
open Go
set_option linter.unusedVariables false
set_option maxRecDepth 100000

/- loop.example/g01924/spec.IsValidChain -/
def spec_IsValidChain_b0 : AC :=
 (.seq (.seq (.region 0 [⟨some 4, .mv (.t 3), none⟩,
  ⟨some 5, .mv (.t 0), none⟩,
  ⟨some 6, .len false (.t 5), none⟩,
  ⟨some 7, .bin .lss (.t 4) (.t 6), none⟩])
 (.cond (.t 7) .skip (.exit 0)))
 (.seq (.block 1 (.seq (.seq (.region 0 [⟨some 10, .mv (.t 0), none⟩,
  ⟨some 11, .mv (.t 3), none⟩,
  ⟨some 12, .iaddr 5 (.t 10) (.t 11), none⟩,
  ⟨some 13, .load true 5 (.t 12), none⟩,
  ⟨some 14, .call false 105 [(.t 13)], none⟩,
  ⟨some 15, .un .not (.t 14), none⟩])
 (.cond (.t 15) (.seq (.region 0 [⟨some 2, .mv (.c (.bool false)), none⟩])
 .ret) .skip))
 (.seq (.region 33 [⟨some 16, .mv (.t 3), none⟩,
  ⟨some 17, .bin .add (.t 16) (.c (.int .i64 1)), none⟩,
  ⟨some 18, .mv (.t 0), none⟩,
  ⟨some 19, .len false (.t 18), none⟩,
  ⟨some 20, .bin .lss (.t 17) (.t 19), none⟩,
  ⟨some 21, .mv (.t 20), none⟩,
  ⟨some 22, .mv (.t 0), some (21, true)⟩,
  ⟨some 23, .mv (.t 3), some (21, true)⟩,
  ⟨some 24, .iaddr 5 (.t 22) (.t 23), some (21, true)⟩,
  ⟨some 25, .faddr 2 2 (.t 24), some (21, true)⟩,
  ⟨some 26, .load false 1 (.t 25), some (21, true)⟩,
  ⟨some 27, .mv (.t 0), some (21, true)⟩,
  ⟨some 28, .mv (.t 3), some (21, true)⟩,
  ⟨some 29, .bin .add (.t 28) (.c (.int .i64 1)), some (21, true)⟩,
  ⟨some 30, .iaddr 5 (.t 27) (.t 29), some (21, true)⟩,
  ⟨some 31, .faddr 2 2 (.t 30), some (21, true)⟩,
  ⟨some 32, .load false 1 (.t 31), some (21, true)⟩,
  ⟨some 33, .bin .geq (.t 26) (.t 32), some (21, true)⟩,
  ⟨some 34, .mv (.t 33), some (21, true)⟩,
  ⟨some 35, .mv (.t 0), some (34, false)⟩,
  ⟨some 36, .mv (.t 3), some (34, false)⟩,
  ⟨some 37, .iaddr 5 (.t 35) (.t 36), some (34, false)⟩,
  ⟨some 38, .faddr 4 4 (.t 37), some (34, false)⟩,
  ⟨some 39, .load false 1 (.t 38), some (34, false)⟩,
  ⟨some 40, .mv (.t 0), some (34, false)⟩,
  ⟨some 41, .mv (.t 3), some (34, false)⟩,
  ⟨some 42, .bin .add (.t 41) (.c (.int .i64 1)), some (34, false)⟩,
  ⟨some 43, .iaddr 5 (.t 40) (.t 42), some (34, false)⟩,
  ⟨some 44, .faddr 2 2 (.t 43), some (34, false)⟩,
  ⟨some 45, .load false 1 (.t 44), some (34, false)⟩,
  ⟨some 46, .bin .gtr (.t 39) (.t 45), some (34, false)⟩,
  ⟨some 47, .pick (.t 34) (.c (.bool true)) (.t 46), some (21, true)⟩,
  ⟨some 48, .pick (.t 21) (.t 47) (.c (.bool false)), none⟩])
 (.cond (.t 48) (.seq (.region 0 [⟨some 2, .mv (.c (.bool false)), none⟩])
 .ret) .skip))))
 (.region 0 [⟨some 8, .mv (.t 3), none⟩,
  ⟨some 9, .bin .add (.t 8) (.c (.int .i64 1)), none⟩,
  ⟨some 3, .mv (.t 9), none⟩])))
def spec_IsValidChain_r0 : AC :=
 (.seq (.region 0 [⟨some 49, .mv (.t 0), none⟩,
  ⟨some 50, .len false (.t 49), none⟩,
  ⟨some 51, .bin .gtr (.t 50) (.c (.int .i64 0)), none⟩,
  ⟨some 52, .mv (.t 51), none⟩,
  ⟨some 53, .mv (.t 0), some (52, true)⟩,
  ⟨some 54, .mv (.t 0), some (52, true)⟩,
  ⟨some 55, .len false (.t 54), some (52, true)⟩,
  ⟨some 56, .bin .sub (.t 55) (.c (.int .i64 1)), some (52, true)⟩,
  ⟨some 57, .iaddr 5 (.t 53) (.t 56), some (52, true)⟩,
  ⟨some 58, .faddr 4 4 (.t 57), some (52, true)⟩,
  ⟨some 59, .load false 1 (.t 58), some (52, true)⟩,
  ⟨some 60, .bin .eql (.t 59) (.c (.int .i64 1000)), some (52, true)⟩,
  ⟨some 61, .pick (.t 52) (.t 60) (.c (.bool false)), none⟩,
  ⟨some 2, .mv (.t 61), none⟩])
 .ret)
def spec_IsValidChain_ac : AC :=
 (.seq (.region 0 [⟨some 2, .mv (.c (.bool false)), none⟩])
 (.seq (.seq (.region 0 [⟨some 3, .mv (.c (.int .i64 0)), none⟩])
 (.block 0 (.loop ⟨[0, 3], [], []⟩ spec_IsValidChain_b0)))
 spec_IsValidChain_r0))
noncomputable def spec_IsValidChain_l0 (E : Env) (x0 : U) (x3 : U) : Option U := loopK (roundOf E ⟨[0, 3], [], []⟩ spec_IsValidChain_b0 (blockK 0 (seqK (fun s => exec E spec_IsValidChain_r0 s (finish [(2, none)])) (finish [(2, none)])))) ([.val x0, .val x3], [])
theorem spec_IsValidChain_eq (E : Env) (a0 : U) : run E spec_IsValidChain_ac [(2, none)] [a0] =
 spec_IsValidChain_l0 E a0 (.int .i64 0) := by kernel_rfl
theorem spec_IsValidChain_l0_eq (E : Env) (x0 : U) (x3 : U) : spec_IsValidChain_l0 E x0 x3 =
 (U.lenOf false x0).bind fun n1 => (U.bin .lss x3 (.int .i64 (n1 : Int))).bind fun t2 => U.asBool t2
 (U.asInt x3 fun n3 => U.elemAt 5 x0 n3 fun e4 => U.asVar true 5 e4 fun e5 => (E 105 [e5]).bind fun t6 => (U.un .not t6).bind fun t7 => U.asBool t7
 (some (.bool false))
 ((U.bin .add x3 (.int .i64 1)).bind fun t8 => (U.lenOf false x0).bind fun n9 => (U.bin .lss t8 (.int .i64 (n9 : Int))).bind fun t10 => U.asBool t10
 (U.asInt x3 fun n11 => U.elemAt 5 x0 n11 fun e12 => U.fieldAt 2 2 e12 fun f13 => U.asVar false 1 f13 fun e14 => (U.bin .add x3 (.int .i64 1)).bind fun t15 => U.asInt t15 fun n16 => U.elemAt 5 x0 n16 fun e17 => U.fieldAt 2 2 e17 fun f18 => U.asVar false 1 f18 fun e19 => (U.bin .geq e14 e19).bind fun t20 => U.asBool t20
 (some (.bool false))
 (U.asInt x3 fun n21 => U.elemAt 5 x0 n21 fun e22 => U.fieldAt 4 4 e22 fun f23 => U.asVar false 1 f23 fun e24 => (U.bin .add x3 (.int .i64 1)).bind fun t25 => U.asInt t25 fun n26 => U.elemAt 5 x0 n26 fun e27 => U.fieldAt 2 2 e27 fun f28 => U.asVar false 1 f28 fun e29 => (U.bin .gtr e24 e29).bind fun t30 => U.asBool t30
 (some (.bool false))
 ((U.bin .add x3 (.int .i64 1)).bind fun t31 => spec_IsValidChain_l0 E x0 t31)))
 ((U.bin .add x3 (.int .i64 1)).bind fun t32 => spec_IsValidChain_l0 E x0 t32)))
 ((U.lenOf false x0).bind fun n33 => (U.bin .gtr (.int .i64 (n33 : Int)) (.int .i64 0)).bind fun t34 => U.asBool t34
 ((U.lenOf false x0).bind fun n35 => (U.bin .sub (.int .i64 (n35 : Int)) (.int .i64 1)).bind fun t36 => U.asInt t36 fun n37 => U.elemAt 5 x0 n37 fun e38 => U.fieldAt 4 4 e38 fun f39 => U.asVar false 1 f39 fun e40 => (U.bin .eql e40 (.int .i64 1000)).bind fun t41 => some t41)
 (some (.bool false))) :=
 (loop_eq E _ _ _ _).trans (by kernel_rfl)

/-- In the environment E: this function and those that it calls. -/
structure G_spec_IsValidChain (E : Env) : Prop where
  is : Is E 104 1 spec_IsValidChain_ac [(2, none)]
  c_spec_IsValidVersion : G_spec_IsValidVersion E
theorem spec_IsValidChain_E {E : Env} (h : G_spec_IsValidChain E) (a0 : U) : E 104 [a0] =
 spec_IsValidChain_l0 E a0 (.int .i64 0) := (h.is _ rfl).trans (spec_IsValidChain_eq E a0)

end Go.Proofs.YtcmkhpjehecloaaGreat.Am
namespace Go.Proofs.YtcmkhpjehecloaaGreat.Am
open Go
set_option linter.unusedVariables false
set_option maxRecDepth 100000

/- loop.example/g01924/spec.IsValidStore -/
def spec_IsValidStore_b0 : AC :=
 (.seq (.seq (.region 0 [⟨some 4, .mv (.t 3), none⟩,
  ⟨some 5, .faddr 0 0 (.t 1), none⟩,
  ⟨some 6, .load false 1 (.t 5), none⟩,
  ⟨some 7, .len false (.t 6), none⟩,
  ⟨some 8, .bin .lss (.t 4) (.t 7), none⟩])
 (.cond (.t 8) .skip (.exit 0)))
 (.seq (.block 1 (.seq (.region 0 [⟨some 11, .faddr 0 0 (.t 1), none⟩,
  ⟨some 12, .load false 1 (.t 11), none⟩,
  ⟨some 13, .mv (.t 3), none⟩,
  ⟨some 14, .iaddr 1 (.t 12) (.t 13), none⟩,
  ⟨some 15, .load false 1 (.t 14), none⟩,
  ⟨some 16, .call false 104 [(.t 15)], none⟩,
  ⟨some 17, .un .not (.t 16), none⟩,
  ⟨some 18, .mv (.t 17), none⟩,
  ⟨some 19, .faddr 0 0 (.t 1), some (18, false)⟩,
  ⟨some 20, .load false 1 (.t 19), some (18, false)⟩,
  ⟨some 21, .mv (.t 3), some (18, false)⟩,
  ⟨some 22, .iaddr 1 (.t 20) (.t 21), some (18, false)⟩,
  ⟨some 23, .load false 1 (.t 22), some (18, false)⟩,
  ⟨some 24, .iaddr 5 (.t 23) (.c (.int .i64 0)), some (18, false)⟩,
  ⟨some 25, .faddr 2 2 (.t 24), some (18, false)⟩,
  ⟨some 26, .load false 1 (.t 25), some (18, false)⟩,
  ⟨some 27, .bin .gtr (.t 26) (.c (.int .i64 0)), some (18, false)⟩,
  ⟨some 28, .mv (.t 27), some (18, false)⟩,
  ⟨some 29, .faddr 0 0 (.t 1), some (28, true)⟩,
  ⟨some 30, .load false 1 (.t 29), some (28, true)⟩,
  ⟨some 31, .mv (.t 3), some (28, true)⟩,
  ⟨some 32, .iaddr 1 (.t 30) (.t 31), some (28, true)⟩,
  ⟨some 33, .load false 1 (.t 32), some (28, true)⟩,
  ⟨some 34, .len false (.t 33), some (28, true)⟩,
  ⟨some 35, .bin .gtr (.t 34) (.c (.int .i64 50)), some (28, true)⟩,
  ⟨some 36, .pick (.t 28) (.t 35) (.c (.bool false)), some (18, false)⟩,
  ⟨some 37, .pick (.t 18) (.c (.bool true)) (.t 36), none⟩,
  ⟨some 38, .mv (.t 37), none⟩,
  ⟨some 39, .faddr 0 0 (.t 1), some (38, false)⟩,
  ⟨some 40, .load false 1 (.t 39), some (38, false)⟩,
  ⟨some 41, .mv (.t 3), some (38, false)⟩,
  ⟨some 42, .iaddr 1 (.t 40) (.t 41), some (38, false)⟩,
  ⟨some 43, .load false 1 (.t 42), some (38, false)⟩,
  ⟨some 44, .len false (.t 43), some (38, false)⟩,
  ⟨some 45, .bin .gtr (.t 44) (.c (.int .i64 50)), some (38, false)⟩,
  ⟨some 46, .pick (.t 38) (.c (.bool true)) (.t 45), none⟩])
 (.cond (.t 46) (.seq (.region 0 [⟨some 2, .mv (.c (.bool false)), none⟩])
 .ret) .skip)))
 (.region 0 [⟨some 9, .mv (.t 3), none⟩,
  ⟨some 10, .bin .add (.t 9) (.c (.int .i64 1)), none⟩,
  ⟨some 3, .mv (.t 10), none⟩])))
def spec_IsValidStore_r0 : AC :=
 (.seq (.region 0 [⟨some 47, .faddr 0 0 (.t 1), none⟩,
  ⟨some 48, .load false 1 (.t 47), none⟩,
  ⟨some 49, .len false (.t 48), none⟩,
  ⟨some 50, .bin .eql (.t 49) (.c (.int .i64 6)), none⟩,
  ⟨some 2, .mv (.t 50), none⟩])
 .ret)
def spec_IsValidStore_ac : AC :=
 (.seq (.region 0 [⟨some 1, .box false (.t 0), none⟩,
  ⟨some 2, .mv (.c (.bool false)), none⟩])
 (.seq (.seq (.region 0 [⟨some 3, .mv (.c (.int .i64 0)), none⟩])
 (.block 0 (.loop ⟨[1, 3], [], [1]⟩ spec_IsValidStore_b0)))
 spec_IsValidStore_r0))
noncomputable def spec_IsValidStore_l0 (E : Env) (x3 : U) (b1 : U) : Option U := loopK (roundOf E ⟨[1, 3], [], [1]⟩ spec_IsValidStore_b0 (blockK 0 (seqK (fun s => exec E spec_IsValidStore_r0 s (finish [(2, none)])) (finish [(2, none)])))) ([.ptr 1 [], .val x3], [.box (.val b1)])
theorem spec_IsValidStore_eq (E : Env) (a0 : U) : run E spec_IsValidStore_ac [(2, none)] [a0] =
 U.noTup a0 fun x1 => spec_IsValidStore_l0 E (.int .i64 0) x1 := by kernel_rfl
theorem spec_IsValidStore_l0_eq (E : Env) (x3 : U) (b1 : U) : spec_IsValidStore_l0 E x3 b1 =
 U.asAgg b1 fun us2 => if 0 = sizes (us2.take 0) then (us2[0]?).bind fun e3 => U.asVar false 1 e3 fun e4 => (U.lenOf false e4).bind fun n5 => (U.bin .lss x3 (.int .i64 (n5 : Int))).bind fun t6 => U.asBool t6
 (U.asAgg b1 fun us7 => if 0 = sizes (us7.take 0) then (us7[0]?).bind fun e8 => U.asVar false 1 e8 fun e9 => U.asInt x3 fun n10 => U.elemAt 1 e9 n10 fun e11 => U.asVar false 1 e11 fun e12 => (E 104 [e12]).bind fun t13 => (U.un .not t13).bind fun t14 => U.asBool t14
 (some (.bool false))
 (U.asAgg b1 fun us15 => if 0 = sizes (us15.take 0) then (us15[0]?).bind fun e16 => U.asVar false 1 e16 fun e17 => U.asInt x3 fun n18 => U.elemAt 1 e17 n18 fun e19 => U.asVar false 1 e19 fun e20 => U.elemAt 5 e20 0 fun e21 => U.fieldAt 2 2 e21 fun f22 => U.asVar false 1 f22 fun e23 => (U.bin .gtr e23 (.int .i64 0)).bind fun t24 => U.asBool t24
 (U.asAgg b1 fun us25 => if 0 = sizes (us25.take 0) then (us25[0]?).bind fun e26 => U.asVar false 1 e26 fun e27 => U.asInt x3 fun n28 => U.elemAt 1 e27 n28 fun e29 => U.asVar false 1 e29 fun e30 => (U.lenOf false e30).bind fun n31 => (U.bin .gtr (.int .i64 (n31 : Int)) (.int .i64 50)).bind fun t32 => U.asBool t32
 (some (.bool false))
 (U.asAgg b1 fun us33 => if 0 = sizes (us33.take 0) then (us33[0]?).bind fun e34 => U.asVar false 1 e34 fun e35 => U.asInt x3 fun n36 => U.elemAt 1 e35 n36 fun e37 => U.asVar false 1 e37 fun e38 => (U.lenOf false e38).bind fun n39 => (U.bin .gtr (.int .i64 (n39 : Int)) (.int .i64 50)).bind fun t40 => U.asBool t40
 (some (.bool false))
 ((U.bin .add x3 (.int .i64 1)).bind fun t41 => spec_IsValidStore_l0 E t41 b1) else none) else none)
 (U.asAgg b1 fun us42 => if 0 = sizes (us42.take 0) then (us42[0]?).bind fun e43 => U.asVar false 1 e43 fun e44 => U.asInt x3 fun n45 => U.elemAt 1 e44 n45 fun e46 => U.asVar false 1 e46 fun e47 => (U.lenOf false e47).bind fun n48 => (U.bin .gtr (.int .i64 (n48 : Int)) (.int .i64 50)).bind fun t49 => U.asBool t49
 (some (.bool false))
 ((U.bin .add x3 (.int .i64 1)).bind fun t50 => spec_IsValidStore_l0 E t50 b1) else none) else none) else none)
 (U.asAgg b1 fun us51 => if 0 = sizes (us51.take 0) then (us51[0]?).bind fun e52 => U.asVar false 1 e52 fun e53 => (U.lenOf false e53).bind fun n54 => (U.bin .eql (.int .i64 (n54 : Int)) (.int .i64 6)).bind fun t55 => some t55 else none) else none :=
 (loop_eq E _ _ _ _).trans (by kernel_rfl)

/-- In the environment E: this function and those that it calls. -/
structure G_spec_IsValidStore (E : Env) : Prop where
  is : Is E 103 1 spec_IsValidStore_ac [(2, none)]
  c_spec_IsValidChain : G_spec_IsValidChain E
theorem spec_IsValidStore_E {E : Env} (h : G_spec_IsValidStore E) (a0 : U) : E 103 [a0] =
 U.noTup a0 fun x1 => spec_IsValidStore_l0 E (.int .i64 0) x1 := (h.is _ rfl).trans (spec_IsValidStore_eq E a0)

end Go.Proofs.YtcmkhpjehecloaaGreat.Am
namespace Go.Proofs.YtcmkhpjehecloaaGreat.Am
open Go
set_option linter.unusedVariables false
set_option maxRecDepth 100000

/- loop.example/g01924/spec.AreLocks -/
def spec_AreLocks_b0 : AC :=
 (.seq (.seq (.region 0 [⟨some 4, .mv (.t 3), none⟩,
  ⟨some 5, .mv (.t 0), none⟩,
  ⟨some 6, .len false (.t 5), none⟩,
  ⟨some 7, .bin .lss (.t 4) (.t 6), none⟩])
 (.cond (.t 7) .skip (.exit 0)))
 (.seq (.block 1 (.seq (.region 34 [⟨some 10, .mv (.t 0), none⟩,
  ⟨some 11, .mv (.t 3), none⟩,
  ⟨some 12, .iaddr 2 (.t 10) (.t 11), none⟩,
  ⟨some 13, .faddr 0 0 (.t 12), none⟩,
  ⟨some 14, .load false 1 (.t 13), none⟩,
  ⟨some 15, .call false 6 [(.t 14), (.c (.int .i64 0)), (.c (.int .i64 5))], none⟩,
  ⟨some 16, .un .not (.t 15), none⟩,
  ⟨some 17, .mv (.t 16), none⟩,
  ⟨some 18, .mv (.t 0), some (17, false)⟩,
  ⟨some 19, .mv (.t 3), some (17, false)⟩,
  ⟨some 20, .iaddr 2 (.t 18) (.t 19), some (17, false)⟩,
  ⟨some 21, .faddr 1 1 (.t 20), some (17, false)⟩,
  ⟨some 22, .load false 1 (.t 21), some (17, false)⟩,
  ⟨some 23, .call false 6 [(.t 22), (.c (.int .i64 1)), (.c (.int .i64 9))], some (17, false)⟩,
  ⟨some 24, .un .not (.t 23), some (17, false)⟩,
  ⟨some 25, .pick (.t 17) (.c (.bool true)) (.t 24), none⟩,
  ⟨some 26, .mv (.t 25), none⟩,
  ⟨some 27, .mv (.t 3), some (26, false)⟩,
  ⟨some 28, .bin .gtr (.t 27) (.c (.int .i64 0)), some (26, false)⟩,
  ⟨some 29, .mv (.t 28), some (26, false)⟩,
  ⟨some 30, .mv (.t 0), some (29, true)⟩,
  ⟨some 31, .mv (.t 3), some (29, true)⟩,
  ⟨some 32, .bin .sub (.t 31) (.c (.int .i64 1)), some (29, true)⟩,
  ⟨some 33, .iaddr 2 (.t 30) (.t 32), some (29, true)⟩,
  ⟨some 34, .faddr 0 0 (.t 33), some (29, true)⟩,
  ⟨some 35, .load false 1 (.t 34), some (29, true)⟩,
  ⟨some 36, .mv (.t 0), some (29, true)⟩,
  ⟨some 37, .mv (.t 3), some (29, true)⟩,
  ⟨some 38, .iaddr 2 (.t 36) (.t 37), some (29, true)⟩,
  ⟨some 39, .faddr 0 0 (.t 38), some (29, true)⟩,
  ⟨some 40, .load false 1 (.t 39), some (29, true)⟩,
  ⟨some 41, .bin .geq (.t 35) (.t 40), some (29, true)⟩,
  ⟨some 42, .pick (.t 29) (.t 41) (.c (.bool false)), some (26, false)⟩,
  ⟨some 43, .pick (.t 26) (.c (.bool true)) (.t 42), none⟩])
 (.cond (.t 43) (.seq (.region 0 [⟨some 2, .mv (.c (.bool false)), none⟩])
 .ret) .skip)))
 (.region 0 [⟨some 8, .mv (.t 3), none⟩,
  ⟨some 9, .bin .add (.t 8) (.c (.int .i64 1)), none⟩,
  ⟨some 3, .mv (.t 9), none⟩])))
def spec_AreLocks_r0 : AC :=
 (.seq (.region 0 [⟨some 2, .mv (.c (.bool true)), none⟩])
 .ret)
def spec_AreLocks_ac : AC :=
 (.seq (.region 0 [⟨some 2, .mv (.c (.bool false)), none⟩])
 (.seq (.seq (.region 0 [⟨some 3, .mv (.c (.int .i64 0)), none⟩])
 (.block 0 (.loop ⟨[0, 3], [], []⟩ spec_AreLocks_b0)))
 spec_AreLocks_r0))
noncomputable def spec_AreLocks_l0 (E : Env) (x0 : U) (x3 : U) : Option U := loopK (roundOf E ⟨[0, 3], [], []⟩ spec_AreLocks_b0 (blockK 0 (seqK (fun s => exec E spec_AreLocks_r0 s (finish [(2, none)])) (finish [(2, none)])))) ([.val x0, .val x3], [])
theorem spec_AreLocks_eq (E : Env) (a0 : U) : run E spec_AreLocks_ac [(2, none)] [a0] =
 spec_AreLocks_l0 E a0 (.int .i64 0) := by kernel_rfl
theorem spec_AreLocks_l0_eq (E : Env) (x0 : U) (x3 : U) : spec_AreLocks_l0 E x0 x3 =
 (U.lenOf false x0).bind fun n1 => (U.bin .lss x3 (.int .i64 (n1 : Int))).bind fun t2 => U.asBool t2
 (U.asInt x3 fun n3 => U.elemAt 2 x0 n3 fun e4 => U.fieldAt 0 0 e4 fun f5 => U.asVar false 1 f5 fun e6 => (E 6 [e6, (.int .i64 0), (.int .i64 5)]).bind fun t7 => (U.un .not t7).bind fun t8 => U.asBool t8
 (some (.bool false))
 (U.asInt x3 fun n9 => U.elemAt 2 x0 n9 fun e10 => U.fieldAt 1 1 e10 fun f11 => U.asVar false 1 f11 fun e12 => (E 6 [e12, (.int .i64 1), (.int .i64 9)]).bind fun t13 => (U.un .not t13).bind fun t14 => U.asBool t14
 (some (.bool false))
 ((U.bin .gtr x3 (.int .i64 0)).bind fun t15 => U.asBool t15
 ((U.bin .sub x3 (.int .i64 1)).bind fun t16 => U.asInt t16 fun n17 => U.elemAt 2 x0 n17 fun e18 => U.fieldAt 0 0 e18 fun f19 => U.asVar false 1 f19 fun e20 => U.asInt x3 fun n21 => U.elemAt 2 x0 n21 fun e22 => U.fieldAt 0 0 e22 fun f23 => U.asVar false 1 f23 fun e24 => (U.bin .geq e20 e24).bind fun t25 => U.asBool t25
 (some (.bool false))
 ((U.bin .add x3 (.int .i64 1)).bind fun t26 => spec_AreLocks_l0 E x0 t26))
 ((U.bin .add x3 (.int .i64 1)).bind fun t27 => spec_AreLocks_l0 E x0 t27))))
 (some (.bool true)) :=
 (loop_eq E _ _ _ _).trans (by kernel_rfl)

/-- In the environment E: this function and those that it calls. -/
structure G_spec_AreLocks (E : Env) : Prop where
  is : Is E 137 1 spec_AreLocks_ac [(2, none)]
  c_spec_l1In : G_spec_l1In E
theorem spec_AreLocks_E {E : Env} (h : G_spec_AreLocks E) (a0 : U) : E 137 [a0] =
 spec_AreLocks_l0 E a0 (.int .i64 0) := (h.is _ rfl).trans (spec_AreLocks_eq E a0)

end Go.Proofs.YtcmkhpjehecloaaGreat.Am
namespace Go.Proofs.YtcmkhpjehecloaaGreat.Am
open Go
set_option linter.unusedVariables false
set_option maxRecDepth 100000

/- loop.example/g01924/spec.AreWaits -/
def spec_AreWaits_b0 : AC :=
 (.seq (.seq (.region 0 [⟨some 4, .mv (.t 3), none⟩,
  ⟨some 5, .mv (.t 0), none⟩,
  ⟨some 6, .len false (.t 5), none⟩,
  ⟨some 7, .bin .lss (.t 4) (.t 6), none⟩])
 (.cond (.t 7) .skip (.exit 0)))
 (.seq (.block 1 (.seq (.region 47 [⟨some 10, .mv (.t 0), none⟩,
  ⟨some 11, .mv (.t 3), none⟩,
  ⟨some 12, .iaddr 2 (.t 10) (.t 11), none⟩,
  ⟨some 13, .faddr 0 0 (.t 12), none⟩,
  ⟨some 14, .load false 1 (.t 13), none⟩,
  ⟨some 15, .call false 6 [(.t 14), (.c (.int .i64 1)), (.c (.int .i64 9))], none⟩,
  ⟨some 16, .un .not (.t 15), none⟩,
  ⟨some 17, .mv (.t 16), none⟩,
  ⟨some 18, .mv (.t 0), some (17, false)⟩,
  ⟨some 19, .mv (.t 3), some (17, false)⟩,
  ⟨some 20, .iaddr 2 (.t 18) (.t 19), some (17, false)⟩,
  ⟨some 21, .faddr 1 1 (.t 20), some (17, false)⟩,
  ⟨some 22, .load false 1 (.t 21), some (17, false)⟩,
  ⟨some 23, .call false 6 [(.t 22), (.c (.int .i64 1)), (.c (.int .i64 9))], some (17, false)⟩,
  ⟨some 24, .un .not (.t 23), some (17, false)⟩,
  ⟨some 25, .pick (.t 17) (.c (.bool true)) (.t 24), none⟩,
  ⟨some 26, .mv (.t 25), none⟩,
  ⟨some 27, .mv (.t 0), some (26, false)⟩,
  ⟨some 28, .mv (.t 3), some (26, false)⟩,
  ⟨some 29, .iaddr 2 (.t 27) (.t 28), some (26, false)⟩,
  ⟨some 30, .faddr 0 0 (.t 29), some (26, false)⟩,
  ⟨some 31, .load false 1 (.t 30), some (26, false)⟩,
  ⟨some 32, .mv (.t 0), some (26, false)⟩,
  ⟨some 33, .mv (.t 3), some (26, false)⟩,
  ⟨some 34, .iaddr 2 (.t 32) (.t 33), some (26, false)⟩,
  ⟨some 35, .faddr 1 1 (.t 34), some (26, false)⟩,
  ⟨some 36, .load false 1 (.t 35), some (26, false)⟩,
  ⟨some 37, .bin .eql (.t 31) (.t 36), some (26, false)⟩,
  ⟨some 38, .pick (.t 26) (.c (.bool true)) (.t 37), none⟩,
  ⟨some 39, .mv (.t 38), none⟩,
  ⟨some 40, .mv (.t 3), some (39, false)⟩,
  ⟨some 41, .bin .gtr (.t 40) (.c (.int .i64 0)), some (39, false)⟩,
  ⟨some 42, .mv (.t 41), some (39, false)⟩,
  ⟨some 43, .mv (.t 0), some (42, true)⟩,
  ⟨some 44, .mv (.t 3), some (42, true)⟩,
  ⟨some 45, .bin .sub (.t 44) (.c (.int .i64 1)), some (42, true)⟩,
  ⟨some 46, .iaddr 2 (.t 43) (.t 45), some (42, true)⟩,
  ⟨some 47, .faddr 0 0 (.t 46), some (42, true)⟩,
  ⟨some 48, .load false 1 (.t 47), some (42, true)⟩,
  ⟨some 49, .mv (.t 0), some (42, true)⟩,
  ⟨some 50, .mv (.t 3), some (42, true)⟩,
  ⟨some 51, .iaddr 2 (.t 49) (.t 50), some (42, true)⟩,
  ⟨some 52, .faddr 0 0 (.t 51), some (42, true)⟩,
  ⟨some 53, .load false 1 (.t 52), some (42, true)⟩,
  ⟨some 54, .bin .geq (.t 48) (.t 53), some (42, true)⟩,
  ⟨some 55, .pick (.t 42) (.t 54) (.c (.bool false)), some (39, false)⟩,
  ⟨some 56, .pick (.t 39) (.c (.bool true)) (.t 55), none⟩])
 (.cond (.t 56) (.seq (.region 0 [⟨some 2, .mv (.c (.bool false)), none⟩])
 .ret) .skip)))
 (.region 0 [⟨some 8, .mv (.t 3), none⟩,
  ⟨some 9, .bin .add (.t 8) (.c (.int .i64 1)), none⟩,
  ⟨some 3, .mv (.t 9), none⟩])))
def spec_AreWaits_r0 : AC :=
 (.seq (.region 0 [⟨some 2, .mv (.c (.bool true)), none⟩])
 .ret)
def spec_AreWaits_ac : AC :=
 (.seq (.region 0 [⟨some 2, .mv (.c (.bool false)), none⟩])
 (.seq (.seq (.region 0 [⟨some 3, .mv (.c (.int .i64 0)), none⟩])
 (.block 0 (.loop ⟨[0, 3], [], []⟩ spec_AreWaits_b0)))
 spec_AreWaits_r0))
noncomputable def spec_AreWaits_l0 (E : Env) (x0 : U) (x3 : U) : Option U := loopK (roundOf E ⟨[0, 3], [], []⟩ spec_AreWaits_b0 (blockK 0 (seqK (fun s => exec E spec_AreWaits_r0 s (finish [(2, none)])) (finish [(2, none)])))) ([.val x0, .val x3], [])
theorem spec_AreWaits_eq (E : Env) (a0 : U) : run E spec_AreWaits_ac [(2, none)] [a0] =
 spec_AreWaits_l0 E a0 (.int .i64 0) := by kernel_rfl
theorem spec_AreWaits_l0_eq (E : Env) (x0 : U) (x3 : U) : spec_AreWaits_l0 E x0 x3 =
 (U.lenOf false x0).bind fun n1 => (U.bin .lss x3 (.int .i64 (n1 : Int))).bind fun t2 => U.asBool t2
 (U.asInt x3 fun n3 => U.elemAt 2 x0 n3 fun e4 => U.fieldAt 0 0 e4 fun f5 => U.asVar false 1 f5 fun e6 => (E 6 [e6, (.int .i64 1), (.int .i64 9)]).bind fun t7 => (U.un .not t7).bind fun t8 => U.asBool t8
 (some (.bool false))
 (U.asInt x3 fun n9 => U.elemAt 2 x0 n9 fun e10 => U.fieldAt 1 1 e10 fun f11 => U.asVar false 1 f11 fun e12 => (E 6 [e12, (.int .i64 1), (.int .i64 9)]).bind fun t13 => (U.un .not t13).bind fun t14 => U.asBool t14
 (some (.bool false))
 (U.asInt x3 fun n15 => U.elemAt 2 x0 n15 fun e16 => U.fieldAt 0 0 e16 fun f17 => U.asVar false 1 f17 fun e18 => U.asInt x3 fun n19 => U.elemAt 2 x0 n19 fun e20 => U.fieldAt 1 1 e20 fun f21 => U.asVar false 1 f21 fun e22 => (U.bin .eql e18 e22).bind fun t23 => U.asBool t23
 (some (.bool false))
 ((U.bin .gtr x3 (.int .i64 0)).bind fun t24 => U.asBool t24
 ((U.bin .sub x3 (.int .i64 1)).bind fun t25 => U.asInt t25 fun n26 => U.elemAt 2 x0 n26 fun e27 => U.fieldAt 0 0 e27 fun f28 => U.asVar false 1 f28 fun e29 => U.asInt x3 fun n30 => U.elemAt 2 x0 n30 fun e31 => U.fieldAt 0 0 e31 fun f32 => U.asVar false 1 f32 fun e33 => (U.bin .geq e29 e33).bind fun t34 => U.asBool t34
 (some (.bool false))
 ((U.bin .add x3 (.int .i64 1)).bind fun t35 => spec_AreWaits_l0 E x0 t35))
 ((U.bin .add x3 (.int .i64 1)).bind fun t36 => spec_AreWaits_l0 E x0 t36)))))
 (some (.bool true)) :=
 (loop_eq E _ _ _ _).trans (by kernel_rfl)

/-- In the environment E: this function and those that it calls. -/
structure G_spec_AreWaits (E : Env) : Prop where
  is : Is E 138 1 spec_AreWaits_ac [(2, none)]
  c_spec_l1In : G_spec_l1In E
theorem spec_AreWaits_E {E : Env} (h : G_spec_AreWaits E) (a0 : U) : E 138 [a0] =
 spec_AreWaits_l0 E a0 (.int .i64 0) := (h.is _ rfl).trans (spec_AreWaits_eq E a0)

end Go.Proofs.YtcmkhpjehecloaaGreat.Am
namespace Go.Proofs.YtcmkhpjehecloaaGreat.Am
open Go
set_option linter.unusedVariables false
set_option maxRecDepth 100000

/- loop.example/g01924/spec.LastStamp -/
def spec_LastStamp_b1 : AC :=
 (.seq (.seq (.region 0 [⟨some 17, .mv (.t 5), none⟩,
  ⟨some 18, .faddr 0 0 (.t 1), none⟩,
  ⟨some 19, .load false 1 (.t 18), none⟩,
  ⟨some 20, .mv (.t 4), none⟩,
  ⟨some 21, .iaddr 1 (.t 19) (.t 20), none⟩,
  ⟨some 22, .load false 1 (.t 21), none⟩,
  ⟨some 23, .len false (.t 22), none⟩,
  ⟨some 24, .bin .lss (.t 17) (.t 23), none⟩])
 (.cond (.t 24) .skip (.exit 2)))
 (.seq (.block 3 (.region 21 [⟨some 27, .mv (.t 3), none⟩,
  ⟨some 28, .faddr 0 0 (.t 1), none⟩,
  ⟨some 29, .load false 1 (.t 28), none⟩,
  ⟨some 30, .mv (.t 4), none⟩,
  ⟨some 31, .iaddr 1 (.t 29) (.t 30), none⟩,
  ⟨some 32, .load false 1 (.t 31), none⟩,
  ⟨some 33, .mv (.t 5), none⟩,
  ⟨some 34, .iaddr 5 (.t 32) (.t 33), none⟩,
  ⟨some 35, .faddr 2 2 (.t 34), none⟩,
  ⟨some 36, .load false 1 (.t 35), none⟩,
  ⟨some 37, .faddr 0 0 (.t 1), none⟩,
  ⟨some 38, .load false 1 (.t 37), none⟩,
  ⟨some 39, .mv (.t 4), none⟩,
  ⟨some 40, .iaddr 1 (.t 38) (.t 39), none⟩,
  ⟨some 41, .load false 1 (.t 40), none⟩,
  ⟨some 42, .mv (.t 5), none⟩,
  ⟨some 43, .iaddr 5 (.t 41) (.t 42), none⟩,
  ⟨some 44, .faddr 3 3 (.t 43), none⟩,
  ⟨some 45, .load false 1 (.t 44), none⟩,
  ⟨some 46, .minmax true [(.t 27), (.t 36), (.t 45)], none⟩,
  ⟨some 3, .mv (.t 46), none⟩]))
 (.region 0 [⟨some 25, .mv (.t 5), none⟩,
  ⟨some 26, .bin .add (.t 25) (.c (.int .i64 1)), none⟩,
  ⟨some 5, .mv (.t 26), none⟩])))
def spec_LastStamp_r0 : AC :=
 (.region 0 [⟨some 15, .mv (.t 4), none⟩,
  ⟨some 16, .bin .add (.t 15) (.c (.int .i64 1)), none⟩,
  ⟨some 4, .mv (.t 16), none⟩])
def spec_LastStamp_b0 : AC :=
 (.seq (.seq (.region 0 [⟨some 6, .mv (.t 4), none⟩,
  ⟨some 7, .faddr 0 0 (.t 1), none⟩,
  ⟨some 8, .load false 1 (.t 7), none⟩,
  ⟨some 9, .len false (.t 8), none⟩,
  ⟨some 10, .bin .lss (.t 6) (.t 9), none⟩,
  ⟨some 11, .mv (.t 10), none⟩,
  ⟨some 12, .load true 1 (.t 1), some (11, true)⟩,
  ⟨some 13, .call false 103 [(.t 12)], some (11, true)⟩,
  ⟨some 14, .pick (.t 11) (.t 13) (.c (.bool false)), none⟩])
 (.cond (.t 14) .skip (.exit 0)))
 (.seq (.block 1 (.seq (.region 0 [⟨some 5, .mv (.c (.int .i64 0)), none⟩])
 (.block 2 (.loop ⟨[1, 3, 4, 5], [], [1]⟩ spec_LastStamp_b1))))
 spec_LastStamp_r0))
def spec_LastStamp_r1 : AC :=
 (.seq (.region 0 [⟨some 47, .mv (.t 3), none⟩,
  ⟨some 2, .mv (.t 47), none⟩])
 .ret)
def spec_LastStamp_ac : AC :=
 (.seq (.region 0 [⟨some 1, .box false (.t 0), none⟩,
  ⟨some 2, .mv (.c (.int .i64 0)), none⟩])
 (.seq (.region 0 [⟨some 3, .mv (.c (.int .i64 0)), none⟩])
 (.seq (.seq (.region 0 [⟨some 4, .mv (.c (.int .i64 0)), none⟩])
 (.block 0 (.loop ⟨[1, 3, 4], [], [1]⟩ spec_LastStamp_b0)))
 spec_LastStamp_r1)))
noncomputable def spec_LastStamp_l0 (E : Env) (x3 : U) (x4 : U) (b1 : U) : Option U := loopK (roundOf E ⟨[1, 3, 4], [], [1]⟩ spec_LastStamp_b0 (blockK 0 (seqK (fun s => exec E spec_LastStamp_r1 s (finish [(2, none)])) (finish [(2, none)])))) ([.ptr 1 [], .val x3, .val x4], [.box (.val b1)])
noncomputable def spec_LastStamp_l1 (E : Env) (x3 : U) (x4 : U) (x5 : U) (b1 : U) : Option U := loopK (roundOf E ⟨[1, 3, 4, 5], [], [1]⟩ spec_LastStamp_b1 (blockK 2 (blockK 1 (seqK (fun s => exec E spec_LastStamp_r0 s (roundK ⟨[1, 3, 4], [], [1]⟩ (loopK (roundOf E ⟨[1, 3, 4], [], [1]⟩ spec_LastStamp_b0 (blockK 0 (seqK (fun s => exec E spec_LastStamp_r1 s (finish [(2, none)])) (finish [(2, none)]))))) (blockK 0 (seqK (fun s => exec E spec_LastStamp_r1 s (finish [(2, none)])) (finish [(2, none)]))))) (roundK ⟨[1, 3, 4], [], [1]⟩ (loopK (roundOf E ⟨[1, 3, 4], [], [1]⟩ spec_LastStamp_b0 (blockK 0 (seqK (fun s => exec E spec_LastStamp_r1 s (finish [(2, none)])) (finish [(2, none)]))))) (blockK 0 (seqK (fun s => exec E spec_LastStamp_r1 s (finish [(2, none)])) (finish [(2, none)])))))))) ([.ptr 1 [], .val x3, .val x4, .val x5], [.box (.val b1)])
theorem spec_LastStamp_eq (E : Env) (a0 : U) : run E spec_LastStamp_ac [(2, none)] [a0] =
 U.noTup a0 fun x1 => spec_LastStamp_l0 E (.int .i64 0) (.int .i64 0) x1 := by kernel_rfl
theorem spec_LastStamp_l0_eq (E : Env) (x3 : U) (x4 : U) (b1 : U) : spec_LastStamp_l0 E x3 x4 b1 =
 U.asAgg b1 fun us2 => if 0 = sizes (us2.take 0) then (us2[0]?).bind fun e3 => U.asVar false 1 e3 fun e4 => (U.lenOf false e4).bind fun n5 => (U.bin .lss x4 (.int .i64 (n5 : Int))).bind fun t6 => U.asBool t6
 (U.asVar true 1 b1 fun e7 => (E 103 [e7]).bind fun t8 => U.asBool t8
 (spec_LastStamp_l1 E x3 x4 (.int .i64 0) b1)
 (some x3))
 (some x3) else none :=
 (loop_eq E _ _ _ _).trans (by kernel_rfl)
theorem spec_LastStamp_l1_eq (E : Env) (x3 : U) (x4 : U) (x5 : U) (b1 : U) : spec_LastStamp_l1 E x3 x4 x5 b1 =
 U.asAgg b1 fun us9 => if 0 = sizes (us9.take 0) then (us9[0]?).bind fun e10 => U.asVar false 1 e10 fun e11 => U.asInt x4 fun n12 => U.elemAt 1 e11 n12 fun e13 => U.asVar false 1 e13 fun e14 => (U.lenOf false e14).bind fun n15 => (U.bin .lss x5 (.int .i64 (n15 : Int))).bind fun t16 => U.asBool t16
 (U.asAgg b1 fun us17 => if 0 = sizes (us17.take 0) then (us17[0]?).bind fun e18 => U.asVar false 1 e18 fun e19 => U.asInt x4 fun n20 => U.elemAt 1 e19 n20 fun e21 => U.asVar false 1 e21 fun e22 => U.asInt x5 fun n23 => U.elemAt 5 e22 n23 fun e24 => U.fieldAt 2 2 e24 fun f25 => U.asVar false 1 f25 fun e26 => U.asAgg b1 fun us27 => if 0 = sizes (us27.take 0) then (us27[0]?).bind fun e28 => U.asVar false 1 e28 fun e29 => U.asInt x4 fun n30 => U.elemAt 1 e29 n30 fun e31 => U.asVar false 1 e31 fun e32 => U.asInt x5 fun n33 => U.elemAt 5 e32 n33 fun e34 => U.fieldAt 3 3 e34 fun f35 => U.asVar false 1 f35 fun e36 => U.asInt x3 fun n37 => U.asInt e26 fun n38 => U.asInt e36 fun n39 => (U.bin .add x5 (.int .i64 1)).bind fun t40 => spec_LastStamp_l1 E (.int .i64 (([n38, n39] : List Int).foldl (fun a b => if true then (if a < b then b else a) else (if b < a then b else a)) n37)) x4 t40 b1 else none else none)
 ((U.bin .add x4 (.int .i64 1)).bind fun t41 => spec_LastStamp_l0 E x3 t41 b1) else none :=
 (loop_eq E _ _ _ _).trans (by kernel_rfl)

/-- In the environment E: this function and those that it calls. -/
structure G_spec_LastStamp (E : Env) : Prop where
  is : Is E 139 1 spec_LastStamp_ac [(2, none)]
  c_spec_IsValidStore : G_spec_IsValidStore E
theorem spec_LastStamp_E {E : Env} (h : G_spec_LastStamp E) (a0 : U) : E 139 [a0] =
 U.noTup a0 fun x1 => spec_LastStamp_l0 E (.int .i64 0) (.int .i64 0) x1 := (h.is _ rfl).trans (spec_LastStamp_eq E a0)

end Go.Proofs.YtcmkhpjehecloaaGreat.Am
namespace Go.Proofs.YtcmkhpjehecloaaGreat.Am
open Go
set_option linter.unusedVariables false
set_option maxRecDepth 100000

/- loop.example/g01924/spec.l5Before -/
def spec_l5Before_ac : AC :=
 (.seq (.region 0 [⟨some 2, .box false (.t 0), none⟩,
  ⟨some 3, .box false (.t 1), none⟩,
  ⟨some 4, .mv (.c (.bool false)), none⟩])
 (.seq (.region 0 [⟨some 5, .faddr 0 0 (.t 2), none⟩,
  ⟨some 6, .load false 1 (.t 5), none⟩,
  ⟨some 7, .faddr 0 0 (.t 3), none⟩,
  ⟨some 8, .load false 1 (.t 7), none⟩,
  ⟨some 9, .bin .lss (.t 6) (.t 8), none⟩,
  ⟨some 10, .mv (.t 9), none⟩,
  ⟨some 11, .faddr 0 0 (.t 2), some (10, false)⟩,
  ⟨some 12, .load false 1 (.t 11), some (10, false)⟩,
  ⟨some 13, .faddr 0 0 (.t 3), some (10, false)⟩,
  ⟨some 14, .load false 1 (.t 13), some (10, false)⟩,
  ⟨some 15, .bin .eql (.t 12) (.t 14), some (10, false)⟩,
  ⟨some 16, .mv (.t 15), some (10, false)⟩,
  ⟨some 17, .faddr 1 1 (.t 2), some (16, true)⟩,
  ⟨some 18, .load false 1 (.t 17), some (16, true)⟩,
  ⟨some 19, .faddr 1 1 (.t 3), some (16, true)⟩,
  ⟨some 20, .load false 1 (.t 19), some (16, true)⟩,
  ⟨some 21, .bin .lss (.t 18) (.t 20), some (16, true)⟩,
  ⟨some 22, .pick (.t 16) (.t 21) (.c (.bool false)), some (10, false)⟩,
  ⟨some 23, .pick (.t 10) (.c (.bool true)) (.t 22), none⟩,
  ⟨some 4, .mv (.t 23), none⟩])
 .ret))

theorem spec_l5Before_eq (E : Env) (a0 : U) (a1 : U) : run E spec_l5Before_ac [(4, none)] [a0, a1] =
 U.noTup a0 fun x1 => U.noTup a1 fun x2 => U.asAgg x1 fun us3 => if 0 = sizes (us3.take 0) then (us3[0]?).bind fun e4 => U.asVar false 1 e4 fun e5 => U.asAgg x2 fun us6 => if 0 = sizes (us6.take 0) then (us6[0]?).bind fun e7 => U.asVar false 1 e7 fun e8 => (U.bin .lss e5 e8).bind fun t9 => U.asBool t9
 (some (.bool true))
 (U.asAgg x1 fun us10 => if 0 = sizes (us10.take 0) then (us10[0]?).bind fun e11 => U.asVar false 1 e11 fun e12 => U.asAgg x2 fun us13 => if 0 = sizes (us13.take 0) then (us13[0]?).bind fun e14 => U.asVar false 1 e14 fun e15 => (U.bin .eql e12 e15).bind fun t16 => U.asBool t16
 (U.asAgg x1 fun us17 => if 1 = sizes (us17.take 1) then (us17[1]?).bind fun e18 => U.asVar false 1 e18 fun e19 => U.asAgg x2 fun us20 => if 1 = sizes (us20.take 1) then (us20[1]?).bind fun e21 => U.asVar false 1 e21 fun e22 => (U.bin .lss e19 e22).bind fun t23 => some t23 else none else none)
 (some (.bool false)) else none else none) else none else none := by kernel_rfl

/-- In the environment E: this function and those that it calls. -/
structure G_spec_l5Before (E : Env) : Prop where
  is : Is E 71 2 spec_l5Before_ac [(4, none)]
theorem spec_l5Before_E {E : Env} (h : G_spec_l5Before E) (a0 a1 : U) : E 71 [a0, a1] =
 U.noTup a0 fun x1 => U.noTup a1 fun x2 => U.asAgg x1 fun us3 => if 0 = sizes (us3.take 0) then (us3[0]?).bind fun e4 => U.asVar false 1 e4 fun e5 => U.asAgg x2 fun us6 => if 0 = sizes (us6.take 0) then (us6[0]?).bind fun e7 => U.asVar false 1 e7 fun e8 => (U.bin .lss e5 e8).bind fun t9 => U.asBool t9
 (some (.bool true))
 (U.asAgg x1 fun us10 => if 0 = sizes (us10.take 0) then (us10[0]?).bind fun e11 => U.asVar false 1 e11 fun e12 => U.asAgg x2 fun us13 => if 0 = sizes (us13.take 0) then (us13[0]?).bind fun e14 => U.asVar false 1 e14 fun e15 => (U.bin .eql e12 e15).bind fun t16 => U.asBool t16
 (U.asAgg x1 fun us17 => if 1 = sizes (us17.take 1) then (us17[1]?).bind fun e18 => U.asVar false 1 e18 fun e19 => U.asAgg x2 fun us20 => if 1 = sizes (us20.take 1) then (us20[1]?).bind fun e21 => U.asVar false 1 e21 fun e22 => (U.bin .lss e19 e22).bind fun t23 => some t23 else none else none)
 (some (.bool false)) else none else none) else none else none := (h.is _ rfl).trans (spec_l5Before_eq E a0 a1)

end Go.Proofs.YtcmkhpjehecloaaGreat.Am
